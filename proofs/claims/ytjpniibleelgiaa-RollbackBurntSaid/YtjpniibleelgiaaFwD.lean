/- One lemma an operation: the operations that read or make memory. Program-independent. -/
import Derived.Test.YtjpniibleelgiaaFwC
set_option linter.unusedSimpArgs false
set_option linter.unusedVariables false
namespace Go.Fw
open Go.RowKit

def notAgg : TypeDesc → Bool
  | .struct _ | .array .. => false
  | _ => true
def sizeT (P : Program) (t : TypeId) : Option Nat := (P.info? t).map (·.size)
/-- The offset of field k of the struct type s (none: there is no such field, or it has no cells). -/
def fieldOff (P : Program) (s : TypeId) (k : Nat) : Option Nat :=
  match P.underlying s with
  | some (.struct fs) => match fs[k]? with
    | some f => match P.info? f.type with
      | some i => if i.size = 0 then none else some f.offset
      | none => none
    | none => none
  | _ => none

section
variable {P : Program} {ty : TypeId} {F : Fr} {w : World} {K : Value → World → Prop} {Z : List PanicEntry → World → Prop} {x y : Operand}

theorem run_isAgg {t : TypeId} {D : TypeDesc} (h : P.underlying t = some D) : (isAgg t).run P w = .ok (!notAgg D) w := by
  simp [isAgg, run_underlying h]
  cases D <;> rfl
theorem run_size {t : TypeId} {n : Nat} (h : sizeT P t = some n) : (sizeOf t).run P w = .ok n w := by
  unfold sizeT at h
  obtain ⟨i, hi, hs⟩ := Option.map_eq_some_iff.1 h
  simp [sizeOf, typeInfo, hi, hs]
theorem run_sureAddr (a : Addr) : (Instr.sureAddr (.pointer (some a))).run P w = .ok a w := rfl

theorem run_fieldAt {s k off : Nat} (a : Addr) (h : fieldOff P s k = some off) : (Instr.fieldAt s (.pointer (some a)) k).run P w = .ok (.pointer (some (a.add off))) w := by
  unfold fieldOff at h
  cases hu : P.underlying s with
  | none => rw [hu] at h; cases h
  | some D =>
    rw [hu] at h
    cases D with
    | struct fs =>
      simp only at h
      cases hf : fs[k]? with
      | none => rw [hf] at h; cases h
      | some f =>
        rw [hf] at h
        simp only at h
        cases hi : P.info? f.type with
        | none => rw [hi] at h; cases h
        | some i =>
          rw [hi] at h
          simp only at h
          split at h
          · cases h
          · rename_i hz
            cases h
            simp [Instr.fieldAt, run_underlying hu, hf, run_sureAddr, fieldPlace, sizeOf, typeInfo, hi, hz]
    | _ => cases h

theorem run_indexSlice {t e : TypeId} {size : Nat} (ht : P.underlying t = some (.slice e)) (hs : sizeT P e = some size) (k : IntKind) (a : Addr) (n c j : Nat) (hj : j < n) :
    (Instr.indexAt t (.slice (some a) n c) (.int k (j : Int))).run P w = .ok (.pointer (some (a.add (j * size)))) w := by
  simp [Instr.indexAt, asIntOf, run_underlying ht, hj, run_size hs]

theorem run_loadC {t : TypeId} {D : TypeDesc} (ht : P.underlying t = some D) (hD : notAgg D = true) {a : Addr} {v : Value} (hc : w.cell? a = some v) : (Instr.loadAt t (.pointer (some a))).run P w = .ok v w := by
  simp [Instr.loadAt, run_sureAddr, loadVar, run_isAgg ht, hD, hc]
theorem run_loadA {t : TypeId} {D : TypeDesc} (ht : P.underlying t = some D) (hD : notAgg D = false) {a : Addr} {cs : List Value} (hs : sizeT P t = some cs.length) (hc : ∀ j v, cs[j]? = some v → w.cell? (a.add j) = some v) :
    (Instr.loadAt t (.pointer (some a))).run P w = .ok (.agg cs.toArray) w := by
  simp [Instr.loadAt, run_sureAddr, loadVar, run_isAgg ht, hD, run_size hs, run_loadCells_list w a cs hc]

/-! ### reading -/
/-- Element j of a slice that reads as 'l'. -/
theorem o_indexR {α : Type} {E : Enc α} {O : List Nat} {l : List α} {v : Value} {t e : TypeId} (ht : P.underlying t = some (.slice e)) (hs : sizeT P e = some E.size) (k : IntKind) (n : Int) (j : Nat)
    (hx : evF F x = v) (hy : evF F y = .int k n) (hn : n = (j : Int)) (hl : RdL E w O v l) (hj : j < l.length) (h : ∀ a, PT E w O (.pointer (some a)) l[j] → K (.pointer (some a)) w) : OpW P (.indexAddr t x y) ty F w K Z := by
  obtain ⟨A, c, rfl, h2, h3, h4⟩ := hl
  obtain ⟨ad, cs, rfl, hc, hr⟩ := h4 j l[j] (List.getElem?_eq_getElem hj)
  subst hn
  refine opw_run (v := .pointer (some (ad.add (j * E.size)))) ?_ (h _ ⟨_, cs, rfl, hc, hr⟩)
  simp [execOp, hx, hy, run_indexSlice ht hs k ad l.length c j hj]
theorem o_fieldR {α β : Type} {E : Enc α} {E' : Enc β} {O : List Nat} {z : α} {a : Addr} {s k : Nat} (off : Nat) (hF : fieldOff P s k = some off) (u : β) (hx : evF F x = .pointer (some a)) (hp : PT E w O (.pointer (some a)) z)
    (hf : ∀ w O cs, E.rd w O cs z → E'.rd w O ((cs.drop off).take E'.size) u) (h : ∀ a', PT E' w O (.pointer (some a')) u → K (.pointer (some a')) w) : OpW P (.fieldAddr s x k) ty F w K Z :=
  opw_run (v := .pointer (some (a.add off))) (by simp [execOp, hx, run_fieldAt a hF]) (h _ (hp.field off (fun cs hc => hf w O cs hc)))
theorem PT.one {α : Type} {E : Enc α} {O : List Nat} {z : α} {a : Addr} (hE : E.size = 1) (hp : PT E w O (.pointer (some a)) z) : ∃ v, w.cell? a = some v ∧ E.rd w O [v] z := by
  obtain ⟨a', cs, h1, ⟨h2, h3, h4⟩, h5⟩ := hp
  cases h1
  have hl := E.len h5
  match cs, hl with
  | [v], _ => exact ⟨v, by simpa [Addr.add] using h4 0 v rfl, h5⟩
  | [], hl => rw [hE] at hl; cases hl
  | _ :: _ :: _, hl => rw [hE] at hl; simp at hl
theorem o_loadR {α : Type} {E : Enc α} {O : List Nat} {z : α} {a : Addr} {t : TypeId} {D : TypeDesc} (ht : P.underlying t = some D) (hD : notAgg D = true) (hE : E.size = 1) (hx : evF F x = .pointer (some a)) (hp : PT E w O (.pointer (some a)) z)
    (h : ∀ v, E.rd w O [v] z → K v w) : OpW P (.load t x) ty F w K Z := by
  obtain ⟨v, hc, hr⟩ := PT.one hE hp
  exact opw_run (v := v) (by simp [execOp, hx, run_loadC ht hD hc]) (h v hr)
theorem o_loadI {O : List Nat} {z : Int} {a : Addr} {t : TypeId} {D : TypeDesc} (ht : P.underlying t = some D) (hD : notAgg D = true) (hx : evF F x = .pointer (some a)) (hp : PT Enc.int w O (.pointer (some a)) z) (h : K (vI z) w) : OpW P (.load t x) ty F w K Z :=
  o_loadR ht hD rfl hx hp fun v hv => by have : [v] = [vI z] := hv; cases this; exact h
theorem o_loadB {O : List Nat} {z : UInt8} {a : Addr} {t : TypeId} {D : TypeDesc} (ht : P.underlying t = some D) (hD : notAgg D = true) (hx : evF F x = .pointer (some a)) (hp : PT Enc.u8 w O (.pointer (some a)) z) (h : K (vB z) w) : OpW P (.load t x) ty F w K Z :=
  o_loadR ht hD rfl hx hp fun v hv => by have : [v] = [vB z] := hv; cases this; exact h
theorem o_loadT {O : List Nat} {z : Bool} {a : Addr} {t : TypeId} {D : TypeDesc} (ht : P.underlying t = some D) (hD : notAgg D = true) (hx : evF F x = .pointer (some a)) (hp : PT Enc.bool w O (.pointer (some a)) z) (h : K (.bool z) w) : OpW P (.load t x) ty F w K Z :=
  o_loadR ht hD rfl hx hp fun v hv => by have : [v] = [.bool z] := hv; cases this; exact h
theorem o_loadL {α : Type} {E : Enc α} {O : List Nat} {z : List α} {a : Addr} {t : TypeId} {D : TypeDesc} (ht : P.underlying t = some D) (hD : notAgg D = true) (hx : evF F x = .pointer (some a)) (hp : PT E.slice w O (.pointer (some a)) z) (h : ∀ v, RdL E w O v z → K v w) : OpW P (.load t x) ty F w K Z :=
  o_loadR ht hD rfl hx hp fun v hv => by obtain ⟨v', h1, h2⟩ := hv; cases h1; exact h v h2
theorem o_loadS {α : Type} {E : Enc α} {O : List Nat} {z : α} {a : Addr} {t : TypeId} {D : TypeDesc} (ht : P.underlying t = some D) (hD : notAgg D = false) (hs : sizeT P t = some E.size) (hx : evF F x = .pointer (some a)) (hp : PT E w O (.pointer (some a)) z)
    (h : ∀ cs : List Value, E.rd w O cs z → K (.agg cs.toArray) w) : OpW P (.load t x) ty F w K Z := by
  obtain ⟨a', cs, h1, ⟨h2, h3, h4⟩, h5⟩ := hp
  cases h1
  exact opw_run (v := .agg cs.toArray) (by simp [execOp, hx, run_loadA ht hD (by rw [hs, E.len h5]) h4]) (h cs h5)
/-- len of a slice that reads as 'l'. -/
theorem o_lenR {α : Type} {E : Enc α} {O : List Nat} {l : List α} {v : Value} {t e : TypeId} (ht : P.underlying t = some (.slice e)) (hx : evF F x = v) (hl : RdL E w O v l) (h : K (vI l.length) w) :
    OpW P (.call { callee := .builtin .len, args := #[x], argTypes := #[t] }) ty F w K Z := by
  obtain ⟨A, c, rfl, _⟩ := hl
  exact o_len A l.length c ht hx h
theorem o_lenO {α : Type} {E : Enc α} {e' : TypeId} {base : Nat} {O : List Nat} {l : List α} {v : Value} {t e : TypeId} (ht : P.underlying t = some (.slice e)) (hx : evF F x = v) (hl : Own E e' base O w v l) (h : K (vI l.length) w) :
    OpW P (.call { callee := .builtin .len, args := #[x], argTypes := #[t] }) ty F w K Z := by
  obtain ⟨A, c, rfl, _⟩ := hl.form
  exact o_len A l.length c ht hx h
/-- 's[i:k]', within the length. -/
theorem o_sliceR {α : Type} {E : Enc α} {O : List Nat} {l : List α} {v : Value} {t e : TypeId} {lo hi : Option Operand} (ht : P.underlying t = some (.slice e)) (hs : sizeT P e = some E.size) (i k : Nat)
    (hx : evF F x = v) (hlo : (lo = none ∧ i = 0) ∨ ∃ o kk n, lo = some o ∧ evF F o = .int kk n ∧ n = (i : Int)) (hhi : (hi = none ∧ k = l.length) ∨ ∃ o kk n, hi = some o ∧ evF F o = .int kk n ∧ n = (k : Int))
    (hik : i ≤ k) (hk : k ≤ l.length) (hl : RdL E w O v l) (h : ∀ v', RdL E w O v' ((l.take k).drop i) → K v' w) : OpW P (.slice t x lo hi none) ty F w K Z := by
  obtain ⟨A, c, rfl, h2, h3, h4⟩ := hl
  have hb : (Instr.sliceBounds true l.length c (lo.map (evF F)) (hi.map (evF F)) none).run P w = .ok (i, k, c) w := by
    have b1 : ∀ kk code, (Instr.sliceBound (.int kk (k : Int)) c code).run P w = .ok k w := fun kk code => by
      rw [run_sliceBound (P := P) w kk (k : Int) c code (by omega) (by omega)]; rfl
    have b2 : ∀ kk code, (Instr.sliceBound (.int kk (i : Int)) k code).run P w = .ok i w := fun kk code => by
      rw [run_sliceBound (P := P) w kk (i : Int) k code (by omega) (by omega)]; rfl
    rcases hlo with ⟨rfl, rfl⟩ | ⟨o, kk, n, rfl, ho, rfl⟩ <;> rcases hhi with ⟨rfl, rfl⟩ | ⟨o', kk', n', rfl, ho', rfl⟩
    · simp [Instr.sliceBounds]
    · simp [Instr.sliceBounds, ho', b1]
    · simp [Instr.sliceBounds, ho, b2]
    · simp [Instr.sliceBounds, ho, ho', b1, b2]
  have hlen : ((l.take k).drop i).length = k - i := by simp; omega
  refine opw_run (v := .slice (if c = i then A else A.map (·.add (i * E.size))) (k - i) (c - i)) ?_ (h _ ?_)
  · simp [execOp, hx, Instr.sliceAt, run_underlying ht, Instr.slice, hb, run_size hs]
  · refine ⟨_, c - i, by rw [hlen], by rw [hlen]; omega, by omega, fun j u hj => ?_⟩
    have hjl : j < k - i := by rw [← hlen]; exact (List.getElem?_eq_some_iff.1 hj).1
    rw [List.getElem?_drop, List.getElem?_take] at hj
    rw [if_pos (by omega)] at hj
    obtain ⟨ad, cs, rfl, hc, hr⟩ := h4 (i + j) u hj
    refine ⟨ad.add (i * E.size), cs, ?_, ?_, hr⟩
    · rw [if_neg (by omega)]; rfl
    · rw [add_add, ← Nat.add_mul]; exact hc
/-! ### bytes to a string -/
end
end Go.Fw
