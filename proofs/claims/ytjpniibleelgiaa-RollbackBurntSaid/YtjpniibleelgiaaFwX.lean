/- Calls that may panic, a function with one deferred closure, the closure that recovers; results of any kind; interfaces; maps of functions. Program-independent. -/
import Derived.Test.YtjpniibleelgiaaFwT
import Derived.Recover
import Derived.DefersIn
set_option linter.unusedSimpArgs false
set_option linter.unusedVariables false
namespace Go.Fw
open Go.RowKit

section
variable {P : Program} {ty : TypeId} {F : Fr} {w : World} {K : Value → World → Prop} {Z : List PanicEntry → World → Prop} {x y : Operand}

/-! ### calls that may panic -/
/-- What is asked of a call: of what it returns, of its panic. -/
def both (K : Value → World → Prop) (Z : List PanicEntry → World → Prop) : Ending → World → Prop
  | .returned v, w => K v w
  | .panicked c, w => Z c w
  | .outgrown, _ => False
theorem both_r {v : Value} (h : K v w) : both K Z (.returned v) w := h
theorem o_callX {f : FuncId} {xs : List Operand} {ats : Array TypeId} (vs : List Value) (he : ∀ (as : Array Value) (w : World), (callFunc f as).run P w = .ok (.enter f as) w)
    (hv : xs.map (evF F) = vs) (hc : Calls P f vs.toArray w (both K Z)) :
    OpW P (.call { callee := .value (.func f), args := xs.toArray, argTypes := ats }) ty F w K Z := by
  unfold OpW
  have : (execOp (evF F) ⟨none, .call { callee := .value (.func f), args := xs.toArray, argTypes := ats }, ty, "", #[], none⟩).run P w = .ok (.enter f vs.toArray) w := by
    simp [execOp, resolve, Deferred.ofValue, evF, invoke, hv, he]
  rw [this]
  exact hc.mono fun e w' hr => by cases e <;> exact hr
/-! ### interfaces, panics -/
theorem run_eqNilS {t e : TypeId} {A : Option Addr} {m c : Nat} (n : Nat) (ht : P.underlying t = some (.slice e)) : (Op.equalIn (n + 1) t (.slice A m c) (.slice none 0 0)).run P w = .ok A.isNone w := by
  cases A <;> simp [Op.equalIn, run_underlying ht]
theorem o_field0 {s k : Nat} {a : Addr} (hF : fieldOff P s k = some 0) (hx : evF F x = .pointer (some a)) (h : K (.pointer (some a)) w) : OpW P (.fieldAddr s x k) ty F w K Z := by
  have ha : a.add 0 = a := by simp [Addr.add]
  exact opw_run (v := .pointer (some (a.add 0))) (w' := w) (by simp [execOp, hx, run_fieldAt a hF]) (by rw [ha]; exact h)
theorem o_shrU {t yt : TypeId} (yk : IntKind) (a s : Nat) (hs : s < 64) (hx : evF F x = .int .u64 (a : Int)) (hy : evF F y = .int yk (s : Int)) (h : K (.int .u64 ((a / 2 ^ s : Nat) : Int)) w) : OpW P (.binOp .shr t x y yt) ty F w K Z :=
  opw_run (by
    simp only [execOp, hx, hy, eqGuard, binOp, Op.shift]
    have h1 : ¬ ((s : Int) < 0) := by omega
    have h2 : (a : Int).fdiv (2 ^ (min (s : Int).toNat IntKind.u64.bits)) = ((a / 2 ^ s : Nat) : Int) := by
      have : min (s : Int).toNat IntKind.u64.bits = s := by simp [IntKind.bits]; omega
      rw [this]
      have e : ((2 : Int) ^ s) = ((2 ^ s : Nat) : Int) := by simp
      rw [e, Int.fdiv_eq_ediv_of_nonneg _ (Int.natCast_nonneg _)]
      rfl
    simp only [h1, if_false, h2]
    rfl) h
theorem wrap_u64 {a : Nat} (h : a < 18446744073709551616) : IntKind.u64.wrap (a : Int) = (a : Int) := by
  simp [IntKind.wrap, IntKind.bits, IntKind.signed]; omega
theorem o_eqlNilS {t yt e : TypeId} {A : Option Addr} {n c : Nat} (ht : P.underlying t = some (.slice e)) (hx : evF F x = .slice A n c) (hy : evF F y = .slice none 0 0) (h : K (.bool A.isNone) w) : OpW P (.binOp .eql t x y yt) ty F w K Z :=
  opw_run (by
    have := run_eqNilS (P := P) (w := w) (A := A) (m := n) (c := c) 9999 ht
    simp only [execOp, hx, hy, eqGuard, binOp]
    simp [Op.equal, Op.maxDepth, this]) h
theorem o_eqlNilR {α : Type} {E : Enc α} {O : List Nat} {l : List α} {v : Value} {t yt e : TypeId} (ht : P.underlying t = some (.slice e)) (hx : evF F x = v) (hy : evF F y = .slice none 0 0) (hl : RdL E w O v l) (h : ∀ b : Bool, (b = true → l = []) → K (.bool b) w) : OpW P (.binOp .eql t x y yt) ty F w K Z := by
  obtain ⟨A, c, rfl, h2, h3, h4⟩ := hl
  refine o_eqlNilS ht hx hy (h _ fun hb => ?_)
  cases l with
  | nil => rfl
  | cons a r => obtain ⟨ad, _, e, _⟩ := h4 0 a rfl; rw [e] at hb; cases hb
end

/-! ### results -/
section
variable {P : Program} {n : Nat} {fn : Func} {F : Fr} {w : World}
def rv (tmps : Array Value) : ResultVar → Sem Value
  | .tmp t => pure (tmps.getD t undef)
  | .cell a t => do loadVar t (← asAddr (tmps.getD a undef))
theorem rv_t {t : Nat} {v : Value} (ht : Nat.blt t n = true) (hv : F t = v) : (rv (mk n F).tmps (.tmp t)).run P w = .ok v w := by
  have := mk_get n F t (blt ht)
  simp [rv, Array.getD_eq_getD_getElem?, this, hv]
theorem rv_A {t T b o T0 : Nat} {D : TypeDesc} {cs vs : List Value} (ht : Nat.blt t n = true) (hT : P.underlying T = some D) (hD : notAgg D = false) (hs : sizeT P T = some vs.length) (hx : F t = .pointer (some ⟨b, o, none⟩)) (hb : Box w b T0 cs) (hv : (cs.drop o).take vs.length = vs) : (rv (mk n F).tmps (.cell t T)).run P w = .ok (.agg vs.toArray) w := by
  have := mk_get n F t (blt ht)
  have h3 : (loadVar T ⟨b, o, none⟩).run P w = .ok (.agg vs.toArray) w := by
    have h := run_loadA (P := P) (w := w) hT hD (a := ⟨b, o, none⟩) hs (fun j v hj => by
      rw [add0, hb.cell, ← hj, ← hv, List.getElem?_take]
      have : j < vs.length := (List.getElem?_eq_some_iff.1 hj).1
      rw [if_pos this, List.getElem?_drop])
    simpa [Instr.loadAt, run_sureAddr] using h
  simp [rv, Array.getD_eq_getD_getElem?, this, hx, asAddr, h3]
theorem results_rv (fn : Func) (tmps : Array Value) : results fn tmps = (do let vs ← fn.results.mapM (rv tmps); pure (if h : vs.size = 1 then vs[0] else .tuple vs)) := by
  unfold results
  congr 1
theorem resv2 {r s : ResultVar} {v u : Value} (h : fn.results = #[r, s]) (h1 : (rv (mk n F).tmps r).run P w = .ok v w) (h2 : (rv (mk n F).tmps s).run P w = .ok u w) : (results fn (mk n F).tmps).run P w = .ok (.tuple #[v, u]) w := by
  simp [results_rv, h, h1, h2]
/-! ### one deferred closure -/
def endD (P : Program) (fn : Func) (n : Nat) (R : Ending → World → Prop) : Exit → Fr → World → Prop
  | .normal, F, w | .ret, F, w => Leaves P fn (mk n F).tmps R (dec (F n)) .returning w
  | .panic chain, F, w => Leaves P fn (mk n F).tmps R (dec (F n)) (.panicking chain) w
  | _, _, _ => False
/-- What 'recover()' yields in a deferred call, by the mode of the frame that leaves; and that frame's mode behind it. -/
def recV : FrameMode → Value
  | .panicking ({ v, recovered := false, goexit := false } :: _) => v
  | _ => .nilIface
def recU : FrameMode → FrameMode
  | .panicking ({ v, recovered := false, goexit := false } :: older) => .panicking ({ v, recovered := true } :: older)
  | u => u
/-- What is asked when the closure that recovers has returned. -/
def leftQ (P : Program) (fn : Func) (n : Nat) (F : Fr) (R : Ending → World → Prop) : Ending → World → Prop
  | .returned _, w' => ∃ v, (results fn (mk n F).tmps).run P w' = .ok v w' ∧ R (.returned v) w'
  | _, _ => False
theorem nin1 {a b : Nat} (h : a ≠ b) : a ∉ ([b] : List Nat) := by simpa using h
end

/-! ### maps from numbers to values -/
def MapF (w : World) (r : Nat) (l : List (Int × Value)) : Prop :=
  ∃ es c, Ob w r (.map es c) ∧ es.toList.map (fun e => (e.key, e.val)) = l.map fun x => (vI x.1, x.2)
theorem MapF.lt {w : World} {r : Nat} {l : List (Int × Value)} (h : MapF w r l) : r < w.heap.size := let ⟨_, _, h, _⟩ := h; h.lt
theorem MapF.keep {w w' : World} {r : Nat} {l : List (Int × Value)} {O : List Nat} (h : MapF w r l) (k : Keep O w w') (hb : r ∉ O) : MapF w' r l := let ⟨es, c, h1, h2⟩ := h; ⟨es, c, h1.keep k hb, h2⟩
theorem findNowF (k : Int) : ∀ (l : List (Int × Value)) (es : List MapEntry) (i : Nat), es.map (fun e => (e.key, e.val)) = l.map (fun x => (vI x.1, x.2)) →
    Instr.findNow (.int .i64) (vI k) es i = some ((l.findIdx? (fun x => k == x.1)).bind fun j => (l[j]?).map fun x => (i + j, x.2))
  | [], [], i, _ => rfl
  | [], e :: es, i, h => by simp at h
  | x :: l, [], i, h => by simp at h
  | x :: l, e :: es, i, h => by
    simp only [List.map_cons, List.cons.injEq, Prod.mk.injEq] at h
    obtain ⟨⟨h1, h2⟩, h3⟩ := h
    unfold Instr.findNow
    rw [h1]
    simp only [Instr.sameNow, if_true]
    rw [List.findIdx?_cons]
    cases hk : (k == x.1) with
    | true => simp [h2]
    | false =>
      simp only [Bool.false_eq_true, if_false]
      rw [findNowF k l es (i + 1) h3]
      cases hf : l.findIdx? (fun x => k == x.1) with
      | none => simp
      | some j => simp; congr 1; funext y; congr 1; omega
section
variable {P : Program} {ty : TypeId} {F : Fr} {w w0 : World} {B O0 : List Nat} {K : Value → World → Prop} {Z : List PanicEntry → World → Prop} {x y z : Operand}
theorem o_makeMapF {t : TypeId} (s : St w0 O0 w B) (h : ∀ r w', r = w.heap.size → St w0 O0 w' (r :: B) → Mv B w (r :: B) w' → Keep [] w w' → MapF w' r [] → K (.map (some r)) w') : OpW P (.makeMap t none) ty F w K Z := by
  refine o_makeMap s fun r w' e s' m k hm => h r w' e s' m k ?_
  obtain ⟨es, c, ho, he⟩ := hm
  exact ⟨es, c, ho, he⟩
theorem run_checkF {kt : TypeId} {k : Int} (hk : P.underlying kt = some (.int .i64)) (b : Bool) : (Instr.checkKey b 10000 kt (vI k)).run P w = .ok () w := by
  rw [show (10000 : Nat) = 9999 + 1 from rfl, Instr.checkKey]
  simp [run_underlying hk]
theorem run_findF {kt r : Nat} {k : Int} {l : List (Int × Value)} {es : Array MapEntry} (hk : P.underlying kt = some (.int .i64)) (he : es.toList.map (fun e => (e.key, e.val)) = l.map fun x => (vI x.1, x.2)) :
    (Instr.findKey kt (vI k) es.toList).run P w = .ok ((l.findIdx? (fun x => k == x.1)).bind fun j => (l[j]?).map fun x => (j, x.2)) w := by
  unfold Instr.findKey
  simp [run_underlying hk, findNowF k l es.toList 0 he]
end
end Go.Fw
