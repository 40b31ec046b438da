/- More operations: publishing what is one's own, variables that are only read, structures built, results in cells. Program-independent. -/
import Derived.Test.YtjpniibleelgiaaFwM
import Derived.Laws.Tables
set_option linter.unusedSimpArgs false
set_option linter.unusedVariables false
namespace Go.Fw
open Go.RowKit

theorem RdL.step {α : Type} {E : Enc α} {w w' : World} {O : List Nat} {v : Value} {l : List α} (h : RdL E w O v l) (k : Keep [] w w') : RdL E w' O v l := h.mv (B := []) (B' := []) (Mv.of_keep k)
theorem PT.step {α : Type} {E : Enc α} {w w' : World} {O : List Nat} {v : Value} {l : α} (h : PT E w O v l) (k : Keep [] w w') : PT E w' O v l := h.mv (B := []) (B' := []) (Mv.of_keep k)
theorem Enc.step {α : Type} {E : Enc α} {w w' : World} {O : List Nat} {cs : List Value} {x : α} (h : E.rd w O cs x) (k : Keep [] w w') : E.rd w' O cs x := E.mv (B := []) (B' := []) h (Mv.of_keep k)
/-- What is said of a later world, where others may write O'. -/
theorem RdL.on {α : Type} {E : Enc α} {w w' : World} {O O' : List Nat} {v : Value} {l : List α} (h : RdL E w O v l) (hs : ∀ b ∈ O', b ∈ O ∨ w.heap.size ≤ b) (k : Keep [] w w') : RdL E w' O' v l := (h.sub hs).step k
theorem PT.on {α : Type} {E : Enc α} {w w' : World} {O O' : List Nat} {v : Value} {l : α} (h : PT E w O v l) (hs : ∀ b ∈ O', b ∈ O ∨ w.heap.size ≤ b) (k : Keep [] w w') : PT E w' O' v l := (h.sub hs).step k
theorem Enc.on {α : Type} {E : Enc α} {w w' : World} {O O' : List Nat} {cs : List Value} {x : α} (h : E.rd w O cs x) (hs : ∀ b ∈ O', b ∈ O ∨ w.heap.size ≤ b) (k : Keep [] w w') : E.rd w' O' cs x := Enc.step (E.sub h hs) k

section
variable {P : Program} {ty : TypeId} {F : Fr} {w w0 : World} {O0 B : List Nat} {K : Value → World → Prop} {Z : List PanicEntry → World → Prop} {x y : Operand}

/-- A variable that nobody writes behind its making. -/
theorem o_boxR {α : Type} {E : Enc α} {t : TypeId} (v : Value) (cs : List Value) (u : α) (hx : evF F x = v) (hc : v.cells = cs.toArray) (hr : E.rd w (B ++ O0) cs u) (s : St w0 O0 w B)
    (h : ∀ (a : Addr) w', St w0 O0 w' B → Mv B w B w' → Keep [] w w' → PT E w' (B ++ O0) (.pointer (some a)) u → K (.pointer (some a)) w') : OpW P (.box t x) ty F w K Z := by
  refine opw_run (v := .pointer (some ⟨w.heap.size, 0, none⟩)) (w' := w.alloc (.cells v.cells t)) ?_ (h _ _ (s.alloc' _) (Mv.alloc' _ _ _) (Keep.alloc _ _ _) ?_)
  · simp [execOp, Instr.box, hx, newVar, newRow]
  · exact PT.of_box (T := t) (cs := cs) (by rw [hc]; exact Box.new w t cs) (E.mv hr (Mv.alloc' _ _ _)) (fun hb => Nat.lt_irrefl _ (s.lt _ hb))

/-- A guarded operation that is passed over, because its guard was passed over. -/
theorem wl_u {r : Bool} {ops rest : List Oper} {Q : Exit → Fr → World → Prop} {d : Tmp} {op : Op} {pos : String} {af : Array Edge} {j : Nat} {b : Bool} (hy : yieldF ops F j = none)
    (h : WL r P ops Q rest (upd F d undef) w) : WL r P ops Q (⟨some d, op, ty, pos, af, some (j, b)⟩ :: rest) F w := by
  unfold WL
  rw [if_neg (by cases b <;> simp [Region.wanted, hy])]; exact h
theorem sp_undef {o : Oper} {ops : List Oper} {F1 : Fr} {w1 : World} {R : Prop} {j : Nat} {b : Bool} (hg : o.guard = some (j, b)) (hy : yieldF ops F1 j = none) (h : R) :
    (Region.wanted o (yieldF ops F1) = true → OpW P o.op o.type F1 w1 K Z) ∧ (Region.wanted o (yieldF ops F1) = false → R) :=
  ⟨fun hw => by unfold Region.wanted at hw; rw [hg] at hw; cases b <;> simp [hy] at hw, fun _ => h⟩

/-! ### facts of an elder world -/
theorem cell_old {u w : World} (k : Keep [] u w) {a : Addr} {v : Value} (h : u.cell? a = some v) : w.cell? a = some v := (World.cell?_of_block (w := u) (k.block a.block (World.block_lt_of_cell? u _ h) (by simp))).trans h
theorem o_idxU {u : World} {α : Type} [Inhabited α] {E : Enc α} {O : List Nat} {l : List α} {v : Value} {t e : TypeId} (ht : P.underlying t = some (.slice e)) (hs : sizeT P e = some E.size) (k : IntKind) (n : Int) (j : Nat)
    (hx : evF F x = v) (hy : evF F y = .int k n) (hn : n = (j : Int)) (hl : RdL E u O v l) (hj : j < l.length) (h : ∀ a, PT E u O (.pointer (some a)) l[j]! → K (.pointer (some a)) w) : OpW P (.indexAddr t x y) ty F w K Z := by
  obtain ⟨A, c, rfl, h2, h3, h4⟩ := hl
  obtain ⟨ad, cs, rfl, hc, hr⟩ := h4 j l[j] (List.getElem?_eq_getElem hj)
  subst hn
  refine opw_run (v := .pointer (some (ad.add (j * E.size)))) ?_ (h _ ?_)
  · simp [execOp, hx, hy, run_indexSlice ht hs k ad l.length c j hj]
  · rw [getElem!_pos l j hj]; exact ⟨_, cs, rfl, hc, hr⟩
theorem o_loadRU {u : World} {α : Type} {E : Enc α} {O : List Nat} {z : α} {a : Addr} {t : TypeId} {D : TypeDesc} (ht : P.underlying t = some D) (hD : notAgg D = true) (hE : E.size = 1) (hx : evF F x = .pointer (some a)) (hp : PT E u O (.pointer (some a)) z) (k : Keep [] u w)
    (h : ∀ v, E.rd u O [v] z → K v w) : OpW P (.load t x) ty F w K Z := by
  obtain ⟨v, hc, hr⟩ := PT.one hE hp
  exact opw_run (v := v) (by simp [execOp, hx, run_loadC ht hD (cell_old k hc)]) (h v hr)
theorem o_loadIU {u : World} {O : List Nat} {z : Int} {a : Addr} {t : TypeId} {D : TypeDesc} (ht : P.underlying t = some D) (hD : notAgg D = true) (hx : evF F x = .pointer (some a)) (hp : PT Enc.int u O (.pointer (some a)) z) (k : Keep [] u w) (h : K (vI z) w) : OpW P (.load t x) ty F w K Z :=
  o_loadRU ht hD rfl hx hp k fun v hv => by have : [v] = [vI z] := hv; cases this; exact h
theorem o_loadSU {u : World} {α : Type} {E : Enc α} {O : List Nat} {z : α} {a : Addr} {t : TypeId} {D : TypeDesc} (ht : P.underlying t = some D) (hD : notAgg D = false) (hs : sizeT P t = some E.size) (hx : evF F x = .pointer (some a)) (hp : PT E u O (.pointer (some a)) z) (k : Keep [] u w)
    (h : ∀ cs : List Value, E.rd u O cs z → K (.agg cs.toArray) w) : OpW P (.load t x) ty F w K Z := by
  obtain ⟨a', cs, h1, ⟨h2, h3, h4⟩, h5⟩ := hp
  cases h1
  exact opw_run (v := .agg cs.toArray) (by simp [execOp, hx, run_loadA ht hD (by rw [hs, E.len h5]) (fun j v hj => cell_old k (h4 j v hj))]) (h cs h5)
theorem o_fieldRU {u : World} {α β : Type} {E : Enc α} {E' : Enc β} {O : List Nat} {z : α} {a : Addr} {s k : Nat} (off : Nat) (hF : fieldOff P s k = some off) (u_ : β) (hx : evF F x = .pointer (some a)) (hp : PT E u O (.pointer (some a)) z)
    (hf : ∀ w O cs, E.rd w O cs z → E'.rd w O ((cs.drop off).take E'.size) u_) (h : ∀ a', PT E' u O (.pointer (some a')) u_ → K (.pointer (some a')) w) : OpW P (.fieldAddr s x k) ty F w K Z :=
  opw_run (v := .pointer (some (a.add off))) (by simp [execOp, hx, run_fieldAt a hF]) (h _ (hp.field off (fun cs hc => hf u O cs hc)))
theorem o_sliceRU {u : World} {α : Type} {E : Enc α} {O : List Nat} {l : List α} {v : Value} {t e : TypeId} {lo hi : Option Operand} (ht : P.underlying t = some (.slice e)) (hs : sizeT P e = some E.size) (i k : Nat)
    (hx : evF F x = v) (hlo : (lo = none ∧ i = 0) ∨ ∃ o kk n, lo = some o ∧ evF F o = .int kk n ∧ n = (i : Int)) (hhi : (hi = none ∧ k = l.length) ∨ ∃ o kk n, hi = some o ∧ evF F o = .int kk n ∧ n = (k : Int))
    (hik : i ≤ k) (hk : k ≤ l.length) (hl : RdL E u O v l) (h : ∀ v', RdL E u O v' ((l.take k).drop i) → K v' w) : OpW P (.slice t x lo hi none) ty F w K Z := by
  obtain ⟨A, c, rfl, h2, h3, h4⟩ := hl
  have hb : (Instr.sliceBounds true l.length c (lo.map (evF F)) (hi.map (evF F)) none).run P w = .ok (i, k, c) w := by
    have b1 : ∀ kk code, (Instr.sliceBound (.int kk (k : Int)) c code).run P w = .ok k w := fun kk code => by
      rw [run_sliceBound (P := P) w kk (k : Int) c code (by omega) (by omega)]; rfl
    have b2 : ∀ kk code, (Instr.sliceBound (.int kk (i : Int)) k code).run P w = .ok i w := fun kk code => by
      rw [run_sliceBound (P := P) w kk (i : Int) k code (by omega) (by omega)]; rfl
    rcases hlo with ⟨rfl, rfl⟩ | ⟨o, kk, n, rfl, ho, rfl⟩ <;> rcases hhi with ⟨rfl, rfl⟩ | ⟨o', kk', n', rfl, ho', rfl⟩
    · simp [Instr.sliceBounds]
    · simp [Instr.sliceBounds, ho', b1]
    · simp [Instr.sliceBounds, ho, b2]
    · simp [Instr.sliceBounds, ho, ho', b1, b2]
  have hlen : ((l.take k).drop i).length = k - i := by simp; omega
  refine opw_run (v := .slice (if c = i then A else A.map (·.add (i * E.size))) (k - i) (c - i)) ?_ (h _ ?_)
  · simp [execOp, hx, Instr.sliceAt, run_underlying ht, Instr.slice, hb, run_size hs]
  · refine ⟨_, c - i, by rw [hlen], by rw [hlen]; omega, by omega, fun j q hj => ?_⟩
    have hjl : j < k - i := by rw [← hlen]; exact (List.getElem?_eq_some_iff.1 hj).1
    rw [List.getElem?_drop, List.getElem?_take] at hj
    rw [if_pos (by omega)] at hj
    obtain ⟨ad, cs, rfl, hc, hr⟩ := h4 (i + j) q hj
    refine ⟨ad.add (i * E.size), cs, ?_, ?_, hr⟩
    · rw [if_neg (by omega)]; rfl
    · rw [add_add, ← Nat.add_mul]; exact hc
/-! ### a part of a slice of one's own, to copy into -/
def SubOf (v : Value) (off size : Nat) (v' : Value) : Prop := ∃ (A : Option Addr) (n c : Nat), v = .slice A n c ∧ v' = .slice (if c = off then A else A.map (·.add (off * size))) (n - off) (c - off)
theorem o_sliceOwn {α : Type} {E : Enc α} {O : List Nat} {e' base : Nat} {l : List α} {v : Value} {t e : TypeId} {lo : Operand} (ht : P.underlying t = some (.slice e)) (hs : sizeT P e = some E.size) (i : Nat) (kk : IntKind) (nn : Int)
    (hx : evF F x = v) (hlo : evF F lo = .int kk nn) (hn : nn = (i : Int)) (hik : i ≤ l.length) (ho : Own E e' base O w v l) (h : ∀ v', SubOf v i E.size v' → K v' w) : OpW P (.slice t x (some lo) none none) ty F w K Z := by
  obtain ⟨A, c, rfl, h2, h3⟩ := ho.form
  subst hn
  have hb : (Instr.sliceBounds true l.length c (some (.int kk (i : Int))) none none).run P w = .ok (i, l.length, c) w := by
    have b2 : ∀ code, (Instr.sliceBound (.int kk (i : Int)) l.length code).run P w = .ok i w := fun code => by
      rw [run_sliceBound (P := P) w kk (i : Int) l.length code (by omega) (by omega)]; rfl
    simp [Instr.sliceBounds, b2]
  refine opw_run (v := .slice (if c = i then A else A.map (·.add (i * E.size))) (l.length - i) (c - i)) ?_ (h _ ⟨A, l.length, c, rfl, rfl⟩)
  simp [execOp, hx, hlo, Instr.sliceAt, run_underlying ht, Instr.slice, hb, run_size hs]
/-! ### structures built -/
def placesB (P : Program) (t : TypeId) : Option (List (Nat × Nat)) :=
  match P.underlying t with
  | some (.struct fs) => fs.toList.mapM (fun f => (P.info? f.type).map fun i => (f.offset, i.size))
  | _ => none
def BuildOk (pl : List (Nat × Nat)) : List Value → List (Nat × Value × List Value) → List Value → Prop
  | cells, [], r => r = cells
  | cells, (i, v, cs) :: rest, r => ∃ off, pl[i]? = some (off, cs.length) ∧ v.cells = cs.toArray ∧ off + cs.length ≤ cells.length ∧ BuildOk pl (cells.take off ++ cs ++ cells.drop (off + cs.length)) rest r
theorem fill_ok {pl : List (Nat × Nat)} : ∀ (l : List (Nat × Value × List Value)) (cells r : List Value), BuildOk pl cells l r → Instr.fill (fun i => pl.toArray[i]?) cells.toArray (l.map fun q => (q.1, q.2.1)) = some r.toArray
  | [], cells, r, h => by
    have h : r = cells := h
    subst h; simp [Instr.fill]
  | (i, v, cs) :: rest, cells, r, ⟨off, h1, h2, h3, h4⟩ => by
    rw [List.map_cons, fill_one (cs := cs) (off := off) (by simpa using h1) h2 (by simpa using h3)]
    exact fill_ok rest _ r (by simpa using h4)
theorem o_build {t : TypeId} {pl : List (Nat × Nat)} {zs : List Value} {l : List (Nat × Operand)} {ps : Array (Nat × Operand)} (hp : placesB P t = some pl) (hz : zeroT P t = some (.agg zs.toArray)) (hps : ps = l.toArray)
    (L : List (Nat × Value × List Value)) (cs : List Value) (hv : l.map (fun p => (p.1, evF F p.2)) = L.map fun q => (q.1, q.2.1)) (hb : BuildOk pl zs L cs) (h : K (.agg cs.toArray) w) : OpW P (.build t ps) ty F w K Z := by
  refine opw_run (v := .agg cs.toArray) ?_ h
  have hbuilt : P.built t (ps.map fun p => (p.1, evF F p.2)).toList = some cs.toArray := by
    unfold zeroT at hz
    obtain ⟨i, hi, hzz⟩ := Option.bind_eq_some_iff.1 hz
    unfold placesB at hp
    unfold Program.built
    rw [hi]
    cases hu : P.underlying t with
    | none => rw [hu] at hp; cases hp
    | some D =>
      rw [hu] at hp
      cases D <;> simp only at hp <;> try cases hp
      case struct fs =>
        simp only [hzz, hp]
        subst hps
        have := fill_ok L zs cs hb
        rw [← hv] at this
        simpa [Value.cells] using this
  simp [execOp, run_build w t _ _ hbuilt]

/-! ### results -/
section
variable {fn : Func} {n : Nat}
/-- A result, a structure that lies in a cell. -/
theorem rescA {t T b o T0 : Nat} {D : TypeDesc} {cs vs : List Value} (hres : fn.results = #[.cell t T]) (ht : Nat.blt t n = true) (hT : P.underlying T = some D) (hD : notAgg D = false) (hs : sizeT P T = some vs.length) (hx : F t = .pointer (some ⟨b, o, none⟩)) (hb : Box w b T0 cs) (hv : (cs.drop o).take vs.length = vs) : (results fn (mk n F).tmps).run P w = .ok (.agg vs.toArray) w := by
  have := mk_get n F t (blt ht)
  have h3 : (loadVar T ⟨b, o, none⟩).run P w = .ok (.agg vs.toArray) w := by
    have h := run_loadA (P := P) (w := w) hT hD (a := ⟨b, o, none⟩) hs (fun j v hj => by
      rw [add0, hb.cell, ← hj, ← hv, List.getElem?_take]
      have : j < vs.length := (List.getElem?_eq_some_iff.1 hj).1
      rw [if_pos this, List.getElem?_drop])
    simpa [Instr.loadAt, run_sureAddr] using h
  simp [results, hres, Array.getD_eq_getD_getElem?, this, hx, asAddr, h3]
end
end
end Go.Fw
