/- More operations: publishing what is one's own, variables that are only read, structures built, results in cells. Program-independent. -/
import Derived.Test.YteajcgfcnbdmgaaFwM
import Derived.Laws.Tables
namespace Go.Fw
open Go.RowKit

theorem RdL.step {α : Type} {E : Enc α} {w w' : World} {O : List Nat} {v : Value} {l : List α} (h : RdL E w O v l) (k : Keep [] w w') : RdL E w' O v l := h.mv (B := []) (B' := []) (Mv.of_keep k)
theorem PT.step {α : Type} {E : Enc α} {w w' : World} {O : List Nat} {v : Value} {l : α} (h : PT E w O v l) (k : Keep [] w w') : PT E w' O v l := h.mv (B := []) (B' := []) (Mv.of_keep k)
theorem Enc.step {α : Type} {E : Enc α} {w w' : World} {O : List Nat} {cs : List Value} {x : α} (h : E.rd w O cs x) (k : Keep [] w w') : E.rd w' O cs x := E.mv (B := []) (B' := []) h (Mv.of_keep k)
/-- What is said of a later world, where others may write O'. -/
theorem RdL.on {α : Type} {E : Enc α} {w w' : World} {O O' : List Nat} {v : Value} {l : List α} (h : RdL E w O v l) (hs : ∀ b ∈ O', b ∈ O ∨ w.heap.size ≤ b) (k : Keep [] w w') : RdL E w' O' v l := (h.sub hs).step k
theorem PT.on {α : Type} {E : Enc α} {w w' : World} {O O' : List Nat} {v : Value} {l : α} (h : PT E w O v l) (hs : ∀ b ∈ O', b ∈ O ∨ w.heap.size ≤ b) (k : Keep [] w w') : PT E w' O' v l := (h.sub hs).step k
theorem Enc.on {α : Type} {E : Enc α} {w w' : World} {O O' : List Nat} {cs : List Value} {x : α} (h : E.rd w O cs x) (hs : ∀ b ∈ O', b ∈ O ∨ w.heap.size ≤ b) (k : Keep [] w w') : E.rd w' O' cs x := Enc.step (E.sub h hs) k

section
variable {P : Program} {ty : TypeId} {F : Fr} {w w0 : World} {O0 B : List Nat} {K : Value → World → Prop} {Z : List PanicEntry → World → Prop} {x y : Operand}

/-- What is one's own is given up: from here on it is only read. -/
theorem Own.publish {α : Type} {E : Enc α} {e : TypeId} {v : Value} {l : List α} (h : Own E e w0.heap.size (B ++ O0) w v l) (s : St w0 O0 w B) :
    ∃ B', St w0 O0 w B' ∧ Mv B w B' w ∧ RdL E w (B' ++ O0) v l ∧ ∀ b ∈ B, v.ownBlock ≠ some b → b ∈ B' := by
  have hsub : ∀ b ∈ B.filter (fun b => v.ownBlock ≠ some b), b ∈ B := fun b hb => (List.mem_filter.1 hb).1
  refine ⟨B.filter (fun b => v.ownBlock ≠ some b), s.drop hsub, Mv.drop hsub, h.rd (fun b hb => .inl ?_) (fun b hb hO => ?_), fun b hb hn => List.mem_filter.2 ⟨hb, by simpa using hn⟩⟩
  · rcases List.mem_append.1 hb with h1 | h1
    · exact List.mem_append_left _ (hsub b h1)
    · exact List.mem_append_right _ h1
  · rcases List.mem_append.1 hO with h1 | h1
    · have := (List.mem_filter.1 h1).2; simp [hb] at this
    · have h2 := (h.lt b hb).1; have h3 := s.old b h1; omega
/-- A variable is given up: from here on it is only read. -/
theorem Box.publish {α : Type} {E : Enc α} {b T : Nat} {cs : List Value} {u : α} (hb : Box w b T cs) (hr : E.rd w (B ++ O0) cs u) (s : St w0 O0 w B) (hin : b ∈ B) :
    ∃ B', St w0 O0 w B' ∧ Mv B w B' w ∧ PT E w (B' ++ O0) (.pointer (some ⟨b, 0, none⟩)) u ∧ ∀ c ∈ B, c ≠ b → c ∈ B' := by
  have hsub : ∀ c ∈ B.filter (fun c => c ≠ b), c ∈ B := fun c hc => (List.mem_filter.1 hc).1
  refine ⟨B.filter (fun c => c ≠ b), s.drop hsub, Mv.drop hsub, PT.of_box hb (E.sub hr (fun c hc => .inl ?_)) (fun hO => ?_), fun c hc hn => List.mem_filter.2 ⟨hc, by simpa using hn⟩⟩
  · rcases List.mem_append.1 hc with h1 | h1
    · exact List.mem_append_left _ (hsub c h1)
    · exact List.mem_append_right _ h1
  · rcases List.mem_append.1 hO with h1 | h1
    · have := (List.mem_filter.1 h1).2; simp at this
    · have h2 := (s.new b hin).1; have h3 := s.old b h1; omega
/-- A variable that nobody writes behind its making. -/
theorem o_boxR {α : Type} {E : Enc α} {t : TypeId} (v : Value) (cs : List Value) (u : α) (hx : evF F x = v) (hc : v.cells = cs.toArray) (hr : E.rd w (B ++ O0) cs u) (s : St w0 O0 w B)
    (h : ∀ (a : Addr) w', St w0 O0 w' B → Mv B w B w' → Keep [] w w' → PT E w' (B ++ O0) (.pointer (some a)) u → K (.pointer (some a)) w') : OpW P (.box t x) ty F w K Z := by
  refine opw_run (v := .pointer (some ⟨w.heap.size, 0, none⟩)) (w' := w.alloc (.cells v.cells t)) ?_ (h _ _ (s.alloc' _) (Mv.alloc' _ _ _) (Keep.alloc _ _ _) ?_)
  · simp [execOp, Instr.box, hx, newVar, newRow]
  · exact PT.of_box (T := t) (cs := cs) (by rw [hc]; exact Box.new w t cs) (E.mv hr (Mv.alloc' _ _ _)) (fun hb => Nat.lt_irrefl _ (s.lt _ hb))

/-- A guarded operation that is passed over, because its guard was passed over. -/
theorem wl_u {r : Bool} {ops rest : List Oper} {Q : Exit → Fr → World → Prop} {d : Tmp} {op : Op} {pos : String} {af : Array Edge} {j : Nat} {b : Bool} (hy : yieldF ops F j = none)
    (h : WL r P ops Q rest (upd F d undef) w) : WL r P ops Q (⟨some d, op, ty, pos, af, some (j, b)⟩ :: rest) F w := by
  unfold WL
  rw [if_neg (by cases b <;> simp [Region.wanted, hy])]; exact h
theorem sp_undef {o : Oper} {ops : List Oper} {F1 : Fr} {w1 : World} {R : Prop} {j : Nat} {b : Bool} (hg : o.guard = some (j, b)) (hy : yieldF ops F1 j = none) (h : R) :
    (Region.wanted o (yieldF ops F1) = true → OpW P o.op o.type F1 w1 K Z) ∧ (Region.wanted o (yieldF ops F1) = false → R) :=
  ⟨fun hw => by unfold Region.wanted at hw; rw [hg] at hw; cases b <;> simp [hy] at hw, fun _ => h⟩

/-! ### structures built -/
def placesB (P : Program) (t : TypeId) : Option (List (Nat × Nat)) :=
  match P.underlying t with
  | some (.struct fs) => fs.toList.mapM (fun f => (P.info? f.type).map fun i => (f.offset, i.size))
  | _ => none
def BuildOk (pl : List (Nat × Nat)) : List Value → List (Nat × Value × List Value) → List Value → Prop
  | cells, [], r => r = cells
  | cells, (i, v, cs) :: rest, r => ∃ off, pl[i]? = some (off, cs.length) ∧ v.cells = cs.toArray ∧ off + cs.length ≤ cells.length ∧ BuildOk pl (cells.take off ++ cs ++ cells.drop (off + cs.length)) rest r
theorem fill_ok {pl : List (Nat × Nat)} : ∀ (l : List (Nat × Value × List Value)) (cells r : List Value), BuildOk pl cells l r → Instr.fill (fun i => pl.toArray[i]?) cells.toArray (l.map fun q => (q.1, q.2.1)) = some r.toArray
  | [], cells, r, h => by
    have h : r = cells := h
    subst h; simp [Instr.fill]
  | (i, v, cs) :: rest, cells, r, ⟨off, h1, h2, h3, h4⟩ => by
    rw [List.map_cons, fill_one (cs := cs) (off := off) (by simpa using h1) h2 (by simpa using h3)]
    exact fill_ok rest _ r (by simpa using h4)
theorem o_build {t : TypeId} {pl : List (Nat × Nat)} {zs : List Value} {l : List (Nat × Operand)} {ps : Array (Nat × Operand)} (hp : placesB P t = some pl) (hz : zeroT P t = some (.agg zs.toArray)) (hps : ps = l.toArray)
    (L : List (Nat × Value × List Value)) (cs : List Value) (hv : l.map (fun p => (p.1, evF F p.2)) = L.map fun q => (q.1, q.2.1)) (hb : BuildOk pl zs L cs) (h : K (.agg cs.toArray) w) : OpW P (.build t ps) ty F w K Z := by
  refine opw_run (v := .agg cs.toArray) ?_ h
  have hbuilt : P.built t (ps.map fun p => (p.1, evF F p.2)).toList = some cs.toArray := by
    unfold zeroT at hz
    obtain ⟨i, hi, hzz⟩ := Option.bind_eq_some_iff.1 hz
    unfold placesB at hp
    unfold Program.built
    rw [hi]
    cases hu : P.underlying t with
    | none => rw [hu] at hp; cases hp
    | some D =>
      rw [hu] at hp
      cases D <;> simp only at hp <;> try cases hp
      case struct fs =>
        simp only [hzz, hp]
        subst hps
        have := fill_ok L zs cs hb
        rw [← hv] at this
        simpa [Value.cells] using this
  simp [execOp, run_build w t _ _ hbuilt]

/-! ### results -/
section
variable {fn : Func} {n : Nat}
/-- A result, a structure that lies in a cell. -/
theorem rescA {t T b o T0 : Nat} {D : TypeDesc} {cs vs : List Value} (hres : fn.results = #[.cell t T]) (ht : Nat.blt t n = true) (hT : P.underlying T = some D) (hD : notAgg D = false) (hs : sizeT P T = some vs.length) (hx : F t = .pointer (some ⟨b, o, none⟩)) (hb : Box w b T0 cs) (hv : (cs.drop o).take vs.length = vs) : (results fn (mk n F).tmps).run P w = .ok (.agg vs.toArray) w := by
  have := mk_get n F t (blt ht)
  have h3 : (loadVar T ⟨b, o, none⟩).run P w = .ok (.agg vs.toArray) w := by
    have h := run_loadA (P := P) (w := w) hT hD (a := ⟨b, o, none⟩) hs (fun j v hj => by
      rw [add0, hb.cell, ← hj, ← hv, List.getElem?_take]
      have : j < vs.length := (List.getElem?_eq_some_iff.1 hj).1
      rw [if_pos this, List.getElem?_drop])
    simpa [Instr.loadAt, run_sureAddr] using h
  simp [results, hres, Array.getD_eq_getD_getElem?, this, hx, asAddr, h3]
end
end
end Go.Fw
