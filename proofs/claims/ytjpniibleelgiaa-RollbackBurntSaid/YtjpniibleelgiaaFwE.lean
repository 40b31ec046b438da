/- One lemma an operation: the operations that make or write memory. Program-independent. -/
import Derived.Test.YtjpniibleelgiaaFwD
set_option linter.unusedSimpArgs false
set_option linter.unusedVariables false
namespace Go.Fw
open Go.RowKit

theorem foldset (off : Nat) : ∀ (cs : List Value) (k : Nat) (cells : Array Value), off + k + cs.length ≤ cells.size →
    ((cs.zipIdx k).foldl (fun a p => a.setIfInBounds (off + p.2) p.1) cells).toList = cells.toList.take (off + k) ++ cs ++ cells.toList.drop (off + k + cs.length)
  | [], k, cells, _ => by simp
  | c :: cs, k, cells, h => by
    simp only [List.length_cons] at h
    rw [List.zipIdx_cons, List.foldl_cons, foldset off cs (k + 1) _ (by simp; omega)]
    have e := list_seg_step cells.toList (off + k) c cs (by simp; omega)
    simpa [Array.toList_setIfInBounds, Nat.add_assoc] using e

theorem fill_one {place : Nat → Option (Nat × Nat)} {i off : Nat} {cells : Array Value} {v : Value} {rest : List (Nat × Value)} {cs : List Value} (hp : place i = some (off, cs.length)) (hv : v.cells = cs.toArray) (hl : off + cs.length ≤ cells.size) :
    Instr.fill place cells ((i, v) :: rest) = Instr.fill place (cells.toList.take off ++ cs ++ cells.toList.drop (off + cs.length)).toArray rest := by
  have hf := foldset off cs 0 cells (by simpa using hl)
  simp only [Nat.add_zero] at hf
  have h2 : (v.cells.zipIdx.foldl (fun cs (c, j) => cs.setIfInBounds (off + j) c) cells) = (cells.toList.take off ++ cs ++ cells.toList.drop (off + cs.length)).toArray := by
    apply Array.ext'
    rw [← hf, hv]
    simp
  rw [Instr.fill]
  simp only [hp]
  have h3 : ¬ (v.cells.size ≠ cs.length ∨ off + v.cells.size > cells.size) := by rw [hv]; simp; omega
  rw [hv] at h2 h3 ⊢
  simp only [ne_eq, decide_not, Bool.or_eq_true] at h3 ⊢
  split
  · rename_i h4; exfalso; revert h4; simp; omega
  · rw [h2]

/-- All parts in their order: their cells one behind the other. -/
theorem fill_all {size : Nat} : ∀ (vs : List Value) (css : List (List Value)) (k : Nat) (cells : Array Value), vs.length = css.length → (∀ (i : Nat) (v : Value) (cs : List Value), vs[i]? = some v → css[i]? = some cs → v.cells = cs.toArray ∧ cs.length = size) →
    cells.size = (k + vs.length) * size → Instr.fill (fun i => some (i * size, size)) cells ((vs.zipIdx k).map fun p => (p.2, p.1)) = some (cells.toList.take (k * size) ++ css.flatten).toArray
  | [], [], k, cells, _, _, hs => by
    simp only [List.zipIdx_nil, List.map_nil, Instr.fill, List.flatten_nil, List.append_nil]
    simp only [List.length_nil, Nat.add_zero] at hs
    rw [List.take_of_length_le (by simp [hs])]
  | v :: vs, cs :: css, k, cells, hl, h, hs => by
    obtain ⟨hv, hc⟩ := h 0 v cs rfl rfl
    simp only [List.length_cons] at hs hl
    have e1 : (k + (vs.length + 1)) * size = k * size + size + vs.length * size := by
      rw [Nat.add_mul, Nat.add_mul, Nat.one_mul]; omega
    rw [List.zipIdx_cons, List.map_cons, fill_one (cs := cs) (off := k * size) (by rw [hc]) hv (by rw [hc, hs, e1]; omega)]
    have hsz : (cells.toList.take (k * size) ++ cs ++ cells.toList.drop (k * size + cs.length)).toArray.size = (k + 1 + vs.length) * size := by
      have e2 : (k + 1 + vs.length) * size = k * size + size + vs.length * size := by rw [Nat.add_mul, Nat.add_mul, Nat.one_mul]
      simp only [List.size_toArray, List.length_append, List.length_take, List.length_drop, Array.length_toList, hs, hc, e2, e1]
      omega
    rw [fill_all vs css (k + 1) _ (by omega) (fun i v' cs' h1 h2 => h (i + 1) v' cs' (by simpa using h1) (by simpa using h2)) hsz]
    have e3 : (k + 1) * size = k * size + size := by rw [Nat.add_mul, Nat.one_mul]
    have e4 : (List.take (k * size) cells.toList).length = k * size := by simp only [List.length_take, Array.length_toList, hs, e1]; omega
    have e5 : List.take ((k + 1) * size) (List.take (k * size) cells.toList ++ cs ++ List.drop (k * size + cs.length) cells.toList).toArray.toList = List.take (k * size) cells.toList ++ cs := by
      apply List.take_left'
      rw [List.length_append, e4, hc, e3]
    rw [e5, List.flatten_cons, List.append_assoc]
  | [], _ :: _, _, _, hl, _, _ => by simp at hl
  | _ :: _, [], _, _, hl, _, _ => by simp at hl

section
variable {P : Program} {ty : TypeId} {F : Fr} {w w0 : World} {O0 B : List Nat} {K : Value → World → Prop} {Z : List PanicEntry → World → Prop} {x y : Operand}

def zeroT (P : Program) (t : TypeId) : Option Value := (P.info? t).bind (·.zero)
theorem run_zero {t : TypeId} {z : Value} (h : zeroT P t = some z) : (zeroValue t).run P w = .ok z w := by
  unfold zeroT at h
  obtain ⟨i, hi, hz⟩ := Option.bind_eq_some_iff.1 h
  simp [zeroValue, typeInfo, hi, hz]

theorem Mv.alloc (B : List Nat) (w : World) (o : Obj) : Mv B w (w.heap.size :: B) (w.alloc o) := ⟨Keep.alloc _ _ _, fun b hb => by rcases List.mem_cons.1 hb with h | h; exact .inr (by omega); exact .inl h⟩
theorem Mv.alloc' (B : List Nat) (w : World) (o : Obj) : Mv B w B (w.alloc o) := ⟨Keep.alloc _ _ _, fun _ hb => .inl hb⟩
theorem St.alloc (s : St w0 O0 w B) (o : Obj) : St w0 O0 (w.alloc o) (w.heap.size :: B) :=
  s.step (Mv.alloc B w o) (fun b hb => by
    rcases List.mem_cons.1 hb with h | h
    · subst h; simp
    · have := (s.new b h).2; simp; omega)
theorem St.alloc' (s : St w0 O0 w B) (o : Obj) : St w0 O0 (w.alloc o) B := s.call (Keep.alloc _ _ _)
theorem St.set {b i : Nat} {u : Value} (s : St w0 O0 w B) (hb : b ∈ B) : St w0 O0 (w.setCell ⟨b, i, none⟩ u) B :=
  s.step ⟨Keep.setCell _ _ _ hb, fun b hb => .inl hb⟩ (fun b hb => by simpa [World.setCell] using (s.new b hb).2)

/-- A new variable of a type whose zero value's cells are 'cs'. -/
theorem o_alloc {t : TypeId} {z : Value} (cs : List Value) (hz : zeroT P t = some z) (hc : z.cells = cs.toArray) (s : St w0 O0 w B)
    (h : ∀ b w', b = w.heap.size → St w0 O0 w' (b :: B) → Mv B w (b :: B) w' → Keep [] w w' → Box w' b t cs → K (.pointer (some ⟨b, 0, none⟩)) w') : OpW P (.alloc t) ty F w K Z := by
  refine opw_run (v := .pointer (some ⟨w.heap.size, 0, none⟩)) (w' := w.alloc (.cells z.cells t)) ?_ (h _ _ rfl (s.alloc _) (Mv.alloc _ _ _) (Keep.alloc _ _ _) (by rw [hc]; exact Box.new w t cs))
  simp [execOp, Instr.alloc, run_zero hz, newVar, newRow]
theorem o_box {t : TypeId} (v : Value) (cs : List Value) (hx : evF F x = v) (hc : v.cells = cs.toArray) (s : St w0 O0 w B)
    (h : ∀ b w', b = w.heap.size → St w0 O0 w' (b :: B) → Mv B w (b :: B) w' → Keep [] w w' → Box w' b t cs → K (.pointer (some ⟨b, 0, none⟩)) w') : OpW P (.box t x) ty F w K Z := by
  refine opw_run (v := .pointer (some ⟨w.heap.size, 0, none⟩)) (w' := w.alloc (.cells v.cells t)) ?_ (h _ _ rfl (s.alloc _) (Mv.alloc _ _ _) (Keep.alloc _ _ _) (by rw [hc]; exact Box.new w t cs))
  simp [execOp, Instr.box, hx, newVar, newRow]
theorem cells_one {v : Value} (h : v.oneCell' = true) : v.cells = [v].toArray := by cases v <;> first | rfl | (simp [Value.oneCell'] at h)
/-- A store into a variable (or a part of one) of one's own. -/
theorem o_store {t T b o : Nat} {cs vs : List Value} (v : Value) (hx : evF F x = .pointer (some ⟨b, o, none⟩)) (hy : evF F y = v) (hv : v.cells = vs.toArray) (hs : sizeT P t = some vs.length) (h1 : ∀ u ∈ vs, u.oneCell' = true) (hb : b ∈ B) (hbox : Box w b T cs) (hl : o + vs.length ≤ cs.length) (s : St w0 O0 w B)
    (h : ∀ w', St w0 O0 w' B → Mv B w B w' → Keep [b] w w' → Box w' b T (cs.take o ++ vs ++ cs.drop (o + vs.length)) → K undef w') : OpW P (.store t x y) ty F w K Z := by
  have hst := run_storeCells_at P b o T vs 0 cs.toArray w hbox (by simpa using hl) h1
  simp only [Nat.add_zero] at hst
  have k : Keep [b] w (w.setRow b (cs.toArray.toList.take o ++ vs ++ cs.toArray.toList.drop (o + vs.length)).toArray) :=
    ⟨rfl, rfl, rfl, by simp, fun k _ hk => setRow_other w b k _ (fun e => hk (by simp [e]))⟩
  have m : Mv B w B (w.setRow b (cs.toArray.toList.take o ++ vs ++ cs.toArray.toList.drop (o + vs.length)).toArray) :=
    ⟨k.mono (fun c hc => by simp at hc; subst hc; exact .inl hb), fun c hc => .inl hc⟩
  refine opw_skip ?_ (h _ (s.step m (fun c hc => Nat.lt_of_lt_of_le (s.new c hc).2 k.size)) m k (setRow_heap w b cs.toArray _ T _ hbox))
  simp [execOp, hx, hy, Instr.storeAt, run_sureAddr, storeVar, run_size hs, hv, hst]
theorem o_store1 {t T b o : Nat} {cs : List Value} (v : Value) (hx : evF F x = .pointer (some ⟨b, o, none⟩)) (hy : evF F y = v) (h1 : v.oneCell' = true) (hs : sizeT P t = some 1) (hb : b ∈ B) (hbox : Box w b T cs) (hl : o < cs.length) (s : St w0 O0 w B)
    (h : ∀ w', St w0 O0 w' B → Mv B w B w' → Keep [b] w w' → Box w' b T (cs.set o v) → K undef w') : OpW P (.store t x y) ty F w K Z :=
  o_store v hx hy (cells_one h1) hs (by simpa using h1) hb hbox hl s fun w' h2 h3 h4 h5 => h w' h2 h3 h4 (by
    have : cs.set o v = cs.take o ++ [v] ++ cs.drop (o + [v].length) := by
      rw [List.set_eq_take_append_cons_drop, if_pos hl]; simp
    rw [this]; exact h5)
/-- Reading one's own variable. -/
theorem o_loadBx {t T b o : Nat} {D : TypeDesc} {cs : List Value} (ht : P.underlying t = some D) (hD : notAgg D = true) (v : Value) (hx : evF F x = .pointer (some ⟨b, o, none⟩)) (hbox : Box w b T cs) (hv : cs[o]? = some v) (h : K v w) : OpW P (.load t x) ty F w K Z :=
  opw_run (by simp [execOp, hx, run_loadC ht hD (by rw [hbox.cell]; exact hv)]) h
theorem o_loadBxA {t T b o : Nat} {D : TypeDesc} {cs vs : List Value} (ht : P.underlying t = some D) (hD : notAgg D = false) (hs : sizeT P t = some vs.length) (hx : evF F x = .pointer (some ⟨b, o, none⟩)) (hbox : Box w b T cs) (hv : (cs.drop o).take vs.length = vs) (h : K (.agg vs.toArray) w) : OpW P (.load t x) ty F w K Z :=
  opw_run (v := .agg vs.toArray) (by
    have := run_loadA (P := P) (w := w) ht hD (a := ⟨b, o, none⟩) hs (fun j v hj => by
      rw [add0, hbox.cell, ← hj, ← hv, List.getElem?_take]
      have : j < vs.length := (List.getElem?_eq_some_iff.1 hj).1
      rw [if_pos this, List.getElem?_drop])
    simp [execOp, hx, this]) h
theorem o_fieldL {s k b o : Nat} (off : Nat) (hF : fieldOff P s k = some off) (hx : evF F x = .pointer (some ⟨b, o, none⟩)) (h : K (.pointer (some ⟨b, o + off, none⟩)) w) : OpW P (.fieldAddr s x k) ty F w K Z :=
  opw_run (v := .pointer (some ⟨b, o + off, none⟩)) (by simp [execOp, hx, run_fieldAt _ hF, add0]) h
/-! ### slices of one's own -/
theorem Own.made {α : Type} (E : Enc α) (e : TypeId) {base : Nat} (O : List Nat) (w : World) (css : List (List Value)) (l : List α) (hl : css.length = l.length) (h : ∀ (i : Nat) (cs : List Value) (x : α), css[i]? = some cs → l[i]? = some x → E.rd w O cs x)
    (hb : base ≤ w.heap.size) (hm : l.length ≤ maxLen) :
    Own E e base (w.heap.size :: O) (w.alloc (.cells css.flatten.toArray e)) (.slice (some ⟨w.heap.size, 0, none⟩) l.length l.length) l := by
  have hlens := Own.lens hl h
  have hf := flat_len css hlens
  refine ⟨css, hl, ⟨by rw [hf, hl], .inr ⟨w.heap.size, l.length, css.flatten.toArray, rfl, hb, heap_alloc_new w _, Nat.le_refl _, hm, by simp [← hl, ← hf], ?_⟩⟩, fun i cs x h1 h2 => ?_⟩
  · rw [List.take_of_length_le (by rw [← hl]; simpa using Nat.le_of_eq hf)]
  · have := E.mv (w' := w.alloc (.cells css.flatten.toArray e)) (B := []) (B' := [w.heap.size]) (O := O) (h i cs x h1 h2) ⟨Keep.alloc _ _ _, fun b hb => .inr (by simp at hb; omega)⟩
    exact this
theorem run_lit {t e : TypeId} {z : Value} {size : Nat} (ht : P.underlying t = some (.slice e)) (hs : sizeT P e = some size) (hz : zeroT P e = some z) (hpos : 0 < size) (vs : List Value) (css : List (List Value)) (hl : vs.length = css.length)
    (h : ∀ (i : Nat) (v : Value) (cs : List Value), vs[i]? = some v → css[i]? = some cs → v.cells = cs.toArray ∧ cs.length = size) (hsmall : vs.length * size ≤ 16777216) :
    (Instr.buildSlice t vs.length ((vs.zipIdx 0).map fun p => (p.2, p.1)).toArray).run P w = .ok (.slice (some ⟨w.heap.size, 0, none⟩) vs.length vs.length) (w.alloc (.cells css.flatten.toArray e)) := by
  have hns : ¬ (16777216 < vs.length * size) := by omega
  by_cases h0 : vs.length * size = 0
  · have hv : vs = [] := by
      rcases Nat.mul_eq_zero.1 h0 with h1 | h1
      · exact List.eq_nil_of_length_eq_zero h1
      · omega
    subst hv
    have hc : css = [] := List.eq_nil_of_length_eq_zero (by simpa using hl.symm)
    subst hc
    simp [Instr.buildSlice, run_underlying ht, run_size hs, Instr.fill, newRow, Array.range_zero']
  · have hf := fill_all (size := size) vs css 0 ((Array.range (vs.length * size)).map (z.cells[· % z.cells.size]!)) hl h (by simp)
    simp only [Nat.zero_mul, List.take_zero, List.nil_append] at hf
    have h0' : ¬ (vs.length = 0 ∨ size = 0) := fun h => h0 (Nat.mul_eq_zero.2 h)
    simp only [Instr.buildSlice, Sem.run_bind, run_underlying ht, Result.andThen_ok, run_size hs]
    rw [if_neg (by omega), if_neg h0]
    simp [run_zero hz, hf, newRow]

theorem parts_map (F : Fr) (xs : List Operand) (vs : List Value) (hv : xs.map (evF F) = vs) : (((xs.zipIdx 0).map fun p => (p.2, p.1)).toArray.map fun (i, x) => (i, evF F x)) = ((vs.zipIdx 0).map fun p => (p.2, p.1)).toArray := by
  subst hv
  simp only [List.map_toArray, List.map_map, List.zipIdx_map]
  rfl
/-- What a literal's parts come to. -/
structure Parts {α : Type} (E : Enc α) (w : World) (O : List Nat) (vs : List Value) (css : List (List Value)) (l : List α) : Prop where
  lv : vs.length = l.length
  lc : css.length = l.length
  cells : ∀ (i : Nat) (v : Value) (cs : List Value), vs[i]? = some v → css[i]? = some cs → v.cells = cs.toArray
  rd : ∀ (i : Nat) (cs : List Value) (x : α), css[i]? = some cs → l[i]? = some x → E.rd w O cs x
theorem Parts.nil {α : Type} (E : Enc α) (w : World) (O : List Nat) : Parts E w O [] [] [] := ⟨rfl, rfl, fun i v cs h => by simp at h, fun i cs x h => by simp at h⟩
theorem Parts.cons {α : Type} {E : Enc α} {w : World} {O : List Nat} {v : Value} {cs : List Value} {x : α} {vs : List Value} {css : List (List Value)} {l : List α} (hc : v.cells = cs.toArray) (hr : E.rd w O cs x) (h : Parts E w O vs css l) : Parts E w O (v :: vs) (cs :: css) (x :: l) :=
  ⟨by simp [h.lv], by simp [h.lc], fun i u c h1 h2 => by
    cases i with
    | zero => simp at h1 h2; subst h1; subst h2; exact hc
    | succ i => exact h.cells i u c (by simpa using h1) (by simpa using h2), fun i c y h1 h2 => by
    cases i with
    | zero => simp at h1 h2; subst h1; subst h2; exact hr
    | succ i => exact h.rd i c y (by simpa using h1) (by simpa using h2)⟩
theorem run_litF {α : Type} {E : Enc α} {O : List Nat} {t e n : Nat} {z : Value} {ps : Array (Nat × Operand)} {xs : List Operand} (ht : P.underlying t = some (.slice e)) (hs : sizeT P e = some E.size) (hz : zeroT P e = some z) (hpos : 0 < E.size)
    (vs : List Value) (css : List (List Value)) (l : List α) (hps : ps = ((xs.zipIdx 0).map fun p => (p.2, p.1)).toArray) (hv : xs.map (evF F) = vs) (hn : n = l.length) (hp : Parts E w O vs css l) (hsmall : l.length * E.size ≤ 16777216) :
    (execOp (evF F) ⟨none, .buildSlice t n ps, ty, "", #[], none⟩).run P w = .ok (.value (.slice (some ⟨w.heap.size, 0, none⟩) l.length l.length)) (w.alloc (.cells css.flatten.toArray e)) := by
  have hr := run_lit (P := P) (w := w) ht hs hz hpos vs css (by rw [hp.lv, hp.lc]) (fun i v cs h1 h2 => ⟨hp.cells i v cs h1 h2, by
    have hi : i < l.length := by rw [← hp.lc]; exact (List.getElem?_eq_some_iff.1 h2).1
    exact E.len (hp.rd i cs l[i] h2 (List.getElem?_eq_getElem hi))⟩) (by rw [hp.lv]; exact hsmall)
  rw [hp.lv] at hr
  subst hps; subst hn
  simp only [execOp, parts_map F xs vs hv]
  simp [hr]
/-- A literal '[]T{..}' that is read alone. -/
theorem o_lit {α : Type} {E : Enc α} {t e n : Nat} {z : Value} {ps : Array (Nat × Operand)} {xs : List Operand} (ht : P.underlying t = some (.slice e)) (hs : sizeT P e = some E.size) (hz : zeroT P e = some z) (hpos : 0 < E.size)
    (vs : List Value) (css : List (List Value)) (l : List α) (hps : ps = ((xs.zipIdx 0).map fun p => (p.2, p.1)).toArray) (hv : xs.map (evF F) = vs) (hn : n = l.length) (hp : Parts E w (B ++ O0) vs css l) (hsmall : l.length * E.size ≤ 16777216) (s : St w0 O0 w B)
    (h : ∀ v w', St w0 O0 w' B → Mv B w B w' → Keep [] w w' → RdL E w' (B ++ O0) v l → K v w') : OpW P (.buildSlice t n ps) ty F w K Z := by
  refine opw_run (run_litF ht hs hz hpos vs css l hps hv hn hp hsmall) (h _ _ (s.alloc' _) (Mv.alloc' _ _ _) (Keep.alloc _ _ _) ?_)
  have ho := Own.made E e (base := 0) (B ++ O0) w css l hp.lc hp.rd (Nat.zero_le _) (by simp only [maxLen]; have : l.length ≤ l.length * E.size := Nat.le_mul_of_pos_right _ hpos; omega)
  exact ho.rd (fun b hb => .inl (by simp; simp at hb; exact .inr hb)) (fun b hb hB => by
    simp [Value.ownBlock] at hb; subst hb
    exact Nat.lt_irrefl _ (s.lt _ hB))
/-- A literal '[]T{..}' of one's own. -/
theorem o_litO {α : Type} {E : Enc α} {t e n : Nat} {z : Value} {ps : Array (Nat × Operand)} {xs : List Operand} (ht : P.underlying t = some (.slice e)) (hs : sizeT P e = some E.size) (hz : zeroT P e = some z) (hpos : 0 < E.size)
    (vs : List Value) (css : List (List Value)) (l : List α) (hps : ps = ((xs.zipIdx 0).map fun p => (p.2, p.1)).toArray) (hv : xs.map (evF F) = vs) (hn : n = l.length) (hp : Parts E w (B ++ O0) vs css l) (hsmall : l.length * E.size ≤ 16777216) (s : St w0 O0 w B)
    (h : ∀ v b w', b = w.heap.size → v.ownBlock = some b → St w0 O0 w' (b :: B) → Mv B w (b :: B) w' → Keep [] w w' → Own E e w0.heap.size ((b :: B) ++ O0) w' v l → K v w') : OpW P (.buildSlice t n ps) ty F w K Z := by
  refine opw_run (run_litF ht hs hz hpos vs css l hps hv hn hp hsmall) (h _ _ _ rfl rfl (s.alloc _) (Mv.alloc _ _ _) (Keep.alloc _ _ _) ?_)
  exact Own.made E e (B ++ O0) w css l hp.lc hp.rd s.keep.size (by simp only [maxLen]; have : l.length ≤ l.length * E.size := Nat.le_mul_of_pos_right _ hpos; omega)

/-- 'append(s, x..)' on a slice of one's own, from whatever source that reads as a list. -/
theorem o_append {α : Type} {E : Enc α} {t e : Nat} {z : Value} {bytes : Nat} {v u : Value} {l m : List α} {O' : List Nat} (ht : P.underlying t = some (.slice e)) (hi : (P.info? e).map (fun i => (i.zero, i.size, i.bytes)) = some (some z, E.size, bytes)) (hzs : z.cells.size = E.size) (hpos : 0 < E.size)
    (hx : evF F x = v) (hy : evF F y = u) (ho : Own E e w0.heap.size (B ++ O0) w v l) (hu : RdL E w O' u m) (hO' : ∀ b ∈ B ++ O0, b ∈ O' ∨ w.heap.size ≤ b) (hv : ∀ b, v.ownBlock = some b → b ∈ B) (hlen : (l.length + m.length) * bytes ≤ 140737488355328) (hlm : l.length + m.length ≤ maxLen) (s : St w0 O0 w B)
    (h : ∀ v' w' B', (∀ b, v'.ownBlock = some b → b ∈ B') → (v'.ownBlock = v.ownBlock ∨ v'.ownBlock = some w.heap.size) → (∀ b ∈ B, b ∈ B') → St w0 O0 w' B' → Mv B w B' w' → Keep v.ownBlock.toList w w' → Own E e w0.heap.size (B' ++ O0) w' v' (l ++ m) → K v' w') :
    OpW P (.call { callee := .builtin .append, args := #[x, y], argTypes := #[t, t] }) ty F w K Z := by
  obtain ⟨i, hi1, hi2, hi3, hi4⟩ := info_parts hi
  obtain ⟨css, h1, h2, h3⟩ := ho
  obtain ⟨A, c, rfl, h4, h5, h6⟩ := hu
  -- the source's cells
  have hsrc : ∃ css' : List (List Value), css'.length = m.length ∧ (∀ (j : Nat) (cs : List Value) (y : α), css'[j]? = some cs → m[j]? = some y → E.rd w O' cs y) ∧ (∀ ad, A = some ad → ∀ j u, css'.flatten[j]? = some u → w.cell? (ad.add j) = some u) := by
    have hex : ∀ j, j < m.length → ∃ cs : List Value, (∀ y, m[j]? = some y → E.rd w O' cs y) ∧ cs.length = E.size ∧ ∀ ad, A = some ad → Cells w O' (ad.add (j * E.size)) cs := by
      intro j hj
      obtain ⟨ad, cs, hA, hc, hr⟩ := h6 j m[j] (List.getElem?_eq_getElem hj)
      refine ⟨cs, fun y hy => ?_, E.len hr, fun ad' h' => ?_⟩
      · rw [List.getElem?_eq_getElem hj] at hy; cases hy; exact hr
      · rw [hA] at h'; cases h'; exact hc
    have hch : ∃ f : Nat → List Value, ∀ j, j < m.length → (∀ y, m[j]? = some y → E.rd w O' (f j) y) ∧ (f j).length = E.size ∧ ∀ ad, A = some ad → Cells w O' (ad.add (j * E.size)) (f j) := by
      classical
      refine ⟨fun j => if hj : j < m.length then Classical.choose (hex j hj) else [], fun j hj => ?_⟩
      simp only [hj, dif_pos]
      exact Classical.choose_spec (hex j hj)
    obtain ⟨f, hf⟩ := hch
    refine ⟨(List.range m.length).map f, by simp, fun j cs y hj hy => ?_, fun ad hA j u hj => ?_⟩
    · have hjl : j < m.length := (List.getElem?_eq_some_iff.1 hy).1
      simp [hjl] at hj
      subst hj; exact (hf j hjl).1 y hy
    · have hl : ∀ cs ∈ (List.range m.length).map f, cs.length = E.size := by
        intro cs hcs
        obtain ⟨q, hq, rfl⟩ := List.mem_map.1 hcs
        exact (hf q (by simpa using hq)).2.1
      have hjlt : j < m.length * E.size := by
        have := (List.getElem?_eq_some_iff.1 hj).1
        rw [flat_len _ hl] at this; simpa using this
      have hq : j / E.size < m.length := (Nat.div_lt_iff_lt_mul hpos).2 hjlt
      have hr2 : j % E.size < E.size := Nat.mod_lt _ hpos
      have hfg := flat_get (n := E.size) ((List.range m.length).map f) (j / E.size) (j % E.size) hl hr2
      rw [Nat.mul_comm, Nat.div_add_mod] at hfg
      rw [hfg] at hj
      simp [hq] at hj
      have hc := ((hf _ hq).2.2 ad hA).2.2 (j % E.size) u hj
      rw [add_add, Nat.mul_comm, Nat.div_add_mod] at hc
      exact hc
  obtain ⟨css', k1, k2, k3⟩ := hsrc
  have hlens' : ∀ cs ∈ css', cs.length = E.size := Own.lens k1 k2
  have hones : ∀ u ∈ css'.flatten, u.oneCell' = true := by
    intro u hu
    obtain ⟨cs, hcs, hucs⟩ := List.mem_flatten.1 hu
    obtain ⟨j, hj, rfl⟩ := List.getElem_of_mem hcs
    exact E.one (k2 j _ m[j] (List.getElem?_eq_getElem hj) (List.getElem?_eq_getElem (by omega))) u hucs
  have hlen' : css'.flatten.length = m.length * E.size := by rw [flat_len css' hlens', k1]
  have fin : ∀ v' w' B', w'.ownsRow w0.heap.size e E.size v' (l.length + m.length) (css.flatten ++ css'.flatten) → Mv B w B' w' → Own E e w0.heap.size (B' ++ O0) w' v' (l ++ m) := by
    intro v' w' B' hr hmv
    refine ⟨css ++ css', by simp [h1, k1], by simpa using hr, fun j cs y hj hy => ?_⟩
    by_cases hjl : j < l.length
    · rw [List.getElem?_append_left (by omega)] at hj hy
      exact E.mv (h3 j cs y hj hy) hmv
    · rw [List.getElem?_append_right (by omega)] at hj hy
      rw [h1] at hj
      exact E.mv (E.sub (k2 _ cs y hj hy) hO') hmv
  have step : ∀ v' w', (Builtin.append_ #[t, t] ty #[v, .slice A m.length c]).run P w = .ok v' w' → w'.ownsRow w0.heap.size e E.size v' (l.length + m.length) (css.flatten ++ css'.flatten) → w.grownBy w' v.ownBlock → (v'.ownBlock = v.ownBlock ∨ v'.ownBlock = some w.heap.size) →
      OpW P (.call { callee := .builtin .append, args := #[x, y], argTypes := #[t, t] }) ty F w K Z := by
    intro v' w' hr hown hg hat
    have hk : Keep v.ownBlock.toList w w' := Keep.of_grown hg
    have hB : Keep B w w' := hk.mono (fun b hb => .inl (hv b (by simpa using hb)))
    have hown' := hown.lt
    rcases hat with hat | hat
    · have mv : Mv B w B w' := ⟨hB, fun b hb => .inl hb⟩
      exact opw_run (v := v') (w' := w') (by simp [execOp, resolve, invoke, builtin, hx, hy, hr]) (h v' w' B (fun b hb => hv b (by rw [← hat]; exact hb)) (.inl hat) (fun b hb => hb) (s.step mv (fun b hb => Nat.lt_of_lt_of_le (s.new b hb).2 hk.size)) mv hk (fin v' w' B hown mv))
    · have mv : Mv B w (w.heap.size :: B) w' := ⟨hB, fun b hb => by rcases List.mem_cons.1 hb with h | h; exact .inr (by omega); exact .inl h⟩
      exact opw_run (v := v') (w' := w') (by simp [execOp, resolve, invoke, builtin, hx, hy, hr]) (h v' w' (w.heap.size :: B) (fun b hb => by rw [hat] at hb; cases hb; simp) (.inr hat) (fun b hb => by simp [hb])
        (s.step mv (fun b hb => by
          rcases List.mem_cons.1 hb with h | h
          · subst h; exact (hown' _ hat).2
          · exact Nat.lt_of_lt_of_le (s.new b h).2 hk.size)) mv hk (fin v' w' _ hown mv))
  rcases A with _ | ad
  · have hm0 : m = [] := by
      cases m with
      | nil => rfl
      | cons b r => obtain ⟨_, _, h, _⟩ := h6 0 b rfl; cases h
    subst hm0
    have hc0 : css' = [] := List.eq_nil_of_length_eq_zero (by simpa using k1)
    subst hc0
    refine step v w ?_ (by simpa using h2) ⟨rfl, rfl, rfl, Nat.le_refl _, fun _ _ _ => rfl⟩ (.inl rfl)
    rcases h2.2 with ⟨rfl, h0⟩ | ⟨g, cap, cur, rfl, _, _, hnc, _⟩
    · simp [Builtin.append_, run_underlying ht, sizeOf, typeInfo, hi1, Builtin.lenOf, Builtin.firstCells]
    · simp [Builtin.append_, run_underlying ht, sizeOf, typeInfo, hi1, Builtin.lenOf, Builtin.firstCells, hnc, storeCells]
  · obtain ⟨v', w', hr, g1, g2, _, g4⟩ := run_append_own_at (P := P) w w0.heap.size t ty e i z E.size bytes ht hi1 hi2 hi3 hi4 hzs hpos v l.length css.flatten h2 ad m.length c css'.flatten hlen' (k3 ad rfl) hones hlm hlen s.keep.size
    exact step v' w' hr g1 g2 g4

end
end Go.Fw
