/- Slices as they lie (raw): parts, capacities, an append of zero values, copies; a list put into a slice of one's own. Program-independent. -/
import Derived.Test.YtjpniibleelgiaaFwX
import Derived.Lib.AppendZerosOnto
import Derived.Lib.Overlaps
import Derived.Laws.CopyRow
set_option linter.unusedSimpArgs false
set_option linter.unusedVariables false
namespace Go.Fw
open Go.RowKit

def splice (cur : List Value) (o : Nat) (ms : List Value) : List Value := cur.take o ++ ms ++ cur.drop (o + ms.length)
theorem splice_len {cur : List Value} {o : Nat} {ms : List Value} (h : o + ms.length ≤ cur.length) : (splice cur o ms).length = cur.length := by
  simp [splice]; omega
theorem Keep.step0 {C O : List Nat} {w w1 w2 : World} (h : Keep C w w1) (k : Keep O w1 w2) (hs : ∀ b ∈ O, b ∈ C ∨ w.heap.size ≤ b) : Keep C w w2 :=
  ⟨k.os.trans h.os, k.tape.trans h.tape, k.output.trans h.output, Nat.le_trans h.size k.size, fun i hi ho => (k.block i (Nat.lt_of_lt_of_le hi h.size) (fun hO => by rcases hs i hO with h1 | h1; exact ho h1; omega)).trans (h.block i hi ho)⟩
/-- How the elements of a slice of one's own read. -/
def Rds {α : Type} (E : Enc α) (w : World) (O : List Nat) (css : List (List Value)) (l : List α) : Prop :=
  css.length = l.length ∧ ∀ (i : Nat) (cs : List Value) (x : α), css[i]? = some cs → l[i]? = some x → E.rd w O cs x
theorem own_open {α : Type} {E : Enc α} {e base : Nat} {O : List Nat} {w : World} {v : Value} {l : List α} (h : Own E e base O w v l) (h0 : 0 < l.length) :
    ∃ g c cur css, v = .slice (some ⟨g, 0, none⟩) l.length c ∧ base ≤ g ∧ Box w g e cur ∧ l.length ≤ c ∧ c ≤ maxLen ∧ cur.length = c * E.size ∧ css.flatten = cur.take (l.length * E.size) ∧ Rds E w O css l := by
  obtain ⟨css, h1, h2, h3⟩ := h
  rcases h2.2 with ⟨rfl, h4⟩ | ⟨g, cap, cur, rfl, hb, hg, hc, hm, hsz, htk⟩
  · omega
  · exact ⟨g, cap, cur.toList, css, rfl, hb, hg, hc, hm, by simpa using hsz, htk.symm, h1, h3⟩
theorem Rds.lens {α : Type} {E : Enc α} {w : World} {O : List Nat} {css : List (List Value)} {l : List α} (h : Rds E w O css l) : ∀ cs ∈ css, cs.length = E.size := Own.lens h.1 h.2
theorem Rds.ones {α : Type} {E : Enc α} {w : World} {O : List Nat} {css : List (List Value)} {l : List α} (h : Rds E w O css l) : ∀ u ∈ css.flatten, u.oneCell' = true := by
  intro u hu
  obtain ⟨cs, hcs, hucs⟩ := List.mem_flatten.1 hu
  obtain ⟨j, hj, rfl⟩ := List.getElem_of_mem hcs
  have hjl : j < l.length := by rw [← h.1]; exact hj
  exact E.one (h.2 j _ l[j] (List.getElem?_eq_getElem hj) (List.getElem?_eq_getElem hjl)) u hucs
theorem Rds.flen {α : Type} {E : Enc α} {w : World} {O : List Nat} {css : List (List Value)} {l : List α} (h : Rds E w O css l) : css.flatten.length = l.length * E.size := by rw [flat_len css h.lens, h.1]
/-- A list put into another one. -/
theorem Own.ins {α : Type} {E : Enc α} {e base : Nat} {B B' O0 : List Nat} {w1 w' : World} {g c i : Nat} {cur : List Value} {css css' : List (List Value)} {l m : List α} (hl : Rds E w1 (B ++ O0) css l) (hm : Rds E w1 (B ++ O0) css' m) (mv : Mv B w1 B' w')
    (hb : Box w' g e cur) (hg : base ≤ g) (hi : i ≤ l.length) (hlen : cur.length = c * E.size) (hc : l.length + m.length ≤ c) (hmax : c ≤ maxLen) (htk : cur.take ((l.length + m.length) * E.size) = (css.take i).flatten ++ css'.flatten ++ (css.drop i).flatten) :
    Own E e base (B' ++ O0) w' (.slice (some ⟨g, 0, none⟩) (l.length + m.length) c) (l.take i ++ m ++ l.drop i) := by
  have hll : (l.take i ++ m ++ l.drop i).length = l.length + m.length := by simp; omega
  refine ⟨css.take i ++ css' ++ css.drop i, ?_, ⟨?_, .inr ⟨g, c, cur.toArray, by rw [hll], hg, hb, by rw [hll]; exact hc, hmax, by simpa using hlen, by rw [hll]; simpa using htk⟩⟩, ?_⟩
  · simp [hl.1, hm.1]
  · rw [hll]
    have e1 : (css.take i ++ css' ++ css.drop i).flatten = (css.take i).flatten ++ css'.flatten ++ (css.drop i).flatten := by simp
    rw [e1, ← htk, List.length_take]
    exact Nat.min_eq_left (by rw [hlen]; exact Nat.mul_le_mul_right _ hc)
  · intro j cs x hj hx
    have e1 : (css.take i).length = i := by rw [List.length_take, hl.1]; omega
    have e2 : (l.take i).length = i := by rw [List.length_take]; omega
    rw [List.append_assoc] at hj hx
    by_cases h1 : j < i
    · rw [List.getElem?_append_left (by omega), List.getElem?_take, if_pos h1] at hj
      rw [List.getElem?_append_left (by omega), List.getElem?_take, if_pos h1] at hx
      exact E.mv (hl.2 j cs x hj hx) mv
    · rw [List.getElem?_append_right (by omega), e1] at hj
      rw [List.getElem?_append_right (by omega), e2] at hx
      by_cases h2 : j - i < m.length
      · rw [List.getElem?_append_left (by rw [hm.1]; exact h2)] at hj
        rw [List.getElem?_append_left h2] at hx
        exact E.mv (hm.2 _ cs x hj hx) mv
      · rw [List.getElem?_append_right (by rw [hm.1]; omega), List.getElem?_drop, hm.1] at hj
        rw [List.getElem?_append_right (by omega), List.getElem?_drop] at hx
        exact E.mv (hl.2 _ cs x hj hx) mv

section
variable {cur cu cur1 : List Value} {css css' : List (List Value)} {n m i c G s : Nat}
theorem part_A (hcur : css.flatten = cur.take (n * s)) (hl : ∀ cs ∈ css, cs.length = s) (hn : css.length = n) (hi : i ≤ n) (hc : n * s ≤ cur.length) : (css.take i).flatten = cur.take (i * s) := by
  have h1 : css.flatten = (css.take i).flatten ++ (css.drop i).flatten := by rw [← List.flatten_append, List.take_append_drop]
  have h2 : (css.take i).flatten.length = i * s := by
    rw [flat_len _ (fun c hc => hl c (List.mem_of_mem_take hc)), List.length_take, hn, Nat.min_eq_left hi]
  have h3 : (css.flatten).take (i * s) = (css.take i).flatten := by rw [h1, ← h2, List.take_left]
  rw [← h3, hcur, List.take_take, Nat.min_eq_left (Nat.mul_le_mul_right _ hi)]
theorem part_B (hcur : css.flatten = cur.take (n * s)) (hl : ∀ cs ∈ css, cs.length = s) (hn : css.length = n) (hi : i ≤ n) (hc : n * s ≤ cur.length) : (css.drop i).flatten = (cur.drop (i * s)).take ((n - i) * s) := by
  have h1 : css.flatten = (css.take i).flatten ++ (css.drop i).flatten := by rw [← List.flatten_append, List.take_append_drop]
  have h2 : (css.take i).flatten.length = i * s := by
    rw [flat_len _ (fun c hc => hl c (List.mem_of_mem_take hc)), List.length_take, hn, Nat.min_eq_left hi]
  have h3 : (css.flatten).drop (i * s) = (css.drop i).flatten := by rw [h1, ← h2, List.drop_left]
  rw [← h3, hcur, List.drop_take, Nat.sub_mul]
theorem ones_drop {α : Type} {E : Enc α} {w : World} {O : List Nat} {l : List α} (h : Rds E w O css l) (hcur : css.flatten = cur.take (l.length * E.size)) (hi : i ≤ l.length) (hc : l.length * E.size ≤ cur.length) : ∀ u ∈ (cur.drop (i * E.size)).take ((l.length - i) * E.size), u.oneCell' = true := by
  rw [← part_B hcur h.lens h.1 hi hc]
  intro u hu
  refine h.ones u ?_
  obtain ⟨x, hx, hux⟩ := List.mem_flatten.1 hu
  exact List.mem_flatten.2 ⟨x, List.mem_of_mem_drop hx, hux⟩
theorem ones_all {α : Type} {E : Enc α} {w : World} {O : List Nat} {l : List α} (h : Rds E w O css l) (hcur : css.flatten = cur.take (l.length * E.size)) : ∀ u ∈ (cur.drop 0).take (l.length * E.size), u.oneCell' = true := by
  rw [List.drop_zero, ← hcur]; exact h.ones
/-- What stands in the new row. -/
theorem tk_grow (hcur : css.flatten = cur.take (n * s)) (hl : ∀ cs ∈ css, cs.length = s) (hn : css.length = n) (hi : i ≤ n) (hc : n * s ≤ cur.length) (hcu : css'.flatten = cu.take (m * s)) (hm : css'.flatten.length = m * s)
    (h1 : cur1.take (i * s) = cur.take (i * s)) (hG : (n + m) * s ≤ cur1.length) :
    (splice (splice cur1 (i * s) ((cu.drop 0).take (m * s))) ((i + m) * s) ((cur.drop (i * s)).take ((n - i) * s))).take ((n + m) * s) = (css.take i).flatten ++ css'.flatten ++ (css.drop i).flatten := by
  have hA := part_A hcur hl hn hi hc
  have hB := part_B hcur hl hn hi hc
  have ha : (css.take i).flatten.length = i * s := by rw [hA, List.length_take]; exact Nat.min_eq_left (Nat.le_trans (Nat.mul_le_mul_right _ hi) hc)
  have hb : (css.drop i).flatten.length = (n - i) * s := by
    rw [flat_len _ (fun c hc => hl c (List.mem_of_mem_drop hc)), List.length_drop, hn]
  have e1 : (n + m) * s = i * s + m * s + (n - i) * s := by rw [← Nat.add_mul, ← Nat.add_mul]; congr 1; omega
  have e2 : (i + m) * s = i * s + m * s := Nat.add_mul _ _ _
  have hc1 : cur1 = (css.take i).flatten ++ cur1.drop (i * s) := by rw [hA, ← h1, List.take_append_drop]
  rw [List.drop_zero, ← hcu, ← hB, e1, e2]
  clear hcu hcur hA hB
  generalize (css.take i).flatten = A at ha hc1 ⊢
  generalize css'.flatten = M at hm ⊢
  generalize (css.drop i).flatten = B at hb ⊢
  generalize cur1.drop (i * s) = T at hc1
  have hs1 : splice cur1 (i * s) M = A ++ M ++ T.drop M.length := by
    unfold splice
    rw [hc1, ← ha, List.take_left, List.drop_length_add_append]
  rw [hs1]
  unfold splice
  rw [← ha, ← hm, ← List.length_append, List.take_left, ← hb]
  rw [← List.length_append (as := A ++ M), List.take_left]
theorem tk_shift (hcur : css.flatten = cur.take (n * s)) (hl : ∀ cs ∈ css, cs.length = s) (hn : css.length = n) (hi : i ≤ n) (hc : (n + m) * s ≤ cur.length) (hcu : css'.flatten = cu.take (m * s)) (hm : css'.flatten.length = m * s) :
    (splice (splice cur ((i + m) * s) ((cur.drop (i * s)).take ((n - i) * s))) (i * s) ((cu.drop 0).take (m * s))).take ((n + m) * s) = (css.take i).flatten ++ css'.flatten ++ (css.drop i).flatten := by
  have hns : n * s ≤ (n + m) * s := Nat.mul_le_mul_right _ (by omega)
  have hA := part_A hcur hl hn hi (by omega)
  have hB := part_B hcur hl hn hi (by omega)
  have ha : (css.take i).flatten.length = i * s := by rw [hA, List.length_take]; exact Nat.min_eq_left (Nat.le_trans (Nat.mul_le_mul_right _ hi) (by omega))
  have hb : (css.drop i).flatten.length = (n - i) * s := by
    rw [flat_len _ (fun c hc => hl c (List.mem_of_mem_drop hc)), List.length_drop, hn]
  have e1 : (n + m) * s = i * s + m * s + (n - i) * s := by rw [← Nat.add_mul, ← Nat.add_mul]; congr 1; omega
  have e2 : (i + m) * s = i * s + m * s := Nat.add_mul _ _ _
  rw [List.drop_zero, ← hcu, ← hB, e1, e2]
  rw [e1] at hc
  have hc1 : cur = (css.take i).flatten ++ cur.drop (i * s) := by rw [hA, List.take_append_drop]
  clear hcu hcur hA hB
  generalize (css.take i).flatten = A at ha hc1 ⊢
  generalize css'.flatten = M at hm ⊢
  generalize (css.drop i).flatten = B at hb ⊢
  generalize cur.drop (i * s) = T at hc1
  have hTl : m * s + (n - i) * s ≤ T.length := by rw [hc1] at hc; simp [ha] at hc; omega
  have hs1 : splice cur (i * s + m * s) B = A ++ (T.take (m * s) ++ B ++ T.drop (m * s + B.length)) := by
    unfold splice
    rw [hc1, ← ha, List.take_length_add_append, Nat.add_assoc, List.drop_length_add_append]
    simp
  rw [hs1]
  unfold splice
  rw [← ha, List.take_left, List.drop_length_add_append, ← hm]
  have e3 : (T.take M.length).length = M.length := by rw [List.length_take]; omega
  have e4 : (T.take M.length ++ B ++ T.drop (M.length + B.length)).drop M.length = B ++ T.drop (M.length + B.length) := by
    rw [List.append_assoc]
    conv => lhs; rw [show M.length = (T.take M.length).length from e3.symm]
    simp only [e3]
    rw [List.drop_append_of_le_length (by omega), List.drop_of_length_le (by omega), List.nil_append]
  rw [e4, ← hb, ← List.append_assoc, ← List.length_append, ← List.length_append, List.take_left]
end

section
variable {P : Program} {ty : TypeId} {F : Fr} {w : World} {K : Value → World → Prop} {Z : List PanicEntry → World → Prop} {x y : Operand}
theorem o_sliceLo {t e size : Nat} {lo : Operand} (ht : P.underlying t = some (.slice e)) (hs : sizeT P e = some size) (b n c i : Nat) (kk : IntKind) (nn : Int)
    (hx : evF F x = .slice (some ⟨b, 0, none⟩) n c) (hlo : evF F lo = .int kk nn) (hn : nn = (i : Int)) (hi : i ≤ n) (hc : i < c) (hnc : n ≤ c) (h : K (.slice (some ⟨b, i * size, none⟩) (n - i) (c - i)) w) : OpW P (.slice t x (some lo) none none) ty F w K Z := by
  subst hn
  have hb : (Instr.sliceBounds true n c (some (.int kk (i : Int))) none none).run P w = .ok (i, n, c) w := by
    have b2 : ∀ code, (Instr.sliceBound (.int kk (i : Int)) n code).run P w = .ok i w := fun code => by
      rw [run_sliceBound (P := P) w kk (i : Int) n code (by omega) (by omega)]; rfl
    simp [Instr.sliceBounds, b2]
  refine opw_run ?_ h
  have hne : ¬ (c = i) := by omega
  have ha : (⟨b, 0, none⟩ : Addr).add (i * size) = ⟨b, i * size, none⟩ := by rw [add0, Nat.zero_add]
  simp [execOp, hx, hlo, Instr.sliceAt, run_underlying ht, Instr.slice, hb, run_size hs, hne, ha]
theorem o_sliceHi {t e size : Nat} {hi : Operand} (ht : P.underlying t = some (.slice e)) (hs : sizeT P e = some size) (b o n c k : Nat) (kk : IntKind) (nn : Int)
    (hx : evF F x = .slice (some ⟨b, o, none⟩) n c) (hhi : evF F hi = .int kk nn) (hn : nn = (k : Int)) (hk : k ≤ c) (h : K (.slice (some ⟨b, o, none⟩) k c) w) : OpW P (.slice t x none (some hi) none) ty F w K Z := by
  subst hn
  have hb : (Instr.sliceBounds true n c none (some (.int kk (k : Int))) none).run P w = .ok (0, k, c) w := by
    have b2 : ∀ code, (Instr.sliceBound (.int kk (k : Int)) c code).run P w = .ok k w := fun code => by
      rw [run_sliceBound (P := P) w kk (k : Int) c code (by omega) (by omega)]; rfl
    simp [Instr.sliceBounds, b2]
  refine opw_run ?_ h
  by_cases hc0 : c = 0
  · subst hc0; simp [execOp, hx, hhi, Instr.sliceAt, run_underlying ht, Instr.slice, hb, run_size hs]
  · simp [execOp, hx, hhi, Instr.sliceAt, run_underlying ht, Instr.slice, hb, run_size hs, hc0, Addr.add]
theorem o_cap {t e : TypeId} (A : Option Addr) (n c : Nat) (ht : P.underlying t = some (.slice e)) (hx : evF F x = .slice A n c) (h : K (vI c) w) :
    OpW P (.call { callee := .builtin .cap, args := #[x], argTypes := #[t] }) ty F w K Z :=
  opw_run (by simp [execOp, resolve, invoke, builtin, hx, Builtin.cap_, run_underlying ht, goInt]) h
variable {w0 : World} {B O0 : List Nat}
theorem o_copyRaw {t t2 e size b o n c b2 o2 n2 c2 T T2 : Nat} {cur cur2 : List Value} (k : Nat) (ht : P.underlying t = some (.slice e)) (hs : sizeT P e = some size) (hx : evF F x = .slice (some ⟨b, o, none⟩) n c) (hy : evF F y = .slice (some ⟨b2, o2, none⟩) n2 c2)
    (hb : Box w b T cur) (hb2 : Box w b2 T2 cur2) (hB : b ∈ B) (hk : Nat.min n2 n = k) (h1 : o + k * size ≤ cur.length) (h2 : o2 + k * size ≤ cur2.length) (hone : ∀ u ∈ (cur2.drop o2).take (k * size), u.oneCell' = true) (s : St w0 O0 w B)
    (h : ∀ w', St w0 O0 w' B → Mv B w B w' → Keep [b] w w' → Box w' b T (splice cur o ((cur2.drop o2).take (k * size))) → K (vI k) w') :
    OpW P (.call { callee := .builtin .copy, args := #[x, y], argTypes := #[t, t2] }) ty F w K Z := by
  obtain ⟨ms, hms⟩ : ∃ ms, ms = (cur2.drop o2).take (k * size) := ⟨_, rfl⟩
  rw [← hms] at h hone
  have hml : ms.length = k * size := by rw [hms]; simp; omega
  have hsrc : (Builtin.firstCells size k (.slice (some ⟨b2, o2, none⟩) n2 c2)).run P w = .ok ms.toArray w :=
    run_firstCells_some w size k ⟨b2, o2, none⟩ n2 c2 ms hml (fun j v hj => by
      rw [add0, hb2.cell, ← hj, hms, List.getElem?_take]
      have : j < k * size := by rw [← hml]; exact (List.getElem?_eq_some_iff.1 hj).1
      rw [if_pos this, List.getElem?_drop])
  have hst := run_storeCells_at P b o T ms 0 cur.toArray w hb (by simp; omega) hone
  simp only [Nat.add_zero] at hst
  have kp : Keep [b] w (w.setRow b (cur.toArray.toList.take o ++ ms ++ cur.toArray.toList.drop (o + ms.length)).toArray) :=
    ⟨rfl, rfl, rfl, by simp, fun q _ hq => setRow_other w b q _ (fun e => hq (by simp [e]))⟩
  have mm : Mv B w B (w.setRow b (cur.toArray.toList.take o ++ ms ++ cur.toArray.toList.drop (o + ms.length)).toArray) :=
    ⟨kp.mono (fun q hq => by simp at hq; subst hq; exact .inl hB), fun q hq => .inl hq⟩
  refine opw_run (v := vI k) (w' := w.setRow b (cur.toArray.toList.take o ++ ms ++ cur.toArray.toList.drop (o + ms.length)).toArray) ?_ (h _ (s.step mm (fun q hq => Nat.lt_of_lt_of_le (s.new q hq).2 kp.size)) mm kp (setRow_heap w b cur.toArray _ T (0, 0) hb))
  simp [execOp, resolve, invoke, builtin, hx, hy, Builtin.copy_, run_underlying ht, run_size hs, Builtin.lenOf, hk, hsrc, goInt] at hst ⊢
  rw [hst]
  rfl
/-- 'append(s[:i], make([]T, k)...)' where there is no room. -/
theorem o_appendZ {t tn e size bytes b i c T : Nat} {z : Value} {cur : List Value} (k N : Nat) (nn : Int) (hN : i + k = N) (ht : P.underlying t = some (.slice e)) (htn : P.underlying tn = some (.int .i64)) (hi : (P.info? e).map (fun i => (i.zero, i.size, i.bytes)) = some (some z, size, bytes)) (hz : z.cells.size = size) (hpos : 0 < size)
    (hx : evF F x = .slice (some ⟨b, 0, none⟩) i c) (hy : evF F y = vI nn) (hnn : nn = (k : Int)) (hb : Box w b T cur) (hcur : i * size ≤ cur.length) (h0 : 0 < k) (hg : c < N) (hlen : N * bytes ≤ 140737488355328) (hmax : N ≤ maxLen) (s : St w0 O0 w B)
    (h : ∀ g G cur1 w', g = w.heap.size → w0.heap.size ≤ g → St w0 O0 w' (g :: B) → Mv B w (g :: B) w' → Keep [] w w' → Box w' g e cur1 → cur1.length = G * size → N ≤ G → G ≤ maxLen → cur1.take (i * size) = cur.take (i * size) → K (.slice (some ⟨g, 0, none⟩) N G) w') :
    OpW P (.call { callee := .builtin .append, args := #[x, y], argTypes := #[t, tn] }) ty F w K Z := by
  subst hnn
  subst hN
  obtain ⟨inf, hi1, hi2, hi3, hi4⟩ := info_parts hi
  have hold : (Builtin.firstCells inf.size i (.slice (some ⟨b, 0, none⟩) i c)).run P w.drew = .ok (cur.take (i * size)).toArray w.drew := by
    rw [hi3]
    refine run_firstCells_some w.drew size i ⟨b, 0, none⟩ i c (cur.take (i * size)) (by rw [List.length_take]; omega) (fun j v hj => ?_)
    have hb' : Box w.drew b T cur := hb
    rw [add0, hb'.cell, Nat.zero_add]
    rw [List.getElem?_take] at hj
    split at hj
    · exact hj
    · cases hj
  have hfit : Builtin.nextslicecap (i + k) c * inf.bytes ≤ 281474976710656 := by rw [hi4]; exact growslice_fits hg hlen
  have hkb : k * inf.bytes ≤ 281474976710656 := by
    rw [hi4]
    have : k * bytes ≤ (i + k) * bytes := Nat.mul_le_mul_right _ (by omega)
    omega
  have hrun := Lib.run_append_grow_zeros (P := P) w t tn ty e inf z .i64 .i64 ht htn hi1 hi2 (some ⟨b, 0, none⟩) i c (cur.take (i * size)) hold k h0 (by rw [hi3]; exact hpos) hg (by simp only [maxLen] at hmax; omega) hkb hfit
  obtain ⟨G, hG⟩ : ∃ G, G = grownCap w (i + k) c e := ⟨_, rfl⟩
  have hG1 : i + k ≤ G := by rw [hG]; exact grownCap_ge _ _ _ _
  have hG2 : G ≤ maxLen := by rw [hG]; exact grownCap_le_maxLen _ _ _ _ hmax
  rw [← hG] at hrun
  obtain ⟨row, hrow⟩ : ∃ row : Array Value, row = (cur.take (i * size)).toArray ++ Builtin.zeroCells z.cells k ++ Builtin.zeroCells z.cells (G - (i + k)) := ⟨_, rfl⟩
  rw [← hrow] at hrun
  have hrl : row.size = G * size := by
    rw [hrow]
    simp only [Array.size_append, List.size_toArray, List.length_take, Builtin.zeroCells, Array.size_map, Array.size_range, hz]
    rw [Nat.min_eq_left hcur, ← Nat.add_mul, ← Nat.add_mul]
    congr 1; omega
  have hk : Keep [] w (w.drew.alloc (.cells row e)) := (Keep.drew [] w).trans (Keep.alloc _ _ _)
  have hsz : w.drew.heap.size = w.heap.size := rfl
  have mv : Mv B w (w.heap.size :: B) (w.drew.alloc (.cells row e)) := ⟨hk.nil, fun q hq => by rcases List.mem_cons.1 hq with h | h; exact .inr (by omega); exact .inl h⟩
  have hbx : Box (w.drew.alloc (.cells row e)) w.heap.size e row.toList := by
    have := Box.new w.drew e row.toList
    simpa [hsz] using this
  refine opw_run (v := .slice (some ⟨w.heap.size, 0, none⟩) (i + k) G) (w' := w.drew.alloc (.cells row e)) ?_ (h _ G row.toList _ rfl s.keep.size (s.step mv (fun q hq => ?_)) mv hk hbx (by simpa using hrl) hG1 hG2 ?_)
  · simp [execOp, resolve, invoke, builtin, hx, hy, hrun]
  · rcases List.mem_cons.1 hq with h | h
    · subst h; exact hbx.lt
    · exact Nat.lt_of_lt_of_le (s.new q h).2 hk.size
  · rw [hrow]
    simp only [Array.toList_append, List.append_assoc]
    rw [List.take_append_of_le_length (by simp; omega)]
    rw [List.take_of_length_le (by simp; omega)]
/-- 'append(s, x..)' on a slice of one's own, from another one. -/
theorem o_appendOO {α : Type} {E : Enc α} {t e : Nat} {z : Value} {bytes : Nat} {v u : Value} {l m : List α} (ht : P.underlying t = some (.slice e)) (hi : (P.info? e).map (fun i => (i.zero, i.size, i.bytes)) = some (some z, E.size, bytes)) (hzs : z.cells.size = E.size) (hpos : 0 < E.size)
    (hx : evF F x = v) (hy : evF F y = u) (ho : Own E e w0.heap.size (B ++ O0) w v l) (hu : Own E e w0.heap.size (B ++ O0) w u m) (hv : ∀ b, v.ownBlock = some b → b ∈ B) (hlen : (l.length + m.length) * bytes ≤ 140737488355328) (hlm : l.length + m.length ≤ maxLen) (s : St w0 O0 w B)
    (h : ∀ v' w' B', (∀ b, v'.ownBlock = some b → b ∈ B') → (v'.ownBlock = v.ownBlock ∨ v'.ownBlock = some w.heap.size) → (∀ b ∈ B, b ∈ B') → St w0 O0 w' B' → Mv B w B' w' → Keep v.ownBlock.toList w w' → Own E e w0.heap.size (B' ++ O0) w' v' (l ++ m) → K v' w') :
    OpW P (.call { callee := .builtin .append, args := #[x, y], argTypes := #[t, t] }) ty F w K Z := by
  obtain ⟨i, hi1, hi2, hi3, hi4⟩ := info_parts hi
  obtain ⟨css, h1, h2, h3⟩ := ho
  have hsrc : ∃ (A : Option Addr) (c : Nat) (css' : List (List Value)), u = .slice A m.length c ∧ m.length ≤ c ∧ c ≤ maxLen ∧ (A = none → m = []) ∧ css'.length = m.length ∧ (∀ (j : Nat) (cs : List Value) (y : α), css'[j]? = some cs → m[j]? = some y → E.rd w (B ++ O0) cs y) ∧ (∀ ad, A = some ad → ∀ j u, css'.flatten[j]? = some u → w.cell? (ad.add j) = some u) := by
    obtain ⟨css', q1, q2, q3⟩ := hu
    rcases q2.2 with ⟨rfl, q4⟩ | ⟨g, cap, cur, rfl, hb, hg, hc, hm, hsz, htk⟩
    · exact ⟨none, 0, css', by rw [q4], by omega, by simp [maxLen], fun _ => List.eq_nil_of_length_eq_zero q4, q1, q3, fun ad h => by cases h⟩
    · refine ⟨some ⟨g, 0, none⟩, cap, css', rfl, hc, hm, (fun h => nomatch h), q1, q3, fun ad h j u hj => ?_⟩
      cases h; exact q2.cells (g := g) rfl j u hj
  obtain ⟨A, c, css', rfl, h4, h5, h6, k1, k2, k3⟩ := hsrc
  have hlens' : ∀ cs ∈ css', cs.length = E.size := Own.lens k1 k2
  have hones : ∀ u ∈ css'.flatten, u.oneCell' = true := by
    intro u hu
    obtain ⟨cs, hcs, hucs⟩ := List.mem_flatten.1 hu
    obtain ⟨j, hj, rfl⟩ := List.getElem_of_mem hcs
    exact E.one (k2 j _ m[j] (List.getElem?_eq_getElem hj) (List.getElem?_eq_getElem (by omega))) u hucs
  have hlen' : css'.flatten.length = m.length * E.size := by rw [flat_len css' hlens', k1]
  have fin : ∀ v' w' B', w'.ownsRow w0.heap.size e E.size v' (l.length + m.length) (css.flatten ++ css'.flatten) → Mv B w B' w' → Own E e w0.heap.size (B' ++ O0) w' v' (l ++ m) := by
    intro v' w' B' hr hmv
    refine ⟨css ++ css', by simp [h1, k1], by simpa using hr, fun j cs y hj hy => ?_⟩
    by_cases hjl : j < l.length
    · rw [List.getElem?_append_left (by omega)] at hj hy
      exact E.mv (h3 j cs y hj hy) hmv
    · rw [List.getElem?_append_right (by omega)] at hj hy
      rw [h1] at hj
      exact E.mv (k2 _ cs y hj hy) hmv
  have step : ∀ v' w', (Builtin.append_ #[t, t] ty #[v, .slice A m.length c]).run P w = .ok v' w' → w'.ownsRow w0.heap.size e E.size v' (l.length + m.length) (css.flatten ++ css'.flatten) → w.grownBy w' v.ownBlock → (v'.ownBlock = v.ownBlock ∨ v'.ownBlock = some w.heap.size) →
      OpW P (.call { callee := .builtin .append, args := #[x, y], argTypes := #[t, t] }) ty F w K Z := by
    intro v' w' hr hown hg hat
    have hk : Keep v.ownBlock.toList w w' := Keep.of_grown hg
    have hB : Keep B w w' := hk.mono (fun b hb => .inl (hv b (by simpa using hb)))
    have hown' := hown.lt
    rcases hat with hat | hat
    · have mv : Mv B w B w' := ⟨hB, fun b hb => .inl hb⟩
      exact opw_run (v := v') (w' := w') (by simp [execOp, resolve, invoke, builtin, hx, hy, hr]) (h v' w' B (fun b hb => hv b (by rw [← hat]; exact hb)) (.inl hat) (fun b hb => hb) (s.step mv (fun b hb => Nat.lt_of_lt_of_le (s.new b hb).2 hk.size)) mv hk (fin v' w' B hown mv))
    · have mv : Mv B w (w.heap.size :: B) w' := ⟨hB, fun b hb => by rcases List.mem_cons.1 hb with h | h; exact .inr (by omega); exact .inl h⟩
      exact opw_run (v := v') (w' := w') (by simp [execOp, resolve, invoke, builtin, hx, hy, hr]) (h v' w' (w.heap.size :: B) (fun b hb => by rw [hat] at hb; cases hb; simp) (.inr hat) (fun b hb => by simp [hb])
        (s.step mv (fun b hb => by
          rcases List.mem_cons.1 hb with h | h
          · subst h; exact (hown' _ hat).2
          · exact Nat.lt_of_lt_of_le (s.new b h).2 hk.size)) mv hk (fin v' w' _ hown mv))
  rcases A with _ | ad
  · have hm0 : m = [] := h6 rfl
    subst hm0
    have hc0 : css' = [] := List.eq_nil_of_length_eq_zero (by simpa using k1)
    subst hc0
    refine step v w ?_ (by simpa using h2) ⟨rfl, rfl, rfl, Nat.le_refl _, fun _ _ _ => rfl⟩ (.inl rfl)
    rcases h2.2 with ⟨rfl, h0⟩ | ⟨g, cap, cur, rfl, _, _, hnc, _⟩
    · simp [Builtin.append_, run_underlying ht, sizeOf, typeInfo, hi1, Builtin.lenOf, Builtin.firstCells]
    · simp [Builtin.append_, run_underlying ht, sizeOf, typeInfo, hi1, Builtin.lenOf, Builtin.firstCells, hnc, storeCells]
  · obtain ⟨v', w', hr, g1, g2, _, g4⟩ := run_append_own_at (P := P) w w0.heap.size t ty e i z E.size bytes ht hi1 hi2 hi3 hi4 hzs hpos v l.length css.flatten h2 ad m.length c css'.flatten hlen' (k3 ad rfl) hones hlm hlen s.keep.size
    exact step v' w' hr g1 g2 g4

/-- slices.overlaps of two slices in two blocks. -/
theorem o_overlaps {f : FuncId} {xs : List Operand} {ats : Array TypeId} {tS tR e size b b2 o o2 n n2 c c2 T T2 : Nat} {cur cur2 : List Value} (hc : ∀ (x y : Value) (w : World), (Extern.SlicesOverlaps.overlaps #[tS, tS] #[tR] #[x, y]).run P w = .ok (.bool false) w → (callFunc f #[x, y]).run P w = .ok (.value (.bool false)) w)
    (ht : P.underlying tS = some (.slice e)) (hs : sizeT P e = some size) (hv : xs.map (evF F) = [.slice (some ⟨b, o, none⟩) n c, .slice (some ⟨b2, o2, none⟩) n2 c2]) (hb : Box w b T cur) (hb2 : Box w b2 T2 cur2) (hne : b ≠ b2) (h0 : 0 < cur2.length) (h : K (.bool false) w) :
    OpW P (.call { callee := .value (.func f), args := xs.toArray, argTypes := ats }) ty F w K Z := by
  refine opw_run (v := .bool false) (w' := w) ?_ h
  have hr := Lib.run_overlaps_apart (P := P) w tS tR e ht size (fun w => run_size hs) ⟨b, o, none⟩ ⟨b2, o2, none⟩ n c n2 c2 hne T T2 cur.length cur2.length (by unfold Box at hb; simp [World.shape?, hb]) (by unfold Box at hb2; simp [World.shape?, hb2]) (by omega) (hb.frozen _) (hb.frozen _)
  have hr' := hc _ _ _ hr
  simp [execOp, resolve, Deferred.ofValue, evF, invoke, hv, hr']
end
end Go.Fw
