/- Devices: valid lists as sets; adding, merging; where a copy is, as a fold. No program in sight. -/
import Derived.Test.YtjpniibleelgiaaMdA
set_option linter.unusedSimpArgs false
set_option linter.unusedVariables false
namespace Go.Proofs.Ytjpniibleelgiaa
open Go.Fw

theorem scanD_if {β : Type} {p : Nat → Bool} {d r : β} (hne : r ≠ d) : ∀ {m i : Nat}, scan (fun k => if p k then some r else none) d i m = d ↔ ∀ k, i ≤ k → k < i + m → p k = false
  | 0, i => by simp [scan]; intro k h1 h2; omega
  | m + 1, i => by
    unfold scan
    cases hp : p i with
    | true =>
      simp only [if_true]
      refine ⟨fun h => absurd h hne, fun h => ?_⟩
      have := h i (Nat.le_refl _) (by omega)
      rw [hp] at this; cases this
    | false =>
      simp only [Bool.false_eq_true, if_false]
      rw [scanD_if hne]
      refine ⟨fun h k h1 h2 => ?_, fun h k h1 h2 => h k (by omega) (by omega)⟩
      by_cases hk : k = i
      · subst hk; exact hp
      · exact h k (by omega) (by omega)
theorem takeD_snoc {l : List DeviceOp} {k : Nat} (h : k < l.length) : l.take (k + 1) = l.take k ++ [l[k]!] := by
  rw [List.take_succ_eq_append_getElem h, getElem!_pos l k h]
theorem seenM_eq (l : List DeviceOp) (n : DevNo) : ∀ k, k ≤ l.length → ((seenM l k n).getD false = true ↔ n ∈ (l.take k).map numM)
  | 0, _ => by simp [seenM, noM]
  | k + 1, h => by
    have ih := seenM_eq l n k (by omega)
    rw [takeD_snoc (by omega), List.map_append, List.mem_append, ← ih, show seenM l (k + 1) = upM (seenM l k) (numM l[k]!) true from rfl]
    generalize l[k]! = x
    generalize seenM l k = M
    unfold upM
    by_cases e : n = numM x
    · subst e; simp
    · simp [e]
theorem numbered_iff (l : List DeviceOp) : numberedM l = true ↔ (l.map numM).Nodup := by
  unfold numberedM
  rw [scanD_if (by simp), List.Nodup, List.pairwise_iff_getElem]
  constructor
  · intro h i j hi hj hij e
    have hj' : j < l.length := by simpa using hj
    have := h j (Nat.zero_le _) (by omega)
    rw [← Bool.not_eq_true, seenM_eq l _ j (by omega)] at this
    apply this
    rw [List.getElem_map] at e
    rw [List.getElem_map] at e
    rw [getElem!_pos l j hj', ← e]
    refine List.mem_map.2 ⟨l[i], ?_, rfl⟩
    exact List.mem_take_iff_getElem.2 ⟨i, by omega, rfl⟩
  · intro h k _ hk
    rw [← Bool.not_eq_true, seenM_eq l _ k (by omega)]
    intro hm
    obtain ⟨x, hx, e⟩ := List.mem_map.1 hm
    obtain ⟨i, hi, rfl⟩ := List.mem_take_iff_getElem.1 hx
    have hk' : k < l.length := by omega
    refine h i k (by simp; omega) (by simpa using hk') (by omega) ?_
    rw [List.getElem_map, List.getElem_map, e, getElem!_pos l k hk']
theorem cmp_irr {a : DeviceOp} : ¬ cmpM a a < 0 := by rw [cmp_self]; omega
theorem cmp_asym {a b : DeviceOp} (h : cmpM a b < 0) : ¬ cmpM b a < 0 := fun h2 => cmp_irr (cmp_trans h (by omega : cmpM b a ≤ 0))
theorem cmp_total (a b : DeviceOp) : cmpM a b < 0 ∨ a = b ∨ cmpM b a < 0 := by
  have := cmp_anti a b
  by_cases h : cmpM a b = 0
  · exact .inr (.inl (cmp_eq h))
  · omega
/-- No two different operations of a list have the same number. -/
def numInj (l : List DeviceOp) : Prop := ∀ x ∈ l, ∀ y ∈ l, numM x = numM y → x = y
def okL (l : List DeviceOp) : Prop := l.length ≤ 256 ∧ (∀ o ∈ l, validM o = true) ∧ sortedM l ∧ numInj l
theorem sorted_iff (l : List DeviceOp) : sortedM l ↔ ∀ p q, p < q → q < l.length → cmpM l[p]! l[q]! < 0 := by
  unfold sortedM
  rw [List.pairwise_iff_getElem]
  constructor
  · intro h p q hpq hq; rw [getElem!_pos l p (by omega), getElem!_pos l q hq]; exact h p q (by omega) hq hpq
  · intro h i j hi hj hij; have := h i j hij hj; rwa [getElem!_pos l i hi, getElem!_pos l j hj] at this
theorem sorted_nodup {l : List DeviceOp} (h : sortedM l) : l.Nodup := h.imp (fun hab e => by subst e; exact cmp_irr hab)
theorem numInj_iff {l : List DeviceOp} (h : sortedM l) : (l.map numM).Nodup ↔ numInj l := by
  have hn := sorted_nodup h
  rw [List.Nodup, List.pairwise_map]
  constructor
  · intro hp
    rw [List.pairwise_iff_getElem] at hp
    intro x hx y hy e
    obtain ⟨i, hi, rfl⟩ := List.getElem_of_mem hx
    obtain ⟨j, hj, rfl⟩ := List.getElem_of_mem hy
    rcases Nat.lt_trichotomy i j with h1 | h1 | h1
    · exact absurd e (hp i j hi hj h1)
    · subst h1; rfl
    · exact absurd e.symm (hp j i hj hi h1)
  · intro hi
    exact List.Pairwise.imp_of_mem (fun hx hy hne e => hne (hi _ hx _ hy e)) hn
theorem check_iff (l : List DeviceOp) : checkM l = 0 ↔ okL l := by
  constructor
  · intro h
    obtain ⟨h1, h2, h3⟩ := check_ok h
    have hs := (sorted_iff l).2 (check_sorted h)
    refine ⟨h1, fun o ho => ?_, hs, (numInj_iff hs).1 ((numbered_iff l).1 h2)⟩
    obtain ⟨i, hi, rfl⟩ := List.getElem_of_mem ho
    have := (opBad_f.1 (h3 i hi)).1
    rwa [getElem!_pos l i hi] at this
  · rintro ⟨h1, h2, h3, h4⟩
    unfold checkM
    rw [if_neg (by rw [(numbered_iff l).2 ((numInj_iff h3).2 h4)]; simp; omega), scanD_if (by decide)]
    intro k _ hk
    have hk' : k < l.length := by omega
    refine opBad_f.2 ⟨?_, fun h0 => (sorted_iff l).1 h3 (k - 1) k (by omega) hk'⟩
    rw [getElem!_pos l k hk']; exact h2 _ (List.getElem_mem hk')
theorem check_no (l : List DeviceOp) : checkM l = 420 ↔ ¬ okL l := by
  rw [← check_iff]
  rcases check_two l with h | h <;> rw [h] <;> decide
theorem sorted_ext : ∀ {a b : List DeviceOp}, sortedM a → sortedM b → (∀ o, o ∈ a ↔ o ∈ b) → a = b
  | [], [], _, _, _ => rfl
  | [], y :: b, _, _, h => by have := (h y).2 (by simp); simp at this
  | x :: a, [], _, _, h => by have := (h x).1 (by simp); simp at this
  | x :: a, y :: b, ha, hb, h => by
    obtain ⟨ha1, ha2⟩ := List.pairwise_cons.1 ha
    obtain ⟨hb1, hb2⟩ := List.pairwise_cons.1 hb
    have hxy : x = y := by
      have h1 := (h x).1 (by simp)
      have h2 := (h y).2 (by simp)
      rcases List.mem_cons.1 h1 with e | h1
      · exact e
      · rcases List.mem_cons.1 h2 with e | h2
        · exact e.symm
        · exact absurd (hb1 x h1) (cmp_asym (ha1 y h2))
    subst hxy
    rw [sorted_ext ha2 hb2]
    intro o
    have := h o
    simp only [List.mem_cons] at this
    constructor
    · intro ho
      rcases this.1 (.inr ho) with e | h2
      · subst e; exact absurd (ha1 o ho) cmp_irr
      · exact h2
    · intro ho
      rcases this.2 (.inr ho) with e | h2
      · subst e; exact absurd (hb1 o ho) cmp_irr
      · exact h2
/-! ### putting in, merging -/
theorem mem_mergeL (a b : List DeviceOp) (o : DeviceOp) : o ∈ mergeL a b ↔ o ∈ a ∨ o ∈ b := by
  induction a, b using mergeL.induct with
  | case1 b => simp [mergeL]
  | case2 x a => simp [mergeL]
  | case3 x a y b h ih => rw [mergeL, if_pos h, List.mem_cons, ih, List.mem_cons (l := a)]; exact or_assoc.symm
  | case4 x a y b h h2 ih =>
    rw [mergeL, if_neg h, if_pos h2, List.mem_cons, ih, List.mem_cons (l := b)]
    constructor
    · rintro (h | h | h); exact .inr (.inl h); exact .inl h; exact .inr (.inr h)
    · rintro (h | h | h); exact .inr (.inl h); exact .inl h; exact .inr (.inr h)
  | case5 x a y b h h2 ih =>
    have e : x = y := cmp_eq (by omega)
    subst e
    rw [mergeL, if_neg h, if_neg h2, List.mem_cons, ih, List.mem_cons, List.mem_cons]
    constructor
    · rintro (h | h | h); exact .inl (.inl h); exact .inl (.inr h); exact .inr (.inr h)
    · rintro ((h | h) | h | h); exact .inl h; exact .inr (.inl h); exact .inl h; exact .inr (.inr h)
theorem sorted_mergeL (a b : List DeviceOp) (ha : sortedM a) (hb : sortedM b) : sortedM (mergeL a b) := by
  induction a, b using mergeL.induct with
  | case1 b => rw [mergeL]; exact hb
  | case2 x a => rw [mergeL]; exact ha
  | case3 x a y b h ih =>
    obtain ⟨ha1, ha2⟩ := List.pairwise_cons.1 ha
    obtain ⟨hb1, hb2⟩ := List.pairwise_cons.1 hb
    rw [mergeL, if_pos h]
    refine List.pairwise_cons.2 ⟨fun z hz => ?_, ih ha2 hb⟩
    rcases (mem_mergeL _ _ _).1 hz with hz | hz
    · exact ha1 z hz
    · rcases List.mem_cons.1 hz with e | hz
      · subst e; exact h
      · exact cmp_trans h (by have := hb1 z hz; omega)
  | case4 x a y b h h2 ih =>
    obtain ⟨ha1, ha2⟩ := List.pairwise_cons.1 ha
    obtain ⟨hb1, hb2⟩ := List.pairwise_cons.1 hb
    have h3 : cmpM y x < 0 := by have := cmp_anti x y; omega
    rw [mergeL, if_neg h, if_pos h2]
    refine List.pairwise_cons.2 ⟨fun z hz => ?_, ih ha hb2⟩
    rcases (mem_mergeL _ _ _).1 hz with hz | hz
    · rcases List.mem_cons.1 hz with e | hz
      · subst e; exact h3
      · exact cmp_trans h3 (by have := ha1 z hz; omega)
    · exact hb1 z hz
  | case5 x a y b h h2 ih =>
    obtain ⟨ha1, ha2⟩ := List.pairwise_cons.1 ha
    obtain ⟨hb1, hb2⟩ := List.pairwise_cons.1 hb
    have e : x = y := cmp_eq (by omega)
    subst e
    rw [mergeL, if_neg h, if_neg h2]
    refine List.pairwise_cons.2 ⟨fun z hz => ?_, ih ha2 hb2⟩
    rcases (mem_mergeL _ _ _).1 hz with hz | hz
    · exact ha1 z hz
    · exact hb1 z hz
theorem len_mergeL (a b : List DeviceOp) : (mergeL a b).length ≤ a.length + b.length := by
  induction a, b using mergeL.induct with
  | case1 b => simp [mergeL]
  | case2 x a => simp [mergeL]
  | case3 x a y b h ih => rw [mergeL, if_pos h]; simp only [List.length_cons] at ih ⊢; omega
  | case4 x a y b h h2 ih => rw [mergeL, if_neg h, if_pos h2]; simp only [List.length_cons] at ih ⊢; omega
  | case5 x a y b h h2 ih => rw [mergeL, if_neg h, if_neg h2]; simp only [List.length_cons] at ih ⊢; omega
theorem twM_split {l : List DeviceOp} (hs : sortedM l) (o : DeviceOp) : (∀ x ∈ l.take (twM l o), cmpM x o < 0) ∧ (∀ x ∈ l.drop (twM l o), ¬ cmpM x o < 0) := by
  unfold twM tw2
  induction l with
  | nil => simp
  | cons x l ih =>
    obtain ⟨h1, h2⟩ := List.pairwise_cons.1 hs
    by_cases h : cmpM x o < 0
    · have := ih h2
      rw [List.takeWhile_cons_of_pos (by simpa using h)]
      simp only [List.length_cons, List.take_succ_cons, List.drop_succ_cons, List.mem_cons]
      exact ⟨by rintro y (e | hy); subst e; exact h; exact this.1 y hy, this.2⟩
    · rw [List.takeWhile_cons_of_neg (by simpa using h)]
      simp only [List.length_nil, List.take_zero, List.drop_zero]
      refine ⟨fun y hy => by simp at hy, fun y hy => ?_⟩
      rcases List.mem_cons.1 hy with e | hy
      · subst e; exact h
      · exact fun h3 => h (cmp_trans (h1 y hy) (by omega))
theorem mem_insM (l : List DeviceOp) (o x : DeviceOp) : x ∈ insM l o ↔ x = o ∨ x ∈ l := by
  unfold insM
  simp only [List.mem_append, List.mem_singleton]
  conv => rhs; rw [← List.take_append_drop (twM l o) l]
  rw [List.mem_append]
  constructor
  · rintro ((h | h) | h); exact .inr (.inl h); exact .inl h; exact .inr (.inr h)
  · rintro (h | h | h); exact .inl (.inr h); exact .inl (.inl h); exact .inr h
theorem len_insM (l : List DeviceOp) (o : DeviceOp) : (insM l o).length = l.length + 1 := by
  unfold insM
  have : twM l o ≤ l.length := tw2_le _ _ _
  simp only [List.length_append, List.length_take, List.length_drop, List.length_cons, List.length_nil]; omega
theorem sorted_insM {l : List DeviceOp} (hs : sortedM l) {o : DeviceOp} (ho : o ∉ l) : sortedM (insM l o) := by
  obtain ⟨h1, h2⟩ := twM_split hs o
  have hs' := hs
  unfold sortedM at hs'
  rw [← List.take_append_drop (twM l o) l, List.pairwise_append] at hs'
  obtain ⟨p1, p2, p3⟩ := hs'
  have h3 : ∀ x ∈ l.drop (twM l o), cmpM o x < 0 := fun x hx => by
    rcases cmp_total o x with h | h | h
    · exact h
    · subst h; exact absurd (List.mem_of_mem_drop hx) ho
    · exact absurd h (h2 x hx)
  unfold insM sortedM
  rw [List.append_assoc, List.pairwise_append]
  refine ⟨p1, ?_, ?_⟩
  · rw [List.singleton_append]
    exact List.pairwise_cons.2 ⟨h3, p2⟩
  · intro a ha b hb
    rcases List.mem_append.1 hb with hb | hb
    · rw [List.mem_singleton.1 hb]; exact h1 a ha
    · exact p3 a ha b hb
/-- A list with its numbers all different, and another one. -/
def clashM (l : List DeviceOp) (o : DeviceOp) : Bool := l.any (fun p => numM p == numM o)
theorem clash_iff (l : List DeviceOp) (o : DeviceOp) : clashM l o = true ↔ ∃ p ∈ l, numM p = numM o := by simp [clashM, List.any_eq_true]
theorem numInj_ins {l : List DeviceOp} (h : numInj l) {o : DeviceOp} (hc : clashM l o = false) : numInj (insM l o) := by
  have hc' : ∀ p ∈ l, numM p ≠ numM o := fun p hp e => by
    rw [← Bool.not_eq_true, clash_iff] at hc; exact hc ⟨p, hp, e⟩
  intro x hx y hy e
  rcases (mem_insM _ _ _).1 hx with e1 | h1 <;> rcases (mem_insM _ _ _).1 hy with e2 | h2
  · rw [e1, e2]
  · rw [e1] at e; exact absurd e.symm (hc' y h2)
  · rw [e2] at e; exact absurd e (hc' x h1)
  · exact h x h1 y h2 e
theorem add_cases (l : List DeviceOp) (o : DeviceOp) : (addM l o = (l, 0) ∧ okL l ∧ validM o = true ∧ o ∈ l) ∨ (addM l o = (insM l o, 0) ∧ okL l ∧ validM o = true ∧ o ∉ l ∧ clashM l o = false ∧ l.length < 256 ∧ okL (insM l o)) ∨ (addM l o = ([], 420) ∧ (¬ okL l ∨ validM o = false ∨ (o ∉ l ∧ clashM l o = true))) ∨ (addM l o = ([], 2) ∧ okL l ∧ validM o = true ∧ o ∉ l ∧ clashM l o = false ∧ l.length = 256) := by
  by_cases h : checkM l = 0
  · have hok := (check_iff l).1 h
    cases hv : validM o with
    | false => exact .inr (.inr (.inl ⟨add_2 hv, .inr (.inl rfl)⟩))
    | true =>
      cases hm : l.contains o with
      | true => exact .inl ⟨add_3 h hv hm, hok, rfl, by simpa using hm⟩
      | false =>
        have hm' : o ∉ l := by simpa using hm
        cases hc : clashM l o with
        | true => exact .inr (.inr (.inl ⟨add_4 h hv hm hc, .inr (.inr ⟨hm', rfl⟩)⟩))
        | false =>
          by_cases hl : (l.length : Int) = 256
          · exact .inr (.inr (.inr ⟨add_5 h hv hm hc hl, hok, rfl, hm', rfl, by omega⟩))
          · have hlt : l.length < 256 := by have := hok.1; omega
            refine .inr (.inl ⟨add_6 h hv hm hc hl, hok, rfl, hm', rfl, hlt, ?_⟩)
            refine ⟨by rw [len_insM]; omega, fun x hx => ?_, sorted_insM hok.2.2.1 hm', numInj_ins hok.2.2.2 hc⟩
            rcases (mem_insM _ _ _).1 hx with rfl | hx
            · exact hv
            · exact hok.2.1 x hx
  · exact .inr (.inr (.inl ⟨add_1 h, .inl fun h2 => h ((check_iff l).2 h2)⟩))
theorem add_ok {l : List DeviceOp} {o : DeviceOp} (h : (addM l o).2 = 0) : okL l ∧ validM o = true ∧ okL (addM l o).1 ∧ ∀ x, x ∈ (addM l o).1 ↔ x = o ∨ x ∈ l := by
  rcases add_cases l o with ⟨e, h1, h2, h3⟩ | ⟨e, h1, h2, h3, h4, h5, h6⟩ | ⟨e, _⟩ | ⟨e, _⟩
  · rw [e]; exact ⟨h1, h2, h1, fun x => ⟨.inr, fun h => h.elim (fun e => e ▸ h3) id⟩⟩
  · rw [e]; exact ⟨h1, h2, h6, fun x => mem_insM _ _ _⟩
  · rw [e] at h; cases h
  · rw [e] at h; cases h
/-- Adding to a valid list: it succeeds unless the number is taken, or the list is full. -/
theorem add_in {l : List DeviceOp} {o : DeviceOp} (hl : okL l) (hv : validM o = true) (hm : o ∈ l) : addM l o = (l, 0) := add_3 ((check_iff l).2 hl) hv (by simpa using hm)
theorem add_new {l : List DeviceOp} {o : DeviceOp} (hl : okL l) (hv : validM o = true) (hm : o ∉ l) (hc : ∀ p ∈ l, numM p ≠ numM o) (hn : l.length < 256) : addM l o = (insM l o, 0) :=
  add_6 ((check_iff l).2 hl) hv (by simpa using hm) (by
    have : clashM l o = false := by rw [← Bool.not_eq_true, clash_iff]; rintro ⟨p, hp, e⟩; exact hc p hp e
    exact this) (by omega)
theorem merge_cases (a b : List DeviceOp) : (mergeM a b = (mergeL a b, 0) ∧ okL a ∧ okL b ∧ okL (mergeL a b)) ∨ (mergeM a b = ([], 420) ∧ (¬ okL a ∨ ¬ okL b ∨ ¬ numInj (mergeL a b))) ∨ (mergeM a b = ([], 2) ∧ okL a ∧ okL b ∧ numInj (mergeL a b) ∧ 256 < (mergeL a b).length) := by
  by_cases h1 : checkM a = 0
  · by_cases h2 : checkM b = 0
    · have o1 := (check_iff a).1 h1
      have o2 := (check_iff b).1 h2
      have hs := sorted_mergeL a b o1.2.2.1 o2.2.2.1
      cases h3 : numberedM (mergeL a b) with
      | false =>
        refine .inr (.inl ⟨merge_3 h1 h2 h3, .inr (.inr fun hi => ?_)⟩)
        rw [(numbered_iff _).2 ((numInj_iff hs).2 hi)] at h3; cases h3
      | true =>
        have hi := (numInj_iff hs).1 ((numbered_iff _).1 h3)
        by_cases h4 : 256 < ((mergeL a b).length : Int)
        · exact .inr (.inr ⟨merge_4 h1 h2 h3 h4, o1, o2, hi, by omega⟩)
        · refine .inl ⟨merge_5 h1 h2 h3 (by omega), o1, o2, by omega, fun x hx => ?_, hs, hi⟩
          rcases (mem_mergeL _ _ _).1 hx with hx | hx
          · exact o1.2.1 x hx
          · exact o2.2.1 x hx
    · exact .inr (.inl ⟨merge_2 h2, .inr (.inl fun h => h2 ((check_iff b).2 h))⟩)
  · exact .inr (.inl ⟨merge_1 h1, .inl fun h => h1 ((check_iff a).2 h)⟩)
theorem merge_ok {a b : List DeviceOp} (h : (mergeM a b).2 = 0) : okL a ∧ okL b ∧ okL (mergeM a b).1 ∧ ∀ x, x ∈ (mergeM a b).1 ↔ x ∈ a ∨ x ∈ b := by
  rcases merge_cases a b with ⟨e, h1, h2, h3⟩ | ⟨e, _⟩ | ⟨e, _⟩
  · rw [e]; exact ⟨h1, h2, h3, fun x => mem_mergeL _ _ _⟩
  · rw [e] at h; cases h
  · rw [e] at h; cases h
theorem merge_err {a b : List DeviceOp} (h : (mergeM a b).2 ≠ 0) : (mergeM a b).1 = [] := by
  rcases merge_cases a b with ⟨e, _⟩ | ⟨e, _⟩ | ⟨e, _⟩ <;> rw [e] at h ⊢ <;> simp at h
section
variable {a b x : List DeviceOp} {p q p2 : Nat} {n : Int} {o : DeviceOp}
theorem cut_b (h5 : (p = a.length ∧ q < b.length ∧ n = 1) ∨ (p < a.length ∧ q = b.length ∧ n = -1) ∨ (p < a.length ∧ q < b.length ∧ n = cmpM (a.drop p)[0]! (b.drop q)[0]!)) (h36 : (n ≤ 0 ∧ p < a.length ∧ p2 = p + 1 ∧ o = (a.drop p)[0]!) ∨ (0 < n ∧ q < b.length ∧ p2 = p)) (hn : 0 ≤ n) (hx : x ++ mergeL (a.drop p) (b.drop q) = mergeL a b) : x ++ [(b.drop q)[0]!] ++ mergeL (a.drop p2) (b.drop (q + 1)) = mergeL a b := by
  have hp := List.length_drop (i := p) (l := a)
  have hq := List.length_drop (i := q) (l := b)
  rw [List.append_assoc, ← hx]
  refine congrArg (x ++ ·) ?_
  rcases h36 with ⟨h1, h2, h3, h4⟩ | ⟨h1, h2, h3⟩ <;> rcases h5 with ⟨hc1, hc2, hc3⟩ | ⟨hc1, hc2, hc3⟩ | ⟨hc1, hc2, hc3⟩ <;> subst h3
  · omega
  · omega
  · exact (ms5 (by omega) (by omega) (by omega)).symm
  · exact (ms1 (by omega) (by omega)).symm
  · omega
  · exact (ms4 (by omega) (by omega) (by omega)).symm
theorem cut_a (h5 : (p = a.length ∧ q < b.length ∧ n = 1) ∨ (p < a.length ∧ q = b.length ∧ n = -1) ∨ (p < a.length ∧ q < b.length ∧ n = cmpM (a.drop p)[0]! (b.drop q)[0]!)) (h36 : (n ≤ 0 ∧ p < a.length ∧ p2 = p + 1 ∧ o = (a.drop p)[0]!) ∨ (0 < n ∧ q < b.length ∧ p2 = p)) (hn : n < 0) (hx : x ++ mergeL (a.drop p) (b.drop q) = mergeL a b) : x ++ [o] ++ mergeL (a.drop p2) (b.drop q) = mergeL a b := by
  have hp := List.length_drop (i := p) (l := a)
  have hq := List.length_drop (i := q) (l := b)
  rw [List.append_assoc, ← hx]
  refine congrArg (x ++ ·) ?_
  rcases h36 with ⟨h1, h2, h3, h4⟩ | ⟨h1, h2, h3⟩ <;> rcases h5 with ⟨hc1, hc2, hc3⟩ | ⟨hc1, hc2, hc3⟩ | ⟨hc1, hc2, hc3⟩ <;> subst h3 <;> try subst h4
  · omega
  · exact (ms2 (by omega) (by omega)).symm
  · exact (ms3 (by omega) (by omega) (by omega)).symm
  · omega
  · omega
  · omega
end
theorem ok_ext {a b : List DeviceOp} (ha : okL a) (hb : okL b) (h : ∀ o, o ∈ a ↔ o ∈ b) : a = b := sorted_ext ha.2.2.1 hb.2.2.1 h
theorem mergeL_comm {a b : List DeviceOp} (ha : sortedM a) (hb : sortedM b) : mergeL a b = mergeL b a :=
  sorted_ext (sorted_mergeL a b ha hb) (sorted_mergeL b a hb ha) fun o => by rw [mem_mergeL, mem_mergeL]; exact or_comm
theorem mergeM_comm (a b : List DeviceOp) : mergeM a b = mergeM b a := by
  rcases merge_cases a b with ⟨e, h1, h2, h3⟩ | ⟨e, h⟩ | ⟨e, h1, h2, h3, h4⟩
  · have ec := mergeL_comm h1.2.2.1 h2.2.2.1
    rcases merge_cases b a with ⟨e2, _⟩ | ⟨e2, h⟩ | ⟨e2, _, _, _, h⟩
    · rw [e, e2, ec]
    · rcases h with h | h | h
      · exact absurd h2 h
      · exact absurd h1 h
      · rw [← ec] at h; exact absurd h3.2.2.2 h
    · rw [← ec] at h; have := h3.1; omega
  · rcases merge_cases b a with ⟨e2, h1, h2, h3⟩ | ⟨e2, _⟩ | ⟨e2, h1, h2, h3, h4⟩
    · have ec := mergeL_comm h1.2.2.1 h2.2.2.1
      rcases h with h | h | h
      · exact absurd h2 h
      · exact absurd h1 h
      · rw [← ec] at h; exact absurd h3.2.2.2 h
    · rw [e, e2]
    · have ec := mergeL_comm h1.2.2.1 h2.2.2.1
      rcases h with h | h | h
      · exact absurd h2 h
      · exact absurd h1 h
      · rw [← ec] at h; exact absurd h3 h
  · have ec := mergeL_comm h1.2.2.1 h2.2.2.1
    rcases merge_cases b a with ⟨e2, _, _, h⟩ | ⟨e2, h⟩ | ⟨e2, _⟩
    · rw [ec] at h4; have := h.1; omega
    · rcases h with h | h | h
      · exact absurd h2 h
      · exact absurd h1 h
      · rw [← ec] at h; exact absurd h3 h
    · rw [e, e2]
/-- Merging succeeds where the whole is valid. -/
theorem merge_of {a b x : List DeviceOp} (ha : okL a) (hb : okL b) (hx : okL x) (h : ∀ o, o ∈ x ↔ o ∈ a ∨ o ∈ b) : mergeM a b = (x, 0) := by
  have e : mergeL a b = x := sorted_ext (sorted_mergeL a b ha.2.2.1 hb.2.2.1) hx.2.2.1 fun o => by rw [mem_mergeL, h]
  have hs := sorted_mergeL a b ha.2.2.1 hb.2.2.1
  rw [merge_5 ((check_iff a).2 ha) ((check_iff b).2 hb) ((numbered_iff _).2 ((numInj_iff hs).2 (by rw [e]; exact hx.2.2.2))) (by rw [e]; have := hx.1; omega), e]
/-! ### where a copy is -/
def stepH (h : Holding) (o : DeviceOp) : Holding :=
  if ((o.token != h.token + 1 || o.device != h.device) || h.shown) then h else if o.kind == 2 then ⟨h.copy, h.device, o.token, true⟩ else ⟨h.copy, o.to, o.token, h.shown⟩
def foldH (l : List DeviceOp) (c first : Int) : Holding := (l.filter (fun o => o.copy == c)).foldl stepH (hold0 c first)
theorem stepH_copy (h : Holding) (o : DeviceOp) : (stepH h o).copy = h.copy := by
  unfold stepH
  split
  · rfl
  · split <;> rfl
theorem mapM_fold (l : List DeviceOp) (first c : Int) : ∀ k, k ≤ l.length → (mapM l first k c).getD (hold0 c first) = foldH (l.take k) c first
  | 0, _ => rfl
  | k + 1, h => by
    have ih := mapM_fold l first c k (by omega)
    rw [takeD_snoc (by omega), show mapM l first (k + 1) = performM first (mapM l first k) l[k]! from rfl]
    unfold foldH at ih ⊢
    rw [List.filter_append, List.foldl_append, ← ih]
    generalize l[k]! = x
    generalize mapM l first k = M
    unfold performM
    by_cases e : x.copy = c
    · have ef : List.filter (fun o => o.copy == c) [x] = [x] := by simp [e]
      rw [ef]
      simp only [List.foldl_cons, List.foldl_nil]
      rw [e]
      unfold stepH
      split
      · rfl
      · unfold upM; simp
    · have ef : List.filter (fun o => o.copy == c) [x] = [] := by simp [e]
      rw [ef]
      simp only [List.foldl_nil]
      split
      · rfl
      · unfold upM
        have : (c == x.copy) = false := by simpa using fun h => e h.symm
        rw [this]; rfl
section
variable {l : List DeviceOp} {first : Int} {k : Nat} {h : Holding}
theorem map_skip (hh : h = (mapM l first k l[k]!.copy).getD (hold0 l[k]!.copy first)) (hc : l[k]!.token ≠ h.token + 1 ∨ l[k]!.device ≠ h.device ∨ h.shown = true) : mapM l first (k + 1) = mapM l first k := by
  show performM first (mapM l first k) l[k]! = _
  unfold performM
  rw [← hh, if_pos]
  simp only [dbs]
  rcases hc with hc | hc | hc
  · exact .inl (.inl hc)
  · exact .inl (.inr hc)
  · exact .inr hc
theorem map_show (hh : h = (mapM l first k l[k]!.copy).getD (hold0 l[k]!.copy first)) (h1 : l[k]!.token = h.token + 1) (h2 : l[k]!.device = h.device) (h3 : h.shown = false) (h4 : l[k]!.kind = 2) : mapM l first (k + 1) = upM (mapM l first k) l[k]!.copy ⟨h.copy, h.device, l[k]!.token, true⟩ := by
  show performM first (mapM l first k) l[k]! = _
  unfold performM
  rw [← hh, if_neg (by simp only [dbs]; rw [h1, h2, h3]; simp), if_pos (by simpa using h4)]
theorem map_give (hh : h = (mapM l first k l[k]!.copy).getD (hold0 l[k]!.copy first)) (h1 : l[k]!.token = h.token + 1) (h2 : l[k]!.device = h.device) (h3 : h.shown = false) (h4 : l[k]!.kind ≠ 2) : mapM l first (k + 1) = upM (mapM l first k) l[k]!.copy ⟨h.copy, l[k]!.to, l[k]!.token, h.shown⟩ := by
  show performM first (mapM l first k) l[k]! = _
  unfold performM
  rw [← hh, if_neg (by simp only [dbs]; rw [h1, h2, h3]; simp), if_neg (by simpa using h4)]
theorem hold_some {M : Option Holding} {z d : Holding} (h : M.isSome = true) : M.getD z = M.getD d := by cases M <;> simp_all
theorem hold_none {M : Option Holding} {d : Holding} (h : M.isSome = false) : d = M.getD d := by cases M <;> simp_all
theorem holdsM_len (l : List DeviceOp) (first : Int) (n : Nat) : (holdsM l first n).length = n := by simp [holdsM]
theorem holdsM_at {l : List DeviceOp} {first : Int} {n k : Nat} (h : k < n) : (holdsM l first n)[k]! = holdM l first (k : Int) := by
  rw [getElem!_pos _ k (by rw [holdsM_len]; exact h)]; simp [holdsM]
variable {copies device copy : Int}
theorem state_1 (h : checkM l ≠ 0) : stateM l copies first = ([], 420) := by unfold stateM; rw [if_pos (by simpa using h)]
theorem state_2 (h : checkM l = 0) (h2 : copies < 0) : stateM l copies first = ([], 1) := by unfold stateM; rw [if_neg (by simpa using h), if_pos (by simp only [dbs]; exact .inl (.inl h2))]
theorem state_3 (h : checkM l = 0) (h2 : 1024 < copies) : stateM l copies first = ([], 1) := by unfold stateM; rw [if_neg (by simpa using h), if_pos (by simp only [dbs]; exact .inl (.inr h2))]
theorem state_4 (h : checkM l = 0) (h2 : isDevM first = false) : stateM l copies first = ([], 1) := by unfold stateM; rw [if_neg (by simpa using h), if_pos (by simp only [dbs]; exact .inr h2)]
theorem state_5 (h : checkM l = 0) (h1 : 0 ≤ copies) (h2 : copies ≤ 1024) (h3 : isDevM first = true) : stateM l copies first = (holdsM l first copies.toNat, 0) := by
  unfold stateM; rw [if_neg (by simpa using h), if_neg (by rw [Bool.not_eq_true]; simp only [dbs]; exact ⟨⟨by omega, by omega⟩, h3⟩)]
theorem state_cases (l : List DeviceOp) (copies first : Int) : (stateM l copies first = (holdsM l first copies.toNat, 0) ∧ okL l ∧ 0 ≤ copies ∧ copies ≤ 1024 ∧ isDevM first = true) ∨ (stateM l copies first = ([], 420) ∧ ¬ okL l) ∨ (stateM l copies first = ([], 1) ∧ okL l ∧ (copies < 0 ∨ 1024 < copies ∨ isDevM first = false)) := by
  by_cases h : checkM l = 0
  · by_cases h1 : copies < 0
    · exact .inr (.inr ⟨state_2 h h1, (check_iff l).1 h, .inl h1⟩)
    · by_cases h2 : 1024 < copies
      · exact .inr (.inr ⟨state_3 h h2, (check_iff l).1 h, .inr (.inl h2)⟩)
      · cases h3 : isDevM first with
        | false => exact .inr (.inr ⟨state_4 h h3, (check_iff l).1 h, .inr (.inr rfl)⟩)
        | true => exact .inl ⟨state_5 h (by omega) (by omega) h3, (check_iff l).1 h, by omega, by omega, rfl⟩
  · exact .inr (.inl ⟨state_1 h, fun h2 => h ((check_iff l).2 h2)⟩)
theorem state_ok (h : (stateM l copies first).2 = 0) : (stateM l copies first).1 = holdsM l first copies.toNat ∧ okL l ∧ 0 ≤ copies ∧ copies ≤ 1024 ∧ isDevM first = true := by
  rcases state_cases l copies first with ⟨e, h1⟩ | ⟨e, _⟩ | ⟨e, _⟩
  · rw [e]; exact ⟨rfl, h1⟩
  · rw [e] at h; cases h
  · rw [e] at h; cases h
theorem state_err (h : (stateM l copies first).2 ≠ 0) : (stateM l copies first).1 = [] := by
  rcases state_cases l copies first with ⟨e, _⟩ | ⟨e, _⟩ | ⟨e, _⟩ <;> rw [e] at h ⊢ <;> simp at h
theorem state_len (h : (stateM l copies first).2 = 0) : (stateM l copies first).1.length = copies.toNat := by rw [(state_ok h).1, holdsM_len]
theorem may_1 (h : (stateM l copies first).2 ≠ 0) : mayM l copies first device copy = (false, (stateM l copies first).2) := by unfold mayM; rw [if_pos (by simpa using h)]
theorem may_2 (h : (stateM l copies first).2 = 0) (h2 : isDevM device = false ∨ copy < 0 ∨ copies ≤ copy) : mayM l copies first device copy = (false, 1) := by
  unfold mayM; rw [if_neg (by simpa using h), if_pos]
  simp only [dbs]
  rcases h2 with h2 | h2 | h2
  · exact .inl (.inl h2)
  · exact .inl (.inr h2)
  · exact .inr h2
theorem may_3 (h : (stateM l copies first).2 = 0) (h1 : isDevM device = true) (h2 : 0 ≤ copy) (h3 : copy < copies) (h4 : (stateM l copies first).1[copy.toNat]!.device ≠ device) : mayM l copies first device copy = (false, 0) := by
  unfold mayM; rw [if_neg (by simpa using h), if_neg (by rw [Bool.not_eq_true]; simp only [dbs]; exact ⟨⟨h1, by omega⟩, by omega⟩)]
  rw [show ((stateM l copies first).1[copy.toNat]!.device == device) = false from beq_eq_false_iff_ne.2 h4]; rfl
theorem may_4 (h : (stateM l copies first).2 = 0) (h1 : isDevM device = true) (h2 : 0 ≤ copy) (h3 : copy < copies) (h4 : (stateM l copies first).1[copy.toNat]!.device = device) : mayM l copies first device copy = (!(stateM l copies first).1[copy.toNat]!.shown, 0) := by
  unfold mayM; rw [if_neg (by simpa using h), if_neg (by rw [Bool.not_eq_true]; simp only [dbs]; exact ⟨⟨h1, by omega⟩, by omega⟩)]
  rw [show ((stateM l copies first).1[copy.toNat]!.device == device) = true from beq_iff_eq.2 h4]; rfl
end
theorem holdM_fold (l : List DeviceOp) (first c : Int) : holdM l first c = foldH l c first := by
  unfold holdM; rw [mapM_fold l first c _ (Nat.le_refl _), List.take_length]
theorem valid_tok {o : DeviceOp} (h : validM o = true) : 0 ≤ o.token ∧ o.token ≤ 65536 := by
  unfold validM at h
  split at h
  · cases h
  · rename_i hh
    rw [Bool.not_eq_true] at hh
    simp only [dbs] at hh
    omega
theorem step_tok {h : Holding} {o : DeviceOp} (hv : validM o = true) (hh : 0 ≤ h.token ∧ h.token ≤ 65536) : 0 ≤ (stepH h o).token ∧ (stepH h o).token ≤ 65536 := by
  have := valid_tok hv
  unfold stepH
  split
  · exact hh
  · split <;> exact this
theorem foldl_tok : ∀ (l : List DeviceOp) (h : Holding), (∀ o ∈ l, validM o = true) → 0 ≤ h.token ∧ h.token ≤ 65536 → 0 ≤ (l.foldl stepH h).token ∧ (l.foldl stepH h).token ≤ 65536
  | [], h, _, hh => hh
  | o :: l, h, hv, hh => foldl_tok l (stepH h o) (fun x hx => hv x (List.mem_cons_of_mem _ hx)) (step_tok (hv o List.mem_cons_self) hh)
theorem foldH_tok {l : List DeviceOp} (hv : ∀ o ∈ l, validM o = true) (c first : Int) : 0 ≤ (foldH l c first).token ∧ (foldH l c first).token ≤ 65536 :=
  foldl_tok _ _ (fun o ho => hv o (List.mem_filter.1 ho).1) ⟨by simp [hold0], by simp [hold0]⟩
theorem map_tok {l : List DeviceOp} (hl : okL l) {first c : Int} {k : Nat} (hk : k ≤ l.length) {h : Holding} (hh : h = (mapM l first k c).getD (hold0 c first)) : 0 ≤ h.token ∧ h.token ≤ 65536 := by
  rw [hh, mapM_fold l first c k hk]; exact foldH_tok (fun o ho => hl.2.1 o (List.mem_of_mem_take ho)) c first
end Go.Proofs.Ytjpniibleelgiaa
