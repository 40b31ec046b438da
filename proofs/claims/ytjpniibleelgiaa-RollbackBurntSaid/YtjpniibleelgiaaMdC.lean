/- Devices: what the reference of chapter 42 reckons is what the program reckons. No program in sight. -/
import Derived.Test.YtjpniibleelgiaaMdB
set_option linter.unusedSimpArgs false
set_option linter.unusedVariables false
namespace Go.Proofs.Ytjpniibleelgiaa
open Go.Fw

def inD (n a b : Int) : Bool := decide (a ≤ n) && decide (n ≤ b)
theorem dev_in (n : Int) : isDevM n = inD n 0 3 := by unfold isDevM inD; congr 1; rw [Bool.eq_iff_iff]; simp; omega
theorem valid_in (o : DeviceOp) : validM o = (((((isDevM o.device && inD o.no 1 65536) && inD o.copy 0 1023) && inD o.token 1 65536)) && (((o.kind == 1) && isDevM o.to) || ((o.kind == 2) && (o.to == 0)))) := by
  unfold validM
  rw [Bool.eq_iff_iff]
  unfold inD
  by_cases h : (((((((!isDevM o.device || decide (o.no < 1)) || decide (65536 < o.no)) || decide (o.copy < 0)) || decide (1024 ≤ o.copy)) || decide (o.token < 1)) || decide (65536 < o.token)) = true)
  · rw [if_pos h]
    simp only [dbs] at h ⊢
    constructor
    · intro h2; cases h2
    · rintro ⟨⟨⟨⟨h1, h2⟩, h3⟩, h4⟩, _⟩
      rw [h1] at h
      simp at h; omega
  · rw [if_neg h]
    rw [Bool.not_eq_true] at h
    simp only [dbs] at h ⊢
    constructor
    · intro h2
      refine ⟨?_, h2⟩
      have h1 : isDevM o.device = true := by simpa using h.1.1.1.1.1.1
      refine ⟨⟨⟨h1, ?_⟩, ?_⟩, ?_⟩ <;> omega
    · exact fun h2 => h2.2
theorem inD_t {copy copies : Int} (h : inD copy 0 (copies - 1) = true) : 0 ≤ copy ∧ copy < copies := by unfold inD at h; simp only [dbs] at h; omega
theorem inD_f {copy copies : Int} (h : inD copy 0 (copies - 1) = false) : copy < 0 ∨ copies ≤ copy := by unfold inD at h; simp only [dbs] at h; omega
theorem rstate_2 {l : List DeviceOp} {copies first : Int} (h : checkM l = 0) (h2 : inD copies 0 1024 = false) : stateM l copies first = ([], 1) := by
  unfold inD at h2
  simp only [dbs] at h2
  by_cases h3 : copies < 0
  · exact state_2 h h3
  · exact state_3 h (by omega)
theorem rstate_5 {l : List DeviceOp} {copies first : Int} (h : checkM l = 0) (h2 : inD copies 0 1024 = true) (h3 : isDevM first = true) : stateM l copies first = (holdsM l first copies.toNat, 0) := by
  unfold inD at h2
  simp only [dbs] at h2
  exact state_5 h h2.1 h2.2 h3
theorem inD_le {copies : Int} (h : inD copies 0 1024 = true) : 0 ≤ copies ∧ copies ≤ 1024 := by unfold inD at h; simp only [dbs] at h; exact h
def beforeM (a b : DeviceOp) : Bool := decide (cmpM a b < 0)
theorem lexI_at : ∀ (l r : List Int) (i : Nat), i < l.length → l.length = r.length → (∀ q, q < i → l[q]! = r[q]!) → l[i]! ≠ r[i]! → (lexI l r < 0 ↔ l[i]! < r[i]!)
  | [], _, _, h, _, _, _ => by simp at h
  | _ :: _, [], _, _, h, _, _ => by simp at h
  | x :: l, y :: r, 0, _, _, _, h => by
    simp only [List.getElem!_cons_zero] at h ⊢
    unfold lexI
    split
    · simp [*]
    · split
      · constructor <;> intro h2 <;> omega
      · omega
  | x :: l, y :: r, i + 1, h1, h2, h3, h4 => by
    have e := h3 0 (by omega)
    simp only [List.getElem!_cons_zero] at e
    subst e
    simp only [List.getElem!_cons_succ] at h4 ⊢
    unfold lexI
    rw [if_neg (show ¬ (x < x) by omega), if_neg (show ¬ (x < x) by omega)]
    exact lexI_at l r i (by simpa using h1) (by simpa using h2) (fun q hq => by have := h3 (q + 1) (by omega); simpa using this) h4
theorem lexI_all : ∀ (l r : List Int), l.length = r.length → (∀ q, q < l.length → l[q]! = r[q]!) → lexI l r = 0
  | [], [], _, _ => rfl
  | [], _ :: _, h, _ => by simp at h
  | _ :: _, [], h, _ => by simp at h
  | x :: l, y :: r, h, h2 => by
    have e := h2 0 (by simp)
    simp only [List.getElem!_cons_zero] at e
    subst e
    unfold lexI
    rw [if_neg (show ¬ (x < x) by omega), if_neg (show ¬ (x < x) by omega)]
    exact lexI_all l r (by simpa using h) (fun q hq => by have := h2 (q + 1) (by simpa using hq); simpa using this)
theorem bef_at {a b : DeviceOp} {k : Nat} (hk : k < (keysM a).length) (h : ∀ q, q < k → (keysM a)[q]! = (keysM b)[q]!) (hn : (keysM a)[k]! ≠ (keysM b)[k]!) : beforeM a b = decide ((keysM a)[k]! < (keysM b)[k]!) := by
  unfold beforeM; rw [cmpM_lex]; exact decide_eq_decide.2 (lexI_at _ _ k hk rfl h hn)
theorem bef_end {a b : DeviceOp} {k : Nat} (hk : ((keysM a).length : Int) ≤ (k : Int)) (h : ∀ q, q < k → (keysM a)[q]! = (keysM b)[q]!) : beforeM a b = false := by
  unfold beforeM; rw [cmpM_lex, lexI_all (keysM a) (keysM b) rfl (fun q hq => h q (by omega))]; rfl
theorem before_iff {a b : DeviceOp} : beforeM a b = true ↔ cmpM a b < 0 := by unfold beforeM; simp
theorem before_no {a b : DeviceOp} : beforeM a b = false ↔ 0 ≤ cmpM a b := by unfold beforeM; simp
/-! ### checking -/
def pre42 (l : List DeviceOp) (i : Nat) : Prop := (∀ q, q < i → opBad l q = false) ∧ ∀ p q, p < q → q < i → numM l[p]! ≠ numM l[q]!
theorem pre_zero (l : List DeviceOp) : pre42 l 0 := ⟨fun q h => by omega, fun p q _ h => by omega⟩
theorem pre_step {l : List DeviceOp} {i : Nat} (h : pre42 l i) (hv : validM l[i]! = true) (hb : 0 < i → beforeM l[i - 1]! l[i]! = true) (hc : ∀ k, k < i → numM l[k]! ≠ numM l[i]!) : pre42 l (i + 1) := by
  refine ⟨fun q hq => ?_, fun p q hp hq => ?_⟩
  · by_cases e : q = i
    · subst e; exact opBad_f.2 ⟨hv, fun h0 => before_iff.1 (hb h0)⟩
    · exact h.1 q (by omega)
  · by_cases e : q = i
    · subst e; exact hc p hp
    · exact h.2 p q hp (by omega)
theorem num_step {l : List DeviceOp} {i k : Nat} (h : ∀ q, q < k → numM l[q]! ≠ numM l[i]!) (hk : numM l[k]! ≠ numM l[i]!) : ∀ q, q < k + 1 → numM l[q]! ≠ numM l[i]! := by
  intro q hq
  by_cases e : q = k
  · subst e; exact hk
  · exact h q (by omega)
theorem num_ne1 {a b : DeviceOp} (h : a.device ≠ b.device) : numM a ≠ numM b := fun e => h (congrArg DevNo.device e)
theorem num_ne2 {a b : DeviceOp} (h : a.no ≠ b.no) : numM a ≠ numM b := fun e => h (congrArg DevNo.no e)
theorem num_eq {a b : DeviceOp} (h : a.device = b.device) (h2 : a.no = b.no) : numM a = numM b := by unfold numM; rw [h, h2]
theorem chk_len {l : List DeviceOp} (h : (256 : Int) < l.length) : checkM l = 420 := (check_no l).2 fun hk => by have := hk.1; omega
theorem chk_val {l : List DeviceOp} {i : Nat} (hi : i < l.length) (h : validM l[i]! = false) : checkM l = 420 := (check_no l).2 fun hk => by
  have := hk.2.1 l[i]! (by rw [getElem!_pos l i hi]; exact List.getElem_mem hi)
  rw [h] at this; cases this
theorem chk_ord {l : List DeviceOp} {i : Nat} (hi : i < l.length) (h0 : 0 < i) (h : beforeM l[i - 1]! l[i]! = false) : checkM l = 420 := (check_no l).2 fun hk => by
  have := (sorted_iff l).1 hk.2.2.1 (i - 1) i (by omega) hi
  have := before_no.1 h; omega
theorem chk_num {l : List DeviceOp} {i k : Nat} (hi : i < l.length) (hk : k < i) (h : l[k]!.device = l[i]!.device) (h2 : l[k]!.no = l[i]!.no) : checkM l = 420 := (check_no l).2 fun ho => by
  have h3 := ho.2.2.2 l[k]! (by rw [getElem!_pos l k (by omega)]; exact List.getElem_mem _) l[i]! (by rw [getElem!_pos l i hi]; exact List.getElem_mem hi) (num_eq h h2)
  have h4 := (sorted_iff l).1 ho.2.2.1 k i hk hi
  rw [h3] at h4; exact cmp_irr h4
theorem chk_ok {l : List DeviceOp} (h : pre42 l l.length) (hl : (l.length : Int) ≤ 256) : checkM l = 0 := by
  have hs : sortedM l := (sorted_iff l).2 (sorted_idx h.1)
  refine (check_iff l).2 ⟨by omega, fun o ho => ?_, hs, ?_⟩
  · obtain ⟨i, hi, rfl⟩ := List.getElem_of_mem ho
    have := (opBad_f.1 (h.1 i hi)).1
    rwa [getElem!_pos l i hi] at this
  · intro x hx y hy e
    obtain ⟨i, hi, rfl⟩ := List.getElem_of_mem hx
    obtain ⟨j, hj, rfl⟩ := List.getElem_of_mem hy
    rcases Nat.lt_trichotomy i j with h1 | h1 | h1
    · have := h.2 i j h1 hj; rw [getElem!_pos l i hi, getElem!_pos l j hj] at this; exact absurd e this
    · subst h1; rfl
    · have := h.2 j i h1 hi; rw [getElem!_pos l i hi, getElem!_pos l j hj] at this; exact absurd e.symm this
theorem mem_yes {l : List DeviceOp} {o : DeviceOp} {k : Nat} (hk : k < l.length) (h : l[k]! = o) : l.contains o = true := by
  rw [List.contains_iff_mem, ← h, getElem!_pos l k hk]; exact List.getElem_mem hk
theorem mem_no {l : List DeviceOp} {o : DeviceOp} (h : ∀ q, q < l.length → l[q]! ≠ o) : l.contains o = false := by
  rw [← Bool.not_eq_true, List.contains_iff_mem]
  intro hm
  obtain ⟨i, hi, e⟩ := List.getElem_of_mem hm
  exact h i hi (by rw [getElem!_pos l i hi]; exact e)
theorem ne_step {α : Type} [Inhabited α] {l : List α} {o : α} {k : Nat} (h : ∀ q, q < k → l[q]! ≠ o) (hk : l[k]! ≠ o) : ∀ q, q < k + 1 → l[q]! ≠ o := by
  intro q hq
  by_cases e : q = k
  · subst e; exact hk
  · exact h q (by omega)
theorem eq_step {α : Type} [Inhabited α] {l m : List α} {k : Nat} (h : ∀ q, q < k → l[q]! = m[q]!) (hk : l[k]! = m[k]!) : ∀ q, q < k + 1 → l[q]! = m[q]! := by
  intro q hq
  by_cases e : q = k
  · subst e; exact hk
  · exact h q (by omega)
theorem lt_step {l : List DeviceOp} {o : DeviceOp} {k : Nat} (h : ∀ q, q < k → cmpM l[q]! o < 0) (hk : beforeM l[k]! o = true) : ∀ q, q < k + 1 → cmpM l[q]! o < 0 := by
  intro q hq
  by_cases e : q = k
  · subst e; exact before_iff.1 hk
  · exact h q (by omega)
theorem clash_yes {l : List DeviceOp} {o : DeviceOp} {k : Nat} (hk : k < l.length) (h : l[k]!.device = o.device) (h2 : l[k]!.no = o.no) : clashM l o = true :=
  (clash_iff l o).2 ⟨l[k]!, by rw [getElem!_pos l k hk]; exact List.getElem_mem hk, num_eq h h2⟩
theorem clash_no {l : List DeviceOp} {o : DeviceOp} (h : ∀ q, q < l.length → numM l[q]! ≠ numM o) : clashM l o = false := by
  rw [← Bool.not_eq_true, clash_iff]
  rintro ⟨p, hp, e⟩
  obtain ⟨i, hi, rfl⟩ := List.getElem_of_mem hp
  exact h i hi (by rw [getElem!_pos l i hi]; exact e)
theorem nn_step {l : List DeviceOp} {o : DeviceOp} {k : Nat} (h : ∀ q, q < k → numM l[q]! ≠ numM o) (hk : numM l[k]! ≠ numM o) : ∀ q, q < k + 1 → numM l[q]! ≠ numM o := by
  intro q hq
  by_cases e : q = k
  · subst e; exact hk
  · exact h q (by omega)
theorem tw_at {l : List DeviceOp} {o : DeviceOp} {k : Nat} (hk : k ≤ l.length) (h : ∀ q, q < k → cmpM l[q]! o < 0) (h2 : (k : Int) < l.length → beforeM l[k]! o = false) : twM l o = k :=
  tw2_eq hk h fun hk2 => before_no.1 (h2 (by omega))
/-! ### merging, one after the other -/
def mrg (a b : List DeviceOp) (i : Nat) : List DeviceOp := mergeL a (b.take i)
theorem sorted_take {b : List DeviceOp} (hb : sortedM b) (i : Nat) : sortedM (b.take i) := hb.sublist (List.take_sublist _ _)
theorem sorted_mrg {a b : List DeviceOp} (ha : okL a) (hb : okL b) (i : Nat) : sortedM (mrg a b i) := sorted_mergeL _ _ ha.2.2.1 (sorted_take hb.2.2.1 i)
theorem mem_mrg (a b : List DeviceOp) (i : Nat) (o : DeviceOp) : o ∈ mrg a b i ↔ o ∈ a ∨ o ∈ b.take i := mem_mergeL _ _ _
theorem mrg_zero (a b : List DeviceOp) : mrg a b 0 = a := by unfold mrg; rw [List.take_zero, mergeL_nil]
theorem mrg_end (a b : List DeviceOp) : mrg a b b.length = mergeL a b := by unfold mrg; rw [List.take_length]
theorem len_mrg {a b : List DeviceOp} (ha : okL a) (hb : okL b) (i : Nat) : (mrg a b i).length ≤ 512 := by
  have := len_mergeL a (b.take i); have := ha.1; have := hb.1; have := List.length_take_le i b; have := List.length_take_le' i b; unfold mrg; omega
theorem mem_take_succ {b : List DeviceOp} {i : Nat} (hi : i < b.length) (o : DeviceOp) : o ∈ b.take (i + 1) ↔ o ∈ b.take i ∨ o = b[i]! := by rw [takeD_snoc hi]; simp
theorem mrg_has {a b : List DeviceOp} {i : Nat} (ha : okL a) (hb : okL b) (hi : i < b.length) (h : (mrg a b i).contains b[i]! = true) : mrg a b (i + 1) = mrg a b i :=
  sorted_ext (sorted_mrg ha hb _) (sorted_mrg ha hb _) fun o => by
    rw [List.contains_iff_mem] at h
    rw [mem_mrg, mem_take_succ hi, mem_mrg]
    constructor
    · rintro (h2 | h2 | h2)
      · exact .inl h2
      · exact .inr h2
      · subst h2; exact (mem_mrg _ _ _ _).1 h
    · rintro (h2 | h2)
      · exact .inl h2
      · exact .inr (.inl h2)
theorem mrg_new {a b : List DeviceOp} {i : Nat} (ha : okL a) (hb : okL b) (hi : i < b.length) (h : (mrg a b i).contains b[i]! = false) : mrg a b (i + 1) = insM (mrg a b i) b[i]! :=
  sorted_ext (sorted_mrg ha hb _) (sorted_insM (sorted_mrg ha hb _) (by simpa using h)) fun o => by
    rw [mem_insM, mem_mrg, mem_take_succ hi, mem_mrg]
    constructor
    · rintro (h2 | h2 | h2)
      · exact .inr (.inl h2)
      · exact .inr (.inr h2)
      · exact .inl h2
    · rintro (h2 | h2 | h2)
      · exact .inr (.inr h2)
      · exact .inl h2
      · exact .inr (.inl h2)
theorem mrg_inj {a b : List DeviceOp} {i : Nat} (ha : okL a) (hb : okL b) (hi : i < b.length) (h : (mrg a b i).contains b[i]! = false) (hn : numInj (mrg a b i)) (hc : clashM (mrg a b i) b[i]! = false) : numInj (mrg a b (i + 1)) := by
  rw [mrg_new ha hb hi h]; exact numInj_ins hn hc
theorem mrg_clash {a b : List DeviceOp} {i : Nat} (ha : okL a) (hb : okL b) (hi : i < b.length) (h : (mrg a b i).contains b[i]! = false) (hc : clashM (mrg a b i) b[i]! = true) : mergeM a b = ([], 420) := by
  obtain ⟨p, hp, e⟩ := (clash_iff _ _).1 hc
  have hni : ¬ numInj (mergeL a b) := fun hn => by
    have hp' : p ∈ mergeL a b := (mem_mergeL _ _ _).2 (((mem_mrg _ _ _ _).1 hp).imp id (List.mem_of_mem_take))
    have hbi : b[i]! ∈ b := by rw [getElem!_pos b i hi]; exact List.getElem_mem hi
    have := hn p hp' b[i]! ((mem_mergeL _ _ _).2 (.inr hbi)) e
    subst this
    rw [← List.contains_iff_mem] at hp; rw [hp] at h; cases h
  rcases merge_cases a b with ⟨_, _, _, hk⟩ | ⟨e2, _⟩ | ⟨_, _, _, hk, _⟩
  · exact absurd hk.2.2.2 hni
  · exact e2
  · exact absurd hk hni
theorem mrg_big {a b : List DeviceOp} (ha : okL a) (hb : okL b) (hn : numInj (mrg a b b.length)) (hl : (256 : Int) < (mrg a b b.length).length) : mergeM a b = ([], 2) := by
  rw [mrg_end] at hn hl
  have hs := sorted_mergeL a b ha.2.2.1 hb.2.2.1
  exact merge_4 ((check_iff a).2 ha) ((check_iff b).2 hb) ((numbered_iff _).2 ((numInj_iff hs).2 hn)) hl
theorem mrg_fit {a b : List DeviceOp} (ha : okL a) (hb : okL b) (hn : numInj (mrg a b b.length)) (hl : ((mrg a b b.length).length : Int) ≤ 256) : mergeM a b = (mrg a b b.length, 0) := by
  rw [mrg_end] at hn hl ⊢
  have hs := sorted_mergeL a b ha.2.2.1 hb.2.2.1
  exact merge_5 ((check_iff a).2 ha) ((check_iff b).2 hb) ((numbered_iff _).2 ((numInj_iff hs).2 hn)) hl
/-! ### where a copy is -/
def countsM (h : Holding) (o : DeviceOp) : Bool := ((o.token == h.token + 1) && (o.device == h.device)) && !h.shown
def foldAt (l : List DeviceOp) (c first : Int) (k : Nat) : Holding := foldH (l.take k) c first
theorem foldAt_zero (l : List DeviceOp) (c first : Int) : foldAt l c first 0 = hold0 c first := by simp [foldAt, foldH]
theorem foldAt_succ {l : List DeviceOp} {c first : Int} {k : Nat} (h : k < l.length) : foldAt l c first (k + 1) = if l[k]!.copy = c then stepH (foldAt l c first k) l[k]! else foldAt l c first k := by
  unfold foldAt foldH
  rw [takeD_snoc h, List.filter_append, List.foldl_append]
  generalize l[k]! = x
  by_cases e : x.copy = c
  · rw [if_pos e]; simp [e]
  · rw [if_neg e]; simp [e]
theorem foldAt_end (l : List DeviceOp) (c first : Int) : foldAt l c first l.length = holdM l first c := by unfold foldAt; rw [List.take_length, holdM_fold]
theorem fold_other {l : List DeviceOp} {c first : Int} {k : Nat} (h : k < l.length) (hc : l[k]!.copy ≠ c) : foldAt l c first (k + 1) = foldAt l c first k := by rw [foldAt_succ h, if_neg hc]
theorem step_no {h : Holding} {o : DeviceOp} (hc : countsM h o = false) : stepH h o = h := by
  unfold countsM at hc
  unfold stepH
  rw [if_pos]
  simp only [dbs] at hc ⊢
  rcases hc with (hc | hc) | hc
  · exact .inl (.inl hc)
  · exact .inl (.inr hc)
  · exact .inr hc
theorem step_yes {h : Holding} {o : DeviceOp} (hc : countsM h o = true) : stepH h o = if o.kind = 2 then ⟨h.copy, h.device, o.token, true⟩ else ⟨h.copy, o.to, o.token, h.shown⟩ := by
  unfold countsM at hc
  unfold stepH
  simp only [dbs] at hc
  rw [if_neg (by simp only [dbs]; simp [hc])]
  simp
theorem fold_no {l : List DeviceOp} {c first : Int} {k : Nat} (h : k < l.length) (hc : countsM (foldAt l c first k) l[k]! = false) : foldAt l c first (k + 1) = foldAt l c first k := by
  rw [foldAt_succ h]; split
  · exact step_no hc
  · rfl
theorem fold_give {l : List DeviceOp} {c first : Int} {k : Nat} (h : k < l.length) (he : l[k]!.copy = c) (hc : countsM (foldAt l c first k) l[k]! = true) (hk : l[k]!.kind ≠ 2) : foldAt l c first (k + 1) = ⟨(foldAt l c first k).copy, l[k]!.to, l[k]!.token, (foldAt l c first k).shown⟩ := by
  rw [foldAt_succ h, if_pos he, step_yes hc, if_neg hk]
theorem fold_show {l : List DeviceOp} {c first : Int} {k : Nat} (h : k < l.length) (he : l[k]!.copy = c) (hc : countsM (foldAt l c first k) l[k]! = true) (hk : l[k]!.kind = 2) : foldAt l c first (k + 1) = ⟨(foldAt l c first k).copy, (foldAt l c first k).device, l[k]!.token, true⟩ := by
  rw [foldAt_succ h, if_pos he, step_yes hc, if_pos hk]
theorem valid_kind {o : DeviceOp} (h : validM o = true) : (o.kind = 1 ∧ 0 ≤ o.to ∧ o.to < 4) ∨ (o.kind = 2 ∧ o.to = 0) := by
  rw [valid_in] at h
  simp only [dbs] at h
  rcases h.2 with ⟨h1, h2⟩ | h2
  · unfold isDevM at h2; simp only [dbs] at h2; exact .inl ⟨h1, h2⟩
  · exact .inr h2
theorem valid_bounds {o : DeviceOp} (h : validM o = true) : 0 ≤ o.device ∧ o.device < 4 ∧ 1 ≤ o.no ∧ o.no ≤ 65536 ∧ 0 ≤ o.copy ∧ o.copy < 1024 ∧ 1 ≤ o.token ∧ o.token ≤ 65536 := by
  rw [valid_in] at h
  unfold isDevM inD at h
  simp only [dbs] at h
  omega
/-! ### equal lists -/
section
variable {α : Type} [DecidableEq α] {l m : List α}
theorem same_len (h : (l.length : Int) ≠ m.length) : (l == m) = false := by
  rw [beq_eq_false_iff_ne]; intro e; subst e; exact h rfl
variable [Inhabited α]
theorem same_at {k : Nat} (h : l[k]! ≠ m[k]!) : (l == m) = false := by
  rw [beq_eq_false_iff_ne]; intro e; subst e; exact h rfl
theorem same_end (h : (l.length : Int) = m.length) (h2 : ∀ q, q < l.length → l[q]! = m[q]!) : (l == m) = true := by
  rw [beq_iff_eq]
  refine List.ext_getElem (by omega) fun i h1 h3 => ?_
  have := h2 i h1
  rwa [getElem!_pos l i h1, getElem!_pos m i h3] at this
end
theorem chk_valid {l : List DeviceOp} (h : checkM l = 0) {k : Nat} (hk : k < l.length) : validM l[k]! = true := by
  rw [getElem!_pos l k hk]; exact ((check_iff l).1 h).2.1 _ (List.getElem_mem hk)
theorem chk_kind {l : List DeviceOp} (h : checkM l = 0) {k : Nat} (hk : k < l.length) (h1 : l[k]!.kind ≠ 1) : l[k]!.kind = 2 := by
  rcases valid_kind (chk_valid h hk) with h2 | h2
  · exact absurd h2.1 h1
  · exact h2.1
theorem foldAt_tok {l : List DeviceOp} (h : checkM l = 0) (c first : Int) (k : Nat) : 0 ≤ (foldAt l c first k).token ∧ (foldAt l c first k).token ≤ 65536 :=
  foldH_tok (fun o ho => ((check_iff l).1 h).2.1 o (List.mem_of_mem_take ho)) c first
end Go.Proofs.Ytjpniibleelgiaa
