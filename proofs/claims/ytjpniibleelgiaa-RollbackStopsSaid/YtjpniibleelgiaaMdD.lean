/- Devices: the laws of chapter 42 about what the program reckons. No program in sight. -/
import Derived.Test.YtjpniibleelgiaaMdC
set_option linter.unusedSimpArgs false
set_option linter.unusedVariables false
namespace Go.Proofs.Ytjpniibleelgiaa
open Go.Fw

theorem mem_idx {l : List DeviceOp} {k : Nat} (hk : k < l.length) : l[k]! ∈ l := by rw [getElem!_pos l k hk]; exact List.getElem_mem hk
theorem has_mem {l : List DeviceOp} {o : DeviceOp} (h : o ∈ l) : l.contains o = true := List.contains_iff_mem.2 h
/-! ### merging -/
section
variable {a b c : List DeviceOp}
theorem mm_own (h : okL a) : mergeM a a = (a, 0) := merge_of h h h (by simp)
theorem mm_again (h : (mergeM a b).2 = 0) : mergeM (mergeM a b).1 b = ((mergeM a b).1, 0) := by
  obtain ⟨h1, h2, h3, h4⟩ := merge_ok h
  exact merge_of h3 h2 h3 fun o => by rw [h4]; exact ⟨.inl, fun h => h.elim id .inr⟩
theorem mm_assoc (h : (mergeM a b).2 = 0) (hp : (mergeM (mergeM a b).1 c).2 = 0) (hq : (mergeM b c).2 = 0) : mergeM a (mergeM b c).1 = ((mergeM (mergeM a b).1 c).1, 0) := by
  obtain ⟨h1, h2, h3, h4⟩ := merge_ok h
  obtain ⟨p1, p2, p3, p4⟩ := merge_ok hp
  obtain ⟨q1, q2, q3, q4⟩ := merge_ok hq
  exact merge_of h1 q3 p3 fun o => by rw [p4, h4, q4]; exact or_assoc
theorem mm_in (h : (mergeM a b).2 = 0) {k : Nat} (hk : k < (mergeM a b).1.length) (ha : a.contains (mergeM a b).1[k]! = false) : b.contains (mergeM a b).1[k]! = true := by
  rcases ((merge_ok h).2.2.2 _).1 (mem_idx hk) with h1 | h1
  · rw [has_mem h1] at ha; cases ha
  · exact has_mem h1
theorem mm_has (h : (mergeM a b).2 = 0) {k j : Nat} (hk : k < [a, b].length) (hj : j < ([a, b][k]!).length) : (mergeM a b).1.contains ([a, b][k]!)[j]! = true := by
  apply has_mem
  rw [(merge_ok h).2.2.2]
  have hm := mem_idx hj
  match k, hk with
  | 0, _ => exact .inl hm
  | 1, _ => exact .inr hm
end
/-! ### where the copies are -/
section
variable {l : List DeviceOp} {copies first : Int} {o : DeviceOp} {k : Nat}
theorem st_at (h : (stateM l copies first).2 = 0) (hk : k < copies.toNat) : (stateM l copies first).1[k]! = holdM l first (k : Int) := by rw [(state_ok h).1, holdsM_at hk]
theorem st_of (hl : okL l) (h1 : 0 ≤ copies) (h2 : copies ≤ 1024) (h3 : isDevM first = true) : (stateM l copies first).2 = 0 := by rw [state_5 ((check_iff l).2 hl) h1 h2 h3]
theorem cmp_tok {a b : DeviceOp} (h : a.copy = b.copy) (h2 : a.token < b.token) : cmpM a b < 0 := by
  rw [cmpM_lex]
  unfold keysM lexI
  rw [if_neg (by omega), if_neg (by omega)]
  unfold lexI
  rw [if_pos h2]; decide
theorem filter_ins_other {c : Int} (h : o.copy ≠ c) : (insM l o).filter (fun x => x.copy == c) = l.filter (fun x => x.copy == c) := by
  unfold insM
  conv => rhs; rw [← List.take_append_drop (twM l o) l]
  rw [List.filter_append, List.filter_append, List.filter_append]
  have : List.filter (fun x : DeviceOp => x.copy == c) [o] = [] := by simp [h]
  rw [this, List.append_nil]
theorem hold_add_other (h : (addM l o).2 = 0) {c : Int} (hc : o.copy ≠ c) : holdM (addM l o).1 first c = holdM l first c := by
  rcases add_cases l o with ⟨e, _⟩ | ⟨e, _⟩ | ⟨e, _⟩ | ⟨e, _⟩
  · rw [e]
  · rw [e, holdM_fold, holdM_fold]; unfold foldH; rw [filter_ins_other hc]
  · rw [e] at h; cases h
  · rw [e] at h; cases h
theorem filter_ins_last (hs : sortedM l) (ht : ∀ x ∈ l, x.copy = o.copy → x.token < o.token) : (insM l o).filter (fun x => x.copy == o.copy) = l.filter (fun x => x.copy == o.copy) ++ [o] := by
  have h2 : (l.drop (twM l o)).filter (fun x => x.copy == o.copy) = [] := by
    rw [List.filter_eq_nil_iff]
    intro x hx
    rw [beq_iff_eq]
    intro e
    exact (twM_split hs o).2 x hx (cmp_tok e (ht x (List.mem_of_mem_drop hx) e))
  unfold insM
  conv => rhs; rw [← List.take_append_drop (twM l o) l]
  rw [List.filter_append, List.filter_append, List.filter_append, h2]
  simp
theorem hold_add_next (h : (addM l o).2 = 0) (ht : ∀ x ∈ l, x.copy = o.copy → x.token < o.token) : holdM (addM l o).1 first o.copy = stepH (holdM l first o.copy) o := by
  rcases add_cases l o with ⟨e, _, _, hm⟩ | ⟨e, hl, _⟩ | ⟨e, _⟩ | ⟨e, _⟩
  · have := ht o hm rfl; omega
  · rw [e, holdM_fold, holdM_fold]; unfold foldH; rw [filter_ins_last hl.2.2.1 ht, List.foldl_append]; rfl
  · rw [e] at h; cases h
  · rw [e] at h; cases h
theorem holdM_copy (l : List DeviceOp) (first c : Int) : (holdM l first c).copy = c := by
  rw [holdM_fold]
  unfold foldH
  have : ∀ (m : List DeviceOp) (h : Holding), (m.foldl stepH h).copy = h.copy := by
    intro m
    induction m with
    | nil => intro h; rfl
    | cons x m ih => intro h; rw [List.foldl_cons, ih, stepH_copy]
  exact this _ _
/-! a further operation -/
theorem nx_state (h : (stateM l copies first).2 = 0) (ha : (addM l o).2 = 0) : (stateM (addM l o).1 copies first).2 = 0 := by
  obtain ⟨_, h1, h2, h3, h4⟩ := state_ok h
  exact st_of (add_ok ha).2.2.1 h2 h3 h4
theorem nx_copy (ha : (addM l o).2 = 0) : 0 ≤ o.copy ∧ o.copy < 1024 := by have := valid_bounds (add_ok ha).2.1; omega
theorem nx_other (h : (stateM l copies first).2 = 0) (ha : (addM l o).2 = 0) (hk : k < copies.toNat) (hc : (k : Int) ≠ o.copy) : (stateM (addM l o).1 copies first).1[k]! = (stateM l copies first).1[k]! := by
  rw [st_at h hk, st_at (nx_state h ha) hk, hold_add_other ha (fun e => hc e.symm)]
theorem lt_all {l : List DeviceOp} (h : ∀ q, q < l.length → ¬ (l[q]!.copy = o.copy ∧ o.token ≤ l[q]!.token)) : ∀ x ∈ l, x.copy = o.copy → x.token < o.token := by
  intro x hx e
  obtain ⟨i, hi, rfl⟩ := List.getElem_of_mem hx
  have := h i hi
  rw [getElem!_pos l i hi] at this
  by_cases h2 : o.token ≤ l[i].token
  · exact absurd ⟨e, h2⟩ this
  · omega
theorem nx_step (h : (stateM l copies first).2 = 0) (ha : (addM l o).2 = 0) (hc : o.copy < copies) (ht : ∀ q, q < l.length → ¬ (l[q]!.copy = o.copy ∧ o.token ≤ l[q]!.token)) : (stateM (addM l o).1 copies first).1[o.copy.toNat]! = stepH (stateM l copies first).1[o.copy.toNat]! o := by
  have hb := nx_copy ha
  rw [st_at h (by omega), st_at (nx_state h ha) (by omega), show ((o.copy.toNat : Nat) : Int) = o.copy by omega]
  exact hold_add_next ha (lt_all ht)
theorem nx_was (h : (stateM l copies first).2 = 0) (ha : (addM l o).2 = 0) (hc : o.copy < copies) : (stateM l copies first).1[o.copy.toNat]!.copy = o.copy := by
  have hb := nx_copy ha
  rw [st_at h (by omega), holdM_copy]; omega
theorem nx_tok (h : (stateM l copies first).2 = 0) (hk : k < copies.toNat) : 0 ≤ (stateM l copies first).1[k]!.token ∧ (stateM l copies first).1[k]!.token ≤ 65536 := by
  rw [st_at h hk, holdM_fold]; exact foldH_tok (fun x hx => (state_ok h).2.1.2.1 x hx) _ _
theorem step_s {h : Holding} (hc : o.token ≠ h.token + 1 ∨ o.device ≠ h.device ∨ h.shown = true) : stepH h o = h := by
  unfold stepH; rw [if_pos]
  simp only [dbs]
  rcases hc with hc | hc | hc
  · exact .inl (.inl hc)
  · exact .inl (.inr hc)
  · exact .inr hc
theorem step_show {h : Holding} (h1 : o.token = h.token + 1) (h2 : o.device = h.device) (h3 : h.shown = false) (h4 : o.kind = 2) : stepH h o = ⟨h.copy, h.device, o.token, true⟩ := by
  unfold stepH; rw [if_neg (by rw [Bool.not_eq_true]; simp only [dbs]; exact ⟨⟨h1, h2⟩, h3⟩), if_pos (by simpa using h4)]
theorem step_give {h : Holding} (h1 : o.token = h.token + 1) (h2 : o.device = h.device) (h3 : h.shown = false) (h4 : o.kind ≠ 2) : stepH h o = ⟨h.copy, o.to, o.token, h.shown⟩ := by
  unfold stepH; rw [if_neg (by rw [Bool.not_eq_true]; simp only [dbs]; exact ⟨⟨h1, h2⟩, h3⟩), if_neg (by simpa using h4)]
theorem nr_step (h : ∀ q, q < k → ¬ (l[q]!.copy = o.copy ∧ o.token ≤ l[q]!.token)) (hk : l[k]!.copy ≠ o.copy ∨ l[k]!.token < o.token) : ∀ q, q < k + 1 → ¬ (l[q]!.copy = o.copy ∧ o.token ≤ l[q]!.token) := by
  intro q hq
  by_cases e : q = k
  · subst e; rintro ⟨h1, h2⟩; rcases hk with h3 | h3
    · exact h3 h1
    · omega
  · exact h q (by omega)
section
variable (h : (stateM l copies first).2 = 0) (ha : (addM l o).2 = 0) (hc : o.copy < copies) (ht : ∀ q, q < l.length → ¬ (l[q]!.copy = o.copy ∧ o.token ≤ l[q]!.token))
include h ha hc ht
theorem nx_s (hs : o.token ≠ (stateM l copies first).1[o.copy.toNat]!.token + 1 ∨ o.device ≠ (stateM l copies first).1[o.copy.toNat]!.device ∨ (stateM l copies first).1[o.copy.toNat]!.shown = true) : ((stateM (addM l o).1 copies first).1[o.copy.toNat]! == (stateM l copies first).1[o.copy.toNat]!) = true := by
  rw [nx_step h ha hc ht, step_s hs]; exact beq_self_eq_true _
theorem nx_w (h1 : o.token = (stateM l copies first).1[o.copy.toNat]!.token + 1) (h2 : o.device = (stateM l copies first).1[o.copy.toNat]!.device) (h3 : (stateM l copies first).1[o.copy.toNat]!.shown = false) (h4 : o.kind = 2) : ((stateM (addM l o).1 copies first).1[o.copy.toNat]! == (⟨o.copy, (stateM l copies first).1[o.copy.toNat]!.device, o.token, true⟩ : Holding)) = true := by
  rw [nx_step h ha hc ht, step_show h1 h2 h3 h4, nx_was h ha hc]; exact beq_self_eq_true _
theorem nx_g (h1 : o.token = (stateM l copies first).1[o.copy.toNat]!.token + 1) (h2 : o.device = (stateM l copies first).1[o.copy.toNat]!.device) (h3 : (stateM l copies first).1[o.copy.toNat]!.shown = false) (h4 : o.kind ≠ 2) : ((stateM (addM l o).1 copies first).1[o.copy.toNat]! == (⟨o.copy, o.to, o.token, false⟩ : Holding)) = true := by
  rw [nx_step h ha hc ht, step_give h1 h2 h3 h4, nx_was h ha hc, h3]; exact beq_self_eq_true _
end
/-! at most one device -/
def manyM (l : List DeviceOp) (copies first : Int) (c : Int) : Nat → Nat
  | 0 => 0
  | d + 1 => if (mayM l copies first (d : Int) c).1 then manyM l copies first c d + 1 else manyM l copies first c d
theorem many_y {l : List DeviceOp} {copies first c : Int} {d : Nat} (h : (mayM l copies first (d : Int) c).1 = true) : manyM l copies first c (d + 1) = manyM l copies first c d + 1 := by rw [manyM, if_pos h]
theorem many_n {l : List DeviceOp} {copies first c : Int} {d : Nat} (h : (mayM l copies first (d : Int) c).1 = false) : manyM l copies first c (d + 1) = manyM l copies first c d := by rw [manyM, if_neg (by rw [h]; simp)]
theorem many_le (l : List DeviceOp) (copies first c : Int) : ∀ d, manyM l copies first c d ≤ d
  | 0 => Nat.le_refl _
  | d + 1 => by have := many_le l copies first c d; unfold manyM; split <;> omega
theorem may_at (h : (stateM l copies first).2 = 0) (hk : k < copies.toNat) {d : Int} (hd : isDevM d = true) : mayM l copies first d (k : Int) = (((holdM l first (k : Int)).device == d) && !(holdM l first (k : Int)).shown, 0) := by
  by_cases e : (stateM l copies first).1[((k : Int)).toNat]!.device = d
  · rw [may_4 h hd (by omega) (by omega) e]
    have e2 := e
    rw [show ((k : Int)).toNat = k by omega, st_at h hk] at e2 ⊢
    rw [beq_iff_eq.2 e2]; rfl
  · rw [may_3 h hd (by omega) (by omega) e]
    have e2 := e
    rw [show ((k : Int)).toNat = k by omega, st_at h hk] at e2
    rw [beq_eq_false_iff_ne.2 e2]; rfl
theorem dev_lt {d : Nat} (h : d < 4) : isDevM (d : Int) = true := by unfold isDevM; simp; omega
theorem may_err (h : (stateM l copies first).2 = 0) (hk : k < copies.toNat) {d : Nat} (hd : d < 4) : (mayM l copies first (d : Int) (k : Int)).2 = 0 := by rw [may_at h hk (dev_lt hd)]
theorem step_dev {h : Holding} (hv : validM o = true) (hh : isDevM h.device = true) : isDevM (stepH h o).device = true := by
  unfold stepH
  split
  · exact hh
  · split
    · exact hh
    · rename_i hk
      rcases valid_kind hv with ⟨_, h2⟩ | ⟨h1, _⟩
      · unfold isDevM; simp; exact h2
      · simp [h1] at hk
theorem foldl_dev : ∀ (l : List DeviceOp) (h : Holding), (∀ o ∈ l, validM o = true) → isDevM h.device = true → isDevM (l.foldl stepH h).device = true
  | [], h, _, hh => hh
  | o :: l, h, hv, hh => foldl_dev l (stepH h o) (fun x hx => hv x (List.mem_cons_of_mem _ hx)) (step_dev (hv o List.mem_cons_self) hh)
theorem hold_dev (h : (stateM l copies first).2 = 0) (c : Int) : isDevM (holdM l first c).device = true := by
  obtain ⟨_, h1, _, _, h4⟩ := state_ok h
  rw [holdM_fold]; exact foldl_dev _ _ (fun o ho => h1.2.1 o (List.mem_filter.1 ho).1) h4
theorem many_4 (h : (stateM l copies first).2 = 0) (hk : k < copies.toNat) : manyM l copies first (k : Int) 4 = if (holdM l first (k : Int)).shown then 0 else 1 := by
  have hd := hold_dev h (k : Int)
  unfold isDevM at hd
  simp only [dbs] at hd
  have e : ∀ d : Nat, d < 4 → (mayM l copies first (d : Int) (k : Int)).1 = (((holdM l first (k : Int)).device == (d : Int)) && !(holdM l first (k : Int)).shown) := fun d hd => by rw [may_at h hk (dev_lt hd)]
  simp only [manyM, e 0 (by omega), e 1 (by omega), e 2 (by omega), e 3 (by omega)]
  generalize holdM l first (k : Int) = x at hd ⊢
  cases x.shown with
  | true => simp
  | false =>
    have : x.device = 0 ∨ x.device = 1 ∨ x.device = 2 ∨ x.device = 3 := by omega
    rcases this with h | h | h | h <;> simp [h]
theorem once_copy (h : (stateM l copies first).2 = 0) (hk : k < copies.toNat) : (stateM l copies first).1[k]!.copy = (k : Int) := by rw [st_at h hk, holdM_copy]
theorem once_many (h : (stateM l copies first).2 = 0) (hk : k < copies.toNat) : ((manyM l copies first (k : Int) 4 : Nat) : Int) ≤ 1 := by rw [many_4 h hk]; split <;> decide
theorem once_shown (h : (stateM l copies first).2 = 0) (hk : k < copies.toNat) : ((stateM l copies first).1[k]!.shown != (((manyM l copies first (k : Int) 4 : Nat) : Int) == 0)) = false := by
  rw [many_4 h hk, st_at h hk]; cases (holdM l first (k : Int)).shown <;> rfl
theorem once_at (h : (stateM l copies first).2 = 0) (hk : k < copies.toNat) : foldAt l (k : Int) first l.length = (stateM l copies first).1[k]! := by rw [st_at h hk, foldAt_end]
theorem fold_s {c : Int} (hk : k < l.length) (hc : l[k]!.copy ≠ c ∨ l[k]!.token ≠ (foldAt l c first k).token + 1 ∨ l[k]!.device ≠ (foldAt l c first k).device ∨ (foldAt l c first k).shown = true) : foldAt l c first (k + 1) = foldAt l c first k := by
  by_cases e : l[k]!.copy = c
  · rw [foldAt_succ hk, if_pos e]
    exact step_s (hc.elim (fun h => absurd e h) id)
  · exact fold_other hk e
theorem fold_w {c : Int} (hk : k < l.length) (e : l[k]!.copy = c) (h1 : l[k]!.token = (foldAt l c first k).token + 1) (h2 : l[k]!.device = (foldAt l c first k).device) (h3 : (foldAt l c first k).shown = false) (h4 : l[k]!.kind = 2) : foldAt l c first (k + 1) = ⟨(foldAt l c first k).copy, (foldAt l c first k).device, l[k]!.token, true⟩ := by
  rw [foldAt_succ hk, if_pos e, step_show h1 h2 h3 h4]
theorem fold_g {c : Int} (hk : k < l.length) (e : l[k]!.copy = c) (h1 : l[k]!.token = (foldAt l c first k).token + 1) (h2 : l[k]!.device = (foldAt l c first k).device) (h3 : (foldAt l c first k).shown = false) (h4 : l[k]!.kind ≠ 2) : foldAt l c first (k + 1) = ⟨(foldAt l c first k).copy, l[k]!.to, l[k]!.token, (foldAt l c first k).shown⟩ := by
  rw [foldAt_succ hk, if_pos e, step_give h1 h2 h3 h4]
theorem st_foldAt_tok (h : (stateM l copies first).2 = 0) (c : Int) (k : Nat) : 0 ≤ (foldAt l c first k).token ∧ (foldAt l c first k).token ≤ 65536 := foldAt_tok ((check_iff l).2 (state_ok h).2.1) c first k
end
/-! ### what other devices do -/
def hadM (l : List DeviceOp) (c first d : Int) : Bool := (d == first) || l.any (fun o => (o.copy == c) && ((o.device == d) || ((o.kind == 1) && (o.to == d))))
theorem had_first {l : List DeviceOp} {c first d : Int} (h : d = first) : hadM l c first d = true := by unfold hadM; simp [h]
theorem had_at {l : List DeviceOp} {c first d : Int} {k : Nat} (hk : k < l.length) (h1 : l[k]!.copy = c) (h2 : l[k]!.device = d ∨ (l[k]!.kind = 1 ∧ l[k]!.to = d)) : hadM l c first d = true := by
  unfold hadM
  rw [Bool.or_eq_true, List.any_eq_true]
  refine .inr ⟨l[k]!, mem_idx hk, ?_⟩
  simp only [dbs]; exact ⟨h1, h2⟩
theorem had_not {l : List DeviceOp} {c first d : Int} (h0 : d ≠ first) (h : ∀ q, q < l.length → ¬ (l[q]!.copy = c ∧ (l[q]!.device = d ∨ (l[q]!.kind = 1 ∧ l[q]!.to = d)))) : hadM l c first d = false := by
  unfold hadM
  rw [Bool.or_eq_false_iff]
  refine ⟨beq_eq_false_iff_ne.2 h0, ?_⟩
  rw [List.any_eq_false]
  intro x hx
  obtain ⟨i, hi, rfl⟩ := List.getElem_of_mem hx
  have := h i hi
  rw [getElem!_pos l i hi] at this
  simp only [dbs]; exact this
theorem had_step {l : List DeviceOp} {c d : Int} {k : Nat} (h : ∀ q, q < k → ¬ (l[q]!.copy = c ∧ (l[q]!.device = d ∨ (l[q]!.kind = 1 ∧ l[q]!.to = d)))) (hk : l[k]!.copy ≠ c ∨ (l[k]!.device ≠ d ∧ (l[k]!.kind ≠ 1 ∨ l[k]!.to ≠ d))) : ∀ q, q < k + 1 → ¬ (l[q]!.copy = c ∧ (l[q]!.device = d ∨ (l[q]!.kind = 1 ∧ l[q]!.to = d))) := by
  intro q hq
  by_cases e : q = k
  · subst e
    rintro ⟨h1, h2⟩
    rcases hk with h3 | ⟨h3, h4⟩
    · exact h3 h1
    · rcases h2 with h2 | ⟨h2, h5⟩
      · exact h3 h2
      · exact h4.elim (fun h => h h2) (fun h => h h5)
  · exact h q (by omega)
def staleM (a b : List DeviceOp) (c first dev : Int) : Nat → Bool
  | 0 => false
  | j + 1 => if ((b[j]!.copy == c) && !a.contains b[j]!) && ((b[j]!.device == dev) || hadM a c first b[j]!.device) then true else staleM a b c first dev j
theorem stale_y {a b : List DeviceOp} {c first dev : Int} {j : Nat} (h1 : b[j]!.copy = c) (h2 : a.contains b[j]! = false) (h3 : b[j]!.device = dev ∨ hadM a c first b[j]!.device = true) : staleM a b c first dev (j + 1) = true := by
  unfold staleM; rw [if_pos]; simp only [dbs]; exact ⟨⟨h1, h2⟩, h3⟩
theorem stale_n {a b : List DeviceOp} {c first dev : Int} {j : Nat} (h : b[j]!.copy ≠ c ∨ a.contains b[j]! = true ∨ (b[j]!.device ≠ dev ∧ hadM a c first b[j]!.device = false)) : staleM a b c first dev (j + 1) = staleM a b c first dev j := by
  rw [staleM, if_neg]
  rw [Bool.not_eq_true]
  simp only [dbs]
  rcases h with h | h | h
  · exact .inl (.inl h)
  · exact .inl (.inr h)
  · exact .inr h
theorem stale_no {a b : List DeviceOp} {c first dev : Int} : ∀ {j : Nat}, staleM a b c first dev j = false → ∀ i, i < j → b[i]!.copy = c → a.contains b[i]! = false → hadM a c first b[i]!.device = false
  | 0, _, i, hi, _, _ => by omega
  | j + 1, h, i, hi, hc, ha => by
    unfold staleM at h
    split at h
    · cases h
    · rename_i hh
      by_cases e : i = j
      · subst e
        rw [Bool.not_eq_true] at hh
        simp only [dbs] at hh
        rcases hh with (hh | hh) | hh
        · exact absurd hc hh
        · rw [ha] at hh; cases hh
        · exact hh.2
      · exact stale_no h i (by omega) hc ha
theorem fold_skip {a : List DeviceOp} {c first : Int} (hv : ∀ o ∈ a, validM o = true) : ∀ (xs : List DeviceOp) (h : Holding), (∀ o ∈ xs, o.copy = c) → (∀ o ∈ xs, o ∉ a → hadM a c first o.device = false) → hadM a c first h.device = true → xs.foldl stepH h = (xs.filter (fun o => a.contains o)).foldl stepH h
  | [], h, _, _, _ => rfl
  | o :: xs, h, hc, hn, hh => by
    have ih := fun h' => fold_skip hv xs h' (fun x hx => hc x (List.mem_cons_of_mem _ hx)) (fun x hx => hn x (List.mem_cons_of_mem _ hx))
    by_cases e : o ∈ a
    · rw [List.filter_cons_of_pos (by simpa using e), List.foldl_cons, List.foldl_cons]
      apply ih
      unfold stepH
      split
      · exact hh
      · split
        · exact hh
        · rename_i hk
          rcases valid_kind (hv o e) with ⟨h1, _⟩ | ⟨h1, _⟩
          · unfold hadM
            rw [Bool.or_eq_true, List.any_eq_true]
            exact .inr ⟨o, e, by simp [hc o List.mem_cons_self, h1]⟩
          · simp [h1] at hk
    · rw [List.filter_cons_of_neg (by simpa using e), List.foldl_cons]
      have hd := hn o List.mem_cons_self e
      have : o.device ≠ h.device := fun e2 => by rw [e2, hh] at hd; cases hd
      rw [step_s (.inr (.inl this))]
      exact ih h hh
theorem stale_eq {a b : List DeviceOp} {copies first : Int} {k : Nat} (hm : (mergeM a b).2 = 0) (h : (stateM a copies first).2 = 0) (h2 : (stateM (mergeM a b).1 copies first).2 = 0) (hk : k < copies.toNat) {dev : Int} (hs : staleM a b (k : Int) first dev b.length = false) :
    (stateM (mergeM a b).1 copies first).1[k]! = (stateM a copies first).1[k]! := by
  obtain ⟨m1, m2, m3, m4⟩ := merge_ok hm
  rw [st_at h hk, st_at h2 hk, holdM_fold, holdM_fold]
  unfold foldH
  have hsub : ((mergeM a b).1.filter (fun o => o.copy == (k : Int))).filter (fun o => a.contains o) = a.filter (fun o => o.copy == (k : Int)) := by
    apply sorted_ext
    · exact (List.Pairwise.filter _ (List.Pairwise.filter _ m3.2.2.1))
    · exact List.Pairwise.filter _ m1.2.2.1
    · intro o
      simp only [List.mem_filter, List.contains_iff_mem, m4]
      constructor
      · rintro ⟨⟨_, h1⟩, h3⟩; exact ⟨h3, h1⟩
      · rintro ⟨h3, h1⟩; exact ⟨⟨.inl h3, h1⟩, h3⟩
  rw [← hsub]
  refine fold_skip (c := (k : Int)) (first := first) m1.2.1 _ _ (fun o ho => by simpa using (List.mem_filter.1 ho).2) (fun o ho hn => ?_) (had_first rfl)
  obtain ⟨ho, hc⟩ := List.mem_filter.1 ho
  rcases (m4 o).1 ho with h3 | h3
  · exact absurd h3 hn
  · obtain ⟨i, hi, rfl⟩ := List.getElem_of_mem h3
    have := stale_no hs i hi (by rw [getElem!_pos b i hi]; simpa using hc) (by rw [getElem!_pos b i hi, ← Bool.not_eq_true, List.contains_iff_mem]; exact hn)
    rwa [getElem!_pos b i hi] at this
/-! ### one after the other -/
def turnM (b : List DeviceOp) (t i : Nat) : DeviceOp := b[(i + t) % b.length]!
def addsM (a b : List DeviceOp) (t : Nat) : Nat → List DeviceOp
  | 0 => a
  | i + 1 => (addM (addsM a b t i) (turnM b t i)).1
theorem len_sub {x y : List DeviceOp} (hx : sortedM x) (hy : sortedM y) (h : ∀ o ∈ y, o ∈ x) {o : DeviceOp} (ho : o ∈ x) (hn : o ∉ y) : y.length < x.length := by
  have e : x.filter (fun o => y.contains o) = y := sorted_ext (List.Pairwise.filter _ hx) hy fun z => by
    simp only [List.mem_filter, List.contains_iff_mem]
    exact ⟨fun h2 => h2.2, fun h2 => ⟨h z h2, h2⟩⟩
  have h1 : (x.filter (fun o => y.contains o)).length < x.length := by
    rw [List.length_filter_lt_length_iff_exists]
    exact ⟨o, ho, by rw [List.contains_iff_mem]; exact hn⟩
  rwa [e] at h1
theorem add_sub {x y : List DeviceOp} (hx : okL x) (hy : okL y) (h : ∀ o ∈ y, o ∈ x) {o : DeviceOp} (ho : o ∈ x) : (addM y o).2 = 0 := by
  by_cases hm : o ∈ y
  · rw [add_in hy (hx.2.1 o ho) hm]
  · have hl := len_sub hx.2.2.1 hy.2.2.1 h ho hm
    rw [add_new hy (hx.2.1 o ho) hm (fun p hp e => hm (hx.2.2.2 p (h p hp) o ho e ▸ hp)) (by have := hx.1; omega)]
section
variable {a b : List DeviceOp} {t : Nat}
theorem turn_mem {i : Nat} (hb : 0 < b.length) : turnM b t i ∈ b := mem_idx (Nat.mod_lt _ hb)
theorem adds_ok (hm : (mergeM a b).2 = 0) : ∀ i, i ≤ b.length → okL (addsM a b t i) ∧ (∀ o ∈ addsM a b t i, o ∈ (mergeM a b).1) ∧ (∀ o, o ∈ addsM a b t i ↔ o ∈ a ∨ ∃ j, j < i ∧ o = turnM b t j)
  | 0, _ => by
    obtain ⟨m1, m2, m3, m4⟩ := merge_ok hm
    refine ⟨m1, fun o ho => (m4 o).2 (.inl ho), fun o => ⟨.inl, ?_⟩⟩
    rintro (h | ⟨j, hj, _⟩)
    · exact h
    · omega
  | i + 1, hi => by
    obtain ⟨m1, m2, m3, m4⟩ := merge_ok hm
    obtain ⟨h1, h2, h3⟩ := adds_ok hm i (by omega)
    have hx : turnM b t i ∈ (mergeM a b).1 := (m4 _).2 (.inr (turn_mem (by omega)))
    obtain ⟨_, _, a3, a4⟩ := add_ok (add_sub m3 h1 h2 hx)
    refine ⟨a3, fun o ho => ?_, fun o => ?_⟩
    · rcases (a4 o).1 ho with e | h
      · rw [e]; exact hx
      · exact h2 o h
    · rw [show addsM a b t (i + 1) = (addM (addsM a b t i) (turnM b t i)).1 from rfl, a4, h3]
      constructor
      · rintro (e | h | ⟨j, hj, e⟩)
        · exact .inr ⟨i, by omega, e⟩
        · exact .inl h
        · exact .inr ⟨j, by omega, e⟩
      · rintro (h | ⟨j, hj, e⟩)
        · exact .inr (.inl h)
        · by_cases e2 : j = i
          · subst e2; exact .inl e
          · exact .inr (.inr ⟨j, by omega, e⟩)
theorem adds_err (hm : (mergeM a b).2 = 0) {i : Nat} (hi : i < b.length) : (addM (addsM a b t i) b[(i + t) % b.length]!).2 = 0 := by
  obtain ⟨m1, m2, m3, m4⟩ := merge_ok hm
  obtain ⟨h1, h2, _⟩ := adds_ok hm (t := t) i (by omega)
  exact add_sub m3 h1 h2 ((m4 _).2 (.inr (turn_mem (t := t) (i := i) (by omega))))
theorem adds_end (hm : (mergeM a b).2 = 0) : (mergeM a b).1 = addsM a b t b.length := by
  obtain ⟨m1, m2, m3, m4⟩ := merge_ok hm
  obtain ⟨h1, h2, h3⟩ := adds_ok hm (t := t) b.length (Nat.le_refl _)
  refine ok_ext m3 h1 fun o => ⟨fun h => ?_, h2 o⟩
  rw [h3]
  rcases (m4 o).1 h with h | h
  · exact .inl h
  · right
    obtain ⟨m, hm', rfl⟩ := List.getElem_of_mem h
    have hr := Nat.mod_lt t (show 0 < b.length by omega)
    refine ⟨(m + (b.length - t % b.length)) % b.length, Nat.mod_lt _ (by omega), ?_⟩
    unfold turnM
    have : ((m + (b.length - t % b.length)) % b.length + t) % b.length = m := by
      rw [Nat.mod_add_mod]
      have h5 : m + (b.length - t % b.length) + t = m + b.length * (t / b.length + 1) := by
        have := Nat.div_add_mod t b.length
        rw [Nat.mul_add, Nat.mul_one]; omega
      rw [h5, Nat.add_mul_mod_self_left, Nat.mod_eq_of_lt hm']
    rw [this, getElem!_pos b m hm']
theorem adds_in (hm : (mergeM a b).2 = 0) {k : Nat} (hk : k < (mergeM a b).1.length) : addM (mergeM a b).1 (mergeM a b).1[k]! = ((mergeM a b).1, 0) :=
  add_in (merge_ok hm).2.2.1 ((merge_ok hm).2.2.1.2.1 _ (mem_idx hk)) (mem_idx hk)
theorem add_other {x : List DeviceOp} (hx : okL x) {k : Nat} (hk : k < x.length) {c : Int} (h0 : 0 ≤ c) (h1 : c < 1024) (hc : c ≠ x[k]!.copy) : addM x ⟨x[k]!.device, x[k]!.no, x[k]!.kind, c, x[k]!.to, x[k]!.token⟩ = ([], 420) := by
  have hm := mem_idx hk
  have hv := hx.2.1 _ hm
  generalize x[k]! = o at hm hv hc
  have hn : (⟨o.device, o.no, o.kind, c, o.to, o.token⟩ : DeviceOp) ∉ x := fun h => by
    have := hx.2.2.2 _ h o hm rfl
    exact hc (congrArg DeviceOp.copy this)
  refine add_4 ((check_iff x).2 hx) ?_ (by rw [← Bool.not_eq_true, List.contains_iff_mem]; exact hn) ?_
  · rw [valid_in] at hv ⊢
    unfold inD at hv ⊢
    simp only [dbs] at hv ⊢
    exact ⟨⟨⟨hv.1.1.1, h0, by omega⟩, hv.1.2⟩, hv.2⟩
  · rw [List.any_eq_true]; exact ⟨o, hm, by simp [numM]⟩
theorem adds_bad (hm : (mergeM a b).2 = 0) {k : Nat} (hk : k < (mergeM a b).1.length) : (addM (mergeM a b).1 ⟨(mergeM a b).1[k]!.device, (mergeM a b).1[k]!.no, (mergeM a b).1[k]!.kind, ((((mergeM a b).1[k]!.copy.toNat + 1) % 1024 : Nat) : Int), (mergeM a b).1[k]!.to, (mergeM a b).1[k]!.token⟩).2 = 420 := by
  have hb := valid_bounds ((merge_ok hm).2.2.1.2.1 _ (mem_idx hk))
  rw [add_other (merge_ok hm).2.2.1 hk (by omega) (by omega) (by omega)]
end
end Go.Proofs.Ytjpniibleelgiaa
