/- Guardians: what becomes of a circle. No program in sight. -/
import Derived.Test.YtpdekmknnpkmgaaMgB
set_option linter.unusedSimpArgs false
set_option linter.unusedVariables false
namespace Go.Proofs.Ytpdekmknnpkmgaa
open Go.Fw

theorem set_get {α : Type} [Inhabited α] {l : List α} {i k : Nat} {x : α} (h : i < l.length) : (l.set i x)[k]! = if k = i then x else l[k]! := by
  by_cases hk : k < l.length
  · rw [getElem!_pos _ k (by simpa using hk), List.getElem_set, getElem!_pos l k hk]
    by_cases e : i = k
    · subst e; simp
    · rw [if_neg e, if_neg (fun h => e h.symm)]
  · rw [if_neg (by omega), getElem!_neg _ k (by simpa using hk), getElem!_neg l k (by simpa using hk)]
def setC (c : Circle) (i : Nat) (r : Recovery) : Circle := ⟨c.epoch, c.threshold, c.wait, c.guardians, c.recs.set i r⟩
/-- A circle with another recovery in the place of one of its own is valid too. -/
theorem check_set {c : Circle} {i : Nat} {r : Recovery} (h : gCheck c = 0) (hi : i < c.recs.length) (hno : r.no = c.recs[i]!.no) (ha : r.asked = c.recs[i]!.asked) (hr : recOKM r = true) (hs : r.state ≠ 0 ∨ c.recs[i]!.state = 0) : gCheck (setC c i r) = 0 := by
  have h0 := (gCheck_ok c).1 h
  refine (gCheck_ok _).2 ⟨?_, fun k hk => ?_⟩
  · have e : headBad (setC c i r) = headBad c := by unfold headBad setC; simp only [List.length_set]
    rw [e]; exact h0.1
  · have hk' : k < c.recs.length := by simpa [setC] using hk
    have hk0 := recBad_f.1 (h0.2 k hk')
    have hask : askedOf (setC c i r).recs k = askedOf c.recs k := by
      unfold askedOf
      by_cases e : k = 0
      · rw [if_pos e, if_pos e]
      · rw [if_neg e, if_neg e]
        show (c.recs.set i r)[k - 1]!.asked = _
        rw [set_get hi]
        split
        · rename_i e2; rw [ha, e2]
        · rfl
    rw [recBad_f, hask]
    show (c.recs.set i r)[k]!.no = _ ∧ _
    have hl : (setC c i r).recs.length = c.recs.length := by simp [setC]
    rw [hl]
    show (c.recs.set i r)[k]!.no = _ ∧ isDayM (c.recs.set i r)[k]!.asked _ = true ∧ recOKM (c.recs.set i r)[k]! = true ∧ ((c.recs.set i r)[k]!.state ≠ 0 ∨ _)
    rw [set_get hi]
    split
    · rename_i e
      subst e
      refine ⟨by rw [hno]; exact hk0.1, by rw [ha]; exact hk0.2.1, hr, ?_⟩
      rcases hs with hs | hs
      · exact .inl hs
      · right; rcases hk0.2.2.2 with h1 | h1
        · exact absurd hs h1
        · exact h1
    · exact hk0
section
variable {c : Circle} {no day : Int}
theorem veto_e (h : gCheck c = 0) (h1 : 0 ≤ no) (h2 : no < (c.recs.length : Int)) : ((gAct c no (fVeto day)).2 == 0) = (c.recs[no.toNat]!.state != 1 && (decide (c.recs[no.toNat]!.asked ≤ day) && decide (day < 1024))) := by
  have hs := state_cases h h1 h2
  cases hd : isDayM day c.recs[no.toNat]!.asked with
  | false =>
    rw [veto_day h h1 h2 hd]
    have : ¬ (c.recs[no.toNat]!.asked ≤ day ∧ day < 1024) := by rw [← isDay_iff, hd]; simp
    have e : (decide (c.recs[no.toNat]!.asked ≤ day) && decide (day < 1024)) = false := by
      rw [← Bool.not_eq_true]; simpa using this
    rw [e]; simp
  | true =>
    have hd' := isDay_iff.1 hd
    rw [decide_eq_true hd'.1, decide_eq_true hd'.2]
    rcases hs with hs | hs | hs
    · rw [veto_open h h1 h2 hd hs, hs]; rfl
    · rw [veto_done h h1 h2 hd hs, hs]; rfl
    · rw [veto_dead h h1 h2 hd hs, hs]; rfl
theorem veto_e1 (h : gCheck c = 0) (h1 : 0 ≤ no) (h2 : no < (c.recs.length : Int)) (hs : c.recs[no.toNat]!.state = 1) : ((gAct c no (fVeto day)).2 == 0) = false := by
  rw [veto_e h h1 h2, hs]; rfl
theorem veto_e2 (h : gCheck c = 0) (h1 : 0 ≤ no) (h2 : no < (c.recs.length : Int)) (hd : day < c.recs[no.toNat]!.asked) : ((gAct c no (fVeto day)).2 == 0) = false := by
  rw [veto_e h h1 h2, decide_eq_false (p := c.recs[no.toNat]!.asked ≤ day) (by omega), Bool.false_and, Bool.and_false]
theorem veto_e3 (h : gCheck c = 0) (h1 : 0 ≤ no) (h2 : no < (c.recs.length : Int)) (hs : c.recs[no.toNat]!.state ≠ 1) (hd : c.recs[no.toNat]!.asked ≤ day) : ((gAct c no (fVeto day)).2 == 0) = decide (day < 1024) := by
  rw [veto_e h h1 h2, decide_eq_true hd, Bool.true_and]
  have : (c.recs[no.toNat]!.state != 1) = true := by rw [bne_iff_ne]; exact hs
  rw [this, Bool.true_and]
theorem veto_err (h : gCheck c = 0) (h1 : 0 ≤ no) (h2 : no < (c.recs.length : Int)) (he : (gAct c no (fVeto day)).2 ≠ 0) : (gAct c no (fVeto day)).2 = 1 := by
  have hs := state_cases h h1 h2
  cases hd : isDayM day c.recs[no.toNat]!.asked with
  | false => rw [veto_day h h1 h2 hd]
  | true =>
    rcases hs with hs | hs | hs
    · rw [veto_open h h1 h2 hd hs] at he; exact absurd rfl he
    · rw [veto_done h h1 h2 hd hs]
    · rw [veto_dead h h1 h2 hd hs] at he; exact absurd rfl he
/-- What a veto that succeeds leaves. -/
structure Vetoed (c : Circle) (no day : Int) (x : Circle) : Prop where
  ok : gCheck x = 0
  len : x.recs.length = c.recs.length
  dead : x.recs[no.toNat]!.state = 2
  day : isDayM day x.recs[no.toNat]!.asked = true
  back : (⟨x.epoch, x.threshold, x.wait, x.guardians, x.recs.set no.toNat c.recs[no.toNat]!⟩ : Circle) = c
theorem vetoed_of (h : gCheck c = 0) (h1 : 0 ≤ no) (h2 : no < (c.recs.length : Int)) (he : (gAct c no (fVeto day)).2 = 0) : Vetoed c no day (gAct c no (fVeto day)).1 := by
  have hs := state_cases h h1 h2
  have hi : no.toNat < c.recs.length := by omega
  cases hd : isDayM day c.recs[no.toNat]!.asked with
  | false => rw [veto_day h h1 h2 hd] at he; cases he
  | true =>
    rcases hs with hs | hs | hs
    · rw [veto_open h h1 h2 hd hs]
      have hr : recOKM ⟨c.recs[no.toNat]!.no, c.recs[no.toNat]!.asked, 2, c.recs[no.toNat]!.approved, [day]⟩ = true := by
        have := (recOK_parts (rec_ok h (k := no.toNat) hi)).2.2
        generalize c.recs[no.toNat]! = r at *
        simp [recOKM, this, hd]
      refine ⟨check_set h hi rfl rfl hr (.inl (by show (2 : Int) ≠ 0; decide)), by simp, ?_, ?_, ?_⟩
      · show (c.recs.set no.toNat _)[no.toNat]!.state = 2
        rw [set_get hi, if_pos rfl]
      · show isDayM day (c.recs.set no.toNat _)[no.toNat]!.asked = true
        rw [set_get hi, if_pos rfl]; exact hd
      · show (⟨c.epoch, c.threshold, c.wait, c.guardians, (c.recs.set no.toNat _).set no.toNat _⟩ : Circle) = c
        rw [List.set_set, set_self]
    · rw [veto_done h h1 h2 hd hs] at he; cases he
    · rw [veto_dead h h1 h2 hd hs, set_self]
      exact ⟨h, rfl, hs, hd, by rw [set_self]⟩
theorem vet_app {x : Circle} {g : Int} (v : Vetoed c no day x) (h1 : 0 ≤ no) (h2 : no < (c.recs.length : Int)) : (gAct x no (fApprove x g)).2 = 452 := by
  rw [app_dead v.ok h1 (by rw [v.len]; exact h2) v.dead]
theorem vet_fin {x : Circle} {later : Int} (v : Vetoed c no day x) (h1 : 0 ≤ no) (h2 : no < (c.recs.length : Int)) : (gAct x no (fFinish x later)).2 = 452 := by
  rw [fin_dead v.ok h1 (by rw [v.len]; exact h2) v.dead]
theorem vet_again {x : Circle} (v : Vetoed c no day x) (h1 : 0 ≤ no) (h2 : no < (c.recs.length : Int)) : gAct x no (fVeto day) = (x, 0) := by
  rw [veto_dead v.ok h1 (by rw [v.len]; exact h2) v.day v.dead, set_self]
end

/-! ### a new circle and its first recovery -/
def waitC (l : List Int) (t w a : Int) (k : Nat) : Circle := ⟨0, t, w, l, [⟨0, a, 0, l.take k, []⟩]⟩
theorem inc_take {l : List Int} (h : incM l = true) (k : Nat) : incM (l.take k) = true := by
  rw [inc_iff]
  intro q hq
  have hq' : q < k ∧ q < l.length := by simp at hq; omega
  have := incBad_f.1 ((inc_iff l).1 h q hq'.2)
  rw [incBad_f]
  have e : ∀ j, j < k → (l.take k)[j]! = l[j]! := fun j hj => by
    by_cases hl : j < l.length
    · rw [getElem!_pos _ j (by simp; omega), getElem!_pos l j hl, List.getElem_take]
    · rw [getElem!_neg _ j (by simp; omega), getElem!_neg l j hl]
  rw [e q hq'.1]
  refine ⟨?_, this.2⟩
  have h1 := this.1
  unfold lastOf at h1 ⊢
  split
  · rename_i e0; rw [if_pos e0] at h1; exact h1
  · rename_i e0; rw [if_neg e0] at h1; rw [e _ (by omega)]; exact h1
section
variable {l : List Int} {t w a day : Int} {k : Nat}
theorem head_new (h : gCheck ⟨0, t, w, l, []⟩ = 0) : headBad ⟨0, t, w, l, []⟩ = false := ((gCheck_ok _).1 h).1
theorem waitC_ok (h : gCheck ⟨0, t, w, l, []⟩ = 0) (ha : isDayM a 0 = true) : gCheck (waitC l t w a k) = 0 := by
  have hh := head_new h
  have hl : incM l = true := guard_inc (c := ⟨0, t, w, l, []⟩) h
  refine (gCheck_ok _).2 ⟨?_, fun q hq => ?_⟩
  · have e : headBad (waitC l t w a k) = headBad ⟨0, t, w, l, []⟩ := by unfold headBad waitC; rfl
    rw [e]; exact hh
  · have e : q = 0 := by simp [waitC] at hq; exact hq
    subst e
    rw [recBad_f]
    have hr : recOKM ⟨0, a, 0, l.take k, []⟩ = true := by simp [recOKM, inc_take hl]
    exact ⟨rfl, ha, hr, .inr (by simp [waitC])⟩
theorem ask_new (h : gCheck ⟨0, t, w, l, []⟩ = 0) : gAsk ⟨0, t, w, l, []⟩ a = if isDayM a 0 then (waitC l t w a 0, 0, 0) else (zeroC, 0, 1) := by
  cases ha : isDayM a 0 with
  | false => rw [gAsk_day h ha]; rfl
  | true => rw [gAsk_ok h ha (by show (1 : Int) ≠ 0; decide) (by show ((0 : Nat) : Int) ≠ 1024; decide)]; rfl
theorem tw_take (hl : incM l = true) (hk : k < l.length) : tw (l.take k) l[k]! = k := by
  have hlen : (l.take k).length = k := by simp; omega
  refine tw_eq (by omega) (fun q hq => ?_) (fun h => by omega)
  have e : (l.take k)[q]! = l[q]! := by
    rw [getElem!_pos _ q (by omega), getElem!_pos l q (by omega), List.getElem_take]
  rw [e]; exact inc_sorted hl q k hq hk
theorem wait_app (h : gCheck ⟨0, t, w, l, []⟩ = 0) (ha : isDayM a 0 = true) (hk : k < l.length) : gAct (waitC l t w a k) 0 (fApprove (waitC l t w a k) l[k]!) = (waitC l t w a (k + 1), 0) := by
  have hok := waitC_ok (k := k) h ha
  have hl : incM l = true := guard_inc (c := ⟨0, t, w, l, []⟩) h
  have ht := tw_take hl hk
  have hlen : (l.take k).length = k := by simp; omega
  have hb : bsF (l.take k) l[k]! = false := bsF_1 ht (by omega)
  have hg : l.contains l[k]! = true := by
    rw [List.contains_iff_mem, getElem!_pos l k hk]; exact List.getElem_mem hk
  rw [app_new hok (Int.le_refl 0) (by simp [waitC]) rfl hg hb]
  have hp : putIn (l.take k) l[k]! = l.take (k + 1) := by
    unfold putIn
    rw [ht, List.take_of_length_le (by omega), List.drop_of_length_le (by omega), List.append_nil, List.take_add_one, List.getElem?_eq_getElem hk, getElem!_pos l k hk]; rfl
  show ((⟨0, t, w, l, [⟨0, a, 0, putIn (l.take k) l[k]!, []⟩]⟩ : Circle), (0 : Int)) = _
  rw [hp]; rfl
theorem appr_wait (h : gCheck ⟨0, t, w, l, []⟩ = 0) (ha : isDayM a 0 = true) (hk : k ≤ l.length) : apprM (waitC l t w a k) ⟨0, a, 0, l.take k, []⟩ = decide (t ≤ k) := by
  have hl : incM l = true := guard_inc (c := ⟨0, t, w, l, []⟩) h
  have e := apprR_eq (c := waitC l t w a k) (r := ⟨0, a, 0, l.take k, []⟩) hl (inc_take hl k)
  unfold apprM
  rw [← e]
  have : apprR (waitC l t w a k) ⟨0, a, 0, l.take k, []⟩ (l.take k).length = k := by
    unfold apprR countM
    rw [List.take_length]
    show ((l.take k).filter (fun x => l.contains x)).length = k
    rw [List.filter_eq_self.2 (fun x hx => by rw [List.contains_iff_mem]; exact List.mem_of_mem_take hx)]
    simp; omega
  show decide (t ≤ ((apprR (waitC l t w a k) ⟨0, a, 0, l.take k, []⟩ (l.take k).length : Nat) : Int)) = _
  rw [this]
theorem wait_fin (h : gCheck ⟨0, t, w, l, []⟩ = 0) (ha : isDayM a 0 = true) (hk : k ≤ l.length) : (gAct (waitC l t w a k) 0 (fFinish (waitC l t w a k) day)).2 = if isDayM day 0 = false then 1 else if (k : Int) < t then 450 else if day < a + w then 451 else 0 := by
  have hok := waitC_ok (k := k) h ha
  have hap := appr_wait (k := k) h ha hk
  have hlen : (0 : Int) < (waitC l t w a k).recs.length := by simp [waitC]
  cases hd : isDayM day 0 with
  | false => rw [fin_day hok (Int.le_refl 0) hlen rfl hd]; rfl
  | true =>
    rw [if_neg (by simp)]
    by_cases hkt : (k : Int) < t
    · rw [if_pos hkt, fin_few hok (Int.le_refl 0) hlen rfl hd (hap.trans (decide_eq_false (by omega)))]
    · rw [if_neg hkt]
      have hap' := hap.trans (decide_eq_true (by omega))
      by_cases hw : day < a + w
      · rw [if_pos hw, fin_wait hok (Int.le_refl 0) hlen rfl hd hap' hw]
      · rw [if_neg hw, fin_open hok (Int.le_refl 0) hlen rfl hd hap' (by show a + w ≤ day; omega)]
end
section
variable {l : List Int} {t w a day : Int} {k : Nat}
theorem new_ok (h : (gNew l t w).2 = 0) : gCheck ⟨0, t, w, l, []⟩ = 0 ∧ gNew l t w = (⟨0, t, w, l, []⟩, 0) := by
  by_cases hc : gCheck ⟨0, t, w, l, []⟩ = 0
  · exact ⟨hc, gNew_ok hc⟩
  · rw [gNew_bad hc] at h; exact absurd h hc
theorem new_thr (h : gCheck ⟨0, t, w, l, []⟩ = 0) : 1 ≤ t ∧ t ≤ (l.length : Int) ∧ 0 ≤ w ∧ w < 1024 := by
  have := head_new h
  simp only [headBad, dbs] at this
  have hw := isDay_iff.1 (show isDayM w 0 = true by simpa using this.1.2)
  omega
theorem ask_ok (h : (gNew l t w).2 = 0) (ha : (gAsk (gNew l t w).1 a).2.2 = 0) : isDayM a 0 = true ∧ gAsk (gNew l t w).1 a = (waitC l t w a 0, 0, 0) := by
  obtain ⟨hc, e⟩ := new_ok h
  rw [e] at ha ⊢
  rw [ask_new hc] at ha ⊢
  cases hd : isDayM a 0 with
  | false => rw [hd] at ha; cases ha
  | true => exact ⟨rfl, rfl⟩
theorem wait_l1 (h : gCheck ⟨0, t, w, l, []⟩ = 0) (ha : isDayM a 0 = true) (hk : k ≤ l.length) (hkt : (k : Int) < t) (hne : (gAct (waitC l t w a k) 0 (fFinish (waitC l t w a k) day)).2 ≠ 450) (h0 : 0 ≤ day) : decide (day < 1024) = false := by
  rw [wait_fin h ha hk] at hne
  cases hd : isDayM day 0 with
  | false =>
    have : ¬ (0 ≤ day ∧ day < 1024) := by rw [← isDay_iff, hd]; simp
    exact decide_eq_false (by omega)
  | true => rw [hd, if_neg (by simp), if_pos hkt] at hne; exact absurd rfl hne
theorem wait_bad (h : gCheck ⟨0, t, w, l, []⟩ = 0) (ha : isDayM a 0 = true) (hk : k ≤ l.length) (hd : day < 0 ∨ 1024 ≤ day) : (gAct (waitC l t w a k) 0 (fFinish (waitC l t w a k) day)).2 = 1 := by
  have : isDayM day 0 = false := by rw [← Bool.not_eq_true, isDay_iff]; omega
  rw [wait_fin h ha hk, if_pos this]
theorem wait_end (h : gCheck ⟨0, t, w, l, []⟩ = 0) (ha : isDayM a 0 = true) (hk : k ≤ l.length) (hkt : (k : Int) = t) (h0 : 0 ≤ day) (h1 : day < 1024) : (gAct (waitC l t w a k) 0 (fFinish (waitC l t w a k) day)).2 = if day < a + w then 451 else 0 := by
  have : isDayM day 0 = true := isDay_iff.2 ⟨h0, h1⟩
  rw [wait_fin h ha hk, if_neg (by simp [this]), if_neg (by omega)]
theorem wait_eq (h : gCheck ⟨0, t, w, l, []⟩ = 0) (ha : isDayM a 0 = true) (hk : k ≤ l.length) (hkt : (k : Int) = t) (h0 : 0 ≤ day) (h1 : day < 1024) : (((gAct (waitC l t w a k) 0 (fFinish (waitC l t w a k) day)).2 == 0) == decide (w ≤ day - a)) = true := by
  rw [wait_end h ha hk hkt h0 h1]
  by_cases hw : day < a + w
  · rw [if_pos hw, decide_eq_false (by omega)]; rfl
  · rw [if_neg hw, decide_eq_true (by omega)]; rfl
theorem wait_451 (h : gCheck ⟨0, t, w, l, []⟩ = 0) (ha : isDayM a 0 = true) (hk : k ≤ l.length) (hkt : (k : Int) = t) (h0 : 0 ≤ day) (h1 : day < 1024) (hne : (gAct (waitC l t w a k) 0 (fFinish (waitC l t w a k) day)).2 ≠ 0) : (gAct (waitC l t w a k) 0 (fFinish (waitC l t w a k) day)).2 = 451 := by
  rw [wait_end h ha hk hkt h0 h1] at hne ⊢
  by_cases hw : day < a + w
  · rw [if_pos hw]
  · rw [if_neg hw] at hne; exact absurd rfl hne
end
end Go.Proofs.Ytpdekmknnpkmgaa
