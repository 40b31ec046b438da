/- Guardians: the reference's answers are the program's; equality of circles. No program in sight. -/
import Derived.Test.YtpdekmknnpkmgaaMgA
set_option linter.unusedSimpArgs false
set_option linter.unusedVariables false
namespace Go.Proofs.Ytpdekmknnpkmgaa
open Go.Fw

section
variable {c : Circle}
theorem head_ok (h1 : inM c.epoch 0 1048576 = true) (h2 : inM (c.guardians.length : Int) 1 8 = true) (h3 : incM c.guardians = true) (h4 : inM c.threshold 1 (c.guardians.length : Int) = true) (h5 : inM c.wait 0 1023 = true) (h6 : (c.recs.length : Int) ≤ 1024) : headBad c = false := by
  have e1 := inM_t.1 h1; have e2 := inM_t.1 h2; have e4 := inM_t.1 h4; have e5 := inM_t.1 h5
  have e6 : isDayM c.wait 0 = true := isDay_iff.2 (by omega)
  simp [headBad, h3, e6]
  omega
theorem gc_head (h : headBad c = true) : gCheck c = 450 := by unfold gCheck; rw [if_pos h]
theorem gc_1 (h1 : inM c.epoch 0 1048576 = false) : gCheck c = 450 := gc_head (by have := inM_f.1 h1; simp only [headBad, dbs]; omega)
theorem gc_2 (h1 : inM (c.guardians.length : Int) 1 8 = false) : gCheck c = 450 := gc_head (by have := inM_f.1 h1; simp only [headBad, dbs]; omega)
theorem gc_3 (h1 : incM c.guardians = false) : gCheck c = 450 := gc_head (by simp only [headBad, dbs, h1]; simp)
theorem gc_4 (h1 : inM c.threshold 1 (c.guardians.length : Int) = false) : gCheck c = 450 := gc_head (by have := inM_f.1 h1; simp only [headBad, dbs]; omega)
theorem gc_5 (h1 : inM c.wait 0 1023 = false) : gCheck c = 450 := gc_head (by
  have := inM_f.1 h1
  have e6 : isDayM c.wait 0 = false := by rw [← Bool.not_eq_true, isDay_iff]; omega
  simp only [headBad, dbs, e6]; simp)
theorem gc_6 (h1 : (1024 : Int) < c.recs.length) : gCheck c = 450 := gc_head (by simp only [headBad, dbs]; omega)
theorem gc_rec {k : Nat} (hk : k < c.recs.length) (hq : ∀ q, q < k → recBad c.recs q = false) (h : refRecM c k = false) : gCheck c = 450 := by
  rw [refRec_iff hq hk] at h
  rcases gCheck_two c with e | e
  · rw [((gCheck_ok c).1 e).2 k hk] at h; simp at h
  · exact e
theorem gc_ok (hh : headBad c = false) (hq : ∀ q, q < c.recs.length → recBad c.recs q = false) : gCheck c = 0 := (gCheck_ok c).2 ⟨hh, hq⟩
theorem rec_step {k : Nat} (hk : k < c.recs.length) (hq : ∀ q, q < k → recBad c.recs q = false) (h : refRecM c k = true) : ∀ q, q < k + 1 → recBad c.recs q = false :=
  all_step hq (by rw [refRec_iff hq hk] at h; simpa using h)
end

theorem has_yes {l : List Int} {n : Int} {k : Nat} (hk : k < l.length) (h : l[k]! = n) : l.contains n = true := by
  rw [List.contains_iff_mem, ← h, getElem!_pos l k hk]; exact List.getElem_mem hk
theorem has_no {l : List Int} {n : Int} (h : ∀ q, q < l.length → l[q]! ≠ n) : l.contains n = false := by
  rw [← Bool.not_eq_true, List.contains_iff_mem]
  intro hm
  obtain ⟨i, hi, e⟩ := List.getElem_of_mem hm
  exact h i hi (by rw [getElem!_pos l i hi]; exact e)

/-! ### equality -/
def sameIM (a b : List Int) : Bool := if (a.length : Int) != (b.length : Int) then false else scan (fun k => if a[k]! != b[k]! then some false else none) true 0 (a.length - 0)
theorem ext_getI {α : Type} [Inhabited α] {l m : List α} (hlen : l.length = m.length) (h : ∀ i : Nat, i < l.length → l[i]! = m[i]!) : l = m := by
  apply List.ext_getElem hlen
  intro i h1 h2
  have := h i h1
  rwa [getElem!_pos l i h1, getElem!_pos m i h2] at this
theorem sameI_iff (a b : List Int) : sameIM a b = true ↔ a = b := by
  unfold sameIM
  constructor
  · intro h
    split at h
    · cases h
    · rename_i hl
      have hl' : a.length = b.length := by simp at hl; omega
      rw [scan_if (by simp)] at h
      exact ext_getI hl' fun i hi => by have := h i (by omega) (by omega); simpa using this
  · intro h
    subst h
    rw [if_neg (by simp), scan_if (by simp)]
    intro k _ _; simp
def recDiff (x y : Recovery) : Bool := (((x.no != y.no || x.asked != y.asked) || x.state != y.state) || !sameIM x.approved y.approved) || !sameIM x.vetoed y.vetoed
theorem recDiff_iff (x y : Recovery) : recDiff x y = false ↔ x = y := by
  have h1 := sameI_iff x.approved y.approved; have h2 := sameI_iff x.vetoed y.vetoed
  cases x; cases y
  simp only [recDiff, dbs] at *
  constructor
  · rintro ⟨⟨⟨⟨a, b⟩, c⟩, d⟩, e⟩
    simp only [Recovery.mk.injEq]
    exact ⟨by omega, by omega, by omega, h1.1 (by simpa using d), h2.1 (by simpa using e)⟩
  · intro h
    simp only [Recovery.mk.injEq] at h
    obtain ⟨rfl, rfl, rfl, rfl, rfl⟩ := h
    simp [(sameI_iff _ _).2]
def sameCHead (a b : Circle) : Bool := (((a.epoch != b.epoch || a.threshold != b.threshold) || a.wait != b.wait) || !sameIM a.guardians b.guardians) || (a.recs.length : Int) != (b.recs.length : Int)
def sameC (a b : Circle) : Bool := if sameCHead a b then false else scan (fun k => if recDiff a.recs[k]! b.recs[k]! then some false else none) true 0 (a.recs.length - 0)
theorem sameC_refl (a : Circle) : sameC a a = true := by
  unfold sameC
  rw [if_neg (by simp [sameCHead, (sameI_iff _ _).2]), scan_if (by simp)]
  intro k _ _; exact (recDiff_iff _ _).2 rfl
theorem sameC_iff (a b : Circle) : sameC a b = true ↔ a = b := by
  constructor
  · intro h
    unfold sameC at h
    split at h
    · cases h
    · rename_i hh
      have hh' : sameCHead a b = false := by simpa using hh
      simp only [sameCHead, dbs] at hh'
      obtain ⟨⟨⟨⟨h1, h2⟩, h3⟩, h4⟩, h5⟩ := hh'
      rw [scan_if (by simp)] at h
      have hr : a.recs = b.recs := ext_getI (by omega) fun i hi => (recDiff_iff _ _).1 (h i (by omega) (by omega))
      have hg := (sameI_iff _ _).1 (show sameIM a.guardians b.guardians = true by simpa using h4)
      cases a; cases b
      simp only [Circle.mk.injEq]
      exact ⟨by simpa using h1, by simpa using h2, by simpa using h3, hg, hr⟩
  · rintro rfl; exact sameC_refl a

/-! ### counting -/
theorem inc_nodup {l : List Int} (h : incM l = true) : l.Nodup := by
  rw [List.nodup_iff_pairwise_ne]
  rw [List.pairwise_iff_getElem]
  intro i j hi hj hij
  have := inc_sorted h i j hij hj
  rw [getElem!_pos l i hi, getElem!_pos l j hj] at this
  omega
/-- The numbers of the first list that are in the second are as many as those of the second that are in the first. -/
theorem count_swap : ∀ {a g : List Int}, a.Nodup → g.Nodup → (a.filter (fun x => g.contains x)).length = (g.filter (fun x => a.contains x)).length := by
  intro a g ha hg
  have h1 : ∀ x, x ∈ a.filter (fun x => g.contains x) ↔ x ∈ g.filter (fun x => a.contains x) := fun x => by simp [and_comm]
  exact ((List.perm_ext_iff_of_nodup (ha.filter _) (hg.filter _)).2 h1).length_eq
def apprR (c : Circle) (r : Recovery) (k : Nat) : Nat := countM c.guardians r.approved k
theorem apprR_eq {c : Circle} {r : Recovery} (h1 : incM c.guardians = true) (h2 : incM r.approved = true) : apprR c r r.approved.length = countM r.approved c.guardians c.guardians.length := by
  unfold apprR countM
  rw [List.take_length, List.take_length]
  exact count_swap (inc_nodup h2) (inc_nodup h1)
theorem guard_inc {c : Circle} (h : gCheck c = 0) : incM c.guardians = true := by
  have := ((gCheck_ok c).1 h).1
  simp only [headBad, dbs] at this
  simpa using this.1.1.1.1.2
theorem appr_lt {c : Circle} {no : Int} (h : gCheck c = 0) (h1 : 0 ≤ no) (h2 : no < c.recs.length) : decide ((apprR c c.recs[no.toNat]! c.recs[no.toNat]!.approved.length : Int) < c.threshold) = !apprM c c.recs[no.toNat]! := by
  rw [apprR_eq (guard_inc h) (recOK_parts (rec_ok h (k := no.toNat) (by omega))).2.2]
  unfold apprM
  rw [← decide_not]
  congr 1
  rw [eq_iff_iff]; omega
theorem bsF_mem {l : List Int} {x : Int} (h : ∀ p q, p < q → q < l.length → l[p]! < l[q]!) : bsF l x = l.contains x := by
  have h0 : ∀ k, k ≤ l.length → (∀ q, q < k → l[q]! < x) → (k < l.length → x ≤ l[k]!) → bsF l x = l.contains x := by
    intro k hk h1 h2
    have ht := tw_eq hk h1 h2
    by_cases hk2 : k < l.length
    · by_cases he : l[k]! = x
      · rw [bsF_t ht (by omega) he]
        symm
        rw [List.contains_iff_mem, ← he, getElem!_pos l k hk2]
        exact List.getElem_mem hk2
      · rw [bsF_2 ht he]
        symm
        rw [← Bool.not_eq_true, List.contains_iff_mem]
        intro hm
        obtain ⟨i, hi, e⟩ := List.getElem_of_mem hm
        have e' : l[i]! = x := by rw [getElem!_pos l i hi]; exact e
        by_cases hik : i < k
        · have := h1 i hik; omega
        · by_cases hik2 : i = k
          · subst hik2; exact he e'
          · have := h k i (by omega) hi; have := h2 hk2; omega
    · rw [bsF_1 ht (by omega)]
      symm
      rw [← Bool.not_eq_true, List.contains_iff_mem]
      intro hm
      obtain ⟨i, hi, e⟩ := List.getElem_of_mem hm
      have e' : l[i]! = x := by rw [getElem!_pos l i hi]; exact e
      have := h1 i (by omega); omega
  -- the place
  have key : ∀ (n k : Nat), n + k = l.length → (∀ q, q < k → l[q]! < x) → bsF l x = l.contains x := by
    intro n
    induction n with
    | zero => intro k hk h1; exact h0 k (by omega) h1 (fun hk2 => by omega)
    | succ n ih =>
      intro k hk h1
      by_cases hx : l[k]! < x
      · exact ih (k + 1) (by omega) (all_step h1 hx)
      · exact h0 k (by omega) h1 (fun _ => by omega)
  exact key l.length 0 (by omega) (fun q hq => by omega)
theorem bs_had {c : Circle} {no g : Int} (h : gCheck c = 0) (h1 : 0 ≤ no) (h2 : no < c.recs.length) {b : Bool} (hb : c.recs[no.toNat]!.approved.contains g = b) : bsF c.recs[no.toNat]!.approved g = b := by
  rw [bsF_mem (approved_sorted h h1 h2), hb]
theorem set_self {α : Type} [Inhabited α] {l : List α} {k : Nat} : l.set k l[k]! = l := by
  by_cases h : k < l.length
  · rw [getElem!_pos l k h]; exact List.set_getElem_self h
  · rw [List.set_eq_of_length_le (by omega)]

/-! ### the reference's Ask, Approve, Veto, Finish -/
section
variable {c : Circle} {day no g : Int}
theorem last_asked (h : gCheck c = 0) (hl : 0 < (c.recs.length : Int)) : 0 ≤ c.recs[c.recs.length - 1]!.asked := asked_ge ((gCheck_ok c).1 h).2 _ (by omega)
theorem lastR_1 (hl : 0 < (c.recs.length : Int)) : lastR c = c.recs[c.recs.length - 1]! := if_pos (by omega)
theorem lastR_0 (hl : (c.recs.length : Int) ≤ 0) : lastR c = ⟨0, 0, 1, [], []⟩ := if_neg (by omega)
theorem lastR_ge (h : gCheck c = 0) : 0 ≤ (lastR c).asked := by
  by_cases hl : 0 < (c.recs.length : Int)
  · rw [lastR_1 hl]; exact last_asked h hl
  · rw [lastR_0 (by omega)]; exact Int.le_refl 0
theorem ra_d1 (h : gCheck c = 0) (hi : inM day 0 1023 = false) : gAsk c day = (zeroC, 0, 1) :=
  gAsk_day h (by have := inM_f.1 hi; have := lastR_ge h; rw [← Bool.not_eq_true, isDay_iff]; omega)
theorem ra_d2 (h : gCheck c = 0) (hl : 0 < (c.recs.length : Int)) (hd : day < c.recs[c.recs.length - 1]!.asked) : gAsk c day = (zeroC, 0, 1) :=
  gAsk_day h (by rw [lastR_1 hl, ← Bool.not_eq_true, isDay_iff]; omega)
theorem ra_o (h : gCheck c = 0) (hi : inM day 0 1023 = true) (hl : 0 < (c.recs.length : Int)) (hd : c.recs[c.recs.length - 1]!.asked ≤ day) (hs : c.recs[c.recs.length - 1]!.state = 0) : gAsk c day = (zeroC, 0, 451) :=
  gAsk_open h (by have := inM_t.1 hi; rw [lastR_1 hl, isDay_iff]; omega) (by rw [lastR_1 hl]; exact hs)
theorem ra_m (h : gCheck c = 0) (hi : inM day 0 1023 = true) (hl : 0 < (c.recs.length : Int)) (hd : c.recs[c.recs.length - 1]!.asked ≤ day) (hs : c.recs[c.recs.length - 1]!.state ≠ 0) (hm : (c.recs.length : Int) = 1024) : gAsk c day = (zeroC, 0, 2) :=
  gAsk_many h (by have := inM_t.1 hi; rw [lastR_1 hl, isDay_iff]; omega) (by rw [lastR_1 hl]; exact hs) hm
theorem ra_m0 (hl : (c.recs.length : Int) ≤ 0) (hm : (c.recs.length : Int) = 1024) : gAsk c day = (zeroC, 0, 2) := by omega
theorem ra_k (h : gCheck c = 0) (hi : inM day 0 1023 = true) (hl : 0 < (c.recs.length : Int)) (hd : c.recs[c.recs.length - 1]!.asked ≤ day) (hs : c.recs[c.recs.length - 1]!.state ≠ 0) (hm : (c.recs.length : Int) ≠ 1024) : gAsk c day = (⟨c.epoch, c.threshold, c.wait, c.guardians, c.recs ++ [⟨(c.recs.length : Int), day, 0, [], []⟩]⟩, (c.recs.length : Int), 0) :=
  gAsk_ok h (by have := inM_t.1 hi; rw [lastR_1 hl, isDay_iff]; omega) (by rw [lastR_1 hl]; exact hs) hm
theorem ra_k0 (h : gCheck c = 0) (hi : inM day 0 1023 = true) (hl : (c.recs.length : Int) ≤ 0) : gAsk c day = (⟨c.epoch, c.threshold, c.wait, c.guardians, c.recs ++ [⟨(c.recs.length : Int), day, 0, [], []⟩]⟩, (c.recs.length : Int), 0) :=
  gAsk_ok h (by have := inM_t.1 hi; rw [lastR_0 hl, isDay_iff]; exact ⟨this.1, by omega⟩) (by rw [lastR_0 hl]; decide) (by omega)
def gChkM (c : Circle) (no : Int) : Int := if gCheck c != 0 then gCheck c else if no < 0 ∨ (c.recs.length : Int) ≤ no then 1 else 0
theorem gChk_1 (h : gCheck c ≠ 0) : gChkM c no = gCheck c := if_pos (by simpa using h)
theorem gChk_2 (h : gCheck c = 0) (hn : no < 0 ∨ (c.recs.length : Int) ≤ no) : gChkM c no = 1 := by unfold gChkM; rw [if_neg (by simp [h]), if_pos hn]
theorem gChk_3 (h : gCheck c = 0) (h1 : 0 ≤ no) (h2 : no < (c.recs.length : Int)) : gChkM c no = 0 := by unfold gChkM; rw [if_neg (by simp [h]), if_neg (by omega)]
theorem gChk_ok (h : gChkM c no = 0) : gCheck c = 0 ∧ 0 ≤ no ∧ no < (c.recs.length : Int) := by
  unfold gChkM at h
  split at h
  · rename_i hh; simp at hh; exact absurd h hh
  · rename_i hh
    split at h
    · cases h
    · exact ⟨by simpa using hh, by omega, by omega⟩
theorem gChk_bad (f : Recovery → Except Int Recovery) (h : gChkM c no ≠ 0) : gAct c no f = (zeroC, gChkM c no) := by
  by_cases h0 : gCheck c = 0
  · by_cases hn : no < 0 ∨ (c.recs.length : Int) ≤ no
    · rw [gChk_2 h0 hn, gAct_no h0 hn]
    · exact absurd (gChk_3 h0 (by omega) (by omega)) h
  · rw [gChk_1 h0, gAct_bad h0]
def withM (c : Circle) (r : Recovery) : Circle := ⟨c.epoch, c.threshold, c.wait, c.guardians, c.recs.set r.no.toNat r⟩
theorem rec_no (h : gCheck c = 0) (h1 : 0 ≤ no) (h2 : no < (c.recs.length : Int)) : c.recs[no.toNat]!.no = no := by
  have := (recBad_f.1 (((gCheck_ok c).1 h).2 no.toNat (by omega))).1
  omega
theorem same_set : (⟨c.epoch, c.threshold, c.wait, c.guardians, c.recs.set no.toNat c.recs[no.toNat]!⟩ : Circle) = c := by rw [set_self]
theorem inM_day {a : Int} : inM day a 1023 = isDayM day a := by
  unfold inM isDayM
  congr 1
  rw [decide_eq_decide]; omega
theorem rp_had (h : gCheck c = 0) (h1 : 0 ≤ no) (h2 : no < (c.recs.length : Int)) (hs2 : c.recs[no.toNat]!.state ≠ 2) (hs1 : c.recs[no.toNat]!.state ≠ 1) (hg : c.guardians.contains g = true) (hb : c.recs[no.toNat]!.approved.contains g = true) : gAct c no (fApprove c g) = (c, 0) := by
  rw [app_had h h1 h2 (by have := state_cases h h1 h2; omega) hg (bs_had h h1 h2 hb), same_set]
theorem rp_not (h : gCheck c = 0) (h1 : 0 ≤ no) (h2 : no < (c.recs.length : Int)) (hs2 : c.recs[no.toNat]!.state ≠ 2) (hs1 : c.recs[no.toNat]!.state ≠ 1) (hg : c.guardians.contains g = false) : gAct c no (fApprove c g) = (zeroC, 450) :=
  app_not h h1 h2 (by have := state_cases h h1 h2; omega) hg
theorem rp_new (h : gCheck c = 0) (h1 : 0 ≤ no) (h2 : no < (c.recs.length : Int)) (hs2 : c.recs[no.toNat]!.state ≠ 2) (hs1 : c.recs[no.toNat]!.state ≠ 1) (hg : c.guardians.contains g = true) (hb : c.recs[no.toNat]!.approved.contains g = false) : gAct c no (fApprove c g) = (withM c ⟨c.recs[no.toNat]!.no, c.recs[no.toNat]!.asked, c.recs[no.toNat]!.state, putIn c.recs[no.toNat]!.approved g, c.recs[no.toNat]!.vetoed⟩, 0) := by
  rw [app_new h h1 h2 (by have := state_cases h h1 h2; omega) hg (bs_had h h1 h2 hb)]
  unfold withM; rw [rec_no h h1 h2]
theorem rv_day (h : gCheck c = 0) (h1 : 0 ≤ no) (h2 : no < (c.recs.length : Int)) (hd : inM day c.recs[no.toNat]!.asked 1023 = false) : gAct c no (fVeto day) = (zeroC, 1) := veto_day h h1 h2 (by rw [← inM_day]; exact hd)
theorem rv_done (h : gCheck c = 0) (h1 : 0 ≤ no) (h2 : no < (c.recs.length : Int)) (hd : inM day c.recs[no.toNat]!.asked 1023 = true) (hs : c.recs[no.toNat]!.state = 1) : gAct c no (fVeto day) = (zeroC, 1) := veto_done h h1 h2 (by rw [← inM_day]; exact hd) hs
theorem rv_dead (h : gCheck c = 0) (h1 : 0 ≤ no) (h2 : no < (c.recs.length : Int)) (hd : inM day c.recs[no.toNat]!.asked 1023 = true) (hs : c.recs[no.toNat]!.state = 2) : gAct c no (fVeto day) = (c, 0) := by
  rw [veto_dead h h1 h2 (by rw [← inM_day]; exact hd) hs, same_set]
theorem rv_open (h : gCheck c = 0) (h1 : 0 ≤ no) (h2 : no < (c.recs.length : Int)) (hd : inM day c.recs[no.toNat]!.asked 1023 = true) (hs1 : c.recs[no.toNat]!.state ≠ 1) (hs2 : c.recs[no.toNat]!.state ≠ 2) : gAct c no (fVeto day) = (withM c ⟨c.recs[no.toNat]!.no, c.recs[no.toNat]!.asked, 2, c.recs[no.toNat]!.approved, [day]⟩, 0) := by
  rw [veto_open h h1 h2 (by rw [← inM_day]; exact hd) (by have := state_cases h h1 h2; omega)]
  unfold withM; rw [rec_no h h1 h2]
theorem rf_day (h : gCheck c = 0) (h1 : 0 ≤ no) (h2 : no < (c.recs.length : Int)) (hs2 : c.recs[no.toNat]!.state ≠ 2) (hs1 : c.recs[no.toNat]!.state ≠ 1) (hd : inM day 0 1023 = false) : gAct c no (fFinish c day) = (zeroC, 1) :=
  fin_day h h1 h2 (by have := state_cases h h1 h2; omega) (by rw [← inM_day]; exact hd)
theorem rf_few (h : gCheck c = 0) (h1 : 0 ≤ no) (h2 : no < (c.recs.length : Int)) (hs2 : c.recs[no.toNat]!.state ≠ 2) (hs1 : c.recs[no.toNat]!.state ≠ 1) (hd : inM day 0 1023 = true) (ha : ((apprR c c.recs[no.toNat]! c.recs[no.toNat]!.approved.length : Nat) : Int) < c.threshold) : gAct c no (fFinish c day) = (zeroC, 450) :=
  fin_few h h1 h2 (by have := state_cases h h1 h2; omega) (by rw [← inM_day]; exact hd) (by have e := appr_lt h h1 h2; rw [decide_eq_true ha] at e; simpa using e.symm)
theorem appr_t (h : gCheck c = 0) (h1 : 0 ≤ no) (h2 : no < (c.recs.length : Int)) (ha : c.threshold ≤ ((apprR c c.recs[no.toNat]! c.recs[no.toNat]!.approved.length : Nat) : Int)) : apprM c c.recs[no.toNat]! = true := by
  have e := appr_lt h h1 h2; rw [decide_eq_false (by omega)] at e; simpa using e.symm
theorem rf_wait (h : gCheck c = 0) (h1 : 0 ≤ no) (h2 : no < (c.recs.length : Int)) (hs2 : c.recs[no.toNat]!.state ≠ 2) (hs1 : c.recs[no.toNat]!.state ≠ 1) (hd : inM day 0 1023 = true) (ha : c.threshold ≤ ((apprR c c.recs[no.toNat]! c.recs[no.toNat]!.approved.length : Nat) : Int)) (hw : day < c.recs[no.toNat]!.asked + c.wait) : gAct c no (fFinish c day) = (zeroC, 451) :=
  fin_wait h h1 h2 (by have := state_cases h h1 h2; omega) (by rw [← inM_day]; exact hd) (appr_t h h1 h2 ha) hw
theorem rf_open (h : gCheck c = 0) (h1 : 0 ≤ no) (h2 : no < (c.recs.length : Int)) (hs2 : c.recs[no.toNat]!.state ≠ 2) (hs1 : c.recs[no.toNat]!.state ≠ 1) (hd : inM day 0 1023 = true) (ha : c.threshold ≤ ((apprR c c.recs[no.toNat]! c.recs[no.toNat]!.approved.length : Nat) : Int)) (hw : c.recs[no.toNat]!.asked + c.wait ≤ day) : gAct c no (fFinish c day) = (withM c ⟨c.recs[no.toNat]!.no, c.recs[no.toNat]!.asked, 1, c.recs[no.toNat]!.approved, c.recs[no.toNat]!.vetoed⟩, 0) := by
  rw [fin_open h h1 h2 (by have := state_cases h h1 h2; omega) (by rw [← inM_day]; exact hd) (appr_t h h1 h2 ha) hw]
  unfold withM; rw [rec_no h h1 h2]
end
def fewBad (c : Circle) (k : Nat) : Bool := decide (20 < (c.recs[k]!.approved.length : Int)) || decide (20 < (c.recs[k]!.vetoed.length : Int))
def fewC (c : Circle) : Bool := scan (fun k => if fewBad c k then some false else none) (decide ((c.guardians.length : Int) ≤ 12) && decide ((c.recs.length : Int) ≤ 20)) 0 (c.recs.length - 0)
end Go.Proofs.Ytpdekmknnpkmgaa
