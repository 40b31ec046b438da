/- Guardians: the order of approvals. No program in sight. -/
import Derived.Test.YtpdekmknnpkmgaaMgC
set_option linter.unusedSimpArgs false
set_option linter.unusedVariables false
namespace Go.Proofs.Ytpdekmknnpkmgaa
open Go.Fw

def apStep (c : Circle) (no : Int) (g : UInt8) : Circle := if (gAct c no (fApprove c (g.toNat : Int))).2 = 0 then (gAct c no (fApprove c (g.toNat : Int))).1 else c
/-- The circle after the first k approvals. -/
def apM (c : Circle) (no : Int) (l : List UInt8) (k : Nat) : Circle := (l.take k).foldl (fun c g => apStep c no g) c
theorem apM_zero (c : Circle) (no : Int) (l : List UInt8) : apM c no l 0 = c := rfl
theorem apM_succ {c : Circle} {no : Int} {l : List UInt8} {k : Nat} (h : k < l.length) : apM c no l (k + 1) = apStep (apM c no l k) no l[k]! := by
  unfold apM
  rw [List.take_add_one, List.getElem?_eq_getElem h, getElem!_pos l k h, List.foldl_append]; rfl
theorem apM_ok {c : Circle} {no : Int} {l : List UInt8} {k : Nat} (h : k < l.length) (h0 : (gAct (apM c no l k) no (fApprove (apM c no l k) (l[k]!.toNat : Int))).2 = 0) : apM c no l (k + 1) = (gAct (apM c no l k) no (fApprove (apM c no l k) (l[k]!.toNat : Int))).1 := by
  rw [apM_succ h]; unfold apStep; rw [if_pos h0]
theorem apM_no {c : Circle} {no : Int} {l : List UInt8} {k : Nat} (h : k < l.length) (h0 : (gAct (apM c no l k) no (fApprove (apM c no l k) (l[k]!.toNat : Int))).2 ≠ 0) : apM c no l (k + 1) = apM c no l k := by
  rw [apM_succ h]; unfold apStep; rw [if_neg h0]
theorem apM_all (c : Circle) (no : Int) (l : List UInt8) : apM c no l l.length = l.foldl (fun c g => apStep c no g) c := by unfold apM; rw [List.take_length]

/-! ### increasing lists -/
theorem inc_pw {l : List Int} : incM l = true ↔ l.Pairwise (· < ·) ∧ ∀ x ∈ l, 0 ≤ x ∧ x < 4096 := by
  constructor
  · intro h
    refine ⟨List.pairwise_iff_getElem.2 fun i j hi hj hij => ?_, fun x hx => ?_⟩
    · have := inc_sorted h i j hij hj
      rwa [getElem!_pos l i hi, getElem!_pos l j hj] at this
    · obtain ⟨i, hi, rfl⟩ := List.getElem_of_mem hx
      have := inc_range h i hi
      rwa [getElem!_pos l i hi] at this
  · rintro ⟨h1, h2⟩
    refine (inc_iff l).2 fun k hk => incBad_f.2 ⟨?_, ?_⟩
    · unfold lastOf
      rw [getElem!_pos l k hk]
      split
      · have := (h2 _ (List.getElem_mem hk)).1; omega
      · have := List.pairwise_iff_getElem.1 h1 (k - 1) k (by omega) hk (by omega)
        rwa [getElem!_pos l (k - 1) (by omega)]
    · rw [getElem!_pos l k hk]; exact (h2 _ (List.getElem_mem hk)).2
theorem putIn_cons (a : Int) (l : List Int) (x : Int) : putIn (a :: l) x = if a < x then a :: putIn l x else x :: a :: l := by
  unfold putIn tw
  by_cases h : a < x
  · simp [h]
  · simp [h]
theorem mem_putIn {x y : Int} : ∀ {l : List Int}, y ∈ putIn l x ↔ y = x ∨ y ∈ l
  | [] => by simp [putIn, tw]
  | a :: l => by
    rw [putIn_cons]
    split
    · rw [List.mem_cons, mem_putIn, List.mem_cons]
      constructor
      · rintro (h | h | h)
        · exact .inr (.inl h)
        · exact .inl h
        · exact .inr (.inr h)
      · rintro (h | h | h)
        · exact .inr (.inl h)
        · exact .inl h
        · exact .inr (.inr h)
    · simp
theorem putIn_pw {x : Int} : ∀ {l : List Int}, l.Pairwise (· < ·) → x ∉ l → (putIn l x).Pairwise (· < ·)
  | [], _, _ => by simp [putIn, tw]
  | a :: l, h, hx => by
    obtain ⟨h1, h2⟩ := List.pairwise_cons.1 h
    rw [putIn_cons]
    split
    · rename_i ha
      refine List.pairwise_cons.2 ⟨fun y hy => ?_, putIn_pw h2 (fun hm => hx (List.mem_cons_of_mem _ hm))⟩
      rcases mem_putIn.1 hy with rfl | hy
      · exact ha
      · exact h1 y hy
    · rename_i ha
      have hne : x ≠ a := fun e => hx (by rw [e]; exact List.mem_cons_self ..)
      refine List.pairwise_cons.2 ⟨fun y hy => ?_, h⟩
      rcases List.mem_cons.1 hy with rfl | hy
      · omega
      · have := h1 y hy; omega
theorem bsF_cons (a : Int) (l : List Int) (x : Int) : bsF (a :: l) x = if a < x then bsF l x else (a == x) := by
  unfold bsF tw
  by_cases h : a < x
  · simp [h]
  · simp [h]
theorem bsF_iff {x : Int} : ∀ {l : List Int}, l.Pairwise (· < ·) → (bsF l x = true ↔ x ∈ l)
  | [], _ => by simp [bsF, tw]
  | a :: l, h => by
    obtain ⟨h1, h2⟩ := List.pairwise_cons.1 h
    rw [bsF_cons]
    split
    · rename_i ha
      rw [bsF_iff h2, List.mem_cons]
      exact ⟨.inr, fun hm => hm.resolve_left (fun e => by omega)⟩
    · rename_i ha
      rw [List.mem_cons, beq_iff_eq]
      constructor
      · intro e; exact .inl e.symm
      · rintro (e | hm)
        · exact e.symm
        · have := h1 x hm; omega
theorem pw_ext : ∀ {l m : List Int}, l.Pairwise (· < ·) → m.Pairwise (· < ·) → (∀ x, x ∈ l ↔ x ∈ m) → l = m
  | [], [], _, _, _ => rfl
  | [], b :: m, _, _, h => by have := (h b).2 (List.mem_cons_self ..); cases this
  | a :: l, [], _, _, h => by have := (h a).1 (List.mem_cons_self ..); cases this
  | a :: l, b :: m, h1, h2, h => by
    obtain ⟨a1, a2⟩ := List.pairwise_cons.1 h1
    obtain ⟨b1, b2⟩ := List.pairwise_cons.1 h2
    have hab : a = b := by
      rcases List.mem_cons.1 ((h a).1 (List.mem_cons_self ..)) with e | hm
      · exact e
      · rcases List.mem_cons.1 ((h b).2 (List.mem_cons_self ..)) with e | hm2
        · exact e.symm
        · have := b1 a hm; have := a1 b hm2; omega
    subst hab
    rw [pw_ext a2 b2 fun x => ?_]
    constructor
    · intro hx
      rcases List.mem_cons.1 ((h x).1 (List.mem_cons_of_mem _ hx)) with e | hm
      · have := a1 x hx; omega
      · exact hm
    · intro hx
      rcases List.mem_cons.1 ((h x).2 (List.mem_cons_of_mem _ hx)) with e | hm
      · have := b1 x hx; omega
      · exact hm

/-! ### approvals -/
def aset (c : Circle) (A : List Int) (g : UInt8) : List Int := if (c.guardians.contains (g.toNat : Int) && !bsF A (g.toNat : Int)) = true then putIn A (g.toNat : Int) else A
def mst (c : Circle) (no : Int) (A : List Int) : Circle := setC c no.toNat ⟨c.recs[no.toNat]!.no, c.recs[no.toNat]!.asked, c.recs[no.toNat]!.state, A, c.recs[no.toNat]!.vetoed⟩
theorem mst_self {c : Circle} {no : Int} (h1 : 0 ≤ no) (h2 : no < (c.recs.length : Int)) : mst c no c.recs[no.toNat]!.approved = c := by
  have hl : no.toNat < c.recs.length := by omega
  unfold mst setC
  have e : (⟨c.recs[no.toNat]!.no, c.recs[no.toNat]!.asked, c.recs[no.toNat]!.state, c.recs[no.toNat]!.approved, c.recs[no.toNat]!.vetoed⟩ : Recovery) = c.recs[no.toNat] := by rw [getElem!_pos c.recs _ hl]
  rw [e, List.set_getElem_self]
section
variable {c : Circle} {no : Int}
theorem mst_at (h2 : no < (c.recs.length : Int)) (h1 : 0 ≤ no) (A : List Int) : (mst c no A).recs[no.toNat]! = ⟨c.recs[no.toNat]!.no, c.recs[no.toNat]!.asked, c.recs[no.toNat]!.state, A, c.recs[no.toNat]!.vetoed⟩ := by
  show (c.recs.set no.toNat _)[no.toNat]! = _
  rw [set_get (by omega), if_pos rfl]
theorem mst_ok (hok : gCheck c = 0) (h1 : 0 ≤ no) (h2 : no < (c.recs.length : Int)) (hs : c.recs[no.toNat]!.state = 0) {A : List Int} (hA : incM A = true) : gCheck (mst c no A) = 0 := by
  refine check_set hok (by omega) rfl rfl ?_ (.inr hs)
  have h := rec_ok hok (k := no.toNat) (by omega)
  have hp := recOK_parts h
  unfold recOKM at h ⊢
  simp only [hp.2.2, hs] at h
  simp only [hA, hs]
  exact h
theorem guard_range (hok : gCheck c = 0) {x : Int} (hx : c.guardians.contains x = true) : 0 ≤ x ∧ x < 4096 := by
  have hh := ((gCheck_ok c).1 hok).1
  simp only [headBad, dbs] at hh
  have hi : incM c.guardians = true := by simp_all
  exact (inc_pw.1 hi).2 x (by simpa using hx)
theorem aset_inc (hok : gCheck c = 0) {A : List Int} (hA : incM A = true) (g : UInt8) : incM (aset c A g) = true := by
  unfold aset
  split
  · rename_i h
    simp only [Bool.and_eq_true, Bool.not_eq_true'] at h
    obtain ⟨p1, p2⟩ := inc_pw.1 hA
    have hn : (g.toNat : Int) ∉ A := fun hm => by rw [(bsF_iff p1).2 hm] at h; cases h.2
    refine inc_pw.2 ⟨putIn_pw p1 hn, fun x hx => ?_⟩
    rcases mem_putIn.1 hx with rfl | hx
    · exact guard_range hok h.1
    · exact p2 x hx
  · exact hA
theorem step_mst (hok : gCheck c = 0) (h1 : 0 ≤ no) (h2 : no < (c.recs.length : Int)) (hs : c.recs[no.toNat]!.state = 0) {A : List Int} (hA : incM A = true) (g : UInt8) : apStep (mst c no A) no g = mst c no (aset c A g) := by
  have hk := mst_ok hok h1 h2 hs hA
  have hl : no < ((mst c no A).recs.length : Int) := by show no < ((c.recs.set _ _).length : Int); rw [List.length_set]; exact h2
  have hat := mst_at h2 h1 A
  have hst : (mst c no A).recs[no.toNat]!.state = 0 := by rw [hat]; exact hs
  have hgu : (mst c no A).guardians = c.guardians := rfl
  have hset : ∀ r : Recovery, (mst c no A).recs.set no.toNat r = c.recs.set no.toNat r := fun r => by
    show (c.recs.set _ _).set _ _ = _
    rw [List.set_set]
  unfold apStep aset
  cases hc : c.guardians.contains (g.toNat : Int) with
  | false => rw [app_not hk h1 hl hst (by rw [hgu]; exact hc)]; simp
  | true =>
    cases hb : bsF A (g.toNat : Int) with
    | true =>
      rw [app_had hk h1 hl hst (by rw [hgu]; exact hc) (by rw [hat]; exact hb)]
      simp only [if_true, hset, hat, Bool.not_true, Bool.and_false, Bool.false_eq_true, if_false]
      rfl
    | false =>
      rw [app_new hk h1 hl hst (by rw [hgu]; exact hc) (by rw [hat]; exact hb)]
      simp only [if_true, hset, hat, Bool.not_false, Bool.and_true]
      rfl
theorem fold_mst (hok : gCheck c = 0) (h1 : 0 ≤ no) (h2 : no < (c.recs.length : Int)) (hs : c.recs[no.toNat]!.state = 0) : ∀ (l : List UInt8) (A : List Int), incM A = true → l.foldl (fun c g => apStep c no g) (mst c no A) = mst c no (l.foldl (aset c) A) ∧ incM (l.foldl (aset c) A) = true
  | [], A, hA => ⟨rfl, hA⟩
  | g :: l, A, hA => by
    rw [List.foldl_cons, List.foldl_cons, step_mst hok h1 h2 hs hA]
    exact fold_mst hok h1 h2 hs l _ (aset_inc hok hA g)
theorem mem_aset {A : List Int} (hA : incM A = true) (g : UInt8) {x : Int} : x ∈ aset c A g ↔ x ∈ A ∨ (x = (g.toNat : Int) ∧ x ∈ c.guardians) := by
  unfold aset
  have hp := (inc_pw.1 hA).1
  split
  · rename_i h
    simp only [Bool.and_eq_true, List.contains_iff_mem] at h
    rw [mem_putIn]
    constructor
    · rintro (rfl | h2)
      · exact .inr ⟨rfl, h.1⟩
      · exact .inl h2
    · rintro (h2 | h2)
      · exact .inr h2
      · exact .inl h2.1
  · rename_i h
    constructor
    · exact .inl
    · rintro (h2 | ⟨rfl, h2⟩)
      · exact h2
      · have : bsF A (g.toNat : Int) = true := by
          cases hb : bsF A (g.toNat : Int) with
          | true => rfl
          | false => exact absurd (by simp [hb, h2]) h
        exact (bsF_iff hp).1 this
theorem mem_fold (hok : gCheck c = 0) : ∀ (l : List UInt8) (A : List Int), incM A = true → ∀ x, x ∈ l.foldl (aset c) A ↔ x ∈ A ∨ ((∃ g ∈ l, x = (g.toNat : Int)) ∧ x ∈ c.guardians)
  | [], A, _, x => by simp
  | g :: l, A, hA, x => by
    rw [List.foldl_cons, mem_fold hok l _ (aset_inc hok hA g), mem_aset hA]
    constructor
    · rintro ((h | ⟨h, h2⟩) | ⟨⟨y, hy, h⟩, h2⟩)
      · exact .inl h
      · exact .inr ⟨⟨g, List.mem_cons_self .., h⟩, h2⟩
      · exact .inr ⟨⟨y, List.mem_cons_of_mem _ hy, h⟩, h2⟩
    · rintro (h | ⟨⟨y, hy, h⟩, h2⟩)
      · exact .inl (.inl h)
      · rcases List.mem_cons.1 hy with rfl | hy
        · exact .inl (.inr ⟨h, h2⟩)
        · exact .inr ⟨⟨y, hy, h⟩, h2⟩
end
/-- Either nobody can approve, or the circle stays valid and the approvals are a set. -/
theorem ap_cases (c : Circle) (no : Int) : (∀ g, apStep c no g = c) ∨ (gCheck c = 0 ∧ 0 ≤ no ∧ no < (c.recs.length : Int) ∧ c.recs[no.toNat]!.state = 0) := by
  by_cases hok : gCheck c = 0
  · by_cases hn : no < 0 ∨ (c.recs.length : Int) ≤ no
    · left; intro g; unfold apStep; rw [app_no hok hn]; simp
    · have h1 : 0 ≤ no := by omega
      have h2 : no < (c.recs.length : Int) := by omega
      rcases state_cases hok h1 h2 with hs | hs | hs
      · exact .inr ⟨hok, h1, h2, hs⟩
      · left; intro g; unfold apStep; rw [app_done hok h1 h2 hs]; simp
      · left; intro g; unfold apStep; rw [app_dead hok h1 h2 hs]; simp
  · left; intro g; unfold apStep; rw [app_bad hok]; simp [hok]
theorem fold_fix {c : Circle} {no : Int} (h : ∀ g, apStep c no g = c) : ∀ l : List UInt8, l.foldl (fun c g => apStep c no g) c = c
  | [] => rfl
  | g :: l => by rw [List.foldl_cons, h g]; exact fold_fix h l
theorem fold_same (c : Circle) (no : Int) {l m : List UInt8} (h : ∀ g, g ∈ l ↔ g ∈ m) : l.foldl (fun c g => apStep c no g) c = m.foldl (fun c g => apStep c no g) c := by
  rcases ap_cases c no with hf | ⟨hok, h1, h2, hs⟩
  · rw [fold_fix hf, fold_fix hf]
  · have hA := (recOK_parts (rec_ok hok (k := no.toNat) (by omega))).2.2
    have e := mst_self h1 h2
    obtain ⟨l1, l2⟩ := fold_mst hok h1 h2 hs l _ hA
    obtain ⟨m1, m2⟩ := fold_mst hok h1 h2 hs m _ hA
    rw [e] at l1 m1
    rw [l1, m1, pw_ext (inc_pw.1 l2).1 (inc_pw.1 m2).1 fun x => ?_]
    rw [mem_fold hok l _ hA, mem_fold hok m _ hA]
    constructor
    · rintro (h3 | ⟨⟨y, hy, h3⟩, h4⟩)
      · exact .inl h3
      · exact .inr ⟨⟨y, (h y).1 hy, h3⟩, h4⟩
    · rintro (h3 | ⟨⟨y, hy, h3⟩, h4⟩)
      · exact .inl h3
      · exact .inr ⟨⟨y, (h y).2 hy, h3⟩, h4⟩
/-- The order of the approvals does not matter. -/
theorem ap_turn (c : Circle) (no : Int) (l : List UInt8) (k : Nat) : apM c no (l.drop k ++ l.take k) (l.drop k ++ l.take k).length = apM c no l l.length := by
  rw [apM_all, apM_all]
  refine fold_same c no fun g => ?_
  rw [List.mem_append, Or.comm, ← List.mem_append, List.take_append_drop]
/-- Nor how often. -/
theorem ap_again (c : Circle) (no : Int) (l : List UInt8) : apM (apM c no l l.length) no l l.length = apM c no l l.length := by
  rw [apM_all, apM_all, ← List.foldl_append]
  exact fold_same c no fun g => by simp
end Go.Proofs.Ytpdekmknnpkmgaa
