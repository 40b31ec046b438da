/- Rollback: the laws of chapter 43 about what the program reckons. No program in sight. -/
import Derived.Test.YtjpniibleelgiaaMrA
set_option linter.unusedSimpArgs false
set_option linter.unusedVariables false
namespace Go.Proofs.Ytjpniibleelgiaa
open Go.Fw

def otherM (id : Int) (a : Step) : DeviceOp := ⟨(id + 1 + ((a.to % 3).toNat : Int)).tmod 4, 1 + ((a.at_ % 4).toNat : Int), 1, ((a.copy % 4).toNat : Int), id, 1 + ((a.token % 4).toNat : Int)⟩
section
variable {d : Device} {o n : DeviceOp} {c id copies first : Int} {l : List DeviceOp} {a : Step}
theorem mod3_lt (x : UInt8) : (x % 3).toNat < 3 := by rw [UInt8.toNat_mod]; exact Nat.mod_lt _ (by decide)
theorem mod4_lt (x : UInt8) : (x % 4).toNat < 4 := by rw [UInt8.toNat_mod]; exact Nat.mod_lt _ (by decide)
theorem mod2_lt (x : UInt8) : (x % 2).toNat < 2 := by rw [UInt8.toNat_mod]; exact Nat.mod_lt _ (by decide)
theorem other_dev (h : 0 ≤ id) (h2 : id < 4) (a : Step) : (otherM id a).device ≠ id := by
  have := mod3_lt a.to
  unfold otherM
  simp only
  rw [Int.tmod_eq_emod_of_nonneg (by omega)]
  omega
theorem filter_ins_dev (h : o.device ≠ id) : (insM l o).filter (fun x => x.device == id) = l.filter (fun x => x.device == id) := by
  unfold insM
  conv => rhs; rw [← List.take_append_drop (twM l o) l]
  rw [List.filter_append, List.filter_append, List.filter_append]
  have : List.filter (fun x : DeviceOp => x.device == id) [o] = [] := by simp [h]
  rw [this, List.append_nil]
theorem cnt_all (l : List DeviceOp) (id : Int) : cntD l id l.length = (l.filter (fun o => o.device == id)).length := by unfold cntD; rw [List.take_length]
theorem cnt_add (h : (addM l o).2 = 0) (hd : o.device ≠ id) : cntD (addM l o).1 id (addM l o).1.length = cntD l id l.length := by
  rw [cnt_all, cnt_all]
  rcases add_cases l o with ⟨e, _⟩ | ⟨e, _⟩ | ⟨e, _⟩ | ⟨e, _⟩
  · rw [e]
  · rw [e, filter_ins_dev hd]
  · rw [e] at h; cases h
  · rw [e] at h; cases h
theorem over_add (h : (addM d.ops o).2 = 0) (hd : o.device ≠ d.id) : overD (restoreM d (addM d.ops o).1) = overD d := by
  rw [Bool.eq_iff_iff]
  unfold overD restoreM
  simp only [List.any_eq_true]
  constructor
  · rintro ⟨x, hx, h2⟩
    rcases ((add_ok h).2.2.2 x).1 hx with e | hx
    · subst e; simp only [dbs] at h2; exact absurd h2.1 hd
    · exact ⟨x, hx, h2⟩
  · rintro ⟨x, hx, h2⟩; exact ⟨x, ((add_ok h).2.2.2 x).2 (.inr hx), h2⟩
theorem formed_restore (h1 : okL d.ops) (h2 : okL l) : formedM (restoreM d l) = formedM d := by
  rw [Bool.eq_iff_iff, formed_iff, formed_iff]
  exact ⟨fun h => ⟨h.1, h1⟩, fun h => ⟨h.1, h2⟩⟩
theorem whole_add (h : (addM d.ops o).2 = 0) (hd : o.device ≠ d.id) : wholeM (restoreM d (addM d.ops o).1) = wholeM d := by
  unfold wholeM
  rw [formed_restore (add_ok h).1 (add_ok h).2.2.1, over_add h hd]
  show (formedM d && !overD d && (((cntD (addM d.ops o).1 d.id (addM d.ops o).1.length : Nat) : Int) == d.counter)) = _
  rw [cnt_add h hd]
theorem start_add (h : (addM d.ops o).2 = 0) (hd : o.device ≠ d.id) : (startM (restoreM d (addM d.ops o).1)).2 = (startM d).2 := by
  have h1 := formed_restore (d := d) (add_ok h).1 (add_ok h).2.2.1
  have h2 := whole_add h hd
  cases hf : formedM d with
  | false => rw [start_1 hf, start_1 (h1.trans hf)]
  | true =>
    cases hh : d.halted with
    | true => rw [start_2 hf (.inl hh), start_2 (h1.trans hf) (.inl hh)]
    | false =>
      cases hw : wholeM d with
      | false => rw [start_2 hf (.inr hw), start_2 (h1.trans hf) (.inr (h2.trans hw))]
      | true => rw [start_3 hf hh hw, start_3 (h1.trans hf) hh (h2.trans hw)]
theorem others_eq (h1 : 0 ≤ d.id) (h2 : d.id ≤ 3) (h : (addM d.ops (otherM (d.id % 4) a)).2 = 0) : (startM (restoreM d (addM d.ops (otherM (d.id % 4) a)).1)).2 = (startM d).2 := by
  refine start_add h ?_
  have := other_dev (id := d.id % 4) (by omega) (by omega) a
  rw [show d.id % 4 = d.id by omega] at this ⊢
  exact this
/-! a halted device -/
theorem halted_start (h : d.halted = true) : (startM d).2 ≠ 0 ∧ ((startM d).2 = 430 → (startM d).1.halted = true) := by
  unfold startM
  split
  · exact ⟨by decide, fun h => by cases h⟩
  · rw [if_pos (by rw [h]; rfl)]; exact ⟨(show (430 : Int) ≠ 0 by decide), fun _ => rfl⟩
theorem halted_act (h : d.halted = true) : (actM d o c).2 ≠ 0 := by
  unfold actM
  split
  · decide
  · split
    · decide
    · rw [if_pos (by rw [h]; rfl)]; exact (show (430 : Int) ≠ 0 by decide)
/-! what acting leaves -/
theorem act_ok (h : (actM d o c).2 = 0) : 0 ≤ c ∧ c ≤ 2 ∧ formedM d = true ∧ d.halted = false ∧ wholeM d = true ∧ o.device = d.id ∧ o.no = d.counter + 1 ∧ shownIn d.ops o = false ∧ (addM d.ops o).2 = 0 := by
  unfold actM at h
  split at h
  · cases h
  · rename_i h1
    split at h
    · cases h
    · rename_i h2
      split at h
      · cases h
      · rename_i h3
        split at h
        · cases h
        · rename_i h4
          split at h
          · cases h
          · rename_i h5
            split at h
            · rename_i h6; simp at h6; exact absurd h h6
            · rename_i h6
              simp at h1 h2 h3 h4 h6
              exact ⟨h1.1, h1.2, h2, h3.1, h3.2, h4.1, h4.2, Bool.not_eq_true _ ▸ h5, h6⟩
theorem act_fst (h : (actM d o c).2 = 0) : (actM d o c).1 = ⟨d.id, if 1 ≤ c then d.counter + 1 else d.counter, if c = 2 then (addM d.ops o).1 else d.ops, d.halted⟩ := by
  obtain ⟨h1, h2, h3, h4, h5, h6, h7, h8, h9⟩ := act_ok h
  rw [act_7 h1 h2 h3 h4 h5 h6 h7 h8 h9]
theorem act_err (h : (actM d o c).2 ≠ 0) : (actM d o c).1 = zeroD := by
  unfold actM at h ⊢
  repeat' split
  all_goals first | rfl | (exfalso; simp_all)
theorem stop_x (h : (actM d o c).2 = 0) (h1 : 1 ≤ c) : restoreM (actM d o c).1 d.ops = ⟨d.id, d.counter + 1, d.ops, false⟩ := by
  rw [act_fst h, if_pos h1, (act_ok h).2.2.2.1]; rfl
/-- What a device keeps that has counted, and forgot what. -/
def stopP (d : Device) (l : List DeviceOp) : Prop := okL l ∧ ((cntD l d.id l.length : Nat) : Int) = d.counter ∧ 0 ≤ d.id ∧ d.id < 4 ∧ 0 ≤ d.counter ∧ d.counter ≤ 256
theorem whole_cnt (h : wholeM d = true) : ((cntD d.ops d.id d.ops.length : Nat) : Int) = d.counter := by unfold wholeM at h; simp only [dbs] at h; exact h.2
theorem stop_0 (h : (actM d o c).2 = 0) : stopP d d.ops := by
  obtain ⟨_, _, h3, _, h5, _⟩ := act_ok h
  have h6 := whole_cnt h5
  have h7 := (formed_iff.1 h3)
  have := cnt_le d.ops d.id d.ops.length
  have := h7.2.1
  exact ⟨h7.2, h6, h7.1.1, h7.1.2.1, h7.1.2.2.1, by omega⟩
theorem stop_1 (h : stopP d d.ops) {x : DeviceOp} (ha : (addM d.ops x).2 = 0) (hd : x.device ≠ d.id) : stopP d (addM d.ops x).1 :=
  ⟨(add_ok ha).2.2.1, by rw [cnt_add ha hd]; exact h.2.1, h.2.2.1, h.2.2.2.1, h.2.2.2.2.1, h.2.2.2.2.2⟩
theorem stop_formed (h : stopP d l) (b : Bool) : formedM ⟨d.id, d.counter + 1, l, b⟩ = true := formed_iff.2 ⟨⟨h.2.2.1, h.2.2.2.1, by have := h.2.2.2.2.1; show (0:Int) ≤ d.counter + 1; omega, by have := h.2.2.2.2.2; show d.counter + 1 ≤ 65535; omega⟩, h.1⟩
theorem stop_whole (h : stopP d l) (b : Bool) : wholeM ⟨d.id, d.counter + 1, l, b⟩ = false := by
  unfold wholeM
  have : (((cntD l d.id l.length : Nat) : Int) == d.counter + 1) = false := by rw [h.2.1, beq_eq_false_iff_ne]; omega
  show (_ && _ && (((cntD l d.id l.length : Nat) : Int) == d.counter + 1)) = false
  rw [this, Bool.and_false]
theorem stop_start (h : stopP d l) : startM ⟨d.id, d.counter + 1, l, false⟩ = (⟨d.id, d.counter + 1, l, true⟩, 430) := start_2 (stop_formed h _) (.inr (stop_whole h _))
theorem stop_act (h : stopP d l) (b : Bool) : actM ⟨d.id, d.counter + 1, l, b⟩ n 2 = (zeroD, 430) := act_3b (by decide) (by decide) (stop_formed h _) (stop_whole h _)
/-! what is burnt -/
theorem burn_all (H : List Holding) (id : Int) : burnL H id H.length = (H.filter (fun x => (x.device == id) && !x.shown)).map (·.copy) := by unfold burnL; rw [List.take_length]
theorem start_burnt (h : (startM d).2 = 0) : burntM (startM d).1 copies first = [] := by
  cases hf : formedM d with
  | false => rw [start_1 hf] at h; cases h
  | true =>
    cases hh : d.halted with
    | true => rw [start_2 hf (.inl hh)] at h; cases h
    | false =>
      cases hw : wholeM d with
      | false => rw [start_2 hf (.inr hw)] at h; cases h
      | true => rw [start_3 hf hh hw]; exact burnt_1 hh hw
theorem holds_sorted (l : List DeviceOp) (first : Int) (n : Nat) : ((holdsM l first n).map (·.copy)).Pairwise (· < ·) := by
  have e : (holdsM l first n).map (·.copy) = (List.range n).map (fun k : Nat => (k : Int)) := by
    unfold holdsM
    rw [List.map_map]
    exact List.map_congr_left fun k _ => holdM_copy _ _ _
  rw [e, List.pairwise_map]
  exact List.Pairwise.imp (fun h => by omega) List.pairwise_lt_range
theorem burn_sorted (l : List DeviceOp) (first id : Int) (n : Nat) : (burnL (holdsM l first n) id (holdsM l first n).length).Pairwise (· < ·) := by
  rw [burn_all]
  exact List.Pairwise.sublist (List.Sublist.map _ List.filter_sublist) (holds_sorted l first n)
def burnX (d : Device) (copies first : Int) : List Int := burntM ⟨d.id, d.counter + 1, d.ops, false⟩ copies first
theorem burnX_eq (h : stopP d d.ops) (hs : (stateM d.ops copies first).2 = 0) : burnX d copies first = burnL (holdsM d.ops first copies.toNat) d.id (holdsM d.ops first copies.toNat).length := by
  unfold burnX
  rw [burnt_3 (.inr (stop_whole h _)) hs, (state_ok hs).1]
theorem burnX_inc (h : stopP d d.ops) (hs : (stateM d.ops copies first).2 = 0) {k : Nat} (hk : k < (burnX d copies first).length) (h0 : 0 < k) : (burnX d copies first)[k - 1]! < (burnX d copies first)[k]! := by
  have hp := burn_sorted d.ops first d.id copies.toNat
  rw [← burnX_eq h hs] at hp
  rw [getElem!_pos _ (k - 1) (by omega), getElem!_pos _ k hk]
  exact List.pairwise_iff_getElem.1 hp (k - 1) k (by omega) hk (by omega)
theorem may_ok {device copy : Int} (h : (mayM l copies first device copy).2 = 0) : (stateM l copies first).2 = 0 ∧ isDevM device = true ∧ 0 ≤ copy ∧ copy < copies ∧ (mayM l copies first device copy).1 = (((stateM l copies first).1[copy.toNat]!.device == device) && !(stateM l copies first).1[copy.toNat]!.shown) := by
  by_cases h1 : (stateM l copies first).2 = 0
  · cases h2 : isDevM device with
    | false => rw [may_2 h1 (.inl h2)] at h; cases h
    | true =>
      by_cases h3 : copy < 0
      · rw [may_2 h1 (.inr (.inl h3))] at h; cases h
      · by_cases h4 : copies ≤ copy
        · rw [may_2 h1 (.inr (.inr h4))] at h; cases h
        · refine ⟨h1, rfl, by omega, by omega, ?_⟩
          by_cases h5 : (stateM l copies first).1[copy.toNat]!.device = device
          · rw [may_4 h1 h2 (by omega) (by omega) h5, h5]; simp
          · rw [may_3 h1 h2 (by omega) (by omega) h5, beq_eq_false_iff_ne.2 h5]; rfl
  · rw [may_1 h1] at h; exact absurd h h1
theorem burnX_mem {copy : Int} (h : stopP d d.ops) (hm : (mayM d.ops copies first d.id copy).2 = 0) (hm2 : (mayM d.ops copies first d.id copy).1 = true) : (burnX d copies first).contains copy = true := by
  obtain ⟨h1, h2, h3, h4, h5⟩ := may_ok hm
  rw [hm2] at h5
  have h5 := h5.symm
  simp only [dbs] at h5
  rw [burnX_eq h h1, burn_all, List.contains_iff_mem, List.mem_map]
  have hk : copy.toNat < copies.toNat := by omega
  rw [st_at h1 hk, show ((copy.toNat : Nat) : Int) = copy by omega] at h5
  refine ⟨holdM d.ops first copy, List.mem_filter.2 ⟨?_, by simp only [dbs]; exact h5⟩, holdM_copy _ _ _⟩
  unfold holdsM
  rw [List.mem_map]
  exact ⟨copy.toNat, List.mem_range.2 hk, by rw [show ((copy.toNat : Nat) : Int) = copy by omega]⟩
def metM (l : List Int) (c : Int) (k : Nat) : Bool := (l.take k).contains c
theorem met_succ {l : List Int} {c : Int} {k : Nat} (h : k < l.length) : metM l c (k + 1) = (metM l c k || (l[k]! == c)) := by
  unfold metM
  rw [List.take_succ_eq_append_getElem h, getElem!_pos l k h, Bool.eq_iff_iff, Bool.or_eq_true, List.contains_iff_mem, List.contains_iff_mem, List.mem_append, List.mem_singleton, beq_iff_eq]
  exact ⟨fun h => h.imp id Eq.symm, fun h => h.imp id Eq.symm⟩
theorem met_zero (l : List Int) (c : Int) : metM l c 0 = false := by simp [metM]
theorem met_end (l : List Int) (c : Int) : metM l c l.length = l.contains c := by unfold metM; rw [List.take_length]
end
end Go.Proofs.Ytjpniibleelgiaa
