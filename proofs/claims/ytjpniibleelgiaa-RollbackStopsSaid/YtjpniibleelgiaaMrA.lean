/- Rollback: what the program of chapter 43 reckons. No program in sight. -/
import Derived.Test.YtjpniibleelgiaaMdD
set_option linter.unusedSimpArgs false
set_option linter.unusedVariables false
namespace Go.Proofs.Ytjpniibleelgiaa
open Go.Fw

def formedM (d : Device) : Bool := (((decide (0 ≤ d.id) && decide (d.id < 4)) && decide (0 ≤ d.counter)) && decide (d.counter ≤ 65535)) && (checkM d.ops == 0)
/-- How many of the first k operations are a device's own. -/
def cntD (l : List DeviceOp) (id : Int) (k : Nat) : Nat := ((l.take k).filter (fun o => o.device == id)).length
def overD (d : Device) : Bool := d.ops.any (fun o => (o.device == d.id) && decide (d.counter < o.no))
def wholeM (d : Device) : Bool := (formedM d && !overD d) && (((cntD d.ops d.id d.ops.length : Nat) : Int) == d.counter)
def zeroD : Device := ⟨0, 0, [], false⟩
def newM (id : Int) : Device × Int := if decide (id < 0) || decide (4 ≤ id) then (zeroD, 1) else (⟨id, 0, [], false⟩, 0)
abbrev shownIn (l : List DeviceOp) (o : DeviceOp) : Bool := l.any (fun p => (p.kind == 2) && (p.copy == o.copy))
def actM (d : Device) (o : DeviceOp) (crash : Int) : Device × Int :=
  if !(decide (0 ≤ crash) && decide (crash ≤ 2)) then (zeroD, 1) else if !formedM d then (zeroD, 420) else if d.halted || !wholeM d then (zeroD, 430)
  else if !((o.device == d.id) && (o.no == d.counter + 1)) then (zeroD, 420) else if shownIn d.ops o then (zeroD, 420)
  else if (addM d.ops o).2 != 0 then (zeroD, (addM d.ops o).2)
  else (⟨d.id, if 1 ≤ crash then d.counter + 1 else d.counter, if crash = 2 then (addM d.ops o).1 else d.ops, d.halted⟩, 0)
def startM (d : Device) : Device × Int := if !formedM d then (zeroD, 420) else if d.halted || !wholeM d then (⟨d.id, d.counter, d.ops, true⟩, 430) else (d, 0)
def restoreM (d : Device) (l : List DeviceOp) : Device := ⟨d.id, d.counter, l, d.halted⟩
def burnL (h : List Holding) (id : Int) (k : Nat) : List Int := ((h.take k).filter (fun x => (x.device == id) && !x.shown)).map (·.copy)
def burntM (d : Device) (copies first : Int) : List Int :=
  if !d.halted && wholeM d then [] else if (stateM d.ops copies first).2 != 0 then [] else burnL (stateM d.ops copies first).1 d.id (stateM d.ops copies first).1.length
section
variable {d : Device} {o : DeviceOp} {crash id copies first : Int}
theorem formed_b (h : formedM d = true) : 0 ≤ d.id ∧ d.id < 4 ∧ 0 ≤ d.counter ∧ d.counter ≤ 65535 := by unfold formedM at h; simp only [dbs] at h; omega
theorem formed_ok (h : formedM d = true) : checkM d.ops = 0 := by unfold formedM at h; simp only [dbs] at h; exact h.2
theorem formed_iff : formedM d = true ↔ (0 ≤ d.id ∧ d.id < 4 ∧ 0 ≤ d.counter ∧ d.counter ≤ 65535) ∧ okL d.ops := by
  unfold formedM
  rw [← check_iff]
  simp only [dbs]
  constructor
  · rintro ⟨⟨⟨⟨h1, h2⟩, h3⟩, h4⟩, h5⟩; exact ⟨⟨h1, h2, h3, h4⟩, h5⟩
  · rintro ⟨⟨h1, h2, h3, h4⟩, h5⟩; exact ⟨⟨⟨⟨h1, h2⟩, h3⟩, h4⟩, h5⟩
theorem cnt_zero (l : List DeviceOp) (id : Int) : cntD l id 0 = 0 := by simp [cntD]
theorem cnt_le (l : List DeviceOp) (id : Int) (k : Nat) : cntD l id k ≤ l.length := by
  unfold cntD
  exact Nat.le_trans (List.length_filter_le _ _) (by rw [List.length_take]; omega)
theorem cnt_lek (l : List DeviceOp) (id : Int) (k : Nat) : cntD l id k ≤ k := by
  unfold cntD
  exact Nat.le_trans (List.length_filter_le _ _) (by rw [List.length_take]; omega)
theorem cnt_y {l : List DeviceOp} {k : Nat} (h : k < l.length) (e : l[k]!.device = id) : cntD l id (k + 1) = cntD l id k + 1 := by
  unfold cntD
  rw [takeD_snoc h, List.filter_append, List.length_append]
  generalize l[k]! = x at e
  simp [e]
theorem cnt_n {l : List DeviceOp} {k : Nat} (h : k < l.length) (e : l[k]!.device ≠ id) : cntD l id (k + 1) = cntD l id k := by
  unfold cntD
  rw [takeD_snoc h, List.filter_append, List.length_append]
  generalize l[k]! = x at e
  simp [e]
theorem whole_f (h : formedM d = false) : wholeM d = false := by unfold wholeM; rw [h]; rfl
theorem whole_over {k : Nat} (hk : k < d.ops.length) (e : d.ops[k]!.device = d.id) (h : d.counter < d.ops[k]!.no) : wholeM d = false := by
  have : overD d = true := List.any_eq_true.2 ⟨_, mem_idx hk, by simp only [dbs]; exact ⟨e, h⟩⟩
  unfold wholeM; rw [this]; simp
theorem over_no (h : ∀ q, q < d.ops.length → d.ops[q]!.device = d.id → d.ops[q]!.no ≤ d.counter) : overD d = false := by
  unfold overD
  rw [List.any_eq_false]
  intro x hx
  obtain ⟨i, hi, rfl⟩ := List.getElem_of_mem hx
  have := h i hi
  rw [getElem!_pos d.ops i hi] at this
  simp only [dbs]
  rintro ⟨h1, h2⟩
  have := this h1; omega
theorem whole_end (hf : formedM d = true) (h : ∀ q, q < d.ops.length → d.ops[q]!.device = d.id → d.ops[q]!.no ≤ d.counter) : wholeM d = (((cntD d.ops d.id d.ops.length : Nat) : Int) == d.counter) := by
  unfold wholeM; rw [hf, over_no h]; rfl
theorem own_step {l : List DeviceOp} {c : Int} {k : Nat} (h : ∀ q, q < k → l[q]!.device = id → l[q]!.no ≤ c) (hk : l[k]!.device ≠ id ∨ l[k]!.no ≤ c) : ∀ q, q < k + 1 → l[q]!.device = id → l[q]!.no ≤ c := by
  intro q hq e
  by_cases e2 : q = k
  · subst e2; exact hk.elim (fun h => absurd e h) (fun h => h)
  · exact h q (by omega) e
theorem new_1 (h : id < 0) : newM id = (zeroD, 1) := by unfold newM; rw [if_pos (by simp only [dbs]; exact .inl h)]
theorem new_2 (h : 4 ≤ id) : newM id = (zeroD, 1) := by unfold newM; rw [if_pos (by simp only [dbs]; exact .inr h)]
theorem new_3 (h : 0 ≤ id) (h2 : id < 4) : newM id = (⟨id, 0, [], false⟩, 0) := by unfold newM; rw [if_neg (by simp only [dbs]; omega)]
/-! acting -/
theorem act_1 (h : crash < 0) : actM d o crash = (zeroD, 1) := by unfold actM; rw [if_pos (by simp; omega)]
theorem act_1' (h : 2 < crash) : actM d o crash = (zeroD, 1) := by unfold actM; rw [if_pos (by simp; omega)]
theorem act_1b (h : (decide (0 ≤ crash) && decide (crash ≤ 2)) = false) : actM d o crash = (zeroD, 1) := by
  simp only [dbs] at h
  by_cases h0 : 0 ≤ crash
  · exact act_1' (by omega)
  · exact act_1 (by omega)
section
variable (h1 : 0 ≤ crash) (h2 : crash ≤ 2)
include h1 h2
theorem act_2 (h : formedM d = false) : actM d o crash = (zeroD, 420) := by unfold actM; rw [if_neg (by simp; omega), if_pos (by rw [h]; rfl)]
variable (hf : formedM d = true)
include hf
theorem act_3a (h : d.halted = true) : actM d o crash = (zeroD, 430) := by unfold actM; rw [if_neg (by simp; omega), if_neg (by rw [hf]; simp), if_pos (by rw [h]; rfl)]
theorem act_3b (h : wholeM d = false) : actM d o crash = (zeroD, 430) := by unfold actM; rw [if_neg (by simp; omega), if_neg (by rw [hf]; simp), if_pos (by rw [h]; simp)]
theorem act_3c (h : (!d.halted && wholeM d) = false) : actM d o crash = (zeroD, 430) := by
  cases hh : d.halted with
  | true => exact act_3a h1 h2 hf hh
  | false => exact act_3b h1 h2 hf (by rw [hh] at h; exact h)
variable (hh : d.halted = false) (hw : wholeM d = true)
include hh hw
theorem act_4a (h : o.device ≠ d.id) : actM d o crash = (zeroD, 420) := by unfold actM; rw [if_neg (by simp; omega), if_neg (by rw [hf]; simp), if_neg (by rw [hh, hw]; simp), if_pos (by simp [h])]
theorem act_4b (h : o.no ≠ d.counter + 1) : actM d o crash = (zeroD, 420) := by unfold actM; rw [if_neg (by simp; omega), if_neg (by rw [hf]; simp), if_neg (by rw [hh, hw]; simp), if_pos (by simp [h])]
theorem act_4c (h : ((o.device == d.id) && (o.no == d.counter + 1)) = false) : actM d o crash = (zeroD, 420) := by
  simp only [dbs] at h
  by_cases hd : o.device = d.id
  · exact act_4b h1 h2 hf hh hw (h.resolve_left (fun h => h hd))
  · exact act_4a h1 h2 hf hh hw hd
variable (hd : o.device = d.id) (hn : o.no = d.counter + 1)
include hd hn
theorem act_5 (h : shownIn d.ops o = true) : actM d o crash = (zeroD, 420) := by unfold actM; rw [if_neg (by simp; omega), if_neg (by rw [hf]; simp), if_neg (by rw [hh, hw]; simp), if_neg (by simp [hd, hn]), if_pos h]
variable (hs : shownIn d.ops o = false)
include hs
theorem act_6 (h : (addM d.ops o).2 ≠ 0) : actM d o crash = (zeroD, (addM d.ops o).2) := by unfold actM; rw [if_neg (by simp; omega), if_neg (by rw [hf]; simp), if_neg (by rw [hh, hw]; simp), if_neg (by simp [hd, hn]), if_neg (by rw [hs]; simp), if_pos (by simpa using h)]
variable (ha : (addM d.ops o).2 = 0)
include ha
theorem act_7 : actM d o crash = (⟨d.id, if 1 ≤ crash then d.counter + 1 else d.counter, if crash = 2 then (addM d.ops o).1 else d.ops, d.halted⟩, 0) := by unfold actM; rw [if_neg (by simp; omega), if_neg (by rw [hf]; simp), if_neg (by rw [hh, hw]; simp), if_neg (by simp [hd, hn]), if_neg (by rw [hs]; simp), if_neg (by simpa using ha)]
theorem act_70 (h : crash < 1) : actM d o crash = (d, 0) := by rw [act_7 h1 h2 hf hh hw hd hn hs ha, if_neg (by omega), if_neg (by omega)]
theorem act_71 (h : 1 ≤ crash) (h3 : crash ≠ 2) : actM d o crash = (⟨d.id, d.counter + 1, d.ops, d.halted⟩, 0) := by rw [act_7 h1 h2 hf hh hw hd hn hs ha, if_pos h, if_neg h3]
theorem act_72 (h : crash = 2) : actM d o crash = (⟨d.id, d.counter + 1, (addM d.ops o).1, d.halted⟩, 0) := by rw [act_7 h1 h2 hf hh hw hd hn hs ha, if_pos (by omega), if_pos h]
end
theorem shown_step {l : List DeviceOp} {k : Nat} (h : ∀ q, q < k → ¬ (l[q]!.kind = 2 ∧ l[q]!.copy = o.copy)) (hk : l[k]!.kind ≠ 2 ∨ l[k]!.copy ≠ o.copy) : ∀ q, q < k + 1 → ¬ (l[q]!.kind = 2 ∧ l[q]!.copy = o.copy) := by
  intro q hq
  by_cases e2 : q = k
  · subst e2; rintro ⟨h1, h2⟩; exact hk.elim (fun h => h h1) (fun h => h h2)
  · exact h q (by omega)
theorem shown_no {l : List DeviceOp} (h : ∀ q, q < l.length → ¬ (l[q]!.kind = 2 ∧ l[q]!.copy = o.copy)) : shownIn l o = false := by
  unfold shownIn
  rw [List.any_eq_false]
  intro x hx
  obtain ⟨i, hi, rfl⟩ := List.getElem_of_mem hx
  have := h i hi
  rw [getElem!_pos l i hi] at this
  simp only [dbs]; exact this
theorem shown_at {l : List DeviceOp} {k : Nat} (hk : k < l.length) (h1 : l[k]!.kind = 2) (h2 : l[k]!.copy = o.copy) : shownIn l o = true :=
  List.any_eq_true.2 ⟨_, mem_idx hk, by simp only [dbs]; exact ⟨h1, h2⟩⟩
theorem start_1 (h : formedM d = false) : startM d = (zeroD, 420) := by unfold startM; rw [if_pos (by rw [h]; rfl)]
theorem start_2 (hf : formedM d = true) (h : d.halted = true ∨ wholeM d = false) : startM d = (⟨d.id, d.counter, d.ops, true⟩, 430) := by
  unfold startM; rw [if_neg (by rw [hf]; simp), if_pos (by rcases h with h | h <;> rw [h] <;> simp)]
theorem start_3 (hf : formedM d = true) (hh : d.halted = false) (hw : wholeM d = true) : startM d = (d, 0) := by
  unfold startM; rw [if_neg (by rw [hf]; simp), if_neg (by rw [hh, hw]; simp)]
theorem burn_zero (h : List Holding) (id : Int) : burnL h id 0 = [] := by simp [burnL]
theorem burn_y {h : List Holding} {k : Nat} (hk : k < h.length) (h1 : h[k]!.device = id) (h2 : h[k]!.shown = false) : burnL h id (k + 1) = burnL h id k ++ [h[k]!.copy] := by
  unfold burnL
  rw [List.take_succ_eq_append_getElem hk, List.filter_append, List.map_append]
  rw [getElem!_pos h k hk] at h1 h2 ⊢
  simp [h1, h2]
theorem burn_n {h : List Holding} {k : Nat} (hk : k < h.length) (h1 : h[k]!.device ≠ id ∨ h[k]!.shown = true) : burnL h id (k + 1) = burnL h id k := by
  unfold burnL
  rw [List.take_succ_eq_append_getElem hk, List.filter_append, List.map_append]
  rw [getElem!_pos h k hk] at h1
  rcases h1 with h1 | h1 <;> simp [h1]
theorem burn_len (h : List Holding) (id : Int) (k : Nat) : (burnL h id k).length ≤ k := by
  unfold burnL
  rw [List.length_map]
  exact Nat.le_trans (List.length_filter_le _ _) (by rw [List.length_take]; omega)
theorem burnt_1 (hh : d.halted = false) (hw : wholeM d = true) : burntM d copies first = [] := by unfold burntM; rw [if_pos (by rw [hh, hw]; rfl)]
theorem burnt_2 (h : d.halted = true ∨ wholeM d = false) (he : (stateM d.ops copies first).2 ≠ 0) : burntM d copies first = [] := by
  unfold burntM; rw [if_neg (by rcases h with h | h <;> rw [h] <;> simp), if_pos (by simpa using he)]
theorem burnt_3 (h : d.halted = true ∨ wholeM d = false) (he : (stateM d.ops copies first).2 = 0) : burntM d copies first = burnL (stateM d.ops copies first).1 d.id (stateM d.ops copies first).1.length := by
  unfold burntM; rw [if_neg (by rcases h with h | h <;> rw [h] <;> simp), if_neg (by simpa using he)]
theorem dev_ext {a b : Device} (h1 : a.id = b.id) (h2 : a.counter = b.counter) (h3 : a.halted = b.halted) (h4 : a.ops = b.ops) : (a == b) = true := by
  rw [beq_iff_eq]; ext1 <;> assumption
theorem dev_ne1 {a b : Device} (h : a.id ≠ b.id) : (a == b) = false := beq_eq_false_iff_ne.2 fun e => h (congrArg Device.id e)
theorem dev_ne2 {a b : Device} (h : a.counter ≠ b.counter) : (a == b) = false := beq_eq_false_iff_ne.2 fun e => h (congrArg Device.counter e)
theorem dev_ne3 {a b : Device} (h : a.halted ≠ b.halted) : (a == b) = false := beq_eq_false_iff_ne.2 fun e => h (congrArg Device.halted e)
theorem dev_eq {a b : Device} (h1 : a.id = b.id) (h2 : a.counter = b.counter) (h3 : a.halted = b.halted) : (a == b) = (a.ops == b.ops) := by
  cases h : (a.ops == b.ops) with
  | true => exact dev_ext h1 h2 h3 (beq_iff_eq.1 h)
  | false => exact beq_eq_false_iff_ne.2 fun e => (beq_eq_false_iff_ne.1 h) (congrArg Device.ops e)
end
end Go.Proofs.Ytjpniibleelgiaa
