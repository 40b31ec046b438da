/- Guardians: what the program of chapter 45 reckons. No program in sight. -/
import Derived.Test.YtpdekmknnpkmgaaMaA
import Derived.Test.YtpdekmknnpkmgaaSd
set_option linter.unusedSimpArgs false
set_option linter.unusedVariables false
namespace Go.Proofs.Ytpdekmknnpkmgaa
open Go.Fw

def lastOf (l : List Int) (k : Nat) : Int := if k = 0 then -1 else l[k - 1]!
def incBad (l : List Int) (k : Nat) : Bool := decide (l[k]! ≤ lastOf l k) || decide (4096 ≤ l[k]!)
def incM (l : List Int) : Bool := scan (fun k => if incBad l k then some false else none) true 0 (l.length - 0)
def isDayM (d f : Int) : Bool := decide (f ≤ d) && decide (d < 1024)
def recOKM (r : Recovery) : Bool :=
  if (decide (r.state < 0) || decide (2 < r.state)) || !incM r.approved then false
  else if r.state == 2 then ((r.vetoed.length : Int) == 1) && isDayM r.vetoed[0]! r.asked else (r.vetoed.length : Int) == 0
def askedOf (l : List Recovery) (k : Nat) : Int := if k = 0 then 0 else l[k - 1]!.asked
def recBad (l : List Recovery) (k : Nat) : Bool :=
  ((l[k]!.no != (k : Int) || !isDayM l[k]!.asked (askedOf l k)) || !recOKM l[k]!) || (l[k]!.state == 0 && decide ((k : Int) < (l.length : Int) - 1))
def headBad (c : Circle) : Bool :=
  (((((((decide (c.epoch < 0) || decide (1048576 < c.epoch)) || decide ((c.guardians.length : Int) < 1)) || decide (8 < (c.guardians.length : Int))) || !incM c.guardians) || decide (c.threshold < 1)) || decide ((c.guardians.length : Int) < c.threshold)) || !isDayM c.wait 0) || decide (1024 < (c.recs.length : Int))
def gCheck (c : Circle) : Int := if headBad c then 450 else scan (fun k => if recBad c.recs k then some 450 else none) 0 0 (c.recs.length - 0)
def zeroC : Circle := ⟨0, 0, 0, [], []⟩
def gNew (l : List Int) (t w : Int) : Circle × Int := if gCheck ⟨0, t, w, l, []⟩ != 0 then (zeroC, gCheck ⟨0, t, w, l, []⟩) else (⟨0, t, w, l, []⟩, 0)
def lastR (c : Circle) : Recovery := if 0 < c.recs.length then c.recs[c.recs.length - 1]! else ⟨0, 0, 1, [], []⟩
def gAsk (c : Circle) (day : Int) : Circle × Int × Int :=
  if gCheck c != 0 then (zeroC, 0, gCheck c) else if !isDayM day (lastR c).asked then (zeroC, 0, 1) else if (lastR c).state == 0 then (zeroC, 0, 451) else if (c.recs.length : Int) == 1024 then (zeroC, 0, 2)
  else (⟨c.epoch, c.threshold, c.wait, c.guardians, c.recs ++ [⟨(c.recs.length : Int), day, 0, [], []⟩]⟩, (c.recs.length : Int), 0)
/-- What on does, where 'f' says what becomes of the recovery. -/
def gAct (c : Circle) (no : Int) (f : Recovery → Except Int Recovery) : Circle × Int :=
  if gCheck c != 0 then (zeroC, gCheck c) else if no < 0 ∨ (c.recs.length : Int) ≤ no then (zeroC, 1)
  else match f c.recs[no.toNat]! with | .error e => (zeroC, e) | .ok r => (⟨c.epoch, c.threshold, c.wait, c.guardians, c.recs.set no.toNat r⟩, 0)
def idxI (l : List Int) (x : Int) : Int := scan (fun k => if x == l[k]! then some (k : Int) else none) (-1) 0 (l.length - 0)
/-- The place of a number in an increasing list. -/
def tw (l : List Int) (x : Int) : Nat := (l.takeWhile (fun y => decide (y < x))).length
def bsF (l : List Int) (x : Int) : Bool := decide (tw l x < l.length) && (l[tw l x]! == x)
def putIn (l : List Int) (x : Int) : List Int := l.take (tw l x) ++ [x] ++ l.drop (tw l x)
def countM (l g : List Int) (k : Nat) : Nat := ((g.take k).filter (fun x => l.contains x)).length
def apprM (c : Circle) (r : Recovery) : Bool := decide (c.threshold ≤ (countM r.approved c.guardians c.guardians.length : Int))
def fApprove (c : Circle) (g : Int) (r : Recovery) : Except Int Recovery :=
  if r.state == 2 then .error 452 else if r.state == 1 then .error 1 else if !(c.guardians.contains g) then .error 450 else if bsF r.approved g then .ok r else .ok ⟨r.no, r.asked, r.state, putIn r.approved g, r.vetoed⟩
def fVeto (day : Int) (r : Recovery) : Except Int Recovery :=
  if !isDayM day r.asked then .error 1 else if r.state == 2 then .ok r else if r.state == 1 then .error 1 else .ok ⟨r.no, r.asked, 2, r.approved, [day]⟩
def fFinish (c : Circle) (day : Int) (r : Recovery) : Except Int Recovery :=
  if r.state == 2 then .error 452 else if r.state == 1 then .error 1 else if !isDayM day 0 then .error 1 else if !apprM c r then .error 450 else if decide (day < r.asked + c.wait) then .error 451 else .ok ⟨r.no, r.asked, 1, r.approved, r.vetoed⟩

theorem scan_none_all {β : Type} {f : Nat → Option β} {d : β} {n : Nat} : ∀ {m i : Nat}, (∀ k, i ≤ k → k < i + m → f k = none) → scan f d i m = d
  | 0, i, _ => rfl
  | m + 1, i, h => by
    unfold scan
    rw [h i (Nat.le_refl _) (by omega)]
    exact scan_none_all (n := n) fun k h1 h2 => h k (by omega) (by omega)
/-- A search with one answer: it is found, or not. -/
theorem scan_if {β : Type} {p : Nat → Bool} {d r : β} (hne : r ≠ d) : ∀ {m i : Nat}, scan (fun k => if p k then some r else none) d i m = d ↔ ∀ k, i ≤ k → k < i + m → p k = false
  | 0, i => by simp [scan]; intro k h1 h2; omega
  | m + 1, i => by
    unfold scan
    cases hp : p i with
    | true =>
      simp only [if_true]
      refine ⟨fun h => absurd h hne, fun h => ?_⟩
      have := h i (Nat.le_refl _) (by omega)
      rw [hp] at this; cases this
    | false =>
      simp only [Bool.false_eq_true, if_false]
      rw [scan_if hne]
      refine ⟨fun h k h1 h2 => ?_, fun h k h1 h2 => h k (by omega) (by omega)⟩
      by_cases hk : k = i
      · subst hk; exact hp
      · exact h k (by omega) (by omega)
theorem inc_iff (l : List Int) : incM l = true ↔ ∀ k, k < l.length → incBad l k = false := by
  unfold incM
  rw [scan_if (by simp)]
  exact ⟨fun h k hk => h k (by omega) (by omega), fun h k _ hk => h k (by omega)⟩
theorem incBad_f {l : List Int} {k : Nat} : incBad l k = false ↔ lastOf l k < l[k]! ∧ l[k]! < 4096 := by
  simp [incBad]
theorem inc_sorted {l : List Int} (h : incM l = true) : ∀ p q, p < q → q < l.length → l[p]! < l[q]! := by
  intro p q hpq hq
  induction q with
  | zero => omega
  | succ q ih =>
    have h1 := (incBad_f.1 ((inc_iff l).1 h (q + 1) hq)).1
    simp only [lastOf, Nat.add_one_ne_zero, if_false, Nat.add_sub_cancel] at h1
    by_cases hp : p = q
    · subst hp; exact h1
    · have := ih (by omega) (by omega); omega
theorem inc_range {l : List Int} (h : incM l = true) : ∀ q, q < l.length → 0 ≤ l[q]! ∧ l[q]! < 4096 := by
  intro q hq
  have h2 := (incBad_f.1 ((inc_iff l).1 h q hq))
  refine ⟨?_, h2.2⟩
  have h0 := (incBad_f.1 ((inc_iff l).1 h 0 (by omega))).1
  simp only [lastOf, if_true] at h0
  by_cases hq0 : q = 0
  · subst hq0; omega
  · have := inc_sorted h 0 q (by omega) hq; omega
theorem inc_ge {l : List Int} (h : incM l = true) : ∀ q, q < l.length → (q : Int) ≤ l[q]! := by
  intro q hq
  induction q with
  | zero => exact (inc_range h 0 hq).1
  | succ q ih => have := ih (by omega); have := inc_sorted h q (q + 1) (by omega) hq; omega
theorem inc_len {l : List Int} (h : incM l = true) : l.length ≤ 4096 := by
  by_cases h0 : l.length = 0
  · omega
  · have h1 := inc_ge h (l.length - 1) (by omega)
    have h2 := (inc_range h (l.length - 1) (by omega)).2
    omega
theorem gCheck_ok (c : Circle) : gCheck c = 0 ↔ headBad c = false ∧ ∀ k, k < c.recs.length → recBad c.recs k = false := by
  unfold gCheck
  cases hh : headBad c with
  | true => simp
  | false =>
    simp only [Bool.false_eq_true, if_false, true_and]
    rw [scan_if (by decide)]
    exact ⟨fun h k hk => h k (by omega) (by omega), fun h k _ hk => h k (by omega)⟩
theorem gCheck_two (c : Circle) : gCheck c = 0 ∨ gCheck c = 450 := by
  unfold gCheck
  split
  · exact .inr rfl
  · by_cases h : scan (fun k => if recBad c.recs k then some (450 : Int) else none) 0 0 (c.recs.length - 0) = 0
    · exact .inl h
    · right
      have : ∀ (m i : Nat), scan (fun k => if recBad c.recs k then some (450 : Int) else none) 0 i m = 0 ∨ scan (fun k => if recBad c.recs k then some (450 : Int) else none) 0 i m = 450 := by
        intro m
        induction m with
        | zero => intro i; exact .inl rfl
        | succ m ih => intro i; unfold scan; cases recBad c.recs i <;> simp [ih]
      rcases this (c.recs.length - 0) 0 with h1 | h1
      · exact absurd h1 h
      · exact h1
theorem recOK_parts {r : Recovery} (h : recOKM r = true) : 0 ≤ r.state ∧ r.state ≤ 2 ∧ incM r.approved = true := by
  unfold recOKM at h
  split at h
  · cases h
  · rename_i hh
    have hh' : ((decide (r.state < 0) || decide (2 < r.state)) || !incM r.approved) = false := by simpa using hh
    simp only [dbs] at hh'
    exact ⟨by omega, by omega, by simpa using hh'.2⟩
theorem rec_ok {c : Circle} (h : gCheck c = 0) {k : Nat} (hk : k < c.recs.length) : recOKM c.recs[k]! = true := by
  have := ((gCheck_ok c).1 h).2 k hk
  simp only [recBad, dbs] at this
  exact this.1.2
theorem state_cases {c : Circle} (h : gCheck c = 0) {no : Int} (h1 : 0 ≤ no) (h2 : no < c.recs.length) : c.recs[no.toNat]!.state = 0 ∨ c.recs[no.toNat]!.state = 1 ∨ c.recs[no.toNat]!.state = 2 := by
  have := recOK_parts (rec_ok h (k := no.toNat) (by omega))
  omega
theorem approved_sorted {c : Circle} (h : gCheck c = 0) {no : Int} (h1 : 0 ≤ no) (h2 : no < c.recs.length) : ∀ p q, p < q → q < c.recs[no.toNat]!.approved.length → c.recs[no.toNat]!.approved[p]! < c.recs[no.toNat]!.approved[q]! :=
  inc_sorted (recOK_parts (rec_ok h (k := no.toNat) (by omega))).2.2

theorem tw_le (l : List Int) (x : Int) : tw l x ≤ l.length := by
  unfold tw
  exact (List.takeWhile_sublist _).length_le
theorem tw_eq {x : Int} : ∀ {l : List Int} {k : Nat}, k ≤ l.length → (∀ q, q < k → l[q]! < x) → (k < l.length → x ≤ l[k]!) → tw l x = k
  | [], k, hk, _, _ => by simp at hk; subst hk; rfl
  | a :: l, 0, _, _, h2 => by
    have := h2 (by simp)
    simp at this
    have hn : ¬ (a < x) := by omega
    simp [tw, hn]
  | a :: l, k + 1, hk, h1, h2 => by
    have h0 := h1 0 (by omega)
    simp at h0
    have ih := tw_eq (x := x) (l := l) (k := k) (by simpa using hk) (fun q hq => by have := h1 (q + 1) (by omega); simpa using this) (fun hk2 => by have := h2 (by simpa using hk2); simpa using this)
    unfold tw at ih ⊢
    simp [h0, ih]
theorem bsF_1 {l : List Int} {x : Int} {k : Nat} (ht : tw l x = k) (h : (l.length : Int) ≤ k) : bsF l x = false := by
  have : ¬ (k < l.length) := by omega
  simp [bsF, ht, this]
theorem bsF_2 {l : List Int} {x : Int} {k : Nat} (ht : tw l x = k) (h : l[k]! ≠ x) : bsF l x = false := by
  unfold bsF; rw [ht]
  have : (l[k]! == x) = false := by simpa using h
  rw [this, Bool.and_false]
theorem bsF_t {l : List Int} {x : Int} {k : Nat} (ht : tw l x = k) (h : (k : Int) < l.length) (he : l[k]! = x) : bsF l x = true := by
  unfold bsF; rw [ht]
  have : (l[k]! == x) = true := by simpa using he
  rw [this, Bool.and_true]; simpa using h
theorem bs_lo {l : List Int} {x : Int} {h : Nat} (hs : ∀ p q, p < q → q < l.length → l[p]! < l[q]!) (h1 : l[h]! < x) (hh : h < l.length) : ∀ q, q < h + 1 → l[q]! < x := by
  intro q hq
  by_cases hqh : q = h
  · subst hqh; exact h1
  · have := hs q h (by omega) hh; omega
theorem bs_hi {l : List Int} {x : Int} {h : Nat} (hs : ∀ p q, p < q → q < l.length → l[p]! < l[q]!) (h1 : x ≤ l[h]!) : ∀ q, h ≤ q → q < l.length → x ≤ l[q]! := by
  intro q hq hql
  by_cases hqh : q = h
  · subst hqh; exact h1
  · have := hs h q (by omega) hql; omega
theorem idxI_pos (l : List Int) (x : Int) : decide ((0 : Int) ≤ idxI l x) = l.contains x := by
  have key : ∀ (m i : Nat), m + i = l.length → decide ((0 : Int) ≤ scan (fun k => if x == l[k]! then some (k : Int) else none) (-1) i m) = (l.drop i).contains x := by
    intro m
    induction m with
    | zero => intro i hi; rw [List.drop_eq_nil_of_le (by omega)]; rfl
    | succ m ih =>
      intro i hi
      unfold scan
      have hil : i < l.length := by omega
      have hd : l.drop i = l[i]! :: l.drop (i + 1) := by rw [getElem!_pos l i hil]; exact List.drop_eq_getElem_cons hil
      rw [hd, List.contains_cons]
      cases hx : (x == l[i]!) with
      | true => simp
      | false => simp only [Bool.false_eq_true, if_false, Bool.false_or]; exact ih (i + 1) (by omega)
  have := key l.length 0 (by omega)
  rw [List.drop_zero] at this
  exact this
theorem countM_succ {l g : List Int} {k : Nat} (h : k < g.length) : countM l g (k + 1) = countM l g k + (if l.contains g[k]! then 1 else 0) := by
  unfold countM
  rw [List.take_add_one, List.getElem?_eq_getElem h, getElem!_pos g k h]
  simp only [Option.toList_some, List.filter_append, List.length_append]
  by_cases hc : g[k] ∈ l <;> simp [List.filter, hc]
theorem countM_le (l g : List Int) (k : Nat) : countM l g k ≤ k := by
  unfold countM
  exact Nat.le_trans (List.length_filter_le _ _) (List.length_take_le _ _)

theorem recs_le {c : Circle} (h : gCheck c = 0) : c.recs.length ≤ 1024 := by
  have := ((gCheck_ok c).1 h).1
  simp only [headBad, dbs] at this
  omega
theorem gNew_bad {l : List Int} {t w : Int} (h : gCheck ⟨0, t, w, l, []⟩ ≠ 0) : gNew l t w = (zeroC, gCheck ⟨0, t, w, l, []⟩) := by
  unfold gNew; rw [if_pos (by simpa using h)]
theorem gNew_ok {l : List Int} {t w : Int} (h : gCheck ⟨0, t, w, l, []⟩ = 0) : gNew l t w = (⟨0, t, w, l, []⟩, 0) := by
  unfold gNew; rw [if_neg (by simp [h])]
theorem gAsk_bad {c : Circle} {day : Int} (h : gCheck c ≠ 0) : gAsk c day = (zeroC, 0, gCheck c) := by
  unfold gAsk; rw [if_pos (by simpa using h)]
theorem gAsk_day {c : Circle} {day : Int} (h : gCheck c = 0) (h1 : isDayM day (lastR c).asked = false) : gAsk c day = (zeroC, 0, 1) := by
  unfold gAsk; rw [if_neg (by simp [h]), if_pos (by simp [h1])]
theorem gAsk_open {c : Circle} {day : Int} (h : gCheck c = 0) (h1 : isDayM day (lastR c).asked = true) (h2 : (lastR c).state = 0) : gAsk c day = (zeroC, 0, 451) := by
  unfold gAsk; rw [if_neg (by simp [h]), if_neg (by simp [h1]), if_pos (by simp [h2])]
theorem gAsk_many {c : Circle} {day : Int} (h : gCheck c = 0) (h1 : isDayM day (lastR c).asked = true) (h2 : (lastR c).state ≠ 0) (h3 : (c.recs.length : Int) = 1024) : gAsk c day = (zeroC, 0, 2) := by
  unfold gAsk; rw [if_neg (by simp [h]), if_neg (by simp [h1]), if_neg (by simpa using h2), if_pos (by simpa using h3)]
theorem gAsk_ok {c : Circle} {day : Int} (h : gCheck c = 0) (h1 : isDayM day (lastR c).asked = true) (h2 : (lastR c).state ≠ 0) (h3 : (c.recs.length : Int) ≠ 1024) :
    gAsk c day = (⟨c.epoch, c.threshold, c.wait, c.guardians, c.recs ++ [⟨(c.recs.length : Int), day, 0, [], []⟩]⟩, (c.recs.length : Int), 0) := by
  unfold gAsk; rw [if_neg (by simp [h]), if_neg (by simp [h1]), if_neg (by simpa using h2), if_neg (by simpa using h3)]
theorem gAct_bad {c : Circle} {no : Int} {f : Recovery → Except Int Recovery} (h : gCheck c ≠ 0) : gAct c no f = (zeroC, gCheck c) := by
  unfold gAct; rw [if_pos (by simpa using h)]
theorem gAct_no {c : Circle} {no : Int} {f : Recovery → Except Int Recovery} (h : gCheck c = 0) (hn : no < 0 ∨ (c.recs.length : Int) ≤ no) : gAct c no f = (zeroC, 1) := by
  unfold gAct; rw [if_neg (by simp [h]), if_pos hn]
theorem gAct_err {c : Circle} {no : Int} {f : Recovery → Except Int Recovery} {e : Int} (h : gCheck c = 0) (h1 : 0 ≤ no) (h2 : no < c.recs.length) (hf : f c.recs[no.toNat]! = .error e) : gAct c no f = (zeroC, e) := by
  unfold gAct; rw [if_neg (by simp [h]), if_neg (by omega), hf]
theorem gAct_ok {c : Circle} {no : Int} {f : Recovery → Except Int Recovery} {r : Recovery} (h : gCheck c = 0) (h1 : 0 ≤ no) (h2 : no < c.recs.length) (hf : f c.recs[no.toNat]! = .ok r) : gAct c no f = (⟨c.epoch, c.threshold, c.wait, c.guardians, c.recs.set no.toNat r⟩, 0) := by
  unfold gAct; rw [if_neg (by simp [h]), if_neg (by omega), hf]
theorem veto_bad {c : Circle} {no : Int} {day : Int} (h : gCheck c ≠ 0) : gAct c no (fVeto day) = (zeroC, gCheck c) := gAct_bad h
theorem veto_no {c : Circle} {no : Int} {day : Int} (h : gCheck c = 0) (hn : no < 0 ∨ (c.recs.length : Int) ≤ no) : gAct c no (fVeto day) = (zeroC, 1) := gAct_no h hn
theorem fin_bad {c : Circle} {no : Int} {day : Int} (h : gCheck c ≠ 0) : gAct c no (fFinish c day) = (zeroC, gCheck c) := gAct_bad h
theorem fin_no {c : Circle} {no : Int} {day : Int} (h : gCheck c = 0) (hn : no < 0 ∨ (c.recs.length : Int) ≤ no) : gAct c no (fFinish c day) = (zeroC, 1) := gAct_no h hn
theorem app_bad {c : Circle} {no : Int} {g : Int} (h : gCheck c ≠ 0) : gAct c no (fApprove c g) = (zeroC, gCheck c) := gAct_bad h
theorem app_no {c : Circle} {no : Int} {g : Int} (h : gCheck c = 0) (hn : no < 0 ∨ (c.recs.length : Int) ≤ no) : gAct c no (fApprove c g) = (zeroC, 1) := gAct_no h hn
theorem veto_day {c : Circle} {no day : Int} (hok : gCheck c = 0) (h1 : 0 ≤ no) (h2 : no < c.recs.length) (hd : isDayM day c.recs[no.toNat]!.asked = false) : gAct c no (fVeto day) = (zeroC, 1) :=
  gAct_err hok h1 h2 (by revert hd; generalize c.recs[no.toNat]! = r; intro hd; simp [fVeto, hd])
theorem veto_dead {c : Circle} {no day : Int} (hok : gCheck c = 0) (h1 : 0 ≤ no) (h2 : no < c.recs.length) (hd : isDayM day c.recs[no.toNat]!.asked = true) (hs : c.recs[no.toNat]!.state = 2) : gAct c no (fVeto day) = (⟨c.epoch, c.threshold, c.wait, c.guardians, c.recs.set no.toNat c.recs[no.toNat]!⟩, 0) :=
  gAct_ok hok h1 h2 (by revert hd hs; generalize c.recs[no.toNat]! = r; intro hd hs; simp [fVeto, hd, hs])
theorem veto_done {c : Circle} {no day : Int} (hok : gCheck c = 0) (h1 : 0 ≤ no) (h2 : no < c.recs.length) (hd : isDayM day c.recs[no.toNat]!.asked = true) (hs : c.recs[no.toNat]!.state = 1) : gAct c no (fVeto day) = (zeroC, 1) :=
  gAct_err hok h1 h2 (by revert hd hs; generalize c.recs[no.toNat]! = r; intro hd hs; simp [fVeto, hd, hs])
theorem veto_open {c : Circle} {no day : Int} (hok : gCheck c = 0) (h1 : 0 ≤ no) (h2 : no < c.recs.length) (hd : isDayM day c.recs[no.toNat]!.asked = true) (hs : c.recs[no.toNat]!.state = 0) : gAct c no (fVeto day) = (⟨c.epoch, c.threshold, c.wait, c.guardians, c.recs.set no.toNat ⟨c.recs[no.toNat]!.no, c.recs[no.toNat]!.asked, 2, c.recs[no.toNat]!.approved, [day]⟩⟩, 0) :=
  gAct_ok hok h1 h2 (by revert hd hs; generalize c.recs[no.toNat]! = r; intro hd hs; simp [fVeto, hd, hs])
theorem fin_dead {c : Circle} {no day : Int} (hok : gCheck c = 0) (h1 : 0 ≤ no) (h2 : no < c.recs.length) (hs : c.recs[no.toNat]!.state = 2) : gAct c no (fFinish c day) = (zeroC, 452) :=
  gAct_err hok h1 h2 (by revert hs; generalize c.recs[no.toNat]! = r; intro hs; simp [fFinish, hs])
theorem fin_done {c : Circle} {no day : Int} (hok : gCheck c = 0) (h1 : 0 ≤ no) (h2 : no < c.recs.length) (hs : c.recs[no.toNat]!.state = 1) : gAct c no (fFinish c day) = (zeroC, 1) :=
  gAct_err hok h1 h2 (by revert hs; generalize c.recs[no.toNat]! = r; intro hs; simp [fFinish, hs])
theorem fin_day {c : Circle} {no day : Int} (hok : gCheck c = 0) (h1 : 0 ≤ no) (h2 : no < c.recs.length) (hs : c.recs[no.toNat]!.state = 0) (hd : isDayM day 0 = false) : gAct c no (fFinish c day) = (zeroC, 1) :=
  gAct_err hok h1 h2 (by revert hs hd; generalize c.recs[no.toNat]! = r; intro hs hd; simp [fFinish, hs, hd])
theorem fin_few {c : Circle} {no day : Int} (hok : gCheck c = 0) (h1 : 0 ≤ no) (h2 : no < c.recs.length) (hs : c.recs[no.toNat]!.state = 0) (hd : isDayM day 0 = true) (ha : apprM c c.recs[no.toNat]! = false) : gAct c no (fFinish c day) = (zeroC, 450) :=
  gAct_err hok h1 h2 (by revert hs hd ha; generalize c.recs[no.toNat]! = r; intro hs hd ha; simp [fFinish, hs, hd, ha])
theorem fin_wait {c : Circle} {no day : Int} (hok : gCheck c = 0) (h1 : 0 ≤ no) (h2 : no < c.recs.length) (hs : c.recs[no.toNat]!.state = 0) (hd : isDayM day 0 = true) (ha : apprM c c.recs[no.toNat]! = true) (hw : day < c.recs[no.toNat]!.asked + c.wait) : gAct c no (fFinish c day) = (zeroC, 451) :=
  gAct_err hok h1 h2 (by revert hs hd ha hw; generalize c.recs[no.toNat]! = r; intro hs hd ha hw; simp [fFinish, hs, hd, ha]; omega)
theorem fin_open {c : Circle} {no day : Int} (hok : gCheck c = 0) (h1 : 0 ≤ no) (h2 : no < c.recs.length) (hs : c.recs[no.toNat]!.state = 0) (hd : isDayM day 0 = true) (ha : apprM c c.recs[no.toNat]! = true) (hw : c.recs[no.toNat]!.asked + c.wait ≤ day) : gAct c no (fFinish c day) = (⟨c.epoch, c.threshold, c.wait, c.guardians, c.recs.set no.toNat ⟨c.recs[no.toNat]!.no, c.recs[no.toNat]!.asked, 1, c.recs[no.toNat]!.approved, c.recs[no.toNat]!.vetoed⟩⟩, 0) :=
  gAct_ok hok h1 h2 (by revert hs hd ha hw; generalize c.recs[no.toNat]! = r; intro hs hd ha hw; simp [fFinish, hs, hd, ha]; omega)
theorem app_dead {c : Circle} {no g : Int} (hok : gCheck c = 0) (h1 : 0 ≤ no) (h2 : no < c.recs.length) (hs : c.recs[no.toNat]!.state = 2) : gAct c no (fApprove c g) = (zeroC, 452) :=
  gAct_err hok h1 h2 (by revert hs; generalize c.recs[no.toNat]! = r; intro hs; simp [fApprove, hs])
theorem app_done {c : Circle} {no g : Int} (hok : gCheck c = 0) (h1 : 0 ≤ no) (h2 : no < c.recs.length) (hs : c.recs[no.toNat]!.state = 1) : gAct c no (fApprove c g) = (zeroC, 1) :=
  gAct_err hok h1 h2 (by revert hs; generalize c.recs[no.toNat]! = r; intro hs; simp [fApprove, hs])
theorem app_not {c : Circle} {no g : Int} (hok : gCheck c = 0) (h1 : 0 ≤ no) (h2 : no < c.recs.length) (hs : c.recs[no.toNat]!.state = 0) (hg : c.guardians.contains g = false) : gAct c no (fApprove c g) = (zeroC, 450) :=
  gAct_err hok h1 h2 (by revert hs hg; generalize c.recs[no.toNat]! = r; intro hs hg; simp only [fApprove, hs, hg]; simp [hs, hg])
theorem app_had {c : Circle} {no g : Int} (hok : gCheck c = 0) (h1 : 0 ≤ no) (h2 : no < c.recs.length) (hs : c.recs[no.toNat]!.state = 0) (hg : c.guardians.contains g = true) (hb : bsF c.recs[no.toNat]!.approved g = true) : gAct c no (fApprove c g) = (⟨c.epoch, c.threshold, c.wait, c.guardians, c.recs.set no.toNat c.recs[no.toNat]!⟩, 0) :=
  gAct_ok hok h1 h2 (by revert hs hg hb; generalize c.recs[no.toNat]! = r; intro hs hg hb; simp only [fApprove, hs, hg, hb]; simp [hs, hg, hb])
theorem app_new {c : Circle} {no g : Int} (hok : gCheck c = 0) (h1 : 0 ≤ no) (h2 : no < c.recs.length) (hs : c.recs[no.toNat]!.state = 0) (hg : c.guardians.contains g = true) (hb : bsF c.recs[no.toNat]!.approved g = false) : gAct c no (fApprove c g) = (⟨c.epoch, c.threshold, c.wait, c.guardians, c.recs.set no.toNat ⟨c.recs[no.toNat]!.no, c.recs[no.toNat]!.asked, c.recs[no.toNat]!.state, putIn c.recs[no.toNat]!.approved g, c.recs[no.toNat]!.vetoed⟩⟩, 0) :=
  gAct_ok hok h1 h2 (by revert hs hg hb; generalize c.recs[no.toNat]! = r; intro hs hg hb; simp only [fApprove, hs, hg, hb]; simp [hs, hg, hb])
theorem recBad_f {l : List Recovery} {k : Nat} : recBad l k = false ↔ l[k]!.no = (k : Int) ∧ isDayM l[k]!.asked (askedOf l k) = true ∧ recOKM l[k]! = true ∧ (l[k]!.state ≠ 0 ∨ (l.length : Int) - 1 ≤ (k : Int)) := by
  simp only [recBad, dbs]
  constructor
  · rintro ⟨⟨⟨h1, h2⟩, h3⟩, h4⟩; exact ⟨by omega, by simpa using h2, by simpa using h3, by omega⟩
  · rintro ⟨h1, h2, h3, h4⟩; exact ⟨⟨⟨by omega, by simpa using h2⟩, by simpa using h3⟩, by omega⟩
theorem isDay_iff {d f : Int} : isDayM d f = true ↔ f ≤ d ∧ d < 1024 := by simp [isDayM]
theorem asked_ge {l : List Recovery} {n : Nat} (h : ∀ k, k < n → recBad l k = false) : ∀ k, k < n → 0 ≤ l[k]!.asked := by
  intro k hk
  induction k with
  | zero =>
    have := (isDay_iff.1 (recBad_f.1 (h 0 hk)).2.1).1
    simpa [askedOf] using this
  | succ k ih =>
    have h1 := (isDay_iff.1 (recBad_f.1 (h (k + 1) hk)).2.1).1
    simp only [askedOf, Nat.add_one_ne_zero, if_false, Nat.add_sub_cancel] at h1
    have := ih (by omega)
    omega
theorem act_bounds {c : Circle} (h : gCheck c = 0) {no : Int} (h1 : 0 ≤ no) (h2 : no < c.recs.length) : 0 ≤ c.recs[no.toNat]!.asked ∧ c.recs[no.toNat]!.asked < 1024 ∧ 0 ≤ c.wait ∧ c.wait < 1024 := by
  have hh := (gCheck_ok c).1 h
  have ha := asked_ge hh.2 no.toNat (by omega)
  have hd := (isDay_iff.1 (recBad_f.1 (hh.2 no.toNat (by omega))).2.1).2
  have hw := hh.1
  simp only [headBad, dbs] at hw
  have := isDay_iff.1 (show isDayM c.wait 0 = true by simpa using hw.1.2)
  omega

/-! ### what the reference reckons -/
def inM (x a b : Int) : Bool := decide (a ≤ x) && decide (x ≤ b)
theorem inM_t {x a b : Int} : inM x a b = true ↔ a ≤ x ∧ x ≤ b := by simp [inM]
theorem inM_f {x a b : Int} : inM x a b = false ↔ x < a ∨ b < x := by
  rw [← Bool.not_eq_true, inM_t]; omega
theorem all_step {p : Nat → Prop} {k : Nat} (h : ∀ q, q < k → p q) (hk : p k) : ∀ q, q < k + 1 → p q := fun q hq => by
  by_cases e : q = k
  · subst e; exact hk
  · exact h q (by omega)
section
variable {l : List Int} {k : Nat}
theorem ris_ok1 (hq : ∀ q, q < k → incBad l q = false) (hi : inM l[k]! 0 4095 = true) (h0 : (k : Int) ≤ 0) : ∀ q, q < k + 1 → incBad l q = false :=
  all_step hq (by have := inM_t.1 hi; have e : k = 0 := (by omega); subst e; rw [incBad_f]; simp only [lastOf, if_true]; omega)
theorem ris_ok2 (hq : ∀ q, q < k → incBad l q = false) (hi : inM l[k]! 0 4095 = true) (h1 : l[k - 1]! < l[k]!) (h0 : 0 < (k : Int)) : ∀ q, q < k + 1 → incBad l q = false :=
  all_step hq (by have := inM_t.1 hi; rw [incBad_f]; simp only [lastOf]; rw [if_neg (by omega)]; omega)
theorem inc_bad (hk : k < l.length) (h : incBad l k = true) : incM l = false := by
  cases he : incM l with
  | false => rfl
  | true => rw [(inc_iff l).1 he k hk] at h; cases h
theorem ris_no1 (hk : k < l.length) (hi : inM l[k]! 0 4095 = false) : incM l = false := by
  cases he : incM l with
  | false => rfl
  | true => have := inc_range he k hk; have := inM_f.1 hi; omega
theorem ris_no2 (hk : k < l.length) (h1 : l[k]! ≤ l[k - 1]!) (h0 : 0 < (k : Int)) : incM l = false := by
  cases he : incM l with
  | false => rfl
  | true => have := inc_sorted he (k - 1) k (by omega) hk; omega
theorem ris_all (hk : ∀ q, q < l.length → incBad l q = false) : incM l = true := (inc_iff l).2 hk
end
def refRecM (c : Circle) (i : Nat) : Bool :=
  if (((c.recs[i]!.no != (i : Int) || !inM c.recs[i]!.asked 0 1023) || (decide (0 < (i : Int)) && decide (c.recs[i]!.asked < c.recs[i - 1]!.asked))) || !inM c.recs[i]!.state 0 2) || !incM c.recs[i]!.approved then false
  else if c.recs[i]!.state == 2 then ((c.recs[i]!.vetoed.length : Int) == 1) && inM c.recs[i]!.vetoed[0]! c.recs[i]!.asked 1023
  else ((c.recs[i]!.vetoed.length : Int) == 0) && (c.recs[i]!.state == 1 || (i : Int) == (c.recs.length : Int) - 1)
theorem refRec_iff {c : Circle} {k : Nat} (hq : ∀ q, q < k → recBad c.recs q = false) (hk : k < c.recs.length) : refRecM c k = !recBad c.recs k := by
  have hb : recBad c.recs k = false ↔ refRecM c k = true := by
    rw [recBad_f]
    have ha : askedOf c.recs k = if k = 0 then 0 else c.recs[k - 1]!.asked := rfl
    have hp : k ≠ 0 → 0 ≤ c.recs[k - 1]!.asked := fun h0 => asked_ge hq (k - 1) (by omega)
    unfold refRecM recOKM
    rw [isDay_iff]
    generalize hr : c.recs[k]! = r at *
    generalize hA : incM r.approved = A at *
    cases A with
    | false => simp
    | true =>
      by_cases hno : r.no = (k : Int)
      · by_cases h2 : r.state = 2
        · rw [h2]
          simp only [dbs, isDay_iff, inM_t, hno]
          by_cases h0 : k = 0
          · subst h0; rw [if_pos rfl] at ha; rw [ha]
            constructor
            · rintro ⟨_, h1, h3, _⟩; split at h3 <;> simp_all [isDay_iff, inM] <;> omega
            · intro h; split at h <;> simp_all [isDay_iff, inM] <;> omega
          · rw [if_neg h0] at ha; rw [ha]; have := hp h0
            constructor
            · rintro ⟨_, h1, h3, _⟩; split at h3 <;> simp_all [isDay_iff, inM] <;> omega
            · intro h; split at h <;> simp_all [isDay_iff, inM] <;> omega
        · have h2' : (r.state == 2) = false := by simpa using h2
          rw [h2']
          simp only [dbs, isDay_iff, inM_t, hno]
          by_cases h0 : k = 0
          · subst h0; rw [if_pos rfl] at ha; rw [ha]
            constructor
            · rintro ⟨_, h1, h3, h4⟩; split at h3 <;> simp_all [isDay_iff, inM] <;> omega
            · intro h; split at h <;> simp_all [isDay_iff, inM] <;> omega
          · rw [if_neg h0] at ha; rw [ha]; have := hp h0
            constructor
            · rintro ⟨_, h1, h3, h4⟩; split at h3 <;> simp_all [isDay_iff, inM] <;> omega
            · intro h; split at h <;> simp_all [isDay_iff, inM] <;> omega
      · simp [hno]
  cases h1 : recBad c.recs k <;> cases h2 : refRecM c k <;> simp_all
end Go.Proofs.Ytpdekmknnpkmgaa
