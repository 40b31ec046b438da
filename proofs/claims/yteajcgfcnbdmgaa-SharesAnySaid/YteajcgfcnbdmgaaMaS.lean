/- Shares: what the programs of chapter 8 reckon. No program in sight. -/
import Derived.Test.YteajcgfcnbdmgaaMaE
import Derived.Test.YteajcgfcnbdmgaaSd
set_option linter.unusedSimpArgs false
set_option linter.unusedVariables false
namespace Go.Proofs.Yteajcgfcnbdmgaa
open Go.Fw

theorem scan_cases {β : Type} {f : Nat → Option β} {d r : β} (hf : ∀ k, f k = none ∨ f k = some r) : ∀ (m i : Nat), (scan f d i m = d ∧ ∀ k, i ≤ k → k < i + m → f k = none) ∨ (scan f d i m = r ∧ ∃ k, i ≤ k ∧ k < i + m ∧ f k = some r)
  | 0, i => .inl ⟨rfl, fun k h1 h2 => by omega⟩
  | m + 1, i => by
    unfold scan
    rcases hf i with h | h
    · rw [h]
      rcases scan_cases (d := d) hf m (i + 1) with ⟨h1, h2⟩ | ⟨h1, k, h2, h3, h4⟩
      · refine .inl ⟨h1, fun k hk hk2 => ?_⟩
        rcases Nat.lt_or_eq_of_le hk with h3 | h3
        · exact h2 k (by omega) (by omega)
        · exact h3 ▸ h
      · exact .inr ⟨h1, k, by omega, by omega, h4⟩
    · rw [h]; exact .inr ⟨rfl, i, Nat.le_refl _, by omega, h⟩
theorem mulb {a b : Int} (ha : 0 ≤ a) (ha' : a ≤ 1000000) (hb : 0 ≤ b) (hb' : b ≤ 1000000) : -9223372036854775808 ≤ a * b ∧ a * b ≤ 9223372036854775807 := by
  have h1 : a * b ≤ 1000000 * 1000000 := Int.mul_le_mul ha' hb' hb (by omega)
  have h2 := Int.mul_nonneg ha hb
  omega

theorem mulbN {a b : Nat} (ha : a ≤ 1000000) (hb : b ≤ 1000000) : -9223372036854775808 ≤ ((a * b : Nat) : Int) ∧ ((a * b : Nat) : Int) ≤ 9223372036854775807 := by
  have h1 : a * b ≤ 1000000 * 1000000 := Nat.mul_le_mul ha hb
  omega

/-! ### valid shares -/
def alike0 (f : Share) : Bool := ((decide (f.threshold < 1) || decide (f.many < f.threshold)) || decide (8 < f.many)) || decide (64 < (f.data.length : Int))
def alDiff (f s : Share) : Bool := (s.threshold != f.threshold || s.many != f.many) || ((s.data.length : Int) != (f.data.length : Int))
def alLast (l : List Share) (k : Nat) : Int := if k = 0 then 0 else l[k - 1]!.index
def alIdx (f s : Share) (last : Int) : Bool := decide (s.index ≤ last) || decide (f.many < s.index)
def alikeM (l : List Share) : Bool := if (l.length : Int) == 0 then false else if alike0 l[0]! then false else
  scan (fun k => if alDiff l[0]! l[k]! then some false else if alIdx l[0]! l[k]! (alLast l k) then some false else none) true 0 (l.length - 0)
def alRef (l : List Share) (k : Nat) : Bool := ((((alDiff l[0]! l[k]!) || decide (l[k]!.index < 1)) || decide (l[0]!.many < l[k]!.index)) || (decide (0 < (k : Int)) && decide (l[k]!.index ≤ l[k - 1]!.index)))
def refAlikeM (l : List Share) : Bool := if (l.length : Int) == 0 then false else if alike0 l[0]! then false else scan (fun k => if alRef l k then some false else none) true 0 (l.length - 0)
def ep1 (l : List Share) (k : Nat) : Bool := (l[k]!.epoch != l[0]!.epoch || decide (l[k]!.epoch < 0)) || decide (1048576 < l[k]!.epoch)
def checkM (l : List Share) : Int := if !alikeM l then 80 else scan (fun k => if ep1 l k then some 81 else none) 0 0 (l.length - 0)
def refCheckM (l : List Share) : Int := if !refAlikeM l then 80 else scan (fun k => if ep1 l k then some 81 else none) 0 0 (l.length - 0)
theorem alx : (∀ a b : Bool, ((a || b) = true) = (a = true ∨ b = true)) ∧ (∀ a b : Bool, ((a && b) = true) = (a = true ∧ b = true)) ∧ (∀ b : Bool, (¬ b = true) = (b = false))
    ∧ (∀ a b : Bool, ((a || b) = false) = (a = false ∧ b = false)) ∧ (∀ a b : Bool, ((a && b) = false) = (a = false ∨ b = false))
    ∧ (∀ (α : Type) [BEq α] [LawfulBEq α] (a b : α), ((a != b) = true) = (a ≠ b)) ∧ (∀ (α : Type) [BEq α] [LawfulBEq α] (a b : α), ((a == b) = true) = (a = b))
    ∧ (∀ (α : Type) [BEq α] [LawfulBEq α] (a b : α), ((a != b) = false) = (a = b)) ∧ (∀ (α : Type) [BEq α] [LawfulBEq α] (a b : α), ((a == b) = false) = (a ≠ b))
    ∧ (∀ (p : Prop) [Decidable p], (decide p = true) = p) ∧ (∀ (p : Prop) [Decidable p], (decide p = false) = ¬ p)
    ∧ (∀ (α : Type) (a b : α), (a ≠ b) = ¬ a = b) ∧ (∀ b : Bool, ((!b) = true) = (b = false)) ∧ (∀ b : Bool, ((!b) = false) = (b = true)) ∧ ((!true) = false) ∧ ((!false) = true)
    ∧ ((false = true) = False) ∧ ((¬ True) = False) ∧ ((¬ False) = True)
    ∧ (∀ f : Share, alike0 f = (((decide (f.threshold < 1) || decide (f.many < f.threshold)) || decide (8 < f.many)) || decide (64 < (f.data.length : Int))))
    ∧ (∀ f s : Share, alDiff f s = ((s.threshold != f.threshold || s.many != f.many) || ((s.data.length : Int) != (f.data.length : Int))))
    ∧ (∀ (f s : Share) (last : Int), alIdx f s last = (decide (s.index ≤ last) || decide (f.many < s.index)))
    ∧ (∀ (l : List Share) (k : Nat), alRef l k = ((((alDiff l[0]! l[k]!) || decide (l[k]!.index < 1)) || decide (l[0]!.many < l[k]!.index)) || (decide (0 < (k : Int)) && decide (l[k]!.index ≤ l[k - 1]!.index))))
    ∧ (∀ (l : List Share) (k : Nat), ep1 l k = ((l[k]!.epoch != l[0]!.epoch || decide (l[k]!.epoch < 0)) || decide (1048576 < l[k]!.epoch))) :=
  ⟨dbs.1, dbs.2.1, dbs.2.2.1, dbs.2.2.2.1, dbs.2.2.2.2.1, dbs.2.2.2.2.2.1, dbs.2.2.2.2.2.2.1, dbs.2.2.2.2.2.2.2.1, dbs.2.2.2.2.2.2.2.2.1, dbs.2.2.2.2.2.2.2.2.2.1, dbs.2.2.2.2.2.2.2.2.2.2.1, dbs.2.2.2.2.2.2.2.2.2.2.2.1, dbs.2.2.2.2.2.2.2.2.2.2.2.2.1, dbs.2.2.2.2.2.2.2.2.2.2.2.2.2.1, dbs.2.2.2.2.2.2.2.2.2.2.2.2.2.2.1, dbs.2.2.2.2.2.2.2.2.2.2.2.2.2.2.2.1, dbs.2.2.2.2.2.2.2.2.2.2.2.2.2.2.2.2.1, dbs.2.2.2.2.2.2.2.2.2.2.2.2.2.2.2.2.2.1, dbs.2.2.2.2.2.2.2.2.2.2.2.2.2.2.2.2.2.2, fun _ => rfl, fun _ _ => rfl, fun _ _ _ => rfl, fun _ _ => rfl, fun _ _ => rfl⟩
structure Good (l : List Share) : Prop where
  pos : 0 < l.length
  t1 : 1 ≤ l[0]!.threshold
  tm : l[0]!.threshold ≤ l[0]!.many
  m8 : l[0]!.many ≤ 8
  d64 : l[0]!.data.length ≤ 64
  th : ∀ k, k < l.length → l[k]!.threshold = l[0]!.threshold
  ma : ∀ k, k < l.length → l[k]!.many = l[0]!.many
  da : ∀ k, k < l.length → l[k]!.data.length = l[0]!.data.length
  ix : ∀ k, k < l.length → 1 ≤ l[k]!.index ∧ l[k]!.index ≤ l[0]!.many
  inc : ∀ k, k + 1 < l.length → l[k]!.index < l[k + 1]!.index
theorem Good.mono {l : List Share} (h : Good l) : ∀ (j i : Nat), i < j → j < l.length → l[i]!.index < l[j]!.index
  | 0, i, hi, _ => by omega
  | j + 1, i, hi, hj => by
    have := h.inc j hj
    by_cases hij : i = j
    · subst hij; exact this
    · have := h.mono j i (by omega) (by omega); omega
theorem alike0_iff (f : Share) : alike0 f = false ↔ 1 ≤ f.threshold ∧ f.threshold ≤ f.many ∧ f.many ≤ 8 ∧ f.data.length ≤ 64 := by
  unfold alike0; simp only [Bool.or_eq_false_iff, decide_eq_false_iff_not]; omega
theorem alDiff_iff (f s : Share) : alDiff f s = false ↔ s.threshold = f.threshold ∧ s.many = f.many ∧ s.data.length = f.data.length := by
  unfold alDiff; simp only [Bool.or_eq_false_iff, bne_eq_false_iff_eq]; omega
theorem alike_iff (l : List Share) : alikeM l = true ↔ Good l := by
  unfold alikeM
  by_cases h0 : l.length = 0
  · rw [if_pos (by simp; exact List.eq_nil_of_length_eq_zero h0)]
    exact ⟨fun h => (by cases h), fun h => by have := h.pos; omega⟩
  rw [if_neg (by simp; intro h; subst h; simp at h0)]
  cases h1 : alike0 l[0]! with
  | true =>
    simp only [if_true]
    refine ⟨fun h => by simp at h, fun h => ?_⟩
    have := (alike0_iff l[0]!).2 ⟨h.t1, h.tm, h.m8, h.d64⟩
    rw [this] at h1; cases h1
  | false =>
    simp only [Bool.false_eq_true, if_false]
    obtain ⟨a1, a2, a3, a4⟩ := (alike0_iff _).1 h1
    rw [scan_true _ _ (fun k => by split; simp; split <;> simp)]
    constructor
    · intro h
      have key : ∀ k, k < l.length → (alDiff l[0]! l[k]! = false) ∧ (alLast l k < l[k]!.index ∧ l[k]!.index ≤ l[0]!.many) := fun k hk => by
        have := h k (Nat.zero_le _) (by omega)
        split at this
        · cases this
        · rename_i hd
          split at this
          · cases this
          · rename_i hi
            refine ⟨by simpa using hd, ?_⟩
            unfold alIdx at hi; simp only [Bool.or_eq_true, decide_eq_true_eq, not_or] at hi; omega
      have hix : ∀ k, k < l.length → 1 ≤ l[k]!.index := fun k => by
        induction k with
        | zero => intro hk; have := (key 0 hk).2.1; unfold alLast at this; rw [if_pos rfl] at this; omega
        | succ k ih => intro hk; have := (key _ hk).2.1; have h2 := ih (by omega); unfold alLast at this; rw [if_neg (by omega)] at this; simp only [Nat.add_sub_cancel] at this; omega
      exact ⟨by omega, a1, a2, a3, a4, fun k hk => ((alDiff_iff _ _).1 (key k hk).1).1, fun k hk => ((alDiff_iff _ _).1 (key k hk).1).2.1, fun k hk => ((alDiff_iff _ _).1 (key k hk).1).2.2, fun k hk => ⟨hix k hk, (key k hk).2.2⟩, fun k hk => by
        have := (key _ hk).2.1; unfold alLast at this; rw [if_neg (by omega)] at this; simpa using this⟩
    · intro h k _ hk
      rw [if_neg, if_neg]
      · unfold alIdx; simp only [Bool.or_eq_true, decide_eq_true_eq, not_or]
        have h1 := h.ix k (by omega)
        unfold alLast
        cases k with
        | zero => simp only [if_true]; omega
        | succ k => rw [if_neg (by omega)]; have := h.inc k (by omega); simp only [Nat.add_sub_cancel]; omega
      · have := (alDiff_iff l[0]! l[k]!).2 ⟨h.th k (by omega), h.ma k (by omega), h.da k (by omega)⟩
        rw [this]; simp
theorem refAlike_iff (l : List Share) : refAlikeM l = true ↔ Good l := by
  unfold refAlikeM
  by_cases h0 : l.length = 0
  · rw [if_pos (by simp; exact List.eq_nil_of_length_eq_zero h0)]
    exact ⟨fun h => (by cases h), fun h => by have := h.pos; omega⟩
  rw [if_neg (by simp; intro h; subst h; simp at h0)]
  cases h1 : alike0 l[0]! with
  | true =>
    simp only [if_true]
    refine ⟨fun h => by simp at h, fun h => ?_⟩
    have := (alike0_iff l[0]!).2 ⟨h.t1, h.tm, h.m8, h.d64⟩
    rw [this] at h1; cases h1
  | false =>
    simp only [Bool.false_eq_true, if_false]
    obtain ⟨a1, a2, a3, a4⟩ := (alike0_iff _).1 h1
    rw [scan_true _ _ (fun k => by split <;> simp)]
    have key : ∀ k, alRef l k = false ↔ alDiff l[0]! l[k]! = false ∧ 1 ≤ l[k]!.index ∧ l[k]!.index ≤ l[0]!.many ∧ (0 < k → l[k - 1]!.index < l[k]!.index) := fun k => by
      unfold alRef
      simp only [Bool.or_eq_false_iff, decide_eq_false_iff_not, Bool.and_eq_false_iff]
      constructor
      · rintro ⟨⟨⟨h1, h2⟩, h3⟩, h4⟩; exact ⟨h1, by omega, by omega, by omega⟩
      · rintro ⟨h1, h2, h3, h4⟩; exact ⟨⟨⟨h1, by omega⟩, by omega⟩, by omega⟩
    constructor
    · intro h
      have key2 : ∀ k, k < l.length → alRef l k = false := fun k hk => by
        have := h k (Nat.zero_le _) (by omega)
        split at this
        · cases this
        · rename_i hd; simpa using hd
      exact ⟨by omega, a1, a2, a3, a4, fun k hk => ((alDiff_iff _ _).1 ((key k).1 (key2 k hk)).1).1, fun k hk => ((alDiff_iff _ _).1 ((key k).1 (key2 k hk)).1).2.1, fun k hk => ((alDiff_iff _ _).1 ((key k).1 (key2 k hk)).1).2.2, fun k hk => ⟨((key k).1 (key2 k hk)).2.1, ((key k).1 (key2 k hk)).2.2.1⟩, fun k hk => by
        have := ((key _).1 (key2 _ hk)).2.2.2 (by omega); simpa using this⟩
    · intro h k _ hk
      rw [if_neg]
      rw [(key k).2 ⟨(alDiff_iff _ _).2 ⟨h.th k (by omega), h.ma k (by omega), h.da k (by omega)⟩, (h.ix k (by omega)).1, (h.ix k (by omega)).2, fun hk0 => by
        obtain ⟨q, rfl⟩ : ∃ q, k = q + 1 := ⟨k - 1, by omega⟩
        exact h.inc q (by omega)⟩]; simp
theorem refAlike_eq (l : List Share) : refAlikeM l = alikeM l := by rw [Bool.eq_iff_iff, refAlike_iff, alike_iff]
theorem refCheck_eq (l : List Share) : refCheckM l = checkM l := by unfold refCheckM checkM; rw [refAlike_eq]
/-- Valid shares. -/
structure Vd (l : List Share) : Prop extends Good l where
  ep : ∀ k, k < l.length → l[k]!.epoch = l[0]!.epoch
  ep0 : 0 ≤ l[0]!.epoch
  ep1 : l[0]!.epoch ≤ 1048576
theorem ep1_iff (l : List Share) (k : Nat) : ep1 l k = false ↔ l[k]!.epoch = l[0]!.epoch ∧ 0 ≤ l[k]!.epoch ∧ l[k]!.epoch ≤ 1048576 := by
  unfold ep1; simp only [Bool.or_eq_false_iff, bne_eq_false_iff_eq, decide_eq_false_iff_not]; omega
theorem check_iff (l : List Share) : checkM l = 0 ↔ Vd l := by
  unfold checkM
  cases ha : alikeM l with
  | false =>
    simp only [Bool.not_false, if_true]
    exact ⟨fun h => by omega, fun h => by rw [(alike_iff l).2 h.toGood] at ha; cases ha⟩
  | true =>
    have hg := (alike_iff l).1 ha
    simp only [Bool.not_true, Bool.false_eq_true, if_false]
    rcases scan_cases (f := fun k => if ep1 l k then some (81 : Int) else none) (d := (0 : Int)) (r := 81) (fun k => by split <;> simp) (l.length - 0) 0 with ⟨h1, h2⟩ | ⟨h1, k, h2, h3, h4⟩
    · rw [h1]
      have key : ∀ k, k < l.length → ep1 l k = false := fun k hk => by
        have := h2 k (Nat.zero_le _) (by omega)
        split at this
        · cases this
        · rename_i h; simpa using h
      refine ⟨fun _ => ⟨hg, fun k hk => ((ep1_iff l k).1 (key k hk)).1, ((ep1_iff l 0).1 (key 0 hg.pos)).2.1, ((ep1_iff l 0).1 (key 0 hg.pos)).2.2⟩, fun _ => rfl⟩
    · rw [h1]
      refine ⟨fun h => by omega, fun h => ?_⟩
      have := (ep1_iff l k).2 ⟨h.ep k (by omega), by rw [h.ep k (by omega)]; exact h.ep0, by rw [h.ep k (by omega)]; exact h.ep1⟩
      simp only [this] at h4; cases h4
theorem check_cases (l : List Share) : checkM l = 0 ∨ checkM l = 80 ∨ checkM l = 81 := by
  unfold checkM
  split
  · simp
  · rcases scan_cases (f := fun k => if ep1 l k then some (81 : Int) else none) (d := (0 : Int)) (r := 81) (fun k => by split <;> simp) (l.length - 0) 0 with ⟨h1, _⟩ | ⟨h1, _⟩ <;> rw [h1] <;> simp
/-! ### equality, smallness -/
def sameShare (a b : Share) : Bool := (((a.epoch == b.epoch && a.index == b.index) && a.threshold == b.threshold) && a.many == b.many) && a.data == b.data
theorem sameShare_iff (a b : Share) : sameShare a b = true ↔ a = b := by
  unfold sameShare; simp only [Bool.and_eq_true, beq_iff_eq]
  constructor
  · rintro ⟨⟨⟨⟨h1, h2⟩, h3⟩, h4⟩, h5⟩; exact Share.ext h1 h2 h3 h4 h5
  · rintro rfl; simp
def sameM (a b : List Share) : Bool := if (a.length : Int) != (b.length : Int) then false else scan (fun k => if !sameShare a[k]! b[k]! then some false else none) true 0 (a.length - 0)
theorem ext_getS {α : Type} [Inhabited α] {l m : List α} (hlen : l.length = m.length) (h : ∀ i : Nat, i < l.length → l[i]! = m[i]!) : l = m := by
  apply List.ext_getElem hlen
  intro i h1 h2
  have := h i h1
  rwa [getElem!_pos l i h1, getElem!_pos m i h2] at this
theorem same_iff (a b : List Share) : sameM a b = true ↔ a = b := by
  unfold sameM
  by_cases h : a.length = b.length
  · rw [if_neg (by simp; omega), scan_true _ _ (fun k => by split <;> simp)]
    constructor
    · intro h1
      refine ext_getS h (fun i hi => ?_)
      have := h1 i (Nat.zero_le _) (by omega)
      split at this
      · cases this
      · rename_i h2; exact (sameShare_iff _ _).1 (by simpa using h2)
    · rintro rfl k _ _
      rw [(sameShare_iff _ _).2 rfl]; rfl
  · rw [if_pos (by simp; omega)]
    exact ⟨fun h => (by cases h), fun e => absurd (congrArg List.length e) h⟩
def fewM (l : List Share) : Bool := scan (fun k => if 70 < (l[k]!.data.length : Int) then some false else none) (decide ((l.length : Int) ≤ 10)) 0 (l.length - 0)
theorem few_iff (l : List Share) : fewM l = true ↔ l.length ≤ 10 ∧ ∀ k, k < l.length → l[k]!.data.length ≤ 70 := by
  unfold fewM
  rcases scan_cases (f := fun k => if 70 < (l[k]!.data.length : Int) then some false else none) (d := decide ((l.length : Int) ≤ 10)) (r := false) (fun k => by split <;> simp) (l.length - 0) 0 with ⟨h1, h2⟩ | ⟨h1, k, h2, h3, h4⟩
  · rw [h1]
    have key : ∀ k, k < l.length → l[k]!.data.length ≤ 70 := fun k hk => by
      have := h2 k (Nat.zero_le _) (by omega)
      split at this
      · cases this
      · omega
    simp only [decide_eq_true_eq]; exact ⟨fun h => ⟨by omega, key⟩, fun h => by omega⟩
  · rw [h1]
    refine ⟨fun h => (by cases h), fun h => ?_⟩
    have := h.2 k (by omega)
    rw [if_neg (by omega)] at h4; cases h4
end Go.Proofs.Yteajcgfcnbdmgaa
