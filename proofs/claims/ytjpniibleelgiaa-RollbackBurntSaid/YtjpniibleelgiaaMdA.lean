/- Devices: what the program of chapter 42 reckons. No program in sight. -/
import Derived.Test.YtjpniibleelgiaaMaA
import Derived.Test.YtjpniibleelgiaaSd
import Derived.Test.YtjpniibleelgiaaFwK
set_option linter.unusedSimpArgs false
set_option linter.unusedVariables false
namespace Go.Proofs.Ytjpniibleelgiaa
open Go.Fw

def isDevM (n : Int) : Bool := decide (0 ≤ n) && decide (n < 4)
def validM (o : DeviceOp) : Bool :=
  if (((((!isDevM o.device || decide (o.no < 1)) || decide (65536 < o.no)) || decide (o.copy < 0)) || decide (1024 ≤ o.copy)) || decide (o.token < 1)) || decide (65536 < o.token) then false
  else ((o.kind == 1) && isDevM o.to) || ((o.kind == 2) && (o.to == 0))
def cmpI (a b : Int) : Int := if a < b then -1 else if b < a then 1 else 0
/-- The numbers by which operations are ordered. -/
def keyM : Nat → DeviceOp → Int
  | 0, o => o.copy
  | 1, o => o.token
  | 2, o => o.device
  | 3, o => o.no
  | 4, o => o.kind
  | _, o => o.to
def chainM (a b : DeviceOp) (ns : List Nat) : Int := scan (fun k => if cmpI (keyM ns[k]! a) (keyM ns[k]! b) != 0 then some (cmpI (keyM ns[k]! a) (keyM ns[k]! b)) else none) 0 0 (ns.length - 0)
def cmpM (a b : DeviceOp) : Int := chainM a b [0, 1, 2, 3, 4, 5]
def numM (o : DeviceOp) : DevNo := ⟨o.device, o.no⟩
def seenM (l : List DeviceOp) : Nat → DevNo → Option Bool
  | 0 => noM
  | k + 1 => upM (seenM l k) (numM l[k]!) true
def numberedM (l : List DeviceOp) : Bool := scan (fun k => if (seenM l k (numM l[k]!)).getD false then some false else none) true 0 (l.length - 0)
def opBad (l : List DeviceOp) (k : Nat) : Bool := !validM l[k]! || (decide (0 < (k : Int)) && decide (0 ≤ cmpM l[k - 1]! l[k]!))
def checkM (l : List DeviceOp) : Int := if decide (256 < (l.length : Int)) || !numberedM l then 420 else scan (fun k => if opBad l k then some 420 else none) 0 0 (l.length - 0)
def idxD (l : List DeviceOp) (o : DeviceOp) : Int := scan (fun k => if o == l[k]! then some (k : Int) else none) (-1) 0 (l.length - 0)
def idxF (l : List DeviceOp) (f : DeviceOp → Bool) : Int := scan (fun k => if f l[k]! then some (k : Int) else none) (-1) 0 (l.length - 0)
theorem scan_pos {p : Nat → Bool} : ∀ (m i : Nat), decide ((0 : Int) ≤ scan (fun k => if p k then some (k : Int) else none) (-1) i m) = true ↔ ∃ k, i ≤ k ∧ k < i + m ∧ p k = true
  | 0, i => by
    constructor
    · intro h; simp [scan] at h
    · rintro ⟨k, h1, h2, _⟩; omega
  | m + 1, i => by
    unfold scan
    cases hp : p i with
    | true =>
      simp only [if_true, decide_eq_true_eq]
      exact ⟨fun _ => ⟨i, Nat.le_refl _, by omega, hp⟩, fun _ => by omega⟩
    | false =>
      simp only [Bool.false_eq_true, if_false]
      rw [scan_pos m (i + 1)]
      constructor
      · rintro ⟨k, h1, h2, h3⟩; exact ⟨k, by omega, by omega, h3⟩
      · rintro ⟨k, h1, h2, h3⟩
        refine ⟨k, ?_, by omega, h3⟩
        by_cases e : k = i
        · subst e; rw [hp] at h3; cases h3
        · omega
theorem idxD_pos (l : List DeviceOp) (o : DeviceOp) : decide ((0 : Int) ≤ idxD l o) = l.contains o := by
  rw [Bool.eq_iff_iff, idxD, scan_pos (p := fun k => o == l[k]!)]
  simp only [List.contains_iff_mem, List.mem_iff_getElem, beq_iff_eq]
  constructor
  · rintro ⟨k, _, h2, h3⟩; exact ⟨k, by omega, by rw [h3, getElem!_pos l k (by omega)]⟩
  · rintro ⟨k, hk, h3⟩; exact ⟨k, by omega, by omega, by rw [getElem!_pos l k hk, h3]⟩
theorem idxF_pos (l : List DeviceOp) (f : DeviceOp → Bool) : decide ((0 : Int) ≤ idxF l f) = l.any f := by
  rw [Bool.eq_iff_iff, idxF, scan_pos (p := fun k => f l[k]!)]
  simp only [List.any_eq_true, List.mem_iff_getElem]
  constructor
  · rintro ⟨k, _, h2, h3⟩; exact ⟨l[k], ⟨k, by omega, rfl⟩, by rw [← getElem!_pos l k (by omega)]; exact h3⟩
  · rintro ⟨x, ⟨k, hk, rfl⟩, h3⟩; exact ⟨k, by omega, by omega, by rw [getElem!_pos l k hk]; exact h3⟩
/-- Where an operation belongs: behind those that are before it. -/
def tw2 (l : List DeviceOp) (o : DeviceOp) (f : DeviceOp → DeviceOp → Int) : Nat := (l.takeWhile (fun y => decide (f y o < 0))).length
def bsG (l : List DeviceOp) (o : DeviceOp) (f : DeviceOp → DeviceOp → Int) : Bool := decide (((tw2 l o f : Nat) : Int) < (l.length : Int)) && (f l[tw2 l o f]! o == 0)
theorem tw2_le (l : List DeviceOp) (o : DeviceOp) (f : DeviceOp → DeviceOp → Int) : tw2 l o f ≤ l.length := (List.takeWhile_sublist _).length_le
theorem tw2_eq {o : DeviceOp} {f : DeviceOp → DeviceOp → Int} : ∀ {l : List DeviceOp} {k : Nat}, k ≤ l.length → (∀ q, q < k → f l[q]! o < 0) → (k < l.length → 0 ≤ f l[k]! o) → tw2 l o f = k
  | [], k, hk, _, _ => by simp at hk; subst hk; rfl
  | a :: l, 0, _, _, h2 => by
    have := h2 (by simp)
    simp at this
    have hn : ¬ (f a o < 0) := by omega
    simp [tw2, hn]
  | a :: l, k + 1, hk, h1, h2 => by
    have h0 := h1 0 (by omega)
    simp at h0
    have ih := tw2_eq (o := o) (f := f) (l := l) (k := k) (by simpa using hk) (fun q hq => by have := h1 (q + 1) (by omega); simpa using this) (fun hk2 => by have := h2 (by simpa using hk2); simpa using this)
    unfold tw2 at ih ⊢
    simp [h0, ih]
theorem bs2_lo {l : List DeviceOp} {o : DeviceOp} {f : DeviceOp → DeviceOp → Int} {h : Nat} (hs : ∀ p q, p < q → q < l.length → f l[q]! o < 0 → f l[p]! o < 0) (h1 : f l[h]! o < 0) (hh : h < l.length) : ∀ q, q < h + 1 → f l[q]! o < 0 := by
  intro q hq
  by_cases hqh : q = h
  · subst hqh; exact h1
  · exact hs q h (by omega) hh h1
theorem bs2_hi {l : List DeviceOp} {o : DeviceOp} {f : DeviceOp → DeviceOp → Int} {h : Nat} (hs : ∀ p q, p < q → q < l.length → f l[q]! o < 0 → f l[p]! o < 0) (h1 : 0 ≤ f l[h]! o) : ∀ q, h ≤ q → q < l.length → 0 ≤ f l[q]! o := by
  intro q hq hql
  by_cases hqh : q = h
  · subst hqh; exact h1
  · have := hs h q (by omega) hql; omega
/-! ### the order -/
theorem cmpI_cases (a b : Int) : (a < b ∧ cmpI a b = -1) ∨ (a = b ∧ cmpI a b = 0) ∨ (b < a ∧ cmpI a b = 1) := by
  unfold cmpI
  by_cases h1 : a < b
  · exact .inl ⟨h1, if_pos h1⟩
  · by_cases h2 : b < a
    · exact .inr (.inr ⟨h2, by rw [if_neg h1, if_pos h2]⟩)
    · exact .inr (.inl ⟨by omega, by rw [if_neg h1, if_neg h2]⟩)
def keysM (o : DeviceOp) : List Int := [o.copy, o.token, o.device, o.no, o.kind, o.to]
/-- Of two lists of numbers, the first that differ. -/
def lexI : List Int → List Int → Int
  | a :: l, b :: m => if a < b then -1 else if b < a then 1 else lexI l m
  | _, _ => 0
theorem cmpM_lex (a b : DeviceOp) : cmpM a b = lexI (keysM a) (keysM b) := by
  have step : ∀ (m i : Nat) (l r : List Int), l.length = m → r.length = m → (∀ k, k < m → l[k]! = keyM ([0, 1, 2, 3, 4, 5] : List Nat)[i + k]! a) → (∀ k, k < m → r[k]! = keyM ([0, 1, 2, 3, 4, 5] : List Nat)[i + k]! b) →
      scan (fun k => if cmpI (keyM ([0, 1, 2, 3, 4, 5] : List Nat)[k]! a) (keyM ([0, 1, 2, 3, 4, 5] : List Nat)[k]! b) != 0 then some (cmpI (keyM ([0, 1, 2, 3, 4, 5] : List Nat)[k]! a) (keyM ([0, 1, 2, 3, 4, 5] : List Nat)[k]! b)) else none) 0 i m = lexI l r := by
    intro m
    induction m with
    | zero => intro i l r hl hr _ _; cases l <;> cases r <;> simp_all [scan, lexI]
    | succ m ih =>
      intro i l r hl hr h1 h2
      cases l with
      | nil => simp at hl
      | cons x l =>
        cases r with
        | nil => simp at hr
        | cons y r =>
          have e1 := h1 0 (by omega)
          have e2 := h2 0 (by omega)
          simp only [List.getElem!_cons_zero, Nat.add_zero] at e1 e2
          unfold scan lexI
          rw [← e1, ← e2]
          have ih' := ih (i + 1) l r (by simpa using hl) (by simpa using hr) (fun k hk => by have := h1 (k + 1) (by omega); rw [List.getElem!_cons_succ] at this; rw [this]; congr 2; omega) (fun k hk => by have := h2 (k + 1) (by omega); rw [List.getElem!_cons_succ] at this; rw [this]; congr 2; omega)
          rcases cmpI_cases x y with ⟨h, e⟩ | ⟨h, e⟩ | ⟨h, e⟩
          · rw [e, if_pos h]; rfl
          · subst h; rw [e, if_neg (show ¬ (x < x) by omega), if_neg (show ¬ (x < x) by omega)]; exact ih'
          · rw [e, if_neg (show ¬ (x < y) by omega), if_pos h]; rfl
  exact step 6 0 (keysM a) (keysM b) rfl rfl (by intro k hk; match k, hk with | 0, _ => rfl | 1, _ => rfl | 2, _ => rfl | 3, _ => rfl | 4, _ => rfl | 5, _ => rfl) (by intro k hk; match k, hk with | 0, _ => rfl | 1, _ => rfl | 2, _ => rfl | 3, _ => rfl | 4, _ => rfl | 5, _ => rfl)
theorem lexI_trans : ∀ (a b c : List Int), a.length = b.length → b.length = c.length → lexI a b < 0 → lexI b c ≤ 0 → lexI a c < 0
  | [], [], [], _, _, h, _ => by simp [lexI] at h
  | x :: a, y :: b, z :: c, h1, h2, h3, h4 => by
    unfold lexI at h3 h4 ⊢
    have ih := lexI_trans a b c (by simpa using h1) (by simpa using h2)
    by_cases xy : x < y
    · by_cases yz : z < y
      · rw [if_neg (by omega), if_pos yz] at h4; omega
      · rw [if_pos (by omega : x < z)]; omega
    · rw [if_neg xy] at h3
      by_cases yx : y < x
      · rw [if_pos yx] at h3; omega
      · rw [if_neg yx] at h3
        have e : x = y := by omega
        subst e
        by_cases yz : x < z
        · rw [if_pos yz]; omega
        · rw [if_neg yz] at h4 ⊢
          by_cases zy : z < x
          · rw [if_pos zy] at h4; omega
          · rw [if_neg zy] at h4 ⊢; exact ih h3 h4
  | [], _ :: _, _, h, _, _, _ => by simp at h
  | _ :: _, [], _, h, _, _, _ => by simp at h
  | _, [], _ :: _, _, h, _, _ => by simp at h
  | _, _ :: _, [], _, h, _, _ => by simp at h
theorem lexI_anti : ∀ (a b : List Int), lexI a b = - lexI b a
  | [], [] => rfl
  | [], _ :: _ => rfl
  | _ :: _, [] => rfl
  | x :: a, y :: b => by
    unfold lexI
    by_cases h1 : x < y
    · rw [if_pos h1, if_neg (by omega), if_pos h1]
    · by_cases h2 : y < x
      · rw [if_neg h1, if_pos h2, if_pos h2]; rfl
      · rw [if_neg h1, if_neg h2, if_neg h2, if_neg h1]; exact lexI_anti a b
theorem lexI_zero : ∀ (a b : List Int), a.length = b.length → lexI a b = 0 → a = b
  | [], [], _, _ => rfl
  | x :: a, y :: b, h, h0 => by
    unfold lexI at h0
    by_cases h1 : x < y
    · rw [if_pos h1] at h0; omega
    · by_cases h2 : y < x
      · rw [if_neg h1, if_pos h2] at h0; omega
      · rw [if_neg h1, if_neg h2] at h0
        rw [lexI_zero a b (by simpa using h) h0, show x = y by omega]
  | [], _ :: _, h, _ => by simp at h
  | _ :: _, [], h, _ => by simp at h
theorem cmp_anti (a b : DeviceOp) : cmpM a b = - cmpM b a := by rw [cmpM_lex, cmpM_lex]; exact lexI_anti _ _
theorem cmp_eq {a b : DeviceOp} (h : cmpM a b = 0) : a = b := by
  rw [cmpM_lex] at h
  have := lexI_zero (keysM a) (keysM b) rfl h
  simp only [keysM, List.cons.injEq] at this
  ext <;> simp_all
theorem cmp_self (a : DeviceOp) : cmpM a a = 0 := by have := cmp_anti a a; omega
theorem cmp_trans {a b c : DeviceOp} (h1 : cmpM a b < 0) (h2 : cmpM b c ≤ 0) : cmpM a c < 0 := by
  rw [cmpM_lex] at h1 h2 ⊢; exact lexI_trans (keysM a) (keysM b) (keysM c) rfl rfl h1 h2
/-! ### what a valid list is -/
def sortedM (l : List DeviceOp) : Prop := l.Pairwise (fun a b => cmpM a b < 0)
theorem check_ok {l : List DeviceOp} (h : checkM l = 0) : l.length ≤ 256 ∧ numberedM l = true ∧ ∀ k, k < l.length → opBad l k = false := by
  unfold checkM at h
  split at h
  · cases h
  · rename_i hh
    have hh : (decide (256 < (l.length : Int)) || !numberedM l) = false := by simpa using hh
    simp only [dbs] at hh
    have key : ∀ (m i : Nat), scan (fun k => if opBad l k then some (420 : Int) else none) 0 i m = 0 → ∀ k, i ≤ k → k < i + m → opBad l k = false := by
      intro m
      induction m with
      | zero => intro i _ k h1 h2; omega
      | succ m ih =>
        intro i hs k h1 h2
        unfold scan at hs
        cases hb : opBad l i with
        | true => rw [hb] at hs; simp at hs
        | false =>
          rw [hb] at hs
          by_cases e : k = i
          · subst e; exact hb
          · exact ih (i + 1) (by simpa using hs) k (by omega) (by omega)
    exact ⟨by omega, by simpa using hh.2, fun k hk => key _ 0 h k (by omega) (by omega)⟩
theorem check_two (l : List DeviceOp) : checkM l = 0 ∨ checkM l = 420 := by
  unfold checkM
  split
  · exact .inr rfl
  · have : ∀ (m i : Nat), scan (fun k => if opBad l k then some (420 : Int) else none) 0 i m = 0 ∨ scan (fun k => if opBad l k then some (420 : Int) else none) 0 i m = 420 := by
      intro m
      induction m with
      | zero => intro i; exact .inl rfl
      | succ m ih => intro i; unfold scan; cases opBad l i <;> simp [ih]
    exact this _ _
theorem opBad_f {l : List DeviceOp} {k : Nat} : opBad l k = false ↔ validM l[k]! = true ∧ (0 < k → cmpM l[k - 1]! l[k]! < 0) := by
  unfold opBad
  constructor
  · intro h
    simp only [dbs] at h
    exact ⟨by simpa using h.1, fun h0 => by have := h.2; omega⟩
  · rintro ⟨h1, h2⟩
    simp only [h1, Bool.not_true, Bool.false_or]
    by_cases h0 : 0 < k
    · have h3 := h2 h0
      rw [show decide (0 ≤ cmpM l[k - 1]! l[k]!) = false from decide_eq_false (by omega), Bool.and_false]
    · simp [h0]
theorem sorted_idx {l : List DeviceOp} (h : ∀ k, k < l.length → opBad l k = false) : ∀ p q, p < q → q < l.length → cmpM l[p]! l[q]! < 0 := by
  intro p q hpq hq
  induction q with
  | zero => omega
  | succ q ih =>
    have h1 := (opBad_f.1 (h (q + 1) hq)).2 (by omega)
    simp only [Nat.add_sub_cancel] at h1
    by_cases e : p = q
    · subst e; exact h1
    · have h2 := ih (by omega) (by omega)
      exact cmp_trans h2 (by omega)
theorem check_sorted {l : List DeviceOp} (h : checkM l = 0) : ∀ p q, p < q → q < l.length → cmpM l[p]! l[q]! < 0 := sorted_idx (check_ok h).2.2
theorem check_mono {l : List DeviceOp} (h : checkM l = 0) (o : DeviceOp) : ∀ p q, p < q → q < l.length → cmpM l[q]! o < 0 → cmpM l[p]! o < 0 := fun p q h1 h2 h3 => cmp_trans (check_sorted h p q h1 h2) (by omega)
def twM (l : List DeviceOp) (o : DeviceOp) : Nat := tw2 l o (fun a b => cmpM a b)
def insM (l : List DeviceOp) (o : DeviceOp) : List DeviceOp := l.take (twM l o) ++ [o] ++ l.drop (twM l o)
def addM (l : List DeviceOp) (o : DeviceOp) : List DeviceOp × Int :=
  if checkM l != 0 || !validM o then ([], 420) else if l.contains o then (l, 0) else if l.any (fun p => numM p == numM o) then ([], 420) else if (l.length : Int) == 256 then ([], 2) else (insM l o, 0)
theorem add_1 {l : List DeviceOp} {o : DeviceOp} (h : checkM l ≠ 0) : addM l o = ([], 420) := by unfold addM; rw [if_pos (by simp [h])]
theorem add_2 {l : List DeviceOp} {o : DeviceOp} (h : validM o = false) : addM l o = ([], 420) := by unfold addM; rw [if_pos (by simp [h])]
theorem add_3 {l : List DeviceOp} {o : DeviceOp} (h : checkM l = 0) (h1 : validM o = true) (h2 : l.contains o = true) : addM l o = (l, 0) := by unfold addM; rw [if_neg (by simp [h, h1]), if_pos h2]
theorem add_4 {l : List DeviceOp} {o : DeviceOp} (h : checkM l = 0) (h1 : validM o = true) (h2 : l.contains o = false) (h3 : l.any (fun p => numM p == numM o) = true) : addM l o = ([], 420) := by unfold addM; rw [if_neg (by simp [h, h1]), if_neg (by rw [h2]; simp), if_pos h3]
theorem add_5 {l : List DeviceOp} {o : DeviceOp} (h : checkM l = 0) (h1 : validM o = true) (h2 : l.contains o = false) (h3 : l.any (fun p => numM p == numM o) = false) (h4 : (l.length : Int) = 256) : addM l o = ([], 2) := by unfold addM; rw [if_neg (by simp [h, h1]), if_neg (by rw [h2]; simp), if_neg (by rw [h3]; simp), if_pos (by simp [h4])]
theorem add_6 {l : List DeviceOp} {o : DeviceOp} (h : checkM l = 0) (h1 : validM o = true) (h2 : l.contains o = false) (h3 : l.any (fun p => numM p == numM o) = false) (h4 : (l.length : Int) ≠ 256) : addM l o = (insM l o, 0) := by unfold addM; rw [if_neg (by simp [h, h1]), if_neg (by rw [h2]; simp), if_neg (by rw [h3]; simp), if_neg (by simpa using h4)]
/-! ### merging -/
def mergeL : List DeviceOp → List DeviceOp → List DeviceOp
  | [], b => b
  | x :: a, [] => x :: a
  | x :: a, y :: b => if cmpM x y < 0 then x :: mergeL a (y :: b) else if 0 < cmpM x y then y :: mergeL (x :: a) b else y :: mergeL a b
termination_by a b => a.length + b.length
theorem mergeL_nil (a : List DeviceOp) : mergeL a [] = a := by cases a <;> simp [mergeL]
theorem drop_head {l : List DeviceOp} {p : Nat} (h : 0 < (l.drop p).length) : l.drop p = (l.drop p)[0]! :: l.drop (p + 1) := by
  rw [List.length_drop] at h
  rw [List.drop_eq_getElem_cons (by omega : p < l.length)]; rfl
section
variable {a b : List DeviceOp} {p q : Nat}
theorem ms1 (h1 : ((a.drop p).length : Int) = 0) (h2 : 0 < (b.drop q).length) : mergeL (a.drop p) (b.drop q) = (b.drop q)[0]! :: mergeL (a.drop p) (b.drop (q + 1)) := by
  have e : a.drop p = [] := List.eq_nil_of_length_eq_zero (by omega)
  rw [e, mergeL, mergeL]; exact drop_head h2
theorem ms2 (h1 : 0 < (a.drop p).length) (h2 : ((b.drop q).length : Int) = 0) : mergeL (a.drop p) (b.drop q) = (a.drop p)[0]! :: mergeL (a.drop (p + 1)) (b.drop q) := by
  have e : b.drop q = [] := List.eq_nil_of_length_eq_zero (by omega)
  rw [e, mergeL_nil, mergeL_nil]; exact drop_head h1
theorem ms3 (h1 : 0 < (a.drop p).length) (h2 : 0 < (b.drop q).length) (h : cmpM (a.drop p)[0]! (b.drop q)[0]! < 0) : mergeL (a.drop p) (b.drop q) = (a.drop p)[0]! :: mergeL (a.drop (p + 1)) (b.drop q) := by
  conv => lhs; rw [drop_head h1, drop_head h2, mergeL]
  rw [if_pos h, ← drop_head h2]
theorem ms4 (h1 : 0 < (a.drop p).length) (h2 : 0 < (b.drop q).length) (h : (0 : Int) < cmpM (a.drop p)[0]! (b.drop q)[0]!) : mergeL (a.drop p) (b.drop q) = (b.drop q)[0]! :: mergeL (a.drop p) (b.drop (q + 1)) := by
  conv => lhs; rw [drop_head h1, drop_head h2, mergeL]
  rw [if_neg (by omega), if_pos h, ← drop_head h1]
theorem ms5 (h1 : 0 < (a.drop p).length) (h2 : 0 < (b.drop q).length) (h : cmpM (a.drop p)[0]! (b.drop q)[0]! = 0) : mergeL (a.drop p) (b.drop q) = (b.drop q)[0]! :: mergeL (a.drop (p + 1)) (b.drop (q + 1)) := by
  conv => lhs; rw [drop_head h1, drop_head h2, mergeL]
  rw [if_neg (by omega), if_neg (by omega)]
end
def mergeM (a b : List DeviceOp) : List DeviceOp × Int :=
  if checkM a != 0 || checkM b != 0 then ([], 420) else if !numberedM (mergeL a b) then ([], 420) else if decide (256 < ((mergeL a b).length : Int)) then ([], 2) else (mergeL a b, 0)
theorem merge_1 {a b : List DeviceOp} (h : checkM a ≠ 0) : mergeM a b = ([], 420) := by unfold mergeM; rw [if_pos (by simp [h])]
theorem merge_2 {a b : List DeviceOp} (h : checkM b ≠ 0) : mergeM a b = ([], 420) := by unfold mergeM; rw [if_pos (by simp [h])]
theorem merge_3 {a b : List DeviceOp} (h : checkM a = 0) (h1 : checkM b = 0) (h2 : numberedM (mergeL a b) = false) : mergeM a b = ([], 420) := by unfold mergeM; rw [if_neg (by simp [h, h1]), if_pos (by simp [h2])]
theorem merge_4 {a b : List DeviceOp} (h : checkM a = 0) (h1 : checkM b = 0) (h2 : numberedM (mergeL a b) = true) (h3 : 256 < ((mergeL a b).length : Int)) : mergeM a b = ([], 2) := by unfold mergeM; rw [if_neg (by simp [h, h1]), if_neg (by simp [h2]), if_pos (by simpa using h3)]
theorem merge_5 {a b : List DeviceOp} (h : checkM a = 0) (h1 : checkM b = 0) (h2 : numberedM (mergeL a b) = true) (h3 : ((mergeL a b).length : Int) ≤ 256) : mergeM a b = (mergeL a b, 0) := by unfold mergeM; rw [if_neg (by simp [h, h1]), if_neg (by simp [h2]), if_neg (by simp; omega)]
/-! ### where the copies are -/
def hold0 (c first : Int) : Holding := ⟨c, first, 0, false⟩
def performM (first : Int) (M : Int → Option Holding) (o : DeviceOp) : Int → Option Holding :=
  let at_ := (M o.copy).getD (hold0 o.copy first)
  if ((o.token != at_.token + 1 || o.device != at_.device) || at_.shown) then M
  else upM M o.copy (if o.kind == 2 then ⟨at_.copy, at_.device, o.token, true⟩ else ⟨at_.copy, o.to, o.token, at_.shown⟩)
def mapM (l : List DeviceOp) (first : Int) : Nat → Int → Option Holding
  | 0 => noM
  | k + 1 => performM first (mapM l first k) l[k]!
def holdM (l : List DeviceOp) (first : Int) (c : Int) : Holding := (mapM l first l.length c).getD (hold0 c first)
def holdsM (l : List DeviceOp) (first : Int) (n : Nat) : List Holding := (List.range n).map fun (c : Nat) => holdM l first (c : Int)
theorem holdsM_succ (l : List DeviceOp) (first : Int) (n : Nat) : holdsM l first (n + 1) = holdsM l first n ++ [holdM l first (n : Int)] := by simp [holdsM, List.range_succ]
def stateM (l : List DeviceOp) (copies first : Int) : List Holding × Int :=
  if checkM l != 0 then ([], 420) else if (decide (copies < 0) || decide (1024 < copies)) || !isDevM first then ([], 1) else (holdsM l first copies.toNat, 0)
def mayM (l : List DeviceOp) (copies first device copy : Int) : Bool × Int :=
  if (stateM l copies first).2 != 0 then (false, (stateM l copies first).2) else if (!isDevM device || decide (copy < 0)) || decide (copies ≤ copy) then (false, 1)
  else ((stateM l copies first).1[copy.toNat]!.device == device && !(stateM l copies first).1[copy.toNat]!.shown, 0)
end Go.Proofs.Ytjpniibleelgiaa
