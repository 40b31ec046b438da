/- Polynomials over the field with 256 elements: values, roots, uniqueness. -/
import Derived.Test.YteajcgfcnbdmgaaMaB
set_option linter.unusedSimpArgs false
set_option linter.unusedVariables false
namespace Go.Proofs.Yteajcgfcnbdmgaa
open Go.Fw

theorem gmul_lc (a b c : UInt8) : gmul a (gmul b c) = gmul b (gmul a c) := by rw [← gmul_assoc, gmul_comm a b, gmul_assoc]
theorem pev_nil (x : UInt8) : pev [] x = 0 := rfl
theorem pev_cons (c : UInt8) (l : List UInt8) (x : UInt8) : pev (c :: l) x = gmul (pev l x) x ^^^ c := rfl
theorem get_nil (i : Nat) : ([] : List UInt8)[i]! = 0 := rfl
theorem get_zero (c : UInt8) (l : List UInt8) : (c :: l)[0]! = c := rfl
theorem get_succ (c : UInt8) (l : List UInt8) (i : Nat) : (c :: l)[i + 1]! = l[i]! := by simp
theorem get_out {l : List UInt8} {i : Nat} (h : l.length ≤ i) : l[i]! = 0 := by
  rw [getElem!_def, List.getElem?_eq_none h]; rfl
theorem pev_zero : ∀ (l : List UInt8), (∀ i : Nat, l[i]! = 0) → ∀ x, pev l x = 0
  | [], _, _ => rfl
  | c :: l, h, x => by
    have h0 : c = 0 := h 0
    rw [pev_cons, pev_zero l (fun i => by have := h (i + 1); rwa [get_succ] at this) x, zero_gmul, h0]; rfl
/-- Equal coefficients, equal values. -/
theorem pev_congr : ∀ (l m : List UInt8), (∀ i : Nat, l[i]! = m[i]!) → ∀ x, pev l x = pev m x
  | [], m, h, x => by rw [pev_zero m (fun i => by rw [← h i]; rfl) x]; rfl
  | c :: l, [], h, x => by rw [pev_zero (c :: l) (fun i => by rw [h i]; rfl) x]; rfl
  | c :: l, d :: m, h, x => by
    have h0 : c = d := h 0
    rw [pev_cons, pev_cons, pev_congr l m (fun i => by have := h (i + 1); rwa [get_succ, get_succ] at this) x, h0]
theorem pev_add : ∀ (l m r : List UInt8), (∀ i : Nat, r[i]! = l[i]! ^^^ m[i]!) → ∀ x, pev r x = pev l x ^^^ pev m x
  | l, m, [], h, x => by
    have h1 : ∀ i : Nat, l[i]! = m[i]! := fun i => xor_eq_zero.1 ((h i).symm.trans (get_nil i))
    rw [pev_congr l m h1 x, xor_self]; rfl
  | [], m, r, h, x => by rw [pev_congr r m (fun i => by rw [h i, get_nil, zero_xor]) x, pev_nil, zero_xor]
  | l, [], r, h, x => by rw [pev_congr r l (fun i => by rw [h i, get_nil, xor_zero]) x, pev_nil, xor_zero]
  | a :: l, b :: m, c :: r, h, x => by
    have h0 : c = a ^^^ b := h 0
    rw [pev_cons, pev_cons, pev_cons, pev_add l m r (fun i => by have := h (i + 1); rwa [get_succ, get_succ, get_succ] at this) x, add_gmul, h0, xor4]
theorem pev_mul (k : UInt8) : ∀ (l r : List UInt8), (∀ i : Nat, r[i]! = gmul l[i]! k) → ∀ x, pev r x = gmul (pev l x) k
  | l, [], h, x => by
    by_cases hk : k = 0
    · rw [hk, gmul_zero]; rfl
    · rw [pev_zero l (fun i => by
        have := (h i).symm.trans (get_nil i)
        exact (gmul_eq_zero.1 this).resolve_right hk) x, zero_gmul]; rfl
  | [], r, h, x => by rw [pev_zero r (fun i => by rw [h i, get_nil, zero_gmul]) x, pev_nil, zero_gmul]
  | a :: l, c :: r, h, x => by
    have h0 : c = gmul a k := h 0
    rw [pev_cons, pev_cons, pev_mul k l r (fun i => by have := h (i + 1); rwa [get_succ, get_succ] at this) x, add_gmul, h0, gmul_assoc, gmul_comm k x, ← gmul_assoc]
theorem pev_snoc (c x : UInt8) : ∀ (l : List UInt8), pev (l ++ [c]) x = pev l x ^^^ gmul c (gpow x l.length)
  | [] => by simp [pev, gpow, gmul_one, zero_gmul]
  | a :: l => by
    rw [List.cons_append, pev_cons, pev_snoc c x l, pev_cons, add_gmul, gmul_assoc, xor_a, xor_a, xor_c a]
    rfl
theorem refEvalP_eq (l : List UInt8) (x : UInt8) : ∀ k, k ≤ l.length → refEvalP l x k = (pev (l.take k) x, gpow x k)
  | 0, _ => rfl
  | k + 1, h => by
    have ih := refEvalP_eq l x k (by omega)
    unfold refEvalP
    rw [ih, take_snoc (by omega), pev_snoc, List.length_take, Nat.min_eq_left (by omega), refMul_eq, refMul_eq]
    rfl
theorem refEval_eq (l : List UInt8) (x : UInt8) : refEval l x = pev l x := by
  unfold refEval; rw [refEvalP_eq l x _ (Nat.le_refl _), List.take_length]

/-! ### division by x + r -/
def sd (r : UInt8) : List UInt8 → List UInt8
  | [] => []
  | _ :: l => pev l r :: sd r l
theorem sd_get (r : UInt8) : ∀ (l : List UInt8) (i : Nat), (sd r l)[i]! = pev (l.drop (i + 1)) r
  | [], i => by rw [List.drop_nil]; rfl
  | c :: l, 0 => rfl
  | c :: l, i + 1 => by rw [sd, get_succ, sd_get r l i]; rfl
theorem sd_ident (r x : UInt8) : ∀ (l : List UInt8), pev l x = gmul (x ^^^ r) (pev (sd r l) x) ^^^ pev l r
  | [] => by simp [sd, pev, gmul_zero]
  | c :: l => by
    have ih := sd_ident r x l
    have e : gmul (pev l x) x = gmul (x ^^^ r) (pev (sd r (c :: l)) x) ^^^ gmul (pev l r) r := by
      rw [ih]
      show _ = gmul (x ^^^ r) (gmul (pev (sd r l) x) x ^^^ pev l r) ^^^ gmul (pev l r) r
      rw [add_gmul, gmul_add (x ^^^ r), gmul_assoc, xor_a, add_gmul x r (pev l r), xor_a, gmul_comm r (pev l r), xor_self, xor_zero, gmul_comm x (pev l r)]
    rw [pev_cons, pev_cons, e, xor_a]
theorem get_drop (l : List UInt8) (i j : Nat) : (l.drop i)[j]! = l[i + j]! := by
  rw [getElem!_def, getElem!_def, List.getElem?_drop]
theorem pev_head (l : List UInt8) (r : UInt8) (i : Nat) : pev (l.drop i) r = gmul (pev (l.drop (i + 1)) r) r ^^^ l[i]! := by
  by_cases h : i < l.length
  · exact pev_drop h
  · rw [List.drop_eq_nil_of_le (by omega), List.drop_eq_nil_of_le (by omega), get_out (by omega), pev_nil, zero_gmul]; rfl
/-- A polynomial with as many roots as coefficients is 0. -/
theorem roots_zero : ∀ (xs : List UInt8), xs.Nodup → ∀ (l : List UInt8), (∀ i : Nat, xs.length ≤ i → l[i]! = 0) → (∀ x ∈ xs, pev l x = 0) → ∀ i : Nat, l[i]! = 0
  | [], _, l, h, _ => fun i => h i (Nat.zero_le _)
  | r :: xs, hn, l, h, hx => by
    obtain ⟨hr, hn'⟩ := List.nodup_cons.1 hn
    have hpr : pev l r = 0 := hx r (by simp)
    have hq : ∀ i : Nat, (sd r l)[i]! = 0 := roots_zero xs hn' (sd r l) (fun i hi => by
        rw [sd_get]
        exact pev_zero _ (fun j => by rw [get_drop]; exact h _ (by simp; omega)) r) (fun x hxs => by
        have h1 := sd_ident r x l
        rw [hx x (by simp [hxs]), hpr, xor_zero] at h1
        rcases gmul_eq_zero.1 h1.symm with h2 | h2
        · exact absurd (xor_eq_zero.1 h2) (fun e => hr (e ▸ hxs))
        · exact h2)
    intro i
    have hi : pev (l.drop i) r = 0 := by
      cases i with
      | zero => exact hpr
      | succ i => rw [← sd_get]; exact hq i
    have h2 := pev_head l r i
    rw [hi, ← sd_get, hq i, zero_gmul, zero_xor] at h2
    exact h2.symm
/-- Points determine exactly one polynomial. -/
theorem interp_unique {xs : List UInt8} (hn : xs.Nodup) {l m : List UInt8} (hl : ∀ i : Nat, xs.length ≤ i → l[i]! = 0) (hm : ∀ i : Nat, xs.length ≤ i → m[i]! = 0) (h : ∀ x ∈ xs, pev l x = pev m x) : ∀ i : Nat, l[i]! = m[i]! := by
  intro i
  have hd : ∃ d : List UInt8, ∀ i : Nat, d[i]! = l[i]! ^^^ m[i]! := by
    refine ⟨(List.range (max l.length m.length)).map fun i => l[i]! ^^^ m[i]!, fun i => ?_⟩
    by_cases hi : i < max l.length m.length
    · rw [getElem!_pos _ i (by simpa using hi)]; simp
    · rw [get_out (by simpa using hi), get_out (l := l) (by omega), get_out (l := m) (by omega)]; rfl
  obtain ⟨d, hd⟩ := hd
  have := roots_zero xs hn d (fun i hi => by rw [hd, hl i hi, hm i hi]; rfl) (fun x hx => by rw [pev_add l m d hd, h x hx, xor_self]) i
  rw [hd] at this
  exact xor_eq_zero.1 this
theorem ext_get {l m : List UInt8} (hlen : l.length = m.length) (h : ∀ i : Nat, l[i]! = m[i]!) : l = m := by
  apply List.ext_getElem hlen
  intro i h1 h2
  have := h i
  rwa [getElem!_pos l i h1, getElem!_pos m i h2] at this
end Go.Proofs.Yteajcgfcnbdmgaa
