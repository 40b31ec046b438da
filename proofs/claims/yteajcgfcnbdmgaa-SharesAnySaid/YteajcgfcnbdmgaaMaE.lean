/- What the laws of chapter 7 reckon, and why each answer is true. -/
import Derived.Test.YteajcgfcnbdmgaaMaD
set_option linter.unusedSimpArgs false
set_option linter.unusedVariables false
namespace Go.Proofs.Yteajcgfcnbdmgaa
open Go.Fw

def tab (n : Nat) (f : Nat → UInt8) : List UInt8 := (List.range n).map f
theorem tab_zero (f : Nat → UInt8) : tab 0 f = [] := rfl
theorem tab_succ (n : Nat) (f : Nat → UInt8) : tab (n + 1) f = tab n f ++ [f n] := by simp [tab, List.range_succ]
theorem tab_len (n : Nat) (f : Nat → UInt8) : (tab n f).length = n := by simp [tab]
theorem tab_get (n : Nat) (f : Nat → UInt8) (i : Nat) : (tab n f)[i]! = if i < n then f i else 0 := by
  by_cases h : i < n
  · rw [if_pos h, getElem!_pos _ i (by rw [tab_len]; exact h)]; simp [tab]
  · rw [if_neg h, get_out (by rw [tab_len]; omega)]
theorem take_get (l : List UInt8) (n i : Nat) : (l.take n)[i]! = if i < n then l[i]! else 0 := by
  rw [getElem!_def, List.getElem?_take]
  by_cases h : i < n
  · rw [if_pos h, if_pos h, getElem!_def]
  · rw [if_neg h, if_neg h]; rfl
theorem sum_pev (l m : List UInt8) (n : Nat) (x : UInt8) : pev (tab n fun i => l[i]! ^^^ m[i]!) x = pev (l.take n) x ^^^ pev (m.take n) x :=
  pev_add _ _ _ (fun i => by
    rw [tab_get, take_get, take_get]
    split <;> simp) x
theorem mul_pev (l : List UInt8) (a : UInt8) (n : Nat) (x : UInt8) : pev (tab n fun i => gmul a l[i]!) x = gmul a (pev (l.take n) x) := by
  rw [gmul_comm a, pev_mul a (l.take n) _ (fun i => by
    rw [tab_get, take_get]
    split
    · rw [gmul_comm]
    · rw [zero_gmul]) x]
theorem pev_pad (l : List UInt8) (x : UInt8) : pev (l ++ [0, 0]) x = pev l x :=
  pev_congr _ _ (fun i => by
    rw [get_append]
    by_cases h : i < l.length
    · rw [if_pos h]
    · rw [if_neg h, get_out (l := l) (by omega)]
      match i - l.length with
      | 0 => rfl
      | 1 => rfl
      | n + 2 => rfl) x
theorem coeff_right {xs ys : List UInt8} (h : (coeff xs ys).2 = 0) : wrongM xs ys = false := by
  cases hw : wrongM xs ys with
  | false => rfl
  | true => rw [coeff_bad hw] at h; simp at h
theorem coeff_wrong {xs ys : List UInt8} (h : (coeff xs ys).2 ≠ 0) : wrongM xs ys = true := by
  cases hw : wrongM xs ys with
  | true => rfl
  | false => exact absurd (coeff_ok hw).1 h
theorem through_right {xs ys : List UInt8} {x : UInt8} (h : (through xs ys x).2 = 0) : wrongM xs ys = false := by
  cases hw : wrongM xs ys with
  | false => rfl
  | true => rw [through_bad x hw] at h; simp at h
theorem through_wrong {xs ys : List UInt8} {x : UInt8} (h : (through xs ys x).2 ≠ 0) : wrongM xs ys = true := by
  cases hw : wrongM xs ys with
  | true => rfl
  | false => rw [through_ok x hw] at h; exact absurd rfl h
/-- The values of a polynomial at places lead back to it. -/
theorem vals_coeff {l xs : List UInt8} (hl : l.length ≤ xs.length) (h : wrongM xs (tab xs.length fun i => pev l xs[i]!) = false) (i : Nat) : (coeff xs (tab xs.length fun i => pev l xs[i]!)).1[i]! = l[i]! := by
  obtain ⟨_, ht, _, hn⟩ := coeff_ok h
  exact ht.unique hn (fun i hi => get_out (by omega)) (fun i hi => by rw [tab_get, if_pos hi]) i
theorem vals_pev {l xs : List UInt8} (hl : l.length ≤ xs.length) (h : wrongM xs (tab xs.length fun i => pev l xs[i]!) = false) (x : UInt8) : pev (coeff xs (tab xs.length fun i => pev l xs[i]!)).1 x = pev l x :=
  pev_congr _ _ (vals_coeff hl h) x
def sameS (m xs ys : List UInt8) : Nat → Bool
  | 0 => decide ((m.length : Int) ≤ (xs.length : Int))
  | k + 1 => if sameS m xs ys k then pev m xs[k]! == ys[k]! else false
theorem sameS_all {m xs ys : List UInt8} : ∀ k, sameS m xs ys k = true → m.length ≤ xs.length ∧ ∀ i, i < k → pev m xs[i]! = ys[i]!
  | 0, h => ⟨by have := of_decide_eq_true h; omega, fun i hi => by omega⟩
  | k + 1, h => by
    unfold sameS at h
    split at h
    · rename_i h1
      obtain ⟨h2, h3⟩ := sameS_all k h1
      refine ⟨h2, fun i hi => ?_⟩
      by_cases hik : i < k
      · exact h3 i hik
      · obtain rfl : i = k := by omega
        simpa using h
    · cases h
theorem same_coeff {m xs ys : List UInt8} (hw : wrongM xs ys = false) (h : sameS m xs ys xs.length = true) (i : Nat) : (coeff xs ys).1[i]! = m[i]! := by
  obtain ⟨_, ht, _, hn⟩ := coeff_ok hw
  obtain ⟨h1, h2⟩ := sameS_all _ h
  exact ht.unique hn (fun i hi => get_out (by omega)) h2 i
end Go.Proofs.Yteajcgfcnbdmgaa
