/- Shares: the laws of chapter 8, said of lists. No program in sight. -/
import Derived.Test.YteajcgfcnbdmgaaMaV
set_option linter.unusedSimpArgs false
set_option linter.unusedVariables false
namespace Go.Proofs.Yteajcgfcnbdmgaa
open Go.Fw

/-- A full list of shares that lead to a secret. -/
structure Spl (secret : List UInt8) (ep t m : Int) (l : List Share) : Prop where
  num : Num ep t m secret.length
  full : Full m l
  ex : ∃ P, On P ep t m secret.length l ∧ (∀ p, p < secret.length → ∀ i : Nat, t.toNat ≤ i → (P p)[i]! = 0) ∧ ∀ p, p < secret.length → pev (P p) 0 = secret[p]!
theorem spl_split {secret : List UInt8} {ep t m : Int} {coins : List UInt8} (h : (splitM secret ep t m coins).2 = 0) : Spl secret ep t m (splitM secret ep t m coins).1 := by
  have hr := splitM_right h
  rw [hr.2]
  exact ⟨split_num hr.1, split_full _ _ _ _ _, pol secret coins t, split_on hr.1, pol_high hr.1, fun p _ => pol_at0 _ _ _ _⟩
theorem Spl.len {secret : List UInt8} {ep t m : Int} {l : List Share} (h : Spl secret ep t m l) : (l.length : Int) = m := by
  have := h.num.tm; have := h.num.t1; rw [h.full.1]; omega
theorem Spl.join {secret : List UInt8} {ep t m : Int} {l : List Share} (h : Spl secret ep t m l) (mask : UInt8) (hx : t ≤ ((someM l mask l.length).length : Int)) : joinM (someM l mask l.length) = (secret, 0) := by
  obtain ⟨P, h1, h2, h3⟩ := h.ex
  rw [(h1.some mask).join h.num hx h2]
  congr 1
  refine Eq.trans (List.map_congr_left fun p hp => h3 p (by simpa using hp)) (range_get secret)
theorem Spl.few {secret : List UInt8} {ep t m : Int} {l : List Share} (h : Spl secret ep t m l) (mask : UInt8) (hpos : 0 < (someM l mask l.length).length) (hx : ((someM l mask l.length).length : Int) < t) : joinM (someM l mask l.length) = ([], 80) := by
  obtain ⟨P, h1, _⟩ := h.ex
  exact (h1.some mask).few h.num hpos hx
theorem Spl.many {secret : List UInt8} {ep t m : Int} {l : List Share} (h : Spl secret ep t m l) (mask : UInt8) (other : List UInt8) (hpos : 0 < (someM l mask l.length).length) (hx : t ≤ ((someM l mask l.length).length : Int)) : explainM (someM l mask l.length) other = ([], 80) := by
  obtain ⟨P, h1, _⟩ := h.ex
  have h2 := h1.some mask
  exact explainM_many ((check_iff _).2 (h2.vd h.num hpos)) (by rw [h2.th 0 hpos]; exact hx) rfl
theorem Spl.explain {secret : List UInt8} {ep t m : Int} {l : List Share} (h : Spl secret ep t m l) (mask : UInt8) {other : List UInt8} (ho : other.length = secret.length) (hpos : 0 < (someM l mask l.length).length) (hx : ((someM l mask l.length).length : Int) < t) :
    (explainM (someM l mask l.length) other).2 = 0 ∧ (splitM other ep t m (explainM (someM l mask l.length) other).1).2 = 0 ∧
      someM (splitM other ep t m (explainM (someM l mask l.length) other).1).1 mask (splitM other ep t m (explainM (someM l mask l.length) other).1).1.length = someM l mask l.length := by
  obtain ⟨P, h1, _⟩ := h.ex
  have := explain_all h1 h.full h.num mask ho hpos hx
  refine ⟨this.1, by rw [splitM_snd]; exact this.2.1, ?_⟩
  have hr := splitM_right (show (splitM other ep t m (explainM (someM l mask l.length) other).1).2 = 0 by rw [splitM_snd]; exact this.2.1)
  rw [hr.2]
  exact this.2.2
theorem Spl.da {secret : List UInt8} {ep t m : Int} {l : List Share} (h : Spl secret ep t m l) {i : Nat} (hi : i < l.length) : l[i]!.data.length = secret.length := by
  obtain ⟨P, h1, _⟩ := h.ex
  exact h1.da i hi
/-! ### sums -/
def padd (l m : List UInt8) : List UInt8 := tab (max l.length m.length) fun i => l[i]! ^^^ m[i]!
theorem padd_get (l m : List UInt8) (i : Nat) : (padd l m)[i]! = l[i]! ^^^ m[i]! := by
  unfold padd; rw [tab_get]
  split
  · rfl
  · rw [get_out (by omega), get_out (by omega)]; rfl
theorem padd_pev (l m : List UInt8) (x : UInt8) : pev (padd l m) x = pev l x ^^^ pev m x := pev_add _ _ _ (padd_get l m) x
def sumShare (l m : List Share) (n i : Nat) : Share := ⟨l[i]!.epoch, l[i]!.index, l[i]!.threshold, l[i]!.many, tab n fun k => l[i]!.data[k]! ^^^ m[i]!.data[k]!⟩
def sumL (l m : List Share) (n q : Nat) : List Share := (List.range q).map (sumShare l m n)
theorem sumL_succ (l m : List Share) (n q : Nat) : sumL l m n (q + 1) = sumL l m n q ++ [sumShare l m n q] := by simp [sumL, List.range_succ]
theorem sumL_len (l m : List Share) (n q : Nat) : (sumL l m n q).length = q := by simp [sumL]
theorem sumL_get {l m : List Share} {n q i : Nat} (h : i < q) : (sumL l m n q)[i]! = sumShare l m n i := map_getB _ _ _ h
theorem Spl.ixs {a b : List UInt8} {ep t m : Int} {l k : List Share} (h : Spl a ep t m l) (h' : Spl b ep t m k) {j : Nat} (hj : j < l.length) : k[j]!.index = l[j]!.index := by
  rw [h.full.2 j hj, h'.full.2 j (by rw [h'.full.1, ← h.full.1]; exact hj)]
theorem spl_sum {a b : List UInt8} {ep t m : Int} {l k : List Share} (h : Spl a ep t m l) (h' : Spl b ep t m k) (hab : a.length = b.length) : joinM (sumL l k a.length l.length) = ((tab a.length fun i => a[i]! ^^^ b[i]!), 0) := by
  obtain ⟨P, h1, h2, h3⟩ := h.ex
  obtain ⟨Q, k1, k2, k3⟩ := h'.ex
  have hlk : l.length = k.length := by rw [h.full.1, h'.full.1]
  have hon : On (fun p => padd (P p) (Q p)) ep t m a.length (sumL l k a.length l.length) := by
    refine ⟨fun j hj => ?_, fun j hj => ?_, fun j hj => ?_, fun j hj => ?_, fun j hj => ?_, fun i j hij hj => ?_, fun j hj p hp => ?_⟩ <;> rw [sumL_len] at hj
    · rw [sumL_get hj]; exact h1.ep j hj
    · rw [sumL_get hj]; exact h1.th j hj
    · rw [sumL_get hj]; exact h1.ma j hj
    · rw [sumL_get hj]; exact tab_len _ _
    · rw [sumL_get hj]; exact h1.ix j hj
    · rw [sumL_get hj, sumL_get (by omega)]; exact h1.inc i j hij hj
    · rw [sumL_get hj]; simp only [sumShare]; rw [tab_get, if_pos hp, padd_pev, h1.val j hj p hp, k1.val j (by omega) p (by omega), h.ixs h' hj]
  have htm := h.num.tm
  rw [hon.join h.num (by rw [sumL_len, h.len]; exact htm) (fun p hp i hi => by rw [padd_get, h2 p hp i hi, k2 p (by omega) i hi]; rfl)]
  congr 1
  refine List.map_congr_left fun p hp => ?_
  have hp : p < a.length := by simpa using hp
  rw [padd_pev, h3 p hp, k3 p (by omega)]
end Go.Proofs.Yteajcgfcnbdmgaa
