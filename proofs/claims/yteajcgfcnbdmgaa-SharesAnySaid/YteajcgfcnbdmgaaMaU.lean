/- Shares: explaining and refreshing, and that the two programs agree. -/
import Derived.Test.YteajcgfcnbdmgaaMaT
set_option linter.unusedSimpArgs false
set_option linter.unusedVariables false
namespace Go.Proofs.Yteajcgfcnbdmgaa
open Go.Fw

section
open Go.RowKit
theorem box_at {w : World} {b T : Nat} {c : Value} {a : Addr} {v : Value} (hb : Box w b T [c]) (h : w.cell? a = some v) (e : a.block = b) : a.off = 0 ∧ v = c := by
  have hs := World.cell?_spot h
  have ha : a = ⟨b, a.off, none⟩ := by cases a; simp_all
  rw [ha, hb.cell] at h
  match hq : a.off with
  | 0 => rw [hq] at h; exact ⟨rfl, by simpa using h.symm⟩
  | n + 1 => rw [hq] at h; simp at h
theorem avoid_u8 {w : World} {O : List Nat} {v : Value} {l : List UInt8} {b T : Nat} (h : RdL Enc.u8 w O v l) (hb : Box w b T [.slice none 0 0]) : RdL Enc.u8 w (b :: O) v l := by
  obtain ⟨A, c, rfl, h2, h3, h4⟩ := h
  refine ⟨A, c, rfl, h2, h3, fun i x hi => ?_⟩
  obtain ⟨ad, cs, e, ⟨c1, c2, c3⟩, hr⟩ := h4 i x hi
  refine ⟨ad, cs, e, ⟨c1, fun hm => ?_, c3⟩, hr⟩
  rcases List.mem_cons.1 hm with h | h
  · have hr : cs = [vB x] := hr
    subst hr
    have := (box_at hb (c3 0 (vB x) rfl) (by simpa [Addr.add] using h)).2
    cases this
  · exact c2 h
theorem avoid_share {w : World} {O : List Nat} {v : Value} {l : List Share} {b T : Nat} (h : RdL Enc.share w O v l) (hb : Box w b T [.slice none 0 0]) : RdL Enc.share w (b :: O) v l := by
  obtain ⟨A, c, rfl, h2, h3, h4⟩ := h
  refine ⟨A, c, rfl, h2, h3, fun i x hi => ?_⟩
  obtain ⟨ad, cs, e, ⟨c1, c2, c3⟩, hr⟩ := h4 i x hi
  obtain ⟨d4, hcs, r4⟩ := hr
  refine ⟨ad, cs, e, ⟨c1, fun hm => ?_, c3⟩, d4, hcs, avoid_u8 r4 hb⟩
  rcases List.mem_cons.1 hm with h | h
  · subst hcs
    have := (box_at hb (c3 1 (vI x.index) rfl) (by simpa [Addr.add] using h)).2
    cases this
  · exact c2 h
end
theorem ptX_succ (l : List Share) (n : Nat) : ptX l (n + 1) = ptX l n ++ [u8of l[n]!.index] := by simp [ptX, List.range_succ]
theorem ptY_succ (l : List Share) (p n : Nat) : ptY l p (n + 1) = ptY l p n ++ [l[n]!.data[p]!] := by simp [ptY, List.range_succ]
theorem ptX_len (l : List Share) (n : Nat) : (ptX l n).length = n := by simp [ptX]
theorem ptY_len (l : List Share) (p n : Nat) : (ptY l p n).length = n := by simp [ptY]
theorem ptX_all (l : List Share) : ptX l l.length = idxM l := rfl
theorem ptY_all (l : List Share) (p : Nat) : ptY l p l.length = colM l p := rfl
theorem refJoinL_succ (l : List Share) (n : Nat) : refJoinL l (n + 1) = refJoinL l n ++ [(refThrough (ptX (l.take l[0]!.threshold.toNat) (l.take l[0]!.threshold.toNat).length) (ptY (l.take l[0]!.threshold.toNat) n (l.take l[0]!.threshold.toNat).length) 0).1] := by
  rw [ptX_all, ptY_all]; exact tab_succ _ _
theorem expX_zero (l : List Share) : expX l 0 = [(0 : UInt8)] ++ idxM l := by simp [expX]
theorem expX_succ (l : List Share) (m : Nat) : expX l (m + 1) = expX l m ++ [u8of (9 + (m : Int))] := by simp [expX, List.range_succ]
theorem expY_eq {l : List Share} {b : UInt8} {p T : Nat} (h : l.length < T) :
    ((List.replicate T (0 : UInt8)).set 0 b).take 1 ++ (colM l p).take (((List.replicate T (0 : UInt8)).set 0 b).length - 1) ++ ((List.replicate T (0 : UInt8)).set 0 b).drop (1 + (colM l p).length) = expY l b p (T - 1 - l.length) := by
  obtain ⟨S, rfl⟩ : ∃ S, T = S + 1 := ⟨T - 1, by omega⟩
  rw [List.replicate_succ, List.set_cons_zero]
  have h1 : (colM l p).take S = colM l p := List.take_of_length_le (by rw [colM_len]; omega)
  simp only [List.take_succ_cons, List.take_zero, List.length_cons, List.length_replicate, Nat.add_sub_cancel, h1, colM_len]
  rw [show 1 + l.length = l.length + 1 by omega, List.drop_succ_cons, List.drop_replicate]
  unfold expY
  rfl
theorem coeff_len_le (xs ys : List UInt8) : (coeff xs ys).1.length ≤ xs.length := by
  cases h : wrongM xs ys with
  | true => rw [coeff_bad h]; simp
  | false => rw [(coeff_ok h).2.1.len]; exact Nat.le_refl _
theorem expL_len {l : List Share} {secret : List UInt8} {m : Nat} (h : 1 + l.length + m ≤ 8) : ∀ p, (expL l secret m p).length ≤ 8 * p
  | 0 => by simp [expL]
  | p + 1 => by
    unfold expL
    have h1 := expL_len (secret := secret) h p
    have h2 := coeff_len_le (expX l m) (expY l secret[p]! p m)
    rw [expX_len] at h2
    simp only [List.length_append, List.length_drop]; omega
theorem u8of_nat' (n : Nat) (h : n < 256) : (u8of (n : Int)).toNat = n := by
  rw [u8of_nat, UInt8.toNat_ofNat']; omega
theorem u8of_inj {a b : Int} (ha : 0 ≤ a) (ha' : a < 256) (hb : 0 ≤ b) (hb' : b < 256) (h : u8of a = u8of b) : a = b := by
  obtain ⟨x, rfl⟩ : ∃ x : Nat, a = (x : Int) := ⟨a.toNat, by omega⟩
  obtain ⟨y, rfl⟩ : ∃ y : Nat, b = (y : Int) := ⟨b.toNat, by omega⟩
  have := congrArg UInt8.toNat h
  rw [u8of_nat' x (by omega), u8of_nat' y (by omega)] at this
  omega
/-- The number whose byte is at place i of the places by which shares are explained. -/
def expI (l : List Share) (i : Nat) : Int := if i = 0 then 0 else if i ≤ l.length then l[i - 1]!.index else 9 + ((i - 1 - l.length : Nat) : Int)
theorem expX_get {l : List Share} {m i : Nat} (h : i < 1 + l.length + m) : (expX l m)[i]! = u8of (expI l i) := by
  unfold expX expI
  cases i with
  | zero => rw [if_pos rfl]; rfl
  | succ i =>
    rw [if_neg (by omega), List.cons_append, get_succ, get_append, idxM_len]
    by_cases h1 : i < l.length
    · rw [if_pos h1, if_pos (by omega)]; unfold idxM; rw [map_getB _ _ _ h1, Nat.add_sub_cancel]
    · rw [if_neg h1, if_neg (by omega), map_getB _ _ _ (by omega)]
      congr 2
theorem expI_mono {l : List Share} (hg : Good l) : ∀ (j i : Nat), i < j → expI l i < expI l j := by
  intro j i hij
  unfold expI
  have hm := hg.m8
  by_cases hj : j ≤ l.length
  · rw [if_neg (c := j = 0) (by omega), if_pos hj]
    have h1 := hg.ix (j - 1) (by omega)
    by_cases hi : i = 0
    · rw [if_pos hi]; omega
    · rw [if_neg hi, if_pos (by omega)]; exact hg.mono (j - 1) (i - 1) (by omega) (by omega)
  · rw [if_neg (c := j = 0) (by omega), if_neg hj]
    by_cases hi : i = 0
    · rw [if_pos hi]; omega
    · rw [if_neg hi]
      by_cases hi2 : i ≤ l.length
      · rw [if_pos hi2]; have := hg.ix (i - 1) (by omega); omega
      · rw [if_neg hi2]; omega
theorem expI_bound {l : List Share} (hg : Good l) (i : Nat) (h : i ≤ 100) : 0 ≤ expI l i ∧ expI l i < 256 := by
  unfold expI
  have hm := hg.m8
  split
  · omega
  · split
    · have := hg.ix (i - 1) (by omega); omega
    · omega
theorem expX_nodup {l : List Share} (hg : Good l) {m : Nat} (h : 1 + l.length + m ≤ 100) : (expX l m).Nodup := by
  rw [nodup_get]
  intro i j hij hj he
  rw [expX_len] at hj
  rw [expX_get (by omega), expX_get hj] at he
  have h1 := expI_bound hg i (by omega)
  have h2 := expI_bound hg j (by omega)
  have := u8of_inj h1.1 h1.2 h2.1 h2.2 he
  have := expI_mono hg j i hij
  omega
theorem exp_right {l : List Share} (hg : Good l) {m : Nat} (h : 1 + l.length + m ≤ 100) (b : UInt8) (p : Nat) : wrongM (expX l m) (expY l b p m) = false :=
  (wrong_iff _ _).2 ⟨by rw [expX_len, expY_len], expX_nodup hg h⟩
theorem exp_len {l : List Share} (hg : Good l) {m : Nat} (h : 1 + l.length + m ≤ 100) (b : UInt8) (p : Nat) : (coeff (expX l m) (expY l b p m)).1.length = 1 + l.length + m := by
  rw [(coeff_ok (exp_right hg h b p)).2.1.len, expX_len]
theorem explainM_bad {l : List Share} {secret : List UInt8} {e : Int} (h : checkM l ≠ 0) (he : checkM l = e) : explainM l secret = ([], e) := by
  unfold explainM; rw [if_pos h, he]
theorem explainM_many {l : List Share} {secret : List UInt8} {e : Int} (h : checkM l = 0) (h2 : l[0]!.threshold ≤ (l.length : Int)) (he : (80 : Int) = e) : explainM l secret = ([], e) := by
  unfold explainM; rw [if_neg (by omega), if_pos h2, he]
theorem explainM_arg {l : List Share} {secret : List UInt8} {e : Int} (h : checkM l = 0) (h2 : (l.length : Int) < l[0]!.threshold) (h3 : (secret.length : Int) ≠ (l[0]!.data.length : Int)) (he : (1 : Int) = e) : explainM l secret = ([], e) := by
  unfold explainM; rw [if_neg (by omega), if_neg (by omega), if_pos h3, he]
theorem explainM_ok {l : List Share} {secret : List UInt8} {x : List UInt8} (h : checkM l = 0) (h2 : (l.length : Int) < l[0]!.threshold) (h3 : (secret.length : Int) = (l[0]!.data.length : Int)) (hx : expL l secret (l[0]!.threshold.toNat - 1 - l.length) secret.length = x) : explainM l secret = (x, 0) := by
  unfold explainM; rw [if_neg (by omega), if_neg (by omega), if_neg (by omega), hx]
/-! ### as the reference explains -/
def refX (l : List Share) (m : Nat) : List UInt8 := idxM l ++ [0] ++ (List.range m).map (fun i : Nat => u8of (9 + (i : Int)))
def refY (l : List Share) (b : UInt8) (p m : Nat) : List UInt8 := colM l p ++ [b] ++ List.replicate m 0
theorem refX_len (l : List Share) (m : Nat) : (refX l m).length = l.length + 1 + m := by simp [refX, idxM_len]; omega
theorem refY_len (l : List Share) (b : UInt8) (p m : Nat) : (refY l b p m).length = l.length + 1 + m := by simp [refY, colM_len]; omega
theorem refX_succ (l : List Share) (m : Nat) : refX l (m + 1) = refX l m ++ [u8of (9 + (m : Int))] := by simp [refX, List.range_succ]
theorem refY_succ (l : List Share) (b : UInt8) (p m : Nat) : refY l b p (m + 1) = refY l b p m ++ [0] := by
  unfold refY; rw [List.replicate_succ', List.append_assoc, List.append_assoc, List.append_assoc]
theorem refX_zero (l : List Share) : refX l 0 = idxM l ++ [0] := by simp [refX]
theorem refY_zero (l : List Share) (b : UInt8) (p : Nat) : refY l b p 0 = colM l p ++ [b] := by simp [refY]
theorem u8of_step (j : Nat) : u8of (9 + (j : Int)) + 1 = u8of (9 + ((j + 1 : Nat) : Int)) := by
  rw [show (9 + (j : Int)) = ((9 + j : Nat) : Int) by omega, show (9 + ((j + 1 : Nat) : Int)) = ((9 + j + 1 : Nat) : Int) by omega, u8of_nat, u8of_nat]
  apply UInt8.toNat_inj.1
  rw [UInt8.toNat_add, UInt8.toNat_ofNat', UInt8.toNat_ofNat']
  show ((9 + j) % 256 + 1) % 256 = (9 + j + 1) % 256
  omega
def refExpL (l : List Share) (secret : List UInt8) (m : Nat) : Nat → List UInt8
  | 0 => []
  | p + 1 => refExpL l secret m p ++ (refCoeff (refX l m) (refY l secret[p]! p m)).1.drop 1
def refExplainM (l : List Share) (secret : List UInt8) : List UInt8 × Int :=
  if refCheckM l ≠ 0 then ([], refCheckM l) else if l[0]!.threshold ≤ (l.length : Int) then ([], 80) else if (secret.length : Int) ≠ (l[0]!.data.length : Int) then ([], 1) else (refExpL l secret (l[0]!.threshold.toNat - 1 - l.length) secret.length, 0)
/-- Where place i of the reference's points stands among the program's. -/
def refPerm (n i : Nat) : Nat := if i < n then i + 1 else if i = n then 0 else i
theorem refX_perm {l : List Share} {m i : Nat} (h : i < l.length + 1 + m) : (refX l m)[i]! = (expX l m)[refPerm l.length i]! := by
  rw [expX_get (by unfold refPerm; split; omega; split <;> omega)]
  unfold refX refPerm expI
  rw [List.append_assoc, get_append, idxM_len]
  by_cases h1 : i < l.length
  · rw [if_pos h1, if_pos h1, if_neg (by omega), if_pos (by omega)]; unfold idxM; rw [map_getB _ _ _ h1, Nat.add_sub_cancel]
  · rw [if_neg h1, if_neg h1]
    by_cases h2 : i = l.length
    · rw [if_pos h2, if_pos rfl, h2, Nat.sub_self]; rfl
    · rw [if_neg h2, if_neg (by omega), if_neg (by omega)]
      obtain ⟨q, rfl⟩ : ∃ q, i = l.length + 1 + q := ⟨i - l.length - 1, by omega⟩
      rw [show l.length + 1 + q - l.length = q + 1 by omega, List.singleton_append, get_succ, map_getB _ _ _ (by omega)]
      congr 2
      omega
theorem expY_get {l : List Share} {b : UInt8} {p m i : Nat} : (expY l b p m)[i]! = if i = 0 then b else if i ≤ l.length then (colM l p)[i - 1]! else 0 := by
  unfold expY
  cases i with
  | zero => rfl
  | succ i =>
    rw [if_neg (by omega), List.cons_append, get_succ, get_append, colM_len]
    by_cases h1 : i < l.length
    · rw [if_pos h1, if_pos (by omega), Nat.add_sub_cancel]
    · rw [if_neg h1, if_neg (by omega), get_replicate]
theorem refY_perm {l : List Share} {b : UInt8} {p m i : Nat} : (refY l b p m)[i]! = (expY l b p m)[refPerm l.length i]! := by
  rw [expY_get]
  unfold refY refPerm
  rw [List.append_assoc, get_append, colM_len]
  by_cases h1 : i < l.length
  · rw [if_pos h1, if_pos h1, if_neg (by omega), if_pos (by omega), Nat.add_sub_cancel]
  · rw [if_neg h1, if_neg h1]
    by_cases h2 : i = l.length
    · rw [if_pos h2, if_pos rfl, h2, Nat.sub_self]; rfl
    · rw [if_neg h2, if_neg (by omega), if_neg (by omega)]
      obtain ⟨q, rfl⟩ : ∃ q, i = l.length + 1 + q := ⟨i - l.length - 1, by omega⟩
      rw [show l.length + 1 + q - l.length = q + 1 by omega, List.singleton_append, get_succ, get_replicate]
theorem refPerm_lt {n m i : Nat} (h : i < n + 1 + m) : refPerm n i < 1 + n + m := by unfold refPerm; split; omega; split <;> omega
theorem refPerm_inj {n i j : Nat} (h : refPerm n i = refPerm n j) : i = j := by
  unfold refPerm at h
  split at h <;> split at h <;> (try split at h) <;> (try split at h) <;> omega
theorem ref_coeff_perm {l : List Share} (hg : Good l) {m : Nat} (h : 1 + l.length + m ≤ 100) (b : UInt8) (p : Nat) : refCoeff (refX l m) (refY l b p m) = coeff (expX l m) (expY l b p m) := by
  rw [refCoeff_eq]
  have hn : (refX l m).Nodup := by
    rw [nodup_get]
    intro i j hij hj he
    rw [refX_len] at hj
    rw [refX_perm (by omega), refX_perm hj] at he
    have hne : refPerm l.length i ≠ refPerm l.length j := fun e => by have := refPerm_inj e; omega
    have hx := nodup_get.1 (expX_nodup hg h)
    have h1 := refPerm_lt (n := l.length) (m := m) (i := i) (by omega)
    have h2 := refPerm_lt (n := l.length) (m := m) (i := j) (by omega)
    rcases Nat.lt_or_gt_of_ne hne with h3 | h3
    · exact hx _ _ h3 (by rw [expX_len]; exact h2) he
    · exact hx _ _ h3 (by rw [expX_len]; exact h1) he.symm
  have hw : wrongM (refX l m) (refY l b p m) = false := (wrong_iff _ _).2 ⟨by rw [refX_len, refY_len], hn⟩
  have hw2 := exp_right hg h b p
  obtain ⟨a1, a2, a3, a4⟩ := coeff_ok hw
  obtain ⟨b1, b2, b3, b4⟩ := coeff_ok hw2
  refine Prod.ext (a2.eq a4 ⟨by rw [b2.len, expX_len, refX_len]; omega, fun i hi => ?_⟩) (by rw [a1, b1])
  rw [refX_len] at hi
  rw [refX_perm hi, refY_perm]
  exact b2.at_ _ (by rw [expX_len]; exact refPerm_lt hi)
theorem refExplain_eq (l : List Share) (secret : List UInt8) : refExplainM l secret = explainM l secret := by
  unfold refExplainM explainM
  rw [refCheck_eq]
  split
  · rfl
  · rename_i h
    have hv := (check_iff l).1 (Classical.not_not.1 h)
    split
    · rfl
    · rename_i h2
      split
      · rfl
      · congr 1
        have hm8 := hv.m8
        have htm := hv.tm
        have key : ∀ p, refExpL l secret (l[0]!.threshold.toNat - 1 - l.length) p = expL l secret (l[0]!.threshold.toNat - 1 - l.length) p := fun p => by
          induction p with
          | zero => rfl
          | succ p ih => unfold refExpL expL; rw [ih, ref_coeff_perm hv.toGood (by omega)]
        exact key _
theorem refExpL_len {l : List Share} {secret : List UInt8} {m : Nat} (h : 1 + l.length + m ≤ 8) : ∀ p, (refExpL l secret m p).length ≤ 8 * p
  | 0 => by simp [refExpL]
  | p + 1 => by
    unfold refExpL
    have h1 := refExpL_len (secret := secret) h p
    have h2 := coeff_len_le (refX l m) (refY l secret[p]! p m)
    rw [refX_len] at h2
    rw [refCoeff_eq]
    simp only [List.length_append, List.length_drop]; omega
theorem ref_coeff_len {l : List Share} (hg : Good l) {m : Nat} (h : 1 + l.length + m ≤ 100) (b : UInt8) (p : Nat) : (refCoeff (refX l m) (refY l b p m)).1.length = 1 + l.length + m := by
  rw [ref_coeff_perm hg h, exp_len hg h]
theorem refExplainM_bad {l : List Share} {secret : List UInt8} {e : Int} (h : refCheckM l ≠ 0) (he : refCheckM l = e) : refExplainM l secret = ([], e) := by
  unfold refExplainM; rw [if_pos h, he]
theorem refExplainM_many {l : List Share} {secret : List UInt8} {e : Int} (h : refCheckM l = 0) (h2 : l[0]!.threshold ≤ (l.length : Int)) (he : (80 : Int) = e) : refExplainM l secret = ([], e) := by
  unfold refExplainM; rw [if_neg (by omega), if_pos h2, he]
theorem refExplainM_arg {l : List Share} {secret : List UInt8} {e : Int} (h : refCheckM l = 0) (h2 : (l.length : Int) < l[0]!.threshold) (h3 : (secret.length : Int) ≠ (l[0]!.data.length : Int)) (he : (1 : Int) = e) : refExplainM l secret = ([], e) := by
  unfold refExplainM; rw [if_neg (by omega), if_neg (by omega), if_pos h3, he]
theorem refExplainM_ok {l : List Share} {secret : List UInt8} {x : List UInt8} (h : refCheckM l = 0) (h2 : (l.length : Int) < l[0]!.threshold) (h3 : (secret.length : Int) = (l[0]!.data.length : Int)) (hx : refExpL l secret (l[0]!.threshold.toNat - 1 - l.length) secret.length = x) : refExplainM l secret = (x, 0) := by
  unfold refExplainM; rw [if_neg (by omega), if_neg (by omega), if_neg (by omega), hx]
/-! ### refreshing -/
def refrData (l zero : List Share) (n i : Nat) : List UInt8 := (List.range n).map fun k => l[i]!.data[k]! ^^^ zero[i]!.data[k]!
def refrShare (l : List Share) (f : Share) (zero : List Share) (i : Nat) : Share := ⟨l[i]!.epoch + 1, l[i]!.index, l[i]!.threshold, l[i]!.many, refrData l zero f.data.length i⟩
def zeroS (f : Share) (coins : List UInt8) : List Share × Int := splitM (List.replicate f.data.length 0) f.epoch f.threshold f.many coins
def refreshBad (l : List Share) (coins : List UInt8) : Int := if checkM l ≠ 0 then checkM l else if (l.length : Int) ≠ l[0]!.many then 80 else if l[0]!.epoch = 1048576 then 81 else (zeroS l[0]! coins).2
def refreshL (l : List Share) (coins : List UInt8) : List Share := (List.range l.length).map fun i => refrShare l l[0]! (zeroS l[0]! coins).1 i
def refreshM (l : List Share) (coins : List UInt8) : List Share × Int := if refreshBad l coins = 0 then (refreshL l coins, 0) else ([], refreshBad l coins)
theorem refreshM_ok {l : List Share} {coins : List UInt8} {x : List Share} (h : refreshBad l coins = 0) (hx : refreshL l coins = x) : refreshM l coins = (x, 0) := by
  unfold refreshM; rw [if_pos h, hx]
theorem refreshM_bad {l : List Share} {coins : List UInt8} {e : Int} (h : refreshBad l coins = e) (he : e ≠ 0) : refreshM l coins = ([], e) := by
  unfold refreshM; rw [if_neg (by rw [h]; exact he), h]
theorem splitM_snd (secret : List UInt8) (epoch threshold many : Int) (coins : List UInt8) : (splitM secret epoch threshold many coins).2 = splitBad secret epoch threshold many coins := by
  unfold splitM; split
  · rename_i h; rw [h]
  · rfl
theorem splitL_len (secret : List UInt8) (epoch threshold many : Int) (coins : List UInt8) : (splitL secret epoch threshold many coins).length = many.toNat := by simp [splitL]
theorem splitL_get {secret : List UInt8} {epoch threshold many : Int} {coins : List UInt8} {k : Nat} (h : k < many.toNat) : (splitL secret epoch threshold many coins)[k]! = splitShare secret (polysM secret coins threshold) epoch threshold many k := map_getB _ _ _ h
theorem splitShare_len (secret : List UInt8) (polys : List (List UInt8)) (epoch threshold many : Int) (k : Nat) : (splitShare secret polys epoch threshold many k).data.length = secret.length := by simp [splitShare]
theorem splitM_right {secret : List UInt8} {epoch threshold many : Int} {coins : List UInt8} (h : (splitM secret epoch threshold many coins).2 = 0) : splitBad secret epoch threshold many coins = 0 ∧ (splitM secret epoch threshold many coins).1 = splitL secret epoch threshold many coins := by
  rw [splitM_snd] at h
  exact ⟨h, by unfold splitM; rw [if_pos h]⟩
theorem zeroS_len {f : Share} {coins : List UInt8} (h : (zeroS f coins).2 = 0) : (zeroS f coins).1.length = f.many.toNat := by
  unfold zeroS at *; rw [(splitM_right h).2, splitL_len]
theorem zeroS_data {f : Share} {coins : List UInt8} (h : (zeroS f coins).2 = 0) {k : Nat} (hk : k < f.many.toNat) : (zeroS f coins).1[k]!.data.length = f.data.length := by
  unfold zeroS at *; rw [(splitM_right h).2, splitL_get hk, splitShare_len, List.length_replicate]
/-- The reference splits with the epoch 0; the shares' bytes are the same. -/
def refZero (f : Share) (coins : List UInt8) : List Share × Int := refSplitM (List.replicate f.data.length 0) 0 f.threshold f.many coins
def refRefreshBad (l : List Share) (coins : List UInt8) : Int := if refCheckM l ≠ 0 then refCheckM l else if (l.length : Int) ≠ l[0]!.many then 80 else if l[0]!.epoch = 1048576 then 81 else (refZero l[0]! coins).2
def refRefreshL (l : List Share) (coins : List UInt8) (n : Nat) : List Share := (List.range n).map fun i => refrShare l l[0]! (refZero l[0]! coins).1 i
def refRefreshM (l : List Share) (coins : List UInt8) : List Share × Int := if refRefreshBad l coins = 0 then (refRefreshL l coins l.length, 0) else ([], refRefreshBad l coins)
theorem refRefreshM_ok {l : List Share} {coins : List UInt8} {x : List Share} (h : refRefreshBad l coins = 0) (hx : refRefreshL l coins l.length = x) : refRefreshM l coins = (x, 0) := by
  unfold refRefreshM; rw [if_pos h, hx]
theorem refRefreshM_bad {l : List Share} {coins : List UInt8} {e : Int} (h : refRefreshBad l coins = e) (he : e ≠ 0) : refRefreshM l coins = ([], e) := by
  unfold refRefreshM; rw [if_neg (by rw [h]; exact he), h]
theorem refRefreshL_len (l : List Share) (coins : List UInt8) (n : Nat) : (refRefreshL l coins n).length = n := by simp [refRefreshL]
theorem refRefreshL_succ (l : List Share) (coins : List UInt8) (n : Nat) : refRefreshL l coins (n + 1) = refRefreshL l coins n ++ [refrShare l l[0]! (refZero l[0]! coins).1 n] := by simp [refRefreshL, List.range_succ]
theorem refZero_len {f : Share} {coins : List UInt8} (h : (refZero f coins).2 = 0) : (refZero f coins).1.length = f.many.toNat := by
  unfold refZero at *; rw [refSplit_eq] at *; rw [(splitM_right h).2, splitL_len]
theorem refZero_data {f : Share} {coins : List UInt8} (h : (refZero f coins).2 = 0) {k : Nat} (hk : k < f.many.toNat) : (refZero f coins).1[k]!.data.length = f.data.length := by
  unfold refZero at *; rw [refSplit_eq] at *; rw [(splitM_right h).2, splitL_get hk, splitShare_len, List.length_replicate]
theorem splitBad_epoch {secret : List UInt8} {e e' threshold many : Int} {coins : List UInt8} (h : 0 ≤ e ∧ e ≤ 1048576) (h' : 0 ≤ e' ∧ e' ≤ 1048576) : splitBad secret e threshold many coins = splitBad secret e' threshold many coins := by
  unfold splitBad
  have hA : ¬ (e < 0 ∨ 1048576 < e) := by omega
  have hB : ¬ (e' < 0 ∨ 1048576 < e') := by omega
  simp only [if_neg hA, if_neg hB]
theorem refRefresh_eq (l : List Share) (coins : List UInt8) : refRefreshM l coins = refreshM l coins := by
  by_cases hc : checkM l = 0
  · have hv := (check_iff l).1 hc
    have hz2 : (refZero l[0]! coins).2 = (zeroS l[0]! coins).2 := by
      unfold refZero zeroS; rw [refSplit_eq, splitM_snd, splitM_snd]; exact splitBad_epoch (by omega) ⟨hv.ep0, hv.ep1⟩
    have hb : refRefreshBad l coins = refreshBad l coins := by unfold refRefreshBad refreshBad; rw [refCheck_eq, hz2]
    unfold refRefreshM refreshM
    rw [hb]
    split
    · rename_i h0
      congr 1
      unfold refRefreshL refreshL
      have hz0 : (zeroS l[0]! coins).2 = 0 ∧ (l.length : Int) = l[0]!.many := by
        unfold refreshBad at h0
        rw [if_neg (by omega)] at h0
        split at h0
        · omega
        · rename_i h1
          split at h0
          · omega
          · exact ⟨h0, by omega⟩
      have hr0 : (refZero l[0]! coins).2 = 0 := by rw [hz2]; exact hz0.1
      apply List.map_congr_left
      intro i hi
      have hi : i < l.length := by simpa using hi
      unfold refrShare
      congr 1
      unfold refrData
      apply List.map_congr_left
      intro k _
      congr 1
      unfold refZero zeroS at *
      rw [refSplit_eq] at *
      rw [(splitM_right hz0.1).2, (splitM_right hr0).2, splitL_get (by omega), splitL_get (by omega)]
      rfl
    · rfl
  · have hb : refRefreshBad l coins = checkM l := by unfold refRefreshBad; rw [refCheck_eq, if_pos hc]
    have hb2 : refreshBad l coins = checkM l := by unfold refreshBad; rw [if_pos hc]
    rw [refRefreshM_bad hb hc, refreshM_bad hb2 hc]
end Go.Proofs.Yteajcgfcnbdmgaa
