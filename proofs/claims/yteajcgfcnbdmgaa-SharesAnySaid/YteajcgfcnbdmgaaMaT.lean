/- Shares: splitting, joining, explaining and refreshing, as the two programs reckon them. -/
import Derived.Test.YteajcgfcnbdmgaaMaS
set_option linter.unusedSimpArgs false
set_option linter.unusedVariables false
namespace Go.Proofs.Yteajcgfcnbdmgaa
open Go.Fw

def polyM (secret coins : List UInt8) (threshold : Int) (i : Nat) : List UInt8 := secret[i]! :: ((coins.take ((i + 1) * (threshold - 1).toNat)).drop (i * (threshold - 1).toNat))
theorem polyB {i n m : Nat} {t : Int} (hi : i < n) (ht : 1 ≤ t) (h : (m : Int) = (n : Int) * (t - 1)) : (i + 1) * (t - 1).toNat ≤ m := by
  obtain ⟨T, rfl⟩ : ∃ T : Nat, t = (T : Int) + 1 := ⟨(t - 1).toNat, by omega⟩
  have e : ((T : Int) + 1 - 1) = (T : Int) := by omega
  rw [e] at h ⊢
  have h2 : m = n * T := by exact_mod_cast h
  rw [h2]
  exact Nat.mul_le_mul_right _ hi
theorem polyL {n m : Nat} {t : Int} (hn : n ≤ 1000) (ht : 1 ≤ t) (ht8 : t ≤ 8) (h : (m : Int) = (n : Int) * (t - 1)) : m ≤ 7000 := by
  obtain ⟨T, rfl⟩ : ∃ T : Nat, t = (T : Int) + 1 := ⟨(t - 1).toNat, by omega⟩
  have e : ((T : Int) + 1 - 1) = (T : Int) := by omega
  rw [e] at h
  have h2 : m = n * T := by exact_mod_cast h
  rw [h2]
  calc n * T ≤ 1000 * 7 := Nat.mul_le_mul hn (by omega)
    _ = 7000 := rfl
def polysM (secret coins : List UInt8) (threshold : Int) : List (List UInt8) := (List.range secret.length).map fun i => polyM secret coins threshold i
def splitShare (secret : List UInt8) (polys : List (List UInt8)) (epoch threshold many : Int) (k : Nat) : Share := ⟨epoch, (k : Int) + 1, threshold, many, (List.range secret.length).map fun i => pev polys[i]! (u8of ((k : Int) + 1))⟩
def splitL (secret : List UInt8) (epoch threshold many : Int) (coins : List UInt8) : List Share := (List.range many.toNat).map fun k => splitShare secret (polysM secret coins threshold) epoch threshold many k
def splitBad (secret : List UInt8) (epoch threshold many : Int) (coins : List UInt8) : Int :=
  if 64 < (secret.length : Int) then 1 else if (threshold < 1 ∨ many < threshold) ∨ 8 < many then 80 else if epoch < 0 ∨ 1048576 < epoch then 81 else if (coins.length : Int) ≠ (secret.length : Int) * (threshold - 1) then 1 else 0
def splitM (secret : List UInt8) (epoch threshold many : Int) (coins : List UInt8) : List Share × Int :=
  if splitBad secret epoch threshold many coins = 0 then (splitL secret epoch threshold many coins, 0) else ([], splitBad secret epoch threshold many coins)
theorem splitM_ok {secret : List UInt8} {epoch threshold many : Int} {coins : List UInt8} {x : List Share} (h : splitBad secret epoch threshold many coins = 0) (hx : splitL secret epoch threshold many coins = x) : splitM secret epoch threshold many coins = (x, 0) := by
  unfold splitM; rw [if_pos h, hx]
theorem splitM_bad {secret : List UInt8} {epoch threshold many : Int} {coins : List UInt8} {e : Int} (h : splitBad secret epoch threshold many coins = e) (he : e ≠ 0) : splitM secret epoch threshold many coins = ([], e) := by
  unfold splitM; rw [if_neg (by rw [h]; exact he), h]
/-- A share, as the reference makes it; q from 1 on. -/
def refShare (secret : List UInt8) (epoch threshold many : Int) (coins : List UInt8) (q : Nat) : Share := ⟨epoch, (q : Int), threshold, many, tab secret.length fun p => refEval (polyM secret coins threshold p) (u8of (q : Int))⟩
def refSplitL (secret : List UInt8) (epoch threshold many : Int) (coins : List UInt8) (n : Nat) : List Share := (List.range n).map fun q => refShare secret epoch threshold many coins (q + 1)
theorem refSplitL_len (secret : List UInt8) (epoch threshold many : Int) (coins : List UInt8) (n : Nat) : (refSplitL secret epoch threshold many coins n).length = n := by simp [refSplitL]
theorem refSplitL_succ (secret : List UInt8) (epoch threshold many : Int) (coins : List UInt8) (n : Nat) : refSplitL secret epoch threshold many coins (n + 1) = refSplitL secret epoch threshold many coins n ++ [refShare secret epoch threshold many coins (n + 1)] := by simp [refSplitL, List.range_succ]
def refSplitM (secret : List UInt8) (epoch threshold many : Int) (coins : List UInt8) : List Share × Int :=
  if splitBad secret epoch threshold many coins = 0 then (refSplitL secret epoch threshold many coins many.toNat, 0) else ([], splitBad secret epoch threshold many coins)
theorem refSplitM_ok {secret : List UInt8} {epoch threshold many : Int} {coins : List UInt8} {x : List Share} (h : splitBad secret epoch threshold many coins = 0) (hx : refSplitL secret epoch threshold many coins many.toNat = x) : refSplitM secret epoch threshold many coins = (x, 0) := by
  unfold refSplitM; rw [if_pos h, hx]
theorem refSplitM_bad {secret : List UInt8} {epoch threshold many : Int} {coins : List UInt8} {e : Int} (h : splitBad secret epoch threshold many coins = e) (he : e ≠ 0) : refSplitM secret epoch threshold many coins = ([], e) := by
  unfold refSplitM; rw [if_neg (by rw [h]; exact he), h]
theorem map_getB {α : Type} [Inhabited α] (n : Nat) (f : Nat → α) (i : Nat) (h : i < n) : ((List.range n).map f)[i]! = f i := by
  rw [getElem!_pos _ i (by simpa using h)]; simp
theorem polys_get {secret coins : List UInt8} {threshold : Int} {i : Nat} (h : i < secret.length) : (polysM secret coins threshold)[i]! = polyM secret coins threshold i := map_getB _ _ _ h
theorem splitShare_eq (secret : List UInt8) (epoch threshold many : Int) (coins : List UInt8) (k : Nat) : splitShare secret (polysM secret coins threshold) epoch threshold many k = refShare secret epoch threshold many coins (k + 1) := by
  unfold splitShare refShare
  congr 1
  unfold tab
  apply List.map_congr_left
  intro i hi
  rw [polys_get (by simpa using hi), refEval_eq]; rfl
theorem refSplit_eq (secret : List UInt8) (epoch threshold many : Int) (coins : List UInt8) : refSplitM secret epoch threshold many coins = splitM secret epoch threshold many coins := by
  unfold refSplitM splitM
  split
  · congr 1
    unfold refSplitL splitL
    apply List.map_congr_left
    intro k _
    exact (splitShare_eq _ _ _ _ _ _).symm
  · rfl
theorem splitBad_iff (secret : List UInt8) (epoch threshold many : Int) (coins : List UInt8) : splitBad secret epoch threshold many coins = 0 ↔ secret.length ≤ 64 ∧ 1 ≤ threshold ∧ threshold ≤ many ∧ many ≤ 8 ∧ 0 ≤ epoch ∧ epoch ≤ 1048576 ∧ (coins.length : Int) = (secret.length : Int) * (threshold - 1) := by
  unfold splitBad
  by_cases h1 : 64 < (secret.length : Int)
  · rw [if_pos h1]; omega
  rw [if_neg h1]
  by_cases h2 : (threshold < 1 ∨ many < threshold) ∨ 8 < many
  · rw [if_pos h2]; omega
  rw [if_neg h2]
  by_cases h3 : epoch < 0 ∨ 1048576 < epoch
  · rw [if_pos h3]; omega
  rw [if_neg h3]
  by_cases h4 : (coins.length : Int) ≠ (secret.length : Int) * (threshold - 1)
  · rw [if_pos h4]; exact ⟨fun h => (by omega), fun h => absurd h.2.2.2.2.2.2 h4⟩
  · rw [if_neg h4]; exact ⟨fun _ => ⟨by omega, by omega, by omega, by omega, by omega, by omega, Classical.not_not.1 h4⟩, fun _ => rfl⟩

/-! ### joining -/
def idxM (l : List Share) : List UInt8 := (List.range l.length).map fun i => u8of l[i]!.index
def colM (l : List Share) (p : Nat) : List UInt8 := (List.range l.length).map fun i => l[i]!.data[p]!
theorem idxM_len (l : List Share) : (idxM l).length = l.length := by simp [idxM]
theorem colM_len (l : List Share) (p : Nat) : (colM l p).length = l.length := by simp [colM]
def joinL (l : List Share) : List UInt8 := (List.range l[0]!.data.length).map fun p => (through (idxM l) (colM l p) 0).1
def joinM (l : List Share) : List UInt8 × Int := if checkM l ≠ 0 then ([], checkM l) else if (l.length : Int) < l[0]!.threshold then ([], 80) else (joinL (l.take l[0]!.threshold.toNat), 0)
theorem joinM_ok {l : List Share} {x : List UInt8} (h : checkM l = 0) (h2 : l[0]!.threshold ≤ (l.length : Int)) (hx : joinL (l.take l[0]!.threshold.toNat) = x) : joinM l = (x, 0) := by
  unfold joinM; rw [if_neg (by omega), if_neg (by omega), hx]
theorem joinM_bad {l : List Share} {e : Int} (h : checkM l ≠ 0) (he : checkM l = e) : joinM l = ([], e) := by
  unfold joinM; rw [if_pos h, he]
theorem joinM_few {l : List Share} {e : Int} (h : checkM l = 0) (h2 : (l.length : Int) < l[0]!.threshold) (he : (80 : Int) = e) : joinM l = ([], e) := by
  unfold joinM; rw [if_neg (by omega), if_pos (by omega), he]
def refJoinL (l : List Share) (n : Nat) : List UInt8 := tab n fun p => (refThrough (idxM (l.take l[0]!.threshold.toNat)) (colM (l.take l[0]!.threshold.toNat) p) 0).1
def refJoinM (l : List Share) : List UInt8 × Int := if refCheckM l ≠ 0 then ([], refCheckM l) else if (l.length : Int) < l[0]!.threshold then ([], 80) else (refJoinL l l[0]!.data.length, 0)
theorem refJoinM_ok {l : List Share} {x : List UInt8} (h : refCheckM l = 0) (h2 : l[0]!.threshold ≤ (l.length : Int)) (hx : refJoinL l l[0]!.data.length = x) : refJoinM l = (x, 0) := by
  unfold refJoinM; rw [if_neg (by omega), if_neg (by omega), hx]
theorem refJoinM_bad {l : List Share} {e : Int} (h : refCheckM l ≠ 0) (he : refCheckM l = e) : refJoinM l = ([], e) := by
  unfold refJoinM; rw [if_pos h, he]
theorem refJoinM_few {l : List Share} {e : Int} (h : refCheckM l = 0) (h2 : (l.length : Int) < l[0]!.threshold) (he : (80 : Int) = e) : refJoinM l = ([], e) := by
  unfold refJoinM; rw [if_neg (by omega), if_pos (by omega), he]
theorem take0 {α : Type} [Inhabited α] {l : List α} {n : Nat} (h : 0 < n) : (l.take n)[0]! = l[0]! := by
  rw [getElem!_def, List.getElem?_take, if_pos h, getElem!_def]
theorem takeS {α : Type} [Inhabited α] {l : List α} {n i : Nat} (h : i < n) : (l.take n)[i]! = l[i]! := by
  rw [getElem!_def, List.getElem?_take, if_pos h, getElem!_def]
theorem refJoin_eq (l : List Share) : refJoinM l = joinM l := by
  unfold refJoinM joinM
  rw [refCheck_eq]
  split
  · rfl
  · rename_i h
    have hv := (check_iff l).1 (Classical.not_not.1 h)
    split
    · rfl
    · congr 1
      unfold refJoinL joinL tab
      have := hv.t1
      rw [take0 (by omega)]
      apply List.map_congr_left
      intro p _
      rw [refThrough_eq]
/-- The points of shares as the reference collects them. -/
def ptX (l : List Share) (n : Nat) : List UInt8 := (List.range n).map fun i => u8of l[i]!.index
def ptY (l : List Share) (p n : Nat) : List UInt8 := (List.range n).map fun i => l[i]!.data[p]!

/-! ### explaining -/
def expX (l : List Share) (m : Nat) : List UInt8 := 0 :: idxM l ++ (List.range m).map (fun i : Nat => u8of (9 + (i : Int)))
theorem expX_len (l : List Share) (m : Nat) : (expX l m).length = 1 + l.length + m := by simp [expX, idxM_len]; omega
def expY (l : List Share) (b : UInt8) (p m : Nat) : List UInt8 := b :: colM l p ++ List.replicate m 0
theorem expY_len (l : List Share) (b : UInt8) (p m : Nat) : (expY l b p m).length = 1 + l.length + m := by simp [expY, colM_len]; omega
def expL (l : List Share) (secret : List UInt8) (m : Nat) : Nat → List UInt8
  | 0 => []
  | p + 1 => expL l secret m p ++ (coeff (expX l m) (expY l secret[p]! p m)).1.drop 1
def explainM (l : List Share) (secret : List UInt8) : List UInt8 × Int :=
  if checkM l ≠ 0 then ([], checkM l) else if l[0]!.threshold ≤ (l.length : Int) then ([], 80) else if (secret.length : Int) ≠ (l[0]!.data.length : Int) then ([], 1) else (expL l secret (l[0]!.threshold.toNat - 1 - l.length) secret.length, 0)
end Go.Proofs.Yteajcgfcnbdmgaa
