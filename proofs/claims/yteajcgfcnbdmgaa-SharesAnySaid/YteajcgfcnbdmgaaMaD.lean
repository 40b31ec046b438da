/- Interpolation over the field with 256 elements: what the program's and the reference's Coefficients and Through reckon. -/
import Derived.Test.YteajcgfcnbdmgaaMaC
set_option linter.unusedSimpArgs false
set_option linter.unusedVariables false
namespace Go.Proofs.Yteajcgfcnbdmgaa
open Go.Fw

theorem set_get (l : List UInt8) (i : Nat) (v : UInt8) (j : Nat) : (l.set i v)[j]! = if i = j ∧ i < l.length then v else l[j]! := by
  rw [getElem!_def, List.getElem?_set, getElem!_def]
  by_cases h : i = j
  · subst h
    by_cases h2 : i < l.length
    · simp [h2]
    · rw [if_pos rfl, if_neg h2, if_neg (fun h => h2 h.2), List.getElem?_eq_none (by omega)]
  · rw [if_neg h, if_neg (fun h' => h h'.1)]
theorem get_append (l m : List UInt8) (i : Nat) : (l ++ m)[i]! = if i < l.length then l[i]! else m[i - l.length]! := by
  by_cases h : i < l.length
  · rw [if_pos h, getElem!_def, getElem!_def, List.getElem?_append_left h]
  · rw [if_neg h, getElem!_def, getElem!_def, List.getElem?_append_right (by omega)]
theorem get_replicate (n i : Nat) : (List.replicate n (0 : UInt8))[i]! = 0 := by
  by_cases h : i < n
  · rw [getElem!_pos _ i (by simpa using h)]; simp
  · exact get_out (by simpa using h)
theorem get_map_gmul (l : List UInt8) (k : UInt8) (i : Nat) : (l.map (gmul · k))[i]! = gmul l[i]! k := by
  by_cases h : i < l.length
  · rw [getElem!_pos _ i (by simpa using h), getElem!_pos _ i h]; simp
  · rw [get_out (by simpa using h), get_out (by omega), zero_gmul]
/-! ### points -/
theorem mem_take_get {l : List UInt8} {k : Nat} (x : UInt8) : (l.take k).contains x = true ↔ ∃ i, i < k ∧ i < l.length ∧ l[i]! = x := by
  rw [List.contains_iff_mem, List.mem_iff_getElem?]
  constructor
  · rintro ⟨i, h⟩
    rw [List.getElem?_take] at h
    split at h
    · rename_i hk
      obtain ⟨h1, h2⟩ := List.getElem?_eq_some_iff.1 h
      exact ⟨i, hk, h1, by rw [getElem!_pos l i h1, h2]⟩
    · cases h
  · rintro ⟨i, hk, hl, h⟩
    exact ⟨i, by rw [List.getElem?_take, if_pos hk, List.getElem?_eq_getElem hl, ← h, getElem!_pos l i hl]⟩
theorem nodup_get {l : List UInt8} : l.Nodup ↔ ∀ i j, i < j → j < l.length → l[i]! ≠ l[j]! := by
  rw [List.nodup_iff_pairwise_ne, List.pairwise_iff_getElem]
  constructor
  · intro h i j hij hj
    rw [getElem!_pos l i (by omega), getElem!_pos l j hj]; exact h i j (by omega) hj hij
  · intro h i j hi hj hij
    have := h i j hij hj
    rwa [getElem!_pos l i hi, getElem!_pos l j hj] at this
theorem scan_false {f : Nat → Option Bool} (m i : Nat) (hf : ∀ k, f k = none ∨ f k = some true) : scan f false i m = false ↔ ∀ k, i ≤ k → k < i + m → f k = none := by
  induction m generalizing i with
  | zero => exact ⟨fun _ k h1 h2 => by omega, fun _ => rfl⟩
  | succ m ih =>
    unfold scan
    rcases hf i with h | h
    · rw [h]; simp only
      rw [ih (i + 1)]
      constructor
      · intro h1 k hk hk2
        rcases Nat.lt_or_eq_of_le hk with h3 | h3
        · exact h1 k (by omega) (by omega)
        · exact h3 ▸ h
      · intro h1 k hk hk2; exact h1 k (by omega) (by omega)
    · rw [h]; simp only
      constructor
      · intro e; cases e
      · intro h1; rw [h1 i (Nat.le_refl _) (by omega)] at h; cases h
theorem scan_true {f : Nat → Option Bool} (m i : Nat) (hf : ∀ k, f k = none ∨ f k = some false) : scan f true i m = true ↔ ∀ k, i ≤ k → k < i + m → f k = none := by
  induction m generalizing i with
  | zero => exact ⟨fun _ k h1 h2 => by omega, fun _ => rfl⟩
  | succ m ih =>
    unfold scan
    rcases hf i with h | h
    · rw [h]; simp only
      rw [ih (i + 1)]
      constructor
      · intro h1 k hk hk2
        rcases Nat.lt_or_eq_of_le hk with h3 | h3
        · exact h1 k (by omega) (by omega)
        · exact h3 ▸ h
      · intro h1 k hk hk2; exact h1 k (by omega) (by omega)
    · rw [h]; simp only
      constructor
      · intro e; cases e
      · intro h1; rw [h1 i (Nat.le_refl _) (by omega)] at h; cases h
theorem wrong_iff (xs ys : List UInt8) : wrongM xs ys = false ↔ xs.length = ys.length ∧ xs.Nodup := by
  unfold wrongM twice
  by_cases e : xs.length = ys.length
  · rw [if_neg (by simp; omega)]
    rw [scan_false _ _ (fun k => by split <;> simp), nodup_get]
    constructor
    · intro h
      refine ⟨e, fun i j hij hj hx => ?_⟩
      have := h j (Nat.zero_le _) (by omega)
      rw [if_pos ((mem_take_get _).2 ⟨i, hij, by omega, hx⟩)] at this; cases this
    · rintro ⟨_, h⟩ k _ hk
      rw [if_neg]
      intro hc
      obtain ⟨i, hi, hl, hx⟩ := (mem_take_get _).1 hc
      exact h i k hi (by omega) hx
  · rw [if_pos (by simp; omega)]; simp [e]
theorem refPoints_iff (xs ys : List UInt8) : refPoints xs ys = true ↔ xs.length = ys.length ∧ xs.Nodup := by
  unfold refPoints refPointsOut
  by_cases e : xs.length = ys.length
  · rw [if_neg (by simp; omega)]
    rw [scan_true _ _ (fun k => by split <;> simp), nodup_get]
    have key : ∀ k, refPointsIn xs k = true ↔ ∀ i, i < k → xs[i]! ≠ xs[k]! := fun k => by
      unfold refPointsIn
      rw [scan_true _ _ (fun k => by split <;> simp)]
      constructor
      · intro h i hi hx
        have := h i (Nat.zero_le _) (by omega)
        rw [if_pos (by simpa using hx)] at this; cases this
      · intro h i _ hi
        rw [if_neg (by simpa using h i (by omega))]
    constructor
    · intro h
      refine ⟨e, fun i j hij hj => ?_⟩
      have := h j (Nat.zero_le _) (by omega)
      split at this
      · rename_i h1; exact (key j).1 h1 i hij
      · cases this
    · rintro ⟨_, h⟩ k _ hk
      rw [if_pos ((key k).2 fun i hi => h i k hi (by omega))]
  · rw [if_pos (by simp; omega)]; simp [e]
theorem refPoints_eq (xs ys : List UInt8) : refPoints xs ys = !wrongM xs ys := by
  rw [Bool.eq_iff_iff, refPoints_iff, Bool.not_eq_true', wrong_iff]

/-! ### the reference's interpolation -/
theorem tmS_get (l : List UInt8) (a b : UInt8) : ∀ k, k ≤ l.length → ∀ i : Nat, (tmS l a b k)[i]! = (if i < k then gmul l[i]! a else 0) ^^^ (if 0 < i ∧ i - 1 < k then gmul l[i - 1]! b else 0)
  | 0, _, i => by rw [tmS, get_replicate, if_neg (by omega), if_neg (by omega)]; rfl
  | k + 1, h, i => by
    have ih := tmS_get l a b k (by omega)
    have hl := tmS_len l a b k
    simp only [tmS, set_get, List.length_set, hl, ih, refMul_eq]
    by_cases h1 : k + 1 = i
    · subst h1
      simp only [Nat.add_sub_cancel, true_and]
      repeat' split
      all_goals first | omega | (simp; done) | (simp_all; done)
    · by_cases h2 : k = i
      · subst h2
        repeat' split
        all_goals first | omega | (simp [xor_c]; done) | (simp_all [xor_c]; done)
      · rw [if_neg (by omega), if_neg (by omega)]
        congr 1
        · by_cases h3 : i < k
          · rw [if_pos h3, if_pos (by omega)]
          · rw [if_neg h3, if_neg (by omega)]
        · by_cases h3 : 0 < i ∧ i - 1 < k
          · rw [if_pos h3, if_pos (by omega)]
          · rw [if_neg h3, if_neg (by omega)]
theorem pev_times (l : List UInt8) (a b x : UInt8) : pev (times l a b) x = gmul (pev l x) (a ^^^ gmul b x) := by
  have h1 : pev (l.map (gmul · a)) x = gmul (pev l x) a := pev_mul a l _ (fun i => get_map_gmul l a i) x
  have h2 : pev (0 :: l.map (gmul · b)) x = gmul (gmul (pev l x) b) x := by rw [pev_cons, pev_mul b l _ (fun i => get_map_gmul l b i) x, xor_zero]
  rw [pev_add (l.map (gmul · a)) (0 :: l.map (gmul · b)) (times l a b) (fun i => by
    rw [times, tmS_get l a b _ (Nat.le_refl _) i, get_map_gmul]
    congr 1
    · by_cases h : i < l.length
      · rw [if_pos h]
      · rw [if_neg h, get_out (by omega), zero_gmul]
    · cases i with
      | zero => rfl
      | succ i =>
        rw [get_succ, get_map_gmul]
        by_cases h : i < l.length
        · rw [if_pos (by omega)]; rfl
        · rw [if_neg (by omega), get_out (l := l) (by omega), zero_gmul]) x, h1, h2, gmul_assoc, gmul_add]
theorem addS_get (l one : List UInt8) : ∀ k, k ≤ l.length → ∀ i : Nat, (addS l one k)[i]! = l[i]! ^^^ (if i < k then one[i]! else 0)
  | 0, _, i => by simp [addS]
  | k + 1, h, i => by
    have ih := addS_get l one k (by omega)
    simp only [addS, set_get, addS_len, ih]
    by_cases h1 : k = i
    · subst h1; rw [if_pos (by simp; omega), if_neg (by omega), if_pos (by omega), xor_zero]
    · rw [if_neg (by omega)]
      congr 1
      by_cases h3 : i < k
      · rw [if_pos h3, if_pos (by omega)]
      · rw [if_neg h3, if_neg (by omega)]
theorem pev_addS (l one : List UInt8) (h : one.length ≤ l.length) (x : UInt8) : pev (addS l one one.length) x = pev l x ^^^ pev one x :=
  pev_add l one _ (fun i => by
    rw [addS_get l one _ h i]
    by_cases h3 : i < one.length
    · rw [if_pos h3]
    · rw [if_neg h3, get_out (l := one) (by omega)]) x
theorem refOver_one {d : UInt8} (h : d ≠ 0) : refOver 1 d = ginv d := by rw [refOver_eq _ _ h, one_gmul]
theorem refOver_zero (d : UInt8) : refOver 0 d = 0 := by unfold refOver; rw [refMul_eq, zero_gmul]
theorem refOver_self {d : UInt8} (h : d ≠ 0) : refOver d d = 1 := by rw [refOver_eq _ _ h, gmul_ginv h]
theorem refOne_pev {xs ys : List UInt8} (hn : xs.Nodup) {i : Nat} (hi : i < xs.length) (x : UInt8) : ∀ k, k ≤ xs.length → pev (refOne xs ys i k) x = refThN xs x i ys[i]! k
  | 0, _ => by simp [refOne, refThN, pev, zero_gmul]
  | k + 1, h => by
    have ih := refOne_pev (ys := ys) hn hi x k (by omega)
    unfold refOne refThN
    by_cases hk : k = i
    · rw [if_neg (by simpa using hk), if_neg (by simpa using hk), ih]
    · have hd : xs[i]! ^^^ xs[k]! ≠ 0 := fun e => by
        rw [xor_eq_zero] at e
        rcases Nat.lt_or_gt_of_ne hk with h1 | h1
        · exact nodup_get.1 hn k i h1 hi e.symm
        · exact nodup_get.1 hn i k h1 (by omega) e
      rw [if_pos hk, if_pos hk, pev_times, ih, refMul_eq, refMul_eq, refOver_one hd, refOver_eq _ _ hd, ← gmul_add, gmul_comm (ginv _), xor_c]
theorem refCoS_pev {xs ys : List UInt8} (hn : xs.Nodup) (x : UInt8) : ∀ i, i ≤ xs.length → pev (refCoS xs ys i) x = refThY xs ys x i
  | 0, _ => by simp only [refCoS, refThY]; exact pev_zero _ (get_replicate _) x
  | i + 1, h => by
    unfold refCoS refThY
    rw [pev_addS _ _ (by rw [refOne_len, refCoS_len]; split <;> omega), refCoS_pev hn x i (by omega), refOne_pev hn (by omega) x _ (Nat.le_refl _)]
theorem refThN_other {xs : List UInt8} {i j : Nat} (n0 : UInt8) (hij : j ≠ i) : ∀ k, j < k → refThN xs xs[j]! i n0 k = 0
  | 0, h => by omega
  | k + 1, h => by
    unfold refThN
    by_cases hk : j = k
    · subst hk; rw [if_pos hij, xor_self, refOver_zero, refMul_eq, gmul_zero]
    · split
      · rw [refThN_other n0 hij k (by omega), refMul_eq, zero_gmul]
      · exact refThN_other n0 hij k (by omega)
theorem refThN_self {xs : List UInt8} (hn : xs.Nodup) {i : Nat} (hi : i < xs.length) (n0 : UInt8) : ∀ k, k ≤ xs.length → refThN xs xs[i]! i n0 k = n0
  | 0, _ => rfl
  | k + 1, h => by
    unfold refThN
    split
    · rename_i hk
      have hd : xs[i]! ^^^ xs[k]! ≠ 0 := fun e => by
        rw [xor_eq_zero] at e
        rcases Nat.lt_or_gt_of_ne hk with h1 | h1
        · exact nodup_get.1 hn k i h1 hi e.symm
        · exact nodup_get.1 hn i k h1 (by omega) e
      rw [refThN_self hn hi n0 k (by omega), refOver_self hd, refMul_eq, gmul_one]
    · exact refThN_self hn hi n0 k (by omega)
theorem refThY_at {xs ys : List UInt8} (hn : xs.Nodup) {j : Nat} (hj : j < xs.length) : ∀ i, i ≤ xs.length → refThY xs ys xs[j]! i = if j < i then ys[j]! else 0
  | 0, _ => rfl
  | i + 1, h => by
    unfold refThY
    rw [refThY_at hn hj i (by omega)]
    by_cases hji : j = i
    · subst hji; rw [if_neg (by omega), if_pos (by omega), refThN_self hn hj _ _ (Nat.le_refl _), zero_xor]
    · rw [refThN_other _ hji _ hj, xor_zero]
      by_cases h1 : j < i
      · rw [if_pos h1, if_pos (by omega)]
      · rw [if_neg h1, if_neg (by omega)]
/-- What a polynomial through points is. -/
structure Thr (xs ys l : List UInt8) : Prop where
  len : l.length = xs.length
  at_ : ∀ i, i < xs.length → pev l xs[i]! = ys[i]!
theorem Thr.unique {xs ys l m : List UInt8} (hn : xs.Nodup) (h : Thr xs ys l) (hm : ∀ i : Nat, xs.length ≤ i → m[i]! = 0) (hv : ∀ i, i < xs.length → pev m xs[i]! = ys[i]!) : ∀ i : Nat, l[i]! = m[i]! :=
  interp_unique hn (fun i hi => get_out (by rw [h.len]; exact hi)) hm (fun x hx => by
    obtain ⟨i, hi, rfl⟩ := List.getElem_of_mem hx
    have h1 := h.at_ i hi
    have h2 := hv i hi
    rw [getElem!_pos xs i hi] at h1 h2
    rw [h1, h2])
theorem Thr.eq {xs ys l m : List UInt8} (hn : xs.Nodup) (h : Thr xs ys l) (k : Thr xs ys m) : l = m :=
  ext_get (by rw [h.len, k.len]) (h.unique hn (fun i hi => get_out (by rw [k.len]; exact hi)) k.at_)
theorem ref_thr {xs ys : List UInt8} (hn : xs.Nodup) : Thr xs ys (refCoS xs ys xs.length) :=
  ⟨refCoS_len xs ys _, fun i hi => by rw [refCoS_pev hn _ _ (Nat.le_refl _), refThY_at hn hi _ (Nat.le_refl _), if_pos hi]⟩

/-! ### the program's interpolation -/
theorem zrS_get (p : List UInt8) (x : UInt8) : ∀ j, j ≤ p.length → ∀ i : Nat, (zrS p x j)[i]! = if p.length - j ≤ i ∧ i < p.length then gmul p[i]! x ^^^ (if 0 < i then p[i - 1]! else 0) else p[i]!
  | 0, _, i => by rw [zrS, if_neg (by omega)]
  | j + 1, h, i => by
    have ih := zrS_get p x j (by omega)
    have hl := zrS_len p x j
    unfold zrS
    simp only
    by_cases h1 : p.length - 1 - j = i
    · subst h1
      by_cases h0 : 0 < p.length - 1 - j
      · rw [if_pos h0]
        rw [set_get, List.length_set, hl, if_pos ⟨rfl, by omega⟩, set_get, hl, if_pos ⟨rfl, by omega⟩, set_get, if_neg (by omega), ih, ih, if_neg (by omega), if_neg (by omega), if_pos ⟨by omega, by omega⟩, if_pos h0]
      · rw [if_neg h0]
        rw [set_get, hl, if_pos ⟨rfl, by omega⟩, ih, if_neg (by omega), if_pos ⟨by omega, by omega⟩, if_neg h0, xor_zero]
    · have e : ∀ v u : UInt8, (if 0 < p.length - 1 - j then ((zrS p x j).set (p.length - 1 - j) v).set (p.length - 1 - j) u else (zrS p x j).set (p.length - 1 - j) v)[i]! = (zrS p x j)[i]! := fun v u => by
        split
        · rw [set_get, if_neg (by omega), set_get, if_neg (by omega)]
        · rw [set_get, if_neg (by omega)]
      rw [e, ih]
      by_cases h2 : p.length - j ≤ i ∧ i < p.length
      · rw [if_pos h2, if_pos (show p.length - (j + 1) ≤ i ∧ i < p.length by omega)]
      · rw [if_neg h2, if_neg (by omega)]
theorem zrO_get (xs : List UInt8) (k i : Nat) : (zrO xs (k + 1))[i]! = gmul (zrO xs k)[i]! xs[k]! ^^^ (if 0 < i then (zrO xs k)[i - 1]! else 0) := by
  have hl := zrO_len xs k
  have e : ∀ i : Nat, (zrO xs k ++ [0])[i]! = (zrO xs k)[i]! := fun i => by
    rw [get_append]
    by_cases h : i < (zrO xs k).length
    · rw [if_pos h]
    · rw [if_neg h, get_out (l := zrO xs k) (by omega)]
      by_cases h2 : i = (zrO xs k).length
      · subst h2; rw [Nat.sub_self]; rfl
      · exact get_out (by simp; omega)
  rw [zrO, zrS_get _ _ _ (Nat.le_refl _) i, e, e]
  by_cases h : i < (zrO xs k ++ [0]).length
  · rw [if_pos ⟨by omega, h⟩]
  · rw [if_neg (by omega)]
    simp only [List.length_append, List.length_singleton] at h
    rw [get_out (l := zrO xs k) (by omega), zero_gmul]
    split
    · rw [get_out (l := zrO xs k) (by omega)]; rfl
    · rfl
theorem zrO_pev (xs : List UInt8) (k : Nat) (x : UInt8) : pev (zrO xs (k + 1)) x = gmul (pev (zrO xs k) x) (x ^^^ xs[k]!) := by
  have h1 : pev ((zrO xs k).map (gmul · xs[k]!)) x = gmul (pev (zrO xs k) x) xs[k]! := pev_mul _ _ _ (fun i => get_map_gmul _ _ i) x
  have h2 : pev (0 :: zrO xs k) x = gmul (pev (zrO xs k) x) x := by rw [pev_cons, xor_zero]
  rw [pev_add ((zrO xs k).map (gmul · xs[k]!)) (0 :: zrO xs k) (zrO xs (k + 1)) (fun i => by
    rw [zrO_get, get_map_gmul]
    congr 1
    cases i with
    | zero => rfl
    | succ i => rw [get_succ, if_pos (by omega)]; rfl) x, h1, h2, ← gmul_add, xor_c]
theorem zrO_lead (xs : List UInt8) : ∀ k, (zrO xs k)[k]! = 1
  | 0 => rfl
  | k + 1 => by
    rw [zrO_get, get_out (l := zrO xs k) (by rw [zrO_len]; omega), zero_gmul, zero_xor, if_pos (by omega)]
    exact zrO_lead xs k
theorem zrO_root {xs : List UInt8} {j : Nat} : ∀ k, j < k → pev (zrO xs k) xs[j]! = 0
  | 0, h => by omega
  | k + 1, h => by
    rw [zrO_pev]
    by_cases hj : j = k
    · subst hj; rw [xor_self, gmul_zero]
    · rw [zrO_root k (by omega), zero_gmul]
theorem sdC_eq {p : List UInt8} {x : UInt8} {n : Nat} (hp : p.length = n + 1) : ∀ j, j ≤ n → sdC p x n j = pev (p.drop (n + 1 - j)) x
  | 0, _ => by rw [Nat.sub_zero, ← hp, List.drop_length]; rfl
  | j + 1, h => by
    unfold sdC
    rw [sdC_eq hp j (by omega), pev_head p x (n + 1 - (j + 1)), show n + 1 - (j + 1) + 1 = n + 1 - j by omega, xor_c, show n - 1 - j + 1 = n + 1 - (j + 1) by omega]
theorem sdQ_get {q0 p : List UInt8} {x : UInt8} {n : Nat} (hq : q0.length = n) : ∀ j, j ≤ n → ∀ i : Nat, (sdQ q0 p x n j)[i]! = if n - j ≤ i ∧ i < n then sdC p x n (n - i) else q0[i]!
  | 0, _, i => by rw [sdQ, if_neg (by omega)]
  | j + 1, h, i => by
    unfold sdQ
    rw [set_get, sdQ_len, sdQ_get hq j (by omega)]
    by_cases h1 : n - 1 - j = i
    · rw [if_pos ⟨h1, by omega⟩, if_pos (by omega)]; congr 1; omega
    · rw [if_neg (by omega)]
      by_cases h2 : n - j ≤ i ∧ i < n
      · rw [if_pos h2, if_pos (by omega)]
      · rw [if_neg h2, if_neg (by omega)]
theorem sdQ_eq {q0 p : List UInt8} {x : UInt8} {n : Nat} (hq : q0.length = n) (hp : p.length = n + 1) : ∀ i : Nat, (sdQ q0 p x n n)[i]! = (sd x p)[i]! := by
  intro i
  rw [sdQ_get hq n (Nat.le_refl _), sd_get]
  by_cases h : i < n
  · rw [if_pos (by omega), sdC_eq hp _ (by omega), show n + 1 - (n - i) = i + 1 by omega]
  · rw [if_neg (by omega), get_out (by omega), List.drop_eq_nil_of_le (by omega)]; rfl
theorem adF_get (l q : List UInt8) (f : UInt8) : ∀ k, k ≤ l.length → ∀ i : Nat, (adF l q f k)[i]! = l[i]! ^^^ (if i < k then gmul q[i]! f else 0)
  | 0, _, i => by simp [adF]
  | k + 1, h, i => by
    have ih := adF_get l q f k (by omega)
    simp only [adF, set_get, adF_len, ih]
    by_cases h1 : k = i
    · subst h1; rw [if_pos (by simp; omega), if_neg (by omega), if_pos (by omega), xor_zero]
    · rw [if_neg (by omega)]
      congr 1
      by_cases h3 : i < k
      · rw [if_pos h3, if_pos (by omega)]
      · rw [if_neg h3, if_neg (by omega)]
theorem pev_adF {l q : List UInt8} {f : UInt8} {n : Nat} (hl : l.length = n) (hq : q.length = n) (x : UInt8) : pev (adF l q f n) x = pev l x ^^^ gmul (pev q x) f := by
  rw [pev_add l (q.map (gmul · f)) _ (fun i => by
    rw [adF_get l q f _ (by omega) i, get_map_gmul]
    by_cases h3 : i < n
    · rw [if_pos h3]
    · rw [if_neg h3, get_out (l := q) (by omega), zero_gmul]) x, pev_mul f q _ (fun i => get_map_gmul q f i) x]
/-- The quotient by x + xs[i]: 0 at the other places, and not at this one. -/
theorem coQ_pev {xs : List UInt8} {i : Nat} (hi : i < xs.length) (x : UInt8) : pev (coQ (zeros xs) xs xs.length (i + 1)) x = pev (sd xs[i]! (zeros xs)) x :=
  pev_congr _ _ (fun j => by rw [coQ]; exact sdQ_eq (coQ_len _ _ _ _) (zeros_len xs) j) x
theorem coQ_other {xs : List UInt8} (hn : xs.Nodup) {i j : Nat} (hi : i < xs.length) (hj : j < xs.length) (hij : j ≠ i) : pev (coQ (zeros xs) xs xs.length (i + 1)) xs[j]! = 0 := by
  rw [coQ_pev hi]
  have h1 := sd_ident xs[i]! xs[j]! (zeros xs)
  rw [show pev (zeros xs) xs[j]! = 0 from zrO_root _ hj, show pev (zeros xs) xs[i]! = 0 from zrO_root _ hi, xor_zero] at h1
  rcases gmul_eq_zero.1 h1.symm with h2 | h2
  · rw [xor_eq_zero] at h2
    rcases Nat.lt_or_gt_of_ne hij with h3 | h3
    · exact absurd h2 (nodup_get.1 hn j i h3 hi)
    · exact absurd h2.symm (nodup_get.1 hn i j h3 hj)
  · exact h2
theorem coQ_self {xs : List UInt8} (hn : xs.Nodup) {i : Nat} (hi : i < xs.length) : pev (coQ (zeros xs) xs xs.length (i + 1)) xs[i]! ≠ 0 := by
  intro e
  have hz := roots_zero xs hn (coQ (zeros xs) xs xs.length (i + 1)) (fun j hj => get_out (by rw [coQ_len]; exact hj)) (fun x hx => by
    obtain ⟨j, hj, rfl⟩ := List.getElem_of_mem hx
    by_cases hji : j = i
    · subst hji; rw [getElem!_pos xs j hj] at e; exact e
    · have := coQ_other hn hi hj hji
      rwa [getElem!_pos xs j hj] at this) (xs.length - 1)
  rw [coQ, sdQ_eq (coQ_len _ _ _ _) (zeros_len xs), sd_get, show xs.length - 1 + 1 = xs.length by omega, pev_head, List.drop_eq_nil_of_le (by rw [zeros_len]; omega), pev_nil, zero_gmul, zero_xor] at hz
  rw [zeros, zrO_lead] at hz
  exact absurd hz (by decide)
theorem coL_at {xs ys : List UInt8} (hn : xs.Nodup) {j : Nat} (hj : j < xs.length) : ∀ i, i ≤ xs.length → pev (coL (zeros xs) xs ys xs.length i) xs[j]! = if j < i then ys[j]! else 0
  | 0, _ => by simp only [coL]; rw [pev_zero _ (get_replicate _)]; rfl
  | i + 1, h => by
    unfold coL
    rw [pev_adF (coL_len _ _ _ _ _) (coQ_len _ _ _ _), coL_at hn hj i (by omega)]
    by_cases hji : j = i
    · subst hji
      rw [if_neg (by omega), if_pos (by omega), zero_xor, gmul_lc, gmul_ginv (coQ_self hn hj), gmul_one]
    · rw [coQ_other hn (by omega) hj hji, zero_gmul, xor_zero]
      by_cases h1 : j < i
      · rw [if_pos h1, if_pos (by omega)]
      · rw [if_neg h1, if_neg (by omega)]
theorem co_thr {xs ys : List UInt8} (hn : xs.Nodup) : Thr xs ys (coL (zeros xs) xs ys xs.length xs.length) :=
  ⟨coL_len _ _ _ _ _, fun i hi => by rw [coL_at hn hi _ (Nat.le_refl _), if_pos hi]⟩
theorem coeff_ok {xs ys : List UInt8} (h : wrongM xs ys = false) : (coeff xs ys).2 = 0 ∧ Thr xs ys (coeff xs ys).1 ∧ xs.length = ys.length ∧ xs.Nodup := by
  have h' := (wrong_iff xs ys).1 h
  unfold coeff; rw [h]
  exact ⟨rfl, co_thr h'.2, h'⟩
theorem coeff_bad {xs ys : List UInt8} (h : wrongM xs ys = true) : coeff xs ys = ([], 1) := by unfold coeff; rw [h]; rfl
theorem refCoeff_eq (xs ys : List UInt8) : refCoeff xs ys = coeff xs ys := by
  unfold refCoeff coeff
  rw [refPoints_eq]
  cases h : wrongM xs ys with
  | true => rfl
  | false =>
    have h' := (wrong_iff xs ys).1 h
    simp only [Bool.not_false, Bool.not_true]
    exact Prod.ext ((ref_thr h'.2).eq h'.2 (co_thr h'.2)) rfl
theorem through_ok {xs ys : List UInt8} (at_ : UInt8) (h : wrongM xs ys = false) : through xs ys at_ = (pev (coeff xs ys).1 at_, 0) := by
  unfold through; rw [(coeff_ok h).1]; rfl
theorem through_bad {xs ys : List UInt8} (at_ : UInt8) (h : wrongM xs ys = true) : through xs ys at_ = (0, 1) := by
  unfold through; rw [coeff_bad h]; rfl
theorem refThrough_eq (xs ys : List UInt8) (at_ : UInt8) : refThrough xs ys at_ = through xs ys at_ := by
  unfold refThrough
  rw [refPoints_eq]
  cases h : wrongM xs ys with
  | true => rw [through_bad at_ h]; rfl
  | false =>
    have h' := (wrong_iff xs ys).1 h
    rw [through_ok at_ h]
    simp only [Bool.not_false, Bool.not_true]
    rw [← refCoeff_eq]
    unfold refCoeff
    rw [refPoints_eq, h]
    show (refThY xs ys at_ xs.length, (0 : Int)) = (pev (refCoS xs ys xs.length) at_, 0)
    rw [refCoS_pev h'.2 _ _ (Nat.le_refl _)]
end Go.Proofs.Yteajcgfcnbdmgaa
