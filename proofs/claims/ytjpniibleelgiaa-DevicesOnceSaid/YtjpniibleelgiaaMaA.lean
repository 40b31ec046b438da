/- Plain mathematics of the field with 256 elements: what the two programs compute. No program in sight. -/
import Derived.Test.YtjpniibleelgiaaFwG
set_option linter.unusedSimpArgs false
set_option linter.unusedVariables false
namespace Go.Proofs.Ytjpniibleelgiaa
open Go.Fw

/-- A search from i on, over m numbers: the first answer, or d. -/
def scan {β : Type} (f : Nat → Option β) (d : β) : Nat → Nat → β
  | _, 0 => d
  | i, m + 1 => match f i with | some r => r | none => scan f d (i + 1) m
theorem scan_none {β : Type} {f : Nat → Option β} {d : β} {i n : Nat} (h : i < n) (hf : f i = none) : scan f d i (n - i) = scan f d (i + 1) (n - (i + 1)) := by
  rw [show n - i = (n - (i + 1)) + 1 by omega]; simp [scan, hf]
theorem scan_some {β : Type} {f : Nat → Option β} {d r : β} {i n : Nat} (h : i < n) (hf : f i = some r) : scan f d i (n - i) = r := by
  rw [show n - i = (n - (i + 1)) + 1 by omega]; simp [scan, hf]
theorem scan_end {β : Type} {f : Nat → Option β} {d : β} {i n : Nat} (h : n ≤ i) : scan f d i (n - i) = d := by
  rw [show n - i = 0 by omega]; rfl

/-- The product without carries, bit by bit. -/
def cl (a b : Nat) : Nat → Nat
  | 0 => 0
  | i + 1 => if b / 2 ^ i % 2 = 1 then cl a b i ^^^ (a * 2 ^ i) else cl a b i
theorem cl_yes (a b k : Nat) (h : b / 2 ^ k % 2 = 1) : cl a b (k + 1) = cl a b k ^^^ (a * 2 ^ k) := by simp [cl, h]
theorem cl_no (a b k : Nat) (h : b / 2 ^ k % 2 ≠ 1) : cl a b (k + 1) = cl a b k := by simp [cl, h]
theorem mul_lt (a k : Nat) (ha : a < 256) (hk : k < 8) : a * 2 ^ k < 32768 := by
  have h1 : 2 ^ k ≤ 2 ^ 7 := Nat.pow_le_pow_right (by decide) (by omega)
  calc a * 2 ^ k ≤ 255 * 2 ^ 7 := Nat.mul_le_mul (by omega) h1
    _ < 32768 := by decide
theorem cl_lt (a b : Nat) (ha : a < 256) : ∀ k, k ≤ 8 → cl a b k < 32768
  | 0, _ => by simp [cl]
  | k + 1, h => by
    have h1 := cl_lt a b ha k (by omega)
    unfold cl
    split
    · exact Nat.xor_lt_two_pow (n := 15) h1 (mul_lt a k ha (by omega))
    · exact h1
/-- The remainder, bit by bit from the top. -/
def red (p : Nat) : Nat → Nat
  | 0 => p
  | j + 1 => if red p j / 2 ^ (14 - j) % 2 = 1 then red p j ^^^ (283 * 2 ^ (14 - j - 8)) else red p j
theorem red_yes (p j : Nat) (h : red p j / 2 ^ (14 - j) % 2 = 1) : red p (j + 1) = red p j ^^^ (283 * 2 ^ (14 - j - 8)) := by simp [red, h]
theorem red_no (p j : Nat) (h : red p j / 2 ^ (14 - j) % 2 ≠ 1) : red p (j + 1) = red p j := by simp [red, h]
theorem mul_lt2 (k : Nat) (hk : k < 7) : 283 * 2 ^ k < 32768 := by
  have h1 : 2 ^ k ≤ 2 ^ 6 := Nat.pow_le_pow_right (by decide) (by omega)
  calc 283 * 2 ^ k ≤ 283 * 2 ^ 6 := Nat.mul_le_mul (by omega) h1
    _ < 32768 := by decide
theorem red_lt (p : Nat) (hp : p < 32768) : ∀ j, j ≤ 7 → red p j < 32768
  | 0, _ => hp
  | j + 1, h => by
    have h1 := red_lt p hp j (by omega)
    unfold red
    split
    · exact Nat.xor_lt_two_pow (n := 15) h1 (mul_lt2 _ (by omega))
    · exact h1
def refMul (a b : UInt8) : UInt8 := u8of ((red (cl a.toNat b.toNat 8) 7 : Nat) : Int)

def refInv (a : UInt8) : UInt8 × Int := scan (fun b => if refMul a (u8of (b : Int)) == 1 then some (u8of (b : Int), 0) else none) (0, 1) 1 (256 - 1)
def refOver (a b : UInt8) : UInt8 := refMul a (refInv b).1
/-- The value and the next power behind i terms. -/
def refEvalP (l : List UInt8) (x : UInt8) : Nat → UInt8 × UInt8
  | 0 => (0, 1)
  | i + 1 => ((refEvalP l x i).1 ^^^ refMul l[i]! (refEvalP l x i).2, refMul (refEvalP l x i).2 x)
def refEval (l : List UInt8) (x : UInt8) : UInt8 := (refEvalP l x l.length).1
def refPointsIn (xs : List UInt8) (i : Nat) : Bool := scan (fun k => if xs[k]! == xs[i]! then some false else none) true 0 (i - 0)
def refPointsOut (xs : List UInt8) (i m : Nat) : Bool := scan (fun i => if refPointsIn xs i then none else some false) true i m
def refPoints (xs ys : List UInt8) : Bool := if (xs.length : Int) != (ys.length : Int) then false else refPointsOut xs 0 (xs.length - 0)

/-- Two times. -/
def xt (a : UInt8) : UInt8 := if 128 ≤ (a.toNat : Int) then a <<< 1 ^^^ 27 else a <<< 1
def xtn (a : UInt8) : Nat → UInt8
  | 0 => a
  | i + 1 => xt (xtn a i)
def gm (a b : UInt8) : Nat → UInt8
  | 0 => 0
  | i + 1 => if b >>> UInt8.ofNat i &&& 1 == 1 then gm a b i ^^^ xtn a i else gm a b i
theorem gm_yes (a b : UInt8) (i : Nat) (h : b >>> UInt8.ofNat i &&& 1 = 1) : gm a b (i + 1) = gm a b i ^^^ xtn a i := by simp [gm, h]
theorem gm_no (a b : UInt8) (i : Nat) (h : b >>> UInt8.ofNat i &&& 1 ≠ 1) : gm a b (i + 1) = gm a b i := by simp [gm, h]
def gmul (a b : UInt8) : UInt8 := gm a b 8
/-- The multiples that the program keeps, k of them reckoned. -/
def xrow (a : UInt8) (k : Nat) : List UInt8 := (List.range 8).map fun j => if j < k then xtn a j else 0
theorem xrow_len (a : UInt8) (k : Nat) : (xrow a k).length = 8 := by simp [xrow]
theorem xrow_at (a : UInt8) (k j : Nat) (h : j < k) (hk : k ≤ 8) : (xrow a k)[j]! = xtn a j := by
  have : j < (xrow a k).length := by rw [xrow_len]; omega
  rw [getElem!_pos (xrow a k) j this]
  simp [xrow, h]
theorem xrow_set (a x : UInt8) (k : Nat) (hk : k < 8) (hx : x = xtn a k) : (xrow a k).set k x = xrow a (k + 1) := by
  subst hx
  apply List.ext_getElem?
  intro i
  rw [List.getElem?_set, xrow_len]
  by_cases hi : k = i
  · subst hi; simp [xrow, hk]
  · rw [if_neg hi]
    by_cases hi8 : i < 8
    · simp only [xrow, List.getElem?_map, List.getElem?_range hi8, Option.map_some]
      by_cases h1 : i < k
      · rw [if_pos h1, if_pos (by omega)]
      · rw [if_neg h1, if_neg (by omega)]
    · rw [List.getElem?_eq_none (by rw [xrow_len]; omega), List.getElem?_eq_none (by rw [xrow_len]; omega)]
theorem xrow_hi (a : UInt8) (k : Nat) (hk : 0 < k) (hk8 : k < 8) (h : 128 ≤ ((xrow a k)[k - 1]!.toNat : Int)) :
    ((xrow a k).set k ((xrow a k)[k - 1]! <<< 1)).set k (((xrow a k).set k ((xrow a k)[k - 1]! <<< 1))[k]! ^^^ 27) = xrow a (k + 1) := by
  have h1 := xrow_at a k (k - 1) (by omega) (by omega)
  have h2 : ((xrow a k).set k ((xrow a k)[k - 1]! <<< 1))[k]! = (xrow a k)[k - 1]! <<< 1 := by
    rw [getElem!_pos ((xrow a k).set k ((xrow a k)[k - 1]! <<< 1)) k (by rw [List.length_set, xrow_len]; omega), List.getElem_set_self]
  rw [h2, List.set_set, h1]
  refine xrow_set a _ k hk8 ?_
  obtain ⟨q, rfl⟩ : ∃ q, k = q + 1 := ⟨k - 1, by omega⟩
  rw [h1] at h
  have h' : 128 ≤ ((xtn a q).toNat : Int) := h
  show xtn a q <<< 1 ^^^ 27 = xt (xtn a q)
  unfold xt; rw [if_pos h']
theorem xrow_lo (a : UInt8) (k : Nat) (hk : 0 < k) (hk8 : k < 8) (h : ((xrow a k)[k - 1]!.toNat : Int) < 128) :
    (xrow a k).set k ((xrow a k)[k - 1]! <<< 1) = xrow a (k + 1) := by
  have h1 := xrow_at a k (k - 1) (by omega) (by omega)
  rw [h1] at h ⊢
  refine xrow_set a _ k hk8 ?_
  obtain ⟨q, rfl⟩ : ∃ q, k = q + 1 := ⟨k - 1, by omega⟩
  have h' : ((xtn a q).toNat : Int) < 128 := h
  show xtn a q <<< 1 = xt (xtn a q)
  unfold xt; rw [if_neg (by omega)]
def gpow (a : UInt8) : Nat → UInt8
  | 0 => 1
  | k + 1 => gmul (gpow a k) a
def ginv (a : UInt8) : UInt8 := gpow a 254
theorem ginv_at (a : UInt8) (i : Nat) (h : i = 254) : ginv a = gpow a i := by rw [h]; unfold ginv; with_reducible rfl
/-- The value of a polynomial, from the last coefficient on. -/
def pev (l : List UInt8) (x : UInt8) : UInt8 := l.foldr (fun c y => gmul y x ^^^ c) 0
theorem drop_cons {l : List UInt8} {k : Nat} (h : k < l.length) : l.drop k = l[k]! :: l.drop (k + 1) := by
  rw [getElem!_pos l k h]; exact List.drop_eq_getElem_cons h
theorem pev_drop {l : List UInt8} {k : Nat} {x : UInt8} (h : k < l.length) : pev (l.drop k) x = gmul (pev (l.drop (k + 1)) x) x ^^^ l[k]! := by
  rw [drop_cons h]; rfl

/-! ### the reference's interpolation -/
def refThN (xs : List UInt8) (at_ : UInt8) (i : Nat) (n0 : UInt8) : Nat → UInt8
  | 0 => n0
  | k + 1 => if k ≠ i then refMul (refThN xs at_ i n0 k) (refOver (at_ ^^^ xs[k]!) (xs[i]! ^^^ xs[k]!)) else refThN xs at_ i n0 k
theorem refThN_yes {xs : List UInt8} {at_ : UInt8} {i k : Nat} {n0 : UInt8} (h : (k : Int) ≠ (i : Int)) : refThN xs at_ i n0 (k + 1) = refMul (refThN xs at_ i n0 k) (refOver (at_ ^^^ xs[k]!) (xs[i]! ^^^ xs[k]!)) := by
  have : k ≠ i := by omega
  simp [refThN, this]
theorem refThN_no {xs : List UInt8} {at_ : UInt8} {i k : Nat} {n0 : UInt8} (h : (k : Int) = (i : Int)) : refThN xs at_ i n0 (k + 1) = refThN xs at_ i n0 k := by
  have : k = i := by omega
  simp [refThN, this]
def refThY (xs ys : List UInt8) (at_ : UInt8) : Nat → UInt8
  | 0 => 0
  | i + 1 => refThY xs ys at_ i ^^^ refThN xs at_ i ys[i]! xs.length
def refThrough (xs ys : List UInt8) (at_ : UInt8) : UInt8 × Int := if !refPoints xs ys then (0, 1) else (refThY xs ys at_ xs.length, 0)
theorem refPoints_len {xs ys : List UInt8} (h : refPoints xs ys = true) : xs.length = ys.length := by
  unfold refPoints at h
  by_cases e : (xs.length : Int) = (ys.length : Int)
  · omega
  · simp [e] at h
def tmS (l : List UInt8) (a b : UInt8) : Nat → List UInt8
  | 0 => List.replicate (l.length + 1) 0
  | k + 1 => ((tmS l a b k).set k ((tmS l a b k)[k]! ^^^ refMul l[k]! a)).set (k + 1) (((tmS l a b k).set k ((tmS l a b k)[k]! ^^^ refMul l[k]! a))[k + 1]! ^^^ refMul l[k]! b)
theorem tmS_len (l : List UInt8) (a b : UInt8) : ∀ k, (tmS l a b k).length = l.length + 1
  | 0 => by simp [tmS]
  | k + 1 => by simp [tmS, tmS_len l a b k]
def times (l : List UInt8) (a b : UInt8) : List UInt8 := tmS l a b l.length
theorem times_len (l : List UInt8) (a b : UInt8) : (times l a b).length = l.length + 1 := tmS_len l a b _
def refOne (xs ys : List UInt8) (i : Nat) : Nat → List UInt8
  | 0 => [ys[i]!]
  | k + 1 => if k ≠ i then times (refOne xs ys i k) (refMul (refOver 1 (xs[i]! ^^^ xs[k]!)) xs[k]!) (refOver 1 (xs[i]! ^^^ xs[k]!)) else refOne xs ys i k
theorem refOne_yes {xs ys : List UInt8} {i k : Nat} (h : (k : Int) ≠ (i : Int)) : refOne xs ys i (k + 1) = times (refOne xs ys i k) (refMul (refOver 1 (xs[i]! ^^^ xs[k]!)) xs[k]!) (refOver 1 (xs[i]! ^^^ xs[k]!)) := by
  have : k ≠ i := by omega
  simp [refOne, this]
theorem refOne_no {xs ys : List UInt8} {i k : Nat} (h : (k : Int) = (i : Int)) : refOne xs ys i (k + 1) = refOne xs ys i k := by
  have : k = i := by omega
  simp [refOne, this]
theorem refOne_len (xs ys : List UInt8) (i : Nat) : ∀ k, (refOne xs ys i k).length = if i < k then k else k + 1
  | 0 => by simp [refOne]
  | k + 1 => by
    have ih := refOne_len xs ys i k
    unfold refOne
    by_cases h : k = i
    · subst h; simp [ih]
    · rw [if_pos h, times_len, ih]
      by_cases h2 : i < k
      · rw [if_pos h2, if_pos (by omega)]
      · rw [if_neg h2, if_neg (by omega)]
def addS (l one : List UInt8) : Nat → List UInt8
  | 0 => l
  | k + 1 => (addS l one k).set k ((addS l one k)[k]! ^^^ one[k]!)
theorem addS_len (l one : List UInt8) : ∀ k, (addS l one k).length = l.length
  | 0 => rfl
  | k + 1 => by simp [addS, addS_len l one k]
def refCoS (xs ys : List UInt8) : Nat → List UInt8
  | 0 => List.replicate xs.length 0
  | i + 1 => addS (refCoS xs ys i) (refOne xs ys i xs.length) (refOne xs ys i xs.length).length
theorem refCoS_len (xs ys : List UInt8) : ∀ i, (refCoS xs ys i).length = xs.length
  | 0 => by simp [refCoS]
  | i + 1 => by simp [refCoS, addS_len, refCoS_len xs ys i]
def refCoeff (xs ys : List UInt8) : List UInt8 × Int := if !refPoints xs ys then ([], 1) else (refCoS xs ys xs.length, 0)

/-! ### the program's interpolation -/
def twice (xs : List UInt8) (m : Nat) : Bool := scan (fun k => if (xs.take k).contains xs[k]! then some true else none) false 0 (m - 0)
def wrongM (xs ys : List UInt8) : Bool := if (xs.length : Int) != (ys.length : Int) then true else twice xs xs.length
theorem take_snoc {l : List UInt8} {k : Nat} (h : k < l.length) : l.take (k + 1) = l.take k ++ [l[k]!] := by
  rw [getElem!_pos l k h, List.take_succ_eq_append_getElem h]
def zrS (p : List UInt8) (x : UInt8) : Nat → List UInt8
  | 0 => p
  | j + 1 =>
    let i := p.length - 1 - j
    let y := (zrS p x j).set i (gmul (zrS p x j)[i]! x)
    if 0 < i then y.set i (y[i]! ^^^ y[i - 1]!) else y
theorem zrS_len (p : List UInt8) (x : UInt8) : ∀ j, (zrS p x j).length = p.length
  | 0 => rfl
  | j + 1 => by
    unfold zrS; simp only; split <;> simp [zrS_len p x j]
theorem zrS_pos {p : List UInt8} {x : UInt8} {m q : Nat} (hm : m = p.length) (h : q + 1 ≤ m) (hq : 0 < (q : Int)) :
    zrS p x (m - q) = ((zrS p x (m - (q + 1))).set q (gmul (zrS p x (m - (q + 1)))[q]! x)).set q (((zrS p x (m - (q + 1))).set q (gmul (zrS p x (m - (q + 1)))[q]! x))[q]! ^^^ ((zrS p x (m - (q + 1))).set q (gmul (zrS p x (m - (q + 1)))[q]! x))[q - 1]!) := by
  subst hm
  rw [show p.length - q = (p.length - (q + 1)) + 1 by omega]
  have e : p.length - 1 - (p.length - (q + 1)) = q := by omega
  conv => lhs; unfold zrS
  simp only [e]
  rw [if_pos (by omega)]
theorem zrS_zero {p : List UInt8} {x : UInt8} {m q : Nat} (hm : m = p.length) (h : q + 1 ≤ m) (hq : (q : Int) ≤ 0) :
    zrS p x (m - q) = (zrS p x (m - (q + 1))).set q (gmul (zrS p x (m - (q + 1)))[q]! x) := by
  subst hm
  rw [show p.length - q = (p.length - (q + 1)) + 1 by omega]
  have e : p.length - 1 - (p.length - (q + 1)) = q := by omega
  conv => lhs; unfold zrS
  simp only [e]
  rw [if_neg (by omega)]
def zrO (xs : List UInt8) : Nat → List UInt8
  | 0 => [1]
  | k + 1 => zrS (zrO xs k ++ [0]) xs[k]! (zrO xs k ++ [0]).length
theorem zrO_len (xs : List UInt8) : ∀ k, (zrO xs k).length = k + 1
  | 0 => rfl
  | k + 1 => by simp [zrO, zrS_len, zrO_len xs k]
def zeros (xs : List UInt8) : List UInt8 := zrO xs xs.length
theorem zeros_len (xs : List UInt8) : (zeros xs).length = xs.length + 1 := zrO_len xs _
def sdC (p : List UInt8) (x : UInt8) (n : Nat) : Nat → UInt8
  | 0 => 0
  | j + 1 => p[n - 1 - j + 1]! ^^^ gmul (sdC p x n j) x
def sdQ (q0 p : List UInt8) (x : UInt8) (n : Nat) : Nat → List UInt8
  | 0 => q0
  | j + 1 => (sdQ q0 p x n j).set (n - 1 - j) (sdC p x n (j + 1))
theorem sdQ_len (q0 p : List UInt8) (x : UInt8) (n : Nat) : ∀ j, (sdQ q0 p x n j).length = q0.length
  | 0 => rfl
  | j + 1 => by simp [sdQ, sdQ_len q0 p x n j]
theorem sdC_step {p : List UInt8} {x : UInt8} {n q : Nat} (h : q + 1 ≤ n) : sdC p x n (n - q) = p[q + 1]! ^^^ gmul (sdC p x n (n - (q + 1))) x := by
  rw [show n - q = (n - (q + 1)) + 1 by omega]
  conv => lhs; unfold sdC
  rw [show n - 1 - (n - (q + 1)) = q by omega]
theorem sdQ_step {q0 p : List UInt8} {x : UInt8} {n q : Nat} (h : q + 1 ≤ n) : sdQ q0 p x n (n - q) = (sdQ q0 p x n (n - (q + 1))).set q (p[q + 1]! ^^^ gmul (sdC p x n (n - (q + 1))) x) := by
  rw [← sdC_step h, show n - q = (n - (q + 1)) + 1 by omega]
  conv => lhs; unfold sdQ
  rw [show n - 1 - (n - (q + 1)) = q by omega]
def adF (l q : List UInt8) (f : UInt8) : Nat → List UInt8
  | 0 => l
  | k + 1 => (adF l q f k).set k ((adF l q f k)[k]! ^^^ gmul q[k]! f)
theorem adF_len (l q : List UInt8) (f : UInt8) : ∀ k, (adF l q f k).length = l.length
  | 0 => rfl
  | k + 1 => by simp [adF, adF_len l q f k]
def coQ (p xs : List UInt8) (n : Nat) : Nat → List UInt8
  | 0 => List.replicate n 0
  | i + 1 => sdQ (coQ p xs n i) p xs[i]! n n
theorem coQ_len (p xs : List UInt8) (n : Nat) : ∀ i, (coQ p xs n i).length = n
  | 0 => by simp [coQ]
  | i + 1 => by simp [coQ, sdQ_len, coQ_len p xs n i]
def coL (p xs ys : List UInt8) (n : Nat) : Nat → List UInt8
  | 0 => List.replicate n 0
  | i + 1 => adF (coL p xs ys n i) (coQ p xs n (i + 1)) (gmul ys[i]! (ginv (pev (coQ p xs n (i + 1)) xs[i]!))) n
theorem coL_len (p xs ys : List UInt8) (n : Nat) : ∀ i, (coL p xs ys n i).length = n
  | 0 => by simp [coL]
  | i + 1 => by simp [coL, adF_len, coL_len p xs ys n i]
def coeff (xs ys : List UInt8) : List UInt8 × Int := if wrongM xs ys then ([], 1) else (coL (zeros xs) xs ys xs.length xs.length, 0)
theorem wrongM_len {xs ys : List UInt8} (h : wrongM xs ys = false) : xs.length = ys.length := by
  unfold wrongM at h
  by_cases e : (xs.length : Int) = (ys.length : Int)
  · omega
  · simp [e] at h
def through (xs ys : List UInt8) (at_ : UInt8) : UInt8 × Int := if (coeff xs ys).2 != 0 then (0, (coeff xs ys).2) else (pev (coeff xs ys).1 at_, 0)
def inv (a : UInt8) : UInt8 × Int := if a == 0 then (0, 1) else (ginv a, 0)
end Go.Proofs.Ytjpniibleelgiaa
