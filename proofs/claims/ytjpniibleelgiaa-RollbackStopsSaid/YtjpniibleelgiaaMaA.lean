/- Plain mathematics of the field with 256 elements: what the two programs compute. No program in sight. -/
import Derived.Test.YtjpniibleelgiaaFwG
set_option linter.unusedSimpArgs false
set_option linter.unusedVariables false
namespace Go.Proofs.Ytjpniibleelgiaa
open Go.Fw

/-- A search from i on, over m numbers: the first answer, or d. -/
def scan {β : Type} (f : Nat → Option β) (d : β) : Nat → Nat → β
  | _, 0 => d
  | i, m + 1 => match f i with | some r => r | none => scan f d (i + 1) m
theorem scan_none {β : Type} {f : Nat → Option β} {d : β} {i n : Nat} (h : i < n) (hf : f i = none) : scan f d i (n - i) = scan f d (i + 1) (n - (i + 1)) := by
  rw [show n - i = (n - (i + 1)) + 1 by omega]; simp [scan, hf]
theorem scan_some {β : Type} {f : Nat → Option β} {d r : β} {i n : Nat} (h : i < n) (hf : f i = some r) : scan f d i (n - i) = r := by
  rw [show n - i = (n - (i + 1)) + 1 by omega]; simp [scan, hf]
theorem scan_end {β : Type} {f : Nat → Option β} {d : β} {i n : Nat} (h : n ≤ i) : scan f d i (n - i) = d := by
  rw [show n - i = 0 by omega]; rfl

/-- The product without carries, bit by bit. -/
def cl (a b : Nat) : Nat → Nat
  | 0 => 0
  | i + 1 => if b / 2 ^ i % 2 = 1 then cl a b i ^^^ (a * 2 ^ i) else cl a b i
/-- The remainder, bit by bit from the top. -/
def red (p : Nat) : Nat → Nat
  | 0 => p
  | j + 1 => if red p j / 2 ^ (14 - j) % 2 = 1 then red p j ^^^ (283 * 2 ^ (14 - j - 8)) else red p j
def refMul (a b : UInt8) : UInt8 := u8of ((red (cl a.toNat b.toNat 8) 7 : Nat) : Int)

def refInv (a : UInt8) : UInt8 × Int := scan (fun b => if refMul a (u8of (b : Int)) == 1 then some (u8of (b : Int), 0) else none) (0, 1) 1 (256 - 1)
def refOver (a b : UInt8) : UInt8 := refMul a (refInv b).1
/-- The value and the next power behind i terms. -/
def refEvalP (l : List UInt8) (x : UInt8) : Nat → UInt8 × UInt8
  | 0 => (0, 1)
  | i + 1 => ((refEvalP l x i).1 ^^^ refMul l[i]! (refEvalP l x i).2, refMul (refEvalP l x i).2 x)
def refEval (l : List UInt8) (x : UInt8) : UInt8 := (refEvalP l x l.length).1
def refPointsIn (xs : List UInt8) (i : Nat) : Bool := scan (fun k => if xs[k]! == xs[i]! then some false else none) true 0 (i - 0)
def refPointsOut (xs : List UInt8) (i m : Nat) : Bool := scan (fun i => if refPointsIn xs i then none else some false) true i m
def refPoints (xs ys : List UInt8) : Bool := if (xs.length : Int) != (ys.length : Int) then false else refPointsOut xs 0 (xs.length - 0)

/-- Two times. -/
def xt (a : UInt8) : UInt8 := if 128 ≤ (a.toNat : Int) then a <<< 1 ^^^ 27 else a <<< 1
def xtn (a : UInt8) : Nat → UInt8
  | 0 => a
  | i + 1 => xt (xtn a i)
def gm (a b : UInt8) : Nat → UInt8
  | 0 => 0
  | i + 1 => if b >>> UInt8.ofNat i &&& 1 == 1 then gm a b i ^^^ xtn a i else gm a b i
def gmul (a b : UInt8) : UInt8 := gm a b 8
/-- The multiples that the program keeps, k of them reckoned. -/
def xrow (a : UInt8) (k : Nat) : List UInt8 := (List.range 8).map fun j => if j < k then xtn a j else 0
def gpow (a : UInt8) : Nat → UInt8
  | 0 => 1
  | k + 1 => gmul (gpow a k) a
def ginv (a : UInt8) : UInt8 := gpow a 254
/-- The value of a polynomial, from the last coefficient on. -/
def pev (l : List UInt8) (x : UInt8) : UInt8 := l.foldr (fun c y => gmul y x ^^^ c) 0
/-! ### the reference's interpolation -/
def refThN (xs : List UInt8) (at_ : UInt8) (i : Nat) (n0 : UInt8) : Nat → UInt8
  | 0 => n0
  | k + 1 => if k ≠ i then refMul (refThN xs at_ i n0 k) (refOver (at_ ^^^ xs[k]!) (xs[i]! ^^^ xs[k]!)) else refThN xs at_ i n0 k
def refThY (xs ys : List UInt8) (at_ : UInt8) : Nat → UInt8
  | 0 => 0
  | i + 1 => refThY xs ys at_ i ^^^ refThN xs at_ i ys[i]! xs.length
def refThrough (xs ys : List UInt8) (at_ : UInt8) : UInt8 × Int := if !refPoints xs ys then (0, 1) else (refThY xs ys at_ xs.length, 0)
def tmS (l : List UInt8) (a b : UInt8) : Nat → List UInt8
  | 0 => List.replicate (l.length + 1) 0
  | k + 1 => ((tmS l a b k).set k ((tmS l a b k)[k]! ^^^ refMul l[k]! a)).set (k + 1) (((tmS l a b k).set k ((tmS l a b k)[k]! ^^^ refMul l[k]! a))[k + 1]! ^^^ refMul l[k]! b)
def times (l : List UInt8) (a b : UInt8) : List UInt8 := tmS l a b l.length
def refOne (xs ys : List UInt8) (i : Nat) : Nat → List UInt8
  | 0 => [ys[i]!]
  | k + 1 => if k ≠ i then times (refOne xs ys i k) (refMul (refOver 1 (xs[i]! ^^^ xs[k]!)) xs[k]!) (refOver 1 (xs[i]! ^^^ xs[k]!)) else refOne xs ys i k
def addS (l one : List UInt8) : Nat → List UInt8
  | 0 => l
  | k + 1 => (addS l one k).set k ((addS l one k)[k]! ^^^ one[k]!)
def refCoS (xs ys : List UInt8) : Nat → List UInt8
  | 0 => List.replicate xs.length 0
  | i + 1 => addS (refCoS xs ys i) (refOne xs ys i xs.length) (refOne xs ys i xs.length).length
def refCoeff (xs ys : List UInt8) : List UInt8 × Int := if !refPoints xs ys then ([], 1) else (refCoS xs ys xs.length, 0)

/-! ### the program's interpolation -/
def twice (xs : List UInt8) (m : Nat) : Bool := scan (fun k => if (xs.take k).contains xs[k]! then some true else none) false 0 (m - 0)
def wrongM (xs ys : List UInt8) : Bool := if (xs.length : Int) != (ys.length : Int) then true else twice xs xs.length
def zrS (p : List UInt8) (x : UInt8) : Nat → List UInt8
  | 0 => p
  | j + 1 =>
    let i := p.length - 1 - j
    let y := (zrS p x j).set i (gmul (zrS p x j)[i]! x)
    if 0 < i then y.set i (y[i]! ^^^ y[i - 1]!) else y
def zrO (xs : List UInt8) : Nat → List UInt8
  | 0 => [1]
  | k + 1 => zrS (zrO xs k ++ [0]) xs[k]! (zrO xs k ++ [0]).length
def zeros (xs : List UInt8) : List UInt8 := zrO xs xs.length
def sdC (p : List UInt8) (x : UInt8) (n : Nat) : Nat → UInt8
  | 0 => 0
  | j + 1 => p[n - 1 - j + 1]! ^^^ gmul (sdC p x n j) x
def sdQ (q0 p : List UInt8) (x : UInt8) (n : Nat) : Nat → List UInt8
  | 0 => q0
  | j + 1 => (sdQ q0 p x n j).set (n - 1 - j) (sdC p x n (j + 1))
def adF (l q : List UInt8) (f : UInt8) : Nat → List UInt8
  | 0 => l
  | k + 1 => (adF l q f k).set k ((adF l q f k)[k]! ^^^ gmul q[k]! f)
def coQ (p xs : List UInt8) (n : Nat) : Nat → List UInt8
  | 0 => List.replicate n 0
  | i + 1 => sdQ (coQ p xs n i) p xs[i]! n n
def coL (p xs ys : List UInt8) (n : Nat) : Nat → List UInt8
  | 0 => List.replicate n 0
  | i + 1 => adF (coL p xs ys n i) (coQ p xs n (i + 1)) (gmul ys[i]! (ginv (pev (coQ p xs n (i + 1)) xs[i]!))) n
def coeff (xs ys : List UInt8) : List UInt8 × Int := if wrongM xs ys then ([], 1) else (coL (zeros xs) xs ys xs.length xs.length, 0)
def through (xs ys : List UInt8) (at_ : UInt8) : UInt8 × Int := if (coeff xs ys).2 != 0 then (0, (coeff xs ys).2) else (pev (coeff xs ys).1 at_, 0)
def inv (a : UInt8) : UInt8 × Int := if a == 0 then (0, 1) else (ginv a, 0)
end Go.Proofs.Ytjpniibleelgiaa
