/- The field with 256 elements: the products of the program and of the reference agree, and the laws of a field. -/
import Derived.Test.YteajcgfcnbdmgaaMaA
set_option linter.unusedSimpArgs false
set_option linter.unusedVariables false
namespace Go.Proofs.Yteajcgfcnbdmgaa
open Go.Fw

/-- All bytes, one by one. -/
theorem all8 (p : UInt8 → Bool) (h : (List.range 256).all (fun n => p (UInt8.ofNat n)) = true) (x : UInt8) : p x = true := by
  have := List.all_eq_true.1 h x.toNat (List.mem_range.2 x.toNat_lt)
  rwa [UInt8.ofNat_toNat] at this
def Lin (f : UInt8 → UInt8) : Prop := ∀ x y, f (x ^^^ y) = f x ^^^ f y
theorem xor_zero (a : UInt8) : a ^^^ 0 = a := UInt8.xor_zero
theorem zero_xor (a : UInt8) : 0 ^^^ a = a := UInt8.zero_xor
theorem xor_self (a : UInt8) : a ^^^ a = 0 := UInt8.xor_self
theorem xor_c (a b : UInt8) : a ^^^ b = b ^^^ a := UInt8.xor_comm a b
theorem xor_a (a b c : UInt8) : a ^^^ b ^^^ c = a ^^^ (b ^^^ c) := UInt8.xor_assoc a b c
theorem xor_lc (a b c : UInt8) : a ^^^ (b ^^^ c) = b ^^^ (a ^^^ c) := by rw [← xor_a, xor_c a b, xor_a]
theorem xor_cancel (a b : UInt8) : a ^^^ (a ^^^ b) = b := by rw [← xor_a, xor_self, zero_xor]
theorem xor_eq_zero {a b : UInt8} : a ^^^ b = 0 ↔ a = b := ⟨fun h => by have := congrArg (a ^^^ ·) h; simp only [xor_cancel, xor_zero] at this; exact this.symm, fun h => by rw [h, xor_self]⟩
theorem xor4 (a b c d : UInt8) : (a ^^^ b) ^^^ (c ^^^ d) = (a ^^^ c) ^^^ (b ^^^ d) := by rw [xor_a, xor_a, xor_lc b c d]
theorem Lin.zero {f : UInt8 → UInt8} (h : Lin f) : f 0 = 0 := by
  have h1 := h 0 0
  rw [xor_self] at h1
  rw [h1, xor_self]
theorem Lin.comp {f g : UInt8 → UInt8} (hf : Lin f) (hg : Lin g) : Lin (fun x => f (g x)) := fun x y => by show f (g (x ^^^ y)) = _; rw [hg x y, hf]
theorem Lin.id : Lin fun x => x := fun _ _ => rfl
theorem bits_of (x : UInt8) : x = (x &&& 1) ^^^ ((x &&& 2) ^^^ ((x &&& 4) ^^^ ((x &&& 8) ^^^ ((x &&& 16) ^^^ ((x &&& 32) ^^^ ((x &&& 64) ^^^ (x &&& 128))))))) :=
  of_decide_eq_true (all8 (fun x => decide (x = (x &&& 1) ^^^ ((x &&& 2) ^^^ ((x &&& 4) ^^^ ((x &&& 8) ^^^ ((x &&& 16) ^^^ ((x &&& 32) ^^^ ((x &&& 64) ^^^ (x &&& 128))))))))) (by decide +kernel) x)
theorem bit_or (x : UInt8) : (x &&& 1 = 0 ∨ x &&& 1 = 1) ∧ (x &&& 2 = 0 ∨ x &&& 2 = 2) ∧ (x &&& 4 = 0 ∨ x &&& 4 = 4) ∧ (x &&& 8 = 0 ∨ x &&& 8 = 8) ∧ (x &&& 16 = 0 ∨ x &&& 16 = 16) ∧ (x &&& 32 = 0 ∨ x &&& 32 = 32) ∧ (x &&& 64 = 0 ∨ x &&& 64 = 64) ∧ (x &&& 128 = 0 ∨ x &&& 128 = 128) :=
  of_decide_eq_true (all8 (fun x => decide ((x &&& 1 = 0 ∨ x &&& 1 = 1) ∧ (x &&& 2 = 0 ∨ x &&& 2 = 2) ∧ (x &&& 4 = 0 ∨ x &&& 4 = 4) ∧ (x &&& 8 = 0 ∨ x &&& 8 = 8) ∧ (x &&& 16 = 0 ∨ x &&& 16 = 16) ∧ (x &&& 32 = 0 ∨ x &&& 32 = 32) ∧ (x &&& 64 = 0 ∨ x &&& 64 = 64) ∧ (x &&& 128 = 0 ∨ x &&& 128 = 128))) (by decide +kernel) x)
theorem lin_ext {f g : UInt8 → UInt8} (hf : Lin f) (hg : Lin g) (h1 : f 1 = g 1) (h2 : f 2 = g 2) (h4 : f 4 = g 4) (h8 : f 8 = g 8) (h16 : f 16 = g 16) (h32 : f 32 = g 32) (h64 : f 64 = g 64) (h128 : f 128 = g 128) (x : UInt8) : f x = g x := by
  have z := hf.zero; have z' := hg.zero
  have key : ∀ (y b : UInt8), (y = 0 ∨ y = b) → f b = g b → f y = g y := fun y b h e => by
    rcases h with h | h
    · rw [h, z, z']
    · rw [h, e]
  obtain ⟨a1, a2, a3, a4, a5, a6, a7, a8⟩ := bit_or x
  rw [bits_of x, hf, hf, hf, hf, hf, hf, hf, hg, hg, hg, hg, hg, hg, hg, key _ _ a1 h1, key _ _ a2 h2, key _ _ a3 h4, key _ _ a4 h8, key _ _ a5 h16, key _ _ a6 h32, key _ _ a7 h64, key _ _ a8 h128]
theorem and1_xor (x y : UInt8) : (x ^^^ y) &&& 1 = (x &&& 1) ^^^ (y &&& 1) := by
  apply UInt8.toBitVec_inj.1
  simp only [UInt8.toBitVec_and, UInt8.toBitVec_xor]
  apply BitVec.eq_of_getElem_eq
  intro i hi
  simp only [BitVec.getElem_and, BitVec.getElem_xor]
  cases (x.toBitVec[i]) <;> cases (y.toBitVec[i]) <;> simp
/-- One bit of a byte. -/
theorem bit_xor (x y : UInt8) (i : UInt8) : (x ^^^ y) >>> i &&& 1 = (x >>> i &&& 1) ^^^ (y >>> i &&& 1) := by
  rw [UInt8.shiftRight_xor, and1_xor]
theorem bit01 (x i : UInt8) : x >>> i &&& 1 = 0 ∨ x >>> i &&& 1 = 1 := (bit_or (x >>> i)).1
def pick8 (c v : UInt8) : UInt8 := if c = 1 then v else 0
theorem pick8_xor {c d : UInt8} (v : UInt8) (hc : c = 0 ∨ c = 1) (hd : d = 0 ∨ d = 1) : pick8 (c ^^^ d) v = pick8 c v ^^^ pick8 d v := by
  rcases hc with rfl | rfl <;> rcases hd with rfl | rfl <;> simp [pick8]
theorem pick8_lin (c : UInt8) : Lin (pick8 c) := fun x y => by unfold pick8; split <;> simp
theorem gm_succ (a b : UInt8) (i : Nat) : gm a b (i + 1) = gm a b i ^^^ pick8 (b >>> UInt8.ofNat i &&& 1) (xtn a i) := by
  unfold pick8
  by_cases h : b >>> UInt8.ofNat i &&& 1 = 1
  · rw [if_pos h, gm_yes a b i h]
  · rw [if_neg h, gm_no a b i h, xor_zero]
theorem gm_lin (a : UInt8) : ∀ i, Lin fun b => gm a b i
  | 0 => fun _ _ => by simp [gm]
  | i + 1 => fun x y => by
    show gm a (x ^^^ y) (i + 1) = gm a x (i + 1) ^^^ gm a y (i + 1)
    rw [gm_succ, gm_succ, gm_succ, bit_xor, pick8_xor _ (bit01 _ _) (bit01 _ _), show gm a (x ^^^ y) i = _ from gm_lin a i x y, xor4]
theorem gmul_lin (a : UInt8) : Lin (gmul a) := gm_lin a 8
theorem xt_eq (a : UInt8) : xt a = a <<< 1 ^^^ pick8 (a >>> 7 &&& 1) 27 :=
  of_decide_eq_true (all8 (fun a => decide (xt a = a <<< 1 ^^^ pick8 (a >>> 7 &&& 1) 27)) (by decide +kernel) a)
theorem xt_lin : Lin xt := fun x y => by
  rw [xt_eq, xt_eq, xt_eq, bit_xor, pick8_xor _ (bit01 _ _) (bit01 _ _), UInt8.shiftLeft_xor, xor4]
theorem xtn_lin : ∀ i, Lin fun a => xtn a i
  | 0 => Lin.id
  | i + 1 => xt_lin.comp (xtn_lin i)
theorem gm_lin2 (b : UInt8) : ∀ i, Lin fun a => gm a b i
  | 0 => fun _ _ => by simp [gm]
  | i + 1 => fun x y => by
    show gm (x ^^^ y) b (i + 1) = gm x b (i + 1) ^^^ gm y b (i + 1)
    rw [gm_succ, gm_succ, gm_succ, show xtn (x ^^^ y) i = _ from xtn_lin i x y, pick8_lin, show gm (x ^^^ y) b i = _ from gm_lin2 b i x y, xor4]
theorem gmul_lin2 (b : UInt8) : Lin fun a => gmul a b := gm_lin2 b 8
/-! ### the laws of the product -/
theorem gmul_comm (a b : UInt8) : gmul a b = gmul b a := by
  have key : ∀ c : UInt8, (gmul c 1 = gmul 1 c ∧ gmul c 2 = gmul 2 c ∧ gmul c 4 = gmul 4 c ∧ gmul c 8 = gmul 8 c ∧ gmul c 16 = gmul 16 c ∧ gmul c 32 = gmul 32 c ∧ gmul c 64 = gmul 64 c ∧ gmul c 128 = gmul 128 c) := fun c =>
    of_decide_eq_true (all8 (fun c => decide (gmul c 1 = gmul 1 c ∧ gmul c 2 = gmul 2 c ∧ gmul c 4 = gmul 4 c ∧ gmul c 8 = gmul 8 c ∧ gmul c 16 = gmul 16 c ∧ gmul c 32 = gmul 32 c ∧ gmul c 64 = gmul 64 c ∧ gmul c 128 = gmul 128 c)) (by decide +kernel) c)
  obtain ⟨h1, h2, h3, h4, h5, h6, h7, h8⟩ := key a
  exact lin_ext (gmul_lin a) (gmul_lin2 a) h1 h2 h3 h4 h5 h6 h7 h8 b
theorem gmul_one (a : UInt8) : gmul a 1 = a := of_decide_eq_true (all8 (fun a => decide (gmul a 1 = a)) (by decide +kernel) a)
theorem one_gmul (a : UInt8) : gmul 1 a = a := by rw [gmul_comm, gmul_one]
theorem gmul_zero (a : UInt8) : gmul a 0 = 0 := (gmul_lin a).zero
theorem zero_gmul (a : UInt8) : gmul 0 a = 0 := (gmul_lin2 a).zero
theorem gmul_two (a : UInt8) : gmul a 2 = xt a := of_decide_eq_true (all8 (fun a => decide (gmul a 2 = xt a)) (by decide +kernel) a)
theorem gmul_add (a b c : UInt8) : gmul a (b ^^^ c) = gmul a b ^^^ gmul a c := gmul_lin a b c
theorem add_gmul (a b c : UInt8) : gmul (a ^^^ b) c = gmul a c ^^^ gmul b c := gmul_lin2 c a b
def pw2 : List UInt8 := [1, 2, 4, 8, 16, 32, 64, 128]
theorem lin_ext' {f g : UInt8 → UInt8} (hf : Lin f) (hg : Lin g) (h : ∀ b ∈ pw2, f b = g b) (x : UInt8) : f x = g x :=
  lin_ext hf hg (h _ (by simp [pw2])) (h _ (by simp [pw2])) (h _ (by simp [pw2])) (h _ (by simp [pw2])) (h _ (by simp [pw2])) (h _ (by simp [pw2])) (h _ (by simp [pw2])) (h _ (by simp [pw2])) x
theorem assoc_basis : ∀ a ∈ pw2, ∀ b ∈ pw2, ∀ c ∈ pw2, gmul (gmul a b) c = gmul a (gmul b c) := by decide +kernel
theorem gmul_assoc (a b c : UInt8) : gmul (gmul a b) c = gmul a (gmul b c) := by
  refine lin_ext' (f := fun a => gmul (gmul a b) c) (g := fun a => gmul a (gmul b c)) ((gmul_lin2 c).comp (gmul_lin2 b)) (gmul_lin2 _) (fun a ha => ?_) a
  refine lin_ext' (f := fun b => gmul (gmul a b) c) (g := fun b => gmul a (gmul b c)) ((gmul_lin2 c).comp (gmul_lin a)) ((gmul_lin a).comp (gmul_lin2 c)) (fun b hb => ?_) b
  exact lin_ext' (f := fun c => gmul (gmul a b) c) (g := fun c => gmul a (gmul b c)) (gmul_lin _) ((gmul_lin a).comp (gmul_lin b)) (fun c hc => assoc_basis a ha b hb c hc) c
theorem gpow_add (a : UInt8) (m : Nat) : ∀ n, gpow a (m + n) = gmul (gpow a m) (gpow a n)
  | 0 => by simp [gpow, gmul_one]
  | n + 1 => by rw [← Nat.add_assoc]; simp only [gpow]; rw [gpow_add a m n, gmul_assoc]
theorem gpow_one (a : UInt8) : gpow a 1 = a := by simp [gpow, one_gmul]
/-- The power 254 by few products. -/
def fast (a : UInt8) : UInt8 :=
  let a2 := gmul a a; let a4 := gmul a2 a2; let a8 := gmul a4 a4; let a16 := gmul a8 a8; let a32 := gmul a16 a16; let a64 := gmul a32 a32; let a128 := gmul a64 a64
  gmul a128 (gmul a64 (gmul a32 (gmul a16 (gmul a8 (gmul a4 a2)))))
theorem ginv_fast (a : UInt8) : ginv a = fast a := by
  have h2 : gmul a a = gpow a 2 := by rw [show (2 : Nat) = 1 + 1 from rfl, gpow_add, gpow_one]
  have dbl : ∀ n, gmul (gpow a n) (gpow a n) = gpow a (n + n) := fun n => (gpow_add a n n).symm
  unfold fast ginv
  simp only [h2, dbl, ← gpow_add]
theorem gmul_ginv {a : UInt8} (h : a ≠ 0) : gmul a (ginv a) = 1 := by
  have := all8 (fun a => decide (a = 0 ∨ gmul a (fast a) = 1)) (by decide +kernel) a
  rw [ginv_fast]; exact (of_decide_eq_true this).resolve_left h
theorem ginv_zero : ginv 0 = 0 := by rw [ginv_fast]; decide +kernel
theorem gmul_eq_zero {a b : UInt8} : gmul a b = 0 ↔ a = 0 ∨ b = 0 := by
  constructor
  · intro h
    by_cases ha : a = 0
    · exact .inl ha
    · right
      have := congrArg (gmul (ginv a)) h
      rwa [gmul_zero, ← gmul_assoc, gmul_comm (ginv a), gmul_ginv ha, one_gmul] at this
  · rintro (rfl | rfl)
    · exact zero_gmul _
    · exact gmul_zero _
theorem ginv_ginv {a : UInt8} (h : a ≠ 0) : ginv (ginv a) = a := by
  have h1 := gmul_ginv h
  have h2 : ginv a ≠ 0 := fun e => by rw [e, gmul_zero] at h1; exact absurd h1 (by decide)
  have h3 := gmul_ginv h2
  calc ginv (ginv a) = gmul 1 (ginv (ginv a)) := (one_gmul _).symm
    _ = gmul (gmul a (ginv a)) (ginv (ginv a)) := by rw [h1]
    _ = a := by rw [gmul_assoc, h3, gmul_one]
/-! ### the reference's product -/
def pickN (c : Bool) (v : Nat) : Nat := if c then v else 0
theorem pickN_xor (c d : Bool) (v : Nat) : pickN (c ^^ d) v = pickN c v ^^^ pickN d v := by cases c <;> cases d <;> simp [pickN]
theorem xorN4 (a b c d : Nat) : (a ^^^ b) ^^^ (c ^^^ d) = (a ^^^ c) ^^^ (b ^^^ d) := by
  rw [Nat.xor_assoc, Nat.xor_assoc, ← Nat.xor_assoc b c d, Nat.xor_comm b c, Nat.xor_assoc c b d]
theorem cl_succ (a b i : Nat) : cl a b (i + 1) = cl a b i ^^^ pickN (b.testBit i) (a * 2 ^ i) := by
  rw [Nat.testBit_eq_decide_div_mod_eq]
  by_cases h : b / 2 ^ i % 2 = 1
  · rw [cl_yes a b i h]; simp [pickN, h]
  · rw [cl_no a b i h]; simp [pickN, h]
theorem red_succ (p j : Nat) : red p (j + 1) = red p j ^^^ pickN ((red p j).testBit (14 - j)) (283 * 2 ^ (14 - j - 8)) := by
  rw [Nat.testBit_eq_decide_div_mod_eq]
  by_cases h : red p j / 2 ^ (14 - j) % 2 = 1
  · rw [red_yes p j h]; simp [pickN, h]
  · rw [red_no p j h]; simp [pickN, h]
theorem cl_xor (a b c : Nat) : ∀ i, cl a (b ^^^ c) i = cl a b i ^^^ cl a c i
  | 0 => by simp [cl]
  | i + 1 => by rw [cl_succ, cl_succ, cl_succ, cl_xor a b c i, Nat.testBit_xor, pickN_xor, xorN4]
theorem red_xor (p q : Nat) : ∀ j, red (p ^^^ q) j = red p j ^^^ red q j
  | 0 => rfl
  | j + 1 => by rw [red_succ, red_succ, red_succ, red_xor p q j, Nat.testBit_xor, pickN_xor, xorN4]
theorem u8of_nat (n : Nat) : u8of (n : Int) = UInt8.ofNat n := by
  unfold u8of
  rw [show ((n : Int) % 256).toNat = n % 256 by omega]
  exact UInt8.toNat_inj.1 (by simp)
theorem refMul_lin (a : UInt8) : Lin (refMul a) := fun x y => by
  show u8of _ = u8of _ ^^^ u8of _
  rw [u8of_nat, u8of_nat, u8of_nat, UInt8.toNat_xor, cl_xor, red_xor, UInt8.ofNat_xor]
theorem refMul_eq (a b : UInt8) : refMul a b = gmul a b := by
  have key : ∀ c : UInt8, (refMul c 1 = gmul c 1 ∧ refMul c 2 = gmul c 2 ∧ refMul c 4 = gmul c 4 ∧ refMul c 8 = gmul c 8 ∧ refMul c 16 = gmul c 16 ∧ refMul c 32 = gmul c 32 ∧ refMul c 64 = gmul c 64 ∧ refMul c 128 = gmul c 128) := fun c =>
    of_decide_eq_true (all8 (fun c => decide (refMul c 1 = gmul c 1 ∧ refMul c 2 = gmul c 2 ∧ refMul c 4 = gmul c 4 ∧ refMul c 8 = gmul c 8 ∧ refMul c 16 = gmul c 16 ∧ refMul c 32 = gmul c 32 ∧ refMul c 64 = gmul c 64 ∧ refMul c 128 = gmul c 128)) (by decide +kernel) c)
  obtain ⟨h1, h2, h3, h4, h5, h6, h7, h8⟩ := key a
  exact lin_ext (refMul_lin a) (gmul_lin a) h1 h2 h3 h4 h5 h6 h7 h8 b
theorem ginv_unique {a b : UInt8} (h : gmul a b = 1) : b = ginv a := by
  have ha : a ≠ 0 := fun e => by rw [e, zero_gmul] at h; exact absurd h (by decide)
  calc b = gmul 1 b := (one_gmul b).symm
    _ = gmul (gmul (ginv a) a) b := by rw [gmul_comm (ginv a), gmul_ginv ha]
    _ = ginv a := by rw [gmul_assoc, h, gmul_one]
theorem scan_first {β : Type} {f : Nat → Option β} {d r : β} : ∀ (m i : Nat), (∃ k, i ≤ k ∧ k < i + m ∧ f k ≠ none) → (∀ k, i ≤ k → k < i + m → f k = none ∨ f k = some r) → scan f d i m = r
  | 0, i, ⟨k, h1, h2, _⟩, _ => by omega
  | m + 1, i, ⟨k, h1, h2, h3⟩, h => by
    unfold scan
    rcases h i (by omega) (by omega) with h4 | h4
    · rw [h4]
      refine scan_first m (i + 1) ⟨k, ?_, by omega, h3⟩ (fun k' a b => h k' (by omega) (by omega))
      rcases Nat.lt_or_eq_of_le h1 with h5 | h5
      · exact h5
      · subst h5; exact absurd h4 h3
    · rw [h4]
theorem scan_all {β : Type} {f : Nat → Option β} {d : β} : ∀ (m i : Nat), (∀ k, i ≤ k → k < i + m → f k = none) → scan f d i m = d
  | 0, i, _ => rfl
  | m + 1, i, h => by unfold scan; rw [h i (by omega) (by omega)]; exact scan_all m (i + 1) fun k a b => h k (by omega) (by omega)
theorem refInv_eq (a : UInt8) : refInv a = inv a := by
  unfold refInv inv
  by_cases h : a = 0
  · subst h
    rw [scan_all]; rfl
    intro k _ _
    rw [refMul_eq, zero_gmul]; rfl
  · have h1 := gmul_ginv h
    have hi : ginv a ≠ 0 := fun e => by rw [e, gmul_zero] at h1; exact absurd h1 (by decide)
    rw [if_neg (by simpa using h)]
    refine scan_first _ _ ⟨(ginv a).toNat, ?_, ?_, ?_⟩ fun k hk1 hk2 => ?_
    · have : (ginv a).toNat ≠ 0 := fun e => hi (UInt8.toNat_inj.1 e)
      omega
    · have := (ginv a).toNat_lt; omega
    · rw [u8of_nat, UInt8.ofNat_toNat, refMul_eq, h1]; simp
    · by_cases hm : refMul a (u8of (k : Int)) = 1
      · right; rw [if_pos (by simpa using hm)]; rw [refMul_eq] at hm; rw [ginv_unique hm]
      · left; rw [if_neg (by simpa using hm)]
theorem refOver_eq (a b : UInt8) (h : b ≠ 0) : refOver a b = gmul a (ginv b) := by
  unfold refOver; rw [refMul_eq, refInv_eq]; unfold inv; rw [if_neg (by simpa using h)]
theorem inv_ok {a : UInt8} (h : a ≠ 0) : inv a = (ginv a, 0) := by unfold inv; rw [if_neg (by simpa using h)]
theorem inv_bad : inv 0 = (0, 1) := rfl
theorem ginv_ne {a : UInt8} (h : a ≠ 0) : ginv a ≠ 0 := fun e => by
  have h1 := gmul_ginv h
  rw [e, gmul_zero] at h1; exact absurd h1 (by decide)
theorem zero_iff {a b : UInt8} (h : a ≠ 0) : (gmul a b == 0) = (b == 0) := by
  rw [Bool.eq_iff_iff]; simp [gmul_eq_zero, h]
end Go.Proofs.Yteajcgfcnbdmgaa
