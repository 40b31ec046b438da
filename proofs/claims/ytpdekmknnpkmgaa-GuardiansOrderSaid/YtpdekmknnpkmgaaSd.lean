/- Walks, printed by gen.py. -/
import Derived.Test.YtpdekmknnpkmgaaFwT
set_option linter.unusedSimpArgs false
set_option linter.unusedVariables false
namespace Go.Proofs.Ytpdekmknnpkmgaa
open Go.Fw Go.RowKit

@[ext] structure Recovery where
  no : Int
  asked : Int
  state : Int
  approved : (List Int)
  vetoed : (List Int)
  deriving DecidableEq, Inhabited
def Enc.recovery : Enc Recovery where
  size := 5
  rd := fun w O cs x => ∃ d3 d4 : Value, cs = [vI x.no, vI x.asked, vI x.state, d3, d4] ∧ RdL Enc.int w O d3 x.approved ∧ RdL Enc.int w O d4 x.vetoed
  len := fun ⟨d3, d4, h, r3, r4⟩ => by subst h; rfl
  one := fun ⟨d3, d4, h, r3, r4⟩ u hu => by
    subst h; simp only [List.mem_cons, List.not_mem_nil, or_false] at hu
    rcases hu with rfl | rfl | rfl | rfl | rfl <;> first | rfl | exact r3.oneCell | exact r4.oneCell
  mv := fun ⟨d3, d4, h, r3, r4⟩ m => ⟨d3, d4, h, r3.mv m, r4.mv m⟩
  sub := fun ⟨d3, d4, h, r3, r4⟩ hs => ⟨d3, d4, h, r3.sub hs, r4.sub hs⟩
theorem Enc_recovery_f0 {w : World} {O : List Nat} {cs : List Value} {x : Recovery} (h0 : Enc.recovery.rd w O cs x) : Enc.int.rd w O ((cs.drop 0).take Enc.int.size) x.no := by
  obtain ⟨d3, d4, h, r3, r4⟩ := h0; subst h; exact rfl
theorem Enc_recovery_f1 {w : World} {O : List Nat} {cs : List Value} {x : Recovery} (h0 : Enc.recovery.rd w O cs x) : Enc.int.rd w O ((cs.drop 1).take Enc.int.size) x.asked := by
  obtain ⟨d3, d4, h, r3, r4⟩ := h0; subst h; exact rfl
theorem Enc_recovery_f2 {w : World} {O : List Nat} {cs : List Value} {x : Recovery} (h0 : Enc.recovery.rd w O cs x) : Enc.int.rd w O ((cs.drop 2).take Enc.int.size) x.state := by
  obtain ⟨d3, d4, h, r3, r4⟩ := h0; subst h; exact rfl
theorem Enc_recovery_f3 {w : World} {O : List Nat} {cs : List Value} {x : Recovery} (h0 : Enc.recovery.rd w O cs x) : (Enc.slice Enc.int).rd w O ((cs.drop 3).take (Enc.slice Enc.int).size) x.approved := by
  obtain ⟨d3, d4, h, r3, r4⟩ := h0; subst h; exact ⟨d3, rfl, r3⟩
theorem Enc_recovery_f4 {w : World} {O : List Nat} {cs : List Value} {x : Recovery} (h0 : Enc.recovery.rd w O cs x) : (Enc.slice Enc.int).rd w O ((cs.drop 4).take (Enc.slice Enc.int).size) x.vetoed := by
  obtain ⟨d3, d4, h, r3, r4⟩ := h0; subst h; exact ⟨d4, rfl, r4⟩
@[ext] structure Circle where
  epoch : Int
  threshold : Int
  wait : Int
  guardians : (List Int)
  recs : (List Recovery)
  deriving DecidableEq, Inhabited
def Enc.circle : Enc Circle where
  size := 5
  rd := fun w O cs x => ∃ d3 d4 : Value, cs = [vI x.epoch, vI x.threshold, vI x.wait, d3, d4] ∧ RdL Enc.int w O d3 x.guardians ∧ RdL Enc.recovery w O d4 x.recs
  len := fun ⟨d3, d4, h, r3, r4⟩ => by subst h; rfl
  one := fun ⟨d3, d4, h, r3, r4⟩ u hu => by
    subst h; simp only [List.mem_cons, List.not_mem_nil, or_false] at hu
    rcases hu with rfl | rfl | rfl | rfl | rfl <;> first | rfl | exact r3.oneCell | exact r4.oneCell
  mv := fun ⟨d3, d4, h, r3, r4⟩ m => ⟨d3, d4, h, r3.mv m, r4.mv m⟩
  sub := fun ⟨d3, d4, h, r3, r4⟩ hs => ⟨d3, d4, h, r3.sub hs, r4.sub hs⟩
theorem Enc_circle_f0 {w : World} {O : List Nat} {cs : List Value} {x : Circle} (h0 : Enc.circle.rd w O cs x) : Enc.int.rd w O ((cs.drop 0).take Enc.int.size) x.epoch := by
  obtain ⟨d3, d4, h, r3, r4⟩ := h0; subst h; exact rfl
theorem Enc_circle_f1 {w : World} {O : List Nat} {cs : List Value} {x : Circle} (h0 : Enc.circle.rd w O cs x) : Enc.int.rd w O ((cs.drop 1).take Enc.int.size) x.threshold := by
  obtain ⟨d3, d4, h, r3, r4⟩ := h0; subst h; exact rfl
theorem Enc_circle_f2 {w : World} {O : List Nat} {cs : List Value} {x : Circle} (h0 : Enc.circle.rd w O cs x) : Enc.int.rd w O ((cs.drop 2).take Enc.int.size) x.wait := by
  obtain ⟨d3, d4, h, r3, r4⟩ := h0; subst h; exact rfl
theorem Enc_circle_f3 {w : World} {O : List Nat} {cs : List Value} {x : Circle} (h0 : Enc.circle.rd w O cs x) : (Enc.slice Enc.int).rd w O ((cs.drop 3).take (Enc.slice Enc.int).size) x.guardians := by
  obtain ⟨d3, d4, h, r3, r4⟩ := h0; subst h; exact ⟨d3, rfl, r3⟩
theorem Enc_circle_f4 {w : World} {O : List Nat} {cs : List Value} {x : Circle} (h0 : Enc.circle.rd w O cs x) : (Enc.slice Enc.recovery).rd w O ((cs.drop 4).take (Enc.slice Enc.recovery).size) x.recs := by
  obtain ⟨d3, d4, h, r3, r4⟩ := h0; subst h; exact ⟨d4, rfl, r4⟩

end Go.Proofs.Ytpdekmknnpkmgaa
