/- Walks, printed by gen.py. -/
import Derived.Test.YteajcgfcnbdmgaaFwT
set_option linter.unusedSimpArgs false
set_option linter.unusedVariables false
namespace Go.Proofs.Yteajcgfcnbdmgaa
open Go.Fw Go.RowKit

@[ext] structure Share where
  epoch : Int
  index : Int
  threshold : Int
  many : Int
  data : (List UInt8)
  deriving DecidableEq, Inhabited
def Enc.share : Enc Share where
  size := 5
  rd := fun w O cs x => ∃ d4 : Value, cs = [vI x.epoch, vI x.index, vI x.threshold, vI x.many, d4] ∧ RdL Enc.u8 w O d4 x.data
  len := fun ⟨d4, h, r4⟩ => by subst h; rfl
  one := fun ⟨d4, h, r4⟩ u hu => by
    subst h; simp only [List.mem_cons, List.not_mem_nil, or_false] at hu
    rcases hu with rfl | rfl | rfl | rfl | rfl <;> first | rfl | exact r4.oneCell
  mv := fun ⟨d4, h, r4⟩ m => ⟨d4, h, r4.mv m⟩
  sub := fun ⟨d4, h, r4⟩ hs => ⟨d4, h, r4.sub hs⟩
theorem Enc_share_f0 {w : World} {O : List Nat} {cs : List Value} {x : Share} (h0 : Enc.share.rd w O cs x) : Enc.int.rd w O ((cs.drop 0).take Enc.int.size) x.epoch := by
  obtain ⟨d4, h, r4⟩ := h0; subst h; exact rfl
theorem Enc_share_f1 {w : World} {O : List Nat} {cs : List Value} {x : Share} (h0 : Enc.share.rd w O cs x) : Enc.int.rd w O ((cs.drop 1).take Enc.int.size) x.index := by
  obtain ⟨d4, h, r4⟩ := h0; subst h; exact rfl
theorem Enc_share_f2 {w : World} {O : List Nat} {cs : List Value} {x : Share} (h0 : Enc.share.rd w O cs x) : Enc.int.rd w O ((cs.drop 2).take Enc.int.size) x.threshold := by
  obtain ⟨d4, h, r4⟩ := h0; subst h; exact rfl
theorem Enc_share_f3 {w : World} {O : List Nat} {cs : List Value} {x : Share} (h0 : Enc.share.rd w O cs x) : Enc.int.rd w O ((cs.drop 3).take Enc.int.size) x.many := by
  obtain ⟨d4, h, r4⟩ := h0; subst h; exact rfl
theorem Enc_share_f4 {w : World} {O : List Nat} {cs : List Value} {x : Share} (h0 : Enc.share.rd w O cs x) : (Enc.slice Enc.u8).rd w O ((cs.drop 4).take (Enc.slice Enc.u8).size) x.data := by
  obtain ⟨d4, h, r4⟩ := h0; subst h; exact ⟨d4, rfl, r4⟩

end Go.Proofs.Yteajcgfcnbdmgaa
