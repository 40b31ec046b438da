/- Loops of a known number of rounds; slices of cells that are known. Program-independent. -/
import Derived.Test.YtjpniibleelgiaaFwZ
set_option linter.unusedSimpArgs false
set_option linter.unusedVariables false
namespace Go.Fw
open Go.RowKit
section
variable {P : Program} {ro : Option Nat} {n : Nat} {Q : Exit → Fr → World → Prop} {F : Fr} {w : World}
/-- At most m rounds, one after the other. -/
def CWr (P : Program) (ro : Option Nat) (n : Nat) (c : Code) (Q : Exit → Fr → World → Prop) : Nat → Fr → World → Prop
  | 0, _, _ => False
  | m + 1, F, w => CW P (ro := ro) n c (thenQ (CWr P ro n c Q m) Q) F w
theorem cw_unroll {c : Code} (m : Nat) (h : CWr P ro n c Q m F w) : CW P (ro := ro) n (.loop c) Q F w := by
  refine cw_loop (fun m F w => CWr P ro n c Q m F w) m h fun m F w h => ?_
  cases m with
  | zero => exact h.elim
  | succ m => exact CW.mono h fun e F w hq => by cases e <;> first | exact ⟨m, Nat.lt_succ_self m, hq⟩ | exact hq
theorem cwr_step {c : Code} {m : Nat} (h : CW P (ro := ro) n c (thenQ (CWr P ro n c Q m) Q) F w) : CWr P ro n c Q (m + 1) F w := h
end
section
variable {P : Program}
theorem wl_yT {ops rest : List Oper} {Q : Exit → Fr → World → Prop} {F : Fr} {w : World} {d : Tmp} {ty : TypeId} {pos : String} {af : Array Edge} {xf : Operand} {xs : List Operand} {ats : Array TypeId} {j : Nat} {b : Bool} (hg : yieldF ops F j = some b) (l : Nat) (vs : List Value)
    (hf : evF F xf = .func (.yield l) #[] #[]) (hv : xs.map (evF F) = vs) (hy : YieldsW P l vs w (fun v w' => WL true P ops Q rest (upd F d v) w')) :
    WL true P ops Q (⟨some d, .call { callee := .value xf, args := xs.toArray, argTypes := ats }, ty, pos, af, some (j, b)⟩ :: rest) F w := by
  unfold WL
  rw [if_pos (by simp [Region.wanted, hg])]
  refine .inr ⟨rfl, ?_⟩
  unfold RoundW
  obtain ⟨fn, tmps, assign, body, h1, h2⟩ := hy
  have : (execOp (evF F) ⟨none, .call { callee := .value xf, args := xs.toArray, argTypes := ats }, ty, "", #[], none⟩).run P w = .ok (.round l fn tmps assign body) w := by
    simp [execOp, resolve, Deferred.ofValue, invoke, hf, hv, h1]
  rw [this]
  exact h2.mono fun e w' ⟨v, he, hk⟩ => by subst he; exact hk
end
section
variable {P : Program} {t yt ty : TypeId} {x y : Operand} {F : Fr} {w : World} {K : Value → World → Prop} {Z : List PanicEntry → World → Prop}
theorem o_rem8 (a b : UInt8) (hb : b.toNat ≠ 0) (hx : evF F x = vB a) (hy : evF F y = vB b) (h : K (vB (a % b)) w) : OpW P (.binOp .rem t x y yt) ty F w K Z :=
  o_rem .u8 (a.toNat : Int) (b.toNat : Int) ((a % b).toNat : Int) hx hy (by omega) (by rw [UInt8.toNat_mod]; exact (Int.ofNat_tmod _ _).symm) h
theorem o_and3 (a : Int) (hx : evF F x = vI a) (hy : evF F y = vI 3) (h : K (vI (a % 4)) w) : OpW P (.binOp .and t x y yt) ty F w K Z :=
  opw_run (by
    simp only [execOp, hx, hy, eqGuard, binOp]
    have : (Op.intBits .and .i64 a 3) = pure (vI (a % 4)) := by
      show pure (Value.int .i64 (IntKind.i64.wrap ((BitVec.ofInt 64 a &&& BitVec.ofInt 64 3).toNat : Int))) = _
      have e : (BitVec.ofInt 64 a &&& BitVec.ofInt 64 3).toNat = (a % 4).toNat := by
        rw [BitVec.toNat_and, show (BitVec.ofInt 64 3).toNat = 2 ^ 2 - 1 from rfl, Nat.and_two_pow_sub_one_eq_mod, BitVec.toNat_ofInt]
        omega
      rw [e, IntWalk.i64_in _ (by omega)]
      congr 2; omega
    simp [this]) h
end
/-- Cells as they are. -/
def Enc.cells (n : Nat) : Enc (List Value) where
  size := n
  rd := fun _ _ cs x => cs = x ∧ x.length = n ∧ ∀ u ∈ x, u.oneCell' = true
  len := fun h => h.1 ▸ h.2.1
  one := fun h u hu => h.2.2 u (h.1 ▸ hu)
  mv := fun h _ => h
  sub := fun h _ => h
end Go.Fw
