/- Walks, printed by gen.py. -/
import Derived.Test.YteajcgfcnbdmgaaTy
import Derived.Test.YteajcgfcnbdmgaaFwL
set_option linter.unusedSimpArgs false
set_option linter.unusedVariables false
namespace Go.Proofs.Yteajcgfcnbdmgaa
open Go.Fw Go.RowKit

set_option maxHeartbeats 4000000 in
set_option maxRecDepth 100000 in
theorem c_refMul {O : List Nat} (a : UInt8) (b : UInt8) (w : World) (hO : ∀ b ∈ O, b < w.heap.size) : CallsK Try.prog 21 [vB a, vB b] w (fun v _ => v = vB (refMul a b)) :=  by
 have s0 : St w O w [] := St.start hO
 refine callsK_of 40 Try.func21 rfl rfl (of_decide_eq_true rfl) (fun F0 => ?_)
 refine cw_seq (?_)
 refine cw_region (by kernel_rfl) (wl_s (o_assign (vB (0 : UInt8)) rfl (wl_nil (thenQ_n (?_)))))
 refine cw_seq (?_)
 refine cw_region (by kernel_rfl) (wl_s (o_assign (vI (0 : Int)) rfl (wl_nil (thenQ_n (?_)))))
 refine cw_seq (?_)
 refine cw_seq (?_)
 refine cw_region (by kernel_rfl) (wl_s (o_assign (vI (0 : Int)) rfl (wl_nil (thenQ_n (?_)))))
 refine cw_block (?_)
 refine cw_loop (fun mI FI wI => ∃ (k : Nat), k ≤ 8 ∧ mI = 8 - k ∧ (∃ F1, FI = upds F1 [(0, vB a), (1, vB b), (5, vI ((cl a.toNat b.toNat k : Nat) : Int)), (6, vI ((k : Nat) : Int)), (40, undef)]) ∧ w = wI) (8 - (0)) ?_ ?_
 ·exact ⟨(0), (by first | omega | (simp; done) | (simp; omega) | simp_all), rfl, ⟨_, upds_self _ ⟨rfl, rfl, (by first | rfl | exact congrArg (Value.int _) (by first | omega | (simp))), (by first | rfl | exact congrArg (Value.int _) (by first | omega | (simp))), rfl, trivial⟩⟩, rfl⟩
 ·rintro ml0 F wl0 ⟨k, hr0_0, hm0, ⟨Fl0, rfl⟩, rfl⟩
  have hcl := cl_lt a.toNat b.toNat a.toNat_lt k hr0_0
  refine cw_seq (?_)
  refine cw_seq (?_)
  refine cw_region (by kernel_rfl) (wl_s (o_move (vI ((k : Nat) : Int)) rfl (wl_s (o_lss .i64 ((k : Nat) : Int) (8 : Int) rfl rfl (wl_nil (thenQ_n (?_)))))))
  refine cw_cond (decide (((k : Nat) : Int) < (8 : Int))) rfl rfl (fun hc1 => ?_) (fun hc1 => ?_)
  ·have hp2 : ((k : Nat) : Int) < (8 : Int) := by first | simpa using hc1 | (have e := hc1; simp at e; omega)
   refine cw_skip (thenQ_n (?_))
   refine cw_seq (?_)
   refine cw_block (?_)
   refine cw_seq (?_)
   refine cw_region (by kernel_rfl) (wl_s (o_move (vB b) rfl (wl_s (o_conv .u8 .i64 Try.underlying5 Try.underlying3 (b.toNat : Int) (b.toNat : Int) rfl (by have := (b).toNat_lt; exact w64 (by omega) rfl) (wl_s (o_move (vI ((k : Nat) : Int)) rfl (wl_s (o_shrN .i64 b.toNat k (by omega) rfl rfl (wl_s (o_remN (b.toNat / 2 ^ k) 2 (by omega) rfl rfl (wl_s (o_eql .i64 (((b.toNat / 2 ^ k) % 2 : Nat) : Int) (1 : Int) rfl rfl (wl_nil (thenQ_n (?_)))))))))))))))
   refine cw_cond ((((b.toNat / 2 ^ k) % 2 : Nat) : Int) == (1 : Int)) rfl rfl (fun hc3 => ?_) (fun hc3 => ?_)
   ·have hp4 : (((b.toNat / 2 ^ k) % 2 : Nat) : Int) = (1 : Int) := by first | simpa using hc3 | (have e := hc3; simp at e; omega)
    refine cw_region (by kernel_rfl) (wl_s (o_move (vI ((cl a.toNat b.toNat k : Nat) : Int)) rfl (wl_s (o_move (vB a) rfl (wl_s (o_conv .u8 .i64 Try.underlying5 Try.underlying3 (a.toNat : Int) (a.toNat : Int) rfl (by have := (a).toNat_lt; exact w64 (by omega) rfl) (wl_s (o_move (vI ((k : Nat) : Int)) rfl (wl_s (o_shlN .i64 a.toNat k (by omega) (by have := mul_lt a.toNat k a.toNat_lt (by omega); omega) rfl rfl (wl_s (o_xorN (cl a.toNat b.toNat k) (a.toNat * 2 ^ k) (by omega) (by have := mul_lt a.toNat k a.toNat_lt (by omega); omega) rfl rfl (wl_s (o_assign (vI (((cl a.toNat b.toNat k) ^^^ (a.toNat * 2 ^ k) : Nat) : Int)) rfl (wl_nil (blockQ_n (thenQ_n (?_))))))))))))))))))
    refine cw_region (by kernel_rfl) (wl_s (o_move (vI ((k : Nat) : Int)) rfl (wl_s (o_add .i64 ((k : Nat) : Int) (1 : Int) (((k + 1 : Nat) : Int)) rfl rfl (w64 (by omega) (by omega)) (wl_s (o_assign (vI ((k + 1 : Nat) : Int)) rfl (wl_nil (thenQ_n (?_)))))))))
    exact ⟨_, (by omega), (k + 1), (by first | omega | (simp; done) | (simp; omega) | simp_all), rfl, ⟨_, upds_self _ ⟨rfl, rfl, (by first | rfl | exact congrArg (Value.int _) (by first | omega | (first | rw [cl_yes a.toNat b.toNat k (by omega)] | rw [cl_no a.toNat b.toNat k (by omega)]))), (by first | rfl | exact congrArg (Value.int _) (by first | omega | (simp))), rfl, trivial⟩⟩, rfl⟩
   ·have hp5 : (((b.toNat / 2 ^ k) % 2 : Nat) : Int) ≠ (1 : Int) := by first | simpa using hc3 | (have e := hc3; simp at e; omega)
    refine cw_skip (blockQ_n (thenQ_n (?_)))
    refine cw_region (by kernel_rfl) (wl_s (o_move (vI ((k : Nat) : Int)) rfl (wl_s (o_add .i64 ((k : Nat) : Int) (1 : Int) (((k + 1 : Nat) : Int)) rfl rfl (w64 (by omega) (by omega)) (wl_s (o_assign (vI ((k + 1 : Nat) : Int)) rfl (wl_nil (thenQ_n (?_)))))))))
    exact ⟨_, (by omega), (k + 1), (by first | omega | (simp; done) | (simp; omega) | simp_all), rfl, ⟨_, upds_self _ ⟨rfl, rfl, (by first | rfl | exact congrArg (Value.int _) (by first | omega | (first | rw [cl_yes a.toNat b.toNat k (by omega)] | rw [cl_no a.toNat b.toNat k (by omega)]))), (by first | rfl | exact congrArg (Value.int _) (by first | omega | (simp))), rfl, trivial⟩⟩, rfl⟩
  ·have hp6 : (8 : Int) ≤ ((k : Nat) : Int) := by first | simpa using hc1 | (have e := hc1; simp at e; omega)
   obtain rfl : k = 8 := by omega
   refine cw_exit (thenQ_x (thenQ_x (blockQ_x (thenQ_n (?_)))))
   refine cw_seq (?_)
   refine cw_seq (?_)
   refine cw_region (by kernel_rfl) (wl_s (o_assign (vI (14 : Int)) rfl (wl_nil (thenQ_n (?_)))))
   refine cw_block (?_)
   refine cw_loop (fun mI FI wI => ∃ (j : Nat), j ≤ 7 ∧ mI = 7 - j ∧ (∃ F1, FI = upds F1 [(5, vI ((red (cl a.toNat b.toNat 8) j : Nat) : Int)), (7, vI ((14 - j : Nat) : Int)), (40, undef)]) ∧ w = wI) (7 - (0)) ?_ ?_
   ·exact ⟨(0), (by first | omega | (simp; done) | (simp; omega) | simp_all), rfl, ⟨_, upds_self _ ⟨(by first | rfl | exact congrArg (Value.int _) (by first | omega | (simp))), (by first | rfl | exact congrArg (Value.int _) (by first | omega | (simp))), rfl, trivial⟩⟩, rfl⟩
   ·rintro ml1 F wl1 ⟨j, hr1_0, hm1, ⟨Fl1, rfl⟩, rfl⟩
    have hrd := red_lt (cl a.toNat b.toNat 8) (cl_lt a.toNat b.toNat a.toNat_lt 8 (by omega)) j hr1_0
    refine cw_seq (?_)
    refine cw_seq (?_)
    refine cw_region (by kernel_rfl) (wl_s (o_move (vI ((14 - j : Nat) : Int)) rfl (wl_s (o_geq .i64 ((14 - j : Nat) : Int) (8 : Int) rfl rfl (wl_nil (thenQ_n (?_)))))))
    refine cw_cond (decide ((8 : Int) ≤ ((14 - j : Nat) : Int))) rfl rfl (fun hc7 => ?_) (fun hc7 => ?_)
    ·have hp8 : (8 : Int) ≤ ((14 - j : Nat) : Int) := by first | simpa using hc7 | (have e := hc7; simp at e; omega)
     refine cw_skip (thenQ_n (?_))
     refine cw_seq (?_)
     refine cw_block (?_)
     refine cw_seq (?_)
     refine cw_region (by kernel_rfl) (wl_s (o_move (vI ((red (cl a.toNat b.toNat 8) j : Nat) : Int)) rfl (wl_s (o_move (vI ((14 - j : Nat) : Int)) rfl (wl_s (o_shrN .i64 (red (cl a.toNat b.toNat 8) j) (14 - j) (by omega) rfl rfl (wl_s (o_remN ((red (cl a.toNat b.toNat 8) j) / 2 ^ (14 - j)) 2 (by omega) rfl rfl (wl_s (o_eql .i64 ((((red (cl a.toNat b.toNat 8) j) / 2 ^ (14 - j)) % 2 : Nat) : Int) (1 : Int) rfl rfl (wl_nil (thenQ_n (?_)))))))))))))
     refine cw_cond (((((red (cl a.toNat b.toNat 8) j) / 2 ^ (14 - j)) % 2 : Nat) : Int) == (1 : Int)) rfl rfl (fun hc9 => ?_) (fun hc9 => ?_)
     ·have hp10 : ((((red (cl a.toNat b.toNat 8) j) / 2 ^ (14 - j)) % 2 : Nat) : Int) = (1 : Int) := by first | simpa using hc9 | (have e := hc9; simp at e; omega)
      refine cw_region (by kernel_rfl) (wl_s (o_move (vI ((red (cl a.toNat b.toNat 8) j : Nat) : Int)) rfl (wl_s (o_move (vI ((14 - j : Nat) : Int)) rfl (wl_s (o_sub .i64 ((14 - j : Nat) : Int) (8 : Int) (((14 - j - 8 : Nat) : Int)) rfl rfl (w64 (by omega) (by omega)) (wl_s (o_shlN .i64 283 (14 - j - 8) (by omega) (by have := mul_lt2 (14 - j - 8) (by omega); omega) rfl rfl (wl_s (o_xorN (red (cl a.toNat b.toNat 8) j) (283 * 2 ^ (14 - j - 8)) (by omega) (by have := mul_lt2 (14 - j - 8) (by omega); omega) rfl rfl (wl_s (o_assign (vI (((red (cl a.toNat b.toNat 8) j) ^^^ (283 * 2 ^ (14 - j - 8)) : Nat) : Int)) rfl (wl_nil (blockQ_n (thenQ_n (?_))))))))))))))))
      refine cw_region (by kernel_rfl) (wl_s (o_move (vI ((14 - j : Nat) : Int)) rfl (wl_s (o_sub .i64 ((14 - j : Nat) : Int) (1 : Int) (((14 - j : Nat) : Int) - (1 : Int)) rfl rfl (w64 (by omega) (by omega)) (wl_s (o_assign (vI (((14 - j : Nat) : Int) - (1 : Int))) rfl (wl_nil (thenQ_n (?_)))))))))
      exact ⟨_, (by omega), (j + 1), (by first | omega | (simp; done) | (simp; omega) | simp_all), rfl, ⟨_, upds_self _ ⟨(by first | rfl | exact congrArg (Value.int _) (by first | omega | (first | rw [red_yes (cl a.toNat b.toNat 8) j (by omega)] | rw [red_no (cl a.toNat b.toNat 8) j (by omega)]))), (by first | rfl | exact congrArg (Value.int _) (by first | omega | (simp))), rfl, trivial⟩⟩, rfl⟩
     ·have hp11 : ((((red (cl a.toNat b.toNat 8) j) / 2 ^ (14 - j)) % 2 : Nat) : Int) ≠ (1 : Int) := by first | simpa using hc9 | (have e := hc9; simp at e; omega)
      refine cw_skip (blockQ_n (thenQ_n (?_)))
      refine cw_region (by kernel_rfl) (wl_s (o_move (vI ((14 - j : Nat) : Int)) rfl (wl_s (o_sub .i64 ((14 - j : Nat) : Int) (1 : Int) (((14 - j : Nat) : Int) - (1 : Int)) rfl rfl (w64 (by omega) (by omega)) (wl_s (o_assign (vI (((14 - j : Nat) : Int) - (1 : Int))) rfl (wl_nil (thenQ_n (?_)))))))))
      exact ⟨_, (by omega), (j + 1), (by first | omega | (simp; done) | (simp; omega) | simp_all), rfl, ⟨_, upds_self _ ⟨(by first | rfl | exact congrArg (Value.int _) (by first | omega | (first | rw [red_yes (cl a.toNat b.toNat 8) j (by omega)] | rw [red_no (cl a.toNat b.toNat 8) j (by omega)]))), (by first | rfl | exact congrArg (Value.int _) (by first | omega | (simp))), rfl, trivial⟩⟩, rfl⟩
    ·have hp12 : ((14 - j : Nat) : Int) < (8 : Int) := by first | simpa using hc7 | (have e := hc7; simp at e; omega)
     obtain rfl : j = 7 := by omega
     refine cw_exit (thenQ_x (thenQ_x (blockQ_x (thenQ_n (?_)))))
     refine cw_seq (?_)
     refine cw_region (by kernel_rfl) (wl_s (o_move (vI ((red (cl a.toNat b.toNat 8) 7 : Nat) : Int)) rfl (wl_s (o_u8of .i64 Try.underlying3 Try.underlying5 ((red (cl a.toNat b.toNat 8) 7 : Nat) : Int) rfl (wl_s (o_assign (vB (u8of ((red (cl a.toNat b.toNat 8) 7 : Nat) : Int))) rfl (wl_nil (thenQ_n (?_)))))))))
     refine cw_ret (end_r rfl (res1 rfl rfl rfl) (?_))
     have e : (refMul a b) = (u8of ((red (cl a.toNat b.toNat 8) 7 : Nat) : Int)) := rfl
     exact ⟨_, rfl, s0.keep, by rw [e]; exact rfl⟩
set_option maxHeartbeats 4000000 in
set_option maxRecDepth 100000 in
theorem c_refInv {O : List Nat} (a : UInt8) (w : World) (hO : ∀ b ∈ O, b < w.heap.size) : CallsK Try.prog 19 [vB a] w (fun v _ => v = .tuple #[vB ((refInv a).1), vI ((refInv a).2)]) :=  by
 have s0 : St w O w [] := St.start hO
 refine callsK_of 16 Try.func19 rfl rfl (of_decide_eq_true rfl) (fun F0 => ?_)
 refine cw_seq (?_)
 refine cw_region (by kernel_rfl) (wl_s (o_assign (vB (0 : UInt8)) rfl (wl_s (o_assign (vI (0 : Int)) rfl (wl_nil (thenQ_n (?_)))))))
 refine cw_seq (?_)
 refine cw_seq (?_)
 refine cw_region (by kernel_rfl) (wl_s (o_assign (vI (1 : Int)) rfl (wl_nil (thenQ_n (?_)))))
 refine cw_block (?_)
 refine cw_loop (fun mI FI wI => ∃ (k : Nat) (B : List Nat), 1 ≤ k ∧ k ≤ 256 ∧ refInv a = scan (fun b => if refMul a (u8of (b : Int)) == 1 then some (u8of (b : Int), 0) else none) (0, 1) k (256 - k) ∧ mI = 256 - k ∧ (∃ F1, FI = upds F1 [(0, vB a), (4, vI ((k : Nat) : Int)), (16, undef)]) ∧ St w O wI B) (256 - (1)) ?_ ?_
 ·exact ⟨(1), [], (by first | omega | (simp; done) | (simp; omega) | simp_all), (by first | omega | (simp; done) | (simp; omega) | simp_all), rfl, rfl, ⟨_, upds_self _ ⟨rfl, (by first | rfl | exact congrArg (Value.int _) (by first | omega | (simp))), rfl, trivial⟩⟩, s0⟩
 ·intro ml0 F wl0 hI
  obtain ⟨k, Bl0, hr0_0, hr0_1, hr0_2, hm0, ⟨Fl0, rfl⟩, sl0⟩ := hI
  refine cw_seq (?_)
  refine cw_seq (?_)
  refine cw_region (by kernel_rfl) (wl_s (o_move (vI ((k : Nat) : Int)) rfl (wl_s (o_lss .i64 ((k : Nat) : Int) (256 : Int) rfl rfl (wl_nil (thenQ_n (?_)))))))
  refine cw_cond (decide (((k : Nat) : Int) < (256 : Int))) rfl rfl (fun hc13 => ?_) (fun hc13 => ?_)
  ·have hp14 : ((k : Nat) : Int) < (256 : Int) := by first | simpa using hc13 | (have e := hc13; simp at e; omega)
   refine cw_skip (thenQ_n (?_))
   refine cw_seq (?_)
   refine cw_block (?_)
   refine cw_seq (?_)
   refine cw_region (by kernel_rfl) (wl_s (o_move (vB a) rfl (wl_s (o_move (vI ((k : Nat) : Int)) rfl (wl_s (o_u8of .i64 Try.underlying3 Try.underlying5 ((k : Nat) : Int) rfl (wl_s (o_callK (vs := [vB a, vB (u8of ((k : Nat) : Int))]) enter_21 (c_refMul (O := Bl0 ++ O) a (u8of ((k : Nat) : Int)) wl0 sl0.lt) rfl sl0 fun v15 w16 s17 m18 k19 r20 => (?_)))))))))
   obtain rfl := r20
   refine wl_s (o_eql8 (refMul a (u8of ((k : Nat) : Int))) (1 : UInt8) rfl rfl (wl_nil (thenQ_n (?_))))
   refine cw_cond ((refMul a (u8of ((k : Nat) : Int))) == (1 : UInt8)) rfl rfl (fun hc21 => ?_) (fun hc21 => ?_)
   ·have hp22 : refMul a (u8of ((k : Nat) : Int)) = (1 : UInt8) := by first | simpa using hc21 | (have e := hc21; simp at e; omega)
    refine cw_seq (?_)
    refine cw_region (by kernel_rfl) (wl_s (o_move (vI ((k : Nat) : Int)) rfl (wl_s (o_u8of .i64 Try.underlying3 Try.underlying5 ((k : Nat) : Int) rfl (wl_s (o_assign (vB (u8of ((k : Nat) : Int))) rfl (wl_s (o_assign (vI (0 : Int)) rfl (wl_nil (thenQ_n (?_)))))))))))
    refine cw_ret (blockQ_r (thenQ_r (thenQ_r (blockQ_r (thenQ_r (end_r rfl (res2 rfl rfl rfl rfl) (?_)))))))
    have e : (refInv a) = (u8of ((k : Nat) : Int), (0 : Int)) := by rw [hr0_2]; exact scan_some (by omega) (by simp [*])
    exact ⟨_, rfl, s17.keep, by rw [e]; exact rfl⟩
   ·have hp23 : refMul a (u8of ((k : Nat) : Int)) ≠ (1 : UInt8) := by first | simpa using hc21 | (have e := hc21; simp at e; omega)
    refine cw_skip (blockQ_n (thenQ_n (?_)))
    refine cw_region (by kernel_rfl) (wl_s (o_move (vI ((k : Nat) : Int)) rfl (wl_s (o_add .i64 ((k : Nat) : Int) (1 : Int) (((k + 1 : Nat) : Int)) rfl rfl (w64 (by omega) (by omega)) (wl_s (o_assign (vI ((k + 1 : Nat) : Int)) rfl (wl_nil (thenQ_n (?_)))))))))
    exact ⟨_, (by omega), (k + 1), Bl0, (by first | omega | (simp; done) | (simp; omega) | simp_all), (by first | omega | (simp; done) | (simp; omega) | simp_all), (hr0_2.trans (scan_none (by omega) (by simp [*]))), rfl, ⟨_, upds_self _ ⟨rfl, (by first | rfl | exact congrArg (Value.int _) (by first | omega | (simp))), rfl, trivial⟩⟩, s17⟩
  ·have hp24 : (256 : Int) ≤ ((k : Nat) : Int) := by first | simpa using hc13 | (have e := hc13; simp at e; omega)
   refine cw_exit (thenQ_x (thenQ_x (blockQ_x (thenQ_n (?_)))))
   refine cw_seq (?_)
   refine cw_region (by kernel_rfl) (wl_s (o_assign (vB (0 : UInt8)) rfl (wl_s (o_assign (vI (1 : Int)) rfl (wl_nil (thenQ_n (?_)))))))
   refine cw_ret (end_r rfl (res2 rfl rfl rfl rfl) (?_))
   have e : (refInv a) = ((0 : UInt8), (1 : Int)) := by rw [hr0_2]; exact scan_end (by omega)
   exact ⟨_, rfl, sl0.keep, by rw [e]; exact rfl⟩
set_option maxHeartbeats 4000000 in
set_option maxRecDepth 100000 in
theorem c_refOver {O : List Nat} (a : UInt8) (b : UInt8) (w : World) (hO : ∀ b ∈ O, b < w.heap.size) : CallsK Try.prog 44 [vB a, vB b] w (fun v _ => v = vB (refOver a b)) :=  by
 have s0 : St w O w [] := St.start hO
 refine callsK_of 15 Try.func44 rfl rfl (of_decide_eq_true rfl) (fun F0 => ?_)
 refine cw_seq (?_)
 refine cw_region (by kernel_rfl) (wl_s (o_assign (vB (0 : UInt8)) rfl (wl_nil (thenQ_n (?_)))))
 refine cw_seq (?_)
 refine cw_region (by kernel_rfl) (wl_s (o_move (vB b) rfl (wl_s (o_callK (vs := [vB b]) enter_19 (c_refInv (O := [] ++ O) b w s0.lt) rfl s0 fun v25 w26 s27 m28 k29 r30 => (?_)))))
 obtain rfl := r30
 refine wl_s (o_move (Value.tuple #[vB ((refInv b).1), vI ((refInv b).2)]) rfl (wl_s (o_extract (vB ((refInv b).1)) rfl rfl (wl_s (o_extract (vI ((refInv b).2)) rfl rfl (wl_s (o_assign (vB ((refInv b).1)) rfl (wl_s (o_assign (vI ((refInv b).2)) rfl (wl_nil (thenQ_n (?_))))))))))))
 refine cw_seq (?_)
 refine cw_region (by kernel_rfl) (wl_s (o_move (vB a) rfl (wl_s (o_move (vB ((refInv b).1)) rfl (wl_s (o_callK (vs := [vB a, vB ((refInv b).1)]) enter_21 (c_refMul (O := [] ++ O) a ((refInv b).1) w26 s27.lt) rfl s27 fun v31 w32 s33 m34 k35 r36 => (?_)))))))
 obtain rfl := r36
 refine wl_s (o_assign (vB (refMul a ((refInv b).1))) rfl (wl_nil (thenQ_n (?_))))
 refine cw_ret (end_r rfl (res1 rfl rfl rfl) (?_))
 have e : (refOver a b) = (refMul a ((refInv b).1)) := rfl
 exact ⟨_, rfl, s33.keep, by rw [e]; exact rfl⟩
set_option maxHeartbeats 4000000 in
set_option maxRecDepth 100000 in
theorem c_refEval {O : List Nat} (l_v : Value) (l : List UInt8) (x : UInt8) (w : World) (h_l : RdL Enc.u8 w O l_v l) (hO : ∀ b ∈ O, b < w.heap.size) : CallsK Try.prog 27 [l_v, vB x] w (fun v _ => v = vB (refEval l x)) :=  by
 have lim_l := h_l.len_le
 have h_l : RdL Enc.u8 w ([] ++ O) l_v l := h_l
 have s0 : St w O w [] := St.start hO
 refine callsK_of 26 Try.func27 rfl rfl (of_decide_eq_true rfl) (fun F0 => ?_)
 refine cw_seq (?_)
 refine cw_region (by kernel_rfl) (wl_s (o_assign (vB (0 : UInt8)) rfl (wl_nil (thenQ_n (?_)))))
 refine cw_seq (?_)
 refine cw_region (by kernel_rfl) (wl_s (o_assign (vB (0 : UInt8)) rfl (wl_nil (thenQ_n (?_)))))
 refine cw_seq (?_)
 refine cw_region (by kernel_rfl) (wl_s (o_assign (vB (1 : UInt8)) rfl (wl_nil (thenQ_n (?_)))))
 refine cw_seq (?_)
 refine cw_seq (?_)
 refine cw_region (by kernel_rfl) (wl_s (o_assign (vI (0 : Int)) rfl (wl_nil (thenQ_n (?_)))))
 refine cw_block (?_)
 refine cw_loop (fun mI FI wI => ∃ (k : Nat) (B : List Nat), k ≤ l.length ∧ mI = l.length - k ∧ (∃ F1, FI = upds F1 [(0, l_v), (1, vB x), (5, vB ((refEvalP l x k).1)), (6, vB ((refEvalP l x k).2)), (7, vI ((k : Nat) : Int)), (26, undef)]) ∧ St w O wI B ∧ RdL Enc.u8 wI (B ++ O) (l_v) (l)) (l.length - (0)) ?_ ?_
 ·exact ⟨(0), [], (by first | omega | (simp; done) | (simp; omega) | simp_all), rfl, ⟨_, upds_self _ ⟨rfl, rfl, (congrArg vB (by first | rfl | (rfl))), (congrArg vB (by first | rfl | (rfl))), (by first | rfl | exact congrArg (Value.int _) (by first | omega | (simp))), rfl, trivial⟩⟩, s0, h_l⟩
 ·intro ml0 F wl0 hI
  clear h_l
  obtain ⟨k, Bl0, hr0_0, hm0, ⟨Fl0, rfl⟩, sl0, h_l⟩ := hI
  refine cw_seq (?_)
  refine cw_seq (?_)
  refine cw_region (by kernel_rfl) (wl_s (o_move (vI ((k : Nat) : Int)) rfl (wl_s (o_move (l_v) rfl (wl_s (o_lenR Try.underlying28 rfl h_l (wl_s (o_lss .i64 ((k : Nat) : Int) (l.length : Int) rfl rfl (wl_nil (thenQ_n (?_)))))))))))
  refine cw_cond (decide (((k : Nat) : Int) < (l.length : Int))) rfl rfl (fun hc37 => ?_) (fun hc37 => ?_)
  ·have hp38 : ((k : Nat) : Int) < (l.length : Int) := by first | simpa using hc37 | (have e := hc37; simp at e; omega)
   refine cw_skip (thenQ_n (?_))
   refine cw_seq (?_)
   refine cw_block (?_)
   refine cw_seq (?_)
   refine cw_region (by kernel_rfl) (wl_s (o_move (vB ((refEvalP l x k).1)) rfl (wl_s (o_move (l_v) rfl (wl_s (o_move (vI ((k : Nat) : Int)) rfl (wl_s (o_idx Try.underlying28 s_5 .i64 ((k : Nat) : Int) k rfl rfl rfl h_l (by omega) fun a39 hp40 => (wl_s (o_loadB Try.underlying5 rfl rfl hp40 (wl_s (o_move (vB ((refEvalP l x k).2)) rfl (wl_s (o_callK (vs := [vB (l[k]!), vB ((refEvalP l x k).2)]) enter_21 (c_refMul (O := Bl0 ++ O) (l[k]!) ((refEvalP l x k).2) wl0 sl0.lt) rfl sl0 fun v41 w42 s43 m44 k45 r46 => (?_)))))))))))))))
   obtain rfl := r46
   have h_l := h_l.mv m44
   refine wl_s (o_xor8 ((refEvalP l x k).1) (refMul (l[k]!) ((refEvalP l x k).2)) rfl rfl (wl_s (o_assign (vB (((refEvalP l x k).1) ^^^ (refMul (l[k]!) ((refEvalP l x k).2)))) rfl (wl_nil (thenQ_n (?_))))))
   refine cw_region (by kernel_rfl) (wl_s (o_move (vB ((refEvalP l x k).2)) rfl (wl_s (o_move (vB x) rfl (wl_s (o_callK (vs := [vB ((refEvalP l x k).2), vB x]) enter_21 (c_refMul (O := Bl0 ++ O) ((refEvalP l x k).2) x w42 s43.lt) rfl s43 fun v47 w48 s49 m50 k51 r52 => (?_)))))))
   obtain rfl := r52
   have h_l := h_l.mv m50
   refine wl_s (o_assign (vB (refMul ((refEvalP l x k).2) x)) rfl (wl_nil (blockQ_n (thenQ_n (?_)))))
   refine cw_region (by kernel_rfl) (wl_s (o_move (vI ((k : Nat) : Int)) rfl (wl_s (o_add .i64 ((k : Nat) : Int) (1 : Int) (((k + 1 : Nat) : Int)) rfl rfl (w64 (by omega) (by omega)) (wl_s (o_assign (vI ((k + 1 : Nat) : Int)) rfl (wl_nil (thenQ_n (?_)))))))))
   exact ⟨_, (by omega), (k + 1), Bl0, (by first | omega | (simp; done) | (simp; omega) | simp_all), rfl, ⟨_, upds_self _ ⟨rfl, rfl, (congrArg vB (by first | rfl | (rfl))), (congrArg vB (by first | rfl | (rfl))), (by first | rfl | exact congrArg (Value.int _) (by first | omega | (simp))), rfl, trivial⟩⟩, s49, h_l⟩
  ·have hp53 : (l.length : Int) ≤ ((k : Nat) : Int) := by first | simpa using hc37 | (have e := hc37; simp at e; omega)
   obtain rfl : k = l.length := by omega
   refine cw_exit (thenQ_x (thenQ_x (blockQ_x (thenQ_n (?_)))))
   refine cw_seq (?_)
   refine cw_region (by kernel_rfl) (wl_s (o_move (vB ((refEvalP l x l.length).1)) rfl (wl_s (o_assign (vB ((refEvalP l x l.length).1)) rfl (wl_nil (thenQ_n (?_)))))))
   refine cw_ret (end_r rfl (res1 rfl rfl rfl) (?_))
   have e : (refEval l x) = ((refEvalP l x l.length).1) := rfl
   exact ⟨_, rfl, sl0.keep, by rw [e]; exact rfl⟩
set_option maxHeartbeats 4000000 in
set_option maxRecDepth 100000 in
theorem c_refPoints {O : List Nat} (xs_v : Value) (xs : List UInt8) (ys_v : Value) (ys : List UInt8) (w : World) (h_xs : RdL Enc.u8 w O xs_v xs) (h_ys : RdL Enc.u8 w O ys_v ys) (hO : ∀ b ∈ O, b < w.heap.size) : CallsK Try.prog 43 [xs_v, ys_v] w (fun v _ => v = .bool (refPoints xs ys)) :=  by
 have lim_xs := h_xs.len_le
 have h_xs : RdL Enc.u8 w ([] ++ O) xs_v xs := h_xs
 have lim_ys := h_ys.len_le
 have h_ys : RdL Enc.u8 w ([] ++ O) ys_v ys := h_ys
 have s0 : St w O w [] := St.start hO
 refine callsK_of 32 Try.func43 rfl rfl (of_decide_eq_true rfl) (fun F0 => ?_)
 refine cw_seq (?_)
 refine cw_region (by kernel_rfl) (wl_s (o_assign (Value.bool false) rfl (wl_nil (thenQ_n (?_)))))
 refine cw_seq (?_)
 refine cw_seq (?_)
 refine cw_region (by kernel_rfl) (wl_s (o_move (xs_v) rfl (wl_s (o_lenR Try.underlying28 rfl h_xs (wl_s (o_move (ys_v) rfl (wl_s (o_lenR Try.underlying28 rfl h_ys (wl_s (o_neq .i64 (xs.length : Int) (ys.length : Int) rfl rfl (wl_nil (thenQ_n (?_)))))))))))))
 refine cw_cond ((xs.length : Int) != (ys.length : Int)) rfl rfl (fun hc54 => ?_) (fun hc54 => ?_)
 ·have hp55 : (xs.length : Int) ≠ (ys.length : Int) := by first | simpa using hc54 | (have e := hc54; simp at e; omega)
  refine cw_seq (?_)
  refine cw_region (by kernel_rfl) (wl_s (o_assign (Value.bool false) rfl (wl_nil (thenQ_n (?_)))))
  refine cw_ret (thenQ_r (end_r rfl (res1 rfl rfl rfl) (?_)))
  have e : (refPoints xs ys) = false := by simp [refPoints, *]
  exact ⟨_, rfl, s0.keep, by rw [e]; exact rfl⟩
 ·have hp56 : (xs.length : Int) = (ys.length : Int) := by first | simpa using hc54 | (have e := hc54; simp at e; omega)
  refine cw_skip (thenQ_n (?_))
  refine cw_seq (?_)
  refine cw_seq (?_)
  refine cw_region (by kernel_rfl) (wl_s (o_assign (vI (0 : Int)) rfl (wl_nil (thenQ_n (?_)))))
  refine cw_block (?_)
  refine cw_loop (fun mI FI wI => ∃ (k : Nat) (B : List Nat), k ≤ xs.length ∧ refPoints xs ys = refPointsOut xs k (xs.length - k) ∧ mI = xs.length - k ∧ (∃ F1, FI = upds F1 [(0, xs_v), (5, vI ((k : Nat) : Int)), (32, undef)]) ∧ St w O wI B ∧ RdL Enc.u8 wI (B ++ O) (xs_v) (xs)) (xs.length - (0)) ?_ ?_
  ·exact ⟨(0), [], (by first | omega | (simp; done) | (simp; omega) | simp_all), (by simp [refPoints, *]), rfl, ⟨_, upds_self _ ⟨rfl, (by first | rfl | exact congrArg (Value.int _) (by first | omega | (simp))), rfl, trivial⟩⟩, s0, h_xs⟩
  ·intro ml0 F wl0 hI
   clear h_xs
   obtain ⟨k, Bl0, hr0_0, hr0_1, hm0, ⟨Fl0, rfl⟩, sl0, h_xs⟩ := hI
   refine cw_seq (?_)
   refine cw_seq (?_)
   refine cw_region (by kernel_rfl) (wl_s (o_move (vI ((k : Nat) : Int)) rfl (wl_s (o_move (xs_v) rfl (wl_s (o_lenR Try.underlying28 rfl h_xs (wl_s (o_lss .i64 ((k : Nat) : Int) (xs.length : Int) rfl rfl (wl_nil (thenQ_n (?_)))))))))))
   refine cw_cond (decide (((k : Nat) : Int) < (xs.length : Int))) rfl rfl (fun hc57 => ?_) (fun hc57 => ?_)
   ·have hp58 : ((k : Nat) : Int) < (xs.length : Int) := by first | simpa using hc57 | (have e := hc57; simp at e; omega)
    refine cw_skip (thenQ_n (?_))
    refine cw_seq (?_)
    refine cw_block (?_)
    refine cw_seq (?_)
    refine cw_region (by kernel_rfl) (wl_s (o_assign (vI (0 : Int)) rfl (wl_nil (thenQ_n (?_)))))
    refine cw_block (?_)
    refine cw_loop (fun mI FI wI => ∃ (j : Nat) (B : List Nat), j ≤ k ∧ refPointsIn xs k = scan (fun j => if xs[j]! == xs[k]! then some false else none) true j (k - j) ∧ mI = k - j ∧ (∃ F1, FI = upds F1 [(0, xs_v), (5, vI ((k : Nat) : Int)), (6, vI ((j : Nat) : Int)), (32, undef)]) ∧ St w O wI B ∧ RdL Enc.u8 wI (B ++ O) (xs_v) (xs)) (k - (0)) ?_ ?_
    ·exact ⟨(0), Bl0, (by first | omega | (simp; done) | (simp; omega) | simp_all), rfl, rfl, ⟨_, upds_self _ ⟨rfl, rfl, (by first | rfl | exact congrArg (Value.int _) (by first | omega | (simp))), rfl, trivial⟩⟩, sl0, h_xs⟩
    ·intro ml1 F wl1 hI
     clear h_xs
     obtain ⟨j, Bl1, hr1_0, hr1_1, hm1, ⟨Fl1, rfl⟩, sl1, h_xs⟩ := hI
     refine cw_seq (?_)
     refine cw_seq (?_)
     refine cw_region (by kernel_rfl) (wl_s (o_move (vI ((j : Nat) : Int)) rfl (wl_s (o_move (vI ((k : Nat) : Int)) rfl (wl_s (o_lss .i64 ((j : Nat) : Int) ((k : Nat) : Int) rfl rfl (wl_nil (thenQ_n (?_)))))))))
     refine cw_cond (decide (((j : Nat) : Int) < ((k : Nat) : Int))) rfl rfl (fun hc59 => ?_) (fun hc59 => ?_)
     ·have hp60 : ((j : Nat) : Int) < ((k : Nat) : Int) := by first | simpa using hc59 | (have e := hc59; simp at e; omega)
      refine cw_skip (thenQ_n (?_))
      refine cw_seq (?_)
      refine cw_block (?_)
      refine cw_seq (?_)
      refine cw_draw' 8 _ _ [fun (vT : Value) (wT : World) => RdL Enc.u8 wT (Bl1 ++ O) vT (xs), isV (vI ((j : Nat) : Int)), fun (vT : Value) (wT : World) => ∃ aT, vT = .pointer (some aT) ∧ PT Enc.u8 wT (Bl1 ++ O) (.pointer (some aT)) (xs[j]!), isV (vB (xs[j]!)), fun (vT : Value) (wT : World) => RdL Enc.u8 wT (Bl1 ++ O) vT (xs), isV (vI ((k : Nat) : Int)), fun (vT : Value) (wT : World) => ∃ aT, vT = .pointer (some aT) ∧ PT Enc.u8 wT (Bl1 ++ O) (.pointer (some aT)) (xs[k]!), isV (vB (xs[k]!))] (by kernel_rfl) (by kernel_rfl) (by kernel_rfl) (by kernel_rfl) rfl rfl ⟨fun _ _ _ h k => h.mv (Mv.of_keep k), kI, fun _ _ _ ⟨a, e, h⟩ k => ⟨a, e, h.mv (Mv.of_keep k)⟩, kI, fun _ _ _ h k => h.mv (Mv.of_keep k), kI, fun _ _ _ ⟨a, e, h⟩ k => ⟨a, e, h.mv (Mv.of_keep k)⟩, kI, trivial⟩ ⟨?_, ?_, ?_, ?_, ?_, ?_, ?_, ?_, trivial⟩ ?_
      ·intro F1 w1 k1 hf hd
       have k0 := (Keep.drew [] wl1).trans k1
       have m1 : Mv Bl1 wl1 Bl1 w1 := Mv.of_keep k0
       have h_xs := h_xs.mv m1
       obtain ⟨F2, rfl⟩ := lit_of (F := F1) [(0, xs_v)] ⟨hf 0 (by kernel_rfl), trivial⟩
       exact sp_plain rfl ((o_move (xs_v) rfl (⟨(Keep.refl _ _), h_xs⟩)))
      ·intro F1 w1 k1 hf hd
       obtain ⟨F2, rfl⟩ := lit_of (F := F1) [(6, vI ((j : Nat) : Int))] ⟨hf 6 (by kernel_rfl), trivial⟩
       exact sp_plain rfl ((o_move (vI ((j : Nat) : Int)) rfl (⟨(Keep.refl _ _), rfl⟩)))
      ·intro F1 w1 k1 hf hd
       obtain ⟨v61, e63, hl62⟩ : ∃ v, F1 23 = v ∧ RdL Enc.u8 w1 (Bl1 ++ O) v (xs) := ⟨_, rfl, hd 0 23 (by kernel_rfl)⟩
       have := hl62.len_le
       obtain ⟨F2, rfl⟩ := lit_of (F := F1) [(23, v61), (24, vI ((j : Nat) : Int))] ⟨e63, hd 1 24 (by kernel_rfl), trivial⟩
       exact sp_plain rfl ((o_idx Try.underlying28 s_5 .i64 ((j : Nat) : Int) j rfl rfl rfl hl62 (by omega) fun a64 hp65 => (⟨(Keep.refl _ _), ⟨a64, rfl, hp65⟩⟩)))
      ·intro F1 w1 k1 hf hd
       obtain ⟨a66, e68, hp67⟩ : ∃ a, F1 25 = .pointer (some a) ∧ PT Enc.u8 w1 (Bl1 ++ O) (.pointer (some a)) (xs[j]!) := hd 2 25 (by kernel_rfl)
       obtain ⟨F2, rfl⟩ := lit_of (F := F1) [(25, Value.pointer (some a66))] ⟨e68, trivial⟩
       exact sp_plain rfl ((o_loadB Try.underlying5 rfl rfl hp67 (⟨(Keep.refl _ _), rfl⟩)))
      ·intro F1 w1 k1 hf hd
       have k0 := (Keep.drew [] wl1).trans k1
       have m1 : Mv Bl1 wl1 Bl1 w1 := Mv.of_keep k0
       have h_xs := h_xs.mv m1
       obtain ⟨F2, rfl⟩ := lit_of (F := F1) [(0, xs_v)] ⟨hf 0 (by kernel_rfl), trivial⟩
       exact sp_plain rfl ((o_move (xs_v) rfl (⟨(Keep.refl _ _), h_xs⟩)))
      ·intro F1 w1 k1 hf hd
       obtain ⟨F2, rfl⟩ := lit_of (F := F1) [(5, vI ((k : Nat) : Int))] ⟨hf 5 (by kernel_rfl), trivial⟩
       exact sp_plain rfl ((o_move (vI ((k : Nat) : Int)) rfl (⟨(Keep.refl _ _), rfl⟩)))
      ·intro F1 w1 k1 hf hd
       obtain ⟨v69, e71, hl70⟩ : ∃ v, F1 27 = v ∧ RdL Enc.u8 w1 (Bl1 ++ O) v (xs) := ⟨_, rfl, hd 4 27 (by kernel_rfl)⟩
       have := hl70.len_le
       obtain ⟨F2, rfl⟩ := lit_of (F := F1) [(27, v69), (28, vI ((k : Nat) : Int))] ⟨e71, hd 5 28 (by kernel_rfl), trivial⟩
       exact sp_plain rfl ((o_idx Try.underlying28 s_5 .i64 ((k : Nat) : Int) k rfl rfl rfl hl70 (by omega) fun a72 hp73 => (⟨(Keep.refl _ _), ⟨a72, rfl, hp73⟩⟩)))
      ·intro F1 w1 k1 hf hd
       obtain ⟨a74, e76, hp75⟩ : ∃ a, F1 29 = .pointer (some a) ∧ PT Enc.u8 w1 (Bl1 ++ O) (.pointer (some a)) (xs[k]!) := hd 6 29 (by kernel_rfl)
       obtain ⟨F2, rfl⟩ := lit_of (F := F1) [(29, Value.pointer (some a74))] ⟨e76, trivial⟩
       exact sp_plain rfl ((o_loadB Try.underlying5 rfl rfl hp75 (⟨(Keep.refl _ _), rfl⟩)))
      intro F78 w79 k77 hT80 hF81
      have s82 := sl1.call k77
      have m83 : Mv Bl1 wl1 Bl1 w79 := Mv.of_keep k77
      have h_xs := h_xs.mv m83
      obtain ⟨F2, rfl⟩ := lit_of (F := F78) [(0, xs_v), (5, vI ((k : Nat) : Int)), (6, vI ((j : Nat) : Int)), (32, undef), (26, vB (xs[j]!)), (30, vB (xs[k]!))] ⟨hF81 0 (by kernel_rfl), hF81 5 (by kernel_rfl), hF81 6 (by kernel_rfl), hF81 32 (by kernel_rfl), hT80 3 26 (by kernel_rfl) (by decide), hT80 7 30 (by kernel_rfl) (by decide), trivial⟩
      clear hT80 hF81
      refine wl_s (o_eql8 (xs[j]!) (xs[k]!) rfl rfl (wl_nil (thenQ_n (?_))))
      refine cw_cond ((xs[j]!) == (xs[k]!)) rfl rfl (fun hc85 => ?_) (fun hc85 => ?_)
      ·have hp86 : xs[j]! = xs[k]! := by first | simpa using hc85 | (have e := hc85; simp at e; omega)
       refine cw_seq (?_)
       refine cw_region (by kernel_rfl) (wl_s (o_assign (Value.bool false) rfl (wl_nil (thenQ_n (?_)))))
       refine cw_ret (blockQ_r (thenQ_r (thenQ_r (blockQ_r (blockQ_r (thenQ_r (thenQ_r (blockQ_r (thenQ_r (end_r rfl (res1 rfl rfl rfl) (?_)))))))))))
       have e : (refPoints xs ys) = false := by rw [hr0_1]; exact scan_some (by omega) (by rw [hr1_1, scan_some (by omega) (by simp only [beq_iff_eq]; exact if_pos (by assumption))]; rfl)
       exact ⟨_, rfl, s82.keep, by rw [e]; exact rfl⟩
      ·have hp87 : xs[j]! ≠ xs[k]! := by first | simpa using hc85 | (have e := hc85; simp at e; omega)
       refine cw_skip (blockQ_n (thenQ_n (?_)))
       refine cw_region (by kernel_rfl) (wl_s (o_move (vI ((j : Nat) : Int)) rfl (wl_s (o_add .i64 ((j : Nat) : Int) (1 : Int) (((j + 1 : Nat) : Int)) rfl rfl (w64 (by omega) (by omega)) (wl_s (o_assign (vI ((j + 1 : Nat) : Int)) rfl (wl_nil (thenQ_n (?_)))))))))
       exact ⟨_, (by omega), (j + 1), Bl1, (by first | omega | (simp; done) | (simp; omega) | simp_all), (hr1_1.trans (scan_none (by omega) (by simp only [beq_iff_eq]; exact if_neg (by assumption)))), rfl, ⟨_, upds_self _ ⟨rfl, rfl, (by first | rfl | exact congrArg (Value.int _) (by first | omega | (simp))), rfl, trivial⟩⟩, s82, h_xs⟩
     ·have hp88 : ((k : Nat) : Int) ≤ ((j : Nat) : Int) := by first | simpa using hc59 | (have e := hc59; simp at e; omega)
      refine cw_exit (thenQ_x (thenQ_x (blockQ_x (blockQ_n (thenQ_n (?_))))))
      refine cw_region (by kernel_rfl) (wl_s (o_move (vI ((k : Nat) : Int)) rfl (wl_s (o_add .i64 ((k : Nat) : Int) (1 : Int) (((k + 1 : Nat) : Int)) rfl rfl (w64 (by omega) (by omega)) (wl_s (o_assign (vI ((k + 1 : Nat) : Int)) rfl (wl_nil (thenQ_n (?_)))))))))
      exact ⟨_, (by omega), (k + 1), Bl1, (by first | omega | (simp; done) | (simp; omega) | simp_all), (hr0_1.trans (scan_none (by omega) (by rw [hr1_1, scan_end (by omega)]; rfl))), rfl, ⟨_, upds_self _ ⟨rfl, (by first | rfl | exact congrArg (Value.int _) (by first | omega | (simp))), rfl, trivial⟩⟩, sl1, h_xs⟩
   ·have hp89 : (xs.length : Int) ≤ ((k : Nat) : Int) := by first | simpa using hc57 | (have e := hc57; simp at e; omega)
    refine cw_exit (thenQ_x (thenQ_x (blockQ_x (thenQ_n (?_)))))
    refine cw_seq (?_)
    refine cw_region (by kernel_rfl) (wl_s (o_assign (Value.bool true) rfl (wl_nil (thenQ_n (?_)))))
    refine cw_ret (end_r rfl (res1 rfl rfl rfl) (?_))
    have e : (refPoints xs ys) = true := by rw [hr0_1]; exact scan_end (by omega)
    exact ⟨_, rfl, sl0.keep, by rw [e]; exact rfl⟩
set_option maxHeartbeats 4000000 in
set_option maxRecDepth 100000 in
theorem c_mul {O : List Nat} (a : UInt8) (b : UInt8) (w : World) (hO : ∀ b ∈ O, b < w.heap.size) : CallsK Try.prog 20 [vB a, vB b] w (fun v _ => v = vB (gmul a b)) :=  by
 have s0 : St w O w [] := St.start hO
 refine callsK_of 46 Try.func20 rfl rfl (of_decide_eq_true rfl) (fun F0 => ?_)
 refine cw_seq (?_)
 refine cw_region (by kernel_rfl) (wl_s (o_assign (vB (0 : UInt8)) rfl (wl_nil (thenQ_n (?_)))))
 refine cw_seq (?_)
 refine cw_region (by kernel_rfl) (wl_s (o_alloc [vB (0 : UInt8), vB (0 : UInt8), vB (0 : UInt8), vB (0 : UInt8), vB (0 : UInt8), vB (0 : UInt8), vB (0 : UInt8), vB (0 : UInt8)] z_58 rfl s0 fun b90 w91 e96 s92 m93 k94 bx95 => (?_)))
 clear e96
 have bx95 : Box w91 b90 58 ((List.replicate 8 (0 : UInt8)).map vB) := bx95
 refine wl_nil (thenQ_n (?_))
 refine cw_seq (?_)
 refine cw_region (by kernel_rfl) (wl_s (o_move (vB a) rfl (wl_s (o_indexA Try.underlying58 s_5 .i64 (0 : Int) 0 rfl rfl rfl (by omega) (wl_n (o_store1 (vB a) rfl rfl rfl s_5 (by first | assumption | (repeat (first | exact List.mem_cons_self | assumption | apply List.mem_cons_of_mem))) bx95 (by rw [List.length_map, show (List.replicate 8 (0 : UInt8)).length = 8 from by simp [xrow_len]]; omega) s92 fun w97 s98 m99 k100 bx101 => (?_)))))))
 rw [arr_set] at bx101
 refine wl_nil (thenQ_n (?_))
 refine cw_seq (?_)
 refine cw_seq (?_)
 refine cw_region (by kernel_rfl) (wl_s (o_assign (vI (1 : Int)) rfl (wl_nil (thenQ_n (?_)))))
 refine cw_block (?_)
 refine cw_loop (fun mI FI wI => ∃ (k : Nat) (B : List Nat), 0 < k ∧ k ≤ 8 ∧ mI = 8 - k ∧ (∃ F1, FI = upds F1 [(1, vB b), (4, vB (0 : UInt8)), (5, Value.pointer (some ⟨b90, 0, none⟩)), (6, vI ((k : Nat) : Int)), (46, undef)]) ∧ St w O wI B ∧ Box wI b90 58 ((xrow a k).map vB) ∧ b90 ∈ B) (8 - (1)) ?_ ?_
 ·exact ⟨(1), (b90 :: []), (by first | omega | (simp; done) | (simp; omega) | simp_all), (by first | omega | (simp; done) | (simp; omega) | simp_all), rfl, ⟨_, upds_self _ ⟨rfl, rfl, rfl, (by first | rfl | exact congrArg (Value.int _) (by first | omega | (simp))), rfl, trivial⟩⟩, s98, (by rw [show xrow a (1) = (List.replicate 8 (0 : UInt8)).set 0 a from by rfl]; exact bx101), (by first | assumption | (repeat (first | exact List.mem_cons_self | assumption | apply List.mem_cons_of_mem)) | (apply_assumption; assumption))⟩
 ·intro ml0 F wl0 hI
  obtain ⟨k, Bl0, hr0_0, hr0_1, hm0, ⟨Fl0, rfl⟩, sl0, hbx_b90, hin_b90⟩ := hI
  refine cw_seq (?_)
  refine cw_seq (?_)
  refine cw_region (by kernel_rfl) (wl_s (o_move (vI ((k : Nat) : Int)) rfl (wl_s (o_lss .i64 ((k : Nat) : Int) (8 : Int) rfl rfl (wl_nil (thenQ_n (?_)))))))
  refine cw_cond (decide (((k : Nat) : Int) < (8 : Int))) rfl rfl (fun hc102 => ?_) (fun hc102 => ?_)
  ·have hp103 : ((k : Nat) : Int) < (8 : Int) := by first | simpa using hc102 | (have e := hc102; simp at e; omega)
   refine cw_skip (thenQ_n (?_))
   refine cw_seq (?_)
   refine cw_block (?_)
   refine cw_seq (?_)
   refine cw_region (by kernel_rfl) (wl_s (o_move (vI ((k : Nat) : Int)) rfl (wl_s (o_sub .i64 ((k : Nat) : Int) (1 : Int) (((k - 1 : Nat) : Int)) rfl rfl (w64 (by omega) (by omega)) (wl_s (o_indexA Try.underlying58 s_5 .i64 ((k - 1 : Nat) : Int) (k - 1) rfl rfl rfl (by omega) (wl_s (o_loadBx Try.underlying5 rfl (vB (xrow a k)[k - 1]!) rfl hbx_b90 (arr_get (by rw [show (xrow a k).length = 8 from by simp [xrow_len]]; omega)) (wl_s (o_assign (vB ((xrow a k)[k - 1]!)) rfl (wl_nil (thenQ_n (?_)))))))))))))
   refine cw_seq (?_)
   refine cw_region (by kernel_rfl) (wl_s (o_move (vI ((k : Nat) : Int)) rfl (wl_s (o_move (vB ((xrow a k)[k - 1]!)) rfl (wl_s (o_shl8 .u64 ((xrow a k)[k - 1]!) 1 (by omega) rfl rfl (wl_s (o_indexA Try.underlying58 s_5 .i64 ((k : Nat) : Int) k rfl rfl rfl (by omega) (wl_n (o_store1 (vB (((xrow a k)[k - 1]!) <<< UInt8.ofNat 1)) rfl rfl rfl s_5 (by first | assumption | (repeat (first | exact List.mem_cons_self | assumption | apply List.mem_cons_of_mem))) hbx_b90 (by rw [List.length_map, show (xrow a k).length = 8 from by simp [xrow_len]]; omega) sl0 fun w104 s105 m106 k107 bx108 => (?_)))))))))))
   rw [arr_set] at bx108
   refine wl_nil (thenQ_n (?_))
   refine cw_seq (?_)
   refine cw_region (by kernel_rfl) (wl_s (o_move (vB ((xrow a k)[k - 1]!)) rfl (wl_s (o_geq .u8 (((xrow a k)[k - 1]!).toNat : Int) ((128 : UInt8).toNat : Int) rfl rfl (wl_nil (thenQ_n (?_)))))))
   refine cw_cond (decide (((128 : UInt8).toNat : Int) ≤ (((xrow a k)[k - 1]!).toNat : Int))) rfl rfl (fun hc109 => ?_) (fun hc109 => ?_)
   ·have hp110 : ((128 : UInt8).toNat : Int) ≤ (((xrow a k)[k - 1]!).toNat : Int) := by first | simpa using hc109 | (have e := hc109; simp at e; omega)
    refine cw_region (by kernel_rfl) (wl_s (o_move (vI ((k : Nat) : Int)) rfl (wl_s (o_indexA Try.underlying58 s_5 .i64 ((k : Nat) : Int) k rfl rfl rfl (by omega) (wl_s (o_loadBx Try.underlying5 rfl (vB ((xrow a k).set k (((xrow a k)[k - 1]!) <<< UInt8.ofNat 1))[k]!) rfl bx108 (arr_get (by rw [show ((xrow a k).set k (((xrow a k)[k - 1]!) <<< UInt8.ofNat 1)).length = 8 from by simp [xrow_len]]; omega)) (wl_s (o_xor8 (((xrow a k).set k (((xrow a k)[k - 1]!) <<< UInt8.ofNat 1))[k]!) (27 : UInt8) rfl rfl (wl_s (o_indexA Try.underlying58 s_5 .i64 ((k : Nat) : Int) k rfl rfl rfl (by omega) (wl_n (o_store1 (vB ((((xrow a k).set k (((xrow a k)[k - 1]!) <<< UInt8.ofNat 1))[k]!) ^^^ (27 : UInt8))) rfl rfl rfl s_5 (by first | assumption | (repeat (first | exact List.mem_cons_self | assumption | apply List.mem_cons_of_mem))) bx108 (by rw [List.length_map, show ((xrow a k).set k (((xrow a k)[k - 1]!) <<< UInt8.ofNat 1)).length = 8 from by simp [xrow_len]]; omega) s105 fun w111 s112 m113 k114 bx115 => (?_)))))))))))))
    rw [arr_set] at bx115
    refine wl_nil (blockQ_n (thenQ_n (?_)))
    refine cw_region (by kernel_rfl) (wl_s (o_move (vI ((k : Nat) : Int)) rfl (wl_s (o_add .i64 ((k : Nat) : Int) (1 : Int) (((k + 1 : Nat) : Int)) rfl rfl (w64 (by omega) (by omega)) (wl_s (o_assign (vI ((k + 1 : Nat) : Int)) rfl (wl_nil (thenQ_n (?_)))))))))
    exact ⟨_, (by omega), (k + 1), Bl0, (by first | omega | (simp; done) | (simp; omega) | simp_all), (by first | omega | (simp; done) | (simp; omega) | simp_all), rfl, ⟨_, upds_self _ ⟨rfl, rfl, rfl, (by first | rfl | exact congrArg (Value.int _) (by first | omega | (simp))), rfl, trivial⟩⟩, s112, (by rw [show xrow a (k + 1) = ((xrow a k).set k (((xrow a k)[k - 1]!) <<< UInt8.ofNat 1)).set k ((((xrow a k).set k (((xrow a k)[k - 1]!) <<< UInt8.ofNat 1))[k]!) ^^^ (27 : UInt8)) from by symm; first | exact xrow_hi a k (by omega) (by omega) (by assumption) | exact xrow_lo a k (by omega) (by omega) (by assumption)]; exact bx115), (by first | assumption | (repeat (first | exact List.mem_cons_self | assumption | apply List.mem_cons_of_mem)) | (apply_assumption; assumption))⟩
   ·have hp116 : (((xrow a k)[k - 1]!).toNat : Int) < ((128 : UInt8).toNat : Int) := by first | simpa using hc109 | (have e := hc109; simp at e; omega)
    refine cw_skip (blockQ_n (thenQ_n (?_)))
    refine cw_region (by kernel_rfl) (wl_s (o_move (vI ((k : Nat) : Int)) rfl (wl_s (o_add .i64 ((k : Nat) : Int) (1 : Int) (((k + 1 : Nat) : Int)) rfl rfl (w64 (by omega) (by omega)) (wl_s (o_assign (vI ((k + 1 : Nat) : Int)) rfl (wl_nil (thenQ_n (?_)))))))))
    exact ⟨_, (by omega), (k + 1), Bl0, (by first | omega | (simp; done) | (simp; omega) | simp_all), (by first | omega | (simp; done) | (simp; omega) | simp_all), rfl, ⟨_, upds_self _ ⟨rfl, rfl, rfl, (by first | rfl | exact congrArg (Value.int _) (by first | omega | (simp))), rfl, trivial⟩⟩, s105, (by rw [show xrow a (k + 1) = (xrow a k).set k (((xrow a k)[k - 1]!) <<< UInt8.ofNat 1) from by symm; first | exact xrow_hi a k (by omega) (by omega) (by assumption) | exact xrow_lo a k (by omega) (by omega) (by assumption)]; exact bx108), (by first | assumption | (repeat (first | exact List.mem_cons_self | assumption | apply List.mem_cons_of_mem)) | (apply_assumption; assumption))⟩
  ·have hp117 : (8 : Int) ≤ ((k : Nat) : Int) := by first | simpa using hc102 | (have e := hc102; simp at e; omega)
   obtain rfl : k = 8 := by omega
   refine cw_exit (thenQ_x (thenQ_x (blockQ_x (thenQ_n (?_)))))
   refine cw_seq (?_)
   refine cw_seq (?_)
   refine cw_region (by kernel_rfl) (wl_s (o_loadBxA (vs := (xrow a 8).map vB) Try.underlying58 rfl (by rw [List.length_map, show (xrow a 8).length = 8 from by simp [xrow_len]]; exact s_58) rfl hbx_b90 (by rw [List.drop_zero, List.take_length]) (wl_s (o_move (vI (0 : Int)) rfl (wl_nil (thenQ_n (?_)))))))
   refine cw_block (?_)
   refine cw_loop (fun mI FI wI => ∃ (i : Nat), i ≤ 8 ∧ mI = 8 - i ∧ (∃ F1, FI = upds F1 [(1, vB b), (4, vB (gm a b i)), (31, Value.agg ((xrow a 8).map vB).toArray), (32, vI ((i : Nat) : Int)), (46, undef)]) ∧ wl0 = wI) (8 - (0)) ?_ ?_
   ·exact ⟨(0), (by first | omega | (simp; done) | (simp; omega) | simp_all), rfl, ⟨_, upds_self _ ⟨rfl, (congrArg vB (by first | rfl | (rfl))), rfl, (by first | rfl | exact congrArg (Value.int _) (by first | omega | (simp))), rfl, trivial⟩⟩, rfl⟩
   ·rintro ml1 F wl1 ⟨i, hr1_0, hm1, ⟨Fl1, rfl⟩, rfl⟩
    refine cw_seq (?_)
    refine cw_region (by kernel_rfl) (wl_s (o_lss .i64 ((i : Nat) : Int) (8 : Int) rfl rfl (wl_nil (thenQ_n (?_)))))
    refine cw_seq (?_)
    refine cw_cond (decide (((i : Nat) : Int) < (8 : Int))) rfl rfl (fun hc118 => ?_) (fun hc118 => ?_)
    ·have hp119 : ((i : Nat) : Int) < (8 : Int) := by first | simpa using hc118 | (have e := hc118; simp at e; omega)
     refine cw_skip (thenQ_n (?_))
     refine cw_seq (?_)
     refine cw_block (?_)
     refine cw_seq (?_)
     refine cw_region (by kernel_rfl) (wl_s (o_move (vI ((i : Nat) : Int)) rfl (wl_s (o_indexV (cs := (xrow a 8).map vB) Try.underlying58 s_5 Try.underlying5 rfl .i64 ((i : Nat) : Int) i (vB (xrow a 8)[i]!) rfl rfl rfl (by omega) (arr_at (by rw [show (xrow a 8).length = 8 from by simp [xrow_len]]; omega)) (wl_s (o_assign (vI ((i : Nat) : Int)) rfl (wl_s (o_assign (vB ((xrow a 8)[i]!)) rfl (wl_nil (thenQ_n (?_)))))))))))
     refine cw_seq (?_)
     refine cw_region (by kernel_rfl) (wl_s (o_move (vB b) rfl (wl_s (o_move (vI ((i : Nat) : Int)) rfl (wl_s (o_shr8 .i64 b i (by omega) rfl rfl (wl_s (o_and8 (b >>> UInt8.ofNat i) (1 : UInt8) rfl rfl (wl_s (o_eql8 ((b >>> UInt8.ofNat i) &&& (1 : UInt8)) (1 : UInt8) rfl rfl (wl_nil (thenQ_n (?_)))))))))))))
     refine cw_cond (((b >>> UInt8.ofNat i) &&& (1 : UInt8)) == (1 : UInt8)) rfl rfl (fun hc120 => ?_) (fun hc120 => ?_)
     ·have hp121 : (b >>> UInt8.ofNat i) &&& (1 : UInt8) = (1 : UInt8) := by first | simpa using hc120 | (have e := hc120; simp at e; omega)
      refine cw_region (by kernel_rfl) (wl_s (o_move (vB (gm a b i)) rfl (wl_s (o_move (vB ((xrow a 8)[i]!)) rfl (wl_s (o_xor8 (gm a b i) ((xrow a 8)[i]!) rfl rfl (wl_s (o_assign (vB ((gm a b i) ^^^ ((xrow a 8)[i]!))) rfl (wl_nil (blockQ_n (thenQ_n (?_))))))))))))
      refine cw_region (by kernel_rfl) (wl_s (o_add .i64 ((i : Nat) : Int) (1 : Int) (((i + 1 : Nat) : Int)) rfl rfl (w64 (by omega) (by omega)) (wl_s (o_move (vI ((i + 1 : Nat) : Int)) rfl (wl_nil (thenQ_n (?_)))))))
      exact ⟨_, (by omega), (i + 1), (by first | omega | (simp; done) | (simp; omega) | simp_all), rfl, ⟨_, upds_self _ ⟨rfl, (congrArg vB (by first | (rw [xrow_at a 8 i (by omega) (by omega)]; exact (gm_yes a b i (by assumption)).symm) | exact (gm_no a b i (by assumption)).symm)), rfl, (by first | rfl | exact congrArg (Value.int _) (by first | omega | (simp))), rfl, trivial⟩⟩, rfl⟩
     ·have hp122 : (b >>> UInt8.ofNat i) &&& (1 : UInt8) ≠ (1 : UInt8) := by first | simpa using hc120 | (have e := hc120; simp at e; omega)
      refine cw_skip (blockQ_n (thenQ_n (?_)))
      refine cw_region (by kernel_rfl) (wl_s (o_add .i64 ((i : Nat) : Int) (1 : Int) (((i + 1 : Nat) : Int)) rfl rfl (w64 (by omega) (by omega)) (wl_s (o_move (vI ((i + 1 : Nat) : Int)) rfl (wl_nil (thenQ_n (?_)))))))
      exact ⟨_, (by omega), (i + 1), (by first | omega | (simp; done) | (simp; omega) | simp_all), rfl, ⟨_, upds_self _ ⟨rfl, (congrArg vB (by first | (rw [xrow_at a 8 i (by omega) (by omega)]; exact (gm_yes a b i (by assumption)).symm) | exact (gm_no a b i (by assumption)).symm)), rfl, (by first | rfl | exact congrArg (Value.int _) (by first | omega | (simp))), rfl, trivial⟩⟩, rfl⟩
    ·have hp123 : (8 : Int) ≤ ((i : Nat) : Int) := by first | simpa using hc118 | (have e := hc118; simp at e; omega)
     obtain rfl : i = 8 := by omega
     refine cw_exit (thenQ_x (thenQ_x (blockQ_x (thenQ_n (?_)))))
     refine cw_seq (?_)
     refine cw_region (by kernel_rfl) (wl_s (o_move (vB (gm a b 8)) rfl (wl_s (o_assign (vB (gm a b 8)) rfl (wl_nil (thenQ_n (?_)))))))
     refine cw_ret (end_r rfl (res1 rfl rfl rfl) (?_))
     have e : (gmul a b) = (gm a b 8) := rfl
     exact ⟨_, rfl, sl0.keep, by rw [e]; exact rfl⟩

end Go.Proofs.Yteajcgfcnbdmgaa
