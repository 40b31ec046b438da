/- Walks, printed by gen.py. -/
import Derived.Test.YtjpniibleelgiaaYd
import Derived.Test.YtjpniibleelgiaaXh
set_option linter.unusedSimpArgs false
set_option linter.unusedVariables false
namespace Go.Proofs.Ytjpniibleelgiaa
open Go.Fw Go.RowKit

set_option maxHeartbeats 4000000 in
set_option maxRecDepth 100000 in
theorem c_refAct {O : List Nat} (d_cs : List Value) (d : Device) (o_cs : List Value) (o : DeviceOp) (crash : Int) (w : World) (h_d : Enc.device.rd w O d_cs d) (h_o : Enc.devop.rd w O o_cs o) (hO : ∀ b ∈ O, b < w.heap.size) : CallsK Try.prog 41 [.agg d_cs.toArray, .agg o_cs.toArray, vI crash] w (fun v w' => ∃ (x0 : List Value), v = .tuple #[.agg x0.toArray, vI ((actM d o crash).2)] ∧ Enc.device.rd w' (O) x0 ((actM d o crash).1)) :=  by
 have h_d : Enc.device.rd w ([] ++ O) d_cs d := h_d
 obtain rfl := h_o
 have s0 : St w O w [] := St.start hO
 refine callsK_of 92 Try.func41 rfl rfl (of_decide_eq_true rfl) (fun F0 => ?_)
 refine cw_seq (?_)
 refine cw_region (by kernel_rfl) (?_)
 obtain ⟨d5756, rfl, hd5757⟩ := h_d
 have := hd5757.len_le
 refine wl_s (o_box (Value.agg #[vI d.id, vI d.counter, d5756, Value.bool d.halted]) [vI d.id, vI d.counter, d5756, Value.bool d.halted] rfl rfl s0 fun b5758 w5759 e5764 s5760 m5761 k5762 bx5763 => (?_))
 clear e5764
 have hd5757 := hd5757.mv m5761
 refine wl_s (o_boxR (E := Enc.devop) (Value.agg #[vI o.device, vI o.no, vI o.kind, vI o.copy, vI o.to, vI o.token]) ([vI o.device, vI o.no, vI o.kind, vI o.copy, vI o.to, vI o.token]) o rfl rfl rfl s5760 fun a5765 w5766 s5767 m5768 k5769 hp5770 => (?_))
 have hd5757 := hd5757.mv m5768
 have bx5763 := bx5763.keep k5769 (by simp)
 refine wl_s (o_alloc [vI (0 : Int), vI (0 : Int), Value.slice none 0 0, Value.bool false] z_31 rfl s5767 fun b5771 w5772 e5777 s5773 m5774 k5775 bx5776 => (?_))
 have ne5778 : NeB b5758 b5771 := by show b5758 ≠ b5771; have := bx5763.lt; omega
 clear e5777
 have hd5757 := hd5757.mv m5774
 have hp5770 := hp5770.mv m5774
 have bx5763 := bx5763.keep k5775 (by simp)
 refine wl_s (o_assign (vI (0 : Int)) rfl (wl_nil (thenQ_n (?_))))
 refine cw_seq (?_)
 refine cw_seq (?_)
 refine cw_region (by kernel_rfl) (wl_s (o_move (vI crash) rfl (wl_s (o_lss .i64 crash (0 : Int) rfl rfl (wl_s (o_move (Value.bool (decide (crash < (0 : Int)))) rfl (?_)))))))
 cases hb5779 : (decide (crash < (0 : Int)))
 ·have hp5780 : (0 : Int) ≤ crash := by first | simpa using hb5779 | (have e := hb5779; simp at e; omega)
  refine wl_t rfl (o_move (vI crash) rfl (wl_t rfl (o_gtr .i64 crash (2 : Int) rfl rfl (wl_s (o_pickF (Value.bool (decide ((2 : Int) < crash))) rfl rfl (wl_nil (thenQ_n (?_))))))))
  refine cw_cond (decide ((2 : Int) < crash)) rfl rfl (fun hc5781 => ?_) (fun hc5781 => ?_)
  ·have hp5782 : (2 : Int) < crash := by first | simpa using hc5781 | (have e := hc5781; simp at e; omega)
   refine cw_seq (?_)
   refine cw_region (by kernel_rfl) (wl_s (o_build (l := []) pl_31 z_31 rfl [] [vI (0 : Int), vI (0 : Int), Value.slice none 0 0, Value.bool false] rfl rfl (wl_n (o_store (vs := [vI (0 : Int), vI (0 : Int), Value.slice none 0 0, Value.bool false]) (.agg #[vI (0 : Int), vI (0 : Int), Value.slice none 0 0, Value.bool false]) rfl rfl rfl s_31 (fun u hu => by simp only [List.mem_cons, List.not_mem_nil, or_false] at hu; rcases hu with rfl | rfl | rfl | rfl <;> first | rfl) (by repeat (first | assumption | constructor)) bx5776 (of_decide_eq_true rfl) s5773 fun w5783 s5784 m5785 k5786 bx5787 => (?_)))))
   refine wl_s (o_assign (vI (1 : Int)) rfl (wl_nil (thenQ_n (?_))))
   refine cw_ret (thenQ_r (end_r rfl (resv2 rfl (rv_A (vs := [vI (0 : Int), vI (0 : Int), Value.slice none 0 0, Value.bool false]) rfl Try.underlying31 rfl s_31 rfl bx5787 rfl) (rv_t rfl rfl)) (?_)))
   have e5788 : ((actM d o crash).1) = (⟨(0 : Int), (0 : Int), [], false⟩ : Device) := by exact congrArg (fun p => p.1) (show actM d o crash = _ from act_1' (by assumption))
   have e5789 : ((actM d o crash).2) = (1 : Int) := by exact congrArg (fun p => p.2) (show actM d o crash = _ from act_1' (by assumption))
   exact ⟨_, rfl, s5784.keep, by rw [e5788, e5789]; exact ⟨[vI (0 : Int), vI (0 : Int), Value.slice none 0 0, Value.bool false], rfl, Enc.out (B := (b5771 :: (b5758 :: []))) ⟨.slice none 0 0, rfl, (RdL.nil _ _ _)⟩⟩⟩
  ·have hp5790 : crash ≤ (2 : Int) := by first | simpa using hc5781 | (have e := hc5781; simp at e; omega)
   refine cw_skip (thenQ_n (?_))
   refine cw_seq (?_)
   refine cw_seq (?_)
   refine cw_region (by kernel_rfl) (wl_s (o_loadBxA (vs := [vI d.id, vI d.counter, d5756, Value.bool d.halted]) Try.underlying31 rfl s_31 rfl bx5763 rfl (wl_s (o_callK (vs := [Value.agg #[vI d.id, vI d.counter, d5756, Value.bool d.halted]]) enter_85 (c_refFormed (O := (b5771 :: (b5758 :: [])) ++ O) [vI d.id, vI d.counter, d5756, Value.bool d.halted] d w5772 ⟨_, rfl, hd5757⟩ s5773.lt) rfl s5773 fun v5791 w5792 s5793 m5794 k5795 r5796 => (?_)))))
   obtain rfl := r5796
   have hd5757 := hd5757.mv m5794
   have hp5770 := hp5770.mv m5794
   have bx5763 := bx5763.keep k5795 (by simp)
   have bx5776 := bx5776.keep k5795 (by simp)
   refine wl_s (o_not (formedM d) rfl (wl_nil (thenQ_n (?_))))
   refine cw_cond (!(formedM d)) rfl rfl (fun hc5797 => ?_) (fun hc5797 => ?_)
   ·have hp5798 : (formedM d) = false := by first | simpa using hc5797 | (have e := hc5797; rw [Bool.not_eq_true'] at e; exact e) | (have e := hc5797; rw [Bool.not_eq_false'] at e; exact e) | (have e := hc5797; simp at e; omega)
    refine cw_seq (?_)
    refine cw_region (by kernel_rfl) (wl_s (o_build (l := []) pl_31 z_31 rfl [] [vI (0 : Int), vI (0 : Int), Value.slice none 0 0, Value.bool false] rfl rfl (wl_n (o_store (vs := [vI (0 : Int), vI (0 : Int), Value.slice none 0 0, Value.bool false]) (.agg #[vI (0 : Int), vI (0 : Int), Value.slice none 0 0, Value.bool false]) rfl rfl rfl s_31 (fun u hu => by simp only [List.mem_cons, List.not_mem_nil, or_false] at hu; rcases hu with rfl | rfl | rfl | rfl <;> first | rfl) (by repeat (first | assumption | constructor)) bx5776 (of_decide_eq_true rfl) s5793 fun w5799 s5800 m5801 k5802 bx5803 => (?_)))))
    refine wl_s (o_assign (vI (420 : Int)) rfl (wl_nil (thenQ_n (?_))))
    refine cw_ret (thenQ_r (end_r rfl (resv2 rfl (rv_A (vs := [vI (0 : Int), vI (0 : Int), Value.slice none 0 0, Value.bool false]) rfl Try.underlying31 rfl s_31 rfl bx5803 rfl) (rv_t rfl rfl)) (?_)))
    have e5804 : ((actM d o crash).1) = (⟨(0 : Int), (0 : Int), [], false⟩ : Device) := by exact congrArg (fun p => p.1) (show actM d o crash = _ from act_2 (by assumption) (by assumption) (by assumption))
    have e5805 : ((actM d o crash).2) = (420 : Int) := by exact congrArg (fun p => p.2) (show actM d o crash = _ from act_2 (by assumption) (by assumption) (by assumption))
    exact ⟨_, rfl, s5800.keep, by rw [e5804, e5805]; exact ⟨[vI (0 : Int), vI (0 : Int), Value.slice none 0 0, Value.bool false], rfl, Enc.out (B := (b5771 :: (b5758 :: []))) ⟨.slice none 0 0, rfl, (RdL.nil _ _ _)⟩⟩⟩
   ·have hp5806 : (formedM d) = true := by first | simpa using hc5797 | (have e := hc5797; rw [Bool.not_eq_true'] at e; exact e) | (have e := hc5797; rw [Bool.not_eq_false'] at e; exact e) | (have e := hc5797; simp at e; omega)
    have hfm : formedM d = true := by simpa using hc5797
    have hfb := formed_b hfm
    have hchk := formed_ok hfm
    refine cw_skip (thenQ_n (?_))
    refine cw_seq (?_)
    refine cw_seq (?_)
    refine cw_region (by kernel_rfl) (wl_s (o_fieldL 3 f_31_3 rfl (wl_s (o_loadBx Try.underlying4 rfl (Value.bool d.halted) rfl bx5763 rfl (wl_s (o_move (Value.bool d.halted) rfl (?_)))))))
    cases hb5807 : (d.halted)
    ·have hp5808 : d.halted = false := by first | simpa using hb5807 | (have e := hb5807; simp at e; omega)
     refine wl_t rfl (o_loadBxA (vs := [vI d.id, vI d.counter, d5756, Value.bool d.halted]) Try.underlying31 rfl s_31 rfl bx5763 rfl (wl_t rfl (o_callK (vs := [Value.agg #[vI d.id, vI d.counter, d5756, Value.bool d.halted]]) enter_86 (c_refWhole (O := (b5771 :: (b5758 :: [])) ++ O) [vI d.id, vI d.counter, d5756, Value.bool d.halted] d w5792 ⟨_, rfl, hd5757⟩ s5793.lt) rfl s5793 fun v5809 w5810 s5811 m5812 k5813 r5814 => (?_))))
     obtain rfl := r5814
     have hd5757 := hd5757.mv m5812
     have hp5770 := hp5770.mv m5812
     have bx5763 := bx5763.keep k5813 (by simp)
     have bx5776 := bx5776.keep k5813 (by simp)
     refine wl_t rfl (o_not (wholeM d) rfl (wl_s (o_pickF (Value.bool (!(wholeM d))) rfl rfl (wl_nil (thenQ_n (?_))))))
     refine cw_cond (!(wholeM d)) rfl rfl (fun hc5815 => ?_) (fun hc5815 => ?_)
     ·have hp5816 : (wholeM d) = false := by first | simpa using hc5815 | (have e := hc5815; rw [Bool.not_eq_true'] at e; exact e) | (have e := hc5815; rw [Bool.not_eq_false'] at e; exact e) | (have e := hc5815; simp at e; omega)
      refine cw_seq (?_)
      refine cw_region (by kernel_rfl) (wl_s (o_build (l := []) pl_31 z_31 rfl [] [vI (0 : Int), vI (0 : Int), Value.slice none 0 0, Value.bool false] rfl rfl (wl_n (o_store (vs := [vI (0 : Int), vI (0 : Int), Value.slice none 0 0, Value.bool false]) (.agg #[vI (0 : Int), vI (0 : Int), Value.slice none 0 0, Value.bool false]) rfl rfl rfl s_31 (fun u hu => by simp only [List.mem_cons, List.not_mem_nil, or_false] at hu; rcases hu with rfl | rfl | rfl | rfl <;> first | rfl) (by repeat (first | assumption | constructor)) bx5776 (of_decide_eq_true rfl) s5811 fun w5817 s5818 m5819 k5820 bx5821 => (?_)))))
      refine wl_s (o_assign (vI (430 : Int)) rfl (wl_nil (thenQ_n (?_))))
      refine cw_ret (thenQ_r (end_r rfl (resv2 rfl (rv_A (vs := [vI (0 : Int), vI (0 : Int), Value.slice none 0 0, Value.bool false]) rfl Try.underlying31 rfl s_31 rfl bx5821 rfl) (rv_t rfl rfl)) (?_)))
      have e5822 : ((actM d o crash).1) = (⟨(0 : Int), (0 : Int), [], false⟩ : Device) := by exact congrArg (fun p => p.1) (show actM d o crash = _ from act_3b (by assumption) (by assumption) (by assumption) (by assumption))
      have e5823 : ((actM d o crash).2) = (430 : Int) := by exact congrArg (fun p => p.2) (show actM d o crash = _ from act_3b (by assumption) (by assumption) (by assumption) (by assumption))
      exact ⟨_, rfl, s5818.keep, by rw [e5822, e5823]; exact ⟨[vI (0 : Int), vI (0 : Int), Value.slice none 0 0, Value.bool false], rfl, Enc.out (B := (b5771 :: (b5758 :: []))) ⟨.slice none 0 0, rfl, (RdL.nil _ _ _)⟩⟩⟩
     ·have hp5824 : (wholeM d) = true := by first | simpa using hc5815 | (have e := hc5815; rw [Bool.not_eq_true'] at e; exact e) | (have e := hc5815; rw [Bool.not_eq_false'] at e; exact e) | (have e := hc5815; simp at e; omega)
      refine cw_skip (thenQ_n (?_))
      refine cw_seq (?_)
      refine cw_seq (?_)
      refine cw_region (by kernel_rfl) (wl_s (o_fieldR 0 f_40_0 (o.device) rfl hp5770 (fun _ _ _ h => Enc_devop_f0 h) fun a5825 hp5826 => (wl_s (o_loadI Try.underlying3 rfl rfl hp5826 (wl_s (o_fieldL 0 f_31_0 rfl (wl_s (o_loadBx Try.underlying3 rfl (vI d.id) rfl bx5763 rfl (wl_s (o_neq .i64 o.device d.id rfl rfl (wl_s (o_move (Value.bool (o.device != d.id)) rfl (?_)))))))))))))
      cases hb5827 : (o.device != d.id)
      ·have hp5828 : o.device = d.id := by first | simpa using hb5827 | (have e := hb5827; simp at e; omega)
       refine wl_t rfl (o_fieldR 1 f_40_1 (o.no) rfl hp5770 (fun _ _ _ h => Enc_devop_f1 h) fun a5829 hp5830 => (wl_t rfl (o_loadI Try.underlying3 rfl rfl hp5830 (wl_t rfl (o_fieldL 1 f_31_1 rfl (wl_t rfl (o_loadBx Try.underlying3 rfl (vI d.counter) rfl bx5763 rfl (wl_t rfl (o_add .i64 d.counter (1 : Int) (d.counter + 1) rfl rfl (w64 (by omega) rfl) (wl_t rfl (o_neq .i64 o.no (d.counter + 1) rfl rfl (wl_s (o_pickF (Value.bool (o.no != (d.counter + 1))) rfl rfl (wl_nil (thenQ_n (?_))))))))))))))))
       refine cw_cond (o.no != (d.counter + 1)) rfl rfl (fun hc5831 => ?_) (fun hc5831 => ?_)
       ·have hp5832 : o.no ≠ d.counter + 1 := by first | simpa using hc5831 | (have e := hc5831; simp at e; omega)
        refine cw_seq (?_)
        refine cw_region (by kernel_rfl) (wl_s (o_build (l := []) pl_31 z_31 rfl [] [vI (0 : Int), vI (0 : Int), Value.slice none 0 0, Value.bool false] rfl rfl (wl_n (o_store (vs := [vI (0 : Int), vI (0 : Int), Value.slice none 0 0, Value.bool false]) (.agg #[vI (0 : Int), vI (0 : Int), Value.slice none 0 0, Value.bool false]) rfl rfl rfl s_31 (fun u hu => by simp only [List.mem_cons, List.not_mem_nil, or_false] at hu; rcases hu with rfl | rfl | rfl | rfl <;> first | rfl) (by repeat (first | assumption | constructor)) bx5776 (of_decide_eq_true rfl) s5811 fun w5833 s5834 m5835 k5836 bx5837 => (?_)))))
        refine wl_s (o_assign (vI (420 : Int)) rfl (wl_nil (thenQ_n (?_))))
        refine cw_ret (thenQ_r (end_r rfl (resv2 rfl (rv_A (vs := [vI (0 : Int), vI (0 : Int), Value.slice none 0 0, Value.bool false]) rfl Try.underlying31 rfl s_31 rfl bx5837 rfl) (rv_t rfl rfl)) (?_)))
        have e5838 : ((actM d o crash).1) = (⟨(0 : Int), (0 : Int), [], false⟩ : Device) := by exact congrArg (fun p => p.1) (show actM d o crash = _ from act_4b (by assumption) (by assumption) (by assumption) (by assumption) (by assumption) (by assumption))
        have e5839 : ((actM d o crash).2) = (420 : Int) := by exact congrArg (fun p => p.2) (show actM d o crash = _ from act_4b (by assumption) (by assumption) (by assumption) (by assumption) (by assumption) (by assumption))
        exact ⟨_, rfl, s5834.keep, by rw [e5838, e5839]; exact ⟨[vI (0 : Int), vI (0 : Int), Value.slice none 0 0, Value.bool false], rfl, Enc.out (B := (b5771 :: (b5758 :: []))) ⟨.slice none 0 0, rfl, (RdL.nil _ _ _)⟩⟩⟩
       ·have hp5840 : o.no = d.counter + 1 := by first | simpa using hc5831 | (have e := hc5831; simp at e; omega)
        refine cw_skip (thenQ_n (?_))
        refine cw_seq (?_)
        refine cw_seq (?_)
        refine cw_region (by kernel_rfl) (wl_s (o_assign (vI (0 : Int)) rfl (wl_nil (thenQ_n (?_)))))
        refine cw_block (?_)
        refine cw_loop (fun mI FI wI => ∃ (k : Nat) (B : List Nat), k ≤ d.ops.length ∧ (∀ q, q < k → ¬ (d.ops[q]!.kind = 2 ∧ d.ops[q]!.copy = o.copy)) ∧ mI = d.ops.length - k ∧ (∃ F1, FI = upds F1 [(2, vI crash), (3, Value.pointer (some ⟨b5758, 0, none⟩)), (4, Value.pointer (some a5765)), (6, Value.pointer (some ⟨b5771, 0, none⟩)), (8, vI ((k : Nat) : Int)), (92, undef)]) ∧ St w O wI B ∧ PT Enc.devop wI (B ++ O) (.pointer (some a5765)) (o) ∧ RdL Enc.devop wI (B ++ O) (d5756) (d.ops) ∧ Box wI b5758 31 [vI d.id, vI d.counter, d5756, Value.bool d.halted] ∧ b5758 ∈ B ∧ Box wI b5771 31 [vI (0 : Int), vI (0 : Int), Value.slice none 0 0, Value.bool false] ∧ b5771 ∈ B) (d.ops.length - (0)) ?_ ?_
        ·exact ⟨(0), (b5771 :: (b5758 :: [])), (by omega), (fun q hq => by omega), rfl, ⟨_, upds_self _ ⟨rfl, rfl, rfl, rfl, (by first | rfl | exact congrArg (Value.int _) (by first | omega | (simp))), rfl, trivial⟩⟩, s5811, hp5770, hd5757, bx5763, (by first | assumption | (repeat (first | exact List.mem_cons_self | assumption | apply List.mem_cons_of_mem)) | (apply_assumption; assumption)), bx5776, (by first | assumption | (repeat (first | exact List.mem_cons_self | assumption | apply List.mem_cons_of_mem)) | (apply_assumption; assumption))⟩
        ·intro ml0 F wl0 hI
         clear hp5770 hd5757 bx5763 bx5776
         obtain ⟨k, Bl0, hr0_0, hr0_1, hm0, ⟨Fl0, rfl⟩, sl0, hp5770, hd5757, bx5763, hin_b5758, bx5776, hin_b5771⟩ := hI
         refine cw_seq (?_)
         refine cw_seq (?_)
         refine cw_region (by kernel_rfl) (wl_s (o_move (vI ((k : Nat) : Int)) rfl (wl_s (o_fieldL 2 f_31_2 rfl (wl_s (o_loadBx Try.underlying26 rfl (d5756) rfl bx5763 rfl (wl_s (o_lenR Try.underlying26 rfl hd5757 (wl_s (o_lss .i64 ((k : Nat) : Int) (d.ops.length : Int) rfl rfl (wl_nil (thenQ_n (?_)))))))))))))
         refine cw_cond (decide (((k : Nat) : Int) < (d.ops.length : Int))) rfl rfl (fun hc5841 => ?_) (fun hc5841 => ?_)
         ·have hp5842 : ((k : Nat) : Int) < (d.ops.length : Int) := by first | simpa using hc5841 | (have e := hc5841; simp at e; omega)
          refine cw_skip (thenQ_n (?_))
          refine cw_seq (?_)
          refine cw_block (?_)
          refine cw_seq (?_)
          cases hb5843 : (((d.ops[k]!).kind) == (2 : Int))
          ·have hp5844 : (d.ops[k]!).kind ≠ (2 : Int) := by first | simpa using hb5843 | (have e := hb5843; simp at e; omega)
           refine cw_draw' 16 _ _ [isV (Value.pointer (some ⟨b5758, 2, none⟩)), fun (vT : Value) (wT : World) => RdL Enc.devop wT (Bl0 ++ O) vT (d.ops), isV (vI ((k : Nat) : Int)), fun (vT : Value) (wT : World) => ∃ aT, vT = .pointer (some aT) ∧ PT Enc.devop wT (Bl0 ++ O) (.pointer (some aT)) (d.ops[k]!), fun (vT : Value) (wT : World) => ∃ aT, vT = .pointer (some aT) ∧ PT Enc.int wT (Bl0 ++ O) (.pointer (some aT)) ((d.ops[k]!).kind), isV (vI ((d.ops[k]!).kind)), isV (Value.bool false), isV (Value.bool false), isV undef, isV undef, isV undef, isV undef, isV undef, isV undef, isV undef, isV undef] (by kernel_rfl) (by kernel_rfl) (by kernel_rfl) (by kernel_rfl) rfl rfl ⟨kI, fun _ _ _ h k => h.mv (Mv.of_keep k), kI, fun _ _ _ ⟨a, e, h⟩ k => ⟨a, e, h.mv (Mv.of_keep k)⟩, fun _ _ _ ⟨a, e, h⟩ k => ⟨a, e, h.mv (Mv.of_keep k)⟩, kI, kI, kI, kI, kI, kI, kI, kI, kI, kI, kI, trivial⟩ ⟨?_, ?_, ?_, ?_, ?_, ?_, ?_, ?_, ?_, ?_, ?_, ?_, ?_, ?_, ?_, ?_, trivial⟩ ?_
           ·intro F1 w1 k1 hf hd
            obtain ⟨F2, rfl⟩ := lit_of (F := F1) [(3, Value.pointer (some ⟨b5758, 0, none⟩))] ⟨hf 3 (by kernel_rfl), trivial⟩
            exact sp_plain rfl ((o_fieldL 2 f_31_2 rfl (⟨(Keep.refl _ _), rfl⟩)))
           ·intro F1 w1 k1 hf hd
            have k0 := (Keep.drew [] wl0).trans k1
            have m1 : Mv Bl0 wl0 Bl0 w1 := Mv.of_keep k0
            have bx5763 := bx5763.keep k0 (by simp)
            have hd5757 := hd5757.mv m1
            obtain ⟨F2, rfl⟩ := lit_of (F := F1) [(51, Value.pointer (some ⟨b5758, 2, none⟩))] ⟨hd 0 51 (by kernel_rfl), trivial⟩
            exact sp_plain rfl ((o_loadBx Try.underlying26 rfl (d5756) rfl bx5763 rfl (⟨(Keep.refl _ _), hd5757⟩)))
           ·intro F1 w1 k1 hf hd
            obtain ⟨F2, rfl⟩ := lit_of (F := F1) [(8, vI ((k : Nat) : Int))] ⟨hf 8 (by kernel_rfl), trivial⟩
            exact sp_plain rfl ((o_move (vI ((k : Nat) : Int)) rfl (⟨(Keep.refl _ _), rfl⟩)))
           ·intro F1 w1 k1 hf hd
            obtain ⟨v5845, e5847, hl5846⟩ : ∃ v, F1 52 = v ∧ RdL Enc.devop w1 (Bl0 ++ O) v (d.ops) := ⟨_, rfl, hd 1 52 (by kernel_rfl)⟩
            have := hl5846.len_le
            obtain ⟨F2, rfl⟩ := lit_of (F := F1) [(52, v5845), (53, vI ((k : Nat) : Int))] ⟨e5847, hd 2 53 (by kernel_rfl), trivial⟩
            exact sp_plain rfl ((o_idx Try.underlying26 s_40 .i64 ((k : Nat) : Int) k rfl rfl rfl hl5846 (by omega) fun a5848 hp5849 => (⟨(Keep.refl _ _), ⟨a5848, rfl, hp5849⟩⟩)))
           ·intro F1 w1 k1 hf hd
            obtain ⟨a5850, e5852, hp5851⟩ : ∃ aX_, F1 54 = .pointer (some aX_) ∧ PT Enc.devop w1 (Bl0 ++ O) (.pointer (some aX_)) (d.ops[k]!) := hd 3 54 (by kernel_rfl)
            obtain ⟨F2, rfl⟩ := lit_of (F := F1) [(54, Value.pointer (some a5850))] ⟨e5852, trivial⟩
            exact sp_plain rfl ((o_fieldR 2 f_40_2 ((d.ops[k]!).kind) rfl hp5851 (fun _ _ _ h => Enc_devop_f2 h) fun a5853 hp5854 => (⟨(Keep.refl _ _), ⟨a5853, rfl, hp5854⟩⟩)))
           ·intro F1 w1 k1 hf hd
            obtain ⟨a5855, e5857, hp5856⟩ : ∃ aX_, F1 55 = .pointer (some aX_) ∧ PT Enc.int w1 (Bl0 ++ O) (.pointer (some aX_)) ((d.ops[k]!).kind) := hd 4 55 (by kernel_rfl)
            obtain ⟨F2, rfl⟩ := lit_of (F := F1) [(55, Value.pointer (some a5855))] ⟨e5857, trivial⟩
            exact sp_plain rfl ((o_loadI Try.underlying3 rfl rfl hp5856 (⟨(Keep.refl _ _), rfl⟩)))
           ·intro F1 w1 k1 hf hd
            obtain ⟨F2, rfl⟩ := lit_of (F := F1) [(56, vI ((d.ops[k]!).kind))] ⟨hd 5 56 (by kernel_rfl), trivial⟩
            refine sp_plain rfl ((o_eql .i64 ((d.ops[k]!).kind) (2 : Int) rfl rfl (?_)))
            exact ⟨(Keep.refl _ _), congrArg Value.bool (hb5843)⟩
           ·intro F1 w1 k1 hf hd
            obtain ⟨F2, rfl⟩ := lit_of (F := F1) [(57, Value.bool false)] ⟨hd 6 57 (by kernel_rfl), trivial⟩
            exact sp_plain rfl ((o_move (Value.bool false) rfl (⟨(Keep.refl _ _), rfl⟩)))
           ·intro F1 w1 k1 hf hd
            exact sp_skipD rfl rfl (hd 7 58 (by kernel_rfl)) rfl rfl
           ·intro F1 w1 k1 hf hd
            exact sp_skipD rfl rfl (hd 7 58 (by kernel_rfl)) rfl rfl
           ·intro F1 w1 k1 hf hd
            exact sp_skipD rfl rfl (hd 7 58 (by kernel_rfl)) rfl rfl
           ·intro F1 w1 k1 hf hd
            exact sp_skipD rfl rfl (hd 7 58 (by kernel_rfl)) rfl rfl
           ·intro F1 w1 k1 hf hd
            exact sp_skipD rfl rfl (hd 7 58 (by kernel_rfl)) rfl rfl
           ·intro F1 w1 k1 hf hd
            exact sp_skipD rfl rfl (hd 7 58 (by kernel_rfl)) rfl rfl
           ·intro F1 w1 k1 hf hd
            exact sp_skipD rfl rfl (hd 7 58 (by kernel_rfl)) rfl rfl
           ·intro F1 w1 k1 hf hd
            exact sp_skipD rfl rfl (hd 7 58 (by kernel_rfl)) rfl rfl
           intro F5859 w5860 k5858 hT5861 hF5862
           have s5863 := sl0.call k5858
           have m5864 : Mv Bl0 wl0 Bl0 w5860 := Mv.of_keep k5858
           have hp5770 := hp5770.mv m5864
           have hd5757 := hd5757.mv m5864
           have bx5763 := bx5763.keep k5858 (by simp)
           have bx5776 := bx5776.keep k5858 (by simp)
           obtain ⟨F2, rfl⟩ := lit_of (F := F5859) [(2, vI crash), (3, Value.pointer (some ⟨b5758, 0, none⟩)), (4, Value.pointer (some a5765)), (6, Value.pointer (some ⟨b5771, 0, none⟩)), (8, vI ((k : Nat) : Int)), (92, undef), (58, Value.bool false)] ⟨hF5862 2 (by kernel_rfl), hF5862 3 (by kernel_rfl), hF5862 4 (by kernel_rfl), hF5862 6 (by kernel_rfl), hF5862 8 (by kernel_rfl), hF5862 92 (by kernel_rfl), hT5861 7 58 (by kernel_rfl) (by decide), trivial⟩
           clear hT5861 hF5862
           refine wl_k rfl (wl_s (o_pickF (Value.bool false) rfl rfl (wl_nil (thenQ_n (?_)))))
           refine cw_cond false rfl rfl (fun h => by cases h) (fun _ => ?_)
           refine cw_skip (blockQ_n (thenQ_n (?_)))
           refine cw_region (by kernel_rfl) (wl_s (o_move (vI ((k : Nat) : Int)) rfl (wl_s (o_add .i64 ((k : Nat) : Int) (1 : Int) (((k + 1 : Nat) : Int)) rfl rfl (w64 (by omega) (by omega)) (wl_s (o_assign (vI ((k + 1 : Nat) : Int)) rfl (wl_nil (thenQ_n (?_)))))))))
           exact ⟨_, (by omega), (k + 1), Bl0, (by omega), (shown_step hr0_1 (by first | exact .inl (by assumption) | exact .inr (by assumption))), rfl, ⟨_, upds_self _ ⟨rfl, rfl, rfl, rfl, (by first | rfl | exact congrArg (Value.int _) (by first | omega | (simp))), rfl, trivial⟩⟩, s5863, hp5770, hd5757, bx5763, (by first | assumption | (repeat (first | exact List.mem_cons_self | assumption | apply List.mem_cons_of_mem)) | (apply_assumption; assumption)), bx5776, (by first | assumption | (repeat (first | exact List.mem_cons_self | assumption | apply List.mem_cons_of_mem)) | (apply_assumption; assumption))⟩
          ·have hp5867 : (d.ops[k]!).kind = (2 : Int) := by first | simpa using hb5843 | (have e := hb5843; simp at e; omega)
           refine cw_draw' 16 _ _ [isV (Value.pointer (some ⟨b5758, 2, none⟩)), fun (vT : Value) (wT : World) => RdL Enc.devop wT (Bl0 ++ O) vT (d.ops), isV (vI ((k : Nat) : Int)), fun (vT : Value) (wT : World) => ∃ aT, vT = .pointer (some aT) ∧ PT Enc.devop wT (Bl0 ++ O) (.pointer (some aT)) (d.ops[k]!), fun (vT : Value) (wT : World) => ∃ aT, vT = .pointer (some aT) ∧ PT Enc.int wT (Bl0 ++ O) (.pointer (some aT)) ((d.ops[k]!).kind), isV (vI ((d.ops[k]!).kind)), isV (Value.bool true), isV (Value.bool true), isV (Value.pointer (some ⟨b5758, 2, none⟩)), fun (vT : Value) (wT : World) => RdL Enc.devop wT (Bl0 ++ O) vT (d.ops), isV (vI ((k : Nat) : Int)), fun (vT : Value) (wT : World) => ∃ aT, vT = .pointer (some aT) ∧ PT Enc.devop wT (Bl0 ++ O) (.pointer (some aT)) (d.ops[k]!), fun (vT : Value) (wT : World) => ∃ aT, vT = .pointer (some aT) ∧ PT Enc.int wT (Bl0 ++ O) (.pointer (some aT)) ((d.ops[k]!).copy), isV (vI ((d.ops[k]!).copy)), fun (vT : Value) (wT : World) => ∃ aT, vT = .pointer (some aT) ∧ PT Enc.int wT (Bl0 ++ O) (.pointer (some aT)) (o.copy), isV (vI o.copy)] (by kernel_rfl) (by kernel_rfl) (by kernel_rfl) (by kernel_rfl) rfl rfl ⟨kI, fun _ _ _ h k => h.mv (Mv.of_keep k), kI, fun _ _ _ ⟨a, e, h⟩ k => ⟨a, e, h.mv (Mv.of_keep k)⟩, fun _ _ _ ⟨a, e, h⟩ k => ⟨a, e, h.mv (Mv.of_keep k)⟩, kI, kI, kI, kI, fun _ _ _ h k => h.mv (Mv.of_keep k), kI, fun _ _ _ ⟨a, e, h⟩ k => ⟨a, e, h.mv (Mv.of_keep k)⟩, fun _ _ _ ⟨a, e, h⟩ k => ⟨a, e, h.mv (Mv.of_keep k)⟩, kI, fun _ _ _ ⟨a, e, h⟩ k => ⟨a, e, h.mv (Mv.of_keep k)⟩, kI, trivial⟩ ⟨?_, ?_, ?_, ?_, ?_, ?_, ?_, ?_, ?_, ?_, ?_, ?_, ?_, ?_, ?_, ?_, trivial⟩ ?_
           ·intro F1 w1 k1 hf hd
            obtain ⟨F2, rfl⟩ := lit_of (F := F1) [(3, Value.pointer (some ⟨b5758, 0, none⟩))] ⟨hf 3 (by kernel_rfl), trivial⟩
            exact sp_plain rfl ((o_fieldL 2 f_31_2 rfl (⟨(Keep.refl _ _), rfl⟩)))
           ·intro F1 w1 k1 hf hd
            have k0 := (Keep.drew [] wl0).trans k1
            have m1 : Mv Bl0 wl0 Bl0 w1 := Mv.of_keep k0
            have bx5763 := bx5763.keep k0 (by simp)
            have hd5757 := hd5757.mv m1
            obtain ⟨F2, rfl⟩ := lit_of (F := F1) [(51, Value.pointer (some ⟨b5758, 2, none⟩))] ⟨hd 0 51 (by kernel_rfl), trivial⟩
            exact sp_plain rfl ((o_loadBx Try.underlying26 rfl (d5756) rfl bx5763 rfl (⟨(Keep.refl _ _), hd5757⟩)))
           ·intro F1 w1 k1 hf hd
            obtain ⟨F2, rfl⟩ := lit_of (F := F1) [(8, vI ((k : Nat) : Int))] ⟨hf 8 (by kernel_rfl), trivial⟩
            exact sp_plain rfl ((o_move (vI ((k : Nat) : Int)) rfl (⟨(Keep.refl _ _), rfl⟩)))
           ·intro F1 w1 k1 hf hd
            obtain ⟨v5868, e5870, hl5869⟩ : ∃ v, F1 52 = v ∧ RdL Enc.devop w1 (Bl0 ++ O) v (d.ops) := ⟨_, rfl, hd 1 52 (by kernel_rfl)⟩
            have := hl5869.len_le
            obtain ⟨F2, rfl⟩ := lit_of (F := F1) [(52, v5868), (53, vI ((k : Nat) : Int))] ⟨e5870, hd 2 53 (by kernel_rfl), trivial⟩
            exact sp_plain rfl ((o_idx Try.underlying26 s_40 .i64 ((k : Nat) : Int) k rfl rfl rfl hl5869 (by omega) fun a5871 hp5872 => (⟨(Keep.refl _ _), ⟨a5871, rfl, hp5872⟩⟩)))
           ·intro F1 w1 k1 hf hd
            obtain ⟨a5873, e5875, hp5874⟩ : ∃ aX_, F1 54 = .pointer (some aX_) ∧ PT Enc.devop w1 (Bl0 ++ O) (.pointer (some aX_)) (d.ops[k]!) := hd 3 54 (by kernel_rfl)
            obtain ⟨F2, rfl⟩ := lit_of (F := F1) [(54, Value.pointer (some a5873))] ⟨e5875, trivial⟩
            exact sp_plain rfl ((o_fieldR 2 f_40_2 ((d.ops[k]!).kind) rfl hp5874 (fun _ _ _ h => Enc_devop_f2 h) fun a5876 hp5877 => (⟨(Keep.refl _ _), ⟨a5876, rfl, hp5877⟩⟩)))
           ·intro F1 w1 k1 hf hd
            obtain ⟨a5878, e5880, hp5879⟩ : ∃ aX_, F1 55 = .pointer (some aX_) ∧ PT Enc.int w1 (Bl0 ++ O) (.pointer (some aX_)) ((d.ops[k]!).kind) := hd 4 55 (by kernel_rfl)
            obtain ⟨F2, rfl⟩ := lit_of (F := F1) [(55, Value.pointer (some a5878))] ⟨e5880, trivial⟩
            exact sp_plain rfl ((o_loadI Try.underlying3 rfl rfl hp5879 (⟨(Keep.refl _ _), rfl⟩)))
           ·intro F1 w1 k1 hf hd
            obtain ⟨F2, rfl⟩ := lit_of (F := F1) [(56, vI ((d.ops[k]!).kind))] ⟨hd 5 56 (by kernel_rfl), trivial⟩
            refine sp_plain rfl ((o_eql .i64 ((d.ops[k]!).kind) (2 : Int) rfl rfl (?_)))
            exact ⟨(Keep.refl _ _), congrArg Value.bool (hb5843)⟩
           ·intro F1 w1 k1 hf hd
            obtain ⟨F2, rfl⟩ := lit_of (F := F1) [(57, Value.bool true)] ⟨hd 6 57 (by kernel_rfl), trivial⟩
            exact sp_plain rfl ((o_move (Value.bool true) rfl (⟨(Keep.refl _ _), rfl⟩)))
           ·intro F1 w1 k1 hf hd
            obtain ⟨F2, rfl⟩ := lit_of (F := F1) [(3, Value.pointer (some ⟨b5758, 0, none⟩)), (58, Value.bool true)] ⟨hf 3 (by kernel_rfl), hd 7 58 (by kernel_rfl), trivial⟩
            exact sp_take rfl rfl ((o_fieldL 2 f_31_2 rfl (⟨(Keep.refl _ _), rfl⟩)))
           ·intro F1 w1 k1 hf hd
            have k0 := (Keep.drew [] wl0).trans k1
            have m1 : Mv Bl0 wl0 Bl0 w1 := Mv.of_keep k0
            have bx5763 := bx5763.keep k0 (by simp)
            have hd5757 := hd5757.mv m1
            obtain ⟨F2, rfl⟩ := lit_of (F := F1) [(58, Value.bool true), (59, Value.pointer (some ⟨b5758, 2, none⟩))] ⟨hd 7 58 (by kernel_rfl), hd 8 59 (by kernel_rfl), trivial⟩
            exact sp_take rfl rfl ((o_loadBx Try.underlying26 rfl (d5756) rfl bx5763 rfl (⟨(Keep.refl _ _), hd5757⟩)))
           ·intro F1 w1 k1 hf hd
            obtain ⟨F2, rfl⟩ := lit_of (F := F1) [(8, vI ((k : Nat) : Int)), (58, Value.bool true)] ⟨hf 8 (by kernel_rfl), hd 7 58 (by kernel_rfl), trivial⟩
            exact sp_take rfl rfl ((o_move (vI ((k : Nat) : Int)) rfl (⟨(Keep.refl _ _), rfl⟩)))
           ·intro F1 w1 k1 hf hd
            obtain ⟨v5881, e5883, hl5882⟩ : ∃ v, F1 60 = v ∧ RdL Enc.devop w1 (Bl0 ++ O) v (d.ops) := ⟨_, rfl, hd 9 60 (by kernel_rfl)⟩
            have := hl5882.len_le
            obtain ⟨F2, rfl⟩ := lit_of (F := F1) [(58, Value.bool true), (60, v5881), (61, vI ((k : Nat) : Int))] ⟨hd 7 58 (by kernel_rfl), e5883, hd 10 61 (by kernel_rfl), trivial⟩
            exact sp_take rfl rfl ((o_idx Try.underlying26 s_40 .i64 ((k : Nat) : Int) k rfl rfl rfl hl5882 (by omega) fun a5884 hp5885 => (⟨(Keep.refl _ _), ⟨a5884, rfl, hp5885⟩⟩)))
           ·intro F1 w1 k1 hf hd
            obtain ⟨a5886, e5888, hp5887⟩ : ∃ aX_, F1 62 = .pointer (some aX_) ∧ PT Enc.devop w1 (Bl0 ++ O) (.pointer (some aX_)) (d.ops[k]!) := hd 11 62 (by kernel_rfl)
            obtain ⟨F2, rfl⟩ := lit_of (F := F1) [(58, Value.bool true), (62, Value.pointer (some a5886))] ⟨hd 7 58 (by kernel_rfl), e5888, trivial⟩
            exact sp_take rfl rfl ((o_fieldR 3 f_40_3 ((d.ops[k]!).copy) rfl hp5887 (fun _ _ _ h => Enc_devop_f3 h) fun a5889 hp5890 => (⟨(Keep.refl _ _), ⟨a5889, rfl, hp5890⟩⟩)))
           ·intro F1 w1 k1 hf hd
            obtain ⟨a5891, e5893, hp5892⟩ : ∃ aX_, F1 63 = .pointer (some aX_) ∧ PT Enc.int w1 (Bl0 ++ O) (.pointer (some aX_)) ((d.ops[k]!).copy) := hd 12 63 (by kernel_rfl)
            obtain ⟨F2, rfl⟩ := lit_of (F := F1) [(58, Value.bool true), (63, Value.pointer (some a5891))] ⟨hd 7 58 (by kernel_rfl), e5893, trivial⟩
            exact sp_take rfl rfl ((o_loadI Try.underlying3 rfl rfl hp5892 (⟨(Keep.refl _ _), rfl⟩)))
           ·intro F1 w1 k1 hf hd
            have k0 := (Keep.drew [] wl0).trans k1
            have m1 : Mv Bl0 wl0 Bl0 w1 := Mv.of_keep k0
            have hp5770 := hp5770.mv m1
            obtain ⟨F2, rfl⟩ := lit_of (F := F1) [(4, Value.pointer (some a5765)), (58, Value.bool true)] ⟨hf 4 (by kernel_rfl), hd 7 58 (by kernel_rfl), trivial⟩
            exact sp_take rfl rfl ((o_fieldR 3 f_40_3 (o.copy) rfl hp5770 (fun _ _ _ h => Enc_devop_f3 h) fun a5894 hp5895 => (⟨(Keep.refl _ _), ⟨a5894, rfl, hp5895⟩⟩)))
           ·intro F1 w1 k1 hf hd
            obtain ⟨a5896, e5898, hp5897⟩ : ∃ aX_, F1 65 = .pointer (some aX_) ∧ PT Enc.int w1 (Bl0 ++ O) (.pointer (some aX_)) (o.copy) := hd 14 65 (by kernel_rfl)
            obtain ⟨F2, rfl⟩ := lit_of (F := F1) [(58, Value.bool true), (65, Value.pointer (some a5896))] ⟨hd 7 58 (by kernel_rfl), e5898, trivial⟩
            exact sp_take rfl rfl ((o_loadI Try.underlying3 rfl rfl hp5897 (⟨(Keep.refl _ _), rfl⟩)))
           intro F5900 w5901 k5899 hT5902 hF5903
           have s5904 := sl0.call k5899
           have m5905 : Mv Bl0 wl0 Bl0 w5901 := Mv.of_keep k5899
           have hp5770 := hp5770.mv m5905
           have hd5757 := hd5757.mv m5905
           have bx5763 := bx5763.keep k5899 (by simp)
           have bx5776 := bx5776.keep k5899 (by simp)
           obtain ⟨F2, rfl⟩ := lit_of (F := F5900) [(2, vI crash), (3, Value.pointer (some ⟨b5758, 0, none⟩)), (4, Value.pointer (some a5765)), (6, Value.pointer (some ⟨b5771, 0, none⟩)), (8, vI ((k : Nat) : Int)), (92, undef), (58, Value.bool true), (64, vI ((d.ops[k]!).copy)), (66, vI o.copy)] ⟨hF5903 2 (by kernel_rfl), hF5903 3 (by kernel_rfl), hF5903 4 (by kernel_rfl), hF5903 6 (by kernel_rfl), hF5903 8 (by kernel_rfl), hF5903 92 (by kernel_rfl), hT5902 7 58 (by kernel_rfl) (by decide), hT5902 13 64 (by kernel_rfl) (by decide), hT5902 15 66 (by kernel_rfl) (by decide), trivial⟩
           clear hT5902 hF5903
           refine wl_t rfl (o_eql .i64 ((d.ops[k]!).copy) o.copy rfl rfl (wl_s (o_pickT (Value.bool (((d.ops[k]!).copy) == o.copy)) rfl rfl (wl_nil (thenQ_n (?_))))))
           refine cw_cond (((d.ops[k]!).copy) == o.copy) rfl rfl (fun hc5908 => ?_) (fun hc5908 => ?_)
           ·have hp5909 : (d.ops[k]!).copy = o.copy := by first | simpa using hc5908 | (have e := hc5908; simp at e; omega)
            refine cw_seq (?_)
            refine cw_region (by kernel_rfl) (wl_s (o_build (l := []) pl_31 z_31 rfl [] [vI (0 : Int), vI (0 : Int), Value.slice none 0 0, Value.bool false] rfl rfl (wl_n (o_store (vs := [vI (0 : Int), vI (0 : Int), Value.slice none 0 0, Value.bool false]) (.agg #[vI (0 : Int), vI (0 : Int), Value.slice none 0 0, Value.bool false]) rfl rfl rfl s_31 (fun u hu => by simp only [List.mem_cons, List.not_mem_nil, or_false] at hu; rcases hu with rfl | rfl | rfl | rfl <;> first | rfl) (by repeat (first | assumption | constructor)) bx5776 (of_decide_eq_true rfl) s5904 fun w5910 s5911 m5912 k5913 bx5914 => (?_)))))
            refine wl_s (o_assign (vI (420 : Int)) rfl (wl_nil (thenQ_n (?_))))
            refine cw_ret (blockQ_r (thenQ_r (thenQ_r (blockQ_r (thenQ_r (end_r rfl (resv2 rfl (rv_A (vs := [vI (0 : Int), vI (0 : Int), Value.slice none 0 0, Value.bool false]) rfl Try.underlying31 rfl s_31 rfl bx5914 rfl) (rv_t rfl rfl)) (?_)))))))
            have e5915 : ((actM d o crash).1) = (⟨(0 : Int), (0 : Int), [], false⟩ : Device) := by exact congrArg (fun p => p.1) (show actM d o crash = _ from act_5 (by assumption) (by assumption) (by assumption) (by assumption) (by assumption) (by assumption) (by assumption) (shown_at (k := k) (by omega) (by assumption) (by assumption)))
            have e5916 : ((actM d o crash).2) = (420 : Int) := by exact congrArg (fun p => p.2) (show actM d o crash = _ from act_5 (by assumption) (by assumption) (by assumption) (by assumption) (by assumption) (by assumption) (by assumption) (shown_at (k := k) (by omega) (by assumption) (by assumption)))
            exact ⟨_, rfl, s5911.keep, by rw [e5915, e5916]; exact ⟨[vI (0 : Int), vI (0 : Int), Value.slice none 0 0, Value.bool false], rfl, Enc.out (B := Bl0) ⟨.slice none 0 0, rfl, (RdL.nil _ _ _)⟩⟩⟩
           ·have hp5917 : (d.ops[k]!).copy ≠ o.copy := by first | simpa using hc5908 | (have e := hc5908; simp at e; omega)
            refine cw_skip (blockQ_n (thenQ_n (?_)))
            refine cw_region (by kernel_rfl) (wl_s (o_move (vI ((k : Nat) : Int)) rfl (wl_s (o_add .i64 ((k : Nat) : Int) (1 : Int) (((k + 1 : Nat) : Int)) rfl rfl (w64 (by omega) (by omega)) (wl_s (o_assign (vI ((k + 1 : Nat) : Int)) rfl (wl_nil (thenQ_n (?_)))))))))
            exact ⟨_, (by omega), (k + 1), Bl0, (by omega), (shown_step hr0_1 (by first | exact .inl (by assumption) | exact .inr (by assumption))), rfl, ⟨_, upds_self _ ⟨rfl, rfl, rfl, rfl, (by first | rfl | exact congrArg (Value.int _) (by first | omega | (simp))), rfl, trivial⟩⟩, s5904, hp5770, hd5757, bx5763, (by first | assumption | (repeat (first | exact List.mem_cons_self | assumption | apply List.mem_cons_of_mem)) | (apply_assumption; assumption)), bx5776, (by first | assumption | (repeat (first | exact List.mem_cons_self | assumption | apply List.mem_cons_of_mem)) | (apply_assumption; assumption))⟩
         ·have hp5918 : (d.ops.length : Int) ≤ ((k : Nat) : Int) := by first | simpa using hc5841 | (have e := hc5841; simp at e; omega)
          obtain rfl : k = d.ops.length := by omega
          have hsn := shown_no hr0_1
          refine cw_exit (thenQ_x (thenQ_x (blockQ_x (thenQ_n (?_)))))
          refine cw_seq (?_)
          refine cw_region (by kernel_rfl) (wl_s (o_fieldL 2 f_31_2 rfl (wl_s (o_loadBx Try.underlying26 rfl (d5756) rfl bx5763 rfl (wl_s (o_loadS Try.underlying40 rfl s_40 rfl hp5770 fun cs5919 hs5920 => (?_)))))))
          obtain rfl := hs5920
          refine wl_s (o_callK (vs := [d5756, Value.agg #[vI o.device, vI o.no, vI o.kind, vI o.copy, vI o.to, vI o.token]]) enter_27 (c_refAdd (O := Bl0 ++ O) d5756 d.ops [vI o.device, vI o.no, vI o.kind, vI o.copy, vI o.to, vI o.token] o wl0 hd5757 rfl sl0.lt) rfl sl0 fun v5921 w5922 s5923 m5924 k5925 r5926 => (?_))
          obtain ⟨x5927, rfl, hl5928⟩ := r5926
          have := hl5928.len_le
          have hd5757 := hd5757.mv m5924
          have bx5763 := bx5763.keep k5925 (by simp)
          have bx5776 := bx5776.keep k5925 (by simp)
          refine wl_s (o_move (Value.tuple #[x5927, vI ((addM d.ops o).2)]) rfl (wl_s (o_extract (x5927) rfl rfl (wl_s (o_extract (vI ((addM d.ops o).2)) rfl rfl (wl_s (o_assign (x5927) rfl (wl_s (o_assign (vI ((addM d.ops o).2)) rfl (wl_nil (thenQ_n (?_))))))))))))
          refine cw_seq (?_)
          refine cw_seq (?_)
          refine cw_region (by kernel_rfl) (wl_s (o_move (vI ((addM d.ops o).2)) rfl (wl_s (o_neq .i64 ((addM d.ops o).2) (0 : Int) rfl rfl (wl_nil (thenQ_n (?_)))))))
          refine cw_cond (((addM d.ops o).2) != (0 : Int)) rfl rfl (fun hc5929 => ?_) (fun hc5929 => ?_)
          ·have hp5930 : (addM d.ops o).2 ≠ (0 : Int) := by first | simpa using hc5929 | (have e := hc5929; simp at e; omega)
           refine cw_seq (?_)
           refine cw_region (by kernel_rfl) (wl_s (o_build (l := []) pl_31 z_31 rfl [] [vI (0 : Int), vI (0 : Int), Value.slice none 0 0, Value.bool false] rfl rfl (wl_s (o_move (vI ((addM d.ops o).2)) rfl (wl_n (o_store (vs := [vI (0 : Int), vI (0 : Int), Value.slice none 0 0, Value.bool false]) (.agg #[vI (0 : Int), vI (0 : Int), Value.slice none 0 0, Value.bool false]) rfl rfl rfl s_31 (fun u hu => by simp only [List.mem_cons, List.not_mem_nil, or_false] at hu; rcases hu with rfl | rfl | rfl | rfl <;> first | rfl) (by repeat (first | assumption | constructor)) bx5776 (of_decide_eq_true rfl) s5923 fun w5931 s5932 m5933 k5934 bx5935 => (?_)))))))
           refine wl_s (o_assign (vI ((addM d.ops o).2)) rfl (wl_nil (thenQ_n (?_))))
           refine cw_ret (thenQ_r (end_r rfl (resv2 rfl (rv_A (vs := [vI (0 : Int), vI (0 : Int), Value.slice none 0 0, Value.bool false]) rfl Try.underlying31 rfl s_31 rfl bx5935 rfl) (rv_t rfl rfl)) (?_)))
           have e5936 : ((actM d o crash).1) = (⟨(0 : Int), (0 : Int), [], false⟩ : Device) := by exact congrArg (fun p => p.1) (show actM d o crash = _ from act_6 (by assumption) (by assumption) (by assumption) (by assumption) (by assumption) (by assumption) (by assumption) (by assumption) (by assumption))
           have e5937 : ((actM d o crash).2) = ((addM d.ops o).2) := by exact congrArg (fun p => p.2) (show actM d o crash = _ from act_6 (by assumption) (by assumption) (by assumption) (by assumption) (by assumption) (by assumption) (by assumption) (by assumption) (by assumption))
           exact ⟨_, rfl, s5932.keep, by rw [e5936, e5937]; exact ⟨[vI (0 : Int), vI (0 : Int), Value.slice none 0 0, Value.bool false], rfl, Enc.out (B := Bl0) ⟨.slice none 0 0, rfl, (RdL.nil _ _ _)⟩⟩⟩
          ·have hp5938 : (addM d.ops o).2 = (0 : Int) := by first | simpa using hc5929 | (have e := hc5929; simp at e; omega)
           refine cw_skip (thenQ_n (?_))
           refine cw_seq (?_)
           refine cw_seq (?_)
           refine cw_region (by kernel_rfl) (wl_s (o_move (vI crash) rfl (wl_s (o_geq .i64 crash (1 : Int) rfl rfl (wl_nil (thenQ_n (?_)))))))
           refine cw_cond (decide ((1 : Int) ≤ crash)) rfl rfl (fun hc5939 => ?_) (fun hc5939 => ?_)
           ·have hp5940 : (1 : Int) ≤ crash := by first | simpa using hc5939 | (have e := hc5939; simp at e; omega)
            refine cw_region (by kernel_rfl) (wl_s (o_fieldL 1 f_31_1 rfl (wl_s (o_loadBx Try.underlying3 rfl (vI d.counter) rfl bx5763 rfl (wl_s (o_add .i64 d.counter (1 : Int) (d.counter + 1) rfl rfl (w64 (by omega) rfl) (wl_s (o_fieldL 1 f_31_1 rfl (wl_n (o_store1 (vI (d.counter + 1)) rfl rfl rfl s_3 (by repeat (first | assumption | constructor)) bx5763 (of_decide_eq_true rfl) s5923 fun w5941 s5942 m5943 k5944 bx5945 => (?_)))))))))))
            have hl5928 := hl5928.mv m5943
            have hd5757 := hd5757.mv m5943
            have bx5776 := bx5776.keep k5944 (nin1 (Ne.symm ne5778))
            refine wl_nil (thenQ_n (?_))
            refine cw_seq (?_)
            refine cw_seq (?_)
            refine cw_region (by kernel_rfl) (wl_s (o_move (vI crash) rfl (wl_s (o_eql .i64 crash (2 : Int) rfl rfl (wl_nil (thenQ_n (?_)))))))
            refine cw_cond (crash == (2 : Int)) rfl rfl (fun hc5946 => ?_) (fun hc5946 => ?_)
            ·have hp5947 : crash = (2 : Int) := by first | simpa using hc5946 | (have e := hc5946; simp at e; omega)
             refine cw_region (by kernel_rfl) (wl_s (o_move (x5927) rfl (wl_s (o_fieldL 2 f_31_2 rfl (wl_n (o_store1 (x5927) rfl rfl hl5928.oneCell s_26 (by repeat (first | assumption | constructor)) bx5945 (of_decide_eq_true rfl) s5942 fun w5948 s5949 m5950 k5951 bx5952 => (?_)))))))
             have hl5928 := hl5928.mv m5950
             have bx5776 := bx5776.keep k5951 (nin1 (Ne.symm ne5778))
             refine wl_nil (thenQ_n (?_))
             refine cw_seq (?_)
             refine cw_region (by kernel_rfl) (wl_s (o_loadBxA (vs := [vI d.id, vI (d.counter + 1), x5927, Value.bool d.halted]) Try.underlying31 rfl s_31 rfl bx5952 rfl (wl_n (o_store (vs := [vI d.id, vI (d.counter + 1), x5927, Value.bool d.halted]) (.agg #[vI d.id, vI (d.counter + 1), x5927, Value.bool d.halted]) rfl rfl rfl s_31 (fun u hu => by simp only [List.mem_cons, List.not_mem_nil, or_false] at hu; rcases hu with rfl | rfl | rfl | rfl <;> first | rfl | exact hl5928.oneCell) (by repeat (first | assumption | constructor)) bx5776 (of_decide_eq_true rfl) s5949 fun w5953 s5954 m5955 k5956 bx5957 => (?_)))))
             have hl5928 := hl5928.mv m5955
             refine wl_s (o_assign (vI (0 : Int)) rfl (wl_nil (thenQ_n (?_))))
             refine cw_ret (end_r rfl (resv2 rfl (rv_A (vs := [vI d.id, vI (d.counter + 1), x5927, Value.bool d.halted]) rfl Try.underlying31 rfl s_31 rfl bx5957 rfl) (rv_t rfl rfl)) (?_))
             have e5958 : ((actM d o crash).1) = (⟨d.id, d.counter + 1, (addM d.ops o).1, d.halted⟩ : Device) := by exact congrArg (fun p => p.1) (show actM d o crash = _ from act_72 (by assumption) (by assumption) (by assumption) (by assumption) (by assumption) (by assumption) (by assumption) (by assumption) (by assumption) (by assumption))
             have e5959 : ((actM d o crash).2) = (0 : Int) := by exact congrArg (fun p => p.2) (show actM d o crash = _ from act_72 (by assumption) (by assumption) (by assumption) (by assumption) (by assumption) (by assumption) (by assumption) (by assumption) (by assumption) (by assumption))
             exact ⟨_, rfl, s5954.keep, by rw [e5958, e5959]; exact ⟨[vI d.id, vI (d.counter + 1), x5927, Value.bool d.halted], rfl, Enc.out (B := Bl0) ⟨_, rfl, hl5928⟩⟩⟩
            ·have hp5960 : crash ≠ (2 : Int) := by first | simpa using hc5946 | (have e := hc5946; simp at e; omega)
             refine cw_skip (thenQ_n (?_))
             refine cw_seq (?_)
             refine cw_region (by kernel_rfl) (wl_s (o_loadBxA (vs := [vI d.id, vI (d.counter + 1), d5756, Value.bool d.halted]) Try.underlying31 rfl s_31 rfl bx5945 rfl (wl_n (o_store (vs := [vI d.id, vI (d.counter + 1), d5756, Value.bool d.halted]) (.agg #[vI d.id, vI (d.counter + 1), d5756, Value.bool d.halted]) rfl rfl rfl s_31 (fun u hu => by simp only [List.mem_cons, List.not_mem_nil, or_false] at hu; rcases hu with rfl | rfl | rfl | rfl <;> first | rfl | exact hd5757.oneCell) (by repeat (first | assumption | constructor)) bx5776 (of_decide_eq_true rfl) s5942 fun w5961 s5962 m5963 k5964 bx5965 => (?_)))))
             have hd5757 := hd5757.mv m5963
             refine wl_s (o_assign (vI (0 : Int)) rfl (wl_nil (thenQ_n (?_))))
             refine cw_ret (end_r rfl (resv2 rfl (rv_A (vs := [vI d.id, vI (d.counter + 1), d5756, Value.bool d.halted]) rfl Try.underlying31 rfl s_31 rfl bx5965 rfl) (rv_t rfl rfl)) (?_))
             have e5966 : ((actM d o crash).1) = (⟨d.id, d.counter + 1, d.ops, d.halted⟩ : Device) := by exact congrArg (fun p => p.1) (show actM d o crash = _ from act_71 (by assumption) (by assumption) (by assumption) (by assumption) (by assumption) (by assumption) (by assumption) (by assumption) (by assumption) (by assumption) (by assumption))
             have e5967 : ((actM d o crash).2) = (0 : Int) := by exact congrArg (fun p => p.2) (show actM d o crash = _ from act_71 (by assumption) (by assumption) (by assumption) (by assumption) (by assumption) (by assumption) (by assumption) (by assumption) (by assumption) (by assumption) (by assumption))
             exact ⟨_, rfl, s5962.keep, by rw [e5966, e5967]; exact ⟨[vI d.id, vI (d.counter + 1), d5756, Value.bool d.halted], rfl, Enc.out (B := Bl0) ⟨_, rfl, hd5757⟩⟩⟩
           ·have hp5968 : crash < (1 : Int) := by first | simpa using hc5939 | (have e := hc5939; simp at e; omega)
            refine cw_skip (thenQ_n (?_))
            refine cw_seq (?_)
            refine cw_seq (?_)
            refine cw_region (by kernel_rfl) (wl_s (o_move (vI crash) rfl (wl_s (o_eql .i64 crash (2 : Int) rfl rfl (wl_nil (thenQ_n (?_)))))))
            refine cw_cond (crash == (2 : Int)) rfl rfl (fun hc5969 => ?_) (fun hc5969 => ?_)
            ·have hp5970 : crash = (2 : Int) := by first | simpa using hc5969 | (have e := hc5969; simp at e; omega)
             refine cw_region (by kernel_rfl) (wl_s (o_move (x5927) rfl (wl_s (o_fieldL 2 f_31_2 rfl (wl_n (o_store1 (x5927) rfl rfl hl5928.oneCell s_26 (by repeat (first | assumption | constructor)) bx5763 (of_decide_eq_true rfl) s5923 fun w5971 s5972 m5973 k5974 bx5975 => (?_)))))))
             have hl5928 := hl5928.mv m5973
             have bx5776 := bx5776.keep k5974 (nin1 (Ne.symm ne5778))
             refine wl_nil (thenQ_n (?_))
             refine cw_seq (?_)
             refine cw_region (by kernel_rfl) (wl_s (o_loadBxA (vs := [vI d.id, vI d.counter, x5927, Value.bool d.halted]) Try.underlying31 rfl s_31 rfl bx5975 rfl (wl_n (o_store (vs := [vI d.id, vI d.counter, x5927, Value.bool d.halted]) (.agg #[vI d.id, vI d.counter, x5927, Value.bool d.halted]) rfl rfl rfl s_31 (fun u hu => by simp only [List.mem_cons, List.not_mem_nil, or_false] at hu; rcases hu with rfl | rfl | rfl | rfl <;> first | rfl | exact hl5928.oneCell) (by repeat (first | assumption | constructor)) bx5776 (of_decide_eq_true rfl) s5972 fun w5976 s5977 m5978 k5979 bx5980 => (?_)))))
             have hl5928 := hl5928.mv m5978
             refine wl_s (o_assign (vI (0 : Int)) rfl (wl_nil (thenQ_n (?_))))
             refine cw_ret (end_r rfl (resv2 rfl (rv_A (vs := [vI d.id, vI d.counter, x5927, Value.bool d.halted]) rfl Try.underlying31 rfl s_31 rfl bx5980 rfl) (rv_t rfl rfl)) (?_))
             have e5981 : ((actM d o crash).1) = (⟨d.id, d.counter, (addM d.ops o).1, d.halted⟩ : Device) := by (exfalso; omega)
             have e5982 : ((actM d o crash).2) = (0 : Int) := by (exfalso; omega)
             exact ⟨_, rfl, s5977.keep, by rw [e5981, e5982]; exact ⟨[vI d.id, vI d.counter, x5927, Value.bool d.halted], rfl, Enc.out (B := Bl0) ⟨_, rfl, hl5928⟩⟩⟩
            ·have hp5983 : crash ≠ (2 : Int) := by first | simpa using hc5969 | (have e := hc5969; simp at e; omega)
             refine cw_skip (thenQ_n (?_))
             refine cw_seq (?_)
             refine cw_region (by kernel_rfl) (wl_s (o_loadBxA (vs := [vI d.id, vI d.counter, d5756, Value.bool d.halted]) Try.underlying31 rfl s_31 rfl bx5763 rfl (wl_n (o_store (vs := [vI d.id, vI d.counter, d5756, Value.bool d.halted]) (.agg #[vI d.id, vI d.counter, d5756, Value.bool d.halted]) rfl rfl rfl s_31 (fun u hu => by simp only [List.mem_cons, List.not_mem_nil, or_false] at hu; rcases hu with rfl | rfl | rfl | rfl <;> first | rfl | exact hd5757.oneCell) (by repeat (first | assumption | constructor)) bx5776 (of_decide_eq_true rfl) s5923 fun w5984 s5985 m5986 k5987 bx5988 => (?_)))))
             have hd5757 := hd5757.mv m5986
             refine wl_s (o_assign (vI (0 : Int)) rfl (wl_nil (thenQ_n (?_))))
             refine cw_ret (end_r rfl (resv2 rfl (rv_A (vs := [vI d.id, vI d.counter, d5756, Value.bool d.halted]) rfl Try.underlying31 rfl s_31 rfl bx5988 rfl) (rv_t rfl rfl)) (?_))
             have e5989 : ((actM d o crash).1) = d := by exact congrArg (fun p => p.1) (show actM d o crash = _ from act_70 (by assumption) (by assumption) (by assumption) (by assumption) (by assumption) (by assumption) (by assumption) (by assumption) (by assumption) (by assumption))
             have e5990 : ((actM d o crash).2) = (0 : Int) := by exact congrArg (fun p => p.2) (show actM d o crash = _ from act_70 (by assumption) (by assumption) (by assumption) (by assumption) (by assumption) (by assumption) (by assumption) (by assumption) (by assumption) (by assumption))
             exact ⟨_, rfl, s5985.keep, by rw [e5989, e5990]; exact ⟨[vI d.id, vI d.counter, d5756, Value.bool d.halted], rfl, Enc.out (B := Bl0) ⟨_, rfl, hd5757⟩⟩⟩
      ·have hp5991 : o.device ≠ d.id := by first | simpa using hb5827 | (have e := hb5827; simp at e; omega)
       refine wl_k rfl (wl_k rfl (wl_k rfl (wl_k rfl (wl_k rfl (wl_k rfl (wl_s (o_pickT (Value.bool true) rfl rfl (wl_nil (thenQ_n (?_))))))))))
       refine cw_cond true rfl rfl (fun _ => ?_) (fun h => by cases h)
       refine cw_seq (?_)
       refine cw_region (by kernel_rfl) (wl_s (o_build (l := []) pl_31 z_31 rfl [] [vI (0 : Int), vI (0 : Int), Value.slice none 0 0, Value.bool false] rfl rfl (wl_n (o_store (vs := [vI (0 : Int), vI (0 : Int), Value.slice none 0 0, Value.bool false]) (.agg #[vI (0 : Int), vI (0 : Int), Value.slice none 0 0, Value.bool false]) rfl rfl rfl s_31 (fun u hu => by simp only [List.mem_cons, List.not_mem_nil, or_false] at hu; rcases hu with rfl | rfl | rfl | rfl <;> first | rfl) (by repeat (first | assumption | constructor)) bx5776 (of_decide_eq_true rfl) s5811 fun w5992 s5993 m5994 k5995 bx5996 => (?_)))))
       refine wl_s (o_assign (vI (420 : Int)) rfl (wl_nil (thenQ_n (?_))))
       refine cw_ret (thenQ_r (end_r rfl (resv2 rfl (rv_A (vs := [vI (0 : Int), vI (0 : Int), Value.slice none 0 0, Value.bool false]) rfl Try.underlying31 rfl s_31 rfl bx5996 rfl) (rv_t rfl rfl)) (?_)))
       have e5997 : ((actM d o crash).1) = (⟨(0 : Int), (0 : Int), [], false⟩ : Device) := by exact congrArg (fun p => p.1) (show actM d o crash = _ from act_4a (by assumption) (by assumption) (by assumption) (by assumption) (by assumption) (by assumption))
       have e5998 : ((actM d o crash).2) = (420 : Int) := by exact congrArg (fun p => p.2) (show actM d o crash = _ from act_4a (by assumption) (by assumption) (by assumption) (by assumption) (by assumption) (by assumption))
       exact ⟨_, rfl, s5993.keep, by rw [e5997, e5998]; exact ⟨[vI (0 : Int), vI (0 : Int), Value.slice none 0 0, Value.bool false], rfl, Enc.out (B := (b5771 :: (b5758 :: []))) ⟨.slice none 0 0, rfl, (RdL.nil _ _ _)⟩⟩⟩
    ·have hp5999 : d.halted = true := by first | simpa using hb5807 | (have e := hb5807; simp at e; omega)
     refine wl_k rfl (wl_k rfl (wl_k rfl (wl_s (o_pickT (Value.bool true) rfl rfl (wl_nil (thenQ_n (?_)))))))
     refine cw_cond true rfl rfl (fun _ => ?_) (fun h => by cases h)
     refine cw_seq (?_)
     refine cw_region (by kernel_rfl) (wl_s (o_build (l := []) pl_31 z_31 rfl [] [vI (0 : Int), vI (0 : Int), Value.slice none 0 0, Value.bool false] rfl rfl (wl_n (o_store (vs := [vI (0 : Int), vI (0 : Int), Value.slice none 0 0, Value.bool false]) (.agg #[vI (0 : Int), vI (0 : Int), Value.slice none 0 0, Value.bool false]) rfl rfl rfl s_31 (fun u hu => by simp only [List.mem_cons, List.not_mem_nil, or_false] at hu; rcases hu with rfl | rfl | rfl | rfl <;> first | rfl) (by repeat (first | assumption | constructor)) bx5776 (of_decide_eq_true rfl) s5793 fun w6000 s6001 m6002 k6003 bx6004 => (?_)))))
     refine wl_s (o_assign (vI (430 : Int)) rfl (wl_nil (thenQ_n (?_))))
     refine cw_ret (thenQ_r (end_r rfl (resv2 rfl (rv_A (vs := [vI (0 : Int), vI (0 : Int), Value.slice none 0 0, Value.bool false]) rfl Try.underlying31 rfl s_31 rfl bx6004 rfl) (rv_t rfl rfl)) (?_)))
     have e6005 : ((actM d o crash).1) = (⟨(0 : Int), (0 : Int), [], false⟩ : Device) := by exact congrArg (fun p => p.1) (show actM d o crash = _ from act_3a (by assumption) (by assumption) (by assumption) (by assumption))
     have e6006 : ((actM d o crash).2) = (430 : Int) := by exact congrArg (fun p => p.2) (show actM d o crash = _ from act_3a (by assumption) (by assumption) (by assumption) (by assumption))
     exact ⟨_, rfl, s6001.keep, by rw [e6005, e6006]; exact ⟨[vI (0 : Int), vI (0 : Int), Value.slice none 0 0, Value.bool false], rfl, Enc.out (B := (b5771 :: (b5758 :: []))) ⟨.slice none 0 0, rfl, (RdL.nil _ _ _)⟩⟩⟩
 ·have hp6007 : crash < (0 : Int) := by first | simpa using hb5779 | (have e := hb5779; simp at e; omega)
  refine wl_k rfl (wl_k rfl (wl_s (o_pickT (Value.bool true) rfl rfl (wl_nil (thenQ_n (?_))))))
  refine cw_cond true rfl rfl (fun _ => ?_) (fun h => by cases h)
  refine cw_seq (?_)
  refine cw_region (by kernel_rfl) (wl_s (o_build (l := []) pl_31 z_31 rfl [] [vI (0 : Int), vI (0 : Int), Value.slice none 0 0, Value.bool false] rfl rfl (wl_n (o_store (vs := [vI (0 : Int), vI (0 : Int), Value.slice none 0 0, Value.bool false]) (.agg #[vI (0 : Int), vI (0 : Int), Value.slice none 0 0, Value.bool false]) rfl rfl rfl s_31 (fun u hu => by simp only [List.mem_cons, List.not_mem_nil, or_false] at hu; rcases hu with rfl | rfl | rfl | rfl <;> first | rfl) (by repeat (first | assumption | constructor)) bx5776 (of_decide_eq_true rfl) s5773 fun w6008 s6009 m6010 k6011 bx6012 => (?_)))))
  refine wl_s (o_assign (vI (1 : Int)) rfl (wl_nil (thenQ_n (?_))))
  refine cw_ret (thenQ_r (end_r rfl (resv2 rfl (rv_A (vs := [vI (0 : Int), vI (0 : Int), Value.slice none 0 0, Value.bool false]) rfl Try.underlying31 rfl s_31 rfl bx6012 rfl) (rv_t rfl rfl)) (?_)))
  have e6013 : ((actM d o crash).1) = (⟨(0 : Int), (0 : Int), [], false⟩ : Device) := by exact congrArg (fun p => p.1) (show actM d o crash = _ from act_1 (by assumption))
  have e6014 : ((actM d o crash).2) = (1 : Int) := by exact congrArg (fun p => p.2) (show actM d o crash = _ from act_1 (by assumption))
  exact ⟨_, rfl, s6009.keep, by rw [e6013, e6014]; exact ⟨[vI (0 : Int), vI (0 : Int), Value.slice none 0 0, Value.bool false], rfl, Enc.out (B := (b5771 :: (b5758 :: []))) ⟨.slice none 0 0, rfl, (RdL.nil _ _ _)⟩⟩⟩

end Go.Proofs.Ytjpniibleelgiaa
