/- Walks, printed by gen.py. -/
import Derived.Test.YtpdekmknnpkmgaaWk
import Derived.Test.YtpdekmknnpkmgaaMgC
import Derived.Test.YtpdekmknnpkmgaaFwP
set_option linter.unusedSimpArgs false
set_option linter.unusedVariables false
namespace Go.Proofs.Ytpdekmknnpkmgaa
open Go.Fw Go.RowKit

set_option maxHeartbeats 4000000 in
set_option maxRecDepth 100000 in
theorem c_GuardiansWait {O : List Nat} (l_v : Value) (l : List Int) (threshold : Int) (wait : Int) (asked : Int) (day : Int) (w : World) (h_l : RdL Enc.int w O l_v l) (hO : ∀ b ∈ O, b < w.heap.size) : CallsK Try.prog 8 [l_v, vI threshold, vI wait, vI asked, vI day] w (fun v _ => v = .bool (true)) :=  by
 have lim_l := h_l.len_le
 have h_l : RdL Enc.int w ([] ++ O) l_v l := h_l
 have s0 : St w O w [] := St.start hO
 refine callsK_of 117 Try.func8 rfl rfl (of_decide_eq_true rfl) (fun F0 => ?_)
 refine cw_seq (?_)
 refine cw_region (by kernel_rfl) (wl_s (o_assign (Value.bool false) rfl (wl_nil (thenQ_n (?_)))))
 refine cw_seq (?_)
 refine cw_seq (?_)
 refine cw_region (by kernel_rfl) (wl_s (o_callK (vs := []) enter_9 (c_sane45 (O := [] ++ O) w s0.lt) rfl s0 fun v5581 w5582 s5583 m5584 k5585 r5586 => (?_)))
 obtain rfl := r5586
 have h_l := h_l.mv m5584
 refine wl_s (o_not true rfl (wl_nil (thenQ_n (?_))))
 refine cw_cond false rfl rfl (fun h => by cases h) (fun _ => ?_)
 refine cw_skip (thenQ_n (?_))
 refine cw_seq (?_)
 refine cw_seq (?_)
 refine cw_region (by kernel_rfl) (wl_s (o_move (l_v) rfl (wl_s (o_lenR Try.underlying22 rfl h_l (wl_s (o_gtr .i64 (l.length : Int) (20 : Int) rfl rfl (wl_nil (thenQ_n (?_)))))))))
 refine cw_cond (decide ((20 : Int) < (l.length : Int))) rfl rfl (fun hc5587 => ?_) (fun hc5587 => ?_)
 ·have hp5588 : (20 : Int) < (l.length : Int) := by first | simpa using hc5587 | (have e := hc5587; simp at e; omega)
  refine cw_seq (?_)
  refine cw_region (by kernel_rfl) (wl_s (o_assign (Value.bool true) rfl (wl_nil (thenQ_n (?_)))))
  refine cw_ret (thenQ_r (end_r rfl (res1 rfl rfl rfl) (?_)))
  exact ⟨_, rfl, s5583.keep, rfl⟩
 ·have hp5589 : (l.length : Int) ≤ (20 : Int) := by first | simpa using hc5587 | (have e := hc5587; simp at e; omega)
  refine cw_skip (thenQ_n (?_))
  refine cw_seq (?_)
  refine cw_region (by kernel_rfl) (wl_s (o_move (l_v) rfl (wl_s (o_move (vI threshold) rfl (wl_s (o_move (vI wait) rfl (wl_s (o_callK (vs := [l_v, vI threshold, vI wait]) enter_11 (c_new (O := [] ++ O) l_v l threshold wait w5582 h_l (by first | omega | assumption | (simp; done)) s5583.lt) rfl s5583 fun v5590 w5591 s5592 m5593 k5594 r5595 => (?_)))))))))
  obtain ⟨cs5596, rfl, hs5597⟩ := r5595
  have h_l := h_l.mv m5593
  refine wl_s (o_move (Value.tuple #[Value.agg cs5596.toArray, vI ((gNew l threshold wait).2)]) rfl (wl_s (o_extract (Value.agg cs5596.toArray) rfl rfl (wl_s (o_extract (vI ((gNew l threshold wait).2)) rfl rfl (wl_s (o_alloc [vI (0 : Int), vI (0 : Int), vI (0 : Int), Value.slice none 0 0, Value.slice none 0 0] z_25 rfl s5592 fun b5598 w5599 e5604 s5600 m5601 k5602 bx5603 => (?_))))))))
  clear e5604
  have h_l := h_l.mv m5601
  have hs5597 : Enc.circle.rd w5599 ((b5598 :: []) ++ O) cs5596 ((gNew l threshold wait).1) := Enc.mv Enc.circle (x := (gNew l threshold wait).1) hs5597 m5601
  obtain ⟨d5610, d5612, rfl, hd5611, hd5613⟩ := hs5597
  have := hd5611.len_le
  have := hd5613.len_le
  refine wl_n (o_store (vs := [vI (((gNew l threshold wait).1).epoch), vI (((gNew l threshold wait).1).threshold), vI (((gNew l threshold wait).1).wait), d5610, d5612]) (.agg #[vI (((gNew l threshold wait).1).epoch), vI (((gNew l threshold wait).1).threshold), vI (((gNew l threshold wait).1).wait), d5610, d5612]) rfl rfl rfl s_25 (fun u hu => by simp only [List.mem_cons, List.not_mem_nil, or_false] at hu; rcases hu with rfl | rfl | rfl | rfl | rfl <;> first | rfl | exact hd5611.oneCell | exact hd5613.oneCell) (by repeat (first | assumption | constructor)) bx5603 (of_decide_eq_true rfl) s5600 fun w5605 s5606 m5607 k5608 bx5609 => (?_))
  have h_l := h_l.mv m5607
  have hd5611 := hd5611.mv m5607
  have hd5613 := hd5613.mv m5607
  refine wl_s (o_assign (vI ((gNew l threshold wait).2)) rfl (wl_nil (thenQ_n (?_))))
  refine cw_seq (?_)
  refine cw_region (by kernel_rfl) (wl_s (o_loadBxA (vs := [vI (((gNew l threshold wait).1).epoch), vI (((gNew l threshold wait).1).threshold), vI (((gNew l threshold wait).1).wait), d5610, d5612]) Try.underlying25 rfl s_25 rfl bx5609 rfl (wl_s (o_move (vI asked) rfl (wl_s (o_callK (vs := [Value.agg #[vI (((gNew l threshold wait).1).epoch), vI (((gNew l threshold wait).1).threshold), vI (((gNew l threshold wait).1).wait), d5610, d5612], vI asked]) enter_13 (c_ask (O := (b5598 :: []) ++ O) [vI (((gNew l threshold wait).1).epoch), vI (((gNew l threshold wait).1).threshold), vI (((gNew l threshold wait).1).wait), d5610, d5612] ((gNew l threshold wait).1) asked w5605 ⟨_, _, rfl, hd5611, hd5613⟩ s5606.lt) rfl s5606 fun v5614 w5615 s5616 m5617 k5618 r5619 => (?_)))))))
  obtain ⟨cs5620, rfl, hs5621⟩ := r5619
  have h_l := h_l.mv m5617
  have bx5609 := bx5609.keep k5618 (by simp)
  refine wl_s (o_move (Value.tuple #[Value.agg cs5620.toArray, vI ((gAsk ((gNew l threshold wait).1) asked).2.1), vI ((gAsk ((gNew l threshold wait).1) asked).2.2)]) rfl (wl_s (o_extract (Value.agg cs5620.toArray) rfl rfl (wl_s (o_extract (vI ((gAsk ((gNew l threshold wait).1) asked).2.1)) rfl rfl (wl_s (o_extract (vI ((gAsk ((gNew l threshold wait).1) asked).2.2)) rfl rfl (?_))))))))
  obtain ⟨d5627, d5629, rfl, hd5628, hd5630⟩ := hs5621
  have := hd5628.len_le
  have := hd5630.len_le
  refine wl_n (o_store (vs := [vI (((gAsk ((gNew l threshold wait).1) asked).1).epoch), vI (((gAsk ((gNew l threshold wait).1) asked).1).threshold), vI (((gAsk ((gNew l threshold wait).1) asked).1).wait), d5627, d5629]) (.agg #[vI (((gAsk ((gNew l threshold wait).1) asked).1).epoch), vI (((gAsk ((gNew l threshold wait).1) asked).1).threshold), vI (((gAsk ((gNew l threshold wait).1) asked).1).wait), d5627, d5629]) rfl rfl rfl s_25 (fun u hu => by simp only [List.mem_cons, List.not_mem_nil, or_false] at hu; rcases hu with rfl | rfl | rfl | rfl | rfl <;> first | rfl | exact hd5628.oneCell | exact hd5630.oneCell) (by repeat (first | assumption | constructor)) bx5609 (of_decide_eq_true rfl) s5616 fun w5622 s5623 m5624 k5625 bx5626 => (?_))
  have h_l := h_l.mv m5624
  have hd5628 := hd5628.mv m5624
  have hd5630 := hd5630.mv m5624
  refine wl_s (o_assign (vI ((gAsk ((gNew l threshold wait).1) asked).2.1)) rfl (wl_s (o_assign (vI ((gAsk ((gNew l threshold wait).1) asked).2.2)) rfl (wl_nil (thenQ_n (?_))))))
  refine cw_seq (?_)
  refine cw_seq (?_)
  refine cw_region (by kernel_rfl) (wl_s (o_move (vI ((gNew l threshold wait).2)) rfl (wl_s (o_neq .i64 ((gNew l threshold wait).2) (0 : Int) rfl rfl (wl_s (o_move (Value.bool (((gNew l threshold wait).2) != (0 : Int))) rfl (?_)))))))
  cases hb5631 : (((gNew l threshold wait).2) != (0 : Int))
  ·have hp5632 : (gNew l threshold wait).2 = (0 : Int) := by first | simpa using hb5631 | (have e := hb5631; simp at e; omega)
   refine wl_t rfl (o_move (vI ((gAsk ((gNew l threshold wait).1) asked).2.2)) rfl (wl_t rfl (o_neq .i64 ((gAsk ((gNew l threshold wait).1) asked).2.2) (0 : Int) rfl rfl (wl_s (o_pickF (Value.bool (((gAsk ((gNew l threshold wait).1) asked).2.2) != (0 : Int))) rfl rfl (wl_nil (thenQ_n (?_))))))))
   refine cw_cond (((gAsk ((gNew l threshold wait).1) asked).2.2) != (0 : Int)) rfl rfl (fun hc5633 => ?_) (fun hc5633 => ?_)
   ·have hp5634 : (gAsk ((gNew l threshold wait).1) asked).2.2 ≠ (0 : Int) := by first | simpa using hc5633 | (have e := hc5633; simp at e; omega)
    refine cw_seq (?_)
    refine cw_region (by kernel_rfl) (wl_s (o_assign (Value.bool true) rfl (wl_nil (thenQ_n (?_)))))
    refine cw_ret (thenQ_r (end_r rfl (res1 rfl rfl rfl) (?_)))
    exact ⟨_, rfl, s5623.keep, rfl⟩
   ·have hp5635 : (gAsk ((gNew l threshold wait).1) asked).2.2 = (0 : Int) := by first | simpa using hc5633 | (have e := hc5633; simp at e; omega)
    have hask := hp5635
    refine cw_skip (thenQ_n (?_))
    refine cw_seq (?_)
    refine cw_seq (?_)
    refine cw_region (by kernel_rfl) (wl_s (o_move (vI threshold) rfl (wl_s (o_move (l_v) rfl (wl_s (o_lenR Try.underlying22 rfl h_l (wl_s (o_gtr .i64 threshold (l.length : Int) rfl rfl (wl_nil (thenQ_n (?_)))))))))))
    have hb5636 : (decide ((l.length : Int) < threshold)) = false := (decide_eq_false (by have := new_thr (new_ok (l := l) (t := threshold) (w := wait) (by assumption)).1; omega))
    rw [hb5636]
    refine cw_cond false rfl rfl (fun h => by cases h) (fun _ => ?_)
    refine cw_skip (thenQ_n (?_))
    refine cw_seq (?_)
    refine cw_seq (?_)
    refine cw_region (by kernel_rfl) (wl_s (o_assign (vI (0 : Int)) rfl (wl_nil (thenQ_n (?_)))))
    refine cw_block (?_)
    have hnew := new_ok (l := l) (t := threshold) (w := wait) (by assumption)
    have hc := hnew.1
    have ht := new_thr hc
    have haa := ask_ok (l := l) (t := threshold) (w := wait) (a := asked) (by assumption) (by assumption)
    have ha := haa.1
    have hX := haa.2
    refine cw_loop (fun mI FI wI => ∃ (k : Nat) (vr0_b5598_3 : Value) (vr0_b5598_4 : Value) (B : List Nat), k ≤ threshold.toNat ∧ mI = threshold.toNat - k ∧ (∃ F1, FI = upds F1 [(0, l_v), (1, vI threshold), (2, vI wait), (3, vI asked), (4, vI day), (11, Value.pointer (some ⟨b5598, 0, none⟩)), (13, vI (0 : Int)), (15, vI ((k : Nat) : Int)), (117, undef)]) ∧ St w O wI B ∧ RdL Enc.int wI (B ++ O) vr0_b5598_3 ((waitC l threshold wait asked k).guardians) ∧ RdL Enc.recovery wI (B ++ O) vr0_b5598_4 ((waitC l threshold wait asked k).recs) ∧ RdL Enc.int wI (B ++ O) (l_v) (l) ∧ Box wI b5598 25 [vI ((waitC l threshold wait asked k).epoch), vI ((waitC l threshold wait asked k).threshold), vI ((waitC l threshold wait asked k).wait), vr0_b5598_3, vr0_b5598_4] ∧ b5598 ∈ B) (threshold.toNat - (0)) ?_ ?_
    ·exact ⟨(0), d5627, d5629, (b5598 :: []), (by first | omega | (simp; done) | (simp; omega) | simp_all), rfl, ⟨_, upds_self _ ⟨rfl, rfl, rfl, rfl, rfl, rfl, (by first | rfl | exact congrArg (Value.int _) (by first | omega | (rw [hX]))), (by first | rfl | exact congrArg (Value.int _) (by first | omega | (simp))), rfl, trivial⟩⟩, s5623, (by rw [show (waitC l threshold wait asked (0)).guardians = ((gAsk ((gNew l threshold wait).1) asked).1).guardians from by rw [hX]]; exact hd5628), (by rw [show (waitC l threshold wait asked (0)).recs = ((gAsk ((gNew l threshold wait).1) asked).1).recs from by rw [hX]]; exact hd5630), h_l, (by rw [show ([vI ((waitC l threshold wait asked (0)).epoch), vI ((waitC l threshold wait asked (0)).threshold), vI ((waitC l threshold wait asked (0)).wait), d5627, d5629] : List Value) = [vI (((gAsk ((gNew l threshold wait).1) asked).1).epoch), vI (((gAsk ((gNew l threshold wait).1) asked).1).threshold), vI (((gAsk ((gNew l threshold wait).1) asked).1).wait), d5627, d5629] from by rw [hX]]; exact bx5626), (by first | assumption | (repeat (first | exact List.mem_cons_self | assumption | apply List.mem_cons_of_mem)) | (apply_assumption; assumption))⟩
    ·intro ml0 F wl0 hI
     clear h_l
     obtain ⟨k, vr0_b5598_3, vr0_b5598_4, Bl0, hr0_0, hm0, ⟨Fl0, rfl⟩, sl0, hrd0_b5598_3, hrd0_b5598_4, h_l, hbs_b5598, hin_b5598⟩ := hI
     have := hrd0_b5598_3.len_le
     have := hrd0_b5598_4.len_le
     refine cw_seq (?_)
     refine cw_seq (?_)
     refine cw_region (by kernel_rfl) (wl_s (o_move (vI ((k : Nat) : Int)) rfl (wl_s (o_move (vI threshold) rfl (wl_s (o_lss .i64 ((k : Nat) : Int) threshold rfl rfl (wl_nil (thenQ_n (?_)))))))))
     refine cw_cond (decide (((k : Nat) : Int) < threshold)) rfl rfl (fun hc5637 => ?_) (fun hc5637 => ?_)
     ·have hp5638 : ((k : Nat) : Int) < threshold := by first | simpa using hc5637 | (have e := hc5637; simp at e; omega)
      refine cw_skip (thenQ_n (?_))
      refine cw_seq (?_)
      refine cw_block (?_)
      refine cw_seq (?_)
      refine cw_seq (?_)
      refine cw_region (by kernel_rfl) (wl_s (o_loadBxA (vs := [vI ((waitC l threshold wait asked k).epoch), vI ((waitC l threshold wait asked k).threshold), vI ((waitC l threshold wait asked k).wait), vr0_b5598_3, vr0_b5598_4]) Try.underlying25 rfl s_25 rfl hbs_b5598 rfl (wl_s (o_move (vI (0 : Int)) rfl (wl_s (o_move (vI day) rfl (wl_s (o_callK (vs := [Value.agg #[vI ((waitC l threshold wait asked k).epoch), vI ((waitC l threshold wait asked k).threshold), vI ((waitC l threshold wait asked k).wait), vr0_b5598_3, vr0_b5598_4], vI (0 : Int), vI day]) enter_22 (c_finish (O := Bl0 ++ O) [vI ((waitC l threshold wait asked k).epoch), vI ((waitC l threshold wait asked k).threshold), vI ((waitC l threshold wait asked k).wait), vr0_b5598_3, vr0_b5598_4] (waitC l threshold wait asked k) (0 : Int) day wl0 ⟨_, _, rfl, hrd0_b5598_3, hrd0_b5598_4⟩ sl0.lt) rfl sl0 fun v5639 w5640 s5641 m5642 k5643 r5644 => (?_)))))))))
      obtain ⟨cs5645, rfl, hs5646⟩ := r5644
      have h_l := h_l.mv m5642
      have hrd0_b5598_3 := hrd0_b5598_3.mv m5642
      have hrd0_b5598_4 := hrd0_b5598_4.mv m5642
      have hbs_b5598 := hbs_b5598.keep k5643 (by simp)
      refine wl_s (o_move (Value.tuple #[Value.agg cs5645.toArray, vI ((gAct (waitC l threshold wait asked k) (0 : Int) (fFinish (waitC l threshold wait asked k) day)).2)]) rfl (wl_s (o_extract (Value.agg cs5645.toArray) rfl rfl (wl_s (o_extract (vI ((gAct (waitC l threshold wait asked k) (0 : Int) (fFinish (waitC l threshold wait asked k) day)).2)) rfl rfl (wl_s (o_alloc [vI (0 : Int), vI (0 : Int), vI (0 : Int), Value.slice none 0 0, Value.slice none 0 0] z_25 rfl s5641 fun b5647 w5648 e5653 s5649 m5650 k5651 bx5652 => (?_))))))))
      have ne5654 : b5598 ≠ b5647 := by have := hbs_b5598.lt; omega
      clear e5653
      have h_l := h_l.mv m5650
      have hs5646 : Enc.circle.rd w5648 ((b5647 :: Bl0) ++ O) cs5645 ((gAct (waitC l threshold wait asked k) (0 : Int) (fFinish (waitC l threshold wait asked k) day)).1) := Enc.mv Enc.circle (x := (gAct (waitC l threshold wait asked k) (0 : Int) (fFinish (waitC l threshold wait asked k) day)).1) hs5646 m5650
      have hrd0_b5598_3 := hrd0_b5598_3.mv m5650
      have hrd0_b5598_4 := hrd0_b5598_4.mv m5650
      have hbs_b5598 := hbs_b5598.keep k5651 (by simp)
      obtain ⟨d5660, d5662, rfl, hd5661, hd5663⟩ := hs5646
      have := hd5661.len_le
      have := hd5663.len_le
      refine wl_n (o_store (vs := [vI (((gAct (waitC l threshold wait asked k) (0 : Int) (fFinish (waitC l threshold wait asked k) day)).1).epoch), vI (((gAct (waitC l threshold wait asked k) (0 : Int) (fFinish (waitC l threshold wait asked k) day)).1).threshold), vI (((gAct (waitC l threshold wait asked k) (0 : Int) (fFinish (waitC l threshold wait asked k) day)).1).wait), d5660, d5662]) (.agg #[vI (((gAct (waitC l threshold wait asked k) (0 : Int) (fFinish (waitC l threshold wait asked k) day)).1).epoch), vI (((gAct (waitC l threshold wait asked k) (0 : Int) (fFinish (waitC l threshold wait asked k) day)).1).threshold), vI (((gAct (waitC l threshold wait asked k) (0 : Int) (fFinish (waitC l threshold wait asked k) day)).1).wait), d5660, d5662]) rfl rfl rfl s_25 (fun u hu => by simp only [List.mem_cons, List.not_mem_nil, or_false] at hu; rcases hu with rfl | rfl | rfl | rfl | rfl <;> first | rfl | exact hd5661.oneCell | exact hd5663.oneCell) (by repeat (first | assumption | constructor)) bx5652 (of_decide_eq_true rfl) s5649 fun w5655 s5656 m5657 k5658 bx5659 => (?_))
      have h_l := h_l.mv m5657
      have hrd0_b5598_3 := hrd0_b5598_3.mv m5657
      have hrd0_b5598_4 := hrd0_b5598_4.mv m5657
      have hbs_b5598 := hbs_b5598.keep k5658 (nin1 ne5654)
      refine wl_s (o_assign (vI ((gAct (waitC l threshold wait asked k) (0 : Int) (fFinish (waitC l threshold wait asked k) day)).2)) rfl (wl_nil (thenQ_n (?_))))
      refine cw_seq (?_)
      refine cw_region (by kernel_rfl) (wl_s (o_move (vI ((gAct (waitC l threshold wait asked k) (0 : Int) (fFinish (waitC l threshold wait asked k) day)).2)) rfl (wl_s (o_neq .i64 ((gAct (waitC l threshold wait asked k) (0 : Int) (fFinish (waitC l threshold wait asked k) day)).2) (450 : Int) rfl rfl (wl_s (o_move (Value.bool (((gAct (waitC l threshold wait asked k) (0 : Int) (fFinish (waitC l threshold wait asked k) day)).2) != (450 : Int))) rfl (?_)))))))
      cases hb5664 : (((gAct (waitC l threshold wait asked k) (0 : Int) (fFinish (waitC l threshold wait asked k) day)).2) != (450 : Int))
      ·have hp5665 : (gAct (waitC l threshold wait asked k) (0 : Int) (fFinish (waitC l threshold wait asked k) day)).2 = (450 : Int) := by first | simpa using hb5664 | (have e := hb5664; simp at e; omega)
       refine wl_k rfl (wl_k rfl (wl_k rfl (wl_u rfl (wl_u rfl (wl_k rfl (wl_s (o_pickF (Value.bool false) rfl rfl (wl_nil (thenQ_n (?_))))))))))
       refine cw_cond false rfl rfl (fun h => by cases h) (fun _ => ?_)
       refine cw_skip (thenQ_n (?_))
       refine cw_seq (?_)
       refine cw_drawRL 11 10 [9] _ _ _ [isV (Value.agg #[vI ((waitC l threshold wait asked k).epoch), vI ((waitC l threshold wait asked k).threshold), vI ((waitC l threshold wait asked k).wait), vr0_b5598_3, vr0_b5598_4]), isV (vI (0 : Int)), fun (vT : Value) (_ : World) => RdL Enc.int w5655 ((b5647 :: Bl0) ++ O) vT (l), isV (vI ((k : Nat) : Int)), fun (vT : Value) (_ : World) => ∃ aT, vT = .pointer (some aT) ∧ PT Enc.int w5655 ((b5647 :: Bl0) ++ O) (.pointer (some aT)) (l[k]!), isV (vI (l[k]!)), fun (vT : Value) (wT : World) => ∃ (xT0 : List Value), vT = .tuple #[.agg xT0.toArray, vI ((gAct (waitC l threshold wait asked k) (0 : Int) (fApprove (waitC l threshold wait asked k) (l[k]!))).2)] ∧ Enc.circle.rd wT ((b5647 :: Bl0) ++ O) xT0 ((gAct (waitC l threshold wait asked k) (0 : Int) (fApprove (waitC l threshold wait asked k) (l[k]!))).1), fun (vT : Value) (wT : World) => ∃ (xT0 : List Value), vT = .tuple #[.agg xT0.toArray, vI ((gAct (waitC l threshold wait asked k) (0 : Int) (fApprove (waitC l threshold wait asked k) (l[k]!))).2)] ∧ Enc.circle.rd wT ((b5647 :: Bl0) ++ O) xT0 ((gAct (waitC l threshold wait asked k) (0 : Int) (fApprove (waitC l threshold wait asked k) (l[k]!))).1), fun (vT : Value) (wT : World) => ∃ csT : List Value, vT = .agg csT.toArray ∧ Enc.circle.rd wT ((b5647 :: Bl0) ++ O) csT ((gAct (waitC l threshold wait asked k) (0 : Int) (fApprove (waitC l threshold wait asked k) (l[k]!))).1), isV (vI ((gAct (waitC l threshold wait asked k) (0 : Int) (fApprove (waitC l threshold wait asked k) (l[k]!))).2)), fun (vT : Value) (wT : World) => ∃ bT : Nat, vT = .pointer (some ⟨bT, 0, none⟩) ∧ w5655.heap.size ≤ bT ∧ Box wT bT 25 [vI (0 : Int), vI (0 : Int), vI (0 : Int), Value.slice none 0 0, Value.slice none 0 0]] [fun _ _ _ => True, fun _ _ _ => True, fun _ _ _ => True, fun _ _ _ => True, fun _ _ _ => True, fun _ _ _ => True, fun (u v : Value) (wT : World) => ∀ bT, u = .pointer (some ⟨bT, 0, none⟩) → (fun (vT : Value) (wT : World) => ∃ (xT0 : List Value), vT = .tuple #[.agg xT0.toArray, vI ((gAct (waitC l threshold wait asked k) (0 : Int) (fApprove (waitC l threshold wait asked k) (l[k]!))).2)] ∧ Enc.circle.rd wT ((bT :: (b5647 :: Bl0)) ++ O) xT0 ((gAct (waitC l threshold wait asked k) (0 : Int) (fApprove (waitC l threshold wait asked k) (l[k]!))).1)) v wT, fun (u v : Value) (wT : World) => ∀ bT, u = .pointer (some ⟨bT, 0, none⟩) → (fun (vT : Value) (wT : World) => ∃ (xT0 : List Value), vT = .tuple #[.agg xT0.toArray, vI ((gAct (waitC l threshold wait asked k) (0 : Int) (fApprove (waitC l threshold wait asked k) (l[k]!))).2)] ∧ Enc.circle.rd wT ((bT :: (b5647 :: Bl0)) ++ O) xT0 ((gAct (waitC l threshold wait asked k) (0 : Int) (fApprove (waitC l threshold wait asked k) (l[k]!))).1)) v wT, fun (u v : Value) (wT : World) => ∀ bT, u = .pointer (some ⟨bT, 0, none⟩) → (fun (vT : Value) (wT : World) => ∃ csT : List Value, vT = .agg csT.toArray ∧ Enc.circle.rd wT ((bT :: (b5647 :: Bl0)) ++ O) csT ((gAct (waitC l threshold wait asked k) (0 : Int) (fApprove (waitC l threshold wait asked k) (l[k]!))).1)) v wT, fun _ _ _ => True, fun _ _ _ => True] (by kernel_rfl) (by kernel_rfl) (by kernel_rfl) (by kernel_rfl) (by decide) rfl rfl rfl ⟨kI, kI, fun _ _ _ h _ => h, kI, fun _ _ _ h _ => h, kI, fun _ _ _ ⟨y0, e, h0⟩ k => ⟨y0, e, Enc.mv _ h0 (Mv.of_keep k)⟩, fun _ _ _ ⟨y0, e, h0⟩ k => ⟨y0, e, Enc.mv _ h0 (Mv.of_keep k)⟩, fun _ _ _ ⟨a, e, h⟩ k => ⟨a, e, Enc.mv _ h (Mv.of_keep k)⟩, kI, fun _ _ _ ⟨b, e, h1, h⟩ k => ⟨b, e, h1, h.keep k (by simp)⟩, trivial⟩ ⟨fun _ _ _ _ _ _ => trivial, fun _ _ _ _ _ _ => trivial, fun _ _ _ _ _ _ => trivial, fun _ _ _ _ _ _ => trivial, fun _ _ _ _ _ _ => trivial, fun _ _ _ _ _ _ => trivial, fun u v w w2 h k b e => by have h2 := h b e; revert k; revert h2; exact (fun _ _ _ ⟨y0, e, h0⟩ k => ⟨y0, e, Enc.mv _ h0 (Mv.of_keep k)⟩) v w w2, fun u v w w2 h k b e => by have h2 := h b e; revert k; revert h2; exact (fun _ _ _ ⟨y0, e, h0⟩ k => ⟨y0, e, Enc.mv _ h0 (Mv.of_keep k)⟩) v w w2, fun u v w w2 h k b e => by have h2 := h b e; revert k; revert h2; exact (fun _ _ _ ⟨a, e, h⟩ k => ⟨a, e, Enc.mv _ h (Mv.of_keep k)⟩) v w w2, fun _ _ _ _ _ _ => trivial, fun _ _ _ _ _ _ => trivial, trivial⟩ ⟨?_, ?_, ?_, ?_, ?_, ?_, ?_, ?_, ?_, ?_, ?_, trivial⟩ ?_ ?_
       ·intro F1 w1 k1 hf hd vo hvo hvr
        have k0 := (Keep.drew [] w5655).trans k1
        have hbs_b5598 := hbs_b5598.keep k0 (by simp)
        obtain ⟨F2, rfl⟩ := lit_of (F := F1) [(11, Value.pointer (some ⟨b5598, 0, none⟩))] ⟨hf 11 (by kernel_rfl), trivial⟩
        exact sp_plain rfl ((o_loadBxA (vs := [vI ((waitC l threshold wait asked k).epoch), vI ((waitC l threshold wait asked k).threshold), vI ((waitC l threshold wait asked k).wait), vr0_b5598_3, vr0_b5598_4]) Try.underlying25 rfl s_25 rfl hbs_b5598 rfl (⟨(Keep.refl _ _), rfl, fun _ _ => trivial⟩)))
       ·intro F1 w1 k1 hf hd vo hvo hvr
        obtain ⟨F2, rfl⟩ := lit_of (F := F1) [(13, vI (0 : Int))] ⟨hf 13 (by kernel_rfl), trivial⟩
        exact sp_plain rfl ((o_move (vI (0 : Int)) rfl (⟨(Keep.refl _ _), rfl, fun _ _ => trivial⟩)))
       ·intro F1 w1 k1 hf hd vo hvo hvr
        obtain ⟨F2, rfl⟩ := lit_of (F := F1) [(0, l_v)] ⟨hf 0 (by kernel_rfl), trivial⟩
        exact sp_plain rfl ((o_move (l_v) rfl (⟨(Keep.refl _ _), h_l, fun _ _ => trivial⟩)))
       ·intro F1 w1 k1 hf hd vo hvo hvr
        obtain ⟨F2, rfl⟩ := lit_of (F := F1) [(15, vI ((k : Nat) : Int))] ⟨hf 15 (by kernel_rfl), trivial⟩
        exact sp_plain rfl ((o_move (vI ((k : Nat) : Int)) rfl (⟨(Keep.refl _ _), rfl, fun _ _ => trivial⟩)))
       ·intro F1 w1 k1 hf hd vo hvo hvr
        obtain ⟨v5666, e5668, hl5667⟩ : ∃ v, F1 76 = v ∧ RdL Enc.int w5655 ((b5647 :: Bl0) ++ O) v (l) := ⟨_, rfl, hd 2 76 (by kernel_rfl)⟩
        have := hl5667.len_le
        obtain ⟨F2, rfl⟩ := lit_of (F := F1) [(76, v5666), (77, vI ((k : Nat) : Int))] ⟨e5668, hd 3 77 (by kernel_rfl), trivial⟩
        exact sp_plain rfl ((o_idxU Try.underlying22 s_3 .i64 ((k : Nat) : Int) k rfl rfl rfl hl5667 (by omega) fun a5669 hp5670 => (⟨(Keep.refl _ _), ⟨a5669, rfl, hp5670⟩, fun _ _ => trivial⟩)))
       ·intro F1 w1 k1 hf hd vo hvo hvr
        have k0 := (Keep.drew [] w5655).trans k1
        obtain ⟨a5671, e5673, hp5672⟩ : ∃ a, F1 78 = .pointer (some a) ∧ PT Enc.int w5655 ((b5647 :: Bl0) ++ O) (.pointer (some a)) (l[k]!) := hd 4 78 (by kernel_rfl)
        obtain ⟨F2, rfl⟩ := lit_of (F := F1) [(78, Value.pointer (some a5671))] ⟨e5673, trivial⟩
        exact sp_plain rfl ((o_loadIU Try.underlying3 rfl rfl hp5672 k0 (⟨(Keep.refl _ _), rfl, fun _ _ => trivial⟩)))
       ·intro F1 w1 k1 hf hd vo hvo hvr
        have k0 := (Keep.drew [] w5655).trans k1
        obtain ⟨B1_, m1, s1, hs_, hb_⟩ : ∃ B1_ : List Nat, Mv (b5647 :: Bl0) w5655 B1_ w1 ∧ St w O w1 B1_ ∧ (∀ x ∈ (b5647 :: Bl0), x ∈ B1_) ∧ (∀ u, vo = some u → ∀ b, u = .pointer (some ⟨b, 0, none⟩) → B1_ = b :: (b5647 :: Bl0)) := by
         cases vo with
         | none => exact ⟨_, Mv.of_keep k0, s5656.call k0, fun _ h => h, fun _ e => (by cases e)⟩
         | some u =>
          obtain ⟨b, e, lo, hbx⟩ : (fun (vT : Value) (wT : World) => ∃ bT : Nat, vT = .pointer (some ⟨bT, 0, none⟩) ∧ w5655.heap.size ≤ bT ∧ Box wT bT 25 [vI (0 : Int), vI (0 : Int), vI (0 : Int), Value.slice none 0 0, Value.slice none 0 0]) u w1 := hvo u rfl
          exact ⟨b :: (b5647 :: Bl0), Mv.adopt k0 lo, (s5656.call k0).adopt (Nat.le_trans s5656.keep.size lo) hbx.lt, fun _ h => List.mem_cons_of_mem _ h, fun u' e' b' e'' => (by cases e'; rw [e] at e''; cases e''; rfl)⟩
        have hsb_ : ∀ x ∈ (b5647 :: Bl0) ++ O, x ∈ B1_ ++ O := fun x hx => List.mem_append.2 ((List.mem_append.1 hx).imp (hs_ x) id)
        have hrd0_b5598_3 := hrd0_b5598_3.mv m1
        have hrd0_b5598_4 := hrd0_b5598_4.mv m1
        obtain ⟨F2, rfl⟩ := lit_of (F := F1) [(74, Value.agg #[vI ((waitC l threshold wait asked k).epoch), vI ((waitC l threshold wait asked k).threshold), vI ((waitC l threshold wait asked k).wait), vr0_b5598_3, vr0_b5598_4]), (75, vI (0 : Int)), (79, vI (l[k]!))] ⟨hd 0 74 (by kernel_rfl), hd 1 75 (by kernel_rfl), hd 5 79 (by kernel_rfl), trivial⟩
        refine sp_plain rfl ((o_callK (vs := [Value.agg #[vI ((waitC l threshold wait asked k).epoch), vI ((waitC l threshold wait asked k).threshold), vI ((waitC l threshold wait asked k).wait), vr0_b5598_3, vr0_b5598_4], vI (0 : Int), vI (l[k]!)]) enter_18 (c_approve (O := B1_ ++ O) [vI ((waitC l threshold wait asked k).epoch), vI ((waitC l threshold wait asked k).threshold), vI ((waitC l threshold wait asked k).wait), vr0_b5598_3, vr0_b5598_4] (waitC l threshold wait asked k) (0 : Int) (l[k]!) w1 ⟨_, _, rfl, hrd0_b5598_3, hrd0_b5598_4⟩ s1.lt) rfl s1 fun v5674 w5675 s5676 m5677 k5678 r5679 => (?_)))
        obtain ⟨cs5680, rfl, hs5681⟩ := r5679
        exact ⟨k5678, ⟨cs5680, rfl, Enc.sub Enc.circle (x := (gAct (waitC l threshold wait asked k) (0 : Int) (fApprove (waitC l threshold wait asked k) (l[k]!))).1) hs5681 (fun x hx => .inl (hsb_ x hx))⟩, fun u eu b eb => by have e_ := hb_ u eu b eb; subst e_; exact ⟨cs5680, rfl, hs5681⟩⟩
       ·intro F1 w1 k1 hf hd vo hvo hvr
        have k0 := (Keep.drew [] w5655).trans k1
        obtain ⟨B1_, m1, s1, hs_, hb_, hd_80⟩ : ∃ B1_ : List Nat, Mv (b5647 :: Bl0) w5655 B1_ w1 ∧ St w O w1 B1_ ∧ (∀ x ∈ (b5647 :: Bl0), x ∈ B1_) ∧ (∀ u, vo = some u → ∀ b, u = .pointer (some ⟨b, 0, none⟩) → B1_ = b :: (b5647 :: Bl0)) ∧ (fun (vT : Value) (wT : World) => ∃ (xT0 : List Value), vT = .tuple #[.agg xT0.toArray, vI ((gAct (waitC l threshold wait asked k) (0 : Int) (fApprove (waitC l threshold wait asked k) (l[k]!))).2)] ∧ Enc.circle.rd wT (B1_ ++ O) xT0 ((gAct (waitC l threshold wait asked k) (0 : Int) (fApprove (waitC l threshold wait asked k) (l[k]!))).1)) (F1 80) w1 := by
         cases vo with
         | none => exact ⟨_, Mv.of_keep k0, s5656.call k0, fun _ h => h, fun _ e => (by cases e), hd 6 80 (by kernel_rfl)⟩
         | some u =>
          obtain ⟨b, e, lo, hbx⟩ : (fun (vT : Value) (wT : World) => ∃ bT : Nat, vT = .pointer (some ⟨bT, 0, none⟩) ∧ w5655.heap.size ≤ bT ∧ Box wT bT 25 [vI (0 : Int), vI (0 : Int), vI (0 : Int), Value.slice none 0 0, Value.slice none 0 0]) u w1 := hvo u rfl
          exact ⟨b :: (b5647 :: Bl0), Mv.adopt k0 lo, (s5656.call k0).adopt (Nat.le_trans s5656.keep.size lo) hbx.lt, fun _ h => List.mem_cons_of_mem _ h, fun u' e' b' e'' => (by cases e'; rw [e] at e''; cases e''; rfl), hvr u rfl 6 80 (by decide) (by kernel_rfl) b e⟩
        have hsb_ : ∀ x ∈ (b5647 :: Bl0) ++ O, x ∈ B1_ ++ O := fun x hx => List.mem_append.2 ((List.mem_append.1 hx).imp (hs_ x) id)
        obtain ⟨cs5682, e5684, hs5683⟩ : (fun (vT : Value) (wT : World) => ∃ (xT0 : List Value), vT = .tuple #[.agg xT0.toArray, vI ((gAct (waitC l threshold wait asked k) (0 : Int) (fApprove (waitC l threshold wait asked k) (l[k]!))).2)] ∧ Enc.circle.rd wT (B1_ ++ O) xT0 ((gAct (waitC l threshold wait asked k) (0 : Int) (fApprove (waitC l threshold wait asked k) (l[k]!))).1)) (F1 80) w1 := hd_80
        obtain ⟨F2, rfl⟩ := lit_of (F := F1) [(80, Value.tuple #[Value.agg cs5682.toArray, vI ((gAct (waitC l threshold wait asked k) (0 : Int) (fApprove (waitC l threshold wait asked k) (l[k]!))).2)])] ⟨e5684, trivial⟩
        exact sp_plain rfl ((o_move (Value.tuple #[Value.agg cs5682.toArray, vI ((gAct (waitC l threshold wait asked k) (0 : Int) (fApprove (waitC l threshold wait asked k) (l[k]!))).2)]) rfl (⟨(Keep.refl _ _), ⟨cs5682, rfl, Enc.sub Enc.circle (x := (gAct (waitC l threshold wait asked k) (0 : Int) (fApprove (waitC l threshold wait asked k) (l[k]!))).1) hs5683 (fun x hx => .inl (hsb_ x hx))⟩, fun u eu b eb => by have e_ := hb_ u eu b eb; subst e_; exact ⟨cs5682, rfl, hs5683⟩⟩)))
       ·intro F1 w1 k1 hf hd vo hvo hvr
        have k0 := (Keep.drew [] w5655).trans k1
        obtain ⟨B1_, m1, s1, hs_, hb_, hd_73⟩ : ∃ B1_ : List Nat, Mv (b5647 :: Bl0) w5655 B1_ w1 ∧ St w O w1 B1_ ∧ (∀ x ∈ (b5647 :: Bl0), x ∈ B1_) ∧ (∀ u, vo = some u → ∀ b, u = .pointer (some ⟨b, 0, none⟩) → B1_ = b :: (b5647 :: Bl0)) ∧ (fun (vT : Value) (wT : World) => ∃ (xT0 : List Value), vT = .tuple #[.agg xT0.toArray, vI ((gAct (waitC l threshold wait asked k) (0 : Int) (fApprove (waitC l threshold wait asked k) (l[k]!))).2)] ∧ Enc.circle.rd wT (B1_ ++ O) xT0 ((gAct (waitC l threshold wait asked k) (0 : Int) (fApprove (waitC l threshold wait asked k) (l[k]!))).1)) (F1 73) w1 := by
         cases vo with
         | none => exact ⟨_, Mv.of_keep k0, s5656.call k0, fun _ h => h, fun _ e => (by cases e), hd 7 73 (by kernel_rfl)⟩
         | some u =>
          obtain ⟨b, e, lo, hbx⟩ : (fun (vT : Value) (wT : World) => ∃ bT : Nat, vT = .pointer (some ⟨bT, 0, none⟩) ∧ w5655.heap.size ≤ bT ∧ Box wT bT 25 [vI (0 : Int), vI (0 : Int), vI (0 : Int), Value.slice none 0 0, Value.slice none 0 0]) u w1 := hvo u rfl
          exact ⟨b :: (b5647 :: Bl0), Mv.adopt k0 lo, (s5656.call k0).adopt (Nat.le_trans s5656.keep.size lo) hbx.lt, fun _ h => List.mem_cons_of_mem _ h, fun u' e' b' e'' => (by cases e'; rw [e] at e''; cases e''; rfl), hvr u rfl 7 73 (by decide) (by kernel_rfl) b e⟩
        have hsb_ : ∀ x ∈ (b5647 :: Bl0) ++ O, x ∈ B1_ ++ O := fun x hx => List.mem_append.2 ((List.mem_append.1 hx).imp (hs_ x) id)
        obtain ⟨cs5685, e5687, hs5686⟩ : (fun (vT : Value) (wT : World) => ∃ (xT0 : List Value), vT = .tuple #[.agg xT0.toArray, vI ((gAct (waitC l threshold wait asked k) (0 : Int) (fApprove (waitC l threshold wait asked k) (l[k]!))).2)] ∧ Enc.circle.rd wT (B1_ ++ O) xT0 ((gAct (waitC l threshold wait asked k) (0 : Int) (fApprove (waitC l threshold wait asked k) (l[k]!))).1)) (F1 73) w1 := hd_73
        obtain ⟨F2, rfl⟩ := lit_of (F := F1) [(73, Value.tuple #[Value.agg cs5685.toArray, vI ((gAct (waitC l threshold wait asked k) (0 : Int) (fApprove (waitC l threshold wait asked k) (l[k]!))).2)])] ⟨e5687, trivial⟩
        exact sp_plain rfl ((o_extract (Value.agg cs5685.toArray) rfl rfl (⟨(Keep.refl _ _), ⟨cs5685, rfl, Enc.sub Enc.circle (x := (gAct (waitC l threshold wait asked k) (0 : Int) (fApprove (waitC l threshold wait asked k) (l[k]!))).1) hs5686 (fun x hx => .inl (hsb_ x hx))⟩, fun u eu b eb => by have e_ := hb_ u eu b eb; subst e_; exact ⟨cs5685, rfl, hs5686⟩⟩)))
       ·intro F1 w1 k1 hf hd vo hvo hvr
        have k0 := (Keep.drew [] w5655).trans k1
        obtain ⟨B1_, m1, s1, hs_, hb_, hd_73⟩ : ∃ B1_ : List Nat, Mv (b5647 :: Bl0) w5655 B1_ w1 ∧ St w O w1 B1_ ∧ (∀ x ∈ (b5647 :: Bl0), x ∈ B1_) ∧ (∀ u, vo = some u → ∀ b, u = .pointer (some ⟨b, 0, none⟩) → B1_ = b :: (b5647 :: Bl0)) ∧ (fun (vT : Value) (wT : World) => ∃ (xT0 : List Value), vT = .tuple #[.agg xT0.toArray, vI ((gAct (waitC l threshold wait asked k) (0 : Int) (fApprove (waitC l threshold wait asked k) (l[k]!))).2)] ∧ Enc.circle.rd wT (B1_ ++ O) xT0 ((gAct (waitC l threshold wait asked k) (0 : Int) (fApprove (waitC l threshold wait asked k) (l[k]!))).1)) (F1 73) w1 := by
         cases vo with
         | none => exact ⟨_, Mv.of_keep k0, s5656.call k0, fun _ h => h, fun _ e => (by cases e), hd 7 73 (by kernel_rfl)⟩
         | some u =>
          obtain ⟨b, e, lo, hbx⟩ : (fun (vT : Value) (wT : World) => ∃ bT : Nat, vT = .pointer (some ⟨bT, 0, none⟩) ∧ w5655.heap.size ≤ bT ∧ Box wT bT 25 [vI (0 : Int), vI (0 : Int), vI (0 : Int), Value.slice none 0 0, Value.slice none 0 0]) u w1 := hvo u rfl
          exact ⟨b :: (b5647 :: Bl0), Mv.adopt k0 lo, (s5656.call k0).adopt (Nat.le_trans s5656.keep.size lo) hbx.lt, fun _ h => List.mem_cons_of_mem _ h, fun u' e' b' e'' => (by cases e'; rw [e] at e''; cases e''; rfl), hvr u rfl 7 73 (by decide) (by kernel_rfl) b e⟩
        have hsb_ : ∀ x ∈ (b5647 :: Bl0) ++ O, x ∈ B1_ ++ O := fun x hx => List.mem_append.2 ((List.mem_append.1 hx).imp (hs_ x) id)
        obtain ⟨cs5688, e5690, hs5689⟩ : (fun (vT : Value) (wT : World) => ∃ (xT0 : List Value), vT = .tuple #[.agg xT0.toArray, vI ((gAct (waitC l threshold wait asked k) (0 : Int) (fApprove (waitC l threshold wait asked k) (l[k]!))).2)] ∧ Enc.circle.rd wT (B1_ ++ O) xT0 ((gAct (waitC l threshold wait asked k) (0 : Int) (fApprove (waitC l threshold wait asked k) (l[k]!))).1)) (F1 73) w1 := hd_73
        obtain ⟨F2, rfl⟩ := lit_of (F := F1) [(73, Value.tuple #[Value.agg cs5688.toArray, vI ((gAct (waitC l threshold wait asked k) (0 : Int) (fApprove (waitC l threshold wait asked k) (l[k]!))).2)])] ⟨e5690, trivial⟩
        exact sp_plain rfl ((o_extract (vI ((gAct (waitC l threshold wait asked k) (0 : Int) (fApprove (waitC l threshold wait asked k) (l[k]!))).2)) rfl rfl (⟨(Keep.refl _ _), rfl, fun _ _ => trivial⟩)))
       ·refine ⟨rfl, ?_⟩
        intro F1 w1 k1 hf hd
        have k0 := (Keep.drew [] w5655).trans k1
        have s1 := s5656.call k0
        obtain ⟨F2, rfl⟩ := lit_of (F := F1) [] trivial
        refine id ((o_alloc [vI (0 : Int), vI (0 : Int), vI (0 : Int), Value.slice none 0 0, Value.slice none 0 0] z_25 rfl s1 fun b5691 w5692 e5697 s5693 m5694 k5695 bx5696 => (?_)))
        have lo5698 : w5655.heap.size ≤ b5691 := by have := k0.size; omega
        exact ⟨k5695, ⟨_, rfl, lo5698, bx5696⟩, ⟨fun _ _ => trivial, fun _ _ => trivial, fun _ _ => trivial, fun _ _ => trivial, fun _ _ => trivial, fun _ _ => trivial, fun x hx b e => by cases e; obtain ⟨y0, e, h0⟩ := hx; exact ⟨y0, e, Enc.mv _ h0 m5694⟩, fun x hx b e => by cases e; obtain ⟨y0, e, h0⟩ := hx; exact ⟨y0, e, Enc.mv _ h0 m5694⟩, fun x hx b e => by cases e; obtain ⟨a, e, h⟩ := hx; exact ⟨a, e, Enc.mv _ h m5694⟩, fun _ _ => trivial, fun _ _ => trivial, trivial⟩⟩
       ·intro F5700 w5701 k5699 hT5702 hR5706 hF5703
        obtain ⟨v5708, e5710, hl5709⟩ : ∃ v, F5700 76 = v ∧ RdL Enc.int w5655 ((b5647 :: Bl0) ++ O) v (l) := ⟨_, rfl, hT5702 2 76 (by kernel_rfl) (by decide)⟩
        have := hl5709.len_le
        obtain ⟨a5711, e5713, hp5712⟩ : ∃ a, F5700 78 = .pointer (some a) ∧ PT Enc.int w5655 ((b5647 :: Bl0) ++ O) (.pointer (some a)) (l[k]!) := hT5702 4 78 (by kernel_rfl) (by decide)
        obtain ⟨b5714, e5715, lo5716, bx5717⟩ : (fun (vT : Value) (wT : World) => ∃ bT : Nat, vT = .pointer (some ⟨bT, 0, none⟩) ∧ w5655.heap.size ≤ bT ∧ Box wT bT 25 [vI (0 : Int), vI (0 : Int), vI (0 : Int), Value.slice none 0 0, Value.slice none 0 0]) (F5700 18) w5701 := hT5702 10 18 (by kernel_rfl) (by decide)
        have ne5718 : b5598 ≠ b5714 := by have := hbs_b5598.lt; omega
        have ne5719 : b5647 ≠ b5714 := by have := bx5659.lt; omega
        have s5704 := (s5656.call k5699).adopt (Nat.le_trans s5656.keep.size lo5716) bx5717.lt
        have m5705 : Mv (b5647 :: Bl0) w5655 (b5714 :: (b5647 :: Bl0)) w5701 := Mv.adopt k5699 lo5716
        obtain ⟨cs5720, e5722, hs5721⟩ : (fun (vT : Value) (wT : World) => ∃ (xT0 : List Value), vT = .tuple #[.agg xT0.toArray, vI ((gAct (waitC l threshold wait asked k) (0 : Int) (fApprove (waitC l threshold wait asked k) (l[k]!))).2)] ∧ Enc.circle.rd wT ((b5714 :: (b5647 :: Bl0)) ++ O) xT0 ((gAct (waitC l threshold wait asked k) (0 : Int) (fApprove (waitC l threshold wait asked k) (l[k]!))).1)) (F5700 73) w5701 := hR5706 18 7 73 (by kernel_rfl) (by kernel_rfl) (by decide) (by decide) b5714 e5715
        obtain ⟨cs5723, e5725, hs5724⟩ : (fun (vT : Value) (wT : World) => ∃ (xT0 : List Value), vT = .tuple #[.agg xT0.toArray, vI ((gAct (waitC l threshold wait asked k) (0 : Int) (fApprove (waitC l threshold wait asked k) (l[k]!))).2)] ∧ Enc.circle.rd wT ((b5714 :: (b5647 :: Bl0)) ++ O) xT0 ((gAct (waitC l threshold wait asked k) (0 : Int) (fApprove (waitC l threshold wait asked k) (l[k]!))).1)) (F5700 80) w5701 := hR5706 18 6 80 (by kernel_rfl) (by kernel_rfl) (by decide) (by decide) b5714 e5715
        obtain ⟨cs5726, e5728, hs5727⟩ : ∃ cs : List Value, F5700 81 = .agg cs.toArray ∧ Enc.circle.rd w5701 ((b5714 :: (b5647 :: Bl0)) ++ O) cs ((gAct (waitC l threshold wait asked k) (0 : Int) (fApprove (waitC l threshold wait asked k) (l[k]!))).1) := hR5706 18 8 81 (by kernel_rfl) (by kernel_rfl) (by decide) (by decide) b5714 e5715
        have h_l := h_l.mv m5705
        have hbs_b5598 := hbs_b5598.keep k5699 (by simp)
        obtain ⟨F2, rfl⟩ := lit_of (F := F5700) [(0, l_v), (1, vI threshold), (2, vI wait), (3, vI asked), (4, vI day), (11, Value.pointer (some ⟨b5598, 0, none⟩)), (13, vI (0 : Int)), (15, vI ((k : Nat) : Int)), (117, undef), (18, Value.pointer (some ⟨b5714, 0, none⟩)), (73, Value.tuple #[Value.agg cs5720.toArray, vI ((gAct (waitC l threshold wait asked k) (0 : Int) (fApprove (waitC l threshold wait asked k) (l[k]!))).2)]), (76, v5708), (78, Value.pointer (some a5711)), (80, Value.tuple #[Value.agg cs5723.toArray, vI ((gAct (waitC l threshold wait asked k) (0 : Int) (fApprove (waitC l threshold wait asked k) (l[k]!))).2)]), (81, Value.agg cs5726.toArray), (82, vI ((gAct (waitC l threshold wait asked k) (0 : Int) (fApprove (waitC l threshold wait asked k) (l[k]!))).2))] ⟨hF5703 0 (by kernel_rfl), hF5703 1 (by kernel_rfl), hF5703 2 (by kernel_rfl), hF5703 3 (by kernel_rfl), hF5703 4 (by kernel_rfl), hF5703 11 (by kernel_rfl), hF5703 13 (by kernel_rfl), hF5703 15 (by kernel_rfl), hF5703 117 (by kernel_rfl), e5715, e5722, e5710, e5713, e5725, e5728, hT5702 9 82 (by kernel_rfl) (by decide), trivial⟩
        clear hT5702 hF5703
        obtain ⟨d5734, d5736, rfl, hd5735, hd5737⟩ := hs5727
        have := hd5735.len_le
        have := hd5737.len_le
        refine wl_n (o_store (vs := [vI (((gAct (waitC l threshold wait asked k) (0 : Int) (fApprove (waitC l threshold wait asked k) (l[k]!))).1).epoch), vI (((gAct (waitC l threshold wait asked k) (0 : Int) (fApprove (waitC l threshold wait asked k) (l[k]!))).1).threshold), vI (((gAct (waitC l threshold wait asked k) (0 : Int) (fApprove (waitC l threshold wait asked k) (l[k]!))).1).wait), d5734, d5736]) (.agg #[vI (((gAct (waitC l threshold wait asked k) (0 : Int) (fApprove (waitC l threshold wait asked k) (l[k]!))).1).epoch), vI (((gAct (waitC l threshold wait asked k) (0 : Int) (fApprove (waitC l threshold wait asked k) (l[k]!))).1).threshold), vI (((gAct (waitC l threshold wait asked k) (0 : Int) (fApprove (waitC l threshold wait asked k) (l[k]!))).1).wait), d5734, d5736]) rfl rfl rfl s_25 (fun u hu => by simp only [List.mem_cons, List.not_mem_nil, or_false] at hu; rcases hu with rfl | rfl | rfl | rfl | rfl <;> first | rfl | exact hd5735.oneCell | exact hd5737.oneCell) (by repeat (first | assumption | constructor)) bx5717 (of_decide_eq_true rfl) s5704 fun w5729 s5730 m5731 k5732 bx5733 => (?_))
        have h_l := h_l.mv m5731
        have hd5735 := hd5735.mv m5731
        have hd5737 := hd5737.mv m5731
        have hbs_b5598 := hbs_b5598.keep k5732 (nin1 ne5718)
        refine wl_s (o_assign (vI ((gAct (waitC l threshold wait asked k) (0 : Int) (fApprove (waitC l threshold wait asked k) (l[k]!))).2)) rfl (wl_nil (thenQ_n (?_))))
        refine cw_seq (?_)
        refine cw_seq (?_)
        refine cw_region (by kernel_rfl) (wl_s (o_move (vI ((gAct (waitC l threshold wait asked k) (0 : Int) (fApprove (waitC l threshold wait asked k) (l[k]!))).2)) rfl (wl_s (o_neq .i64 ((gAct (waitC l threshold wait asked k) (0 : Int) (fApprove (waitC l threshold wait asked k) (l[k]!))).2) (0 : Int) rfl rfl (wl_nil (thenQ_n (?_)))))))
        have hb5738 : (((gAct (waitC l threshold wait asked k) (0 : Int) (fApprove (waitC l threshold wait asked k) (l[k]!))).2) != (0 : Int)) = false := (by rw [wait_app hc ha (by omega)]; rfl)
        rw [hb5738]
        refine cw_cond false rfl rfl (fun h => by cases h) (fun _ => ?_)
        refine cw_skip (thenQ_n (?_))
        refine cw_region (by kernel_rfl) (wl_s (o_loadBxA (vs := [vI (((gAct (waitC l threshold wait asked k) (0 : Int) (fApprove (waitC l threshold wait asked k) (l[k]!))).1).epoch), vI (((gAct (waitC l threshold wait asked k) (0 : Int) (fApprove (waitC l threshold wait asked k) (l[k]!))).1).threshold), vI (((gAct (waitC l threshold wait asked k) (0 : Int) (fApprove (waitC l threshold wait asked k) (l[k]!))).1).wait), d5734, d5736]) Try.underlying25 rfl s_25 rfl bx5733 rfl (wl_n (o_store (vs := [vI (((gAct (waitC l threshold wait asked k) (0 : Int) (fApprove (waitC l threshold wait asked k) (l[k]!))).1).epoch), vI (((gAct (waitC l threshold wait asked k) (0 : Int) (fApprove (waitC l threshold wait asked k) (l[k]!))).1).threshold), vI (((gAct (waitC l threshold wait asked k) (0 : Int) (fApprove (waitC l threshold wait asked k) (l[k]!))).1).wait), d5734, d5736]) (.agg #[vI (((gAct (waitC l threshold wait asked k) (0 : Int) (fApprove (waitC l threshold wait asked k) (l[k]!))).1).epoch), vI (((gAct (waitC l threshold wait asked k) (0 : Int) (fApprove (waitC l threshold wait asked k) (l[k]!))).1).threshold), vI (((gAct (waitC l threshold wait asked k) (0 : Int) (fApprove (waitC l threshold wait asked k) (l[k]!))).1).wait), d5734, d5736]) rfl rfl rfl s_25 (fun u hu => by simp only [List.mem_cons, List.not_mem_nil, or_false] at hu; rcases hu with rfl | rfl | rfl | rfl | rfl <;> first | rfl | exact hd5735.oneCell | exact hd5737.oneCell) (by repeat (first | assumption | constructor)) hbs_b5598 (of_decide_eq_true rfl) s5730 fun w5739 s5740 m5741 k5742 bx5743 => (?_)))))
        have h_l := h_l.mv m5741
        have hd5735 := hd5735.mv m5741
        have hd5737 := hd5737.mv m5741
        refine wl_nil (blockQ_n (thenQ_n (?_)))
        refine cw_region (by kernel_rfl) (wl_s (o_move (vI ((k : Nat) : Int)) rfl (wl_s (o_add .i64 ((k : Nat) : Int) (1 : Int) (((k + 1 : Nat) : Int)) rfl rfl (w64 (by omega) (by omega)) (wl_s (o_assign (vI ((k + 1 : Nat) : Int)) rfl (wl_nil (thenQ_n (?_)))))))))
        exact ⟨_, (by omega), (k + 1), d5734, d5736, (b5714 :: (b5647 :: Bl0)), (by first | omega | (simp; done) | (simp; omega) | simp_all), rfl, ⟨_, upds_self _ ⟨rfl, rfl, rfl, rfl, rfl, rfl, rfl, (by first | rfl | exact congrArg (Value.int _) (by first | omega | (simp))), rfl, trivial⟩⟩, s5740, (by rw [show (waitC l threshold wait asked (k + 1)).guardians = ((gAct (waitC l threshold wait asked k) (0 : Int) (fApprove (waitC l threshold wait asked k) (l[k]!))).1).guardians from by rw [wait_app hc ha (by omega)]]; exact hd5735), (by rw [show (waitC l threshold wait asked (k + 1)).recs = ((gAct (waitC l threshold wait asked k) (0 : Int) (fApprove (waitC l threshold wait asked k) (l[k]!))).1).recs from by rw [wait_app hc ha (by omega)]]; exact hd5737), h_l, (by rw [show ([vI ((waitC l threshold wait asked (k + 1)).epoch), vI ((waitC l threshold wait asked (k + 1)).threshold), vI ((waitC l threshold wait asked (k + 1)).wait), d5734, d5736] : List Value) = [vI (((gAct (waitC l threshold wait asked k) (0 : Int) (fApprove (waitC l threshold wait asked k) (l[k]!))).1).epoch), vI (((gAct (waitC l threshold wait asked k) (0 : Int) (fApprove (waitC l threshold wait asked k) (l[k]!))).1).threshold), vI (((gAct (waitC l threshold wait asked k) (0 : Int) (fApprove (waitC l threshold wait asked k) (l[k]!))).1).wait), d5734, d5736] from by rw [wait_app hc ha (by omega)]]; exact bx5743), (by first | assumption | (repeat (first | exact List.mem_cons_self | assumption | apply List.mem_cons_of_mem)) | (apply_assumption; assumption))⟩
       ·intro cx_ hcx_
        match cx_, hcx_ with
        | 0, _ =>
         intro F5745 w5746 k5744 hT5747 hR5751 hF5748
         obtain ⟨v5753, e5755, hl5754⟩ : ∃ v, F5745 76 = v ∧ RdL Enc.int w5655 ((b5647 :: Bl0) ++ O) v (l) := ⟨_, rfl, hT5747 2 76 (by kernel_rfl) (by decide) (by decide)⟩
         have := hl5754.len_le
         obtain ⟨a5756, e5758, hp5757⟩ : ∃ a, F5745 78 = .pointer (some a) ∧ PT Enc.int w5655 ((b5647 :: Bl0) ++ O) (.pointer (some a)) (l[k]!) := hT5747 4 78 (by kernel_rfl) (by decide) (by decide)
         obtain ⟨b5759, e5760, lo5761, bx5762⟩ : (fun (vT : Value) (wT : World) => ∃ bT : Nat, vT = .pointer (some ⟨bT, 0, none⟩) ∧ w5655.heap.size ≤ bT ∧ Box wT bT 25 [vI (0 : Int), vI (0 : Int), vI (0 : Int), Value.slice none 0 0, Value.slice none 0 0]) (F5745 18) w5746 := hT5747 10 18 (by kernel_rfl) (by decide) (by decide)
         have ne5763 : b5598 ≠ b5759 := by have := hbs_b5598.lt; omega
         have ne5764 : b5647 ≠ b5759 := by have := bx5659.lt; omega
         have s5749 := (s5656.call k5744).adopt (Nat.le_trans s5656.keep.size lo5761) bx5762.lt
         have m5750 : Mv (b5647 :: Bl0) w5655 (b5759 :: (b5647 :: Bl0)) w5746 := Mv.adopt k5744 lo5761
         obtain ⟨cs5765, e5767, hs5766⟩ : (fun (vT : Value) (wT : World) => ∃ (xT0 : List Value), vT = .tuple #[.agg xT0.toArray, vI ((gAct (waitC l threshold wait asked k) (0 : Int) (fApprove (waitC l threshold wait asked k) (l[k]!))).2)] ∧ Enc.circle.rd wT ((b5759 :: (b5647 :: Bl0)) ++ O) xT0 ((gAct (waitC l threshold wait asked k) (0 : Int) (fApprove (waitC l threshold wait asked k) (l[k]!))).1)) (F5745 73) w5746 := hR5751 18 7 73 (by kernel_rfl) (by kernel_rfl) (by decide) (by decide) (by decide) b5759 e5760
         obtain ⟨cs5768, e5770, hs5769⟩ : (fun (vT : Value) (wT : World) => ∃ (xT0 : List Value), vT = .tuple #[.agg xT0.toArray, vI ((gAct (waitC l threshold wait asked k) (0 : Int) (fApprove (waitC l threshold wait asked k) (l[k]!))).2)] ∧ Enc.circle.rd wT ((b5759 :: (b5647 :: Bl0)) ++ O) xT0 ((gAct (waitC l threshold wait asked k) (0 : Int) (fApprove (waitC l threshold wait asked k) (l[k]!))).1)) (F5745 80) w5746 := hR5751 18 6 80 (by kernel_rfl) (by kernel_rfl) (by decide) (by decide) (by decide) b5759 e5760
         obtain ⟨cs5771, e5773, hs5772⟩ : ∃ cs : List Value, F5745 81 = .agg cs.toArray ∧ Enc.circle.rd w5746 ((b5759 :: (b5647 :: Bl0)) ++ O) cs ((gAct (waitC l threshold wait asked k) (0 : Int) (fApprove (waitC l threshold wait asked k) (l[k]!))).1) := hR5751 18 8 81 (by kernel_rfl) (by kernel_rfl) (by decide) (by decide) (by decide) b5759 e5760
         have h_l := h_l.mv m5750
         have hbs_b5598 := hbs_b5598.keep k5744 (by simp)
         obtain ⟨F2, rfl⟩ := lit_of (F := F5745) [(0, l_v), (1, vI threshold), (2, vI wait), (3, vI asked), (4, vI day), (11, Value.pointer (some ⟨b5598, 0, none⟩)), (13, vI (0 : Int)), (15, vI ((k : Nat) : Int)), (117, undef), (18, Value.pointer (some ⟨b5759, 0, none⟩)), (73, Value.tuple #[Value.agg cs5765.toArray, vI ((gAct (waitC l threshold wait asked k) (0 : Int) (fApprove (waitC l threshold wait asked k) (l[k]!))).2)]), (76, v5753), (78, Value.pointer (some a5756)), (80, Value.tuple #[Value.agg cs5768.toArray, vI ((gAct (waitC l threshold wait asked k) (0 : Int) (fApprove (waitC l threshold wait asked k) (l[k]!))).2)]), (81, Value.agg cs5771.toArray)] ⟨hF5748 0 (by kernel_rfl), hF5748 1 (by kernel_rfl), hF5748 2 (by kernel_rfl), hF5748 3 (by kernel_rfl), hF5748 4 (by kernel_rfl), hF5748 11 (by kernel_rfl), hF5748 13 (by kernel_rfl), hF5748 15 (by kernel_rfl), hF5748 117 (by kernel_rfl), e5760, e5767, e5755, e5758, e5770, e5773, trivial⟩
         clear hT5747 hF5748
         obtain ⟨d5779, d5781, rfl, hd5780, hd5782⟩ := hs5772
         have := hd5780.len_le
         have := hd5782.len_le
         refine wl_n (o_store (vs := [vI (((gAct (waitC l threshold wait asked k) (0 : Int) (fApprove (waitC l threshold wait asked k) (l[k]!))).1).epoch), vI (((gAct (waitC l threshold wait asked k) (0 : Int) (fApprove (waitC l threshold wait asked k) (l[k]!))).1).threshold), vI (((gAct (waitC l threshold wait asked k) (0 : Int) (fApprove (waitC l threshold wait asked k) (l[k]!))).1).wait), d5779, d5781]) (.agg #[vI (((gAct (waitC l threshold wait asked k) (0 : Int) (fApprove (waitC l threshold wait asked k) (l[k]!))).1).epoch), vI (((gAct (waitC l threshold wait asked k) (0 : Int) (fApprove (waitC l threshold wait asked k) (l[k]!))).1).threshold), vI (((gAct (waitC l threshold wait asked k) (0 : Int) (fApprove (waitC l threshold wait asked k) (l[k]!))).1).wait), d5779, d5781]) rfl rfl rfl s_25 (fun u hu => by simp only [List.mem_cons, List.not_mem_nil, or_false] at hu; rcases hu with rfl | rfl | rfl | rfl | rfl <;> first | rfl | exact hd5780.oneCell | exact hd5782.oneCell) (by repeat (first | assumption | constructor)) bx5762 (of_decide_eq_true rfl) s5749 fun w5774 s5775 m5776 k5777 bx5778 => (?_))
         have h_l := h_l.mv m5776
         have hd5780 := hd5780.mv m5776
         have hd5782 := hd5782.mv m5776
         have hbs_b5598 := hbs_b5598.keep k5777 (nin1 ne5763)
         refine wl_s (o_extract (vI ((gAct (waitC l threshold wait asked k) (0 : Int) (fApprove (waitC l threshold wait asked k) (l[k]!))).2)) rfl rfl (wl_s (o_assign (vI ((gAct (waitC l threshold wait asked k) (0 : Int) (fApprove (waitC l threshold wait asked k) (l[k]!))).2)) rfl (wl_nil (thenQ_n (?_))))))
         refine cw_seq (?_)
         refine cw_seq (?_)
         refine cw_region (by kernel_rfl) (wl_s (o_move (vI ((gAct (waitC l threshold wait asked k) (0 : Int) (fApprove (waitC l threshold wait asked k) (l[k]!))).2)) rfl (wl_s (o_neq .i64 ((gAct (waitC l threshold wait asked k) (0 : Int) (fApprove (waitC l threshold wait asked k) (l[k]!))).2) (0 : Int) rfl rfl (wl_nil (thenQ_n (?_)))))))
         have hb5783 : (((gAct (waitC l threshold wait asked k) (0 : Int) (fApprove (waitC l threshold wait asked k) (l[k]!))).2) != (0 : Int)) = false := (by rw [wait_app hc ha (by omega)]; rfl)
         rw [hb5783]
         refine cw_cond false rfl rfl (fun h => by cases h) (fun _ => ?_)
         refine cw_skip (thenQ_n (?_))
         refine cw_region (by kernel_rfl) (wl_s (o_loadBxA (vs := [vI (((gAct (waitC l threshold wait asked k) (0 : Int) (fApprove (waitC l threshold wait asked k) (l[k]!))).1).epoch), vI (((gAct (waitC l threshold wait asked k) (0 : Int) (fApprove (waitC l threshold wait asked k) (l[k]!))).1).threshold), vI (((gAct (waitC l threshold wait asked k) (0 : Int) (fApprove (waitC l threshold wait asked k) (l[k]!))).1).wait), d5779, d5781]) Try.underlying25 rfl s_25 rfl bx5778 rfl (wl_n (o_store (vs := [vI (((gAct (waitC l threshold wait asked k) (0 : Int) (fApprove (waitC l threshold wait asked k) (l[k]!))).1).epoch), vI (((gAct (waitC l threshold wait asked k) (0 : Int) (fApprove (waitC l threshold wait asked k) (l[k]!))).1).threshold), vI (((gAct (waitC l threshold wait asked k) (0 : Int) (fApprove (waitC l threshold wait asked k) (l[k]!))).1).wait), d5779, d5781]) (.agg #[vI (((gAct (waitC l threshold wait asked k) (0 : Int) (fApprove (waitC l threshold wait asked k) (l[k]!))).1).epoch), vI (((gAct (waitC l threshold wait asked k) (0 : Int) (fApprove (waitC l threshold wait asked k) (l[k]!))).1).threshold), vI (((gAct (waitC l threshold wait asked k) (0 : Int) (fApprove (waitC l threshold wait asked k) (l[k]!))).1).wait), d5779, d5781]) rfl rfl rfl s_25 (fun u hu => by simp only [List.mem_cons, List.not_mem_nil, or_false] at hu; rcases hu with rfl | rfl | rfl | rfl | rfl <;> first | rfl | exact hd5780.oneCell | exact hd5782.oneCell) (by repeat (first | assumption | constructor)) hbs_b5598 (of_decide_eq_true rfl) s5775 fun w5784 s5785 m5786 k5787 bx5788 => (?_)))))
         have h_l := h_l.mv m5786
         have hd5780 := hd5780.mv m5786
         have hd5782 := hd5782.mv m5786
         refine wl_nil (blockQ_n (thenQ_n (?_)))
         refine cw_region (by kernel_rfl) (wl_s (o_move (vI ((k : Nat) : Int)) rfl (wl_s (o_add .i64 ((k : Nat) : Int) (1 : Int) (((k + 1 : Nat) : Int)) rfl rfl (w64 (by omega) (by omega)) (wl_s (o_assign (vI ((k + 1 : Nat) : Int)) rfl (wl_nil (thenQ_n (?_)))))))))
         exact ⟨_, (by omega), (k + 1), d5779, d5781, (b5759 :: (b5647 :: Bl0)), (by first | omega | (simp; done) | (simp; omega) | simp_all), rfl, ⟨_, upds_self _ ⟨rfl, rfl, rfl, rfl, rfl, rfl, rfl, (by first | rfl | exact congrArg (Value.int _) (by first | omega | (simp))), rfl, trivial⟩⟩, s5785, (by rw [show (waitC l threshold wait asked (k + 1)).guardians = ((gAct (waitC l threshold wait asked k) (0 : Int) (fApprove (waitC l threshold wait asked k) (l[k]!))).1).guardians from by rw [wait_app hc ha (by omega)]]; exact hd5780), (by rw [show (waitC l threshold wait asked (k + 1)).recs = ((gAct (waitC l threshold wait asked k) (0 : Int) (fApprove (waitC l threshold wait asked k) (l[k]!))).1).recs from by rw [wait_app hc ha (by omega)]]; exact hd5782), h_l, (by rw [show ([vI ((waitC l threshold wait asked (k + 1)).epoch), vI ((waitC l threshold wait asked (k + 1)).threshold), vI ((waitC l threshold wait asked (k + 1)).wait), d5779, d5781] : List Value) = [vI (((gAct (waitC l threshold wait asked k) (0 : Int) (fApprove (waitC l threshold wait asked k) (l[k]!))).1).epoch), vI (((gAct (waitC l threshold wait asked k) (0 : Int) (fApprove (waitC l threshold wait asked k) (l[k]!))).1).threshold), vI (((gAct (waitC l threshold wait asked k) (0 : Int) (fApprove (waitC l threshold wait asked k) (l[k]!))).1).wait), d5779, d5781] from by rw [wait_app hc ha (by omega)]]; exact bx5788), (by first | assumption | (repeat (first | exact List.mem_cons_self | assumption | apply List.mem_cons_of_mem)) | (apply_assumption; assumption))⟩
      ·have hp5789 : (gAct (waitC l threshold wait asked k) (0 : Int) (fFinish (waitC l threshold wait asked k) day)).2 ≠ (450 : Int) := by first | simpa using hb5664 | (have e := hb5664; simp at e; omega)
       refine wl_t rfl (o_move (vI day) rfl (wl_t rfl (o_geq .i64 day (0 : Int) rfl rfl (wl_t rfl (o_move (Value.bool (decide ((0 : Int) ≤ day))) rfl (?_))))))
       cases hb5790 : (decide ((0 : Int) ≤ day))
       ·have hp5791 : day < (0 : Int) := by first | simpa using hb5790 | (have e := hb5790; simp at e; omega)
        refine wl_k rfl (wl_k rfl (wl_t rfl (o_pickF (Value.bool false) rfl rfl (wl_s (o_pickT (Value.bool false) rfl rfl (wl_nil (thenQ_n (?_))))))))
        refine cw_cond false rfl rfl (fun h => by cases h) (fun _ => ?_)
        refine cw_skip (thenQ_n (?_))
        refine cw_seq (?_)
        refine cw_drawRL 11 10 [9] _ _ _ [isV (Value.agg #[vI ((waitC l threshold wait asked k).epoch), vI ((waitC l threshold wait asked k).threshold), vI ((waitC l threshold wait asked k).wait), vr0_b5598_3, vr0_b5598_4]), isV (vI (0 : Int)), fun (vT : Value) (_ : World) => RdL Enc.int w5655 ((b5647 :: Bl0) ++ O) vT (l), isV (vI ((k : Nat) : Int)), fun (vT : Value) (_ : World) => ∃ aT, vT = .pointer (some aT) ∧ PT Enc.int w5655 ((b5647 :: Bl0) ++ O) (.pointer (some aT)) (l[k]!), isV (vI (l[k]!)), fun (vT : Value) (wT : World) => ∃ (xT0 : List Value), vT = .tuple #[.agg xT0.toArray, vI ((gAct (waitC l threshold wait asked k) (0 : Int) (fApprove (waitC l threshold wait asked k) (l[k]!))).2)] ∧ Enc.circle.rd wT ((b5647 :: Bl0) ++ O) xT0 ((gAct (waitC l threshold wait asked k) (0 : Int) (fApprove (waitC l threshold wait asked k) (l[k]!))).1), fun (vT : Value) (wT : World) => ∃ (xT0 : List Value), vT = .tuple #[.agg xT0.toArray, vI ((gAct (waitC l threshold wait asked k) (0 : Int) (fApprove (waitC l threshold wait asked k) (l[k]!))).2)] ∧ Enc.circle.rd wT ((b5647 :: Bl0) ++ O) xT0 ((gAct (waitC l threshold wait asked k) (0 : Int) (fApprove (waitC l threshold wait asked k) (l[k]!))).1), fun (vT : Value) (wT : World) => ∃ csT : List Value, vT = .agg csT.toArray ∧ Enc.circle.rd wT ((b5647 :: Bl0) ++ O) csT ((gAct (waitC l threshold wait asked k) (0 : Int) (fApprove (waitC l threshold wait asked k) (l[k]!))).1), isV (vI ((gAct (waitC l threshold wait asked k) (0 : Int) (fApprove (waitC l threshold wait asked k) (l[k]!))).2)), fun (vT : Value) (wT : World) => ∃ bT : Nat, vT = .pointer (some ⟨bT, 0, none⟩) ∧ w5655.heap.size ≤ bT ∧ Box wT bT 25 [vI (0 : Int), vI (0 : Int), vI (0 : Int), Value.slice none 0 0, Value.slice none 0 0]] [fun _ _ _ => True, fun _ _ _ => True, fun _ _ _ => True, fun _ _ _ => True, fun _ _ _ => True, fun _ _ _ => True, fun (u v : Value) (wT : World) => ∀ bT, u = .pointer (some ⟨bT, 0, none⟩) → (fun (vT : Value) (wT : World) => ∃ (xT0 : List Value), vT = .tuple #[.agg xT0.toArray, vI ((gAct (waitC l threshold wait asked k) (0 : Int) (fApprove (waitC l threshold wait asked k) (l[k]!))).2)] ∧ Enc.circle.rd wT ((bT :: (b5647 :: Bl0)) ++ O) xT0 ((gAct (waitC l threshold wait asked k) (0 : Int) (fApprove (waitC l threshold wait asked k) (l[k]!))).1)) v wT, fun (u v : Value) (wT : World) => ∀ bT, u = .pointer (some ⟨bT, 0, none⟩) → (fun (vT : Value) (wT : World) => ∃ (xT0 : List Value), vT = .tuple #[.agg xT0.toArray, vI ((gAct (waitC l threshold wait asked k) (0 : Int) (fApprove (waitC l threshold wait asked k) (l[k]!))).2)] ∧ Enc.circle.rd wT ((bT :: (b5647 :: Bl0)) ++ O) xT0 ((gAct (waitC l threshold wait asked k) (0 : Int) (fApprove (waitC l threshold wait asked k) (l[k]!))).1)) v wT, fun (u v : Value) (wT : World) => ∀ bT, u = .pointer (some ⟨bT, 0, none⟩) → (fun (vT : Value) (wT : World) => ∃ csT : List Value, vT = .agg csT.toArray ∧ Enc.circle.rd wT ((bT :: (b5647 :: Bl0)) ++ O) csT ((gAct (waitC l threshold wait asked k) (0 : Int) (fApprove (waitC l threshold wait asked k) (l[k]!))).1)) v wT, fun _ _ _ => True, fun _ _ _ => True] (by kernel_rfl) (by kernel_rfl) (by kernel_rfl) (by kernel_rfl) (by decide) rfl rfl rfl ⟨kI, kI, fun _ _ _ h _ => h, kI, fun _ _ _ h _ => h, kI, fun _ _ _ ⟨y0, e, h0⟩ k => ⟨y0, e, Enc.mv _ h0 (Mv.of_keep k)⟩, fun _ _ _ ⟨y0, e, h0⟩ k => ⟨y0, e, Enc.mv _ h0 (Mv.of_keep k)⟩, fun _ _ _ ⟨a, e, h⟩ k => ⟨a, e, Enc.mv _ h (Mv.of_keep k)⟩, kI, fun _ _ _ ⟨b, e, h1, h⟩ k => ⟨b, e, h1, h.keep k (by simp)⟩, trivial⟩ ⟨fun _ _ _ _ _ _ => trivial, fun _ _ _ _ _ _ => trivial, fun _ _ _ _ _ _ => trivial, fun _ _ _ _ _ _ => trivial, fun _ _ _ _ _ _ => trivial, fun _ _ _ _ _ _ => trivial, fun u v w w2 h k b e => by have h2 := h b e; revert k; revert h2; exact (fun _ _ _ ⟨y0, e, h0⟩ k => ⟨y0, e, Enc.mv _ h0 (Mv.of_keep k)⟩) v w w2, fun u v w w2 h k b e => by have h2 := h b e; revert k; revert h2; exact (fun _ _ _ ⟨y0, e, h0⟩ k => ⟨y0, e, Enc.mv _ h0 (Mv.of_keep k)⟩) v w w2, fun u v w w2 h k b e => by have h2 := h b e; revert k; revert h2; exact (fun _ _ _ ⟨a, e, h⟩ k => ⟨a, e, Enc.mv _ h (Mv.of_keep k)⟩) v w w2, fun _ _ _ _ _ _ => trivial, fun _ _ _ _ _ _ => trivial, trivial⟩ ⟨?_, ?_, ?_, ?_, ?_, ?_, ?_, ?_, ?_, ?_, ?_, trivial⟩ ?_ ?_
        ·intro F1 w1 k1 hf hd vo hvo hvr
         have k0 := (Keep.drew [] w5655).trans k1
         have hbs_b5598 := hbs_b5598.keep k0 (by simp)
         obtain ⟨F2, rfl⟩ := lit_of (F := F1) [(11, Value.pointer (some ⟨b5598, 0, none⟩))] ⟨hf 11 (by kernel_rfl), trivial⟩
         exact sp_plain rfl ((o_loadBxA (vs := [vI ((waitC l threshold wait asked k).epoch), vI ((waitC l threshold wait asked k).threshold), vI ((waitC l threshold wait asked k).wait), vr0_b5598_3, vr0_b5598_4]) Try.underlying25 rfl s_25 rfl hbs_b5598 rfl (⟨(Keep.refl _ _), rfl, fun _ _ => trivial⟩)))
        ·intro F1 w1 k1 hf hd vo hvo hvr
         obtain ⟨F2, rfl⟩ := lit_of (F := F1) [(13, vI (0 : Int))] ⟨hf 13 (by kernel_rfl), trivial⟩
         exact sp_plain rfl ((o_move (vI (0 : Int)) rfl (⟨(Keep.refl _ _), rfl, fun _ _ => trivial⟩)))
        ·intro F1 w1 k1 hf hd vo hvo hvr
         obtain ⟨F2, rfl⟩ := lit_of (F := F1) [(0, l_v)] ⟨hf 0 (by kernel_rfl), trivial⟩
         exact sp_plain rfl ((o_move (l_v) rfl (⟨(Keep.refl _ _), h_l, fun _ _ => trivial⟩)))
        ·intro F1 w1 k1 hf hd vo hvo hvr
         obtain ⟨F2, rfl⟩ := lit_of (F := F1) [(15, vI ((k : Nat) : Int))] ⟨hf 15 (by kernel_rfl), trivial⟩
         exact sp_plain rfl ((o_move (vI ((k : Nat) : Int)) rfl (⟨(Keep.refl _ _), rfl, fun _ _ => trivial⟩)))
        ·intro F1 w1 k1 hf hd vo hvo hvr
         obtain ⟨v5792, e5794, hl5793⟩ : ∃ v, F1 76 = v ∧ RdL Enc.int w5655 ((b5647 :: Bl0) ++ O) v (l) := ⟨_, rfl, hd 2 76 (by kernel_rfl)⟩
         have := hl5793.len_le
         obtain ⟨F2, rfl⟩ := lit_of (F := F1) [(76, v5792), (77, vI ((k : Nat) : Int))] ⟨e5794, hd 3 77 (by kernel_rfl), trivial⟩
         exact sp_plain rfl ((o_idxU Try.underlying22 s_3 .i64 ((k : Nat) : Int) k rfl rfl rfl hl5793 (by omega) fun a5795 hp5796 => (⟨(Keep.refl _ _), ⟨a5795, rfl, hp5796⟩, fun _ _ => trivial⟩)))
        ·intro F1 w1 k1 hf hd vo hvo hvr
         have k0 := (Keep.drew [] w5655).trans k1
         obtain ⟨a5797, e5799, hp5798⟩ : ∃ a, F1 78 = .pointer (some a) ∧ PT Enc.int w5655 ((b5647 :: Bl0) ++ O) (.pointer (some a)) (l[k]!) := hd 4 78 (by kernel_rfl)
         obtain ⟨F2, rfl⟩ := lit_of (F := F1) [(78, Value.pointer (some a5797))] ⟨e5799, trivial⟩
         exact sp_plain rfl ((o_loadIU Try.underlying3 rfl rfl hp5798 k0 (⟨(Keep.refl _ _), rfl, fun _ _ => trivial⟩)))
        ·intro F1 w1 k1 hf hd vo hvo hvr
         have k0 := (Keep.drew [] w5655).trans k1
         obtain ⟨B1_, m1, s1, hs_, hb_⟩ : ∃ B1_ : List Nat, Mv (b5647 :: Bl0) w5655 B1_ w1 ∧ St w O w1 B1_ ∧ (∀ x ∈ (b5647 :: Bl0), x ∈ B1_) ∧ (∀ u, vo = some u → ∀ b, u = .pointer (some ⟨b, 0, none⟩) → B1_ = b :: (b5647 :: Bl0)) := by
          cases vo with
          | none => exact ⟨_, Mv.of_keep k0, s5656.call k0, fun _ h => h, fun _ e => (by cases e)⟩
          | some u =>
           obtain ⟨b, e, lo, hbx⟩ : (fun (vT : Value) (wT : World) => ∃ bT : Nat, vT = .pointer (some ⟨bT, 0, none⟩) ∧ w5655.heap.size ≤ bT ∧ Box wT bT 25 [vI (0 : Int), vI (0 : Int), vI (0 : Int), Value.slice none 0 0, Value.slice none 0 0]) u w1 := hvo u rfl
           exact ⟨b :: (b5647 :: Bl0), Mv.adopt k0 lo, (s5656.call k0).adopt (Nat.le_trans s5656.keep.size lo) hbx.lt, fun _ h => List.mem_cons_of_mem _ h, fun u' e' b' e'' => (by cases e'; rw [e] at e''; cases e''; rfl)⟩
         have hsb_ : ∀ x ∈ (b5647 :: Bl0) ++ O, x ∈ B1_ ++ O := fun x hx => List.mem_append.2 ((List.mem_append.1 hx).imp (hs_ x) id)
         have hrd0_b5598_3 := hrd0_b5598_3.mv m1
         have hrd0_b5598_4 := hrd0_b5598_4.mv m1
         obtain ⟨F2, rfl⟩ := lit_of (F := F1) [(74, Value.agg #[vI ((waitC l threshold wait asked k).epoch), vI ((waitC l threshold wait asked k).threshold), vI ((waitC l threshold wait asked k).wait), vr0_b5598_3, vr0_b5598_4]), (75, vI (0 : Int)), (79, vI (l[k]!))] ⟨hd 0 74 (by kernel_rfl), hd 1 75 (by kernel_rfl), hd 5 79 (by kernel_rfl), trivial⟩
         refine sp_plain rfl ((o_callK (vs := [Value.agg #[vI ((waitC l threshold wait asked k).epoch), vI ((waitC l threshold wait asked k).threshold), vI ((waitC l threshold wait asked k).wait), vr0_b5598_3, vr0_b5598_4], vI (0 : Int), vI (l[k]!)]) enter_18 (c_approve (O := B1_ ++ O) [vI ((waitC l threshold wait asked k).epoch), vI ((waitC l threshold wait asked k).threshold), vI ((waitC l threshold wait asked k).wait), vr0_b5598_3, vr0_b5598_4] (waitC l threshold wait asked k) (0 : Int) (l[k]!) w1 ⟨_, _, rfl, hrd0_b5598_3, hrd0_b5598_4⟩ s1.lt) rfl s1 fun v5800 w5801 s5802 m5803 k5804 r5805 => (?_)))
         obtain ⟨cs5806, rfl, hs5807⟩ := r5805
         exact ⟨k5804, ⟨cs5806, rfl, Enc.sub Enc.circle (x := (gAct (waitC l threshold wait asked k) (0 : Int) (fApprove (waitC l threshold wait asked k) (l[k]!))).1) hs5807 (fun x hx => .inl (hsb_ x hx))⟩, fun u eu b eb => by have e_ := hb_ u eu b eb; subst e_; exact ⟨cs5806, rfl, hs5807⟩⟩
        ·intro F1 w1 k1 hf hd vo hvo hvr
         have k0 := (Keep.drew [] w5655).trans k1
         obtain ⟨B1_, m1, s1, hs_, hb_, hd_80⟩ : ∃ B1_ : List Nat, Mv (b5647 :: Bl0) w5655 B1_ w1 ∧ St w O w1 B1_ ∧ (∀ x ∈ (b5647 :: Bl0), x ∈ B1_) ∧ (∀ u, vo = some u → ∀ b, u = .pointer (some ⟨b, 0, none⟩) → B1_ = b :: (b5647 :: Bl0)) ∧ (fun (vT : Value) (wT : World) => ∃ (xT0 : List Value), vT = .tuple #[.agg xT0.toArray, vI ((gAct (waitC l threshold wait asked k) (0 : Int) (fApprove (waitC l threshold wait asked k) (l[k]!))).2)] ∧ Enc.circle.rd wT (B1_ ++ O) xT0 ((gAct (waitC l threshold wait asked k) (0 : Int) (fApprove (waitC l threshold wait asked k) (l[k]!))).1)) (F1 80) w1 := by
          cases vo with
          | none => exact ⟨_, Mv.of_keep k0, s5656.call k0, fun _ h => h, fun _ e => (by cases e), hd 6 80 (by kernel_rfl)⟩
          | some u =>
           obtain ⟨b, e, lo, hbx⟩ : (fun (vT : Value) (wT : World) => ∃ bT : Nat, vT = .pointer (some ⟨bT, 0, none⟩) ∧ w5655.heap.size ≤ bT ∧ Box wT bT 25 [vI (0 : Int), vI (0 : Int), vI (0 : Int), Value.slice none 0 0, Value.slice none 0 0]) u w1 := hvo u rfl
           exact ⟨b :: (b5647 :: Bl0), Mv.adopt k0 lo, (s5656.call k0).adopt (Nat.le_trans s5656.keep.size lo) hbx.lt, fun _ h => List.mem_cons_of_mem _ h, fun u' e' b' e'' => (by cases e'; rw [e] at e''; cases e''; rfl), hvr u rfl 6 80 (by decide) (by kernel_rfl) b e⟩
         have hsb_ : ∀ x ∈ (b5647 :: Bl0) ++ O, x ∈ B1_ ++ O := fun x hx => List.mem_append.2 ((List.mem_append.1 hx).imp (hs_ x) id)
         obtain ⟨cs5808, e5810, hs5809⟩ : (fun (vT : Value) (wT : World) => ∃ (xT0 : List Value), vT = .tuple #[.agg xT0.toArray, vI ((gAct (waitC l threshold wait asked k) (0 : Int) (fApprove (waitC l threshold wait asked k) (l[k]!))).2)] ∧ Enc.circle.rd wT (B1_ ++ O) xT0 ((gAct (waitC l threshold wait asked k) (0 : Int) (fApprove (waitC l threshold wait asked k) (l[k]!))).1)) (F1 80) w1 := hd_80
         obtain ⟨F2, rfl⟩ := lit_of (F := F1) [(80, Value.tuple #[Value.agg cs5808.toArray, vI ((gAct (waitC l threshold wait asked k) (0 : Int) (fApprove (waitC l threshold wait asked k) (l[k]!))).2)])] ⟨e5810, trivial⟩
         exact sp_plain rfl ((o_move (Value.tuple #[Value.agg cs5808.toArray, vI ((gAct (waitC l threshold wait asked k) (0 : Int) (fApprove (waitC l threshold wait asked k) (l[k]!))).2)]) rfl (⟨(Keep.refl _ _), ⟨cs5808, rfl, Enc.sub Enc.circle (x := (gAct (waitC l threshold wait asked k) (0 : Int) (fApprove (waitC l threshold wait asked k) (l[k]!))).1) hs5809 (fun x hx => .inl (hsb_ x hx))⟩, fun u eu b eb => by have e_ := hb_ u eu b eb; subst e_; exact ⟨cs5808, rfl, hs5809⟩⟩)))
        ·intro F1 w1 k1 hf hd vo hvo hvr
         have k0 := (Keep.drew [] w5655).trans k1
         obtain ⟨B1_, m1, s1, hs_, hb_, hd_73⟩ : ∃ B1_ : List Nat, Mv (b5647 :: Bl0) w5655 B1_ w1 ∧ St w O w1 B1_ ∧ (∀ x ∈ (b5647 :: Bl0), x ∈ B1_) ∧ (∀ u, vo = some u → ∀ b, u = .pointer (some ⟨b, 0, none⟩) → B1_ = b :: (b5647 :: Bl0)) ∧ (fun (vT : Value) (wT : World) => ∃ (xT0 : List Value), vT = .tuple #[.agg xT0.toArray, vI ((gAct (waitC l threshold wait asked k) (0 : Int) (fApprove (waitC l threshold wait asked k) (l[k]!))).2)] ∧ Enc.circle.rd wT (B1_ ++ O) xT0 ((gAct (waitC l threshold wait asked k) (0 : Int) (fApprove (waitC l threshold wait asked k) (l[k]!))).1)) (F1 73) w1 := by
          cases vo with
          | none => exact ⟨_, Mv.of_keep k0, s5656.call k0, fun _ h => h, fun _ e => (by cases e), hd 7 73 (by kernel_rfl)⟩
          | some u =>
           obtain ⟨b, e, lo, hbx⟩ : (fun (vT : Value) (wT : World) => ∃ bT : Nat, vT = .pointer (some ⟨bT, 0, none⟩) ∧ w5655.heap.size ≤ bT ∧ Box wT bT 25 [vI (0 : Int), vI (0 : Int), vI (0 : Int), Value.slice none 0 0, Value.slice none 0 0]) u w1 := hvo u rfl
           exact ⟨b :: (b5647 :: Bl0), Mv.adopt k0 lo, (s5656.call k0).adopt (Nat.le_trans s5656.keep.size lo) hbx.lt, fun _ h => List.mem_cons_of_mem _ h, fun u' e' b' e'' => (by cases e'; rw [e] at e''; cases e''; rfl), hvr u rfl 7 73 (by decide) (by kernel_rfl) b e⟩
         have hsb_ : ∀ x ∈ (b5647 :: Bl0) ++ O, x ∈ B1_ ++ O := fun x hx => List.mem_append.2 ((List.mem_append.1 hx).imp (hs_ x) id)
         obtain ⟨cs5811, e5813, hs5812⟩ : (fun (vT : Value) (wT : World) => ∃ (xT0 : List Value), vT = .tuple #[.agg xT0.toArray, vI ((gAct (waitC l threshold wait asked k) (0 : Int) (fApprove (waitC l threshold wait asked k) (l[k]!))).2)] ∧ Enc.circle.rd wT (B1_ ++ O) xT0 ((gAct (waitC l threshold wait asked k) (0 : Int) (fApprove (waitC l threshold wait asked k) (l[k]!))).1)) (F1 73) w1 := hd_73
         obtain ⟨F2, rfl⟩ := lit_of (F := F1) [(73, Value.tuple #[Value.agg cs5811.toArray, vI ((gAct (waitC l threshold wait asked k) (0 : Int) (fApprove (waitC l threshold wait asked k) (l[k]!))).2)])] ⟨e5813, trivial⟩
         exact sp_plain rfl ((o_extract (Value.agg cs5811.toArray) rfl rfl (⟨(Keep.refl _ _), ⟨cs5811, rfl, Enc.sub Enc.circle (x := (gAct (waitC l threshold wait asked k) (0 : Int) (fApprove (waitC l threshold wait asked k) (l[k]!))).1) hs5812 (fun x hx => .inl (hsb_ x hx))⟩, fun u eu b eb => by have e_ := hb_ u eu b eb; subst e_; exact ⟨cs5811, rfl, hs5812⟩⟩)))
        ·intro F1 w1 k1 hf hd vo hvo hvr
         have k0 := (Keep.drew [] w5655).trans k1
         obtain ⟨B1_, m1, s1, hs_, hb_, hd_73⟩ : ∃ B1_ : List Nat, Mv (b5647 :: Bl0) w5655 B1_ w1 ∧ St w O w1 B1_ ∧ (∀ x ∈ (b5647 :: Bl0), x ∈ B1_) ∧ (∀ u, vo = some u → ∀ b, u = .pointer (some ⟨b, 0, none⟩) → B1_ = b :: (b5647 :: Bl0)) ∧ (fun (vT : Value) (wT : World) => ∃ (xT0 : List Value), vT = .tuple #[.agg xT0.toArray, vI ((gAct (waitC l threshold wait asked k) (0 : Int) (fApprove (waitC l threshold wait asked k) (l[k]!))).2)] ∧ Enc.circle.rd wT (B1_ ++ O) xT0 ((gAct (waitC l threshold wait asked k) (0 : Int) (fApprove (waitC l threshold wait asked k) (l[k]!))).1)) (F1 73) w1 := by
          cases vo with
          | none => exact ⟨_, Mv.of_keep k0, s5656.call k0, fun _ h => h, fun _ e => (by cases e), hd 7 73 (by kernel_rfl)⟩
          | some u =>
           obtain ⟨b, e, lo, hbx⟩ : (fun (vT : Value) (wT : World) => ∃ bT : Nat, vT = .pointer (some ⟨bT, 0, none⟩) ∧ w5655.heap.size ≤ bT ∧ Box wT bT 25 [vI (0 : Int), vI (0 : Int), vI (0 : Int), Value.slice none 0 0, Value.slice none 0 0]) u w1 := hvo u rfl
           exact ⟨b :: (b5647 :: Bl0), Mv.adopt k0 lo, (s5656.call k0).adopt (Nat.le_trans s5656.keep.size lo) hbx.lt, fun _ h => List.mem_cons_of_mem _ h, fun u' e' b' e'' => (by cases e'; rw [e] at e''; cases e''; rfl), hvr u rfl 7 73 (by decide) (by kernel_rfl) b e⟩
         have hsb_ : ∀ x ∈ (b5647 :: Bl0) ++ O, x ∈ B1_ ++ O := fun x hx => List.mem_append.2 ((List.mem_append.1 hx).imp (hs_ x) id)
         obtain ⟨cs5814, e5816, hs5815⟩ : (fun (vT : Value) (wT : World) => ∃ (xT0 : List Value), vT = .tuple #[.agg xT0.toArray, vI ((gAct (waitC l threshold wait asked k) (0 : Int) (fApprove (waitC l threshold wait asked k) (l[k]!))).2)] ∧ Enc.circle.rd wT (B1_ ++ O) xT0 ((gAct (waitC l threshold wait asked k) (0 : Int) (fApprove (waitC l threshold wait asked k) (l[k]!))).1)) (F1 73) w1 := hd_73
         obtain ⟨F2, rfl⟩ := lit_of (F := F1) [(73, Value.tuple #[Value.agg cs5814.toArray, vI ((gAct (waitC l threshold wait asked k) (0 : Int) (fApprove (waitC l threshold wait asked k) (l[k]!))).2)])] ⟨e5816, trivial⟩
         exact sp_plain rfl ((o_extract (vI ((gAct (waitC l threshold wait asked k) (0 : Int) (fApprove (waitC l threshold wait asked k) (l[k]!))).2)) rfl rfl (⟨(Keep.refl _ _), rfl, fun _ _ => trivial⟩)))
        ·refine ⟨rfl, ?_⟩
         intro F1 w1 k1 hf hd
         have k0 := (Keep.drew [] w5655).trans k1
         have s1 := s5656.call k0
         obtain ⟨F2, rfl⟩ := lit_of (F := F1) [] trivial
         refine id ((o_alloc [vI (0 : Int), vI (0 : Int), vI (0 : Int), Value.slice none 0 0, Value.slice none 0 0] z_25 rfl s1 fun b5817 w5818 e5823 s5819 m5820 k5821 bx5822 => (?_)))
         have lo5824 : w5655.heap.size ≤ b5817 := by have := k0.size; omega
         exact ⟨k5821, ⟨_, rfl, lo5824, bx5822⟩, ⟨fun _ _ => trivial, fun _ _ => trivial, fun _ _ => trivial, fun _ _ => trivial, fun _ _ => trivial, fun _ _ => trivial, fun x hx b e => by cases e; obtain ⟨y0, e, h0⟩ := hx; exact ⟨y0, e, Enc.mv _ h0 m5820⟩, fun x hx b e => by cases e; obtain ⟨y0, e, h0⟩ := hx; exact ⟨y0, e, Enc.mv _ h0 m5820⟩, fun x hx b e => by cases e; obtain ⟨a, e, h⟩ := hx; exact ⟨a, e, Enc.mv _ h m5820⟩, fun _ _ => trivial, fun _ _ => trivial, trivial⟩⟩
        ·intro F5826 w5827 k5825 hT5828 hR5832 hF5829
         obtain ⟨v5834, e5836, hl5835⟩ : ∃ v, F5826 76 = v ∧ RdL Enc.int w5655 ((b5647 :: Bl0) ++ O) v (l) := ⟨_, rfl, hT5828 2 76 (by kernel_rfl) (by decide)⟩
         have := hl5835.len_le
         obtain ⟨a5837, e5839, hp5838⟩ : ∃ a, F5826 78 = .pointer (some a) ∧ PT Enc.int w5655 ((b5647 :: Bl0) ++ O) (.pointer (some a)) (l[k]!) := hT5828 4 78 (by kernel_rfl) (by decide)
         obtain ⟨b5840, e5841, lo5842, bx5843⟩ : (fun (vT : Value) (wT : World) => ∃ bT : Nat, vT = .pointer (some ⟨bT, 0, none⟩) ∧ w5655.heap.size ≤ bT ∧ Box wT bT 25 [vI (0 : Int), vI (0 : Int), vI (0 : Int), Value.slice none 0 0, Value.slice none 0 0]) (F5826 18) w5827 := hT5828 10 18 (by kernel_rfl) (by decide)
         have ne5844 : b5598 ≠ b5840 := by have := hbs_b5598.lt; omega
         have ne5845 : b5647 ≠ b5840 := by have := bx5659.lt; omega
         have s5830 := (s5656.call k5825).adopt (Nat.le_trans s5656.keep.size lo5842) bx5843.lt
         have m5831 : Mv (b5647 :: Bl0) w5655 (b5840 :: (b5647 :: Bl0)) w5827 := Mv.adopt k5825 lo5842
         obtain ⟨cs5846, e5848, hs5847⟩ : (fun (vT : Value) (wT : World) => ∃ (xT0 : List Value), vT = .tuple #[.agg xT0.toArray, vI ((gAct (waitC l threshold wait asked k) (0 : Int) (fApprove (waitC l threshold wait asked k) (l[k]!))).2)] ∧ Enc.circle.rd wT ((b5840 :: (b5647 :: Bl0)) ++ O) xT0 ((gAct (waitC l threshold wait asked k) (0 : Int) (fApprove (waitC l threshold wait asked k) (l[k]!))).1)) (F5826 73) w5827 := hR5832 18 7 73 (by kernel_rfl) (by kernel_rfl) (by decide) (by decide) b5840 e5841
         obtain ⟨cs5849, e5851, hs5850⟩ : (fun (vT : Value) (wT : World) => ∃ (xT0 : List Value), vT = .tuple #[.agg xT0.toArray, vI ((gAct (waitC l threshold wait asked k) (0 : Int) (fApprove (waitC l threshold wait asked k) (l[k]!))).2)] ∧ Enc.circle.rd wT ((b5840 :: (b5647 :: Bl0)) ++ O) xT0 ((gAct (waitC l threshold wait asked k) (0 : Int) (fApprove (waitC l threshold wait asked k) (l[k]!))).1)) (F5826 80) w5827 := hR5832 18 6 80 (by kernel_rfl) (by kernel_rfl) (by decide) (by decide) b5840 e5841
         obtain ⟨cs5852, e5854, hs5853⟩ : ∃ cs : List Value, F5826 81 = .agg cs.toArray ∧ Enc.circle.rd w5827 ((b5840 :: (b5647 :: Bl0)) ++ O) cs ((gAct (waitC l threshold wait asked k) (0 : Int) (fApprove (waitC l threshold wait asked k) (l[k]!))).1) := hR5832 18 8 81 (by kernel_rfl) (by kernel_rfl) (by decide) (by decide) b5840 e5841
         have h_l := h_l.mv m5831
         have hbs_b5598 := hbs_b5598.keep k5825 (by simp)
         obtain ⟨F2, rfl⟩ := lit_of (F := F5826) [(0, l_v), (1, vI threshold), (2, vI wait), (3, vI asked), (4, vI day), (11, Value.pointer (some ⟨b5598, 0, none⟩)), (13, vI (0 : Int)), (15, vI ((k : Nat) : Int)), (117, undef), (18, Value.pointer (some ⟨b5840, 0, none⟩)), (73, Value.tuple #[Value.agg cs5846.toArray, vI ((gAct (waitC l threshold wait asked k) (0 : Int) (fApprove (waitC l threshold wait asked k) (l[k]!))).2)]), (76, v5834), (78, Value.pointer (some a5837)), (80, Value.tuple #[Value.agg cs5849.toArray, vI ((gAct (waitC l threshold wait asked k) (0 : Int) (fApprove (waitC l threshold wait asked k) (l[k]!))).2)]), (81, Value.agg cs5852.toArray), (82, vI ((gAct (waitC l threshold wait asked k) (0 : Int) (fApprove (waitC l threshold wait asked k) (l[k]!))).2))] ⟨hF5829 0 (by kernel_rfl), hF5829 1 (by kernel_rfl), hF5829 2 (by kernel_rfl), hF5829 3 (by kernel_rfl), hF5829 4 (by kernel_rfl), hF5829 11 (by kernel_rfl), hF5829 13 (by kernel_rfl), hF5829 15 (by kernel_rfl), hF5829 117 (by kernel_rfl), e5841, e5848, e5836, e5839, e5851, e5854, hT5828 9 82 (by kernel_rfl) (by decide), trivial⟩
         clear hT5828 hF5829
         obtain ⟨d5860, d5862, rfl, hd5861, hd5863⟩ := hs5853
         have := hd5861.len_le
         have := hd5863.len_le
         refine wl_n (o_store (vs := [vI (((gAct (waitC l threshold wait asked k) (0 : Int) (fApprove (waitC l threshold wait asked k) (l[k]!))).1).epoch), vI (((gAct (waitC l threshold wait asked k) (0 : Int) (fApprove (waitC l threshold wait asked k) (l[k]!))).1).threshold), vI (((gAct (waitC l threshold wait asked k) (0 : Int) (fApprove (waitC l threshold wait asked k) (l[k]!))).1).wait), d5860, d5862]) (.agg #[vI (((gAct (waitC l threshold wait asked k) (0 : Int) (fApprove (waitC l threshold wait asked k) (l[k]!))).1).epoch), vI (((gAct (waitC l threshold wait asked k) (0 : Int) (fApprove (waitC l threshold wait asked k) (l[k]!))).1).threshold), vI (((gAct (waitC l threshold wait asked k) (0 : Int) (fApprove (waitC l threshold wait asked k) (l[k]!))).1).wait), d5860, d5862]) rfl rfl rfl s_25 (fun u hu => by simp only [List.mem_cons, List.not_mem_nil, or_false] at hu; rcases hu with rfl | rfl | rfl | rfl | rfl <;> first | rfl | exact hd5861.oneCell | exact hd5863.oneCell) (by repeat (first | assumption | constructor)) bx5843 (of_decide_eq_true rfl) s5830 fun w5855 s5856 m5857 k5858 bx5859 => (?_))
         have h_l := h_l.mv m5857
         have hd5861 := hd5861.mv m5857
         have hd5863 := hd5863.mv m5857
         have hbs_b5598 := hbs_b5598.keep k5858 (nin1 ne5844)
         refine wl_s (o_assign (vI ((gAct (waitC l threshold wait asked k) (0 : Int) (fApprove (waitC l threshold wait asked k) (l[k]!))).2)) rfl (wl_nil (thenQ_n (?_))))
         refine cw_seq (?_)
         refine cw_seq (?_)
         refine cw_region (by kernel_rfl) (wl_s (o_move (vI ((gAct (waitC l threshold wait asked k) (0 : Int) (fApprove (waitC l threshold wait asked k) (l[k]!))).2)) rfl (wl_s (o_neq .i64 ((gAct (waitC l threshold wait asked k) (0 : Int) (fApprove (waitC l threshold wait asked k) (l[k]!))).2) (0 : Int) rfl rfl (wl_nil (thenQ_n (?_)))))))
         have hb5864 : (((gAct (waitC l threshold wait asked k) (0 : Int) (fApprove (waitC l threshold wait asked k) (l[k]!))).2) != (0 : Int)) = false := (by rw [wait_app hc ha (by omega)]; rfl)
         rw [hb5864]
         refine cw_cond false rfl rfl (fun h => by cases h) (fun _ => ?_)
         refine cw_skip (thenQ_n (?_))
         refine cw_region (by kernel_rfl) (wl_s (o_loadBxA (vs := [vI (((gAct (waitC l threshold wait asked k) (0 : Int) (fApprove (waitC l threshold wait asked k) (l[k]!))).1).epoch), vI (((gAct (waitC l threshold wait asked k) (0 : Int) (fApprove (waitC l threshold wait asked k) (l[k]!))).1).threshold), vI (((gAct (waitC l threshold wait asked k) (0 : Int) (fApprove (waitC l threshold wait asked k) (l[k]!))).1).wait), d5860, d5862]) Try.underlying25 rfl s_25 rfl bx5859 rfl (wl_n (o_store (vs := [vI (((gAct (waitC l threshold wait asked k) (0 : Int) (fApprove (waitC l threshold wait asked k) (l[k]!))).1).epoch), vI (((gAct (waitC l threshold wait asked k) (0 : Int) (fApprove (waitC l threshold wait asked k) (l[k]!))).1).threshold), vI (((gAct (waitC l threshold wait asked k) (0 : Int) (fApprove (waitC l threshold wait asked k) (l[k]!))).1).wait), d5860, d5862]) (.agg #[vI (((gAct (waitC l threshold wait asked k) (0 : Int) (fApprove (waitC l threshold wait asked k) (l[k]!))).1).epoch), vI (((gAct (waitC l threshold wait asked k) (0 : Int) (fApprove (waitC l threshold wait asked k) (l[k]!))).1).threshold), vI (((gAct (waitC l threshold wait asked k) (0 : Int) (fApprove (waitC l threshold wait asked k) (l[k]!))).1).wait), d5860, d5862]) rfl rfl rfl s_25 (fun u hu => by simp only [List.mem_cons, List.not_mem_nil, or_false] at hu; rcases hu with rfl | rfl | rfl | rfl | rfl <;> first | rfl | exact hd5861.oneCell | exact hd5863.oneCell) (by repeat (first | assumption | constructor)) hbs_b5598 (of_decide_eq_true rfl) s5856 fun w5865 s5866 m5867 k5868 bx5869 => (?_)))))
         have h_l := h_l.mv m5867
         have hd5861 := hd5861.mv m5867
         have hd5863 := hd5863.mv m5867
         refine wl_nil (blockQ_n (thenQ_n (?_)))
         refine cw_region (by kernel_rfl) (wl_s (o_move (vI ((k : Nat) : Int)) rfl (wl_s (o_add .i64 ((k : Nat) : Int) (1 : Int) (((k + 1 : Nat) : Int)) rfl rfl (w64 (by omega) (by omega)) (wl_s (o_assign (vI ((k + 1 : Nat) : Int)) rfl (wl_nil (thenQ_n (?_)))))))))
         exact ⟨_, (by omega), (k + 1), d5860, d5862, (b5840 :: (b5647 :: Bl0)), (by first | omega | (simp; done) | (simp; omega) | simp_all), rfl, ⟨_, upds_self _ ⟨rfl, rfl, rfl, rfl, rfl, rfl, rfl, (by first | rfl | exact congrArg (Value.int _) (by first | omega | (simp))), rfl, trivial⟩⟩, s5866, (by rw [show (waitC l threshold wait asked (k + 1)).guardians = ((gAct (waitC l threshold wait asked k) (0 : Int) (fApprove (waitC l threshold wait asked k) (l[k]!))).1).guardians from by rw [wait_app hc ha (by omega)]]; exact hd5861), (by rw [show (waitC l threshold wait asked (k + 1)).recs = ((gAct (waitC l threshold wait asked k) (0 : Int) (fApprove (waitC l threshold wait asked k) (l[k]!))).1).recs from by rw [wait_app hc ha (by omega)]]; exact hd5863), h_l, (by rw [show ([vI ((waitC l threshold wait asked (k + 1)).epoch), vI ((waitC l threshold wait asked (k + 1)).threshold), vI ((waitC l threshold wait asked (k + 1)).wait), d5860, d5862] : List Value) = [vI (((gAct (waitC l threshold wait asked k) (0 : Int) (fApprove (waitC l threshold wait asked k) (l[k]!))).1).epoch), vI (((gAct (waitC l threshold wait asked k) (0 : Int) (fApprove (waitC l threshold wait asked k) (l[k]!))).1).threshold), vI (((gAct (waitC l threshold wait asked k) (0 : Int) (fApprove (waitC l threshold wait asked k) (l[k]!))).1).wait), d5860, d5862] from by rw [wait_app hc ha (by omega)]]; exact bx5869), (by first | assumption | (repeat (first | exact List.mem_cons_self | assumption | apply List.mem_cons_of_mem)) | (apply_assumption; assumption))⟩
        ·intro cx_ hcx_
         match cx_, hcx_ with
         | 0, _ =>
          intro F5871 w5872 k5870 hT5873 hR5877 hF5874
          obtain ⟨v5879, e5881, hl5880⟩ : ∃ v, F5871 76 = v ∧ RdL Enc.int w5655 ((b5647 :: Bl0) ++ O) v (l) := ⟨_, rfl, hT5873 2 76 (by kernel_rfl) (by decide) (by decide)⟩
          have := hl5880.len_le
          obtain ⟨a5882, e5884, hp5883⟩ : ∃ a, F5871 78 = .pointer (some a) ∧ PT Enc.int w5655 ((b5647 :: Bl0) ++ O) (.pointer (some a)) (l[k]!) := hT5873 4 78 (by kernel_rfl) (by decide) (by decide)
          obtain ⟨b5885, e5886, lo5887, bx5888⟩ : (fun (vT : Value) (wT : World) => ∃ bT : Nat, vT = .pointer (some ⟨bT, 0, none⟩) ∧ w5655.heap.size ≤ bT ∧ Box wT bT 25 [vI (0 : Int), vI (0 : Int), vI (0 : Int), Value.slice none 0 0, Value.slice none 0 0]) (F5871 18) w5872 := hT5873 10 18 (by kernel_rfl) (by decide) (by decide)
          have ne5889 : b5598 ≠ b5885 := by have := hbs_b5598.lt; omega
          have ne5890 : b5647 ≠ b5885 := by have := bx5659.lt; omega
          have s5875 := (s5656.call k5870).adopt (Nat.le_trans s5656.keep.size lo5887) bx5888.lt
          have m5876 : Mv (b5647 :: Bl0) w5655 (b5885 :: (b5647 :: Bl0)) w5872 := Mv.adopt k5870 lo5887
          obtain ⟨cs5891, e5893, hs5892⟩ : (fun (vT : Value) (wT : World) => ∃ (xT0 : List Value), vT = .tuple #[.agg xT0.toArray, vI ((gAct (waitC l threshold wait asked k) (0 : Int) (fApprove (waitC l threshold wait asked k) (l[k]!))).2)] ∧ Enc.circle.rd wT ((b5885 :: (b5647 :: Bl0)) ++ O) xT0 ((gAct (waitC l threshold wait asked k) (0 : Int) (fApprove (waitC l threshold wait asked k) (l[k]!))).1)) (F5871 73) w5872 := hR5877 18 7 73 (by kernel_rfl) (by kernel_rfl) (by decide) (by decide) (by decide) b5885 e5886
          obtain ⟨cs5894, e5896, hs5895⟩ : (fun (vT : Value) (wT : World) => ∃ (xT0 : List Value), vT = .tuple #[.agg xT0.toArray, vI ((gAct (waitC l threshold wait asked k) (0 : Int) (fApprove (waitC l threshold wait asked k) (l[k]!))).2)] ∧ Enc.circle.rd wT ((b5885 :: (b5647 :: Bl0)) ++ O) xT0 ((gAct (waitC l threshold wait asked k) (0 : Int) (fApprove (waitC l threshold wait asked k) (l[k]!))).1)) (F5871 80) w5872 := hR5877 18 6 80 (by kernel_rfl) (by kernel_rfl) (by decide) (by decide) (by decide) b5885 e5886
          obtain ⟨cs5897, e5899, hs5898⟩ : ∃ cs : List Value, F5871 81 = .agg cs.toArray ∧ Enc.circle.rd w5872 ((b5885 :: (b5647 :: Bl0)) ++ O) cs ((gAct (waitC l threshold wait asked k) (0 : Int) (fApprove (waitC l threshold wait asked k) (l[k]!))).1) := hR5877 18 8 81 (by kernel_rfl) (by kernel_rfl) (by decide) (by decide) (by decide) b5885 e5886
          have h_l := h_l.mv m5876
          have hbs_b5598 := hbs_b5598.keep k5870 (by simp)
          obtain ⟨F2, rfl⟩ := lit_of (F := F5871) [(0, l_v), (1, vI threshold), (2, vI wait), (3, vI asked), (4, vI day), (11, Value.pointer (some ⟨b5598, 0, none⟩)), (13, vI (0 : Int)), (15, vI ((k : Nat) : Int)), (117, undef), (18, Value.pointer (some ⟨b5885, 0, none⟩)), (73, Value.tuple #[Value.agg cs5891.toArray, vI ((gAct (waitC l threshold wait asked k) (0 : Int) (fApprove (waitC l threshold wait asked k) (l[k]!))).2)]), (76, v5879), (78, Value.pointer (some a5882)), (80, Value.tuple #[Value.agg cs5894.toArray, vI ((gAct (waitC l threshold wait asked k) (0 : Int) (fApprove (waitC l threshold wait asked k) (l[k]!))).2)]), (81, Value.agg cs5897.toArray)] ⟨hF5874 0 (by kernel_rfl), hF5874 1 (by kernel_rfl), hF5874 2 (by kernel_rfl), hF5874 3 (by kernel_rfl), hF5874 4 (by kernel_rfl), hF5874 11 (by kernel_rfl), hF5874 13 (by kernel_rfl), hF5874 15 (by kernel_rfl), hF5874 117 (by kernel_rfl), e5886, e5893, e5881, e5884, e5896, e5899, trivial⟩
          clear hT5873 hF5874
          obtain ⟨d5905, d5907, rfl, hd5906, hd5908⟩ := hs5898
          have := hd5906.len_le
          have := hd5908.len_le
          refine wl_n (o_store (vs := [vI (((gAct (waitC l threshold wait asked k) (0 : Int) (fApprove (waitC l threshold wait asked k) (l[k]!))).1).epoch), vI (((gAct (waitC l threshold wait asked k) (0 : Int) (fApprove (waitC l threshold wait asked k) (l[k]!))).1).threshold), vI (((gAct (waitC l threshold wait asked k) (0 : Int) (fApprove (waitC l threshold wait asked k) (l[k]!))).1).wait), d5905, d5907]) (.agg #[vI (((gAct (waitC l threshold wait asked k) (0 : Int) (fApprove (waitC l threshold wait asked k) (l[k]!))).1).epoch), vI (((gAct (waitC l threshold wait asked k) (0 : Int) (fApprove (waitC l threshold wait asked k) (l[k]!))).1).threshold), vI (((gAct (waitC l threshold wait asked k) (0 : Int) (fApprove (waitC l threshold wait asked k) (l[k]!))).1).wait), d5905, d5907]) rfl rfl rfl s_25 (fun u hu => by simp only [List.mem_cons, List.not_mem_nil, or_false] at hu; rcases hu with rfl | rfl | rfl | rfl | rfl <;> first | rfl | exact hd5906.oneCell | exact hd5908.oneCell) (by repeat (first | assumption | constructor)) bx5888 (of_decide_eq_true rfl) s5875 fun w5900 s5901 m5902 k5903 bx5904 => (?_))
          have h_l := h_l.mv m5902
          have hd5906 := hd5906.mv m5902
          have hd5908 := hd5908.mv m5902
          have hbs_b5598 := hbs_b5598.keep k5903 (nin1 ne5889)
          refine wl_s (o_extract (vI ((gAct (waitC l threshold wait asked k) (0 : Int) (fApprove (waitC l threshold wait asked k) (l[k]!))).2)) rfl rfl (wl_s (o_assign (vI ((gAct (waitC l threshold wait asked k) (0 : Int) (fApprove (waitC l threshold wait asked k) (l[k]!))).2)) rfl (wl_nil (thenQ_n (?_))))))
          refine cw_seq (?_)
          refine cw_seq (?_)
          refine cw_region (by kernel_rfl) (wl_s (o_move (vI ((gAct (waitC l threshold wait asked k) (0 : Int) (fApprove (waitC l threshold wait asked k) (l[k]!))).2)) rfl (wl_s (o_neq .i64 ((gAct (waitC l threshold wait asked k) (0 : Int) (fApprove (waitC l threshold wait asked k) (l[k]!))).2) (0 : Int) rfl rfl (wl_nil (thenQ_n (?_)))))))
          have hb5909 : (((gAct (waitC l threshold wait asked k) (0 : Int) (fApprove (waitC l threshold wait asked k) (l[k]!))).2) != (0 : Int)) = false := (by rw [wait_app hc ha (by omega)]; rfl)
          rw [hb5909]
          refine cw_cond false rfl rfl (fun h => by cases h) (fun _ => ?_)
          refine cw_skip (thenQ_n (?_))
          refine cw_region (by kernel_rfl) (wl_s (o_loadBxA (vs := [vI (((gAct (waitC l threshold wait asked k) (0 : Int) (fApprove (waitC l threshold wait asked k) (l[k]!))).1).epoch), vI (((gAct (waitC l threshold wait asked k) (0 : Int) (fApprove (waitC l threshold wait asked k) (l[k]!))).1).threshold), vI (((gAct (waitC l threshold wait asked k) (0 : Int) (fApprove (waitC l threshold wait asked k) (l[k]!))).1).wait), d5905, d5907]) Try.underlying25 rfl s_25 rfl bx5904 rfl (wl_n (o_store (vs := [vI (((gAct (waitC l threshold wait asked k) (0 : Int) (fApprove (waitC l threshold wait asked k) (l[k]!))).1).epoch), vI (((gAct (waitC l threshold wait asked k) (0 : Int) (fApprove (waitC l threshold wait asked k) (l[k]!))).1).threshold), vI (((gAct (waitC l threshold wait asked k) (0 : Int) (fApprove (waitC l threshold wait asked k) (l[k]!))).1).wait), d5905, d5907]) (.agg #[vI (((gAct (waitC l threshold wait asked k) (0 : Int) (fApprove (waitC l threshold wait asked k) (l[k]!))).1).epoch), vI (((gAct (waitC l threshold wait asked k) (0 : Int) (fApprove (waitC l threshold wait asked k) (l[k]!))).1).threshold), vI (((gAct (waitC l threshold wait asked k) (0 : Int) (fApprove (waitC l threshold wait asked k) (l[k]!))).1).wait), d5905, d5907]) rfl rfl rfl s_25 (fun u hu => by simp only [List.mem_cons, List.not_mem_nil, or_false] at hu; rcases hu with rfl | rfl | rfl | rfl | rfl <;> first | rfl | exact hd5906.oneCell | exact hd5908.oneCell) (by repeat (first | assumption | constructor)) hbs_b5598 (of_decide_eq_true rfl) s5901 fun w5910 s5911 m5912 k5913 bx5914 => (?_)))))
          have h_l := h_l.mv m5912
          have hd5906 := hd5906.mv m5912
          have hd5908 := hd5908.mv m5912
          refine wl_nil (blockQ_n (thenQ_n (?_)))
          refine cw_region (by kernel_rfl) (wl_s (o_move (vI ((k : Nat) : Int)) rfl (wl_s (o_add .i64 ((k : Nat) : Int) (1 : Int) (((k + 1 : Nat) : Int)) rfl rfl (w64 (by omega) (by omega)) (wl_s (o_assign (vI ((k + 1 : Nat) : Int)) rfl (wl_nil (thenQ_n (?_)))))))))
          exact ⟨_, (by omega), (k + 1), d5905, d5907, (b5885 :: (b5647 :: Bl0)), (by first | omega | (simp; done) | (simp; omega) | simp_all), rfl, ⟨_, upds_self _ ⟨rfl, rfl, rfl, rfl, rfl, rfl, rfl, (by first | rfl | exact congrArg (Value.int _) (by first | omega | (simp))), rfl, trivial⟩⟩, s5911, (by rw [show (waitC l threshold wait asked (k + 1)).guardians = ((gAct (waitC l threshold wait asked k) (0 : Int) (fApprove (waitC l threshold wait asked k) (l[k]!))).1).guardians from by rw [wait_app hc ha (by omega)]]; exact hd5906), (by rw [show (waitC l threshold wait asked (k + 1)).recs = ((gAct (waitC l threshold wait asked k) (0 : Int) (fApprove (waitC l threshold wait asked k) (l[k]!))).1).recs from by rw [wait_app hc ha (by omega)]]; exact hd5908), h_l, (by rw [show ([vI ((waitC l threshold wait asked (k + 1)).epoch), vI ((waitC l threshold wait asked (k + 1)).threshold), vI ((waitC l threshold wait asked (k + 1)).wait), d5905, d5907] : List Value) = [vI (((gAct (waitC l threshold wait asked k) (0 : Int) (fApprove (waitC l threshold wait asked k) (l[k]!))).1).epoch), vI (((gAct (waitC l threshold wait asked k) (0 : Int) (fApprove (waitC l threshold wait asked k) (l[k]!))).1).threshold), vI (((gAct (waitC l threshold wait asked k) (0 : Int) (fApprove (waitC l threshold wait asked k) (l[k]!))).1).wait), d5905, d5907] from by rw [wait_app hc ha (by omega)]]; exact bx5914), (by first | assumption | (repeat (first | exact List.mem_cons_self | assumption | apply List.mem_cons_of_mem)) | (apply_assumption; assumption))⟩
       ·have hp5915 : (0 : Int) ≤ day := by first | simpa using hb5790 | (have e := hb5790; simp at e; omega)
        refine wl_t rfl (o_move (vI day) rfl (wl_t rfl (o_lss .i64 day (1024 : Int) rfl rfl (wl_t rfl (o_pickT (Value.bool (decide (day < (1024 : Int)))) rfl rfl (wl_s (o_pickT (Value.bool (decide (day < (1024 : Int)))) rfl rfl (wl_nil (thenQ_n (?_))))))))))
        have hb5916 : (decide (day < (1024 : Int))) = false := (wait_l1 (k := k) hc ha (by omega) (by omega) (by assumption) (by omega))
        rw [hb5916]
        refine cw_cond false rfl rfl (fun h => by cases h) (fun _ => ?_)
        refine cw_skip (thenQ_n (?_))
        refine cw_seq (?_)
        refine cw_drawRL 11 10 [9] _ _ _ [isV (Value.agg #[vI ((waitC l threshold wait asked k).epoch), vI ((waitC l threshold wait asked k).threshold), vI ((waitC l threshold wait asked k).wait), vr0_b5598_3, vr0_b5598_4]), isV (vI (0 : Int)), fun (vT : Value) (_ : World) => RdL Enc.int w5655 ((b5647 :: Bl0) ++ O) vT (l), isV (vI ((k : Nat) : Int)), fun (vT : Value) (_ : World) => ∃ aT, vT = .pointer (some aT) ∧ PT Enc.int w5655 ((b5647 :: Bl0) ++ O) (.pointer (some aT)) (l[k]!), isV (vI (l[k]!)), fun (vT : Value) (wT : World) => ∃ (xT0 : List Value), vT = .tuple #[.agg xT0.toArray, vI ((gAct (waitC l threshold wait asked k) (0 : Int) (fApprove (waitC l threshold wait asked k) (l[k]!))).2)] ∧ Enc.circle.rd wT ((b5647 :: Bl0) ++ O) xT0 ((gAct (waitC l threshold wait asked k) (0 : Int) (fApprove (waitC l threshold wait asked k) (l[k]!))).1), fun (vT : Value) (wT : World) => ∃ (xT0 : List Value), vT = .tuple #[.agg xT0.toArray, vI ((gAct (waitC l threshold wait asked k) (0 : Int) (fApprove (waitC l threshold wait asked k) (l[k]!))).2)] ∧ Enc.circle.rd wT ((b5647 :: Bl0) ++ O) xT0 ((gAct (waitC l threshold wait asked k) (0 : Int) (fApprove (waitC l threshold wait asked k) (l[k]!))).1), fun (vT : Value) (wT : World) => ∃ csT : List Value, vT = .agg csT.toArray ∧ Enc.circle.rd wT ((b5647 :: Bl0) ++ O) csT ((gAct (waitC l threshold wait asked k) (0 : Int) (fApprove (waitC l threshold wait asked k) (l[k]!))).1), isV (vI ((gAct (waitC l threshold wait asked k) (0 : Int) (fApprove (waitC l threshold wait asked k) (l[k]!))).2)), fun (vT : Value) (wT : World) => ∃ bT : Nat, vT = .pointer (some ⟨bT, 0, none⟩) ∧ w5655.heap.size ≤ bT ∧ Box wT bT 25 [vI (0 : Int), vI (0 : Int), vI (0 : Int), Value.slice none 0 0, Value.slice none 0 0]] [fun _ _ _ => True, fun _ _ _ => True, fun _ _ _ => True, fun _ _ _ => True, fun _ _ _ => True, fun _ _ _ => True, fun (u v : Value) (wT : World) => ∀ bT, u = .pointer (some ⟨bT, 0, none⟩) → (fun (vT : Value) (wT : World) => ∃ (xT0 : List Value), vT = .tuple #[.agg xT0.toArray, vI ((gAct (waitC l threshold wait asked k) (0 : Int) (fApprove (waitC l threshold wait asked k) (l[k]!))).2)] ∧ Enc.circle.rd wT ((bT :: (b5647 :: Bl0)) ++ O) xT0 ((gAct (waitC l threshold wait asked k) (0 : Int) (fApprove (waitC l threshold wait asked k) (l[k]!))).1)) v wT, fun (u v : Value) (wT : World) => ∀ bT, u = .pointer (some ⟨bT, 0, none⟩) → (fun (vT : Value) (wT : World) => ∃ (xT0 : List Value), vT = .tuple #[.agg xT0.toArray, vI ((gAct (waitC l threshold wait asked k) (0 : Int) (fApprove (waitC l threshold wait asked k) (l[k]!))).2)] ∧ Enc.circle.rd wT ((bT :: (b5647 :: Bl0)) ++ O) xT0 ((gAct (waitC l threshold wait asked k) (0 : Int) (fApprove (waitC l threshold wait asked k) (l[k]!))).1)) v wT, fun (u v : Value) (wT : World) => ∀ bT, u = .pointer (some ⟨bT, 0, none⟩) → (fun (vT : Value) (wT : World) => ∃ csT : List Value, vT = .agg csT.toArray ∧ Enc.circle.rd wT ((bT :: (b5647 :: Bl0)) ++ O) csT ((gAct (waitC l threshold wait asked k) (0 : Int) (fApprove (waitC l threshold wait asked k) (l[k]!))).1)) v wT, fun _ _ _ => True, fun _ _ _ => True] (by kernel_rfl) (by kernel_rfl) (by kernel_rfl) (by kernel_rfl) (by decide) rfl rfl rfl ⟨kI, kI, fun _ _ _ h _ => h, kI, fun _ _ _ h _ => h, kI, fun _ _ _ ⟨y0, e, h0⟩ k => ⟨y0, e, Enc.mv _ h0 (Mv.of_keep k)⟩, fun _ _ _ ⟨y0, e, h0⟩ k => ⟨y0, e, Enc.mv _ h0 (Mv.of_keep k)⟩, fun _ _ _ ⟨a, e, h⟩ k => ⟨a, e, Enc.mv _ h (Mv.of_keep k)⟩, kI, fun _ _ _ ⟨b, e, h1, h⟩ k => ⟨b, e, h1, h.keep k (by simp)⟩, trivial⟩ ⟨fun _ _ _ _ _ _ => trivial, fun _ _ _ _ _ _ => trivial, fun _ _ _ _ _ _ => trivial, fun _ _ _ _ _ _ => trivial, fun _ _ _ _ _ _ => trivial, fun _ _ _ _ _ _ => trivial, fun u v w w2 h k b e => by have h2 := h b e; revert k; revert h2; exact (fun _ _ _ ⟨y0, e, h0⟩ k => ⟨y0, e, Enc.mv _ h0 (Mv.of_keep k)⟩) v w w2, fun u v w w2 h k b e => by have h2 := h b e; revert k; revert h2; exact (fun _ _ _ ⟨y0, e, h0⟩ k => ⟨y0, e, Enc.mv _ h0 (Mv.of_keep k)⟩) v w w2, fun u v w w2 h k b e => by have h2 := h b e; revert k; revert h2; exact (fun _ _ _ ⟨a, e, h⟩ k => ⟨a, e, Enc.mv _ h (Mv.of_keep k)⟩) v w w2, fun _ _ _ _ _ _ => trivial, fun _ _ _ _ _ _ => trivial, trivial⟩ ⟨?_, ?_, ?_, ?_, ?_, ?_, ?_, ?_, ?_, ?_, ?_, trivial⟩ ?_ ?_
        ·intro F1 w1 k1 hf hd vo hvo hvr
         have k0 := (Keep.drew [] w5655).trans k1
         have hbs_b5598 := hbs_b5598.keep k0 (by simp)
         obtain ⟨F2, rfl⟩ := lit_of (F := F1) [(11, Value.pointer (some ⟨b5598, 0, none⟩))] ⟨hf 11 (by kernel_rfl), trivial⟩
         exact sp_plain rfl ((o_loadBxA (vs := [vI ((waitC l threshold wait asked k).epoch), vI ((waitC l threshold wait asked k).threshold), vI ((waitC l threshold wait asked k).wait), vr0_b5598_3, vr0_b5598_4]) Try.underlying25 rfl s_25 rfl hbs_b5598 rfl (⟨(Keep.refl _ _), rfl, fun _ _ => trivial⟩)))
        ·intro F1 w1 k1 hf hd vo hvo hvr
         obtain ⟨F2, rfl⟩ := lit_of (F := F1) [(13, vI (0 : Int))] ⟨hf 13 (by kernel_rfl), trivial⟩
         exact sp_plain rfl ((o_move (vI (0 : Int)) rfl (⟨(Keep.refl _ _), rfl, fun _ _ => trivial⟩)))
        ·intro F1 w1 k1 hf hd vo hvo hvr
         obtain ⟨F2, rfl⟩ := lit_of (F := F1) [(0, l_v)] ⟨hf 0 (by kernel_rfl), trivial⟩
         exact sp_plain rfl ((o_move (l_v) rfl (⟨(Keep.refl _ _), h_l, fun _ _ => trivial⟩)))
        ·intro F1 w1 k1 hf hd vo hvo hvr
         obtain ⟨F2, rfl⟩ := lit_of (F := F1) [(15, vI ((k : Nat) : Int))] ⟨hf 15 (by kernel_rfl), trivial⟩
         exact sp_plain rfl ((o_move (vI ((k : Nat) : Int)) rfl (⟨(Keep.refl _ _), rfl, fun _ _ => trivial⟩)))
        ·intro F1 w1 k1 hf hd vo hvo hvr
         obtain ⟨v5917, e5919, hl5918⟩ : ∃ v, F1 76 = v ∧ RdL Enc.int w5655 ((b5647 :: Bl0) ++ O) v (l) := ⟨_, rfl, hd 2 76 (by kernel_rfl)⟩
         have := hl5918.len_le
         obtain ⟨F2, rfl⟩ := lit_of (F := F1) [(76, v5917), (77, vI ((k : Nat) : Int))] ⟨e5919, hd 3 77 (by kernel_rfl), trivial⟩
         exact sp_plain rfl ((o_idxU Try.underlying22 s_3 .i64 ((k : Nat) : Int) k rfl rfl rfl hl5918 (by omega) fun a5920 hp5921 => (⟨(Keep.refl _ _), ⟨a5920, rfl, hp5921⟩, fun _ _ => trivial⟩)))
        ·intro F1 w1 k1 hf hd vo hvo hvr
         have k0 := (Keep.drew [] w5655).trans k1
         obtain ⟨a5922, e5924, hp5923⟩ : ∃ a, F1 78 = .pointer (some a) ∧ PT Enc.int w5655 ((b5647 :: Bl0) ++ O) (.pointer (some a)) (l[k]!) := hd 4 78 (by kernel_rfl)
         obtain ⟨F2, rfl⟩ := lit_of (F := F1) [(78, Value.pointer (some a5922))] ⟨e5924, trivial⟩
         exact sp_plain rfl ((o_loadIU Try.underlying3 rfl rfl hp5923 k0 (⟨(Keep.refl _ _), rfl, fun _ _ => trivial⟩)))
        ·intro F1 w1 k1 hf hd vo hvo hvr
         have k0 := (Keep.drew [] w5655).trans k1
         obtain ⟨B1_, m1, s1, hs_, hb_⟩ : ∃ B1_ : List Nat, Mv (b5647 :: Bl0) w5655 B1_ w1 ∧ St w O w1 B1_ ∧ (∀ x ∈ (b5647 :: Bl0), x ∈ B1_) ∧ (∀ u, vo = some u → ∀ b, u = .pointer (some ⟨b, 0, none⟩) → B1_ = b :: (b5647 :: Bl0)) := by
          cases vo with
          | none => exact ⟨_, Mv.of_keep k0, s5656.call k0, fun _ h => h, fun _ e => (by cases e)⟩
          | some u =>
           obtain ⟨b, e, lo, hbx⟩ : (fun (vT : Value) (wT : World) => ∃ bT : Nat, vT = .pointer (some ⟨bT, 0, none⟩) ∧ w5655.heap.size ≤ bT ∧ Box wT bT 25 [vI (0 : Int), vI (0 : Int), vI (0 : Int), Value.slice none 0 0, Value.slice none 0 0]) u w1 := hvo u rfl
           exact ⟨b :: (b5647 :: Bl0), Mv.adopt k0 lo, (s5656.call k0).adopt (Nat.le_trans s5656.keep.size lo) hbx.lt, fun _ h => List.mem_cons_of_mem _ h, fun u' e' b' e'' => (by cases e'; rw [e] at e''; cases e''; rfl)⟩
         have hsb_ : ∀ x ∈ (b5647 :: Bl0) ++ O, x ∈ B1_ ++ O := fun x hx => List.mem_append.2 ((List.mem_append.1 hx).imp (hs_ x) id)
         have hrd0_b5598_3 := hrd0_b5598_3.mv m1
         have hrd0_b5598_4 := hrd0_b5598_4.mv m1
         obtain ⟨F2, rfl⟩ := lit_of (F := F1) [(74, Value.agg #[vI ((waitC l threshold wait asked k).epoch), vI ((waitC l threshold wait asked k).threshold), vI ((waitC l threshold wait asked k).wait), vr0_b5598_3, vr0_b5598_4]), (75, vI (0 : Int)), (79, vI (l[k]!))] ⟨hd 0 74 (by kernel_rfl), hd 1 75 (by kernel_rfl), hd 5 79 (by kernel_rfl), trivial⟩
         refine sp_plain rfl ((o_callK (vs := [Value.agg #[vI ((waitC l threshold wait asked k).epoch), vI ((waitC l threshold wait asked k).threshold), vI ((waitC l threshold wait asked k).wait), vr0_b5598_3, vr0_b5598_4], vI (0 : Int), vI (l[k]!)]) enter_18 (c_approve (O := B1_ ++ O) [vI ((waitC l threshold wait asked k).epoch), vI ((waitC l threshold wait asked k).threshold), vI ((waitC l threshold wait asked k).wait), vr0_b5598_3, vr0_b5598_4] (waitC l threshold wait asked k) (0 : Int) (l[k]!) w1 ⟨_, _, rfl, hrd0_b5598_3, hrd0_b5598_4⟩ s1.lt) rfl s1 fun v5925 w5926 s5927 m5928 k5929 r5930 => (?_)))
         obtain ⟨cs5931, rfl, hs5932⟩ := r5930
         exact ⟨k5929, ⟨cs5931, rfl, Enc.sub Enc.circle (x := (gAct (waitC l threshold wait asked k) (0 : Int) (fApprove (waitC l threshold wait asked k) (l[k]!))).1) hs5932 (fun x hx => .inl (hsb_ x hx))⟩, fun u eu b eb => by have e_ := hb_ u eu b eb; subst e_; exact ⟨cs5931, rfl, hs5932⟩⟩
        ·intro F1 w1 k1 hf hd vo hvo hvr
         have k0 := (Keep.drew [] w5655).trans k1
         obtain ⟨B1_, m1, s1, hs_, hb_, hd_80⟩ : ∃ B1_ : List Nat, Mv (b5647 :: Bl0) w5655 B1_ w1 ∧ St w O w1 B1_ ∧ (∀ x ∈ (b5647 :: Bl0), x ∈ B1_) ∧ (∀ u, vo = some u → ∀ b, u = .pointer (some ⟨b, 0, none⟩) → B1_ = b :: (b5647 :: Bl0)) ∧ (fun (vT : Value) (wT : World) => ∃ (xT0 : List Value), vT = .tuple #[.agg xT0.toArray, vI ((gAct (waitC l threshold wait asked k) (0 : Int) (fApprove (waitC l threshold wait asked k) (l[k]!))).2)] ∧ Enc.circle.rd wT (B1_ ++ O) xT0 ((gAct (waitC l threshold wait asked k) (0 : Int) (fApprove (waitC l threshold wait asked k) (l[k]!))).1)) (F1 80) w1 := by
          cases vo with
          | none => exact ⟨_, Mv.of_keep k0, s5656.call k0, fun _ h => h, fun _ e => (by cases e), hd 6 80 (by kernel_rfl)⟩
          | some u =>
           obtain ⟨b, e, lo, hbx⟩ : (fun (vT : Value) (wT : World) => ∃ bT : Nat, vT = .pointer (some ⟨bT, 0, none⟩) ∧ w5655.heap.size ≤ bT ∧ Box wT bT 25 [vI (0 : Int), vI (0 : Int), vI (0 : Int), Value.slice none 0 0, Value.slice none 0 0]) u w1 := hvo u rfl
           exact ⟨b :: (b5647 :: Bl0), Mv.adopt k0 lo, (s5656.call k0).adopt (Nat.le_trans s5656.keep.size lo) hbx.lt, fun _ h => List.mem_cons_of_mem _ h, fun u' e' b' e'' => (by cases e'; rw [e] at e''; cases e''; rfl), hvr u rfl 6 80 (by decide) (by kernel_rfl) b e⟩
         have hsb_ : ∀ x ∈ (b5647 :: Bl0) ++ O, x ∈ B1_ ++ O := fun x hx => List.mem_append.2 ((List.mem_append.1 hx).imp (hs_ x) id)
         obtain ⟨cs5933, e5935, hs5934⟩ : (fun (vT : Value) (wT : World) => ∃ (xT0 : List Value), vT = .tuple #[.agg xT0.toArray, vI ((gAct (waitC l threshold wait asked k) (0 : Int) (fApprove (waitC l threshold wait asked k) (l[k]!))).2)] ∧ Enc.circle.rd wT (B1_ ++ O) xT0 ((gAct (waitC l threshold wait asked k) (0 : Int) (fApprove (waitC l threshold wait asked k) (l[k]!))).1)) (F1 80) w1 := hd_80
         obtain ⟨F2, rfl⟩ := lit_of (F := F1) [(80, Value.tuple #[Value.agg cs5933.toArray, vI ((gAct (waitC l threshold wait asked k) (0 : Int) (fApprove (waitC l threshold wait asked k) (l[k]!))).2)])] ⟨e5935, trivial⟩
         exact sp_plain rfl ((o_move (Value.tuple #[Value.agg cs5933.toArray, vI ((gAct (waitC l threshold wait asked k) (0 : Int) (fApprove (waitC l threshold wait asked k) (l[k]!))).2)]) rfl (⟨(Keep.refl _ _), ⟨cs5933, rfl, Enc.sub Enc.circle (x := (gAct (waitC l threshold wait asked k) (0 : Int) (fApprove (waitC l threshold wait asked k) (l[k]!))).1) hs5934 (fun x hx => .inl (hsb_ x hx))⟩, fun u eu b eb => by have e_ := hb_ u eu b eb; subst e_; exact ⟨cs5933, rfl, hs5934⟩⟩)))
        ·intro F1 w1 k1 hf hd vo hvo hvr
         have k0 := (Keep.drew [] w5655).trans k1
         obtain ⟨B1_, m1, s1, hs_, hb_, hd_73⟩ : ∃ B1_ : List Nat, Mv (b5647 :: Bl0) w5655 B1_ w1 ∧ St w O w1 B1_ ∧ (∀ x ∈ (b5647 :: Bl0), x ∈ B1_) ∧ (∀ u, vo = some u → ∀ b, u = .pointer (some ⟨b, 0, none⟩) → B1_ = b :: (b5647 :: Bl0)) ∧ (fun (vT : Value) (wT : World) => ∃ (xT0 : List Value), vT = .tuple #[.agg xT0.toArray, vI ((gAct (waitC l threshold wait asked k) (0 : Int) (fApprove (waitC l threshold wait asked k) (l[k]!))).2)] ∧ Enc.circle.rd wT (B1_ ++ O) xT0 ((gAct (waitC l threshold wait asked k) (0 : Int) (fApprove (waitC l threshold wait asked k) (l[k]!))).1)) (F1 73) w1 := by
          cases vo with
          | none => exact ⟨_, Mv.of_keep k0, s5656.call k0, fun _ h => h, fun _ e => (by cases e), hd 7 73 (by kernel_rfl)⟩
          | some u =>
           obtain ⟨b, e, lo, hbx⟩ : (fun (vT : Value) (wT : World) => ∃ bT : Nat, vT = .pointer (some ⟨bT, 0, none⟩) ∧ w5655.heap.size ≤ bT ∧ Box wT bT 25 [vI (0 : Int), vI (0 : Int), vI (0 : Int), Value.slice none 0 0, Value.slice none 0 0]) u w1 := hvo u rfl
           exact ⟨b :: (b5647 :: Bl0), Mv.adopt k0 lo, (s5656.call k0).adopt (Nat.le_trans s5656.keep.size lo) hbx.lt, fun _ h => List.mem_cons_of_mem _ h, fun u' e' b' e'' => (by cases e'; rw [e] at e''; cases e''; rfl), hvr u rfl 7 73 (by decide) (by kernel_rfl) b e⟩
         have hsb_ : ∀ x ∈ (b5647 :: Bl0) ++ O, x ∈ B1_ ++ O := fun x hx => List.mem_append.2 ((List.mem_append.1 hx).imp (hs_ x) id)
         obtain ⟨cs5936, e5938, hs5937⟩ : (fun (vT : Value) (wT : World) => ∃ (xT0 : List Value), vT = .tuple #[.agg xT0.toArray, vI ((gAct (waitC l threshold wait asked k) (0 : Int) (fApprove (waitC l threshold wait asked k) (l[k]!))).2)] ∧ Enc.circle.rd wT (B1_ ++ O) xT0 ((gAct (waitC l threshold wait asked k) (0 : Int) (fApprove (waitC l threshold wait asked k) (l[k]!))).1)) (F1 73) w1 := hd_73
         obtain ⟨F2, rfl⟩ := lit_of (F := F1) [(73, Value.tuple #[Value.agg cs5936.toArray, vI ((gAct (waitC l threshold wait asked k) (0 : Int) (fApprove (waitC l threshold wait asked k) (l[k]!))).2)])] ⟨e5938, trivial⟩
         exact sp_plain rfl ((o_extract (Value.agg cs5936.toArray) rfl rfl (⟨(Keep.refl _ _), ⟨cs5936, rfl, Enc.sub Enc.circle (x := (gAct (waitC l threshold wait asked k) (0 : Int) (fApprove (waitC l threshold wait asked k) (l[k]!))).1) hs5937 (fun x hx => .inl (hsb_ x hx))⟩, fun u eu b eb => by have e_ := hb_ u eu b eb; subst e_; exact ⟨cs5936, rfl, hs5937⟩⟩)))
        ·intro F1 w1 k1 hf hd vo hvo hvr
         have k0 := (Keep.drew [] w5655).trans k1
         obtain ⟨B1_, m1, s1, hs_, hb_, hd_73⟩ : ∃ B1_ : List Nat, Mv (b5647 :: Bl0) w5655 B1_ w1 ∧ St w O w1 B1_ ∧ (∀ x ∈ (b5647 :: Bl0), x ∈ B1_) ∧ (∀ u, vo = some u → ∀ b, u = .pointer (some ⟨b, 0, none⟩) → B1_ = b :: (b5647 :: Bl0)) ∧ (fun (vT : Value) (wT : World) => ∃ (xT0 : List Value), vT = .tuple #[.agg xT0.toArray, vI ((gAct (waitC l threshold wait asked k) (0 : Int) (fApprove (waitC l threshold wait asked k) (l[k]!))).2)] ∧ Enc.circle.rd wT (B1_ ++ O) xT0 ((gAct (waitC l threshold wait asked k) (0 : Int) (fApprove (waitC l threshold wait asked k) (l[k]!))).1)) (F1 73) w1 := by
          cases vo with
          | none => exact ⟨_, Mv.of_keep k0, s5656.call k0, fun _ h => h, fun _ e => (by cases e), hd 7 73 (by kernel_rfl)⟩
          | some u =>
           obtain ⟨b, e, lo, hbx⟩ : (fun (vT : Value) (wT : World) => ∃ bT : Nat, vT = .pointer (some ⟨bT, 0, none⟩) ∧ w5655.heap.size ≤ bT ∧ Box wT bT 25 [vI (0 : Int), vI (0 : Int), vI (0 : Int), Value.slice none 0 0, Value.slice none 0 0]) u w1 := hvo u rfl
           exact ⟨b :: (b5647 :: Bl0), Mv.adopt k0 lo, (s5656.call k0).adopt (Nat.le_trans s5656.keep.size lo) hbx.lt, fun _ h => List.mem_cons_of_mem _ h, fun u' e' b' e'' => (by cases e'; rw [e] at e''; cases e''; rfl), hvr u rfl 7 73 (by decide) (by kernel_rfl) b e⟩
         have hsb_ : ∀ x ∈ (b5647 :: Bl0) ++ O, x ∈ B1_ ++ O := fun x hx => List.mem_append.2 ((List.mem_append.1 hx).imp (hs_ x) id)
         obtain ⟨cs5939, e5941, hs5940⟩ : (fun (vT : Value) (wT : World) => ∃ (xT0 : List Value), vT = .tuple #[.agg xT0.toArray, vI ((gAct (waitC l threshold wait asked k) (0 : Int) (fApprove (waitC l threshold wait asked k) (l[k]!))).2)] ∧ Enc.circle.rd wT (B1_ ++ O) xT0 ((gAct (waitC l threshold wait asked k) (0 : Int) (fApprove (waitC l threshold wait asked k) (l[k]!))).1)) (F1 73) w1 := hd_73
         obtain ⟨F2, rfl⟩ := lit_of (F := F1) [(73, Value.tuple #[Value.agg cs5939.toArray, vI ((gAct (waitC l threshold wait asked k) (0 : Int) (fApprove (waitC l threshold wait asked k) (l[k]!))).2)])] ⟨e5941, trivial⟩
         exact sp_plain rfl ((o_extract (vI ((gAct (waitC l threshold wait asked k) (0 : Int) (fApprove (waitC l threshold wait asked k) (l[k]!))).2)) rfl rfl (⟨(Keep.refl _ _), rfl, fun _ _ => trivial⟩)))
        ·refine ⟨rfl, ?_⟩
         intro F1 w1 k1 hf hd
         have k0 := (Keep.drew [] w5655).trans k1
         have s1 := s5656.call k0
         obtain ⟨F2, rfl⟩ := lit_of (F := F1) [] trivial
         refine id ((o_alloc [vI (0 : Int), vI (0 : Int), vI (0 : Int), Value.slice none 0 0, Value.slice none 0 0] z_25 rfl s1 fun b5942 w5943 e5948 s5944 m5945 k5946 bx5947 => (?_)))
         have lo5949 : w5655.heap.size ≤ b5942 := by have := k0.size; omega
         exact ⟨k5946, ⟨_, rfl, lo5949, bx5947⟩, ⟨fun _ _ => trivial, fun _ _ => trivial, fun _ _ => trivial, fun _ _ => trivial, fun _ _ => trivial, fun _ _ => trivial, fun x hx b e => by cases e; obtain ⟨y0, e, h0⟩ := hx; exact ⟨y0, e, Enc.mv _ h0 m5945⟩, fun x hx b e => by cases e; obtain ⟨y0, e, h0⟩ := hx; exact ⟨y0, e, Enc.mv _ h0 m5945⟩, fun x hx b e => by cases e; obtain ⟨a, e, h⟩ := hx; exact ⟨a, e, Enc.mv _ h m5945⟩, fun _ _ => trivial, fun _ _ => trivial, trivial⟩⟩
        ·intro F5951 w5952 k5950 hT5953 hR5957 hF5954
         obtain ⟨v5959, e5961, hl5960⟩ : ∃ v, F5951 76 = v ∧ RdL Enc.int w5655 ((b5647 :: Bl0) ++ O) v (l) := ⟨_, rfl, hT5953 2 76 (by kernel_rfl) (by decide)⟩
         have := hl5960.len_le
         obtain ⟨a5962, e5964, hp5963⟩ : ∃ a, F5951 78 = .pointer (some a) ∧ PT Enc.int w5655 ((b5647 :: Bl0) ++ O) (.pointer (some a)) (l[k]!) := hT5953 4 78 (by kernel_rfl) (by decide)
         obtain ⟨b5965, e5966, lo5967, bx5968⟩ : (fun (vT : Value) (wT : World) => ∃ bT : Nat, vT = .pointer (some ⟨bT, 0, none⟩) ∧ w5655.heap.size ≤ bT ∧ Box wT bT 25 [vI (0 : Int), vI (0 : Int), vI (0 : Int), Value.slice none 0 0, Value.slice none 0 0]) (F5951 18) w5952 := hT5953 10 18 (by kernel_rfl) (by decide)
         have ne5969 : b5598 ≠ b5965 := by have := hbs_b5598.lt; omega
         have ne5970 : b5647 ≠ b5965 := by have := bx5659.lt; omega
         have s5955 := (s5656.call k5950).adopt (Nat.le_trans s5656.keep.size lo5967) bx5968.lt
         have m5956 : Mv (b5647 :: Bl0) w5655 (b5965 :: (b5647 :: Bl0)) w5952 := Mv.adopt k5950 lo5967
         obtain ⟨cs5971, e5973, hs5972⟩ : (fun (vT : Value) (wT : World) => ∃ (xT0 : List Value), vT = .tuple #[.agg xT0.toArray, vI ((gAct (waitC l threshold wait asked k) (0 : Int) (fApprove (waitC l threshold wait asked k) (l[k]!))).2)] ∧ Enc.circle.rd wT ((b5965 :: (b5647 :: Bl0)) ++ O) xT0 ((gAct (waitC l threshold wait asked k) (0 : Int) (fApprove (waitC l threshold wait asked k) (l[k]!))).1)) (F5951 73) w5952 := hR5957 18 7 73 (by kernel_rfl) (by kernel_rfl) (by decide) (by decide) b5965 e5966
         obtain ⟨cs5974, e5976, hs5975⟩ : (fun (vT : Value) (wT : World) => ∃ (xT0 : List Value), vT = .tuple #[.agg xT0.toArray, vI ((gAct (waitC l threshold wait asked k) (0 : Int) (fApprove (waitC l threshold wait asked k) (l[k]!))).2)] ∧ Enc.circle.rd wT ((b5965 :: (b5647 :: Bl0)) ++ O) xT0 ((gAct (waitC l threshold wait asked k) (0 : Int) (fApprove (waitC l threshold wait asked k) (l[k]!))).1)) (F5951 80) w5952 := hR5957 18 6 80 (by kernel_rfl) (by kernel_rfl) (by decide) (by decide) b5965 e5966
         obtain ⟨cs5977, e5979, hs5978⟩ : ∃ cs : List Value, F5951 81 = .agg cs.toArray ∧ Enc.circle.rd w5952 ((b5965 :: (b5647 :: Bl0)) ++ O) cs ((gAct (waitC l threshold wait asked k) (0 : Int) (fApprove (waitC l threshold wait asked k) (l[k]!))).1) := hR5957 18 8 81 (by kernel_rfl) (by kernel_rfl) (by decide) (by decide) b5965 e5966
         have h_l := h_l.mv m5956
         have hbs_b5598 := hbs_b5598.keep k5950 (by simp)
         obtain ⟨F2, rfl⟩ := lit_of (F := F5951) [(0, l_v), (1, vI threshold), (2, vI wait), (3, vI asked), (4, vI day), (11, Value.pointer (some ⟨b5598, 0, none⟩)), (13, vI (0 : Int)), (15, vI ((k : Nat) : Int)), (117, undef), (18, Value.pointer (some ⟨b5965, 0, none⟩)), (73, Value.tuple #[Value.agg cs5971.toArray, vI ((gAct (waitC l threshold wait asked k) (0 : Int) (fApprove (waitC l threshold wait asked k) (l[k]!))).2)]), (76, v5959), (78, Value.pointer (some a5962)), (80, Value.tuple #[Value.agg cs5974.toArray, vI ((gAct (waitC l threshold wait asked k) (0 : Int) (fApprove (waitC l threshold wait asked k) (l[k]!))).2)]), (81, Value.agg cs5977.toArray), (82, vI ((gAct (waitC l threshold wait asked k) (0 : Int) (fApprove (waitC l threshold wait asked k) (l[k]!))).2))] ⟨hF5954 0 (by kernel_rfl), hF5954 1 (by kernel_rfl), hF5954 2 (by kernel_rfl), hF5954 3 (by kernel_rfl), hF5954 4 (by kernel_rfl), hF5954 11 (by kernel_rfl), hF5954 13 (by kernel_rfl), hF5954 15 (by kernel_rfl), hF5954 117 (by kernel_rfl), e5966, e5973, e5961, e5964, e5976, e5979, hT5953 9 82 (by kernel_rfl) (by decide), trivial⟩
         clear hT5953 hF5954
         obtain ⟨d5985, d5987, rfl, hd5986, hd5988⟩ := hs5978
         have := hd5986.len_le
         have := hd5988.len_le
         refine wl_n (o_store (vs := [vI (((gAct (waitC l threshold wait asked k) (0 : Int) (fApprove (waitC l threshold wait asked k) (l[k]!))).1).epoch), vI (((gAct (waitC l threshold wait asked k) (0 : Int) (fApprove (waitC l threshold wait asked k) (l[k]!))).1).threshold), vI (((gAct (waitC l threshold wait asked k) (0 : Int) (fApprove (waitC l threshold wait asked k) (l[k]!))).1).wait), d5985, d5987]) (.agg #[vI (((gAct (waitC l threshold wait asked k) (0 : Int) (fApprove (waitC l threshold wait asked k) (l[k]!))).1).epoch), vI (((gAct (waitC l threshold wait asked k) (0 : Int) (fApprove (waitC l threshold wait asked k) (l[k]!))).1).threshold), vI (((gAct (waitC l threshold wait asked k) (0 : Int) (fApprove (waitC l threshold wait asked k) (l[k]!))).1).wait), d5985, d5987]) rfl rfl rfl s_25 (fun u hu => by simp only [List.mem_cons, List.not_mem_nil, or_false] at hu; rcases hu with rfl | rfl | rfl | rfl | rfl <;> first | rfl | exact hd5986.oneCell | exact hd5988.oneCell) (by repeat (first | assumption | constructor)) bx5968 (of_decide_eq_true rfl) s5955 fun w5980 s5981 m5982 k5983 bx5984 => (?_))
         have h_l := h_l.mv m5982
         have hd5986 := hd5986.mv m5982
         have hd5988 := hd5988.mv m5982
         have hbs_b5598 := hbs_b5598.keep k5983 (nin1 ne5969)
         refine wl_s (o_assign (vI ((gAct (waitC l threshold wait asked k) (0 : Int) (fApprove (waitC l threshold wait asked k) (l[k]!))).2)) rfl (wl_nil (thenQ_n (?_))))
         refine cw_seq (?_)
         refine cw_seq (?_)
         refine cw_region (by kernel_rfl) (wl_s (o_move (vI ((gAct (waitC l threshold wait asked k) (0 : Int) (fApprove (waitC l threshold wait asked k) (l[k]!))).2)) rfl (wl_s (o_neq .i64 ((gAct (waitC l threshold wait asked k) (0 : Int) (fApprove (waitC l threshold wait asked k) (l[k]!))).2) (0 : Int) rfl rfl (wl_nil (thenQ_n (?_)))))))
         have hb5989 : (((gAct (waitC l threshold wait asked k) (0 : Int) (fApprove (waitC l threshold wait asked k) (l[k]!))).2) != (0 : Int)) = false := (by rw [wait_app hc ha (by omega)]; rfl)
         rw [hb5989]
         refine cw_cond false rfl rfl (fun h => by cases h) (fun _ => ?_)
         refine cw_skip (thenQ_n (?_))
         refine cw_region (by kernel_rfl) (wl_s (o_loadBxA (vs := [vI (((gAct (waitC l threshold wait asked k) (0 : Int) (fApprove (waitC l threshold wait asked k) (l[k]!))).1).epoch), vI (((gAct (waitC l threshold wait asked k) (0 : Int) (fApprove (waitC l threshold wait asked k) (l[k]!))).1).threshold), vI (((gAct (waitC l threshold wait asked k) (0 : Int) (fApprove (waitC l threshold wait asked k) (l[k]!))).1).wait), d5985, d5987]) Try.underlying25 rfl s_25 rfl bx5984 rfl (wl_n (o_store (vs := [vI (((gAct (waitC l threshold wait asked k) (0 : Int) (fApprove (waitC l threshold wait asked k) (l[k]!))).1).epoch), vI (((gAct (waitC l threshold wait asked k) (0 : Int) (fApprove (waitC l threshold wait asked k) (l[k]!))).1).threshold), vI (((gAct (waitC l threshold wait asked k) (0 : Int) (fApprove (waitC l threshold wait asked k) (l[k]!))).1).wait), d5985, d5987]) (.agg #[vI (((gAct (waitC l threshold wait asked k) (0 : Int) (fApprove (waitC l threshold wait asked k) (l[k]!))).1).epoch), vI (((gAct (waitC l threshold wait asked k) (0 : Int) (fApprove (waitC l threshold wait asked k) (l[k]!))).1).threshold), vI (((gAct (waitC l threshold wait asked k) (0 : Int) (fApprove (waitC l threshold wait asked k) (l[k]!))).1).wait), d5985, d5987]) rfl rfl rfl s_25 (fun u hu => by simp only [List.mem_cons, List.not_mem_nil, or_false] at hu; rcases hu with rfl | rfl | rfl | rfl | rfl <;> first | rfl | exact hd5986.oneCell | exact hd5988.oneCell) (by repeat (first | assumption | constructor)) hbs_b5598 (of_decide_eq_true rfl) s5981 fun w5990 s5991 m5992 k5993 bx5994 => (?_)))))
         have h_l := h_l.mv m5992
         have hd5986 := hd5986.mv m5992
         have hd5988 := hd5988.mv m5992
         refine wl_nil (blockQ_n (thenQ_n (?_)))
         refine cw_region (by kernel_rfl) (wl_s (o_move (vI ((k : Nat) : Int)) rfl (wl_s (o_add .i64 ((k : Nat) : Int) (1 : Int) (((k + 1 : Nat) : Int)) rfl rfl (w64 (by omega) (by omega)) (wl_s (o_assign (vI ((k + 1 : Nat) : Int)) rfl (wl_nil (thenQ_n (?_)))))))))
         exact ⟨_, (by omega), (k + 1), d5985, d5987, (b5965 :: (b5647 :: Bl0)), (by first | omega | (simp; done) | (simp; omega) | simp_all), rfl, ⟨_, upds_self _ ⟨rfl, rfl, rfl, rfl, rfl, rfl, rfl, (by first | rfl | exact congrArg (Value.int _) (by first | omega | (simp))), rfl, trivial⟩⟩, s5991, (by rw [show (waitC l threshold wait asked (k + 1)).guardians = ((gAct (waitC l threshold wait asked k) (0 : Int) (fApprove (waitC l threshold wait asked k) (l[k]!))).1).guardians from by rw [wait_app hc ha (by omega)]]; exact hd5986), (by rw [show (waitC l threshold wait asked (k + 1)).recs = ((gAct (waitC l threshold wait asked k) (0 : Int) (fApprove (waitC l threshold wait asked k) (l[k]!))).1).recs from by rw [wait_app hc ha (by omega)]]; exact hd5988), h_l, (by rw [show ([vI ((waitC l threshold wait asked (k + 1)).epoch), vI ((waitC l threshold wait asked (k + 1)).threshold), vI ((waitC l threshold wait asked (k + 1)).wait), d5985, d5987] : List Value) = [vI (((gAct (waitC l threshold wait asked k) (0 : Int) (fApprove (waitC l threshold wait asked k) (l[k]!))).1).epoch), vI (((gAct (waitC l threshold wait asked k) (0 : Int) (fApprove (waitC l threshold wait asked k) (l[k]!))).1).threshold), vI (((gAct (waitC l threshold wait asked k) (0 : Int) (fApprove (waitC l threshold wait asked k) (l[k]!))).1).wait), d5985, d5987] from by rw [wait_app hc ha (by omega)]]; exact bx5994), (by first | assumption | (repeat (first | exact List.mem_cons_self | assumption | apply List.mem_cons_of_mem)) | (apply_assumption; assumption))⟩
        ·intro cx_ hcx_
         match cx_, hcx_ with
         | 0, _ =>
          intro F5996 w5997 k5995 hT5998 hR6002 hF5999
          obtain ⟨v6004, e6006, hl6005⟩ : ∃ v, F5996 76 = v ∧ RdL Enc.int w5655 ((b5647 :: Bl0) ++ O) v (l) := ⟨_, rfl, hT5998 2 76 (by kernel_rfl) (by decide) (by decide)⟩
          have := hl6005.len_le
          obtain ⟨a6007, e6009, hp6008⟩ : ∃ a, F5996 78 = .pointer (some a) ∧ PT Enc.int w5655 ((b5647 :: Bl0) ++ O) (.pointer (some a)) (l[k]!) := hT5998 4 78 (by kernel_rfl) (by decide) (by decide)
          obtain ⟨b6010, e6011, lo6012, bx6013⟩ : (fun (vT : Value) (wT : World) => ∃ bT : Nat, vT = .pointer (some ⟨bT, 0, none⟩) ∧ w5655.heap.size ≤ bT ∧ Box wT bT 25 [vI (0 : Int), vI (0 : Int), vI (0 : Int), Value.slice none 0 0, Value.slice none 0 0]) (F5996 18) w5997 := hT5998 10 18 (by kernel_rfl) (by decide) (by decide)
          have ne6014 : b5598 ≠ b6010 := by have := hbs_b5598.lt; omega
          have ne6015 : b5647 ≠ b6010 := by have := bx5659.lt; omega
          have s6000 := (s5656.call k5995).adopt (Nat.le_trans s5656.keep.size lo6012) bx6013.lt
          have m6001 : Mv (b5647 :: Bl0) w5655 (b6010 :: (b5647 :: Bl0)) w5997 := Mv.adopt k5995 lo6012
          obtain ⟨cs6016, e6018, hs6017⟩ : (fun (vT : Value) (wT : World) => ∃ (xT0 : List Value), vT = .tuple #[.agg xT0.toArray, vI ((gAct (waitC l threshold wait asked k) (0 : Int) (fApprove (waitC l threshold wait asked k) (l[k]!))).2)] ∧ Enc.circle.rd wT ((b6010 :: (b5647 :: Bl0)) ++ O) xT0 ((gAct (waitC l threshold wait asked k) (0 : Int) (fApprove (waitC l threshold wait asked k) (l[k]!))).1)) (F5996 73) w5997 := hR6002 18 7 73 (by kernel_rfl) (by kernel_rfl) (by decide) (by decide) (by decide) b6010 e6011
          obtain ⟨cs6019, e6021, hs6020⟩ : (fun (vT : Value) (wT : World) => ∃ (xT0 : List Value), vT = .tuple #[.agg xT0.toArray, vI ((gAct (waitC l threshold wait asked k) (0 : Int) (fApprove (waitC l threshold wait asked k) (l[k]!))).2)] ∧ Enc.circle.rd wT ((b6010 :: (b5647 :: Bl0)) ++ O) xT0 ((gAct (waitC l threshold wait asked k) (0 : Int) (fApprove (waitC l threshold wait asked k) (l[k]!))).1)) (F5996 80) w5997 := hR6002 18 6 80 (by kernel_rfl) (by kernel_rfl) (by decide) (by decide) (by decide) b6010 e6011
          obtain ⟨cs6022, e6024, hs6023⟩ : ∃ cs : List Value, F5996 81 = .agg cs.toArray ∧ Enc.circle.rd w5997 ((b6010 :: (b5647 :: Bl0)) ++ O) cs ((gAct (waitC l threshold wait asked k) (0 : Int) (fApprove (waitC l threshold wait asked k) (l[k]!))).1) := hR6002 18 8 81 (by kernel_rfl) (by kernel_rfl) (by decide) (by decide) (by decide) b6010 e6011
          have h_l := h_l.mv m6001
          have hbs_b5598 := hbs_b5598.keep k5995 (by simp)
          obtain ⟨F2, rfl⟩ := lit_of (F := F5996) [(0, l_v), (1, vI threshold), (2, vI wait), (3, vI asked), (4, vI day), (11, Value.pointer (some ⟨b5598, 0, none⟩)), (13, vI (0 : Int)), (15, vI ((k : Nat) : Int)), (117, undef), (18, Value.pointer (some ⟨b6010, 0, none⟩)), (73, Value.tuple #[Value.agg cs6016.toArray, vI ((gAct (waitC l threshold wait asked k) (0 : Int) (fApprove (waitC l threshold wait asked k) (l[k]!))).2)]), (76, v6004), (78, Value.pointer (some a6007)), (80, Value.tuple #[Value.agg cs6019.toArray, vI ((gAct (waitC l threshold wait asked k) (0 : Int) (fApprove (waitC l threshold wait asked k) (l[k]!))).2)]), (81, Value.agg cs6022.toArray)] ⟨hF5999 0 (by kernel_rfl), hF5999 1 (by kernel_rfl), hF5999 2 (by kernel_rfl), hF5999 3 (by kernel_rfl), hF5999 4 (by kernel_rfl), hF5999 11 (by kernel_rfl), hF5999 13 (by kernel_rfl), hF5999 15 (by kernel_rfl), hF5999 117 (by kernel_rfl), e6011, e6018, e6006, e6009, e6021, e6024, trivial⟩
          clear hT5998 hF5999
          obtain ⟨d6030, d6032, rfl, hd6031, hd6033⟩ := hs6023
          have := hd6031.len_le
          have := hd6033.len_le
          refine wl_n (o_store (vs := [vI (((gAct (waitC l threshold wait asked k) (0 : Int) (fApprove (waitC l threshold wait asked k) (l[k]!))).1).epoch), vI (((gAct (waitC l threshold wait asked k) (0 : Int) (fApprove (waitC l threshold wait asked k) (l[k]!))).1).threshold), vI (((gAct (waitC l threshold wait asked k) (0 : Int) (fApprove (waitC l threshold wait asked k) (l[k]!))).1).wait), d6030, d6032]) (.agg #[vI (((gAct (waitC l threshold wait asked k) (0 : Int) (fApprove (waitC l threshold wait asked k) (l[k]!))).1).epoch), vI (((gAct (waitC l threshold wait asked k) (0 : Int) (fApprove (waitC l threshold wait asked k) (l[k]!))).1).threshold), vI (((gAct (waitC l threshold wait asked k) (0 : Int) (fApprove (waitC l threshold wait asked k) (l[k]!))).1).wait), d6030, d6032]) rfl rfl rfl s_25 (fun u hu => by simp only [List.mem_cons, List.not_mem_nil, or_false] at hu; rcases hu with rfl | rfl | rfl | rfl | rfl <;> first | rfl | exact hd6031.oneCell | exact hd6033.oneCell) (by repeat (first | assumption | constructor)) bx6013 (of_decide_eq_true rfl) s6000 fun w6025 s6026 m6027 k6028 bx6029 => (?_))
          have h_l := h_l.mv m6027
          have hd6031 := hd6031.mv m6027
          have hd6033 := hd6033.mv m6027
          have hbs_b5598 := hbs_b5598.keep k6028 (nin1 ne6014)
          refine wl_s (o_extract (vI ((gAct (waitC l threshold wait asked k) (0 : Int) (fApprove (waitC l threshold wait asked k) (l[k]!))).2)) rfl rfl (wl_s (o_assign (vI ((gAct (waitC l threshold wait asked k) (0 : Int) (fApprove (waitC l threshold wait asked k) (l[k]!))).2)) rfl (wl_nil (thenQ_n (?_))))))
          refine cw_seq (?_)
          refine cw_seq (?_)
          refine cw_region (by kernel_rfl) (wl_s (o_move (vI ((gAct (waitC l threshold wait asked k) (0 : Int) (fApprove (waitC l threshold wait asked k) (l[k]!))).2)) rfl (wl_s (o_neq .i64 ((gAct (waitC l threshold wait asked k) (0 : Int) (fApprove (waitC l threshold wait asked k) (l[k]!))).2) (0 : Int) rfl rfl (wl_nil (thenQ_n (?_)))))))
          have hb6034 : (((gAct (waitC l threshold wait asked k) (0 : Int) (fApprove (waitC l threshold wait asked k) (l[k]!))).2) != (0 : Int)) = false := (by rw [wait_app hc ha (by omega)]; rfl)
          rw [hb6034]
          refine cw_cond false rfl rfl (fun h => by cases h) (fun _ => ?_)
          refine cw_skip (thenQ_n (?_))
          refine cw_region (by kernel_rfl) (wl_s (o_loadBxA (vs := [vI (((gAct (waitC l threshold wait asked k) (0 : Int) (fApprove (waitC l threshold wait asked k) (l[k]!))).1).epoch), vI (((gAct (waitC l threshold wait asked k) (0 : Int) (fApprove (waitC l threshold wait asked k) (l[k]!))).1).threshold), vI (((gAct (waitC l threshold wait asked k) (0 : Int) (fApprove (waitC l threshold wait asked k) (l[k]!))).1).wait), d6030, d6032]) Try.underlying25 rfl s_25 rfl bx6029 rfl (wl_n (o_store (vs := [vI (((gAct (waitC l threshold wait asked k) (0 : Int) (fApprove (waitC l threshold wait asked k) (l[k]!))).1).epoch), vI (((gAct (waitC l threshold wait asked k) (0 : Int) (fApprove (waitC l threshold wait asked k) (l[k]!))).1).threshold), vI (((gAct (waitC l threshold wait asked k) (0 : Int) (fApprove (waitC l threshold wait asked k) (l[k]!))).1).wait), d6030, d6032]) (.agg #[vI (((gAct (waitC l threshold wait asked k) (0 : Int) (fApprove (waitC l threshold wait asked k) (l[k]!))).1).epoch), vI (((gAct (waitC l threshold wait asked k) (0 : Int) (fApprove (waitC l threshold wait asked k) (l[k]!))).1).threshold), vI (((gAct (waitC l threshold wait asked k) (0 : Int) (fApprove (waitC l threshold wait asked k) (l[k]!))).1).wait), d6030, d6032]) rfl rfl rfl s_25 (fun u hu => by simp only [List.mem_cons, List.not_mem_nil, or_false] at hu; rcases hu with rfl | rfl | rfl | rfl | rfl <;> first | rfl | exact hd6031.oneCell | exact hd6033.oneCell) (by repeat (first | assumption | constructor)) hbs_b5598 (of_decide_eq_true rfl) s6026 fun w6035 s6036 m6037 k6038 bx6039 => (?_)))))
          have h_l := h_l.mv m6037
          have hd6031 := hd6031.mv m6037
          have hd6033 := hd6033.mv m6037
          refine wl_nil (blockQ_n (thenQ_n (?_)))
          refine cw_region (by kernel_rfl) (wl_s (o_move (vI ((k : Nat) : Int)) rfl (wl_s (o_add .i64 ((k : Nat) : Int) (1 : Int) (((k + 1 : Nat) : Int)) rfl rfl (w64 (by omega) (by omega)) (wl_s (o_assign (vI ((k + 1 : Nat) : Int)) rfl (wl_nil (thenQ_n (?_)))))))))
          exact ⟨_, (by omega), (k + 1), d6030, d6032, (b6010 :: (b5647 :: Bl0)), (by first | omega | (simp; done) | (simp; omega) | simp_all), rfl, ⟨_, upds_self _ ⟨rfl, rfl, rfl, rfl, rfl, rfl, rfl, (by first | rfl | exact congrArg (Value.int _) (by first | omega | (simp))), rfl, trivial⟩⟩, s6036, (by rw [show (waitC l threshold wait asked (k + 1)).guardians = ((gAct (waitC l threshold wait asked k) (0 : Int) (fApprove (waitC l threshold wait asked k) (l[k]!))).1).guardians from by rw [wait_app hc ha (by omega)]]; exact hd6031), (by rw [show (waitC l threshold wait asked (k + 1)).recs = ((gAct (waitC l threshold wait asked k) (0 : Int) (fApprove (waitC l threshold wait asked k) (l[k]!))).1).recs from by rw [wait_app hc ha (by omega)]]; exact hd6033), h_l, (by rw [show ([vI ((waitC l threshold wait asked (k + 1)).epoch), vI ((waitC l threshold wait asked (k + 1)).threshold), vI ((waitC l threshold wait asked (k + 1)).wait), d6030, d6032] : List Value) = [vI (((gAct (waitC l threshold wait asked k) (0 : Int) (fApprove (waitC l threshold wait asked k) (l[k]!))).1).epoch), vI (((gAct (waitC l threshold wait asked k) (0 : Int) (fApprove (waitC l threshold wait asked k) (l[k]!))).1).threshold), vI (((gAct (waitC l threshold wait asked k) (0 : Int) (fApprove (waitC l threshold wait asked k) (l[k]!))).1).wait), d6030, d6032] from by rw [wait_app hc ha (by omega)]]; exact bx6039), (by first | assumption | (repeat (first | exact List.mem_cons_self | assumption | apply List.mem_cons_of_mem)) | (apply_assumption; assumption))⟩
     ·have hp6040 : threshold ≤ ((k : Nat) : Int) := by first | simpa using hc5637 | (have e := hc5637; simp at e; omega)
      refine cw_exit (thenQ_x (thenQ_x (blockQ_x (thenQ_n (?_)))))
      refine cw_seq (?_)
      refine cw_region (by kernel_rfl) (wl_s (o_loadBxA (vs := [vI ((waitC l threshold wait asked k).epoch), vI ((waitC l threshold wait asked k).threshold), vI ((waitC l threshold wait asked k).wait), vr0_b5598_3, vr0_b5598_4]) Try.underlying25 rfl s_25 rfl hbs_b5598 rfl (wl_s (o_move (vI (0 : Int)) rfl (wl_s (o_move (vI day) rfl (wl_s (o_callK (vs := [Value.agg #[vI ((waitC l threshold wait asked k).epoch), vI ((waitC l threshold wait asked k).threshold), vI ((waitC l threshold wait asked k).wait), vr0_b5598_3, vr0_b5598_4], vI (0 : Int), vI day]) enter_22 (c_finish (O := Bl0 ++ O) [vI ((waitC l threshold wait asked k).epoch), vI ((waitC l threshold wait asked k).threshold), vI ((waitC l threshold wait asked k).wait), vr0_b5598_3, vr0_b5598_4] (waitC l threshold wait asked k) (0 : Int) day wl0 ⟨_, _, rfl, hrd0_b5598_3, hrd0_b5598_4⟩ sl0.lt) rfl sl0 fun v6041 w6042 s6043 m6044 k6045 r6046 => (?_)))))))))
      obtain ⟨cs6047, rfl, hs6048⟩ := r6046
      have hbs_b5598 := hbs_b5598.keep k6045 (by simp)
      refine wl_s (o_move (Value.tuple #[Value.agg cs6047.toArray, vI ((gAct (waitC l threshold wait asked k) (0 : Int) (fFinish (waitC l threshold wait asked k) day)).2)]) rfl (wl_s (o_extract (Value.agg cs6047.toArray) rfl rfl (wl_s (o_extract (vI ((gAct (waitC l threshold wait asked k) (0 : Int) (fFinish (waitC l threshold wait asked k) day)).2)) rfl rfl (wl_s (o_alloc [vI (0 : Int), vI (0 : Int), vI (0 : Int), Value.slice none 0 0, Value.slice none 0 0] z_25 rfl s6043 fun b6049 w6050 e6055 s6051 m6052 k6053 bx6054 => (?_))))))))
      have ne6056 : b5598 ≠ b6049 := by have := hbs_b5598.lt; omega
      clear e6055
      have hs6048 : Enc.circle.rd w6050 ((b6049 :: Bl0) ++ O) cs6047 ((gAct (waitC l threshold wait asked k) (0 : Int) (fFinish (waitC l threshold wait asked k) day)).1) := Enc.mv Enc.circle (x := (gAct (waitC l threshold wait asked k) (0 : Int) (fFinish (waitC l threshold wait asked k) day)).1) hs6048 m6052
      obtain ⟨d6062, d6064, rfl, hd6063, hd6065⟩ := hs6048
      have := hd6063.len_le
      have := hd6065.len_le
      refine wl_n (o_store (vs := [vI (((gAct (waitC l threshold wait asked k) (0 : Int) (fFinish (waitC l threshold wait asked k) day)).1).epoch), vI (((gAct (waitC l threshold wait asked k) (0 : Int) (fFinish (waitC l threshold wait asked k) day)).1).threshold), vI (((gAct (waitC l threshold wait asked k) (0 : Int) (fFinish (waitC l threshold wait asked k) day)).1).wait), d6062, d6064]) (.agg #[vI (((gAct (waitC l threshold wait asked k) (0 : Int) (fFinish (waitC l threshold wait asked k) day)).1).epoch), vI (((gAct (waitC l threshold wait asked k) (0 : Int) (fFinish (waitC l threshold wait asked k) day)).1).threshold), vI (((gAct (waitC l threshold wait asked k) (0 : Int) (fFinish (waitC l threshold wait asked k) day)).1).wait), d6062, d6064]) rfl rfl rfl s_25 (fun u hu => by simp only [List.mem_cons, List.not_mem_nil, or_false] at hu; rcases hu with rfl | rfl | rfl | rfl | rfl <;> first | rfl | exact hd6063.oneCell | exact hd6065.oneCell) (by repeat (first | assumption | constructor)) bx6054 (of_decide_eq_true rfl) s6051 fun w6057 s6058 m6059 k6060 bx6061 => (?_))
      refine wl_s (o_assign (vI ((gAct (waitC l threshold wait asked k) (0 : Int) (fFinish (waitC l threshold wait asked k) day)).2)) rfl (wl_nil (thenQ_n (?_))))
      refine cw_seq (?_)
      refine cw_seq (?_)
      refine cw_region (by kernel_rfl) (wl_s (o_move (vI day) rfl (wl_s (o_lss .i64 day (0 : Int) rfl rfl (wl_s (o_move (Value.bool (decide (day < (0 : Int)))) rfl (?_)))))))
      cases hb6066 : (decide (day < (0 : Int)))
      ·have hp6067 : (0 : Int) ≤ day := by first | simpa using hb6066 | (have e := hb6066; simp at e; omega)
       refine wl_t rfl (o_move (vI day) rfl (wl_t rfl (o_geq .i64 day (1024 : Int) rfl rfl (wl_s (o_pickF (Value.bool (decide ((1024 : Int) ≤ day))) rfl rfl (wl_nil (thenQ_n (?_))))))))
       refine cw_cond (decide ((1024 : Int) ≤ day)) rfl rfl (fun hc6068 => ?_) (fun hc6068 => ?_)
       ·have hp6069 : (1024 : Int) ≤ day := by first | simpa using hc6068 | (have e := hc6068; simp at e; omega)
        refine cw_seq (?_)
        refine cw_region (by kernel_rfl) (wl_s (o_move (vI ((gAct (waitC l threshold wait asked k) (0 : Int) (fFinish (waitC l threshold wait asked k) day)).2)) rfl (wl_s (o_eql .i64 ((gAct (waitC l threshold wait asked k) (0 : Int) (fFinish (waitC l threshold wait asked k) day)).2) (1 : Int) rfl rfl (wl_s (o_assign (Value.bool (((gAct (waitC l threshold wait asked k) (0 : Int) (fFinish (waitC l threshold wait asked k) day)).2) == (1 : Int))) rfl (wl_nil (thenQ_n (?_)))))))))
        refine cw_ret (thenQ_r (end_r rfl (res1 rfl rfl rfl) (?_)))
        have e : true = (((gAct (waitC l threshold wait asked k) (0 : Int) (fFinish (waitC l threshold wait asked k) day)).2) == (1 : Int)) := by first | rfl | (rw [wait_bad hc ha (by omega) (by omega)]; rfl) | (rw [wait_451 hc ha (by omega) (by omega) (by omega) (by omega) (by assumption)]; rfl)
        exact ⟨_, rfl, s6058.keep, by rw [e]; exact rfl⟩
       ·have hp6070 : day < (1024 : Int) := by first | simpa using hc6068 | (have e := hc6068; simp at e; omega)
        refine cw_skip (thenQ_n (?_))
        refine cw_seq (?_)
        refine cw_region (by kernel_rfl) (wl_s (o_move (vI ((gAct (waitC l threshold wait asked k) (0 : Int) (fFinish (waitC l threshold wait asked k) day)).2)) rfl (wl_s (o_eql .i64 ((gAct (waitC l threshold wait asked k) (0 : Int) (fFinish (waitC l threshold wait asked k) day)).2) (0 : Int) rfl rfl (wl_s (o_move (vI day) rfl (wl_s (o_move (vI asked) rfl (wl_s (o_sub .i64 day asked (day - asked) rfl rfl (w64 (by have := isDay_iff.1 ha; omega) rfl) (wl_s (o_move (vI wait) rfl (wl_s (o_geq .i64 (day - asked) wait rfl rfl (wl_s (o_eqlB (((gAct (waitC l threshold wait asked k) (0 : Int) (fFinish (waitC l threshold wait asked k) day)).2) == (0 : Int)) (decide (wait ≤ day - asked)) Try.underlying4 rfl rfl (wl_s (o_move (Value.bool ((((gAct (waitC l threshold wait asked k) (0 : Int) (fFinish (waitC l threshold wait asked k) day)).2) == (0 : Int)) == (decide (wait ≤ day - asked)))) rfl (?_)))))))))))))))))))
        have hb6071 : ((((gAct (waitC l threshold wait asked k) (0 : Int) (fFinish (waitC l threshold wait asked k) day)).2) == (0 : Int)) == (decide (wait ≤ day - asked))) = true := (wait_eq hc ha (by omega) (by omega) (by omega) (by omega))
        rw [hb6071]
        refine wl_t rfl (o_move (vI ((gAct (waitC l threshold wait asked k) (0 : Int) (fFinish (waitC l threshold wait asked k) day)).2)) rfl (wl_t rfl (o_eql .i64 ((gAct (waitC l threshold wait asked k) (0 : Int) (fFinish (waitC l threshold wait asked k) day)).2) (0 : Int) rfl rfl (wl_t rfl (o_move (Value.bool (((gAct (waitC l threshold wait asked k) (0 : Int) (fFinish (waitC l threshold wait asked k) day)).2) == (0 : Int))) rfl (?_))))))
        cases hb6072 : (((gAct (waitC l threshold wait asked k) (0 : Int) (fFinish (waitC l threshold wait asked k) day)).2) == (0 : Int))
        ·have hp6073 : (gAct (waitC l threshold wait asked k) (0 : Int) (fFinish (waitC l threshold wait asked k) day)).2 ≠ (0 : Int) := by first | simpa using hb6072 | (have e := hb6072; simp at e; omega)
         refine wl_t rfl (o_move (vI ((gAct (waitC l threshold wait asked k) (0 : Int) (fFinish (waitC l threshold wait asked k) day)).2)) rfl (wl_t rfl (o_eql .i64 ((gAct (waitC l threshold wait asked k) (0 : Int) (fFinish (waitC l threshold wait asked k) day)).2) (451 : Int) rfl rfl (wl_t rfl (o_pickF (Value.bool (((gAct (waitC l threshold wait asked k) (0 : Int) (fFinish (waitC l threshold wait asked k) day)).2) == (451 : Int))) rfl rfl (wl_s (o_pickT (Value.bool (((gAct (waitC l threshold wait asked k) (0 : Int) (fFinish (waitC l threshold wait asked k) day)).2) == (451 : Int))) rfl rfl (wl_s (o_assign (Value.bool (((gAct (waitC l threshold wait asked k) (0 : Int) (fFinish (waitC l threshold wait asked k) day)).2) == (451 : Int))) rfl (wl_nil (thenQ_n (?_))))))))))))
         refine cw_ret (end_r rfl (res1 rfl rfl rfl) (?_))
         have e : true = (((gAct (waitC l threshold wait asked k) (0 : Int) (fFinish (waitC l threshold wait asked k) day)).2) == (451 : Int)) := by first | rfl | (rw [wait_bad hc ha (by omega) (by omega)]; rfl) | (rw [wait_451 hc ha (by omega) (by omega) (by omega) (by omega) (by assumption)]; rfl)
         exact ⟨_, rfl, s6058.keep, by rw [e]; exact rfl⟩
        ·have hp6074 : (gAct (waitC l threshold wait asked k) (0 : Int) (fFinish (waitC l threshold wait asked k) day)).2 = (0 : Int) := by first | simpa using hb6072 | (have e := hb6072; simp at e; omega)
         refine wl_k rfl (wl_k rfl (wl_t rfl (o_pickT (Value.bool true) rfl rfl (wl_s (o_pickT (Value.bool true) rfl rfl (wl_s (o_assign (Value.bool true) rfl (wl_nil (thenQ_n (?_))))))))))
         refine cw_ret (end_r rfl (res1 rfl rfl rfl) (?_))
         exact ⟨_, rfl, s6058.keep, rfl⟩
      ·have hp6075 : day < (0 : Int) := by first | simpa using hb6066 | (have e := hb6066; simp at e; omega)
       refine wl_k rfl (wl_k rfl (wl_s (o_pickT (Value.bool true) rfl rfl (wl_nil (thenQ_n (?_))))))
       refine cw_cond true rfl rfl (fun _ => ?_) (fun h => by cases h)
       refine cw_seq (?_)
       refine cw_region (by kernel_rfl) (wl_s (o_move (vI ((gAct (waitC l threshold wait asked k) (0 : Int) (fFinish (waitC l threshold wait asked k) day)).2)) rfl (wl_s (o_eql .i64 ((gAct (waitC l threshold wait asked k) (0 : Int) (fFinish (waitC l threshold wait asked k) day)).2) (1 : Int) rfl rfl (wl_s (o_assign (Value.bool (((gAct (waitC l threshold wait asked k) (0 : Int) (fFinish (waitC l threshold wait asked k) day)).2) == (1 : Int))) rfl (wl_nil (thenQ_n (?_)))))))))
       refine cw_ret (thenQ_r (end_r rfl (res1 rfl rfl rfl) (?_)))
       have e : true = (((gAct (waitC l threshold wait asked k) (0 : Int) (fFinish (waitC l threshold wait asked k) day)).2) == (1 : Int)) := by first | rfl | (rw [wait_bad hc ha (by omega) (by omega)]; rfl) | (rw [wait_451 hc ha (by omega) (by omega) (by omega) (by omega) (by assumption)]; rfl)
       exact ⟨_, rfl, s6058.keep, by rw [e]; exact rfl⟩
  ·have hp6076 : (gNew l threshold wait).2 ≠ (0 : Int) := by first | simpa using hb5631 | (have e := hb5631; simp at e; omega)
   refine wl_k rfl (wl_k rfl (wl_s (o_pickT (Value.bool true) rfl rfl (wl_nil (thenQ_n (?_))))))
   refine cw_cond true rfl rfl (fun _ => ?_) (fun h => by cases h)
   refine cw_seq (?_)
   refine cw_region (by kernel_rfl) (wl_s (o_assign (Value.bool true) rfl (wl_nil (thenQ_n (?_)))))
   refine cw_ret (thenQ_r (end_r rfl (res1 rfl rfl rfl) (?_)))
   exact ⟨_, rfl, s5623.keep, rfl⟩

end Go.Proofs.Ytpdekmknnpkmgaa
