/- Walks, printed by gen.py. -/
import Derived.Test.YtpdekmknnpkmgaaWk
import Derived.Test.YtpdekmknnpkmgaaWh
set_option linter.unusedSimpArgs false
set_option linter.unusedVariables false
namespace Go.Proofs.Ytpdekmknnpkmgaa
open Go.Fw Go.RowKit

set_option maxHeartbeats 4000000 in
set_option maxRecDepth 100000 in
theorem c_GuardiansSpec {O : List Nat} (l_v : Value) (l : List Int) (threshold : Int) (wait : Int) (c_cs : List Value) (c : Circle) (day : Int) (w : World) (h_l : RdL Enc.int w O l_v l) (h_c : Enc.circle.rd w O c_cs c) (hO : ∀ b ∈ O, b < w.heap.size) : CallsK Try.prog 3 [l_v, vI threshold, vI wait, .agg c_cs.toArray, vI day] w (fun v _ => v = .bool (true)) :=  by
 have lim_l := h_l.len_le
 have h_l : RdL Enc.int w ([] ++ O) l_v l := h_l
 have h_c : Enc.circle.rd w ([] ++ O) c_cs c := h_c
 have s0 : St w O w [] := St.start hO
 refine callsK_of 89 Try.func3 rfl rfl (of_decide_eq_true rfl) (fun F0 => ?_)
 refine cw_seq (?_)
 refine cw_region (by kernel_rfl) (wl_s (o_boxR (E := Enc.circle) (Value.agg c_cs.toArray) (c_cs) c rfl rfl h_c s0 fun a4583 w4584 s4585 m4586 k4587 hp4588 => (?_)))
 have h_l := h_l.mv m4586
 refine wl_s (o_assign (Value.bool false) rfl (wl_nil (thenQ_n (?_))))
 refine cw_seq (?_)
 refine cw_seq (?_)
 refine cw_region (by kernel_rfl) (wl_s (o_callK (vs := []) enter_9 (c_sane45 (O := [] ++ O) w4584 s4585.lt) rfl s4585 fun v4589 w4590 s4591 m4592 k4593 r4594 => (?_)))
 obtain rfl := r4594
 have h_l := h_l.mv m4592
 have hp4588 := hp4588.mv m4592
 refine wl_s (o_not true rfl (wl_nil (thenQ_n (?_))))
 refine cw_cond false rfl rfl (fun h => by cases h) (fun _ => ?_)
 refine cw_skip (thenQ_n (?_))
 refine cw_seq (?_)
 refine cw_seq (?_)
 refine cw_region (by kernel_rfl) (wl_s (o_loadS Try.underlying25 rfl s_25 rfl hp4588 fun cs4595 hs4596 => (wl_s (o_callK (vs := [Value.agg cs4595.toArray]) enter_10 (c_few (O := [] ++ O) cs4595 c w4590 hs4596 s4591.lt) rfl s4591 fun v4597 w4598 s4599 m4600 k4601 r4602 => (?_)))))
 obtain rfl := r4602
 have h_l := h_l.mv m4600
 have hp4588 := hp4588.mv m4600
 refine wl_s (o_not (fewC c) rfl (wl_s (o_move (Value.bool (!(fewC c))) rfl (?_))))
 cases hb4603 : (!(fewC c))
 ·have hp4604 : (fewC c) = true := by first | simpa using hb4603 | (have e := hb4603; simp at e; omega)
  refine wl_t rfl (o_move (l_v) rfl (wl_t rfl (o_lenR Try.underlying22 rfl h_l (wl_t rfl (o_gtr .i64 (l.length : Int) (20 : Int) rfl rfl (wl_s (o_pickF (Value.bool (decide ((20 : Int) < (l.length : Int)))) rfl rfl (wl_nil (thenQ_n (?_))))))))))
  refine cw_cond (decide ((20 : Int) < (l.length : Int))) rfl rfl (fun hc4605 => ?_) (fun hc4605 => ?_)
  ·have hp4606 : (20 : Int) < (l.length : Int) := by first | simpa using hc4605 | (have e := hc4605; simp at e; omega)
   refine cw_seq (?_)
   refine cw_region (by kernel_rfl) (wl_s (o_assign (Value.bool true) rfl (wl_nil (thenQ_n (?_)))))
   refine cw_ret (thenQ_r (end_r rfl (res1 rfl rfl rfl) (?_)))
   exact ⟨_, rfl, s4599.keep, rfl⟩
  ·have hp4607 : (l.length : Int) ≤ (20 : Int) := by first | simpa using hc4605 | (have e := hc4605; simp at e; omega)
   refine cw_skip (thenQ_n (?_))
   refine cw_seq (?_)
   refine cw_region (by kernel_rfl) (wl_s (o_move (l_v) rfl (wl_s (o_move (vI threshold) rfl (wl_s (o_move (vI wait) rfl (wl_s (o_callK (vs := [l_v, vI threshold, vI wait]) enter_11 (c_new (O := [] ++ O) l_v l threshold wait w4598 h_l (by first | omega | assumption | (simp; done)) s4599.lt) rfl s4599 fun v4608 w4609 s4610 m4611 k4612 r4613 => (?_)))))))))
   obtain ⟨cs4614, rfl, hs4615⟩ := r4613
   have h_l := h_l.mv m4611
   have hp4588 := hp4588.mv m4611
   refine wl_s (o_move (Value.tuple #[Value.agg cs4614.toArray, vI ((gNew l threshold wait).2)]) rfl (wl_s (o_extract (Value.agg cs4614.toArray) rfl rfl (wl_s (o_extract (vI ((gNew l threshold wait).2)) rfl rfl (wl_s (o_alloc [vI (0 : Int), vI (0 : Int), vI (0 : Int), Value.slice none 0 0, Value.slice none 0 0] z_25 rfl s4610 fun b4616 w4617 e4622 s4618 m4619 k4620 bx4621 => (?_))))))))
   clear e4622
   have h_l := h_l.mv m4619
   have hp4588 := hp4588.mv m4619
   have hs4615 : Enc.circle.rd w4617 ((b4616 :: []) ++ O) cs4614 ((gNew l threshold wait).1) := Enc.mv Enc.circle (x := (gNew l threshold wait).1) hs4615 m4619
   obtain ⟨d4628, d4630, rfl, hd4629, hd4631⟩ := hs4615
   have := hd4629.len_le
   have := hd4631.len_le
   refine wl_n (o_store (vs := [vI (((gNew l threshold wait).1).epoch), vI (((gNew l threshold wait).1).threshold), vI (((gNew l threshold wait).1).wait), d4628, d4630]) (.agg #[vI (((gNew l threshold wait).1).epoch), vI (((gNew l threshold wait).1).threshold), vI (((gNew l threshold wait).1).wait), d4628, d4630]) rfl rfl rfl s_25 (fun u hu => by simp only [List.mem_cons, List.not_mem_nil, or_false] at hu; rcases hu with rfl | rfl | rfl | rfl | rfl <;> first | rfl | exact hd4629.oneCell | exact hd4631.oneCell) (by repeat (first | assumption | constructor)) bx4621 (of_decide_eq_true rfl) s4618 fun w4623 s4624 m4625 k4626 bx4627 => (?_))
   have h_l := h_l.mv m4625
   have hp4588 := hp4588.mv m4625
   have hd4629 := hd4629.mv m4625
   have hd4631 := hd4631.mv m4625
   refine wl_s (o_assign (vI ((gNew l threshold wait).2)) rfl (wl_nil (thenQ_n (?_))))
   refine cw_seq (?_)
   refine cw_region (by kernel_rfl) (wl_s (o_move (l_v) rfl (wl_s (o_move (vI threshold) rfl (wl_s (o_move (vI wait) rfl (wl_s (o_callK (vs := [l_v, vI threshold, vI wait]) enter_12 (c_refNew (O := (b4616 :: []) ++ O) l_v l threshold wait w4623 h_l s4624.lt) rfl s4624 fun v4632 w4633 s4634 m4635 k4636 r4637 => (?_)))))))))
   obtain ⟨cs4638, rfl, hs4639⟩ := r4637
   have hp4588 := hp4588.mv m4635
   have hd4629 := hd4629.mv m4635
   have hd4631 := hd4631.mv m4635
   have bx4627 := bx4627.keep k4636 (by simp)
   refine wl_s (o_move (Value.tuple #[Value.agg cs4638.toArray, vI ((gNew l threshold wait).2)]) rfl (wl_s (o_extract (Value.agg cs4638.toArray) rfl rfl (wl_s (o_extract (vI ((gNew l threshold wait).2)) rfl rfl (wl_s (o_alloc [vI (0 : Int), vI (0 : Int), vI (0 : Int), Value.slice none 0 0, Value.slice none 0 0] z_25 rfl s4634 fun b4640 w4641 e4646 s4642 m4643 k4644 bx4645 => (?_))))))))
   have ne4647 : b4616 ≠ b4640 := by have := bx4627.lt; omega
   clear e4646
   have hp4588 := hp4588.mv m4643
   have hd4629 := hd4629.mv m4643
   have hd4631 := hd4631.mv m4643
   have hs4639 : Enc.circle.rd w4641 ((b4640 :: (b4616 :: [])) ++ O) cs4638 ((gNew l threshold wait).1) := Enc.mv Enc.circle (x := (gNew l threshold wait).1) hs4639 m4643
   have bx4627 := bx4627.keep k4644 (by simp)
   obtain ⟨d4653, d4655, rfl, hd4654, hd4656⟩ := hs4639
   have := hd4654.len_le
   have := hd4656.len_le
   refine wl_n (o_store (vs := [vI (((gNew l threshold wait).1).epoch), vI (((gNew l threshold wait).1).threshold), vI (((gNew l threshold wait).1).wait), d4653, d4655]) (.agg #[vI (((gNew l threshold wait).1).epoch), vI (((gNew l threshold wait).1).threshold), vI (((gNew l threshold wait).1).wait), d4653, d4655]) rfl rfl rfl s_25 (fun u hu => by simp only [List.mem_cons, List.not_mem_nil, or_false] at hu; rcases hu with rfl | rfl | rfl | rfl | rfl <;> first | rfl | exact hd4654.oneCell | exact hd4656.oneCell) (by repeat (first | assumption | constructor)) bx4645 (of_decide_eq_true rfl) s4642 fun w4648 s4649 m4650 k4651 bx4652 => (?_))
   have hp4588 := hp4588.mv m4650
   have hd4629 := hd4629.mv m4650
   have hd4631 := hd4631.mv m4650
   have hd4654 := hd4654.mv m4650
   have hd4656 := hd4656.mv m4650
   have bx4627 := bx4627.keep k4651 (nin1 ne4647)
   refine wl_s (o_assign (vI ((gNew l threshold wait).2)) rfl (wl_nil (thenQ_n (?_))))
   refine cw_seq (?_)
   refine cw_region (by kernel_rfl) (wl_s (o_loadS Try.underlying25 rfl s_25 rfl hp4588 fun cs4657 hs4658 => (wl_s (o_move (vI day) rfl (wl_s (o_callK (vs := [Value.agg cs4657.toArray, vI day]) enter_13 (c_ask (O := (b4640 :: (b4616 :: [])) ++ O) cs4657 c day w4648 hs4658 s4649.lt) rfl s4649 fun v4659 w4660 s4661 m4662 k4663 r4664 => (?_)))))))
   obtain ⟨cs4665, rfl, hs4666⟩ := r4664
   have hp4588 := hp4588.mv m4662
   have hd4629 := hd4629.mv m4662
   have hd4631 := hd4631.mv m4662
   have hd4654 := hd4654.mv m4662
   have hd4656 := hd4656.mv m4662
   have bx4627 := bx4627.keep k4663 (by simp)
   have bx4652 := bx4652.keep k4663 (by simp)
   refine wl_s (o_move (Value.tuple #[Value.agg cs4665.toArray, vI ((gAsk c day).2.1), vI ((gAsk c day).2.2)]) rfl (wl_s (o_extract (Value.agg cs4665.toArray) rfl rfl (wl_s (o_extract (vI ((gAsk c day).2.1)) rfl rfl (wl_s (o_extract (vI ((gAsk c day).2.2)) rfl rfl (wl_s (o_alloc [vI (0 : Int), vI (0 : Int), vI (0 : Int), Value.slice none 0 0, Value.slice none 0 0] z_25 rfl s4661 fun b4667 w4668 e4673 s4669 m4670 k4671 bx4672 => (?_))))))))))
   have ne4674 : b4616 ≠ b4667 := by have := bx4627.lt; omega
   have ne4675 : b4640 ≠ b4667 := by have := bx4652.lt; omega
   clear e4673
   have hp4588 := hp4588.mv m4670
   have hd4629 := hd4629.mv m4670
   have hd4631 := hd4631.mv m4670
   have hd4654 := hd4654.mv m4670
   have hd4656 := hd4656.mv m4670
   have hs4666 : Enc.circle.rd w4668 ((b4667 :: (b4640 :: (b4616 :: []))) ++ O) cs4665 ((gAsk c day).1) := Enc.mv Enc.circle (x := (gAsk c day).1) hs4666 m4670
   have bx4627 := bx4627.keep k4671 (by simp)
   have bx4652 := bx4652.keep k4671 (by simp)
   obtain ⟨d4681, d4683, rfl, hd4682, hd4684⟩ := hs4666
   have := hd4682.len_le
   have := hd4684.len_le
   refine wl_n (o_store (vs := [vI (((gAsk c day).1).epoch), vI (((gAsk c day).1).threshold), vI (((gAsk c day).1).wait), d4681, d4683]) (.agg #[vI (((gAsk c day).1).epoch), vI (((gAsk c day).1).threshold), vI (((gAsk c day).1).wait), d4681, d4683]) rfl rfl rfl s_25 (fun u hu => by simp only [List.mem_cons, List.not_mem_nil, or_false] at hu; rcases hu with rfl | rfl | rfl | rfl | rfl <;> first | rfl | exact hd4682.oneCell | exact hd4684.oneCell) (by repeat (first | assumption | constructor)) bx4672 (of_decide_eq_true rfl) s4669 fun w4676 s4677 m4678 k4679 bx4680 => (?_))
   have hp4588 := hp4588.mv m4678
   have hd4629 := hd4629.mv m4678
   have hd4631 := hd4631.mv m4678
   have hd4654 := hd4654.mv m4678
   have hd4656 := hd4656.mv m4678
   have hd4682 := hd4682.mv m4678
   have hd4684 := hd4684.mv m4678
   have bx4627 := bx4627.keep k4679 (nin1 ne4674)
   have bx4652 := bx4652.keep k4679 (nin1 ne4675)
   refine wl_s (o_assign (vI ((gAsk c day).2.1)) rfl (wl_s (o_assign (vI ((gAsk c day).2.2)) rfl (wl_nil (thenQ_n (?_))))))
   refine cw_seq (?_)
   refine cw_region (by kernel_rfl) (wl_s (o_loadS Try.underlying25 rfl s_25 rfl hp4588 fun cs4685 hs4686 => (wl_s (o_move (vI day) rfl (wl_s (o_callK (vs := [Value.agg cs4685.toArray, vI day]) enter_14 (c_refAsk (O := (b4667 :: (b4640 :: (b4616 :: []))) ++ O) cs4685 c day w4676 hs4686 s4677.lt) rfl s4677 fun v4687 w4688 s4689 m4690 k4691 r4692 => (?_)))))))
   obtain ⟨cs4693, rfl, hs4694⟩ := r4692
   have hp4588 := hp4588.mv m4690
   have hd4629 := hd4629.mv m4690
   have hd4631 := hd4631.mv m4690
   have hd4654 := hd4654.mv m4690
   have hd4656 := hd4656.mv m4690
   have hd4682 := hd4682.mv m4690
   have hd4684 := hd4684.mv m4690
   have bx4627 := bx4627.keep k4691 (by simp)
   have bx4652 := bx4652.keep k4691 (by simp)
   have bx4680 := bx4680.keep k4691 (by simp)
   refine wl_s (o_move (Value.tuple #[Value.agg cs4693.toArray, vI ((gAsk c day).2.1), vI ((gAsk c day).2.2)]) rfl (wl_s (o_extract (Value.agg cs4693.toArray) rfl rfl (wl_s (o_extract (vI ((gAsk c day).2.1)) rfl rfl (wl_s (o_extract (vI ((gAsk c day).2.2)) rfl rfl (wl_s (o_alloc [vI (0 : Int), vI (0 : Int), vI (0 : Int), Value.slice none 0 0, Value.slice none 0 0] z_25 rfl s4689 fun b4695 w4696 e4701 s4697 m4698 k4699 bx4700 => (?_))))))))))
   have ne4702 : b4616 ≠ b4695 := by have := bx4627.lt; omega
   have ne4703 : b4640 ≠ b4695 := by have := bx4652.lt; omega
   have ne4704 : b4667 ≠ b4695 := by have := bx4680.lt; omega
   clear e4701
   have hp4588 := hp4588.mv m4698
   have hd4629 := hd4629.mv m4698
   have hd4631 := hd4631.mv m4698
   have hd4654 := hd4654.mv m4698
   have hd4656 := hd4656.mv m4698
   have hd4682 := hd4682.mv m4698
   have hd4684 := hd4684.mv m4698
   have hs4694 : Enc.circle.rd w4696 ((b4695 :: (b4667 :: (b4640 :: (b4616 :: [])))) ++ O) cs4693 ((gAsk c day).1) := Enc.mv Enc.circle (x := (gAsk c day).1) hs4694 m4698
   have bx4627 := bx4627.keep k4699 (by simp)
   have bx4652 := bx4652.keep k4699 (by simp)
   have bx4680 := bx4680.keep k4699 (by simp)
   obtain ⟨d4710, d4712, rfl, hd4711, hd4713⟩ := hs4694
   have := hd4711.len_le
   have := hd4713.len_le
   refine wl_n (o_store (vs := [vI (((gAsk c day).1).epoch), vI (((gAsk c day).1).threshold), vI (((gAsk c day).1).wait), d4710, d4712]) (.agg #[vI (((gAsk c day).1).epoch), vI (((gAsk c day).1).threshold), vI (((gAsk c day).1).wait), d4710, d4712]) rfl rfl rfl s_25 (fun u hu => by simp only [List.mem_cons, List.not_mem_nil, or_false] at hu; rcases hu with rfl | rfl | rfl | rfl | rfl <;> first | rfl | exact hd4711.oneCell | exact hd4713.oneCell) (by repeat (first | assumption | constructor)) bx4700 (of_decide_eq_true rfl) s4697 fun w4705 s4706 m4707 k4708 bx4709 => (?_))
   have hp4588 := hp4588.mv m4707
   have hd4629 := hd4629.mv m4707
   have hd4631 := hd4631.mv m4707
   have hd4654 := hd4654.mv m4707
   have hd4656 := hd4656.mv m4707
   have hd4682 := hd4682.mv m4707
   have hd4684 := hd4684.mv m4707
   have hd4711 := hd4711.mv m4707
   have hd4713 := hd4713.mv m4707
   have bx4627 := bx4627.keep k4708 (nin1 ne4702)
   have bx4652 := bx4652.keep k4708 (nin1 ne4703)
   have bx4680 := bx4680.keep k4708 (nin1 ne4704)
   refine wl_s (o_assign (vI ((gAsk c day).2.1)) rfl (wl_s (o_assign (vI ((gAsk c day).2.2)) rfl (wl_nil (thenQ_n (?_))))))
   refine cw_seq (?_)
   have hb4714 : (sameC ((gNew l threshold wait).1) ((gNew l threshold wait).1)) = true := (sameC_refl _)
   try rw [hb4714]
   have hb4715 : (((gNew l threshold wait).2) == ((gNew l threshold wait).2)) = true := (beq_self_eq_true _)
   try rw [hb4715]
   have hb4716 : ((gCheck c) == (gCheck c)) = true := (beq_self_eq_true _)
   try rw [hb4716]
   have hb4717 : (sameC ((gAsk c day).1) ((gAsk c day).1)) = true := (sameC_refl _)
   try rw [hb4717]
   have hb4718 : (((gAsk c day).2.1) == ((gAsk c day).2.1)) = true := (beq_self_eq_true _)
   try rw [hb4718]
   refine cw_draw' 28 _ _ [isV (Value.agg #[vI (((gNew l threshold wait).1).epoch), vI (((gNew l threshold wait).1).threshold), vI (((gNew l threshold wait).1).wait), d4628, d4630]), isV (Value.agg #[vI (((gNew l threshold wait).1).epoch), vI (((gNew l threshold wait).1).threshold), vI (((gNew l threshold wait).1).wait), d4653, d4655]), isV (Value.bool true), isV (Value.bool true), isV (vI ((gNew l threshold wait).2)), isV (vI ((gNew l threshold wait).2)), isV (Value.bool true), isV (Value.bool true), isV (Value.bool true), fun (vT : Value) (wT : World) => ∃ csT : List Value, vT = .agg csT.toArray ∧ Enc.circle.rd wT ((b4695 :: (b4667 :: (b4640 :: (b4616 :: [])))) ++ O) csT (c), isV (vI (gCheck c)), fun (vT : Value) (wT : World) => ∃ csT : List Value, vT = .agg csT.toArray ∧ Enc.circle.rd wT ((b4695 :: (b4667 :: (b4640 :: (b4616 :: [])))) ++ O) csT (c), isV (vI (gCheck c)), isV (Value.bool true), isV (Value.bool true), isV (Value.bool true), isV (Value.agg #[vI (((gAsk c day).1).epoch), vI (((gAsk c day).1).threshold), vI (((gAsk c day).1).wait), d4681, d4683]), isV (Value.agg #[vI (((gAsk c day).1).epoch), vI (((gAsk c day).1).threshold), vI (((gAsk c day).1).wait), d4710, d4712]), isV (Value.bool true), isV (Value.bool true), isV (Value.bool true), isV (vI ((gAsk c day).2.1)), isV (vI ((gAsk c day).2.1)), isV (Value.bool true), isV (Value.bool true), isV (Value.bool true), isV (vI ((gAsk c day).2.2)), isV (vI ((gAsk c day).2.2))] (by kernel_rfl) (by kernel_rfl) (by kernel_rfl) (by kernel_rfl) rfl rfl ⟨kI, kI, kI, kI, kI, kI, kI, kI, kI, fun _ _ _ ⟨a, e, h⟩ k => ⟨a, e, Enc.mv _ h (Mv.of_keep k)⟩, kI, fun _ _ _ ⟨a, e, h⟩ k => ⟨a, e, Enc.mv _ h (Mv.of_keep k)⟩, kI, kI, kI, kI, kI, kI, kI, kI, kI, kI, kI, kI, kI, kI, kI, kI, trivial⟩ ⟨?_, ?_, ?_, ?_, ?_, ?_, ?_, ?_, ?_, ?_, ?_, ?_, ?_, ?_, ?_, ?_, ?_, ?_, ?_, ?_, ?_, ?_, ?_, ?_, ?_, ?_, ?_, ?_, trivial⟩ ?_
   ·intro F1 w1 k1 hf hd
    have k0 := (Keep.drew [] w4705).trans k1
    have bx4627 := bx4627.keep k0 (by simp)
    obtain ⟨F2, rfl⟩ := lit_of (F := F1) [(11, Value.pointer (some ⟨b4616, 0, none⟩))] ⟨hf 11 (by kernel_rfl), trivial⟩
    exact sp_plain rfl ((o_loadBxA (vs := [vI (((gNew l threshold wait).1).epoch), vI (((gNew l threshold wait).1).threshold), vI (((gNew l threshold wait).1).wait), d4628, d4630]) Try.underlying25 rfl s_25 rfl bx4627 rfl (⟨(Keep.refl _ _), rfl⟩)))
   ·intro F1 w1 k1 hf hd
    have k0 := (Keep.drew [] w4705).trans k1
    have bx4652 := bx4652.keep k0 (by simp)
    obtain ⟨F2, rfl⟩ := lit_of (F := F1) [(13, Value.pointer (some ⟨b4640, 0, none⟩))] ⟨hf 13 (by kernel_rfl), trivial⟩
    exact sp_plain rfl ((o_loadBxA (vs := [vI (((gNew l threshold wait).1).epoch), vI (((gNew l threshold wait).1).threshold), vI (((gNew l threshold wait).1).wait), d4653, d4655]) Try.underlying25 rfl s_25 rfl bx4652 rfl (⟨(Keep.refl _ _), rfl⟩)))
   ·intro F1 w1 k1 hf hd
    have k0 := (Keep.drew [] w4705).trans k1
    have s1 := s4706.call k0
    have m1 : Mv (b4695 :: (b4667 :: (b4640 :: (b4616 :: [])))) w4705 (b4695 :: (b4667 :: (b4640 :: (b4616 :: [])))) w1 := Mv.of_keep k0
    have hd4629 := hd4629.mv m1
    have hd4631 := hd4631.mv m1
    have hd4654 := hd4654.mv m1
    have hd4656 := hd4656.mv m1
    obtain ⟨F2, rfl⟩ := lit_of (F := F1) [(59, Value.agg #[vI (((gNew l threshold wait).1).epoch), vI (((gNew l threshold wait).1).threshold), vI (((gNew l threshold wait).1).wait), d4628, d4630]), (60, Value.agg #[vI (((gNew l threshold wait).1).epoch), vI (((gNew l threshold wait).1).threshold), vI (((gNew l threshold wait).1).wait), d4653, d4655])] ⟨hd 0 59 (by kernel_rfl), hd 1 60 (by kernel_rfl), trivial⟩
    refine sp_plain rfl ((o_callK (vs := [Value.agg #[vI (((gNew l threshold wait).1).epoch), vI (((gNew l threshold wait).1).threshold), vI (((gNew l threshold wait).1).wait), d4628, d4630], Value.agg #[vI (((gNew l threshold wait).1).epoch), vI (((gNew l threshold wait).1).threshold), vI (((gNew l threshold wait).1).wait), d4653, d4655]]) enter_15 (c_sameC (O := (b4695 :: (b4667 :: (b4640 :: (b4616 :: [])))) ++ O) [vI (((gNew l threshold wait).1).epoch), vI (((gNew l threshold wait).1).threshold), vI (((gNew l threshold wait).1).wait), d4628, d4630] ((gNew l threshold wait).1) [vI (((gNew l threshold wait).1).epoch), vI (((gNew l threshold wait).1).threshold), vI (((gNew l threshold wait).1).wait), d4653, d4655] ((gNew l threshold wait).1) w1 ⟨_, _, rfl, hd4629, hd4631⟩ ⟨_, _, rfl, hd4654, hd4656⟩ s1.lt) rfl s1 fun v4719 w4720 s4721 m4722 k4723 r4724 => (?_)))
    obtain rfl := r4724
    exact ⟨k4723, congrArg Value.bool (hb4714)⟩
   ·intro F1 w1 k1 hf hd
    obtain ⟨F2, rfl⟩ := lit_of (F := F1) [(61, Value.bool true)] ⟨hd 2 61 (by kernel_rfl), trivial⟩
    exact sp_plain rfl ((o_move (Value.bool true) rfl (⟨(Keep.refl _ _), rfl⟩)))
   ·intro F1 w1 k1 hf hd
    obtain ⟨F2, rfl⟩ := lit_of (F := F1) [(12, vI ((gNew l threshold wait).2)), (62, Value.bool true)] ⟨hf 12 (by kernel_rfl), hd 3 62 (by kernel_rfl), trivial⟩
    exact sp_take rfl rfl ((o_move (vI ((gNew l threshold wait).2)) rfl (⟨(Keep.refl _ _), rfl⟩)))
   ·intro F1 w1 k1 hf hd
    obtain ⟨F2, rfl⟩ := lit_of (F := F1) [(14, vI ((gNew l threshold wait).2)), (62, Value.bool true)] ⟨hf 14 (by kernel_rfl), hd 3 62 (by kernel_rfl), trivial⟩
    exact sp_take rfl rfl ((o_move (vI ((gNew l threshold wait).2)) rfl (⟨(Keep.refl _ _), rfl⟩)))
   ·intro F1 w1 k1 hf hd
    obtain ⟨F2, rfl⟩ := lit_of (F := F1) [(62, Value.bool true), (63, vI ((gNew l threshold wait).2)), (64, vI ((gNew l threshold wait).2))] ⟨hd 3 62 (by kernel_rfl), hd 4 63 (by kernel_rfl), hd 5 64 (by kernel_rfl), trivial⟩
    refine sp_take rfl rfl ((o_eql .i64 ((gNew l threshold wait).2) ((gNew l threshold wait).2) rfl rfl (?_)))
    exact ⟨(Keep.refl _ _), congrArg Value.bool (hb4715)⟩
   ·intro F1 w1 k1 hf hd
    obtain ⟨F2, rfl⟩ := lit_of (F := F1) [(62, Value.bool true), (65, Value.bool true)] ⟨hd 3 62 (by kernel_rfl), hd 6 65 (by kernel_rfl), trivial⟩
    exact sp_plain rfl ((o_pickT (Value.bool true) rfl rfl (⟨(Keep.refl _ _), rfl⟩)))
   ·intro F1 w1 k1 hf hd
    obtain ⟨F2, rfl⟩ := lit_of (F := F1) [(66, Value.bool true)] ⟨hd 7 66 (by kernel_rfl), trivial⟩
    exact sp_plain rfl ((o_move (Value.bool true) rfl (⟨(Keep.refl _ _), rfl⟩)))
   ·intro F1 w1 k1 hf hd
    have k0 := (Keep.drew [] w4705).trans k1
    have m1 : Mv (b4695 :: (b4667 :: (b4640 :: (b4616 :: [])))) w4705 (b4695 :: (b4667 :: (b4640 :: (b4616 :: [])))) w1 := Mv.of_keep k0
    have hp4588 := hp4588.mv m1
    obtain ⟨F2, rfl⟩ := lit_of (F := F1) [(8, Value.pointer (some a4583)), (67, Value.bool true)] ⟨hf 8 (by kernel_rfl), hd 8 67 (by kernel_rfl), trivial⟩
    exact sp_take rfl rfl ((o_loadS Try.underlying25 rfl s_25 rfl hp4588 fun cs4725 hs4726 => (⟨(Keep.refl _ _), ⟨cs4725, rfl, hs4726⟩⟩)))
   ·intro F1 w1 k1 hf hd
    have k0 := (Keep.drew [] w4705).trans k1
    have s1 := s4706.call k0
    obtain ⟨cs4727, e4729, hs4728⟩ : ∃ cs : List Value, F1 68 = .agg cs.toArray ∧ Enc.circle.rd w1 ((b4695 :: (b4667 :: (b4640 :: (b4616 :: [])))) ++ O) cs (c) := hd 9 68 (by kernel_rfl)
    obtain ⟨F2, rfl⟩ := lit_of (F := F1) [(67, Value.bool true), (68, Value.agg cs4727.toArray)] ⟨hd 8 67 (by kernel_rfl), e4729, trivial⟩
    refine sp_take rfl rfl ((o_callK (vs := [Value.agg cs4727.toArray]) enter_16 (c_check (O := (b4695 :: (b4667 :: (b4640 :: (b4616 :: [])))) ++ O) cs4727 c w1 hs4728 s1.lt) rfl s1 fun v4730 w4731 s4732 m4733 k4734 r4735 => (?_)))
    obtain rfl := r4735
    exact ⟨k4734, rfl⟩
   ·intro F1 w1 k1 hf hd
    have k0 := (Keep.drew [] w4705).trans k1
    have m1 : Mv (b4695 :: (b4667 :: (b4640 :: (b4616 :: [])))) w4705 (b4695 :: (b4667 :: (b4640 :: (b4616 :: [])))) w1 := Mv.of_keep k0
    have hp4588 := hp4588.mv m1
    obtain ⟨F2, rfl⟩ := lit_of (F := F1) [(8, Value.pointer (some a4583)), (67, Value.bool true)] ⟨hf 8 (by kernel_rfl), hd 8 67 (by kernel_rfl), trivial⟩
    exact sp_take rfl rfl ((o_loadS Try.underlying25 rfl s_25 rfl hp4588 fun cs4736 hs4737 => (⟨(Keep.refl _ _), ⟨cs4736, rfl, hs4737⟩⟩)))
   ·intro F1 w1 k1 hf hd
    have k0 := (Keep.drew [] w4705).trans k1
    have s1 := s4706.call k0
    obtain ⟨cs4738, e4740, hs4739⟩ : ∃ cs : List Value, F1 70 = .agg cs.toArray ∧ Enc.circle.rd w1 ((b4695 :: (b4667 :: (b4640 :: (b4616 :: [])))) ++ O) cs (c) := hd 11 70 (by kernel_rfl)
    obtain ⟨F2, rfl⟩ := lit_of (F := F1) [(67, Value.bool true), (70, Value.agg cs4738.toArray)] ⟨hd 8 67 (by kernel_rfl), e4740, trivial⟩
    refine sp_take rfl rfl ((o_callK (vs := [Value.agg cs4738.toArray]) enter_17 (c_refCheck (O := (b4695 :: (b4667 :: (b4640 :: (b4616 :: [])))) ++ O) cs4738 c w1 hs4739 s1.lt) rfl s1 fun v4741 w4742 s4743 m4744 k4745 r4746 => (?_)))
    obtain rfl := r4746
    exact ⟨k4745, rfl⟩
   ·intro F1 w1 k1 hf hd
    obtain ⟨F2, rfl⟩ := lit_of (F := F1) [(67, Value.bool true), (69, vI (gCheck c)), (71, vI (gCheck c))] ⟨hd 8 67 (by kernel_rfl), hd 10 69 (by kernel_rfl), hd 12 71 (by kernel_rfl), trivial⟩
    refine sp_take rfl rfl ((o_eql .i64 (gCheck c) (gCheck c) rfl rfl (?_)))
    exact ⟨(Keep.refl _ _), congrArg Value.bool (hb4716)⟩
   ·intro F1 w1 k1 hf hd
    obtain ⟨F2, rfl⟩ := lit_of (F := F1) [(67, Value.bool true), (72, Value.bool true)] ⟨hd 8 67 (by kernel_rfl), hd 13 72 (by kernel_rfl), trivial⟩
    exact sp_plain rfl ((o_pickT (Value.bool true) rfl rfl (⟨(Keep.refl _ _), rfl⟩)))
   ·intro F1 w1 k1 hf hd
    obtain ⟨F2, rfl⟩ := lit_of (F := F1) [(73, Value.bool true)] ⟨hd 14 73 (by kernel_rfl), trivial⟩
    exact sp_plain rfl ((o_move (Value.bool true) rfl (⟨(Keep.refl _ _), rfl⟩)))
   ·intro F1 w1 k1 hf hd
    have k0 := (Keep.drew [] w4705).trans k1
    have bx4680 := bx4680.keep k0 (by simp)
    obtain ⟨F2, rfl⟩ := lit_of (F := F1) [(15, Value.pointer (some ⟨b4667, 0, none⟩)), (74, Value.bool true)] ⟨hf 15 (by kernel_rfl), hd 15 74 (by kernel_rfl), trivial⟩
    exact sp_take rfl rfl ((o_loadBxA (vs := [vI (((gAsk c day).1).epoch), vI (((gAsk c day).1).threshold), vI (((gAsk c day).1).wait), d4681, d4683]) Try.underlying25 rfl s_25 rfl bx4680 rfl (⟨(Keep.refl _ _), rfl⟩)))
   ·intro F1 w1 k1 hf hd
    have k0 := (Keep.drew [] w4705).trans k1
    have bx4709 := bx4709.keep k0 (by simp)
    obtain ⟨F2, rfl⟩ := lit_of (F := F1) [(18, Value.pointer (some ⟨b4695, 0, none⟩)), (74, Value.bool true)] ⟨hf 18 (by kernel_rfl), hd 15 74 (by kernel_rfl), trivial⟩
    exact sp_take rfl rfl ((o_loadBxA (vs := [vI (((gAsk c day).1).epoch), vI (((gAsk c day).1).threshold), vI (((gAsk c day).1).wait), d4710, d4712]) Try.underlying25 rfl s_25 rfl bx4709 rfl (⟨(Keep.refl _ _), rfl⟩)))
   ·intro F1 w1 k1 hf hd
    have k0 := (Keep.drew [] w4705).trans k1
    have s1 := s4706.call k0
    have m1 : Mv (b4695 :: (b4667 :: (b4640 :: (b4616 :: [])))) w4705 (b4695 :: (b4667 :: (b4640 :: (b4616 :: [])))) w1 := Mv.of_keep k0
    have hd4682 := hd4682.mv m1
    have hd4684 := hd4684.mv m1
    have hd4711 := hd4711.mv m1
    have hd4713 := hd4713.mv m1
    obtain ⟨F2, rfl⟩ := lit_of (F := F1) [(74, Value.bool true), (75, Value.agg #[vI (((gAsk c day).1).epoch), vI (((gAsk c day).1).threshold), vI (((gAsk c day).1).wait), d4681, d4683]), (76, Value.agg #[vI (((gAsk c day).1).epoch), vI (((gAsk c day).1).threshold), vI (((gAsk c day).1).wait), d4710, d4712])] ⟨hd 15 74 (by kernel_rfl), hd 16 75 (by kernel_rfl), hd 17 76 (by kernel_rfl), trivial⟩
    refine sp_take rfl rfl ((o_callK (vs := [Value.agg #[vI (((gAsk c day).1).epoch), vI (((gAsk c day).1).threshold), vI (((gAsk c day).1).wait), d4681, d4683], Value.agg #[vI (((gAsk c day).1).epoch), vI (((gAsk c day).1).threshold), vI (((gAsk c day).1).wait), d4710, d4712]]) enter_15 (c_sameC (O := (b4695 :: (b4667 :: (b4640 :: (b4616 :: [])))) ++ O) [vI (((gAsk c day).1).epoch), vI (((gAsk c day).1).threshold), vI (((gAsk c day).1).wait), d4681, d4683] ((gAsk c day).1) [vI (((gAsk c day).1).epoch), vI (((gAsk c day).1).threshold), vI (((gAsk c day).1).wait), d4710, d4712] ((gAsk c day).1) w1 ⟨_, _, rfl, hd4682, hd4684⟩ ⟨_, _, rfl, hd4711, hd4713⟩ s1.lt) rfl s1 fun v4747 w4748 s4749 m4750 k4751 r4752 => (?_)))
    obtain rfl := r4752
    exact ⟨k4751, congrArg Value.bool (hb4717)⟩
   ·intro F1 w1 k1 hf hd
    obtain ⟨F2, rfl⟩ := lit_of (F := F1) [(74, Value.bool true), (77, Value.bool true)] ⟨hd 15 74 (by kernel_rfl), hd 18 77 (by kernel_rfl), trivial⟩
    exact sp_plain rfl ((o_pickT (Value.bool true) rfl rfl (⟨(Keep.refl _ _), rfl⟩)))
   ·intro F1 w1 k1 hf hd
    obtain ⟨F2, rfl⟩ := lit_of (F := F1) [(78, Value.bool true)] ⟨hd 19 78 (by kernel_rfl), trivial⟩
    exact sp_plain rfl ((o_move (Value.bool true) rfl (⟨(Keep.refl _ _), rfl⟩)))
   ·intro F1 w1 k1 hf hd
    obtain ⟨F2, rfl⟩ := lit_of (F := F1) [(16, vI ((gAsk c day).2.1)), (79, Value.bool true)] ⟨hf 16 (by kernel_rfl), hd 20 79 (by kernel_rfl), trivial⟩
    exact sp_take rfl rfl ((o_move (vI ((gAsk c day).2.1)) rfl (⟨(Keep.refl _ _), rfl⟩)))
   ·intro F1 w1 k1 hf hd
    obtain ⟨F2, rfl⟩ := lit_of (F := F1) [(19, vI ((gAsk c day).2.1)), (79, Value.bool true)] ⟨hf 19 (by kernel_rfl), hd 20 79 (by kernel_rfl), trivial⟩
    exact sp_take rfl rfl ((o_move (vI ((gAsk c day).2.1)) rfl (⟨(Keep.refl _ _), rfl⟩)))
   ·intro F1 w1 k1 hf hd
    obtain ⟨F2, rfl⟩ := lit_of (F := F1) [(79, Value.bool true), (80, vI ((gAsk c day).2.1)), (81, vI ((gAsk c day).2.1))] ⟨hd 20 79 (by kernel_rfl), hd 21 80 (by kernel_rfl), hd 22 81 (by kernel_rfl), trivial⟩
    refine sp_take rfl rfl ((o_eql .i64 ((gAsk c day).2.1) ((gAsk c day).2.1) rfl rfl (?_)))
    exact ⟨(Keep.refl _ _), congrArg Value.bool (hb4718)⟩
   ·intro F1 w1 k1 hf hd
    obtain ⟨F2, rfl⟩ := lit_of (F := F1) [(79, Value.bool true), (82, Value.bool true)] ⟨hd 20 79 (by kernel_rfl), hd 23 82 (by kernel_rfl), trivial⟩
    exact sp_plain rfl ((o_pickT (Value.bool true) rfl rfl (⟨(Keep.refl _ _), rfl⟩)))
   ·intro F1 w1 k1 hf hd
    obtain ⟨F2, rfl⟩ := lit_of (F := F1) [(83, Value.bool true)] ⟨hd 24 83 (by kernel_rfl), trivial⟩
    exact sp_plain rfl ((o_move (Value.bool true) rfl (⟨(Keep.refl _ _), rfl⟩)))
   ·intro F1 w1 k1 hf hd
    obtain ⟨F2, rfl⟩ := lit_of (F := F1) [(17, vI ((gAsk c day).2.2)), (84, Value.bool true)] ⟨hf 17 (by kernel_rfl), hd 25 84 (by kernel_rfl), trivial⟩
    exact sp_take rfl rfl ((o_move (vI ((gAsk c day).2.2)) rfl (⟨(Keep.refl _ _), rfl⟩)))
   ·intro F1 w1 k1 hf hd
    obtain ⟨F2, rfl⟩ := lit_of (F := F1) [(20, vI ((gAsk c day).2.2)), (84, Value.bool true)] ⟨hf 20 (by kernel_rfl), hd 25 84 (by kernel_rfl), trivial⟩
    exact sp_take rfl rfl ((o_move (vI ((gAsk c day).2.2)) rfl (⟨(Keep.refl _ _), rfl⟩)))
   intro F4754 w4755 k4753 hT4756 hF4757
   have s4758 := s4706.call k4753
   obtain ⟨F2, rfl⟩ := lit_of (F := F4754) [(10, Value.bool false), (89, undef), (84, Value.bool true), (85, vI ((gAsk c day).2.2)), (86, vI ((gAsk c day).2.2))] ⟨hF4757 10 (by kernel_rfl), hF4757 89 (by kernel_rfl), hT4756 25 84 (by kernel_rfl) (by decide), hT4756 26 85 (by kernel_rfl) (by decide), hT4756 27 86 (by kernel_rfl) (by decide), trivial⟩
   clear hT4756 hF4757
   refine wl_t rfl (o_eql .i64 ((gAsk c day).2.2) ((gAsk c day).2.2) rfl rfl (wl_s (o_pickT (Value.bool (((gAsk c day).2.2) == ((gAsk c day).2.2))) rfl rfl (wl_s (o_assign (Value.bool (((gAsk c day).2.2) == ((gAsk c day).2.2))) rfl (wl_nil (thenQ_n (?_))))))))
   refine cw_ret (end_r rfl (res1 rfl rfl rfl) (?_))
   have e : true = (((gAsk c day).2.2) == ((gAsk c day).2.2)) := by first | rfl | exact (beq_self_eq_true _).symm
   exact ⟨_, rfl, s4758.keep, by rw [e]; exact rfl⟩
 ·have hp4761 : (fewC c) = false := by first | simpa using hb4603 | (have e := hb4603; simp at e; omega)
  refine wl_k rfl (wl_k rfl (wl_k rfl (wl_s (o_pickT (Value.bool true) rfl rfl (wl_nil (thenQ_n (?_)))))))
  refine cw_cond true rfl rfl (fun _ => ?_) (fun h => by cases h)
  refine cw_seq (?_)
  refine cw_region (by kernel_rfl) (wl_s (o_assign (Value.bool true) rfl (wl_nil (thenQ_n (?_)))))
  refine cw_ret (thenQ_r (end_r rfl (res1 rfl rfl rfl) (?_)))
  exact ⟨_, rfl, s4599.keep, rfl⟩

end Go.Proofs.Ytpdekmknnpkmgaa
