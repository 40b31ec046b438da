/- Walks, printed by gen.py. -/
import Derived.Test.YtpdekmknnpkmgaaWk
import Derived.Test.YtpdekmknnpkmgaaWm
set_option linter.unusedSimpArgs false
set_option linter.unusedVariables false
namespace Go.Proofs.Ytpdekmknnpkmgaa
open Go.Fw Go.RowKit

set_option maxHeartbeats 4000000 in
set_option maxRecDepth 100000 in
theorem c_GuardiansActSpec {O : List Nat} (c_cs : List Value) (c : Circle) (no : Int) (guardian : Int) (day : Int) (w : World) (h_c : Enc.circle.rd w O c_cs c) (hO : ∀ b ∈ O, b < w.heap.size) : CallsK Try.prog 4 [.agg c_cs.toArray, vI no, vI guardian, vI day] w (fun v _ => v = .bool (true)) :=  by
 have h_c : Enc.circle.rd w ([] ++ O) c_cs c := h_c
 have s0 : St w O w [] := St.start hO
 refine callsK_of 96 Try.func4 rfl rfl (of_decide_eq_true rfl) (fun F0 => ?_)
 refine cw_seq (?_)
 refine cw_region (by kernel_rfl) (wl_s (o_boxR (E := Enc.circle) (Value.agg c_cs.toArray) (c_cs) c rfl rfl h_c s0 fun a4762 w4763 s4764 m4765 k4766 hp4767 => (?_)))
 refine wl_s (o_assign (Value.bool false) rfl (wl_nil (thenQ_n (?_))))
 refine cw_seq (?_)
 refine cw_seq (?_)
 refine cw_region (by kernel_rfl) (wl_s (o_callK (vs := []) enter_9 (c_sane45 (O := [] ++ O) w4763 s4764.lt) rfl s4764 fun v4768 w4769 s4770 m4771 k4772 r4773 => (?_)))
 obtain rfl := r4773
 have hp4767 := hp4767.mv m4771
 refine wl_s (o_not true rfl (wl_nil (thenQ_n (?_))))
 refine cw_cond false rfl rfl (fun h => by cases h) (fun _ => ?_)
 refine cw_skip (thenQ_n (?_))
 refine cw_seq (?_)
 refine cw_seq (?_)
 refine cw_region (by kernel_rfl) (wl_s (o_loadS Try.underlying25 rfl s_25 rfl hp4767 fun cs4774 hs4775 => (wl_s (o_callK (vs := [Value.agg cs4774.toArray]) enter_10 (c_few (O := [] ++ O) cs4774 c w4769 hs4775 s4770.lt) rfl s4770 fun v4776 w4777 s4778 m4779 k4780 r4781 => (?_)))))
 obtain rfl := r4781
 have hp4767 := hp4767.mv m4779
 refine wl_s (o_not (fewC c) rfl (wl_nil (thenQ_n (?_))))
 refine cw_cond (!(fewC c)) rfl rfl (fun hc4782 => ?_) (fun hc4782 => ?_)
 ·have hp4783 : (fewC c) = false := by first | simpa using hc4782 | (have e := hc4782; simp at e; omega)
  refine cw_seq (?_)
  refine cw_region (by kernel_rfl) (wl_s (o_assign (Value.bool true) rfl (wl_nil (thenQ_n (?_)))))
  refine cw_ret (thenQ_r (end_r rfl (res1 rfl rfl rfl) (?_)))
  exact ⟨_, rfl, s4778.keep, rfl⟩
 ·have hp4784 : (fewC c) = true := by first | simpa using hc4782 | (have e := hc4782; simp at e; omega)
  refine cw_skip (thenQ_n (?_))
  refine cw_seq (?_)
  refine cw_region (by kernel_rfl) (wl_s (o_loadS Try.underlying25 rfl s_25 rfl hp4767 fun cs4785 hs4786 => (wl_s (o_move (vI no) rfl (wl_s (o_move (vI guardian) rfl (wl_s (o_callK (vs := [Value.agg cs4785.toArray, vI no, vI guardian]) enter_18 (c_approve (O := [] ++ O) cs4785 c no guardian w4777 hs4786 s4778.lt) rfl s4778 fun v4787 w4788 s4789 m4790 k4791 r4792 => (?_)))))))))
  obtain ⟨cs4793, rfl, hs4794⟩ := r4792
  have hp4767 := hp4767.mv m4790
  refine wl_s (o_move (Value.tuple #[Value.agg cs4793.toArray, vI ((gAct c no (fApprove c guardian)).2)]) rfl (wl_s (o_extract (Value.agg cs4793.toArray) rfl rfl (wl_s (o_extract (vI ((gAct c no (fApprove c guardian)).2)) rfl rfl (wl_s (o_alloc [vI (0 : Int), vI (0 : Int), vI (0 : Int), Value.slice none 0 0, Value.slice none 0 0] z_25 rfl s4789 fun b4795 w4796 e4801 s4797 m4798 k4799 bx4800 => (?_))))))))
  clear e4801
  have hp4767 := hp4767.mv m4798
  have hs4794 : Enc.circle.rd w4796 ((b4795 :: []) ++ O) cs4793 ((gAct c no (fApprove c guardian)).1) := Enc.mv Enc.circle (x := (gAct c no (fApprove c guardian)).1) hs4794 m4798
  obtain ⟨d4807, d4809, rfl, hd4808, hd4810⟩ := hs4794
  have := hd4808.len_le
  have := hd4810.len_le
  refine wl_n (o_store (vs := [vI (((gAct c no (fApprove c guardian)).1).epoch), vI (((gAct c no (fApprove c guardian)).1).threshold), vI (((gAct c no (fApprove c guardian)).1).wait), d4807, d4809]) (.agg #[vI (((gAct c no (fApprove c guardian)).1).epoch), vI (((gAct c no (fApprove c guardian)).1).threshold), vI (((gAct c no (fApprove c guardian)).1).wait), d4807, d4809]) rfl rfl rfl s_25 (fun u hu => by simp only [List.mem_cons, List.not_mem_nil, or_false] at hu; rcases hu with rfl | rfl | rfl | rfl | rfl <;> first | rfl | exact hd4808.oneCell | exact hd4810.oneCell) (by repeat (first | assumption | constructor)) bx4800 (of_decide_eq_true rfl) s4797 fun w4802 s4803 m4804 k4805 bx4806 => (?_))
  have hp4767 := hp4767.mv m4804
  have hd4808 := hd4808.mv m4804
  have hd4810 := hd4810.mv m4804
  refine wl_s (o_assign (vI ((gAct c no (fApprove c guardian)).2)) rfl (wl_nil (thenQ_n (?_))))
  refine cw_seq (?_)
  refine cw_region (by kernel_rfl) (wl_s (o_loadS Try.underlying25 rfl s_25 rfl hp4767 fun cs4811 hs4812 => (wl_s (o_move (vI no) rfl (wl_s (o_move (vI guardian) rfl (wl_s (o_callK (vs := [Value.agg cs4811.toArray, vI no, vI guardian]) enter_19 (c_refApprove (O := (b4795 :: []) ++ O) cs4811 c no guardian w4802 hs4812 s4803.lt) rfl s4803 fun v4813 w4814 s4815 m4816 k4817 r4818 => (?_)))))))))
  obtain ⟨cs4819, rfl, hs4820⟩ := r4818
  have hp4767 := hp4767.mv m4816
  have hd4808 := hd4808.mv m4816
  have hd4810 := hd4810.mv m4816
  have bx4806 := bx4806.keep k4817 (by simp)
  refine wl_s (o_move (Value.tuple #[Value.agg cs4819.toArray, vI ((gAct c no (fApprove c guardian)).2)]) rfl (wl_s (o_extract (Value.agg cs4819.toArray) rfl rfl (wl_s (o_extract (vI ((gAct c no (fApprove c guardian)).2)) rfl rfl (wl_s (o_alloc [vI (0 : Int), vI (0 : Int), vI (0 : Int), Value.slice none 0 0, Value.slice none 0 0] z_25 rfl s4815 fun b4821 w4822 e4827 s4823 m4824 k4825 bx4826 => (?_))))))))
  have ne4828 : b4795 ≠ b4821 := by have := bx4806.lt; omega
  clear e4827
  have hp4767 := hp4767.mv m4824
  have hd4808 := hd4808.mv m4824
  have hd4810 := hd4810.mv m4824
  have hs4820 : Enc.circle.rd w4822 ((b4821 :: (b4795 :: [])) ++ O) cs4819 ((gAct c no (fApprove c guardian)).1) := Enc.mv Enc.circle (x := (gAct c no (fApprove c guardian)).1) hs4820 m4824
  have bx4806 := bx4806.keep k4825 (by simp)
  obtain ⟨d4834, d4836, rfl, hd4835, hd4837⟩ := hs4820
  have := hd4835.len_le
  have := hd4837.len_le
  refine wl_n (o_store (vs := [vI (((gAct c no (fApprove c guardian)).1).epoch), vI (((gAct c no (fApprove c guardian)).1).threshold), vI (((gAct c no (fApprove c guardian)).1).wait), d4834, d4836]) (.agg #[vI (((gAct c no (fApprove c guardian)).1).epoch), vI (((gAct c no (fApprove c guardian)).1).threshold), vI (((gAct c no (fApprove c guardian)).1).wait), d4834, d4836]) rfl rfl rfl s_25 (fun u hu => by simp only [List.mem_cons, List.not_mem_nil, or_false] at hu; rcases hu with rfl | rfl | rfl | rfl | rfl <;> first | rfl | exact hd4835.oneCell | exact hd4837.oneCell) (by repeat (first | assumption | constructor)) bx4826 (of_decide_eq_true rfl) s4823 fun w4829 s4830 m4831 k4832 bx4833 => (?_))
  have hp4767 := hp4767.mv m4831
  have hd4808 := hd4808.mv m4831
  have hd4810 := hd4810.mv m4831
  have hd4835 := hd4835.mv m4831
  have hd4837 := hd4837.mv m4831
  have bx4806 := bx4806.keep k4832 (nin1 ne4828)
  refine wl_s (o_assign (vI ((gAct c no (fApprove c guardian)).2)) rfl (wl_nil (thenQ_n (?_))))
  refine cw_seq (?_)
  refine cw_region (by kernel_rfl) (wl_s (o_loadS Try.underlying25 rfl s_25 rfl hp4767 fun cs4838 hs4839 => (wl_s (o_move (vI no) rfl (wl_s (o_move (vI day) rfl (wl_s (o_callK (vs := [Value.agg cs4838.toArray, vI no, vI day]) enter_20 (c_veto (O := (b4821 :: (b4795 :: [])) ++ O) cs4838 c no day w4829 hs4839 s4830.lt) rfl s4830 fun v4840 w4841 s4842 m4843 k4844 r4845 => (?_)))))))))
  obtain ⟨cs4846, rfl, hs4847⟩ := r4845
  have hp4767 := hp4767.mv m4843
  have hd4808 := hd4808.mv m4843
  have hd4810 := hd4810.mv m4843
  have hd4835 := hd4835.mv m4843
  have hd4837 := hd4837.mv m4843
  have bx4806 := bx4806.keep k4844 (by simp)
  have bx4833 := bx4833.keep k4844 (by simp)
  refine wl_s (o_move (Value.tuple #[Value.agg cs4846.toArray, vI ((gAct c no (fVeto day)).2)]) rfl (wl_s (o_extract (Value.agg cs4846.toArray) rfl rfl (wl_s (o_extract (vI ((gAct c no (fVeto day)).2)) rfl rfl (wl_s (o_alloc [vI (0 : Int), vI (0 : Int), vI (0 : Int), Value.slice none 0 0, Value.slice none 0 0] z_25 rfl s4842 fun b4848 w4849 e4854 s4850 m4851 k4852 bx4853 => (?_))))))))
  have ne4855 : b4795 ≠ b4848 := by have := bx4806.lt; omega
  have ne4856 : b4821 ≠ b4848 := by have := bx4833.lt; omega
  clear e4854
  have hp4767 := hp4767.mv m4851
  have hd4808 := hd4808.mv m4851
  have hd4810 := hd4810.mv m4851
  have hd4835 := hd4835.mv m4851
  have hd4837 := hd4837.mv m4851
  have hs4847 : Enc.circle.rd w4849 ((b4848 :: (b4821 :: (b4795 :: []))) ++ O) cs4846 ((gAct c no (fVeto day)).1) := Enc.mv Enc.circle (x := (gAct c no (fVeto day)).1) hs4847 m4851
  have bx4806 := bx4806.keep k4852 (by simp)
  have bx4833 := bx4833.keep k4852 (by simp)
  obtain ⟨d4862, d4864, rfl, hd4863, hd4865⟩ := hs4847
  have := hd4863.len_le
  have := hd4865.len_le
  refine wl_n (o_store (vs := [vI (((gAct c no (fVeto day)).1).epoch), vI (((gAct c no (fVeto day)).1).threshold), vI (((gAct c no (fVeto day)).1).wait), d4862, d4864]) (.agg #[vI (((gAct c no (fVeto day)).1).epoch), vI (((gAct c no (fVeto day)).1).threshold), vI (((gAct c no (fVeto day)).1).wait), d4862, d4864]) rfl rfl rfl s_25 (fun u hu => by simp only [List.mem_cons, List.not_mem_nil, or_false] at hu; rcases hu with rfl | rfl | rfl | rfl | rfl <;> first | rfl | exact hd4863.oneCell | exact hd4865.oneCell) (by repeat (first | assumption | constructor)) bx4853 (of_decide_eq_true rfl) s4850 fun w4857 s4858 m4859 k4860 bx4861 => (?_))
  have hp4767 := hp4767.mv m4859
  have hd4808 := hd4808.mv m4859
  have hd4810 := hd4810.mv m4859
  have hd4835 := hd4835.mv m4859
  have hd4837 := hd4837.mv m4859
  have hd4863 := hd4863.mv m4859
  have hd4865 := hd4865.mv m4859
  have bx4806 := bx4806.keep k4860 (nin1 ne4855)
  have bx4833 := bx4833.keep k4860 (nin1 ne4856)
  refine wl_s (o_assign (vI ((gAct c no (fVeto day)).2)) rfl (wl_nil (thenQ_n (?_))))
  refine cw_seq (?_)
  refine cw_region (by kernel_rfl) (wl_s (o_loadS Try.underlying25 rfl s_25 rfl hp4767 fun cs4866 hs4867 => (wl_s (o_move (vI no) rfl (wl_s (o_move (vI day) rfl (wl_s (o_callK (vs := [Value.agg cs4866.toArray, vI no, vI day]) enter_21 (c_refVeto (O := (b4848 :: (b4821 :: (b4795 :: []))) ++ O) cs4866 c no day w4857 hs4867 s4858.lt) rfl s4858 fun v4868 w4869 s4870 m4871 k4872 r4873 => (?_)))))))))
  obtain ⟨cs4874, rfl, hs4875⟩ := r4873
  have hp4767 := hp4767.mv m4871
  have hd4808 := hd4808.mv m4871
  have hd4810 := hd4810.mv m4871
  have hd4835 := hd4835.mv m4871
  have hd4837 := hd4837.mv m4871
  have hd4863 := hd4863.mv m4871
  have hd4865 := hd4865.mv m4871
  have bx4806 := bx4806.keep k4872 (by simp)
  have bx4833 := bx4833.keep k4872 (by simp)
  have bx4861 := bx4861.keep k4872 (by simp)
  refine wl_s (o_move (Value.tuple #[Value.agg cs4874.toArray, vI ((gAct c no (fVeto day)).2)]) rfl (wl_s (o_extract (Value.agg cs4874.toArray) rfl rfl (wl_s (o_extract (vI ((gAct c no (fVeto day)).2)) rfl rfl (wl_s (o_alloc [vI (0 : Int), vI (0 : Int), vI (0 : Int), Value.slice none 0 0, Value.slice none 0 0] z_25 rfl s4870 fun b4876 w4877 e4882 s4878 m4879 k4880 bx4881 => (?_))))))))
  have ne4883 : b4795 ≠ b4876 := by have := bx4806.lt; omega
  have ne4884 : b4821 ≠ b4876 := by have := bx4833.lt; omega
  have ne4885 : b4848 ≠ b4876 := by have := bx4861.lt; omega
  clear e4882
  have hp4767 := hp4767.mv m4879
  have hd4808 := hd4808.mv m4879
  have hd4810 := hd4810.mv m4879
  have hd4835 := hd4835.mv m4879
  have hd4837 := hd4837.mv m4879
  have hd4863 := hd4863.mv m4879
  have hd4865 := hd4865.mv m4879
  have hs4875 : Enc.circle.rd w4877 ((b4876 :: (b4848 :: (b4821 :: (b4795 :: [])))) ++ O) cs4874 ((gAct c no (fVeto day)).1) := Enc.mv Enc.circle (x := (gAct c no (fVeto day)).1) hs4875 m4879
  have bx4806 := bx4806.keep k4880 (by simp)
  have bx4833 := bx4833.keep k4880 (by simp)
  have bx4861 := bx4861.keep k4880 (by simp)
  obtain ⟨d4891, d4893, rfl, hd4892, hd4894⟩ := hs4875
  have := hd4892.len_le
  have := hd4894.len_le
  refine wl_n (o_store (vs := [vI (((gAct c no (fVeto day)).1).epoch), vI (((gAct c no (fVeto day)).1).threshold), vI (((gAct c no (fVeto day)).1).wait), d4891, d4893]) (.agg #[vI (((gAct c no (fVeto day)).1).epoch), vI (((gAct c no (fVeto day)).1).threshold), vI (((gAct c no (fVeto day)).1).wait), d4891, d4893]) rfl rfl rfl s_25 (fun u hu => by simp only [List.mem_cons, List.not_mem_nil, or_false] at hu; rcases hu with rfl | rfl | rfl | rfl | rfl <;> first | rfl | exact hd4892.oneCell | exact hd4894.oneCell) (by repeat (first | assumption | constructor)) bx4881 (of_decide_eq_true rfl) s4878 fun w4886 s4887 m4888 k4889 bx4890 => (?_))
  have hp4767 := hp4767.mv m4888
  have hd4808 := hd4808.mv m4888
  have hd4810 := hd4810.mv m4888
  have hd4835 := hd4835.mv m4888
  have hd4837 := hd4837.mv m4888
  have hd4863 := hd4863.mv m4888
  have hd4865 := hd4865.mv m4888
  have hd4892 := hd4892.mv m4888
  have hd4894 := hd4894.mv m4888
  have bx4806 := bx4806.keep k4889 (nin1 ne4883)
  have bx4833 := bx4833.keep k4889 (nin1 ne4884)
  have bx4861 := bx4861.keep k4889 (nin1 ne4885)
  refine wl_s (o_assign (vI ((gAct c no (fVeto day)).2)) rfl (wl_nil (thenQ_n (?_))))
  refine cw_seq (?_)
  refine cw_region (by kernel_rfl) (wl_s (o_loadS Try.underlying25 rfl s_25 rfl hp4767 fun cs4895 hs4896 => (wl_s (o_move (vI no) rfl (wl_s (o_move (vI day) rfl (wl_s (o_callK (vs := [Value.agg cs4895.toArray, vI no, vI day]) enter_22 (c_finish (O := (b4876 :: (b4848 :: (b4821 :: (b4795 :: [])))) ++ O) cs4895 c no day w4886 hs4896 s4887.lt) rfl s4887 fun v4897 w4898 s4899 m4900 k4901 r4902 => (?_)))))))))
  obtain ⟨cs4903, rfl, hs4904⟩ := r4902
  have hp4767 := hp4767.mv m4900
  have hd4808 := hd4808.mv m4900
  have hd4810 := hd4810.mv m4900
  have hd4835 := hd4835.mv m4900
  have hd4837 := hd4837.mv m4900
  have hd4863 := hd4863.mv m4900
  have hd4865 := hd4865.mv m4900
  have hd4892 := hd4892.mv m4900
  have hd4894 := hd4894.mv m4900
  have bx4806 := bx4806.keep k4901 (by simp)
  have bx4833 := bx4833.keep k4901 (by simp)
  have bx4861 := bx4861.keep k4901 (by simp)
  have bx4890 := bx4890.keep k4901 (by simp)
  refine wl_s (o_move (Value.tuple #[Value.agg cs4903.toArray, vI ((gAct c no (fFinish c day)).2)]) rfl (wl_s (o_extract (Value.agg cs4903.toArray) rfl rfl (wl_s (o_extract (vI ((gAct c no (fFinish c day)).2)) rfl rfl (wl_s (o_alloc [vI (0 : Int), vI (0 : Int), vI (0 : Int), Value.slice none 0 0, Value.slice none 0 0] z_25 rfl s4899 fun b4905 w4906 e4911 s4907 m4908 k4909 bx4910 => (?_))))))))
  have ne4912 : b4795 ≠ b4905 := by have := bx4806.lt; omega
  have ne4913 : b4821 ≠ b4905 := by have := bx4833.lt; omega
  have ne4914 : b4848 ≠ b4905 := by have := bx4861.lt; omega
  have ne4915 : b4876 ≠ b4905 := by have := bx4890.lt; omega
  clear e4911
  have hp4767 := hp4767.mv m4908
  have hd4808 := hd4808.mv m4908
  have hd4810 := hd4810.mv m4908
  have hd4835 := hd4835.mv m4908
  have hd4837 := hd4837.mv m4908
  have hd4863 := hd4863.mv m4908
  have hd4865 := hd4865.mv m4908
  have hd4892 := hd4892.mv m4908
  have hd4894 := hd4894.mv m4908
  have hs4904 : Enc.circle.rd w4906 ((b4905 :: (b4876 :: (b4848 :: (b4821 :: (b4795 :: []))))) ++ O) cs4903 ((gAct c no (fFinish c day)).1) := Enc.mv Enc.circle (x := (gAct c no (fFinish c day)).1) hs4904 m4908
  have bx4806 := bx4806.keep k4909 (by simp)
  have bx4833 := bx4833.keep k4909 (by simp)
  have bx4861 := bx4861.keep k4909 (by simp)
  have bx4890 := bx4890.keep k4909 (by simp)
  obtain ⟨d4921, d4923, rfl, hd4922, hd4924⟩ := hs4904
  have := hd4922.len_le
  have := hd4924.len_le
  refine wl_n (o_store (vs := [vI (((gAct c no (fFinish c day)).1).epoch), vI (((gAct c no (fFinish c day)).1).threshold), vI (((gAct c no (fFinish c day)).1).wait), d4921, d4923]) (.agg #[vI (((gAct c no (fFinish c day)).1).epoch), vI (((gAct c no (fFinish c day)).1).threshold), vI (((gAct c no (fFinish c day)).1).wait), d4921, d4923]) rfl rfl rfl s_25 (fun u hu => by simp only [List.mem_cons, List.not_mem_nil, or_false] at hu; rcases hu with rfl | rfl | rfl | rfl | rfl <;> first | rfl | exact hd4922.oneCell | exact hd4924.oneCell) (by repeat (first | assumption | constructor)) bx4910 (of_decide_eq_true rfl) s4907 fun w4916 s4917 m4918 k4919 bx4920 => (?_))
  have hp4767 := hp4767.mv m4918
  have hd4808 := hd4808.mv m4918
  have hd4810 := hd4810.mv m4918
  have hd4835 := hd4835.mv m4918
  have hd4837 := hd4837.mv m4918
  have hd4863 := hd4863.mv m4918
  have hd4865 := hd4865.mv m4918
  have hd4892 := hd4892.mv m4918
  have hd4894 := hd4894.mv m4918
  have hd4922 := hd4922.mv m4918
  have hd4924 := hd4924.mv m4918
  have bx4806 := bx4806.keep k4919 (nin1 ne4912)
  have bx4833 := bx4833.keep k4919 (nin1 ne4913)
  have bx4861 := bx4861.keep k4919 (nin1 ne4914)
  have bx4890 := bx4890.keep k4919 (nin1 ne4915)
  refine wl_s (o_assign (vI ((gAct c no (fFinish c day)).2)) rfl (wl_nil (thenQ_n (?_))))
  refine cw_seq (?_)
  refine cw_region (by kernel_rfl) (wl_s (o_loadS Try.underlying25 rfl s_25 rfl hp4767 fun cs4925 hs4926 => (wl_s (o_move (vI no) rfl (wl_s (o_move (vI day) rfl (wl_s (o_callK (vs := [Value.agg cs4925.toArray, vI no, vI day]) enter_23 (c_refFinish (O := (b4905 :: (b4876 :: (b4848 :: (b4821 :: (b4795 :: []))))) ++ O) cs4925 c no day w4916 hs4926 s4917.lt) rfl s4917 fun v4927 w4928 s4929 m4930 k4931 r4932 => (?_)))))))))
  obtain ⟨cs4933, rfl, hs4934⟩ := r4932
  have hd4808 := hd4808.mv m4930
  have hd4810 := hd4810.mv m4930
  have hd4835 := hd4835.mv m4930
  have hd4837 := hd4837.mv m4930
  have hd4863 := hd4863.mv m4930
  have hd4865 := hd4865.mv m4930
  have hd4892 := hd4892.mv m4930
  have hd4894 := hd4894.mv m4930
  have hd4922 := hd4922.mv m4930
  have hd4924 := hd4924.mv m4930
  have bx4806 := bx4806.keep k4931 (by simp)
  have bx4833 := bx4833.keep k4931 (by simp)
  have bx4861 := bx4861.keep k4931 (by simp)
  have bx4890 := bx4890.keep k4931 (by simp)
  have bx4920 := bx4920.keep k4931 (by simp)
  refine wl_s (o_move (Value.tuple #[Value.agg cs4933.toArray, vI ((gAct c no (fFinish c day)).2)]) rfl (wl_s (o_extract (Value.agg cs4933.toArray) rfl rfl (wl_s (o_extract (vI ((gAct c no (fFinish c day)).2)) rfl rfl (wl_s (o_alloc [vI (0 : Int), vI (0 : Int), vI (0 : Int), Value.slice none 0 0, Value.slice none 0 0] z_25 rfl s4929 fun b4935 w4936 e4941 s4937 m4938 k4939 bx4940 => (?_))))))))
  have ne4942 : b4795 ≠ b4935 := by have := bx4806.lt; omega
  have ne4943 : b4821 ≠ b4935 := by have := bx4833.lt; omega
  have ne4944 : b4848 ≠ b4935 := by have := bx4861.lt; omega
  have ne4945 : b4876 ≠ b4935 := by have := bx4890.lt; omega
  have ne4946 : b4905 ≠ b4935 := by have := bx4920.lt; omega
  clear e4941
  have hd4808 := hd4808.mv m4938
  have hd4810 := hd4810.mv m4938
  have hd4835 := hd4835.mv m4938
  have hd4837 := hd4837.mv m4938
  have hd4863 := hd4863.mv m4938
  have hd4865 := hd4865.mv m4938
  have hd4892 := hd4892.mv m4938
  have hd4894 := hd4894.mv m4938
  have hd4922 := hd4922.mv m4938
  have hd4924 := hd4924.mv m4938
  have hs4934 : Enc.circle.rd w4936 ((b4935 :: (b4905 :: (b4876 :: (b4848 :: (b4821 :: (b4795 :: [])))))) ++ O) cs4933 ((gAct c no (fFinish c day)).1) := Enc.mv Enc.circle (x := (gAct c no (fFinish c day)).1) hs4934 m4938
  have bx4806 := bx4806.keep k4939 (by simp)
  have bx4833 := bx4833.keep k4939 (by simp)
  have bx4861 := bx4861.keep k4939 (by simp)
  have bx4890 := bx4890.keep k4939 (by simp)
  have bx4920 := bx4920.keep k4939 (by simp)
  obtain ⟨d4952, d4954, rfl, hd4953, hd4955⟩ := hs4934
  have := hd4953.len_le
  have := hd4955.len_le
  refine wl_n (o_store (vs := [vI (((gAct c no (fFinish c day)).1).epoch), vI (((gAct c no (fFinish c day)).1).threshold), vI (((gAct c no (fFinish c day)).1).wait), d4952, d4954]) (.agg #[vI (((gAct c no (fFinish c day)).1).epoch), vI (((gAct c no (fFinish c day)).1).threshold), vI (((gAct c no (fFinish c day)).1).wait), d4952, d4954]) rfl rfl rfl s_25 (fun u hu => by simp only [List.mem_cons, List.not_mem_nil, or_false] at hu; rcases hu with rfl | rfl | rfl | rfl | rfl <;> first | rfl | exact hd4953.oneCell | exact hd4955.oneCell) (by repeat (first | assumption | constructor)) bx4940 (of_decide_eq_true rfl) s4937 fun w4947 s4948 m4949 k4950 bx4951 => (?_))
  have hd4808 := hd4808.mv m4949
  have hd4810 := hd4810.mv m4949
  have hd4835 := hd4835.mv m4949
  have hd4837 := hd4837.mv m4949
  have hd4863 := hd4863.mv m4949
  have hd4865 := hd4865.mv m4949
  have hd4892 := hd4892.mv m4949
  have hd4894 := hd4894.mv m4949
  have hd4922 := hd4922.mv m4949
  have hd4924 := hd4924.mv m4949
  have hd4953 := hd4953.mv m4949
  have hd4955 := hd4955.mv m4949
  have bx4806 := bx4806.keep k4950 (nin1 ne4942)
  have bx4833 := bx4833.keep k4950 (nin1 ne4943)
  have bx4861 := bx4861.keep k4950 (nin1 ne4944)
  have bx4890 := bx4890.keep k4950 (nin1 ne4945)
  have bx4920 := bx4920.keep k4950 (nin1 ne4946)
  refine wl_s (o_assign (vI ((gAct c no (fFinish c day)).2)) rfl (wl_nil (thenQ_n (?_))))
  refine cw_seq (?_)
  refine cw_region (by kernel_rfl) (wl_s (o_loadBxA (vs := [vI (((gAct c no (fApprove c guardian)).1).epoch), vI (((gAct c no (fApprove c guardian)).1).threshold), vI (((gAct c no (fApprove c guardian)).1).wait), d4807, d4809]) Try.underlying25 rfl s_25 rfl bx4806 rfl (wl_s (o_loadBxA (vs := [vI (((gAct c no (fApprove c guardian)).1).epoch), vI (((gAct c no (fApprove c guardian)).1).threshold), vI (((gAct c no (fApprove c guardian)).1).wait), d4834, d4836]) Try.underlying25 rfl s_25 rfl bx4833 rfl (wl_s (o_callK (vs := [Value.agg #[vI (((gAct c no (fApprove c guardian)).1).epoch), vI (((gAct c no (fApprove c guardian)).1).threshold), vI (((gAct c no (fApprove c guardian)).1).wait), d4807, d4809], Value.agg #[vI (((gAct c no (fApprove c guardian)).1).epoch), vI (((gAct c no (fApprove c guardian)).1).threshold), vI (((gAct c no (fApprove c guardian)).1).wait), d4834, d4836]]) enter_15 (c_sameC (O := (b4935 :: (b4905 :: (b4876 :: (b4848 :: (b4821 :: (b4795 :: [])))))) ++ O) [vI (((gAct c no (fApprove c guardian)).1).epoch), vI (((gAct c no (fApprove c guardian)).1).threshold), vI (((gAct c no (fApprove c guardian)).1).wait), d4807, d4809] ((gAct c no (fApprove c guardian)).1) [vI (((gAct c no (fApprove c guardian)).1).epoch), vI (((gAct c no (fApprove c guardian)).1).threshold), vI (((gAct c no (fApprove c guardian)).1).wait), d4834, d4836] ((gAct c no (fApprove c guardian)).1) w4947 ⟨_, _, rfl, hd4808, hd4810⟩ ⟨_, _, rfl, hd4835, hd4837⟩ s4948.lt) rfl s4948 fun v4956 w4957 s4958 m4959 k4960 r4961 => (?_)))))))
  obtain rfl := r4961
  have hd4863 := hd4863.mv m4959
  have hd4865 := hd4865.mv m4959
  have hd4892 := hd4892.mv m4959
  have hd4894 := hd4894.mv m4959
  have hd4922 := hd4922.mv m4959
  have hd4924 := hd4924.mv m4959
  have hd4953 := hd4953.mv m4959
  have hd4955 := hd4955.mv m4959
  have bx4861 := bx4861.keep k4960 (by simp)
  have bx4890 := bx4890.keep k4960 (by simp)
  have bx4920 := bx4920.keep k4960 (by simp)
  have bx4951 := bx4951.keep k4960 (by simp)
  refine wl_s (o_move (Value.bool (sameC ((gAct c no (fApprove c guardian)).1) ((gAct c no (fApprove c guardian)).1))) rfl (?_))
  have hb4962 : (sameC ((gAct c no (fApprove c guardian)).1) ((gAct c no (fApprove c guardian)).1)) = true := (sameC_refl _)
  rw [hb4962]
  refine wl_t rfl (o_move (vI ((gAct c no (fApprove c guardian)).2)) rfl (wl_t rfl (o_move (vI ((gAct c no (fApprove c guardian)).2)) rfl (wl_t rfl (o_eql .i64 ((gAct c no (fApprove c guardian)).2) ((gAct c no (fApprove c guardian)).2) rfl rfl (wl_s (o_pickT (Value.bool (((gAct c no (fApprove c guardian)).2) == ((gAct c no (fApprove c guardian)).2))) rfl rfl (wl_s (o_move (Value.bool (((gAct c no (fApprove c guardian)).2) == ((gAct c no (fApprove c guardian)).2))) rfl (?_))))))))))
  have hb4963 : (((gAct c no (fApprove c guardian)).2) == ((gAct c no (fApprove c guardian)).2)) = true := (beq_self_eq_true _)
  rw [hb4963]
  refine wl_t rfl (o_loadBxA (vs := [vI (((gAct c no (fVeto day)).1).epoch), vI (((gAct c no (fVeto day)).1).threshold), vI (((gAct c no (fVeto day)).1).wait), d4862, d4864]) Try.underlying25 rfl s_25 rfl bx4861 rfl (wl_t rfl (o_loadBxA (vs := [vI (((gAct c no (fVeto day)).1).epoch), vI (((gAct c no (fVeto day)).1).threshold), vI (((gAct c no (fVeto day)).1).wait), d4891, d4893]) Try.underlying25 rfl s_25 rfl bx4890 rfl (wl_t rfl (o_callK (vs := [Value.agg #[vI (((gAct c no (fVeto day)).1).epoch), vI (((gAct c no (fVeto day)).1).threshold), vI (((gAct c no (fVeto day)).1).wait), d4862, d4864], Value.agg #[vI (((gAct c no (fVeto day)).1).epoch), vI (((gAct c no (fVeto day)).1).threshold), vI (((gAct c no (fVeto day)).1).wait), d4891, d4893]]) enter_15 (c_sameC (O := (b4935 :: (b4905 :: (b4876 :: (b4848 :: (b4821 :: (b4795 :: [])))))) ++ O) [vI (((gAct c no (fVeto day)).1).epoch), vI (((gAct c no (fVeto day)).1).threshold), vI (((gAct c no (fVeto day)).1).wait), d4862, d4864] ((gAct c no (fVeto day)).1) [vI (((gAct c no (fVeto day)).1).epoch), vI (((gAct c no (fVeto day)).1).threshold), vI (((gAct c no (fVeto day)).1).wait), d4891, d4893] ((gAct c no (fVeto day)).1) w4957 ⟨_, _, rfl, hd4863, hd4865⟩ ⟨_, _, rfl, hd4892, hd4894⟩ s4958.lt) rfl s4958 fun v4964 w4965 s4966 m4967 k4968 r4969 => (?_))))))
  obtain rfl := r4969
  have hd4922 := hd4922.mv m4967
  have hd4924 := hd4924.mv m4967
  have hd4953 := hd4953.mv m4967
  have hd4955 := hd4955.mv m4967
  have bx4920 := bx4920.keep k4968 (by simp)
  have bx4951 := bx4951.keep k4968 (by simp)
  refine wl_s (o_pickT (Value.bool (sameC ((gAct c no (fVeto day)).1) ((gAct c no (fVeto day)).1))) rfl rfl (wl_s (o_move (Value.bool (sameC ((gAct c no (fVeto day)).1) ((gAct c no (fVeto day)).1))) rfl (?_))))
  have hb4970 : (sameC ((gAct c no (fVeto day)).1) ((gAct c no (fVeto day)).1)) = true := (sameC_refl _)
  rw [hb4970]
  refine wl_t rfl (o_move (vI ((gAct c no (fVeto day)).2)) rfl (wl_t rfl (o_move (vI ((gAct c no (fVeto day)).2)) rfl (wl_t rfl (o_eql .i64 ((gAct c no (fVeto day)).2) ((gAct c no (fVeto day)).2) rfl rfl (wl_s (o_pickT (Value.bool (((gAct c no (fVeto day)).2) == ((gAct c no (fVeto day)).2))) rfl rfl (wl_s (o_move (Value.bool (((gAct c no (fVeto day)).2) == ((gAct c no (fVeto day)).2))) rfl (?_))))))))))
  have hb4971 : (((gAct c no (fVeto day)).2) == ((gAct c no (fVeto day)).2)) = true := (beq_self_eq_true _)
  rw [hb4971]
  refine wl_t rfl (o_loadBxA (vs := [vI (((gAct c no (fFinish c day)).1).epoch), vI (((gAct c no (fFinish c day)).1).threshold), vI (((gAct c no (fFinish c day)).1).wait), d4921, d4923]) Try.underlying25 rfl s_25 rfl bx4920 rfl (wl_t rfl (o_loadBxA (vs := [vI (((gAct c no (fFinish c day)).1).epoch), vI (((gAct c no (fFinish c day)).1).threshold), vI (((gAct c no (fFinish c day)).1).wait), d4952, d4954]) Try.underlying25 rfl s_25 rfl bx4951 rfl (wl_t rfl (o_callK (vs := [Value.agg #[vI (((gAct c no (fFinish c day)).1).epoch), vI (((gAct c no (fFinish c day)).1).threshold), vI (((gAct c no (fFinish c day)).1).wait), d4921, d4923], Value.agg #[vI (((gAct c no (fFinish c day)).1).epoch), vI (((gAct c no (fFinish c day)).1).threshold), vI (((gAct c no (fFinish c day)).1).wait), d4952, d4954]]) enter_15 (c_sameC (O := (b4935 :: (b4905 :: (b4876 :: (b4848 :: (b4821 :: (b4795 :: [])))))) ++ O) [vI (((gAct c no (fFinish c day)).1).epoch), vI (((gAct c no (fFinish c day)).1).threshold), vI (((gAct c no (fFinish c day)).1).wait), d4921, d4923] ((gAct c no (fFinish c day)).1) [vI (((gAct c no (fFinish c day)).1).epoch), vI (((gAct c no (fFinish c day)).1).threshold), vI (((gAct c no (fFinish c day)).1).wait), d4952, d4954] ((gAct c no (fFinish c day)).1) w4965 ⟨_, _, rfl, hd4922, hd4924⟩ ⟨_, _, rfl, hd4953, hd4955⟩ s4966.lt) rfl s4966 fun v4972 w4973 s4974 m4975 k4976 r4977 => (?_))))))
  obtain rfl := r4977
  refine wl_s (o_pickT (Value.bool (sameC ((gAct c no (fFinish c day)).1) ((gAct c no (fFinish c day)).1))) rfl rfl (wl_s (o_move (Value.bool (sameC ((gAct c no (fFinish c day)).1) ((gAct c no (fFinish c day)).1))) rfl (?_))))
  have hb4978 : (sameC ((gAct c no (fFinish c day)).1) ((gAct c no (fFinish c day)).1)) = true := (sameC_refl _)
  rw [hb4978]
  refine wl_t rfl (o_move (vI ((gAct c no (fFinish c day)).2)) rfl (wl_t rfl (o_move (vI ((gAct c no (fFinish c day)).2)) rfl (wl_t rfl (o_eql .i64 ((gAct c no (fFinish c day)).2) ((gAct c no (fFinish c day)).2) rfl rfl (wl_s (o_pickT (Value.bool (((gAct c no (fFinish c day)).2) == ((gAct c no (fFinish c day)).2))) rfl rfl (wl_s (o_assign (Value.bool (((gAct c no (fFinish c day)).2) == ((gAct c no (fFinish c day)).2))) rfl (wl_nil (thenQ_n (?_))))))))))))
  refine cw_ret (end_r rfl (res1 rfl rfl rfl) (?_))
  have e : true = (((gAct c no (fFinish c day)).2) == ((gAct c no (fFinish c day)).2)) := by first | rfl | exact (beq_self_eq_true _).symm
  exact ⟨_, rfl, s4974.keep, by rw [e]; exact rfl⟩

end Go.Proofs.Ytpdekmknnpkmgaa
