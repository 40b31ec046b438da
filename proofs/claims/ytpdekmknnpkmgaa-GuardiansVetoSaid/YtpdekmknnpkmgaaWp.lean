/- Walks, printed by gen.py. -/
import Derived.Test.YtpdekmknnpkmgaaWk
import Derived.Test.YtpdekmknnpkmgaaMgC
set_option linter.unusedSimpArgs false
set_option linter.unusedVariables false
namespace Go.Proofs.Ytpdekmknnpkmgaa
open Go.Fw Go.RowKit

set_option maxHeartbeats 4000000 in
set_option maxRecDepth 100000 in
theorem c_GuardiansVeto {O : List Nat} (c_cs : List Value) (c : Circle) (no : Int) (day : Int) (later : Int) (guardian : Int) (w : World) (h_c : Enc.circle.rd w O c_cs c) (hO : ∀ b ∈ O, b < w.heap.size) : CallsK Try.prog 7 [.agg c_cs.toArray, vI no, vI day, vI later, vI guardian] w (fun v _ => v = .bool (true)) :=  by
 have h_c : Enc.circle.rd w ([] ++ O) c_cs c := h_c
 have s0 : St w O w [] := St.start hO
 refine callsK_of 132 Try.func7 rfl rfl (of_decide_eq_true rfl) (fun F0 => ?_)
 refine cw_seq (?_)
 refine cw_region (by kernel_rfl) (wl_s (o_boxR (E := Enc.circle) (Value.agg c_cs.toArray) (c_cs) c rfl rfl h_c s0 fun a4979 w4980 s4981 m4982 k4983 hp4984 => (?_)))
 refine wl_s (o_assign (Value.bool false) rfl (wl_nil (thenQ_n (?_))))
 refine cw_seq (?_)
 refine cw_seq (?_)
 refine cw_region (by kernel_rfl) (wl_s (o_callK (vs := []) enter_9 (c_sane45 (O := [] ++ O) w4980 s4981.lt) rfl s4981 fun v4985 w4986 s4987 m4988 k4989 r4990 => (?_)))
 obtain rfl := r4990
 have hp4984 := hp4984.mv m4988
 refine wl_s (o_not true rfl (wl_nil (thenQ_n (?_))))
 refine cw_cond false rfl rfl (fun h => by cases h) (fun _ => ?_)
 refine cw_skip (thenQ_n (?_))
 refine cw_seq (?_)
 refine cw_seq (?_)
 refine cw_region (by kernel_rfl) (wl_s (o_loadS Try.underlying25 rfl s_25 rfl hp4984 fun cs4991 hs4992 => (wl_s (o_callK (vs := [Value.agg cs4991.toArray]) enter_10 (c_few (O := [] ++ O) cs4991 c w4986 hs4992 s4987.lt) rfl s4987 fun v4993 w4994 s4995 m4996 k4997 r4998 => (?_)))))
 obtain rfl := r4998
 have hp4984 := hp4984.mv m4996
 refine wl_s (o_not (fewC c) rfl (wl_s (o_move (Value.bool (!(fewC c))) rfl (?_))))
 cases hb4999 : (!(fewC c))
 ·have hp5000 : (fewC c) = true := by first | simpa using hb4999 | (have e := hb4999; simp at e; omega)
  refine wl_t rfl (o_loadS Try.underlying25 rfl s_25 rfl hp4984 fun cs5001 hs5002 => (wl_t rfl (o_callK (vs := [Value.agg cs5001.toArray]) enter_16 (c_check (O := [] ++ O) cs5001 c w4994 hs5002 s4995.lt) rfl s4995 fun v5003 w5004 s5005 m5006 k5007 r5008 => (?_))))
  obtain rfl := r5008
  have hp4984 := hp4984.mv m5006
  refine wl_t rfl (o_neq .i64 (gCheck c) (0 : Int) rfl rfl (wl_s (o_pickF (Value.bool ((gCheck c) != (0 : Int))) rfl rfl (wl_s (o_move (Value.bool ((gCheck c) != (0 : Int))) rfl (?_))))))
  cases hb5009 : ((gCheck c) != (0 : Int))
  ·have hp5010 : gCheck c = (0 : Int) := by first | simpa using hb5009 | (have e := hb5009; simp at e; omega)
   refine wl_t rfl (o_move (vI no) rfl (wl_t rfl (o_lss .i64 no (0 : Int) rfl rfl (wl_s (o_pickF (Value.bool (decide (no < (0 : Int)))) rfl rfl (wl_s (o_move (Value.bool (decide (no < (0 : Int)))) rfl (?_))))))))
   cases hb5011 : (decide (no < (0 : Int)))
   ·have hp5012 : (0 : Int) ≤ no := by first | simpa using hb5011 | (have e := hb5011; simp at e; omega)
    refine wl_t rfl (o_move (vI no) rfl (wl_t rfl (o_fieldR 4 f_25_4 (c.recs) rfl hp4984 (fun _ _ _ h => Enc_circle_f4 h) fun a5013 hp5014 => (wl_t rfl (o_loadL Try.underlying23 rfl rfl hp5014 fun v5015 hl5016 => (?_))))))
    have := hl5016.len_le
    refine wl_t rfl (o_lenR Try.underlying23 rfl hl5016 (wl_t rfl (o_geq .i64 no (c.recs.length : Int) rfl rfl (wl_s (o_pickF (Value.bool (decide ((c.recs.length : Int) ≤ no))) rfl rfl (wl_nil (thenQ_n (?_))))))))
    refine cw_cond (decide ((c.recs.length : Int) ≤ no)) rfl rfl (fun hc5017 => ?_) (fun hc5017 => ?_)
    ·have hp5018 : (c.recs.length : Int) ≤ no := by first | simpa using hc5017 | (have e := hc5017; simp at e; omega)
     refine cw_seq (?_)
     refine cw_region (by kernel_rfl) (wl_s (o_assign (Value.bool true) rfl (wl_nil (thenQ_n (?_)))))
     refine cw_ret (thenQ_r (end_r rfl (res1 rfl rfl rfl) (?_)))
     exact ⟨_, rfl, s5005.keep, rfl⟩
    ·have hp5019 : no < (c.recs.length : Int) := by first | simpa using hc5017 | (have e := hc5017; simp at e; omega)
     have hok : gCheck c = 0 := by assumption
     have hn1 : 0 ≤ no := by assumption
     have hn2 : no < (c.recs.length : Int) := by assumption
     have hrl := recs_le hok
     refine cw_skip (thenQ_n (?_))
     refine cw_seq (?_)
     refine cw_region (by kernel_rfl) (wl_s (o_fieldR 4 f_25_4 (c.recs) rfl hp4984 (fun _ _ _ h => Enc_circle_f4 h) fun a5020 hp5021 => (wl_s (o_loadL Try.underlying23 rfl rfl hp5021 fun v5022 hl5023 => (?_)))))
     have := hl5023.len_le
     refine wl_s (o_move (vI no) rfl (wl_s (o_idx Try.underlying23 s_47 .i64 no no.toNat rfl rfl (by omega) hl5023 (by omega) fun a5024 hp5025 => (wl_s (o_loadS Try.underlying47 rfl s_47 rfl hp5025 fun cs5026 hs5027 => (wl_s (o_alloc [vI (0 : Int), vI (0 : Int), vI (0 : Int), Value.slice none 0 0, Value.slice none 0 0] z_47 rfl s5005 fun b5028 w5029 e5034 s5030 m5031 k5032 bx5033 => (?_))))))))
     clear e5034
     have hp4984 := hp4984.mv m5031
     have hs5027 : Enc.recovery.rd w5029 ((b5028 :: []) ++ O) cs5026 (c.recs[no.toNat]!) := Enc.mv Enc.recovery (x := c.recs[no.toNat]!) hs5027 m5031
     obtain ⟨d5040, d5042, rfl, hd5041, hd5043⟩ := hs5027
     have := hd5041.len_le
     have := hd5043.len_le
     refine wl_n (o_store (vs := [vI ((c.recs[no.toNat]!).no), vI ((c.recs[no.toNat]!).asked), vI ((c.recs[no.toNat]!).state), d5040, d5042]) (.agg #[vI ((c.recs[no.toNat]!).no), vI ((c.recs[no.toNat]!).asked), vI ((c.recs[no.toNat]!).state), d5040, d5042]) rfl rfl rfl s_47 (fun u hu => by simp only [List.mem_cons, List.not_mem_nil, or_false] at hu; rcases hu with rfl | rfl | rfl | rfl | rfl <;> first | rfl | exact hd5041.oneCell | exact hd5043.oneCell) (by repeat (first | assumption | constructor)) bx5033 (of_decide_eq_true rfl) s5030 fun w5035 s5036 m5037 k5038 bx5039 => (?_))
     have hp4984 := hp4984.mv m5037
     have hd5041 := hd5041.mv m5037
     have hd5043 := hd5043.mv m5037
     refine wl_nil (thenQ_n (?_))
     refine cw_seq (?_)
     refine cw_region (by kernel_rfl) (wl_s (o_loadS Try.underlying25 rfl s_25 rfl hp4984 fun cs5044 hs5045 => (wl_s (o_move (vI no) rfl (wl_s (o_move (vI day) rfl (wl_s (o_callK (vs := [Value.agg cs5044.toArray, vI no, vI day]) enter_20 (c_veto (O := (b5028 :: []) ++ O) cs5044 c no day w5035 hs5045 s5036.lt) rfl s5036 fun v5046 w5047 s5048 m5049 k5050 r5051 => (?_)))))))))
     obtain ⟨cs5052, rfl, hs5053⟩ := r5051
     have hp4984 := hp4984.mv m5049
     have hd5041 := hd5041.mv m5049
     have hd5043 := hd5043.mv m5049
     have bx5039 := bx5039.keep k5050 (by simp)
     refine wl_s (o_move (Value.tuple #[Value.agg cs5052.toArray, vI ((gAct c no (fVeto day)).2)]) rfl (wl_s (o_extract (Value.agg cs5052.toArray) rfl rfl (wl_s (o_extract (vI ((gAct c no (fVeto day)).2)) rfl rfl (wl_s (o_alloc [vI (0 : Int), vI (0 : Int), vI (0 : Int), Value.slice none 0 0, Value.slice none 0 0] z_25 rfl s5048 fun b5054 w5055 e5060 s5056 m5057 k5058 bx5059 => (?_))))))))
     have ne5061 : b5028 ≠ b5054 := by have := bx5039.lt; omega
     clear e5060
     have hp4984 := hp4984.mv m5057
     have hd5041 := hd5041.mv m5057
     have hd5043 := hd5043.mv m5057
     have hs5053 : Enc.circle.rd w5055 ((b5054 :: (b5028 :: [])) ++ O) cs5052 ((gAct c no (fVeto day)).1) := Enc.mv Enc.circle (x := (gAct c no (fVeto day)).1) hs5053 m5057
     have bx5039 := bx5039.keep k5058 (by simp)
     obtain ⟨d5067, d5069, rfl, hd5068, hd5070⟩ := hs5053
     have := hd5068.len_le
     have := hd5070.len_le
     refine wl_n (o_store (vs := [vI (((gAct c no (fVeto day)).1).epoch), vI (((gAct c no (fVeto day)).1).threshold), vI (((gAct c no (fVeto day)).1).wait), d5067, d5069]) (.agg #[vI (((gAct c no (fVeto day)).1).epoch), vI (((gAct c no (fVeto day)).1).threshold), vI (((gAct c no (fVeto day)).1).wait), d5067, d5069]) rfl rfl rfl s_25 (fun u hu => by simp only [List.mem_cons, List.not_mem_nil, or_false] at hu; rcases hu with rfl | rfl | rfl | rfl | rfl <;> first | rfl | exact hd5068.oneCell | exact hd5070.oneCell) (by repeat (first | assumption | constructor)) bx5059 (of_decide_eq_true rfl) s5056 fun w5062 s5063 m5064 k5065 bx5066 => (?_))
     have hp4984 := hp4984.mv m5064
     have hd5041 := hd5041.mv m5064
     have hd5043 := hd5043.mv m5064
     have hd5068 := hd5068.mv m5064
     have hd5070 := hd5070.mv m5064
     have bx5039 := bx5039.keep k5065 (nin1 ne5061)
     refine wl_s (o_assign (vI ((gAct c no (fVeto day)).2)) rfl (wl_nil (thenQ_n (?_))))
     refine cw_seq (?_)
     refine cw_seq (?_)
     refine cw_region (by kernel_rfl) (wl_s (o_move (vI ((gAct c no (fVeto day)).2)) rfl (wl_s (o_eql .i64 ((gAct c no (fVeto day)).2) (0 : Int) rfl rfl (wl_s (o_fieldL 2 f_47_2 rfl (wl_s (o_loadBx Try.underlying3 rfl (vI ((c.recs[no.toNat]!).state)) rfl bx5039 rfl (wl_s (o_neq .i64 ((c.recs[no.toNat]!).state) (1 : Int) rfl rfl (wl_s (o_move (Value.bool (((c.recs[no.toNat]!).state) != (1 : Int))) rfl (?_)))))))))))))
     cases hb5071 : (((c.recs[no.toNat]!).state) != (1 : Int))
     ·have hp5072 : (c.recs[no.toNat]!).state = (1 : Int) := by first | simpa using hb5071 | (have e := hb5071; simp at e; omega)
      refine wl_k rfl (wl_k rfl (wl_k rfl (wl_k rfl (wl_s (o_pickF (Value.bool false) rfl rfl (wl_s (o_move (Value.bool false) rfl (wl_k rfl (wl_k rfl (wl_s (o_pickF (Value.bool false) rfl rfl (wl_s (o_neqB (((gAct c no (fVeto day)).2) == (0 : Int)) false Try.underlying4 rfl rfl (wl_nil (thenQ_n (?_))))))))))))))))
      have hb5073 : ((((gAct c no (fVeto day)).2) == (0 : Int)) != false) = false := (by first | (rw [veto_e1 hok hn1 hn2 (by assumption)]; rfl) | (rw [veto_e2 hok hn1 hn2 (by assumption)]; rfl))
      rw [hb5073]
      refine cw_cond false rfl rfl (fun h => by cases h) (fun _ => ?_)
      refine cw_skip (thenQ_n (?_))
      refine cw_seq (?_)
      refine cw_seq (?_)
      refine cw_region (by kernel_rfl) (wl_s (o_move (vI ((gAct c no (fVeto day)).2)) rfl (wl_s (o_neq .i64 ((gAct c no (fVeto day)).2) (0 : Int) rfl rfl (wl_nil (thenQ_n (?_)))))))
      refine cw_cond (((gAct c no (fVeto day)).2) != (0 : Int)) rfl rfl (fun hc5074 => ?_) (fun hc5074 => ?_)
      ·have hp5075 : (gAct c no (fVeto day)).2 ≠ (0 : Int) := by first | simpa using hc5074 | (have e := hc5074; simp at e; omega)
       refine cw_seq (?_)
       refine cw_region (by kernel_rfl) (wl_s (o_move (vI ((gAct c no (fVeto day)).2)) rfl (wl_s (o_eql .i64 ((gAct c no (fVeto day)).2) (1 : Int) rfl rfl (wl_s (o_assign (Value.bool (((gAct c no (fVeto day)).2) == (1 : Int))) rfl (wl_nil (thenQ_n (?_)))))))))
       refine cw_ret (thenQ_r (end_r rfl (res1 rfl rfl rfl) (?_)))
       have e : true = (((gAct c no (fVeto day)).2) == (1 : Int)) := by first | rfl | exact ((sameC_iff _ _).2 hv.back).symm | (rw [veto_err hok hn1 hn2 (by assumption)]; rfl)
       exact ⟨_, rfl, s5063.keep, by rw [e]; exact rfl⟩
      ·have hp5076 : (gAct c no (fVeto day)).2 = (0 : Int) := by first | simpa using hc5074 | (have e := hc5074; simp at e; omega)
       have hv := vetoed_of hok hn1 hn2 hp5076
       have hvl := hv.len
       refine cw_skip (thenQ_n (?_))
       refine cw_seq (?_)
       refine cw_region (by kernel_rfl) (wl_s (o_loadBxA (vs := [vI (((gAct c no (fVeto day)).1).epoch), vI (((gAct c no (fVeto day)).1).threshold), vI (((gAct c no (fVeto day)).1).wait), d5067, d5069]) Try.underlying25 rfl s_25 rfl bx5066 rfl (wl_s (o_move (vI no) rfl (wl_s (o_move (vI guardian) rfl (wl_s (o_callK (vs := [Value.agg #[vI (((gAct c no (fVeto day)).1).epoch), vI (((gAct c no (fVeto day)).1).threshold), vI (((gAct c no (fVeto day)).1).wait), d5067, d5069], vI no, vI guardian]) enter_18 (c_approve (O := (b5054 :: (b5028 :: [])) ++ O) [vI (((gAct c no (fVeto day)).1).epoch), vI (((gAct c no (fVeto day)).1).threshold), vI (((gAct c no (fVeto day)).1).wait), d5067, d5069] ((gAct c no (fVeto day)).1) no guardian w5062 ⟨_, _, rfl, hd5068, hd5070⟩ s5063.lt) rfl s5063 fun v5077 w5078 s5079 m5080 k5081 r5082 => (?_)))))))))
       obtain ⟨cs5083, rfl, hs5084⟩ := r5082
       have hp4984 := hp4984.mv m5080
       have hd5041 := hd5041.mv m5080
       have hd5043 := hd5043.mv m5080
       have hd5068 := hd5068.mv m5080
       have hd5070 := hd5070.mv m5080
       have bx5039 := bx5039.keep k5081 (by simp)
       have bx5066 := bx5066.keep k5081 (by simp)
       refine wl_s (o_move (Value.tuple #[Value.agg cs5083.toArray, vI ((gAct ((gAct c no (fVeto day)).1) no (fApprove ((gAct c no (fVeto day)).1) guardian)).2)]) rfl (wl_s (o_extract (Value.agg cs5083.toArray) rfl rfl (wl_s (o_extract (vI ((gAct ((gAct c no (fVeto day)).1) no (fApprove ((gAct c no (fVeto day)).1) guardian)).2)) rfl rfl (wl_s (o_alloc [vI (0 : Int), vI (0 : Int), vI (0 : Int), Value.slice none 0 0, Value.slice none 0 0] z_25 rfl s5079 fun b5085 w5086 e5091 s5087 m5088 k5089 bx5090 => (?_))))))))
       have ne5092 : b5028 ≠ b5085 := by have := bx5039.lt; omega
       have ne5093 : b5054 ≠ b5085 := by have := bx5066.lt; omega
       clear e5091
       have hp4984 := hp4984.mv m5088
       have hd5041 := hd5041.mv m5088
       have hd5043 := hd5043.mv m5088
       have hd5068 := hd5068.mv m5088
       have hd5070 := hd5070.mv m5088
       have hs5084 : Enc.circle.rd w5086 ((b5085 :: (b5054 :: (b5028 :: []))) ++ O) cs5083 ((gAct ((gAct c no (fVeto day)).1) no (fApprove ((gAct c no (fVeto day)).1) guardian)).1) := Enc.mv Enc.circle (x := (gAct ((gAct c no (fVeto day)).1) no (fApprove ((gAct c no (fVeto day)).1) guardian)).1) hs5084 m5088
       have bx5039 := bx5039.keep k5089 (by simp)
       have bx5066 := bx5066.keep k5089 (by simp)
       obtain ⟨d5099, d5101, rfl, hd5100, hd5102⟩ := hs5084
       have := hd5100.len_le
       have := hd5102.len_le
       refine wl_n (o_store (vs := [vI (((gAct ((gAct c no (fVeto day)).1) no (fApprove ((gAct c no (fVeto day)).1) guardian)).1).epoch), vI (((gAct ((gAct c no (fVeto day)).1) no (fApprove ((gAct c no (fVeto day)).1) guardian)).1).threshold), vI (((gAct ((gAct c no (fVeto day)).1) no (fApprove ((gAct c no (fVeto day)).1) guardian)).1).wait), d5099, d5101]) (.agg #[vI (((gAct ((gAct c no (fVeto day)).1) no (fApprove ((gAct c no (fVeto day)).1) guardian)).1).epoch), vI (((gAct ((gAct c no (fVeto day)).1) no (fApprove ((gAct c no (fVeto day)).1) guardian)).1).threshold), vI (((gAct ((gAct c no (fVeto day)).1) no (fApprove ((gAct c no (fVeto day)).1) guardian)).1).wait), d5099, d5101]) rfl rfl rfl s_25 (fun u hu => by simp only [List.mem_cons, List.not_mem_nil, or_false] at hu; rcases hu with rfl | rfl | rfl | rfl | rfl <;> first | rfl | exact hd5100.oneCell | exact hd5102.oneCell) (by repeat (first | assumption | constructor)) bx5090 (of_decide_eq_true rfl) s5087 fun w5094 s5095 m5096 k5097 bx5098 => (?_))
       have hp4984 := hp4984.mv m5096
       have hd5041 := hd5041.mv m5096
       have hd5043 := hd5043.mv m5096
       have hd5068 := hd5068.mv m5096
       have hd5070 := hd5070.mv m5096
       have bx5039 := bx5039.keep k5097 (nin1 ne5092)
       have bx5066 := bx5066.keep k5097 (nin1 ne5093)
       refine wl_s (o_assign (vI ((gAct ((gAct c no (fVeto day)).1) no (fApprove ((gAct c no (fVeto day)).1) guardian)).2)) rfl (wl_nil (thenQ_n (?_))))
       refine cw_seq (?_)
       refine cw_region (by kernel_rfl) (wl_s (o_loadBxA (vs := [vI (((gAct c no (fVeto day)).1).epoch), vI (((gAct c no (fVeto day)).1).threshold), vI (((gAct c no (fVeto day)).1).wait), d5067, d5069]) Try.underlying25 rfl s_25 rfl bx5066 rfl (wl_s (o_move (vI no) rfl (wl_s (o_move (vI later) rfl (wl_s (o_callK (vs := [Value.agg #[vI (((gAct c no (fVeto day)).1).epoch), vI (((gAct c no (fVeto day)).1).threshold), vI (((gAct c no (fVeto day)).1).wait), d5067, d5069], vI no, vI later]) enter_22 (c_finish (O := (b5085 :: (b5054 :: (b5028 :: []))) ++ O) [vI (((gAct c no (fVeto day)).1).epoch), vI (((gAct c no (fVeto day)).1).threshold), vI (((gAct c no (fVeto day)).1).wait), d5067, d5069] ((gAct c no (fVeto day)).1) no later w5094 ⟨_, _, rfl, hd5068, hd5070⟩ s5095.lt) rfl s5095 fun v5103 w5104 s5105 m5106 k5107 r5108 => (?_)))))))))
       obtain ⟨cs5109, rfl, hs5110⟩ := r5108
       have hp4984 := hp4984.mv m5106
       have hd5041 := hd5041.mv m5106
       have hd5043 := hd5043.mv m5106
       have hd5068 := hd5068.mv m5106
       have hd5070 := hd5070.mv m5106
       have bx5039 := bx5039.keep k5107 (by simp)
       have bx5066 := bx5066.keep k5107 (by simp)
       have bx5098 := bx5098.keep k5107 (by simp)
       refine wl_s (o_move (Value.tuple #[Value.agg cs5109.toArray, vI ((gAct ((gAct c no (fVeto day)).1) no (fFinish ((gAct c no (fVeto day)).1) later)).2)]) rfl (wl_s (o_extract (Value.agg cs5109.toArray) rfl rfl (wl_s (o_extract (vI ((gAct ((gAct c no (fVeto day)).1) no (fFinish ((gAct c no (fVeto day)).1) later)).2)) rfl rfl (wl_s (o_alloc [vI (0 : Int), vI (0 : Int), vI (0 : Int), Value.slice none 0 0, Value.slice none 0 0] z_25 rfl s5105 fun b5111 w5112 e5117 s5113 m5114 k5115 bx5116 => (?_))))))))
       have ne5118 : b5028 ≠ b5111 := by have := bx5039.lt; omega
       have ne5119 : b5054 ≠ b5111 := by have := bx5066.lt; omega
       have ne5120 : b5085 ≠ b5111 := by have := bx5098.lt; omega
       clear e5117
       have hp4984 := hp4984.mv m5114
       have hd5041 := hd5041.mv m5114
       have hd5043 := hd5043.mv m5114
       have hd5068 := hd5068.mv m5114
       have hd5070 := hd5070.mv m5114
       have hs5110 : Enc.circle.rd w5112 ((b5111 :: (b5085 :: (b5054 :: (b5028 :: [])))) ++ O) cs5109 ((gAct ((gAct c no (fVeto day)).1) no (fFinish ((gAct c no (fVeto day)).1) later)).1) := Enc.mv Enc.circle (x := (gAct ((gAct c no (fVeto day)).1) no (fFinish ((gAct c no (fVeto day)).1) later)).1) hs5110 m5114
       have bx5039 := bx5039.keep k5115 (by simp)
       have bx5066 := bx5066.keep k5115 (by simp)
       have bx5098 := bx5098.keep k5115 (by simp)
       obtain ⟨d5126, d5128, rfl, hd5127, hd5129⟩ := hs5110
       have := hd5127.len_le
       have := hd5129.len_le
       refine wl_n (o_store (vs := [vI (((gAct ((gAct c no (fVeto day)).1) no (fFinish ((gAct c no (fVeto day)).1) later)).1).epoch), vI (((gAct ((gAct c no (fVeto day)).1) no (fFinish ((gAct c no (fVeto day)).1) later)).1).threshold), vI (((gAct ((gAct c no (fVeto day)).1) no (fFinish ((gAct c no (fVeto day)).1) later)).1).wait), d5126, d5128]) (.agg #[vI (((gAct ((gAct c no (fVeto day)).1) no (fFinish ((gAct c no (fVeto day)).1) later)).1).epoch), vI (((gAct ((gAct c no (fVeto day)).1) no (fFinish ((gAct c no (fVeto day)).1) later)).1).threshold), vI (((gAct ((gAct c no (fVeto day)).1) no (fFinish ((gAct c no (fVeto day)).1) later)).1).wait), d5126, d5128]) rfl rfl rfl s_25 (fun u hu => by simp only [List.mem_cons, List.not_mem_nil, or_false] at hu; rcases hu with rfl | rfl | rfl | rfl | rfl <;> first | rfl | exact hd5127.oneCell | exact hd5129.oneCell) (by repeat (first | assumption | constructor)) bx5116 (of_decide_eq_true rfl) s5113 fun w5121 s5122 m5123 k5124 bx5125 => (?_))
       have hp4984 := hp4984.mv m5123
       have hd5041 := hd5041.mv m5123
       have hd5043 := hd5043.mv m5123
       have hd5068 := hd5068.mv m5123
       have hd5070 := hd5070.mv m5123
       have bx5039 := bx5039.keep k5124 (nin1 ne5118)
       have bx5066 := bx5066.keep k5124 (nin1 ne5119)
       have bx5098 := bx5098.keep k5124 (nin1 ne5120)
       refine wl_s (o_assign (vI ((gAct ((gAct c no (fVeto day)).1) no (fFinish ((gAct c no (fVeto day)).1) later)).2)) rfl (wl_nil (thenQ_n (?_))))
       refine cw_seq (?_)
       refine cw_region (by kernel_rfl) (wl_s (o_loadBxA (vs := [vI (((gAct c no (fVeto day)).1).epoch), vI (((gAct c no (fVeto day)).1).threshold), vI (((gAct c no (fVeto day)).1).wait), d5067, d5069]) Try.underlying25 rfl s_25 rfl bx5066 rfl (wl_s (o_move (vI no) rfl (wl_s (o_move (vI day) rfl (wl_s (o_callK (vs := [Value.agg #[vI (((gAct c no (fVeto day)).1).epoch), vI (((gAct c no (fVeto day)).1).threshold), vI (((gAct c no (fVeto day)).1).wait), d5067, d5069], vI no, vI day]) enter_20 (c_veto (O := (b5111 :: (b5085 :: (b5054 :: (b5028 :: [])))) ++ O) [vI (((gAct c no (fVeto day)).1).epoch), vI (((gAct c no (fVeto day)).1).threshold), vI (((gAct c no (fVeto day)).1).wait), d5067, d5069] ((gAct c no (fVeto day)).1) no day w5121 ⟨_, _, rfl, hd5068, hd5070⟩ s5122.lt) rfl s5122 fun v5130 w5131 s5132 m5133 k5134 r5135 => (?_)))))))))
       obtain ⟨cs5136, rfl, hs5137⟩ := r5135
       have hp4984 := hp4984.mv m5133
       have hd5041 := hd5041.mv m5133
       have hd5043 := hd5043.mv m5133
       have hd5068 := hd5068.mv m5133
       have hd5070 := hd5070.mv m5133
       have bx5039 := bx5039.keep k5134 (by simp)
       have bx5066 := bx5066.keep k5134 (by simp)
       have bx5098 := bx5098.keep k5134 (by simp)
       have bx5125 := bx5125.keep k5134 (by simp)
       refine wl_s (o_move (Value.tuple #[Value.agg cs5136.toArray, vI ((gAct ((gAct c no (fVeto day)).1) no (fVeto day)).2)]) rfl (wl_s (o_extract (Value.agg cs5136.toArray) rfl rfl (wl_s (o_extract (vI ((gAct ((gAct c no (fVeto day)).1) no (fVeto day)).2)) rfl rfl (wl_s (o_alloc [vI (0 : Int), vI (0 : Int), vI (0 : Int), Value.slice none 0 0, Value.slice none 0 0] z_25 rfl s5132 fun b5138 w5139 e5144 s5140 m5141 k5142 bx5143 => (?_))))))))
       have ne5145 : b5028 ≠ b5138 := by have := bx5039.lt; omega
       have ne5146 : b5054 ≠ b5138 := by have := bx5066.lt; omega
       have ne5147 : b5085 ≠ b5138 := by have := bx5098.lt; omega
       have ne5148 : b5111 ≠ b5138 := by have := bx5125.lt; omega
       clear e5144
       have hp4984 := hp4984.mv m5141
       have hd5041 := hd5041.mv m5141
       have hd5043 := hd5043.mv m5141
       have hd5068 := hd5068.mv m5141
       have hd5070 := hd5070.mv m5141
       have hs5137 : Enc.circle.rd w5139 ((b5138 :: (b5111 :: (b5085 :: (b5054 :: (b5028 :: []))))) ++ O) cs5136 ((gAct ((gAct c no (fVeto day)).1) no (fVeto day)).1) := Enc.mv Enc.circle (x := (gAct ((gAct c no (fVeto day)).1) no (fVeto day)).1) hs5137 m5141
       have bx5039 := bx5039.keep k5142 (by simp)
       have bx5066 := bx5066.keep k5142 (by simp)
       have bx5098 := bx5098.keep k5142 (by simp)
       have bx5125 := bx5125.keep k5142 (by simp)
       obtain ⟨d5154, d5156, rfl, hd5155, hd5157⟩ := hs5137
       have := hd5155.len_le
       have := hd5157.len_le
       refine wl_n (o_store (vs := [vI (((gAct ((gAct c no (fVeto day)).1) no (fVeto day)).1).epoch), vI (((gAct ((gAct c no (fVeto day)).1) no (fVeto day)).1).threshold), vI (((gAct ((gAct c no (fVeto day)).1) no (fVeto day)).1).wait), d5154, d5156]) (.agg #[vI (((gAct ((gAct c no (fVeto day)).1) no (fVeto day)).1).epoch), vI (((gAct ((gAct c no (fVeto day)).1) no (fVeto day)).1).threshold), vI (((gAct ((gAct c no (fVeto day)).1) no (fVeto day)).1).wait), d5154, d5156]) rfl rfl rfl s_25 (fun u hu => by simp only [List.mem_cons, List.not_mem_nil, or_false] at hu; rcases hu with rfl | rfl | rfl | rfl | rfl <;> first | rfl | exact hd5155.oneCell | exact hd5157.oneCell) (by repeat (first | assumption | constructor)) bx5143 (of_decide_eq_true rfl) s5140 fun w5149 s5150 m5151 k5152 bx5153 => (?_))
       have hp4984 := hp4984.mv m5151
       have hd5041 := hd5041.mv m5151
       have hd5043 := hd5043.mv m5151
       have hd5068 := hd5068.mv m5151
       have hd5070 := hd5070.mv m5151
       have hd5155 := hd5155.mv m5151
       have hd5157 := hd5157.mv m5151
       have bx5039 := bx5039.keep k5152 (nin1 ne5145)
       have bx5066 := bx5066.keep k5152 (nin1 ne5146)
       have bx5098 := bx5098.keep k5152 (nin1 ne5147)
       have bx5125 := bx5125.keep k5152 (nin1 ne5148)
       refine wl_s (o_assign (vI ((gAct ((gAct c no (fVeto day)).1) no (fVeto day)).2)) rfl (wl_nil (thenQ_n (?_))))
       refine cw_seq (?_)
       refine cw_seq (?_)
       refine cw_region (by kernel_rfl) (wl_s (o_move (vI ((gAct ((gAct c no (fVeto day)).1) no (fApprove ((gAct c no (fVeto day)).1) guardian)).2)) rfl (wl_s (o_neq .i64 ((gAct ((gAct c no (fVeto day)).1) no (fApprove ((gAct c no (fVeto day)).1) guardian)).2) (452 : Int) rfl rfl (wl_s (o_move (Value.bool (((gAct ((gAct c no (fVeto day)).1) no (fApprove ((gAct c no (fVeto day)).1) guardian)).2) != (452 : Int))) rfl (?_)))))))
       have hb5158 : (((gAct ((gAct c no (fVeto day)).1) no (fApprove ((gAct c no (fVeto day)).1) guardian)).2) != (452 : Int)) = false := (by rw [vet_app hv hn1 hn2]; rfl)
       rw [hb5158]
       refine wl_t rfl (o_move (vI ((gAct ((gAct c no (fVeto day)).1) no (fFinish ((gAct c no (fVeto day)).1) later)).2)) rfl (wl_t rfl (o_neq .i64 ((gAct ((gAct c no (fVeto day)).1) no (fFinish ((gAct c no (fVeto day)).1) later)).2) (452 : Int) rfl rfl (wl_s (o_pickF (Value.bool (((gAct ((gAct c no (fVeto day)).1) no (fFinish ((gAct c no (fVeto day)).1) later)).2) != (452 : Int))) rfl rfl (wl_s (o_move (Value.bool (((gAct ((gAct c no (fVeto day)).1) no (fFinish ((gAct c no (fVeto day)).1) later)).2) != (452 : Int))) rfl (?_))))))))
       have hb5159 : (((gAct ((gAct c no (fVeto day)).1) no (fFinish ((gAct c no (fVeto day)).1) later)).2) != (452 : Int)) = false := (by rw [vet_fin hv hn1 hn2]; rfl)
       rw [hb5159]
       refine wl_t rfl (o_move (vI ((gAct ((gAct c no (fVeto day)).1) no (fVeto day)).2)) rfl (wl_t rfl (o_neq .i64 ((gAct ((gAct c no (fVeto day)).1) no (fVeto day)).2) (0 : Int) rfl rfl (wl_s (o_pickF (Value.bool (((gAct ((gAct c no (fVeto day)).1) no (fVeto day)).2) != (0 : Int))) rfl rfl (wl_s (o_move (Value.bool (((gAct ((gAct c no (fVeto day)).1) no (fVeto day)).2) != (0 : Int))) rfl (?_))))))))
       have hb5160 : (((gAct ((gAct c no (fVeto day)).1) no (fVeto day)).2) != (0 : Int)) = false := (by rw [vet_again hv hn1 hn2]; rfl)
       rw [hb5160]
       refine wl_t rfl (o_loadBxA (vs := [vI (((gAct ((gAct c no (fVeto day)).1) no (fVeto day)).1).epoch), vI (((gAct ((gAct c no (fVeto day)).1) no (fVeto day)).1).threshold), vI (((gAct ((gAct c no (fVeto day)).1) no (fVeto day)).1).wait), d5154, d5156]) Try.underlying25 rfl s_25 rfl bx5153 rfl (wl_t rfl (o_loadBxA (vs := [vI (((gAct c no (fVeto day)).1).epoch), vI (((gAct c no (fVeto day)).1).threshold), vI (((gAct c no (fVeto day)).1).wait), d5067, d5069]) Try.underlying25 rfl s_25 rfl bx5066 rfl (wl_t rfl (o_callK (vs := [Value.agg #[vI (((gAct ((gAct c no (fVeto day)).1) no (fVeto day)).1).epoch), vI (((gAct ((gAct c no (fVeto day)).1) no (fVeto day)).1).threshold), vI (((gAct ((gAct c no (fVeto day)).1) no (fVeto day)).1).wait), d5154, d5156], Value.agg #[vI (((gAct c no (fVeto day)).1).epoch), vI (((gAct c no (fVeto day)).1).threshold), vI (((gAct c no (fVeto day)).1).wait), d5067, d5069]]) enter_15 (c_sameC (O := (b5138 :: (b5111 :: (b5085 :: (b5054 :: (b5028 :: []))))) ++ O) [vI (((gAct ((gAct c no (fVeto day)).1) no (fVeto day)).1).epoch), vI (((gAct ((gAct c no (fVeto day)).1) no (fVeto day)).1).threshold), vI (((gAct ((gAct c no (fVeto day)).1) no (fVeto day)).1).wait), d5154, d5156] ((gAct ((gAct c no (fVeto day)).1) no (fVeto day)).1) [vI (((gAct c no (fVeto day)).1).epoch), vI (((gAct c no (fVeto day)).1).threshold), vI (((gAct c no (fVeto day)).1).wait), d5067, d5069] ((gAct c no (fVeto day)).1) w5149 ⟨_, _, rfl, hd5155, hd5157⟩ ⟨_, _, rfl, hd5068, hd5070⟩ s5150.lt) rfl s5150 fun v5161 w5162 s5163 m5164 k5165 r5166 => (?_))))))
       obtain rfl := r5166
       have hp4984 := hp4984.mv m5164
       have hd5041 := hd5041.mv m5164
       have hd5043 := hd5043.mv m5164
       have hd5068 := hd5068.mv m5164
       have hd5070 := hd5070.mv m5164
       have bx5039 := bx5039.keep k5165 (by simp)
       have bx5066 := bx5066.keep k5165 (by simp)
       have bx5098 := bx5098.keep k5165 (by simp)
       have bx5125 := bx5125.keep k5165 (by simp)
       have bx5153 := bx5153.keep k5165 (by simp)
       refine wl_t rfl (o_not (sameC ((gAct ((gAct c no (fVeto day)).1) no (fVeto day)).1) ((gAct c no (fVeto day)).1)) rfl (wl_s (o_pickF (Value.bool (!(sameC ((gAct ((gAct c no (fVeto day)).1) no (fVeto day)).1) ((gAct c no (fVeto day)).1)))) rfl rfl (wl_s (o_move (Value.bool (!(sameC ((gAct ((gAct c no (fVeto day)).1) no (fVeto day)).1) ((gAct c no (fVeto day)).1)))) rfl (?_))))))
       have hb5167 : (!(sameC ((gAct ((gAct c no (fVeto day)).1) no (fVeto day)).1) ((gAct c no (fVeto day)).1))) = false := (by rw [show (sameC ((gAct ((gAct c no (fVeto day)).1) no (fVeto day)).1) ((gAct c no (fVeto day)).1)) = true from ((sameC_iff _ _).2 (by rw [vet_again hv hn1 hn2]))]; rfl)
       rw [hb5167]
       refine wl_t rfl (o_fieldL 4 f_25_4 rfl (wl_t rfl (o_loadBx Try.underlying23 rfl (d5069) rfl bx5066 rfl (wl_t rfl (o_lenR Try.underlying23 rfl hd5070 (wl_t rfl (o_fieldR 4 f_25_4 (c.recs) rfl hp4984 (fun _ _ _ h => Enc_circle_f4 h) fun a5168 hp5169 => (wl_t rfl (o_loadL Try.underlying23 rfl rfl hp5169 fun v5170 hl5171 => (?_))))))))))
       have := hl5171.len_le
       refine wl_t rfl (o_lenR Try.underlying23 rfl hl5171 (wl_t rfl (o_neq .i64 ((((gAct c no (fVeto day)).1).recs).length : Int) (c.recs.length : Int) rfl rfl (wl_s (o_pickF (Value.bool (((((gAct c no (fVeto day)).1).recs).length : Int) != (c.recs.length : Int))) rfl rfl (wl_nil (thenQ_n (?_))))))))
       have hb5172 : (((((gAct c no (fVeto day)).1).recs).length : Int) != (c.recs.length : Int)) = false := (by rw [hvl]; simp)
       rw [hb5172]
       refine cw_cond false rfl rfl (fun h => by cases h) (fun _ => ?_)
       refine cw_skip (thenQ_n (?_))
       refine cw_seq (?_)
       refine cw_region (by kernel_rfl) (wl_s (o_litO (E := Enc.recovery) (xs := []) Try.underlying23 s_47 z_47 (by decide) [] [] [] rfl rfl rfl (Parts.nil _ _ _) (of_decide_eq_true rfl) s5163 fun v5177 b5179 w5173 e5180 hb5181 s5174 m5175 k5176 hl5178 => (?_)))
       have ne5182 : ∀ b, v5177.ownBlock = some b → b ≠ b5028 := fun b hb => by have := bx5039.lt; rw [hb5181] at hb; cases hb; omega
       have ne5183 : ∀ b, v5177.ownBlock = some b → b ≠ b5054 := fun b hb => by have := bx5066.lt; rw [hb5181] at hb; cases hb; omega
       have ne5184 : ∀ b, v5177.ownBlock = some b → b ≠ b5085 := fun b hb => by have := bx5098.lt; rw [hb5181] at hb; cases hb; omega
       have ne5185 : ∀ b, v5177.ownBlock = some b → b ≠ b5111 := fun b hb => by have := bx5125.lt; rw [hb5181] at hb; cases hb; omega
       have ne5186 : ∀ b, v5177.ownBlock = some b → b ≠ b5138 := fun b hb => by have := bx5153.lt; rw [hb5181] at hb; cases hb; omega
       have hB5187 : ∀ b, v5177.ownBlock = some b → b ∈ (b5179 :: (b5138 :: (b5111 :: (b5085 :: (b5054 :: (b5028 :: [])))))) := fun b hb => by rw [hb5181] at hb; cases hb; simp
       clear e5180 hb5181
       have hp4984 := hp4984.mv m5175
       have hd5041 := hd5041.mv m5175
       have hd5043 := hd5043.mv m5175
       have hd5068 := hd5068.mv m5175
       have hd5070 := hd5070.mv m5175
       have bx5039 := bx5039.keep k5176 (by simp)
       have bx5066 := bx5066.keep k5176 (by simp)
       have bx5098 := bx5098.keep k5176 (by simp)
       have bx5125 := bx5125.keep k5176 (by simp)
       have bx5153 := bx5153.keep k5176 (by simp)
       refine wl_s (o_fieldL 4 f_25_4 rfl (wl_s (o_loadBx Try.underlying23 rfl (d5069) rfl bx5066 rfl (wl_s (o_append (E := Enc.recovery) (l := []) (m := ((gAct c no (fVeto day)).1).recs) Try.underlying23 i_47 rfl (by decide) rfl rfl hl5178 hd5070 (fun _ hb => .inl hb) hB5187 (by simp only [List.length_append, List.length_cons, List.length_nil]; omega) (by simp only [List.length_append, List.length_cons, List.length_nil, maxLen]; omega) s5174 fun v5192 w5188 B5194 hB5195 at5196 sub5197 s5189 m5190 k5191 ho5193 => (?_))))))
       rw [List.nil_append] at ho5193
       have ne5198 : ∀ b, v5192.ownBlock = some b → b ≠ b5028 := fun b hb => by rcases at5196 with e1 | e1 <;> rw [e1] at hb <;> first | (simp [Value.ownBlock] at hb; done) | (cases hb; have := bx5039.lt; omega) | (exact ne5182 b hb)
       have ne5199 : ∀ b, v5192.ownBlock = some b → b ≠ b5054 := fun b hb => by rcases at5196 with e1 | e1 <;> rw [e1] at hb <;> first | (simp [Value.ownBlock] at hb; done) | (cases hb; have := bx5066.lt; omega) | (exact ne5183 b hb)
       have ne5200 : ∀ b, v5192.ownBlock = some b → b ≠ b5085 := fun b hb => by rcases at5196 with e1 | e1 <;> rw [e1] at hb <;> first | (simp [Value.ownBlock] at hb; done) | (cases hb; have := bx5098.lt; omega) | (exact ne5184 b hb)
       have ne5201 : ∀ b, v5192.ownBlock = some b → b ≠ b5111 := fun b hb => by rcases at5196 with e1 | e1 <;> rw [e1] at hb <;> first | (simp [Value.ownBlock] at hb; done) | (cases hb; have := bx5125.lt; omega) | (exact ne5185 b hb)
       have ne5202 : ∀ b, v5192.ownBlock = some b → b ≠ b5138 := fun b hb => by rcases at5196 with e1 | e1 <;> rw [e1] at hb <;> first | (simp [Value.ownBlock] at hb; done) | (cases hb; have := bx5153.lt; omega) | (exact ne5186 b hb)
       have hin_b5028 : b5028 ∈ B5194 := sub5197 b5028 (by repeat (first | assumption | constructor))
       have hin_b5054 : b5054 ∈ B5194 := sub5197 b5054 (by repeat (first | assumption | constructor))
       have hin_b5085 : b5085 ∈ B5194 := sub5197 b5085 (by repeat (first | assumption | constructor))
       have hin_b5111 : b5111 ∈ B5194 := sub5197 b5111 (by repeat (first | assumption | constructor))
       have hin_b5138 : b5138 ∈ B5194 := sub5197 b5138 (by repeat (first | assumption | constructor))
       have hp4984 := hp4984.mv m5190
       have hd5041 := hd5041.mv m5190
       have hd5043 := hd5043.mv m5190
       have hd5068 := hd5068.mv m5190
       have bx5039 := bx5039.keep k5191 (by simp only [Option.mem_toList]; first | (simp [Value.ownBlock]; done) | exact fun e => absurd rfl (ne5182 _ e))
       have bx5066 := bx5066.keep k5191 (by simp only [Option.mem_toList]; first | (simp [Value.ownBlock]; done) | exact fun e => absurd rfl (ne5183 _ e))
       refine wl_s (o_fieldL 4 f_25_4 rfl (wl_n (o_store1 (v5192) rfl rfl ho5193.oneCell s_23 (by repeat (first | assumption | constructor)) bx5066 (of_decide_eq_true rfl) s5189 fun w5203 s5204 m5205 k5206 bx5207 => (?_))))
       have hp4984 := hp4984.mv m5205
       have hd5041 := hd5041.mv m5205
       have hd5043 := hd5043.mv m5205
       have hd5068 := hd5068.mv m5205
       have ho5193 := ho5193.mv m5205 k5206 (fun b hb => nin1 (ne5199 b hb))
       have bx5039 := bx5039.keep k5206 (nin1 ne5061)
       refine wl_nil (thenQ_n (?_))
       refine cw_seq (?_)
       refine cw_region (by kernel_rfl) (wl_s (o_fieldL 4 f_25_4 rfl (wl_s (o_loadBx Try.underlying23 rfl (v5192) rfl bx5207 rfl (wl_s (o_move (vI no) rfl (wl_s (o_loadBxA (vs := [vI ((c.recs[no.toNat]!).no), vI ((c.recs[no.toNat]!).asked), vI ((c.recs[no.toNat]!).state), d5040, d5042]) Try.underlying47 rfl s_47 rfl bx5039 rfl (wl_s (o_indexO Try.underlying23 s_47 .i64 no no.toNat rfl rfl (by omega) ho5193 (by omega) fun b5208 hb5209 => (wl_n (o_storeOA (c.recs[no.toNat]!) (by decide) s_47 rfl rfl ho5193 hb5209 (hB5195 _ hb5209) (by omega) ⟨_, _, rfl, hd5041, hd5043⟩ s5204 fun w5210 s5211 m5212 k5213 bx5214 => (?_)))))))))))))
       have hp4984 := hp4984.mv m5212
       have hd5068 := hd5068.mv m5212
       have bx5207 := bx5207.keep k5213 (by simp only [List.mem_singleton]; exact fun e => absurd e.symm (ne5199 _ hb5209))
       refine wl_nil (thenQ_n (?_))
       refine cw_seq (?_)
       refine cw_region (by kernel_rfl) (wl_s (o_loadBxA (vs := [vI (((gAct c no (fVeto day)).1).epoch), vI (((gAct c no (fVeto day)).1).threshold), vI (((gAct c no (fVeto day)).1).wait), d5067, v5192]) Try.underlying25 rfl s_25 rfl bx5207 rfl (wl_s (o_loadS Try.underlying25 rfl s_25 rfl hp4984 fun cs5215 hs5216 => (?_)))))
       obtain ⟨B5217, s5218, m5219, hl5220, hk5221⟩ := bx5214.publish s5211
       have hin_b5028 : b5028 ∈ B5217 := hk5221 b5028 (by repeat (first | assumption | constructor)) (fun e => absurd rfl (ne5198 _ e))
       have hin_b5054 : b5054 ∈ B5217 := hk5221 b5054 (by repeat (first | assumption | constructor)) (fun e => absurd rfl (ne5199 _ e))
       have hin_b5085 : b5085 ∈ B5217 := hk5221 b5085 (by repeat (first | assumption | constructor)) (fun e => absurd rfl (ne5200 _ e))
       have hin_b5111 : b5111 ∈ B5217 := hk5221 b5111 (by repeat (first | assumption | constructor)) (fun e => absurd rfl (ne5201 _ e))
       have hin_b5138 : b5138 ∈ B5217 := hk5221 b5138 (by repeat (first | assumption | constructor)) (fun e => absurd rfl (ne5202 _ e))
       have lim5222 := hl5220.len_le
       have hd5068 := hd5068.mv m5219
       have hs5216 : Enc.circle.rd w5210 (B5217 ++ O) cs5215 (c) := Enc.mv Enc.circle (x := c) hs5216 m5219
       refine wl_s (o_callK (vs := [Value.agg #[vI (((gAct c no (fVeto day)).1).epoch), vI (((gAct c no (fVeto day)).1).threshold), vI (((gAct c no (fVeto day)).1).wait), d5067, v5192], Value.agg cs5215.toArray]) enter_15 (c_sameC (O := B5217 ++ O) [vI (((gAct c no (fVeto day)).1).epoch), vI (((gAct c no (fVeto day)).1).threshold), vI (((gAct c no (fVeto day)).1).wait), d5067, v5192] (⟨((gAct c no (fVeto day)).1).epoch, ((gAct c no (fVeto day)).1).threshold, ((gAct c no (fVeto day)).1).wait, ((gAct c no (fVeto day)).1).guardians, (((gAct c no (fVeto day)).1).recs).set no.toNat (c.recs[no.toNat]!)⟩ : Circle) cs5215 c w5210 ⟨_, _, rfl, hd5068, hl5220⟩ hs5216 s5218.lt) rfl s5218 fun v5223 w5224 s5225 m5226 k5227 r5228 => (?_))
       obtain rfl := r5228
       refine wl_s (o_assign (Value.bool (sameC (⟨((gAct c no (fVeto day)).1).epoch, ((gAct c no (fVeto day)).1).threshold, ((gAct c no (fVeto day)).1).wait, ((gAct c no (fVeto day)).1).guardians, (((gAct c no (fVeto day)).1).recs).set no.toNat (c.recs[no.toNat]!)⟩ : Circle) c)) rfl (wl_nil (thenQ_n (?_))))
       refine cw_ret (end_r rfl (res1 rfl rfl rfl) (?_))
       have e : true = (sameC (⟨((gAct c no (fVeto day)).1).epoch, ((gAct c no (fVeto day)).1).threshold, ((gAct c no (fVeto day)).1).wait, ((gAct c no (fVeto day)).1).guardians, (((gAct c no (fVeto day)).1).recs).set no.toNat (c.recs[no.toNat]!)⟩ : Circle) c) := by first | rfl | exact ((sameC_iff _ _).2 hv.back).symm | (rw [veto_err hok hn1 hn2 (by assumption)]; rfl)
       exact ⟨_, rfl, s5225.keep, by rw [e]; exact rfl⟩
     ·have hp5229 : (c.recs[no.toNat]!).state ≠ (1 : Int) := by first | simpa using hb5071 | (have e := hb5071; simp at e; omega)
      refine wl_t rfl (o_move (vI day) rfl (wl_t rfl (o_fieldL 1 f_47_1 rfl (wl_t rfl (o_loadBx Try.underlying3 rfl (vI ((c.recs[no.toNat]!).asked)) rfl bx5039 rfl (wl_t rfl (o_geq .i64 day ((c.recs[no.toNat]!).asked) rfl rfl (wl_s (o_pickT (Value.bool (decide ((c.recs[no.toNat]!).asked ≤ day))) rfl rfl (wl_s (o_move (Value.bool (decide ((c.recs[no.toNat]!).asked ≤ day))) rfl (?_))))))))))))
      cases hb5230 : (decide ((c.recs[no.toNat]!).asked ≤ day))
      ·have hp5231 : day < (c.recs[no.toNat]!).asked := by first | simpa using hb5230 | (have e := hb5230; simp at e; omega)
       refine wl_k rfl (wl_k rfl (wl_s (o_pickF (Value.bool false) rfl rfl (wl_s (o_neqB (((gAct c no (fVeto day)).2) == (0 : Int)) false Try.underlying4 rfl rfl (wl_nil (thenQ_n (?_))))))))
       have hb5232 : ((((gAct c no (fVeto day)).2) == (0 : Int)) != false) = false := (by first | (rw [veto_e1 hok hn1 hn2 (by assumption)]; rfl) | (rw [veto_e2 hok hn1 hn2 (by assumption)]; rfl))
       rw [hb5232]
       refine cw_cond false rfl rfl (fun h => by cases h) (fun _ => ?_)
       refine cw_skip (thenQ_n (?_))
       refine cw_seq (?_)
       refine cw_seq (?_)
       refine cw_region (by kernel_rfl) (wl_s (o_move (vI ((gAct c no (fVeto day)).2)) rfl (wl_s (o_neq .i64 ((gAct c no (fVeto day)).2) (0 : Int) rfl rfl (wl_nil (thenQ_n (?_)))))))
       refine cw_cond (((gAct c no (fVeto day)).2) != (0 : Int)) rfl rfl (fun hc5233 => ?_) (fun hc5233 => ?_)
       ·have hp5234 : (gAct c no (fVeto day)).2 ≠ (0 : Int) := by first | simpa using hc5233 | (have e := hc5233; simp at e; omega)
        refine cw_seq (?_)
        refine cw_region (by kernel_rfl) (wl_s (o_move (vI ((gAct c no (fVeto day)).2)) rfl (wl_s (o_eql .i64 ((gAct c no (fVeto day)).2) (1 : Int) rfl rfl (wl_s (o_assign (Value.bool (((gAct c no (fVeto day)).2) == (1 : Int))) rfl (wl_nil (thenQ_n (?_)))))))))
        refine cw_ret (thenQ_r (end_r rfl (res1 rfl rfl rfl) (?_)))
        have e : true = (((gAct c no (fVeto day)).2) == (1 : Int)) := by first | rfl | exact ((sameC_iff _ _).2 hv.back).symm | (rw [veto_err hok hn1 hn2 (by assumption)]; rfl)
        exact ⟨_, rfl, s5063.keep, by rw [e]; exact rfl⟩
       ·have hp5235 : (gAct c no (fVeto day)).2 = (0 : Int) := by first | simpa using hc5233 | (have e := hc5233; simp at e; omega)
        have hv := vetoed_of hok hn1 hn2 hp5235
        have hvl := hv.len
        refine cw_skip (thenQ_n (?_))
        refine cw_seq (?_)
        refine cw_region (by kernel_rfl) (wl_s (o_loadBxA (vs := [vI (((gAct c no (fVeto day)).1).epoch), vI (((gAct c no (fVeto day)).1).threshold), vI (((gAct c no (fVeto day)).1).wait), d5067, d5069]) Try.underlying25 rfl s_25 rfl bx5066 rfl (wl_s (o_move (vI no) rfl (wl_s (o_move (vI guardian) rfl (wl_s (o_callK (vs := [Value.agg #[vI (((gAct c no (fVeto day)).1).epoch), vI (((gAct c no (fVeto day)).1).threshold), vI (((gAct c no (fVeto day)).1).wait), d5067, d5069], vI no, vI guardian]) enter_18 (c_approve (O := (b5054 :: (b5028 :: [])) ++ O) [vI (((gAct c no (fVeto day)).1).epoch), vI (((gAct c no (fVeto day)).1).threshold), vI (((gAct c no (fVeto day)).1).wait), d5067, d5069] ((gAct c no (fVeto day)).1) no guardian w5062 ⟨_, _, rfl, hd5068, hd5070⟩ s5063.lt) rfl s5063 fun v5236 w5237 s5238 m5239 k5240 r5241 => (?_)))))))))
        obtain ⟨cs5242, rfl, hs5243⟩ := r5241
        have hp4984 := hp4984.mv m5239
        have hd5041 := hd5041.mv m5239
        have hd5043 := hd5043.mv m5239
        have hd5068 := hd5068.mv m5239
        have hd5070 := hd5070.mv m5239
        have bx5039 := bx5039.keep k5240 (by simp)
        have bx5066 := bx5066.keep k5240 (by simp)
        refine wl_s (o_move (Value.tuple #[Value.agg cs5242.toArray, vI ((gAct ((gAct c no (fVeto day)).1) no (fApprove ((gAct c no (fVeto day)).1) guardian)).2)]) rfl (wl_s (o_extract (Value.agg cs5242.toArray) rfl rfl (wl_s (o_extract (vI ((gAct ((gAct c no (fVeto day)).1) no (fApprove ((gAct c no (fVeto day)).1) guardian)).2)) rfl rfl (wl_s (o_alloc [vI (0 : Int), vI (0 : Int), vI (0 : Int), Value.slice none 0 0, Value.slice none 0 0] z_25 rfl s5238 fun b5244 w5245 e5250 s5246 m5247 k5248 bx5249 => (?_))))))))
        have ne5251 : b5028 ≠ b5244 := by have := bx5039.lt; omega
        have ne5252 : b5054 ≠ b5244 := by have := bx5066.lt; omega
        clear e5250
        have hp4984 := hp4984.mv m5247
        have hd5041 := hd5041.mv m5247
        have hd5043 := hd5043.mv m5247
        have hd5068 := hd5068.mv m5247
        have hd5070 := hd5070.mv m5247
        have hs5243 : Enc.circle.rd w5245 ((b5244 :: (b5054 :: (b5028 :: []))) ++ O) cs5242 ((gAct ((gAct c no (fVeto day)).1) no (fApprove ((gAct c no (fVeto day)).1) guardian)).1) := Enc.mv Enc.circle (x := (gAct ((gAct c no (fVeto day)).1) no (fApprove ((gAct c no (fVeto day)).1) guardian)).1) hs5243 m5247
        have bx5039 := bx5039.keep k5248 (by simp)
        have bx5066 := bx5066.keep k5248 (by simp)
        obtain ⟨d5258, d5260, rfl, hd5259, hd5261⟩ := hs5243
        have := hd5259.len_le
        have := hd5261.len_le
        refine wl_n (o_store (vs := [vI (((gAct ((gAct c no (fVeto day)).1) no (fApprove ((gAct c no (fVeto day)).1) guardian)).1).epoch), vI (((gAct ((gAct c no (fVeto day)).1) no (fApprove ((gAct c no (fVeto day)).1) guardian)).1).threshold), vI (((gAct ((gAct c no (fVeto day)).1) no (fApprove ((gAct c no (fVeto day)).1) guardian)).1).wait), d5258, d5260]) (.agg #[vI (((gAct ((gAct c no (fVeto day)).1) no (fApprove ((gAct c no (fVeto day)).1) guardian)).1).epoch), vI (((gAct ((gAct c no (fVeto day)).1) no (fApprove ((gAct c no (fVeto day)).1) guardian)).1).threshold), vI (((gAct ((gAct c no (fVeto day)).1) no (fApprove ((gAct c no (fVeto day)).1) guardian)).1).wait), d5258, d5260]) rfl rfl rfl s_25 (fun u hu => by simp only [List.mem_cons, List.not_mem_nil, or_false] at hu; rcases hu with rfl | rfl | rfl | rfl | rfl <;> first | rfl | exact hd5259.oneCell | exact hd5261.oneCell) (by repeat (first | assumption | constructor)) bx5249 (of_decide_eq_true rfl) s5246 fun w5253 s5254 m5255 k5256 bx5257 => (?_))
        have hp4984 := hp4984.mv m5255
        have hd5041 := hd5041.mv m5255
        have hd5043 := hd5043.mv m5255
        have hd5068 := hd5068.mv m5255
        have hd5070 := hd5070.mv m5255
        have bx5039 := bx5039.keep k5256 (nin1 ne5251)
        have bx5066 := bx5066.keep k5256 (nin1 ne5252)
        refine wl_s (o_assign (vI ((gAct ((gAct c no (fVeto day)).1) no (fApprove ((gAct c no (fVeto day)).1) guardian)).2)) rfl (wl_nil (thenQ_n (?_))))
        refine cw_seq (?_)
        refine cw_region (by kernel_rfl) (wl_s (o_loadBxA (vs := [vI (((gAct c no (fVeto day)).1).epoch), vI (((gAct c no (fVeto day)).1).threshold), vI (((gAct c no (fVeto day)).1).wait), d5067, d5069]) Try.underlying25 rfl s_25 rfl bx5066 rfl (wl_s (o_move (vI no) rfl (wl_s (o_move (vI later) rfl (wl_s (o_callK (vs := [Value.agg #[vI (((gAct c no (fVeto day)).1).epoch), vI (((gAct c no (fVeto day)).1).threshold), vI (((gAct c no (fVeto day)).1).wait), d5067, d5069], vI no, vI later]) enter_22 (c_finish (O := (b5244 :: (b5054 :: (b5028 :: []))) ++ O) [vI (((gAct c no (fVeto day)).1).epoch), vI (((gAct c no (fVeto day)).1).threshold), vI (((gAct c no (fVeto day)).1).wait), d5067, d5069] ((gAct c no (fVeto day)).1) no later w5253 ⟨_, _, rfl, hd5068, hd5070⟩ s5254.lt) rfl s5254 fun v5262 w5263 s5264 m5265 k5266 r5267 => (?_)))))))))
        obtain ⟨cs5268, rfl, hs5269⟩ := r5267
        have hp4984 := hp4984.mv m5265
        have hd5041 := hd5041.mv m5265
        have hd5043 := hd5043.mv m5265
        have hd5068 := hd5068.mv m5265
        have hd5070 := hd5070.mv m5265
        have bx5039 := bx5039.keep k5266 (by simp)
        have bx5066 := bx5066.keep k5266 (by simp)
        have bx5257 := bx5257.keep k5266 (by simp)
        refine wl_s (o_move (Value.tuple #[Value.agg cs5268.toArray, vI ((gAct ((gAct c no (fVeto day)).1) no (fFinish ((gAct c no (fVeto day)).1) later)).2)]) rfl (wl_s (o_extract (Value.agg cs5268.toArray) rfl rfl (wl_s (o_extract (vI ((gAct ((gAct c no (fVeto day)).1) no (fFinish ((gAct c no (fVeto day)).1) later)).2)) rfl rfl (wl_s (o_alloc [vI (0 : Int), vI (0 : Int), vI (0 : Int), Value.slice none 0 0, Value.slice none 0 0] z_25 rfl s5264 fun b5270 w5271 e5276 s5272 m5273 k5274 bx5275 => (?_))))))))
        have ne5277 : b5028 ≠ b5270 := by have := bx5039.lt; omega
        have ne5278 : b5054 ≠ b5270 := by have := bx5066.lt; omega
        have ne5279 : b5244 ≠ b5270 := by have := bx5257.lt; omega
        clear e5276
        have hp4984 := hp4984.mv m5273
        have hd5041 := hd5041.mv m5273
        have hd5043 := hd5043.mv m5273
        have hd5068 := hd5068.mv m5273
        have hd5070 := hd5070.mv m5273
        have hs5269 : Enc.circle.rd w5271 ((b5270 :: (b5244 :: (b5054 :: (b5028 :: [])))) ++ O) cs5268 ((gAct ((gAct c no (fVeto day)).1) no (fFinish ((gAct c no (fVeto day)).1) later)).1) := Enc.mv Enc.circle (x := (gAct ((gAct c no (fVeto day)).1) no (fFinish ((gAct c no (fVeto day)).1) later)).1) hs5269 m5273
        have bx5039 := bx5039.keep k5274 (by simp)
        have bx5066 := bx5066.keep k5274 (by simp)
        have bx5257 := bx5257.keep k5274 (by simp)
        obtain ⟨d5285, d5287, rfl, hd5286, hd5288⟩ := hs5269
        have := hd5286.len_le
        have := hd5288.len_le
        refine wl_n (o_store (vs := [vI (((gAct ((gAct c no (fVeto day)).1) no (fFinish ((gAct c no (fVeto day)).1) later)).1).epoch), vI (((gAct ((gAct c no (fVeto day)).1) no (fFinish ((gAct c no (fVeto day)).1) later)).1).threshold), vI (((gAct ((gAct c no (fVeto day)).1) no (fFinish ((gAct c no (fVeto day)).1) later)).1).wait), d5285, d5287]) (.agg #[vI (((gAct ((gAct c no (fVeto day)).1) no (fFinish ((gAct c no (fVeto day)).1) later)).1).epoch), vI (((gAct ((gAct c no (fVeto day)).1) no (fFinish ((gAct c no (fVeto day)).1) later)).1).threshold), vI (((gAct ((gAct c no (fVeto day)).1) no (fFinish ((gAct c no (fVeto day)).1) later)).1).wait), d5285, d5287]) rfl rfl rfl s_25 (fun u hu => by simp only [List.mem_cons, List.not_mem_nil, or_false] at hu; rcases hu with rfl | rfl | rfl | rfl | rfl <;> first | rfl | exact hd5286.oneCell | exact hd5288.oneCell) (by repeat (first | assumption | constructor)) bx5275 (of_decide_eq_true rfl) s5272 fun w5280 s5281 m5282 k5283 bx5284 => (?_))
        have hp4984 := hp4984.mv m5282
        have hd5041 := hd5041.mv m5282
        have hd5043 := hd5043.mv m5282
        have hd5068 := hd5068.mv m5282
        have hd5070 := hd5070.mv m5282
        have bx5039 := bx5039.keep k5283 (nin1 ne5277)
        have bx5066 := bx5066.keep k5283 (nin1 ne5278)
        have bx5257 := bx5257.keep k5283 (nin1 ne5279)
        refine wl_s (o_assign (vI ((gAct ((gAct c no (fVeto day)).1) no (fFinish ((gAct c no (fVeto day)).1) later)).2)) rfl (wl_nil (thenQ_n (?_))))
        refine cw_seq (?_)
        refine cw_region (by kernel_rfl) (wl_s (o_loadBxA (vs := [vI (((gAct c no (fVeto day)).1).epoch), vI (((gAct c no (fVeto day)).1).threshold), vI (((gAct c no (fVeto day)).1).wait), d5067, d5069]) Try.underlying25 rfl s_25 rfl bx5066 rfl (wl_s (o_move (vI no) rfl (wl_s (o_move (vI day) rfl (wl_s (o_callK (vs := [Value.agg #[vI (((gAct c no (fVeto day)).1).epoch), vI (((gAct c no (fVeto day)).1).threshold), vI (((gAct c no (fVeto day)).1).wait), d5067, d5069], vI no, vI day]) enter_20 (c_veto (O := (b5270 :: (b5244 :: (b5054 :: (b5028 :: [])))) ++ O) [vI (((gAct c no (fVeto day)).1).epoch), vI (((gAct c no (fVeto day)).1).threshold), vI (((gAct c no (fVeto day)).1).wait), d5067, d5069] ((gAct c no (fVeto day)).1) no day w5280 ⟨_, _, rfl, hd5068, hd5070⟩ s5281.lt) rfl s5281 fun v5289 w5290 s5291 m5292 k5293 r5294 => (?_)))))))))
        obtain ⟨cs5295, rfl, hs5296⟩ := r5294
        have hp4984 := hp4984.mv m5292
        have hd5041 := hd5041.mv m5292
        have hd5043 := hd5043.mv m5292
        have hd5068 := hd5068.mv m5292
        have hd5070 := hd5070.mv m5292
        have bx5039 := bx5039.keep k5293 (by simp)
        have bx5066 := bx5066.keep k5293 (by simp)
        have bx5257 := bx5257.keep k5293 (by simp)
        have bx5284 := bx5284.keep k5293 (by simp)
        refine wl_s (o_move (Value.tuple #[Value.agg cs5295.toArray, vI ((gAct ((gAct c no (fVeto day)).1) no (fVeto day)).2)]) rfl (wl_s (o_extract (Value.agg cs5295.toArray) rfl rfl (wl_s (o_extract (vI ((gAct ((gAct c no (fVeto day)).1) no (fVeto day)).2)) rfl rfl (wl_s (o_alloc [vI (0 : Int), vI (0 : Int), vI (0 : Int), Value.slice none 0 0, Value.slice none 0 0] z_25 rfl s5291 fun b5297 w5298 e5303 s5299 m5300 k5301 bx5302 => (?_))))))))
        have ne5304 : b5028 ≠ b5297 := by have := bx5039.lt; omega
        have ne5305 : b5054 ≠ b5297 := by have := bx5066.lt; omega
        have ne5306 : b5244 ≠ b5297 := by have := bx5257.lt; omega
        have ne5307 : b5270 ≠ b5297 := by have := bx5284.lt; omega
        clear e5303
        have hp4984 := hp4984.mv m5300
        have hd5041 := hd5041.mv m5300
        have hd5043 := hd5043.mv m5300
        have hd5068 := hd5068.mv m5300
        have hd5070 := hd5070.mv m5300
        have hs5296 : Enc.circle.rd w5298 ((b5297 :: (b5270 :: (b5244 :: (b5054 :: (b5028 :: []))))) ++ O) cs5295 ((gAct ((gAct c no (fVeto day)).1) no (fVeto day)).1) := Enc.mv Enc.circle (x := (gAct ((gAct c no (fVeto day)).1) no (fVeto day)).1) hs5296 m5300
        have bx5039 := bx5039.keep k5301 (by simp)
        have bx5066 := bx5066.keep k5301 (by simp)
        have bx5257 := bx5257.keep k5301 (by simp)
        have bx5284 := bx5284.keep k5301 (by simp)
        obtain ⟨d5313, d5315, rfl, hd5314, hd5316⟩ := hs5296
        have := hd5314.len_le
        have := hd5316.len_le
        refine wl_n (o_store (vs := [vI (((gAct ((gAct c no (fVeto day)).1) no (fVeto day)).1).epoch), vI (((gAct ((gAct c no (fVeto day)).1) no (fVeto day)).1).threshold), vI (((gAct ((gAct c no (fVeto day)).1) no (fVeto day)).1).wait), d5313, d5315]) (.agg #[vI (((gAct ((gAct c no (fVeto day)).1) no (fVeto day)).1).epoch), vI (((gAct ((gAct c no (fVeto day)).1) no (fVeto day)).1).threshold), vI (((gAct ((gAct c no (fVeto day)).1) no (fVeto day)).1).wait), d5313, d5315]) rfl rfl rfl s_25 (fun u hu => by simp only [List.mem_cons, List.not_mem_nil, or_false] at hu; rcases hu with rfl | rfl | rfl | rfl | rfl <;> first | rfl | exact hd5314.oneCell | exact hd5316.oneCell) (by repeat (first | assumption | constructor)) bx5302 (of_decide_eq_true rfl) s5299 fun w5308 s5309 m5310 k5311 bx5312 => (?_))
        have hp4984 := hp4984.mv m5310
        have hd5041 := hd5041.mv m5310
        have hd5043 := hd5043.mv m5310
        have hd5068 := hd5068.mv m5310
        have hd5070 := hd5070.mv m5310
        have hd5314 := hd5314.mv m5310
        have hd5316 := hd5316.mv m5310
        have bx5039 := bx5039.keep k5311 (nin1 ne5304)
        have bx5066 := bx5066.keep k5311 (nin1 ne5305)
        have bx5257 := bx5257.keep k5311 (nin1 ne5306)
        have bx5284 := bx5284.keep k5311 (nin1 ne5307)
        refine wl_s (o_assign (vI ((gAct ((gAct c no (fVeto day)).1) no (fVeto day)).2)) rfl (wl_nil (thenQ_n (?_))))
        refine cw_seq (?_)
        refine cw_seq (?_)
        refine cw_region (by kernel_rfl) (wl_s (o_move (vI ((gAct ((gAct c no (fVeto day)).1) no (fApprove ((gAct c no (fVeto day)).1) guardian)).2)) rfl (wl_s (o_neq .i64 ((gAct ((gAct c no (fVeto day)).1) no (fApprove ((gAct c no (fVeto day)).1) guardian)).2) (452 : Int) rfl rfl (wl_s (o_move (Value.bool (((gAct ((gAct c no (fVeto day)).1) no (fApprove ((gAct c no (fVeto day)).1) guardian)).2) != (452 : Int))) rfl (?_)))))))
        have hb5317 : (((gAct ((gAct c no (fVeto day)).1) no (fApprove ((gAct c no (fVeto day)).1) guardian)).2) != (452 : Int)) = false := (by rw [vet_app hv hn1 hn2]; rfl)
        rw [hb5317]
        refine wl_t rfl (o_move (vI ((gAct ((gAct c no (fVeto day)).1) no (fFinish ((gAct c no (fVeto day)).1) later)).2)) rfl (wl_t rfl (o_neq .i64 ((gAct ((gAct c no (fVeto day)).1) no (fFinish ((gAct c no (fVeto day)).1) later)).2) (452 : Int) rfl rfl (wl_s (o_pickF (Value.bool (((gAct ((gAct c no (fVeto day)).1) no (fFinish ((gAct c no (fVeto day)).1) later)).2) != (452 : Int))) rfl rfl (wl_s (o_move (Value.bool (((gAct ((gAct c no (fVeto day)).1) no (fFinish ((gAct c no (fVeto day)).1) later)).2) != (452 : Int))) rfl (?_))))))))
        have hb5318 : (((gAct ((gAct c no (fVeto day)).1) no (fFinish ((gAct c no (fVeto day)).1) later)).2) != (452 : Int)) = false := (by rw [vet_fin hv hn1 hn2]; rfl)
        rw [hb5318]
        refine wl_t rfl (o_move (vI ((gAct ((gAct c no (fVeto day)).1) no (fVeto day)).2)) rfl (wl_t rfl (o_neq .i64 ((gAct ((gAct c no (fVeto day)).1) no (fVeto day)).2) (0 : Int) rfl rfl (wl_s (o_pickF (Value.bool (((gAct ((gAct c no (fVeto day)).1) no (fVeto day)).2) != (0 : Int))) rfl rfl (wl_s (o_move (Value.bool (((gAct ((gAct c no (fVeto day)).1) no (fVeto day)).2) != (0 : Int))) rfl (?_))))))))
        have hb5319 : (((gAct ((gAct c no (fVeto day)).1) no (fVeto day)).2) != (0 : Int)) = false := (by rw [vet_again hv hn1 hn2]; rfl)
        rw [hb5319]
        refine wl_t rfl (o_loadBxA (vs := [vI (((gAct ((gAct c no (fVeto day)).1) no (fVeto day)).1).epoch), vI (((gAct ((gAct c no (fVeto day)).1) no (fVeto day)).1).threshold), vI (((gAct ((gAct c no (fVeto day)).1) no (fVeto day)).1).wait), d5313, d5315]) Try.underlying25 rfl s_25 rfl bx5312 rfl (wl_t rfl (o_loadBxA (vs := [vI (((gAct c no (fVeto day)).1).epoch), vI (((gAct c no (fVeto day)).1).threshold), vI (((gAct c no (fVeto day)).1).wait), d5067, d5069]) Try.underlying25 rfl s_25 rfl bx5066 rfl (wl_t rfl (o_callK (vs := [Value.agg #[vI (((gAct ((gAct c no (fVeto day)).1) no (fVeto day)).1).epoch), vI (((gAct ((gAct c no (fVeto day)).1) no (fVeto day)).1).threshold), vI (((gAct ((gAct c no (fVeto day)).1) no (fVeto day)).1).wait), d5313, d5315], Value.agg #[vI (((gAct c no (fVeto day)).1).epoch), vI (((gAct c no (fVeto day)).1).threshold), vI (((gAct c no (fVeto day)).1).wait), d5067, d5069]]) enter_15 (c_sameC (O := (b5297 :: (b5270 :: (b5244 :: (b5054 :: (b5028 :: []))))) ++ O) [vI (((gAct ((gAct c no (fVeto day)).1) no (fVeto day)).1).epoch), vI (((gAct ((gAct c no (fVeto day)).1) no (fVeto day)).1).threshold), vI (((gAct ((gAct c no (fVeto day)).1) no (fVeto day)).1).wait), d5313, d5315] ((gAct ((gAct c no (fVeto day)).1) no (fVeto day)).1) [vI (((gAct c no (fVeto day)).1).epoch), vI (((gAct c no (fVeto day)).1).threshold), vI (((gAct c no (fVeto day)).1).wait), d5067, d5069] ((gAct c no (fVeto day)).1) w5308 ⟨_, _, rfl, hd5314, hd5316⟩ ⟨_, _, rfl, hd5068, hd5070⟩ s5309.lt) rfl s5309 fun v5320 w5321 s5322 m5323 k5324 r5325 => (?_))))))
        obtain rfl := r5325
        have hp4984 := hp4984.mv m5323
        have hd5041 := hd5041.mv m5323
        have hd5043 := hd5043.mv m5323
        have hd5068 := hd5068.mv m5323
        have hd5070 := hd5070.mv m5323
        have bx5039 := bx5039.keep k5324 (by simp)
        have bx5066 := bx5066.keep k5324 (by simp)
        have bx5257 := bx5257.keep k5324 (by simp)
        have bx5284 := bx5284.keep k5324 (by simp)
        have bx5312 := bx5312.keep k5324 (by simp)
        refine wl_t rfl (o_not (sameC ((gAct ((gAct c no (fVeto day)).1) no (fVeto day)).1) ((gAct c no (fVeto day)).1)) rfl (wl_s (o_pickF (Value.bool (!(sameC ((gAct ((gAct c no (fVeto day)).1) no (fVeto day)).1) ((gAct c no (fVeto day)).1)))) rfl rfl (wl_s (o_move (Value.bool (!(sameC ((gAct ((gAct c no (fVeto day)).1) no (fVeto day)).1) ((gAct c no (fVeto day)).1)))) rfl (?_))))))
        have hb5326 : (!(sameC ((gAct ((gAct c no (fVeto day)).1) no (fVeto day)).1) ((gAct c no (fVeto day)).1))) = false := (by rw [show (sameC ((gAct ((gAct c no (fVeto day)).1) no (fVeto day)).1) ((gAct c no (fVeto day)).1)) = true from ((sameC_iff _ _).2 (by rw [vet_again hv hn1 hn2]))]; rfl)
        rw [hb5326]
        refine wl_t rfl (o_fieldL 4 f_25_4 rfl (wl_t rfl (o_loadBx Try.underlying23 rfl (d5069) rfl bx5066 rfl (wl_t rfl (o_lenR Try.underlying23 rfl hd5070 (wl_t rfl (o_fieldR 4 f_25_4 (c.recs) rfl hp4984 (fun _ _ _ h => Enc_circle_f4 h) fun a5327 hp5328 => (wl_t rfl (o_loadL Try.underlying23 rfl rfl hp5328 fun v5329 hl5330 => (?_))))))))))
        have := hl5330.len_le
        refine wl_t rfl (o_lenR Try.underlying23 rfl hl5330 (wl_t rfl (o_neq .i64 ((((gAct c no (fVeto day)).1).recs).length : Int) (c.recs.length : Int) rfl rfl (wl_s (o_pickF (Value.bool (((((gAct c no (fVeto day)).1).recs).length : Int) != (c.recs.length : Int))) rfl rfl (wl_nil (thenQ_n (?_))))))))
        have hb5331 : (((((gAct c no (fVeto day)).1).recs).length : Int) != (c.recs.length : Int)) = false := (by rw [hvl]; simp)
        rw [hb5331]
        refine cw_cond false rfl rfl (fun h => by cases h) (fun _ => ?_)
        refine cw_skip (thenQ_n (?_))
        refine cw_seq (?_)
        refine cw_region (by kernel_rfl) (wl_s (o_litO (E := Enc.recovery) (xs := []) Try.underlying23 s_47 z_47 (by decide) [] [] [] rfl rfl rfl (Parts.nil _ _ _) (of_decide_eq_true rfl) s5322 fun v5336 b5338 w5332 e5339 hb5340 s5333 m5334 k5335 hl5337 => (?_)))
        have ne5341 : ∀ b, v5336.ownBlock = some b → b ≠ b5028 := fun b hb => by have := bx5039.lt; rw [hb5340] at hb; cases hb; omega
        have ne5342 : ∀ b, v5336.ownBlock = some b → b ≠ b5054 := fun b hb => by have := bx5066.lt; rw [hb5340] at hb; cases hb; omega
        have ne5343 : ∀ b, v5336.ownBlock = some b → b ≠ b5244 := fun b hb => by have := bx5257.lt; rw [hb5340] at hb; cases hb; omega
        have ne5344 : ∀ b, v5336.ownBlock = some b → b ≠ b5270 := fun b hb => by have := bx5284.lt; rw [hb5340] at hb; cases hb; omega
        have ne5345 : ∀ b, v5336.ownBlock = some b → b ≠ b5297 := fun b hb => by have := bx5312.lt; rw [hb5340] at hb; cases hb; omega
        have hB5346 : ∀ b, v5336.ownBlock = some b → b ∈ (b5338 :: (b5297 :: (b5270 :: (b5244 :: (b5054 :: (b5028 :: [])))))) := fun b hb => by rw [hb5340] at hb; cases hb; simp
        clear e5339 hb5340
        have hp4984 := hp4984.mv m5334
        have hd5041 := hd5041.mv m5334
        have hd5043 := hd5043.mv m5334
        have hd5068 := hd5068.mv m5334
        have hd5070 := hd5070.mv m5334
        have bx5039 := bx5039.keep k5335 (by simp)
        have bx5066 := bx5066.keep k5335 (by simp)
        have bx5257 := bx5257.keep k5335 (by simp)
        have bx5284 := bx5284.keep k5335 (by simp)
        have bx5312 := bx5312.keep k5335 (by simp)
        refine wl_s (o_fieldL 4 f_25_4 rfl (wl_s (o_loadBx Try.underlying23 rfl (d5069) rfl bx5066 rfl (wl_s (o_append (E := Enc.recovery) (l := []) (m := ((gAct c no (fVeto day)).1).recs) Try.underlying23 i_47 rfl (by decide) rfl rfl hl5337 hd5070 (fun _ hb => .inl hb) hB5346 (by simp only [List.length_append, List.length_cons, List.length_nil]; omega) (by simp only [List.length_append, List.length_cons, List.length_nil, maxLen]; omega) s5333 fun v5351 w5347 B5353 hB5354 at5355 sub5356 s5348 m5349 k5350 ho5352 => (?_))))))
        rw [List.nil_append] at ho5352
        have ne5357 : ∀ b, v5351.ownBlock = some b → b ≠ b5028 := fun b hb => by rcases at5355 with e1 | e1 <;> rw [e1] at hb <;> first | (simp [Value.ownBlock] at hb; done) | (cases hb; have := bx5039.lt; omega) | (exact ne5341 b hb)
        have ne5358 : ∀ b, v5351.ownBlock = some b → b ≠ b5054 := fun b hb => by rcases at5355 with e1 | e1 <;> rw [e1] at hb <;> first | (simp [Value.ownBlock] at hb; done) | (cases hb; have := bx5066.lt; omega) | (exact ne5342 b hb)
        have ne5359 : ∀ b, v5351.ownBlock = some b → b ≠ b5244 := fun b hb => by rcases at5355 with e1 | e1 <;> rw [e1] at hb <;> first | (simp [Value.ownBlock] at hb; done) | (cases hb; have := bx5257.lt; omega) | (exact ne5343 b hb)
        have ne5360 : ∀ b, v5351.ownBlock = some b → b ≠ b5270 := fun b hb => by rcases at5355 with e1 | e1 <;> rw [e1] at hb <;> first | (simp [Value.ownBlock] at hb; done) | (cases hb; have := bx5284.lt; omega) | (exact ne5344 b hb)
        have ne5361 : ∀ b, v5351.ownBlock = some b → b ≠ b5297 := fun b hb => by rcases at5355 with e1 | e1 <;> rw [e1] at hb <;> first | (simp [Value.ownBlock] at hb; done) | (cases hb; have := bx5312.lt; omega) | (exact ne5345 b hb)
        have hin_b5028 : b5028 ∈ B5353 := sub5356 b5028 (by repeat (first | assumption | constructor))
        have hin_b5054 : b5054 ∈ B5353 := sub5356 b5054 (by repeat (first | assumption | constructor))
        have hin_b5244 : b5244 ∈ B5353 := sub5356 b5244 (by repeat (first | assumption | constructor))
        have hin_b5270 : b5270 ∈ B5353 := sub5356 b5270 (by repeat (first | assumption | constructor))
        have hin_b5297 : b5297 ∈ B5353 := sub5356 b5297 (by repeat (first | assumption | constructor))
        have hp4984 := hp4984.mv m5349
        have hd5041 := hd5041.mv m5349
        have hd5043 := hd5043.mv m5349
        have hd5068 := hd5068.mv m5349
        have bx5039 := bx5039.keep k5350 (by simp only [Option.mem_toList]; first | (simp [Value.ownBlock]; done) | exact fun e => absurd rfl (ne5341 _ e))
        have bx5066 := bx5066.keep k5350 (by simp only [Option.mem_toList]; first | (simp [Value.ownBlock]; done) | exact fun e => absurd rfl (ne5342 _ e))
        refine wl_s (o_fieldL 4 f_25_4 rfl (wl_n (o_store1 (v5351) rfl rfl ho5352.oneCell s_23 (by repeat (first | assumption | constructor)) bx5066 (of_decide_eq_true rfl) s5348 fun w5362 s5363 m5364 k5365 bx5366 => (?_))))
        have hp4984 := hp4984.mv m5364
        have hd5041 := hd5041.mv m5364
        have hd5043 := hd5043.mv m5364
        have hd5068 := hd5068.mv m5364
        have ho5352 := ho5352.mv m5364 k5365 (fun b hb => nin1 (ne5358 b hb))
        have bx5039 := bx5039.keep k5365 (nin1 ne5061)
        refine wl_nil (thenQ_n (?_))
        refine cw_seq (?_)
        refine cw_region (by kernel_rfl) (wl_s (o_fieldL 4 f_25_4 rfl (wl_s (o_loadBx Try.underlying23 rfl (v5351) rfl bx5366 rfl (wl_s (o_move (vI no) rfl (wl_s (o_loadBxA (vs := [vI ((c.recs[no.toNat]!).no), vI ((c.recs[no.toNat]!).asked), vI ((c.recs[no.toNat]!).state), d5040, d5042]) Try.underlying47 rfl s_47 rfl bx5039 rfl (wl_s (o_indexO Try.underlying23 s_47 .i64 no no.toNat rfl rfl (by omega) ho5352 (by omega) fun b5367 hb5368 => (wl_n (o_storeOA (c.recs[no.toNat]!) (by decide) s_47 rfl rfl ho5352 hb5368 (hB5354 _ hb5368) (by omega) ⟨_, _, rfl, hd5041, hd5043⟩ s5363 fun w5369 s5370 m5371 k5372 bx5373 => (?_)))))))))))))
        have hp4984 := hp4984.mv m5371
        have hd5068 := hd5068.mv m5371
        have bx5366 := bx5366.keep k5372 (by simp only [List.mem_singleton]; exact fun e => absurd e.symm (ne5358 _ hb5368))
        refine wl_nil (thenQ_n (?_))
        refine cw_seq (?_)
        refine cw_region (by kernel_rfl) (wl_s (o_loadBxA (vs := [vI (((gAct c no (fVeto day)).1).epoch), vI (((gAct c no (fVeto day)).1).threshold), vI (((gAct c no (fVeto day)).1).wait), d5067, v5351]) Try.underlying25 rfl s_25 rfl bx5366 rfl (wl_s (o_loadS Try.underlying25 rfl s_25 rfl hp4984 fun cs5374 hs5375 => (?_)))))
        obtain ⟨B5376, s5377, m5378, hl5379, hk5380⟩ := bx5373.publish s5370
        have hin_b5028 : b5028 ∈ B5376 := hk5380 b5028 (by repeat (first | assumption | constructor)) (fun e => absurd rfl (ne5357 _ e))
        have hin_b5054 : b5054 ∈ B5376 := hk5380 b5054 (by repeat (first | assumption | constructor)) (fun e => absurd rfl (ne5358 _ e))
        have hin_b5244 : b5244 ∈ B5376 := hk5380 b5244 (by repeat (first | assumption | constructor)) (fun e => absurd rfl (ne5359 _ e))
        have hin_b5270 : b5270 ∈ B5376 := hk5380 b5270 (by repeat (first | assumption | constructor)) (fun e => absurd rfl (ne5360 _ e))
        have hin_b5297 : b5297 ∈ B5376 := hk5380 b5297 (by repeat (first | assumption | constructor)) (fun e => absurd rfl (ne5361 _ e))
        have lim5381 := hl5379.len_le
        have hd5068 := hd5068.mv m5378
        have hs5375 : Enc.circle.rd w5369 (B5376 ++ O) cs5374 (c) := Enc.mv Enc.circle (x := c) hs5375 m5378
        refine wl_s (o_callK (vs := [Value.agg #[vI (((gAct c no (fVeto day)).1).epoch), vI (((gAct c no (fVeto day)).1).threshold), vI (((gAct c no (fVeto day)).1).wait), d5067, v5351], Value.agg cs5374.toArray]) enter_15 (c_sameC (O := B5376 ++ O) [vI (((gAct c no (fVeto day)).1).epoch), vI (((gAct c no (fVeto day)).1).threshold), vI (((gAct c no (fVeto day)).1).wait), d5067, v5351] (⟨((gAct c no (fVeto day)).1).epoch, ((gAct c no (fVeto day)).1).threshold, ((gAct c no (fVeto day)).1).wait, ((gAct c no (fVeto day)).1).guardians, (((gAct c no (fVeto day)).1).recs).set no.toNat (c.recs[no.toNat]!)⟩ : Circle) cs5374 c w5369 ⟨_, _, rfl, hd5068, hl5379⟩ hs5375 s5377.lt) rfl s5377 fun v5382 w5383 s5384 m5385 k5386 r5387 => (?_))
        obtain rfl := r5387
        refine wl_s (o_assign (Value.bool (sameC (⟨((gAct c no (fVeto day)).1).epoch, ((gAct c no (fVeto day)).1).threshold, ((gAct c no (fVeto day)).1).wait, ((gAct c no (fVeto day)).1).guardians, (((gAct c no (fVeto day)).1).recs).set no.toNat (c.recs[no.toNat]!)⟩ : Circle) c)) rfl (wl_nil (thenQ_n (?_))))
        refine cw_ret (end_r rfl (res1 rfl rfl rfl) (?_))
        have e : true = (sameC (⟨((gAct c no (fVeto day)).1).epoch, ((gAct c no (fVeto day)).1).threshold, ((gAct c no (fVeto day)).1).wait, ((gAct c no (fVeto day)).1).guardians, (((gAct c no (fVeto day)).1).recs).set no.toNat (c.recs[no.toNat]!)⟩ : Circle) c) := by first | rfl | exact ((sameC_iff _ _).2 hv.back).symm | (rw [veto_err hok hn1 hn2 (by assumption)]; rfl)
        exact ⟨_, rfl, s5384.keep, by rw [e]; exact rfl⟩
      ·have hp5388 : (c.recs[no.toNat]!).asked ≤ day := by first | simpa using hb5230 | (have e := hb5230; simp at e; omega)
       refine wl_t rfl (o_move (vI day) rfl (wl_t rfl (o_lss .i64 day (1024 : Int) rfl rfl (wl_s (o_pickT (Value.bool (decide (day < (1024 : Int)))) rfl rfl (wl_s (o_neqB (((gAct c no (fVeto day)).2) == (0 : Int)) (decide (day < (1024 : Int))) Try.underlying4 rfl rfl (wl_nil (thenQ_n (?_))))))))))
       have hb5389 : ((((gAct c no (fVeto day)).2) == (0 : Int)) != (decide (day < (1024 : Int)))) = false := (by rw [veto_e3 hok hn1 hn2 (by assumption) (by assumption)]; exact bne_self_eq_false _)
       rw [hb5389]
       refine cw_cond false rfl rfl (fun h => by cases h) (fun _ => ?_)
       refine cw_skip (thenQ_n (?_))
       refine cw_seq (?_)
       refine cw_seq (?_)
       refine cw_region (by kernel_rfl) (wl_s (o_move (vI ((gAct c no (fVeto day)).2)) rfl (wl_s (o_neq .i64 ((gAct c no (fVeto day)).2) (0 : Int) rfl rfl (wl_nil (thenQ_n (?_)))))))
       refine cw_cond (((gAct c no (fVeto day)).2) != (0 : Int)) rfl rfl (fun hc5390 => ?_) (fun hc5390 => ?_)
       ·have hp5391 : (gAct c no (fVeto day)).2 ≠ (0 : Int) := by first | simpa using hc5390 | (have e := hc5390; simp at e; omega)
        refine cw_seq (?_)
        refine cw_region (by kernel_rfl) (wl_s (o_move (vI ((gAct c no (fVeto day)).2)) rfl (wl_s (o_eql .i64 ((gAct c no (fVeto day)).2) (1 : Int) rfl rfl (wl_s (o_assign (Value.bool (((gAct c no (fVeto day)).2) == (1 : Int))) rfl (wl_nil (thenQ_n (?_)))))))))
        refine cw_ret (thenQ_r (end_r rfl (res1 rfl rfl rfl) (?_)))
        have e : true = (((gAct c no (fVeto day)).2) == (1 : Int)) := by first | rfl | exact ((sameC_iff _ _).2 hv.back).symm | (rw [veto_err hok hn1 hn2 (by assumption)]; rfl)
        exact ⟨_, rfl, s5063.keep, by rw [e]; exact rfl⟩
       ·have hp5392 : (gAct c no (fVeto day)).2 = (0 : Int) := by first | simpa using hc5390 | (have e := hc5390; simp at e; omega)
        have hv := vetoed_of hok hn1 hn2 hp5392
        have hvl := hv.len
        refine cw_skip (thenQ_n (?_))
        refine cw_seq (?_)
        refine cw_region (by kernel_rfl) (wl_s (o_loadBxA (vs := [vI (((gAct c no (fVeto day)).1).epoch), vI (((gAct c no (fVeto day)).1).threshold), vI (((gAct c no (fVeto day)).1).wait), d5067, d5069]) Try.underlying25 rfl s_25 rfl bx5066 rfl (wl_s (o_move (vI no) rfl (wl_s (o_move (vI guardian) rfl (wl_s (o_callK (vs := [Value.agg #[vI (((gAct c no (fVeto day)).1).epoch), vI (((gAct c no (fVeto day)).1).threshold), vI (((gAct c no (fVeto day)).1).wait), d5067, d5069], vI no, vI guardian]) enter_18 (c_approve (O := (b5054 :: (b5028 :: [])) ++ O) [vI (((gAct c no (fVeto day)).1).epoch), vI (((gAct c no (fVeto day)).1).threshold), vI (((gAct c no (fVeto day)).1).wait), d5067, d5069] ((gAct c no (fVeto day)).1) no guardian w5062 ⟨_, _, rfl, hd5068, hd5070⟩ s5063.lt) rfl s5063 fun v5393 w5394 s5395 m5396 k5397 r5398 => (?_)))))))))
        obtain ⟨cs5399, rfl, hs5400⟩ := r5398
        have hp4984 := hp4984.mv m5396
        have hd5041 := hd5041.mv m5396
        have hd5043 := hd5043.mv m5396
        have hd5068 := hd5068.mv m5396
        have hd5070 := hd5070.mv m5396
        have bx5039 := bx5039.keep k5397 (by simp)
        have bx5066 := bx5066.keep k5397 (by simp)
        refine wl_s (o_move (Value.tuple #[Value.agg cs5399.toArray, vI ((gAct ((gAct c no (fVeto day)).1) no (fApprove ((gAct c no (fVeto day)).1) guardian)).2)]) rfl (wl_s (o_extract (Value.agg cs5399.toArray) rfl rfl (wl_s (o_extract (vI ((gAct ((gAct c no (fVeto day)).1) no (fApprove ((gAct c no (fVeto day)).1) guardian)).2)) rfl rfl (wl_s (o_alloc [vI (0 : Int), vI (0 : Int), vI (0 : Int), Value.slice none 0 0, Value.slice none 0 0] z_25 rfl s5395 fun b5401 w5402 e5407 s5403 m5404 k5405 bx5406 => (?_))))))))
        have ne5408 : b5028 ≠ b5401 := by have := bx5039.lt; omega
        have ne5409 : b5054 ≠ b5401 := by have := bx5066.lt; omega
        clear e5407
        have hp4984 := hp4984.mv m5404
        have hd5041 := hd5041.mv m5404
        have hd5043 := hd5043.mv m5404
        have hd5068 := hd5068.mv m5404
        have hd5070 := hd5070.mv m5404
        have hs5400 : Enc.circle.rd w5402 ((b5401 :: (b5054 :: (b5028 :: []))) ++ O) cs5399 ((gAct ((gAct c no (fVeto day)).1) no (fApprove ((gAct c no (fVeto day)).1) guardian)).1) := Enc.mv Enc.circle (x := (gAct ((gAct c no (fVeto day)).1) no (fApprove ((gAct c no (fVeto day)).1) guardian)).1) hs5400 m5404
        have bx5039 := bx5039.keep k5405 (by simp)
        have bx5066 := bx5066.keep k5405 (by simp)
        obtain ⟨d5415, d5417, rfl, hd5416, hd5418⟩ := hs5400
        have := hd5416.len_le
        have := hd5418.len_le
        refine wl_n (o_store (vs := [vI (((gAct ((gAct c no (fVeto day)).1) no (fApprove ((gAct c no (fVeto day)).1) guardian)).1).epoch), vI (((gAct ((gAct c no (fVeto day)).1) no (fApprove ((gAct c no (fVeto day)).1) guardian)).1).threshold), vI (((gAct ((gAct c no (fVeto day)).1) no (fApprove ((gAct c no (fVeto day)).1) guardian)).1).wait), d5415, d5417]) (.agg #[vI (((gAct ((gAct c no (fVeto day)).1) no (fApprove ((gAct c no (fVeto day)).1) guardian)).1).epoch), vI (((gAct ((gAct c no (fVeto day)).1) no (fApprove ((gAct c no (fVeto day)).1) guardian)).1).threshold), vI (((gAct ((gAct c no (fVeto day)).1) no (fApprove ((gAct c no (fVeto day)).1) guardian)).1).wait), d5415, d5417]) rfl rfl rfl s_25 (fun u hu => by simp only [List.mem_cons, List.not_mem_nil, or_false] at hu; rcases hu with rfl | rfl | rfl | rfl | rfl <;> first | rfl | exact hd5416.oneCell | exact hd5418.oneCell) (by repeat (first | assumption | constructor)) bx5406 (of_decide_eq_true rfl) s5403 fun w5410 s5411 m5412 k5413 bx5414 => (?_))
        have hp4984 := hp4984.mv m5412
        have hd5041 := hd5041.mv m5412
        have hd5043 := hd5043.mv m5412
        have hd5068 := hd5068.mv m5412
        have hd5070 := hd5070.mv m5412
        have bx5039 := bx5039.keep k5413 (nin1 ne5408)
        have bx5066 := bx5066.keep k5413 (nin1 ne5409)
        refine wl_s (o_assign (vI ((gAct ((gAct c no (fVeto day)).1) no (fApprove ((gAct c no (fVeto day)).1) guardian)).2)) rfl (wl_nil (thenQ_n (?_))))
        refine cw_seq (?_)
        refine cw_region (by kernel_rfl) (wl_s (o_loadBxA (vs := [vI (((gAct c no (fVeto day)).1).epoch), vI (((gAct c no (fVeto day)).1).threshold), vI (((gAct c no (fVeto day)).1).wait), d5067, d5069]) Try.underlying25 rfl s_25 rfl bx5066 rfl (wl_s (o_move (vI no) rfl (wl_s (o_move (vI later) rfl (wl_s (o_callK (vs := [Value.agg #[vI (((gAct c no (fVeto day)).1).epoch), vI (((gAct c no (fVeto day)).1).threshold), vI (((gAct c no (fVeto day)).1).wait), d5067, d5069], vI no, vI later]) enter_22 (c_finish (O := (b5401 :: (b5054 :: (b5028 :: []))) ++ O) [vI (((gAct c no (fVeto day)).1).epoch), vI (((gAct c no (fVeto day)).1).threshold), vI (((gAct c no (fVeto day)).1).wait), d5067, d5069] ((gAct c no (fVeto day)).1) no later w5410 ⟨_, _, rfl, hd5068, hd5070⟩ s5411.lt) rfl s5411 fun v5419 w5420 s5421 m5422 k5423 r5424 => (?_)))))))))
        obtain ⟨cs5425, rfl, hs5426⟩ := r5424
        have hp4984 := hp4984.mv m5422
        have hd5041 := hd5041.mv m5422
        have hd5043 := hd5043.mv m5422
        have hd5068 := hd5068.mv m5422
        have hd5070 := hd5070.mv m5422
        have bx5039 := bx5039.keep k5423 (by simp)
        have bx5066 := bx5066.keep k5423 (by simp)
        have bx5414 := bx5414.keep k5423 (by simp)
        refine wl_s (o_move (Value.tuple #[Value.agg cs5425.toArray, vI ((gAct ((gAct c no (fVeto day)).1) no (fFinish ((gAct c no (fVeto day)).1) later)).2)]) rfl (wl_s (o_extract (Value.agg cs5425.toArray) rfl rfl (wl_s (o_extract (vI ((gAct ((gAct c no (fVeto day)).1) no (fFinish ((gAct c no (fVeto day)).1) later)).2)) rfl rfl (wl_s (o_alloc [vI (0 : Int), vI (0 : Int), vI (0 : Int), Value.slice none 0 0, Value.slice none 0 0] z_25 rfl s5421 fun b5427 w5428 e5433 s5429 m5430 k5431 bx5432 => (?_))))))))
        have ne5434 : b5028 ≠ b5427 := by have := bx5039.lt; omega
        have ne5435 : b5054 ≠ b5427 := by have := bx5066.lt; omega
        have ne5436 : b5401 ≠ b5427 := by have := bx5414.lt; omega
        clear e5433
        have hp4984 := hp4984.mv m5430
        have hd5041 := hd5041.mv m5430
        have hd5043 := hd5043.mv m5430
        have hd5068 := hd5068.mv m5430
        have hd5070 := hd5070.mv m5430
        have hs5426 : Enc.circle.rd w5428 ((b5427 :: (b5401 :: (b5054 :: (b5028 :: [])))) ++ O) cs5425 ((gAct ((gAct c no (fVeto day)).1) no (fFinish ((gAct c no (fVeto day)).1) later)).1) := Enc.mv Enc.circle (x := (gAct ((gAct c no (fVeto day)).1) no (fFinish ((gAct c no (fVeto day)).1) later)).1) hs5426 m5430
        have bx5039 := bx5039.keep k5431 (by simp)
        have bx5066 := bx5066.keep k5431 (by simp)
        have bx5414 := bx5414.keep k5431 (by simp)
        obtain ⟨d5442, d5444, rfl, hd5443, hd5445⟩ := hs5426
        have := hd5443.len_le
        have := hd5445.len_le
        refine wl_n (o_store (vs := [vI (((gAct ((gAct c no (fVeto day)).1) no (fFinish ((gAct c no (fVeto day)).1) later)).1).epoch), vI (((gAct ((gAct c no (fVeto day)).1) no (fFinish ((gAct c no (fVeto day)).1) later)).1).threshold), vI (((gAct ((gAct c no (fVeto day)).1) no (fFinish ((gAct c no (fVeto day)).1) later)).1).wait), d5442, d5444]) (.agg #[vI (((gAct ((gAct c no (fVeto day)).1) no (fFinish ((gAct c no (fVeto day)).1) later)).1).epoch), vI (((gAct ((gAct c no (fVeto day)).1) no (fFinish ((gAct c no (fVeto day)).1) later)).1).threshold), vI (((gAct ((gAct c no (fVeto day)).1) no (fFinish ((gAct c no (fVeto day)).1) later)).1).wait), d5442, d5444]) rfl rfl rfl s_25 (fun u hu => by simp only [List.mem_cons, List.not_mem_nil, or_false] at hu; rcases hu with rfl | rfl | rfl | rfl | rfl <;> first | rfl | exact hd5443.oneCell | exact hd5445.oneCell) (by repeat (first | assumption | constructor)) bx5432 (of_decide_eq_true rfl) s5429 fun w5437 s5438 m5439 k5440 bx5441 => (?_))
        have hp4984 := hp4984.mv m5439
        have hd5041 := hd5041.mv m5439
        have hd5043 := hd5043.mv m5439
        have hd5068 := hd5068.mv m5439
        have hd5070 := hd5070.mv m5439
        have bx5039 := bx5039.keep k5440 (nin1 ne5434)
        have bx5066 := bx5066.keep k5440 (nin1 ne5435)
        have bx5414 := bx5414.keep k5440 (nin1 ne5436)
        refine wl_s (o_assign (vI ((gAct ((gAct c no (fVeto day)).1) no (fFinish ((gAct c no (fVeto day)).1) later)).2)) rfl (wl_nil (thenQ_n (?_))))
        refine cw_seq (?_)
        refine cw_region (by kernel_rfl) (wl_s (o_loadBxA (vs := [vI (((gAct c no (fVeto day)).1).epoch), vI (((gAct c no (fVeto day)).1).threshold), vI (((gAct c no (fVeto day)).1).wait), d5067, d5069]) Try.underlying25 rfl s_25 rfl bx5066 rfl (wl_s (o_move (vI no) rfl (wl_s (o_move (vI day) rfl (wl_s (o_callK (vs := [Value.agg #[vI (((gAct c no (fVeto day)).1).epoch), vI (((gAct c no (fVeto day)).1).threshold), vI (((gAct c no (fVeto day)).1).wait), d5067, d5069], vI no, vI day]) enter_20 (c_veto (O := (b5427 :: (b5401 :: (b5054 :: (b5028 :: [])))) ++ O) [vI (((gAct c no (fVeto day)).1).epoch), vI (((gAct c no (fVeto day)).1).threshold), vI (((gAct c no (fVeto day)).1).wait), d5067, d5069] ((gAct c no (fVeto day)).1) no day w5437 ⟨_, _, rfl, hd5068, hd5070⟩ s5438.lt) rfl s5438 fun v5446 w5447 s5448 m5449 k5450 r5451 => (?_)))))))))
        obtain ⟨cs5452, rfl, hs5453⟩ := r5451
        have hp4984 := hp4984.mv m5449
        have hd5041 := hd5041.mv m5449
        have hd5043 := hd5043.mv m5449
        have hd5068 := hd5068.mv m5449
        have hd5070 := hd5070.mv m5449
        have bx5039 := bx5039.keep k5450 (by simp)
        have bx5066 := bx5066.keep k5450 (by simp)
        have bx5414 := bx5414.keep k5450 (by simp)
        have bx5441 := bx5441.keep k5450 (by simp)
        refine wl_s (o_move (Value.tuple #[Value.agg cs5452.toArray, vI ((gAct ((gAct c no (fVeto day)).1) no (fVeto day)).2)]) rfl (wl_s (o_extract (Value.agg cs5452.toArray) rfl rfl (wl_s (o_extract (vI ((gAct ((gAct c no (fVeto day)).1) no (fVeto day)).2)) rfl rfl (wl_s (o_alloc [vI (0 : Int), vI (0 : Int), vI (0 : Int), Value.slice none 0 0, Value.slice none 0 0] z_25 rfl s5448 fun b5454 w5455 e5460 s5456 m5457 k5458 bx5459 => (?_))))))))
        have ne5461 : b5028 ≠ b5454 := by have := bx5039.lt; omega
        have ne5462 : b5054 ≠ b5454 := by have := bx5066.lt; omega
        have ne5463 : b5401 ≠ b5454 := by have := bx5414.lt; omega
        have ne5464 : b5427 ≠ b5454 := by have := bx5441.lt; omega
        clear e5460
        have hp4984 := hp4984.mv m5457
        have hd5041 := hd5041.mv m5457
        have hd5043 := hd5043.mv m5457
        have hd5068 := hd5068.mv m5457
        have hd5070 := hd5070.mv m5457
        have hs5453 : Enc.circle.rd w5455 ((b5454 :: (b5427 :: (b5401 :: (b5054 :: (b5028 :: []))))) ++ O) cs5452 ((gAct ((gAct c no (fVeto day)).1) no (fVeto day)).1) := Enc.mv Enc.circle (x := (gAct ((gAct c no (fVeto day)).1) no (fVeto day)).1) hs5453 m5457
        have bx5039 := bx5039.keep k5458 (by simp)
        have bx5066 := bx5066.keep k5458 (by simp)
        have bx5414 := bx5414.keep k5458 (by simp)
        have bx5441 := bx5441.keep k5458 (by simp)
        obtain ⟨d5470, d5472, rfl, hd5471, hd5473⟩ := hs5453
        have := hd5471.len_le
        have := hd5473.len_le
        refine wl_n (o_store (vs := [vI (((gAct ((gAct c no (fVeto day)).1) no (fVeto day)).1).epoch), vI (((gAct ((gAct c no (fVeto day)).1) no (fVeto day)).1).threshold), vI (((gAct ((gAct c no (fVeto day)).1) no (fVeto day)).1).wait), d5470, d5472]) (.agg #[vI (((gAct ((gAct c no (fVeto day)).1) no (fVeto day)).1).epoch), vI (((gAct ((gAct c no (fVeto day)).1) no (fVeto day)).1).threshold), vI (((gAct ((gAct c no (fVeto day)).1) no (fVeto day)).1).wait), d5470, d5472]) rfl rfl rfl s_25 (fun u hu => by simp only [List.mem_cons, List.not_mem_nil, or_false] at hu; rcases hu with rfl | rfl | rfl | rfl | rfl <;> first | rfl | exact hd5471.oneCell | exact hd5473.oneCell) (by repeat (first | assumption | constructor)) bx5459 (of_decide_eq_true rfl) s5456 fun w5465 s5466 m5467 k5468 bx5469 => (?_))
        have hp4984 := hp4984.mv m5467
        have hd5041 := hd5041.mv m5467
        have hd5043 := hd5043.mv m5467
        have hd5068 := hd5068.mv m5467
        have hd5070 := hd5070.mv m5467
        have hd5471 := hd5471.mv m5467
        have hd5473 := hd5473.mv m5467
        have bx5039 := bx5039.keep k5468 (nin1 ne5461)
        have bx5066 := bx5066.keep k5468 (nin1 ne5462)
        have bx5414 := bx5414.keep k5468 (nin1 ne5463)
        have bx5441 := bx5441.keep k5468 (nin1 ne5464)
        refine wl_s (o_assign (vI ((gAct ((gAct c no (fVeto day)).1) no (fVeto day)).2)) rfl (wl_nil (thenQ_n (?_))))
        refine cw_seq (?_)
        refine cw_seq (?_)
        refine cw_region (by kernel_rfl) (wl_s (o_move (vI ((gAct ((gAct c no (fVeto day)).1) no (fApprove ((gAct c no (fVeto day)).1) guardian)).2)) rfl (wl_s (o_neq .i64 ((gAct ((gAct c no (fVeto day)).1) no (fApprove ((gAct c no (fVeto day)).1) guardian)).2) (452 : Int) rfl rfl (wl_s (o_move (Value.bool (((gAct ((gAct c no (fVeto day)).1) no (fApprove ((gAct c no (fVeto day)).1) guardian)).2) != (452 : Int))) rfl (?_)))))))
        have hb5474 : (((gAct ((gAct c no (fVeto day)).1) no (fApprove ((gAct c no (fVeto day)).1) guardian)).2) != (452 : Int)) = false := (by rw [vet_app hv hn1 hn2]; rfl)
        rw [hb5474]
        refine wl_t rfl (o_move (vI ((gAct ((gAct c no (fVeto day)).1) no (fFinish ((gAct c no (fVeto day)).1) later)).2)) rfl (wl_t rfl (o_neq .i64 ((gAct ((gAct c no (fVeto day)).1) no (fFinish ((gAct c no (fVeto day)).1) later)).2) (452 : Int) rfl rfl (wl_s (o_pickF (Value.bool (((gAct ((gAct c no (fVeto day)).1) no (fFinish ((gAct c no (fVeto day)).1) later)).2) != (452 : Int))) rfl rfl (wl_s (o_move (Value.bool (((gAct ((gAct c no (fVeto day)).1) no (fFinish ((gAct c no (fVeto day)).1) later)).2) != (452 : Int))) rfl (?_))))))))
        have hb5475 : (((gAct ((gAct c no (fVeto day)).1) no (fFinish ((gAct c no (fVeto day)).1) later)).2) != (452 : Int)) = false := (by rw [vet_fin hv hn1 hn2]; rfl)
        rw [hb5475]
        refine wl_t rfl (o_move (vI ((gAct ((gAct c no (fVeto day)).1) no (fVeto day)).2)) rfl (wl_t rfl (o_neq .i64 ((gAct ((gAct c no (fVeto day)).1) no (fVeto day)).2) (0 : Int) rfl rfl (wl_s (o_pickF (Value.bool (((gAct ((gAct c no (fVeto day)).1) no (fVeto day)).2) != (0 : Int))) rfl rfl (wl_s (o_move (Value.bool (((gAct ((gAct c no (fVeto day)).1) no (fVeto day)).2) != (0 : Int))) rfl (?_))))))))
        have hb5476 : (((gAct ((gAct c no (fVeto day)).1) no (fVeto day)).2) != (0 : Int)) = false := (by rw [vet_again hv hn1 hn2]; rfl)
        rw [hb5476]
        refine wl_t rfl (o_loadBxA (vs := [vI (((gAct ((gAct c no (fVeto day)).1) no (fVeto day)).1).epoch), vI (((gAct ((gAct c no (fVeto day)).1) no (fVeto day)).1).threshold), vI (((gAct ((gAct c no (fVeto day)).1) no (fVeto day)).1).wait), d5470, d5472]) Try.underlying25 rfl s_25 rfl bx5469 rfl (wl_t rfl (o_loadBxA (vs := [vI (((gAct c no (fVeto day)).1).epoch), vI (((gAct c no (fVeto day)).1).threshold), vI (((gAct c no (fVeto day)).1).wait), d5067, d5069]) Try.underlying25 rfl s_25 rfl bx5066 rfl (wl_t rfl (o_callK (vs := [Value.agg #[vI (((gAct ((gAct c no (fVeto day)).1) no (fVeto day)).1).epoch), vI (((gAct ((gAct c no (fVeto day)).1) no (fVeto day)).1).threshold), vI (((gAct ((gAct c no (fVeto day)).1) no (fVeto day)).1).wait), d5470, d5472], Value.agg #[vI (((gAct c no (fVeto day)).1).epoch), vI (((gAct c no (fVeto day)).1).threshold), vI (((gAct c no (fVeto day)).1).wait), d5067, d5069]]) enter_15 (c_sameC (O := (b5454 :: (b5427 :: (b5401 :: (b5054 :: (b5028 :: []))))) ++ O) [vI (((gAct ((gAct c no (fVeto day)).1) no (fVeto day)).1).epoch), vI (((gAct ((gAct c no (fVeto day)).1) no (fVeto day)).1).threshold), vI (((gAct ((gAct c no (fVeto day)).1) no (fVeto day)).1).wait), d5470, d5472] ((gAct ((gAct c no (fVeto day)).1) no (fVeto day)).1) [vI (((gAct c no (fVeto day)).1).epoch), vI (((gAct c no (fVeto day)).1).threshold), vI (((gAct c no (fVeto day)).1).wait), d5067, d5069] ((gAct c no (fVeto day)).1) w5465 ⟨_, _, rfl, hd5471, hd5473⟩ ⟨_, _, rfl, hd5068, hd5070⟩ s5466.lt) rfl s5466 fun v5477 w5478 s5479 m5480 k5481 r5482 => (?_))))))
        obtain rfl := r5482
        have hp4984 := hp4984.mv m5480
        have hd5041 := hd5041.mv m5480
        have hd5043 := hd5043.mv m5480
        have hd5068 := hd5068.mv m5480
        have hd5070 := hd5070.mv m5480
        have bx5039 := bx5039.keep k5481 (by simp)
        have bx5066 := bx5066.keep k5481 (by simp)
        have bx5414 := bx5414.keep k5481 (by simp)
        have bx5441 := bx5441.keep k5481 (by simp)
        have bx5469 := bx5469.keep k5481 (by simp)
        refine wl_t rfl (o_not (sameC ((gAct ((gAct c no (fVeto day)).1) no (fVeto day)).1) ((gAct c no (fVeto day)).1)) rfl (wl_s (o_pickF (Value.bool (!(sameC ((gAct ((gAct c no (fVeto day)).1) no (fVeto day)).1) ((gAct c no (fVeto day)).1)))) rfl rfl (wl_s (o_move (Value.bool (!(sameC ((gAct ((gAct c no (fVeto day)).1) no (fVeto day)).1) ((gAct c no (fVeto day)).1)))) rfl (?_))))))
        have hb5483 : (!(sameC ((gAct ((gAct c no (fVeto day)).1) no (fVeto day)).1) ((gAct c no (fVeto day)).1))) = false := (by rw [show (sameC ((gAct ((gAct c no (fVeto day)).1) no (fVeto day)).1) ((gAct c no (fVeto day)).1)) = true from ((sameC_iff _ _).2 (by rw [vet_again hv hn1 hn2]))]; rfl)
        rw [hb5483]
        refine wl_t rfl (o_fieldL 4 f_25_4 rfl (wl_t rfl (o_loadBx Try.underlying23 rfl (d5069) rfl bx5066 rfl (wl_t rfl (o_lenR Try.underlying23 rfl hd5070 (wl_t rfl (o_fieldR 4 f_25_4 (c.recs) rfl hp4984 (fun _ _ _ h => Enc_circle_f4 h) fun a5484 hp5485 => (wl_t rfl (o_loadL Try.underlying23 rfl rfl hp5485 fun v5486 hl5487 => (?_))))))))))
        have := hl5487.len_le
        refine wl_t rfl (o_lenR Try.underlying23 rfl hl5487 (wl_t rfl (o_neq .i64 ((((gAct c no (fVeto day)).1).recs).length : Int) (c.recs.length : Int) rfl rfl (wl_s (o_pickF (Value.bool (((((gAct c no (fVeto day)).1).recs).length : Int) != (c.recs.length : Int))) rfl rfl (wl_nil (thenQ_n (?_))))))))
        have hb5488 : (((((gAct c no (fVeto day)).1).recs).length : Int) != (c.recs.length : Int)) = false := (by rw [hvl]; simp)
        rw [hb5488]
        refine cw_cond false rfl rfl (fun h => by cases h) (fun _ => ?_)
        refine cw_skip (thenQ_n (?_))
        refine cw_seq (?_)
        refine cw_region (by kernel_rfl) (wl_s (o_litO (E := Enc.recovery) (xs := []) Try.underlying23 s_47 z_47 (by decide) [] [] [] rfl rfl rfl (Parts.nil _ _ _) (of_decide_eq_true rfl) s5479 fun v5493 b5495 w5489 e5496 hb5497 s5490 m5491 k5492 hl5494 => (?_)))
        have ne5498 : ∀ b, v5493.ownBlock = some b → b ≠ b5028 := fun b hb => by have := bx5039.lt; rw [hb5497] at hb; cases hb; omega
        have ne5499 : ∀ b, v5493.ownBlock = some b → b ≠ b5054 := fun b hb => by have := bx5066.lt; rw [hb5497] at hb; cases hb; omega
        have ne5500 : ∀ b, v5493.ownBlock = some b → b ≠ b5401 := fun b hb => by have := bx5414.lt; rw [hb5497] at hb; cases hb; omega
        have ne5501 : ∀ b, v5493.ownBlock = some b → b ≠ b5427 := fun b hb => by have := bx5441.lt; rw [hb5497] at hb; cases hb; omega
        have ne5502 : ∀ b, v5493.ownBlock = some b → b ≠ b5454 := fun b hb => by have := bx5469.lt; rw [hb5497] at hb; cases hb; omega
        have hB5503 : ∀ b, v5493.ownBlock = some b → b ∈ (b5495 :: (b5454 :: (b5427 :: (b5401 :: (b5054 :: (b5028 :: [])))))) := fun b hb => by rw [hb5497] at hb; cases hb; simp
        clear e5496 hb5497
        have hp4984 := hp4984.mv m5491
        have hd5041 := hd5041.mv m5491
        have hd5043 := hd5043.mv m5491
        have hd5068 := hd5068.mv m5491
        have hd5070 := hd5070.mv m5491
        have bx5039 := bx5039.keep k5492 (by simp)
        have bx5066 := bx5066.keep k5492 (by simp)
        have bx5414 := bx5414.keep k5492 (by simp)
        have bx5441 := bx5441.keep k5492 (by simp)
        have bx5469 := bx5469.keep k5492 (by simp)
        refine wl_s (o_fieldL 4 f_25_4 rfl (wl_s (o_loadBx Try.underlying23 rfl (d5069) rfl bx5066 rfl (wl_s (o_append (E := Enc.recovery) (l := []) (m := ((gAct c no (fVeto day)).1).recs) Try.underlying23 i_47 rfl (by decide) rfl rfl hl5494 hd5070 (fun _ hb => .inl hb) hB5503 (by simp only [List.length_append, List.length_cons, List.length_nil]; omega) (by simp only [List.length_append, List.length_cons, List.length_nil, maxLen]; omega) s5490 fun v5508 w5504 B5510 hB5511 at5512 sub5513 s5505 m5506 k5507 ho5509 => (?_))))))
        rw [List.nil_append] at ho5509
        have ne5514 : ∀ b, v5508.ownBlock = some b → b ≠ b5028 := fun b hb => by rcases at5512 with e1 | e1 <;> rw [e1] at hb <;> first | (simp [Value.ownBlock] at hb; done) | (cases hb; have := bx5039.lt; omega) | (exact ne5498 b hb)
        have ne5515 : ∀ b, v5508.ownBlock = some b → b ≠ b5054 := fun b hb => by rcases at5512 with e1 | e1 <;> rw [e1] at hb <;> first | (simp [Value.ownBlock] at hb; done) | (cases hb; have := bx5066.lt; omega) | (exact ne5499 b hb)
        have ne5516 : ∀ b, v5508.ownBlock = some b → b ≠ b5401 := fun b hb => by rcases at5512 with e1 | e1 <;> rw [e1] at hb <;> first | (simp [Value.ownBlock] at hb; done) | (cases hb; have := bx5414.lt; omega) | (exact ne5500 b hb)
        have ne5517 : ∀ b, v5508.ownBlock = some b → b ≠ b5427 := fun b hb => by rcases at5512 with e1 | e1 <;> rw [e1] at hb <;> first | (simp [Value.ownBlock] at hb; done) | (cases hb; have := bx5441.lt; omega) | (exact ne5501 b hb)
        have ne5518 : ∀ b, v5508.ownBlock = some b → b ≠ b5454 := fun b hb => by rcases at5512 with e1 | e1 <;> rw [e1] at hb <;> first | (simp [Value.ownBlock] at hb; done) | (cases hb; have := bx5469.lt; omega) | (exact ne5502 b hb)
        have hin_b5028 : b5028 ∈ B5510 := sub5513 b5028 (by repeat (first | assumption | constructor))
        have hin_b5054 : b5054 ∈ B5510 := sub5513 b5054 (by repeat (first | assumption | constructor))
        have hin_b5401 : b5401 ∈ B5510 := sub5513 b5401 (by repeat (first | assumption | constructor))
        have hin_b5427 : b5427 ∈ B5510 := sub5513 b5427 (by repeat (first | assumption | constructor))
        have hin_b5454 : b5454 ∈ B5510 := sub5513 b5454 (by repeat (first | assumption | constructor))
        have hp4984 := hp4984.mv m5506
        have hd5041 := hd5041.mv m5506
        have hd5043 := hd5043.mv m5506
        have hd5068 := hd5068.mv m5506
        have bx5039 := bx5039.keep k5507 (by simp only [Option.mem_toList]; first | (simp [Value.ownBlock]; done) | exact fun e => absurd rfl (ne5498 _ e))
        have bx5066 := bx5066.keep k5507 (by simp only [Option.mem_toList]; first | (simp [Value.ownBlock]; done) | exact fun e => absurd rfl (ne5499 _ e))
        refine wl_s (o_fieldL 4 f_25_4 rfl (wl_n (o_store1 (v5508) rfl rfl ho5509.oneCell s_23 (by repeat (first | assumption | constructor)) bx5066 (of_decide_eq_true rfl) s5505 fun w5519 s5520 m5521 k5522 bx5523 => (?_))))
        have hp4984 := hp4984.mv m5521
        have hd5041 := hd5041.mv m5521
        have hd5043 := hd5043.mv m5521
        have hd5068 := hd5068.mv m5521
        have ho5509 := ho5509.mv m5521 k5522 (fun b hb => nin1 (ne5515 b hb))
        have bx5039 := bx5039.keep k5522 (nin1 ne5061)
        refine wl_nil (thenQ_n (?_))
        refine cw_seq (?_)
        refine cw_region (by kernel_rfl) (wl_s (o_fieldL 4 f_25_4 rfl (wl_s (o_loadBx Try.underlying23 rfl (v5508) rfl bx5523 rfl (wl_s (o_move (vI no) rfl (wl_s (o_loadBxA (vs := [vI ((c.recs[no.toNat]!).no), vI ((c.recs[no.toNat]!).asked), vI ((c.recs[no.toNat]!).state), d5040, d5042]) Try.underlying47 rfl s_47 rfl bx5039 rfl (wl_s (o_indexO Try.underlying23 s_47 .i64 no no.toNat rfl rfl (by omega) ho5509 (by omega) fun b5524 hb5525 => (wl_n (o_storeOA (c.recs[no.toNat]!) (by decide) s_47 rfl rfl ho5509 hb5525 (hB5511 _ hb5525) (by omega) ⟨_, _, rfl, hd5041, hd5043⟩ s5520 fun w5526 s5527 m5528 k5529 bx5530 => (?_)))))))))))))
        have hp4984 := hp4984.mv m5528
        have hd5068 := hd5068.mv m5528
        have bx5523 := bx5523.keep k5529 (by simp only [List.mem_singleton]; exact fun e => absurd e.symm (ne5515 _ hb5525))
        refine wl_nil (thenQ_n (?_))
        refine cw_seq (?_)
        refine cw_region (by kernel_rfl) (wl_s (o_loadBxA (vs := [vI (((gAct c no (fVeto day)).1).epoch), vI (((gAct c no (fVeto day)).1).threshold), vI (((gAct c no (fVeto day)).1).wait), d5067, v5508]) Try.underlying25 rfl s_25 rfl bx5523 rfl (wl_s (o_loadS Try.underlying25 rfl s_25 rfl hp4984 fun cs5531 hs5532 => (?_)))))
        obtain ⟨B5533, s5534, m5535, hl5536, hk5537⟩ := bx5530.publish s5527
        have hin_b5028 : b5028 ∈ B5533 := hk5537 b5028 (by repeat (first | assumption | constructor)) (fun e => absurd rfl (ne5514 _ e))
        have hin_b5054 : b5054 ∈ B5533 := hk5537 b5054 (by repeat (first | assumption | constructor)) (fun e => absurd rfl (ne5515 _ e))
        have hin_b5401 : b5401 ∈ B5533 := hk5537 b5401 (by repeat (first | assumption | constructor)) (fun e => absurd rfl (ne5516 _ e))
        have hin_b5427 : b5427 ∈ B5533 := hk5537 b5427 (by repeat (first | assumption | constructor)) (fun e => absurd rfl (ne5517 _ e))
        have hin_b5454 : b5454 ∈ B5533 := hk5537 b5454 (by repeat (first | assumption | constructor)) (fun e => absurd rfl (ne5518 _ e))
        have lim5538 := hl5536.len_le
        have hd5068 := hd5068.mv m5535
        have hs5532 : Enc.circle.rd w5526 (B5533 ++ O) cs5531 (c) := Enc.mv Enc.circle (x := c) hs5532 m5535
        refine wl_s (o_callK (vs := [Value.agg #[vI (((gAct c no (fVeto day)).1).epoch), vI (((gAct c no (fVeto day)).1).threshold), vI (((gAct c no (fVeto day)).1).wait), d5067, v5508], Value.agg cs5531.toArray]) enter_15 (c_sameC (O := B5533 ++ O) [vI (((gAct c no (fVeto day)).1).epoch), vI (((gAct c no (fVeto day)).1).threshold), vI (((gAct c no (fVeto day)).1).wait), d5067, v5508] (⟨((gAct c no (fVeto day)).1).epoch, ((gAct c no (fVeto day)).1).threshold, ((gAct c no (fVeto day)).1).wait, ((gAct c no (fVeto day)).1).guardians, (((gAct c no (fVeto day)).1).recs).set no.toNat (c.recs[no.toNat]!)⟩ : Circle) cs5531 c w5526 ⟨_, _, rfl, hd5068, hl5536⟩ hs5532 s5534.lt) rfl s5534 fun v5539 w5540 s5541 m5542 k5543 r5544 => (?_))
        obtain rfl := r5544
        refine wl_s (o_assign (Value.bool (sameC (⟨((gAct c no (fVeto day)).1).epoch, ((gAct c no (fVeto day)).1).threshold, ((gAct c no (fVeto day)).1).wait, ((gAct c no (fVeto day)).1).guardians, (((gAct c no (fVeto day)).1).recs).set no.toNat (c.recs[no.toNat]!)⟩ : Circle) c)) rfl (wl_nil (thenQ_n (?_))))
        refine cw_ret (end_r rfl (res1 rfl rfl rfl) (?_))
        have e : true = (sameC (⟨((gAct c no (fVeto day)).1).epoch, ((gAct c no (fVeto day)).1).threshold, ((gAct c no (fVeto day)).1).wait, ((gAct c no (fVeto day)).1).guardians, (((gAct c no (fVeto day)).1).recs).set no.toNat (c.recs[no.toNat]!)⟩ : Circle) c) := by first | rfl | exact ((sameC_iff _ _).2 hv.back).symm | (rw [veto_err hok hn1 hn2 (by assumption)]; rfl)
        exact ⟨_, rfl, s5541.keep, by rw [e]; exact rfl⟩
   ·have hp5545 : no < (0 : Int) := by first | simpa using hb5011 | (have e := hb5011; simp at e; omega)
    refine wl_k rfl (wl_k rfl (wl_k rfl (wl_k rfl (wl_k rfl (wl_s (o_pickT (Value.bool true) rfl rfl (wl_nil (thenQ_n (?_)))))))))
    refine cw_cond true rfl rfl (fun _ => ?_) (fun h => by cases h)
    refine cw_seq (?_)
    refine cw_region (by kernel_rfl) (wl_s (o_assign (Value.bool true) rfl (wl_nil (thenQ_n (?_)))))
    refine cw_ret (thenQ_r (end_r rfl (res1 rfl rfl rfl) (?_)))
    exact ⟨_, rfl, s5005.keep, rfl⟩
  ·have hp5546 : gCheck c ≠ (0 : Int) := by first | simpa using hb5009 | (have e := hb5009; simp at e; omega)
   refine wl_k rfl (wl_k rfl (wl_s (o_pickT (Value.bool true) rfl rfl (wl_s (o_move (Value.bool true) rfl (wl_k rfl (wl_k rfl (wl_k rfl (wl_k rfl (wl_k rfl (wl_s (o_pickT (Value.bool true) rfl rfl (wl_nil (thenQ_n (?_)))))))))))))))
   refine cw_cond true rfl rfl (fun _ => ?_) (fun h => by cases h)
   refine cw_seq (?_)
   refine cw_region (by kernel_rfl) (wl_s (o_assign (Value.bool true) rfl (wl_nil (thenQ_n (?_)))))
   refine cw_ret (thenQ_r (end_r rfl (res1 rfl rfl rfl) (?_)))
   exact ⟨_, rfl, s5005.keep, rfl⟩
 ·have hp5547 : (fewC c) = false := by first | simpa using hb4999 | (have e := hb4999; simp at e; omega)
  refine wl_k rfl (wl_k rfl (wl_k rfl (wl_s (o_pickT (Value.bool true) rfl rfl (wl_s (o_move (Value.bool true) rfl (wl_k rfl (wl_k rfl (wl_s (o_pickT (Value.bool true) rfl rfl (wl_s (o_move (Value.bool true) rfl (wl_k rfl (wl_k rfl (wl_k rfl (wl_k rfl (wl_k rfl (wl_s (o_pickT (Value.bool true) rfl rfl (wl_nil (thenQ_n (?_))))))))))))))))))))))
  refine cw_cond true rfl rfl (fun _ => ?_) (fun h => by cases h)
  refine cw_seq (?_)
  refine cw_region (by kernel_rfl) (wl_s (o_assign (Value.bool true) rfl (wl_nil (thenQ_n (?_)))))
  refine cw_ret (thenQ_r (end_r rfl (res1 rfl rfl rfl) (?_)))
  exact ⟨_, rfl, s4995.keep, rfl⟩

end Go.Proofs.Ytpdekmknnpkmgaa
