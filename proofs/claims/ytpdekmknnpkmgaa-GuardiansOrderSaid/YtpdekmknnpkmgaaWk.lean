/- Walks, printed by gen.py. -/
import Derived.Test.YtpdekmknnpkmgaaWd
import Derived.Test.YtpdekmknnpkmgaaWe
import Derived.Test.YtpdekmknnpkmgaaWf
import Derived.Test.YtpdekmknnpkmgaaWj
set_option linter.unusedSimpArgs false
set_option linter.unusedVariables false
namespace Go.Proofs.Ytpdekmknnpkmgaa
open Go.Fw Go.RowKit

def sC : Circle := (gNew [3, 5, 8] 2 7).1
def sC2 : Circle := (gNew [3, 5] 3 7).1
def sA0 : Circle := (gAct sC 0 (fApprove sC 3)).1
def sX : Circle := (gAsk sC 10).1
def sY : Circle := (gAct sX 0 (fApprove sX 5)).1
def sY2 : Circle := (gAct sY 0 (fApprove sY 5)).1
def sF1 : Circle := (gAct sY2 0 (fFinish sY2 17)).1
def sZ : Circle := (gAct sY2 0 (fApprove sY2 3)).1
def sF2 : Circle := (gAct sZ 0 (fFinish sZ 16)).1
def sDone : Circle := (gAct sZ 0 (fFinish sZ 17)).1
def sF3 : Circle := (gAct sDone 0 (fVeto 18)).1
def sDead : Circle := (gAct sZ 0 (fVeto 12)).1
def sF4 : Circle := (gAct sDead 0 (fFinish sDead 99)).1
def sF5 : Circle := (gAct sX 0 (fApprove sX 4)).1
def sF6 : Circle := (gAsk sX 11).1
set_option maxHeartbeats 4000000 in
set_option maxRecDepth 100000 in
theorem c_sane45 {O : List Nat} (w : World) (hO : ∀ b ∈ O, b < w.heap.size) : CallsK Try.prog 9 [] w (fun v _ => v = .bool (true)) :=  by
 have s0 : St w O w [] := St.start hO
 refine callsK_of 240 Try.func9 rfl rfl (of_decide_eq_true rfl) (fun F0 => ?_)
 refine cw_seq (?_)
 refine cw_region (by kernel_rfl) (wl_s (o_assign (Value.bool false) rfl (wl_nil (thenQ_n (?_)))))
 refine cw_seq (?_)
 refine cw_region (by kernel_rfl) (wl_s (o_lit (E := Enc.int) (xs := [.const (vI (3 : Int)), .const (vI (5 : Int)), .const (vI (8 : Int))]) Try.underlying22 s_3 z_3 (by decide) [vI (3 : Int), vI (5 : Int), vI (8 : Int)] [[vI (3 : Int)], [vI (5 : Int)], [vI (8 : Int)]] [(3 : Int), (5 : Int), (8 : Int)] rfl rfl rfl (Parts.cons rfl rfl (Parts.cons rfl rfl (Parts.cons rfl rfl (Parts.nil _ _ _)))) (of_decide_eq_true rfl) s0 fun v4050 w4046 s4047 m4048 k4049 hl4051 => (?_)))
 have := hl4051.len_le
 refine wl_s (o_callK (vs := [v4050, vI (2 : Int), vI (7 : Int)]) enter_11 (c_new (O := [] ++ O) v4050 ([(3 : Int), (5 : Int), (8 : Int)]) (2 : Int) (7 : Int) w4046 hl4051 (by first | omega | assumption | (simp; done)) s4047.lt) rfl s4047 fun v4052 w4053 s4054 m4055 k4056 r4057 => (?_))
 obtain ⟨cs4058, rfl, hs4059⟩ := r4057
 have hs4059 : Enc.circle.rd w4053 ([] ++ O) cs4058 sC := hs4059
 refine wl_s (o_move (Value.tuple #[Value.agg cs4058.toArray, vI ((gNew ([(3 : Int), (5 : Int), (8 : Int)]) (2 : Int) (7 : Int)).2)]) rfl (wl_s (o_extract (Value.agg cs4058.toArray) rfl rfl (wl_s (o_extract (vI ((gNew ([(3 : Int), (5 : Int), (8 : Int)]) (2 : Int) (7 : Int)).2)) rfl rfl (wl_s (o_alloc [vI (0 : Int), vI (0 : Int), vI (0 : Int), Value.slice none 0 0, Value.slice none 0 0] z_25 rfl s4054 fun b4060 w4061 e4066 s4062 m4063 k4064 bx4065 => (?_))))))))
 clear e4066
 have hs4059 : Enc.circle.rd w4061 ((b4060 :: []) ++ O) cs4058 (sC) := Enc.mv Enc.circle (x := sC) hs4059 m4063
 obtain ⟨d4072, d4074, rfl, hd4073, hd4075⟩ := hs4059
 have := hd4073.len_le
 have := hd4075.len_le
 refine wl_n (o_store (vs := [vI sC.epoch, vI sC.threshold, vI sC.wait, d4072, d4074]) (.agg #[vI sC.epoch, vI sC.threshold, vI sC.wait, d4072, d4074]) rfl rfl rfl s_25 (fun u hu => by simp only [List.mem_cons, List.not_mem_nil, or_false] at hu; rcases hu with rfl | rfl | rfl | rfl | rfl <;> first | rfl | exact hd4073.oneCell | exact hd4075.oneCell) (by repeat (first | assumption | constructor)) bx4065 (of_decide_eq_true rfl) s4062 fun w4067 s4068 m4069 k4070 bx4071 => (?_))
 have hd4073 := hd4073.mv m4069
 have hd4075 := hd4075.mv m4069
 refine wl_s (o_assign (vI ((gNew ([(3 : Int), (5 : Int), (8 : Int)]) (2 : Int) (7 : Int)).2)) rfl (wl_nil (thenQ_n (?_))))
 refine cw_seq (?_)
 refine cw_region (by kernel_rfl) (wl_s (o_lit (E := Enc.int) (xs := [.const (vI (3 : Int)), .const (vI (5 : Int))]) Try.underlying22 s_3 z_3 (by decide) [vI (3 : Int), vI (5 : Int)] [[vI (3 : Int)], [vI (5 : Int)]] [(3 : Int), (5 : Int)] rfl rfl rfl (Parts.cons rfl rfl (Parts.cons rfl rfl (Parts.nil _ _ _))) (of_decide_eq_true rfl) s4068 fun v4080 w4076 s4077 m4078 k4079 hl4081 => (?_)))
 have hd4073 := hd4073.mv m4078
 have hd4075 := hd4075.mv m4078
 have bx4071 := bx4071.keep k4079 (by simp)
 have := hl4081.len_le
 refine wl_s (o_callK (vs := [v4080, vI (3 : Int), vI (7 : Int)]) enter_11 (c_new (O := (b4060 :: []) ++ O) v4080 ([(3 : Int), (5 : Int)]) (3 : Int) (7 : Int) w4076 hl4081 (by first | omega | assumption | (simp; done)) s4077.lt) rfl s4077 fun v4082 w4083 s4084 m4085 k4086 r4087 => (?_))
 obtain ⟨cs4088, rfl, hs4089⟩ := r4087
 have hs4089 : Enc.circle.rd w4083 ((b4060 :: []) ++ O) cs4088 sC2 := hs4089
 have hd4073 := hd4073.mv m4085
 have hd4075 := hd4075.mv m4085
 have bx4071 := bx4071.keep k4086 (by simp)
 refine wl_s (o_move (Value.tuple #[Value.agg cs4088.toArray, vI ((gNew ([(3 : Int), (5 : Int)]) (3 : Int) (7 : Int)).2)]) rfl (wl_s (o_extract (Value.agg cs4088.toArray) rfl rfl (wl_s (o_extract (vI ((gNew ([(3 : Int), (5 : Int)]) (3 : Int) (7 : Int)).2)) rfl rfl (wl_s (o_alloc [vI (0 : Int), vI (0 : Int), vI (0 : Int), Value.slice none 0 0, Value.slice none 0 0] z_25 rfl s4084 fun b4090 w4091 e4096 s4092 m4093 k4094 bx4095 => (?_))))))))
 have ne4097 : b4060 ≠ b4090 := by have := bx4071.lt; omega
 clear e4096
 have hd4073 := hd4073.mv m4093
 have hd4075 := hd4075.mv m4093
 have hs4089 : Enc.circle.rd w4091 ((b4090 :: (b4060 :: [])) ++ O) cs4088 (sC2) := Enc.mv Enc.circle (x := sC2) hs4089 m4093
 have bx4071 := bx4071.keep k4094 (by simp)
 obtain ⟨d4103, d4105, rfl, hd4104, hd4106⟩ := hs4089
 have := hd4104.len_le
 have := hd4106.len_le
 refine wl_n (o_store (vs := [vI sC2.epoch, vI sC2.threshold, vI sC2.wait, d4103, d4105]) (.agg #[vI sC2.epoch, vI sC2.threshold, vI sC2.wait, d4103, d4105]) rfl rfl rfl s_25 (fun u hu => by simp only [List.mem_cons, List.not_mem_nil, or_false] at hu; rcases hu with rfl | rfl | rfl | rfl | rfl <;> first | rfl | exact hd4104.oneCell | exact hd4106.oneCell) (by repeat (first | assumption | constructor)) bx4095 (of_decide_eq_true rfl) s4092 fun w4098 s4099 m4100 k4101 bx4102 => (?_))
 have hd4073 := hd4073.mv m4100
 have hd4075 := hd4075.mv m4100
 have bx4071 := bx4071.keep k4101 (nin1 ne4097)
 refine wl_s (o_assign (vI ((gNew ([(3 : Int), (5 : Int)]) (3 : Int) (7 : Int)).2)) rfl (wl_nil (thenQ_n (?_))))
 refine cw_seq (?_)
 refine cw_region (by kernel_rfl) (wl_s (o_loadBxA (vs := [vI sC.epoch, vI sC.threshold, vI sC.wait, d4072, d4074]) Try.underlying25 rfl s_25 rfl bx4071 rfl (wl_s (o_callK (vs := [Value.agg #[vI sC.epoch, vI sC.threshold, vI sC.wait, d4072, d4074], vI (0 : Int), vI (3 : Int)]) enter_18 (c_approve (O := (b4090 :: (b4060 :: [])) ++ O) [vI sC.epoch, vI sC.threshold, vI sC.wait, d4072, d4074] sC (0 : Int) (3 : Int) w4098 ⟨_, _, rfl, hd4073, hd4075⟩ s4099.lt) rfl s4099 fun v4107 w4108 s4109 m4110 k4111 r4112 => (?_)))))
 obtain ⟨cs4113, rfl, hs4114⟩ := r4112
 have hs4114 : Enc.circle.rd w4108 ((b4090 :: (b4060 :: [])) ++ O) cs4113 sA0 := hs4114
 have hd4073 := hd4073.mv m4110
 have hd4075 := hd4075.mv m4110
 have bx4071 := bx4071.keep k4111 (by simp)
 have bx4102 := bx4102.keep k4111 (by simp)
 refine wl_s (o_move (Value.tuple #[Value.agg cs4113.toArray, vI ((gAct sC (0 : Int) (fApprove sC (3 : Int))).2)]) rfl (wl_s (o_extract (Value.agg cs4113.toArray) rfl rfl (wl_s (o_extract (vI ((gAct sC (0 : Int) (fApprove sC (3 : Int))).2)) rfl rfl (wl_s (o_alloc [vI (0 : Int), vI (0 : Int), vI (0 : Int), Value.slice none 0 0, Value.slice none 0 0] z_25 rfl s4109 fun b4115 w4116 e4121 s4117 m4118 k4119 bx4120 => (?_))))))))
 have ne4122 : b4060 ≠ b4115 := by have := bx4071.lt; omega
 have ne4123 : b4090 ≠ b4115 := by have := bx4102.lt; omega
 clear e4121
 have hd4073 := hd4073.mv m4118
 have hd4075 := hd4075.mv m4118
 have hs4114 : Enc.circle.rd w4116 ((b4115 :: (b4090 :: (b4060 :: []))) ++ O) cs4113 (sA0) := Enc.mv Enc.circle (x := sA0) hs4114 m4118
 have bx4071 := bx4071.keep k4119 (by simp)
 have bx4102 := bx4102.keep k4119 (by simp)
 obtain ⟨d4129, d4131, rfl, hd4130, hd4132⟩ := hs4114
 have := hd4130.len_le
 have := hd4132.len_le
 refine wl_n (o_store (vs := [vI sA0.epoch, vI sA0.threshold, vI sA0.wait, d4129, d4131]) (.agg #[vI sA0.epoch, vI sA0.threshold, vI sA0.wait, d4129, d4131]) rfl rfl rfl s_25 (fun u hu => by simp only [List.mem_cons, List.not_mem_nil, or_false] at hu; rcases hu with rfl | rfl | rfl | rfl | rfl <;> first | rfl | exact hd4130.oneCell | exact hd4132.oneCell) (by repeat (first | assumption | constructor)) bx4120 (of_decide_eq_true rfl) s4117 fun w4124 s4125 m4126 k4127 bx4128 => (?_))
 have hd4073 := hd4073.mv m4126
 have hd4075 := hd4075.mv m4126
 have bx4071 := bx4071.keep k4127 (nin1 ne4122)
 have bx4102 := bx4102.keep k4127 (nin1 ne4123)
 refine wl_s (o_assign (vI ((gAct sC (0 : Int) (fApprove sC (3 : Int))).2)) rfl (wl_nil (thenQ_n (?_))))
 refine cw_seq (?_)
 refine cw_region (by kernel_rfl) (wl_s (o_loadBxA (vs := [vI sC.epoch, vI sC.threshold, vI sC.wait, d4072, d4074]) Try.underlying25 rfl s_25 rfl bx4071 rfl (wl_s (o_callK (vs := [Value.agg #[vI sC.epoch, vI sC.threshold, vI sC.wait, d4072, d4074], vI (10 : Int)]) enter_13 (c_ask (O := (b4115 :: (b4090 :: (b4060 :: []))) ++ O) [vI sC.epoch, vI sC.threshold, vI sC.wait, d4072, d4074] sC (10 : Int) w4124 ⟨_, _, rfl, hd4073, hd4075⟩ s4125.lt) rfl s4125 fun v4133 w4134 s4135 m4136 k4137 r4138 => (?_)))))
 obtain ⟨cs4139, rfl, hs4140⟩ := r4138
 have hs4140 : Enc.circle.rd w4134 ((b4115 :: (b4090 :: (b4060 :: []))) ++ O) cs4139 sX := hs4140
 have bx4071 := bx4071.keep k4137 (by simp)
 have bx4102 := bx4102.keep k4137 (by simp)
 have bx4128 := bx4128.keep k4137 (by simp)
 refine wl_s (o_move (Value.tuple #[Value.agg cs4139.toArray, vI ((gAsk sC (10 : Int)).2.1), vI ((gAsk sC (10 : Int)).2.2)]) rfl (wl_s (o_extract (Value.agg cs4139.toArray) rfl rfl (wl_s (o_extract (vI ((gAsk sC (10 : Int)).2.1)) rfl rfl (wl_s (o_extract (vI ((gAsk sC (10 : Int)).2.2)) rfl rfl (wl_s (o_alloc [vI (0 : Int), vI (0 : Int), vI (0 : Int), Value.slice none 0 0, Value.slice none 0 0] z_25 rfl s4135 fun b4141 w4142 e4147 s4143 m4144 k4145 bx4146 => (?_))))))))))
 have ne4148 : b4060 ≠ b4141 := by have := bx4071.lt; omega
 have ne4149 : b4090 ≠ b4141 := by have := bx4102.lt; omega
 have ne4150 : b4115 ≠ b4141 := by have := bx4128.lt; omega
 clear e4147
 have hs4140 : Enc.circle.rd w4142 ((b4141 :: (b4115 :: (b4090 :: (b4060 :: [])))) ++ O) cs4139 (sX) := Enc.mv Enc.circle (x := sX) hs4140 m4144
 have bx4071 := bx4071.keep k4145 (by simp)
 have bx4102 := bx4102.keep k4145 (by simp)
 have bx4128 := bx4128.keep k4145 (by simp)
 obtain ⟨d4156, d4158, rfl, hd4157, hd4159⟩ := hs4140
 have := hd4157.len_le
 have := hd4159.len_le
 refine wl_n (o_store (vs := [vI sX.epoch, vI sX.threshold, vI sX.wait, d4156, d4158]) (.agg #[vI sX.epoch, vI sX.threshold, vI sX.wait, d4156, d4158]) rfl rfl rfl s_25 (fun u hu => by simp only [List.mem_cons, List.not_mem_nil, or_false] at hu; rcases hu with rfl | rfl | rfl | rfl | rfl <;> first | rfl | exact hd4157.oneCell | exact hd4159.oneCell) (by repeat (first | assumption | constructor)) bx4146 (of_decide_eq_true rfl) s4143 fun w4151 s4152 m4153 k4154 bx4155 => (?_))
 have hd4157 := hd4157.mv m4153
 have hd4159 := hd4159.mv m4153
 have bx4071 := bx4071.keep k4154 (nin1 ne4148)
 have bx4102 := bx4102.keep k4154 (nin1 ne4149)
 have bx4128 := bx4128.keep k4154 (nin1 ne4150)
 refine wl_s (o_assign (vI ((gAsk sC (10 : Int)).2.1)) rfl (wl_s (o_assign (vI ((gAsk sC (10 : Int)).2.2)) rfl (wl_nil (thenQ_n (?_))))))
 refine cw_seq (?_)
 refine cw_region (by kernel_rfl) (wl_s (o_loadBxA (vs := [vI sX.epoch, vI sX.threshold, vI sX.wait, d4156, d4158]) Try.underlying25 rfl s_25 rfl bx4155 rfl (wl_s (o_callK (vs := [Value.agg #[vI sX.epoch, vI sX.threshold, vI sX.wait, d4156, d4158], vI (0 : Int), vI (5 : Int)]) enter_18 (c_approve (O := (b4141 :: (b4115 :: (b4090 :: (b4060 :: [])))) ++ O) [vI sX.epoch, vI sX.threshold, vI sX.wait, d4156, d4158] sX (0 : Int) (5 : Int) w4151 ⟨_, _, rfl, hd4157, hd4159⟩ s4152.lt) rfl s4152 fun v4160 w4161 s4162 m4163 k4164 r4165 => (?_)))))
 obtain ⟨cs4166, rfl, hs4167⟩ := r4165
 have hs4167 : Enc.circle.rd w4161 ((b4141 :: (b4115 :: (b4090 :: (b4060 :: [])))) ++ O) cs4166 sY := hs4167
 have hd4157 := hd4157.mv m4163
 have hd4159 := hd4159.mv m4163
 have bx4071 := bx4071.keep k4164 (by simp)
 have bx4102 := bx4102.keep k4164 (by simp)
 have bx4128 := bx4128.keep k4164 (by simp)
 have bx4155 := bx4155.keep k4164 (by simp)
 refine wl_s (o_move (Value.tuple #[Value.agg cs4166.toArray, vI ((gAct sX (0 : Int) (fApprove sX (5 : Int))).2)]) rfl (wl_s (o_extract (Value.agg cs4166.toArray) rfl rfl (wl_s (o_extract (vI ((gAct sX (0 : Int) (fApprove sX (5 : Int))).2)) rfl rfl (wl_s (o_alloc [vI (0 : Int), vI (0 : Int), vI (0 : Int), Value.slice none 0 0, Value.slice none 0 0] z_25 rfl s4162 fun b4168 w4169 e4174 s4170 m4171 k4172 bx4173 => (?_))))))))
 have ne4175 : b4060 ≠ b4168 := by have := bx4071.lt; omega
 have ne4176 : b4090 ≠ b4168 := by have := bx4102.lt; omega
 have ne4177 : b4115 ≠ b4168 := by have := bx4128.lt; omega
 have ne4178 : b4141 ≠ b4168 := by have := bx4155.lt; omega
 clear e4174
 have hd4157 := hd4157.mv m4171
 have hd4159 := hd4159.mv m4171
 have hs4167 : Enc.circle.rd w4169 ((b4168 :: (b4141 :: (b4115 :: (b4090 :: (b4060 :: []))))) ++ O) cs4166 (sY) := Enc.mv Enc.circle (x := sY) hs4167 m4171
 have bx4071 := bx4071.keep k4172 (by simp)
 have bx4102 := bx4102.keep k4172 (by simp)
 have bx4128 := bx4128.keep k4172 (by simp)
 have bx4155 := bx4155.keep k4172 (by simp)
 obtain ⟨d4184, d4186, rfl, hd4185, hd4187⟩ := hs4167
 have := hd4185.len_le
 have := hd4187.len_le
 refine wl_n (o_store (vs := [vI sY.epoch, vI sY.threshold, vI sY.wait, d4184, d4186]) (.agg #[vI sY.epoch, vI sY.threshold, vI sY.wait, d4184, d4186]) rfl rfl rfl s_25 (fun u hu => by simp only [List.mem_cons, List.not_mem_nil, or_false] at hu; rcases hu with rfl | rfl | rfl | rfl | rfl <;> first | rfl | exact hd4185.oneCell | exact hd4187.oneCell) (by repeat (first | assumption | constructor)) bx4173 (of_decide_eq_true rfl) s4170 fun w4179 s4180 m4181 k4182 bx4183 => (?_))
 have hd4157 := hd4157.mv m4181
 have hd4159 := hd4159.mv m4181
 have hd4185 := hd4185.mv m4181
 have hd4187 := hd4187.mv m4181
 have bx4071 := bx4071.keep k4182 (nin1 ne4175)
 have bx4102 := bx4102.keep k4182 (nin1 ne4176)
 have bx4128 := bx4128.keep k4182 (nin1 ne4177)
 have bx4155 := bx4155.keep k4182 (nin1 ne4178)
 refine wl_s (o_assign (vI ((gAct sX (0 : Int) (fApprove sX (5 : Int))).2)) rfl (wl_nil (thenQ_n (?_))))
 refine cw_seq (?_)
 refine cw_region (by kernel_rfl) (wl_s (o_loadBxA (vs := [vI sY.epoch, vI sY.threshold, vI sY.wait, d4184, d4186]) Try.underlying25 rfl s_25 rfl bx4183 rfl (wl_s (o_callK (vs := [Value.agg #[vI sY.epoch, vI sY.threshold, vI sY.wait, d4184, d4186], vI (0 : Int), vI (5 : Int)]) enter_18 (c_approve (O := (b4168 :: (b4141 :: (b4115 :: (b4090 :: (b4060 :: []))))) ++ O) [vI sY.epoch, vI sY.threshold, vI sY.wait, d4184, d4186] sY (0 : Int) (5 : Int) w4179 ⟨_, _, rfl, hd4185, hd4187⟩ s4180.lt) rfl s4180 fun v4188 w4189 s4190 m4191 k4192 r4193 => (?_)))))
 obtain ⟨cs4194, rfl, hs4195⟩ := r4193
 have hs4195 : Enc.circle.rd w4189 ((b4168 :: (b4141 :: (b4115 :: (b4090 :: (b4060 :: []))))) ++ O) cs4194 sY2 := hs4195
 have hd4157 := hd4157.mv m4191
 have hd4159 := hd4159.mv m4191
 have bx4071 := bx4071.keep k4192 (by simp)
 have bx4102 := bx4102.keep k4192 (by simp)
 have bx4128 := bx4128.keep k4192 (by simp)
 have bx4155 := bx4155.keep k4192 (by simp)
 have bx4183 := bx4183.keep k4192 (by simp)
 refine wl_s (o_move (Value.tuple #[Value.agg cs4194.toArray, vI ((gAct sY (0 : Int) (fApprove sY (5 : Int))).2)]) rfl (wl_s (o_extract (Value.agg cs4194.toArray) rfl rfl (wl_s (o_extract (vI ((gAct sY (0 : Int) (fApprove sY (5 : Int))).2)) rfl rfl (?_))))))
 obtain ⟨d4201, d4203, rfl, hd4202, hd4204⟩ := hs4195
 have := hd4202.len_le
 have := hd4204.len_le
 refine wl_n (o_store (vs := [vI sY2.epoch, vI sY2.threshold, vI sY2.wait, d4201, d4203]) (.agg #[vI sY2.epoch, vI sY2.threshold, vI sY2.wait, d4201, d4203]) rfl rfl rfl s_25 (fun u hu => by simp only [List.mem_cons, List.not_mem_nil, or_false] at hu; rcases hu with rfl | rfl | rfl | rfl | rfl <;> first | rfl | exact hd4202.oneCell | exact hd4204.oneCell) (by repeat (first | assumption | constructor)) bx4183 (of_decide_eq_true rfl) s4190 fun w4196 s4197 m4198 k4199 bx4200 => (?_))
 have hd4157 := hd4157.mv m4198
 have hd4159 := hd4159.mv m4198
 have hd4202 := hd4202.mv m4198
 have hd4204 := hd4204.mv m4198
 have bx4071 := bx4071.keep k4199 (nin1 ne4175)
 have bx4102 := bx4102.keep k4199 (nin1 ne4176)
 have bx4128 := bx4128.keep k4199 (nin1 ne4177)
 have bx4155 := bx4155.keep k4199 (nin1 ne4178)
 refine wl_s (o_assign (vI ((gAct sY (0 : Int) (fApprove sY (5 : Int))).2)) rfl (wl_nil (thenQ_n (?_))))
 refine cw_seq (?_)
 refine cw_region (by kernel_rfl) (wl_s (o_loadBxA (vs := [vI sY2.epoch, vI sY2.threshold, vI sY2.wait, d4201, d4203]) Try.underlying25 rfl s_25 rfl bx4200 rfl (wl_s (o_callK (vs := [Value.agg #[vI sY2.epoch, vI sY2.threshold, vI sY2.wait, d4201, d4203], vI (0 : Int), vI (17 : Int)]) enter_22 (c_finish (O := (b4168 :: (b4141 :: (b4115 :: (b4090 :: (b4060 :: []))))) ++ O) [vI sY2.epoch, vI sY2.threshold, vI sY2.wait, d4201, d4203] sY2 (0 : Int) (17 : Int) w4196 ⟨_, _, rfl, hd4202, hd4204⟩ s4197.lt) rfl s4197 fun v4205 w4206 s4207 m4208 k4209 r4210 => (?_)))))
 obtain ⟨cs4211, rfl, hs4212⟩ := r4210
 have hs4212 : Enc.circle.rd w4206 ((b4168 :: (b4141 :: (b4115 :: (b4090 :: (b4060 :: []))))) ++ O) cs4211 sF1 := hs4212
 have hd4157 := hd4157.mv m4208
 have hd4159 := hd4159.mv m4208
 have hd4202 := hd4202.mv m4208
 have hd4204 := hd4204.mv m4208
 have bx4071 := bx4071.keep k4209 (by simp)
 have bx4102 := bx4102.keep k4209 (by simp)
 have bx4128 := bx4128.keep k4209 (by simp)
 have bx4155 := bx4155.keep k4209 (by simp)
 have bx4200 := bx4200.keep k4209 (by simp)
 refine wl_s (o_move (Value.tuple #[Value.agg cs4211.toArray, vI ((gAct sY2 (0 : Int) (fFinish sY2 (17 : Int))).2)]) rfl (wl_s (o_extract (Value.agg cs4211.toArray) rfl rfl (wl_s (o_extract (vI ((gAct sY2 (0 : Int) (fFinish sY2 (17 : Int))).2)) rfl rfl (wl_s (o_alloc [vI (0 : Int), vI (0 : Int), vI (0 : Int), Value.slice none 0 0, Value.slice none 0 0] z_25 rfl s4207 fun b4213 w4214 e4219 s4215 m4216 k4217 bx4218 => (?_))))))))
 have ne4220 : b4060 ≠ b4213 := by have := bx4071.lt; omega
 have ne4221 : b4090 ≠ b4213 := by have := bx4102.lt; omega
 have ne4222 : b4115 ≠ b4213 := by have := bx4128.lt; omega
 have ne4223 : b4141 ≠ b4213 := by have := bx4155.lt; omega
 have ne4224 : b4168 ≠ b4213 := by have := bx4200.lt; omega
 clear e4219
 have hd4157 := hd4157.mv m4216
 have hd4159 := hd4159.mv m4216
 have hd4202 := hd4202.mv m4216
 have hd4204 := hd4204.mv m4216
 have hs4212 : Enc.circle.rd w4214 ((b4213 :: (b4168 :: (b4141 :: (b4115 :: (b4090 :: (b4060 :: [])))))) ++ O) cs4211 (sF1) := Enc.mv Enc.circle (x := sF1) hs4212 m4216
 have bx4071 := bx4071.keep k4217 (by simp)
 have bx4102 := bx4102.keep k4217 (by simp)
 have bx4128 := bx4128.keep k4217 (by simp)
 have bx4155 := bx4155.keep k4217 (by simp)
 have bx4200 := bx4200.keep k4217 (by simp)
 obtain ⟨d4230, d4232, rfl, hd4231, hd4233⟩ := hs4212
 have := hd4231.len_le
 have := hd4233.len_le
 refine wl_n (o_store (vs := [vI sF1.epoch, vI sF1.threshold, vI sF1.wait, d4230, d4232]) (.agg #[vI sF1.epoch, vI sF1.threshold, vI sF1.wait, d4230, d4232]) rfl rfl rfl s_25 (fun u hu => by simp only [List.mem_cons, List.not_mem_nil, or_false] at hu; rcases hu with rfl | rfl | rfl | rfl | rfl <;> first | rfl | exact hd4231.oneCell | exact hd4233.oneCell) (by repeat (first | assumption | constructor)) bx4218 (of_decide_eq_true rfl) s4215 fun w4225 s4226 m4227 k4228 bx4229 => (?_))
 have hd4157 := hd4157.mv m4227
 have hd4159 := hd4159.mv m4227
 have hd4202 := hd4202.mv m4227
 have hd4204 := hd4204.mv m4227
 have bx4071 := bx4071.keep k4228 (nin1 ne4220)
 have bx4102 := bx4102.keep k4228 (nin1 ne4221)
 have bx4128 := bx4128.keep k4228 (nin1 ne4222)
 have bx4155 := bx4155.keep k4228 (nin1 ne4223)
 have bx4200 := bx4200.keep k4228 (nin1 ne4224)
 refine wl_s (o_assign (vI ((gAct sY2 (0 : Int) (fFinish sY2 (17 : Int))).2)) rfl (wl_nil (thenQ_n (?_))))
 refine cw_seq (?_)
 refine cw_region (by kernel_rfl) (wl_s (o_loadBxA (vs := [vI sY2.epoch, vI sY2.threshold, vI sY2.wait, d4201, d4203]) Try.underlying25 rfl s_25 rfl bx4200 rfl (wl_s (o_callK (vs := [Value.agg #[vI sY2.epoch, vI sY2.threshold, vI sY2.wait, d4201, d4203], vI (0 : Int), vI (3 : Int)]) enter_18 (c_approve (O := (b4213 :: (b4168 :: (b4141 :: (b4115 :: (b4090 :: (b4060 :: [])))))) ++ O) [vI sY2.epoch, vI sY2.threshold, vI sY2.wait, d4201, d4203] sY2 (0 : Int) (3 : Int) w4225 ⟨_, _, rfl, hd4202, hd4204⟩ s4226.lt) rfl s4226 fun v4234 w4235 s4236 m4237 k4238 r4239 => (?_)))))
 obtain ⟨cs4240, rfl, hs4241⟩ := r4239
 have hs4241 : Enc.circle.rd w4235 ((b4213 :: (b4168 :: (b4141 :: (b4115 :: (b4090 :: (b4060 :: [])))))) ++ O) cs4240 sZ := hs4241
 have hd4157 := hd4157.mv m4237
 have hd4159 := hd4159.mv m4237
 have hd4204 := hd4204.mv m4237
 have bx4071 := bx4071.keep k4238 (by simp)
 have bx4102 := bx4102.keep k4238 (by simp)
 have bx4128 := bx4128.keep k4238 (by simp)
 have bx4155 := bx4155.keep k4238 (by simp)
 have bx4200 := bx4200.keep k4238 (by simp)
 have bx4229 := bx4229.keep k4238 (by simp)
 refine wl_s (o_move (Value.tuple #[Value.agg cs4240.toArray, vI ((gAct sY2 (0 : Int) (fApprove sY2 (3 : Int))).2)]) rfl (wl_s (o_extract (Value.agg cs4240.toArray) rfl rfl (wl_s (o_extract (vI ((gAct sY2 (0 : Int) (fApprove sY2 (3 : Int))).2)) rfl rfl (wl_s (o_alloc [vI (0 : Int), vI (0 : Int), vI (0 : Int), Value.slice none 0 0, Value.slice none 0 0] z_25 rfl s4236 fun b4242 w4243 e4248 s4244 m4245 k4246 bx4247 => (?_))))))))
 have ne4249 : b4060 ≠ b4242 := by have := bx4071.lt; omega
 have ne4250 : b4090 ≠ b4242 := by have := bx4102.lt; omega
 have ne4251 : b4115 ≠ b4242 := by have := bx4128.lt; omega
 have ne4252 : b4141 ≠ b4242 := by have := bx4155.lt; omega
 have ne4253 : b4168 ≠ b4242 := by have := bx4200.lt; omega
 have ne4254 : b4213 ≠ b4242 := by have := bx4229.lt; omega
 clear e4248
 have hd4157 := hd4157.mv m4245
 have hd4159 := hd4159.mv m4245
 have hd4204 := hd4204.mv m4245
 have hs4241 : Enc.circle.rd w4243 ((b4242 :: (b4213 :: (b4168 :: (b4141 :: (b4115 :: (b4090 :: (b4060 :: []))))))) ++ O) cs4240 (sZ) := Enc.mv Enc.circle (x := sZ) hs4241 m4245
 have bx4071 := bx4071.keep k4246 (by simp)
 have bx4102 := bx4102.keep k4246 (by simp)
 have bx4128 := bx4128.keep k4246 (by simp)
 have bx4155 := bx4155.keep k4246 (by simp)
 have bx4200 := bx4200.keep k4246 (by simp)
 have bx4229 := bx4229.keep k4246 (by simp)
 obtain ⟨d4260, d4262, rfl, hd4261, hd4263⟩ := hs4241
 have := hd4261.len_le
 have := hd4263.len_le
 refine wl_n (o_store (vs := [vI sZ.epoch, vI sZ.threshold, vI sZ.wait, d4260, d4262]) (.agg #[vI sZ.epoch, vI sZ.threshold, vI sZ.wait, d4260, d4262]) rfl rfl rfl s_25 (fun u hu => by simp only [List.mem_cons, List.not_mem_nil, or_false] at hu; rcases hu with rfl | rfl | rfl | rfl | rfl <;> first | rfl | exact hd4261.oneCell | exact hd4263.oneCell) (by repeat (first | assumption | constructor)) bx4247 (of_decide_eq_true rfl) s4244 fun w4255 s4256 m4257 k4258 bx4259 => (?_))
 have hd4157 := hd4157.mv m4257
 have hd4159 := hd4159.mv m4257
 have hd4204 := hd4204.mv m4257
 have hd4261 := hd4261.mv m4257
 have hd4263 := hd4263.mv m4257
 have bx4071 := bx4071.keep k4258 (nin1 ne4249)
 have bx4102 := bx4102.keep k4258 (nin1 ne4250)
 have bx4128 := bx4128.keep k4258 (nin1 ne4251)
 have bx4155 := bx4155.keep k4258 (nin1 ne4252)
 have bx4200 := bx4200.keep k4258 (nin1 ne4253)
 have bx4229 := bx4229.keep k4258 (nin1 ne4254)
 refine wl_s (o_assign (vI ((gAct sY2 (0 : Int) (fApprove sY2 (3 : Int))).2)) rfl (wl_nil (thenQ_n (?_))))
 refine cw_seq (?_)
 refine cw_region (by kernel_rfl) (wl_s (o_loadBxA (vs := [vI sZ.epoch, vI sZ.threshold, vI sZ.wait, d4260, d4262]) Try.underlying25 rfl s_25 rfl bx4259 rfl (wl_s (o_callK (vs := [Value.agg #[vI sZ.epoch, vI sZ.threshold, vI sZ.wait, d4260, d4262], vI (0 : Int), vI (16 : Int)]) enter_22 (c_finish (O := (b4242 :: (b4213 :: (b4168 :: (b4141 :: (b4115 :: (b4090 :: (b4060 :: []))))))) ++ O) [vI sZ.epoch, vI sZ.threshold, vI sZ.wait, d4260, d4262] sZ (0 : Int) (16 : Int) w4255 ⟨_, _, rfl, hd4261, hd4263⟩ s4256.lt) rfl s4256 fun v4264 w4265 s4266 m4267 k4268 r4269 => (?_)))))
 obtain ⟨cs4270, rfl, hs4271⟩ := r4269
 have hs4271 : Enc.circle.rd w4265 ((b4242 :: (b4213 :: (b4168 :: (b4141 :: (b4115 :: (b4090 :: (b4060 :: []))))))) ++ O) cs4270 sF2 := hs4271
 have hd4157 := hd4157.mv m4267
 have hd4159 := hd4159.mv m4267
 have hd4204 := hd4204.mv m4267
 have hd4261 := hd4261.mv m4267
 have hd4263 := hd4263.mv m4267
 have bx4071 := bx4071.keep k4268 (by simp)
 have bx4102 := bx4102.keep k4268 (by simp)
 have bx4128 := bx4128.keep k4268 (by simp)
 have bx4155 := bx4155.keep k4268 (by simp)
 have bx4200 := bx4200.keep k4268 (by simp)
 have bx4229 := bx4229.keep k4268 (by simp)
 have bx4259 := bx4259.keep k4268 (by simp)
 refine wl_s (o_move (Value.tuple #[Value.agg cs4270.toArray, vI ((gAct sZ (0 : Int) (fFinish sZ (16 : Int))).2)]) rfl (wl_s (o_extract (Value.agg cs4270.toArray) rfl rfl (wl_s (o_extract (vI ((gAct sZ (0 : Int) (fFinish sZ (16 : Int))).2)) rfl rfl (wl_s (o_alloc [vI (0 : Int), vI (0 : Int), vI (0 : Int), Value.slice none 0 0, Value.slice none 0 0] z_25 rfl s4266 fun b4272 w4273 e4278 s4274 m4275 k4276 bx4277 => (?_))))))))
 have ne4279 : b4060 ≠ b4272 := by have := bx4071.lt; omega
 have ne4280 : b4090 ≠ b4272 := by have := bx4102.lt; omega
 have ne4281 : b4115 ≠ b4272 := by have := bx4128.lt; omega
 have ne4282 : b4141 ≠ b4272 := by have := bx4155.lt; omega
 have ne4283 : b4168 ≠ b4272 := by have := bx4200.lt; omega
 have ne4284 : b4213 ≠ b4272 := by have := bx4229.lt; omega
 have ne4285 : b4242 ≠ b4272 := by have := bx4259.lt; omega
 clear e4278
 have hd4157 := hd4157.mv m4275
 have hd4159 := hd4159.mv m4275
 have hd4204 := hd4204.mv m4275
 have hd4261 := hd4261.mv m4275
 have hd4263 := hd4263.mv m4275
 have hs4271 : Enc.circle.rd w4273 ((b4272 :: (b4242 :: (b4213 :: (b4168 :: (b4141 :: (b4115 :: (b4090 :: (b4060 :: [])))))))) ++ O) cs4270 (sF2) := Enc.mv Enc.circle (x := sF2) hs4271 m4275
 have bx4071 := bx4071.keep k4276 (by simp)
 have bx4102 := bx4102.keep k4276 (by simp)
 have bx4128 := bx4128.keep k4276 (by simp)
 have bx4155 := bx4155.keep k4276 (by simp)
 have bx4200 := bx4200.keep k4276 (by simp)
 have bx4229 := bx4229.keep k4276 (by simp)
 have bx4259 := bx4259.keep k4276 (by simp)
 obtain ⟨d4291, d4293, rfl, hd4292, hd4294⟩ := hs4271
 have := hd4292.len_le
 have := hd4294.len_le
 refine wl_n (o_store (vs := [vI sF2.epoch, vI sF2.threshold, vI sF2.wait, d4291, d4293]) (.agg #[vI sF2.epoch, vI sF2.threshold, vI sF2.wait, d4291, d4293]) rfl rfl rfl s_25 (fun u hu => by simp only [List.mem_cons, List.not_mem_nil, or_false] at hu; rcases hu with rfl | rfl | rfl | rfl | rfl <;> first | rfl | exact hd4292.oneCell | exact hd4294.oneCell) (by repeat (first | assumption | constructor)) bx4277 (of_decide_eq_true rfl) s4274 fun w4286 s4287 m4288 k4289 bx4290 => (?_))
 have hd4157 := hd4157.mv m4288
 have hd4159 := hd4159.mv m4288
 have hd4204 := hd4204.mv m4288
 have hd4261 := hd4261.mv m4288
 have hd4263 := hd4263.mv m4288
 have bx4071 := bx4071.keep k4289 (nin1 ne4279)
 have bx4102 := bx4102.keep k4289 (nin1 ne4280)
 have bx4128 := bx4128.keep k4289 (nin1 ne4281)
 have bx4155 := bx4155.keep k4289 (nin1 ne4282)
 have bx4200 := bx4200.keep k4289 (nin1 ne4283)
 have bx4229 := bx4229.keep k4289 (nin1 ne4284)
 have bx4259 := bx4259.keep k4289 (nin1 ne4285)
 refine wl_s (o_assign (vI ((gAct sZ (0 : Int) (fFinish sZ (16 : Int))).2)) rfl (wl_nil (thenQ_n (?_))))
 refine cw_seq (?_)
 refine cw_region (by kernel_rfl) (wl_s (o_loadBxA (vs := [vI sZ.epoch, vI sZ.threshold, vI sZ.wait, d4260, d4262]) Try.underlying25 rfl s_25 rfl bx4259 rfl (wl_s (o_callK (vs := [Value.agg #[vI sZ.epoch, vI sZ.threshold, vI sZ.wait, d4260, d4262], vI (0 : Int), vI (17 : Int)]) enter_22 (c_finish (O := (b4272 :: (b4242 :: (b4213 :: (b4168 :: (b4141 :: (b4115 :: (b4090 :: (b4060 :: [])))))))) ++ O) [vI sZ.epoch, vI sZ.threshold, vI sZ.wait, d4260, d4262] sZ (0 : Int) (17 : Int) w4286 ⟨_, _, rfl, hd4261, hd4263⟩ s4287.lt) rfl s4287 fun v4295 w4296 s4297 m4298 k4299 r4300 => (?_)))))
 obtain ⟨cs4301, rfl, hs4302⟩ := r4300
 have hs4302 : Enc.circle.rd w4296 ((b4272 :: (b4242 :: (b4213 :: (b4168 :: (b4141 :: (b4115 :: (b4090 :: (b4060 :: [])))))))) ++ O) cs4301 sDone := hs4302
 have hd4157 := hd4157.mv m4298
 have hd4159 := hd4159.mv m4298
 have hd4204 := hd4204.mv m4298
 have hd4261 := hd4261.mv m4298
 have hd4263 := hd4263.mv m4298
 have bx4071 := bx4071.keep k4299 (by simp)
 have bx4102 := bx4102.keep k4299 (by simp)
 have bx4128 := bx4128.keep k4299 (by simp)
 have bx4155 := bx4155.keep k4299 (by simp)
 have bx4200 := bx4200.keep k4299 (by simp)
 have bx4229 := bx4229.keep k4299 (by simp)
 have bx4259 := bx4259.keep k4299 (by simp)
 have bx4290 := bx4290.keep k4299 (by simp)
 refine wl_s (o_move (Value.tuple #[Value.agg cs4301.toArray, vI ((gAct sZ (0 : Int) (fFinish sZ (17 : Int))).2)]) rfl (wl_s (o_extract (Value.agg cs4301.toArray) rfl rfl (wl_s (o_extract (vI ((gAct sZ (0 : Int) (fFinish sZ (17 : Int))).2)) rfl rfl (wl_s (o_alloc [vI (0 : Int), vI (0 : Int), vI (0 : Int), Value.slice none 0 0, Value.slice none 0 0] z_25 rfl s4297 fun b4303 w4304 e4309 s4305 m4306 k4307 bx4308 => (?_))))))))
 have ne4310 : b4060 ≠ b4303 := by have := bx4071.lt; omega
 have ne4311 : b4090 ≠ b4303 := by have := bx4102.lt; omega
 have ne4312 : b4115 ≠ b4303 := by have := bx4128.lt; omega
 have ne4313 : b4141 ≠ b4303 := by have := bx4155.lt; omega
 have ne4314 : b4168 ≠ b4303 := by have := bx4200.lt; omega
 have ne4315 : b4213 ≠ b4303 := by have := bx4229.lt; omega
 have ne4316 : b4242 ≠ b4303 := by have := bx4259.lt; omega
 have ne4317 : b4272 ≠ b4303 := by have := bx4290.lt; omega
 clear e4309
 have hd4157 := hd4157.mv m4306
 have hd4159 := hd4159.mv m4306
 have hd4204 := hd4204.mv m4306
 have hd4261 := hd4261.mv m4306
 have hd4263 := hd4263.mv m4306
 have hs4302 : Enc.circle.rd w4304 ((b4303 :: (b4272 :: (b4242 :: (b4213 :: (b4168 :: (b4141 :: (b4115 :: (b4090 :: (b4060 :: []))))))))) ++ O) cs4301 (sDone) := Enc.mv Enc.circle (x := sDone) hs4302 m4306
 have bx4071 := bx4071.keep k4307 (by simp)
 have bx4102 := bx4102.keep k4307 (by simp)
 have bx4128 := bx4128.keep k4307 (by simp)
 have bx4155 := bx4155.keep k4307 (by simp)
 have bx4200 := bx4200.keep k4307 (by simp)
 have bx4229 := bx4229.keep k4307 (by simp)
 have bx4259 := bx4259.keep k4307 (by simp)
 have bx4290 := bx4290.keep k4307 (by simp)
 obtain ⟨d4323, d4325, rfl, hd4324, hd4326⟩ := hs4302
 have := hd4324.len_le
 have := hd4326.len_le
 refine wl_n (o_store (vs := [vI sDone.epoch, vI sDone.threshold, vI sDone.wait, d4323, d4325]) (.agg #[vI sDone.epoch, vI sDone.threshold, vI sDone.wait, d4323, d4325]) rfl rfl rfl s_25 (fun u hu => by simp only [List.mem_cons, List.not_mem_nil, or_false] at hu; rcases hu with rfl | rfl | rfl | rfl | rfl <;> first | rfl | exact hd4324.oneCell | exact hd4326.oneCell) (by repeat (first | assumption | constructor)) bx4308 (of_decide_eq_true rfl) s4305 fun w4318 s4319 m4320 k4321 bx4322 => (?_))
 have hd4157 := hd4157.mv m4320
 have hd4159 := hd4159.mv m4320
 have hd4204 := hd4204.mv m4320
 have hd4261 := hd4261.mv m4320
 have hd4263 := hd4263.mv m4320
 have hd4324 := hd4324.mv m4320
 have hd4326 := hd4326.mv m4320
 have bx4071 := bx4071.keep k4321 (nin1 ne4310)
 have bx4102 := bx4102.keep k4321 (nin1 ne4311)
 have bx4128 := bx4128.keep k4321 (nin1 ne4312)
 have bx4155 := bx4155.keep k4321 (nin1 ne4313)
 have bx4200 := bx4200.keep k4321 (nin1 ne4314)
 have bx4229 := bx4229.keep k4321 (nin1 ne4315)
 have bx4259 := bx4259.keep k4321 (nin1 ne4316)
 have bx4290 := bx4290.keep k4321 (nin1 ne4317)
 refine wl_s (o_assign (vI ((gAct sZ (0 : Int) (fFinish sZ (17 : Int))).2)) rfl (wl_nil (thenQ_n (?_))))
 refine cw_seq (?_)
 refine cw_region (by kernel_rfl) (wl_s (o_loadBxA (vs := [vI sDone.epoch, vI sDone.threshold, vI sDone.wait, d4323, d4325]) Try.underlying25 rfl s_25 rfl bx4322 rfl (wl_s (o_callK (vs := [Value.agg #[vI sDone.epoch, vI sDone.threshold, vI sDone.wait, d4323, d4325], vI (0 : Int), vI (18 : Int)]) enter_20 (c_veto (O := (b4303 :: (b4272 :: (b4242 :: (b4213 :: (b4168 :: (b4141 :: (b4115 :: (b4090 :: (b4060 :: []))))))))) ++ O) [vI sDone.epoch, vI sDone.threshold, vI sDone.wait, d4323, d4325] sDone (0 : Int) (18 : Int) w4318 ⟨_, _, rfl, hd4324, hd4326⟩ s4319.lt) rfl s4319 fun v4327 w4328 s4329 m4330 k4331 r4332 => (?_)))))
 obtain ⟨cs4333, rfl, hs4334⟩ := r4332
 have hs4334 : Enc.circle.rd w4328 ((b4303 :: (b4272 :: (b4242 :: (b4213 :: (b4168 :: (b4141 :: (b4115 :: (b4090 :: (b4060 :: []))))))))) ++ O) cs4333 sF3 := hs4334
 have hd4157 := hd4157.mv m4330
 have hd4159 := hd4159.mv m4330
 have hd4204 := hd4204.mv m4330
 have hd4261 := hd4261.mv m4330
 have hd4263 := hd4263.mv m4330
 have hd4324 := hd4324.mv m4330
 have hd4326 := hd4326.mv m4330
 have bx4071 := bx4071.keep k4331 (by simp)
 have bx4102 := bx4102.keep k4331 (by simp)
 have bx4128 := bx4128.keep k4331 (by simp)
 have bx4155 := bx4155.keep k4331 (by simp)
 have bx4200 := bx4200.keep k4331 (by simp)
 have bx4229 := bx4229.keep k4331 (by simp)
 have bx4259 := bx4259.keep k4331 (by simp)
 have bx4290 := bx4290.keep k4331 (by simp)
 have bx4322 := bx4322.keep k4331 (by simp)
 refine wl_s (o_move (Value.tuple #[Value.agg cs4333.toArray, vI ((gAct sDone (0 : Int) (fVeto (18 : Int))).2)]) rfl (wl_s (o_extract (Value.agg cs4333.toArray) rfl rfl (wl_s (o_extract (vI ((gAct sDone (0 : Int) (fVeto (18 : Int))).2)) rfl rfl (wl_s (o_alloc [vI (0 : Int), vI (0 : Int), vI (0 : Int), Value.slice none 0 0, Value.slice none 0 0] z_25 rfl s4329 fun b4335 w4336 e4341 s4337 m4338 k4339 bx4340 => (?_))))))))
 have ne4342 : b4060 ≠ b4335 := by have := bx4071.lt; omega
 have ne4343 : b4090 ≠ b4335 := by have := bx4102.lt; omega
 have ne4344 : b4115 ≠ b4335 := by have := bx4128.lt; omega
 have ne4345 : b4141 ≠ b4335 := by have := bx4155.lt; omega
 have ne4346 : b4168 ≠ b4335 := by have := bx4200.lt; omega
 have ne4347 : b4213 ≠ b4335 := by have := bx4229.lt; omega
 have ne4348 : b4242 ≠ b4335 := by have := bx4259.lt; omega
 have ne4349 : b4272 ≠ b4335 := by have := bx4290.lt; omega
 have ne4350 : b4303 ≠ b4335 := by have := bx4322.lt; omega
 clear e4341
 have hd4157 := hd4157.mv m4338
 have hd4159 := hd4159.mv m4338
 have hd4204 := hd4204.mv m4338
 have hd4261 := hd4261.mv m4338
 have hd4263 := hd4263.mv m4338
 have hd4324 := hd4324.mv m4338
 have hd4326 := hd4326.mv m4338
 have hs4334 : Enc.circle.rd w4336 ((b4335 :: (b4303 :: (b4272 :: (b4242 :: (b4213 :: (b4168 :: (b4141 :: (b4115 :: (b4090 :: (b4060 :: [])))))))))) ++ O) cs4333 (sF3) := Enc.mv Enc.circle (x := sF3) hs4334 m4338
 have bx4071 := bx4071.keep k4339 (by simp)
 have bx4102 := bx4102.keep k4339 (by simp)
 have bx4128 := bx4128.keep k4339 (by simp)
 have bx4155 := bx4155.keep k4339 (by simp)
 have bx4200 := bx4200.keep k4339 (by simp)
 have bx4229 := bx4229.keep k4339 (by simp)
 have bx4259 := bx4259.keep k4339 (by simp)
 have bx4290 := bx4290.keep k4339 (by simp)
 have bx4322 := bx4322.keep k4339 (by simp)
 obtain ⟨d4356, d4358, rfl, hd4357, hd4359⟩ := hs4334
 have := hd4357.len_le
 have := hd4359.len_le
 refine wl_n (o_store (vs := [vI sF3.epoch, vI sF3.threshold, vI sF3.wait, d4356, d4358]) (.agg #[vI sF3.epoch, vI sF3.threshold, vI sF3.wait, d4356, d4358]) rfl rfl rfl s_25 (fun u hu => by simp only [List.mem_cons, List.not_mem_nil, or_false] at hu; rcases hu with rfl | rfl | rfl | rfl | rfl <;> first | rfl | exact hd4357.oneCell | exact hd4359.oneCell) (by repeat (first | assumption | constructor)) bx4340 (of_decide_eq_true rfl) s4337 fun w4351 s4352 m4353 k4354 bx4355 => (?_))
 have hd4157 := hd4157.mv m4353
 have hd4159 := hd4159.mv m4353
 have hd4204 := hd4204.mv m4353
 have hd4261 := hd4261.mv m4353
 have hd4263 := hd4263.mv m4353
 have hd4324 := hd4324.mv m4353
 have hd4326 := hd4326.mv m4353
 have bx4071 := bx4071.keep k4354 (nin1 ne4342)
 have bx4102 := bx4102.keep k4354 (nin1 ne4343)
 have bx4128 := bx4128.keep k4354 (nin1 ne4344)
 have bx4155 := bx4155.keep k4354 (nin1 ne4345)
 have bx4200 := bx4200.keep k4354 (nin1 ne4346)
 have bx4229 := bx4229.keep k4354 (nin1 ne4347)
 have bx4259 := bx4259.keep k4354 (nin1 ne4348)
 have bx4290 := bx4290.keep k4354 (nin1 ne4349)
 have bx4322 := bx4322.keep k4354 (nin1 ne4350)
 refine wl_s (o_assign (vI ((gAct sDone (0 : Int) (fVeto (18 : Int))).2)) rfl (wl_nil (thenQ_n (?_))))
 refine cw_seq (?_)
 refine cw_region (by kernel_rfl) (wl_s (o_loadBxA (vs := [vI sZ.epoch, vI sZ.threshold, vI sZ.wait, d4260, d4262]) Try.underlying25 rfl s_25 rfl bx4259 rfl (wl_s (o_callK (vs := [Value.agg #[vI sZ.epoch, vI sZ.threshold, vI sZ.wait, d4260, d4262], vI (0 : Int), vI (12 : Int)]) enter_20 (c_veto (O := (b4335 :: (b4303 :: (b4272 :: (b4242 :: (b4213 :: (b4168 :: (b4141 :: (b4115 :: (b4090 :: (b4060 :: [])))))))))) ++ O) [vI sZ.epoch, vI sZ.threshold, vI sZ.wait, d4260, d4262] sZ (0 : Int) (12 : Int) w4351 ⟨_, _, rfl, hd4261, hd4263⟩ s4352.lt) rfl s4352 fun v4360 w4361 s4362 m4363 k4364 r4365 => (?_)))))
 obtain ⟨cs4366, rfl, hs4367⟩ := r4365
 have hs4367 : Enc.circle.rd w4361 ((b4335 :: (b4303 :: (b4272 :: (b4242 :: (b4213 :: (b4168 :: (b4141 :: (b4115 :: (b4090 :: (b4060 :: [])))))))))) ++ O) cs4366 sDead := hs4367
 have hd4157 := hd4157.mv m4363
 have hd4159 := hd4159.mv m4363
 have hd4204 := hd4204.mv m4363
 have hd4263 := hd4263.mv m4363
 have hd4324 := hd4324.mv m4363
 have hd4326 := hd4326.mv m4363
 have bx4071 := bx4071.keep k4364 (by simp)
 have bx4102 := bx4102.keep k4364 (by simp)
 have bx4128 := bx4128.keep k4364 (by simp)
 have bx4155 := bx4155.keep k4364 (by simp)
 have bx4200 := bx4200.keep k4364 (by simp)
 have bx4229 := bx4229.keep k4364 (by simp)
 have bx4259 := bx4259.keep k4364 (by simp)
 have bx4290 := bx4290.keep k4364 (by simp)
 have bx4322 := bx4322.keep k4364 (by simp)
 have bx4355 := bx4355.keep k4364 (by simp)
 refine wl_s (o_move (Value.tuple #[Value.agg cs4366.toArray, vI ((gAct sZ (0 : Int) (fVeto (12 : Int))).2)]) rfl (wl_s (o_extract (Value.agg cs4366.toArray) rfl rfl (wl_s (o_extract (vI ((gAct sZ (0 : Int) (fVeto (12 : Int))).2)) rfl rfl (wl_s (o_alloc [vI (0 : Int), vI (0 : Int), vI (0 : Int), Value.slice none 0 0, Value.slice none 0 0] z_25 rfl s4362 fun b4368 w4369 e4374 s4370 m4371 k4372 bx4373 => (?_))))))))
 have ne4375 : b4060 ≠ b4368 := by have := bx4071.lt; omega
 have ne4376 : b4090 ≠ b4368 := by have := bx4102.lt; omega
 have ne4377 : b4115 ≠ b4368 := by have := bx4128.lt; omega
 have ne4378 : b4141 ≠ b4368 := by have := bx4155.lt; omega
 have ne4379 : b4168 ≠ b4368 := by have := bx4200.lt; omega
 have ne4380 : b4213 ≠ b4368 := by have := bx4229.lt; omega
 have ne4381 : b4242 ≠ b4368 := by have := bx4259.lt; omega
 have ne4382 : b4272 ≠ b4368 := by have := bx4290.lt; omega
 have ne4383 : b4303 ≠ b4368 := by have := bx4322.lt; omega
 have ne4384 : b4335 ≠ b4368 := by have := bx4355.lt; omega
 clear e4374
 have hd4157 := hd4157.mv m4371
 have hd4159 := hd4159.mv m4371
 have hd4204 := hd4204.mv m4371
 have hd4263 := hd4263.mv m4371
 have hd4324 := hd4324.mv m4371
 have hd4326 := hd4326.mv m4371
 have hs4367 : Enc.circle.rd w4369 ((b4368 :: (b4335 :: (b4303 :: (b4272 :: (b4242 :: (b4213 :: (b4168 :: (b4141 :: (b4115 :: (b4090 :: (b4060 :: []))))))))))) ++ O) cs4366 (sDead) := Enc.mv Enc.circle (x := sDead) hs4367 m4371
 have bx4071 := bx4071.keep k4372 (by simp)
 have bx4102 := bx4102.keep k4372 (by simp)
 have bx4128 := bx4128.keep k4372 (by simp)
 have bx4155 := bx4155.keep k4372 (by simp)
 have bx4200 := bx4200.keep k4372 (by simp)
 have bx4229 := bx4229.keep k4372 (by simp)
 have bx4259 := bx4259.keep k4372 (by simp)
 have bx4290 := bx4290.keep k4372 (by simp)
 have bx4322 := bx4322.keep k4372 (by simp)
 have bx4355 := bx4355.keep k4372 (by simp)
 obtain ⟨d4390, d4392, rfl, hd4391, hd4393⟩ := hs4367
 have := hd4391.len_le
 have := hd4393.len_le
 refine wl_n (o_store (vs := [vI sDead.epoch, vI sDead.threshold, vI sDead.wait, d4390, d4392]) (.agg #[vI sDead.epoch, vI sDead.threshold, vI sDead.wait, d4390, d4392]) rfl rfl rfl s_25 (fun u hu => by simp only [List.mem_cons, List.not_mem_nil, or_false] at hu; rcases hu with rfl | rfl | rfl | rfl | rfl <;> first | rfl | exact hd4391.oneCell | exact hd4393.oneCell) (by repeat (first | assumption | constructor)) bx4373 (of_decide_eq_true rfl) s4370 fun w4385 s4386 m4387 k4388 bx4389 => (?_))
 have hd4157 := hd4157.mv m4387
 have hd4159 := hd4159.mv m4387
 have hd4204 := hd4204.mv m4387
 have hd4263 := hd4263.mv m4387
 have hd4324 := hd4324.mv m4387
 have hd4326 := hd4326.mv m4387
 have hd4391 := hd4391.mv m4387
 have hd4393 := hd4393.mv m4387
 have bx4071 := bx4071.keep k4388 (nin1 ne4375)
 have bx4102 := bx4102.keep k4388 (nin1 ne4376)
 have bx4128 := bx4128.keep k4388 (nin1 ne4377)
 have bx4155 := bx4155.keep k4388 (nin1 ne4378)
 have bx4200 := bx4200.keep k4388 (nin1 ne4379)
 have bx4229 := bx4229.keep k4388 (nin1 ne4380)
 have bx4259 := bx4259.keep k4388 (nin1 ne4381)
 have bx4290 := bx4290.keep k4388 (nin1 ne4382)
 have bx4322 := bx4322.keep k4388 (nin1 ne4383)
 have bx4355 := bx4355.keep k4388 (nin1 ne4384)
 refine wl_s (o_assign (vI ((gAct sZ (0 : Int) (fVeto (12 : Int))).2)) rfl (wl_nil (thenQ_n (?_))))
 refine cw_seq (?_)
 refine cw_region (by kernel_rfl) (wl_s (o_loadBxA (vs := [vI sDead.epoch, vI sDead.threshold, vI sDead.wait, d4390, d4392]) Try.underlying25 rfl s_25 rfl bx4389 rfl (wl_s (o_callK (vs := [Value.agg #[vI sDead.epoch, vI sDead.threshold, vI sDead.wait, d4390, d4392], vI (0 : Int), vI (99 : Int)]) enter_22 (c_finish (O := (b4368 :: (b4335 :: (b4303 :: (b4272 :: (b4242 :: (b4213 :: (b4168 :: (b4141 :: (b4115 :: (b4090 :: (b4060 :: []))))))))))) ++ O) [vI sDead.epoch, vI sDead.threshold, vI sDead.wait, d4390, d4392] sDead (0 : Int) (99 : Int) w4385 ⟨_, _, rfl, hd4391, hd4393⟩ s4386.lt) rfl s4386 fun v4394 w4395 s4396 m4397 k4398 r4399 => (?_)))))
 obtain ⟨cs4400, rfl, hs4401⟩ := r4399
 have hs4401 : Enc.circle.rd w4395 ((b4368 :: (b4335 :: (b4303 :: (b4272 :: (b4242 :: (b4213 :: (b4168 :: (b4141 :: (b4115 :: (b4090 :: (b4060 :: []))))))))))) ++ O) cs4400 sF4 := hs4401
 have hd4157 := hd4157.mv m4397
 have hd4159 := hd4159.mv m4397
 have hd4204 := hd4204.mv m4397
 have hd4263 := hd4263.mv m4397
 have hd4324 := hd4324.mv m4397
 have hd4326 := hd4326.mv m4397
 have hd4393 := hd4393.mv m4397
 have bx4071 := bx4071.keep k4398 (by simp)
 have bx4102 := bx4102.keep k4398 (by simp)
 have bx4128 := bx4128.keep k4398 (by simp)
 have bx4155 := bx4155.keep k4398 (by simp)
 have bx4200 := bx4200.keep k4398 (by simp)
 have bx4229 := bx4229.keep k4398 (by simp)
 have bx4259 := bx4259.keep k4398 (by simp)
 have bx4290 := bx4290.keep k4398 (by simp)
 have bx4322 := bx4322.keep k4398 (by simp)
 have bx4355 := bx4355.keep k4398 (by simp)
 have bx4389 := bx4389.keep k4398 (by simp)
 refine wl_s (o_move (Value.tuple #[Value.agg cs4400.toArray, vI ((gAct sDead (0 : Int) (fFinish sDead (99 : Int))).2)]) rfl (wl_s (o_extract (Value.agg cs4400.toArray) rfl rfl (wl_s (o_extract (vI ((gAct sDead (0 : Int) (fFinish sDead (99 : Int))).2)) rfl rfl (wl_s (o_alloc [vI (0 : Int), vI (0 : Int), vI (0 : Int), Value.slice none 0 0, Value.slice none 0 0] z_25 rfl s4396 fun b4402 w4403 e4408 s4404 m4405 k4406 bx4407 => (?_))))))))
 have ne4409 : b4060 ≠ b4402 := by have := bx4071.lt; omega
 have ne4410 : b4090 ≠ b4402 := by have := bx4102.lt; omega
 have ne4411 : b4115 ≠ b4402 := by have := bx4128.lt; omega
 have ne4412 : b4141 ≠ b4402 := by have := bx4155.lt; omega
 have ne4413 : b4168 ≠ b4402 := by have := bx4200.lt; omega
 have ne4414 : b4213 ≠ b4402 := by have := bx4229.lt; omega
 have ne4415 : b4242 ≠ b4402 := by have := bx4259.lt; omega
 have ne4416 : b4272 ≠ b4402 := by have := bx4290.lt; omega
 have ne4417 : b4303 ≠ b4402 := by have := bx4322.lt; omega
 have ne4418 : b4335 ≠ b4402 := by have := bx4355.lt; omega
 have ne4419 : b4368 ≠ b4402 := by have := bx4389.lt; omega
 clear e4408
 have hd4157 := hd4157.mv m4405
 have hd4159 := hd4159.mv m4405
 have hd4204 := hd4204.mv m4405
 have hd4263 := hd4263.mv m4405
 have hd4324 := hd4324.mv m4405
 have hd4326 := hd4326.mv m4405
 have hd4393 := hd4393.mv m4405
 have hs4401 : Enc.circle.rd w4403 ((b4402 :: (b4368 :: (b4335 :: (b4303 :: (b4272 :: (b4242 :: (b4213 :: (b4168 :: (b4141 :: (b4115 :: (b4090 :: (b4060 :: [])))))))))))) ++ O) cs4400 (sF4) := Enc.mv Enc.circle (x := sF4) hs4401 m4405
 have bx4071 := bx4071.keep k4406 (by simp)
 have bx4102 := bx4102.keep k4406 (by simp)
 have bx4128 := bx4128.keep k4406 (by simp)
 have bx4155 := bx4155.keep k4406 (by simp)
 have bx4200 := bx4200.keep k4406 (by simp)
 have bx4229 := bx4229.keep k4406 (by simp)
 have bx4259 := bx4259.keep k4406 (by simp)
 have bx4290 := bx4290.keep k4406 (by simp)
 have bx4322 := bx4322.keep k4406 (by simp)
 have bx4355 := bx4355.keep k4406 (by simp)
 have bx4389 := bx4389.keep k4406 (by simp)
 obtain ⟨d4425, d4427, rfl, hd4426, hd4428⟩ := hs4401
 have := hd4426.len_le
 have := hd4428.len_le
 refine wl_n (o_store (vs := [vI sF4.epoch, vI sF4.threshold, vI sF4.wait, d4425, d4427]) (.agg #[vI sF4.epoch, vI sF4.threshold, vI sF4.wait, d4425, d4427]) rfl rfl rfl s_25 (fun u hu => by simp only [List.mem_cons, List.not_mem_nil, or_false] at hu; rcases hu with rfl | rfl | rfl | rfl | rfl <;> first | rfl | exact hd4426.oneCell | exact hd4428.oneCell) (by repeat (first | assumption | constructor)) bx4407 (of_decide_eq_true rfl) s4404 fun w4420 s4421 m4422 k4423 bx4424 => (?_))
 have hd4157 := hd4157.mv m4422
 have hd4159 := hd4159.mv m4422
 have hd4204 := hd4204.mv m4422
 have hd4263 := hd4263.mv m4422
 have hd4324 := hd4324.mv m4422
 have hd4326 := hd4326.mv m4422
 have hd4393 := hd4393.mv m4422
 have bx4071 := bx4071.keep k4423 (nin1 ne4409)
 have bx4102 := bx4102.keep k4423 (nin1 ne4410)
 have bx4128 := bx4128.keep k4423 (nin1 ne4411)
 have bx4155 := bx4155.keep k4423 (nin1 ne4412)
 have bx4200 := bx4200.keep k4423 (nin1 ne4413)
 have bx4229 := bx4229.keep k4423 (nin1 ne4414)
 have bx4259 := bx4259.keep k4423 (nin1 ne4415)
 have bx4290 := bx4290.keep k4423 (nin1 ne4416)
 have bx4322 := bx4322.keep k4423 (nin1 ne4417)
 have bx4355 := bx4355.keep k4423 (nin1 ne4418)
 have bx4389 := bx4389.keep k4423 (nin1 ne4419)
 refine wl_s (o_assign (vI ((gAct sDead (0 : Int) (fFinish sDead (99 : Int))).2)) rfl (wl_nil (thenQ_n (?_))))
 refine cw_seq (?_)
 refine cw_region (by kernel_rfl) (wl_s (o_loadBxA (vs := [vI sX.epoch, vI sX.threshold, vI sX.wait, d4156, d4158]) Try.underlying25 rfl s_25 rfl bx4155 rfl (wl_s (o_callK (vs := [Value.agg #[vI sX.epoch, vI sX.threshold, vI sX.wait, d4156, d4158], vI (0 : Int), vI (4 : Int)]) enter_18 (c_approve (O := (b4402 :: (b4368 :: (b4335 :: (b4303 :: (b4272 :: (b4242 :: (b4213 :: (b4168 :: (b4141 :: (b4115 :: (b4090 :: (b4060 :: [])))))))))))) ++ O) [vI sX.epoch, vI sX.threshold, vI sX.wait, d4156, d4158] sX (0 : Int) (4 : Int) w4420 ⟨_, _, rfl, hd4157, hd4159⟩ s4421.lt) rfl s4421 fun v4429 w4430 s4431 m4432 k4433 r4434 => (?_)))))
 obtain ⟨cs4435, rfl, hs4436⟩ := r4434
 have hs4436 : Enc.circle.rd w4430 ((b4402 :: (b4368 :: (b4335 :: (b4303 :: (b4272 :: (b4242 :: (b4213 :: (b4168 :: (b4141 :: (b4115 :: (b4090 :: (b4060 :: [])))))))))))) ++ O) cs4435 sF5 := hs4436
 have hd4157 := hd4157.mv m4432
 have hd4159 := hd4159.mv m4432
 have hd4204 := hd4204.mv m4432
 have hd4263 := hd4263.mv m4432
 have hd4324 := hd4324.mv m4432
 have hd4326 := hd4326.mv m4432
 have hd4393 := hd4393.mv m4432
 have bx4071 := bx4071.keep k4433 (by simp)
 have bx4102 := bx4102.keep k4433 (by simp)
 have bx4128 := bx4128.keep k4433 (by simp)
 have bx4155 := bx4155.keep k4433 (by simp)
 have bx4200 := bx4200.keep k4433 (by simp)
 have bx4229 := bx4229.keep k4433 (by simp)
 have bx4259 := bx4259.keep k4433 (by simp)
 have bx4290 := bx4290.keep k4433 (by simp)
 have bx4322 := bx4322.keep k4433 (by simp)
 have bx4355 := bx4355.keep k4433 (by simp)
 have bx4389 := bx4389.keep k4433 (by simp)
 have bx4424 := bx4424.keep k4433 (by simp)
 refine wl_s (o_move (Value.tuple #[Value.agg cs4435.toArray, vI ((gAct sX (0 : Int) (fApprove sX (4 : Int))).2)]) rfl (wl_s (o_extract (Value.agg cs4435.toArray) rfl rfl (wl_s (o_extract (vI ((gAct sX (0 : Int) (fApprove sX (4 : Int))).2)) rfl rfl (wl_s (o_alloc [vI (0 : Int), vI (0 : Int), vI (0 : Int), Value.slice none 0 0, Value.slice none 0 0] z_25 rfl s4431 fun b4437 w4438 e4443 s4439 m4440 k4441 bx4442 => (?_))))))))
 have ne4444 : b4060 ≠ b4437 := by have := bx4071.lt; omega
 have ne4445 : b4090 ≠ b4437 := by have := bx4102.lt; omega
 have ne4446 : b4115 ≠ b4437 := by have := bx4128.lt; omega
 have ne4447 : b4141 ≠ b4437 := by have := bx4155.lt; omega
 have ne4448 : b4168 ≠ b4437 := by have := bx4200.lt; omega
 have ne4449 : b4213 ≠ b4437 := by have := bx4229.lt; omega
 have ne4450 : b4242 ≠ b4437 := by have := bx4259.lt; omega
 have ne4451 : b4272 ≠ b4437 := by have := bx4290.lt; omega
 have ne4452 : b4303 ≠ b4437 := by have := bx4322.lt; omega
 have ne4453 : b4335 ≠ b4437 := by have := bx4355.lt; omega
 have ne4454 : b4368 ≠ b4437 := by have := bx4389.lt; omega
 have ne4455 : b4402 ≠ b4437 := by have := bx4424.lt; omega
 clear e4443
 have hd4157 := hd4157.mv m4440
 have hd4159 := hd4159.mv m4440
 have hd4204 := hd4204.mv m4440
 have hd4263 := hd4263.mv m4440
 have hd4324 := hd4324.mv m4440
 have hd4326 := hd4326.mv m4440
 have hd4393 := hd4393.mv m4440
 have hs4436 : Enc.circle.rd w4438 ((b4437 :: (b4402 :: (b4368 :: (b4335 :: (b4303 :: (b4272 :: (b4242 :: (b4213 :: (b4168 :: (b4141 :: (b4115 :: (b4090 :: (b4060 :: []))))))))))))) ++ O) cs4435 (sF5) := Enc.mv Enc.circle (x := sF5) hs4436 m4440
 have bx4071 := bx4071.keep k4441 (by simp)
 have bx4102 := bx4102.keep k4441 (by simp)
 have bx4128 := bx4128.keep k4441 (by simp)
 have bx4155 := bx4155.keep k4441 (by simp)
 have bx4200 := bx4200.keep k4441 (by simp)
 have bx4229 := bx4229.keep k4441 (by simp)
 have bx4259 := bx4259.keep k4441 (by simp)
 have bx4290 := bx4290.keep k4441 (by simp)
 have bx4322 := bx4322.keep k4441 (by simp)
 have bx4355 := bx4355.keep k4441 (by simp)
 have bx4389 := bx4389.keep k4441 (by simp)
 have bx4424 := bx4424.keep k4441 (by simp)
 obtain ⟨d4461, d4463, rfl, hd4462, hd4464⟩ := hs4436
 have := hd4462.len_le
 have := hd4464.len_le
 refine wl_n (o_store (vs := [vI sF5.epoch, vI sF5.threshold, vI sF5.wait, d4461, d4463]) (.agg #[vI sF5.epoch, vI sF5.threshold, vI sF5.wait, d4461, d4463]) rfl rfl rfl s_25 (fun u hu => by simp only [List.mem_cons, List.not_mem_nil, or_false] at hu; rcases hu with rfl | rfl | rfl | rfl | rfl <;> first | rfl | exact hd4462.oneCell | exact hd4464.oneCell) (by repeat (first | assumption | constructor)) bx4442 (of_decide_eq_true rfl) s4439 fun w4456 s4457 m4458 k4459 bx4460 => (?_))
 have hd4157 := hd4157.mv m4458
 have hd4159 := hd4159.mv m4458
 have hd4204 := hd4204.mv m4458
 have hd4263 := hd4263.mv m4458
 have hd4324 := hd4324.mv m4458
 have hd4326 := hd4326.mv m4458
 have hd4393 := hd4393.mv m4458
 have bx4071 := bx4071.keep k4459 (nin1 ne4444)
 have bx4102 := bx4102.keep k4459 (nin1 ne4445)
 have bx4128 := bx4128.keep k4459 (nin1 ne4446)
 have bx4155 := bx4155.keep k4459 (nin1 ne4447)
 have bx4200 := bx4200.keep k4459 (nin1 ne4448)
 have bx4229 := bx4229.keep k4459 (nin1 ne4449)
 have bx4259 := bx4259.keep k4459 (nin1 ne4450)
 have bx4290 := bx4290.keep k4459 (nin1 ne4451)
 have bx4322 := bx4322.keep k4459 (nin1 ne4452)
 have bx4355 := bx4355.keep k4459 (nin1 ne4453)
 have bx4389 := bx4389.keep k4459 (nin1 ne4454)
 have bx4424 := bx4424.keep k4459 (nin1 ne4455)
 refine wl_s (o_assign (vI ((gAct sX (0 : Int) (fApprove sX (4 : Int))).2)) rfl (wl_nil (thenQ_n (?_))))
 refine cw_seq (?_)
 refine cw_region (by kernel_rfl) (wl_s (o_loadBxA (vs := [vI sX.epoch, vI sX.threshold, vI sX.wait, d4156, d4158]) Try.underlying25 rfl s_25 rfl bx4155 rfl (wl_s (o_callK (vs := [Value.agg #[vI sX.epoch, vI sX.threshold, vI sX.wait, d4156, d4158], vI (11 : Int)]) enter_13 (c_ask (O := (b4437 :: (b4402 :: (b4368 :: (b4335 :: (b4303 :: (b4272 :: (b4242 :: (b4213 :: (b4168 :: (b4141 :: (b4115 :: (b4090 :: (b4060 :: []))))))))))))) ++ O) [vI sX.epoch, vI sX.threshold, vI sX.wait, d4156, d4158] sX (11 : Int) w4456 ⟨_, _, rfl, hd4157, hd4159⟩ s4457.lt) rfl s4457 fun v4465 w4466 s4467 m4468 k4469 r4470 => (?_)))))
 obtain ⟨cs4471, rfl, hs4472⟩ := r4470
 have hs4472 : Enc.circle.rd w4466 ((b4437 :: (b4402 :: (b4368 :: (b4335 :: (b4303 :: (b4272 :: (b4242 :: (b4213 :: (b4168 :: (b4141 :: (b4115 :: (b4090 :: (b4060 :: []))))))))))))) ++ O) cs4471 sF6 := hs4472
 have hd4204 := hd4204.mv m4468
 have hd4263 := hd4263.mv m4468
 have hd4324 := hd4324.mv m4468
 have hd4326 := hd4326.mv m4468
 have hd4393 := hd4393.mv m4468
 have bx4071 := bx4071.keep k4469 (by simp)
 have bx4102 := bx4102.keep k4469 (by simp)
 have bx4128 := bx4128.keep k4469 (by simp)
 have bx4155 := bx4155.keep k4469 (by simp)
 have bx4200 := bx4200.keep k4469 (by simp)
 have bx4229 := bx4229.keep k4469 (by simp)
 have bx4259 := bx4259.keep k4469 (by simp)
 have bx4290 := bx4290.keep k4469 (by simp)
 have bx4322 := bx4322.keep k4469 (by simp)
 have bx4355 := bx4355.keep k4469 (by simp)
 have bx4389 := bx4389.keep k4469 (by simp)
 have bx4424 := bx4424.keep k4469 (by simp)
 have bx4460 := bx4460.keep k4469 (by simp)
 refine wl_s (o_move (Value.tuple #[Value.agg cs4471.toArray, vI ((gAsk sX (11 : Int)).2.1), vI ((gAsk sX (11 : Int)).2.2)]) rfl (wl_s (o_extract (Value.agg cs4471.toArray) rfl rfl (wl_s (o_extract (vI ((gAsk sX (11 : Int)).2.1)) rfl rfl (wl_s (o_extract (vI ((gAsk sX (11 : Int)).2.2)) rfl rfl (wl_s (o_alloc [vI (0 : Int), vI (0 : Int), vI (0 : Int), Value.slice none 0 0, Value.slice none 0 0] z_25 rfl s4467 fun b4473 w4474 e4479 s4475 m4476 k4477 bx4478 => (?_))))))))))
 have ne4480 : b4060 ≠ b4473 := by have := bx4071.lt; omega
 have ne4481 : b4090 ≠ b4473 := by have := bx4102.lt; omega
 have ne4482 : b4115 ≠ b4473 := by have := bx4128.lt; omega
 have ne4483 : b4141 ≠ b4473 := by have := bx4155.lt; omega
 have ne4484 : b4168 ≠ b4473 := by have := bx4200.lt; omega
 have ne4485 : b4213 ≠ b4473 := by have := bx4229.lt; omega
 have ne4486 : b4242 ≠ b4473 := by have := bx4259.lt; omega
 have ne4487 : b4272 ≠ b4473 := by have := bx4290.lt; omega
 have ne4488 : b4303 ≠ b4473 := by have := bx4322.lt; omega
 have ne4489 : b4335 ≠ b4473 := by have := bx4355.lt; omega
 have ne4490 : b4368 ≠ b4473 := by have := bx4389.lt; omega
 have ne4491 : b4402 ≠ b4473 := by have := bx4424.lt; omega
 have ne4492 : b4437 ≠ b4473 := by have := bx4460.lt; omega
 clear e4479
 have hd4204 := hd4204.mv m4476
 have hd4263 := hd4263.mv m4476
 have hd4324 := hd4324.mv m4476
 have hd4326 := hd4326.mv m4476
 have hd4393 := hd4393.mv m4476
 have hs4472 : Enc.circle.rd w4474 ((b4473 :: (b4437 :: (b4402 :: (b4368 :: (b4335 :: (b4303 :: (b4272 :: (b4242 :: (b4213 :: (b4168 :: (b4141 :: (b4115 :: (b4090 :: (b4060 :: [])))))))))))))) ++ O) cs4471 (sF6) := Enc.mv Enc.circle (x := sF6) hs4472 m4476
 have bx4200 := bx4200.keep k4477 (by simp)
 have bx4259 := bx4259.keep k4477 (by simp)
 have bx4322 := bx4322.keep k4477 (by simp)
 have bx4389 := bx4389.keep k4477 (by simp)
 obtain ⟨d4498, d4500, rfl, hd4499, hd4501⟩ := hs4472
 have := hd4499.len_le
 have := hd4501.len_le
 refine wl_n (o_store (vs := [vI sF6.epoch, vI sF6.threshold, vI sF6.wait, d4498, d4500]) (.agg #[vI sF6.epoch, vI sF6.threshold, vI sF6.wait, d4498, d4500]) rfl rfl rfl s_25 (fun u hu => by simp only [List.mem_cons, List.not_mem_nil, or_false] at hu; rcases hu with rfl | rfl | rfl | rfl | rfl <;> first | rfl | exact hd4499.oneCell | exact hd4501.oneCell) (by repeat (first | assumption | constructor)) bx4478 (of_decide_eq_true rfl) s4475 fun w4493 s4494 m4495 k4496 bx4497 => (?_))
 have hd4204 := hd4204.mv m4495
 have hd4263 := hd4263.mv m4495
 have hd4324 := hd4324.mv m4495
 have hd4326 := hd4326.mv m4495
 have hd4393 := hd4393.mv m4495
 have bx4200 := bx4200.keep k4496 (nin1 ne4484)
 have bx4259 := bx4259.keep k4496 (nin1 ne4486)
 have bx4322 := bx4322.keep k4496 (nin1 ne4488)
 have bx4389 := bx4389.keep k4496 (nin1 ne4490)
 refine wl_s (o_assign (vI ((gAsk sX (11 : Int)).2.1)) rfl (wl_s (o_assign (vI ((gAsk sX (11 : Int)).2.2)) rfl (wl_nil (thenQ_n (?_))))))
 refine cw_seq (?_)
 refine cw_region (by kernel_rfl) (wl_s (o_move (vI ((gNew ([(3 : Int), (5 : Int), (8 : Int)]) (2 : Int) (7 : Int)).2)) rfl (wl_s (o_eql .i64 ((gNew ([(3 : Int), (5 : Int), (8 : Int)]) (2 : Int) (7 : Int)).2) (0 : Int) rfl rfl (wl_s (o_move (Value.bool (((gNew ([(3 : Int), (5 : Int), (8 : Int)]) (2 : Int) (7 : Int)).2) == (0 : Int))) rfl (?_)))))))
 have hb4502 : (((gNew ([(3 : Int), (5 : Int), (8 : Int)]) (2 : Int) (7 : Int)).2) == (0 : Int)) = true := (by decide +kernel)
 rw [hb4502]
 refine wl_t rfl (o_move (vI ((gNew ([(3 : Int), (5 : Int)]) (3 : Int) (7 : Int)).2)) rfl (wl_t rfl (o_eql .i64 ((gNew ([(3 : Int), (5 : Int)]) (3 : Int) (7 : Int)).2) (450 : Int) rfl rfl (wl_s (o_pickT (Value.bool (((gNew ([(3 : Int), (5 : Int)]) (3 : Int) (7 : Int)).2) == (450 : Int))) rfl rfl (wl_s (o_move (Value.bool (((gNew ([(3 : Int), (5 : Int)]) (3 : Int) (7 : Int)).2) == (450 : Int))) rfl (?_))))))))
 have hb4503 : (((gNew ([(3 : Int), (5 : Int)]) (3 : Int) (7 : Int)).2) == (450 : Int)) = true := (by decide +kernel)
 rw [hb4503]
 refine wl_t rfl (o_move (vI ((gAct sC (0 : Int) (fApprove sC (3 : Int))).2)) rfl (wl_t rfl (o_eql .i64 ((gAct sC (0 : Int) (fApprove sC (3 : Int))).2) (1 : Int) rfl rfl (wl_s (o_pickT (Value.bool (((gAct sC (0 : Int) (fApprove sC (3 : Int))).2) == (1 : Int))) rfl rfl (wl_s (o_move (Value.bool (((gAct sC (0 : Int) (fApprove sC (3 : Int))).2) == (1 : Int))) rfl (?_))))))))
 have hb4504 : (((gAct sC (0 : Int) (fApprove sC (3 : Int))).2) == (1 : Int)) = true := (by decide +kernel)
 rw [hb4504]
 refine wl_t rfl (o_move (vI ((gAsk sC (10 : Int)).2.2)) rfl (wl_t rfl (o_eql .i64 ((gAsk sC (10 : Int)).2.2) (0 : Int) rfl rfl (wl_s (o_pickT (Value.bool (((gAsk sC (10 : Int)).2.2) == (0 : Int))) rfl rfl (wl_s (o_move (Value.bool (((gAsk sC (10 : Int)).2.2) == (0 : Int))) rfl (?_))))))))
 have hb4505 : (((gAsk sC (10 : Int)).2.2) == (0 : Int)) = true := (by decide +kernel)
 rw [hb4505]
 refine wl_t rfl (o_move (vI ((gAct sX (0 : Int) (fApprove sX (5 : Int))).2)) rfl (wl_t rfl (o_eql .i64 ((gAct sX (0 : Int) (fApprove sX (5 : Int))).2) (0 : Int) rfl rfl (wl_s (o_pickT (Value.bool (((gAct sX (0 : Int) (fApprove sX (5 : Int))).2) == (0 : Int))) rfl rfl (wl_s (o_move (Value.bool (((gAct sX (0 : Int) (fApprove sX (5 : Int))).2) == (0 : Int))) rfl (?_))))))))
 have hb4506 : (((gAct sX (0 : Int) (fApprove sX (5 : Int))).2) == (0 : Int)) = true := (by decide +kernel)
 rw [hb4506]
 refine wl_t rfl (o_move (vI ((gAct sY (0 : Int) (fApprove sY (5 : Int))).2)) rfl (wl_t rfl (o_eql .i64 ((gAct sY (0 : Int) (fApprove sY (5 : Int))).2) (0 : Int) rfl rfl (wl_s (o_pickT (Value.bool (((gAct sY (0 : Int) (fApprove sY (5 : Int))).2) == (0 : Int))) rfl rfl (wl_s (o_move (Value.bool (((gAct sY (0 : Int) (fApprove sY (5 : Int))).2) == (0 : Int))) rfl (?_))))))))
 have hb4507 : (((gAct sY (0 : Int) (fApprove sY (5 : Int))).2) == (0 : Int)) = true := (by decide +kernel)
 rw [hb4507]
 refine wl_t rfl (o_move (vI ((gAct sY2 (0 : Int) (fFinish sY2 (17 : Int))).2)) rfl (wl_t rfl (o_eql .i64 ((gAct sY2 (0 : Int) (fFinish sY2 (17 : Int))).2) (450 : Int) rfl rfl (wl_s (o_pickT (Value.bool (((gAct sY2 (0 : Int) (fFinish sY2 (17 : Int))).2) == (450 : Int))) rfl rfl (wl_s (o_move (Value.bool (((gAct sY2 (0 : Int) (fFinish sY2 (17 : Int))).2) == (450 : Int))) rfl (?_))))))))
 have hb4508 : (((gAct sY2 (0 : Int) (fFinish sY2 (17 : Int))).2) == (450 : Int)) = true := (by decide +kernel)
 rw [hb4508]
 refine wl_t rfl (o_move (vI ((gAct sY2 (0 : Int) (fApprove sY2 (3 : Int))).2)) rfl (wl_t rfl (o_eql .i64 ((gAct sY2 (0 : Int) (fApprove sY2 (3 : Int))).2) (0 : Int) rfl rfl (wl_s (o_pickT (Value.bool (((gAct sY2 (0 : Int) (fApprove sY2 (3 : Int))).2) == (0 : Int))) rfl rfl (wl_s (o_move (Value.bool (((gAct sY2 (0 : Int) (fApprove sY2 (3 : Int))).2) == (0 : Int))) rfl (?_))))))))
 have hb4509 : (((gAct sY2 (0 : Int) (fApprove sY2 (3 : Int))).2) == (0 : Int)) = true := (by decide +kernel)
 rw [hb4509]
 refine wl_t rfl (o_move (vI ((gAct sZ (0 : Int) (fFinish sZ (16 : Int))).2)) rfl (wl_t rfl (o_eql .i64 ((gAct sZ (0 : Int) (fFinish sZ (16 : Int))).2) (451 : Int) rfl rfl (wl_s (o_pickT (Value.bool (((gAct sZ (0 : Int) (fFinish sZ (16 : Int))).2) == (451 : Int))) rfl rfl (wl_s (o_move (Value.bool (((gAct sZ (0 : Int) (fFinish sZ (16 : Int))).2) == (451 : Int))) rfl (?_))))))))
 have hb4510 : (((gAct sZ (0 : Int) (fFinish sZ (16 : Int))).2) == (451 : Int)) = true := (by decide +kernel)
 rw [hb4510]
 refine wl_t rfl (o_move (vI ((gAct sZ (0 : Int) (fFinish sZ (17 : Int))).2)) rfl (wl_t rfl (o_eql .i64 ((gAct sZ (0 : Int) (fFinish sZ (17 : Int))).2) (0 : Int) rfl rfl (wl_s (o_pickT (Value.bool (((gAct sZ (0 : Int) (fFinish sZ (17 : Int))).2) == (0 : Int))) rfl rfl (wl_s (o_move (Value.bool (((gAct sZ (0 : Int) (fFinish sZ (17 : Int))).2) == (0 : Int))) rfl (?_))))))))
 have hb4511 : (((gAct sZ (0 : Int) (fFinish sZ (17 : Int))).2) == (0 : Int)) = true := (by decide +kernel)
 rw [hb4511]
 refine wl_t rfl (o_move (vI ((gAct sDone (0 : Int) (fVeto (18 : Int))).2)) rfl (wl_t rfl (o_eql .i64 ((gAct sDone (0 : Int) (fVeto (18 : Int))).2) (1 : Int) rfl rfl (wl_s (o_pickT (Value.bool (((gAct sDone (0 : Int) (fVeto (18 : Int))).2) == (1 : Int))) rfl rfl (wl_s (o_move (Value.bool (((gAct sDone (0 : Int) (fVeto (18 : Int))).2) == (1 : Int))) rfl (?_))))))))
 have hb4512 : (((gAct sDone (0 : Int) (fVeto (18 : Int))).2) == (1 : Int)) = true := (by decide +kernel)
 rw [hb4512]
 refine wl_t rfl (o_move (vI ((gAct sZ (0 : Int) (fVeto (12 : Int))).2)) rfl (wl_t rfl (o_eql .i64 ((gAct sZ (0 : Int) (fVeto (12 : Int))).2) (0 : Int) rfl rfl (wl_s (o_pickT (Value.bool (((gAct sZ (0 : Int) (fVeto (12 : Int))).2) == (0 : Int))) rfl rfl (wl_s (o_move (Value.bool (((gAct sZ (0 : Int) (fVeto (12 : Int))).2) == (0 : Int))) rfl (?_))))))))
 have hb4513 : (((gAct sZ (0 : Int) (fVeto (12 : Int))).2) == (0 : Int)) = true := (by decide +kernel)
 rw [hb4513]
 refine wl_t rfl (o_move (vI ((gAct sDead (0 : Int) (fFinish sDead (99 : Int))).2)) rfl (wl_t rfl (o_eql .i64 ((gAct sDead (0 : Int) (fFinish sDead (99 : Int))).2) (452 : Int) rfl rfl (wl_s (o_pickT (Value.bool (((gAct sDead (0 : Int) (fFinish sDead (99 : Int))).2) == (452 : Int))) rfl rfl (wl_s (o_move (Value.bool (((gAct sDead (0 : Int) (fFinish sDead (99 : Int))).2) == (452 : Int))) rfl (?_))))))))
 have hb4514 : (((gAct sDead (0 : Int) (fFinish sDead (99 : Int))).2) == (452 : Int)) = true := (by decide +kernel)
 rw [hb4514]
 refine wl_t rfl (o_move (vI ((gAct sX (0 : Int) (fApprove sX (4 : Int))).2)) rfl (wl_t rfl (o_eql .i64 ((gAct sX (0 : Int) (fApprove sX (4 : Int))).2) (450 : Int) rfl rfl (wl_s (o_pickT (Value.bool (((gAct sX (0 : Int) (fApprove sX (4 : Int))).2) == (450 : Int))) rfl rfl (wl_s (o_move (Value.bool (((gAct sX (0 : Int) (fApprove sX (4 : Int))).2) == (450 : Int))) rfl (?_))))))))
 have hb4515 : (((gAct sX (0 : Int) (fApprove sX (4 : Int))).2) == (450 : Int)) = true := (by decide +kernel)
 rw [hb4515]
 refine wl_t rfl (o_move (vI ((gAsk sX (11 : Int)).2.2)) rfl (wl_t rfl (o_eql .i64 ((gAsk sX (11 : Int)).2.2) (451 : Int) rfl rfl (wl_s (o_pickT (Value.bool (((gAsk sX (11 : Int)).2.2) == (451 : Int))) rfl rfl (wl_s (o_assign (Value.bool (((gAsk sX (11 : Int)).2.2) == (451 : Int))) rfl (wl_nil (thenQ_n (?_))))))))))
 refine cw_seq (?_)
 refine cw_seq (?_)
 refine cw_region (by kernel_rfl) (wl_s (o_move (Value.bool (((gAsk sX (11 : Int)).2.2) == (451 : Int))) rfl (wl_s (o_not (((gAsk sX (11 : Int)).2.2) == (451 : Int)) rfl (wl_s (o_move (Value.bool (!(((gAsk sX (11 : Int)).2.2) == (451 : Int)))) rfl (?_)))))))
 have hb4516 : (!(((gAsk sX (11 : Int)).2.2) == (451 : Int))) = false := (by rw [show (((gAsk sX (11 : Int)).2.2) == (451 : Int)) = true from (by decide +kernel)]; rfl)
 rw [hb4516]
 refine wl_t rfl (o_fieldL 4 f_25_4 rfl (wl_t rfl (o_loadBx Try.underlying23 rfl (d4203) rfl bx4200 rfl (wl_t rfl (o_lenR Try.underlying23 rfl hd4204 (wl_t rfl (o_neq .i64 (sY2.recs.length : Int) (1 : Int) rfl rfl (wl_s (o_pickF (Value.bool ((sY2.recs.length : Int) != (1 : Int))) rfl rfl (wl_s (o_move (Value.bool ((sY2.recs.length : Int) != (1 : Int))) rfl (?_))))))))))))
 have hb4517 : ((sY2.recs.length : Int) != (1 : Int)) = false := (by decide +kernel)
 rw [hb4517]
 refine wl_t rfl (o_fieldL 4 f_25_4 rfl (wl_t rfl (o_loadBx Try.underlying23 rfl (d4262) rfl bx4259 rfl (wl_t rfl (o_lenR Try.underlying23 rfl hd4263 (wl_t rfl (o_neq .i64 (sZ.recs.length : Int) (1 : Int) rfl rfl (wl_s (o_pickF (Value.bool ((sZ.recs.length : Int) != (1 : Int))) rfl rfl (wl_s (o_move (Value.bool ((sZ.recs.length : Int) != (1 : Int))) rfl (?_))))))))))))
 have hb4518 : ((sZ.recs.length : Int) != (1 : Int)) = false := (by decide +kernel)
 rw [hb4518]
 refine wl_t rfl (o_fieldL 4 f_25_4 rfl (wl_t rfl (o_loadBx Try.underlying23 rfl (d4325) rfl bx4322 rfl (wl_t rfl (o_lenR Try.underlying23 rfl hd4326 (wl_t rfl (o_neq .i64 (sDone.recs.length : Int) (1 : Int) rfl rfl (wl_s (o_pickF (Value.bool ((sDone.recs.length : Int) != (1 : Int))) rfl rfl (wl_s (o_move (Value.bool ((sDone.recs.length : Int) != (1 : Int))) rfl (?_))))))))))))
 have hb4519 : ((sDone.recs.length : Int) != (1 : Int)) = false := (by decide +kernel)
 rw [hb4519]
 refine wl_t rfl (o_fieldL 4 f_25_4 rfl (wl_t rfl (o_loadBx Try.underlying23 rfl (d4392) rfl bx4389 rfl (wl_t rfl (o_lenR Try.underlying23 rfl hd4393 (wl_t rfl (o_neq .i64 (sDead.recs.length : Int) (1 : Int) rfl rfl (wl_s (o_pickF (Value.bool ((sDead.recs.length : Int) != (1 : Int))) rfl rfl (wl_nil (thenQ_n (?_))))))))))))
 have hb4520 : ((sDead.recs.length : Int) != (1 : Int)) = false := (by decide +kernel)
 rw [hb4520]
 refine cw_cond false rfl rfl (fun h => by cases h) (fun _ => ?_)
 refine cw_skip (thenQ_n (?_))
 refine cw_seq (?_)
 refine cw_region (by kernel_rfl) (wl_s (o_move (vI ((gAsk sC (10 : Int)).2.1)) rfl (wl_s (o_eql .i64 ((gAsk sC (10 : Int)).2.1) (0 : Int) rfl rfl (wl_s (o_move (Value.bool (((gAsk sC (10 : Int)).2.1) == (0 : Int))) rfl (?_)))))))
 have hb4521 : (((gAsk sC (10 : Int)).2.1) == (0 : Int)) = true := (by decide +kernel)
 rw [hb4521]
 refine wl_t rfl (o_fieldL 4 f_25_4 rfl (wl_t rfl (o_loadBx Try.underlying23 rfl (d4203) rfl bx4200 rfl (wl_t rfl (o_idx Try.underlying23 s_47 .i64 (0 : Int) 0 rfl rfl rfl hd4204 (by decide +kernel) fun a4522 hp4523 => (wl_t rfl (o_fieldR 3 f_47_3 ((sY2.recs[0]!).approved) rfl hp4523 (fun _ _ _ h => Enc_recovery_f3 h) fun a4524 hp4525 => (wl_t rfl (o_loadL Try.underlying22 rfl rfl hp4525 fun v4526 hl4527 => (?_))))))))))
 have := hl4527.len_le
 refine wl_t rfl (o_lit (E := Enc.int) (xs := [.const (vI (5 : Int))]) Try.underlying22 s_3 z_3 (by decide) [vI (5 : Int)] [[vI (5 : Int)]] [(5 : Int)] rfl rfl rfl (Parts.cons rfl rfl (Parts.nil _ _ _)) (of_decide_eq_true rfl) s4494 fun v4532 w4528 s4529 m4530 k4531 hl4533 => (?_))
 have hd4263 := hd4263.mv m4530
 have hd4324 := hd4324.mv m4530
 have hd4326 := hd4326.mv m4530
 have hd4393 := hd4393.mv m4530
 have hl4527 := hl4527.mv m4530
 have bx4259 := bx4259.keep k4531 (by simp)
 have bx4322 := bx4322.keep k4531 (by simp)
 have bx4389 := bx4389.keep k4531 (by simp)
 have := hl4533.len_le
 refine wl_t rfl (o_callK (vs := [v4526, v4532]) enter_28 (c_sameI (O := (b4473 :: (b4437 :: (b4402 :: (b4368 :: (b4335 :: (b4303 :: (b4272 :: (b4242 :: (b4213 :: (b4168 :: (b4141 :: (b4115 :: (b4090 :: (b4060 :: [])))))))))))))) ++ O) v4526 ((sY2.recs[0]!).approved) v4532 ([(5 : Int)]) w4528 hl4527 hl4533 s4529.lt) rfl s4529 fun v4534 w4535 s4536 m4537 k4538 r4539 => (?_))
 obtain rfl := r4539
 have hd4263 := hd4263.mv m4537
 have hd4324 := hd4324.mv m4537
 have hd4326 := hd4326.mv m4537
 have hd4393 := hd4393.mv m4537
 have bx4259 := bx4259.keep k4538 (by simp)
 have bx4322 := bx4322.keep k4538 (by simp)
 have bx4389 := bx4389.keep k4538 (by simp)
 refine wl_s (o_pickT (Value.bool (sameIM ((sY2.recs[0]!).approved) ([(5 : Int)]))) rfl rfl (wl_s (o_move (Value.bool (sameIM ((sY2.recs[0]!).approved) ([(5 : Int)]))) rfl (?_))))
 have hb4540 : (sameIM ((sY2.recs[0]!).approved) ([(5 : Int)])) = true := (by decide +kernel)
 rw [hb4540]
 refine wl_t rfl (o_fieldL 4 f_25_4 rfl (wl_t rfl (o_loadBx Try.underlying23 rfl (d4262) rfl bx4259 rfl (wl_t rfl (o_idx Try.underlying23 s_47 .i64 (0 : Int) 0 rfl rfl rfl hd4263 (by decide +kernel) fun a4541 hp4542 => (wl_t rfl (o_fieldR 3 f_47_3 ((sZ.recs[0]!).approved) rfl hp4542 (fun _ _ _ h => Enc_recovery_f3 h) fun a4543 hp4544 => (wl_t rfl (o_loadL Try.underlying22 rfl rfl hp4544 fun v4545 hl4546 => (?_))))))))))
 have := hl4546.len_le
 refine wl_t rfl (o_lit (E := Enc.int) (xs := [.const (vI (3 : Int)), .const (vI (5 : Int))]) Try.underlying22 s_3 z_3 (by decide) [vI (3 : Int), vI (5 : Int)] [[vI (3 : Int)], [vI (5 : Int)]] [(3 : Int), (5 : Int)] rfl rfl rfl (Parts.cons rfl rfl (Parts.cons rfl rfl (Parts.nil _ _ _))) (of_decide_eq_true rfl) s4536 fun v4551 w4547 s4548 m4549 k4550 hl4552 => (?_))
 have hd4324 := hd4324.mv m4549
 have hd4326 := hd4326.mv m4549
 have hd4393 := hd4393.mv m4549
 have hl4546 := hl4546.mv m4549
 have bx4322 := bx4322.keep k4550 (by simp)
 have bx4389 := bx4389.keep k4550 (by simp)
 have := hl4552.len_le
 refine wl_t rfl (o_callK (vs := [v4545, v4551]) enter_28 (c_sameI (O := (b4473 :: (b4437 :: (b4402 :: (b4368 :: (b4335 :: (b4303 :: (b4272 :: (b4242 :: (b4213 :: (b4168 :: (b4141 :: (b4115 :: (b4090 :: (b4060 :: [])))))))))))))) ++ O) v4545 ((sZ.recs[0]!).approved) v4551 ([(3 : Int), (5 : Int)]) w4547 hl4546 hl4552 s4548.lt) rfl s4548 fun v4553 w4554 s4555 m4556 k4557 r4558 => (?_))
 obtain rfl := r4558
 have hd4324 := hd4324.mv m4556
 have hd4326 := hd4326.mv m4556
 have hd4393 := hd4393.mv m4556
 have bx4322 := bx4322.keep k4557 (by simp)
 have bx4389 := bx4389.keep k4557 (by simp)
 refine wl_s (o_pickT (Value.bool (sameIM ((sZ.recs[0]!).approved) ([(3 : Int), (5 : Int)]))) rfl rfl (wl_s (o_move (Value.bool (sameIM ((sZ.recs[0]!).approved) ([(3 : Int), (5 : Int)]))) rfl (?_))))
 have hb4559 : (sameIM ((sZ.recs[0]!).approved) ([(3 : Int), (5 : Int)])) = true := (by decide +kernel)
 rw [hb4559]
 refine wl_t rfl (o_fieldL 4 f_25_4 rfl (wl_t rfl (o_loadBx Try.underlying23 rfl (d4325) rfl bx4322 rfl (wl_t rfl (o_idx Try.underlying23 s_47 .i64 (0 : Int) 0 rfl rfl rfl hd4326 (by decide +kernel) fun a4560 hp4561 => (wl_t rfl (o_fieldR 2 f_47_2 ((sDone.recs[0]!).state) rfl hp4561 (fun _ _ _ h => Enc_recovery_f2 h) fun a4562 hp4563 => (wl_t rfl (o_loadI Try.underlying3 rfl rfl hp4563 (wl_t rfl (o_eql .i64 ((sDone.recs[0]!).state) (1 : Int) rfl rfl (wl_s (o_pickT (Value.bool (((sDone.recs[0]!).state) == (1 : Int))) rfl rfl (wl_s (o_move (Value.bool (((sDone.recs[0]!).state) == (1 : Int))) rfl (?_))))))))))))))))
 have hb4564 : (((sDone.recs[0]!).state) == (1 : Int)) = true := (by decide +kernel)
 rw [hb4564]
 refine wl_t rfl (o_fieldL 4 f_25_4 rfl (wl_t rfl (o_loadBx Try.underlying23 rfl (d4392) rfl bx4389 rfl (wl_t rfl (o_idx Try.underlying23 s_47 .i64 (0 : Int) 0 rfl rfl rfl hd4393 (by decide +kernel) fun a4565 hp4566 => (wl_t rfl (o_fieldR 2 f_47_2 ((sDead.recs[0]!).state) rfl hp4566 (fun _ _ _ h => Enc_recovery_f2 h) fun a4567 hp4568 => (wl_t rfl (o_loadI Try.underlying3 rfl rfl hp4568 (wl_t rfl (o_eql .i64 ((sDead.recs[0]!).state) (2 : Int) rfl rfl (wl_s (o_pickT (Value.bool (((sDead.recs[0]!).state) == (2 : Int))) rfl rfl (wl_s (o_move (Value.bool (((sDead.recs[0]!).state) == (2 : Int))) rfl (?_))))))))))))))))
 have hb4569 : (((sDead.recs[0]!).state) == (2 : Int)) = true := (by decide +kernel)
 rw [hb4569]
 refine wl_t rfl (o_build (l := []) pl_25 z_25 rfl [] [vI (0 : Int), vI (0 : Int), vI (0 : Int), Value.slice none 0 0, Value.slice none 0 0] rfl rfl (wl_t rfl (o_callK (vs := [Value.agg #[vI (0 : Int), vI (0 : Int), vI (0 : Int), Value.slice none 0 0, Value.slice none 0 0]]) enter_16 (c_check (O := (b4473 :: (b4437 :: (b4402 :: (b4368 :: (b4335 :: (b4303 :: (b4272 :: (b4242 :: (b4213 :: (b4168 :: (b4141 :: (b4115 :: (b4090 :: (b4060 :: [])))))))))))))) ++ O) [vI (0 : Int), vI (0 : Int), vI (0 : Int), Value.slice none 0 0, Value.slice none 0 0] (⟨(0 : Int), (0 : Int), (0 : Int), [], []⟩ : Circle) w4554 ⟨.slice none 0 0, .slice none 0 0, rfl, (RdL.nil _ _ _), (RdL.nil _ _ _)⟩ s4555.lt) rfl s4555 fun v4570 w4571 s4572 m4573 k4574 r4575 => (?_))))
 obtain rfl := r4575
 have hd4324 := hd4324.mv m4573
 have hd4326 := hd4326.mv m4573
 have bx4322 := bx4322.keep k4574 (by simp)
 refine wl_t rfl (o_eql .i64 (gCheck (⟨(0 : Int), (0 : Int), (0 : Int), [], []⟩ : Circle)) (450 : Int) rfl rfl (wl_s (o_pickT (Value.bool ((gCheck (⟨(0 : Int), (0 : Int), (0 : Int), [], []⟩ : Circle)) == (450 : Int))) rfl rfl (wl_s (o_move (Value.bool ((gCheck (⟨(0 : Int), (0 : Int), (0 : Int), [], []⟩ : Circle)) == (450 : Int))) rfl (?_))))))
 have hb4576 : ((gCheck (⟨(0 : Int), (0 : Int), (0 : Int), [], []⟩ : Circle)) == (450 : Int)) = true := (by decide +kernel)
 rw [hb4576]
 refine wl_t rfl (o_loadBxA (vs := [vI sDone.epoch, vI sDone.threshold, vI sDone.wait, d4323, d4325]) Try.underlying25 rfl s_25 rfl bx4322 rfl (wl_t rfl (o_callK (vs := [Value.agg #[vI sDone.epoch, vI sDone.threshold, vI sDone.wait, d4323, d4325]]) enter_16 (c_check (O := (b4473 :: (b4437 :: (b4402 :: (b4368 :: (b4335 :: (b4303 :: (b4272 :: (b4242 :: (b4213 :: (b4168 :: (b4141 :: (b4115 :: (b4090 :: (b4060 :: [])))))))))))))) ++ O) [vI sDone.epoch, vI sDone.threshold, vI sDone.wait, d4323, d4325] sDone w4571 ⟨_, _, rfl, hd4324, hd4326⟩ s4572.lt) rfl s4572 fun v4577 w4578 s4579 m4580 k4581 r4582 => (?_))))
 obtain rfl := r4582
 refine wl_t rfl (o_eql .i64 (gCheck sDone) (0 : Int) rfl rfl (wl_s (o_pickT (Value.bool ((gCheck sDone) == (0 : Int))) rfl rfl (wl_s (o_assign (Value.bool ((gCheck sDone) == (0 : Int))) rfl (wl_nil (thenQ_n (?_))))))))
 refine cw_ret (end_r rfl (res1 rfl rfl rfl) (?_))
 have e : true = ((gCheck sDone) == (0 : Int)) := rfl
 exact ⟨_, rfl, s4579.keep, by rw [e]; exact rfl⟩

end Go.Proofs.Ytpdekmknnpkmgaa
