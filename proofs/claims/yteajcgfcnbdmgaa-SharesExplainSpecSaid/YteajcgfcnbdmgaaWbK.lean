/- Walks, printed by gen.py. -/
import Derived.Test.YteajcgfcnbdmgaaWbJ
set_option linter.unusedSimpArgs false
set_option linter.unusedVariables false
namespace Go.Proofs.Yteajcgfcnbdmgaa
open Go.Fw Go.RowKit

set_option maxHeartbeats 4000000 in
set_option maxRecDepth 100000 in
theorem c_SharesSplitSpec {O : List Nat} (l_v : Value) (l : List Share) (secret_v : Value) (secret : List UInt8) (epoch : Int) (threshold : Int) (many : Int) (coins_v : Value) (coins : List UInt8) (w : World) (h_l : RdL Enc.share w O l_v l) (h_secret : RdL Enc.u8 w O secret_v secret) (h_coins : RdL Enc.u8 w O coins_v coins) (hO : ∀ b ∈ O, b < w.heap.size) : CallsK Try.prog 10 [l_v, secret_v, vI epoch, vI threshold, vI many, coins_v] w (fun v _ => v = .bool (true)) :=  by
 have lim_l := h_l.len_le
 have h_l : RdL Enc.share w ([] ++ O) l_v l := h_l
 have lim_secret := h_secret.len_le
 have h_secret : RdL Enc.u8 w ([] ++ O) secret_v secret := h_secret
 have lim_coins := h_coins.len_le
 have h_coins : RdL Enc.u8 w ([] ++ O) coins_v coins := h_coins
 have s0 : St w O w [] := St.start hO
 refine callsK_of 65 Try.func10 rfl rfl (of_decide_eq_true rfl) (fun F0 => ?_)
 refine cw_seq (?_)
 refine cw_region (by kernel_rfl) (wl_s (o_assign (Value.bool false) rfl (wl_nil (thenQ_n (?_)))))
 refine cw_seq (?_)
 refine cw_seq (?_)
 refine cw_region (by kernel_rfl) (wl_s (o_callK (vs := []) enter_28 (c_sane8 (O := [] ++ O) w s0.lt) rfl s0 fun v4165 w4166 s4167 m4168 k4169 r4170 => (?_)))
 obtain rfl := r4170
 have h_l := h_l.mv m4168
 have h_secret := h_secret.mv m4168
 have h_coins := h_coins.mv m4168
 refine wl_s (o_not true rfl (wl_nil (thenQ_n (?_))))
 refine cw_cond false rfl rfl (fun h => by cases h) (fun _ => ?_)
 refine cw_skip (thenQ_n (?_))
 refine cw_seq (?_)
 refine cw_seq (?_)
 refine cw_region (by kernel_rfl) (wl_s (o_move (l_v) rfl (wl_s (o_callK (vs := [l_v]) enter_29 (c_few8 (O := [] ++ O) l_v l w4166 h_l s4167.lt) rfl s4167 fun v4171 w4172 s4173 m4174 k4175 r4176 => (?_)))))
 obtain rfl := r4176
 have h_l := h_l.mv m4174
 have h_secret := h_secret.mv m4174
 have h_coins := h_coins.mv m4174
 refine wl_s (o_not (fewM l) rfl (wl_s (o_move (Value.bool (!(fewM l))) rfl (?_))))
 cases hb4177 : (!(fewM l))
 ·have hp4178 : (fewM l) = true := by first | simpa using hb4177 | (have e := hb4177; simp at e; omega)
  refine wl_t rfl (o_move (secret_v) rfl (wl_t rfl (o_lenR Try.underlying28 rfl h_secret (wl_t rfl (o_gtr .i64 (secret.length : Int) (70 : Int) rfl rfl (wl_s (o_pickF (Value.bool (decide ((70 : Int) < (secret.length : Int)))) rfl rfl (wl_s (o_move (Value.bool (decide ((70 : Int) < (secret.length : Int)))) rfl (?_))))))))))
  cases hb4179 : (decide ((70 : Int) < (secret.length : Int)))
  ·have hp4180 : (secret.length : Int) ≤ (70 : Int) := by first | simpa using hb4179 | (have e := hb4179; simp at e; omega)
   refine wl_t rfl (o_move (coins_v) rfl (wl_t rfl (o_lenR Try.underlying28 rfl h_coins (wl_t rfl (o_gtr .i64 (coins.length : Int) (600 : Int) rfl rfl (wl_s (o_pickF (Value.bool (decide ((600 : Int) < (coins.length : Int)))) rfl rfl (wl_nil (thenQ_n (?_))))))))))
   refine cw_cond (decide ((600 : Int) < (coins.length : Int))) rfl rfl (fun hc4181 => ?_) (fun hc4181 => ?_)
   ·have hp4182 : (600 : Int) < (coins.length : Int) := by first | simpa using hc4181 | (have e := hc4181; simp at e; omega)
    refine cw_seq (?_)
    refine cw_region (by kernel_rfl) (wl_s (o_assign (Value.bool true) rfl (wl_nil (thenQ_n (?_)))))
    refine cw_ret (thenQ_r (end_r rfl (res1 rfl rfl rfl) (?_)))
    exact ⟨_, rfl, s4173.keep, rfl⟩
   ·have hp4183 : (coins.length : Int) ≤ (600 : Int) := by first | simpa using hc4181 | (have e := hc4181; simp at e; omega)
    refine cw_skip (thenQ_n (?_))
    refine cw_seq (?_)
    refine cw_region (by kernel_rfl) (wl_s (o_move (secret_v) rfl (wl_s (o_move (vI epoch) rfl (wl_s (o_move (vI threshold) rfl (wl_s (o_move (vI many) rfl (wl_s (o_move (coins_v) rfl (wl_s (o_callK (vs := [secret_v, vI epoch, vI threshold, vI many, coins_v]) enter_30 (c_split (O := [] ++ O) secret_v secret epoch threshold many coins_v coins w4172 h_secret h_coins s4173.lt) rfl s4173 fun v4184 w4185 s4186 m4187 k4188 r4189 => (?_)))))))))))))
    obtain ⟨x4190, rfl, hl4191⟩ := r4189
    have := hl4191.len_le
    have h_l := h_l.mv m4187
    have h_secret := h_secret.mv m4187
    have h_coins := h_coins.mv m4187
    refine wl_s (o_move (Value.tuple #[x4190, vI ((splitM secret epoch threshold many coins).2)]) rfl (wl_s (o_extract (x4190) rfl rfl (wl_s (o_extract (vI ((splitM secret epoch threshold many coins).2)) rfl rfl (wl_s (o_assign (x4190) rfl (wl_s (o_assign (vI ((splitM secret epoch threshold many coins).2)) rfl (wl_nil (thenQ_n (?_))))))))))))
    refine cw_seq (?_)
    refine cw_region (by kernel_rfl) (wl_s (o_move (secret_v) rfl (wl_s (o_move (vI epoch) rfl (wl_s (o_move (vI threshold) rfl (wl_s (o_move (vI many) rfl (wl_s (o_move (coins_v) rfl (wl_s (o_callK (vs := [secret_v, vI epoch, vI threshold, vI many, coins_v]) enter_31 (c_refSplit (O := [] ++ O) secret_v secret epoch threshold many coins_v coins w4185 h_secret h_coins s4186.lt) rfl s4186 fun v4192 w4193 s4194 m4195 k4196 r4197 => (?_)))))))))))))
    obtain ⟨x4198, rfl, hl4199⟩ := r4197
    have := hl4199.len_le
    have h_l := h_l.mv m4195
    have hl4191 := hl4191.mv m4195
    refine wl_s (o_move (Value.tuple #[x4198, vI ((refSplitM secret epoch threshold many coins).2)]) rfl (wl_s (o_extract (x4198) rfl rfl (wl_s (o_extract (vI ((refSplitM secret epoch threshold many coins).2)) rfl rfl (wl_s (o_assign (x4198) rfl (wl_s (o_assign (vI ((refSplitM secret epoch threshold many coins).2)) rfl (wl_nil (thenQ_n (?_))))))))))))
    refine cw_seq (?_)
    refine cw_region (by kernel_rfl) (wl_s (o_move (l_v) rfl (wl_s (o_callK (vs := [l_v]) enter_32 (c_check8 (O := [] ++ O) l_v l w4193 h_l s4194.lt) rfl s4194 fun v4200 w4201 s4202 m4203 k4204 r4205 => (?_)))))
    obtain rfl := r4205
    have h_l := h_l.mv m4203
    have hl4191 := hl4191.mv m4203
    have hl4199 := hl4199.mv m4203
    refine wl_s (o_move (l_v) rfl (wl_s (o_callK (vs := [l_v]) enter_33 (c_refCheck8 (O := [] ++ O) l_v l w4201 h_l s4202.lt) rfl s4202 fun v4206 w4207 s4208 m4209 k4210 r4211 => (?_))))
    obtain rfl := r4211
    have hl4191 := hl4191.mv m4209
    have hl4199 := hl4199.mv m4209
    refine wl_s (o_eql .i64 (checkM l) (refCheckM l) rfl rfl (wl_s (o_move (Value.bool ((checkM l) == (refCheckM l))) rfl (?_))))
    have hb4212 : ((checkM l) == (refCheckM l)) = true := (by rw [refCheck_eq]; simp)
    rw [hb4212]
    refine wl_t rfl (o_move (x4190) rfl (wl_t rfl (o_move (x4198) rfl (wl_t rfl (o_callK (vs := [x4190, x4198]) enter_34 (c_same8 (O := [] ++ O) x4190 ((splitM secret epoch threshold many coins).1) x4198 ((refSplitM secret epoch threshold many coins).1) w4207 hl4191 hl4199 s4208.lt) rfl s4208 fun v4213 w4214 s4215 m4216 k4217 r4218 => (?_))))))
    obtain rfl := r4218
    refine wl_s (o_pickT (Value.bool (sameM ((splitM secret epoch threshold many coins).1) ((refSplitM secret epoch threshold many coins).1))) rfl rfl (wl_s (o_move (Value.bool (sameM ((splitM secret epoch threshold many coins).1) ((refSplitM secret epoch threshold many coins).1))) rfl (?_))))
    have hb4219 : (sameM ((splitM secret epoch threshold many coins).1) ((refSplitM secret epoch threshold many coins).1)) = true := ((same_iff _ _).2 (by rw [refSplit_eq]))
    rw [hb4219]
    refine wl_t rfl (o_move (vI ((splitM secret epoch threshold many coins).2)) rfl (wl_t rfl (o_move (vI ((refSplitM secret epoch threshold many coins).2)) rfl (wl_t rfl (o_eql .i64 ((splitM secret epoch threshold many coins).2) ((refSplitM secret epoch threshold many coins).2) rfl rfl (wl_s (o_pickT (Value.bool (((splitM secret epoch threshold many coins).2) == ((refSplitM secret epoch threshold many coins).2))) rfl rfl (wl_s (o_assign (Value.bool (((splitM secret epoch threshold many coins).2) == ((refSplitM secret epoch threshold many coins).2))) rfl (wl_nil (thenQ_n (?_))))))))))))
    refine cw_ret (end_r rfl (res1 rfl rfl rfl) (?_))
    have e : true = (((splitM secret epoch threshold many coins).2) == ((refSplitM secret epoch threshold many coins).2)) := by first | rfl | (rw [refSplit_eq]; simp)
    exact ⟨_, rfl, s4215.keep, by rw [e]; exact rfl⟩
  ·have hp4220 : (70 : Int) < (secret.length : Int) := by first | simpa using hb4179 | (have e := hb4179; simp at e; omega)
   refine wl_k rfl (wl_k rfl (wl_k rfl (wl_s (o_pickT (Value.bool true) rfl rfl (wl_nil (thenQ_n (?_)))))))
   refine cw_cond true rfl rfl (fun _ => ?_) (fun h => by cases h)
   refine cw_seq (?_)
   refine cw_region (by kernel_rfl) (wl_s (o_assign (Value.bool true) rfl (wl_nil (thenQ_n (?_)))))
   refine cw_ret (thenQ_r (end_r rfl (res1 rfl rfl rfl) (?_)))
   exact ⟨_, rfl, s4173.keep, rfl⟩
 ·have hp4221 : (fewM l) = false := by first | simpa using hb4177 | (have e := hb4177; simp at e; omega)
  refine wl_k rfl (wl_k rfl (wl_k rfl (wl_s (o_pickT (Value.bool true) rfl rfl (wl_s (o_move (Value.bool true) rfl (wl_k rfl (wl_k rfl (wl_k rfl (wl_s (o_pickT (Value.bool true) rfl rfl (wl_nil (thenQ_n (?_))))))))))))))
  refine cw_cond true rfl rfl (fun _ => ?_) (fun h => by cases h)
  refine cw_seq (?_)
  refine cw_region (by kernel_rfl) (wl_s (o_assign (Value.bool true) rfl (wl_nil (thenQ_n (?_)))))
  refine cw_ret (thenQ_r (end_r rfl (res1 rfl rfl rfl) (?_)))
  exact ⟨_, rfl, s4173.keep, rfl⟩
set_option maxHeartbeats 4000000 in
set_option maxRecDepth 100000 in
theorem c_SharesJoinSpec {O : List Nat} (l_v : Value) (l : List Share) (w : World) (h_l : RdL Enc.share w O l_v l) (hO : ∀ b ∈ O, b < w.heap.size) : CallsK Try.prog 11 [l_v] w (fun v _ => v = .bool (true)) :=  by
 have lim_l := h_l.len_le
 have h_l : RdL Enc.share w ([] ++ O) l_v l := h_l
 have s0 : St w O w [] := St.start hO
 refine callsK_of 32 Try.func11 rfl rfl (of_decide_eq_true rfl) (fun F0 => ?_)
 refine cw_seq (?_)
 refine cw_region (by kernel_rfl) (wl_s (o_assign (Value.bool false) rfl (wl_nil (thenQ_n (?_)))))
 refine cw_seq (?_)
 refine cw_seq (?_)
 refine cw_region (by kernel_rfl) (wl_s (o_callK (vs := []) enter_28 (c_sane8 (O := [] ++ O) w s0.lt) rfl s0 fun v4222 w4223 s4224 m4225 k4226 r4227 => (?_)))
 obtain rfl := r4227
 have h_l := h_l.mv m4225
 refine wl_s (o_not true rfl (wl_nil (thenQ_n (?_))))
 refine cw_cond false rfl rfl (fun h => by cases h) (fun _ => ?_)
 refine cw_skip (thenQ_n (?_))
 refine cw_seq (?_)
 refine cw_seq (?_)
 refine cw_region (by kernel_rfl) (wl_s (o_move (l_v) rfl (wl_s (o_callK (vs := [l_v]) enter_29 (c_few8 (O := [] ++ O) l_v l w4223 h_l s4224.lt) rfl s4224 fun v4228 w4229 s4230 m4231 k4232 r4233 => (?_)))))
 obtain rfl := r4233
 have h_l := h_l.mv m4231
 refine wl_s (o_not (fewM l) rfl (wl_nil (thenQ_n (?_))))
 refine cw_cond (!(fewM l)) rfl rfl (fun hc4234 => ?_) (fun hc4234 => ?_)
 ·have hp4235 : (fewM l) = false := by first | simpa using hc4234 | (have e := hc4234; simp at e; omega)
  refine cw_seq (?_)
  refine cw_region (by kernel_rfl) (wl_s (o_assign (Value.bool true) rfl (wl_nil (thenQ_n (?_)))))
  refine cw_ret (thenQ_r (end_r rfl (res1 rfl rfl rfl) (?_)))
  exact ⟨_, rfl, s4230.keep, rfl⟩
 ·have hp4236 : (fewM l) = true := by first | simpa using hc4234 | (have e := hc4234; simp at e; omega)
  refine cw_skip (thenQ_n (?_))
  refine cw_seq (?_)
  refine cw_region (by kernel_rfl) (wl_s (o_move (l_v) rfl (wl_s (o_callK (vs := [l_v]) enter_35 (c_join (O := [] ++ O) l_v l w4229 h_l s4230.lt) rfl s4230 fun v4237 w4238 s4239 m4240 k4241 r4242 => (?_)))))
  obtain ⟨x4243, rfl, hl4244⟩ := r4242
  have := hl4244.len_le
  have h_l := h_l.mv m4240
  refine wl_s (o_move (Value.tuple #[x4243, vI ((joinM l).2)]) rfl (wl_s (o_extract (x4243) rfl rfl (wl_s (o_extract (vI ((joinM l).2)) rfl rfl (wl_s (o_assign (x4243) rfl (wl_s (o_assign (vI ((joinM l).2)) rfl (wl_nil (thenQ_n (?_))))))))))))
  refine cw_seq (?_)
  refine cw_region (by kernel_rfl) (wl_s (o_move (l_v) rfl (wl_s (o_callK (vs := [l_v]) enter_36 (c_refJoin (O := [] ++ O) l_v l w4238 h_l s4239.lt) rfl s4239 fun v4245 w4246 s4247 m4248 k4249 r4250 => (?_)))))
  obtain ⟨x4251, rfl, hl4252⟩ := r4250
  have := hl4252.len_le
  have hl4244 := hl4244.mv m4248
  refine wl_s (o_move (Value.tuple #[x4251, vI ((refJoinM l).2)]) rfl (wl_s (o_extract (x4251) rfl rfl (wl_s (o_extract (vI ((refJoinM l).2)) rfl rfl (wl_s (o_assign (x4251) rfl (wl_s (o_assign (vI ((refJoinM l).2)) rfl (wl_nil (thenQ_n (?_))))))))))))
  refine cw_seq (?_)
  refine cw_region (by kernel_rfl) (wl_s (o_move (x4243) rfl (wl_s (o_bytes Try.underlying28 Try.underlying5 Try.underlying9 rfl hl4244 (wl_s (o_move (x4251) rfl (wl_s (o_bytes Try.underlying28 Try.underlying5 Try.underlying9 rfl hl4252 (wl_s (o_eqlS ((joinM l).1) ((refJoinM l).1) rfl rfl (wl_s (o_move (Value.bool (((joinM l).1) == ((refJoinM l).1))) rfl (?_)))))))))))))
  have hb4253 : (((joinM l).1) == ((refJoinM l).1)) = true := (by rw [refJoin_eq]; simp)
  rw [hb4253]
  refine wl_t rfl (o_move (vI ((joinM l).2)) rfl (wl_t rfl (o_move (vI ((refJoinM l).2)) rfl (wl_t rfl (o_eql .i64 ((joinM l).2) ((refJoinM l).2) rfl rfl (wl_s (o_pickT (Value.bool (((joinM l).2) == ((refJoinM l).2))) rfl rfl (wl_s (o_assign (Value.bool (((joinM l).2) == ((refJoinM l).2))) rfl (wl_nil (thenQ_n (?_))))))))))))
  refine cw_ret (end_r rfl (res1 rfl rfl rfl) (?_))
  have e : true = (((joinM l).2) == ((refJoinM l).2)) := by first | rfl | (rw [refJoin_eq]; simp)
  exact ⟨_, rfl, s4247.keep, by rw [e]; exact rfl⟩
set_option maxHeartbeats 4000000 in
set_option maxRecDepth 100000 in
theorem c_SharesExplainSpec {O : List Nat} (l_v : Value) (l : List Share) (secret_v : Value) (secret : List UInt8) (coins_v : Value) (coins : List UInt8) (w : World) (h_l : RdL Enc.share w O l_v l) (h_secret : RdL Enc.u8 w O secret_v secret) (h_coins : RdL Enc.u8 w O coins_v coins) (hO : ∀ b ∈ O, b < w.heap.size) : CallsK Try.prog 12 [l_v, secret_v, coins_v] w (fun v _ => v = .bool (true)) :=  by
 have lim_l := h_l.len_le
 have h_l : RdL Enc.share w ([] ++ O) l_v l := h_l
 have lim_secret := h_secret.len_le
 have h_secret : RdL Enc.u8 w ([] ++ O) secret_v secret := h_secret
 have lim_coins := h_coins.len_le
 have h_coins : RdL Enc.u8 w ([] ++ O) coins_v coins := h_coins
 have s0 : St w O w [] := St.start hO
 refine callsK_of 74 Try.func12 rfl rfl (of_decide_eq_true rfl) (fun F0 => ?_)
 refine cw_seq (?_)
 refine cw_region (by kernel_rfl) (wl_s (o_assign (Value.bool false) rfl (wl_nil (thenQ_n (?_)))))
 refine cw_seq (?_)
 refine cw_seq (?_)
 refine cw_region (by kernel_rfl) (wl_s (o_callK (vs := []) enter_28 (c_sane8 (O := [] ++ O) w s0.lt) rfl s0 fun v4254 w4255 s4256 m4257 k4258 r4259 => (?_)))
 obtain rfl := r4259
 have h_l := h_l.mv m4257
 have h_secret := h_secret.mv m4257
 have h_coins := h_coins.mv m4257
 refine wl_s (o_not true rfl (wl_nil (thenQ_n (?_))))
 refine cw_cond false rfl rfl (fun h => by cases h) (fun _ => ?_)
 refine cw_skip (thenQ_n (?_))
 refine cw_seq (?_)
 refine cw_seq (?_)
 refine cw_region (by kernel_rfl) (wl_s (o_move (l_v) rfl (wl_s (o_callK (vs := [l_v]) enter_29 (c_few8 (O := [] ++ O) l_v l w4255 h_l s4256.lt) rfl s4256 fun v4260 w4261 s4262 m4263 k4264 r4265 => (?_)))))
 obtain rfl := r4265
 have h_l := h_l.mv m4263
 have h_secret := h_secret.mv m4263
 have h_coins := h_coins.mv m4263
 refine wl_s (o_not (fewM l) rfl (wl_s (o_move (Value.bool (!(fewM l))) rfl (?_))))
 cases hb4266 : (!(fewM l))
 ·have hp4267 : (fewM l) = true := by first | simpa using hb4266 | (have e := hb4266; simp at e; omega)
  refine wl_t rfl (o_move (secret_v) rfl (wl_t rfl (o_lenR Try.underlying28 rfl h_secret (wl_t rfl (o_gtr .i64 (secret.length : Int) (70 : Int) rfl rfl (wl_s (o_pickF (Value.bool (decide ((70 : Int) < (secret.length : Int)))) rfl rfl (wl_s (o_move (Value.bool (decide ((70 : Int) < (secret.length : Int)))) rfl (?_))))))))))
  cases hb4268 : (decide ((70 : Int) < (secret.length : Int)))
  ·have hp4269 : (secret.length : Int) ≤ (70 : Int) := by first | simpa using hb4268 | (have e := hb4268; simp at e; omega)
   refine wl_t rfl (o_move (coins_v) rfl (wl_t rfl (o_lenR Try.underlying28 rfl h_coins (wl_t rfl (o_gtr .i64 (coins.length : Int) (600 : Int) rfl rfl (wl_s (o_pickF (Value.bool (decide ((600 : Int) < (coins.length : Int)))) rfl rfl (wl_nil (thenQ_n (?_))))))))))
   refine cw_cond (decide ((600 : Int) < (coins.length : Int))) rfl rfl (fun hc4270 => ?_) (fun hc4270 => ?_)
   ·have hp4271 : (600 : Int) < (coins.length : Int) := by first | simpa using hc4270 | (have e := hc4270; simp at e; omega)
    refine cw_seq (?_)
    refine cw_region (by kernel_rfl) (wl_s (o_assign (Value.bool true) rfl (wl_nil (thenQ_n (?_)))))
    refine cw_ret (thenQ_r (end_r rfl (res1 rfl rfl rfl) (?_)))
    exact ⟨_, rfl, s4262.keep, rfl⟩
   ·have hp4272 : (coins.length : Int) ≤ (600 : Int) := by first | simpa using hc4270 | (have e := hc4270; simp at e; omega)
    refine cw_skip (thenQ_n (?_))
    refine cw_seq (?_)
    refine cw_region (by kernel_rfl) (wl_s (o_move (l_v) rfl (wl_s (o_move (secret_v) rfl (wl_s (o_callK (vs := [l_v, secret_v]) enter_37 (c_explain (O := [] ++ O) l_v l secret_v secret w4261 h_l h_secret s4262.lt) rfl s4262 fun v4273 w4274 s4275 m4276 k4277 r4278 => (?_)))))))
    obtain ⟨x4279, rfl, hl4280⟩ := r4278
    have := hl4280.len_le
    have h_l := h_l.mv m4276
    have h_secret := h_secret.mv m4276
    have h_coins := h_coins.mv m4276
    refine wl_s (o_move (Value.tuple #[x4279, vI ((explainM l secret).2)]) rfl (wl_s (o_extract (x4279) rfl rfl (wl_s (o_extract (vI ((explainM l secret).2)) rfl rfl (wl_s (o_assign (x4279) rfl (wl_s (o_assign (vI ((explainM l secret).2)) rfl (wl_nil (thenQ_n (?_))))))))))))
    refine cw_seq (?_)
    refine cw_region (by kernel_rfl) (wl_s (o_move (l_v) rfl (wl_s (o_move (secret_v) rfl (wl_s (o_callK (vs := [l_v, secret_v]) enter_38 (c_refExplain (O := [] ++ O) l_v l secret_v secret w4274 h_l h_secret s4275.lt) rfl s4275 fun v4281 w4282 s4283 m4284 k4285 r4286 => (?_)))))))
    obtain ⟨x4287, rfl, hl4288⟩ := r4286
    have := hl4288.len_le
    have h_l := h_l.mv m4284
    have h_coins := h_coins.mv m4284
    have hl4280 := hl4280.mv m4284
    refine wl_s (o_move (Value.tuple #[x4287, vI ((refExplainM l secret).2)]) rfl (wl_s (o_extract (x4287) rfl rfl (wl_s (o_extract (vI ((refExplainM l secret).2)) rfl rfl (wl_s (o_assign (x4287) rfl (wl_s (o_assign (vI ((refExplainM l secret).2)) rfl (wl_nil (thenQ_n (?_))))))))))))
    refine cw_seq (?_)
    refine cw_region (by kernel_rfl) (wl_s (o_move (l_v) rfl (wl_s (o_move (coins_v) rfl (wl_s (o_callK (vs := [l_v, coins_v]) enter_39 (c_refresh (O := [] ++ O) l_v l coins_v coins w4282 h_l h_coins s4283.lt) rfl s4283 fun v4289 w4290 s4291 m4292 k4293 r4294 => (?_)))))))
    obtain ⟨x4295, rfl, hl4296⟩ := r4294
    have := hl4296.len_le
    have h_l := h_l.mv m4292
    have h_coins := h_coins.mv m4292
    have hl4280 := hl4280.mv m4292
    have hl4288 := hl4288.mv m4292
    refine wl_s (o_move (Value.tuple #[x4295, vI ((refreshM l coins).2)]) rfl (wl_s (o_extract (x4295) rfl rfl (wl_s (o_extract (vI ((refreshM l coins).2)) rfl rfl (wl_s (o_assign (x4295) rfl (wl_s (o_assign (vI ((refreshM l coins).2)) rfl (wl_nil (thenQ_n (?_))))))))))))
    refine cw_seq (?_)
    refine cw_region (by kernel_rfl) (wl_s (o_move (l_v) rfl (wl_s (o_move (coins_v) rfl (wl_s (o_callK (vs := [l_v, coins_v]) enter_40 (c_refRefresh (O := [] ++ O) l_v l coins_v coins w4290 h_l h_coins s4291.lt) rfl s4291 fun v4297 w4298 s4299 m4300 k4301 r4302 => (?_)))))))
    obtain ⟨x4303, rfl, hl4304⟩ := r4302
    have := hl4304.len_le
    have hl4280 := hl4280.mv m4300
    have hl4288 := hl4288.mv m4300
    have hl4296 := hl4296.mv m4300
    refine wl_s (o_move (Value.tuple #[x4303, vI ((refRefreshM l coins).2)]) rfl (wl_s (o_extract (x4303) rfl rfl (wl_s (o_extract (vI ((refRefreshM l coins).2)) rfl rfl (wl_s (o_assign (x4303) rfl (wl_s (o_assign (vI ((refRefreshM l coins).2)) rfl (wl_nil (thenQ_n (?_))))))))))))
    refine cw_seq (?_)
    refine cw_region (by kernel_rfl) (wl_s (o_move (x4279) rfl (wl_s (o_bytes Try.underlying28 Try.underlying5 Try.underlying9 rfl hl4280 (wl_s (o_move (x4287) rfl (wl_s (o_bytes Try.underlying28 Try.underlying5 Try.underlying9 rfl hl4288 (wl_s (o_eqlS ((explainM l secret).1) ((refExplainM l secret).1) rfl rfl (wl_s (o_move (Value.bool (((explainM l secret).1) == ((refExplainM l secret).1))) rfl (?_)))))))))))))
    have hb4305 : (((explainM l secret).1) == ((refExplainM l secret).1)) = true := (by rw [refExplain_eq]; simp)
    rw [hb4305]
    refine wl_t rfl (o_move (vI ((explainM l secret).2)) rfl (wl_t rfl (o_move (vI ((refExplainM l secret).2)) rfl (wl_t rfl (o_eql .i64 ((explainM l secret).2) ((refExplainM l secret).2) rfl rfl (wl_s (o_pickT (Value.bool (((explainM l secret).2) == ((refExplainM l secret).2))) rfl rfl (wl_s (o_move (Value.bool (((explainM l secret).2) == ((refExplainM l secret).2))) rfl (?_))))))))))
    have hb4306 : (((explainM l secret).2) == ((refExplainM l secret).2)) = true := (by rw [refExplain_eq]; simp)
    rw [hb4306]
    refine wl_t rfl (o_move (x4295) rfl (wl_t rfl (o_move (x4303) rfl (wl_t rfl (o_callK (vs := [x4295, x4303]) enter_34 (c_same8 (O := [] ++ O) x4295 ((refreshM l coins).1) x4303 ((refRefreshM l coins).1) w4298 hl4296 hl4304 s4299.lt) rfl s4299 fun v4307 w4308 s4309 m4310 k4311 r4312 => (?_))))))
    obtain rfl := r4312
    refine wl_s (o_pickT (Value.bool (sameM ((refreshM l coins).1) ((refRefreshM l coins).1))) rfl rfl (wl_s (o_move (Value.bool (sameM ((refreshM l coins).1) ((refRefreshM l coins).1))) rfl (?_))))
    have hb4313 : (sameM ((refreshM l coins).1) ((refRefreshM l coins).1)) = true := ((same_iff _ _).2 (by rw [refRefresh_eq]))
    rw [hb4313]
    refine wl_t rfl (o_move (vI ((refreshM l coins).2)) rfl (wl_t rfl (o_move (vI ((refRefreshM l coins).2)) rfl (wl_t rfl (o_eql .i64 ((refreshM l coins).2) ((refRefreshM l coins).2) rfl rfl (wl_s (o_pickT (Value.bool (((refreshM l coins).2) == ((refRefreshM l coins).2))) rfl rfl (wl_s (o_assign (Value.bool (((refreshM l coins).2) == ((refRefreshM l coins).2))) rfl (wl_nil (thenQ_n (?_))))))))))))
    refine cw_ret (end_r rfl (res1 rfl rfl rfl) (?_))
    have e : true = (((refreshM l coins).2) == ((refRefreshM l coins).2)) := by first | rfl | (rw [refRefresh_eq]; simp)
    exact ⟨_, rfl, s4309.keep, by rw [e]; exact rfl⟩
  ·have hp4314 : (70 : Int) < (secret.length : Int) := by first | simpa using hb4268 | (have e := hb4268; simp at e; omega)
   refine wl_k rfl (wl_k rfl (wl_k rfl (wl_s (o_pickT (Value.bool true) rfl rfl (wl_nil (thenQ_n (?_)))))))
   refine cw_cond true rfl rfl (fun _ => ?_) (fun h => by cases h)
   refine cw_seq (?_)
   refine cw_region (by kernel_rfl) (wl_s (o_assign (Value.bool true) rfl (wl_nil (thenQ_n (?_)))))
   refine cw_ret (thenQ_r (end_r rfl (res1 rfl rfl rfl) (?_)))
   exact ⟨_, rfl, s4262.keep, rfl⟩
 ·have hp4315 : (fewM l) = false := by first | simpa using hb4266 | (have e := hb4266; simp at e; omega)
  refine wl_k rfl (wl_k rfl (wl_k rfl (wl_s (o_pickT (Value.bool true) rfl rfl (wl_s (o_move (Value.bool true) rfl (wl_k rfl (wl_k rfl (wl_k rfl (wl_s (o_pickT (Value.bool true) rfl rfl (wl_nil (thenQ_n (?_))))))))))))))
  refine cw_cond true rfl rfl (fun _ => ?_) (fun h => by cases h)
  refine cw_seq (?_)
  refine cw_region (by kernel_rfl) (wl_s (o_assign (Value.bool true) rfl (wl_nil (thenQ_n (?_)))))
  refine cw_ret (thenQ_r (end_r rfl (res1 rfl rfl rfl) (?_)))
  exact ⟨_, rfl, s4262.keep, rfl⟩

end Go.Proofs.Yteajcgfcnbdmgaa
