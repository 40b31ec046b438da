/- Walks, printed by gen.py. -/
import Derived.Test.YteajcgfcnbdmgaaWbF
set_option linter.unusedSimpArgs false
set_option linter.unusedVariables false
namespace Go.Proofs.Yteajcgfcnbdmgaa
open Go.Fw Go.RowKit

set_option maxHeartbeats 4000000 in
set_option maxRecDepth 100000 in
theorem c_refExplain {O : List Nat} (l_v : Value) (l : List Share) (secret_v : Value) (secret : List UInt8) (w : World) (h_l : RdL Enc.share w O l_v l) (h_secret : RdL Enc.u8 w O secret_v secret) (hO : ∀ b ∈ O, b < w.heap.size) : CallsK Try.prog 38 [l_v, secret_v] w (fun v w' => ∃ (x0 : Value), v = .tuple #[x0, vI ((refExplainM l secret).2)] ∧ RdL Enc.u8 w' (O) x0 ((refExplainM l secret).1)) :=  by
 have lim_l := h_l.len_le
 have h_l : RdL Enc.share w ([] ++ O) l_v l := h_l
 have lim_secret := h_secret.len_le
 have h_secret : RdL Enc.u8 w ([] ++ O) secret_v secret := h_secret
 have s0 : St w O w [] := St.start hO
 refine callsK_of 82 Try.func38 rfl rfl (of_decide_eq_true rfl) (fun F0 => ?_)
 refine cw_seq (?_)
 refine cw_region (by kernel_rfl) (wl_s (o_assign (Value.slice none 0 0) rfl (wl_s (o_assign (vI (0 : Int)) rfl (wl_nil (thenQ_n (?_)))))))
 refine cw_seq (?_)
 refine cw_region (by kernel_rfl) (wl_s (o_move (l_v) rfl (wl_s (o_callK (vs := [l_v]) enter_33 (c_refCheck8 (O := [] ++ O) l_v l w h_l s0.lt) rfl s0 fun v3191 w3192 s3193 m3194 k3195 r3196 => (?_)))))
 obtain rfl := r3196
 have h_l := h_l.mv m3194
 have h_secret := h_secret.mv m3194
 refine wl_s (o_assign (vI (refCheckM l)) rfl (wl_nil (thenQ_n (?_))))
 refine cw_seq (?_)
 refine cw_seq (?_)
 refine cw_region (by kernel_rfl) (wl_s (o_move (vI (refCheckM l)) rfl (wl_s (o_neq .i64 (refCheckM l) (0 : Int) rfl rfl (wl_nil (thenQ_n (?_)))))))
 refine cw_cond ((refCheckM l) != (0 : Int)) rfl rfl (fun hc3197 => ?_) (fun hc3197 => ?_)
 ·have hp3198 : refCheckM l ≠ (0 : Int) := by first | simpa using hc3197 | (have e := hc3197; simp at e; omega)
  refine cw_seq (?_)
  refine cw_region (by kernel_rfl) (wl_s (o_move (vI (refCheckM l)) rfl (wl_s (o_assign (Value.slice none 0 0) rfl (wl_s (o_assign (vI (refCheckM l)) rfl (wl_nil (thenQ_n (?_)))))))))
  refine cw_ret (thenQ_r (end_r rfl (res2 rfl rfl rfl rfl) (?_)))
  have e : (refExplainM l secret) = ([], refCheckM l) := by first | exact refExplainM_ok (by omega) (by omega) (by omega) rfl | exact refExplainM_bad (by omega) rfl | exact refExplainM_many (by omega) (by omega) rfl | exact refExplainM_arg (by omega) (by omega) (by omega) rfl
  exact ⟨_, rfl, s3193.keep, by rw [e]; exact ⟨.slice none 0 0, rfl, RdL.nil _ _ _⟩⟩
 ·have hp3199 : refCheckM l = (0 : Int) := by first | simpa using hc3197 | (have e := hc3197; simp at e; omega)
  have hv := (check_iff l).1 (by rw [← refCheck_eq]; exact hp3199)
  have hpos := hv.pos
  have ht1 := hv.t1
  have htm := hv.tm
  have hm8 := hv.m8
  have hd64 := hv.d64
  refine cw_skip (thenQ_n (?_))
  refine cw_seq (?_)
  refine cw_region (by kernel_rfl) (wl_s (o_move (l_v) rfl (wl_s (o_idx Try.underlying38 s_53 .i64 (0 : Int) 0 rfl rfl rfl h_l (by omega) fun a3200 hp3201 => (wl_s (o_fieldR 2 f_53_2 ((l[0]!).threshold) rfl hp3201 (fun _ _ _ h => Enc_share_f2 h) fun a3202 hp3203 => (wl_s (o_loadI Try.underlying3 rfl rfl hp3203 (wl_s (o_assign (vI ((l[0]!).threshold)) rfl (wl_nil (thenQ_n (?_)))))))))))))
  refine cw_seq (?_)
  refine cw_seq (?_)
  refine cw_region (by kernel_rfl) (wl_s (o_move (l_v) rfl (wl_s (o_lenR Try.underlying38 rfl h_l (wl_s (o_move (vI ((l[0]!).threshold)) rfl (wl_s (o_geq .i64 (l.length : Int) ((l[0]!).threshold) rfl rfl (wl_nil (thenQ_n (?_)))))))))))
  refine cw_cond (decide ((l[0]!).threshold ≤ (l.length : Int))) rfl rfl (fun hc3204 => ?_) (fun hc3204 => ?_)
  ·have hp3205 : (l[0]!).threshold ≤ (l.length : Int) := by first | simpa using hc3204 | (have e := hc3204; simp at e; omega)
   refine cw_seq (?_)
   refine cw_region (by kernel_rfl) (wl_s (o_assign (Value.slice none 0 0) rfl (wl_s (o_assign (vI (80 : Int)) rfl (wl_nil (thenQ_n (?_)))))))
   refine cw_ret (thenQ_r (end_r rfl (res2 rfl rfl rfl rfl) (?_)))
   have e : (refExplainM l secret) = ([], (80 : Int)) := by first | exact refExplainM_ok (by omega) (by omega) (by omega) rfl | exact refExplainM_bad (by omega) rfl | exact refExplainM_many (by omega) (by omega) rfl | exact refExplainM_arg (by omega) (by omega) (by omega) rfl
   exact ⟨_, rfl, s3193.keep, by rw [e]; exact ⟨.slice none 0 0, rfl, RdL.nil _ _ _⟩⟩
  ·have hp3206 : (l.length : Int) < (l[0]!).threshold := by first | simpa using hc3204 | (have e := hc3204; simp at e; omega)
   refine cw_skip (thenQ_n (?_))
   refine cw_seq (?_)
   refine cw_seq (?_)
   refine cw_region (by kernel_rfl) (wl_s (o_move (secret_v) rfl (wl_s (o_lenR Try.underlying28 rfl h_secret (wl_s (o_move (l_v) rfl (wl_s (o_idx Try.underlying38 s_53 .i64 (0 : Int) 0 rfl rfl rfl h_l (by omega) fun a3207 hp3208 => (wl_s (o_fieldR 4 f_53_4 ((l[0]!).data) rfl hp3208 (fun _ _ _ h => Enc_share_f4 h) fun a3209 hp3210 => (wl_s (o_loadL Try.underlying28 rfl rfl hp3210 fun v3211 hl3212 => (?_)))))))))))))
   have := hl3212.len_le
   refine wl_s (o_lenR Try.underlying28 rfl hl3212 (wl_s (o_neq .i64 (secret.length : Int) (((l[0]!).data).length : Int) rfl rfl (wl_nil (thenQ_n (?_))))))
   refine cw_cond ((secret.length : Int) != (((l[0]!).data).length : Int)) rfl rfl (fun hc3213 => ?_) (fun hc3213 => ?_)
   ·have hp3214 : (secret.length : Int) ≠ (((l[0]!).data).length : Int) := by first | simpa using hc3213 | (have e := hc3213; simp at e; omega)
    refine cw_seq (?_)
    refine cw_region (by kernel_rfl) (wl_s (o_assign (Value.slice none 0 0) rfl (wl_s (o_assign (vI (1 : Int)) rfl (wl_nil (thenQ_n (?_)))))))
    refine cw_ret (thenQ_r (end_r rfl (res2 rfl rfl rfl rfl) (?_)))
    have e : (refExplainM l secret) = ([], (1 : Int)) := by first | exact refExplainM_ok (by omega) (by omega) (by omega) rfl | exact refExplainM_bad (by omega) rfl | exact refExplainM_many (by omega) (by omega) rfl | exact refExplainM_arg (by omega) (by omega) (by omega) rfl
    exact ⟨_, rfl, s3193.keep, by rw [e]; exact ⟨.slice none 0 0, rfl, RdL.nil _ _ _⟩⟩
   ·have hp3215 : (secret.length : Int) = (((l[0]!).data).length : Int) := by first | simpa using hc3213 | (have e := hc3213; simp at e; omega)
    refine cw_skip (thenQ_n (?_))
    refine cw_seq (?_)
    refine cw_region (by kernel_rfl) (wl_s (o_assign (.slice none 0 0) rfl (wl_nil (thenQ_n (?_)))))
    refine cw_seq (?_)
    refine cw_seq (?_)
    refine cw_region (by kernel_rfl) (wl_s (o_assign (vI (0 : Int)) rfl (wl_nil (thenQ_n (?_)))))
    refine cw_block (?_)
    refine cw_loop (fun mI FI wI => ∃ (k : Nat) (vo0_8 : Value) (B : List Nat), k ≤ secret.length ∧ mI = secret.length - k ∧ (∃ F1, FI = upds F1 [(0, l_v), (1, secret_v), (7, vI ((l[0]!).threshold)), (8, vo0_8), (9, vI ((k : Nat) : Int)), (82, undef)]) ∧ St w O wI B ∧ Own Enc.u8 5 w.heap.size (B ++ O) wI vo0_8 ((refExpL l secret (l[0]!.threshold.toNat - 1 - l.length) k)) ∧ (∀ b, vo0_8.ownBlock = some b → b ∈ B) ∧ RdL Enc.share wI (B ++ O) (l_v) (l) ∧ RdL Enc.u8 wI (B ++ O) (secret_v) (secret)) (secret.length - (0)) ?_ ?_
    ·exact ⟨(0), (.slice none 0 0), [], (by first | omega | (simp; done) | (simp; omega) | simp_all), rfl, ⟨_, upds_self _ ⟨rfl, rfl, rfl, rfl, (by first | rfl | exact congrArg (Value.int _) (by first | omega | (simp))), rfl, trivial⟩⟩, s3193, (by rw [show (refExpL l secret (l[0]!.threshold.toNat - 1 - l.length) (0)) = [] from rfl]; exact (Own.nil Enc.u8 5 _ _ _)), (by intro b hb; simp [Value.ownBlock] at hb), h_l, h_secret⟩
    ·intro ml0 F wl0 hI
     clear h_l h_secret
     obtain ⟨k, vo0_8, Bl0, hr0_0, hm0, ⟨Fl0, rfl⟩, sl0, ho0_8, hB0_8, h_l, h_secret⟩ := hI
     have hel := refExpL_len (l := l) (secret := secret) (m := (l[0]!.threshold.toNat - 1 - l.length)) (by omega) k
     refine cw_seq (?_)
     refine cw_seq (?_)
     refine cw_region (by kernel_rfl) (wl_s (o_move (vI ((k : Nat) : Int)) rfl (wl_s (o_move (secret_v) rfl (wl_s (o_lenR Try.underlying28 rfl h_secret (wl_s (o_lss .i64 ((k : Nat) : Int) (secret.length : Int) rfl rfl (wl_nil (thenQ_n (?_)))))))))))
     refine cw_cond (decide (((k : Nat) : Int) < (secret.length : Int))) rfl rfl (fun hc3216 => ?_) (fun hc3216 => ?_)
     ·have hp3217 : ((k : Nat) : Int) < (secret.length : Int) := by first | simpa using hc3216 | (have e := hc3216; simp at e; omega)
      refine cw_skip (thenQ_n (?_))
      refine cw_seq (?_)
      refine cw_block (?_)
      refine cw_seq (?_)
      refine cw_region (by kernel_rfl) (wl_s (o_move (l_v) rfl (wl_s (o_move (vI ((k : Nat) : Int)) rfl (wl_s (o_call [l_v, vI ((k : Nat) : Int)] _ enter_61 rfl (calls_of_cw 37 Try.func61 rfl rfl (of_decide_eq_true rfl) (fun F3218 => ?_)) (fun _ _ h => h)))))))
      refine cw_seq (?_)
      refine cw_region (by kernel_rfl) (wl_s (o_assign (Value.slice none 0 0) rfl (wl_s (o_assign (Value.slice none 0 0) rfl (wl_nil (thenQ_n (?_)))))))
      refine cw_seq (?_)
      refine cw_region (by kernel_rfl) (wl_s (o_assign (.slice none 0 0) rfl (wl_s (o_assign (.slice none 0 0) rfl (wl_nil (thenQ_n (?_)))))))
      refine cw_seq (?_)
      refine cw_seq (?_)
      refine cw_region (by kernel_rfl) (wl_s (o_assign (vI (0 : Int)) rfl (wl_nil (thenQ_n (?_)))))
      refine cw_block (?_)
      refine cw_loop (fun mI FI wI => ∃ (q : Nat) (vop0_6 : Value) (vop0_7 : Value) (B : List Nat), q ≤ l.length ∧ mI = l.length - q ∧ (∃ F1, FI = upds F1 [(0, l_v), (1, vI ((k : Nat) : Int)), (6, vop0_6), (7, vop0_7), (8, vI ((q : Nat) : Int)), (37, undef)]) ∧ St w O wI B ∧ Own Enc.u8 5 w.heap.size (B ++ O) wI vop0_6 ((ptX l q)) ∧ (∀ b, vop0_6.ownBlock = some b → b ∈ B) ∧ Own Enc.u8 5 w.heap.size (B ++ O) wI vop0_7 ((ptY l k q)) ∧ (∀ b, vop0_7.ownBlock = some b → b ∈ B) ∧ RdL Enc.share wI (B ++ O) (l_v) (l) ∧ RdL Enc.u8 wI (B ++ O) (secret_v) (secret) ∧ Own Enc.u8 5 w.heap.size (B ++ O) wI vo0_8 ((refExpL l secret (l[0]!.threshold.toNat - 1 - l.length) k)) ∧ (∀ b, vo0_8.ownBlock = some b → b ∈ B) ∧ (∀ b, vop0_6.ownBlock = some b → vo0_8.ownBlock ≠ some b) ∧ (∀ b, vo0_8.ownBlock = some b → vop0_6.ownBlock ≠ some b) ∧ (∀ b, vop0_7.ownBlock = some b → vo0_8.ownBlock ≠ some b) ∧ (∀ b, vo0_8.ownBlock = some b → vop0_7.ownBlock ≠ some b) ∧ (∀ b, vop0_6.ownBlock = some b → vop0_7.ownBlock ≠ some b) ∧ (∀ b, vop0_7.ownBlock = some b → vop0_6.ownBlock ≠ some b)) (l.length - (0)) ?_ ?_
      ·exact ⟨(0), (.slice none 0 0), (.slice none 0 0), Bl0, (by first | omega | (simp; done) | (simp; omega) | simp_all), rfl, ⟨_, upds_self _ ⟨rfl, rfl, rfl, rfl, (by first | rfl | exact congrArg (Value.int _) (by first | omega | (simp))), rfl, trivial⟩⟩, sl0, (by rw [show (ptX l (0)) = [] from rfl]; exact (Own.nil Enc.u8 5 _ _ _)), (by intro b hb; simp [Value.ownBlock] at hb), (by rw [show (ptY l k (0)) = [] from rfl]; exact (Own.nil Enc.u8 5 _ _ _)), (by intro b hb; simp [Value.ownBlock] at hb), h_l, h_secret, ho0_8, hB0_8, (fun b hb => by first | (simp [Value.ownBlock] at hb; done) | (simp [Value.ownBlock]; done) | (intro e; simp_all; done)), (fun b hb => by first | (simp [Value.ownBlock] at hb; done) | (simp [Value.ownBlock]; done) | (intro e; simp_all; done)), (fun b hb => by first | (simp [Value.ownBlock] at hb; done) | (simp [Value.ownBlock]; done) | (intro e; simp_all; done)), (fun b hb => by first | (simp [Value.ownBlock] at hb; done) | (simp [Value.ownBlock]; done) | (intro e; simp_all; done)), (fun b hb => by first | (simp [Value.ownBlock] at hb; done) | (simp [Value.ownBlock]; done) | (intro e; simp_all; done)), (fun b hb => by first | (simp [Value.ownBlock] at hb; done) | (simp [Value.ownBlock]; done) | (intro e; simp_all; done))⟩
      ·intro mlp0 F wlp0 hI
       clear h_l h_secret ho0_8 hB0_8
       obtain ⟨q, vop0_6, vop0_7, Blp0, hrp0_0, hmp0, ⟨Flp0, rfl⟩, slp0, hop0_6, hBp0_6, hop0_7, hBp0_7, h_l, h_secret, ho0_8, hB0_8, nop0_6_vo0_8, npp0_6_vo0_8, nop0_7_vo0_8, npp0_7_vo0_8, nnp0_6_7, nnp0_7_6⟩ := hI
       refine cw_seq (?_)
       refine cw_seq (?_)
       refine cw_region (by kernel_rfl) (wl_s (o_move (vI ((q : Nat) : Int)) rfl (wl_s (o_move (l_v) rfl (wl_s (o_lenR Try.underlying38 rfl h_l (wl_s (o_lss .i64 ((q : Nat) : Int) (l.length : Int) rfl rfl (wl_nil (thenQ_n (?_)))))))))))
       refine cw_cond (decide (((q : Nat) : Int) < (l.length : Int))) rfl rfl (fun hc3219 => ?_) (fun hc3219 => ?_)
       ·have hp3220 : ((q : Nat) : Int) < (l.length : Int) := by first | simpa using hc3219 | (have e := hc3219; simp at e; omega)
        refine cw_skip (thenQ_n (?_))
        refine cw_seq (?_)
        refine cw_block (?_)
        refine cw_seq (?_)
        refine cw_region (by kernel_rfl) (wl_s (o_move (vop0_6) rfl (wl_s (o_move (l_v) rfl (wl_s (o_move (vI ((q : Nat) : Int)) rfl (wl_s (o_idx Try.underlying38 s_53 .i64 ((q : Nat) : Int) q rfl rfl rfl h_l (by omega) fun a3221 hp3222 => (wl_s (o_fieldR 1 f_53_1 ((l[q]!).index) rfl hp3222 (fun _ _ _ h => Enc_share_f1 h) fun a3223 hp3224 => (wl_s (o_loadI Try.underlying3 rfl rfl hp3224 (wl_s (o_u8of .i64 Try.underlying3 Try.underlying5 ((l[q]!).index) rfl (wl_s (o_lit (E := Enc.u8) (xs := [.tmp 21]) Try.underlying28 s_5 z_5 (by decide) [vB (u8of ((l[q]!).index))] [[vB (u8of ((l[q]!).index))]] [u8of ((l[q]!).index)] rfl rfl rfl (Parts.cons rfl rfl (Parts.nil _ _ _)) (of_decide_eq_true rfl) slp0 fun v3229 w3225 s3226 m3227 k3228 hl3230 => (?_)))))))))))))))))
        have h_l := h_l.mv m3227
        have hop0_6 := hop0_6.mv m3227 k3228 (by simp)
        have hop0_7 := hop0_7.mv m3227 k3228 (by simp)
        have h_secret := h_secret.mv m3227
        have ho0_8 := ho0_8.mv m3227 k3228 (by simp)
        have := hl3230.len_le
        refine wl_s (o_append (E := Enc.u8) (l := (ptX l q)) (m := [u8of ((l[q]!).index)]) Try.underlying28 i_5 rfl (by decide) rfl rfl hop0_6 hl3230 (fun _ hb => .inl hb) hBp0_6 (by rw [ptX_len]; simp; omega) (by rw [ptX_len]; simp [maxLen]; omega) s3226 fun v3235 w3231 B3237 hB3238 at3239 sub3240 s3232 m3233 k3234 ho3236 => (?_))
        have ne3241 : ∀ b, vop0_7.ownBlock = some b → v3235.ownBlock ≠ some b := fun b hb e => by rcases at3239 with e1 | e1 <;> rw [e1] at e <;> first | (simp [Value.ownBlock] at e; done) | (exact absurd e (nnp0_7_6 b hb)) | (cases e; have := (hop0_7.lt _ hb).2; omega)
        have ne3242 : ∀ b, vo0_8.ownBlock = some b → v3235.ownBlock ≠ some b := fun b hb e => by rcases at3239 with e1 | e1 <;> rw [e1] at e <;> first | (simp [Value.ownBlock] at e; done) | (exact absurd e (npp0_6_vo0_8 b hb)) | (cases e; have := (ho0_8.lt _ hb).2; omega)
        have hBp0_7 : ∀ b, vop0_7.ownBlock = some b → b ∈ B3237 := fun b hb => sub3240 b (hBp0_7 b hb)
        have hB0_8 : ∀ b, vo0_8.ownBlock = some b → b ∈ B3237 := fun b hb => sub3240 b (hB0_8 b hb)
        have h_l := h_l.mv m3233
        have hop0_7 := hop0_7.mv m3233 k3234 (fun b hb => by simp only [Option.mem_toList]; first | (simp [Value.ownBlock]; done) | exact nnp0_7_6 b hb)
        have h_secret := h_secret.mv m3233
        have ho0_8 := ho0_8.mv m3233 k3234 (fun b hb => by simp only [Option.mem_toList]; first | (simp [Value.ownBlock]; done) | exact npp0_6_vo0_8 b hb)
        refine wl_s (o_assign (v3235) rfl (wl_nil (thenQ_n (?_))))
        refine cw_region (by kernel_rfl) (wl_s (o_move (vop0_7) rfl (wl_s (o_move (l_v) rfl (wl_s (o_move (vI ((q : Nat) : Int)) rfl (wl_s (o_idx Try.underlying38 s_53 .i64 ((q : Nat) : Int) q rfl rfl rfl h_l (by omega) fun a3243 hp3244 => (wl_s (o_fieldR 4 f_53_4 ((l[q]!).data) rfl hp3244 (fun _ _ _ h => Enc_share_f4 h) fun a3245 hp3246 => (wl_s (o_loadL Try.underlying28 rfl rfl hp3246 fun v3247 hl3248 => (?_)))))))))))))
        have := hl3248.len_le
        refine wl_s (o_move (vI ((k : Nat) : Int)) rfl (wl_s (o_idx Try.underlying28 s_5 .i64 ((k : Nat) : Int) k rfl rfl rfl hl3248 (by rw [hv.da q (by omega)]; omega) fun a3249 hp3250 => (wl_s (o_loadB Try.underlying5 rfl rfl hp3250 (wl_s (o_lit (E := Enc.u8) (xs := [.tmp 32]) Try.underlying28 s_5 z_5 (by decide) [vB (((l[q]!).data)[k]!)] [[vB (((l[q]!).data)[k]!)]] [((l[q]!).data)[k]!] rfl rfl rfl (Parts.cons rfl rfl (Parts.nil _ _ _)) (of_decide_eq_true rfl) s3232 fun v3255 w3251 s3252 m3253 k3254 hl3256 => (?_))))))))
        have h_l := h_l.mv m3253
        have ho3236 := ho3236.mv m3253 k3254 (by simp)
        have hop0_7 := hop0_7.mv m3253 k3254 (by simp)
        have h_secret := h_secret.mv m3253
        have ho0_8 := ho0_8.mv m3253 k3254 (by simp)
        have := hl3256.len_le
        refine wl_s (o_append (E := Enc.u8) (l := (ptY l k q)) (m := [((l[q]!).data)[k]!]) Try.underlying28 i_5 rfl (by decide) rfl rfl hop0_7 hl3256 (fun _ hb => .inl hb) hBp0_7 (by rw [ptY_len]; simp; omega) (by rw [ptY_len]; simp [maxLen]; omega) s3252 fun v3261 w3257 B3263 hB3264 at3265 sub3266 s3258 m3259 k3260 ho3262 => (?_))
        have ne3267 : ∀ b, v3235.ownBlock = some b → v3261.ownBlock ≠ some b := fun b hb e => by rcases at3265 with e1 | e1 <;> rw [e1] at e <;> first | (simp [Value.ownBlock] at e; done) | (exact absurd e ((fun b hb e => ne3241 b e hb) b hb)) | (cases e; have := (ho3236.lt _ hb).2; omega)
        have ne3268 : ∀ b, vo0_8.ownBlock = some b → v3261.ownBlock ≠ some b := fun b hb e => by rcases at3265 with e1 | e1 <;> rw [e1] at e <;> first | (simp [Value.ownBlock] at e; done) | (exact absurd e (npp0_7_vo0_8 b hb)) | (cases e; have := (ho0_8.lt _ hb).2; omega)
        have hB3238 : ∀ b, v3235.ownBlock = some b → b ∈ B3263 := fun b hb => sub3266 b (hB3238 b hb)
        have hB0_8 : ∀ b, vo0_8.ownBlock = some b → b ∈ B3263 := fun b hb => sub3266 b (hB0_8 b hb)
        have h_l := h_l.mv m3259
        have ho3236 := ho3236.mv m3259 k3260 (fun b hb => by simp only [Option.mem_toList]; first | (simp [Value.ownBlock]; done) | exact (fun b hb e => ne3241 b e hb) b hb)
        have h_secret := h_secret.mv m3259
        have ho0_8 := ho0_8.mv m3259 k3260 (fun b hb => by simp only [Option.mem_toList]; first | (simp [Value.ownBlock]; done) | exact npp0_7_vo0_8 b hb)
        refine wl_s (o_assign (v3261) rfl (wl_nil (blockQ_n (thenQ_n (?_)))))
        refine cw_region (by kernel_rfl) (wl_s (o_move (vI ((q : Nat) : Int)) rfl (wl_s (o_add .i64 ((q : Nat) : Int) (1 : Int) (((q + 1 : Nat) : Int)) rfl rfl (w64 (by omega) (by omega)) (wl_s (o_assign (vI ((q + 1 : Nat) : Int)) rfl (wl_nil (thenQ_n (?_)))))))))
        exact ⟨_, (by omega), (q + 1), v3235, v3261, B3263, (by first | omega | (simp; done) | (simp; omega) | simp_all), rfl, ⟨_, upds_self _ ⟨rfl, rfl, rfl, rfl, (by first | rfl | exact congrArg (Value.int _) (by first | omega | (simp))), rfl, trivial⟩⟩, s3258, (by rw [show (ptX l (q + 1)) = (ptX l q) ++ ([u8of ((l[q]!).index)]) from ptX_succ _ _]; exact ho3236), hB3238, (by rw [show (ptY l k (q + 1)) = (ptY l k q) ++ ([((l[q]!).data)[k]!]) from ptY_succ _ _ _]; exact ho3262), hB3264, h_l, h_secret, ho0_8, hB0_8, (fun b hb e => ne3242 b e hb), ne3242, (fun b hb e => ne3268 b e hb), ne3268, ne3267, (fun b hb e => ne3267 b e hb)⟩
       ·have hp3269 : (l.length : Int) ≤ ((q : Nat) : Int) := by first | simpa using hc3219 | (have e := hc3219; simp at e; omega)
        obtain rfl : q = l.length := by omega
        refine cw_exit (thenQ_x (thenQ_x (blockQ_x (thenQ_n (?_)))))
        refine cw_seq (?_)
        refine cw_region (by kernel_rfl) (wl_s (o_move (vop0_6) rfl (wl_s (o_move (vop0_7) rfl (wl_s (o_assign (vop0_6) rfl (wl_s (o_assign (vop0_7) rfl (wl_nil (thenQ_n (?_)))))))))))
        refine cw_ret (end_r rfl (res2 rfl rfl rfl rfl) (Exists.intro _ (And.intro rfl (?_))))
        refine wl_s (o_move (Value.tuple #[vop0_6, vop0_7]) rfl (wl_s (o_extract (vop0_6) rfl rfl (wl_s (o_extract (vop0_7) rfl rfl (wl_s (o_assign (vop0_6) rfl (wl_s (o_assign (vop0_7) rfl (wl_nil (thenQ_n (?_))))))))))))
        refine cw_seq (?_)
        refine cw_region (by kernel_rfl) (wl_s (o_move (vop0_6) rfl (wl_s (o_lit (E := Enc.u8) (xs := [.const (vB (0 : UInt8))]) Try.underlying28 s_5 z_5 (by decide) [vB (0 : UInt8)] [[vB (0 : UInt8)]] [(0 : UInt8)] rfl rfl rfl (Parts.cons rfl rfl (Parts.nil _ _ _)) (of_decide_eq_true rfl) slp0 fun v3274 w3270 s3271 m3272 k3273 hl3275 => (?_)))))
        have h_l := h_l.mv m3272
        have h_secret := h_secret.mv m3272
        have ho0_8 := ho0_8.mv m3272 k3273 (by simp)
        have hop0_6 := hop0_6.mv m3272 k3273 (by simp)
        have hop0_7 := hop0_7.mv m3272 k3273 (by simp)
        have := hl3275.len_le
        refine wl_s (o_append (E := Enc.u8) (l := (ptX l l.length)) (m := [(0 : UInt8)]) Try.underlying28 i_5 rfl (by decide) rfl rfl hop0_6 hl3275 (fun _ hb => .inl hb) hBp0_6 (by rw [ptX_len]; simp; omega) (by rw [ptX_len]; simp [maxLen]; omega) s3271 fun v3280 w3276 B3282 hB3283 at3284 sub3285 s3277 m3278 k3279 ho3281 => (?_))
        have ne3286 : ∀ b, vo0_8.ownBlock = some b → v3280.ownBlock ≠ some b := fun b hb e => by rcases at3284 with e1 | e1 <;> rw [e1] at e <;> first | (simp [Value.ownBlock] at e; done) | (exact absurd e (npp0_6_vo0_8 b hb)) | (cases e; have := (ho0_8.lt _ hb).2; omega)
        have ne3287 : ∀ b, vop0_7.ownBlock = some b → v3280.ownBlock ≠ some b := fun b hb e => by rcases at3284 with e1 | e1 <;> rw [e1] at e <;> first | (simp [Value.ownBlock] at e; done) | (exact absurd e (nnp0_7_6 b hb)) | (cases e; have := (hop0_7.lt _ hb).2; omega)
        have hB0_8 : ∀ b, vo0_8.ownBlock = some b → b ∈ B3282 := fun b hb => sub3285 b (hB0_8 b hb)
        have hBp0_7 : ∀ b, vop0_7.ownBlock = some b → b ∈ B3282 := fun b hb => sub3285 b (hBp0_7 b hb)
        have h_l := h_l.mv m3278
        have h_secret := h_secret.mv m3278
        have ho0_8 := ho0_8.mv m3278 k3279 (fun b hb => by simp only [Option.mem_toList]; first | (simp [Value.ownBlock]; done) | exact npp0_6_vo0_8 b hb)
        have hop0_7 := hop0_7.mv m3278 k3279 (fun b hb => by simp only [Option.mem_toList]; first | (simp [Value.ownBlock]; done) | exact nnp0_7_6 b hb)
        refine wl_s (o_assign (v3280) rfl (wl_nil (thenQ_n (?_))))
        refine cw_seq (?_)
        refine cw_region (by kernel_rfl) (wl_s (o_move (vop0_7) rfl (wl_s (o_move (secret_v) rfl (wl_s (o_move (vI ((k : Nat) : Int)) rfl (wl_s (o_idx Try.underlying28 s_5 .i64 ((k : Nat) : Int) k rfl rfl rfl h_secret (by omega) fun a3288 hp3289 => (wl_s (o_loadB Try.underlying5 rfl rfl hp3289 (wl_s (o_lit (E := Enc.u8) (xs := [.tmp 55]) Try.underlying28 s_5 z_5 (by decide) [vB (secret[k]!)] [[vB (secret[k]!)]] [secret[k]!] rfl rfl rfl (Parts.cons rfl rfl (Parts.nil _ _ _)) (of_decide_eq_true rfl) s3277 fun v3294 w3290 s3291 m3292 k3293 hl3295 => (?_)))))))))))))
        have h_l := h_l.mv m3292
        have h_secret := h_secret.mv m3292
        have ho0_8 := ho0_8.mv m3292 k3293 (by simp)
        have ho3281 := ho3281.mv m3292 k3293 (by simp)
        have hop0_7 := hop0_7.mv m3292 k3293 (by simp)
        have := hl3295.len_le
        refine wl_s (o_append (E := Enc.u8) (l := (ptY l k l.length)) (m := [secret[k]!]) Try.underlying28 i_5 rfl (by decide) rfl rfl hop0_7 hl3295 (fun _ hb => .inl hb) hBp0_7 (by rw [ptY_len]; simp; omega) (by rw [ptY_len]; simp [maxLen]; omega) s3291 fun v3300 w3296 B3302 hB3303 at3304 sub3305 s3297 m3298 k3299 ho3301 => (?_))
        have ne3306 : ∀ b, vo0_8.ownBlock = some b → v3300.ownBlock ≠ some b := fun b hb e => by rcases at3304 with e1 | e1 <;> rw [e1] at e <;> first | (simp [Value.ownBlock] at e; done) | (exact absurd e (npp0_7_vo0_8 b hb)) | (cases e; have := (ho0_8.lt _ hb).2; omega)
        have ne3307 : ∀ b, v3280.ownBlock = some b → v3300.ownBlock ≠ some b := fun b hb e => by rcases at3304 with e1 | e1 <;> rw [e1] at e <;> first | (simp [Value.ownBlock] at e; done) | (exact absurd e ((fun b hb e => ne3287 b e hb) b hb)) | (cases e; have := (ho3281.lt _ hb).2; omega)
        have hB0_8 : ∀ b, vo0_8.ownBlock = some b → b ∈ B3302 := fun b hb => sub3305 b (hB0_8 b hb)
        have hB3283 : ∀ b, v3280.ownBlock = some b → b ∈ B3302 := fun b hb => sub3305 b (hB3283 b hb)
        have h_l := h_l.mv m3298
        have h_secret := h_secret.mv m3298
        have ho0_8 := ho0_8.mv m3298 k3299 (fun b hb => by simp only [Option.mem_toList]; first | (simp [Value.ownBlock]; done) | exact npp0_7_vo0_8 b hb)
        have ho3281 := ho3281.mv m3298 k3299 (fun b hb => by simp only [Option.mem_toList]; first | (simp [Value.ownBlock]; done) | exact (fun b hb e => ne3287 b e hb) b hb)
        refine wl_s (o_assign (v3300) rfl (wl_nil (thenQ_n (?_))))
        refine cw_seq (?_)
        refine cw_seq (?_)
        refine cw_region (by kernel_rfl) (wl_s (o_assign (vB (9 : UInt8)) rfl (wl_nil (thenQ_n (?_)))))
        refine cw_block (?_)
        refine cw_loop (fun mI FI wI => ∃ (q : Nat) (vo1_10 : Value) (vo1_11 : Value) (B : List Nat), q ≤ (l[0]!.threshold.toNat - 1 - l.length) ∧ mI = (l[0]!.threshold.toNat - 1 - l.length) - q ∧ (∃ F1, FI = upds F1 [(0, l_v), (1, secret_v), (7, vI ((l[0]!).threshold)), (8, vo0_8), (9, vI ((k : Nat) : Int)), (10, vo1_10), (11, vo1_11), (12, vB (u8of (9 + (q : Int)))), (82, undef)]) ∧ St w O wI B ∧ Own Enc.u8 5 w.heap.size (B ++ O) wI vo1_10 ((refX l q)) ∧ (∀ b, vo1_10.ownBlock = some b → b ∈ B) ∧ Own Enc.u8 5 w.heap.size (B ++ O) wI vo1_11 ((refY l secret[k]! k q)) ∧ (∀ b, vo1_11.ownBlock = some b → b ∈ B) ∧ RdL Enc.share wI (B ++ O) (l_v) (l) ∧ RdL Enc.u8 wI (B ++ O) (secret_v) (secret) ∧ Own Enc.u8 5 w.heap.size (B ++ O) wI vo0_8 ((refExpL l secret (l[0]!.threshold.toNat - 1 - l.length) k)) ∧ (∀ b, vo0_8.ownBlock = some b → b ∈ B) ∧ (∀ b, vo1_10.ownBlock = some b → vo0_8.ownBlock ≠ some b) ∧ (∀ b, vo0_8.ownBlock = some b → vo1_10.ownBlock ≠ some b) ∧ (∀ b, vo1_11.ownBlock = some b → vo0_8.ownBlock ≠ some b) ∧ (∀ b, vo0_8.ownBlock = some b → vo1_11.ownBlock ≠ some b) ∧ (∀ b, vo1_10.ownBlock = some b → vo1_11.ownBlock ≠ some b) ∧ (∀ b, vo1_11.ownBlock = some b → vo1_10.ownBlock ≠ some b)) ((l[0]!.threshold.toNat - 1 - l.length) - (0)) ?_ ?_
        ·exact ⟨(0), v3280, v3300, B3302, (by first | omega | (simp; done) | (simp; omega) | simp_all), rfl, ⟨_, upds_self _ ⟨rfl, rfl, rfl, rfl, rfl, rfl, rfl, (congrArg vB (by rfl)), rfl, trivial⟩⟩, s3297, (by rw [show (refX l (0)) = (ptX l l.length) ++ ([(0 : UInt8)]) from by rw [refX_zero, ptX_all]]; exact ho3281), hB3283, (by rw [show (refY l secret[k]! k (0)) = (ptY l k l.length) ++ ([secret[k]!]) from by rw [refY_zero, ptY_all]]; exact ho3301), hB3303, h_l, h_secret, ho0_8, hB0_8, (fun b hb e => ne3286 b e hb), ne3286, (fun b hb e => ne3306 b e hb), ne3306, ne3307, (fun b hb e => ne3307 b e hb)⟩
        ·intro ml1 F wl1 hI
         clear h_l h_secret ho0_8 hB0_8
         obtain ⟨q, vo1_10, vo1_11, Bl1, hr1_0, hm1, ⟨Fl1, rfl⟩, sl1, ho1_10, hB1_10, ho1_11, hB1_11, h_l, h_secret, ho0_8, hB0_8, no1_10_vo0_8, np1_10_vo0_8, no1_11_vo0_8, np1_11_vo0_8, nn1_10_11, nn1_11_10⟩ := hI
         have hxl := refX_len l q
         have hco := ref_coeff_len hv.toGood (m := (l[0]!.threshold.toNat - 1 - l.length)) (by omega) secret[k]! k
         refine cw_seq (?_)
         refine cw_seq (?_)
         refine cw_region (by kernel_rfl) (wl_s (o_move (vo1_10) rfl (wl_s (o_lenO Try.underlying28 rfl ho1_10 (wl_s (o_move (vI ((l[0]!).threshold)) rfl (wl_s (o_lss .i64 ((refX l q).length : Int) ((l[0]!).threshold) rfl rfl (wl_nil (thenQ_n (?_)))))))))))
         refine cw_cond (decide (((refX l q).length : Int) < (l[0]!).threshold)) rfl rfl (fun hc3308 => ?_) (fun hc3308 => ?_)
         ·have hp3309 : ((refX l q).length : Int) < (l[0]!).threshold := by first | simpa using hc3308 | (have e := hc3308; simp at e; omega)
          refine cw_skip (thenQ_n (?_))
          refine cw_seq (?_)
          refine cw_block (?_)
          refine cw_seq (?_)
          refine cw_region (by kernel_rfl) (wl_s (o_move (vo1_10) rfl (wl_s (o_move (vB (u8of (9 + (q : Int)))) rfl (wl_s (o_lit (E := Enc.u8) (xs := [.tmp 65]) Try.underlying28 s_5 z_5 (by decide) [vB (u8of (9 + (q : Int)))] [[vB (u8of (9 + (q : Int)))]] [u8of (9 + (q : Int))] rfl rfl rfl (Parts.cons rfl rfl (Parts.nil _ _ _)) (of_decide_eq_true rfl) sl1 fun v3314 w3310 s3311 m3312 k3313 hl3315 => (?_)))))))
          have h_l := h_l.mv m3312
          have h_secret := h_secret.mv m3312
          have ho0_8 := ho0_8.mv m3312 k3313 (by simp)
          have ho1_10 := ho1_10.mv m3312 k3313 (by simp)
          have ho1_11 := ho1_11.mv m3312 k3313 (by simp)
          have := hl3315.len_le
          refine wl_s (o_append (E := Enc.u8) (l := (refX l q)) (m := [u8of (9 + (q : Int))]) Try.underlying28 i_5 rfl (by decide) rfl rfl ho1_10 hl3315 (fun _ hb => .inl hb) hB1_10 (by rw [refX_len]; simp; omega) (by rw [refX_len]; simp [maxLen]; omega) s3311 fun v3320 w3316 B3322 hB3323 at3324 sub3325 s3317 m3318 k3319 ho3321 => (?_))
          have ne3326 : ∀ b, vo0_8.ownBlock = some b → v3320.ownBlock ≠ some b := fun b hb e => by rcases at3324 with e1 | e1 <;> rw [e1] at e <;> first | (simp [Value.ownBlock] at e; done) | (exact absurd e (np1_10_vo0_8 b hb)) | (cases e; have := (ho0_8.lt _ hb).2; omega)
          have ne3327 : ∀ b, vo1_11.ownBlock = some b → v3320.ownBlock ≠ some b := fun b hb e => by rcases at3324 with e1 | e1 <;> rw [e1] at e <;> first | (simp [Value.ownBlock] at e; done) | (exact absurd e (nn1_11_10 b hb)) | (cases e; have := (ho1_11.lt _ hb).2; omega)
          have hB0_8 : ∀ b, vo0_8.ownBlock = some b → b ∈ B3322 := fun b hb => sub3325 b (hB0_8 b hb)
          have hB1_11 : ∀ b, vo1_11.ownBlock = some b → b ∈ B3322 := fun b hb => sub3325 b (hB1_11 b hb)
          have h_l := h_l.mv m3318
          have h_secret := h_secret.mv m3318
          have ho0_8 := ho0_8.mv m3318 k3319 (fun b hb => by simp only [Option.mem_toList]; first | (simp [Value.ownBlock]; done) | exact np1_10_vo0_8 b hb)
          have ho1_11 := ho1_11.mv m3318 k3319 (fun b hb => by simp only [Option.mem_toList]; first | (simp [Value.ownBlock]; done) | exact nn1_11_10 b hb)
          refine wl_s (o_assign (v3320) rfl (wl_nil (thenQ_n (?_))))
          refine cw_region (by kernel_rfl) (wl_s (o_move (vo1_11) rfl (wl_s (o_lit (E := Enc.u8) (xs := [.const (vB (0 : UInt8))]) Try.underlying28 s_5 z_5 (by decide) [vB (0 : UInt8)] [[vB (0 : UInt8)]] [(0 : UInt8)] rfl rfl rfl (Parts.cons rfl rfl (Parts.nil _ _ _)) (of_decide_eq_true rfl) s3317 fun v3332 w3328 s3329 m3330 k3331 hl3333 => (?_)))))
          have h_l := h_l.mv m3330
          have h_secret := h_secret.mv m3330
          have ho0_8 := ho0_8.mv m3330 k3331 (by simp)
          have ho3321 := ho3321.mv m3330 k3331 (by simp)
          have ho1_11 := ho1_11.mv m3330 k3331 (by simp)
          have := hl3333.len_le
          refine wl_s (o_append (E := Enc.u8) (l := (refY l secret[k]! k q)) (m := [(0 : UInt8)]) Try.underlying28 i_5 rfl (by decide) rfl rfl ho1_11 hl3333 (fun _ hb => .inl hb) hB1_11 (by rw [refY_len]; simp; omega) (by rw [refY_len]; simp [maxLen]; omega) s3329 fun v3338 w3334 B3340 hB3341 at3342 sub3343 s3335 m3336 k3337 ho3339 => (?_))
          have ne3344 : ∀ b, vo0_8.ownBlock = some b → v3338.ownBlock ≠ some b := fun b hb e => by rcases at3342 with e1 | e1 <;> rw [e1] at e <;> first | (simp [Value.ownBlock] at e; done) | (exact absurd e (np1_11_vo0_8 b hb)) | (cases e; have := (ho0_8.lt _ hb).2; omega)
          have ne3345 : ∀ b, v3320.ownBlock = some b → v3338.ownBlock ≠ some b := fun b hb e => by rcases at3342 with e1 | e1 <;> rw [e1] at e <;> first | (simp [Value.ownBlock] at e; done) | (exact absurd e ((fun b hb e => ne3327 b e hb) b hb)) | (cases e; have := (ho3321.lt _ hb).2; omega)
          have hB0_8 : ∀ b, vo0_8.ownBlock = some b → b ∈ B3340 := fun b hb => sub3343 b (hB0_8 b hb)
          have hB3323 : ∀ b, v3320.ownBlock = some b → b ∈ B3340 := fun b hb => sub3343 b (hB3323 b hb)
          have h_l := h_l.mv m3336
          have h_secret := h_secret.mv m3336
          have ho0_8 := ho0_8.mv m3336 k3337 (fun b hb => by simp only [Option.mem_toList]; first | (simp [Value.ownBlock]; done) | exact np1_11_vo0_8 b hb)
          have ho3321 := ho3321.mv m3336 k3337 (fun b hb => by simp only [Option.mem_toList]; first | (simp [Value.ownBlock]; done) | exact (fun b hb e => ne3327 b e hb) b hb)
          refine wl_s (o_assign (v3338) rfl (wl_nil (blockQ_n (thenQ_n (?_)))))
          refine cw_region (by kernel_rfl) (wl_s (o_move (vB (u8of (9 + (q : Int)))) rfl (wl_s (o_add8 (u8of (9 + (q : Int))) (1 : UInt8) rfl rfl (wl_s (o_assign (vB ((u8of (9 + (q : Int))) + (1 : UInt8))) rfl (wl_nil (thenQ_n (?_)))))))))
          exact ⟨_, (by omega), (q + 1), v3320, v3338, B3340, (by first | omega | (simp; done) | (simp; omega) | simp_all), rfl, ⟨_, upds_self _ ⟨rfl, rfl, rfl, rfl, rfl, rfl, rfl, (congrArg vB (by exact u8of_step q)), rfl, trivial⟩⟩, s3335, (by rw [show (refX l (q + 1)) = (refX l q) ++ ([u8of (9 + (q : Int))]) from refX_succ _ _]; exact ho3321), hB3323, (by rw [show (refY l secret[k]! k (q + 1)) = (refY l secret[k]! k q) ++ ([(0 : UInt8)]) from refY_succ _ _ _ _]; exact ho3339), hB3341, h_l, h_secret, ho0_8, hB0_8, (fun b hb e => ne3326 b e hb), ne3326, (fun b hb e => ne3344 b e hb), ne3344, ne3345, (fun b hb e => ne3345 b e hb)⟩
         ·have hp3346 : (l[0]!).threshold ≤ ((refX l q).length : Int) := by first | simpa using hc3308 | (have e := hc3308; simp at e; omega)
          obtain rfl : q = (l[0]!.threshold.toNat - 1 - l.length) := by omega
          refine cw_exit (thenQ_x (thenQ_x (blockQ_x (thenQ_n (?_)))))
          refine cw_seq (?_)
          refine cw_region (by kernel_rfl) (wl_s (o_move (vo1_10) rfl (wl_s (o_move (vo1_11) rfl (?_)))))
          obtain ⟨B3347, s3348, m3349, hl3350, hk3351⟩ := ho1_10.publish sl1
          have hB0_8 : ∀ b, vo0_8.ownBlock = some b → b ∈ B3347 := fun b hb => hk3351 b (hB0_8 b hb) (np1_10_vo0_8 b hb)
          have hB1_11 : ∀ b, vo1_11.ownBlock = some b → b ∈ B3347 := fun b hb => hk3351 b (hB1_11 b hb) (nn1_11_10 b hb)
          have lim3352 := hl3350.len_le
          have h_l := h_l.mv m3349
          have h_secret := h_secret.mv m3349
          have ho0_8 := ho0_8.mv m3349 (Keep.refl [] _) (by simp)
          have ho1_11 := ho1_11.mv m3349 (Keep.refl [] _) (by simp)
          obtain ⟨B3353, s3354, m3355, hl3356, hk3357⟩ := ho1_11.publish s3348
          have hB0_8 : ∀ b, vo0_8.ownBlock = some b → b ∈ B3353 := fun b hb => hk3357 b (hB0_8 b hb) (np1_11_vo0_8 b hb)
          have lim3358 := hl3356.len_le
          have h_l := h_l.mv m3355
          have h_secret := h_secret.mv m3355
          have ho0_8 := ho0_8.mv m3355 (Keep.refl [] _) (by simp)
          have hl3350 := hl3350.mv m3355
          refine wl_s (o_callK (vs := [vo1_10, vo1_11]) enter_25 (c_refCoeff (O := B3353 ++ O) vo1_10 (refX l (l[0]!.threshold.toNat - 1 - l.length)) vo1_11 (refY l secret[k]! k (l[0]!.threshold.toNat - 1 - l.length)) wl1 hl3350 hl3356 (by rw [refX_len]; omega) s3354.lt) rfl s3354 fun v3359 w3360 s3361 m3362 k3363 r3364 => (?_))
          obtain ⟨x3365, rfl, hl3366⟩ := r3364
          have := hl3366.len_le
          have h_l := h_l.mv m3362
          have h_secret := h_secret.mv m3362
          have ho0_8 := ho0_8.mv m3362 k3363 (by simp)
          refine wl_s (o_move (Value.tuple #[x3365, vI ((refCoeff (refX l (l[0]!.threshold.toNat - 1 - l.length)) (refY l secret[k]! k (l[0]!.threshold.toNat - 1 - l.length))).2)]) rfl (wl_s (o_extract (x3365) rfl rfl (wl_s (o_extract (vI ((refCoeff (refX l (l[0]!.threshold.toNat - 1 - l.length)) (refY l secret[k]! k (l[0]!.threshold.toNat - 1 - l.length))).2)) rfl rfl (wl_s (o_assign (x3365) rfl (wl_s (o_assign (vI ((refCoeff (refX l (l[0]!.threshold.toNat - 1 - l.length)) (refY l secret[k]! k (l[0]!.threshold.toNat - 1 - l.length))).2)) rfl (wl_nil (thenQ_n (?_))))))))))))
          refine cw_region (by kernel_rfl) (wl_s (o_move (vo0_8) rfl (wl_s (o_move (x3365) rfl (wl_s (o_sliceR Try.underlying28 s_5 1 (((refCoeff (refX l (l[0]!.threshold.toNat - 1 - l.length)) (refY l secret[k]! k (l[0]!.threshold.toNat - 1 - l.length))).1).length) rfl (.inr ⟨.const (vI (1 : Int)), .i64, (1 : Int), rfl, rfl, rfl⟩) (.inl ⟨rfl, rfl⟩) (by rw [hco]; omega) (Nat.le_refl _) hl3366 fun v3367 hl3368 => (?_)))))))
          rw [List.take_length] at hl3368
          refine wl_s (o_append (E := Enc.u8) (l := (refExpL l secret (l[0]!.threshold.toNat - 1 - l.length) k)) (m := (((refCoeff (refX l (l[0]!.threshold.toNat - 1 - l.length)) (refY l secret[k]! k (l[0]!.threshold.toNat - 1 - l.length))).1).drop 1)) Try.underlying28 i_5 rfl (by decide) rfl rfl ho0_8 hl3368 (fun _ hb => .inl hb) hB0_8 (by rw [List.length_drop, hco]; omega) (by rw [List.length_drop, hco]; simp only [maxLen]; omega) s3361 fun v3373 w3369 B3375 hB3376 at3377 sub3378 s3370 m3371 k3372 ho3374 => (?_))
          have h_l := h_l.mv m3371
          have h_secret := h_secret.mv m3371
          refine wl_s (o_assign (v3373) rfl (wl_nil (blockQ_n (thenQ_n (?_)))))
          refine cw_region (by kernel_rfl) (wl_s (o_move (vI ((k : Nat) : Int)) rfl (wl_s (o_add .i64 ((k : Nat) : Int) (1 : Int) (((k + 1 : Nat) : Int)) rfl rfl (w64 (by omega) (by omega)) (wl_s (o_assign (vI ((k + 1 : Nat) : Int)) rfl (wl_nil (thenQ_n (?_)))))))))
          exact ⟨_, (by omega), (k + 1), v3373, B3375, (by first | omega | (simp; done) | (simp; omega) | simp_all), rfl, ⟨_, upds_self _ ⟨rfl, rfl, rfl, rfl, (by first | rfl | exact congrArg (Value.int _) (by first | omega | (simp))), rfl, trivial⟩⟩, s3370, (by rw [show (refExpL l secret (l[0]!.threshold.toNat - 1 - l.length) (k + 1)) = (refExpL l secret (l[0]!.threshold.toNat - 1 - l.length) k) ++ (((refCoeff (refX l (l[0]!.threshold.toNat - 1 - l.length)) (refY l secret[k]! k (l[0]!.threshold.toNat - 1 - l.length))).1).drop 1) from rfl]; exact ho3374), hB3376, h_l, h_secret⟩
     ·have hp3379 : (secret.length : Int) ≤ ((k : Nat) : Int) := by first | simpa using hc3216 | (have e := hc3216; simp at e; omega)
      obtain rfl : k = secret.length := by omega
      refine cw_exit (thenQ_x (thenQ_x (blockQ_x (thenQ_n (?_)))))
      refine cw_seq (?_)
      refine cw_region (by kernel_rfl) (wl_s (o_move (vo0_8) rfl (wl_s (o_assign (vo0_8) rfl (wl_s (o_assign (vI (0 : Int)) rfl (wl_nil (thenQ_n (?_)))))))))
      refine cw_ret (end_r rfl (res2 rfl rfl rfl rfl) (?_))
      have e : (refExplainM l secret) = ((refExpL l secret (l[0]!.threshold.toNat - 1 - l.length) secret.length), (0 : Int)) := by first | exact refExplainM_ok (by omega) (by omega) (by omega) rfl | exact refExplainM_bad (by omega) rfl | exact refExplainM_many (by omega) (by omega) rfl | exact refExplainM_arg (by omega) (by omega) (by omega) rfl
      exact ⟨_, rfl, sl0.keep, by rw [e]; exact ⟨vo0_8, rfl, ho0_8.pub sl0⟩⟩

end Go.Proofs.Yteajcgfcnbdmgaa
