/- Walks, printed by gen.py. -/
import Derived.Test.YteajcgfcnbdmgaaWbD
import Derived.Test.YteajcgfcnbdmgaaMaU
set_option linter.unusedSimpArgs false
set_option linter.unusedVariables false
namespace Go.Proofs.Yteajcgfcnbdmgaa
open Go.Fw Go.RowKit

set_option maxHeartbeats 4000000 in
set_option maxRecDepth 100000 in
theorem c_explain {O : List Nat} (l_v : Value) (l : List Share) (secret_v : Value) (secret : List UInt8) (w : World) (h_l : RdL Enc.share w O l_v l) (h_secret : RdL Enc.u8 w O secret_v secret) (hO : ∀ b ∈ O, b < w.heap.size) : CallsK Try.prog 37 [l_v, secret_v] w (fun v w' => ∃ (x0 : Value), v = .tuple #[x0, vI ((explainM l secret).2)] ∧ RdL Enc.u8 w' (O) x0 ((explainM l secret).1)) :=  by
 have lim_l := h_l.len_le
 have h_l : RdL Enc.share w ([] ++ O) l_v l := h_l
 have lim_secret := h_secret.len_le
 have h_secret : RdL Enc.u8 w ([] ++ O) secret_v secret := h_secret
 have s0 : St w O w [] := St.start hO
 refine callsK_of 86 Try.func37 rfl rfl (of_decide_eq_true rfl) (fun F0 => ?_)
 refine cw_seq (?_)
 refine cw_region (by kernel_rfl) (wl_s (o_assign (.slice none 0 0) rfl (wl_s (o_assign (vI (0 : Int)) rfl (wl_nil (thenQ_n (?_)))))))
 refine cw_seq (?_)
 refine cw_seq (?_)
 refine cw_region (by kernel_rfl) (wl_s (o_move (l_v) rfl (wl_s (o_callK (vs := [l_v]) enter_32 (c_check8 (O := [] ++ O) l_v l w h_l s0.lt) rfl s0 fun v3033 w3034 s3035 m3036 k3037 r3038 => (?_)))))
 obtain rfl := r3038
 have h_l := h_l.mv m3036
 have h_secret := h_secret.mv m3036
 refine wl_s (o_assign (vI (checkM l)) rfl (wl_nil (thenQ_n (?_))))
 refine cw_seq (?_)
 refine cw_region (by kernel_rfl) (wl_s (o_move (vI (checkM l)) rfl (wl_s (o_neq .i64 (checkM l) (0 : Int) rfl rfl (wl_nil (thenQ_n (?_)))))))
 refine cw_cond ((checkM l) != (0 : Int)) rfl rfl (fun hc3039 => ?_) (fun hc3039 => ?_)
 ·have hp3040 : checkM l ≠ (0 : Int) := by first | simpa using hc3039 | (have e := hc3039; simp at e; omega)
  refine cw_seq (?_)
  refine cw_region (by kernel_rfl) (wl_s (o_move (vI (checkM l)) rfl (wl_s (o_assign (.slice none 0 0) rfl (wl_s (o_assign (vI (checkM l)) rfl (wl_nil (thenQ_n (?_)))))))))
  refine cw_ret (thenQ_r (end_r rfl (res2 rfl rfl rfl rfl) (?_)))
  have e : (explainM l secret) = ([], checkM l) := by first | exact explainM_ok (by omega) (by omega) (by omega) rfl | exact explainM_bad (by omega) rfl | exact explainM_many (by omega) (by omega) rfl | exact explainM_arg (by omega) (by omega) (by omega) rfl
  exact ⟨_, rfl, s3035.keep, by rw [e]; exact ⟨.slice none 0 0, rfl, RdL.nil _ _ _⟩⟩
 ·have hp3041 : checkM l = (0 : Int) := by first | simpa using hc3039 | (have e := hc3039; simp at e; omega)
  have hv := (check_iff l).1 hp3041
  have hpos := hv.pos
  have ht1 := hv.t1
  have htm := hv.tm
  have hm8 := hv.m8
  have hd64 := hv.d64
  refine cw_skip (thenQ_n (?_))
  refine cw_seq (?_)
  refine cw_region (by kernel_rfl) (wl_s (o_move (l_v) rfl (wl_s (o_idx Try.underlying38 s_53 .i64 (0 : Int) 0 rfl rfl rfl h_l (by omega) fun a3042 hp3043 => (wl_s (o_fieldR 2 f_53_2 ((l[0]!).threshold) rfl hp3043 (fun _ _ _ h => Enc_share_f2 h) fun a3044 hp3045 => (wl_s (o_loadI Try.underlying3 rfl rfl hp3045 (wl_s (o_move (l_v) rfl (wl_s (o_lenR Try.underlying38 rfl h_l (wl_s (o_assign (vI ((l[0]!).threshold)) rfl (wl_s (o_assign (vI (l.length : Int)) rfl (wl_nil (thenQ_n (?_)))))))))))))))))))
  refine cw_seq (?_)
  refine cw_seq (?_)
  refine cw_region (by kernel_rfl) (wl_s (o_move (vI (l.length : Int)) rfl (wl_s (o_move (vI ((l[0]!).threshold)) rfl (wl_s (o_geq .i64 (l.length : Int) ((l[0]!).threshold) rfl rfl (wl_nil (thenQ_n (?_)))))))))
  refine cw_cond (decide ((l[0]!).threshold ≤ (l.length : Int))) rfl rfl (fun hc3046 => ?_) (fun hc3046 => ?_)
  ·have hp3047 : (l[0]!).threshold ≤ (l.length : Int) := by first | simpa using hc3046 | (have e := hc3046; simp at e; omega)
   refine cw_seq (?_)
   refine cw_region (by kernel_rfl) (wl_s (o_assign (.slice none 0 0) rfl (wl_s (o_assign (vI (80 : Int)) rfl (wl_nil (thenQ_n (?_)))))))
   refine cw_ret (thenQ_r (end_r rfl (res2 rfl rfl rfl rfl) (?_)))
   have e : (explainM l secret) = ([], (80 : Int)) := by first | exact explainM_ok (by omega) (by omega) (by omega) rfl | exact explainM_bad (by omega) rfl | exact explainM_many (by omega) (by omega) rfl | exact explainM_arg (by omega) (by omega) (by omega) rfl
   exact ⟨_, rfl, s3035.keep, by rw [e]; exact ⟨.slice none 0 0, rfl, RdL.nil _ _ _⟩⟩
  ·have hp3048 : (l.length : Int) < (l[0]!).threshold := by first | simpa using hc3046 | (have e := hc3046; simp at e; omega)
   refine cw_skip (thenQ_n (?_))
   refine cw_seq (?_)
   refine cw_seq (?_)
   refine cw_region (by kernel_rfl) (wl_s (o_move (secret_v) rfl (wl_s (o_lenR Try.underlying28 rfl h_secret (wl_s (o_move (l_v) rfl (wl_s (o_idx Try.underlying38 s_53 .i64 (0 : Int) 0 rfl rfl rfl h_l (by omega) fun a3049 hp3050 => (wl_s (o_fieldR 4 f_53_4 ((l[0]!).data) rfl hp3050 (fun _ _ _ h => Enc_share_f4 h) fun a3051 hp3052 => (wl_s (o_loadL Try.underlying28 rfl rfl hp3052 fun v3053 hl3054 => (?_)))))))))))))
   have := hl3054.len_le
   refine wl_s (o_lenR Try.underlying28 rfl hl3054 (wl_s (o_neq .i64 (secret.length : Int) (((l[0]!).data).length : Int) rfl rfl (wl_nil (thenQ_n (?_))))))
   refine cw_cond ((secret.length : Int) != (((l[0]!).data).length : Int)) rfl rfl (fun hc3055 => ?_) (fun hc3055 => ?_)
   ·have hp3056 : (secret.length : Int) ≠ (((l[0]!).data).length : Int) := by first | simpa using hc3055 | (have e := hc3055; simp at e; omega)
    refine cw_seq (?_)
    refine cw_region (by kernel_rfl) (wl_s (o_assign (.slice none 0 0) rfl (wl_s (o_assign (vI (1 : Int)) rfl (wl_nil (thenQ_n (?_)))))))
    refine cw_ret (thenQ_r (end_r rfl (res2 rfl rfl rfl rfl) (?_)))
    have e : (explainM l secret) = ([], (1 : Int)) := by first | exact explainM_ok (by omega) (by omega) (by omega) rfl | exact explainM_bad (by omega) rfl | exact explainM_many (by omega) (by omega) rfl | exact explainM_arg (by omega) (by omega) (by omega) rfl
    exact ⟨_, rfl, s3035.keep, by rw [e]; exact ⟨.slice none 0 0, rfl, RdL.nil _ _ _⟩⟩
   ·have hp3057 : (secret.length : Int) = (((l[0]!).data).length : Int) := by first | simpa using hc3055 | (have e := hc3055; simp at e; omega)
    refine cw_skip (thenQ_n (?_))
    refine cw_seq (?_)
    refine cw_region (by kernel_rfl) (wl_s (o_litO (E := Enc.u8) (xs := [.const (vB (0 : UInt8))]) Try.underlying28 s_5 z_5 (by decide) [vB (0 : UInt8)] [[vB (0 : UInt8)]] [(0 : UInt8)] rfl rfl rfl (Parts.cons rfl rfl (Parts.nil _ _ _)) (of_decide_eq_true rfl) s3035 fun v3062 b3064 w3058 e3065 hb3066 s3059 m3060 k3061 hl3063 => (?_)))
    have hB3067 : ∀ b, v3062.ownBlock = some b → b ∈ (b3064 :: []) := fun b hb => by rw [hb3066] at hb; cases hb; simp
    clear e3065 hb3066
    have h_l := h_l.mv m3060
    have h_secret := h_secret.mv m3060
    refine wl_s (o_move (l_v) rfl (wl_s (o_callK (vs := [l_v]) enter_58 (c_indices (O := (b3064 :: []) ++ O) l_v l w3058 h_l (by omega) s3059.lt) rfl s3059 fun v3068 w3069 s3070 m3071 k3072 r3073 => (?_))))
    obtain ⟨_, rfl, hl3074⟩ := r3073
    have := hl3074.len_le
    have h_l := h_l.mv m3071
    have h_secret := h_secret.mv m3071
    have hl3063 := hl3063.mv m3071 k3072 (by simp)
    refine wl_s (o_append (E := Enc.u8) (l := [(0 : UInt8)]) (m := idxM l) Try.underlying28 i_5 rfl (by decide) rfl rfl hl3063 hl3074 (fun _ hb => .inl hb) hB3067 (by rw [idxM_len]; simp; omega) (by rw [idxM_len]; simp [maxLen]; omega) s3070 fun v3079 w3075 B3081 hB3082 at3083 sub3084 s3076 m3077 k3078 ho3080 => (?_))
    have h_l := h_l.mv m3077
    have h_secret := h_secret.mv m3077
    refine wl_s (o_assign (v3079) rfl (wl_nil (thenQ_n (?_))))
    refine cw_seq (?_)
    refine cw_seq (?_)
    refine cw_region (by kernel_rfl) (wl_s (o_move (vI ((l[0]!).threshold)) rfl (wl_s (o_sub .i64 ((l[0]!).threshold) (1 : Int) (((l[0]!.threshold.toNat - 1 : Nat) : Int)) rfl rfl (w64 (by omega) (by omega)) (wl_s (o_move (vI (l.length : Int)) rfl (wl_s (o_sub .i64 ((l[0]!.threshold.toNat - 1 : Nat) : Int) (l.length : Int) ((((l[0]!.threshold.toNat - 1 - l.length) : Nat) : Int)) rfl rfl (w64 (by omega) (by omega)) (wl_s (o_move (vI (0 : Int)) rfl (wl_nil (thenQ_n (?_)))))))))))))
    refine cw_block (?_)
    refine cw_loop (fun mI FI wI => ∃ (q : Nat) (vo0_9 : Value) (B : List Nat), q ≤ (l[0]!.threshold.toNat - 1 - l.length) ∧ mI = (l[0]!.threshold.toNat - 1 - l.length) - q ∧ (∃ F1, FI = upds F1 [(0, l_v), (1, secret_v), (4, Value.slice none 0 0), (7, vI ((l[0]!).threshold)), (9, vo0_9), (45, vI (((l[0]!.threshold.toNat - 1 - l.length) : Nat) : Int)), (46, vI ((q : Nat) : Int)), (86, undef)]) ∧ St w O wI B ∧ Own Enc.u8 5 w.heap.size (B ++ O) wI vo0_9 ((expX l q)) ∧ (∀ b, vo0_9.ownBlock = some b → b ∈ B) ∧ RdL Enc.share wI (B ++ O) (l_v) (l) ∧ RdL Enc.u8 wI (B ++ O) (secret_v) (secret)) ((l[0]!.threshold.toNat - 1 - l.length) - (0)) ?_ ?_
    ·exact ⟨(0), v3079, B3081, (by first | omega | (simp; done) | (simp; omega) | simp_all), rfl, ⟨_, upds_self _ ⟨rfl, rfl, rfl, rfl, rfl, rfl, (by first | rfl | exact congrArg (Value.int _) (by first | omega | (simp))), rfl, trivial⟩⟩, s3076, (by rw [show (expX l (0)) = ([(0 : UInt8)]) ++ (idxM l) from expX_zero l]; exact ho3080), hB3082, h_l, h_secret⟩
    ·intro ml0 F wl0 hI
     clear h_l h_secret
     obtain ⟨q, vo0_9, Bl0, hr0_0, hm0, ⟨Fl0, rfl⟩, sl0, ho0_9, hB0_9, h_l, h_secret⟩ := hI
     refine cw_seq (?_)
     refine cw_region (by kernel_rfl) (wl_s (o_lss .i64 ((q : Nat) : Int) (((l[0]!.threshold.toNat - 1 - l.length) : Nat) : Int) rfl rfl (wl_nil (thenQ_n (?_)))))
     refine cw_seq (?_)
     refine cw_cond (decide (((q : Nat) : Int) < (((l[0]!.threshold.toNat - 1 - l.length) : Nat) : Int))) rfl rfl (fun hc3085 => ?_) (fun hc3085 => ?_)
     ·have hp3086 : ((q : Nat) : Int) < (((l[0]!.threshold.toNat - 1 - l.length) : Nat) : Int) := by first | simpa using hc3085 | (have e := hc3085; simp at e; omega)
      refine cw_skip (thenQ_n (?_))
      refine cw_seq (?_)
      refine cw_block (?_)
      refine cw_seq (?_)
      refine cw_region (by kernel_rfl) (wl_s (o_move (vI ((q : Nat) : Int)) rfl (wl_s (o_assign (vI ((q : Nat) : Int)) rfl (wl_nil (thenQ_n (?_)))))))
      refine cw_region (by kernel_rfl) (wl_s (o_move (vo0_9) rfl (wl_s (o_move (vI ((q : Nat) : Int)) rfl (wl_s (o_add .i64 (9 : Int) ((q : Nat) : Int) ((9 : Int) + ((q : Nat) : Int)) rfl rfl (w64 (by omega) (by omega)) (wl_s (o_u8of .i64 Try.underlying3 Try.underlying5 ((9 : Int) + ((q : Nat) : Int)) rfl (wl_s (o_lit (E := Enc.u8) (xs := [.tmp 52]) Try.underlying28 s_5 z_5 (by decide) [vB (u8of ((9 : Int) + ((q : Nat) : Int)))] [[vB (u8of ((9 : Int) + ((q : Nat) : Int)))]] [u8of ((9 : Int) + ((q : Nat) : Int))] rfl rfl rfl (Parts.cons rfl rfl (Parts.nil _ _ _)) (of_decide_eq_true rfl) sl0 fun v3091 w3087 s3088 m3089 k3090 hl3092 => (?_)))))))))))
      have h_l := h_l.mv m3089
      have h_secret := h_secret.mv m3089
      have ho0_9 := ho0_9.mv m3089 k3090 (by simp)
      have := hl3092.len_le
      refine wl_s (o_append (E := Enc.u8) (l := (expX l q)) (m := [u8of ((9 : Int) + ((q : Nat) : Int))]) Try.underlying28 i_5 rfl (by decide) rfl rfl ho0_9 hl3092 (fun _ hb => .inl hb) hB0_9 (by rw [expX_len]; simp; omega) (by rw [expX_len]; simp [maxLen]; omega) s3088 fun v3097 w3093 B3099 hB3100 at3101 sub3102 s3094 m3095 k3096 ho3098 => (?_))
      have h_l := h_l.mv m3095
      have h_secret := h_secret.mv m3095
      refine wl_s (o_assign (v3097) rfl (wl_nil (blockQ_n (thenQ_n (?_)))))
      refine cw_region (by kernel_rfl) (wl_s (o_add .i64 ((q : Nat) : Int) (1 : Int) (((q + 1 : Nat) : Int)) rfl rfl (w64 (by omega) (by omega)) (wl_s (o_move (vI ((q + 1 : Nat) : Int)) rfl (wl_nil (thenQ_n (?_)))))))
      exact ⟨_, (by omega), (q + 1), v3097, B3099, (by first | omega | (simp; done) | (simp; omega) | simp_all), rfl, ⟨_, upds_self _ ⟨rfl, rfl, rfl, rfl, rfl, rfl, (by first | rfl | exact congrArg (Value.int _) (by first | omega | (simp))), rfl, trivial⟩⟩, s3094, (by rw [show (expX l (q + 1)) = (expX l q) ++ ([u8of ((9 : Int) + ((q : Nat) : Int))]) from expX_succ _ _]; exact ho3098), hB3100, h_l, h_secret⟩
     ·have hp3103 : (((l[0]!.threshold.toNat - 1 - l.length) : Nat) : Int) ≤ ((q : Nat) : Int) := by first | simpa using hc3085 | (have e := hc3085; simp at e; omega)
      obtain rfl : q = (l[0]!.threshold.toNat - 1 - l.length) := by omega
      refine cw_exit (thenQ_x (thenQ_x (blockQ_x (thenQ_n (?_)))))
      refine cw_seq (?_)
      refine cw_seq (?_)
      refine cw_region (by kernel_rfl) (wl_s (o_move (secret_v) rfl (wl_s (o_lenR Try.underlying28 rfl h_secret (wl_s (o_move (vI (0 : Int)) rfl (wl_nil (thenQ_n (?_)))))))))
      refine cw_block (?_)
      obtain ⟨B3104, s3105, m3106, hl3107, hk3108⟩ := ho0_9.publish sl0
      have lim3109 := hl3107.len_le
      have h_l := h_l.mv m3106
      have h_secret := h_secret.mv m3106
      refine cw_loop (fun mI FI wI => ∃ (k : Nat) (vo1_4 : Value) (B : List Nat), k ≤ secret.length ∧ mI = secret.length - k ∧ (∃ F1, FI = upds F1 [(0, l_v), (4, vo1_4), (7, vI ((l[0]!).threshold)), (9, vo0_9), (56, secret_v), (57, vI (secret.length : Int)), (58, vI ((k : Nat) : Int)), (86, undef)]) ∧ St w O wI B ∧ Own Enc.u8 5 w.heap.size (B ++ O) wI vo1_4 ((expL l secret (l[0]!.threshold.toNat - 1 - l.length) k)) ∧ (∀ b, vo1_4.ownBlock = some b → b ∈ B) ∧ RdL Enc.share wI (B ++ O) (l_v) (l) ∧ RdL Enc.u8 wI (B ++ O) (vo0_9) ((expX l (l[0]!.threshold.toNat - 1 - l.length))) ∧ RdL Enc.u8 wI (B ++ O) (secret_v) (secret)) (secret.length - (0)) ?_ ?_
      ·exact ⟨(0), (.slice none 0 0), B3104, (by first | omega | (simp; done) | (simp; omega) | simp_all), rfl, ⟨_, upds_self _ ⟨rfl, rfl, rfl, rfl, rfl, rfl, (by first | rfl | exact congrArg (Value.int _) (by first | omega | (simp))), rfl, trivial⟩⟩, s3105, (by rw [show (expL l secret (l[0]!.threshold.toNat - 1 - l.length) (0)) = [] from rfl]; exact (Own.nil Enc.u8 5 _ _ _)), (by intro b hb; simp [Value.ownBlock] at hb), h_l, hl3107, h_secret⟩
      ·intro ml1 F wl1 hI
       clear h_l hl3107 h_secret
       obtain ⟨k, vo1_4, Bl1, hr1_0, hm1, ⟨Fl1, rfl⟩, sl1, ho1_4, hB1_4, h_l, hl3107, h_secret⟩ := hI
       have hco := fun b => exp_len hv.toGood (m := (l[0]!.threshold.toNat - 1 - l.length)) (by omega) b k
       have hel := expL_len (l := l) (secret := secret) (m := (l[0]!.threshold.toNat - 1 - l.length)) (by omega) k
       refine cw_seq (?_)
       refine cw_region (by kernel_rfl) (wl_s (o_lss .i64 ((k : Nat) : Int) (secret.length : Int) rfl rfl (wl_nil (thenQ_n (?_)))))
       refine cw_seq (?_)
       refine cw_cond (decide (((k : Nat) : Int) < (secret.length : Int))) rfl rfl (fun hc3110 => ?_) (fun hc3110 => ?_)
       ·have hp3111 : ((k : Nat) : Int) < (secret.length : Int) := by first | simpa using hc3110 | (have e := hc3110; simp at e; omega)
        refine cw_skip (thenQ_n (?_))
        refine cw_seq (?_)
        refine cw_block (?_)
        refine cw_seq (?_)
        refine cw_region (by kernel_rfl) (wl_s (o_move (vI ((k : Nat) : Int)) rfl (wl_s (o_idx Try.underlying28 s_5 .i64 ((k : Nat) : Int) k rfl rfl rfl h_secret (by omega) fun a3112 hp3113 => (wl_s (o_loadB Try.underlying5 rfl rfl hp3113 (wl_s (o_assign (vI ((k : Nat) : Int)) rfl (wl_s (o_assign (vB (secret[k]!)) rfl (wl_nil (thenQ_n (?_)))))))))))))
        refine cw_seq (?_)
        refine cw_region (by kernel_rfl) (wl_s (o_move (vI ((l[0]!).threshold)) rfl (wl_s (o_make (E := Enc.u8) Try.underlying28 i_5 [vB (0 : UInt8)] rfl rfl (by decide) (0 : UInt8) (fun _ _ => rfl) .i64 .i64 ((l[0]!).threshold) ((l[0]!).threshold) (((l[0]!).threshold).toNat) (((l[0]!).threshold).toNat) rfl rfl (by omega) (by omega) (by omega) (by omega) (by simp only [maxLen]; omega) sl1 fun v3118 b3120 w3114 e3121 hb3122 s3115 m3116 k3117 hl3119 => (?_)))))
        have ne3123 : ∀ b, vo1_4.ownBlock = some b → v3118.ownBlock ≠ some b := fun b hb => by have := (ho1_4.lt b hb).2; rw [hb3122]; intro e; cases e; omega
        have ne3123' : ∀ b, v3118.ownBlock = some b → vo1_4.ownBlock ≠ some b := fun b hb e => ne3123 b e hb
        have hB3124 : ∀ b, v3118.ownBlock = some b → b ∈ (b3120 :: Bl1) := fun b hb => by rw [hb3122] at hb; cases hb; simp
        clear e3121 hb3122
        have hB1_4 : ∀ b, vo1_4.ownBlock = some b → b ∈ (b3120 :: Bl1) := fun b hb => List.mem_cons_of_mem _ (hB1_4 b hb)
        have h_l := h_l.mv m3116
        have ho1_4 := ho1_4.mv m3116 k3117 (by simp)
        have hl3107 := hl3107.mv m3116
        have h_secret := h_secret.mv m3116
        refine wl_s (o_assign (v3118) rfl (wl_nil (thenQ_n (?_))))
        refine cw_seq (?_)
        refine cw_region (by kernel_rfl) (wl_s (o_move (v3118) rfl (wl_s (o_move (vB (secret[k]!)) rfl (wl_s (o_indexO Try.underlying28 s_5 .i64 (0 : Int) 0 rfl rfl rfl hl3119 (by first | omega | (simp only [List.length_set, List.length_append, List.length_cons, List.length_nil, List.length_replicate]; omega)) fun b3125 hb3126 => (wl_n (o_storeO (secret[k]!) s_5 rfl rfl rfl hl3119 hb3126 (hB3124 _ hb3126) (by first | omega | (simp only [List.length_set, List.length_append, List.length_cons, List.length_nil, List.length_replicate]; omega)) rfl s3115 fun w3127 s3128 m3129 k3130 bx3131 => (?_)))))))))
        have h_l := h_l.mv m3129
        have ho1_4 := ho1_4.mv m3129 k3130 (fun b hb => by simp only [List.mem_singleton]; rintro rfl; exact absurd hb3126 (ne3123 _ hb))
        have hl3107 := hl3107.mv m3129
        have h_secret := h_secret.mv m3129
        refine wl_nil (thenQ_n (?_))
        refine cw_seq (?_)
        refine cw_draw' 5 _ _ [isV v3118, fun (vT : Value) (_ : World) => SubOf v3118 1 1 vT, fun (vT : Value) (wT : World) => RdL Enc.share wT ((b3120 :: Bl1) ++ O) vT (l), isV (vI ((k : Nat) : Int)), fun (vT : Value) (wT : World) => RdL Enc.u8 wT ((b3120 :: Bl1) ++ O) vT (colM l k)] (by kernel_rfl) (by kernel_rfl) (by kernel_rfl) (by kernel_rfl) rfl rfl ⟨kI, fun _ _ _ h _ => h, fun _ _ _ h k => h.mv (Mv.of_keep k), kI, fun _ _ _ h k => h.mv (Mv.of_keep k), trivial⟩ ⟨?_, ?_, ?_, ?_, ?_, trivial⟩ ?_
        ·intro F1 w1 k1 hf hd
         obtain ⟨F2, rfl⟩ := lit_of (F := F1) [(13, v3118)] ⟨hf 13 (by kernel_rfl), trivial⟩
         exact sp_plain rfl ((o_move (v3118) rfl (⟨(Keep.refl _ _), rfl⟩)))
        ·intro F1 w1 k1 hf hd
         have k0 := (Keep.drew [] w3127).trans k1
         have m1 : Mv (b3120 :: Bl1) w3127 (b3120 :: Bl1) w1 := Mv.of_keep k0
         have bx3131 := bx3131.mv m1 k0 (by simp)
         obtain ⟨F2, rfl⟩ := lit_of (F := F1) [(68, v3118)] ⟨hd 0 68 (by kernel_rfl), trivial⟩
         exact sp_plain rfl ((o_sliceOwn Try.underlying28 s_5 1 .i64 (1 : Int) rfl rfl rfl (by rw [List.length_set, List.length_replicate]; omega) bx3131 fun v3132 hs3133 => (⟨(Keep.refl _ _), hs3133⟩)))
        ·intro F1 w1 k1 hf hd
         have k0 := (Keep.drew [] w3127).trans k1
         have m1 : Mv (b3120 :: Bl1) w3127 (b3120 :: Bl1) w1 := Mv.of_keep k0
         have h_l := h_l.mv m1
         obtain ⟨F2, rfl⟩ := lit_of (F := F1) [(0, l_v)] ⟨hf 0 (by kernel_rfl), trivial⟩
         exact sp_plain rfl ((o_move (l_v) rfl (⟨(Keep.refl _ _), h_l⟩)))
        ·intro F1 w1 k1 hf hd
         obtain ⟨F2, rfl⟩ := lit_of (F := F1) [(11, vI ((k : Nat) : Int))] ⟨hf 11 (by kernel_rfl), trivial⟩
         exact sp_plain rfl ((o_move (vI ((k : Nat) : Int)) rfl (⟨(Keep.refl _ _), rfl⟩)))
        ·intro F1 w1 k1 hf hd
         have k0 := (Keep.drew [] w3127).trans k1
         have s1 := s3128.call k0
         obtain ⟨v3134, e3136, hl3135⟩ : ∃ v, F1 70 = v ∧ RdL Enc.share w1 ((b3120 :: Bl1) ++ O) v (l) := ⟨_, rfl, hd 2 70 (by kernel_rfl)⟩
         have := hl3135.len_le
         obtain ⟨F2, rfl⟩ := lit_of (F := F1) [(70, v3134), (71, vI ((k : Nat) : Int))] ⟨e3136, hd 3 71 (by kernel_rfl), trivial⟩
         refine sp_plain rfl ((o_callK (vs := [v3134, vI ((k : Nat) : Int)]) enter_60 (c_column (O := (b3120 :: Bl1) ++ O) v3134 l k w1 hl3135 (by omega) (fun j hj => by rw [hv.da j hj]; omega) s1.lt) rfl s1 fun v3137 w3138 s3139 m3140 k3141 r3142 => (?_)))
         obtain ⟨_, rfl, hl3143⟩ := r3142
         have := hl3143.len_le
         exact ⟨k3141, hl3143⟩
        intro F3145 w3146 k3144 hT3147 hF3148
        have s3149 := s3128.call k3144
        have m3150 : Mv (b3120 :: Bl1) w3127 (b3120 :: Bl1) w3146 := Mv.of_keep k3144
        have h_l := h_l.mv m3150
        have ho1_4 := ho1_4.mv m3150 k3144 (by simp)
        have hl3107 := hl3107.mv m3150
        have bx3131 := bx3131.mv m3150 k3144 (by simp)
        have h_secret := h_secret.mv m3150
        obtain ⟨v3152, e3153, hs3154⟩ : ∃ v, F3145 69 = v ∧ SubOf v3118 1 1 v := ⟨_, rfl, hT3147 1 69 (by kernel_rfl) (by decide)⟩
        obtain ⟨v3155, e3157, hl3156⟩ : ∃ v, F3145 72 = v ∧ RdL Enc.u8 w3146 ((b3120 :: Bl1) ++ O) v (colM l k) := ⟨_, rfl, hT3147 4 72 (by kernel_rfl) (by decide)⟩
        have := hl3156.len_le
        obtain ⟨F2, rfl⟩ := lit_of (F := F3145) [(0, l_v), (4, vo1_4), (7, vI ((l[0]!).threshold)), (9, vo0_9), (13, v3118), (56, secret_v), (57, vI (secret.length : Int)), (58, vI ((k : Nat) : Int)), (86, undef), (69, v3152), (72, v3155)] ⟨hF3148 0 (by kernel_rfl), hF3148 4 (by kernel_rfl), hF3148 7 (by kernel_rfl), hF3148 9 (by kernel_rfl), hF3148 13 (by kernel_rfl), hF3148 56 (by kernel_rfl), hF3148 57 (by kernel_rfl), hF3148 58 (by kernel_rfl), hF3148 86 (by kernel_rfl), e3153, e3157, trivial⟩
        clear hT3147 hF3148
        refine wl_s (o_copyO (l := ((List.replicate (((l[0]!).threshold).toNat) (0 : UInt8)).set 0 (secret[k]!))) (m := (colM l k)) Try.underlying28 s_5 rfl rfl hs3154 bx3131 hB3124 hl3156 (by rw [List.length_set, List.length_replicate]; omega) s3149 fun v3158 w3159 s3160 m3161 k3162 ho3163 => (?_))
        rw [show ((List.replicate (((l[0]!).threshold).toNat) (0 : UInt8)).set 0 (secret[k]!)).take 1 ++ (colM l k).take (((List.replicate (((l[0]!).threshold).toNat) (0 : UInt8)).set 0 (secret[k]!)).length - 1) ++ ((List.replicate (((l[0]!).threshold).toNat) (0 : UInt8)).set 0 (secret[k]!)).drop (1 + (colM l k).length) = expY l secret[k]! k (l[0]!.threshold.toNat - 1 - l.length) from expY_eq (by omega)] at ho3163
        have h_l := h_l.mv m3161
        have ho1_4 := ho1_4.mv m3161 k3162 (fun b hb => by simp only [Option.mem_toList]; exact ne3123 b hb)
        have hl3107 := hl3107.mv m3161
        have h_secret := h_secret.mv m3161
        refine wl_nil (thenQ_n (?_))
        refine cw_seq (?_)
        refine cw_region (by kernel_rfl) (wl_s (o_move (vo0_9) rfl (wl_s (o_move (v3118) rfl (?_)))))
        obtain ⟨B3164, s3165, m3166, hl3167, hk3168⟩ := ho3163.publish s3160
        have hB1_4 : ∀ b, vo1_4.ownBlock = some b → b ∈ B3164 := fun b hb => hk3168 b (hB1_4 b hb) (ne3123 b hb)
        have lim3169 := hl3167.len_le
        have h_l := h_l.mv m3166
        have ho1_4 := ho1_4.mv m3166 (Keep.refl [] _) (by simp)
        have hl3107 := hl3107.mv m3166
        have h_secret := h_secret.mv m3166
        refine wl_s (o_callK (vs := [vo0_9, v3118]) enter_24 (c_coeff (O := B3164 ++ O) vo0_9 (expX l (l[0]!.threshold.toNat - 1 - l.length)) v3118 (expY l secret[k]! k (l[0]!.threshold.toNat - 1 - l.length)) w3159 hl3107 hl3167 (by rw [expX_len]; omega) s3165.lt) rfl s3165 fun v3170 w3171 s3172 m3173 k3174 r3175 => (?_))
        obtain ⟨x3176, rfl, hl3177⟩ := r3175
        have := hl3177.len_le
        have h_l := h_l.mv m3173
        have ho1_4 := ho1_4.mv m3173 k3174 (by simp)
        have hl3107 := hl3107.mv m3173
        have h_secret := h_secret.mv m3173
        refine wl_s (o_move (Value.tuple #[x3176, vI ((coeff (expX l (l[0]!.threshold.toNat - 1 - l.length)) (expY l secret[k]! k (l[0]!.threshold.toNat - 1 - l.length))).2)]) rfl (wl_s (o_extract (x3176) rfl rfl (wl_s (o_extract (vI ((coeff (expX l (l[0]!.threshold.toNat - 1 - l.length)) (expY l secret[k]! k (l[0]!.threshold.toNat - 1 - l.length))).2)) rfl rfl (wl_s (o_assign (x3176) rfl (wl_s (o_assign (vI ((coeff (expX l (l[0]!.threshold.toNat - 1 - l.length)) (expY l secret[k]! k (l[0]!.threshold.toNat - 1 - l.length))).2)) rfl (wl_nil (thenQ_n (?_))))))))))))
        refine cw_region (by kernel_rfl) (wl_s (o_move (vo1_4) rfl (wl_s (o_move (x3176) rfl (wl_s (o_sliceR Try.underlying28 s_5 1 (((coeff (expX l (l[0]!.threshold.toNat - 1 - l.length)) (expY l secret[k]! k (l[0]!.threshold.toNat - 1 - l.length))).1).length) rfl (.inr ⟨.const (vI (1 : Int)), .i64, (1 : Int), rfl, rfl, rfl⟩) (.inl ⟨rfl, rfl⟩) (by rw [hco]; omega) (Nat.le_refl _) hl3177 fun v3178 hl3179 => (?_)))))))
        rw [List.take_length] at hl3179
        refine wl_s (o_append (E := Enc.u8) (l := (expL l secret (l[0]!.threshold.toNat - 1 - l.length) k)) (m := (((coeff (expX l (l[0]!.threshold.toNat - 1 - l.length)) (expY l secret[k]! k (l[0]!.threshold.toNat - 1 - l.length))).1).drop 1)) Try.underlying28 i_5 rfl (by decide) rfl rfl ho1_4 hl3179 (fun _ hb => .inl hb) hB1_4 (by rw [List.length_drop, hco]; omega) (by rw [List.length_drop, hco]; simp only [maxLen]; omega) s3172 fun v3184 w3180 B3186 hB3187 at3188 sub3189 s3181 m3182 k3183 ho3185 => (?_))
        have h_l := h_l.mv m3182
        have hl3107 := hl3107.mv m3182
        have h_secret := h_secret.mv m3182
        refine wl_s (o_assign (v3184) rfl (wl_nil (blockQ_n (thenQ_n (?_)))))
        refine cw_region (by kernel_rfl) (wl_s (o_add .i64 ((k : Nat) : Int) (1 : Int) (((k + 1 : Nat) : Int)) rfl rfl (w64 (by omega) (by omega)) (wl_s (o_move (vI ((k + 1 : Nat) : Int)) rfl (wl_nil (thenQ_n (?_)))))))
        exact ⟨_, (by omega), (k + 1), v3184, B3186, (by first | omega | (simp; done) | (simp; omega) | simp_all), rfl, ⟨_, upds_self _ ⟨rfl, rfl, rfl, rfl, rfl, rfl, (by first | rfl | exact congrArg (Value.int _) (by first | omega | (simp))), rfl, trivial⟩⟩, s3181, (by rw [show (expL l secret (l[0]!.threshold.toNat - 1 - l.length) (k + 1)) = (expL l secret (l[0]!.threshold.toNat - 1 - l.length) k) ++ (((coeff (expX l (l[0]!.threshold.toNat - 1 - l.length)) (expY l secret[k]! k (l[0]!.threshold.toNat - 1 - l.length))).1).drop 1) from rfl]; exact ho3185), hB3187, h_l, hl3107, h_secret⟩
       ·have hp3190 : (secret.length : Int) ≤ ((k : Nat) : Int) := by first | simpa using hc3110 | (have e := hc3110; simp at e; omega)
        obtain rfl : k = secret.length := by omega
        refine cw_exit (thenQ_x (thenQ_x (blockQ_x (thenQ_n (?_)))))
        refine cw_seq (?_)
        refine cw_region (by kernel_rfl) (wl_s (o_move (vo1_4) rfl (wl_s (o_assign (vo1_4) rfl (wl_s (o_assign (vI (0 : Int)) rfl (wl_nil (thenQ_n (?_)))))))))
        refine cw_ret (end_r rfl (res2 rfl rfl rfl rfl) (?_))
        have e : (explainM l secret) = ((expL l secret (l[0]!.threshold.toNat - 1 - l.length) secret.length), (0 : Int)) := by first | exact explainM_ok (by omega) (by omega) (by omega) rfl | exact explainM_bad (by omega) rfl | exact explainM_many (by omega) (by omega) rfl | exact explainM_arg (by omega) (by omega) (by omega) rfl
        exact ⟨_, rfl, sl1.keep, by rw [e]; exact ⟨vo1_4, rfl, ho1_4.pub sl1⟩⟩

end Go.Proofs.Yteajcgfcnbdmgaa
