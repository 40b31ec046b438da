/- Walks, printed by gen.py. -/
import Derived.Test.YteajcgfcnbdmgaaWbD
import Derived.Test.YteajcgfcnbdmgaaMaU
set_option linter.unusedSimpArgs false
set_option linter.unusedVariables false
namespace Go.Proofs.Yteajcgfcnbdmgaa
open Go.Fw Go.RowKit

set_option maxHeartbeats 4000000 in
set_option maxRecDepth 100000 in
theorem c_refJoin {O : List Nat} (l_v : Value) (l : List Share) (w : World) (h_l : RdL Enc.share w O l_v l) (hO : ∀ b ∈ O, b < w.heap.size) : CallsK Try.prog 36 [l_v] w (fun v w' => ∃ (x0 : Value), v = .tuple #[x0, vI ((refJoinM l).2)] ∧ RdL Enc.u8 w' (O) x0 ((refJoinM l).1)) :=  by
 have lim_l := h_l.len_le
 have h_l : RdL Enc.share w ([] ++ O) l_v l := h_l
 have s0 : St w O w [] := St.start hO
 refine callsK_of 54 Try.func36 rfl rfl (of_decide_eq_true rfl) (fun F0 => ?_)
 refine cw_seq (?_)
 refine cw_region (by kernel_rfl) (wl_s (o_assign (Value.slice none 0 0) rfl (wl_s (o_assign (vI (0 : Int)) rfl (wl_nil (thenQ_n (?_)))))))
 refine cw_seq (?_)
 refine cw_region (by kernel_rfl) (wl_s (o_move (l_v) rfl (wl_s (o_callK (vs := [l_v]) enter_33 (c_refCheck8 (O := [] ++ O) l_v l w h_l s0.lt) rfl s0 fun v2926 w2927 s2928 m2929 k2930 r2931 => (?_)))))
 obtain rfl := r2931
 have h_l := h_l.mv m2929
 refine wl_s (o_assign (vI (refCheckM l)) rfl (wl_nil (thenQ_n (?_))))
 refine cw_seq (?_)
 refine cw_seq (?_)
 refine cw_region (by kernel_rfl) (wl_s (o_move (vI (refCheckM l)) rfl (wl_s (o_neq .i64 (refCheckM l) (0 : Int) rfl rfl (wl_nil (thenQ_n (?_)))))))
 refine cw_cond ((refCheckM l) != (0 : Int)) rfl rfl (fun hc2932 => ?_) (fun hc2932 => ?_)
 ·have hp2933 : refCheckM l ≠ (0 : Int) := by first | simpa using hc2932 | (have e := hc2932; simp at e; omega)
  refine cw_seq (?_)
  refine cw_region (by kernel_rfl) (wl_s (o_move (vI (refCheckM l)) rfl (wl_s (o_assign (Value.slice none 0 0) rfl (wl_s (o_assign (vI (refCheckM l)) rfl (wl_nil (thenQ_n (?_)))))))))
  refine cw_ret (thenQ_r (end_r rfl (res2 rfl rfl rfl rfl) (?_)))
  have e : (refJoinM l) = ([], refCheckM l) := by first | exact refJoinM_ok (by omega) (by omega) rfl | exact refJoinM_bad (by omega) rfl | exact refJoinM_few (by omega) (by omega) rfl
  exact ⟨_, rfl, s2928.keep, by rw [e]; exact ⟨.slice none 0 0, rfl, RdL.nil _ _ _⟩⟩
 ·have hp2934 : refCheckM l = (0 : Int) := by first | simpa using hc2932 | (have e := hc2932; simp at e; omega)
  have hv := (check_iff l).1 (by rw [← refCheck_eq]; exact hp2934)
  have hpos := hv.pos
  have ht1 := hv.t1
  have htm := hv.tm
  have hm8 := hv.m8
  have hd64 := hv.d64
  refine cw_skip (thenQ_n (?_))
  refine cw_seq (?_)
  refine cw_seq (?_)
  refine cw_region (by kernel_rfl) (wl_s (o_move (l_v) rfl (wl_s (o_lenR Try.underlying38 rfl h_l (wl_s (o_move (l_v) rfl (wl_s (o_idx Try.underlying38 s_53 .i64 (0 : Int) 0 rfl rfl rfl h_l (by omega) fun a2935 hp2936 => (wl_s (o_fieldR 2 f_53_2 ((l[0]!).threshold) rfl hp2936 (fun _ _ _ h => Enc_share_f2 h) fun a2937 hp2938 => (wl_s (o_loadI Try.underlying3 rfl rfl hp2938 (wl_s (o_lss .i64 (l.length : Int) ((l[0]!).threshold) rfl rfl (wl_nil (thenQ_n (?_)))))))))))))))))
  refine cw_cond (decide ((l.length : Int) < (l[0]!).threshold)) rfl rfl (fun hc2939 => ?_) (fun hc2939 => ?_)
  ·have hp2940 : (l.length : Int) < (l[0]!).threshold := by first | simpa using hc2939 | (have e := hc2939; simp at e; omega)
   refine cw_seq (?_)
   refine cw_region (by kernel_rfl) (wl_s (o_assign (Value.slice none 0 0) rfl (wl_s (o_assign (vI (80 : Int)) rfl (wl_nil (thenQ_n (?_)))))))
   refine cw_ret (thenQ_r (end_r rfl (res2 rfl rfl rfl rfl) (?_)))
   have e : (refJoinM l) = ([], (80 : Int)) := by first | exact refJoinM_ok (by omega) (by omega) rfl | exact refJoinM_bad (by omega) rfl | exact refJoinM_few (by omega) (by omega) rfl
   exact ⟨_, rfl, s2928.keep, by rw [e]; exact ⟨.slice none 0 0, rfl, RdL.nil _ _ _⟩⟩
  ·have hp2941 : (l[0]!).threshold ≤ (l.length : Int) := by first | simpa using hc2939 | (have e := hc2939; simp at e; omega)
   have htk : (l.take (l[0]!.threshold).toNat).length = l[0]!.threshold.toNat := by rw [List.length_take]; omega
   refine cw_skip (thenQ_n (?_))
   refine cw_seq (?_)
   refine cw_region (by kernel_rfl) (wl_s (o_assign (.slice none 0 0) rfl (wl_nil (thenQ_n (?_)))))
   refine cw_seq (?_)
   refine cw_seq (?_)
   refine cw_region (by kernel_rfl) (wl_s (o_assign (vI (0 : Int)) rfl (wl_nil (thenQ_n (?_)))))
   refine cw_block (?_)
   refine cw_loop (fun mI FI wI => ∃ (k : Nat) (vo0_5 : Value) (B : List Nat), k ≤ l[0]!.data.length ∧ mI = l[0]!.data.length - k ∧ (∃ F1, FI = upds F1 [(0, l_v), (5, vo0_5), (6, vI ((k : Nat) : Int)), (54, undef)]) ∧ St w O wI B ∧ Own Enc.u8 5 w.heap.size (B ++ O) wI vo0_5 ((refJoinL l k)) ∧ (∀ b, vo0_5.ownBlock = some b → b ∈ B) ∧ RdL Enc.share wI (B ++ O) (l_v) (l)) (l[0]!.data.length - (0)) ?_ ?_
   ·exact ⟨(0), (.slice none 0 0), [], (by first | omega | (simp; done) | (simp; omega) | simp_all), rfl, ⟨_, upds_self _ ⟨rfl, rfl, (by first | rfl | exact congrArg (Value.int _) (by first | omega | (simp))), rfl, trivial⟩⟩, s2928, (by rw [show (refJoinL l (0)) = [] from rfl]; exact (Own.nil Enc.u8 5 _ _ _)), (by intro b hb; simp [Value.ownBlock] at hb), h_l⟩
   ·intro ml0 F wl0 hI
    clear h_l
    obtain ⟨k, vo0_5, Bl0, hr0_0, hm0, ⟨Fl0, rfl⟩, sl0, ho0_5, hB0_5, h_l⟩ := hI
    refine cw_seq (?_)
    refine cw_seq (?_)
    refine cw_region (by kernel_rfl) (wl_s (o_move (vI ((k : Nat) : Int)) rfl (wl_s (o_move (l_v) rfl (wl_s (o_idx Try.underlying38 s_53 .i64 (0 : Int) 0 rfl rfl rfl h_l (by omega) fun a2942 hp2943 => (wl_s (o_fieldR 4 f_53_4 ((l[0]!).data) rfl hp2943 (fun _ _ _ h => Enc_share_f4 h) fun a2944 hp2945 => (wl_s (o_loadL Try.underlying28 rfl rfl hp2945 fun v2946 hl2947 => (?_)))))))))))
    have := hl2947.len_le
    refine wl_s (o_lenR Try.underlying28 rfl hl2947 (wl_s (o_lss .i64 ((k : Nat) : Int) (((l[0]!).data).length : Int) rfl rfl (wl_nil (thenQ_n (?_))))))
    refine cw_cond (decide (((k : Nat) : Int) < (((l[0]!).data).length : Int))) rfl rfl (fun hc2948 => ?_) (fun hc2948 => ?_)
    ·have hp2949 : ((k : Nat) : Int) < (((l[0]!).data).length : Int) := by first | simpa using hc2948 | (have e := hc2948; simp at e; omega)
     refine cw_skip (thenQ_n (?_))
     refine cw_seq (?_)
     refine cw_block (?_)
     refine cw_seq (?_)
     refine cw_region (by kernel_rfl) (wl_s (o_move (l_v) rfl (wl_s (o_move (l_v) rfl (wl_s (o_idx Try.underlying38 s_53 .i64 (0 : Int) 0 rfl rfl rfl h_l (by omega) fun a2950 hp2951 => (wl_s (o_fieldR 2 f_53_2 ((l[0]!).threshold) rfl hp2951 (fun _ _ _ h => Enc_share_f2 h) fun a2952 hp2953 => (wl_s (o_loadI Try.underlying3 rfl rfl hp2953 (wl_s (o_sliceR Try.underlying38 s_53 0 (((l[0]!).threshold).toNat) rfl (.inl ⟨rfl, rfl⟩) (.inr ⟨.tmp 37, .i64, ((l[0]!).threshold), rfl, rfl, (by omega)⟩) (by omega) (by omega) h_l fun v2954 hl2955 => (?_)))))))))))))
     rw [List.drop_zero] at hl2955
     refine wl_s (o_move (vI ((k : Nat) : Int)) rfl (wl_s (o_call [v2954, vI ((k : Nat) : Int)] _ enter_61 rfl (calls_of_cw 37 Try.func61 rfl rfl (of_decide_eq_true rfl) (fun F2956 => ?_)) (fun _ _ h => h))))
     refine cw_seq (?_)
     refine cw_region (by kernel_rfl) (wl_s (o_assign (Value.slice none 0 0) rfl (wl_s (o_assign (Value.slice none 0 0) rfl (wl_nil (thenQ_n (?_)))))))
     refine cw_seq (?_)
     refine cw_region (by kernel_rfl) (wl_s (o_assign (.slice none 0 0) rfl (wl_s (o_assign (.slice none 0 0) rfl (wl_nil (thenQ_n (?_)))))))
     refine cw_seq (?_)
     refine cw_seq (?_)
     refine cw_region (by kernel_rfl) (wl_s (o_assign (vI (0 : Int)) rfl (wl_nil (thenQ_n (?_)))))
     refine cw_block (?_)
     refine cw_loop (fun mI FI wI => ∃ (q : Nat) (vop0_6 : Value) (vop0_7 : Value) (B : List Nat), q ≤ (l.take (l[0]!.threshold).toNat).length ∧ mI = (l.take (l[0]!.threshold).toNat).length - q ∧ (∃ F1, FI = upds F1 [(0, v2954), (1, vI ((k : Nat) : Int)), (6, vop0_6), (7, vop0_7), (8, vI ((q : Nat) : Int)), (37, undef)]) ∧ St w O wI B ∧ Own Enc.u8 5 w.heap.size (B ++ O) wI vop0_6 ((ptX (l.take (l[0]!.threshold).toNat) q)) ∧ (∀ b, vop0_6.ownBlock = some b → b ∈ B) ∧ Own Enc.u8 5 w.heap.size (B ++ O) wI vop0_7 ((ptY (l.take (l[0]!.threshold).toNat) k q)) ∧ (∀ b, vop0_7.ownBlock = some b → b ∈ B) ∧ RdL Enc.share wI (B ++ O) (v2954) ((l.take (((l[0]!).threshold).toNat))) ∧ RdL Enc.share wI (B ++ O) (l_v) (l) ∧ Own Enc.u8 5 w.heap.size (B ++ O) wI vo0_5 ((refJoinL l k)) ∧ (∀ b, vo0_5.ownBlock = some b → b ∈ B) ∧ PT Enc.share wI (B ++ O) (.pointer (some a2942)) (l[0]!) ∧ PT (Enc.slice Enc.u8) wI (B ++ O) (.pointer (some a2944)) ((l[0]!).data) ∧ RdL Enc.u8 wI (B ++ O) (v2946) ((l[0]!).data) ∧ PT Enc.share wI (B ++ O) (.pointer (some a2950)) (l[0]!) ∧ PT Enc.int wI (B ++ O) (.pointer (some a2952)) ((l[0]!).threshold) ∧ (∀ b, vop0_6.ownBlock = some b → vo0_5.ownBlock ≠ some b) ∧ (∀ b, vo0_5.ownBlock = some b → vop0_6.ownBlock ≠ some b) ∧ (∀ b, vop0_7.ownBlock = some b → vo0_5.ownBlock ≠ some b) ∧ (∀ b, vo0_5.ownBlock = some b → vop0_7.ownBlock ≠ some b) ∧ (∀ b, vop0_6.ownBlock = some b → vop0_7.ownBlock ≠ some b) ∧ (∀ b, vop0_7.ownBlock = some b → vop0_6.ownBlock ≠ some b)) ((l.take (l[0]!.threshold).toNat).length - (0)) ?_ ?_
     ·exact ⟨(0), (.slice none 0 0), (.slice none 0 0), Bl0, (by first | omega | (simp; done) | (simp; omega) | simp_all), rfl, ⟨_, upds_self _ ⟨rfl, rfl, rfl, rfl, (by first | rfl | exact congrArg (Value.int _) (by first | omega | (simp))), rfl, trivial⟩⟩, sl0, (by rw [show (ptX (l.take (l[0]!.threshold).toNat) (0)) = [] from rfl]; exact (Own.nil Enc.u8 5 _ _ _)), (by intro b hb; simp [Value.ownBlock] at hb), (by rw [show (ptY (l.take (l[0]!.threshold).toNat) k (0)) = [] from rfl]; exact (Own.nil Enc.u8 5 _ _ _)), (by intro b hb; simp [Value.ownBlock] at hb), hl2955, h_l, ho0_5, hB0_5, hp2943, hp2945, hl2947, hp2951, hp2953, (fun b hb => by first | (simp [Value.ownBlock] at hb; done) | (simp [Value.ownBlock]; done) | (intro e; simp_all; done)), (fun b hb => by first | (simp [Value.ownBlock] at hb; done) | (simp [Value.ownBlock]; done) | (intro e; simp_all; done)), (fun b hb => by first | (simp [Value.ownBlock] at hb; done) | (simp [Value.ownBlock]; done) | (intro e; simp_all; done)), (fun b hb => by first | (simp [Value.ownBlock] at hb; done) | (simp [Value.ownBlock]; done) | (intro e; simp_all; done)), (fun b hb => by first | (simp [Value.ownBlock] at hb; done) | (simp [Value.ownBlock]; done) | (intro e; simp_all; done)), (fun b hb => by first | (simp [Value.ownBlock] at hb; done) | (simp [Value.ownBlock]; done) | (intro e; simp_all; done))⟩
     ·intro mlp0 F wlp0 hI
      clear hl2955 h_l ho0_5 hB0_5 hp2943 hp2945 hl2947 hp2951 hp2953
      obtain ⟨q, vop0_6, vop0_7, Blp0, hrp0_0, hmp0, ⟨Flp0, rfl⟩, slp0, hop0_6, hBp0_6, hop0_7, hBp0_7, hl2955, h_l, ho0_5, hB0_5, hp2943, hp2945, hl2947, hp2951, hp2953, nop0_6_vo0_5, npp0_6_vo0_5, nop0_7_vo0_5, npp0_7_vo0_5, nnp0_6_7, nnp0_7_6⟩ := hI
      refine cw_seq (?_)
      refine cw_seq (?_)
      refine cw_region (by kernel_rfl) (wl_s (o_move (vI ((q : Nat) : Int)) rfl (wl_s (o_move (v2954) rfl (wl_s (o_lenR Try.underlying38 rfl hl2955 (wl_s (o_lss .i64 ((q : Nat) : Int) ((l.take (((l[0]!).threshold).toNat)).length : Int) rfl rfl (wl_nil (thenQ_n (?_)))))))))))
      refine cw_cond (decide (((q : Nat) : Int) < ((l.take (((l[0]!).threshold).toNat)).length : Int))) rfl rfl (fun hc2957 => ?_) (fun hc2957 => ?_)
      ·have hp2958 : ((q : Nat) : Int) < ((l.take (((l[0]!).threshold).toNat)).length : Int) := by first | simpa using hc2957 | (have e := hc2957; simp at e; omega)
       refine cw_skip (thenQ_n (?_))
       refine cw_seq (?_)
       refine cw_block (?_)
       refine cw_seq (?_)
       refine cw_region (by kernel_rfl) (wl_s (o_move (vop0_6) rfl (wl_s (o_move (v2954) rfl (wl_s (o_move (vI ((q : Nat) : Int)) rfl (wl_s (o_idx Try.underlying38 s_53 .i64 ((q : Nat) : Int) q rfl rfl rfl hl2955 (by omega) fun a2959 hp2960 => (wl_s (o_fieldR 1 f_53_1 (((l.take (((l[0]!).threshold).toNat))[q]!).index) rfl hp2960 (fun _ _ _ h => Enc_share_f1 h) fun a2961 hp2962 => (wl_s (o_loadI Try.underlying3 rfl rfl hp2962 (wl_s (o_u8of .i64 Try.underlying3 Try.underlying5 (((l.take (((l[0]!).threshold).toNat))[q]!).index) rfl (wl_s (o_lit (E := Enc.u8) (xs := [.tmp 21]) Try.underlying28 s_5 z_5 (by decide) [vB (u8of (((l.take (((l[0]!).threshold).toNat))[q]!).index))] [[vB (u8of (((l.take (((l[0]!).threshold).toNat))[q]!).index))]] [u8of (((l.take (((l[0]!).threshold).toNat))[q]!).index)] rfl rfl rfl (Parts.cons rfl rfl (Parts.nil _ _ _)) (of_decide_eq_true rfl) slp0 fun v2967 w2963 s2964 m2965 k2966 hl2968 => (?_)))))))))))))))))
       have hl2955 := hl2955.mv m2965
       have hop0_6 := hop0_6.mv m2965 k2966 (by simp)
       have hop0_7 := hop0_7.mv m2965 k2966 (by simp)
       have h_l := h_l.mv m2965
       have ho0_5 := ho0_5.mv m2965 k2966 (by simp)
       have hp2943 := hp2943.mv m2965
       have hp2945 := hp2945.mv m2965
       have hl2947 := hl2947.mv m2965
       have hp2951 := hp2951.mv m2965
       have hp2953 := hp2953.mv m2965
       have := hl2968.len_le
       refine wl_s (o_append (E := Enc.u8) (l := (ptX (l.take (l[0]!.threshold).toNat) q)) (m := [u8of (((l.take (((l[0]!).threshold).toNat))[q]!).index)]) Try.underlying28 i_5 rfl (by decide) rfl rfl hop0_6 hl2968 (fun _ hb => .inl hb) hBp0_6 (by rw [ptX_len]; simp; omega) (by rw [ptX_len]; simp [maxLen]; omega) s2964 fun v2973 w2969 B2975 hB2976 at2977 sub2978 s2970 m2971 k2972 ho2974 => (?_))
       have ne2979 : ∀ b, vop0_7.ownBlock = some b → v2973.ownBlock ≠ some b := fun b hb e => by rcases at2977 with e1 | e1 <;> rw [e1] at e <;> first | (simp [Value.ownBlock] at e; done) | (exact absurd e (nnp0_7_6 b hb)) | (cases e; have := (hop0_7.lt _ hb).2; omega)
       have ne2980 : ∀ b, vo0_5.ownBlock = some b → v2973.ownBlock ≠ some b := fun b hb e => by rcases at2977 with e1 | e1 <;> rw [e1] at e <;> first | (simp [Value.ownBlock] at e; done) | (exact absurd e (npp0_6_vo0_5 b hb)) | (cases e; have := (ho0_5.lt _ hb).2; omega)
       have hBp0_7 : ∀ b, vop0_7.ownBlock = some b → b ∈ B2975 := fun b hb => sub2978 b (hBp0_7 b hb)
       have hB0_5 : ∀ b, vo0_5.ownBlock = some b → b ∈ B2975 := fun b hb => sub2978 b (hB0_5 b hb)
       have hl2955 := hl2955.mv m2971
       have hop0_7 := hop0_7.mv m2971 k2972 (fun b hb => by simp only [Option.mem_toList]; first | (simp [Value.ownBlock]; done) | exact nnp0_7_6 b hb)
       have h_l := h_l.mv m2971
       have ho0_5 := ho0_5.mv m2971 k2972 (fun b hb => by simp only [Option.mem_toList]; first | (simp [Value.ownBlock]; done) | exact npp0_6_vo0_5 b hb)
       have hp2943 := hp2943.mv m2971
       have hp2945 := hp2945.mv m2971
       have hl2947 := hl2947.mv m2971
       have hp2951 := hp2951.mv m2971
       have hp2953 := hp2953.mv m2971
       refine wl_s (o_assign (v2973) rfl (wl_nil (thenQ_n (?_))))
       refine cw_region (by kernel_rfl) (wl_s (o_move (vop0_7) rfl (wl_s (o_move (v2954) rfl (wl_s (o_move (vI ((q : Nat) : Int)) rfl (wl_s (o_idx Try.underlying38 s_53 .i64 ((q : Nat) : Int) q rfl rfl rfl hl2955 (by omega) fun a2981 hp2982 => (wl_s (o_fieldR 4 f_53_4 (((l.take (((l[0]!).threshold).toNat))[q]!).data) rfl hp2982 (fun _ _ _ h => Enc_share_f4 h) fun a2983 hp2984 => (wl_s (o_loadL Try.underlying28 rfl rfl hp2984 fun v2985 hl2986 => (?_)))))))))))))
       have := hl2986.len_le
       refine wl_s (o_move (vI ((k : Nat) : Int)) rfl (wl_s (o_idx Try.underlying28 s_5 .i64 ((k : Nat) : Int) k rfl rfl rfl hl2986 (by rw [takeS (by omega), hv.da q (by omega)]; omega) fun a2987 hp2988 => (wl_s (o_loadB Try.underlying5 rfl rfl hp2988 (wl_s (o_lit (E := Enc.u8) (xs := [.tmp 32]) Try.underlying28 s_5 z_5 (by decide) [vB ((((l.take (((l[0]!).threshold).toNat))[q]!).data)[k]!)] [[vB ((((l.take (((l[0]!).threshold).toNat))[q]!).data)[k]!)]] [(((l.take (((l[0]!).threshold).toNat))[q]!).data)[k]!] rfl rfl rfl (Parts.cons rfl rfl (Parts.nil _ _ _)) (of_decide_eq_true rfl) s2970 fun v2993 w2989 s2990 m2991 k2992 hl2994 => (?_))))))))
       have hl2955 := hl2955.mv m2991
       have ho2974 := ho2974.mv m2991 k2992 (by simp)
       have hop0_7 := hop0_7.mv m2991 k2992 (by simp)
       have h_l := h_l.mv m2991
       have ho0_5 := ho0_5.mv m2991 k2992 (by simp)
       have hp2943 := hp2943.mv m2991
       have hp2945 := hp2945.mv m2991
       have hl2947 := hl2947.mv m2991
       have hp2951 := hp2951.mv m2991
       have hp2953 := hp2953.mv m2991
       have := hl2994.len_le
       refine wl_s (o_append (E := Enc.u8) (l := (ptY (l.take (l[0]!.threshold).toNat) k q)) (m := [(((l.take (((l[0]!).threshold).toNat))[q]!).data)[k]!]) Try.underlying28 i_5 rfl (by decide) rfl rfl hop0_7 hl2994 (fun _ hb => .inl hb) hBp0_7 (by rw [ptY_len]; simp; omega) (by rw [ptY_len]; simp [maxLen]; omega) s2990 fun v2999 w2995 B3001 hB3002 at3003 sub3004 s2996 m2997 k2998 ho3000 => (?_))
       have ne3005 : ∀ b, v2973.ownBlock = some b → v2999.ownBlock ≠ some b := fun b hb e => by rcases at3003 with e1 | e1 <;> rw [e1] at e <;> first | (simp [Value.ownBlock] at e; done) | (exact absurd e ((fun b hb e => ne2979 b e hb) b hb)) | (cases e; have := (ho2974.lt _ hb).2; omega)
       have ne3006 : ∀ b, vo0_5.ownBlock = some b → v2999.ownBlock ≠ some b := fun b hb e => by rcases at3003 with e1 | e1 <;> rw [e1] at e <;> first | (simp [Value.ownBlock] at e; done) | (exact absurd e (npp0_7_vo0_5 b hb)) | (cases e; have := (ho0_5.lt _ hb).2; omega)
       have hB2976 : ∀ b, v2973.ownBlock = some b → b ∈ B3001 := fun b hb => sub3004 b (hB2976 b hb)
       have hB0_5 : ∀ b, vo0_5.ownBlock = some b → b ∈ B3001 := fun b hb => sub3004 b (hB0_5 b hb)
       have hl2955 := hl2955.mv m2997
       have ho2974 := ho2974.mv m2997 k2998 (fun b hb => by simp only [Option.mem_toList]; first | (simp [Value.ownBlock]; done) | exact (fun b hb e => ne2979 b e hb) b hb)
       have h_l := h_l.mv m2997
       have ho0_5 := ho0_5.mv m2997 k2998 (fun b hb => by simp only [Option.mem_toList]; first | (simp [Value.ownBlock]; done) | exact npp0_7_vo0_5 b hb)
       have hp2943 := hp2943.mv m2997
       have hp2945 := hp2945.mv m2997
       have hl2947 := hl2947.mv m2997
       have hp2951 := hp2951.mv m2997
       have hp2953 := hp2953.mv m2997
       refine wl_s (o_assign (v2999) rfl (wl_nil (blockQ_n (thenQ_n (?_)))))
       refine cw_region (by kernel_rfl) (wl_s (o_move (vI ((q : Nat) : Int)) rfl (wl_s (o_add .i64 ((q : Nat) : Int) (1 : Int) (((q + 1 : Nat) : Int)) rfl rfl (w64 (by omega) (by omega)) (wl_s (o_assign (vI ((q + 1 : Nat) : Int)) rfl (wl_nil (thenQ_n (?_)))))))))
       exact ⟨_, (by omega), (q + 1), v2973, v2999, B3001, (by first | omega | (simp; done) | (simp; omega) | simp_all), rfl, ⟨_, upds_self _ ⟨rfl, rfl, rfl, rfl, (by first | rfl | exact congrArg (Value.int _) (by first | omega | (simp))), rfl, trivial⟩⟩, s2996, (by rw [show (ptX (l.take (l[0]!.threshold).toNat) (q + 1)) = (ptX (l.take (l[0]!.threshold).toNat) q) ++ ([u8of (((l.take (((l[0]!).threshold).toNat))[q]!).index)]) from ptX_succ _ _]; exact ho2974), hB2976, (by rw [show (ptY (l.take (l[0]!.threshold).toNat) k (q + 1)) = (ptY (l.take (l[0]!.threshold).toNat) k q) ++ ([(((l.take (((l[0]!).threshold).toNat))[q]!).data)[k]!]) from ptY_succ _ _ _]; exact ho3000), hB3002, hl2955, h_l, ho0_5, hB0_5, hp2943, hp2945, hl2947, hp2951, hp2953, (fun b hb e => ne2980 b e hb), ne2980, (fun b hb e => ne3006 b e hb), ne3006, ne3005, (fun b hb e => ne3005 b e hb)⟩
      ·have hp3007 : ((l.take (((l[0]!).threshold).toNat)).length : Int) ≤ ((q : Nat) : Int) := by first | simpa using hc2957 | (have e := hc2957; simp at e; omega)
       obtain rfl : q = (l.take (l[0]!.threshold).toNat).length := by omega
       refine cw_exit (thenQ_x (thenQ_x (blockQ_x (thenQ_n (?_)))))
       refine cw_seq (?_)
       refine cw_region (by kernel_rfl) (wl_s (o_move (vop0_6) rfl (wl_s (o_move (vop0_7) rfl (wl_s (o_assign (vop0_6) rfl (wl_s (o_assign (vop0_7) rfl (wl_nil (thenQ_n (?_)))))))))))
       refine cw_ret (end_r rfl (res2 rfl rfl rfl rfl) (Exists.intro _ (And.intro rfl (?_))))
       refine wl_s (o_move (Value.tuple #[vop0_6, vop0_7]) rfl (wl_s (o_extract (vop0_6) rfl rfl (wl_s (o_extract (vop0_7) rfl rfl (wl_s (o_assign (vop0_6) rfl (wl_s (o_assign (vop0_7) rfl (wl_nil (thenQ_n (?_))))))))))))
       refine cw_seq (?_)
       refine cw_region (by kernel_rfl) (wl_s (o_move (vop0_6) rfl (wl_s (o_move (vop0_7) rfl (wl_s (o_callK (vs := [vop0_6, vop0_7, vB (0 : UInt8)]) enter_23 (c_refThrough (O := []) vop0_6 (ptX (l.take (l[0]!.threshold).toNat) ((l.take (l[0]!.threshold).toNat).length)) vop0_7 (ptY (l.take (l[0]!.threshold).toNat) k ((l.take (l[0]!.threshold).toNat).length)) (0 : UInt8) wlp0 hop0_6.rd0 hop0_7.rd0 no_blocks) rfl slp0 fun v3008 w3009 s3010 m3011 k3012 r3013 => (?_)))))))
       obtain rfl := r3013
       have h_l := h_l.mv m3011
       have ho0_5 := ho0_5.mv m3011 k3012 (by simp)
       have hop0_6 := hop0_6.mv m3011 k3012 (by simp)
       have hop0_7 := hop0_7.mv m3011 k3012 (by simp)
       refine wl_s (o_move (Value.tuple #[vB ((refThrough (ptX (l.take (l[0]!.threshold).toNat) ((l.take (l[0]!.threshold).toNat).length)) (ptY (l.take (l[0]!.threshold).toNat) k ((l.take (l[0]!.threshold).toNat).length)) (0 : UInt8)).1), vI ((refThrough (ptX (l.take (l[0]!.threshold).toNat) ((l.take (l[0]!.threshold).toNat).length)) (ptY (l.take (l[0]!.threshold).toNat) k ((l.take (l[0]!.threshold).toNat).length)) (0 : UInt8)).2)]) rfl (wl_s (o_extract (vB ((refThrough (ptX (l.take (l[0]!.threshold).toNat) ((l.take (l[0]!.threshold).toNat).length)) (ptY (l.take (l[0]!.threshold).toNat) k ((l.take (l[0]!.threshold).toNat).length)) (0 : UInt8)).1)) rfl rfl (wl_s (o_extract (vI ((refThrough (ptX (l.take (l[0]!.threshold).toNat) ((l.take (l[0]!.threshold).toNat).length)) (ptY (l.take (l[0]!.threshold).toNat) k ((l.take (l[0]!.threshold).toNat).length)) (0 : UInt8)).2)) rfl rfl (wl_s (o_assign (vB ((refThrough (ptX (l.take (l[0]!.threshold).toNat) ((l.take (l[0]!.threshold).toNat).length)) (ptY (l.take (l[0]!.threshold).toNat) k ((l.take (l[0]!.threshold).toNat).length)) (0 : UInt8)).1)) rfl (wl_s (o_assign (vI ((refThrough (ptX (l.take (l[0]!.threshold).toNat) ((l.take (l[0]!.threshold).toNat).length)) (ptY (l.take (l[0]!.threshold).toNat) k ((l.take (l[0]!.threshold).toNat).length)) (0 : UInt8)).2)) rfl (wl_nil (thenQ_n (?_))))))))))))
       refine cw_region (by kernel_rfl) (wl_s (o_move (vo0_5) rfl (wl_s (o_move (vB ((refThrough (ptX (l.take (l[0]!.threshold).toNat) ((l.take (l[0]!.threshold).toNat).length)) (ptY (l.take (l[0]!.threshold).toNat) k ((l.take (l[0]!.threshold).toNat).length)) (0 : UInt8)).1)) rfl (wl_s (o_lit (E := Enc.u8) (xs := [.tmp 50]) Try.underlying28 s_5 z_5 (by decide) [vB ((refThrough (ptX (l.take (l[0]!.threshold).toNat) ((l.take (l[0]!.threshold).toNat).length)) (ptY (l.take (l[0]!.threshold).toNat) k ((l.take (l[0]!.threshold).toNat).length)) (0 : UInt8)).1)] [[vB ((refThrough (ptX (l.take (l[0]!.threshold).toNat) ((l.take (l[0]!.threshold).toNat).length)) (ptY (l.take (l[0]!.threshold).toNat) k ((l.take (l[0]!.threshold).toNat).length)) (0 : UInt8)).1)]] [(refThrough (ptX (l.take (l[0]!.threshold).toNat) ((l.take (l[0]!.threshold).toNat).length)) (ptY (l.take (l[0]!.threshold).toNat) k ((l.take (l[0]!.threshold).toNat).length)) (0 : UInt8)).1] rfl rfl rfl (Parts.cons rfl rfl (Parts.nil _ _ _)) (of_decide_eq_true rfl) s3010 fun v3018 w3014 s3015 m3016 k3017 hl3019 => (?_)))))))
       have h_l := h_l.mv m3016
       have ho0_5 := ho0_5.mv m3016 k3017 (by simp)
       have hop0_6 := hop0_6.mv m3016 k3017 (by simp)
       have hop0_7 := hop0_7.mv m3016 k3017 (by simp)
       have := hl3019.len_le
       refine wl_s (o_append (E := Enc.u8) (l := (refJoinL l k)) (m := [(refThrough (ptX (l.take (l[0]!.threshold).toNat) ((l.take (l[0]!.threshold).toNat).length)) (ptY (l.take (l[0]!.threshold).toNat) k ((l.take (l[0]!.threshold).toNat).length)) (0 : UInt8)).1]) Try.underlying28 i_5 rfl (by decide) rfl rfl ho0_5 hl3019 (fun _ hb => .inl hb) hB0_5 (by rw [refJoinL, tab_len]; simp; omega) (by rw [refJoinL, tab_len]; simp [maxLen]; omega) s3015 fun v3024 w3020 B3026 hB3027 at3028 sub3029 s3021 m3022 k3023 ho3025 => (?_))
       have ne3030 : ∀ b, vop0_6.ownBlock = some b → v3024.ownBlock ≠ some b := fun b hb e => by rcases at3028 with e1 | e1 <;> rw [e1] at e <;> first | (simp [Value.ownBlock] at e; done) | (exact absurd e (nop0_6_vo0_5 b hb)) | (cases e; have := (hop0_6.lt _ hb).2; omega)
       have ne3031 : ∀ b, vop0_7.ownBlock = some b → v3024.ownBlock ≠ some b := fun b hb e => by rcases at3028 with e1 | e1 <;> rw [e1] at e <;> first | (simp [Value.ownBlock] at e; done) | (exact absurd e (nop0_7_vo0_5 b hb)) | (cases e; have := (hop0_7.lt _ hb).2; omega)
       have hBp0_6 : ∀ b, vop0_6.ownBlock = some b → b ∈ B3026 := fun b hb => sub3029 b (hBp0_6 b hb)
       have hBp0_7 : ∀ b, vop0_7.ownBlock = some b → b ∈ B3026 := fun b hb => sub3029 b (hBp0_7 b hb)
       have h_l := h_l.mv m3022
       refine wl_s (o_assign (v3024) rfl (wl_nil (blockQ_n (thenQ_n (?_)))))
       refine cw_region (by kernel_rfl) (wl_s (o_move (vI ((k : Nat) : Int)) rfl (wl_s (o_add .i64 ((k : Nat) : Int) (1 : Int) (((k + 1 : Nat) : Int)) rfl rfl (w64 (by omega) (by omega)) (wl_s (o_assign (vI ((k + 1 : Nat) : Int)) rfl (wl_nil (thenQ_n (?_)))))))))
       exact ⟨_, (by omega), (k + 1), v3024, B3026, (by first | omega | (simp; done) | (simp; omega) | simp_all), rfl, ⟨_, upds_self _ ⟨rfl, rfl, (by first | rfl | exact congrArg (Value.int _) (by first | omega | (simp))), rfl, trivial⟩⟩, s3021, (by rw [show (refJoinL l (k + 1)) = (refJoinL l k) ++ ([(refThrough (ptX (l.take (l[0]!.threshold).toNat) ((l.take (l[0]!.threshold).toNat).length)) (ptY (l.take (l[0]!.threshold).toNat) k ((l.take (l[0]!.threshold).toNat).length)) (0 : UInt8)).1]) from refJoinL_succ _ _]; exact ho3025), hB3027, h_l⟩
    ·have hp3032 : (((l[0]!).data).length : Int) ≤ ((k : Nat) : Int) := by first | simpa using hc2948 | (have e := hc2948; simp at e; omega)
     obtain rfl : k = l[0]!.data.length := by omega
     refine cw_exit (thenQ_x (thenQ_x (blockQ_x (thenQ_n (?_)))))
     refine cw_seq (?_)
     refine cw_region (by kernel_rfl) (wl_s (o_move (vo0_5) rfl (wl_s (o_assign (vo0_5) rfl (wl_s (o_assign (vI (0 : Int)) rfl (wl_nil (thenQ_n (?_)))))))))
     refine cw_ret (end_r rfl (res2 rfl rfl rfl rfl) (?_))
     have e : (refJoinM l) = ((refJoinL l (l[0]!.data.length)), (0 : Int)) := by first | exact refJoinM_ok (by omega) (by omega) rfl | exact refJoinM_bad (by omega) rfl | exact refJoinM_few (by omega) (by omega) rfl
     exact ⟨_, rfl, sl0.keep, by rw [e]; exact ⟨vo0_5, rfl, ho0_5.pub sl0⟩⟩

end Go.Proofs.Yteajcgfcnbdmgaa
