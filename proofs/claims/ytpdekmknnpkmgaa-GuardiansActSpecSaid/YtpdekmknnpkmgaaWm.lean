/- Walks, printed by gen.py. -/
import Derived.Test.YtpdekmknnpkmgaaWg
set_option linter.unusedSimpArgs false
set_option linter.unusedVariables false
namespace Go.Proofs.Ytpdekmknnpkmgaa
open Go.Fw Go.RowKit

set_option maxHeartbeats 4000000 in
set_option maxRecDepth 100000 in
theorem c_refChk {O : List Nat} (c_cs : List Value) (c : Circle) (no : Int) (w : World) (h_c : Enc.circle.rd w O c_cs c) (hO : ∀ b ∈ O, b < w.heap.size) : CallsK Try.prog 46 [.agg c_cs.toArray, vI no] w (fun v _ => v = vI (gChkM c no)) :=  by
 have h_c : Enc.circle.rd w ([] ++ O) c_cs c := h_c
 have s0 : St w O w [] := St.start hO
 refine callsK_of 20 Try.func46 rfl rfl (of_decide_eq_true rfl) (fun F0 => ?_)
 refine cw_seq (?_)
 refine cw_region (by kernel_rfl) (wl_s (o_boxR (E := Enc.circle) (Value.agg c_cs.toArray) (c_cs) c rfl rfl h_c s0 fun a3103 w3104 s3105 m3106 k3107 hp3108 => (?_)))
 refine wl_s (o_assign (vI (0 : Int)) rfl (wl_nil (thenQ_n (?_))))
 refine cw_seq (?_)
 refine cw_region (by kernel_rfl) (wl_s (o_loadS Try.underlying25 rfl s_25 rfl hp3108 fun cs3109 hs3110 => (wl_s (o_callK (vs := [Value.agg cs3109.toArray]) enter_17 (c_refCheck (O := [] ++ O) cs3109 c w3104 hs3110 s3105.lt) rfl s3105 fun v3111 w3112 s3113 m3114 k3115 r3116 => (?_)))))
 obtain rfl := r3116
 have hp3108 := hp3108.mv m3114
 refine wl_s (o_assign (vI (gCheck c)) rfl (wl_nil (thenQ_n (?_))))
 refine cw_seq (?_)
 refine cw_seq (?_)
 refine cw_region (by kernel_rfl) (wl_s (o_move (vI (gCheck c)) rfl (wl_s (o_neq .i64 (gCheck c) (0 : Int) rfl rfl (wl_nil (thenQ_n (?_)))))))
 refine cw_cond ((gCheck c) != (0 : Int)) rfl rfl (fun hc3117 => ?_) (fun hc3117 => ?_)
 ·have hp3118 : gCheck c ≠ (0 : Int) := by first | simpa using hc3117 | (have e := hc3117; simp at e; omega)
  refine cw_seq (?_)
  refine cw_region (by kernel_rfl) (wl_s (o_move (vI (gCheck c)) rfl (wl_s (o_assign (vI (gCheck c)) rfl (wl_nil (thenQ_n (?_)))))))
  refine cw_ret (thenQ_r (end_r rfl (res1 rfl rfl rfl) (?_)))
  have e : (gChkM c no) = (gCheck c) := by first | exact gChk_1 (by assumption) | exact gChk_2 (by assumption) (by omega) | exact gChk_3 (by assumption) (by omega) (by omega)
  exact ⟨_, rfl, s3113.keep, by rw [e]; exact rfl⟩
 ·have hp3119 : gCheck c = (0 : Int) := by first | simpa using hc3117 | (have e := hc3117; simp at e; omega)
  refine cw_skip (thenQ_n (?_))
  refine cw_seq (?_)
  refine cw_seq (?_)
  refine cw_region (by kernel_rfl) (wl_s (o_move (vI no) rfl (wl_s (o_lss .i64 no (0 : Int) rfl rfl (wl_s (o_move (Value.bool (decide (no < (0 : Int)))) rfl (?_)))))))
  cases hb3120 : (decide (no < (0 : Int)))
  ·have hp3121 : (0 : Int) ≤ no := by first | simpa using hb3120 | (have e := hb3120; simp at e; omega)
   refine wl_t rfl (o_move (vI no) rfl (wl_t rfl (o_fieldR 4 f_25_4 (c.recs) rfl hp3108 (fun _ _ _ h => Enc_circle_f4 h) fun a3122 hp3123 => (wl_t rfl (o_loadL Try.underlying23 rfl rfl hp3123 fun v3124 hl3125 => (?_))))))
   have := hl3125.len_le
   refine wl_t rfl (o_lenR Try.underlying23 rfl hl3125 (wl_t rfl (o_geq .i64 no (c.recs.length : Int) rfl rfl (wl_s (o_pickF (Value.bool (decide ((c.recs.length : Int) ≤ no))) rfl rfl (wl_nil (thenQ_n (?_))))))))
   refine cw_cond (decide ((c.recs.length : Int) ≤ no)) rfl rfl (fun hc3126 => ?_) (fun hc3126 => ?_)
   ·have hp3127 : (c.recs.length : Int) ≤ no := by first | simpa using hc3126 | (have e := hc3126; simp at e; omega)
    refine cw_seq (?_)
    refine cw_region (by kernel_rfl) (wl_s (o_assign (vI (1 : Int)) rfl (wl_nil (thenQ_n (?_)))))
    refine cw_ret (thenQ_r (end_r rfl (res1 rfl rfl rfl) (?_)))
    have e : (gChkM c no) = (1 : Int) := by first | exact gChk_1 (by assumption) | exact gChk_2 (by assumption) (by omega) | exact gChk_3 (by assumption) (by omega) (by omega)
    exact ⟨_, rfl, s3113.keep, by rw [e]; exact rfl⟩
   ·have hp3128 : no < (c.recs.length : Int) := by first | simpa using hc3126 | (have e := hc3126; simp at e; omega)
    refine cw_skip (thenQ_n (?_))
    refine cw_seq (?_)
    refine cw_region (by kernel_rfl) (wl_s (o_assign (vI (0 : Int)) rfl (wl_nil (thenQ_n (?_)))))
    refine cw_ret (end_r rfl (res1 rfl rfl rfl) (?_))
    have e : (gChkM c no) = (0 : Int) := by first | exact gChk_1 (by assumption) | exact gChk_2 (by assumption) (by omega) | exact gChk_3 (by assumption) (by omega) (by omega)
    exact ⟨_, rfl, s3113.keep, by rw [e]; exact rfl⟩
  ·have hp3129 : no < (0 : Int) := by first | simpa using hb3120 | (have e := hb3120; simp at e; omega)
   refine wl_k rfl (wl_k rfl (wl_k rfl (wl_k rfl (wl_k rfl (wl_s (o_pickT (Value.bool true) rfl rfl (wl_nil (thenQ_n (?_)))))))))
   refine cw_cond true rfl rfl (fun _ => ?_) (fun h => by cases h)
   refine cw_seq (?_)
   refine cw_region (by kernel_rfl) (wl_s (o_assign (vI (1 : Int)) rfl (wl_nil (thenQ_n (?_)))))
   refine cw_ret (thenQ_r (end_r rfl (res1 rfl rfl rfl) (?_)))
   have e : (gChkM c no) = (1 : Int) := by first | exact gChk_1 (by assumption) | exact gChk_2 (by assumption) (by omega) | exact gChk_3 (by assumption) (by omega) (by omega)
   exact ⟨_, rfl, s3113.keep, by rw [e]; exact rfl⟩
set_option maxHeartbeats 4000000 in
set_option maxRecDepth 100000 in
theorem c_refIns {O : List Nat} (l_v : Value) (l : List Int) (x : Int) (w : World) (h_l : RdL Enc.int w O l_v l) (hpre0 : l.length ≤ 1000000) (hO : ∀ b ∈ O, b < w.heap.size) : CallsK Try.prog 47 [l_v, vI x] w (fun v w' => ∃ (x0 : Value), v = x0 ∧ RdL Enc.int w' (O) x0 (putIn l x)) :=  by
 have lim_l := h_l.len_le
 have h_l : RdL Enc.int w ([] ++ O) l_v l := h_l
 have s0 : St w O w [] := St.start hO
 refine callsK_of 34 Try.func47 rfl rfl (of_decide_eq_true rfl) (fun F0 => ?_)
 refine cw_seq (?_)
 refine cw_region (by kernel_rfl) (wl_s (o_assign (Value.slice none 0 0) rfl (wl_nil (thenQ_n (?_)))))
 refine cw_seq (?_)
 refine cw_region (by kernel_rfl) (wl_s (o_assign (vI (0 : Int)) rfl (wl_nil (thenQ_n (?_)))))
 refine cw_seq (?_)
 refine cw_block (?_)
 refine cw_loop (fun mI FI wI => ∃ (k : Nat), k ≤ l.length ∧ (∀ q, q < k → l[q]! < x) ∧ mI = l.length - k ∧ (∃ F1, FI = upds F1 [(0, l_v), (1, vI x), (5, vI ((k : Nat) : Int)), (34, undef)]) ∧ w = wI) (l.length - (0)) ?_ ?_
 ·exact ⟨(0), (by first | omega | (simp; done) | (simp; omega) | simp_all), (fun q hq => by omega), rfl, ⟨_, upds_self _ ⟨rfl, rfl, (by first | rfl | exact congrArg (Value.int _) (by first | omega | (simp))), rfl, trivial⟩⟩, rfl⟩
 ·rintro ml0 F wl0 ⟨k, hr0_0, hr0_1, hm0, ⟨Fl0, rfl⟩, rfl⟩
  refine cw_seq (?_)
  refine cw_seq (?_)
  refine cw_region (by kernel_rfl) (wl_s (o_move (vI ((k : Nat) : Int)) rfl (wl_s (o_move (l_v) rfl (wl_s (o_lenR Try.underlying22 rfl h_l (wl_s (o_lss .i64 ((k : Nat) : Int) (l.length : Int) rfl rfl (wl_s (o_move (Value.bool (decide (((k : Nat) : Int) < (l.length : Int)))) rfl (?_)))))))))))
  cases hb3130 : (decide (((k : Nat) : Int) < (l.length : Int)))
  ·have hp3131 : (l.length : Int) ≤ ((k : Nat) : Int) := by first | simpa using hb3130 | (have e := hb3130; simp at e; omega)
   refine wl_k rfl (wl_k rfl (wl_k rfl (wl_k rfl (wl_k rfl (wl_k rfl (wl_s (o_pickF (Value.bool false) rfl rfl (wl_nil (thenQ_n (?_))))))))))
   refine cw_cond false rfl rfl (fun h => by cases h) (fun _ => ?_)
   have htw : tw l x = k := tw_eq (by omega) hr0_1 (fun h => by omega)
   refine cw_exit (thenQ_x (thenQ_x (blockQ_x (thenQ_n (?_)))))
   refine cw_seq (?_)
   refine cw_region (by kernel_rfl) (wl_s (o_litO (E := Enc.int) (xs := []) Try.underlying22 s_3 z_3 (by decide) [] [] [] rfl rfl rfl (Parts.nil _ _ _) (of_decide_eq_true rfl) s0 fun v3136 b3138 w3132 e3139 hb3140 s3133 m3134 k3135 hl3137 => (?_)))
   have hB3141 : ∀ b, v3136.ownBlock = some b → b ∈ (b3138 :: []) := fun b hb => by rw [hb3140] at hb; cases hb; simp
   clear e3139 hb3140
   have h_l := h_l.mv m3134
   refine wl_s (o_move (l_v) rfl (wl_s (o_move (vI ((k : Nat) : Int)) rfl (wl_s (o_sliceR Try.underlying22 s_3 0 k rfl (.inl ⟨rfl, rfl⟩) (.inr ⟨.tmp 23, .i64, ((k : Nat) : Int), rfl, rfl, rfl⟩) (by omega) (by omega) h_l fun v3142 hl3143 => (?_))))))
   rw [List.drop_zero] at hl3143
   refine wl_s (o_append (E := Enc.int) (l := []) (m := (l.take k)) Try.underlying22 i_3 rfl (by decide) rfl rfl hl3137 hl3143 (fun _ hb => .inl hb) hB3141 (by simp only [List.length_append, List.length_cons, List.length_nil, List.length_take, List.length_drop]; omega) (by simp only [List.length_append, List.length_cons, List.length_nil, List.length_take, List.length_drop, maxLen]; omega) s3133 fun v3148 w3144 B3150 hB3151 at3152 sub3153 s3145 m3146 k3147 ho3149 => (?_))
   rw [List.nil_append] at ho3149
   have h_l := h_l.mv m3146
   refine wl_s (o_move (vI x) rfl (wl_s (o_lit (E := Enc.int) (xs := [.tmp 26]) Try.underlying22 s_3 z_3 (by decide) [vI x] [[vI x]] [x] rfl rfl rfl (Parts.cons rfl rfl (Parts.nil _ _ _)) (of_decide_eq_true rfl) s3145 fun v3158 w3154 s3155 m3156 k3157 hl3159 => (?_))))
   have h_l := h_l.mv m3156
   have ho3149 := ho3149.mv m3156 k3157 (by simp)
   have := hl3159.len_le
   refine wl_s (o_append (E := Enc.int) (l := (l.take k)) (m := [x]) Try.underlying22 i_3 rfl (by decide) rfl rfl ho3149 hl3159 (fun _ hb => .inl hb) hB3151 (by simp only [List.length_append, List.length_cons, List.length_nil, List.length_take, List.length_drop]; omega) (by simp only [List.length_append, List.length_cons, List.length_nil, List.length_take, List.length_drop, maxLen]; omega) s3155 fun v3164 w3160 B3166 hB3167 at3168 sub3169 s3161 m3162 k3163 ho3165 => (?_))
   have h_l := h_l.mv m3162
   refine wl_s (o_assign (v3164) rfl (wl_nil (thenQ_n (?_))))
   refine cw_seq (?_)
   refine cw_region (by kernel_rfl) (wl_s (o_move (v3164) rfl (wl_s (o_move (l_v) rfl (wl_s (o_move (vI ((k : Nat) : Int)) rfl (wl_s (o_sliceR Try.underlying22 s_3 k l.length rfl (.inr ⟨.tmp 31, .i64, ((k : Nat) : Int), rfl, rfl, rfl⟩) (.inl ⟨rfl, rfl⟩) (by omega) (by omega) h_l fun v3170 hl3171 => (?_)))))))))
   rw [List.take_length] at hl3171
   refine wl_s (o_append (E := Enc.int) (l := (l.take k) ++ ([x])) (m := (l.drop k)) Try.underlying22 i_3 rfl (by decide) rfl rfl ho3165 hl3171 (fun _ hb => .inl hb) hB3167 (by simp only [List.length_append, List.length_cons, List.length_nil, List.length_take, List.length_drop]; omega) (by simp only [List.length_append, List.length_cons, List.length_nil, List.length_take, List.length_drop, maxLen]; omega) s3161 fun v3176 w3172 B3178 hB3179 at3180 sub3181 s3173 m3174 k3175 ho3177 => (?_))
   refine wl_s (o_assign (v3176) rfl (wl_nil (thenQ_n (?_))))
   refine cw_ret (end_r rfl (res1 rfl rfl rfl) (?_))
   have e : (putIn l x) = (((l.take k) ++ ([x])) ++ (l.drop k)) := by unfold putIn; rw [htw]
   exact ⟨_, rfl, s3173.keep, by rw [e]; exact ⟨v3176, rfl, ho3177.pub s3173⟩⟩
  ·have hp3182 : ((k : Nat) : Int) < (l.length : Int) := by first | simpa using hb3130 | (have e := hb3130; simp at e; omega)
   refine wl_t rfl (o_move (l_v) rfl (wl_t rfl (o_move (vI ((k : Nat) : Int)) rfl (wl_t rfl (o_idx Try.underlying22 s_3 .i64 ((k : Nat) : Int) k rfl rfl rfl h_l (by omega) fun a3183 hp3184 => (wl_t rfl (o_loadI Try.underlying3 rfl rfl hp3184 (wl_t rfl (o_move (vI x) rfl (wl_t rfl (o_lss .i64 (l[k]!) x rfl rfl (wl_s (o_pickT (Value.bool (decide (l[k]! < x))) rfl rfl (wl_nil (thenQ_n (?_))))))))))))))))
   refine cw_cond (decide (l[k]! < x)) rfl rfl (fun hc3185 => ?_) (fun hc3185 => ?_)
   ·have hp3186 : l[k]! < x := by first | simpa using hc3185 | (have e := hc3185; simp at e; omega)
    refine cw_skip (thenQ_n (?_))
    refine cw_block (?_)
    refine cw_region (by kernel_rfl) (wl_s (o_move (vI ((k : Nat) : Int)) rfl (wl_s (o_add .i64 ((k : Nat) : Int) (1 : Int) (((k + 1 : Nat) : Int)) rfl rfl (w64 (by omega) (by omega)) (wl_s (o_assign (vI ((k + 1 : Nat) : Int)) rfl (wl_nil (blockQ_n (thenQ_n (?_))))))))))
    exact ⟨_, (by omega), (k + 1), (by omega), (all_step hr0_1 (by assumption)), rfl, ⟨_, upds_self _ ⟨rfl, rfl, (by first | rfl | exact congrArg (Value.int _) (by first | omega | (simp))), rfl, trivial⟩⟩, rfl⟩
   ·have hp3187 : x ≤ l[k]! := by first | simpa using hc3185 | (have e := hc3185; simp at e; omega)
    have htw : tw l x = k := tw_eq (by omega) hr0_1 (fun h => by omega)
    refine cw_exit (thenQ_x (thenQ_x (blockQ_x (thenQ_n (?_)))))
    refine cw_seq (?_)
    refine cw_region (by kernel_rfl) (wl_s (o_litO (E := Enc.int) (xs := []) Try.underlying22 s_3 z_3 (by decide) [] [] [] rfl rfl rfl (Parts.nil _ _ _) (of_decide_eq_true rfl) s0 fun v3192 b3194 w3188 e3195 hb3196 s3189 m3190 k3191 hl3193 => (?_)))
    have hB3197 : ∀ b, v3192.ownBlock = some b → b ∈ (b3194 :: []) := fun b hb => by rw [hb3196] at hb; cases hb; simp
    clear e3195 hb3196
    have h_l := h_l.mv m3190
    refine wl_s (o_move (l_v) rfl (wl_s (o_move (vI ((k : Nat) : Int)) rfl (wl_s (o_sliceR Try.underlying22 s_3 0 k rfl (.inl ⟨rfl, rfl⟩) (.inr ⟨.tmp 23, .i64, ((k : Nat) : Int), rfl, rfl, rfl⟩) (by omega) (by omega) h_l fun v3198 hl3199 => (?_))))))
    rw [List.drop_zero] at hl3199
    refine wl_s (o_append (E := Enc.int) (l := []) (m := (l.take k)) Try.underlying22 i_3 rfl (by decide) rfl rfl hl3193 hl3199 (fun _ hb => .inl hb) hB3197 (by simp only [List.length_append, List.length_cons, List.length_nil, List.length_take, List.length_drop]; omega) (by simp only [List.length_append, List.length_cons, List.length_nil, List.length_take, List.length_drop, maxLen]; omega) s3189 fun v3204 w3200 B3206 hB3207 at3208 sub3209 s3201 m3202 k3203 ho3205 => (?_))
    rw [List.nil_append] at ho3205
    have h_l := h_l.mv m3202
    refine wl_s (o_move (vI x) rfl (wl_s (o_lit (E := Enc.int) (xs := [.tmp 26]) Try.underlying22 s_3 z_3 (by decide) [vI x] [[vI x]] [x] rfl rfl rfl (Parts.cons rfl rfl (Parts.nil _ _ _)) (of_decide_eq_true rfl) s3201 fun v3214 w3210 s3211 m3212 k3213 hl3215 => (?_))))
    have h_l := h_l.mv m3212
    have ho3205 := ho3205.mv m3212 k3213 (by simp)
    have := hl3215.len_le
    refine wl_s (o_append (E := Enc.int) (l := (l.take k)) (m := [x]) Try.underlying22 i_3 rfl (by decide) rfl rfl ho3205 hl3215 (fun _ hb => .inl hb) hB3207 (by simp only [List.length_append, List.length_cons, List.length_nil, List.length_take, List.length_drop]; omega) (by simp only [List.length_append, List.length_cons, List.length_nil, List.length_take, List.length_drop, maxLen]; omega) s3211 fun v3220 w3216 B3222 hB3223 at3224 sub3225 s3217 m3218 k3219 ho3221 => (?_))
    have h_l := h_l.mv m3218
    refine wl_s (o_assign (v3220) rfl (wl_nil (thenQ_n (?_))))
    refine cw_seq (?_)
    refine cw_region (by kernel_rfl) (wl_s (o_move (v3220) rfl (wl_s (o_move (l_v) rfl (wl_s (o_move (vI ((k : Nat) : Int)) rfl (wl_s (o_sliceR Try.underlying22 s_3 k l.length rfl (.inr ⟨.tmp 31, .i64, ((k : Nat) : Int), rfl, rfl, rfl⟩) (.inl ⟨rfl, rfl⟩) (by omega) (by omega) h_l fun v3226 hl3227 => (?_)))))))))
    rw [List.take_length] at hl3227
    refine wl_s (o_append (E := Enc.int) (l := (l.take k) ++ ([x])) (m := (l.drop k)) Try.underlying22 i_3 rfl (by decide) rfl rfl ho3221 hl3227 (fun _ hb => .inl hb) hB3223 (by simp only [List.length_append, List.length_cons, List.length_nil, List.length_take, List.length_drop]; omega) (by simp only [List.length_append, List.length_cons, List.length_nil, List.length_take, List.length_drop, maxLen]; omega) s3217 fun v3232 w3228 B3234 hB3235 at3236 sub3237 s3229 m3230 k3231 ho3233 => (?_))
    refine wl_s (o_assign (v3232) rfl (wl_nil (thenQ_n (?_))))
    refine cw_ret (end_r rfl (res1 rfl rfl rfl) (?_))
    have e : (putIn l x) = (((l.take k) ++ ([x])) ++ (l.drop k)) := by unfold putIn; rw [htw]
    exact ⟨_, rfl, s3229.keep, by rw [e]; exact ⟨v3232, rfl, ho3233.pub s3229⟩⟩
set_option maxHeartbeats 4000000 in
set_option maxRecDepth 100000 in
theorem c_refWith {O : List Nat} (c_cs : List Value) (c : Circle) (r_cs : List Value) (r : Recovery) (w : World) (h_c : Enc.circle.rd w O c_cs c) (h_r : Enc.recovery.rd w O r_cs r) (hpre0 : c.recs.length ≤ 1024) (hpre1 : 0 ≤ r.no) (hpre2 : r.no < (c.recs.length : Int)) (hO : ∀ b ∈ O, b < w.heap.size) : CallsK Try.prog 48 [.agg c_cs.toArray, .agg r_cs.toArray] w (fun v w' => ∃ (x0 : List Value), v = .agg x0.toArray ∧ Enc.circle.rd w' (O) x0 (withM c r)) :=  by
 have h_c : Enc.circle.rd w ([] ++ O) c_cs c := h_c
 have h_r : Enc.recovery.rd w ([] ++ O) r_cs r := h_r
 have s0 : St w O w [] := St.start hO
 refine callsK_of 17 Try.func48 rfl rfl (of_decide_eq_true rfl) (fun F0 => ?_)
 refine cw_seq (?_)
 refine cw_region (by kernel_rfl) (?_)
 obtain ⟨d3238, d3240, rfl, hd3239, hd3241⟩ := h_c
 have := hd3239.len_le
 have := hd3241.len_le
 refine wl_s (o_box (Value.agg #[vI c.epoch, vI c.threshold, vI c.wait, d3238, d3240]) [vI c.epoch, vI c.threshold, vI c.wait, d3238, d3240] rfl rfl s0 fun b3242 w3243 e3248 s3244 m3245 k3246 bx3247 => (?_))
 clear e3248
 have hd3239 := hd3239.mv m3245
 have hd3241 := hd3241.mv m3245
 have h_r : Enc.recovery.rd w3243 ((b3242 :: []) ++ O) r_cs (r) := Enc.mv Enc.recovery (x := r) h_r m3245
 refine wl_s (o_boxR (E := Enc.recovery) (Value.agg r_cs.toArray) (r_cs) r rfl rfl h_r s3244 fun a3249 w3250 s3251 m3252 k3253 hp3254 => (?_))
 have hd3239 := hd3239.mv m3252
 have hd3241 := hd3241.mv m3252
 have bx3247 := bx3247.keep k3253 (by simp)
 refine wl_s (o_alloc [vI (0 : Int), vI (0 : Int), vI (0 : Int), Value.slice none 0 0, Value.slice none 0 0] z_25 rfl s3251 fun b3255 w3256 e3261 s3257 m3258 k3259 bx3260 => (?_))
 have ne3262 : b3242 ≠ b3255 := by have := bx3247.lt; omega
 clear e3261
 have hd3239 := hd3239.mv m3258
 have hd3241 := hd3241.mv m3258
 have hp3254 := hp3254.mv m3258
 have bx3247 := bx3247.keep k3259 (by simp)
 refine wl_nil (thenQ_n (?_))
 refine cw_seq (?_)
 refine cw_region (by kernel_rfl) (wl_s (o_litO (E := Enc.recovery) (xs := []) Try.underlying23 s_47 z_47 (by decide) [] [] [] rfl rfl rfl (Parts.nil _ _ _) (of_decide_eq_true rfl) s3257 fun v3267 b3269 w3263 e3270 hb3271 s3264 m3265 k3266 hl3268 => (?_)))
 have ne3272 : ∀ b, v3267.ownBlock = some b → b ≠ b3242 := fun b hb => by have := bx3247.lt; rw [hb3271] at hb; cases hb; omega
 have ne3273 : ∀ b, v3267.ownBlock = some b → b ≠ b3255 := fun b hb => by have := bx3260.lt; rw [hb3271] at hb; cases hb; omega
 have hB3274 : ∀ b, v3267.ownBlock = some b → b ∈ (b3269 :: (b3255 :: (b3242 :: []))) := fun b hb => by rw [hb3271] at hb; cases hb; simp
 clear e3270 hb3271
 have hd3239 := hd3239.mv m3265
 have hd3241 := hd3241.mv m3265
 have hp3254 := hp3254.mv m3265
 have bx3247 := bx3247.keep k3266 (by simp)
 have bx3260 := bx3260.keep k3266 (by simp)
 refine wl_s (o_fieldL 4 f_25_4 rfl (wl_s (o_loadBx Try.underlying23 rfl (d3240) rfl bx3247 rfl (wl_s (o_append (E := Enc.recovery) (l := []) (m := c.recs) Try.underlying23 i_47 rfl (by decide) rfl rfl hl3268 hd3241 (fun _ hb => .inl hb) hB3274 (by simp only [List.length_append, List.length_cons, List.length_nil]; omega) (by simp only [List.length_append, List.length_cons, List.length_nil, maxLen]; omega) s3264 fun v3279 w3275 B3281 hB3282 at3283 sub3284 s3276 m3277 k3278 ho3280 => (?_))))))
 rw [List.nil_append] at ho3280
 have ne3285 : ∀ b, v3279.ownBlock = some b → b ≠ b3242 := fun b hb => by rcases at3283 with e1 | e1 <;> rw [e1] at hb <;> first | (simp [Value.ownBlock] at hb; done) | (cases hb; have := bx3247.lt; omega) | (exact ne3272 b hb)
 have ne3286 : ∀ b, v3279.ownBlock = some b → b ≠ b3255 := fun b hb => by rcases at3283 with e1 | e1 <;> rw [e1] at hb <;> first | (simp [Value.ownBlock] at hb; done) | (cases hb; have := bx3260.lt; omega) | (exact ne3273 b hb)
 have hin_b3242 : b3242 ∈ B3281 := sub3284 b3242 (by repeat (first | assumption | constructor))
 have hin_b3255 : b3255 ∈ B3281 := sub3284 b3255 (by repeat (first | assumption | constructor))
 have hd3239 := hd3239.mv m3277
 have hp3254 := hp3254.mv m3277
 have bx3247 := bx3247.keep k3278 (by simp only [Option.mem_toList]; first | (simp [Value.ownBlock]; done) | exact fun e => absurd rfl (ne3272 _ e))
 have bx3260 := bx3260.keep k3278 (by simp only [Option.mem_toList]; first | (simp [Value.ownBlock]; done) | exact fun e => absurd rfl (ne3273 _ e))
 refine wl_s (o_fieldL 4 f_25_4 rfl (wl_n (o_store1 (v3279) rfl rfl ho3280.oneCell s_23 (by repeat (first | assumption | constructor)) bx3247 (of_decide_eq_true rfl) s3276 fun w3287 s3288 m3289 k3290 bx3291 => (?_))))
 have hd3239 := hd3239.mv m3289
 have hp3254 := hp3254.mv m3289
 have ho3280 := ho3280.mv m3289 k3290 (fun b hb => nin1 (ne3285 b hb))
 have bx3260 := bx3260.keep k3290 (nin1 (Ne.symm ne3262))
 refine wl_nil (thenQ_n (?_))
 refine cw_seq (?_)
 refine cw_region (by kernel_rfl) (wl_s (o_fieldL 4 f_25_4 rfl (wl_s (o_loadBx Try.underlying23 rfl (v3279) rfl bx3291 rfl (wl_s (o_fieldR 0 f_47_0 (r.no) rfl hp3254 (fun _ _ _ h => Enc_recovery_f0 h) fun a3292 hp3293 => (wl_s (o_loadI Try.underlying3 rfl rfl hp3293 (wl_s (o_loadS Try.underlying47 rfl s_47 rfl hp3254 fun cs3294 hs3295 => (wl_s (o_indexO Try.underlying23 s_47 .i64 r.no r.no.toNat rfl rfl (by omega) ho3280 (by omega) fun b3296 hb3297 => (wl_n (o_storeOA r (by decide) s_47 rfl rfl ho3280 hb3297 (hB3282 _ hb3297) (by omega) hs3295 s3288 fun w3298 s3299 m3300 k3301 bx3302 => (?_)))))))))))))))
 have hd3239 := hd3239.mv m3300
 have bx3291 := bx3291.keep k3301 (by simp only [List.mem_singleton]; exact fun e => absurd e.symm (ne3285 _ hb3297))
 have bx3260 := bx3260.keep k3301 (by simp only [List.mem_singleton]; exact fun e => absurd e.symm (ne3286 _ hb3297))
 refine wl_nil (thenQ_n (?_))
 refine cw_seq (?_)
 refine cw_region (by kernel_rfl) (wl_s (o_loadBxA (vs := [vI c.epoch, vI c.threshold, vI c.wait, d3238, v3279]) Try.underlying25 rfl s_25 rfl bx3291 rfl (wl_n (o_store (vs := [vI c.epoch, vI c.threshold, vI c.wait, d3238, v3279]) (.agg #[vI c.epoch, vI c.threshold, vI c.wait, d3238, v3279]) rfl rfl rfl s_25 (fun u hu => by simp only [List.mem_cons, List.not_mem_nil, or_false] at hu; rcases hu with rfl | rfl | rfl | rfl | rfl <;> first | rfl | exact hd3239.oneCell | exact bx3302.oneCell) (by repeat (first | assumption | constructor)) bx3260 (of_decide_eq_true rfl) s3299 fun w3303 s3304 m3305 k3306 bx3307 => (?_)))))
 have hd3239 := hd3239.mv m3305
 have bx3302 := bx3302.mv m3305 k3306 (fun b hb => nin1 (ne3286 b hb))
 refine wl_nil (thenQ_n (?_))
 refine cw_ret (end_r rfl (rescA (vs := [vI c.epoch, vI c.threshold, vI c.wait, d3238, v3279]) rfl rfl Try.underlying25 rfl s_25 rfl bx3307 rfl) (?_))
 have e : (withM c r) = (⟨c.epoch, c.threshold, c.wait, c.guardians, c.recs.set r.no.toNat r⟩ : Circle) := rfl
 exact ⟨_, rfl, s3304.keep, by rw [e]; exact ⟨[vI c.epoch, vI c.threshold, vI c.wait, d3238, v3279], rfl, ⟨_, _, rfl, hd3239.out, (bx3302.pub s3304)⟩⟩⟩
set_option maxHeartbeats 4000000 in
set_option maxRecDepth 100000 in
theorem c_refApprove {O : List Nat} (c_cs : List Value) (c : Circle) (no : Int) (guardian : Int) (w : World) (h_c : Enc.circle.rd w O c_cs c) (hO : ∀ b ∈ O, b < w.heap.size) : CallsK Try.prog 19 [.agg c_cs.toArray, vI no, vI guardian] w (fun v w' => ∃ (x0 : List Value), v = .tuple #[.agg x0.toArray, vI ((gAct c no (fApprove c guardian)).2)] ∧ Enc.circle.rd w' (O) x0 ((gAct c no (fApprove c guardian)).1)) :=  by
 have h_c : Enc.circle.rd w ([] ++ O) c_cs c := h_c
 have s0 : St w O w [] := St.start hO
 refine callsK_of 49 Try.func19 rfl rfl (of_decide_eq_true rfl) (fun F0 => ?_)
 refine cw_seq (?_)
 refine cw_region (by kernel_rfl) (wl_s (o_boxR (E := Enc.circle) (Value.agg c_cs.toArray) (c_cs) c rfl rfl h_c s0 fun a3308 w3309 s3310 m3311 k3312 hp3313 => (?_)))
 refine wl_s (o_alloc [vI (0 : Int), vI (0 : Int), vI (0 : Int), Value.slice none 0 0, Value.slice none 0 0] z_25 rfl s3310 fun b3314 w3315 e3320 s3316 m3317 k3318 bx3319 => (?_))
 clear e3320
 have hp3313 := hp3313.mv m3317
 refine wl_s (o_assign (vI (0 : Int)) rfl (wl_nil (thenQ_n (?_))))
 refine cw_seq (?_)
 refine cw_region (by kernel_rfl) (wl_s (o_loadS Try.underlying25 rfl s_25 rfl hp3313 fun cs3321 hs3322 => (wl_s (o_move (vI no) rfl (wl_s (o_callK (vs := [Value.agg cs3321.toArray, vI no]) enter_46 (c_refChk (O := (b3314 :: []) ++ O) cs3321 c no w3315 hs3322 s3316.lt) rfl s3316 fun v3323 w3324 s3325 m3326 k3327 r3328 => (?_)))))))
 obtain rfl := r3328
 have hp3313 := hp3313.mv m3326
 have bx3319 := bx3319.keep k3327 (by simp)
 refine wl_s (o_assign (vI (gChkM c no)) rfl (wl_nil (thenQ_n (?_))))
 refine cw_seq (?_)
 refine cw_seq (?_)
 refine cw_region (by kernel_rfl) (wl_s (o_move (vI (gChkM c no)) rfl (wl_s (o_neq .i64 (gChkM c no) (0 : Int) rfl rfl (wl_nil (thenQ_n (?_)))))))
 refine cw_cond ((gChkM c no) != (0 : Int)) rfl rfl (fun hc3329 => ?_) (fun hc3329 => ?_)
 ·have hp3330 : gChkM c no ≠ (0 : Int) := by first | simpa using hc3329 | (have e := hc3329; simp at e; omega)
  refine cw_seq (?_)
  refine cw_region (by kernel_rfl) (wl_s (o_build (l := []) pl_25 z_25 rfl [] [vI (0 : Int), vI (0 : Int), vI (0 : Int), Value.slice none 0 0, Value.slice none 0 0] rfl rfl (wl_s (o_move (vI (gChkM c no)) rfl (wl_n (o_store (vs := [vI (0 : Int), vI (0 : Int), vI (0 : Int), Value.slice none 0 0, Value.slice none 0 0]) (.agg #[vI (0 : Int), vI (0 : Int), vI (0 : Int), Value.slice none 0 0, Value.slice none 0 0]) rfl rfl rfl s_25 (fun u hu => by simp only [List.mem_cons, List.not_mem_nil, or_false] at hu; rcases hu with rfl | rfl | rfl | rfl | rfl <;> first | rfl) (by repeat (first | assumption | constructor)) bx3319 (of_decide_eq_true rfl) s3325 fun w3331 s3332 m3333 k3334 bx3335 => (?_)))))))
  refine wl_s (o_assign (vI (gChkM c no)) rfl (wl_nil (thenQ_n (?_))))
  refine cw_ret (thenQ_r (end_r rfl (resv2 rfl (rv_A (vs := [vI (0 : Int), vI (0 : Int), vI (0 : Int), Value.slice none 0 0, Value.slice none 0 0]) rfl Try.underlying25 rfl s_25 rfl bx3335 rfl) (rv_t rfl rfl)) (?_)))
  have e3336 : ((gAct c no (fApprove c guardian)).1) = (⟨(0 : Int), (0 : Int), (0 : Int), [], []⟩ : Circle) := by first | exact congrArg (fun p => p.1) (show gAct c no (fApprove c guardian) = _ from gChk_bad _ (by assumption)) | exact congrArg (fun p => p.1) (show gAct c no (fApprove c guardian) = _ from app_dead hok hn1 hn2 (by assumption)) | exact congrArg (fun p => p.1) (show gAct c no (fApprove c guardian) = _ from app_done hok hn1 hn2 (by assumption)) | exact congrArg (fun p => p.1) (show gAct c no (fApprove c guardian) = _ from rp_not hok hn1 hn2 (by assumption) (by assumption) (by assumption)) | exact congrArg (fun p => p.1) (show gAct c no (fApprove c guardian) = _ from rp_had hok hn1 hn2 (by assumption) (by assumption) (by assumption) (by assumption)) | exact congrArg (fun p => p.1) (show gAct c no (fApprove c guardian) = _ from rp_new hok hn1 hn2 (by assumption) (by assumption) (by assumption) (by assumption))
  have e3337 : ((gAct c no (fApprove c guardian)).2) = (gChkM c no) := by first | exact congrArg (fun p => p.2) (show gAct c no (fApprove c guardian) = _ from gChk_bad _ (by assumption)) | exact congrArg (fun p => p.2) (show gAct c no (fApprove c guardian) = _ from app_dead hok hn1 hn2 (by assumption)) | exact congrArg (fun p => p.2) (show gAct c no (fApprove c guardian) = _ from app_done hok hn1 hn2 (by assumption)) | exact congrArg (fun p => p.2) (show gAct c no (fApprove c guardian) = _ from rp_not hok hn1 hn2 (by assumption) (by assumption) (by assumption)) | exact congrArg (fun p => p.2) (show gAct c no (fApprove c guardian) = _ from rp_had hok hn1 hn2 (by assumption) (by assumption) (by assumption) (by assumption)) | exact congrArg (fun p => p.2) (show gAct c no (fApprove c guardian) = _ from rp_new hok hn1 hn2 (by assumption) (by assumption) (by assumption) (by assumption))
  exact ⟨_, rfl, s3332.keep, by rw [e3336, e3337]; exact ⟨[vI (0 : Int), vI (0 : Int), vI (0 : Int), Value.slice none 0 0, Value.slice none 0 0], rfl, Enc.out (B := (b3314 :: [])) ⟨.slice none 0 0, .slice none 0 0, rfl, (RdL.nil _ _ _), (RdL.nil _ _ _)⟩⟩⟩
 ·have hp3338 : gChkM c no = (0 : Int) := by first | simpa using hc3329 | (have e := hc3329; simp at e; omega)
  have hc3 := gChk_ok hp3338
  have hok := hc3.1
  have hn1 := hc3.2.1
  have hn2 := hc3.2.2
  have hrl := recs_le hok
  have hrn := rec_no hok hn1 hn2
  have hal := inc_len (recOK_parts (rec_ok hok (k := no.toNat) (by omega))).2.2
  have hab := act_bounds hok hn1 hn2
  refine cw_skip (thenQ_n (?_))
  refine cw_seq (?_)
  refine cw_region (by kernel_rfl) (wl_s (o_fieldR 4 f_25_4 (c.recs) rfl hp3313 (fun _ _ _ h => Enc_circle_f4 h) fun a3339 hp3340 => (wl_s (o_loadL Try.underlying23 rfl rfl hp3340 fun v3341 hl3342 => (?_)))))
  have := hl3342.len_le
  refine wl_s (o_move (vI no) rfl (wl_s (o_idx Try.underlying23 s_47 .i64 no no.toNat rfl rfl (by omega) hl3342 (by omega) fun a3343 hp3344 => (wl_s (o_loadS Try.underlying47 rfl s_47 rfl hp3344 fun cs3345 hs3346 => (wl_s (o_alloc [vI (0 : Int), vI (0 : Int), vI (0 : Int), Value.slice none 0 0, Value.slice none 0 0] z_47 rfl s3325 fun b3347 w3348 e3353 s3349 m3350 k3351 bx3352 => (?_))))))))
  have ne3354 : b3314 ≠ b3347 := by have := bx3319.lt; omega
  clear e3353
  have hp3313 := hp3313.mv m3350
  have hs3346 : Enc.recovery.rd w3348 ((b3347 :: (b3314 :: [])) ++ O) cs3345 (c.recs[no.toNat]!) := Enc.mv Enc.recovery (x := c.recs[no.toNat]!) hs3346 m3350
  have bx3319 := bx3319.keep k3351 (by simp)
  obtain ⟨d3360, d3362, rfl, hd3361, hd3363⟩ := hs3346
  have := hd3361.len_le
  have := hd3363.len_le
  refine wl_n (o_store (vs := [vI ((c.recs[no.toNat]!).no), vI ((c.recs[no.toNat]!).asked), vI ((c.recs[no.toNat]!).state), d3360, d3362]) (.agg #[vI ((c.recs[no.toNat]!).no), vI ((c.recs[no.toNat]!).asked), vI ((c.recs[no.toNat]!).state), d3360, d3362]) rfl rfl rfl s_47 (fun u hu => by simp only [List.mem_cons, List.not_mem_nil, or_false] at hu; rcases hu with rfl | rfl | rfl | rfl | rfl <;> first | rfl | exact hd3361.oneCell | exact hd3363.oneCell) (by repeat (first | assumption | constructor)) bx3352 (of_decide_eq_true rfl) s3349 fun w3355 s3356 m3357 k3358 bx3359 => (?_))
  have hp3313 := hp3313.mv m3357
  have hd3361 := hd3361.mv m3357
  have hd3363 := hd3363.mv m3357
  have bx3319 := bx3319.keep k3358 (nin1 ne3354)
  refine wl_nil (thenQ_n (?_))
  refine cw_seq (?_)
  refine cw_seq (?_)
  refine cw_region (by kernel_rfl) (wl_s (o_fieldL 2 f_47_2 rfl (wl_s (o_loadBx Try.underlying3 rfl (vI ((c.recs[no.toNat]!).state)) rfl bx3359 rfl (wl_s (o_eql .i64 ((c.recs[no.toNat]!).state) (2 : Int) rfl rfl (wl_nil (thenQ_n (?_)))))))))
  refine cw_cond (((c.recs[no.toNat]!).state) == (2 : Int)) rfl rfl (fun hc3364 => ?_) (fun hc3364 => ?_)
  ·have hp3365 : (c.recs[no.toNat]!).state = (2 : Int) := by first | simpa using hc3364 | (have e := hc3364; simp at e; omega)
   refine cw_seq (?_)
   refine cw_region (by kernel_rfl) (wl_s (o_build (l := []) pl_25 z_25 rfl [] [vI (0 : Int), vI (0 : Int), vI (0 : Int), Value.slice none 0 0, Value.slice none 0 0] rfl rfl (wl_n (o_store (vs := [vI (0 : Int), vI (0 : Int), vI (0 : Int), Value.slice none 0 0, Value.slice none 0 0]) (.agg #[vI (0 : Int), vI (0 : Int), vI (0 : Int), Value.slice none 0 0, Value.slice none 0 0]) rfl rfl rfl s_25 (fun u hu => by simp only [List.mem_cons, List.not_mem_nil, or_false] at hu; rcases hu with rfl | rfl | rfl | rfl | rfl <;> first | rfl) (by repeat (first | assumption | constructor)) bx3319 (of_decide_eq_true rfl) s3356 fun w3366 s3367 m3368 k3369 bx3370 => (?_)))))
   refine wl_s (o_assign (vI (452 : Int)) rfl (wl_nil (thenQ_n (?_))))
   refine cw_ret (thenQ_r (end_r rfl (resv2 rfl (rv_A (vs := [vI (0 : Int), vI (0 : Int), vI (0 : Int), Value.slice none 0 0, Value.slice none 0 0]) rfl Try.underlying25 rfl s_25 rfl bx3370 rfl) (rv_t rfl rfl)) (?_)))
   have e3371 : ((gAct c no (fApprove c guardian)).1) = (⟨(0 : Int), (0 : Int), (0 : Int), [], []⟩ : Circle) := by first | exact congrArg (fun p => p.1) (show gAct c no (fApprove c guardian) = _ from gChk_bad _ (by assumption)) | exact congrArg (fun p => p.1) (show gAct c no (fApprove c guardian) = _ from app_dead hok hn1 hn2 (by assumption)) | exact congrArg (fun p => p.1) (show gAct c no (fApprove c guardian) = _ from app_done hok hn1 hn2 (by assumption)) | exact congrArg (fun p => p.1) (show gAct c no (fApprove c guardian) = _ from rp_not hok hn1 hn2 (by assumption) (by assumption) (by assumption)) | exact congrArg (fun p => p.1) (show gAct c no (fApprove c guardian) = _ from rp_had hok hn1 hn2 (by assumption) (by assumption) (by assumption) (by assumption)) | exact congrArg (fun p => p.1) (show gAct c no (fApprove c guardian) = _ from rp_new hok hn1 hn2 (by assumption) (by assumption) (by assumption) (by assumption))
   have e3372 : ((gAct c no (fApprove c guardian)).2) = (452 : Int) := by first | exact congrArg (fun p => p.2) (show gAct c no (fApprove c guardian) = _ from gChk_bad _ (by assumption)) | exact congrArg (fun p => p.2) (show gAct c no (fApprove c guardian) = _ from app_dead hok hn1 hn2 (by assumption)) | exact congrArg (fun p => p.2) (show gAct c no (fApprove c guardian) = _ from app_done hok hn1 hn2 (by assumption)) | exact congrArg (fun p => p.2) (show gAct c no (fApprove c guardian) = _ from rp_not hok hn1 hn2 (by assumption) (by assumption) (by assumption)) | exact congrArg (fun p => p.2) (show gAct c no (fApprove c guardian) = _ from rp_had hok hn1 hn2 (by assumption) (by assumption) (by assumption) (by assumption)) | exact congrArg (fun p => p.2) (show gAct c no (fApprove c guardian) = _ from rp_new hok hn1 hn2 (by assumption) (by assumption) (by assumption) (by assumption))
   exact ⟨_, rfl, s3367.keep, by rw [e3371, e3372]; exact ⟨[vI (0 : Int), vI (0 : Int), vI (0 : Int), Value.slice none 0 0, Value.slice none 0 0], rfl, Enc.out (B := (b3347 :: (b3314 :: []))) ⟨.slice none 0 0, .slice none 0 0, rfl, (RdL.nil _ _ _), (RdL.nil _ _ _)⟩⟩⟩
  ·have hp3373 : (c.recs[no.toNat]!).state ≠ (2 : Int) := by first | simpa using hc3364 | (have e := hc3364; simp at e; omega)
   refine cw_skip (thenQ_n (?_))
   refine cw_seq (?_)
   refine cw_seq (?_)
   refine cw_region (by kernel_rfl) (wl_s (o_fieldL 2 f_47_2 rfl (wl_s (o_loadBx Try.underlying3 rfl (vI ((c.recs[no.toNat]!).state)) rfl bx3359 rfl (wl_s (o_eql .i64 ((c.recs[no.toNat]!).state) (1 : Int) rfl rfl (wl_nil (thenQ_n (?_)))))))))
   refine cw_cond (((c.recs[no.toNat]!).state) == (1 : Int)) rfl rfl (fun hc3374 => ?_) (fun hc3374 => ?_)
   ·have hp3375 : (c.recs[no.toNat]!).state = (1 : Int) := by first | simpa using hc3374 | (have e := hc3374; simp at e; omega)
    refine cw_seq (?_)
    refine cw_region (by kernel_rfl) (wl_s (o_build (l := []) pl_25 z_25 rfl [] [vI (0 : Int), vI (0 : Int), vI (0 : Int), Value.slice none 0 0, Value.slice none 0 0] rfl rfl (wl_n (o_store (vs := [vI (0 : Int), vI (0 : Int), vI (0 : Int), Value.slice none 0 0, Value.slice none 0 0]) (.agg #[vI (0 : Int), vI (0 : Int), vI (0 : Int), Value.slice none 0 0, Value.slice none 0 0]) rfl rfl rfl s_25 (fun u hu => by simp only [List.mem_cons, List.not_mem_nil, or_false] at hu; rcases hu with rfl | rfl | rfl | rfl | rfl <;> first | rfl) (by repeat (first | assumption | constructor)) bx3319 (of_decide_eq_true rfl) s3356 fun w3376 s3377 m3378 k3379 bx3380 => (?_)))))
    refine wl_s (o_assign (vI (1 : Int)) rfl (wl_nil (thenQ_n (?_))))
    refine cw_ret (thenQ_r (end_r rfl (resv2 rfl (rv_A (vs := [vI (0 : Int), vI (0 : Int), vI (0 : Int), Value.slice none 0 0, Value.slice none 0 0]) rfl Try.underlying25 rfl s_25 rfl bx3380 rfl) (rv_t rfl rfl)) (?_)))
    have e3381 : ((gAct c no (fApprove c guardian)).1) = (⟨(0 : Int), (0 : Int), (0 : Int), [], []⟩ : Circle) := by first | exact congrArg (fun p => p.1) (show gAct c no (fApprove c guardian) = _ from gChk_bad _ (by assumption)) | exact congrArg (fun p => p.1) (show gAct c no (fApprove c guardian) = _ from app_dead hok hn1 hn2 (by assumption)) | exact congrArg (fun p => p.1) (show gAct c no (fApprove c guardian) = _ from app_done hok hn1 hn2 (by assumption)) | exact congrArg (fun p => p.1) (show gAct c no (fApprove c guardian) = _ from rp_not hok hn1 hn2 (by assumption) (by assumption) (by assumption)) | exact congrArg (fun p => p.1) (show gAct c no (fApprove c guardian) = _ from rp_had hok hn1 hn2 (by assumption) (by assumption) (by assumption) (by assumption)) | exact congrArg (fun p => p.1) (show gAct c no (fApprove c guardian) = _ from rp_new hok hn1 hn2 (by assumption) (by assumption) (by assumption) (by assumption))
    have e3382 : ((gAct c no (fApprove c guardian)).2) = (1 : Int) := by first | exact congrArg (fun p => p.2) (show gAct c no (fApprove c guardian) = _ from gChk_bad _ (by assumption)) | exact congrArg (fun p => p.2) (show gAct c no (fApprove c guardian) = _ from app_dead hok hn1 hn2 (by assumption)) | exact congrArg (fun p => p.2) (show gAct c no (fApprove c guardian) = _ from app_done hok hn1 hn2 (by assumption)) | exact congrArg (fun p => p.2) (show gAct c no (fApprove c guardian) = _ from rp_not hok hn1 hn2 (by assumption) (by assumption) (by assumption)) | exact congrArg (fun p => p.2) (show gAct c no (fApprove c guardian) = _ from rp_had hok hn1 hn2 (by assumption) (by assumption) (by assumption) (by assumption)) | exact congrArg (fun p => p.2) (show gAct c no (fApprove c guardian) = _ from rp_new hok hn1 hn2 (by assumption) (by assumption) (by assumption) (by assumption))
    exact ⟨_, rfl, s3377.keep, by rw [e3381, e3382]; exact ⟨[vI (0 : Int), vI (0 : Int), vI (0 : Int), Value.slice none 0 0, Value.slice none 0 0], rfl, Enc.out (B := (b3347 :: (b3314 :: []))) ⟨.slice none 0 0, .slice none 0 0, rfl, (RdL.nil _ _ _), (RdL.nil _ _ _)⟩⟩⟩
   ·have hp3383 : (c.recs[no.toNat]!).state ≠ (1 : Int) := by first | simpa using hc3374 | (have e := hc3374; simp at e; omega)
    refine cw_skip (thenQ_n (?_))
    refine cw_seq (?_)
    refine cw_seq (?_)
    refine cw_region (by kernel_rfl) (wl_s (o_fieldR 3 f_25_3 (c.guardians) rfl hp3313 (fun _ _ _ h => Enc_circle_f3 h) fun a3384 hp3385 => (wl_s (o_loadL Try.underlying22 rfl rfl hp3385 fun v3386 hl3387 => (?_)))))
    have := hl3387.len_le
    refine wl_s (o_move (vI guardian) rfl (wl_s (o_callK (vs := [v3386, vI guardian]) enter_25 (c_has (O := (b3347 :: (b3314 :: [])) ++ O) v3386 c.guardians guardian w3355 hl3387 s3356.lt) rfl s3356 fun v3388 w3389 s3390 m3391 k3392 r3393 => (?_))))
    obtain rfl := r3393
    have hp3313 := hp3313.mv m3391
    have hd3361 := hd3361.mv m3391
    have hd3363 := hd3363.mv m3391
    have bx3319 := bx3319.keep k3392 (by simp)
    have bx3359 := bx3359.keep k3392 (by simp)
    refine wl_s (o_not (c.guardians.contains guardian) rfl (wl_nil (thenQ_n (?_))))
    refine cw_cond (!(c.guardians.contains guardian)) rfl rfl (fun hc3394 => ?_) (fun hc3394 => ?_)
    ·have hp3395 : (c.guardians.contains guardian) = false := by first | simpa using hc3394 | (have e := hc3394; simp at e; omega)
     refine cw_seq (?_)
     refine cw_region (by kernel_rfl) (wl_s (o_build (l := []) pl_25 z_25 rfl [] [vI (0 : Int), vI (0 : Int), vI (0 : Int), Value.slice none 0 0, Value.slice none 0 0] rfl rfl (wl_n (o_store (vs := [vI (0 : Int), vI (0 : Int), vI (0 : Int), Value.slice none 0 0, Value.slice none 0 0]) (.agg #[vI (0 : Int), vI (0 : Int), vI (0 : Int), Value.slice none 0 0, Value.slice none 0 0]) rfl rfl rfl s_25 (fun u hu => by simp only [List.mem_cons, List.not_mem_nil, or_false] at hu; rcases hu with rfl | rfl | rfl | rfl | rfl <;> first | rfl) (by repeat (first | assumption | constructor)) bx3319 (of_decide_eq_true rfl) s3390 fun w3396 s3397 m3398 k3399 bx3400 => (?_)))))
     refine wl_s (o_assign (vI (450 : Int)) rfl (wl_nil (thenQ_n (?_))))
     refine cw_ret (thenQ_r (end_r rfl (resv2 rfl (rv_A (vs := [vI (0 : Int), vI (0 : Int), vI (0 : Int), Value.slice none 0 0, Value.slice none 0 0]) rfl Try.underlying25 rfl s_25 rfl bx3400 rfl) (rv_t rfl rfl)) (?_)))
     have e3401 : ((gAct c no (fApprove c guardian)).1) = (⟨(0 : Int), (0 : Int), (0 : Int), [], []⟩ : Circle) := by first | exact congrArg (fun p => p.1) (show gAct c no (fApprove c guardian) = _ from gChk_bad _ (by assumption)) | exact congrArg (fun p => p.1) (show gAct c no (fApprove c guardian) = _ from app_dead hok hn1 hn2 (by assumption)) | exact congrArg (fun p => p.1) (show gAct c no (fApprove c guardian) = _ from app_done hok hn1 hn2 (by assumption)) | exact congrArg (fun p => p.1) (show gAct c no (fApprove c guardian) = _ from rp_not hok hn1 hn2 (by assumption) (by assumption) (by assumption)) | exact congrArg (fun p => p.1) (show gAct c no (fApprove c guardian) = _ from rp_had hok hn1 hn2 (by assumption) (by assumption) (by assumption) (by assumption)) | exact congrArg (fun p => p.1) (show gAct c no (fApprove c guardian) = _ from rp_new hok hn1 hn2 (by assumption) (by assumption) (by assumption) (by assumption))
     have e3402 : ((gAct c no (fApprove c guardian)).2) = (450 : Int) := by first | exact congrArg (fun p => p.2) (show gAct c no (fApprove c guardian) = _ from gChk_bad _ (by assumption)) | exact congrArg (fun p => p.2) (show gAct c no (fApprove c guardian) = _ from app_dead hok hn1 hn2 (by assumption)) | exact congrArg (fun p => p.2) (show gAct c no (fApprove c guardian) = _ from app_done hok hn1 hn2 (by assumption)) | exact congrArg (fun p => p.2) (show gAct c no (fApprove c guardian) = _ from rp_not hok hn1 hn2 (by assumption) (by assumption) (by assumption)) | exact congrArg (fun p => p.2) (show gAct c no (fApprove c guardian) = _ from rp_had hok hn1 hn2 (by assumption) (by assumption) (by assumption) (by assumption)) | exact congrArg (fun p => p.2) (show gAct c no (fApprove c guardian) = _ from rp_new hok hn1 hn2 (by assumption) (by assumption) (by assumption) (by assumption))
     exact ⟨_, rfl, s3397.keep, by rw [e3401, e3402]; exact ⟨[vI (0 : Int), vI (0 : Int), vI (0 : Int), Value.slice none 0 0, Value.slice none 0 0], rfl, Enc.out (B := (b3347 :: (b3314 :: []))) ⟨.slice none 0 0, .slice none 0 0, rfl, (RdL.nil _ _ _), (RdL.nil _ _ _)⟩⟩⟩
    ·have hp3403 : (c.guardians.contains guardian) = true := by first | simpa using hc3394 | (have e := hc3394; simp at e; omega)
     refine cw_skip (thenQ_n (?_))
     refine cw_seq (?_)
     refine cw_seq (?_)
     refine cw_region (by kernel_rfl) (wl_s (o_fieldL 3 f_47_3 rfl (wl_s (o_loadBx Try.underlying22 rfl (d3360) rfl bx3359 rfl (wl_s (o_move (vI guardian) rfl (wl_s (o_callK (vs := [d3360, vI guardian]) enter_25 (c_has (O := (b3347 :: (b3314 :: [])) ++ O) d3360 ((c.recs[no.toNat]!).approved) guardian w3389 hd3361 s3390.lt) rfl s3390 fun v3404 w3405 s3406 m3407 k3408 r3409 => (?_)))))))))
     obtain rfl := r3409
     have hp3313 := hp3313.mv m3407
     have hd3361 := hd3361.mv m3407
     have hd3363 := hd3363.mv m3407
     have bx3319 := bx3319.keep k3408 (by simp)
     have bx3359 := bx3359.keep k3408 (by simp)
     refine wl_nil (thenQ_n (?_))
     refine cw_cond (((c.recs[no.toNat]!).approved).contains guardian) rfl rfl (fun hc3410 => ?_) (fun hc3410 => ?_)
     ·have hp3411 : (((c.recs[no.toNat]!).approved).contains guardian) = true := by first | simpa using hc3410 | (have e := hc3410; simp at e; omega)
      refine cw_seq (?_)
      refine cw_region (by kernel_rfl) (wl_s (o_loadS Try.underlying25 rfl s_25 rfl hp3313 fun cs3412 hs3413 => (?_)))
      obtain ⟨d3419, d3421, rfl, hd3420, hd3422⟩ := hs3413
      have := hd3420.len_le
      have := hd3422.len_le
      refine wl_n (o_store (vs := [vI c.epoch, vI c.threshold, vI c.wait, d3419, d3421]) (.agg #[vI c.epoch, vI c.threshold, vI c.wait, d3419, d3421]) rfl rfl rfl s_25 (fun u hu => by simp only [List.mem_cons, List.not_mem_nil, or_false] at hu; rcases hu with rfl | rfl | rfl | rfl | rfl <;> first | rfl | exact hd3420.oneCell | exact hd3422.oneCell) (by repeat (first | assumption | constructor)) bx3319 (of_decide_eq_true rfl) s3406 fun w3414 s3415 m3416 k3417 bx3418 => (?_))
      have hd3420 := hd3420.mv m3416
      have hd3422 := hd3422.mv m3416
      refine wl_s (o_assign (vI (0 : Int)) rfl (wl_nil (thenQ_n (?_))))
      refine cw_ret (thenQ_r (end_r rfl (resv2 rfl (rv_A (vs := [vI c.epoch, vI c.threshold, vI c.wait, d3419, d3421]) rfl Try.underlying25 rfl s_25 rfl bx3418 rfl) (rv_t rfl rfl)) (?_)))
      have e3423 : ((gAct c no (fApprove c guardian)).1) = c := by first | exact congrArg (fun p => p.1) (show gAct c no (fApprove c guardian) = _ from gChk_bad _ (by assumption)) | exact congrArg (fun p => p.1) (show gAct c no (fApprove c guardian) = _ from app_dead hok hn1 hn2 (by assumption)) | exact congrArg (fun p => p.1) (show gAct c no (fApprove c guardian) = _ from app_done hok hn1 hn2 (by assumption)) | exact congrArg (fun p => p.1) (show gAct c no (fApprove c guardian) = _ from rp_not hok hn1 hn2 (by assumption) (by assumption) (by assumption)) | exact congrArg (fun p => p.1) (show gAct c no (fApprove c guardian) = _ from rp_had hok hn1 hn2 (by assumption) (by assumption) (by assumption) (by assumption)) | exact congrArg (fun p => p.1) (show gAct c no (fApprove c guardian) = _ from rp_new hok hn1 hn2 (by assumption) (by assumption) (by assumption) (by assumption))
      have e3424 : ((gAct c no (fApprove c guardian)).2) = (0 : Int) := by first | exact congrArg (fun p => p.2) (show gAct c no (fApprove c guardian) = _ from gChk_bad _ (by assumption)) | exact congrArg (fun p => p.2) (show gAct c no (fApprove c guardian) = _ from app_dead hok hn1 hn2 (by assumption)) | exact congrArg (fun p => p.2) (show gAct c no (fApprove c guardian) = _ from app_done hok hn1 hn2 (by assumption)) | exact congrArg (fun p => p.2) (show gAct c no (fApprove c guardian) = _ from rp_not hok hn1 hn2 (by assumption) (by assumption) (by assumption)) | exact congrArg (fun p => p.2) (show gAct c no (fApprove c guardian) = _ from rp_had hok hn1 hn2 (by assumption) (by assumption) (by assumption) (by assumption)) | exact congrArg (fun p => p.2) (show gAct c no (fApprove c guardian) = _ from rp_new hok hn1 hn2 (by assumption) (by assumption) (by assumption) (by assumption))
      exact ⟨_, rfl, s3415.keep, by rw [e3423, e3424]; exact ⟨[vI c.epoch, vI c.threshold, vI c.wait, d3419, d3421], rfl, Enc.out (B := (b3347 :: (b3314 :: []))) ⟨_, _, rfl, hd3420, hd3422⟩⟩⟩
     ·have hp3425 : (((c.recs[no.toNat]!).approved).contains guardian) = false := by first | simpa using hc3410 | (have e := hc3410; simp at e; omega)
      refine cw_skip (thenQ_n (?_))
      refine cw_seq (?_)
      refine cw_region (by kernel_rfl) (wl_s (o_fieldL 3 f_47_3 rfl (wl_s (o_loadBx Try.underlying22 rfl (d3360) rfl bx3359 rfl (wl_s (o_move (vI guardian) rfl (wl_s (o_callK (vs := [d3360, vI guardian]) enter_47 (c_refIns (O := (b3347 :: (b3314 :: [])) ++ O) d3360 ((c.recs[no.toNat]!).approved) guardian w3405 hd3361 (by omega) s3406.lt) rfl s3406 fun v3426 w3427 s3428 m3429 k3430 r3431 => (?_)))))))))
      obtain ⟨_, rfl, hl3432⟩ := r3431
      have := hl3432.len_le
      have hp3313 := hp3313.mv m3429
      have hd3363 := hd3363.mv m3429
      have bx3319 := bx3319.keep k3430 (by simp)
      have bx3359 := bx3359.keep k3430 (by simp)
      refine wl_s (o_fieldL 3 f_47_3 rfl (wl_n (o_store1 (v3426) rfl rfl hl3432.oneCell s_22 (by repeat (first | assumption | constructor)) bx3359 (of_decide_eq_true rfl) s3428 fun w3433 s3434 m3435 k3436 bx3437 => (?_))))
      have hp3313 := hp3313.mv m3435
      have hd3363 := hd3363.mv m3435
      have hl3432 := hl3432.mv m3435
      have bx3319 := bx3319.keep k3436 (nin1 ne3354)
      refine wl_nil (thenQ_n (?_))
      refine cw_seq (?_)
      refine cw_region (by kernel_rfl) (wl_s (o_loadS Try.underlying25 rfl s_25 rfl hp3313 fun cs3438 hs3439 => (wl_s (o_loadBxA (vs := [vI ((c.recs[no.toNat]!).no), vI ((c.recs[no.toNat]!).asked), vI ((c.recs[no.toNat]!).state), v3426, d3362]) Try.underlying47 rfl s_47 rfl bx3437 rfl (wl_s (o_callK (vs := [Value.agg cs3438.toArray, Value.agg #[vI ((c.recs[no.toNat]!).no), vI ((c.recs[no.toNat]!).asked), vI ((c.recs[no.toNat]!).state), v3426, d3362]]) enter_48 (c_refWith (O := (b3347 :: (b3314 :: [])) ++ O) cs3438 c [vI ((c.recs[no.toNat]!).no), vI ((c.recs[no.toNat]!).asked), vI ((c.recs[no.toNat]!).state), v3426, d3362] (⟨(c.recs[no.toNat]!).no, (c.recs[no.toNat]!).asked, (c.recs[no.toNat]!).state, putIn ((c.recs[no.toNat]!).approved) guardian, (c.recs[no.toNat]!).vetoed⟩ : Recovery) w3433 hs3439 ⟨_, _, rfl, hl3432, hd3363⟩ (by omega) (show (0 : Int) ≤ c.recs[no.toNat]!.no from by omega) (show c.recs[no.toNat]!.no < (c.recs.length : Int) from by omega) s3434.lt) rfl s3434 fun v3440 w3441 s3442 m3443 k3444 r3445 => (?_)))))))
      obtain ⟨cs3446, rfl, hs3447⟩ := r3445
      have bx3319 := bx3319.keep k3444 (by simp)
      obtain ⟨d3453, d3455, rfl, hd3454, hd3456⟩ := hs3447
      have := hd3454.len_le
      have := hd3456.len_le
      refine wl_n (o_store (vs := [vI ((withM c (⟨(c.recs[no.toNat]!).no, (c.recs[no.toNat]!).asked, (c.recs[no.toNat]!).state, putIn ((c.recs[no.toNat]!).approved) guardian, (c.recs[no.toNat]!).vetoed⟩ : Recovery)).epoch), vI ((withM c (⟨(c.recs[no.toNat]!).no, (c.recs[no.toNat]!).asked, (c.recs[no.toNat]!).state, putIn ((c.recs[no.toNat]!).approved) guardian, (c.recs[no.toNat]!).vetoed⟩ : Recovery)).threshold), vI ((withM c (⟨(c.recs[no.toNat]!).no, (c.recs[no.toNat]!).asked, (c.recs[no.toNat]!).state, putIn ((c.recs[no.toNat]!).approved) guardian, (c.recs[no.toNat]!).vetoed⟩ : Recovery)).wait), d3453, d3455]) (.agg #[vI ((withM c (⟨(c.recs[no.toNat]!).no, (c.recs[no.toNat]!).asked, (c.recs[no.toNat]!).state, putIn ((c.recs[no.toNat]!).approved) guardian, (c.recs[no.toNat]!).vetoed⟩ : Recovery)).epoch), vI ((withM c (⟨(c.recs[no.toNat]!).no, (c.recs[no.toNat]!).asked, (c.recs[no.toNat]!).state, putIn ((c.recs[no.toNat]!).approved) guardian, (c.recs[no.toNat]!).vetoed⟩ : Recovery)).threshold), vI ((withM c (⟨(c.recs[no.toNat]!).no, (c.recs[no.toNat]!).asked, (c.recs[no.toNat]!).state, putIn ((c.recs[no.toNat]!).approved) guardian, (c.recs[no.toNat]!).vetoed⟩ : Recovery)).wait), d3453, d3455]) rfl rfl rfl s_25 (fun u hu => by simp only [List.mem_cons, List.not_mem_nil, or_false] at hu; rcases hu with rfl | rfl | rfl | rfl | rfl <;> first | rfl | exact hd3454.oneCell | exact hd3456.oneCell) (by repeat (first | assumption | constructor)) bx3319 (of_decide_eq_true rfl) s3442 fun w3448 s3449 m3450 k3451 bx3452 => (?_))
      have hd3454 := hd3454.mv m3450
      have hd3456 := hd3456.mv m3450
      refine wl_s (o_assign (vI (0 : Int)) rfl (wl_nil (thenQ_n (?_))))
      refine cw_ret (end_r rfl (resv2 rfl (rv_A (vs := [vI ((withM c (⟨(c.recs[no.toNat]!).no, (c.recs[no.toNat]!).asked, (c.recs[no.toNat]!).state, putIn ((c.recs[no.toNat]!).approved) guardian, (c.recs[no.toNat]!).vetoed⟩ : Recovery)).epoch), vI ((withM c (⟨(c.recs[no.toNat]!).no, (c.recs[no.toNat]!).asked, (c.recs[no.toNat]!).state, putIn ((c.recs[no.toNat]!).approved) guardian, (c.recs[no.toNat]!).vetoed⟩ : Recovery)).threshold), vI ((withM c (⟨(c.recs[no.toNat]!).no, (c.recs[no.toNat]!).asked, (c.recs[no.toNat]!).state, putIn ((c.recs[no.toNat]!).approved) guardian, (c.recs[no.toNat]!).vetoed⟩ : Recovery)).wait), d3453, d3455]) rfl Try.underlying25 rfl s_25 rfl bx3452 rfl) (rv_t rfl rfl)) (?_))
      have e3457 : ((gAct c no (fApprove c guardian)).1) = (withM c (⟨(c.recs[no.toNat]!).no, (c.recs[no.toNat]!).asked, (c.recs[no.toNat]!).state, putIn ((c.recs[no.toNat]!).approved) guardian, (c.recs[no.toNat]!).vetoed⟩ : Recovery)) := by first | exact congrArg (fun p => p.1) (show gAct c no (fApprove c guardian) = _ from gChk_bad _ (by assumption)) | exact congrArg (fun p => p.1) (show gAct c no (fApprove c guardian) = _ from app_dead hok hn1 hn2 (by assumption)) | exact congrArg (fun p => p.1) (show gAct c no (fApprove c guardian) = _ from app_done hok hn1 hn2 (by assumption)) | exact congrArg (fun p => p.1) (show gAct c no (fApprove c guardian) = _ from rp_not hok hn1 hn2 (by assumption) (by assumption) (by assumption)) | exact congrArg (fun p => p.1) (show gAct c no (fApprove c guardian) = _ from rp_had hok hn1 hn2 (by assumption) (by assumption) (by assumption) (by assumption)) | exact congrArg (fun p => p.1) (show gAct c no (fApprove c guardian) = _ from rp_new hok hn1 hn2 (by assumption) (by assumption) (by assumption) (by assumption))
      have e3458 : ((gAct c no (fApprove c guardian)).2) = (0 : Int) := by first | exact congrArg (fun p => p.2) (show gAct c no (fApprove c guardian) = _ from gChk_bad _ (by assumption)) | exact congrArg (fun p => p.2) (show gAct c no (fApprove c guardian) = _ from app_dead hok hn1 hn2 (by assumption)) | exact congrArg (fun p => p.2) (show gAct c no (fApprove c guardian) = _ from app_done hok hn1 hn2 (by assumption)) | exact congrArg (fun p => p.2) (show gAct c no (fApprove c guardian) = _ from rp_not hok hn1 hn2 (by assumption) (by assumption) (by assumption)) | exact congrArg (fun p => p.2) (show gAct c no (fApprove c guardian) = _ from rp_had hok hn1 hn2 (by assumption) (by assumption) (by assumption) (by assumption)) | exact congrArg (fun p => p.2) (show gAct c no (fApprove c guardian) = _ from rp_new hok hn1 hn2 (by assumption) (by assumption) (by assumption) (by assumption))
      exact ⟨_, rfl, s3449.keep, by rw [e3457, e3458]; exact ⟨[vI ((withM c (⟨(c.recs[no.toNat]!).no, (c.recs[no.toNat]!).asked, (c.recs[no.toNat]!).state, putIn ((c.recs[no.toNat]!).approved) guardian, (c.recs[no.toNat]!).vetoed⟩ : Recovery)).epoch), vI ((withM c (⟨(c.recs[no.toNat]!).no, (c.recs[no.toNat]!).asked, (c.recs[no.toNat]!).state, putIn ((c.recs[no.toNat]!).approved) guardian, (c.recs[no.toNat]!).vetoed⟩ : Recovery)).threshold), vI ((withM c (⟨(c.recs[no.toNat]!).no, (c.recs[no.toNat]!).asked, (c.recs[no.toNat]!).state, putIn ((c.recs[no.toNat]!).approved) guardian, (c.recs[no.toNat]!).vetoed⟩ : Recovery)).wait), d3453, d3455], rfl, Enc.out (B := (b3347 :: (b3314 :: []))) ⟨_, _, rfl, hd3454, hd3456⟩⟩⟩
set_option maxHeartbeats 4000000 in
set_option maxRecDepth 100000 in
theorem c_refVeto {O : List Nat} (c_cs : List Value) (c : Circle) (no : Int) (day : Int) (w : World) (h_c : Enc.circle.rd w O c_cs c) (hO : ∀ b ∈ O, b < w.heap.size) : CallsK Try.prog 21 [.agg c_cs.toArray, vI no, vI day] w (fun v w' => ∃ (x0 : List Value), v = .tuple #[.agg x0.toArray, vI ((gAct c no (fVeto day)).2)] ∧ Enc.circle.rd w' (O) x0 ((gAct c no (fVeto day)).1)) :=  by
 have h_c : Enc.circle.rd w ([] ++ O) c_cs c := h_c
 have s0 : St w O w [] := St.start hO
 refine callsK_of 44 Try.func21 rfl rfl (of_decide_eq_true rfl) (fun F0 => ?_)
 refine cw_seq (?_)
 refine cw_region (by kernel_rfl) (wl_s (o_boxR (E := Enc.circle) (Value.agg c_cs.toArray) (c_cs) c rfl rfl h_c s0 fun a3459 w3460 s3461 m3462 k3463 hp3464 => (?_)))
 refine wl_s (o_alloc [vI (0 : Int), vI (0 : Int), vI (0 : Int), Value.slice none 0 0, Value.slice none 0 0] z_25 rfl s3461 fun b3465 w3466 e3471 s3467 m3468 k3469 bx3470 => (?_))
 clear e3471
 have hp3464 := hp3464.mv m3468
 refine wl_s (o_assign (vI (0 : Int)) rfl (wl_nil (thenQ_n (?_))))
 refine cw_seq (?_)
 refine cw_region (by kernel_rfl) (wl_s (o_loadS Try.underlying25 rfl s_25 rfl hp3464 fun cs3472 hs3473 => (wl_s (o_move (vI no) rfl (wl_s (o_callK (vs := [Value.agg cs3472.toArray, vI no]) enter_46 (c_refChk (O := (b3465 :: []) ++ O) cs3472 c no w3466 hs3473 s3467.lt) rfl s3467 fun v3474 w3475 s3476 m3477 k3478 r3479 => (?_)))))))
 obtain rfl := r3479
 have hp3464 := hp3464.mv m3477
 have bx3470 := bx3470.keep k3478 (by simp)
 refine wl_s (o_assign (vI (gChkM c no)) rfl (wl_nil (thenQ_n (?_))))
 refine cw_seq (?_)
 refine cw_seq (?_)
 refine cw_region (by kernel_rfl) (wl_s (o_move (vI (gChkM c no)) rfl (wl_s (o_neq .i64 (gChkM c no) (0 : Int) rfl rfl (wl_nil (thenQ_n (?_)))))))
 refine cw_cond ((gChkM c no) != (0 : Int)) rfl rfl (fun hc3480 => ?_) (fun hc3480 => ?_)
 ·have hp3481 : gChkM c no ≠ (0 : Int) := by first | simpa using hc3480 | (have e := hc3480; simp at e; omega)
  refine cw_seq (?_)
  refine cw_region (by kernel_rfl) (wl_s (o_build (l := []) pl_25 z_25 rfl [] [vI (0 : Int), vI (0 : Int), vI (0 : Int), Value.slice none 0 0, Value.slice none 0 0] rfl rfl (wl_s (o_move (vI (gChkM c no)) rfl (wl_n (o_store (vs := [vI (0 : Int), vI (0 : Int), vI (0 : Int), Value.slice none 0 0, Value.slice none 0 0]) (.agg #[vI (0 : Int), vI (0 : Int), vI (0 : Int), Value.slice none 0 0, Value.slice none 0 0]) rfl rfl rfl s_25 (fun u hu => by simp only [List.mem_cons, List.not_mem_nil, or_false] at hu; rcases hu with rfl | rfl | rfl | rfl | rfl <;> first | rfl) (by repeat (first | assumption | constructor)) bx3470 (of_decide_eq_true rfl) s3476 fun w3482 s3483 m3484 k3485 bx3486 => (?_)))))))
  refine wl_s (o_assign (vI (gChkM c no)) rfl (wl_nil (thenQ_n (?_))))
  refine cw_ret (thenQ_r (end_r rfl (resv2 rfl (rv_A (vs := [vI (0 : Int), vI (0 : Int), vI (0 : Int), Value.slice none 0 0, Value.slice none 0 0]) rfl Try.underlying25 rfl s_25 rfl bx3486 rfl) (rv_t rfl rfl)) (?_)))
  have e3487 : ((gAct c no (fVeto day)).1) = (⟨(0 : Int), (0 : Int), (0 : Int), [], []⟩ : Circle) := by first | exact congrArg (fun p => p.1) (show gAct c no (fVeto day) = _ from gChk_bad _ (by assumption)) | exact congrArg (fun p => p.1) (show gAct c no (fVeto day) = _ from rv_day hok hn1 hn2 (by assumption)) | exact congrArg (fun p => p.1) (show gAct c no (fVeto day) = _ from rv_done hok hn1 hn2 (by assumption) (by assumption)) | exact congrArg (fun p => p.1) (show gAct c no (fVeto day) = _ from rv_dead hok hn1 hn2 (by assumption) (by assumption)) | exact congrArg (fun p => p.1) (show gAct c no (fVeto day) = _ from rv_open hok hn1 hn2 (by assumption) (by assumption) (by assumption))
  have e3488 : ((gAct c no (fVeto day)).2) = (gChkM c no) := by first | exact congrArg (fun p => p.2) (show gAct c no (fVeto day) = _ from gChk_bad _ (by assumption)) | exact congrArg (fun p => p.2) (show gAct c no (fVeto day) = _ from rv_day hok hn1 hn2 (by assumption)) | exact congrArg (fun p => p.2) (show gAct c no (fVeto day) = _ from rv_done hok hn1 hn2 (by assumption) (by assumption)) | exact congrArg (fun p => p.2) (show gAct c no (fVeto day) = _ from rv_dead hok hn1 hn2 (by assumption) (by assumption)) | exact congrArg (fun p => p.2) (show gAct c no (fVeto day) = _ from rv_open hok hn1 hn2 (by assumption) (by assumption) (by assumption))
  exact ⟨_, rfl, s3483.keep, by rw [e3487, e3488]; exact ⟨[vI (0 : Int), vI (0 : Int), vI (0 : Int), Value.slice none 0 0, Value.slice none 0 0], rfl, Enc.out (B := (b3465 :: [])) ⟨.slice none 0 0, .slice none 0 0, rfl, (RdL.nil _ _ _), (RdL.nil _ _ _)⟩⟩⟩
 ·have hp3489 : gChkM c no = (0 : Int) := by first | simpa using hc3480 | (have e := hc3480; simp at e; omega)
  have hc3 := gChk_ok hp3489
  have hok := hc3.1
  have hn1 := hc3.2.1
  have hn2 := hc3.2.2
  have hrl := recs_le hok
  have hrn := rec_no hok hn1 hn2
  have hal := inc_len (recOK_parts (rec_ok hok (k := no.toNat) (by omega))).2.2
  have hab := act_bounds hok hn1 hn2
  refine cw_skip (thenQ_n (?_))
  refine cw_seq (?_)
  refine cw_region (by kernel_rfl) (wl_s (o_fieldR 4 f_25_4 (c.recs) rfl hp3464 (fun _ _ _ h => Enc_circle_f4 h) fun a3490 hp3491 => (wl_s (o_loadL Try.underlying23 rfl rfl hp3491 fun v3492 hl3493 => (?_)))))
  have := hl3493.len_le
  refine wl_s (o_move (vI no) rfl (wl_s (o_idx Try.underlying23 s_47 .i64 no no.toNat rfl rfl (by omega) hl3493 (by omega) fun a3494 hp3495 => (wl_s (o_loadS Try.underlying47 rfl s_47 rfl hp3495 fun cs3496 hs3497 => (wl_s (o_alloc [vI (0 : Int), vI (0 : Int), vI (0 : Int), Value.slice none 0 0, Value.slice none 0 0] z_47 rfl s3476 fun b3498 w3499 e3504 s3500 m3501 k3502 bx3503 => (?_))))))))
  have ne3505 : b3465 ≠ b3498 := by have := bx3470.lt; omega
  clear e3504
  have hp3464 := hp3464.mv m3501
  have hs3497 : Enc.recovery.rd w3499 ((b3498 :: (b3465 :: [])) ++ O) cs3496 (c.recs[no.toNat]!) := Enc.mv Enc.recovery (x := c.recs[no.toNat]!) hs3497 m3501
  have bx3470 := bx3470.keep k3502 (by simp)
  obtain ⟨d3511, d3513, rfl, hd3512, hd3514⟩ := hs3497
  have := hd3512.len_le
  have := hd3514.len_le
  refine wl_n (o_store (vs := [vI ((c.recs[no.toNat]!).no), vI ((c.recs[no.toNat]!).asked), vI ((c.recs[no.toNat]!).state), d3511, d3513]) (.agg #[vI ((c.recs[no.toNat]!).no), vI ((c.recs[no.toNat]!).asked), vI ((c.recs[no.toNat]!).state), d3511, d3513]) rfl rfl rfl s_47 (fun u hu => by simp only [List.mem_cons, List.not_mem_nil, or_false] at hu; rcases hu with rfl | rfl | rfl | rfl | rfl <;> first | rfl | exact hd3512.oneCell | exact hd3514.oneCell) (by repeat (first | assumption | constructor)) bx3503 (of_decide_eq_true rfl) s3500 fun w3506 s3507 m3508 k3509 bx3510 => (?_))
  have hp3464 := hp3464.mv m3508
  have hd3512 := hd3512.mv m3508
  have bx3470 := bx3470.keep k3509 (nin1 ne3505)
  refine wl_nil (thenQ_n (?_))
  refine cw_seq (?_)
  refine cw_seq (?_)
  refine cw_region (by kernel_rfl) (wl_s (o_move (vI day) rfl (wl_s (o_fieldL 1 f_47_1 rfl (wl_s (o_loadBx Try.underlying3 rfl (vI ((c.recs[no.toNat]!).asked)) rfl bx3510 rfl (wl_s (o_callK (vs := [vI day, vI ((c.recs[no.toNat]!).asked), vI (1023 : Int)]) enter_32 (c_in (O := (b3498 :: (b3465 :: [])) ++ O) day ((c.recs[no.toNat]!).asked) (1023 : Int) w3506 s3507.lt) rfl s3507 fun v3515 w3516 s3517 m3518 k3519 r3520 => (?_)))))))))
  obtain rfl := r3520
  have hp3464 := hp3464.mv m3518
  have hd3512 := hd3512.mv m3518
  have bx3470 := bx3470.keep k3519 (by simp)
  have bx3510 := bx3510.keep k3519 (by simp)
  refine wl_s (o_not (inM day ((c.recs[no.toNat]!).asked) (1023 : Int)) rfl (wl_s (o_move (Value.bool (!(inM day ((c.recs[no.toNat]!).asked) (1023 : Int)))) rfl (?_))))
  cases hb3521 : (!(inM day ((c.recs[no.toNat]!).asked) (1023 : Int)))
  ·have hp3522 : (inM day ((c.recs[no.toNat]!).asked) (1023 : Int)) = true := by first | simpa using hb3521 | (have e := hb3521; simp at e; omega)
   refine wl_t rfl (o_fieldL 2 f_47_2 rfl (wl_t rfl (o_loadBx Try.underlying3 rfl (vI ((c.recs[no.toNat]!).state)) rfl bx3510 rfl (wl_t rfl (o_eql .i64 ((c.recs[no.toNat]!).state) (1 : Int) rfl rfl (wl_s (o_pickF (Value.bool (((c.recs[no.toNat]!).state) == (1 : Int))) rfl rfl (wl_nil (thenQ_n (?_))))))))))
   refine cw_cond (((c.recs[no.toNat]!).state) == (1 : Int)) rfl rfl (fun hc3523 => ?_) (fun hc3523 => ?_)
   ·have hp3524 : (c.recs[no.toNat]!).state = (1 : Int) := by first | simpa using hc3523 | (have e := hc3523; simp at e; omega)
    refine cw_seq (?_)
    refine cw_region (by kernel_rfl) (wl_s (o_build (l := []) pl_25 z_25 rfl [] [vI (0 : Int), vI (0 : Int), vI (0 : Int), Value.slice none 0 0, Value.slice none 0 0] rfl rfl (wl_n (o_store (vs := [vI (0 : Int), vI (0 : Int), vI (0 : Int), Value.slice none 0 0, Value.slice none 0 0]) (.agg #[vI (0 : Int), vI (0 : Int), vI (0 : Int), Value.slice none 0 0, Value.slice none 0 0]) rfl rfl rfl s_25 (fun u hu => by simp only [List.mem_cons, List.not_mem_nil, or_false] at hu; rcases hu with rfl | rfl | rfl | rfl | rfl <;> first | rfl) (by repeat (first | assumption | constructor)) bx3470 (of_decide_eq_true rfl) s3517 fun w3525 s3526 m3527 k3528 bx3529 => (?_)))))
    refine wl_s (o_assign (vI (1 : Int)) rfl (wl_nil (thenQ_n (?_))))
    refine cw_ret (thenQ_r (end_r rfl (resv2 rfl (rv_A (vs := [vI (0 : Int), vI (0 : Int), vI (0 : Int), Value.slice none 0 0, Value.slice none 0 0]) rfl Try.underlying25 rfl s_25 rfl bx3529 rfl) (rv_t rfl rfl)) (?_)))
    have e3530 : ((gAct c no (fVeto day)).1) = (⟨(0 : Int), (0 : Int), (0 : Int), [], []⟩ : Circle) := by first | exact congrArg (fun p => p.1) (show gAct c no (fVeto day) = _ from gChk_bad _ (by assumption)) | exact congrArg (fun p => p.1) (show gAct c no (fVeto day) = _ from rv_day hok hn1 hn2 (by assumption)) | exact congrArg (fun p => p.1) (show gAct c no (fVeto day) = _ from rv_done hok hn1 hn2 (by assumption) (by assumption)) | exact congrArg (fun p => p.1) (show gAct c no (fVeto day) = _ from rv_dead hok hn1 hn2 (by assumption) (by assumption)) | exact congrArg (fun p => p.1) (show gAct c no (fVeto day) = _ from rv_open hok hn1 hn2 (by assumption) (by assumption) (by assumption))
    have e3531 : ((gAct c no (fVeto day)).2) = (1 : Int) := by first | exact congrArg (fun p => p.2) (show gAct c no (fVeto day) = _ from gChk_bad _ (by assumption)) | exact congrArg (fun p => p.2) (show gAct c no (fVeto day) = _ from rv_day hok hn1 hn2 (by assumption)) | exact congrArg (fun p => p.2) (show gAct c no (fVeto day) = _ from rv_done hok hn1 hn2 (by assumption) (by assumption)) | exact congrArg (fun p => p.2) (show gAct c no (fVeto day) = _ from rv_dead hok hn1 hn2 (by assumption) (by assumption)) | exact congrArg (fun p => p.2) (show gAct c no (fVeto day) = _ from rv_open hok hn1 hn2 (by assumption) (by assumption) (by assumption))
    exact ⟨_, rfl, s3526.keep, by rw [e3530, e3531]; exact ⟨[vI (0 : Int), vI (0 : Int), vI (0 : Int), Value.slice none 0 0, Value.slice none 0 0], rfl, Enc.out (B := (b3498 :: (b3465 :: []))) ⟨.slice none 0 0, .slice none 0 0, rfl, (RdL.nil _ _ _), (RdL.nil _ _ _)⟩⟩⟩
   ·have hp3532 : (c.recs[no.toNat]!).state ≠ (1 : Int) := by first | simpa using hc3523 | (have e := hc3523; simp at e; omega)
    refine cw_skip (thenQ_n (?_))
    refine cw_seq (?_)
    refine cw_seq (?_)
    refine cw_region (by kernel_rfl) (wl_s (o_fieldL 2 f_47_2 rfl (wl_s (o_loadBx Try.underlying3 rfl (vI ((c.recs[no.toNat]!).state)) rfl bx3510 rfl (wl_s (o_eql .i64 ((c.recs[no.toNat]!).state) (2 : Int) rfl rfl (wl_nil (thenQ_n (?_)))))))))
    refine cw_cond (((c.recs[no.toNat]!).state) == (2 : Int)) rfl rfl (fun hc3533 => ?_) (fun hc3533 => ?_)
    ·have hp3534 : (c.recs[no.toNat]!).state = (2 : Int) := by first | simpa using hc3533 | (have e := hc3533; simp at e; omega)
     refine cw_seq (?_)
     refine cw_region (by kernel_rfl) (wl_s (o_loadS Try.underlying25 rfl s_25 rfl hp3464 fun cs3535 hs3536 => (?_)))
     obtain ⟨d3542, d3544, rfl, hd3543, hd3545⟩ := hs3536
     have := hd3543.len_le
     have := hd3545.len_le
     refine wl_n (o_store (vs := [vI c.epoch, vI c.threshold, vI c.wait, d3542, d3544]) (.agg #[vI c.epoch, vI c.threshold, vI c.wait, d3542, d3544]) rfl rfl rfl s_25 (fun u hu => by simp only [List.mem_cons, List.not_mem_nil, or_false] at hu; rcases hu with rfl | rfl | rfl | rfl | rfl <;> first | rfl | exact hd3543.oneCell | exact hd3545.oneCell) (by repeat (first | assumption | constructor)) bx3470 (of_decide_eq_true rfl) s3517 fun w3537 s3538 m3539 k3540 bx3541 => (?_))
     have hd3543 := hd3543.mv m3539
     have hd3545 := hd3545.mv m3539
     refine wl_s (o_assign (vI (0 : Int)) rfl (wl_nil (thenQ_n (?_))))
     refine cw_ret (thenQ_r (end_r rfl (resv2 rfl (rv_A (vs := [vI c.epoch, vI c.threshold, vI c.wait, d3542, d3544]) rfl Try.underlying25 rfl s_25 rfl bx3541 rfl) (rv_t rfl rfl)) (?_)))
     have e3546 : ((gAct c no (fVeto day)).1) = c := by first | exact congrArg (fun p => p.1) (show gAct c no (fVeto day) = _ from gChk_bad _ (by assumption)) | exact congrArg (fun p => p.1) (show gAct c no (fVeto day) = _ from rv_day hok hn1 hn2 (by assumption)) | exact congrArg (fun p => p.1) (show gAct c no (fVeto day) = _ from rv_done hok hn1 hn2 (by assumption) (by assumption)) | exact congrArg (fun p => p.1) (show gAct c no (fVeto day) = _ from rv_dead hok hn1 hn2 (by assumption) (by assumption)) | exact congrArg (fun p => p.1) (show gAct c no (fVeto day) = _ from rv_open hok hn1 hn2 (by assumption) (by assumption) (by assumption))
     have e3547 : ((gAct c no (fVeto day)).2) = (0 : Int) := by first | exact congrArg (fun p => p.2) (show gAct c no (fVeto day) = _ from gChk_bad _ (by assumption)) | exact congrArg (fun p => p.2) (show gAct c no (fVeto day) = _ from rv_day hok hn1 hn2 (by assumption)) | exact congrArg (fun p => p.2) (show gAct c no (fVeto day) = _ from rv_done hok hn1 hn2 (by assumption) (by assumption)) | exact congrArg (fun p => p.2) (show gAct c no (fVeto day) = _ from rv_dead hok hn1 hn2 (by assumption) (by assumption)) | exact congrArg (fun p => p.2) (show gAct c no (fVeto day) = _ from rv_open hok hn1 hn2 (by assumption) (by assumption) (by assumption))
     exact ⟨_, rfl, s3538.keep, by rw [e3546, e3547]; exact ⟨[vI c.epoch, vI c.threshold, vI c.wait, d3542, d3544], rfl, Enc.out (B := (b3498 :: (b3465 :: []))) ⟨_, _, rfl, hd3543, hd3545⟩⟩⟩
    ·have hp3548 : (c.recs[no.toNat]!).state ≠ (2 : Int) := by first | simpa using hc3533 | (have e := hc3533; simp at e; omega)
     refine cw_skip (thenQ_n (?_))
     refine cw_seq (?_)
     refine cw_region (by kernel_rfl) (wl_s (o_fieldL 2 f_47_2 rfl (wl_n (o_store1 (vI (2 : Int)) rfl rfl rfl s_3 (by repeat (first | assumption | constructor)) bx3510 (of_decide_eq_true rfl) s3517 fun w3549 s3550 m3551 k3552 bx3553 => (?_)))))
     have hp3464 := hp3464.mv m3551
     have hd3512 := hd3512.mv m3551
     have bx3470 := bx3470.keep k3552 (nin1 ne3505)
     refine wl_nil (thenQ_n (?_))
     refine cw_seq (?_)
     refine cw_region (by kernel_rfl) (wl_s (o_move (vI day) rfl (wl_s (o_lit (E := Enc.int) (xs := [.tmp 38]) Try.underlying22 s_3 z_3 (by decide) [vI day] [[vI day]] [day] rfl rfl rfl (Parts.cons rfl rfl (Parts.nil _ _ _)) (of_decide_eq_true rfl) s3550 fun v3558 w3554 s3555 m3556 k3557 hl3559 => (?_)))))
     have hp3464 := hp3464.mv m3556
     have hd3512 := hd3512.mv m3556
     have bx3470 := bx3470.keep k3557 (by simp)
     have bx3553 := bx3553.keep k3557 (by simp)
     have := hl3559.len_le
     refine wl_s (o_fieldL 4 f_47_4 rfl (wl_n (o_store1 (v3558) rfl rfl hl3559.oneCell s_22 (by repeat (first | assumption | constructor)) bx3553 (of_decide_eq_true rfl) s3555 fun w3560 s3561 m3562 k3563 bx3564 => (?_))))
     have hp3464 := hp3464.mv m3562
     have hd3512 := hd3512.mv m3562
     have hl3559 := hl3559.mv m3562
     have bx3470 := bx3470.keep k3563 (nin1 ne3505)
     refine wl_nil (thenQ_n (?_))
     refine cw_seq (?_)
     refine cw_region (by kernel_rfl) (wl_s (o_loadS Try.underlying25 rfl s_25 rfl hp3464 fun cs3565 hs3566 => (wl_s (o_loadBxA (vs := [vI ((c.recs[no.toNat]!).no), vI ((c.recs[no.toNat]!).asked), vI (2 : Int), d3511, v3558]) Try.underlying47 rfl s_47 rfl bx3564 rfl (wl_s (o_callK (vs := [Value.agg cs3565.toArray, Value.agg #[vI ((c.recs[no.toNat]!).no), vI ((c.recs[no.toNat]!).asked), vI (2 : Int), d3511, v3558]]) enter_48 (c_refWith (O := (b3498 :: (b3465 :: [])) ++ O) cs3565 c [vI ((c.recs[no.toNat]!).no), vI ((c.recs[no.toNat]!).asked), vI (2 : Int), d3511, v3558] (⟨(c.recs[no.toNat]!).no, (c.recs[no.toNat]!).asked, (2 : Int), (c.recs[no.toNat]!).approved, [day]⟩ : Recovery) w3560 hs3566 ⟨_, _, rfl, hd3512, hl3559⟩ (by omega) (show (0 : Int) ≤ c.recs[no.toNat]!.no from by omega) (show c.recs[no.toNat]!.no < (c.recs.length : Int) from by omega) s3561.lt) rfl s3561 fun v3567 w3568 s3569 m3570 k3571 r3572 => (?_)))))))
     obtain ⟨cs3573, rfl, hs3574⟩ := r3572
     have bx3470 := bx3470.keep k3571 (by simp)
     obtain ⟨d3580, d3582, rfl, hd3581, hd3583⟩ := hs3574
     have := hd3581.len_le
     have := hd3583.len_le
     refine wl_n (o_store (vs := [vI ((withM c (⟨(c.recs[no.toNat]!).no, (c.recs[no.toNat]!).asked, (2 : Int), (c.recs[no.toNat]!).approved, [day]⟩ : Recovery)).epoch), vI ((withM c (⟨(c.recs[no.toNat]!).no, (c.recs[no.toNat]!).asked, (2 : Int), (c.recs[no.toNat]!).approved, [day]⟩ : Recovery)).threshold), vI ((withM c (⟨(c.recs[no.toNat]!).no, (c.recs[no.toNat]!).asked, (2 : Int), (c.recs[no.toNat]!).approved, [day]⟩ : Recovery)).wait), d3580, d3582]) (.agg #[vI ((withM c (⟨(c.recs[no.toNat]!).no, (c.recs[no.toNat]!).asked, (2 : Int), (c.recs[no.toNat]!).approved, [day]⟩ : Recovery)).epoch), vI ((withM c (⟨(c.recs[no.toNat]!).no, (c.recs[no.toNat]!).asked, (2 : Int), (c.recs[no.toNat]!).approved, [day]⟩ : Recovery)).threshold), vI ((withM c (⟨(c.recs[no.toNat]!).no, (c.recs[no.toNat]!).asked, (2 : Int), (c.recs[no.toNat]!).approved, [day]⟩ : Recovery)).wait), d3580, d3582]) rfl rfl rfl s_25 (fun u hu => by simp only [List.mem_cons, List.not_mem_nil, or_false] at hu; rcases hu with rfl | rfl | rfl | rfl | rfl <;> first | rfl | exact hd3581.oneCell | exact hd3583.oneCell) (by repeat (first | assumption | constructor)) bx3470 (of_decide_eq_true rfl) s3569 fun w3575 s3576 m3577 k3578 bx3579 => (?_))
     have hd3581 := hd3581.mv m3577
     have hd3583 := hd3583.mv m3577
     refine wl_s (o_assign (vI (0 : Int)) rfl (wl_nil (thenQ_n (?_))))
     refine cw_ret (end_r rfl (resv2 rfl (rv_A (vs := [vI ((withM c (⟨(c.recs[no.toNat]!).no, (c.recs[no.toNat]!).asked, (2 : Int), (c.recs[no.toNat]!).approved, [day]⟩ : Recovery)).epoch), vI ((withM c (⟨(c.recs[no.toNat]!).no, (c.recs[no.toNat]!).asked, (2 : Int), (c.recs[no.toNat]!).approved, [day]⟩ : Recovery)).threshold), vI ((withM c (⟨(c.recs[no.toNat]!).no, (c.recs[no.toNat]!).asked, (2 : Int), (c.recs[no.toNat]!).approved, [day]⟩ : Recovery)).wait), d3580, d3582]) rfl Try.underlying25 rfl s_25 rfl bx3579 rfl) (rv_t rfl rfl)) (?_))
     have e3584 : ((gAct c no (fVeto day)).1) = (withM c (⟨(c.recs[no.toNat]!).no, (c.recs[no.toNat]!).asked, (2 : Int), (c.recs[no.toNat]!).approved, [day]⟩ : Recovery)) := by first | exact congrArg (fun p => p.1) (show gAct c no (fVeto day) = _ from gChk_bad _ (by assumption)) | exact congrArg (fun p => p.1) (show gAct c no (fVeto day) = _ from rv_day hok hn1 hn2 (by assumption)) | exact congrArg (fun p => p.1) (show gAct c no (fVeto day) = _ from rv_done hok hn1 hn2 (by assumption) (by assumption)) | exact congrArg (fun p => p.1) (show gAct c no (fVeto day) = _ from rv_dead hok hn1 hn2 (by assumption) (by assumption)) | exact congrArg (fun p => p.1) (show gAct c no (fVeto day) = _ from rv_open hok hn1 hn2 (by assumption) (by assumption) (by assumption))
     have e3585 : ((gAct c no (fVeto day)).2) = (0 : Int) := by first | exact congrArg (fun p => p.2) (show gAct c no (fVeto day) = _ from gChk_bad _ (by assumption)) | exact congrArg (fun p => p.2) (show gAct c no (fVeto day) = _ from rv_day hok hn1 hn2 (by assumption)) | exact congrArg (fun p => p.2) (show gAct c no (fVeto day) = _ from rv_done hok hn1 hn2 (by assumption) (by assumption)) | exact congrArg (fun p => p.2) (show gAct c no (fVeto day) = _ from rv_dead hok hn1 hn2 (by assumption) (by assumption)) | exact congrArg (fun p => p.2) (show gAct c no (fVeto day) = _ from rv_open hok hn1 hn2 (by assumption) (by assumption) (by assumption))
     exact ⟨_, rfl, s3576.keep, by rw [e3584, e3585]; exact ⟨[vI ((withM c (⟨(c.recs[no.toNat]!).no, (c.recs[no.toNat]!).asked, (2 : Int), (c.recs[no.toNat]!).approved, [day]⟩ : Recovery)).epoch), vI ((withM c (⟨(c.recs[no.toNat]!).no, (c.recs[no.toNat]!).asked, (2 : Int), (c.recs[no.toNat]!).approved, [day]⟩ : Recovery)).threshold), vI ((withM c (⟨(c.recs[no.toNat]!).no, (c.recs[no.toNat]!).asked, (2 : Int), (c.recs[no.toNat]!).approved, [day]⟩ : Recovery)).wait), d3580, d3582], rfl, Enc.out (B := (b3498 :: (b3465 :: []))) ⟨_, _, rfl, hd3581, hd3583⟩⟩⟩
  ·have hp3586 : (inM day ((c.recs[no.toNat]!).asked) (1023 : Int)) = false := by first | simpa using hb3521 | (have e := hb3521; simp at e; omega)
   refine wl_k rfl (wl_k rfl (wl_k rfl (wl_s (o_pickT (Value.bool true) rfl rfl (wl_nil (thenQ_n (?_)))))))
   refine cw_cond true rfl rfl (fun _ => ?_) (fun h => by cases h)
   refine cw_seq (?_)
   refine cw_region (by kernel_rfl) (wl_s (o_build (l := []) pl_25 z_25 rfl [] [vI (0 : Int), vI (0 : Int), vI (0 : Int), Value.slice none 0 0, Value.slice none 0 0] rfl rfl (wl_n (o_store (vs := [vI (0 : Int), vI (0 : Int), vI (0 : Int), Value.slice none 0 0, Value.slice none 0 0]) (.agg #[vI (0 : Int), vI (0 : Int), vI (0 : Int), Value.slice none 0 0, Value.slice none 0 0]) rfl rfl rfl s_25 (fun u hu => by simp only [List.mem_cons, List.not_mem_nil, or_false] at hu; rcases hu with rfl | rfl | rfl | rfl | rfl <;> first | rfl) (by repeat (first | assumption | constructor)) bx3470 (of_decide_eq_true rfl) s3517 fun w3587 s3588 m3589 k3590 bx3591 => (?_)))))
   refine wl_s (o_assign (vI (1 : Int)) rfl (wl_nil (thenQ_n (?_))))
   refine cw_ret (thenQ_r (end_r rfl (resv2 rfl (rv_A (vs := [vI (0 : Int), vI (0 : Int), vI (0 : Int), Value.slice none 0 0, Value.slice none 0 0]) rfl Try.underlying25 rfl s_25 rfl bx3591 rfl) (rv_t rfl rfl)) (?_)))
   have e3592 : ((gAct c no (fVeto day)).1) = (⟨(0 : Int), (0 : Int), (0 : Int), [], []⟩ : Circle) := by first | exact congrArg (fun p => p.1) (show gAct c no (fVeto day) = _ from gChk_bad _ (by assumption)) | exact congrArg (fun p => p.1) (show gAct c no (fVeto day) = _ from rv_day hok hn1 hn2 (by assumption)) | exact congrArg (fun p => p.1) (show gAct c no (fVeto day) = _ from rv_done hok hn1 hn2 (by assumption) (by assumption)) | exact congrArg (fun p => p.1) (show gAct c no (fVeto day) = _ from rv_dead hok hn1 hn2 (by assumption) (by assumption)) | exact congrArg (fun p => p.1) (show gAct c no (fVeto day) = _ from rv_open hok hn1 hn2 (by assumption) (by assumption) (by assumption))
   have e3593 : ((gAct c no (fVeto day)).2) = (1 : Int) := by first | exact congrArg (fun p => p.2) (show gAct c no (fVeto day) = _ from gChk_bad _ (by assumption)) | exact congrArg (fun p => p.2) (show gAct c no (fVeto day) = _ from rv_day hok hn1 hn2 (by assumption)) | exact congrArg (fun p => p.2) (show gAct c no (fVeto day) = _ from rv_done hok hn1 hn2 (by assumption) (by assumption)) | exact congrArg (fun p => p.2) (show gAct c no (fVeto day) = _ from rv_dead hok hn1 hn2 (by assumption) (by assumption)) | exact congrArg (fun p => p.2) (show gAct c no (fVeto day) = _ from rv_open hok hn1 hn2 (by assumption) (by assumption) (by assumption))
   exact ⟨_, rfl, s3588.keep, by rw [e3592, e3593]; exact ⟨[vI (0 : Int), vI (0 : Int), vI (0 : Int), Value.slice none 0 0, Value.slice none 0 0], rfl, Enc.out (B := (b3498 :: (b3465 :: []))) ⟨.slice none 0 0, .slice none 0 0, rfl, (RdL.nil _ _ _), (RdL.nil _ _ _)⟩⟩⟩
set_option maxHeartbeats 4000000 in
set_option maxRecDepth 100000 in
theorem c_refApprovals {O : List Nat} (c_cs : List Value) (c : Circle) (r_cs : List Value) (r : Recovery) (w : World) (h_c : Enc.circle.rd w O c_cs c) (h_r : Enc.recovery.rd w O r_cs r) (hO : ∀ b ∈ O, b < w.heap.size) : CallsK Try.prog 58 [.agg c_cs.toArray, .agg r_cs.toArray] w (fun v _ => v = vI ((apprR c r r.approved.length : Nat) : Int)) :=  by
 have h_c : Enc.circle.rd w ([] ++ O) c_cs c := h_c
 have h_r : Enc.recovery.rd w ([] ++ O) r_cs r := h_r
 have s0 : St w O w [] := St.start hO
 refine callsK_of 25 Try.func58 rfl rfl (of_decide_eq_true rfl) (fun F0 => ?_)
 refine cw_seq (?_)
 refine cw_region (by kernel_rfl) (wl_s (o_boxR (E := Enc.circle) (Value.agg c_cs.toArray) (c_cs) c rfl rfl h_c s0 fun a3594 w3595 s3596 m3597 k3598 hp3599 => (?_)))
 have h_r : Enc.recovery.rd w3595 ([] ++ O) r_cs (r) := Enc.mv Enc.recovery (x := r) h_r m3597
 refine wl_s (o_boxR (E := Enc.recovery) (Value.agg r_cs.toArray) (r_cs) r rfl rfl h_r s3596 fun a3600 w3601 s3602 m3603 k3604 hp3605 => (?_))
 have hp3599 := hp3599.mv m3603
 refine wl_s (o_assign (vI (0 : Int)) rfl (wl_nil (thenQ_n (?_))))
 refine cw_seq (?_)
 refine cw_region (by kernel_rfl) (wl_s (o_assign (vI (0 : Int)) rfl (wl_nil (thenQ_n (?_)))))
 refine cw_seq (?_)
 refine cw_seq (?_)
 refine cw_region (by kernel_rfl) (wl_s (o_assign (vI (0 : Int)) rfl (wl_nil (thenQ_n (?_)))))
 refine cw_block (?_)
 refine cw_loop (fun mI FI wI => ∃ (k : Nat) (B : List Nat), k ≤ r.approved.length ∧ mI = r.approved.length - k ∧ (∃ F1, FI = upds F1 [(2, Value.pointer (some a3594)), (3, Value.pointer (some a3600)), (5, vI ((apprR c r k : Nat) : Int)), (6, vI ((k : Nat) : Int)), (25, undef)]) ∧ St w O wI B ∧ PT Enc.circle wI (B ++ O) (.pointer (some a3594)) (c) ∧ PT Enc.recovery wI (B ++ O) (.pointer (some a3600)) (r)) (r.approved.length - (0)) ?_ ?_
 ·exact ⟨(0), [], (by first | omega | (simp; done) | (simp; omega) | simp_all), rfl, ⟨_, upds_self _ ⟨rfl, rfl, (by first | rfl | exact congrArg (Value.int _) (by first | omega | (rfl))), (by first | rfl | exact congrArg (Value.int _) (by first | omega | (simp))), rfl, trivial⟩⟩, s3602, hp3599, hp3605⟩
 ·intro ml0 F wl0 hI
  clear hp3599 hp3605
  obtain ⟨k, Bl0, hr0_0, hm0, ⟨Fl0, rfl⟩, sl0, hp3599, hp3605⟩ := hI
  have hcm := countM_le c.guardians r.approved k
  refine cw_seq (?_)
  refine cw_seq (?_)
  refine cw_region (by kernel_rfl) (wl_s (o_move (vI ((k : Nat) : Int)) rfl (wl_s (o_fieldR 3 f_47_3 (r.approved) rfl hp3605 (fun _ _ _ h => Enc_recovery_f3 h) fun a3606 hp3607 => (wl_s (o_loadL Try.underlying22 rfl rfl hp3607 fun v3608 hl3609 => (?_)))))))
  have := hl3609.len_le
  refine wl_s (o_lenR Try.underlying22 rfl hl3609 (wl_s (o_lss .i64 ((k : Nat) : Int) (r.approved.length : Int) rfl rfl (wl_nil (thenQ_n (?_))))))
  refine cw_cond (decide (((k : Nat) : Int) < (r.approved.length : Int))) rfl rfl (fun hc3610 => ?_) (fun hc3610 => ?_)
  ·have hp3611 : ((k : Nat) : Int) < (r.approved.length : Int) := by first | simpa using hc3610 | (have e := hc3610; simp at e; omega)
   refine cw_skip (thenQ_n (?_))
   refine cw_seq (?_)
   refine cw_block (?_)
   refine cw_seq (?_)
   refine cw_draw' 7 _ _ [fun (vT : Value) (wT : World) => ∃ aT, vT = .pointer (some aT) ∧ PT (Enc.slice Enc.int) wT (Bl0 ++ O) (.pointer (some aT)) (c.guardians), fun (vT : Value) (wT : World) => RdL Enc.int wT (Bl0 ++ O) vT (c.guardians), fun (vT : Value) (wT : World) => ∃ aT, vT = .pointer (some aT) ∧ PT (Enc.slice Enc.int) wT (Bl0 ++ O) (.pointer (some aT)) (r.approved), fun (vT : Value) (wT : World) => RdL Enc.int wT (Bl0 ++ O) vT (r.approved), isV (vI ((k : Nat) : Int)), fun (vT : Value) (wT : World) => ∃ aT, vT = .pointer (some aT) ∧ PT Enc.int wT (Bl0 ++ O) (.pointer (some aT)) (r.approved[k]!), isV (vI (r.approved[k]!))] (by kernel_rfl) (by kernel_rfl) (by kernel_rfl) (by kernel_rfl) rfl rfl ⟨fun _ _ _ ⟨a, e, h⟩ k => ⟨a, e, h.mv (Mv.of_keep k)⟩, fun _ _ _ h k => h.mv (Mv.of_keep k), fun _ _ _ ⟨a, e, h⟩ k => ⟨a, e, h.mv (Mv.of_keep k)⟩, fun _ _ _ h k => h.mv (Mv.of_keep k), kI, fun _ _ _ ⟨a, e, h⟩ k => ⟨a, e, h.mv (Mv.of_keep k)⟩, kI, trivial⟩ ⟨?_, ?_, ?_, ?_, ?_, ?_, ?_, trivial⟩ ?_
   ·intro F1 w1 k1 hf hd
    have k0 := (Keep.drew [] wl0).trans k1
    have m1 : Mv Bl0 wl0 Bl0 w1 := Mv.of_keep k0
    have hp3599 := hp3599.mv m1
    obtain ⟨F2, rfl⟩ := lit_of (F := F1) [(2, Value.pointer (some a3594))] ⟨hf 2 (by kernel_rfl), trivial⟩
    exact sp_plain rfl ((o_fieldR 3 f_25_3 (c.guardians) rfl hp3599 (fun _ _ _ h => Enc_circle_f3 h) fun a3612 hp3613 => (⟨(Keep.refl _ _), ⟨a3612, rfl, hp3613⟩⟩)))
   ·intro F1 w1 k1 hf hd
    obtain ⟨a3614, e3616, hp3615⟩ : ∃ a, F1 14 = .pointer (some a) ∧ PT (Enc.slice Enc.int) w1 (Bl0 ++ O) (.pointer (some a)) (c.guardians) := hd 0 14 (by kernel_rfl)
    obtain ⟨F2, rfl⟩ := lit_of (F := F1) [(14, Value.pointer (some a3614))] ⟨e3616, trivial⟩
    refine sp_plain rfl ((o_loadL Try.underlying22 rfl rfl hp3615 fun v3617 hl3618 => (?_)))
    have := hl3618.len_le
    exact ⟨(Keep.refl _ _), hl3618⟩
   ·intro F1 w1 k1 hf hd
    have k0 := (Keep.drew [] wl0).trans k1
    have m1 : Mv Bl0 wl0 Bl0 w1 := Mv.of_keep k0
    have hp3605 := hp3605.mv m1
    obtain ⟨F2, rfl⟩ := lit_of (F := F1) [(3, Value.pointer (some a3600))] ⟨hf 3 (by kernel_rfl), trivial⟩
    exact sp_plain rfl ((o_fieldR 3 f_47_3 (r.approved) rfl hp3605 (fun _ _ _ h => Enc_recovery_f3 h) fun a3619 hp3620 => (⟨(Keep.refl _ _), ⟨a3619, rfl, hp3620⟩⟩)))
   ·intro F1 w1 k1 hf hd
    obtain ⟨a3621, e3623, hp3622⟩ : ∃ a, F1 16 = .pointer (some a) ∧ PT (Enc.slice Enc.int) w1 (Bl0 ++ O) (.pointer (some a)) (r.approved) := hd 2 16 (by kernel_rfl)
    obtain ⟨F2, rfl⟩ := lit_of (F := F1) [(16, Value.pointer (some a3621))] ⟨e3623, trivial⟩
    refine sp_plain rfl ((o_loadL Try.underlying22 rfl rfl hp3622 fun v3624 hl3625 => (?_)))
    have := hl3625.len_le
    exact ⟨(Keep.refl _ _), hl3625⟩
   ·intro F1 w1 k1 hf hd
    obtain ⟨F2, rfl⟩ := lit_of (F := F1) [(6, vI ((k : Nat) : Int))] ⟨hf 6 (by kernel_rfl), trivial⟩
    exact sp_plain rfl ((o_move (vI ((k : Nat) : Int)) rfl (⟨(Keep.refl _ _), rfl⟩)))
   ·intro F1 w1 k1 hf hd
    obtain ⟨v3626, e3628, hl3627⟩ : ∃ v, F1 17 = v ∧ RdL Enc.int w1 (Bl0 ++ O) v (r.approved) := ⟨_, rfl, hd 3 17 (by kernel_rfl)⟩
    have := hl3627.len_le
    obtain ⟨F2, rfl⟩ := lit_of (F := F1) [(17, v3626), (18, vI ((k : Nat) : Int))] ⟨e3628, hd 4 18 (by kernel_rfl), trivial⟩
    exact sp_plain rfl ((o_idx Try.underlying22 s_3 .i64 ((k : Nat) : Int) k rfl rfl rfl hl3627 (by omega) fun a3629 hp3630 => (⟨(Keep.refl _ _), ⟨a3629, rfl, hp3630⟩⟩)))
   ·intro F1 w1 k1 hf hd
    obtain ⟨a3631, e3633, hp3632⟩ : ∃ a, F1 19 = .pointer (some a) ∧ PT Enc.int w1 (Bl0 ++ O) (.pointer (some a)) (r.approved[k]!) := hd 5 19 (by kernel_rfl)
    obtain ⟨F2, rfl⟩ := lit_of (F := F1) [(19, Value.pointer (some a3631))] ⟨e3633, trivial⟩
    exact sp_plain rfl ((o_loadI Try.underlying3 rfl rfl hp3632 (⟨(Keep.refl _ _), rfl⟩)))
   intro F3635 w3636 k3634 hT3637 hF3638
   have s3639 := sl0.call k3634
   have m3640 : Mv Bl0 wl0 Bl0 w3636 := Mv.of_keep k3634
   have hp3599 := hp3599.mv m3640
   have hp3605 := hp3605.mv m3640
   obtain ⟨v3642, e3644, hl3643⟩ : ∃ v, F3635 15 = v ∧ RdL Enc.int w3636 (Bl0 ++ O) v (c.guardians) := ⟨_, rfl, hT3637 1 15 (by kernel_rfl) (by decide)⟩
   have := hl3643.len_le
   obtain ⟨F2, rfl⟩ := lit_of (F := F3635) [(2, Value.pointer (some a3594)), (3, Value.pointer (some a3600)), (5, vI ((apprR c r k : Nat) : Int)), (6, vI ((k : Nat) : Int)), (25, undef), (15, v3642), (20, vI (r.approved[k]!))] ⟨hF3638 2 (by kernel_rfl), hF3638 3 (by kernel_rfl), hF3638 5 (by kernel_rfl), hF3638 6 (by kernel_rfl), hF3638 25 (by kernel_rfl), e3644, hT3637 6 20 (by kernel_rfl) (by decide), trivial⟩
   clear hT3637 hF3638
   refine wl_s (o_callK (vs := [v3642, vI (r.approved[k]!)]) enter_25 (c_has (O := Bl0 ++ O) v3642 c.guardians (r.approved[k]!) w3636 hl3643 s3639.lt) rfl s3639 fun v3645 w3646 s3647 m3648 k3649 r3650 => (?_))
   obtain rfl := r3650
   have hp3599 := hp3599.mv m3648
   have hp3605 := hp3605.mv m3648
   refine wl_nil (thenQ_n (?_))
   refine cw_cond (c.guardians.contains (r.approved[k]!)) rfl rfl (fun hc3651 => ?_) (fun hc3651 => ?_)
   ·have hp3652 : (c.guardians.contains (r.approved[k]!)) = true := by first | simpa using hc3651 | (have e := hc3651; simp at e; omega)
    refine cw_region (by kernel_rfl) (wl_s (o_move (vI ((apprR c r k : Nat) : Int)) rfl (wl_s (o_add .i64 ((apprR c r k : Nat) : Int) (1 : Int) (((apprR c r k + 1 : Nat) : Int)) rfl rfl (w64 (by unfold apprR; omega) (by omega)) (wl_s (o_assign (vI ((apprR c r k + 1 : Nat) : Int)) rfl (wl_nil (blockQ_n (thenQ_n (?_))))))))))
    refine cw_region (by kernel_rfl) (wl_s (o_move (vI ((k : Nat) : Int)) rfl (wl_s (o_add .i64 ((k : Nat) : Int) (1 : Int) (((k + 1 : Nat) : Int)) rfl rfl (w64 (by omega) (by omega)) (wl_s (o_assign (vI ((k + 1 : Nat) : Int)) rfl (wl_nil (thenQ_n (?_)))))))))
    exact ⟨_, (by omega), (k + 1), Bl0, (by first | omega | (simp; done) | (simp; omega) | simp_all), rfl, ⟨_, upds_self _ ⟨rfl, rfl, (by first | rfl | exact congrArg (Value.int _) (by first | omega | (first | (unfold apprR; rw [countM_succ (by omega), if_pos (by assumption)]) | (unfold apprR; rw [countM_succ (by omega), if_neg (by rw [Bool.not_eq_true]; assumption)]; try rfl)))), (by first | rfl | exact congrArg (Value.int _) (by first | omega | (simp))), rfl, trivial⟩⟩, s3647, hp3599, hp3605⟩
   ·have hp3653 : (c.guardians.contains (r.approved[k]!)) = false := by first | simpa using hc3651 | (have e := hc3651; simp at e; omega)
    refine cw_skip (blockQ_n (thenQ_n (?_)))
    refine cw_region (by kernel_rfl) (wl_s (o_move (vI ((k : Nat) : Int)) rfl (wl_s (o_add .i64 ((k : Nat) : Int) (1 : Int) (((k + 1 : Nat) : Int)) rfl rfl (w64 (by omega) (by omega)) (wl_s (o_assign (vI ((k + 1 : Nat) : Int)) rfl (wl_nil (thenQ_n (?_)))))))))
    exact ⟨_, (by omega), (k + 1), Bl0, (by first | omega | (simp; done) | (simp; omega) | simp_all), rfl, ⟨_, upds_self _ ⟨rfl, rfl, (by first | rfl | exact congrArg (Value.int _) (by first | omega | (first | (unfold apprR; rw [countM_succ (by omega), if_pos (by assumption)]) | (unfold apprR; rw [countM_succ (by omega), if_neg (by rw [Bool.not_eq_true]; assumption)]; try rfl)))), (by first | rfl | exact congrArg (Value.int _) (by first | omega | (simp))), rfl, trivial⟩⟩, s3647, hp3599, hp3605⟩
  ·have hp3654 : (r.approved.length : Int) ≤ ((k : Nat) : Int) := by first | simpa using hc3610 | (have e := hc3610; simp at e; omega)
   obtain rfl : k = r.approved.length := by omega
   refine cw_exit (thenQ_x (thenQ_x (blockQ_x (thenQ_n (?_)))))
   refine cw_seq (?_)
   refine cw_region (by kernel_rfl) (wl_s (o_move (vI ((apprR c r r.approved.length : Nat) : Int)) rfl (wl_s (o_assign (vI ((apprR c r r.approved.length : Nat) : Int)) rfl (wl_nil (thenQ_n (?_)))))))
   refine cw_ret (end_r rfl (res1 rfl rfl rfl) (?_))
   exact ⟨_, rfl, sl0.keep, by exact rfl⟩
set_option maxHeartbeats 4000000 in
set_option maxRecDepth 100000 in
theorem c_refFinish {O : List Nat} (c_cs : List Value) (c : Circle) (no : Int) (day : Int) (w : World) (h_c : Enc.circle.rd w O c_cs c) (hO : ∀ b ∈ O, b < w.heap.size) : CallsK Try.prog 23 [.agg c_cs.toArray, vI no, vI day] w (fun v w' => ∃ (x0 : List Value), v = .tuple #[.agg x0.toArray, vI ((gAct c no (fFinish c day)).2)] ∧ Enc.circle.rd w' (O) x0 ((gAct c no (fFinish c day)).1)) :=  by
 have h_c : Enc.circle.rd w ([] ++ O) c_cs c := h_c
 have s0 : St w O w [] := St.start hO
 refine callsK_of 54 Try.func23 rfl rfl (of_decide_eq_true rfl) (fun F0 => ?_)
 refine cw_seq (?_)
 refine cw_region (by kernel_rfl) (wl_s (o_boxR (E := Enc.circle) (Value.agg c_cs.toArray) (c_cs) c rfl rfl h_c s0 fun a3655 w3656 s3657 m3658 k3659 hp3660 => (?_)))
 refine wl_s (o_alloc [vI (0 : Int), vI (0 : Int), vI (0 : Int), Value.slice none 0 0, Value.slice none 0 0] z_25 rfl s3657 fun b3661 w3662 e3667 s3663 m3664 k3665 bx3666 => (?_))
 clear e3667
 have hp3660 := hp3660.mv m3664
 refine wl_s (o_assign (vI (0 : Int)) rfl (wl_nil (thenQ_n (?_))))
 refine cw_seq (?_)
 refine cw_region (by kernel_rfl) (wl_s (o_loadS Try.underlying25 rfl s_25 rfl hp3660 fun cs3668 hs3669 => (wl_s (o_move (vI no) rfl (wl_s (o_callK (vs := [Value.agg cs3668.toArray, vI no]) enter_46 (c_refChk (O := (b3661 :: []) ++ O) cs3668 c no w3662 hs3669 s3663.lt) rfl s3663 fun v3670 w3671 s3672 m3673 k3674 r3675 => (?_)))))))
 obtain rfl := r3675
 have hp3660 := hp3660.mv m3673
 have bx3666 := bx3666.keep k3674 (by simp)
 refine wl_s (o_assign (vI (gChkM c no)) rfl (wl_nil (thenQ_n (?_))))
 refine cw_seq (?_)
 refine cw_seq (?_)
 refine cw_region (by kernel_rfl) (wl_s (o_move (vI (gChkM c no)) rfl (wl_s (o_neq .i64 (gChkM c no) (0 : Int) rfl rfl (wl_nil (thenQ_n (?_)))))))
 refine cw_cond ((gChkM c no) != (0 : Int)) rfl rfl (fun hc3676 => ?_) (fun hc3676 => ?_)
 ·have hp3677 : gChkM c no ≠ (0 : Int) := by first | simpa using hc3676 | (have e := hc3676; simp at e; omega)
  refine cw_seq (?_)
  refine cw_region (by kernel_rfl) (wl_s (o_build (l := []) pl_25 z_25 rfl [] [vI (0 : Int), vI (0 : Int), vI (0 : Int), Value.slice none 0 0, Value.slice none 0 0] rfl rfl (wl_s (o_move (vI (gChkM c no)) rfl (wl_n (o_store (vs := [vI (0 : Int), vI (0 : Int), vI (0 : Int), Value.slice none 0 0, Value.slice none 0 0]) (.agg #[vI (0 : Int), vI (0 : Int), vI (0 : Int), Value.slice none 0 0, Value.slice none 0 0]) rfl rfl rfl s_25 (fun u hu => by simp only [List.mem_cons, List.not_mem_nil, or_false] at hu; rcases hu with rfl | rfl | rfl | rfl | rfl <;> first | rfl) (by repeat (first | assumption | constructor)) bx3666 (of_decide_eq_true rfl) s3672 fun w3678 s3679 m3680 k3681 bx3682 => (?_)))))))
  refine wl_s (o_assign (vI (gChkM c no)) rfl (wl_nil (thenQ_n (?_))))
  refine cw_ret (thenQ_r (end_r rfl (resv2 rfl (rv_A (vs := [vI (0 : Int), vI (0 : Int), vI (0 : Int), Value.slice none 0 0, Value.slice none 0 0]) rfl Try.underlying25 rfl s_25 rfl bx3682 rfl) (rv_t rfl rfl)) (?_)))
  have e3683 : ((gAct c no (fFinish c day)).1) = (⟨(0 : Int), (0 : Int), (0 : Int), [], []⟩ : Circle) := by first | exact congrArg (fun p => p.1) (show gAct c no (fFinish c day) = _ from gChk_bad _ (by assumption)) | exact congrArg (fun p => p.1) (show gAct c no (fFinish c day) = _ from fin_dead hok hn1 hn2 (by assumption)) | exact congrArg (fun p => p.1) (show gAct c no (fFinish c day) = _ from fin_done hok hn1 hn2 (by assumption)) | exact congrArg (fun p => p.1) (show gAct c no (fFinish c day) = _ from rf_day hok hn1 hn2 (by assumption) (by assumption) (by assumption)) | exact congrArg (fun p => p.1) (show gAct c no (fFinish c day) = _ from rf_few hok hn1 hn2 (by assumption) (by assumption) (by assumption) (by assumption)) | exact congrArg (fun p => p.1) (show gAct c no (fFinish c day) = _ from rf_wait hok hn1 hn2 (by assumption) (by assumption) (by assumption) (by assumption) (by assumption)) | exact congrArg (fun p => p.1) (show gAct c no (fFinish c day) = _ from rf_open hok hn1 hn2 (by assumption) (by assumption) (by assumption) (by assumption) (by assumption))
  have e3684 : ((gAct c no (fFinish c day)).2) = (gChkM c no) := by first | exact congrArg (fun p => p.2) (show gAct c no (fFinish c day) = _ from gChk_bad _ (by assumption)) | exact congrArg (fun p => p.2) (show gAct c no (fFinish c day) = _ from fin_dead hok hn1 hn2 (by assumption)) | exact congrArg (fun p => p.2) (show gAct c no (fFinish c day) = _ from fin_done hok hn1 hn2 (by assumption)) | exact congrArg (fun p => p.2) (show gAct c no (fFinish c day) = _ from rf_day hok hn1 hn2 (by assumption) (by assumption) (by assumption)) | exact congrArg (fun p => p.2) (show gAct c no (fFinish c day) = _ from rf_few hok hn1 hn2 (by assumption) (by assumption) (by assumption) (by assumption)) | exact congrArg (fun p => p.2) (show gAct c no (fFinish c day) = _ from rf_wait hok hn1 hn2 (by assumption) (by assumption) (by assumption) (by assumption) (by assumption)) | exact congrArg (fun p => p.2) (show gAct c no (fFinish c day) = _ from rf_open hok hn1 hn2 (by assumption) (by assumption) (by assumption) (by assumption) (by assumption))
  exact ⟨_, rfl, s3679.keep, by rw [e3683, e3684]; exact ⟨[vI (0 : Int), vI (0 : Int), vI (0 : Int), Value.slice none 0 0, Value.slice none 0 0], rfl, Enc.out (B := (b3661 :: [])) ⟨.slice none 0 0, .slice none 0 0, rfl, (RdL.nil _ _ _), (RdL.nil _ _ _)⟩⟩⟩
 ·have hp3685 : gChkM c no = (0 : Int) := by first | simpa using hc3676 | (have e := hc3676; simp at e; omega)
  have hc3 := gChk_ok hp3685
  have hok := hc3.1
  have hn1 := hc3.2.1
  have hn2 := hc3.2.2
  have hrl := recs_le hok
  have hrn := rec_no hok hn1 hn2
  have hal := inc_len (recOK_parts (rec_ok hok (k := no.toNat) (by omega))).2.2
  have hab := act_bounds hok hn1 hn2
  refine cw_skip (thenQ_n (?_))
  refine cw_seq (?_)
  refine cw_region (by kernel_rfl) (wl_s (o_fieldR 4 f_25_4 (c.recs) rfl hp3660 (fun _ _ _ h => Enc_circle_f4 h) fun a3686 hp3687 => (wl_s (o_loadL Try.underlying23 rfl rfl hp3687 fun v3688 hl3689 => (?_)))))
  have := hl3689.len_le
  refine wl_s (o_move (vI no) rfl (wl_s (o_idx Try.underlying23 s_47 .i64 no no.toNat rfl rfl (by omega) hl3689 (by omega) fun a3690 hp3691 => (wl_s (o_loadS Try.underlying47 rfl s_47 rfl hp3691 fun cs3692 hs3693 => (wl_s (o_alloc [vI (0 : Int), vI (0 : Int), vI (0 : Int), Value.slice none 0 0, Value.slice none 0 0] z_47 rfl s3672 fun b3694 w3695 e3700 s3696 m3697 k3698 bx3699 => (?_))))))))
  have ne3701 : b3661 ≠ b3694 := by have := bx3666.lt; omega
  clear e3700
  have hp3660 := hp3660.mv m3697
  have hs3693 : Enc.recovery.rd w3695 ((b3694 :: (b3661 :: [])) ++ O) cs3692 (c.recs[no.toNat]!) := Enc.mv Enc.recovery (x := c.recs[no.toNat]!) hs3693 m3697
  have bx3666 := bx3666.keep k3698 (by simp)
  obtain ⟨d3707, d3709, rfl, hd3708, hd3710⟩ := hs3693
  have := hd3708.len_le
  have := hd3710.len_le
  refine wl_n (o_store (vs := [vI ((c.recs[no.toNat]!).no), vI ((c.recs[no.toNat]!).asked), vI ((c.recs[no.toNat]!).state), d3707, d3709]) (.agg #[vI ((c.recs[no.toNat]!).no), vI ((c.recs[no.toNat]!).asked), vI ((c.recs[no.toNat]!).state), d3707, d3709]) rfl rfl rfl s_47 (fun u hu => by simp only [List.mem_cons, List.not_mem_nil, or_false] at hu; rcases hu with rfl | rfl | rfl | rfl | rfl <;> first | rfl | exact hd3708.oneCell | exact hd3710.oneCell) (by repeat (first | assumption | constructor)) bx3699 (of_decide_eq_true rfl) s3696 fun w3702 s3703 m3704 k3705 bx3706 => (?_))
  have hp3660 := hp3660.mv m3704
  have hd3708 := hd3708.mv m3704
  have hd3710 := hd3710.mv m3704
  have bx3666 := bx3666.keep k3705 (nin1 ne3701)
  refine wl_nil (thenQ_n (?_))
  refine cw_seq (?_)
  refine cw_seq (?_)
  refine cw_region (by kernel_rfl) (wl_s (o_fieldL 2 f_47_2 rfl (wl_s (o_loadBx Try.underlying3 rfl (vI ((c.recs[no.toNat]!).state)) rfl bx3706 rfl (wl_s (o_eql .i64 ((c.recs[no.toNat]!).state) (2 : Int) rfl rfl (wl_nil (thenQ_n (?_)))))))))
  refine cw_cond (((c.recs[no.toNat]!).state) == (2 : Int)) rfl rfl (fun hc3711 => ?_) (fun hc3711 => ?_)
  ·have hp3712 : (c.recs[no.toNat]!).state = (2 : Int) := by first | simpa using hc3711 | (have e := hc3711; simp at e; omega)
   refine cw_seq (?_)
   refine cw_region (by kernel_rfl) (wl_s (o_build (l := []) pl_25 z_25 rfl [] [vI (0 : Int), vI (0 : Int), vI (0 : Int), Value.slice none 0 0, Value.slice none 0 0] rfl rfl (wl_n (o_store (vs := [vI (0 : Int), vI (0 : Int), vI (0 : Int), Value.slice none 0 0, Value.slice none 0 0]) (.agg #[vI (0 : Int), vI (0 : Int), vI (0 : Int), Value.slice none 0 0, Value.slice none 0 0]) rfl rfl rfl s_25 (fun u hu => by simp only [List.mem_cons, List.not_mem_nil, or_false] at hu; rcases hu with rfl | rfl | rfl | rfl | rfl <;> first | rfl) (by repeat (first | assumption | constructor)) bx3666 (of_decide_eq_true rfl) s3703 fun w3713 s3714 m3715 k3716 bx3717 => (?_)))))
   refine wl_s (o_assign (vI (452 : Int)) rfl (wl_nil (thenQ_n (?_))))
   refine cw_ret (thenQ_r (end_r rfl (resv2 rfl (rv_A (vs := [vI (0 : Int), vI (0 : Int), vI (0 : Int), Value.slice none 0 0, Value.slice none 0 0]) rfl Try.underlying25 rfl s_25 rfl bx3717 rfl) (rv_t rfl rfl)) (?_)))
   have e3718 : ((gAct c no (fFinish c day)).1) = (⟨(0 : Int), (0 : Int), (0 : Int), [], []⟩ : Circle) := by first | exact congrArg (fun p => p.1) (show gAct c no (fFinish c day) = _ from gChk_bad _ (by assumption)) | exact congrArg (fun p => p.1) (show gAct c no (fFinish c day) = _ from fin_dead hok hn1 hn2 (by assumption)) | exact congrArg (fun p => p.1) (show gAct c no (fFinish c day) = _ from fin_done hok hn1 hn2 (by assumption)) | exact congrArg (fun p => p.1) (show gAct c no (fFinish c day) = _ from rf_day hok hn1 hn2 (by assumption) (by assumption) (by assumption)) | exact congrArg (fun p => p.1) (show gAct c no (fFinish c day) = _ from rf_few hok hn1 hn2 (by assumption) (by assumption) (by assumption) (by assumption)) | exact congrArg (fun p => p.1) (show gAct c no (fFinish c day) = _ from rf_wait hok hn1 hn2 (by assumption) (by assumption) (by assumption) (by assumption) (by assumption)) | exact congrArg (fun p => p.1) (show gAct c no (fFinish c day) = _ from rf_open hok hn1 hn2 (by assumption) (by assumption) (by assumption) (by assumption) (by assumption))
   have e3719 : ((gAct c no (fFinish c day)).2) = (452 : Int) := by first | exact congrArg (fun p => p.2) (show gAct c no (fFinish c day) = _ from gChk_bad _ (by assumption)) | exact congrArg (fun p => p.2) (show gAct c no (fFinish c day) = _ from fin_dead hok hn1 hn2 (by assumption)) | exact congrArg (fun p => p.2) (show gAct c no (fFinish c day) = _ from fin_done hok hn1 hn2 (by assumption)) | exact congrArg (fun p => p.2) (show gAct c no (fFinish c day) = _ from rf_day hok hn1 hn2 (by assumption) (by assumption) (by assumption)) | exact congrArg (fun p => p.2) (show gAct c no (fFinish c day) = _ from rf_few hok hn1 hn2 (by assumption) (by assumption) (by assumption) (by assumption)) | exact congrArg (fun p => p.2) (show gAct c no (fFinish c day) = _ from rf_wait hok hn1 hn2 (by assumption) (by assumption) (by assumption) (by assumption) (by assumption)) | exact congrArg (fun p => p.2) (show gAct c no (fFinish c day) = _ from rf_open hok hn1 hn2 (by assumption) (by assumption) (by assumption) (by assumption) (by assumption))
   exact ⟨_, rfl, s3714.keep, by rw [e3718, e3719]; exact ⟨[vI (0 : Int), vI (0 : Int), vI (0 : Int), Value.slice none 0 0, Value.slice none 0 0], rfl, Enc.out (B := (b3694 :: (b3661 :: []))) ⟨.slice none 0 0, .slice none 0 0, rfl, (RdL.nil _ _ _), (RdL.nil _ _ _)⟩⟩⟩
  ·have hp3720 : (c.recs[no.toNat]!).state ≠ (2 : Int) := by first | simpa using hc3711 | (have e := hc3711; simp at e; omega)
   refine cw_skip (thenQ_n (?_))
   refine cw_seq (?_)
   refine cw_seq (?_)
   refine cw_region (by kernel_rfl) (wl_s (o_fieldL 2 f_47_2 rfl (wl_s (o_loadBx Try.underlying3 rfl (vI ((c.recs[no.toNat]!).state)) rfl bx3706 rfl (wl_s (o_eql .i64 ((c.recs[no.toNat]!).state) (1 : Int) rfl rfl (wl_s (o_move (Value.bool (((c.recs[no.toNat]!).state) == (1 : Int))) rfl (?_)))))))))
   cases hb3721 : (((c.recs[no.toNat]!).state) == (1 : Int))
   ·have hp3722 : (c.recs[no.toNat]!).state ≠ (1 : Int) := by first | simpa using hb3721 | (have e := hb3721; simp at e; omega)
    refine wl_t rfl (o_move (vI day) rfl (wl_t rfl (o_callK (vs := [vI day, vI (0 : Int), vI (1023 : Int)]) enter_32 (c_in (O := (b3694 :: (b3661 :: [])) ++ O) day (0 : Int) (1023 : Int) w3702 s3703.lt) rfl s3703 fun v3723 w3724 s3725 m3726 k3727 r3728 => (?_))))
    obtain rfl := r3728
    have hp3660 := hp3660.mv m3726
    have hd3708 := hd3708.mv m3726
    have hd3710 := hd3710.mv m3726
    have bx3666 := bx3666.keep k3727 (by simp)
    have bx3706 := bx3706.keep k3727 (by simp)
    refine wl_t rfl (o_not (inM day (0 : Int) (1023 : Int)) rfl (wl_s (o_pickF (Value.bool (!(inM day (0 : Int) (1023 : Int)))) rfl rfl (wl_nil (thenQ_n (?_))))))
    refine cw_cond (!(inM day (0 : Int) (1023 : Int))) rfl rfl (fun hc3729 => ?_) (fun hc3729 => ?_)
    ·have hp3730 : (inM day (0 : Int) (1023 : Int)) = false := by first | simpa using hc3729 | (have e := hc3729; simp at e; omega)
     refine cw_seq (?_)
     refine cw_region (by kernel_rfl) (wl_s (o_build (l := []) pl_25 z_25 rfl [] [vI (0 : Int), vI (0 : Int), vI (0 : Int), Value.slice none 0 0, Value.slice none 0 0] rfl rfl (wl_n (o_store (vs := [vI (0 : Int), vI (0 : Int), vI (0 : Int), Value.slice none 0 0, Value.slice none 0 0]) (.agg #[vI (0 : Int), vI (0 : Int), vI (0 : Int), Value.slice none 0 0, Value.slice none 0 0]) rfl rfl rfl s_25 (fun u hu => by simp only [List.mem_cons, List.not_mem_nil, or_false] at hu; rcases hu with rfl | rfl | rfl | rfl | rfl <;> first | rfl) (by repeat (first | assumption | constructor)) bx3666 (of_decide_eq_true rfl) s3725 fun w3731 s3732 m3733 k3734 bx3735 => (?_)))))
     refine wl_s (o_assign (vI (1 : Int)) rfl (wl_nil (thenQ_n (?_))))
     refine cw_ret (thenQ_r (end_r rfl (resv2 rfl (rv_A (vs := [vI (0 : Int), vI (0 : Int), vI (0 : Int), Value.slice none 0 0, Value.slice none 0 0]) rfl Try.underlying25 rfl s_25 rfl bx3735 rfl) (rv_t rfl rfl)) (?_)))
     have e3736 : ((gAct c no (fFinish c day)).1) = (⟨(0 : Int), (0 : Int), (0 : Int), [], []⟩ : Circle) := by first | exact congrArg (fun p => p.1) (show gAct c no (fFinish c day) = _ from gChk_bad _ (by assumption)) | exact congrArg (fun p => p.1) (show gAct c no (fFinish c day) = _ from fin_dead hok hn1 hn2 (by assumption)) | exact congrArg (fun p => p.1) (show gAct c no (fFinish c day) = _ from fin_done hok hn1 hn2 (by assumption)) | exact congrArg (fun p => p.1) (show gAct c no (fFinish c day) = _ from rf_day hok hn1 hn2 (by assumption) (by assumption) (by assumption)) | exact congrArg (fun p => p.1) (show gAct c no (fFinish c day) = _ from rf_few hok hn1 hn2 (by assumption) (by assumption) (by assumption) (by assumption)) | exact congrArg (fun p => p.1) (show gAct c no (fFinish c day) = _ from rf_wait hok hn1 hn2 (by assumption) (by assumption) (by assumption) (by assumption) (by assumption)) | exact congrArg (fun p => p.1) (show gAct c no (fFinish c day) = _ from rf_open hok hn1 hn2 (by assumption) (by assumption) (by assumption) (by assumption) (by assumption))
     have e3737 : ((gAct c no (fFinish c day)).2) = (1 : Int) := by first | exact congrArg (fun p => p.2) (show gAct c no (fFinish c day) = _ from gChk_bad _ (by assumption)) | exact congrArg (fun p => p.2) (show gAct c no (fFinish c day) = _ from fin_dead hok hn1 hn2 (by assumption)) | exact congrArg (fun p => p.2) (show gAct c no (fFinish c day) = _ from fin_done hok hn1 hn2 (by assumption)) | exact congrArg (fun p => p.2) (show gAct c no (fFinish c day) = _ from rf_day hok hn1 hn2 (by assumption) (by assumption) (by assumption)) | exact congrArg (fun p => p.2) (show gAct c no (fFinish c day) = _ from rf_few hok hn1 hn2 (by assumption) (by assumption) (by assumption) (by assumption)) | exact congrArg (fun p => p.2) (show gAct c no (fFinish c day) = _ from rf_wait hok hn1 hn2 (by assumption) (by assumption) (by assumption) (by assumption) (by assumption)) | exact congrArg (fun p => p.2) (show gAct c no (fFinish c day) = _ from rf_open hok hn1 hn2 (by assumption) (by assumption) (by assumption) (by assumption) (by assumption))
     exact ⟨_, rfl, s3732.keep, by rw [e3736, e3737]; exact ⟨[vI (0 : Int), vI (0 : Int), vI (0 : Int), Value.slice none 0 0, Value.slice none 0 0], rfl, Enc.out (B := (b3694 :: (b3661 :: []))) ⟨.slice none 0 0, .slice none 0 0, rfl, (RdL.nil _ _ _), (RdL.nil _ _ _)⟩⟩⟩
    ·have hp3738 : (inM day (0 : Int) (1023 : Int)) = true := by first | simpa using hc3729 | (have e := hc3729; simp at e; omega)
     refine cw_skip (thenQ_n (?_))
     refine cw_seq (?_)
     refine cw_seq (?_)
     refine cw_draw' 5 _ _ [fun (vT : Value) (wT : World) => ∃ csT : List Value, vT = .agg csT.toArray ∧ Enc.circle.rd wT ((b3694 :: (b3661 :: [])) ++ O) csT (c), isV (Value.agg #[vI ((c.recs[no.toNat]!).no), vI ((c.recs[no.toNat]!).asked), vI ((c.recs[no.toNat]!).state), d3707, d3709]), isV (vI ((apprR c (c.recs[no.toNat]!) (c.recs[no.toNat]!).approved.length : Nat) : Int)), fun (vT : Value) (wT : World) => ∃ aT, vT = .pointer (some aT) ∧ PT Enc.int wT ((b3694 :: (b3661 :: [])) ++ O) (.pointer (some aT)) (c.threshold), isV (vI c.threshold)] (by kernel_rfl) (by kernel_rfl) (by kernel_rfl) (by kernel_rfl) rfl rfl ⟨fun _ _ _ ⟨a, e, h⟩ k => ⟨a, e, Enc.mv _ h (Mv.of_keep k)⟩, kI, kI, fun _ _ _ ⟨a, e, h⟩ k => ⟨a, e, h.mv (Mv.of_keep k)⟩, kI, trivial⟩ ⟨?_, ?_, ?_, ?_, ?_, trivial⟩ ?_
     ·intro F1 w1 k1 hf hd
      have k0 := (Keep.drew [] w3724).trans k1
      have m1 : Mv (b3694 :: (b3661 :: [])) w3724 (b3694 :: (b3661 :: [])) w1 := Mv.of_keep k0
      have hp3660 := hp3660.mv m1
      obtain ⟨F2, rfl⟩ := lit_of (F := F1) [(3, Value.pointer (some a3655))] ⟨hf 3 (by kernel_rfl), trivial⟩
      exact sp_plain rfl ((o_loadS Try.underlying25 rfl s_25 rfl hp3660 fun cs3739 hs3740 => (⟨(Keep.refl _ _), ⟨cs3739, rfl, hs3740⟩⟩)))
     ·intro F1 w1 k1 hf hd
      have k0 := (Keep.drew [] w3724).trans k1
      have bx3706 := bx3706.keep k0 (by simp)
      obtain ⟨F2, rfl⟩ := lit_of (F := F1) [(9, Value.pointer (some ⟨b3694, 0, none⟩))] ⟨hf 9 (by kernel_rfl), trivial⟩
      exact sp_plain rfl ((o_loadBxA (vs := [vI ((c.recs[no.toNat]!).no), vI ((c.recs[no.toNat]!).asked), vI ((c.recs[no.toNat]!).state), d3707, d3709]) Try.underlying47 rfl s_47 rfl bx3706 rfl (⟨(Keep.refl _ _), rfl⟩)))
     ·intro F1 w1 k1 hf hd
      have k0 := (Keep.drew [] w3724).trans k1
      have s1 := s3725.call k0
      have m1 : Mv (b3694 :: (b3661 :: [])) w3724 (b3694 :: (b3661 :: [])) w1 := Mv.of_keep k0
      obtain ⟨cs3741, e3743, hs3742⟩ : ∃ cs : List Value, F1 35 = .agg cs.toArray ∧ Enc.circle.rd w1 ((b3694 :: (b3661 :: [])) ++ O) cs (c) := hd 0 35 (by kernel_rfl)
      have hd3708 := hd3708.mv m1
      have hd3710 := hd3710.mv m1
      obtain ⟨F2, rfl⟩ := lit_of (F := F1) [(35, Value.agg cs3741.toArray), (36, Value.agg #[vI ((c.recs[no.toNat]!).no), vI ((c.recs[no.toNat]!).asked), vI ((c.recs[no.toNat]!).state), d3707, d3709])] ⟨e3743, hd 1 36 (by kernel_rfl), trivial⟩
      refine sp_plain rfl ((o_callK (vs := [Value.agg cs3741.toArray, Value.agg #[vI ((c.recs[no.toNat]!).no), vI ((c.recs[no.toNat]!).asked), vI ((c.recs[no.toNat]!).state), d3707, d3709]]) enter_58 (c_refApprovals (O := (b3694 :: (b3661 :: [])) ++ O) cs3741 c [vI ((c.recs[no.toNat]!).no), vI ((c.recs[no.toNat]!).asked), vI ((c.recs[no.toNat]!).state), d3707, d3709] (c.recs[no.toNat]!) w1 hs3742 ⟨_, _, rfl, hd3708, hd3710⟩ s1.lt) rfl s1 fun v3744 w3745 s3746 m3747 k3748 r3749 => (?_)))
      obtain rfl := r3749
      exact ⟨k3748, rfl⟩
     ·intro F1 w1 k1 hf hd
      have k0 := (Keep.drew [] w3724).trans k1
      have m1 : Mv (b3694 :: (b3661 :: [])) w3724 (b3694 :: (b3661 :: [])) w1 := Mv.of_keep k0
      have hp3660 := hp3660.mv m1
      obtain ⟨F2, rfl⟩ := lit_of (F := F1) [(3, Value.pointer (some a3655))] ⟨hf 3 (by kernel_rfl), trivial⟩
      exact sp_plain rfl ((o_fieldR 1 f_25_1 (c.threshold) rfl hp3660 (fun _ _ _ h => Enc_circle_f1 h) fun a3750 hp3751 => (⟨(Keep.refl _ _), ⟨a3750, rfl, hp3751⟩⟩)))
     ·intro F1 w1 k1 hf hd
      obtain ⟨a3752, e3754, hp3753⟩ : ∃ a, F1 38 = .pointer (some a) ∧ PT Enc.int w1 ((b3694 :: (b3661 :: [])) ++ O) (.pointer (some a)) (c.threshold) := hd 3 38 (by kernel_rfl)
      obtain ⟨F2, rfl⟩ := lit_of (F := F1) [(38, Value.pointer (some a3752))] ⟨e3754, trivial⟩
      exact sp_plain rfl ((o_loadI Try.underlying3 rfl rfl hp3753 (⟨(Keep.refl _ _), rfl⟩)))
     intro F3756 w3757 k3755 hT3758 hF3759
     have s3760 := s3725.call k3755
     have m3761 : Mv (b3694 :: (b3661 :: [])) w3724 (b3694 :: (b3661 :: [])) w3757 := Mv.of_keep k3755
     have hp3660 := hp3660.mv m3761
     have hd3708 := hd3708.mv m3761
     have hd3710 := hd3710.mv m3761
     have bx3666 := bx3666.keep k3755 (by simp)
     have bx3706 := bx3706.keep k3755 (by simp)
     obtain ⟨F2, rfl⟩ := lit_of (F := F3756) [(2, vI day), (3, Value.pointer (some a3655)), (6, Value.pointer (some ⟨b3661, 0, none⟩)), (9, Value.pointer (some ⟨b3694, 0, none⟩)), (54, undef), (37, vI ((apprR c (c.recs[no.toNat]!) (c.recs[no.toNat]!).approved.length : Nat) : Int)), (39, vI c.threshold)] ⟨hF3759 2 (by kernel_rfl), hF3759 3 (by kernel_rfl), hF3759 6 (by kernel_rfl), hF3759 9 (by kernel_rfl), hF3759 54 (by kernel_rfl), hT3758 2 37 (by kernel_rfl) (by decide), hT3758 4 39 (by kernel_rfl) (by decide), trivial⟩
     clear hT3758 hF3759
     refine wl_s (o_lss .i64 ((apprR c (c.recs[no.toNat]!) (c.recs[no.toNat]!).approved.length : Nat) : Int) c.threshold rfl rfl (wl_nil (thenQ_n (?_))))
     refine cw_cond (decide (((apprR c (c.recs[no.toNat]!) (c.recs[no.toNat]!).approved.length : Nat) : Int) < c.threshold)) rfl rfl (fun hc3763 => ?_) (fun hc3763 => ?_)
     ·have hp3764 : ((apprR c (c.recs[no.toNat]!) (c.recs[no.toNat]!).approved.length : Nat) : Int) < c.threshold := by first | simpa using hc3763 | (have e := hc3763; simp at e; omega)
      refine cw_seq (?_)
      refine cw_region (by kernel_rfl) (wl_s (o_build (l := []) pl_25 z_25 rfl [] [vI (0 : Int), vI (0 : Int), vI (0 : Int), Value.slice none 0 0, Value.slice none 0 0] rfl rfl (wl_n (o_store (vs := [vI (0 : Int), vI (0 : Int), vI (0 : Int), Value.slice none 0 0, Value.slice none 0 0]) (.agg #[vI (0 : Int), vI (0 : Int), vI (0 : Int), Value.slice none 0 0, Value.slice none 0 0]) rfl rfl rfl s_25 (fun u hu => by simp only [List.mem_cons, List.not_mem_nil, or_false] at hu; rcases hu with rfl | rfl | rfl | rfl | rfl <;> first | rfl) (by repeat (first | assumption | constructor)) bx3666 (of_decide_eq_true rfl) s3760 fun w3765 s3766 m3767 k3768 bx3769 => (?_)))))
      refine wl_s (o_assign (vI (450 : Int)) rfl (wl_nil (thenQ_n (?_))))
      refine cw_ret (thenQ_r (end_r rfl (resv2 rfl (rv_A (vs := [vI (0 : Int), vI (0 : Int), vI (0 : Int), Value.slice none 0 0, Value.slice none 0 0]) rfl Try.underlying25 rfl s_25 rfl bx3769 rfl) (rv_t rfl rfl)) (?_)))
      have e3770 : ((gAct c no (fFinish c day)).1) = (⟨(0 : Int), (0 : Int), (0 : Int), [], []⟩ : Circle) := by first | exact congrArg (fun p => p.1) (show gAct c no (fFinish c day) = _ from gChk_bad _ (by assumption)) | exact congrArg (fun p => p.1) (show gAct c no (fFinish c day) = _ from fin_dead hok hn1 hn2 (by assumption)) | exact congrArg (fun p => p.1) (show gAct c no (fFinish c day) = _ from fin_done hok hn1 hn2 (by assumption)) | exact congrArg (fun p => p.1) (show gAct c no (fFinish c day) = _ from rf_day hok hn1 hn2 (by assumption) (by assumption) (by assumption)) | exact congrArg (fun p => p.1) (show gAct c no (fFinish c day) = _ from rf_few hok hn1 hn2 (by assumption) (by assumption) (by assumption) (by assumption)) | exact congrArg (fun p => p.1) (show gAct c no (fFinish c day) = _ from rf_wait hok hn1 hn2 (by assumption) (by assumption) (by assumption) (by assumption) (by assumption)) | exact congrArg (fun p => p.1) (show gAct c no (fFinish c day) = _ from rf_open hok hn1 hn2 (by assumption) (by assumption) (by assumption) (by assumption) (by assumption))
      have e3771 : ((gAct c no (fFinish c day)).2) = (450 : Int) := by first | exact congrArg (fun p => p.2) (show gAct c no (fFinish c day) = _ from gChk_bad _ (by assumption)) | exact congrArg (fun p => p.2) (show gAct c no (fFinish c day) = _ from fin_dead hok hn1 hn2 (by assumption)) | exact congrArg (fun p => p.2) (show gAct c no (fFinish c day) = _ from fin_done hok hn1 hn2 (by assumption)) | exact congrArg (fun p => p.2) (show gAct c no (fFinish c day) = _ from rf_day hok hn1 hn2 (by assumption) (by assumption) (by assumption)) | exact congrArg (fun p => p.2) (show gAct c no (fFinish c day) = _ from rf_few hok hn1 hn2 (by assumption) (by assumption) (by assumption) (by assumption)) | exact congrArg (fun p => p.2) (show gAct c no (fFinish c day) = _ from rf_wait hok hn1 hn2 (by assumption) (by assumption) (by assumption) (by assumption) (by assumption)) | exact congrArg (fun p => p.2) (show gAct c no (fFinish c day) = _ from rf_open hok hn1 hn2 (by assumption) (by assumption) (by assumption) (by assumption) (by assumption))
      exact ⟨_, rfl, s3766.keep, by rw [e3770, e3771]; exact ⟨[vI (0 : Int), vI (0 : Int), vI (0 : Int), Value.slice none 0 0, Value.slice none 0 0], rfl, Enc.out (B := (b3694 :: (b3661 :: []))) ⟨.slice none 0 0, .slice none 0 0, rfl, (RdL.nil _ _ _), (RdL.nil _ _ _)⟩⟩⟩
     ·have hp3772 : c.threshold ≤ ((apprR c (c.recs[no.toNat]!) (c.recs[no.toNat]!).approved.length : Nat) : Int) := by first | simpa using hc3763 | (have e := hc3763; simp at e; omega)
      refine cw_skip (thenQ_n (?_))
      refine cw_seq (?_)
      refine cw_seq (?_)
      refine cw_region (by kernel_rfl) (wl_s (o_move (vI day) rfl (wl_s (o_fieldL 1 f_47_1 rfl (wl_s (o_loadBx Try.underlying3 rfl (vI ((c.recs[no.toNat]!).asked)) rfl bx3706 rfl (wl_s (o_fieldR 2 f_25_2 (c.wait) rfl hp3660 (fun _ _ _ h => Enc_circle_f2 h) fun a3773 hp3774 => (wl_s (o_loadI Try.underlying3 rfl rfl hp3774 (wl_s (o_add .i64 ((c.recs[no.toNat]!).asked) c.wait (((c.recs[no.toNat]!).asked) + c.wait) rfl rfl (w64 (by omega) (by omega)) (wl_s (o_lss .i64 day (((c.recs[no.toNat]!).asked) + c.wait) rfl rfl (wl_nil (thenQ_n (?_)))))))))))))))))
      refine cw_cond (decide (day < ((c.recs[no.toNat]!).asked) + c.wait)) rfl rfl (fun hc3775 => ?_) (fun hc3775 => ?_)
      ·have hp3776 : day < ((c.recs[no.toNat]!).asked) + c.wait := by first | simpa using hc3775 | (have e := hc3775; simp at e; omega)
       refine cw_seq (?_)
       refine cw_region (by kernel_rfl) (wl_s (o_build (l := []) pl_25 z_25 rfl [] [vI (0 : Int), vI (0 : Int), vI (0 : Int), Value.slice none 0 0, Value.slice none 0 0] rfl rfl (wl_n (o_store (vs := [vI (0 : Int), vI (0 : Int), vI (0 : Int), Value.slice none 0 0, Value.slice none 0 0]) (.agg #[vI (0 : Int), vI (0 : Int), vI (0 : Int), Value.slice none 0 0, Value.slice none 0 0]) rfl rfl rfl s_25 (fun u hu => by simp only [List.mem_cons, List.not_mem_nil, or_false] at hu; rcases hu with rfl | rfl | rfl | rfl | rfl <;> first | rfl) (by repeat (first | assumption | constructor)) bx3666 (of_decide_eq_true rfl) s3760 fun w3777 s3778 m3779 k3780 bx3781 => (?_)))))
       refine wl_s (o_assign (vI (451 : Int)) rfl (wl_nil (thenQ_n (?_))))
       refine cw_ret (thenQ_r (end_r rfl (resv2 rfl (rv_A (vs := [vI (0 : Int), vI (0 : Int), vI (0 : Int), Value.slice none 0 0, Value.slice none 0 0]) rfl Try.underlying25 rfl s_25 rfl bx3781 rfl) (rv_t rfl rfl)) (?_)))
       have e3782 : ((gAct c no (fFinish c day)).1) = (⟨(0 : Int), (0 : Int), (0 : Int), [], []⟩ : Circle) := by first | exact congrArg (fun p => p.1) (show gAct c no (fFinish c day) = _ from gChk_bad _ (by assumption)) | exact congrArg (fun p => p.1) (show gAct c no (fFinish c day) = _ from fin_dead hok hn1 hn2 (by assumption)) | exact congrArg (fun p => p.1) (show gAct c no (fFinish c day) = _ from fin_done hok hn1 hn2 (by assumption)) | exact congrArg (fun p => p.1) (show gAct c no (fFinish c day) = _ from rf_day hok hn1 hn2 (by assumption) (by assumption) (by assumption)) | exact congrArg (fun p => p.1) (show gAct c no (fFinish c day) = _ from rf_few hok hn1 hn2 (by assumption) (by assumption) (by assumption) (by assumption)) | exact congrArg (fun p => p.1) (show gAct c no (fFinish c day) = _ from rf_wait hok hn1 hn2 (by assumption) (by assumption) (by assumption) (by assumption) (by assumption)) | exact congrArg (fun p => p.1) (show gAct c no (fFinish c day) = _ from rf_open hok hn1 hn2 (by assumption) (by assumption) (by assumption) (by assumption) (by assumption))
       have e3783 : ((gAct c no (fFinish c day)).2) = (451 : Int) := by first | exact congrArg (fun p => p.2) (show gAct c no (fFinish c day) = _ from gChk_bad _ (by assumption)) | exact congrArg (fun p => p.2) (show gAct c no (fFinish c day) = _ from fin_dead hok hn1 hn2 (by assumption)) | exact congrArg (fun p => p.2) (show gAct c no (fFinish c day) = _ from fin_done hok hn1 hn2 (by assumption)) | exact congrArg (fun p => p.2) (show gAct c no (fFinish c day) = _ from rf_day hok hn1 hn2 (by assumption) (by assumption) (by assumption)) | exact congrArg (fun p => p.2) (show gAct c no (fFinish c day) = _ from rf_few hok hn1 hn2 (by assumption) (by assumption) (by assumption) (by assumption)) | exact congrArg (fun p => p.2) (show gAct c no (fFinish c day) = _ from rf_wait hok hn1 hn2 (by assumption) (by assumption) (by assumption) (by assumption) (by assumption)) | exact congrArg (fun p => p.2) (show gAct c no (fFinish c day) = _ from rf_open hok hn1 hn2 (by assumption) (by assumption) (by assumption) (by assumption) (by assumption))
       exact ⟨_, rfl, s3778.keep, by rw [e3782, e3783]; exact ⟨[vI (0 : Int), vI (0 : Int), vI (0 : Int), Value.slice none 0 0, Value.slice none 0 0], rfl, Enc.out (B := (b3694 :: (b3661 :: []))) ⟨.slice none 0 0, .slice none 0 0, rfl, (RdL.nil _ _ _), (RdL.nil _ _ _)⟩⟩⟩
      ·have hp3784 : ((c.recs[no.toNat]!).asked) + c.wait ≤ day := by first | simpa using hc3775 | (have e := hc3775; simp at e; omega)
       refine cw_skip (thenQ_n (?_))
       refine cw_seq (?_)
       refine cw_region (by kernel_rfl) (wl_s (o_fieldL 2 f_47_2 rfl (wl_n (o_store1 (vI (1 : Int)) rfl rfl rfl s_3 (by repeat (first | assumption | constructor)) bx3706 (of_decide_eq_true rfl) s3760 fun w3785 s3786 m3787 k3788 bx3789 => (?_)))))
       have hp3660 := hp3660.mv m3787
       have bx3666 := bx3666.keep k3788 (nin1 ne3701)
       have hd3708 := hd3708.mv m3787
       have hd3710 := hd3710.mv m3787
       refine wl_nil (thenQ_n (?_))
       refine cw_seq (?_)
       refine cw_region (by kernel_rfl) (wl_s (o_loadS Try.underlying25 rfl s_25 rfl hp3660 fun cs3790 hs3791 => (wl_s (o_loadBxA (vs := [vI ((c.recs[no.toNat]!).no), vI ((c.recs[no.toNat]!).asked), vI (1 : Int), d3707, d3709]) Try.underlying47 rfl s_47 rfl bx3789 rfl (wl_s (o_callK (vs := [Value.agg cs3790.toArray, Value.agg #[vI ((c.recs[no.toNat]!).no), vI ((c.recs[no.toNat]!).asked), vI (1 : Int), d3707, d3709]]) enter_48 (c_refWith (O := (b3694 :: (b3661 :: [])) ++ O) cs3790 c [vI ((c.recs[no.toNat]!).no), vI ((c.recs[no.toNat]!).asked), vI (1 : Int), d3707, d3709] (⟨(c.recs[no.toNat]!).no, (c.recs[no.toNat]!).asked, (1 : Int), (c.recs[no.toNat]!).approved, (c.recs[no.toNat]!).vetoed⟩ : Recovery) w3785 hs3791 ⟨_, _, rfl, hd3708, hd3710⟩ (by omega) (show (0 : Int) ≤ c.recs[no.toNat]!.no from by omega) (show c.recs[no.toNat]!.no < (c.recs.length : Int) from by omega) s3786.lt) rfl s3786 fun v3792 w3793 s3794 m3795 k3796 r3797 => (?_)))))))
       obtain ⟨cs3798, rfl, hs3799⟩ := r3797
       have bx3666 := bx3666.keep k3796 (by simp)
       obtain ⟨d3805, d3807, rfl, hd3806, hd3808⟩ := hs3799
       have := hd3806.len_le
       have := hd3808.len_le
       refine wl_n (o_store (vs := [vI ((withM c (⟨(c.recs[no.toNat]!).no, (c.recs[no.toNat]!).asked, (1 : Int), (c.recs[no.toNat]!).approved, (c.recs[no.toNat]!).vetoed⟩ : Recovery)).epoch), vI ((withM c (⟨(c.recs[no.toNat]!).no, (c.recs[no.toNat]!).asked, (1 : Int), (c.recs[no.toNat]!).approved, (c.recs[no.toNat]!).vetoed⟩ : Recovery)).threshold), vI ((withM c (⟨(c.recs[no.toNat]!).no, (c.recs[no.toNat]!).asked, (1 : Int), (c.recs[no.toNat]!).approved, (c.recs[no.toNat]!).vetoed⟩ : Recovery)).wait), d3805, d3807]) (.agg #[vI ((withM c (⟨(c.recs[no.toNat]!).no, (c.recs[no.toNat]!).asked, (1 : Int), (c.recs[no.toNat]!).approved, (c.recs[no.toNat]!).vetoed⟩ : Recovery)).epoch), vI ((withM c (⟨(c.recs[no.toNat]!).no, (c.recs[no.toNat]!).asked, (1 : Int), (c.recs[no.toNat]!).approved, (c.recs[no.toNat]!).vetoed⟩ : Recovery)).threshold), vI ((withM c (⟨(c.recs[no.toNat]!).no, (c.recs[no.toNat]!).asked, (1 : Int), (c.recs[no.toNat]!).approved, (c.recs[no.toNat]!).vetoed⟩ : Recovery)).wait), d3805, d3807]) rfl rfl rfl s_25 (fun u hu => by simp only [List.mem_cons, List.not_mem_nil, or_false] at hu; rcases hu with rfl | rfl | rfl | rfl | rfl <;> first | rfl | exact hd3806.oneCell | exact hd3808.oneCell) (by repeat (first | assumption | constructor)) bx3666 (of_decide_eq_true rfl) s3794 fun w3800 s3801 m3802 k3803 bx3804 => (?_))
       have hd3806 := hd3806.mv m3802
       have hd3808 := hd3808.mv m3802
       refine wl_s (o_assign (vI (0 : Int)) rfl (wl_nil (thenQ_n (?_))))
       refine cw_ret (end_r rfl (resv2 rfl (rv_A (vs := [vI ((withM c (⟨(c.recs[no.toNat]!).no, (c.recs[no.toNat]!).asked, (1 : Int), (c.recs[no.toNat]!).approved, (c.recs[no.toNat]!).vetoed⟩ : Recovery)).epoch), vI ((withM c (⟨(c.recs[no.toNat]!).no, (c.recs[no.toNat]!).asked, (1 : Int), (c.recs[no.toNat]!).approved, (c.recs[no.toNat]!).vetoed⟩ : Recovery)).threshold), vI ((withM c (⟨(c.recs[no.toNat]!).no, (c.recs[no.toNat]!).asked, (1 : Int), (c.recs[no.toNat]!).approved, (c.recs[no.toNat]!).vetoed⟩ : Recovery)).wait), d3805, d3807]) rfl Try.underlying25 rfl s_25 rfl bx3804 rfl) (rv_t rfl rfl)) (?_))
       have e3809 : ((gAct c no (fFinish c day)).1) = (withM c (⟨(c.recs[no.toNat]!).no, (c.recs[no.toNat]!).asked, (1 : Int), (c.recs[no.toNat]!).approved, (c.recs[no.toNat]!).vetoed⟩ : Recovery)) := by first | exact congrArg (fun p => p.1) (show gAct c no (fFinish c day) = _ from gChk_bad _ (by assumption)) | exact congrArg (fun p => p.1) (show gAct c no (fFinish c day) = _ from fin_dead hok hn1 hn2 (by assumption)) | exact congrArg (fun p => p.1) (show gAct c no (fFinish c day) = _ from fin_done hok hn1 hn2 (by assumption)) | exact congrArg (fun p => p.1) (show gAct c no (fFinish c day) = _ from rf_day hok hn1 hn2 (by assumption) (by assumption) (by assumption)) | exact congrArg (fun p => p.1) (show gAct c no (fFinish c day) = _ from rf_few hok hn1 hn2 (by assumption) (by assumption) (by assumption) (by assumption)) | exact congrArg (fun p => p.1) (show gAct c no (fFinish c day) = _ from rf_wait hok hn1 hn2 (by assumption) (by assumption) (by assumption) (by assumption) (by assumption)) | exact congrArg (fun p => p.1) (show gAct c no (fFinish c day) = _ from rf_open hok hn1 hn2 (by assumption) (by assumption) (by assumption) (by assumption) (by assumption))
       have e3810 : ((gAct c no (fFinish c day)).2) = (0 : Int) := by first | exact congrArg (fun p => p.2) (show gAct c no (fFinish c day) = _ from gChk_bad _ (by assumption)) | exact congrArg (fun p => p.2) (show gAct c no (fFinish c day) = _ from fin_dead hok hn1 hn2 (by assumption)) | exact congrArg (fun p => p.2) (show gAct c no (fFinish c day) = _ from fin_done hok hn1 hn2 (by assumption)) | exact congrArg (fun p => p.2) (show gAct c no (fFinish c day) = _ from rf_day hok hn1 hn2 (by assumption) (by assumption) (by assumption)) | exact congrArg (fun p => p.2) (show gAct c no (fFinish c day) = _ from rf_few hok hn1 hn2 (by assumption) (by assumption) (by assumption) (by assumption)) | exact congrArg (fun p => p.2) (show gAct c no (fFinish c day) = _ from rf_wait hok hn1 hn2 (by assumption) (by assumption) (by assumption) (by assumption) (by assumption)) | exact congrArg (fun p => p.2) (show gAct c no (fFinish c day) = _ from rf_open hok hn1 hn2 (by assumption) (by assumption) (by assumption) (by assumption) (by assumption))
       exact ⟨_, rfl, s3801.keep, by rw [e3809, e3810]; exact ⟨[vI ((withM c (⟨(c.recs[no.toNat]!).no, (c.recs[no.toNat]!).asked, (1 : Int), (c.recs[no.toNat]!).approved, (c.recs[no.toNat]!).vetoed⟩ : Recovery)).epoch), vI ((withM c (⟨(c.recs[no.toNat]!).no, (c.recs[no.toNat]!).asked, (1 : Int), (c.recs[no.toNat]!).approved, (c.recs[no.toNat]!).vetoed⟩ : Recovery)).threshold), vI ((withM c (⟨(c.recs[no.toNat]!).no, (c.recs[no.toNat]!).asked, (1 : Int), (c.recs[no.toNat]!).approved, (c.recs[no.toNat]!).vetoed⟩ : Recovery)).wait), d3805, d3807], rfl, Enc.out (B := (b3694 :: (b3661 :: []))) ⟨_, _, rfl, hd3806, hd3808⟩⟩⟩
   ·have hp3811 : (c.recs[no.toNat]!).state = (1 : Int) := by first | simpa using hb3721 | (have e := hb3721; simp at e; omega)
    refine wl_k rfl (wl_k rfl (wl_k rfl (wl_s (o_pickT (Value.bool true) rfl rfl (wl_nil (thenQ_n (?_)))))))
    refine cw_cond true rfl rfl (fun _ => ?_) (fun h => by cases h)
    refine cw_seq (?_)
    refine cw_region (by kernel_rfl) (wl_s (o_build (l := []) pl_25 z_25 rfl [] [vI (0 : Int), vI (0 : Int), vI (0 : Int), Value.slice none 0 0, Value.slice none 0 0] rfl rfl (wl_n (o_store (vs := [vI (0 : Int), vI (0 : Int), vI (0 : Int), Value.slice none 0 0, Value.slice none 0 0]) (.agg #[vI (0 : Int), vI (0 : Int), vI (0 : Int), Value.slice none 0 0, Value.slice none 0 0]) rfl rfl rfl s_25 (fun u hu => by simp only [List.mem_cons, List.not_mem_nil, or_false] at hu; rcases hu with rfl | rfl | rfl | rfl | rfl <;> first | rfl) (by repeat (first | assumption | constructor)) bx3666 (of_decide_eq_true rfl) s3703 fun w3812 s3813 m3814 k3815 bx3816 => (?_)))))
    refine wl_s (o_assign (vI (1 : Int)) rfl (wl_nil (thenQ_n (?_))))
    refine cw_ret (thenQ_r (end_r rfl (resv2 rfl (rv_A (vs := [vI (0 : Int), vI (0 : Int), vI (0 : Int), Value.slice none 0 0, Value.slice none 0 0]) rfl Try.underlying25 rfl s_25 rfl bx3816 rfl) (rv_t rfl rfl)) (?_)))
    have e3817 : ((gAct c no (fFinish c day)).1) = (⟨(0 : Int), (0 : Int), (0 : Int), [], []⟩ : Circle) := by first | exact congrArg (fun p => p.1) (show gAct c no (fFinish c day) = _ from gChk_bad _ (by assumption)) | exact congrArg (fun p => p.1) (show gAct c no (fFinish c day) = _ from fin_dead hok hn1 hn2 (by assumption)) | exact congrArg (fun p => p.1) (show gAct c no (fFinish c day) = _ from fin_done hok hn1 hn2 (by assumption)) | exact congrArg (fun p => p.1) (show gAct c no (fFinish c day) = _ from rf_day hok hn1 hn2 (by assumption) (by assumption) (by assumption)) | exact congrArg (fun p => p.1) (show gAct c no (fFinish c day) = _ from rf_few hok hn1 hn2 (by assumption) (by assumption) (by assumption) (by assumption)) | exact congrArg (fun p => p.1) (show gAct c no (fFinish c day) = _ from rf_wait hok hn1 hn2 (by assumption) (by assumption) (by assumption) (by assumption) (by assumption)) | exact congrArg (fun p => p.1) (show gAct c no (fFinish c day) = _ from rf_open hok hn1 hn2 (by assumption) (by assumption) (by assumption) (by assumption) (by assumption))
    have e3818 : ((gAct c no (fFinish c day)).2) = (1 : Int) := by first | exact congrArg (fun p => p.2) (show gAct c no (fFinish c day) = _ from gChk_bad _ (by assumption)) | exact congrArg (fun p => p.2) (show gAct c no (fFinish c day) = _ from fin_dead hok hn1 hn2 (by assumption)) | exact congrArg (fun p => p.2) (show gAct c no (fFinish c day) = _ from fin_done hok hn1 hn2 (by assumption)) | exact congrArg (fun p => p.2) (show gAct c no (fFinish c day) = _ from rf_day hok hn1 hn2 (by assumption) (by assumption) (by assumption)) | exact congrArg (fun p => p.2) (show gAct c no (fFinish c day) = _ from rf_few hok hn1 hn2 (by assumption) (by assumption) (by assumption) (by assumption)) | exact congrArg (fun p => p.2) (show gAct c no (fFinish c day) = _ from rf_wait hok hn1 hn2 (by assumption) (by assumption) (by assumption) (by assumption) (by assumption)) | exact congrArg (fun p => p.2) (show gAct c no (fFinish c day) = _ from rf_open hok hn1 hn2 (by assumption) (by assumption) (by assumption) (by assumption) (by assumption))
    exact ⟨_, rfl, s3813.keep, by rw [e3817, e3818]; exact ⟨[vI (0 : Int), vI (0 : Int), vI (0 : Int), Value.slice none 0 0, Value.slice none 0 0], rfl, Enc.out (B := (b3694 :: (b3661 :: []))) ⟨.slice none 0 0, .slice none 0 0, rfl, (RdL.nil _ _ _), (RdL.nil _ _ _)⟩⟩⟩

end Go.Proofs.Ytpdekmknnpkmgaa
