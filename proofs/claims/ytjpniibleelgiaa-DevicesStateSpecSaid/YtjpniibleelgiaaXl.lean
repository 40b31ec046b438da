/- Walks, printed by gen.py. -/
import Derived.Test.YtjpniibleelgiaaXk
import Derived.Test.YtjpniibleelgiaaXh
set_option linter.unusedSimpArgs false
set_option linter.unusedVariables false
namespace Go.Proofs.Ytjpniibleelgiaa
open Go.Fw Go.RowKit

set_option maxHeartbeats 4000000 in
set_option maxRecDepth 100000 in
theorem c_DevicesAddSpec {O : List Nat} (l_v : Value) (l : List DeviceOp) (o_cs : List Value) (o : DeviceOp) (w : World) (h_l : RdL Enc.devop w O l_v l) (h_o : Enc.devop.rd w O o_cs o) (hO : ∀ b ∈ O, b < w.heap.size) : CallsK Try.prog 4 [l_v, .agg o_cs.toArray] w (fun v _ => v = .bool (true)) :=  by
 have lim_l := h_l.len_le
 have h_l : RdL Enc.devop w ([] ++ O) l_v l := h_l
 obtain rfl := h_o
 have s0 : St w O w [] := St.start hO
 refine callsK_of 41 Try.func4 rfl rfl (of_decide_eq_true rfl) (fun F0 => ?_)
 refine cw_seq (?_)
 refine cw_region (by kernel_rfl) (wl_s (o_boxR (E := Enc.devop) (Value.agg #[vI o.device, vI o.no, vI o.kind, vI o.copy, vI o.to, vI o.token]) ([vI o.device, vI o.no, vI o.kind, vI o.copy, vI o.to, vI o.token]) o rfl rfl rfl s0 fun a3005 w3006 s3007 m3008 k3009 hp3010 => (?_)))
 have h_l := h_l.mv m3008
 refine wl_s (o_assign (Value.bool false) rfl (wl_nil (thenQ_n (?_))))
 refine cw_seq (?_)
 refine cw_seq (?_)
 refine cw_region (by kernel_rfl) (wl_s (o_callK (vs := []) enter_25 (c_sane42 (O := [] ++ O) w3006 s3007.lt) rfl s3007 fun v3011 w3012 s3013 m3014 k3015 r3016 => (?_)))
 obtain rfl := r3016
 have h_l := h_l.mv m3014
 have hp3010 := hp3010.mv m3014
 refine wl_s (o_not true rfl (wl_nil (thenQ_n (?_))))
 refine cw_cond false rfl rfl (fun h => by cases h) (fun _ => ?_)
 refine cw_skip (thenQ_n (?_))
 refine cw_seq (?_)
 refine cw_seq (?_)
 refine cw_region (by kernel_rfl) (wl_s (o_move (l_v) rfl (wl_s (o_callK (vs := [l_v]) enter_26 (c_few (O := [] ++ O) l_v l w3012 h_l s3013.lt) rfl s3013 fun v3017 w3018 s3019 m3020 k3021 r3022 => (?_)))))
 obtain rfl := r3022
 have h_l := h_l.mv m3020
 have hp3010 := hp3010.mv m3020
 refine wl_s (o_not (decide ((l.length : Int) ≤ 40)) rfl (wl_nil (thenQ_n (?_))))
 refine cw_cond (!(decide ((l.length : Int) ≤ 40))) rfl rfl (fun hc3023 => ?_) (fun hc3023 => ?_)
 ·have hp3024 : 40 < (l.length : Int) := by first | simpa using hc3023 | (have e := hc3023; simp at e; omega)
  refine cw_seq (?_)
  refine cw_region (by kernel_rfl) (wl_s (o_assign (Value.bool true) rfl (wl_nil (thenQ_n (?_)))))
  refine cw_ret (thenQ_r (end_r rfl (res1 rfl rfl rfl) (?_)))
  exact ⟨_, rfl, s3019.keep, rfl⟩
 ·have hp3025 : (l.length : Int) ≤ 40 := by first | simpa using hc3023 | (have e := hc3023; simp at e; omega)
  refine cw_skip (thenQ_n (?_))
  refine cw_seq (?_)
  refine cw_region (by kernel_rfl) (wl_s (o_move (l_v) rfl (wl_s (o_loadS Try.underlying40 rfl s_40 rfl hp3010 fun cs3026 hs3027 => (?_)))))
  obtain rfl := hs3027
  refine wl_s (o_callK (vs := [l_v, Value.agg #[vI o.device, vI o.no, vI o.kind, vI o.copy, vI o.to, vI o.token]]) enter_23 (c_add (O := [] ++ O) l_v l [vI o.device, vI o.no, vI o.kind, vI o.copy, vI o.to, vI o.token] o w3018 h_l rfl s3019.lt) rfl s3019 fun v3028 w3029 s3030 m3031 k3032 r3033 => (?_))
  obtain ⟨x3034, rfl, hl3035⟩ := r3033
  have := hl3035.len_le
  have h_l := h_l.mv m3031
  have hp3010 := hp3010.mv m3031
  refine wl_s (o_move (Value.tuple #[x3034, vI ((addM l o).2)]) rfl (wl_s (o_extract (x3034) rfl rfl (wl_s (o_extract (vI ((addM l o).2)) rfl rfl (wl_s (o_assign (x3034) rfl (wl_s (o_assign (vI ((addM l o).2)) rfl (wl_nil (thenQ_n (?_))))))))))))
  refine cw_seq (?_)
  refine cw_region (by kernel_rfl) (wl_s (o_move (l_v) rfl (wl_s (o_loadS Try.underlying40 rfl s_40 rfl hp3010 fun cs3036 hs3037 => (?_)))))
  obtain rfl := hs3037
  refine wl_s (o_callK (vs := [l_v, Value.agg #[vI o.device, vI o.no, vI o.kind, vI o.copy, vI o.to, vI o.token]]) enter_27 (c_refAdd (O := [] ++ O) l_v l [vI o.device, vI o.no, vI o.kind, vI o.copy, vI o.to, vI o.token] o w3029 h_l rfl s3030.lt) rfl s3030 fun v3038 w3039 s3040 m3041 k3042 r3043 => (?_))
  obtain ⟨x3044, rfl, hl3045⟩ := r3043
  have := hl3045.len_le
  have h_l := h_l.mv m3041
  have hl3035 := hl3035.mv m3041
  refine wl_s (o_move (Value.tuple #[x3044, vI ((addM l o).2)]) rfl (wl_s (o_extract (x3044) rfl rfl (wl_s (o_extract (vI ((addM l o).2)) rfl rfl (wl_s (o_assign (x3044) rfl (wl_s (o_assign (vI ((addM l o).2)) rfl (wl_nil (thenQ_n (?_))))))))))))
  refine cw_seq (?_)
  refine cw_region (by kernel_rfl) (wl_s (o_move (x3034) rfl (wl_s (o_move (x3044) rfl (wl_s (o_callK (vs := [x3034, x3044]) enter_28 (c_same (O := [] ++ O) x3034 ((addM l o).1) x3044 ((addM l o).1) w3039 hl3035 hl3045 s3040.lt) rfl s3040 fun v3046 w3047 s3048 m3049 k3050 r3051 => (?_)))))))
  obtain rfl := r3051
  have h_l := h_l.mv m3049
  refine wl_s (o_move (Value.bool (((addM l o).1) == ((addM l o).1))) rfl (?_))
  have hb3052 : (((addM l o).1) == ((addM l o).1)) = true := (beq_self_eq_true _)
  rw [hb3052]
  refine wl_t rfl (o_move (vI ((addM l o).2)) rfl (wl_t rfl (o_move (vI ((addM l o).2)) rfl (wl_t rfl (o_eql .i64 ((addM l o).2) ((addM l o).2) rfl rfl (wl_s (o_pickT (Value.bool (((addM l o).2) == ((addM l o).2))) rfl rfl (wl_s (o_move (Value.bool (((addM l o).2) == ((addM l o).2))) rfl (?_))))))))))
  have hb3053 : (((addM l o).2) == ((addM l o).2)) = true := (beq_self_eq_true _)
  rw [hb3053]
  refine wl_t rfl (o_move (l_v) rfl (wl_t rfl (o_callK (vs := [l_v]) enter_29 (c_check42 (O := [] ++ O) l_v l w3047 h_l s3048.lt) rfl s3048 fun v3054 w3055 s3056 m3057 k3058 r3059 => (?_))))
  obtain rfl := r3059
  have h_l := h_l.mv m3057
  refine wl_t rfl (o_move (l_v) rfl (wl_t rfl (o_callK (vs := [l_v]) enter_30 (c_refCheck (O := [] ++ O) l_v l w3055 h_l s3056.lt) rfl s3056 fun v3060 w3061 s3062 m3063 k3064 r3065 => (?_))))
  obtain rfl := r3065
  refine wl_t rfl (o_eql .i64 (checkM l) (checkM l) rfl rfl (wl_s (o_pickT (Value.bool ((checkM l) == (checkM l))) rfl rfl (wl_s (o_assign (Value.bool ((checkM l) == (checkM l))) rfl (wl_nil (thenQ_n (?_))))))))
  refine cw_ret (end_r rfl (res1 rfl rfl rfl) (?_))
  have e : true = ((checkM l) == (checkM l)) := by first | rfl | exact (beq_self_eq_true _).symm
  exact ⟨_, rfl, s3062.keep, by rw [e]; exact rfl⟩
set_option maxHeartbeats 4000000 in
set_option maxRecDepth 100000 in
theorem c_DevicesMergeSpec {O : List Nat} (la_v : Value) (la : List DeviceOp) (lb_v : Value) (lb : List DeviceOp) (w : World) (h_la : RdL Enc.devop w O la_v la) (h_lb : RdL Enc.devop w O lb_v lb) (hO : ∀ b ∈ O, b < w.heap.size) : CallsK Try.prog 5 [la_v, lb_v] w (fun v _ => v = .bool (true)) :=  by
 have lim_la := h_la.len_le
 have h_la : RdL Enc.devop w ([] ++ O) la_v la := h_la
 have lim_lb := h_lb.len_le
 have h_lb : RdL Enc.devop w ([] ++ O) lb_v lb := h_lb
 have s0 : St w O w [] := St.start hO
 refine callsK_of 39 Try.func5 rfl rfl (of_decide_eq_true rfl) (fun F0 => ?_)
 refine cw_seq (?_)
 refine cw_region (by kernel_rfl) (wl_s (o_assign (Value.bool false) rfl (wl_nil (thenQ_n (?_)))))
 refine cw_seq (?_)
 refine cw_seq (?_)
 refine cw_region (by kernel_rfl) (wl_s (o_callK (vs := []) enter_25 (c_sane42 (O := [] ++ O) w s0.lt) rfl s0 fun v3066 w3067 s3068 m3069 k3070 r3071 => (?_)))
 obtain rfl := r3071
 have h_la := h_la.mv m3069
 have h_lb := h_lb.mv m3069
 refine wl_s (o_not true rfl (wl_nil (thenQ_n (?_))))
 refine cw_cond false rfl rfl (fun h => by cases h) (fun _ => ?_)
 refine cw_skip (thenQ_n (?_))
 refine cw_seq (?_)
 refine cw_seq (?_)
 refine cw_region (by kernel_rfl) (wl_s (o_move (la_v) rfl (wl_s (o_callK (vs := [la_v]) enter_26 (c_few (O := [] ++ O) la_v la w3067 h_la s3068.lt) rfl s3068 fun v3072 w3073 s3074 m3075 k3076 r3077 => (?_)))))
 obtain rfl := r3077
 have h_la := h_la.mv m3075
 have h_lb := h_lb.mv m3075
 refine wl_s (o_not (decide ((la.length : Int) ≤ 40)) rfl (wl_s (o_move (Value.bool (!(decide ((la.length : Int) ≤ 40)))) rfl (?_))))
 cases hb3078 : (!(decide ((la.length : Int) ≤ 40)))
 ·have hp3079 : (la.length : Int) ≤ 40 := by first | simpa using hb3078 | (have e := hb3078; simp at e; omega)
  refine wl_t rfl (o_move (lb_v) rfl (wl_t rfl (o_callK (vs := [lb_v]) enter_26 (c_few (O := [] ++ O) lb_v lb w3073 h_lb s3074.lt) rfl s3074 fun v3080 w3081 s3082 m3083 k3084 r3085 => (?_))))
  obtain rfl := r3085
  have h_la := h_la.mv m3083
  have h_lb := h_lb.mv m3083
  refine wl_t rfl (o_not (decide ((lb.length : Int) ≤ 40)) rfl (wl_s (o_pickF (Value.bool (!(decide ((lb.length : Int) ≤ 40)))) rfl rfl (wl_nil (thenQ_n (?_))))))
  refine cw_cond (!(decide ((lb.length : Int) ≤ 40))) rfl rfl (fun hc3086 => ?_) (fun hc3086 => ?_)
  ·have hp3087 : 40 < (lb.length : Int) := by first | simpa using hc3086 | (have e := hc3086; simp at e; omega)
   refine cw_seq (?_)
   refine cw_region (by kernel_rfl) (wl_s (o_assign (Value.bool true) rfl (wl_nil (thenQ_n (?_)))))
   refine cw_ret (thenQ_r (end_r rfl (res1 rfl rfl rfl) (?_)))
   exact ⟨_, rfl, s3082.keep, rfl⟩
  ·have hp3088 : (lb.length : Int) ≤ 40 := by first | simpa using hc3086 | (have e := hc3086; simp at e; omega)
   refine cw_skip (thenQ_n (?_))
   refine cw_seq (?_)
   refine cw_region (by kernel_rfl) (wl_s (o_move (la_v) rfl (wl_s (o_move (lb_v) rfl (wl_s (o_callK (vs := [la_v, lb_v]) enter_31 (c_merge (O := [] ++ O) la_v la lb_v lb w3081 h_la h_lb s3082.lt) rfl s3082 fun v3089 w3090 s3091 m3092 k3093 r3094 => (?_)))))))
   obtain ⟨x3095, rfl, hl3096⟩ := r3094
   have := hl3096.len_le
   have h_la := h_la.mv m3092
   have h_lb := h_lb.mv m3092
   refine wl_s (o_move (Value.tuple #[x3095, vI ((mergeM la lb).2)]) rfl (wl_s (o_extract (x3095) rfl rfl (wl_s (o_extract (vI ((mergeM la lb).2)) rfl rfl (wl_s (o_assign (x3095) rfl (wl_s (o_assign (vI ((mergeM la lb).2)) rfl (wl_nil (thenQ_n (?_))))))))))))
   refine cw_seq (?_)
   refine cw_region (by kernel_rfl) (wl_s (o_move (la_v) rfl (wl_s (o_move (lb_v) rfl (wl_s (o_callK (vs := [la_v, lb_v]) enter_32 (c_refMerge (O := [] ++ O) la_v la lb_v lb w3090 h_la h_lb s3091.lt) rfl s3091 fun v3097 w3098 s3099 m3100 k3101 r3102 => (?_)))))))
   obtain ⟨x3103, rfl, hl3104⟩ := r3102
   have := hl3104.len_le
   have hl3096 := hl3096.mv m3100
   refine wl_s (o_move (Value.tuple #[x3103, vI ((mergeM la lb).2)]) rfl (wl_s (o_extract (x3103) rfl rfl (wl_s (o_extract (vI ((mergeM la lb).2)) rfl rfl (wl_s (o_assign (x3103) rfl (wl_s (o_assign (vI ((mergeM la lb).2)) rfl (wl_nil (thenQ_n (?_))))))))))))
   refine cw_seq (?_)
   refine cw_region (by kernel_rfl) (wl_s (o_move (x3095) rfl (wl_s (o_move (x3103) rfl (wl_s (o_callK (vs := [x3095, x3103]) enter_28 (c_same (O := [] ++ O) x3095 ((mergeM la lb).1) x3103 ((mergeM la lb).1) w3098 hl3096 hl3104 s3099.lt) rfl s3099 fun v3105 w3106 s3107 m3108 k3109 r3110 => (?_)))))))
   obtain rfl := r3110
   refine wl_s (o_move (Value.bool (((mergeM la lb).1) == ((mergeM la lb).1))) rfl (?_))
   have hb3111 : (((mergeM la lb).1) == ((mergeM la lb).1)) = true := (beq_self_eq_true _)
   rw [hb3111]
   refine wl_t rfl (o_move (vI ((mergeM la lb).2)) rfl (wl_t rfl (o_move (vI ((mergeM la lb).2)) rfl (wl_t rfl (o_eql .i64 ((mergeM la lb).2) ((mergeM la lb).2) rfl rfl (wl_s (o_pickT (Value.bool (((mergeM la lb).2) == ((mergeM la lb).2))) rfl rfl (wl_s (o_assign (Value.bool (((mergeM la lb).2) == ((mergeM la lb).2))) rfl (wl_nil (thenQ_n (?_))))))))))))
   refine cw_ret (end_r rfl (res1 rfl rfl rfl) (?_))
   have e : true = (((mergeM la lb).2) == ((mergeM la lb).2)) := by first | rfl | exact (beq_self_eq_true _).symm
   exact ⟨_, rfl, s3107.keep, by rw [e]; exact rfl⟩
 ·have hp3112 : 40 < (la.length : Int) := by first | simpa using hb3078 | (have e := hb3078; simp at e; omega)
  refine wl_k rfl (wl_k rfl (wl_k rfl (wl_s (o_pickT (Value.bool true) rfl rfl (wl_nil (thenQ_n (?_)))))))
  refine cw_cond true rfl rfl (fun _ => ?_) (fun h => by cases h)
  refine cw_seq (?_)
  refine cw_region (by kernel_rfl) (wl_s (o_assign (Value.bool true) rfl (wl_nil (thenQ_n (?_)))))
  refine cw_ret (thenQ_r (end_r rfl (res1 rfl rfl rfl) (?_)))
  exact ⟨_, rfl, s3074.keep, rfl⟩
set_option maxHeartbeats 4000000 in
set_option maxRecDepth 100000 in
theorem c_DevicesStateSpec {O : List Nat} (l_v : Value) (l : List DeviceOp) (copies : Int) (first : Int) (device : Int) (copy : Int) (w : World) (h_l : RdL Enc.devop w O l_v l) (hO : ∀ b ∈ O, b < w.heap.size) : CallsK Try.prog 6 [l_v, vI copies, vI first, vI device, vI copy] w (fun v _ => v = .bool (true)) :=  by
 have lim_l := h_l.len_le
 have h_l : RdL Enc.devop w ([] ++ O) l_v l := h_l
 have s0 : St w O w [] := St.start hO
 refine callsK_of 82 Try.func6 rfl rfl (of_decide_eq_true rfl) (fun F0 => ?_)
 refine cw_seq (?_)
 refine cw_region (by kernel_rfl) (wl_s (o_assign (Value.bool false) rfl (wl_nil (thenQ_n (?_)))))
 refine cw_seq (?_)
 refine cw_seq (?_)
 refine cw_region (by kernel_rfl) (wl_s (o_callK (vs := []) enter_25 (c_sane42 (O := [] ++ O) w s0.lt) rfl s0 fun v3113 w3114 s3115 m3116 k3117 r3118 => (?_)))
 obtain rfl := r3118
 have h_l := h_l.mv m3116
 refine wl_s (o_not true rfl (wl_nil (thenQ_n (?_))))
 refine cw_cond false rfl rfl (fun h => by cases h) (fun _ => ?_)
 refine cw_skip (thenQ_n (?_))
 refine cw_seq (?_)
 refine cw_seq (?_)
 refine cw_region (by kernel_rfl) (wl_s (o_move (l_v) rfl (wl_s (o_callK (vs := [l_v]) enter_26 (c_few (O := [] ++ O) l_v l w3114 h_l s3115.lt) rfl s3115 fun v3119 w3120 s3121 m3122 k3123 r3124 => (?_)))))
 obtain rfl := r3124
 have h_l := h_l.mv m3122
 refine wl_s (o_not (decide ((l.length : Int) ≤ 40)) rfl (wl_s (o_move (Value.bool (!(decide ((l.length : Int) ≤ 40)))) rfl (?_))))
 cases hb3125 : (!(decide ((l.length : Int) ≤ 40)))
 ·have hp3126 : (l.length : Int) ≤ 40 := by first | simpa using hb3125 | (have e := hb3125; simp at e; omega)
  refine wl_t rfl (o_move (vI copies) rfl (wl_t rfl (o_gtr .i64 copies (50 : Int) rfl rfl (wl_t rfl (o_move (Value.bool (decide ((50 : Int) < copies))) rfl (?_))))))
  cases hb3127 : (decide ((50 : Int) < copies))
  ·have hp3128 : copies ≤ (50 : Int) := by first | simpa using hb3127 | (have e := hb3127; simp at e; omega)
   refine wl_k rfl (wl_k rfl (wl_t rfl (o_pickF (Value.bool false) rfl rfl (wl_s (o_pickF (Value.bool false) rfl rfl (wl_nil (thenQ_n (?_))))))))
   refine cw_cond false rfl rfl (fun h => by cases h) (fun _ => ?_)
   refine cw_skip (thenQ_n (?_))
   refine cw_seq (?_)
   refine cw_region (by kernel_rfl) (wl_s (o_move (l_v) rfl (wl_s (o_move (vI copies) rfl (wl_s (o_move (vI first) rfl (wl_s (o_callK (vs := [l_v, vI copies, vI first]) enter_24 (c_state (O := [] ++ O) l_v l copies first w3120 h_l s3121.lt) rfl s3121 fun v3129 w3130 s3131 m3132 k3133 r3134 => (?_)))))))))
   obtain ⟨x3135, rfl, hl3136⟩ := r3134
   have := hl3136.len_le
   have h_l := h_l.mv m3132
   refine wl_s (o_move (Value.tuple #[x3135, vI ((stateM l copies first).2)]) rfl (wl_s (o_extract (x3135) rfl rfl (wl_s (o_extract (vI ((stateM l copies first).2)) rfl rfl (wl_s (o_assign (x3135) rfl (wl_s (o_assign (vI ((stateM l copies first).2)) rfl (wl_nil (thenQ_n (?_))))))))))))
   refine cw_seq (?_)
   refine cw_region (by kernel_rfl) (wl_s (o_move (l_v) rfl (wl_s (o_move (vI copies) rfl (wl_s (o_move (vI first) rfl (wl_s (o_callK (vs := [l_v, vI copies, vI first]) enter_33 (c_refState (O := [] ++ O) l_v l copies first w3130 h_l s3131.lt) rfl s3131 fun v3137 w3138 s3139 m3140 k3141 r3142 => (?_)))))))))
   obtain ⟨x3143, rfl, hl3144⟩ := r3142
   have := hl3144.len_le
   have h_l := h_l.mv m3140
   have hl3136 := hl3136.mv m3140
   refine wl_s (o_move (Value.tuple #[x3143, vI ((stateM l copies first).2)]) rfl (wl_s (o_extract (x3143) rfl rfl (wl_s (o_extract (vI ((stateM l copies first).2)) rfl rfl (wl_s (o_assign (x3143) rfl (wl_s (o_assign (vI ((stateM l copies first).2)) rfl (wl_nil (thenQ_n (?_))))))))))))
   refine cw_seq (?_)
   refine cw_region (by kernel_rfl) (wl_s (o_move (l_v) rfl (wl_s (o_move (vI copies) rfl (wl_s (o_move (vI first) rfl (wl_s (o_move (vI device) rfl (wl_s (o_move (vI copy) rfl (wl_s (o_callK (vs := [l_v, vI copies, vI first, vI device, vI copy]) enter_34 (c_may (O := [] ++ O) l_v l copies first device copy w3138 h_l s3139.lt) rfl s3139 fun v3145 w3146 s3147 m3148 k3149 r3150 => (?_)))))))))))))
   obtain rfl := r3150
   have h_l := h_l.mv m3148
   have hl3136 := hl3136.mv m3148
   have hl3144 := hl3144.mv m3148
   refine wl_s (o_move (Value.tuple #[Value.bool ((mayM l copies first device copy).1), vI ((mayM l copies first device copy).2)]) rfl (wl_s (o_extract (Value.bool ((mayM l copies first device copy).1)) rfl rfl (wl_s (o_extract (vI ((mayM l copies first device copy).2)) rfl rfl (wl_s (o_assign (Value.bool ((mayM l copies first device copy).1)) rfl (wl_s (o_assign (vI ((mayM l copies first device copy).2)) rfl (wl_nil (thenQ_n (?_))))))))))))
   refine cw_seq (?_)
   refine cw_region (by kernel_rfl) (wl_s (o_move (l_v) rfl (wl_s (o_move (vI copies) rfl (wl_s (o_move (vI first) rfl (wl_s (o_move (vI device) rfl (wl_s (o_move (vI copy) rfl (wl_s (o_callK (vs := [l_v, vI copies, vI first, vI device, vI copy]) enter_35 (c_refMay (O := [] ++ O) l_v l copies first device copy w3146 h_l s3147.lt) rfl s3147 fun v3151 w3152 s3153 m3154 k3155 r3156 => (?_)))))))))))))
   obtain rfl := r3156
   have hl3136 := hl3136.mv m3154
   have hl3144 := hl3144.mv m3154
   refine wl_s (o_move (Value.tuple #[Value.bool ((mayM l copies first device copy).1), vI ((mayM l copies first device copy).2)]) rfl (wl_s (o_extract (Value.bool ((mayM l copies first device copy).1)) rfl rfl (wl_s (o_extract (vI ((mayM l copies first device copy).2)) rfl rfl (wl_s (o_assign (Value.bool ((mayM l copies first device copy).1)) rfl (wl_s (o_assign (vI ((mayM l copies first device copy).2)) rfl (wl_nil (thenQ_n (?_))))))))))))
   refine cw_seq (?_)
   refine cw_region (by kernel_rfl) (wl_s (o_move (x3135) rfl (wl_s (o_move (x3143) rfl (wl_s (o_callK (vs := [x3135, x3143]) enter_36 (c_sameS (O := [] ++ O) x3135 ((stateM l copies first).1) x3143 ((stateM l copies first).1) w3152 hl3136 hl3144 s3153.lt) rfl s3153 fun v3157 w3158 s3159 m3160 k3161 r3162 => (?_)))))))
   obtain rfl := r3162
   refine wl_s (o_move (Value.bool (((stateM l copies first).1) == ((stateM l copies first).1))) rfl (?_))
   have hb3163 : (((stateM l copies first).1) == ((stateM l copies first).1)) = true := (beq_self_eq_true _)
   rw [hb3163]
   refine wl_t rfl (o_move (vI ((stateM l copies first).2)) rfl (wl_t rfl (o_move (vI ((stateM l copies first).2)) rfl (wl_t rfl (o_eql .i64 ((stateM l copies first).2) ((stateM l copies first).2) rfl rfl (wl_s (o_pickT (Value.bool (((stateM l copies first).2) == ((stateM l copies first).2))) rfl rfl (wl_s (o_move (Value.bool (((stateM l copies first).2) == ((stateM l copies first).2))) rfl (?_))))))))))
   have hb3164 : (((stateM l copies first).2) == ((stateM l copies first).2)) = true := (beq_self_eq_true _)
   rw [hb3164]
   refine wl_t rfl (o_move (Value.bool ((mayM l copies first device copy).1)) rfl (wl_t rfl (o_move (Value.bool ((mayM l copies first device copy).1)) rfl (wl_t rfl (o_eqlB ((mayM l copies first device copy).1) ((mayM l copies first device copy).1) Try.underlying4 rfl rfl (wl_s (o_pickT (Value.bool (((mayM l copies first device copy).1) == ((mayM l copies first device copy).1))) rfl rfl (wl_s (o_move (Value.bool (((mayM l copies first device copy).1) == ((mayM l copies first device copy).1))) rfl (?_))))))))))
   have hb3165 : (((mayM l copies first device copy).1) == ((mayM l copies first device copy).1)) = true := (beq_self_eq_true _)
   rw [hb3165]
   refine wl_t rfl (o_move (vI ((mayM l copies first device copy).2)) rfl (wl_t rfl (o_move (vI ((mayM l copies first device copy).2)) rfl (wl_t rfl (o_eql .i64 ((mayM l copies first device copy).2) ((mayM l copies first device copy).2) rfl rfl (wl_s (o_pickT (Value.bool (((mayM l copies first device copy).2) == ((mayM l copies first device copy).2))) rfl rfl (wl_s (o_assign (Value.bool (((mayM l copies first device copy).2) == ((mayM l copies first device copy).2))) rfl (wl_nil (thenQ_n (?_))))))))))))
   refine cw_ret (end_r rfl (res1 rfl rfl rfl) (?_))
   have e : true = (((mayM l copies first device copy).2) == ((mayM l copies first device copy).2)) := by first | rfl | exact (beq_self_eq_true _).symm
   exact ⟨_, rfl, s3159.keep, by rw [e]; exact rfl⟩
  ·have hp3166 : (50 : Int) < copies := by first | simpa using hb3127 | (have e := hb3127; simp at e; omega)
   refine wl_t rfl (o_move (vI copies) rfl (wl_t rfl (o_leq .i64 copies (1024 : Int) rfl rfl (wl_t rfl (o_pickT (Value.bool (decide (copies ≤ (1024 : Int)))) rfl rfl (wl_s (o_pickF (Value.bool (decide (copies ≤ (1024 : Int)))) rfl rfl (wl_nil (thenQ_n (?_))))))))))
   refine cw_cond (decide (copies ≤ (1024 : Int))) rfl rfl (fun hc3167 => ?_) (fun hc3167 => ?_)
   ·have hp3168 : copies ≤ (1024 : Int) := by first | simpa using hc3167 | (have e := hc3167; simp at e; omega)
    refine cw_seq (?_)
    refine cw_region (by kernel_rfl) (wl_s (o_assign (Value.bool true) rfl (wl_nil (thenQ_n (?_)))))
    refine cw_ret (thenQ_r (end_r rfl (res1 rfl rfl rfl) (?_)))
    exact ⟨_, rfl, s3121.keep, rfl⟩
   ·have hp3169 : (1024 : Int) < copies := by first | simpa using hc3167 | (have e := hc3167; simp at e; omega)
    refine cw_skip (thenQ_n (?_))
    refine cw_seq (?_)
    refine cw_region (by kernel_rfl) (wl_s (o_move (l_v) rfl (wl_s (o_move (vI copies) rfl (wl_s (o_move (vI first) rfl (wl_s (o_callK (vs := [l_v, vI copies, vI first]) enter_24 (c_state (O := [] ++ O) l_v l copies first w3120 h_l s3121.lt) rfl s3121 fun v3170 w3171 s3172 m3173 k3174 r3175 => (?_)))))))))
    obtain ⟨x3176, rfl, hl3177⟩ := r3175
    have := hl3177.len_le
    have h_l := h_l.mv m3173
    refine wl_s (o_move (Value.tuple #[x3176, vI ((stateM l copies first).2)]) rfl (wl_s (o_extract (x3176) rfl rfl (wl_s (o_extract (vI ((stateM l copies first).2)) rfl rfl (wl_s (o_assign (x3176) rfl (wl_s (o_assign (vI ((stateM l copies first).2)) rfl (wl_nil (thenQ_n (?_))))))))))))
    refine cw_seq (?_)
    refine cw_region (by kernel_rfl) (wl_s (o_move (l_v) rfl (wl_s (o_move (vI copies) rfl (wl_s (o_move (vI first) rfl (wl_s (o_callK (vs := [l_v, vI copies, vI first]) enter_33 (c_refState (O := [] ++ O) l_v l copies first w3171 h_l s3172.lt) rfl s3172 fun v3178 w3179 s3180 m3181 k3182 r3183 => (?_)))))))))
    obtain ⟨x3184, rfl, hl3185⟩ := r3183
    have := hl3185.len_le
    have h_l := h_l.mv m3181
    have hl3177 := hl3177.mv m3181
    refine wl_s (o_move (Value.tuple #[x3184, vI ((stateM l copies first).2)]) rfl (wl_s (o_extract (x3184) rfl rfl (wl_s (o_extract (vI ((stateM l copies first).2)) rfl rfl (wl_s (o_assign (x3184) rfl (wl_s (o_assign (vI ((stateM l copies first).2)) rfl (wl_nil (thenQ_n (?_))))))))))))
    refine cw_seq (?_)
    refine cw_region (by kernel_rfl) (wl_s (o_move (l_v) rfl (wl_s (o_move (vI copies) rfl (wl_s (o_move (vI first) rfl (wl_s (o_move (vI device) rfl (wl_s (o_move (vI copy) rfl (wl_s (o_callK (vs := [l_v, vI copies, vI first, vI device, vI copy]) enter_34 (c_may (O := [] ++ O) l_v l copies first device copy w3179 h_l s3180.lt) rfl s3180 fun v3186 w3187 s3188 m3189 k3190 r3191 => (?_)))))))))))))
    obtain rfl := r3191
    have h_l := h_l.mv m3189
    have hl3177 := hl3177.mv m3189
    have hl3185 := hl3185.mv m3189
    refine wl_s (o_move (Value.tuple #[Value.bool ((mayM l copies first device copy).1), vI ((mayM l copies first device copy).2)]) rfl (wl_s (o_extract (Value.bool ((mayM l copies first device copy).1)) rfl rfl (wl_s (o_extract (vI ((mayM l copies first device copy).2)) rfl rfl (wl_s (o_assign (Value.bool ((mayM l copies first device copy).1)) rfl (wl_s (o_assign (vI ((mayM l copies first device copy).2)) rfl (wl_nil (thenQ_n (?_))))))))))))
    refine cw_seq (?_)
    refine cw_region (by kernel_rfl) (wl_s (o_move (l_v) rfl (wl_s (o_move (vI copies) rfl (wl_s (o_move (vI first) rfl (wl_s (o_move (vI device) rfl (wl_s (o_move (vI copy) rfl (wl_s (o_callK (vs := [l_v, vI copies, vI first, vI device, vI copy]) enter_35 (c_refMay (O := [] ++ O) l_v l copies first device copy w3187 h_l s3188.lt) rfl s3188 fun v3192 w3193 s3194 m3195 k3196 r3197 => (?_)))))))))))))
    obtain rfl := r3197
    have hl3177 := hl3177.mv m3195
    have hl3185 := hl3185.mv m3195
    refine wl_s (o_move (Value.tuple #[Value.bool ((mayM l copies first device copy).1), vI ((mayM l copies first device copy).2)]) rfl (wl_s (o_extract (Value.bool ((mayM l copies first device copy).1)) rfl rfl (wl_s (o_extract (vI ((mayM l copies first device copy).2)) rfl rfl (wl_s (o_assign (Value.bool ((mayM l copies first device copy).1)) rfl (wl_s (o_assign (vI ((mayM l copies first device copy).2)) rfl (wl_nil (thenQ_n (?_))))))))))))
    refine cw_seq (?_)
    refine cw_region (by kernel_rfl) (wl_s (o_move (x3176) rfl (wl_s (o_move (x3184) rfl (wl_s (o_callK (vs := [x3176, x3184]) enter_36 (c_sameS (O := [] ++ O) x3176 ((stateM l copies first).1) x3184 ((stateM l copies first).1) w3193 hl3177 hl3185 s3194.lt) rfl s3194 fun v3198 w3199 s3200 m3201 k3202 r3203 => (?_)))))))
    obtain rfl := r3203
    refine wl_s (o_move (Value.bool (((stateM l copies first).1) == ((stateM l copies first).1))) rfl (?_))
    have hb3204 : (((stateM l copies first).1) == ((stateM l copies first).1)) = true := (beq_self_eq_true _)
    rw [hb3204]
    refine wl_t rfl (o_move (vI ((stateM l copies first).2)) rfl (wl_t rfl (o_move (vI ((stateM l copies first).2)) rfl (wl_t rfl (o_eql .i64 ((stateM l copies first).2) ((stateM l copies first).2) rfl rfl (wl_s (o_pickT (Value.bool (((stateM l copies first).2) == ((stateM l copies first).2))) rfl rfl (wl_s (o_move (Value.bool (((stateM l copies first).2) == ((stateM l copies first).2))) rfl (?_))))))))))
    have hb3205 : (((stateM l copies first).2) == ((stateM l copies first).2)) = true := (beq_self_eq_true _)
    rw [hb3205]
    refine wl_t rfl (o_move (Value.bool ((mayM l copies first device copy).1)) rfl (wl_t rfl (o_move (Value.bool ((mayM l copies first device copy).1)) rfl (wl_t rfl (o_eqlB ((mayM l copies first device copy).1) ((mayM l copies first device copy).1) Try.underlying4 rfl rfl (wl_s (o_pickT (Value.bool (((mayM l copies first device copy).1) == ((mayM l copies first device copy).1))) rfl rfl (wl_s (o_move (Value.bool (((mayM l copies first device copy).1) == ((mayM l copies first device copy).1))) rfl (?_))))))))))
    have hb3206 : (((mayM l copies first device copy).1) == ((mayM l copies first device copy).1)) = true := (beq_self_eq_true _)
    rw [hb3206]
    refine wl_t rfl (o_move (vI ((mayM l copies first device copy).2)) rfl (wl_t rfl (o_move (vI ((mayM l copies first device copy).2)) rfl (wl_t rfl (o_eql .i64 ((mayM l copies first device copy).2) ((mayM l copies first device copy).2) rfl rfl (wl_s (o_pickT (Value.bool (((mayM l copies first device copy).2) == ((mayM l copies first device copy).2))) rfl rfl (wl_s (o_assign (Value.bool (((mayM l copies first device copy).2) == ((mayM l copies first device copy).2))) rfl (wl_nil (thenQ_n (?_))))))))))))
    refine cw_ret (end_r rfl (res1 rfl rfl rfl) (?_))
    have e : true = (((mayM l copies first device copy).2) == ((mayM l copies first device copy).2)) := by first | rfl | exact (beq_self_eq_true _).symm
    exact ⟨_, rfl, s3200.keep, by rw [e]; exact rfl⟩
 ·have hp3207 : 40 < (l.length : Int) := by first | simpa using hb3125 | (have e := hb3125; simp at e; omega)
  refine wl_k rfl (wl_k rfl (wl_k rfl (wl_u rfl (wl_u rfl (wl_k rfl (wl_s (o_pickT (Value.bool true) rfl rfl (wl_nil (thenQ_n (?_))))))))))
  refine cw_cond true rfl rfl (fun _ => ?_) (fun h => by cases h)
  refine cw_seq (?_)
  refine cw_region (by kernel_rfl) (wl_s (o_assign (Value.bool true) rfl (wl_nil (thenQ_n (?_)))))
  refine cw_ret (thenQ_r (end_r rfl (res1 rfl rfl rfl) (?_)))
  exact ⟨_, rfl, s3121.keep, rfl⟩

end Go.Proofs.Ytjpniibleelgiaa
