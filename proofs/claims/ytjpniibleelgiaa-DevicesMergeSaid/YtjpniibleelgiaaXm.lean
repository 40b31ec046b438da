/- Walks, printed by gen.py. -/
import Derived.Test.YtjpniibleelgiaaXk
import Derived.Test.YtjpniibleelgiaaMdD
set_option linter.unusedSimpArgs false
set_option linter.unusedVariables false
namespace Go.Proofs.Ytjpniibleelgiaa
open Go.Fw Go.RowKit

set_option maxHeartbeats 4000000 in
set_option maxRecDepth 100000 in
theorem c_DevicesMerge {O : List Nat} (la_v : Value) (la : List DeviceOp) (lb_v : Value) (lb : List DeviceOp) (lc_v : Value) (lc : List DeviceOp) (copies : Int) (first : Int) (w : World) (h_la : RdL Enc.devop w O la_v la) (h_lb : RdL Enc.devop w O lb_v lb) (h_lc : RdL Enc.devop w O lc_v lc) (hO : ∀ b ∈ O, b < w.heap.size) : CallsK Try.prog 7 [la_v, lb_v, lc_v, vI copies, vI first] w (fun v _ => v = .bool (true)) :=  by
 have lim_la := h_la.len_le
 have h_la : RdL Enc.devop w ([] ++ O) la_v la := h_la
 have lim_lb := h_lb.len_le
 have h_lb : RdL Enc.devop w ([] ++ O) lb_v lb := h_lb
 have lim_lc := h_lc.len_le
 have h_lc : RdL Enc.devop w ([] ++ O) lc_v lc := h_lc
 have s0 : St w O w [] := St.start hO
 refine callsK_of 202 Try.func7 rfl rfl (of_decide_eq_true rfl) (fun F0 => ?_)
 refine cw_seq (?_)
 refine cw_region (by kernel_rfl) (wl_s (o_assign (Value.bool false) rfl (wl_nil (thenQ_n (?_)))))
 refine cw_seq (?_)
 refine cw_seq (?_)
 refine cw_region (by kernel_rfl) (wl_s (o_callK (vs := []) enter_25 (c_sane42 (O := [] ++ O) w s0.lt) rfl s0 fun v3208 w3209 s3210 m3211 k3212 r3213 => (?_)))
 obtain rfl := r3213
 have h_la := h_la.mv m3211
 have h_lb := h_lb.mv m3211
 have h_lc := h_lc.mv m3211
 refine wl_s (o_not true rfl (wl_nil (thenQ_n (?_))))
 refine cw_cond false rfl rfl (fun h => by cases h) (fun _ => ?_)
 refine cw_skip (thenQ_n (?_))
 refine cw_seq (?_)
 refine cw_seq (?_)
 refine cw_region (by kernel_rfl) (wl_s (o_move (la_v) rfl (wl_s (o_callK (vs := [la_v]) enter_26 (c_few (O := [] ++ O) la_v la w3209 h_la s3210.lt) rfl s3210 fun v3214 w3215 s3216 m3217 k3218 r3219 => (?_)))))
 obtain rfl := r3219
 have h_la := h_la.mv m3217
 have h_lb := h_lb.mv m3217
 have h_lc := h_lc.mv m3217
 refine wl_s (o_not (decide ((la.length : Int) ≤ 40)) rfl (wl_s (o_move (Value.bool (!(decide ((la.length : Int) ≤ 40)))) rfl (?_))))
 cases hb3220 : (!(decide ((la.length : Int) ≤ 40)))
 ·have hp3221 : (la.length : Int) ≤ 40 := by first | simpa using hb3220 | (have e := hb3220; simp at e; omega)
  refine wl_t rfl (o_move (lb_v) rfl (wl_t rfl (o_callK (vs := [lb_v]) enter_26 (c_few (O := [] ++ O) lb_v lb w3215 h_lb s3216.lt) rfl s3216 fun v3222 w3223 s3224 m3225 k3226 r3227 => (?_))))
  obtain rfl := r3227
  have h_la := h_la.mv m3225
  have h_lb := h_lb.mv m3225
  have h_lc := h_lc.mv m3225
  refine wl_t rfl (o_not (decide ((lb.length : Int) ≤ 40)) rfl (wl_s (o_pickF (Value.bool (!(decide ((lb.length : Int) ≤ 40)))) rfl rfl (wl_s (o_move (Value.bool (!(decide ((lb.length : Int) ≤ 40)))) rfl (?_))))))
  cases hb3228 : (!(decide ((lb.length : Int) ≤ 40)))
  ·have hp3229 : (lb.length : Int) ≤ 40 := by first | simpa using hb3228 | (have e := hb3228; simp at e; omega)
   refine wl_t rfl (o_move (lc_v) rfl (wl_t rfl (o_callK (vs := [lc_v]) enter_26 (c_few (O := [] ++ O) lc_v lc w3223 h_lc s3224.lt) rfl s3224 fun v3230 w3231 s3232 m3233 k3234 r3235 => (?_))))
   obtain rfl := r3235
   have h_la := h_la.mv m3233
   have h_lb := h_lb.mv m3233
   have h_lc := h_lc.mv m3233
   refine wl_t rfl (o_not (decide ((lc.length : Int) ≤ 40)) rfl (wl_s (o_pickF (Value.bool (!(decide ((lc.length : Int) ≤ 40)))) rfl rfl (wl_s (o_move (Value.bool (!(decide ((lc.length : Int) ≤ 40)))) rfl (?_))))))
   cases hb3236 : (!(decide ((lc.length : Int) ≤ 40)))
   ·have hp3237 : (lc.length : Int) ≤ 40 := by first | simpa using hb3236 | (have e := hb3236; simp at e; omega)
    refine wl_t rfl (o_move (vI copies) rfl (wl_t rfl (o_gtr .i64 copies (50 : Int) rfl rfl (wl_s (o_pickF (Value.bool (decide ((50 : Int) < copies))) rfl rfl (wl_nil (thenQ_n (?_))))))))
    refine cw_cond (decide ((50 : Int) < copies)) rfl rfl (fun hc3238 => ?_) (fun hc3238 => ?_)
    ·have hp3239 : (50 : Int) < copies := by first | simpa using hc3238 | (have e := hc3238; simp at e; omega)
     refine cw_seq (?_)
     refine cw_region (by kernel_rfl) (wl_s (o_assign (Value.bool true) rfl (wl_nil (thenQ_n (?_)))))
     refine cw_ret (thenQ_r (end_r rfl (res1 rfl rfl rfl) (?_)))
     exact ⟨_, rfl, s3232.keep, rfl⟩
    ·have hp3240 : copies ≤ (50 : Int) := by first | simpa using hc3238 | (have e := hc3238; simp at e; omega)
     refine cw_skip (thenQ_n (?_))
     refine cw_seq (?_)
     refine cw_region (by kernel_rfl) (wl_s (o_move (la_v) rfl (wl_s (o_move (lb_v) rfl (wl_s (o_callK (vs := [la_v, lb_v]) enter_31 (c_merge (O := [] ++ O) la_v la lb_v lb w3231 h_la h_lb s3232.lt) rfl s3232 fun v3241 w3242 s3243 m3244 k3245 r3246 => (?_)))))))
     obtain ⟨x3247, rfl, hl3248⟩ := r3246
     have := hl3248.len_le
     have h_la := h_la.mv m3244
     have h_lb := h_lb.mv m3244
     have h_lc := h_lc.mv m3244
     refine wl_s (o_move (Value.tuple #[x3247, vI ((mergeM la lb).2)]) rfl (wl_s (o_extract (x3247) rfl rfl (wl_s (o_extract (vI ((mergeM la lb).2)) rfl rfl (wl_s (o_assign (x3247) rfl (wl_s (o_assign (vI ((mergeM la lb).2)) rfl (wl_nil (thenQ_n (?_))))))))))))
     refine cw_seq (?_)
     refine cw_region (by kernel_rfl) (wl_s (o_move (lb_v) rfl (wl_s (o_move (la_v) rfl (wl_s (o_callK (vs := [lb_v, la_v]) enter_31 (c_merge (O := [] ++ O) lb_v lb la_v la w3242 h_lb h_la s3243.lt) rfl s3243 fun v3249 w3250 s3251 m3252 k3253 r3254 => (?_)))))))
     obtain ⟨x3255, rfl, hl3256⟩ := r3254
     have := hl3256.len_le
     have h_la := h_la.mv m3252
     have h_lb := h_lb.mv m3252
     have h_lc := h_lc.mv m3252
     have hl3248 := hl3248.mv m3252
     refine wl_s (o_move (Value.tuple #[x3255, vI ((mergeM lb la).2)]) rfl (wl_s (o_extract (x3255) rfl rfl (wl_s (o_extract (vI ((mergeM lb la).2)) rfl rfl (wl_s (o_assign (x3255) rfl (wl_s (o_assign (vI ((mergeM lb la).2)) rfl (wl_nil (thenQ_n (?_))))))))))))
     refine cw_seq (?_)
     refine cw_seq (?_)
     refine cw_region (by kernel_rfl) (wl_s (o_move (vI ((mergeM la lb).2)) rfl (wl_s (o_move (vI ((mergeM lb la).2)) rfl (wl_s (o_neq .i64 ((mergeM la lb).2) ((mergeM lb la).2) rfl rfl (wl_s (o_move (Value.bool (((mergeM la lb).2) != ((mergeM lb la).2))) rfl (?_)))))))))
     have hb3257 : (((mergeM la lb).2) != ((mergeM lb la).2)) = false := (by rw [mergeM_comm la lb]; exact bne_self_eq_false _)
     rw [hb3257]
     refine wl_t rfl (o_move (x3247) rfl (wl_t rfl (o_move (x3255) rfl (wl_t rfl (o_callK (vs := [x3247, x3255]) enter_28 (c_same (O := [] ++ O) x3247 ((mergeM la lb).1) x3255 ((mergeM lb la).1) w3250 hl3248 hl3256 s3251.lt) rfl s3251 fun v3258 w3259 s3260 m3261 k3262 r3263 => (?_))))))
     obtain rfl := r3263
     have h_la := h_la.mv m3261
     have h_lb := h_lb.mv m3261
     have h_lc := h_lc.mv m3261
     have hl3248 := hl3248.mv m3261
     refine wl_t rfl (o_not (((mergeM la lb).1) == ((mergeM lb la).1)) rfl (wl_s (o_pickF (Value.bool (!(((mergeM la lb).1) == ((mergeM lb la).1)))) rfl rfl (wl_nil (thenQ_n (?_))))))
     have hb3264 : (!(((mergeM la lb).1) == ((mergeM lb la).1))) = false := (by rw [show (((mergeM la lb).1) == ((mergeM lb la).1)) = true from (by rw [mergeM_comm la lb]; exact beq_self_eq_true _)]; rfl)
     rw [hb3264]
     refine cw_cond false rfl rfl (fun h => by cases h) (fun _ => ?_)
     refine cw_skip (thenQ_n (?_))
     refine cw_seq (?_)
     refine cw_seq (?_)
     refine cw_region (by kernel_rfl) (wl_s (o_move (vI ((mergeM la lb).2)) rfl (wl_s (o_neq .i64 ((mergeM la lb).2) (0 : Int) rfl rfl (wl_nil (thenQ_n (?_)))))))
     refine cw_cond (((mergeM la lb).2) != (0 : Int)) rfl rfl (fun hc3265 => ?_) (fun hc3265 => ?_)
     ·have hp3266 : (mergeM la lb).2 ≠ (0 : Int) := by first | simpa using hc3265 | (have e := hc3265; simp at e; omega)
      refine cw_seq (?_)
      refine cw_region (by kernel_rfl) (wl_s (o_move (x3247) rfl (wl_s (o_lenR Try.underlying26 rfl hl3248 (wl_s (o_eql .i64 (((mergeM la lb).1).length : Int) (0 : Int) rfl rfl (wl_s (o_assign (Value.bool ((((mergeM la lb).1).length : Int) == (0 : Int))) rfl (wl_nil (thenQ_n (?_)))))))))))
      refine cw_ret (thenQ_r (end_r rfl (res1 rfl rfl rfl) (?_)))
      have e : true = ((((mergeM la lb).1).length : Int) == (0 : Int)) := by first | rfl | (rw [merge_err (by assumption)]; rfl) | (rw [mm_assoc hmm hpp hqq]; exact (beq_self_eq_true _).symm)
      exact ⟨_, rfl, s3260.keep, by rw [e]; exact rfl⟩
     ·have hp3267 : (mergeM la lb).2 = (0 : Int) := by first | simpa using hc3265 | (have e := hc3265; simp at e; omega)
      have hmm : (mergeM la lb).2 = 0 := hp3267
      have hmo := merge_ok hmm
      refine cw_skip (thenQ_n (?_))
      refine cw_seq (?_)
      refine cw_region (by kernel_rfl) (wl_s (o_move (la_v) rfl (wl_s (o_move (la_v) rfl (wl_s (o_callK (vs := [la_v, la_v]) enter_31 (c_merge (O := [] ++ O) la_v la la_v la w3259 h_la h_la s3260.lt) rfl s3260 fun v3268 w3269 s3270 m3271 k3272 r3273 => (?_)))))))
      obtain ⟨x3274, rfl, hl3275⟩ := r3273
      have := hl3275.len_le
      have h_la := h_la.mv m3271
      have h_lb := h_lb.mv m3271
      have h_lc := h_lc.mv m3271
      have hl3248 := hl3248.mv m3271
      refine wl_s (o_move (Value.tuple #[x3274, vI ((mergeM la la).2)]) rfl (wl_s (o_extract (x3274) rfl rfl (wl_s (o_extract (vI ((mergeM la la).2)) rfl rfl (wl_s (o_assign (x3274) rfl (wl_s (o_assign (vI ((mergeM la la).2)) rfl (wl_nil (thenQ_n (?_))))))))))))
      refine cw_seq (?_)
      refine cw_region (by kernel_rfl) (wl_s (o_move (x3247) rfl (wl_s (o_move (lb_v) rfl (wl_s (o_callK (vs := [x3247, lb_v]) enter_31 (c_merge (O := [] ++ O) x3247 ((mergeM la lb).1) lb_v lb w3269 hl3248 h_lb s3270.lt) rfl s3270 fun v3276 w3277 s3278 m3279 k3280 r3281 => (?_)))))))
      obtain ⟨x3282, rfl, hl3283⟩ := r3281
      have := hl3283.len_le
      have h_la := h_la.mv m3279
      have h_lb := h_lb.mv m3279
      have h_lc := h_lc.mv m3279
      have hl3248 := hl3248.mv m3279
      have hl3275 := hl3275.mv m3279
      refine wl_s (o_move (Value.tuple #[x3282, vI ((mergeM ((mergeM la lb).1) lb).2)]) rfl (wl_s (o_extract (x3282) rfl rfl (wl_s (o_extract (vI ((mergeM ((mergeM la lb).1) lb).2)) rfl rfl (wl_s (o_assign (x3282) rfl (wl_s (o_assign (vI ((mergeM ((mergeM la lb).1) lb).2)) rfl (wl_nil (thenQ_n (?_))))))))))))
      refine cw_seq (?_)
      refine cw_seq (?_)
      refine cw_region (by kernel_rfl) (wl_s (o_move (vI ((mergeM la la).2)) rfl (wl_s (o_neq .i64 ((mergeM la la).2) (0 : Int) rfl rfl (wl_s (o_move (Value.bool (((mergeM la la).2) != (0 : Int))) rfl (?_)))))))
      have hb3284 : (((mergeM la la).2) != (0 : Int)) = false := (by rw [mm_own hmo.1]; rfl)
      rw [hb3284]
      refine wl_t rfl (o_move (vI ((mergeM ((mergeM la lb).1) lb).2)) rfl (wl_t rfl (o_neq .i64 ((mergeM ((mergeM la lb).1) lb).2) (0 : Int) rfl rfl (wl_s (o_pickF (Value.bool (((mergeM ((mergeM la lb).1) lb).2) != (0 : Int))) rfl rfl (wl_s (o_move (Value.bool (((mergeM ((mergeM la lb).1) lb).2) != (0 : Int))) rfl (?_))))))))
      have hb3285 : (((mergeM ((mergeM la lb).1) lb).2) != (0 : Int)) = false := (by rw [mm_again hmm]; rfl)
      rw [hb3285]
      refine wl_t rfl (o_move (x3274) rfl (wl_t rfl (o_move (la_v) rfl (wl_t rfl (o_callK (vs := [x3274, la_v]) enter_28 (c_same (O := [] ++ O) x3274 ((mergeM la la).1) la_v la w3277 hl3275 h_la s3278.lt) rfl s3278 fun v3286 w3287 s3288 m3289 k3290 r3291 => (?_))))))
      obtain rfl := r3291
      have h_la := h_la.mv m3289
      have h_lb := h_lb.mv m3289
      have h_lc := h_lc.mv m3289
      have hl3248 := hl3248.mv m3289
      have hl3283 := hl3283.mv m3289
      refine wl_t rfl (o_not (((mergeM la la).1) == la) rfl (wl_s (o_pickF (Value.bool (!(((mergeM la la).1) == la))) rfl rfl (wl_s (o_move (Value.bool (!(((mergeM la la).1) == la))) rfl (?_))))))
      have hb3292 : (!(((mergeM la la).1) == la)) = false := (by rw [show (((mergeM la la).1) == la) = true from (by rw [mm_own hmo.1]; exact beq_self_eq_true _)]; rfl)
      rw [hb3292]
      refine wl_t rfl (o_move (x3282) rfl (wl_t rfl (o_move (x3247) rfl (wl_t rfl (o_callK (vs := [x3282, x3247]) enter_28 (c_same (O := [] ++ O) x3282 ((mergeM ((mergeM la lb).1) lb).1) x3247 ((mergeM la lb).1) w3287 hl3283 hl3248 s3288.lt) rfl s3288 fun v3293 w3294 s3295 m3296 k3297 r3298 => (?_))))))
      obtain rfl := r3298
      have h_la := h_la.mv m3296
      have h_lb := h_lb.mv m3296
      have h_lc := h_lc.mv m3296
      have hl3248 := hl3248.mv m3296
      refine wl_t rfl (o_not (((mergeM ((mergeM la lb).1) lb).1) == ((mergeM la lb).1)) rfl (wl_s (o_pickF (Value.bool (!(((mergeM ((mergeM la lb).1) lb).1) == ((mergeM la lb).1)))) rfl rfl (wl_nil (thenQ_n (?_))))))
      have hb3299 : (!(((mergeM ((mergeM la lb).1) lb).1) == ((mergeM la lb).1))) = false := (by rw [show (((mergeM ((mergeM la lb).1) lb).1) == ((mergeM la lb).1)) = true from (by rw [mm_again hmm]; exact beq_self_eq_true _)]; rfl)
      rw [hb3299]
      refine cw_cond false rfl rfl (fun h => by cases h) (fun _ => ?_)
      refine cw_skip (thenQ_n (?_))
      refine cw_seq (?_)
      refine cw_seq (?_)
      refine cw_region (by kernel_rfl) (wl_s (o_move (x3247) rfl (wl_s (o_lenR Try.underlying26 rfl hl3248 (wl_s (o_move (vI (0 : Int)) rfl (wl_nil (thenQ_n (?_)))))))))
      refine cw_block (?_)
      refine cw_loop (fun mI FI wI => ∃ (k : Nat) (B : List Nat), k ≤ ((mergeM la lb).1).length ∧ mI = ((mergeM la lb).1).length - k ∧ (∃ F1, FI = upds F1 [(0, la_v), (1, lb_v), (2, lc_v), (3, vI copies), (4, vI first), (11, x3247), (110, x3247), (111, vI (((mergeM la lb).1).length : Int)), (112, vI ((k : Nat) : Int)), (202, undef)]) ∧ St w O wI B ∧ RdL Enc.devop wI (B ++ O) (la_v) (la) ∧ RdL Enc.devop wI (B ++ O) (lb_v) (lb) ∧ RdL Enc.devop wI (B ++ O) (lc_v) (lc) ∧ RdL Enc.devop wI (B ++ O) (x3247) ((mergeM la lb).1)) (((mergeM la lb).1).length - (0)) ?_ ?_
      ·exact ⟨(0), [], (by omega), rfl, ⟨_, upds_self _ ⟨rfl, rfl, rfl, rfl, rfl, rfl, rfl, rfl, (by first | rfl | exact congrArg (Value.int _) (by first | omega | (simp))), rfl, trivial⟩⟩, s3295, h_la, h_lb, h_lc, hl3248⟩
      ·intro ml0 F wl0 hI
       clear h_la h_lb h_lc hl3248
       obtain ⟨k, Bl0, hr0_0, hm0, ⟨Fl0, rfl⟩, sl0, h_la, h_lb, h_lc, hl3248⟩ := hI
       refine cw_seq (?_)
       refine cw_region (by kernel_rfl) (wl_s (o_lss .i64 ((k : Nat) : Int) (((mergeM la lb).1).length : Int) rfl rfl (wl_nil (thenQ_n (?_)))))
       refine cw_seq (?_)
       refine cw_cond (decide (((k : Nat) : Int) < (((mergeM la lb).1).length : Int))) rfl rfl (fun hc3300 => ?_) (fun hc3300 => ?_)
       ·have hp3301 : ((k : Nat) : Int) < (((mergeM la lb).1).length : Int) := by first | simpa using hc3300 | (have e := hc3300; simp at e; omega)
        refine cw_skip (thenQ_n (?_))
        refine cw_seq (?_)
        refine cw_block (?_)
        refine cw_seq (?_)
        refine cw_region (by kernel_rfl) (wl_s (o_idx Try.underlying26 s_40 .i64 ((k : Nat) : Int) k rfl rfl rfl hl3248 (by omega) fun a3302 hp3303 => (wl_s (o_loadS Try.underlying40 rfl s_40 rfl hp3303 fun cs3304 hs3305 => (?_)))))
        obtain rfl := hs3305
        refine wl_s (o_alloc [vI (0 : Int), vI (0 : Int), vI (0 : Int), vI (0 : Int), vI (0 : Int), vI (0 : Int)] z_40 rfl sl0 fun b3306 w3307 e3312 s3308 m3309 k3310 bx3311 => (?_))
        clear e3312
        have h_la := h_la.mv m3309
        have h_lb := h_lb.mv m3309
        have h_lc := h_lc.mv m3309
        have hl3248 := hl3248.mv m3309
        refine wl_n (o_store (vs := [vI ((((mergeM la lb).1)[k]!).device), vI ((((mergeM la lb).1)[k]!).no), vI ((((mergeM la lb).1)[k]!).kind), vI ((((mergeM la lb).1)[k]!).copy), vI ((((mergeM la lb).1)[k]!).to), vI ((((mergeM la lb).1)[k]!).token)]) (.agg #[vI ((((mergeM la lb).1)[k]!).device), vI ((((mergeM la lb).1)[k]!).no), vI ((((mergeM la lb).1)[k]!).kind), vI ((((mergeM la lb).1)[k]!).copy), vI ((((mergeM la lb).1)[k]!).to), vI ((((mergeM la lb).1)[k]!).token)]) rfl rfl rfl s_40 (fun u hu => by simp only [List.mem_cons, List.not_mem_nil, or_false] at hu; rcases hu with rfl | rfl | rfl | rfl | rfl | rfl <;> first | rfl) (by repeat (first | assumption | constructor)) bx3311 (of_decide_eq_true rfl) s3308 fun w3313 s3314 m3315 k3316 bx3317 => (?_))
        have h_la := h_la.mv m3315
        have h_lb := h_lb.mv m3315
        have h_lc := h_lc.mv m3315
        have hl3248 := hl3248.mv m3315
        refine wl_nil (thenQ_n (?_))
        refine cw_seq (?_)
        refine cw_region (by kernel_rfl) (wl_s (o_move (la_v) rfl (wl_s (o_loadBxA (vs := [vI ((((mergeM la lb).1)[k]!).device), vI ((((mergeM la lb).1)[k]!).no), vI ((((mergeM la lb).1)[k]!).kind), vI ((((mergeM la lb).1)[k]!).copy), vI ((((mergeM la lb).1)[k]!).to), vI ((((mergeM la lb).1)[k]!).token)]) Try.underlying40 rfl s_40 rfl bx3317 rfl (wl_s (o_callK (vs := [la_v, Value.agg #[vI ((((mergeM la lb).1)[k]!).device), vI ((((mergeM la lb).1)[k]!).no), vI ((((mergeM la lb).1)[k]!).kind), vI ((((mergeM la lb).1)[k]!).copy), vI ((((mergeM la lb).1)[k]!).to), vI ((((mergeM la lb).1)[k]!).token)]]) enter_37 (c_refHas (O := (b3306 :: Bl0) ++ O) la_v la [vI ((((mergeM la lb).1)[k]!).device), vI ((((mergeM la lb).1)[k]!).no), vI ((((mergeM la lb).1)[k]!).kind), vI ((((mergeM la lb).1)[k]!).copy), vI ((((mergeM la lb).1)[k]!).to), vI ((((mergeM la lb).1)[k]!).token)] (((mergeM la lb).1)[k]!) w3313 h_la rfl s3314.lt) rfl s3314 fun v3318 w3319 s3320 m3321 k3322 r3323 => (?_)))))))
        obtain rfl := r3323
        have h_la := h_la.mv m3321
        have h_lb := h_lb.mv m3321
        have h_lc := h_lc.mv m3321
        have hl3248 := hl3248.mv m3321
        have bx3317 := bx3317.keep k3322 (by simp)
        refine wl_s (o_not (la.contains (((mergeM la lb).1)[k]!)) rfl (wl_s (o_move (Value.bool (!(la.contains (((mergeM la lb).1)[k]!)))) rfl (?_))))
        cases hb3324 : (!(la.contains (((mergeM la lb).1)[k]!)))
        ·have hp3325 : (la.contains (((mergeM la lb).1)[k]!)) = true := by first | simpa using hb3324 | (have e := hb3324; simp at e; omega)
         refine wl_k rfl (wl_k rfl (wl_k rfl (wl_k rfl (wl_s (o_pickF (Value.bool false) rfl rfl (wl_nil (thenQ_n (?_))))))))
         refine cw_cond false rfl rfl (fun h => by cases h) (fun _ => ?_)
         refine cw_skip (blockQ_n (thenQ_n (?_)))
         refine cw_region (by kernel_rfl) (wl_s (o_add .i64 ((k : Nat) : Int) (1 : Int) (((k + 1 : Nat) : Int)) rfl rfl (w64 (by omega) (by omega)) (wl_s (o_move (vI ((k + 1 : Nat) : Int)) rfl (wl_nil (thenQ_n (?_)))))))
         exact ⟨_, (by omega), (k + 1), (b3306 :: Bl0), (by omega), rfl, ⟨_, upds_self _ ⟨rfl, rfl, rfl, rfl, rfl, rfl, rfl, rfl, (by first | rfl | exact congrArg (Value.int _) (by first | omega | (simp))), rfl, trivial⟩⟩, s3320, h_la, h_lb, h_lc, hl3248⟩
        ·have hp3326 : (la.contains (((mergeM la lb).1)[k]!)) = false := by first | simpa using hb3324 | (have e := hb3324; simp at e; omega)
         refine wl_t rfl (o_move (lb_v) rfl (wl_t rfl (o_loadBxA (vs := [vI ((((mergeM la lb).1)[k]!).device), vI ((((mergeM la lb).1)[k]!).no), vI ((((mergeM la lb).1)[k]!).kind), vI ((((mergeM la lb).1)[k]!).copy), vI ((((mergeM la lb).1)[k]!).to), vI ((((mergeM la lb).1)[k]!).token)]) Try.underlying40 rfl s_40 rfl bx3317 rfl (wl_t rfl (o_callK (vs := [lb_v, Value.agg #[vI ((((mergeM la lb).1)[k]!).device), vI ((((mergeM la lb).1)[k]!).no), vI ((((mergeM la lb).1)[k]!).kind), vI ((((mergeM la lb).1)[k]!).copy), vI ((((mergeM la lb).1)[k]!).to), vI ((((mergeM la lb).1)[k]!).token)]]) enter_37 (c_refHas (O := (b3306 :: Bl0) ++ O) lb_v lb [vI ((((mergeM la lb).1)[k]!).device), vI ((((mergeM la lb).1)[k]!).no), vI ((((mergeM la lb).1)[k]!).kind), vI ((((mergeM la lb).1)[k]!).copy), vI ((((mergeM la lb).1)[k]!).to), vI ((((mergeM la lb).1)[k]!).token)] (((mergeM la lb).1)[k]!) w3319 h_lb rfl s3320.lt) rfl s3320 fun v3327 w3328 s3329 m3330 k3331 r3332 => (?_))))))
         obtain rfl := r3332
         have h_la := h_la.mv m3330
         have h_lb := h_lb.mv m3330
         have h_lc := h_lc.mv m3330
         have hl3248 := hl3248.mv m3330
         refine wl_t rfl (o_not (lb.contains (((mergeM la lb).1)[k]!)) rfl (wl_s (o_pickT (Value.bool (!(lb.contains (((mergeM la lb).1)[k]!)))) rfl rfl (wl_nil (thenQ_n (?_))))))
         have hb3333 : (!(lb.contains (((mergeM la lb).1)[k]!))) = false := (by rw [show (lb.contains (((mergeM la lb).1)[k]!)) = true from (mm_in hmm (by omega) (by assumption))]; rfl)
         rw [hb3333]
         refine cw_cond false rfl rfl (fun h => by cases h) (fun _ => ?_)
         refine cw_skip (blockQ_n (thenQ_n (?_)))
         refine cw_region (by kernel_rfl) (wl_s (o_add .i64 ((k : Nat) : Int) (1 : Int) (((k + 1 : Nat) : Int)) rfl rfl (w64 (by omega) (by omega)) (wl_s (o_move (vI ((k + 1 : Nat) : Int)) rfl (wl_nil (thenQ_n (?_)))))))
         exact ⟨_, (by omega), (k + 1), (b3306 :: Bl0), (by omega), rfl, ⟨_, upds_self _ ⟨rfl, rfl, rfl, rfl, rfl, rfl, rfl, rfl, (by first | rfl | exact congrArg (Value.int _) (by first | omega | (simp))), rfl, trivial⟩⟩, s3329, h_la, h_lb, h_lc, hl3248⟩
       ·have hp3334 : (((mergeM la lb).1).length : Int) ≤ ((k : Nat) : Int) := by first | simpa using hc3300 | (have e := hc3300; simp at e; omega)
        refine cw_exit (thenQ_x (thenQ_x (blockQ_x (thenQ_n (?_)))))
        refine cw_seq (?_)
        refine cw_seq (?_)
        refine cw_region (by kernel_rfl) (wl_s (o_move (la_v) rfl (wl_s (o_move (lb_v) rfl (wl_s (o_lit (E := (Enc.slice Enc.devop)) (xs := [.tmp 127, .tmp 128]) Try.underlying58 s_26 z_26 (by decide) [la_v, lb_v] [[la_v], [lb_v]] [la, lb] rfl rfl rfl (Parts.cons (cells_one h_la.oneCell) ⟨_, rfl, h_la⟩ (Parts.cons (cells_one h_lb.oneCell) ⟨_, rfl, h_lb⟩ (Parts.nil _ _ _))) (of_decide_eq_true rfl) sl0 fun v3339 w3335 s3336 m3337 k3338 hl3340 => (?_)))))))
        have h_la := h_la.mv m3337
        have h_lb := h_lb.mv m3337
        have h_lc := h_lc.mv m3337
        have hl3248 := hl3248.mv m3337
        have := hl3340.len_le
        refine wl_s (o_lenR Try.underlying58 rfl hl3340 (wl_s (o_move (vI (0 : Int)) rfl (wl_nil (thenQ_n (?_))))))
        refine cw_block (?_)
        refine cw_loop (fun mI FI wI => ∃ (k : Nat) (B : List Nat), k ≤ [la, lb].length ∧ mI = [la, lb].length - k ∧ (∃ F1, FI = upds F1 [(0, la_v), (1, lb_v), (2, lc_v), (3, vI copies), (4, vI first), (11, x3247), (129, v3339), (130, vI (([la, lb]).length : Int)), (131, vI ((k : Nat) : Int)), (202, undef)]) ∧ St w O wI B ∧ RdL Enc.devop wI (B ++ O) (la_v) (la) ∧ RdL Enc.devop wI (B ++ O) (lb_v) (lb) ∧ RdL Enc.devop wI (B ++ O) (lc_v) (lc) ∧ RdL Enc.devop wI (B ++ O) (x3247) ((mergeM la lb).1) ∧ RdL (Enc.slice Enc.devop) wI (B ++ O) (v3339) ([la, lb])) ([la, lb].length - (0)) ?_ ?_
        ·exact ⟨(0), Bl0, (by omega), rfl, ⟨_, upds_self _ ⟨rfl, rfl, rfl, rfl, rfl, rfl, rfl, rfl, (by first | rfl | exact congrArg (Value.int _) (by first | omega | (simp))), rfl, trivial⟩⟩, s3336, h_la, h_lb, h_lc, hl3248, hl3340⟩
        ·intro ml1 F wl1 hI
         clear h_la h_lb h_lc hl3248 hl3340
         obtain ⟨k, Bl1, hr1_0, hm1, ⟨Fl1, rfl⟩, sl1, h_la, h_lb, h_lc, hl3248, hl3340⟩ := hI
         refine cw_seq (?_)
         refine cw_region (by kernel_rfl) (wl_s (o_lss .i64 ((k : Nat) : Int) (([la, lb]).length : Int) rfl rfl (wl_nil (thenQ_n (?_)))))
         refine cw_seq (?_)
         refine cw_cond (decide (((k : Nat) : Int) < (([la, lb]).length : Int))) rfl rfl (fun hc3341 => ?_) (fun hc3341 => ?_)
         ·have hp3342 : ((k : Nat) : Int) < (([la, lb]).length : Int) := by first | simpa using hc3341 | (have e := hc3341; simp at e; omega)
          refine cw_skip (thenQ_n (?_))
          refine cw_seq (?_)
          refine cw_block (?_)
          refine cw_seq (?_)
          refine cw_region (by kernel_rfl) (wl_s (o_idx Try.underlying58 s_26 .i64 ((k : Nat) : Int) k rfl rfl rfl hl3340 (by omega) fun a3343 hp3344 => (wl_s (o_loadL Try.underlying26 rfl rfl hp3344 fun v3345 hl3346 => (?_)))))
          have := hl3346.len_le
          refine wl_s (o_assign (v3345) rfl (wl_nil (thenQ_n (?_))))
          refine cw_seq (?_)
          refine cw_region (by kernel_rfl) (wl_s (o_move (v3345) rfl (wl_s (o_lenR Try.underlying26 rfl hl3346 (wl_s (o_move (vI (0 : Int)) rfl (wl_nil (thenQ_n (?_)))))))))
          refine cw_block (?_)
          refine cw_loop (fun mI FI wI => ∃ (j : Nat) (B : List Nat), j ≤ ([la, lb][k]!).length ∧ mI = ([la, lb][k]!).length - j ∧ (∃ F1, FI = upds F1 [(0, la_v), (1, lb_v), (2, lc_v), (3, vI copies), (4, vI first), (11, x3247), (129, v3339), (130, vI (([la, lb]).length : Int)), (131, vI ((k : Nat) : Int)), (135, v3345), (136, vI ((([la, lb])[k]!).length : Int)), (137, vI ((j : Nat) : Int)), (202, undef)]) ∧ St w O wI B ∧ RdL Enc.devop wI (B ++ O) (la_v) (la) ∧ RdL Enc.devop wI (B ++ O) (lb_v) (lb) ∧ RdL Enc.devop wI (B ++ O) (lc_v) (lc) ∧ RdL Enc.devop wI (B ++ O) (x3247) ((mergeM la lb).1) ∧ RdL (Enc.slice Enc.devop) wI (B ++ O) (v3339) ([la, lb]) ∧ RdL Enc.devop wI (B ++ O) (v3345) (([la, lb])[k]!)) (([la, lb][k]!).length - (0)) ?_ ?_
          ·exact ⟨(0), Bl1, (by omega), rfl, ⟨_, upds_self _ ⟨rfl, rfl, rfl, rfl, rfl, rfl, rfl, rfl, rfl, rfl, rfl, (by first | rfl | exact congrArg (Value.int _) (by first | omega | (simp))), rfl, trivial⟩⟩, sl1, h_la, h_lb, h_lc, hl3248, hl3340, hl3346⟩
          ·intro ml2 F wl2 hI
           clear h_la h_lb h_lc hl3248 hl3340 hl3346
           obtain ⟨j, Bl2, hr2_0, hm2, ⟨Fl2, rfl⟩, sl2, h_la, h_lb, h_lc, hl3248, hl3340, hl3346⟩ := hI
           refine cw_seq (?_)
           refine cw_region (by kernel_rfl) (wl_s (o_lss .i64 ((j : Nat) : Int) ((([la, lb])[k]!).length : Int) rfl rfl (wl_nil (thenQ_n (?_)))))
           refine cw_seq (?_)
           refine cw_cond (decide (((j : Nat) : Int) < ((([la, lb])[k]!).length : Int))) rfl rfl (fun hc3347 => ?_) (fun hc3347 => ?_)
           ·have hp3348 : ((j : Nat) : Int) < ((([la, lb])[k]!).length : Int) := by first | simpa using hc3347 | (have e := hc3347; simp at e; omega)
            refine cw_skip (thenQ_n (?_))
            refine cw_seq (?_)
            refine cw_block (?_)
            refine cw_seq (?_)
            refine cw_region (by kernel_rfl) (wl_s (o_idx Try.underlying26 s_40 .i64 ((j : Nat) : Int) j rfl rfl rfl hl3346 (by omega) fun a3349 hp3350 => (wl_s (o_loadS Try.underlying40 rfl s_40 rfl hp3350 fun cs3351 hs3352 => (?_)))))
            obtain rfl := hs3352
            refine wl_s (o_alloc [vI (0 : Int), vI (0 : Int), vI (0 : Int), vI (0 : Int), vI (0 : Int), vI (0 : Int)] z_40 rfl sl2 fun b3353 w3354 e3359 s3355 m3356 k3357 bx3358 => (?_))
            clear e3359
            have h_la := h_la.mv m3356
            have h_lb := h_lb.mv m3356
            have h_lc := h_lc.mv m3356
            have hl3248 := hl3248.mv m3356
            have hl3340 := hl3340.mv m3356
            have hl3346 := hl3346.mv m3356
            refine wl_n (o_store (vs := [vI (((([la, lb])[k]!)[j]!).device), vI (((([la, lb])[k]!)[j]!).no), vI (((([la, lb])[k]!)[j]!).kind), vI (((([la, lb])[k]!)[j]!).copy), vI (((([la, lb])[k]!)[j]!).to), vI (((([la, lb])[k]!)[j]!).token)]) (.agg #[vI (((([la, lb])[k]!)[j]!).device), vI (((([la, lb])[k]!)[j]!).no), vI (((([la, lb])[k]!)[j]!).kind), vI (((([la, lb])[k]!)[j]!).copy), vI (((([la, lb])[k]!)[j]!).to), vI (((([la, lb])[k]!)[j]!).token)]) rfl rfl rfl s_40 (fun u hu => by simp only [List.mem_cons, List.not_mem_nil, or_false] at hu; rcases hu with rfl | rfl | rfl | rfl | rfl | rfl <;> first | rfl) (by repeat (first | assumption | constructor)) bx3358 (of_decide_eq_true rfl) s3355 fun w3360 s3361 m3362 k3363 bx3364 => (?_))
            have h_la := h_la.mv m3362
            have h_lb := h_lb.mv m3362
            have h_lc := h_lc.mv m3362
            have hl3248 := hl3248.mv m3362
            have hl3340 := hl3340.mv m3362
            have hl3346 := hl3346.mv m3362
            refine wl_nil (thenQ_n (?_))
            refine cw_seq (?_)
            refine cw_region (by kernel_rfl) (wl_s (o_move (x3247) rfl (wl_s (o_loadBxA (vs := [vI (((([la, lb])[k]!)[j]!).device), vI (((([la, lb])[k]!)[j]!).no), vI (((([la, lb])[k]!)[j]!).kind), vI (((([la, lb])[k]!)[j]!).copy), vI (((([la, lb])[k]!)[j]!).to), vI (((([la, lb])[k]!)[j]!).token)]) Try.underlying40 rfl s_40 rfl bx3364 rfl (wl_s (o_callK (vs := [x3247, Value.agg #[vI (((([la, lb])[k]!)[j]!).device), vI (((([la, lb])[k]!)[j]!).no), vI (((([la, lb])[k]!)[j]!).kind), vI (((([la, lb])[k]!)[j]!).copy), vI (((([la, lb])[k]!)[j]!).to), vI (((([la, lb])[k]!)[j]!).token)]]) enter_37 (c_refHas (O := (b3353 :: Bl2) ++ O) x3247 ((mergeM la lb).1) [vI (((([la, lb])[k]!)[j]!).device), vI (((([la, lb])[k]!)[j]!).no), vI (((([la, lb])[k]!)[j]!).kind), vI (((([la, lb])[k]!)[j]!).copy), vI (((([la, lb])[k]!)[j]!).to), vI (((([la, lb])[k]!)[j]!).token)] ((([la, lb])[k]!)[j]!) w3360 hl3248 rfl s3361.lt) rfl s3361 fun v3365 w3366 s3367 m3368 k3369 r3370 => (?_)))))))
            obtain rfl := r3370
            have h_la := h_la.mv m3368
            have h_lb := h_lb.mv m3368
            have h_lc := h_lc.mv m3368
            have hl3248 := hl3248.mv m3368
            have hl3340 := hl3340.mv m3368
            have hl3346 := hl3346.mv m3368
            refine wl_s (o_not (((mergeM la lb).1).contains ((([la, lb])[k]!)[j]!)) rfl (wl_nil (thenQ_n (?_))))
            have hb3371 : (!(((mergeM la lb).1).contains ((([la, lb])[k]!)[j]!))) = false := (by rw [show (((mergeM la lb).1).contains ((([la, lb])[k]!)[j]!)) = true from (mm_has hmm (by omega) (by omega))]; rfl)
            rw [hb3371]
            refine cw_cond false rfl rfl (fun h => by cases h) (fun _ => ?_)
            refine cw_skip (blockQ_n (thenQ_n (?_)))
            refine cw_region (by kernel_rfl) (wl_s (o_add .i64 ((j : Nat) : Int) (1 : Int) (((j + 1 : Nat) : Int)) rfl rfl (w64 (by omega) (by omega)) (wl_s (o_move (vI ((j + 1 : Nat) : Int)) rfl (wl_nil (thenQ_n (?_)))))))
            exact ⟨_, (by omega), (j + 1), (b3353 :: Bl2), (by omega), rfl, ⟨_, upds_self _ ⟨rfl, rfl, rfl, rfl, rfl, rfl, rfl, rfl, rfl, rfl, rfl, (by first | rfl | exact congrArg (Value.int _) (by first | omega | (simp))), rfl, trivial⟩⟩, s3367, h_la, h_lb, h_lc, hl3248, hl3340, hl3346⟩
           ·have hp3372 : ((([la, lb])[k]!).length : Int) ≤ ((j : Nat) : Int) := by first | simpa using hc3347 | (have e := hc3347; simp at e; omega)
            refine cw_exit (thenQ_x (thenQ_x (blockQ_x (blockQ_n (thenQ_n (?_))))))
            refine cw_region (by kernel_rfl) (wl_s (o_add .i64 ((k : Nat) : Int) (1 : Int) (((k + 1 : Nat) : Int)) rfl rfl (w64 (by omega) (by omega)) (wl_s (o_move (vI ((k + 1 : Nat) : Int)) rfl (wl_nil (thenQ_n (?_)))))))
            exact ⟨_, (by omega), (k + 1), Bl2, (by omega), rfl, ⟨_, upds_self _ ⟨rfl, rfl, rfl, rfl, rfl, rfl, rfl, rfl, (by first | rfl | exact congrArg (Value.int _) (by first | omega | (simp))), rfl, trivial⟩⟩, sl2, h_la, h_lb, h_lc, hl3248, hl3340⟩
         ·have hp3373 : (([la, lb]).length : Int) ≤ ((k : Nat) : Int) := by first | simpa using hc3341 | (have e := hc3341; simp at e; omega)
          refine cw_exit (thenQ_x (thenQ_x (blockQ_x (thenQ_n (?_)))))
          refine cw_seq (?_)
          refine cw_region (by kernel_rfl) (wl_s (o_move (x3247) rfl (wl_s (o_move (lc_v) rfl (wl_s (o_callK (vs := [x3247, lc_v]) enter_31 (c_merge (O := Bl1 ++ O) x3247 ((mergeM la lb).1) lc_v lc wl1 hl3248 h_lc sl1.lt) rfl sl1 fun v3374 w3375 s3376 m3377 k3378 r3379 => (?_)))))))
          obtain ⟨x3380, rfl, hl3381⟩ := r3379
          have := hl3381.len_le
          have h_la := h_la.mv m3377
          have h_lb := h_lb.mv m3377
          have h_lc := h_lc.mv m3377
          refine wl_s (o_move (Value.tuple #[x3380, vI ((mergeM ((mergeM la lb).1) lc).2)]) rfl (wl_s (o_extract (x3380) rfl rfl (wl_s (o_extract (vI ((mergeM ((mergeM la lb).1) lc).2)) rfl rfl (wl_s (o_assign (x3380) rfl (wl_s (o_assign (vI ((mergeM ((mergeM la lb).1) lc).2)) rfl (wl_nil (thenQ_n (?_))))))))))))
          refine cw_seq (?_)
          refine cw_region (by kernel_rfl) (wl_s (o_move (lb_v) rfl (wl_s (o_move (lc_v) rfl (wl_s (o_callK (vs := [lb_v, lc_v]) enter_31 (c_merge (O := Bl1 ++ O) lb_v lb lc_v lc w3375 h_lb h_lc s3376.lt) rfl s3376 fun v3382 w3383 s3384 m3385 k3386 r3387 => (?_)))))))
          obtain ⟨x3388, rfl, hl3389⟩ := r3387
          have := hl3389.len_le
          have h_la := h_la.mv m3385
          have hl3381 := hl3381.mv m3385
          refine wl_s (o_move (Value.tuple #[x3388, vI ((mergeM lb lc).2)]) rfl (wl_s (o_extract (x3388) rfl rfl (wl_s (o_extract (vI ((mergeM lb lc).2)) rfl rfl (wl_s (o_assign (x3388) rfl (wl_s (o_assign (vI ((mergeM lb lc).2)) rfl (wl_nil (thenQ_n (?_))))))))))))
          refine cw_seq (?_)
          refine cw_seq (?_)
          refine cw_region (by kernel_rfl) (wl_s (o_move (vI ((mergeM ((mergeM la lb).1) lc).2)) rfl (wl_s (o_neq .i64 ((mergeM ((mergeM la lb).1) lc).2) (0 : Int) rfl rfl (wl_s (o_move (Value.bool (((mergeM ((mergeM la lb).1) lc).2) != (0 : Int))) rfl (?_)))))))
          cases hb3390 : (((mergeM ((mergeM la lb).1) lc).2) != (0 : Int))
          ·have hp3391 : (mergeM ((mergeM la lb).1) lc).2 = (0 : Int) := by first | simpa using hb3390 | (have e := hb3390; simp at e; omega)
           have hpp : (mergeM (mergeM la lb).1 lc).2 = 0 := hp3391
           refine wl_t rfl (o_move (vI ((mergeM lb lc).2)) rfl (wl_t rfl (o_neq .i64 ((mergeM lb lc).2) (0 : Int) rfl rfl (wl_s (o_pickF (Value.bool (((mergeM lb lc).2) != (0 : Int))) rfl rfl (wl_nil (thenQ_n (?_))))))))
           refine cw_cond (((mergeM lb lc).2) != (0 : Int)) rfl rfl (fun hc3392 => ?_) (fun hc3392 => ?_)
           ·have hp3393 : (mergeM lb lc).2 ≠ (0 : Int) := by first | simpa using hc3392 | (have e := hc3392; simp at e; omega)
            refine cw_seq (?_)
            refine cw_region (by kernel_rfl) (wl_s (o_assign (Value.bool true) rfl (wl_nil (thenQ_n (?_)))))
            refine cw_ret (thenQ_r (end_r rfl (res1 rfl rfl rfl) (?_)))
            exact ⟨_, rfl, s3384.keep, rfl⟩
           ·have hp3394 : (mergeM lb lc).2 = (0 : Int) := by first | simpa using hc3392 | (have e := hc3392; simp at e; omega)
            have hqq : (mergeM lb lc).2 = 0 := hp3394
            refine cw_skip (thenQ_n (?_))
            refine cw_seq (?_)
            refine cw_region (by kernel_rfl) (wl_s (o_move (la_v) rfl (wl_s (o_move (x3388) rfl (wl_s (o_callK (vs := [la_v, x3388]) enter_31 (c_merge (O := Bl1 ++ O) la_v la x3388 ((mergeM lb lc).1) w3383 h_la hl3389 s3384.lt) rfl s3384 fun v3395 w3396 s3397 m3398 k3399 r3400 => (?_)))))))
            obtain ⟨x3401, rfl, hl3402⟩ := r3400
            have := hl3402.len_le
            have hl3381 := hl3381.mv m3398
            refine wl_s (o_move (Value.tuple #[x3401, vI ((mergeM la ((mergeM lb lc).1)).2)]) rfl (wl_s (o_extract (x3401) rfl rfl (wl_s (o_extract (vI ((mergeM la ((mergeM lb lc).1)).2)) rfl rfl (wl_s (o_assign (x3401) rfl (wl_s (o_assign (vI ((mergeM la ((mergeM lb lc).1)).2)) rfl (wl_nil (thenQ_n (?_))))))))))))
            refine cw_seq (?_)
            refine cw_region (by kernel_rfl) (wl_s (o_move (x3380) rfl (wl_s (o_move (vI copies) rfl (wl_s (o_move (vI first) rfl (wl_s (o_callK (vs := [x3380, vI copies, vI first]) enter_24 (c_state (O := Bl1 ++ O) x3380 ((mergeM ((mergeM la lb).1) lc).1) copies first w3396 hl3381 s3397.lt) rfl s3397 fun v3403 w3404 s3405 m3406 k3407 r3408 => (?_)))))))))
            obtain ⟨x3409, rfl, hl3410⟩ := r3408
            have := hl3410.len_le
            have hl3381 := hl3381.mv m3406
            have hl3402 := hl3402.mv m3406
            refine wl_s (o_move (Value.tuple #[x3409, vI ((stateM ((mergeM ((mergeM la lb).1) lc).1) copies first).2)]) rfl (wl_s (o_extract (x3409) rfl rfl (wl_s (o_extract (vI ((stateM ((mergeM ((mergeM la lb).1) lc).1) copies first).2)) rfl rfl (wl_s (o_assign (x3409) rfl (wl_s (o_assign (vI ((stateM ((mergeM ((mergeM la lb).1) lc).1) copies first).2)) rfl (wl_nil (thenQ_n (?_))))))))))))
            refine cw_seq (?_)
            refine cw_region (by kernel_rfl) (wl_s (o_move (x3401) rfl (wl_s (o_move (vI copies) rfl (wl_s (o_move (vI first) rfl (wl_s (o_callK (vs := [x3401, vI copies, vI first]) enter_24 (c_state (O := Bl1 ++ O) x3401 ((mergeM la ((mergeM lb lc).1)).1) copies first w3404 hl3402 s3405.lt) rfl s3405 fun v3411 w3412 s3413 m3414 k3415 r3416 => (?_)))))))))
            obtain ⟨x3417, rfl, hl3418⟩ := r3416
            have := hl3418.len_le
            have hl3381 := hl3381.mv m3414
            have hl3402 := hl3402.mv m3414
            have hl3410 := hl3410.mv m3414
            refine wl_s (o_move (Value.tuple #[x3417, vI ((stateM ((mergeM la ((mergeM lb lc).1)).1) copies first).2)]) rfl (wl_s (o_extract (x3417) rfl rfl (wl_s (o_extract (vI ((stateM ((mergeM la ((mergeM lb lc).1)).1) copies first).2)) rfl rfl (wl_s (o_assign (x3417) rfl (wl_s (o_assign (vI ((stateM ((mergeM la ((mergeM lb lc).1)).1) copies first).2)) rfl (wl_nil (thenQ_n (?_))))))))))))
            refine cw_seq (?_)
            refine cw_region (by kernel_rfl) (wl_s (o_move (vI ((mergeM la ((mergeM lb lc).1)).2)) rfl (wl_s (o_eql .i64 ((mergeM la ((mergeM lb lc).1)).2) (0 : Int) rfl rfl (wl_s (o_move (Value.bool (((mergeM la ((mergeM lb lc).1)).2) == (0 : Int))) rfl (?_)))))))
            have hb3419 : (((mergeM la ((mergeM lb lc).1)).2) == (0 : Int)) = true := (by rw [mm_assoc hmm hpp hqq]; rfl)
            rw [hb3419]
            refine wl_t rfl (o_move (x3380) rfl (wl_t rfl (o_move (x3401) rfl (wl_t rfl (o_callK (vs := [x3380, x3401]) enter_28 (c_same (O := Bl1 ++ O) x3380 ((mergeM ((mergeM la lb).1) lc).1) x3401 ((mergeM la ((mergeM lb lc).1)).1) w3412 hl3381 hl3402 s3413.lt) rfl s3413 fun v3420 w3421 s3422 m3423 k3424 r3425 => (?_))))))
            obtain rfl := r3425
            have hl3410 := hl3410.mv m3423
            have hl3418 := hl3418.mv m3423
            refine wl_s (o_pickT (Value.bool (((mergeM ((mergeM la lb).1) lc).1) == ((mergeM la ((mergeM lb lc).1)).1))) rfl rfl (wl_s (o_move (Value.bool (((mergeM ((mergeM la lb).1) lc).1) == ((mergeM la ((mergeM lb lc).1)).1))) rfl (?_))))
            have hb3426 : (((mergeM ((mergeM la lb).1) lc).1) == ((mergeM la ((mergeM lb lc).1)).1)) = true := (by rw [mm_assoc hmm hpp hqq]; exact beq_self_eq_true _)
            rw [hb3426]
            refine wl_t rfl (o_move (x3409) rfl (wl_t rfl (o_move (x3417) rfl (wl_t rfl (o_callK (vs := [x3409, x3417]) enter_36 (c_sameS (O := Bl1 ++ O) x3409 ((stateM ((mergeM ((mergeM la lb).1) lc).1) copies first).1) x3417 ((stateM ((mergeM la ((mergeM lb lc).1)).1) copies first).1) w3421 hl3410 hl3418 s3422.lt) rfl s3422 fun v3427 w3428 s3429 m3430 k3431 r3432 => (?_))))))
            obtain rfl := r3432
            refine wl_s (o_pickT (Value.bool (((stateM ((mergeM ((mergeM la lb).1) lc).1) copies first).1) == ((stateM ((mergeM la ((mergeM lb lc).1)).1) copies first).1))) rfl rfl (wl_s (o_move (Value.bool (((stateM ((mergeM ((mergeM la lb).1) lc).1) copies first).1) == ((stateM ((mergeM la ((mergeM lb lc).1)).1) copies first).1))) rfl (?_))))
            have hb3433 : (((stateM ((mergeM ((mergeM la lb).1) lc).1) copies first).1) == ((stateM ((mergeM la ((mergeM lb lc).1)).1) copies first).1)) = true := (by rw [mm_assoc hmm hpp hqq]; exact beq_self_eq_true _)
            rw [hb3433]
            refine wl_t rfl (o_move (vI ((stateM ((mergeM ((mergeM la lb).1) lc).1) copies first).2)) rfl (wl_t rfl (o_move (vI ((stateM ((mergeM la ((mergeM lb lc).1)).1) copies first).2)) rfl (wl_t rfl (o_eql .i64 ((stateM ((mergeM ((mergeM la lb).1) lc).1) copies first).2) ((stateM ((mergeM la ((mergeM lb lc).1)).1) copies first).2) rfl rfl (wl_s (o_pickT (Value.bool (((stateM ((mergeM ((mergeM la lb).1) lc).1) copies first).2) == ((stateM ((mergeM la ((mergeM lb lc).1)).1) copies first).2))) rfl rfl (wl_s (o_assign (Value.bool (((stateM ((mergeM ((mergeM la lb).1) lc).1) copies first).2) == ((stateM ((mergeM la ((mergeM lb lc).1)).1) copies first).2))) rfl (wl_nil (thenQ_n (?_))))))))))))
            refine cw_ret (end_r rfl (res1 rfl rfl rfl) (?_))
            have e : true = (((stateM ((mergeM ((mergeM la lb).1) lc).1) copies first).2) == ((stateM ((mergeM la ((mergeM lb lc).1)).1) copies first).2)) := by first | rfl | (rw [merge_err (by assumption)]; rfl) | (rw [mm_assoc hmm hpp hqq]; exact (beq_self_eq_true _).symm)
            exact ⟨_, rfl, s3429.keep, by rw [e]; exact rfl⟩
          ·have hp3434 : (mergeM ((mergeM la lb).1) lc).2 ≠ (0 : Int) := by first | simpa using hb3390 | (have e := hb3390; simp at e; omega)
           refine wl_k rfl (wl_k rfl (wl_s (o_pickT (Value.bool true) rfl rfl (wl_nil (thenQ_n (?_))))))
           refine cw_cond true rfl rfl (fun _ => ?_) (fun h => by cases h)
           refine cw_seq (?_)
           refine cw_region (by kernel_rfl) (wl_s (o_assign (Value.bool true) rfl (wl_nil (thenQ_n (?_)))))
           refine cw_ret (thenQ_r (end_r rfl (res1 rfl rfl rfl) (?_)))
           exact ⟨_, rfl, s3384.keep, rfl⟩
   ·have hp3435 : 40 < (lc.length : Int) := by first | simpa using hb3236 | (have e := hb3236; simp at e; omega)
    refine wl_k rfl (wl_k rfl (wl_s (o_pickT (Value.bool true) rfl rfl (wl_nil (thenQ_n (?_))))))
    refine cw_cond true rfl rfl (fun _ => ?_) (fun h => by cases h)
    refine cw_seq (?_)
    refine cw_region (by kernel_rfl) (wl_s (o_assign (Value.bool true) rfl (wl_nil (thenQ_n (?_)))))
    refine cw_ret (thenQ_r (end_r rfl (res1 rfl rfl rfl) (?_)))
    exact ⟨_, rfl, s3232.keep, rfl⟩
  ·have hp3436 : 40 < (lb.length : Int) := by first | simpa using hb3228 | (have e := hb3228; simp at e; omega)
   refine wl_k rfl (wl_k rfl (wl_k rfl (wl_s (o_pickT (Value.bool true) rfl rfl (wl_s (o_move (Value.bool true) rfl (wl_k rfl (wl_k rfl (wl_s (o_pickT (Value.bool true) rfl rfl (wl_nil (thenQ_n (?_)))))))))))))
   refine cw_cond true rfl rfl (fun _ => ?_) (fun h => by cases h)
   refine cw_seq (?_)
   refine cw_region (by kernel_rfl) (wl_s (o_assign (Value.bool true) rfl (wl_nil (thenQ_n (?_)))))
   refine cw_ret (thenQ_r (end_r rfl (res1 rfl rfl rfl) (?_)))
   exact ⟨_, rfl, s3224.keep, rfl⟩
 ·have hp3437 : 40 < (la.length : Int) := by first | simpa using hb3220 | (have e := hb3220; simp at e; omega)
  refine wl_k rfl (wl_k rfl (wl_k rfl (wl_s (o_pickT (Value.bool true) rfl rfl (wl_s (o_move (Value.bool true) rfl (wl_k rfl (wl_k rfl (wl_k rfl (wl_s (o_pickT (Value.bool true) rfl rfl (wl_s (o_move (Value.bool true) rfl (wl_k rfl (wl_k rfl (wl_s (o_pickT (Value.bool true) rfl rfl (wl_nil (thenQ_n (?_))))))))))))))))))))
  refine cw_cond true rfl rfl (fun _ => ?_) (fun h => by cases h)
  refine cw_seq (?_)
  refine cw_region (by kernel_rfl) (wl_s (o_assign (Value.bool true) rfl (wl_nil (thenQ_n (?_)))))
  refine cw_ret (thenQ_r (end_r rfl (res1 rfl rfl rfl) (?_)))
  exact ⟨_, rfl, s3216.keep, rfl⟩

end Go.Proofs.Ytjpniibleelgiaa
