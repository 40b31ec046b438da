/- Walks, printed by gen.py. -/
import Derived.Test.YtjpniibleelgiaaXg
set_option linter.unusedSimpArgs false
set_option linter.unusedVariables false
namespace Go.Proofs.Ytjpniibleelgiaa
open Go.Fw Go.RowKit

set_option maxHeartbeats 4000000 in
set_option maxRecDepth 100000 in
theorem c_refAdd {O : List Nat} (l_v : Value) (l : List DeviceOp) (o_cs : List Value) (o : DeviceOp) (w : World) (h_l : RdL Enc.devop w O l_v l) (h_o : Enc.devop.rd w O o_cs o) (hO : ∀ b ∈ O, b < w.heap.size) : CallsK Try.prog 27 [l_v, .agg o_cs.toArray] w (fun v w' => ∃ (x0 : Value), v = .tuple #[x0, vI ((addM l o).2)] ∧ RdL Enc.devop w' (O) x0 ((addM l o).1)) :=  by
 have lim_l := h_l.len_le
 have h_l : RdL Enc.devop w ([] ++ O) l_v l := h_l
 obtain rfl := h_o
 have s0 : St w O w [] := St.start hO
 refine callsK_of 27 Try.func27 rfl rfl (of_decide_eq_true rfl) (fun F0 => ?_)
 refine cw_seq (?_)
 refine cw_region (by kernel_rfl) (wl_s (o_boxR (E := Enc.devop) (Value.agg #[vI o.device, vI o.no, vI o.kind, vI o.copy, vI o.to, vI o.token]) ([vI o.device, vI o.no, vI o.kind, vI o.copy, vI o.to, vI o.token]) o rfl rfl rfl s0 fun a2292 w2293 s2294 m2295 k2296 hp2297 => (?_)))
 have h_l := h_l.mv m2295
 refine wl_s (o_assign (Value.slice none 0 0) rfl (wl_s (o_assign (vI (0 : Int)) rfl (wl_nil (thenQ_n (?_))))))
 refine cw_seq (?_)
 refine cw_seq (?_)
 refine cw_region (by kernel_rfl) (wl_s (o_move (l_v) rfl (wl_s (o_callK (vs := [l_v]) enter_30 (c_refCheck (O := [] ++ O) l_v l w2293 h_l s2294.lt) rfl s2294 fun v2298 w2299 s2300 m2301 k2302 r2303 => (?_)))))
 obtain rfl := r2303
 have h_l := h_l.mv m2301
 have hp2297 := hp2297.mv m2301
 refine wl_s (o_neq .i64 (checkM l) (0 : Int) rfl rfl (wl_s (o_move (Value.bool ((checkM l) != (0 : Int))) rfl (?_))))
 cases hb2304 : ((checkM l) != (0 : Int))
 ·have hp2305 : checkM l = (0 : Int) := by first | simpa using hb2304 | (have e := hb2304; simp at e; omega)
  have hchk : checkM l = 0 := hp2305
  have hchk_1 := (check_ok hchk).1
  refine wl_t rfl (o_loadS Try.underlying40 rfl s_40 rfl hp2297 fun cs2306 hs2307 => (?_))
  obtain rfl := hs2307
  refine wl_t rfl (o_callK (vs := [Value.agg #[vI o.device, vI o.no, vI o.kind, vI o.copy, vI o.to, vI o.token]]) enter_67 (c_refValid (O := [] ++ O) [vI o.device, vI o.no, vI o.kind, vI o.copy, vI o.to, vI o.token] o w2299 rfl s2300.lt) rfl s2300 fun v2308 w2309 s2310 m2311 k2312 r2313 => (?_))
  obtain rfl := r2313
  have h_l := h_l.mv m2311
  have hp2297 := hp2297.mv m2311
  refine wl_t rfl (o_not (validM o) rfl (wl_s (o_pickF (Value.bool (!(validM o))) rfl rfl (wl_nil (thenQ_n (?_))))))
  refine cw_cond (!(validM o)) rfl rfl (fun hc2314 => ?_) (fun hc2314 => ?_)
  ·have hp2315 : (validM o) = false := by first | simpa using hc2314 | (have e := hc2314; simp at e; omega)
   refine cw_seq (?_)
   refine cw_region (by kernel_rfl) (wl_s (o_assign (Value.slice none 0 0) rfl (wl_s (o_assign (vI (420 : Int)) rfl (wl_nil (thenQ_n (?_)))))))
   refine cw_ret (thenQ_r (end_r rfl (res2 rfl rfl rfl rfl) (?_)))
   have e2316 : ((addM l o).1) = ([]) := by first | exact congrArg (fun p => p.1) (show addM l o = _ from add_1 (by assumption)) | exact congrArg (fun p => p.1) (show addM l o = _ from add_2 (by assumption)) | exact congrArg (fun p => p.1) (show addM l o = _ from add_3 (by assumption) (by assumption) (by assumption)) | exact congrArg (fun p => p.1) (show addM l o = _ from add_4 (by assumption) (by assumption) (by assumption) (by assumption)) | exact congrArg (fun p => p.1) (show addM l o = _ from add_5 (by assumption) (by assumption) (by assumption) (by assumption) (by assumption)) | exact congrArg (fun p => p.1) (show addM l o = _ from add_6 (by assumption) (by assumption) (by assumption) (by assumption) (by assumption))
   have e2317 : ((addM l o).2) = (420 : Int) := by first | exact congrArg (fun p => p.2) (show addM l o = _ from add_1 (by assumption)) | exact congrArg (fun p => p.2) (show addM l o = _ from add_2 (by assumption)) | exact congrArg (fun p => p.2) (show addM l o = _ from add_3 (by assumption) (by assumption) (by assumption)) | exact congrArg (fun p => p.2) (show addM l o = _ from add_4 (by assumption) (by assumption) (by assumption) (by assumption)) | exact congrArg (fun p => p.2) (show addM l o = _ from add_5 (by assumption) (by assumption) (by assumption) (by assumption) (by assumption)) | exact congrArg (fun p => p.2) (show addM l o = _ from add_6 (by assumption) (by assumption) (by assumption) (by assumption) (by assumption))
   exact ⟨_, rfl, s2310.keep, by rw [e2316, e2317]; exact ⟨.slice none 0 0, rfl, RdL.nil _ _ _⟩⟩
  ·have hp2318 : (validM o) = true := by first | simpa using hc2314 | (have e := hc2314; simp at e; omega)
   refine cw_skip (thenQ_n (?_))
   refine cw_seq (?_)
   refine cw_seq (?_)
   refine cw_region (by kernel_rfl) (wl_s (o_move (l_v) rfl (wl_s (o_loadS Try.underlying40 rfl s_40 rfl hp2297 fun cs2319 hs2320 => (?_)))))
   obtain rfl := hs2320
   refine wl_s (o_callK (vs := [l_v, Value.agg #[vI o.device, vI o.no, vI o.kind, vI o.copy, vI o.to, vI o.token]]) enter_37 (c_refHas (O := [] ++ O) l_v l [vI o.device, vI o.no, vI o.kind, vI o.copy, vI o.to, vI o.token] o w2309 h_l rfl s2310.lt) rfl s2310 fun v2321 w2322 s2323 m2324 k2325 r2326 => (?_))
   obtain rfl := r2326
   have h_l := h_l.mv m2324
   have hp2297 := hp2297.mv m2324
   refine wl_nil (thenQ_n (?_))
   refine cw_cond (l.contains o) rfl rfl (fun hc2327 => ?_) (fun hc2327 => ?_)
   ·have hp2328 : (l.contains o) = true := by first | simpa using hc2327 | (have e := hc2327; simp at e; omega)
    refine cw_seq (?_)
    refine cw_region (by kernel_rfl) (wl_s (o_move (l_v) rfl (wl_s (o_assign (l_v) rfl (wl_s (o_assign (vI (0 : Int)) rfl (wl_nil (thenQ_n (?_)))))))))
    refine cw_ret (thenQ_r (end_r rfl (res2 rfl rfl rfl rfl) (?_)))
    have e2329 : ((addM l o).1) = l := by first | exact congrArg (fun p => p.1) (show addM l o = _ from add_1 (by assumption)) | exact congrArg (fun p => p.1) (show addM l o = _ from add_2 (by assumption)) | exact congrArg (fun p => p.1) (show addM l o = _ from add_3 (by assumption) (by assumption) (by assumption)) | exact congrArg (fun p => p.1) (show addM l o = _ from add_4 (by assumption) (by assumption) (by assumption) (by assumption)) | exact congrArg (fun p => p.1) (show addM l o = _ from add_5 (by assumption) (by assumption) (by assumption) (by assumption) (by assumption)) | exact congrArg (fun p => p.1) (show addM l o = _ from add_6 (by assumption) (by assumption) (by assumption) (by assumption) (by assumption))
    have e2330 : ((addM l o).2) = (0 : Int) := by first | exact congrArg (fun p => p.2) (show addM l o = _ from add_1 (by assumption)) | exact congrArg (fun p => p.2) (show addM l o = _ from add_2 (by assumption)) | exact congrArg (fun p => p.2) (show addM l o = _ from add_3 (by assumption) (by assumption) (by assumption)) | exact congrArg (fun p => p.2) (show addM l o = _ from add_4 (by assumption) (by assumption) (by assumption) (by assumption)) | exact congrArg (fun p => p.2) (show addM l o = _ from add_5 (by assumption) (by assumption) (by assumption) (by assumption) (by assumption)) | exact congrArg (fun p => p.2) (show addM l o = _ from add_6 (by assumption) (by assumption) (by assumption) (by assumption) (by assumption))
    exact ⟨_, rfl, s2323.keep, by rw [e2329, e2330]; exact ⟨l_v, rfl, h_l.out⟩⟩
   ·have hp2331 : (l.contains o) = false := by first | simpa using hc2327 | (have e := hc2327; simp at e; omega)
    refine cw_skip (thenQ_n (?_))
    refine cw_seq (?_)
    refine cw_seq (?_)
    refine cw_region (by kernel_rfl) (wl_s (o_move (l_v) rfl (wl_s (o_loadS Try.underlying40 rfl s_40 rfl hp2297 fun cs2332 hs2333 => (?_)))))
    obtain rfl := hs2333
    refine wl_s (o_callK (vs := [l_v, Value.agg #[vI o.device, vI o.no, vI o.kind, vI o.copy, vI o.to, vI o.token]]) enter_68 (c_refClash (O := [] ++ O) l_v l [vI o.device, vI o.no, vI o.kind, vI o.copy, vI o.to, vI o.token] o w2322 h_l rfl s2323.lt) rfl s2323 fun v2334 w2335 s2336 m2337 k2338 r2339 => (?_))
    obtain rfl := r2339
    have h_l := h_l.mv m2337
    have hp2297 := hp2297.mv m2337
    refine wl_nil (thenQ_n (?_))
    refine cw_cond (clashM l o) rfl rfl (fun hc2340 => ?_) (fun hc2340 => ?_)
    ·have hp2341 : (clashM l o) = true := by first | simpa using hc2340 | (have e := hc2340; simp at e; omega)
     refine cw_seq (?_)
     refine cw_region (by kernel_rfl) (wl_s (o_assign (Value.slice none 0 0) rfl (wl_s (o_assign (vI (420 : Int)) rfl (wl_nil (thenQ_n (?_)))))))
     refine cw_ret (thenQ_r (end_r rfl (res2 rfl rfl rfl rfl) (?_)))
     have e2342 : ((addM l o).1) = ([]) := by first | exact congrArg (fun p => p.1) (show addM l o = _ from add_1 (by assumption)) | exact congrArg (fun p => p.1) (show addM l o = _ from add_2 (by assumption)) | exact congrArg (fun p => p.1) (show addM l o = _ from add_3 (by assumption) (by assumption) (by assumption)) | exact congrArg (fun p => p.1) (show addM l o = _ from add_4 (by assumption) (by assumption) (by assumption) (by assumption)) | exact congrArg (fun p => p.1) (show addM l o = _ from add_5 (by assumption) (by assumption) (by assumption) (by assumption) (by assumption)) | exact congrArg (fun p => p.1) (show addM l o = _ from add_6 (by assumption) (by assumption) (by assumption) (by assumption) (by assumption))
     have e2343 : ((addM l o).2) = (420 : Int) := by first | exact congrArg (fun p => p.2) (show addM l o = _ from add_1 (by assumption)) | exact congrArg (fun p => p.2) (show addM l o = _ from add_2 (by assumption)) | exact congrArg (fun p => p.2) (show addM l o = _ from add_3 (by assumption) (by assumption) (by assumption)) | exact congrArg (fun p => p.2) (show addM l o = _ from add_4 (by assumption) (by assumption) (by assumption) (by assumption)) | exact congrArg (fun p => p.2) (show addM l o = _ from add_5 (by assumption) (by assumption) (by assumption) (by assumption) (by assumption)) | exact congrArg (fun p => p.2) (show addM l o = _ from add_6 (by assumption) (by assumption) (by assumption) (by assumption) (by assumption))
     exact ⟨_, rfl, s2336.keep, by rw [e2342, e2343]; exact ⟨.slice none 0 0, rfl, RdL.nil _ _ _⟩⟩
    ·have hp2344 : (clashM l o) = false := by first | simpa using hc2340 | (have e := hc2340; simp at e; omega)
     refine cw_skip (thenQ_n (?_))
     refine cw_seq (?_)
     refine cw_seq (?_)
     refine cw_region (by kernel_rfl) (wl_s (o_move (l_v) rfl (wl_s (o_lenR Try.underlying26 rfl h_l (wl_s (o_eql .i64 (l.length : Int) (256 : Int) rfl rfl (wl_nil (thenQ_n (?_)))))))))
     refine cw_cond ((l.length : Int) == (256 : Int)) rfl rfl (fun hc2345 => ?_) (fun hc2345 => ?_)
     ·have hp2346 : (l.length : Int) = (256 : Int) := by first | simpa using hc2345 | (have e := hc2345; simp at e; omega)
      refine cw_seq (?_)
      refine cw_region (by kernel_rfl) (wl_s (o_assign (Value.slice none 0 0) rfl (wl_s (o_assign (vI (2 : Int)) rfl (wl_nil (thenQ_n (?_)))))))
      refine cw_ret (thenQ_r (end_r rfl (res2 rfl rfl rfl rfl) (?_)))
      have e2347 : ((addM l o).1) = ([]) := by first | exact congrArg (fun p => p.1) (show addM l o = _ from add_1 (by assumption)) | exact congrArg (fun p => p.1) (show addM l o = _ from add_2 (by assumption)) | exact congrArg (fun p => p.1) (show addM l o = _ from add_3 (by assumption) (by assumption) (by assumption)) | exact congrArg (fun p => p.1) (show addM l o = _ from add_4 (by assumption) (by assumption) (by assumption) (by assumption)) | exact congrArg (fun p => p.1) (show addM l o = _ from add_5 (by assumption) (by assumption) (by assumption) (by assumption) (by assumption)) | exact congrArg (fun p => p.1) (show addM l o = _ from add_6 (by assumption) (by assumption) (by assumption) (by assumption) (by assumption))
      have e2348 : ((addM l o).2) = (2 : Int) := by first | exact congrArg (fun p => p.2) (show addM l o = _ from add_1 (by assumption)) | exact congrArg (fun p => p.2) (show addM l o = _ from add_2 (by assumption)) | exact congrArg (fun p => p.2) (show addM l o = _ from add_3 (by assumption) (by assumption) (by assumption)) | exact congrArg (fun p => p.2) (show addM l o = _ from add_4 (by assumption) (by assumption) (by assumption) (by assumption)) | exact congrArg (fun p => p.2) (show addM l o = _ from add_5 (by assumption) (by assumption) (by assumption) (by assumption) (by assumption)) | exact congrArg (fun p => p.2) (show addM l o = _ from add_6 (by assumption) (by assumption) (by assumption) (by assumption) (by assumption))
      exact ⟨_, rfl, s2336.keep, by rw [e2347, e2348]; exact ⟨.slice none 0 0, rfl, RdL.nil _ _ _⟩⟩
     ·have hp2349 : (l.length : Int) ≠ (256 : Int) := by first | simpa using hc2345 | (have e := hc2345; simp at e; omega)
      refine cw_skip (thenQ_n (?_))
      refine cw_seq (?_)
      refine cw_region (by kernel_rfl) (wl_s (o_move (l_v) rfl (wl_s (o_loadS Try.underlying40 rfl s_40 rfl hp2297 fun cs2350 hs2351 => (?_)))))
      obtain rfl := hs2351
      refine wl_s (o_callK (vs := [l_v, Value.agg #[vI o.device, vI o.no, vI o.kind, vI o.copy, vI o.to, vI o.token]]) enter_69 (c_refIns (O := [] ++ O) l_v l [vI o.device, vI o.no, vI o.kind, vI o.copy, vI o.to, vI o.token] o w2335 h_l rfl (by omega) s2336.lt) rfl s2336 fun v2352 w2353 s2354 m2355 k2356 r2357 => (?_))
      obtain ⟨_, rfl, hl2358⟩ := r2357
      have := hl2358.len_le
      refine wl_s (o_assign (v2352) rfl (wl_s (o_assign (vI (0 : Int)) rfl (wl_nil (thenQ_n (?_))))))
      refine cw_ret (end_r rfl (res2 rfl rfl rfl rfl) (?_))
      have e2359 : ((addM l o).1) = (insM l o) := by first | exact congrArg (fun p => p.1) (show addM l o = _ from add_1 (by assumption)) | exact congrArg (fun p => p.1) (show addM l o = _ from add_2 (by assumption)) | exact congrArg (fun p => p.1) (show addM l o = _ from add_3 (by assumption) (by assumption) (by assumption)) | exact congrArg (fun p => p.1) (show addM l o = _ from add_4 (by assumption) (by assumption) (by assumption) (by assumption)) | exact congrArg (fun p => p.1) (show addM l o = _ from add_5 (by assumption) (by assumption) (by assumption) (by assumption) (by assumption)) | exact congrArg (fun p => p.1) (show addM l o = _ from add_6 (by assumption) (by assumption) (by assumption) (by assumption) (by assumption))
      have e2360 : ((addM l o).2) = (0 : Int) := by first | exact congrArg (fun p => p.2) (show addM l o = _ from add_1 (by assumption)) | exact congrArg (fun p => p.2) (show addM l o = _ from add_2 (by assumption)) | exact congrArg (fun p => p.2) (show addM l o = _ from add_3 (by assumption) (by assumption) (by assumption)) | exact congrArg (fun p => p.2) (show addM l o = _ from add_4 (by assumption) (by assumption) (by assumption) (by assumption)) | exact congrArg (fun p => p.2) (show addM l o = _ from add_5 (by assumption) (by assumption) (by assumption) (by assumption) (by assumption)) | exact congrArg (fun p => p.2) (show addM l o = _ from add_6 (by assumption) (by assumption) (by assumption) (by assumption) (by assumption))
      exact ⟨_, rfl, s2354.keep, by rw [e2359, e2360]; exact ⟨v2352, rfl, hl2358.out⟩⟩
 ·have hp2361 : checkM l ≠ (0 : Int) := by first | simpa using hb2304 | (have e := hb2304; simp at e; omega)
  refine wl_k rfl (wl_k rfl (wl_k rfl (wl_s (o_pickT (Value.bool true) rfl rfl (wl_nil (thenQ_n (?_)))))))
  refine cw_cond true rfl rfl (fun _ => ?_) (fun h => by cases h)
  refine cw_seq (?_)
  refine cw_region (by kernel_rfl) (wl_s (o_assign (Value.slice none 0 0) rfl (wl_s (o_assign (vI (420 : Int)) rfl (wl_nil (thenQ_n (?_)))))))
  refine cw_ret (thenQ_r (end_r rfl (res2 rfl rfl rfl rfl) (?_)))
  have e2362 : ((addM l o).1) = ([]) := by first | exact congrArg (fun p => p.1) (show addM l o = _ from add_1 (by assumption)) | exact congrArg (fun p => p.1) (show addM l o = _ from add_2 (by assumption)) | exact congrArg (fun p => p.1) (show addM l o = _ from add_3 (by assumption) (by assumption) (by assumption)) | exact congrArg (fun p => p.1) (show addM l o = _ from add_4 (by assumption) (by assumption) (by assumption) (by assumption)) | exact congrArg (fun p => p.1) (show addM l o = _ from add_5 (by assumption) (by assumption) (by assumption) (by assumption) (by assumption)) | exact congrArg (fun p => p.1) (show addM l o = _ from add_6 (by assumption) (by assumption) (by assumption) (by assumption) (by assumption))
  have e2363 : ((addM l o).2) = (420 : Int) := by first | exact congrArg (fun p => p.2) (show addM l o = _ from add_1 (by assumption)) | exact congrArg (fun p => p.2) (show addM l o = _ from add_2 (by assumption)) | exact congrArg (fun p => p.2) (show addM l o = _ from add_3 (by assumption) (by assumption) (by assumption)) | exact congrArg (fun p => p.2) (show addM l o = _ from add_4 (by assumption) (by assumption) (by assumption) (by assumption)) | exact congrArg (fun p => p.2) (show addM l o = _ from add_5 (by assumption) (by assumption) (by assumption) (by assumption) (by assumption)) | exact congrArg (fun p => p.2) (show addM l o = _ from add_6 (by assumption) (by assumption) (by assumption) (by assumption) (by assumption))
  exact ⟨_, rfl, s2300.keep, by rw [e2362, e2363]; exact ⟨.slice none 0 0, rfl, RdL.nil _ _ _⟩⟩
set_option maxHeartbeats 4000000 in
set_option maxRecDepth 100000 in
theorem c_refMerge {O : List Nat} (a_v : Value) (a : List DeviceOp) (b_v : Value) (b : List DeviceOp) (w : World) (h_a : RdL Enc.devop w O a_v a) (h_b : RdL Enc.devop w O b_v b) (hO : ∀ b ∈ O, b < w.heap.size) : CallsK Try.prog 32 [a_v, b_v] w (fun v w' => ∃ (x0 : Value), v = .tuple #[x0, vI ((mergeM a b).2)] ∧ RdL Enc.devop w' (O) x0 ((mergeM a b).1)) :=  by
 have lim_a := h_a.len_le
 have h_a : RdL Enc.devop w ([] ++ O) a_v a := h_a
 have lim_b := h_b.len_le
 have h_b : RdL Enc.devop w ([] ++ O) b_v b := h_b
 have s0 : St w O w [] := St.start hO
 refine callsK_of 45 Try.func32 rfl rfl (of_decide_eq_true rfl) (fun F0 => ?_)
 refine cw_seq (?_)
 refine cw_region (by kernel_rfl) (wl_s (o_assign (Value.slice none 0 0) rfl (wl_s (o_assign (vI (0 : Int)) rfl (wl_nil (thenQ_n (?_)))))))
 refine cw_seq (?_)
 refine cw_seq (?_)
 refine cw_region (by kernel_rfl) (wl_s (o_move (a_v) rfl (wl_s (o_callK (vs := [a_v]) enter_30 (c_refCheck (O := [] ++ O) a_v a w h_a s0.lt) rfl s0 fun v2364 w2365 s2366 m2367 k2368 r2369 => (?_)))))
 obtain rfl := r2369
 have h_a := h_a.mv m2367
 have h_b := h_b.mv m2367
 refine wl_s (o_neq .i64 (checkM a) (0 : Int) rfl rfl (wl_s (o_move (Value.bool ((checkM a) != (0 : Int))) rfl (?_))))
 cases hb2370 : ((checkM a) != (0 : Int))
 ·have hp2371 : checkM a = (0 : Int) := by first | simpa using hb2370 | (have e := hb2370; simp at e; omega)
  have hcka : checkM a = 0 := hp2371
  have hcka_1 := (check_ok hcka).1
  refine wl_t rfl (o_move (b_v) rfl (wl_t rfl (o_callK (vs := [b_v]) enter_30 (c_refCheck (O := [] ++ O) b_v b w2365 h_b s2366.lt) rfl s2366 fun v2372 w2373 s2374 m2375 k2376 r2377 => (?_))))
  obtain rfl := r2377
  have h_a := h_a.mv m2375
  have h_b := h_b.mv m2375
  refine wl_t rfl (o_neq .i64 (checkM b) (0 : Int) rfl rfl (wl_s (o_pickF (Value.bool ((checkM b) != (0 : Int))) rfl rfl (wl_nil (thenQ_n (?_))))))
  refine cw_cond ((checkM b) != (0 : Int)) rfl rfl (fun hc2378 => ?_) (fun hc2378 => ?_)
  ·have hp2379 : checkM b ≠ (0 : Int) := by first | simpa using hc2378 | (have e := hc2378; simp at e; omega)
   refine cw_seq (?_)
   refine cw_region (by kernel_rfl) (wl_s (o_assign (Value.slice none 0 0) rfl (wl_s (o_assign (vI (420 : Int)) rfl (wl_nil (thenQ_n (?_)))))))
   refine cw_ret (thenQ_r (end_r rfl (res2 rfl rfl rfl rfl) (?_)))
   have e2380 : ((mergeM a b).1) = ([]) := by first | exact congrArg (fun p => p.1) (show mergeM a b = _ from merge_1 (by assumption)) | exact congrArg (fun p => p.1) (show mergeM a b = _ from merge_2 (by assumption)) | exact congrArg (fun p => p.1) (show mergeM a b = _ from mrg_clash (i := k) hoa hob (by omega) (by assumption) (by assumption)) | exact congrArg (fun p => p.1) (show mergeM a b = _ from mrg_big hoa hob hr0_1 (by omega)) | exact congrArg (fun p => p.1) (show mergeM a b = _ from mrg_fit hoa hob hr0_1 (by omega))
   have e2381 : ((mergeM a b).2) = (420 : Int) := by first | exact congrArg (fun p => p.2) (show mergeM a b = _ from merge_1 (by assumption)) | exact congrArg (fun p => p.2) (show mergeM a b = _ from merge_2 (by assumption)) | exact congrArg (fun p => p.2) (show mergeM a b = _ from mrg_clash (i := k) hoa hob (by omega) (by assumption) (by assumption)) | exact congrArg (fun p => p.2) (show mergeM a b = _ from mrg_big hoa hob hr0_1 (by omega)) | exact congrArg (fun p => p.2) (show mergeM a b = _ from mrg_fit hoa hob hr0_1 (by omega))
   exact ⟨_, rfl, s2374.keep, by rw [e2380, e2381]; exact ⟨.slice none 0 0, rfl, RdL.nil _ _ _⟩⟩
  ·have hp2382 : checkM b = (0 : Int) := by first | simpa using hc2378 | (have e := hc2378; simp at e; omega)
   have hckb : checkM b = 0 := hp2382
   have hckb_1 := (check_ok hckb).1
   refine cw_skip (thenQ_n (?_))
   refine cw_seq (?_)
   refine cw_region (by kernel_rfl) (wl_s (o_move (a_v) rfl (wl_s (o_assign (a_v) rfl (wl_nil (thenQ_n (?_)))))))
   refine cw_seq (?_)
   refine cw_seq (?_)
   refine cw_region (by kernel_rfl) (wl_s (o_assign (vI (0 : Int)) rfl (wl_nil (thenQ_n (?_)))))
   refine cw_block (?_)
   have hoa := (check_iff a).1 hcka
   have hob := (check_iff b).1 hckb
   refine cw_loop (fun mI FI wI => ∃ (k : Nat) (vr0_6 : Value) (B : List Nat), k ≤ b.length ∧ numInj (mrg a b k) ∧ mI = b.length - k ∧ (∃ F1, FI = upds F1 [(1, b_v), (6, vr0_6), (7, vI ((k : Nat) : Int)), (45, undef)]) ∧ St w O wI B ∧ RdL Enc.devop wI (B ++ O) vr0_6 (mrg a b k) ∧ RdL Enc.devop wI (B ++ O) (b_v) (b)) (b.length - (0)) ?_ ?_
   ·exact ⟨(0), a_v, [], (by omega), (by rw [mrg_zero]; exact hoa.2.2.2), rfl, ⟨_, upds_self _ ⟨rfl, rfl, (by first | rfl | exact congrArg (Value.int _) (by first | omega | (simp))), rfl, trivial⟩⟩, s2374, (by rw [show mrg a b (0) = a from (mrg_zero a b)]; exact h_a), h_b⟩
   ·intro ml0 F wl0 hI
    clear h_b
    obtain ⟨k, vr0_6, Bl0, hr0_0, hr0_1, hm0, ⟨Fl0, rfl⟩, sl0, hrd0_6, h_b⟩ := hI
    have := hrd0_6.len_le
    refine cw_seq (?_)
    refine cw_seq (?_)
    refine cw_region (by kernel_rfl) (wl_s (o_move (vI ((k : Nat) : Int)) rfl (wl_s (o_move (b_v) rfl (wl_s (o_lenR Try.underlying26 rfl h_b (wl_s (o_lss .i64 ((k : Nat) : Int) (b.length : Int) rfl rfl (wl_nil (thenQ_n (?_)))))))))))
    refine cw_cond (decide (((k : Nat) : Int) < (b.length : Int))) rfl rfl (fun hc2383 => ?_) (fun hc2383 => ?_)
    ·have hp2384 : ((k : Nat) : Int) < (b.length : Int) := by first | simpa using hc2383 | (have e := hc2383; simp at e; omega)
     refine cw_skip (thenQ_n (?_))
     refine cw_seq (?_)
     refine cw_block (?_)
     refine cw_seq (?_)
     refine cw_seq (?_)
     refine cw_region (by kernel_rfl) (wl_s (o_move (vr0_6) rfl (wl_s (o_move (b_v) rfl (wl_s (o_move (vI ((k : Nat) : Int)) rfl (wl_s (o_idx Try.underlying26 s_40 .i64 ((k : Nat) : Int) k rfl rfl rfl h_b (by omega) fun a2385 hp2386 => (wl_s (o_loadS Try.underlying40 rfl s_40 rfl hp2386 fun cs2387 hs2388 => (?_)))))))))))
     obtain rfl := hs2388
     refine wl_s (o_callK (vs := [vr0_6, Value.agg #[vI ((b[k]!).device), vI ((b[k]!).no), vI ((b[k]!).kind), vI ((b[k]!).copy), vI ((b[k]!).to), vI ((b[k]!).token)]]) enter_37 (c_refHas (O := Bl0 ++ O) vr0_6 (mrg a b k) [vI ((b[k]!).device), vI ((b[k]!).no), vI ((b[k]!).kind), vI ((b[k]!).copy), vI ((b[k]!).to), vI ((b[k]!).token)] (b[k]!) wl0 hrd0_6 rfl sl0.lt) rfl sl0 fun v2389 w2390 s2391 m2392 k2393 r2394 => (?_))
     obtain rfl := r2394
     have h_b := h_b.mv m2392
     have hrd0_6 := hrd0_6.mv m2392
     refine wl_nil (thenQ_n (?_))
     refine cw_cond ((mrg a b k).contains (b[k]!)) rfl rfl (fun hc2395 => ?_) (fun hc2395 => ?_)
     ·have hp2396 : ((mrg a b k).contains (b[k]!)) = true := by first | simpa using hc2395 | (have e := hc2395; simp at e; omega)
      refine cw_exit (thenQ_x (blockQ_x (thenQ_n (?_))))
      refine cw_region (by kernel_rfl) (wl_s (o_move (vI ((k : Nat) : Int)) rfl (wl_s (o_add .i64 ((k : Nat) : Int) (1 : Int) (((k + 1 : Nat) : Int)) rfl rfl (w64 (by omega) (by omega)) (wl_s (o_assign (vI ((k + 1 : Nat) : Int)) rfl (wl_nil (thenQ_n (?_)))))))))
      exact ⟨_, (by omega), (k + 1), vr0_6, Bl0, (by omega), (by first | (rw [mrg_has hoa hob (by omega) (by assumption)]; exact hr0_1) | exact mrg_inj hoa hob (by omega) (by assumption) hr0_1 (by assumption)), rfl, ⟨_, upds_self _ ⟨rfl, rfl, (by first | rfl | exact congrArg (Value.int _) (by first | omega | (simp))), rfl, trivial⟩⟩, s2391, (by rw [show mrg a b (k + 1) = mrg a b k from by first | exact mrg_has hoa hob (by omega) (by assumption) | exact mrg_new hoa hob (by omega) (by assumption)]; exact hrd0_6), h_b⟩
     ·have hp2397 : ((mrg a b k).contains (b[k]!)) = false := by first | simpa using hc2395 | (have e := hc2395; simp at e; omega)
      refine cw_skip (thenQ_n (?_))
      refine cw_seq (?_)
      refine cw_seq (?_)
      refine cw_region (by kernel_rfl) (wl_s (o_move (vr0_6) rfl (wl_s (o_move (b_v) rfl (wl_s (o_move (vI ((k : Nat) : Int)) rfl (wl_s (o_idx Try.underlying26 s_40 .i64 ((k : Nat) : Int) k rfl rfl rfl h_b (by omega) fun a2398 hp2399 => (wl_s (o_loadS Try.underlying40 rfl s_40 rfl hp2399 fun cs2400 hs2401 => (?_)))))))))))
      obtain rfl := hs2401
      refine wl_s (o_callK (vs := [vr0_6, Value.agg #[vI ((b[k]!).device), vI ((b[k]!).no), vI ((b[k]!).kind), vI ((b[k]!).copy), vI ((b[k]!).to), vI ((b[k]!).token)]]) enter_68 (c_refClash (O := Bl0 ++ O) vr0_6 (mrg a b k) [vI ((b[k]!).device), vI ((b[k]!).no), vI ((b[k]!).kind), vI ((b[k]!).copy), vI ((b[k]!).to), vI ((b[k]!).token)] (b[k]!) w2390 hrd0_6 rfl s2391.lt) rfl s2391 fun v2402 w2403 s2404 m2405 k2406 r2407 => (?_))
      obtain rfl := r2407
      have h_b := h_b.mv m2405
      have hrd0_6 := hrd0_6.mv m2405
      refine wl_nil (thenQ_n (?_))
      refine cw_cond (clashM (mrg a b k) (b[k]!)) rfl rfl (fun hc2408 => ?_) (fun hc2408 => ?_)
      ·have hp2409 : (clashM (mrg a b k) (b[k]!)) = true := by first | simpa using hc2408 | (have e := hc2408; simp at e; omega)
       refine cw_seq (?_)
       refine cw_region (by kernel_rfl) (wl_s (o_assign (Value.slice none 0 0) rfl (wl_s (o_assign (vI (420 : Int)) rfl (wl_nil (thenQ_n (?_)))))))
       refine cw_ret (thenQ_r (blockQ_r (thenQ_r (thenQ_r (blockQ_r (thenQ_r (end_r rfl (res2 rfl rfl rfl rfl) (?_))))))))
       have e2410 : ((mergeM a b).1) = ([]) := by first | exact congrArg (fun p => p.1) (show mergeM a b = _ from merge_1 (by assumption)) | exact congrArg (fun p => p.1) (show mergeM a b = _ from merge_2 (by assumption)) | exact congrArg (fun p => p.1) (show mergeM a b = _ from mrg_clash (i := k) hoa hob (by omega) (by assumption) (by assumption)) | exact congrArg (fun p => p.1) (show mergeM a b = _ from mrg_big hoa hob hr0_1 (by omega)) | exact congrArg (fun p => p.1) (show mergeM a b = _ from mrg_fit hoa hob hr0_1 (by omega))
       have e2411 : ((mergeM a b).2) = (420 : Int) := by first | exact congrArg (fun p => p.2) (show mergeM a b = _ from merge_1 (by assumption)) | exact congrArg (fun p => p.2) (show mergeM a b = _ from merge_2 (by assumption)) | exact congrArg (fun p => p.2) (show mergeM a b = _ from mrg_clash (i := k) hoa hob (by omega) (by assumption) (by assumption)) | exact congrArg (fun p => p.2) (show mergeM a b = _ from mrg_big hoa hob hr0_1 (by omega)) | exact congrArg (fun p => p.2) (show mergeM a b = _ from mrg_fit hoa hob hr0_1 (by omega))
       exact ⟨_, rfl, s2404.keep, by rw [e2410, e2411]; exact ⟨.slice none 0 0, rfl, RdL.nil _ _ _⟩⟩
      ·have hp2412 : (clashM (mrg a b k) (b[k]!)) = false := by first | simpa using hc2408 | (have e := hc2408; simp at e; omega)
       refine cw_skip (thenQ_n (?_))
       refine cw_region (by kernel_rfl) (wl_s (o_move (vr0_6) rfl (wl_s (o_move (b_v) rfl (wl_s (o_move (vI ((k : Nat) : Int)) rfl (wl_s (o_idx Try.underlying26 s_40 .i64 ((k : Nat) : Int) k rfl rfl rfl h_b (by omega) fun a2413 hp2414 => (wl_s (o_loadS Try.underlying40 rfl s_40 rfl hp2414 fun cs2415 hs2416 => (?_)))))))))))
       obtain rfl := hs2416
       refine wl_s (o_callK (vs := [vr0_6, Value.agg #[vI ((b[k]!).device), vI ((b[k]!).no), vI ((b[k]!).kind), vI ((b[k]!).copy), vI ((b[k]!).to), vI ((b[k]!).token)]]) enter_69 (c_refIns (O := Bl0 ++ O) vr0_6 (mrg a b k) [vI ((b[k]!).device), vI ((b[k]!).no), vI ((b[k]!).kind), vI ((b[k]!).copy), vI ((b[k]!).to), vI ((b[k]!).token)] (b[k]!) w2403 hrd0_6 rfl (by have := len_mrg hoa hob k; omega) s2404.lt) rfl s2404 fun v2417 w2418 s2419 m2420 k2421 r2422 => (?_))
       obtain ⟨_, rfl, hl2423⟩ := r2422
       have := hl2423.len_le
       have h_b := h_b.mv m2420
       refine wl_s (o_assign (v2417) rfl (wl_nil (blockQ_n (thenQ_n (?_)))))
       refine cw_region (by kernel_rfl) (wl_s (o_move (vI ((k : Nat) : Int)) rfl (wl_s (o_add .i64 ((k : Nat) : Int) (1 : Int) (((k + 1 : Nat) : Int)) rfl rfl (w64 (by omega) (by omega)) (wl_s (o_assign (vI ((k + 1 : Nat) : Int)) rfl (wl_nil (thenQ_n (?_)))))))))
       exact ⟨_, (by omega), (k + 1), v2417, Bl0, (by omega), (by first | (rw [mrg_has hoa hob (by omega) (by assumption)]; exact hr0_1) | exact mrg_inj hoa hob (by omega) (by assumption) hr0_1 (by assumption)), rfl, ⟨_, upds_self _ ⟨rfl, rfl, (by first | rfl | exact congrArg (Value.int _) (by first | omega | (simp))), rfl, trivial⟩⟩, s2419, (by rw [show mrg a b (k + 1) = insM (mrg a b k) (b[k]!) from by first | exact mrg_has hoa hob (by omega) (by assumption) | exact mrg_new hoa hob (by omega) (by assumption)]; exact hl2423), h_b⟩
    ·have hp2424 : (b.length : Int) ≤ ((k : Nat) : Int) := by first | simpa using hc2383 | (have e := hc2383; simp at e; omega)
     obtain rfl : k = b.length := by omega
     refine cw_exit (thenQ_x (thenQ_x (blockQ_x (thenQ_n (?_)))))
     refine cw_seq (?_)
     refine cw_seq (?_)
     refine cw_region (by kernel_rfl) (wl_s (o_move (vr0_6) rfl (wl_s (o_lenR Try.underlying26 rfl hrd0_6 (wl_s (o_gtr .i64 ((mrg a b b.length).length : Int) (256 : Int) rfl rfl (wl_nil (thenQ_n (?_)))))))))
     refine cw_cond (decide ((256 : Int) < ((mrg a b b.length).length : Int))) rfl rfl (fun hc2425 => ?_) (fun hc2425 => ?_)
     ·have hp2426 : (256 : Int) < ((mrg a b b.length).length : Int) := by first | simpa using hc2425 | (have e := hc2425; simp at e; omega)
      refine cw_seq (?_)
      refine cw_region (by kernel_rfl) (wl_s (o_assign (Value.slice none 0 0) rfl (wl_s (o_assign (vI (2 : Int)) rfl (wl_nil (thenQ_n (?_)))))))
      refine cw_ret (thenQ_r (end_r rfl (res2 rfl rfl rfl rfl) (?_)))
      have e2427 : ((mergeM a b).1) = ([]) := by first | exact congrArg (fun p => p.1) (show mergeM a b = _ from merge_1 (by assumption)) | exact congrArg (fun p => p.1) (show mergeM a b = _ from merge_2 (by assumption)) | exact congrArg (fun p => p.1) (show mergeM a b = _ from mrg_clash (i := k) hoa hob (by omega) (by assumption) (by assumption)) | exact congrArg (fun p => p.1) (show mergeM a b = _ from mrg_big hoa hob hr0_1 (by omega)) | exact congrArg (fun p => p.1) (show mergeM a b = _ from mrg_fit hoa hob hr0_1 (by omega))
      have e2428 : ((mergeM a b).2) = (2 : Int) := by first | exact congrArg (fun p => p.2) (show mergeM a b = _ from merge_1 (by assumption)) | exact congrArg (fun p => p.2) (show mergeM a b = _ from merge_2 (by assumption)) | exact congrArg (fun p => p.2) (show mergeM a b = _ from mrg_clash (i := k) hoa hob (by omega) (by assumption) (by assumption)) | exact congrArg (fun p => p.2) (show mergeM a b = _ from mrg_big hoa hob hr0_1 (by omega)) | exact congrArg (fun p => p.2) (show mergeM a b = _ from mrg_fit hoa hob hr0_1 (by omega))
      exact ⟨_, rfl, sl0.keep, by rw [e2427, e2428]; exact ⟨.slice none 0 0, rfl, RdL.nil _ _ _⟩⟩
     ·have hp2429 : ((mrg a b b.length).length : Int) ≤ (256 : Int) := by first | simpa using hc2425 | (have e := hc2425; simp at e; omega)
      refine cw_skip (thenQ_n (?_))
      refine cw_seq (?_)
      refine cw_region (by kernel_rfl) (wl_s (o_move (vr0_6) rfl (wl_s (o_assign (vr0_6) rfl (wl_s (o_assign (vI (0 : Int)) rfl (wl_nil (thenQ_n (?_)))))))))
      refine cw_ret (end_r rfl (res2 rfl rfl rfl rfl) (?_))
      have e2430 : ((mergeM a b).1) = (mrg a b b.length) := by first | exact congrArg (fun p => p.1) (show mergeM a b = _ from merge_1 (by assumption)) | exact congrArg (fun p => p.1) (show mergeM a b = _ from merge_2 (by assumption)) | exact congrArg (fun p => p.1) (show mergeM a b = _ from mrg_clash (i := k) hoa hob (by omega) (by assumption) (by assumption)) | exact congrArg (fun p => p.1) (show mergeM a b = _ from mrg_big hoa hob hr0_1 (by omega)) | exact congrArg (fun p => p.1) (show mergeM a b = _ from mrg_fit hoa hob hr0_1 (by omega))
      have e2431 : ((mergeM a b).2) = (0 : Int) := by first | exact congrArg (fun p => p.2) (show mergeM a b = _ from merge_1 (by assumption)) | exact congrArg (fun p => p.2) (show mergeM a b = _ from merge_2 (by assumption)) | exact congrArg (fun p => p.2) (show mergeM a b = _ from mrg_clash (i := k) hoa hob (by omega) (by assumption) (by assumption)) | exact congrArg (fun p => p.2) (show mergeM a b = _ from mrg_big hoa hob hr0_1 (by omega)) | exact congrArg (fun p => p.2) (show mergeM a b = _ from mrg_fit hoa hob hr0_1 (by omega))
      exact ⟨_, rfl, sl0.keep, by rw [e2430, e2431]; exact ⟨vr0_6, rfl, hrd0_6.out⟩⟩
 ·have hp2432 : checkM a ≠ (0 : Int) := by first | simpa using hb2370 | (have e := hb2370; simp at e; omega)
  refine wl_k rfl (wl_k rfl (wl_k rfl (wl_s (o_pickT (Value.bool true) rfl rfl (wl_nil (thenQ_n (?_)))))))
  refine cw_cond true rfl rfl (fun _ => ?_) (fun h => by cases h)
  refine cw_seq (?_)
  refine cw_region (by kernel_rfl) (wl_s (o_assign (Value.slice none 0 0) rfl (wl_s (o_assign (vI (420 : Int)) rfl (wl_nil (thenQ_n (?_)))))))
  refine cw_ret (thenQ_r (end_r rfl (res2 rfl rfl rfl rfl) (?_)))
  have e2433 : ((mergeM a b).1) = ([]) := by first | exact congrArg (fun p => p.1) (show mergeM a b = _ from merge_1 (by assumption)) | exact congrArg (fun p => p.1) (show mergeM a b = _ from merge_2 (by assumption)) | exact congrArg (fun p => p.1) (show mergeM a b = _ from mrg_clash (i := k) hoa hob (by omega) (by assumption) (by assumption)) | exact congrArg (fun p => p.1) (show mergeM a b = _ from mrg_big hoa hob hr0_1 (by omega)) | exact congrArg (fun p => p.1) (show mergeM a b = _ from mrg_fit hoa hob hr0_1 (by omega))
  have e2434 : ((mergeM a b).2) = (420 : Int) := by first | exact congrArg (fun p => p.2) (show mergeM a b = _ from merge_1 (by assumption)) | exact congrArg (fun p => p.2) (show mergeM a b = _ from merge_2 (by assumption)) | exact congrArg (fun p => p.2) (show mergeM a b = _ from mrg_clash (i := k) hoa hob (by omega) (by assumption) (by assumption)) | exact congrArg (fun p => p.2) (show mergeM a b = _ from mrg_big hoa hob hr0_1 (by omega)) | exact congrArg (fun p => p.2) (show mergeM a b = _ from mrg_fit hoa hob hr0_1 (by omega))
  exact ⟨_, rfl, s2366.keep, by rw [e2433, e2434]; exact ⟨.slice none 0 0, rfl, RdL.nil _ _ _⟩⟩
set_option maxHeartbeats 4000000 in
set_option maxRecDepth 100000 in
theorem c_counts {O : List Nat} (hd_cs : List Value) (hd : Holding) (o_cs : List Value) (o : DeviceOp) (w : World) (h_hd : Enc.holding.rd w O hd_cs hd) (h_o : Enc.devop.rd w O o_cs o) (hpre0 : 0 ≤ hd.token) (hpre1 : hd.token ≤ 65536) (hO : ∀ b ∈ O, b < w.heap.size) : CallsK Try.prog 102 [.agg hd_cs.toArray, .agg o_cs.toArray] w (fun v _ => v = .bool (countsM hd o)) :=  by
 obtain rfl := h_hd
 obtain rfl := h_o
 have s0 : St w O w [] := St.start hO
 refine callsK_of 23 Try.func102 rfl rfl (of_decide_eq_true rfl) (fun F0 => ?_)
 refine cw_seq (?_)
 refine cw_region (by kernel_rfl) (wl_s (o_boxR (E := Enc.holding) (Value.agg #[vI hd.copy, vI hd.device, vI hd.token, Value.bool hd.shown]) ([vI hd.copy, vI hd.device, vI hd.token, Value.bool hd.shown]) hd rfl rfl rfl s0 fun a2435 w2436 s2437 m2438 k2439 hp2440 => (?_)))
 refine wl_s (o_boxR (E := Enc.devop) (Value.agg #[vI o.device, vI o.no, vI o.kind, vI o.copy, vI o.to, vI o.token]) ([vI o.device, vI o.no, vI o.kind, vI o.copy, vI o.to, vI o.token]) o rfl rfl rfl s2437 fun a2441 w2442 s2443 m2444 k2445 hp2446 => (?_))
 have hp2440 := hp2440.mv m2444
 refine wl_s (o_assign (Value.bool false) rfl (wl_nil (thenQ_n (?_))))
 refine cw_seq (?_)
 refine cw_region (by kernel_rfl) (wl_s (o_fieldR 5 f_40_5 (o.token) rfl hp2446 (fun _ _ _ h => Enc_devop_f5 h) fun a2447 hp2448 => (wl_s (o_loadI Try.underlying3 rfl rfl hp2448 (wl_s (o_fieldR 2 f_47_2 (hd.token) rfl hp2440 (fun _ _ _ h => Enc_holding_f2 h) fun a2449 hp2450 => (wl_s (o_loadI Try.underlying3 rfl rfl hp2450 (wl_s (o_add .i64 hd.token (1 : Int) (hd.token + (1 : Int)) rfl rfl (w64 (by omega) (by omega)) (wl_s (o_eql .i64 o.token (hd.token + (1 : Int)) rfl rfl (wl_s (o_move (Value.bool (o.token == (hd.token + (1 : Int)))) rfl (?_)))))))))))))))
 cases hb2451 : (o.token == (hd.token + (1 : Int)))
 ·have hp2452 : o.token ≠ hd.token + (1 : Int) := by first | simpa using hb2451 | (have e := hb2451; simp at e; omega)
  refine wl_k rfl (wl_k rfl (wl_k rfl (wl_k rfl (wl_k rfl (wl_s (o_pickF (Value.bool false) rfl rfl (wl_s (o_move (Value.bool false) rfl (wl_k rfl (wl_k rfl (wl_k rfl (wl_s (o_pickF (Value.bool false) rfl rfl (wl_s (o_assign (Value.bool false) rfl (wl_nil (thenQ_n (?_))))))))))))))))))
  refine cw_ret (end_r rfl (res1 rfl rfl rfl) (?_))
  have e : (countsM hd o) = false := by simp [countsM, *]
  exact ⟨_, rfl, s2443.keep, by rw [e]; exact rfl⟩
 ·have hp2453 : o.token = hd.token + (1 : Int) := by first | simpa using hb2451 | (have e := hb2451; simp at e; omega)
  refine wl_t rfl (o_fieldR 0 f_40_0 (o.device) rfl hp2446 (fun _ _ _ h => Enc_devop_f0 h) fun a2454 hp2455 => (wl_t rfl (o_loadI Try.underlying3 rfl rfl hp2455 (wl_t rfl (o_fieldR 1 f_47_1 (hd.device) rfl hp2440 (fun _ _ _ h => Enc_holding_f1 h) fun a2456 hp2457 => (wl_t rfl (o_loadI Try.underlying3 rfl rfl hp2457 (wl_t rfl (o_eql .i64 o.device hd.device rfl rfl (wl_s (o_pickT (Value.bool (o.device == hd.device)) rfl rfl (wl_s (o_move (Value.bool (o.device == hd.device)) rfl (?_))))))))))))))
  cases hb2458 : (o.device == hd.device)
  ·have hp2459 : o.device ≠ hd.device := by first | simpa using hb2458 | (have e := hb2458; simp at e; omega)
   refine wl_k rfl (wl_k rfl (wl_k rfl (wl_s (o_pickF (Value.bool false) rfl rfl (wl_s (o_assign (Value.bool false) rfl (wl_nil (thenQ_n (?_)))))))))
   refine cw_ret (end_r rfl (res1 rfl rfl rfl) (?_))
   have e : (countsM hd o) = false := by simp [countsM, *]
   exact ⟨_, rfl, s2443.keep, by rw [e]; exact rfl⟩
  ·have hp2460 : o.device = hd.device := by first | simpa using hb2458 | (have e := hb2458; simp at e; omega)
   refine wl_t rfl (o_fieldR 3 f_47_3 (hd.shown) rfl hp2440 (fun _ _ _ h => Enc_holding_f3 h) fun a2461 hp2462 => (wl_t rfl (o_loadT Try.underlying4 rfl rfl hp2462 (wl_t rfl (o_not hd.shown rfl (wl_s (o_pickT (Value.bool (!hd.shown)) rfl rfl (wl_s (o_assign (Value.bool (!hd.shown)) rfl (wl_nil (thenQ_n (?_))))))))))))
   refine cw_ret (end_r rfl (res1 rfl rfl rfl) (?_))
   have e : (countsM hd o) = (!hd.shown) := by simp [countsM, *]
   exact ⟨_, rfl, s2443.keep, by rw [e]; exact rfl⟩
set_option maxHeartbeats 4000000 in
set_option maxRecDepth 100000 in
theorem c_refHold {O : List Nat} (l_v : Value) (l : List DeviceOp) (c : Int) (first : Int) (w : World) (h_l : RdL Enc.devop w O l_v l) (hpre0 : checkM l = 0) (hO : ∀ b ∈ O, b < w.heap.size) : CallsK Try.prog 76 [l_v, vI c, vI first] w (fun v w' => ∃ (x0 : List Value), v = .agg x0.toArray ∧ Enc.holding.rd w' (O) x0 (holdM l first c)) :=  by
 have lim_l := h_l.len_le
 have h_l : RdL Enc.devop w ([] ++ O) l_v l := h_l
 have s0 : St w O w [] := St.start hO
 refine callsK_of 54 Try.func76 rfl rfl (of_decide_eq_true rfl) (fun F0 => ?_)
 refine cw_seq (?_)
 refine cw_region (by kernel_rfl) (wl_s (o_alloc [vI (0 : Int), vI (0 : Int), vI (0 : Int), Value.bool false] z_47 rfl s0 fun b2463 w2464 e2469 s2465 m2466 k2467 bx2468 => (?_)))
 clear e2469
 have h_l := h_l.mv m2466
 refine wl_nil (thenQ_n (?_))
 refine cw_seq (?_)
 refine cw_region (by kernel_rfl) (wl_s (o_move (vI c) rfl (wl_s (o_move (vI first) rfl (wl_s (o_build (l := [(0, .tmp 9), (1, .tmp 10)]) pl_47 z_47 rfl [(0, vI c, [vI c]), (1, vI first, [vI first])] [vI c, vI first, vI (0 : Int), Value.bool false] rfl ⟨_, rfl, rfl, (of_decide_eq_true rfl), ⟨_, rfl, rfl, (of_decide_eq_true rfl), rfl⟩⟩ (wl_s (o_alloc [vI (0 : Int), vI (0 : Int), vI (0 : Int), Value.bool false] z_47 rfl s2465 fun b2470 w2471 e2476 s2472 m2473 k2474 bx2475 => (?_)))))))))
 have ne2477 : NeB b2463 b2470 := by show b2463 ≠ b2470; have := bx2468.lt; omega
 clear e2476
 have h_l := h_l.mv m2473
 have bx2468 := bx2468.keep k2474 (by simp)
 refine wl_n (o_store (vs := [vI c, vI first, vI (0 : Int), Value.bool false]) (.agg #[vI c, vI first, vI (0 : Int), Value.bool false]) rfl rfl rfl s_47 (fun u hu => by simp only [List.mem_cons, List.not_mem_nil, or_false] at hu; rcases hu with rfl | rfl | rfl | rfl <;> first | rfl) (by repeat (first | assumption | constructor)) bx2475 (of_decide_eq_true rfl) s2472 fun w2478 s2479 m2480 k2481 bx2482 => (?_))
 have h_l := h_l.mv m2480
 have bx2468 := bx2468.keep k2481 (nin1 ne2477)
 refine wl_nil (thenQ_n (?_))
 refine cw_seq (?_)
 refine cw_seq (?_)
 refine cw_region (by kernel_rfl) (wl_s (o_assign (vI (0 : Int)) rfl (wl_nil (thenQ_n (?_)))))
 refine cw_block (?_)
 refine cw_loop (fun mI FI wI => ∃ (k : Nat) (B : List Nat), k ≤ l.length ∧ mI = l.length - k ∧ (∃ F1, FI = upds F1 [(0, l_v), (1, vI c), (6, Value.pointer (some ⟨b2463, 0, none⟩)), (7, Value.pointer (some ⟨b2470, 0, none⟩)), (8, vI ((k : Nat) : Int)), (54, undef)]) ∧ St w O wI B ∧ RdL Enc.devop wI (B ++ O) (l_v) (l) ∧ Box wI b2463 47 [vI (0 : Int), vI (0 : Int), vI (0 : Int), Value.bool false] ∧ b2463 ∈ B ∧ Box wI b2470 47 [vI ((foldAt l c first k).copy), vI ((foldAt l c first k).device), vI ((foldAt l c first k).token), Value.bool ((foldAt l c first k).shown)] ∧ b2470 ∈ B) (l.length - (0)) ?_ ?_
 ·exact ⟨(0), (b2470 :: (b2463 :: [])), (by first | omega | (simp; done) | (simp; omega) | simp_all), rfl, ⟨_, upds_self _ ⟨rfl, rfl, rfl, rfl, (by first | rfl | exact congrArg (Value.int _) (by first | omega | (simp))), rfl, trivial⟩⟩, s2479, h_l, bx2468, (by first | assumption | (repeat (first | exact List.mem_cons_self | assumption | apply List.mem_cons_of_mem)) | (apply_assumption; assumption)), (by rw [show ([vI ((foldAt l c first (0)).copy), vI ((foldAt l c first (0)).device), vI ((foldAt l c first (0)).token), Value.bool ((foldAt l c first (0)).shown)] : List Value) = [vI c, vI first, vI (0 : Int), Value.bool false] from by rw [foldAt_zero]; rfl]; exact bx2482), (by first | assumption | (repeat (first | exact List.mem_cons_self | assumption | apply List.mem_cons_of_mem)) | (apply_assumption; assumption))⟩
 ·intro ml0 F wl0 hI
  clear h_l bx2468
  obtain ⟨k, Bl0, hr0_0, hm0, ⟨Fl0, rfl⟩, sl0, h_l, bx2468, hin_b2463, hbs_0_b2470, hin_b2470⟩ := hI
  refine cw_seq (?_)
  refine cw_seq (?_)
  refine cw_region (by kernel_rfl) (wl_s (o_move (vI ((k : Nat) : Int)) rfl (wl_s (o_move (l_v) rfl (wl_s (o_lenR Try.underlying26 rfl h_l (wl_s (o_lss .i64 ((k : Nat) : Int) (l.length : Int) rfl rfl (wl_nil (thenQ_n (?_)))))))))))
  refine cw_cond (decide (((k : Nat) : Int) < (l.length : Int))) rfl rfl (fun hc2483 => ?_) (fun hc2483 => ?_)
  ·have hp2484 : ((k : Nat) : Int) < (l.length : Int) := by first | simpa using hc2483 | (have e := hc2483; simp at e; omega)
   refine cw_skip (thenQ_n (?_))
   refine cw_seq (?_)
   refine cw_block (?_)
   refine cw_seq (?_)
   refine cw_seq (?_)
   cases hb2485 : (((l[k]!).copy) != c)
   ·have hp2486 : (l[k]!).copy = c := by first | simpa using hb2485 | (have e := hb2485; simp at e; omega)
    refine cw_draw' 13 _ _ [fun (vT : Value) (wT : World) => RdL Enc.devop wT (Bl0 ++ O) vT (l), isV (vI ((k : Nat) : Int)), fun (vT : Value) (wT : World) => ∃ aT, vT = .pointer (some aT) ∧ PT Enc.devop wT (Bl0 ++ O) (.pointer (some aT)) (l[k]!), fun (vT : Value) (wT : World) => ∃ aT, vT = .pointer (some aT) ∧ PT Enc.int wT (Bl0 ++ O) (.pointer (some aT)) ((l[k]!).copy), isV (vI ((l[k]!).copy)), isV (vI c), isV (Value.bool false), isV (Value.bool false), isV (Value.agg #[vI ((foldAt l c first k).copy), vI ((foldAt l c first k).device), vI ((foldAt l c first k).token), Value.bool ((foldAt l c first k).shown)]), fun (vT : Value) (wT : World) => RdL Enc.devop wT (Bl0 ++ O) vT (l), isV (vI ((k : Nat) : Int)), fun (vT : Value) (wT : World) => ∃ aT, vT = .pointer (some aT) ∧ PT Enc.devop wT (Bl0 ++ O) (.pointer (some aT)) (l[k]!), isV (Value.agg #[vI ((l[k]!).device), vI ((l[k]!).no), vI ((l[k]!).kind), vI ((l[k]!).copy), vI ((l[k]!).to), vI ((l[k]!).token)])] (by kernel_rfl) (by kernel_rfl) (by kernel_rfl) (by kernel_rfl) rfl rfl ⟨fun _ _ _ h k => h.mv (Mv.of_keep k), kI, fun _ _ _ ⟨a, e, h⟩ k => ⟨a, e, h.mv (Mv.of_keep k)⟩, fun _ _ _ ⟨a, e, h⟩ k => ⟨a, e, h.mv (Mv.of_keep k)⟩, kI, kI, kI, kI, kI, fun _ _ _ h k => h.mv (Mv.of_keep k), kI, fun _ _ _ ⟨a, e, h⟩ k => ⟨a, e, h.mv (Mv.of_keep k)⟩, kI, trivial⟩ ⟨?_, ?_, ?_, ?_, ?_, ?_, ?_, ?_, ?_, ?_, ?_, ?_, ?_, trivial⟩ ?_
    ·intro F1 w1 k1 hf hd
     have k0 := (Keep.drew [] wl0).trans k1
     have m1 : Mv Bl0 wl0 Bl0 w1 := Mv.of_keep k0
     have h_l := h_l.mv m1
     obtain ⟨F2, rfl⟩ := lit_of (F := F1) [(0, l_v)] ⟨hf 0 (by kernel_rfl), trivial⟩
     exact sp_plain rfl ((o_move (l_v) rfl (⟨(Keep.refl _ _), h_l⟩)))
    ·intro F1 w1 k1 hf hd
     obtain ⟨F2, rfl⟩ := lit_of (F := F1) [(8, vI ((k : Nat) : Int))] ⟨hf 8 (by kernel_rfl), trivial⟩
     exact sp_plain rfl ((o_move (vI ((k : Nat) : Int)) rfl (⟨(Keep.refl _ _), rfl⟩)))
    ·intro F1 w1 k1 hf hd
     obtain ⟨v2487, e2489, hl2488⟩ : ∃ v, F1 18 = v ∧ RdL Enc.devop w1 (Bl0 ++ O) v (l) := ⟨_, rfl, hd 0 18 (by kernel_rfl)⟩
     have := hl2488.len_le
     obtain ⟨F2, rfl⟩ := lit_of (F := F1) [(18, v2487), (19, vI ((k : Nat) : Int))] ⟨e2489, hd 1 19 (by kernel_rfl), trivial⟩
     exact sp_plain rfl ((o_idx Try.underlying26 s_40 .i64 ((k : Nat) : Int) k rfl rfl rfl hl2488 (by omega) fun a2490 hp2491 => (⟨(Keep.refl _ _), ⟨a2490, rfl, hp2491⟩⟩)))
    ·intro F1 w1 k1 hf hd
     obtain ⟨a2492, e2494, hp2493⟩ : ∃ aX_, F1 20 = .pointer (some aX_) ∧ PT Enc.devop w1 (Bl0 ++ O) (.pointer (some aX_)) (l[k]!) := hd 2 20 (by kernel_rfl)
     obtain ⟨F2, rfl⟩ := lit_of (F := F1) [(20, Value.pointer (some a2492))] ⟨e2494, trivial⟩
     exact sp_plain rfl ((o_fieldR 3 f_40_3 ((l[k]!).copy) rfl hp2493 (fun _ _ _ h => Enc_devop_f3 h) fun a2495 hp2496 => (⟨(Keep.refl _ _), ⟨a2495, rfl, hp2496⟩⟩)))
    ·intro F1 w1 k1 hf hd
     obtain ⟨a2497, e2499, hp2498⟩ : ∃ aX_, F1 21 = .pointer (some aX_) ∧ PT Enc.int w1 (Bl0 ++ O) (.pointer (some aX_)) ((l[k]!).copy) := hd 3 21 (by kernel_rfl)
     obtain ⟨F2, rfl⟩ := lit_of (F := F1) [(21, Value.pointer (some a2497))] ⟨e2499, trivial⟩
     exact sp_plain rfl ((o_loadI Try.underlying3 rfl rfl hp2498 (⟨(Keep.refl _ _), rfl⟩)))
    ·intro F1 w1 k1 hf hd
     obtain ⟨F2, rfl⟩ := lit_of (F := F1) [(1, vI c)] ⟨hf 1 (by kernel_rfl), trivial⟩
     exact sp_plain rfl ((o_move (vI c) rfl (⟨(Keep.refl _ _), rfl⟩)))
    ·intro F1 w1 k1 hf hd
     obtain ⟨F2, rfl⟩ := lit_of (F := F1) [(22, vI ((l[k]!).copy)), (23, vI c)] ⟨hd 4 22 (by kernel_rfl), hd 5 23 (by kernel_rfl), trivial⟩
     refine sp_plain rfl ((o_neq .i64 ((l[k]!).copy) c rfl rfl (?_)))
     exact ⟨(Keep.refl _ _), congrArg Value.bool (hb2485)⟩
    ·intro F1 w1 k1 hf hd
     obtain ⟨F2, rfl⟩ := lit_of (F := F1) [(24, Value.bool false)] ⟨hd 6 24 (by kernel_rfl), trivial⟩
     exact sp_plain rfl ((o_move (Value.bool false) rfl (⟨(Keep.refl _ _), rfl⟩)))
    ·intro F1 w1 k1 hf hd
     have k0 := (Keep.drew [] wl0).trans k1
     have hbs_0_b2470 := hbs_0_b2470.keep k0 (by simp)
     obtain ⟨F2, rfl⟩ := lit_of (F := F1) [(7, Value.pointer (some ⟨b2470, 0, none⟩)), (25, Value.bool false)] ⟨hf 7 (by kernel_rfl), hd 7 25 (by kernel_rfl), trivial⟩
     exact sp_take rfl rfl ((o_loadBxA (vs := [vI ((foldAt l c first k).copy), vI ((foldAt l c first k).device), vI ((foldAt l c first k).token), Value.bool ((foldAt l c first k).shown)]) Try.underlying47 rfl s_47 rfl hbs_0_b2470 rfl (⟨(Keep.refl _ _), rfl⟩)))
    ·intro F1 w1 k1 hf hd
     have k0 := (Keep.drew [] wl0).trans k1
     have m1 : Mv Bl0 wl0 Bl0 w1 := Mv.of_keep k0
     have h_l := h_l.mv m1
     obtain ⟨F2, rfl⟩ := lit_of (F := F1) [(0, l_v), (25, Value.bool false)] ⟨hf 0 (by kernel_rfl), hd 7 25 (by kernel_rfl), trivial⟩
     exact sp_take rfl rfl ((o_move (l_v) rfl (⟨(Keep.refl _ _), h_l⟩)))
    ·intro F1 w1 k1 hf hd
     obtain ⟨F2, rfl⟩ := lit_of (F := F1) [(8, vI ((k : Nat) : Int)), (25, Value.bool false)] ⟨hf 8 (by kernel_rfl), hd 7 25 (by kernel_rfl), trivial⟩
     exact sp_take rfl rfl ((o_move (vI ((k : Nat) : Int)) rfl (⟨(Keep.refl _ _), rfl⟩)))
    ·intro F1 w1 k1 hf hd
     obtain ⟨v2500, e2502, hl2501⟩ : ∃ v, F1 27 = v ∧ RdL Enc.devop w1 (Bl0 ++ O) v (l) := ⟨_, rfl, hd 9 27 (by kernel_rfl)⟩
     have := hl2501.len_le
     obtain ⟨F2, rfl⟩ := lit_of (F := F1) [(25, Value.bool false), (27, v2500), (28, vI ((k : Nat) : Int))] ⟨hd 7 25 (by kernel_rfl), e2502, hd 10 28 (by kernel_rfl), trivial⟩
     exact sp_take rfl rfl ((o_idx Try.underlying26 s_40 .i64 ((k : Nat) : Int) k rfl rfl rfl hl2501 (by omega) fun a2503 hp2504 => (⟨(Keep.refl _ _), ⟨a2503, rfl, hp2504⟩⟩)))
    ·intro F1 w1 k1 hf hd
     obtain ⟨a2505, e2507, hp2506⟩ : ∃ aX_, F1 29 = .pointer (some aX_) ∧ PT Enc.devop w1 (Bl0 ++ O) (.pointer (some aX_)) (l[k]!) := hd 11 29 (by kernel_rfl)
     obtain ⟨F2, rfl⟩ := lit_of (F := F1) [(25, Value.bool false), (29, Value.pointer (some a2505))] ⟨hd 7 25 (by kernel_rfl), e2507, trivial⟩
     refine sp_take rfl rfl ((o_loadS Try.underlying40 rfl s_40 rfl hp2506 fun cs2508 hs2509 => (?_)))
     obtain rfl := hs2509
     exact ⟨(Keep.refl _ _), rfl⟩
    intro F2511 w2512 k2510 hT2513 hF2514
    have s2515 := sl0.call k2510
    have m2516 : Mv Bl0 wl0 Bl0 w2512 := Mv.of_keep k2510
    have h_l := h_l.mv m2516
    have bx2468 := bx2468.keep k2510 (by simp)
    have hbs_0_b2470 := hbs_0_b2470.keep k2510 (by simp)
    obtain ⟨F2, rfl⟩ := lit_of (F := F2511) [(0, l_v), (1, vI c), (6, Value.pointer (some ⟨b2463, 0, none⟩)), (7, Value.pointer (some ⟨b2470, 0, none⟩)), (8, vI ((k : Nat) : Int)), (54, undef), (25, Value.bool false), (26, Value.agg #[vI ((foldAt l c first k).copy), vI ((foldAt l c first k).device), vI ((foldAt l c first k).token), Value.bool ((foldAt l c first k).shown)]), (30, Value.agg #[vI ((l[k]!).device), vI ((l[k]!).no), vI ((l[k]!).kind), vI ((l[k]!).copy), vI ((l[k]!).to), vI ((l[k]!).token)])] ⟨hF2514 0 (by kernel_rfl), hF2514 1 (by kernel_rfl), hF2514 6 (by kernel_rfl), hF2514 7 (by kernel_rfl), hF2514 8 (by kernel_rfl), hF2514 54 (by kernel_rfl), hT2513 7 25 (by kernel_rfl) (by decide), hT2513 8 26 (by kernel_rfl) (by decide), hT2513 12 30 (by kernel_rfl) (by decide), trivial⟩
    clear hT2513 hF2514
    refine wl_t rfl (o_callK (vs := [Value.agg #[vI ((foldAt l c first k).copy), vI ((foldAt l c first k).device), vI ((foldAt l c first k).token), Value.bool ((foldAt l c first k).shown)], Value.agg #[vI ((l[k]!).device), vI ((l[k]!).no), vI ((l[k]!).kind), vI ((l[k]!).copy), vI ((l[k]!).to), vI ((l[k]!).token)]]) enter_102 (c_counts (O := Bl0 ++ O) [vI ((foldAt l c first k).copy), vI ((foldAt l c first k).device), vI ((foldAt l c first k).token), Value.bool ((foldAt l c first k).shown)] (foldAt l c first k) [vI ((l[k]!).device), vI ((l[k]!).no), vI ((l[k]!).kind), vI ((l[k]!).copy), vI ((l[k]!).to), vI ((l[k]!).token)] (l[k]!) w2512 rfl rfl (foldAt_tok hpre0 c first k).1 (foldAt_tok hpre0 c first k).2 s2515.lt) rfl s2515 fun v2519 w2520 s2521 m2522 k2523 r2524 => (?_))
    obtain rfl := r2524
    have h_l := h_l.mv m2522
    have bx2468 := bx2468.keep k2523 (by simp)
    have hbs_0_b2470 := hbs_0_b2470.keep k2523 (by simp)
    refine wl_t rfl (o_not (countsM (foldAt l c first k) (l[k]!)) rfl (wl_s (o_pickF (Value.bool (!(countsM (foldAt l c first k) (l[k]!)))) rfl rfl (wl_nil (thenQ_n (?_))))))
    refine cw_cond (!(countsM (foldAt l c first k) (l[k]!))) rfl rfl (fun hc2525 => ?_) (fun hc2525 => ?_)
    ·have hp2526 : (countsM (foldAt l c first k) (l[k]!)) = false := by first | simpa using hc2525 | (have e := hc2525; simp at e; omega)
     refine cw_exit (thenQ_x (blockQ_x (thenQ_n (?_))))
     refine cw_region (by kernel_rfl) (wl_s (o_move (vI ((k : Nat) : Int)) rfl (wl_s (o_add .i64 ((k : Nat) : Int) (1 : Int) (((k + 1 : Nat) : Int)) rfl rfl (w64 (by omega) (by omega)) (wl_s (o_assign (vI ((k + 1 : Nat) : Int)) rfl (wl_nil (thenQ_n (?_)))))))))
     exact ⟨_, (by omega), (k + 1), Bl0, (by first | omega | (simp; done) | (simp; omega) | simp_all), rfl, ⟨_, upds_self _ ⟨rfl, rfl, rfl, rfl, (by first | rfl | exact congrArg (Value.int _) (by first | omega | (simp))), rfl, trivial⟩⟩, s2521, h_l, bx2468, (by first | assumption | (repeat (first | exact List.mem_cons_self | assumption | apply List.mem_cons_of_mem)) | (apply_assumption; assumption)), (by rw [show ([vI ((foldAt l c first (k + 1)).copy), vI ((foldAt l c first (k + 1)).device), vI ((foldAt l c first (k + 1)).token), Value.bool ((foldAt l c first (k + 1)).shown)] : List Value) = [vI ((foldAt l c first k).copy), vI ((foldAt l c first k).device), vI ((foldAt l c first k).token), Value.bool ((foldAt l c first k).shown)] from by first | rw [fold_other (by omega) (by assumption)] | rw [fold_no (by omega) (by assumption)] | rw [fold_give (by omega) (by assumption) (by assumption) (by omega)] | rw [fold_show (by omega) (by assumption) (by assumption) (chk_kind hpre0 (by omega) (by assumption))]]; exact hbs_0_b2470), (by first | assumption | (repeat (first | exact List.mem_cons_self | assumption | apply List.mem_cons_of_mem)) | (apply_assumption; assumption))⟩
    ·have hp2527 : (countsM (foldAt l c first k) (l[k]!)) = true := by first | simpa using hc2525 | (have e := hc2525; simp at e; omega)
     refine cw_skip (thenQ_n (?_))
     refine cw_seq (?_)
     refine cw_region (by kernel_rfl) (wl_s (o_move (l_v) rfl (wl_s (o_move (vI ((k : Nat) : Int)) rfl (wl_s (o_idx Try.underlying26 s_40 .i64 ((k : Nat) : Int) k rfl rfl rfl h_l (by omega) fun a2528 hp2529 => (wl_s (o_fieldR 5 f_40_5 ((l[k]!).token) rfl hp2529 (fun _ _ _ h => Enc_devop_f5 h) fun a2530 hp2531 => (wl_s (o_loadI Try.underlying3 rfl rfl hp2531 (wl_s (o_fieldL 2 f_47_2 rfl (wl_n (o_store1 (vI ((l[k]!).token)) rfl rfl rfl s_3 (by repeat (first | assumption | constructor)) hbs_0_b2470 (of_decide_eq_true rfl) s2521 fun w2532 s2533 m2534 k2535 bx2536 => (?_)))))))))))))))
     have h_l := h_l.mv m2534
     have bx2468 := bx2468.keep k2535 (nin1 ne2477)
     refine wl_nil (thenQ_n (?_))
     refine cw_seq (?_)
     refine cw_region (by kernel_rfl) (wl_s (o_move (l_v) rfl (wl_s (o_move (vI ((k : Nat) : Int)) rfl (wl_s (o_idx Try.underlying26 s_40 .i64 ((k : Nat) : Int) k rfl rfl rfl h_l (by omega) fun a2537 hp2538 => (wl_s (o_fieldR 2 f_40_2 ((l[k]!).kind) rfl hp2538 (fun _ _ _ h => Enc_devop_f2 h) fun a2539 hp2540 => (wl_s (o_loadI Try.underlying3 rfl rfl hp2540 (wl_s (o_eql .i64 ((l[k]!).kind) (1 : Int) rfl rfl (wl_nil (thenQ_n (?_)))))))))))))))
     refine cw_cond (((l[k]!).kind) == (1 : Int)) rfl rfl (fun hc2541 => ?_) (fun hc2541 => ?_)
     ·have hp2542 : (l[k]!).kind = (1 : Int) := by first | simpa using hc2541 | (have e := hc2541; simp at e; omega)
      refine cw_region (by kernel_rfl) (wl_s (o_move (l_v) rfl (wl_s (o_move (vI ((k : Nat) : Int)) rfl (wl_s (o_idx Try.underlying26 s_40 .i64 ((k : Nat) : Int) k rfl rfl rfl h_l (by omega) fun a2543 hp2544 => (wl_s (o_fieldR 4 f_40_4 ((l[k]!).to) rfl hp2544 (fun _ _ _ h => Enc_devop_f4 h) fun a2545 hp2546 => (wl_s (o_loadI Try.underlying3 rfl rfl hp2546 (wl_s (o_fieldL 1 f_47_1 rfl (wl_n (o_store1 (vI ((l[k]!).to)) rfl rfl rfl s_3 (by repeat (first | assumption | constructor)) bx2536 (of_decide_eq_true rfl) s2533 fun w2547 s2548 m2549 k2550 bx2551 => (?_)))))))))))))))
      have h_l := h_l.mv m2549
      have bx2468 := bx2468.keep k2550 (nin1 ne2477)
      refine wl_nil (blockQ_n (thenQ_n (?_)))
      refine cw_region (by kernel_rfl) (wl_s (o_move (vI ((k : Nat) : Int)) rfl (wl_s (o_add .i64 ((k : Nat) : Int) (1 : Int) (((k + 1 : Nat) : Int)) rfl rfl (w64 (by omega) (by omega)) (wl_s (o_assign (vI ((k + 1 : Nat) : Int)) rfl (wl_nil (thenQ_n (?_)))))))))
      exact ⟨_, (by omega), (k + 1), Bl0, (by first | omega | (simp; done) | (simp; omega) | simp_all), rfl, ⟨_, upds_self _ ⟨rfl, rfl, rfl, rfl, (by first | rfl | exact congrArg (Value.int _) (by first | omega | (simp))), rfl, trivial⟩⟩, s2548, h_l, bx2468, (by first | assumption | (repeat (first | exact List.mem_cons_self | assumption | apply List.mem_cons_of_mem)) | (apply_assumption; assumption)), (by rw [show ([vI ((foldAt l c first (k + 1)).copy), vI ((foldAt l c first (k + 1)).device), vI ((foldAt l c first (k + 1)).token), Value.bool ((foldAt l c first (k + 1)).shown)] : List Value) = [vI ((foldAt l c first k).copy), vI ((l[k]!).to), vI ((l[k]!).token), Value.bool ((foldAt l c first k).shown)] from by first | rw [fold_other (by omega) (by assumption)] | rw [fold_no (by omega) (by assumption)] | rw [fold_give (by omega) (by assumption) (by assumption) (by omega)] | rw [fold_show (by omega) (by assumption) (by assumption) (chk_kind hpre0 (by omega) (by assumption))]]; exact bx2551), (by first | assumption | (repeat (first | exact List.mem_cons_self | assumption | apply List.mem_cons_of_mem)) | (apply_assumption; assumption))⟩
     ·have hp2552 : (l[k]!).kind ≠ (1 : Int) := by first | simpa using hc2541 | (have e := hc2541; simp at e; omega)
      refine cw_region (by kernel_rfl) (wl_s (o_fieldL 3 f_47_3 rfl (wl_n (o_store1 (Value.bool true) rfl rfl rfl s_4 (by repeat (first | assumption | constructor)) bx2536 (of_decide_eq_true rfl) s2533 fun w2553 s2554 m2555 k2556 bx2557 => (?_)))))
      have h_l := h_l.mv m2555
      have bx2468 := bx2468.keep k2556 (nin1 ne2477)
      refine wl_nil (blockQ_n (thenQ_n (?_)))
      refine cw_region (by kernel_rfl) (wl_s (o_move (vI ((k : Nat) : Int)) rfl (wl_s (o_add .i64 ((k : Nat) : Int) (1 : Int) (((k + 1 : Nat) : Int)) rfl rfl (w64 (by omega) (by omega)) (wl_s (o_assign (vI ((k + 1 : Nat) : Int)) rfl (wl_nil (thenQ_n (?_)))))))))
      exact ⟨_, (by omega), (k + 1), Bl0, (by first | omega | (simp; done) | (simp; omega) | simp_all), rfl, ⟨_, upds_self _ ⟨rfl, rfl, rfl, rfl, (by first | rfl | exact congrArg (Value.int _) (by first | omega | (simp))), rfl, trivial⟩⟩, s2554, h_l, bx2468, (by first | assumption | (repeat (first | exact List.mem_cons_self | assumption | apply List.mem_cons_of_mem)) | (apply_assumption; assumption)), (by rw [show ([vI ((foldAt l c first (k + 1)).copy), vI ((foldAt l c first (k + 1)).device), vI ((foldAt l c first (k + 1)).token), Value.bool ((foldAt l c first (k + 1)).shown)] : List Value) = [vI ((foldAt l c first k).copy), vI ((foldAt l c first k).device), vI ((l[k]!).token), Value.bool true] from by first | rw [fold_other (by omega) (by assumption)] | rw [fold_no (by omega) (by assumption)] | rw [fold_give (by omega) (by assumption) (by assumption) (by omega)] | rw [fold_show (by omega) (by assumption) (by assumption) (chk_kind hpre0 (by omega) (by assumption))]]; exact bx2557), (by first | assumption | (repeat (first | exact List.mem_cons_self | assumption | apply List.mem_cons_of_mem)) | (apply_assumption; assumption))⟩
   ·have hp2558 : (l[k]!).copy ≠ c := by first | simpa using hb2485 | (have e := hb2485; simp at e; omega)
    refine cw_draw' 13 _ _ [fun (vT : Value) (wT : World) => RdL Enc.devop wT (Bl0 ++ O) vT (l), isV (vI ((k : Nat) : Int)), fun (vT : Value) (wT : World) => ∃ aT, vT = .pointer (some aT) ∧ PT Enc.devop wT (Bl0 ++ O) (.pointer (some aT)) (l[k]!), fun (vT : Value) (wT : World) => ∃ aT, vT = .pointer (some aT) ∧ PT Enc.int wT (Bl0 ++ O) (.pointer (some aT)) ((l[k]!).copy), isV (vI ((l[k]!).copy)), isV (vI c), isV (Value.bool true), isV (Value.bool true), isV undef, isV undef, isV undef, isV undef, isV undef] (by kernel_rfl) (by kernel_rfl) (by kernel_rfl) (by kernel_rfl) rfl rfl ⟨fun _ _ _ h k => h.mv (Mv.of_keep k), kI, fun _ _ _ ⟨a, e, h⟩ k => ⟨a, e, h.mv (Mv.of_keep k)⟩, fun _ _ _ ⟨a, e, h⟩ k => ⟨a, e, h.mv (Mv.of_keep k)⟩, kI, kI, kI, kI, kI, kI, kI, kI, kI, trivial⟩ ⟨?_, ?_, ?_, ?_, ?_, ?_, ?_, ?_, ?_, ?_, ?_, ?_, ?_, trivial⟩ ?_
    ·intro F1 w1 k1 hf hd
     have k0 := (Keep.drew [] wl0).trans k1
     have m1 : Mv Bl0 wl0 Bl0 w1 := Mv.of_keep k0
     have h_l := h_l.mv m1
     obtain ⟨F2, rfl⟩ := lit_of (F := F1) [(0, l_v)] ⟨hf 0 (by kernel_rfl), trivial⟩
     exact sp_plain rfl ((o_move (l_v) rfl (⟨(Keep.refl _ _), h_l⟩)))
    ·intro F1 w1 k1 hf hd
     obtain ⟨F2, rfl⟩ := lit_of (F := F1) [(8, vI ((k : Nat) : Int))] ⟨hf 8 (by kernel_rfl), trivial⟩
     exact sp_plain rfl ((o_move (vI ((k : Nat) : Int)) rfl (⟨(Keep.refl _ _), rfl⟩)))
    ·intro F1 w1 k1 hf hd
     obtain ⟨v2559, e2561, hl2560⟩ : ∃ v, F1 18 = v ∧ RdL Enc.devop w1 (Bl0 ++ O) v (l) := ⟨_, rfl, hd 0 18 (by kernel_rfl)⟩
     have := hl2560.len_le
     obtain ⟨F2, rfl⟩ := lit_of (F := F1) [(18, v2559), (19, vI ((k : Nat) : Int))] ⟨e2561, hd 1 19 (by kernel_rfl), trivial⟩
     exact sp_plain rfl ((o_idx Try.underlying26 s_40 .i64 ((k : Nat) : Int) k rfl rfl rfl hl2560 (by omega) fun a2562 hp2563 => (⟨(Keep.refl _ _), ⟨a2562, rfl, hp2563⟩⟩)))
    ·intro F1 w1 k1 hf hd
     obtain ⟨a2564, e2566, hp2565⟩ : ∃ aX_, F1 20 = .pointer (some aX_) ∧ PT Enc.devop w1 (Bl0 ++ O) (.pointer (some aX_)) (l[k]!) := hd 2 20 (by kernel_rfl)
     obtain ⟨F2, rfl⟩ := lit_of (F := F1) [(20, Value.pointer (some a2564))] ⟨e2566, trivial⟩
     exact sp_plain rfl ((o_fieldR 3 f_40_3 ((l[k]!).copy) rfl hp2565 (fun _ _ _ h => Enc_devop_f3 h) fun a2567 hp2568 => (⟨(Keep.refl _ _), ⟨a2567, rfl, hp2568⟩⟩)))
    ·intro F1 w1 k1 hf hd
     obtain ⟨a2569, e2571, hp2570⟩ : ∃ aX_, F1 21 = .pointer (some aX_) ∧ PT Enc.int w1 (Bl0 ++ O) (.pointer (some aX_)) ((l[k]!).copy) := hd 3 21 (by kernel_rfl)
     obtain ⟨F2, rfl⟩ := lit_of (F := F1) [(21, Value.pointer (some a2569))] ⟨e2571, trivial⟩
     exact sp_plain rfl ((o_loadI Try.underlying3 rfl rfl hp2570 (⟨(Keep.refl _ _), rfl⟩)))
    ·intro F1 w1 k1 hf hd
     obtain ⟨F2, rfl⟩ := lit_of (F := F1) [(1, vI c)] ⟨hf 1 (by kernel_rfl), trivial⟩
     exact sp_plain rfl ((o_move (vI c) rfl (⟨(Keep.refl _ _), rfl⟩)))
    ·intro F1 w1 k1 hf hd
     obtain ⟨F2, rfl⟩ := lit_of (F := F1) [(22, vI ((l[k]!).copy)), (23, vI c)] ⟨hd 4 22 (by kernel_rfl), hd 5 23 (by kernel_rfl), trivial⟩
     refine sp_plain rfl ((o_neq .i64 ((l[k]!).copy) c rfl rfl (?_)))
     exact ⟨(Keep.refl _ _), congrArg Value.bool (hb2485)⟩
    ·intro F1 w1 k1 hf hd
     obtain ⟨F2, rfl⟩ := lit_of (F := F1) [(24, Value.bool true)] ⟨hd 6 24 (by kernel_rfl), trivial⟩
     exact sp_plain rfl ((o_move (Value.bool true) rfl (⟨(Keep.refl _ _), rfl⟩)))
    ·intro F1 w1 k1 hf hd
     exact sp_skipD rfl rfl (hd 7 25 (by kernel_rfl)) rfl rfl
    ·intro F1 w1 k1 hf hd
     exact sp_skipD rfl rfl (hd 7 25 (by kernel_rfl)) rfl rfl
    ·intro F1 w1 k1 hf hd
     exact sp_skipD rfl rfl (hd 7 25 (by kernel_rfl)) rfl rfl
    ·intro F1 w1 k1 hf hd
     exact sp_skipD rfl rfl (hd 7 25 (by kernel_rfl)) rfl rfl
    ·intro F1 w1 k1 hf hd
     exact sp_skipD rfl rfl (hd 7 25 (by kernel_rfl)) rfl rfl
    intro F2573 w2574 k2572 hT2575 hF2576
    have s2577 := sl0.call k2572
    have m2578 : Mv Bl0 wl0 Bl0 w2574 := Mv.of_keep k2572
    have h_l := h_l.mv m2578
    have bx2468 := bx2468.keep k2572 (by simp)
    have hbs_0_b2470 := hbs_0_b2470.keep k2572 (by simp)
    obtain ⟨F2, rfl⟩ := lit_of (F := F2573) [(0, l_v), (1, vI c), (6, Value.pointer (some ⟨b2463, 0, none⟩)), (7, Value.pointer (some ⟨b2470, 0, none⟩)), (8, vI ((k : Nat) : Int)), (54, undef), (25, Value.bool true)] ⟨hF2576 0 (by kernel_rfl), hF2576 1 (by kernel_rfl), hF2576 6 (by kernel_rfl), hF2576 7 (by kernel_rfl), hF2576 8 (by kernel_rfl), hF2576 54 (by kernel_rfl), hT2575 7 25 (by kernel_rfl) (by decide), trivial⟩
    clear hT2575 hF2576
    refine wl_k rfl (wl_k rfl (wl_s (o_pickT (Value.bool true) rfl rfl (wl_nil (thenQ_n (?_))))))
    refine cw_cond true rfl rfl (fun _ => ?_) (fun h => by cases h)
    refine cw_exit (thenQ_x (blockQ_x (thenQ_n (?_))))
    refine cw_region (by kernel_rfl) (wl_s (o_move (vI ((k : Nat) : Int)) rfl (wl_s (o_add .i64 ((k : Nat) : Int) (1 : Int) (((k + 1 : Nat) : Int)) rfl rfl (w64 (by omega) (by omega)) (wl_s (o_assign (vI ((k + 1 : Nat) : Int)) rfl (wl_nil (thenQ_n (?_)))))))))
    exact ⟨_, (by omega), (k + 1), Bl0, (by first | omega | (simp; done) | (simp; omega) | simp_all), rfl, ⟨_, upds_self _ ⟨rfl, rfl, rfl, rfl, (by first | rfl | exact congrArg (Value.int _) (by first | omega | (simp))), rfl, trivial⟩⟩, s2577, h_l, bx2468, (by first | assumption | (repeat (first | exact List.mem_cons_self | assumption | apply List.mem_cons_of_mem)) | (apply_assumption; assumption)), (by rw [show ([vI ((foldAt l c first (k + 1)).copy), vI ((foldAt l c first (k + 1)).device), vI ((foldAt l c first (k + 1)).token), Value.bool ((foldAt l c first (k + 1)).shown)] : List Value) = [vI ((foldAt l c first k).copy), vI ((foldAt l c first k).device), vI ((foldAt l c first k).token), Value.bool ((foldAt l c first k).shown)] from by first | rw [fold_other (by omega) (by assumption)] | rw [fold_no (by omega) (by assumption)] | rw [fold_give (by omega) (by assumption) (by assumption) (by omega)] | rw [fold_show (by omega) (by assumption) (by assumption) (chk_kind hpre0 (by omega) (by assumption))]]; exact hbs_0_b2470), (by first | assumption | (repeat (first | exact List.mem_cons_self | assumption | apply List.mem_cons_of_mem)) | (apply_assumption; assumption))⟩
  ·have hp2581 : (l.length : Int) ≤ ((k : Nat) : Int) := by first | simpa using hc2483 | (have e := hc2483; simp at e; omega)
   obtain rfl : k = l.length := by omega
   refine cw_exit (thenQ_x (thenQ_x (blockQ_x (thenQ_n (?_)))))
   refine cw_seq (?_)
   refine cw_region (by kernel_rfl) (wl_s (o_loadBxA (vs := [vI ((foldAt l c first l.length).copy), vI ((foldAt l c first l.length).device), vI ((foldAt l c first l.length).token), Value.bool ((foldAt l c first l.length).shown)]) Try.underlying47 rfl s_47 rfl hbs_0_b2470 rfl (wl_n (o_store (vs := [vI ((foldAt l c first l.length).copy), vI ((foldAt l c first l.length).device), vI ((foldAt l c first l.length).token), Value.bool ((foldAt l c first l.length).shown)]) (.agg #[vI ((foldAt l c first l.length).copy), vI ((foldAt l c first l.length).device), vI ((foldAt l c first l.length).token), Value.bool ((foldAt l c first l.length).shown)]) rfl rfl rfl s_47 (fun u hu => by simp only [List.mem_cons, List.not_mem_nil, or_false] at hu; rcases hu with rfl | rfl | rfl | rfl <;> first | rfl) (by repeat (first | assumption | constructor)) bx2468 (of_decide_eq_true rfl) sl0 fun w2582 s2583 m2584 k2585 bx2586 => (?_)))))
   refine wl_nil (thenQ_n (?_))
   refine cw_ret (end_r rfl (rescA (vs := [vI ((foldAt l c first l.length).copy), vI ((foldAt l c first l.length).device), vI ((foldAt l c first l.length).token), Value.bool ((foldAt l c first l.length).shown)]) rfl rfl Try.underlying47 rfl s_47 rfl bx2586 rfl) (?_))
   have e : (holdM l first c) = (foldAt l c first l.length) := by exact (foldAt_end l c first).symm
   exact ⟨_, rfl, s2583.keep, by rw [e]; exact ⟨[vI ((foldAt l c first l.length).copy), vI ((foldAt l c first l.length).device), vI ((foldAt l c first l.length).token), Value.bool ((foldAt l c first l.length).shown)], rfl, Enc.out (B := Bl0) rfl⟩⟩
set_option maxHeartbeats 4000000 in
set_option maxRecDepth 100000 in
theorem c_refState {O : List Nat} (l_v : Value) (l : List DeviceOp) (copies : Int) (first : Int) (w : World) (h_l : RdL Enc.devop w O l_v l) (hO : ∀ b ∈ O, b < w.heap.size) : CallsK Try.prog 33 [l_v, vI copies, vI first] w (fun v w' => ∃ (x0 : Value), v = .tuple #[x0, vI ((stateM l copies first).2)] ∧ RdL Enc.holding w' (O) x0 ((stateM l copies first).1)) :=  by
 have lim_l := h_l.len_le
 have h_l : RdL Enc.devop w ([] ++ O) l_v l := h_l
 have s0 : St w O w [] := St.start hO
 refine callsK_of 35 Try.func33 rfl rfl (of_decide_eq_true rfl) (fun F0 => ?_)
 refine cw_seq (?_)
 refine cw_region (by kernel_rfl) (wl_s (o_assign (Value.slice none 0 0) rfl (wl_s (o_assign (vI (0 : Int)) rfl (wl_nil (thenQ_n (?_)))))))
 refine cw_seq (?_)
 refine cw_seq (?_)
 refine cw_region (by kernel_rfl) (wl_s (o_move (l_v) rfl (wl_s (o_callK (vs := [l_v]) enter_30 (c_refCheck (O := [] ++ O) l_v l w h_l s0.lt) rfl s0 fun v2587 w2588 s2589 m2590 k2591 r2592 => (?_)))))
 obtain rfl := r2592
 have h_l := h_l.mv m2590
 refine wl_s (o_neq .i64 (checkM l) (0 : Int) rfl rfl (wl_nil (thenQ_n (?_))))
 refine cw_cond ((checkM l) != (0 : Int)) rfl rfl (fun hc2593 => ?_) (fun hc2593 => ?_)
 ·have hp2594 : checkM l ≠ (0 : Int) := by first | simpa using hc2593 | (have e := hc2593; simp at e; omega)
  refine cw_seq (?_)
  refine cw_region (by kernel_rfl) (wl_s (o_assign (Value.slice none 0 0) rfl (wl_s (o_assign (vI (420 : Int)) rfl (wl_nil (thenQ_n (?_)))))))
  refine cw_ret (thenQ_r (end_r rfl (res2 rfl rfl rfl rfl) (?_)))
  have e2595 : ((stateM l copies first).1) = ([]) := by first | exact congrArg (fun p => p.1) (show stateM l copies first = _ from state_1 (by assumption)) | exact congrArg (fun p => p.1) (show stateM l copies first = _ from rstate_2 (by assumption) (by assumption)) | exact congrArg (fun p => p.1) (show stateM l copies first = _ from state_4 (by assumption) (by assumption)) | exact congrArg (fun p => p.1) (show stateM l copies first = _ from rstate_5 (by assumption) (by assumption) (by assumption))
  have e2596 : ((stateM l copies first).2) = (420 : Int) := by first | exact congrArg (fun p => p.2) (show stateM l copies first = _ from state_1 (by assumption)) | exact congrArg (fun p => p.2) (show stateM l copies first = _ from rstate_2 (by assumption) (by assumption)) | exact congrArg (fun p => p.2) (show stateM l copies first = _ from state_4 (by assumption) (by assumption)) | exact congrArg (fun p => p.2) (show stateM l copies first = _ from rstate_5 (by assumption) (by assumption) (by assumption))
  exact ⟨_, rfl, s2589.keep, by rw [e2595, e2596]; exact ⟨.slice none 0 0, rfl, RdL.nil _ _ _⟩⟩
 ·have hp2597 : checkM l = (0 : Int) := by first | simpa using hc2593 | (have e := hc2593; simp at e; omega)
  have hchk : checkM l = 0 := hp2597
  have hchk_1 := (check_ok hchk).1
  refine cw_skip (thenQ_n (?_))
  refine cw_seq (?_)
  refine cw_seq (?_)
  refine cw_region (by kernel_rfl) (wl_s (o_move (vI copies) rfl (wl_s (o_callK (vs := [vI copies, vI (0 : Int), vI (1024 : Int)]) enter_74 (c_in (O := [] ++ O) copies (0 : Int) (1024 : Int) w2588 s2589.lt) rfl s2589 fun v2598 w2599 s2600 m2601 k2602 r2603 => (?_)))))
  obtain rfl := r2603
  have h_l := h_l.mv m2601
  refine wl_s (o_not (inD copies (0 : Int) (1024 : Int)) rfl (wl_s (o_move (Value.bool (!(inD copies (0 : Int) (1024 : Int)))) rfl (?_))))
  cases hb2604 : (!(inD copies (0 : Int) (1024 : Int)))
  ·have hp2605 : (inD copies (0 : Int) (1024 : Int)) = true := by first | simpa using hb2604 | (have e := hb2604; simp at e; omega)
   have hcl := inD_le hp2605
   refine wl_t rfl (o_move (vI first) rfl (wl_t rfl (o_callK (vs := [vI first]) enter_75 (c_refDev (O := [] ++ O) first w2599 s2600.lt) rfl s2600 fun v2606 w2607 s2608 m2609 k2610 r2611 => (?_))))
   obtain rfl := r2611
   have h_l := h_l.mv m2609
   refine wl_t rfl (o_not (isDevM first) rfl (wl_s (o_pickF (Value.bool (!(isDevM first))) rfl rfl (wl_nil (thenQ_n (?_))))))
   refine cw_cond (!(isDevM first)) rfl rfl (fun hc2612 => ?_) (fun hc2612 => ?_)
   ·have hp2613 : (isDevM first) = false := by first | simpa using hc2612 | (have e := hc2612; simp at e; omega)
    refine cw_seq (?_)
    refine cw_region (by kernel_rfl) (wl_s (o_assign (Value.slice none 0 0) rfl (wl_s (o_assign (vI (1 : Int)) rfl (wl_nil (thenQ_n (?_)))))))
    refine cw_ret (thenQ_r (end_r rfl (res2 rfl rfl rfl rfl) (?_)))
    have e2614 : ((stateM l copies first).1) = ([]) := by first | exact congrArg (fun p => p.1) (show stateM l copies first = _ from state_1 (by assumption)) | exact congrArg (fun p => p.1) (show stateM l copies first = _ from rstate_2 (by assumption) (by assumption)) | exact congrArg (fun p => p.1) (show stateM l copies first = _ from state_4 (by assumption) (by assumption)) | exact congrArg (fun p => p.1) (show stateM l copies first = _ from rstate_5 (by assumption) (by assumption) (by assumption))
    have e2615 : ((stateM l copies first).2) = (1 : Int) := by first | exact congrArg (fun p => p.2) (show stateM l copies first = _ from state_1 (by assumption)) | exact congrArg (fun p => p.2) (show stateM l copies first = _ from rstate_2 (by assumption) (by assumption)) | exact congrArg (fun p => p.2) (show stateM l copies first = _ from state_4 (by assumption) (by assumption)) | exact congrArg (fun p => p.2) (show stateM l copies first = _ from rstate_5 (by assumption) (by assumption) (by assumption))
    exact ⟨_, rfl, s2608.keep, by rw [e2614, e2615]; exact ⟨.slice none 0 0, rfl, RdL.nil _ _ _⟩⟩
   ·have hp2616 : (isDevM first) = true := by first | simpa using hc2612 | (have e := hc2612; simp at e; omega)
    refine cw_skip (thenQ_n (?_))
    refine cw_seq (?_)
    refine cw_region (by kernel_rfl) (wl_s (o_litO (E := Enc.holding) (xs := []) Try.underlying43 s_47 z_47 (by decide) [] [] [] rfl rfl rfl (Parts.nil _ _ _) (of_decide_eq_true rfl) s2608 fun v2621 b2623 w2617 e2624 hb2625 s2618 m2619 k2620 hl2622 => (?_)))
    have hB2626 : ∀ b, v2621.ownBlock = some b → b ∈ (b2623 :: []) := fun b hb => by rw [hb2625] at hb; cases hb; simp
    clear e2624 hb2625
    have h_l := h_l.mv m2619
    refine wl_s (o_assign (v2621) rfl (wl_nil (thenQ_n (?_))))
    refine cw_seq (?_)
    refine cw_seq (?_)
    refine cw_region (by kernel_rfl) (wl_s (o_assign (vI (0 : Int)) rfl (wl_nil (thenQ_n (?_)))))
    refine cw_block (?_)
    refine cw_loop (fun mI FI wI => ∃ (k : Nat) (vo0_8 : Value) (B : List Nat), (k : Int) ≤ copies ∧ mI = copies.toNat - k ∧ (∃ F1, FI = upds F1 [(0, l_v), (1, vI copies), (2, vI first), (8, vo0_8), (9, vI ((k : Nat) : Int)), (35, undef)]) ∧ St w O wI B ∧ Own Enc.holding 47 w.heap.size (B ++ O) wI vo0_8 (holdsM l first k) ∧ (∀ b, vo0_8.ownBlock = some b → b ∈ B) ∧ RdL Enc.devop wI (B ++ O) (l_v) (l)) (copies.toNat - (0)) ?_ ?_
    ·exact ⟨(0), v2621, (b2623 :: []), (by omega), rfl, ⟨_, upds_self _ ⟨rfl, rfl, rfl, rfl, (by first | rfl | exact congrArg (Value.int _) (by first | omega | (simp))), rfl, trivial⟩⟩, s2618, (by rw [show holdsM l first (0) = [] from rfl]; exact hl2622), hB2626, h_l⟩
    ·intro ml0 F wl0 hI
     clear h_l
     obtain ⟨k, vo0_8, Bl0, hr0_0, hm0, ⟨Fl0, rfl⟩, sl0, ho0_8, hB0_8, h_l⟩ := hI
     refine cw_seq (?_)
     refine cw_seq (?_)
     refine cw_region (by kernel_rfl) (wl_s (o_move (vI ((k : Nat) : Int)) rfl (wl_s (o_move (vI copies) rfl (wl_s (o_lss .i64 ((k : Nat) : Int) copies rfl rfl (wl_nil (thenQ_n (?_)))))))))
     refine cw_cond (decide (((k : Nat) : Int) < copies)) rfl rfl (fun hc2627 => ?_) (fun hc2627 => ?_)
     ·have hp2628 : ((k : Nat) : Int) < copies := by first | simpa using hc2627 | (have e := hc2627; simp at e; omega)
      refine cw_skip (thenQ_n (?_))
      refine cw_seq (?_)
      refine cw_block (?_)
      refine cw_region (by kernel_rfl) (wl_s (o_move (vo0_8) rfl (wl_s (o_move (l_v) rfl (wl_s (o_move (vI ((k : Nat) : Int)) rfl (wl_s (o_move (vI first) rfl (wl_s (o_callK (vs := [l_v, vI ((k : Nat) : Int), vI first]) enter_76 (c_refHold (O := Bl0 ++ O) l_v l ((k : Nat) : Int) first wl0 h_l hchk sl0.lt) rfl sl0 fun v2629 w2630 s2631 m2632 k2633 r2634 => (?_)))))))))))
      obtain ⟨cs2635, rfl, hs2636⟩ := r2634
      obtain rfl := hs2636
      have h_l := h_l.mv m2632
      have ho0_8 := ho0_8.mv m2632 k2633 (by simp)
      refine wl_s (o_lit (E := Enc.holding) (xs := [.tmp 31]) Try.underlying43 s_47 z_47 (by decide) [.agg #[vI ((holdM l first ((k : Nat) : Int)).copy), vI ((holdM l first ((k : Nat) : Int)).device), vI ((holdM l first ((k : Nat) : Int)).token), Value.bool ((holdM l first ((k : Nat) : Int)).shown)]] [[vI ((holdM l first ((k : Nat) : Int)).copy), vI ((holdM l first ((k : Nat) : Int)).device), vI ((holdM l first ((k : Nat) : Int)).token), Value.bool ((holdM l first ((k : Nat) : Int)).shown)]] [(holdM l first ((k : Nat) : Int))] rfl rfl rfl (Parts.cons rfl rfl (Parts.nil _ _ _)) (of_decide_eq_true rfl) s2631 fun v2641 w2637 s2638 m2639 k2640 hl2642 => (?_))
      have h_l := h_l.mv m2639
      have ho0_8 := ho0_8.mv m2639 k2640 (by simp)
      have := hl2642.len_le
      refine wl_s (o_append (E := Enc.holding) (l := holdsM l first k) (m := [(holdM l first ((k : Nat) : Int))]) Try.underlying43 i_47 rfl (by decide) rfl rfl ho0_8 hl2642 (fun _ hb => .inl hb) hB0_8 (by rw [holdsM_len]; simp; omega) (by rw [holdsM_len]; simp [maxLen]; omega) s2638 fun v2647 w2643 B2649 hB2650 at2651 sub2652 s2644 m2645 k2646 ho2648 => (?_))
      have h_l := h_l.mv m2645
      refine wl_s (o_assign (v2647) rfl (wl_nil (blockQ_n (thenQ_n (?_)))))
      refine cw_region (by kernel_rfl) (wl_s (o_move (vI ((k : Nat) : Int)) rfl (wl_s (o_add .i64 ((k : Nat) : Int) (1 : Int) (((k + 1 : Nat) : Int)) rfl rfl (w64 (by omega) (by omega)) (wl_s (o_assign (vI ((k + 1 : Nat) : Int)) rfl (wl_nil (thenQ_n (?_)))))))))
      exact ⟨_, (by omega), (k + 1), v2647, B2649, (by omega), rfl, ⟨_, upds_self _ ⟨rfl, rfl, rfl, rfl, (by first | rfl | exact congrArg (Value.int _) (by first | omega | (simp))), rfl, trivial⟩⟩, s2644, (by rw [show holdsM l first (k + 1) = (holdsM l first k) ++ ([(holdM l first ((k : Nat) : Int))]) from holdsM_succ l first k]; exact ho2648), hB2650, h_l⟩
     ·have hp2653 : copies ≤ ((k : Nat) : Int) := by first | simpa using hc2627 | (have e := hc2627; simp at e; omega)
      obtain rfl : k = copies.toNat := by omega
      refine cw_exit (thenQ_x (thenQ_x (blockQ_x (thenQ_n (?_)))))
      refine cw_seq (?_)
      refine cw_region (by kernel_rfl) (wl_s (o_move (vo0_8) rfl (wl_s (o_assign (vo0_8) rfl (wl_s (o_assign (vI (0 : Int)) rfl (wl_nil (thenQ_n (?_)))))))))
      refine cw_ret (end_r rfl (res2 rfl rfl rfl rfl) (?_))
      have e2654 : ((stateM l copies first).1) = (holdsM l first copies.toNat) := by first | exact congrArg (fun p => p.1) (show stateM l copies first = _ from state_1 (by assumption)) | exact congrArg (fun p => p.1) (show stateM l copies first = _ from rstate_2 (by assumption) (by assumption)) | exact congrArg (fun p => p.1) (show stateM l copies first = _ from state_4 (by assumption) (by assumption)) | exact congrArg (fun p => p.1) (show stateM l copies first = _ from rstate_5 (by assumption) (by assumption) (by assumption))
      have e2655 : ((stateM l copies first).2) = (0 : Int) := by first | exact congrArg (fun p => p.2) (show stateM l copies first = _ from state_1 (by assumption)) | exact congrArg (fun p => p.2) (show stateM l copies first = _ from rstate_2 (by assumption) (by assumption)) | exact congrArg (fun p => p.2) (show stateM l copies first = _ from state_4 (by assumption) (by assumption)) | exact congrArg (fun p => p.2) (show stateM l copies first = _ from rstate_5 (by assumption) (by assumption) (by assumption))
      exact ⟨_, rfl, sl0.keep, by rw [e2654, e2655]; exact ⟨vo0_8, rfl, ho0_8.pub sl0⟩⟩
  ·have hp2656 : (inD copies (0 : Int) (1024 : Int)) = false := by first | simpa using hb2604 | (have e := hb2604; simp at e; omega)
   refine wl_k rfl (wl_k rfl (wl_k rfl (wl_s (o_pickT (Value.bool true) rfl rfl (wl_nil (thenQ_n (?_)))))))
   refine cw_cond true rfl rfl (fun _ => ?_) (fun h => by cases h)
   refine cw_seq (?_)
   refine cw_region (by kernel_rfl) (wl_s (o_assign (Value.slice none 0 0) rfl (wl_s (o_assign (vI (1 : Int)) rfl (wl_nil (thenQ_n (?_)))))))
   refine cw_ret (thenQ_r (end_r rfl (res2 rfl rfl rfl rfl) (?_)))
   have e2657 : ((stateM l copies first).1) = ([]) := by first | exact congrArg (fun p => p.1) (show stateM l copies first = _ from state_1 (by assumption)) | exact congrArg (fun p => p.1) (show stateM l copies first = _ from rstate_2 (by assumption) (by assumption)) | exact congrArg (fun p => p.1) (show stateM l copies first = _ from state_4 (by assumption) (by assumption)) | exact congrArg (fun p => p.1) (show stateM l copies first = _ from rstate_5 (by assumption) (by assumption) (by assumption))
   have e2658 : ((stateM l copies first).2) = (1 : Int) := by first | exact congrArg (fun p => p.2) (show stateM l copies first = _ from state_1 (by assumption)) | exact congrArg (fun p => p.2) (show stateM l copies first = _ from rstate_2 (by assumption) (by assumption)) | exact congrArg (fun p => p.2) (show stateM l copies first = _ from state_4 (by assumption) (by assumption)) | exact congrArg (fun p => p.2) (show stateM l copies first = _ from rstate_5 (by assumption) (by assumption) (by assumption))
   exact ⟨_, rfl, s2600.keep, by rw [e2657, e2658]; exact ⟨.slice none 0 0, rfl, RdL.nil _ _ _⟩⟩
set_option maxHeartbeats 4000000 in
set_option maxRecDepth 100000 in
theorem c_refMay {O : List Nat} (l_v : Value) (l : List DeviceOp) (copies : Int) (first : Int) (device : Int) (copy : Int) (w : World) (h_l : RdL Enc.devop w O l_v l) (hO : ∀ b ∈ O, b < w.heap.size) : CallsK Try.prog 35 [l_v, vI copies, vI first, vI device, vI copy] w (fun v _ => v = .tuple #[.bool ((mayM l copies first device copy).1), vI ((mayM l copies first device copy).2)]) :=  by
 have lim_l := h_l.len_le
 have h_l : RdL Enc.devop w ([] ++ O) l_v l := h_l
 have s0 : St w O w [] := St.start hO
 refine callsK_of 49 Try.func35 rfl rfl (of_decide_eq_true rfl) (fun F0 => ?_)
 refine cw_seq (?_)
 refine cw_region (by kernel_rfl) (wl_s (o_assign (Value.bool false) rfl (wl_s (o_assign (vI (0 : Int)) rfl (wl_nil (thenQ_n (?_)))))))
 refine cw_seq (?_)
 refine cw_region (by kernel_rfl) (wl_s (o_move (l_v) rfl (wl_s (o_move (vI copies) rfl (wl_s (o_move (vI first) rfl (wl_s (o_callK (vs := [l_v, vI copies, vI first]) enter_33 (c_refState (O := [] ++ O) l_v l copies first w h_l s0.lt) rfl s0 fun v2659 w2660 s2661 m2662 k2663 r2664 => (?_)))))))))
 obtain ⟨x2665, rfl, hl2666⟩ := r2664
 have := hl2666.len_le
 refine wl_s (o_move (Value.tuple #[x2665, vI ((stateM l copies first).2)]) rfl (wl_s (o_extract (x2665) rfl rfl (wl_s (o_extract (vI ((stateM l copies first).2)) rfl rfl (wl_s (o_assign (x2665) rfl (wl_s (o_assign (vI ((stateM l copies first).2)) rfl (wl_nil (thenQ_n (?_))))))))))))
 refine cw_seq (?_)
 refine cw_seq (?_)
 refine cw_region (by kernel_rfl) (wl_s (o_move (vI ((stateM l copies first).2)) rfl (wl_s (o_neq .i64 ((stateM l copies first).2) (0 : Int) rfl rfl (wl_nil (thenQ_n (?_)))))))
 refine cw_cond (((stateM l copies first).2) != (0 : Int)) rfl rfl (fun hc2667 => ?_) (fun hc2667 => ?_)
 ·have hp2668 : (stateM l copies first).2 ≠ (0 : Int) := by first | simpa using hc2667 | (have e := hc2667; simp at e; omega)
  refine cw_seq (?_)
  refine cw_region (by kernel_rfl) (wl_s (o_move (vI ((stateM l copies first).2)) rfl (wl_s (o_assign (Value.bool false) rfl (wl_s (o_assign (vI ((stateM l copies first).2)) rfl (wl_nil (thenQ_n (?_)))))))))
  refine cw_ret (thenQ_r (end_r rfl (res2 rfl rfl rfl rfl) (?_)))
  have e2669 : ((mayM l copies first device copy).1) = false := by first | exact congrArg (fun p => p.1) (show mayM l copies first device copy = _ from may_1 (by assumption)) | exact congrArg (fun p => p.1) (show mayM l copies first device copy = _ from may_2 (by assumption) (.inl (by assumption))) | exact congrArg (fun p => p.1) (show mayM l copies first device copy = _ from may_2 (by assumption) (.inr (inD_f (by assumption)))) | exact congrArg (fun p => p.1) (show mayM l copies first device copy = _ from may_3 (by assumption) (by assumption) (by omega) (by omega) (by assumption)) | exact congrArg (fun p => p.1) (show mayM l copies first device copy = _ from may_4 (by assumption) (by assumption) (by omega) (by omega) (by assumption))
  have e2670 : ((mayM l copies first device copy).2) = ((stateM l copies first).2) := by first | exact congrArg (fun p => p.2) (show mayM l copies first device copy = _ from may_1 (by assumption)) | exact congrArg (fun p => p.2) (show mayM l copies first device copy = _ from may_2 (by assumption) (.inl (by assumption))) | exact congrArg (fun p => p.2) (show mayM l copies first device copy = _ from may_2 (by assumption) (.inr (inD_f (by assumption)))) | exact congrArg (fun p => p.2) (show mayM l copies first device copy = _ from may_3 (by assumption) (by assumption) (by omega) (by omega) (by assumption)) | exact congrArg (fun p => p.2) (show mayM l copies first device copy = _ from may_4 (by assumption) (by assumption) (by omega) (by omega) (by assumption))
  exact ⟨_, rfl, s2661.keep, by rw [e2669, e2670]; exact rfl⟩
 ·have hp2671 : (stateM l copies first).2 = (0 : Int) := by first | simpa using hc2667 | (have e := hc2667; simp at e; omega)
  have hst : (stateM l copies first).2 = 0 := hp2671
  have hsl := state_len hst
  have hsb := (state_ok hst).2.2
  refine cw_skip (thenQ_n (?_))
  refine cw_seq (?_)
  refine cw_seq (?_)
  refine cw_region (by kernel_rfl) (wl_s (o_move (vI device) rfl (wl_s (o_callK (vs := [vI device]) enter_75 (c_refDev (O := [] ++ O) device w2660 s2661.lt) rfl s2661 fun v2672 w2673 s2674 m2675 k2676 r2677 => (?_)))))
  obtain rfl := r2677
  have hl2666 := hl2666.mv m2675
  refine wl_s (o_not (isDevM device) rfl (wl_s (o_move (Value.bool (!(isDevM device))) rfl (?_))))
  cases hb2678 : (!(isDevM device))
  ·have hp2679 : (isDevM device) = true := by first | simpa using hb2678 | (have e := hb2678; simp at e; omega)
   refine wl_t rfl (o_move (vI copy) rfl (wl_t rfl (o_move (vI copies) rfl (wl_t rfl (o_sub .i64 copies (1 : Int) (copies - (1 : Int)) rfl rfl (w64 (by omega) (by omega)) (wl_t rfl (o_callK (vs := [vI copy, vI (0 : Int), vI (copies - (1 : Int))]) enter_74 (c_in (O := [] ++ O) copy (0 : Int) (copies - (1 : Int)) w2673 s2674.lt) rfl s2674 fun v2680 w2681 s2682 m2683 k2684 r2685 => (?_))))))))
   obtain rfl := r2685
   have hl2666 := hl2666.mv m2683
   refine wl_t rfl (o_not (inD copy (0 : Int) (copies - (1 : Int))) rfl (wl_s (o_pickF (Value.bool (!(inD copy (0 : Int) (copies - (1 : Int))))) rfl rfl (wl_nil (thenQ_n (?_))))))
   refine cw_cond (!(inD copy (0 : Int) (copies - (1 : Int)))) rfl rfl (fun hc2686 => ?_) (fun hc2686 => ?_)
   ·have hp2687 : (inD copy (0 : Int) (copies - (1 : Int))) = false := by first | simpa using hc2686 | (have e := hc2686; simp at e; omega)
    refine cw_seq (?_)
    refine cw_region (by kernel_rfl) (wl_s (o_assign (Value.bool false) rfl (wl_s (o_assign (vI (1 : Int)) rfl (wl_nil (thenQ_n (?_)))))))
    refine cw_ret (thenQ_r (end_r rfl (res2 rfl rfl rfl rfl) (?_)))
    have e2688 : ((mayM l copies first device copy).1) = false := by first | exact congrArg (fun p => p.1) (show mayM l copies first device copy = _ from may_1 (by assumption)) | exact congrArg (fun p => p.1) (show mayM l copies first device copy = _ from may_2 (by assumption) (.inl (by assumption))) | exact congrArg (fun p => p.1) (show mayM l copies first device copy = _ from may_2 (by assumption) (.inr (inD_f (by assumption)))) | exact congrArg (fun p => p.1) (show mayM l copies first device copy = _ from may_3 (by assumption) (by assumption) (by omega) (by omega) (by assumption)) | exact congrArg (fun p => p.1) (show mayM l copies first device copy = _ from may_4 (by assumption) (by assumption) (by omega) (by omega) (by assumption))
    have e2689 : ((mayM l copies first device copy).2) = (1 : Int) := by first | exact congrArg (fun p => p.2) (show mayM l copies first device copy = _ from may_1 (by assumption)) | exact congrArg (fun p => p.2) (show mayM l copies first device copy = _ from may_2 (by assumption) (.inl (by assumption))) | exact congrArg (fun p => p.2) (show mayM l copies first device copy = _ from may_2 (by assumption) (.inr (inD_f (by assumption)))) | exact congrArg (fun p => p.2) (show mayM l copies first device copy = _ from may_3 (by assumption) (by assumption) (by omega) (by omega) (by assumption)) | exact congrArg (fun p => p.2) (show mayM l copies first device copy = _ from may_4 (by assumption) (by assumption) (by omega) (by omega) (by assumption))
    exact ⟨_, rfl, s2682.keep, by rw [e2688, e2689]; exact rfl⟩
   ·have hp2690 : (inD copy (0 : Int) (copies - (1 : Int))) = true := by first | simpa using hc2686 | (have e := hc2686; simp at e; omega)
    have hin := inD_t hp2690
    refine cw_skip (thenQ_n (?_))
    refine cw_seq (?_)
    refine cw_region (by kernel_rfl) (wl_s (o_move (x2665) rfl (wl_s (o_move (vI copy) rfl (wl_s (o_idx Try.underlying43 s_47 .i64 copy copy.toNat rfl rfl (by omega) hl2666 (by omega) fun a2691 hp2692 => (wl_s (o_fieldR 1 f_47_1 ((((stateM l copies first).1)[copy.toNat]!).device) rfl hp2692 (fun _ _ _ h => Enc_holding_f1 h) fun a2693 hp2694 => (wl_s (o_loadI Try.underlying3 rfl rfl hp2694 (wl_s (o_move (vI device) rfl (wl_s (o_eql .i64 ((((stateM l copies first).1)[copy.toNat]!).device) device rfl rfl (wl_s (o_move (Value.bool (((((stateM l copies first).1)[copy.toNat]!).device) == device)) rfl (?_)))))))))))))))))
    cases hb2695 : (((((stateM l copies first).1)[copy.toNat]!).device) == device)
    ·have hp2696 : (((stateM l copies first).1)[copy.toNat]!).device ≠ device := by first | simpa using hb2695 | (have e := hb2695; simp at e; omega)
     refine wl_k rfl (wl_k rfl (wl_k rfl (wl_k rfl (wl_k rfl (wl_k rfl (wl_s (o_pickF (Value.bool false) rfl rfl (wl_s (o_assign (Value.bool false) rfl (wl_s (o_assign (vI (0 : Int)) rfl (wl_nil (thenQ_n (?_))))))))))))))
     refine cw_ret (end_r rfl (res2 rfl rfl rfl rfl) (?_))
     have e2697 : ((mayM l copies first device copy).1) = false := by first | exact congrArg (fun p => p.1) (show mayM l copies first device copy = _ from may_1 (by assumption)) | exact congrArg (fun p => p.1) (show mayM l copies first device copy = _ from may_2 (by assumption) (.inl (by assumption))) | exact congrArg (fun p => p.1) (show mayM l copies first device copy = _ from may_2 (by assumption) (.inr (inD_f (by assumption)))) | exact congrArg (fun p => p.1) (show mayM l copies first device copy = _ from may_3 (by assumption) (by assumption) (by omega) (by omega) (by assumption)) | exact congrArg (fun p => p.1) (show mayM l copies first device copy = _ from may_4 (by assumption) (by assumption) (by omega) (by omega) (by assumption))
     have e2698 : ((mayM l copies first device copy).2) = (0 : Int) := by first | exact congrArg (fun p => p.2) (show mayM l copies first device copy = _ from may_1 (by assumption)) | exact congrArg (fun p => p.2) (show mayM l copies first device copy = _ from may_2 (by assumption) (.inl (by assumption))) | exact congrArg (fun p => p.2) (show mayM l copies first device copy = _ from may_2 (by assumption) (.inr (inD_f (by assumption)))) | exact congrArg (fun p => p.2) (show mayM l copies first device copy = _ from may_3 (by assumption) (by assumption) (by omega) (by omega) (by assumption)) | exact congrArg (fun p => p.2) (show mayM l copies first device copy = _ from may_4 (by assumption) (by assumption) (by omega) (by omega) (by assumption))
     exact ⟨_, rfl, s2682.keep, by rw [e2697, e2698]; exact rfl⟩
    ·have hp2699 : (((stateM l copies first).1)[copy.toNat]!).device = device := by first | simpa using hb2695 | (have e := hb2695; simp at e; omega)
     refine wl_t rfl (o_move (x2665) rfl (wl_t rfl (o_move (vI copy) rfl (wl_t rfl (o_idx Try.underlying43 s_47 .i64 copy copy.toNat rfl rfl (by omega) hl2666 (by omega) fun a2700 hp2701 => (wl_t rfl (o_fieldR 3 f_47_3 ((((stateM l copies first).1)[copy.toNat]!).shown) rfl hp2701 (fun _ _ _ h => Enc_holding_f3 h) fun a2702 hp2703 => (wl_t rfl (o_loadT Try.underlying4 rfl rfl hp2703 (wl_t rfl (o_not ((((stateM l copies first).1)[copy.toNat]!).shown) rfl (wl_s (o_pickT (Value.bool (!((((stateM l copies first).1)[copy.toNat]!).shown))) rfl rfl (wl_s (o_assign (Value.bool (!((((stateM l copies first).1)[copy.toNat]!).shown))) rfl (wl_s (o_assign (vI (0 : Int)) rfl (wl_nil (thenQ_n (?_))))))))))))))))))))
     refine cw_ret (end_r rfl (res2 rfl rfl rfl rfl) (?_))
     have e2704 : ((mayM l copies first device copy).1) = (!((((stateM l copies first).1)[copy.toNat]!).shown)) := by first | exact congrArg (fun p => p.1) (show mayM l copies first device copy = _ from may_1 (by assumption)) | exact congrArg (fun p => p.1) (show mayM l copies first device copy = _ from may_2 (by assumption) (.inl (by assumption))) | exact congrArg (fun p => p.1) (show mayM l copies first device copy = _ from may_2 (by assumption) (.inr (inD_f (by assumption)))) | exact congrArg (fun p => p.1) (show mayM l copies first device copy = _ from may_3 (by assumption) (by assumption) (by omega) (by omega) (by assumption)) | exact congrArg (fun p => p.1) (show mayM l copies first device copy = _ from may_4 (by assumption) (by assumption) (by omega) (by omega) (by assumption))
     have e2705 : ((mayM l copies first device copy).2) = (0 : Int) := by first | exact congrArg (fun p => p.2) (show mayM l copies first device copy = _ from may_1 (by assumption)) | exact congrArg (fun p => p.2) (show mayM l copies first device copy = _ from may_2 (by assumption) (.inl (by assumption))) | exact congrArg (fun p => p.2) (show mayM l copies first device copy = _ from may_2 (by assumption) (.inr (inD_f (by assumption)))) | exact congrArg (fun p => p.2) (show mayM l copies first device copy = _ from may_3 (by assumption) (by assumption) (by omega) (by omega) (by assumption)) | exact congrArg (fun p => p.2) (show mayM l copies first device copy = _ from may_4 (by assumption) (by assumption) (by omega) (by omega) (by assumption))
     exact ⟨_, rfl, s2682.keep, by rw [e2704, e2705]; exact rfl⟩
  ·have hp2706 : (isDevM device) = false := by first | simpa using hb2678 | (have e := hb2678; simp at e; omega)
   refine wl_k rfl (wl_k rfl (wl_k rfl (wl_k rfl (wl_k rfl (wl_s (o_pickT (Value.bool true) rfl rfl (wl_nil (thenQ_n (?_)))))))))
   refine cw_cond true rfl rfl (fun _ => ?_) (fun h => by cases h)
   refine cw_seq (?_)
   refine cw_region (by kernel_rfl) (wl_s (o_assign (Value.bool false) rfl (wl_s (o_assign (vI (1 : Int)) rfl (wl_nil (thenQ_n (?_)))))))
   refine cw_ret (thenQ_r (end_r rfl (res2 rfl rfl rfl rfl) (?_)))
   have e2707 : ((mayM l copies first device copy).1) = false := by first | exact congrArg (fun p => p.1) (show mayM l copies first device copy = _ from may_1 (by assumption)) | exact congrArg (fun p => p.1) (show mayM l copies first device copy = _ from may_2 (by assumption) (.inl (by assumption))) | exact congrArg (fun p => p.1) (show mayM l copies first device copy = _ from may_2 (by assumption) (.inr (inD_f (by assumption)))) | exact congrArg (fun p => p.1) (show mayM l copies first device copy = _ from may_3 (by assumption) (by assumption) (by omega) (by omega) (by assumption)) | exact congrArg (fun p => p.1) (show mayM l copies first device copy = _ from may_4 (by assumption) (by assumption) (by omega) (by omega) (by assumption))
   have e2708 : ((mayM l copies first device copy).2) = (1 : Int) := by first | exact congrArg (fun p => p.2) (show mayM l copies first device copy = _ from may_1 (by assumption)) | exact congrArg (fun p => p.2) (show mayM l copies first device copy = _ from may_2 (by assumption) (.inl (by assumption))) | exact congrArg (fun p => p.2) (show mayM l copies first device copy = _ from may_2 (by assumption) (.inr (inD_f (by assumption)))) | exact congrArg (fun p => p.2) (show mayM l copies first device copy = _ from may_3 (by assumption) (by assumption) (by omega) (by omega) (by assumption)) | exact congrArg (fun p => p.2) (show mayM l copies first device copy = _ from may_4 (by assumption) (by assumption) (by omega) (by omega) (by assumption))
   exact ⟨_, rfl, s2674.keep, by rw [e2707, e2708]; exact rfl⟩
set_option maxHeartbeats 4000000 in
set_option maxRecDepth 100000 in
theorem c_same {O : List Nat} (la_v : Value) (la : List DeviceOp) (lb_v : Value) (lb : List DeviceOp) (w : World) (h_la : RdL Enc.devop w O la_v la) (h_lb : RdL Enc.devop w O lb_v lb) (hO : ∀ b ∈ O, b < w.heap.size) : CallsK Try.prog 28 [la_v, lb_v] w (fun v _ => v = .bool (la == lb)) :=  by
 have lim_la := h_la.len_le
 have h_la : RdL Enc.devop w ([] ++ O) la_v la := h_la
 have lim_lb := h_lb.len_le
 have h_lb : RdL Enc.devop w ([] ++ O) lb_v lb := h_lb
 have s0 : St w O w [] := St.start hO
 refine callsK_of 26 Try.func28 rfl rfl (of_decide_eq_true rfl) (fun F0 => ?_)
 refine cw_seq (?_)
 refine cw_region (by kernel_rfl) (wl_s (o_assign (Value.bool false) rfl (wl_nil (thenQ_n (?_)))))
 refine cw_seq (?_)
 refine cw_seq (?_)
 refine cw_region (by kernel_rfl) (wl_s (o_move (la_v) rfl (wl_s (o_lenR Try.underlying26 rfl h_la (wl_s (o_move (lb_v) rfl (wl_s (o_lenR Try.underlying26 rfl h_lb (wl_s (o_neq .i64 (la.length : Int) (lb.length : Int) rfl rfl (wl_nil (thenQ_n (?_)))))))))))))
 refine cw_cond ((la.length : Int) != (lb.length : Int)) rfl rfl (fun hc2709 => ?_) (fun hc2709 => ?_)
 ·have hp2710 : (la.length : Int) ≠ (lb.length : Int) := by first | simpa using hc2709 | (have e := hc2709; simp at e; omega)
  refine cw_seq (?_)
  refine cw_region (by kernel_rfl) (wl_s (o_assign (Value.bool false) rfl (wl_nil (thenQ_n (?_)))))
  refine cw_ret (thenQ_r (end_r rfl (res1 rfl rfl rfl) (?_)))
  have e : (la == lb) = false := by first | exact same_len (by assumption) | exact same_at (k := k) (by assumption) | exact same_end (by assumption) hr0_1
  exact ⟨_, rfl, s0.keep, by rw [e]; exact rfl⟩
 ·have hp2711 : (la.length : Int) = (lb.length : Int) := by first | simpa using hc2709 | (have e := hc2709; simp at e; omega)
  refine cw_skip (thenQ_n (?_))
  refine cw_seq (?_)
  refine cw_seq (?_)
  refine cw_region (by kernel_rfl) (wl_s (o_assign (vI (0 : Int)) rfl (wl_nil (thenQ_n (?_)))))
  refine cw_block (?_)
  refine cw_loop (fun mI FI wI => ∃ (k : Nat) (B : List Nat), k ≤ la.length ∧ (∀ q, q < k → la[q]! = lb[q]!) ∧ mI = la.length - k ∧ (∃ F1, FI = upds F1 [(0, la_v), (1, lb_v), (5, vI ((k : Nat) : Int)), (26, undef)]) ∧ St w O wI B ∧ RdL Enc.devop wI (B ++ O) (la_v) (la) ∧ RdL Enc.devop wI (B ++ O) (lb_v) (lb)) (la.length - (0)) ?_ ?_
  ·exact ⟨(0), [], (by omega), (fun q hq => by omega), rfl, ⟨_, upds_self _ ⟨rfl, rfl, (by first | rfl | exact congrArg (Value.int _) (by first | omega | (simp))), rfl, trivial⟩⟩, s0, h_la, h_lb⟩
  ·intro ml0 F wl0 hI
   clear h_la h_lb
   obtain ⟨k, Bl0, hr0_0, hr0_1, hm0, ⟨Fl0, rfl⟩, sl0, h_la, h_lb⟩ := hI
   refine cw_seq (?_)
   refine cw_seq (?_)
   refine cw_region (by kernel_rfl) (wl_s (o_move (vI ((k : Nat) : Int)) rfl (wl_s (o_move (la_v) rfl (wl_s (o_lenR Try.underlying26 rfl h_la (wl_s (o_lss .i64 ((k : Nat) : Int) (la.length : Int) rfl rfl (wl_nil (thenQ_n (?_)))))))))))
   refine cw_cond (decide (((k : Nat) : Int) < (la.length : Int))) rfl rfl (fun hc2712 => ?_) (fun hc2712 => ?_)
   ·have hp2713 : ((k : Nat) : Int) < (la.length : Int) := by first | simpa using hc2712 | (have e := hc2712; simp at e; omega)
    refine cw_skip (thenQ_n (?_))
    refine cw_seq (?_)
    refine cw_block (?_)
    refine cw_seq (?_)
    refine cw_draw' 8 _ _ [fun (vT : Value) (wT : World) => RdL Enc.devop wT (Bl0 ++ O) vT (la), isV (vI ((k : Nat) : Int)), fun (vT : Value) (wT : World) => ∃ aT, vT = .pointer (some aT) ∧ PT Enc.devop wT (Bl0 ++ O) (.pointer (some aT)) (la[k]!), isV (Value.agg #[vI ((la[k]!).device), vI ((la[k]!).no), vI ((la[k]!).kind), vI ((la[k]!).copy), vI ((la[k]!).to), vI ((la[k]!).token)]), fun (vT : Value) (wT : World) => RdL Enc.devop wT (Bl0 ++ O) vT (lb), isV (vI ((k : Nat) : Int)), fun (vT : Value) (wT : World) => ∃ aT, vT = .pointer (some aT) ∧ PT Enc.devop wT (Bl0 ++ O) (.pointer (some aT)) (lb[k]!), isV (Value.agg #[vI ((lb[k]!).device), vI ((lb[k]!).no), vI ((lb[k]!).kind), vI ((lb[k]!).copy), vI ((lb[k]!).to), vI ((lb[k]!).token)])] (by kernel_rfl) (by kernel_rfl) (by kernel_rfl) (by kernel_rfl) rfl rfl ⟨fun _ _ _ h k => h.mv (Mv.of_keep k), kI, fun _ _ _ ⟨a, e, h⟩ k => ⟨a, e, h.mv (Mv.of_keep k)⟩, kI, fun _ _ _ h k => h.mv (Mv.of_keep k), kI, fun _ _ _ ⟨a, e, h⟩ k => ⟨a, e, h.mv (Mv.of_keep k)⟩, kI, trivial⟩ ⟨?_, ?_, ?_, ?_, ?_, ?_, ?_, ?_, trivial⟩ ?_
    ·intro F1 w1 k1 hf hd
     have k0 := (Keep.drew [] wl0).trans k1
     have m1 : Mv Bl0 wl0 Bl0 w1 := Mv.of_keep k0
     have h_la := h_la.mv m1
     obtain ⟨F2, rfl⟩ := lit_of (F := F1) [(0, la_v)] ⟨hf 0 (by kernel_rfl), trivial⟩
     exact sp_plain rfl ((o_move (la_v) rfl (⟨(Keep.refl _ _), h_la⟩)))
    ·intro F1 w1 k1 hf hd
     obtain ⟨F2, rfl⟩ := lit_of (F := F1) [(5, vI ((k : Nat) : Int))] ⟨hf 5 (by kernel_rfl), trivial⟩
     exact sp_plain rfl ((o_move (vI ((k : Nat) : Int)) rfl (⟨(Keep.refl _ _), rfl⟩)))
    ·intro F1 w1 k1 hf hd
     obtain ⟨v2714, e2716, hl2715⟩ : ∃ v, F1 17 = v ∧ RdL Enc.devop w1 (Bl0 ++ O) v (la) := ⟨_, rfl, hd 0 17 (by kernel_rfl)⟩
     have := hl2715.len_le
     obtain ⟨F2, rfl⟩ := lit_of (F := F1) [(17, v2714), (18, vI ((k : Nat) : Int))] ⟨e2716, hd 1 18 (by kernel_rfl), trivial⟩
     exact sp_plain rfl ((o_idx Try.underlying26 s_40 .i64 ((k : Nat) : Int) k rfl rfl rfl hl2715 (by omega) fun a2717 hp2718 => (⟨(Keep.refl _ _), ⟨a2717, rfl, hp2718⟩⟩)))
    ·intro F1 w1 k1 hf hd
     obtain ⟨a2719, e2721, hp2720⟩ : ∃ aX_, F1 19 = .pointer (some aX_) ∧ PT Enc.devop w1 (Bl0 ++ O) (.pointer (some aX_)) (la[k]!) := hd 2 19 (by kernel_rfl)
     obtain ⟨F2, rfl⟩ := lit_of (F := F1) [(19, Value.pointer (some a2719))] ⟨e2721, trivial⟩
     refine sp_plain rfl ((o_loadS Try.underlying40 rfl s_40 rfl hp2720 fun cs2722 hs2723 => (?_)))
     obtain rfl := hs2723
     exact ⟨(Keep.refl _ _), rfl⟩
    ·intro F1 w1 k1 hf hd
     have k0 := (Keep.drew [] wl0).trans k1
     have m1 : Mv Bl0 wl0 Bl0 w1 := Mv.of_keep k0
     have h_lb := h_lb.mv m1
     obtain ⟨F2, rfl⟩ := lit_of (F := F1) [(1, lb_v)] ⟨hf 1 (by kernel_rfl), trivial⟩
     exact sp_plain rfl ((o_move (lb_v) rfl (⟨(Keep.refl _ _), h_lb⟩)))
    ·intro F1 w1 k1 hf hd
     obtain ⟨F2, rfl⟩ := lit_of (F := F1) [(5, vI ((k : Nat) : Int))] ⟨hf 5 (by kernel_rfl), trivial⟩
     exact sp_plain rfl ((o_move (vI ((k : Nat) : Int)) rfl (⟨(Keep.refl _ _), rfl⟩)))
    ·intro F1 w1 k1 hf hd
     obtain ⟨v2724, e2726, hl2725⟩ : ∃ v, F1 21 = v ∧ RdL Enc.devop w1 (Bl0 ++ O) v (lb) := ⟨_, rfl, hd 4 21 (by kernel_rfl)⟩
     have := hl2725.len_le
     obtain ⟨F2, rfl⟩ := lit_of (F := F1) [(21, v2724), (22, vI ((k : Nat) : Int))] ⟨e2726, hd 5 22 (by kernel_rfl), trivial⟩
     exact sp_plain rfl ((o_idx Try.underlying26 s_40 .i64 ((k : Nat) : Int) k rfl rfl rfl hl2725 (by omega) fun a2727 hp2728 => (⟨(Keep.refl _ _), ⟨a2727, rfl, hp2728⟩⟩)))
    ·intro F1 w1 k1 hf hd
     obtain ⟨a2729, e2731, hp2730⟩ : ∃ aX_, F1 23 = .pointer (some aX_) ∧ PT Enc.devop w1 (Bl0 ++ O) (.pointer (some aX_)) (lb[k]!) := hd 6 23 (by kernel_rfl)
     obtain ⟨F2, rfl⟩ := lit_of (F := F1) [(23, Value.pointer (some a2729))] ⟨e2731, trivial⟩
     refine sp_plain rfl ((o_loadS Try.underlying40 rfl s_40 rfl hp2730 fun cs2732 hs2733 => (?_)))
     obtain rfl := hs2733
     exact ⟨(Keep.refl _ _), rfl⟩
    intro F2735 w2736 k2734 hT2737 hF2738
    have s2739 := sl0.call k2734
    have m2740 : Mv Bl0 wl0 Bl0 w2736 := Mv.of_keep k2734
    have h_la := h_la.mv m2740
    have h_lb := h_lb.mv m2740
    obtain ⟨F2, rfl⟩ := lit_of (F := F2735) [(0, la_v), (1, lb_v), (5, vI ((k : Nat) : Int)), (26, undef), (20, Value.agg #[vI ((la[k]!).device), vI ((la[k]!).no), vI ((la[k]!).kind), vI ((la[k]!).copy), vI ((la[k]!).to), vI ((la[k]!).token)]), (24, Value.agg #[vI ((lb[k]!).device), vI ((lb[k]!).no), vI ((lb[k]!).kind), vI ((lb[k]!).copy), vI ((lb[k]!).to), vI ((lb[k]!).token)])] ⟨hF2738 0 (by kernel_rfl), hF2738 1 (by kernel_rfl), hF2738 5 (by kernel_rfl), hF2738 26 (by kernel_rfl), hT2737 3 20 (by kernel_rfl) (by decide), hT2737 7 24 (by kernel_rfl) (by decide), trivial⟩
    clear hT2737 hF2738
    refine wl_s (o_neqF (ks := [true, true, true, true, true, true]) [.inl ((la[k]!).device), .inl ((la[k]!).no), .inl ((la[k]!).kind), .inl ((la[k]!).copy), .inl ((la[k]!).to), .inl ((la[k]!).token)] [.inl ((lb[k]!).device), .inl ((lb[k]!).no), .inl ((lb[k]!).kind), .inl ((lb[k]!).copy), .inl ((lb[k]!).to), .inl ((lb[k]!).token)] str_devop flat_devop rfl rfl rfl rfl (congrArg not (cs_devop (la[k]!) (lb[k]!))) (wl_nil (thenQ_n (?_))))
    refine cw_cond ((la[k]!) != (lb[k]!)) rfl rfl (fun hc2743 => ?_) (fun hc2743 => ?_)
    ·have hp2744 : (la[k]!) ≠ (lb[k]!) := by first | simpa using hc2743 | (have e := hc2743; simp at e; omega)
     refine cw_seq (?_)
     refine cw_region (by kernel_rfl) (wl_s (o_assign (Value.bool false) rfl (wl_nil (thenQ_n (?_)))))
     refine cw_ret (blockQ_r (thenQ_r (thenQ_r (blockQ_r (thenQ_r (end_r rfl (res1 rfl rfl rfl) (?_)))))))
     have e : (la == lb) = false := by first | exact same_len (by assumption) | exact same_at (k := k) (by assumption) | exact same_end (by assumption) hr0_1
     exact ⟨_, rfl, s2739.keep, by rw [e]; exact rfl⟩
    ·have hp2745 : (la[k]!) = (lb[k]!) := by first | simpa using hc2743 | (have e := hc2743; simp at e; omega)
     refine cw_skip (blockQ_n (thenQ_n (?_)))
     refine cw_region (by kernel_rfl) (wl_s (o_move (vI ((k : Nat) : Int)) rfl (wl_s (o_add .i64 ((k : Nat) : Int) (1 : Int) (((k + 1 : Nat) : Int)) rfl rfl (w64 (by omega) (by omega)) (wl_s (o_assign (vI ((k + 1 : Nat) : Int)) rfl (wl_nil (thenQ_n (?_)))))))))
     exact ⟨_, (by omega), (k + 1), Bl0, (by omega), (eq_step hr0_1 (by assumption)), rfl, ⟨_, upds_self _ ⟨rfl, rfl, (by first | rfl | exact congrArg (Value.int _) (by first | omega | (simp))), rfl, trivial⟩⟩, s2739, h_la, h_lb⟩
   ·have hp2746 : (la.length : Int) ≤ ((k : Nat) : Int) := by first | simpa using hc2712 | (have e := hc2712; simp at e; omega)
    obtain rfl : k = la.length := by omega
    refine cw_exit (thenQ_x (thenQ_x (blockQ_x (thenQ_n (?_)))))
    refine cw_seq (?_)
    refine cw_region (by kernel_rfl) (wl_s (o_assign (Value.bool true) rfl (wl_nil (thenQ_n (?_)))))
    refine cw_ret (end_r rfl (res1 rfl rfl rfl) (?_))
    have e : (la == lb) = true := by first | exact same_len (by assumption) | exact same_at (k := k) (by assumption) | exact same_end (by assumption) hr0_1
    exact ⟨_, rfl, sl0.keep, by rw [e]; exact rfl⟩
set_option maxHeartbeats 4000000 in
set_option maxRecDepth 100000 in
theorem c_sameS {O : List Nat} (la_v : Value) (la : List Holding) (lb_v : Value) (lb : List Holding) (w : World) (h_la : RdL Enc.holding w O la_v la) (h_lb : RdL Enc.holding w O lb_v lb) (hO : ∀ b ∈ O, b < w.heap.size) : CallsK Try.prog 36 [la_v, lb_v] w (fun v _ => v = .bool (la == lb)) :=  by
 have lim_la := h_la.len_le
 have h_la : RdL Enc.holding w ([] ++ O) la_v la := h_la
 have lim_lb := h_lb.len_le
 have h_lb : RdL Enc.holding w ([] ++ O) lb_v lb := h_lb
 have s0 : St w O w [] := St.start hO
 refine callsK_of 26 Try.func36 rfl rfl (of_decide_eq_true rfl) (fun F0 => ?_)
 refine cw_seq (?_)
 refine cw_region (by kernel_rfl) (wl_s (o_assign (Value.bool false) rfl (wl_nil (thenQ_n (?_)))))
 refine cw_seq (?_)
 refine cw_seq (?_)
 refine cw_region (by kernel_rfl) (wl_s (o_move (la_v) rfl (wl_s (o_lenR Try.underlying43 rfl h_la (wl_s (o_move (lb_v) rfl (wl_s (o_lenR Try.underlying43 rfl h_lb (wl_s (o_neq .i64 (la.length : Int) (lb.length : Int) rfl rfl (wl_nil (thenQ_n (?_)))))))))))))
 refine cw_cond ((la.length : Int) != (lb.length : Int)) rfl rfl (fun hc2747 => ?_) (fun hc2747 => ?_)
 ·have hp2748 : (la.length : Int) ≠ (lb.length : Int) := by first | simpa using hc2747 | (have e := hc2747; simp at e; omega)
  refine cw_seq (?_)
  refine cw_region (by kernel_rfl) (wl_s (o_assign (Value.bool false) rfl (wl_nil (thenQ_n (?_)))))
  refine cw_ret (thenQ_r (end_r rfl (res1 rfl rfl rfl) (?_)))
  have e : (la == lb) = false := by first | exact same_len (by assumption) | exact same_at (k := k) (by assumption) | exact same_end (by assumption) hr0_1
  exact ⟨_, rfl, s0.keep, by rw [e]; exact rfl⟩
 ·have hp2749 : (la.length : Int) = (lb.length : Int) := by first | simpa using hc2747 | (have e := hc2747; simp at e; omega)
  refine cw_skip (thenQ_n (?_))
  refine cw_seq (?_)
  refine cw_seq (?_)
  refine cw_region (by kernel_rfl) (wl_s (o_assign (vI (0 : Int)) rfl (wl_nil (thenQ_n (?_)))))
  refine cw_block (?_)
  refine cw_loop (fun mI FI wI => ∃ (k : Nat) (B : List Nat), k ≤ la.length ∧ (∀ q, q < k → la[q]! = lb[q]!) ∧ mI = la.length - k ∧ (∃ F1, FI = upds F1 [(0, la_v), (1, lb_v), (5, vI ((k : Nat) : Int)), (26, undef)]) ∧ St w O wI B ∧ RdL Enc.holding wI (B ++ O) (la_v) (la) ∧ RdL Enc.holding wI (B ++ O) (lb_v) (lb)) (la.length - (0)) ?_ ?_
  ·exact ⟨(0), [], (by omega), (fun q hq => by omega), rfl, ⟨_, upds_self _ ⟨rfl, rfl, (by first | rfl | exact congrArg (Value.int _) (by first | omega | (simp))), rfl, trivial⟩⟩, s0, h_la, h_lb⟩
  ·intro ml0 F wl0 hI
   clear h_la h_lb
   obtain ⟨k, Bl0, hr0_0, hr0_1, hm0, ⟨Fl0, rfl⟩, sl0, h_la, h_lb⟩ := hI
   refine cw_seq (?_)
   refine cw_seq (?_)
   refine cw_region (by kernel_rfl) (wl_s (o_move (vI ((k : Nat) : Int)) rfl (wl_s (o_move (la_v) rfl (wl_s (o_lenR Try.underlying43 rfl h_la (wl_s (o_lss .i64 ((k : Nat) : Int) (la.length : Int) rfl rfl (wl_nil (thenQ_n (?_)))))))))))
   refine cw_cond (decide (((k : Nat) : Int) < (la.length : Int))) rfl rfl (fun hc2750 => ?_) (fun hc2750 => ?_)
   ·have hp2751 : ((k : Nat) : Int) < (la.length : Int) := by first | simpa using hc2750 | (have e := hc2750; simp at e; omega)
    refine cw_skip (thenQ_n (?_))
    refine cw_seq (?_)
    refine cw_block (?_)
    refine cw_seq (?_)
    refine cw_draw' 8 _ _ [fun (vT : Value) (wT : World) => RdL Enc.holding wT (Bl0 ++ O) vT (la), isV (vI ((k : Nat) : Int)), fun (vT : Value) (wT : World) => ∃ aT, vT = .pointer (some aT) ∧ PT Enc.holding wT (Bl0 ++ O) (.pointer (some aT)) (la[k]!), isV (Value.agg #[vI ((la[k]!).copy), vI ((la[k]!).device), vI ((la[k]!).token), Value.bool ((la[k]!).shown)]), fun (vT : Value) (wT : World) => RdL Enc.holding wT (Bl0 ++ O) vT (lb), isV (vI ((k : Nat) : Int)), fun (vT : Value) (wT : World) => ∃ aT, vT = .pointer (some aT) ∧ PT Enc.holding wT (Bl0 ++ O) (.pointer (some aT)) (lb[k]!), isV (Value.agg #[vI ((lb[k]!).copy), vI ((lb[k]!).device), vI ((lb[k]!).token), Value.bool ((lb[k]!).shown)])] (by kernel_rfl) (by kernel_rfl) (by kernel_rfl) (by kernel_rfl) rfl rfl ⟨fun _ _ _ h k => h.mv (Mv.of_keep k), kI, fun _ _ _ ⟨a, e, h⟩ k => ⟨a, e, h.mv (Mv.of_keep k)⟩, kI, fun _ _ _ h k => h.mv (Mv.of_keep k), kI, fun _ _ _ ⟨a, e, h⟩ k => ⟨a, e, h.mv (Mv.of_keep k)⟩, kI, trivial⟩ ⟨?_, ?_, ?_, ?_, ?_, ?_, ?_, ?_, trivial⟩ ?_
    ·intro F1 w1 k1 hf hd
     have k0 := (Keep.drew [] wl0).trans k1
     have m1 : Mv Bl0 wl0 Bl0 w1 := Mv.of_keep k0
     have h_la := h_la.mv m1
     obtain ⟨F2, rfl⟩ := lit_of (F := F1) [(0, la_v)] ⟨hf 0 (by kernel_rfl), trivial⟩
     exact sp_plain rfl ((o_move (la_v) rfl (⟨(Keep.refl _ _), h_la⟩)))
    ·intro F1 w1 k1 hf hd
     obtain ⟨F2, rfl⟩ := lit_of (F := F1) [(5, vI ((k : Nat) : Int))] ⟨hf 5 (by kernel_rfl), trivial⟩
     exact sp_plain rfl ((o_move (vI ((k : Nat) : Int)) rfl (⟨(Keep.refl _ _), rfl⟩)))
    ·intro F1 w1 k1 hf hd
     obtain ⟨v2752, e2754, hl2753⟩ : ∃ v, F1 17 = v ∧ RdL Enc.holding w1 (Bl0 ++ O) v (la) := ⟨_, rfl, hd 0 17 (by kernel_rfl)⟩
     have := hl2753.len_le
     obtain ⟨F2, rfl⟩ := lit_of (F := F1) [(17, v2752), (18, vI ((k : Nat) : Int))] ⟨e2754, hd 1 18 (by kernel_rfl), trivial⟩
     exact sp_plain rfl ((o_idx Try.underlying43 s_47 .i64 ((k : Nat) : Int) k rfl rfl rfl hl2753 (by omega) fun a2755 hp2756 => (⟨(Keep.refl _ _), ⟨a2755, rfl, hp2756⟩⟩)))
    ·intro F1 w1 k1 hf hd
     obtain ⟨a2757, e2759, hp2758⟩ : ∃ aX_, F1 19 = .pointer (some aX_) ∧ PT Enc.holding w1 (Bl0 ++ O) (.pointer (some aX_)) (la[k]!) := hd 2 19 (by kernel_rfl)
     obtain ⟨F2, rfl⟩ := lit_of (F := F1) [(19, Value.pointer (some a2757))] ⟨e2759, trivial⟩
     refine sp_plain rfl ((o_loadS Try.underlying47 rfl s_47 rfl hp2758 fun cs2760 hs2761 => (?_)))
     obtain rfl := hs2761
     exact ⟨(Keep.refl _ _), rfl⟩
    ·intro F1 w1 k1 hf hd
     have k0 := (Keep.drew [] wl0).trans k1
     have m1 : Mv Bl0 wl0 Bl0 w1 := Mv.of_keep k0
     have h_lb := h_lb.mv m1
     obtain ⟨F2, rfl⟩ := lit_of (F := F1) [(1, lb_v)] ⟨hf 1 (by kernel_rfl), trivial⟩
     exact sp_plain rfl ((o_move (lb_v) rfl (⟨(Keep.refl _ _), h_lb⟩)))
    ·intro F1 w1 k1 hf hd
     obtain ⟨F2, rfl⟩ := lit_of (F := F1) [(5, vI ((k : Nat) : Int))] ⟨hf 5 (by kernel_rfl), trivial⟩
     exact sp_plain rfl ((o_move (vI ((k : Nat) : Int)) rfl (⟨(Keep.refl _ _), rfl⟩)))
    ·intro F1 w1 k1 hf hd
     obtain ⟨v2762, e2764, hl2763⟩ : ∃ v, F1 21 = v ∧ RdL Enc.holding w1 (Bl0 ++ O) v (lb) := ⟨_, rfl, hd 4 21 (by kernel_rfl)⟩
     have := hl2763.len_le
     obtain ⟨F2, rfl⟩ := lit_of (F := F1) [(21, v2762), (22, vI ((k : Nat) : Int))] ⟨e2764, hd 5 22 (by kernel_rfl), trivial⟩
     exact sp_plain rfl ((o_idx Try.underlying43 s_47 .i64 ((k : Nat) : Int) k rfl rfl rfl hl2763 (by omega) fun a2765 hp2766 => (⟨(Keep.refl _ _), ⟨a2765, rfl, hp2766⟩⟩)))
    ·intro F1 w1 k1 hf hd
     obtain ⟨a2767, e2769, hp2768⟩ : ∃ aX_, F1 23 = .pointer (some aX_) ∧ PT Enc.holding w1 (Bl0 ++ O) (.pointer (some aX_)) (lb[k]!) := hd 6 23 (by kernel_rfl)
     obtain ⟨F2, rfl⟩ := lit_of (F := F1) [(23, Value.pointer (some a2767))] ⟨e2769, trivial⟩
     refine sp_plain rfl ((o_loadS Try.underlying47 rfl s_47 rfl hp2768 fun cs2770 hs2771 => (?_)))
     obtain rfl := hs2771
     exact ⟨(Keep.refl _ _), rfl⟩
    intro F2773 w2774 k2772 hT2775 hF2776
    have s2777 := sl0.call k2772
    have m2778 : Mv Bl0 wl0 Bl0 w2774 := Mv.of_keep k2772
    have h_la := h_la.mv m2778
    have h_lb := h_lb.mv m2778
    obtain ⟨F2, rfl⟩ := lit_of (F := F2773) [(0, la_v), (1, lb_v), (5, vI ((k : Nat) : Int)), (26, undef), (20, Value.agg #[vI ((la[k]!).copy), vI ((la[k]!).device), vI ((la[k]!).token), Value.bool ((la[k]!).shown)]), (24, Value.agg #[vI ((lb[k]!).copy), vI ((lb[k]!).device), vI ((lb[k]!).token), Value.bool ((lb[k]!).shown)])] ⟨hF2776 0 (by kernel_rfl), hF2776 1 (by kernel_rfl), hF2776 5 (by kernel_rfl), hF2776 26 (by kernel_rfl), hT2775 3 20 (by kernel_rfl) (by decide), hT2775 7 24 (by kernel_rfl) (by decide), trivial⟩
    clear hT2775 hF2776
    refine wl_s (o_neqF (ks := [true, true, true, false]) [.inl ((la[k]!).copy), .inl ((la[k]!).device), .inl ((la[k]!).token), .inr ((la[k]!).shown)] [.inl ((lb[k]!).copy), .inl ((lb[k]!).device), .inl ((lb[k]!).token), .inr ((lb[k]!).shown)] str_holding flat_holding rfl rfl rfl rfl (congrArg not (cs_holding (la[k]!) (lb[k]!))) (wl_nil (thenQ_n (?_))))
    refine cw_cond ((la[k]!) != (lb[k]!)) rfl rfl (fun hc2781 => ?_) (fun hc2781 => ?_)
    ·have hp2782 : (la[k]!) ≠ (lb[k]!) := by first | simpa using hc2781 | (have e := hc2781; simp at e; omega)
     refine cw_seq (?_)
     refine cw_region (by kernel_rfl) (wl_s (o_assign (Value.bool false) rfl (wl_nil (thenQ_n (?_)))))
     refine cw_ret (blockQ_r (thenQ_r (thenQ_r (blockQ_r (thenQ_r (end_r rfl (res1 rfl rfl rfl) (?_)))))))
     have e : (la == lb) = false := by first | exact same_len (by assumption) | exact same_at (k := k) (by assumption) | exact same_end (by assumption) hr0_1
     exact ⟨_, rfl, s2777.keep, by rw [e]; exact rfl⟩
    ·have hp2783 : (la[k]!) = (lb[k]!) := by first | simpa using hc2781 | (have e := hc2781; simp at e; omega)
     refine cw_skip (blockQ_n (thenQ_n (?_)))
     refine cw_region (by kernel_rfl) (wl_s (o_move (vI ((k : Nat) : Int)) rfl (wl_s (o_add .i64 ((k : Nat) : Int) (1 : Int) (((k + 1 : Nat) : Int)) rfl rfl (w64 (by omega) (by omega)) (wl_s (o_assign (vI ((k + 1 : Nat) : Int)) rfl (wl_nil (thenQ_n (?_)))))))))
     exact ⟨_, (by omega), (k + 1), Bl0, (by omega), (eq_step hr0_1 (by assumption)), rfl, ⟨_, upds_self _ ⟨rfl, rfl, (by first | rfl | exact congrArg (Value.int _) (by first | omega | (simp))), rfl, trivial⟩⟩, s2777, h_la, h_lb⟩
   ·have hp2784 : (la.length : Int) ≤ ((k : Nat) : Int) := by first | simpa using hc2750 | (have e := hc2750; simp at e; omega)
    obtain rfl : k = la.length := by omega
    refine cw_exit (thenQ_x (thenQ_x (blockQ_x (thenQ_n (?_)))))
    refine cw_seq (?_)
    refine cw_region (by kernel_rfl) (wl_s (o_assign (Value.bool true) rfl (wl_nil (thenQ_n (?_)))))
    refine cw_ret (end_r rfl (res1 rfl rfl rfl) (?_))
    have e : (la == lb) = true := by first | exact same_len (by assumption) | exact same_at (k := k) (by assumption) | exact same_end (by assumption) hr0_1
    exact ⟨_, rfl, sl0.keep, by rw [e]; exact rfl⟩
set_option maxHeartbeats 4000000 in
set_option maxRecDepth 100000 in
theorem c_few {O : List Nat} (l_v : Value) (l : List DeviceOp) (w : World) (h_l : RdL Enc.devop w O l_v l) (hO : ∀ b ∈ O, b < w.heap.size) : CallsK Try.prog 26 [l_v] w (fun v _ => v = .bool (decide ((l.length : Int) ≤ 40))) :=  by
 have lim_l := h_l.len_le
 have h_l : RdL Enc.devop w ([] ++ O) l_v l := h_l
 have s0 : St w O w [] := St.start hO
 refine callsK_of 6 Try.func26 rfl rfl (of_decide_eq_true rfl) (fun F0 => ?_)
 refine cw_seq (?_)
 refine cw_region (by kernel_rfl) (wl_s (o_assign (Value.bool false) rfl (wl_nil (thenQ_n (?_)))))
 refine cw_seq (?_)
 refine cw_region (by kernel_rfl) (wl_s (o_move (l_v) rfl (wl_s (o_lenR Try.underlying26 rfl h_l (wl_s (o_leq .i64 (l.length : Int) (40 : Int) rfl rfl (wl_s (o_assign (Value.bool (decide ((l.length : Int) ≤ (40 : Int)))) rfl (wl_nil (thenQ_n (?_)))))))))))
 refine cw_ret (end_r rfl (res1 rfl rfl rfl) (?_))
 have e : (decide ((l.length : Int) ≤ 40)) = (decide ((l.length : Int) ≤ (40 : Int))) := rfl
 exact ⟨_, rfl, s0.keep, by rw [e]; exact rfl⟩

end Go.Proofs.Ytjpniibleelgiaa
