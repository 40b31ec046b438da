/- Walks, printed by gen.py. -/
import Derived.Test.YtjpniibleelgiaaXg
import Derived.Test.YtjpniibleelgiaaXq
import Derived.Test.YtjpniibleelgiaaXb
set_option linter.unusedSimpArgs false
set_option linter.unusedVariables false
namespace Go.Proofs.Ytjpniibleelgiaa
open Go.Fw Go.RowKit

set_option maxHeartbeats 4000000 in
set_option maxRecDepth 100000 in
theorem c_refAdd {O : List Nat} (l_v : Value) (l : List DeviceOp) (o_cs : List Value) (o : DeviceOp) (w : World) (h_l : RdL Enc.devop w O l_v l) (h_o : Enc.devop.rd w O o_cs o) (hO : ∀ b ∈ O, b < w.heap.size) : CallsK Try.prog 27 [l_v, .agg o_cs.toArray] w (fun v w' => ∃ (x0 : Value), v = .tuple #[x0, vI ((addM l o).2)] ∧ RdL Enc.devop w' (O) x0 ((addM l o).1)) :=  by
 have lim_l := h_l.len_le
 have h_l : RdL Enc.devop w ([] ++ O) l_v l := h_l
 obtain rfl := h_o
 have s0 : St w O w [] := St.start hO
 refine callsK_of 27 Try.func27 rfl rfl (of_decide_eq_true rfl) (fun F0 => ?_)
 refine cw_seq (?_)
 refine cw_region (by kernel_rfl) (wl_s (o_boxR (E := Enc.devop) (Value.agg #[vI o.device, vI o.no, vI o.kind, vI o.copy, vI o.to, vI o.token]) ([vI o.device, vI o.no, vI o.kind, vI o.copy, vI o.to, vI o.token]) o rfl rfl rfl s0 fun a2368 w2369 s2370 m2371 k2372 hp2373 => (?_)))
 have h_l := h_l.mv m2371
 refine wl_s (o_assign (Value.slice none 0 0) rfl (wl_s (o_assign (vI (0 : Int)) rfl (wl_nil (thenQ_n (?_))))))
 refine cw_seq (?_)
 refine cw_seq (?_)
 refine cw_region (by kernel_rfl) (wl_s (o_move (l_v) rfl (wl_s (o_callK (vs := [l_v]) enter_30 (c_refCheck (O := [] ++ O) l_v l w2369 h_l s2370.lt) rfl s2370 fun v2374 w2375 s2376 m2377 k2378 r2379 => (?_)))))
 obtain rfl := r2379
 have h_l := h_l.mv m2377
 have hp2373 := hp2373.mv m2377
 refine wl_s (o_neq .i64 (checkM l) (0 : Int) rfl rfl (wl_s (o_move (Value.bool ((checkM l) != (0 : Int))) rfl (?_))))
 cases hb2380 : ((checkM l) != (0 : Int))
 ·have hp2381 : checkM l = (0 : Int) := by first | simpa using hb2380 | (have e := hb2380; simp at e; omega)
  have hchk : checkM l = 0 := hp2381
  have hchk_1 := (check_ok hchk).1
  refine wl_t rfl (o_loadS Try.underlying40 rfl s_40 rfl hp2373 fun cs2382 hs2383 => (?_))
  obtain rfl := hs2383
  refine wl_t rfl (o_callK (vs := [Value.agg #[vI o.device, vI o.no, vI o.kind, vI o.copy, vI o.to, vI o.token]]) enter_67 (c_refValid (O := [] ++ O) [vI o.device, vI o.no, vI o.kind, vI o.copy, vI o.to, vI o.token] o w2375 rfl s2376.lt) rfl s2376 fun v2384 w2385 s2386 m2387 k2388 r2389 => (?_))
  obtain rfl := r2389
  have h_l := h_l.mv m2387
  have hp2373 := hp2373.mv m2387
  refine wl_t rfl (o_not (validM o) rfl (wl_s (o_pickF (Value.bool (!(validM o))) rfl rfl (wl_nil (thenQ_n (?_))))))
  refine cw_cond (!(validM o)) rfl rfl (fun hc2390 => ?_) (fun hc2390 => ?_)
  ·have hp2391 : (validM o) = false := by first | simpa using hc2390 | (have e := hc2390; simp at e; omega)
   refine cw_seq (?_)
   refine cw_region (by kernel_rfl) (wl_s (o_assign (Value.slice none 0 0) rfl (wl_s (o_assign (vI (420 : Int)) rfl (wl_nil (thenQ_n (?_)))))))
   refine cw_ret (thenQ_r (end_r rfl (res2 rfl rfl rfl rfl) (?_)))
   have e2392 : ((addM l o).1) = ([]) := by first | exact congrArg (fun p => p.1) (show addM l o = _ from add_1 (by assumption)) | exact congrArg (fun p => p.1) (show addM l o = _ from add_2 (by assumption)) | exact congrArg (fun p => p.1) (show addM l o = _ from add_3 (by assumption) (by assumption) (by assumption)) | exact congrArg (fun p => p.1) (show addM l o = _ from add_4 (by assumption) (by assumption) (by assumption) (by assumption)) | exact congrArg (fun p => p.1) (show addM l o = _ from add_5 (by assumption) (by assumption) (by assumption) (by assumption) (by assumption)) | exact congrArg (fun p => p.1) (show addM l o = _ from add_6 (by assumption) (by assumption) (by assumption) (by assumption) (by assumption))
   have e2393 : ((addM l o).2) = (420 : Int) := by first | exact congrArg (fun p => p.2) (show addM l o = _ from add_1 (by assumption)) | exact congrArg (fun p => p.2) (show addM l o = _ from add_2 (by assumption)) | exact congrArg (fun p => p.2) (show addM l o = _ from add_3 (by assumption) (by assumption) (by assumption)) | exact congrArg (fun p => p.2) (show addM l o = _ from add_4 (by assumption) (by assumption) (by assumption) (by assumption)) | exact congrArg (fun p => p.2) (show addM l o = _ from add_5 (by assumption) (by assumption) (by assumption) (by assumption) (by assumption)) | exact congrArg (fun p => p.2) (show addM l o = _ from add_6 (by assumption) (by assumption) (by assumption) (by assumption) (by assumption))
   exact ⟨_, rfl, s2386.keep, by rw [e2392, e2393]; exact ⟨.slice none 0 0, rfl, RdL.nil _ _ _⟩⟩
  ·have hp2394 : (validM o) = true := by first | simpa using hc2390 | (have e := hc2390; simp at e; omega)
   refine cw_skip (thenQ_n (?_))
   refine cw_seq (?_)
   refine cw_seq (?_)
   refine cw_region (by kernel_rfl) (wl_s (o_move (l_v) rfl (wl_s (o_loadS Try.underlying40 rfl s_40 rfl hp2373 fun cs2395 hs2396 => (?_)))))
   obtain rfl := hs2396
   refine wl_s (o_callK (vs := [l_v, Value.agg #[vI o.device, vI o.no, vI o.kind, vI o.copy, vI o.to, vI o.token]]) enter_37 (c_refHas (O := [] ++ O) l_v l [vI o.device, vI o.no, vI o.kind, vI o.copy, vI o.to, vI o.token] o w2385 h_l rfl s2386.lt) rfl s2386 fun v2397 w2398 s2399 m2400 k2401 r2402 => (?_))
   obtain rfl := r2402
   have h_l := h_l.mv m2400
   have hp2373 := hp2373.mv m2400
   refine wl_nil (thenQ_n (?_))
   refine cw_cond (l.contains o) rfl rfl (fun hc2403 => ?_) (fun hc2403 => ?_)
   ·have hp2404 : (l.contains o) = true := by first | simpa using hc2403 | (have e := hc2403; simp at e; omega)
    refine cw_seq (?_)
    refine cw_region (by kernel_rfl) (wl_s (o_move (l_v) rfl (wl_s (o_assign (l_v) rfl (wl_s (o_assign (vI (0 : Int)) rfl (wl_nil (thenQ_n (?_)))))))))
    refine cw_ret (thenQ_r (end_r rfl (res2 rfl rfl rfl rfl) (?_)))
    have e2405 : ((addM l o).1) = l := by first | exact congrArg (fun p => p.1) (show addM l o = _ from add_1 (by assumption)) | exact congrArg (fun p => p.1) (show addM l o = _ from add_2 (by assumption)) | exact congrArg (fun p => p.1) (show addM l o = _ from add_3 (by assumption) (by assumption) (by assumption)) | exact congrArg (fun p => p.1) (show addM l o = _ from add_4 (by assumption) (by assumption) (by assumption) (by assumption)) | exact congrArg (fun p => p.1) (show addM l o = _ from add_5 (by assumption) (by assumption) (by assumption) (by assumption) (by assumption)) | exact congrArg (fun p => p.1) (show addM l o = _ from add_6 (by assumption) (by assumption) (by assumption) (by assumption) (by assumption))
    have e2406 : ((addM l o).2) = (0 : Int) := by first | exact congrArg (fun p => p.2) (show addM l o = _ from add_1 (by assumption)) | exact congrArg (fun p => p.2) (show addM l o = _ from add_2 (by assumption)) | exact congrArg (fun p => p.2) (show addM l o = _ from add_3 (by assumption) (by assumption) (by assumption)) | exact congrArg (fun p => p.2) (show addM l o = _ from add_4 (by assumption) (by assumption) (by assumption) (by assumption)) | exact congrArg (fun p => p.2) (show addM l o = _ from add_5 (by assumption) (by assumption) (by assumption) (by assumption) (by assumption)) | exact congrArg (fun p => p.2) (show addM l o = _ from add_6 (by assumption) (by assumption) (by assumption) (by assumption) (by assumption))
    exact ⟨_, rfl, s2399.keep, by rw [e2405, e2406]; exact ⟨l_v, rfl, h_l.out⟩⟩
   ·have hp2407 : (l.contains o) = false := by first | simpa using hc2403 | (have e := hc2403; simp at e; omega)
    refine cw_skip (thenQ_n (?_))
    refine cw_seq (?_)
    refine cw_seq (?_)
    refine cw_region (by kernel_rfl) (wl_s (o_move (l_v) rfl (wl_s (o_loadS Try.underlying40 rfl s_40 rfl hp2373 fun cs2408 hs2409 => (?_)))))
    obtain rfl := hs2409
    refine wl_s (o_callK (vs := [l_v, Value.agg #[vI o.device, vI o.no, vI o.kind, vI o.copy, vI o.to, vI o.token]]) enter_68 (c_refClash (O := [] ++ O) l_v l [vI o.device, vI o.no, vI o.kind, vI o.copy, vI o.to, vI o.token] o w2398 h_l rfl s2399.lt) rfl s2399 fun v2410 w2411 s2412 m2413 k2414 r2415 => (?_))
    obtain rfl := r2415
    have h_l := h_l.mv m2413
    have hp2373 := hp2373.mv m2413
    refine wl_nil (thenQ_n (?_))
    refine cw_cond (clashM l o) rfl rfl (fun hc2416 => ?_) (fun hc2416 => ?_)
    ·have hp2417 : (clashM l o) = true := by first | simpa using hc2416 | (have e := hc2416; simp at e; omega)
     refine cw_seq (?_)
     refine cw_region (by kernel_rfl) (wl_s (o_assign (Value.slice none 0 0) rfl (wl_s (o_assign (vI (420 : Int)) rfl (wl_nil (thenQ_n (?_)))))))
     refine cw_ret (thenQ_r (end_r rfl (res2 rfl rfl rfl rfl) (?_)))
     have e2418 : ((addM l o).1) = ([]) := by first | exact congrArg (fun p => p.1) (show addM l o = _ from add_1 (by assumption)) | exact congrArg (fun p => p.1) (show addM l o = _ from add_2 (by assumption)) | exact congrArg (fun p => p.1) (show addM l o = _ from add_3 (by assumption) (by assumption) (by assumption)) | exact congrArg (fun p => p.1) (show addM l o = _ from add_4 (by assumption) (by assumption) (by assumption) (by assumption)) | exact congrArg (fun p => p.1) (show addM l o = _ from add_5 (by assumption) (by assumption) (by assumption) (by assumption) (by assumption)) | exact congrArg (fun p => p.1) (show addM l o = _ from add_6 (by assumption) (by assumption) (by assumption) (by assumption) (by assumption))
     have e2419 : ((addM l o).2) = (420 : Int) := by first | exact congrArg (fun p => p.2) (show addM l o = _ from add_1 (by assumption)) | exact congrArg (fun p => p.2) (show addM l o = _ from add_2 (by assumption)) | exact congrArg (fun p => p.2) (show addM l o = _ from add_3 (by assumption) (by assumption) (by assumption)) | exact congrArg (fun p => p.2) (show addM l o = _ from add_4 (by assumption) (by assumption) (by assumption) (by assumption)) | exact congrArg (fun p => p.2) (show addM l o = _ from add_5 (by assumption) (by assumption) (by assumption) (by assumption) (by assumption)) | exact congrArg (fun p => p.2) (show addM l o = _ from add_6 (by assumption) (by assumption) (by assumption) (by assumption) (by assumption))
     exact ⟨_, rfl, s2412.keep, by rw [e2418, e2419]; exact ⟨.slice none 0 0, rfl, RdL.nil _ _ _⟩⟩
    ·have hp2420 : (clashM l o) = false := by first | simpa using hc2416 | (have e := hc2416; simp at e; omega)
     refine cw_skip (thenQ_n (?_))
     refine cw_seq (?_)
     refine cw_seq (?_)
     refine cw_region (by kernel_rfl) (wl_s (o_move (l_v) rfl (wl_s (o_lenR Try.underlying26 rfl h_l (wl_s (o_eql .i64 (l.length : Int) (256 : Int) rfl rfl (wl_nil (thenQ_n (?_)))))))))
     refine cw_cond ((l.length : Int) == (256 : Int)) rfl rfl (fun hc2421 => ?_) (fun hc2421 => ?_)
     ·have hp2422 : (l.length : Int) = (256 : Int) := by first | simpa using hc2421 | (have e := hc2421; simp at e; omega)
      refine cw_seq (?_)
      refine cw_region (by kernel_rfl) (wl_s (o_assign (Value.slice none 0 0) rfl (wl_s (o_assign (vI (2 : Int)) rfl (wl_nil (thenQ_n (?_)))))))
      refine cw_ret (thenQ_r (end_r rfl (res2 rfl rfl rfl rfl) (?_)))
      have e2423 : ((addM l o).1) = ([]) := by first | exact congrArg (fun p => p.1) (show addM l o = _ from add_1 (by assumption)) | exact congrArg (fun p => p.1) (show addM l o = _ from add_2 (by assumption)) | exact congrArg (fun p => p.1) (show addM l o = _ from add_3 (by assumption) (by assumption) (by assumption)) | exact congrArg (fun p => p.1) (show addM l o = _ from add_4 (by assumption) (by assumption) (by assumption) (by assumption)) | exact congrArg (fun p => p.1) (show addM l o = _ from add_5 (by assumption) (by assumption) (by assumption) (by assumption) (by assumption)) | exact congrArg (fun p => p.1) (show addM l o = _ from add_6 (by assumption) (by assumption) (by assumption) (by assumption) (by assumption))
      have e2424 : ((addM l o).2) = (2 : Int) := by first | exact congrArg (fun p => p.2) (show addM l o = _ from add_1 (by assumption)) | exact congrArg (fun p => p.2) (show addM l o = _ from add_2 (by assumption)) | exact congrArg (fun p => p.2) (show addM l o = _ from add_3 (by assumption) (by assumption) (by assumption)) | exact congrArg (fun p => p.2) (show addM l o = _ from add_4 (by assumption) (by assumption) (by assumption) (by assumption)) | exact congrArg (fun p => p.2) (show addM l o = _ from add_5 (by assumption) (by assumption) (by assumption) (by assumption) (by assumption)) | exact congrArg (fun p => p.2) (show addM l o = _ from add_6 (by assumption) (by assumption) (by assumption) (by assumption) (by assumption))
      exact ⟨_, rfl, s2412.keep, by rw [e2423, e2424]; exact ⟨.slice none 0 0, rfl, RdL.nil _ _ _⟩⟩
     ·have hp2425 : (l.length : Int) ≠ (256 : Int) := by first | simpa using hc2421 | (have e := hc2421; simp at e; omega)
      refine cw_skip (thenQ_n (?_))
      refine cw_seq (?_)
      refine cw_region (by kernel_rfl) (wl_s (o_move (l_v) rfl (wl_s (o_loadS Try.underlying40 rfl s_40 rfl hp2373 fun cs2426 hs2427 => (?_)))))
      obtain rfl := hs2427
      refine wl_s (o_callK (vs := [l_v, Value.agg #[vI o.device, vI o.no, vI o.kind, vI o.copy, vI o.to, vI o.token]]) enter_69 (c_refIns (O := [] ++ O) l_v l [vI o.device, vI o.no, vI o.kind, vI o.copy, vI o.to, vI o.token] o w2411 h_l rfl (by omega) s2412.lt) rfl s2412 fun v2428 w2429 s2430 m2431 k2432 r2433 => (?_))
      obtain ⟨_, rfl, hl2434⟩ := r2433
      have := hl2434.len_le
      refine wl_s (o_assign (v2428) rfl (wl_s (o_assign (vI (0 : Int)) rfl (wl_nil (thenQ_n (?_))))))
      refine cw_ret (end_r rfl (res2 rfl rfl rfl rfl) (?_))
      have e2435 : ((addM l o).1) = (insM l o) := by first | exact congrArg (fun p => p.1) (show addM l o = _ from add_1 (by assumption)) | exact congrArg (fun p => p.1) (show addM l o = _ from add_2 (by assumption)) | exact congrArg (fun p => p.1) (show addM l o = _ from add_3 (by assumption) (by assumption) (by assumption)) | exact congrArg (fun p => p.1) (show addM l o = _ from add_4 (by assumption) (by assumption) (by assumption) (by assumption)) | exact congrArg (fun p => p.1) (show addM l o = _ from add_5 (by assumption) (by assumption) (by assumption) (by assumption) (by assumption)) | exact congrArg (fun p => p.1) (show addM l o = _ from add_6 (by assumption) (by assumption) (by assumption) (by assumption) (by assumption))
      have e2436 : ((addM l o).2) = (0 : Int) := by first | exact congrArg (fun p => p.2) (show addM l o = _ from add_1 (by assumption)) | exact congrArg (fun p => p.2) (show addM l o = _ from add_2 (by assumption)) | exact congrArg (fun p => p.2) (show addM l o = _ from add_3 (by assumption) (by assumption) (by assumption)) | exact congrArg (fun p => p.2) (show addM l o = _ from add_4 (by assumption) (by assumption) (by assumption) (by assumption)) | exact congrArg (fun p => p.2) (show addM l o = _ from add_5 (by assumption) (by assumption) (by assumption) (by assumption) (by assumption)) | exact congrArg (fun p => p.2) (show addM l o = _ from add_6 (by assumption) (by assumption) (by assumption) (by assumption) (by assumption))
      exact ⟨_, rfl, s2430.keep, by rw [e2435, e2436]; exact ⟨v2428, rfl, hl2434.out⟩⟩
 ·have hp2437 : checkM l ≠ (0 : Int) := by first | simpa using hb2380 | (have e := hb2380; simp at e; omega)
  refine wl_k rfl (wl_k rfl (wl_k rfl (wl_s (o_pickT (Value.bool true) rfl rfl (wl_nil (thenQ_n (?_)))))))
  refine cw_cond true rfl rfl (fun _ => ?_) (fun h => by cases h)
  refine cw_seq (?_)
  refine cw_region (by kernel_rfl) (wl_s (o_assign (Value.slice none 0 0) rfl (wl_s (o_assign (vI (420 : Int)) rfl (wl_nil (thenQ_n (?_)))))))
  refine cw_ret (thenQ_r (end_r rfl (res2 rfl rfl rfl rfl) (?_)))
  have e2438 : ((addM l o).1) = ([]) := by first | exact congrArg (fun p => p.1) (show addM l o = _ from add_1 (by assumption)) | exact congrArg (fun p => p.1) (show addM l o = _ from add_2 (by assumption)) | exact congrArg (fun p => p.1) (show addM l o = _ from add_3 (by assumption) (by assumption) (by assumption)) | exact congrArg (fun p => p.1) (show addM l o = _ from add_4 (by assumption) (by assumption) (by assumption) (by assumption)) | exact congrArg (fun p => p.1) (show addM l o = _ from add_5 (by assumption) (by assumption) (by assumption) (by assumption) (by assumption)) | exact congrArg (fun p => p.1) (show addM l o = _ from add_6 (by assumption) (by assumption) (by assumption) (by assumption) (by assumption))
  have e2439 : ((addM l o).2) = (420 : Int) := by first | exact congrArg (fun p => p.2) (show addM l o = _ from add_1 (by assumption)) | exact congrArg (fun p => p.2) (show addM l o = _ from add_2 (by assumption)) | exact congrArg (fun p => p.2) (show addM l o = _ from add_3 (by assumption) (by assumption) (by assumption)) | exact congrArg (fun p => p.2) (show addM l o = _ from add_4 (by assumption) (by assumption) (by assumption) (by assumption)) | exact congrArg (fun p => p.2) (show addM l o = _ from add_5 (by assumption) (by assumption) (by assumption) (by assumption) (by assumption)) | exact congrArg (fun p => p.2) (show addM l o = _ from add_6 (by assumption) (by assumption) (by assumption) (by assumption) (by assumption))
  exact ⟨_, rfl, s2376.keep, by rw [e2438, e2439]; exact ⟨.slice none 0 0, rfl, RdL.nil _ _ _⟩⟩
set_option maxHeartbeats 4000000 in
set_option maxRecDepth 100000 in
theorem c_refMerge {O : List Nat} (a_v : Value) (a : List DeviceOp) (b_v : Value) (b : List DeviceOp) (w : World) (h_a : RdL Enc.devop w O a_v a) (h_b : RdL Enc.devop w O b_v b) (hO : ∀ b ∈ O, b < w.heap.size) : CallsK Try.prog 32 [a_v, b_v] w (fun v w' => ∃ (x0 : Value), v = .tuple #[x0, vI ((mergeM a b).2)] ∧ RdL Enc.devop w' (O) x0 ((mergeM a b).1)) :=  by
 have lim_a := h_a.len_le
 have h_a : RdL Enc.devop w ([] ++ O) a_v a := h_a
 have lim_b := h_b.len_le
 have h_b : RdL Enc.devop w ([] ++ O) b_v b := h_b
 have s0 : St w O w [] := St.start hO
 refine callsK_of 45 Try.func32 rfl rfl (of_decide_eq_true rfl) (fun F0 => ?_)
 refine cw_seq (?_)
 refine cw_region (by kernel_rfl) (wl_s (o_assign (Value.slice none 0 0) rfl (wl_s (o_assign (vI (0 : Int)) rfl (wl_nil (thenQ_n (?_)))))))
 refine cw_seq (?_)
 refine cw_seq (?_)
 refine cw_region (by kernel_rfl) (wl_s (o_move (a_v) rfl (wl_s (o_callK (vs := [a_v]) enter_30 (c_refCheck (O := [] ++ O) a_v a w h_a s0.lt) rfl s0 fun v2440 w2441 s2442 m2443 k2444 r2445 => (?_)))))
 obtain rfl := r2445
 have h_a := h_a.mv m2443
 have h_b := h_b.mv m2443
 refine wl_s (o_neq .i64 (checkM a) (0 : Int) rfl rfl (wl_s (o_move (Value.bool ((checkM a) != (0 : Int))) rfl (?_))))
 cases hb2446 : ((checkM a) != (0 : Int))
 ·have hp2447 : checkM a = (0 : Int) := by first | simpa using hb2446 | (have e := hb2446; simp at e; omega)
  have hcka : checkM a = 0 := hp2447
  have hcka_1 := (check_ok hcka).1
  refine wl_t rfl (o_move (b_v) rfl (wl_t rfl (o_callK (vs := [b_v]) enter_30 (c_refCheck (O := [] ++ O) b_v b w2441 h_b s2442.lt) rfl s2442 fun v2448 w2449 s2450 m2451 k2452 r2453 => (?_))))
  obtain rfl := r2453
  have h_a := h_a.mv m2451
  have h_b := h_b.mv m2451
  refine wl_t rfl (o_neq .i64 (checkM b) (0 : Int) rfl rfl (wl_s (o_pickF (Value.bool ((checkM b) != (0 : Int))) rfl rfl (wl_nil (thenQ_n (?_))))))
  refine cw_cond ((checkM b) != (0 : Int)) rfl rfl (fun hc2454 => ?_) (fun hc2454 => ?_)
  ·have hp2455 : checkM b ≠ (0 : Int) := by first | simpa using hc2454 | (have e := hc2454; simp at e; omega)
   refine cw_seq (?_)
   refine cw_region (by kernel_rfl) (wl_s (o_assign (Value.slice none 0 0) rfl (wl_s (o_assign (vI (420 : Int)) rfl (wl_nil (thenQ_n (?_)))))))
   refine cw_ret (thenQ_r (end_r rfl (res2 rfl rfl rfl rfl) (?_)))
   have e2456 : ((mergeM a b).1) = ([]) := by first | exact congrArg (fun p => p.1) (show mergeM a b = _ from merge_1 (by assumption)) | exact congrArg (fun p => p.1) (show mergeM a b = _ from merge_2 (by assumption)) | exact congrArg (fun p => p.1) (show mergeM a b = _ from mrg_clash (i := k) hoa hob (by omega) (by assumption) (by assumption)) | exact congrArg (fun p => p.1) (show mergeM a b = _ from mrg_big hoa hob hr0_1 (by omega)) | exact congrArg (fun p => p.1) (show mergeM a b = _ from mrg_fit hoa hob hr0_1 (by omega))
   have e2457 : ((mergeM a b).2) = (420 : Int) := by first | exact congrArg (fun p => p.2) (show mergeM a b = _ from merge_1 (by assumption)) | exact congrArg (fun p => p.2) (show mergeM a b = _ from merge_2 (by assumption)) | exact congrArg (fun p => p.2) (show mergeM a b = _ from mrg_clash (i := k) hoa hob (by omega) (by assumption) (by assumption)) | exact congrArg (fun p => p.2) (show mergeM a b = _ from mrg_big hoa hob hr0_1 (by omega)) | exact congrArg (fun p => p.2) (show mergeM a b = _ from mrg_fit hoa hob hr0_1 (by omega))
   exact ⟨_, rfl, s2450.keep, by rw [e2456, e2457]; exact ⟨.slice none 0 0, rfl, RdL.nil _ _ _⟩⟩
  ·have hp2458 : checkM b = (0 : Int) := by first | simpa using hc2454 | (have e := hc2454; simp at e; omega)
   have hckb : checkM b = 0 := hp2458
   have hckb_1 := (check_ok hckb).1
   refine cw_skip (thenQ_n (?_))
   refine cw_seq (?_)
   refine cw_region (by kernel_rfl) (wl_s (o_move (a_v) rfl (wl_s (o_assign (a_v) rfl (wl_nil (thenQ_n (?_)))))))
   refine cw_seq (?_)
   refine cw_seq (?_)
   refine cw_region (by kernel_rfl) (wl_s (o_assign (vI (0 : Int)) rfl (wl_nil (thenQ_n (?_)))))
   refine cw_block (?_)
   have hoa := (check_iff a).1 hcka
   have hob := (check_iff b).1 hckb
   refine cw_loop (fun mI FI wI => ∃ (k : Nat) (vr0_6 : Value) (B : List Nat), k ≤ b.length ∧ numInj (mrg a b k) ∧ mI = b.length - k ∧ (∃ F1, FI = upds F1 [(1, b_v), (6, vr0_6), (7, vI ((k : Nat) : Int)), (45, undef)]) ∧ St w O wI B ∧ RdL Enc.devop wI (B ++ O) vr0_6 (mrg a b k) ∧ RdL Enc.devop wI (B ++ O) (b_v) (b)) (b.length - (0)) ?_ ?_
   ·exact ⟨(0), a_v, [], (by omega), (by rw [mrg_zero]; exact hoa.2.2.2), rfl, ⟨_, upds_self _ ⟨rfl, rfl, (by first | rfl | exact congrArg (Value.int _) (by first | omega | (simp))), rfl, trivial⟩⟩, s2450, (by rw [show mrg a b (0) = a from (mrg_zero a b)]; exact h_a), h_b⟩
   ·intro ml0 F wl0 hI
    clear h_b
    obtain ⟨k, vr0_6, Bl0, hr0_0, hr0_1, hm0, ⟨Fl0, rfl⟩, sl0, hrd0_6, h_b⟩ := hI
    have := hrd0_6.len_le
    refine cw_seq (?_)
    refine cw_seq (?_)
    refine cw_region (by kernel_rfl) (wl_s (o_move (vI ((k : Nat) : Int)) rfl (wl_s (o_move (b_v) rfl (wl_s (o_lenR Try.underlying26 rfl h_b (wl_s (o_lss .i64 ((k : Nat) : Int) (b.length : Int) rfl rfl (wl_nil (thenQ_n (?_)))))))))))
    refine cw_cond (decide (((k : Nat) : Int) < (b.length : Int))) rfl rfl (fun hc2459 => ?_) (fun hc2459 => ?_)
    ·have hp2460 : ((k : Nat) : Int) < (b.length : Int) := by first | simpa using hc2459 | (have e := hc2459; simp at e; omega)
     refine cw_skip (thenQ_n (?_))
     refine cw_seq (?_)
     refine cw_block (?_)
     refine cw_seq (?_)
     refine cw_seq (?_)
     refine cw_region (by kernel_rfl) (wl_s (o_move (vr0_6) rfl (wl_s (o_move (b_v) rfl (wl_s (o_move (vI ((k : Nat) : Int)) rfl (wl_s (o_idx Try.underlying26 s_40 .i64 ((k : Nat) : Int) k rfl rfl rfl h_b (by omega) fun a2461 hp2462 => (wl_s (o_loadS Try.underlying40 rfl s_40 rfl hp2462 fun cs2463 hs2464 => (?_)))))))))))
     obtain rfl := hs2464
     refine wl_s (o_callK (vs := [vr0_6, Value.agg #[vI ((b[k]!).device), vI ((b[k]!).no), vI ((b[k]!).kind), vI ((b[k]!).copy), vI ((b[k]!).to), vI ((b[k]!).token)]]) enter_37 (c_refHas (O := Bl0 ++ O) vr0_6 (mrg a b k) [vI ((b[k]!).device), vI ((b[k]!).no), vI ((b[k]!).kind), vI ((b[k]!).copy), vI ((b[k]!).to), vI ((b[k]!).token)] (b[k]!) wl0 hrd0_6 rfl sl0.lt) rfl sl0 fun v2465 w2466 s2467 m2468 k2469 r2470 => (?_))
     obtain rfl := r2470
     have h_b := h_b.mv m2468
     have hrd0_6 := hrd0_6.mv m2468
     refine wl_nil (thenQ_n (?_))
     refine cw_cond ((mrg a b k).contains (b[k]!)) rfl rfl (fun hc2471 => ?_) (fun hc2471 => ?_)
     ·have hp2472 : ((mrg a b k).contains (b[k]!)) = true := by first | simpa using hc2471 | (have e := hc2471; simp at e; omega)
      refine cw_exit (thenQ_x (blockQ_x (thenQ_n (?_))))
      refine cw_region (by kernel_rfl) (wl_s (o_move (vI ((k : Nat) : Int)) rfl (wl_s (o_add .i64 ((k : Nat) : Int) (1 : Int) (((k + 1 : Nat) : Int)) rfl rfl (w64 (by omega) (by omega)) (wl_s (o_assign (vI ((k + 1 : Nat) : Int)) rfl (wl_nil (thenQ_n (?_)))))))))
      exact ⟨_, (by omega), (k + 1), vr0_6, Bl0, (by omega), (by first | (rw [mrg_has hoa hob (by omega) (by assumption)]; exact hr0_1) | exact mrg_inj hoa hob (by omega) (by assumption) hr0_1 (by assumption)), rfl, ⟨_, upds_self _ ⟨rfl, rfl, (by first | rfl | exact congrArg (Value.int _) (by first | omega | (simp))), rfl, trivial⟩⟩, s2467, (by rw [show mrg a b (k + 1) = mrg a b k from by first | exact mrg_has hoa hob (by omega) (by assumption) | exact mrg_new hoa hob (by omega) (by assumption)]; exact hrd0_6), h_b⟩
     ·have hp2473 : ((mrg a b k).contains (b[k]!)) = false := by first | simpa using hc2471 | (have e := hc2471; simp at e; omega)
      refine cw_skip (thenQ_n (?_))
      refine cw_seq (?_)
      refine cw_seq (?_)
      refine cw_region (by kernel_rfl) (wl_s (o_move (vr0_6) rfl (wl_s (o_move (b_v) rfl (wl_s (o_move (vI ((k : Nat) : Int)) rfl (wl_s (o_idx Try.underlying26 s_40 .i64 ((k : Nat) : Int) k rfl rfl rfl h_b (by omega) fun a2474 hp2475 => (wl_s (o_loadS Try.underlying40 rfl s_40 rfl hp2475 fun cs2476 hs2477 => (?_)))))))))))
      obtain rfl := hs2477
      refine wl_s (o_callK (vs := [vr0_6, Value.agg #[vI ((b[k]!).device), vI ((b[k]!).no), vI ((b[k]!).kind), vI ((b[k]!).copy), vI ((b[k]!).to), vI ((b[k]!).token)]]) enter_68 (c_refClash (O := Bl0 ++ O) vr0_6 (mrg a b k) [vI ((b[k]!).device), vI ((b[k]!).no), vI ((b[k]!).kind), vI ((b[k]!).copy), vI ((b[k]!).to), vI ((b[k]!).token)] (b[k]!) w2466 hrd0_6 rfl s2467.lt) rfl s2467 fun v2478 w2479 s2480 m2481 k2482 r2483 => (?_))
      obtain rfl := r2483
      have h_b := h_b.mv m2481
      have hrd0_6 := hrd0_6.mv m2481
      refine wl_nil (thenQ_n (?_))
      refine cw_cond (clashM (mrg a b k) (b[k]!)) rfl rfl (fun hc2484 => ?_) (fun hc2484 => ?_)
      ·have hp2485 : (clashM (mrg a b k) (b[k]!)) = true := by first | simpa using hc2484 | (have e := hc2484; simp at e; omega)
       refine cw_seq (?_)
       refine cw_region (by kernel_rfl) (wl_s (o_assign (Value.slice none 0 0) rfl (wl_s (o_assign (vI (420 : Int)) rfl (wl_nil (thenQ_n (?_)))))))
       refine cw_ret (thenQ_r (blockQ_r (thenQ_r (thenQ_r (blockQ_r (thenQ_r (end_r rfl (res2 rfl rfl rfl rfl) (?_))))))))
       have e2486 : ((mergeM a b).1) = ([]) := by first | exact congrArg (fun p => p.1) (show mergeM a b = _ from merge_1 (by assumption)) | exact congrArg (fun p => p.1) (show mergeM a b = _ from merge_2 (by assumption)) | exact congrArg (fun p => p.1) (show mergeM a b = _ from mrg_clash (i := k) hoa hob (by omega) (by assumption) (by assumption)) | exact congrArg (fun p => p.1) (show mergeM a b = _ from mrg_big hoa hob hr0_1 (by omega)) | exact congrArg (fun p => p.1) (show mergeM a b = _ from mrg_fit hoa hob hr0_1 (by omega))
       have e2487 : ((mergeM a b).2) = (420 : Int) := by first | exact congrArg (fun p => p.2) (show mergeM a b = _ from merge_1 (by assumption)) | exact congrArg (fun p => p.2) (show mergeM a b = _ from merge_2 (by assumption)) | exact congrArg (fun p => p.2) (show mergeM a b = _ from mrg_clash (i := k) hoa hob (by omega) (by assumption) (by assumption)) | exact congrArg (fun p => p.2) (show mergeM a b = _ from mrg_big hoa hob hr0_1 (by omega)) | exact congrArg (fun p => p.2) (show mergeM a b = _ from mrg_fit hoa hob hr0_1 (by omega))
       exact ⟨_, rfl, s2480.keep, by rw [e2486, e2487]; exact ⟨.slice none 0 0, rfl, RdL.nil _ _ _⟩⟩
      ·have hp2488 : (clashM (mrg a b k) (b[k]!)) = false := by first | simpa using hc2484 | (have e := hc2484; simp at e; omega)
       refine cw_skip (thenQ_n (?_))
       refine cw_region (by kernel_rfl) (wl_s (o_move (vr0_6) rfl (wl_s (o_move (b_v) rfl (wl_s (o_move (vI ((k : Nat) : Int)) rfl (wl_s (o_idx Try.underlying26 s_40 .i64 ((k : Nat) : Int) k rfl rfl rfl h_b (by omega) fun a2489 hp2490 => (wl_s (o_loadS Try.underlying40 rfl s_40 rfl hp2490 fun cs2491 hs2492 => (?_)))))))))))
       obtain rfl := hs2492
       refine wl_s (o_callK (vs := [vr0_6, Value.agg #[vI ((b[k]!).device), vI ((b[k]!).no), vI ((b[k]!).kind), vI ((b[k]!).copy), vI ((b[k]!).to), vI ((b[k]!).token)]]) enter_69 (c_refIns (O := Bl0 ++ O) vr0_6 (mrg a b k) [vI ((b[k]!).device), vI ((b[k]!).no), vI ((b[k]!).kind), vI ((b[k]!).copy), vI ((b[k]!).to), vI ((b[k]!).token)] (b[k]!) w2479 hrd0_6 rfl (by have := len_mrg hoa hob k; omega) s2480.lt) rfl s2480 fun v2493 w2494 s2495 m2496 k2497 r2498 => (?_))
       obtain ⟨_, rfl, hl2499⟩ := r2498
       have := hl2499.len_le
       have h_b := h_b.mv m2496
       refine wl_s (o_assign (v2493) rfl (wl_nil (blockQ_n (thenQ_n (?_)))))
       refine cw_region (by kernel_rfl) (wl_s (o_move (vI ((k : Nat) : Int)) rfl (wl_s (o_add .i64 ((k : Nat) : Int) (1 : Int) (((k + 1 : Nat) : Int)) rfl rfl (w64 (by omega) (by omega)) (wl_s (o_assign (vI ((k + 1 : Nat) : Int)) rfl (wl_nil (thenQ_n (?_)))))))))
       exact ⟨_, (by omega), (k + 1), v2493, Bl0, (by omega), (by first | (rw [mrg_has hoa hob (by omega) (by assumption)]; exact hr0_1) | exact mrg_inj hoa hob (by omega) (by assumption) hr0_1 (by assumption)), rfl, ⟨_, upds_self _ ⟨rfl, rfl, (by first | rfl | exact congrArg (Value.int _) (by first | omega | (simp))), rfl, trivial⟩⟩, s2495, (by rw [show mrg a b (k + 1) = insM (mrg a b k) (b[k]!) from by first | exact mrg_has hoa hob (by omega) (by assumption) | exact mrg_new hoa hob (by omega) (by assumption)]; exact hl2499), h_b⟩
    ·have hp2500 : (b.length : Int) ≤ ((k : Nat) : Int) := by first | simpa using hc2459 | (have e := hc2459; simp at e; omega)
     obtain rfl : k = b.length := by omega
     refine cw_exit (thenQ_x (thenQ_x (blockQ_x (thenQ_n (?_)))))
     refine cw_seq (?_)
     refine cw_seq (?_)
     refine cw_region (by kernel_rfl) (wl_s (o_move (vr0_6) rfl (wl_s (o_lenR Try.underlying26 rfl hrd0_6 (wl_s (o_gtr .i64 ((mrg a b b.length).length : Int) (256 : Int) rfl rfl (wl_nil (thenQ_n (?_)))))))))
     refine cw_cond (decide ((256 : Int) < ((mrg a b b.length).length : Int))) rfl rfl (fun hc2501 => ?_) (fun hc2501 => ?_)
     ·have hp2502 : (256 : Int) < ((mrg a b b.length).length : Int) := by first | simpa using hc2501 | (have e := hc2501; simp at e; omega)
      refine cw_seq (?_)
      refine cw_region (by kernel_rfl) (wl_s (o_assign (Value.slice none 0 0) rfl (wl_s (o_assign (vI (2 : Int)) rfl (wl_nil (thenQ_n (?_)))))))
      refine cw_ret (thenQ_r (end_r rfl (res2 rfl rfl rfl rfl) (?_)))
      have e2503 : ((mergeM a b).1) = ([]) := by first | exact congrArg (fun p => p.1) (show mergeM a b = _ from merge_1 (by assumption)) | exact congrArg (fun p => p.1) (show mergeM a b = _ from merge_2 (by assumption)) | exact congrArg (fun p => p.1) (show mergeM a b = _ from mrg_clash (i := k) hoa hob (by omega) (by assumption) (by assumption)) | exact congrArg (fun p => p.1) (show mergeM a b = _ from mrg_big hoa hob hr0_1 (by omega)) | exact congrArg (fun p => p.1) (show mergeM a b = _ from mrg_fit hoa hob hr0_1 (by omega))
      have e2504 : ((mergeM a b).2) = (2 : Int) := by first | exact congrArg (fun p => p.2) (show mergeM a b = _ from merge_1 (by assumption)) | exact congrArg (fun p => p.2) (show mergeM a b = _ from merge_2 (by assumption)) | exact congrArg (fun p => p.2) (show mergeM a b = _ from mrg_clash (i := k) hoa hob (by omega) (by assumption) (by assumption)) | exact congrArg (fun p => p.2) (show mergeM a b = _ from mrg_big hoa hob hr0_1 (by omega)) | exact congrArg (fun p => p.2) (show mergeM a b = _ from mrg_fit hoa hob hr0_1 (by omega))
      exact ⟨_, rfl, sl0.keep, by rw [e2503, e2504]; exact ⟨.slice none 0 0, rfl, RdL.nil _ _ _⟩⟩
     ·have hp2505 : ((mrg a b b.length).length : Int) ≤ (256 : Int) := by first | simpa using hc2501 | (have e := hc2501; simp at e; omega)
      refine cw_skip (thenQ_n (?_))
      refine cw_seq (?_)
      refine cw_region (by kernel_rfl) (wl_s (o_move (vr0_6) rfl (wl_s (o_assign (vr0_6) rfl (wl_s (o_assign (vI (0 : Int)) rfl (wl_nil (thenQ_n (?_)))))))))
      refine cw_ret (end_r rfl (res2 rfl rfl rfl rfl) (?_))
      have e2506 : ((mergeM a b).1) = (mrg a b b.length) := by first | exact congrArg (fun p => p.1) (show mergeM a b = _ from merge_1 (by assumption)) | exact congrArg (fun p => p.1) (show mergeM a b = _ from merge_2 (by assumption)) | exact congrArg (fun p => p.1) (show mergeM a b = _ from mrg_clash (i := k) hoa hob (by omega) (by assumption) (by assumption)) | exact congrArg (fun p => p.1) (show mergeM a b = _ from mrg_big hoa hob hr0_1 (by omega)) | exact congrArg (fun p => p.1) (show mergeM a b = _ from mrg_fit hoa hob hr0_1 (by omega))
      have e2507 : ((mergeM a b).2) = (0 : Int) := by first | exact congrArg (fun p => p.2) (show mergeM a b = _ from merge_1 (by assumption)) | exact congrArg (fun p => p.2) (show mergeM a b = _ from merge_2 (by assumption)) | exact congrArg (fun p => p.2) (show mergeM a b = _ from mrg_clash (i := k) hoa hob (by omega) (by assumption) (by assumption)) | exact congrArg (fun p => p.2) (show mergeM a b = _ from mrg_big hoa hob hr0_1 (by omega)) | exact congrArg (fun p => p.2) (show mergeM a b = _ from mrg_fit hoa hob hr0_1 (by omega))
      exact ⟨_, rfl, sl0.keep, by rw [e2506, e2507]; exact ⟨vr0_6, rfl, hrd0_6.out⟩⟩
 ·have hp2508 : checkM a ≠ (0 : Int) := by first | simpa using hb2446 | (have e := hb2446; simp at e; omega)
  refine wl_k rfl (wl_k rfl (wl_k rfl (wl_s (o_pickT (Value.bool true) rfl rfl (wl_nil (thenQ_n (?_)))))))
  refine cw_cond true rfl rfl (fun _ => ?_) (fun h => by cases h)
  refine cw_seq (?_)
  refine cw_region (by kernel_rfl) (wl_s (o_assign (Value.slice none 0 0) rfl (wl_s (o_assign (vI (420 : Int)) rfl (wl_nil (thenQ_n (?_)))))))
  refine cw_ret (thenQ_r (end_r rfl (res2 rfl rfl rfl rfl) (?_)))
  have e2509 : ((mergeM a b).1) = ([]) := by first | exact congrArg (fun p => p.1) (show mergeM a b = _ from merge_1 (by assumption)) | exact congrArg (fun p => p.1) (show mergeM a b = _ from merge_2 (by assumption)) | exact congrArg (fun p => p.1) (show mergeM a b = _ from mrg_clash (i := k) hoa hob (by omega) (by assumption) (by assumption)) | exact congrArg (fun p => p.1) (show mergeM a b = _ from mrg_big hoa hob hr0_1 (by omega)) | exact congrArg (fun p => p.1) (show mergeM a b = _ from mrg_fit hoa hob hr0_1 (by omega))
  have e2510 : ((mergeM a b).2) = (420 : Int) := by first | exact congrArg (fun p => p.2) (show mergeM a b = _ from merge_1 (by assumption)) | exact congrArg (fun p => p.2) (show mergeM a b = _ from merge_2 (by assumption)) | exact congrArg (fun p => p.2) (show mergeM a b = _ from mrg_clash (i := k) hoa hob (by omega) (by assumption) (by assumption)) | exact congrArg (fun p => p.2) (show mergeM a b = _ from mrg_big hoa hob hr0_1 (by omega)) | exact congrArg (fun p => p.2) (show mergeM a b = _ from mrg_fit hoa hob hr0_1 (by omega))
  exact ⟨_, rfl, s2442.keep, by rw [e2509, e2510]; exact ⟨.slice none 0 0, rfl, RdL.nil _ _ _⟩⟩
set_option maxHeartbeats 4000000 in
set_option maxRecDepth 100000 in
theorem c_counts {O : List Nat} (hd_cs : List Value) (hd : Holding) (o_cs : List Value) (o : DeviceOp) (w : World) (h_hd : Enc.holding.rd w O hd_cs hd) (h_o : Enc.devop.rd w O o_cs o) (hpre0 : 0 ≤ hd.token) (hpre1 : hd.token ≤ 65536) (hO : ∀ b ∈ O, b < w.heap.size) : CallsK Try.prog 102 [.agg hd_cs.toArray, .agg o_cs.toArray] w (fun v _ => v = .bool (countsM hd o)) :=  by
 obtain rfl := h_hd
 obtain rfl := h_o
 have s0 : St w O w [] := St.start hO
 refine callsK_of 23 Try.func102 rfl rfl (of_decide_eq_true rfl) (fun F0 => ?_)
 refine cw_seq (?_)
 refine cw_region (by kernel_rfl) (wl_s (o_boxR (E := Enc.holding) (Value.agg #[vI hd.copy, vI hd.device, vI hd.token, Value.bool hd.shown]) ([vI hd.copy, vI hd.device, vI hd.token, Value.bool hd.shown]) hd rfl rfl rfl s0 fun a2511 w2512 s2513 m2514 k2515 hp2516 => (?_)))
 refine wl_s (o_boxR (E := Enc.devop) (Value.agg #[vI o.device, vI o.no, vI o.kind, vI o.copy, vI o.to, vI o.token]) ([vI o.device, vI o.no, vI o.kind, vI o.copy, vI o.to, vI o.token]) o rfl rfl rfl s2513 fun a2517 w2518 s2519 m2520 k2521 hp2522 => (?_))
 have hp2516 := hp2516.mv m2520
 refine wl_s (o_assign (Value.bool false) rfl (wl_nil (thenQ_n (?_))))
 refine cw_seq (?_)
 refine cw_region (by kernel_rfl) (wl_s (o_fieldR 5 f_40_5 (o.token) rfl hp2522 (fun _ _ _ h => Enc_devop_f5 h) fun a2523 hp2524 => (wl_s (o_loadI Try.underlying3 rfl rfl hp2524 (wl_s (o_fieldR 2 f_47_2 (hd.token) rfl hp2516 (fun _ _ _ h => Enc_holding_f2 h) fun a2525 hp2526 => (wl_s (o_loadI Try.underlying3 rfl rfl hp2526 (wl_s (o_add .i64 hd.token (1 : Int) (hd.token + (1 : Int)) rfl rfl (w64 (by omega) (by omega)) (wl_s (o_eql .i64 o.token (hd.token + (1 : Int)) rfl rfl (wl_s (o_move (Value.bool (o.token == (hd.token + (1 : Int)))) rfl (?_)))))))))))))))
 cases hb2527 : (o.token == (hd.token + (1 : Int)))
 ·have hp2528 : o.token ≠ hd.token + (1 : Int) := by first | simpa using hb2527 | (have e := hb2527; simp at e; omega)
  refine wl_k rfl (wl_k rfl (wl_k rfl (wl_k rfl (wl_k rfl (wl_s (o_pickF (Value.bool false) rfl rfl (wl_s (o_move (Value.bool false) rfl (wl_k rfl (wl_k rfl (wl_k rfl (wl_s (o_pickF (Value.bool false) rfl rfl (wl_s (o_assign (Value.bool false) rfl (wl_nil (thenQ_n (?_))))))))))))))))))
  refine cw_ret (end_r rfl (res1 rfl rfl rfl) (?_))
  have e : (countsM hd o) = false := by simp [countsM, *]
  exact ⟨_, rfl, s2519.keep, by rw [e]; exact rfl⟩
 ·have hp2529 : o.token = hd.token + (1 : Int) := by first | simpa using hb2527 | (have e := hb2527; simp at e; omega)
  refine wl_t rfl (o_fieldR 0 f_40_0 (o.device) rfl hp2522 (fun _ _ _ h => Enc_devop_f0 h) fun a2530 hp2531 => (wl_t rfl (o_loadI Try.underlying3 rfl rfl hp2531 (wl_t rfl (o_fieldR 1 f_47_1 (hd.device) rfl hp2516 (fun _ _ _ h => Enc_holding_f1 h) fun a2532 hp2533 => (wl_t rfl (o_loadI Try.underlying3 rfl rfl hp2533 (wl_t rfl (o_eql .i64 o.device hd.device rfl rfl (wl_s (o_pickT (Value.bool (o.device == hd.device)) rfl rfl (wl_s (o_move (Value.bool (o.device == hd.device)) rfl (?_))))))))))))))
  cases hb2534 : (o.device == hd.device)
  ·have hp2535 : o.device ≠ hd.device := by first | simpa using hb2534 | (have e := hb2534; simp at e; omega)
   refine wl_k rfl (wl_k rfl (wl_k rfl (wl_s (o_pickF (Value.bool false) rfl rfl (wl_s (o_assign (Value.bool false) rfl (wl_nil (thenQ_n (?_)))))))))
   refine cw_ret (end_r rfl (res1 rfl rfl rfl) (?_))
   have e : (countsM hd o) = false := by simp [countsM, *]
   exact ⟨_, rfl, s2519.keep, by rw [e]; exact rfl⟩
  ·have hp2536 : o.device = hd.device := by first | simpa using hb2534 | (have e := hb2534; simp at e; omega)
   refine wl_t rfl (o_fieldR 3 f_47_3 (hd.shown) rfl hp2516 (fun _ _ _ h => Enc_holding_f3 h) fun a2537 hp2538 => (wl_t rfl (o_loadT Try.underlying4 rfl rfl hp2538 (wl_t rfl (o_not hd.shown rfl (wl_s (o_pickT (Value.bool (!hd.shown)) rfl rfl (wl_s (o_assign (Value.bool (!hd.shown)) rfl (wl_nil (thenQ_n (?_))))))))))))
   refine cw_ret (end_r rfl (res1 rfl rfl rfl) (?_))
   have e : (countsM hd o) = (!hd.shown) := by simp [countsM, *]
   exact ⟨_, rfl, s2519.keep, by rw [e]; exact rfl⟩
set_option maxHeartbeats 4000000 in
set_option maxRecDepth 100000 in
theorem c_refHold {O : List Nat} (l_v : Value) (l : List DeviceOp) (c : Int) (first : Int) (w : World) (h_l : RdL Enc.devop w O l_v l) (hpre0 : checkM l = 0) (hO : ∀ b ∈ O, b < w.heap.size) : CallsK Try.prog 76 [l_v, vI c, vI first] w (fun v w' => ∃ (x0 : List Value), v = .agg x0.toArray ∧ Enc.holding.rd w' (O) x0 (holdM l first c)) :=  by
 have lim_l := h_l.len_le
 have h_l : RdL Enc.devop w ([] ++ O) l_v l := h_l
 have s0 : St w O w [] := St.start hO
 refine callsK_of 54 Try.func76 rfl rfl (of_decide_eq_true rfl) (fun F0 => ?_)
 refine cw_seq (?_)
 refine cw_region (by kernel_rfl) (wl_s (o_alloc [vI (0 : Int), vI (0 : Int), vI (0 : Int), Value.bool false] z_47 rfl s0 fun b2539 w2540 e2545 s2541 m2542 k2543 bx2544 => (?_)))
 clear e2545
 have h_l := h_l.mv m2542
 refine wl_nil (thenQ_n (?_))
 refine cw_seq (?_)
 refine cw_region (by kernel_rfl) (wl_s (o_move (vI c) rfl (wl_s (o_move (vI first) rfl (wl_s (o_build (l := [(0, .tmp 9), (1, .tmp 10)]) pl_47 z_47 rfl [(0, vI c, [vI c]), (1, vI first, [vI first])] [vI c, vI first, vI (0 : Int), Value.bool false] rfl ⟨_, rfl, rfl, (of_decide_eq_true rfl), ⟨_, rfl, rfl, (of_decide_eq_true rfl), rfl⟩⟩ (wl_s (o_alloc [vI (0 : Int), vI (0 : Int), vI (0 : Int), Value.bool false] z_47 rfl s2541 fun b2546 w2547 e2552 s2548 m2549 k2550 bx2551 => (?_)))))))))
 have ne2553 : NeB b2539 b2546 := by show b2539 ≠ b2546; have := bx2544.lt; omega
 clear e2552
 have h_l := h_l.mv m2549
 have bx2544 := bx2544.keep k2550 (by simp)
 refine wl_n (o_store (vs := [vI c, vI first, vI (0 : Int), Value.bool false]) (.agg #[vI c, vI first, vI (0 : Int), Value.bool false]) rfl rfl rfl s_47 (fun u hu => by simp only [List.mem_cons, List.not_mem_nil, or_false] at hu; rcases hu with rfl | rfl | rfl | rfl <;> first | rfl) (by repeat (first | assumption | constructor)) bx2551 (of_decide_eq_true rfl) s2548 fun w2554 s2555 m2556 k2557 bx2558 => (?_))
 have h_l := h_l.mv m2556
 have bx2544 := bx2544.keep k2557 (nin1 ne2553)
 refine wl_nil (thenQ_n (?_))
 refine cw_seq (?_)
 refine cw_seq (?_)
 refine cw_region (by kernel_rfl) (wl_s (o_assign (vI (0 : Int)) rfl (wl_nil (thenQ_n (?_)))))
 refine cw_block (?_)
 refine cw_loop (fun mI FI wI => ∃ (k : Nat) (B : List Nat), k ≤ l.length ∧ mI = l.length - k ∧ (∃ F1, FI = upds F1 [(0, l_v), (1, vI c), (6, Value.pointer (some ⟨b2539, 0, none⟩)), (7, Value.pointer (some ⟨b2546, 0, none⟩)), (8, vI ((k : Nat) : Int)), (54, undef)]) ∧ St w O wI B ∧ RdL Enc.devop wI (B ++ O) (l_v) (l) ∧ Box wI b2539 47 [vI (0 : Int), vI (0 : Int), vI (0 : Int), Value.bool false] ∧ b2539 ∈ B ∧ Box wI b2546 47 [vI ((foldAt l c first k).copy), vI ((foldAt l c first k).device), vI ((foldAt l c first k).token), Value.bool ((foldAt l c first k).shown)] ∧ b2546 ∈ B) (l.length - (0)) ?_ ?_
 ·exact ⟨(0), (b2546 :: (b2539 :: [])), (by first | omega | (simp; done) | (simp; omega) | simp_all), rfl, ⟨_, upds_self _ ⟨rfl, rfl, rfl, rfl, (by first | rfl | exact congrArg (Value.int _) (by first | omega | (simp))), rfl, trivial⟩⟩, s2555, h_l, bx2544, (by first | assumption | (repeat (first | exact List.mem_cons_self | assumption | apply List.mem_cons_of_mem)) | (apply_assumption; assumption)), (by rw [show ([vI ((foldAt l c first (0)).copy), vI ((foldAt l c first (0)).device), vI ((foldAt l c first (0)).token), Value.bool ((foldAt l c first (0)).shown)] : List Value) = [vI c, vI first, vI (0 : Int), Value.bool false] from by rw [foldAt_zero]; rfl]; exact bx2558), (by first | assumption | (repeat (first | exact List.mem_cons_self | assumption | apply List.mem_cons_of_mem)) | (apply_assumption; assumption))⟩
 ·intro ml0 F wl0 hI
  clear h_l bx2544
  obtain ⟨k, Bl0, hr0_0, hm0, ⟨Fl0, rfl⟩, sl0, h_l, bx2544, hin_b2539, hbs_0_b2546, hin_b2546⟩ := hI
  refine cw_seq (?_)
  refine cw_seq (?_)
  refine cw_region (by kernel_rfl) (wl_s (o_move (vI ((k : Nat) : Int)) rfl (wl_s (o_move (l_v) rfl (wl_s (o_lenR Try.underlying26 rfl h_l (wl_s (o_lss .i64 ((k : Nat) : Int) (l.length : Int) rfl rfl (wl_nil (thenQ_n (?_)))))))))))
  refine cw_cond (decide (((k : Nat) : Int) < (l.length : Int))) rfl rfl (fun hc2559 => ?_) (fun hc2559 => ?_)
  ·have hp2560 : ((k : Nat) : Int) < (l.length : Int) := by first | simpa using hc2559 | (have e := hc2559; simp at e; omega)
   refine cw_skip (thenQ_n (?_))
   refine cw_seq (?_)
   refine cw_block (?_)
   refine cw_seq (?_)
   refine cw_seq (?_)
   cases hb2561 : (((l[k]!).copy) != c)
   ·have hp2562 : (l[k]!).copy = c := by first | simpa using hb2561 | (have e := hb2561; simp at e; omega)
    refine cw_draw' 13 _ _ [fun (vT : Value) (wT : World) => RdL Enc.devop wT (Bl0 ++ O) vT (l), isV (vI ((k : Nat) : Int)), fun (vT : Value) (wT : World) => ∃ aT, vT = .pointer (some aT) ∧ PT Enc.devop wT (Bl0 ++ O) (.pointer (some aT)) (l[k]!), fun (vT : Value) (wT : World) => ∃ aT, vT = .pointer (some aT) ∧ PT Enc.int wT (Bl0 ++ O) (.pointer (some aT)) ((l[k]!).copy), isV (vI ((l[k]!).copy)), isV (vI c), isV (Value.bool false), isV (Value.bool false), isV (Value.agg #[vI ((foldAt l c first k).copy), vI ((foldAt l c first k).device), vI ((foldAt l c first k).token), Value.bool ((foldAt l c first k).shown)]), fun (vT : Value) (wT : World) => RdL Enc.devop wT (Bl0 ++ O) vT (l), isV (vI ((k : Nat) : Int)), fun (vT : Value) (wT : World) => ∃ aT, vT = .pointer (some aT) ∧ PT Enc.devop wT (Bl0 ++ O) (.pointer (some aT)) (l[k]!), isV (Value.agg #[vI ((l[k]!).device), vI ((l[k]!).no), vI ((l[k]!).kind), vI ((l[k]!).copy), vI ((l[k]!).to), vI ((l[k]!).token)])] (by kernel_rfl) (by kernel_rfl) (by kernel_rfl) (by kernel_rfl) rfl rfl ⟨fun _ _ _ h k => h.mv (Mv.of_keep k), kI, fun _ _ _ ⟨a, e, h⟩ k => ⟨a, e, h.mv (Mv.of_keep k)⟩, fun _ _ _ ⟨a, e, h⟩ k => ⟨a, e, h.mv (Mv.of_keep k)⟩, kI, kI, kI, kI, kI, fun _ _ _ h k => h.mv (Mv.of_keep k), kI, fun _ _ _ ⟨a, e, h⟩ k => ⟨a, e, h.mv (Mv.of_keep k)⟩, kI, trivial⟩ ⟨?_, ?_, ?_, ?_, ?_, ?_, ?_, ?_, ?_, ?_, ?_, ?_, ?_, trivial⟩ ?_
    ·intro F1 w1 k1 hf hd
     have k0 := (Keep.drew [] wl0).trans k1
     have m1 : Mv Bl0 wl0 Bl0 w1 := Mv.of_keep k0
     have h_l := h_l.mv m1
     obtain ⟨F2, rfl⟩ := lit_of (F := F1) [(0, l_v)] ⟨hf 0 (by kernel_rfl), trivial⟩
     exact sp_plain rfl ((o_move (l_v) rfl (⟨(Keep.refl _ _), h_l⟩)))
    ·intro F1 w1 k1 hf hd
     obtain ⟨F2, rfl⟩ := lit_of (F := F1) [(8, vI ((k : Nat) : Int))] ⟨hf 8 (by kernel_rfl), trivial⟩
     exact sp_plain rfl ((o_move (vI ((k : Nat) : Int)) rfl (⟨(Keep.refl _ _), rfl⟩)))
    ·intro F1 w1 k1 hf hd
     obtain ⟨v2563, e2565, hl2564⟩ : ∃ v, F1 18 = v ∧ RdL Enc.devop w1 (Bl0 ++ O) v (l) := ⟨_, rfl, hd 0 18 (by kernel_rfl)⟩
     have := hl2564.len_le
     obtain ⟨F2, rfl⟩ := lit_of (F := F1) [(18, v2563), (19, vI ((k : Nat) : Int))] ⟨e2565, hd 1 19 (by kernel_rfl), trivial⟩
     exact sp_plain rfl ((o_idx Try.underlying26 s_40 .i64 ((k : Nat) : Int) k rfl rfl rfl hl2564 (by omega) fun a2566 hp2567 => (⟨(Keep.refl _ _), ⟨a2566, rfl, hp2567⟩⟩)))
    ·intro F1 w1 k1 hf hd
     obtain ⟨a2568, e2570, hp2569⟩ : ∃ aX_, F1 20 = .pointer (some aX_) ∧ PT Enc.devop w1 (Bl0 ++ O) (.pointer (some aX_)) (l[k]!) := hd 2 20 (by kernel_rfl)
     obtain ⟨F2, rfl⟩ := lit_of (F := F1) [(20, Value.pointer (some a2568))] ⟨e2570, trivial⟩
     exact sp_plain rfl ((o_fieldR 3 f_40_3 ((l[k]!).copy) rfl hp2569 (fun _ _ _ h => Enc_devop_f3 h) fun a2571 hp2572 => (⟨(Keep.refl _ _), ⟨a2571, rfl, hp2572⟩⟩)))
    ·intro F1 w1 k1 hf hd
     obtain ⟨a2573, e2575, hp2574⟩ : ∃ aX_, F1 21 = .pointer (some aX_) ∧ PT Enc.int w1 (Bl0 ++ O) (.pointer (some aX_)) ((l[k]!).copy) := hd 3 21 (by kernel_rfl)
     obtain ⟨F2, rfl⟩ := lit_of (F := F1) [(21, Value.pointer (some a2573))] ⟨e2575, trivial⟩
     exact sp_plain rfl ((o_loadI Try.underlying3 rfl rfl hp2574 (⟨(Keep.refl _ _), rfl⟩)))
    ·intro F1 w1 k1 hf hd
     obtain ⟨F2, rfl⟩ := lit_of (F := F1) [(1, vI c)] ⟨hf 1 (by kernel_rfl), trivial⟩
     exact sp_plain rfl ((o_move (vI c) rfl (⟨(Keep.refl _ _), rfl⟩)))
    ·intro F1 w1 k1 hf hd
     obtain ⟨F2, rfl⟩ := lit_of (F := F1) [(22, vI ((l[k]!).copy)), (23, vI c)] ⟨hd 4 22 (by kernel_rfl), hd 5 23 (by kernel_rfl), trivial⟩
     refine sp_plain rfl ((o_neq .i64 ((l[k]!).copy) c rfl rfl (?_)))
     exact ⟨(Keep.refl _ _), congrArg Value.bool (hb2561)⟩
    ·intro F1 w1 k1 hf hd
     obtain ⟨F2, rfl⟩ := lit_of (F := F1) [(24, Value.bool false)] ⟨hd 6 24 (by kernel_rfl), trivial⟩
     exact sp_plain rfl ((o_move (Value.bool false) rfl (⟨(Keep.refl _ _), rfl⟩)))
    ·intro F1 w1 k1 hf hd
     have k0 := (Keep.drew [] wl0).trans k1
     have hbs_0_b2546 := hbs_0_b2546.keep k0 (by simp)
     obtain ⟨F2, rfl⟩ := lit_of (F := F1) [(7, Value.pointer (some ⟨b2546, 0, none⟩)), (25, Value.bool false)] ⟨hf 7 (by kernel_rfl), hd 7 25 (by kernel_rfl), trivial⟩
     exact sp_take rfl rfl ((o_loadBxA (vs := [vI ((foldAt l c first k).copy), vI ((foldAt l c first k).device), vI ((foldAt l c first k).token), Value.bool ((foldAt l c first k).shown)]) Try.underlying47 rfl s_47 rfl hbs_0_b2546 rfl (⟨(Keep.refl _ _), rfl⟩)))
    ·intro F1 w1 k1 hf hd
     have k0 := (Keep.drew [] wl0).trans k1
     have m1 : Mv Bl0 wl0 Bl0 w1 := Mv.of_keep k0
     have h_l := h_l.mv m1
     obtain ⟨F2, rfl⟩ := lit_of (F := F1) [(0, l_v), (25, Value.bool false)] ⟨hf 0 (by kernel_rfl), hd 7 25 (by kernel_rfl), trivial⟩
     exact sp_take rfl rfl ((o_move (l_v) rfl (⟨(Keep.refl _ _), h_l⟩)))
    ·intro F1 w1 k1 hf hd
     obtain ⟨F2, rfl⟩ := lit_of (F := F1) [(8, vI ((k : Nat) : Int)), (25, Value.bool false)] ⟨hf 8 (by kernel_rfl), hd 7 25 (by kernel_rfl), trivial⟩
     exact sp_take rfl rfl ((o_move (vI ((k : Nat) : Int)) rfl (⟨(Keep.refl _ _), rfl⟩)))
    ·intro F1 w1 k1 hf hd
     obtain ⟨v2576, e2578, hl2577⟩ : ∃ v, F1 27 = v ∧ RdL Enc.devop w1 (Bl0 ++ O) v (l) := ⟨_, rfl, hd 9 27 (by kernel_rfl)⟩
     have := hl2577.len_le
     obtain ⟨F2, rfl⟩ := lit_of (F := F1) [(25, Value.bool false), (27, v2576), (28, vI ((k : Nat) : Int))] ⟨hd 7 25 (by kernel_rfl), e2578, hd 10 28 (by kernel_rfl), trivial⟩
     exact sp_take rfl rfl ((o_idx Try.underlying26 s_40 .i64 ((k : Nat) : Int) k rfl rfl rfl hl2577 (by omega) fun a2579 hp2580 => (⟨(Keep.refl _ _), ⟨a2579, rfl, hp2580⟩⟩)))
    ·intro F1 w1 k1 hf hd
     obtain ⟨a2581, e2583, hp2582⟩ : ∃ aX_, F1 29 = .pointer (some aX_) ∧ PT Enc.devop w1 (Bl0 ++ O) (.pointer (some aX_)) (l[k]!) := hd 11 29 (by kernel_rfl)
     obtain ⟨F2, rfl⟩ := lit_of (F := F1) [(25, Value.bool false), (29, Value.pointer (some a2581))] ⟨hd 7 25 (by kernel_rfl), e2583, trivial⟩
     refine sp_take rfl rfl ((o_loadS Try.underlying40 rfl s_40 rfl hp2582 fun cs2584 hs2585 => (?_)))
     obtain rfl := hs2585
     exact ⟨(Keep.refl _ _), rfl⟩
    intro F2587 w2588 k2586 hT2589 hF2590
    have s2591 := sl0.call k2586
    have m2592 : Mv Bl0 wl0 Bl0 w2588 := Mv.of_keep k2586
    have h_l := h_l.mv m2592
    have bx2544 := bx2544.keep k2586 (by simp)
    have hbs_0_b2546 := hbs_0_b2546.keep k2586 (by simp)
    obtain ⟨F2, rfl⟩ := lit_of (F := F2587) [(0, l_v), (1, vI c), (6, Value.pointer (some ⟨b2539, 0, none⟩)), (7, Value.pointer (some ⟨b2546, 0, none⟩)), (8, vI ((k : Nat) : Int)), (54, undef), (25, Value.bool false), (26, Value.agg #[vI ((foldAt l c first k).copy), vI ((foldAt l c first k).device), vI ((foldAt l c first k).token), Value.bool ((foldAt l c first k).shown)]), (30, Value.agg #[vI ((l[k]!).device), vI ((l[k]!).no), vI ((l[k]!).kind), vI ((l[k]!).copy), vI ((l[k]!).to), vI ((l[k]!).token)])] ⟨hF2590 0 (by kernel_rfl), hF2590 1 (by kernel_rfl), hF2590 6 (by kernel_rfl), hF2590 7 (by kernel_rfl), hF2590 8 (by kernel_rfl), hF2590 54 (by kernel_rfl), hT2589 7 25 (by kernel_rfl) (by decide), hT2589 8 26 (by kernel_rfl) (by decide), hT2589 12 30 (by kernel_rfl) (by decide), trivial⟩
    clear hT2589 hF2590
    refine wl_t rfl (o_callK (vs := [Value.agg #[vI ((foldAt l c first k).copy), vI ((foldAt l c first k).device), vI ((foldAt l c first k).token), Value.bool ((foldAt l c first k).shown)], Value.agg #[vI ((l[k]!).device), vI ((l[k]!).no), vI ((l[k]!).kind), vI ((l[k]!).copy), vI ((l[k]!).to), vI ((l[k]!).token)]]) enter_102 (c_counts (O := Bl0 ++ O) [vI ((foldAt l c first k).copy), vI ((foldAt l c first k).device), vI ((foldAt l c first k).token), Value.bool ((foldAt l c first k).shown)] (foldAt l c first k) [vI ((l[k]!).device), vI ((l[k]!).no), vI ((l[k]!).kind), vI ((l[k]!).copy), vI ((l[k]!).to), vI ((l[k]!).token)] (l[k]!) w2588 rfl rfl (foldAt_tok hpre0 c first k).1 (foldAt_tok hpre0 c first k).2 s2591.lt) rfl s2591 fun v2595 w2596 s2597 m2598 k2599 r2600 => (?_))
    obtain rfl := r2600
    have h_l := h_l.mv m2598
    have bx2544 := bx2544.keep k2599 (by simp)
    have hbs_0_b2546 := hbs_0_b2546.keep k2599 (by simp)
    refine wl_t rfl (o_not (countsM (foldAt l c first k) (l[k]!)) rfl (wl_s (o_pickF (Value.bool (!(countsM (foldAt l c first k) (l[k]!)))) rfl rfl (wl_nil (thenQ_n (?_))))))
    refine cw_cond (!(countsM (foldAt l c first k) (l[k]!))) rfl rfl (fun hc2601 => ?_) (fun hc2601 => ?_)
    ·have hp2602 : (countsM (foldAt l c first k) (l[k]!)) = false := by first | simpa using hc2601 | (have e := hc2601; simp at e; omega)
     refine cw_exit (thenQ_x (blockQ_x (thenQ_n (?_))))
     refine cw_region (by kernel_rfl) (wl_s (o_move (vI ((k : Nat) : Int)) rfl (wl_s (o_add .i64 ((k : Nat) : Int) (1 : Int) (((k + 1 : Nat) : Int)) rfl rfl (w64 (by omega) (by omega)) (wl_s (o_assign (vI ((k + 1 : Nat) : Int)) rfl (wl_nil (thenQ_n (?_)))))))))
     exact ⟨_, (by omega), (k + 1), Bl0, (by first | omega | (simp; done) | (simp; omega) | simp_all), rfl, ⟨_, upds_self _ ⟨rfl, rfl, rfl, rfl, (by first | rfl | exact congrArg (Value.int _) (by first | omega | (simp))), rfl, trivial⟩⟩, s2597, h_l, bx2544, (by first | assumption | (repeat (first | exact List.mem_cons_self | assumption | apply List.mem_cons_of_mem)) | (apply_assumption; assumption)), (by rw [show ([vI ((foldAt l c first (k + 1)).copy), vI ((foldAt l c first (k + 1)).device), vI ((foldAt l c first (k + 1)).token), Value.bool ((foldAt l c first (k + 1)).shown)] : List Value) = [vI ((foldAt l c first k).copy), vI ((foldAt l c first k).device), vI ((foldAt l c first k).token), Value.bool ((foldAt l c first k).shown)] from by first | rw [fold_other (by omega) (by assumption)] | rw [fold_no (by omega) (by assumption)] | rw [fold_give (by omega) (by assumption) (by assumption) (by omega)] | rw [fold_show (by omega) (by assumption) (by assumption) (chk_kind hpre0 (by omega) (by assumption))]]; exact hbs_0_b2546), (by first | assumption | (repeat (first | exact List.mem_cons_self | assumption | apply List.mem_cons_of_mem)) | (apply_assumption; assumption))⟩
    ·have hp2603 : (countsM (foldAt l c first k) (l[k]!)) = true := by first | simpa using hc2601 | (have e := hc2601; simp at e; omega)
     refine cw_skip (thenQ_n (?_))
     refine cw_seq (?_)
     refine cw_region (by kernel_rfl) (wl_s (o_move (l_v) rfl (wl_s (o_move (vI ((k : Nat) : Int)) rfl (wl_s (o_idx Try.underlying26 s_40 .i64 ((k : Nat) : Int) k rfl rfl rfl h_l (by omega) fun a2604 hp2605 => (wl_s (o_fieldR 5 f_40_5 ((l[k]!).token) rfl hp2605 (fun _ _ _ h => Enc_devop_f5 h) fun a2606 hp2607 => (wl_s (o_loadI Try.underlying3 rfl rfl hp2607 (wl_s (o_fieldL 2 f_47_2 rfl (wl_n (o_store1 (vI ((l[k]!).token)) rfl rfl rfl s_3 (by repeat (first | assumption | constructor)) hbs_0_b2546 (of_decide_eq_true rfl) s2597 fun w2608 s2609 m2610 k2611 bx2612 => (?_)))))))))))))))
     have h_l := h_l.mv m2610
     have bx2544 := bx2544.keep k2611 (nin1 ne2553)
     refine wl_nil (thenQ_n (?_))
     refine cw_seq (?_)
     refine cw_region (by kernel_rfl) (wl_s (o_move (l_v) rfl (wl_s (o_move (vI ((k : Nat) : Int)) rfl (wl_s (o_idx Try.underlying26 s_40 .i64 ((k : Nat) : Int) k rfl rfl rfl h_l (by omega) fun a2613 hp2614 => (wl_s (o_fieldR 2 f_40_2 ((l[k]!).kind) rfl hp2614 (fun _ _ _ h => Enc_devop_f2 h) fun a2615 hp2616 => (wl_s (o_loadI Try.underlying3 rfl rfl hp2616 (wl_s (o_eql .i64 ((l[k]!).kind) (1 : Int) rfl rfl (wl_nil (thenQ_n (?_)))))))))))))))
     refine cw_cond (((l[k]!).kind) == (1 : Int)) rfl rfl (fun hc2617 => ?_) (fun hc2617 => ?_)
     ·have hp2618 : (l[k]!).kind = (1 : Int) := by first | simpa using hc2617 | (have e := hc2617; simp at e; omega)
      refine cw_region (by kernel_rfl) (wl_s (o_move (l_v) rfl (wl_s (o_move (vI ((k : Nat) : Int)) rfl (wl_s (o_idx Try.underlying26 s_40 .i64 ((k : Nat) : Int) k rfl rfl rfl h_l (by omega) fun a2619 hp2620 => (wl_s (o_fieldR 4 f_40_4 ((l[k]!).to) rfl hp2620 (fun _ _ _ h => Enc_devop_f4 h) fun a2621 hp2622 => (wl_s (o_loadI Try.underlying3 rfl rfl hp2622 (wl_s (o_fieldL 1 f_47_1 rfl (wl_n (o_store1 (vI ((l[k]!).to)) rfl rfl rfl s_3 (by repeat (first | assumption | constructor)) bx2612 (of_decide_eq_true rfl) s2609 fun w2623 s2624 m2625 k2626 bx2627 => (?_)))))))))))))))
      have h_l := h_l.mv m2625
      have bx2544 := bx2544.keep k2626 (nin1 ne2553)
      refine wl_nil (blockQ_n (thenQ_n (?_)))
      refine cw_region (by kernel_rfl) (wl_s (o_move (vI ((k : Nat) : Int)) rfl (wl_s (o_add .i64 ((k : Nat) : Int) (1 : Int) (((k + 1 : Nat) : Int)) rfl rfl (w64 (by omega) (by omega)) (wl_s (o_assign (vI ((k + 1 : Nat) : Int)) rfl (wl_nil (thenQ_n (?_)))))))))
      exact ⟨_, (by omega), (k + 1), Bl0, (by first | omega | (simp; done) | (simp; omega) | simp_all), rfl, ⟨_, upds_self _ ⟨rfl, rfl, rfl, rfl, (by first | rfl | exact congrArg (Value.int _) (by first | omega | (simp))), rfl, trivial⟩⟩, s2624, h_l, bx2544, (by first | assumption | (repeat (first | exact List.mem_cons_self | assumption | apply List.mem_cons_of_mem)) | (apply_assumption; assumption)), (by rw [show ([vI ((foldAt l c first (k + 1)).copy), vI ((foldAt l c first (k + 1)).device), vI ((foldAt l c first (k + 1)).token), Value.bool ((foldAt l c first (k + 1)).shown)] : List Value) = [vI ((foldAt l c first k).copy), vI ((l[k]!).to), vI ((l[k]!).token), Value.bool ((foldAt l c first k).shown)] from by first | rw [fold_other (by omega) (by assumption)] | rw [fold_no (by omega) (by assumption)] | rw [fold_give (by omega) (by assumption) (by assumption) (by omega)] | rw [fold_show (by omega) (by assumption) (by assumption) (chk_kind hpre0 (by omega) (by assumption))]]; exact bx2627), (by first | assumption | (repeat (first | exact List.mem_cons_self | assumption | apply List.mem_cons_of_mem)) | (apply_assumption; assumption))⟩
     ·have hp2628 : (l[k]!).kind ≠ (1 : Int) := by first | simpa using hc2617 | (have e := hc2617; simp at e; omega)
      refine cw_region (by kernel_rfl) (wl_s (o_fieldL 3 f_47_3 rfl (wl_n (o_store1 (Value.bool true) rfl rfl rfl s_4 (by repeat (first | assumption | constructor)) bx2612 (of_decide_eq_true rfl) s2609 fun w2629 s2630 m2631 k2632 bx2633 => (?_)))))
      have h_l := h_l.mv m2631
      have bx2544 := bx2544.keep k2632 (nin1 ne2553)
      refine wl_nil (blockQ_n (thenQ_n (?_)))
      refine cw_region (by kernel_rfl) (wl_s (o_move (vI ((k : Nat) : Int)) rfl (wl_s (o_add .i64 ((k : Nat) : Int) (1 : Int) (((k + 1 : Nat) : Int)) rfl rfl (w64 (by omega) (by omega)) (wl_s (o_assign (vI ((k + 1 : Nat) : Int)) rfl (wl_nil (thenQ_n (?_)))))))))
      exact ⟨_, (by omega), (k + 1), Bl0, (by first | omega | (simp; done) | (simp; omega) | simp_all), rfl, ⟨_, upds_self _ ⟨rfl, rfl, rfl, rfl, (by first | rfl | exact congrArg (Value.int _) (by first | omega | (simp))), rfl, trivial⟩⟩, s2630, h_l, bx2544, (by first | assumption | (repeat (first | exact List.mem_cons_self | assumption | apply List.mem_cons_of_mem)) | (apply_assumption; assumption)), (by rw [show ([vI ((foldAt l c first (k + 1)).copy), vI ((foldAt l c first (k + 1)).device), vI ((foldAt l c first (k + 1)).token), Value.bool ((foldAt l c first (k + 1)).shown)] : List Value) = [vI ((foldAt l c first k).copy), vI ((foldAt l c first k).device), vI ((l[k]!).token), Value.bool true] from by first | rw [fold_other (by omega) (by assumption)] | rw [fold_no (by omega) (by assumption)] | rw [fold_give (by omega) (by assumption) (by assumption) (by omega)] | rw [fold_show (by omega) (by assumption) (by assumption) (chk_kind hpre0 (by omega) (by assumption))]]; exact bx2633), (by first | assumption | (repeat (first | exact List.mem_cons_self | assumption | apply List.mem_cons_of_mem)) | (apply_assumption; assumption))⟩
   ·have hp2634 : (l[k]!).copy ≠ c := by first | simpa using hb2561 | (have e := hb2561; simp at e; omega)
    refine cw_draw' 13 _ _ [fun (vT : Value) (wT : World) => RdL Enc.devop wT (Bl0 ++ O) vT (l), isV (vI ((k : Nat) : Int)), fun (vT : Value) (wT : World) => ∃ aT, vT = .pointer (some aT) ∧ PT Enc.devop wT (Bl0 ++ O) (.pointer (some aT)) (l[k]!), fun (vT : Value) (wT : World) => ∃ aT, vT = .pointer (some aT) ∧ PT Enc.int wT (Bl0 ++ O) (.pointer (some aT)) ((l[k]!).copy), isV (vI ((l[k]!).copy)), isV (vI c), isV (Value.bool true), isV (Value.bool true), isV undef, isV undef, isV undef, isV undef, isV undef] (by kernel_rfl) (by kernel_rfl) (by kernel_rfl) (by kernel_rfl) rfl rfl ⟨fun _ _ _ h k => h.mv (Mv.of_keep k), kI, fun _ _ _ ⟨a, e, h⟩ k => ⟨a, e, h.mv (Mv.of_keep k)⟩, fun _ _ _ ⟨a, e, h⟩ k => ⟨a, e, h.mv (Mv.of_keep k)⟩, kI, kI, kI, kI, kI, kI, kI, kI, kI, trivial⟩ ⟨?_, ?_, ?_, ?_, ?_, ?_, ?_, ?_, ?_, ?_, ?_, ?_, ?_, trivial⟩ ?_
    ·intro F1 w1 k1 hf hd
     have k0 := (Keep.drew [] wl0).trans k1
     have m1 : Mv Bl0 wl0 Bl0 w1 := Mv.of_keep k0
     have h_l := h_l.mv m1
     obtain ⟨F2, rfl⟩ := lit_of (F := F1) [(0, l_v)] ⟨hf 0 (by kernel_rfl), trivial⟩
     exact sp_plain rfl ((o_move (l_v) rfl (⟨(Keep.refl _ _), h_l⟩)))
    ·intro F1 w1 k1 hf hd
     obtain ⟨F2, rfl⟩ := lit_of (F := F1) [(8, vI ((k : Nat) : Int))] ⟨hf 8 (by kernel_rfl), trivial⟩
     exact sp_plain rfl ((o_move (vI ((k : Nat) : Int)) rfl (⟨(Keep.refl _ _), rfl⟩)))
    ·intro F1 w1 k1 hf hd
     obtain ⟨v2635, e2637, hl2636⟩ : ∃ v, F1 18 = v ∧ RdL Enc.devop w1 (Bl0 ++ O) v (l) := ⟨_, rfl, hd 0 18 (by kernel_rfl)⟩
     have := hl2636.len_le
     obtain ⟨F2, rfl⟩ := lit_of (F := F1) [(18, v2635), (19, vI ((k : Nat) : Int))] ⟨e2637, hd 1 19 (by kernel_rfl), trivial⟩
     exact sp_plain rfl ((o_idx Try.underlying26 s_40 .i64 ((k : Nat) : Int) k rfl rfl rfl hl2636 (by omega) fun a2638 hp2639 => (⟨(Keep.refl _ _), ⟨a2638, rfl, hp2639⟩⟩)))
    ·intro F1 w1 k1 hf hd
     obtain ⟨a2640, e2642, hp2641⟩ : ∃ aX_, F1 20 = .pointer (some aX_) ∧ PT Enc.devop w1 (Bl0 ++ O) (.pointer (some aX_)) (l[k]!) := hd 2 20 (by kernel_rfl)
     obtain ⟨F2, rfl⟩ := lit_of (F := F1) [(20, Value.pointer (some a2640))] ⟨e2642, trivial⟩
     exact sp_plain rfl ((o_fieldR 3 f_40_3 ((l[k]!).copy) rfl hp2641 (fun _ _ _ h => Enc_devop_f3 h) fun a2643 hp2644 => (⟨(Keep.refl _ _), ⟨a2643, rfl, hp2644⟩⟩)))
    ·intro F1 w1 k1 hf hd
     obtain ⟨a2645, e2647, hp2646⟩ : ∃ aX_, F1 21 = .pointer (some aX_) ∧ PT Enc.int w1 (Bl0 ++ O) (.pointer (some aX_)) ((l[k]!).copy) := hd 3 21 (by kernel_rfl)
     obtain ⟨F2, rfl⟩ := lit_of (F := F1) [(21, Value.pointer (some a2645))] ⟨e2647, trivial⟩
     exact sp_plain rfl ((o_loadI Try.underlying3 rfl rfl hp2646 (⟨(Keep.refl _ _), rfl⟩)))
    ·intro F1 w1 k1 hf hd
     obtain ⟨F2, rfl⟩ := lit_of (F := F1) [(1, vI c)] ⟨hf 1 (by kernel_rfl), trivial⟩
     exact sp_plain rfl ((o_move (vI c) rfl (⟨(Keep.refl _ _), rfl⟩)))
    ·intro F1 w1 k1 hf hd
     obtain ⟨F2, rfl⟩ := lit_of (F := F1) [(22, vI ((l[k]!).copy)), (23, vI c)] ⟨hd 4 22 (by kernel_rfl), hd 5 23 (by kernel_rfl), trivial⟩
     refine sp_plain rfl ((o_neq .i64 ((l[k]!).copy) c rfl rfl (?_)))
     exact ⟨(Keep.refl _ _), congrArg Value.bool (hb2561)⟩
    ·intro F1 w1 k1 hf hd
     obtain ⟨F2, rfl⟩ := lit_of (F := F1) [(24, Value.bool true)] ⟨hd 6 24 (by kernel_rfl), trivial⟩
     exact sp_plain rfl ((o_move (Value.bool true) rfl (⟨(Keep.refl _ _), rfl⟩)))
    ·intro F1 w1 k1 hf hd
     exact sp_skipD rfl rfl (hd 7 25 (by kernel_rfl)) rfl rfl
    ·intro F1 w1 k1 hf hd
     exact sp_skipD rfl rfl (hd 7 25 (by kernel_rfl)) rfl rfl
    ·intro F1 w1 k1 hf hd
     exact sp_skipD rfl rfl (hd 7 25 (by kernel_rfl)) rfl rfl
    ·intro F1 w1 k1 hf hd
     exact sp_skipD rfl rfl (hd 7 25 (by kernel_rfl)) rfl rfl
    ·intro F1 w1 k1 hf hd
     exact sp_skipD rfl rfl (hd 7 25 (by kernel_rfl)) rfl rfl
    intro F2649 w2650 k2648 hT2651 hF2652
    have s2653 := sl0.call k2648
    have m2654 : Mv Bl0 wl0 Bl0 w2650 := Mv.of_keep k2648
    have h_l := h_l.mv m2654
    have bx2544 := bx2544.keep k2648 (by simp)
    have hbs_0_b2546 := hbs_0_b2546.keep k2648 (by simp)
    obtain ⟨F2, rfl⟩ := lit_of (F := F2649) [(0, l_v), (1, vI c), (6, Value.pointer (some ⟨b2539, 0, none⟩)), (7, Value.pointer (some ⟨b2546, 0, none⟩)), (8, vI ((k : Nat) : Int)), (54, undef), (25, Value.bool true)] ⟨hF2652 0 (by kernel_rfl), hF2652 1 (by kernel_rfl), hF2652 6 (by kernel_rfl), hF2652 7 (by kernel_rfl), hF2652 8 (by kernel_rfl), hF2652 54 (by kernel_rfl), hT2651 7 25 (by kernel_rfl) (by decide), trivial⟩
    clear hT2651 hF2652
    refine wl_k rfl (wl_k rfl (wl_s (o_pickT (Value.bool true) rfl rfl (wl_nil (thenQ_n (?_))))))
    refine cw_cond true rfl rfl (fun _ => ?_) (fun h => by cases h)
    refine cw_exit (thenQ_x (blockQ_x (thenQ_n (?_))))
    refine cw_region (by kernel_rfl) (wl_s (o_move (vI ((k : Nat) : Int)) rfl (wl_s (o_add .i64 ((k : Nat) : Int) (1 : Int) (((k + 1 : Nat) : Int)) rfl rfl (w64 (by omega) (by omega)) (wl_s (o_assign (vI ((k + 1 : Nat) : Int)) rfl (wl_nil (thenQ_n (?_)))))))))
    exact ⟨_, (by omega), (k + 1), Bl0, (by first | omega | (simp; done) | (simp; omega) | simp_all), rfl, ⟨_, upds_self _ ⟨rfl, rfl, rfl, rfl, (by first | rfl | exact congrArg (Value.int _) (by first | omega | (simp))), rfl, trivial⟩⟩, s2653, h_l, bx2544, (by first | assumption | (repeat (first | exact List.mem_cons_self | assumption | apply List.mem_cons_of_mem)) | (apply_assumption; assumption)), (by rw [show ([vI ((foldAt l c first (k + 1)).copy), vI ((foldAt l c first (k + 1)).device), vI ((foldAt l c first (k + 1)).token), Value.bool ((foldAt l c first (k + 1)).shown)] : List Value) = [vI ((foldAt l c first k).copy), vI ((foldAt l c first k).device), vI ((foldAt l c first k).token), Value.bool ((foldAt l c first k).shown)] from by first | rw [fold_other (by omega) (by assumption)] | rw [fold_no (by omega) (by assumption)] | rw [fold_give (by omega) (by assumption) (by assumption) (by omega)] | rw [fold_show (by omega) (by assumption) (by assumption) (chk_kind hpre0 (by omega) (by assumption))]]; exact hbs_0_b2546), (by first | assumption | (repeat (first | exact List.mem_cons_self | assumption | apply List.mem_cons_of_mem)) | (apply_assumption; assumption))⟩
  ·have hp2657 : (l.length : Int) ≤ ((k : Nat) : Int) := by first | simpa using hc2559 | (have e := hc2559; simp at e; omega)
   obtain rfl : k = l.length := by omega
   refine cw_exit (thenQ_x (thenQ_x (blockQ_x (thenQ_n (?_)))))
   refine cw_seq (?_)
   refine cw_region (by kernel_rfl) (wl_s (o_loadBxA (vs := [vI ((foldAt l c first l.length).copy), vI ((foldAt l c first l.length).device), vI ((foldAt l c first l.length).token), Value.bool ((foldAt l c first l.length).shown)]) Try.underlying47 rfl s_47 rfl hbs_0_b2546 rfl (wl_n (o_store (vs := [vI ((foldAt l c first l.length).copy), vI ((foldAt l c first l.length).device), vI ((foldAt l c first l.length).token), Value.bool ((foldAt l c first l.length).shown)]) (.agg #[vI ((foldAt l c first l.length).copy), vI ((foldAt l c first l.length).device), vI ((foldAt l c first l.length).token), Value.bool ((foldAt l c first l.length).shown)]) rfl rfl rfl s_47 (fun u hu => by simp only [List.mem_cons, List.not_mem_nil, or_false] at hu; rcases hu with rfl | rfl | rfl | rfl <;> first | rfl) (by repeat (first | assumption | constructor)) bx2544 (of_decide_eq_true rfl) sl0 fun w2658 s2659 m2660 k2661 bx2662 => (?_)))))
   refine wl_nil (thenQ_n (?_))
   refine cw_ret (end_r rfl (rescA (vs := [vI ((foldAt l c first l.length).copy), vI ((foldAt l c first l.length).device), vI ((foldAt l c first l.length).token), Value.bool ((foldAt l c first l.length).shown)]) rfl rfl Try.underlying47 rfl s_47 rfl bx2662 rfl) (?_))
   have e : (holdM l first c) = (foldAt l c first l.length) := by exact (foldAt_end l c first).symm
   exact ⟨_, rfl, s2659.keep, by rw [e]; exact ⟨[vI ((foldAt l c first l.length).copy), vI ((foldAt l c first l.length).device), vI ((foldAt l c first l.length).token), Value.bool ((foldAt l c first l.length).shown)], rfl, Enc.out (B := Bl0) rfl⟩⟩
set_option maxHeartbeats 4000000 in
set_option maxRecDepth 100000 in
theorem c_refState {O : List Nat} (l_v : Value) (l : List DeviceOp) (copies : Int) (first : Int) (w : World) (h_l : RdL Enc.devop w O l_v l) (hO : ∀ b ∈ O, b < w.heap.size) : CallsK Try.prog 33 [l_v, vI copies, vI first] w (fun v w' => ∃ (x0 : Value), v = .tuple #[x0, vI ((stateM l copies first).2)] ∧ RdL Enc.holding w' (O) x0 ((stateM l copies first).1)) :=  by
 have lim_l := h_l.len_le
 have h_l : RdL Enc.devop w ([] ++ O) l_v l := h_l
 have s0 : St w O w [] := St.start hO
 refine callsK_of 35 Try.func33 rfl rfl (of_decide_eq_true rfl) (fun F0 => ?_)
 refine cw_seq (?_)
 refine cw_region (by kernel_rfl) (wl_s (o_assign (Value.slice none 0 0) rfl (wl_s (o_assign (vI (0 : Int)) rfl (wl_nil (thenQ_n (?_)))))))
 refine cw_seq (?_)
 refine cw_seq (?_)
 refine cw_region (by kernel_rfl) (wl_s (o_move (l_v) rfl (wl_s (o_callK (vs := [l_v]) enter_30 (c_refCheck (O := [] ++ O) l_v l w h_l s0.lt) rfl s0 fun v2663 w2664 s2665 m2666 k2667 r2668 => (?_)))))
 obtain rfl := r2668
 have h_l := h_l.mv m2666
 refine wl_s (o_neq .i64 (checkM l) (0 : Int) rfl rfl (wl_nil (thenQ_n (?_))))
 refine cw_cond ((checkM l) != (0 : Int)) rfl rfl (fun hc2669 => ?_) (fun hc2669 => ?_)
 ·have hp2670 : checkM l ≠ (0 : Int) := by first | simpa using hc2669 | (have e := hc2669; simp at e; omega)
  refine cw_seq (?_)
  refine cw_region (by kernel_rfl) (wl_s (o_assign (Value.slice none 0 0) rfl (wl_s (o_assign (vI (420 : Int)) rfl (wl_nil (thenQ_n (?_)))))))
  refine cw_ret (thenQ_r (end_r rfl (res2 rfl rfl rfl rfl) (?_)))
  have e2671 : ((stateM l copies first).1) = ([]) := by first | exact congrArg (fun p => p.1) (show stateM l copies first = _ from state_1 (by assumption)) | exact congrArg (fun p => p.1) (show stateM l copies first = _ from rstate_2 (by assumption) (by assumption)) | exact congrArg (fun p => p.1) (show stateM l copies first = _ from state_4 (by assumption) (by assumption)) | exact congrArg (fun p => p.1) (show stateM l copies first = _ from rstate_5 (by assumption) (by assumption) (by assumption))
  have e2672 : ((stateM l copies first).2) = (420 : Int) := by first | exact congrArg (fun p => p.2) (show stateM l copies first = _ from state_1 (by assumption)) | exact congrArg (fun p => p.2) (show stateM l copies first = _ from rstate_2 (by assumption) (by assumption)) | exact congrArg (fun p => p.2) (show stateM l copies first = _ from state_4 (by assumption) (by assumption)) | exact congrArg (fun p => p.2) (show stateM l copies first = _ from rstate_5 (by assumption) (by assumption) (by assumption))
  exact ⟨_, rfl, s2665.keep, by rw [e2671, e2672]; exact ⟨.slice none 0 0, rfl, RdL.nil _ _ _⟩⟩
 ·have hp2673 : checkM l = (0 : Int) := by first | simpa using hc2669 | (have e := hc2669; simp at e; omega)
  have hchk : checkM l = 0 := hp2673
  have hchk_1 := (check_ok hchk).1
  refine cw_skip (thenQ_n (?_))
  refine cw_seq (?_)
  refine cw_seq (?_)
  refine cw_region (by kernel_rfl) (wl_s (o_move (vI copies) rfl (wl_s (o_callK (vs := [vI copies, vI (0 : Int), vI (1024 : Int)]) enter_74 (c_in (O := [] ++ O) copies (0 : Int) (1024 : Int) w2664 s2665.lt) rfl s2665 fun v2674 w2675 s2676 m2677 k2678 r2679 => (?_)))))
  obtain rfl := r2679
  have h_l := h_l.mv m2677
  refine wl_s (o_not (inD copies (0 : Int) (1024 : Int)) rfl (wl_s (o_move (Value.bool (!(inD copies (0 : Int) (1024 : Int)))) rfl (?_))))
  cases hb2680 : (!(inD copies (0 : Int) (1024 : Int)))
  ·have hp2681 : (inD copies (0 : Int) (1024 : Int)) = true := by first | simpa using hb2680 | (have e := hb2680; simp at e; omega)
   have hcl := inD_le hp2681
   refine wl_t rfl (o_move (vI first) rfl (wl_t rfl (o_callK (vs := [vI first]) enter_75 (c_refDev (O := [] ++ O) first w2675 s2676.lt) rfl s2676 fun v2682 w2683 s2684 m2685 k2686 r2687 => (?_))))
   obtain rfl := r2687
   have h_l := h_l.mv m2685
   refine wl_t rfl (o_not (isDevM first) rfl (wl_s (o_pickF (Value.bool (!(isDevM first))) rfl rfl (wl_nil (thenQ_n (?_))))))
   refine cw_cond (!(isDevM first)) rfl rfl (fun hc2688 => ?_) (fun hc2688 => ?_)
   ·have hp2689 : (isDevM first) = false := by first | simpa using hc2688 | (have e := hc2688; simp at e; omega)
    refine cw_seq (?_)
    refine cw_region (by kernel_rfl) (wl_s (o_assign (Value.slice none 0 0) rfl (wl_s (o_assign (vI (1 : Int)) rfl (wl_nil (thenQ_n (?_)))))))
    refine cw_ret (thenQ_r (end_r rfl (res2 rfl rfl rfl rfl) (?_)))
    have e2690 : ((stateM l copies first).1) = ([]) := by first | exact congrArg (fun p => p.1) (show stateM l copies first = _ from state_1 (by assumption)) | exact congrArg (fun p => p.1) (show stateM l copies first = _ from rstate_2 (by assumption) (by assumption)) | exact congrArg (fun p => p.1) (show stateM l copies first = _ from state_4 (by assumption) (by assumption)) | exact congrArg (fun p => p.1) (show stateM l copies first = _ from rstate_5 (by assumption) (by assumption) (by assumption))
    have e2691 : ((stateM l copies first).2) = (1 : Int) := by first | exact congrArg (fun p => p.2) (show stateM l copies first = _ from state_1 (by assumption)) | exact congrArg (fun p => p.2) (show stateM l copies first = _ from rstate_2 (by assumption) (by assumption)) | exact congrArg (fun p => p.2) (show stateM l copies first = _ from state_4 (by assumption) (by assumption)) | exact congrArg (fun p => p.2) (show stateM l copies first = _ from rstate_5 (by assumption) (by assumption) (by assumption))
    exact ⟨_, rfl, s2684.keep, by rw [e2690, e2691]; exact ⟨.slice none 0 0, rfl, RdL.nil _ _ _⟩⟩
   ·have hp2692 : (isDevM first) = true := by first | simpa using hc2688 | (have e := hc2688; simp at e; omega)
    refine cw_skip (thenQ_n (?_))
    refine cw_seq (?_)
    refine cw_region (by kernel_rfl) (wl_s (o_litO (E := Enc.holding) (xs := []) Try.underlying43 s_47 z_47 (by decide) [] [] [] rfl rfl rfl (Parts.nil _ _ _) (of_decide_eq_true rfl) s2684 fun v2697 b2699 w2693 e2700 hb2701 s2694 m2695 k2696 hl2698 => (?_)))
    have hB2702 : ∀ b, v2697.ownBlock = some b → b ∈ (b2699 :: []) := fun b hb => by rw [hb2701] at hb; cases hb; simp
    clear e2700 hb2701
    have h_l := h_l.mv m2695
    refine wl_s (o_assign (v2697) rfl (wl_nil (thenQ_n (?_))))
    refine cw_seq (?_)
    refine cw_seq (?_)
    refine cw_region (by kernel_rfl) (wl_s (o_assign (vI (0 : Int)) rfl (wl_nil (thenQ_n (?_)))))
    refine cw_block (?_)
    refine cw_loop (fun mI FI wI => ∃ (k : Nat) (vo0_8 : Value) (B : List Nat), (k : Int) ≤ copies ∧ mI = copies.toNat - k ∧ (∃ F1, FI = upds F1 [(0, l_v), (1, vI copies), (2, vI first), (8, vo0_8), (9, vI ((k : Nat) : Int)), (35, undef)]) ∧ St w O wI B ∧ Own Enc.holding 47 w.heap.size (B ++ O) wI vo0_8 (holdsM l first k) ∧ (∀ b, vo0_8.ownBlock = some b → b ∈ B) ∧ RdL Enc.devop wI (B ++ O) (l_v) (l)) (copies.toNat - (0)) ?_ ?_
    ·exact ⟨(0), v2697, (b2699 :: []), (by omega), rfl, ⟨_, upds_self _ ⟨rfl, rfl, rfl, rfl, (by first | rfl | exact congrArg (Value.int _) (by first | omega | (simp))), rfl, trivial⟩⟩, s2694, (by rw [show holdsM l first (0) = [] from rfl]; exact hl2698), hB2702, h_l⟩
    ·intro ml0 F wl0 hI
     clear h_l
     obtain ⟨k, vo0_8, Bl0, hr0_0, hm0, ⟨Fl0, rfl⟩, sl0, ho0_8, hB0_8, h_l⟩ := hI
     refine cw_seq (?_)
     refine cw_seq (?_)
     refine cw_region (by kernel_rfl) (wl_s (o_move (vI ((k : Nat) : Int)) rfl (wl_s (o_move (vI copies) rfl (wl_s (o_lss .i64 ((k : Nat) : Int) copies rfl rfl (wl_nil (thenQ_n (?_)))))))))
     refine cw_cond (decide (((k : Nat) : Int) < copies)) rfl rfl (fun hc2703 => ?_) (fun hc2703 => ?_)
     ·have hp2704 : ((k : Nat) : Int) < copies := by first | simpa using hc2703 | (have e := hc2703; simp at e; omega)
      refine cw_skip (thenQ_n (?_))
      refine cw_seq (?_)
      refine cw_block (?_)
      refine cw_region (by kernel_rfl) (wl_s (o_move (vo0_8) rfl (wl_s (o_move (l_v) rfl (wl_s (o_move (vI ((k : Nat) : Int)) rfl (wl_s (o_move (vI first) rfl (wl_s (o_callK (vs := [l_v, vI ((k : Nat) : Int), vI first]) enter_76 (c_refHold (O := Bl0 ++ O) l_v l ((k : Nat) : Int) first wl0 h_l hchk sl0.lt) rfl sl0 fun v2705 w2706 s2707 m2708 k2709 r2710 => (?_)))))))))))
      obtain ⟨cs2711, rfl, hs2712⟩ := r2710
      obtain rfl := hs2712
      have h_l := h_l.mv m2708
      have ho0_8 := ho0_8.mv m2708 k2709 (by simp)
      refine wl_s (o_lit (E := Enc.holding) (xs := [.tmp 31]) Try.underlying43 s_47 z_47 (by decide) [.agg #[vI ((holdM l first ((k : Nat) : Int)).copy), vI ((holdM l first ((k : Nat) : Int)).device), vI ((holdM l first ((k : Nat) : Int)).token), Value.bool ((holdM l first ((k : Nat) : Int)).shown)]] [[vI ((holdM l first ((k : Nat) : Int)).copy), vI ((holdM l first ((k : Nat) : Int)).device), vI ((holdM l first ((k : Nat) : Int)).token), Value.bool ((holdM l first ((k : Nat) : Int)).shown)]] [(holdM l first ((k : Nat) : Int))] rfl rfl rfl (Parts.cons rfl rfl (Parts.nil _ _ _)) (of_decide_eq_true rfl) s2707 fun v2717 w2713 s2714 m2715 k2716 hl2718 => (?_))
      have h_l := h_l.mv m2715
      have ho0_8 := ho0_8.mv m2715 k2716 (by simp)
      have := hl2718.len_le
      refine wl_s (o_append (E := Enc.holding) (l := holdsM l first k) (m := [(holdM l first ((k : Nat) : Int))]) Try.underlying43 i_47 rfl (by decide) rfl rfl ho0_8 hl2718 (fun _ hb => .inl hb) hB0_8 (by rw [holdsM_len]; simp; omega) (by rw [holdsM_len]; simp [maxLen]; omega) s2714 fun v2723 w2719 B2725 hB2726 at2727 sub2728 s2720 m2721 k2722 ho2724 => (?_))
      have h_l := h_l.mv m2721
      refine wl_s (o_assign (v2723) rfl (wl_nil (blockQ_n (thenQ_n (?_)))))
      refine cw_region (by kernel_rfl) (wl_s (o_move (vI ((k : Nat) : Int)) rfl (wl_s (o_add .i64 ((k : Nat) : Int) (1 : Int) (((k + 1 : Nat) : Int)) rfl rfl (w64 (by omega) (by omega)) (wl_s (o_assign (vI ((k + 1 : Nat) : Int)) rfl (wl_nil (thenQ_n (?_)))))))))
      exact ⟨_, (by omega), (k + 1), v2723, B2725, (by omega), rfl, ⟨_, upds_self _ ⟨rfl, rfl, rfl, rfl, (by first | rfl | exact congrArg (Value.int _) (by first | omega | (simp))), rfl, trivial⟩⟩, s2720, (by rw [show holdsM l first (k + 1) = (holdsM l first k) ++ ([(holdM l first ((k : Nat) : Int))]) from holdsM_succ l first k]; exact ho2724), hB2726, h_l⟩
     ·have hp2729 : copies ≤ ((k : Nat) : Int) := by first | simpa using hc2703 | (have e := hc2703; simp at e; omega)
      obtain rfl : k = copies.toNat := by omega
      refine cw_exit (thenQ_x (thenQ_x (blockQ_x (thenQ_n (?_)))))
      refine cw_seq (?_)
      refine cw_region (by kernel_rfl) (wl_s (o_move (vo0_8) rfl (wl_s (o_assign (vo0_8) rfl (wl_s (o_assign (vI (0 : Int)) rfl (wl_nil (thenQ_n (?_)))))))))
      refine cw_ret (end_r rfl (res2 rfl rfl rfl rfl) (?_))
      have e2730 : ((stateM l copies first).1) = (holdsM l first copies.toNat) := by first | exact congrArg (fun p => p.1) (show stateM l copies first = _ from state_1 (by assumption)) | exact congrArg (fun p => p.1) (show stateM l copies first = _ from rstate_2 (by assumption) (by assumption)) | exact congrArg (fun p => p.1) (show stateM l copies first = _ from state_4 (by assumption) (by assumption)) | exact congrArg (fun p => p.1) (show stateM l copies first = _ from rstate_5 (by assumption) (by assumption) (by assumption))
      have e2731 : ((stateM l copies first).2) = (0 : Int) := by first | exact congrArg (fun p => p.2) (show stateM l copies first = _ from state_1 (by assumption)) | exact congrArg (fun p => p.2) (show stateM l copies first = _ from rstate_2 (by assumption) (by assumption)) | exact congrArg (fun p => p.2) (show stateM l copies first = _ from state_4 (by assumption) (by assumption)) | exact congrArg (fun p => p.2) (show stateM l copies first = _ from rstate_5 (by assumption) (by assumption) (by assumption))
      exact ⟨_, rfl, sl0.keep, by rw [e2730, e2731]; exact ⟨vo0_8, rfl, ho0_8.pub sl0⟩⟩
  ·have hp2732 : (inD copies (0 : Int) (1024 : Int)) = false := by first | simpa using hb2680 | (have e := hb2680; simp at e; omega)
   refine wl_k rfl (wl_k rfl (wl_k rfl (wl_s (o_pickT (Value.bool true) rfl rfl (wl_nil (thenQ_n (?_)))))))
   refine cw_cond true rfl rfl (fun _ => ?_) (fun h => by cases h)
   refine cw_seq (?_)
   refine cw_region (by kernel_rfl) (wl_s (o_assign (Value.slice none 0 0) rfl (wl_s (o_assign (vI (1 : Int)) rfl (wl_nil (thenQ_n (?_)))))))
   refine cw_ret (thenQ_r (end_r rfl (res2 rfl rfl rfl rfl) (?_)))
   have e2733 : ((stateM l copies first).1) = ([]) := by first | exact congrArg (fun p => p.1) (show stateM l copies first = _ from state_1 (by assumption)) | exact congrArg (fun p => p.1) (show stateM l copies first = _ from rstate_2 (by assumption) (by assumption)) | exact congrArg (fun p => p.1) (show stateM l copies first = _ from state_4 (by assumption) (by assumption)) | exact congrArg (fun p => p.1) (show stateM l copies first = _ from rstate_5 (by assumption) (by assumption) (by assumption))
   have e2734 : ((stateM l copies first).2) = (1 : Int) := by first | exact congrArg (fun p => p.2) (show stateM l copies first = _ from state_1 (by assumption)) | exact congrArg (fun p => p.2) (show stateM l copies first = _ from rstate_2 (by assumption) (by assumption)) | exact congrArg (fun p => p.2) (show stateM l copies first = _ from state_4 (by assumption) (by assumption)) | exact congrArg (fun p => p.2) (show stateM l copies first = _ from rstate_5 (by assumption) (by assumption) (by assumption))
   exact ⟨_, rfl, s2676.keep, by rw [e2733, e2734]; exact ⟨.slice none 0 0, rfl, RdL.nil _ _ _⟩⟩
set_option maxHeartbeats 4000000 in
set_option maxRecDepth 100000 in
theorem c_refMay {O : List Nat} (l_v : Value) (l : List DeviceOp) (copies : Int) (first : Int) (device : Int) (copy : Int) (w : World) (h_l : RdL Enc.devop w O l_v l) (hO : ∀ b ∈ O, b < w.heap.size) : CallsK Try.prog 35 [l_v, vI copies, vI first, vI device, vI copy] w (fun v _ => v = .tuple #[.bool ((mayM l copies first device copy).1), vI ((mayM l copies first device copy).2)]) :=  by
 have lim_l := h_l.len_le
 have h_l : RdL Enc.devop w ([] ++ O) l_v l := h_l
 have s0 : St w O w [] := St.start hO
 refine callsK_of 49 Try.func35 rfl rfl (of_decide_eq_true rfl) (fun F0 => ?_)
 refine cw_seq (?_)
 refine cw_region (by kernel_rfl) (wl_s (o_assign (Value.bool false) rfl (wl_s (o_assign (vI (0 : Int)) rfl (wl_nil (thenQ_n (?_)))))))
 refine cw_seq (?_)
 refine cw_region (by kernel_rfl) (wl_s (o_move (l_v) rfl (wl_s (o_move (vI copies) rfl (wl_s (o_move (vI first) rfl (wl_s (o_callK (vs := [l_v, vI copies, vI first]) enter_33 (c_refState (O := [] ++ O) l_v l copies first w h_l s0.lt) rfl s0 fun v2735 w2736 s2737 m2738 k2739 r2740 => (?_)))))))))
 obtain ⟨x2741, rfl, hl2742⟩ := r2740
 have := hl2742.len_le
 refine wl_s (o_move (Value.tuple #[x2741, vI ((stateM l copies first).2)]) rfl (wl_s (o_extract (x2741) rfl rfl (wl_s (o_extract (vI ((stateM l copies first).2)) rfl rfl (wl_s (o_assign (x2741) rfl (wl_s (o_assign (vI ((stateM l copies first).2)) rfl (wl_nil (thenQ_n (?_))))))))))))
 refine cw_seq (?_)
 refine cw_seq (?_)
 refine cw_region (by kernel_rfl) (wl_s (o_move (vI ((stateM l copies first).2)) rfl (wl_s (o_neq .i64 ((stateM l copies first).2) (0 : Int) rfl rfl (wl_nil (thenQ_n (?_)))))))
 refine cw_cond (((stateM l copies first).2) != (0 : Int)) rfl rfl (fun hc2743 => ?_) (fun hc2743 => ?_)
 ·have hp2744 : (stateM l copies first).2 ≠ (0 : Int) := by first | simpa using hc2743 | (have e := hc2743; simp at e; omega)
  refine cw_seq (?_)
  refine cw_region (by kernel_rfl) (wl_s (o_move (vI ((stateM l copies first).2)) rfl (wl_s (o_assign (Value.bool false) rfl (wl_s (o_assign (vI ((stateM l copies first).2)) rfl (wl_nil (thenQ_n (?_)))))))))
  refine cw_ret (thenQ_r (end_r rfl (res2 rfl rfl rfl rfl) (?_)))
  have e2745 : ((mayM l copies first device copy).1) = false := by first | exact congrArg (fun p => p.1) (show mayM l copies first device copy = _ from may_1 (by assumption)) | exact congrArg (fun p => p.1) (show mayM l copies first device copy = _ from may_2 (by assumption) (.inl (by assumption))) | exact congrArg (fun p => p.1) (show mayM l copies first device copy = _ from may_2 (by assumption) (.inr (inD_f (by assumption)))) | exact congrArg (fun p => p.1) (show mayM l copies first device copy = _ from may_3 (by assumption) (by assumption) (by omega) (by omega) (by assumption)) | exact congrArg (fun p => p.1) (show mayM l copies first device copy = _ from may_4 (by assumption) (by assumption) (by omega) (by omega) (by assumption))
  have e2746 : ((mayM l copies first device copy).2) = ((stateM l copies first).2) := by first | exact congrArg (fun p => p.2) (show mayM l copies first device copy = _ from may_1 (by assumption)) | exact congrArg (fun p => p.2) (show mayM l copies first device copy = _ from may_2 (by assumption) (.inl (by assumption))) | exact congrArg (fun p => p.2) (show mayM l copies first device copy = _ from may_2 (by assumption) (.inr (inD_f (by assumption)))) | exact congrArg (fun p => p.2) (show mayM l copies first device copy = _ from may_3 (by assumption) (by assumption) (by omega) (by omega) (by assumption)) | exact congrArg (fun p => p.2) (show mayM l copies first device copy = _ from may_4 (by assumption) (by assumption) (by omega) (by omega) (by assumption))
  exact ⟨_, rfl, s2737.keep, by rw [e2745, e2746]; exact rfl⟩
 ·have hp2747 : (stateM l copies first).2 = (0 : Int) := by first | simpa using hc2743 | (have e := hc2743; simp at e; omega)
  have hst : (stateM l copies first).2 = 0 := hp2747
  have hsl := state_len hst
  have hsb := (state_ok hst).2.2
  refine cw_skip (thenQ_n (?_))
  refine cw_seq (?_)
  refine cw_seq (?_)
  refine cw_region (by kernel_rfl) (wl_s (o_move (vI device) rfl (wl_s (o_callK (vs := [vI device]) enter_75 (c_refDev (O := [] ++ O) device w2736 s2737.lt) rfl s2737 fun v2748 w2749 s2750 m2751 k2752 r2753 => (?_)))))
  obtain rfl := r2753
  have hl2742 := hl2742.mv m2751
  refine wl_s (o_not (isDevM device) rfl (wl_s (o_move (Value.bool (!(isDevM device))) rfl (?_))))
  cases hb2754 : (!(isDevM device))
  ·have hp2755 : (isDevM device) = true := by first | simpa using hb2754 | (have e := hb2754; simp at e; omega)
   refine wl_t rfl (o_move (vI copy) rfl (wl_t rfl (o_move (vI copies) rfl (wl_t rfl (o_sub .i64 copies (1 : Int) (copies - (1 : Int)) rfl rfl (w64 (by omega) (by omega)) (wl_t rfl (o_callK (vs := [vI copy, vI (0 : Int), vI (copies - (1 : Int))]) enter_74 (c_in (O := [] ++ O) copy (0 : Int) (copies - (1 : Int)) w2749 s2750.lt) rfl s2750 fun v2756 w2757 s2758 m2759 k2760 r2761 => (?_))))))))
   obtain rfl := r2761
   have hl2742 := hl2742.mv m2759
   refine wl_t rfl (o_not (inD copy (0 : Int) (copies - (1 : Int))) rfl (wl_s (o_pickF (Value.bool (!(inD copy (0 : Int) (copies - (1 : Int))))) rfl rfl (wl_nil (thenQ_n (?_))))))
   refine cw_cond (!(inD copy (0 : Int) (copies - (1 : Int)))) rfl rfl (fun hc2762 => ?_) (fun hc2762 => ?_)
   ·have hp2763 : (inD copy (0 : Int) (copies - (1 : Int))) = false := by first | simpa using hc2762 | (have e := hc2762; simp at e; omega)
    refine cw_seq (?_)
    refine cw_region (by kernel_rfl) (wl_s (o_assign (Value.bool false) rfl (wl_s (o_assign (vI (1 : Int)) rfl (wl_nil (thenQ_n (?_)))))))
    refine cw_ret (thenQ_r (end_r rfl (res2 rfl rfl rfl rfl) (?_)))
    have e2764 : ((mayM l copies first device copy).1) = false := by first | exact congrArg (fun p => p.1) (show mayM l copies first device copy = _ from may_1 (by assumption)) | exact congrArg (fun p => p.1) (show mayM l copies first device copy = _ from may_2 (by assumption) (.inl (by assumption))) | exact congrArg (fun p => p.1) (show mayM l copies first device copy = _ from may_2 (by assumption) (.inr (inD_f (by assumption)))) | exact congrArg (fun p => p.1) (show mayM l copies first device copy = _ from may_3 (by assumption) (by assumption) (by omega) (by omega) (by assumption)) | exact congrArg (fun p => p.1) (show mayM l copies first device copy = _ from may_4 (by assumption) (by assumption) (by omega) (by omega) (by assumption))
    have e2765 : ((mayM l copies first device copy).2) = (1 : Int) := by first | exact congrArg (fun p => p.2) (show mayM l copies first device copy = _ from may_1 (by assumption)) | exact congrArg (fun p => p.2) (show mayM l copies first device copy = _ from may_2 (by assumption) (.inl (by assumption))) | exact congrArg (fun p => p.2) (show mayM l copies first device copy = _ from may_2 (by assumption) (.inr (inD_f (by assumption)))) | exact congrArg (fun p => p.2) (show mayM l copies first device copy = _ from may_3 (by assumption) (by assumption) (by omega) (by omega) (by assumption)) | exact congrArg (fun p => p.2) (show mayM l copies first device copy = _ from may_4 (by assumption) (by assumption) (by omega) (by omega) (by assumption))
    exact ⟨_, rfl, s2758.keep, by rw [e2764, e2765]; exact rfl⟩
   ·have hp2766 : (inD copy (0 : Int) (copies - (1 : Int))) = true := by first | simpa using hc2762 | (have e := hc2762; simp at e; omega)
    have hin := inD_t hp2766
    refine cw_skip (thenQ_n (?_))
    refine cw_seq (?_)
    refine cw_region (by kernel_rfl) (wl_s (o_move (x2741) rfl (wl_s (o_move (vI copy) rfl (wl_s (o_idx Try.underlying43 s_47 .i64 copy copy.toNat rfl rfl (by omega) hl2742 (by omega) fun a2767 hp2768 => (wl_s (o_fieldR 1 f_47_1 ((((stateM l copies first).1)[copy.toNat]!).device) rfl hp2768 (fun _ _ _ h => Enc_holding_f1 h) fun a2769 hp2770 => (wl_s (o_loadI Try.underlying3 rfl rfl hp2770 (wl_s (o_move (vI device) rfl (wl_s (o_eql .i64 ((((stateM l copies first).1)[copy.toNat]!).device) device rfl rfl (wl_s (o_move (Value.bool (((((stateM l copies first).1)[copy.toNat]!).device) == device)) rfl (?_)))))))))))))))))
    cases hb2771 : (((((stateM l copies first).1)[copy.toNat]!).device) == device)
    ·have hp2772 : (((stateM l copies first).1)[copy.toNat]!).device ≠ device := by first | simpa using hb2771 | (have e := hb2771; simp at e; omega)
     refine wl_k rfl (wl_k rfl (wl_k rfl (wl_k rfl (wl_k rfl (wl_k rfl (wl_s (o_pickF (Value.bool false) rfl rfl (wl_s (o_assign (Value.bool false) rfl (wl_s (o_assign (vI (0 : Int)) rfl (wl_nil (thenQ_n (?_))))))))))))))
     refine cw_ret (end_r rfl (res2 rfl rfl rfl rfl) (?_))
     have e2773 : ((mayM l copies first device copy).1) = false := by first | exact congrArg (fun p => p.1) (show mayM l copies first device copy = _ from may_1 (by assumption)) | exact congrArg (fun p => p.1) (show mayM l copies first device copy = _ from may_2 (by assumption) (.inl (by assumption))) | exact congrArg (fun p => p.1) (show mayM l copies first device copy = _ from may_2 (by assumption) (.inr (inD_f (by assumption)))) | exact congrArg (fun p => p.1) (show mayM l copies first device copy = _ from may_3 (by assumption) (by assumption) (by omega) (by omega) (by assumption)) | exact congrArg (fun p => p.1) (show mayM l copies first device copy = _ from may_4 (by assumption) (by assumption) (by omega) (by omega) (by assumption))
     have e2774 : ((mayM l copies first device copy).2) = (0 : Int) := by first | exact congrArg (fun p => p.2) (show mayM l copies first device copy = _ from may_1 (by assumption)) | exact congrArg (fun p => p.2) (show mayM l copies first device copy = _ from may_2 (by assumption) (.inl (by assumption))) | exact congrArg (fun p => p.2) (show mayM l copies first device copy = _ from may_2 (by assumption) (.inr (inD_f (by assumption)))) | exact congrArg (fun p => p.2) (show mayM l copies first device copy = _ from may_3 (by assumption) (by assumption) (by omega) (by omega) (by assumption)) | exact congrArg (fun p => p.2) (show mayM l copies first device copy = _ from may_4 (by assumption) (by assumption) (by omega) (by omega) (by assumption))
     exact ⟨_, rfl, s2758.keep, by rw [e2773, e2774]; exact rfl⟩
    ·have hp2775 : (((stateM l copies first).1)[copy.toNat]!).device = device := by first | simpa using hb2771 | (have e := hb2771; simp at e; omega)
     refine wl_t rfl (o_move (x2741) rfl (wl_t rfl (o_move (vI copy) rfl (wl_t rfl (o_idx Try.underlying43 s_47 .i64 copy copy.toNat rfl rfl (by omega) hl2742 (by omega) fun a2776 hp2777 => (wl_t rfl (o_fieldR 3 f_47_3 ((((stateM l copies first).1)[copy.toNat]!).shown) rfl hp2777 (fun _ _ _ h => Enc_holding_f3 h) fun a2778 hp2779 => (wl_t rfl (o_loadT Try.underlying4 rfl rfl hp2779 (wl_t rfl (o_not ((((stateM l copies first).1)[copy.toNat]!).shown) rfl (wl_s (o_pickT (Value.bool (!((((stateM l copies first).1)[copy.toNat]!).shown))) rfl rfl (wl_s (o_assign (Value.bool (!((((stateM l copies first).1)[copy.toNat]!).shown))) rfl (wl_s (o_assign (vI (0 : Int)) rfl (wl_nil (thenQ_n (?_))))))))))))))))))))
     refine cw_ret (end_r rfl (res2 rfl rfl rfl rfl) (?_))
     have e2780 : ((mayM l copies first device copy).1) = (!((((stateM l copies first).1)[copy.toNat]!).shown)) := by first | exact congrArg (fun p => p.1) (show mayM l copies first device copy = _ from may_1 (by assumption)) | exact congrArg (fun p => p.1) (show mayM l copies first device copy = _ from may_2 (by assumption) (.inl (by assumption))) | exact congrArg (fun p => p.1) (show mayM l copies first device copy = _ from may_2 (by assumption) (.inr (inD_f (by assumption)))) | exact congrArg (fun p => p.1) (show mayM l copies first device copy = _ from may_3 (by assumption) (by assumption) (by omega) (by omega) (by assumption)) | exact congrArg (fun p => p.1) (show mayM l copies first device copy = _ from may_4 (by assumption) (by assumption) (by omega) (by omega) (by assumption))
     have e2781 : ((mayM l copies first device copy).2) = (0 : Int) := by first | exact congrArg (fun p => p.2) (show mayM l copies first device copy = _ from may_1 (by assumption)) | exact congrArg (fun p => p.2) (show mayM l copies first device copy = _ from may_2 (by assumption) (.inl (by assumption))) | exact congrArg (fun p => p.2) (show mayM l copies first device copy = _ from may_2 (by assumption) (.inr (inD_f (by assumption)))) | exact congrArg (fun p => p.2) (show mayM l copies first device copy = _ from may_3 (by assumption) (by assumption) (by omega) (by omega) (by assumption)) | exact congrArg (fun p => p.2) (show mayM l copies first device copy = _ from may_4 (by assumption) (by assumption) (by omega) (by omega) (by assumption))
     exact ⟨_, rfl, s2758.keep, by rw [e2780, e2781]; exact rfl⟩
  ·have hp2782 : (isDevM device) = false := by first | simpa using hb2754 | (have e := hb2754; simp at e; omega)
   refine wl_k rfl (wl_k rfl (wl_k rfl (wl_k rfl (wl_k rfl (wl_s (o_pickT (Value.bool true) rfl rfl (wl_nil (thenQ_n (?_)))))))))
   refine cw_cond true rfl rfl (fun _ => ?_) (fun h => by cases h)
   refine cw_seq (?_)
   refine cw_region (by kernel_rfl) (wl_s (o_assign (Value.bool false) rfl (wl_s (o_assign (vI (1 : Int)) rfl (wl_nil (thenQ_n (?_)))))))
   refine cw_ret (thenQ_r (end_r rfl (res2 rfl rfl rfl rfl) (?_)))
   have e2783 : ((mayM l copies first device copy).1) = false := by first | exact congrArg (fun p => p.1) (show mayM l copies first device copy = _ from may_1 (by assumption)) | exact congrArg (fun p => p.1) (show mayM l copies first device copy = _ from may_2 (by assumption) (.inl (by assumption))) | exact congrArg (fun p => p.1) (show mayM l copies first device copy = _ from may_2 (by assumption) (.inr (inD_f (by assumption)))) | exact congrArg (fun p => p.1) (show mayM l copies first device copy = _ from may_3 (by assumption) (by assumption) (by omega) (by omega) (by assumption)) | exact congrArg (fun p => p.1) (show mayM l copies first device copy = _ from may_4 (by assumption) (by assumption) (by omega) (by omega) (by assumption))
   have e2784 : ((mayM l copies first device copy).2) = (1 : Int) := by first | exact congrArg (fun p => p.2) (show mayM l copies first device copy = _ from may_1 (by assumption)) | exact congrArg (fun p => p.2) (show mayM l copies first device copy = _ from may_2 (by assumption) (.inl (by assumption))) | exact congrArg (fun p => p.2) (show mayM l copies first device copy = _ from may_2 (by assumption) (.inr (inD_f (by assumption)))) | exact congrArg (fun p => p.2) (show mayM l copies first device copy = _ from may_3 (by assumption) (by assumption) (by omega) (by omega) (by assumption)) | exact congrArg (fun p => p.2) (show mayM l copies first device copy = _ from may_4 (by assumption) (by assumption) (by omega) (by omega) (by assumption))
   exact ⟨_, rfl, s2750.keep, by rw [e2783, e2784]; exact rfl⟩

end Go.Proofs.Ytjpniibleelgiaa
