/- Walks, printed by gen.py. -/
import Derived.Test.YtjpniibleelgiaaXu
import Derived.Test.YtjpniibleelgiaaXq
set_option linter.unusedSimpArgs false
set_option linter.unusedVariables false
namespace Go.Proofs.Ytjpniibleelgiaa
open Go.Fw Go.RowKit

set_option maxHeartbeats 4000000 in
set_option maxRecDepth 100000 in
theorem c_refAdd {O : List Nat} (l_v : Value) (l : List DeviceOp) (o_cs : List Value) (o : DeviceOp) (w : World) (h_l : RdL Enc.devop w O l_v l) (h_o : Enc.devop.rd w O o_cs o) (hO : ∀ b ∈ O, b < w.heap.size) : CallsK Try.prog 27 [l_v, .agg o_cs.toArray] w (fun v w' => ∃ (x0 : Value), v = .tuple #[x0, vI ((addM l o).2)] ∧ RdL Enc.devop w' (O) x0 ((addM l o).1)) :=  by
 have lim_l := h_l.len_le
 have h_l : RdL Enc.devop w ([] ++ O) l_v l := h_l
 obtain rfl := h_o
 have s0 : St w O w [] := St.start hO
 refine callsK_of 27 Try.func27 rfl rfl (of_decide_eq_true rfl) (fun F0 => ?_)
 refine cw_seq (?_)
 refine cw_region (by kernel_rfl) (wl_s (o_boxR (E := Enc.devop) (Value.agg #[vI o.device, vI o.no, vI o.kind, vI o.copy, vI o.to, vI o.token]) ([vI o.device, vI o.no, vI o.kind, vI o.copy, vI o.to, vI o.token]) o rfl rfl rfl s0 fun a2258 w2259 s2260 m2261 k2262 hp2263 => (?_)))
 have h_l := h_l.mv m2261
 refine wl_s (o_assign (Value.slice none 0 0) rfl (wl_s (o_assign (vI (0 : Int)) rfl (wl_nil (thenQ_n (?_))))))
 refine cw_seq (?_)
 refine cw_seq (?_)
 refine cw_region (by kernel_rfl) (wl_s (o_move (l_v) rfl (wl_s (o_callK (vs := [l_v]) enter_30 (c_refCheck (O := [] ++ O) l_v l w2259 h_l s2260.lt) rfl s2260 fun v2264 w2265 s2266 m2267 k2268 r2269 => (?_)))))
 obtain rfl := r2269
 have h_l := h_l.mv m2267
 have hp2263 := hp2263.mv m2267
 refine wl_s (o_neq .i64 (checkM l) (0 : Int) rfl rfl (wl_s (o_move (Value.bool ((checkM l) != (0 : Int))) rfl (?_))))
 cases hb2270 : ((checkM l) != (0 : Int))
 ·have hp2271 : checkM l = (0 : Int) := by first | simpa using hb2270 | (have e := hb2270; simp at e; omega)
  have hchk : checkM l = 0 := hp2271
  have hchk_1 := (check_ok hchk).1
  refine wl_t rfl (o_loadS Try.underlying40 rfl s_40 rfl hp2263 fun cs2272 hs2273 => (?_))
  obtain rfl := hs2273
  refine wl_t rfl (o_callK (vs := [Value.agg #[vI o.device, vI o.no, vI o.kind, vI o.copy, vI o.to, vI o.token]]) enter_67 (c_refValid (O := [] ++ O) [vI o.device, vI o.no, vI o.kind, vI o.copy, vI o.to, vI o.token] o w2265 rfl s2266.lt) rfl s2266 fun v2274 w2275 s2276 m2277 k2278 r2279 => (?_))
  obtain rfl := r2279
  have h_l := h_l.mv m2277
  have hp2263 := hp2263.mv m2277
  refine wl_t rfl (o_not (validM o) rfl (wl_s (o_pickF (Value.bool (!(validM o))) rfl rfl (wl_nil (thenQ_n (?_))))))
  refine cw_cond (!(validM o)) rfl rfl (fun hc2280 => ?_) (fun hc2280 => ?_)
  ·have hp2281 : (validM o) = false := by first | simpa using hc2280 | (have e := hc2280; rw [Bool.not_eq_true'] at e; exact e) | (have e := hc2280; rw [Bool.not_eq_false'] at e; exact e) | (have e := hc2280; simp at e; omega)
   refine cw_seq (?_)
   refine cw_region (by kernel_rfl) (wl_s (o_assign (Value.slice none 0 0) rfl (wl_s (o_assign (vI (420 : Int)) rfl (wl_nil (thenQ_n (?_)))))))
   refine cw_ret (thenQ_r (end_r rfl (res2 rfl rfl rfl rfl) (?_)))
   have e2282 : ((addM l o).1) = ([]) := by first | exact congrArg (fun p => p.1) (show addM l o = _ from add_1 (by assumption)) | exact congrArg (fun p => p.1) (show addM l o = _ from add_2 (by assumption)) | exact congrArg (fun p => p.1) (show addM l o = _ from add_3 (by assumption) (by assumption) (by assumption)) | exact congrArg (fun p => p.1) (show addM l o = _ from add_4 (by assumption) (by assumption) (by assumption) (by assumption)) | exact congrArg (fun p => p.1) (show addM l o = _ from add_5 (by assumption) (by assumption) (by assumption) (by assumption) (by assumption)) | exact congrArg (fun p => p.1) (show addM l o = _ from add_6 (by assumption) (by assumption) (by assumption) (by assumption) (by assumption))
   have e2283 : ((addM l o).2) = (420 : Int) := by first | exact congrArg (fun p => p.2) (show addM l o = _ from add_1 (by assumption)) | exact congrArg (fun p => p.2) (show addM l o = _ from add_2 (by assumption)) | exact congrArg (fun p => p.2) (show addM l o = _ from add_3 (by assumption) (by assumption) (by assumption)) | exact congrArg (fun p => p.2) (show addM l o = _ from add_4 (by assumption) (by assumption) (by assumption) (by assumption)) | exact congrArg (fun p => p.2) (show addM l o = _ from add_5 (by assumption) (by assumption) (by assumption) (by assumption) (by assumption)) | exact congrArg (fun p => p.2) (show addM l o = _ from add_6 (by assumption) (by assumption) (by assumption) (by assumption) (by assumption))
   exact ⟨_, rfl, s2276.keep, by rw [e2282, e2283]; exact ⟨.slice none 0 0, rfl, RdL.nil _ _ _⟩⟩
  ·have hp2284 : (validM o) = true := by first | simpa using hc2280 | (have e := hc2280; rw [Bool.not_eq_true'] at e; exact e) | (have e := hc2280; rw [Bool.not_eq_false'] at e; exact e) | (have e := hc2280; simp at e; omega)
   refine cw_skip (thenQ_n (?_))
   refine cw_seq (?_)
   refine cw_seq (?_)
   refine cw_region (by kernel_rfl) (wl_s (o_move (l_v) rfl (wl_s (o_loadS Try.underlying40 rfl s_40 rfl hp2263 fun cs2285 hs2286 => (?_)))))
   obtain rfl := hs2286
   refine wl_s (o_callK (vs := [l_v, Value.agg #[vI o.device, vI o.no, vI o.kind, vI o.copy, vI o.to, vI o.token]]) enter_37 (c_refHas (O := [] ++ O) l_v l [vI o.device, vI o.no, vI o.kind, vI o.copy, vI o.to, vI o.token] o w2275 h_l rfl s2276.lt) rfl s2276 fun v2287 w2288 s2289 m2290 k2291 r2292 => (?_))
   obtain rfl := r2292
   have h_l := h_l.mv m2290
   have hp2263 := hp2263.mv m2290
   refine wl_nil (thenQ_n (?_))
   refine cw_cond (l.contains o) rfl rfl (fun hc2293 => ?_) (fun hc2293 => ?_)
   ·have hp2294 : (l.contains o) = true := by first | simpa using hc2293 | (have e := hc2293; simp at e; omega)
    refine cw_seq (?_)
    refine cw_region (by kernel_rfl) (wl_s (o_move (l_v) rfl (wl_s (o_assign (l_v) rfl (wl_s (o_assign (vI (0 : Int)) rfl (wl_nil (thenQ_n (?_)))))))))
    refine cw_ret (thenQ_r (end_r rfl (res2 rfl rfl rfl rfl) (?_)))
    have e2295 : ((addM l o).1) = l := by first | exact congrArg (fun p => p.1) (show addM l o = _ from add_1 (by assumption)) | exact congrArg (fun p => p.1) (show addM l o = _ from add_2 (by assumption)) | exact congrArg (fun p => p.1) (show addM l o = _ from add_3 (by assumption) (by assumption) (by assumption)) | exact congrArg (fun p => p.1) (show addM l o = _ from add_4 (by assumption) (by assumption) (by assumption) (by assumption)) | exact congrArg (fun p => p.1) (show addM l o = _ from add_5 (by assumption) (by assumption) (by assumption) (by assumption) (by assumption)) | exact congrArg (fun p => p.1) (show addM l o = _ from add_6 (by assumption) (by assumption) (by assumption) (by assumption) (by assumption))
    have e2296 : ((addM l o).2) = (0 : Int) := by first | exact congrArg (fun p => p.2) (show addM l o = _ from add_1 (by assumption)) | exact congrArg (fun p => p.2) (show addM l o = _ from add_2 (by assumption)) | exact congrArg (fun p => p.2) (show addM l o = _ from add_3 (by assumption) (by assumption) (by assumption)) | exact congrArg (fun p => p.2) (show addM l o = _ from add_4 (by assumption) (by assumption) (by assumption) (by assumption)) | exact congrArg (fun p => p.2) (show addM l o = _ from add_5 (by assumption) (by assumption) (by assumption) (by assumption) (by assumption)) | exact congrArg (fun p => p.2) (show addM l o = _ from add_6 (by assumption) (by assumption) (by assumption) (by assumption) (by assumption))
    exact ⟨_, rfl, s2289.keep, by rw [e2295, e2296]; exact ⟨l_v, rfl, h_l.out⟩⟩
   ·have hp2297 : (l.contains o) = false := by first | simpa using hc2293 | (have e := hc2293; simp at e; omega)
    refine cw_skip (thenQ_n (?_))
    refine cw_seq (?_)
    refine cw_seq (?_)
    refine cw_region (by kernel_rfl) (wl_s (o_move (l_v) rfl (wl_s (o_loadS Try.underlying40 rfl s_40 rfl hp2263 fun cs2298 hs2299 => (?_)))))
    obtain rfl := hs2299
    refine wl_s (o_callK (vs := [l_v, Value.agg #[vI o.device, vI o.no, vI o.kind, vI o.copy, vI o.to, vI o.token]]) enter_68 (c_refClash (O := [] ++ O) l_v l [vI o.device, vI o.no, vI o.kind, vI o.copy, vI o.to, vI o.token] o w2288 h_l rfl s2289.lt) rfl s2289 fun v2300 w2301 s2302 m2303 k2304 r2305 => (?_))
    obtain rfl := r2305
    have h_l := h_l.mv m2303
    have hp2263 := hp2263.mv m2303
    refine wl_nil (thenQ_n (?_))
    refine cw_cond (clashM l o) rfl rfl (fun hc2306 => ?_) (fun hc2306 => ?_)
    ·have hp2307 : (clashM l o) = true := by first | simpa using hc2306 | (have e := hc2306; simp at e; omega)
     refine cw_seq (?_)
     refine cw_region (by kernel_rfl) (wl_s (o_assign (Value.slice none 0 0) rfl (wl_s (o_assign (vI (420 : Int)) rfl (wl_nil (thenQ_n (?_)))))))
     refine cw_ret (thenQ_r (end_r rfl (res2 rfl rfl rfl rfl) (?_)))
     have e2308 : ((addM l o).1) = ([]) := by first | exact congrArg (fun p => p.1) (show addM l o = _ from add_1 (by assumption)) | exact congrArg (fun p => p.1) (show addM l o = _ from add_2 (by assumption)) | exact congrArg (fun p => p.1) (show addM l o = _ from add_3 (by assumption) (by assumption) (by assumption)) | exact congrArg (fun p => p.1) (show addM l o = _ from add_4 (by assumption) (by assumption) (by assumption) (by assumption)) | exact congrArg (fun p => p.1) (show addM l o = _ from add_5 (by assumption) (by assumption) (by assumption) (by assumption) (by assumption)) | exact congrArg (fun p => p.1) (show addM l o = _ from add_6 (by assumption) (by assumption) (by assumption) (by assumption) (by assumption))
     have e2309 : ((addM l o).2) = (420 : Int) := by first | exact congrArg (fun p => p.2) (show addM l o = _ from add_1 (by assumption)) | exact congrArg (fun p => p.2) (show addM l o = _ from add_2 (by assumption)) | exact congrArg (fun p => p.2) (show addM l o = _ from add_3 (by assumption) (by assumption) (by assumption)) | exact congrArg (fun p => p.2) (show addM l o = _ from add_4 (by assumption) (by assumption) (by assumption) (by assumption)) | exact congrArg (fun p => p.2) (show addM l o = _ from add_5 (by assumption) (by assumption) (by assumption) (by assumption) (by assumption)) | exact congrArg (fun p => p.2) (show addM l o = _ from add_6 (by assumption) (by assumption) (by assumption) (by assumption) (by assumption))
     exact ⟨_, rfl, s2302.keep, by rw [e2308, e2309]; exact ⟨.slice none 0 0, rfl, RdL.nil _ _ _⟩⟩
    ·have hp2310 : (clashM l o) = false := by first | simpa using hc2306 | (have e := hc2306; simp at e; omega)
     refine cw_skip (thenQ_n (?_))
     refine cw_seq (?_)
     refine cw_seq (?_)
     refine cw_region (by kernel_rfl) (wl_s (o_move (l_v) rfl (wl_s (o_lenR Try.underlying26 rfl h_l (wl_s (o_eql .i64 (l.length : Int) (256 : Int) rfl rfl (wl_nil (thenQ_n (?_)))))))))
     refine cw_cond ((l.length : Int) == (256 : Int)) rfl rfl (fun hc2311 => ?_) (fun hc2311 => ?_)
     ·have hp2312 : (l.length : Int) = (256 : Int) := by first | simpa using hc2311 | (have e := hc2311; simp at e; omega)
      refine cw_seq (?_)
      refine cw_region (by kernel_rfl) (wl_s (o_assign (Value.slice none 0 0) rfl (wl_s (o_assign (vI (2 : Int)) rfl (wl_nil (thenQ_n (?_)))))))
      refine cw_ret (thenQ_r (end_r rfl (res2 rfl rfl rfl rfl) (?_)))
      have e2313 : ((addM l o).1) = ([]) := by first | exact congrArg (fun p => p.1) (show addM l o = _ from add_1 (by assumption)) | exact congrArg (fun p => p.1) (show addM l o = _ from add_2 (by assumption)) | exact congrArg (fun p => p.1) (show addM l o = _ from add_3 (by assumption) (by assumption) (by assumption)) | exact congrArg (fun p => p.1) (show addM l o = _ from add_4 (by assumption) (by assumption) (by assumption) (by assumption)) | exact congrArg (fun p => p.1) (show addM l o = _ from add_5 (by assumption) (by assumption) (by assumption) (by assumption) (by assumption)) | exact congrArg (fun p => p.1) (show addM l o = _ from add_6 (by assumption) (by assumption) (by assumption) (by assumption) (by assumption))
      have e2314 : ((addM l o).2) = (2 : Int) := by first | exact congrArg (fun p => p.2) (show addM l o = _ from add_1 (by assumption)) | exact congrArg (fun p => p.2) (show addM l o = _ from add_2 (by assumption)) | exact congrArg (fun p => p.2) (show addM l o = _ from add_3 (by assumption) (by assumption) (by assumption)) | exact congrArg (fun p => p.2) (show addM l o = _ from add_4 (by assumption) (by assumption) (by assumption) (by assumption)) | exact congrArg (fun p => p.2) (show addM l o = _ from add_5 (by assumption) (by assumption) (by assumption) (by assumption) (by assumption)) | exact congrArg (fun p => p.2) (show addM l o = _ from add_6 (by assumption) (by assumption) (by assumption) (by assumption) (by assumption))
      exact ⟨_, rfl, s2302.keep, by rw [e2313, e2314]; exact ⟨.slice none 0 0, rfl, RdL.nil _ _ _⟩⟩
     ·have hp2315 : (l.length : Int) ≠ (256 : Int) := by first | simpa using hc2311 | (have e := hc2311; simp at e; omega)
      refine cw_skip (thenQ_n (?_))
      refine cw_seq (?_)
      refine cw_region (by kernel_rfl) (wl_s (o_move (l_v) rfl (wl_s (o_loadS Try.underlying40 rfl s_40 rfl hp2263 fun cs2316 hs2317 => (?_)))))
      obtain rfl := hs2317
      refine wl_s (o_callK (vs := [l_v, Value.agg #[vI o.device, vI o.no, vI o.kind, vI o.copy, vI o.to, vI o.token]]) enter_69 (c_refIns (O := [] ++ O) l_v l [vI o.device, vI o.no, vI o.kind, vI o.copy, vI o.to, vI o.token] o w2301 h_l rfl (by omega) s2302.lt) rfl s2302 fun v2318 w2319 s2320 m2321 k2322 r2323 => (?_))
      obtain ⟨_, rfl, hl2324⟩ := r2323
      have := hl2324.len_le
      refine wl_s (o_assign (v2318) rfl (wl_s (o_assign (vI (0 : Int)) rfl (wl_nil (thenQ_n (?_))))))
      refine cw_ret (end_r rfl (res2 rfl rfl rfl rfl) (?_))
      have e2325 : ((addM l o).1) = (insM l o) := by first | exact congrArg (fun p => p.1) (show addM l o = _ from add_1 (by assumption)) | exact congrArg (fun p => p.1) (show addM l o = _ from add_2 (by assumption)) | exact congrArg (fun p => p.1) (show addM l o = _ from add_3 (by assumption) (by assumption) (by assumption)) | exact congrArg (fun p => p.1) (show addM l o = _ from add_4 (by assumption) (by assumption) (by assumption) (by assumption)) | exact congrArg (fun p => p.1) (show addM l o = _ from add_5 (by assumption) (by assumption) (by assumption) (by assumption) (by assumption)) | exact congrArg (fun p => p.1) (show addM l o = _ from add_6 (by assumption) (by assumption) (by assumption) (by assumption) (by assumption))
      have e2326 : ((addM l o).2) = (0 : Int) := by first | exact congrArg (fun p => p.2) (show addM l o = _ from add_1 (by assumption)) | exact congrArg (fun p => p.2) (show addM l o = _ from add_2 (by assumption)) | exact congrArg (fun p => p.2) (show addM l o = _ from add_3 (by assumption) (by assumption) (by assumption)) | exact congrArg (fun p => p.2) (show addM l o = _ from add_4 (by assumption) (by assumption) (by assumption) (by assumption)) | exact congrArg (fun p => p.2) (show addM l o = _ from add_5 (by assumption) (by assumption) (by assumption) (by assumption) (by assumption)) | exact congrArg (fun p => p.2) (show addM l o = _ from add_6 (by assumption) (by assumption) (by assumption) (by assumption) (by assumption))
      exact ⟨_, rfl, s2320.keep, by rw [e2325, e2326]; exact ⟨v2318, rfl, hl2324.out⟩⟩
 ·have hp2327 : checkM l ≠ (0 : Int) := by first | simpa using hb2270 | (have e := hb2270; simp at e; omega)
  refine wl_k rfl (wl_k rfl (wl_k rfl (wl_s (o_pickT (Value.bool true) rfl rfl (wl_nil (thenQ_n (?_)))))))
  refine cw_cond true rfl rfl (fun _ => ?_) (fun h => by cases h)
  refine cw_seq (?_)
  refine cw_region (by kernel_rfl) (wl_s (o_assign (Value.slice none 0 0) rfl (wl_s (o_assign (vI (420 : Int)) rfl (wl_nil (thenQ_n (?_)))))))
  refine cw_ret (thenQ_r (end_r rfl (res2 rfl rfl rfl rfl) (?_)))
  have e2328 : ((addM l o).1) = ([]) := by first | exact congrArg (fun p => p.1) (show addM l o = _ from add_1 (by assumption)) | exact congrArg (fun p => p.1) (show addM l o = _ from add_2 (by assumption)) | exact congrArg (fun p => p.1) (show addM l o = _ from add_3 (by assumption) (by assumption) (by assumption)) | exact congrArg (fun p => p.1) (show addM l o = _ from add_4 (by assumption) (by assumption) (by assumption) (by assumption)) | exact congrArg (fun p => p.1) (show addM l o = _ from add_5 (by assumption) (by assumption) (by assumption) (by assumption) (by assumption)) | exact congrArg (fun p => p.1) (show addM l o = _ from add_6 (by assumption) (by assumption) (by assumption) (by assumption) (by assumption))
  have e2329 : ((addM l o).2) = (420 : Int) := by first | exact congrArg (fun p => p.2) (show addM l o = _ from add_1 (by assumption)) | exact congrArg (fun p => p.2) (show addM l o = _ from add_2 (by assumption)) | exact congrArg (fun p => p.2) (show addM l o = _ from add_3 (by assumption) (by assumption) (by assumption)) | exact congrArg (fun p => p.2) (show addM l o = _ from add_4 (by assumption) (by assumption) (by assumption) (by assumption)) | exact congrArg (fun p => p.2) (show addM l o = _ from add_5 (by assumption) (by assumption) (by assumption) (by assumption) (by assumption)) | exact congrArg (fun p => p.2) (show addM l o = _ from add_6 (by assumption) (by assumption) (by assumption) (by assumption) (by assumption))
  exact ⟨_, rfl, s2266.keep, by rw [e2328, e2329]; exact ⟨.slice none 0 0, rfl, RdL.nil _ _ _⟩⟩
set_option maxHeartbeats 4000000 in
set_option maxRecDepth 100000 in
theorem c_refMerge {O : List Nat} (a_v : Value) (a : List DeviceOp) (b_v : Value) (b : List DeviceOp) (w : World) (h_a : RdL Enc.devop w O a_v a) (h_b : RdL Enc.devop w O b_v b) (hO : ∀ b ∈ O, b < w.heap.size) : CallsK Try.prog 32 [a_v, b_v] w (fun v w' => ∃ (x0 : Value), v = .tuple #[x0, vI ((mergeM a b).2)] ∧ RdL Enc.devop w' (O) x0 ((mergeM a b).1)) :=  by
 have lim_a := h_a.len_le
 have h_a : RdL Enc.devop w ([] ++ O) a_v a := h_a
 have lim_b := h_b.len_le
 have h_b : RdL Enc.devop w ([] ++ O) b_v b := h_b
 have s0 : St w O w [] := St.start hO
 refine callsK_of 45 Try.func32 rfl rfl (of_decide_eq_true rfl) (fun F0 => ?_)
 refine cw_seq (?_)
 refine cw_region (by kernel_rfl) (wl_s (o_assign (Value.slice none 0 0) rfl (wl_s (o_assign (vI (0 : Int)) rfl (wl_nil (thenQ_n (?_)))))))
 refine cw_seq (?_)
 refine cw_seq (?_)
 refine cw_region (by kernel_rfl) (wl_s (o_move (a_v) rfl (wl_s (o_callK (vs := [a_v]) enter_30 (c_refCheck (O := [] ++ O) a_v a w h_a s0.lt) rfl s0 fun v2330 w2331 s2332 m2333 k2334 r2335 => (?_)))))
 obtain rfl := r2335
 have h_a := h_a.mv m2333
 have h_b := h_b.mv m2333
 refine wl_s (o_neq .i64 (checkM a) (0 : Int) rfl rfl (wl_s (o_move (Value.bool ((checkM a) != (0 : Int))) rfl (?_))))
 cases hb2336 : ((checkM a) != (0 : Int))
 ·have hp2337 : checkM a = (0 : Int) := by first | simpa using hb2336 | (have e := hb2336; simp at e; omega)
  have hcka : checkM a = 0 := hp2337
  have hcka_1 := (check_ok hcka).1
  refine wl_t rfl (o_move (b_v) rfl (wl_t rfl (o_callK (vs := [b_v]) enter_30 (c_refCheck (O := [] ++ O) b_v b w2331 h_b s2332.lt) rfl s2332 fun v2338 w2339 s2340 m2341 k2342 r2343 => (?_))))
  obtain rfl := r2343
  have h_a := h_a.mv m2341
  have h_b := h_b.mv m2341
  refine wl_t rfl (o_neq .i64 (checkM b) (0 : Int) rfl rfl (wl_s (o_pickF (Value.bool ((checkM b) != (0 : Int))) rfl rfl (wl_nil (thenQ_n (?_))))))
  refine cw_cond ((checkM b) != (0 : Int)) rfl rfl (fun hc2344 => ?_) (fun hc2344 => ?_)
  ·have hp2345 : checkM b ≠ (0 : Int) := by first | simpa using hc2344 | (have e := hc2344; simp at e; omega)
   refine cw_seq (?_)
   refine cw_region (by kernel_rfl) (wl_s (o_assign (Value.slice none 0 0) rfl (wl_s (o_assign (vI (420 : Int)) rfl (wl_nil (thenQ_n (?_)))))))
   refine cw_ret (thenQ_r (end_r rfl (res2 rfl rfl rfl rfl) (?_)))
   have e2346 : ((mergeM a b).1) = ([]) := by first | exact congrArg (fun p => p.1) (show mergeM a b = _ from merge_1 (by assumption)) | exact congrArg (fun p => p.1) (show mergeM a b = _ from merge_2 (by assumption)) | exact congrArg (fun p => p.1) (show mergeM a b = _ from mrg_clash (i := k) hoa hob (by omega) (by assumption) (by assumption)) | exact congrArg (fun p => p.1) (show mergeM a b = _ from mrg_big hoa hob hr0_1 (by omega)) | exact congrArg (fun p => p.1) (show mergeM a b = _ from mrg_fit hoa hob hr0_1 (by omega))
   have e2347 : ((mergeM a b).2) = (420 : Int) := by first | exact congrArg (fun p => p.2) (show mergeM a b = _ from merge_1 (by assumption)) | exact congrArg (fun p => p.2) (show mergeM a b = _ from merge_2 (by assumption)) | exact congrArg (fun p => p.2) (show mergeM a b = _ from mrg_clash (i := k) hoa hob (by omega) (by assumption) (by assumption)) | exact congrArg (fun p => p.2) (show mergeM a b = _ from mrg_big hoa hob hr0_1 (by omega)) | exact congrArg (fun p => p.2) (show mergeM a b = _ from mrg_fit hoa hob hr0_1 (by omega))
   exact ⟨_, rfl, s2340.keep, by rw [e2346, e2347]; exact ⟨.slice none 0 0, rfl, RdL.nil _ _ _⟩⟩
  ·have hp2348 : checkM b = (0 : Int) := by first | simpa using hc2344 | (have e := hc2344; simp at e; omega)
   have hckb : checkM b = 0 := hp2348
   have hckb_1 := (check_ok hckb).1
   refine cw_skip (thenQ_n (?_))
   refine cw_seq (?_)
   refine cw_region (by kernel_rfl) (wl_s (o_move (a_v) rfl (wl_s (o_assign (a_v) rfl (wl_nil (thenQ_n (?_)))))))
   refine cw_seq (?_)
   refine cw_seq (?_)
   refine cw_region (by kernel_rfl) (wl_s (o_assign (vI (0 : Int)) rfl (wl_nil (thenQ_n (?_)))))
   refine cw_block (?_)
   have hoa := (check_iff a).1 hcka
   have hob := (check_iff b).1 hckb
   refine cw_loop (fun mI FI wI => ∃ (k : Nat) (vr0_6 : Value) (B : List Nat), k ≤ b.length ∧ numInj (mrg a b k) ∧ mI = b.length - k ∧ (∃ F1, FI = upds F1 [(1, b_v), (6, vr0_6), (7, vI ((k : Nat) : Int)), (45, undef)]) ∧ St w O wI B ∧ RdL Enc.devop wI (B ++ O) vr0_6 (mrg a b k) ∧ RdL Enc.devop wI (B ++ O) (b_v) (b)) (b.length - (0)) ?_ ?_
   ·exact ⟨(0), a_v, [], (by omega), (by rw [mrg_zero]; exact hoa.2.2.2), rfl, ⟨_, upds_self _ ⟨rfl, rfl, (by first | rfl | exact congrArg (Value.int _) (by first | omega | (simp))), rfl, trivial⟩⟩, s2340, (by rw [show mrg a b (0) = a from (mrg_zero a b)]; exact h_a), h_b⟩
   ·intro ml0 F wl0 hI
    clear h_b
    obtain ⟨k, vr0_6, Bl0, hr0_0, hr0_1, hm0, ⟨Fl0, rfl⟩, sl0, hrd0_6, h_b⟩ := hI
    have := hrd0_6.len_le
    refine cw_seq (?_)
    refine cw_seq (?_)
    refine cw_region (by kernel_rfl) (wl_s (o_move (vI ((k : Nat) : Int)) rfl (wl_s (o_move (b_v) rfl (wl_s (o_lenR Try.underlying26 rfl h_b (wl_s (o_lss .i64 ((k : Nat) : Int) (b.length : Int) rfl rfl (wl_nil (thenQ_n (?_)))))))))))
    refine cw_cond (decide (((k : Nat) : Int) < (b.length : Int))) rfl rfl (fun hc2349 => ?_) (fun hc2349 => ?_)
    ·have hp2350 : ((k : Nat) : Int) < (b.length : Int) := by first | simpa using hc2349 | (have e := hc2349; simp at e; omega)
     refine cw_skip (thenQ_n (?_))
     refine cw_seq (?_)
     refine cw_block (?_)
     refine cw_seq (?_)
     refine cw_seq (?_)
     refine cw_region (by kernel_rfl) (wl_s (o_move (vr0_6) rfl (wl_s (o_move (b_v) rfl (wl_s (o_move (vI ((k : Nat) : Int)) rfl (wl_s (o_idx Try.underlying26 s_40 .i64 ((k : Nat) : Int) k rfl rfl rfl h_b (by omega) fun a2351 hp2352 => (wl_s (o_loadS Try.underlying40 rfl s_40 rfl hp2352 fun cs2353 hs2354 => (?_)))))))))))
     obtain rfl := hs2354
     refine wl_s (o_callK (vs := [vr0_6, Value.agg #[vI ((b[k]!).device), vI ((b[k]!).no), vI ((b[k]!).kind), vI ((b[k]!).copy), vI ((b[k]!).to), vI ((b[k]!).token)]]) enter_37 (c_refHas (O := Bl0 ++ O) vr0_6 (mrg a b k) [vI ((b[k]!).device), vI ((b[k]!).no), vI ((b[k]!).kind), vI ((b[k]!).copy), vI ((b[k]!).to), vI ((b[k]!).token)] (b[k]!) wl0 hrd0_6 rfl sl0.lt) rfl sl0 fun v2355 w2356 s2357 m2358 k2359 r2360 => (?_))
     obtain rfl := r2360
     have h_b := h_b.mv m2358
     have hrd0_6 := hrd0_6.mv m2358
     refine wl_nil (thenQ_n (?_))
     refine cw_cond ((mrg a b k).contains (b[k]!)) rfl rfl (fun hc2361 => ?_) (fun hc2361 => ?_)
     ·have hp2362 : ((mrg a b k).contains (b[k]!)) = true := by first | simpa using hc2361 | (have e := hc2361; simp at e; omega)
      refine cw_exit (thenQ_x (blockQ_x (thenQ_n (?_))))
      refine cw_region (by kernel_rfl) (wl_s (o_move (vI ((k : Nat) : Int)) rfl (wl_s (o_add .i64 ((k : Nat) : Int) (1 : Int) (((k + 1 : Nat) : Int)) rfl rfl (w64 (by omega) (by omega)) (wl_s (o_assign (vI ((k + 1 : Nat) : Int)) rfl (wl_nil (thenQ_n (?_)))))))))
      exact ⟨_, (by omega), (k + 1), vr0_6, Bl0, (by omega), (by first | (rw [mrg_has hoa hob (by omega) (by assumption)]; exact hr0_1) | exact mrg_inj hoa hob (by omega) (by assumption) hr0_1 (by assumption)), rfl, ⟨_, upds_self _ ⟨rfl, rfl, (by first | rfl | exact congrArg (Value.int _) (by first | omega | (simp))), rfl, trivial⟩⟩, s2357, (by rw [show mrg a b (k + 1) = mrg a b k from by first | exact mrg_has hoa hob (by omega) (by assumption) | exact mrg_new hoa hob (by omega) (by assumption)]; exact hrd0_6), h_b⟩
     ·have hp2363 : ((mrg a b k).contains (b[k]!)) = false := by first | simpa using hc2361 | (have e := hc2361; simp at e; omega)
      refine cw_skip (thenQ_n (?_))
      refine cw_seq (?_)
      refine cw_seq (?_)
      refine cw_region (by kernel_rfl) (wl_s (o_move (vr0_6) rfl (wl_s (o_move (b_v) rfl (wl_s (o_move (vI ((k : Nat) : Int)) rfl (wl_s (o_idx Try.underlying26 s_40 .i64 ((k : Nat) : Int) k rfl rfl rfl h_b (by omega) fun a2364 hp2365 => (wl_s (o_loadS Try.underlying40 rfl s_40 rfl hp2365 fun cs2366 hs2367 => (?_)))))))))))
      obtain rfl := hs2367
      refine wl_s (o_callK (vs := [vr0_6, Value.agg #[vI ((b[k]!).device), vI ((b[k]!).no), vI ((b[k]!).kind), vI ((b[k]!).copy), vI ((b[k]!).to), vI ((b[k]!).token)]]) enter_68 (c_refClash (O := Bl0 ++ O) vr0_6 (mrg a b k) [vI ((b[k]!).device), vI ((b[k]!).no), vI ((b[k]!).kind), vI ((b[k]!).copy), vI ((b[k]!).to), vI ((b[k]!).token)] (b[k]!) w2356 hrd0_6 rfl s2357.lt) rfl s2357 fun v2368 w2369 s2370 m2371 k2372 r2373 => (?_))
      obtain rfl := r2373
      have h_b := h_b.mv m2371
      have hrd0_6 := hrd0_6.mv m2371
      refine wl_nil (thenQ_n (?_))
      refine cw_cond (clashM (mrg a b k) (b[k]!)) rfl rfl (fun hc2374 => ?_) (fun hc2374 => ?_)
      ·have hp2375 : (clashM (mrg a b k) (b[k]!)) = true := by first | simpa using hc2374 | (have e := hc2374; simp at e; omega)
       refine cw_seq (?_)
       refine cw_region (by kernel_rfl) (wl_s (o_assign (Value.slice none 0 0) rfl (wl_s (o_assign (vI (420 : Int)) rfl (wl_nil (thenQ_n (?_)))))))
       refine cw_ret (thenQ_r (blockQ_r (thenQ_r (thenQ_r (blockQ_r (thenQ_r (end_r rfl (res2 rfl rfl rfl rfl) (?_))))))))
       have e2376 : ((mergeM a b).1) = ([]) := by first | exact congrArg (fun p => p.1) (show mergeM a b = _ from merge_1 (by assumption)) | exact congrArg (fun p => p.1) (show mergeM a b = _ from merge_2 (by assumption)) | exact congrArg (fun p => p.1) (show mergeM a b = _ from mrg_clash (i := k) hoa hob (by omega) (by assumption) (by assumption)) | exact congrArg (fun p => p.1) (show mergeM a b = _ from mrg_big hoa hob hr0_1 (by omega)) | exact congrArg (fun p => p.1) (show mergeM a b = _ from mrg_fit hoa hob hr0_1 (by omega))
       have e2377 : ((mergeM a b).2) = (420 : Int) := by first | exact congrArg (fun p => p.2) (show mergeM a b = _ from merge_1 (by assumption)) | exact congrArg (fun p => p.2) (show mergeM a b = _ from merge_2 (by assumption)) | exact congrArg (fun p => p.2) (show mergeM a b = _ from mrg_clash (i := k) hoa hob (by omega) (by assumption) (by assumption)) | exact congrArg (fun p => p.2) (show mergeM a b = _ from mrg_big hoa hob hr0_1 (by omega)) | exact congrArg (fun p => p.2) (show mergeM a b = _ from mrg_fit hoa hob hr0_1 (by omega))
       exact ⟨_, rfl, s2370.keep, by rw [e2376, e2377]; exact ⟨.slice none 0 0, rfl, RdL.nil _ _ _⟩⟩
      ·have hp2378 : (clashM (mrg a b k) (b[k]!)) = false := by first | simpa using hc2374 | (have e := hc2374; simp at e; omega)
       refine cw_skip (thenQ_n (?_))
       refine cw_region (by kernel_rfl) (wl_s (o_move (vr0_6) rfl (wl_s (o_move (b_v) rfl (wl_s (o_move (vI ((k : Nat) : Int)) rfl (wl_s (o_idx Try.underlying26 s_40 .i64 ((k : Nat) : Int) k rfl rfl rfl h_b (by omega) fun a2379 hp2380 => (wl_s (o_loadS Try.underlying40 rfl s_40 rfl hp2380 fun cs2381 hs2382 => (?_)))))))))))
       obtain rfl := hs2382
       refine wl_s (o_callK (vs := [vr0_6, Value.agg #[vI ((b[k]!).device), vI ((b[k]!).no), vI ((b[k]!).kind), vI ((b[k]!).copy), vI ((b[k]!).to), vI ((b[k]!).token)]]) enter_69 (c_refIns (O := Bl0 ++ O) vr0_6 (mrg a b k) [vI ((b[k]!).device), vI ((b[k]!).no), vI ((b[k]!).kind), vI ((b[k]!).copy), vI ((b[k]!).to), vI ((b[k]!).token)] (b[k]!) w2369 hrd0_6 rfl (by have := len_mrg hoa hob k; omega) s2370.lt) rfl s2370 fun v2383 w2384 s2385 m2386 k2387 r2388 => (?_))
       obtain ⟨_, rfl, hl2389⟩ := r2388
       have := hl2389.len_le
       have h_b := h_b.mv m2386
       refine wl_s (o_assign (v2383) rfl (wl_nil (blockQ_n (thenQ_n (?_)))))
       refine cw_region (by kernel_rfl) (wl_s (o_move (vI ((k : Nat) : Int)) rfl (wl_s (o_add .i64 ((k : Nat) : Int) (1 : Int) (((k + 1 : Nat) : Int)) rfl rfl (w64 (by omega) (by omega)) (wl_s (o_assign (vI ((k + 1 : Nat) : Int)) rfl (wl_nil (thenQ_n (?_)))))))))
       exact ⟨_, (by omega), (k + 1), v2383, Bl0, (by omega), (by first | (rw [mrg_has hoa hob (by omega) (by assumption)]; exact hr0_1) | exact mrg_inj hoa hob (by omega) (by assumption) hr0_1 (by assumption)), rfl, ⟨_, upds_self _ ⟨rfl, rfl, (by first | rfl | exact congrArg (Value.int _) (by first | omega | (simp))), rfl, trivial⟩⟩, s2385, (by rw [show mrg a b (k + 1) = insM (mrg a b k) (b[k]!) from by first | exact mrg_has hoa hob (by omega) (by assumption) | exact mrg_new hoa hob (by omega) (by assumption)]; exact hl2389), h_b⟩
    ·have hp2390 : (b.length : Int) ≤ ((k : Nat) : Int) := by first | simpa using hc2349 | (have e := hc2349; simp at e; omega)
     obtain rfl : k = b.length := by omega
     refine cw_exit (thenQ_x (thenQ_x (blockQ_x (thenQ_n (?_)))))
     refine cw_seq (?_)
     refine cw_seq (?_)
     refine cw_region (by kernel_rfl) (wl_s (o_move (vr0_6) rfl (wl_s (o_lenR Try.underlying26 rfl hrd0_6 (wl_s (o_gtr .i64 ((mrg a b b.length).length : Int) (256 : Int) rfl rfl (wl_nil (thenQ_n (?_)))))))))
     refine cw_cond (decide ((256 : Int) < ((mrg a b b.length).length : Int))) rfl rfl (fun hc2391 => ?_) (fun hc2391 => ?_)
     ·have hp2392 : (256 : Int) < ((mrg a b b.length).length : Int) := by first | simpa using hc2391 | (have e := hc2391; simp at e; omega)
      refine cw_seq (?_)
      refine cw_region (by kernel_rfl) (wl_s (o_assign (Value.slice none 0 0) rfl (wl_s (o_assign (vI (2 : Int)) rfl (wl_nil (thenQ_n (?_)))))))
      refine cw_ret (thenQ_r (end_r rfl (res2 rfl rfl rfl rfl) (?_)))
      have e2393 : ((mergeM a b).1) = ([]) := by first | exact congrArg (fun p => p.1) (show mergeM a b = _ from merge_1 (by assumption)) | exact congrArg (fun p => p.1) (show mergeM a b = _ from merge_2 (by assumption)) | exact congrArg (fun p => p.1) (show mergeM a b = _ from mrg_clash (i := k) hoa hob (by omega) (by assumption) (by assumption)) | exact congrArg (fun p => p.1) (show mergeM a b = _ from mrg_big hoa hob hr0_1 (by omega)) | exact congrArg (fun p => p.1) (show mergeM a b = _ from mrg_fit hoa hob hr0_1 (by omega))
      have e2394 : ((mergeM a b).2) = (2 : Int) := by first | exact congrArg (fun p => p.2) (show mergeM a b = _ from merge_1 (by assumption)) | exact congrArg (fun p => p.2) (show mergeM a b = _ from merge_2 (by assumption)) | exact congrArg (fun p => p.2) (show mergeM a b = _ from mrg_clash (i := k) hoa hob (by omega) (by assumption) (by assumption)) | exact congrArg (fun p => p.2) (show mergeM a b = _ from mrg_big hoa hob hr0_1 (by omega)) | exact congrArg (fun p => p.2) (show mergeM a b = _ from mrg_fit hoa hob hr0_1 (by omega))
      exact ⟨_, rfl, sl0.keep, by rw [e2393, e2394]; exact ⟨.slice none 0 0, rfl, RdL.nil _ _ _⟩⟩
     ·have hp2395 : ((mrg a b b.length).length : Int) ≤ (256 : Int) := by first | simpa using hc2391 | (have e := hc2391; simp at e; omega)
      refine cw_skip (thenQ_n (?_))
      refine cw_seq (?_)
      refine cw_region (by kernel_rfl) (wl_s (o_move (vr0_6) rfl (wl_s (o_assign (vr0_6) rfl (wl_s (o_assign (vI (0 : Int)) rfl (wl_nil (thenQ_n (?_)))))))))
      refine cw_ret (end_r rfl (res2 rfl rfl rfl rfl) (?_))
      have e2396 : ((mergeM a b).1) = (mrg a b b.length) := by first | exact congrArg (fun p => p.1) (show mergeM a b = _ from merge_1 (by assumption)) | exact congrArg (fun p => p.1) (show mergeM a b = _ from merge_2 (by assumption)) | exact congrArg (fun p => p.1) (show mergeM a b = _ from mrg_clash (i := k) hoa hob (by omega) (by assumption) (by assumption)) | exact congrArg (fun p => p.1) (show mergeM a b = _ from mrg_big hoa hob hr0_1 (by omega)) | exact congrArg (fun p => p.1) (show mergeM a b = _ from mrg_fit hoa hob hr0_1 (by omega))
      have e2397 : ((mergeM a b).2) = (0 : Int) := by first | exact congrArg (fun p => p.2) (show mergeM a b = _ from merge_1 (by assumption)) | exact congrArg (fun p => p.2) (show mergeM a b = _ from merge_2 (by assumption)) | exact congrArg (fun p => p.2) (show mergeM a b = _ from mrg_clash (i := k) hoa hob (by omega) (by assumption) (by assumption)) | exact congrArg (fun p => p.2) (show mergeM a b = _ from mrg_big hoa hob hr0_1 (by omega)) | exact congrArg (fun p => p.2) (show mergeM a b = _ from mrg_fit hoa hob hr0_1 (by omega))
      exact ⟨_, rfl, sl0.keep, by rw [e2396, e2397]; exact ⟨vr0_6, rfl, hrd0_6.out⟩⟩
 ·have hp2398 : checkM a ≠ (0 : Int) := by first | simpa using hb2336 | (have e := hb2336; simp at e; omega)
  refine wl_k rfl (wl_k rfl (wl_k rfl (wl_s (o_pickT (Value.bool true) rfl rfl (wl_nil (thenQ_n (?_)))))))
  refine cw_cond true rfl rfl (fun _ => ?_) (fun h => by cases h)
  refine cw_seq (?_)
  refine cw_region (by kernel_rfl) (wl_s (o_assign (Value.slice none 0 0) rfl (wl_s (o_assign (vI (420 : Int)) rfl (wl_nil (thenQ_n (?_)))))))
  refine cw_ret (thenQ_r (end_r rfl (res2 rfl rfl rfl rfl) (?_)))
  have e2399 : ((mergeM a b).1) = ([]) := by first | exact congrArg (fun p => p.1) (show mergeM a b = _ from merge_1 (by assumption)) | exact congrArg (fun p => p.1) (show mergeM a b = _ from merge_2 (by assumption)) | exact congrArg (fun p => p.1) (show mergeM a b = _ from mrg_clash (i := k) hoa hob (by omega) (by assumption) (by assumption)) | exact congrArg (fun p => p.1) (show mergeM a b = _ from mrg_big hoa hob hr0_1 (by omega)) | exact congrArg (fun p => p.1) (show mergeM a b = _ from mrg_fit hoa hob hr0_1 (by omega))
  have e2400 : ((mergeM a b).2) = (420 : Int) := by first | exact congrArg (fun p => p.2) (show mergeM a b = _ from merge_1 (by assumption)) | exact congrArg (fun p => p.2) (show mergeM a b = _ from merge_2 (by assumption)) | exact congrArg (fun p => p.2) (show mergeM a b = _ from mrg_clash (i := k) hoa hob (by omega) (by assumption) (by assumption)) | exact congrArg (fun p => p.2) (show mergeM a b = _ from mrg_big hoa hob hr0_1 (by omega)) | exact congrArg (fun p => p.2) (show mergeM a b = _ from mrg_fit hoa hob hr0_1 (by omega))
  exact ⟨_, rfl, s2332.keep, by rw [e2399, e2400]; exact ⟨.slice none 0 0, rfl, RdL.nil _ _ _⟩⟩

end Go.Proofs.Ytjpniibleelgiaa
