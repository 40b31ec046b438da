/- Walks, printed by gen.py. -/
import Derived.Test.YtjpniibleelgiaaXg
set_option linter.unusedSimpArgs false
set_option linter.unusedVariables false
namespace Go.Proofs.Ytjpniibleelgiaa
open Go.Fw Go.RowKit

set_option maxHeartbeats 4000000 in
set_option maxRecDepth 100000 in
theorem c_counts {O : List Nat} (hd_cs : List Value) (hd : Holding) (o_cs : List Value) (o : DeviceOp) (w : World) (h_hd : Enc.holding.rd w O hd_cs hd) (h_o : Enc.devop.rd w O o_cs o) (hpre0 : 0 ≤ hd.token) (hpre1 : hd.token ≤ 65536) (hO : ∀ b ∈ O, b < w.heap.size) : CallsK Try.prog 102 [.agg hd_cs.toArray, .agg o_cs.toArray] w (fun v _ => v = .bool (countsM hd o)) :=  by
 obtain rfl := h_hd
 obtain rfl := h_o
 have s0 : St w O w [] := St.start hO
 refine callsK_of 23 Try.func102 rfl rfl (of_decide_eq_true rfl) (fun F0 => ?_)
 refine cw_seq (?_)
 refine cw_region (by kernel_rfl) (wl_s (o_boxR (E := Enc.holding) (Value.agg #[vI hd.copy, vI hd.device, vI hd.token, Value.bool hd.shown]) ([vI hd.copy, vI hd.device, vI hd.token, Value.bool hd.shown]) hd rfl rfl rfl s0 fun a2401 w2402 s2403 m2404 k2405 hp2406 => (?_)))
 refine wl_s (o_boxR (E := Enc.devop) (Value.agg #[vI o.device, vI o.no, vI o.kind, vI o.copy, vI o.to, vI o.token]) ([vI o.device, vI o.no, vI o.kind, vI o.copy, vI o.to, vI o.token]) o rfl rfl rfl s2403 fun a2407 w2408 s2409 m2410 k2411 hp2412 => (?_))
 have hp2406 := hp2406.mv m2410
 refine wl_s (o_assign (Value.bool false) rfl (wl_nil (thenQ_n (?_))))
 refine cw_seq (?_)
 refine cw_region (by kernel_rfl) (wl_s (o_fieldR 5 f_40_5 (o.token) rfl hp2412 (fun _ _ _ h => Enc_devop_f5 h) fun a2413 hp2414 => (wl_s (o_loadI Try.underlying3 rfl rfl hp2414 (wl_s (o_fieldR 2 f_47_2 (hd.token) rfl hp2406 (fun _ _ _ h => Enc_holding_f2 h) fun a2415 hp2416 => (wl_s (o_loadI Try.underlying3 rfl rfl hp2416 (wl_s (o_add .i64 hd.token (1 : Int) (hd.token + (1 : Int)) rfl rfl (w64 (by omega) (by omega)) (wl_s (o_eql .i64 o.token (hd.token + (1 : Int)) rfl rfl (wl_s (o_move (Value.bool (o.token == (hd.token + (1 : Int)))) rfl (?_)))))))))))))))
 cases hb2417 : (o.token == (hd.token + (1 : Int)))
 ·have hp2418 : o.token ≠ hd.token + (1 : Int) := by first | simpa using hb2417 | (have e := hb2417; simp at e; omega)
  refine wl_k rfl (wl_k rfl (wl_k rfl (wl_k rfl (wl_k rfl (wl_s (o_pickF (Value.bool false) rfl rfl (wl_s (o_move (Value.bool false) rfl (wl_k rfl (wl_k rfl (wl_k rfl (wl_s (o_pickF (Value.bool false) rfl rfl (wl_s (o_assign (Value.bool false) rfl (wl_nil (thenQ_n (?_))))))))))))))))))
  refine cw_ret (end_r rfl (res1 rfl rfl rfl) (?_))
  have e : (countsM hd o) = false := by simp [countsM, *]
  exact ⟨_, rfl, s2409.keep, (by first | exact congrArg Value.bool e.symm | rfl)⟩
 ·have hp2419 : o.token = hd.token + (1 : Int) := by first | simpa using hb2417 | (have e := hb2417; simp at e; omega)
  refine wl_t rfl (o_fieldR 0 f_40_0 (o.device) rfl hp2412 (fun _ _ _ h => Enc_devop_f0 h) fun a2420 hp2421 => (wl_t rfl (o_loadI Try.underlying3 rfl rfl hp2421 (wl_t rfl (o_fieldR 1 f_47_1 (hd.device) rfl hp2406 (fun _ _ _ h => Enc_holding_f1 h) fun a2422 hp2423 => (wl_t rfl (o_loadI Try.underlying3 rfl rfl hp2423 (wl_t rfl (o_eql .i64 o.device hd.device rfl rfl (wl_s (o_pickT (Value.bool (o.device == hd.device)) rfl rfl (wl_s (o_move (Value.bool (o.device == hd.device)) rfl (?_))))))))))))))
  cases hb2424 : (o.device == hd.device)
  ·have hp2425 : o.device ≠ hd.device := by first | simpa using hb2424 | (have e := hb2424; simp at e; omega)
   refine wl_k rfl (wl_k rfl (wl_k rfl (wl_s (o_pickF (Value.bool false) rfl rfl (wl_s (o_assign (Value.bool false) rfl (wl_nil (thenQ_n (?_)))))))))
   refine cw_ret (end_r rfl (res1 rfl rfl rfl) (?_))
   have e : (countsM hd o) = false := by simp [countsM, *]
   exact ⟨_, rfl, s2409.keep, (by first | exact congrArg Value.bool e.symm | rfl)⟩
  ·have hp2426 : o.device = hd.device := by first | simpa using hb2424 | (have e := hb2424; simp at e; omega)
   refine wl_t rfl (o_fieldR 3 f_47_3 (hd.shown) rfl hp2406 (fun _ _ _ h => Enc_holding_f3 h) fun a2427 hp2428 => (wl_t rfl (o_loadT Try.underlying4 rfl rfl hp2428 (wl_t rfl (o_not hd.shown rfl (wl_s (o_pickT (Value.bool (!hd.shown)) rfl rfl (wl_s (o_assign (Value.bool (!hd.shown)) rfl (wl_nil (thenQ_n (?_))))))))))))
   refine cw_ret (end_r rfl (res1 rfl rfl rfl) (?_))
   have e : (countsM hd o) = (!hd.shown) := by simp [countsM, *]
   exact ⟨_, rfl, s2409.keep, (by first | exact congrArg Value.bool e.symm | rfl)⟩
set_option maxHeartbeats 4000000 in
set_option maxRecDepth 100000 in
theorem c_refHold {O : List Nat} (l_v : Value) (l : List DeviceOp) (c : Int) (first : Int) (w : World) (h_l : RdL Enc.devop w O l_v l) (hpre0 : checkM l = 0) (hO : ∀ b ∈ O, b < w.heap.size) : CallsK Try.prog 76 [l_v, vI c, vI first] w (fun v w' => ∃ (x0 : List Value), v = .agg x0.toArray ∧ Enc.holding.rd w' (O) x0 (holdM l first c)) :=  by
 have lim_l := h_l.len_le
 have h_l : RdL Enc.devop w ([] ++ O) l_v l := h_l
 have s0 : St w O w [] := St.start hO
 refine callsK_of 54 Try.func76 rfl rfl (of_decide_eq_true rfl) (fun F0 => ?_)
 refine cw_seq (?_)
 refine cw_region (by kernel_rfl) (wl_s (o_alloc [vI (0 : Int), vI (0 : Int), vI (0 : Int), Value.bool false] z_47 rfl s0 fun b2429 w2430 e2435 s2431 m2432 k2433 bx2434 => (?_)))
 clear e2435
 have h_l := h_l.mv m2432
 refine wl_nil (thenQ_n (?_))
 refine cw_seq (?_)
 refine cw_region (by kernel_rfl) (wl_s (o_move (vI c) rfl (wl_s (o_move (vI first) rfl (wl_s (o_build (l := [(0, .tmp 9), (1, .tmp 10)]) pl_47 z_47 rfl [(0, vI c, [vI c]), (1, vI first, [vI first])] [vI c, vI first, vI (0 : Int), Value.bool false] rfl ⟨_, rfl, rfl, (of_decide_eq_true rfl), ⟨_, rfl, rfl, (of_decide_eq_true rfl), rfl⟩⟩ (wl_s (o_alloc [vI (0 : Int), vI (0 : Int), vI (0 : Int), Value.bool false] z_47 rfl s2431 fun b2436 w2437 e2442 s2438 m2439 k2440 bx2441 => (?_)))))))))
 have ne2443 : NeB b2429 b2436 := by show b2429 ≠ b2436; have := bx2434.lt; omega
 clear e2442
 have h_l := h_l.mv m2439
 have bx2434 := bx2434.keep k2440 (by simp)
 refine wl_n (o_store (vs := [vI c, vI first, vI (0 : Int), Value.bool false]) (.agg #[vI c, vI first, vI (0 : Int), Value.bool false]) rfl rfl rfl s_47 (fun u hu => by simp only [List.mem_cons, List.not_mem_nil, or_false] at hu; rcases hu with rfl | rfl | rfl | rfl <;> first | rfl) (by repeat (first | assumption | constructor)) bx2441 (of_decide_eq_true rfl) s2438 fun w2444 s2445 m2446 k2447 bx2448 => (?_))
 have h_l := h_l.mv m2446
 have bx2434 := bx2434.keep k2447 (nin1 ne2443)
 refine wl_nil (thenQ_n (?_))
 refine cw_seq (?_)
 refine cw_seq (?_)
 refine cw_region (by kernel_rfl) (wl_s (o_assign (vI (0 : Int)) rfl (wl_nil (thenQ_n (?_)))))
 refine cw_block (?_)
 refine cw_loop (fun mI FI wI => ∃ (k : Nat) (B : List Nat), k ≤ l.length ∧ mI = l.length - k ∧ (∃ F1, FI = upds F1 [(0, l_v), (1, vI c), (6, Value.pointer (some ⟨b2429, 0, none⟩)), (7, Value.pointer (some ⟨b2436, 0, none⟩)), (8, vI ((k : Nat) : Int)), (54, undef)]) ∧ St w O wI B ∧ RdL Enc.devop wI (B ++ O) (l_v) (l) ∧ Box wI b2429 47 [vI (0 : Int), vI (0 : Int), vI (0 : Int), Value.bool false] ∧ b2429 ∈ B ∧ Box wI b2436 47 [vI ((foldAt l c first k).copy), vI ((foldAt l c first k).device), vI ((foldAt l c first k).token), Value.bool ((foldAt l c first k).shown)] ∧ b2436 ∈ B) (l.length - (0)) ?_ ?_
 ·exact ⟨(0), (b2436 :: (b2429 :: [])), (by first | omega | (simp; done) | (simp; omega) | simp_all), rfl, ⟨_, upds_self _ ⟨rfl, rfl, rfl, rfl, (by first | rfl | exact congrArg (Value.int _) (by first | omega | (simp))), rfl, trivial⟩⟩, s2445, h_l, bx2434, (by first | assumption | (repeat (first | exact List.mem_cons_self | assumption | apply List.mem_cons_of_mem)) | (apply_assumption; assumption)), (by rw [show ([vI ((foldAt l c first (0)).copy), vI ((foldAt l c first (0)).device), vI ((foldAt l c first (0)).token), Value.bool ((foldAt l c first (0)).shown)] : List Value) = [vI c, vI first, vI (0 : Int), Value.bool false] from by rw [foldAt_zero]; rfl]; exact bx2448), (by first | assumption | (repeat (first | exact List.mem_cons_self | assumption | apply List.mem_cons_of_mem)) | (apply_assumption; assumption))⟩
 ·intro ml0 F wl0 hI
  clear h_l bx2434
  obtain ⟨k, Bl0, hr0_0, hm0, ⟨Fl0, rfl⟩, sl0, h_l, bx2434, hin_b2429, hbs_0_b2436, hin_b2436⟩ := hI
  refine cw_seq (?_)
  refine cw_seq (?_)
  refine cw_region (by kernel_rfl) (wl_s (o_move (vI ((k : Nat) : Int)) rfl (wl_s (o_move (l_v) rfl (wl_s (o_lenR Try.underlying26 rfl h_l (wl_s (o_lss .i64 ((k : Nat) : Int) (l.length : Int) rfl rfl (wl_nil (thenQ_n (?_)))))))))))
  refine cw_cond (decide (((k : Nat) : Int) < (l.length : Int))) rfl rfl (fun hc2449 => ?_) (fun hc2449 => ?_)
  ·have hp2450 : ((k : Nat) : Int) < (l.length : Int) := by first | simpa using hc2449 | (have e := hc2449; simp at e; omega)
   refine cw_skip (thenQ_n (?_))
   refine cw_seq (?_)
   refine cw_block (?_)
   refine cw_seq (?_)
   refine cw_seq (?_)
   cases hb2451 : (((l[k]!).copy) != c)
   ·have hp2452 : (l[k]!).copy = c := by first | simpa using hb2451 | (have e := hb2451; simp at e; omega)
    refine cw_draw' 13 _ _ [fun (vT : Value) (wT : World) => RdL Enc.devop wT (Bl0 ++ O) vT (l), isV (vI ((k : Nat) : Int)), fun (vT : Value) (wT : World) => ∃ aT, vT = .pointer (some aT) ∧ PT Enc.devop wT (Bl0 ++ O) (.pointer (some aT)) (l[k]!), fun (vT : Value) (wT : World) => ∃ aT, vT = .pointer (some aT) ∧ PT Enc.int wT (Bl0 ++ O) (.pointer (some aT)) ((l[k]!).copy), isV (vI ((l[k]!).copy)), isV (vI c), isV (Value.bool false), isV (Value.bool false), isV (Value.agg #[vI ((foldAt l c first k).copy), vI ((foldAt l c first k).device), vI ((foldAt l c first k).token), Value.bool ((foldAt l c first k).shown)]), fun (vT : Value) (wT : World) => RdL Enc.devop wT (Bl0 ++ O) vT (l), isV (vI ((k : Nat) : Int)), fun (vT : Value) (wT : World) => ∃ aT, vT = .pointer (some aT) ∧ PT Enc.devop wT (Bl0 ++ O) (.pointer (some aT)) (l[k]!), isV (Value.agg #[vI ((l[k]!).device), vI ((l[k]!).no), vI ((l[k]!).kind), vI ((l[k]!).copy), vI ((l[k]!).to), vI ((l[k]!).token)])] (by kernel_rfl) (by kernel_rfl) (by kernel_rfl) (by kernel_rfl) rfl rfl ⟨fun _ _ _ h k => h.mv (Mv.of_keep k), kI, fun _ _ _ ⟨a, e, h⟩ k => ⟨a, e, h.mv (Mv.of_keep k)⟩, fun _ _ _ ⟨a, e, h⟩ k => ⟨a, e, h.mv (Mv.of_keep k)⟩, kI, kI, kI, kI, kI, fun _ _ _ h k => h.mv (Mv.of_keep k), kI, fun _ _ _ ⟨a, e, h⟩ k => ⟨a, e, h.mv (Mv.of_keep k)⟩, kI, trivial⟩ ⟨?_, ?_, ?_, ?_, ?_, ?_, ?_, ?_, ?_, ?_, ?_, ?_, ?_, trivial⟩ ?_
    ·intro F1 w1 k1 hf hd
     have k0 := (Keep.drew [] wl0).trans k1
     have m1 : Mv Bl0 wl0 Bl0 w1 := Mv.of_keep k0
     have h_l := h_l.mv m1
     obtain ⟨F2, rfl⟩ := lit_of (F := F1) [(0, l_v)] ⟨hf 0 (by kernel_rfl), trivial⟩
     exact sp_plain rfl ((o_move (l_v) rfl (⟨(Keep.refl _ _), h_l⟩)))
    ·intro F1 w1 k1 hf hd
     obtain ⟨F2, rfl⟩ := lit_of (F := F1) [(8, vI ((k : Nat) : Int))] ⟨hf 8 (by kernel_rfl), trivial⟩
     exact sp_plain rfl ((o_move (vI ((k : Nat) : Int)) rfl (⟨(Keep.refl _ _), rfl⟩)))
    ·intro F1 w1 k1 hf hd
     obtain ⟨v2453, e2455, hl2454⟩ : ∃ v, F1 18 = v ∧ RdL Enc.devop w1 (Bl0 ++ O) v (l) := ⟨_, rfl, hd 0 18 (by kernel_rfl)⟩
     have := hl2454.len_le
     obtain ⟨F2, rfl⟩ := lit_of (F := F1) [(18, v2453), (19, vI ((k : Nat) : Int))] ⟨e2455, hd 1 19 (by kernel_rfl), trivial⟩
     exact sp_plain rfl ((o_idx Try.underlying26 s_40 .i64 ((k : Nat) : Int) k rfl rfl rfl hl2454 (by omega) fun a2456 hp2457 => (⟨(Keep.refl _ _), ⟨a2456, rfl, hp2457⟩⟩)))
    ·intro F1 w1 k1 hf hd
     obtain ⟨a2458, e2460, hp2459⟩ : ∃ aX_, F1 20 = .pointer (some aX_) ∧ PT Enc.devop w1 (Bl0 ++ O) (.pointer (some aX_)) (l[k]!) := hd 2 20 (by kernel_rfl)
     obtain ⟨F2, rfl⟩ := lit_of (F := F1) [(20, Value.pointer (some a2458))] ⟨e2460, trivial⟩
     exact sp_plain rfl ((o_fieldR 3 f_40_3 ((l[k]!).copy) rfl hp2459 (fun _ _ _ h => Enc_devop_f3 h) fun a2461 hp2462 => (⟨(Keep.refl _ _), ⟨a2461, rfl, hp2462⟩⟩)))
    ·intro F1 w1 k1 hf hd
     obtain ⟨a2463, e2465, hp2464⟩ : ∃ aX_, F1 21 = .pointer (some aX_) ∧ PT Enc.int w1 (Bl0 ++ O) (.pointer (some aX_)) ((l[k]!).copy) := hd 3 21 (by kernel_rfl)
     obtain ⟨F2, rfl⟩ := lit_of (F := F1) [(21, Value.pointer (some a2463))] ⟨e2465, trivial⟩
     exact sp_plain rfl ((o_loadI Try.underlying3 rfl rfl hp2464 (⟨(Keep.refl _ _), rfl⟩)))
    ·intro F1 w1 k1 hf hd
     obtain ⟨F2, rfl⟩ := lit_of (F := F1) [(1, vI c)] ⟨hf 1 (by kernel_rfl), trivial⟩
     exact sp_plain rfl ((o_move (vI c) rfl (⟨(Keep.refl _ _), rfl⟩)))
    ·intro F1 w1 k1 hf hd
     obtain ⟨F2, rfl⟩ := lit_of (F := F1) [(22, vI ((l[k]!).copy)), (23, vI c)] ⟨hd 4 22 (by kernel_rfl), hd 5 23 (by kernel_rfl), trivial⟩
     refine sp_plain rfl ((o_neq .i64 ((l[k]!).copy) c rfl rfl (?_)))
     exact ⟨(Keep.refl _ _), congrArg Value.bool (hb2451)⟩
    ·intro F1 w1 k1 hf hd
     obtain ⟨F2, rfl⟩ := lit_of (F := F1) [(24, Value.bool false)] ⟨hd 6 24 (by kernel_rfl), trivial⟩
     exact sp_plain rfl ((o_move (Value.bool false) rfl (⟨(Keep.refl _ _), rfl⟩)))
    ·intro F1 w1 k1 hf hd
     have k0 := (Keep.drew [] wl0).trans k1
     have hbs_0_b2436 := hbs_0_b2436.keep k0 (by simp)
     obtain ⟨F2, rfl⟩ := lit_of (F := F1) [(7, Value.pointer (some ⟨b2436, 0, none⟩)), (25, Value.bool false)] ⟨hf 7 (by kernel_rfl), hd 7 25 (by kernel_rfl), trivial⟩
     exact sp_take rfl rfl ((o_loadBxA (vs := [vI ((foldAt l c first k).copy), vI ((foldAt l c first k).device), vI ((foldAt l c first k).token), Value.bool ((foldAt l c first k).shown)]) Try.underlying47 rfl s_47 rfl hbs_0_b2436 rfl (⟨(Keep.refl _ _), rfl⟩)))
    ·intro F1 w1 k1 hf hd
     have k0 := (Keep.drew [] wl0).trans k1
     have m1 : Mv Bl0 wl0 Bl0 w1 := Mv.of_keep k0
     have h_l := h_l.mv m1
     obtain ⟨F2, rfl⟩ := lit_of (F := F1) [(0, l_v), (25, Value.bool false)] ⟨hf 0 (by kernel_rfl), hd 7 25 (by kernel_rfl), trivial⟩
     exact sp_take rfl rfl ((o_move (l_v) rfl (⟨(Keep.refl _ _), h_l⟩)))
    ·intro F1 w1 k1 hf hd
     obtain ⟨F2, rfl⟩ := lit_of (F := F1) [(8, vI ((k : Nat) : Int)), (25, Value.bool false)] ⟨hf 8 (by kernel_rfl), hd 7 25 (by kernel_rfl), trivial⟩
     exact sp_take rfl rfl ((o_move (vI ((k : Nat) : Int)) rfl (⟨(Keep.refl _ _), rfl⟩)))
    ·intro F1 w1 k1 hf hd
     obtain ⟨v2466, e2468, hl2467⟩ : ∃ v, F1 27 = v ∧ RdL Enc.devop w1 (Bl0 ++ O) v (l) := ⟨_, rfl, hd 9 27 (by kernel_rfl)⟩
     have := hl2467.len_le
     obtain ⟨F2, rfl⟩ := lit_of (F := F1) [(25, Value.bool false), (27, v2466), (28, vI ((k : Nat) : Int))] ⟨hd 7 25 (by kernel_rfl), e2468, hd 10 28 (by kernel_rfl), trivial⟩
     exact sp_take rfl rfl ((o_idx Try.underlying26 s_40 .i64 ((k : Nat) : Int) k rfl rfl rfl hl2467 (by omega) fun a2469 hp2470 => (⟨(Keep.refl _ _), ⟨a2469, rfl, hp2470⟩⟩)))
    ·intro F1 w1 k1 hf hd
     obtain ⟨a2471, e2473, hp2472⟩ : ∃ aX_, F1 29 = .pointer (some aX_) ∧ PT Enc.devop w1 (Bl0 ++ O) (.pointer (some aX_)) (l[k]!) := hd 11 29 (by kernel_rfl)
     obtain ⟨F2, rfl⟩ := lit_of (F := F1) [(25, Value.bool false), (29, Value.pointer (some a2471))] ⟨hd 7 25 (by kernel_rfl), e2473, trivial⟩
     refine sp_take rfl rfl ((o_loadS Try.underlying40 rfl s_40 rfl hp2472 fun cs2474 hs2475 => (?_)))
     obtain rfl := hs2475
     exact ⟨(Keep.refl _ _), rfl⟩
    intro F2477 w2478 k2476 hT2479 hF2480
    have s2481 := sl0.call k2476
    have m2482 : Mv Bl0 wl0 Bl0 w2478 := Mv.of_keep k2476
    have h_l := h_l.mv m2482
    have bx2434 := bx2434.keep k2476 (by simp)
    have hbs_0_b2436 := hbs_0_b2436.keep k2476 (by simp)
    obtain ⟨F2, rfl⟩ := lit_of (F := F2477) [(0, l_v), (1, vI c), (6, Value.pointer (some ⟨b2429, 0, none⟩)), (7, Value.pointer (some ⟨b2436, 0, none⟩)), (8, vI ((k : Nat) : Int)), (54, undef), (25, Value.bool false), (26, Value.agg #[vI ((foldAt l c first k).copy), vI ((foldAt l c first k).device), vI ((foldAt l c first k).token), Value.bool ((foldAt l c first k).shown)]), (30, Value.agg #[vI ((l[k]!).device), vI ((l[k]!).no), vI ((l[k]!).kind), vI ((l[k]!).copy), vI ((l[k]!).to), vI ((l[k]!).token)])] ⟨hF2480 0 (by kernel_rfl), hF2480 1 (by kernel_rfl), hF2480 6 (by kernel_rfl), hF2480 7 (by kernel_rfl), hF2480 8 (by kernel_rfl), hF2480 54 (by kernel_rfl), hT2479 7 25 (by kernel_rfl) (by decide), hT2479 8 26 (by kernel_rfl) (by decide), hT2479 12 30 (by kernel_rfl) (by decide), trivial⟩
    clear hT2479 hF2480
    refine wl_t rfl (o_callK (vs := [Value.agg #[vI ((foldAt l c first k).copy), vI ((foldAt l c first k).device), vI ((foldAt l c first k).token), Value.bool ((foldAt l c first k).shown)], Value.agg #[vI ((l[k]!).device), vI ((l[k]!).no), vI ((l[k]!).kind), vI ((l[k]!).copy), vI ((l[k]!).to), vI ((l[k]!).token)]]) enter_102 (c_counts (O := Bl0 ++ O) [vI ((foldAt l c first k).copy), vI ((foldAt l c first k).device), vI ((foldAt l c first k).token), Value.bool ((foldAt l c first k).shown)] (foldAt l c first k) [vI ((l[k]!).device), vI ((l[k]!).no), vI ((l[k]!).kind), vI ((l[k]!).copy), vI ((l[k]!).to), vI ((l[k]!).token)] (l[k]!) w2478 rfl rfl (foldAt_tok hpre0 c first k).1 (foldAt_tok hpre0 c first k).2 s2481.lt) rfl s2481 fun v2485 w2486 s2487 m2488 k2489 r2490 => (?_))
    obtain rfl := r2490
    have h_l := h_l.mv m2488
    have bx2434 := bx2434.keep k2489 (by simp)
    have hbs_0_b2436 := hbs_0_b2436.keep k2489 (by simp)
    refine wl_t rfl (o_not (countsM (foldAt l c first k) (l[k]!)) rfl (wl_s (o_pickF (Value.bool (!(countsM (foldAt l c first k) (l[k]!)))) rfl rfl (wl_nil (thenQ_n (?_))))))
    refine cw_cond (!(countsM (foldAt l c first k) (l[k]!))) rfl rfl (fun hc2491 => ?_) (fun hc2491 => ?_)
    ·have hp2492 : (countsM (foldAt l c first k) (l[k]!)) = false := by first | simpa using hc2491 | (have e := hc2491; rw [Bool.not_eq_true'] at e; exact e) | (have e := hc2491; rw [Bool.not_eq_false'] at e; exact e) | (have e := hc2491; simp at e; omega)
     refine cw_exit (thenQ_x (blockQ_x (thenQ_n (?_))))
     refine cw_region (by kernel_rfl) (wl_s (o_move (vI ((k : Nat) : Int)) rfl (wl_s (o_add .i64 ((k : Nat) : Int) (1 : Int) (((k + 1 : Nat) : Int)) rfl rfl (w64 (by omega) (by omega)) (wl_s (o_assign (vI ((k + 1 : Nat) : Int)) rfl (wl_nil (thenQ_n (?_)))))))))
     exact ⟨_, (by omega), (k + 1), Bl0, (by first | omega | (simp; done) | (simp; omega) | simp_all), rfl, ⟨_, upds_self _ ⟨rfl, rfl, rfl, rfl, (by first | rfl | exact congrArg (Value.int _) (by first | omega | (simp))), rfl, trivial⟩⟩, s2487, h_l, bx2434, (by first | assumption | (repeat (first | exact List.mem_cons_self | assumption | apply List.mem_cons_of_mem)) | (apply_assumption; assumption)), (by rw [show ([vI ((foldAt l c first (k + 1)).copy), vI ((foldAt l c first (k + 1)).device), vI ((foldAt l c first (k + 1)).token), Value.bool ((foldAt l c first (k + 1)).shown)] : List Value) = [vI ((foldAt l c first k).copy), vI ((foldAt l c first k).device), vI ((foldAt l c first k).token), Value.bool ((foldAt l c first k).shown)] from by first | rw [fold_other (by omega) (by assumption)] | rw [fold_no (by omega) (by assumption)] | rw [fold_give (by omega) (by assumption) (by assumption) (by omega)] | rw [fold_show (by omega) (by assumption) (by assumption) (chk_kind hpre0 (by omega) (by assumption))]]; exact hbs_0_b2436), (by first | assumption | (repeat (first | exact List.mem_cons_self | assumption | apply List.mem_cons_of_mem)) | (apply_assumption; assumption))⟩
    ·have hp2493 : (countsM (foldAt l c first k) (l[k]!)) = true := by first | simpa using hc2491 | (have e := hc2491; rw [Bool.not_eq_true'] at e; exact e) | (have e := hc2491; rw [Bool.not_eq_false'] at e; exact e) | (have e := hc2491; simp at e; omega)
     refine cw_skip (thenQ_n (?_))
     refine cw_seq (?_)
     refine cw_region (by kernel_rfl) (wl_s (o_move (l_v) rfl (wl_s (o_move (vI ((k : Nat) : Int)) rfl (wl_s (o_idx Try.underlying26 s_40 .i64 ((k : Nat) : Int) k rfl rfl rfl h_l (by omega) fun a2494 hp2495 => (wl_s (o_fieldR 5 f_40_5 ((l[k]!).token) rfl hp2495 (fun _ _ _ h => Enc_devop_f5 h) fun a2496 hp2497 => (wl_s (o_loadI Try.underlying3 rfl rfl hp2497 (wl_s (o_fieldL 2 f_47_2 rfl (wl_n (o_store1 (vI ((l[k]!).token)) rfl rfl rfl s_3 (by repeat (first | assumption | constructor)) hbs_0_b2436 (of_decide_eq_true rfl) s2487 fun w2498 s2499 m2500 k2501 bx2502 => (?_)))))))))))))))
     have h_l := h_l.mv m2500
     have bx2434 := bx2434.keep k2501 (nin1 ne2443)
     refine wl_nil (thenQ_n (?_))
     refine cw_seq (?_)
     refine cw_region (by kernel_rfl) (wl_s (o_move (l_v) rfl (wl_s (o_move (vI ((k : Nat) : Int)) rfl (wl_s (o_idx Try.underlying26 s_40 .i64 ((k : Nat) : Int) k rfl rfl rfl h_l (by omega) fun a2503 hp2504 => (wl_s (o_fieldR 2 f_40_2 ((l[k]!).kind) rfl hp2504 (fun _ _ _ h => Enc_devop_f2 h) fun a2505 hp2506 => (wl_s (o_loadI Try.underlying3 rfl rfl hp2506 (wl_s (o_eql .i64 ((l[k]!).kind) (1 : Int) rfl rfl (wl_nil (thenQ_n (?_)))))))))))))))
     refine cw_cond (((l[k]!).kind) == (1 : Int)) rfl rfl (fun hc2507 => ?_) (fun hc2507 => ?_)
     ·have hp2508 : (l[k]!).kind = (1 : Int) := by first | simpa using hc2507 | (have e := hc2507; simp at e; omega)
      refine cw_region (by kernel_rfl) (wl_s (o_move (l_v) rfl (wl_s (o_move (vI ((k : Nat) : Int)) rfl (wl_s (o_idx Try.underlying26 s_40 .i64 ((k : Nat) : Int) k rfl rfl rfl h_l (by omega) fun a2509 hp2510 => (wl_s (o_fieldR 4 f_40_4 ((l[k]!).to) rfl hp2510 (fun _ _ _ h => Enc_devop_f4 h) fun a2511 hp2512 => (wl_s (o_loadI Try.underlying3 rfl rfl hp2512 (wl_s (o_fieldL 1 f_47_1 rfl (wl_n (o_store1 (vI ((l[k]!).to)) rfl rfl rfl s_3 (by repeat (first | assumption | constructor)) bx2502 (of_decide_eq_true rfl) s2499 fun w2513 s2514 m2515 k2516 bx2517 => (?_)))))))))))))))
      have h_l := h_l.mv m2515
      have bx2434 := bx2434.keep k2516 (nin1 ne2443)
      refine wl_nil (blockQ_n (thenQ_n (?_)))
      refine cw_region (by kernel_rfl) (wl_s (o_move (vI ((k : Nat) : Int)) rfl (wl_s (o_add .i64 ((k : Nat) : Int) (1 : Int) (((k + 1 : Nat) : Int)) rfl rfl (w64 (by omega) (by omega)) (wl_s (o_assign (vI ((k + 1 : Nat) : Int)) rfl (wl_nil (thenQ_n (?_)))))))))
      exact ⟨_, (by omega), (k + 1), Bl0, (by first | omega | (simp; done) | (simp; omega) | simp_all), rfl, ⟨_, upds_self _ ⟨rfl, rfl, rfl, rfl, (by first | rfl | exact congrArg (Value.int _) (by first | omega | (simp))), rfl, trivial⟩⟩, s2514, h_l, bx2434, (by first | assumption | (repeat (first | exact List.mem_cons_self | assumption | apply List.mem_cons_of_mem)) | (apply_assumption; assumption)), (by rw [show ([vI ((foldAt l c first (k + 1)).copy), vI ((foldAt l c first (k + 1)).device), vI ((foldAt l c first (k + 1)).token), Value.bool ((foldAt l c first (k + 1)).shown)] : List Value) = [vI ((foldAt l c first k).copy), vI ((l[k]!).to), vI ((l[k]!).token), Value.bool ((foldAt l c first k).shown)] from by first | rw [fold_other (by omega) (by assumption)] | rw [fold_no (by omega) (by assumption)] | rw [fold_give (by omega) (by assumption) (by assumption) (by omega)] | rw [fold_show (by omega) (by assumption) (by assumption) (chk_kind hpre0 (by omega) (by assumption))]]; exact bx2517), (by first | assumption | (repeat (first | exact List.mem_cons_self | assumption | apply List.mem_cons_of_mem)) | (apply_assumption; assumption))⟩
     ·have hp2518 : (l[k]!).kind ≠ (1 : Int) := by first | simpa using hc2507 | (have e := hc2507; simp at e; omega)
      refine cw_region (by kernel_rfl) (wl_s (o_fieldL 3 f_47_3 rfl (wl_n (o_store1 (Value.bool true) rfl rfl rfl s_4 (by repeat (first | assumption | constructor)) bx2502 (of_decide_eq_true rfl) s2499 fun w2519 s2520 m2521 k2522 bx2523 => (?_)))))
      have h_l := h_l.mv m2521
      have bx2434 := bx2434.keep k2522 (nin1 ne2443)
      refine wl_nil (blockQ_n (thenQ_n (?_)))
      refine cw_region (by kernel_rfl) (wl_s (o_move (vI ((k : Nat) : Int)) rfl (wl_s (o_add .i64 ((k : Nat) : Int) (1 : Int) (((k + 1 : Nat) : Int)) rfl rfl (w64 (by omega) (by omega)) (wl_s (o_assign (vI ((k + 1 : Nat) : Int)) rfl (wl_nil (thenQ_n (?_)))))))))
      exact ⟨_, (by omega), (k + 1), Bl0, (by first | omega | (simp; done) | (simp; omega) | simp_all), rfl, ⟨_, upds_self _ ⟨rfl, rfl, rfl, rfl, (by first | rfl | exact congrArg (Value.int _) (by first | omega | (simp))), rfl, trivial⟩⟩, s2520, h_l, bx2434, (by first | assumption | (repeat (first | exact List.mem_cons_self | assumption | apply List.mem_cons_of_mem)) | (apply_assumption; assumption)), (by rw [show ([vI ((foldAt l c first (k + 1)).copy), vI ((foldAt l c first (k + 1)).device), vI ((foldAt l c first (k + 1)).token), Value.bool ((foldAt l c first (k + 1)).shown)] : List Value) = [vI ((foldAt l c first k).copy), vI ((foldAt l c first k).device), vI ((l[k]!).token), Value.bool true] from by first | rw [fold_other (by omega) (by assumption)] | rw [fold_no (by omega) (by assumption)] | rw [fold_give (by omega) (by assumption) (by assumption) (by omega)] | rw [fold_show (by omega) (by assumption) (by assumption) (chk_kind hpre0 (by omega) (by assumption))]]; exact bx2523), (by first | assumption | (repeat (first | exact List.mem_cons_self | assumption | apply List.mem_cons_of_mem)) | (apply_assumption; assumption))⟩
   ·have hp2524 : (l[k]!).copy ≠ c := by first | simpa using hb2451 | (have e := hb2451; simp at e; omega)
    refine cw_draw' 13 _ _ [fun (vT : Value) (wT : World) => RdL Enc.devop wT (Bl0 ++ O) vT (l), isV (vI ((k : Nat) : Int)), fun (vT : Value) (wT : World) => ∃ aT, vT = .pointer (some aT) ∧ PT Enc.devop wT (Bl0 ++ O) (.pointer (some aT)) (l[k]!), fun (vT : Value) (wT : World) => ∃ aT, vT = .pointer (some aT) ∧ PT Enc.int wT (Bl0 ++ O) (.pointer (some aT)) ((l[k]!).copy), isV (vI ((l[k]!).copy)), isV (vI c), isV (Value.bool true), isV (Value.bool true), isV undef, isV undef, isV undef, isV undef, isV undef] (by kernel_rfl) (by kernel_rfl) (by kernel_rfl) (by kernel_rfl) rfl rfl ⟨fun _ _ _ h k => h.mv (Mv.of_keep k), kI, fun _ _ _ ⟨a, e, h⟩ k => ⟨a, e, h.mv (Mv.of_keep k)⟩, fun _ _ _ ⟨a, e, h⟩ k => ⟨a, e, h.mv (Mv.of_keep k)⟩, kI, kI, kI, kI, kI, kI, kI, kI, kI, trivial⟩ ⟨?_, ?_, ?_, ?_, ?_, ?_, ?_, ?_, ?_, ?_, ?_, ?_, ?_, trivial⟩ ?_
    ·intro F1 w1 k1 hf hd
     have k0 := (Keep.drew [] wl0).trans k1
     have m1 : Mv Bl0 wl0 Bl0 w1 := Mv.of_keep k0
     have h_l := h_l.mv m1
     obtain ⟨F2, rfl⟩ := lit_of (F := F1) [(0, l_v)] ⟨hf 0 (by kernel_rfl), trivial⟩
     exact sp_plain rfl ((o_move (l_v) rfl (⟨(Keep.refl _ _), h_l⟩)))
    ·intro F1 w1 k1 hf hd
     obtain ⟨F2, rfl⟩ := lit_of (F := F1) [(8, vI ((k : Nat) : Int))] ⟨hf 8 (by kernel_rfl), trivial⟩
     exact sp_plain rfl ((o_move (vI ((k : Nat) : Int)) rfl (⟨(Keep.refl _ _), rfl⟩)))
    ·intro F1 w1 k1 hf hd
     obtain ⟨v2525, e2527, hl2526⟩ : ∃ v, F1 18 = v ∧ RdL Enc.devop w1 (Bl0 ++ O) v (l) := ⟨_, rfl, hd 0 18 (by kernel_rfl)⟩
     have := hl2526.len_le
     obtain ⟨F2, rfl⟩ := lit_of (F := F1) [(18, v2525), (19, vI ((k : Nat) : Int))] ⟨e2527, hd 1 19 (by kernel_rfl), trivial⟩
     exact sp_plain rfl ((o_idx Try.underlying26 s_40 .i64 ((k : Nat) : Int) k rfl rfl rfl hl2526 (by omega) fun a2528 hp2529 => (⟨(Keep.refl _ _), ⟨a2528, rfl, hp2529⟩⟩)))
    ·intro F1 w1 k1 hf hd
     obtain ⟨a2530, e2532, hp2531⟩ : ∃ aX_, F1 20 = .pointer (some aX_) ∧ PT Enc.devop w1 (Bl0 ++ O) (.pointer (some aX_)) (l[k]!) := hd 2 20 (by kernel_rfl)
     obtain ⟨F2, rfl⟩ := lit_of (F := F1) [(20, Value.pointer (some a2530))] ⟨e2532, trivial⟩
     exact sp_plain rfl ((o_fieldR 3 f_40_3 ((l[k]!).copy) rfl hp2531 (fun _ _ _ h => Enc_devop_f3 h) fun a2533 hp2534 => (⟨(Keep.refl _ _), ⟨a2533, rfl, hp2534⟩⟩)))
    ·intro F1 w1 k1 hf hd
     obtain ⟨a2535, e2537, hp2536⟩ : ∃ aX_, F1 21 = .pointer (some aX_) ∧ PT Enc.int w1 (Bl0 ++ O) (.pointer (some aX_)) ((l[k]!).copy) := hd 3 21 (by kernel_rfl)
     obtain ⟨F2, rfl⟩ := lit_of (F := F1) [(21, Value.pointer (some a2535))] ⟨e2537, trivial⟩
     exact sp_plain rfl ((o_loadI Try.underlying3 rfl rfl hp2536 (⟨(Keep.refl _ _), rfl⟩)))
    ·intro F1 w1 k1 hf hd
     obtain ⟨F2, rfl⟩ := lit_of (F := F1) [(1, vI c)] ⟨hf 1 (by kernel_rfl), trivial⟩
     exact sp_plain rfl ((o_move (vI c) rfl (⟨(Keep.refl _ _), rfl⟩)))
    ·intro F1 w1 k1 hf hd
     obtain ⟨F2, rfl⟩ := lit_of (F := F1) [(22, vI ((l[k]!).copy)), (23, vI c)] ⟨hd 4 22 (by kernel_rfl), hd 5 23 (by kernel_rfl), trivial⟩
     refine sp_plain rfl ((o_neq .i64 ((l[k]!).copy) c rfl rfl (?_)))
     exact ⟨(Keep.refl _ _), congrArg Value.bool (hb2451)⟩
    ·intro F1 w1 k1 hf hd
     obtain ⟨F2, rfl⟩ := lit_of (F := F1) [(24, Value.bool true)] ⟨hd 6 24 (by kernel_rfl), trivial⟩
     exact sp_plain rfl ((o_move (Value.bool true) rfl (⟨(Keep.refl _ _), rfl⟩)))
    ·intro F1 w1 k1 hf hd
     exact sp_skipD rfl rfl (hd 7 25 (by kernel_rfl)) rfl rfl
    ·intro F1 w1 k1 hf hd
     exact sp_skipD rfl rfl (hd 7 25 (by kernel_rfl)) rfl rfl
    ·intro F1 w1 k1 hf hd
     exact sp_skipD rfl rfl (hd 7 25 (by kernel_rfl)) rfl rfl
    ·intro F1 w1 k1 hf hd
     exact sp_skipD rfl rfl (hd 7 25 (by kernel_rfl)) rfl rfl
    ·intro F1 w1 k1 hf hd
     exact sp_skipD rfl rfl (hd 7 25 (by kernel_rfl)) rfl rfl
    intro F2539 w2540 k2538 hT2541 hF2542
    have s2543 := sl0.call k2538
    have m2544 : Mv Bl0 wl0 Bl0 w2540 := Mv.of_keep k2538
    have h_l := h_l.mv m2544
    have bx2434 := bx2434.keep k2538 (by simp)
    have hbs_0_b2436 := hbs_0_b2436.keep k2538 (by simp)
    obtain ⟨F2, rfl⟩ := lit_of (F := F2539) [(0, l_v), (1, vI c), (6, Value.pointer (some ⟨b2429, 0, none⟩)), (7, Value.pointer (some ⟨b2436, 0, none⟩)), (8, vI ((k : Nat) : Int)), (54, undef), (25, Value.bool true)] ⟨hF2542 0 (by kernel_rfl), hF2542 1 (by kernel_rfl), hF2542 6 (by kernel_rfl), hF2542 7 (by kernel_rfl), hF2542 8 (by kernel_rfl), hF2542 54 (by kernel_rfl), hT2541 7 25 (by kernel_rfl) (by decide), trivial⟩
    clear hT2541 hF2542
    refine wl_k rfl (wl_k rfl (wl_s (o_pickT (Value.bool true) rfl rfl (wl_nil (thenQ_n (?_))))))
    refine cw_cond true rfl rfl (fun _ => ?_) (fun h => by cases h)
    refine cw_exit (thenQ_x (blockQ_x (thenQ_n (?_))))
    refine cw_region (by kernel_rfl) (wl_s (o_move (vI ((k : Nat) : Int)) rfl (wl_s (o_add .i64 ((k : Nat) : Int) (1 : Int) (((k + 1 : Nat) : Int)) rfl rfl (w64 (by omega) (by omega)) (wl_s (o_assign (vI ((k + 1 : Nat) : Int)) rfl (wl_nil (thenQ_n (?_)))))))))
    exact ⟨_, (by omega), (k + 1), Bl0, (by first | omega | (simp; done) | (simp; omega) | simp_all), rfl, ⟨_, upds_self _ ⟨rfl, rfl, rfl, rfl, (by first | rfl | exact congrArg (Value.int _) (by first | omega | (simp))), rfl, trivial⟩⟩, s2543, h_l, bx2434, (by first | assumption | (repeat (first | exact List.mem_cons_self | assumption | apply List.mem_cons_of_mem)) | (apply_assumption; assumption)), (by rw [show ([vI ((foldAt l c first (k + 1)).copy), vI ((foldAt l c first (k + 1)).device), vI ((foldAt l c first (k + 1)).token), Value.bool ((foldAt l c first (k + 1)).shown)] : List Value) = [vI ((foldAt l c first k).copy), vI ((foldAt l c first k).device), vI ((foldAt l c first k).token), Value.bool ((foldAt l c first k).shown)] from by first | rw [fold_other (by omega) (by assumption)] | rw [fold_no (by omega) (by assumption)] | rw [fold_give (by omega) (by assumption) (by assumption) (by omega)] | rw [fold_show (by omega) (by assumption) (by assumption) (chk_kind hpre0 (by omega) (by assumption))]]; exact hbs_0_b2436), (by first | assumption | (repeat (first | exact List.mem_cons_self | assumption | apply List.mem_cons_of_mem)) | (apply_assumption; assumption))⟩
  ·have hp2547 : (l.length : Int) ≤ ((k : Nat) : Int) := by first | simpa using hc2449 | (have e := hc2449; simp at e; omega)
   obtain rfl : k = l.length := by omega
   refine cw_exit (thenQ_x (thenQ_x (blockQ_x (thenQ_n (?_)))))
   refine cw_seq (?_)
   refine cw_region (by kernel_rfl) (wl_s (o_loadBxA (vs := [vI ((foldAt l c first l.length).copy), vI ((foldAt l c first l.length).device), vI ((foldAt l c first l.length).token), Value.bool ((foldAt l c first l.length).shown)]) Try.underlying47 rfl s_47 rfl hbs_0_b2436 rfl (wl_n (o_store (vs := [vI ((foldAt l c first l.length).copy), vI ((foldAt l c first l.length).device), vI ((foldAt l c first l.length).token), Value.bool ((foldAt l c first l.length).shown)]) (.agg #[vI ((foldAt l c first l.length).copy), vI ((foldAt l c first l.length).device), vI ((foldAt l c first l.length).token), Value.bool ((foldAt l c first l.length).shown)]) rfl rfl rfl s_47 (fun u hu => by simp only [List.mem_cons, List.not_mem_nil, or_false] at hu; rcases hu with rfl | rfl | rfl | rfl <;> first | rfl) (by repeat (first | assumption | constructor)) bx2434 (of_decide_eq_true rfl) sl0 fun w2548 s2549 m2550 k2551 bx2552 => (?_)))))
   refine wl_nil (thenQ_n (?_))
   refine cw_ret (end_r rfl (rescA (vs := [vI ((foldAt l c first l.length).copy), vI ((foldAt l c first l.length).device), vI ((foldAt l c first l.length).token), Value.bool ((foldAt l c first l.length).shown)]) rfl rfl Try.underlying47 rfl s_47 rfl bx2552 rfl) (?_))
   have e : (holdM l first c) = (foldAt l c first l.length) := by exact (foldAt_end l c first).symm
   exact ⟨_, rfl, s2549.keep, by rw [e]; first | done | exact ⟨[vI ((foldAt l c first l.length).copy), vI ((foldAt l c first l.length).device), vI ((foldAt l c first l.length).token), Value.bool ((foldAt l c first l.length).shown)], rfl, Enc.out (B := Bl0) rfl⟩⟩
set_option maxHeartbeats 4000000 in
set_option maxRecDepth 100000 in
theorem c_refState {O : List Nat} (l_v : Value) (l : List DeviceOp) (copies : Int) (first : Int) (w : World) (h_l : RdL Enc.devop w O l_v l) (hO : ∀ b ∈ O, b < w.heap.size) : CallsK Try.prog 33 [l_v, vI copies, vI first] w (fun v w' => ∃ (x0 : Value), v = .tuple #[x0, vI ((stateM l copies first).2)] ∧ RdL Enc.holding w' (O) x0 ((stateM l copies first).1)) :=  by
 have lim_l := h_l.len_le
 have h_l : RdL Enc.devop w ([] ++ O) l_v l := h_l
 have s0 : St w O w [] := St.start hO
 refine callsK_of 35 Try.func33 rfl rfl (of_decide_eq_true rfl) (fun F0 => ?_)
 refine cw_seq (?_)
 refine cw_region (by kernel_rfl) (wl_s (o_assign (Value.slice none 0 0) rfl (wl_s (o_assign (vI (0 : Int)) rfl (wl_nil (thenQ_n (?_)))))))
 refine cw_seq (?_)
 refine cw_seq (?_)
 refine cw_region (by kernel_rfl) (wl_s (o_move (l_v) rfl (wl_s (o_callK (vs := [l_v]) enter_30 (c_refCheck (O := [] ++ O) l_v l w h_l s0.lt) rfl s0 fun v2553 w2554 s2555 m2556 k2557 r2558 => (?_)))))
 obtain rfl := r2558
 have h_l := h_l.mv m2556
 refine wl_s (o_neq .i64 (checkM l) (0 : Int) rfl rfl (wl_nil (thenQ_n (?_))))
 refine cw_cond ((checkM l) != (0 : Int)) rfl rfl (fun hc2559 => ?_) (fun hc2559 => ?_)
 ·have hp2560 : checkM l ≠ (0 : Int) := by first | simpa using hc2559 | (have e := hc2559; simp at e; omega)
  refine cw_seq (?_)
  refine cw_region (by kernel_rfl) (wl_s (o_assign (Value.slice none 0 0) rfl (wl_s (o_assign (vI (420 : Int)) rfl (wl_nil (thenQ_n (?_)))))))
  refine cw_ret (thenQ_r (end_r rfl (res2 rfl rfl rfl rfl) (?_)))
  have e2561 : ((stateM l copies first).1) = ([]) := by first | exact congrArg (fun p => p.1) (show stateM l copies first = _ from state_1 (by assumption)) | exact congrArg (fun p => p.1) (show stateM l copies first = _ from rstate_2 (by assumption) (by assumption)) | exact congrArg (fun p => p.1) (show stateM l copies first = _ from state_4 (by assumption) (by assumption)) | exact congrArg (fun p => p.1) (show stateM l copies first = _ from rstate_5 (by assumption) (by assumption) (by assumption))
  have e2562 : ((stateM l copies first).2) = (420 : Int) := by first | exact congrArg (fun p => p.2) (show stateM l copies first = _ from state_1 (by assumption)) | exact congrArg (fun p => p.2) (show stateM l copies first = _ from rstate_2 (by assumption) (by assumption)) | exact congrArg (fun p => p.2) (show stateM l copies first = _ from state_4 (by assumption) (by assumption)) | exact congrArg (fun p => p.2) (show stateM l copies first = _ from rstate_5 (by assumption) (by assumption) (by assumption))
  exact ⟨_, rfl, s2555.keep, by rw [e2561, e2562]; exact ⟨.slice none 0 0, rfl, RdL.nil _ _ _⟩⟩
 ·have hp2563 : checkM l = (0 : Int) := by first | simpa using hc2559 | (have e := hc2559; simp at e; omega)
  have hchk : checkM l = 0 := hp2563
  have hchk_1 := (check_ok hchk).1
  refine cw_skip (thenQ_n (?_))
  refine cw_seq (?_)
  refine cw_seq (?_)
  refine cw_region (by kernel_rfl) (wl_s (o_move (vI copies) rfl (wl_s (o_callK (vs := [vI copies, vI (0 : Int), vI (1024 : Int)]) enter_74 (c_in (O := [] ++ O) copies (0 : Int) (1024 : Int) w2554 s2555.lt) rfl s2555 fun v2564 w2565 s2566 m2567 k2568 r2569 => (?_)))))
  obtain rfl := r2569
  have h_l := h_l.mv m2567
  refine wl_s (o_not (inD copies (0 : Int) (1024 : Int)) rfl (wl_s (o_move (Value.bool (!(inD copies (0 : Int) (1024 : Int)))) rfl (?_))))
  cases hb2570 : (!(inD copies (0 : Int) (1024 : Int)))
  ·have hp2571 : (inD copies (0 : Int) (1024 : Int)) = true := by first | simpa using hb2570 | (have e := hb2570; rw [Bool.not_eq_true'] at e; exact e) | (have e := hb2570; rw [Bool.not_eq_false'] at e; exact e) | (have e := hb2570; simp at e; omega)
   have hcl := inD_le hp2571
   refine wl_t rfl (o_move (vI first) rfl (wl_t rfl (o_callK (vs := [vI first]) enter_75 (c_refDev (O := [] ++ O) first w2565 s2566.lt) rfl s2566 fun v2572 w2573 s2574 m2575 k2576 r2577 => (?_))))
   obtain rfl := r2577
   have h_l := h_l.mv m2575
   refine wl_t rfl (o_not (isDevM first) rfl (wl_s (o_pickF (Value.bool (!(isDevM first))) rfl rfl (wl_nil (thenQ_n (?_))))))
   refine cw_cond (!(isDevM first)) rfl rfl (fun hc2578 => ?_) (fun hc2578 => ?_)
   ·have hp2579 : (isDevM first) = false := by first | simpa using hc2578 | (have e := hc2578; rw [Bool.not_eq_true'] at e; exact e) | (have e := hc2578; rw [Bool.not_eq_false'] at e; exact e) | (have e := hc2578; simp at e; omega)
    refine cw_seq (?_)
    refine cw_region (by kernel_rfl) (wl_s (o_assign (Value.slice none 0 0) rfl (wl_s (o_assign (vI (1 : Int)) rfl (wl_nil (thenQ_n (?_)))))))
    refine cw_ret (thenQ_r (end_r rfl (res2 rfl rfl rfl rfl) (?_)))
    have e2580 : ((stateM l copies first).1) = ([]) := by first | exact congrArg (fun p => p.1) (show stateM l copies first = _ from state_1 (by assumption)) | exact congrArg (fun p => p.1) (show stateM l copies first = _ from rstate_2 (by assumption) (by assumption)) | exact congrArg (fun p => p.1) (show stateM l copies first = _ from state_4 (by assumption) (by assumption)) | exact congrArg (fun p => p.1) (show stateM l copies first = _ from rstate_5 (by assumption) (by assumption) (by assumption))
    have e2581 : ((stateM l copies first).2) = (1 : Int) := by first | exact congrArg (fun p => p.2) (show stateM l copies first = _ from state_1 (by assumption)) | exact congrArg (fun p => p.2) (show stateM l copies first = _ from rstate_2 (by assumption) (by assumption)) | exact congrArg (fun p => p.2) (show stateM l copies first = _ from state_4 (by assumption) (by assumption)) | exact congrArg (fun p => p.2) (show stateM l copies first = _ from rstate_5 (by assumption) (by assumption) (by assumption))
    exact ⟨_, rfl, s2574.keep, by rw [e2580, e2581]; exact ⟨.slice none 0 0, rfl, RdL.nil _ _ _⟩⟩
   ·have hp2582 : (isDevM first) = true := by first | simpa using hc2578 | (have e := hc2578; rw [Bool.not_eq_true'] at e; exact e) | (have e := hc2578; rw [Bool.not_eq_false'] at e; exact e) | (have e := hc2578; simp at e; omega)
    refine cw_skip (thenQ_n (?_))
    refine cw_seq (?_)
    refine cw_region (by kernel_rfl) (wl_s (o_litO (E := Enc.holding) (xs := []) Try.underlying43 s_47 z_47 (by decide) [] [] [] rfl rfl rfl (Parts.nil _ _ _) (of_decide_eq_true rfl) s2574 fun v2587 b2589 w2583 e2590 hb2591 s2584 m2585 k2586 hl2588 => (?_)))
    have hB2592 : ∀ b, v2587.ownBlock = some b → b ∈ (b2589 :: []) := fun b hb => by rw [hb2591] at hb; cases hb; simp
    clear e2590 hb2591
    have h_l := h_l.mv m2585
    refine wl_s (o_assign (v2587) rfl (wl_nil (thenQ_n (?_))))
    refine cw_seq (?_)
    refine cw_seq (?_)
    refine cw_region (by kernel_rfl) (wl_s (o_assign (vI (0 : Int)) rfl (wl_nil (thenQ_n (?_)))))
    refine cw_block (?_)
    refine cw_loop (fun mI FI wI => ∃ (k : Nat) (vo0_8 : Value) (B : List Nat), (k : Int) ≤ copies ∧ mI = copies.toNat - k ∧ (∃ F1, FI = upds F1 [(0, l_v), (1, vI copies), (2, vI first), (8, vo0_8), (9, vI ((k : Nat) : Int)), (35, undef)]) ∧ St w O wI B ∧ Own Enc.holding 47 w.heap.size (B ++ O) wI vo0_8 (holdsM l first k) ∧ (∀ b, vo0_8.ownBlock = some b → b ∈ B) ∧ RdL Enc.devop wI (B ++ O) (l_v) (l)) (copies.toNat - (0)) ?_ ?_
    ·exact ⟨(0), v2587, (b2589 :: []), (by omega), rfl, ⟨_, upds_self _ ⟨rfl, rfl, rfl, rfl, (by first | rfl | exact congrArg (Value.int _) (by first | omega | (simp))), rfl, trivial⟩⟩, s2584, (by rw [show holdsM l first (0) = [] from rfl]; exact hl2588), hB2592, h_l⟩
    ·intro ml0 F wl0 hI
     clear h_l
     obtain ⟨k, vo0_8, Bl0, hr0_0, hm0, ⟨Fl0, rfl⟩, sl0, ho0_8, hB0_8, h_l⟩ := hI
     refine cw_seq (?_)
     refine cw_seq (?_)
     refine cw_region (by kernel_rfl) (wl_s (o_move (vI ((k : Nat) : Int)) rfl (wl_s (o_move (vI copies) rfl (wl_s (o_lss .i64 ((k : Nat) : Int) copies rfl rfl (wl_nil (thenQ_n (?_)))))))))
     refine cw_cond (decide (((k : Nat) : Int) < copies)) rfl rfl (fun hc2593 => ?_) (fun hc2593 => ?_)
     ·have hp2594 : ((k : Nat) : Int) < copies := by first | simpa using hc2593 | (have e := hc2593; simp at e; omega)
      refine cw_skip (thenQ_n (?_))
      refine cw_seq (?_)
      refine cw_block (?_)
      refine cw_region (by kernel_rfl) (wl_s (o_move (vo0_8) rfl (wl_s (o_move (l_v) rfl (wl_s (o_move (vI ((k : Nat) : Int)) rfl (wl_s (o_move (vI first) rfl (wl_s (o_callK (vs := [l_v, vI ((k : Nat) : Int), vI first]) enter_76 (c_refHold (O := Bl0 ++ O) l_v l ((k : Nat) : Int) first wl0 h_l hchk sl0.lt) rfl sl0 fun v2595 w2596 s2597 m2598 k2599 r2600 => (?_)))))))))))
      obtain ⟨cs2601, rfl, hs2602⟩ := r2600
      obtain rfl := hs2602
      have h_l := h_l.mv m2598
      have ho0_8 := ho0_8.mv m2598 k2599 (by simp)
      refine wl_s (o_lit (E := Enc.holding) (xs := [.tmp 31]) Try.underlying43 s_47 z_47 (by decide) [.agg #[vI ((holdM l first ((k : Nat) : Int)).copy), vI ((holdM l first ((k : Nat) : Int)).device), vI ((holdM l first ((k : Nat) : Int)).token), Value.bool ((holdM l first ((k : Nat) : Int)).shown)]] [[vI ((holdM l first ((k : Nat) : Int)).copy), vI ((holdM l first ((k : Nat) : Int)).device), vI ((holdM l first ((k : Nat) : Int)).token), Value.bool ((holdM l first ((k : Nat) : Int)).shown)]] [(holdM l first ((k : Nat) : Int))] rfl rfl rfl (Parts.cons rfl rfl (Parts.nil _ _ _)) (of_decide_eq_true rfl) s2597 fun v2607 w2603 s2604 m2605 k2606 hl2608 => (?_))
      have h_l := h_l.mv m2605
      have ho0_8 := ho0_8.mv m2605 k2606 (by simp)
      have := hl2608.len_le
      refine wl_s (o_append (E := Enc.holding) (l := holdsM l first k) (m := [(holdM l first ((k : Nat) : Int))]) Try.underlying43 i_47 rfl (by decide) rfl rfl ho0_8 hl2608 (fun _ hb => .inl hb) hB0_8 (by rw [holdsM_len]; simp; omega) (by rw [holdsM_len]; simp [maxLen]; omega) s2604 fun v2613 w2609 B2615 hB2616 at2617 sub2618 s2610 m2611 k2612 ho2614 => (?_))
      have h_l := h_l.mv m2611
      refine wl_s (o_assign (v2613) rfl (wl_nil (blockQ_n (thenQ_n (?_)))))
      refine cw_region (by kernel_rfl) (wl_s (o_move (vI ((k : Nat) : Int)) rfl (wl_s (o_add .i64 ((k : Nat) : Int) (1 : Int) (((k + 1 : Nat) : Int)) rfl rfl (w64 (by omega) (by omega)) (wl_s (o_assign (vI ((k + 1 : Nat) : Int)) rfl (wl_nil (thenQ_n (?_)))))))))
      exact ⟨_, (by omega), (k + 1), v2613, B2615, (by omega), rfl, ⟨_, upds_self _ ⟨rfl, rfl, rfl, rfl, (by first | rfl | exact congrArg (Value.int _) (by first | omega | (simp))), rfl, trivial⟩⟩, s2610, (by rw [show holdsM l first (k + 1) = (holdsM l first k) ++ ([(holdM l first ((k : Nat) : Int))]) from holdsM_succ l first k]; exact ho2614), hB2616, h_l⟩
     ·have hp2619 : copies ≤ ((k : Nat) : Int) := by first | simpa using hc2593 | (have e := hc2593; simp at e; omega)
      obtain rfl : k = copies.toNat := by omega
      refine cw_exit (thenQ_x (thenQ_x (blockQ_x (thenQ_n (?_)))))
      refine cw_seq (?_)
      refine cw_region (by kernel_rfl) (wl_s (o_move (vo0_8) rfl (wl_s (o_assign (vo0_8) rfl (wl_s (o_assign (vI (0 : Int)) rfl (wl_nil (thenQ_n (?_)))))))))
      refine cw_ret (end_r rfl (res2 rfl rfl rfl rfl) (?_))
      have e2620 : ((stateM l copies first).1) = (holdsM l first copies.toNat) := by first | exact congrArg (fun p => p.1) (show stateM l copies first = _ from state_1 (by assumption)) | exact congrArg (fun p => p.1) (show stateM l copies first = _ from rstate_2 (by assumption) (by assumption)) | exact congrArg (fun p => p.1) (show stateM l copies first = _ from state_4 (by assumption) (by assumption)) | exact congrArg (fun p => p.1) (show stateM l copies first = _ from rstate_5 (by assumption) (by assumption) (by assumption))
      have e2621 : ((stateM l copies first).2) = (0 : Int) := by first | exact congrArg (fun p => p.2) (show stateM l copies first = _ from state_1 (by assumption)) | exact congrArg (fun p => p.2) (show stateM l copies first = _ from rstate_2 (by assumption) (by assumption)) | exact congrArg (fun p => p.2) (show stateM l copies first = _ from state_4 (by assumption) (by assumption)) | exact congrArg (fun p => p.2) (show stateM l copies first = _ from rstate_5 (by assumption) (by assumption) (by assumption))
      exact ⟨_, rfl, sl0.keep, by rw [e2620, e2621]; exact ⟨vo0_8, rfl, ho0_8.pub sl0⟩⟩
  ·have hp2622 : (inD copies (0 : Int) (1024 : Int)) = false := by first | simpa using hb2570 | (have e := hb2570; rw [Bool.not_eq_true'] at e; exact e) | (have e := hb2570; rw [Bool.not_eq_false'] at e; exact e) | (have e := hb2570; simp at e; omega)
   refine wl_k rfl (wl_k rfl (wl_k rfl (wl_s (o_pickT (Value.bool true) rfl rfl (wl_nil (thenQ_n (?_)))))))
   refine cw_cond true rfl rfl (fun _ => ?_) (fun h => by cases h)
   refine cw_seq (?_)
   refine cw_region (by kernel_rfl) (wl_s (o_assign (Value.slice none 0 0) rfl (wl_s (o_assign (vI (1 : Int)) rfl (wl_nil (thenQ_n (?_)))))))
   refine cw_ret (thenQ_r (end_r rfl (res2 rfl rfl rfl rfl) (?_)))
   have e2623 : ((stateM l copies first).1) = ([]) := by first | exact congrArg (fun p => p.1) (show stateM l copies first = _ from state_1 (by assumption)) | exact congrArg (fun p => p.1) (show stateM l copies first = _ from rstate_2 (by assumption) (by assumption)) | exact congrArg (fun p => p.1) (show stateM l copies first = _ from state_4 (by assumption) (by assumption)) | exact congrArg (fun p => p.1) (show stateM l copies first = _ from rstate_5 (by assumption) (by assumption) (by assumption))
   have e2624 : ((stateM l copies first).2) = (1 : Int) := by first | exact congrArg (fun p => p.2) (show stateM l copies first = _ from state_1 (by assumption)) | exact congrArg (fun p => p.2) (show stateM l copies first = _ from rstate_2 (by assumption) (by assumption)) | exact congrArg (fun p => p.2) (show stateM l copies first = _ from state_4 (by assumption) (by assumption)) | exact congrArg (fun p => p.2) (show stateM l copies first = _ from rstate_5 (by assumption) (by assumption) (by assumption))
   exact ⟨_, rfl, s2566.keep, by rw [e2623, e2624]; exact ⟨.slice none 0 0, rfl, RdL.nil _ _ _⟩⟩
set_option maxHeartbeats 4000000 in
set_option maxRecDepth 100000 in
theorem c_refMay {O : List Nat} (l_v : Value) (l : List DeviceOp) (copies : Int) (first : Int) (device : Int) (copy : Int) (w : World) (h_l : RdL Enc.devop w O l_v l) (hO : ∀ b ∈ O, b < w.heap.size) : CallsK Try.prog 35 [l_v, vI copies, vI first, vI device, vI copy] w (fun v _ => v = .tuple #[.bool ((mayM l copies first device copy).1), vI ((mayM l copies first device copy).2)]) :=  by
 have lim_l := h_l.len_le
 have h_l : RdL Enc.devop w ([] ++ O) l_v l := h_l
 have s0 : St w O w [] := St.start hO
 refine callsK_of 49 Try.func35 rfl rfl (of_decide_eq_true rfl) (fun F0 => ?_)
 refine cw_seq (?_)
 refine cw_region (by kernel_rfl) (wl_s (o_assign (Value.bool false) rfl (wl_s (o_assign (vI (0 : Int)) rfl (wl_nil (thenQ_n (?_)))))))
 refine cw_seq (?_)
 refine cw_region (by kernel_rfl) (wl_s (o_move (l_v) rfl (wl_s (o_move (vI copies) rfl (wl_s (o_move (vI first) rfl (wl_s (o_callK (vs := [l_v, vI copies, vI first]) enter_33 (c_refState (O := [] ++ O) l_v l copies first w h_l s0.lt) rfl s0 fun v2625 w2626 s2627 m2628 k2629 r2630 => (?_)))))))))
 obtain ⟨x2631, rfl, hl2632⟩ := r2630
 have := hl2632.len_le
 refine wl_s (o_move (Value.tuple #[x2631, vI ((stateM l copies first).2)]) rfl (wl_s (o_extract (x2631) rfl rfl (wl_s (o_extract (vI ((stateM l copies first).2)) rfl rfl (wl_s (o_assign (x2631) rfl (wl_s (o_assign (vI ((stateM l copies first).2)) rfl (wl_nil (thenQ_n (?_))))))))))))
 refine cw_seq (?_)
 refine cw_seq (?_)
 refine cw_region (by kernel_rfl) (wl_s (o_move (vI ((stateM l copies first).2)) rfl (wl_s (o_neq .i64 ((stateM l copies first).2) (0 : Int) rfl rfl (wl_nil (thenQ_n (?_)))))))
 refine cw_cond (((stateM l copies first).2) != (0 : Int)) rfl rfl (fun hc2633 => ?_) (fun hc2633 => ?_)
 ·have hp2634 : (stateM l copies first).2 ≠ (0 : Int) := by first | simpa using hc2633 | (have e := hc2633; simp at e; omega)
  refine cw_seq (?_)
  refine cw_region (by kernel_rfl) (wl_s (o_move (vI ((stateM l copies first).2)) rfl (wl_s (o_assign (Value.bool false) rfl (wl_s (o_assign (vI ((stateM l copies first).2)) rfl (wl_nil (thenQ_n (?_)))))))))
  refine cw_ret (thenQ_r (end_r rfl (res2 rfl rfl rfl rfl) (?_)))
  have e2635 : ((mayM l copies first device copy).1) = false := by first | exact congrArg (fun p => p.1) (show mayM l copies first device copy = _ from may_1 (by assumption)) | exact congrArg (fun p => p.1) (show mayM l copies first device copy = _ from may_2 (by assumption) (.inl (by assumption))) | exact congrArg (fun p => p.1) (show mayM l copies first device copy = _ from may_2 (by assumption) (.inr (inD_f (by assumption)))) | exact congrArg (fun p => p.1) (show mayM l copies first device copy = _ from may_3 (by assumption) (by assumption) (by omega) (by omega) (by assumption)) | exact congrArg (fun p => p.1) (show mayM l copies first device copy = _ from may_4 (by assumption) (by assumption) (by omega) (by omega) (by assumption))
  have e2636 : ((mayM l copies first device copy).2) = ((stateM l copies first).2) := by first | exact congrArg (fun p => p.2) (show mayM l copies first device copy = _ from may_1 (by assumption)) | exact congrArg (fun p => p.2) (show mayM l copies first device copy = _ from may_2 (by assumption) (.inl (by assumption))) | exact congrArg (fun p => p.2) (show mayM l copies first device copy = _ from may_2 (by assumption) (.inr (inD_f (by assumption)))) | exact congrArg (fun p => p.2) (show mayM l copies first device copy = _ from may_3 (by assumption) (by assumption) (by omega) (by omega) (by assumption)) | exact congrArg (fun p => p.2) (show mayM l copies first device copy = _ from may_4 (by assumption) (by assumption) (by omega) (by omega) (by assumption))
  exact ⟨_, rfl, s2627.keep, by rw [e2635, e2636]; exact rfl⟩
 ·have hp2637 : (stateM l copies first).2 = (0 : Int) := by first | simpa using hc2633 | (have e := hc2633; simp at e; omega)
  have hst : (stateM l copies first).2 = 0 := hp2637
  have hsl := state_len hst
  have hsb := (state_ok hst).2.2
  refine cw_skip (thenQ_n (?_))
  refine cw_seq (?_)
  refine cw_seq (?_)
  refine cw_region (by kernel_rfl) (wl_s (o_move (vI device) rfl (wl_s (o_callK (vs := [vI device]) enter_75 (c_refDev (O := [] ++ O) device w2626 s2627.lt) rfl s2627 fun v2638 w2639 s2640 m2641 k2642 r2643 => (?_)))))
  obtain rfl := r2643
  have hl2632 := hl2632.mv m2641
  refine wl_s (o_not (isDevM device) rfl (wl_s (o_move (Value.bool (!(isDevM device))) rfl (?_))))
  cases hb2644 : (!(isDevM device))
  ·have hp2645 : (isDevM device) = true := by first | simpa using hb2644 | (have e := hb2644; rw [Bool.not_eq_true'] at e; exact e) | (have e := hb2644; rw [Bool.not_eq_false'] at e; exact e) | (have e := hb2644; simp at e; omega)
   refine wl_t rfl (o_move (vI copy) rfl (wl_t rfl (o_move (vI copies) rfl (wl_t rfl (o_sub .i64 copies (1 : Int) (copies - (1 : Int)) rfl rfl (w64 (by omega) (by omega)) (wl_t rfl (o_callK (vs := [vI copy, vI (0 : Int), vI (copies - (1 : Int))]) enter_74 (c_in (O := [] ++ O) copy (0 : Int) (copies - (1 : Int)) w2639 s2640.lt) rfl s2640 fun v2646 w2647 s2648 m2649 k2650 r2651 => (?_))))))))
   obtain rfl := r2651
   have hl2632 := hl2632.mv m2649
   refine wl_t rfl (o_not (inD copy (0 : Int) (copies - (1 : Int))) rfl (wl_s (o_pickF (Value.bool (!(inD copy (0 : Int) (copies - (1 : Int))))) rfl rfl (wl_nil (thenQ_n (?_))))))
   refine cw_cond (!(inD copy (0 : Int) (copies - (1 : Int)))) rfl rfl (fun hc2652 => ?_) (fun hc2652 => ?_)
   ·have hp2653 : (inD copy (0 : Int) (copies - (1 : Int))) = false := by first | simpa using hc2652 | (have e := hc2652; rw [Bool.not_eq_true'] at e; exact e) | (have e := hc2652; rw [Bool.not_eq_false'] at e; exact e) | (have e := hc2652; simp at e; omega)
    refine cw_seq (?_)
    refine cw_region (by kernel_rfl) (wl_s (o_assign (Value.bool false) rfl (wl_s (o_assign (vI (1 : Int)) rfl (wl_nil (thenQ_n (?_)))))))
    refine cw_ret (thenQ_r (end_r rfl (res2 rfl rfl rfl rfl) (?_)))
    have e2654 : ((mayM l copies first device copy).1) = false := by first | exact congrArg (fun p => p.1) (show mayM l copies first device copy = _ from may_1 (by assumption)) | exact congrArg (fun p => p.1) (show mayM l copies first device copy = _ from may_2 (by assumption) (.inl (by assumption))) | exact congrArg (fun p => p.1) (show mayM l copies first device copy = _ from may_2 (by assumption) (.inr (inD_f (by assumption)))) | exact congrArg (fun p => p.1) (show mayM l copies first device copy = _ from may_3 (by assumption) (by assumption) (by omega) (by omega) (by assumption)) | exact congrArg (fun p => p.1) (show mayM l copies first device copy = _ from may_4 (by assumption) (by assumption) (by omega) (by omega) (by assumption))
    have e2655 : ((mayM l copies first device copy).2) = (1 : Int) := by first | exact congrArg (fun p => p.2) (show mayM l copies first device copy = _ from may_1 (by assumption)) | exact congrArg (fun p => p.2) (show mayM l copies first device copy = _ from may_2 (by assumption) (.inl (by assumption))) | exact congrArg (fun p => p.2) (show mayM l copies first device copy = _ from may_2 (by assumption) (.inr (inD_f (by assumption)))) | exact congrArg (fun p => p.2) (show mayM l copies first device copy = _ from may_3 (by assumption) (by assumption) (by omega) (by omega) (by assumption)) | exact congrArg (fun p => p.2) (show mayM l copies first device copy = _ from may_4 (by assumption) (by assumption) (by omega) (by omega) (by assumption))
    exact ⟨_, rfl, s2648.keep, by rw [e2654, e2655]; exact rfl⟩
   ·have hp2656 : (inD copy (0 : Int) (copies - (1 : Int))) = true := by first | simpa using hc2652 | (have e := hc2652; rw [Bool.not_eq_true'] at e; exact e) | (have e := hc2652; rw [Bool.not_eq_false'] at e; exact e) | (have e := hc2652; simp at e; omega)
    have hin := inD_t hp2656
    refine cw_skip (thenQ_n (?_))
    refine cw_seq (?_)
    refine cw_region (by kernel_rfl) (wl_s (o_move (x2631) rfl (wl_s (o_move (vI copy) rfl (wl_s (o_idx Try.underlying43 s_47 .i64 copy copy.toNat rfl rfl (by omega) hl2632 (by omega) fun a2657 hp2658 => (wl_s (o_fieldR 1 f_47_1 ((((stateM l copies first).1)[copy.toNat]!).device) rfl hp2658 (fun _ _ _ h => Enc_holding_f1 h) fun a2659 hp2660 => (wl_s (o_loadI Try.underlying3 rfl rfl hp2660 (wl_s (o_move (vI device) rfl (wl_s (o_eql .i64 ((((stateM l copies first).1)[copy.toNat]!).device) device rfl rfl (wl_s (o_move (Value.bool (((((stateM l copies first).1)[copy.toNat]!).device) == device)) rfl (?_)))))))))))))))))
    cases hb2661 : (((((stateM l copies first).1)[copy.toNat]!).device) == device)
    ·have hp2662 : (((stateM l copies first).1)[copy.toNat]!).device ≠ device := by first | simpa using hb2661 | (have e := hb2661; simp at e; omega)
     refine wl_k rfl (wl_k rfl (wl_k rfl (wl_k rfl (wl_k rfl (wl_k rfl (wl_s (o_pickF (Value.bool false) rfl rfl (wl_s (o_assign (Value.bool false) rfl (wl_s (o_assign (vI (0 : Int)) rfl (wl_nil (thenQ_n (?_))))))))))))))
     refine cw_ret (end_r rfl (res2 rfl rfl rfl rfl) (?_))
     have e2663 : ((mayM l copies first device copy).1) = false := by first | exact congrArg (fun p => p.1) (show mayM l copies first device copy = _ from may_1 (by assumption)) | exact congrArg (fun p => p.1) (show mayM l copies first device copy = _ from may_2 (by assumption) (.inl (by assumption))) | exact congrArg (fun p => p.1) (show mayM l copies first device copy = _ from may_2 (by assumption) (.inr (inD_f (by assumption)))) | exact congrArg (fun p => p.1) (show mayM l copies first device copy = _ from may_3 (by assumption) (by assumption) (by omega) (by omega) (by assumption)) | exact congrArg (fun p => p.1) (show mayM l copies first device copy = _ from may_4 (by assumption) (by assumption) (by omega) (by omega) (by assumption))
     have e2664 : ((mayM l copies first device copy).2) = (0 : Int) := by first | exact congrArg (fun p => p.2) (show mayM l copies first device copy = _ from may_1 (by assumption)) | exact congrArg (fun p => p.2) (show mayM l copies first device copy = _ from may_2 (by assumption) (.inl (by assumption))) | exact congrArg (fun p => p.2) (show mayM l copies first device copy = _ from may_2 (by assumption) (.inr (inD_f (by assumption)))) | exact congrArg (fun p => p.2) (show mayM l copies first device copy = _ from may_3 (by assumption) (by assumption) (by omega) (by omega) (by assumption)) | exact congrArg (fun p => p.2) (show mayM l copies first device copy = _ from may_4 (by assumption) (by assumption) (by omega) (by omega) (by assumption))
     exact ⟨_, rfl, s2648.keep, by rw [e2663, e2664]; exact rfl⟩
    ·have hp2665 : (((stateM l copies first).1)[copy.toNat]!).device = device := by first | simpa using hb2661 | (have e := hb2661; simp at e; omega)
     refine wl_t rfl (o_move (x2631) rfl (wl_t rfl (o_move (vI copy) rfl (wl_t rfl (o_idx Try.underlying43 s_47 .i64 copy copy.toNat rfl rfl (by omega) hl2632 (by omega) fun a2666 hp2667 => (wl_t rfl (o_fieldR 3 f_47_3 ((((stateM l copies first).1)[copy.toNat]!).shown) rfl hp2667 (fun _ _ _ h => Enc_holding_f3 h) fun a2668 hp2669 => (wl_t rfl (o_loadT Try.underlying4 rfl rfl hp2669 (wl_t rfl (o_not ((((stateM l copies first).1)[copy.toNat]!).shown) rfl (wl_s (o_pickT (Value.bool (!((((stateM l copies first).1)[copy.toNat]!).shown))) rfl rfl (wl_s (o_assign (Value.bool (!((((stateM l copies first).1)[copy.toNat]!).shown))) rfl (wl_s (o_assign (vI (0 : Int)) rfl (wl_nil (thenQ_n (?_))))))))))))))))))))
     refine cw_ret (end_r rfl (res2 rfl rfl rfl rfl) (?_))
     have e2670 : ((mayM l copies first device copy).1) = (!((((stateM l copies first).1)[copy.toNat]!).shown)) := by first | exact congrArg (fun p => p.1) (show mayM l copies first device copy = _ from may_1 (by assumption)) | exact congrArg (fun p => p.1) (show mayM l copies first device copy = _ from may_2 (by assumption) (.inl (by assumption))) | exact congrArg (fun p => p.1) (show mayM l copies first device copy = _ from may_2 (by assumption) (.inr (inD_f (by assumption)))) | exact congrArg (fun p => p.1) (show mayM l copies first device copy = _ from may_3 (by assumption) (by assumption) (by omega) (by omega) (by assumption)) | exact congrArg (fun p => p.1) (show mayM l copies first device copy = _ from may_4 (by assumption) (by assumption) (by omega) (by omega) (by assumption))
     have e2671 : ((mayM l copies first device copy).2) = (0 : Int) := by first | exact congrArg (fun p => p.2) (show mayM l copies first device copy = _ from may_1 (by assumption)) | exact congrArg (fun p => p.2) (show mayM l copies first device copy = _ from may_2 (by assumption) (.inl (by assumption))) | exact congrArg (fun p => p.2) (show mayM l copies first device copy = _ from may_2 (by assumption) (.inr (inD_f (by assumption)))) | exact congrArg (fun p => p.2) (show mayM l copies first device copy = _ from may_3 (by assumption) (by assumption) (by omega) (by omega) (by assumption)) | exact congrArg (fun p => p.2) (show mayM l copies first device copy = _ from may_4 (by assumption) (by assumption) (by omega) (by omega) (by assumption))
     exact ⟨_, rfl, s2648.keep, by rw [e2670, e2671]; exact rfl⟩
  ·have hp2672 : (isDevM device) = false := by first | simpa using hb2644 | (have e := hb2644; rw [Bool.not_eq_true'] at e; exact e) | (have e := hb2644; rw [Bool.not_eq_false'] at e; exact e) | (have e := hb2644; simp at e; omega)
   refine wl_k rfl (wl_k rfl (wl_k rfl (wl_k rfl (wl_k rfl (wl_s (o_pickT (Value.bool true) rfl rfl (wl_nil (thenQ_n (?_)))))))))
   refine cw_cond true rfl rfl (fun _ => ?_) (fun h => by cases h)
   refine cw_seq (?_)
   refine cw_region (by kernel_rfl) (wl_s (o_assign (Value.bool false) rfl (wl_s (o_assign (vI (1 : Int)) rfl (wl_nil (thenQ_n (?_)))))))
   refine cw_ret (thenQ_r (end_r rfl (res2 rfl rfl rfl rfl) (?_)))
   have e2673 : ((mayM l copies first device copy).1) = false := by first | exact congrArg (fun p => p.1) (show mayM l copies first device copy = _ from may_1 (by assumption)) | exact congrArg (fun p => p.1) (show mayM l copies first device copy = _ from may_2 (by assumption) (.inl (by assumption))) | exact congrArg (fun p => p.1) (show mayM l copies first device copy = _ from may_2 (by assumption) (.inr (inD_f (by assumption)))) | exact congrArg (fun p => p.1) (show mayM l copies first device copy = _ from may_3 (by assumption) (by assumption) (by omega) (by omega) (by assumption)) | exact congrArg (fun p => p.1) (show mayM l copies first device copy = _ from may_4 (by assumption) (by assumption) (by omega) (by omega) (by assumption))
   have e2674 : ((mayM l copies first device copy).2) = (1 : Int) := by first | exact congrArg (fun p => p.2) (show mayM l copies first device copy = _ from may_1 (by assumption)) | exact congrArg (fun p => p.2) (show mayM l copies first device copy = _ from may_2 (by assumption) (.inl (by assumption))) | exact congrArg (fun p => p.2) (show mayM l copies first device copy = _ from may_2 (by assumption) (.inr (inD_f (by assumption)))) | exact congrArg (fun p => p.2) (show mayM l copies first device copy = _ from may_3 (by assumption) (by assumption) (by omega) (by omega) (by assumption)) | exact congrArg (fun p => p.2) (show mayM l copies first device copy = _ from may_4 (by assumption) (by assumption) (by omega) (by omega) (by assumption))
   exact ⟨_, rfl, s2640.keep, by rw [e2673, e2674]; exact rfl⟩

end Go.Proofs.Ytjpniibleelgiaa
