/- Walks, printed by gen.py. -/
import Derived.Test.YteajcgfcnbdmgaaWbF
set_option linter.unusedSimpArgs false
set_option linter.unusedVariables false
namespace Go.Proofs.Yteajcgfcnbdmgaa
open Go.Fw Go.RowKit

set_option maxHeartbeats 4000000 in
set_option maxRecDepth 100000 in
theorem c_refresh11 {O : List Nat} (k : Nat) (l_a : Addr) (l : (List Share)) (i_a : Addr) (i : Int) (zero_a : Addr) (zero : (List Share)) (w : World) (h_l : PT (Enc.slice Enc.share) w O (.pointer (some l_a)) l) (h_i : PT Enc.int w O (.pointer (some i_a)) i) (h_zero : PT (Enc.slice Enc.share) w O (.pointer (some zero_a)) zero) (hpre0 : 0 ≤ i) (hpre1 : (i).toNat < l.length) (hpre2 : (i).toNat < zero.length) (hpre3 : k < l[(i).toNat]!.data.length) (hpre4 : k < zero[(i).toNat]!.data.length) (hO : ∀ b ∈ O, b < w.heap.size) : CallsK Try.prog 63 [vI (k : Int), .pointer (some l_a), .pointer (some i_a), .pointer (some zero_a)] w (fun v _ => v = vB (l[(i).toNat]!.data[k]! ^^^ zero[(i).toNat]!.data[k]!)) :=  by
 have h_l : PT (Enc.slice Enc.share) w ([] ++ O) (.pointer (some l_a)) l := h_l
 have h_i : PT Enc.int w ([] ++ O) (.pointer (some i_a)) i := h_i
 have h_zero : PT (Enc.slice Enc.share) w ([] ++ O) (.pointer (some zero_a)) zero := h_zero
 have s0 : St w O w [] := St.start hO
 refine callsK_of 23 Try.func63 rfl rfl (of_decide_eq_true rfl) (fun F0 => ?_)
 refine cw_seq (?_)
 refine cw_region (by kernel_rfl) (wl_s (o_assign (vB (0 : UInt8)) rfl (wl_nil (thenQ_n (?_)))))
 refine cw_seq (?_)
 refine cw_draw' 16 _ _ [fun (vT : Value) (wT : World) => RdL Enc.share wT ([] ++ O) vT (l), isV (vI i), fun (vT : Value) (wT : World) => ∃ aT, vT = .pointer (some aT) ∧ PT Enc.share wT ([] ++ O) (.pointer (some aT)) (l[i.toNat]!), fun (vT : Value) (wT : World) => ∃ aT, vT = .pointer (some aT) ∧ PT (Enc.slice Enc.u8) wT ([] ++ O) (.pointer (some aT)) ((l[i.toNat]!).data), fun (vT : Value) (wT : World) => RdL Enc.u8 wT ([] ++ O) vT ((l[i.toNat]!).data), isV (vI (k : Int)), fun (vT : Value) (wT : World) => ∃ aT, vT = .pointer (some aT) ∧ PT Enc.u8 wT ([] ++ O) (.pointer (some aT)) (((l[i.toNat]!).data)[k]!), isV (vB (((l[i.toNat]!).data)[k]!)), fun (vT : Value) (wT : World) => RdL Enc.share wT ([] ++ O) vT (zero), isV (vI i), fun (vT : Value) (wT : World) => ∃ aT, vT = .pointer (some aT) ∧ PT Enc.share wT ([] ++ O) (.pointer (some aT)) (zero[i.toNat]!), fun (vT : Value) (wT : World) => ∃ aT, vT = .pointer (some aT) ∧ PT (Enc.slice Enc.u8) wT ([] ++ O) (.pointer (some aT)) ((zero[i.toNat]!).data), fun (vT : Value) (wT : World) => RdL Enc.u8 wT ([] ++ O) vT ((zero[i.toNat]!).data), isV (vI (k : Int)), fun (vT : Value) (wT : World) => ∃ aT, vT = .pointer (some aT) ∧ PT Enc.u8 wT ([] ++ O) (.pointer (some aT)) (((zero[i.toNat]!).data)[k]!), isV (vB (((zero[i.toNat]!).data)[k]!))] (by kernel_rfl) (by kernel_rfl) (by kernel_rfl) (by kernel_rfl) rfl rfl ⟨fun _ _ _ h k => h.mv (Mv.of_keep k), kI, fun _ _ _ ⟨a, e, h⟩ k => ⟨a, e, h.mv (Mv.of_keep k)⟩, fun _ _ _ ⟨a, e, h⟩ k => ⟨a, e, h.mv (Mv.of_keep k)⟩, fun _ _ _ h k => h.mv (Mv.of_keep k), kI, fun _ _ _ ⟨a, e, h⟩ k => ⟨a, e, h.mv (Mv.of_keep k)⟩, kI, fun _ _ _ h k => h.mv (Mv.of_keep k), kI, fun _ _ _ ⟨a, e, h⟩ k => ⟨a, e, h.mv (Mv.of_keep k)⟩, fun _ _ _ ⟨a, e, h⟩ k => ⟨a, e, h.mv (Mv.of_keep k)⟩, fun _ _ _ h k => h.mv (Mv.of_keep k), kI, fun _ _ _ ⟨a, e, h⟩ k => ⟨a, e, h.mv (Mv.of_keep k)⟩, kI, trivial⟩ ⟨?_, ?_, ?_, ?_, ?_, ?_, ?_, ?_, ?_, ?_, ?_, ?_, ?_, ?_, ?_, ?_, trivial⟩ ?_
 ·intro F1 w1 k1 hf hd
  have k0 := (Keep.drew [] w).trans k1
  have m1 : Mv ([]) w ([]) w1 := Mv.of_keep k0
  have h_l := h_l.mv m1
  obtain ⟨F2, rfl⟩ := lit_of (F := F1) [(1, Value.pointer (some l_a))] ⟨hf 1 (by kernel_rfl), trivial⟩
  refine sp_plain rfl ((o_loadL Try.underlying38 rfl rfl h_l fun v3380 hl3381 => (?_)))
  have := hl3381.len_le
  exact ⟨(Keep.refl _ _), hl3381⟩
 ·intro F1 w1 k1 hf hd
  have k0 := (Keep.drew [] w).trans k1
  have m1 : Mv ([]) w ([]) w1 := Mv.of_keep k0
  have h_i := h_i.mv m1
  obtain ⟨F2, rfl⟩ := lit_of (F := F1) [(2, Value.pointer (some i_a))] ⟨hf 2 (by kernel_rfl), trivial⟩
  exact sp_plain rfl ((o_loadI Try.underlying3 rfl rfl h_i (⟨(Keep.refl _ _), rfl⟩)))
 ·intro F1 w1 k1 hf hd
  obtain ⟨v3382, e3384, hl3383⟩ : ∃ v, F1 6 = v ∧ RdL Enc.share w1 ([] ++ O) v (l) := ⟨_, rfl, hd 0 6 (by kernel_rfl)⟩
  have := hl3383.len_le
  obtain ⟨F2, rfl⟩ := lit_of (F := F1) [(6, v3382), (7, vI i)] ⟨e3384, hd 1 7 (by kernel_rfl), trivial⟩
  exact sp_plain rfl ((o_idx Try.underlying38 s_53 .i64 i i.toNat rfl rfl (by omega) hl3383 (by omega) fun a3385 hp3386 => (⟨(Keep.refl _ _), ⟨a3385, rfl, hp3386⟩⟩)))
 ·intro F1 w1 k1 hf hd
  obtain ⟨a3387, e3389, hp3388⟩ : ∃ a, F1 8 = .pointer (some a) ∧ PT Enc.share w1 ([] ++ O) (.pointer (some a)) (l[i.toNat]!) := hd 2 8 (by kernel_rfl)
  obtain ⟨F2, rfl⟩ := lit_of (F := F1) [(8, Value.pointer (some a3387))] ⟨e3389, trivial⟩
  exact sp_plain rfl ((o_fieldR 4 f_53_4 ((l[i.toNat]!).data) rfl hp3388 (fun _ _ _ h => Enc_share_f4 h) fun a3390 hp3391 => (⟨(Keep.refl _ _), ⟨a3390, rfl, hp3391⟩⟩)))
 ·intro F1 w1 k1 hf hd
  obtain ⟨a3392, e3394, hp3393⟩ : ∃ a, F1 9 = .pointer (some a) ∧ PT (Enc.slice Enc.u8) w1 ([] ++ O) (.pointer (some a)) ((l[i.toNat]!).data) := hd 3 9 (by kernel_rfl)
  obtain ⟨F2, rfl⟩ := lit_of (F := F1) [(9, Value.pointer (some a3392))] ⟨e3394, trivial⟩
  refine sp_plain rfl ((o_loadL Try.underlying28 rfl rfl hp3393 fun v3395 hl3396 => (?_)))
  have := hl3396.len_le
  exact ⟨(Keep.refl _ _), hl3396⟩
 ·intro F1 w1 k1 hf hd
  obtain ⟨F2, rfl⟩ := lit_of (F := F1) [(0, vI (k : Int))] ⟨hf 0 (by kernel_rfl), trivial⟩
  exact sp_plain rfl ((o_move (vI (k : Int)) rfl (⟨(Keep.refl _ _), rfl⟩)))
 ·intro F1 w1 k1 hf hd
  obtain ⟨v3397, e3399, hl3398⟩ : ∃ v, F1 10 = v ∧ RdL Enc.u8 w1 ([] ++ O) v ((l[i.toNat]!).data) := ⟨_, rfl, hd 4 10 (by kernel_rfl)⟩
  have := hl3398.len_le
  obtain ⟨F2, rfl⟩ := lit_of (F := F1) [(10, v3397), (11, vI (k : Int))] ⟨e3399, hd 5 11 (by kernel_rfl), trivial⟩
  exact sp_plain rfl ((o_idx Try.underlying28 s_5 .i64 (k : Int) k rfl rfl rfl hl3398 (by omega) fun a3400 hp3401 => (⟨(Keep.refl _ _), ⟨a3400, rfl, hp3401⟩⟩)))
 ·intro F1 w1 k1 hf hd
  obtain ⟨a3402, e3404, hp3403⟩ : ∃ a, F1 12 = .pointer (some a) ∧ PT Enc.u8 w1 ([] ++ O) (.pointer (some a)) (((l[i.toNat]!).data)[k]!) := hd 6 12 (by kernel_rfl)
  obtain ⟨F2, rfl⟩ := lit_of (F := F1) [(12, Value.pointer (some a3402))] ⟨e3404, trivial⟩
  exact sp_plain rfl ((o_loadB Try.underlying5 rfl rfl hp3403 (⟨(Keep.refl _ _), rfl⟩)))
 ·intro F1 w1 k1 hf hd
  have k0 := (Keep.drew [] w).trans k1
  have m1 : Mv ([]) w ([]) w1 := Mv.of_keep k0
  have h_zero := h_zero.mv m1
  obtain ⟨F2, rfl⟩ := lit_of (F := F1) [(3, Value.pointer (some zero_a))] ⟨hf 3 (by kernel_rfl), trivial⟩
  refine sp_plain rfl ((o_loadL Try.underlying38 rfl rfl h_zero fun v3405 hl3406 => (?_)))
  have := hl3406.len_le
  exact ⟨(Keep.refl _ _), hl3406⟩
 ·intro F1 w1 k1 hf hd
  have k0 := (Keep.drew [] w).trans k1
  have m1 : Mv ([]) w ([]) w1 := Mv.of_keep k0
  have h_i := h_i.mv m1
  obtain ⟨F2, rfl⟩ := lit_of (F := F1) [(2, Value.pointer (some i_a))] ⟨hf 2 (by kernel_rfl), trivial⟩
  exact sp_plain rfl ((o_loadI Try.underlying3 rfl rfl h_i (⟨(Keep.refl _ _), rfl⟩)))
 ·intro F1 w1 k1 hf hd
  obtain ⟨v3407, e3409, hl3408⟩ : ∃ v, F1 14 = v ∧ RdL Enc.share w1 ([] ++ O) v (zero) := ⟨_, rfl, hd 8 14 (by kernel_rfl)⟩
  have := hl3408.len_le
  obtain ⟨F2, rfl⟩ := lit_of (F := F1) [(14, v3407), (15, vI i)] ⟨e3409, hd 9 15 (by kernel_rfl), trivial⟩
  exact sp_plain rfl ((o_idx Try.underlying38 s_53 .i64 i i.toNat rfl rfl (by omega) hl3408 (by omega) fun a3410 hp3411 => (⟨(Keep.refl _ _), ⟨a3410, rfl, hp3411⟩⟩)))
 ·intro F1 w1 k1 hf hd
  obtain ⟨a3412, e3414, hp3413⟩ : ∃ a, F1 16 = .pointer (some a) ∧ PT Enc.share w1 ([] ++ O) (.pointer (some a)) (zero[i.toNat]!) := hd 10 16 (by kernel_rfl)
  obtain ⟨F2, rfl⟩ := lit_of (F := F1) [(16, Value.pointer (some a3412))] ⟨e3414, trivial⟩
  exact sp_plain rfl ((o_fieldR 4 f_53_4 ((zero[i.toNat]!).data) rfl hp3413 (fun _ _ _ h => Enc_share_f4 h) fun a3415 hp3416 => (⟨(Keep.refl _ _), ⟨a3415, rfl, hp3416⟩⟩)))
 ·intro F1 w1 k1 hf hd
  obtain ⟨a3417, e3419, hp3418⟩ : ∃ a, F1 17 = .pointer (some a) ∧ PT (Enc.slice Enc.u8) w1 ([] ++ O) (.pointer (some a)) ((zero[i.toNat]!).data) := hd 11 17 (by kernel_rfl)
  obtain ⟨F2, rfl⟩ := lit_of (F := F1) [(17, Value.pointer (some a3417))] ⟨e3419, trivial⟩
  refine sp_plain rfl ((o_loadL Try.underlying28 rfl rfl hp3418 fun v3420 hl3421 => (?_)))
  have := hl3421.len_le
  exact ⟨(Keep.refl _ _), hl3421⟩
 ·intro F1 w1 k1 hf hd
  obtain ⟨F2, rfl⟩ := lit_of (F := F1) [(0, vI (k : Int))] ⟨hf 0 (by kernel_rfl), trivial⟩
  exact sp_plain rfl ((o_move (vI (k : Int)) rfl (⟨(Keep.refl _ _), rfl⟩)))
 ·intro F1 w1 k1 hf hd
  obtain ⟨v3422, e3424, hl3423⟩ : ∃ v, F1 18 = v ∧ RdL Enc.u8 w1 ([] ++ O) v ((zero[i.toNat]!).data) := ⟨_, rfl, hd 12 18 (by kernel_rfl)⟩
  have := hl3423.len_le
  obtain ⟨F2, rfl⟩ := lit_of (F := F1) [(18, v3422), (19, vI (k : Int))] ⟨e3424, hd 13 19 (by kernel_rfl), trivial⟩
  exact sp_plain rfl ((o_idx Try.underlying28 s_5 .i64 (k : Int) k rfl rfl rfl hl3423 (by omega) fun a3425 hp3426 => (⟨(Keep.refl _ _), ⟨a3425, rfl, hp3426⟩⟩)))
 ·intro F1 w1 k1 hf hd
  obtain ⟨a3427, e3429, hp3428⟩ : ∃ a, F1 20 = .pointer (some a) ∧ PT Enc.u8 w1 ([] ++ O) (.pointer (some a)) (((zero[i.toNat]!).data)[k]!) := hd 14 20 (by kernel_rfl)
  obtain ⟨F2, rfl⟩ := lit_of (F := F1) [(20, Value.pointer (some a3427))] ⟨e3429, trivial⟩
  exact sp_plain rfl ((o_loadB Try.underlying5 rfl rfl hp3428 (⟨(Keep.refl _ _), rfl⟩)))
 intro F3431 w3432 k3430 hT3433 hF3434
 have s3435 := s0.call k3430
 obtain ⟨F2, rfl⟩ := lit_of (F := F3431) [(5, vB (0 : UInt8)), (23, undef), (13, vB (((l[i.toNat]!).data)[k]!)), (21, vB (((zero[i.toNat]!).data)[k]!))] ⟨hF3434 5 (by kernel_rfl), hF3434 23 (by kernel_rfl), hT3433 7 13 (by kernel_rfl) (by decide), hT3433 15 21 (by kernel_rfl) (by decide), trivial⟩
 clear hT3433 hF3434
 refine wl_s (o_xor8 (((l[i.toNat]!).data)[k]!) (((zero[i.toNat]!).data)[k]!) rfl rfl (wl_s (o_assign (vB ((((l[i.toNat]!).data)[k]!) ^^^ (((zero[i.toNat]!).data)[k]!))) rfl (wl_nil (thenQ_n (?_))))))
 refine cw_ret (end_r rfl (res1 rfl rfl rfl) (?_))
 have e : (l[(i).toNat]!.data[k]! ^^^ zero[(i).toNat]!.data[k]!) = ((((l[i.toNat]!).data)[k]!) ^^^ (((zero[i.toNat]!).data)[k]!)) := rfl
 exact ⟨_, rfl, s3435.keep, by rw [e]; exact rfl⟩
set_option maxHeartbeats 4000000 in
set_option maxRecDepth 100000 in
theorem c_refresh1 {O : List Nat} (i : Nat) (l_a : Addr) (l : (List Share)) (f_a : Addr) (f : Share) (zero_a : Addr) (zero : (List Share)) (w : World) (h_l : PT (Enc.slice Enc.share) w O (.pointer (some l_a)) l) (h_f : PT Enc.share w O (.pointer (some f_a)) f) (h_zero : PT (Enc.slice Enc.share) w O (.pointer (some zero_a)) zero) (hpre0 : i < l.length) (hpre1 : i < zero.length) (hpre2 : l[i]!.data.length = f.data.length) (hpre3 : zero[i]!.data.length = f.data.length) (hpre4 : 0 ≤ l[i]!.epoch) (hpre5 : l[i]!.epoch ≤ 1048576) (hpre6 : f.data.length ≤ 1000) (hO : ∀ b ∈ O, b < w.heap.size) : CallsK Try.prog 62 [vI (i : Int), .pointer (some l_a), .pointer (some f_a), .pointer (some zero_a)] w (fun v w' => ∃ (x0 : List Value), v = .agg x0.toArray ∧ Enc.share.rd w' (O) x0 (refrShare l f zero i)) :=  by
 have h_l : PT (Enc.slice Enc.share) w ([] ++ O) (.pointer (some l_a)) l := h_l
 have h_f : PT Enc.share w ([] ++ O) (.pointer (some f_a)) f := h_f
 have h_zero : PT (Enc.slice Enc.share) w ([] ++ O) (.pointer (some zero_a)) zero := h_zero
 have s0 : St w O w [] := St.start hO
 refine callsK_of 22 Try.func62 rfl rfl (of_decide_eq_true rfl) (fun F0 => ?_)
 refine cw_seq (?_)
 refine cw_region (by kernel_rfl) (wl_s (o_boxR (E := Enc.int) (vI (i : Int)) ([vI (i : Int)]) (i : Int) rfl rfl rfl s0 fun a3438 w3439 s3440 m3441 k3442 hp3443 => (?_)))
 have h_l := h_l.mv m3441
 have h_f := h_f.mv m3441
 have h_zero := h_zero.mv m3441
 refine wl_s (o_alloc [vI (0 : Int), vI (0 : Int), vI (0 : Int), vI (0 : Int), Value.slice none 0 0] z_53 rfl s3440 fun b3444 w3445 e3450 s3446 m3447 k3448 bx3449 => (?_))
 clear e3450
 have h_l := h_l.mv m3447
 have h_f := h_f.mv m3447
 have h_zero := h_zero.mv m3447
 have hp3443 := hp3443.mv m3447
 refine wl_nil (thenQ_n (?_))
 refine cw_seq (?_)
 refine cw_region (by kernel_rfl) (wl_s (o_loadL Try.underlying38 rfl rfl h_l fun v3451 hl3452 => (?_)))
 have := hl3452.len_le
 refine wl_s (o_loadI Try.underlying3 rfl rfl hp3443 (wl_s (o_idx Try.underlying38 s_53 .i64 (i : Int) i rfl rfl rfl hl3452 (by omega) fun a3453 hp3454 => (wl_s (o_loadS Try.underlying53 rfl s_53 rfl hp3454 fun cs3455 hs3456 => (wl_s (o_alloc [vI (0 : Int), vI (0 : Int), vI (0 : Int), vI (0 : Int), Value.slice none 0 0] z_53 rfl s3446 fun b3457 w3458 e3463 s3459 m3460 k3461 bx3462 => (?_))))))))
 have ne3464 : b3444 ≠ b3457 := by have := bx3449.lt; omega
 clear e3463
 have h_l := h_l.mv m3460
 have h_f := h_f.mv m3460
 have h_zero := h_zero.mv m3460
 have hp3443 := hp3443.mv m3460
 have hs3456 : Enc.share.rd w3458 ((b3457 :: (b3444 :: [])) ++ O) cs3455 (l[i]!) := Enc.mv Enc.share (x := l[i]!) hs3456 m3460
 have bx3449 := bx3449.keep k3461 (by simp)
 obtain ⟨d3470, rfl, hd3471⟩ := hs3456
 have := hd3471.len_le
 refine wl_n (o_store (vs := [vI ((l[i]!).epoch), vI ((l[i]!).index), vI ((l[i]!).threshold), vI ((l[i]!).many), d3470]) (.agg #[vI ((l[i]!).epoch), vI ((l[i]!).index), vI ((l[i]!).threshold), vI ((l[i]!).many), d3470]) rfl rfl rfl s_53 (fun u hu => by simp only [List.mem_cons, List.not_mem_nil, or_false] at hu; rcases hu with rfl | rfl | rfl | rfl | rfl <;> first | rfl | exact hd3471.oneCell) (by first | assumption | (repeat (first | exact List.mem_cons_self | assumption | apply List.mem_cons_of_mem))) bx3462 (of_decide_eq_true rfl) s3459 fun w3465 s3466 m3467 k3468 bx3469 => (?_))
 have h_l := h_l.mv m3467
 have h_f := h_f.mv m3467
 have h_zero := h_zero.mv m3467
 have hp3443 := hp3443.mv m3467
 have bx3449 := bx3449.keep k3468 (by simp only [List.mem_singleton]; first | omega | exact ne3464)
 refine wl_nil (thenQ_n (?_))
 refine cw_seq (?_)
 refine cw_region (by kernel_rfl) (wl_s (o_fieldL 0 f_53_0 rfl (wl_s (o_loadBx Try.underlying3 rfl (vI ((l[i]!).epoch)) rfl bx3469 rfl (wl_s (o_add .i64 ((l[i]!).epoch) (1 : Int) (((l[i]!).epoch) + (1 : Int)) rfl rfl (w64 (by omega) (by omega)) (wl_s (o_fieldL 0 f_53_0 rfl (wl_n (o_store1 (vI (((l[i]!).epoch) + (1 : Int))) rfl rfl rfl s_3 (by first | assumption | (repeat (first | exact List.mem_cons_self | assumption | apply List.mem_cons_of_mem))) bx3469 (of_decide_eq_true rfl) s3466 fun w3472 s3473 m3474 k3475 bx3476 => (?_)))))))))))
 have h_l := h_l.mv m3474
 have h_f := h_f.mv m3474
 have h_zero := h_zero.mv m3474
 have hp3443 := hp3443.mv m3474
 have bx3449 := bx3449.keep k3475 (by simp only [List.mem_singleton]; first | omega | exact ne3464)
 refine wl_nil (thenQ_n (?_))
 refine cw_seq (?_)
 refine cw_region (by kernel_rfl) (wl_s (o_fieldR 4 f_53_4 (f.data) rfl h_f (fun _ _ _ h => Enc_share_f4 h) fun a3477 hp3478 => (wl_s (o_loadL Try.underlying28 rfl rfl hp3478 fun v3479 hl3480 => (?_)))))
 have := hl3480.len_le
 refine wl_s (o_lenR Try.underlying28 rfl hl3480 (wl_s (o_makeFunc (first := []) (captured := [.tmp 1, .tmp 4, .tmp 3]) [] [Value.pointer (some l_a), Value.pointer (some a3438), Value.pointer (some zero_a)] rfl rfl (wl_s (o_callK (vs := [vI (f.data.length : Int), Value.func (.func 63) #[] #[Value.pointer (some l_a), Value.pointer (some a3438), Value.pointer (some zero_a)]]) enter_53 (c_collectB (O := (b3457 :: (b3444 :: [])) ++ O) (f.data.length : Int) 63 [Value.pointer (some l_a), Value.pointer (some a3438), Value.pointer (some zero_a)] (fun i_ => l[((i : Int)).toNat]!.data[i_]! ^^^ zero[((i : Int)).toNat]!.data[i_]!) w3472 enter_63 (fun w'_ O'_ kk_ hs_ hl_ i_  hc_ => c_refresh11 (O := O'_) i_ l_a l a3438 (i : Int) zero_a zero w'_ (h_l.on hs_ kk_) (hp3443.on hs_ kk_) (h_zero.on hs_ kk_) (by omega) (by omega) (by omega) (by rw [Int.toNat_natCast, hpre2]; omega) (by rw [Int.toNat_natCast, hpre3]; omega) hl_) (by first | omega | assumption | (simp; done)) s3473.lt) rfl s3473 fun v3481 w3482 s3483 m3484 k3485 r3486 => (?_))))))
 obtain ⟨_, rfl, hl3487⟩ := r3486
 have := hl3487.len_le
 have bx3449 := bx3449.keep k3485 (by simp)
 have bx3476 := bx3476.keep k3485 (by simp)
 refine wl_s (o_fieldL 4 f_53_4 rfl (wl_n (o_store1 (v3481) rfl rfl hl3487.oneCell s_28 (by first | assumption | (repeat (first | exact List.mem_cons_self | assumption | apply List.mem_cons_of_mem))) bx3476 (of_decide_eq_true rfl) s3483 fun w3488 s3489 m3490 k3491 bx3492 => (?_))))
 have hl3487 := hl3487.mv m3490
 have bx3449 := bx3449.keep k3491 (by simp only [List.mem_singleton]; first | omega | exact ne3464)
 refine wl_nil (thenQ_n (?_))
 refine cw_seq (?_)
 refine cw_region (by kernel_rfl) (wl_s (o_loadBxA (vs := [vI (((l[i]!).epoch) + (1 : Int)), vI ((l[i]!).index), vI ((l[i]!).threshold), vI ((l[i]!).many), v3481]) Try.underlying53 rfl s_53 rfl bx3492 rfl (wl_n (o_store (vs := [vI (((l[i]!).epoch) + (1 : Int)), vI ((l[i]!).index), vI ((l[i]!).threshold), vI ((l[i]!).many), v3481]) (.agg #[vI (((l[i]!).epoch) + (1 : Int)), vI ((l[i]!).index), vI ((l[i]!).threshold), vI ((l[i]!).many), v3481]) rfl rfl rfl s_53 (fun u hu => by simp only [List.mem_cons, List.not_mem_nil, or_false] at hu; rcases hu with rfl | rfl | rfl | rfl | rfl <;> first | rfl | exact hl3487.oneCell) (by first | assumption | (repeat (first | exact List.mem_cons_self | assumption | apply List.mem_cons_of_mem))) bx3449 (of_decide_eq_true rfl) s3489 fun w3493 s3494 m3495 k3496 bx3497 => (?_)))))
 have hl3487 := hl3487.mv m3495
 refine wl_nil (thenQ_n (?_))
 refine cw_ret (end_r rfl (rescA (vs := [vI (((l[i]!).epoch) + (1 : Int)), vI ((l[i]!).index), vI ((l[i]!).threshold), vI ((l[i]!).many), v3481]) rfl rfl Try.underlying53 rfl s_53 rfl bx3497 rfl) (?_))
 have e : (refrShare l f zero i) = (⟨((l[i]!).epoch) + (1 : Int), (l[i]!).index, (l[i]!).threshold, (l[i]!).many, (List.range ((f.data.length : Int)).toNat).map (fun i_ => l[((i : Int)).toNat]!.data[i_]! ^^^ zero[((i : Int)).toNat]!.data[i_]!)⟩ : Share) := rfl
 exact ⟨_, rfl, s3494.keep, by rw [e]; exact ⟨[vI (((l[i]!).epoch) + (1 : Int)), vI ((l[i]!).index), vI ((l[i]!).threshold), vI ((l[i]!).many), v3481], rfl, Enc.out ⟨_, rfl, hl3487⟩⟩⟩
set_option maxHeartbeats 4000000 in
set_option maxRecDepth 100000 in
theorem c_refresh {O : List Nat} (l_v : Value) (l : List Share) (coins_v : Value) (coins : List UInt8) (w : World) (h_l : RdL Enc.share w O l_v l) (h_coins : RdL Enc.u8 w O coins_v coins) (hO : ∀ b ∈ O, b < w.heap.size) : CallsK Try.prog 39 [l_v, coins_v] w (fun v w' => ∃ (x0 : Value), v = .tuple #[x0, vI ((refreshM l coins).2)] ∧ RdL Enc.share w' (O) x0 ((refreshM l coins).1)) :=  by
 have lim_l := h_l.len_le
 have h_l : RdL Enc.share w ([] ++ O) l_v l := h_l
 have lim_coins := h_coins.len_le
 have h_coins : RdL Enc.u8 w ([] ++ O) coins_v coins := h_coins
 have s0 : St w O w [] := St.start hO
 refine callsK_of 48 Try.func39 rfl rfl (of_decide_eq_true rfl) (fun F0 => ?_)
 refine cw_seq (?_)
 refine cw_region (by kernel_rfl) (wl_s (o_boxR (E := (Enc.slice Enc.share)) (l_v) ([l_v]) l rfl (cells_one h_l.oneCell) ⟨_, rfl, h_l⟩ s0 fun a3498 w3499 s3500 m3501 k3502 hp3503 => (?_)))
 have h_coins := h_coins.mv m3501
 refine wl_s (o_assign (Value.slice none 0 0) rfl (wl_s (o_assign (vI (0 : Int)) rfl (wl_nil (thenQ_n (?_))))))
 refine cw_seq (?_)
 refine cw_seq (?_)
 refine cw_region (by kernel_rfl) (wl_s (o_loadL Try.underlying38 rfl rfl hp3503 fun v3504 hl3505 => (?_)))
 have := hl3505.len_le
 refine wl_s (o_callK (vs := [v3504]) enter_32 (c_check8 (O := [] ++ O) v3504 l w3499 hl3505 s3500.lt) rfl s3500 fun v3506 w3507 s3508 m3509 k3510 r3511 => (?_))
 obtain rfl := r3511
 have h_coins := h_coins.mv m3509
 have hp3503 := hp3503.mv m3509
 refine wl_s (o_assign (vI (checkM l)) rfl (wl_nil (thenQ_n (?_))))
 refine cw_seq (?_)
 refine cw_region (by kernel_rfl) (wl_s (o_move (vI (checkM l)) rfl (wl_s (o_neq .i64 (checkM l) (0 : Int) rfl rfl (wl_nil (thenQ_n (?_)))))))
 refine cw_cond ((checkM l) != (0 : Int)) rfl rfl (fun hc3512 => ?_) (fun hc3512 => ?_)
 ·have hp3513 : checkM l ≠ (0 : Int) := by first | simpa using hc3512 | (have e := hc3512; simp at e; omega)
  refine cw_seq (?_)
  refine cw_region (by kernel_rfl) (wl_s (o_move (vI (checkM l)) rfl (wl_s (o_assign (Value.slice none 0 0) rfl (wl_s (o_assign (vI (checkM l)) rfl (wl_nil (thenQ_n (?_)))))))))
  refine cw_ret (thenQ_r (end_r rfl (res2 rfl rfl rfl rfl) (?_)))
  have e : (refreshM l coins) = ([], checkM l) := by first | exact refreshM_ok (l := l) (coins := coins) (by unfold refreshBad; ((repeat (first | (refine (if_pos ?_).trans ?_; solve | omega | assumption | (simp only [dbs]; first | done | omega | assumption) | (simp only [*, dbs]; done)) | (refine (if_neg ?_).trans ?_; solve | omega | assumption | (simp only [dbs]; first | done | omega | assumption) | (simp only [*, dbs]; done)))); exact hz2)) rfl | exact refreshM_bad (l := l) (coins := coins) (by unfold refreshBad zeroS; ((repeat (first | (refine (if_pos ?_).trans ?_; solve | omega | assumption | (simp only [dbs]; first | done | omega | assumption) | (simp only [*, dbs]; done)) | (refine (if_neg ?_).trans ?_; solve | omega | assumption | (simp only [dbs]; first | done | omega | assumption) | (simp only [*, dbs]; done)))); rfl)) (by first | assumption | decide)
  exact ⟨_, rfl, s3508.keep, by rw [e]; exact ⟨.slice none 0 0, rfl, RdL.nil _ _ _⟩⟩
 ·have hp3514 : checkM l = (0 : Int) := by first | simpa using hc3512 | (have e := hc3512; simp at e; omega)
  have hv := (check_iff l).1 hp3514
  have hpos := hv.pos
  have ht1 := hv.t1
  have htm := hv.tm
  have hm8 := hv.m8
  have hd64 := hv.d64
  refine cw_skip (thenQ_n (?_))
  refine cw_seq (?_)
  refine cw_region (by kernel_rfl) (wl_s (o_loadL Try.underlying38 rfl rfl hp3503 fun v3515 hl3516 => (?_)))
  have := hl3516.len_le
  refine wl_s (o_idx Try.underlying38 s_53 .i64 (0 : Int) 0 rfl rfl rfl hl3516 (by omega) fun a3517 hp3518 => (wl_s (o_loadS Try.underlying53 rfl s_53 rfl hp3518 fun cs3519 hs3520 => (wl_s (o_alloc [vI (0 : Int), vI (0 : Int), vI (0 : Int), vI (0 : Int), Value.slice none 0 0] z_53 rfl s3508 fun b3521 w3522 e3527 s3523 m3524 k3525 bx3526 => (?_))))))
  clear e3527
  have h_coins := h_coins.mv m3524
  have hp3503 := hp3503.mv m3524
  have hs3520 : Enc.share.rd w3522 ((b3521 :: []) ++ O) cs3519 (l[0]!) := Enc.mv Enc.share (x := l[0]!) hs3520 m3524
  obtain ⟨d3533, rfl, hd3534⟩ := hs3520
  have := hd3534.len_le
  refine wl_n (o_store (vs := [vI ((l[0]!).epoch), vI ((l[0]!).index), vI ((l[0]!).threshold), vI ((l[0]!).many), d3533]) (.agg #[vI ((l[0]!).epoch), vI ((l[0]!).index), vI ((l[0]!).threshold), vI ((l[0]!).many), d3533]) rfl rfl rfl s_53 (fun u hu => by simp only [List.mem_cons, List.not_mem_nil, or_false] at hu; rcases hu with rfl | rfl | rfl | rfl | rfl <;> first | rfl | exact hd3534.oneCell) (by first | assumption | (repeat (first | exact List.mem_cons_self | assumption | apply List.mem_cons_of_mem))) bx3526 (of_decide_eq_true rfl) s3523 fun w3528 s3529 m3530 k3531 bx3532 => (?_))
  have h_coins := h_coins.mv m3530
  have hp3503 := hp3503.mv m3530
  have hd3534 := hd3534.mv m3530
  refine wl_nil (thenQ_n (?_))
  refine cw_seq (?_)
  refine cw_seq (?_)
  refine cw_region (by kernel_rfl) (wl_s (o_loadL Try.underlying38 rfl rfl hp3503 fun v3535 hl3536 => (?_)))
  have := hl3536.len_le
  refine wl_s (o_lenR Try.underlying38 rfl hl3536 (wl_s (o_fieldL 3 f_53_3 rfl (wl_s (o_loadBx Try.underlying3 rfl (vI ((l[0]!).many)) rfl bx3532 rfl (wl_s (o_neq .i64 (l.length : Int) ((l[0]!).many) rfl rfl (wl_nil (thenQ_n (?_))))))))))
  refine cw_cond ((l.length : Int) != ((l[0]!).many)) rfl rfl (fun hc3537 => ?_) (fun hc3537 => ?_)
  ·have hp3538 : (l.length : Int) ≠ (l[0]!).many := by first | simpa using hc3537 | (have e := hc3537; simp at e; omega)
   refine cw_seq (?_)
   refine cw_region (by kernel_rfl) (wl_s (o_assign (Value.slice none 0 0) rfl (wl_s (o_assign (vI (80 : Int)) rfl (wl_nil (thenQ_n (?_)))))))
   refine cw_ret (thenQ_r (end_r rfl (res2 rfl rfl rfl rfl) (?_)))
   have e : (refreshM l coins) = ([], (80 : Int)) := by first | exact refreshM_ok (l := l) (coins := coins) (by unfold refreshBad; ((repeat (first | (refine (if_pos ?_).trans ?_; solve | omega | assumption | (simp only [dbs]; first | done | omega | assumption) | (simp only [*, dbs]; done)) | (refine (if_neg ?_).trans ?_; solve | omega | assumption | (simp only [dbs]; first | done | omega | assumption) | (simp only [*, dbs]; done)))); exact hz2)) rfl | exact refreshM_bad (l := l) (coins := coins) (by unfold refreshBad zeroS; ((repeat (first | (refine (if_pos ?_).trans ?_; solve | omega | assumption | (simp only [dbs]; first | done | omega | assumption) | (simp only [*, dbs]; done)) | (refine (if_neg ?_).trans ?_; solve | omega | assumption | (simp only [dbs]; first | done | omega | assumption) | (simp only [*, dbs]; done)))); rfl)) (by first | assumption | decide)
   exact ⟨_, rfl, s3529.keep, by rw [e]; exact ⟨.slice none 0 0, rfl, RdL.nil _ _ _⟩⟩
  ·have hp3539 : (l.length : Int) = (l[0]!).many := by first | simpa using hc3537 | (have e := hc3537; simp at e; omega)
   refine cw_skip (thenQ_n (?_))
   refine cw_seq (?_)
   refine cw_seq (?_)
   refine cw_region (by kernel_rfl) (wl_s (o_fieldL 0 f_53_0 rfl (wl_s (o_loadBx Try.underlying3 rfl (vI ((l[0]!).epoch)) rfl bx3532 rfl (wl_s (o_eql .i64 ((l[0]!).epoch) (1048576 : Int) rfl rfl (wl_nil (thenQ_n (?_)))))))))
   refine cw_cond (((l[0]!).epoch) == (1048576 : Int)) rfl rfl (fun hc3540 => ?_) (fun hc3540 => ?_)
   ·have hp3541 : (l[0]!).epoch = (1048576 : Int) := by first | simpa using hc3540 | (have e := hc3540; simp at e; omega)
    refine cw_seq (?_)
    refine cw_region (by kernel_rfl) (wl_s (o_assign (Value.slice none 0 0) rfl (wl_s (o_assign (vI (81 : Int)) rfl (wl_nil (thenQ_n (?_)))))))
    refine cw_ret (thenQ_r (end_r rfl (res2 rfl rfl rfl rfl) (?_)))
    have e : (refreshM l coins) = ([], (81 : Int)) := by first | exact refreshM_ok (l := l) (coins := coins) (by unfold refreshBad; ((repeat (first | (refine (if_pos ?_).trans ?_; solve | omega | assumption | (simp only [dbs]; first | done | omega | assumption) | (simp only [*, dbs]; done)) | (refine (if_neg ?_).trans ?_; solve | omega | assumption | (simp only [dbs]; first | done | omega | assumption) | (simp only [*, dbs]; done)))); exact hz2)) rfl | exact refreshM_bad (l := l) (coins := coins) (by unfold refreshBad zeroS; ((repeat (first | (refine (if_pos ?_).trans ?_; solve | omega | assumption | (simp only [dbs]; first | done | omega | assumption) | (simp only [*, dbs]; done)) | (refine (if_neg ?_).trans ?_; solve | omega | assumption | (simp only [dbs]; first | done | omega | assumption) | (simp only [*, dbs]; done)))); rfl)) (by first | assumption | decide)
    exact ⟨_, rfl, s3529.keep, by rw [e]; exact ⟨.slice none 0 0, rfl, RdL.nil _ _ _⟩⟩
   ·have hp3542 : (l[0]!).epoch ≠ (1048576 : Int) := by first | simpa using hc3540 | (have e := hc3540; simp at e; omega)
    refine cw_skip (thenQ_n (?_))
    refine cw_seq (?_)
    refine cw_drawL 16 [14] _ _ _ [isV (Value.pointer (some ⟨b3521, 4, none⟩)), fun (vT : Value) (_ : World) => RdL Enc.u8 w3528 ((b3521 :: []) ++ O) vT ((l[0]!).data), isV (vI (((l[0]!).data).length : Int)), fun (vT : Value) (wT : World) => RdL Enc.u8 wT ((b3521 :: []) ++ O) vT (List.replicate (((l[0]!).data).length) (0 : UInt8)), isV (Value.pointer (some ⟨b3521, 0, none⟩)), isV (vI ((l[0]!).epoch)), isV (Value.pointer (some ⟨b3521, 2, none⟩)), isV (vI ((l[0]!).threshold)), isV (Value.pointer (some ⟨b3521, 3, none⟩)), isV (vI ((l[0]!).many)), fun (vT : Value) (_ : World) => RdL Enc.u8 w3528 ((b3521 :: []) ++ O) vT (coins), fun (vT : Value) (wT : World) => ∃ (xT0 : Value), vT = .tuple #[xT0, vI ((splitM (List.replicate (((l[0]!).data).length) (0 : UInt8)) ((l[0]!).epoch) ((l[0]!).threshold) ((l[0]!).many) coins).2)] ∧ RdL Enc.share wT ((b3521 :: []) ++ O) xT0 ((splitM (List.replicate (((l[0]!).data).length) (0 : UInt8)) ((l[0]!).epoch) ((l[0]!).threshold) ((l[0]!).many) coins).1), fun (vT : Value) (wT : World) => ∃ (xT0 : Value), vT = .tuple #[xT0, vI ((splitM (List.replicate (((l[0]!).data).length) (0 : UInt8)) ((l[0]!).epoch) ((l[0]!).threshold) ((l[0]!).many) coins).2)] ∧ RdL Enc.share wT ((b3521 :: []) ++ O) xT0 ((splitM (List.replicate (((l[0]!).data).length) (0 : UInt8)) ((l[0]!).epoch) ((l[0]!).threshold) ((l[0]!).many) coins).1), fun (vT : Value) (wT : World) => RdL Enc.share wT ((b3521 :: []) ++ O) vT ((splitM (List.replicate (((l[0]!).data).length) (0 : UInt8)) ((l[0]!).epoch) ((l[0]!).threshold) ((l[0]!).many) coins).1), isV (vI ((splitM (List.replicate (((l[0]!).data).length) (0 : UInt8)) ((l[0]!).epoch) ((l[0]!).threshold) ((l[0]!).many) coins).2)), fun (vT : Value) (wT : World) => ∃ bT : Nat, vT = .pointer (some ⟨bT, 0, none⟩) ∧ w3528.heap.size ≤ bT ∧ Box wT bT 38 [Value.slice none 0 0]] (by kernel_rfl) (by kernel_rfl) (by kernel_rfl) (by kernel_rfl) (by decide) rfl rfl rfl ⟨kI, fun _ _ _ h _ => h, kI, fun _ _ _ h k => h.mv (Mv.of_keep k), kI, kI, kI, kI, kI, kI, fun _ _ _ h _ => h, fun _ _ _ ⟨y0, e, h0⟩ k => ⟨y0, e, h0.mv (Mv.of_keep k)⟩, fun _ _ _ ⟨y0, e, h0⟩ k => ⟨y0, e, h0.mv (Mv.of_keep k)⟩, fun _ _ _ h k => h.mv (Mv.of_keep k), kI, fun _ _ _ ⟨b, e, h1, h⟩ k => ⟨b, e, h1, h.keep k (by simp)⟩, trivial⟩ ⟨?_, ?_, ?_, ?_, ?_, ?_, ?_, ?_, ?_, ?_, ?_, ?_, ?_, ?_, ?_, ?_, trivial⟩ ?_ ?_
    ·intro F1 w1 k1 hf hd
     obtain ⟨F2, rfl⟩ := lit_of (F := F1) [(7, Value.pointer (some ⟨b3521, 0, none⟩))] ⟨hf 7 (by kernel_rfl), trivial⟩
     exact sp_plain rfl ((o_fieldL 4 f_53_4 rfl (⟨(Keep.refl _ _), rfl⟩)))
    ·intro F1 w1 k1 hf hd
     have k0 := (Keep.drew [] w3528).trans k1
     have bx3532 := bx3532.keep k0 (by simp)
     obtain ⟨F2, rfl⟩ := lit_of (F := F1) [(26, Value.pointer (some ⟨b3521, 4, none⟩))] ⟨hd 0 26 (by kernel_rfl), trivial⟩
     exact sp_plain rfl ((o_loadBx Try.underlying28 rfl (d3533) rfl bx3532 rfl (⟨(Keep.refl _ _), hd3534⟩)))
    ·intro F1 w1 k1 hf hd
     obtain ⟨v3543, e3545, hl3544⟩ : ∃ v, F1 27 = v ∧ RdL Enc.u8 w3528 ((b3521 :: []) ++ O) v ((l[0]!).data) := ⟨_, rfl, hd 1 27 (by kernel_rfl)⟩
     have := hl3544.len_le
     obtain ⟨F2, rfl⟩ := lit_of (F := F1) [(27, v3543)] ⟨e3545, trivial⟩
     exact sp_plain rfl ((o_lenRU Try.underlying28 rfl hl3544 (⟨(Keep.refl _ _), rfl⟩)))
    ·intro F1 w1 k1 hf hd
     have k0 := (Keep.drew [] w3528).trans k1
     have s1 := s3529.call k0
     obtain ⟨F2, rfl⟩ := lit_of (F := F1) [(28, vI (((l[0]!).data).length : Int))] ⟨hd 2 28 (by kernel_rfl), trivial⟩
     refine sp_plain rfl ((o_makeR (E := Enc.u8) Try.underlying28 i_5 [vB (0 : UInt8)] rfl rfl (by decide) (0 : UInt8) (fun _ _ => rfl) .i64 .i64 (((l[0]!).data).length : Int) (((l[0]!).data).length : Int) (((l[0]!).data).length) (((l[0]!).data).length) rfl rfl rfl rfl (by omega) (by omega) (by simp only [maxLen]; omega) s1 fun v3550 w3546 s3547 m3548 k3549 hl3551 => (?_)))
     exact ⟨k3549, hl3551⟩
    ·intro F1 w1 k1 hf hd
     obtain ⟨F2, rfl⟩ := lit_of (F := F1) [(7, Value.pointer (some ⟨b3521, 0, none⟩))] ⟨hf 7 (by kernel_rfl), trivial⟩
     exact sp_plain rfl ((o_fieldL 0 f_53_0 rfl (⟨(Keep.refl _ _), rfl⟩)))
    ·intro F1 w1 k1 hf hd
     have k0 := (Keep.drew [] w3528).trans k1
     have bx3532 := bx3532.keep k0 (by simp)
     obtain ⟨F2, rfl⟩ := lit_of (F := F1) [(30, Value.pointer (some ⟨b3521, 0, none⟩))] ⟨hd 4 30 (by kernel_rfl), trivial⟩
     exact sp_plain rfl ((o_loadBx Try.underlying3 rfl (vI ((l[0]!).epoch)) rfl bx3532 rfl (⟨(Keep.refl _ _), rfl⟩)))
    ·intro F1 w1 k1 hf hd
     obtain ⟨F2, rfl⟩ := lit_of (F := F1) [(7, Value.pointer (some ⟨b3521, 0, none⟩))] ⟨hf 7 (by kernel_rfl), trivial⟩
     exact sp_plain rfl ((o_fieldL 2 f_53_2 rfl (⟨(Keep.refl _ _), rfl⟩)))
    ·intro F1 w1 k1 hf hd
     have k0 := (Keep.drew [] w3528).trans k1
     have bx3532 := bx3532.keep k0 (by simp)
     obtain ⟨F2, rfl⟩ := lit_of (F := F1) [(32, Value.pointer (some ⟨b3521, 2, none⟩))] ⟨hd 6 32 (by kernel_rfl), trivial⟩
     exact sp_plain rfl ((o_loadBx Try.underlying3 rfl (vI ((l[0]!).threshold)) rfl bx3532 rfl (⟨(Keep.refl _ _), rfl⟩)))
    ·intro F1 w1 k1 hf hd
     obtain ⟨F2, rfl⟩ := lit_of (F := F1) [(7, Value.pointer (some ⟨b3521, 0, none⟩))] ⟨hf 7 (by kernel_rfl), trivial⟩
     exact sp_plain rfl ((o_fieldL 3 f_53_3 rfl (⟨(Keep.refl _ _), rfl⟩)))
    ·intro F1 w1 k1 hf hd
     have k0 := (Keep.drew [] w3528).trans k1
     have bx3532 := bx3532.keep k0 (by simp)
     obtain ⟨F2, rfl⟩ := lit_of (F := F1) [(34, Value.pointer (some ⟨b3521, 3, none⟩))] ⟨hd 8 34 (by kernel_rfl), trivial⟩
     exact sp_plain rfl ((o_loadBx Try.underlying3 rfl (vI ((l[0]!).many)) rfl bx3532 rfl (⟨(Keep.refl _ _), rfl⟩)))
    ·intro F1 w1 k1 hf hd
     obtain ⟨F2, rfl⟩ := lit_of (F := F1) [(1, coins_v)] ⟨hf 1 (by kernel_rfl), trivial⟩
     exact sp_plain rfl ((o_move (coins_v) rfl (⟨(Keep.refl _ _), h_coins⟩)))
    ·intro F1 w1 k1 hf hd
     have k0 := (Keep.drew [] w3528).trans k1
     have s1 := s3529.call k0
     obtain ⟨v3552, e3554, hl3553⟩ : ∃ v, F1 29 = v ∧ RdL Enc.u8 w1 ((b3521 :: []) ++ O) v (List.replicate (((l[0]!).data).length) (0 : UInt8)) := ⟨_, rfl, hd 3 29 (by kernel_rfl)⟩
     have := hl3553.len_le
     obtain ⟨v3555, e3557, hl3556⟩ : ∃ v, F1 36 = v ∧ RdL Enc.u8 w3528 ((b3521 :: []) ++ O) v (coins) := ⟨_, rfl, hd 10 36 (by kernel_rfl)⟩
     have := hl3556.len_le
     obtain ⟨F2, rfl⟩ := lit_of (F := F1) [(29, v3552), (31, vI ((l[0]!).epoch)), (33, vI ((l[0]!).threshold)), (35, vI ((l[0]!).many)), (36, v3555)] ⟨e3554, hd 5 31 (by kernel_rfl), hd 7 33 (by kernel_rfl), hd 9 35 (by kernel_rfl), e3557, trivial⟩
     refine sp_plain rfl (?_)
     have hn3558 := hl3556.step k0
     refine (o_callK (vs := [v3552, vI ((l[0]!).epoch), vI ((l[0]!).threshold), vI ((l[0]!).many), v3555]) enter_30 (c_split (O := (b3521 :: []) ++ O) v3552 (List.replicate (((l[0]!).data).length) (0 : UInt8)) ((l[0]!).epoch) ((l[0]!).threshold) ((l[0]!).many) v3555 coins w1 hl3553 hn3558 s1.lt) rfl s1 fun v3559 w3560 s3561 m3562 k3563 r3564 => (?_))
     obtain ⟨x3565, rfl, hl3566⟩ := r3564
     have := hl3566.len_le
     exact ⟨k3563, ⟨x3565, rfl, hl3566⟩⟩
    ·intro F1 w1 k1 hf hd
     obtain ⟨x3567, e3569, hl3568⟩ : (fun (vT : Value) (wT : World) => ∃ (xT0 : Value), vT = .tuple #[xT0, vI ((splitM (List.replicate (((l[0]!).data).length) (0 : UInt8)) ((l[0]!).epoch) ((l[0]!).threshold) ((l[0]!).many) coins).2)] ∧ RdL Enc.share wT ((b3521 :: []) ++ O) xT0 ((splitM (List.replicate (((l[0]!).data).length) (0 : UInt8)) ((l[0]!).epoch) ((l[0]!).threshold) ((l[0]!).many) coins).1)) (F1 37) w1 := hd 11 37 (by kernel_rfl)
     have := hl3568.len_le
     obtain ⟨F2, rfl⟩ := lit_of (F := F1) [(37, Value.tuple #[x3567, vI ((splitM (List.replicate (((l[0]!).data).length) (0 : UInt8)) ((l[0]!).epoch) ((l[0]!).threshold) ((l[0]!).many) coins).2)])] ⟨e3569, trivial⟩
     exact sp_plain rfl ((o_move (Value.tuple #[x3567, vI ((splitM (List.replicate (((l[0]!).data).length) (0 : UInt8)) ((l[0]!).epoch) ((l[0]!).threshold) ((l[0]!).many) coins).2)]) rfl (⟨(Keep.refl _ _), ⟨x3567, rfl, hl3568⟩⟩)))
    ·intro F1 w1 k1 hf hd
     obtain ⟨x3570, e3572, hl3571⟩ : (fun (vT : Value) (wT : World) => ∃ (xT0 : Value), vT = .tuple #[xT0, vI ((splitM (List.replicate (((l[0]!).data).length) (0 : UInt8)) ((l[0]!).epoch) ((l[0]!).threshold) ((l[0]!).many) coins).2)] ∧ RdL Enc.share wT ((b3521 :: []) ++ O) xT0 ((splitM (List.replicate (((l[0]!).data).length) (0 : UInt8)) ((l[0]!).epoch) ((l[0]!).threshold) ((l[0]!).many) coins).1)) (F1 25) w1 := hd 12 25 (by kernel_rfl)
     have := hl3571.len_le
     obtain ⟨F2, rfl⟩ := lit_of (F := F1) [(25, Value.tuple #[x3570, vI ((splitM (List.replicate (((l[0]!).data).length) (0 : UInt8)) ((l[0]!).epoch) ((l[0]!).threshold) ((l[0]!).many) coins).2)])] ⟨e3572, trivial⟩
     exact sp_plain rfl ((o_extract (x3570) rfl rfl (⟨(Keep.refl _ _), hl3571⟩)))
    ·intro F1 w1 k1 hf hd
     obtain ⟨x3573, e3575, hl3574⟩ : (fun (vT : Value) (wT : World) => ∃ (xT0 : Value), vT = .tuple #[xT0, vI ((splitM (List.replicate (((l[0]!).data).length) (0 : UInt8)) ((l[0]!).epoch) ((l[0]!).threshold) ((l[0]!).many) coins).2)] ∧ RdL Enc.share wT ((b3521 :: []) ++ O) xT0 ((splitM (List.replicate (((l[0]!).data).length) (0 : UInt8)) ((l[0]!).epoch) ((l[0]!).threshold) ((l[0]!).many) coins).1)) (F1 25) w1 := hd 12 25 (by kernel_rfl)
     have := hl3574.len_le
     obtain ⟨F2, rfl⟩ := lit_of (F := F1) [(25, Value.tuple #[x3573, vI ((splitM (List.replicate (((l[0]!).data).length) (0 : UInt8)) ((l[0]!).epoch) ((l[0]!).threshold) ((l[0]!).many) coins).2)])] ⟨e3575, trivial⟩
     exact sp_plain rfl ((o_extract (vI ((splitM (List.replicate (((l[0]!).data).length) (0 : UInt8)) ((l[0]!).epoch) ((l[0]!).threshold) ((l[0]!).many) coins).2)) rfl rfl (⟨(Keep.refl _ _), rfl⟩)))
    ·intro F1 w1 k1 hf hd
     have k0 := (Keep.drew [] w3528).trans k1
     have s1 := s3529.call k0
     obtain ⟨F2, rfl⟩ := lit_of (F := F1) [] trivial
     refine sp_plain rfl ((o_alloc [Value.slice none 0 0] z_38 rfl s1 fun b3576 w3577 e3582 s3578 m3579 k3580 bx3581 => (?_)))
     have lo3583 : w3528.heap.size ≤ b3576 := by have := k0.size; omega
     exact ⟨k3580, ⟨_, rfl, lo3583, bx3581⟩⟩
    ·intro F3585 w3586 k3584 hT3587 hF3588
     obtain ⟨v3592, e3594, hl3593⟩ : ∃ v, F3585 27 = v ∧ RdL Enc.u8 w3528 ((b3521 :: []) ++ O) v ((l[0]!).data) := ⟨_, rfl, hT3587 1 27 (by kernel_rfl) (by decide)⟩
     have := hl3593.len_le
     obtain ⟨v3595, e3597, hl3596⟩ : ∃ v, F3585 36 = v ∧ RdL Enc.u8 w3528 ((b3521 :: []) ++ O) v (coins) := ⟨_, rfl, hT3587 10 36 (by kernel_rfl) (by decide)⟩
     have := hl3596.len_le
     obtain ⟨b3598, e3599, lo3600, bx3601⟩ : (fun (vT : Value) (wT : World) => ∃ bT : Nat, vT = .pointer (some ⟨bT, 0, none⟩) ∧ w3528.heap.size ≤ bT ∧ Box wT bT 38 [Value.slice none 0 0]) (F3585 8) w3586 := hT3587 15 8 (by kernel_rfl) (by decide)
     have ne3602 : b3521 ≠ b3598 := by have := bx3532.lt; omega
     have s3589 := (s3529.call k3584).adopt (Nat.le_trans s3529.keep.size lo3600) bx3601.lt
     have m3590 : Mv (b3521 :: []) w3528 (b3598 :: (b3521 :: [])) w3586 := Mv.adopt k3584 lo3600
     obtain ⟨x3603, e3605, hl3604⟩ : (fun (vT : Value) (wT : World) => ∃ (xT0 : Value), vT = .tuple #[xT0, vI ((splitM (List.replicate (((l[0]!).data).length) (0 : UInt8)) ((l[0]!).epoch) ((l[0]!).threshold) ((l[0]!).many) coins).2)] ∧ RdL Enc.share wT ((b3521 :: []) ++ O) xT0 ((splitM (List.replicate (((l[0]!).data).length) (0 : UInt8)) ((l[0]!).epoch) ((l[0]!).threshold) ((l[0]!).many) coins).1)) (F3585 25) w3586 := hT3587 12 25 (by kernel_rfl) (by decide)
     have := hl3604.len_le
     have hl3604 : RdL Enc.share w3586 ((b3598 :: (b3521 :: [])) ++ O) x3603 ((splitM (List.replicate (((l[0]!).data).length) (0 : UInt8)) ((l[0]!).epoch) ((l[0]!).threshold) ((l[0]!).many) coins).1) := avoid_share hl3604 bx3601
     obtain ⟨v3606, e3608, hl3607⟩ : ∃ v, F3585 29 = v ∧ RdL Enc.u8 w3586 ((b3521 :: []) ++ O) v (List.replicate (((l[0]!).data).length) (0 : UInt8)) := ⟨_, rfl, hT3587 3 29 (by kernel_rfl) (by decide)⟩
     have := hl3607.len_le
     have hl3607 : RdL Enc.u8 w3586 ((b3598 :: (b3521 :: [])) ++ O) v3606 (List.replicate (((l[0]!).data).length) (0 : UInt8)) := avoid_u8 hl3607 bx3601
     obtain ⟨x3609, e3611, hl3610⟩ : (fun (vT : Value) (wT : World) => ∃ (xT0 : Value), vT = .tuple #[xT0, vI ((splitM (List.replicate (((l[0]!).data).length) (0 : UInt8)) ((l[0]!).epoch) ((l[0]!).threshold) ((l[0]!).many) coins).2)] ∧ RdL Enc.share wT ((b3521 :: []) ++ O) xT0 ((splitM (List.replicate (((l[0]!).data).length) (0 : UInt8)) ((l[0]!).epoch) ((l[0]!).threshold) ((l[0]!).many) coins).1)) (F3585 37) w3586 := hT3587 11 37 (by kernel_rfl) (by decide)
     have := hl3610.len_le
     have hl3610 : RdL Enc.share w3586 ((b3598 :: (b3521 :: [])) ++ O) x3609 ((splitM (List.replicate (((l[0]!).data).length) (0 : UInt8)) ((l[0]!).epoch) ((l[0]!).threshold) ((l[0]!).many) coins).1) := avoid_share hl3610 bx3601
     obtain ⟨v3612, e3614, hl3613⟩ : ∃ v, F3585 38 = v ∧ RdL Enc.share w3586 ((b3521 :: []) ++ O) v ((splitM (List.replicate (((l[0]!).data).length) (0 : UInt8)) ((l[0]!).epoch) ((l[0]!).threshold) ((l[0]!).many) coins).1) := ⟨_, rfl, hT3587 13 38 (by kernel_rfl) (by decide)⟩
     have := hl3613.len_le
     have hl3613 : RdL Enc.share w3586 ((b3598 :: (b3521 :: [])) ++ O) v3612 ((splitM (List.replicate (((l[0]!).data).length) (0 : UInt8)) ((l[0]!).epoch) ((l[0]!).threshold) ((l[0]!).many) coins).1) := avoid_share hl3613 bx3601
     have hp3503 := hp3503.mv m3590
     have hd3534 := hd3534.mv m3590
     have bx3532 := bx3532.keep k3584 (by simp)
     obtain ⟨F2, rfl⟩ := lit_of (F := F3585) [(2, Value.pointer (some a3498)), (5, vI (0 : Int)), (7, Value.pointer (some ⟨b3521, 0, none⟩)), (48, undef), (8, Value.pointer (some ⟨b3598, 0, none⟩)), (25, Value.tuple #[x3603, vI ((splitM (List.replicate (((l[0]!).data).length) (0 : UInt8)) ((l[0]!).epoch) ((l[0]!).threshold) ((l[0]!).many) coins).2)]), (27, v3592), (29, v3606), (36, v3595), (37, Value.tuple #[x3609, vI ((splitM (List.replicate (((l[0]!).data).length) (0 : UInt8)) ((l[0]!).epoch) ((l[0]!).threshold) ((l[0]!).many) coins).2)]), (38, v3612), (39, vI ((splitM (List.replicate (((l[0]!).data).length) (0 : UInt8)) ((l[0]!).epoch) ((l[0]!).threshold) ((l[0]!).many) coins).2))] ⟨hF3588 2 (by kernel_rfl), hF3588 5 (by kernel_rfl), hF3588 7 (by kernel_rfl), hF3588 48 (by kernel_rfl), e3599, e3605, e3594, e3608, e3597, e3611, e3614, hT3587 14 39 (by kernel_rfl) (by decide), trivial⟩
     clear hT3587 hF3588
     refine wl_n (o_store1 (v3612) rfl rfl hl3613.oneCell s_38 (by first | assumption | (repeat (first | exact List.mem_cons_self | assumption | apply List.mem_cons_of_mem))) bx3601 (of_decide_eq_true rfl) s3589 fun w3615 s3616 m3617 k3618 bx3619 => (?_))
     have hp3503 := hp3503.mv m3617
     have hl3613 := hl3613.mv m3617
     have hd3534 := hd3534.mv m3617
     have bx3532 := bx3532.keep k3618 (by simp only [List.mem_singleton]; first | omega | exact ne3602)
     refine wl_s (o_assign (vI ((splitM (List.replicate (((l[0]!).data).length) (0 : UInt8)) ((l[0]!).epoch) ((l[0]!).threshold) ((l[0]!).many) coins).2)) rfl (wl_nil (thenQ_n (?_))))
     refine cw_seq (?_)
     refine cw_seq (?_)
     refine cw_region (by kernel_rfl) (wl_s (o_move (vI ((splitM (List.replicate (((l[0]!).data).length) (0 : UInt8)) ((l[0]!).epoch) ((l[0]!).threshold) ((l[0]!).many) coins).2)) rfl (wl_s (o_neq .i64 ((splitM (List.replicate (((l[0]!).data).length) (0 : UInt8)) ((l[0]!).epoch) ((l[0]!).threshold) ((l[0]!).many) coins).2) (0 : Int) rfl rfl (wl_nil (thenQ_n (?_)))))))
     refine cw_cond (((splitM (List.replicate (((l[0]!).data).length) (0 : UInt8)) ((l[0]!).epoch) ((l[0]!).threshold) ((l[0]!).many) coins).2) != (0 : Int)) rfl rfl (fun hc3620 => ?_) (fun hc3620 => ?_)
     ·have hp3621 : (splitM (List.replicate (((l[0]!).data).length) (0 : UInt8)) ((l[0]!).epoch) ((l[0]!).threshold) ((l[0]!).many) coins).2 ≠ (0 : Int) := by first | simpa using hc3620 | (have e := hc3620; simp at e; omega)
      refine cw_seq (?_)
      refine cw_region (by kernel_rfl) (wl_s (o_move (vI ((splitM (List.replicate (((l[0]!).data).length) (0 : UInt8)) ((l[0]!).epoch) ((l[0]!).threshold) ((l[0]!).many) coins).2)) rfl (wl_s (o_assign (Value.slice none 0 0) rfl (wl_s (o_assign (vI ((splitM (List.replicate (((l[0]!).data).length) (0 : UInt8)) ((l[0]!).epoch) ((l[0]!).threshold) ((l[0]!).many) coins).2)) rfl (wl_nil (thenQ_n (?_)))))))))
      refine cw_ret (thenQ_r (end_r rfl (res2 rfl rfl rfl rfl) (?_)))
      have e : (refreshM l coins) = ([], (splitM (List.replicate (((l[0]!).data).length) (0 : UInt8)) ((l[0]!).epoch) ((l[0]!).threshold) ((l[0]!).many) coins).2) := by first | exact refreshM_ok (l := l) (coins := coins) (by unfold refreshBad; ((repeat (first | (refine (if_pos ?_).trans ?_; solve | omega | assumption | (simp only [dbs]; first | done | omega | assumption) | (simp only [*, dbs]; done)) | (refine (if_neg ?_).trans ?_; solve | omega | assumption | (simp only [dbs]; first | done | omega | assumption) | (simp only [*, dbs]; done)))); exact hz2)) rfl | exact refreshM_bad (l := l) (coins := coins) (by unfold refreshBad zeroS; ((repeat (first | (refine (if_pos ?_).trans ?_; solve | omega | assumption | (simp only [dbs]; first | done | omega | assumption) | (simp only [*, dbs]; done)) | (refine (if_neg ?_).trans ?_; solve | omega | assumption | (simp only [dbs]; first | done | omega | assumption) | (simp only [*, dbs]; done)))); rfl)) (by first | assumption | decide)
      exact ⟨_, rfl, s3616.keep, by rw [e]; exact ⟨.slice none 0 0, rfl, RdL.nil _ _ _⟩⟩
     ·have hp3622 : (splitM (List.replicate (((l[0]!).data).length) (0 : UInt8)) ((l[0]!).epoch) ((l[0]!).threshold) ((l[0]!).many) coins).2 = (0 : Int) := by first | simpa using hc3620 | (have e := hc3620; simp at e; omega)
      have hz2 : (zeroS l[0]! coins).2 = 0 := hp3622
      have hzl := zeroS_len hz2
      refine cw_skip (thenQ_n (?_))
      refine cw_seq (?_)
      refine cw_region (by kernel_rfl) (wl_s (o_loadL Try.underlying38 rfl rfl hp3503 fun v3623 hl3624 => (?_)))
      have := hl3624.len_le
      refine wl_s (o_lenR Try.underlying38 rfl hl3624 (?_))
      obtain ⟨B3625, s3626, m3627, hp3628, hk3629⟩ := bx3532.publish (E := Enc.share) (u := (l[0]!)) ⟨_, rfl, hd3534⟩ s3616 (by first | assumption | (repeat (first | exact List.mem_cons_self | assumption | apply List.mem_cons_of_mem)))
      have hin_b3598 : b3598 ∈ B3625 := hk3629 b3598 (by first | assumption | (repeat (first | exact List.mem_cons_self | assumption | apply List.mem_cons_of_mem))) (Ne.symm ne3602)
      have hp3503 := hp3503.mv m3627
      have hl3613 := hl3613.mv m3627
      have bx3619 := bx3619.keep (Keep.refl [] _) (by simp)
      obtain ⟨B3630, s3631, m3632, hp3633, hk3634⟩ := bx3619.publish (E := (Enc.slice Enc.share)) (u := (splitM (List.replicate (((l[0]!).data).length) (0 : UInt8)) ((l[0]!).epoch) ((l[0]!).threshold) ((l[0]!).many) coins).1) ⟨_, rfl, hl3613⟩ s3626 (by first | assumption | (repeat (first | exact List.mem_cons_self | assumption | apply List.mem_cons_of_mem)))
      have hp3503 := hp3503.mv m3632
      have hp3628 := hp3628.mv m3632
      refine wl_s (o_makeFunc (first := []) (captured := [.tmp 2, .tmp 7, .tmp 8]) [] [Value.pointer (some a3498), Value.pointer (some ⟨b3521, 0, none⟩), Value.pointer (some ⟨b3598, 0, none⟩)] rfl rfl (wl_s (o_callK (vs := [vI (l.length : Int), Value.func (.func 62) #[] #[Value.pointer (some a3498), Value.pointer (some ⟨b3521, 0, none⟩), Value.pointer (some ⟨b3598, 0, none⟩)]]) enter_51 (c_collectS (O := B3630 ++ O) (l.length : Int) 62 [Value.pointer (some a3498), Value.pointer (some ⟨b3521, 0, none⟩), Value.pointer (some ⟨b3598, 0, none⟩)] (fun i_ => refrShare l (l[0]!) ((splitM (List.replicate (((l[0]!).data).length) (0 : UInt8)) ((l[0]!).epoch) ((l[0]!).threshold) ((l[0]!).many) coins).1) i_) w3615 enter_62 (fun w'_ O'_ kk_ hs_ hl_ i_  hc_ => c_refresh1 (O := O'_) i_ a3498 l (⟨b3521, 0, none⟩) (l[0]!) (⟨b3598, 0, none⟩) ((splitM (List.replicate (((l[0]!).data).length) (0 : UInt8)) ((l[0]!).epoch) ((l[0]!).threshold) ((l[0]!).many) coins).1) w'_ (hp3503.on hs_ kk_) (hp3628.on hs_ kk_) (hp3633.on hs_ kk_) (by omega) (show _ < (zeroS l[0]! coins).1.length from by omega) (hv.da _ (by omega)) (zeroS_data hz2 (by omega)) (by have := hv.ep i_ (by omega); have := hv.ep0; omega) (by have := hv.ep i_ (by omega); have := hv.ep1; omega) (by omega) hl_) (by first | omega | assumption | (simp; done)) s3631.lt) rfl s3631 fun v3635 w3636 s3637 m3638 k3639 r3640 => (?_))))
      obtain ⟨_, rfl, hl3641⟩ := r3640
      have := hl3641.len_le
      refine wl_s (o_assign (v3635) rfl (wl_nil (thenQ_n (?_))))
      refine cw_seq (?_)
      refine cw_region (by kernel_rfl) (wl_s (o_move (v3635) rfl (wl_s (o_assign (v3635) rfl (wl_s (o_assign (vI (0 : Int)) rfl (wl_nil (thenQ_n (?_)))))))))
      refine cw_ret (end_r rfl (res2 rfl rfl rfl rfl) (?_))
      have e : (refreshM l coins) = ((List.range ((l.length : Int)).toNat).map (fun i_ => refrShare l (l[0]!) ((splitM (List.replicate (((l[0]!).data).length) (0 : UInt8)) ((l[0]!).epoch) ((l[0]!).threshold) ((l[0]!).many) coins).1) i_), (0 : Int)) := by first | exact refreshM_ok (l := l) (coins := coins) (by unfold refreshBad; ((repeat (first | (refine (if_pos ?_).trans ?_; solve | omega | assumption | (simp only [dbs]; first | done | omega | assumption) | (simp only [*, dbs]; done)) | (refine (if_neg ?_).trans ?_; solve | omega | assumption | (simp only [dbs]; first | done | omega | assumption) | (simp only [*, dbs]; done)))); exact hz2)) rfl | exact refreshM_bad (l := l) (coins := coins) (by unfold refreshBad zeroS; ((repeat (first | (refine (if_pos ?_).trans ?_; solve | omega | assumption | (simp only [dbs]; first | done | omega | assumption) | (simp only [*, dbs]; done)) | (refine (if_neg ?_).trans ?_; solve | omega | assumption | (simp only [dbs]; first | done | omega | assumption) | (simp only [*, dbs]; done)))); rfl)) (by first | assumption | decide)
      exact ⟨_, rfl, s3637.keep, by rw [e]; exact ⟨v3635, rfl, hl3641.out⟩⟩
    ·intro c hc
     match c, hc with
     | 0, _ =>
      intro F3643 w3644 k3642 hT3645 hF3646
      obtain ⟨v3650, e3652, hl3651⟩ : ∃ v, F3643 27 = v ∧ RdL Enc.u8 w3528 ((b3521 :: []) ++ O) v ((l[0]!).data) := ⟨_, rfl, hT3645 1 27 (by kernel_rfl) (by decide) (by decide)⟩
      have := hl3651.len_le
      obtain ⟨v3653, e3655, hl3654⟩ : ∃ v, F3643 36 = v ∧ RdL Enc.u8 w3528 ((b3521 :: []) ++ O) v (coins) := ⟨_, rfl, hT3645 10 36 (by kernel_rfl) (by decide) (by decide)⟩
      have := hl3654.len_le
      obtain ⟨b3656, e3657, lo3658, bx3659⟩ : (fun (vT : Value) (wT : World) => ∃ bT : Nat, vT = .pointer (some ⟨bT, 0, none⟩) ∧ w3528.heap.size ≤ bT ∧ Box wT bT 38 [Value.slice none 0 0]) (F3643 8) w3644 := hT3645 15 8 (by kernel_rfl) (by decide) (by decide)
      have ne3660 : b3521 ≠ b3656 := by have := bx3532.lt; omega
      have s3647 := (s3529.call k3642).adopt (Nat.le_trans s3529.keep.size lo3658) bx3659.lt
      have m3648 : Mv (b3521 :: []) w3528 (b3656 :: (b3521 :: [])) w3644 := Mv.adopt k3642 lo3658
      obtain ⟨x3661, e3663, hl3662⟩ : (fun (vT : Value) (wT : World) => ∃ (xT0 : Value), vT = .tuple #[xT0, vI ((splitM (List.replicate (((l[0]!).data).length) (0 : UInt8)) ((l[0]!).epoch) ((l[0]!).threshold) ((l[0]!).many) coins).2)] ∧ RdL Enc.share wT ((b3521 :: []) ++ O) xT0 ((splitM (List.replicate (((l[0]!).data).length) (0 : UInt8)) ((l[0]!).epoch) ((l[0]!).threshold) ((l[0]!).many) coins).1)) (F3643 25) w3644 := hT3645 12 25 (by kernel_rfl) (by decide) (by decide)
      have := hl3662.len_le
      have hl3662 : RdL Enc.share w3644 ((b3656 :: (b3521 :: [])) ++ O) x3661 ((splitM (List.replicate (((l[0]!).data).length) (0 : UInt8)) ((l[0]!).epoch) ((l[0]!).threshold) ((l[0]!).many) coins).1) := avoid_share hl3662 bx3659
      obtain ⟨v3664, e3666, hl3665⟩ : ∃ v, F3643 29 = v ∧ RdL Enc.u8 w3644 ((b3521 :: []) ++ O) v (List.replicate (((l[0]!).data).length) (0 : UInt8)) := ⟨_, rfl, hT3645 3 29 (by kernel_rfl) (by decide) (by decide)⟩
      have := hl3665.len_le
      have hl3665 : RdL Enc.u8 w3644 ((b3656 :: (b3521 :: [])) ++ O) v3664 (List.replicate (((l[0]!).data).length) (0 : UInt8)) := avoid_u8 hl3665 bx3659
      obtain ⟨x3667, e3669, hl3668⟩ : (fun (vT : Value) (wT : World) => ∃ (xT0 : Value), vT = .tuple #[xT0, vI ((splitM (List.replicate (((l[0]!).data).length) (0 : UInt8)) ((l[0]!).epoch) ((l[0]!).threshold) ((l[0]!).many) coins).2)] ∧ RdL Enc.share wT ((b3521 :: []) ++ O) xT0 ((splitM (List.replicate (((l[0]!).data).length) (0 : UInt8)) ((l[0]!).epoch) ((l[0]!).threshold) ((l[0]!).many) coins).1)) (F3643 37) w3644 := hT3645 11 37 (by kernel_rfl) (by decide) (by decide)
      have := hl3668.len_le
      have hl3668 : RdL Enc.share w3644 ((b3656 :: (b3521 :: [])) ++ O) x3667 ((splitM (List.replicate (((l[0]!).data).length) (0 : UInt8)) ((l[0]!).epoch) ((l[0]!).threshold) ((l[0]!).many) coins).1) := avoid_share hl3668 bx3659
      obtain ⟨v3670, e3672, hl3671⟩ : ∃ v, F3643 38 = v ∧ RdL Enc.share w3644 ((b3521 :: []) ++ O) v ((splitM (List.replicate (((l[0]!).data).length) (0 : UInt8)) ((l[0]!).epoch) ((l[0]!).threshold) ((l[0]!).many) coins).1) := ⟨_, rfl, hT3645 13 38 (by kernel_rfl) (by decide) (by decide)⟩
      have := hl3671.len_le
      have hl3671 : RdL Enc.share w3644 ((b3656 :: (b3521 :: [])) ++ O) v3670 ((splitM (List.replicate (((l[0]!).data).length) (0 : UInt8)) ((l[0]!).epoch) ((l[0]!).threshold) ((l[0]!).many) coins).1) := avoid_share hl3671 bx3659
      have hp3503 := hp3503.mv m3648
      have hd3534 := hd3534.mv m3648
      have bx3532 := bx3532.keep k3642 (by simp)
      obtain ⟨F2, rfl⟩ := lit_of (F := F3643) [(2, Value.pointer (some a3498)), (5, vI (0 : Int)), (7, Value.pointer (some ⟨b3521, 0, none⟩)), (48, undef), (8, Value.pointer (some ⟨b3656, 0, none⟩)), (25, Value.tuple #[x3661, vI ((splitM (List.replicate (((l[0]!).data).length) (0 : UInt8)) ((l[0]!).epoch) ((l[0]!).threshold) ((l[0]!).many) coins).2)]), (27, v3650), (29, v3664), (36, v3653), (37, Value.tuple #[x3667, vI ((splitM (List.replicate (((l[0]!).data).length) (0 : UInt8)) ((l[0]!).epoch) ((l[0]!).threshold) ((l[0]!).many) coins).2)]), (38, v3670)] ⟨hF3646 2 (by kernel_rfl), hF3646 5 (by kernel_rfl), hF3646 7 (by kernel_rfl), hF3646 48 (by kernel_rfl), e3657, e3663, e3652, e3666, e3655, e3669, e3672, trivial⟩
      clear hT3645 hF3646
      refine wl_n (o_store1 (v3670) rfl rfl hl3671.oneCell s_38 (by first | assumption | (repeat (first | exact List.mem_cons_self | assumption | apply List.mem_cons_of_mem))) bx3659 (of_decide_eq_true rfl) s3647 fun w3673 s3674 m3675 k3676 bx3677 => (?_))
      have hp3503 := hp3503.mv m3675
      have hl3671 := hl3671.mv m3675
      have hd3534 := hd3534.mv m3675
      have bx3532 := bx3532.keep k3676 (by simp only [List.mem_singleton]; first | omega | exact ne3660)
      refine wl_s (o_extract (vI ((splitM (List.replicate (((l[0]!).data).length) (0 : UInt8)) ((l[0]!).epoch) ((l[0]!).threshold) ((l[0]!).many) coins).2)) rfl rfl (wl_s (o_assign (vI ((splitM (List.replicate (((l[0]!).data).length) (0 : UInt8)) ((l[0]!).epoch) ((l[0]!).threshold) ((l[0]!).many) coins).2)) rfl (wl_nil (thenQ_n (?_))))))
      refine cw_seq (?_)
      refine cw_seq (?_)
      refine cw_region (by kernel_rfl) (wl_s (o_move (vI ((splitM (List.replicate (((l[0]!).data).length) (0 : UInt8)) ((l[0]!).epoch) ((l[0]!).threshold) ((l[0]!).many) coins).2)) rfl (wl_s (o_neq .i64 ((splitM (List.replicate (((l[0]!).data).length) (0 : UInt8)) ((l[0]!).epoch) ((l[0]!).threshold) ((l[0]!).many) coins).2) (0 : Int) rfl rfl (wl_nil (thenQ_n (?_)))))))
      refine cw_cond (((splitM (List.replicate (((l[0]!).data).length) (0 : UInt8)) ((l[0]!).epoch) ((l[0]!).threshold) ((l[0]!).many) coins).2) != (0 : Int)) rfl rfl (fun hc3678 => ?_) (fun hc3678 => ?_)
      ·have hp3679 : (splitM (List.replicate (((l[0]!).data).length) (0 : UInt8)) ((l[0]!).epoch) ((l[0]!).threshold) ((l[0]!).many) coins).2 ≠ (0 : Int) := by first | simpa using hc3678 | (have e := hc3678; simp at e; omega)
       refine cw_seq (?_)
       refine cw_region (by kernel_rfl) (wl_s (o_move (vI ((splitM (List.replicate (((l[0]!).data).length) (0 : UInt8)) ((l[0]!).epoch) ((l[0]!).threshold) ((l[0]!).many) coins).2)) rfl (wl_s (o_assign (Value.slice none 0 0) rfl (wl_s (o_assign (vI ((splitM (List.replicate (((l[0]!).data).length) (0 : UInt8)) ((l[0]!).epoch) ((l[0]!).threshold) ((l[0]!).many) coins).2)) rfl (wl_nil (thenQ_n (?_)))))))))
       refine cw_ret (thenQ_r (end_r rfl (res2 rfl rfl rfl rfl) (?_)))
       have e : (refreshM l coins) = ([], (splitM (List.replicate (((l[0]!).data).length) (0 : UInt8)) ((l[0]!).epoch) ((l[0]!).threshold) ((l[0]!).many) coins).2) := by first | exact refreshM_ok (l := l) (coins := coins) (by unfold refreshBad; ((repeat (first | (refine (if_pos ?_).trans ?_; solve | omega | assumption | (simp only [dbs]; first | done | omega | assumption) | (simp only [*, dbs]; done)) | (refine (if_neg ?_).trans ?_; solve | omega | assumption | (simp only [dbs]; first | done | omega | assumption) | (simp only [*, dbs]; done)))); exact hz2)) rfl | exact refreshM_bad (l := l) (coins := coins) (by unfold refreshBad zeroS; ((repeat (first | (refine (if_pos ?_).trans ?_; solve | omega | assumption | (simp only [dbs]; first | done | omega | assumption) | (simp only [*, dbs]; done)) | (refine (if_neg ?_).trans ?_; solve | omega | assumption | (simp only [dbs]; first | done | omega | assumption) | (simp only [*, dbs]; done)))); rfl)) (by first | assumption | decide)
       exact ⟨_, rfl, s3674.keep, by rw [e]; exact ⟨.slice none 0 0, rfl, RdL.nil _ _ _⟩⟩
      ·have hp3680 : (splitM (List.replicate (((l[0]!).data).length) (0 : UInt8)) ((l[0]!).epoch) ((l[0]!).threshold) ((l[0]!).many) coins).2 = (0 : Int) := by first | simpa using hc3678 | (have e := hc3678; simp at e; omega)
       have hz2 : (zeroS l[0]! coins).2 = 0 := hp3680
       have hzl := zeroS_len hz2
       refine cw_skip (thenQ_n (?_))
       refine cw_seq (?_)
       refine cw_region (by kernel_rfl) (wl_s (o_loadL Try.underlying38 rfl rfl hp3503 fun v3681 hl3682 => (?_)))
       have := hl3682.len_le
       refine wl_s (o_lenR Try.underlying38 rfl hl3682 (?_))
       obtain ⟨B3683, s3684, m3685, hp3686, hk3687⟩ := bx3532.publish (E := Enc.share) (u := (l[0]!)) ⟨_, rfl, hd3534⟩ s3674 (by first | assumption | (repeat (first | exact List.mem_cons_self | assumption | apply List.mem_cons_of_mem)))
       have hin_b3656 : b3656 ∈ B3683 := hk3687 b3656 (by first | assumption | (repeat (first | exact List.mem_cons_self | assumption | apply List.mem_cons_of_mem))) (Ne.symm ne3660)
       have hp3503 := hp3503.mv m3685
       have hl3671 := hl3671.mv m3685
       have bx3677 := bx3677.keep (Keep.refl [] _) (by simp)
       obtain ⟨B3688, s3689, m3690, hp3691, hk3692⟩ := bx3677.publish (E := (Enc.slice Enc.share)) (u := (splitM (List.replicate (((l[0]!).data).length) (0 : UInt8)) ((l[0]!).epoch) ((l[0]!).threshold) ((l[0]!).many) coins).1) ⟨_, rfl, hl3671⟩ s3684 (by first | assumption | (repeat (first | exact List.mem_cons_self | assumption | apply List.mem_cons_of_mem)))
       have hp3503 := hp3503.mv m3690
       have hp3686 := hp3686.mv m3690
       refine wl_s (o_makeFunc (first := []) (captured := [.tmp 2, .tmp 7, .tmp 8]) [] [Value.pointer (some a3498), Value.pointer (some ⟨b3521, 0, none⟩), Value.pointer (some ⟨b3656, 0, none⟩)] rfl rfl (wl_s (o_callK (vs := [vI (l.length : Int), Value.func (.func 62) #[] #[Value.pointer (some a3498), Value.pointer (some ⟨b3521, 0, none⟩), Value.pointer (some ⟨b3656, 0, none⟩)]]) enter_51 (c_collectS (O := B3688 ++ O) (l.length : Int) 62 [Value.pointer (some a3498), Value.pointer (some ⟨b3521, 0, none⟩), Value.pointer (some ⟨b3656, 0, none⟩)] (fun i_ => refrShare l (l[0]!) ((splitM (List.replicate (((l[0]!).data).length) (0 : UInt8)) ((l[0]!).epoch) ((l[0]!).threshold) ((l[0]!).many) coins).1) i_) w3673 enter_62 (fun w'_ O'_ kk_ hs_ hl_ i_  hc_ => c_refresh1 (O := O'_) i_ a3498 l (⟨b3521, 0, none⟩) (l[0]!) (⟨b3656, 0, none⟩) ((splitM (List.replicate (((l[0]!).data).length) (0 : UInt8)) ((l[0]!).epoch) ((l[0]!).threshold) ((l[0]!).many) coins).1) w'_ (hp3503.on hs_ kk_) (hp3686.on hs_ kk_) (hp3691.on hs_ kk_) (by omega) (show _ < (zeroS l[0]! coins).1.length from by omega) (hv.da _ (by omega)) (zeroS_data hz2 (by omega)) (by have := hv.ep i_ (by omega); have := hv.ep0; omega) (by have := hv.ep i_ (by omega); have := hv.ep1; omega) (by omega) hl_) (by first | omega | assumption | (simp; done)) s3689.lt) rfl s3689 fun v3693 w3694 s3695 m3696 k3697 r3698 => (?_))))
       obtain ⟨_, rfl, hl3699⟩ := r3698
       have := hl3699.len_le
       refine wl_s (o_assign (v3693) rfl (wl_nil (thenQ_n (?_))))
       refine cw_seq (?_)
       refine cw_region (by kernel_rfl) (wl_s (o_move (v3693) rfl (wl_s (o_assign (v3693) rfl (wl_s (o_assign (vI (0 : Int)) rfl (wl_nil (thenQ_n (?_)))))))))
       refine cw_ret (end_r rfl (res2 rfl rfl rfl rfl) (?_))
       have e : (refreshM l coins) = ((List.range ((l.length : Int)).toNat).map (fun i_ => refrShare l (l[0]!) ((splitM (List.replicate (((l[0]!).data).length) (0 : UInt8)) ((l[0]!).epoch) ((l[0]!).threshold) ((l[0]!).many) coins).1) i_), (0 : Int)) := by first | exact refreshM_ok (l := l) (coins := coins) (by unfold refreshBad; ((repeat (first | (refine (if_pos ?_).trans ?_; solve | omega | assumption | (simp only [dbs]; first | done | omega | assumption) | (simp only [*, dbs]; done)) | (refine (if_neg ?_).trans ?_; solve | omega | assumption | (simp only [dbs]; first | done | omega | assumption) | (simp only [*, dbs]; done)))); exact hz2)) rfl | exact refreshM_bad (l := l) (coins := coins) (by unfold refreshBad zeroS; ((repeat (first | (refine (if_pos ?_).trans ?_; solve | omega | assumption | (simp only [dbs]; first | done | omega | assumption) | (simp only [*, dbs]; done)) | (refine (if_neg ?_).trans ?_; solve | omega | assumption | (simp only [dbs]; first | done | omega | assumption) | (simp only [*, dbs]; done)))); rfl)) (by first | assumption | decide)
       exact ⟨_, rfl, s3695.keep, by rw [e]; exact ⟨v3693, rfl, hl3699.out⟩⟩

end Go.Proofs.Yteajcgfcnbdmgaa
