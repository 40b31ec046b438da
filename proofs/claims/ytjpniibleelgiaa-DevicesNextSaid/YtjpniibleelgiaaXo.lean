/- Walks, printed by gen.py. -/
import Derived.Test.YtjpniibleelgiaaXk
import Derived.Test.YtjpniibleelgiaaMdD
import Derived.Test.YtjpniibleelgiaaFwQ
set_option linter.unusedSimpArgs false
set_option linter.unusedVariables false
namespace Go.Proofs.Ytjpniibleelgiaa
open Go.Fw Go.RowKit

set_option maxHeartbeats 4000000 in
set_option maxRecDepth 100000 in
theorem c_DevicesNext {O : List Nat} (l_v : Value) (l : List DeviceOp) (copies : Int) (first : Int) (o_cs : List Value) (o : DeviceOp) (w : World) (h_l : RdL Enc.devop w O l_v l) (h_o : Enc.devop.rd w O o_cs o) (hO : ∀ b ∈ O, b < w.heap.size) : CallsK Try.prog 9 [l_v, vI copies, vI first, .agg o_cs.toArray] w (fun v _ => v = .bool (true)) :=  by
 have lim_l := h_l.len_le
 have h_l : RdL Enc.devop w ([] ++ O) l_v l := h_l
 obtain rfl := h_o
 have s0 : St w O w [] := St.start hO
 refine callsK_of 157 Try.func9 rfl rfl (of_decide_eq_true rfl) (fun F0 => ?_)
 refine cw_seq (?_)
 refine cw_region (by kernel_rfl) (wl_s (o_boxR (E := Enc.devop) (Value.agg #[vI o.device, vI o.no, vI o.kind, vI o.copy, vI o.to, vI o.token]) ([vI o.device, vI o.no, vI o.kind, vI o.copy, vI o.to, vI o.token]) o rfl rfl rfl s0 fun a3458 w3459 s3460 m3461 k3462 hp3463 => (?_)))
 have h_l := h_l.mv m3461
 refine wl_s (o_assign (Value.bool false) rfl (wl_nil (thenQ_n (?_))))
 refine cw_seq (?_)
 refine cw_seq (?_)
 refine cw_region (by kernel_rfl) (wl_s (o_callK (vs := []) enter_25 (c_sane42 (O := [] ++ O) w3459 s3460.lt) rfl s3460 fun v3464 w3465 s3466 m3467 k3468 r3469 => (?_)))
 obtain rfl := r3469
 have h_l := h_l.mv m3467
 have hp3463 := hp3463.mv m3467
 refine wl_s (o_not true rfl (wl_nil (thenQ_n (?_))))
 refine cw_cond false rfl rfl (fun h => by cases h) (fun _ => ?_)
 refine cw_skip (thenQ_n (?_))
 refine cw_seq (?_)
 refine cw_seq (?_)
 refine cw_region (by kernel_rfl) (wl_s (o_move (l_v) rfl (wl_s (o_callK (vs := [l_v]) enter_26 (c_few (O := [] ++ O) l_v l w3465 h_l s3466.lt) rfl s3466 fun v3470 w3471 s3472 m3473 k3474 r3475 => (?_)))))
 obtain rfl := r3475
 have h_l := h_l.mv m3473
 have hp3463 := hp3463.mv m3473
 refine wl_s (o_not (decide ((l.length : Int) ≤ 40)) rfl (wl_s (o_move (Value.bool (!(decide ((l.length : Int) ≤ 40)))) rfl (?_))))
 cases hb3476 : (!(decide ((l.length : Int) ≤ 40)))
 ·have hp3477 : (l.length : Int) ≤ 40 := by first | simpa using hb3476 | (have e := hb3476; rw [Bool.not_eq_true'] at e; exact e) | (have e := hb3476; rw [Bool.not_eq_false'] at e; exact e) | (have e := hb3476; simp at e; omega)
  refine wl_t rfl (o_move (vI copies) rfl (wl_t rfl (o_gtr .i64 copies (50 : Int) rfl rfl (wl_s (o_pickF (Value.bool (decide ((50 : Int) < copies))) rfl rfl (wl_nil (thenQ_n (?_))))))))
  refine cw_cond (decide ((50 : Int) < copies)) rfl rfl (fun hc3478 => ?_) (fun hc3478 => ?_)
  ·have hp3479 : (50 : Int) < copies := by first | simpa using hc3478 | (have e := hc3478; simp at e; omega)
   refine cw_seq (?_)
   refine cw_region (by kernel_rfl) (wl_s (o_assign (Value.bool true) rfl (wl_nil (thenQ_n (?_)))))
   refine cw_ret (thenQ_r (end_r rfl (res1 rfl rfl rfl) (?_)))
   exact ⟨_, rfl, s3472.keep, rfl⟩
  ·have hp3480 : copies ≤ (50 : Int) := by first | simpa using hc3478 | (have e := hc3478; simp at e; omega)
   refine cw_skip (thenQ_n (?_))
   refine cw_seq (?_)
   refine cw_region (by kernel_rfl) (wl_s (o_move (l_v) rfl (wl_s (o_move (vI copies) rfl (wl_s (o_move (vI first) rfl (wl_s (o_callK (vs := [l_v, vI copies, vI first]) enter_24 (c_state (O := [] ++ O) l_v l copies first w3471 h_l s3472.lt) rfl s3472 fun v3481 w3482 s3483 m3484 k3485 r3486 => (?_)))))))))
   obtain ⟨x3487, rfl, hl3488⟩ := r3486
   have := hl3488.len_le
   have h_l := h_l.mv m3484
   have hp3463 := hp3463.mv m3484
   refine wl_s (o_move (Value.tuple #[x3487, vI ((stateM l copies first).2)]) rfl (wl_s (o_extract (x3487) rfl rfl (wl_s (o_extract (vI ((stateM l copies first).2)) rfl rfl (wl_s (o_assign (x3487) rfl (wl_s (o_assign (vI ((stateM l copies first).2)) rfl (wl_nil (thenQ_n (?_))))))))))))
   refine cw_seq (?_)
   refine cw_region (by kernel_rfl) (wl_s (o_move (l_v) rfl (wl_s (o_loadS Try.underlying40 rfl s_40 rfl hp3463 fun cs3489 hs3490 => (?_)))))
   obtain rfl := hs3490
   refine wl_s (o_callK (vs := [l_v, Value.agg #[vI o.device, vI o.no, vI o.kind, vI o.copy, vI o.to, vI o.token]]) enter_23 (c_add (O := [] ++ O) l_v l [vI o.device, vI o.no, vI o.kind, vI o.copy, vI o.to, vI o.token] o w3482 h_l rfl s3483.lt) rfl s3483 fun v3491 w3492 s3493 m3494 k3495 r3496 => (?_))
   obtain ⟨x3497, rfl, hl3498⟩ := r3496
   have := hl3498.len_le
   have h_l := h_l.mv m3494
   have hp3463 := hp3463.mv m3494
   have hl3488 := hl3488.mv m3494
   refine wl_s (o_move (Value.tuple #[x3497, vI ((addM l o).2)]) rfl (wl_s (o_extract (x3497) rfl rfl (wl_s (o_extract (vI ((addM l o).2)) rfl rfl (wl_s (o_assign (x3497) rfl (wl_s (o_assign (vI ((addM l o).2)) rfl (wl_nil (thenQ_n (?_))))))))))))
   refine cw_seq (?_)
   refine cw_seq (?_)
   refine cw_region (by kernel_rfl) (wl_s (o_move (vI ((stateM l copies first).2)) rfl (wl_s (o_neq .i64 ((stateM l copies first).2) (0 : Int) rfl rfl (wl_s (o_move (Value.bool (((stateM l copies first).2) != (0 : Int))) rfl (?_)))))))
   cases hb3499 : (((stateM l copies first).2) != (0 : Int))
   ·have hp3500 : (stateM l copies first).2 = (0 : Int) := by first | simpa using hb3499 | (have e := hb3499; simp at e; omega)
    have hst : (stateM l copies first).2 = 0 := hp3500
    have hsl := state_len hst
    have hsb := (state_ok hst).2.2
    refine wl_t rfl (o_move (vI ((addM l o).2)) rfl (wl_t rfl (o_neq .i64 ((addM l o).2) (0 : Int) rfl rfl (wl_s (o_pickF (Value.bool (((addM l o).2) != (0 : Int))) rfl rfl (wl_s (o_move (Value.bool (((addM l o).2) != (0 : Int))) rfl (?_))))))))
    cases hb3501 : (((addM l o).2) != (0 : Int))
    ·have hp3502 : (addM l o).2 = (0 : Int) := by first | simpa using hb3501 | (have e := hb3501; simp at e; omega)
     have hadd : (addM l o).2 = 0 := hp3502
     have hcb := nx_copy hadd
     have hys := nx_state hst hadd
     have hyl := state_len hys
     refine wl_t rfl (o_fieldR 3 f_40_3 (o.copy) rfl hp3463 (fun _ _ _ h => Enc_devop_f3 h) fun a3503 hp3504 => (wl_t rfl (o_loadI Try.underlying3 rfl rfl hp3504 (wl_t rfl (o_move (vI copies) rfl (wl_t rfl (o_geq .i64 o.copy copies rfl rfl (wl_s (o_pickF (Value.bool (decide (copies ≤ o.copy))) rfl rfl (wl_nil (thenQ_n (?_))))))))))))
     refine cw_cond (decide (copies ≤ o.copy)) rfl rfl (fun hc3505 => ?_) (fun hc3505 => ?_)
     ·have hp3506 : copies ≤ o.copy := by first | simpa using hc3505 | (have e := hc3505; simp at e; omega)
      refine cw_seq (?_)
      refine cw_region (by kernel_rfl) (wl_s (o_assign (Value.bool true) rfl (wl_nil (thenQ_n (?_)))))
      refine cw_ret (thenQ_r (end_r rfl (res1 rfl rfl rfl) (?_)))
      exact ⟨_, rfl, s3493.keep, rfl⟩
     ·have hp3507 : o.copy < copies := by first | simpa using hc3505 | (have e := hc3505; simp at e; omega)
      refine cw_skip (thenQ_n (?_))
      refine cw_seq (?_)
      refine cw_region (by kernel_rfl) (wl_s (o_move (x3497) rfl (wl_s (o_move (vI copies) rfl (wl_s (o_move (vI first) rfl (wl_s (o_callK (vs := [x3497, vI copies, vI first]) enter_24 (c_state (O := [] ++ O) x3497 ((addM l o).1) copies first w3492 hl3498 s3493.lt) rfl s3493 fun v3508 w3509 s3510 m3511 k3512 r3513 => (?_)))))))))
      obtain ⟨x3514, rfl, hl3515⟩ := r3513
      have := hl3515.len_le
      have h_l := h_l.mv m3511
      have hp3463 := hp3463.mv m3511
      have hl3488 := hl3488.mv m3511
      refine wl_s (o_move (Value.tuple #[x3514, vI ((stateM ((addM l o).1) copies first).2)]) rfl (wl_s (o_extract (x3514) rfl rfl (wl_s (o_extract (vI ((stateM ((addM l o).1) copies first).2)) rfl rfl (wl_s (o_assign (x3514) rfl (wl_s (o_assign (vI ((stateM ((addM l o).1) copies first).2)) rfl (wl_nil (thenQ_n (?_))))))))))))
      refine cw_seq (?_)
      refine cw_seq (?_)
      refine cw_region (by kernel_rfl) (wl_s (o_move (vI ((stateM ((addM l o).1) copies first).2)) rfl (wl_s (o_neq .i64 ((stateM ((addM l o).1) copies first).2) (0 : Int) rfl rfl (wl_s (o_move (Value.bool (((stateM ((addM l o).1) copies first).2) != (0 : Int))) rfl (?_)))))))
      have hb3516 : (((stateM ((addM l o).1) copies first).2) != (0 : Int)) = false := (by rw [hys]; rfl)
      rw [hb3516]
      refine wl_t rfl (o_move (x3514) rfl (wl_t rfl (o_lenR Try.underlying43 rfl hl3515 (wl_t rfl (o_move (vI copies) rfl (wl_t rfl (o_neq .i64 (((stateM ((addM l o).1) copies first).1).length : Int) copies rfl rfl (wl_s (o_pickF (Value.bool ((((stateM ((addM l o).1) copies first).1).length : Int) != copies)) rfl rfl (wl_nil (thenQ_n (?_))))))))))))
      have hb3517 : ((((stateM ((addM l o).1) copies first).1).length : Int) != copies) = false := (by rw [hyl]; simp; omega)
      rw [hb3517]
      refine cw_cond false rfl rfl (fun h => by cases h) (fun _ => ?_)
      refine cw_skip (thenQ_n (?_))
      refine cw_seq (?_)
      refine cw_seq (?_)
      refine cw_region (by kernel_rfl) (wl_s (o_move (x3514) rfl (wl_s (o_lenR Try.underlying43 rfl hl3515 (wl_s (o_move (vI (0 : Int)) rfl (wl_nil (thenQ_n (?_)))))))))
      refine cw_block (?_)
      refine cw_loop (fun mI FI wI => ∃ (k : Nat) (B : List Nat), k ≤ ((stateM (addM l o).1 copies first).1).length ∧ mI = ((stateM (addM l o).1 copies first).1).length - k ∧ (∃ F1, FI = upds F1 [(0, l_v), (7, Value.pointer (some a3458)), (9, x3487), (13, x3514), (71, vI (((stateM ((addM l o).1) copies first).1).length : Int)), (72, vI ((k : Nat) : Int)), (157, undef)]) ∧ St w O wI B ∧ RdL Enc.devop wI (B ++ O) (l_v) (l) ∧ PT Enc.devop wI (B ++ O) (.pointer (some a3458)) (o) ∧ RdL Enc.holding wI (B ++ O) (x3487) ((stateM l copies first).1) ∧ RdL Enc.holding wI (B ++ O) (x3514) ((stateM ((addM l o).1) copies first).1)) (((stateM (addM l o).1 copies first).1).length - (0)) ?_ ?_
      ·exact ⟨(0), [], (by omega), rfl, ⟨_, upds_self _ ⟨rfl, rfl, rfl, rfl, rfl, (by first | rfl | exact congrArg (Value.int _) (by first | omega | (simp))), rfl, trivial⟩⟩, s3510, h_l, hp3463, hl3488, hl3515⟩
      ·intro ml0 F wl0 hI
       clear h_l hp3463 hl3488 hl3515
       obtain ⟨k, Bl0, hr0_0, hm0, ⟨Fl0, rfl⟩, sl0, h_l, hp3463, hl3488, hl3515⟩ := hI
       refine cw_seq (?_)
       refine cw_region (by kernel_rfl) (wl_s (o_lss .i64 ((k : Nat) : Int) (((stateM ((addM l o).1) copies first).1).length : Int) rfl rfl (wl_nil (thenQ_n (?_)))))
       refine cw_seq (?_)
       refine cw_cond (decide (((k : Nat) : Int) < (((stateM ((addM l o).1) copies first).1).length : Int))) rfl rfl (fun hc3518 => ?_) (fun hc3518 => ?_)
       ·have hp3519 : ((k : Nat) : Int) < (((stateM ((addM l o).1) copies first).1).length : Int) := by first | simpa using hc3518 | (have e := hc3518; simp at e; omega)
        refine cw_skip (thenQ_n (?_))
        refine cw_seq (?_)
        refine cw_block (?_)
        refine cw_seq (?_)
        refine cw_region (by kernel_rfl) (wl_s (o_move (vI ((k : Nat) : Int)) rfl (wl_s (o_assign (vI ((k : Nat) : Int)) rfl (wl_nil (thenQ_n (?_)))))))
        refine cw_seq (?_)
        cases hb3520 : (((k : Nat) : Int) != o.copy)
        ·have hp3521 : ((k : Nat) : Int) = o.copy := by first | simpa using hb3520 | (have e := hb3520; simp at e; omega)
         refine cw_draw' 13 _ _ [isV (vI ((k : Nat) : Int)), fun (vT : Value) (wT : World) => ∃ aT, vT = .pointer (some aT) ∧ PT Enc.int wT (Bl0 ++ O) (.pointer (some aT)) (o.copy), isV (vI o.copy), isV (Value.bool false), isV (Value.bool false), isV undef, isV undef, isV undef, isV undef, isV undef, isV undef, isV undef, isV undef] (by kernel_rfl) (by kernel_rfl) (by kernel_rfl) (by kernel_rfl) rfl rfl ⟨kI, fun _ _ _ ⟨a, e, h⟩ k => ⟨a, e, h.mv (Mv.of_keep k)⟩, kI, kI, kI, kI, kI, kI, kI, kI, kI, kI, kI, trivial⟩ ⟨?_, ?_, ?_, ?_, ?_, ?_, ?_, ?_, ?_, ?_, ?_, ?_, ?_, trivial⟩ ?_
         ·intro F1 w1 k1 hf hd
          obtain ⟨F2, rfl⟩ := lit_of (F := F1) [(15, vI ((k : Nat) : Int))] ⟨hf 15 (by kernel_rfl), trivial⟩
          exact sp_plain rfl ((o_move (vI ((k : Nat) : Int)) rfl (⟨(Keep.refl _ _), rfl⟩)))
         ·intro F1 w1 k1 hf hd
          have k0 := (Keep.drew [] wl0).trans k1
          have m1 : Mv Bl0 wl0 Bl0 w1 := Mv.of_keep k0
          have hp3463 := hp3463.mv m1
          obtain ⟨F2, rfl⟩ := lit_of (F := F1) [(7, Value.pointer (some a3458))] ⟨hf 7 (by kernel_rfl), trivial⟩
          exact sp_plain rfl ((o_fieldR 3 f_40_3 (o.copy) rfl hp3463 (fun _ _ _ h => Enc_devop_f3 h) fun a3522 hp3523 => (⟨(Keep.refl _ _), ⟨a3522, rfl, hp3523⟩⟩)))
         ·intro F1 w1 k1 hf hd
          obtain ⟨a3524, e3526, hp3525⟩ : ∃ aX_, F1 76 = .pointer (some aX_) ∧ PT Enc.int w1 (Bl0 ++ O) (.pointer (some aX_)) (o.copy) := hd 1 76 (by kernel_rfl)
          obtain ⟨F2, rfl⟩ := lit_of (F := F1) [(76, Value.pointer (some a3524))] ⟨e3526, trivial⟩
          exact sp_plain rfl ((o_loadI Try.underlying3 rfl rfl hp3525 (⟨(Keep.refl _ _), rfl⟩)))
         ·intro F1 w1 k1 hf hd
          obtain ⟨F2, rfl⟩ := lit_of (F := F1) [(75, vI ((k : Nat) : Int)), (77, vI o.copy)] ⟨hd 0 75 (by kernel_rfl), hd 2 77 (by kernel_rfl), trivial⟩
          refine sp_plain rfl ((o_neq .i64 ((k : Nat) : Int) o.copy rfl rfl (?_)))
          exact ⟨(Keep.refl _ _), congrArg Value.bool (hb3520)⟩
         ·intro F1 w1 k1 hf hd
          obtain ⟨F2, rfl⟩ := lit_of (F := F1) [(78, Value.bool false)] ⟨hd 3 78 (by kernel_rfl), trivial⟩
          exact sp_plain rfl ((o_move (Value.bool false) rfl (⟨(Keep.refl _ _), rfl⟩)))
         ·intro F1 w1 k1 hf hd
          exact sp_skipD rfl rfl (hd 4 79 (by kernel_rfl)) rfl rfl
         ·intro F1 w1 k1 hf hd
          exact sp_skipD rfl rfl (hd 4 79 (by kernel_rfl)) rfl rfl
         ·intro F1 w1 k1 hf hd
          exact sp_skipD rfl rfl (hd 4 79 (by kernel_rfl)) rfl rfl
         ·intro F1 w1 k1 hf hd
          exact sp_skipD rfl rfl (hd 4 79 (by kernel_rfl)) rfl rfl
         ·intro F1 w1 k1 hf hd
          exact sp_skipD rfl rfl (hd 4 79 (by kernel_rfl)) rfl rfl
         ·intro F1 w1 k1 hf hd
          exact sp_skipD rfl rfl (hd 4 79 (by kernel_rfl)) rfl rfl
         ·intro F1 w1 k1 hf hd
          exact sp_skipD rfl rfl (hd 4 79 (by kernel_rfl)) rfl rfl
         ·intro F1 w1 k1 hf hd
          exact sp_skipD rfl rfl (hd 4 79 (by kernel_rfl)) rfl rfl
         intro F3528 w3529 k3527 hT3530 hF3531
         have s3532 := sl0.call k3527
         have m3533 : Mv Bl0 wl0 Bl0 w3529 := Mv.of_keep k3527
         have h_l := h_l.mv m3533
         have hp3463 := hp3463.mv m3533
         have hl3488 := hl3488.mv m3533
         have hl3515 := hl3515.mv m3533
         obtain ⟨F2, rfl⟩ := lit_of (F := F3528) [(0, l_v), (7, Value.pointer (some a3458)), (9, x3487), (13, x3514), (71, vI (((stateM ((addM l o).1) copies first).1).length : Int)), (72, vI ((k : Nat) : Int)), (157, undef), (79, Value.bool false)] ⟨hF3531 0 (by kernel_rfl), hF3531 7 (by kernel_rfl), hF3531 9 (by kernel_rfl), hF3531 13 (by kernel_rfl), hF3531 71 (by kernel_rfl), hF3531 72 (by kernel_rfl), hF3531 157 (by kernel_rfl), hT3530 4 79 (by kernel_rfl) (by decide), trivial⟩
         clear hT3530 hF3531
         refine wl_k rfl (wl_s (o_pickF (Value.bool false) rfl rfl (wl_nil (thenQ_n (?_)))))
         refine cw_cond false rfl rfl (fun h => by cases h) (fun _ => ?_)
         refine cw_skip (blockQ_n (thenQ_n (?_)))
         refine cw_region (by kernel_rfl) (wl_s (o_add .i64 ((k : Nat) : Int) (1 : Int) (((k + 1 : Nat) : Int)) rfl rfl (w64 (by omega) (by omega)) (wl_s (o_move (vI ((k + 1 : Nat) : Int)) rfl (wl_nil (thenQ_n (?_)))))))
         exact ⟨_, (by omega), (k + 1), Bl0, (by omega), rfl, ⟨_, upds_self _ ⟨rfl, rfl, rfl, rfl, rfl, (by first | rfl | exact congrArg (Value.int _) (by first | omega | (simp))), rfl, trivial⟩⟩, s3532, h_l, hp3463, hl3488, hl3515⟩
        ·have hp3536 : ((k : Nat) : Int) ≠ o.copy := by first | simpa using hb3520 | (have e := hb3520; simp at e; omega)
         refine cw_draw' 13 _ _ [isV (vI ((k : Nat) : Int)), fun (vT : Value) (wT : World) => ∃ aT, vT = .pointer (some aT) ∧ PT Enc.int wT (Bl0 ++ O) (.pointer (some aT)) (o.copy), isV (vI o.copy), isV (Value.bool true), isV (Value.bool true), fun (vT : Value) (wT : World) => RdL Enc.holding wT (Bl0 ++ O) vT ((stateM ((addM l o).1) copies first).1), isV (vI ((k : Nat) : Int)), fun (vT : Value) (wT : World) => ∃ aT, vT = .pointer (some aT) ∧ PT Enc.holding wT (Bl0 ++ O) (.pointer (some aT)) (((stateM ((addM l o).1) copies first).1)[k]!), isV (Value.agg #[vI ((((stateM ((addM l o).1) copies first).1)[k]!).copy), vI ((((stateM ((addM l o).1) copies first).1)[k]!).device), vI ((((stateM ((addM l o).1) copies first).1)[k]!).token), Value.bool ((((stateM ((addM l o).1) copies first).1)[k]!).shown)]), fun (vT : Value) (wT : World) => RdL Enc.holding wT (Bl0 ++ O) vT ((stateM l copies first).1), isV (vI ((k : Nat) : Int)), fun (vT : Value) (wT : World) => ∃ aT, vT = .pointer (some aT) ∧ PT Enc.holding wT (Bl0 ++ O) (.pointer (some aT)) (((stateM l copies first).1)[k]!), isV (Value.agg #[vI ((((stateM l copies first).1)[k]!).copy), vI ((((stateM l copies first).1)[k]!).device), vI ((((stateM l copies first).1)[k]!).token), Value.bool ((((stateM l copies first).1)[k]!).shown)])] (by kernel_rfl) (by kernel_rfl) (by kernel_rfl) (by kernel_rfl) rfl rfl ⟨kI, fun _ _ _ ⟨a, e, h⟩ k => ⟨a, e, h.mv (Mv.of_keep k)⟩, kI, kI, kI, fun _ _ _ h k => h.mv (Mv.of_keep k), kI, fun _ _ _ ⟨a, e, h⟩ k => ⟨a, e, h.mv (Mv.of_keep k)⟩, kI, fun _ _ _ h k => h.mv (Mv.of_keep k), kI, fun _ _ _ ⟨a, e, h⟩ k => ⟨a, e, h.mv (Mv.of_keep k)⟩, kI, trivial⟩ ⟨?_, ?_, ?_, ?_, ?_, ?_, ?_, ?_, ?_, ?_, ?_, ?_, ?_, trivial⟩ ?_
         ·intro F1 w1 k1 hf hd
          obtain ⟨F2, rfl⟩ := lit_of (F := F1) [(15, vI ((k : Nat) : Int))] ⟨hf 15 (by kernel_rfl), trivial⟩
          exact sp_plain rfl ((o_move (vI ((k : Nat) : Int)) rfl (⟨(Keep.refl _ _), rfl⟩)))
         ·intro F1 w1 k1 hf hd
          have k0 := (Keep.drew [] wl0).trans k1
          have m1 : Mv Bl0 wl0 Bl0 w1 := Mv.of_keep k0
          have hp3463 := hp3463.mv m1
          obtain ⟨F2, rfl⟩ := lit_of (F := F1) [(7, Value.pointer (some a3458))] ⟨hf 7 (by kernel_rfl), trivial⟩
          exact sp_plain rfl ((o_fieldR 3 f_40_3 (o.copy) rfl hp3463 (fun _ _ _ h => Enc_devop_f3 h) fun a3537 hp3538 => (⟨(Keep.refl _ _), ⟨a3537, rfl, hp3538⟩⟩)))
         ·intro F1 w1 k1 hf hd
          obtain ⟨a3539, e3541, hp3540⟩ : ∃ aX_, F1 76 = .pointer (some aX_) ∧ PT Enc.int w1 (Bl0 ++ O) (.pointer (some aX_)) (o.copy) := hd 1 76 (by kernel_rfl)
          obtain ⟨F2, rfl⟩ := lit_of (F := F1) [(76, Value.pointer (some a3539))] ⟨e3541, trivial⟩
          exact sp_plain rfl ((o_loadI Try.underlying3 rfl rfl hp3540 (⟨(Keep.refl _ _), rfl⟩)))
         ·intro F1 w1 k1 hf hd
          obtain ⟨F2, rfl⟩ := lit_of (F := F1) [(75, vI ((k : Nat) : Int)), (77, vI o.copy)] ⟨hd 0 75 (by kernel_rfl), hd 2 77 (by kernel_rfl), trivial⟩
          refine sp_plain rfl ((o_neq .i64 ((k : Nat) : Int) o.copy rfl rfl (?_)))
          exact ⟨(Keep.refl _ _), congrArg Value.bool (hb3520)⟩
         ·intro F1 w1 k1 hf hd
          obtain ⟨F2, rfl⟩ := lit_of (F := F1) [(78, Value.bool true)] ⟨hd 3 78 (by kernel_rfl), trivial⟩
          exact sp_plain rfl ((o_move (Value.bool true) rfl (⟨(Keep.refl _ _), rfl⟩)))
         ·intro F1 w1 k1 hf hd
          have k0 := (Keep.drew [] wl0).trans k1
          have m1 : Mv Bl0 wl0 Bl0 w1 := Mv.of_keep k0
          have hl3515 := hl3515.mv m1
          obtain ⟨F2, rfl⟩ := lit_of (F := F1) [(13, x3514), (79, Value.bool true)] ⟨hf 13 (by kernel_rfl), hd 4 79 (by kernel_rfl), trivial⟩
          exact sp_take rfl rfl ((o_move (x3514) rfl (⟨(Keep.refl _ _), hl3515⟩)))
         ·intro F1 w1 k1 hf hd
          obtain ⟨F2, rfl⟩ := lit_of (F := F1) [(15, vI ((k : Nat) : Int)), (79, Value.bool true)] ⟨hf 15 (by kernel_rfl), hd 4 79 (by kernel_rfl), trivial⟩
          exact sp_take rfl rfl ((o_move (vI ((k : Nat) : Int)) rfl (⟨(Keep.refl _ _), rfl⟩)))
         ·intro F1 w1 k1 hf hd
          obtain ⟨v3542, e3544, hl3543⟩ : ∃ v, F1 80 = v ∧ RdL Enc.holding w1 (Bl0 ++ O) v ((stateM ((addM l o).1) copies first).1) := ⟨_, rfl, hd 5 80 (by kernel_rfl)⟩
          have := hl3543.len_le
          obtain ⟨F2, rfl⟩ := lit_of (F := F1) [(79, Value.bool true), (80, v3542), (81, vI ((k : Nat) : Int))] ⟨hd 4 79 (by kernel_rfl), e3544, hd 6 81 (by kernel_rfl), trivial⟩
          exact sp_take rfl rfl ((o_idx Try.underlying43 s_47 .i64 ((k : Nat) : Int) k rfl rfl rfl hl3543 (by omega) fun a3545 hp3546 => (⟨(Keep.refl _ _), ⟨a3545, rfl, hp3546⟩⟩)))
         ·intro F1 w1 k1 hf hd
          obtain ⟨a3547, e3549, hp3548⟩ : ∃ aX_, F1 82 = .pointer (some aX_) ∧ PT Enc.holding w1 (Bl0 ++ O) (.pointer (some aX_)) (((stateM ((addM l o).1) copies first).1)[k]!) := hd 7 82 (by kernel_rfl)
          obtain ⟨F2, rfl⟩ := lit_of (F := F1) [(79, Value.bool true), (82, Value.pointer (some a3547))] ⟨hd 4 79 (by kernel_rfl), e3549, trivial⟩
          refine sp_take rfl rfl ((o_loadS Try.underlying47 rfl s_47 rfl hp3548 fun cs3550 hs3551 => (?_)))
          obtain rfl := hs3551
          exact ⟨(Keep.refl _ _), rfl⟩
         ·intro F1 w1 k1 hf hd
          have k0 := (Keep.drew [] wl0).trans k1
          have m1 : Mv Bl0 wl0 Bl0 w1 := Mv.of_keep k0
          have hl3488 := hl3488.mv m1
          obtain ⟨F2, rfl⟩ := lit_of (F := F1) [(9, x3487), (79, Value.bool true)] ⟨hf 9 (by kernel_rfl), hd 4 79 (by kernel_rfl), trivial⟩
          exact sp_take rfl rfl ((o_move (x3487) rfl (⟨(Keep.refl _ _), hl3488⟩)))
         ·intro F1 w1 k1 hf hd
          obtain ⟨F2, rfl⟩ := lit_of (F := F1) [(15, vI ((k : Nat) : Int)), (79, Value.bool true)] ⟨hf 15 (by kernel_rfl), hd 4 79 (by kernel_rfl), trivial⟩
          exact sp_take rfl rfl ((o_move (vI ((k : Nat) : Int)) rfl (⟨(Keep.refl _ _), rfl⟩)))
         ·intro F1 w1 k1 hf hd
          obtain ⟨v3552, e3554, hl3553⟩ : ∃ v, F1 84 = v ∧ RdL Enc.holding w1 (Bl0 ++ O) v ((stateM l copies first).1) := ⟨_, rfl, hd 9 84 (by kernel_rfl)⟩
          have := hl3553.len_le
          obtain ⟨F2, rfl⟩ := lit_of (F := F1) [(79, Value.bool true), (84, v3552), (85, vI ((k : Nat) : Int))] ⟨hd 4 79 (by kernel_rfl), e3554, hd 10 85 (by kernel_rfl), trivial⟩
          exact sp_take rfl rfl ((o_idx Try.underlying43 s_47 .i64 ((k : Nat) : Int) k rfl rfl rfl hl3553 (by omega) fun a3555 hp3556 => (⟨(Keep.refl _ _), ⟨a3555, rfl, hp3556⟩⟩)))
         ·intro F1 w1 k1 hf hd
          obtain ⟨a3557, e3559, hp3558⟩ : ∃ aX_, F1 86 = .pointer (some aX_) ∧ PT Enc.holding w1 (Bl0 ++ O) (.pointer (some aX_)) (((stateM l copies first).1)[k]!) := hd 11 86 (by kernel_rfl)
          obtain ⟨F2, rfl⟩ := lit_of (F := F1) [(79, Value.bool true), (86, Value.pointer (some a3557))] ⟨hd 4 79 (by kernel_rfl), e3559, trivial⟩
          refine sp_take rfl rfl ((o_loadS Try.underlying47 rfl s_47 rfl hp3558 fun cs3560 hs3561 => (?_)))
          obtain rfl := hs3561
          exact ⟨(Keep.refl _ _), rfl⟩
         intro F3563 w3564 k3562 hT3565 hF3566
         have s3567 := sl0.call k3562
         have m3568 : Mv Bl0 wl0 Bl0 w3564 := Mv.of_keep k3562
         have h_l := h_l.mv m3568
         have hp3463 := hp3463.mv m3568
         have hl3488 := hl3488.mv m3568
         have hl3515 := hl3515.mv m3568
         obtain ⟨F2, rfl⟩ := lit_of (F := F3563) [(0, l_v), (7, Value.pointer (some a3458)), (9, x3487), (13, x3514), (71, vI (((stateM ((addM l o).1) copies first).1).length : Int)), (72, vI ((k : Nat) : Int)), (157, undef), (79, Value.bool true), (83, Value.agg #[vI ((((stateM ((addM l o).1) copies first).1)[k]!).copy), vI ((((stateM ((addM l o).1) copies first).1)[k]!).device), vI ((((stateM ((addM l o).1) copies first).1)[k]!).token), Value.bool ((((stateM ((addM l o).1) copies first).1)[k]!).shown)]), (87, Value.agg #[vI ((((stateM l copies first).1)[k]!).copy), vI ((((stateM l copies first).1)[k]!).device), vI ((((stateM l copies first).1)[k]!).token), Value.bool ((((stateM l copies first).1)[k]!).shown)])] ⟨hF3566 0 (by kernel_rfl), hF3566 7 (by kernel_rfl), hF3566 9 (by kernel_rfl), hF3566 13 (by kernel_rfl), hF3566 71 (by kernel_rfl), hF3566 72 (by kernel_rfl), hF3566 157 (by kernel_rfl), hT3565 4 79 (by kernel_rfl) (by decide), hT3565 8 83 (by kernel_rfl) (by decide), hT3565 12 87 (by kernel_rfl) (by decide), trivial⟩
         clear hT3565 hF3566
         refine wl_t rfl (o_neqF (ks := [true, true, true, false]) [.inl ((((stateM ((addM l o).1) copies first).1)[k]!).copy), .inl ((((stateM ((addM l o).1) copies first).1)[k]!).device), .inl ((((stateM ((addM l o).1) copies first).1)[k]!).token), .inr ((((stateM ((addM l o).1) copies first).1)[k]!).shown)] [.inl ((((stateM l copies first).1)[k]!).copy), .inl ((((stateM l copies first).1)[k]!).device), .inl ((((stateM l copies first).1)[k]!).token), .inr ((((stateM l copies first).1)[k]!).shown)] str_holding flat_holding rfl rfl rfl rfl (congrArg not (cs_holding (((stateM ((addM l o).1) copies first).1)[k]!) (((stateM l copies first).1)[k]!))) (wl_s (o_pickT (Value.bool (!((((stateM ((addM l o).1) copies first).1)[k]!) == (((stateM l copies first).1)[k]!)))) rfl rfl (wl_nil (thenQ_n (?_))))))
         have hb3571 : (!((((stateM ((addM l o).1) copies first).1)[k]!) == (((stateM l copies first).1)[k]!))) = false := (by rw [show ((((stateM ((addM l o).1) copies first).1)[k]!) == (((stateM l copies first).1)[k]!)) = true from (by rw [nx_other hst hadd (by omega) (by assumption)]; exact beq_self_eq_true _)]; rfl)
         rw [hb3571]
         refine cw_cond false rfl rfl (fun h => by cases h) (fun _ => ?_)
         refine cw_skip (blockQ_n (thenQ_n (?_)))
         refine cw_region (by kernel_rfl) (wl_s (o_add .i64 ((k : Nat) : Int) (1 : Int) (((k + 1 : Nat) : Int)) rfl rfl (w64 (by omega) (by omega)) (wl_s (o_move (vI ((k + 1 : Nat) : Int)) rfl (wl_nil (thenQ_n (?_)))))))
         exact ⟨_, (by omega), (k + 1), Bl0, (by omega), rfl, ⟨_, upds_self _ ⟨rfl, rfl, rfl, rfl, rfl, (by first | rfl | exact congrArg (Value.int _) (by first | omega | (simp))), rfl, trivial⟩⟩, s3567, h_l, hp3463, hl3488, hl3515⟩
       ·have hp3572 : (((stateM ((addM l o).1) copies first).1).length : Int) ≤ ((k : Nat) : Int) := by first | simpa using hc3518 | (have e := hc3518; simp at e; omega)
        refine cw_exit (thenQ_x (thenQ_x (blockQ_x (thenQ_n (?_)))))
        refine cw_cut (fun FI wI => ∃ (bnc101_16 : Nat) (bnc101_17 : Nat) (B : List Nat), True ∧ (∃ F1, FI = upds F1 [(0, l_v), (7, Value.pointer (some a3458)), (16, Value.pointer (some ⟨bnc101_16, 0, none⟩)), (17, Value.pointer (some ⟨bnc101_17, 0, none⟩)), (157, undef)]) ∧ St w O wI B ∧ RdL Enc.devop wI (B ++ O) (l_v) (l) ∧ PT Enc.devop wI (B ++ O) (.pointer (some a3458)) (o) ∧ Box wI bnc101_16 47 [vI (((stateM l copies first).1)[o.copy.toNat]!.copy), vI (((stateM l copies first).1)[o.copy.toNat]!.device), vI (((stateM l copies first).1)[o.copy.toNat]!.token), Value.bool (((stateM l copies first).1)[o.copy.toNat]!.shown)] ∧ bnc101_16 ∈ B ∧ Box wI bnc101_17 47 [vI (((stateM (addM l o).1 copies first).1)[o.copy.toNat]!.copy), vI (((stateM (addM l o).1 copies first).1)[o.copy.toNat]!.device), vI (((stateM (addM l o).1 copies first).1)[o.copy.toNat]!.token), Value.bool (((stateM (addM l o).1 copies first).1)[o.copy.toNat]!.shown)] ∧ bnc101_17 ∈ B ∧ NeB bnc101_16 bnc101_17) ?_ ?_
        ·refine cw_drawUN 12 [5, 6, 7, 8, 9] [[9], [8, 9], [5, 8, 9], [7, 8, 9], [5, 7, 8, 9], [6, 7, 8, 9], [6, 5, 7, 8, 9]] (by intro c F d v w hd; simp only [thenQ, blockQ]; exact qp_end c F d v w hd) _ _ _ [fun _ => fun (vT : Value) (_ : World) => RdL Enc.holding wl0 (Bl0 ++ O) vT ((stateM l copies first).1), fun _ => fun (vT : Value) (_ : World) => ∃ aT, vT = .pointer (some aT) ∧ PT Enc.int wl0 (Bl0 ++ O) (.pointer (some aT)) (o.copy), fun _ => isV (vI o.copy), fun _ => fun (vT : Value) (_ : World) => ∃ aT, vT = .pointer (some aT) ∧ PT Enc.holding wl0 (Bl0 ++ O) (.pointer (some aT)) (((stateM l copies first).1)[o.copy.toNat]!), fun _ => isV (Value.agg #[vI ((((stateM l copies first).1)[o.copy.toNat]!).copy), vI ((((stateM l copies first).1)[o.copy.toNat]!).device), vI ((((stateM l copies first).1)[o.copy.toNat]!).token), Value.bool ((((stateM l copies first).1)[o.copy.toNat]!).shown)]), fun _ => fun (vT : Value) (_ : World) => RdL Enc.holding wl0 (Bl0 ++ O) vT ((stateM ((addM l o).1) copies first).1), fun _ => fun (vT : Value) (_ : World) => ∃ aT, vT = .pointer (some aT) ∧ PT Enc.int wl0 (Bl0 ++ O) (.pointer (some aT)) (o.copy), fun _ => isV (vI o.copy), fun _ => fun (vT : Value) (_ : World) => ∃ aT, vT = .pointer (some aT) ∧ PT Enc.holding wl0 (Bl0 ++ O) (.pointer (some aT)) (((stateM ((addM l o).1) copies first).1)[o.copy.toNat]!), fun _ => isV (Value.agg #[vI ((((stateM ((addM l o).1) copies first).1)[o.copy.toNat]!).copy), vI ((((stateM ((addM l o).1) copies first).1)[o.copy.toNat]!).device), vI ((((stateM ((addM l o).1) copies first).1)[o.copy.toNat]!).token), Value.bool ((((stateM ((addM l o).1) copies first).1)[o.copy.toNat]!).shown)]), TBx wl0 47 [vI (0 : Int), vI (0 : Int), vI (0 : Int), Value.bool false], TBx wl0 47 [vI (0 : Int), vI (0 : Int), vI (0 : Int), Value.bool false]] [⟨0, [], [], [], false, []⟩, ⟨0, [], [], [], false, []⟩, ⟨0, [], [], [], false, [1]⟩, ⟨0, [], [], [], false, [0, 2]⟩, ⟨0, [], [], [], false, [3]⟩, ⟨0, [], [], [], false, []⟩, ⟨0, [], [], [], false, []⟩, ⟨0, [], [], [], false, [6]⟩, ⟨0, [], [], [], false, [5, 7]⟩, ⟨0, [], [], [], false, [8]⟩, ⟨1, [], [], [], false, []⟩, ⟨2, [], [], [], false, []⟩] Bl0 (by kernel_rfl) (by kernel_rfl) (by kernel_rfl) (by kernel_rfl) (by kernel_rfl) (by decide) rfl rfl rfl ⟨fun _ _ _ _ _ h => h, fun _ _ _ _ _ h => h, fun _ _ _ _ _ h => h, fun _ _ _ _ _ h => h, fun _ _ _ _ _ h => h, fun _ _ _ _ _ h => h, fun _ _ _ _ _ h => h, fun _ _ _ _ _ h => h, fun _ _ _ _ _ h => h, fun _ _ _ _ _ h => h, TBx.st, TBx.st, trivial⟩ ⟨?_, ?_, ?_, ?_, ?_, ?_, ?_, ?_, ?_, ?_, ?_, ?_, trivial⟩ ?_ ?_
         ·intro F1 w1 B1_ Bs_ k1 hs_ hl_ hr_ hsep_ hf hd
          obtain ⟨F2, rfl⟩ := lit_of (F := F1) [(9, x3487)] ⟨hf 9 (by kernel_rfl), trivial⟩
          exact sp_plain rfl ((o_move (x3487) rfl (⟨[], (Keep.refl _ _), noC, hl3488⟩)))
         ·intro F1 w1 B1_ Bs_ k1 hs_ hl_ hr_ hsep_ hf hd
          obtain ⟨F2, rfl⟩ := lit_of (F := F1) [(7, Value.pointer (some a3458))] ⟨hf 7 (by kernel_rfl), trivial⟩
          exact sp_plain rfl ((o_fieldRU 3 f_40_3 (o.copy) rfl hp3463 (fun _ _ _ h => Enc_devop_f3 h) fun a3573 hp3574 => (⟨[], (Keep.refl _ _), noC, ⟨a3573, rfl, hp3574⟩⟩)))
         ·intro F1 w1 B1_ Bs_ k1 hs_ hl_ hr_ hsep_ hf hd
          have k0 := (Keep.drew [] wl0).trans k1
          obtain ⟨a3575, e3577, hp3576⟩ : ∃ aX_, F1 92 = .pointer (some aX_) ∧ PT Enc.int wl0 (Bl0 ++ O) (.pointer (some aX_)) (o.copy) := hd 1 92 (by kernel_rfl) (by kernel_rfl)
          obtain ⟨F2, rfl⟩ := lit_of (F := F1) [(92, Value.pointer (some a3575))] ⟨e3577, trivial⟩
          exact sp_plain rfl ((o_loadIU Try.underlying3 rfl rfl hp3576 k0 (⟨[], (Keep.refl _ _), noC, rfl⟩)))
         ·intro F1 w1 B1_ Bs_ k1 hs_ hl_ hr_ hsep_ hf hd
          obtain ⟨v3578, e3580, hl3579⟩ : ∃ v, F1 91 = v ∧ RdL Enc.holding wl0 (Bl0 ++ O) v ((stateM l copies first).1) := ⟨_, rfl, hd 0 91 (by kernel_rfl) (by kernel_rfl)⟩
          have := hl3579.len_le
          obtain ⟨F2, rfl⟩ := lit_of (F := F1) [(91, v3578), (93, vI o.copy)] ⟨e3580, hd 2 93 (by kernel_rfl) (by kernel_rfl), trivial⟩
          exact sp_plain rfl ((o_idxU Try.underlying43 s_47 .i64 o.copy o.copy.toNat rfl rfl (by omega) hl3579 (by omega) fun a3581 hp3582 => (⟨[], (Keep.refl _ _), noC, ⟨a3581, rfl, hp3582⟩⟩)))
         ·intro F1 w1 B1_ Bs_ k1 hs_ hl_ hr_ hsep_ hf hd
          have k0 := (Keep.drew [] wl0).trans k1
          obtain ⟨a3583, e3585, hp3584⟩ : ∃ aX_, F1 94 = .pointer (some aX_) ∧ PT Enc.holding wl0 (Bl0 ++ O) (.pointer (some aX_)) (((stateM l copies first).1)[o.copy.toNat]!) := hd 3 94 (by kernel_rfl) (by kernel_rfl)
          obtain ⟨F2, rfl⟩ := lit_of (F := F1) [(94, Value.pointer (some a3583))] ⟨e3585, trivial⟩
          refine sp_plain rfl ((o_loadSU Try.underlying47 rfl s_47 rfl hp3584 k0 fun cs3586 hs3587 => (?_)))
          obtain rfl := hs3587
          exact ⟨[], (Keep.refl _ _), noC, rfl⟩
         ·intro F1 w1 B1_ Bs_ k1 hs_ hl_ hr_ hsep_ hf hd
          obtain ⟨F2, rfl⟩ := lit_of (F := F1) [(13, x3514)] ⟨hf 13 (by kernel_rfl), trivial⟩
          exact sp_plain rfl ((o_move (x3514) rfl (⟨[], (Keep.refl _ _), noC, hl3515⟩)))
         ·intro F1 w1 B1_ Bs_ k1 hs_ hl_ hr_ hsep_ hf hd
          obtain ⟨F2, rfl⟩ := lit_of (F := F1) [(7, Value.pointer (some a3458))] ⟨hf 7 (by kernel_rfl), trivial⟩
          exact sp_plain rfl ((o_fieldRU 3 f_40_3 (o.copy) rfl hp3463 (fun _ _ _ h => Enc_devop_f3 h) fun a3588 hp3589 => (⟨[], (Keep.refl _ _), noC, ⟨a3588, rfl, hp3589⟩⟩)))
         ·intro F1 w1 B1_ Bs_ k1 hs_ hl_ hr_ hsep_ hf hd
          have k0 := (Keep.drew [] wl0).trans k1
          obtain ⟨a3590, e3592, hp3591⟩ : ∃ aX_, F1 97 = .pointer (some aX_) ∧ PT Enc.int wl0 (Bl0 ++ O) (.pointer (some aX_)) (o.copy) := hd 6 97 (by kernel_rfl) (by kernel_rfl)
          obtain ⟨F2, rfl⟩ := lit_of (F := F1) [(97, Value.pointer (some a3590))] ⟨e3592, trivial⟩
          exact sp_plain rfl ((o_loadIU Try.underlying3 rfl rfl hp3591 k0 (⟨[], (Keep.refl _ _), noC, rfl⟩)))
         ·intro F1 w1 B1_ Bs_ k1 hs_ hl_ hr_ hsep_ hf hd
          obtain ⟨v3593, e3595, hl3594⟩ : ∃ v, F1 96 = v ∧ RdL Enc.holding wl0 (Bl0 ++ O) v ((stateM ((addM l o).1) copies first).1) := ⟨_, rfl, hd 5 96 (by kernel_rfl) (by kernel_rfl)⟩
          have := hl3594.len_le
          obtain ⟨F2, rfl⟩ := lit_of (F := F1) [(96, v3593), (98, vI o.copy)] ⟨e3595, hd 7 98 (by kernel_rfl) (by kernel_rfl), trivial⟩
          exact sp_plain rfl ((o_idxU Try.underlying43 s_47 .i64 o.copy o.copy.toNat rfl rfl (by omega) hl3594 (by omega) fun a3596 hp3597 => (⟨[], (Keep.refl _ _), noC, ⟨a3596, rfl, hp3597⟩⟩)))
         ·intro F1 w1 B1_ Bs_ k1 hs_ hl_ hr_ hsep_ hf hd
          have k0 := (Keep.drew [] wl0).trans k1
          obtain ⟨a3598, e3600, hp3599⟩ : ∃ aX_, F1 99 = .pointer (some aX_) ∧ PT Enc.holding wl0 (Bl0 ++ O) (.pointer (some aX_)) (((stateM ((addM l o).1) copies first).1)[o.copy.toNat]!) := hd 8 99 (by kernel_rfl) (by kernel_rfl)
          obtain ⟨F2, rfl⟩ := lit_of (F := F1) [(99, Value.pointer (some a3598))] ⟨e3600, trivial⟩
          refine sp_plain rfl ((o_loadSU Try.underlying47 rfl s_47 rfl hp3599 k0 fun cs3601 hs3602 => (?_)))
          obtain rfl := hs3602
          exact ⟨[], (Keep.refl _ _), noC, rfl⟩
         ·intro F1 w1 B1_ Bs_ k1 hs_ hl_ hr_ hsep_ hf hd
          have k0 := (Keep.drew [] wl0).trans k1
          have s1 := sl0.adoptL k0 hl_
          obtain ⟨F2, rfl⟩ := lit_of (F := F1) [] trivial
          refine sp_plain rfl ((o_alloc [vI (0 : Int), vI (0 : Int), vI (0 : Int), Value.bool false] z_47 rfl s1 fun b3603 w3604 e3609 s3605 m3606 k3607 bx3608 => (?_)))
          have lo3610 : wl0.heap.size ≤ b3603 := by have := k0.size; omega
          exact ⟨[], k3607, noC, ⟨_, rfl, lo3610, (by intro h; have := lt_of s1 _ h; omega), bx3608⟩⟩
         ·intro F1 w1 B1_ Bs_ k1 hs_ hl_ hr_ hsep_ hf hd
          have k0 := (Keep.drew [] wl0).trans k1
          have s1 := sl0.adoptL k0 hl_
          obtain ⟨F2, rfl⟩ := lit_of (F := F1) [] trivial
          refine sp_plain rfl ((o_alloc [vI (0 : Int), vI (0 : Int), vI (0 : Int), Value.bool false] z_47 rfl s1 fun b3611 w3612 e3617 s3613 m3614 k3615 bx3616 => (?_)))
          have lo3618 : wl0.heap.size ≤ b3611 := by have := k0.size; omega
          exact ⟨[], k3615, noC, ⟨_, rfl, lo3618, (by intro h; have := lt_of s1 _ h; omega), bx3616⟩⟩
         ·intro F3620 w3621 Bs3626 k3619 hB3627 hl3628 sep3629 hT3622 hF3623
          obtain ⟨b3630, e3634, lo3631, hn3632, bx3635⟩ : (TBx wl0 47 [vI (0 : Int), vI (0 : Int), vI (0 : Int), Value.bool false]) (Bs3626 1) (F3620 16) w3621 := hT3622 10 16 (by kernel_rfl) (by decide) (by kernel_rfl) (by kernel_rfl)
          have hi3633 := bx3635.lt
          obtain ⟨b3636, e3640, lo3637, hn3638, bx3641⟩ : (TBx wl0 47 [vI (0 : Int), vI (0 : Int), vI (0 : Int), Value.bool false]) (Bs3626 2) (F3620 17) w3621 := hT3622 11 17 (by kernel_rfl) (by decide) (by kernel_rfl) (by kernel_rfl)
          have hi3639 := bx3641.lt
          have hl3642 : ∀ x ∈ Bl0, x ∈ Bl0 ∨ (wl0.heap.size ≤ x ∧ x < w3621.heap.size) := fun x hx => .inl hx
          have hsu3643 : ∀ x ∈ Bl0, x ∈ Bl0 := fun x hx => hx
          have hq3644 : ∀ x ∈ Bl0, x ∈ Bs3626 1 := fun x hx => hB3627 1 x hx
          have hq3645 : ∀ x ∈ Bl0, x ∈ Bs3626 2 := fun x hx => hB3627 2 x hx
          have hl3646 : ∀ x ∈ (b3630 :: Bl0), x ∈ Bl0 ∨ (wl0.heap.size ≤ x ∧ x < w3621.heap.size) := fun x hx => by rcases List.mem_cons.1 hx with rfl | hx; exact .inr ⟨lo3631, hi3633⟩; exact hl3642 x hx
          have hsu3647 : ∀ x ∈ Bl0, x ∈ (b3630 :: Bl0) := fun x hx => List.mem_cons_of_mem _ (hsu3643 x hx)
          have hl3648 : ∀ x ∈ (b3636 :: (b3630 :: Bl0)), x ∈ Bl0 ∨ (wl0.heap.size ≤ x ∧ x < w3621.heap.size) := fun x hx => by rcases List.mem_cons.1 hx with rfl | hx; exact .inr ⟨lo3637, hi3639⟩; exact hl3646 x hx
          have hsu3649 : ∀ x ∈ Bl0, x ∈ (b3636 :: (b3630 :: Bl0)) := fun x hx => List.mem_cons_of_mem _ (hsu3647 x hx)
          have s3624 := sl0.adoptL k3619 hl3648
          have m3625 : Mv Bl0 wl0 (b3636 :: (b3630 :: Bl0)) w3621 := Mv.adoptL k3619 hl3648
          have ne3650 : NeB b3630 b3636 := fun e => hn3638 (e ▸ sep3629 1 2 b3630 (by decide) lo3631 hi3633 hn3632)
          have h_l := h_l.mv m3625
          have hp3463 := hp3463.mv m3625
          obtain ⟨F2, rfl⟩ := lit_of (F := F3620) [(0, l_v), (7, Value.pointer (some a3458)), (157, undef), (16, Value.pointer (some ⟨b3630, 0, none⟩)), (17, Value.pointer (some ⟨b3636, 0, none⟩)), (95, Value.agg #[vI ((((stateM l copies first).1)[o.copy.toNat]!).copy), vI ((((stateM l copies first).1)[o.copy.toNat]!).device), vI ((((stateM l copies first).1)[o.copy.toNat]!).token), Value.bool ((((stateM l copies first).1)[o.copy.toNat]!).shown)]), (100, Value.agg #[vI ((((stateM ((addM l o).1) copies first).1)[o.copy.toNat]!).copy), vI ((((stateM ((addM l o).1) copies first).1)[o.copy.toNat]!).device), vI ((((stateM ((addM l o).1) copies first).1)[o.copy.toNat]!).token), Value.bool ((((stateM ((addM l o).1) copies first).1)[o.copy.toNat]!).shown)])] ⟨hF3623 0 (by kernel_rfl), hF3623 7 (by kernel_rfl), hF3623 157 (by kernel_rfl), e3634, e3640, hT3622 4 95 (by kernel_rfl) (by decide) (by kernel_rfl) (by kernel_rfl), hT3622 9 100 (by kernel_rfl) (by decide) (by kernel_rfl) (by kernel_rfl), trivial⟩
          clear hT3622 hF3623 hB3627 hl3628 sep3629
          refine wl_n (o_store (vs := [vI ((((stateM l copies first).1)[o.copy.toNat]!).copy), vI ((((stateM l copies first).1)[o.copy.toNat]!).device), vI ((((stateM l copies first).1)[o.copy.toNat]!).token), Value.bool ((((stateM l copies first).1)[o.copy.toNat]!).shown)]) (.agg #[vI ((((stateM l copies first).1)[o.copy.toNat]!).copy), vI ((((stateM l copies first).1)[o.copy.toNat]!).device), vI ((((stateM l copies first).1)[o.copy.toNat]!).token), Value.bool ((((stateM l copies first).1)[o.copy.toNat]!).shown)]) rfl rfl rfl s_47 (fun u hu => by simp only [List.mem_cons, List.not_mem_nil, or_false] at hu; rcases hu with rfl | rfl | rfl | rfl <;> first | rfl) (by repeat (first | assumption | constructor)) bx3635 (of_decide_eq_true rfl) s3624 fun w3651 s3652 m3653 k3654 bx3655 => (?_))
          have h_l := h_l.mv m3653
          have hp3463 := hp3463.mv m3653
          have bx3641 := bx3641.keep k3654 (nin1 (Ne.symm ne3650))
          refine wl_n (o_store (vs := [vI ((((stateM ((addM l o).1) copies first).1)[o.copy.toNat]!).copy), vI ((((stateM ((addM l o).1) copies first).1)[o.copy.toNat]!).device), vI ((((stateM ((addM l o).1) copies first).1)[o.copy.toNat]!).token), Value.bool ((((stateM ((addM l o).1) copies first).1)[o.copy.toNat]!).shown)]) (.agg #[vI ((((stateM ((addM l o).1) copies first).1)[o.copy.toNat]!).copy), vI ((((stateM ((addM l o).1) copies first).1)[o.copy.toNat]!).device), vI ((((stateM ((addM l o).1) copies first).1)[o.copy.toNat]!).token), Value.bool ((((stateM ((addM l o).1) copies first).1)[o.copy.toNat]!).shown)]) rfl rfl rfl s_47 (fun u hu => by simp only [List.mem_cons, List.not_mem_nil, or_false] at hu; rcases hu with rfl | rfl | rfl | rfl <;> first | rfl) (by repeat (first | assumption | constructor)) bx3641 (of_decide_eq_true rfl) s3652 fun w3656 s3657 m3658 k3659 bx3660 => (?_))
          have h_l := h_l.mv m3658
          have hp3463 := hp3463.mv m3658
          have bx3655 := bx3655.keep k3659 (nin1 ne3650)
          refine wl_nil (thenQ_n (?_))
          exact ⟨b3630, b3636, (b3636 :: (b3630 :: Bl0)), trivial, ⟨_, upds_self _ ⟨rfl, rfl, rfl, rfl, rfl, trivial⟩⟩, s3657, h_l, hp3463, (by rw [show ([vI (((stateM l copies first).1)[o.copy.toNat]!.copy), vI (((stateM l copies first).1)[o.copy.toNat]!.device), vI (((stateM l copies first).1)[o.copy.toNat]!.token), Value.bool (((stateM l copies first).1)[o.copy.toNat]!.shown)] : List Value) = [vI ((((stateM l copies first).1)[o.copy.toNat]!).copy), vI ((((stateM l copies first).1)[o.copy.toNat]!).device), vI ((((stateM l copies first).1)[o.copy.toNat]!).token), Value.bool ((((stateM l copies first).1)[o.copy.toNat]!).shown)] from by first | rfl | simp]; exact bx3655), (by repeat (first | assumption | constructor)), (by rw [show ([vI (((stateM (addM l o).1 copies first).1)[o.copy.toNat]!.copy), vI (((stateM (addM l o).1 copies first).1)[o.copy.toNat]!.device), vI (((stateM (addM l o).1 copies first).1)[o.copy.toNat]!.token), Value.bool (((stateM (addM l o).1 copies first).1)[o.copy.toNat]!.shown)] : List Value) = [vI ((((stateM ((addM l o).1) copies first).1)[o.copy.toNat]!).copy), vI ((((stateM ((addM l o).1) copies first).1)[o.copy.toNat]!).device), vI ((((stateM ((addM l o).1) copies first).1)[o.copy.toNat]!).token), Value.bool ((((stateM ((addM l o).1) copies first).1)[o.copy.toNat]!).shown)] from by first | rfl | simp]; exact bx3660), (by repeat (first | assumption | constructor)), ne3650⟩
         ·intro cx_ hcx_
          match cx_, hcx_ with
          | 0, _ =>
           intro F3662 w3663 Bs3668 k3661 hB3669 hl3670 sep3671 hT3664 hF3665
           obtain ⟨b3672, e3676, lo3673, hn3674, bx3677⟩ : (TBx wl0 47 [vI (0 : Int), vI (0 : Int), vI (0 : Int), Value.bool false]) (Bs3668 1) (F3662 16) w3663 := hT3664 10 16 (by kernel_rfl) (by decide) (by kernel_rfl) (by kernel_rfl)
           have hi3675 := bx3677.lt
           obtain ⟨b3678, e3682, lo3679, hn3680, bx3683⟩ : (TBx wl0 47 [vI (0 : Int), vI (0 : Int), vI (0 : Int), Value.bool false]) (Bs3668 2) (F3662 17) w3663 := hT3664 11 17 (by kernel_rfl) (by decide) (by kernel_rfl) (by kernel_rfl)
           have hi3681 := bx3683.lt
           have hl3684 : ∀ x ∈ Bl0, x ∈ Bl0 ∨ (wl0.heap.size ≤ x ∧ x < w3663.heap.size) := fun x hx => .inl hx
           have hsu3685 : ∀ x ∈ Bl0, x ∈ Bl0 := fun x hx => hx
           have hq3686 : ∀ x ∈ Bl0, x ∈ Bs3668 1 := fun x hx => hB3669 1 x hx
           have hq3687 : ∀ x ∈ Bl0, x ∈ Bs3668 2 := fun x hx => hB3669 2 x hx
           have hl3688 : ∀ x ∈ (b3672 :: Bl0), x ∈ Bl0 ∨ (wl0.heap.size ≤ x ∧ x < w3663.heap.size) := fun x hx => by rcases List.mem_cons.1 hx with rfl | hx; exact .inr ⟨lo3673, hi3675⟩; exact hl3684 x hx
           have hsu3689 : ∀ x ∈ Bl0, x ∈ (b3672 :: Bl0) := fun x hx => List.mem_cons_of_mem _ (hsu3685 x hx)
           have hl3690 : ∀ x ∈ (b3678 :: (b3672 :: Bl0)), x ∈ Bl0 ∨ (wl0.heap.size ≤ x ∧ x < w3663.heap.size) := fun x hx => by rcases List.mem_cons.1 hx with rfl | hx; exact .inr ⟨lo3679, hi3681⟩; exact hl3688 x hx
           have hsu3691 : ∀ x ∈ Bl0, x ∈ (b3678 :: (b3672 :: Bl0)) := fun x hx => List.mem_cons_of_mem _ (hsu3689 x hx)
           have s3666 := sl0.adoptL k3661 hl3690
           have m3667 : Mv Bl0 wl0 (b3678 :: (b3672 :: Bl0)) w3663 := Mv.adoptL k3661 hl3690
           have ne3692 : NeB b3672 b3678 := fun e => hn3680 (e ▸ sep3671 1 2 b3672 (by decide) lo3673 hi3675 hn3674)
           obtain ⟨a3693, e3695, hp3694⟩ : ∃ aX_, F3662 99 = .pointer (some aX_) ∧ PT Enc.holding wl0 (Bl0 ++ O) (.pointer (some aX_)) (((stateM ((addM l o).1) copies first).1)[o.copy.toNat]!) := hT3664 8 99 (by kernel_rfl) (by decide) (by kernel_rfl) (by kernel_rfl)
           have h_l := h_l.mv m3667
           have hp3463 := hp3463.mv m3667
           have hp3694 := hp3694.mv m3667
           obtain ⟨F2, rfl⟩ := lit_of (F := F3662) [(0, l_v), (7, Value.pointer (some a3458)), (157, undef), (16, Value.pointer (some ⟨b3672, 0, none⟩)), (17, Value.pointer (some ⟨b3678, 0, none⟩)), (95, Value.agg #[vI ((((stateM l copies first).1)[o.copy.toNat]!).copy), vI ((((stateM l copies first).1)[o.copy.toNat]!).device), vI ((((stateM l copies first).1)[o.copy.toNat]!).token), Value.bool ((((stateM l copies first).1)[o.copy.toNat]!).shown)]), (99, Value.pointer (some a3693))] ⟨hF3665 0 (by kernel_rfl), hF3665 7 (by kernel_rfl), hF3665 157 (by kernel_rfl), e3676, e3682, hT3664 4 95 (by kernel_rfl) (by decide) (by kernel_rfl) (by kernel_rfl), e3695, trivial⟩
           clear hT3664 hF3665 hB3669 hl3670 sep3671
           refine wl_n (o_store (vs := [vI ((((stateM l copies first).1)[o.copy.toNat]!).copy), vI ((((stateM l copies first).1)[o.copy.toNat]!).device), vI ((((stateM l copies first).1)[o.copy.toNat]!).token), Value.bool ((((stateM l copies first).1)[o.copy.toNat]!).shown)]) (.agg #[vI ((((stateM l copies first).1)[o.copy.toNat]!).copy), vI ((((stateM l copies first).1)[o.copy.toNat]!).device), vI ((((stateM l copies first).1)[o.copy.toNat]!).token), Value.bool ((((stateM l copies first).1)[o.copy.toNat]!).shown)]) rfl rfl rfl s_47 (fun u hu => by simp only [List.mem_cons, List.not_mem_nil, or_false] at hu; rcases hu with rfl | rfl | rfl | rfl <;> first | rfl) (by repeat (first | assumption | constructor)) bx3677 (of_decide_eq_true rfl) s3666 fun w3696 s3697 m3698 k3699 bx3700 => (?_))
           have h_l := h_l.mv m3698
           have hp3463 := hp3463.mv m3698
           have hp3694 := hp3694.mv m3698
           have bx3683 := bx3683.keep k3699 (nin1 (Ne.symm ne3692))
           refine wl_s (o_loadS Try.underlying47 rfl s_47 rfl hp3694 fun cs3701 hs3702 => (?_))
           obtain rfl := hs3702
           refine wl_n (o_store (vs := [vI ((((stateM ((addM l o).1) copies first).1)[o.copy.toNat]!).copy), vI ((((stateM ((addM l o).1) copies first).1)[o.copy.toNat]!).device), vI ((((stateM ((addM l o).1) copies first).1)[o.copy.toNat]!).token), Value.bool ((((stateM ((addM l o).1) copies first).1)[o.copy.toNat]!).shown)]) (.agg #[vI ((((stateM ((addM l o).1) copies first).1)[o.copy.toNat]!).copy), vI ((((stateM ((addM l o).1) copies first).1)[o.copy.toNat]!).device), vI ((((stateM ((addM l o).1) copies first).1)[o.copy.toNat]!).token), Value.bool ((((stateM ((addM l o).1) copies first).1)[o.copy.toNat]!).shown)]) rfl rfl rfl s_47 (fun u hu => by simp only [List.mem_cons, List.not_mem_nil, or_false] at hu; rcases hu with rfl | rfl | rfl | rfl <;> first | rfl) (by repeat (first | assumption | constructor)) bx3683 (of_decide_eq_true rfl) s3697 fun w3703 s3704 m3705 k3706 bx3707 => (?_))
           have h_l := h_l.mv m3705
           have hp3463 := hp3463.mv m3705
           have bx3700 := bx3700.keep k3706 (nin1 ne3692)
           refine wl_nil (thenQ_n (?_))
           exact ⟨b3672, b3678, (b3678 :: (b3672 :: Bl0)), trivial, ⟨_, upds_self _ ⟨rfl, rfl, rfl, rfl, rfl, trivial⟩⟩, s3704, h_l, hp3463, (by rw [show ([vI (((stateM l copies first).1)[o.copy.toNat]!.copy), vI (((stateM l copies first).1)[o.copy.toNat]!.device), vI (((stateM l copies first).1)[o.copy.toNat]!.token), Value.bool (((stateM l copies first).1)[o.copy.toNat]!.shown)] : List Value) = [vI ((((stateM l copies first).1)[o.copy.toNat]!).copy), vI ((((stateM l copies first).1)[o.copy.toNat]!).device), vI ((((stateM l copies first).1)[o.copy.toNat]!).token), Value.bool ((((stateM l copies first).1)[o.copy.toNat]!).shown)] from by first | rfl | simp]; exact bx3700), (by repeat (first | assumption | constructor)), (by rw [show ([vI (((stateM (addM l o).1 copies first).1)[o.copy.toNat]!.copy), vI (((stateM (addM l o).1 copies first).1)[o.copy.toNat]!.device), vI (((stateM (addM l o).1 copies first).1)[o.copy.toNat]!.token), Value.bool (((stateM (addM l o).1 copies first).1)[o.copy.toNat]!.shown)] : List Value) = [vI ((((stateM ((addM l o).1) copies first).1)[o.copy.toNat]!).copy), vI ((((stateM ((addM l o).1) copies first).1)[o.copy.toNat]!).device), vI ((((stateM ((addM l o).1) copies first).1)[o.copy.toNat]!).token), Value.bool ((((stateM ((addM l o).1) copies first).1)[o.copy.toNat]!).shown)] from by first | rfl | simp]; exact bx3707), (by repeat (first | assumption | constructor)), ne3692⟩
          | 1, _ =>
           intro F3709 w3710 Bs3715 k3708 hB3716 hl3717 sep3718 hT3711 hF3712
           obtain ⟨b3719, e3723, lo3720, hn3721, bx3724⟩ : (TBx wl0 47 [vI (0 : Int), vI (0 : Int), vI (0 : Int), Value.bool false]) (Bs3715 1) (F3709 16) w3710 := hT3711 10 16 (by kernel_rfl) (by decide) (by kernel_rfl) (by kernel_rfl)
           have hi3722 := bx3724.lt
           obtain ⟨b3725, e3729, lo3726, hn3727, bx3730⟩ : (TBx wl0 47 [vI (0 : Int), vI (0 : Int), vI (0 : Int), Value.bool false]) (Bs3715 2) (F3709 17) w3710 := hT3711 11 17 (by kernel_rfl) (by decide) (by kernel_rfl) (by kernel_rfl)
           have hi3728 := bx3730.lt
           have hl3731 : ∀ x ∈ Bl0, x ∈ Bl0 ∨ (wl0.heap.size ≤ x ∧ x < w3710.heap.size) := fun x hx => .inl hx
           have hsu3732 : ∀ x ∈ Bl0, x ∈ Bl0 := fun x hx => hx
           have hq3733 : ∀ x ∈ Bl0, x ∈ Bs3715 1 := fun x hx => hB3716 1 x hx
           have hq3734 : ∀ x ∈ Bl0, x ∈ Bs3715 2 := fun x hx => hB3716 2 x hx
           have hl3735 : ∀ x ∈ (b3719 :: Bl0), x ∈ Bl0 ∨ (wl0.heap.size ≤ x ∧ x < w3710.heap.size) := fun x hx => by rcases List.mem_cons.1 hx with rfl | hx; exact .inr ⟨lo3720, hi3722⟩; exact hl3731 x hx
           have hsu3736 : ∀ x ∈ Bl0, x ∈ (b3719 :: Bl0) := fun x hx => List.mem_cons_of_mem _ (hsu3732 x hx)
           have hl3737 : ∀ x ∈ (b3725 :: (b3719 :: Bl0)), x ∈ Bl0 ∨ (wl0.heap.size ≤ x ∧ x < w3710.heap.size) := fun x hx => by rcases List.mem_cons.1 hx with rfl | hx; exact .inr ⟨lo3726, hi3728⟩; exact hl3735 x hx
           have hsu3738 : ∀ x ∈ Bl0, x ∈ (b3725 :: (b3719 :: Bl0)) := fun x hx => List.mem_cons_of_mem _ (hsu3736 x hx)
           have s3713 := sl0.adoptL k3708 hl3737
           have m3714 : Mv Bl0 wl0 (b3725 :: (b3719 :: Bl0)) w3710 := Mv.adoptL k3708 hl3737
           have ne3739 : NeB b3719 b3725 := fun e => hn3727 (e ▸ sep3718 1 2 b3719 (by decide) lo3720 hi3722 hn3721)
           obtain ⟨v3740, e3742, hl3741⟩ : ∃ v, F3709 96 = v ∧ RdL Enc.holding wl0 (Bl0 ++ O) v ((stateM ((addM l o).1) copies first).1) := ⟨_, rfl, hT3711 5 96 (by kernel_rfl) (by decide) (by kernel_rfl) (by kernel_rfl)⟩
           have := hl3741.len_le
           have h_l := h_l.mv m3714
           have hp3463 := hp3463.mv m3714
           have hl3741 := hl3741.mv m3714
           obtain ⟨F2, rfl⟩ := lit_of (F := F3709) [(0, l_v), (7, Value.pointer (some a3458)), (157, undef), (16, Value.pointer (some ⟨b3719, 0, none⟩)), (17, Value.pointer (some ⟨b3725, 0, none⟩)), (95, Value.agg #[vI ((((stateM l copies first).1)[o.copy.toNat]!).copy), vI ((((stateM l copies first).1)[o.copy.toNat]!).device), vI ((((stateM l copies first).1)[o.copy.toNat]!).token), Value.bool ((((stateM l copies first).1)[o.copy.toNat]!).shown)]), (96, v3740), (98, vI o.copy)] ⟨hF3712 0 (by kernel_rfl), hF3712 7 (by kernel_rfl), hF3712 157 (by kernel_rfl), e3723, e3729, hT3711 4 95 (by kernel_rfl) (by decide) (by kernel_rfl) (by kernel_rfl), e3742, hT3711 7 98 (by kernel_rfl) (by decide) (by kernel_rfl) (by kernel_rfl), trivial⟩
           clear hT3711 hF3712 hB3716 hl3717 sep3718
           refine wl_n (o_store (vs := [vI ((((stateM l copies first).1)[o.copy.toNat]!).copy), vI ((((stateM l copies first).1)[o.copy.toNat]!).device), vI ((((stateM l copies first).1)[o.copy.toNat]!).token), Value.bool ((((stateM l copies first).1)[o.copy.toNat]!).shown)]) (.agg #[vI ((((stateM l copies first).1)[o.copy.toNat]!).copy), vI ((((stateM l copies first).1)[o.copy.toNat]!).device), vI ((((stateM l copies first).1)[o.copy.toNat]!).token), Value.bool ((((stateM l copies first).1)[o.copy.toNat]!).shown)]) rfl rfl rfl s_47 (fun u hu => by simp only [List.mem_cons, List.not_mem_nil, or_false] at hu; rcases hu with rfl | rfl | rfl | rfl <;> first | rfl) (by repeat (first | assumption | constructor)) bx3724 (of_decide_eq_true rfl) s3713 fun w3743 s3744 m3745 k3746 bx3747 => (?_))
           have h_l := h_l.mv m3745
           have hp3463 := hp3463.mv m3745
           have hl3741 := hl3741.mv m3745
           have bx3730 := bx3730.keep k3746 (nin1 (Ne.symm ne3739))
           refine wl_s (o_idx Try.underlying43 s_47 .i64 o.copy o.copy.toNat rfl rfl (by omega) hl3741 (by omega) fun a3748 hp3749 => (wl_s (o_loadS Try.underlying47 rfl s_47 rfl hp3749 fun cs3750 hs3751 => (?_))))
           obtain rfl := hs3751
           refine wl_n (o_store (vs := [vI ((((stateM ((addM l o).1) copies first).1)[o.copy.toNat]!).copy), vI ((((stateM ((addM l o).1) copies first).1)[o.copy.toNat]!).device), vI ((((stateM ((addM l o).1) copies first).1)[o.copy.toNat]!).token), Value.bool ((((stateM ((addM l o).1) copies first).1)[o.copy.toNat]!).shown)]) (.agg #[vI ((((stateM ((addM l o).1) copies first).1)[o.copy.toNat]!).copy), vI ((((stateM ((addM l o).1) copies first).1)[o.copy.toNat]!).device), vI ((((stateM ((addM l o).1) copies first).1)[o.copy.toNat]!).token), Value.bool ((((stateM ((addM l o).1) copies first).1)[o.copy.toNat]!).shown)]) rfl rfl rfl s_47 (fun u hu => by simp only [List.mem_cons, List.not_mem_nil, or_false] at hu; rcases hu with rfl | rfl | rfl | rfl <;> first | rfl) (by repeat (first | assumption | constructor)) bx3730 (of_decide_eq_true rfl) s3744 fun w3752 s3753 m3754 k3755 bx3756 => (?_))
           have h_l := h_l.mv m3754
           have hp3463 := hp3463.mv m3754
           have bx3747 := bx3747.keep k3755 (nin1 ne3739)
           refine wl_nil (thenQ_n (?_))
           exact ⟨b3719, b3725, (b3725 :: (b3719 :: Bl0)), trivial, ⟨_, upds_self _ ⟨rfl, rfl, rfl, rfl, rfl, trivial⟩⟩, s3753, h_l, hp3463, (by rw [show ([vI (((stateM l copies first).1)[o.copy.toNat]!.copy), vI (((stateM l copies first).1)[o.copy.toNat]!.device), vI (((stateM l copies first).1)[o.copy.toNat]!.token), Value.bool (((stateM l copies first).1)[o.copy.toNat]!.shown)] : List Value) = [vI ((((stateM l copies first).1)[o.copy.toNat]!).copy), vI ((((stateM l copies first).1)[o.copy.toNat]!).device), vI ((((stateM l copies first).1)[o.copy.toNat]!).token), Value.bool ((((stateM l copies first).1)[o.copy.toNat]!).shown)] from by first | rfl | simp]; exact bx3747), (by repeat (first | assumption | constructor)), (by rw [show ([vI (((stateM (addM l o).1 copies first).1)[o.copy.toNat]!.copy), vI (((stateM (addM l o).1 copies first).1)[o.copy.toNat]!.device), vI (((stateM (addM l o).1 copies first).1)[o.copy.toNat]!.token), Value.bool (((stateM (addM l o).1 copies first).1)[o.copy.toNat]!.shown)] : List Value) = [vI ((((stateM ((addM l o).1) copies first).1)[o.copy.toNat]!).copy), vI ((((stateM ((addM l o).1) copies first).1)[o.copy.toNat]!).device), vI ((((stateM ((addM l o).1) copies first).1)[o.copy.toNat]!).token), Value.bool ((((stateM ((addM l o).1) copies first).1)[o.copy.toNat]!).shown)] from by first | rfl | simp]; exact bx3756), (by repeat (first | assumption | constructor)), ne3739⟩
          | 2, _ =>
           intro F3758 w3759 Bs3764 k3757 hB3765 hl3766 sep3767 hT3760 hF3761
           obtain ⟨b3768, e3772, lo3769, hn3770, bx3773⟩ : (TBx wl0 47 [vI (0 : Int), vI (0 : Int), vI (0 : Int), Value.bool false]) (Bs3764 1) (F3758 16) w3759 := hT3760 10 16 (by kernel_rfl) (by decide) (by kernel_rfl) (by kernel_rfl)
           have hi3771 := bx3773.lt
           obtain ⟨b3774, e3778, lo3775, hn3776, bx3779⟩ : (TBx wl0 47 [vI (0 : Int), vI (0 : Int), vI (0 : Int), Value.bool false]) (Bs3764 2) (F3758 17) w3759 := hT3760 11 17 (by kernel_rfl) (by decide) (by kernel_rfl) (by kernel_rfl)
           have hi3777 := bx3779.lt
           have hl3780 : ∀ x ∈ Bl0, x ∈ Bl0 ∨ (wl0.heap.size ≤ x ∧ x < w3759.heap.size) := fun x hx => .inl hx
           have hsu3781 : ∀ x ∈ Bl0, x ∈ Bl0 := fun x hx => hx
           have hq3782 : ∀ x ∈ Bl0, x ∈ Bs3764 1 := fun x hx => hB3765 1 x hx
           have hq3783 : ∀ x ∈ Bl0, x ∈ Bs3764 2 := fun x hx => hB3765 2 x hx
           have hl3784 : ∀ x ∈ (b3768 :: Bl0), x ∈ Bl0 ∨ (wl0.heap.size ≤ x ∧ x < w3759.heap.size) := fun x hx => by rcases List.mem_cons.1 hx with rfl | hx; exact .inr ⟨lo3769, hi3771⟩; exact hl3780 x hx
           have hsu3785 : ∀ x ∈ Bl0, x ∈ (b3768 :: Bl0) := fun x hx => List.mem_cons_of_mem _ (hsu3781 x hx)
           have hl3786 : ∀ x ∈ (b3774 :: (b3768 :: Bl0)), x ∈ Bl0 ∨ (wl0.heap.size ≤ x ∧ x < w3759.heap.size) := fun x hx => by rcases List.mem_cons.1 hx with rfl | hx; exact .inr ⟨lo3775, hi3777⟩; exact hl3784 x hx
           have hsu3787 : ∀ x ∈ Bl0, x ∈ (b3774 :: (b3768 :: Bl0)) := fun x hx => List.mem_cons_of_mem _ (hsu3785 x hx)
           have s3762 := sl0.adoptL k3757 hl3786
           have m3763 : Mv Bl0 wl0 (b3774 :: (b3768 :: Bl0)) w3759 := Mv.adoptL k3757 hl3786
           have ne3788 : NeB b3768 b3774 := fun e => hn3776 (e ▸ sep3767 1 2 b3768 (by decide) lo3769 hi3771 hn3770)
           have h_l := h_l.mv m3763
           have hp3463 := hp3463.mv m3763
           have hl3515 := hl3515.mv m3763
           obtain ⟨F2, rfl⟩ := lit_of (F := F3758) [(0, l_v), (7, Value.pointer (some a3458)), (13, x3514), (157, undef), (16, Value.pointer (some ⟨b3768, 0, none⟩)), (17, Value.pointer (some ⟨b3774, 0, none⟩)), (95, Value.agg #[vI ((((stateM l copies first).1)[o.copy.toNat]!).copy), vI ((((stateM l copies first).1)[o.copy.toNat]!).device), vI ((((stateM l copies first).1)[o.copy.toNat]!).token), Value.bool ((((stateM l copies first).1)[o.copy.toNat]!).shown)]), (98, vI o.copy)] ⟨hF3761 0 (by kernel_rfl), hF3761 7 (by kernel_rfl), hF3761 13 (by kernel_rfl), hF3761 157 (by kernel_rfl), e3772, e3778, hT3760 4 95 (by kernel_rfl) (by decide) (by kernel_rfl) (by kernel_rfl), hT3760 7 98 (by kernel_rfl) (by decide) (by kernel_rfl) (by kernel_rfl), trivial⟩
           clear hT3760 hF3761 hB3765 hl3766 sep3767
           refine wl_n (o_store (vs := [vI ((((stateM l copies first).1)[o.copy.toNat]!).copy), vI ((((stateM l copies first).1)[o.copy.toNat]!).device), vI ((((stateM l copies first).1)[o.copy.toNat]!).token), Value.bool ((((stateM l copies first).1)[o.copy.toNat]!).shown)]) (.agg #[vI ((((stateM l copies first).1)[o.copy.toNat]!).copy), vI ((((stateM l copies first).1)[o.copy.toNat]!).device), vI ((((stateM l copies first).1)[o.copy.toNat]!).token), Value.bool ((((stateM l copies first).1)[o.copy.toNat]!).shown)]) rfl rfl rfl s_47 (fun u hu => by simp only [List.mem_cons, List.not_mem_nil, or_false] at hu; rcases hu with rfl | rfl | rfl | rfl <;> first | rfl) (by repeat (first | assumption | constructor)) bx3773 (of_decide_eq_true rfl) s3762 fun w3789 s3790 m3791 k3792 bx3793 => (?_))
           have h_l := h_l.mv m3791
           have hp3463 := hp3463.mv m3791
           have hl3515 := hl3515.mv m3791
           have bx3779 := bx3779.keep k3792 (nin1 (Ne.symm ne3788))
           refine wl_s (o_move (x3514) rfl (wl_s (o_idx Try.underlying43 s_47 .i64 o.copy o.copy.toNat rfl rfl (by omega) hl3515 (by omega) fun a3794 hp3795 => (wl_s (o_loadS Try.underlying47 rfl s_47 rfl hp3795 fun cs3796 hs3797 => (?_))))))
           obtain rfl := hs3797
           refine wl_n (o_store (vs := [vI ((((stateM ((addM l o).1) copies first).1)[o.copy.toNat]!).copy), vI ((((stateM ((addM l o).1) copies first).1)[o.copy.toNat]!).device), vI ((((stateM ((addM l o).1) copies first).1)[o.copy.toNat]!).token), Value.bool ((((stateM ((addM l o).1) copies first).1)[o.copy.toNat]!).shown)]) (.agg #[vI ((((stateM ((addM l o).1) copies first).1)[o.copy.toNat]!).copy), vI ((((stateM ((addM l o).1) copies first).1)[o.copy.toNat]!).device), vI ((((stateM ((addM l o).1) copies first).1)[o.copy.toNat]!).token), Value.bool ((((stateM ((addM l o).1) copies first).1)[o.copy.toNat]!).shown)]) rfl rfl rfl s_47 (fun u hu => by simp only [List.mem_cons, List.not_mem_nil, or_false] at hu; rcases hu with rfl | rfl | rfl | rfl <;> first | rfl) (by repeat (first | assumption | constructor)) bx3779 (of_decide_eq_true rfl) s3790 fun w3798 s3799 m3800 k3801 bx3802 => (?_))
           have h_l := h_l.mv m3800
           have hp3463 := hp3463.mv m3800
           have bx3793 := bx3793.keep k3801 (nin1 ne3788)
           refine wl_nil (thenQ_n (?_))
           exact ⟨b3768, b3774, (b3774 :: (b3768 :: Bl0)), trivial, ⟨_, upds_self _ ⟨rfl, rfl, rfl, rfl, rfl, trivial⟩⟩, s3799, h_l, hp3463, (by rw [show ([vI (((stateM l copies first).1)[o.copy.toNat]!.copy), vI (((stateM l copies first).1)[o.copy.toNat]!.device), vI (((stateM l copies first).1)[o.copy.toNat]!.token), Value.bool (((stateM l copies first).1)[o.copy.toNat]!.shown)] : List Value) = [vI ((((stateM l copies first).1)[o.copy.toNat]!).copy), vI ((((stateM l copies first).1)[o.copy.toNat]!).device), vI ((((stateM l copies first).1)[o.copy.toNat]!).token), Value.bool ((((stateM l copies first).1)[o.copy.toNat]!).shown)] from by first | rfl | simp]; exact bx3793), (by repeat (first | assumption | constructor)), (by rw [show ([vI (((stateM (addM l o).1 copies first).1)[o.copy.toNat]!.copy), vI (((stateM (addM l o).1 copies first).1)[o.copy.toNat]!.device), vI (((stateM (addM l o).1 copies first).1)[o.copy.toNat]!.token), Value.bool (((stateM (addM l o).1 copies first).1)[o.copy.toNat]!.shown)] : List Value) = [vI ((((stateM ((addM l o).1) copies first).1)[o.copy.toNat]!).copy), vI ((((stateM ((addM l o).1) copies first).1)[o.copy.toNat]!).device), vI ((((stateM ((addM l o).1) copies first).1)[o.copy.toNat]!).token), Value.bool ((((stateM ((addM l o).1) copies first).1)[o.copy.toNat]!).shown)] from by first | rfl | simp]; exact bx3802), (by repeat (first | assumption | constructor)), ne3788⟩
          | 3, _ =>
           intro F3804 w3805 Bs3810 k3803 hB3811 hl3812 sep3813 hT3806 hF3807
           obtain ⟨b3814, e3818, lo3815, hn3816, bx3819⟩ : (TBx wl0 47 [vI (0 : Int), vI (0 : Int), vI (0 : Int), Value.bool false]) (Bs3810 1) (F3804 16) w3805 := hT3806 10 16 (by kernel_rfl) (by decide) (by kernel_rfl) (by kernel_rfl)
           have hi3817 := bx3819.lt
           obtain ⟨b3820, e3824, lo3821, hn3822, bx3825⟩ : (TBx wl0 47 [vI (0 : Int), vI (0 : Int), vI (0 : Int), Value.bool false]) (Bs3810 2) (F3804 17) w3805 := hT3806 11 17 (by kernel_rfl) (by decide) (by kernel_rfl) (by kernel_rfl)
           have hi3823 := bx3825.lt
           have hl3826 : ∀ x ∈ Bl0, x ∈ Bl0 ∨ (wl0.heap.size ≤ x ∧ x < w3805.heap.size) := fun x hx => .inl hx
           have hsu3827 : ∀ x ∈ Bl0, x ∈ Bl0 := fun x hx => hx
           have hq3828 : ∀ x ∈ Bl0, x ∈ Bs3810 1 := fun x hx => hB3811 1 x hx
           have hq3829 : ∀ x ∈ Bl0, x ∈ Bs3810 2 := fun x hx => hB3811 2 x hx
           have hl3830 : ∀ x ∈ (b3814 :: Bl0), x ∈ Bl0 ∨ (wl0.heap.size ≤ x ∧ x < w3805.heap.size) := fun x hx => by rcases List.mem_cons.1 hx with rfl | hx; exact .inr ⟨lo3815, hi3817⟩; exact hl3826 x hx
           have hsu3831 : ∀ x ∈ Bl0, x ∈ (b3814 :: Bl0) := fun x hx => List.mem_cons_of_mem _ (hsu3827 x hx)
           have hl3832 : ∀ x ∈ (b3820 :: (b3814 :: Bl0)), x ∈ Bl0 ∨ (wl0.heap.size ≤ x ∧ x < w3805.heap.size) := fun x hx => by rcases List.mem_cons.1 hx with rfl | hx; exact .inr ⟨lo3821, hi3823⟩; exact hl3830 x hx
           have hsu3833 : ∀ x ∈ Bl0, x ∈ (b3820 :: (b3814 :: Bl0)) := fun x hx => List.mem_cons_of_mem _ (hsu3831 x hx)
           have s3808 := sl0.adoptL k3803 hl3832
           have m3809 : Mv Bl0 wl0 (b3820 :: (b3814 :: Bl0)) w3805 := Mv.adoptL k3803 hl3832
           have ne3834 : NeB b3814 b3820 := fun e => hn3822 (e ▸ sep3813 1 2 b3814 (by decide) lo3815 hi3817 hn3816)
           obtain ⟨v3835, e3837, hl3836⟩ : ∃ v, F3804 96 = v ∧ RdL Enc.holding wl0 (Bl0 ++ O) v ((stateM ((addM l o).1) copies first).1) := ⟨_, rfl, hT3806 5 96 (by kernel_rfl) (by decide) (by kernel_rfl) (by kernel_rfl)⟩
           have := hl3836.len_le
           obtain ⟨a3838, e3840, hp3839⟩ : ∃ aX_, F3804 97 = .pointer (some aX_) ∧ PT Enc.int wl0 (Bl0 ++ O) (.pointer (some aX_)) (o.copy) := hT3806 6 97 (by kernel_rfl) (by decide) (by kernel_rfl) (by kernel_rfl)
           have h_l := h_l.mv m3809
           have hp3463 := hp3463.mv m3809
           have hl3836 := hl3836.mv m3809
           have hp3839 := hp3839.mv m3809
           obtain ⟨F2, rfl⟩ := lit_of (F := F3804) [(0, l_v), (7, Value.pointer (some a3458)), (157, undef), (16, Value.pointer (some ⟨b3814, 0, none⟩)), (17, Value.pointer (some ⟨b3820, 0, none⟩)), (95, Value.agg #[vI ((((stateM l copies first).1)[o.copy.toNat]!).copy), vI ((((stateM l copies first).1)[o.copy.toNat]!).device), vI ((((stateM l copies first).1)[o.copy.toNat]!).token), Value.bool ((((stateM l copies first).1)[o.copy.toNat]!).shown)]), (96, v3835), (97, Value.pointer (some a3838))] ⟨hF3807 0 (by kernel_rfl), hF3807 7 (by kernel_rfl), hF3807 157 (by kernel_rfl), e3818, e3824, hT3806 4 95 (by kernel_rfl) (by decide) (by kernel_rfl) (by kernel_rfl), e3837, e3840, trivial⟩
           clear hT3806 hF3807 hB3811 hl3812 sep3813
           refine wl_n (o_store (vs := [vI ((((stateM l copies first).1)[o.copy.toNat]!).copy), vI ((((stateM l copies first).1)[o.copy.toNat]!).device), vI ((((stateM l copies first).1)[o.copy.toNat]!).token), Value.bool ((((stateM l copies first).1)[o.copy.toNat]!).shown)]) (.agg #[vI ((((stateM l copies first).1)[o.copy.toNat]!).copy), vI ((((stateM l copies first).1)[o.copy.toNat]!).device), vI ((((stateM l copies first).1)[o.copy.toNat]!).token), Value.bool ((((stateM l copies first).1)[o.copy.toNat]!).shown)]) rfl rfl rfl s_47 (fun u hu => by simp only [List.mem_cons, List.not_mem_nil, or_false] at hu; rcases hu with rfl | rfl | rfl | rfl <;> first | rfl) (by repeat (first | assumption | constructor)) bx3819 (of_decide_eq_true rfl) s3808 fun w3841 s3842 m3843 k3844 bx3845 => (?_))
           have h_l := h_l.mv m3843
           have hp3463 := hp3463.mv m3843
           have hl3836 := hl3836.mv m3843
           have hp3839 := hp3839.mv m3843
           have bx3825 := bx3825.keep k3844 (nin1 (Ne.symm ne3834))
           refine wl_s (o_loadI Try.underlying3 rfl rfl hp3839 (wl_s (o_idx Try.underlying43 s_47 .i64 o.copy o.copy.toNat rfl rfl (by omega) hl3836 (by omega) fun a3846 hp3847 => (wl_s (o_loadS Try.underlying47 rfl s_47 rfl hp3847 fun cs3848 hs3849 => (?_))))))
           obtain rfl := hs3849
           refine wl_n (o_store (vs := [vI ((((stateM ((addM l o).1) copies first).1)[o.copy.toNat]!).copy), vI ((((stateM ((addM l o).1) copies first).1)[o.copy.toNat]!).device), vI ((((stateM ((addM l o).1) copies first).1)[o.copy.toNat]!).token), Value.bool ((((stateM ((addM l o).1) copies first).1)[o.copy.toNat]!).shown)]) (.agg #[vI ((((stateM ((addM l o).1) copies first).1)[o.copy.toNat]!).copy), vI ((((stateM ((addM l o).1) copies first).1)[o.copy.toNat]!).device), vI ((((stateM ((addM l o).1) copies first).1)[o.copy.toNat]!).token), Value.bool ((((stateM ((addM l o).1) copies first).1)[o.copy.toNat]!).shown)]) rfl rfl rfl s_47 (fun u hu => by simp only [List.mem_cons, List.not_mem_nil, or_false] at hu; rcases hu with rfl | rfl | rfl | rfl <;> first | rfl) (by repeat (first | assumption | constructor)) bx3825 (of_decide_eq_true rfl) s3842 fun w3850 s3851 m3852 k3853 bx3854 => (?_))
           have h_l := h_l.mv m3852
           have hp3463 := hp3463.mv m3852
           have bx3845 := bx3845.keep k3853 (nin1 ne3834)
           refine wl_nil (thenQ_n (?_))
           exact ⟨b3814, b3820, (b3820 :: (b3814 :: Bl0)), trivial, ⟨_, upds_self _ ⟨rfl, rfl, rfl, rfl, rfl, trivial⟩⟩, s3851, h_l, hp3463, (by rw [show ([vI (((stateM l copies first).1)[o.copy.toNat]!.copy), vI (((stateM l copies first).1)[o.copy.toNat]!.device), vI (((stateM l copies first).1)[o.copy.toNat]!.token), Value.bool (((stateM l copies first).1)[o.copy.toNat]!.shown)] : List Value) = [vI ((((stateM l copies first).1)[o.copy.toNat]!).copy), vI ((((stateM l copies first).1)[o.copy.toNat]!).device), vI ((((stateM l copies first).1)[o.copy.toNat]!).token), Value.bool ((((stateM l copies first).1)[o.copy.toNat]!).shown)] from by first | rfl | simp]; exact bx3845), (by repeat (first | assumption | constructor)), (by rw [show ([vI (((stateM (addM l o).1 copies first).1)[o.copy.toNat]!.copy), vI (((stateM (addM l o).1 copies first).1)[o.copy.toNat]!.device), vI (((stateM (addM l o).1 copies first).1)[o.copy.toNat]!.token), Value.bool (((stateM (addM l o).1 copies first).1)[o.copy.toNat]!.shown)] : List Value) = [vI ((((stateM ((addM l o).1) copies first).1)[o.copy.toNat]!).copy), vI ((((stateM ((addM l o).1) copies first).1)[o.copy.toNat]!).device), vI ((((stateM ((addM l o).1) copies first).1)[o.copy.toNat]!).token), Value.bool ((((stateM ((addM l o).1) copies first).1)[o.copy.toNat]!).shown)] from by first | rfl | simp]; exact bx3854), (by repeat (first | assumption | constructor)), ne3834⟩
          | 4, _ =>
           intro F3856 w3857 Bs3862 k3855 hB3863 hl3864 sep3865 hT3858 hF3859
           obtain ⟨b3866, e3870, lo3867, hn3868, bx3871⟩ : (TBx wl0 47 [vI (0 : Int), vI (0 : Int), vI (0 : Int), Value.bool false]) (Bs3862 1) (F3856 16) w3857 := hT3858 10 16 (by kernel_rfl) (by decide) (by kernel_rfl) (by kernel_rfl)
           have hi3869 := bx3871.lt
           obtain ⟨b3872, e3876, lo3873, hn3874, bx3877⟩ : (TBx wl0 47 [vI (0 : Int), vI (0 : Int), vI (0 : Int), Value.bool false]) (Bs3862 2) (F3856 17) w3857 := hT3858 11 17 (by kernel_rfl) (by decide) (by kernel_rfl) (by kernel_rfl)
           have hi3875 := bx3877.lt
           have hl3878 : ∀ x ∈ Bl0, x ∈ Bl0 ∨ (wl0.heap.size ≤ x ∧ x < w3857.heap.size) := fun x hx => .inl hx
           have hsu3879 : ∀ x ∈ Bl0, x ∈ Bl0 := fun x hx => hx
           have hq3880 : ∀ x ∈ Bl0, x ∈ Bs3862 1 := fun x hx => hB3863 1 x hx
           have hq3881 : ∀ x ∈ Bl0, x ∈ Bs3862 2 := fun x hx => hB3863 2 x hx
           have hl3882 : ∀ x ∈ (b3866 :: Bl0), x ∈ Bl0 ∨ (wl0.heap.size ≤ x ∧ x < w3857.heap.size) := fun x hx => by rcases List.mem_cons.1 hx with rfl | hx; exact .inr ⟨lo3867, hi3869⟩; exact hl3878 x hx
           have hsu3883 : ∀ x ∈ Bl0, x ∈ (b3866 :: Bl0) := fun x hx => List.mem_cons_of_mem _ (hsu3879 x hx)
           have hl3884 : ∀ x ∈ (b3872 :: (b3866 :: Bl0)), x ∈ Bl0 ∨ (wl0.heap.size ≤ x ∧ x < w3857.heap.size) := fun x hx => by rcases List.mem_cons.1 hx with rfl | hx; exact .inr ⟨lo3873, hi3875⟩; exact hl3882 x hx
           have hsu3885 : ∀ x ∈ Bl0, x ∈ (b3872 :: (b3866 :: Bl0)) := fun x hx => List.mem_cons_of_mem _ (hsu3883 x hx)
           have s3860 := sl0.adoptL k3855 hl3884
           have m3861 : Mv Bl0 wl0 (b3872 :: (b3866 :: Bl0)) w3857 := Mv.adoptL k3855 hl3884
           have ne3886 : NeB b3866 b3872 := fun e => hn3874 (e ▸ sep3865 1 2 b3866 (by decide) lo3867 hi3869 hn3868)
           obtain ⟨a3887, e3889, hp3888⟩ : ∃ aX_, F3856 97 = .pointer (some aX_) ∧ PT Enc.int wl0 (Bl0 ++ O) (.pointer (some aX_)) (o.copy) := hT3858 6 97 (by kernel_rfl) (by decide) (by kernel_rfl) (by kernel_rfl)
           have h_l := h_l.mv m3861
           have hp3463 := hp3463.mv m3861
           have hl3515 := hl3515.mv m3861
           have hp3888 := hp3888.mv m3861
           obtain ⟨F2, rfl⟩ := lit_of (F := F3856) [(0, l_v), (7, Value.pointer (some a3458)), (13, x3514), (157, undef), (16, Value.pointer (some ⟨b3866, 0, none⟩)), (17, Value.pointer (some ⟨b3872, 0, none⟩)), (95, Value.agg #[vI ((((stateM l copies first).1)[o.copy.toNat]!).copy), vI ((((stateM l copies first).1)[o.copy.toNat]!).device), vI ((((stateM l copies first).1)[o.copy.toNat]!).token), Value.bool ((((stateM l copies first).1)[o.copy.toNat]!).shown)]), (97, Value.pointer (some a3887))] ⟨hF3859 0 (by kernel_rfl), hF3859 7 (by kernel_rfl), hF3859 13 (by kernel_rfl), hF3859 157 (by kernel_rfl), e3870, e3876, hT3858 4 95 (by kernel_rfl) (by decide) (by kernel_rfl) (by kernel_rfl), e3889, trivial⟩
           clear hT3858 hF3859 hB3863 hl3864 sep3865
           refine wl_n (o_store (vs := [vI ((((stateM l copies first).1)[o.copy.toNat]!).copy), vI ((((stateM l copies first).1)[o.copy.toNat]!).device), vI ((((stateM l copies first).1)[o.copy.toNat]!).token), Value.bool ((((stateM l copies first).1)[o.copy.toNat]!).shown)]) (.agg #[vI ((((stateM l copies first).1)[o.copy.toNat]!).copy), vI ((((stateM l copies first).1)[o.copy.toNat]!).device), vI ((((stateM l copies first).1)[o.copy.toNat]!).token), Value.bool ((((stateM l copies first).1)[o.copy.toNat]!).shown)]) rfl rfl rfl s_47 (fun u hu => by simp only [List.mem_cons, List.not_mem_nil, or_false] at hu; rcases hu with rfl | rfl | rfl | rfl <;> first | rfl) (by repeat (first | assumption | constructor)) bx3871 (of_decide_eq_true rfl) s3860 fun w3890 s3891 m3892 k3893 bx3894 => (?_))
           have h_l := h_l.mv m3892
           have hp3463 := hp3463.mv m3892
           have hl3515 := hl3515.mv m3892
           have hp3888 := hp3888.mv m3892
           have bx3877 := bx3877.keep k3893 (nin1 (Ne.symm ne3886))
           refine wl_s (o_move (x3514) rfl (wl_s (o_loadI Try.underlying3 rfl rfl hp3888 (wl_s (o_idx Try.underlying43 s_47 .i64 o.copy o.copy.toNat rfl rfl (by omega) hl3515 (by omega) fun a3895 hp3896 => (wl_s (o_loadS Try.underlying47 rfl s_47 rfl hp3896 fun cs3897 hs3898 => (?_))))))))
           obtain rfl := hs3898
           refine wl_n (o_store (vs := [vI ((((stateM ((addM l o).1) copies first).1)[o.copy.toNat]!).copy), vI ((((stateM ((addM l o).1) copies first).1)[o.copy.toNat]!).device), vI ((((stateM ((addM l o).1) copies first).1)[o.copy.toNat]!).token), Value.bool ((((stateM ((addM l o).1) copies first).1)[o.copy.toNat]!).shown)]) (.agg #[vI ((((stateM ((addM l o).1) copies first).1)[o.copy.toNat]!).copy), vI ((((stateM ((addM l o).1) copies first).1)[o.copy.toNat]!).device), vI ((((stateM ((addM l o).1) copies first).1)[o.copy.toNat]!).token), Value.bool ((((stateM ((addM l o).1) copies first).1)[o.copy.toNat]!).shown)]) rfl rfl rfl s_47 (fun u hu => by simp only [List.mem_cons, List.not_mem_nil, or_false] at hu; rcases hu with rfl | rfl | rfl | rfl <;> first | rfl) (by repeat (first | assumption | constructor)) bx3877 (of_decide_eq_true rfl) s3891 fun w3899 s3900 m3901 k3902 bx3903 => (?_))
           have h_l := h_l.mv m3901
           have hp3463 := hp3463.mv m3901
           have bx3894 := bx3894.keep k3902 (nin1 ne3886)
           refine wl_nil (thenQ_n (?_))
           exact ⟨b3866, b3872, (b3872 :: (b3866 :: Bl0)), trivial, ⟨_, upds_self _ ⟨rfl, rfl, rfl, rfl, rfl, trivial⟩⟩, s3900, h_l, hp3463, (by rw [show ([vI (((stateM l copies first).1)[o.copy.toNat]!.copy), vI (((stateM l copies first).1)[o.copy.toNat]!.device), vI (((stateM l copies first).1)[o.copy.toNat]!.token), Value.bool (((stateM l copies first).1)[o.copy.toNat]!.shown)] : List Value) = [vI ((((stateM l copies first).1)[o.copy.toNat]!).copy), vI ((((stateM l copies first).1)[o.copy.toNat]!).device), vI ((((stateM l copies first).1)[o.copy.toNat]!).token), Value.bool ((((stateM l copies first).1)[o.copy.toNat]!).shown)] from by first | rfl | simp]; exact bx3894), (by repeat (first | assumption | constructor)), (by rw [show ([vI (((stateM (addM l o).1 copies first).1)[o.copy.toNat]!.copy), vI (((stateM (addM l o).1 copies first).1)[o.copy.toNat]!.device), vI (((stateM (addM l o).1 copies first).1)[o.copy.toNat]!.token), Value.bool (((stateM (addM l o).1 copies first).1)[o.copy.toNat]!.shown)] : List Value) = [vI ((((stateM ((addM l o).1) copies first).1)[o.copy.toNat]!).copy), vI ((((stateM ((addM l o).1) copies first).1)[o.copy.toNat]!).device), vI ((((stateM ((addM l o).1) copies first).1)[o.copy.toNat]!).token), Value.bool ((((stateM ((addM l o).1) copies first).1)[o.copy.toNat]!).shown)] from by first | rfl | simp]; exact bx3903), (by repeat (first | assumption | constructor)), ne3886⟩
          | 5, _ =>
           intro F3905 w3906 Bs3911 k3904 hB3912 hl3913 sep3914 hT3907 hF3908
           obtain ⟨b3915, e3919, lo3916, hn3917, bx3920⟩ : (TBx wl0 47 [vI (0 : Int), vI (0 : Int), vI (0 : Int), Value.bool false]) (Bs3911 1) (F3905 16) w3906 := hT3907 10 16 (by kernel_rfl) (by decide) (by kernel_rfl) (by kernel_rfl)
           have hi3918 := bx3920.lt
           obtain ⟨b3921, e3925, lo3922, hn3923, bx3926⟩ : (TBx wl0 47 [vI (0 : Int), vI (0 : Int), vI (0 : Int), Value.bool false]) (Bs3911 2) (F3905 17) w3906 := hT3907 11 17 (by kernel_rfl) (by decide) (by kernel_rfl) (by kernel_rfl)
           have hi3924 := bx3926.lt
           have hl3927 : ∀ x ∈ Bl0, x ∈ Bl0 ∨ (wl0.heap.size ≤ x ∧ x < w3906.heap.size) := fun x hx => .inl hx
           have hsu3928 : ∀ x ∈ Bl0, x ∈ Bl0 := fun x hx => hx
           have hq3929 : ∀ x ∈ Bl0, x ∈ Bs3911 1 := fun x hx => hB3912 1 x hx
           have hq3930 : ∀ x ∈ Bl0, x ∈ Bs3911 2 := fun x hx => hB3912 2 x hx
           have hl3931 : ∀ x ∈ (b3915 :: Bl0), x ∈ Bl0 ∨ (wl0.heap.size ≤ x ∧ x < w3906.heap.size) := fun x hx => by rcases List.mem_cons.1 hx with rfl | hx; exact .inr ⟨lo3916, hi3918⟩; exact hl3927 x hx
           have hsu3932 : ∀ x ∈ Bl0, x ∈ (b3915 :: Bl0) := fun x hx => List.mem_cons_of_mem _ (hsu3928 x hx)
           have hl3933 : ∀ x ∈ (b3921 :: (b3915 :: Bl0)), x ∈ Bl0 ∨ (wl0.heap.size ≤ x ∧ x < w3906.heap.size) := fun x hx => by rcases List.mem_cons.1 hx with rfl | hx; exact .inr ⟨lo3922, hi3924⟩; exact hl3931 x hx
           have hsu3934 : ∀ x ∈ Bl0, x ∈ (b3921 :: (b3915 :: Bl0)) := fun x hx => List.mem_cons_of_mem _ (hsu3932 x hx)
           have s3909 := sl0.adoptL k3904 hl3933
           have m3910 : Mv Bl0 wl0 (b3921 :: (b3915 :: Bl0)) w3906 := Mv.adoptL k3904 hl3933
           have ne3935 : NeB b3915 b3921 := fun e => hn3923 (e ▸ sep3914 1 2 b3915 (by decide) lo3916 hi3918 hn3917)
           obtain ⟨v3936, e3938, hl3937⟩ : ∃ v, F3905 96 = v ∧ RdL Enc.holding wl0 (Bl0 ++ O) v ((stateM ((addM l o).1) copies first).1) := ⟨_, rfl, hT3907 5 96 (by kernel_rfl) (by decide) (by kernel_rfl) (by kernel_rfl)⟩
           have := hl3937.len_le
           have h_l := h_l.mv m3910
           have hp3463 := hp3463.mv m3910
           have hl3937 := hl3937.mv m3910
           obtain ⟨F2, rfl⟩ := lit_of (F := F3905) [(0, l_v), (7, Value.pointer (some a3458)), (157, undef), (16, Value.pointer (some ⟨b3915, 0, none⟩)), (17, Value.pointer (some ⟨b3921, 0, none⟩)), (95, Value.agg #[vI ((((stateM l copies first).1)[o.copy.toNat]!).copy), vI ((((stateM l copies first).1)[o.copy.toNat]!).device), vI ((((stateM l copies first).1)[o.copy.toNat]!).token), Value.bool ((((stateM l copies first).1)[o.copy.toNat]!).shown)]), (96, v3936)] ⟨hF3908 0 (by kernel_rfl), hF3908 7 (by kernel_rfl), hF3908 157 (by kernel_rfl), e3919, e3925, hT3907 4 95 (by kernel_rfl) (by decide) (by kernel_rfl) (by kernel_rfl), e3938, trivial⟩
           clear hT3907 hF3908 hB3912 hl3913 sep3914
           refine wl_n (o_store (vs := [vI ((((stateM l copies first).1)[o.copy.toNat]!).copy), vI ((((stateM l copies first).1)[o.copy.toNat]!).device), vI ((((stateM l copies first).1)[o.copy.toNat]!).token), Value.bool ((((stateM l copies first).1)[o.copy.toNat]!).shown)]) (.agg #[vI ((((stateM l copies first).1)[o.copy.toNat]!).copy), vI ((((stateM l copies first).1)[o.copy.toNat]!).device), vI ((((stateM l copies first).1)[o.copy.toNat]!).token), Value.bool ((((stateM l copies first).1)[o.copy.toNat]!).shown)]) rfl rfl rfl s_47 (fun u hu => by simp only [List.mem_cons, List.not_mem_nil, or_false] at hu; rcases hu with rfl | rfl | rfl | rfl <;> first | rfl) (by repeat (first | assumption | constructor)) bx3920 (of_decide_eq_true rfl) s3909 fun w3939 s3940 m3941 k3942 bx3943 => (?_))
           have h_l := h_l.mv m3941
           have hp3463 := hp3463.mv m3941
           have hl3937 := hl3937.mv m3941
           have bx3926 := bx3926.keep k3942 (nin1 (Ne.symm ne3935))
           refine wl_s (o_fieldR 3 f_40_3 (o.copy) rfl hp3463 (fun _ _ _ h => Enc_devop_f3 h) fun a3944 hp3945 => (wl_s (o_loadI Try.underlying3 rfl rfl hp3945 (wl_s (o_idx Try.underlying43 s_47 .i64 o.copy o.copy.toNat rfl rfl (by omega) hl3937 (by omega) fun a3946 hp3947 => (wl_s (o_loadS Try.underlying47 rfl s_47 rfl hp3947 fun cs3948 hs3949 => (?_))))))))
           obtain rfl := hs3949
           refine wl_n (o_store (vs := [vI ((((stateM ((addM l o).1) copies first).1)[o.copy.toNat]!).copy), vI ((((stateM ((addM l o).1) copies first).1)[o.copy.toNat]!).device), vI ((((stateM ((addM l o).1) copies first).1)[o.copy.toNat]!).token), Value.bool ((((stateM ((addM l o).1) copies first).1)[o.copy.toNat]!).shown)]) (.agg #[vI ((((stateM ((addM l o).1) copies first).1)[o.copy.toNat]!).copy), vI ((((stateM ((addM l o).1) copies first).1)[o.copy.toNat]!).device), vI ((((stateM ((addM l o).1) copies first).1)[o.copy.toNat]!).token), Value.bool ((((stateM ((addM l o).1) copies first).1)[o.copy.toNat]!).shown)]) rfl rfl rfl s_47 (fun u hu => by simp only [List.mem_cons, List.not_mem_nil, or_false] at hu; rcases hu with rfl | rfl | rfl | rfl <;> first | rfl) (by repeat (first | assumption | constructor)) bx3926 (of_decide_eq_true rfl) s3940 fun w3950 s3951 m3952 k3953 bx3954 => (?_))
           have h_l := h_l.mv m3952
           have hp3463 := hp3463.mv m3952
           have bx3943 := bx3943.keep k3953 (nin1 ne3935)
           refine wl_nil (thenQ_n (?_))
           exact ⟨b3915, b3921, (b3921 :: (b3915 :: Bl0)), trivial, ⟨_, upds_self _ ⟨rfl, rfl, rfl, rfl, rfl, trivial⟩⟩, s3951, h_l, hp3463, (by rw [show ([vI (((stateM l copies first).1)[o.copy.toNat]!.copy), vI (((stateM l copies first).1)[o.copy.toNat]!.device), vI (((stateM l copies first).1)[o.copy.toNat]!.token), Value.bool (((stateM l copies first).1)[o.copy.toNat]!.shown)] : List Value) = [vI ((((stateM l copies first).1)[o.copy.toNat]!).copy), vI ((((stateM l copies first).1)[o.copy.toNat]!).device), vI ((((stateM l copies first).1)[o.copy.toNat]!).token), Value.bool ((((stateM l copies first).1)[o.copy.toNat]!).shown)] from by first | rfl | simp]; exact bx3943), (by repeat (first | assumption | constructor)), (by rw [show ([vI (((stateM (addM l o).1 copies first).1)[o.copy.toNat]!.copy), vI (((stateM (addM l o).1 copies first).1)[o.copy.toNat]!.device), vI (((stateM (addM l o).1 copies first).1)[o.copy.toNat]!.token), Value.bool (((stateM (addM l o).1 copies first).1)[o.copy.toNat]!.shown)] : List Value) = [vI ((((stateM ((addM l o).1) copies first).1)[o.copy.toNat]!).copy), vI ((((stateM ((addM l o).1) copies first).1)[o.copy.toNat]!).device), vI ((((stateM ((addM l o).1) copies first).1)[o.copy.toNat]!).token), Value.bool ((((stateM ((addM l o).1) copies first).1)[o.copy.toNat]!).shown)] from by first | rfl | simp]; exact bx3954), (by repeat (first | assumption | constructor)), ne3935⟩
          | 6, _ =>
           intro F3956 w3957 Bs3962 k3955 hB3963 hl3964 sep3965 hT3958 hF3959
           obtain ⟨b3966, e3970, lo3967, hn3968, bx3971⟩ : (TBx wl0 47 [vI (0 : Int), vI (0 : Int), vI (0 : Int), Value.bool false]) (Bs3962 1) (F3956 16) w3957 := hT3958 10 16 (by kernel_rfl) (by decide) (by kernel_rfl) (by kernel_rfl)
           have hi3969 := bx3971.lt
           obtain ⟨b3972, e3976, lo3973, hn3974, bx3977⟩ : (TBx wl0 47 [vI (0 : Int), vI (0 : Int), vI (0 : Int), Value.bool false]) (Bs3962 2) (F3956 17) w3957 := hT3958 11 17 (by kernel_rfl) (by decide) (by kernel_rfl) (by kernel_rfl)
           have hi3975 := bx3977.lt
           have hl3978 : ∀ x ∈ Bl0, x ∈ Bl0 ∨ (wl0.heap.size ≤ x ∧ x < w3957.heap.size) := fun x hx => .inl hx
           have hsu3979 : ∀ x ∈ Bl0, x ∈ Bl0 := fun x hx => hx
           have hq3980 : ∀ x ∈ Bl0, x ∈ Bs3962 1 := fun x hx => hB3963 1 x hx
           have hq3981 : ∀ x ∈ Bl0, x ∈ Bs3962 2 := fun x hx => hB3963 2 x hx
           have hl3982 : ∀ x ∈ (b3966 :: Bl0), x ∈ Bl0 ∨ (wl0.heap.size ≤ x ∧ x < w3957.heap.size) := fun x hx => by rcases List.mem_cons.1 hx with rfl | hx; exact .inr ⟨lo3967, hi3969⟩; exact hl3978 x hx
           have hsu3983 : ∀ x ∈ Bl0, x ∈ (b3966 :: Bl0) := fun x hx => List.mem_cons_of_mem _ (hsu3979 x hx)
           have hl3984 : ∀ x ∈ (b3972 :: (b3966 :: Bl0)), x ∈ Bl0 ∨ (wl0.heap.size ≤ x ∧ x < w3957.heap.size) := fun x hx => by rcases List.mem_cons.1 hx with rfl | hx; exact .inr ⟨lo3973, hi3975⟩; exact hl3982 x hx
           have hsu3985 : ∀ x ∈ Bl0, x ∈ (b3972 :: (b3966 :: Bl0)) := fun x hx => List.mem_cons_of_mem _ (hsu3983 x hx)
           have s3960 := sl0.adoptL k3955 hl3984
           have m3961 : Mv Bl0 wl0 (b3972 :: (b3966 :: Bl0)) w3957 := Mv.adoptL k3955 hl3984
           have ne3986 : NeB b3966 b3972 := fun e => hn3974 (e ▸ sep3965 1 2 b3966 (by decide) lo3967 hi3969 hn3968)
           have h_l := h_l.mv m3961
           have hp3463 := hp3463.mv m3961
           have hl3515 := hl3515.mv m3961
           obtain ⟨F2, rfl⟩ := lit_of (F := F3956) [(0, l_v), (7, Value.pointer (some a3458)), (13, x3514), (157, undef), (16, Value.pointer (some ⟨b3966, 0, none⟩)), (17, Value.pointer (some ⟨b3972, 0, none⟩)), (95, Value.agg #[vI ((((stateM l copies first).1)[o.copy.toNat]!).copy), vI ((((stateM l copies first).1)[o.copy.toNat]!).device), vI ((((stateM l copies first).1)[o.copy.toNat]!).token), Value.bool ((((stateM l copies first).1)[o.copy.toNat]!).shown)])] ⟨hF3959 0 (by kernel_rfl), hF3959 7 (by kernel_rfl), hF3959 13 (by kernel_rfl), hF3959 157 (by kernel_rfl), e3970, e3976, hT3958 4 95 (by kernel_rfl) (by decide) (by kernel_rfl) (by kernel_rfl), trivial⟩
           clear hT3958 hF3959 hB3963 hl3964 sep3965
           refine wl_n (o_store (vs := [vI ((((stateM l copies first).1)[o.copy.toNat]!).copy), vI ((((stateM l copies first).1)[o.copy.toNat]!).device), vI ((((stateM l copies first).1)[o.copy.toNat]!).token), Value.bool ((((stateM l copies first).1)[o.copy.toNat]!).shown)]) (.agg #[vI ((((stateM l copies first).1)[o.copy.toNat]!).copy), vI ((((stateM l copies first).1)[o.copy.toNat]!).device), vI ((((stateM l copies first).1)[o.copy.toNat]!).token), Value.bool ((((stateM l copies first).1)[o.copy.toNat]!).shown)]) rfl rfl rfl s_47 (fun u hu => by simp only [List.mem_cons, List.not_mem_nil, or_false] at hu; rcases hu with rfl | rfl | rfl | rfl <;> first | rfl) (by repeat (first | assumption | constructor)) bx3971 (of_decide_eq_true rfl) s3960 fun w3987 s3988 m3989 k3990 bx3991 => (?_))
           have h_l := h_l.mv m3989
           have hp3463 := hp3463.mv m3989
           have hl3515 := hl3515.mv m3989
           have bx3977 := bx3977.keep k3990 (nin1 (Ne.symm ne3986))
           refine wl_s (o_fieldR 3 f_40_3 (o.copy) rfl hp3463 (fun _ _ _ h => Enc_devop_f3 h) fun a3992 hp3993 => (wl_s (o_move (x3514) rfl (wl_s (o_loadI Try.underlying3 rfl rfl hp3993 (wl_s (o_idx Try.underlying43 s_47 .i64 o.copy o.copy.toNat rfl rfl (by omega) hl3515 (by omega) fun a3994 hp3995 => (wl_s (o_loadS Try.underlying47 rfl s_47 rfl hp3995 fun cs3996 hs3997 => (?_))))))))))
           obtain rfl := hs3997
           refine wl_n (o_store (vs := [vI ((((stateM ((addM l o).1) copies first).1)[o.copy.toNat]!).copy), vI ((((stateM ((addM l o).1) copies first).1)[o.copy.toNat]!).device), vI ((((stateM ((addM l o).1) copies first).1)[o.copy.toNat]!).token), Value.bool ((((stateM ((addM l o).1) copies first).1)[o.copy.toNat]!).shown)]) (.agg #[vI ((((stateM ((addM l o).1) copies first).1)[o.copy.toNat]!).copy), vI ((((stateM ((addM l o).1) copies first).1)[o.copy.toNat]!).device), vI ((((stateM ((addM l o).1) copies first).1)[o.copy.toNat]!).token), Value.bool ((((stateM ((addM l o).1) copies first).1)[o.copy.toNat]!).shown)]) rfl rfl rfl s_47 (fun u hu => by simp only [List.mem_cons, List.not_mem_nil, or_false] at hu; rcases hu with rfl | rfl | rfl | rfl <;> first | rfl) (by repeat (first | assumption | constructor)) bx3977 (of_decide_eq_true rfl) s3988 fun w3998 s3999 m4000 k4001 bx4002 => (?_))
           have h_l := h_l.mv m4000
           have hp3463 := hp3463.mv m4000
           have bx3991 := bx3991.keep k4001 (nin1 ne3986)
           refine wl_nil (thenQ_n (?_))
           exact ⟨b3966, b3972, (b3972 :: (b3966 :: Bl0)), trivial, ⟨_, upds_self _ ⟨rfl, rfl, rfl, rfl, rfl, trivial⟩⟩, s3999, h_l, hp3463, (by rw [show ([vI (((stateM l copies first).1)[o.copy.toNat]!.copy), vI (((stateM l copies first).1)[o.copy.toNat]!.device), vI (((stateM l copies first).1)[o.copy.toNat]!.token), Value.bool (((stateM l copies first).1)[o.copy.toNat]!.shown)] : List Value) = [vI ((((stateM l copies first).1)[o.copy.toNat]!).copy), vI ((((stateM l copies first).1)[o.copy.toNat]!).device), vI ((((stateM l copies first).1)[o.copy.toNat]!).token), Value.bool ((((stateM l copies first).1)[o.copy.toNat]!).shown)] from by first | rfl | simp]; exact bx3991), (by repeat (first | assumption | constructor)), (by rw [show ([vI (((stateM (addM l o).1 copies first).1)[o.copy.toNat]!.copy), vI (((stateM (addM l o).1 copies first).1)[o.copy.toNat]!.device), vI (((stateM (addM l o).1 copies first).1)[o.copy.toNat]!.token), Value.bool (((stateM (addM l o).1 copies first).1)[o.copy.toNat]!.shown)] : List Value) = [vI ((((stateM ((addM l o).1) copies first).1)[o.copy.toNat]!).copy), vI ((((stateM ((addM l o).1) copies first).1)[o.copy.toNat]!).device), vI ((((stateM ((addM l o).1) copies first).1)[o.copy.toNat]!).token), Value.bool ((((stateM ((addM l o).1) copies first).1)[o.copy.toNat]!).shown)] from by first | rfl | simp]; exact bx4002), (by repeat (first | assumption | constructor)), ne3986⟩
        ·intro F wlc101 hI
         clear h_l hp3463
         obtain ⟨bnc101_16, bnc101_17, Blc101, hmc101, ⟨Flc101, rfl⟩, slc101, h_l, hp3463, hbn_bnc101_16, hin_bnc101_16, hbn_bnc101_17, hin_bnc101_17, nebnc101_17_bnc101_16⟩ := hI
         refine cw_seq (?_)
         refine cw_seq (?_)
         refine cw_region (by kernel_rfl) (wl_s (o_move (l_v) rfl (wl_s (o_lenR Try.underlying26 rfl h_l (wl_s (o_move (vI (0 : Int)) rfl (wl_nil (thenQ_n (?_)))))))))
         refine cw_block (?_)
         refine cw_loop (fun mI FI wI => ∃ (k : Nat) (B : List Nat), k ≤ l.length ∧ (∀ q, q < k → ¬ (l[q]!.copy = o.copy ∧ o.token ≤ l[q]!.token)) ∧ mI = l.length - k ∧ (∃ F1, FI = upds F1 [(7, Value.pointer (some a3458)), (16, Value.pointer (some ⟨bnc101_16, 0, none⟩)), (17, Value.pointer (some ⟨bnc101_17, 0, none⟩)), (101, l_v), (102, vI (l.length : Int)), (103, vI ((k : Nat) : Int)), (157, undef)]) ∧ St w O wI B ∧ PT Enc.devop wI (B ++ O) (.pointer (some a3458)) (o) ∧ RdL Enc.devop wI (B ++ O) (l_v) (l) ∧ Box wI bnc101_16 47 [vI (((stateM l copies first).1)[o.copy.toNat]!.copy), vI (((stateM l copies first).1)[o.copy.toNat]!.device), vI (((stateM l copies first).1)[o.copy.toNat]!.token), Value.bool (((stateM l copies first).1)[o.copy.toNat]!.shown)] ∧ bnc101_16 ∈ B ∧ Box wI bnc101_17 47 [vI (((stateM (addM l o).1 copies first).1)[o.copy.toNat]!.copy), vI (((stateM (addM l o).1 copies first).1)[o.copy.toNat]!.device), vI (((stateM (addM l o).1 copies first).1)[o.copy.toNat]!.token), Value.bool (((stateM (addM l o).1 copies first).1)[o.copy.toNat]!.shown)] ∧ bnc101_17 ∈ B) (l.length - (0)) ?_ ?_
         ·exact ⟨(0), Blc101, (by omega), (fun q hq => by omega), rfl, ⟨_, upds_self _ ⟨rfl, rfl, rfl, rfl, rfl, (by first | rfl | exact congrArg (Value.int _) (by first | omega | (simp))), rfl, trivial⟩⟩, slc101, hp3463, h_l, hbn_bnc101_16, (by first | assumption | (repeat (first | exact List.mem_cons_self | assumption | apply List.mem_cons_of_mem)) | (apply_assumption; assumption)), hbn_bnc101_17, (by first | assumption | (repeat (first | exact List.mem_cons_self | assumption | apply List.mem_cons_of_mem)) | (apply_assumption; assumption))⟩
         ·intro ml1 F wl1 hI
          clear hp3463 h_l hbn_bnc101_16 hbn_bnc101_17
          obtain ⟨k, Bl1, hr1_0, hr1_1, hm1, ⟨Fl1, rfl⟩, sl1, hp3463, h_l, hbn_bnc101_16, hin_bnc101_16, hbn_bnc101_17, hin_bnc101_17⟩ := hI
          refine cw_seq (?_)
          refine cw_region (by kernel_rfl) (wl_s (o_lss .i64 ((k : Nat) : Int) (l.length : Int) rfl rfl (wl_nil (thenQ_n (?_)))))
          refine cw_seq (?_)
          refine cw_cond (decide (((k : Nat) : Int) < (l.length : Int))) rfl rfl (fun hc4003 => ?_) (fun hc4003 => ?_)
          ·have hp4004 : ((k : Nat) : Int) < (l.length : Int) := by first | simpa using hc4003 | (have e := hc4003; simp at e; omega)
           refine cw_skip (thenQ_n (?_))
           refine cw_seq (?_)
           refine cw_block (?_)
           refine cw_seq (?_)
           refine cw_region (by kernel_rfl) (wl_s (o_idx Try.underlying26 s_40 .i64 ((k : Nat) : Int) k rfl rfl rfl h_l (by omega) fun a4005 hp4006 => (wl_s (o_loadS Try.underlying40 rfl s_40 rfl hp4006 fun cs4007 hs4008 => (?_)))))
           obtain rfl := hs4008
           refine wl_s (o_alloc [vI (0 : Int), vI (0 : Int), vI (0 : Int), vI (0 : Int), vI (0 : Int), vI (0 : Int)] z_40 rfl sl1 fun b4009 w4010 e4015 s4011 m4012 k4013 bx4014 => (?_))
           have ne4016 : NeB bnc101_16 b4009 := by show bnc101_16 ≠ b4009; have := hbn_bnc101_16.lt; omega
           have ne4017 : NeB bnc101_17 b4009 := by show bnc101_17 ≠ b4009; have := hbn_bnc101_17.lt; omega
           clear e4015
           have hp3463 := hp3463.mv m4012
           have h_l := h_l.mv m4012
           have hbn_bnc101_16 := hbn_bnc101_16.keep k4013 (by simp)
           have hbn_bnc101_17 := hbn_bnc101_17.keep k4013 (by simp)
           refine wl_n (o_store (vs := [vI ((l[k]!).device), vI ((l[k]!).no), vI ((l[k]!).kind), vI ((l[k]!).copy), vI ((l[k]!).to), vI ((l[k]!).token)]) (.agg #[vI ((l[k]!).device), vI ((l[k]!).no), vI ((l[k]!).kind), vI ((l[k]!).copy), vI ((l[k]!).to), vI ((l[k]!).token)]) rfl rfl rfl s_40 (fun u hu => by simp only [List.mem_cons, List.not_mem_nil, or_false] at hu; rcases hu with rfl | rfl | rfl | rfl | rfl | rfl <;> first | rfl) (by repeat (first | assumption | constructor)) bx4014 (of_decide_eq_true rfl) s4011 fun w4018 s4019 m4020 k4021 bx4022 => (?_))
           have hp3463 := hp3463.mv m4020
           have h_l := h_l.mv m4020
           have hbn_bnc101_16 := hbn_bnc101_16.keep k4021 (nin1 ne4016)
           have hbn_bnc101_17 := hbn_bnc101_17.keep k4021 (nin1 ne4017)
           refine wl_nil (thenQ_n (?_))
           refine cw_seq (?_)
           refine cw_region (by kernel_rfl) (wl_s (o_fieldL 3 f_40_3 rfl (wl_s (o_loadBx Try.underlying3 rfl (vI ((l[k]!).copy)) rfl bx4022 rfl (wl_s (o_fieldR 3 f_40_3 (o.copy) rfl hp3463 (fun _ _ _ h => Enc_devop_f3 h) fun a4023 hp4024 => (wl_s (o_loadI Try.underlying3 rfl rfl hp4024 (wl_s (o_eql .i64 ((l[k]!).copy) o.copy rfl rfl (wl_s (o_move (Value.bool (((l[k]!).copy) == o.copy)) rfl (?_)))))))))))))
           cases hb4025 : (((l[k]!).copy) == o.copy)
           ·have hp4026 : (l[k]!).copy ≠ o.copy := by first | simpa using hb4025 | (have e := hb4025; simp at e; omega)
            refine wl_k rfl (wl_k rfl (wl_k rfl (wl_k rfl (wl_k rfl (wl_s (o_pickF (Value.bool false) rfl rfl (wl_nil (thenQ_n (?_)))))))))
            refine cw_cond false rfl rfl (fun h => by cases h) (fun _ => ?_)
            refine cw_skip (blockQ_n (thenQ_n (?_)))
            refine cw_region (by kernel_rfl) (wl_s (o_add .i64 ((k : Nat) : Int) (1 : Int) (((k + 1 : Nat) : Int)) rfl rfl (w64 (by omega) (by omega)) (wl_s (o_move (vI ((k + 1 : Nat) : Int)) rfl (wl_nil (thenQ_n (?_)))))))
            exact ⟨_, (by omega), (k + 1), (b4009 :: Bl1), (by omega), (nr_step hr1_1 (by first | exact .inl (by assumption) | exact .inr (by assumption))), rfl, ⟨_, upds_self _ ⟨rfl, rfl, rfl, rfl, rfl, (by first | rfl | exact congrArg (Value.int _) (by first | omega | (simp))), rfl, trivial⟩⟩, s4019, hp3463, h_l, hbn_bnc101_16, (by first | assumption | (repeat (first | exact List.mem_cons_self | assumption | apply List.mem_cons_of_mem)) | (apply_assumption; assumption)), hbn_bnc101_17, (by first | assumption | (repeat (first | exact List.mem_cons_self | assumption | apply List.mem_cons_of_mem)) | (apply_assumption; assumption))⟩
           ·have hp4027 : (l[k]!).copy = o.copy := by first | simpa using hb4025 | (have e := hb4025; simp at e; omega)
            refine wl_t rfl (o_fieldL 5 f_40_5 rfl (wl_t rfl (o_loadBx Try.underlying3 rfl (vI ((l[k]!).token)) rfl bx4022 rfl (wl_t rfl (o_fieldR 5 f_40_5 (o.token) rfl hp3463 (fun _ _ _ h => Enc_devop_f5 h) fun a4028 hp4029 => (wl_t rfl (o_loadI Try.underlying3 rfl rfl hp4029 (wl_t rfl (o_geq .i64 ((l[k]!).token) o.token rfl rfl (wl_s (o_pickT (Value.bool (decide (o.token ≤ (l[k]!).token))) rfl rfl (wl_nil (thenQ_n (?_))))))))))))))
            refine cw_cond (decide (o.token ≤ (l[k]!).token)) rfl rfl (fun hc4030 => ?_) (fun hc4030 => ?_)
            ·have hp4031 : o.token ≤ (l[k]!).token := by first | simpa using hc4030 | (have e := hc4030; simp at e; omega)
             refine cw_seq (?_)
             refine cw_region (by kernel_rfl) (wl_s (o_assign (Value.bool true) rfl (wl_nil (thenQ_n (?_)))))
             refine cw_ret (blockQ_r (thenQ_r (thenQ_r (blockQ_r (thenQ_r (end_r rfl (res1 rfl rfl rfl) (?_)))))))
             exact ⟨_, rfl, s4019.keep, rfl⟩
            ·have hp4032 : (l[k]!).token < o.token := by first | simpa using hc4030 | (have e := hc4030; simp at e; omega)
             refine cw_skip (blockQ_n (thenQ_n (?_)))
             refine cw_region (by kernel_rfl) (wl_s (o_add .i64 ((k : Nat) : Int) (1 : Int) (((k + 1 : Nat) : Int)) rfl rfl (w64 (by omega) (by omega)) (wl_s (o_move (vI ((k + 1 : Nat) : Int)) rfl (wl_nil (thenQ_n (?_)))))))
             exact ⟨_, (by omega), (k + 1), (b4009 :: Bl1), (by omega), (nr_step hr1_1 (by first | exact .inl (by assumption) | exact .inr (by assumption))), rfl, ⟨_, upds_self _ ⟨rfl, rfl, rfl, rfl, rfl, (by first | rfl | exact congrArg (Value.int _) (by first | omega | (simp))), rfl, trivial⟩⟩, s4019, hp3463, h_l, hbn_bnc101_16, (by first | assumption | (repeat (first | exact List.mem_cons_self | assumption | apply List.mem_cons_of_mem)) | (apply_assumption; assumption)), hbn_bnc101_17, (by first | assumption | (repeat (first | exact List.mem_cons_self | assumption | apply List.mem_cons_of_mem)) | (apply_assumption; assumption))⟩
          ·have hp4033 : (l.length : Int) ≤ ((k : Nat) : Int) := by first | simpa using hc4003 | (have e := hc4003; simp at e; omega)
           obtain rfl : k = l.length := by omega
           refine cw_exit (thenQ_x (thenQ_x (blockQ_x (thenQ_n (?_)))))
           refine cw_seq (?_)
           refine cw_seq (?_)
           refine cw_region (by kernel_rfl) (wl_s (o_fieldR 5 f_40_5 (o.token) rfl hp3463 (fun _ _ _ h => Enc_devop_f5 h) fun a4034 hp4035 => (wl_s (o_loadI Try.underlying3 rfl rfl hp4035 (wl_s (o_fieldL 2 f_47_2 rfl (wl_s (o_loadBx Try.underlying3 rfl (vI (((stateM l copies first).1)[o.copy.toNat]!.token)) rfl hbn_bnc101_16 rfl (wl_s (o_add .i64 (((stateM l copies first).1)[o.copy.toNat]!.token) (1 : Int) (((stateM l copies first).1)[o.copy.toNat]!.token + 1) rfl rfl (w64 (by have := nx_tok hst (k := o.copy.toNat) (by omega); omega) rfl) (wl_s (o_neq .i64 o.token (((stateM l copies first).1)[o.copy.toNat]!.token + 1) rfl rfl (wl_s (o_move (Value.bool (o.token != (((stateM l copies first).1)[o.copy.toNat]!.token + 1))) rfl (?_)))))))))))))))
           cases hb4036 : (o.token != (((stateM l copies first).1)[o.copy.toNat]!.token + 1))
           ·have hp4037 : o.token = ((stateM l copies first).1)[o.copy.toNat]!.token + 1 := by first | simpa using hb4036 | (have e := hb4036; simp at e; omega)
            refine wl_t rfl (o_fieldR 0 f_40_0 (o.device) rfl hp3463 (fun _ _ _ h => Enc_devop_f0 h) fun a4038 hp4039 => (wl_t rfl (o_loadI Try.underlying3 rfl rfl hp4039 (wl_t rfl (o_fieldL 1 f_47_1 rfl (wl_t rfl (o_loadBx Try.underlying3 rfl (vI (((stateM l copies first).1)[o.copy.toNat]!.device)) rfl hbn_bnc101_16 rfl (wl_t rfl (o_neq .i64 o.device (((stateM l copies first).1)[o.copy.toNat]!.device) rfl rfl (wl_s (o_pickF (Value.bool (o.device != (((stateM l copies first).1)[o.copy.toNat]!.device))) rfl rfl (wl_s (o_move (Value.bool (o.device != (((stateM l copies first).1)[o.copy.toNat]!.device))) rfl (?_))))))))))))))
            cases hb4040 : (o.device != (((stateM l copies first).1)[o.copy.toNat]!.device))
            ·have hp4041 : o.device = ((stateM l copies first).1)[o.copy.toNat]!.device := by first | simpa using hb4040 | (have e := hb4040; simp at e; omega)
             refine wl_t rfl (o_fieldL 3 f_47_3 rfl (wl_t rfl (o_loadBx Try.underlying4 rfl (Value.bool (((stateM l copies first).1)[o.copy.toNat]!.shown)) rfl hbn_bnc101_16 rfl (wl_s (o_pickF (Value.bool (((stateM l copies first).1)[o.copy.toNat]!.shown)) rfl rfl (wl_nil (thenQ_n (?_))))))))
             refine cw_cond (((stateM l copies first).1)[o.copy.toNat]!.shown) rfl rfl (fun hc4042 => ?_) (fun hc4042 => ?_)
             ·have hp4043 : (((stateM l copies first).1)[o.copy.toNat]!.shown) = true := by first | simpa using hc4042 | (have e := hc4042; simp at e; omega)
              refine cw_seq (?_)
              refine cw_region (by kernel_rfl) (wl_s (o_loadBxA (vs := [vI (((stateM (addM l o).1 copies first).1)[o.copy.toNat]!.copy), vI (((stateM (addM l o).1 copies first).1)[o.copy.toNat]!.device), vI (((stateM (addM l o).1 copies first).1)[o.copy.toNat]!.token), Value.bool (((stateM (addM l o).1 copies first).1)[o.copy.toNat]!.shown)]) Try.underlying47 rfl s_47 rfl hbn_bnc101_17 rfl (wl_s (o_loadBxA (vs := [vI (((stateM l copies first).1)[o.copy.toNat]!.copy), vI (((stateM l copies first).1)[o.copy.toNat]!.device), vI (((stateM l copies first).1)[o.copy.toNat]!.token), Value.bool (((stateM l copies first).1)[o.copy.toNat]!.shown)]) Try.underlying47 rfl s_47 rfl hbn_bnc101_16 rfl (wl_s (o_eqlF (ks := [true, true, true, false]) [.inl (((stateM (addM l o).1 copies first).1)[o.copy.toNat]!.copy), .inl (((stateM (addM l o).1 copies first).1)[o.copy.toNat]!.device), .inl (((stateM (addM l o).1 copies first).1)[o.copy.toNat]!.token), .inr (((stateM (addM l o).1 copies first).1)[o.copy.toNat]!.shown)] [.inl (((stateM l copies first).1)[o.copy.toNat]!.copy), .inl (((stateM l copies first).1)[o.copy.toNat]!.device), .inl (((stateM l copies first).1)[o.copy.toNat]!.token), .inr (((stateM l copies first).1)[o.copy.toNat]!.shown)] str_holding flat_holding rfl rfl rfl rfl (cs_holding (((stateM (addM l o).1 copies first).1)[o.copy.toNat]!) (((stateM l copies first).1)[o.copy.toNat]!)) (wl_s (o_assign (Value.bool ((((stateM (addM l o).1 copies first).1)[o.copy.toNat]!) == (((stateM l copies first).1)[o.copy.toNat]!))) rfl (wl_nil (thenQ_n (?_)))))))))))
              refine cw_ret (thenQ_r (end_r rfl (res1 rfl rfl rfl) (?_)))
              have e : true = ((((stateM (addM l o).1 copies first).1)[o.copy.toNat]!) == (((stateM l copies first).1)[o.copy.toNat]!)) := by first | rfl | exact (nx_s hst hadd (by omega) hr1_1 (by first | exact .inl (by assumption) | exact .inr (.inl (by assumption)) | exact .inr (.inr (by assumption)))).symm | exact (nx_w hst hadd (by omega) hr1_1 (by assumption) (by assumption) (by assumption) (by assumption)).symm | exact (nx_g hst hadd (by omega) hr1_1 (by assumption) (by assumption) (by assumption) (by assumption)).symm
              exact ⟨_, rfl, sl1.keep, (by first | exact congrArg Value.bool e.symm | rfl)⟩
             ·have hp4044 : (((stateM l copies first).1)[o.copy.toNat]!.shown) = false := by first | simpa using hc4042 | (have e := hc4042; simp at e; omega)
              refine cw_skip (thenQ_n (?_))
              refine cw_seq (?_)
              refine cw_region (by kernel_rfl) (wl_s (o_fieldR 3 f_40_3 (o.copy) rfl hp3463 (fun _ _ _ h => Enc_devop_f3 h) fun a4045 hp4046 => (wl_s (o_loadI Try.underlying3 rfl rfl hp4046 (wl_s (o_fieldR 4 f_40_4 (o.to) rfl hp3463 (fun _ _ _ h => Enc_devop_f4 h) fun a4047 hp4048 => (wl_s (o_loadI Try.underlying3 rfl rfl hp4048 (wl_s (o_fieldR 5 f_40_5 (o.token) rfl hp3463 (fun _ _ _ h => Enc_devop_f5 h) fun a4049 hp4050 => (wl_s (o_loadI Try.underlying3 rfl rfl hp4050 (wl_s (o_build (l := [(0, .tmp 141), (1, .tmp 143), (2, .tmp 145)]) pl_47 z_47 rfl [(0, vI o.copy, [vI o.copy]), (1, vI o.to, [vI o.to]), (2, vI o.token, [vI o.token])] [vI o.copy, vI o.to, vI o.token, Value.bool false] rfl ⟨_, rfl, rfl, (of_decide_eq_true rfl), ⟨_, rfl, rfl, (of_decide_eq_true rfl), ⟨_, rfl, rfl, (of_decide_eq_true rfl), rfl⟩⟩⟩ (wl_s (o_alloc [vI (0 : Int), vI (0 : Int), vI (0 : Int), Value.bool false] z_47 rfl sl1 fun b4051 w4052 e4057 s4053 m4054 k4055 bx4056 => (?_)))))))))))))))))
              have ne4058 : NeB bnc101_16 b4051 := by show bnc101_16 ≠ b4051; have := hbn_bnc101_16.lt; omega
              have ne4059 : NeB bnc101_17 b4051 := by show bnc101_17 ≠ b4051; have := hbn_bnc101_17.lt; omega
              clear e4057
              have hp3463 := hp3463.mv m4054
              have hbn_bnc101_16 := hbn_bnc101_16.keep k4055 (by simp)
              have hbn_bnc101_17 := hbn_bnc101_17.keep k4055 (by simp)
              refine wl_n (o_store (vs := [vI o.copy, vI o.to, vI o.token, Value.bool false]) (.agg #[vI o.copy, vI o.to, vI o.token, Value.bool false]) rfl rfl rfl s_47 (fun u hu => by simp only [List.mem_cons, List.not_mem_nil, or_false] at hu; rcases hu with rfl | rfl | rfl | rfl <;> first | rfl) (by repeat (first | assumption | constructor)) bx4056 (of_decide_eq_true rfl) s4053 fun w4060 s4061 m4062 k4063 bx4064 => (?_))
              have hp3463 := hp3463.mv m4062
              have hbn_bnc101_16 := hbn_bnc101_16.keep k4063 (nin1 ne4058)
              have hbn_bnc101_17 := hbn_bnc101_17.keep k4063 (nin1 ne4059)
              refine wl_nil (thenQ_n (?_))
              refine cw_seq (?_)
              refine cw_seq (?_)
              refine cw_region (by kernel_rfl) (wl_s (o_fieldR 2 f_40_2 (o.kind) rfl hp3463 (fun _ _ _ h => Enc_devop_f2 h) fun a4065 hp4066 => (wl_s (o_loadI Try.underlying3 rfl rfl hp4066 (wl_s (o_eql .i64 o.kind (2 : Int) rfl rfl (wl_nil (thenQ_n (?_)))))))))
              refine cw_cond (o.kind == (2 : Int)) rfl rfl (fun hc4067 => ?_) (fun hc4067 => ?_)
              ·have hp4068 : o.kind = (2 : Int) := by first | simpa using hc4067 | (have e := hc4067; simp at e; omega)
               refine cw_region (by kernel_rfl) (wl_s (o_fieldL 1 f_47_1 rfl (wl_s (o_loadBx Try.underlying3 rfl (vI (((stateM l copies first).1)[o.copy.toNat]!.device)) rfl hbn_bnc101_16 rfl (wl_s (o_fieldL 1 f_47_1 rfl (wl_n (o_store1 (vI (((stateM l copies first).1)[o.copy.toNat]!.device)) rfl rfl rfl s_3 (by repeat (first | assumption | constructor)) bx4064 (of_decide_eq_true rfl) s4061 fun w4069 s4070 m4071 k4072 bx4073 => (?_)))))))))
               have hbn_bnc101_17 := hbn_bnc101_17.keep k4072 (nin1 ne4059)
               refine wl_s (o_fieldL 3 f_47_3 rfl (wl_n (o_store1 (Value.bool true) rfl rfl rfl s_4 (by repeat (first | assumption | constructor)) bx4073 (of_decide_eq_true rfl) s4070 fun w4074 s4075 m4076 k4077 bx4078 => (?_))))
               have hbn_bnc101_17 := hbn_bnc101_17.keep k4077 (nin1 ne4059)
               refine wl_nil (thenQ_n (?_))
               refine cw_seq (?_)
               refine cw_region (by kernel_rfl) (wl_s (o_loadBxA (vs := [vI (((stateM (addM l o).1 copies first).1)[o.copy.toNat]!.copy), vI (((stateM (addM l o).1 copies first).1)[o.copy.toNat]!.device), vI (((stateM (addM l o).1 copies first).1)[o.copy.toNat]!.token), Value.bool (((stateM (addM l o).1 copies first).1)[o.copy.toNat]!.shown)]) Try.underlying47 rfl s_47 rfl hbn_bnc101_17 rfl (wl_s (o_loadBxA (vs := [vI o.copy, vI (((stateM l copies first).1)[o.copy.toNat]!.device), vI o.token, Value.bool true]) Try.underlying47 rfl s_47 rfl bx4078 rfl (wl_s (o_eqlF (ks := [true, true, true, false]) [.inl (((stateM (addM l o).1 copies first).1)[o.copy.toNat]!.copy), .inl (((stateM (addM l o).1 copies first).1)[o.copy.toNat]!.device), .inl (((stateM (addM l o).1 copies first).1)[o.copy.toNat]!.token), .inr (((stateM (addM l o).1 copies first).1)[o.copy.toNat]!.shown)] [.inl o.copy, .inl (((stateM l copies first).1)[o.copy.toNat]!.device), .inl o.token, .inr true] str_holding flat_holding rfl rfl rfl rfl (cs_holding (((stateM (addM l o).1 copies first).1)[o.copy.toNat]!) (⟨o.copy, ((stateM l copies first).1)[o.copy.toNat]!.device, o.token, true⟩ : Holding)) (wl_s (o_assign (Value.bool ((((stateM (addM l o).1 copies first).1)[o.copy.toNat]!) == (⟨o.copy, ((stateM l copies first).1)[o.copy.toNat]!.device, o.token, true⟩ : Holding))) rfl (wl_nil (thenQ_n (?_)))))))))))
               refine cw_ret (end_r rfl (res1 rfl rfl rfl) (?_))
               have e : true = ((((stateM (addM l o).1 copies first).1)[o.copy.toNat]!) == (⟨o.copy, ((stateM l copies first).1)[o.copy.toNat]!.device, o.token, true⟩ : Holding)) := by first | rfl | exact (nx_s hst hadd (by omega) hr1_1 (by first | exact .inl (by assumption) | exact .inr (.inl (by assumption)) | exact .inr (.inr (by assumption)))).symm | exact (nx_w hst hadd (by omega) hr1_1 (by assumption) (by assumption) (by assumption) (by assumption)).symm | exact (nx_g hst hadd (by omega) hr1_1 (by assumption) (by assumption) (by assumption) (by assumption)).symm
               exact ⟨_, rfl, s4075.keep, (by first | exact congrArg Value.bool e.symm | rfl)⟩
              ·have hp4079 : o.kind ≠ (2 : Int) := by first | simpa using hc4067 | (have e := hc4067; simp at e; omega)
               refine cw_skip (thenQ_n (?_))
               refine cw_seq (?_)
               refine cw_region (by kernel_rfl) (wl_s (o_loadBxA (vs := [vI (((stateM (addM l o).1 copies first).1)[o.copy.toNat]!.copy), vI (((stateM (addM l o).1 copies first).1)[o.copy.toNat]!.device), vI (((stateM (addM l o).1 copies first).1)[o.copy.toNat]!.token), Value.bool (((stateM (addM l o).1 copies first).1)[o.copy.toNat]!.shown)]) Try.underlying47 rfl s_47 rfl hbn_bnc101_17 rfl (wl_s (o_loadBxA (vs := [vI o.copy, vI o.to, vI o.token, Value.bool false]) Try.underlying47 rfl s_47 rfl bx4064 rfl (wl_s (o_eqlF (ks := [true, true, true, false]) [.inl (((stateM (addM l o).1 copies first).1)[o.copy.toNat]!.copy), .inl (((stateM (addM l o).1 copies first).1)[o.copy.toNat]!.device), .inl (((stateM (addM l o).1 copies first).1)[o.copy.toNat]!.token), .inr (((stateM (addM l o).1 copies first).1)[o.copy.toNat]!.shown)] [.inl o.copy, .inl o.to, .inl o.token, .inr false] str_holding flat_holding rfl rfl rfl rfl (cs_holding (((stateM (addM l o).1 copies first).1)[o.copy.toNat]!) (⟨o.copy, o.to, o.token, false⟩ : Holding)) (wl_s (o_assign (Value.bool ((((stateM (addM l o).1 copies first).1)[o.copy.toNat]!) == (⟨o.copy, o.to, o.token, false⟩ : Holding))) rfl (wl_nil (thenQ_n (?_)))))))))))
               refine cw_ret (end_r rfl (res1 rfl rfl rfl) (?_))
               have e : true = ((((stateM (addM l o).1 copies first).1)[o.copy.toNat]!) == (⟨o.copy, o.to, o.token, false⟩ : Holding)) := by first | rfl | exact (nx_s hst hadd (by omega) hr1_1 (by first | exact .inl (by assumption) | exact .inr (.inl (by assumption)) | exact .inr (.inr (by assumption)))).symm | exact (nx_w hst hadd (by omega) hr1_1 (by assumption) (by assumption) (by assumption) (by assumption)).symm | exact (nx_g hst hadd (by omega) hr1_1 (by assumption) (by assumption) (by assumption) (by assumption)).symm
               exact ⟨_, rfl, s4061.keep, (by first | exact congrArg Value.bool e.symm | rfl)⟩
            ·have hp4080 : o.device ≠ ((stateM l copies first).1)[o.copy.toNat]!.device := by first | simpa using hb4040 | (have e := hb4040; simp at e; omega)
             refine wl_k rfl (wl_k rfl (wl_s (o_pickT (Value.bool true) rfl rfl (wl_nil (thenQ_n (?_))))))
             refine cw_cond true rfl rfl (fun _ => ?_) (fun h => by cases h)
             refine cw_seq (?_)
             refine cw_region (by kernel_rfl) (wl_s (o_loadBxA (vs := [vI (((stateM (addM l o).1 copies first).1)[o.copy.toNat]!.copy), vI (((stateM (addM l o).1 copies first).1)[o.copy.toNat]!.device), vI (((stateM (addM l o).1 copies first).1)[o.copy.toNat]!.token), Value.bool (((stateM (addM l o).1 copies first).1)[o.copy.toNat]!.shown)]) Try.underlying47 rfl s_47 rfl hbn_bnc101_17 rfl (wl_s (o_loadBxA (vs := [vI (((stateM l copies first).1)[o.copy.toNat]!.copy), vI (((stateM l copies first).1)[o.copy.toNat]!.device), vI (((stateM l copies first).1)[o.copy.toNat]!.token), Value.bool (((stateM l copies first).1)[o.copy.toNat]!.shown)]) Try.underlying47 rfl s_47 rfl hbn_bnc101_16 rfl (wl_s (o_eqlF (ks := [true, true, true, false]) [.inl (((stateM (addM l o).1 copies first).1)[o.copy.toNat]!.copy), .inl (((stateM (addM l o).1 copies first).1)[o.copy.toNat]!.device), .inl (((stateM (addM l o).1 copies first).1)[o.copy.toNat]!.token), .inr (((stateM (addM l o).1 copies first).1)[o.copy.toNat]!.shown)] [.inl (((stateM l copies first).1)[o.copy.toNat]!.copy), .inl (((stateM l copies first).1)[o.copy.toNat]!.device), .inl (((stateM l copies first).1)[o.copy.toNat]!.token), .inr (((stateM l copies first).1)[o.copy.toNat]!.shown)] str_holding flat_holding rfl rfl rfl rfl (cs_holding (((stateM (addM l o).1 copies first).1)[o.copy.toNat]!) (((stateM l copies first).1)[o.copy.toNat]!)) (wl_s (o_assign (Value.bool ((((stateM (addM l o).1 copies first).1)[o.copy.toNat]!) == (((stateM l copies first).1)[o.copy.toNat]!))) rfl (wl_nil (thenQ_n (?_)))))))))))
             refine cw_ret (thenQ_r (end_r rfl (res1 rfl rfl rfl) (?_)))
             have e : true = ((((stateM (addM l o).1 copies first).1)[o.copy.toNat]!) == (((stateM l copies first).1)[o.copy.toNat]!)) := by first | rfl | exact (nx_s hst hadd (by omega) hr1_1 (by first | exact .inl (by assumption) | exact .inr (.inl (by assumption)) | exact .inr (.inr (by assumption)))).symm | exact (nx_w hst hadd (by omega) hr1_1 (by assumption) (by assumption) (by assumption) (by assumption)).symm | exact (nx_g hst hadd (by omega) hr1_1 (by assumption) (by assumption) (by assumption) (by assumption)).symm
             exact ⟨_, rfl, sl1.keep, (by first | exact congrArg Value.bool e.symm | rfl)⟩
           ·have hp4081 : o.token ≠ ((stateM l copies first).1)[o.copy.toNat]!.token + 1 := by first | simpa using hb4036 | (have e := hb4036; simp at e; omega)
            refine wl_k rfl (wl_k rfl (wl_k rfl (wl_k rfl (wl_k rfl (wl_s (o_pickT (Value.bool true) rfl rfl (wl_s (o_move (Value.bool true) rfl (wl_k rfl (wl_k rfl (wl_s (o_pickT (Value.bool true) rfl rfl (wl_nil (thenQ_n (?_)))))))))))))))
            refine cw_cond true rfl rfl (fun _ => ?_) (fun h => by cases h)
            refine cw_seq (?_)
            refine cw_region (by kernel_rfl) (wl_s (o_loadBxA (vs := [vI (((stateM (addM l o).1 copies first).1)[o.copy.toNat]!.copy), vI (((stateM (addM l o).1 copies first).1)[o.copy.toNat]!.device), vI (((stateM (addM l o).1 copies first).1)[o.copy.toNat]!.token), Value.bool (((stateM (addM l o).1 copies first).1)[o.copy.toNat]!.shown)]) Try.underlying47 rfl s_47 rfl hbn_bnc101_17 rfl (wl_s (o_loadBxA (vs := [vI (((stateM l copies first).1)[o.copy.toNat]!.copy), vI (((stateM l copies first).1)[o.copy.toNat]!.device), vI (((stateM l copies first).1)[o.copy.toNat]!.token), Value.bool (((stateM l copies first).1)[o.copy.toNat]!.shown)]) Try.underlying47 rfl s_47 rfl hbn_bnc101_16 rfl (wl_s (o_eqlF (ks := [true, true, true, false]) [.inl (((stateM (addM l o).1 copies first).1)[o.copy.toNat]!.copy), .inl (((stateM (addM l o).1 copies first).1)[o.copy.toNat]!.device), .inl (((stateM (addM l o).1 copies first).1)[o.copy.toNat]!.token), .inr (((stateM (addM l o).1 copies first).1)[o.copy.toNat]!.shown)] [.inl (((stateM l copies first).1)[o.copy.toNat]!.copy), .inl (((stateM l copies first).1)[o.copy.toNat]!.device), .inl (((stateM l copies first).1)[o.copy.toNat]!.token), .inr (((stateM l copies first).1)[o.copy.toNat]!.shown)] str_holding flat_holding rfl rfl rfl rfl (cs_holding (((stateM (addM l o).1 copies first).1)[o.copy.toNat]!) (((stateM l copies first).1)[o.copy.toNat]!)) (wl_s (o_assign (Value.bool ((((stateM (addM l o).1 copies first).1)[o.copy.toNat]!) == (((stateM l copies first).1)[o.copy.toNat]!))) rfl (wl_nil (thenQ_n (?_)))))))))))
            refine cw_ret (thenQ_r (end_r rfl (res1 rfl rfl rfl) (?_)))
            have e : true = ((((stateM (addM l o).1 copies first).1)[o.copy.toNat]!) == (((stateM l copies first).1)[o.copy.toNat]!)) := by first | rfl | exact (nx_s hst hadd (by omega) hr1_1 (by first | exact .inl (by assumption) | exact .inr (.inl (by assumption)) | exact .inr (.inr (by assumption)))).symm | exact (nx_w hst hadd (by omega) hr1_1 (by assumption) (by assumption) (by assumption) (by assumption)).symm | exact (nx_g hst hadd (by omega) hr1_1 (by assumption) (by assumption) (by assumption) (by assumption)).symm
            exact ⟨_, rfl, sl1.keep, (by first | exact congrArg Value.bool e.symm | rfl)⟩
    ·have hp4082 : (addM l o).2 ≠ (0 : Int) := by first | simpa using hb3501 | (have e := hb3501; simp at e; omega)
     refine wl_k rfl (wl_k rfl (wl_k rfl (wl_k rfl (wl_s (o_pickT (Value.bool true) rfl rfl (wl_nil (thenQ_n (?_))))))))
     refine cw_cond true rfl rfl (fun _ => ?_) (fun h => by cases h)
     refine cw_seq (?_)
     refine cw_region (by kernel_rfl) (wl_s (o_assign (Value.bool true) rfl (wl_nil (thenQ_n (?_)))))
     refine cw_ret (thenQ_r (end_r rfl (res1 rfl rfl rfl) (?_)))
     exact ⟨_, rfl, s3493.keep, rfl⟩
   ·have hp4083 : (stateM l copies first).2 ≠ (0 : Int) := by first | simpa using hb3499 | (have e := hb3499; simp at e; omega)
    refine wl_k rfl (wl_k rfl (wl_s (o_pickT (Value.bool true) rfl rfl (wl_s (o_move (Value.bool true) rfl (wl_k rfl (wl_k rfl (wl_k rfl (wl_k rfl (wl_s (o_pickT (Value.bool true) rfl rfl (wl_nil (thenQ_n (?_))))))))))))))
    refine cw_cond true rfl rfl (fun _ => ?_) (fun h => by cases h)
    refine cw_seq (?_)
    refine cw_region (by kernel_rfl) (wl_s (o_assign (Value.bool true) rfl (wl_nil (thenQ_n (?_)))))
    refine cw_ret (thenQ_r (end_r rfl (res1 rfl rfl rfl) (?_)))
    exact ⟨_, rfl, s3493.keep, rfl⟩
 ·have hp4084 : 40 < (l.length : Int) := by first | simpa using hb3476 | (have e := hb3476; rw [Bool.not_eq_true'] at e; exact e) | (have e := hb3476; rw [Bool.not_eq_false'] at e; exact e) | (have e := hb3476; simp at e; omega)
  refine wl_k rfl (wl_k rfl (wl_s (o_pickT (Value.bool true) rfl rfl (wl_nil (thenQ_n (?_))))))
  refine cw_cond true rfl rfl (fun _ => ?_) (fun h => by cases h)
  refine cw_seq (?_)
  refine cw_region (by kernel_rfl) (wl_s (o_assign (Value.bool true) rfl (wl_nil (thenQ_n (?_)))))
  refine cw_ret (thenQ_r (end_r rfl (res1 rfl rfl rfl) (?_)))
  exact ⟨_, rfl, s3472.keep, rfl⟩

end Go.Proofs.Ytjpniibleelgiaa
