/- Walks, printed by gen.py. -/
import Derived.Test.YtjpniibleelgiaaXk
import Derived.Test.YtjpniibleelgiaaMdD
set_option linter.unusedSimpArgs false
set_option linter.unusedVariables false
namespace Go.Proofs.Ytjpniibleelgiaa
open Go.Fw Go.RowKit

set_option maxHeartbeats 4000000 in
set_option maxRecDepth 100000 in
theorem c_DevicesOnce {O : List Nat} (l_v : Value) (l : List DeviceOp) (copies : Int) (first : Int) (w : World) (h_l : RdL Enc.devop w O l_v l) (hO : ∀ b ∈ O, b < w.heap.size) : CallsK Try.prog 8 [l_v, vI copies, vI first] w (fun v _ => v = .bool (true)) :=  by
 have lim_l := h_l.len_le
 have h_l : RdL Enc.devop w ([] ++ O) l_v l := h_l
 have s0 : St w O w [] := St.start hO
 refine callsK_of 130 Try.func8 rfl rfl (of_decide_eq_true rfl) (fun F0 => ?_)
 refine cw_seq (?_)
 refine cw_region (by kernel_rfl) (wl_s (o_assign (Value.bool false) rfl (wl_nil (thenQ_n (?_)))))
 refine cw_seq (?_)
 refine cw_seq (?_)
 refine cw_region (by kernel_rfl) (wl_s (o_callK (vs := []) enter_25 (c_sane42 (O := [] ++ O) w s0.lt) rfl s0 fun v3438 w3439 s3440 m3441 k3442 r3443 => (?_)))
 obtain rfl := r3443
 have h_l := h_l.mv m3441
 refine wl_s (o_not true rfl (wl_nil (thenQ_n (?_))))
 refine cw_cond false rfl rfl (fun h => by cases h) (fun _ => ?_)
 refine cw_skip (thenQ_n (?_))
 refine cw_seq (?_)
 refine cw_seq (?_)
 refine cw_region (by kernel_rfl) (wl_s (o_move (l_v) rfl (wl_s (o_callK (vs := [l_v]) enter_26 (c_few (O := [] ++ O) l_v l w3439 h_l s3440.lt) rfl s3440 fun v3444 w3445 s3446 m3447 k3448 r3449 => (?_)))))
 obtain rfl := r3449
 have h_l := h_l.mv m3447
 refine wl_s (o_not (decide ((l.length : Int) ≤ 40)) rfl (wl_s (o_move (Value.bool (!(decide ((l.length : Int) ≤ 40)))) rfl (?_))))
 cases hb3450 : (!(decide ((l.length : Int) ≤ 40)))
 ·have hp3451 : (l.length : Int) ≤ 40 := by first | simpa using hb3450 | (have e := hb3450; simp at e; omega)
  refine wl_t rfl (o_move (vI copies) rfl (wl_t rfl (o_gtr .i64 copies (50 : Int) rfl rfl (wl_s (o_pickF (Value.bool (decide ((50 : Int) < copies))) rfl rfl (wl_nil (thenQ_n (?_))))))))
  refine cw_cond (decide ((50 : Int) < copies)) rfl rfl (fun hc3452 => ?_) (fun hc3452 => ?_)
  ·have hp3453 : (50 : Int) < copies := by first | simpa using hc3452 | (have e := hc3452; simp at e; omega)
   refine cw_seq (?_)
   refine cw_region (by kernel_rfl) (wl_s (o_assign (Value.bool true) rfl (wl_nil (thenQ_n (?_)))))
   refine cw_ret (thenQ_r (end_r rfl (res1 rfl rfl rfl) (?_)))
   exact ⟨_, rfl, s3446.keep, rfl⟩
  ·have hp3454 : copies ≤ (50 : Int) := by first | simpa using hc3452 | (have e := hc3452; simp at e; omega)
   refine cw_skip (thenQ_n (?_))
   refine cw_seq (?_)
   refine cw_region (by kernel_rfl) (wl_s (o_move (l_v) rfl (wl_s (o_move (vI copies) rfl (wl_s (o_move (vI first) rfl (wl_s (o_callK (vs := [l_v, vI copies, vI first]) enter_24 (c_state (O := [] ++ O) l_v l copies first w3445 h_l s3446.lt) rfl s3446 fun v3455 w3456 s3457 m3458 k3459 r3460 => (?_)))))))))
   obtain ⟨x3461, rfl, hl3462⟩ := r3460
   have := hl3462.len_le
   have h_l := h_l.mv m3458
   refine wl_s (o_move (Value.tuple #[x3461, vI ((stateM l copies first).2)]) rfl (wl_s (o_extract (x3461) rfl rfl (wl_s (o_extract (vI ((stateM l copies first).2)) rfl rfl (wl_s (o_assign (x3461) rfl (wl_s (o_assign (vI ((stateM l copies first).2)) rfl (wl_nil (thenQ_n (?_))))))))))))
   refine cw_seq (?_)
   refine cw_seq (?_)
   refine cw_region (by kernel_rfl) (wl_s (o_move (vI ((stateM l copies first).2)) rfl (wl_s (o_neq .i64 ((stateM l copies first).2) (0 : Int) rfl rfl (wl_nil (thenQ_n (?_)))))))
   refine cw_cond (((stateM l copies first).2) != (0 : Int)) rfl rfl (fun hc3463 => ?_) (fun hc3463 => ?_)
   ·have hp3464 : (stateM l copies first).2 ≠ (0 : Int) := by first | simpa using hc3463 | (have e := hc3463; simp at e; omega)
    refine cw_seq (?_)
    refine cw_region (by kernel_rfl) (wl_s (o_move (x3461) rfl (wl_s (o_lenR Try.underlying43 rfl hl3462 (wl_s (o_eql .i64 (((stateM l copies first).1).length : Int) (0 : Int) rfl rfl (wl_s (o_assign (Value.bool ((((stateM l copies first).1).length : Int) == (0 : Int))) rfl (wl_nil (thenQ_n (?_)))))))))))
    refine cw_ret (thenQ_r (end_r rfl (res1 rfl rfl rfl) (?_)))
    have e : true = ((((stateM l copies first).1).length : Int) == (0 : Int)) := by first | rfl | (rw [state_err (by assumption)]; rfl)
    exact ⟨_, rfl, s3457.keep, by rw [e]; exact rfl⟩
   ·have hp3465 : (stateM l copies first).2 = (0 : Int) := by first | simpa using hc3463 | (have e := hc3463; simp at e; omega)
    have hst : (stateM l copies first).2 = 0 := hp3465
    have hsl := state_len hst
    have hsb := (state_ok hst).2.2
    refine cw_skip (thenQ_n (?_))
    refine cw_seq (?_)
    refine cw_seq (?_)
    refine cw_region (by kernel_rfl) (wl_s (o_move (x3461) rfl (wl_s (o_lenR Try.underlying43 rfl hl3462 (wl_s (o_move (vI copies) rfl (wl_s (o_neq .i64 (((stateM l copies first).1).length : Int) copies rfl rfl (wl_nil (thenQ_n (?_)))))))))))
    have hb3466 : ((((stateM l copies first).1).length : Int) != copies) = false := (by rw [hsl]; simp; omega)
    rw [hb3466]
    refine cw_cond false rfl rfl (fun h => by cases h) (fun _ => ?_)
    refine cw_skip (thenQ_n (?_))
    refine cw_seq (?_)
    refine cw_seq (?_)
    refine cw_region (by kernel_rfl) (wl_s (o_move (x3461) rfl (wl_s (o_lenR Try.underlying43 rfl hl3462 (wl_s (o_move (vI (0 : Int)) rfl (wl_nil (thenQ_n (?_)))))))))
    refine cw_block (?_)
    refine cw_loop (fun mI FI wI => ∃ (k : Nat) (B : List Nat), k ≤ ((stateM l copies first).1).length ∧ mI = ((stateM l copies first).1).length - k ∧ (∃ F1, FI = upds F1 [(0, l_v), (1, vI copies), (2, vI first), (43, x3461), (44, vI (((stateM l copies first).1).length : Int)), (45, vI ((k : Nat) : Int)), (130, undef)]) ∧ St w O wI B ∧ RdL Enc.devop wI (B ++ O) (l_v) (l) ∧ RdL Enc.holding wI (B ++ O) (x3461) ((stateM l copies first).1)) (((stateM l copies first).1).length - (0)) ?_ ?_
    ·exact ⟨(0), [], (by omega), rfl, ⟨_, upds_self _ ⟨rfl, rfl, rfl, rfl, rfl, (by first | rfl | exact congrArg (Value.int _) (by first | omega | (simp))), rfl, trivial⟩⟩, s3457, h_l, hl3462⟩
    ·intro ml0 F wl0 hI
     clear h_l hl3462
     obtain ⟨k, Bl0, hr0_0, hm0, ⟨Fl0, rfl⟩, sl0, h_l, hl3462⟩ := hI
     refine cw_seq (?_)
     refine cw_region (by kernel_rfl) (wl_s (o_lss .i64 ((k : Nat) : Int) (((stateM l copies first).1).length : Int) rfl rfl (wl_nil (thenQ_n (?_)))))
     refine cw_seq (?_)
     refine cw_cond (decide (((k : Nat) : Int) < (((stateM l copies first).1).length : Int))) rfl rfl (fun hc3467 => ?_) (fun hc3467 => ?_)
     ·have hp3468 : ((k : Nat) : Int) < (((stateM l copies first).1).length : Int) := by first | simpa using hc3467 | (have e := hc3467; simp at e; omega)
      refine cw_skip (thenQ_n (?_))
      refine cw_seq (?_)
      refine cw_block (?_)
      refine cw_seq (?_)
      refine cw_region (by kernel_rfl) (wl_s (o_move (vI ((k : Nat) : Int)) rfl (wl_s (o_idx Try.underlying43 s_47 .i64 ((k : Nat) : Int) k rfl rfl rfl hl3462 (by omega) fun a3469 hp3470 => (wl_s (o_loadS Try.underlying47 rfl s_47 rfl hp3470 fun cs3471 hs3472 => (?_)))))))
      obtain rfl := hs3472
      refine wl_s (o_alloc [vI (0 : Int), vI (0 : Int), vI (0 : Int), Value.bool false] z_47 rfl sl0 fun b3473 w3474 e3479 s3475 m3476 k3477 bx3478 => (?_))
      clear e3479
      have h_l := h_l.mv m3476
      have hl3462 := hl3462.mv m3476
      refine wl_s (o_assign (vI ((k : Nat) : Int)) rfl (wl_n (o_store (vs := [vI ((((stateM l copies first).1)[k]!).copy), vI ((((stateM l copies first).1)[k]!).device), vI ((((stateM l copies first).1)[k]!).token), Value.bool ((((stateM l copies first).1)[k]!).shown)]) (.agg #[vI ((((stateM l copies first).1)[k]!).copy), vI ((((stateM l copies first).1)[k]!).device), vI ((((stateM l copies first).1)[k]!).token), Value.bool ((((stateM l copies first).1)[k]!).shown)]) rfl rfl rfl s_47 (fun u hu => by simp only [List.mem_cons, List.not_mem_nil, or_false] at hu; rcases hu with rfl | rfl | rfl | rfl <;> first | rfl) (by repeat (first | assumption | constructor)) bx3478 (of_decide_eq_true rfl) s3475 fun w3480 s3481 m3482 k3483 bx3484 => (?_))))
      have h_l := h_l.mv m3482
      have hl3462 := hl3462.mv m3482
      refine wl_nil (thenQ_n (?_))
      refine cw_seq (?_)
      refine cw_region (by kernel_rfl) (wl_s (o_assign (vI (0 : Int)) rfl (wl_nil (thenQ_n (?_)))))
      refine cw_seq (?_)
      refine cw_seq (?_)
      refine cw_region (by kernel_rfl) (wl_s (o_move (vI (0 : Int)) rfl (wl_nil (thenQ_n (?_)))))
      refine cw_block (?_)
      refine cw_loop (fun mI FI wI => ∃ (d : Nat) (B : List Nat), d ≤ 4 ∧ mI = 4 - d ∧ (∃ F1, FI = upds F1 [(0, l_v), (1, vI copies), (2, vI first), (9, vI ((k : Nat) : Int)), (10, Value.pointer (some ⟨b3473, 0, none⟩)), (11, vI ((manyM l copies first ((k : Nat) : Int) d : Nat) : Int)), (43, x3461), (44, vI (((stateM l copies first).1).length : Int)), (45, vI ((k : Nat) : Int)), (50, vI ((d : Nat) : Int)), (130, undef)]) ∧ St w O wI B ∧ RdL Enc.devop wI (B ++ O) (l_v) (l) ∧ RdL Enc.holding wI (B ++ O) (x3461) ((stateM l copies first).1) ∧ Box wI b3473 47 [vI ((((stateM l copies first).1)[k]!).copy), vI ((((stateM l copies first).1)[k]!).device), vI ((((stateM l copies first).1)[k]!).token), Value.bool ((((stateM l copies first).1)[k]!).shown)] ∧ b3473 ∈ B) (4 - (0)) ?_ ?_
      ·exact ⟨(0), (b3473 :: Bl0), (by omega), rfl, ⟨_, upds_self _ ⟨rfl, rfl, rfl, rfl, rfl, (by first | rfl | exact congrArg (Value.int _) (by first | omega | (rfl))), rfl, rfl, rfl, (by first | rfl | exact congrArg (Value.int _) (by first | omega | (simp))), rfl, trivial⟩⟩, s3481, h_l, hl3462, bx3484, (by first | assumption | (repeat (first | exact List.mem_cons_self | assumption | apply List.mem_cons_of_mem)) | (apply_assumption; assumption))⟩
      ·intro ml1 F wl1 hI
       clear h_l hl3462 bx3484
       obtain ⟨d, Bl1, hr1_0, hm1, ⟨Fl1, rfl⟩, sl1, h_l, hl3462, bx3484, hin_b3473⟩ := hI
       refine cw_seq (?_)
       refine cw_region (by kernel_rfl) (wl_s (o_lss .i64 ((d : Nat) : Int) (4 : Int) rfl rfl (wl_nil (thenQ_n (?_)))))
       refine cw_seq (?_)
       refine cw_cond (decide (((d : Nat) : Int) < (4 : Int))) rfl rfl (fun hc3485 => ?_) (fun hc3485 => ?_)
       ·have hp3486 : ((d : Nat) : Int) < (4 : Int) := by first | simpa using hc3485 | (have e := hc3485; simp at e; omega)
        refine cw_skip (thenQ_n (?_))
        refine cw_seq (?_)
        refine cw_block (?_)
        refine cw_seq (?_)
        refine cw_region (by kernel_rfl) (wl_s (o_move (vI ((d : Nat) : Int)) rfl (wl_s (o_assign (vI ((d : Nat) : Int)) rfl (wl_nil (thenQ_n (?_)))))))
        refine cw_seq (?_)
        refine cw_region (by kernel_rfl) (wl_s (o_move (l_v) rfl (wl_s (o_move (vI copies) rfl (wl_s (o_move (vI first) rfl (wl_s (o_move (vI ((d : Nat) : Int)) rfl (wl_s (o_move (vI ((k : Nat) : Int)) rfl (wl_s (o_callK (vs := [l_v, vI copies, vI first, vI ((d : Nat) : Int), vI ((k : Nat) : Int)]) enter_34 (c_may (O := Bl1 ++ O) l_v l copies first ((d : Nat) : Int) ((k : Nat) : Int) wl1 h_l sl1.lt) rfl sl1 fun v3487 w3488 s3489 m3490 k3491 r3492 => (?_)))))))))))))
        obtain rfl := r3492
        have h_l := h_l.mv m3490
        have hl3462 := hl3462.mv m3490
        have bx3484 := bx3484.keep k3491 (by simp)
        refine wl_s (o_move (Value.tuple #[Value.bool ((mayM l copies first ((d : Nat) : Int) ((k : Nat) : Int)).1), vI ((mayM l copies first ((d : Nat) : Int) ((k : Nat) : Int)).2)]) rfl (wl_s (o_extract (Value.bool ((mayM l copies first ((d : Nat) : Int) ((k : Nat) : Int)).1)) rfl rfl (wl_s (o_extract (vI ((mayM l copies first ((d : Nat) : Int) ((k : Nat) : Int)).2)) rfl rfl (wl_s (o_assign (Value.bool ((mayM l copies first ((d : Nat) : Int) ((k : Nat) : Int)).1)) rfl (wl_s (o_assign (vI ((mayM l copies first ((d : Nat) : Int) ((k : Nat) : Int)).2)) rfl (wl_nil (thenQ_n (?_))))))))))))
        refine cw_seq (?_)
        refine cw_seq (?_)
        refine cw_region (by kernel_rfl) (wl_s (o_move (vI ((mayM l copies first ((d : Nat) : Int) ((k : Nat) : Int)).2)) rfl (wl_s (o_neq .i64 ((mayM l copies first ((d : Nat) : Int) ((k : Nat) : Int)).2) (0 : Int) rfl rfl (wl_nil (thenQ_n (?_)))))))
        have hb3493 : (((mayM l copies first ((d : Nat) : Int) ((k : Nat) : Int)).2) != (0 : Int)) = false := (by rw [may_err hst (by omega) (by omega)]; rfl)
        rw [hb3493]
        refine cw_cond false rfl rfl (fun h => by cases h) (fun _ => ?_)
        refine cw_skip (thenQ_n (?_))
        refine cw_seq (?_)
        refine cw_region (by kernel_rfl) (wl_s (o_move (Value.bool ((mayM l copies first ((d : Nat) : Int) ((k : Nat) : Int)).1)) rfl (wl_nil (thenQ_n (?_)))))
        refine cw_cond ((mayM l copies first ((d : Nat) : Int) ((k : Nat) : Int)).1) rfl rfl (fun hc3494 => ?_) (fun hc3494 => ?_)
        ·have hp3495 : ((mayM l copies first ((d : Nat) : Int) ((k : Nat) : Int)).1) = true := by first | simpa using hc3494 | (have e := hc3494; simp at e; omega)
         refine cw_region (by kernel_rfl) (wl_s (o_move (vI ((manyM l copies first ((k : Nat) : Int) d : Nat) : Int)) rfl (wl_s (o_add .i64 ((manyM l copies first ((k : Nat) : Int) d : Nat) : Int) (1 : Int) (((manyM l copies first ((k : Nat) : Int) d + 1 : Nat) : Int)) rfl rfl (w64 (by have := many_le l copies first (k : Int) d; omega) (by omega)) (wl_s (o_assign (vI ((manyM l copies first ((k : Nat) : Int) d + 1 : Nat) : Int)) rfl (wl_nil (blockQ_n (thenQ_n (?_))))))))))
         refine cw_region (by kernel_rfl) (wl_s (o_add .i64 ((d : Nat) : Int) (1 : Int) (((d + 1 : Nat) : Int)) rfl rfl (w64 (by omega) (by omega)) (wl_s (o_move (vI ((d + 1 : Nat) : Int)) rfl (wl_nil (thenQ_n (?_)))))))
         exact ⟨_, (by omega), (d + 1), Bl1, (by omega), rfl, ⟨_, upds_self _ ⟨rfl, rfl, rfl, rfl, rfl, (by first | rfl | exact congrArg (Value.int _) (by first | omega | (first | rw [many_y (by assumption)] | rw [many_n (by assumption)]))), rfl, rfl, rfl, (by first | rfl | exact congrArg (Value.int _) (by first | omega | (simp))), rfl, trivial⟩⟩, s3489, h_l, hl3462, bx3484, (by first | assumption | (repeat (first | exact List.mem_cons_self | assumption | apply List.mem_cons_of_mem)) | (apply_assumption; assumption))⟩
        ·have hp3496 : ((mayM l copies first ((d : Nat) : Int) ((k : Nat) : Int)).1) = false := by first | simpa using hc3494 | (have e := hc3494; simp at e; omega)
         refine cw_skip (blockQ_n (thenQ_n (?_)))
         refine cw_region (by kernel_rfl) (wl_s (o_add .i64 ((d : Nat) : Int) (1 : Int) (((d + 1 : Nat) : Int)) rfl rfl (w64 (by omega) (by omega)) (wl_s (o_move (vI ((d + 1 : Nat) : Int)) rfl (wl_nil (thenQ_n (?_)))))))
         exact ⟨_, (by omega), (d + 1), Bl1, (by omega), rfl, ⟨_, upds_self _ ⟨rfl, rfl, rfl, rfl, rfl, (by first | rfl | exact congrArg (Value.int _) (by first | omega | (first | rw [many_y (by assumption)] | rw [many_n (by assumption)]))), rfl, rfl, rfl, (by first | rfl | exact congrArg (Value.int _) (by first | omega | (simp))), rfl, trivial⟩⟩, s3489, h_l, hl3462, bx3484, (by first | assumption | (repeat (first | exact List.mem_cons_self | assumption | apply List.mem_cons_of_mem)) | (apply_assumption; assumption))⟩
       ·have hp3497 : (4 : Int) ≤ ((d : Nat) : Int) := by first | simpa using hc3485 | (have e := hc3485; simp at e; omega)
        obtain rfl : d = 4 := by omega
        refine cw_exit (thenQ_x (thenQ_x (blockQ_x (thenQ_n (?_)))))
        refine cw_seq (?_)
        refine cw_seq (?_)
        refine cw_region (by kernel_rfl) (wl_s (o_fieldL 0 f_47_0 rfl (wl_s (o_loadBx Try.underlying3 rfl (vI ((((stateM l copies first).1)[k]!).copy)) rfl bx3484 rfl (wl_s (o_move (vI ((k : Nat) : Int)) rfl (wl_s (o_neq .i64 ((((stateM l copies first).1)[k]!).copy) ((k : Nat) : Int) rfl rfl (wl_s (o_move (Value.bool (((((stateM l copies first).1)[k]!).copy) != ((k : Nat) : Int))) rfl (?_)))))))))))
        have hb3498 : (((((stateM l copies first).1)[k]!).copy) != ((k : Nat) : Int)) = false := (by rw [once_copy hst (by omega)]; exact bne_self_eq_false _)
        rw [hb3498]
        refine wl_t rfl (o_move (vI ((manyM l copies first ((k : Nat) : Int) 4 : Nat) : Int)) rfl (wl_t rfl (o_gtr .i64 ((manyM l copies first ((k : Nat) : Int) 4 : Nat) : Int) (1 : Int) rfl rfl (wl_s (o_pickF (Value.bool (decide ((1 : Int) < ((manyM l copies first ((k : Nat) : Int) 4 : Nat) : Int)))) rfl rfl (wl_s (o_move (Value.bool (decide ((1 : Int) < ((manyM l copies first ((k : Nat) : Int) 4 : Nat) : Int)))) rfl (?_))))))))
        have hb3499 : (decide ((1 : Int) < ((manyM l copies first ((k : Nat) : Int) 4 : Nat) : Int))) = false := (decide_eq_false (by have := once_many hst (k := k) (by omega); omega))
        rw [hb3499]
        refine wl_t rfl (o_fieldL 3 f_47_3 rfl (wl_t rfl (o_loadBx Try.underlying4 rfl (Value.bool ((((stateM l copies first).1)[k]!).shown)) rfl bx3484 rfl (wl_t rfl (o_move (vI ((manyM l copies first ((k : Nat) : Int) 4 : Nat) : Int)) rfl (wl_t rfl (o_eql .i64 ((manyM l copies first ((k : Nat) : Int) 4 : Nat) : Int) (0 : Int) rfl rfl (wl_t rfl (o_neqB ((((stateM l copies first).1)[k]!).shown) (((manyM l copies first ((k : Nat) : Int) 4 : Nat) : Int) == (0 : Int)) Try.underlying4 rfl rfl (wl_s (o_pickF (Value.bool (((((stateM l copies first).1)[k]!).shown) != (((manyM l copies first ((k : Nat) : Int) 4 : Nat) : Int) == (0 : Int)))) rfl rfl (wl_nil (thenQ_n (?_))))))))))))))
        have hb3500 : (((((stateM l copies first).1)[k]!).shown) != (((manyM l copies first ((k : Nat) : Int) 4 : Nat) : Int) == (0 : Int))) = false := (once_shown hst (by omega))
        rw [hb3500]
        refine cw_cond false rfl rfl (fun h => by cases h) (fun _ => ?_)
        refine cw_skip (thenQ_n (?_))
        refine cw_seq (?_)
        refine cw_region (by kernel_rfl) (wl_s (o_move (vI ((k : Nat) : Int)) rfl (wl_s (o_move (vI first) rfl (wl_s (o_build (l := [(0, .tmp 83), (1, .tmp 84)]) pl_47 z_47 rfl [(0, vI ((k : Nat) : Int), [vI ((k : Nat) : Int)]), (1, vI first, [vI first])] [vI ((k : Nat) : Int), vI first, vI (0 : Int), Value.bool false] rfl ⟨_, rfl, rfl, (of_decide_eq_true rfl), ⟨_, rfl, rfl, (of_decide_eq_true rfl), rfl⟩⟩ (wl_s (o_alloc [vI (0 : Int), vI (0 : Int), vI (0 : Int), Value.bool false] z_47 rfl sl1 fun b3501 w3502 e3507 s3503 m3504 k3505 bx3506 => (?_)))))))))
        have ne3508 : NeB b3473 b3501 := by show b3473 ≠ b3501; have := bx3484.lt; omega
        clear e3507
        have h_l := h_l.mv m3504
        have hl3462 := hl3462.mv m3504
        have bx3484 := bx3484.keep k3505 (by simp)
        refine wl_n (o_store (vs := [vI ((k : Nat) : Int), vI first, vI (0 : Int), Value.bool false]) (.agg #[vI ((k : Nat) : Int), vI first, vI (0 : Int), Value.bool false]) rfl rfl rfl s_47 (fun u hu => by simp only [List.mem_cons, List.not_mem_nil, or_false] at hu; rcases hu with rfl | rfl | rfl | rfl <;> first | rfl) (by repeat (first | assumption | constructor)) bx3506 (of_decide_eq_true rfl) s3503 fun w3509 s3510 m3511 k3512 bx3513 => (?_))
        have h_l := h_l.mv m3511
        have hl3462 := hl3462.mv m3511
        have bx3484 := bx3484.keep k3512 (nin1 ne3508)
        refine wl_nil (thenQ_n (?_))
        refine cw_seq (?_)
        refine cw_seq (?_)
        refine cw_region (by kernel_rfl) (wl_s (o_move (l_v) rfl (wl_s (o_lenR Try.underlying26 rfl h_l (wl_s (o_move (vI (0 : Int)) rfl (wl_nil (thenQ_n (?_)))))))))
        refine cw_block (?_)
        refine cw_loop (fun mI FI wI => ∃ (j : Nat) (B : List Nat), j ≤ l.length ∧ mI = l.length - j ∧ (∃ F1, FI = upds F1 [(0, l_v), (1, vI copies), (2, vI first), (9, vI ((k : Nat) : Int)), (10, Value.pointer (some ⟨b3473, 0, none⟩)), (15, Value.pointer (some ⟨b3501, 0, none⟩)), (43, x3461), (44, vI (((stateM l copies first).1).length : Int)), (45, vI ((k : Nat) : Int)), (86, l_v), (87, vI (l.length : Int)), (88, vI ((j : Nat) : Int)), (130, undef)]) ∧ St w O wI B ∧ RdL Enc.devop wI (B ++ O) (l_v) (l) ∧ RdL Enc.holding wI (B ++ O) (x3461) ((stateM l copies first).1) ∧ Box wI b3473 47 [vI ((((stateM l copies first).1)[k]!).copy), vI ((((stateM l copies first).1)[k]!).device), vI ((((stateM l copies first).1)[k]!).token), Value.bool ((((stateM l copies first).1)[k]!).shown)] ∧ b3473 ∈ B ∧ Box wI b3501 47 [vI ((foldAt l ((k : Nat) : Int) first j).copy), vI ((foldAt l ((k : Nat) : Int) first j).device), vI ((foldAt l ((k : Nat) : Int) first j).token), Value.bool ((foldAt l ((k : Nat) : Int) first j).shown)] ∧ b3501 ∈ B) (l.length - (0)) ?_ ?_
        ·exact ⟨(0), (b3501 :: Bl1), (by omega), rfl, ⟨_, upds_self _ ⟨rfl, rfl, rfl, rfl, rfl, rfl, rfl, rfl, rfl, rfl, rfl, (by first | rfl | exact congrArg (Value.int _) (by first | omega | (simp))), rfl, trivial⟩⟩, s3510, h_l, hl3462, bx3484, (by first | assumption | (repeat (first | exact List.mem_cons_self | assumption | apply List.mem_cons_of_mem)) | (apply_assumption; assumption)), (by rw [show ([vI ((foldAt l ((k : Nat) : Int) first (0)).copy), vI ((foldAt l ((k : Nat) : Int) first (0)).device), vI ((foldAt l ((k : Nat) : Int) first (0)).token), Value.bool ((foldAt l ((k : Nat) : Int) first (0)).shown)] : List Value) = [vI ((k : Nat) : Int), vI first, vI (0 : Int), Value.bool false] from by rw [foldAt_zero]; rfl]; exact bx3513), (by first | assumption | (repeat (first | exact List.mem_cons_self | assumption | apply List.mem_cons_of_mem)) | (apply_assumption; assumption))⟩
        ·intro ml2 F wl2 hI
         clear h_l hl3462 bx3484
         obtain ⟨j, Bl2, hr2_0, hm2, ⟨Fl2, rfl⟩, sl2, h_l, hl3462, bx3484, hin_b3473, hbs_2_b3501, hin_b3501⟩ := hI
         refine cw_seq (?_)
         refine cw_region (by kernel_rfl) (wl_s (o_lss .i64 ((j : Nat) : Int) (l.length : Int) rfl rfl (wl_nil (thenQ_n (?_)))))
         refine cw_seq (?_)
         refine cw_cond (decide (((j : Nat) : Int) < (l.length : Int))) rfl rfl (fun hc3514 => ?_) (fun hc3514 => ?_)
         ·have hp3515 : ((j : Nat) : Int) < (l.length : Int) := by first | simpa using hc3514 | (have e := hc3514; simp at e; omega)
          refine cw_skip (thenQ_n (?_))
          refine cw_seq (?_)
          refine cw_block (?_)
          refine cw_seq (?_)
          refine cw_region (by kernel_rfl) (wl_s (o_idx Try.underlying26 s_40 .i64 ((j : Nat) : Int) j rfl rfl rfl h_l (by omega) fun a3516 hp3517 => (wl_s (o_loadS Try.underlying40 rfl s_40 rfl hp3517 fun cs3518 hs3519 => (?_)))))
          obtain rfl := hs3519
          refine wl_s (o_alloc [vI (0 : Int), vI (0 : Int), vI (0 : Int), vI (0 : Int), vI (0 : Int), vI (0 : Int)] z_40 rfl sl2 fun b3520 w3521 e3526 s3522 m3523 k3524 bx3525 => (?_))
          have ne3527 : NeB b3473 b3520 := by show b3473 ≠ b3520; have := bx3484.lt; omega
          have ne3528 : NeB b3501 b3520 := by show b3501 ≠ b3520; have := hbs_2_b3501.lt; omega
          clear e3526
          have h_l := h_l.mv m3523
          have hl3462 := hl3462.mv m3523
          have bx3484 := bx3484.keep k3524 (by simp)
          have hbs_2_b3501 := hbs_2_b3501.keep k3524 (by simp)
          refine wl_n (o_store (vs := [vI ((l[j]!).device), vI ((l[j]!).no), vI ((l[j]!).kind), vI ((l[j]!).copy), vI ((l[j]!).to), vI ((l[j]!).token)]) (.agg #[vI ((l[j]!).device), vI ((l[j]!).no), vI ((l[j]!).kind), vI ((l[j]!).copy), vI ((l[j]!).to), vI ((l[j]!).token)]) rfl rfl rfl s_40 (fun u hu => by simp only [List.mem_cons, List.not_mem_nil, or_false] at hu; rcases hu with rfl | rfl | rfl | rfl | rfl | rfl <;> first | rfl) (by repeat (first | assumption | constructor)) bx3525 (of_decide_eq_true rfl) s3522 fun w3529 s3530 m3531 k3532 bx3533 => (?_))
          have h_l := h_l.mv m3531
          have hl3462 := hl3462.mv m3531
          have bx3484 := bx3484.keep k3532 (nin1 ne3527)
          have hbs_2_b3501 := hbs_2_b3501.keep k3532 (nin1 ne3528)
          refine wl_nil (thenQ_n (?_))
          refine cw_seq (?_)
          refine cw_seq (?_)
          refine cw_region (by kernel_rfl) (wl_s (o_fieldL 3 f_40_3 rfl (wl_s (o_loadBx Try.underlying3 rfl (vI ((l[j]!).copy)) rfl bx3533 rfl (wl_s (o_move (vI ((k : Nat) : Int)) rfl (wl_s (o_neq .i64 ((l[j]!).copy) ((k : Nat) : Int) rfl rfl (wl_s (o_move (Value.bool (((l[j]!).copy) != ((k : Nat) : Int))) rfl (?_)))))))))))
          cases hb3534 : (((l[j]!).copy) != ((k : Nat) : Int))
          ·have hp3535 : (l[j]!).copy = ((k : Nat) : Int) := by first | simpa using hb3534 | (have e := hb3534; simp at e; omega)
           refine wl_t rfl (o_fieldL 5 f_40_5 rfl (wl_t rfl (o_loadBx Try.underlying3 rfl (vI ((l[j]!).token)) rfl bx3533 rfl (wl_t rfl (o_fieldL 2 f_47_2 rfl (wl_t rfl (o_loadBx Try.underlying3 rfl (vI ((foldAt l ((k : Nat) : Int) first j).token)) rfl hbs_2_b3501 rfl (wl_t rfl (o_add .i64 ((foldAt l ((k : Nat) : Int) first j).token) (1 : Int) ((foldAt l ((k : Nat) : Int) first j).token + 1) rfl rfl (w64 (by have := st_foldAt_tok hst (k : Int) j; omega) rfl) (wl_t rfl (o_neq .i64 ((l[j]!).token) ((foldAt l ((k : Nat) : Int) first j).token + 1) rfl rfl (wl_s (o_pickF (Value.bool (((l[j]!).token) != ((foldAt l ((k : Nat) : Int) first j).token + 1))) rfl rfl (wl_s (o_move (Value.bool (((l[j]!).token) != ((foldAt l ((k : Nat) : Int) first j).token + 1))) rfl (?_))))))))))))))))
           cases hb3536 : (((l[j]!).token) != ((foldAt l ((k : Nat) : Int) first j).token + 1))
           ·have hp3537 : (l[j]!).token = (foldAt l ((k : Nat) : Int) first j).token + 1 := by first | simpa using hb3536 | (have e := hb3536; simp at e; omega)
            refine wl_t rfl (o_fieldL 0 f_40_0 rfl (wl_t rfl (o_loadBx Try.underlying3 rfl (vI ((l[j]!).device)) rfl bx3533 rfl (wl_t rfl (o_fieldL 1 f_47_1 rfl (wl_t rfl (o_loadBx Try.underlying3 rfl (vI ((foldAt l ((k : Nat) : Int) first j).device)) rfl hbs_2_b3501 rfl (wl_t rfl (o_neq .i64 ((l[j]!).device) ((foldAt l ((k : Nat) : Int) first j).device) rfl rfl (wl_s (o_pickF (Value.bool (((l[j]!).device) != ((foldAt l ((k : Nat) : Int) first j).device))) rfl rfl (wl_s (o_move (Value.bool (((l[j]!).device) != ((foldAt l ((k : Nat) : Int) first j).device))) rfl (?_))))))))))))))
            cases hb3538 : (((l[j]!).device) != ((foldAt l ((k : Nat) : Int) first j).device))
            ·have hp3539 : (l[j]!).device = (foldAt l ((k : Nat) : Int) first j).device := by first | simpa using hb3538 | (have e := hb3538; simp at e; omega)
             refine wl_t rfl (o_fieldL 3 f_47_3 rfl (wl_t rfl (o_loadBx Try.underlying4 rfl (Value.bool ((foldAt l ((k : Nat) : Int) first j).shown)) rfl hbs_2_b3501 rfl (wl_s (o_pickF (Value.bool ((foldAt l ((k : Nat) : Int) first j).shown)) rfl rfl (wl_nil (thenQ_n (?_))))))))
             refine cw_cond ((foldAt l ((k : Nat) : Int) first j).shown) rfl rfl (fun hc3540 => ?_) (fun hc3540 => ?_)
             ·have hp3541 : ((foldAt l ((k : Nat) : Int) first j).shown) = true := by first | simpa using hc3540 | (have e := hc3540; simp at e; omega)
              refine cw_exit (thenQ_x (blockQ_x (thenQ_n (?_))))
              refine cw_region (by kernel_rfl) (wl_s (o_add .i64 ((j : Nat) : Int) (1 : Int) (((j + 1 : Nat) : Int)) rfl rfl (w64 (by omega) (by omega)) (wl_s (o_move (vI ((j + 1 : Nat) : Int)) rfl (wl_nil (thenQ_n (?_)))))))
              exact ⟨_, (by omega), (j + 1), (b3520 :: Bl2), (by omega), rfl, ⟨_, upds_self _ ⟨rfl, rfl, rfl, rfl, rfl, rfl, rfl, rfl, rfl, rfl, rfl, (by first | rfl | exact congrArg (Value.int _) (by first | omega | (simp))), rfl, trivial⟩⟩, s3530, h_l, hl3462, bx3484, (by first | assumption | (repeat (first | exact List.mem_cons_self | assumption | apply List.mem_cons_of_mem)) | (apply_assumption; assumption)), (by rw [show ([vI ((foldAt l ((k : Nat) : Int) first (j + 1)).copy), vI ((foldAt l ((k : Nat) : Int) first (j + 1)).device), vI ((foldAt l ((k : Nat) : Int) first (j + 1)).token), Value.bool ((foldAt l ((k : Nat) : Int) first (j + 1)).shown)] : List Value) = [vI ((foldAt l ((k : Nat) : Int) first j).copy), vI ((foldAt l ((k : Nat) : Int) first j).device), vI ((foldAt l ((k : Nat) : Int) first j).token), Value.bool ((foldAt l ((k : Nat) : Int) first j).shown)] from by first | rw [fold_s (by omega) (.inl (by assumption))] | rw [fold_s (by omega) (.inr (.inl (by assumption)))] | rw [fold_s (by omega) (.inr (.inr (.inl (by assumption))))] | rw [fold_s (by omega) (.inr (.inr (.inr (by assumption))))] | rw [fold_w (by omega) (by assumption) (by assumption) (by assumption) (by assumption) (by assumption)] | rw [fold_g (by omega) (by assumption) (by assumption) (by assumption) (by assumption) (by assumption)]]; exact hbs_2_b3501), (by first | assumption | (repeat (first | exact List.mem_cons_self | assumption | apply List.mem_cons_of_mem)) | (apply_assumption; assumption))⟩
             ·have hp3542 : ((foldAt l ((k : Nat) : Int) first j).shown) = false := by first | simpa using hc3540 | (have e := hc3540; simp at e; omega)
              refine cw_skip (thenQ_n (?_))
              refine cw_seq (?_)
              refine cw_region (by kernel_rfl) (wl_s (o_fieldL 5 f_40_5 rfl (wl_s (o_loadBx Try.underlying3 rfl (vI ((l[j]!).token)) rfl bx3533 rfl (wl_s (o_fieldL 2 f_47_2 rfl (wl_n (o_store1 (vI ((l[j]!).token)) rfl rfl rfl s_3 (by repeat (first | assumption | constructor)) hbs_2_b3501 (of_decide_eq_true rfl) s3530 fun w3543 s3544 m3545 k3546 bx3547 => (?_)))))))))
              have h_l := h_l.mv m3545
              have hl3462 := hl3462.mv m3545
              have bx3484 := bx3484.keep k3546 (nin1 ne3508)
              have bx3533 := bx3533.keep k3546 (nin1 (Ne.symm ne3528))
              refine wl_nil (thenQ_n (?_))
              refine cw_seq (?_)
              refine cw_region (by kernel_rfl) (wl_s (o_fieldL 2 f_40_2 rfl (wl_s (o_loadBx Try.underlying3 rfl (vI ((l[j]!).kind)) rfl bx3533 rfl (wl_s (o_eql .i64 ((l[j]!).kind) (2 : Int) rfl rfl (wl_nil (thenQ_n (?_)))))))))
              refine cw_cond (((l[j]!).kind) == (2 : Int)) rfl rfl (fun hc3548 => ?_) (fun hc3548 => ?_)
              ·have hp3549 : (l[j]!).kind = (2 : Int) := by first | simpa using hc3548 | (have e := hc3548; simp at e; omega)
               refine cw_region (by kernel_rfl) (wl_s (o_fieldL 3 f_47_3 rfl (wl_n (o_store1 (Value.bool true) rfl rfl rfl s_4 (by repeat (first | assumption | constructor)) bx3547 (of_decide_eq_true rfl) s3544 fun w3550 s3551 m3552 k3553 bx3554 => (?_)))))
               have h_l := h_l.mv m3552
               have hl3462 := hl3462.mv m3552
               have bx3484 := bx3484.keep k3553 (nin1 ne3508)
               refine wl_nil (blockQ_n (thenQ_n (?_)))
               refine cw_region (by kernel_rfl) (wl_s (o_add .i64 ((j : Nat) : Int) (1 : Int) (((j + 1 : Nat) : Int)) rfl rfl (w64 (by omega) (by omega)) (wl_s (o_move (vI ((j + 1 : Nat) : Int)) rfl (wl_nil (thenQ_n (?_)))))))
               exact ⟨_, (by omega), (j + 1), (b3520 :: Bl2), (by omega), rfl, ⟨_, upds_self _ ⟨rfl, rfl, rfl, rfl, rfl, rfl, rfl, rfl, rfl, rfl, rfl, (by first | rfl | exact congrArg (Value.int _) (by first | omega | (simp))), rfl, trivial⟩⟩, s3551, h_l, hl3462, bx3484, (by first | assumption | (repeat (first | exact List.mem_cons_self | assumption | apply List.mem_cons_of_mem)) | (apply_assumption; assumption)), (by rw [show ([vI ((foldAt l ((k : Nat) : Int) first (j + 1)).copy), vI ((foldAt l ((k : Nat) : Int) first (j + 1)).device), vI ((foldAt l ((k : Nat) : Int) first (j + 1)).token), Value.bool ((foldAt l ((k : Nat) : Int) first (j + 1)).shown)] : List Value) = [vI ((foldAt l ((k : Nat) : Int) first j).copy), vI ((foldAt l ((k : Nat) : Int) first j).device), vI ((l[j]!).token), Value.bool true] from by first | rw [fold_s (by omega) (.inl (by assumption))] | rw [fold_s (by omega) (.inr (.inl (by assumption)))] | rw [fold_s (by omega) (.inr (.inr (.inl (by assumption))))] | rw [fold_s (by omega) (.inr (.inr (.inr (by assumption))))] | rw [fold_w (by omega) (by assumption) (by assumption) (by assumption) (by assumption) (by assumption)] | rw [fold_g (by omega) (by assumption) (by assumption) (by assumption) (by assumption) (by assumption)]]; exact bx3554), (by first | assumption | (repeat (first | exact List.mem_cons_self | assumption | apply List.mem_cons_of_mem)) | (apply_assumption; assumption))⟩
              ·have hp3555 : (l[j]!).kind ≠ (2 : Int) := by first | simpa using hc3548 | (have e := hc3548; simp at e; omega)
               refine cw_region (by kernel_rfl) (wl_s (o_fieldL 4 f_40_4 rfl (wl_s (o_loadBx Try.underlying3 rfl (vI ((l[j]!).to)) rfl bx3533 rfl (wl_s (o_fieldL 1 f_47_1 rfl (wl_n (o_store1 (vI ((l[j]!).to)) rfl rfl rfl s_3 (by repeat (first | assumption | constructor)) bx3547 (of_decide_eq_true rfl) s3544 fun w3556 s3557 m3558 k3559 bx3560 => (?_)))))))))
               have h_l := h_l.mv m3558
               have hl3462 := hl3462.mv m3558
               have bx3484 := bx3484.keep k3559 (nin1 ne3508)
               refine wl_nil (blockQ_n (thenQ_n (?_)))
               refine cw_region (by kernel_rfl) (wl_s (o_add .i64 ((j : Nat) : Int) (1 : Int) (((j + 1 : Nat) : Int)) rfl rfl (w64 (by omega) (by omega)) (wl_s (o_move (vI ((j + 1 : Nat) : Int)) rfl (wl_nil (thenQ_n (?_)))))))
               exact ⟨_, (by omega), (j + 1), (b3520 :: Bl2), (by omega), rfl, ⟨_, upds_self _ ⟨rfl, rfl, rfl, rfl, rfl, rfl, rfl, rfl, rfl, rfl, rfl, (by first | rfl | exact congrArg (Value.int _) (by first | omega | (simp))), rfl, trivial⟩⟩, s3557, h_l, hl3462, bx3484, (by first | assumption | (repeat (first | exact List.mem_cons_self | assumption | apply List.mem_cons_of_mem)) | (apply_assumption; assumption)), (by rw [show ([vI ((foldAt l ((k : Nat) : Int) first (j + 1)).copy), vI ((foldAt l ((k : Nat) : Int) first (j + 1)).device), vI ((foldAt l ((k : Nat) : Int) first (j + 1)).token), Value.bool ((foldAt l ((k : Nat) : Int) first (j + 1)).shown)] : List Value) = [vI ((foldAt l ((k : Nat) : Int) first j).copy), vI ((l[j]!).to), vI ((l[j]!).token), Value.bool ((foldAt l ((k : Nat) : Int) first j).shown)] from by first | rw [fold_s (by omega) (.inl (by assumption))] | rw [fold_s (by omega) (.inr (.inl (by assumption)))] | rw [fold_s (by omega) (.inr (.inr (.inl (by assumption))))] | rw [fold_s (by omega) (.inr (.inr (.inr (by assumption))))] | rw [fold_w (by omega) (by assumption) (by assumption) (by assumption) (by assumption) (by assumption)] | rw [fold_g (by omega) (by assumption) (by assumption) (by assumption) (by assumption) (by assumption)]]; exact bx3560), (by first | assumption | (repeat (first | exact List.mem_cons_self | assumption | apply List.mem_cons_of_mem)) | (apply_assumption; assumption))⟩
            ·have hp3561 : (l[j]!).device ≠ (foldAt l ((k : Nat) : Int) first j).device := by first | simpa using hb3538 | (have e := hb3538; simp at e; omega)
             refine wl_k rfl (wl_k rfl (wl_s (o_pickT (Value.bool true) rfl rfl (wl_nil (thenQ_n (?_))))))
             refine cw_cond true rfl rfl (fun _ => ?_) (fun h => by cases h)
             refine cw_exit (thenQ_x (blockQ_x (thenQ_n (?_))))
             refine cw_region (by kernel_rfl) (wl_s (o_add .i64 ((j : Nat) : Int) (1 : Int) (((j + 1 : Nat) : Int)) rfl rfl (w64 (by omega) (by omega)) (wl_s (o_move (vI ((j + 1 : Nat) : Int)) rfl (wl_nil (thenQ_n (?_)))))))
             exact ⟨_, (by omega), (j + 1), (b3520 :: Bl2), (by omega), rfl, ⟨_, upds_self _ ⟨rfl, rfl, rfl, rfl, rfl, rfl, rfl, rfl, rfl, rfl, rfl, (by first | rfl | exact congrArg (Value.int _) (by first | omega | (simp))), rfl, trivial⟩⟩, s3530, h_l, hl3462, bx3484, (by first | assumption | (repeat (first | exact List.mem_cons_self | assumption | apply List.mem_cons_of_mem)) | (apply_assumption; assumption)), (by rw [show ([vI ((foldAt l ((k : Nat) : Int) first (j + 1)).copy), vI ((foldAt l ((k : Nat) : Int) first (j + 1)).device), vI ((foldAt l ((k : Nat) : Int) first (j + 1)).token), Value.bool ((foldAt l ((k : Nat) : Int) first (j + 1)).shown)] : List Value) = [vI ((foldAt l ((k : Nat) : Int) first j).copy), vI ((foldAt l ((k : Nat) : Int) first j).device), vI ((foldAt l ((k : Nat) : Int) first j).token), Value.bool ((foldAt l ((k : Nat) : Int) first j).shown)] from by first | rw [fold_s (by omega) (.inl (by assumption))] | rw [fold_s (by omega) (.inr (.inl (by assumption)))] | rw [fold_s (by omega) (.inr (.inr (.inl (by assumption))))] | rw [fold_s (by omega) (.inr (.inr (.inr (by assumption))))] | rw [fold_w (by omega) (by assumption) (by assumption) (by assumption) (by assumption) (by assumption)] | rw [fold_g (by omega) (by assumption) (by assumption) (by assumption) (by assumption) (by assumption)]]; exact hbs_2_b3501), (by first | assumption | (repeat (first | exact List.mem_cons_self | assumption | apply List.mem_cons_of_mem)) | (apply_assumption; assumption))⟩
           ·have hp3562 : (l[j]!).token ≠ (foldAt l ((k : Nat) : Int) first j).token + 1 := by first | simpa using hb3536 | (have e := hb3536; simp at e; omega)
            refine wl_k rfl (wl_k rfl (wl_k rfl (wl_k rfl (wl_k rfl (wl_s (o_pickT (Value.bool true) rfl rfl (wl_s (o_move (Value.bool true) rfl (wl_k rfl (wl_k rfl (wl_s (o_pickT (Value.bool true) rfl rfl (wl_nil (thenQ_n (?_)))))))))))))))
            refine cw_cond true rfl rfl (fun _ => ?_) (fun h => by cases h)
            refine cw_exit (thenQ_x (blockQ_x (thenQ_n (?_))))
            refine cw_region (by kernel_rfl) (wl_s (o_add .i64 ((j : Nat) : Int) (1 : Int) (((j + 1 : Nat) : Int)) rfl rfl (w64 (by omega) (by omega)) (wl_s (o_move (vI ((j + 1 : Nat) : Int)) rfl (wl_nil (thenQ_n (?_)))))))
            exact ⟨_, (by omega), (j + 1), (b3520 :: Bl2), (by omega), rfl, ⟨_, upds_self _ ⟨rfl, rfl, rfl, rfl, rfl, rfl, rfl, rfl, rfl, rfl, rfl, (by first | rfl | exact congrArg (Value.int _) (by first | omega | (simp))), rfl, trivial⟩⟩, s3530, h_l, hl3462, bx3484, (by first | assumption | (repeat (first | exact List.mem_cons_self | assumption | apply List.mem_cons_of_mem)) | (apply_assumption; assumption)), (by rw [show ([vI ((foldAt l ((k : Nat) : Int) first (j + 1)).copy), vI ((foldAt l ((k : Nat) : Int) first (j + 1)).device), vI ((foldAt l ((k : Nat) : Int) first (j + 1)).token), Value.bool ((foldAt l ((k : Nat) : Int) first (j + 1)).shown)] : List Value) = [vI ((foldAt l ((k : Nat) : Int) first j).copy), vI ((foldAt l ((k : Nat) : Int) first j).device), vI ((foldAt l ((k : Nat) : Int) first j).token), Value.bool ((foldAt l ((k : Nat) : Int) first j).shown)] from by first | rw [fold_s (by omega) (.inl (by assumption))] | rw [fold_s (by omega) (.inr (.inl (by assumption)))] | rw [fold_s (by omega) (.inr (.inr (.inl (by assumption))))] | rw [fold_s (by omega) (.inr (.inr (.inr (by assumption))))] | rw [fold_w (by omega) (by assumption) (by assumption) (by assumption) (by assumption) (by assumption)] | rw [fold_g (by omega) (by assumption) (by assumption) (by assumption) (by assumption) (by assumption)]]; exact hbs_2_b3501), (by first | assumption | (repeat (first | exact List.mem_cons_self | assumption | apply List.mem_cons_of_mem)) | (apply_assumption; assumption))⟩
          ·have hp3563 : (l[j]!).copy ≠ ((k : Nat) : Int) := by first | simpa using hb3534 | (have e := hb3534; simp at e; omega)
           refine wl_k rfl (wl_k rfl (wl_k rfl (wl_k rfl (wl_k rfl (wl_k rfl (wl_s (o_pickT (Value.bool true) rfl rfl (wl_s (o_move (Value.bool true) rfl (wl_k rfl (wl_k rfl (wl_k rfl (wl_k rfl (wl_k rfl (wl_s (o_pickT (Value.bool true) rfl rfl (wl_s (o_move (Value.bool true) rfl (wl_k rfl (wl_k rfl (wl_s (o_pickT (Value.bool true) rfl rfl (wl_nil (thenQ_n (?_)))))))))))))))))))))))))
           refine cw_cond true rfl rfl (fun _ => ?_) (fun h => by cases h)
           refine cw_exit (thenQ_x (blockQ_x (thenQ_n (?_))))
           refine cw_region (by kernel_rfl) (wl_s (o_add .i64 ((j : Nat) : Int) (1 : Int) (((j + 1 : Nat) : Int)) rfl rfl (w64 (by omega) (by omega)) (wl_s (o_move (vI ((j + 1 : Nat) : Int)) rfl (wl_nil (thenQ_n (?_)))))))
           exact ⟨_, (by omega), (j + 1), (b3520 :: Bl2), (by omega), rfl, ⟨_, upds_self _ ⟨rfl, rfl, rfl, rfl, rfl, rfl, rfl, rfl, rfl, rfl, rfl, (by first | rfl | exact congrArg (Value.int _) (by first | omega | (simp))), rfl, trivial⟩⟩, s3530, h_l, hl3462, bx3484, (by first | assumption | (repeat (first | exact List.mem_cons_self | assumption | apply List.mem_cons_of_mem)) | (apply_assumption; assumption)), (by rw [show ([vI ((foldAt l ((k : Nat) : Int) first (j + 1)).copy), vI ((foldAt l ((k : Nat) : Int) first (j + 1)).device), vI ((foldAt l ((k : Nat) : Int) first (j + 1)).token), Value.bool ((foldAt l ((k : Nat) : Int) first (j + 1)).shown)] : List Value) = [vI ((foldAt l ((k : Nat) : Int) first j).copy), vI ((foldAt l ((k : Nat) : Int) first j).device), vI ((foldAt l ((k : Nat) : Int) first j).token), Value.bool ((foldAt l ((k : Nat) : Int) first j).shown)] from by first | rw [fold_s (by omega) (.inl (by assumption))] | rw [fold_s (by omega) (.inr (.inl (by assumption)))] | rw [fold_s (by omega) (.inr (.inr (.inl (by assumption))))] | rw [fold_s (by omega) (.inr (.inr (.inr (by assumption))))] | rw [fold_w (by omega) (by assumption) (by assumption) (by assumption) (by assumption) (by assumption)] | rw [fold_g (by omega) (by assumption) (by assumption) (by assumption) (by assumption) (by assumption)]]; exact hbs_2_b3501), (by first | assumption | (repeat (first | exact List.mem_cons_self | assumption | apply List.mem_cons_of_mem)) | (apply_assumption; assumption))⟩
         ·have hp3564 : (l.length : Int) ≤ ((j : Nat) : Int) := by first | simpa using hc3514 | (have e := hc3514; simp at e; omega)
          obtain rfl : j = l.length := by omega
          refine cw_exit (thenQ_x (thenQ_x (blockQ_x (thenQ_n (?_)))))
          refine cw_seq (?_)
          refine cw_region (by kernel_rfl) (wl_s (o_loadBxA (vs := [vI ((foldAt l ((k : Nat) : Int) first l.length).copy), vI ((foldAt l ((k : Nat) : Int) first l.length).device), vI ((foldAt l ((k : Nat) : Int) first l.length).token), Value.bool ((foldAt l ((k : Nat) : Int) first l.length).shown)]) Try.underlying47 rfl s_47 rfl hbs_2_b3501 rfl (wl_s (o_loadBxA (vs := [vI ((((stateM l copies first).1)[k]!).copy), vI ((((stateM l copies first).1)[k]!).device), vI ((((stateM l copies first).1)[k]!).token), Value.bool ((((stateM l copies first).1)[k]!).shown)]) Try.underlying47 rfl s_47 rfl bx3484 rfl (wl_s (o_neqF (ks := [true, true, true, false]) [.inl ((foldAt l ((k : Nat) : Int) first l.length).copy), .inl ((foldAt l ((k : Nat) : Int) first l.length).device), .inl ((foldAt l ((k : Nat) : Int) first l.length).token), .inr ((foldAt l ((k : Nat) : Int) first l.length).shown)] [.inl ((((stateM l copies first).1)[k]!).copy), .inl ((((stateM l copies first).1)[k]!).device), .inl ((((stateM l copies first).1)[k]!).token), .inr ((((stateM l copies first).1)[k]!).shown)] str_holding flat_holding rfl rfl rfl rfl (congrArg not (cs_holding (foldAt l ((k : Nat) : Int) first l.length) (((stateM l copies first).1)[k]!))) (wl_nil (thenQ_n (?_)))))))))
          have hb3565 : (!((foldAt l ((k : Nat) : Int) first l.length) == (((stateM l copies first).1)[k]!))) = false := (by rw [show ((foldAt l ((k : Nat) : Int) first l.length) == (((stateM l copies first).1)[k]!)) = true from (by rw [once_at hst (by omega)]; exact beq_self_eq_true _)]; rfl)
          rw [hb3565]
          refine cw_cond false rfl rfl (fun h => by cases h) (fun _ => ?_)
          refine cw_skip (blockQ_n (thenQ_n (?_)))
          refine cw_region (by kernel_rfl) (wl_s (o_add .i64 ((k : Nat) : Int) (1 : Int) (((k + 1 : Nat) : Int)) rfl rfl (w64 (by omega) (by omega)) (wl_s (o_move (vI ((k + 1 : Nat) : Int)) rfl (wl_nil (thenQ_n (?_)))))))
          exact ⟨_, (by omega), (k + 1), Bl2, (by omega), rfl, ⟨_, upds_self _ ⟨rfl, rfl, rfl, rfl, rfl, (by first | rfl | exact congrArg (Value.int _) (by first | omega | (simp))), rfl, trivial⟩⟩, sl2, h_l, hl3462⟩
     ·have hp3566 : (((stateM l copies first).1).length : Int) ≤ ((k : Nat) : Int) := by first | simpa using hc3467 | (have e := hc3467; simp at e; omega)
      refine cw_exit (thenQ_x (thenQ_x (blockQ_x (thenQ_n (?_)))))
      refine cw_seq (?_)
      refine cw_region (by kernel_rfl) (wl_s (o_assign (Value.bool true) rfl (wl_nil (thenQ_n (?_)))))
      refine cw_ret (end_r rfl (res1 rfl rfl rfl) (?_))
      exact ⟨_, rfl, sl0.keep, rfl⟩
 ·have hp3567 : 40 < (l.length : Int) := by first | simpa using hb3450 | (have e := hb3450; simp at e; omega)
  refine wl_k rfl (wl_k rfl (wl_s (o_pickT (Value.bool true) rfl rfl (wl_nil (thenQ_n (?_))))))
  refine cw_cond true rfl rfl (fun _ => ?_) (fun h => by cases h)
  refine cw_seq (?_)
  refine cw_region (by kernel_rfl) (wl_s (o_assign (Value.bool true) rfl (wl_nil (thenQ_n (?_)))))
  refine cw_ret (thenQ_r (end_r rfl (res1 rfl rfl rfl) (?_)))
  exact ⟨_, rfl, s3446.keep, rfl⟩

end Go.Proofs.Ytjpniibleelgiaa
