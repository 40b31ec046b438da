/- Walks, printed by gen.py. -/
import Derived.Test.YtjpniibleelgiaaXd
import Derived.Test.YtjpniibleelgiaaXb
import Derived.Test.YtjpniibleelgiaaFwS
import Derived.Test.YtjpniibleelgiaaMrA
set_option linter.unusedSimpArgs false
set_option linter.unusedVariables false
namespace Go.Proofs.Ytjpniibleelgiaa
open Go.Fw Go.RowKit

set_option maxHeartbeats 4000000 in
set_option maxRecDepth 100000 in
theorem c_formed {O : List Nat} (d_cs : List Value) (d : Device) (w : World) (h_d : Enc.device.rd w O d_cs d) (hO : ∀ b ∈ O, b < w.heap.size) : CallsK Try.prog 79 [.agg d_cs.toArray] w (fun v _ => v = .bool (formedM d)) :=  by
 have h_d : Enc.device.rd w ([] ++ O) d_cs d := h_d
 have s0 : St w O w [] := St.start hO
 refine callsK_of 32 Try.func79 rfl rfl (of_decide_eq_true rfl) (fun F0 => ?_)
 refine cw_seq (?_)
 refine cw_region (by kernel_rfl) (wl_s (o_boxR (E := Enc.device) (Value.agg d_cs.toArray) (d_cs) d rfl rfl h_d s0 fun a4473 w4474 s4475 m4476 k4477 hp4478 => (?_)))
 refine wl_s (o_assign (Value.bool false) rfl (wl_nil (thenQ_n (?_))))
 refine cw_seq (?_)
 refine cw_region (by kernel_rfl) (wl_s (o_field0 f_112_0 rfl (wl_s (o_fieldR 0 f_31_0 (d.id) rfl hp4478 (fun _ _ _ h => Enc_device_f0 h) fun a4479 hp4480 => (wl_s (o_loadI Try.underlying3 rfl rfl hp4480 (wl_s (o_geq .i64 d.id (0 : Int) rfl rfl (wl_s (o_move (Value.bool (decide ((0 : Int) ≤ d.id))) rfl (?_)))))))))))
 cases hb4481 : (decide ((0 : Int) ≤ d.id))
 ·have hp4482 : d.id < (0 : Int) := by first | simpa using hb4481 | (have e := hb4481; simp at e; omega)
  refine wl_k rfl (wl_k rfl (wl_k rfl (wl_k rfl (wl_s (o_pickF (Value.bool false) rfl rfl (wl_s (o_move (Value.bool false) rfl (wl_k rfl (wl_k rfl (wl_k rfl (wl_k rfl (wl_s (o_pickF (Value.bool false) rfl rfl (wl_s (o_move (Value.bool false) rfl (wl_k rfl (wl_k rfl (wl_k rfl (wl_k rfl (wl_s (o_pickF (Value.bool false) rfl rfl (wl_s (o_move (Value.bool false) rfl (wl_k rfl (wl_k rfl (wl_k rfl (wl_k rfl (wl_k rfl (wl_s (o_pickF (Value.bool false) rfl rfl (wl_s (o_assign (Value.bool false) rfl (wl_nil (thenQ_n (?_)))))))))))))))))))))))))))))))))))
  refine cw_ret (end_r rfl (res1 rfl rfl rfl) (?_))
  have e : (formedM d) = false := by simp [formedM, *]
  exact ⟨_, rfl, s4475.keep, (by first | exact congrArg Value.bool e.symm | rfl)⟩
 ·have hp4483 : (0 : Int) ≤ d.id := by first | simpa using hb4481 | (have e := hb4481; simp at e; omega)
  refine wl_t rfl (o_field0 f_112_0 rfl (wl_t rfl (o_fieldR 0 f_31_0 (d.id) rfl hp4478 (fun _ _ _ h => Enc_device_f0 h) fun a4484 hp4485 => (wl_t rfl (o_loadI Try.underlying3 rfl rfl hp4485 (wl_t rfl (o_lss .i64 d.id (4 : Int) rfl rfl (wl_s (o_pickT (Value.bool (decide (d.id < (4 : Int)))) rfl rfl (wl_s (o_move (Value.bool (decide (d.id < (4 : Int)))) rfl (?_))))))))))))
  cases hb4486 : (decide (d.id < (4 : Int)))
  ·have hp4487 : (4 : Int) ≤ d.id := by first | simpa using hb4486 | (have e := hb4486; simp at e; omega)
   refine wl_k rfl (wl_k rfl (wl_k rfl (wl_k rfl (wl_s (o_pickF (Value.bool false) rfl rfl (wl_s (o_move (Value.bool false) rfl (wl_k rfl (wl_k rfl (wl_k rfl (wl_k rfl (wl_s (o_pickF (Value.bool false) rfl rfl (wl_s (o_move (Value.bool false) rfl (wl_k rfl (wl_k rfl (wl_k rfl (wl_k rfl (wl_k rfl (wl_s (o_pickF (Value.bool false) rfl rfl (wl_s (o_assign (Value.bool false) rfl (wl_nil (thenQ_n (?_)))))))))))))))))))))))))))
   refine cw_ret (end_r rfl (res1 rfl rfl rfl) (?_))
   have e : (formedM d) = false := by simp [formedM, *]
   exact ⟨_, rfl, s4475.keep, (by first | exact congrArg Value.bool e.symm | rfl)⟩
  ·have hp4488 : d.id < (4 : Int) := by first | simpa using hb4486 | (have e := hb4486; simp at e; omega)
   refine wl_t rfl (o_field0 f_112_0 rfl (wl_t rfl (o_fieldR 1 f_31_1 (d.counter) rfl hp4478 (fun _ _ _ h => Enc_device_f1 h) fun a4489 hp4490 => (wl_t rfl (o_loadI Try.underlying3 rfl rfl hp4490 (wl_t rfl (o_geq .i64 d.counter (0 : Int) rfl rfl (wl_s (o_pickT (Value.bool (decide ((0 : Int) ≤ d.counter))) rfl rfl (wl_s (o_move (Value.bool (decide ((0 : Int) ≤ d.counter))) rfl (?_))))))))))))
   cases hb4491 : (decide ((0 : Int) ≤ d.counter))
   ·have hp4492 : d.counter < (0 : Int) := by first | simpa using hb4491 | (have e := hb4491; simp at e; omega)
    refine wl_k rfl (wl_k rfl (wl_k rfl (wl_k rfl (wl_s (o_pickF (Value.bool false) rfl rfl (wl_s (o_move (Value.bool false) rfl (wl_k rfl (wl_k rfl (wl_k rfl (wl_k rfl (wl_k rfl (wl_s (o_pickF (Value.bool false) rfl rfl (wl_s (o_assign (Value.bool false) rfl (wl_nil (thenQ_n (?_)))))))))))))))))))
    refine cw_ret (end_r rfl (res1 rfl rfl rfl) (?_))
    have e : (formedM d) = false := by simp [formedM, *]
    exact ⟨_, rfl, s4475.keep, (by first | exact congrArg Value.bool e.symm | rfl)⟩
   ·have hp4493 : (0 : Int) ≤ d.counter := by first | simpa using hb4491 | (have e := hb4491; simp at e; omega)
    refine wl_t rfl (o_field0 f_112_0 rfl (wl_t rfl (o_fieldR 1 f_31_1 (d.counter) rfl hp4478 (fun _ _ _ h => Enc_device_f1 h) fun a4494 hp4495 => (wl_t rfl (o_loadI Try.underlying3 rfl rfl hp4495 (wl_t rfl (o_leq .i64 d.counter (65535 : Int) rfl rfl (wl_s (o_pickT (Value.bool (decide (d.counter ≤ (65535 : Int)))) rfl rfl (wl_s (o_move (Value.bool (decide (d.counter ≤ (65535 : Int)))) rfl (?_))))))))))))
    cases hb4496 : (decide (d.counter ≤ (65535 : Int)))
    ·have hp4497 : (65535 : Int) < d.counter := by first | simpa using hb4496 | (have e := hb4496; simp at e; omega)
     refine wl_k rfl (wl_k rfl (wl_k rfl (wl_k rfl (wl_k rfl (wl_s (o_pickF (Value.bool false) rfl rfl (wl_s (o_assign (Value.bool false) rfl (wl_nil (thenQ_n (?_)))))))))))
     refine cw_ret (end_r rfl (res1 rfl rfl rfl) (?_))
     have e : (formedM d) = false := by simp [formedM, *]
     exact ⟨_, rfl, s4475.keep, (by first | exact congrArg Value.bool e.symm | rfl)⟩
    ·have hp4498 : d.counter ≤ (65535 : Int) := by first | simpa using hb4496 | (have e := hb4496; simp at e; omega)
     refine wl_t rfl (o_field0 f_112_0 rfl (wl_t rfl (o_fieldR 2 f_31_2 (d.ops) rfl hp4478 (fun _ _ _ h => Enc_device_f2 h) fun a4499 hp4500 => (wl_t rfl (o_loadL Try.underlying26 rfl rfl hp4500 fun v4501 hl4502 => (?_))))))
     have := hl4502.len_le
     refine wl_t rfl (o_callK (vs := [v4501]) enter_29 (c_check42 (O := [] ++ O) v4501 d.ops w4474 hl4502 s4475.lt) rfl s4475 fun v4503 w4504 s4505 m4506 k4507 r4508 => (?_))
     obtain rfl := r4508
     refine wl_t rfl (o_eql .i64 (checkM d.ops) (0 : Int) rfl rfl (wl_s (o_pickT (Value.bool ((checkM d.ops) == (0 : Int))) rfl rfl (wl_s (o_assign (Value.bool ((checkM d.ops) == (0 : Int))) rfl (wl_nil (thenQ_n (?_))))))))
     refine cw_ret (end_r rfl (res1 rfl rfl rfl) (?_))
     have e : (formedM d) = ((checkM d.ops) == (0 : Int)) := by simp [formedM, *]
     exact ⟨_, rfl, s4505.keep, (by first | exact congrArg Value.bool e.symm | rfl)⟩
set_option maxHeartbeats 4000000 in
set_option maxRecDepth 100000 in
theorem c_whole {O : List Nat} (d_cs : List Value) (d : Device) (w : World) (h_d : Enc.device.rd w O d_cs d) (hO : ∀ b ∈ O, b < w.heap.size) : CallsK Try.prog 81 [.agg d_cs.toArray] w (fun v _ => v = .bool (wholeM d)) :=  by
 have h_d : Enc.device.rd w ([] ++ O) d_cs d := h_d
 have s0 : St w O w [] := St.start hO
 refine callsK_ofM 24 Try.func81 rfl rfl (of_decide_eq_true rfl) (fun F0 => ?_)
 refine cw_seq (?_)
 refine cw_region (by kernel_rfl) (wl_s (o_boxR (E := Enc.device) (Value.agg d_cs.toArray) (d_cs) d rfl rfl h_d s0 fun a4509 w4510 s4511 m4512 k4513 hp4514 => (?_)))
 have h_d : Enc.device.rd w4510 ([] ++ O) d_cs (d) := Enc.mv Enc.device (x := d) h_d m4512
 refine wl_s (o_alloc [Value.bool false] z_4 rfl s4511 fun b4515 w4516 e4521 s4517 m4518 k4519 bx4520 => (?_))
 clear e4521
 have h_d : Enc.device.rd w4516 ((b4515 :: []) ++ O) d_cs (d) := Enc.mv Enc.device (x := d) h_d m4518
 have hp4514 := hp4514.mv m4518
 refine wl_nil (thenQ_n (?_))
 refine cw_seq (?_)
 refine cw_seq (?_)
 refine cw_region (by kernel_rfl) (wl_s (o_loadS Try.underlying112 rfl s_112 rfl hp4514 fun cs4522 hs4523 => (wl_s (o_callK (vs := [Value.agg cs4522.toArray]) enter_79 (c_formed (O := (b4515 :: []) ++ O) cs4522 d w4516 hs4523 s4517.lt) rfl s4517 fun v4524 w4525 s4526 m4527 k4528 r4529 => (?_)))))
 obtain rfl := r4529
 have h_d : Enc.device.rd w4525 ((b4515 :: []) ++ O) d_cs (d) := Enc.mv Enc.device (x := d) h_d m4527
 have hp4514 := hp4514.mv m4527
 have hs4523 : Enc.device.rd w4525 ((b4515 :: []) ++ O) cs4522 (d) := Enc.mv Enc.device (x := d) hs4523 m4527
 have bx4520 := bx4520.keep k4528 (by simp)
 refine wl_s (o_not (formedM d) rfl (wl_nil (thenQ_n (?_))))
 refine cw_cond (!(formedM d)) rfl rfl (fun hc4530 => ?_) (fun hc4530 => ?_)
 ·have hp4531 : (formedM d) = false := by first | simpa using hc4530 | (have e := hc4530; rw [Bool.not_eq_true'] at e; exact e) | (have e := hc4530; rw [Bool.not_eq_false'] at e; exact e) | (have e := hc4530; simp at e; omega)
  refine cw_seq (?_)
  refine cw_region (by kernel_rfl) (wl_n (o_store1 (Value.bool false) rfl rfl rfl s_4 (by repeat (first | assumption | constructor)) bx4520 (of_decide_eq_true rfl) s4526 fun w4532 s4533 m4534 k4535 bx4536 => (?_)))
  refine wl_nil (thenQ_n (?_))
  refine cw_ret (thenQ_r (endM_r rfl (resc rfl rfl Try.underlying4 rfl rfl bx4536 rfl) (?_)))
  have e : (wholeM d) = false := by first | exact whole_f (by assumption) | exact whole_over (k := k) (by omega) (by assumption) (by omega) | exact whole_end (by assumption) hrw0_1
  exact ⟨_, rfl, s4533.keep, (by first | exact congrArg Value.bool e.symm | rfl)⟩
 ·have hp4537 : (formedM d) = true := by first | simpa using hc4530 | (have e := hc4530; rw [Bool.not_eq_true'] at e; exact e) | (have e := hc4530; rw [Bool.not_eq_false'] at e; exact e) | (have e := hc4530; simp at e; omega)
  refine cw_skip (thenQ_n (?_))
  refine cw_seq (?_)
  refine cw_region (by kernel_rfl) (wl_s (o_alloc [vI (0 : Int)] z_3 rfl s4526 fun b4538 w4539 e4544 s4540 m4541 k4542 bx4543 => (?_)))
  have ne4545 : NeB b4515 b4538 := by show b4515 ≠ b4538; have := bx4520.lt; omega
  clear e4544
  have h_d : Enc.device.rd w4539 ((b4538 :: (b4515 :: [])) ++ O) d_cs (d) := Enc.mv Enc.device (x := d) h_d m4541
  have hp4514 := hp4514.mv m4541
  have hs4523 : Enc.device.rd w4539 ((b4538 :: (b4515 :: [])) ++ O) cs4522 (d) := Enc.mv Enc.device (x := d) hs4523 m4541
  have bx4520 := bx4520.keep k4542 (by simp)
  refine wl_n (o_store1 (vI (0 : Int)) rfl rfl rfl s_3 (by repeat (first | assumption | constructor)) bx4543 (of_decide_eq_true rfl) s4540 fun w4546 s4547 m4548 k4549 bx4550 => (?_))
  have h_d : Enc.device.rd w4546 ((b4538 :: (b4515 :: [])) ++ O) d_cs (d) := Enc.mv Enc.device (x := d) h_d m4548
  have hp4514 := hp4514.mv m4548
  have hs4523 : Enc.device.rd w4546 ((b4538 :: (b4515 :: [])) ++ O) cs4522 (d) := Enc.mv Enc.device (x := d) hs4523 m4548
  have bx4520 := bx4520.keep k4549 (nin1 ne4545)
  refine wl_nil (thenQ_n (?_))
  refine cw_seq (?_)
  refine cw_seq (?_)
  refine cw_region (by kernel_rfl) (wl_s (o_loadS Try.underlying112 rfl s_112 rfl hp4514 fun cs4551 hs4552 => (wl_s (o_call [Value.agg cs4551.toArray] _ enter_103 rfl (calls_of_cw 4 Try.func103 rfl rfl (of_decide_eq_true rfl) (fun F4553 => ?_)) (fun _ _ h => h)))))
  refine cw_seq (?_)
  refine cw_region (by kernel_rfl) (wl_s (o_boxR (E := Enc.device) (Value.agg cs4551.toArray) (cs4551) d rfl rfl hs4552 s4547 fun a4554 w4555 s4556 m4557 k4558 hp4559 => (?_)))
  have hs4552 : Enc.device.rd w4555 ((b4538 :: (b4515 :: [])) ++ O) cs4551 (d) := Enc.mv Enc.device (x := d) hs4552 m4557
  have h_d : Enc.device.rd w4555 ((b4538 :: (b4515 :: [])) ++ O) d_cs (d) := Enc.mv Enc.device (x := d) h_d m4557
  have hp4514 := hp4514.mv m4557
  have hs4523 : Enc.device.rd w4555 ((b4538 :: (b4515 :: [])) ++ O) cs4522 (d) := Enc.mv Enc.device (x := d) hs4523 m4557
  have bx4520 := bx4520.keep k4558 (by simp)
  have bx4550 := bx4550.keep k4558 (by simp)
  refine wl_s (o_assign (Value.nilFunc) rfl (wl_nil (thenQ_n (?_))))
  refine cw_seq (?_)
  refine cw_region (by kernel_rfl) (wl_s (o_makeFunc (first := []) (captured := [.tmp 1]) [] [Value.pointer (some a4554)] rfl rfl (wl_s (o_assign (Value.func (.func 106) #[] #[Value.pointer (some a4554)]) rfl (wl_nil (thenQ_n (?_)))))))
  refine cw_ret (end_r rfl (res1 rfl rfl rfl) (Exists.intro _ (And.intro rfl (?_))))
  refine wl_nil (thenQ_n (?_))
  refine cw_block (?_)
  refine cw_range (fs := []) (lb := [Value.pointer (some a4554)]) rfl rfl enter_106 rfl (fun l_r4560 D_r4560 w4561 R_r4560 _ hR_r4560 hD4563 hl4564 k4562 oD_r4560 oL_r4560 => ?_)
  have ne4567 : NeB b4515 D_r4560 ∧ NeB b4515 l_r4560 := by show b4515 ≠ D_r4560 ∧ b4515 ≠ l_r4560; have := bx4520.lt; omega
  have ne4568 : NeB b4538 D_r4560 ∧ NeB b4538 l_r4560 := by show b4538 ≠ D_r4560 ∧ b4538 ≠ l_r4560; have := bx4550.lt; omega
  have s4565 := s4556.adopt2 k4562 hD4563 (by omega) oD_r4560.lt oL_r4560.lt
  have m4566 : Mv (b4538 :: (b4515 :: [])) w4555 (l_r4560 :: D_r4560 :: (b4538 :: (b4515 :: []))) w4561 := Mv.adopt2 k4562 hD4563 (by omega)
  have h_d : Enc.device.rd w4561 ((l_r4560 :: D_r4560 :: (b4538 :: (b4515 :: []))) ++ O) d_cs (d) := Enc.mv Enc.device (x := d) h_d m4566
  have hp4514 := hp4514.mv m4566
  have hs4523 : Enc.device.rd w4561 ((l_r4560 :: D_r4560 :: (b4538 :: (b4515 :: []))) ++ O) cs4522 (d) := Enc.mv Enc.device (x := d) hs4523 m4566
  have hs4552 : Enc.device.rd w4561 ((l_r4560 :: D_r4560 :: (b4538 :: (b4515 :: []))) ++ O) cs4551 (d) := Enc.mv Enc.device (x := d) hs4552 m4566
  have hp4559 := hp4559.mv m4566
  have bx4520 := bx4520.keep k4562 (by simp)
  have bx4550 := bx4550.keep k4562 (by simp)
  have ne4569 : NeB D_r4560 l_r4560 := by show D_r4560 ≠ l_r4560; omega
  clear hl4564
  refine calls_of_cw 26 Try.func106 rfl rfl (of_decide_eq_true rfl) (fun F4570 => ?_)
  refine cw_seq (?_)
  refine cw_region (by kernel_rfl) (wl_s (o_field0 f_112_0 rfl (wl_s (o_fieldR 2 f_31_2 (d.ops) rfl hp4559 (fun _ _ _ h => Enc_device_f2 h) fun a4571 hp4572 => (wl_s (o_loadL Try.underlying26 rfl rfl hp4572 fun v4573 hl4574 => (?_)))))))
  have := hl4574.len_le
  refine wl_s (o_lenR Try.underlying26 rfl hl4574 (wl_s (o_move (vI (0 : Int)) rfl (wl_nil (thenQ_n (?_))))))
  refine cw_block (?_)
  refine cw_loop (fun mI FI wI => ∃ (k : Nat) (B : List Nat), k ≤ d.ops.length ∧ (∀ q, q < k → d.ops[q]!.device = d.id → d.ops[q]!.no ≤ d.counter) ∧ mI = d.ops.length - k ∧ (∃ F1, FI = upds F1 [(0, Value.func (.yield l_r4560) #[] #[]), (1, Value.pointer (some a4554)), (7, v4573), (8, vI (d.ops.length : Int)), (9, vI ((k : Nat) : Int)), (26, undef)]) ∧ St w O wI B ∧ PT Enc.device wI (B ++ O) (.pointer (some a4554)) (d) ∧ RdL Enc.devop wI (B ++ O) (v4573) (d.ops) ∧ Enc.device.rd wI (B ++ O) d_cs (d) ∧ PT Enc.device wI (B ++ O) (.pointer (some a4509)) (d) ∧ Enc.device.rd wI (B ++ O) cs4522 (d) ∧ Enc.device.rd wI (B ++ O) cs4551 (d) ∧ Ob wI D_r4560 (.deferred (some [])) ∧ D_r4560 ∈ B ∧ Box wI b4515 4 [Value.bool false] ∧ b4515 ∈ B ∧ Box wI b4538 3 [vI ((cntD d.ops d.id k : Nat) : Int)] ∧ b4538 ∈ B ∧ Ob wI l_r4560 (R_r4560 .ready none) ∧ l_r4560 ∈ B) (d.ops.length - (0)) ?_ ?_
  ·exact ⟨(0), (l_r4560 :: D_r4560 :: (b4538 :: (b4515 :: []))), (by omega), (fun q hq => by omega), rfl, ⟨_, upds_self _ ⟨rfl, rfl, rfl, rfl, (by first | rfl | exact congrArg (Value.int _) (by first | omega | (simp))), rfl, trivial⟩⟩, s4565, hp4559, hl4574, h_d, hp4514, hs4523, hs4552, oD_r4560, (by first | assumption | (repeat (first | exact List.mem_cons_self | assumption | apply List.mem_cons_of_mem)) | (apply_assumption; assumption)), bx4520, (by first | assumption | (repeat (first | exact List.mem_cons_self | assumption | apply List.mem_cons_of_mem)) | (apply_assumption; assumption)), (by rw [show ([vI ((cntD d.ops d.id (0) : Nat) : Int)] : List Value) = [vI (0 : Int)] from by rw [cnt_zero]; first | done | rfl]; exact bx4550), (by first | assumption | (repeat (first | exact List.mem_cons_self | assumption | apply List.mem_cons_of_mem)) | (apply_assumption; assumption)), oL_r4560, (by first | assumption | (repeat (first | exact List.mem_cons_self | assumption | apply List.mem_cons_of_mem)) | (apply_assumption; assumption))⟩
  ·intro mlw0 F wlw0 hI
   clear hp4559 hl4574 h_d hp4514 hs4523 hs4552 oD_r4560 bx4520 oL_r4560
   obtain ⟨k, Blw0, hrw0_0, hrw0_1, hmw0, ⟨Flw0, rfl⟩, slw0, hp4559, hl4574, h_d, hp4514, hs4523, hs4552, oD_r4560, hin_D_r4560, bx4520, hin_b4515, hbs_w0_b4538, hin_b4538, oL_r4560, hin_l_r4560⟩ := hI
   refine cw_seq (?_)
   refine cw_region (by kernel_rfl) (wl_s (o_lss .i64 ((k : Nat) : Int) (d.ops.length : Int) rfl rfl (wl_nil (thenQ_n (?_)))))
   refine cw_seq (?_)
   refine cw_cond (decide (((k : Nat) : Int) < (d.ops.length : Int))) rfl rfl (fun hc4575 => ?_) (fun hc4575 => ?_)
   ·have hp4576 : ((k : Nat) : Int) < (d.ops.length : Int) := by first | simpa using hc4575 | (have e := hc4575; simp at e; omega)
    refine cw_skip (thenQ_n (?_))
    refine cw_seq (?_)
    refine cw_block (?_)
    refine cw_seq (?_)
    refine cw_region (by kernel_rfl) (wl_s (o_idx Try.underlying26 s_40 .i64 ((k : Nat) : Int) k rfl rfl rfl hl4574 (by omega) fun a4577 hp4578 => (wl_s (o_loadS Try.underlying40 rfl s_40 rfl hp4578 fun cs4579 hs4580 => (?_)))))
    obtain rfl := hs4580
    refine wl_s (o_alloc [vI (0 : Int), vI (0 : Int), vI (0 : Int), vI (0 : Int), vI (0 : Int), vI (0 : Int)] z_40 rfl slw0 fun b4581 w4582 e4587 s4583 m4584 k4585 bx4586 => (?_))
    have ne4588 : NeB D_r4560 b4581 := by show D_r4560 ≠ b4581; have := oD_r4560.lt; omega
    have ne4589 : NeB b4515 b4581 := by show b4515 ≠ b4581; have := bx4520.lt; omega
    have ne4590 : NeB b4538 b4581 := by show b4538 ≠ b4581; have := hbs_w0_b4538.lt; omega
    have ne4591 : NeB l_r4560 b4581 := by show l_r4560 ≠ b4581; have := oL_r4560.lt; omega
    clear e4587
    have hp4559 := hp4559.mv m4584
    have hl4574 := hl4574.mv m4584
    have h_d : Enc.device.rd w4582 ((b4581 :: Blw0) ++ O) d_cs (d) := Enc.mv Enc.device (x := d) h_d m4584
    have hp4514 := hp4514.mv m4584
    have hs4523 : Enc.device.rd w4582 ((b4581 :: Blw0) ++ O) cs4522 (d) := Enc.mv Enc.device (x := d) hs4523 m4584
    have hs4552 : Enc.device.rd w4582 ((b4581 :: Blw0) ++ O) cs4551 (d) := Enc.mv Enc.device (x := d) hs4552 m4584
    have oD_r4560 := oD_r4560.keep k4585 (by simp)
    have bx4520 := bx4520.keep k4585 (by simp)
    have hbs_w0_b4538 := hbs_w0_b4538.keep k4585 (by simp)
    have oL_r4560 := oL_r4560.keep k4585 (by simp)
    refine wl_n (o_store (vs := [vI ((d.ops[k]!).device), vI ((d.ops[k]!).no), vI ((d.ops[k]!).kind), vI ((d.ops[k]!).copy), vI ((d.ops[k]!).to), vI ((d.ops[k]!).token)]) (.agg #[vI ((d.ops[k]!).device), vI ((d.ops[k]!).no), vI ((d.ops[k]!).kind), vI ((d.ops[k]!).copy), vI ((d.ops[k]!).to), vI ((d.ops[k]!).token)]) rfl rfl rfl s_40 (fun u hu => by simp only [List.mem_cons, List.not_mem_nil, or_false] at hu; rcases hu with rfl | rfl | rfl | rfl | rfl | rfl <;> first | rfl) (by repeat (first | assumption | constructor)) bx4586 (of_decide_eq_true rfl) s4583 fun w4592 s4593 m4594 k4595 bx4596 => (?_))
    have hp4559 := hp4559.mv m4594
    have hl4574 := hl4574.mv m4594
    have h_d : Enc.device.rd w4592 ((b4581 :: Blw0) ++ O) d_cs (d) := Enc.mv Enc.device (x := d) h_d m4594
    have hp4514 := hp4514.mv m4594
    have hs4523 : Enc.device.rd w4592 ((b4581 :: Blw0) ++ O) cs4522 (d) := Enc.mv Enc.device (x := d) hs4523 m4594
    have hs4552 : Enc.device.rd w4592 ((b4581 :: Blw0) ++ O) cs4551 (d) := Enc.mv Enc.device (x := d) hs4552 m4594
    have oD_r4560 := oD_r4560.keep k4595 (nin1 ne4588)
    have bx4520 := bx4520.keep k4595 (nin1 ne4589)
    have hbs_w0_b4538 := hbs_w0_b4538.keep k4595 (nin1 ne4590)
    have oL_r4560 := oL_r4560.keep k4595 (nin1 ne4591)
    refine wl_nil (thenQ_n (?_))
    refine cw_seq (?_)
    refine cw_region (by kernel_rfl) (wl_s (o_fieldL 0 f_40_0 rfl (wl_s (o_loadBx Try.underlying3 rfl (vI ((d.ops[k]!).device)) rfl bx4596 rfl (wl_s (o_field0 f_112_0 rfl (wl_s (o_fieldR 0 f_31_0 (d.id) rfl hp4559 (fun _ _ _ h => Enc_device_f0 h) fun a4597 hp4598 => (wl_s (o_loadI Try.underlying3 rfl rfl hp4598 (wl_s (o_eql .i64 ((d.ops[k]!).device) d.id rfl rfl (wl_s (o_move (Value.bool (((d.ops[k]!).device) == d.id)) rfl (?_)))))))))))))))
    cases hb4599 : (((d.ops[k]!).device) == d.id)
    ·have hp4600 : (d.ops[k]!).device ≠ d.id := by first | simpa using hb4599 | (have e := hb4599; simp at e; omega)
     refine wl_k rfl (wl_k rfl (wl_k rfl (wl_k rfl (wl_s (o_pickF (Value.bool false) rfl rfl (wl_nil (thenQ_n (?_))))))))
     refine cw_cond false rfl rfl (fun h => by cases h) (fun _ => ?_)
     refine cw_skip (blockQ_n (thenQ_n (?_)))
     refine cw_region (by kernel_rfl) (wl_s (o_add .i64 ((k : Nat) : Int) (1 : Int) (((k + 1 : Nat) : Int)) rfl rfl (w64 (by omega) (by omega)) (wl_s (o_move (vI ((k + 1 : Nat) : Int)) rfl (wl_nil (thenQ_n (?_)))))))
     exact ⟨_, (by omega), (k + 1), (b4581 :: Blw0), (by omega), (own_step hrw0_1 (by first | exact .inl (by assumption) | exact .inr (by assumption))), rfl, ⟨_, upds_self _ ⟨rfl, rfl, rfl, rfl, (by first | rfl | exact congrArg (Value.int _) (by first | omega | (simp))), rfl, trivial⟩⟩, s4593, hp4559, hl4574, h_d, hp4514, hs4523, hs4552, oD_r4560, (by first | assumption | (repeat (first | exact List.mem_cons_self | assumption | apply List.mem_cons_of_mem)) | (apply_assumption; assumption)), bx4520, (by first | assumption | (repeat (first | exact List.mem_cons_self | assumption | apply List.mem_cons_of_mem)) | (apply_assumption; assumption)), (by rw [show ([vI ((cntD d.ops d.id (k + 1) : Nat) : Int)] : List Value) = [vI ((cntD d.ops d.id k : Nat) : Int)] from by first | rw [cnt_y (by omega) (by assumption)] | rw [cnt_n (by omega) (by assumption)]]; exact hbs_w0_b4538), (by first | assumption | (repeat (first | exact List.mem_cons_self | assumption | apply List.mem_cons_of_mem)) | (apply_assumption; assumption)), oL_r4560, (by first | assumption | (repeat (first | exact List.mem_cons_self | assumption | apply List.mem_cons_of_mem)) | (apply_assumption; assumption))⟩
    ·have hp4601 : (d.ops[k]!).device = d.id := by first | simpa using hb4599 | (have e := hb4599; simp at e; omega)
     refine wl_t rfl (o_move (Value.func (.yield l_r4560) #[] #[]) rfl (wl_t rfl (o_loadBxA (vs := [vI ((d.ops[k]!).device), vI ((d.ops[k]!).no), vI ((d.ops[k]!).kind), vI ((d.ops[k]!).copy), vI ((d.ops[k]!).to), vI ((d.ops[k]!).token)]) Try.underlying40 rfl s_40 rfl bx4596 rfl (wl_yT rfl l_r4560 [Value.agg #[vI ((d.ops[k]!).device), vI ((d.ops[k]!).no), vI ((d.ops[k]!).kind), vI ((d.ops[k]!).copy), vI ((d.ops[k]!).to), vI ((d.ops[k]!).token)]] rfl rfl ?_))))
     refine yields_of hR_r4560 oL_r4560 rfl (by decide) ?_
     refine cw_region (by kernel_rfl) (wl_s (o_alloc [vI (0 : Int), vI (0 : Int), vI (0 : Int), vI (0 : Int), vI (0 : Int), vI (0 : Int)] z_40 rfl s4593 fun b4602 w4603 e4608 s4604 m4605 k4606 bx4607 => (?_)))
     have ne4609 : NeB D_r4560 b4602 := by show D_r4560 ≠ b4602; have := oD_r4560.lt; omega
     have ne4610 : NeB b4515 b4602 := by show b4515 ≠ b4602; have := bx4520.lt; omega
     have ne4611 : NeB b4538 b4602 := by show b4538 ≠ b4602; have := hbs_w0_b4538.lt; omega
     have ne4612 : NeB l_r4560 b4602 := by show l_r4560 ≠ b4602; have := oL_r4560.lt; omega
     have ne4613 : NeB b4581 b4602 := by show b4581 ≠ b4602; have := bx4596.lt; omega
     clear e4608
     have h_d : Enc.device.rd w4603 ((b4602 :: (b4581 :: Blw0)) ++ O) d_cs (d) := Enc.mv Enc.device (x := d) h_d m4605
     have hp4514 := hp4514.mv m4605
     have hs4523 : Enc.device.rd w4603 ((b4602 :: (b4581 :: Blw0)) ++ O) cs4522 (d) := Enc.mv Enc.device (x := d) hs4523 m4605
     have hs4552 : Enc.device.rd w4603 ((b4602 :: (b4581 :: Blw0)) ++ O) cs4551 (d) := Enc.mv Enc.device (x := d) hs4552 m4605
     have hp4559 := hp4559.mv m4605
     have hl4574 := hl4574.mv m4605
     have oD_r4560 := oD_r4560.keep k4606 (by simp)
     have bx4520 := bx4520.keep k4606 (by simp)
     have hbs_w0_b4538 := hbs_w0_b4538.keep k4606 (by simp)
     have oL_r4560 := oL_r4560.keep k4606 (by simp)
     refine wl_n (o_store (vs := [vI ((d.ops[k]!).device), vI ((d.ops[k]!).no), vI ((d.ops[k]!).kind), vI ((d.ops[k]!).copy), vI ((d.ops[k]!).to), vI ((d.ops[k]!).token)]) (.agg #[vI ((d.ops[k]!).device), vI ((d.ops[k]!).no), vI ((d.ops[k]!).kind), vI ((d.ops[k]!).copy), vI ((d.ops[k]!).to), vI ((d.ops[k]!).token)]) rfl rfl rfl s_40 (fun u hu => by simp only [List.mem_cons, List.not_mem_nil, or_false] at hu; rcases hu with rfl | rfl | rfl | rfl | rfl | rfl <;> first | rfl) (by repeat (first | assumption | constructor)) bx4607 (of_decide_eq_true rfl) s4604 fun w4614 s4615 m4616 k4617 bx4618 => (?_))
     have h_d : Enc.device.rd w4614 ((b4602 :: (b4581 :: Blw0)) ++ O) d_cs (d) := Enc.mv Enc.device (x := d) h_d m4616
     have hp4514 := hp4514.mv m4616
     have hs4523 : Enc.device.rd w4614 ((b4602 :: (b4581 :: Blw0)) ++ O) cs4522 (d) := Enc.mv Enc.device (x := d) hs4523 m4616
     have hs4552 : Enc.device.rd w4614 ((b4602 :: (b4581 :: Blw0)) ++ O) cs4551 (d) := Enc.mv Enc.device (x := d) hs4552 m4616
     have hp4559 := hp4559.mv m4616
     have hl4574 := hl4574.mv m4616
     have oD_r4560 := oD_r4560.keep k4617 (nin1 ne4609)
     have bx4520 := bx4520.keep k4617 (nin1 ne4610)
     have hbs_w0_b4538 := hbs_w0_b4538.keep k4617 (nin1 ne4611)
     have oL_r4560 := oL_r4560.keep k4617 (nin1 ne4612)
     refine wl_nil (thenQ_n (?_))
     refine ⟨oL_r4560, fun w4619 k4620 ox4623 => ?_⟩
     have s4621 := s4615.keepB k4620 (by repeat (first | assumption | constructor))
     have m4622 : Mv (b4602 :: (b4581 :: Blw0)) w4614 (b4602 :: (b4581 :: Blw0)) w4619 := Mv.keepB k4620 (by repeat (first | assumption | constructor))
     have h_d : Enc.device.rd w4619 ((b4602 :: (b4581 :: Blw0)) ++ O) d_cs (d) := Enc.mv Enc.device (x := d) h_d m4622
     have hp4514 := hp4514.mv m4622
     have hs4523 : Enc.device.rd w4619 ((b4602 :: (b4581 :: Blw0)) ++ O) cs4522 (d) := Enc.mv Enc.device (x := d) hs4523 m4622
     have hs4552 : Enc.device.rd w4619 ((b4602 :: (b4581 :: Blw0)) ++ O) cs4551 (d) := Enc.mv Enc.device (x := d) hs4552 m4622
     have hp4559 := hp4559.mv m4622
     have hl4574 := hl4574.mv m4622
     have oD_r4560 := oD_r4560.keep k4620 (nin1 ne4569)
     have bx4520 := bx4520.keep k4620 (nin1 ne4567.2)
     have hbs_w0_b4538 := hbs_w0_b4538.keep k4620 (nin1 ne4568.2)
     have bx4618 := bx4618.keep k4620 (nin1 (Ne.symm ne4612))
     refine cw_block (?_)
     refine cw_seq (?_)
     refine cw_seq (?_)
     refine cw_region (by kernel_rfl) (wl_s (o_fieldL 1 f_40_1 rfl (wl_s (o_loadBx Try.underlying3 rfl (vI ((d.ops[k]!).no)) rfl bx4618 rfl (wl_s (o_field0 f_112_0 rfl (wl_s (o_fieldR 1 f_31_1 (d.counter) rfl hp4514 (fun _ _ _ h => Enc_device_f1 h) fun a4624 hp4625 => (wl_s (o_loadI Try.underlying3 rfl rfl hp4625 (wl_s (o_gtr .i64 ((d.ops[k]!).no) d.counter rfl rfl (wl_nil (thenQ_n (?_)))))))))))))))
     refine cw_cond (decide (d.counter < (d.ops[k]!).no)) rfl rfl (fun hc4626 => ?_) (fun hc4626 => ?_)
     ·have hp4627 : d.counter < (d.ops[k]!).no := by first | simpa using hc4626 | (have e := hc4626; simp at e; omega)
      refine cw_seq (?_)
      refine cw_region (by kernel_rfl) (wl_n (o_store1 (Value.bool false) rfl rfl rfl s_4 (by repeat (first | assumption | constructor)) bx4520 (of_decide_eq_true rfl) s4621 fun w4628 s4629 m4630 k4631 bx4632 => (?_)))
      have oD_r4560 := oD_r4560.keep k4631 (nin1 (Ne.symm ne4567.1))
      have ox4623 := ox4623.keep k4631 (nin1 (Ne.symm ne4567.2))
      refine wl_nil (thenQ_n (?_))
      refine cw_ret (thenQ_r (blockQ_r (round_r ox4623 (fun w4633 k4634 ox4637 => ?_))))
      have s4635 := s4629.keepB k4634 (by repeat (first | assumption | constructor))
      have oD_r4560 := oD_r4560.keep k4634 (nin1 ne4569)
      have bx4632 := bx4632.keep k4634 (nin1 ne4567.2)
      have oL_r4560 := ox4637
      refine wl_t rfl (o_not false rfl (wl_s (o_pickT (Value.bool true) rfl rfl (wl_nil (thenQ_n (?_))))))
      refine cw_cond true rfl rfl (fun _ => ?_) (fun h => by cases h)
      refine cw_ret (blockQ_r (thenQ_r (thenQ_r (blockQ_r (end_r rfl (res0 rfl) (?_))))))
      refine ⟨⟨_, rfl⟩, ?_⟩
      refine ⟨.done, (some (.ret)), by simp, oL_r4560, fun w4638 k4639 => ?_⟩
      have s4640 := s4635.keepB k4639 (by repeat (first | assumption | constructor))
      have oD_r4560 := oD_r4560.keep k4639 (nin1 ne4569)
      have bx4632 := bx4632.keep k4639 (nin1 ne4567.2)
      refine cw_ret (blockQ_r (thenQ_r (?_)))
      refine endM_rm rfl oD_r4560 (fun w4642 k4643 => ?_)
      have s4644 := s4640.keepB k4643 (by repeat (first | assumption | constructor))
      have bx4632 := bx4632.keep k4643 (nin1 ne4567.1)
      refine ⟨_, resc rfl rfl Try.underlying4 rfl rfl bx4632 rfl, ?_⟩
      have e : (wholeM d) = false := by first | exact whole_f (by assumption) | exact whole_over (k := k) (by omega) (by assumption) (by omega) | exact whole_end (by assumption) hrw0_1
      exact ⟨_, rfl, s4644.keep, (by first | exact congrArg Value.bool e.symm | rfl)⟩
     ·have hp4646 : (d.ops[k]!).no ≤ d.counter := by first | simpa using hc4626 | (have e := hc4626; simp at e; omega)
      refine cw_skip (thenQ_n (?_))
      refine cw_region (by kernel_rfl) (wl_s (o_loadBx Try.underlying3 rfl (vI ((cntD d.ops d.id k : Nat) : Int)) rfl hbs_w0_b4538 rfl (wl_s (o_add .i64 ((cntD d.ops d.id k : Nat) : Int) (1 : Int) (((cntD d.ops d.id k + 1 : Nat) : Int)) rfl rfl (w64 (by have := cnt_lek d.ops d.id k; omega) (by omega)) (wl_n (o_store1 (vI ((cntD d.ops d.id k + 1 : Nat) : Int)) rfl rfl rfl s_3 (by repeat (first | assumption | constructor)) hbs_w0_b4538 (of_decide_eq_true rfl) s4621 fun w4647 s4648 m4649 k4650 bx4651 => (?_)))))))
      have h_d : Enc.device.rd w4647 ((b4602 :: (b4581 :: Blw0)) ++ O) d_cs (d) := Enc.mv Enc.device (x := d) h_d m4649
      have hp4514 := hp4514.mv m4649
      have hs4523 : Enc.device.rd w4647 ((b4602 :: (b4581 :: Blw0)) ++ O) cs4522 (d) := Enc.mv Enc.device (x := d) hs4523 m4649
      have hs4552 : Enc.device.rd w4647 ((b4602 :: (b4581 :: Blw0)) ++ O) cs4551 (d) := Enc.mv Enc.device (x := d) hs4552 m4649
      have hp4559 := hp4559.mv m4649
      have hl4574 := hl4574.mv m4649
      have oD_r4560 := oD_r4560.keep k4650 (nin1 (Ne.symm ne4568.1))
      have bx4520 := bx4520.keep k4650 (nin1 ne4545)
      have ox4623 := ox4623.keep k4650 (nin1 (Ne.symm ne4568.2))
      refine wl_nil (blockQ_n (round_n ox4623 (fun w4652 k4653 ox4656 => ?_)))
      have s4654 := s4648.keepB k4653 (by repeat (first | assumption | constructor))
      have m4655 : Mv (b4602 :: (b4581 :: Blw0)) w4647 (b4602 :: (b4581 :: Blw0)) w4652 := Mv.keepB k4653 (by repeat (first | assumption | constructor))
      have h_d : Enc.device.rd w4652 ((b4602 :: (b4581 :: Blw0)) ++ O) d_cs (d) := Enc.mv Enc.device (x := d) h_d m4655
      have hp4514 := hp4514.mv m4655
      have hs4523 : Enc.device.rd w4652 ((b4602 :: (b4581 :: Blw0)) ++ O) cs4522 (d) := Enc.mv Enc.device (x := d) hs4523 m4655
      have hs4552 : Enc.device.rd w4652 ((b4602 :: (b4581 :: Blw0)) ++ O) cs4551 (d) := Enc.mv Enc.device (x := d) hs4552 m4655
      have hp4559 := hp4559.mv m4655
      have hl4574 := hl4574.mv m4655
      have oD_r4560 := oD_r4560.keep k4653 (nin1 ne4569)
      have bx4520 := bx4520.keep k4653 (nin1 ne4567.2)
      have bx4651 := bx4651.keep k4653 (nin1 ne4568.2)
      have oL_r4560 := ox4656
      refine wl_t rfl (o_not true rfl (wl_s (o_pickT (Value.bool false) rfl rfl (wl_nil (thenQ_n (?_))))))
      refine cw_cond false rfl rfl (fun h => by cases h) (fun _ => ?_)
      refine cw_skip (blockQ_n (thenQ_n (?_)))
      refine cw_region (by kernel_rfl) (wl_s (o_add .i64 ((k : Nat) : Int) (1 : Int) (((k + 1 : Nat) : Int)) rfl rfl (w64 (by omega) (by omega)) (wl_s (o_move (vI ((k + 1 : Nat) : Int)) rfl (wl_nil (thenQ_n (?_)))))))
      exact ⟨_, (by omega), (k + 1), (b4602 :: (b4581 :: Blw0)), (by omega), (own_step hrw0_1 (by first | exact .inl (by assumption) | exact .inr (by assumption))), rfl, ⟨_, upds_self _ ⟨rfl, rfl, rfl, rfl, (by first | rfl | exact congrArg (Value.int _) (by first | omega | (simp))), rfl, trivial⟩⟩, s4654, hp4559, hl4574, h_d, hp4514, hs4523, hs4552, oD_r4560, (by first | assumption | (repeat (first | exact List.mem_cons_self | assumption | apply List.mem_cons_of_mem)) | (apply_assumption; assumption)), bx4520, (by first | assumption | (repeat (first | exact List.mem_cons_self | assumption | apply List.mem_cons_of_mem)) | (apply_assumption; assumption)), (by rw [show ([vI ((cntD d.ops d.id (k + 1) : Nat) : Int)] : List Value) = [vI ((cntD d.ops d.id k + 1 : Nat) : Int)] from by first | rw [cnt_y (by omega) (by assumption)] | rw [cnt_n (by omega) (by assumption)]]; exact bx4651), (by first | assumption | (repeat (first | exact List.mem_cons_self | assumption | apply List.mem_cons_of_mem)) | (apply_assumption; assumption)), oL_r4560, (by first | assumption | (repeat (first | exact List.mem_cons_self | assumption | apply List.mem_cons_of_mem)) | (apply_assumption; assumption))⟩
   ·have hp4657 : (d.ops.length : Int) ≤ ((k : Nat) : Int) := by first | simpa using hc4575 | (have e := hc4575; simp at e; omega)
    obtain rfl : k = d.ops.length := by omega
    refine cw_exit (thenQ_x (thenQ_x (blockQ_x (end_n rfl (res0 rfl) (?_)))))
    refine ⟨⟨_, rfl⟩, ?_⟩
    refine ⟨.ready, none, by simp, oL_r4560, fun w4658 k4659 => ?_⟩
    have s4660 := slw0.keepB k4659 (by repeat (first | assumption | constructor))
    have m4661 : Mv Blw0 wlw0 Blw0 w4658 := Mv.keepB k4659 (by repeat (first | assumption | constructor))
    have hp4514 := hp4514.mv m4661
    have oD_r4560 := oD_r4560.keep k4659 (nin1 ne4569)
    have bx4520 := bx4520.keep k4659 (nin1 ne4567.2)
    have hbs_w0_b4538 := hbs_w0_b4538.keep k4659 (nin1 ne4568.2)
    refine blockQ_n (thenQ_n (?_))
    refine cw_seq (?_)
    refine cw_region (by kernel_rfl) (wl_s (o_loadBx Try.underlying3 rfl (vI ((cntD d.ops d.id d.ops.length : Nat) : Int)) rfl hbs_w0_b4538 rfl (wl_s (o_field0 f_112_0 rfl (wl_s (o_fieldR 1 f_31_1 (d.counter) rfl hp4514 (fun _ _ _ h => Enc_device_f1 h) fun a4662 hp4663 => (wl_s (o_loadI Try.underlying3 rfl rfl hp4663 (wl_s (o_eql .i64 ((cntD d.ops d.id d.ops.length : Nat) : Int) d.counter rfl rfl (wl_n (o_store1 (Value.bool (((cntD d.ops d.id d.ops.length : Nat) : Int) == d.counter)) rfl rfl rfl s_4 (by repeat (first | assumption | constructor)) bx4520 (of_decide_eq_true rfl) s4660 fun w4664 s4665 m4666 k4667 bx4668 => (?_)))))))))))))
    have oD_r4560 := oD_r4560.keep k4667 (nin1 (Ne.symm ne4567.1))
    refine wl_nil (thenQ_n (?_))
    refine cw_ret (?_)
    refine endM_rm rfl oD_r4560 (fun w4669 k4670 => ?_)
    have s4671 := s4665.keepB k4670 (by repeat (first | assumption | constructor))
    have bx4668 := bx4668.keep k4670 (nin1 ne4567.1)
    refine ⟨_, resc rfl rfl Try.underlying4 rfl rfl bx4668 rfl, ?_⟩
    have e : (wholeM d) = (((cntD d.ops d.id d.ops.length : Nat) : Int) == d.counter) := by first | exact whole_f (by assumption) | exact whole_over (k := k) (by omega) (by assumption) (by omega) | exact whole_end (by assumption) hrw0_1
    exact ⟨_, rfl, s4671.keep, (by first | exact congrArg Value.bool e.symm | rfl)⟩
set_option maxHeartbeats 4000000 in
set_option maxRecDepth 100000 in
theorem c_new43 {O : List Nat} (id : Int) (w : World) (hO : ∀ b ∈ O, b < w.heap.size) : CallsK Try.prog 20 [vI id] w (fun v w' => ∃ (x0 : List Value), v = .tuple #[.agg x0.toArray, vI ((newM id).2)] ∧ Enc.device.rd w' (O) x0 ((newM id).1)) :=  by
 have s0 : St w O w [] := St.start hO
 refine callsK_of 13 Try.func20 rfl rfl (of_decide_eq_true rfl) (fun F0 => ?_)
 refine cw_seq (?_)
 refine cw_region (by kernel_rfl) (wl_s (o_alloc [vI (0 : Int), vI (0 : Int), Value.slice none 0 0, Value.bool false] z_31 rfl s0 fun b4673 w4674 e4679 s4675 m4676 k4677 bx4678 => (?_)))
 clear e4679
 refine wl_s (o_assign (vI (0 : Int)) rfl (wl_nil (thenQ_n (?_))))
 refine cw_seq (?_)
 refine cw_seq (?_)
 refine cw_region (by kernel_rfl) (wl_s (o_move (vI id) rfl (wl_s (o_lss .i64 id (0 : Int) rfl rfl (wl_s (o_move (Value.bool (decide (id < (0 : Int)))) rfl (?_)))))))
 cases hb4680 : (decide (id < (0 : Int)))
 ·have hp4681 : (0 : Int) ≤ id := by first | simpa using hb4680 | (have e := hb4680; simp at e; omega)
  refine wl_t rfl (o_move (vI id) rfl (wl_t rfl (o_geq .i64 id (4 : Int) rfl rfl (wl_s (o_pickF (Value.bool (decide ((4 : Int) ≤ id))) rfl rfl (wl_nil (thenQ_n (?_))))))))
  refine cw_cond (decide ((4 : Int) ≤ id)) rfl rfl (fun hc4682 => ?_) (fun hc4682 => ?_)
  ·have hp4683 : (4 : Int) ≤ id := by first | simpa using hc4682 | (have e := hc4682; simp at e; omega)
   refine cw_seq (?_)
   refine cw_region (by kernel_rfl) (wl_s (o_loadBxA (vs := [vI (0 : Int), vI (0 : Int), Value.slice none 0 0, Value.bool false]) Try.underlying31 rfl s_31 rfl bx4678 rfl (wl_n (o_store (vs := [vI (0 : Int), vI (0 : Int), Value.slice none 0 0, Value.bool false]) (.agg #[vI (0 : Int), vI (0 : Int), Value.slice none 0 0, Value.bool false]) rfl rfl rfl s_31 (fun u hu => by simp only [List.mem_cons, List.not_mem_nil, or_false] at hu; rcases hu with rfl | rfl | rfl | rfl <;> first | rfl) (by repeat (first | assumption | constructor)) bx4678 (of_decide_eq_true rfl) s4675 fun w4684 s4685 m4686 k4687 bx4688 => (?_)))))
   refine wl_s (o_assign (vI (1 : Int)) rfl (wl_nil (thenQ_n (?_))))
   refine cw_ret (thenQ_r (end_r rfl (resv2 rfl (rv_A (vs := [vI (0 : Int), vI (0 : Int), Value.slice none 0 0, Value.bool false]) rfl Try.underlying31 rfl s_31 rfl bx4688 rfl) (rv_t rfl rfl)) (?_)))
   have e4689 : ((newM id).1) = (⟨(0 : Int), (0 : Int), [], false⟩ : Device) := by first | exact congrArg (fun p => p.1) (show newM id = _ from new_1 (by assumption)) | exact congrArg (fun p => p.1) (show newM id = _ from new_2 (by assumption)) | exact congrArg (fun p => p.1) (show newM id = _ from new_3 (by assumption) (by assumption))
   have e4690 : ((newM id).2) = (1 : Int) := by first | exact congrArg (fun p => p.2) (show newM id = _ from new_1 (by assumption)) | exact congrArg (fun p => p.2) (show newM id = _ from new_2 (by assumption)) | exact congrArg (fun p => p.2) (show newM id = _ from new_3 (by assumption) (by assumption))
   exact ⟨_, rfl, s4685.keep, by rw [e4689, e4690]; exact ⟨[vI (0 : Int), vI (0 : Int), Value.slice none 0 0, Value.bool false], rfl, Enc.out (B := (b4673 :: [])) ⟨.slice none 0 0, rfl, (RdL.nil _ _ _)⟩⟩⟩
  ·have hp4691 : id < (4 : Int) := by first | simpa using hc4682 | (have e := hc4682; simp at e; omega)
   refine cw_skip (thenQ_n (?_))
   refine cw_seq (?_)
   refine cw_region (by kernel_rfl) (wl_s (o_move (vI id) rfl (wl_s (o_build (l := [(0, .tmp 11)]) pl_31 z_31 rfl [(0, vI id, [vI id])] [vI id, vI (0 : Int), Value.slice none 0 0, Value.bool false] rfl ⟨_, rfl, rfl, (of_decide_eq_true rfl), rfl⟩ (wl_n (o_store (vs := [vI id, vI (0 : Int), Value.slice none 0 0, Value.bool false]) (.agg #[vI id, vI (0 : Int), Value.slice none 0 0, Value.bool false]) rfl rfl rfl s_31 (fun u hu => by simp only [List.mem_cons, List.not_mem_nil, or_false] at hu; rcases hu with rfl | rfl | rfl | rfl <;> first | rfl) (by repeat (first | assumption | constructor)) bx4678 (of_decide_eq_true rfl) s4675 fun w4692 s4693 m4694 k4695 bx4696 => (?_)))))))
   refine wl_s (o_assign (vI (0 : Int)) rfl (wl_nil (thenQ_n (?_))))
   refine cw_ret (end_r rfl (resv2 rfl (rv_A (vs := [vI id, vI (0 : Int), Value.slice none 0 0, Value.bool false]) rfl Try.underlying31 rfl s_31 rfl bx4696 rfl) (rv_t rfl rfl)) (?_))
   have e4697 : ((newM id).1) = (⟨id, (0 : Int), [], false⟩ : Device) := by first | exact congrArg (fun p => p.1) (show newM id = _ from new_1 (by assumption)) | exact congrArg (fun p => p.1) (show newM id = _ from new_2 (by assumption)) | exact congrArg (fun p => p.1) (show newM id = _ from new_3 (by assumption) (by assumption))
   have e4698 : ((newM id).2) = (0 : Int) := by first | exact congrArg (fun p => p.2) (show newM id = _ from new_1 (by assumption)) | exact congrArg (fun p => p.2) (show newM id = _ from new_2 (by assumption)) | exact congrArg (fun p => p.2) (show newM id = _ from new_3 (by assumption) (by assumption))
   exact ⟨_, rfl, s4693.keep, by rw [e4697, e4698]; exact ⟨[vI id, vI (0 : Int), Value.slice none 0 0, Value.bool false], rfl, Enc.out (B := (b4673 :: [])) ⟨.slice none 0 0, rfl, (RdL.nil _ _ _)⟩⟩⟩
 ·have hp4699 : id < (0 : Int) := by first | simpa using hb4680 | (have e := hb4680; simp at e; omega)
  refine wl_k rfl (wl_k rfl (wl_s (o_pickT (Value.bool true) rfl rfl (wl_nil (thenQ_n (?_))))))
  refine cw_cond true rfl rfl (fun _ => ?_) (fun h => by cases h)
  refine cw_seq (?_)
  refine cw_region (by kernel_rfl) (wl_s (o_loadBxA (vs := [vI (0 : Int), vI (0 : Int), Value.slice none 0 0, Value.bool false]) Try.underlying31 rfl s_31 rfl bx4678 rfl (wl_n (o_store (vs := [vI (0 : Int), vI (0 : Int), Value.slice none 0 0, Value.bool false]) (.agg #[vI (0 : Int), vI (0 : Int), Value.slice none 0 0, Value.bool false]) rfl rfl rfl s_31 (fun u hu => by simp only [List.mem_cons, List.not_mem_nil, or_false] at hu; rcases hu with rfl | rfl | rfl | rfl <;> first | rfl) (by repeat (first | assumption | constructor)) bx4678 (of_decide_eq_true rfl) s4675 fun w4700 s4701 m4702 k4703 bx4704 => (?_)))))
  refine wl_s (o_assign (vI (1 : Int)) rfl (wl_nil (thenQ_n (?_))))
  refine cw_ret (thenQ_r (end_r rfl (resv2 rfl (rv_A (vs := [vI (0 : Int), vI (0 : Int), Value.slice none 0 0, Value.bool false]) rfl Try.underlying31 rfl s_31 rfl bx4704 rfl) (rv_t rfl rfl)) (?_)))
  have e4705 : ((newM id).1) = (⟨(0 : Int), (0 : Int), [], false⟩ : Device) := by first | exact congrArg (fun p => p.1) (show newM id = _ from new_1 (by assumption)) | exact congrArg (fun p => p.1) (show newM id = _ from new_2 (by assumption)) | exact congrArg (fun p => p.1) (show newM id = _ from new_3 (by assumption) (by assumption))
  have e4706 : ((newM id).2) = (1 : Int) := by first | exact congrArg (fun p => p.2) (show newM id = _ from new_1 (by assumption)) | exact congrArg (fun p => p.2) (show newM id = _ from new_2 (by assumption)) | exact congrArg (fun p => p.2) (show newM id = _ from new_3 (by assumption) (by assumption))
  exact ⟨_, rfl, s4701.keep, by rw [e4705, e4706]; exact ⟨[vI (0 : Int), vI (0 : Int), Value.slice none 0 0, Value.bool false], rfl, Enc.out (B := (b4673 :: [])) ⟨.slice none 0 0, rfl, (RdL.nil _ _ _)⟩⟩⟩
set_option maxHeartbeats 4000000 in
set_option maxRecDepth 100000 in
theorem c_backup {O : List Nat} (d_cs : List Value) (d : Device) (w : World) (h_d : Enc.device.rd w O d_cs d) (hpre0 : d.ops.length ≤ 1000000) (hO : ∀ b ∈ O, b < w.heap.size) : CallsK Try.prog 46 [.agg d_cs.toArray] w (fun v w' => ∃ (x0 : Value), v = x0 ∧ RdL Enc.devop w' (O) x0 (d.ops)) :=  by
 have h_d : Enc.device.rd w ([] ++ O) d_cs d := h_d
 have s0 : St w O w [] := St.start hO
 refine callsK_of 6 Try.func46 rfl rfl (of_decide_eq_true rfl) (fun F0 => ?_)
 refine cw_seq (?_)
 refine cw_region (by kernel_rfl) (wl_s (o_boxR (E := Enc.device) (Value.agg d_cs.toArray) (d_cs) d rfl rfl h_d s0 fun a4707 w4708 s4709 m4710 k4711 hp4712 => (?_)))
 refine wl_s (o_assign (Value.slice none 0 0) rfl (wl_nil (thenQ_n (?_))))
 refine cw_seq (?_)
 refine cw_region (by kernel_rfl) (wl_s (o_fieldR 2 f_31_2 (d.ops) rfl hp4712 (fun _ _ _ h => Enc_device_f2 h) fun a4713 hp4714 => (wl_s (o_loadL Try.underlying26 rfl rfl hp4714 fun v4715 hl4716 => (?_)))))
 have := hl4716.len_le
 refine wl_s (o_callK (vs := [v4715]) enter_56 (c_cloneD (O := [] ++ O) v4715 d.ops w4708 hl4716 (by first | omega | assumption | (simp; done)) s4709.lt) rfl s4709 fun v4717 w4718 s4719 m4720 k4721 r4722 => (?_))
 obtain ⟨_, rfl, hv4724, ho4723⟩ := r4722
 have ho4723 := ho4723.rd (O' := [] ++ O) (fun x hx => .inl (List.mem_append_right _ hx)) (fun c hc hx => by have := hv4724 c hc; have := s4709.lt c hx; omega)
 have := ho4723.len_le
 refine wl_s (o_assign (v4717) rfl (wl_nil (thenQ_n (?_))))
 refine cw_ret (end_r rfl (res1 rfl rfl rfl) (?_))
 exact ⟨_, rfl, s4719.keep, ⟨v4717, rfl, ho4723.out⟩⟩
set_option maxHeartbeats 4000000 in
set_option maxRecDepth 100000 in
theorem c_restore {O : List Nat} (d_cs : List Value) (d : Device) (l_v : Value) (l : List DeviceOp) (w : World) (h_d : Enc.device.rd w O d_cs d) (h_l : RdL Enc.devop w O l_v l) (hpre0 : l.length ≤ 1000000) (hO : ∀ b ∈ O, b < w.heap.size) : CallsK Try.prog 47 [.agg d_cs.toArray, l_v] w (fun v w' => ∃ (x0 : List Value), v = .agg x0.toArray ∧ Enc.device.rd w' (O) x0 (restoreM d l)) :=  by
 have h_d : Enc.device.rd w ([] ++ O) d_cs d := h_d
 have lim_l := h_l.len_le
 have h_l : RdL Enc.devop w ([] ++ O) l_v l := h_l
 have s0 : St w O w [] := St.start hO
 refine callsK_of 10 Try.func47 rfl rfl (of_decide_eq_true rfl) (fun F0 => ?_)
 refine cw_seq (?_)
 refine cw_region (by kernel_rfl) (wl_s (o_boxR (E := Enc.device) (Value.agg d_cs.toArray) (d_cs) d rfl rfl h_d s0 fun a4725 w4726 s4727 m4728 k4729 hp4730 => (?_)))
 have h_l := h_l.mv m4728
 refine wl_s (o_alloc [vI (0 : Int), vI (0 : Int), Value.slice none 0 0, Value.bool false] z_31 rfl s4727 fun b4731 w4732 e4737 s4733 m4734 k4735 bx4736 => (?_))
 clear e4737
 have h_l := h_l.mv m4734
 have hp4730 := hp4730.mv m4734
 refine wl_nil (thenQ_n (?_))
 refine cw_seq (?_)
 refine cw_region (by kernel_rfl) (wl_s (o_loadS Try.underlying31 rfl s_31 rfl hp4730 fun cs4738 hs4739 => (?_)))
 obtain ⟨d4745, rfl, hd4746⟩ := hs4739
 have := hd4746.len_le
 refine wl_n (o_store (vs := [vI d.id, vI d.counter, d4745, Value.bool d.halted]) (.agg #[vI d.id, vI d.counter, d4745, Value.bool d.halted]) rfl rfl rfl s_31 (fun u hu => by simp only [List.mem_cons, List.not_mem_nil, or_false] at hu; rcases hu with rfl | rfl | rfl | rfl <;> first | rfl | exact hd4746.oneCell) (by repeat (first | assumption | constructor)) bx4736 (of_decide_eq_true rfl) s4733 fun w4740 s4741 m4742 k4743 bx4744 => (?_))
 have h_l := h_l.mv m4742
 refine wl_nil (thenQ_n (?_))
 refine cw_seq (?_)
 refine cw_region (by kernel_rfl) (wl_s (o_move (l_v) rfl (wl_s (o_callK (vs := [l_v]) enter_56 (c_cloneD (O := (b4731 :: []) ++ O) l_v l w4740 h_l (by first | omega | assumption | (simp; done)) s4741.lt) rfl s4741 fun v4747 w4748 s4749 m4750 k4751 r4752 => (?_)))))
 obtain ⟨_, rfl, hv4754, ho4753⟩ := r4752
 have ho4753 := ho4753.rd (O' := (b4731 :: []) ++ O) (fun x hx => .inl (List.mem_append_right _ hx)) (fun c hc hx => by have := hv4754 c hc; have := s4741.lt c hx; omega)
 have := ho4753.len_le
 have bx4744 := bx4744.keep k4751 (by simp)
 refine wl_s (o_fieldL 2 f_31_2 rfl (wl_n (o_store1 (v4747) rfl rfl ho4753.oneCell s_26 (by repeat (first | assumption | constructor)) bx4744 (of_decide_eq_true rfl) s4749 fun w4755 s4756 m4757 k4758 bx4759 => (?_))))
 have ho4753 := ho4753.mv m4757
 refine wl_nil (thenQ_n (?_))
 refine cw_seq (?_)
 refine cw_region (by kernel_rfl) (wl_s (o_loadBxA (vs := [vI d.id, vI d.counter, v4747, Value.bool d.halted]) Try.underlying31 rfl s_31 rfl bx4759 rfl (wl_n (o_store (vs := [vI d.id, vI d.counter, v4747, Value.bool d.halted]) (.agg #[vI d.id, vI d.counter, v4747, Value.bool d.halted]) rfl rfl rfl s_31 (fun u hu => by simp only [List.mem_cons, List.not_mem_nil, or_false] at hu; rcases hu with rfl | rfl | rfl | rfl <;> first | rfl | exact ho4753.oneCell) (by repeat (first | assumption | constructor)) bx4759 (of_decide_eq_true rfl) s4756 fun w4760 s4761 m4762 k4763 bx4764 => (?_)))))
 have ho4753 := ho4753.mv m4762
 refine wl_nil (thenQ_n (?_))
 refine cw_ret (end_r rfl (rescA (vs := [vI d.id, vI d.counter, v4747, Value.bool d.halted]) rfl rfl Try.underlying31 rfl s_31 rfl bx4764 rfl) (?_))
 have e : (restoreM d l) = (⟨d.id, d.counter, l, d.halted⟩ : Device) := rfl
 exact ⟨_, rfl, s4761.keep, by rw [e]; first | done | exact ⟨[vI d.id, vI d.counter, v4747, Value.bool d.halted], rfl, Enc.out (B := (b4731 :: [])) ⟨_, rfl, ho4753⟩⟩⟩
set_option maxHeartbeats 4000000 in
set_option maxRecDepth 100000 in
theorem c_start {O : List Nat} (d_cs : List Value) (d : Device) (w : World) (h_d : Enc.device.rd w O d_cs d) (hO : ∀ b ∈ O, b < w.heap.size) : CallsK Try.prog 44 [.agg d_cs.toArray] w (fun v w' => ∃ (x0 : List Value), v = .tuple #[.agg x0.toArray, vI ((startM d).2)] ∧ Enc.device.rd w' (O) x0 ((startM d).1)) :=  by
 have h_d : Enc.device.rd w ([] ++ O) d_cs d := h_d
 have s0 : St w O w [] := St.start hO
 refine callsK_of 24 Try.func44 rfl rfl (of_decide_eq_true rfl) (fun F0 => ?_)
 refine cw_seq (?_)
 refine cw_region (by kernel_rfl) (wl_s (o_boxR (E := Enc.device) (Value.agg d_cs.toArray) (d_cs) d rfl rfl h_d s0 fun a4765 w4766 s4767 m4768 k4769 hp4770 => (?_)))
 refine wl_s (o_alloc [vI (0 : Int), vI (0 : Int), Value.slice none 0 0, Value.bool false] z_31 rfl s4767 fun b4771 w4772 e4777 s4773 m4774 k4775 bx4776 => (?_))
 clear e4777
 have hp4770 := hp4770.mv m4774
 refine wl_s (o_assign (vI (0 : Int)) rfl (wl_nil (thenQ_n (?_))))
 refine cw_seq (?_)
 refine cw_region (by kernel_rfl) (wl_s (o_loadS Try.underlying31 rfl s_31 rfl hp4770 fun cs4778 hs4779 => (?_)))
 obtain ⟨d4780, rfl, hd4781⟩ := hs4779
 have := hd4781.len_le
 refine wl_s (o_build (l := [(0, .tmp 5)]) pl_112 z_112 rfl [(0, Value.agg #[vI d.id, vI d.counter, d4780, Value.bool d.halted], [vI d.id, vI d.counter, d4780, Value.bool d.halted])] [vI d.id, vI d.counter, d4780, Value.bool d.halted] rfl ⟨_, rfl, rfl, (of_decide_eq_true rfl), rfl⟩ (wl_s (o_alloc [vI (0 : Int), vI (0 : Int), Value.slice none 0 0, Value.bool false] z_112 rfl s4773 fun b4782 w4783 e4788 s4784 m4785 k4786 bx4787 => (?_))))
 have ne4789 : NeB b4771 b4782 := by show b4771 ≠ b4782; have := bx4776.lt; omega
 clear e4788
 have hp4770 := hp4770.mv m4785
 have hd4781 := hd4781.mv m4785
 have bx4776 := bx4776.keep k4786 (by simp)
 refine wl_n (o_store (vs := [vI d.id, vI d.counter, d4780, Value.bool d.halted]) (.agg #[vI d.id, vI d.counter, d4780, Value.bool d.halted]) rfl rfl rfl s_112 (fun u hu => by simp only [List.mem_cons, List.not_mem_nil, or_false] at hu; rcases hu with rfl | rfl | rfl | rfl <;> first | rfl | exact hd4781.oneCell) (by repeat (first | assumption | constructor)) bx4787 (of_decide_eq_true rfl) s4784 fun w4790 s4791 m4792 k4793 bx4794 => (?_))
 have hp4770 := hp4770.mv m4792
 have hd4781 := hd4781.mv m4792
 have bx4776 := bx4776.keep k4793 (nin1 ne4789)
 refine wl_nil (thenQ_n (?_))
 refine cw_seq (?_)
 refine cw_seq (?_)
 refine cw_region (by kernel_rfl) (wl_s (o_loadBxA (vs := [vI d.id, vI d.counter, d4780, Value.bool d.halted]) Try.underlying112 rfl s_112 rfl bx4794 rfl (wl_s (o_callK (vs := [Value.agg #[vI d.id, vI d.counter, d4780, Value.bool d.halted]]) enter_79 (c_formed (O := (b4782 :: (b4771 :: [])) ++ O) [vI d.id, vI d.counter, d4780, Value.bool d.halted] d w4790 ⟨_, rfl, hd4781⟩ s4791.lt) rfl s4791 fun v4795 w4796 s4797 m4798 k4799 r4800 => (?_)))))
 obtain rfl := r4800
 have hp4770 := hp4770.mv m4798
 have hd4781 := hd4781.mv m4798
 have bx4776 := bx4776.keep k4799 (by simp)
 have bx4794 := bx4794.keep k4799 (by simp)
 refine wl_s (o_not (formedM d) rfl (wl_nil (thenQ_n (?_))))
 refine cw_cond (!(formedM d)) rfl rfl (fun hc4801 => ?_) (fun hc4801 => ?_)
 ·have hp4802 : (formedM d) = false := by first | simpa using hc4801 | (have e := hc4801; rw [Bool.not_eq_true'] at e; exact e) | (have e := hc4801; rw [Bool.not_eq_false'] at e; exact e) | (have e := hc4801; simp at e; omega)
  refine cw_seq (?_)
  refine cw_region (by kernel_rfl) (wl_s (o_loadBxA (vs := [vI (0 : Int), vI (0 : Int), Value.slice none 0 0, Value.bool false]) Try.underlying31 rfl s_31 rfl bx4776 rfl (wl_n (o_store (vs := [vI (0 : Int), vI (0 : Int), Value.slice none 0 0, Value.bool false]) (.agg #[vI (0 : Int), vI (0 : Int), Value.slice none 0 0, Value.bool false]) rfl rfl rfl s_31 (fun u hu => by simp only [List.mem_cons, List.not_mem_nil, or_false] at hu; rcases hu with rfl | rfl | rfl | rfl <;> first | rfl) (by repeat (first | assumption | constructor)) bx4776 (of_decide_eq_true rfl) s4797 fun w4803 s4804 m4805 k4806 bx4807 => (?_)))))
  refine wl_s (o_assign (vI (420 : Int)) rfl (wl_nil (thenQ_n (?_))))
  refine cw_ret (thenQ_r (end_r rfl (resv2 rfl (rv_A (vs := [vI (0 : Int), vI (0 : Int), Value.slice none 0 0, Value.bool false]) rfl Try.underlying31 rfl s_31 rfl bx4807 rfl) (rv_t rfl rfl)) (?_)))
  have e4808 : ((startM d).1) = (⟨(0 : Int), (0 : Int), [], false⟩ : Device) := by first | exact congrArg (fun p => p.1) (show startM d = _ from start_1 (by assumption)) | exact congrArg (fun p => p.1) (show startM d = _ from start_2 (by assumption) (.inl (by assumption))) | exact congrArg (fun p => p.1) (show startM d = _ from start_2 (by assumption) (.inr (by assumption))) | exact congrArg (fun p => p.1) (show startM d = _ from start_3 (by assumption) (by assumption) (by assumption))
  have e4809 : ((startM d).2) = (420 : Int) := by first | exact congrArg (fun p => p.2) (show startM d = _ from start_1 (by assumption)) | exact congrArg (fun p => p.2) (show startM d = _ from start_2 (by assumption) (.inl (by assumption))) | exact congrArg (fun p => p.2) (show startM d = _ from start_2 (by assumption) (.inr (by assumption))) | exact congrArg (fun p => p.2) (show startM d = _ from start_3 (by assumption) (by assumption) (by assumption))
  exact ⟨_, rfl, s4804.keep, by rw [e4808, e4809]; exact ⟨[vI (0 : Int), vI (0 : Int), Value.slice none 0 0, Value.bool false], rfl, Enc.out (B := (b4782 :: (b4771 :: []))) ⟨.slice none 0 0, rfl, (RdL.nil _ _ _)⟩⟩⟩
 ·have hp4810 : (formedM d) = true := by first | simpa using hc4801 | (have e := hc4801; rw [Bool.not_eq_true'] at e; exact e) | (have e := hc4801; rw [Bool.not_eq_false'] at e; exact e) | (have e := hc4801; simp at e; omega)
  refine cw_skip (thenQ_n (?_))
  refine cw_seq (?_)
  refine cw_seq (?_)
  refine cw_region (by kernel_rfl) (wl_s (o_fieldL 0 f_112_0 rfl (wl_s (o_fieldL 3 f_31_3 rfl (wl_s (o_loadBx Try.underlying4 rfl (Value.bool d.halted) rfl bx4794 rfl (wl_s (o_move (Value.bool d.halted) rfl (?_)))))))))
  cases hb4811 : (d.halted)
  ·have hp4812 : d.halted = false := by first | simpa using hb4811 | (have e := hb4811; simp at e; omega)
   refine wl_t rfl (o_loadBxA (vs := [vI d.id, vI d.counter, d4780, Value.bool d.halted]) Try.underlying112 rfl s_112 rfl bx4794 rfl (wl_t rfl (o_callK (vs := [Value.agg #[vI d.id, vI d.counter, d4780, Value.bool d.halted]]) enter_81 (c_whole (O := (b4782 :: (b4771 :: [])) ++ O) [vI d.id, vI d.counter, d4780, Value.bool d.halted] d w4796 ⟨_, rfl, hd4781⟩ s4797.lt) rfl s4797 fun v4813 w4814 s4815 m4816 k4817 r4818 => (?_))))
   obtain rfl := r4818
   have hp4770 := hp4770.mv m4816
   have hd4781 := hd4781.mv m4816
   have bx4776 := bx4776.keep k4817 (by simp)
   have bx4794 := bx4794.keep k4817 (by simp)
   refine wl_t rfl (o_not (wholeM d) rfl (wl_s (o_pickF (Value.bool (!(wholeM d))) rfl rfl (wl_nil (thenQ_n (?_))))))
   refine cw_cond (!(wholeM d)) rfl rfl (fun hc4819 => ?_) (fun hc4819 => ?_)
   ·have hp4820 : (wholeM d) = false := by first | simpa using hc4819 | (have e := hc4819; rw [Bool.not_eq_true'] at e; exact e) | (have e := hc4819; rw [Bool.not_eq_false'] at e; exact e) | (have e := hc4819; simp at e; omega)
    refine cw_seq (?_)
    refine cw_region (by kernel_rfl) (wl_s (o_fieldL 0 f_112_0 rfl (wl_s (o_fieldL 3 f_31_3 rfl (wl_n (o_store1 (Value.bool true) rfl rfl rfl s_4 (by repeat (first | assumption | constructor)) bx4794 (of_decide_eq_true rfl) s4815 fun w4821 s4822 m4823 k4824 bx4825 => (?_)))))))
    have hd4781 := hd4781.mv m4823
    have bx4776 := bx4776.keep k4824 (nin1 ne4789)
    refine wl_nil (thenQ_n (?_))
    refine cw_seq (?_)
    refine cw_region (by kernel_rfl) (wl_s (o_fieldL 0 f_112_0 rfl (wl_s (o_loadBxA (vs := [vI d.id, vI d.counter, d4780, Value.bool true]) Try.underlying31 rfl s_31 rfl bx4825 rfl (wl_n (o_store (vs := [vI d.id, vI d.counter, d4780, Value.bool true]) (.agg #[vI d.id, vI d.counter, d4780, Value.bool true]) rfl rfl rfl s_31 (fun u hu => by simp only [List.mem_cons, List.not_mem_nil, or_false] at hu; rcases hu with rfl | rfl | rfl | rfl <;> first | rfl | exact hd4781.oneCell) (by repeat (first | assumption | constructor)) bx4776 (of_decide_eq_true rfl) s4822 fun w4826 s4827 m4828 k4829 bx4830 => (?_)))))))
    have hd4781 := hd4781.mv m4828
    refine wl_s (o_assign (vI (430 : Int)) rfl (wl_nil (thenQ_n (?_))))
    refine cw_ret (thenQ_r (end_r rfl (resv2 rfl (rv_A (vs := [vI d.id, vI d.counter, d4780, Value.bool true]) rfl Try.underlying31 rfl s_31 rfl bx4830 rfl) (rv_t rfl rfl)) (?_)))
    have e4831 : ((startM d).1) = (⟨d.id, d.counter, d.ops, true⟩ : Device) := by first | exact congrArg (fun p => p.1) (show startM d = _ from start_1 (by assumption)) | exact congrArg (fun p => p.1) (show startM d = _ from start_2 (by assumption) (.inl (by assumption))) | exact congrArg (fun p => p.1) (show startM d = _ from start_2 (by assumption) (.inr (by assumption))) | exact congrArg (fun p => p.1) (show startM d = _ from start_3 (by assumption) (by assumption) (by assumption))
    have e4832 : ((startM d).2) = (430 : Int) := by first | exact congrArg (fun p => p.2) (show startM d = _ from start_1 (by assumption)) | exact congrArg (fun p => p.2) (show startM d = _ from start_2 (by assumption) (.inl (by assumption))) | exact congrArg (fun p => p.2) (show startM d = _ from start_2 (by assumption) (.inr (by assumption))) | exact congrArg (fun p => p.2) (show startM d = _ from start_3 (by assumption) (by assumption) (by assumption))
    exact ⟨_, rfl, s4827.keep, by rw [e4831, e4832]; exact ⟨[vI d.id, vI d.counter, d4780, Value.bool true], rfl, Enc.out (B := (b4782 :: (b4771 :: []))) ⟨_, rfl, hd4781⟩⟩⟩
   ·have hp4833 : (wholeM d) = true := by first | simpa using hc4819 | (have e := hc4819; rw [Bool.not_eq_true'] at e; exact e) | (have e := hc4819; rw [Bool.not_eq_false'] at e; exact e) | (have e := hc4819; simp at e; omega)
    refine cw_skip (thenQ_n (?_))
    refine cw_seq (?_)
    refine cw_region (by kernel_rfl) (wl_s (o_loadS Try.underlying31 rfl s_31 rfl hp4770 fun cs4834 hs4835 => (?_)))
    obtain ⟨d4841, rfl, hd4842⟩ := hs4835
    have := hd4842.len_le
    refine wl_n (o_store (vs := [vI d.id, vI d.counter, d4841, Value.bool d.halted]) (.agg #[vI d.id, vI d.counter, d4841, Value.bool d.halted]) rfl rfl rfl s_31 (fun u hu => by simp only [List.mem_cons, List.not_mem_nil, or_false] at hu; rcases hu with rfl | rfl | rfl | rfl <;> first | rfl | exact hd4842.oneCell) (by repeat (first | assumption | constructor)) bx4776 (of_decide_eq_true rfl) s4815 fun w4836 s4837 m4838 k4839 bx4840 => (?_))
    have hd4842 := hd4842.mv m4838
    refine wl_s (o_assign (vI (0 : Int)) rfl (wl_nil (thenQ_n (?_))))
    refine cw_ret (end_r rfl (resv2 rfl (rv_A (vs := [vI d.id, vI d.counter, d4841, Value.bool d.halted]) rfl Try.underlying31 rfl s_31 rfl bx4840 rfl) (rv_t rfl rfl)) (?_))
    have e4843 : ((startM d).1) = d := by first | exact congrArg (fun p => p.1) (show startM d = _ from start_1 (by assumption)) | exact congrArg (fun p => p.1) (show startM d = _ from start_2 (by assumption) (.inl (by assumption))) | exact congrArg (fun p => p.1) (show startM d = _ from start_2 (by assumption) (.inr (by assumption))) | exact congrArg (fun p => p.1) (show startM d = _ from start_3 (by assumption) (by assumption) (by assumption))
    have e4844 : ((startM d).2) = (0 : Int) := by first | exact congrArg (fun p => p.2) (show startM d = _ from start_1 (by assumption)) | exact congrArg (fun p => p.2) (show startM d = _ from start_2 (by assumption) (.inl (by assumption))) | exact congrArg (fun p => p.2) (show startM d = _ from start_2 (by assumption) (.inr (by assumption))) | exact congrArg (fun p => p.2) (show startM d = _ from start_3 (by assumption) (by assumption) (by assumption))
    exact ⟨_, rfl, s4837.keep, by rw [e4843, e4844]; exact ⟨[vI d.id, vI d.counter, d4841, Value.bool d.halted], rfl, Enc.out (B := (b4782 :: (b4771 :: []))) ⟨_, rfl, hd4842⟩⟩⟩
  ·have hp4845 : d.halted = true := by first | simpa using hb4811 | (have e := hb4811; simp at e; omega)
   refine wl_k rfl (wl_k rfl (wl_k rfl (wl_s (o_pickT (Value.bool true) rfl rfl (wl_nil (thenQ_n (?_)))))))
   refine cw_cond true rfl rfl (fun _ => ?_) (fun h => by cases h)
   refine cw_seq (?_)
   refine cw_region (by kernel_rfl) (wl_s (o_fieldL 0 f_112_0 rfl (wl_s (o_fieldL 3 f_31_3 rfl (wl_n (o_store1 (Value.bool true) rfl rfl rfl s_4 (by repeat (first | assumption | constructor)) bx4794 (of_decide_eq_true rfl) s4797 fun w4846 s4847 m4848 k4849 bx4850 => (?_)))))))
   have hd4781 := hd4781.mv m4848
   have bx4776 := bx4776.keep k4849 (nin1 ne4789)
   refine wl_nil (thenQ_n (?_))
   refine cw_seq (?_)
   refine cw_region (by kernel_rfl) (wl_s (o_fieldL 0 f_112_0 rfl (wl_s (o_loadBxA (vs := [vI d.id, vI d.counter, d4780, Value.bool true]) Try.underlying31 rfl s_31 rfl bx4850 rfl (wl_n (o_store (vs := [vI d.id, vI d.counter, d4780, Value.bool true]) (.agg #[vI d.id, vI d.counter, d4780, Value.bool true]) rfl rfl rfl s_31 (fun u hu => by simp only [List.mem_cons, List.not_mem_nil, or_false] at hu; rcases hu with rfl | rfl | rfl | rfl <;> first | rfl | exact hd4781.oneCell) (by repeat (first | assumption | constructor)) bx4776 (of_decide_eq_true rfl) s4847 fun w4851 s4852 m4853 k4854 bx4855 => (?_)))))))
   have hd4781 := hd4781.mv m4853
   refine wl_s (o_assign (vI (430 : Int)) rfl (wl_nil (thenQ_n (?_))))
   refine cw_ret (thenQ_r (end_r rfl (resv2 rfl (rv_A (vs := [vI d.id, vI d.counter, d4780, Value.bool true]) rfl Try.underlying31 rfl s_31 rfl bx4855 rfl) (rv_t rfl rfl)) (?_)))
   have e4856 : ((startM d).1) = (⟨d.id, d.counter, d.ops, true⟩ : Device) := by first | exact congrArg (fun p => p.1) (show startM d = _ from start_1 (by assumption)) | exact congrArg (fun p => p.1) (show startM d = _ from start_2 (by assumption) (.inl (by assumption))) | exact congrArg (fun p => p.1) (show startM d = _ from start_2 (by assumption) (.inr (by assumption))) | exact congrArg (fun p => p.1) (show startM d = _ from start_3 (by assumption) (by assumption) (by assumption))
   have e4857 : ((startM d).2) = (430 : Int) := by first | exact congrArg (fun p => p.2) (show startM d = _ from start_1 (by assumption)) | exact congrArg (fun p => p.2) (show startM d = _ from start_2 (by assumption) (.inl (by assumption))) | exact congrArg (fun p => p.2) (show startM d = _ from start_2 (by assumption) (.inr (by assumption))) | exact congrArg (fun p => p.2) (show startM d = _ from start_3 (by assumption) (by assumption) (by assumption))
   exact ⟨_, rfl, s4852.keep, by rw [e4856, e4857]; exact ⟨[vI d.id, vI d.counter, d4780, Value.bool true], rfl, Enc.out (B := (b4782 :: (b4771 :: []))) ⟨_, rfl, hd4781⟩⟩⟩

end Go.Proofs.Ytjpniibleelgiaa
