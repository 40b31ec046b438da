/- Walks, printed by gen.py. -/
import Derived.Test.YtjpniibleelgiaaMrA
import Derived.Test.YtjpniibleelgiaaXg
set_option linter.unusedSimpArgs false
set_option linter.unusedVariables false
namespace Go.Proofs.Ytjpniibleelgiaa
open Go.Fw Go.RowKit

set_option maxHeartbeats 4000000 in
set_option maxRecDepth 100000 in
theorem c_refNew {O : List Nat} (id : Int) (w : World) (hO : ∀ b ∈ O, b < w.heap.size) : CallsK Try.prog 43 [vI id] w (fun v w' => ∃ (x0 : List Value), v = .tuple #[.agg x0.toArray, vI ((newM id).2)] ∧ Enc.device.rd w' (O) x0 ((newM id).1)) :=  by
 have s0 : St w O w [] := St.start hO
 refine callsK_of 13 Try.func43 rfl rfl (of_decide_eq_true rfl) (fun F0 => ?_)
 refine cw_seq (?_)
 refine cw_region (by kernel_rfl) (wl_s (o_alloc [vI (0 : Int), vI (0 : Int), Value.slice none 0 0, Value.bool false] z_31 rfl s0 fun b5505 w5506 e5511 s5507 m5508 k5509 bx5510 => (?_)))
 clear e5511
 refine wl_s (o_assign (vI (0 : Int)) rfl (wl_nil (thenQ_n (?_))))
 refine cw_seq (?_)
 refine cw_seq (?_)
 refine cw_region (by kernel_rfl) (wl_s (o_move (vI id) rfl (wl_s (o_lss .i64 id (0 : Int) rfl rfl (wl_s (o_move (Value.bool (decide (id < (0 : Int)))) rfl (?_)))))))
 cases hb5512 : (decide (id < (0 : Int)))
 ·have hp5513 : (0 : Int) ≤ id := by first | simpa using hb5512 | (have e := hb5512; simp at e; omega)
  refine wl_t rfl (o_move (vI id) rfl (wl_t rfl (o_geq .i64 id (4 : Int) rfl rfl (wl_s (o_pickF (Value.bool (decide ((4 : Int) ≤ id))) rfl rfl (wl_nil (thenQ_n (?_))))))))
  refine cw_cond (decide ((4 : Int) ≤ id)) rfl rfl (fun hc5514 => ?_) (fun hc5514 => ?_)
  ·have hp5515 : (4 : Int) ≤ id := by first | simpa using hc5514 | (have e := hc5514; simp at e; omega)
   refine cw_seq (?_)
   refine cw_region (by kernel_rfl) (wl_s (o_build (l := []) pl_31 z_31 rfl [] [vI (0 : Int), vI (0 : Int), Value.slice none 0 0, Value.bool false] rfl rfl (wl_n (o_store (vs := [vI (0 : Int), vI (0 : Int), Value.slice none 0 0, Value.bool false]) (.agg #[vI (0 : Int), vI (0 : Int), Value.slice none 0 0, Value.bool false]) rfl rfl rfl s_31 (fun u hu => by simp only [List.mem_cons, List.not_mem_nil, or_false] at hu; rcases hu with rfl | rfl | rfl | rfl <;> first | rfl) (by repeat (first | assumption | constructor)) bx5510 (of_decide_eq_true rfl) s5507 fun w5516 s5517 m5518 k5519 bx5520 => (?_)))))
   refine wl_s (o_assign (vI (1 : Int)) rfl (wl_nil (thenQ_n (?_))))
   refine cw_ret (thenQ_r (end_r rfl (resv2 rfl (rv_A (vs := [vI (0 : Int), vI (0 : Int), Value.slice none 0 0, Value.bool false]) rfl Try.underlying31 rfl s_31 rfl bx5520 rfl) (rv_t rfl rfl)) (?_)))
   have e5521 : ((newM id).1) = (⟨(0 : Int), (0 : Int), [], false⟩ : Device) := by first | exact congrArg (fun p => p.1) (show newM id = _ from new_1 (by assumption)) | exact congrArg (fun p => p.1) (show newM id = _ from new_2 (by assumption)) | exact congrArg (fun p => p.1) (show newM id = _ from new_3 (by assumption) (by assumption))
   have e5522 : ((newM id).2) = (1 : Int) := by first | exact congrArg (fun p => p.2) (show newM id = _ from new_1 (by assumption)) | exact congrArg (fun p => p.2) (show newM id = _ from new_2 (by assumption)) | exact congrArg (fun p => p.2) (show newM id = _ from new_3 (by assumption) (by assumption))
   exact ⟨_, rfl, s5517.keep, by rw [e5521, e5522]; exact ⟨[vI (0 : Int), vI (0 : Int), Value.slice none 0 0, Value.bool false], rfl, Enc.out (B := (b5505 :: [])) ⟨.slice none 0 0, rfl, (RdL.nil _ _ _)⟩⟩⟩
  ·have hp5523 : id < (4 : Int) := by first | simpa using hc5514 | (have e := hc5514; simp at e; omega)
   refine cw_skip (thenQ_n (?_))
   refine cw_seq (?_)
   refine cw_region (by kernel_rfl) (wl_s (o_move (vI id) rfl (wl_s (o_build (l := [(0, .tmp 11)]) pl_31 z_31 rfl [(0, vI id, [vI id])] [vI id, vI (0 : Int), Value.slice none 0 0, Value.bool false] rfl ⟨_, rfl, rfl, (of_decide_eq_true rfl), rfl⟩ (wl_n (o_store (vs := [vI id, vI (0 : Int), Value.slice none 0 0, Value.bool false]) (.agg #[vI id, vI (0 : Int), Value.slice none 0 0, Value.bool false]) rfl rfl rfl s_31 (fun u hu => by simp only [List.mem_cons, List.not_mem_nil, or_false] at hu; rcases hu with rfl | rfl | rfl | rfl <;> first | rfl) (by repeat (first | assumption | constructor)) bx5510 (of_decide_eq_true rfl) s5507 fun w5524 s5525 m5526 k5527 bx5528 => (?_)))))))
   refine wl_s (o_assign (vI (0 : Int)) rfl (wl_nil (thenQ_n (?_))))
   refine cw_ret (end_r rfl (resv2 rfl (rv_A (vs := [vI id, vI (0 : Int), Value.slice none 0 0, Value.bool false]) rfl Try.underlying31 rfl s_31 rfl bx5528 rfl) (rv_t rfl rfl)) (?_))
   have e5529 : ((newM id).1) = (⟨id, (0 : Int), [], false⟩ : Device) := by first | exact congrArg (fun p => p.1) (show newM id = _ from new_1 (by assumption)) | exact congrArg (fun p => p.1) (show newM id = _ from new_2 (by assumption)) | exact congrArg (fun p => p.1) (show newM id = _ from new_3 (by assumption) (by assumption))
   have e5530 : ((newM id).2) = (0 : Int) := by first | exact congrArg (fun p => p.2) (show newM id = _ from new_1 (by assumption)) | exact congrArg (fun p => p.2) (show newM id = _ from new_2 (by assumption)) | exact congrArg (fun p => p.2) (show newM id = _ from new_3 (by assumption) (by assumption))
   exact ⟨_, rfl, s5525.keep, by rw [e5529, e5530]; exact ⟨[vI id, vI (0 : Int), Value.slice none 0 0, Value.bool false], rfl, Enc.out (B := (b5505 :: [])) ⟨.slice none 0 0, rfl, (RdL.nil _ _ _)⟩⟩⟩
 ·have hp5531 : id < (0 : Int) := by first | simpa using hb5512 | (have e := hb5512; simp at e; omega)
  refine wl_k rfl (wl_k rfl (wl_s (o_pickT (Value.bool true) rfl rfl (wl_nil (thenQ_n (?_))))))
  refine cw_cond true rfl rfl (fun _ => ?_) (fun h => by cases h)
  refine cw_seq (?_)
  refine cw_region (by kernel_rfl) (wl_s (o_build (l := []) pl_31 z_31 rfl [] [vI (0 : Int), vI (0 : Int), Value.slice none 0 0, Value.bool false] rfl rfl (wl_n (o_store (vs := [vI (0 : Int), vI (0 : Int), Value.slice none 0 0, Value.bool false]) (.agg #[vI (0 : Int), vI (0 : Int), Value.slice none 0 0, Value.bool false]) rfl rfl rfl s_31 (fun u hu => by simp only [List.mem_cons, List.not_mem_nil, or_false] at hu; rcases hu with rfl | rfl | rfl | rfl <;> first | rfl) (by repeat (first | assumption | constructor)) bx5510 (of_decide_eq_true rfl) s5507 fun w5532 s5533 m5534 k5535 bx5536 => (?_)))))
  refine wl_s (o_assign (vI (1 : Int)) rfl (wl_nil (thenQ_n (?_))))
  refine cw_ret (thenQ_r (end_r rfl (resv2 rfl (rv_A (vs := [vI (0 : Int), vI (0 : Int), Value.slice none 0 0, Value.bool false]) rfl Try.underlying31 rfl s_31 rfl bx5536 rfl) (rv_t rfl rfl)) (?_)))
  have e5537 : ((newM id).1) = (⟨(0 : Int), (0 : Int), [], false⟩ : Device) := by first | exact congrArg (fun p => p.1) (show newM id = _ from new_1 (by assumption)) | exact congrArg (fun p => p.1) (show newM id = _ from new_2 (by assumption)) | exact congrArg (fun p => p.1) (show newM id = _ from new_3 (by assumption) (by assumption))
  have e5538 : ((newM id).2) = (1 : Int) := by first | exact congrArg (fun p => p.2) (show newM id = _ from new_1 (by assumption)) | exact congrArg (fun p => p.2) (show newM id = _ from new_2 (by assumption)) | exact congrArg (fun p => p.2) (show newM id = _ from new_3 (by assumption) (by assumption))
  exact ⟨_, rfl, s5533.keep, by rw [e5537, e5538]; exact ⟨[vI (0 : Int), vI (0 : Int), Value.slice none 0 0, Value.bool false], rfl, Enc.out (B := (b5505 :: [])) ⟨.slice none 0 0, rfl, (RdL.nil _ _ _)⟩⟩⟩
set_option maxHeartbeats 4000000 in
set_option maxRecDepth 100000 in
theorem c_refFormed {O : List Nat} (d_cs : List Value) (d : Device) (w : World) (h_d : Enc.device.rd w O d_cs d) (hO : ∀ b ∈ O, b < w.heap.size) : CallsK Try.prog 85 [.agg d_cs.toArray] w (fun v _ => v = .bool (formedM d)) :=  by
 have h_d : Enc.device.rd w ([] ++ O) d_cs d := h_d
 have s0 : St w O w [] := St.start hO
 refine callsK_of 27 Try.func85 rfl rfl (of_decide_eq_true rfl) (fun F0 => ?_)
 refine cw_seq (?_)
 refine cw_region (by kernel_rfl) (wl_s (o_boxR (E := Enc.device) (Value.agg d_cs.toArray) (d_cs) d rfl rfl h_d s0 fun a5539 w5540 s5541 m5542 k5543 hp5544 => (?_)))
 refine wl_s (o_assign (Value.bool false) rfl (wl_nil (thenQ_n (?_))))
 refine cw_seq (?_)
 refine cw_region (by kernel_rfl) (wl_s (o_fieldR 0 f_31_0 (d.id) rfl hp5544 (fun _ _ _ h => Enc_device_f0 h) fun a5545 hp5546 => (wl_s (o_loadI Try.underlying3 rfl rfl hp5546 (wl_s (o_geq .i64 d.id (0 : Int) rfl rfl (wl_s (o_move (Value.bool (decide ((0 : Int) ≤ d.id))) rfl (?_)))))))))
 cases hb5547 : (decide ((0 : Int) ≤ d.id))
 ·have hp5548 : d.id < (0 : Int) := by first | simpa using hb5547 | (have e := hb5547; simp at e; omega)
  refine wl_k rfl (wl_k rfl (wl_k rfl (wl_s (o_pickF (Value.bool false) rfl rfl (wl_s (o_move (Value.bool false) rfl (wl_k rfl (wl_k rfl (wl_k rfl (wl_s (o_pickF (Value.bool false) rfl rfl (wl_s (o_move (Value.bool false) rfl (wl_k rfl (wl_k rfl (wl_k rfl (wl_s (o_pickF (Value.bool false) rfl rfl (wl_s (o_move (Value.bool false) rfl (wl_k rfl (wl_k rfl (wl_k rfl (wl_k rfl (wl_s (o_pickF (Value.bool false) rfl rfl (wl_s (o_assign (Value.bool false) rfl (wl_nil (thenQ_n (?_)))))))))))))))))))))))))))))))
  refine cw_ret (end_r rfl (res1 rfl rfl rfl) (?_))
  have e : (formedM d) = false := by simp [formedM, *]
  exact ⟨_, rfl, s5541.keep, (by first | exact congrArg Value.bool e.symm | rfl)⟩
 ·have hp5549 : (0 : Int) ≤ d.id := by first | simpa using hb5547 | (have e := hb5547; simp at e; omega)
  refine wl_t rfl (o_fieldR 0 f_31_0 (d.id) rfl hp5544 (fun _ _ _ h => Enc_device_f0 h) fun a5550 hp5551 => (wl_t rfl (o_loadI Try.underlying3 rfl rfl hp5551 (wl_t rfl (o_lss .i64 d.id (4 : Int) rfl rfl (wl_s (o_pickT (Value.bool (decide (d.id < (4 : Int)))) rfl rfl (wl_s (o_move (Value.bool (decide (d.id < (4 : Int)))) rfl (?_))))))))))
  cases hb5552 : (decide (d.id < (4 : Int)))
  ·have hp5553 : (4 : Int) ≤ d.id := by first | simpa using hb5552 | (have e := hb5552; simp at e; omega)
   refine wl_k rfl (wl_k rfl (wl_k rfl (wl_s (o_pickF (Value.bool false) rfl rfl (wl_s (o_move (Value.bool false) rfl (wl_k rfl (wl_k rfl (wl_k rfl (wl_s (o_pickF (Value.bool false) rfl rfl (wl_s (o_move (Value.bool false) rfl (wl_k rfl (wl_k rfl (wl_k rfl (wl_k rfl (wl_s (o_pickF (Value.bool false) rfl rfl (wl_s (o_assign (Value.bool false) rfl (wl_nil (thenQ_n (?_))))))))))))))))))))))))
   refine cw_ret (end_r rfl (res1 rfl rfl rfl) (?_))
   have e : (formedM d) = false := by simp [formedM, *]
   exact ⟨_, rfl, s5541.keep, (by first | exact congrArg Value.bool e.symm | rfl)⟩
  ·have hp5554 : d.id < (4 : Int) := by first | simpa using hb5552 | (have e := hb5552; simp at e; omega)
   refine wl_t rfl (o_fieldR 1 f_31_1 (d.counter) rfl hp5544 (fun _ _ _ h => Enc_device_f1 h) fun a5555 hp5556 => (wl_t rfl (o_loadI Try.underlying3 rfl rfl hp5556 (wl_t rfl (o_geq .i64 d.counter (0 : Int) rfl rfl (wl_s (o_pickT (Value.bool (decide ((0 : Int) ≤ d.counter))) rfl rfl (wl_s (o_move (Value.bool (decide ((0 : Int) ≤ d.counter))) rfl (?_))))))))))
   cases hb5557 : (decide ((0 : Int) ≤ d.counter))
   ·have hp5558 : d.counter < (0 : Int) := by first | simpa using hb5557 | (have e := hb5557; simp at e; omega)
    refine wl_k rfl (wl_k rfl (wl_k rfl (wl_s (o_pickF (Value.bool false) rfl rfl (wl_s (o_move (Value.bool false) rfl (wl_k rfl (wl_k rfl (wl_k rfl (wl_k rfl (wl_s (o_pickF (Value.bool false) rfl rfl (wl_s (o_assign (Value.bool false) rfl (wl_nil (thenQ_n (?_)))))))))))))))))
    refine cw_ret (end_r rfl (res1 rfl rfl rfl) (?_))
    have e : (formedM d) = false := by simp [formedM, *]
    exact ⟨_, rfl, s5541.keep, (by first | exact congrArg Value.bool e.symm | rfl)⟩
   ·have hp5559 : (0 : Int) ≤ d.counter := by first | simpa using hb5557 | (have e := hb5557; simp at e; omega)
    refine wl_t rfl (o_fieldR 1 f_31_1 (d.counter) rfl hp5544 (fun _ _ _ h => Enc_device_f1 h) fun a5560 hp5561 => (wl_t rfl (o_loadI Try.underlying3 rfl rfl hp5561 (wl_t rfl (o_leq .i64 d.counter (65535 : Int) rfl rfl (wl_s (o_pickT (Value.bool (decide (d.counter ≤ (65535 : Int)))) rfl rfl (wl_s (o_move (Value.bool (decide (d.counter ≤ (65535 : Int)))) rfl (?_))))))))))
    cases hb5562 : (decide (d.counter ≤ (65535 : Int)))
    ·have hp5563 : (65535 : Int) < d.counter := by first | simpa using hb5562 | (have e := hb5562; simp at e; omega)
     refine wl_k rfl (wl_k rfl (wl_k rfl (wl_k rfl (wl_s (o_pickF (Value.bool false) rfl rfl (wl_s (o_assign (Value.bool false) rfl (wl_nil (thenQ_n (?_))))))))))
     refine cw_ret (end_r rfl (res1 rfl rfl rfl) (?_))
     have e : (formedM d) = false := by simp [formedM, *]
     exact ⟨_, rfl, s5541.keep, (by first | exact congrArg Value.bool e.symm | rfl)⟩
    ·have hp5564 : d.counter ≤ (65535 : Int) := by first | simpa using hb5562 | (have e := hb5562; simp at e; omega)
     refine wl_t rfl (o_fieldR 2 f_31_2 (d.ops) rfl hp5544 (fun _ _ _ h => Enc_device_f2 h) fun a5565 hp5566 => (wl_t rfl (o_loadL Try.underlying26 rfl rfl hp5566 fun v5567 hl5568 => (?_))))
     have := hl5568.len_le
     refine wl_t rfl (o_callK (vs := [v5567]) enter_30 (c_refCheck (O := [] ++ O) v5567 d.ops w5540 hl5568 s5541.lt) rfl s5541 fun v5569 w5570 s5571 m5572 k5573 r5574 => (?_))
     obtain rfl := r5574
     refine wl_t rfl (o_eql .i64 (checkM d.ops) (0 : Int) rfl rfl (wl_s (o_pickT (Value.bool ((checkM d.ops) == (0 : Int))) rfl rfl (wl_s (o_assign (Value.bool ((checkM d.ops) == (0 : Int))) rfl (wl_nil (thenQ_n (?_))))))))
     refine cw_ret (end_r rfl (res1 rfl rfl rfl) (?_))
     have e : (formedM d) = ((checkM d.ops) == (0 : Int)) := by simp [formedM, *]
     exact ⟨_, rfl, s5571.keep, (by first | exact congrArg Value.bool e.symm | rfl)⟩
set_option maxHeartbeats 4000000 in
set_option maxRecDepth 100000 in
theorem c_refWhole {O : List Nat} (d_cs : List Value) (d : Device) (w : World) (h_d : Enc.device.rd w O d_cs d) (hO : ∀ b ∈ O, b < w.heap.size) : CallsK Try.prog 86 [.agg d_cs.toArray] w (fun v _ => v = .bool (wholeM d)) :=  by
 have h_d : Enc.device.rd w ([] ++ O) d_cs d := h_d
 have s0 : St w O w [] := St.start hO
 refine callsK_of 39 Try.func86 rfl rfl (of_decide_eq_true rfl) (fun F0 => ?_)
 refine cw_seq (?_)
 refine cw_region (by kernel_rfl) (wl_s (o_boxR (E := Enc.device) (Value.agg d_cs.toArray) (d_cs) d rfl rfl h_d s0 fun a5575 w5576 s5577 m5578 k5579 hp5580 => (?_)))
 refine wl_s (o_assign (Value.bool false) rfl (wl_nil (thenQ_n (?_))))
 refine cw_seq (?_)
 refine cw_seq (?_)
 refine cw_region (by kernel_rfl) (wl_s (o_loadS Try.underlying31 rfl s_31 rfl hp5580 fun cs5581 hs5582 => (wl_s (o_callK (vs := [Value.agg cs5581.toArray]) enter_85 (c_refFormed (O := [] ++ O) cs5581 d w5576 hs5582 s5577.lt) rfl s5577 fun v5583 w5584 s5585 m5586 k5587 r5588 => (?_)))))
 obtain rfl := r5588
 have hp5580 := hp5580.mv m5586
 refine wl_s (o_not (formedM d) rfl (wl_nil (thenQ_n (?_))))
 refine cw_cond (!(formedM d)) rfl rfl (fun hc5589 => ?_) (fun hc5589 => ?_)
 ·have hp5590 : (formedM d) = false := by first | simpa using hc5589 | (have e := hc5589; rw [Bool.not_eq_true'] at e; exact e) | (have e := hc5589; rw [Bool.not_eq_false'] at e; exact e) | (have e := hc5589; simp at e; omega)
  refine cw_seq (?_)
  refine cw_region (by kernel_rfl) (wl_s (o_assign (Value.bool false) rfl (wl_nil (thenQ_n (?_)))))
  refine cw_ret (thenQ_r (end_r rfl (res1 rfl rfl rfl) (?_)))
  have e : (wholeM d) = false := by first | exact whole_f (by assumption) | exact whole_over (k := k) (by omega) (by assumption) (by omega) | exact whole_end (by assumption) hr0_1
  exact ⟨_, rfl, s5585.keep, (by first | exact congrArg Value.bool e.symm | rfl)⟩
 ·have hp5591 : (formedM d) = true := by first | simpa using hc5589 | (have e := hc5589; rw [Bool.not_eq_true'] at e; exact e) | (have e := hc5589; rw [Bool.not_eq_false'] at e; exact e) | (have e := hc5589; simp at e; omega)
  refine cw_skip (thenQ_n (?_))
  refine cw_seq (?_)
  refine cw_region (by kernel_rfl) (wl_s (o_assign (vI (0 : Int)) rfl (wl_nil (thenQ_n (?_)))))
  refine cw_seq (?_)
  refine cw_seq (?_)
  refine cw_region (by kernel_rfl) (wl_s (o_assign (vI (0 : Int)) rfl (wl_nil (thenQ_n (?_)))))
  refine cw_block (?_)
  refine cw_loop (fun mI FI wI => ∃ (k : Nat) (B : List Nat), k ≤ d.ops.length ∧ (∀ q, q < k → d.ops[q]!.device = d.id → d.ops[q]!.no ≤ d.counter) ∧ mI = d.ops.length - k ∧ (∃ F1, FI = upds F1 [(1, Value.pointer (some a5575)), (3, vI ((cntD d.ops d.id k : Nat) : Int)), (4, vI ((k : Nat) : Int)), (39, undef)]) ∧ St w O wI B ∧ PT Enc.device wI (B ++ O) (.pointer (some a5575)) (d)) (d.ops.length - (0)) ?_ ?_
  ·exact ⟨(0), [], (by omega), (fun q hq => by omega), rfl, ⟨_, upds_self _ ⟨rfl, (by first | rfl | exact congrArg (Value.int _) (by first | omega | (rw [cnt_zero]; first | done | rfl))), (by first | rfl | exact congrArg (Value.int _) (by first | omega | (simp))), rfl, trivial⟩⟩, s5585, hp5580⟩
  ·intro ml0 F wl0 hI
   clear hp5580
   obtain ⟨k, Bl0, hr0_0, hr0_1, hm0, ⟨Fl0, rfl⟩, sl0, hp5580⟩ := hI
   refine cw_seq (?_)
   refine cw_seq (?_)
   refine cw_region (by kernel_rfl) (wl_s (o_move (vI ((k : Nat) : Int)) rfl (wl_s (o_fieldR 2 f_31_2 (d.ops) rfl hp5580 (fun _ _ _ h => Enc_device_f2 h) fun a5592 hp5593 => (wl_s (o_loadL Try.underlying26 rfl rfl hp5593 fun v5594 hl5595 => (?_)))))))
   have := hl5595.len_le
   refine wl_s (o_lenR Try.underlying26 rfl hl5595 (wl_s (o_lss .i64 ((k : Nat) : Int) (d.ops.length : Int) rfl rfl (wl_nil (thenQ_n (?_))))))
   refine cw_cond (decide (((k : Nat) : Int) < (d.ops.length : Int))) rfl rfl (fun hc5596 => ?_) (fun hc5596 => ?_)
   ·have hp5597 : ((k : Nat) : Int) < (d.ops.length : Int) := by first | simpa using hc5596 | (have e := hc5596; simp at e; omega)
    refine cw_skip (thenQ_n (?_))
    refine cw_seq (?_)
    refine cw_block (?_)
    refine cw_seq (?_)
    refine cw_draw' 8 _ _ [fun (vT : Value) (wT : World) => ∃ aT, vT = .pointer (some aT) ∧ PT (Enc.slice Enc.devop) wT (Bl0 ++ O) (.pointer (some aT)) (d.ops), fun (vT : Value) (wT : World) => RdL Enc.devop wT (Bl0 ++ O) vT (d.ops), isV (vI ((k : Nat) : Int)), fun (vT : Value) (wT : World) => ∃ aT, vT = .pointer (some aT) ∧ PT Enc.devop wT (Bl0 ++ O) (.pointer (some aT)) (d.ops[k]!), fun (vT : Value) (wT : World) => ∃ aT, vT = .pointer (some aT) ∧ PT Enc.int wT (Bl0 ++ O) (.pointer (some aT)) ((d.ops[k]!).device), isV (vI ((d.ops[k]!).device)), fun (vT : Value) (wT : World) => ∃ aT, vT = .pointer (some aT) ∧ PT Enc.int wT (Bl0 ++ O) (.pointer (some aT)) (d.id), isV (vI d.id)] (by kernel_rfl) (by kernel_rfl) (by kernel_rfl) (by kernel_rfl) rfl rfl ⟨fun _ _ _ ⟨a, e, h⟩ k => ⟨a, e, h.mv (Mv.of_keep k)⟩, fun _ _ _ h k => h.mv (Mv.of_keep k), kI, fun _ _ _ ⟨a, e, h⟩ k => ⟨a, e, h.mv (Mv.of_keep k)⟩, fun _ _ _ ⟨a, e, h⟩ k => ⟨a, e, h.mv (Mv.of_keep k)⟩, kI, fun _ _ _ ⟨a, e, h⟩ k => ⟨a, e, h.mv (Mv.of_keep k)⟩, kI, trivial⟩ ⟨?_, ?_, ?_, ?_, ?_, ?_, ?_, ?_, trivial⟩ ?_
    ·intro F1 w1 k1 hf hd
     have k0 := (Keep.drew [] wl0).trans k1
     have m1 : Mv Bl0 wl0 Bl0 w1 := Mv.of_keep k0
     have hp5580 := hp5580.mv m1
     obtain ⟨F2, rfl⟩ := lit_of (F := F1) [(1, Value.pointer (some a5575))] ⟨hf 1 (by kernel_rfl), trivial⟩
     exact sp_plain rfl ((o_fieldR 2 f_31_2 (d.ops) rfl hp5580 (fun _ _ _ h => Enc_device_f2 h) fun a5598 hp5599 => (⟨(Keep.refl _ _), ⟨a5598, rfl, hp5599⟩⟩)))
    ·intro F1 w1 k1 hf hd
     obtain ⟨a5600, e5602, hp5601⟩ : ∃ aX_, F1 15 = .pointer (some aX_) ∧ PT (Enc.slice Enc.devop) w1 (Bl0 ++ O) (.pointer (some aX_)) (d.ops) := hd 0 15 (by kernel_rfl)
     obtain ⟨F2, rfl⟩ := lit_of (F := F1) [(15, Value.pointer (some a5600))] ⟨e5602, trivial⟩
     refine sp_plain rfl ((o_loadL Try.underlying26 rfl rfl hp5601 fun v5603 hl5604 => (?_)))
     have := hl5604.len_le
     exact ⟨(Keep.refl _ _), hl5604⟩
    ·intro F1 w1 k1 hf hd
     obtain ⟨F2, rfl⟩ := lit_of (F := F1) [(4, vI ((k : Nat) : Int))] ⟨hf 4 (by kernel_rfl), trivial⟩
     exact sp_plain rfl ((o_move (vI ((k : Nat) : Int)) rfl (⟨(Keep.refl _ _), rfl⟩)))
    ·intro F1 w1 k1 hf hd
     obtain ⟨v5605, e5607, hl5606⟩ : ∃ v, F1 16 = v ∧ RdL Enc.devop w1 (Bl0 ++ O) v (d.ops) := ⟨_, rfl, hd 1 16 (by kernel_rfl)⟩
     have := hl5606.len_le
     obtain ⟨F2, rfl⟩ := lit_of (F := F1) [(16, v5605), (17, vI ((k : Nat) : Int))] ⟨e5607, hd 2 17 (by kernel_rfl), trivial⟩
     exact sp_plain rfl ((o_idx Try.underlying26 s_40 .i64 ((k : Nat) : Int) k rfl rfl rfl hl5606 (by omega) fun a5608 hp5609 => (⟨(Keep.refl _ _), ⟨a5608, rfl, hp5609⟩⟩)))
    ·intro F1 w1 k1 hf hd
     obtain ⟨a5610, e5612, hp5611⟩ : ∃ aX_, F1 18 = .pointer (some aX_) ∧ PT Enc.devop w1 (Bl0 ++ O) (.pointer (some aX_)) (d.ops[k]!) := hd 3 18 (by kernel_rfl)
     obtain ⟨F2, rfl⟩ := lit_of (F := F1) [(18, Value.pointer (some a5610))] ⟨e5612, trivial⟩
     exact sp_plain rfl ((o_fieldR 0 f_40_0 ((d.ops[k]!).device) rfl hp5611 (fun _ _ _ h => Enc_devop_f0 h) fun a5613 hp5614 => (⟨(Keep.refl _ _), ⟨a5613, rfl, hp5614⟩⟩)))
    ·intro F1 w1 k1 hf hd
     obtain ⟨a5615, e5617, hp5616⟩ : ∃ aX_, F1 19 = .pointer (some aX_) ∧ PT Enc.int w1 (Bl0 ++ O) (.pointer (some aX_)) ((d.ops[k]!).device) := hd 4 19 (by kernel_rfl)
     obtain ⟨F2, rfl⟩ := lit_of (F := F1) [(19, Value.pointer (some a5615))] ⟨e5617, trivial⟩
     exact sp_plain rfl ((o_loadI Try.underlying3 rfl rfl hp5616 (⟨(Keep.refl _ _), rfl⟩)))
    ·intro F1 w1 k1 hf hd
     have k0 := (Keep.drew [] wl0).trans k1
     have m1 : Mv Bl0 wl0 Bl0 w1 := Mv.of_keep k0
     have hp5580 := hp5580.mv m1
     obtain ⟨F2, rfl⟩ := lit_of (F := F1) [(1, Value.pointer (some a5575))] ⟨hf 1 (by kernel_rfl), trivial⟩
     exact sp_plain rfl ((o_fieldR 0 f_31_0 (d.id) rfl hp5580 (fun _ _ _ h => Enc_device_f0 h) fun a5618 hp5619 => (⟨(Keep.refl _ _), ⟨a5618, rfl, hp5619⟩⟩)))
    ·intro F1 w1 k1 hf hd
     obtain ⟨a5620, e5622, hp5621⟩ : ∃ aX_, F1 21 = .pointer (some aX_) ∧ PT Enc.int w1 (Bl0 ++ O) (.pointer (some aX_)) (d.id) := hd 6 21 (by kernel_rfl)
     obtain ⟨F2, rfl⟩ := lit_of (F := F1) [(21, Value.pointer (some a5620))] ⟨e5622, trivial⟩
     exact sp_plain rfl ((o_loadI Try.underlying3 rfl rfl hp5621 (⟨(Keep.refl _ _), rfl⟩)))
    intro F5624 w5625 k5623 hT5626 hF5627
    have s5628 := sl0.call k5623
    have m5629 : Mv Bl0 wl0 Bl0 w5625 := Mv.of_keep k5623
    have hp5580 := hp5580.mv m5629
    obtain ⟨F2, rfl⟩ := lit_of (F := F5624) [(1, Value.pointer (some a5575)), (3, vI ((cntD d.ops d.id k : Nat) : Int)), (4, vI ((k : Nat) : Int)), (39, undef), (20, vI ((d.ops[k]!).device)), (22, vI d.id)] ⟨hF5627 1 (by kernel_rfl), hF5627 3 (by kernel_rfl), hF5627 4 (by kernel_rfl), hF5627 39 (by kernel_rfl), hT5626 5 20 (by kernel_rfl) (by decide), hT5626 7 22 (by kernel_rfl) (by decide), trivial⟩
    clear hT5626 hF5627
    refine wl_s (o_eql .i64 ((d.ops[k]!).device) d.id rfl rfl (wl_nil (thenQ_n (?_))))
    refine cw_cond (((d.ops[k]!).device) == d.id) rfl rfl (fun hc5632 => ?_) (fun hc5632 => ?_)
    ·have hp5633 : (d.ops[k]!).device = d.id := by first | simpa using hc5632 | (have e := hc5632; simp at e; omega)
     refine cw_seq (?_)
     refine cw_seq (?_)
     refine cw_draw' 8 _ _ [fun (vT : Value) (wT : World) => ∃ aT, vT = .pointer (some aT) ∧ PT (Enc.slice Enc.devop) wT (Bl0 ++ O) (.pointer (some aT)) (d.ops), fun (vT : Value) (wT : World) => RdL Enc.devop wT (Bl0 ++ O) vT (d.ops), isV (vI ((k : Nat) : Int)), fun (vT : Value) (wT : World) => ∃ aT, vT = .pointer (some aT) ∧ PT Enc.devop wT (Bl0 ++ O) (.pointer (some aT)) (d.ops[k]!), fun (vT : Value) (wT : World) => ∃ aT, vT = .pointer (some aT) ∧ PT Enc.int wT (Bl0 ++ O) (.pointer (some aT)) ((d.ops[k]!).no), isV (vI ((d.ops[k]!).no)), fun (vT : Value) (wT : World) => ∃ aT, vT = .pointer (some aT) ∧ PT Enc.int wT (Bl0 ++ O) (.pointer (some aT)) (d.counter), isV (vI d.counter)] (by kernel_rfl) (by kernel_rfl) (by kernel_rfl) (by kernel_rfl) rfl rfl ⟨fun _ _ _ ⟨a, e, h⟩ k => ⟨a, e, h.mv (Mv.of_keep k)⟩, fun _ _ _ h k => h.mv (Mv.of_keep k), kI, fun _ _ _ ⟨a, e, h⟩ k => ⟨a, e, h.mv (Mv.of_keep k)⟩, fun _ _ _ ⟨a, e, h⟩ k => ⟨a, e, h.mv (Mv.of_keep k)⟩, kI, fun _ _ _ ⟨a, e, h⟩ k => ⟨a, e, h.mv (Mv.of_keep k)⟩, kI, trivial⟩ ⟨?_, ?_, ?_, ?_, ?_, ?_, ?_, ?_, trivial⟩ ?_
     ·intro F1 w1 k1 hf hd
      have k0 := (Keep.drew [] w5625).trans k1
      have m1 : Mv Bl0 w5625 Bl0 w1 := Mv.of_keep k0
      have hp5580 := hp5580.mv m1
      obtain ⟨F2, rfl⟩ := lit_of (F := F1) [(1, Value.pointer (some a5575))] ⟨hf 1 (by kernel_rfl), trivial⟩
      exact sp_plain rfl ((o_fieldR 2 f_31_2 (d.ops) rfl hp5580 (fun _ _ _ h => Enc_device_f2 h) fun a5634 hp5635 => (⟨(Keep.refl _ _), ⟨a5634, rfl, hp5635⟩⟩)))
     ·intro F1 w1 k1 hf hd
      obtain ⟨a5636, e5638, hp5637⟩ : ∃ aX_, F1 24 = .pointer (some aX_) ∧ PT (Enc.slice Enc.devop) w1 (Bl0 ++ O) (.pointer (some aX_)) (d.ops) := hd 0 24 (by kernel_rfl)
      obtain ⟨F2, rfl⟩ := lit_of (F := F1) [(24, Value.pointer (some a5636))] ⟨e5638, trivial⟩
      refine sp_plain rfl ((o_loadL Try.underlying26 rfl rfl hp5637 fun v5639 hl5640 => (?_)))
      have := hl5640.len_le
      exact ⟨(Keep.refl _ _), hl5640⟩
     ·intro F1 w1 k1 hf hd
      obtain ⟨F2, rfl⟩ := lit_of (F := F1) [(4, vI ((k : Nat) : Int))] ⟨hf 4 (by kernel_rfl), trivial⟩
      exact sp_plain rfl ((o_move (vI ((k : Nat) : Int)) rfl (⟨(Keep.refl _ _), rfl⟩)))
     ·intro F1 w1 k1 hf hd
      obtain ⟨v5641, e5643, hl5642⟩ : ∃ v, F1 25 = v ∧ RdL Enc.devop w1 (Bl0 ++ O) v (d.ops) := ⟨_, rfl, hd 1 25 (by kernel_rfl)⟩
      have := hl5642.len_le
      obtain ⟨F2, rfl⟩ := lit_of (F := F1) [(25, v5641), (26, vI ((k : Nat) : Int))] ⟨e5643, hd 2 26 (by kernel_rfl), trivial⟩
      exact sp_plain rfl ((o_idx Try.underlying26 s_40 .i64 ((k : Nat) : Int) k rfl rfl rfl hl5642 (by omega) fun a5644 hp5645 => (⟨(Keep.refl _ _), ⟨a5644, rfl, hp5645⟩⟩)))
     ·intro F1 w1 k1 hf hd
      obtain ⟨a5646, e5648, hp5647⟩ : ∃ aX_, F1 27 = .pointer (some aX_) ∧ PT Enc.devop w1 (Bl0 ++ O) (.pointer (some aX_)) (d.ops[k]!) := hd 3 27 (by kernel_rfl)
      obtain ⟨F2, rfl⟩ := lit_of (F := F1) [(27, Value.pointer (some a5646))] ⟨e5648, trivial⟩
      exact sp_plain rfl ((o_fieldR 1 f_40_1 ((d.ops[k]!).no) rfl hp5647 (fun _ _ _ h => Enc_devop_f1 h) fun a5649 hp5650 => (⟨(Keep.refl _ _), ⟨a5649, rfl, hp5650⟩⟩)))
     ·intro F1 w1 k1 hf hd
      obtain ⟨a5651, e5653, hp5652⟩ : ∃ aX_, F1 28 = .pointer (some aX_) ∧ PT Enc.int w1 (Bl0 ++ O) (.pointer (some aX_)) ((d.ops[k]!).no) := hd 4 28 (by kernel_rfl)
      obtain ⟨F2, rfl⟩ := lit_of (F := F1) [(28, Value.pointer (some a5651))] ⟨e5653, trivial⟩
      exact sp_plain rfl ((o_loadI Try.underlying3 rfl rfl hp5652 (⟨(Keep.refl _ _), rfl⟩)))
     ·intro F1 w1 k1 hf hd
      have k0 := (Keep.drew [] w5625).trans k1
      have m1 : Mv Bl0 w5625 Bl0 w1 := Mv.of_keep k0
      have hp5580 := hp5580.mv m1
      obtain ⟨F2, rfl⟩ := lit_of (F := F1) [(1, Value.pointer (some a5575))] ⟨hf 1 (by kernel_rfl), trivial⟩
      exact sp_plain rfl ((o_fieldR 1 f_31_1 (d.counter) rfl hp5580 (fun _ _ _ h => Enc_device_f1 h) fun a5654 hp5655 => (⟨(Keep.refl _ _), ⟨a5654, rfl, hp5655⟩⟩)))
     ·intro F1 w1 k1 hf hd
      obtain ⟨a5656, e5658, hp5657⟩ : ∃ aX_, F1 30 = .pointer (some aX_) ∧ PT Enc.int w1 (Bl0 ++ O) (.pointer (some aX_)) (d.counter) := hd 6 30 (by kernel_rfl)
      obtain ⟨F2, rfl⟩ := lit_of (F := F1) [(30, Value.pointer (some a5656))] ⟨e5658, trivial⟩
      exact sp_plain rfl ((o_loadI Try.underlying3 rfl rfl hp5657 (⟨(Keep.refl _ _), rfl⟩)))
     intro F5660 w5661 k5659 hT5662 hF5663
     have s5664 := s5628.call k5659
     have m5665 : Mv Bl0 w5625 Bl0 w5661 := Mv.of_keep k5659
     have hp5580 := hp5580.mv m5665
     obtain ⟨F2, rfl⟩ := lit_of (F := F5660) [(1, Value.pointer (some a5575)), (3, vI ((cntD d.ops d.id k : Nat) : Int)), (4, vI ((k : Nat) : Int)), (39, undef), (29, vI ((d.ops[k]!).no)), (31, vI d.counter)] ⟨hF5663 1 (by kernel_rfl), hF5663 3 (by kernel_rfl), hF5663 4 (by kernel_rfl), hF5663 39 (by kernel_rfl), hT5662 5 29 (by kernel_rfl) (by decide), hT5662 7 31 (by kernel_rfl) (by decide), trivial⟩
     clear hT5662 hF5663
     refine wl_s (o_gtr .i64 ((d.ops[k]!).no) d.counter rfl rfl (wl_nil (thenQ_n (?_))))
     refine cw_cond (decide (d.counter < (d.ops[k]!).no)) rfl rfl (fun hc5668 => ?_) (fun hc5668 => ?_)
     ·have hp5669 : d.counter < (d.ops[k]!).no := by first | simpa using hc5668 | (have e := hc5668; simp at e; omega)
      refine cw_seq (?_)
      refine cw_region (by kernel_rfl) (wl_s (o_assign (Value.bool false) rfl (wl_nil (thenQ_n (?_)))))
      refine cw_ret (thenQ_r (blockQ_r (thenQ_r (thenQ_r (blockQ_r (thenQ_r (end_r rfl (res1 rfl rfl rfl) (?_))))))))
      have e : (wholeM d) = false := by first | exact whole_f (by assumption) | exact whole_over (k := k) (by omega) (by assumption) (by omega) | exact whole_end (by assumption) hr0_1
      exact ⟨_, rfl, s5664.keep, (by first | exact congrArg Value.bool e.symm | rfl)⟩
     ·have hp5670 : (d.ops[k]!).no ≤ d.counter := by first | simpa using hc5668 | (have e := hc5668; simp at e; omega)
      refine cw_skip (thenQ_n (?_))
      refine cw_region (by kernel_rfl) (wl_s (o_move (vI ((cntD d.ops d.id k : Nat) : Int)) rfl (wl_s (o_add .i64 ((cntD d.ops d.id k : Nat) : Int) (1 : Int) (((cntD d.ops d.id k + 1 : Nat) : Int)) rfl rfl (w64 (by have := cnt_lek d.ops d.id k; omega) (by omega)) (wl_s (o_assign (vI ((cntD d.ops d.id k + 1 : Nat) : Int)) rfl (wl_nil (blockQ_n (thenQ_n (?_))))))))))
      refine cw_region (by kernel_rfl) (wl_s (o_move (vI ((k : Nat) : Int)) rfl (wl_s (o_add .i64 ((k : Nat) : Int) (1 : Int) (((k + 1 : Nat) : Int)) rfl rfl (w64 (by omega) (by omega)) (wl_s (o_assign (vI ((k + 1 : Nat) : Int)) rfl (wl_nil (thenQ_n (?_)))))))))
      exact ⟨_, (by omega), (k + 1), Bl0, (by omega), (own_step hr0_1 (by first | exact .inl (by assumption) | exact .inr (by assumption))), rfl, ⟨_, upds_self _ ⟨rfl, (by first | rfl | exact congrArg (Value.int _) (by first | omega | (first | rw [cnt_y (by omega) (by assumption)] | rw [cnt_n (by omega) (by assumption)]))), (by first | rfl | exact congrArg (Value.int _) (by first | omega | (simp))), rfl, trivial⟩⟩, s5664, hp5580⟩
    ·have hp5671 : (d.ops[k]!).device ≠ d.id := by first | simpa using hc5632 | (have e := hc5632; simp at e; omega)
     refine cw_skip (blockQ_n (thenQ_n (?_)))
     refine cw_region (by kernel_rfl) (wl_s (o_move (vI ((k : Nat) : Int)) rfl (wl_s (o_add .i64 ((k : Nat) : Int) (1 : Int) (((k + 1 : Nat) : Int)) rfl rfl (w64 (by omega) (by omega)) (wl_s (o_assign (vI ((k + 1 : Nat) : Int)) rfl (wl_nil (thenQ_n (?_)))))))))
     exact ⟨_, (by omega), (k + 1), Bl0, (by omega), (own_step hr0_1 (by first | exact .inl (by assumption) | exact .inr (by assumption))), rfl, ⟨_, upds_self _ ⟨rfl, (by first | rfl | exact congrArg (Value.int _) (by first | omega | (first | rw [cnt_y (by omega) (by assumption)] | rw [cnt_n (by omega) (by assumption)]))), (by first | rfl | exact congrArg (Value.int _) (by first | omega | (simp))), rfl, trivial⟩⟩, s5628, hp5580⟩
   ·have hp5672 : (d.ops.length : Int) ≤ ((k : Nat) : Int) := by first | simpa using hc5596 | (have e := hc5596; simp at e; omega)
    obtain rfl : k = d.ops.length := by omega
    refine cw_exit (thenQ_x (thenQ_x (blockQ_x (thenQ_n (?_)))))
    refine cw_seq (?_)
    refine cw_region (by kernel_rfl) (wl_s (o_move (vI ((cntD d.ops d.id d.ops.length : Nat) : Int)) rfl (wl_s (o_fieldR 1 f_31_1 (d.counter) rfl hp5580 (fun _ _ _ h => Enc_device_f1 h) fun a5673 hp5674 => (wl_s (o_loadI Try.underlying3 rfl rfl hp5674 (wl_s (o_eql .i64 ((cntD d.ops d.id d.ops.length : Nat) : Int) d.counter rfl rfl (wl_s (o_assign (Value.bool (((cntD d.ops d.id d.ops.length : Nat) : Int) == d.counter)) rfl (wl_nil (thenQ_n (?_)))))))))))))
    refine cw_ret (end_r rfl (res1 rfl rfl rfl) (?_))
    have e : (wholeM d) = (((cntD d.ops d.id d.ops.length : Nat) : Int) == d.counter) := by first | exact whole_f (by assumption) | exact whole_over (k := k) (by omega) (by assumption) (by omega) | exact whole_end (by assumption) hr0_1
    exact ⟨_, rfl, sl0.keep, (by first | exact congrArg Value.bool e.symm | rfl)⟩

end Go.Proofs.Ytjpniibleelgiaa
