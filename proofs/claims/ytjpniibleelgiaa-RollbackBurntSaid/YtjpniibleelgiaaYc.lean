/- Walks, printed by gen.py. -/
import Derived.Test.YtjpniibleelgiaaYa
import Derived.Test.YtjpniibleelgiaaXf
set_option linter.unusedSimpArgs false
set_option linter.unusedVariables false
namespace Go.Proofs.Ytjpniibleelgiaa
open Go.Fw Go.RowKit

set_option maxHeartbeats 4000000 in
set_option maxRecDepth 100000 in
theorem c_burnt {O : List Nat} (d_cs : List Value) (d : Device) (copies : Int) (first : Int) (w : World) (h_d : Enc.device.rd w O d_cs d) (hO : ∀ b ∈ O, b < w.heap.size) : CallsK Try.prog 50 [.agg d_cs.toArray, vI copies, vI first] w (fun v w' => ∃ (x0 : Value), v = x0 ∧ RdL Enc.int w' (O) x0 (burntM d copies first)) :=  by
 have h_d : Enc.device.rd w ([] ++ O) d_cs d := h_d
 have s0 : St w O w [] := St.start hO
 refine callsK_of 57 Try.func50 rfl rfl (of_decide_eq_true rfl) (fun F0 => ?_)
 refine cw_seq (?_)
 refine cw_region (by kernel_rfl) (wl_s (o_boxR (E := Enc.device) (Value.agg d_cs.toArray) (d_cs) d rfl rfl h_d s0 fun a5415 w5416 s5417 m5418 k5419 hp5420 => (?_)))
 refine wl_s (o_assign (.slice none 0 0) rfl (wl_nil (thenQ_n (?_))))
 refine cw_seq (?_)
 refine cw_region (by kernel_rfl) (wl_s (o_loadS Try.underlying31 rfl s_31 rfl hp5420 fun cs5421 hs5422 => (?_)))
 obtain ⟨d5423, rfl, hd5424⟩ := hs5422
 have := hd5424.len_le
 refine wl_s (o_build (l := [(0, .tmp 12)]) pl_112 z_112 rfl [(0, Value.agg #[vI d.id, vI d.counter, d5423, Value.bool d.halted], [vI d.id, vI d.counter, d5423, Value.bool d.halted])] [vI d.id, vI d.counter, d5423, Value.bool d.halted] rfl ⟨_, rfl, rfl, (of_decide_eq_true rfl), rfl⟩ (wl_s (o_alloc [vI (0 : Int), vI (0 : Int), Value.slice none 0 0, Value.bool false] z_112 rfl s5417 fun b5425 w5426 e5431 s5427 m5428 k5429 bx5430 => (?_))))
 clear e5431
 have hd5424 := hd5424.mv m5428
 refine wl_n (o_store (vs := [vI d.id, vI d.counter, d5423, Value.bool d.halted]) (.agg #[vI d.id, vI d.counter, d5423, Value.bool d.halted]) rfl rfl rfl s_112 (fun u hu => by simp only [List.mem_cons, List.not_mem_nil, or_false] at hu; rcases hu with rfl | rfl | rfl | rfl <;> first | rfl | exact hd5424.oneCell) (by repeat (first | assumption | constructor)) bx5430 (of_decide_eq_true rfl) s5427 fun w5432 s5433 m5434 k5435 bx5436 => (?_))
 have hd5424 := hd5424.mv m5434
 refine wl_nil (thenQ_n (?_))
 refine cw_cut (fun FI wI => ∃ (B : List Nat), (d.halted = true ∨ wholeM d = false) ∧ True ∧ (∃ F1, FI = upds F1 [(1, vI copies), (2, vI first), (6, Value.slice none 0 0), (7, Value.pointer (some ⟨b5425, 0, none⟩)), (57, undef)]) ∧ St w O wI B ∧ RdL Enc.devop wI (B ++ O) (d5423) (d.ops) ∧ Box wI b5425 112 [vI d.id, vI d.counter, d5423, Value.bool d.halted] ∧ b5425 ∈ B) ?_ ?_
 ·refine cw_seq (?_)
  refine cw_region (by kernel_rfl) (wl_s (o_fieldL 0 f_112_0 rfl (wl_s (o_fieldL 3 f_31_3 rfl (wl_s (o_loadBx Try.underlying4 rfl (Value.bool d.halted) rfl bx5436 rfl (wl_s (o_not d.halted rfl (wl_s (o_move (Value.bool (!d.halted)) rfl (?_)))))))))))
  cases hb5437 : (!d.halted)
  ·have hp5438 : d.halted = true := by first | simpa using hb5437 | (have e := hb5437; rw [Bool.not_eq_true'] at e; exact e) | (have e := hb5437; rw [Bool.not_eq_false'] at e; exact e) | (have e := hb5437; simp at e; omega)
   refine wl_k rfl (wl_k rfl (wl_s (o_pickF (Value.bool false) rfl rfl (wl_nil (thenQ_n (?_))))))
   refine cw_cond false rfl rfl (fun h => by cases h) (fun _ => ?_)
   refine cw_skip (thenQ_n (?_))
   exact ⟨(b5425 :: []), (by first | exact .inl (by assumption) | exact .inr (by assumption)), trivial, ⟨_, upds_self _ ⟨rfl, rfl, rfl, rfl, rfl, trivial⟩⟩, s5433, hd5424, bx5436, (by first | assumption | (repeat (first | exact List.mem_cons_self | assumption | apply List.mem_cons_of_mem)) | (apply_assumption; assumption))⟩
  ·have hp5439 : d.halted = false := by first | simpa using hb5437 | (have e := hb5437; rw [Bool.not_eq_true'] at e; exact e) | (have e := hb5437; rw [Bool.not_eq_false'] at e; exact e) | (have e := hb5437; simp at e; omega)
   refine wl_t rfl (o_loadBxA (vs := [vI d.id, vI d.counter, d5423, Value.bool d.halted]) Try.underlying112 rfl s_112 rfl bx5436 rfl (wl_t rfl (o_callK (vs := [Value.agg #[vI d.id, vI d.counter, d5423, Value.bool d.halted]]) enter_81 (c_whole (O := (b5425 :: []) ++ O) [vI d.id, vI d.counter, d5423, Value.bool d.halted] d w5432 ⟨_, rfl, hd5424⟩ s5433.lt) rfl s5433 fun v5440 w5441 s5442 m5443 k5444 r5445 => (?_))))
   obtain rfl := r5445
   have hd5424 := hd5424.mv m5443
   have bx5436 := bx5436.keep k5444 (by simp)
   refine wl_s (o_pickT (Value.bool (wholeM d)) rfl rfl (wl_nil (thenQ_n (?_))))
   refine cw_cond (wholeM d) rfl rfl (fun hc5446 => ?_) (fun hc5446 => ?_)
   ·have hp5447 : (wholeM d) = true := by first | simpa using hc5446 | (have e := hc5446; simp at e; omega)
    refine cw_seq (?_)
    refine cw_region (by kernel_rfl) (wl_s (o_assign (.slice none 0 0) rfl (wl_nil (thenQ_n (?_)))))
    refine cw_ret (thenQ_r (end_r rfl (res1 rfl rfl rfl) (?_)))
    have e : (burntM d copies first) = ([]) := by first | exact burnt_1 (by assumption) (by assumption) | exact burnt_2 (.inl (by assumption)) (by assumption) | exact burnt_2 (.inr (by assumption)) (by assumption) | exact burnt_2 hrc23_0 (by assumption) | exact burnt_3 hrc23_0 (by assumption)
    exact ⟨_, rfl, s5442.keep, by rw [e]; first | done | exact ⟨.slice none 0 0, rfl, RdL.nil _ _ _⟩⟩
   ·have hp5448 : (wholeM d) = false := by first | simpa using hc5446 | (have e := hc5446; simp at e; omega)
    refine cw_skip (thenQ_n (?_))
    exact ⟨(b5425 :: []), (by first | exact .inl (by assumption) | exact .inr (by assumption)), trivial, ⟨_, upds_self _ ⟨rfl, rfl, rfl, rfl, rfl, trivial⟩⟩, s5442, hd5424, bx5436, (by first | assumption | (repeat (first | exact List.mem_cons_self | assumption | apply List.mem_cons_of_mem)) | (apply_assumption; assumption))⟩
 ·intro F wlc23 hI
  clear hd5424 bx5436
  obtain ⟨Blc23, hrc23_0, hmc23, ⟨Flc23, rfl⟩, slc23, hd5424, bx5436, hin_b5425⟩ := hI
  refine cw_seq (?_)
  refine cw_region (by kernel_rfl) (wl_s (o_fieldL 0 f_112_0 rfl (wl_s (o_fieldL 2 f_31_2 rfl (wl_s (o_loadBx Try.underlying26 rfl (d5423) rfl bx5436 rfl (wl_s (o_move (vI copies) rfl (wl_s (o_move (vI first) rfl (wl_s (o_callK (vs := [d5423, vI copies, vI first]) enter_24 (c_state (O := Blc23 ++ O) d5423 d.ops copies first wlc23 hd5424 slc23.lt) rfl slc23 fun v5449 w5450 s5451 m5452 k5453 r5454 => (?_)))))))))))))
  obtain ⟨x5455, rfl, hl5456⟩ := r5454
  have := hl5456.len_le
  have hd5424 := hd5424.mv m5452
  have bx5436 := bx5436.keep k5453 (by simp)
  refine wl_s (o_move (Value.tuple #[x5455, vI ((stateM d.ops copies first).2)]) rfl (wl_s (o_extract (x5455) rfl rfl (wl_s (o_extract (vI ((stateM d.ops copies first).2)) rfl rfl (wl_s (o_assign (x5455) rfl (wl_s (o_assign (vI ((stateM d.ops copies first).2)) rfl (wl_nil (thenQ_n (?_))))))))))))
  refine cw_seq (?_)
  refine cw_seq (?_)
  refine cw_region (by kernel_rfl) (wl_s (o_move (vI ((stateM d.ops copies first).2)) rfl (wl_s (o_neq .i64 ((stateM d.ops copies first).2) (0 : Int) rfl rfl (wl_nil (thenQ_n (?_)))))))
  refine cw_cond (((stateM d.ops copies first).2) != (0 : Int)) rfl rfl (fun hc5457 => ?_) (fun hc5457 => ?_)
  ·have hp5458 : (stateM d.ops copies first).2 ≠ (0 : Int) := by first | simpa using hc5457 | (have e := hc5457; simp at e; omega)
   refine cw_seq (?_)
   refine cw_region (by kernel_rfl) (wl_s (o_assign (.slice none 0 0) rfl (wl_nil (thenQ_n (?_)))))
   refine cw_ret (thenQ_r (end_r rfl (res1 rfl rfl rfl) (?_)))
   have e : (burntM d copies first) = ([]) := by first | exact burnt_1 (by assumption) (by assumption) | exact burnt_2 (.inl (by assumption)) (by assumption) | exact burnt_2 (.inr (by assumption)) (by assumption) | exact burnt_2 hrc23_0 (by assumption) | exact burnt_3 hrc23_0 (by assumption)
   exact ⟨_, rfl, s5451.keep, by rw [e]; first | done | exact ⟨.slice none 0 0, rfl, RdL.nil _ _ _⟩⟩
  ·have hp5459 : (stateM d.ops copies first).2 = (0 : Int) := by first | simpa using hc5457 | (have e := hc5457; simp at e; omega)
   have hst : (stateM d.ops copies first).2 = 0 := hp5459
   have hsl := state_len hst
   have hsb := (state_ok hst).2.2
   refine cw_skip (thenQ_n (?_))
   refine cw_seq (?_)
   refine cw_seq (?_)
   refine cw_region (by kernel_rfl) (wl_s (o_move (x5455) rfl (wl_s (o_lenR Try.underlying43 rfl hl5456 (wl_s (o_move (vI (0 : Int)) rfl (wl_nil (thenQ_n (?_)))))))))
   refine cw_block (?_)
   refine cw_loop (fun mI FI wI => ∃ (k : Nat) (vo0_6 : Value) (B : List Nat), k ≤ ((stateM d.ops copies first).1).length ∧ mI = ((stateM d.ops copies first).1).length - k ∧ (∃ F1, FI = upds F1 [(6, vo0_6), (7, Value.pointer (some ⟨b5425, 0, none⟩)), (33, x5455), (34, vI (((stateM d.ops copies first).1).length : Int)), (35, vI ((k : Nat) : Int)), (57, undef)]) ∧ St w O wI B ∧ Own Enc.int 3 w.heap.size (B ++ O) wI vo0_6 (burnL (stateM d.ops copies first).1 d.id k) ∧ (∀ b, vo0_6.ownBlock = some b → b ∈ B) ∧ RdL Enc.holding wI (B ++ O) (x5455) ((stateM d.ops copies first).1) ∧ RdL Enc.devop wI (B ++ O) (d5423) (d.ops) ∧ Box wI b5425 112 [vI d.id, vI d.counter, d5423, Value.bool d.halted] ∧ b5425 ∈ B ∧ (∀ b, vo0_6.ownBlock = some b → b ≠ b5425)) (((stateM d.ops copies first).1).length - (0)) ?_ ?_
   ·exact ⟨(0), (.slice none 0 0), Blc23, (by omega), rfl, ⟨_, upds_self _ ⟨rfl, rfl, rfl, rfl, (by first | rfl | exact congrArg (Value.int _) (by first | omega | (simp))), rfl, trivial⟩⟩, s5451, (by rw [show burnL (stateM d.ops copies first).1 d.id (0) = [] from burn_zero _ _]; exact (Own.nil Enc.int 3 _ _ _)), (by intro b hb; simp [Value.ownBlock] at hb), hl5456, hd5424, bx5436, (by first | assumption | (repeat (first | exact List.mem_cons_self | assumption | apply List.mem_cons_of_mem)) | (apply_assumption; assumption)), (fun b hb => by first | (simp [Value.ownBlock] at hb; done) | (intro e; simp_all; done))⟩
   ·intro ml0 F wl0 hI
    clear hl5456 hd5424 bx5436
    obtain ⟨k, vo0_6, Bl0, hr0_0, hm0, ⟨Fl0, rfl⟩, sl0, ho0_6, hB0_6, hl5456, hd5424, bx5436, hin_b5425, nb0_6_b5425⟩ := hI
    refine cw_seq (?_)
    refine cw_region (by kernel_rfl) (wl_s (o_lss .i64 ((k : Nat) : Int) (((stateM d.ops copies first).1).length : Int) rfl rfl (wl_nil (thenQ_n (?_)))))
    refine cw_seq (?_)
    refine cw_cond (decide (((k : Nat) : Int) < (((stateM d.ops copies first).1).length : Int))) rfl rfl (fun hc5460 => ?_) (fun hc5460 => ?_)
    ·have hp5461 : ((k : Nat) : Int) < (((stateM d.ops copies first).1).length : Int) := by first | simpa using hc5460 | (have e := hc5460; simp at e; omega)
     refine cw_skip (thenQ_n (?_))
     refine cw_seq (?_)
     refine cw_block (?_)
     refine cw_seq (?_)
     refine cw_region (by kernel_rfl) (wl_s (o_idx Try.underlying43 s_47 .i64 ((k : Nat) : Int) k rfl rfl rfl hl5456 (by omega) fun a5462 hp5463 => (wl_s (o_loadS Try.underlying47 rfl s_47 rfl hp5463 fun cs5464 hs5465 => (?_)))))
     obtain rfl := hs5465
     refine wl_s (o_alloc [vI (0 : Int), vI (0 : Int), vI (0 : Int), Value.bool false] z_47 rfl sl0 fun b5466 w5467 e5472 s5468 m5469 k5470 bx5471 => (?_))
     have ne5473 : NeB b5425 b5466 := by show b5425 ≠ b5466; have := bx5436.lt; omega
     have ne5474 : ∀ b, vo0_6.ownBlock = some b → b ≠ b5466 := fun b hb => by have := (ho0_6.lt b hb).2; omega
     have hB0_6 : ∀ b, vo0_6.ownBlock = some b → b ∈ (b5466 :: Bl0) := fun b hb => List.mem_cons_of_mem _ (hB0_6 b hb)
     clear e5472
     have ho0_6 := ho0_6.mv m5469 k5470 (by simp)
     have hl5456 := hl5456.mv m5469
     have hd5424 := hd5424.mv m5469
     have bx5436 := bx5436.keep k5470 (by simp)
     refine wl_n (o_store (vs := [vI ((((stateM d.ops copies first).1)[k]!).copy), vI ((((stateM d.ops copies first).1)[k]!).device), vI ((((stateM d.ops copies first).1)[k]!).token), Value.bool ((((stateM d.ops copies first).1)[k]!).shown)]) (.agg #[vI ((((stateM d.ops copies first).1)[k]!).copy), vI ((((stateM d.ops copies first).1)[k]!).device), vI ((((stateM d.ops copies first).1)[k]!).token), Value.bool ((((stateM d.ops copies first).1)[k]!).shown)]) rfl rfl rfl s_47 (fun u hu => by simp only [List.mem_cons, List.not_mem_nil, or_false] at hu; rcases hu with rfl | rfl | rfl | rfl <;> first | rfl) (by repeat (first | assumption | constructor)) bx5471 (of_decide_eq_true rfl) s5468 fun w5475 s5476 m5477 k5478 bx5479 => (?_))
     have ho0_6 := ho0_6.mv m5477 k5478 (fun b hb => nin1 (ne5474 b hb))
     have hl5456 := hl5456.mv m5477
     have hd5424 := hd5424.mv m5477
     have bx5436 := bx5436.keep k5478 (nin1 ne5473)
     refine wl_nil (thenQ_n (?_))
     refine cw_seq (?_)
     refine cw_region (by kernel_rfl) (wl_s (o_fieldL 1 f_47_1 rfl (wl_s (o_loadBx Try.underlying3 rfl (vI ((((stateM d.ops copies first).1)[k]!).device)) rfl bx5479 rfl (wl_s (o_fieldL 0 f_112_0 rfl (wl_s (o_fieldL 0 f_31_0 rfl (wl_s (o_loadBx Try.underlying3 rfl (vI d.id) rfl bx5436 rfl (wl_s (o_eql .i64 ((((stateM d.ops copies first).1)[k]!).device) d.id rfl rfl (wl_s (o_move (Value.bool (((((stateM d.ops copies first).1)[k]!).device) == d.id)) rfl (?_)))))))))))))))
     cases hb5480 : (((((stateM d.ops copies first).1)[k]!).device) == d.id)
     ·have hp5481 : (((stateM d.ops copies first).1)[k]!).device ≠ d.id := by first | simpa using hb5480 | (have e := hb5480; simp at e; omega)
      refine wl_k rfl (wl_k rfl (wl_k rfl (wl_s (o_pickF (Value.bool false) rfl rfl (wl_nil (thenQ_n (?_)))))))
      refine cw_cond false rfl rfl (fun h => by cases h) (fun _ => ?_)
      refine cw_skip (blockQ_n (thenQ_n (?_)))
      refine cw_region (by kernel_rfl) (wl_s (o_add .i64 ((k : Nat) : Int) (1 : Int) (((k + 1 : Nat) : Int)) rfl rfl (w64 (by omega) (by omega)) (wl_s (o_move (vI ((k + 1 : Nat) : Int)) rfl (wl_nil (thenQ_n (?_)))))))
      exact ⟨_, (by omega), (k + 1), vo0_6, (b5466 :: Bl0), (by omega), rfl, ⟨_, upds_self _ ⟨rfl, rfl, rfl, rfl, (by first | rfl | exact congrArg (Value.int _) (by first | omega | (simp))), rfl, trivial⟩⟩, s5476, (by rw [show burnL (stateM d.ops copies first).1 d.id (k + 1) = burnL (stateM d.ops copies first).1 d.id k from by first | exact burn_y (by omega) (by assumption) (by assumption) | exact burn_n (by omega) (.inl (by assumption)) | exact burn_n (by omega) (.inr (by assumption))]; exact ho0_6), hB0_6, hl5456, hd5424, bx5436, (by first | assumption | (repeat (first | exact List.mem_cons_self | assumption | apply List.mem_cons_of_mem)) | (apply_assumption; assumption)), nb0_6_b5425⟩
     ·have hp5482 : (((stateM d.ops copies first).1)[k]!).device = d.id := by first | simpa using hb5480 | (have e := hb5480; simp at e; omega)
      refine wl_t rfl (o_fieldL 3 f_47_3 rfl (wl_t rfl (o_loadBx Try.underlying4 rfl (Value.bool ((((stateM d.ops copies first).1)[k]!).shown)) rfl bx5479 rfl (wl_t rfl (o_not ((((stateM d.ops copies first).1)[k]!).shown) rfl (wl_s (o_pickT (Value.bool (!((((stateM d.ops copies first).1)[k]!).shown))) rfl rfl (wl_nil (thenQ_n (?_))))))))))
      refine cw_cond (!((((stateM d.ops copies first).1)[k]!).shown)) rfl rfl (fun hc5483 => ?_) (fun hc5483 => ?_)
      ·have hp5484 : ((((stateM d.ops copies first).1)[k]!).shown) = false := by first | simpa using hc5483 | (have e := hc5483; rw [Bool.not_eq_true'] at e; exact e) | (have e := hc5483; rw [Bool.not_eq_false'] at e; exact e) | (have e := hc5483; simp at e; omega)
       refine cw_region (by kernel_rfl) (wl_s (o_move (vo0_6) rfl (wl_s (o_fieldL 0 f_47_0 rfl (wl_s (o_loadBx Try.underlying3 rfl (vI ((((stateM d.ops copies first).1)[k]!).copy)) rfl bx5479 rfl (wl_s (o_lit (E := Enc.int) (xs := [.tmp 52]) Try.underlying27 s_3 z_3 (by decide) [vI ((((stateM d.ops copies first).1)[k]!).copy)] [[vI ((((stateM d.ops copies first).1)[k]!).copy)]] [(((stateM d.ops copies first).1)[k]!).copy] rfl rfl rfl (Parts.cons rfl rfl (Parts.nil _ _ _)) (of_decide_eq_true rfl) s5476 fun v5489 w5485 s5486 m5487 k5488 hl5490 => (?_)))))))))
       have ho0_6 := ho0_6.mv m5487 k5488 (by simp)
       have hl5456 := hl5456.mv m5487
       have hd5424 := hd5424.mv m5487
       have bx5436 := bx5436.keep k5488 (by simp)
       have bx5479 := bx5479.keep k5488 (by simp)
       have := hl5490.len_le
       refine wl_s (o_append (E := Enc.int) (l := burnL (stateM d.ops copies first).1 d.id k) (m := [(((stateM d.ops copies first).1)[k]!).copy]) Try.underlying27 i_3 rfl (by decide) rfl rfl ho0_6 hl5490 (fun _ hb => .inl hb) hB0_6 (by have := burn_len (stateM d.ops copies first).1 d.id k; simp; omega) (by have := burn_len (stateM d.ops copies first).1 d.id k; simp [maxLen]; omega) s5486 fun v5495 w5491 B5497 hB5498 at5499 sub5500 s5492 m5493 k5494 ho5496 => (?_))
       have ne5501 : ∀ b, v5495.ownBlock = some b → b ≠ b5425 := fun b hb => by rcases at5499 with e1 | e1 <;> rw [e1] at hb <;> first | (simp [Value.ownBlock] at hb; done) | (cases hb; have := bx5436.lt; omega) | (exact nb0_6_b5425 b hb)
       have ne5502 : ∀ b, v5495.ownBlock = some b → b ≠ b5466 := fun b hb => by rcases at5499 with e1 | e1 <;> rw [e1] at hb <;> first | (simp [Value.ownBlock] at hb; done) | (cases hb; have := bx5479.lt; omega) | (exact ne5474 b hb)
       have hin_b5425 : b5425 ∈ B5497 := sub5500 b5425 (by repeat (first | assumption | constructor))
       have hin_b5466 : b5466 ∈ B5497 := sub5500 b5466 (by repeat (first | assumption | constructor))
       have hl5456 := hl5456.mv m5493
       have hd5424 := hd5424.mv m5493
       have bx5436 := bx5436.keep k5494 (by simp only [Option.mem_toList]; first | (simp [Value.ownBlock]; done) | exact fun e => absurd rfl (nb0_6_b5425 _ e))
       refine wl_s (o_assign (v5495) rfl (wl_nil (blockQ_n (thenQ_n (?_)))))
       refine cw_region (by kernel_rfl) (wl_s (o_add .i64 ((k : Nat) : Int) (1 : Int) (((k + 1 : Nat) : Int)) rfl rfl (w64 (by omega) (by omega)) (wl_s (o_move (vI ((k + 1 : Nat) : Int)) rfl (wl_nil (thenQ_n (?_)))))))
       exact ⟨_, (by omega), (k + 1), v5495, B5497, (by omega), rfl, ⟨_, upds_self _ ⟨rfl, rfl, rfl, rfl, (by first | rfl | exact congrArg (Value.int _) (by first | omega | (simp))), rfl, trivial⟩⟩, s5492, (by rw [show burnL (stateM d.ops copies first).1 d.id (k + 1) = (burnL (stateM d.ops copies first).1 d.id k) ++ ([(((stateM d.ops copies first).1)[k]!).copy]) from by first | exact burn_y (by omega) (by assumption) (by assumption) | exact burn_n (by omega) (.inl (by assumption)) | exact burn_n (by omega) (.inr (by assumption))]; exact ho5496), hB5498, hl5456, hd5424, bx5436, (by first | assumption | (repeat (first | exact List.mem_cons_self | assumption | apply List.mem_cons_of_mem)) | (apply_assumption; assumption)), ne5501⟩
      ·have hp5503 : ((((stateM d.ops copies first).1)[k]!).shown) = true := by first | simpa using hc5483 | (have e := hc5483; rw [Bool.not_eq_true'] at e; exact e) | (have e := hc5483; rw [Bool.not_eq_false'] at e; exact e) | (have e := hc5483; simp at e; omega)
       refine cw_skip (blockQ_n (thenQ_n (?_)))
       refine cw_region (by kernel_rfl) (wl_s (o_add .i64 ((k : Nat) : Int) (1 : Int) (((k + 1 : Nat) : Int)) rfl rfl (w64 (by omega) (by omega)) (wl_s (o_move (vI ((k + 1 : Nat) : Int)) rfl (wl_nil (thenQ_n (?_)))))))
       exact ⟨_, (by omega), (k + 1), vo0_6, (b5466 :: Bl0), (by omega), rfl, ⟨_, upds_self _ ⟨rfl, rfl, rfl, rfl, (by first | rfl | exact congrArg (Value.int _) (by first | omega | (simp))), rfl, trivial⟩⟩, s5476, (by rw [show burnL (stateM d.ops copies first).1 d.id (k + 1) = burnL (stateM d.ops copies first).1 d.id k from by first | exact burn_y (by omega) (by assumption) (by assumption) | exact burn_n (by omega) (.inl (by assumption)) | exact burn_n (by omega) (.inr (by assumption))]; exact ho0_6), hB0_6, hl5456, hd5424, bx5436, (by first | assumption | (repeat (first | exact List.mem_cons_self | assumption | apply List.mem_cons_of_mem)) | (apply_assumption; assumption)), nb0_6_b5425⟩
    ·have hp5504 : (((stateM d.ops copies first).1).length : Int) ≤ ((k : Nat) : Int) := by first | simpa using hc5460 | (have e := hc5460; simp at e; omega)
     obtain rfl : k = ((stateM d.ops copies first).1).length := by omega
     refine cw_exit (thenQ_x (thenQ_x (blockQ_x (thenQ_n (?_)))))
     refine cw_seq (?_)
     refine cw_region (by kernel_rfl) (wl_s (o_move (vo0_6) rfl (wl_s (o_assign (vo0_6) rfl (wl_nil (thenQ_n (?_)))))))
     refine cw_ret (end_r rfl (res1 rfl rfl rfl) (?_))
     have e : (burntM d copies first) = (burnL (stateM d.ops copies first).1 d.id (((stateM d.ops copies first).1).length)) := by first | exact burnt_1 (by assumption) (by assumption) | exact burnt_2 (.inl (by assumption)) (by assumption) | exact burnt_2 (.inr (by assumption)) (by assumption) | exact burnt_2 hrc23_0 (by assumption) | exact burnt_3 hrc23_0 (by assumption)
     exact ⟨_, rfl, sl0.keep, by rw [e]; first | done | exact ⟨vo0_6, rfl, ho0_6.pub sl0⟩⟩

end Go.Proofs.Ytjpniibleelgiaa
