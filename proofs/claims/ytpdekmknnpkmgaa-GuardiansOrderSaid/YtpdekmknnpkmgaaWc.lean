/- Walks, printed by gen.py. -/
import Derived.Test.YtpdekmknnpkmgaaWb
set_option linter.unusedSimpArgs false
set_option linter.unusedVariables false
namespace Go.Proofs.Ytpdekmknnpkmgaa
open Go.Fw Go.RowKit

set_option maxHeartbeats 4000000 in
set_option maxRecDepth 100000 in
theorem c_new {O : List Nat} (l_v : Value) (l : List Int) (threshold : Int) (wait : Int) (w : World) (h_l : RdL Enc.int w O l_v l) (hpre0 : l.length ≤ 1000000) (hO : ∀ b ∈ O, b < w.heap.size) : CallsK Try.prog 11 [l_v, vI threshold, vI wait] w (fun v w' => ∃ (x0 : List Value), v = .tuple #[.agg x0.toArray, vI ((gNew l threshold wait).2)] ∧ Enc.circle.rd w' (O) x0 ((gNew l threshold wait).1)) :=  by
 have lim_l := h_l.len_le
 have h_l : RdL Enc.int w ([] ++ O) l_v l := h_l
 have s0 : St w O w [] := St.start hO
 refine callsK_of 21 Try.func11 rfl rfl (of_decide_eq_true rfl) (fun F0 => ?_)
 refine cw_seq (?_)
 refine cw_region (by kernel_rfl) (wl_s (o_alloc [vI (0 : Int), vI (0 : Int), vI (0 : Int), Value.slice none 0 0, Value.slice none 0 0] z_25 rfl s0 fun b375 w376 e381 s377 m378 k379 bx380 => (?_)))
 clear e381
 have h_l := h_l.mv m378
 refine wl_s (o_assign (vI (0 : Int)) rfl (wl_nil (thenQ_n (?_))))
 refine cw_seq (?_)
 refine cw_region (by kernel_rfl) (wl_s (o_move (vI threshold) rfl (wl_s (o_move (vI wait) rfl (wl_s (o_move (l_v) rfl (wl_s (o_call [l_v] _ enter_29 rfl (calls_of_cw 8 Try.func29 rfl rfl (of_decide_eq_true rfl) (fun F382 => ?_)) (fun _ _ h => h)))))))))
 refine cw_seq (?_)
 refine cw_region (by kernel_rfl) (wl_s (o_assign (Value.slice none 0 0) rfl (wl_nil (thenQ_n (?_)))))
 refine cw_seq (?_)
 refine cw_seq (?_)
 refine cw_region (by kernel_rfl) (wl_s (o_move (l_v) rfl (wl_s (o_eqlNilR Try.underlying22 rfl rfl h_l fun bn383 hbn384 => (?_)))))
 refine wl_nil (thenQ_n (?_))
 refine cw_cond (bn383) rfl rfl (fun hc385 => ?_) (fun hc385 => ?_)
 ·have hp386 : bn383 = true := by first | simpa using hc385 | (have e := hc385; simp at e; omega)
  refine cw_seq (?_)
  refine cw_region (by kernel_rfl) (wl_s (o_assign (Value.slice none 0 0) rfl (wl_nil (thenQ_n (?_)))))
  refine cw_ret (thenQ_r (end_r rfl (res1 rfl rfl rfl) (?_)))
  have hnl388 : l = [] := hbn384 (by first | assumption | simp_all)
  have hl387 : RdL Enc.int w376 ((b375 :: []) ++ O) (.slice none 0 0) (l) := by rw [hnl388]; exact RdL.nil _ _ _
  refine Exists.intro _ (And.intro rfl (?_))
  refine wl_s (o_build (l := [(1, .tmp 9), (2, .tmp 10), (3, .tmp 12)]) pl_25 z_25 rfl [(1, vI threshold, [vI threshold]), (2, vI wait, [vI wait]), (3, .slice none 0 0, [.slice none 0 0])] [vI (0 : Int), vI threshold, vI wait, .slice none 0 0, Value.slice none 0 0] rfl ⟨_, rfl, rfl, (of_decide_eq_true rfl), ⟨_, rfl, rfl, (of_decide_eq_true rfl), ⟨_, rfl, (cells_one hl387.oneCell), (of_decide_eq_true rfl), rfl⟩⟩⟩ (wl_n (o_store (vs := [vI (0 : Int), vI threshold, vI wait, .slice none 0 0, Value.slice none 0 0]) (.agg #[vI (0 : Int), vI threshold, vI wait, .slice none 0 0, Value.slice none 0 0]) rfl rfl rfl s_25 (fun u hu => by simp only [List.mem_cons, List.not_mem_nil, or_false] at hu; rcases hu with rfl | rfl | rfl | rfl | rfl <;> first | rfl | exact hl387.oneCell) (by repeat (first | assumption | constructor)) bx380 (of_decide_eq_true rfl) s377 fun w389 s390 m391 k392 bx393 => (?_))))
  have hl387 := hl387.mv m391
  refine wl_nil (thenQ_n (?_))
  refine cw_seq (?_)
  refine cw_seq (?_)
  refine cw_region (by kernel_rfl) (wl_s (o_loadBxA (vs := [vI (0 : Int), vI threshold, vI wait, .slice none 0 0, Value.slice none 0 0]) Try.underlying25 rfl s_25 rfl bx393 rfl (wl_s (o_callK (vs := [Value.agg #[vI (0 : Int), vI threshold, vI wait, .slice none 0 0, Value.slice none 0 0]]) enter_16 (c_check (O := (b375 :: []) ++ O) [vI (0 : Int), vI threshold, vI wait, .slice none 0 0, Value.slice none 0 0] (⟨(0 : Int), threshold, wait, l, []⟩ : Circle) w389 ⟨_, .slice none 0 0, rfl, hl387, (RdL.nil _ _ _)⟩ s390.lt) rfl s390 fun v394 w395 s396 m397 k398 r399 => (?_)))))
  obtain rfl := r399
  have hl387 := hl387.mv m397
  have bx393 := bx393.keep k398 (by simp)
  refine wl_s (o_assign (vI (gCheck (⟨(0 : Int), threshold, wait, l, []⟩ : Circle))) rfl (wl_nil (thenQ_n (?_))))
  refine cw_seq (?_)
  refine cw_region (by kernel_rfl) (wl_s (o_move (vI (gCheck (⟨(0 : Int), threshold, wait, l, []⟩ : Circle))) rfl (wl_s (o_neq .i64 (gCheck (⟨(0 : Int), threshold, wait, l, []⟩ : Circle)) (0 : Int) rfl rfl (wl_nil (thenQ_n (?_)))))))
  refine cw_cond ((gCheck (⟨(0 : Int), threshold, wait, l, []⟩ : Circle)) != (0 : Int)) rfl rfl (fun hc400 => ?_) (fun hc400 => ?_)
  ·have hp401 : gCheck (⟨(0 : Int), threshold, wait, l, []⟩ : Circle) ≠ (0 : Int) := by first | simpa using hc400 | (have e := hc400; simp at e; omega)
   refine cw_seq (?_)
   refine cw_region (by kernel_rfl) (wl_s (o_build (l := []) pl_25 z_25 rfl [] [vI (0 : Int), vI (0 : Int), vI (0 : Int), Value.slice none 0 0, Value.slice none 0 0] rfl rfl (wl_s (o_move (vI (gCheck (⟨(0 : Int), threshold, wait, l, []⟩ : Circle))) rfl (wl_n (o_store (vs := [vI (0 : Int), vI (0 : Int), vI (0 : Int), Value.slice none 0 0, Value.slice none 0 0]) (.agg #[vI (0 : Int), vI (0 : Int), vI (0 : Int), Value.slice none 0 0, Value.slice none 0 0]) rfl rfl rfl s_25 (fun u hu => by simp only [List.mem_cons, List.not_mem_nil, or_false] at hu; rcases hu with rfl | rfl | rfl | rfl | rfl <;> first | rfl) (by repeat (first | assumption | constructor)) bx393 (of_decide_eq_true rfl) s396 fun w402 s403 m404 k405 bx406 => (?_)))))))
   refine wl_s (o_assign (vI (gCheck (⟨(0 : Int), threshold, wait, l, []⟩ : Circle))) rfl (wl_nil (thenQ_n (?_))))
   refine cw_ret (thenQ_r (end_r rfl (resv2 rfl (rv_A (vs := [vI (0 : Int), vI (0 : Int), vI (0 : Int), Value.slice none 0 0, Value.slice none 0 0]) rfl Try.underlying25 rfl s_25 rfl bx406 rfl) (rv_t rfl rfl)) (?_)))
   have e407 : ((gNew l threshold wait).1) = (⟨(0 : Int), (0 : Int), (0 : Int), [], []⟩ : Circle) := by first | exact congrArg (fun p => p.1) (gNew_bad (by assumption)) | exact congrArg (fun p => p.1) (gNew_ok (by assumption))
   have e408 : ((gNew l threshold wait).2) = (gCheck (⟨(0 : Int), threshold, wait, l, []⟩ : Circle)) := by first | exact congrArg (fun p => p.2) (gNew_bad (by assumption)) | exact congrArg (fun p => p.2) (gNew_ok (by assumption))
   exact ⟨_, rfl, s403.keep, by rw [e407, e408]; exact ⟨[vI (0 : Int), vI (0 : Int), vI (0 : Int), Value.slice none 0 0, Value.slice none 0 0], rfl, Enc.out (B := (b375 :: [])) ⟨.slice none 0 0, .slice none 0 0, rfl, (RdL.nil _ _ _), (RdL.nil _ _ _)⟩⟩⟩
  ·have hp409 : gCheck (⟨(0 : Int), threshold, wait, l, []⟩ : Circle) = (0 : Int) := by first | simpa using hc400 | (have e := hc400; simp at e; omega)
   refine cw_skip (thenQ_n (?_))
   refine cw_seq (?_)
   refine cw_region (by kernel_rfl) (wl_s (o_loadBxA (vs := [vI (0 : Int), vI threshold, vI wait, .slice none 0 0, Value.slice none 0 0]) Try.underlying25 rfl s_25 rfl bx393 rfl (wl_n (o_store (vs := [vI (0 : Int), vI threshold, vI wait, .slice none 0 0, Value.slice none 0 0]) (.agg #[vI (0 : Int), vI threshold, vI wait, .slice none 0 0, Value.slice none 0 0]) rfl rfl rfl s_25 (fun u hu => by simp only [List.mem_cons, List.not_mem_nil, or_false] at hu; rcases hu with rfl | rfl | rfl | rfl | rfl <;> first | rfl | exact hl387.oneCell) (by repeat (first | assumption | constructor)) bx393 (of_decide_eq_true rfl) s396 fun w410 s411 m412 k413 bx414 => (?_)))))
   have hl387 := hl387.mv m412
   refine wl_s (o_assign (vI (0 : Int)) rfl (wl_nil (thenQ_n (?_))))
   refine cw_ret (end_r rfl (resv2 rfl (rv_A (vs := [vI (0 : Int), vI threshold, vI wait, .slice none 0 0, Value.slice none 0 0]) rfl Try.underlying25 rfl s_25 rfl bx414 rfl) (rv_t rfl rfl)) (?_))
   have e415 : ((gNew l threshold wait).1) = (⟨(0 : Int), threshold, wait, l, []⟩ : Circle) := by first | exact congrArg (fun p => p.1) (gNew_bad (by assumption)) | exact congrArg (fun p => p.1) (gNew_ok (by assumption))
   have e416 : ((gNew l threshold wait).2) = (0 : Int) := by first | exact congrArg (fun p => p.2) (gNew_bad (by assumption)) | exact congrArg (fun p => p.2) (gNew_ok (by assumption))
   exact ⟨_, rfl, s411.keep, by rw [e415, e416]; exact ⟨[vI (0 : Int), vI threshold, vI wait, .slice none 0 0, Value.slice none 0 0], rfl, Enc.out (B := (b375 :: [])) ⟨_, .slice none 0 0, rfl, hl387, (RdL.nil _ _ _)⟩⟩⟩
 ·have hp417 : bn383 = false := by first | simpa using hc385 | (have e := hc385; simp at e; omega)
  refine cw_skip (thenQ_n (?_))
  refine cw_seq (?_)
  refine cw_region (by kernel_rfl) (wl_s (o_litO (E := Enc.int) (xs := []) Try.underlying22 s_3 z_3 (by decide) [] [] [] rfl rfl rfl (Parts.nil _ _ _) (of_decide_eq_true rfl) s377 fun v422 b424 w418 e425 hb426 s419 m420 k421 hl423 => (?_)))
  have ne427 : ∀ b, v422.ownBlock = some b → b ≠ b375 := fun b hb => by have := bx380.lt; rw [hb426] at hb; cases hb; omega
  have hB428 : ∀ b, v422.ownBlock = some b → b ∈ (b424 :: (b375 :: [])) := fun b hb => by rw [hb426] at hb; cases hb; simp
  clear e425 hb426
  have h_l := h_l.mv m420
  have bx380 := bx380.keep k421 (by simp)
  refine wl_s (o_move (l_v) rfl (wl_s (o_append (E := Enc.int) (l := []) (m := l) Try.underlying22 i_3 rfl (by decide) rfl rfl hl423 h_l (fun _ hb => .inl hb) hB428 (by simp; omega) (by simp [maxLen]; omega) s419 fun v433 w429 B435 hB436 at437 sub438 s430 m431 k432 ho434 => (?_))))
  rw [List.nil_append] at ho434
  have ne439 : ∀ b, v433.ownBlock = some b → b ≠ b375 := fun b hb => by rcases at437 with e1 | e1 <;> rw [e1] at hb <;> first | (simp [Value.ownBlock] at hb; done) | (cases hb; have := bx380.lt; omega) | (exact ne427 b hb)
  have hin_b375 : b375 ∈ B435 := sub438 b375 (by repeat (first | assumption | constructor))
  have bx380 := bx380.keep k432 (by simp only [Option.mem_toList]; first | (simp [Value.ownBlock]; done) | exact fun e => absurd rfl (ne427 _ e))
  refine wl_s (o_assign (v433) rfl (wl_nil (thenQ_n (?_))))
  refine cw_ret (end_r rfl (res1 rfl rfl rfl) (Exists.intro _ (And.intro rfl (?_))))
  obtain ⟨B440, s441, m442, hl443, hk444⟩ := ho434.publish s430
  have hin_b375 : b375 ∈ B440 := hk444 b375 (by repeat (first | assumption | constructor)) (fun e => absurd rfl (ne439 _ e))
  have lim445 := hl443.len_le
  have bx380 := bx380.keep (Keep.refl [] _) (by simp)
  refine wl_s (o_build (l := [(1, .tmp 9), (2, .tmp 10), (3, .tmp 12)]) pl_25 z_25 rfl [(1, vI threshold, [vI threshold]), (2, vI wait, [vI wait]), (3, v433, [v433])] [vI (0 : Int), vI threshold, vI wait, v433, Value.slice none 0 0] rfl ⟨_, rfl, rfl, (of_decide_eq_true rfl), ⟨_, rfl, rfl, (of_decide_eq_true rfl), ⟨_, rfl, (cells_one hl443.oneCell), (of_decide_eq_true rfl), rfl⟩⟩⟩ (wl_n (o_store (vs := [vI (0 : Int), vI threshold, vI wait, v433, Value.slice none 0 0]) (.agg #[vI (0 : Int), vI threshold, vI wait, v433, Value.slice none 0 0]) rfl rfl rfl s_25 (fun u hu => by simp only [List.mem_cons, List.not_mem_nil, or_false] at hu; rcases hu with rfl | rfl | rfl | rfl | rfl <;> first | rfl | exact hl443.oneCell) (by repeat (first | assumption | constructor)) bx380 (of_decide_eq_true rfl) s441 fun w446 s447 m448 k449 bx450 => (?_))))
  have hl443 := hl443.mv m448
  refine wl_nil (thenQ_n (?_))
  refine cw_seq (?_)
  refine cw_seq (?_)
  refine cw_region (by kernel_rfl) (wl_s (o_loadBxA (vs := [vI (0 : Int), vI threshold, vI wait, v433, Value.slice none 0 0]) Try.underlying25 rfl s_25 rfl bx450 rfl (wl_s (o_callK (vs := [Value.agg #[vI (0 : Int), vI threshold, vI wait, v433, Value.slice none 0 0]]) enter_16 (c_check (O := B440 ++ O) [vI (0 : Int), vI threshold, vI wait, v433, Value.slice none 0 0] (⟨(0 : Int), threshold, wait, l, []⟩ : Circle) w446 ⟨_, .slice none 0 0, rfl, hl443, (RdL.nil _ _ _)⟩ s447.lt) rfl s447 fun v451 w452 s453 m454 k455 r456 => (?_)))))
  obtain rfl := r456
  have hl443 := hl443.mv m454
  have bx450 := bx450.keep k455 (by simp)
  refine wl_s (o_assign (vI (gCheck (⟨(0 : Int), threshold, wait, l, []⟩ : Circle))) rfl (wl_nil (thenQ_n (?_))))
  refine cw_seq (?_)
  refine cw_region (by kernel_rfl) (wl_s (o_move (vI (gCheck (⟨(0 : Int), threshold, wait, l, []⟩ : Circle))) rfl (wl_s (o_neq .i64 (gCheck (⟨(0 : Int), threshold, wait, l, []⟩ : Circle)) (0 : Int) rfl rfl (wl_nil (thenQ_n (?_)))))))
  refine cw_cond ((gCheck (⟨(0 : Int), threshold, wait, l, []⟩ : Circle)) != (0 : Int)) rfl rfl (fun hc457 => ?_) (fun hc457 => ?_)
  ·have hp458 : gCheck (⟨(0 : Int), threshold, wait, l, []⟩ : Circle) ≠ (0 : Int) := by first | simpa using hc457 | (have e := hc457; simp at e; omega)
   refine cw_seq (?_)
   refine cw_region (by kernel_rfl) (wl_s (o_build (l := []) pl_25 z_25 rfl [] [vI (0 : Int), vI (0 : Int), vI (0 : Int), Value.slice none 0 0, Value.slice none 0 0] rfl rfl (wl_s (o_move (vI (gCheck (⟨(0 : Int), threshold, wait, l, []⟩ : Circle))) rfl (wl_n (o_store (vs := [vI (0 : Int), vI (0 : Int), vI (0 : Int), Value.slice none 0 0, Value.slice none 0 0]) (.agg #[vI (0 : Int), vI (0 : Int), vI (0 : Int), Value.slice none 0 0, Value.slice none 0 0]) rfl rfl rfl s_25 (fun u hu => by simp only [List.mem_cons, List.not_mem_nil, or_false] at hu; rcases hu with rfl | rfl | rfl | rfl | rfl <;> first | rfl) (by repeat (first | assumption | constructor)) bx450 (of_decide_eq_true rfl) s453 fun w459 s460 m461 k462 bx463 => (?_)))))))
   refine wl_s (o_assign (vI (gCheck (⟨(0 : Int), threshold, wait, l, []⟩ : Circle))) rfl (wl_nil (thenQ_n (?_))))
   refine cw_ret (thenQ_r (end_r rfl (resv2 rfl (rv_A (vs := [vI (0 : Int), vI (0 : Int), vI (0 : Int), Value.slice none 0 0, Value.slice none 0 0]) rfl Try.underlying25 rfl s_25 rfl bx463 rfl) (rv_t rfl rfl)) (?_)))
   have e464 : ((gNew l threshold wait).1) = (⟨(0 : Int), (0 : Int), (0 : Int), [], []⟩ : Circle) := by first | exact congrArg (fun p => p.1) (gNew_bad (by assumption)) | exact congrArg (fun p => p.1) (gNew_ok (by assumption))
   have e465 : ((gNew l threshold wait).2) = (gCheck (⟨(0 : Int), threshold, wait, l, []⟩ : Circle)) := by first | exact congrArg (fun p => p.2) (gNew_bad (by assumption)) | exact congrArg (fun p => p.2) (gNew_ok (by assumption))
   exact ⟨_, rfl, s460.keep, by rw [e464, e465]; exact ⟨[vI (0 : Int), vI (0 : Int), vI (0 : Int), Value.slice none 0 0, Value.slice none 0 0], rfl, Enc.out (B := B440) ⟨.slice none 0 0, .slice none 0 0, rfl, (RdL.nil _ _ _), (RdL.nil _ _ _)⟩⟩⟩
  ·have hp466 : gCheck (⟨(0 : Int), threshold, wait, l, []⟩ : Circle) = (0 : Int) := by first | simpa using hc457 | (have e := hc457; simp at e; omega)
   refine cw_skip (thenQ_n (?_))
   refine cw_seq (?_)
   refine cw_region (by kernel_rfl) (wl_s (o_loadBxA (vs := [vI (0 : Int), vI threshold, vI wait, v433, Value.slice none 0 0]) Try.underlying25 rfl s_25 rfl bx450 rfl (wl_n (o_store (vs := [vI (0 : Int), vI threshold, vI wait, v433, Value.slice none 0 0]) (.agg #[vI (0 : Int), vI threshold, vI wait, v433, Value.slice none 0 0]) rfl rfl rfl s_25 (fun u hu => by simp only [List.mem_cons, List.not_mem_nil, or_false] at hu; rcases hu with rfl | rfl | rfl | rfl | rfl <;> first | rfl | exact hl443.oneCell) (by repeat (first | assumption | constructor)) bx450 (of_decide_eq_true rfl) s453 fun w467 s468 m469 k470 bx471 => (?_)))))
   have hl443 := hl443.mv m469
   refine wl_s (o_assign (vI (0 : Int)) rfl (wl_nil (thenQ_n (?_))))
   refine cw_ret (end_r rfl (resv2 rfl (rv_A (vs := [vI (0 : Int), vI threshold, vI wait, v433, Value.slice none 0 0]) rfl Try.underlying25 rfl s_25 rfl bx471 rfl) (rv_t rfl rfl)) (?_))
   have e472 : ((gNew l threshold wait).1) = (⟨(0 : Int), threshold, wait, l, []⟩ : Circle) := by first | exact congrArg (fun p => p.1) (gNew_bad (by assumption)) | exact congrArg (fun p => p.1) (gNew_ok (by assumption))
   have e473 : ((gNew l threshold wait).2) = (0 : Int) := by first | exact congrArg (fun p => p.2) (gNew_bad (by assumption)) | exact congrArg (fun p => p.2) (gNew_ok (by assumption))
   exact ⟨_, rfl, s468.keep, by rw [e472, e473]; exact ⟨[vI (0 : Int), vI threshold, vI wait, v433, Value.slice none 0 0], rfl, Enc.out (B := B440) ⟨_, .slice none 0 0, rfl, hl443, (RdL.nil _ _ _)⟩⟩⟩
set_option maxHeartbeats 4000000 in
set_option maxRecDepth 100000 in
theorem c_ask {O : List Nat} (c_cs : List Value) (c : Circle) (day : Int) (w : World) (h_c : Enc.circle.rd w O c_cs c) (hO : ∀ b ∈ O, b < w.heap.size) : CallsK Try.prog 13 [.agg c_cs.toArray, vI day] w (fun v w' => ∃ (x0 : List Value), v = .tuple #[.agg x0.toArray, vI ((gAsk c day).2.1), vI ((gAsk c day).2.2)] ∧ Enc.circle.rd w' (O) x0 ((gAsk c day).1)) :=  by
 have h_c : Enc.circle.rd w ([] ++ O) c_cs c := h_c
 have s0 : St w O w [] := St.start hO
 refine callsK_of 55 Try.func13 rfl rfl (of_decide_eq_true rfl) (fun F0 => ?_)
 refine cw_seq (?_)
 refine cw_region (by kernel_rfl) (wl_s (o_boxR (E := Enc.circle) (Value.agg c_cs.toArray) (c_cs) c rfl rfl h_c s0 fun a474 w475 s476 m477 k478 hp479 => (?_)))
 refine wl_s (o_alloc [vI (0 : Int), vI (0 : Int), vI (0 : Int), Value.slice none 0 0, Value.slice none 0 0] z_25 rfl s476 fun b480 w481 e486 s482 m483 k484 bx485 => (?_))
 clear e486
 have hp479 := hp479.mv m483
 refine wl_s (o_assign (vI (0 : Int)) rfl (wl_s (o_assign (vI (0 : Int)) rfl (wl_nil (thenQ_n (?_))))))
 refine cw_seq (?_)
 refine cw_seq (?_)
 refine cw_region (by kernel_rfl) (wl_s (o_loadS Try.underlying25 rfl s_25 rfl hp479 fun cs487 hs488 => (wl_s (o_callK (vs := [Value.agg cs487.toArray]) enter_16 (c_check (O := (b480 :: []) ++ O) cs487 c w481 hs488 s482.lt) rfl s482 fun v489 w490 s491 m492 k493 r494 => (?_)))))
 obtain rfl := r494
 have hp479 := hp479.mv m492
 have bx485 := bx485.keep k493 (by simp)
 refine wl_s (o_assign (vI (gCheck c)) rfl (wl_nil (thenQ_n (?_))))
 refine cw_seq (?_)
 refine cw_region (by kernel_rfl) (wl_s (o_move (vI (gCheck c)) rfl (wl_s (o_neq .i64 (gCheck c) (0 : Int) rfl rfl (wl_nil (thenQ_n (?_)))))))
 refine cw_cond ((gCheck c) != (0 : Int)) rfl rfl (fun hc495 => ?_) (fun hc495 => ?_)
 ·have hp496 : gCheck c ≠ (0 : Int) := by first | simpa using hc495 | (have e := hc495; simp at e; omega)
  refine cw_seq (?_)
  refine cw_region (by kernel_rfl) (wl_s (o_loadBxA (vs := [vI (0 : Int), vI (0 : Int), vI (0 : Int), Value.slice none 0 0, Value.slice none 0 0]) Try.underlying25 rfl s_25 rfl bx485 rfl (wl_s (o_move (vI (gCheck c)) rfl (wl_n (o_store (vs := [vI (0 : Int), vI (0 : Int), vI (0 : Int), Value.slice none 0 0, Value.slice none 0 0]) (.agg #[vI (0 : Int), vI (0 : Int), vI (0 : Int), Value.slice none 0 0, Value.slice none 0 0]) rfl rfl rfl s_25 (fun u hu => by simp only [List.mem_cons, List.not_mem_nil, or_false] at hu; rcases hu with rfl | rfl | rfl | rfl | rfl <;> first | rfl) (by repeat (first | assumption | constructor)) bx485 (of_decide_eq_true rfl) s491 fun w497 s498 m499 k500 bx501 => (?_)))))))
  refine wl_s (o_assign (vI (0 : Int)) rfl (wl_s (o_assign (vI (gCheck c)) rfl (wl_nil (thenQ_n (?_))))))
  refine cw_ret (thenQ_r (end_r rfl (resv3 rfl (rv_A (vs := [vI (0 : Int), vI (0 : Int), vI (0 : Int), Value.slice none 0 0, Value.slice none 0 0]) rfl Try.underlying25 rfl s_25 rfl bx501 rfl) (rv_t rfl rfl) (rv_t rfl rfl)) (?_)))
  have e502 : ((gAsk c day).1) = (⟨(0 : Int), (0 : Int), (0 : Int), [], []⟩ : Circle) := by first | exact congrArg (fun p => p.1) (gAsk_bad (by assumption)) | exact congrArg (fun p => p.1) (gAsk_day (by assumption) (by rw [hlr]; assumption)) | exact congrArg (fun p => p.1) (gAsk_open (by assumption) (by rw [hlr]; assumption) (by rw [hlr]; assumption)) | exact congrArg (fun p => p.1) (gAsk_many (by assumption) (by rw [hlr]; assumption) (by rw [hlr]; first | assumption | decide) (by assumption)) | exact congrArg (fun p => p.1) (gAsk_ok (by assumption) (by rw [hlr]; assumption) (by rw [hlr]; first | assumption | decide) (by assumption))
  have e503 : ((gAsk c day).2.1) = (0 : Int) := by first | exact congrArg (fun p => p.2.1) (gAsk_bad (by assumption)) | exact congrArg (fun p => p.2.1) (gAsk_day (by assumption) (by rw [hlr]; assumption)) | exact congrArg (fun p => p.2.1) (gAsk_open (by assumption) (by rw [hlr]; assumption) (by rw [hlr]; assumption)) | exact congrArg (fun p => p.2.1) (gAsk_many (by assumption) (by rw [hlr]; assumption) (by rw [hlr]; first | assumption | decide) (by assumption)) | exact congrArg (fun p => p.2.1) (gAsk_ok (by assumption) (by rw [hlr]; assumption) (by rw [hlr]; first | assumption | decide) (by assumption))
  have e504 : ((gAsk c day).2.2) = (gCheck c) := by first | exact congrArg (fun p => p.2.2) (gAsk_bad (by assumption)) | exact congrArg (fun p => p.2.2) (gAsk_day (by assumption) (by rw [hlr]; assumption)) | exact congrArg (fun p => p.2.2) (gAsk_open (by assumption) (by rw [hlr]; assumption) (by rw [hlr]; assumption)) | exact congrArg (fun p => p.2.2) (gAsk_many (by assumption) (by rw [hlr]; assumption) (by rw [hlr]; first | assumption | decide) (by assumption)) | exact congrArg (fun p => p.2.2) (gAsk_ok (by assumption) (by rw [hlr]; assumption) (by rw [hlr]; first | assumption | decide) (by assumption))
  exact ⟨_, rfl, s498.keep, by rw [e502, e503, e504]; exact ⟨[vI (0 : Int), vI (0 : Int), vI (0 : Int), Value.slice none 0 0, Value.slice none 0 0], rfl, Enc.out (B := (b480 :: [])) ⟨.slice none 0 0, .slice none 0 0, rfl, (RdL.nil _ _ _), (RdL.nil _ _ _)⟩⟩⟩
 ·have hp505 : gCheck c = (0 : Int) := by first | simpa using hc495 | (have e := hc495; simp at e; omega)
  have hrl := recs_le hp505
  refine cw_skip (thenQ_n (?_))
  refine cw_seq (?_)
  refine cw_region (by kernel_rfl) (wl_s (o_fieldR 4 f_25_4 (c.recs) rfl hp479 (fun _ _ _ h => Enc_circle_f4 h) fun a506 hp507 => (wl_s (o_loadL Try.underlying23 rfl rfl hp507 fun v508 hl509 => (?_)))))
  have := hl509.len_le
  refine wl_s (o_lenR Try.underlying23 rfl hl509 (wl_s (o_assign (vI (c.recs.length : Int)) rfl (wl_nil (thenQ_n (?_))))))
  refine cw_seq (?_)
  refine cw_region (by kernel_rfl) (wl_s (o_build (l := [(2, .const (vI (1 : Int)))]) pl_47 z_47 rfl [(2, vI (1 : Int), [vI (1 : Int)])] [vI (0 : Int), vI (0 : Int), vI (1 : Int), Value.slice none 0 0, Value.slice none 0 0] rfl ⟨_, rfl, rfl, (of_decide_eq_true rfl), rfl⟩ (wl_s (o_alloc [vI (0 : Int), vI (0 : Int), vI (0 : Int), Value.slice none 0 0, Value.slice none 0 0] z_47 rfl s491 fun b510 w511 e516 s512 m513 k514 bx515 => (?_)))))
  have ne517 : b480 ≠ b510 := by have := bx485.lt; omega
  clear e516
  have hp479 := hp479.mv m513
  have bx485 := bx485.keep k514 (by simp)
  refine wl_n (o_store (vs := [vI (0 : Int), vI (0 : Int), vI (1 : Int), Value.slice none 0 0, Value.slice none 0 0]) (.agg #[vI (0 : Int), vI (0 : Int), vI (1 : Int), Value.slice none 0 0, Value.slice none 0 0]) rfl rfl rfl s_47 (fun u hu => by simp only [List.mem_cons, List.not_mem_nil, or_false] at hu; rcases hu with rfl | rfl | rfl | rfl | rfl <;> first | rfl) (by repeat (first | assumption | constructor)) bx515 (of_decide_eq_true rfl) s512 fun w518 s519 m520 k521 bx522 => (?_))
  have hp479 := hp479.mv m520
  have bx485 := bx485.keep k521 (nin1 ne517)
  refine wl_nil (thenQ_n (?_))
  refine cw_seq (?_)
  refine cw_seq (?_)
  refine cw_region (by kernel_rfl) (wl_s (o_move (vI (c.recs.length : Int)) rfl (wl_s (o_gtr .i64 (c.recs.length : Int) (0 : Int) rfl rfl (wl_nil (thenQ_n (?_)))))))
  refine cw_cond (decide ((0 : Int) < (c.recs.length : Int))) rfl rfl (fun hc523 => ?_) (fun hc523 => ?_)
  ·have hp524 : (0 : Int) < (c.recs.length : Int) := by first | simpa using hc523 | (have e := hc523; simp at e; omega)
   have hlr : lastR c = c.recs[c.recs.length - 1]! := if_pos (by omega)
   refine cw_region (by kernel_rfl) (wl_s (o_fieldR 4 f_25_4 (c.recs) rfl hp479 (fun _ _ _ h => Enc_circle_f4 h) fun a525 hp526 => (wl_s (o_loadL Try.underlying23 rfl rfl hp526 fun v527 hl528 => (?_)))))
   have := hl528.len_le
   refine wl_s (o_move (vI (c.recs.length : Int)) rfl (wl_s (o_sub .i64 (c.recs.length : Int) (1 : Int) (((c.recs.length - 1 : Nat) : Int)) rfl rfl (w64 (by omega) (by omega)) (wl_s (o_idx Try.underlying23 s_47 .i64 ((c.recs.length - 1 : Nat) : Int) (c.recs.length - 1) rfl rfl rfl hl528 (by omega) fun a529 hp530 => (wl_s (o_loadS Try.underlying47 rfl s_47 rfl hp530 fun cs531 hs532 => (?_))))))))
   obtain ⟨d538, d540, rfl, hd539, hd541⟩ := hs532
   have := hd539.len_le
   have := hd541.len_le
   refine wl_n (o_store (vs := [vI ((c.recs[c.recs.length - 1]!).no), vI ((c.recs[c.recs.length - 1]!).asked), vI ((c.recs[c.recs.length - 1]!).state), d538, d540]) (.agg #[vI ((c.recs[c.recs.length - 1]!).no), vI ((c.recs[c.recs.length - 1]!).asked), vI ((c.recs[c.recs.length - 1]!).state), d538, d540]) rfl rfl rfl s_47 (fun u hu => by simp only [List.mem_cons, List.not_mem_nil, or_false] at hu; rcases hu with rfl | rfl | rfl | rfl | rfl <;> first | rfl | exact hd539.oneCell | exact hd541.oneCell) (by repeat (first | assumption | constructor)) bx522 (of_decide_eq_true rfl) s519 fun w533 s534 m535 k536 bx537 => (?_))
   have hp479 := hp479.mv m535
   have bx485 := bx485.keep k536 (nin1 ne517)
   refine wl_nil (thenQ_n (?_))
   refine cw_seq (?_)
   refine cw_block (?_)
   refine cw_seq (?_)
   refine cw_region (by kernel_rfl) (wl_s (o_move (vI day) rfl (wl_s (o_fieldL 1 f_47_1 rfl (wl_s (o_loadBx Try.underlying3 rfl (vI ((c.recs[c.recs.length - 1]!).asked)) rfl bx537 rfl (wl_s (o_callK (vs := [vI day, vI ((c.recs[c.recs.length - 1]!).asked)]) enter_30 (c_isDay (O := (b510 :: (b480 :: [])) ++ O) day ((c.recs[c.recs.length - 1]!).asked) w533 s534.lt) rfl s534 fun v542 w543 s544 m545 k546 r547 => (?_)))))))))
   obtain rfl := r547
   have hp479 := hp479.mv m545
   have bx485 := bx485.keep k546 (by simp)
   have bx537 := bx537.keep k546 (by simp)
   refine wl_s (o_not (isDayM day ((c.recs[c.recs.length - 1]!).asked)) rfl (wl_s (o_assign (Value.bool (!(isDayM day ((c.recs[c.recs.length - 1]!).asked)))) rfl (wl_nil (thenQ_n (?_))))))
   refine cw_cond (!(isDayM day ((c.recs[c.recs.length - 1]!).asked))) rfl rfl (fun hc548 => ?_) (fun hc548 => ?_)
   ·have hp549 : (isDayM day ((c.recs[c.recs.length - 1]!).asked)) = false := by first | simpa using hc548 | (have e := hc548; simp at e; omega)
    refine cw_seq (?_)
    refine cw_region (by kernel_rfl) (wl_s (o_loadBxA (vs := [vI (0 : Int), vI (0 : Int), vI (0 : Int), Value.slice none 0 0, Value.slice none 0 0]) Try.underlying25 rfl s_25 rfl bx485 rfl (wl_n (o_store (vs := [vI (0 : Int), vI (0 : Int), vI (0 : Int), Value.slice none 0 0, Value.slice none 0 0]) (.agg #[vI (0 : Int), vI (0 : Int), vI (0 : Int), Value.slice none 0 0, Value.slice none 0 0]) rfl rfl rfl s_25 (fun u hu => by simp only [List.mem_cons, List.not_mem_nil, or_false] at hu; rcases hu with rfl | rfl | rfl | rfl | rfl <;> first | rfl) (by repeat (first | assumption | constructor)) bx485 (of_decide_eq_true rfl) s544 fun w550 s551 m552 k553 bx554 => (?_)))))
    refine wl_s (o_assign (vI (0 : Int)) rfl (wl_s (o_assign (vI (1 : Int)) rfl (wl_nil (thenQ_n (?_))))))
    refine cw_ret (blockQ_r (thenQ_r (end_r rfl (resv3 rfl (rv_A (vs := [vI (0 : Int), vI (0 : Int), vI (0 : Int), Value.slice none 0 0, Value.slice none 0 0]) rfl Try.underlying25 rfl s_25 rfl bx554 rfl) (rv_t rfl rfl) (rv_t rfl rfl)) (?_))))
    have e555 : ((gAsk c day).1) = (⟨(0 : Int), (0 : Int), (0 : Int), [], []⟩ : Circle) := by first | exact congrArg (fun p => p.1) (gAsk_bad (by assumption)) | exact congrArg (fun p => p.1) (gAsk_day (by assumption) (by rw [hlr]; assumption)) | exact congrArg (fun p => p.1) (gAsk_open (by assumption) (by rw [hlr]; assumption) (by rw [hlr]; assumption)) | exact congrArg (fun p => p.1) (gAsk_many (by assumption) (by rw [hlr]; assumption) (by rw [hlr]; first | assumption | decide) (by assumption)) | exact congrArg (fun p => p.1) (gAsk_ok (by assumption) (by rw [hlr]; assumption) (by rw [hlr]; first | assumption | decide) (by assumption))
    have e556 : ((gAsk c day).2.1) = (0 : Int) := by first | exact congrArg (fun p => p.2.1) (gAsk_bad (by assumption)) | exact congrArg (fun p => p.2.1) (gAsk_day (by assumption) (by rw [hlr]; assumption)) | exact congrArg (fun p => p.2.1) (gAsk_open (by assumption) (by rw [hlr]; assumption) (by rw [hlr]; assumption)) | exact congrArg (fun p => p.2.1) (gAsk_many (by assumption) (by rw [hlr]; assumption) (by rw [hlr]; first | assumption | decide) (by assumption)) | exact congrArg (fun p => p.2.1) (gAsk_ok (by assumption) (by rw [hlr]; assumption) (by rw [hlr]; first | assumption | decide) (by assumption))
    have e557 : ((gAsk c day).2.2) = (1 : Int) := by first | exact congrArg (fun p => p.2.2) (gAsk_bad (by assumption)) | exact congrArg (fun p => p.2.2) (gAsk_day (by assumption) (by rw [hlr]; assumption)) | exact congrArg (fun p => p.2.2) (gAsk_open (by assumption) (by rw [hlr]; assumption) (by rw [hlr]; assumption)) | exact congrArg (fun p => p.2.2) (gAsk_many (by assumption) (by rw [hlr]; assumption) (by rw [hlr]; first | assumption | decide) (by assumption)) | exact congrArg (fun p => p.2.2) (gAsk_ok (by assumption) (by rw [hlr]; assumption) (by rw [hlr]; first | assumption | decide) (by assumption))
    exact ⟨_, rfl, s551.keep, by rw [e555, e556, e557]; exact ⟨[vI (0 : Int), vI (0 : Int), vI (0 : Int), Value.slice none 0 0, Value.slice none 0 0], rfl, Enc.out (B := (b510 :: (b480 :: []))) ⟨.slice none 0 0, .slice none 0 0, rfl, (RdL.nil _ _ _), (RdL.nil _ _ _)⟩⟩⟩
   ·have hp558 : (isDayM day ((c.recs[c.recs.length - 1]!).asked)) = true := by first | simpa using hc548 | (have e := hc548; simp at e; omega)
    refine cw_seq (?_)
    refine cw_region (by kernel_rfl) (wl_s (o_fieldL 2 f_47_2 rfl (wl_s (o_loadBx Try.underlying3 rfl (vI ((c.recs[c.recs.length - 1]!).state)) rfl bx537 rfl (wl_s (o_eql .i64 ((c.recs[c.recs.length - 1]!).state) (0 : Int) rfl rfl (wl_s (o_assign (Value.bool (((c.recs[c.recs.length - 1]!).state) == (0 : Int))) rfl (wl_nil (thenQ_n (?_)))))))))))
    refine cw_cond (((c.recs[c.recs.length - 1]!).state) == (0 : Int)) rfl rfl (fun hc559 => ?_) (fun hc559 => ?_)
    ·have hp560 : (c.recs[c.recs.length - 1]!).state = (0 : Int) := by first | simpa using hc559 | (have e := hc559; simp at e; omega)
     refine cw_seq (?_)
     refine cw_region (by kernel_rfl) (wl_s (o_loadBxA (vs := [vI (0 : Int), vI (0 : Int), vI (0 : Int), Value.slice none 0 0, Value.slice none 0 0]) Try.underlying25 rfl s_25 rfl bx485 rfl (wl_n (o_store (vs := [vI (0 : Int), vI (0 : Int), vI (0 : Int), Value.slice none 0 0, Value.slice none 0 0]) (.agg #[vI (0 : Int), vI (0 : Int), vI (0 : Int), Value.slice none 0 0, Value.slice none 0 0]) rfl rfl rfl s_25 (fun u hu => by simp only [List.mem_cons, List.not_mem_nil, or_false] at hu; rcases hu with rfl | rfl | rfl | rfl | rfl <;> first | rfl) (by repeat (first | assumption | constructor)) bx485 (of_decide_eq_true rfl) s544 fun w561 s562 m563 k564 bx565 => (?_)))))
     refine wl_s (o_assign (vI (0 : Int)) rfl (wl_s (o_assign (vI (451 : Int)) rfl (wl_nil (thenQ_n (?_))))))
     refine cw_ret (blockQ_r (thenQ_r (end_r rfl (resv3 rfl (rv_A (vs := [vI (0 : Int), vI (0 : Int), vI (0 : Int), Value.slice none 0 0, Value.slice none 0 0]) rfl Try.underlying25 rfl s_25 rfl bx565 rfl) (rv_t rfl rfl) (rv_t rfl rfl)) (?_))))
     have e566 : ((gAsk c day).1) = (⟨(0 : Int), (0 : Int), (0 : Int), [], []⟩ : Circle) := by first | exact congrArg (fun p => p.1) (gAsk_bad (by assumption)) | exact congrArg (fun p => p.1) (gAsk_day (by assumption) (by rw [hlr]; assumption)) | exact congrArg (fun p => p.1) (gAsk_open (by assumption) (by rw [hlr]; assumption) (by rw [hlr]; assumption)) | exact congrArg (fun p => p.1) (gAsk_many (by assumption) (by rw [hlr]; assumption) (by rw [hlr]; first | assumption | decide) (by assumption)) | exact congrArg (fun p => p.1) (gAsk_ok (by assumption) (by rw [hlr]; assumption) (by rw [hlr]; first | assumption | decide) (by assumption))
     have e567 : ((gAsk c day).2.1) = (0 : Int) := by first | exact congrArg (fun p => p.2.1) (gAsk_bad (by assumption)) | exact congrArg (fun p => p.2.1) (gAsk_day (by assumption) (by rw [hlr]; assumption)) | exact congrArg (fun p => p.2.1) (gAsk_open (by assumption) (by rw [hlr]; assumption) (by rw [hlr]; assumption)) | exact congrArg (fun p => p.2.1) (gAsk_many (by assumption) (by rw [hlr]; assumption) (by rw [hlr]; first | assumption | decide) (by assumption)) | exact congrArg (fun p => p.2.1) (gAsk_ok (by assumption) (by rw [hlr]; assumption) (by rw [hlr]; first | assumption | decide) (by assumption))
     have e568 : ((gAsk c day).2.2) = (451 : Int) := by first | exact congrArg (fun p => p.2.2) (gAsk_bad (by assumption)) | exact congrArg (fun p => p.2.2) (gAsk_day (by assumption) (by rw [hlr]; assumption)) | exact congrArg (fun p => p.2.2) (gAsk_open (by assumption) (by rw [hlr]; assumption) (by rw [hlr]; assumption)) | exact congrArg (fun p => p.2.2) (gAsk_many (by assumption) (by rw [hlr]; assumption) (by rw [hlr]; first | assumption | decide) (by assumption)) | exact congrArg (fun p => p.2.2) (gAsk_ok (by assumption) (by rw [hlr]; assumption) (by rw [hlr]; first | assumption | decide) (by assumption))
     exact ⟨_, rfl, s562.keep, by rw [e566, e567, e568]; exact ⟨[vI (0 : Int), vI (0 : Int), vI (0 : Int), Value.slice none 0 0, Value.slice none 0 0], rfl, Enc.out (B := (b510 :: (b480 :: []))) ⟨.slice none 0 0, .slice none 0 0, rfl, (RdL.nil _ _ _), (RdL.nil _ _ _)⟩⟩⟩
    ·have hp569 : (c.recs[c.recs.length - 1]!).state ≠ (0 : Int) := by first | simpa using hc559 | (have e := hc559; simp at e; omega)
     refine cw_seq (?_)
     refine cw_region (by kernel_rfl) (wl_s (o_move (vI (c.recs.length : Int)) rfl (wl_s (o_eql .i64 (c.recs.length : Int) (1024 : Int) rfl rfl (wl_s (o_assign (Value.bool ((c.recs.length : Int) == (1024 : Int))) rfl (wl_nil (thenQ_n (?_)))))))))
     refine cw_cond ((c.recs.length : Int) == (1024 : Int)) rfl rfl (fun hc570 => ?_) (fun hc570 => ?_)
     ·have hp571 : (c.recs.length : Int) = (1024 : Int) := by first | simpa using hc570 | (have e := hc570; simp at e; omega)
      refine cw_seq (?_)
      refine cw_region (by kernel_rfl) (wl_s (o_loadBxA (vs := [vI (0 : Int), vI (0 : Int), vI (0 : Int), Value.slice none 0 0, Value.slice none 0 0]) Try.underlying25 rfl s_25 rfl bx485 rfl (wl_n (o_store (vs := [vI (0 : Int), vI (0 : Int), vI (0 : Int), Value.slice none 0 0, Value.slice none 0 0]) (.agg #[vI (0 : Int), vI (0 : Int), vI (0 : Int), Value.slice none 0 0, Value.slice none 0 0]) rfl rfl rfl s_25 (fun u hu => by simp only [List.mem_cons, List.not_mem_nil, or_false] at hu; rcases hu with rfl | rfl | rfl | rfl | rfl <;> first | rfl) (by repeat (first | assumption | constructor)) bx485 (of_decide_eq_true rfl) s544 fun w572 s573 m574 k575 bx576 => (?_)))))
      refine wl_s (o_assign (vI (0 : Int)) rfl (wl_s (o_assign (vI (2 : Int)) rfl (wl_nil (thenQ_n (?_))))))
      refine cw_ret (blockQ_r (thenQ_r (end_r rfl (resv3 rfl (rv_A (vs := [vI (0 : Int), vI (0 : Int), vI (0 : Int), Value.slice none 0 0, Value.slice none 0 0]) rfl Try.underlying25 rfl s_25 rfl bx576 rfl) (rv_t rfl rfl) (rv_t rfl rfl)) (?_))))
      have e577 : ((gAsk c day).1) = (⟨(0 : Int), (0 : Int), (0 : Int), [], []⟩ : Circle) := by first | exact congrArg (fun p => p.1) (gAsk_bad (by assumption)) | exact congrArg (fun p => p.1) (gAsk_day (by assumption) (by rw [hlr]; assumption)) | exact congrArg (fun p => p.1) (gAsk_open (by assumption) (by rw [hlr]; assumption) (by rw [hlr]; assumption)) | exact congrArg (fun p => p.1) (gAsk_many (by assumption) (by rw [hlr]; assumption) (by rw [hlr]; first | assumption | decide) (by assumption)) | exact congrArg (fun p => p.1) (gAsk_ok (by assumption) (by rw [hlr]; assumption) (by rw [hlr]; first | assumption | decide) (by assumption))
      have e578 : ((gAsk c day).2.1) = (0 : Int) := by first | exact congrArg (fun p => p.2.1) (gAsk_bad (by assumption)) | exact congrArg (fun p => p.2.1) (gAsk_day (by assumption) (by rw [hlr]; assumption)) | exact congrArg (fun p => p.2.1) (gAsk_open (by assumption) (by rw [hlr]; assumption) (by rw [hlr]; assumption)) | exact congrArg (fun p => p.2.1) (gAsk_many (by assumption) (by rw [hlr]; assumption) (by rw [hlr]; first | assumption | decide) (by assumption)) | exact congrArg (fun p => p.2.1) (gAsk_ok (by assumption) (by rw [hlr]; assumption) (by rw [hlr]; first | assumption | decide) (by assumption))
      have e579 : ((gAsk c day).2.2) = (2 : Int) := by first | exact congrArg (fun p => p.2.2) (gAsk_bad (by assumption)) | exact congrArg (fun p => p.2.2) (gAsk_day (by assumption) (by rw [hlr]; assumption)) | exact congrArg (fun p => p.2.2) (gAsk_open (by assumption) (by rw [hlr]; assumption) (by rw [hlr]; assumption)) | exact congrArg (fun p => p.2.2) (gAsk_many (by assumption) (by rw [hlr]; assumption) (by rw [hlr]; first | assumption | decide) (by assumption)) | exact congrArg (fun p => p.2.2) (gAsk_ok (by assumption) (by rw [hlr]; assumption) (by rw [hlr]; first | assumption | decide) (by assumption))
      exact ⟨_, rfl, s573.keep, by rw [e577, e578, e579]; exact ⟨[vI (0 : Int), vI (0 : Int), vI (0 : Int), Value.slice none 0 0, Value.slice none 0 0], rfl, Enc.out (B := (b510 :: (b480 :: []))) ⟨.slice none 0 0, .slice none 0 0, rfl, (RdL.nil _ _ _), (RdL.nil _ _ _)⟩⟩⟩
     ·have hp580 : (c.recs.length : Int) ≠ (1024 : Int) := by first | simpa using hc570 | (have e := hc570; simp at e; omega)
      refine cw_skip (blockQ_n (thenQ_n (?_)))
      refine cw_seq (?_)
      refine cw_region (by kernel_rfl) (wl_s (o_loadS Try.underlying25 rfl s_25 rfl hp479 fun cs581 hs582 => (?_)))
      obtain ⟨d588, d590, rfl, hd589, hd591⟩ := hs582
      have := hd589.len_le
      have := hd591.len_le
      refine wl_n (o_store (vs := [vI c.epoch, vI c.threshold, vI c.wait, d588, d590]) (.agg #[vI c.epoch, vI c.threshold, vI c.wait, d588, d590]) rfl rfl rfl s_25 (fun u hu => by simp only [List.mem_cons, List.not_mem_nil, or_false] at hu; rcases hu with rfl | rfl | rfl | rfl | rfl <;> first | rfl | exact hd589.oneCell | exact hd591.oneCell) (by repeat (first | assumption | constructor)) bx485 (of_decide_eq_true rfl) s544 fun w583 s584 m585 k586 bx587 => (?_))
      have hp479 := hp479.mv m585
      have hd589 := hd589.mv m585
      have bx537 := bx537.keep k586 (nin1 (Ne.symm ne517))
      refine wl_nil (thenQ_n (?_))
      refine cw_seq (?_)
      refine cw_region (by kernel_rfl) (wl_s (o_fieldR 4 f_25_4 (c.recs) rfl hp479 (fun _ _ _ h => Enc_circle_f4 h) fun a592 hp593 => (wl_s (o_loadL Try.underlying23 rfl rfl hp593 fun v594 hl595 => (?_)))))
      have := hl595.len_le
      refine wl_s (o_call [v594] _ enter_31 rfl (calls_of_cw 8 Try.func31 rfl rfl (of_decide_eq_true rfl) (fun F596 => ?_)) (fun _ _ h => h))
      refine cw_seq (?_)
      refine cw_region (by kernel_rfl) (wl_s (o_assign (Value.slice none 0 0) rfl (wl_nil (thenQ_n (?_)))))
      refine cw_seq (?_)
      refine cw_seq (?_)
      refine cw_region (by kernel_rfl) (wl_s (o_move (v594) rfl (wl_s (o_eqlNilR Try.underlying23 rfl rfl hl595 fun bn597 hbn598 => (?_)))))
      refine wl_nil (thenQ_n (?_))
      refine cw_cond (bn597) rfl rfl (fun hc599 => ?_) (fun hc599 => ?_)
      ·have hp600 : bn597 = true := by first | simpa using hc599 | (have e := hc599; simp at e; omega)
       refine cw_seq (?_)
       refine cw_region (by kernel_rfl) (wl_s (o_assign (Value.slice none 0 0) rfl (wl_nil (thenQ_n (?_)))))
       refine cw_ret (thenQ_r (end_r rfl (res1 rfl rfl rfl) (?_)))
       have hnl602 : c.recs = [] := hbn598 (by first | assumption | simp_all)
       have hl601 : RdL Enc.recovery w583 ((b510 :: (b480 :: [])) ++ O) (.slice none 0 0) (c.recs) := by rw [hnl602]; exact RdL.nil _ _ _
       refine Exists.intro _ (And.intro rfl (?_))
       refine wl_s (o_move (vI (c.recs.length : Int)) rfl (wl_s (o_move (vI day) rfl (wl_s (o_build (l := [(0, .tmp 47), (1, .tmp 48), (2, .const (vI (0 : Int)))]) pl_47 z_47 rfl [(0, vI (c.recs.length : Int), [vI (c.recs.length : Int)]), (1, vI day, [vI day]), (2, vI (0 : Int), [vI (0 : Int)])] [vI (c.recs.length : Int), vI day, vI (0 : Int), Value.slice none 0 0, Value.slice none 0 0] rfl ⟨_, rfl, rfl, (of_decide_eq_true rfl), ⟨_, rfl, rfl, (of_decide_eq_true rfl), ⟨_, rfl, rfl, (of_decide_eq_true rfl), rfl⟩⟩⟩ (wl_s (o_lit (E := Enc.recovery) (xs := [.tmp 49]) Try.underlying23 s_47 z_47 (by decide) [.agg #[vI (c.recs.length : Int), vI day, vI (0 : Int), Value.slice none 0 0, Value.slice none 0 0]] [[vI (c.recs.length : Int), vI day, vI (0 : Int), Value.slice none 0 0, Value.slice none 0 0]] [(⟨(c.recs.length : Int), day, (0 : Int), [], []⟩ : Recovery)] rfl rfl rfl (Parts.cons rfl ⟨.slice none 0 0, .slice none 0 0, rfl, (RdL.nil _ _ _), (RdL.nil _ _ _)⟩ (Parts.nil _ _ _)) (of_decide_eq_true rfl) s584 fun v607 w603 s604 m605 k606 hl608 => (?_))))))))
       have hd589 := hd589.mv m605
       have bx587 := bx587.keep k606 (by simp)
       have bx537 := bx537.keep k606 (by simp)
       have := hl608.len_le
       refine wl_s (o_append (v := .slice none 0 0) (E := Enc.recovery) (l := c.recs) (m := [(⟨(c.recs.length : Int), day, (0 : Int), [], []⟩ : Recovery)]) Try.underlying23 i_47 rfl (by decide) rfl rfl (by rw [hnl602]; exact Own.nil Enc.recovery 47 _ _ _) hl608 (fun _ hb => .inl hb) (by intro b hb; simp [Value.ownBlock] at hb) (by simp; omega) (by simp [maxLen]; omega) s604 fun v613 w609 B615 hB616 at617 sub618 s610 m611 k612 ho614 => (?_))
       have ne619 : ∀ b, v613.ownBlock = some b → b ≠ b480 := fun b hb => by rcases at617 with e1 | e1 <;> rw [e1] at hb <;> first | (simp [Value.ownBlock] at hb; done) | (cases hb; have := bx587.lt; omega) | (exact (fun b hb => by first | (simp [Value.ownBlock] at hb; done) | (intro e; simp_all; done)) b hb)
       have ne620 : ∀ b, v613.ownBlock = some b → b ≠ b510 := fun b hb => by rcases at617 with e1 | e1 <;> rw [e1] at hb <;> first | (simp [Value.ownBlock] at hb; done) | (cases hb; have := bx537.lt; omega) | (exact (fun b hb => by first | (simp [Value.ownBlock] at hb; done) | (intro e; simp_all; done)) b hb)
       have hin_b480 : b480 ∈ B615 := sub618 b480 (by repeat (first | assumption | constructor))
       have hin_b510 : b510 ∈ B615 := sub618 b510 (by repeat (first | assumption | constructor))
       have hd589 := hd589.mv m611
       have bx587 := bx587.keep k612 (by simp only [Option.mem_toList]; first | (simp [Value.ownBlock]; done) | exact fun e => absurd rfl ((fun b hb => by first | (simp [Value.ownBlock] at hb; done) | (intro e; simp_all; done)) _ e))
       refine wl_s (o_fieldL 4 f_25_4 rfl (wl_n (o_store1 (v613) rfl rfl ho614.oneCell s_23 (by repeat (first | assumption | constructor)) bx587 (of_decide_eq_true rfl) s610 fun w621 s622 m623 k624 bx625 => (?_))))
       have hd589 := hd589.mv m623
       have ho614 := ho614.mv m623 k624 (fun b hb => nin1 (ne619 b hb))
       refine wl_nil (thenQ_n (?_))
       refine cw_seq (?_)
       refine cw_region (by kernel_rfl) (wl_s (o_loadBxA (vs := [vI c.epoch, vI c.threshold, vI c.wait, d588, v613]) Try.underlying25 rfl s_25 rfl bx625 rfl (wl_s (o_move (vI (c.recs.length : Int)) rfl (wl_n (o_store (vs := [vI c.epoch, vI c.threshold, vI c.wait, d588, v613]) (.agg #[vI c.epoch, vI c.threshold, vI c.wait, d588, v613]) rfl rfl rfl s_25 (fun u hu => by simp only [List.mem_cons, List.not_mem_nil, or_false] at hu; rcases hu with rfl | rfl | rfl | rfl | rfl <;> first | rfl | exact hd589.oneCell | exact ho614.oneCell) (by repeat (first | assumption | constructor)) bx625 (of_decide_eq_true rfl) s622 fun w626 s627 m628 k629 bx630 => (?_)))))))
       have hd589 := hd589.mv m628
       have ho614 := ho614.mv m628 k629 (fun b hb => nin1 (ne619 b hb))
       refine wl_s (o_assign (vI (c.recs.length : Int)) rfl (wl_s (o_assign (vI (0 : Int)) rfl (wl_nil (thenQ_n (?_))))))
       refine cw_ret (end_r rfl (resv3 rfl (rv_A (vs := [vI c.epoch, vI c.threshold, vI c.wait, d588, v613]) rfl Try.underlying25 rfl s_25 rfl bx630 rfl) (rv_t rfl rfl) (rv_t rfl rfl)) (?_))
       have e631 : ((gAsk c day).1) = (⟨c.epoch, c.threshold, c.wait, c.guardians, c.recs ++ ([(⟨(c.recs.length : Int), day, (0 : Int), [], []⟩ : Recovery)])⟩ : Circle) := by first | exact congrArg (fun p => p.1) (gAsk_bad (by assumption)) | exact congrArg (fun p => p.1) (gAsk_day (by assumption) (by rw [hlr]; assumption)) | exact congrArg (fun p => p.1) (gAsk_open (by assumption) (by rw [hlr]; assumption) (by rw [hlr]; assumption)) | exact congrArg (fun p => p.1) (gAsk_many (by assumption) (by rw [hlr]; assumption) (by rw [hlr]; first | assumption | decide) (by assumption)) | exact congrArg (fun p => p.1) (gAsk_ok (by assumption) (by rw [hlr]; assumption) (by rw [hlr]; first | assumption | decide) (by assumption))
       have e632 : ((gAsk c day).2.1) = (c.recs.length : Int) := by first | exact congrArg (fun p => p.2.1) (gAsk_bad (by assumption)) | exact congrArg (fun p => p.2.1) (gAsk_day (by assumption) (by rw [hlr]; assumption)) | exact congrArg (fun p => p.2.1) (gAsk_open (by assumption) (by rw [hlr]; assumption) (by rw [hlr]; assumption)) | exact congrArg (fun p => p.2.1) (gAsk_many (by assumption) (by rw [hlr]; assumption) (by rw [hlr]; first | assumption | decide) (by assumption)) | exact congrArg (fun p => p.2.1) (gAsk_ok (by assumption) (by rw [hlr]; assumption) (by rw [hlr]; first | assumption | decide) (by assumption))
       have e633 : ((gAsk c day).2.2) = (0 : Int) := by first | exact congrArg (fun p => p.2.2) (gAsk_bad (by assumption)) | exact congrArg (fun p => p.2.2) (gAsk_day (by assumption) (by rw [hlr]; assumption)) | exact congrArg (fun p => p.2.2) (gAsk_open (by assumption) (by rw [hlr]; assumption) (by rw [hlr]; assumption)) | exact congrArg (fun p => p.2.2) (gAsk_many (by assumption) (by rw [hlr]; assumption) (by rw [hlr]; first | assumption | decide) (by assumption)) | exact congrArg (fun p => p.2.2) (gAsk_ok (by assumption) (by rw [hlr]; assumption) (by rw [hlr]; first | assumption | decide) (by assumption))
       exact ⟨_, rfl, s627.keep, by rw [e631, e632, e633]; exact ⟨[vI c.epoch, vI c.threshold, vI c.wait, d588, v613], rfl, ⟨_, _, rfl, hd589.out, (ho614.pub s627)⟩⟩⟩
      ·have hp634 : bn597 = false := by first | simpa using hc599 | (have e := hc599; simp at e; omega)
       refine cw_skip (thenQ_n (?_))
       refine cw_seq (?_)
       refine cw_region (by kernel_rfl) (wl_s (o_litO (E := Enc.recovery) (xs := []) Try.underlying23 s_47 z_47 (by decide) [] [] [] rfl rfl rfl (Parts.nil _ _ _) (of_decide_eq_true rfl) s584 fun v639 b641 w635 e642 hb643 s636 m637 k638 hl640 => (?_)))
       have ne644 : ∀ b, v639.ownBlock = some b → b ≠ b480 := fun b hb => by have := bx587.lt; rw [hb643] at hb; cases hb; omega
       have ne645 : ∀ b, v639.ownBlock = some b → b ≠ b510 := fun b hb => by have := bx537.lt; rw [hb643] at hb; cases hb; omega
       have hB646 : ∀ b, v639.ownBlock = some b → b ∈ (b641 :: (b510 :: (b480 :: []))) := fun b hb => by rw [hb643] at hb; cases hb; simp
       clear e642 hb643
       have hl595 := hl595.mv m637
       have hd589 := hd589.mv m637
       have bx587 := bx587.keep k638 (by simp)
       have bx537 := bx537.keep k638 (by simp)
       refine wl_s (o_move (v594) rfl (wl_s (o_append (E := Enc.recovery) (l := []) (m := c.recs) Try.underlying23 i_47 rfl (by decide) rfl rfl hl640 hl595 (fun _ hb => .inl hb) hB646 (by simp; omega) (by simp [maxLen]; omega) s636 fun v651 w647 B653 hB654 at655 sub656 s648 m649 k650 ho652 => (?_))))
       rw [List.nil_append] at ho652
       have ne657 : ∀ b, v651.ownBlock = some b → b ≠ b480 := fun b hb => by rcases at655 with e1 | e1 <;> rw [e1] at hb <;> first | (simp [Value.ownBlock] at hb; done) | (cases hb; have := bx587.lt; omega) | (exact ne644 b hb)
       have ne658 : ∀ b, v651.ownBlock = some b → b ≠ b510 := fun b hb => by rcases at655 with e1 | e1 <;> rw [e1] at hb <;> first | (simp [Value.ownBlock] at hb; done) | (cases hb; have := bx537.lt; omega) | (exact ne645 b hb)
       have hin_b480 : b480 ∈ B653 := sub656 b480 (by repeat (first | assumption | constructor))
       have hin_b510 : b510 ∈ B653 := sub656 b510 (by repeat (first | assumption | constructor))
       have hd589 := hd589.mv m649
       have bx587 := bx587.keep k650 (by simp only [Option.mem_toList]; first | (simp [Value.ownBlock]; done) | exact fun e => absurd rfl (ne644 _ e))
       have bx537 := bx537.keep k650 (by simp only [Option.mem_toList]; first | (simp [Value.ownBlock]; done) | exact fun e => absurd rfl (ne645 _ e))
       refine wl_s (o_assign (v651) rfl (wl_nil (thenQ_n (?_))))
       refine cw_ret (end_r rfl (res1 rfl rfl rfl) (Exists.intro _ (And.intro rfl (?_))))
       refine wl_s (o_move (vI (c.recs.length : Int)) rfl (wl_s (o_move (vI day) rfl (wl_s (o_build (l := [(0, .tmp 47), (1, .tmp 48), (2, .const (vI (0 : Int)))]) pl_47 z_47 rfl [(0, vI (c.recs.length : Int), [vI (c.recs.length : Int)]), (1, vI day, [vI day]), (2, vI (0 : Int), [vI (0 : Int)])] [vI (c.recs.length : Int), vI day, vI (0 : Int), Value.slice none 0 0, Value.slice none 0 0] rfl ⟨_, rfl, rfl, (of_decide_eq_true rfl), ⟨_, rfl, rfl, (of_decide_eq_true rfl), ⟨_, rfl, rfl, (of_decide_eq_true rfl), rfl⟩⟩⟩ (wl_s (o_lit (E := Enc.recovery) (xs := [.tmp 49]) Try.underlying23 s_47 z_47 (by decide) [.agg #[vI (c.recs.length : Int), vI day, vI (0 : Int), Value.slice none 0 0, Value.slice none 0 0]] [[vI (c.recs.length : Int), vI day, vI (0 : Int), Value.slice none 0 0, Value.slice none 0 0]] [(⟨(c.recs.length : Int), day, (0 : Int), [], []⟩ : Recovery)] rfl rfl rfl (Parts.cons rfl ⟨.slice none 0 0, .slice none 0 0, rfl, (RdL.nil _ _ _), (RdL.nil _ _ _)⟩ (Parts.nil _ _ _)) (of_decide_eq_true rfl) s648 fun v663 w659 s660 m661 k662 hl664 => (?_))))))))
       have hd589 := hd589.mv m661
       have ho652 := ho652.mv m661 k662 (by simp)
       have bx587 := bx587.keep k662 (by simp)
       have bx537 := bx537.keep k662 (by simp)
       have := hl664.len_le
       refine wl_s (o_append (E := Enc.recovery) (l := c.recs) (m := [(⟨(c.recs.length : Int), day, (0 : Int), [], []⟩ : Recovery)]) Try.underlying23 i_47 rfl (by decide) rfl rfl ho652 hl664 (fun _ hb => .inl hb) hB654 (by simp; omega) (by simp [maxLen]; omega) s660 fun v669 w665 B671 hB672 at673 sub674 s666 m667 k668 ho670 => (?_))
       have ne675 : ∀ b, v669.ownBlock = some b → b ≠ b480 := fun b hb => by rcases at673 with e1 | e1 <;> rw [e1] at hb <;> first | (simp [Value.ownBlock] at hb; done) | (cases hb; have := bx587.lt; omega) | (exact ne657 b hb)
       have ne676 : ∀ b, v669.ownBlock = some b → b ≠ b510 := fun b hb => by rcases at673 with e1 | e1 <;> rw [e1] at hb <;> first | (simp [Value.ownBlock] at hb; done) | (cases hb; have := bx537.lt; omega) | (exact ne658 b hb)
       have hin_b480 : b480 ∈ B671 := sub674 b480 (by repeat (first | assumption | constructor))
       have hin_b510 : b510 ∈ B671 := sub674 b510 (by repeat (first | assumption | constructor))
       have hd589 := hd589.mv m667
       have bx587 := bx587.keep k668 (by simp only [Option.mem_toList]; first | (simp [Value.ownBlock]; done) | exact fun e => absurd rfl (ne657 _ e))
       refine wl_s (o_fieldL 4 f_25_4 rfl (wl_n (o_store1 (v669) rfl rfl ho670.oneCell s_23 (by repeat (first | assumption | constructor)) bx587 (of_decide_eq_true rfl) s666 fun w677 s678 m679 k680 bx681 => (?_))))
       have hd589 := hd589.mv m679
       have ho670 := ho670.mv m679 k680 (fun b hb => nin1 (ne675 b hb))
       refine wl_nil (thenQ_n (?_))
       refine cw_seq (?_)
       refine cw_region (by kernel_rfl) (wl_s (o_loadBxA (vs := [vI c.epoch, vI c.threshold, vI c.wait, d588, v669]) Try.underlying25 rfl s_25 rfl bx681 rfl (wl_s (o_move (vI (c.recs.length : Int)) rfl (wl_n (o_store (vs := [vI c.epoch, vI c.threshold, vI c.wait, d588, v669]) (.agg #[vI c.epoch, vI c.threshold, vI c.wait, d588, v669]) rfl rfl rfl s_25 (fun u hu => by simp only [List.mem_cons, List.not_mem_nil, or_false] at hu; rcases hu with rfl | rfl | rfl | rfl | rfl <;> first | rfl | exact hd589.oneCell | exact ho670.oneCell) (by repeat (first | assumption | constructor)) bx681 (of_decide_eq_true rfl) s678 fun w682 s683 m684 k685 bx686 => (?_)))))))
       have hd589 := hd589.mv m684
       have ho670 := ho670.mv m684 k685 (fun b hb => nin1 (ne675 b hb))
       refine wl_s (o_assign (vI (c.recs.length : Int)) rfl (wl_s (o_assign (vI (0 : Int)) rfl (wl_nil (thenQ_n (?_))))))
       refine cw_ret (end_r rfl (resv3 rfl (rv_A (vs := [vI c.epoch, vI c.threshold, vI c.wait, d588, v669]) rfl Try.underlying25 rfl s_25 rfl bx686 rfl) (rv_t rfl rfl) (rv_t rfl rfl)) (?_))
       have e687 : ((gAsk c day).1) = (⟨c.epoch, c.threshold, c.wait, c.guardians, c.recs ++ ([(⟨(c.recs.length : Int), day, (0 : Int), [], []⟩ : Recovery)])⟩ : Circle) := by first | exact congrArg (fun p => p.1) (gAsk_bad (by assumption)) | exact congrArg (fun p => p.1) (gAsk_day (by assumption) (by rw [hlr]; assumption)) | exact congrArg (fun p => p.1) (gAsk_open (by assumption) (by rw [hlr]; assumption) (by rw [hlr]; assumption)) | exact congrArg (fun p => p.1) (gAsk_many (by assumption) (by rw [hlr]; assumption) (by rw [hlr]; first | assumption | decide) (by assumption)) | exact congrArg (fun p => p.1) (gAsk_ok (by assumption) (by rw [hlr]; assumption) (by rw [hlr]; first | assumption | decide) (by assumption))
       have e688 : ((gAsk c day).2.1) = (c.recs.length : Int) := by first | exact congrArg (fun p => p.2.1) (gAsk_bad (by assumption)) | exact congrArg (fun p => p.2.1) (gAsk_day (by assumption) (by rw [hlr]; assumption)) | exact congrArg (fun p => p.2.1) (gAsk_open (by assumption) (by rw [hlr]; assumption) (by rw [hlr]; assumption)) | exact congrArg (fun p => p.2.1) (gAsk_many (by assumption) (by rw [hlr]; assumption) (by rw [hlr]; first | assumption | decide) (by assumption)) | exact congrArg (fun p => p.2.1) (gAsk_ok (by assumption) (by rw [hlr]; assumption) (by rw [hlr]; first | assumption | decide) (by assumption))
       have e689 : ((gAsk c day).2.2) = (0 : Int) := by first | exact congrArg (fun p => p.2.2) (gAsk_bad (by assumption)) | exact congrArg (fun p => p.2.2) (gAsk_day (by assumption) (by rw [hlr]; assumption)) | exact congrArg (fun p => p.2.2) (gAsk_open (by assumption) (by rw [hlr]; assumption) (by rw [hlr]; assumption)) | exact congrArg (fun p => p.2.2) (gAsk_many (by assumption) (by rw [hlr]; assumption) (by rw [hlr]; first | assumption | decide) (by assumption)) | exact congrArg (fun p => p.2.2) (gAsk_ok (by assumption) (by rw [hlr]; assumption) (by rw [hlr]; first | assumption | decide) (by assumption))
       exact ⟨_, rfl, s683.keep, by rw [e687, e688, e689]; exact ⟨[vI c.epoch, vI c.threshold, vI c.wait, d588, v669], rfl, ⟨_, _, rfl, hd589.out, (ho670.pub s683)⟩⟩⟩
  ·have hp690 : (c.recs.length : Int) ≤ (0 : Int) := by first | simpa using hc523 | (have e := hc523; simp at e; omega)
   have hlr : lastR c = ⟨0, 0, 1, [], []⟩ := if_neg (by omega)
   refine cw_skip (thenQ_n (?_))
   refine cw_seq (?_)
   refine cw_block (?_)
   refine cw_seq (?_)
   refine cw_region (by kernel_rfl) (wl_s (o_move (vI day) rfl (wl_s (o_fieldL 1 f_47_1 rfl (wl_s (o_loadBx Try.underlying3 rfl (vI (0 : Int)) rfl bx522 rfl (wl_s (o_callK (vs := [vI day, vI (0 : Int)]) enter_30 (c_isDay (O := (b510 :: (b480 :: [])) ++ O) day (0 : Int) w518 s519.lt) rfl s519 fun v691 w692 s693 m694 k695 r696 => (?_)))))))))
   obtain rfl := r696
   have hp479 := hp479.mv m694
   have bx485 := bx485.keep k695 (by simp)
   have bx522 := bx522.keep k695 (by simp)
   refine wl_s (o_not (isDayM day (0 : Int)) rfl (wl_s (o_assign (Value.bool (!(isDayM day (0 : Int)))) rfl (wl_nil (thenQ_n (?_))))))
   refine cw_cond (!(isDayM day (0 : Int))) rfl rfl (fun hc697 => ?_) (fun hc697 => ?_)
   ·have hp698 : (isDayM day (0 : Int)) = false := by first | simpa using hc697 | (have e := hc697; simp at e; omega)
    refine cw_seq (?_)
    refine cw_region (by kernel_rfl) (wl_s (o_loadBxA (vs := [vI (0 : Int), vI (0 : Int), vI (0 : Int), Value.slice none 0 0, Value.slice none 0 0]) Try.underlying25 rfl s_25 rfl bx485 rfl (wl_n (o_store (vs := [vI (0 : Int), vI (0 : Int), vI (0 : Int), Value.slice none 0 0, Value.slice none 0 0]) (.agg #[vI (0 : Int), vI (0 : Int), vI (0 : Int), Value.slice none 0 0, Value.slice none 0 0]) rfl rfl rfl s_25 (fun u hu => by simp only [List.mem_cons, List.not_mem_nil, or_false] at hu; rcases hu with rfl | rfl | rfl | rfl | rfl <;> first | rfl) (by repeat (first | assumption | constructor)) bx485 (of_decide_eq_true rfl) s693 fun w699 s700 m701 k702 bx703 => (?_)))))
    refine wl_s (o_assign (vI (0 : Int)) rfl (wl_s (o_assign (vI (1 : Int)) rfl (wl_nil (thenQ_n (?_))))))
    refine cw_ret (blockQ_r (thenQ_r (end_r rfl (resv3 rfl (rv_A (vs := [vI (0 : Int), vI (0 : Int), vI (0 : Int), Value.slice none 0 0, Value.slice none 0 0]) rfl Try.underlying25 rfl s_25 rfl bx703 rfl) (rv_t rfl rfl) (rv_t rfl rfl)) (?_))))
    have e704 : ((gAsk c day).1) = (⟨(0 : Int), (0 : Int), (0 : Int), [], []⟩ : Circle) := by first | exact congrArg (fun p => p.1) (gAsk_bad (by assumption)) | exact congrArg (fun p => p.1) (gAsk_day (by assumption) (by rw [hlr]; assumption)) | exact congrArg (fun p => p.1) (gAsk_open (by assumption) (by rw [hlr]; assumption) (by rw [hlr]; assumption)) | exact congrArg (fun p => p.1) (gAsk_many (by assumption) (by rw [hlr]; assumption) (by rw [hlr]; first | assumption | decide) (by assumption)) | exact congrArg (fun p => p.1) (gAsk_ok (by assumption) (by rw [hlr]; assumption) (by rw [hlr]; first | assumption | decide) (by assumption))
    have e705 : ((gAsk c day).2.1) = (0 : Int) := by first | exact congrArg (fun p => p.2.1) (gAsk_bad (by assumption)) | exact congrArg (fun p => p.2.1) (gAsk_day (by assumption) (by rw [hlr]; assumption)) | exact congrArg (fun p => p.2.1) (gAsk_open (by assumption) (by rw [hlr]; assumption) (by rw [hlr]; assumption)) | exact congrArg (fun p => p.2.1) (gAsk_many (by assumption) (by rw [hlr]; assumption) (by rw [hlr]; first | assumption | decide) (by assumption)) | exact congrArg (fun p => p.2.1) (gAsk_ok (by assumption) (by rw [hlr]; assumption) (by rw [hlr]; first | assumption | decide) (by assumption))
    have e706 : ((gAsk c day).2.2) = (1 : Int) := by first | exact congrArg (fun p => p.2.2) (gAsk_bad (by assumption)) | exact congrArg (fun p => p.2.2) (gAsk_day (by assumption) (by rw [hlr]; assumption)) | exact congrArg (fun p => p.2.2) (gAsk_open (by assumption) (by rw [hlr]; assumption) (by rw [hlr]; assumption)) | exact congrArg (fun p => p.2.2) (gAsk_many (by assumption) (by rw [hlr]; assumption) (by rw [hlr]; first | assumption | decide) (by assumption)) | exact congrArg (fun p => p.2.2) (gAsk_ok (by assumption) (by rw [hlr]; assumption) (by rw [hlr]; first | assumption | decide) (by assumption))
    exact ⟨_, rfl, s700.keep, by rw [e704, e705, e706]; exact ⟨[vI (0 : Int), vI (0 : Int), vI (0 : Int), Value.slice none 0 0, Value.slice none 0 0], rfl, Enc.out (B := (b510 :: (b480 :: []))) ⟨.slice none 0 0, .slice none 0 0, rfl, (RdL.nil _ _ _), (RdL.nil _ _ _)⟩⟩⟩
   ·have hp707 : (isDayM day (0 : Int)) = true := by first | simpa using hc697 | (have e := hc697; simp at e; omega)
    refine cw_seq (?_)
    refine cw_region (by kernel_rfl) (wl_s (o_fieldL 2 f_47_2 rfl (wl_s (o_loadBx Try.underlying3 rfl (vI (1 : Int)) rfl bx522 rfl (wl_s (o_eql .i64 (1 : Int) (0 : Int) rfl rfl (wl_s (o_assign (Value.bool false) rfl (wl_nil (thenQ_n (?_)))))))))))
    refine cw_cond false rfl rfl (fun h => by cases h) (fun _ => ?_)
    refine cw_seq (?_)
    refine cw_region (by kernel_rfl) (wl_s (o_move (vI (c.recs.length : Int)) rfl (wl_s (o_eql .i64 (c.recs.length : Int) (1024 : Int) rfl rfl (wl_s (o_assign (Value.bool ((c.recs.length : Int) == (1024 : Int))) rfl (wl_nil (thenQ_n (?_)))))))))
    refine cw_cond ((c.recs.length : Int) == (1024 : Int)) rfl rfl (fun hc708 => ?_) (fun hc708 => ?_)
    ·have hp709 : (c.recs.length : Int) = (1024 : Int) := by first | simpa using hc708 | (have e := hc708; simp at e; omega)
     refine cw_seq (?_)
     refine cw_region (by kernel_rfl) (wl_s (o_loadBxA (vs := [vI (0 : Int), vI (0 : Int), vI (0 : Int), Value.slice none 0 0, Value.slice none 0 0]) Try.underlying25 rfl s_25 rfl bx485 rfl (wl_n (o_store (vs := [vI (0 : Int), vI (0 : Int), vI (0 : Int), Value.slice none 0 0, Value.slice none 0 0]) (.agg #[vI (0 : Int), vI (0 : Int), vI (0 : Int), Value.slice none 0 0, Value.slice none 0 0]) rfl rfl rfl s_25 (fun u hu => by simp only [List.mem_cons, List.not_mem_nil, or_false] at hu; rcases hu with rfl | rfl | rfl | rfl | rfl <;> first | rfl) (by repeat (first | assumption | constructor)) bx485 (of_decide_eq_true rfl) s693 fun w710 s711 m712 k713 bx714 => (?_)))))
     refine wl_s (o_assign (vI (0 : Int)) rfl (wl_s (o_assign (vI (2 : Int)) rfl (wl_nil (thenQ_n (?_))))))
     refine cw_ret (blockQ_r (thenQ_r (end_r rfl (resv3 rfl (rv_A (vs := [vI (0 : Int), vI (0 : Int), vI (0 : Int), Value.slice none 0 0, Value.slice none 0 0]) rfl Try.underlying25 rfl s_25 rfl bx714 rfl) (rv_t rfl rfl) (rv_t rfl rfl)) (?_))))
     have e715 : ((gAsk c day).1) = (⟨(0 : Int), (0 : Int), (0 : Int), [], []⟩ : Circle) := by first | exact congrArg (fun p => p.1) (gAsk_bad (by assumption)) | exact congrArg (fun p => p.1) (gAsk_day (by assumption) (by rw [hlr]; assumption)) | exact congrArg (fun p => p.1) (gAsk_open (by assumption) (by rw [hlr]; assumption) (by rw [hlr]; assumption)) | exact congrArg (fun p => p.1) (gAsk_many (by assumption) (by rw [hlr]; assumption) (by rw [hlr]; first | assumption | decide) (by assumption)) | exact congrArg (fun p => p.1) (gAsk_ok (by assumption) (by rw [hlr]; assumption) (by rw [hlr]; first | assumption | decide) (by assumption))
     have e716 : ((gAsk c day).2.1) = (0 : Int) := by first | exact congrArg (fun p => p.2.1) (gAsk_bad (by assumption)) | exact congrArg (fun p => p.2.1) (gAsk_day (by assumption) (by rw [hlr]; assumption)) | exact congrArg (fun p => p.2.1) (gAsk_open (by assumption) (by rw [hlr]; assumption) (by rw [hlr]; assumption)) | exact congrArg (fun p => p.2.1) (gAsk_many (by assumption) (by rw [hlr]; assumption) (by rw [hlr]; first | assumption | decide) (by assumption)) | exact congrArg (fun p => p.2.1) (gAsk_ok (by assumption) (by rw [hlr]; assumption) (by rw [hlr]; first | assumption | decide) (by assumption))
     have e717 : ((gAsk c day).2.2) = (2 : Int) := by first | exact congrArg (fun p => p.2.2) (gAsk_bad (by assumption)) | exact congrArg (fun p => p.2.2) (gAsk_day (by assumption) (by rw [hlr]; assumption)) | exact congrArg (fun p => p.2.2) (gAsk_open (by assumption) (by rw [hlr]; assumption) (by rw [hlr]; assumption)) | exact congrArg (fun p => p.2.2) (gAsk_many (by assumption) (by rw [hlr]; assumption) (by rw [hlr]; first | assumption | decide) (by assumption)) | exact congrArg (fun p => p.2.2) (gAsk_ok (by assumption) (by rw [hlr]; assumption) (by rw [hlr]; first | assumption | decide) (by assumption))
     exact ⟨_, rfl, s711.keep, by rw [e715, e716, e717]; exact ⟨[vI (0 : Int), vI (0 : Int), vI (0 : Int), Value.slice none 0 0, Value.slice none 0 0], rfl, Enc.out (B := (b510 :: (b480 :: []))) ⟨.slice none 0 0, .slice none 0 0, rfl, (RdL.nil _ _ _), (RdL.nil _ _ _)⟩⟩⟩
    ·have hp718 : (c.recs.length : Int) ≠ (1024 : Int) := by first | simpa using hc708 | (have e := hc708; simp at e; omega)
     refine cw_skip (blockQ_n (thenQ_n (?_)))
     refine cw_seq (?_)
     refine cw_region (by kernel_rfl) (wl_s (o_loadS Try.underlying25 rfl s_25 rfl hp479 fun cs719 hs720 => (?_)))
     obtain ⟨d726, d728, rfl, hd727, hd729⟩ := hs720
     have := hd727.len_le
     have := hd729.len_le
     refine wl_n (o_store (vs := [vI c.epoch, vI c.threshold, vI c.wait, d726, d728]) (.agg #[vI c.epoch, vI c.threshold, vI c.wait, d726, d728]) rfl rfl rfl s_25 (fun u hu => by simp only [List.mem_cons, List.not_mem_nil, or_false] at hu; rcases hu with rfl | rfl | rfl | rfl | rfl <;> first | rfl | exact hd727.oneCell | exact hd729.oneCell) (by repeat (first | assumption | constructor)) bx485 (of_decide_eq_true rfl) s693 fun w721 s722 m723 k724 bx725 => (?_))
     have hp479 := hp479.mv m723
     have hd727 := hd727.mv m723
     have bx522 := bx522.keep k724 (nin1 (Ne.symm ne517))
     refine wl_nil (thenQ_n (?_))
     refine cw_seq (?_)
     refine cw_region (by kernel_rfl) (wl_s (o_fieldR 4 f_25_4 (c.recs) rfl hp479 (fun _ _ _ h => Enc_circle_f4 h) fun a730 hp731 => (wl_s (o_loadL Try.underlying23 rfl rfl hp731 fun v732 hl733 => (?_)))))
     have := hl733.len_le
     refine wl_s (o_call [v732] _ enter_31 rfl (calls_of_cw 8 Try.func31 rfl rfl (of_decide_eq_true rfl) (fun F734 => ?_)) (fun _ _ h => h))
     refine cw_seq (?_)
     refine cw_region (by kernel_rfl) (wl_s (o_assign (Value.slice none 0 0) rfl (wl_nil (thenQ_n (?_)))))
     refine cw_seq (?_)
     refine cw_seq (?_)
     refine cw_region (by kernel_rfl) (wl_s (o_move (v732) rfl (wl_s (o_eqlNilR Try.underlying23 rfl rfl hl733 fun bn735 hbn736 => (?_)))))
     refine wl_nil (thenQ_n (?_))
     refine cw_cond (bn735) rfl rfl (fun hc737 => ?_) (fun hc737 => ?_)
     ·have hp738 : bn735 = true := by first | simpa using hc737 | (have e := hc737; simp at e; omega)
      refine cw_seq (?_)
      refine cw_region (by kernel_rfl) (wl_s (o_assign (Value.slice none 0 0) rfl (wl_nil (thenQ_n (?_)))))
      refine cw_ret (thenQ_r (end_r rfl (res1 rfl rfl rfl) (?_)))
      have hnl740 : c.recs = [] := hbn736 (by first | assumption | simp_all)
      have hl739 : RdL Enc.recovery w721 ((b510 :: (b480 :: [])) ++ O) (.slice none 0 0) (c.recs) := by rw [hnl740]; exact RdL.nil _ _ _
      refine Exists.intro _ (And.intro rfl (?_))
      refine wl_s (o_move (vI (c.recs.length : Int)) rfl (wl_s (o_move (vI day) rfl (wl_s (o_build (l := [(0, .tmp 47), (1, .tmp 48), (2, .const (vI (0 : Int)))]) pl_47 z_47 rfl [(0, vI (c.recs.length : Int), [vI (c.recs.length : Int)]), (1, vI day, [vI day]), (2, vI (0 : Int), [vI (0 : Int)])] [vI (c.recs.length : Int), vI day, vI (0 : Int), Value.slice none 0 0, Value.slice none 0 0] rfl ⟨_, rfl, rfl, (of_decide_eq_true rfl), ⟨_, rfl, rfl, (of_decide_eq_true rfl), ⟨_, rfl, rfl, (of_decide_eq_true rfl), rfl⟩⟩⟩ (wl_s (o_lit (E := Enc.recovery) (xs := [.tmp 49]) Try.underlying23 s_47 z_47 (by decide) [.agg #[vI (c.recs.length : Int), vI day, vI (0 : Int), Value.slice none 0 0, Value.slice none 0 0]] [[vI (c.recs.length : Int), vI day, vI (0 : Int), Value.slice none 0 0, Value.slice none 0 0]] [(⟨(c.recs.length : Int), day, (0 : Int), [], []⟩ : Recovery)] rfl rfl rfl (Parts.cons rfl ⟨.slice none 0 0, .slice none 0 0, rfl, (RdL.nil _ _ _), (RdL.nil _ _ _)⟩ (Parts.nil _ _ _)) (of_decide_eq_true rfl) s722 fun v745 w741 s742 m743 k744 hl746 => (?_))))))))
      have hd727 := hd727.mv m743
      have bx725 := bx725.keep k744 (by simp)
      have bx522 := bx522.keep k744 (by simp)
      have := hl746.len_le
      refine wl_s (o_append (v := .slice none 0 0) (E := Enc.recovery) (l := c.recs) (m := [(⟨(c.recs.length : Int), day, (0 : Int), [], []⟩ : Recovery)]) Try.underlying23 i_47 rfl (by decide) rfl rfl (by rw [hnl740]; exact Own.nil Enc.recovery 47 _ _ _) hl746 (fun _ hb => .inl hb) (by intro b hb; simp [Value.ownBlock] at hb) (by simp; omega) (by simp [maxLen]; omega) s742 fun v751 w747 B753 hB754 at755 sub756 s748 m749 k750 ho752 => (?_))
      have ne757 : ∀ b, v751.ownBlock = some b → b ≠ b480 := fun b hb => by rcases at755 with e1 | e1 <;> rw [e1] at hb <;> first | (simp [Value.ownBlock] at hb; done) | (cases hb; have := bx725.lt; omega) | (exact (fun b hb => by first | (simp [Value.ownBlock] at hb; done) | (intro e; simp_all; done)) b hb)
      have ne758 : ∀ b, v751.ownBlock = some b → b ≠ b510 := fun b hb => by rcases at755 with e1 | e1 <;> rw [e1] at hb <;> first | (simp [Value.ownBlock] at hb; done) | (cases hb; have := bx522.lt; omega) | (exact (fun b hb => by first | (simp [Value.ownBlock] at hb; done) | (intro e; simp_all; done)) b hb)
      have hin_b480 : b480 ∈ B753 := sub756 b480 (by repeat (first | assumption | constructor))
      have hin_b510 : b510 ∈ B753 := sub756 b510 (by repeat (first | assumption | constructor))
      have hd727 := hd727.mv m749
      have bx725 := bx725.keep k750 (by simp only [Option.mem_toList]; first | (simp [Value.ownBlock]; done) | exact fun e => absurd rfl ((fun b hb => by first | (simp [Value.ownBlock] at hb; done) | (intro e; simp_all; done)) _ e))
      refine wl_s (o_fieldL 4 f_25_4 rfl (wl_n (o_store1 (v751) rfl rfl ho752.oneCell s_23 (by repeat (first | assumption | constructor)) bx725 (of_decide_eq_true rfl) s748 fun w759 s760 m761 k762 bx763 => (?_))))
      have hd727 := hd727.mv m761
      have ho752 := ho752.mv m761 k762 (fun b hb => nin1 (ne757 b hb))
      refine wl_nil (thenQ_n (?_))
      refine cw_seq (?_)
      refine cw_region (by kernel_rfl) (wl_s (o_loadBxA (vs := [vI c.epoch, vI c.threshold, vI c.wait, d726, v751]) Try.underlying25 rfl s_25 rfl bx763 rfl (wl_s (o_move (vI (c.recs.length : Int)) rfl (wl_n (o_store (vs := [vI c.epoch, vI c.threshold, vI c.wait, d726, v751]) (.agg #[vI c.epoch, vI c.threshold, vI c.wait, d726, v751]) rfl rfl rfl s_25 (fun u hu => by simp only [List.mem_cons, List.not_mem_nil, or_false] at hu; rcases hu with rfl | rfl | rfl | rfl | rfl <;> first | rfl | exact hd727.oneCell | exact ho752.oneCell) (by repeat (first | assumption | constructor)) bx763 (of_decide_eq_true rfl) s760 fun w764 s765 m766 k767 bx768 => (?_)))))))
      have hd727 := hd727.mv m766
      have ho752 := ho752.mv m766 k767 (fun b hb => nin1 (ne757 b hb))
      refine wl_s (o_assign (vI (c.recs.length : Int)) rfl (wl_s (o_assign (vI (0 : Int)) rfl (wl_nil (thenQ_n (?_))))))
      refine cw_ret (end_r rfl (resv3 rfl (rv_A (vs := [vI c.epoch, vI c.threshold, vI c.wait, d726, v751]) rfl Try.underlying25 rfl s_25 rfl bx768 rfl) (rv_t rfl rfl) (rv_t rfl rfl)) (?_))
      have e769 : ((gAsk c day).1) = (⟨c.epoch, c.threshold, c.wait, c.guardians, c.recs ++ ([(⟨(c.recs.length : Int), day, (0 : Int), [], []⟩ : Recovery)])⟩ : Circle) := by first | exact congrArg (fun p => p.1) (gAsk_bad (by assumption)) | exact congrArg (fun p => p.1) (gAsk_day (by assumption) (by rw [hlr]; assumption)) | exact congrArg (fun p => p.1) (gAsk_open (by assumption) (by rw [hlr]; assumption) (by rw [hlr]; assumption)) | exact congrArg (fun p => p.1) (gAsk_many (by assumption) (by rw [hlr]; assumption) (by rw [hlr]; first | assumption | decide) (by assumption)) | exact congrArg (fun p => p.1) (gAsk_ok (by assumption) (by rw [hlr]; assumption) (by rw [hlr]; first | assumption | decide) (by assumption))
      have e770 : ((gAsk c day).2.1) = (c.recs.length : Int) := by first | exact congrArg (fun p => p.2.1) (gAsk_bad (by assumption)) | exact congrArg (fun p => p.2.1) (gAsk_day (by assumption) (by rw [hlr]; assumption)) | exact congrArg (fun p => p.2.1) (gAsk_open (by assumption) (by rw [hlr]; assumption) (by rw [hlr]; assumption)) | exact congrArg (fun p => p.2.1) (gAsk_many (by assumption) (by rw [hlr]; assumption) (by rw [hlr]; first | assumption | decide) (by assumption)) | exact congrArg (fun p => p.2.1) (gAsk_ok (by assumption) (by rw [hlr]; assumption) (by rw [hlr]; first | assumption | decide) (by assumption))
      have e771 : ((gAsk c day).2.2) = (0 : Int) := by first | exact congrArg (fun p => p.2.2) (gAsk_bad (by assumption)) | exact congrArg (fun p => p.2.2) (gAsk_day (by assumption) (by rw [hlr]; assumption)) | exact congrArg (fun p => p.2.2) (gAsk_open (by assumption) (by rw [hlr]; assumption) (by rw [hlr]; assumption)) | exact congrArg (fun p => p.2.2) (gAsk_many (by assumption) (by rw [hlr]; assumption) (by rw [hlr]; first | assumption | decide) (by assumption)) | exact congrArg (fun p => p.2.2) (gAsk_ok (by assumption) (by rw [hlr]; assumption) (by rw [hlr]; first | assumption | decide) (by assumption))
      exact ⟨_, rfl, s765.keep, by rw [e769, e770, e771]; exact ⟨[vI c.epoch, vI c.threshold, vI c.wait, d726, v751], rfl, ⟨_, _, rfl, hd727.out, (ho752.pub s765)⟩⟩⟩
     ·have hp772 : bn735 = false := by first | simpa using hc737 | (have e := hc737; simp at e; omega)
      refine cw_skip (thenQ_n (?_))
      refine cw_seq (?_)
      refine cw_region (by kernel_rfl) (wl_s (o_litO (E := Enc.recovery) (xs := []) Try.underlying23 s_47 z_47 (by decide) [] [] [] rfl rfl rfl (Parts.nil _ _ _) (of_decide_eq_true rfl) s722 fun v777 b779 w773 e780 hb781 s774 m775 k776 hl778 => (?_)))
      have ne782 : ∀ b, v777.ownBlock = some b → b ≠ b480 := fun b hb => by have := bx725.lt; rw [hb781] at hb; cases hb; omega
      have ne783 : ∀ b, v777.ownBlock = some b → b ≠ b510 := fun b hb => by have := bx522.lt; rw [hb781] at hb; cases hb; omega
      have hB784 : ∀ b, v777.ownBlock = some b → b ∈ (b779 :: (b510 :: (b480 :: []))) := fun b hb => by rw [hb781] at hb; cases hb; simp
      clear e780 hb781
      have hl733 := hl733.mv m775
      have hd727 := hd727.mv m775
      have bx725 := bx725.keep k776 (by simp)
      have bx522 := bx522.keep k776 (by simp)
      refine wl_s (o_move (v732) rfl (wl_s (o_append (E := Enc.recovery) (l := []) (m := c.recs) Try.underlying23 i_47 rfl (by decide) rfl rfl hl778 hl733 (fun _ hb => .inl hb) hB784 (by simp; omega) (by simp [maxLen]; omega) s774 fun v789 w785 B791 hB792 at793 sub794 s786 m787 k788 ho790 => (?_))))
      rw [List.nil_append] at ho790
      have ne795 : ∀ b, v789.ownBlock = some b → b ≠ b480 := fun b hb => by rcases at793 with e1 | e1 <;> rw [e1] at hb <;> first | (simp [Value.ownBlock] at hb; done) | (cases hb; have := bx725.lt; omega) | (exact ne782 b hb)
      have ne796 : ∀ b, v789.ownBlock = some b → b ≠ b510 := fun b hb => by rcases at793 with e1 | e1 <;> rw [e1] at hb <;> first | (simp [Value.ownBlock] at hb; done) | (cases hb; have := bx522.lt; omega) | (exact ne783 b hb)
      have hin_b480 : b480 ∈ B791 := sub794 b480 (by repeat (first | assumption | constructor))
      have hin_b510 : b510 ∈ B791 := sub794 b510 (by repeat (first | assumption | constructor))
      have hd727 := hd727.mv m787
      have bx725 := bx725.keep k788 (by simp only [Option.mem_toList]; first | (simp [Value.ownBlock]; done) | exact fun e => absurd rfl (ne782 _ e))
      have bx522 := bx522.keep k788 (by simp only [Option.mem_toList]; first | (simp [Value.ownBlock]; done) | exact fun e => absurd rfl (ne783 _ e))
      refine wl_s (o_assign (v789) rfl (wl_nil (thenQ_n (?_))))
      refine cw_ret (end_r rfl (res1 rfl rfl rfl) (Exists.intro _ (And.intro rfl (?_))))
      refine wl_s (o_move (vI (c.recs.length : Int)) rfl (wl_s (o_move (vI day) rfl (wl_s (o_build (l := [(0, .tmp 47), (1, .tmp 48), (2, .const (vI (0 : Int)))]) pl_47 z_47 rfl [(0, vI (c.recs.length : Int), [vI (c.recs.length : Int)]), (1, vI day, [vI day]), (2, vI (0 : Int), [vI (0 : Int)])] [vI (c.recs.length : Int), vI day, vI (0 : Int), Value.slice none 0 0, Value.slice none 0 0] rfl ⟨_, rfl, rfl, (of_decide_eq_true rfl), ⟨_, rfl, rfl, (of_decide_eq_true rfl), ⟨_, rfl, rfl, (of_decide_eq_true rfl), rfl⟩⟩⟩ (wl_s (o_lit (E := Enc.recovery) (xs := [.tmp 49]) Try.underlying23 s_47 z_47 (by decide) [.agg #[vI (c.recs.length : Int), vI day, vI (0 : Int), Value.slice none 0 0, Value.slice none 0 0]] [[vI (c.recs.length : Int), vI day, vI (0 : Int), Value.slice none 0 0, Value.slice none 0 0]] [(⟨(c.recs.length : Int), day, (0 : Int), [], []⟩ : Recovery)] rfl rfl rfl (Parts.cons rfl ⟨.slice none 0 0, .slice none 0 0, rfl, (RdL.nil _ _ _), (RdL.nil _ _ _)⟩ (Parts.nil _ _ _)) (of_decide_eq_true rfl) s786 fun v801 w797 s798 m799 k800 hl802 => (?_))))))))
      have hd727 := hd727.mv m799
      have ho790 := ho790.mv m799 k800 (by simp)
      have bx725 := bx725.keep k800 (by simp)
      have bx522 := bx522.keep k800 (by simp)
      have := hl802.len_le
      refine wl_s (o_append (E := Enc.recovery) (l := c.recs) (m := [(⟨(c.recs.length : Int), day, (0 : Int), [], []⟩ : Recovery)]) Try.underlying23 i_47 rfl (by decide) rfl rfl ho790 hl802 (fun _ hb => .inl hb) hB792 (by simp; omega) (by simp [maxLen]; omega) s798 fun v807 w803 B809 hB810 at811 sub812 s804 m805 k806 ho808 => (?_))
      have ne813 : ∀ b, v807.ownBlock = some b → b ≠ b480 := fun b hb => by rcases at811 with e1 | e1 <;> rw [e1] at hb <;> first | (simp [Value.ownBlock] at hb; done) | (cases hb; have := bx725.lt; omega) | (exact ne795 b hb)
      have ne814 : ∀ b, v807.ownBlock = some b → b ≠ b510 := fun b hb => by rcases at811 with e1 | e1 <;> rw [e1] at hb <;> first | (simp [Value.ownBlock] at hb; done) | (cases hb; have := bx522.lt; omega) | (exact ne796 b hb)
      have hin_b480 : b480 ∈ B809 := sub812 b480 (by repeat (first | assumption | constructor))
      have hin_b510 : b510 ∈ B809 := sub812 b510 (by repeat (first | assumption | constructor))
      have hd727 := hd727.mv m805
      have bx725 := bx725.keep k806 (by simp only [Option.mem_toList]; first | (simp [Value.ownBlock]; done) | exact fun e => absurd rfl (ne795 _ e))
      refine wl_s (o_fieldL 4 f_25_4 rfl (wl_n (o_store1 (v807) rfl rfl ho808.oneCell s_23 (by repeat (first | assumption | constructor)) bx725 (of_decide_eq_true rfl) s804 fun w815 s816 m817 k818 bx819 => (?_))))
      have hd727 := hd727.mv m817
      have ho808 := ho808.mv m817 k818 (fun b hb => nin1 (ne813 b hb))
      refine wl_nil (thenQ_n (?_))
      refine cw_seq (?_)
      refine cw_region (by kernel_rfl) (wl_s (o_loadBxA (vs := [vI c.epoch, vI c.threshold, vI c.wait, d726, v807]) Try.underlying25 rfl s_25 rfl bx819 rfl (wl_s (o_move (vI (c.recs.length : Int)) rfl (wl_n (o_store (vs := [vI c.epoch, vI c.threshold, vI c.wait, d726, v807]) (.agg #[vI c.epoch, vI c.threshold, vI c.wait, d726, v807]) rfl rfl rfl s_25 (fun u hu => by simp only [List.mem_cons, List.not_mem_nil, or_false] at hu; rcases hu with rfl | rfl | rfl | rfl | rfl <;> first | rfl | exact hd727.oneCell | exact ho808.oneCell) (by repeat (first | assumption | constructor)) bx819 (of_decide_eq_true rfl) s816 fun w820 s821 m822 k823 bx824 => (?_)))))))
      have hd727 := hd727.mv m822
      have ho808 := ho808.mv m822 k823 (fun b hb => nin1 (ne813 b hb))
      refine wl_s (o_assign (vI (c.recs.length : Int)) rfl (wl_s (o_assign (vI (0 : Int)) rfl (wl_nil (thenQ_n (?_))))))
      refine cw_ret (end_r rfl (resv3 rfl (rv_A (vs := [vI c.epoch, vI c.threshold, vI c.wait, d726, v807]) rfl Try.underlying25 rfl s_25 rfl bx824 rfl) (rv_t rfl rfl) (rv_t rfl rfl)) (?_))
      have e825 : ((gAsk c day).1) = (⟨c.epoch, c.threshold, c.wait, c.guardians, c.recs ++ ([(⟨(c.recs.length : Int), day, (0 : Int), [], []⟩ : Recovery)])⟩ : Circle) := by first | exact congrArg (fun p => p.1) (gAsk_bad (by assumption)) | exact congrArg (fun p => p.1) (gAsk_day (by assumption) (by rw [hlr]; assumption)) | exact congrArg (fun p => p.1) (gAsk_open (by assumption) (by rw [hlr]; assumption) (by rw [hlr]; assumption)) | exact congrArg (fun p => p.1) (gAsk_many (by assumption) (by rw [hlr]; assumption) (by rw [hlr]; first | assumption | decide) (by assumption)) | exact congrArg (fun p => p.1) (gAsk_ok (by assumption) (by rw [hlr]; assumption) (by rw [hlr]; first | assumption | decide) (by assumption))
      have e826 : ((gAsk c day).2.1) = (c.recs.length : Int) := by first | exact congrArg (fun p => p.2.1) (gAsk_bad (by assumption)) | exact congrArg (fun p => p.2.1) (gAsk_day (by assumption) (by rw [hlr]; assumption)) | exact congrArg (fun p => p.2.1) (gAsk_open (by assumption) (by rw [hlr]; assumption) (by rw [hlr]; assumption)) | exact congrArg (fun p => p.2.1) (gAsk_many (by assumption) (by rw [hlr]; assumption) (by rw [hlr]; first | assumption | decide) (by assumption)) | exact congrArg (fun p => p.2.1) (gAsk_ok (by assumption) (by rw [hlr]; assumption) (by rw [hlr]; first | assumption | decide) (by assumption))
      have e827 : ((gAsk c day).2.2) = (0 : Int) := by first | exact congrArg (fun p => p.2.2) (gAsk_bad (by assumption)) | exact congrArg (fun p => p.2.2) (gAsk_day (by assumption) (by rw [hlr]; assumption)) | exact congrArg (fun p => p.2.2) (gAsk_open (by assumption) (by rw [hlr]; assumption) (by rw [hlr]; assumption)) | exact congrArg (fun p => p.2.2) (gAsk_many (by assumption) (by rw [hlr]; assumption) (by rw [hlr]; first | assumption | decide) (by assumption)) | exact congrArg (fun p => p.2.2) (gAsk_ok (by assumption) (by rw [hlr]; assumption) (by rw [hlr]; first | assumption | decide) (by assumption))
      exact ⟨_, rfl, s821.keep, by rw [e825, e826, e827]; exact ⟨[vI c.epoch, vI c.threshold, vI c.wait, d726, v807], rfl, ⟨_, _, rfl, hd727.out, (ho808.pub s821)⟩⟩⟩
set_option maxHeartbeats 4000000 in
set_option maxRecDepth 100000 in
theorem c_approved {O : List Nat} (c_cs : List Value) (c : Circle) (r_a : Addr) (r : Recovery) (w : World) (h_c : Enc.circle.rd w O c_cs c) (h_r : PT Enc.recovery w O (.pointer (some r_a)) r) (hO : ∀ b ∈ O, b < w.heap.size) : CallsK Try.prog 57 [.agg c_cs.toArray, .pointer (some r_a)] w (fun v _ => v = .bool (apprM c r)) :=  by
 have h_c : Enc.circle.rd w ([] ++ O) c_cs c := h_c
 have h_r : PT Enc.recovery w ([] ++ O) (.pointer (some r_a)) r := h_r
 have s0 : St w O w [] := St.start hO
 refine callsK_of 29 Try.func57 rfl rfl (of_decide_eq_true rfl) (fun F0 => ?_)
 refine cw_seq (?_)
 refine cw_region (by kernel_rfl) (wl_s (o_boxR (E := Enc.circle) (Value.agg c_cs.toArray) (c_cs) c rfl rfl h_c s0 fun a828 w829 s830 m831 k832 hp833 => (?_)))
 have h_r := h_r.mv m831
 refine wl_s (o_assign (Value.bool false) rfl (wl_nil (thenQ_n (?_))))
 refine cw_seq (?_)
 refine cw_region (by kernel_rfl) (wl_s (o_assign (vI (0 : Int)) rfl (wl_nil (thenQ_n (?_)))))
 refine cw_seq (?_)
 refine cw_seq (?_)
 refine cw_region (by kernel_rfl) (wl_s (o_fieldR 3 f_25_3 (c.guardians) rfl hp833 (fun _ _ _ h => Enc_circle_f3 h) fun a834 hp835 => (wl_s (o_loadL Try.underlying22 rfl rfl hp835 fun v836 hl837 => (?_)))))
 have := hl837.len_le
 refine wl_s (o_lenR Try.underlying22 rfl hl837 (wl_s (o_move (vI (0 : Int)) rfl (wl_nil (thenQ_n (?_))))))
 refine cw_block (?_)
 refine cw_loop (fun mI FI wI => ∃ (k : Nat) (B : List Nat), k ≤ c.guardians.length ∧ mI = c.guardians.length - k ∧ (∃ F1, FI = upds F1 [(1, Value.pointer (some r_a)), (2, Value.pointer (some a828)), (5, vI ((countM r.approved c.guardians k : Nat) : Int)), (9, v836), (10, vI (c.guardians.length : Int)), (11, vI ((k : Nat) : Int)), (29, undef)]) ∧ St w O wI B ∧ PT Enc.recovery wI (B ++ O) (.pointer (some r_a)) (r) ∧ PT Enc.circle wI (B ++ O) (.pointer (some a828)) (c) ∧ RdL Enc.int wI (B ++ O) (v836) (c.guardians)) (c.guardians.length - (0)) ?_ ?_
 ·exact ⟨(0), [], (by first | omega | (simp; done) | (simp; omega) | simp_all), rfl, ⟨_, upds_self _ ⟨rfl, rfl, (by first | rfl | exact congrArg (Value.int _) (by first | omega | (rfl))), rfl, rfl, (by first | rfl | exact congrArg (Value.int _) (by first | omega | (simp))), rfl, trivial⟩⟩, s830, h_r, hp833, hl837⟩
 ·intro ml0 F wl0 hI
  clear h_r hp833 hl837
  obtain ⟨k, Bl0, hr0_0, hm0, ⟨Fl0, rfl⟩, sl0, h_r, hp833, hl837⟩ := hI
  have hcm := countM_le r.approved c.guardians k
  refine cw_seq (?_)
  refine cw_region (by kernel_rfl) (wl_s (o_lss .i64 ((k : Nat) : Int) (c.guardians.length : Int) rfl rfl (wl_nil (thenQ_n (?_)))))
  refine cw_seq (?_)
  refine cw_cond (decide (((k : Nat) : Int) < (c.guardians.length : Int))) rfl rfl (fun hc838 => ?_) (fun hc838 => ?_)
  ·have hp839 : ((k : Nat) : Int) < (c.guardians.length : Int) := by first | simpa using hc838 | (have e := hc838; simp at e; omega)
   refine cw_skip (thenQ_n (?_))
   refine cw_seq (?_)
   refine cw_block (?_)
   refine cw_seq (?_)
   refine cw_region (by kernel_rfl) (wl_s (o_idx Try.underlying22 s_3 .i64 ((k : Nat) : Int) k rfl rfl rfl hl837 (by omega) fun a840 hp841 => (wl_s (o_loadI Try.underlying3 rfl rfl hp841 (wl_s (o_assign (vI (c.guardians[k]!)) rfl (wl_nil (thenQ_n (?_)))))))))
   refine cw_seq (?_)
   refine cw_region (by kernel_rfl) (wl_s (o_move (Value.pointer (some r_a)) rfl (wl_s (o_nilCheck r_a rfl (wl_s (o_field0 f_74_0 rfl (wl_s (o_fieldR 3 f_47_3 (r.approved) rfl h_r (fun _ _ _ h => Enc_recovery_f3 h) fun a842 hp843 => (wl_s (o_loadL Try.underlying22 rfl rfl hp843 fun v844 hl845 => (?_)))))))))))
   have := hl845.len_le
   refine wl_s (o_move (vI (c.guardians[k]!)) rfl (wl_s (o_callK (vs := [v844, vI (c.guardians[k]!)]) enter_44 (c_contains (O := Bl0 ++ O) v844 r.approved (c.guardians[k]!) wl0 hl845 sl0.lt) rfl sl0 fun v846 w847 s848 m849 k850 r851 => (?_))))
   obtain rfl := r851
   have h_r := h_r.mv m849
   have hp833 := hp833.mv m849
   have hl837 := hl837.mv m849
   refine wl_nil (thenQ_n (?_))
   refine cw_cond (r.approved.contains (c.guardians[k]!)) rfl rfl (fun hc852 => ?_) (fun hc852 => ?_)
   ·have hp853 : (r.approved.contains (c.guardians[k]!)) = true := by first | simpa using hc852 | (have e := hc852; simp at e; omega)
    refine cw_region (by kernel_rfl) (wl_s (o_move (vI ((countM r.approved c.guardians k : Nat) : Int)) rfl (wl_s (o_add .i64 ((countM r.approved c.guardians k : Nat) : Int) (1 : Int) (((countM r.approved c.guardians k + 1 : Nat) : Int)) rfl rfl (w64 (by omega) (by omega)) (wl_s (o_assign (vI ((countM r.approved c.guardians k + 1 : Nat) : Int)) rfl (wl_nil (blockQ_n (thenQ_n (?_))))))))))
    refine cw_region (by kernel_rfl) (wl_s (o_add .i64 ((k : Nat) : Int) (1 : Int) (((k + 1 : Nat) : Int)) rfl rfl (w64 (by omega) (by omega)) (wl_s (o_move (vI ((k + 1 : Nat) : Int)) rfl (wl_nil (thenQ_n (?_)))))))
    exact ⟨_, (by omega), (k + 1), Bl0, (by first | omega | (simp; done) | (simp; omega) | simp_all), rfl, ⟨_, upds_self _ ⟨rfl, rfl, (by first | rfl | exact congrArg (Value.int _) (by first | omega | (first | (rw [countM_succ (by omega), if_pos (by assumption)]) | (rw [countM_succ (by omega), if_neg (by rw [Bool.not_eq_true]; assumption)]; try rfl)))), rfl, rfl, (by first | rfl | exact congrArg (Value.int _) (by first | omega | (simp))), rfl, trivial⟩⟩, s848, h_r, hp833, hl837⟩
   ·have hp854 : (r.approved.contains (c.guardians[k]!)) = false := by first | simpa using hc852 | (have e := hc852; simp at e; omega)
    refine cw_skip (blockQ_n (thenQ_n (?_)))
    refine cw_region (by kernel_rfl) (wl_s (o_add .i64 ((k : Nat) : Int) (1 : Int) (((k + 1 : Nat) : Int)) rfl rfl (w64 (by omega) (by omega)) (wl_s (o_move (vI ((k + 1 : Nat) : Int)) rfl (wl_nil (thenQ_n (?_)))))))
    exact ⟨_, (by omega), (k + 1), Bl0, (by first | omega | (simp; done) | (simp; omega) | simp_all), rfl, ⟨_, upds_self _ ⟨rfl, rfl, (by first | rfl | exact congrArg (Value.int _) (by first | omega | (first | (rw [countM_succ (by omega), if_pos (by assumption)]) | (rw [countM_succ (by omega), if_neg (by rw [Bool.not_eq_true]; assumption)]; try rfl)))), rfl, rfl, (by first | rfl | exact congrArg (Value.int _) (by first | omega | (simp))), rfl, trivial⟩⟩, s848, h_r, hp833, hl837⟩
  ·have hp855 : (c.guardians.length : Int) ≤ ((k : Nat) : Int) := by first | simpa using hc838 | (have e := hc838; simp at e; omega)
   obtain rfl : k = c.guardians.length := by omega
   refine cw_exit (thenQ_x (thenQ_x (blockQ_x (thenQ_n (?_)))))
   refine cw_seq (?_)
   refine cw_region (by kernel_rfl) (wl_s (o_move (vI ((countM r.approved c.guardians c.guardians.length : Nat) : Int)) rfl (wl_s (o_fieldR 1 f_25_1 (c.threshold) rfl hp833 (fun _ _ _ h => Enc_circle_f1 h) fun a856 hp857 => (wl_s (o_loadI Try.underlying3 rfl rfl hp857 (wl_s (o_geq .i64 ((countM r.approved c.guardians c.guardians.length : Nat) : Int) c.threshold rfl rfl (wl_s (o_assign (Value.bool (decide (c.threshold ≤ ((countM r.approved c.guardians c.guardians.length : Nat) : Int)))) rfl (wl_nil (thenQ_n (?_)))))))))))))
   refine cw_ret (end_r rfl (res1 rfl rfl rfl) (?_))
   have e : (apprM c r) = (decide (c.threshold ≤ ((countM r.approved c.guardians c.guardians.length : Nat) : Int))) := rfl
   exact ⟨_, rfl, sl0.keep, by rw [e]; exact rfl⟩

end Go.Proofs.Ytpdekmknnpkmgaa
