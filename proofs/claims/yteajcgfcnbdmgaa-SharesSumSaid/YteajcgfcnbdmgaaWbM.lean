/- Walks, printed by gen.py. -/
import Derived.Test.YteajcgfcnbdmgaaWbJ
import Derived.Test.YteajcgfcnbdmgaaMaX
import Derived.Test.YteajcgfcnbdmgaaWbL
set_option linter.unusedSimpArgs false
set_option linter.unusedVariables false
namespace Go.Proofs.Yteajcgfcnbdmgaa
open Go.Fw Go.RowKit

set_option maxHeartbeats 4000000 in
set_option maxRecDepth 100000 in
theorem c_SharesSum {O : List Nat} (sa_v : Value) (sa : List UInt8) (sb_v : Value) (sb : List UInt8) (threshold : Int) (many : Int) (pc_v : Value) (pc : List UInt8) (qc_v : Value) (qc : List UInt8) (w : World) (h_sa : RdL Enc.u8 w O sa_v sa) (h_sb : RdL Enc.u8 w O sb_v sb) (h_pc : RdL Enc.u8 w O pc_v pc) (h_qc : RdL Enc.u8 w O qc_v qc) (hO : ∀ b ∈ O, b < w.heap.size) : CallsK Try.prog 16 [sa_v, sb_v, vI threshold, vI many, pc_v, qc_v] w (fun v _ => v = .bool (true)) :=  by
 have lim_sa := h_sa.len_le
 have h_sa : RdL Enc.u8 w ([] ++ O) sa_v sa := h_sa
 have lim_sb := h_sb.len_le
 have h_sb : RdL Enc.u8 w ([] ++ O) sb_v sb := h_sb
 have lim_pc := h_pc.len_le
 have h_pc : RdL Enc.u8 w ([] ++ O) pc_v pc := h_pc
 have lim_qc := h_qc.len_le
 have h_qc : RdL Enc.u8 w ([] ++ O) qc_v qc := h_qc
 have s0 : St w O w [] := St.start hO
 refine callsK_of 178 Try.func16 rfl rfl (of_decide_eq_true rfl) (fun F0 => ?_)
 refine cw_seq (?_)
 refine cw_region (by kernel_rfl) (wl_s (o_assign (Value.bool false) rfl (wl_nil (thenQ_n (?_)))))
 refine cw_seq (?_)
 refine cw_seq (?_)
 refine cw_region (by kernel_rfl) (wl_s (o_callK (vs := []) enter_28 (c_sane8 (O := [] ++ O) w s0.lt) rfl s0 fun v4426 w4427 s4428 m4429 k4430 r4431 => (?_)))
 obtain rfl := r4431
 have h_sa := h_sa.mv m4429
 have h_sb := h_sb.mv m4429
 have h_pc := h_pc.mv m4429
 have h_qc := h_qc.mv m4429
 refine wl_s (o_not true rfl (wl_nil (thenQ_n (?_))))
 refine cw_cond false rfl rfl (fun h => by cases h) (fun _ => ?_)
 refine cw_skip (thenQ_n (?_))
 refine cw_seq (?_)
 refine cw_seq (?_)
 refine cw_region (by kernel_rfl) (wl_s (o_move (sa_v) rfl (wl_s (o_lenR Try.underlying28 rfl h_sa (wl_s (o_gtr .i64 (sa.length : Int) (20 : Int) rfl rfl (wl_s (o_move (Value.bool (decide ((20 : Int) < (sa.length : Int)))) rfl (?_)))))))))
 cases hb4432 : (decide ((20 : Int) < (sa.length : Int)))
 ·have hp4433 : (sa.length : Int) ≤ (20 : Int) := by first | simpa using hb4432 | (have e := hb4432; simp at e; omega)
  refine wl_t rfl (o_move (sa_v) rfl (wl_t rfl (o_lenR Try.underlying28 rfl h_sa (wl_t rfl (o_move (sb_v) rfl (wl_t rfl (o_lenR Try.underlying28 rfl h_sb (wl_t rfl (o_neq .i64 (sa.length : Int) (sb.length : Int) rfl rfl (wl_s (o_pickF (Value.bool ((sa.length : Int) != (sb.length : Int))) rfl rfl (wl_s (o_move (Value.bool ((sa.length : Int) != (sb.length : Int))) rfl (?_))))))))))))))
  cases hb4434 : ((sa.length : Int) != (sb.length : Int))
  ·have hp4435 : (sa.length : Int) = (sb.length : Int) := by first | simpa using hb4434 | (have e := hb4434; simp at e; omega)
   refine wl_t rfl (o_move (pc_v) rfl (wl_t rfl (o_lenR Try.underlying28 rfl h_pc (wl_t rfl (o_gtr .i64 (pc.length : Int) (200 : Int) rfl rfl (wl_s (o_pickF (Value.bool (decide ((200 : Int) < (pc.length : Int)))) rfl rfl (wl_s (o_move (Value.bool (decide ((200 : Int) < (pc.length : Int)))) rfl (?_))))))))))
   cases hb4436 : (decide ((200 : Int) < (pc.length : Int)))
   ·have hp4437 : (pc.length : Int) ≤ (200 : Int) := by first | simpa using hb4436 | (have e := hb4436; simp at e; omega)
    refine wl_t rfl (o_move (qc_v) rfl (wl_t rfl (o_lenR Try.underlying28 rfl h_qc (wl_t rfl (o_gtr .i64 (qc.length : Int) (200 : Int) rfl rfl (wl_s (o_pickF (Value.bool (decide ((200 : Int) < (qc.length : Int)))) rfl rfl (wl_nil (thenQ_n (?_))))))))))
    refine cw_cond (decide ((200 : Int) < (qc.length : Int))) rfl rfl (fun hc4438 => ?_) (fun hc4438 => ?_)
    ·have hp4439 : (200 : Int) < (qc.length : Int) := by first | simpa using hc4438 | (have e := hc4438; simp at e; omega)
     refine cw_seq (?_)
     refine cw_region (by kernel_rfl) (wl_s (o_assign (Value.bool true) rfl (wl_nil (thenQ_n (?_)))))
     refine cw_ret (thenQ_r (end_r rfl (res1 rfl rfl rfl) (?_)))
     exact ⟨_, rfl, s4428.keep, rfl⟩
    ·have hp4440 : (qc.length : Int) ≤ (200 : Int) := by first | simpa using hc4438 | (have e := hc4438; simp at e; omega)
     refine cw_skip (thenQ_n (?_))
     refine cw_seq (?_)
     refine cw_region (by kernel_rfl) (wl_s (o_move (sa_v) rfl (wl_s (o_move (vI threshold) rfl (wl_s (o_move (vI many) rfl (wl_s (o_move (pc_v) rfl (wl_s (o_callK (vs := [sa_v, vI (0 : Int), vI threshold, vI many, pc_v]) enter_30 (c_split (O := [] ++ O) sa_v sa (0 : Int) threshold many pc_v pc w4427 h_sa h_pc s4428.lt) rfl s4428 fun v4441 w4442 s4443 m4444 k4445 r4446 => (?_)))))))))))
     obtain ⟨x4447, rfl, hl4448⟩ := r4446
     have := hl4448.len_le
     have h_sa := h_sa.mv m4444
     have h_sb := h_sb.mv m4444
     have h_qc := h_qc.mv m4444
     refine wl_s (o_move (Value.tuple #[x4447, vI ((splitM sa (0 : Int) threshold many pc).2)]) rfl (wl_s (o_extract (x4447) rfl rfl (wl_s (o_extract (vI ((splitM sa (0 : Int) threshold many pc).2)) rfl rfl (wl_s (o_assign (x4447) rfl (wl_s (o_assign (vI ((splitM sa (0 : Int) threshold many pc).2)) rfl (wl_nil (thenQ_n (?_))))))))))))
     refine cw_seq (?_)
     refine cw_region (by kernel_rfl) (wl_s (o_move (sb_v) rfl (wl_s (o_move (vI threshold) rfl (wl_s (o_move (vI many) rfl (wl_s (o_move (qc_v) rfl (wl_s (o_callK (vs := [sb_v, vI (0 : Int), vI threshold, vI many, qc_v]) enter_30 (c_split (O := [] ++ O) sb_v sb (0 : Int) threshold many qc_v qc w4442 h_sb h_qc s4443.lt) rfl s4443 fun v4449 w4450 s4451 m4452 k4453 r4454 => (?_)))))))))))
     obtain ⟨x4455, rfl, hl4456⟩ := r4454
     have := hl4456.len_le
     have h_sa := h_sa.mv m4452
     have h_sb := h_sb.mv m4452
     have hl4448 := hl4448.mv m4452
     refine wl_s (o_move (Value.tuple #[x4455, vI ((splitM sb (0 : Int) threshold many qc).2)]) rfl (wl_s (o_extract (x4455) rfl rfl (wl_s (o_extract (vI ((splitM sb (0 : Int) threshold many qc).2)) rfl rfl (wl_s (o_assign (x4455) rfl (wl_s (o_assign (vI ((splitM sb (0 : Int) threshold many qc).2)) rfl (wl_nil (thenQ_n (?_))))))))))))
     refine cw_seq (?_)
     refine cw_seq (?_)
     refine cw_region (by kernel_rfl) (wl_s (o_move (vI ((splitM sa (0 : Int) threshold many pc).2)) rfl (wl_s (o_neq .i64 ((splitM sa (0 : Int) threshold many pc).2) (0 : Int) rfl rfl (wl_s (o_move (Value.bool (((splitM sa (0 : Int) threshold many pc).2) != (0 : Int))) rfl (?_)))))))
     cases hb4457 : (((splitM sa (0 : Int) threshold many pc).2) != (0 : Int))
     ·have hp4458 : (splitM sa (0 : Int) threshold many pc).2 = (0 : Int) := by first | simpa using hb4457 | (have e := hb4457; simp at e; omega)
      have hS := spl_split hp4458
      have hSl := hS.len
      have hS8 := hS.num.m8
      have hS64 := hS.num.n64
      refine wl_t rfl (o_move (vI ((splitM sb (0 : Int) threshold many qc).2)) rfl (wl_t rfl (o_neq .i64 ((splitM sb (0 : Int) threshold many qc).2) (0 : Int) rfl rfl (wl_s (o_pickF (Value.bool (((splitM sb (0 : Int) threshold many qc).2) != (0 : Int))) rfl rfl (wl_s (o_move (Value.bool (((splitM sb (0 : Int) threshold many qc).2) != (0 : Int))) rfl (?_))))))))
      cases hb4459 : (((splitM sb (0 : Int) threshold many qc).2) != (0 : Int))
      ·have hp4460 : (splitM sb (0 : Int) threshold many qc).2 = (0 : Int) := by first | simpa using hb4459 | (have e := hb4459; simp at e; omega)
       have hT := spl_split hp4460
       have hlm : ((splitM sa (0 : Int) threshold many pc).1.length : Int) = ((splitM sb (0 : Int) threshold many qc).1.length : Int) := by rw [hSl, hT.len]
       refine wl_t rfl (o_move (x4447) rfl (wl_t rfl (o_lenR Try.underlying38 rfl hl4448 (wl_t rfl (o_move (x4455) rfl (wl_t rfl (o_lenR Try.underlying38 rfl hl4456 (wl_t rfl (o_neq .i64 (((splitM sa (0 : Int) threshold many pc).1).length : Int) (((splitM sb (0 : Int) threshold many qc).1).length : Int) rfl rfl (wl_s (o_pickF (Value.bool ((((splitM sa (0 : Int) threshold many pc).1).length : Int) != (((splitM sb (0 : Int) threshold many qc).1).length : Int))) rfl rfl (wl_nil (thenQ_n (?_))))))))))))))
       have hb4461 : ((((splitM sa (0 : Int) threshold many pc).1).length : Int) != (((splitM sb (0 : Int) threshold many qc).1).length : Int)) = false := (by rw [hlm]; simp)
       rw [hb4461]
       refine cw_cond false rfl rfl (fun h => by cases h) (fun _ => ?_)
       refine cw_skip (thenQ_n (?_))
       refine cw_seq (?_)
       refine cw_region (by kernel_rfl) (wl_s (o_assign (.slice none 0 0) rfl (wl_nil (thenQ_n (?_)))))
       refine cw_seq (?_)
       refine cw_seq (?_)
       refine cw_region (by kernel_rfl) (wl_s (o_move (x4447) rfl (wl_s (o_lenR Try.underlying38 rfl hl4448 (wl_s (o_move (vI (0 : Int)) rfl (wl_nil (thenQ_n (?_)))))))))
       refine cw_block (?_)
       refine cw_loop (fun mI FI wI => ∃ (i : Nat) (vo0_17 : Value) (B : List Nat), i ≤ (splitM sa (0 : Int) threshold many pc).1.length ∧ mI = (splitM sa (0 : Int) threshold many pc).1.length - i ∧ (∃ F1, FI = upds F1 [(0, sa_v), (1, sb_v), (13, x4447), (15, x4455), (17, vo0_17), (82, vI (((splitM sa (0 : Int) threshold many pc).1).length : Int)), (83, vI ((i : Nat) : Int)), (178, undef)]) ∧ St w O wI B ∧ Own Enc.share 53 w.heap.size (B ++ O) wI vo0_17 ((sumL (splitM sa (0 : Int) threshold many pc).1 (splitM sb (0 : Int) threshold many qc).1 sa.length i)) ∧ (∀ b, vo0_17.ownBlock = some b → b ∈ B) ∧ RdL Enc.u8 wI (B ++ O) (sa_v) (sa) ∧ RdL Enc.u8 wI (B ++ O) (sb_v) (sb) ∧ RdL Enc.share wI (B ++ O) (x4447) ((splitM sa (0 : Int) threshold many pc).1) ∧ RdL Enc.share wI (B ++ O) (x4455) ((splitM sb (0 : Int) threshold many qc).1)) ((splitM sa (0 : Int) threshold many pc).1.length - (0)) ?_ ?_
       ·exact ⟨(0), (.slice none 0 0), [], (by first | omega | (simp; done) | (simp; omega) | simp_all), rfl, ⟨_, upds_self _ ⟨rfl, rfl, rfl, rfl, rfl, rfl, (by first | rfl | exact congrArg (Value.int _) (by first | omega | (simp))), rfl, trivial⟩⟩, s4451, (by rw [show (sumL (splitM sa (0 : Int) threshold many pc).1 (splitM sb (0 : Int) threshold many qc).1 sa.length (0)) = [] from rfl]; exact (Own.nil Enc.share 53 _ _ _)), (by intro b hb; simp [Value.ownBlock] at hb), h_sa, h_sb, hl4448, hl4456⟩
       ·intro ml0 F wl0 hI
        clear h_sa h_sb hl4448 hl4456
        obtain ⟨i, vo0_17, Bl0, hr0_0, hm0, ⟨Fl0, rfl⟩, sl0, ho0_17, hB0_17, h_sa, h_sb, hl4448, hl4456⟩ := hI
        refine cw_seq (?_)
        refine cw_region (by kernel_rfl) (wl_s (o_lss .i64 ((i : Nat) : Int) (((splitM sa (0 : Int) threshold many pc).1).length : Int) rfl rfl (wl_nil (thenQ_n (?_)))))
        refine cw_seq (?_)
        refine cw_cond (decide (((i : Nat) : Int) < (((splitM sa (0 : Int) threshold many pc).1).length : Int))) rfl rfl (fun hc4462 => ?_) (fun hc4462 => ?_)
        ·have hp4463 : ((i : Nat) : Int) < (((splitM sa (0 : Int) threshold many pc).1).length : Int) := by first | simpa using hc4462 | (have e := hc4462; simp at e; omega)
         have hdi := hS.da (i := i) (by omega)
         have hdm := hT.da (i := i) (by omega)
         refine cw_skip (thenQ_n (?_))
         refine cw_seq (?_)
         refine cw_block (?_)
         refine cw_seq (?_)
         refine cw_region (by kernel_rfl) (wl_s (o_move (vI ((i : Nat) : Int)) rfl (wl_s (o_assign (vI ((i : Nat) : Int)) rfl (wl_nil (thenQ_n (?_)))))))
         refine cw_seq (?_)
         refine cw_region (by kernel_rfl) (wl_s (o_move (x4447) rfl (wl_s (o_move (vI ((i : Nat) : Int)) rfl (wl_s (o_idx Try.underlying38 s_53 .i64 ((i : Nat) : Int) i rfl rfl rfl hl4448 (by omega) fun a4464 hp4465 => (wl_s (o_loadS Try.underlying53 rfl s_53 rfl hp4465 fun cs4466 hs4467 => (wl_s (o_alloc [vI (0 : Int), vI (0 : Int), vI (0 : Int), vI (0 : Int), Value.slice none 0 0] z_53 rfl sl0 fun b4468 w4469 e4474 s4470 m4471 k4472 bx4473 => (?_)))))))))))
         have ne4475 : ∀ b, vo0_17.ownBlock = some b → b ≠ b4468 := fun b hb => by have := (ho0_17.lt b hb).2; omega
         have hB0_17 : ∀ b, vo0_17.ownBlock = some b → b ∈ (b4468 :: Bl0) := fun b hb => List.mem_cons_of_mem _ (hB0_17 b hb)
         clear e4474
         have h_sa := h_sa.mv m4471
         have h_sb := h_sb.mv m4471
         have hl4448 := hl4448.mv m4471
         have hl4456 := hl4456.mv m4471
         have ho0_17 := ho0_17.mv m4471 k4472 (by simp)
         have hs4467 : Enc.share.rd w4469 ((b4468 :: Bl0) ++ O) cs4466 (((splitM sa (0 : Int) threshold many pc).1)[i]!) := Enc.mv Enc.share (x := ((splitM sa (0 : Int) threshold many pc).1)[i]!) hs4467 m4471
         obtain ⟨d4481, rfl, hd4482⟩ := hs4467
         have := hd4482.len_le
         refine wl_n (o_store (vs := [vI ((((splitM sa (0 : Int) threshold many pc).1)[i]!).epoch), vI ((((splitM sa (0 : Int) threshold many pc).1)[i]!).index), vI ((((splitM sa (0 : Int) threshold many pc).1)[i]!).threshold), vI ((((splitM sa (0 : Int) threshold many pc).1)[i]!).many), d4481]) (.agg #[vI ((((splitM sa (0 : Int) threshold many pc).1)[i]!).epoch), vI ((((splitM sa (0 : Int) threshold many pc).1)[i]!).index), vI ((((splitM sa (0 : Int) threshold many pc).1)[i]!).threshold), vI ((((splitM sa (0 : Int) threshold many pc).1)[i]!).many), d4481]) rfl rfl rfl s_53 (fun u hu => by simp only [List.mem_cons, List.not_mem_nil, or_false] at hu; rcases hu with rfl | rfl | rfl | rfl | rfl <;> first | rfl | exact hd4482.oneCell) (by first | assumption | (repeat (first | exact List.mem_cons_self | assumption | apply List.mem_cons_of_mem))) bx4473 (of_decide_eq_true rfl) s4470 fun w4476 s4477 m4478 k4479 bx4480 => (?_))
         have h_sa := h_sa.mv m4478
         have h_sb := h_sb.mv m4478
         have hl4448 := hl4448.mv m4478
         have hl4456 := hl4456.mv m4478
         have ho0_17 := ho0_17.mv m4478 k4479 (fun b hb => by simp only [List.mem_singleton]; exact ne4475 b hb)
         refine wl_nil (thenQ_n (?_))
         refine cw_seq (?_)
         refine cw_region (by kernel_rfl) (wl_s (o_fieldL 4 f_53_4 rfl (wl_n (o_store1 (Value.slice none 0 0) rfl rfl rfl s_28 (by first | assumption | (repeat (first | exact List.mem_cons_self | assumption | apply List.mem_cons_of_mem))) bx4480 (of_decide_eq_true rfl) s4477 fun w4483 s4484 m4485 k4486 bx4487 => (?_)))))
         have h_sa := h_sa.mv m4485
         have h_sb := h_sb.mv m4485
         have hl4448 := hl4448.mv m4485
         have hl4456 := hl4456.mv m4485
         have ho0_17 := ho0_17.mv m4485 k4486 (fun b hb => by simp only [List.mem_singleton]; exact ne4475 b hb)
         refine wl_nil (thenQ_n (?_))
         refine cw_seq (?_)
         refine cw_seq (?_)
         refine cw_region (by kernel_rfl) (wl_s (o_move (x4447) rfl (wl_s (o_move (vI ((i : Nat) : Int)) rfl (wl_s (o_idx Try.underlying38 s_53 .i64 ((i : Nat) : Int) i rfl rfl rfl hl4448 (by omega) fun a4488 hp4489 => (wl_s (o_fieldR 4 f_53_4 ((((splitM sa (0 : Int) threshold many pc).1)[i]!).data) rfl hp4489 (fun _ _ _ h => Enc_share_f4 h) fun a4490 hp4491 => (wl_s (o_loadL Try.underlying28 rfl rfl hp4491 fun v4492 hl4493 => (?_)))))))))))
         have := hl4493.len_le
         refine wl_s (o_lenR Try.underlying28 rfl hl4493 (wl_s (o_move (sa_v) rfl (wl_s (o_lenR Try.underlying28 rfl h_sa (wl_s (o_neq .i64 (((((splitM sa (0 : Int) threshold many pc).1)[i]!).data).length : Int) (sa.length : Int) rfl rfl (wl_s (o_move (Value.bool ((((((splitM sa (0 : Int) threshold many pc).1)[i]!).data).length : Int) != (sa.length : Int))) rfl (?_))))))))))
         have hb4494 : ((((((splitM sa (0 : Int) threshold many pc).1)[i]!).data).length : Int) != (sa.length : Int)) = false := (by rw [hdi]; simp)
         rw [hb4494]
         refine wl_t rfl (o_move (x4455) rfl (wl_t rfl (o_move (vI ((i : Nat) : Int)) rfl (wl_t rfl (o_idx Try.underlying38 s_53 .i64 ((i : Nat) : Int) i rfl rfl rfl hl4456 (by omega) fun a4495 hp4496 => (wl_t rfl (o_fieldR 4 f_53_4 ((((splitM sb (0 : Int) threshold many qc).1)[i]!).data) rfl hp4496 (fun _ _ _ h => Enc_share_f4 h) fun a4497 hp4498 => (wl_t rfl (o_loadL Try.underlying28 rfl rfl hp4498 fun v4499 hl4500 => (?_))))))))))
         have := hl4500.len_le
         refine wl_t rfl (o_lenR Try.underlying28 rfl hl4500 (wl_t rfl (o_move (sa_v) rfl (wl_t rfl (o_lenR Try.underlying28 rfl h_sa (wl_t rfl (o_neq .i64 (((((splitM sb (0 : Int) threshold many qc).1)[i]!).data).length : Int) (sa.length : Int) rfl rfl (wl_s (o_pickF (Value.bool ((((((splitM sb (0 : Int) threshold many qc).1)[i]!).data).length : Int) != (sa.length : Int))) rfl rfl (wl_nil (thenQ_n (?_))))))))))))
         have hb4501 : ((((((splitM sb (0 : Int) threshold many qc).1)[i]!).data).length : Int) != (sa.length : Int)) = false := (by rw [hdm, show sb.length = sa.length by omega]; simp)
         rw [hb4501]
         refine cw_cond false rfl rfl (fun h => by cases h) (fun _ => ?_)
         refine cw_skip (thenQ_n (?_))
         refine cw_seq (?_)
         refine cw_seq (?_)
         refine cw_region (by kernel_rfl) (wl_s (o_move (sa_v) rfl (wl_s (o_lenR Try.underlying28 rfl h_sa (wl_s (o_move (vI (0 : Int)) rfl (wl_nil (thenQ_n (?_)))))))))
         refine cw_block (?_)
         refine cw_loop (fun mI FI wI => ∃ (k : Nat) (vo1_b4468_4 : Value) (B : List Nat), k ≤ sa.length ∧ mI = sa.length - k ∧ (∃ F1, FI = upds F1 [(0, sa_v), (1, sb_v), (13, x4447), (15, x4455), (17, vo0_17), (18, vI ((i : Nat) : Int)), (19, Value.pointer (some ⟨b4468, 0, none⟩)), (82, vI (((splitM sa (0 : Int) threshold many pc).1).length : Int)), (83, vI ((i : Nat) : Int)), (112, vI (sa.length : Int)), (113, vI ((k : Nat) : Int)), (178, undef)]) ∧ St w O wI B ∧ Own Enc.u8 5 w.heap.size (B ++ O) wI vo1_b4468_4 ((tab k fun q => (splitM sa (0 : Int) threshold many pc).1[i]!.data[q]! ^^^ (splitM sb (0 : Int) threshold many qc).1[i]!.data[q]!)) ∧ (∀ b, vo1_b4468_4.ownBlock = some b → b ∈ B) ∧ RdL Enc.u8 wI (B ++ O) (sa_v) (sa) ∧ RdL Enc.u8 wI (B ++ O) (sb_v) (sb) ∧ RdL Enc.share wI (B ++ O) (x4447) ((splitM sa (0 : Int) threshold many pc).1) ∧ RdL Enc.share wI (B ++ O) (x4455) ((splitM sb (0 : Int) threshold many qc).1) ∧ Own Enc.share 53 w.heap.size (B ++ O) wI vo0_17 ((sumL (splitM sa (0 : Int) threshold many pc).1 (splitM sb (0 : Int) threshold many qc).1 sa.length i)) ∧ (∀ b, vo0_17.ownBlock = some b → b ∈ B) ∧ Box wI b4468 53 [vI ((((splitM sa (0 : Int) threshold many pc).1)[i]!).epoch), vI ((((splitM sa (0 : Int) threshold many pc).1)[i]!).index), vI ((((splitM sa (0 : Int) threshold many pc).1)[i]!).threshold), vI ((((splitM sa (0 : Int) threshold many pc).1)[i]!).many), vo1_b4468_4] ∧ b4468 ∈ B ∧ (∀ b, vo1_b4468_4.ownBlock = some b → b ≠ b4468) ∧ (∀ b, vo1_b4468_4.ownBlock = some b → vo0_17.ownBlock ≠ some b) ∧ (∀ b, vo0_17.ownBlock = some b → vo1_b4468_4.ownBlock ≠ some b)) (sa.length - (0)) ?_ ?_
         ·exact ⟨(0), (.slice none 0 0), (b4468 :: Bl0), (by first | omega | (simp; done) | (simp; omega) | simp_all), rfl, ⟨_, upds_self _ ⟨rfl, rfl, rfl, rfl, rfl, rfl, rfl, rfl, rfl, rfl, (by first | rfl | exact congrArg (Value.int _) (by first | omega | (simp))), rfl, trivial⟩⟩, s4484, (by rw [show (tab (0) fun q => (splitM sa (0 : Int) threshold many pc).1[i]!.data[q]! ^^^ (splitM sb (0 : Int) threshold many qc).1[i]!.data[q]!) = [] from rfl]; exact (Own.nil Enc.u8 5 _ _ _)), (by intro b hb; simp [Value.ownBlock] at hb), h_sa, h_sb, hl4448, hl4456, ho0_17, hB0_17, bx4487, (by first | assumption | (repeat (first | exact List.mem_cons_self | assumption | apply List.mem_cons_of_mem)) | (apply_assumption; assumption)), (fun b hb => by first | (simp [Value.ownBlock] at hb; done) | (intro e; simp_all; done)), (fun b hb => by first | (simp [Value.ownBlock] at hb; done) | (simp [Value.ownBlock]; done) | (intro e; simp_all; done)), (fun b hb => by first | (simp [Value.ownBlock] at hb; done) | (simp [Value.ownBlock]; done) | (intro e; simp_all; done))⟩
         ·intro ml1 F wl1 hI
          clear h_sa h_sb hl4448 hl4456 ho0_17 hB0_17
          obtain ⟨k, vo1_b4468_4, Bl1, hr1_0, hm1, ⟨Fl1, rfl⟩, sl1, ho1_b4468_4, hB1_b4468_4, h_sa, h_sb, hl4448, hl4456, ho0_17, hB0_17, hbs_b4468, hin_b4468, nb1_b4468_4_b4468, no1_b4468_4_vo0_17, np1_b4468_4_vo0_17⟩ := hI
          refine cw_seq (?_)
          refine cw_region (by kernel_rfl) (wl_s (o_lss .i64 ((k : Nat) : Int) (sa.length : Int) rfl rfl (wl_nil (thenQ_n (?_)))))
          refine cw_seq (?_)
          refine cw_cond (decide (((k : Nat) : Int) < (sa.length : Int))) rfl rfl (fun hc4502 => ?_) (fun hc4502 => ?_)
          ·have hp4503 : ((k : Nat) : Int) < (sa.length : Int) := by first | simpa using hc4502 | (have e := hc4502; simp at e; omega)
           refine cw_skip (thenQ_n (?_))
           refine cw_seq (?_)
           refine cw_block (?_)
           refine cw_seq (?_)
           refine cw_region (by kernel_rfl) (wl_s (o_move (vI ((k : Nat) : Int)) rfl (wl_s (o_assign (vI ((k : Nat) : Int)) rfl (wl_nil (thenQ_n (?_)))))))
           refine cw_draw' 20 _ _ [isV (Value.pointer (some ⟨b4468, 4, none⟩)), isV vo1_b4468_4, fun (vT : Value) (wT : World) => RdL Enc.share wT (Bl1 ++ O) vT ((splitM sa (0 : Int) threshold many pc).1), isV (vI ((i : Nat) : Int)), fun (vT : Value) (wT : World) => ∃ aT, vT = .pointer (some aT) ∧ PT Enc.share wT (Bl1 ++ O) (.pointer (some aT)) (((splitM sa (0 : Int) threshold many pc).1)[i]!), fun (vT : Value) (wT : World) => ∃ aT, vT = .pointer (some aT) ∧ PT (Enc.slice Enc.u8) wT (Bl1 ++ O) (.pointer (some aT)) ((((splitM sa (0 : Int) threshold many pc).1)[i]!).data), fun (vT : Value) (wT : World) => RdL Enc.u8 wT (Bl1 ++ O) vT ((((splitM sa (0 : Int) threshold many pc).1)[i]!).data), isV (vI ((k : Nat) : Int)), fun (vT : Value) (wT : World) => ∃ aT, vT = .pointer (some aT) ∧ PT Enc.u8 wT (Bl1 ++ O) (.pointer (some aT)) (((((splitM sa (0 : Int) threshold many pc).1)[i]!).data)[k]!), isV (vB (((((splitM sa (0 : Int) threshold many pc).1)[i]!).data)[k]!)), fun (vT : Value) (wT : World) => RdL Enc.share wT (Bl1 ++ O) vT ((splitM sb (0 : Int) threshold many qc).1), isV (vI ((i : Nat) : Int)), fun (vT : Value) (wT : World) => ∃ aT, vT = .pointer (some aT) ∧ PT Enc.share wT (Bl1 ++ O) (.pointer (some aT)) (((splitM sb (0 : Int) threshold many qc).1)[i]!), fun (vT : Value) (wT : World) => ∃ aT, vT = .pointer (some aT) ∧ PT (Enc.slice Enc.u8) wT (Bl1 ++ O) (.pointer (some aT)) ((((splitM sb (0 : Int) threshold many qc).1)[i]!).data), fun (vT : Value) (wT : World) => RdL Enc.u8 wT (Bl1 ++ O) vT ((((splitM sb (0 : Int) threshold many qc).1)[i]!).data), isV (vI ((k : Nat) : Int)), fun (vT : Value) (wT : World) => ∃ aT, vT = .pointer (some aT) ∧ PT Enc.u8 wT (Bl1 ++ O) (.pointer (some aT)) (((((splitM sb (0 : Int) threshold many qc).1)[i]!).data)[k]!), isV (vB (((((splitM sb (0 : Int) threshold many qc).1)[i]!).data)[k]!)), isV (vB ((((((splitM sa (0 : Int) threshold many pc).1)[i]!).data)[k]!) ^^^ (((((splitM sb (0 : Int) threshold many qc).1)[i]!).data)[k]!))), fun (vT : Value) (wT : World) => RdL Enc.u8 wT (Bl1 ++ O) vT ([(((((splitM sa (0 : Int) threshold many pc).1)[i]!).data)[k]!) ^^^ (((((splitM sb (0 : Int) threshold many qc).1)[i]!).data)[k]!)])] (by kernel_rfl) (by kernel_rfl) (by kernel_rfl) (by kernel_rfl) rfl rfl ⟨kI, kI, fun _ _ _ h k => h.mv (Mv.of_keep k), kI, fun _ _ _ ⟨a, e, h⟩ k => ⟨a, e, h.mv (Mv.of_keep k)⟩, fun _ _ _ ⟨a, e, h⟩ k => ⟨a, e, h.mv (Mv.of_keep k)⟩, fun _ _ _ h k => h.mv (Mv.of_keep k), kI, fun _ _ _ ⟨a, e, h⟩ k => ⟨a, e, h.mv (Mv.of_keep k)⟩, kI, fun _ _ _ h k => h.mv (Mv.of_keep k), kI, fun _ _ _ ⟨a, e, h⟩ k => ⟨a, e, h.mv (Mv.of_keep k)⟩, fun _ _ _ ⟨a, e, h⟩ k => ⟨a, e, h.mv (Mv.of_keep k)⟩, fun _ _ _ h k => h.mv (Mv.of_keep k), kI, fun _ _ _ ⟨a, e, h⟩ k => ⟨a, e, h.mv (Mv.of_keep k)⟩, kI, kI, fun _ _ _ h k => h.mv (Mv.of_keep k), trivial⟩ ⟨?_, ?_, ?_, ?_, ?_, ?_, ?_, ?_, ?_, ?_, ?_, ?_, ?_, ?_, ?_, ?_, ?_, ?_, ?_, ?_, trivial⟩ ?_
           ·intro F1 w1 k1 hf hd
            obtain ⟨F2, rfl⟩ := lit_of (F := F1) [(19, Value.pointer (some ⟨b4468, 0, none⟩))] ⟨hf 19 (by kernel_rfl), trivial⟩
            exact sp_plain rfl ((o_fieldL 4 f_53_4 rfl (⟨(Keep.refl _ _), rfl⟩)))
           ·intro F1 w1 k1 hf hd
            have k0 := (Keep.drew [] wl1).trans k1
            have hbs_b4468 := hbs_b4468.keep k0 (by simp)
            obtain ⟨F2, rfl⟩ := lit_of (F := F1) [(116, Value.pointer (some ⟨b4468, 4, none⟩))] ⟨hd 0 116 (by kernel_rfl), trivial⟩
            exact sp_plain rfl ((o_loadBx Try.underlying28 rfl (vo1_b4468_4) rfl hbs_b4468 rfl (⟨(Keep.refl _ _), rfl⟩)))
           ·intro F1 w1 k1 hf hd
            have k0 := (Keep.drew [] wl1).trans k1
            have m1 : Mv Bl1 wl1 Bl1 w1 := Mv.of_keep k0
            have hl4448 := hl4448.mv m1
            obtain ⟨F2, rfl⟩ := lit_of (F := F1) [(13, x4447)] ⟨hf 13 (by kernel_rfl), trivial⟩
            exact sp_plain rfl ((o_move (x4447) rfl (⟨(Keep.refl _ _), hl4448⟩)))
           ·intro F1 w1 k1 hf hd
            obtain ⟨F2, rfl⟩ := lit_of (F := F1) [(18, vI ((i : Nat) : Int))] ⟨hf 18 (by kernel_rfl), trivial⟩
            exact sp_plain rfl ((o_move (vI ((i : Nat) : Int)) rfl (⟨(Keep.refl _ _), rfl⟩)))
           ·intro F1 w1 k1 hf hd
            obtain ⟨v4504, e4506, hl4505⟩ : ∃ v, F1 118 = v ∧ RdL Enc.share w1 (Bl1 ++ O) v ((splitM sa (0 : Int) threshold many pc).1) := ⟨_, rfl, hd 2 118 (by kernel_rfl)⟩
            have := hl4505.len_le
            obtain ⟨F2, rfl⟩ := lit_of (F := F1) [(118, v4504), (119, vI ((i : Nat) : Int))] ⟨e4506, hd 3 119 (by kernel_rfl), trivial⟩
            exact sp_plain rfl ((o_idx Try.underlying38 s_53 .i64 ((i : Nat) : Int) i rfl rfl rfl hl4505 (by omega) fun a4507 hp4508 => (⟨(Keep.refl _ _), ⟨a4507, rfl, hp4508⟩⟩)))
           ·intro F1 w1 k1 hf hd
            obtain ⟨a4509, e4511, hp4510⟩ : ∃ a, F1 120 = .pointer (some a) ∧ PT Enc.share w1 (Bl1 ++ O) (.pointer (some a)) (((splitM sa (0 : Int) threshold many pc).1)[i]!) := hd 4 120 (by kernel_rfl)
            obtain ⟨F2, rfl⟩ := lit_of (F := F1) [(120, Value.pointer (some a4509))] ⟨e4511, trivial⟩
            exact sp_plain rfl ((o_fieldR 4 f_53_4 ((((splitM sa (0 : Int) threshold many pc).1)[i]!).data) rfl hp4510 (fun _ _ _ h => Enc_share_f4 h) fun a4512 hp4513 => (⟨(Keep.refl _ _), ⟨a4512, rfl, hp4513⟩⟩)))
           ·intro F1 w1 k1 hf hd
            obtain ⟨a4514, e4516, hp4515⟩ : ∃ a, F1 121 = .pointer (some a) ∧ PT (Enc.slice Enc.u8) w1 (Bl1 ++ O) (.pointer (some a)) ((((splitM sa (0 : Int) threshold many pc).1)[i]!).data) := hd 5 121 (by kernel_rfl)
            obtain ⟨F2, rfl⟩ := lit_of (F := F1) [(121, Value.pointer (some a4514))] ⟨e4516, trivial⟩
            refine sp_plain rfl ((o_loadL Try.underlying28 rfl rfl hp4515 fun v4517 hl4518 => (?_)))
            have := hl4518.len_le
            exact ⟨(Keep.refl _ _), hl4518⟩
           ·intro F1 w1 k1 hf hd
            obtain ⟨F2, rfl⟩ := lit_of (F := F1) [(20, vI ((k : Nat) : Int))] ⟨hf 20 (by kernel_rfl), trivial⟩
            exact sp_plain rfl ((o_move (vI ((k : Nat) : Int)) rfl (⟨(Keep.refl _ _), rfl⟩)))
           ·intro F1 w1 k1 hf hd
            obtain ⟨v4519, e4521, hl4520⟩ : ∃ v, F1 122 = v ∧ RdL Enc.u8 w1 (Bl1 ++ O) v ((((splitM sa (0 : Int) threshold many pc).1)[i]!).data) := ⟨_, rfl, hd 6 122 (by kernel_rfl)⟩
            have := hl4520.len_le
            obtain ⟨F2, rfl⟩ := lit_of (F := F1) [(122, v4519), (123, vI ((k : Nat) : Int))] ⟨e4521, hd 7 123 (by kernel_rfl), trivial⟩
            exact sp_plain rfl ((o_idx Try.underlying28 s_5 .i64 ((k : Nat) : Int) k rfl rfl rfl hl4520 (by omega) fun a4522 hp4523 => (⟨(Keep.refl _ _), ⟨a4522, rfl, hp4523⟩⟩)))
           ·intro F1 w1 k1 hf hd
            obtain ⟨a4524, e4526, hp4525⟩ : ∃ a, F1 124 = .pointer (some a) ∧ PT Enc.u8 w1 (Bl1 ++ O) (.pointer (some a)) (((((splitM sa (0 : Int) threshold many pc).1)[i]!).data)[k]!) := hd 8 124 (by kernel_rfl)
            obtain ⟨F2, rfl⟩ := lit_of (F := F1) [(124, Value.pointer (some a4524))] ⟨e4526, trivial⟩
            exact sp_plain rfl ((o_loadB Try.underlying5 rfl rfl hp4525 (⟨(Keep.refl _ _), rfl⟩)))
           ·intro F1 w1 k1 hf hd
            have k0 := (Keep.drew [] wl1).trans k1
            have m1 : Mv Bl1 wl1 Bl1 w1 := Mv.of_keep k0
            have hl4456 := hl4456.mv m1
            obtain ⟨F2, rfl⟩ := lit_of (F := F1) [(15, x4455)] ⟨hf 15 (by kernel_rfl), trivial⟩
            exact sp_plain rfl ((o_move (x4455) rfl (⟨(Keep.refl _ _), hl4456⟩)))
           ·intro F1 w1 k1 hf hd
            obtain ⟨F2, rfl⟩ := lit_of (F := F1) [(18, vI ((i : Nat) : Int))] ⟨hf 18 (by kernel_rfl), trivial⟩
            exact sp_plain rfl ((o_move (vI ((i : Nat) : Int)) rfl (⟨(Keep.refl _ _), rfl⟩)))
           ·intro F1 w1 k1 hf hd
            obtain ⟨v4527, e4529, hl4528⟩ : ∃ v, F1 126 = v ∧ RdL Enc.share w1 (Bl1 ++ O) v ((splitM sb (0 : Int) threshold many qc).1) := ⟨_, rfl, hd 10 126 (by kernel_rfl)⟩
            have := hl4528.len_le
            obtain ⟨F2, rfl⟩ := lit_of (F := F1) [(126, v4527), (127, vI ((i : Nat) : Int))] ⟨e4529, hd 11 127 (by kernel_rfl), trivial⟩
            exact sp_plain rfl ((o_idx Try.underlying38 s_53 .i64 ((i : Nat) : Int) i rfl rfl rfl hl4528 (by omega) fun a4530 hp4531 => (⟨(Keep.refl _ _), ⟨a4530, rfl, hp4531⟩⟩)))
           ·intro F1 w1 k1 hf hd
            obtain ⟨a4532, e4534, hp4533⟩ : ∃ a, F1 128 = .pointer (some a) ∧ PT Enc.share w1 (Bl1 ++ O) (.pointer (some a)) (((splitM sb (0 : Int) threshold many qc).1)[i]!) := hd 12 128 (by kernel_rfl)
            obtain ⟨F2, rfl⟩ := lit_of (F := F1) [(128, Value.pointer (some a4532))] ⟨e4534, trivial⟩
            exact sp_plain rfl ((o_fieldR 4 f_53_4 ((((splitM sb (0 : Int) threshold many qc).1)[i]!).data) rfl hp4533 (fun _ _ _ h => Enc_share_f4 h) fun a4535 hp4536 => (⟨(Keep.refl _ _), ⟨a4535, rfl, hp4536⟩⟩)))
           ·intro F1 w1 k1 hf hd
            obtain ⟨a4537, e4539, hp4538⟩ : ∃ a, F1 129 = .pointer (some a) ∧ PT (Enc.slice Enc.u8) w1 (Bl1 ++ O) (.pointer (some a)) ((((splitM sb (0 : Int) threshold many qc).1)[i]!).data) := hd 13 129 (by kernel_rfl)
            obtain ⟨F2, rfl⟩ := lit_of (F := F1) [(129, Value.pointer (some a4537))] ⟨e4539, trivial⟩
            refine sp_plain rfl ((o_loadL Try.underlying28 rfl rfl hp4538 fun v4540 hl4541 => (?_)))
            have := hl4541.len_le
            exact ⟨(Keep.refl _ _), hl4541⟩
           ·intro F1 w1 k1 hf hd
            obtain ⟨F2, rfl⟩ := lit_of (F := F1) [(20, vI ((k : Nat) : Int))] ⟨hf 20 (by kernel_rfl), trivial⟩
            exact sp_plain rfl ((o_move (vI ((k : Nat) : Int)) rfl (⟨(Keep.refl _ _), rfl⟩)))
           ·intro F1 w1 k1 hf hd
            obtain ⟨v4542, e4544, hl4543⟩ : ∃ v, F1 130 = v ∧ RdL Enc.u8 w1 (Bl1 ++ O) v ((((splitM sb (0 : Int) threshold many qc).1)[i]!).data) := ⟨_, rfl, hd 14 130 (by kernel_rfl)⟩
            have := hl4543.len_le
            obtain ⟨F2, rfl⟩ := lit_of (F := F1) [(130, v4542), (131, vI ((k : Nat) : Int))] ⟨e4544, hd 15 131 (by kernel_rfl), trivial⟩
            exact sp_plain rfl ((o_idx Try.underlying28 s_5 .i64 ((k : Nat) : Int) k rfl rfl rfl hl4543 (by omega) fun a4545 hp4546 => (⟨(Keep.refl _ _), ⟨a4545, rfl, hp4546⟩⟩)))
           ·intro F1 w1 k1 hf hd
            obtain ⟨a4547, e4549, hp4548⟩ : ∃ a, F1 132 = .pointer (some a) ∧ PT Enc.u8 w1 (Bl1 ++ O) (.pointer (some a)) (((((splitM sb (0 : Int) threshold many qc).1)[i]!).data)[k]!) := hd 16 132 (by kernel_rfl)
            obtain ⟨F2, rfl⟩ := lit_of (F := F1) [(132, Value.pointer (some a4547))] ⟨e4549, trivial⟩
            exact sp_plain rfl ((o_loadB Try.underlying5 rfl rfl hp4548 (⟨(Keep.refl _ _), rfl⟩)))
           ·intro F1 w1 k1 hf hd
            obtain ⟨F2, rfl⟩ := lit_of (F := F1) [(125, vB (((((splitM sa (0 : Int) threshold many pc).1)[i]!).data)[k]!)), (133, vB (((((splitM sb (0 : Int) threshold many qc).1)[i]!).data)[k]!))] ⟨hd 9 125 (by kernel_rfl), hd 17 133 (by kernel_rfl), trivial⟩
            exact sp_plain rfl ((o_xor8 (((((splitM sa (0 : Int) threshold many pc).1)[i]!).data)[k]!) (((((splitM sb (0 : Int) threshold many qc).1)[i]!).data)[k]!) rfl rfl (⟨(Keep.refl _ _), rfl⟩)))
           ·intro F1 w1 k1 hf hd
            have k0 := (Keep.drew [] wl1).trans k1
            have s1 := sl1.call k0
            obtain ⟨F2, rfl⟩ := lit_of (F := F1) [(134, vB ((((((splitM sa (0 : Int) threshold many pc).1)[i]!).data)[k]!) ^^^ (((((splitM sb (0 : Int) threshold many qc).1)[i]!).data)[k]!)))] ⟨hd 18 134 (by kernel_rfl), trivial⟩
            refine sp_plain rfl ((o_lit (E := Enc.u8) (xs := [.tmp 134]) Try.underlying28 s_5 z_5 (by decide) [vB ((((((splitM sa (0 : Int) threshold many pc).1)[i]!).data)[k]!) ^^^ (((((splitM sb (0 : Int) threshold many qc).1)[i]!).data)[k]!))] [[vB ((((((splitM sa (0 : Int) threshold many pc).1)[i]!).data)[k]!) ^^^ (((((splitM sb (0 : Int) threshold many qc).1)[i]!).data)[k]!))]] [(((((splitM sa (0 : Int) threshold many pc).1)[i]!).data)[k]!) ^^^ (((((splitM sb (0 : Int) threshold many qc).1)[i]!).data)[k]!)] rfl rfl rfl (Parts.cons rfl rfl (Parts.nil _ _ _)) (of_decide_eq_true rfl) s1 fun v4554 w4550 s4551 m4552 k4553 hl4555 => (?_)))
            have := hl4555.len_le
            exact ⟨k4553, hl4555⟩
           intro F4557 w4558 k4556 hT4559 hF4560
           have s4561 := sl1.call k4556
           have m4562 : Mv Bl1 wl1 Bl1 w4558 := Mv.of_keep k4556
           have h_sa := h_sa.mv m4562
           have h_sb := h_sb.mv m4562
           have hl4448 := hl4448.mv m4562
           have hl4456 := hl4456.mv m4562
           have ho0_17 := ho0_17.mv m4562 k4556 (by simp)
           have ho1_b4468_4 := ho1_b4468_4.mv m4562 k4556 (by simp)
           have hbs_b4468 := hbs_b4468.keep k4556 (by simp)
           obtain ⟨v4564, e4566, hl4565⟩ : ∃ v, F4557 135 = v ∧ RdL Enc.u8 w4558 (Bl1 ++ O) v ([(((((splitM sa (0 : Int) threshold many pc).1)[i]!).data)[k]!) ^^^ (((((splitM sb (0 : Int) threshold many qc).1)[i]!).data)[k]!)]) := ⟨_, rfl, hT4559 19 135 (by kernel_rfl) (by decide)⟩
           have := hl4565.len_le
           obtain ⟨F2, rfl⟩ := lit_of (F := F4557) [(0, sa_v), (1, sb_v), (13, x4447), (15, x4455), (17, vo0_17), (18, vI ((i : Nat) : Int)), (19, Value.pointer (some ⟨b4468, 0, none⟩)), (82, vI (((splitM sa (0 : Int) threshold many pc).1).length : Int)), (83, vI ((i : Nat) : Int)), (112, vI (sa.length : Int)), (113, vI ((k : Nat) : Int)), (178, undef), (117, vo1_b4468_4), (135, v4564)] ⟨hF4560 0 (by kernel_rfl), hF4560 1 (by kernel_rfl), hF4560 13 (by kernel_rfl), hF4560 15 (by kernel_rfl), hF4560 17 (by kernel_rfl), hF4560 18 (by kernel_rfl), hF4560 19 (by kernel_rfl), hF4560 82 (by kernel_rfl), hF4560 83 (by kernel_rfl), hF4560 112 (by kernel_rfl), hF4560 113 (by kernel_rfl), hF4560 178 (by kernel_rfl), hT4559 1 117 (by kernel_rfl) (by decide), e4566, trivial⟩
           clear hT4559 hF4560
           refine wl_s (o_append (E := Enc.u8) (l := (tab k fun q => (splitM sa (0 : Int) threshold many pc).1[i]!.data[q]! ^^^ (splitM sb (0 : Int) threshold many qc).1[i]!.data[q]!)) (m := [(((((splitM sa (0 : Int) threshold many pc).1)[i]!).data)[k]!) ^^^ (((((splitM sb (0 : Int) threshold many qc).1)[i]!).data)[k]!)]) Try.underlying28 i_5 rfl (by decide) rfl rfl ho1_b4468_4 hl4565 (fun _ hb => .inl hb) hB1_b4468_4 (by rw [tab_len]; simp; omega) (by rw [tab_len]; simp [maxLen]; omega) s4561 fun v4571 w4567 B4573 hB4574 at4575 sub4576 s4568 m4569 k4570 ho4572 => (?_))
           have ne4577 : ∀ b, vo0_17.ownBlock = some b → v4571.ownBlock ≠ some b := fun b hb e => by rcases at4575 with e1 | e1 <;> rw [e1] at e <;> first | (simp [Value.ownBlock] at e; done) | (exact absurd e (np1_b4468_4_vo0_17 b hb)) | (cases e; have := (ho0_17.lt _ hb).2; omega)
           have ne4578 : ∀ b, v4571.ownBlock = some b → b ≠ b4468 := fun b hb => by rcases at4575 with e1 | e1 <;> rw [e1] at hb <;> first | (simp [Value.ownBlock] at hb; done) | (exact nb1_b4468_4_b4468 b hb) | (cases hb; have := hbs_b4468.lt; omega)
           have hB0_17 : ∀ b, vo0_17.ownBlock = some b → b ∈ B4573 := fun b hb => sub4576 b (hB0_17 b hb)
           have hin_b4468 : b4468 ∈ B4573 := sub4576 b4468 (by first | assumption | (repeat (first | exact List.mem_cons_self | assumption | apply List.mem_cons_of_mem)))
           have h_sa := h_sa.mv m4569
           have h_sb := h_sb.mv m4569
           have hl4448 := hl4448.mv m4569
           have hl4456 := hl4456.mv m4569
           have ho0_17 := ho0_17.mv m4569 k4570 (fun b hb => by simp only [Option.mem_toList]; first | (simp [Value.ownBlock]; done) | exact np1_b4468_4_vo0_17 b hb)
           have hbs_b4468 := hbs_b4468.keep k4570 (by simp only [Option.mem_toList]; first | (simp [Value.ownBlock]; done) | exact fun e => absurd rfl (nb1_b4468_4_b4468 _ e))
           refine wl_s (o_fieldL 4 f_53_4 rfl (wl_n (o_store1 (v4571) rfl rfl ho4572.oneCell s_28 (by first | assumption | (repeat (first | exact List.mem_cons_self | assumption | apply List.mem_cons_of_mem))) hbs_b4468 (of_decide_eq_true rfl) s4568 fun w4579 s4580 m4581 k4582 bx4583 => (?_))))
           have h_sa := h_sa.mv m4581
           have h_sb := h_sb.mv m4581
           have hl4448 := hl4448.mv m4581
           have hl4456 := hl4456.mv m4581
           have ho0_17 := ho0_17.mv m4581 k4582 (fun b hb => by simp only [List.mem_singleton]; exact ne4475 b hb)
           have ho4572 := ho4572.mv m4581 k4582 (fun b hb => by simp only [List.mem_singleton]; exact ne4578 b hb)
           refine wl_nil (blockQ_n (thenQ_n (?_)))
           refine cw_region (by kernel_rfl) (wl_s (o_add .i64 ((k : Nat) : Int) (1 : Int) (((k + 1 : Nat) : Int)) rfl rfl (w64 (by omega) (by omega)) (wl_s (o_move (vI ((k + 1 : Nat) : Int)) rfl (wl_nil (thenQ_n (?_)))))))
           exact ⟨_, (by omega), (k + 1), v4571, B4573, (by first | omega | (simp; done) | (simp; omega) | simp_all), rfl, ⟨_, upds_self _ ⟨rfl, rfl, rfl, rfl, rfl, rfl, rfl, rfl, rfl, rfl, (by first | rfl | exact congrArg (Value.int _) (by first | omega | (simp))), rfl, trivial⟩⟩, s4580, (by rw [show (tab (k + 1) fun q => (splitM sa (0 : Int) threshold many pc).1[i]!.data[q]! ^^^ (splitM sb (0 : Int) threshold many qc).1[i]!.data[q]!) = (tab k fun q => (splitM sa (0 : Int) threshold many pc).1[i]!.data[q]! ^^^ (splitM sb (0 : Int) threshold many qc).1[i]!.data[q]!) ++ ([(((((splitM sa (0 : Int) threshold many pc).1)[i]!).data)[k]!) ^^^ (((((splitM sb (0 : Int) threshold many qc).1)[i]!).data)[k]!)]) from tab_succ _ _]; exact ho4572), hB4574, h_sa, h_sb, hl4448, hl4456, ho0_17, hB0_17, bx4583, (by first | assumption | (repeat (first | exact List.mem_cons_self | assumption | apply List.mem_cons_of_mem)) | (apply_assumption; assumption)), ne4578, (fun b hb e => ne4577 b e hb), ne4577⟩
          ·have hp4584 : (sa.length : Int) ≤ ((k : Nat) : Int) := by first | simpa using hc4502 | (have e := hc4502; simp at e; omega)
           obtain rfl : k = sa.length := by omega
           refine cw_exit (thenQ_x (thenQ_x (blockQ_x (thenQ_n (?_)))))
           refine cw_region (by kernel_rfl) (wl_s (o_move (vo0_17) rfl (wl_s (o_loadBxA (vs := [vI ((((splitM sa (0 : Int) threshold many pc).1)[i]!).epoch), vI ((((splitM sa (0 : Int) threshold many pc).1)[i]!).index), vI ((((splitM sa (0 : Int) threshold many pc).1)[i]!).threshold), vI ((((splitM sa (0 : Int) threshold many pc).1)[i]!).many), vo1_b4468_4]) Try.underlying53 rfl s_53 rfl hbs_b4468 rfl (?_)))))
           obtain ⟨B4585, s4586, m4587, hl4588, hk4589⟩ := ho1_b4468_4.publish sl1
           have hB0_17 : ∀ b, vo0_17.ownBlock = some b → b ∈ B4585 := fun b hb => hk4589 b (hB0_17 b hb) (np1_b4468_4_vo0_17 b hb)
           have hin_b4468 : b4468 ∈ B4585 := hk4589 b4468 (by first | assumption | (repeat (first | exact List.mem_cons_self | assumption | apply List.mem_cons_of_mem))) (fun e => absurd rfl (nb1_b4468_4_b4468 _ e))
           have lim4590 := hl4588.len_le
           have h_sa := h_sa.mv m4587
           have h_sb := h_sb.mv m4587
           have hl4448 := hl4448.mv m4587
           have hl4456 := hl4456.mv m4587
           have ho0_17 := ho0_17.mv m4587 (Keep.refl [] _) (by simp)
           have hbs_b4468 := hbs_b4468.keep (Keep.refl [] _) (by simp)
           refine wl_s (o_lit (E := Enc.share) (xs := [.tmp 140]) Try.underlying38 s_53 z_53 (by decide) [.agg #[vI ((((splitM sa (0 : Int) threshold many pc).1)[i]!).epoch), vI ((((splitM sa (0 : Int) threshold many pc).1)[i]!).index), vI ((((splitM sa (0 : Int) threshold many pc).1)[i]!).threshold), vI ((((splitM sa (0 : Int) threshold many pc).1)[i]!).many), vo1_b4468_4]] [[vI ((((splitM sa (0 : Int) threshold many pc).1)[i]!).epoch), vI ((((splitM sa (0 : Int) threshold many pc).1)[i]!).index), vI ((((splitM sa (0 : Int) threshold many pc).1)[i]!).threshold), vI ((((splitM sa (0 : Int) threshold many pc).1)[i]!).many), vo1_b4468_4]] [(⟨(((splitM sa (0 : Int) threshold many pc).1)[i]!).epoch, (((splitM sa (0 : Int) threshold many pc).1)[i]!).index, (((splitM sa (0 : Int) threshold many pc).1)[i]!).threshold, (((splitM sa (0 : Int) threshold many pc).1)[i]!).many, (tab sa.length fun q => (splitM sa (0 : Int) threshold many pc).1[i]!.data[q]! ^^^ (splitM sb (0 : Int) threshold many qc).1[i]!.data[q]!)⟩ : Share)] rfl rfl rfl (Parts.cons rfl ⟨_, rfl, hl4588⟩ (Parts.nil _ _ _)) (of_decide_eq_true rfl) s4586 fun v4595 w4591 s4592 m4593 k4594 hl4596 => (?_))
           have h_sa := h_sa.mv m4593
           have h_sb := h_sb.mv m4593
           have hl4448 := hl4448.mv m4593
           have hl4456 := hl4456.mv m4593
           have ho0_17 := ho0_17.mv m4593 k4594 (by simp)
           have hbs_b4468 := hbs_b4468.keep k4594 (by simp)
           have := hl4596.len_le
           refine wl_s (o_append (E := Enc.share) (l := (sumL (splitM sa (0 : Int) threshold many pc).1 (splitM sb (0 : Int) threshold many qc).1 sa.length i)) (m := [(⟨(((splitM sa (0 : Int) threshold many pc).1)[i]!).epoch, (((splitM sa (0 : Int) threshold many pc).1)[i]!).index, (((splitM sa (0 : Int) threshold many pc).1)[i]!).threshold, (((splitM sa (0 : Int) threshold many pc).1)[i]!).many, (tab sa.length fun q => (splitM sa (0 : Int) threshold many pc).1[i]!.data[q]! ^^^ (splitM sb (0 : Int) threshold many qc).1[i]!.data[q]!)⟩ : Share)]) Try.underlying38 i_53 rfl (by decide) rfl rfl ho0_17 hl4596 (fun _ hb => .inl hb) hB0_17 (by rw [sumL_len]; simp; omega) (by rw [sumL_len]; simp [maxLen]; omega) s4592 fun v4601 w4597 B4603 hB4604 at4605 sub4606 s4598 m4599 k4600 ho4602 => (?_))
           have ne4607 : ∀ b, v4601.ownBlock = some b → b ≠ b4468 := fun b hb => by rcases at4605 with e1 | e1 <;> rw [e1] at hb <;> first | (simp [Value.ownBlock] at hb; done) | (exact ne4475 b hb) | (cases hb; have := hbs_b4468.lt; omega)
           have hin_b4468 : b4468 ∈ B4603 := sub4606 b4468 (by first | assumption | (repeat (first | exact List.mem_cons_self | assumption | apply List.mem_cons_of_mem)))
           have h_sa := h_sa.mv m4599
           have h_sb := h_sb.mv m4599
           have hl4448 := hl4448.mv m4599
           have hl4456 := hl4456.mv m4599
           refine wl_s (o_assign (v4601) rfl (wl_nil (blockQ_n (thenQ_n (?_)))))
           refine cw_region (by kernel_rfl) (wl_s (o_add .i64 ((i : Nat) : Int) (1 : Int) (((i + 1 : Nat) : Int)) rfl rfl (w64 (by omega) (by omega)) (wl_s (o_move (vI ((i + 1 : Nat) : Int)) rfl (wl_nil (thenQ_n (?_)))))))
           exact ⟨_, (by omega), (i + 1), v4601, B4603, (by first | omega | (simp; done) | (simp; omega) | simp_all), rfl, ⟨_, upds_self _ ⟨rfl, rfl, rfl, rfl, rfl, rfl, (by first | rfl | exact congrArg (Value.int _) (by first | omega | (simp))), rfl, trivial⟩⟩, s4598, (by rw [show (sumL (splitM sa (0 : Int) threshold many pc).1 (splitM sb (0 : Int) threshold many qc).1 sa.length (i + 1)) = (sumL (splitM sa (0 : Int) threshold many pc).1 (splitM sb (0 : Int) threshold many qc).1 sa.length i) ++ ([(⟨(((splitM sa (0 : Int) threshold many pc).1)[i]!).epoch, (((splitM sa (0 : Int) threshold many pc).1)[i]!).index, (((splitM sa (0 : Int) threshold many pc).1)[i]!).threshold, (((splitM sa (0 : Int) threshold many pc).1)[i]!).many, (tab sa.length fun q => (splitM sa (0 : Int) threshold many pc).1[i]!.data[q]! ^^^ (splitM sb (0 : Int) threshold many qc).1[i]!.data[q]!)⟩ : Share)]) from sumL_succ _ _ _ _]; exact ho4602), hB4604, h_sa, h_sb, hl4448, hl4456⟩
        ·have hp4608 : (((splitM sa (0 : Int) threshold many pc).1).length : Int) ≤ ((i : Nat) : Int) := by first | simpa using hc4462 | (have e := hc4462; simp at e; omega)
         obtain rfl : i = (splitM sa (0 : Int) threshold many pc).1.length := by omega
         refine cw_exit (thenQ_x (thenQ_x (blockQ_x (thenQ_n (?_)))))
         refine cw_seq (?_)
         refine cw_region (by kernel_rfl) (wl_s (o_move (vo0_17) rfl (?_)))
         obtain ⟨B4609, s4610, m4611, hl4612, hk4613⟩ := ho0_17.publish sl0
         have lim4614 := hl4612.len_le
         have h_sa := h_sa.mv m4611
         have h_sb := h_sb.mv m4611
         refine wl_s (o_callK (vs := [vo0_17]) enter_35 (c_join (O := B4609 ++ O) vo0_17 (sumL (splitM sa (0 : Int) threshold many pc).1 (splitM sb (0 : Int) threshold many qc).1 sa.length ((splitM sa (0 : Int) threshold many pc).1.length)) wl0 hl4612 s4610.lt) rfl s4610 fun v4615 w4616 s4617 m4618 k4619 r4620 => (?_))
         obtain ⟨x4621, rfl, hl4622⟩ := r4620
         have := hl4622.len_le
         have h_sa := h_sa.mv m4618
         have h_sb := h_sb.mv m4618
         refine wl_s (o_move (Value.tuple #[x4621, vI ((joinM (sumL (splitM sa (0 : Int) threshold many pc).1 (splitM sb (0 : Int) threshold many qc).1 sa.length ((splitM sa (0 : Int) threshold many pc).1.length))).2)]) rfl (wl_s (o_extract (x4621) rfl rfl (wl_s (o_extract (vI ((joinM (sumL (splitM sa (0 : Int) threshold many pc).1 (splitM sb (0 : Int) threshold many qc).1 sa.length ((splitM sa (0 : Int) threshold many pc).1.length))).2)) rfl rfl (wl_s (o_assign (x4621) rfl (wl_s (o_assign (vI ((joinM (sumL (splitM sa (0 : Int) threshold many pc).1 (splitM sb (0 : Int) threshold many qc).1 sa.length ((splitM sa (0 : Int) threshold many pc).1.length))).2)) rfl (wl_nil (thenQ_n (?_))))))))))))
         refine cw_seq (?_)
         refine cw_seq (?_)
         refine cw_region (by kernel_rfl) (wl_s (o_move (vI ((joinM (sumL (splitM sa (0 : Int) threshold many pc).1 (splitM sb (0 : Int) threshold many qc).1 sa.length ((splitM sa (0 : Int) threshold many pc).1.length))).2)) rfl (wl_s (o_neq .i64 ((joinM (sumL (splitM sa (0 : Int) threshold many pc).1 (splitM sb (0 : Int) threshold many qc).1 sa.length ((splitM sa (0 : Int) threshold many pc).1.length))).2) (0 : Int) rfl rfl (wl_s (o_move (Value.bool (((joinM (sumL (splitM sa (0 : Int) threshold many pc).1 (splitM sb (0 : Int) threshold many qc).1 sa.length ((splitM sa (0 : Int) threshold many pc).1.length))).2) != (0 : Int))) rfl (?_)))))))
         have hb4623 : (((joinM (sumL (splitM sa (0 : Int) threshold many pc).1 (splitM sb (0 : Int) threshold many qc).1 sa.length ((splitM sa (0 : Int) threshold many pc).1.length))).2) != (0 : Int)) = false := (by rw [spl_sum hS hT (by omega)]; rfl)
         rw [hb4623]
         refine wl_t rfl (o_move (x4621) rfl (wl_t rfl (o_lenR Try.underlying28 rfl hl4622 (wl_t rfl (o_move (sa_v) rfl (wl_t rfl (o_lenR Try.underlying28 rfl h_sa (wl_t rfl (o_neq .i64 (((joinM (sumL (splitM sa (0 : Int) threshold many pc).1 (splitM sb (0 : Int) threshold many qc).1 sa.length ((splitM sa (0 : Int) threshold many pc).1.length))).1).length : Int) (sa.length : Int) rfl rfl (wl_s (o_pickF (Value.bool ((((joinM (sumL (splitM sa (0 : Int) threshold many pc).1 (splitM sb (0 : Int) threshold many qc).1 sa.length ((splitM sa (0 : Int) threshold many pc).1.length))).1).length : Int) != (sa.length : Int))) rfl rfl (wl_nil (thenQ_n (?_))))))))))))))
         have hb4624 : ((((joinM (sumL (splitM sa (0 : Int) threshold many pc).1 (splitM sb (0 : Int) threshold many qc).1 sa.length ((splitM sa (0 : Int) threshold many pc).1.length))).1).length : Int) != (sa.length : Int)) = false := (by rw [spl_sum hS hT (by omega)]; simp [tab_len])
         rw [hb4624]
         refine cw_cond false rfl rfl (fun h => by cases h) (fun _ => ?_)
         refine cw_skip (thenQ_n (?_))
         refine cw_seq (?_)
         refine cw_seq (?_)
         refine cw_region (by kernel_rfl) (wl_s (o_move (sa_v) rfl (wl_s (o_lenR Try.underlying28 rfl h_sa (wl_s (o_move (vI (0 : Int)) rfl (wl_nil (thenQ_n (?_)))))))))
         refine cw_block (?_)
         have hjl : (joinM (sumL (splitM sa (0 : Int) threshold many pc).1 (splitM sb (0 : Int) threshold many qc).1 sa.length (splitM sa (0 : Int) threshold many pc).1.length)).1.length = sa.length := by rw [spl_sum hS hT (by omega)]; exact tab_len _ _
         refine cw_loop (fun mI FI wI => ∃ (j : Nat) (B : List Nat), j ≤ sa.length ∧ mI = sa.length - j ∧ (∃ F1, FI = upds F1 [(0, sa_v), (1, sb_v), (21, x4621), (159, vI (sa.length : Int)), (160, vI ((j : Nat) : Int)), (178, undef)]) ∧ St w O wI B ∧ RdL Enc.u8 wI (B ++ O) (sa_v) (sa) ∧ RdL Enc.u8 wI (B ++ O) (sb_v) (sb) ∧ RdL Enc.u8 wI (B ++ O) (x4621) ((joinM (sumL (splitM sa (0 : Int) threshold many pc).1 (splitM sb (0 : Int) threshold many qc).1 sa.length ((splitM sa (0 : Int) threshold many pc).1.length))).1)) (sa.length - (0)) ?_ ?_
         ·exact ⟨(0), B4609, (by first | omega | (simp; done) | (simp; omega) | simp_all), rfl, ⟨_, upds_self _ ⟨rfl, rfl, rfl, rfl, (by first | rfl | exact congrArg (Value.int _) (by first | omega | (simp))), rfl, trivial⟩⟩, s4617, h_sa, h_sb, hl4622⟩
         ·intro ml2 F wl2 hI
          clear h_sa h_sb hl4622
          obtain ⟨j, Bl2, hr2_0, hm2, ⟨Fl2, rfl⟩, sl2, h_sa, h_sb, hl4622⟩ := hI
          refine cw_seq (?_)
          refine cw_region (by kernel_rfl) (wl_s (o_lss .i64 ((j : Nat) : Int) (sa.length : Int) rfl rfl (wl_nil (thenQ_n (?_)))))
          refine cw_seq (?_)
          refine cw_cond (decide (((j : Nat) : Int) < (sa.length : Int))) rfl rfl (fun hc4625 => ?_) (fun hc4625 => ?_)
          ·have hp4626 : ((j : Nat) : Int) < (sa.length : Int) := by first | simpa using hc4625 | (have e := hc4625; simp at e; omega)
           refine cw_skip (thenQ_n (?_))
           refine cw_seq (?_)
           refine cw_block (?_)
           refine cw_seq (?_)
           refine cw_region (by kernel_rfl) (wl_s (o_move (vI ((j : Nat) : Int)) rfl (wl_s (o_assign (vI ((j : Nat) : Int)) rfl (wl_nil (thenQ_n (?_)))))))
           refine cw_seq (?_)
           refine cw_draw' 13 _ _ [fun (vT : Value) (wT : World) => RdL Enc.u8 wT (Bl2 ++ O) vT ((joinM (sumL (splitM sa (0 : Int) threshold many pc).1 (splitM sb (0 : Int) threshold many qc).1 sa.length ((splitM sa (0 : Int) threshold many pc).1.length))).1), isV (vI ((j : Nat) : Int)), fun (vT : Value) (wT : World) => ∃ aT, vT = .pointer (some aT) ∧ PT Enc.u8 wT (Bl2 ++ O) (.pointer (some aT)) (((joinM (sumL (splitM sa (0 : Int) threshold many pc).1 (splitM sb (0 : Int) threshold many qc).1 sa.length ((splitM sa (0 : Int) threshold many pc).1.length))).1)[j]!), isV (vB (((joinM (sumL (splitM sa (0 : Int) threshold many pc).1 (splitM sb (0 : Int) threshold many qc).1 sa.length ((splitM sa (0 : Int) threshold many pc).1.length))).1)[j]!)), fun (vT : Value) (wT : World) => RdL Enc.u8 wT (Bl2 ++ O) vT (sa), isV (vI ((j : Nat) : Int)), fun (vT : Value) (wT : World) => ∃ aT, vT = .pointer (some aT) ∧ PT Enc.u8 wT (Bl2 ++ O) (.pointer (some aT)) (sa[j]!), isV (vB (sa[j]!)), fun (vT : Value) (wT : World) => RdL Enc.u8 wT (Bl2 ++ O) vT (sb), isV (vI ((j : Nat) : Int)), fun (vT : Value) (wT : World) => ∃ aT, vT = .pointer (some aT) ∧ PT Enc.u8 wT (Bl2 ++ O) (.pointer (some aT)) (sb[j]!), isV (vB (sb[j]!)), isV (vB ((sa[j]!) ^^^ (sb[j]!)))] (by kernel_rfl) (by kernel_rfl) (by kernel_rfl) (by kernel_rfl) rfl rfl ⟨fun _ _ _ h k => h.mv (Mv.of_keep k), kI, fun _ _ _ ⟨a, e, h⟩ k => ⟨a, e, h.mv (Mv.of_keep k)⟩, kI, fun _ _ _ h k => h.mv (Mv.of_keep k), kI, fun _ _ _ ⟨a, e, h⟩ k => ⟨a, e, h.mv (Mv.of_keep k)⟩, kI, fun _ _ _ h k => h.mv (Mv.of_keep k), kI, fun _ _ _ ⟨a, e, h⟩ k => ⟨a, e, h.mv (Mv.of_keep k)⟩, kI, kI, trivial⟩ ⟨?_, ?_, ?_, ?_, ?_, ?_, ?_, ?_, ?_, ?_, ?_, ?_, ?_, trivial⟩ ?_
           ·intro F1 w1 k1 hf hd
            have k0 := (Keep.drew [] wl2).trans k1
            have m1 : Mv Bl2 wl2 Bl2 w1 := Mv.of_keep k0
            have hl4622 := hl4622.mv m1
            obtain ⟨F2, rfl⟩ := lit_of (F := F1) [(21, x4621)] ⟨hf 21 (by kernel_rfl), trivial⟩
            exact sp_plain rfl ((o_move (x4621) rfl (⟨(Keep.refl _ _), hl4622⟩)))
           ·intro F1 w1 k1 hf hd
            obtain ⟨F2, rfl⟩ := lit_of (F := F1) [(23, vI ((j : Nat) : Int))] ⟨hf 23 (by kernel_rfl), trivial⟩
            exact sp_plain rfl ((o_move (vI ((j : Nat) : Int)) rfl (⟨(Keep.refl _ _), rfl⟩)))
           ·intro F1 w1 k1 hf hd
            obtain ⟨v4627, e4629, hl4628⟩ : ∃ v, F1 163 = v ∧ RdL Enc.u8 w1 (Bl2 ++ O) v ((joinM (sumL (splitM sa (0 : Int) threshold many pc).1 (splitM sb (0 : Int) threshold many qc).1 sa.length ((splitM sa (0 : Int) threshold many pc).1.length))).1) := ⟨_, rfl, hd 0 163 (by kernel_rfl)⟩
            have := hl4628.len_le
            obtain ⟨F2, rfl⟩ := lit_of (F := F1) [(163, v4627), (164, vI ((j : Nat) : Int))] ⟨e4629, hd 1 164 (by kernel_rfl), trivial⟩
            exact sp_plain rfl ((o_idx Try.underlying28 s_5 .i64 ((j : Nat) : Int) j rfl rfl rfl hl4628 (by omega) fun a4630 hp4631 => (⟨(Keep.refl _ _), ⟨a4630, rfl, hp4631⟩⟩)))
           ·intro F1 w1 k1 hf hd
            obtain ⟨a4632, e4634, hp4633⟩ : ∃ a, F1 165 = .pointer (some a) ∧ PT Enc.u8 w1 (Bl2 ++ O) (.pointer (some a)) (((joinM (sumL (splitM sa (0 : Int) threshold many pc).1 (splitM sb (0 : Int) threshold many qc).1 sa.length ((splitM sa (0 : Int) threshold many pc).1.length))).1)[j]!) := hd 2 165 (by kernel_rfl)
            obtain ⟨F2, rfl⟩ := lit_of (F := F1) [(165, Value.pointer (some a4632))] ⟨e4634, trivial⟩
            exact sp_plain rfl ((o_loadB Try.underlying5 rfl rfl hp4633 (⟨(Keep.refl _ _), rfl⟩)))
           ·intro F1 w1 k1 hf hd
            have k0 := (Keep.drew [] wl2).trans k1
            have m1 : Mv Bl2 wl2 Bl2 w1 := Mv.of_keep k0
            have h_sa := h_sa.mv m1
            obtain ⟨F2, rfl⟩ := lit_of (F := F1) [(0, sa_v)] ⟨hf 0 (by kernel_rfl), trivial⟩
            exact sp_plain rfl ((o_move (sa_v) rfl (⟨(Keep.refl _ _), h_sa⟩)))
           ·intro F1 w1 k1 hf hd
            obtain ⟨F2, rfl⟩ := lit_of (F := F1) [(23, vI ((j : Nat) : Int))] ⟨hf 23 (by kernel_rfl), trivial⟩
            exact sp_plain rfl ((o_move (vI ((j : Nat) : Int)) rfl (⟨(Keep.refl _ _), rfl⟩)))
           ·intro F1 w1 k1 hf hd
            obtain ⟨v4635, e4637, hl4636⟩ : ∃ v, F1 167 = v ∧ RdL Enc.u8 w1 (Bl2 ++ O) v (sa) := ⟨_, rfl, hd 4 167 (by kernel_rfl)⟩
            have := hl4636.len_le
            obtain ⟨F2, rfl⟩ := lit_of (F := F1) [(167, v4635), (168, vI ((j : Nat) : Int))] ⟨e4637, hd 5 168 (by kernel_rfl), trivial⟩
            exact sp_plain rfl ((o_idx Try.underlying28 s_5 .i64 ((j : Nat) : Int) j rfl rfl rfl hl4636 (by omega) fun a4638 hp4639 => (⟨(Keep.refl _ _), ⟨a4638, rfl, hp4639⟩⟩)))
           ·intro F1 w1 k1 hf hd
            obtain ⟨a4640, e4642, hp4641⟩ : ∃ a, F1 169 = .pointer (some a) ∧ PT Enc.u8 w1 (Bl2 ++ O) (.pointer (some a)) (sa[j]!) := hd 6 169 (by kernel_rfl)
            obtain ⟨F2, rfl⟩ := lit_of (F := F1) [(169, Value.pointer (some a4640))] ⟨e4642, trivial⟩
            exact sp_plain rfl ((o_loadB Try.underlying5 rfl rfl hp4641 (⟨(Keep.refl _ _), rfl⟩)))
           ·intro F1 w1 k1 hf hd
            have k0 := (Keep.drew [] wl2).trans k1
            have m1 : Mv Bl2 wl2 Bl2 w1 := Mv.of_keep k0
            have h_sb := h_sb.mv m1
            obtain ⟨F2, rfl⟩ := lit_of (F := F1) [(1, sb_v)] ⟨hf 1 (by kernel_rfl), trivial⟩
            exact sp_plain rfl ((o_move (sb_v) rfl (⟨(Keep.refl _ _), h_sb⟩)))
           ·intro F1 w1 k1 hf hd
            obtain ⟨F2, rfl⟩ := lit_of (F := F1) [(23, vI ((j : Nat) : Int))] ⟨hf 23 (by kernel_rfl), trivial⟩
            exact sp_plain rfl ((o_move (vI ((j : Nat) : Int)) rfl (⟨(Keep.refl _ _), rfl⟩)))
           ·intro F1 w1 k1 hf hd
            obtain ⟨v4643, e4645, hl4644⟩ : ∃ v, F1 171 = v ∧ RdL Enc.u8 w1 (Bl2 ++ O) v (sb) := ⟨_, rfl, hd 8 171 (by kernel_rfl)⟩
            have := hl4644.len_le
            obtain ⟨F2, rfl⟩ := lit_of (F := F1) [(171, v4643), (172, vI ((j : Nat) : Int))] ⟨e4645, hd 9 172 (by kernel_rfl), trivial⟩
            exact sp_plain rfl ((o_idx Try.underlying28 s_5 .i64 ((j : Nat) : Int) j rfl rfl rfl hl4644 (by omega) fun a4646 hp4647 => (⟨(Keep.refl _ _), ⟨a4646, rfl, hp4647⟩⟩)))
           ·intro F1 w1 k1 hf hd
            obtain ⟨a4648, e4650, hp4649⟩ : ∃ a, F1 173 = .pointer (some a) ∧ PT Enc.u8 w1 (Bl2 ++ O) (.pointer (some a)) (sb[j]!) := hd 10 173 (by kernel_rfl)
            obtain ⟨F2, rfl⟩ := lit_of (F := F1) [(173, Value.pointer (some a4648))] ⟨e4650, trivial⟩
            exact sp_plain rfl ((o_loadB Try.underlying5 rfl rfl hp4649 (⟨(Keep.refl _ _), rfl⟩)))
           ·intro F1 w1 k1 hf hd
            obtain ⟨F2, rfl⟩ := lit_of (F := F1) [(170, vB (sa[j]!)), (174, vB (sb[j]!))] ⟨hd 7 170 (by kernel_rfl), hd 11 174 (by kernel_rfl), trivial⟩
            exact sp_plain rfl ((o_xor8 (sa[j]!) (sb[j]!) rfl rfl (⟨(Keep.refl _ _), rfl⟩)))
           intro F4652 w4653 k4651 hT4654 hF4655
           have s4656 := sl2.call k4651
           have m4657 : Mv Bl2 wl2 Bl2 w4653 := Mv.of_keep k4651
           have h_sa := h_sa.mv m4657
           have h_sb := h_sb.mv m4657
           have hl4622 := hl4622.mv m4657
           obtain ⟨F2, rfl⟩ := lit_of (F := F4652) [(0, sa_v), (1, sb_v), (21, x4621), (159, vI (sa.length : Int)), (160, vI ((j : Nat) : Int)), (178, undef), (166, vB (((joinM (sumL (splitM sa (0 : Int) threshold many pc).1 (splitM sb (0 : Int) threshold many qc).1 sa.length ((splitM sa (0 : Int) threshold many pc).1.length))).1)[j]!)), (175, vB ((sa[j]!) ^^^ (sb[j]!)))] ⟨hF4655 0 (by kernel_rfl), hF4655 1 (by kernel_rfl), hF4655 21 (by kernel_rfl), hF4655 159 (by kernel_rfl), hF4655 160 (by kernel_rfl), hF4655 178 (by kernel_rfl), hT4654 3 166 (by kernel_rfl) (by decide), hT4654 12 175 (by kernel_rfl) (by decide), trivial⟩
           clear hT4654 hF4655
           refine wl_s (o_neq8 (((joinM (sumL (splitM sa (0 : Int) threshold many pc).1 (splitM sb (0 : Int) threshold many qc).1 sa.length ((splitM sa (0 : Int) threshold many pc).1.length))).1)[j]!) ((sa[j]!) ^^^ (sb[j]!)) rfl rfl (wl_nil (thenQ_n (?_))))
           have hb4659 : ((((joinM (sumL (splitM sa (0 : Int) threshold many pc).1 (splitM sb (0 : Int) threshold many qc).1 sa.length ((splitM sa (0 : Int) threshold many pc).1.length))).1)[j]!) != ((sa[j]!) ^^^ (sb[j]!))) = false := (by rw [spl_sum hS hT (by omega)]; simp only [tab_get]; rw [if_pos (by omega)]; simp)
           rw [hb4659]
           refine cw_cond false rfl rfl (fun h => by cases h) (fun _ => ?_)
           refine cw_skip (blockQ_n (thenQ_n (?_)))
           refine cw_region (by kernel_rfl) (wl_s (o_add .i64 ((j : Nat) : Int) (1 : Int) (((j + 1 : Nat) : Int)) rfl rfl (w64 (by omega) (by omega)) (wl_s (o_move (vI ((j + 1 : Nat) : Int)) rfl (wl_nil (thenQ_n (?_)))))))
           exact ⟨_, (by omega), (j + 1), Bl2, (by first | omega | (simp; done) | (simp; omega) | simp_all), rfl, ⟨_, upds_self _ ⟨rfl, rfl, rfl, rfl, (by first | rfl | exact congrArg (Value.int _) (by first | omega | (simp))), rfl, trivial⟩⟩, s4656, h_sa, h_sb, hl4622⟩
          ·have hp4660 : (sa.length : Int) ≤ ((j : Nat) : Int) := by first | simpa using hc4625 | (have e := hc4625; simp at e; omega)
           refine cw_exit (thenQ_x (thenQ_x (blockQ_x (thenQ_n (?_)))))
           refine cw_seq (?_)
           refine cw_region (by kernel_rfl) (wl_s (o_assign (Value.bool true) rfl (wl_nil (thenQ_n (?_)))))
           refine cw_ret (end_r rfl (res1 rfl rfl rfl) (?_))
           exact ⟨_, rfl, sl2.keep, rfl⟩
      ·have hp4661 : (splitM sb (0 : Int) threshold many qc).2 ≠ (0 : Int) := by first | simpa using hb4459 | (have e := hb4459; simp at e; omega)
       refine wl_k rfl (wl_k rfl (wl_k rfl (wl_k rfl (wl_k rfl (wl_s (o_pickT (Value.bool true) rfl rfl (wl_nil (thenQ_n (?_)))))))))
       refine cw_cond true rfl rfl (fun _ => ?_) (fun h => by cases h)
       refine cw_seq (?_)
       refine cw_region (by kernel_rfl) (wl_s (o_move (vI ((splitM sa (0 : Int) threshold many pc).2)) rfl (wl_s (o_neq .i64 ((splitM sa (0 : Int) threshold many pc).2) (0 : Int) rfl rfl (wl_s (o_move (Value.bool (((splitM sa (0 : Int) threshold many pc).2) != (0 : Int))) rfl (?_)))))))
       have hb4662 : (((splitM sa (0 : Int) threshold many pc).2) != (0 : Int)) = false := hb4457
       rw [hb4662]
       refine wl_t rfl (o_move (vI ((splitM sb (0 : Int) threshold many qc).2)) rfl (wl_t rfl (o_neq .i64 ((splitM sb (0 : Int) threshold many qc).2) (0 : Int) rfl rfl (wl_s (o_pickF (Value.bool (((splitM sb (0 : Int) threshold many qc).2) != (0 : Int))) rfl rfl (wl_s (o_assign (Value.bool (((splitM sb (0 : Int) threshold many qc).2) != (0 : Int))) rfl (wl_nil (thenQ_n (?_))))))))))
       refine cw_ret (thenQ_r (end_r rfl (res1 rfl rfl rfl) (?_)))
       have e : true = (((splitM sb (0 : Int) threshold many qc).2) != (0 : Int)) := by first | rfl | simp_all
       exact ⟨_, rfl, s4451.keep, by rw [e]; exact rfl⟩
     ·have hp4663 : (splitM sa (0 : Int) threshold many pc).2 ≠ (0 : Int) := by first | simpa using hb4457 | (have e := hb4457; simp at e; omega)
      refine wl_k rfl (wl_k rfl (wl_s (o_pickT (Value.bool true) rfl rfl (wl_s (o_move (Value.bool true) rfl (wl_k rfl (wl_k rfl (wl_k rfl (wl_k rfl (wl_k rfl (wl_s (o_pickT (Value.bool true) rfl rfl (wl_nil (thenQ_n (?_)))))))))))))))
      refine cw_cond true rfl rfl (fun _ => ?_) (fun h => by cases h)
      refine cw_seq (?_)
      refine cw_region (by kernel_rfl) (wl_s (o_move (vI ((splitM sa (0 : Int) threshold many pc).2)) rfl (wl_s (o_neq .i64 ((splitM sa (0 : Int) threshold many pc).2) (0 : Int) rfl rfl (wl_s (o_move (Value.bool (((splitM sa (0 : Int) threshold many pc).2) != (0 : Int))) rfl (?_)))))))
      have hb4664 : (((splitM sa (0 : Int) threshold many pc).2) != (0 : Int)) = true := hb4457
      rw [hb4664]
      refine wl_k rfl (wl_k rfl (wl_s (o_pickT (Value.bool true) rfl rfl (wl_s (o_assign (Value.bool true) rfl (wl_nil (thenQ_n (?_))))))))
      refine cw_ret (thenQ_r (end_r rfl (res1 rfl rfl rfl) (?_)))
      exact ⟨_, rfl, s4451.keep, rfl⟩
   ·have hp4665 : (200 : Int) < (pc.length : Int) := by first | simpa using hb4436 | (have e := hb4436; simp at e; omega)
    refine wl_k rfl (wl_k rfl (wl_k rfl (wl_s (o_pickT (Value.bool true) rfl rfl (wl_nil (thenQ_n (?_)))))))
    refine cw_cond true rfl rfl (fun _ => ?_) (fun h => by cases h)
    refine cw_seq (?_)
    refine cw_region (by kernel_rfl) (wl_s (o_assign (Value.bool true) rfl (wl_nil (thenQ_n (?_)))))
    refine cw_ret (thenQ_r (end_r rfl (res1 rfl rfl rfl) (?_)))
    exact ⟨_, rfl, s4428.keep, rfl⟩
  ·have hp4666 : (sa.length : Int) ≠ (sb.length : Int) := by first | simpa using hb4434 | (have e := hb4434; simp at e; omega)
   refine wl_k rfl (wl_k rfl (wl_k rfl (wl_s (o_pickT (Value.bool true) rfl rfl (wl_s (o_move (Value.bool true) rfl (wl_k rfl (wl_k rfl (wl_k rfl (wl_s (o_pickT (Value.bool true) rfl rfl (wl_nil (thenQ_n (?_))))))))))))))
   refine cw_cond true rfl rfl (fun _ => ?_) (fun h => by cases h)
   refine cw_seq (?_)
   refine cw_region (by kernel_rfl) (wl_s (o_assign (Value.bool true) rfl (wl_nil (thenQ_n (?_)))))
   refine cw_ret (thenQ_r (end_r rfl (res1 rfl rfl rfl) (?_)))
   exact ⟨_, rfl, s4428.keep, rfl⟩
 ·have hp4667 : (20 : Int) < (sa.length : Int) := by first | simpa using hb4432 | (have e := hb4432; simp at e; omega)
  refine wl_k rfl (wl_k rfl (wl_k rfl (wl_k rfl (wl_k rfl (wl_s (o_pickT (Value.bool true) rfl rfl (wl_s (o_move (Value.bool true) rfl (wl_k rfl (wl_k rfl (wl_k rfl (wl_s (o_pickT (Value.bool true) rfl rfl (wl_s (o_move (Value.bool true) rfl (wl_k rfl (wl_k rfl (wl_k rfl (wl_s (o_pickT (Value.bool true) rfl rfl (wl_nil (thenQ_n (?_)))))))))))))))))))))))
  refine cw_cond true rfl rfl (fun _ => ?_) (fun h => by cases h)
  refine cw_seq (?_)
  refine cw_region (by kernel_rfl) (wl_s (o_assign (Value.bool true) rfl (wl_nil (thenQ_n (?_)))))
  refine cw_ret (thenQ_r (end_r rfl (res1 rfl rfl rfl) (?_)))
  exact ⟨_, rfl, s4428.keep, rfl⟩

end Go.Proofs.Yteajcgfcnbdmgaa
