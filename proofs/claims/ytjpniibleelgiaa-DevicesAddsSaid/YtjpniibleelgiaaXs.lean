/- Walks, printed by gen.py. -/
import Derived.Test.YtjpniibleelgiaaXk
import Derived.Test.YtjpniibleelgiaaMdD
set_option linter.unusedSimpArgs false
set_option linter.unusedVariables false
namespace Go.Proofs.Ytjpniibleelgiaa
open Go.Fw Go.RowKit

set_option maxHeartbeats 4000000 in
set_option maxRecDepth 100000 in
theorem c_DevicesAdds {O : List Nat} (la_v : Value) (la : List DeviceOp) (lb_v : Value) (lb : List DeviceOp) (turn : UInt8) (w : World) (h_la : RdL Enc.devop w O la_v la) (h_lb : RdL Enc.devop w O lb_v lb) (hO : ∀ b ∈ O, b < w.heap.size) : CallsK Try.prog 11 [la_v, lb_v, vB turn] w (fun v _ => v = .bool (true)) :=  by
 have lim_la := h_la.len_le
 have h_la : RdL Enc.devop w ([] ++ O) la_v la := h_la
 have lim_lb := h_lb.len_le
 have h_lb : RdL Enc.devop w ([] ++ O) lb_v lb := h_lb
 have s0 : St w O w [] := St.start hO
 have htn := turn.toNat_lt
 refine callsK_of 105 Try.func11 rfl rfl (of_decide_eq_true rfl) (fun F0 => ?_)
 refine cw_seq (?_)
 refine cw_region (by kernel_rfl) (wl_s (o_assign (Value.bool false) rfl (wl_nil (thenQ_n (?_)))))
 refine cw_seq (?_)
 refine cw_seq (?_)
 refine cw_region (by kernel_rfl) (wl_s (o_callK (vs := []) enter_25 (c_sane42 (O := [] ++ O) w s0.lt) rfl s0 fun v3951 w3952 s3953 m3954 k3955 r3956 => (?_)))
 obtain rfl := r3956
 have h_la := h_la.mv m3954
 have h_lb := h_lb.mv m3954
 refine wl_s (o_not true rfl (wl_nil (thenQ_n (?_))))
 refine cw_cond false rfl rfl (fun h => by cases h) (fun _ => ?_)
 refine cw_skip (thenQ_n (?_))
 refine cw_seq (?_)
 refine cw_seq (?_)
 refine cw_region (by kernel_rfl) (wl_s (o_move (la_v) rfl (wl_s (o_callK (vs := [la_v]) enter_26 (c_few (O := [] ++ O) la_v la w3952 h_la s3953.lt) rfl s3953 fun v3957 w3958 s3959 m3960 k3961 r3962 => (?_)))))
 obtain rfl := r3962
 have h_la := h_la.mv m3960
 have h_lb := h_lb.mv m3960
 refine wl_s (o_not (decide ((la.length : Int) ≤ 40)) rfl (wl_s (o_move (Value.bool (!(decide ((la.length : Int) ≤ 40)))) rfl (?_))))
 cases hb3963 : (!(decide ((la.length : Int) ≤ 40)))
 ·have hp3964 : (la.length : Int) ≤ 40 := by first | simpa using hb3963 | (have e := hb3963; simp at e; omega)
  refine wl_t rfl (o_move (lb_v) rfl (wl_t rfl (o_callK (vs := [lb_v]) enter_26 (c_few (O := [] ++ O) lb_v lb w3958 h_lb s3959.lt) rfl s3959 fun v3965 w3966 s3967 m3968 k3969 r3970 => (?_))))
  obtain rfl := r3970
  have h_la := h_la.mv m3968
  have h_lb := h_lb.mv m3968
  refine wl_t rfl (o_not (decide ((lb.length : Int) ≤ 40)) rfl (wl_s (o_pickF (Value.bool (!(decide ((lb.length : Int) ≤ 40)))) rfl rfl (wl_nil (thenQ_n (?_))))))
  refine cw_cond (!(decide ((lb.length : Int) ≤ 40))) rfl rfl (fun hc3971 => ?_) (fun hc3971 => ?_)
  ·have hp3972 : 40 < (lb.length : Int) := by first | simpa using hc3971 | (have e := hc3971; simp at e; omega)
   refine cw_seq (?_)
   refine cw_region (by kernel_rfl) (wl_s (o_assign (Value.bool true) rfl (wl_nil (thenQ_n (?_)))))
   refine cw_ret (thenQ_r (end_r rfl (res1 rfl rfl rfl) (?_)))
   exact ⟨_, rfl, s3967.keep, rfl⟩
  ·have hp3973 : (lb.length : Int) ≤ 40 := by first | simpa using hc3971 | (have e := hc3971; simp at e; omega)
   refine cw_skip (thenQ_n (?_))
   refine cw_seq (?_)
   refine cw_region (by kernel_rfl) (wl_s (o_move (la_v) rfl (wl_s (o_move (lb_v) rfl (wl_s (o_callK (vs := [la_v, lb_v]) enter_31 (c_merge (O := [] ++ O) la_v la lb_v lb w3966 h_la h_lb s3967.lt) rfl s3967 fun v3974 w3975 s3976 m3977 k3978 r3979 => (?_)))))))
   obtain ⟨x3980, rfl, hl3981⟩ := r3979
   have := hl3981.len_le
   have h_la := h_la.mv m3977
   have h_lb := h_lb.mv m3977
   refine wl_s (o_move (Value.tuple #[x3980, vI ((mergeM la lb).2)]) rfl (wl_s (o_extract (x3980) rfl rfl (wl_s (o_extract (vI ((mergeM la lb).2)) rfl rfl (wl_s (o_assign (x3980) rfl (wl_s (o_assign (vI ((mergeM la lb).2)) rfl (wl_nil (thenQ_n (?_))))))))))))
   refine cw_seq (?_)
   refine cw_seq (?_)
   refine cw_region (by kernel_rfl) (wl_s (o_move (vI ((mergeM la lb).2)) rfl (wl_s (o_neq .i64 ((mergeM la lb).2) (0 : Int) rfl rfl (wl_nil (thenQ_n (?_)))))))
   refine cw_cond (((mergeM la lb).2) != (0 : Int)) rfl rfl (fun hc3982 => ?_) (fun hc3982 => ?_)
   ·have hp3983 : (mergeM la lb).2 ≠ (0 : Int) := by first | simpa using hc3982 | (have e := hc3982; simp at e; omega)
    refine cw_seq (?_)
    refine cw_region (by kernel_rfl) (wl_s (o_move (x3980) rfl (wl_s (o_lenR Try.underlying26 rfl hl3981 (wl_s (o_eql .i64 (((mergeM la lb).1).length : Int) (0 : Int) rfl rfl (wl_s (o_assign (Value.bool ((((mergeM la lb).1).length : Int) == (0 : Int))) rfl (wl_nil (thenQ_n (?_)))))))))))
    refine cw_ret (thenQ_r (end_r rfl (res1 rfl rfl rfl) (?_)))
    have e : true = ((((mergeM la lb).1).length : Int) == (0 : Int)) := by first | rfl | (rw [merge_err (by assumption)]; rfl)
    exact ⟨_, rfl, s3976.keep, by rw [e]; exact rfl⟩
   ·have hp3984 : (mergeM la lb).2 = (0 : Int) := by first | simpa using hc3982 | (have e := hc3982; simp at e; omega)
    have hmm : (mergeM la lb).2 = 0 := hp3984
    refine cw_skip (thenQ_n (?_))
    refine cw_seq (?_)
    refine cw_region (by kernel_rfl) (wl_s (o_move (la_v) rfl (wl_s (o_assign (la_v) rfl (wl_nil (thenQ_n (?_)))))))
    refine cw_seq (?_)
    refine cw_seq (?_)
    refine cw_region (by kernel_rfl) (wl_s (o_move (lb_v) rfl (wl_s (o_lenR Try.underlying26 rfl h_lb (wl_s (o_move (vI (0 : Int)) rfl (wl_nil (thenQ_n (?_)))))))))
    refine cw_block (?_)
    refine cw_loop (fun mI FI wI => ∃ (k : Nat) (vr0_9 : Value) (B : List Nat), k ≤ lb.length ∧ mI = lb.length - k ∧ (∃ F1, FI = upds F1 [(1, lb_v), (2, vB turn), (7, x3980), (9, vr0_9), (42, vI (lb.length : Int)), (43, vI ((k : Nat) : Int)), (105, undef)]) ∧ St w O wI B ∧ RdL Enc.devop wI (B ++ O) vr0_9 (addsM la lb turn.toNat k) ∧ RdL Enc.devop wI (B ++ O) (lb_v) (lb) ∧ RdL Enc.devop wI (B ++ O) (x3980) ((mergeM la lb).1)) (lb.length - (0)) ?_ ?_
    ·exact ⟨(0), la_v, [], (by omega), rfl, ⟨_, upds_self _ ⟨rfl, rfl, rfl, rfl, rfl, (by first | rfl | exact congrArg (Value.int _) (by first | omega | (simp))), rfl, trivial⟩⟩, s3976, (by rw [show addsM la lb turn.toNat (0) = la from rfl]; exact h_la), h_lb, hl3981⟩
    ·intro ml0 F wl0 hI
     clear h_lb hl3981
     obtain ⟨k, vr0_9, Bl0, hr0_0, hm0, ⟨Fl0, rfl⟩, sl0, hrd0_9, h_lb, hl3981⟩ := hI
     have := hrd0_9.len_le
     refine cw_seq (?_)
     refine cw_region (by kernel_rfl) (wl_s (o_lss .i64 ((k : Nat) : Int) (lb.length : Int) rfl rfl (wl_nil (thenQ_n (?_)))))
     refine cw_seq (?_)
     refine cw_cond (decide (((k : Nat) : Int) < (lb.length : Int))) rfl rfl (fun hc3985 => ?_) (fun hc3985 => ?_)
     ·have hp3986 : ((k : Nat) : Int) < (lb.length : Int) := by first | simpa using hc3985 | (have e := hc3985; simp at e; omega)
      refine cw_skip (thenQ_n (?_))
      refine cw_seq (?_)
      refine cw_block (?_)
      refine cw_seq (?_)
      refine cw_region (by kernel_rfl) (wl_s (o_move (vI ((k : Nat) : Int)) rfl (wl_s (o_assign (vI ((k : Nat) : Int)) rfl (wl_nil (thenQ_n (?_)))))))
      refine cw_seq (?_)
      refine cw_region (by kernel_rfl) (wl_s (o_assign (vI (0 : Int)) rfl (wl_nil (thenQ_n (?_)))))
      refine cw_seq (?_)
      refine cw_region (by kernel_rfl) (wl_s (o_move (vr0_9) rfl (wl_s (o_move (lb_v) rfl (wl_s (o_move (vI ((k : Nat) : Int)) rfl (wl_s (o_move (vB turn) rfl (wl_s (o_conv .u8 .i64 Try.underlying5 Try.underlying3 (turn.toNat : Int) (turn.toNat : Int) rfl (by have := (turn).toNat_lt; exact w64 (by omega) rfl) (wl_s (o_add .i64 ((k : Nat) : Int) (turn.toNat : Int) (((k + turn.toNat : Nat) : Int)) rfl rfl (w64 (by omega) (by omega)) (wl_s (o_move (lb_v) rfl (wl_s (o_lenR Try.underlying26 rfl h_lb (wl_s (o_remN (k + turn.toNat) lb.length (by omega) rfl rfl (wl_s (o_idx Try.underlying26 s_40 .i64 (((k + turn.toNat) % lb.length : Nat) : Int) ((k + turn.toNat) % lb.length) rfl rfl rfl h_lb (Nat.mod_lt _ (by omega)) fun a3987 hp3988 => (wl_s (o_loadS Try.underlying40 rfl s_40 rfl hp3988 fun cs3989 hs3990 => (?_)))))))))))))))))))))))
      obtain rfl := hs3990
      refine wl_s (o_callK (vs := [vr0_9, Value.agg #[vI ((lb[(k + turn.toNat) % lb.length]!).device), vI ((lb[(k + turn.toNat) % lb.length]!).no), vI ((lb[(k + turn.toNat) % lb.length]!).kind), vI ((lb[(k + turn.toNat) % lb.length]!).copy), vI ((lb[(k + turn.toNat) % lb.length]!).to), vI ((lb[(k + turn.toNat) % lb.length]!).token)]]) enter_23 (c_add (O := Bl0 ++ O) vr0_9 (addsM la lb turn.toNat k) [vI ((lb[(k + turn.toNat) % lb.length]!).device), vI ((lb[(k + turn.toNat) % lb.length]!).no), vI ((lb[(k + turn.toNat) % lb.length]!).kind), vI ((lb[(k + turn.toNat) % lb.length]!).copy), vI ((lb[(k + turn.toNat) % lb.length]!).to), vI ((lb[(k + turn.toNat) % lb.length]!).token)] (lb[(k + turn.toNat) % lb.length]!) wl0 hrd0_9 rfl sl0.lt) rfl sl0 fun v3991 w3992 s3993 m3994 k3995 r3996 => (?_))
      obtain ⟨x3997, rfl, hl3998⟩ := r3996
      have := hl3998.len_le
      have h_lb := h_lb.mv m3994
      have hl3981 := hl3981.mv m3994
      refine wl_s (o_move (Value.tuple #[x3997, vI ((addM (addsM la lb turn.toNat k) (lb[(k + turn.toNat) % lb.length]!)).2)]) rfl (wl_s (o_extract (x3997) rfl rfl (wl_s (o_extract (vI ((addM (addsM la lb turn.toNat k) (lb[(k + turn.toNat) % lb.length]!)).2)) rfl rfl (wl_s (o_assign (x3997) rfl (wl_s (o_assign (vI ((addM (addsM la lb turn.toNat k) (lb[(k + turn.toNat) % lb.length]!)).2)) rfl (wl_nil (thenQ_n (?_))))))))))))
      refine cw_seq (?_)
      refine cw_region (by kernel_rfl) (wl_s (o_move (vI ((addM (addsM la lb turn.toNat k) (lb[(k + turn.toNat) % lb.length]!)).2)) rfl (wl_s (o_neq .i64 ((addM (addsM la lb turn.toNat k) (lb[(k + turn.toNat) % lb.length]!)).2) (0 : Int) rfl rfl (wl_nil (thenQ_n (?_)))))))
      have hb3999 : (((addM (addsM la lb turn.toNat k) (lb[(k + turn.toNat) % lb.length]!)).2) != (0 : Int)) = false := (by rw [adds_err hmm (by omega)]; rfl)
      rw [hb3999]
      refine cw_cond false rfl rfl (fun h => by cases h) (fun _ => ?_)
      refine cw_skip (blockQ_n (thenQ_n (?_)))
      refine cw_region (by kernel_rfl) (wl_s (o_add .i64 ((k : Nat) : Int) (1 : Int) (((k + 1 : Nat) : Int)) rfl rfl (w64 (by omega) (by omega)) (wl_s (o_move (vI ((k + 1 : Nat) : Int)) rfl (wl_nil (thenQ_n (?_)))))))
      exact ⟨_, (by omega), (k + 1), x3997, Bl0, (by omega), rfl, ⟨_, upds_self _ ⟨rfl, rfl, rfl, rfl, rfl, (by first | rfl | exact congrArg (Value.int _) (by first | omega | (simp))), rfl, trivial⟩⟩, s3993, (by rw [show addsM la lb turn.toNat (k + 1) = (addM (addsM la lb turn.toNat k) (lb[(k + turn.toNat) % lb.length]!)).1 from rfl]; exact hl3998), h_lb, hl3981⟩
     ·have hp4000 : (lb.length : Int) ≤ ((k : Nat) : Int) := by first | simpa using hc3985 | (have e := hc3985; simp at e; omega)
      obtain rfl : k = lb.length := by omega
      refine cw_exit (thenQ_x (thenQ_x (blockQ_x (thenQ_n (?_)))))
      refine cw_seq (?_)
      refine cw_seq (?_)
      refine cw_region (by kernel_rfl) (wl_s (o_move (x3980) rfl (wl_s (o_move (vr0_9) rfl (wl_s (o_callK (vs := [x3980, vr0_9]) enter_28 (c_same (O := Bl0 ++ O) x3980 ((mergeM la lb).1) vr0_9 (addsM la lb turn.toNat lb.length) wl0 hl3981 hrd0_9 sl0.lt) rfl sl0 fun v4001 w4002 s4003 m4004 k4005 r4006 => (?_)))))))
      obtain rfl := r4006
      have hl3981 := hl3981.mv m4004
      refine wl_s (o_not (((mergeM la lb).1) == (addsM la lb turn.toNat lb.length)) rfl (wl_nil (thenQ_n (?_))))
      have hb4007 : (!(((mergeM la lb).1) == (addsM la lb turn.toNat lb.length))) = false := (by rw [show (((mergeM la lb).1) == (addsM la lb turn.toNat lb.length)) = true from (by rw [← adds_end hmm]; exact beq_self_eq_true _)]; rfl)
      rw [hb4007]
      refine cw_cond false rfl rfl (fun h => by cases h) (fun _ => ?_)
      refine cw_skip (thenQ_n (?_))
      refine cw_seq (?_)
      refine cw_seq (?_)
      refine cw_region (by kernel_rfl) (wl_s (o_move (x3980) rfl (wl_s (o_lenR Try.underlying26 rfl hl3981 (wl_s (o_move (vI (0 : Int)) rfl (wl_nil (thenQ_n (?_)))))))))
      refine cw_block (?_)
      refine cw_loop (fun mI FI wI => ∃ (k : Nat) (B : List Nat), k ≤ ((mergeM la lb).1).length ∧ mI = ((mergeM la lb).1).length - k ∧ (∃ F1, FI = upds F1 [(7, x3980), (68, x3980), (69, vI (((mergeM la lb).1).length : Int)), (70, vI ((k : Nat) : Int)), (105, undef)]) ∧ St w O wI B ∧ RdL Enc.devop wI (B ++ O) (x3980) ((mergeM la lb).1)) (((mergeM la lb).1).length - (0)) ?_ ?_
      ·exact ⟨(0), Bl0, (by omega), rfl, ⟨_, upds_self _ ⟨rfl, rfl, rfl, (by first | rfl | exact congrArg (Value.int _) (by first | omega | (simp))), rfl, trivial⟩⟩, s4003, hl3981⟩
      ·intro ml1 F wl1 hI
       clear hl3981
       obtain ⟨k, Bl1, hr1_0, hm1, ⟨Fl1, rfl⟩, sl1, hl3981⟩ := hI
       refine cw_seq (?_)
       refine cw_region (by kernel_rfl) (wl_s (o_lss .i64 ((k : Nat) : Int) (((mergeM la lb).1).length : Int) rfl rfl (wl_nil (thenQ_n (?_)))))
       refine cw_seq (?_)
       refine cw_cond (decide (((k : Nat) : Int) < (((mergeM la lb).1).length : Int))) rfl rfl (fun hc4008 => ?_) (fun hc4008 => ?_)
       ·have hp4009 : ((k : Nat) : Int) < (((mergeM la lb).1).length : Int) := by first | simpa using hc4008 | (have e := hc4008; simp at e; omega)
        have hvb := valid_bounds ((merge_ok hmm).2.2.1.2.1 _ (mem_idx (k := k) (by omega)))
        refine cw_skip (thenQ_n (?_))
        refine cw_seq (?_)
        refine cw_block (?_)
        refine cw_seq (?_)
        refine cw_region (by kernel_rfl) (wl_s (o_idx Try.underlying26 s_40 .i64 ((k : Nat) : Int) k rfl rfl rfl hl3981 (by omega) fun a4010 hp4011 => (wl_s (o_loadS Try.underlying40 rfl s_40 rfl hp4011 fun cs4012 hs4013 => (?_)))))
        obtain rfl := hs4013
        refine wl_s (o_alloc [vI (0 : Int), vI (0 : Int), vI (0 : Int), vI (0 : Int), vI (0 : Int), vI (0 : Int)] z_40 rfl sl1 fun b4014 w4015 e4020 s4016 m4017 k4018 bx4019 => (?_))
        clear e4020
        have hl3981 := hl3981.mv m4017
        refine wl_n (o_store (vs := [vI ((((mergeM la lb).1)[k]!).device), vI ((((mergeM la lb).1)[k]!).no), vI ((((mergeM la lb).1)[k]!).kind), vI ((((mergeM la lb).1)[k]!).copy), vI ((((mergeM la lb).1)[k]!).to), vI ((((mergeM la lb).1)[k]!).token)]) (.agg #[vI ((((mergeM la lb).1)[k]!).device), vI ((((mergeM la lb).1)[k]!).no), vI ((((mergeM la lb).1)[k]!).kind), vI ((((mergeM la lb).1)[k]!).copy), vI ((((mergeM la lb).1)[k]!).to), vI ((((mergeM la lb).1)[k]!).token)]) rfl rfl rfl s_40 (fun u hu => by simp only [List.mem_cons, List.not_mem_nil, or_false] at hu; rcases hu with rfl | rfl | rfl | rfl | rfl | rfl <;> first | rfl) (by repeat (first | assumption | constructor)) bx4019 (of_decide_eq_true rfl) s4016 fun w4021 s4022 m4023 k4024 bx4025 => (?_))
        have hl3981 := hl3981.mv m4023
        refine wl_nil (thenQ_n (?_))
        refine cw_seq (?_)
        refine cw_region (by kernel_rfl) (wl_s (o_move (x3980) rfl (wl_s (o_loadBxA (vs := [vI ((((mergeM la lb).1)[k]!).device), vI ((((mergeM la lb).1)[k]!).no), vI ((((mergeM la lb).1)[k]!).kind), vI ((((mergeM la lb).1)[k]!).copy), vI ((((mergeM la lb).1)[k]!).to), vI ((((mergeM la lb).1)[k]!).token)]) Try.underlying40 rfl s_40 rfl bx4025 rfl (wl_s (o_callK (vs := [x3980, Value.agg #[vI ((((mergeM la lb).1)[k]!).device), vI ((((mergeM la lb).1)[k]!).no), vI ((((mergeM la lb).1)[k]!).kind), vI ((((mergeM la lb).1)[k]!).copy), vI ((((mergeM la lb).1)[k]!).to), vI ((((mergeM la lb).1)[k]!).token)]]) enter_23 (c_add (O := (b4014 :: Bl1) ++ O) x3980 ((mergeM la lb).1) [vI ((((mergeM la lb).1)[k]!).device), vI ((((mergeM la lb).1)[k]!).no), vI ((((mergeM la lb).1)[k]!).kind), vI ((((mergeM la lb).1)[k]!).copy), vI ((((mergeM la lb).1)[k]!).to), vI ((((mergeM la lb).1)[k]!).token)] (((mergeM la lb).1)[k]!) w4021 hl3981 rfl s4022.lt) rfl s4022 fun v4026 w4027 s4028 m4029 k4030 r4031 => (?_)))))))
        obtain ⟨x4032, rfl, hl4033⟩ := r4031
        have := hl4033.len_le
        have hl3981 := hl3981.mv m4029
        have bx4025 := bx4025.keep k4030 (by simp)
        refine wl_s (o_move (Value.tuple #[x4032, vI ((addM ((mergeM la lb).1) (((mergeM la lb).1)[k]!)).2)]) rfl (wl_s (o_extract (x4032) rfl rfl (wl_s (o_extract (vI ((addM ((mergeM la lb).1) (((mergeM la lb).1)[k]!)).2)) rfl rfl (wl_s (o_assign (x4032) rfl (wl_s (o_assign (vI ((addM ((mergeM la lb).1) (((mergeM la lb).1)[k]!)).2)) rfl (wl_nil (thenQ_n (?_))))))))))))
        refine cw_seq (?_)
        refine cw_region (by kernel_rfl) (wl_s (o_loadBxA (vs := [vI ((((mergeM la lb).1)[k]!).device), vI ((((mergeM la lb).1)[k]!).no), vI ((((mergeM la lb).1)[k]!).kind), vI ((((mergeM la lb).1)[k]!).copy), vI ((((mergeM la lb).1)[k]!).to), vI ((((mergeM la lb).1)[k]!).token)]) Try.underlying40 rfl s_40 rfl bx4025 rfl (wl_s (o_alloc [vI (0 : Int), vI (0 : Int), vI (0 : Int), vI (0 : Int), vI (0 : Int), vI (0 : Int)] z_40 rfl s4028 fun b4034 w4035 e4040 s4036 m4037 k4038 bx4039 => (?_)))))
        have ne4041 : NeB b4014 b4034 := by show b4014 ≠ b4034; have := bx4025.lt; omega
        clear e4040
        have hl3981 := hl3981.mv m4037
        have hl4033 := hl4033.mv m4037
        have bx4025 := bx4025.keep k4038 (by simp)
        refine wl_n (o_store (vs := [vI ((((mergeM la lb).1)[k]!).device), vI ((((mergeM la lb).1)[k]!).no), vI ((((mergeM la lb).1)[k]!).kind), vI ((((mergeM la lb).1)[k]!).copy), vI ((((mergeM la lb).1)[k]!).to), vI ((((mergeM la lb).1)[k]!).token)]) (.agg #[vI ((((mergeM la lb).1)[k]!).device), vI ((((mergeM la lb).1)[k]!).no), vI ((((mergeM la lb).1)[k]!).kind), vI ((((mergeM la lb).1)[k]!).copy), vI ((((mergeM la lb).1)[k]!).to), vI ((((mergeM la lb).1)[k]!).token)]) rfl rfl rfl s_40 (fun u hu => by simp only [List.mem_cons, List.not_mem_nil, or_false] at hu; rcases hu with rfl | rfl | rfl | rfl | rfl | rfl <;> first | rfl) (by repeat (first | assumption | constructor)) bx4039 (of_decide_eq_true rfl) s4036 fun w4042 s4043 m4044 k4045 bx4046 => (?_))
        have hl3981 := hl3981.mv m4044
        have hl4033 := hl4033.mv m4044
        have bx4025 := bx4025.keep k4045 (nin1 ne4041)
        refine wl_nil (thenQ_n (?_))
        refine cw_seq (?_)
        refine cw_region (by kernel_rfl) (wl_s (o_fieldL 3 f_40_3 rfl (wl_s (o_loadBx Try.underlying3 rfl (vI ((((mergeM la lb).1)[k]!).copy)) rfl bx4025 rfl (wl_s (o_add .i64 ((((mergeM la lb).1)[k]!).copy) (1 : Int) (((((mergeM la lb).1)[k]!.copy.toNat + 1 : Nat) : Int)) rfl rfl (w64 (by omega) (by omega)) (wl_s (o_remN (((mergeM la lb).1)[k]!.copy.toNat + 1) 1024 (by omega) rfl rfl (wl_s (o_fieldL 3 f_40_3 rfl (wl_n (o_store1 (vI (((((mergeM la lb).1)[k]!.copy.toNat + 1) % 1024 : Nat) : Int)) rfl rfl rfl s_3 (by repeat (first | assumption | constructor)) bx4046 (of_decide_eq_true rfl) s4043 fun w4047 s4048 m4049 k4050 bx4051 => (?_)))))))))))))
        have hl3981 := hl3981.mv m4049
        have hl4033 := hl4033.mv m4049
        refine wl_nil (thenQ_n (?_))
        refine cw_seq (?_)
        refine cw_region (by kernel_rfl) (wl_s (o_move (x3980) rfl (wl_s (o_loadBxA (vs := [vI ((((mergeM la lb).1)[k]!).device), vI ((((mergeM la lb).1)[k]!).no), vI ((((mergeM la lb).1)[k]!).kind), vI (((((mergeM la lb).1)[k]!.copy.toNat + 1) % 1024 : Nat) : Int), vI ((((mergeM la lb).1)[k]!).to), vI ((((mergeM la lb).1)[k]!).token)]) Try.underlying40 rfl s_40 rfl bx4051 rfl (wl_s (o_callK (vs := [x3980, Value.agg #[vI ((((mergeM la lb).1)[k]!).device), vI ((((mergeM la lb).1)[k]!).no), vI ((((mergeM la lb).1)[k]!).kind), vI (((((mergeM la lb).1)[k]!.copy.toNat + 1) % 1024 : Nat) : Int), vI ((((mergeM la lb).1)[k]!).to), vI ((((mergeM la lb).1)[k]!).token)]]) enter_23 (c_add (O := (b4034 :: (b4014 :: Bl1)) ++ O) x3980 ((mergeM la lb).1) [vI ((((mergeM la lb).1)[k]!).device), vI ((((mergeM la lb).1)[k]!).no), vI ((((mergeM la lb).1)[k]!).kind), vI (((((mergeM la lb).1)[k]!.copy.toNat + 1) % 1024 : Nat) : Int), vI ((((mergeM la lb).1)[k]!).to), vI ((((mergeM la lb).1)[k]!).token)] (⟨(((mergeM la lb).1)[k]!).device, (((mergeM la lb).1)[k]!).no, (((mergeM la lb).1)[k]!).kind, (((((mergeM la lb).1)[k]!.copy.toNat + 1) % 1024 : Nat) : Int), (((mergeM la lb).1)[k]!).to, (((mergeM la lb).1)[k]!).token⟩ : DeviceOp) w4047 hl3981 rfl s4048.lt) rfl s4048 fun v4052 w4053 s4054 m4055 k4056 r4057 => (?_)))))))
        obtain ⟨x4058, rfl, hl4059⟩ := r4057
        have := hl4059.len_le
        have hl3981 := hl3981.mv m4055
        have hl4033 := hl4033.mv m4055
        refine wl_s (o_move (Value.tuple #[x4058, vI ((addM ((mergeM la lb).1) (⟨(((mergeM la lb).1)[k]!).device, (((mergeM la lb).1)[k]!).no, (((mergeM la lb).1)[k]!).kind, (((((mergeM la lb).1)[k]!.copy.toNat + 1) % 1024 : Nat) : Int), (((mergeM la lb).1)[k]!).to, (((mergeM la lb).1)[k]!).token⟩ : DeviceOp)).2)]) rfl (wl_s (o_extract (x4058) rfl rfl (wl_s (o_extract (vI ((addM ((mergeM la lb).1) (⟨(((mergeM la lb).1)[k]!).device, (((mergeM la lb).1)[k]!).no, (((mergeM la lb).1)[k]!).kind, (((((mergeM la lb).1)[k]!.copy.toNat + 1) % 1024 : Nat) : Int), (((mergeM la lb).1)[k]!).to, (((mergeM la lb).1)[k]!).token⟩ : DeviceOp)).2)) rfl rfl (wl_s (o_assign (x4058) rfl (wl_s (o_assign (vI ((addM ((mergeM la lb).1) (⟨(((mergeM la lb).1)[k]!).device, (((mergeM la lb).1)[k]!).no, (((mergeM la lb).1)[k]!).kind, (((((mergeM la lb).1)[k]!.copy.toNat + 1) % 1024 : Nat) : Int), (((mergeM la lb).1)[k]!).to, (((mergeM la lb).1)[k]!).token⟩ : DeviceOp)).2)) rfl (wl_nil (thenQ_n (?_))))))))))))
        refine cw_seq (?_)
        refine cw_region (by kernel_rfl) (wl_s (o_move (vI ((addM ((mergeM la lb).1) (((mergeM la lb).1)[k]!)).2)) rfl (wl_s (o_neq .i64 ((addM ((mergeM la lb).1) (((mergeM la lb).1)[k]!)).2) (0 : Int) rfl rfl (wl_s (o_move (Value.bool (((addM ((mergeM la lb).1) (((mergeM la lb).1)[k]!)).2) != (0 : Int))) rfl (?_)))))))
        have hb4060 : (((addM ((mergeM la lb).1) (((mergeM la lb).1)[k]!)).2) != (0 : Int)) = false := (by rw [adds_in hmm (by omega)]; rfl)
        rw [hb4060]
        refine wl_t rfl (o_move (x4032) rfl (wl_t rfl (o_move (x3980) rfl (wl_t rfl (o_callK (vs := [x4032, x3980]) enter_28 (c_same (O := (b4034 :: (b4014 :: Bl1)) ++ O) x4032 ((addM ((mergeM la lb).1) (((mergeM la lb).1)[k]!)).1) x3980 ((mergeM la lb).1) w4053 hl4033 hl3981 s4054.lt) rfl s4054 fun v4061 w4062 s4063 m4064 k4065 r4066 => (?_))))))
        obtain rfl := r4066
        have hl3981 := hl3981.mv m4064
        refine wl_t rfl (o_not (((addM ((mergeM la lb).1) (((mergeM la lb).1)[k]!)).1) == ((mergeM la lb).1)) rfl (wl_s (o_pickF (Value.bool (!(((addM ((mergeM la lb).1) (((mergeM la lb).1)[k]!)).1) == ((mergeM la lb).1)))) rfl rfl (wl_s (o_move (Value.bool (!(((addM ((mergeM la lb).1) (((mergeM la lb).1)[k]!)).1) == ((mergeM la lb).1)))) rfl (?_))))))
        have hb4067 : (!(((addM ((mergeM la lb).1) (((mergeM la lb).1)[k]!)).1) == ((mergeM la lb).1))) = false := (by rw [show (((addM ((mergeM la lb).1) (((mergeM la lb).1)[k]!)).1) == ((mergeM la lb).1)) = true from (by rw [adds_in hmm (by omega)]; exact beq_self_eq_true _)]; rfl)
        rw [hb4067]
        refine wl_t rfl (o_move (vI ((addM ((mergeM la lb).1) (⟨(((mergeM la lb).1)[k]!).device, (((mergeM la lb).1)[k]!).no, (((mergeM la lb).1)[k]!).kind, (((((mergeM la lb).1)[k]!.copy.toNat + 1) % 1024 : Nat) : Int), (((mergeM la lb).1)[k]!).to, (((mergeM la lb).1)[k]!).token⟩ : DeviceOp)).2)) rfl (wl_t rfl (o_neq .i64 ((addM ((mergeM la lb).1) (⟨(((mergeM la lb).1)[k]!).device, (((mergeM la lb).1)[k]!).no, (((mergeM la lb).1)[k]!).kind, (((((mergeM la lb).1)[k]!.copy.toNat + 1) % 1024 : Nat) : Int), (((mergeM la lb).1)[k]!).to, (((mergeM la lb).1)[k]!).token⟩ : DeviceOp)).2) (420 : Int) rfl rfl (wl_s (o_pickF (Value.bool (((addM ((mergeM la lb).1) (⟨(((mergeM la lb).1)[k]!).device, (((mergeM la lb).1)[k]!).no, (((mergeM la lb).1)[k]!).kind, (((((mergeM la lb).1)[k]!.copy.toNat + 1) % 1024 : Nat) : Int), (((mergeM la lb).1)[k]!).to, (((mergeM la lb).1)[k]!).token⟩ : DeviceOp)).2) != (420 : Int))) rfl rfl (wl_nil (thenQ_n (?_))))))))
        have hb4068 : (((addM ((mergeM la lb).1) (⟨(((mergeM la lb).1)[k]!).device, (((mergeM la lb).1)[k]!).no, (((mergeM la lb).1)[k]!).kind, (((((mergeM la lb).1)[k]!.copy.toNat + 1) % 1024 : Nat) : Int), (((mergeM la lb).1)[k]!).to, (((mergeM la lb).1)[k]!).token⟩ : DeviceOp)).2) != (420 : Int)) = false := (by rw [adds_bad hmm (by omega)]; rfl)
        rw [hb4068]
        refine cw_cond false rfl rfl (fun h => by cases h) (fun _ => ?_)
        refine cw_skip (blockQ_n (thenQ_n (?_)))
        refine cw_region (by kernel_rfl) (wl_s (o_add .i64 ((k : Nat) : Int) (1 : Int) (((k + 1 : Nat) : Int)) rfl rfl (w64 (by omega) (by omega)) (wl_s (o_move (vI ((k + 1 : Nat) : Int)) rfl (wl_nil (thenQ_n (?_)))))))
        exact ⟨_, (by omega), (k + 1), (b4034 :: (b4014 :: Bl1)), (by omega), rfl, ⟨_, upds_self _ ⟨rfl, rfl, rfl, (by first | rfl | exact congrArg (Value.int _) (by first | omega | (simp))), rfl, trivial⟩⟩, s4063, hl3981⟩
       ·have hp4069 : (((mergeM la lb).1).length : Int) ≤ ((k : Nat) : Int) := by first | simpa using hc4008 | (have e := hc4008; simp at e; omega)
        refine cw_exit (thenQ_x (thenQ_x (blockQ_x (thenQ_n (?_)))))
        refine cw_seq (?_)
        refine cw_region (by kernel_rfl) (wl_s (o_assign (Value.bool true) rfl (wl_nil (thenQ_n (?_)))))
        refine cw_ret (end_r rfl (res1 rfl rfl rfl) (?_))
        exact ⟨_, rfl, sl1.keep, rfl⟩
 ·have hp4070 : 40 < (la.length : Int) := by first | simpa using hb3963 | (have e := hb3963; simp at e; omega)
  refine wl_k rfl (wl_k rfl (wl_k rfl (wl_s (o_pickT (Value.bool true) rfl rfl (wl_nil (thenQ_n (?_)))))))
  refine cw_cond true rfl rfl (fun _ => ?_) (fun h => by cases h)
  refine cw_seq (?_)
  refine cw_region (by kernel_rfl) (wl_s (o_assign (Value.bool true) rfl (wl_nil (thenQ_n (?_)))))
  refine cw_ret (thenQ_r (end_r rfl (res1 rfl rfl rfl) (?_)))
  exact ⟨_, rfl, s3959.keep, rfl⟩

end Go.Proofs.Ytjpniibleelgiaa
