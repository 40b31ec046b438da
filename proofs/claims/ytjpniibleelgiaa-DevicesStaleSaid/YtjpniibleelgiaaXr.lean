/- Walks, printed by gen.py. -/
import Derived.Test.YtjpniibleelgiaaXk
import Derived.Test.YtjpniibleelgiaaMdD
set_option linter.unusedSimpArgs false
set_option linter.unusedVariables false
namespace Go.Proofs.Ytjpniibleelgiaa
open Go.Fw Go.RowKit

set_option maxHeartbeats 4000000 in
set_option maxRecDepth 100000 in
theorem c_had {O : List Nat} (l_v : Value) (l : List DeviceOp) (c : Int) (first : Int) (d : Int) (w : World) (h_l : RdL Enc.devop w O l_v l) (hO : ∀ b ∈ O, b < w.heap.size) : CallsK Try.prog 38 [l_v, vI c, vI first, vI d] w (fun v _ => v = .bool (hadM l c first d)) :=  by
 have lim_l := h_l.len_le
 have h_l : RdL Enc.devop w ([] ++ O) l_v l := h_l
 have s0 : St w O w [] := St.start hO
 refine callsK_of 42 Try.func38 rfl rfl (of_decide_eq_true rfl) (fun F0 => ?_)
 refine cw_seq (?_)
 refine cw_region (by kernel_rfl) (wl_s (o_assign (Value.bool false) rfl (wl_nil (thenQ_n (?_)))))
 refine cw_seq (?_)
 refine cw_seq (?_)
 refine cw_region (by kernel_rfl) (wl_s (o_move (vI d) rfl (wl_s (o_move (vI first) rfl (wl_s (o_eql .i64 d first rfl rfl (wl_nil (thenQ_n (?_)))))))))
 refine cw_cond (d == first) rfl rfl (fun hc3683 => ?_) (fun hc3683 => ?_)
 ·have hp3684 : d = first := by first | simpa using hc3683 | (have e := hc3683; simp at e; omega)
  refine cw_seq (?_)
  refine cw_region (by kernel_rfl) (wl_s (o_assign (Value.bool true) rfl (wl_nil (thenQ_n (?_)))))
  refine cw_ret (thenQ_r (end_r rfl (res1 rfl rfl rfl) (?_)))
  have e : (hadM l c first d) = true := by first | exact had_first (by assumption) | exact had_at (k := k) (by omega) (by assumption) (.inl (by assumption)) | exact had_at (k := k) (by omega) (by assumption) (.inr ⟨by assumption, by assumption⟩) | exact had_not (by assumption) hr0_1
  exact ⟨_, rfl, s0.keep, by rw [e]; exact rfl⟩
 ·have hp3685 : d ≠ first := by first | simpa using hc3683 | (have e := hc3683; simp at e; omega)
  refine cw_skip (thenQ_n (?_))
  refine cw_seq (?_)
  refine cw_seq (?_)
  refine cw_region (by kernel_rfl) (wl_s (o_move (l_v) rfl (wl_s (o_lenR Try.underlying26 rfl h_l (wl_s (o_move (vI (0 : Int)) rfl (wl_nil (thenQ_n (?_)))))))))
  refine cw_block (?_)
  refine cw_loop (fun mI FI wI => ∃ (k : Nat) (B : List Nat), k ≤ l.length ∧ (∀ q, q < k → ¬ (l[q]!.copy = c ∧ (l[q]!.device = d ∨ (l[q]!.kind = 1 ∧ l[q]!.to = d)))) ∧ mI = l.length - k ∧ (∃ F1, FI = upds F1 [(1, vI c), (3, vI d), (14, l_v), (15, vI (l.length : Int)), (16, vI ((k : Nat) : Int)), (42, undef)]) ∧ St w O wI B ∧ RdL Enc.devop wI (B ++ O) (l_v) (l)) (l.length - (0)) ?_ ?_
  ·exact ⟨(0), [], (by omega), (fun q hq => by omega), rfl, ⟨_, upds_self _ ⟨rfl, rfl, rfl, rfl, (by first | rfl | exact congrArg (Value.int _) (by first | omega | (simp))), rfl, trivial⟩⟩, s0, h_l⟩
  ·intro ml0 F wl0 hI
   clear h_l
   obtain ⟨k, Bl0, hr0_0, hr0_1, hm0, ⟨Fl0, rfl⟩, sl0, h_l⟩ := hI
   refine cw_seq (?_)
   refine cw_region (by kernel_rfl) (wl_s (o_lss .i64 ((k : Nat) : Int) (l.length : Int) rfl rfl (wl_nil (thenQ_n (?_)))))
   refine cw_seq (?_)
   refine cw_cond (decide (((k : Nat) : Int) < (l.length : Int))) rfl rfl (fun hc3686 => ?_) (fun hc3686 => ?_)
   ·have hp3687 : ((k : Nat) : Int) < (l.length : Int) := by first | simpa using hc3686 | (have e := hc3686; simp at e; omega)
    refine cw_skip (thenQ_n (?_))
    refine cw_seq (?_)
    refine cw_block (?_)
    refine cw_seq (?_)
    refine cw_region (by kernel_rfl) (wl_s (o_idx Try.underlying26 s_40 .i64 ((k : Nat) : Int) k rfl rfl rfl h_l (by omega) fun a3688 hp3689 => (wl_s (o_loadS Try.underlying40 rfl s_40 rfl hp3689 fun cs3690 hs3691 => (?_)))))
    obtain rfl := hs3691
    refine wl_s (o_alloc [vI (0 : Int), vI (0 : Int), vI (0 : Int), vI (0 : Int), vI (0 : Int), vI (0 : Int)] z_40 rfl sl0 fun b3692 w3693 e3698 s3694 m3695 k3696 bx3697 => (?_))
    clear e3698
    have h_l := h_l.mv m3695
    refine wl_n (o_store (vs := [vI ((l[k]!).device), vI ((l[k]!).no), vI ((l[k]!).kind), vI ((l[k]!).copy), vI ((l[k]!).to), vI ((l[k]!).token)]) (.agg #[vI ((l[k]!).device), vI ((l[k]!).no), vI ((l[k]!).kind), vI ((l[k]!).copy), vI ((l[k]!).to), vI ((l[k]!).token)]) rfl rfl rfl s_40 (fun u hu => by simp only [List.mem_cons, List.not_mem_nil, or_false] at hu; rcases hu with rfl | rfl | rfl | rfl | rfl | rfl <;> first | rfl) (by repeat (first | assumption | constructor)) bx3697 (of_decide_eq_true rfl) s3694 fun w3699 s3700 m3701 k3702 bx3703 => (?_))
    have h_l := h_l.mv m3701
    refine wl_nil (thenQ_n (?_))
    refine cw_seq (?_)
    refine cw_region (by kernel_rfl) (wl_s (o_fieldL 3 f_40_3 rfl (wl_s (o_loadBx Try.underlying3 rfl (vI ((l[k]!).copy)) rfl bx3703 rfl (wl_s (o_move (vI c) rfl (wl_s (o_eql .i64 ((l[k]!).copy) c rfl rfl (wl_s (o_move (Value.bool (((l[k]!).copy) == c)) rfl (?_)))))))))))
    cases hb3704 : (((l[k]!).copy) == c)
    ·have hp3705 : (l[k]!).copy ≠ c := by first | simpa using hb3704 | (have e := hb3704; simp at e; omega)
     refine wl_k rfl (wl_k rfl (wl_k rfl (wl_k rfl (wl_k rfl (wl_u rfl (wl_u rfl (wl_u rfl (wl_u rfl (wl_u rfl (wl_u rfl (wl_u rfl (wl_u rfl (wl_u rfl (wl_k rfl (wl_s (o_pickF (Value.bool false) rfl rfl (wl_nil (thenQ_n (?_)))))))))))))))))))
     refine cw_cond false rfl rfl (fun h => by cases h) (fun _ => ?_)
     refine cw_skip (blockQ_n (thenQ_n (?_)))
     refine cw_region (by kernel_rfl) (wl_s (o_add .i64 ((k : Nat) : Int) (1 : Int) (((k + 1 : Nat) : Int)) rfl rfl (w64 (by omega) (by omega)) (wl_s (o_move (vI ((k + 1 : Nat) : Int)) rfl (wl_nil (thenQ_n (?_)))))))
     exact ⟨_, (by omega), (k + 1), (b3692 :: Bl0), (by omega), (had_step hr0_1 (by first | exact .inl (by assumption) | exact .inr ⟨by assumption, .inl (by assumption)⟩ | exact .inr ⟨by assumption, .inr (by assumption)⟩)), rfl, ⟨_, upds_self _ ⟨rfl, rfl, rfl, rfl, (by first | rfl | exact congrArg (Value.int _) (by first | omega | (simp))), rfl, trivial⟩⟩, s3700, h_l⟩
    ·have hp3706 : (l[k]!).copy = c := by first | simpa using hb3704 | (have e := hb3704; simp at e; omega)
     refine wl_t rfl (o_fieldL 0 f_40_0 rfl (wl_t rfl (o_loadBx Try.underlying3 rfl (vI ((l[k]!).device)) rfl bx3703 rfl (wl_t rfl (o_move (vI d) rfl (wl_t rfl (o_eql .i64 ((l[k]!).device) d rfl rfl (wl_t rfl (o_move (Value.bool (((l[k]!).device) == d)) rfl (?_))))))))))
     cases hb3707 : (((l[k]!).device) == d)
     ·have hp3708 : (l[k]!).device ≠ d := by first | simpa using hb3707 | (have e := hb3707; simp at e; omega)
      refine wl_t rfl (o_fieldL 2 f_40_2 rfl (wl_t rfl (o_loadBx Try.underlying3 rfl (vI ((l[k]!).kind)) rfl bx3703 rfl (wl_t rfl (o_eql .i64 ((l[k]!).kind) (1 : Int) rfl rfl (wl_t rfl (o_move (Value.bool (((l[k]!).kind) == (1 : Int))) rfl (?_))))))))
      cases hb3709 : (((l[k]!).kind) == (1 : Int))
      ·have hp3710 : (l[k]!).kind ≠ (1 : Int) := by first | simpa using hb3709 | (have e := hb3709; simp at e; omega)
       refine wl_k rfl (wl_k rfl (wl_k rfl (wl_k rfl (wl_t rfl (o_pickF (Value.bool false) rfl rfl (wl_t rfl (o_pickF (Value.bool false) rfl rfl (wl_s (o_pickT (Value.bool false) rfl rfl (wl_nil (thenQ_n (?_))))))))))))
       refine cw_cond false rfl rfl (fun h => by cases h) (fun _ => ?_)
       refine cw_skip (blockQ_n (thenQ_n (?_)))
       refine cw_region (by kernel_rfl) (wl_s (o_add .i64 ((k : Nat) : Int) (1 : Int) (((k + 1 : Nat) : Int)) rfl rfl (w64 (by omega) (by omega)) (wl_s (o_move (vI ((k + 1 : Nat) : Int)) rfl (wl_nil (thenQ_n (?_)))))))
       exact ⟨_, (by omega), (k + 1), (b3692 :: Bl0), (by omega), (had_step hr0_1 (by first | exact .inl (by assumption) | exact .inr ⟨by assumption, .inl (by assumption)⟩ | exact .inr ⟨by assumption, .inr (by assumption)⟩)), rfl, ⟨_, upds_self _ ⟨rfl, rfl, rfl, rfl, (by first | rfl | exact congrArg (Value.int _) (by first | omega | (simp))), rfl, trivial⟩⟩, s3700, h_l⟩
      ·have hp3711 : (l[k]!).kind = (1 : Int) := by first | simpa using hb3709 | (have e := hb3709; simp at e; omega)
       refine wl_t rfl (o_fieldL 4 f_40_4 rfl (wl_t rfl (o_loadBx Try.underlying3 rfl (vI ((l[k]!).to)) rfl bx3703 rfl (wl_t rfl (o_move (vI d) rfl (wl_t rfl (o_eql .i64 ((l[k]!).to) d rfl rfl (wl_t rfl (o_pickT (Value.bool (((l[k]!).to) == d)) rfl rfl (wl_t rfl (o_pickF (Value.bool (((l[k]!).to) == d)) rfl rfl (wl_s (o_pickT (Value.bool (((l[k]!).to) == d)) rfl rfl (wl_nil (thenQ_n (?_))))))))))))))))
       refine cw_cond (((l[k]!).to) == d) rfl rfl (fun hc3712 => ?_) (fun hc3712 => ?_)
       ·have hp3713 : (l[k]!).to = d := by first | simpa using hc3712 | (have e := hc3712; simp at e; omega)
        refine cw_seq (?_)
        refine cw_region (by kernel_rfl) (wl_s (o_assign (Value.bool true) rfl (wl_nil (thenQ_n (?_)))))
        refine cw_ret (blockQ_r (thenQ_r (thenQ_r (blockQ_r (thenQ_r (end_r rfl (res1 rfl rfl rfl) (?_)))))))
        have e : (hadM l c first d) = true := by first | exact had_first (by assumption) | exact had_at (k := k) (by omega) (by assumption) (.inl (by assumption)) | exact had_at (k := k) (by omega) (by assumption) (.inr ⟨by assumption, by assumption⟩) | exact had_not (by assumption) hr0_1
        exact ⟨_, rfl, s3700.keep, by rw [e]; exact rfl⟩
       ·have hp3714 : (l[k]!).to ≠ d := by first | simpa using hc3712 | (have e := hc3712; simp at e; omega)
        refine cw_skip (blockQ_n (thenQ_n (?_)))
        refine cw_region (by kernel_rfl) (wl_s (o_add .i64 ((k : Nat) : Int) (1 : Int) (((k + 1 : Nat) : Int)) rfl rfl (w64 (by omega) (by omega)) (wl_s (o_move (vI ((k + 1 : Nat) : Int)) rfl (wl_nil (thenQ_n (?_)))))))
        exact ⟨_, (by omega), (k + 1), (b3692 :: Bl0), (by omega), (had_step hr0_1 (by first | exact .inl (by assumption) | exact .inr ⟨by assumption, .inl (by assumption)⟩ | exact .inr ⟨by assumption, .inr (by assumption)⟩)), rfl, ⟨_, upds_self _ ⟨rfl, rfl, rfl, rfl, (by first | rfl | exact congrArg (Value.int _) (by first | omega | (simp))), rfl, trivial⟩⟩, s3700, h_l⟩
     ·have hp3715 : (l[k]!).device = d := by first | simpa using hb3707 | (have e := hb3707; simp at e; omega)
      refine wl_k rfl (wl_k rfl (wl_k rfl (wl_k rfl (wl_u rfl (wl_u rfl (wl_u rfl (wl_u rfl (wl_k rfl (wl_t rfl (o_pickT (Value.bool true) rfl rfl (wl_s (o_pickT (Value.bool true) rfl rfl (wl_nil (thenQ_n (?_)))))))))))))))
      refine cw_cond true rfl rfl (fun _ => ?_) (fun h => by cases h)
      refine cw_seq (?_)
      refine cw_region (by kernel_rfl) (wl_s (o_assign (Value.bool true) rfl (wl_nil (thenQ_n (?_)))))
      refine cw_ret (blockQ_r (thenQ_r (thenQ_r (blockQ_r (thenQ_r (end_r rfl (res1 rfl rfl rfl) (?_)))))))
      have e : (hadM l c first d) = true := by first | exact had_first (by assumption) | exact had_at (k := k) (by omega) (by assumption) (.inl (by assumption)) | exact had_at (k := k) (by omega) (by assumption) (.inr ⟨by assumption, by assumption⟩) | exact had_not (by assumption) hr0_1
      exact ⟨_, rfl, s3700.keep, by rw [e]; exact rfl⟩
   ·have hp3716 : (l.length : Int) ≤ ((k : Nat) : Int) := by first | simpa using hc3686 | (have e := hc3686; simp at e; omega)
    obtain rfl : k = l.length := by omega
    refine cw_exit (thenQ_x (thenQ_x (blockQ_x (thenQ_n (?_)))))
    refine cw_seq (?_)
    refine cw_region (by kernel_rfl) (wl_s (o_assign (Value.bool false) rfl (wl_nil (thenQ_n (?_)))))
    refine cw_ret (end_r rfl (res1 rfl rfl rfl) (?_))
    have e : (hadM l c first d) = false := by first | exact had_first (by assumption) | exact had_at (k := k) (by omega) (by assumption) (.inl (by assumption)) | exact had_at (k := k) (by omega) (by assumption) (.inr ⟨by assumption, by assumption⟩) | exact had_not (by assumption) hr0_1
    exact ⟨_, rfl, sl0.keep, by rw [e]; exact rfl⟩
set_option maxHeartbeats 4000000 in
set_option maxRecDepth 100000 in
theorem c_DevicesStale {O : List Nat} (la_v : Value) (la : List DeviceOp) (lb_v : Value) (lb : List DeviceOp) (copies : Int) (first : Int) (w : World) (h_la : RdL Enc.devop w O la_v la) (h_lb : RdL Enc.devop w O lb_v lb) (hO : ∀ b ∈ O, b < w.heap.size) : CallsK Try.prog 10 [la_v, lb_v, vI copies, vI first] w (fun v _ => v = .bool (true)) :=  by
 have lim_la := h_la.len_le
 have h_la : RdL Enc.devop w ([] ++ O) la_v la := h_la
 have lim_lb := h_lb.len_le
 have h_lb : RdL Enc.devop w ([] ++ O) lb_v lb := h_lb
 have s0 : St w O w [] := St.start hO
 refine callsK_of 117 Try.func10 rfl rfl (of_decide_eq_true rfl) (fun F0 => ?_)
 refine cw_seq (?_)
 refine cw_region (by kernel_rfl) (wl_s (o_assign (Value.bool false) rfl (wl_nil (thenQ_n (?_)))))
 refine cw_seq (?_)
 refine cw_seq (?_)
 refine cw_region (by kernel_rfl) (wl_s (o_callK (vs := []) enter_25 (c_sane42 (O := [] ++ O) w s0.lt) rfl s0 fun v3717 w3718 s3719 m3720 k3721 r3722 => (?_)))
 obtain rfl := r3722
 have h_la := h_la.mv m3720
 have h_lb := h_lb.mv m3720
 refine wl_s (o_not true rfl (wl_nil (thenQ_n (?_))))
 refine cw_cond false rfl rfl (fun h => by cases h) (fun _ => ?_)
 refine cw_skip (thenQ_n (?_))
 refine cw_seq (?_)
 refine cw_seq (?_)
 refine cw_region (by kernel_rfl) (wl_s (o_move (la_v) rfl (wl_s (o_callK (vs := [la_v]) enter_26 (c_few (O := [] ++ O) la_v la w3718 h_la s3719.lt) rfl s3719 fun v3723 w3724 s3725 m3726 k3727 r3728 => (?_)))))
 obtain rfl := r3728
 have h_la := h_la.mv m3726
 have h_lb := h_lb.mv m3726
 refine wl_s (o_not (decide ((la.length : Int) ≤ 40)) rfl (wl_s (o_move (Value.bool (!(decide ((la.length : Int) ≤ 40)))) rfl (?_))))
 cases hb3729 : (!(decide ((la.length : Int) ≤ 40)))
 ·have hp3730 : (la.length : Int) ≤ 40 := by first | simpa using hb3729 | (have e := hb3729; simp at e; omega)
  refine wl_t rfl (o_move (lb_v) rfl (wl_t rfl (o_callK (vs := [lb_v]) enter_26 (c_few (O := [] ++ O) lb_v lb w3724 h_lb s3725.lt) rfl s3725 fun v3731 w3732 s3733 m3734 k3735 r3736 => (?_))))
  obtain rfl := r3736
  have h_la := h_la.mv m3734
  have h_lb := h_lb.mv m3734
  refine wl_t rfl (o_not (decide ((lb.length : Int) ≤ 40)) rfl (wl_s (o_pickF (Value.bool (!(decide ((lb.length : Int) ≤ 40)))) rfl rfl (wl_s (o_move (Value.bool (!(decide ((lb.length : Int) ≤ 40)))) rfl (?_))))))
  cases hb3737 : (!(decide ((lb.length : Int) ≤ 40)))
  ·have hp3738 : (lb.length : Int) ≤ 40 := by first | simpa using hb3737 | (have e := hb3737; simp at e; omega)
   refine wl_t rfl (o_move (vI copies) rfl (wl_t rfl (o_gtr .i64 copies (50 : Int) rfl rfl (wl_s (o_pickF (Value.bool (decide ((50 : Int) < copies))) rfl rfl (wl_nil (thenQ_n (?_))))))))
   refine cw_cond (decide ((50 : Int) < copies)) rfl rfl (fun hc3739 => ?_) (fun hc3739 => ?_)
   ·have hp3740 : (50 : Int) < copies := by first | simpa using hc3739 | (have e := hc3739; simp at e; omega)
    refine cw_seq (?_)
    refine cw_region (by kernel_rfl) (wl_s (o_assign (Value.bool true) rfl (wl_nil (thenQ_n (?_)))))
    refine cw_ret (thenQ_r (end_r rfl (res1 rfl rfl rfl) (?_)))
    exact ⟨_, rfl, s3733.keep, rfl⟩
   ·have hp3741 : copies ≤ (50 : Int) := by first | simpa using hc3739 | (have e := hc3739; simp at e; omega)
    refine cw_skip (thenQ_n (?_))
    refine cw_seq (?_)
    refine cw_region (by kernel_rfl) (wl_s (o_move (la_v) rfl (wl_s (o_move (lb_v) rfl (wl_s (o_callK (vs := [la_v, lb_v]) enter_31 (c_merge (O := [] ++ O) la_v la lb_v lb w3732 h_la h_lb s3733.lt) rfl s3733 fun v3742 w3743 s3744 m3745 k3746 r3747 => (?_)))))))
    obtain ⟨x3748, rfl, hl3749⟩ := r3747
    have := hl3749.len_le
    have h_la := h_la.mv m3745
    have h_lb := h_lb.mv m3745
    refine wl_s (o_move (Value.tuple #[x3748, vI ((mergeM la lb).2)]) rfl (wl_s (o_extract (x3748) rfl rfl (wl_s (o_extract (vI ((mergeM la lb).2)) rfl rfl (wl_s (o_assign (x3748) rfl (wl_s (o_assign (vI ((mergeM la lb).2)) rfl (wl_nil (thenQ_n (?_))))))))))))
    refine cw_seq (?_)
    refine cw_region (by kernel_rfl) (wl_s (o_move (la_v) rfl (wl_s (o_move (vI copies) rfl (wl_s (o_move (vI first) rfl (wl_s (o_callK (vs := [la_v, vI copies, vI first]) enter_24 (c_state (O := [] ++ O) la_v la copies first w3743 h_la s3744.lt) rfl s3744 fun v3750 w3751 s3752 m3753 k3754 r3755 => (?_)))))))))
    obtain ⟨x3756, rfl, hl3757⟩ := r3755
    have := hl3757.len_le
    have h_la := h_la.mv m3753
    have h_lb := h_lb.mv m3753
    have hl3749 := hl3749.mv m3753
    refine wl_s (o_move (Value.tuple #[x3756, vI ((stateM la copies first).2)]) rfl (wl_s (o_extract (x3756) rfl rfl (wl_s (o_extract (vI ((stateM la copies first).2)) rfl rfl (wl_s (o_assign (x3756) rfl (wl_s (o_assign (vI ((stateM la copies first).2)) rfl (wl_nil (thenQ_n (?_))))))))))))
    refine cw_seq (?_)
    refine cw_region (by kernel_rfl) (wl_s (o_move (x3748) rfl (wl_s (o_move (vI copies) rfl (wl_s (o_move (vI first) rfl (wl_s (o_callK (vs := [x3748, vI copies, vI first]) enter_24 (c_state (O := [] ++ O) x3748 ((mergeM la lb).1) copies first w3751 hl3749 s3752.lt) rfl s3752 fun v3758 w3759 s3760 m3761 k3762 r3763 => (?_)))))))))
    obtain ⟨x3764, rfl, hl3765⟩ := r3763
    have := hl3765.len_le
    have h_la := h_la.mv m3761
    have h_lb := h_lb.mv m3761
    have hl3757 := hl3757.mv m3761
    refine wl_s (o_move (Value.tuple #[x3764, vI ((stateM ((mergeM la lb).1) copies first).2)]) rfl (wl_s (o_extract (x3764) rfl rfl (wl_s (o_extract (vI ((stateM ((mergeM la lb).1) copies first).2)) rfl rfl (wl_s (o_assign (x3764) rfl (wl_s (o_assign (vI ((stateM ((mergeM la lb).1) copies first).2)) rfl (wl_nil (thenQ_n (?_))))))))))))
    refine cw_seq (?_)
    refine cw_seq (?_)
    refine cw_region (by kernel_rfl) (wl_s (o_move (vI ((mergeM la lb).2)) rfl (wl_s (o_neq .i64 ((mergeM la lb).2) (0 : Int) rfl rfl (wl_s (o_move (Value.bool (((mergeM la lb).2) != (0 : Int))) rfl (?_)))))))
    cases hb3766 : (((mergeM la lb).2) != (0 : Int))
    ·have hp3767 : (mergeM la lb).2 = (0 : Int) := by first | simpa using hb3766 | (have e := hb3766; simp at e; omega)
     have hmm : (mergeM la lb).2 = 0 := hp3767
     refine wl_t rfl (o_move (vI ((stateM la copies first).2)) rfl (wl_t rfl (o_neq .i64 ((stateM la copies first).2) (0 : Int) rfl rfl (wl_s (o_pickF (Value.bool (((stateM la copies first).2) != (0 : Int))) rfl rfl (wl_s (o_move (Value.bool (((stateM la copies first).2) != (0 : Int))) rfl (?_))))))))
     cases hb3768 : (((stateM la copies first).2) != (0 : Int))
     ·have hp3769 : (stateM la copies first).2 = (0 : Int) := by first | simpa using hb3768 | (have e := hb3768; simp at e; omega)
      have hst : (stateM la copies first).2 = 0 := hp3769
      have hsl := state_len hst
      refine wl_t rfl (o_move (vI ((stateM ((mergeM la lb).1) copies first).2)) rfl (wl_t rfl (o_neq .i64 ((stateM ((mergeM la lb).1) copies first).2) (0 : Int) rfl rfl (wl_s (o_pickF (Value.bool (((stateM ((mergeM la lb).1) copies first).2) != (0 : Int))) rfl rfl (wl_nil (thenQ_n (?_))))))))
      refine cw_cond (((stateM ((mergeM la lb).1) copies first).2) != (0 : Int)) rfl rfl (fun hc3770 => ?_) (fun hc3770 => ?_)
      ·have hp3771 : (stateM ((mergeM la lb).1) copies first).2 ≠ (0 : Int) := by first | simpa using hc3770 | (have e := hc3770; simp at e; omega)
       refine cw_seq (?_)
       refine cw_region (by kernel_rfl) (wl_s (o_assign (Value.bool true) rfl (wl_nil (thenQ_n (?_)))))
       refine cw_ret (thenQ_r (end_r rfl (res1 rfl rfl rfl) (?_)))
       exact ⟨_, rfl, s3760.keep, rfl⟩
      ·have hp3772 : (stateM ((mergeM la lb).1) copies first).2 = (0 : Int) := by first | simpa using hc3770 | (have e := hc3770; simp at e; omega)
       have hys : (stateM (mergeM la lb).1 copies first).2 = 0 := hp3772
       have hyl := state_len hys
       refine cw_skip (thenQ_n (?_))
       refine cw_seq (?_)
       refine cw_seq (?_)
       refine cw_region (by kernel_rfl) (wl_s (o_move (x3756) rfl (wl_s (o_lenR Try.underlying43 rfl hl3757 (wl_s (o_move (vI (0 : Int)) rfl (wl_nil (thenQ_n (?_)))))))))
       refine cw_block (?_)
       refine cw_loop (fun mI FI wI => ∃ (k : Nat) (B : List Nat), k ≤ ((stateM la copies first).1).length ∧ mI = ((stateM la copies first).1).length - k ∧ (∃ F1, FI = upds F1 [(0, la_v), (1, lb_v), (3, vI first), (11, x3756), (13, x3764), (64, vI (((stateM la copies first).1).length : Int)), (65, vI ((k : Nat) : Int)), (117, undef)]) ∧ St w O wI B ∧ RdL Enc.devop wI (B ++ O) (la_v) (la) ∧ RdL Enc.devop wI (B ++ O) (lb_v) (lb) ∧ RdL Enc.holding wI (B ++ O) (x3756) ((stateM la copies first).1) ∧ RdL Enc.holding wI (B ++ O) (x3764) ((stateM ((mergeM la lb).1) copies first).1)) (((stateM la copies first).1).length - (0)) ?_ ?_
       ·exact ⟨(0), [], (by omega), rfl, ⟨_, upds_self _ ⟨rfl, rfl, rfl, rfl, rfl, rfl, (by first | rfl | exact congrArg (Value.int _) (by first | omega | (simp))), rfl, trivial⟩⟩, s3760, h_la, h_lb, hl3757, hl3765⟩
       ·intro ml0 F wl0 hI
        clear h_la h_lb hl3757 hl3765
        obtain ⟨k, Bl0, hr0_0, hm0, ⟨Fl0, rfl⟩, sl0, h_la, h_lb, hl3757, hl3765⟩ := hI
        refine cw_seq (?_)
        refine cw_region (by kernel_rfl) (wl_s (o_lss .i64 ((k : Nat) : Int) (((stateM la copies first).1).length : Int) rfl rfl (wl_nil (thenQ_n (?_)))))
        refine cw_seq (?_)
        refine cw_cond (decide (((k : Nat) : Int) < (((stateM la copies first).1).length : Int))) rfl rfl (fun hc3773 => ?_) (fun hc3773 => ?_)
        ·have hp3774 : ((k : Nat) : Int) < (((stateM la copies first).1).length : Int) := by first | simpa using hc3773 | (have e := hc3773; simp at e; omega)
         refine cw_skip (thenQ_n (?_))
         refine cw_seq (?_)
         refine cw_block (?_)
         refine cw_seq (?_)
         refine cw_region (by kernel_rfl) (wl_s (o_move (vI ((k : Nat) : Int)) rfl (wl_s (o_assign (vI ((k : Nat) : Int)) rfl (wl_nil (thenQ_n (?_)))))))
         refine cw_seq (?_)
         refine cw_region (by kernel_rfl) (wl_s (o_assign (Value.bool false) rfl (wl_nil (thenQ_n (?_)))))
         refine cw_seq (?_)
         refine cw_seq (?_)
         refine cw_region (by kernel_rfl) (wl_s (o_move (lb_v) rfl (wl_s (o_lenR Try.underlying26 rfl h_lb (wl_s (o_move (vI (0 : Int)) rfl (wl_nil (thenQ_n (?_)))))))))
         refine cw_block (?_)
         refine cw_loop (fun mI FI wI => ∃ (j : Nat) (B : List Nat), j ≤ lb.length ∧ mI = lb.length - j ∧ (∃ F1, FI = upds F1 [(0, la_v), (1, lb_v), (3, vI first), (11, x3756), (13, x3764), (15, vI ((k : Nat) : Int)), (16, Value.bool (staleM la lb ((k : Nat) : Int) first ((stateM la copies first).1)[k]!.device j)), (64, vI (((stateM la copies first).1).length : Int)), (65, vI ((k : Nat) : Int)), (68, lb_v), (69, vI (lb.length : Int)), (70, vI ((j : Nat) : Int)), (117, undef)]) ∧ St w O wI B ∧ RdL Enc.devop wI (B ++ O) (la_v) (la) ∧ RdL Enc.devop wI (B ++ O) (lb_v) (lb) ∧ RdL Enc.holding wI (B ++ O) (x3756) ((stateM la copies first).1) ∧ RdL Enc.holding wI (B ++ O) (x3764) ((stateM ((mergeM la lb).1) copies first).1)) (lb.length - (0)) ?_ ?_
         ·exact ⟨(0), Bl0, (by omega), rfl, ⟨_, upds_self _ ⟨rfl, rfl, rfl, rfl, rfl, rfl, (congrArg Value.bool (by first | rfl | (rfl))), rfl, rfl, rfl, rfl, (by first | rfl | exact congrArg (Value.int _) (by first | omega | (simp))), rfl, trivial⟩⟩, sl0, h_la, h_lb, hl3757, hl3765⟩
         ·intro ml1 F wl1 hI
          clear h_la h_lb hl3757 hl3765
          obtain ⟨j, Bl1, hr1_0, hm1, ⟨Fl1, rfl⟩, sl1, h_la, h_lb, hl3757, hl3765⟩ := hI
          refine cw_seq (?_)
          refine cw_region (by kernel_rfl) (wl_s (o_lss .i64 ((j : Nat) : Int) (lb.length : Int) rfl rfl (wl_nil (thenQ_n (?_)))))
          refine cw_seq (?_)
          refine cw_cond (decide (((j : Nat) : Int) < (lb.length : Int))) rfl rfl (fun hc3775 => ?_) (fun hc3775 => ?_)
          ·have hp3776 : ((j : Nat) : Int) < (lb.length : Int) := by first | simpa using hc3775 | (have e := hc3775; simp at e; omega)
           refine cw_skip (thenQ_n (?_))
           refine cw_seq (?_)
           refine cw_block (?_)
           refine cw_seq (?_)
           refine cw_region (by kernel_rfl) (wl_s (o_idx Try.underlying26 s_40 .i64 ((j : Nat) : Int) j rfl rfl rfl h_lb (by omega) fun a3777 hp3778 => (wl_s (o_loadS Try.underlying40 rfl s_40 rfl hp3778 fun cs3779 hs3780 => (?_)))))
           obtain rfl := hs3780
           refine wl_s (o_alloc [vI (0 : Int), vI (0 : Int), vI (0 : Int), vI (0 : Int), vI (0 : Int), vI (0 : Int)] z_40 rfl sl1 fun b3781 w3782 e3787 s3783 m3784 k3785 bx3786 => (?_))
           clear e3787
           have h_la := h_la.mv m3784
           have h_lb := h_lb.mv m3784
           have hl3757 := hl3757.mv m3784
           have hl3765 := hl3765.mv m3784
           refine wl_n (o_store (vs := [vI ((lb[j]!).device), vI ((lb[j]!).no), vI ((lb[j]!).kind), vI ((lb[j]!).copy), vI ((lb[j]!).to), vI ((lb[j]!).token)]) (.agg #[vI ((lb[j]!).device), vI ((lb[j]!).no), vI ((lb[j]!).kind), vI ((lb[j]!).copy), vI ((lb[j]!).to), vI ((lb[j]!).token)]) rfl rfl rfl s_40 (fun u hu => by simp only [List.mem_cons, List.not_mem_nil, or_false] at hu; rcases hu with rfl | rfl | rfl | rfl | rfl | rfl <;> first | rfl) (by repeat (first | assumption | constructor)) bx3786 (of_decide_eq_true rfl) s3783 fun w3788 s3789 m3790 k3791 bx3792 => (?_))
           have h_la := h_la.mv m3790
           have h_lb := h_lb.mv m3790
           have hl3757 := hl3757.mv m3790
           have hl3765 := hl3765.mv m3790
           refine wl_nil (thenQ_n (?_))
           refine cw_seq (?_)
           cases hb3793 : (((lb[j]!).copy) == ((k : Nat) : Int))
           ·have hp3794 : (lb[j]!).copy ≠ ((k : Nat) : Int) := by first | simpa using hb3793 | (have e := hb3793; simp at e; omega)
            refine cw_draw' 25 _ _ [isV (Value.pointer (some ⟨b3781, 3, none⟩)), isV (vI ((lb[j]!).copy)), isV (vI ((k : Nat) : Int)), isV (Value.bool false), isV (Value.bool false), isV undef, isV undef, isV undef, isV undef, isV (Value.bool false), isV (Value.bool false), isV undef, isV undef, isV undef, isV undef, isV undef, isV undef, isV undef, isV undef, isV undef, isV undef, isV undef, isV undef, isV undef, isV undef] (by kernel_rfl) (by kernel_rfl) (by kernel_rfl) (by kernel_rfl) rfl rfl ⟨kI, kI, kI, kI, kI, kI, kI, kI, kI, kI, kI, kI, kI, kI, kI, kI, kI, kI, kI, kI, kI, kI, kI, kI, kI, trivial⟩ ⟨?_, ?_, ?_, ?_, ?_, ?_, ?_, ?_, ?_, ?_, ?_, ?_, ?_, ?_, ?_, ?_, ?_, ?_, ?_, ?_, ?_, ?_, ?_, ?_, ?_, trivial⟩ ?_
            ·intro F1 w1 k1 hf hd
             obtain ⟨F2, rfl⟩ := lit_of (F := F1) [(18, Value.pointer (some ⟨b3781, 0, none⟩))] ⟨hf 18 (by kernel_rfl), trivial⟩
             exact sp_plain rfl ((o_fieldL 3 f_40_3 rfl (⟨(Keep.refl _ _), rfl⟩)))
            ·intro F1 w1 k1 hf hd
             have k0 := (Keep.drew [] w3788).trans k1
             have bx3792 := bx3792.keep k0 (by simp)
             obtain ⟨F2, rfl⟩ := lit_of (F := F1) [(74, Value.pointer (some ⟨b3781, 3, none⟩))] ⟨hd 0 74 (by kernel_rfl), trivial⟩
             exact sp_plain rfl ((o_loadBx Try.underlying3 rfl (vI ((lb[j]!).copy)) rfl bx3792 rfl (⟨(Keep.refl _ _), rfl⟩)))
            ·intro F1 w1 k1 hf hd
             obtain ⟨F2, rfl⟩ := lit_of (F := F1) [(15, vI ((k : Nat) : Int))] ⟨hf 15 (by kernel_rfl), trivial⟩
             exact sp_plain rfl ((o_move (vI ((k : Nat) : Int)) rfl (⟨(Keep.refl _ _), rfl⟩)))
            ·intro F1 w1 k1 hf hd
             obtain ⟨F2, rfl⟩ := lit_of (F := F1) [(75, vI ((lb[j]!).copy)), (76, vI ((k : Nat) : Int))] ⟨hd 1 75 (by kernel_rfl), hd 2 76 (by kernel_rfl), trivial⟩
             refine sp_plain rfl ((o_eql .i64 ((lb[j]!).copy) ((k : Nat) : Int) rfl rfl (?_)))
             exact ⟨(Keep.refl _ _), congrArg Value.bool (hb3793)⟩
            ·intro F1 w1 k1 hf hd
             obtain ⟨F2, rfl⟩ := lit_of (F := F1) [(77, Value.bool false)] ⟨hd 3 77 (by kernel_rfl), trivial⟩
             exact sp_plain rfl ((o_move (Value.bool false) rfl (⟨(Keep.refl _ _), rfl⟩)))
            ·intro F1 w1 k1 hf hd
             exact sp_skipD rfl rfl (hd 4 78 (by kernel_rfl)) rfl rfl
            ·intro F1 w1 k1 hf hd
             exact sp_skipD rfl rfl (hd 4 78 (by kernel_rfl)) rfl rfl
            ·intro F1 w1 k1 hf hd
             exact sp_skipD rfl rfl (hd 4 78 (by kernel_rfl)) rfl rfl
            ·intro F1 w1 k1 hf hd
             exact sp_skipD rfl rfl (hd 4 78 (by kernel_rfl)) rfl rfl
            ·intro F1 w1 k1 hf hd
             obtain ⟨F2, rfl⟩ := lit_of (F := F1) [(78, Value.bool false), (82, undef)] ⟨hd 4 78 (by kernel_rfl), hd 8 82 (by kernel_rfl), trivial⟩
             exact sp_plain rfl ((o_pickF (Value.bool false) rfl rfl (⟨(Keep.refl _ _), rfl⟩)))
            ·intro F1 w1 k1 hf hd
             obtain ⟨F2, rfl⟩ := lit_of (F := F1) [(83, Value.bool false)] ⟨hd 9 83 (by kernel_rfl), trivial⟩
             exact sp_plain rfl ((o_move (Value.bool false) rfl (⟨(Keep.refl _ _), rfl⟩)))
            ·intro F1 w1 k1 hf hd
             exact sp_skipD rfl rfl (hd 10 84 (by kernel_rfl)) rfl rfl
            ·intro F1 w1 k1 hf hd
             exact sp_skipD rfl rfl (hd 10 84 (by kernel_rfl)) rfl rfl
            ·intro F1 w1 k1 hf hd
             exact sp_skipD rfl rfl (hd 10 84 (by kernel_rfl)) rfl rfl
            ·intro F1 w1 k1 hf hd
             exact sp_skipD rfl rfl (hd 10 84 (by kernel_rfl)) rfl rfl
            ·intro F1 w1 k1 hf hd
             exact sp_skipD rfl rfl (hd 10 84 (by kernel_rfl)) rfl rfl
            ·intro F1 w1 k1 hf hd
             exact sp_skipD rfl rfl (hd 10 84 (by kernel_rfl)) rfl rfl
            ·intro F1 w1 k1 hf hd
             exact sp_skipD rfl rfl (hd 10 84 (by kernel_rfl)) rfl rfl
            ·intro F1 w1 k1 hf hd
             exact sp_skipD rfl rfl (hd 10 84 (by kernel_rfl)) rfl rfl
            ·intro F1 w1 k1 hf hd
             exact sp_skipD rfl rfl (hd 10 84 (by kernel_rfl)) rfl rfl
            ·intro F1 w1 k1 hf hd
             exact sp_undefD rfl rfl (hd 19 93 (by kernel_rfl)) rfl
            ·intro F1 w1 k1 hf hd
             exact sp_undefD rfl rfl (hd 19 93 (by kernel_rfl)) rfl
            ·intro F1 w1 k1 hf hd
             exact sp_undefD rfl rfl (hd 19 93 (by kernel_rfl)) rfl
            ·intro F1 w1 k1 hf hd
             exact sp_undefD rfl rfl (hd 19 93 (by kernel_rfl)) rfl
            ·intro F1 w1 k1 hf hd
             exact sp_undefD rfl rfl (hd 19 93 (by kernel_rfl)) rfl
            intro F3796 w3797 k3795 hT3798 hF3799
            have s3800 := s3789.call k3795
            have m3801 : Mv (b3781 :: Bl1) w3788 (b3781 :: Bl1) w3797 := Mv.of_keep k3795
            have h_la := h_la.mv m3801
            have h_lb := h_lb.mv m3801
            have hl3757 := hl3757.mv m3801
            have hl3765 := hl3765.mv m3801
            obtain ⟨F2, rfl⟩ := lit_of (F := F3796) [(0, la_v), (1, lb_v), (3, vI first), (11, x3756), (13, x3764), (15, vI ((k : Nat) : Int)), (16, Value.bool (staleM la lb ((k : Nat) : Int) first ((stateM la copies first).1)[k]!.device j)), (64, vI (((stateM la copies first).1).length : Int)), (65, vI ((k : Nat) : Int)), (68, lb_v), (69, vI (lb.length : Int)), (70, vI ((j : Nat) : Int)), (117, undef), (84, Value.bool false), (93, undef)] ⟨hF3799 0 (by kernel_rfl), hF3799 1 (by kernel_rfl), hF3799 3 (by kernel_rfl), hF3799 11 (by kernel_rfl), hF3799 13 (by kernel_rfl), hF3799 15 (by kernel_rfl), hF3799 16 (by kernel_rfl), hF3799 64 (by kernel_rfl), hF3799 65 (by kernel_rfl), hF3799 68 (by kernel_rfl), hF3799 69 (by kernel_rfl), hF3799 70 (by kernel_rfl), hF3799 117 (by kernel_rfl), hT3798 10 84 (by kernel_rfl) (by decide), hT3798 19 93 (by kernel_rfl) (by decide), trivial⟩
            clear hT3798 hF3799
            refine wl_u rfl (wl_k rfl (wl_s (o_pickF (Value.bool false) rfl rfl (wl_nil (thenQ_n (?_))))))
            refine cw_cond false rfl rfl (fun h => by cases h) (fun _ => ?_)
            refine cw_skip (blockQ_n (thenQ_n (?_)))
            refine cw_region (by kernel_rfl) (wl_s (o_add .i64 ((j : Nat) : Int) (1 : Int) (((j + 1 : Nat) : Int)) rfl rfl (w64 (by omega) (by omega)) (wl_s (o_move (vI ((j + 1 : Nat) : Int)) rfl (wl_nil (thenQ_n (?_)))))))
            exact ⟨_, (by omega), (j + 1), (b3781 :: Bl1), (by omega), rfl, ⟨_, upds_self _ ⟨rfl, rfl, rfl, rfl, rfl, rfl, (congrArg Value.bool (by first | rfl | (first | exact (stale_y (by assumption) (by assumption) (.inl (by assumption))).symm | exact (stale_y (by assumption) (by assumption) (.inr (by assumption))).symm | exact (stale_n (.inl (by assumption))).symm | exact (stale_n (.inr (.inl (by assumption)))).symm | exact (stale_n (.inr (.inr ⟨(by assumption), (by assumption)⟩))).symm))), rfl, rfl, rfl, rfl, (by first | rfl | exact congrArg (Value.int _) (by first | omega | (simp))), rfl, trivial⟩⟩, s3800, h_la, h_lb, hl3757, hl3765⟩
           ·have hp3804 : (lb[j]!).copy = ((k : Nat) : Int) := by first | simpa using hb3793 | (have e := hb3793; simp at e; omega)
            cases hb3805 : (!(la.contains (lb[j]!)))
            ·have hp3806 : (la.contains (lb[j]!)) = true := by first | simpa using hb3805 | (have e := hb3805; simp at e; omega)
             refine cw_draw' 25 _ _ [isV (Value.pointer (some ⟨b3781, 3, none⟩)), isV (vI ((lb[j]!).copy)), isV (vI ((k : Nat) : Int)), isV (Value.bool true), isV (Value.bool true), fun (vT : Value) (wT : World) => RdL Enc.devop wT ((b3781 :: Bl1) ++ O) vT (la), isV (Value.agg #[vI ((lb[j]!).device), vI ((lb[j]!).no), vI ((lb[j]!).kind), vI ((lb[j]!).copy), vI ((lb[j]!).to), vI ((lb[j]!).token)]), isV (Value.bool (la.contains (lb[j]!))), isV (Value.bool false), isV (Value.bool false), isV (Value.bool false), isV undef, isV undef, isV undef, isV undef, isV undef, isV undef, isV undef, isV undef, isV undef, isV undef, isV undef, isV undef, isV undef, isV undef] (by kernel_rfl) (by kernel_rfl) (by kernel_rfl) (by kernel_rfl) rfl rfl ⟨kI, kI, kI, kI, kI, fun _ _ _ h k => h.mv (Mv.of_keep k), kI, kI, kI, kI, kI, kI, kI, kI, kI, kI, kI, kI, kI, kI, kI, kI, kI, kI, kI, trivial⟩ ⟨?_, ?_, ?_, ?_, ?_, ?_, ?_, ?_, ?_, ?_, ?_, ?_, ?_, ?_, ?_, ?_, ?_, ?_, ?_, ?_, ?_, ?_, ?_, ?_, ?_, trivial⟩ ?_
             ·intro F1 w1 k1 hf hd
              obtain ⟨F2, rfl⟩ := lit_of (F := F1) [(18, Value.pointer (some ⟨b3781, 0, none⟩))] ⟨hf 18 (by kernel_rfl), trivial⟩
              exact sp_plain rfl ((o_fieldL 3 f_40_3 rfl (⟨(Keep.refl _ _), rfl⟩)))
             ·intro F1 w1 k1 hf hd
              have k0 := (Keep.drew [] w3788).trans k1
              have bx3792 := bx3792.keep k0 (by simp)
              obtain ⟨F2, rfl⟩ := lit_of (F := F1) [(74, Value.pointer (some ⟨b3781, 3, none⟩))] ⟨hd 0 74 (by kernel_rfl), trivial⟩
              exact sp_plain rfl ((o_loadBx Try.underlying3 rfl (vI ((lb[j]!).copy)) rfl bx3792 rfl (⟨(Keep.refl _ _), rfl⟩)))
             ·intro F1 w1 k1 hf hd
              obtain ⟨F2, rfl⟩ := lit_of (F := F1) [(15, vI ((k : Nat) : Int))] ⟨hf 15 (by kernel_rfl), trivial⟩
              exact sp_plain rfl ((o_move (vI ((k : Nat) : Int)) rfl (⟨(Keep.refl _ _), rfl⟩)))
             ·intro F1 w1 k1 hf hd
              obtain ⟨F2, rfl⟩ := lit_of (F := F1) [(75, vI ((lb[j]!).copy)), (76, vI ((k : Nat) : Int))] ⟨hd 1 75 (by kernel_rfl), hd 2 76 (by kernel_rfl), trivial⟩
              refine sp_plain rfl ((o_eql .i64 ((lb[j]!).copy) ((k : Nat) : Int) rfl rfl (?_)))
              exact ⟨(Keep.refl _ _), congrArg Value.bool (hb3793)⟩
             ·intro F1 w1 k1 hf hd
              obtain ⟨F2, rfl⟩ := lit_of (F := F1) [(77, Value.bool true)] ⟨hd 3 77 (by kernel_rfl), trivial⟩
              exact sp_plain rfl ((o_move (Value.bool true) rfl (⟨(Keep.refl _ _), rfl⟩)))
             ·intro F1 w1 k1 hf hd
              have k0 := (Keep.drew [] w3788).trans k1
              have m1 : Mv (b3781 :: Bl1) w3788 (b3781 :: Bl1) w1 := Mv.of_keep k0
              have h_la := h_la.mv m1
              obtain ⟨F2, rfl⟩ := lit_of (F := F1) [(0, la_v), (78, Value.bool true)] ⟨hf 0 (by kernel_rfl), hd 4 78 (by kernel_rfl), trivial⟩
              exact sp_take rfl rfl ((o_move (la_v) rfl (⟨(Keep.refl _ _), h_la⟩)))
             ·intro F1 w1 k1 hf hd
              have k0 := (Keep.drew [] w3788).trans k1
              have bx3792 := bx3792.keep k0 (by simp)
              obtain ⟨F2, rfl⟩ := lit_of (F := F1) [(18, Value.pointer (some ⟨b3781, 0, none⟩)), (78, Value.bool true)] ⟨hf 18 (by kernel_rfl), hd 4 78 (by kernel_rfl), trivial⟩
              exact sp_take rfl rfl ((o_loadBxA (vs := [vI ((lb[j]!).device), vI ((lb[j]!).no), vI ((lb[j]!).kind), vI ((lb[j]!).copy), vI ((lb[j]!).to), vI ((lb[j]!).token)]) Try.underlying40 rfl s_40 rfl bx3792 rfl (⟨(Keep.refl _ _), rfl⟩)))
             ·intro F1 w1 k1 hf hd
              have k0 := (Keep.drew [] w3788).trans k1
              have s1 := s3789.call k0
              obtain ⟨v3807, e3809, hl3808⟩ : ∃ v, F1 79 = v ∧ RdL Enc.devop w1 ((b3781 :: Bl1) ++ O) v (la) := ⟨_, rfl, hd 5 79 (by kernel_rfl)⟩
              have := hl3808.len_le
              obtain ⟨F2, rfl⟩ := lit_of (F := F1) [(78, Value.bool true), (79, v3807), (80, Value.agg #[vI ((lb[j]!).device), vI ((lb[j]!).no), vI ((lb[j]!).kind), vI ((lb[j]!).copy), vI ((lb[j]!).to), vI ((lb[j]!).token)])] ⟨hd 4 78 (by kernel_rfl), e3809, hd 6 80 (by kernel_rfl), trivial⟩
              refine sp_take rfl rfl ((o_callK (vs := [v3807, Value.agg #[vI ((lb[j]!).device), vI ((lb[j]!).no), vI ((lb[j]!).kind), vI ((lb[j]!).copy), vI ((lb[j]!).to), vI ((lb[j]!).token)]]) enter_37 (c_refHas (O := (b3781 :: Bl1) ++ O) v3807 la [vI ((lb[j]!).device), vI ((lb[j]!).no), vI ((lb[j]!).kind), vI ((lb[j]!).copy), vI ((lb[j]!).to), vI ((lb[j]!).token)] (lb[j]!) w1 hl3808 rfl s1.lt) rfl s1 fun v3810 w3811 s3812 m3813 k3814 r3815 => (?_)))
              obtain rfl := r3815
              exact ⟨k3814, rfl⟩
             ·intro F1 w1 k1 hf hd
              obtain ⟨F2, rfl⟩ := lit_of (F := F1) [(78, Value.bool true), (81, Value.bool (la.contains (lb[j]!)))] ⟨hd 4 78 (by kernel_rfl), hd 7 81 (by kernel_rfl), trivial⟩
              refine sp_take rfl rfl ((o_not (la.contains (lb[j]!)) rfl (?_)))
              exact ⟨(Keep.refl _ _), congrArg Value.bool (hb3805)⟩
             ·intro F1 w1 k1 hf hd
              obtain ⟨F2, rfl⟩ := lit_of (F := F1) [(78, Value.bool true), (82, Value.bool false)] ⟨hd 4 78 (by kernel_rfl), hd 8 82 (by kernel_rfl), trivial⟩
              exact sp_plain rfl ((o_pickT (Value.bool false) rfl rfl (⟨(Keep.refl _ _), rfl⟩)))
             ·intro F1 w1 k1 hf hd
              obtain ⟨F2, rfl⟩ := lit_of (F := F1) [(83, Value.bool false)] ⟨hd 9 83 (by kernel_rfl), trivial⟩
              exact sp_plain rfl ((o_move (Value.bool false) rfl (⟨(Keep.refl _ _), rfl⟩)))
             ·intro F1 w1 k1 hf hd
              exact sp_skipD rfl rfl (hd 10 84 (by kernel_rfl)) rfl rfl
             ·intro F1 w1 k1 hf hd
              exact sp_skipD rfl rfl (hd 10 84 (by kernel_rfl)) rfl rfl
             ·intro F1 w1 k1 hf hd
              exact sp_skipD rfl rfl (hd 10 84 (by kernel_rfl)) rfl rfl
             ·intro F1 w1 k1 hf hd
              exact sp_skipD rfl rfl (hd 10 84 (by kernel_rfl)) rfl rfl
             ·intro F1 w1 k1 hf hd
              exact sp_skipD rfl rfl (hd 10 84 (by kernel_rfl)) rfl rfl
             ·intro F1 w1 k1 hf hd
              exact sp_skipD rfl rfl (hd 10 84 (by kernel_rfl)) rfl rfl
             ·intro F1 w1 k1 hf hd
              exact sp_skipD rfl rfl (hd 10 84 (by kernel_rfl)) rfl rfl
             ·intro F1 w1 k1 hf hd
              exact sp_skipD rfl rfl (hd 10 84 (by kernel_rfl)) rfl rfl
             ·intro F1 w1 k1 hf hd
              exact sp_skipD rfl rfl (hd 10 84 (by kernel_rfl)) rfl rfl
             ·intro F1 w1 k1 hf hd
              exact sp_undefD rfl rfl (hd 19 93 (by kernel_rfl)) rfl
             ·intro F1 w1 k1 hf hd
              exact sp_undefD rfl rfl (hd 19 93 (by kernel_rfl)) rfl
             ·intro F1 w1 k1 hf hd
              exact sp_undefD rfl rfl (hd 19 93 (by kernel_rfl)) rfl
             ·intro F1 w1 k1 hf hd
              exact sp_undefD rfl rfl (hd 19 93 (by kernel_rfl)) rfl
             ·intro F1 w1 k1 hf hd
              exact sp_undefD rfl rfl (hd 19 93 (by kernel_rfl)) rfl
             intro F3817 w3818 k3816 hT3819 hF3820
             have s3821 := s3789.call k3816
             have m3822 : Mv (b3781 :: Bl1) w3788 (b3781 :: Bl1) w3818 := Mv.of_keep k3816
             have h_la := h_la.mv m3822
             have h_lb := h_lb.mv m3822
             have hl3757 := hl3757.mv m3822
             have hl3765 := hl3765.mv m3822
             obtain ⟨F2, rfl⟩ := lit_of (F := F3817) [(0, la_v), (1, lb_v), (3, vI first), (11, x3756), (13, x3764), (15, vI ((k : Nat) : Int)), (16, Value.bool (staleM la lb ((k : Nat) : Int) first ((stateM la copies first).1)[k]!.device j)), (64, vI (((stateM la copies first).1).length : Int)), (65, vI ((k : Nat) : Int)), (68, lb_v), (69, vI (lb.length : Int)), (70, vI ((j : Nat) : Int)), (117, undef), (84, Value.bool false), (93, undef)] ⟨hF3820 0 (by kernel_rfl), hF3820 1 (by kernel_rfl), hF3820 3 (by kernel_rfl), hF3820 11 (by kernel_rfl), hF3820 13 (by kernel_rfl), hF3820 15 (by kernel_rfl), hF3820 16 (by kernel_rfl), hF3820 64 (by kernel_rfl), hF3820 65 (by kernel_rfl), hF3820 68 (by kernel_rfl), hF3820 69 (by kernel_rfl), hF3820 70 (by kernel_rfl), hF3820 117 (by kernel_rfl), hT3819 10 84 (by kernel_rfl) (by decide), hT3819 19 93 (by kernel_rfl) (by decide), trivial⟩
             clear hT3819 hF3820
             refine wl_u rfl (wl_k rfl (wl_s (o_pickF (Value.bool false) rfl rfl (wl_nil (thenQ_n (?_))))))
             refine cw_cond false rfl rfl (fun h => by cases h) (fun _ => ?_)
             refine cw_skip (blockQ_n (thenQ_n (?_)))
             refine cw_region (by kernel_rfl) (wl_s (o_add .i64 ((j : Nat) : Int) (1 : Int) (((j + 1 : Nat) : Int)) rfl rfl (w64 (by omega) (by omega)) (wl_s (o_move (vI ((j + 1 : Nat) : Int)) rfl (wl_nil (thenQ_n (?_)))))))
             exact ⟨_, (by omega), (j + 1), (b3781 :: Bl1), (by omega), rfl, ⟨_, upds_self _ ⟨rfl, rfl, rfl, rfl, rfl, rfl, (congrArg Value.bool (by first | rfl | (first | exact (stale_y (by assumption) (by assumption) (.inl (by assumption))).symm | exact (stale_y (by assumption) (by assumption) (.inr (by assumption))).symm | exact (stale_n (.inl (by assumption))).symm | exact (stale_n (.inr (.inl (by assumption)))).symm | exact (stale_n (.inr (.inr ⟨(by assumption), (by assumption)⟩))).symm))), rfl, rfl, rfl, rfl, (by first | rfl | exact congrArg (Value.int _) (by first | omega | (simp))), rfl, trivial⟩⟩, s3821, h_la, h_lb, hl3757, hl3765⟩
            ·have hp3825 : (la.contains (lb[j]!)) = false := by first | simpa using hb3805 | (have e := hb3805; simp at e; omega)
             cases hb3826 : (((lb[j]!).device) == ((((stateM la copies first).1)[k]!).device))
             ·have hp3827 : (lb[j]!).device ≠ (((stateM la copies first).1)[k]!).device := by first | simpa using hb3826 | (have e := hb3826; simp at e; omega)
              refine cw_draw' 25 _ _ [isV (Value.pointer (some ⟨b3781, 3, none⟩)), isV (vI ((lb[j]!).copy)), isV (vI ((k : Nat) : Int)), isV (Value.bool true), isV (Value.bool true), fun (vT : Value) (wT : World) => RdL Enc.devop wT ((b3781 :: Bl1) ++ O) vT (la), isV (Value.agg #[vI ((lb[j]!).device), vI ((lb[j]!).no), vI ((lb[j]!).kind), vI ((lb[j]!).copy), vI ((lb[j]!).to), vI ((lb[j]!).token)]), isV (Value.bool (la.contains (lb[j]!))), isV (Value.bool true), isV (Value.bool true), isV (Value.bool true), isV (Value.pointer (some ⟨b3781, 0, none⟩)), isV (vI ((lb[j]!).device)), fun (vT : Value) (wT : World) => RdL Enc.holding wT ((b3781 :: Bl1) ++ O) vT ((stateM la copies first).1), isV (vI ((k : Nat) : Int)), fun (vT : Value) (wT : World) => ∃ aT, vT = .pointer (some aT) ∧ PT Enc.holding wT ((b3781 :: Bl1) ++ O) (.pointer (some aT)) (((stateM la copies first).1)[k]!), fun (vT : Value) (wT : World) => ∃ aT, vT = .pointer (some aT) ∧ PT Enc.int wT ((b3781 :: Bl1) ++ O) (.pointer (some aT)) ((((stateM la copies first).1)[k]!).device), isV (vI ((((stateM la copies first).1)[k]!).device)), isV (Value.bool false), isV (Value.bool false), fun (vT : Value) (wT : World) => RdL Enc.devop wT ((b3781 :: Bl1) ++ O) vT (la), isV (vI ((k : Nat) : Int)), isV (vI first), isV (Value.pointer (some ⟨b3781, 0, none⟩)), isV (vI ((lb[j]!).device))] (by kernel_rfl) (by kernel_rfl) (by kernel_rfl) (by kernel_rfl) rfl rfl ⟨kI, kI, kI, kI, kI, fun _ _ _ h k => h.mv (Mv.of_keep k), kI, kI, kI, kI, kI, kI, kI, fun _ _ _ h k => h.mv (Mv.of_keep k), kI, fun _ _ _ ⟨a, e, h⟩ k => ⟨a, e, h.mv (Mv.of_keep k)⟩, fun _ _ _ ⟨a, e, h⟩ k => ⟨a, e, h.mv (Mv.of_keep k)⟩, kI, kI, kI, fun _ _ _ h k => h.mv (Mv.of_keep k), kI, kI, kI, kI, trivial⟩ ⟨?_, ?_, ?_, ?_, ?_, ?_, ?_, ?_, ?_, ?_, ?_, ?_, ?_, ?_, ?_, ?_, ?_, ?_, ?_, ?_, ?_, ?_, ?_, ?_, ?_, trivial⟩ ?_
              ·intro F1 w1 k1 hf hd
               obtain ⟨F2, rfl⟩ := lit_of (F := F1) [(18, Value.pointer (some ⟨b3781, 0, none⟩))] ⟨hf 18 (by kernel_rfl), trivial⟩
               exact sp_plain rfl ((o_fieldL 3 f_40_3 rfl (⟨(Keep.refl _ _), rfl⟩)))
              ·intro F1 w1 k1 hf hd
               have k0 := (Keep.drew [] w3788).trans k1
               have bx3792 := bx3792.keep k0 (by simp)
               obtain ⟨F2, rfl⟩ := lit_of (F := F1) [(74, Value.pointer (some ⟨b3781, 3, none⟩))] ⟨hd 0 74 (by kernel_rfl), trivial⟩
               exact sp_plain rfl ((o_loadBx Try.underlying3 rfl (vI ((lb[j]!).copy)) rfl bx3792 rfl (⟨(Keep.refl _ _), rfl⟩)))
              ·intro F1 w1 k1 hf hd
               obtain ⟨F2, rfl⟩ := lit_of (F := F1) [(15, vI ((k : Nat) : Int))] ⟨hf 15 (by kernel_rfl), trivial⟩
               exact sp_plain rfl ((o_move (vI ((k : Nat) : Int)) rfl (⟨(Keep.refl _ _), rfl⟩)))
              ·intro F1 w1 k1 hf hd
               obtain ⟨F2, rfl⟩ := lit_of (F := F1) [(75, vI ((lb[j]!).copy)), (76, vI ((k : Nat) : Int))] ⟨hd 1 75 (by kernel_rfl), hd 2 76 (by kernel_rfl), trivial⟩
               refine sp_plain rfl ((o_eql .i64 ((lb[j]!).copy) ((k : Nat) : Int) rfl rfl (?_)))
               exact ⟨(Keep.refl _ _), congrArg Value.bool (hb3793)⟩
              ·intro F1 w1 k1 hf hd
               obtain ⟨F2, rfl⟩ := lit_of (F := F1) [(77, Value.bool true)] ⟨hd 3 77 (by kernel_rfl), trivial⟩
               exact sp_plain rfl ((o_move (Value.bool true) rfl (⟨(Keep.refl _ _), rfl⟩)))
              ·intro F1 w1 k1 hf hd
               have k0 := (Keep.drew [] w3788).trans k1
               have m1 : Mv (b3781 :: Bl1) w3788 (b3781 :: Bl1) w1 := Mv.of_keep k0
               have h_la := h_la.mv m1
               obtain ⟨F2, rfl⟩ := lit_of (F := F1) [(0, la_v), (78, Value.bool true)] ⟨hf 0 (by kernel_rfl), hd 4 78 (by kernel_rfl), trivial⟩
               exact sp_take rfl rfl ((o_move (la_v) rfl (⟨(Keep.refl _ _), h_la⟩)))
              ·intro F1 w1 k1 hf hd
               have k0 := (Keep.drew [] w3788).trans k1
               have bx3792 := bx3792.keep k0 (by simp)
               obtain ⟨F2, rfl⟩ := lit_of (F := F1) [(18, Value.pointer (some ⟨b3781, 0, none⟩)), (78, Value.bool true)] ⟨hf 18 (by kernel_rfl), hd 4 78 (by kernel_rfl), trivial⟩
               exact sp_take rfl rfl ((o_loadBxA (vs := [vI ((lb[j]!).device), vI ((lb[j]!).no), vI ((lb[j]!).kind), vI ((lb[j]!).copy), vI ((lb[j]!).to), vI ((lb[j]!).token)]) Try.underlying40 rfl s_40 rfl bx3792 rfl (⟨(Keep.refl _ _), rfl⟩)))
              ·intro F1 w1 k1 hf hd
               have k0 := (Keep.drew [] w3788).trans k1
               have s1 := s3789.call k0
               obtain ⟨v3828, e3830, hl3829⟩ : ∃ v, F1 79 = v ∧ RdL Enc.devop w1 ((b3781 :: Bl1) ++ O) v (la) := ⟨_, rfl, hd 5 79 (by kernel_rfl)⟩
               have := hl3829.len_le
               obtain ⟨F2, rfl⟩ := lit_of (F := F1) [(78, Value.bool true), (79, v3828), (80, Value.agg #[vI ((lb[j]!).device), vI ((lb[j]!).no), vI ((lb[j]!).kind), vI ((lb[j]!).copy), vI ((lb[j]!).to), vI ((lb[j]!).token)])] ⟨hd 4 78 (by kernel_rfl), e3830, hd 6 80 (by kernel_rfl), trivial⟩
               refine sp_take rfl rfl ((o_callK (vs := [v3828, Value.agg #[vI ((lb[j]!).device), vI ((lb[j]!).no), vI ((lb[j]!).kind), vI ((lb[j]!).copy), vI ((lb[j]!).to), vI ((lb[j]!).token)]]) enter_37 (c_refHas (O := (b3781 :: Bl1) ++ O) v3828 la [vI ((lb[j]!).device), vI ((lb[j]!).no), vI ((lb[j]!).kind), vI ((lb[j]!).copy), vI ((lb[j]!).to), vI ((lb[j]!).token)] (lb[j]!) w1 hl3829 rfl s1.lt) rfl s1 fun v3831 w3832 s3833 m3834 k3835 r3836 => (?_)))
               obtain rfl := r3836
               exact ⟨k3835, rfl⟩
              ·intro F1 w1 k1 hf hd
               obtain ⟨F2, rfl⟩ := lit_of (F := F1) [(78, Value.bool true), (81, Value.bool (la.contains (lb[j]!)))] ⟨hd 4 78 (by kernel_rfl), hd 7 81 (by kernel_rfl), trivial⟩
               refine sp_take rfl rfl ((o_not (la.contains (lb[j]!)) rfl (?_)))
               exact ⟨(Keep.refl _ _), congrArg Value.bool (hb3805)⟩
              ·intro F1 w1 k1 hf hd
               obtain ⟨F2, rfl⟩ := lit_of (F := F1) [(78, Value.bool true), (82, Value.bool true)] ⟨hd 4 78 (by kernel_rfl), hd 8 82 (by kernel_rfl), trivial⟩
               exact sp_plain rfl ((o_pickT (Value.bool true) rfl rfl (⟨(Keep.refl _ _), rfl⟩)))
              ·intro F1 w1 k1 hf hd
               obtain ⟨F2, rfl⟩ := lit_of (F := F1) [(83, Value.bool true)] ⟨hd 9 83 (by kernel_rfl), trivial⟩
               exact sp_plain rfl ((o_move (Value.bool true) rfl (⟨(Keep.refl _ _), rfl⟩)))
              ·intro F1 w1 k1 hf hd
               obtain ⟨F2, rfl⟩ := lit_of (F := F1) [(18, Value.pointer (some ⟨b3781, 0, none⟩)), (84, Value.bool true)] ⟨hf 18 (by kernel_rfl), hd 10 84 (by kernel_rfl), trivial⟩
               exact sp_take rfl rfl ((o_fieldL 0 f_40_0 rfl (⟨(Keep.refl _ _), rfl⟩)))
              ·intro F1 w1 k1 hf hd
               have k0 := (Keep.drew [] w3788).trans k1
               have bx3792 := bx3792.keep k0 (by simp)
               obtain ⟨F2, rfl⟩ := lit_of (F := F1) [(84, Value.bool true), (85, Value.pointer (some ⟨b3781, 0, none⟩))] ⟨hd 10 84 (by kernel_rfl), hd 11 85 (by kernel_rfl), trivial⟩
               exact sp_take rfl rfl ((o_loadBx Try.underlying3 rfl (vI ((lb[j]!).device)) rfl bx3792 rfl (⟨(Keep.refl _ _), rfl⟩)))
              ·intro F1 w1 k1 hf hd
               have k0 := (Keep.drew [] w3788).trans k1
               have m1 : Mv (b3781 :: Bl1) w3788 (b3781 :: Bl1) w1 := Mv.of_keep k0
               have hl3757 := hl3757.mv m1
               obtain ⟨F2, rfl⟩ := lit_of (F := F1) [(11, x3756), (84, Value.bool true)] ⟨hf 11 (by kernel_rfl), hd 10 84 (by kernel_rfl), trivial⟩
               exact sp_take rfl rfl ((o_move (x3756) rfl (⟨(Keep.refl _ _), hl3757⟩)))
              ·intro F1 w1 k1 hf hd
               obtain ⟨F2, rfl⟩ := lit_of (F := F1) [(15, vI ((k : Nat) : Int)), (84, Value.bool true)] ⟨hf 15 (by kernel_rfl), hd 10 84 (by kernel_rfl), trivial⟩
               exact sp_take rfl rfl ((o_move (vI ((k : Nat) : Int)) rfl (⟨(Keep.refl _ _), rfl⟩)))
              ·intro F1 w1 k1 hf hd
               obtain ⟨v3837, e3839, hl3838⟩ : ∃ v, F1 87 = v ∧ RdL Enc.holding w1 ((b3781 :: Bl1) ++ O) v ((stateM la copies first).1) := ⟨_, rfl, hd 13 87 (by kernel_rfl)⟩
               have := hl3838.len_le
               obtain ⟨F2, rfl⟩ := lit_of (F := F1) [(84, Value.bool true), (87, v3837), (88, vI ((k : Nat) : Int))] ⟨hd 10 84 (by kernel_rfl), e3839, hd 14 88 (by kernel_rfl), trivial⟩
               exact sp_take rfl rfl ((o_idx Try.underlying43 s_47 .i64 ((k : Nat) : Int) k rfl rfl rfl hl3838 (by omega) fun a3840 hp3841 => (⟨(Keep.refl _ _), ⟨a3840, rfl, hp3841⟩⟩)))
              ·intro F1 w1 k1 hf hd
               obtain ⟨a3842, e3844, hp3843⟩ : ∃ aX_, F1 89 = .pointer (some aX_) ∧ PT Enc.holding w1 ((b3781 :: Bl1) ++ O) (.pointer (some aX_)) (((stateM la copies first).1)[k]!) := hd 15 89 (by kernel_rfl)
               obtain ⟨F2, rfl⟩ := lit_of (F := F1) [(84, Value.bool true), (89, Value.pointer (some a3842))] ⟨hd 10 84 (by kernel_rfl), e3844, trivial⟩
               exact sp_take rfl rfl ((o_fieldR 1 f_47_1 ((((stateM la copies first).1)[k]!).device) rfl hp3843 (fun _ _ _ h => Enc_holding_f1 h) fun a3845 hp3846 => (⟨(Keep.refl _ _), ⟨a3845, rfl, hp3846⟩⟩)))
              ·intro F1 w1 k1 hf hd
               obtain ⟨a3847, e3849, hp3848⟩ : ∃ aX_, F1 90 = .pointer (some aX_) ∧ PT Enc.int w1 ((b3781 :: Bl1) ++ O) (.pointer (some aX_)) ((((stateM la copies first).1)[k]!).device) := hd 16 90 (by kernel_rfl)
               obtain ⟨F2, rfl⟩ := lit_of (F := F1) [(84, Value.bool true), (90, Value.pointer (some a3847))] ⟨hd 10 84 (by kernel_rfl), e3849, trivial⟩
               exact sp_take rfl rfl ((o_loadI Try.underlying3 rfl rfl hp3848 (⟨(Keep.refl _ _), rfl⟩)))
              ·intro F1 w1 k1 hf hd
               obtain ⟨F2, rfl⟩ := lit_of (F := F1) [(84, Value.bool true), (86, vI ((lb[j]!).device)), (91, vI ((((stateM la copies first).1)[k]!).device))] ⟨hd 10 84 (by kernel_rfl), hd 12 86 (by kernel_rfl), hd 17 91 (by kernel_rfl), trivial⟩
               refine sp_take rfl rfl ((o_eql .i64 ((lb[j]!).device) ((((stateM la copies first).1)[k]!).device) rfl rfl (?_)))
               exact ⟨(Keep.refl _ _), congrArg Value.bool (hb3826)⟩
              ·intro F1 w1 k1 hf hd
               obtain ⟨F2, rfl⟩ := lit_of (F := F1) [(84, Value.bool true), (92, Value.bool false)] ⟨hd 10 84 (by kernel_rfl), hd 18 92 (by kernel_rfl), trivial⟩
               exact sp_take rfl rfl ((o_move (Value.bool false) rfl (⟨(Keep.refl _ _), rfl⟩)))
              ·intro F1 w1 k1 hf hd
               have k0 := (Keep.drew [] w3788).trans k1
               have m1 : Mv (b3781 :: Bl1) w3788 (b3781 :: Bl1) w1 := Mv.of_keep k0
               have h_la := h_la.mv m1
               obtain ⟨F2, rfl⟩ := lit_of (F := F1) [(0, la_v), (93, Value.bool false)] ⟨hf 0 (by kernel_rfl), hd 19 93 (by kernel_rfl), trivial⟩
               exact sp_take rfl rfl ((o_move (la_v) rfl (⟨(Keep.refl _ _), h_la⟩)))
              ·intro F1 w1 k1 hf hd
               obtain ⟨F2, rfl⟩ := lit_of (F := F1) [(15, vI ((k : Nat) : Int)), (93, Value.bool false)] ⟨hf 15 (by kernel_rfl), hd 19 93 (by kernel_rfl), trivial⟩
               exact sp_take rfl rfl ((o_move (vI ((k : Nat) : Int)) rfl (⟨(Keep.refl _ _), rfl⟩)))
              ·intro F1 w1 k1 hf hd
               obtain ⟨F2, rfl⟩ := lit_of (F := F1) [(3, vI first), (93, Value.bool false)] ⟨hf 3 (by kernel_rfl), hd 19 93 (by kernel_rfl), trivial⟩
               exact sp_take rfl rfl ((o_move (vI first) rfl (⟨(Keep.refl _ _), rfl⟩)))
              ·intro F1 w1 k1 hf hd
               obtain ⟨F2, rfl⟩ := lit_of (F := F1) [(18, Value.pointer (some ⟨b3781, 0, none⟩)), (93, Value.bool false)] ⟨hf 18 (by kernel_rfl), hd 19 93 (by kernel_rfl), trivial⟩
               exact sp_take rfl rfl ((o_fieldL 0 f_40_0 rfl (⟨(Keep.refl _ _), rfl⟩)))
              ·intro F1 w1 k1 hf hd
               have k0 := (Keep.drew [] w3788).trans k1
               have bx3792 := bx3792.keep k0 (by simp)
               obtain ⟨F2, rfl⟩ := lit_of (F := F1) [(93, Value.bool false), (97, Value.pointer (some ⟨b3781, 0, none⟩))] ⟨hd 19 93 (by kernel_rfl), hd 23 97 (by kernel_rfl), trivial⟩
               exact sp_take rfl rfl ((o_loadBx Try.underlying3 rfl (vI ((lb[j]!).device)) rfl bx3792 rfl (⟨(Keep.refl _ _), rfl⟩)))
              intro F3851 w3852 k3850 hT3853 hF3854
              have s3855 := s3789.call k3850
              have m3856 : Mv (b3781 :: Bl1) w3788 (b3781 :: Bl1) w3852 := Mv.of_keep k3850
              have h_la := h_la.mv m3856
              have h_lb := h_lb.mv m3856
              have hl3757 := hl3757.mv m3856
              have hl3765 := hl3765.mv m3856
              obtain ⟨v3859, e3861, hl3860⟩ : ∃ v, F3851 94 = v ∧ RdL Enc.devop w3852 ((b3781 :: Bl1) ++ O) v (la) := ⟨_, rfl, hT3853 20 94 (by kernel_rfl) (by decide)⟩
              have := hl3860.len_le
              obtain ⟨F2, rfl⟩ := lit_of (F := F3851) [(0, la_v), (1, lb_v), (3, vI first), (11, x3756), (13, x3764), (15, vI ((k : Nat) : Int)), (16, Value.bool (staleM la lb ((k : Nat) : Int) first ((stateM la copies first).1)[k]!.device j)), (64, vI (((stateM la copies first).1).length : Int)), (65, vI ((k : Nat) : Int)), (68, lb_v), (69, vI (lb.length : Int)), (70, vI ((j : Nat) : Int)), (117, undef), (84, Value.bool true), (93, Value.bool false), (94, v3859), (95, vI ((k : Nat) : Int)), (96, vI first), (98, vI ((lb[j]!).device))] ⟨hF3854 0 (by kernel_rfl), hF3854 1 (by kernel_rfl), hF3854 3 (by kernel_rfl), hF3854 11 (by kernel_rfl), hF3854 13 (by kernel_rfl), hF3854 15 (by kernel_rfl), hF3854 16 (by kernel_rfl), hF3854 64 (by kernel_rfl), hF3854 65 (by kernel_rfl), hF3854 68 (by kernel_rfl), hF3854 69 (by kernel_rfl), hF3854 70 (by kernel_rfl), hF3854 117 (by kernel_rfl), hT3853 10 84 (by kernel_rfl) (by decide), hT3853 19 93 (by kernel_rfl) (by decide), e3861, hT3853 21 95 (by kernel_rfl) (by decide), hT3853 22 96 (by kernel_rfl) (by decide), hT3853 24 98 (by kernel_rfl) (by decide), trivial⟩
              clear hT3853 hF3854
              refine wl_t rfl (o_callK (vs := [v3859, vI ((k : Nat) : Int), vI first, vI ((lb[j]!).device)]) enter_38 (c_had (O := (b3781 :: Bl1) ++ O) v3859 la ((k : Nat) : Int) first ((lb[j]!).device) w3852 hl3860 s3855.lt) rfl s3855 fun v3862 w3863 s3864 m3865 k3866 r3867 => (?_))
              obtain rfl := r3867
              have h_la := h_la.mv m3865
              have h_lb := h_lb.mv m3865
              have hl3757 := hl3757.mv m3865
              have hl3765 := hl3765.mv m3865
              refine wl_t rfl (o_pickF (Value.bool (hadM la ((k : Nat) : Int) first ((lb[j]!).device))) rfl rfl (wl_s (o_pickT (Value.bool (hadM la ((k : Nat) : Int) first ((lb[j]!).device))) rfl rfl (wl_nil (thenQ_n (?_))))))
              refine cw_cond (hadM la ((k : Nat) : Int) first ((lb[j]!).device)) rfl rfl (fun hc3868 => ?_) (fun hc3868 => ?_)
              ·have hp3869 : (hadM la ((k : Nat) : Int) first ((lb[j]!).device)) = true := by first | simpa using hc3868 | (have e := hc3868; simp at e; omega)
               refine cw_region (by kernel_rfl) (wl_s (o_assign (Value.bool true) rfl (wl_nil (blockQ_n (thenQ_n (?_))))))
               refine cw_region (by kernel_rfl) (wl_s (o_add .i64 ((j : Nat) : Int) (1 : Int) (((j + 1 : Nat) : Int)) rfl rfl (w64 (by omega) (by omega)) (wl_s (o_move (vI ((j + 1 : Nat) : Int)) rfl (wl_nil (thenQ_n (?_)))))))
               exact ⟨_, (by omega), (j + 1), (b3781 :: Bl1), (by omega), rfl, ⟨_, upds_self _ ⟨rfl, rfl, rfl, rfl, rfl, rfl, (congrArg Value.bool (by first | rfl | (first | exact (stale_y (by assumption) (by assumption) (.inl (by assumption))).symm | exact (stale_y (by assumption) (by assumption) (.inr (by assumption))).symm | exact (stale_n (.inl (by assumption))).symm | exact (stale_n (.inr (.inl (by assumption)))).symm | exact (stale_n (.inr (.inr ⟨(by assumption), (by assumption)⟩))).symm))), rfl, rfl, rfl, rfl, (by first | rfl | exact congrArg (Value.int _) (by first | omega | (simp))), rfl, trivial⟩⟩, s3864, h_la, h_lb, hl3757, hl3765⟩
              ·have hp3870 : (hadM la ((k : Nat) : Int) first ((lb[j]!).device)) = false := by first | simpa using hc3868 | (have e := hc3868; simp at e; omega)
               refine cw_skip (blockQ_n (thenQ_n (?_)))
               refine cw_region (by kernel_rfl) (wl_s (o_add .i64 ((j : Nat) : Int) (1 : Int) (((j + 1 : Nat) : Int)) rfl rfl (w64 (by omega) (by omega)) (wl_s (o_move (vI ((j + 1 : Nat) : Int)) rfl (wl_nil (thenQ_n (?_)))))))
               exact ⟨_, (by omega), (j + 1), (b3781 :: Bl1), (by omega), rfl, ⟨_, upds_self _ ⟨rfl, rfl, rfl, rfl, rfl, rfl, (congrArg Value.bool (by first | rfl | (first | exact (stale_y (by assumption) (by assumption) (.inl (by assumption))).symm | exact (stale_y (by assumption) (by assumption) (.inr (by assumption))).symm | exact (stale_n (.inl (by assumption))).symm | exact (stale_n (.inr (.inl (by assumption)))).symm | exact (stale_n (.inr (.inr ⟨(by assumption), (by assumption)⟩))).symm))), rfl, rfl, rfl, rfl, (by first | rfl | exact congrArg (Value.int _) (by first | omega | (simp))), rfl, trivial⟩⟩, s3864, h_la, h_lb, hl3757, hl3765⟩
             ·have hp3871 : (lb[j]!).device = (((stateM la copies first).1)[k]!).device := by first | simpa using hb3826 | (have e := hb3826; simp at e; omega)
              refine cw_draw' 25 _ _ [isV (Value.pointer (some ⟨b3781, 3, none⟩)), isV (vI ((lb[j]!).copy)), isV (vI ((k : Nat) : Int)), isV (Value.bool true), isV (Value.bool true), fun (vT : Value) (wT : World) => RdL Enc.devop wT ((b3781 :: Bl1) ++ O) vT (la), isV (Value.agg #[vI ((lb[j]!).device), vI ((lb[j]!).no), vI ((lb[j]!).kind), vI ((lb[j]!).copy), vI ((lb[j]!).to), vI ((lb[j]!).token)]), isV (Value.bool (la.contains (lb[j]!))), isV (Value.bool true), isV (Value.bool true), isV (Value.bool true), isV (Value.pointer (some ⟨b3781, 0, none⟩)), isV (vI ((lb[j]!).device)), fun (vT : Value) (wT : World) => RdL Enc.holding wT ((b3781 :: Bl1) ++ O) vT ((stateM la copies first).1), isV (vI ((k : Nat) : Int)), fun (vT : Value) (wT : World) => ∃ aT, vT = .pointer (some aT) ∧ PT Enc.holding wT ((b3781 :: Bl1) ++ O) (.pointer (some aT)) (((stateM la copies first).1)[k]!), fun (vT : Value) (wT : World) => ∃ aT, vT = .pointer (some aT) ∧ PT Enc.int wT ((b3781 :: Bl1) ++ O) (.pointer (some aT)) ((((stateM la copies first).1)[k]!).device), isV (vI ((((stateM la copies first).1)[k]!).device)), isV (Value.bool true), isV (Value.bool true), isV undef, isV undef, isV undef, isV undef, isV undef] (by kernel_rfl) (by kernel_rfl) (by kernel_rfl) (by kernel_rfl) rfl rfl ⟨kI, kI, kI, kI, kI, fun _ _ _ h k => h.mv (Mv.of_keep k), kI, kI, kI, kI, kI, kI, kI, fun _ _ _ h k => h.mv (Mv.of_keep k), kI, fun _ _ _ ⟨a, e, h⟩ k => ⟨a, e, h.mv (Mv.of_keep k)⟩, fun _ _ _ ⟨a, e, h⟩ k => ⟨a, e, h.mv (Mv.of_keep k)⟩, kI, kI, kI, kI, kI, kI, kI, kI, trivial⟩ ⟨?_, ?_, ?_, ?_, ?_, ?_, ?_, ?_, ?_, ?_, ?_, ?_, ?_, ?_, ?_, ?_, ?_, ?_, ?_, ?_, ?_, ?_, ?_, ?_, ?_, trivial⟩ ?_
              ·intro F1 w1 k1 hf hd
               obtain ⟨F2, rfl⟩ := lit_of (F := F1) [(18, Value.pointer (some ⟨b3781, 0, none⟩))] ⟨hf 18 (by kernel_rfl), trivial⟩
               exact sp_plain rfl ((o_fieldL 3 f_40_3 rfl (⟨(Keep.refl _ _), rfl⟩)))
              ·intro F1 w1 k1 hf hd
               have k0 := (Keep.drew [] w3788).trans k1
               have bx3792 := bx3792.keep k0 (by simp)
               obtain ⟨F2, rfl⟩ := lit_of (F := F1) [(74, Value.pointer (some ⟨b3781, 3, none⟩))] ⟨hd 0 74 (by kernel_rfl), trivial⟩
               exact sp_plain rfl ((o_loadBx Try.underlying3 rfl (vI ((lb[j]!).copy)) rfl bx3792 rfl (⟨(Keep.refl _ _), rfl⟩)))
              ·intro F1 w1 k1 hf hd
               obtain ⟨F2, rfl⟩ := lit_of (F := F1) [(15, vI ((k : Nat) : Int))] ⟨hf 15 (by kernel_rfl), trivial⟩
               exact sp_plain rfl ((o_move (vI ((k : Nat) : Int)) rfl (⟨(Keep.refl _ _), rfl⟩)))
              ·intro F1 w1 k1 hf hd
               obtain ⟨F2, rfl⟩ := lit_of (F := F1) [(75, vI ((lb[j]!).copy)), (76, vI ((k : Nat) : Int))] ⟨hd 1 75 (by kernel_rfl), hd 2 76 (by kernel_rfl), trivial⟩
               refine sp_plain rfl ((o_eql .i64 ((lb[j]!).copy) ((k : Nat) : Int) rfl rfl (?_)))
               exact ⟨(Keep.refl _ _), congrArg Value.bool (hb3793)⟩
              ·intro F1 w1 k1 hf hd
               obtain ⟨F2, rfl⟩ := lit_of (F := F1) [(77, Value.bool true)] ⟨hd 3 77 (by kernel_rfl), trivial⟩
               exact sp_plain rfl ((o_move (Value.bool true) rfl (⟨(Keep.refl _ _), rfl⟩)))
              ·intro F1 w1 k1 hf hd
               have k0 := (Keep.drew [] w3788).trans k1
               have m1 : Mv (b3781 :: Bl1) w3788 (b3781 :: Bl1) w1 := Mv.of_keep k0
               have h_la := h_la.mv m1
               obtain ⟨F2, rfl⟩ := lit_of (F := F1) [(0, la_v), (78, Value.bool true)] ⟨hf 0 (by kernel_rfl), hd 4 78 (by kernel_rfl), trivial⟩
               exact sp_take rfl rfl ((o_move (la_v) rfl (⟨(Keep.refl _ _), h_la⟩)))
              ·intro F1 w1 k1 hf hd
               have k0 := (Keep.drew [] w3788).trans k1
               have bx3792 := bx3792.keep k0 (by simp)
               obtain ⟨F2, rfl⟩ := lit_of (F := F1) [(18, Value.pointer (some ⟨b3781, 0, none⟩)), (78, Value.bool true)] ⟨hf 18 (by kernel_rfl), hd 4 78 (by kernel_rfl), trivial⟩
               exact sp_take rfl rfl ((o_loadBxA (vs := [vI ((lb[j]!).device), vI ((lb[j]!).no), vI ((lb[j]!).kind), vI ((lb[j]!).copy), vI ((lb[j]!).to), vI ((lb[j]!).token)]) Try.underlying40 rfl s_40 rfl bx3792 rfl (⟨(Keep.refl _ _), rfl⟩)))
              ·intro F1 w1 k1 hf hd
               have k0 := (Keep.drew [] w3788).trans k1
               have s1 := s3789.call k0
               obtain ⟨v3872, e3874, hl3873⟩ : ∃ v, F1 79 = v ∧ RdL Enc.devop w1 ((b3781 :: Bl1) ++ O) v (la) := ⟨_, rfl, hd 5 79 (by kernel_rfl)⟩
               have := hl3873.len_le
               obtain ⟨F2, rfl⟩ := lit_of (F := F1) [(78, Value.bool true), (79, v3872), (80, Value.agg #[vI ((lb[j]!).device), vI ((lb[j]!).no), vI ((lb[j]!).kind), vI ((lb[j]!).copy), vI ((lb[j]!).to), vI ((lb[j]!).token)])] ⟨hd 4 78 (by kernel_rfl), e3874, hd 6 80 (by kernel_rfl), trivial⟩
               refine sp_take rfl rfl ((o_callK (vs := [v3872, Value.agg #[vI ((lb[j]!).device), vI ((lb[j]!).no), vI ((lb[j]!).kind), vI ((lb[j]!).copy), vI ((lb[j]!).to), vI ((lb[j]!).token)]]) enter_37 (c_refHas (O := (b3781 :: Bl1) ++ O) v3872 la [vI ((lb[j]!).device), vI ((lb[j]!).no), vI ((lb[j]!).kind), vI ((lb[j]!).copy), vI ((lb[j]!).to), vI ((lb[j]!).token)] (lb[j]!) w1 hl3873 rfl s1.lt) rfl s1 fun v3875 w3876 s3877 m3878 k3879 r3880 => (?_)))
               obtain rfl := r3880
               exact ⟨k3879, rfl⟩
              ·intro F1 w1 k1 hf hd
               obtain ⟨F2, rfl⟩ := lit_of (F := F1) [(78, Value.bool true), (81, Value.bool (la.contains (lb[j]!)))] ⟨hd 4 78 (by kernel_rfl), hd 7 81 (by kernel_rfl), trivial⟩
               refine sp_take rfl rfl ((o_not (la.contains (lb[j]!)) rfl (?_)))
               exact ⟨(Keep.refl _ _), congrArg Value.bool (hb3805)⟩
              ·intro F1 w1 k1 hf hd
               obtain ⟨F2, rfl⟩ := lit_of (F := F1) [(78, Value.bool true), (82, Value.bool true)] ⟨hd 4 78 (by kernel_rfl), hd 8 82 (by kernel_rfl), trivial⟩
               exact sp_plain rfl ((o_pickT (Value.bool true) rfl rfl (⟨(Keep.refl _ _), rfl⟩)))
              ·intro F1 w1 k1 hf hd
               obtain ⟨F2, rfl⟩ := lit_of (F := F1) [(83, Value.bool true)] ⟨hd 9 83 (by kernel_rfl), trivial⟩
               exact sp_plain rfl ((o_move (Value.bool true) rfl (⟨(Keep.refl _ _), rfl⟩)))
              ·intro F1 w1 k1 hf hd
               obtain ⟨F2, rfl⟩ := lit_of (F := F1) [(18, Value.pointer (some ⟨b3781, 0, none⟩)), (84, Value.bool true)] ⟨hf 18 (by kernel_rfl), hd 10 84 (by kernel_rfl), trivial⟩
               exact sp_take rfl rfl ((o_fieldL 0 f_40_0 rfl (⟨(Keep.refl _ _), rfl⟩)))
              ·intro F1 w1 k1 hf hd
               have k0 := (Keep.drew [] w3788).trans k1
               have bx3792 := bx3792.keep k0 (by simp)
               obtain ⟨F2, rfl⟩ := lit_of (F := F1) [(84, Value.bool true), (85, Value.pointer (some ⟨b3781, 0, none⟩))] ⟨hd 10 84 (by kernel_rfl), hd 11 85 (by kernel_rfl), trivial⟩
               exact sp_take rfl rfl ((o_loadBx Try.underlying3 rfl (vI ((lb[j]!).device)) rfl bx3792 rfl (⟨(Keep.refl _ _), rfl⟩)))
              ·intro F1 w1 k1 hf hd
               have k0 := (Keep.drew [] w3788).trans k1
               have m1 : Mv (b3781 :: Bl1) w3788 (b3781 :: Bl1) w1 := Mv.of_keep k0
               have hl3757 := hl3757.mv m1
               obtain ⟨F2, rfl⟩ := lit_of (F := F1) [(11, x3756), (84, Value.bool true)] ⟨hf 11 (by kernel_rfl), hd 10 84 (by kernel_rfl), trivial⟩
               exact sp_take rfl rfl ((o_move (x3756) rfl (⟨(Keep.refl _ _), hl3757⟩)))
              ·intro F1 w1 k1 hf hd
               obtain ⟨F2, rfl⟩ := lit_of (F := F1) [(15, vI ((k : Nat) : Int)), (84, Value.bool true)] ⟨hf 15 (by kernel_rfl), hd 10 84 (by kernel_rfl), trivial⟩
               exact sp_take rfl rfl ((o_move (vI ((k : Nat) : Int)) rfl (⟨(Keep.refl _ _), rfl⟩)))
              ·intro F1 w1 k1 hf hd
               obtain ⟨v3881, e3883, hl3882⟩ : ∃ v, F1 87 = v ∧ RdL Enc.holding w1 ((b3781 :: Bl1) ++ O) v ((stateM la copies first).1) := ⟨_, rfl, hd 13 87 (by kernel_rfl)⟩
               have := hl3882.len_le
               obtain ⟨F2, rfl⟩ := lit_of (F := F1) [(84, Value.bool true), (87, v3881), (88, vI ((k : Nat) : Int))] ⟨hd 10 84 (by kernel_rfl), e3883, hd 14 88 (by kernel_rfl), trivial⟩
               exact sp_take rfl rfl ((o_idx Try.underlying43 s_47 .i64 ((k : Nat) : Int) k rfl rfl rfl hl3882 (by omega) fun a3884 hp3885 => (⟨(Keep.refl _ _), ⟨a3884, rfl, hp3885⟩⟩)))
              ·intro F1 w1 k1 hf hd
               obtain ⟨a3886, e3888, hp3887⟩ : ∃ aX_, F1 89 = .pointer (some aX_) ∧ PT Enc.holding w1 ((b3781 :: Bl1) ++ O) (.pointer (some aX_)) (((stateM la copies first).1)[k]!) := hd 15 89 (by kernel_rfl)
               obtain ⟨F2, rfl⟩ := lit_of (F := F1) [(84, Value.bool true), (89, Value.pointer (some a3886))] ⟨hd 10 84 (by kernel_rfl), e3888, trivial⟩
               exact sp_take rfl rfl ((o_fieldR 1 f_47_1 ((((stateM la copies first).1)[k]!).device) rfl hp3887 (fun _ _ _ h => Enc_holding_f1 h) fun a3889 hp3890 => (⟨(Keep.refl _ _), ⟨a3889, rfl, hp3890⟩⟩)))
              ·intro F1 w1 k1 hf hd
               obtain ⟨a3891, e3893, hp3892⟩ : ∃ aX_, F1 90 = .pointer (some aX_) ∧ PT Enc.int w1 ((b3781 :: Bl1) ++ O) (.pointer (some aX_)) ((((stateM la copies first).1)[k]!).device) := hd 16 90 (by kernel_rfl)
               obtain ⟨F2, rfl⟩ := lit_of (F := F1) [(84, Value.bool true), (90, Value.pointer (some a3891))] ⟨hd 10 84 (by kernel_rfl), e3893, trivial⟩
               exact sp_take rfl rfl ((o_loadI Try.underlying3 rfl rfl hp3892 (⟨(Keep.refl _ _), rfl⟩)))
              ·intro F1 w1 k1 hf hd
               obtain ⟨F2, rfl⟩ := lit_of (F := F1) [(84, Value.bool true), (86, vI ((lb[j]!).device)), (91, vI ((((stateM la copies first).1)[k]!).device))] ⟨hd 10 84 (by kernel_rfl), hd 12 86 (by kernel_rfl), hd 17 91 (by kernel_rfl), trivial⟩
               refine sp_take rfl rfl ((o_eql .i64 ((lb[j]!).device) ((((stateM la copies first).1)[k]!).device) rfl rfl (?_)))
               exact ⟨(Keep.refl _ _), congrArg Value.bool (hb3826)⟩
              ·intro F1 w1 k1 hf hd
               obtain ⟨F2, rfl⟩ := lit_of (F := F1) [(84, Value.bool true), (92, Value.bool true)] ⟨hd 10 84 (by kernel_rfl), hd 18 92 (by kernel_rfl), trivial⟩
               exact sp_take rfl rfl ((o_move (Value.bool true) rfl (⟨(Keep.refl _ _), rfl⟩)))
              ·intro F1 w1 k1 hf hd
               exact sp_skipD rfl rfl (hd 19 93 (by kernel_rfl)) rfl rfl
              ·intro F1 w1 k1 hf hd
               exact sp_skipD rfl rfl (hd 19 93 (by kernel_rfl)) rfl rfl
              ·intro F1 w1 k1 hf hd
               exact sp_skipD rfl rfl (hd 19 93 (by kernel_rfl)) rfl rfl
              ·intro F1 w1 k1 hf hd
               exact sp_skipD rfl rfl (hd 19 93 (by kernel_rfl)) rfl rfl
              ·intro F1 w1 k1 hf hd
               exact sp_skipD rfl rfl (hd 19 93 (by kernel_rfl)) rfl rfl
              intro F3895 w3896 k3894 hT3897 hF3898
              have s3899 := s3789.call k3894
              have m3900 : Mv (b3781 :: Bl1) w3788 (b3781 :: Bl1) w3896 := Mv.of_keep k3894
              have h_la := h_la.mv m3900
              have h_lb := h_lb.mv m3900
              have hl3757 := hl3757.mv m3900
              have hl3765 := hl3765.mv m3900
              obtain ⟨F2, rfl⟩ := lit_of (F := F3895) [(0, la_v), (1, lb_v), (3, vI first), (11, x3756), (13, x3764), (15, vI ((k : Nat) : Int)), (16, Value.bool (staleM la lb ((k : Nat) : Int) first ((stateM la copies first).1)[k]!.device j)), (64, vI (((stateM la copies first).1).length : Int)), (65, vI ((k : Nat) : Int)), (68, lb_v), (69, vI (lb.length : Int)), (70, vI ((j : Nat) : Int)), (117, undef), (84, Value.bool true), (93, Value.bool true)] ⟨hF3898 0 (by kernel_rfl), hF3898 1 (by kernel_rfl), hF3898 3 (by kernel_rfl), hF3898 11 (by kernel_rfl), hF3898 13 (by kernel_rfl), hF3898 15 (by kernel_rfl), hF3898 16 (by kernel_rfl), hF3898 64 (by kernel_rfl), hF3898 65 (by kernel_rfl), hF3898 68 (by kernel_rfl), hF3898 69 (by kernel_rfl), hF3898 70 (by kernel_rfl), hF3898 117 (by kernel_rfl), hT3897 10 84 (by kernel_rfl) (by decide), hT3897 19 93 (by kernel_rfl) (by decide), trivial⟩
              clear hT3897 hF3898
              refine wl_k rfl (wl_t rfl (o_pickT (Value.bool true) rfl rfl (wl_s (o_pickT (Value.bool true) rfl rfl (wl_nil (thenQ_n (?_)))))))
              refine cw_cond true rfl rfl (fun _ => ?_) (fun h => by cases h)
              refine cw_region (by kernel_rfl) (wl_s (o_assign (Value.bool true) rfl (wl_nil (blockQ_n (thenQ_n (?_))))))
              refine cw_region (by kernel_rfl) (wl_s (o_add .i64 ((j : Nat) : Int) (1 : Int) (((j + 1 : Nat) : Int)) rfl rfl (w64 (by omega) (by omega)) (wl_s (o_move (vI ((j + 1 : Nat) : Int)) rfl (wl_nil (thenQ_n (?_)))))))
              exact ⟨_, (by omega), (j + 1), (b3781 :: Bl1), (by omega), rfl, ⟨_, upds_self _ ⟨rfl, rfl, rfl, rfl, rfl, rfl, (congrArg Value.bool (by first | rfl | (first | exact (stale_y (by assumption) (by assumption) (.inl (by assumption))).symm | exact (stale_y (by assumption) (by assumption) (.inr (by assumption))).symm | exact (stale_n (.inl (by assumption))).symm | exact (stale_n (.inr (.inl (by assumption)))).symm | exact (stale_n (.inr (.inr ⟨(by assumption), (by assumption)⟩))).symm))), rfl, rfl, rfl, rfl, (by first | rfl | exact congrArg (Value.int _) (by first | omega | (simp))), rfl, trivial⟩⟩, s3899, h_la, h_lb, hl3757, hl3765⟩
          ·have hp3903 : (lb.length : Int) ≤ ((j : Nat) : Int) := by first | simpa using hc3775 | (have e := hc3775; simp at e; omega)
           obtain rfl : j = lb.length := by omega
           refine cw_exit (thenQ_x (thenQ_x (blockQ_x (thenQ_n (?_)))))
           refine cw_seq (?_)
           cases hb3904 : (!(staleM la lb ((k : Nat) : Int) first ((stateM la copies first).1)[k]!.device lb.length))
           ·have hp3905 : (staleM la lb ((k : Nat) : Int) first ((stateM la copies first).1)[k]!.device lb.length) = true := by first | simpa using hb3904 | (have e := hb3904; simp at e; omega)
            refine cw_draw' 11 _ _ [isV (Value.bool (staleM la lb ((k : Nat) : Int) first ((stateM la copies first).1)[k]!.device lb.length)), isV (Value.bool false), isV (Value.bool false), isV undef, isV undef, isV undef, isV undef, isV undef, isV undef, isV undef, isV undef] (by kernel_rfl) (by kernel_rfl) (by kernel_rfl) (by kernel_rfl) rfl rfl ⟨kI, kI, kI, kI, kI, kI, kI, kI, kI, kI, kI, trivial⟩ ⟨?_, ?_, ?_, ?_, ?_, ?_, ?_, ?_, ?_, ?_, ?_, trivial⟩ ?_
            ·intro F1 w1 k1 hf hd
             obtain ⟨F2, rfl⟩ := lit_of (F := F1) [(16, Value.bool (staleM la lb ((k : Nat) : Int) first ((stateM la copies first).1)[k]!.device lb.length))] ⟨hf 16 (by kernel_rfl), trivial⟩
             exact sp_plain rfl ((o_move (Value.bool (staleM la lb ((k : Nat) : Int) first ((stateM la copies first).1)[k]!.device lb.length)) rfl (⟨(Keep.refl _ _), rfl⟩)))
            ·intro F1 w1 k1 hf hd
             obtain ⟨F2, rfl⟩ := lit_of (F := F1) [(103, Value.bool (staleM la lb ((k : Nat) : Int) first ((stateM la copies first).1)[k]!.device lb.length))] ⟨hd 0 103 (by kernel_rfl), trivial⟩
             refine sp_plain rfl ((o_not (staleM la lb ((k : Nat) : Int) first ((stateM la copies first).1)[k]!.device lb.length) rfl (?_)))
             exact ⟨(Keep.refl _ _), congrArg Value.bool (hb3904)⟩
            ·intro F1 w1 k1 hf hd
             obtain ⟨F2, rfl⟩ := lit_of (F := F1) [(104, Value.bool false)] ⟨hd 1 104 (by kernel_rfl), trivial⟩
             exact sp_plain rfl ((o_move (Value.bool false) rfl (⟨(Keep.refl _ _), rfl⟩)))
            ·intro F1 w1 k1 hf hd
             exact sp_skipD rfl rfl (hd 2 105 (by kernel_rfl)) rfl rfl
            ·intro F1 w1 k1 hf hd
             exact sp_skipD rfl rfl (hd 2 105 (by kernel_rfl)) rfl rfl
            ·intro F1 w1 k1 hf hd
             exact sp_skipD rfl rfl (hd 2 105 (by kernel_rfl)) rfl rfl
            ·intro F1 w1 k1 hf hd
             exact sp_skipD rfl rfl (hd 2 105 (by kernel_rfl)) rfl rfl
            ·intro F1 w1 k1 hf hd
             exact sp_skipD rfl rfl (hd 2 105 (by kernel_rfl)) rfl rfl
            ·intro F1 w1 k1 hf hd
             exact sp_skipD rfl rfl (hd 2 105 (by kernel_rfl)) rfl rfl
            ·intro F1 w1 k1 hf hd
             exact sp_skipD rfl rfl (hd 2 105 (by kernel_rfl)) rfl rfl
            ·intro F1 w1 k1 hf hd
             exact sp_skipD rfl rfl (hd 2 105 (by kernel_rfl)) rfl rfl
            intro F3907 w3908 k3906 hT3909 hF3910
            have s3911 := sl1.call k3906
            have m3912 : Mv Bl1 wl1 Bl1 w3908 := Mv.of_keep k3906
            have h_la := h_la.mv m3912
            have h_lb := h_lb.mv m3912
            have hl3757 := hl3757.mv m3912
            have hl3765 := hl3765.mv m3912
            obtain ⟨F2, rfl⟩ := lit_of (F := F3907) [(0, la_v), (1, lb_v), (3, vI first), (11, x3756), (13, x3764), (64, vI (((stateM la copies first).1).length : Int)), (65, vI ((k : Nat) : Int)), (117, undef), (105, Value.bool false)] ⟨hF3910 0 (by kernel_rfl), hF3910 1 (by kernel_rfl), hF3910 3 (by kernel_rfl), hF3910 11 (by kernel_rfl), hF3910 13 (by kernel_rfl), hF3910 64 (by kernel_rfl), hF3910 65 (by kernel_rfl), hF3910 117 (by kernel_rfl), hT3909 2 105 (by kernel_rfl) (by decide), trivial⟩
            clear hT3909 hF3910
            refine wl_k rfl (wl_s (o_pickF (Value.bool false) rfl rfl (wl_nil (thenQ_n (?_)))))
            refine cw_cond false rfl rfl (fun h => by cases h) (fun _ => ?_)
            refine cw_skip (blockQ_n (thenQ_n (?_)))
            refine cw_region (by kernel_rfl) (wl_s (o_add .i64 ((k : Nat) : Int) (1 : Int) (((k + 1 : Nat) : Int)) rfl rfl (w64 (by omega) (by omega)) (wl_s (o_move (vI ((k + 1 : Nat) : Int)) rfl (wl_nil (thenQ_n (?_)))))))
            exact ⟨_, (by omega), (k + 1), Bl1, (by omega), rfl, ⟨_, upds_self _ ⟨rfl, rfl, rfl, rfl, rfl, rfl, (by first | rfl | exact congrArg (Value.int _) (by first | omega | (simp))), rfl, trivial⟩⟩, s3911, h_la, h_lb, hl3757, hl3765⟩
           ·have hp3915 : (staleM la lb ((k : Nat) : Int) first ((stateM la copies first).1)[k]!.device lb.length) = false := by first | simpa using hb3904 | (have e := hb3904; simp at e; omega)
            refine cw_draw' 11 _ _ [isV (Value.bool (staleM la lb ((k : Nat) : Int) first ((stateM la copies first).1)[k]!.device lb.length)), isV (Value.bool true), isV (Value.bool true), fun (vT : Value) (wT : World) => RdL Enc.holding wT (Bl1 ++ O) vT ((stateM ((mergeM la lb).1) copies first).1), isV (vI ((k : Nat) : Int)), fun (vT : Value) (wT : World) => ∃ aT, vT = .pointer (some aT) ∧ PT Enc.holding wT (Bl1 ++ O) (.pointer (some aT)) (((stateM ((mergeM la lb).1) copies first).1)[k]!), isV (Value.agg #[vI ((((stateM ((mergeM la lb).1) copies first).1)[k]!).copy), vI ((((stateM ((mergeM la lb).1) copies first).1)[k]!).device), vI ((((stateM ((mergeM la lb).1) copies first).1)[k]!).token), Value.bool ((((stateM ((mergeM la lb).1) copies first).1)[k]!).shown)]), fun (vT : Value) (wT : World) => RdL Enc.holding wT (Bl1 ++ O) vT ((stateM la copies first).1), isV (vI ((k : Nat) : Int)), fun (vT : Value) (wT : World) => ∃ aT, vT = .pointer (some aT) ∧ PT Enc.holding wT (Bl1 ++ O) (.pointer (some aT)) (((stateM la copies first).1)[k]!), isV (Value.agg #[vI ((((stateM la copies first).1)[k]!).copy), vI ((((stateM la copies first).1)[k]!).device), vI ((((stateM la copies first).1)[k]!).token), Value.bool ((((stateM la copies first).1)[k]!).shown)])] (by kernel_rfl) (by kernel_rfl) (by kernel_rfl) (by kernel_rfl) rfl rfl ⟨kI, kI, kI, fun _ _ _ h k => h.mv (Mv.of_keep k), kI, fun _ _ _ ⟨a, e, h⟩ k => ⟨a, e, h.mv (Mv.of_keep k)⟩, kI, fun _ _ _ h k => h.mv (Mv.of_keep k), kI, fun _ _ _ ⟨a, e, h⟩ k => ⟨a, e, h.mv (Mv.of_keep k)⟩, kI, trivial⟩ ⟨?_, ?_, ?_, ?_, ?_, ?_, ?_, ?_, ?_, ?_, ?_, trivial⟩ ?_
            ·intro F1 w1 k1 hf hd
             obtain ⟨F2, rfl⟩ := lit_of (F := F1) [(16, Value.bool (staleM la lb ((k : Nat) : Int) first ((stateM la copies first).1)[k]!.device lb.length))] ⟨hf 16 (by kernel_rfl), trivial⟩
             exact sp_plain rfl ((o_move (Value.bool (staleM la lb ((k : Nat) : Int) first ((stateM la copies first).1)[k]!.device lb.length)) rfl (⟨(Keep.refl _ _), rfl⟩)))
            ·intro F1 w1 k1 hf hd
             obtain ⟨F2, rfl⟩ := lit_of (F := F1) [(103, Value.bool (staleM la lb ((k : Nat) : Int) first ((stateM la copies first).1)[k]!.device lb.length))] ⟨hd 0 103 (by kernel_rfl), trivial⟩
             refine sp_plain rfl ((o_not (staleM la lb ((k : Nat) : Int) first ((stateM la copies first).1)[k]!.device lb.length) rfl (?_)))
             exact ⟨(Keep.refl _ _), congrArg Value.bool (hb3904)⟩
            ·intro F1 w1 k1 hf hd
             obtain ⟨F2, rfl⟩ := lit_of (F := F1) [(104, Value.bool true)] ⟨hd 1 104 (by kernel_rfl), trivial⟩
             exact sp_plain rfl ((o_move (Value.bool true) rfl (⟨(Keep.refl _ _), rfl⟩)))
            ·intro F1 w1 k1 hf hd
             have k0 := (Keep.drew [] wl1).trans k1
             have m1 : Mv Bl1 wl1 Bl1 w1 := Mv.of_keep k0
             have hl3765 := hl3765.mv m1
             obtain ⟨F2, rfl⟩ := lit_of (F := F1) [(13, x3764), (105, Value.bool true)] ⟨hf 13 (by kernel_rfl), hd 2 105 (by kernel_rfl), trivial⟩
             exact sp_take rfl rfl ((o_move (x3764) rfl (⟨(Keep.refl _ _), hl3765⟩)))
            ·intro F1 w1 k1 hf hd
             obtain ⟨F2, rfl⟩ := lit_of (F := F1) [(15, vI ((k : Nat) : Int)), (105, Value.bool true)] ⟨hf 15 (by kernel_rfl), hd 2 105 (by kernel_rfl), trivial⟩
             exact sp_take rfl rfl ((o_move (vI ((k : Nat) : Int)) rfl (⟨(Keep.refl _ _), rfl⟩)))
            ·intro F1 w1 k1 hf hd
             obtain ⟨v3916, e3918, hl3917⟩ : ∃ v, F1 106 = v ∧ RdL Enc.holding w1 (Bl1 ++ O) v ((stateM ((mergeM la lb).1) copies first).1) := ⟨_, rfl, hd 3 106 (by kernel_rfl)⟩
             have := hl3917.len_le
             obtain ⟨F2, rfl⟩ := lit_of (F := F1) [(105, Value.bool true), (106, v3916), (107, vI ((k : Nat) : Int))] ⟨hd 2 105 (by kernel_rfl), e3918, hd 4 107 (by kernel_rfl), trivial⟩
             exact sp_take rfl rfl ((o_idx Try.underlying43 s_47 .i64 ((k : Nat) : Int) k rfl rfl rfl hl3917 (by omega) fun a3919 hp3920 => (⟨(Keep.refl _ _), ⟨a3919, rfl, hp3920⟩⟩)))
            ·intro F1 w1 k1 hf hd
             obtain ⟨a3921, e3923, hp3922⟩ : ∃ aX_, F1 108 = .pointer (some aX_) ∧ PT Enc.holding w1 (Bl1 ++ O) (.pointer (some aX_)) (((stateM ((mergeM la lb).1) copies first).1)[k]!) := hd 5 108 (by kernel_rfl)
             obtain ⟨F2, rfl⟩ := lit_of (F := F1) [(105, Value.bool true), (108, Value.pointer (some a3921))] ⟨hd 2 105 (by kernel_rfl), e3923, trivial⟩
             refine sp_take rfl rfl ((o_loadS Try.underlying47 rfl s_47 rfl hp3922 fun cs3924 hs3925 => (?_)))
             obtain rfl := hs3925
             exact ⟨(Keep.refl _ _), rfl⟩
            ·intro F1 w1 k1 hf hd
             have k0 := (Keep.drew [] wl1).trans k1
             have m1 : Mv Bl1 wl1 Bl1 w1 := Mv.of_keep k0
             have hl3757 := hl3757.mv m1
             obtain ⟨F2, rfl⟩ := lit_of (F := F1) [(11, x3756), (105, Value.bool true)] ⟨hf 11 (by kernel_rfl), hd 2 105 (by kernel_rfl), trivial⟩
             exact sp_take rfl rfl ((o_move (x3756) rfl (⟨(Keep.refl _ _), hl3757⟩)))
            ·intro F1 w1 k1 hf hd
             obtain ⟨F2, rfl⟩ := lit_of (F := F1) [(15, vI ((k : Nat) : Int)), (105, Value.bool true)] ⟨hf 15 (by kernel_rfl), hd 2 105 (by kernel_rfl), trivial⟩
             exact sp_take rfl rfl ((o_move (vI ((k : Nat) : Int)) rfl (⟨(Keep.refl _ _), rfl⟩)))
            ·intro F1 w1 k1 hf hd
             obtain ⟨v3926, e3928, hl3927⟩ : ∃ v, F1 110 = v ∧ RdL Enc.holding w1 (Bl1 ++ O) v ((stateM la copies first).1) := ⟨_, rfl, hd 7 110 (by kernel_rfl)⟩
             have := hl3927.len_le
             obtain ⟨F2, rfl⟩ := lit_of (F := F1) [(105, Value.bool true), (110, v3926), (111, vI ((k : Nat) : Int))] ⟨hd 2 105 (by kernel_rfl), e3928, hd 8 111 (by kernel_rfl), trivial⟩
             exact sp_take rfl rfl ((o_idx Try.underlying43 s_47 .i64 ((k : Nat) : Int) k rfl rfl rfl hl3927 (by omega) fun a3929 hp3930 => (⟨(Keep.refl _ _), ⟨a3929, rfl, hp3930⟩⟩)))
            ·intro F1 w1 k1 hf hd
             obtain ⟨a3931, e3933, hp3932⟩ : ∃ aX_, F1 112 = .pointer (some aX_) ∧ PT Enc.holding w1 (Bl1 ++ O) (.pointer (some aX_)) (((stateM la copies first).1)[k]!) := hd 9 112 (by kernel_rfl)
             obtain ⟨F2, rfl⟩ := lit_of (F := F1) [(105, Value.bool true), (112, Value.pointer (some a3931))] ⟨hd 2 105 (by kernel_rfl), e3933, trivial⟩
             refine sp_take rfl rfl ((o_loadS Try.underlying47 rfl s_47 rfl hp3932 fun cs3934 hs3935 => (?_)))
             obtain rfl := hs3935
             exact ⟨(Keep.refl _ _), rfl⟩
            intro F3937 w3938 k3936 hT3939 hF3940
            have s3941 := sl1.call k3936
            have m3942 : Mv Bl1 wl1 Bl1 w3938 := Mv.of_keep k3936
            have h_la := h_la.mv m3942
            have h_lb := h_lb.mv m3942
            have hl3757 := hl3757.mv m3942
            have hl3765 := hl3765.mv m3942
            obtain ⟨F2, rfl⟩ := lit_of (F := F3937) [(0, la_v), (1, lb_v), (3, vI first), (11, x3756), (13, x3764), (64, vI (((stateM la copies first).1).length : Int)), (65, vI ((k : Nat) : Int)), (117, undef), (105, Value.bool true), (109, Value.agg #[vI ((((stateM ((mergeM la lb).1) copies first).1)[k]!).copy), vI ((((stateM ((mergeM la lb).1) copies first).1)[k]!).device), vI ((((stateM ((mergeM la lb).1) copies first).1)[k]!).token), Value.bool ((((stateM ((mergeM la lb).1) copies first).1)[k]!).shown)]), (113, Value.agg #[vI ((((stateM la copies first).1)[k]!).copy), vI ((((stateM la copies first).1)[k]!).device), vI ((((stateM la copies first).1)[k]!).token), Value.bool ((((stateM la copies first).1)[k]!).shown)])] ⟨hF3940 0 (by kernel_rfl), hF3940 1 (by kernel_rfl), hF3940 3 (by kernel_rfl), hF3940 11 (by kernel_rfl), hF3940 13 (by kernel_rfl), hF3940 64 (by kernel_rfl), hF3940 65 (by kernel_rfl), hF3940 117 (by kernel_rfl), hT3939 2 105 (by kernel_rfl) (by decide), hT3939 6 109 (by kernel_rfl) (by decide), hT3939 10 113 (by kernel_rfl) (by decide), trivial⟩
            clear hT3939 hF3940
            refine wl_t rfl (o_neqF (ks := [true, true, true, false]) [.inl ((((stateM ((mergeM la lb).1) copies first).1)[k]!).copy), .inl ((((stateM ((mergeM la lb).1) copies first).1)[k]!).device), .inl ((((stateM ((mergeM la lb).1) copies first).1)[k]!).token), .inr ((((stateM ((mergeM la lb).1) copies first).1)[k]!).shown)] [.inl ((((stateM la copies first).1)[k]!).copy), .inl ((((stateM la copies first).1)[k]!).device), .inl ((((stateM la copies first).1)[k]!).token), .inr ((((stateM la copies first).1)[k]!).shown)] str_holding flat_holding rfl rfl rfl rfl (congrArg not (cs_holding (((stateM ((mergeM la lb).1) copies first).1)[k]!) (((stateM la copies first).1)[k]!))) (wl_s (o_pickT (Value.bool (!((((stateM ((mergeM la lb).1) copies first).1)[k]!) == (((stateM la copies first).1)[k]!)))) rfl rfl (wl_nil (thenQ_n (?_))))))
            have hb3945 : (!((((stateM ((mergeM la lb).1) copies first).1)[k]!) == (((stateM la copies first).1)[k]!))) = false := (by rw [show ((((stateM ((mergeM la lb).1) copies first).1)[k]!) == (((stateM la copies first).1)[k]!)) = true from (by rw [stale_eq hmm hst hys (by omega) (by assumption)]; exact beq_self_eq_true _)]; rfl)
            rw [hb3945]
            refine cw_cond false rfl rfl (fun h => by cases h) (fun _ => ?_)
            refine cw_skip (blockQ_n (thenQ_n (?_)))
            refine cw_region (by kernel_rfl) (wl_s (o_add .i64 ((k : Nat) : Int) (1 : Int) (((k + 1 : Nat) : Int)) rfl rfl (w64 (by omega) (by omega)) (wl_s (o_move (vI ((k + 1 : Nat) : Int)) rfl (wl_nil (thenQ_n (?_)))))))
            exact ⟨_, (by omega), (k + 1), Bl1, (by omega), rfl, ⟨_, upds_self _ ⟨rfl, rfl, rfl, rfl, rfl, rfl, (by first | rfl | exact congrArg (Value.int _) (by first | omega | (simp))), rfl, trivial⟩⟩, s3941, h_la, h_lb, hl3757, hl3765⟩
        ·have hp3946 : (((stateM la copies first).1).length : Int) ≤ ((k : Nat) : Int) := by first | simpa using hc3773 | (have e := hc3773; simp at e; omega)
         refine cw_exit (thenQ_x (thenQ_x (blockQ_x (thenQ_n (?_)))))
         refine cw_seq (?_)
         refine cw_region (by kernel_rfl) (wl_s (o_assign (Value.bool true) rfl (wl_nil (thenQ_n (?_)))))
         refine cw_ret (end_r rfl (res1 rfl rfl rfl) (?_))
         exact ⟨_, rfl, sl0.keep, rfl⟩
     ·have hp3947 : (stateM la copies first).2 ≠ (0 : Int) := by first | simpa using hb3768 | (have e := hb3768; simp at e; omega)
      refine wl_k rfl (wl_k rfl (wl_s (o_pickT (Value.bool true) rfl rfl (wl_nil (thenQ_n (?_))))))
      refine cw_cond true rfl rfl (fun _ => ?_) (fun h => by cases h)
      refine cw_seq (?_)
      refine cw_region (by kernel_rfl) (wl_s (o_assign (Value.bool true) rfl (wl_nil (thenQ_n (?_)))))
      refine cw_ret (thenQ_r (end_r rfl (res1 rfl rfl rfl) (?_)))
      exact ⟨_, rfl, s3760.keep, rfl⟩
    ·have hp3948 : (mergeM la lb).2 ≠ (0 : Int) := by first | simpa using hb3766 | (have e := hb3766; simp at e; omega)
     refine wl_k rfl (wl_k rfl (wl_s (o_pickT (Value.bool true) rfl rfl (wl_s (o_move (Value.bool true) rfl (wl_k rfl (wl_k rfl (wl_s (o_pickT (Value.bool true) rfl rfl (wl_nil (thenQ_n (?_))))))))))))
     refine cw_cond true rfl rfl (fun _ => ?_) (fun h => by cases h)
     refine cw_seq (?_)
     refine cw_region (by kernel_rfl) (wl_s (o_assign (Value.bool true) rfl (wl_nil (thenQ_n (?_)))))
     refine cw_ret (thenQ_r (end_r rfl (res1 rfl rfl rfl) (?_)))
     exact ⟨_, rfl, s3760.keep, rfl⟩
  ·have hp3949 : 40 < (lb.length : Int) := by first | simpa using hb3737 | (have e := hb3737; simp at e; omega)
   refine wl_k rfl (wl_k rfl (wl_s (o_pickT (Value.bool true) rfl rfl (wl_nil (thenQ_n (?_))))))
   refine cw_cond true rfl rfl (fun _ => ?_) (fun h => by cases h)
   refine cw_seq (?_)
   refine cw_region (by kernel_rfl) (wl_s (o_assign (Value.bool true) rfl (wl_nil (thenQ_n (?_)))))
   refine cw_ret (thenQ_r (end_r rfl (res1 rfl rfl rfl) (?_)))
   exact ⟨_, rfl, s3733.keep, rfl⟩
 ·have hp3950 : 40 < (la.length : Int) := by first | simpa using hb3729 | (have e := hb3729; simp at e; omega)
  refine wl_k rfl (wl_k rfl (wl_k rfl (wl_s (o_pickT (Value.bool true) rfl rfl (wl_s (o_move (Value.bool true) rfl (wl_k rfl (wl_k rfl (wl_s (o_pickT (Value.bool true) rfl rfl (wl_nil (thenQ_n (?_)))))))))))))
  refine cw_cond true rfl rfl (fun _ => ?_) (fun h => by cases h)
  refine cw_seq (?_)
  refine cw_region (by kernel_rfl) (wl_s (o_assign (Value.bool true) rfl (wl_nil (thenQ_n (?_)))))
  refine cw_ret (thenQ_r (end_r rfl (res1 rfl rfl rfl) (?_)))
  exact ⟨_, rfl, s3725.keep, rfl⟩

end Go.Proofs.Ytjpniibleelgiaa
