/- Walks, printed by gen.py. -/
import Derived.Test.YteajcgfcnbdmgaaWbH
set_option linter.unusedSimpArgs false
set_option linter.unusedVariables false
namespace Go.Proofs.Yteajcgfcnbdmgaa
open Go.Fw Go.RowKit

set_option maxHeartbeats 4000000 in
set_option maxRecDepth 100000 in
theorem c_refRefresh {O : List Nat} (l_v : Value) (l : List Share) (coins_v : Value) (coins : List UInt8) (w : World) (h_l : RdL Enc.share w O l_v l) (h_coins : RdL Enc.u8 w O coins_v coins) (hO : ∀ b ∈ O, b < w.heap.size) : CallsK Try.prog 40 [l_v, coins_v] w (fun v w' => ∃ (x0 : Value), v = .tuple #[x0, vI ((refRefreshM l coins).2)] ∧ RdL Enc.share w' (O) x0 ((refRefreshM l coins).1)) :=  by
 have lim_l := h_l.len_le
 have h_l : RdL Enc.share w ([] ++ O) l_v l := h_l
 have lim_coins := h_coins.len_le
 have h_coins : RdL Enc.u8 w ([] ++ O) coins_v coins := h_coins
 have s0 : St w O w [] := St.start hO
 refine callsK_of 95 Try.func40 rfl rfl (of_decide_eq_true rfl) (fun F0 => ?_)
 refine cw_seq (?_)
 refine cw_region (by kernel_rfl) (wl_s (o_assign (Value.slice none 0 0) rfl (wl_s (o_assign (vI (0 : Int)) rfl (wl_nil (thenQ_n (?_)))))))
 refine cw_seq (?_)
 refine cw_region (by kernel_rfl) (wl_s (o_move (l_v) rfl (wl_s (o_callK (vs := [l_v]) enter_33 (c_refCheck8 (O := [] ++ O) l_v l w h_l s0.lt) rfl s0 fun v3700 w3701 s3702 m3703 k3704 r3705 => (?_)))))
 obtain rfl := r3705
 have h_l := h_l.mv m3703
 have h_coins := h_coins.mv m3703
 refine wl_s (o_assign (vI (refCheckM l)) rfl (wl_nil (thenQ_n (?_))))
 refine cw_seq (?_)
 refine cw_seq (?_)
 refine cw_region (by kernel_rfl) (wl_s (o_move (vI (refCheckM l)) rfl (wl_s (o_neq .i64 (refCheckM l) (0 : Int) rfl rfl (wl_nil (thenQ_n (?_)))))))
 refine cw_cond ((refCheckM l) != (0 : Int)) rfl rfl (fun hc3706 => ?_) (fun hc3706 => ?_)
 ·have hp3707 : refCheckM l ≠ (0 : Int) := by first | simpa using hc3706 | (have e := hc3706; simp at e; omega)
  refine cw_seq (?_)
  refine cw_region (by kernel_rfl) (wl_s (o_move (vI (refCheckM l)) rfl (wl_s (o_assign (Value.slice none 0 0) rfl (wl_s (o_assign (vI (refCheckM l)) rfl (wl_nil (thenQ_n (?_)))))))))
  refine cw_ret (thenQ_r (end_r rfl (res2 rfl rfl rfl rfl) (?_)))
  have e : (refRefreshM l coins) = ([], refCheckM l) := by first | exact refRefreshM_ok (l := l) (coins := coins) (by unfold refRefreshBad; ((repeat (first | (refine (if_pos ?_).trans ?_; solve | omega | assumption | (simp only [dbs]; first | done | omega | assumption) | (simp only [*, dbs]; done)) | (refine (if_neg ?_).trans ?_; solve | omega | assumption | (simp only [dbs]; first | done | omega | assumption) | (simp only [*, dbs]; done)))); exact hz2)) rfl | exact refRefreshM_bad (l := l) (coins := coins) (by unfold refRefreshBad refZero; ((repeat (first | (refine (if_pos ?_).trans ?_; solve | omega | assumption | (simp only [dbs]; first | done | omega | assumption) | (simp only [*, dbs]; done)) | (refine (if_neg ?_).trans ?_; solve | omega | assumption | (simp only [dbs]; first | done | omega | assumption) | (simp only [*, dbs]; done)))); rfl)) (by first | assumption | decide)
  exact ⟨_, rfl, s3702.keep, by rw [e]; exact ⟨.slice none 0 0, rfl, RdL.nil _ _ _⟩⟩
 ·have hp3708 : refCheckM l = (0 : Int) := by first | simpa using hc3706 | (have e := hc3706; simp at e; omega)
  have hv := (check_iff l).1 (by rw [← refCheck_eq]; exact hp3708)
  have hpos := hv.pos
  have ht1 := hv.t1
  have htm := hv.tm
  have hm8 := hv.m8
  have hd64 := hv.d64
  refine cw_skip (thenQ_n (?_))
  refine cw_seq (?_)
  refine cw_region (by kernel_rfl) (wl_s (o_move (l_v) rfl (wl_s (o_idx Try.underlying38 s_53 .i64 (0 : Int) 0 rfl rfl rfl h_l (by omega) fun a3709 hp3710 => (wl_s (o_loadS Try.underlying53 rfl s_53 rfl hp3710 fun cs3711 hs3712 => (wl_s (o_alloc [vI (0 : Int), vI (0 : Int), vI (0 : Int), vI (0 : Int), Value.slice none 0 0] z_53 rfl s3702 fun b3713 w3714 e3719 s3715 m3716 k3717 bx3718 => (?_)))))))))
  clear e3719
  have h_l := h_l.mv m3716
  have h_coins := h_coins.mv m3716
  have hs3712 : Enc.share.rd w3714 ((b3713 :: []) ++ O) cs3711 (l[0]!) := Enc.mv Enc.share (x := l[0]!) hs3712 m3716
  obtain ⟨d3725, rfl, hd3726⟩ := hs3712
  have := hd3726.len_le
  refine wl_n (o_store (vs := [vI ((l[0]!).epoch), vI ((l[0]!).index), vI ((l[0]!).threshold), vI ((l[0]!).many), d3725]) (.agg #[vI ((l[0]!).epoch), vI ((l[0]!).index), vI ((l[0]!).threshold), vI ((l[0]!).many), d3725]) rfl rfl rfl s_53 (fun u hu => by simp only [List.mem_cons, List.not_mem_nil, or_false] at hu; rcases hu with rfl | rfl | rfl | rfl | rfl <;> first | rfl | exact hd3726.oneCell) (by first | assumption | (repeat (first | exact List.mem_cons_self | assumption | apply List.mem_cons_of_mem))) bx3718 (of_decide_eq_true rfl) s3715 fun w3720 s3721 m3722 k3723 bx3724 => (?_))
  have h_l := h_l.mv m3722
  have h_coins := h_coins.mv m3722
  have hd3726 := hd3726.mv m3722
  refine wl_nil (thenQ_n (?_))
  refine cw_seq (?_)
  refine cw_seq (?_)
  refine cw_region (by kernel_rfl) (wl_s (o_move (l_v) rfl (wl_s (o_lenR Try.underlying38 rfl h_l (wl_s (o_fieldL 3 f_53_3 rfl (wl_s (o_loadBx Try.underlying3 rfl (vI ((l[0]!).many)) rfl bx3724 rfl (wl_s (o_neq .i64 (l.length : Int) ((l[0]!).many) rfl rfl (wl_nil (thenQ_n (?_)))))))))))))
  refine cw_cond ((l.length : Int) != ((l[0]!).many)) rfl rfl (fun hc3727 => ?_) (fun hc3727 => ?_)
  ·have hp3728 : (l.length : Int) ≠ (l[0]!).many := by first | simpa using hc3727 | (have e := hc3727; simp at e; omega)
   refine cw_seq (?_)
   refine cw_region (by kernel_rfl) (wl_s (o_assign (Value.slice none 0 0) rfl (wl_s (o_assign (vI (80 : Int)) rfl (wl_nil (thenQ_n (?_)))))))
   refine cw_ret (thenQ_r (end_r rfl (res2 rfl rfl rfl rfl) (?_)))
   have e : (refRefreshM l coins) = ([], (80 : Int)) := by first | exact refRefreshM_ok (l := l) (coins := coins) (by unfold refRefreshBad; ((repeat (first | (refine (if_pos ?_).trans ?_; solve | omega | assumption | (simp only [dbs]; first | done | omega | assumption) | (simp only [*, dbs]; done)) | (refine (if_neg ?_).trans ?_; solve | omega | assumption | (simp only [dbs]; first | done | omega | assumption) | (simp only [*, dbs]; done)))); exact hz2)) rfl | exact refRefreshM_bad (l := l) (coins := coins) (by unfold refRefreshBad refZero; ((repeat (first | (refine (if_pos ?_).trans ?_; solve | omega | assumption | (simp only [dbs]; first | done | omega | assumption) | (simp only [*, dbs]; done)) | (refine (if_neg ?_).trans ?_; solve | omega | assumption | (simp only [dbs]; first | done | omega | assumption) | (simp only [*, dbs]; done)))); rfl)) (by first | assumption | decide)
   exact ⟨_, rfl, s3721.keep, by rw [e]; exact ⟨.slice none 0 0, rfl, RdL.nil _ _ _⟩⟩
  ·have hp3729 : (l.length : Int) = (l[0]!).many := by first | simpa using hc3727 | (have e := hc3727; simp at e; omega)
   refine cw_skip (thenQ_n (?_))
   refine cw_seq (?_)
   refine cw_seq (?_)
   refine cw_region (by kernel_rfl) (wl_s (o_fieldL 0 f_53_0 rfl (wl_s (o_loadBx Try.underlying3 rfl (vI ((l[0]!).epoch)) rfl bx3724 rfl (wl_s (o_eql .i64 ((l[0]!).epoch) (1048576 : Int) rfl rfl (wl_nil (thenQ_n (?_)))))))))
   refine cw_cond (((l[0]!).epoch) == (1048576 : Int)) rfl rfl (fun hc3730 => ?_) (fun hc3730 => ?_)
   ·have hp3731 : (l[0]!).epoch = (1048576 : Int) := by first | simpa using hc3730 | (have e := hc3730; simp at e; omega)
    refine cw_seq (?_)
    refine cw_region (by kernel_rfl) (wl_s (o_assign (Value.slice none 0 0) rfl (wl_s (o_assign (vI (81 : Int)) rfl (wl_nil (thenQ_n (?_)))))))
    refine cw_ret (thenQ_r (end_r rfl (res2 rfl rfl rfl rfl) (?_)))
    have e : (refRefreshM l coins) = ([], (81 : Int)) := by first | exact refRefreshM_ok (l := l) (coins := coins) (by unfold refRefreshBad; ((repeat (first | (refine (if_pos ?_).trans ?_; solve | omega | assumption | (simp only [dbs]; first | done | omega | assumption) | (simp only [*, dbs]; done)) | (refine (if_neg ?_).trans ?_; solve | omega | assumption | (simp only [dbs]; first | done | omega | assumption) | (simp only [*, dbs]; done)))); exact hz2)) rfl | exact refRefreshM_bad (l := l) (coins := coins) (by unfold refRefreshBad refZero; ((repeat (first | (refine (if_pos ?_).trans ?_; solve | omega | assumption | (simp only [dbs]; first | done | omega | assumption) | (simp only [*, dbs]; done)) | (refine (if_neg ?_).trans ?_; solve | omega | assumption | (simp only [dbs]; first | done | omega | assumption) | (simp only [*, dbs]; done)))); rfl)) (by first | assumption | decide)
    exact ⟨_, rfl, s3721.keep, by rw [e]; exact ⟨.slice none 0 0, rfl, RdL.nil _ _ _⟩⟩
   ·have hp3732 : (l[0]!).epoch ≠ (1048576 : Int) := by first | simpa using hc3730 | (have e := hc3730; simp at e; omega)
    refine cw_skip (thenQ_n (?_))
    refine cw_seq (?_)
    refine cw_draw' 14 _ _ [isV (Value.pointer (some ⟨b3713, 4, none⟩)), fun (vT : Value) (wT : World) => RdL Enc.u8 wT ((b3713 :: []) ++ O) vT ((l[0]!).data), isV (vI (((l[0]!).data).length : Int)), fun (vT : Value) (wT : World) => RdL Enc.u8 wT ((b3713 :: []) ++ O) vT (List.replicate (((l[0]!).data).length) (0 : UInt8)), isV (Value.pointer (some ⟨b3713, 2, none⟩)), isV (vI ((l[0]!).threshold)), isV (Value.pointer (some ⟨b3713, 3, none⟩)), isV (vI ((l[0]!).many)), fun (vT : Value) (wT : World) => RdL Enc.u8 wT ((b3713 :: []) ++ O) vT (coins), fun (vT : Value) (wT : World) => ∃ (xT0 : Value), vT = .tuple #[xT0, vI ((refSplitM (List.replicate (((l[0]!).data).length) (0 : UInt8)) (0 : Int) ((l[0]!).threshold) ((l[0]!).many) coins).2)] ∧ RdL Enc.share wT ((b3713 :: []) ++ O) xT0 ((refSplitM (List.replicate (((l[0]!).data).length) (0 : UInt8)) (0 : Int) ((l[0]!).threshold) ((l[0]!).many) coins).1), fun (vT : Value) (wT : World) => ∃ (xT0 : Value), vT = .tuple #[xT0, vI ((refSplitM (List.replicate (((l[0]!).data).length) (0 : UInt8)) (0 : Int) ((l[0]!).threshold) ((l[0]!).many) coins).2)] ∧ RdL Enc.share wT ((b3713 :: []) ++ O) xT0 ((refSplitM (List.replicate (((l[0]!).data).length) (0 : UInt8)) (0 : Int) ((l[0]!).threshold) ((l[0]!).many) coins).1), fun (vT : Value) (wT : World) => RdL Enc.share wT ((b3713 :: []) ++ O) vT ((refSplitM (List.replicate (((l[0]!).data).length) (0 : UInt8)) (0 : Int) ((l[0]!).threshold) ((l[0]!).many) coins).1), isV (vI ((refSplitM (List.replicate (((l[0]!).data).length) (0 : UInt8)) (0 : Int) ((l[0]!).threshold) ((l[0]!).many) coins).2)), fun (vT : Value) (wT : World) => RdL Enc.share wT ((b3713 :: []) ++ O) vT ((refSplitM (List.replicate (((l[0]!).data).length) (0 : UInt8)) (0 : Int) ((l[0]!).threshold) ((l[0]!).many) coins).1)] (by kernel_rfl) (by kernel_rfl) (by kernel_rfl) (by kernel_rfl) rfl rfl ⟨kI, fun _ _ _ h k => h.mv (Mv.of_keep k), kI, fun _ _ _ h k => h.mv (Mv.of_keep k), kI, kI, kI, kI, fun _ _ _ h k => h.mv (Mv.of_keep k), fun _ _ _ ⟨y0, e, h0⟩ k => ⟨y0, e, h0.mv (Mv.of_keep k)⟩, fun _ _ _ ⟨y0, e, h0⟩ k => ⟨y0, e, h0.mv (Mv.of_keep k)⟩, fun _ _ _ h k => h.mv (Mv.of_keep k), kI, fun _ _ _ h k => h.mv (Mv.of_keep k), trivial⟩ ⟨?_, ?_, ?_, ?_, ?_, ?_, ?_, ?_, ?_, ?_, ?_, ?_, ?_, ?_, trivial⟩ ?_
    ·intro F1 w1 k1 hf hd
     obtain ⟨F2, rfl⟩ := lit_of (F := F1) [(7, Value.pointer (some ⟨b3713, 0, none⟩))] ⟨hf 7 (by kernel_rfl), trivial⟩
     exact sp_plain rfl ((o_fieldL 4 f_53_4 rfl (⟨(Keep.refl _ _), rfl⟩)))
    ·intro F1 w1 k1 hf hd
     have k0 := (Keep.drew [] w3720).trans k1
     have m1 : Mv (b3713 :: []) w3720 (b3713 :: []) w1 := Mv.of_keep k0
     have bx3724 := bx3724.keep k0 (by simp)
     have hd3726 := hd3726.mv m1
     obtain ⟨F2, rfl⟩ := lit_of (F := F1) [(31, Value.pointer (some ⟨b3713, 4, none⟩))] ⟨hd 0 31 (by kernel_rfl), trivial⟩
     exact sp_plain rfl ((o_loadBx Try.underlying28 rfl (d3725) rfl bx3724 rfl (⟨(Keep.refl _ _), hd3726⟩)))
    ·intro F1 w1 k1 hf hd
     obtain ⟨v3733, e3735, hl3734⟩ : ∃ v, F1 32 = v ∧ RdL Enc.u8 w1 ((b3713 :: []) ++ O) v ((l[0]!).data) := ⟨_, rfl, hd 1 32 (by kernel_rfl)⟩
     have := hl3734.len_le
     obtain ⟨F2, rfl⟩ := lit_of (F := F1) [(32, v3733)] ⟨e3735, trivial⟩
     exact sp_plain rfl ((o_lenR Try.underlying28 rfl hl3734 (⟨(Keep.refl _ _), rfl⟩)))
    ·intro F1 w1 k1 hf hd
     have k0 := (Keep.drew [] w3720).trans k1
     have s1 := s3721.call k0
     obtain ⟨F2, rfl⟩ := lit_of (F := F1) [(33, vI (((l[0]!).data).length : Int))] ⟨hd 2 33 (by kernel_rfl), trivial⟩
     refine sp_plain rfl ((o_makeR (E := Enc.u8) Try.underlying28 i_5 [vB (0 : UInt8)] rfl rfl (by decide) (0 : UInt8) (fun _ _ => rfl) .i64 .i64 (((l[0]!).data).length : Int) (((l[0]!).data).length : Int) (((l[0]!).data).length) (((l[0]!).data).length) rfl rfl rfl rfl (by omega) (by omega) (by simp only [maxLen]; omega) s1 fun v3740 w3736 s3737 m3738 k3739 hl3741 => (?_)))
     exact ⟨k3739, hl3741⟩
    ·intro F1 w1 k1 hf hd
     obtain ⟨F2, rfl⟩ := lit_of (F := F1) [(7, Value.pointer (some ⟨b3713, 0, none⟩))] ⟨hf 7 (by kernel_rfl), trivial⟩
     exact sp_plain rfl ((o_fieldL 2 f_53_2 rfl (⟨(Keep.refl _ _), rfl⟩)))
    ·intro F1 w1 k1 hf hd
     have k0 := (Keep.drew [] w3720).trans k1
     have bx3724 := bx3724.keep k0 (by simp)
     obtain ⟨F2, rfl⟩ := lit_of (F := F1) [(35, Value.pointer (some ⟨b3713, 2, none⟩))] ⟨hd 4 35 (by kernel_rfl), trivial⟩
     exact sp_plain rfl ((o_loadBx Try.underlying3 rfl (vI ((l[0]!).threshold)) rfl bx3724 rfl (⟨(Keep.refl _ _), rfl⟩)))
    ·intro F1 w1 k1 hf hd
     obtain ⟨F2, rfl⟩ := lit_of (F := F1) [(7, Value.pointer (some ⟨b3713, 0, none⟩))] ⟨hf 7 (by kernel_rfl), trivial⟩
     exact sp_plain rfl ((o_fieldL 3 f_53_3 rfl (⟨(Keep.refl _ _), rfl⟩)))
    ·intro F1 w1 k1 hf hd
     have k0 := (Keep.drew [] w3720).trans k1
     have bx3724 := bx3724.keep k0 (by simp)
     obtain ⟨F2, rfl⟩ := lit_of (F := F1) [(37, Value.pointer (some ⟨b3713, 3, none⟩))] ⟨hd 6 37 (by kernel_rfl), trivial⟩
     exact sp_plain rfl ((o_loadBx Try.underlying3 rfl (vI ((l[0]!).many)) rfl bx3724 rfl (⟨(Keep.refl _ _), rfl⟩)))
    ·intro F1 w1 k1 hf hd
     have k0 := (Keep.drew [] w3720).trans k1
     have m1 : Mv (b3713 :: []) w3720 (b3713 :: []) w1 := Mv.of_keep k0
     have h_coins := h_coins.mv m1
     obtain ⟨F2, rfl⟩ := lit_of (F := F1) [(1, coins_v)] ⟨hf 1 (by kernel_rfl), trivial⟩
     exact sp_plain rfl ((o_move (coins_v) rfl (⟨(Keep.refl _ _), h_coins⟩)))
    ·intro F1 w1 k1 hf hd
     have k0 := (Keep.drew [] w3720).trans k1
     have s1 := s3721.call k0
     obtain ⟨v3742, e3744, hl3743⟩ : ∃ v, F1 34 = v ∧ RdL Enc.u8 w1 ((b3713 :: []) ++ O) v (List.replicate (((l[0]!).data).length) (0 : UInt8)) := ⟨_, rfl, hd 3 34 (by kernel_rfl)⟩
     have := hl3743.len_le
     obtain ⟨v3745, e3747, hl3746⟩ : ∃ v, F1 39 = v ∧ RdL Enc.u8 w1 ((b3713 :: []) ++ O) v (coins) := ⟨_, rfl, hd 8 39 (by kernel_rfl)⟩
     have := hl3746.len_le
     obtain ⟨F2, rfl⟩ := lit_of (F := F1) [(34, v3742), (36, vI ((l[0]!).threshold)), (38, vI ((l[0]!).many)), (39, v3745)] ⟨e3744, hd 5 36 (by kernel_rfl), hd 7 38 (by kernel_rfl), e3747, trivial⟩
     refine sp_plain rfl ((o_callK (vs := [v3742, vI (0 : Int), vI ((l[0]!).threshold), vI ((l[0]!).many), v3745]) enter_31 (c_refSplit (O := (b3713 :: []) ++ O) v3742 (List.replicate (((l[0]!).data).length) (0 : UInt8)) (0 : Int) ((l[0]!).threshold) ((l[0]!).many) v3745 coins w1 hl3743 hl3746 s1.lt) rfl s1 fun v3748 w3749 s3750 m3751 k3752 r3753 => (?_)))
     obtain ⟨x3754, rfl, hl3755⟩ := r3753
     have := hl3755.len_le
     exact ⟨k3752, ⟨x3754, rfl, hl3755⟩⟩
    ·intro F1 w1 k1 hf hd
     obtain ⟨x3756, e3758, hl3757⟩ : (fun (vT : Value) (wT : World) => ∃ (xT0 : Value), vT = .tuple #[xT0, vI ((refSplitM (List.replicate (((l[0]!).data).length) (0 : UInt8)) (0 : Int) ((l[0]!).threshold) ((l[0]!).many) coins).2)] ∧ RdL Enc.share wT ((b3713 :: []) ++ O) xT0 ((refSplitM (List.replicate (((l[0]!).data).length) (0 : UInt8)) (0 : Int) ((l[0]!).threshold) ((l[0]!).many) coins).1)) (F1 40) w1 := hd 9 40 (by kernel_rfl)
     have := hl3757.len_le
     obtain ⟨F2, rfl⟩ := lit_of (F := F1) [(40, Value.tuple #[x3756, vI ((refSplitM (List.replicate (((l[0]!).data).length) (0 : UInt8)) (0 : Int) ((l[0]!).threshold) ((l[0]!).many) coins).2)])] ⟨e3758, trivial⟩
     exact sp_plain rfl ((o_move (Value.tuple #[x3756, vI ((refSplitM (List.replicate (((l[0]!).data).length) (0 : UInt8)) (0 : Int) ((l[0]!).threshold) ((l[0]!).many) coins).2)]) rfl (⟨(Keep.refl _ _), ⟨x3756, rfl, hl3757⟩⟩)))
    ·intro F1 w1 k1 hf hd
     obtain ⟨x3759, e3761, hl3760⟩ : (fun (vT : Value) (wT : World) => ∃ (xT0 : Value), vT = .tuple #[xT0, vI ((refSplitM (List.replicate (((l[0]!).data).length) (0 : UInt8)) (0 : Int) ((l[0]!).threshold) ((l[0]!).many) coins).2)] ∧ RdL Enc.share wT ((b3713 :: []) ++ O) xT0 ((refSplitM (List.replicate (((l[0]!).data).length) (0 : UInt8)) (0 : Int) ((l[0]!).threshold) ((l[0]!).many) coins).1)) (F1 30) w1 := hd 10 30 (by kernel_rfl)
     have := hl3760.len_le
     obtain ⟨F2, rfl⟩ := lit_of (F := F1) [(30, Value.tuple #[x3759, vI ((refSplitM (List.replicate (((l[0]!).data).length) (0 : UInt8)) (0 : Int) ((l[0]!).threshold) ((l[0]!).many) coins).2)])] ⟨e3761, trivial⟩
     exact sp_plain rfl ((o_extract (x3759) rfl rfl (⟨(Keep.refl _ _), hl3760⟩)))
    ·intro F1 w1 k1 hf hd
     obtain ⟨x3762, e3764, hl3763⟩ : (fun (vT : Value) (wT : World) => ∃ (xT0 : Value), vT = .tuple #[xT0, vI ((refSplitM (List.replicate (((l[0]!).data).length) (0 : UInt8)) (0 : Int) ((l[0]!).threshold) ((l[0]!).many) coins).2)] ∧ RdL Enc.share wT ((b3713 :: []) ++ O) xT0 ((refSplitM (List.replicate (((l[0]!).data).length) (0 : UInt8)) (0 : Int) ((l[0]!).threshold) ((l[0]!).many) coins).1)) (F1 30) w1 := hd 10 30 (by kernel_rfl)
     have := hl3763.len_le
     obtain ⟨F2, rfl⟩ := lit_of (F := F1) [(30, Value.tuple #[x3762, vI ((refSplitM (List.replicate (((l[0]!).data).length) (0 : UInt8)) (0 : Int) ((l[0]!).threshold) ((l[0]!).many) coins).2)])] ⟨e3764, trivial⟩
     exact sp_plain rfl ((o_extract (vI ((refSplitM (List.replicate (((l[0]!).data).length) (0 : UInt8)) (0 : Int) ((l[0]!).threshold) ((l[0]!).many) coins).2)) rfl rfl (⟨(Keep.refl _ _), rfl⟩)))
    ·intro F1 w1 k1 hf hd
     obtain ⟨v3765, e3767, hl3766⟩ : ∃ v, F1 41 = v ∧ RdL Enc.share w1 ((b3713 :: []) ++ O) v ((refSplitM (List.replicate (((l[0]!).data).length) (0 : UInt8)) (0 : Int) ((l[0]!).threshold) ((l[0]!).many) coins).1) := ⟨_, rfl, hd 11 41 (by kernel_rfl)⟩
     have := hl3766.len_le
     obtain ⟨F2, rfl⟩ := lit_of (F := F1) [(41, v3765)] ⟨e3767, trivial⟩
     exact sp_plain rfl ((o_assign (v3765) rfl (⟨(Keep.refl _ _), hl3766⟩)))
    intro F3769 w3770 k3768 hT3771 hF3772
    have s3773 := s3721.call k3768
    have m3774 : Mv (b3713 :: []) w3720 (b3713 :: []) w3770 := Mv.of_keep k3768
    have h_l := h_l.mv m3774
    have hd3726 := hd3726.mv m3774
    have bx3724 := bx3724.keep k3768 (by simp)
    obtain ⟨v3776, e3778, hl3777⟩ : ∃ v, F3769 8 = v ∧ RdL Enc.share w3770 ((b3713 :: []) ++ O) v ((refSplitM (List.replicate (((l[0]!).data).length) (0 : UInt8)) (0 : Int) ((l[0]!).threshold) ((l[0]!).many) coins).1) := ⟨_, rfl, hT3771 13 8 (by kernel_rfl) (by decide)⟩
    have := hl3777.len_le
    obtain ⟨F2, rfl⟩ := lit_of (F := F3769) [(0, l_v), (7, Value.pointer (some ⟨b3713, 0, none⟩)), (95, undef), (8, v3776), (42, vI ((refSplitM (List.replicate (((l[0]!).data).length) (0 : UInt8)) (0 : Int) ((l[0]!).threshold) ((l[0]!).many) coins).2))] ⟨hF3772 0 (by kernel_rfl), hF3772 7 (by kernel_rfl), hF3772 95 (by kernel_rfl), e3778, hT3771 12 42 (by kernel_rfl) (by decide), trivial⟩
    clear hT3771 hF3772
    refine wl_s (o_assign (vI ((refSplitM (List.replicate (((l[0]!).data).length) (0 : UInt8)) (0 : Int) ((l[0]!).threshold) ((l[0]!).many) coins).2)) rfl (wl_nil (thenQ_n (?_))))
    refine cw_seq (?_)
    refine cw_seq (?_)
    refine cw_region (by kernel_rfl) (wl_s (o_move (vI ((refSplitM (List.replicate (((l[0]!).data).length) (0 : UInt8)) (0 : Int) ((l[0]!).threshold) ((l[0]!).many) coins).2)) rfl (wl_s (o_neq .i64 ((refSplitM (List.replicate (((l[0]!).data).length) (0 : UInt8)) (0 : Int) ((l[0]!).threshold) ((l[0]!).many) coins).2) (0 : Int) rfl rfl (wl_nil (thenQ_n (?_)))))))
    refine cw_cond (((refSplitM (List.replicate (((l[0]!).data).length) (0 : UInt8)) (0 : Int) ((l[0]!).threshold) ((l[0]!).many) coins).2) != (0 : Int)) rfl rfl (fun hc3779 => ?_) (fun hc3779 => ?_)
    ·have hp3780 : (refSplitM (List.replicate (((l[0]!).data).length) (0 : UInt8)) (0 : Int) ((l[0]!).threshold) ((l[0]!).many) coins).2 ≠ (0 : Int) := by first | simpa using hc3779 | (have e := hc3779; simp at e; omega)
     refine cw_seq (?_)
     refine cw_region (by kernel_rfl) (wl_s (o_move (vI ((refSplitM (List.replicate (((l[0]!).data).length) (0 : UInt8)) (0 : Int) ((l[0]!).threshold) ((l[0]!).many) coins).2)) rfl (wl_s (o_assign (Value.slice none 0 0) rfl (wl_s (o_assign (vI ((refSplitM (List.replicate (((l[0]!).data).length) (0 : UInt8)) (0 : Int) ((l[0]!).threshold) ((l[0]!).many) coins).2)) rfl (wl_nil (thenQ_n (?_)))))))))
     refine cw_ret (thenQ_r (end_r rfl (res2 rfl rfl rfl rfl) (?_)))
     have e : (refRefreshM l coins) = ([], (refSplitM (List.replicate (((l[0]!).data).length) (0 : UInt8)) (0 : Int) ((l[0]!).threshold) ((l[0]!).many) coins).2) := by first | exact refRefreshM_ok (l := l) (coins := coins) (by unfold refRefreshBad; ((repeat (first | (refine (if_pos ?_).trans ?_; solve | omega | assumption | (simp only [dbs]; first | done | omega | assumption) | (simp only [*, dbs]; done)) | (refine (if_neg ?_).trans ?_; solve | omega | assumption | (simp only [dbs]; first | done | omega | assumption) | (simp only [*, dbs]; done)))); exact hz2)) rfl | exact refRefreshM_bad (l := l) (coins := coins) (by unfold refRefreshBad refZero; ((repeat (first | (refine (if_pos ?_).trans ?_; solve | omega | assumption | (simp only [dbs]; first | done | omega | assumption) | (simp only [*, dbs]; done)) | (refine (if_neg ?_).trans ?_; solve | omega | assumption | (simp only [dbs]; first | done | omega | assumption) | (simp only [*, dbs]; done)))); rfl)) (by first | assumption | decide)
     exact ⟨_, rfl, s3773.keep, by rw [e]; exact ⟨.slice none 0 0, rfl, RdL.nil _ _ _⟩⟩
    ·have hp3781 : (refSplitM (List.replicate (((l[0]!).data).length) (0 : UInt8)) (0 : Int) ((l[0]!).threshold) ((l[0]!).many) coins).2 = (0 : Int) := by first | simpa using hc3779 | (have e := hc3779; simp at e; omega)
     have hz2 : (refZero l[0]! coins).2 = 0 := hp3781
     have hzl : (refSplitM (List.replicate (l[0]!).data.length (0 : UInt8)) (0 : Int) (l[0]!).threshold (l[0]!).many coins).1.length = l[0]!.many.toNat := refZero_len hz2
     have hzd : ∀ k, k < l[0]!.many.toNat → (refSplitM (List.replicate (l[0]!).data.length (0 : UInt8)) (0 : Int) (l[0]!).threshold (l[0]!).many coins).1[k]!.data.length = l[0]!.data.length := fun k h => refZero_data hz2 h
     refine cw_skip (thenQ_n (?_))
     refine cw_seq (?_)
     refine cw_region (by kernel_rfl) (wl_s (o_assign (.slice none 0 0) rfl (wl_nil (thenQ_n (?_)))))
     refine cw_seq (?_)
     refine cw_seq (?_)
     refine cw_region (by kernel_rfl) (wl_s (o_assign (vI (0 : Int)) rfl (wl_nil (thenQ_n (?_)))))
     refine cw_block (?_)
     refine cw_loop (fun mI FI wI => ∃ (i : Nat) (vo0_10 : Value) (B : List Nat), i ≤ l.length ∧ mI = l.length - i ∧ (∃ F1, FI = upds F1 [(0, l_v), (7, Value.pointer (some ⟨b3713, 0, none⟩)), (8, v3776), (10, vo0_10), (11, vI ((i : Nat) : Int)), (95, undef)]) ∧ St w O wI B ∧ Own Enc.share 53 w.heap.size (B ++ O) wI vo0_10 ((refRefreshL l coins i)) ∧ (∀ b, vo0_10.ownBlock = some b → b ∈ B) ∧ RdL Enc.share wI (B ++ O) (l_v) (l) ∧ RdL Enc.share wI (B ++ O) (v3776) ((refSplitM (List.replicate (((l[0]!).data).length) (0 : UInt8)) (0 : Int) ((l[0]!).threshold) ((l[0]!).many) coins).1) ∧ RdL Enc.u8 wI (B ++ O) (d3725) ((l[0]!).data) ∧ Box wI b3713 53 [vI ((l[0]!).epoch), vI ((l[0]!).index), vI ((l[0]!).threshold), vI ((l[0]!).many), d3725] ∧ b3713 ∈ B ∧ (∀ b, vo0_10.ownBlock = some b → b ≠ b3713)) (l.length - (0)) ?_ ?_
     ·exact ⟨(0), (.slice none 0 0), (b3713 :: []), (by first | omega | (simp; done) | (simp; omega) | simp_all), rfl, ⟨_, upds_self _ ⟨rfl, rfl, rfl, rfl, (by first | rfl | exact congrArg (Value.int _) (by first | omega | (simp))), rfl, trivial⟩⟩, s3773, (by rw [show (refRefreshL l coins (0)) = [] from rfl]; exact (Own.nil Enc.share 53 _ _ _)), (by intro b hb; simp [Value.ownBlock] at hb), h_l, hl3777, hd3726, bx3724, (by first | assumption | (repeat (first | exact List.mem_cons_self | assumption | apply List.mem_cons_of_mem)) | (apply_assumption; assumption)), (fun b hb => by first | (simp [Value.ownBlock] at hb; done) | (intro e; simp_all; done))⟩
     ·intro ml0 F wl0 hI
      clear h_l hl3777 hd3726 bx3724
      obtain ⟨i, vo0_10, Bl0, hr0_0, hm0, ⟨Fl0, rfl⟩, sl0, ho0_10, hB0_10, h_l, hl3777, hd3726, bx3724, hin_b3713, nb0_10_b3713⟩ := hI
      refine cw_seq (?_)
      refine cw_seq (?_)
      refine cw_region (by kernel_rfl) (wl_s (o_move (vI ((i : Nat) : Int)) rfl (wl_s (o_move (l_v) rfl (wl_s (o_lenR Try.underlying38 rfl h_l (wl_s (o_lss .i64 ((i : Nat) : Int) (l.length : Int) rfl rfl (wl_nil (thenQ_n (?_)))))))))))
      refine cw_cond (decide (((i : Nat) : Int) < (l.length : Int))) rfl rfl (fun hc3782 => ?_) (fun hc3782 => ?_)
      ·have hp3783 : ((i : Nat) : Int) < (l.length : Int) := by first | simpa using hc3782 | (have e := hc3782; simp at e; omega)
       have hepi := hv.ep i (by omega)
       have hep0 := hv.ep0
       have hep1 := hv.ep1
       have hdai := hv.da i (by omega)
       have hzdi := hzd i (by omega)
       refine cw_skip (thenQ_n (?_))
       refine cw_seq (?_)
       refine cw_block (?_)
       refine cw_seq (?_)
       refine cw_region (by kernel_rfl) (wl_s (o_move (l_v) rfl (wl_s (o_move (vI ((i : Nat) : Int)) rfl (wl_s (o_idx Try.underlying38 s_53 .i64 ((i : Nat) : Int) i rfl rfl rfl h_l (by omega) fun a3784 hp3785 => (wl_s (o_loadS Try.underlying53 rfl s_53 rfl hp3785 fun cs3786 hs3787 => (wl_s (o_alloc [vI (0 : Int), vI (0 : Int), vI (0 : Int), vI (0 : Int), Value.slice none 0 0] z_53 rfl sl0 fun b3788 w3789 e3794 s3790 m3791 k3792 bx3793 => (?_)))))))))))
       have ne3795 : b3713 ≠ b3788 := by have := bx3724.lt; omega
       have ne3796 : ∀ b, vo0_10.ownBlock = some b → b ≠ b3788 := fun b hb => by have := (ho0_10.lt b hb).2; omega
       have hB0_10 : ∀ b, vo0_10.ownBlock = some b → b ∈ (b3788 :: Bl0) := fun b hb => List.mem_cons_of_mem _ (hB0_10 b hb)
       clear e3794
       have h_l := h_l.mv m3791
       have hl3777 := hl3777.mv m3791
       have ho0_10 := ho0_10.mv m3791 k3792 (by simp)
       have hs3787 : Enc.share.rd w3789 ((b3788 :: Bl0) ++ O) cs3786 (l[i]!) := Enc.mv Enc.share (x := l[i]!) hs3787 m3791
       have hd3726 := hd3726.mv m3791
       have bx3724 := bx3724.keep k3792 (by simp)
       obtain ⟨d3802, rfl, hd3803⟩ := hs3787
       have := hd3803.len_le
       refine wl_n (o_store (vs := [vI ((l[i]!).epoch), vI ((l[i]!).index), vI ((l[i]!).threshold), vI ((l[i]!).many), d3802]) (.agg #[vI ((l[i]!).epoch), vI ((l[i]!).index), vI ((l[i]!).threshold), vI ((l[i]!).many), d3802]) rfl rfl rfl s_53 (fun u hu => by simp only [List.mem_cons, List.not_mem_nil, or_false] at hu; rcases hu with rfl | rfl | rfl | rfl | rfl <;> first | rfl | exact hd3803.oneCell) (by first | assumption | (repeat (first | exact List.mem_cons_self | assumption | apply List.mem_cons_of_mem))) bx3793 (of_decide_eq_true rfl) s3790 fun w3797 s3798 m3799 k3800 bx3801 => (?_))
       have h_l := h_l.mv m3799
       have hl3777 := hl3777.mv m3799
       have ho0_10 := ho0_10.mv m3799 k3800 (fun b hb => by simp only [List.mem_singleton]; exact ne3796 b hb)
       have hd3726 := hd3726.mv m3799
       have bx3724 := bx3724.keep k3800 (by simp only [List.mem_singleton]; first | omega | exact ne3795)
       refine wl_nil (thenQ_n (?_))
       refine cw_seq (?_)
       refine cw_region (by kernel_rfl) (wl_s (o_fieldL 0 f_53_0 rfl (wl_s (o_loadBx Try.underlying3 rfl (vI ((l[i]!).epoch)) rfl bx3801 rfl (wl_s (o_add .i64 ((l[i]!).epoch) (1 : Int) (((l[i]!).epoch) + (1 : Int)) rfl rfl (w64 (by omega) (by omega)) (wl_s (o_fieldL 0 f_53_0 rfl (wl_n (o_store1 (vI (((l[i]!).epoch) + (1 : Int))) rfl rfl rfl s_3 (by first | assumption | (repeat (first | exact List.mem_cons_self | assumption | apply List.mem_cons_of_mem))) bx3801 (of_decide_eq_true rfl) s3798 fun w3804 s3805 m3806 k3807 bx3808 => (?_)))))))))))
       have h_l := h_l.mv m3806
       have hl3777 := hl3777.mv m3806
       have ho0_10 := ho0_10.mv m3806 k3807 (fun b hb => by simp only [List.mem_singleton]; exact ne3796 b hb)
       have hd3726 := hd3726.mv m3806
       have bx3724 := bx3724.keep k3807 (by simp only [List.mem_singleton]; first | omega | exact ne3795)
       refine wl_nil (thenQ_n (?_))
       refine cw_seq (?_)
       refine cw_region (by kernel_rfl) (wl_s (o_fieldL 4 f_53_4 rfl (wl_n (o_store1 (Value.slice none 0 0) rfl rfl rfl s_28 (by first | assumption | (repeat (first | exact List.mem_cons_self | assumption | apply List.mem_cons_of_mem))) bx3808 (of_decide_eq_true rfl) s3805 fun w3809 s3810 m3811 k3812 bx3813 => (?_)))))
       have h_l := h_l.mv m3811
       have hl3777 := hl3777.mv m3811
       have ho0_10 := ho0_10.mv m3811 k3812 (fun b hb => by simp only [List.mem_singleton]; exact ne3796 b hb)
       have hd3726 := hd3726.mv m3811
       have bx3724 := bx3724.keep k3812 (by simp only [List.mem_singleton]; first | omega | exact ne3795)
       refine wl_nil (thenQ_n (?_))
       refine cw_seq (?_)
       refine cw_seq (?_)
       refine cw_region (by kernel_rfl) (wl_s (o_assign (vI (0 : Int)) rfl (wl_nil (thenQ_n (?_)))))
       refine cw_block (?_)
       refine cw_loop (fun mI FI wI => ∃ (k : Nat) (vo1_b3788_4 : Value) (B : List Nat), k ≤ l[0]!.data.length ∧ mI = l[0]!.data.length - k ∧ (∃ F1, FI = upds F1 [(0, l_v), (7, Value.pointer (some ⟨b3713, 0, none⟩)), (8, v3776), (10, vo0_10), (11, vI ((i : Nat) : Int)), (12, Value.pointer (some ⟨b3788, 0, none⟩)), (13, vI ((k : Nat) : Int)), (95, undef)]) ∧ St w O wI B ∧ Own Enc.u8 5 w.heap.size (B ++ O) wI vo1_b3788_4 ((refrData l (refZero l[0]! coins).1 k i)) ∧ (∀ b, vo1_b3788_4.ownBlock = some b → b ∈ B) ∧ RdL Enc.share wI (B ++ O) (l_v) (l) ∧ RdL Enc.share wI (B ++ O) (v3776) ((refSplitM (List.replicate (((l[0]!).data).length) (0 : UInt8)) (0 : Int) ((l[0]!).threshold) ((l[0]!).many) coins).1) ∧ Own Enc.share 53 w.heap.size (B ++ O) wI vo0_10 ((refRefreshL l coins i)) ∧ (∀ b, vo0_10.ownBlock = some b → b ∈ B) ∧ RdL Enc.u8 wI (B ++ O) (d3725) ((l[0]!).data) ∧ Box wI b3713 53 [vI ((l[0]!).epoch), vI ((l[0]!).index), vI ((l[0]!).threshold), vI ((l[0]!).many), d3725] ∧ b3713 ∈ B ∧ Box wI b3788 53 [vI (((l[i]!).epoch) + (1 : Int)), vI ((l[i]!).index), vI ((l[i]!).threshold), vI ((l[i]!).many), vo1_b3788_4] ∧ b3788 ∈ B ∧ (∀ b, vo1_b3788_4.ownBlock = some b → b ≠ b3713) ∧ (∀ b, vo1_b3788_4.ownBlock = some b → b ≠ b3788) ∧ (∀ b, vo1_b3788_4.ownBlock = some b → vo0_10.ownBlock ≠ some b) ∧ (∀ b, vo0_10.ownBlock = some b → vo1_b3788_4.ownBlock ≠ some b)) (l[0]!.data.length - (0)) ?_ ?_
       ·exact ⟨(0), (.slice none 0 0), (b3788 :: Bl0), (by first | omega | (simp; done) | (simp; omega) | simp_all), rfl, ⟨_, upds_self _ ⟨rfl, rfl, rfl, rfl, rfl, rfl, (by first | rfl | exact congrArg (Value.int _) (by first | omega | (simp))), rfl, trivial⟩⟩, s3810, (by rw [show (refrData l (refZero l[0]! coins).1 (0) i) = [] from rfl]; exact (Own.nil Enc.u8 5 _ _ _)), (by intro b hb; simp [Value.ownBlock] at hb), h_l, hl3777, ho0_10, hB0_10, hd3726, bx3724, (by first | assumption | (repeat (first | exact List.mem_cons_self | assumption | apply List.mem_cons_of_mem)) | (apply_assumption; assumption)), bx3813, (by first | assumption | (repeat (first | exact List.mem_cons_self | assumption | apply List.mem_cons_of_mem)) | (apply_assumption; assumption)), (fun b hb => by first | (simp [Value.ownBlock] at hb; done) | (intro e; simp_all; done)), (fun b hb => by first | (simp [Value.ownBlock] at hb; done) | (intro e; simp_all; done)), (fun b hb => by first | (simp [Value.ownBlock] at hb; done) | (simp [Value.ownBlock]; done) | (intro e; simp_all; done)), (fun b hb => by first | (simp [Value.ownBlock] at hb; done) | (simp [Value.ownBlock]; done) | (intro e; simp_all; done))⟩
       ·intro ml1 F wl1 hI
        clear h_l hl3777 ho0_10 hB0_10 hd3726 bx3724
        obtain ⟨k, vo1_b3788_4, Bl1, hr1_0, hm1, ⟨Fl1, rfl⟩, sl1, ho1_b3788_4, hB1_b3788_4, h_l, hl3777, ho0_10, hB0_10, hd3726, bx3724, hin_b3713, hbs_b3788, hin_b3788, nb1_b3788_4_b3713, nb1_b3788_4_b3788, no1_b3788_4_vo0_10, np1_b3788_4_vo0_10⟩ := hI
        refine cw_seq (?_)
        refine cw_seq (?_)
        refine cw_region (by kernel_rfl) (wl_s (o_move (vI ((k : Nat) : Int)) rfl (wl_s (o_fieldL 4 f_53_4 rfl (wl_s (o_loadBx Try.underlying28 rfl (d3725) rfl bx3724 rfl (wl_s (o_lenR Try.underlying28 rfl hd3726 (wl_s (o_lss .i64 ((k : Nat) : Int) (((l[0]!).data).length : Int) rfl rfl (wl_nil (thenQ_n (?_)))))))))))))
        refine cw_cond (decide (((k : Nat) : Int) < (((l[0]!).data).length : Int))) rfl rfl (fun hc3814 => ?_) (fun hc3814 => ?_)
        ·have hp3815 : ((k : Nat) : Int) < (((l[0]!).data).length : Int) := by first | simpa using hc3814 | (have e := hc3814; simp at e; omega)
         refine cw_skip (thenQ_n (?_))
         refine cw_seq (?_)
         refine cw_block (?_)
         refine cw_draw' 20 _ _ [isV (Value.pointer (some ⟨b3788, 4, none⟩)), isV vo1_b3788_4, fun (vT : Value) (wT : World) => RdL Enc.share wT (Bl1 ++ O) vT (l), isV (vI ((i : Nat) : Int)), fun (vT : Value) (wT : World) => ∃ aT, vT = .pointer (some aT) ∧ PT Enc.share wT (Bl1 ++ O) (.pointer (some aT)) (l[i]!), fun (vT : Value) (wT : World) => ∃ aT, vT = .pointer (some aT) ∧ PT (Enc.slice Enc.u8) wT (Bl1 ++ O) (.pointer (some aT)) ((l[i]!).data), fun (vT : Value) (wT : World) => RdL Enc.u8 wT (Bl1 ++ O) vT ((l[i]!).data), isV (vI ((k : Nat) : Int)), fun (vT : Value) (wT : World) => ∃ aT, vT = .pointer (some aT) ∧ PT Enc.u8 wT (Bl1 ++ O) (.pointer (some aT)) (((l[i]!).data)[k]!), isV (vB (((l[i]!).data)[k]!)), fun (vT : Value) (wT : World) => RdL Enc.share wT (Bl1 ++ O) vT ((refSplitM (List.replicate (((l[0]!).data).length) (0 : UInt8)) (0 : Int) ((l[0]!).threshold) ((l[0]!).many) coins).1), isV (vI ((i : Nat) : Int)), fun (vT : Value) (wT : World) => ∃ aT, vT = .pointer (some aT) ∧ PT Enc.share wT (Bl1 ++ O) (.pointer (some aT)) (((refSplitM (List.replicate (((l[0]!).data).length) (0 : UInt8)) (0 : Int) ((l[0]!).threshold) ((l[0]!).many) coins).1)[i]!), fun (vT : Value) (wT : World) => ∃ aT, vT = .pointer (some aT) ∧ PT (Enc.slice Enc.u8) wT (Bl1 ++ O) (.pointer (some aT)) ((((refSplitM (List.replicate (((l[0]!).data).length) (0 : UInt8)) (0 : Int) ((l[0]!).threshold) ((l[0]!).many) coins).1)[i]!).data), fun (vT : Value) (wT : World) => RdL Enc.u8 wT (Bl1 ++ O) vT ((((refSplitM (List.replicate (((l[0]!).data).length) (0 : UInt8)) (0 : Int) ((l[0]!).threshold) ((l[0]!).many) coins).1)[i]!).data), isV (vI ((k : Nat) : Int)), fun (vT : Value) (wT : World) => ∃ aT, vT = .pointer (some aT) ∧ PT Enc.u8 wT (Bl1 ++ O) (.pointer (some aT)) (((((refSplitM (List.replicate (((l[0]!).data).length) (0 : UInt8)) (0 : Int) ((l[0]!).threshold) ((l[0]!).many) coins).1)[i]!).data)[k]!), isV (vB (((((refSplitM (List.replicate (((l[0]!).data).length) (0 : UInt8)) (0 : Int) ((l[0]!).threshold) ((l[0]!).many) coins).1)[i]!).data)[k]!)), isV (vB ((((l[i]!).data)[k]!) ^^^ (((((refSplitM (List.replicate (((l[0]!).data).length) (0 : UInt8)) (0 : Int) ((l[0]!).threshold) ((l[0]!).many) coins).1)[i]!).data)[k]!))), fun (vT : Value) (wT : World) => RdL Enc.u8 wT (Bl1 ++ O) vT ([(((l[i]!).data)[k]!) ^^^ (((((refSplitM (List.replicate (((l[0]!).data).length) (0 : UInt8)) (0 : Int) ((l[0]!).threshold) ((l[0]!).many) coins).1)[i]!).data)[k]!)])] (by kernel_rfl) (by kernel_rfl) (by kernel_rfl) (by kernel_rfl) rfl rfl ⟨kI, kI, fun _ _ _ h k => h.mv (Mv.of_keep k), kI, fun _ _ _ ⟨a, e, h⟩ k => ⟨a, e, h.mv (Mv.of_keep k)⟩, fun _ _ _ ⟨a, e, h⟩ k => ⟨a, e, h.mv (Mv.of_keep k)⟩, fun _ _ _ h k => h.mv (Mv.of_keep k), kI, fun _ _ _ ⟨a, e, h⟩ k => ⟨a, e, h.mv (Mv.of_keep k)⟩, kI, fun _ _ _ h k => h.mv (Mv.of_keep k), kI, fun _ _ _ ⟨a, e, h⟩ k => ⟨a, e, h.mv (Mv.of_keep k)⟩, fun _ _ _ ⟨a, e, h⟩ k => ⟨a, e, h.mv (Mv.of_keep k)⟩, fun _ _ _ h k => h.mv (Mv.of_keep k), kI, fun _ _ _ ⟨a, e, h⟩ k => ⟨a, e, h.mv (Mv.of_keep k)⟩, kI, kI, fun _ _ _ h k => h.mv (Mv.of_keep k), trivial⟩ ⟨?_, ?_, ?_, ?_, ?_, ?_, ?_, ?_, ?_, ?_, ?_, ?_, ?_, ?_, ?_, ?_, ?_, ?_, ?_, ?_, trivial⟩ ?_
         ·intro F1 w1 k1 hf hd
          obtain ⟨F2, rfl⟩ := lit_of (F := F1) [(12, Value.pointer (some ⟨b3788, 0, none⟩))] ⟨hf 12 (by kernel_rfl), trivial⟩
          exact sp_plain rfl ((o_fieldL 4 f_53_4 rfl (⟨(Keep.refl _ _), rfl⟩)))
         ·intro F1 w1 k1 hf hd
          have k0 := (Keep.drew [] wl1).trans k1
          have hbs_b3788 := hbs_b3788.keep k0 (by simp)
          obtain ⟨F2, rfl⟩ := lit_of (F := F1) [(68, Value.pointer (some ⟨b3788, 4, none⟩))] ⟨hd 0 68 (by kernel_rfl), trivial⟩
          exact sp_plain rfl ((o_loadBx Try.underlying28 rfl (vo1_b3788_4) rfl hbs_b3788 rfl (⟨(Keep.refl _ _), rfl⟩)))
         ·intro F1 w1 k1 hf hd
          have k0 := (Keep.drew [] wl1).trans k1
          have m1 : Mv Bl1 wl1 Bl1 w1 := Mv.of_keep k0
          have h_l := h_l.mv m1
          obtain ⟨F2, rfl⟩ := lit_of (F := F1) [(0, l_v)] ⟨hf 0 (by kernel_rfl), trivial⟩
          exact sp_plain rfl ((o_move (l_v) rfl (⟨(Keep.refl _ _), h_l⟩)))
         ·intro F1 w1 k1 hf hd
          obtain ⟨F2, rfl⟩ := lit_of (F := F1) [(11, vI ((i : Nat) : Int))] ⟨hf 11 (by kernel_rfl), trivial⟩
          exact sp_plain rfl ((o_move (vI ((i : Nat) : Int)) rfl (⟨(Keep.refl _ _), rfl⟩)))
         ·intro F1 w1 k1 hf hd
          obtain ⟨v3816, e3818, hl3817⟩ : ∃ v, F1 70 = v ∧ RdL Enc.share w1 (Bl1 ++ O) v (l) := ⟨_, rfl, hd 2 70 (by kernel_rfl)⟩
          have := hl3817.len_le
          obtain ⟨F2, rfl⟩ := lit_of (F := F1) [(70, v3816), (71, vI ((i : Nat) : Int))] ⟨e3818, hd 3 71 (by kernel_rfl), trivial⟩
          exact sp_plain rfl ((o_idx Try.underlying38 s_53 .i64 ((i : Nat) : Int) i rfl rfl rfl hl3817 (by omega) fun a3819 hp3820 => (⟨(Keep.refl _ _), ⟨a3819, rfl, hp3820⟩⟩)))
         ·intro F1 w1 k1 hf hd
          obtain ⟨a3821, e3823, hp3822⟩ : ∃ a, F1 72 = .pointer (some a) ∧ PT Enc.share w1 (Bl1 ++ O) (.pointer (some a)) (l[i]!) := hd 4 72 (by kernel_rfl)
          obtain ⟨F2, rfl⟩ := lit_of (F := F1) [(72, Value.pointer (some a3821))] ⟨e3823, trivial⟩
          exact sp_plain rfl ((o_fieldR 4 f_53_4 ((l[i]!).data) rfl hp3822 (fun _ _ _ h => Enc_share_f4 h) fun a3824 hp3825 => (⟨(Keep.refl _ _), ⟨a3824, rfl, hp3825⟩⟩)))
         ·intro F1 w1 k1 hf hd
          obtain ⟨a3826, e3828, hp3827⟩ : ∃ a, F1 73 = .pointer (some a) ∧ PT (Enc.slice Enc.u8) w1 (Bl1 ++ O) (.pointer (some a)) ((l[i]!).data) := hd 5 73 (by kernel_rfl)
          obtain ⟨F2, rfl⟩ := lit_of (F := F1) [(73, Value.pointer (some a3826))] ⟨e3828, trivial⟩
          refine sp_plain rfl ((o_loadL Try.underlying28 rfl rfl hp3827 fun v3829 hl3830 => (?_)))
          have := hl3830.len_le
          exact ⟨(Keep.refl _ _), hl3830⟩
         ·intro F1 w1 k1 hf hd
          obtain ⟨F2, rfl⟩ := lit_of (F := F1) [(13, vI ((k : Nat) : Int))] ⟨hf 13 (by kernel_rfl), trivial⟩
          exact sp_plain rfl ((o_move (vI ((k : Nat) : Int)) rfl (⟨(Keep.refl _ _), rfl⟩)))
         ·intro F1 w1 k1 hf hd
          obtain ⟨v3831, e3833, hl3832⟩ : ∃ v, F1 74 = v ∧ RdL Enc.u8 w1 (Bl1 ++ O) v ((l[i]!).data) := ⟨_, rfl, hd 6 74 (by kernel_rfl)⟩
          have := hl3832.len_le
          obtain ⟨F2, rfl⟩ := lit_of (F := F1) [(74, v3831), (75, vI ((k : Nat) : Int))] ⟨e3833, hd 7 75 (by kernel_rfl), trivial⟩
          exact sp_plain rfl ((o_idx Try.underlying28 s_5 .i64 ((k : Nat) : Int) k rfl rfl rfl hl3832 (by omega) fun a3834 hp3835 => (⟨(Keep.refl _ _), ⟨a3834, rfl, hp3835⟩⟩)))
         ·intro F1 w1 k1 hf hd
          obtain ⟨a3836, e3838, hp3837⟩ : ∃ a, F1 76 = .pointer (some a) ∧ PT Enc.u8 w1 (Bl1 ++ O) (.pointer (some a)) (((l[i]!).data)[k]!) := hd 8 76 (by kernel_rfl)
          obtain ⟨F2, rfl⟩ := lit_of (F := F1) [(76, Value.pointer (some a3836))] ⟨e3838, trivial⟩
          exact sp_plain rfl ((o_loadB Try.underlying5 rfl rfl hp3837 (⟨(Keep.refl _ _), rfl⟩)))
         ·intro F1 w1 k1 hf hd
          have k0 := (Keep.drew [] wl1).trans k1
          have m1 : Mv Bl1 wl1 Bl1 w1 := Mv.of_keep k0
          have hl3777 := hl3777.mv m1
          obtain ⟨F2, rfl⟩ := lit_of (F := F1) [(8, v3776)] ⟨hf 8 (by kernel_rfl), trivial⟩
          exact sp_plain rfl ((o_move (v3776) rfl (⟨(Keep.refl _ _), hl3777⟩)))
         ·intro F1 w1 k1 hf hd
          obtain ⟨F2, rfl⟩ := lit_of (F := F1) [(11, vI ((i : Nat) : Int))] ⟨hf 11 (by kernel_rfl), trivial⟩
          exact sp_plain rfl ((o_move (vI ((i : Nat) : Int)) rfl (⟨(Keep.refl _ _), rfl⟩)))
         ·intro F1 w1 k1 hf hd
          obtain ⟨v3839, e3841, hl3840⟩ : ∃ v, F1 78 = v ∧ RdL Enc.share w1 (Bl1 ++ O) v ((refSplitM (List.replicate (((l[0]!).data).length) (0 : UInt8)) (0 : Int) ((l[0]!).threshold) ((l[0]!).many) coins).1) := ⟨_, rfl, hd 10 78 (by kernel_rfl)⟩
          have := hl3840.len_le
          obtain ⟨F2, rfl⟩ := lit_of (F := F1) [(78, v3839), (79, vI ((i : Nat) : Int))] ⟨e3841, hd 11 79 (by kernel_rfl), trivial⟩
          exact sp_plain rfl ((o_idx Try.underlying38 s_53 .i64 ((i : Nat) : Int) i rfl rfl rfl hl3840 (by omega) fun a3842 hp3843 => (⟨(Keep.refl _ _), ⟨a3842, rfl, hp3843⟩⟩)))
         ·intro F1 w1 k1 hf hd
          obtain ⟨a3844, e3846, hp3845⟩ : ∃ a, F1 80 = .pointer (some a) ∧ PT Enc.share w1 (Bl1 ++ O) (.pointer (some a)) (((refSplitM (List.replicate (((l[0]!).data).length) (0 : UInt8)) (0 : Int) ((l[0]!).threshold) ((l[0]!).many) coins).1)[i]!) := hd 12 80 (by kernel_rfl)
          obtain ⟨F2, rfl⟩ := lit_of (F := F1) [(80, Value.pointer (some a3844))] ⟨e3846, trivial⟩
          exact sp_plain rfl ((o_fieldR 4 f_53_4 ((((refSplitM (List.replicate (((l[0]!).data).length) (0 : UInt8)) (0 : Int) ((l[0]!).threshold) ((l[0]!).many) coins).1)[i]!).data) rfl hp3845 (fun _ _ _ h => Enc_share_f4 h) fun a3847 hp3848 => (⟨(Keep.refl _ _), ⟨a3847, rfl, hp3848⟩⟩)))
         ·intro F1 w1 k1 hf hd
          obtain ⟨a3849, e3851, hp3850⟩ : ∃ a, F1 81 = .pointer (some a) ∧ PT (Enc.slice Enc.u8) w1 (Bl1 ++ O) (.pointer (some a)) ((((refSplitM (List.replicate (((l[0]!).data).length) (0 : UInt8)) (0 : Int) ((l[0]!).threshold) ((l[0]!).many) coins).1)[i]!).data) := hd 13 81 (by kernel_rfl)
          obtain ⟨F2, rfl⟩ := lit_of (F := F1) [(81, Value.pointer (some a3849))] ⟨e3851, trivial⟩
          refine sp_plain rfl ((o_loadL Try.underlying28 rfl rfl hp3850 fun v3852 hl3853 => (?_)))
          have := hl3853.len_le
          exact ⟨(Keep.refl _ _), hl3853⟩
         ·intro F1 w1 k1 hf hd
          obtain ⟨F2, rfl⟩ := lit_of (F := F1) [(13, vI ((k : Nat) : Int))] ⟨hf 13 (by kernel_rfl), trivial⟩
          exact sp_plain rfl ((o_move (vI ((k : Nat) : Int)) rfl (⟨(Keep.refl _ _), rfl⟩)))
         ·intro F1 w1 k1 hf hd
          obtain ⟨v3854, e3856, hl3855⟩ : ∃ v, F1 82 = v ∧ RdL Enc.u8 w1 (Bl1 ++ O) v ((((refSplitM (List.replicate (((l[0]!).data).length) (0 : UInt8)) (0 : Int) ((l[0]!).threshold) ((l[0]!).many) coins).1)[i]!).data) := ⟨_, rfl, hd 14 82 (by kernel_rfl)⟩
          have := hl3855.len_le
          obtain ⟨F2, rfl⟩ := lit_of (F := F1) [(82, v3854), (83, vI ((k : Nat) : Int))] ⟨e3856, hd 15 83 (by kernel_rfl), trivial⟩
          exact sp_plain rfl ((o_idx Try.underlying28 s_5 .i64 ((k : Nat) : Int) k rfl rfl rfl hl3855 (by omega) fun a3857 hp3858 => (⟨(Keep.refl _ _), ⟨a3857, rfl, hp3858⟩⟩)))
         ·intro F1 w1 k1 hf hd
          obtain ⟨a3859, e3861, hp3860⟩ : ∃ a, F1 84 = .pointer (some a) ∧ PT Enc.u8 w1 (Bl1 ++ O) (.pointer (some a)) (((((refSplitM (List.replicate (((l[0]!).data).length) (0 : UInt8)) (0 : Int) ((l[0]!).threshold) ((l[0]!).many) coins).1)[i]!).data)[k]!) := hd 16 84 (by kernel_rfl)
          obtain ⟨F2, rfl⟩ := lit_of (F := F1) [(84, Value.pointer (some a3859))] ⟨e3861, trivial⟩
          exact sp_plain rfl ((o_loadB Try.underlying5 rfl rfl hp3860 (⟨(Keep.refl _ _), rfl⟩)))
         ·intro F1 w1 k1 hf hd
          obtain ⟨F2, rfl⟩ := lit_of (F := F1) [(77, vB (((l[i]!).data)[k]!)), (85, vB (((((refSplitM (List.replicate (((l[0]!).data).length) (0 : UInt8)) (0 : Int) ((l[0]!).threshold) ((l[0]!).many) coins).1)[i]!).data)[k]!))] ⟨hd 9 77 (by kernel_rfl), hd 17 85 (by kernel_rfl), trivial⟩
          exact sp_plain rfl ((o_xor8 (((l[i]!).data)[k]!) (((((refSplitM (List.replicate (((l[0]!).data).length) (0 : UInt8)) (0 : Int) ((l[0]!).threshold) ((l[0]!).many) coins).1)[i]!).data)[k]!) rfl rfl (⟨(Keep.refl _ _), rfl⟩)))
         ·intro F1 w1 k1 hf hd
          have k0 := (Keep.drew [] wl1).trans k1
          have s1 := sl1.call k0
          obtain ⟨F2, rfl⟩ := lit_of (F := F1) [(86, vB ((((l[i]!).data)[k]!) ^^^ (((((refSplitM (List.replicate (((l[0]!).data).length) (0 : UInt8)) (0 : Int) ((l[0]!).threshold) ((l[0]!).many) coins).1)[i]!).data)[k]!)))] ⟨hd 18 86 (by kernel_rfl), trivial⟩
          refine sp_plain rfl ((o_lit (E := Enc.u8) (xs := [.tmp 86]) Try.underlying28 s_5 z_5 (by decide) [vB ((((l[i]!).data)[k]!) ^^^ (((((refSplitM (List.replicate (((l[0]!).data).length) (0 : UInt8)) (0 : Int) ((l[0]!).threshold) ((l[0]!).many) coins).1)[i]!).data)[k]!))] [[vB ((((l[i]!).data)[k]!) ^^^ (((((refSplitM (List.replicate (((l[0]!).data).length) (0 : UInt8)) (0 : Int) ((l[0]!).threshold) ((l[0]!).many) coins).1)[i]!).data)[k]!))]] [(((l[i]!).data)[k]!) ^^^ (((((refSplitM (List.replicate (((l[0]!).data).length) (0 : UInt8)) (0 : Int) ((l[0]!).threshold) ((l[0]!).many) coins).1)[i]!).data)[k]!)] rfl rfl rfl (Parts.cons rfl rfl (Parts.nil _ _ _)) (of_decide_eq_true rfl) s1 fun v3866 w3862 s3863 m3864 k3865 hl3867 => (?_)))
          have := hl3867.len_le
          exact ⟨k3865, hl3867⟩
         intro F3869 w3870 k3868 hT3871 hF3872
         have s3873 := sl1.call k3868
         have m3874 : Mv Bl1 wl1 Bl1 w3870 := Mv.of_keep k3868
         have h_l := h_l.mv m3874
         have hl3777 := hl3777.mv m3874
         have ho0_10 := ho0_10.mv m3874 k3868 (by simp)
         have hd3726 := hd3726.mv m3874
         have bx3724 := bx3724.keep k3868 (by simp)
         have ho1_b3788_4 := ho1_b3788_4.mv m3874 k3868 (by simp)
         have hbs_b3788 := hbs_b3788.keep k3868 (by simp)
         obtain ⟨v3876, e3878, hl3877⟩ : ∃ v, F3869 87 = v ∧ RdL Enc.u8 w3870 (Bl1 ++ O) v ([(((l[i]!).data)[k]!) ^^^ (((((refSplitM (List.replicate (((l[0]!).data).length) (0 : UInt8)) (0 : Int) ((l[0]!).threshold) ((l[0]!).many) coins).1)[i]!).data)[k]!)]) := ⟨_, rfl, hT3871 19 87 (by kernel_rfl) (by decide)⟩
         have := hl3877.len_le
         obtain ⟨F2, rfl⟩ := lit_of (F := F3869) [(0, l_v), (7, Value.pointer (some ⟨b3713, 0, none⟩)), (8, v3776), (10, vo0_10), (11, vI ((i : Nat) : Int)), (12, Value.pointer (some ⟨b3788, 0, none⟩)), (13, vI ((k : Nat) : Int)), (95, undef), (69, vo1_b3788_4), (87, v3876)] ⟨hF3872 0 (by kernel_rfl), hF3872 7 (by kernel_rfl), hF3872 8 (by kernel_rfl), hF3872 10 (by kernel_rfl), hF3872 11 (by kernel_rfl), hF3872 12 (by kernel_rfl), hF3872 13 (by kernel_rfl), hF3872 95 (by kernel_rfl), hT3871 1 69 (by kernel_rfl) (by decide), e3878, trivial⟩
         clear hT3871 hF3872
         refine wl_s (o_append (E := Enc.u8) (l := (refrData l (refZero l[0]! coins).1 k i)) (m := [(((l[i]!).data)[k]!) ^^^ (((((refSplitM (List.replicate (((l[0]!).data).length) (0 : UInt8)) (0 : Int) ((l[0]!).threshold) ((l[0]!).many) coins).1)[i]!).data)[k]!)]) Try.underlying28 i_5 rfl (by decide) rfl rfl ho1_b3788_4 hl3877 (fun _ hb => .inl hb) hB1_b3788_4 (by simp [refrData]; omega) (by simp [refrData, maxLen]; omega) s3873 fun v3883 w3879 B3885 hB3886 at3887 sub3888 s3880 m3881 k3882 ho3884 => (?_))
         have ne3889 : ∀ b, vo0_10.ownBlock = some b → v3883.ownBlock ≠ some b := fun b hb e => by rcases at3887 with e1 | e1 <;> rw [e1] at e <;> first | (simp [Value.ownBlock] at e; done) | (exact absurd e (np1_b3788_4_vo0_10 b hb)) | (cases e; have := (ho0_10.lt _ hb).2; omega)
         have ne3890 : ∀ b, v3883.ownBlock = some b → b ≠ b3713 := fun b hb => by rcases at3887 with e1 | e1 <;> rw [e1] at hb <;> first | (simp [Value.ownBlock] at hb; done) | (exact nb1_b3788_4_b3713 b hb) | (cases hb; have := bx3724.lt; omega)
         have ne3891 : ∀ b, v3883.ownBlock = some b → b ≠ b3788 := fun b hb => by rcases at3887 with e1 | e1 <;> rw [e1] at hb <;> first | (simp [Value.ownBlock] at hb; done) | (exact nb1_b3788_4_b3788 b hb) | (cases hb; have := hbs_b3788.lt; omega)
         have hB0_10 : ∀ b, vo0_10.ownBlock = some b → b ∈ B3885 := fun b hb => sub3888 b (hB0_10 b hb)
         have hin_b3713 : b3713 ∈ B3885 := sub3888 b3713 (by first | assumption | (repeat (first | exact List.mem_cons_self | assumption | apply List.mem_cons_of_mem)))
         have hin_b3788 : b3788 ∈ B3885 := sub3888 b3788 (by first | assumption | (repeat (first | exact List.mem_cons_self | assumption | apply List.mem_cons_of_mem)))
         have h_l := h_l.mv m3881
         have hl3777 := hl3777.mv m3881
         have ho0_10 := ho0_10.mv m3881 k3882 (fun b hb => by simp only [Option.mem_toList]; first | (simp [Value.ownBlock]; done) | exact np1_b3788_4_vo0_10 b hb)
         have hd3726 := hd3726.mv m3881
         have bx3724 := bx3724.keep k3882 (by simp only [Option.mem_toList]; first | (simp [Value.ownBlock]; done) | exact fun e => absurd rfl (nb1_b3788_4_b3713 _ e))
         have hbs_b3788 := hbs_b3788.keep k3882 (by simp only [Option.mem_toList]; first | (simp [Value.ownBlock]; done) | exact fun e => absurd rfl (nb1_b3788_4_b3788 _ e))
         refine wl_s (o_fieldL 4 f_53_4 rfl (wl_n (o_store1 (v3883) rfl rfl ho3884.oneCell s_28 (by first | assumption | (repeat (first | exact List.mem_cons_self | assumption | apply List.mem_cons_of_mem))) hbs_b3788 (of_decide_eq_true rfl) s3880 fun w3892 s3893 m3894 k3895 bx3896 => (?_))))
         have h_l := h_l.mv m3894
         have hl3777 := hl3777.mv m3894
         have ho0_10 := ho0_10.mv m3894 k3895 (fun b hb => by simp only [List.mem_singleton]; exact ne3796 b hb)
         have ho3884 := ho3884.mv m3894 k3895 (fun b hb => by simp only [List.mem_singleton]; exact ne3891 b hb)
         have hd3726 := hd3726.mv m3894
         have bx3724 := bx3724.keep k3895 (by simp only [List.mem_singleton]; first | omega | exact ne3795)
         refine wl_nil (blockQ_n (thenQ_n (?_)))
         refine cw_region (by kernel_rfl) (wl_s (o_move (vI ((k : Nat) : Int)) rfl (wl_s (o_add .i64 ((k : Nat) : Int) (1 : Int) (((k + 1 : Nat) : Int)) rfl rfl (w64 (by omega) (by omega)) (wl_s (o_assign (vI ((k + 1 : Nat) : Int)) rfl (wl_nil (thenQ_n (?_)))))))))
         exact ⟨_, (by omega), (k + 1), v3883, B3885, (by first | omega | (simp; done) | (simp; omega) | simp_all), rfl, ⟨_, upds_self _ ⟨rfl, rfl, rfl, rfl, rfl, rfl, (by first | rfl | exact congrArg (Value.int _) (by first | omega | (simp))), rfl, trivial⟩⟩, s3893, (by rw [show (refrData l (refZero l[0]! coins).1 (k + 1) i) = (refrData l (refZero l[0]! coins).1 k i) ++ ([(((l[i]!).data)[k]!) ^^^ (((((refSplitM (List.replicate (((l[0]!).data).length) (0 : UInt8)) (0 : Int) ((l[0]!).threshold) ((l[0]!).many) coins).1)[i]!).data)[k]!)]) from tab_succ _ _]; exact ho3884), hB3886, h_l, hl3777, ho0_10, hB0_10, hd3726, bx3724, (by first | assumption | (repeat (first | exact List.mem_cons_self | assumption | apply List.mem_cons_of_mem)) | (apply_assumption; assumption)), bx3896, (by first | assumption | (repeat (first | exact List.mem_cons_self | assumption | apply List.mem_cons_of_mem)) | (apply_assumption; assumption)), ne3890, ne3891, (fun b hb e => ne3889 b e hb), ne3889⟩
        ·have hp3897 : (((l[0]!).data).length : Int) ≤ ((k : Nat) : Int) := by first | simpa using hc3814 | (have e := hc3814; simp at e; omega)
         obtain rfl : k = l[0]!.data.length := by omega
         refine cw_exit (thenQ_x (thenQ_x (blockQ_x (thenQ_n (?_)))))
         refine cw_region (by kernel_rfl) (wl_s (o_move (vo0_10) rfl (wl_s (o_loadBxA (vs := [vI (((l[i]!).epoch) + (1 : Int)), vI ((l[i]!).index), vI ((l[i]!).threshold), vI ((l[i]!).many), vo1_b3788_4]) Try.underlying53 rfl s_53 rfl hbs_b3788 rfl (?_)))))
         obtain ⟨B3898, s3899, m3900, hl3901, hk3902⟩ := ho1_b3788_4.publish sl1
         have hB0_10 : ∀ b, vo0_10.ownBlock = some b → b ∈ B3898 := fun b hb => hk3902 b (hB0_10 b hb) (np1_b3788_4_vo0_10 b hb)
         have hin_b3713 : b3713 ∈ B3898 := hk3902 b3713 (by first | assumption | (repeat (first | exact List.mem_cons_self | assumption | apply List.mem_cons_of_mem))) (fun e => absurd rfl (nb1_b3788_4_b3713 _ e))
         have hin_b3788 : b3788 ∈ B3898 := hk3902 b3788 (by first | assumption | (repeat (first | exact List.mem_cons_self | assumption | apply List.mem_cons_of_mem))) (fun e => absurd rfl (nb1_b3788_4_b3788 _ e))
         have lim3903 := hl3901.len_le
         have h_l := h_l.mv m3900
         have hl3777 := hl3777.mv m3900
         have ho0_10 := ho0_10.mv m3900 (Keep.refl [] _) (by simp)
         have hd3726 := hd3726.mv m3900
         have bx3724 := bx3724.keep (Keep.refl [] _) (by simp)
         have hbs_b3788 := hbs_b3788.keep (Keep.refl [] _) (by simp)
         refine wl_s (o_lit (E := Enc.share) (xs := [.tmp 91]) Try.underlying38 s_53 z_53 (by decide) [.agg #[vI (((l[i]!).epoch) + (1 : Int)), vI ((l[i]!).index), vI ((l[i]!).threshold), vI ((l[i]!).many), vo1_b3788_4]] [[vI (((l[i]!).epoch) + (1 : Int)), vI ((l[i]!).index), vI ((l[i]!).threshold), vI ((l[i]!).many), vo1_b3788_4]] [(⟨((l[i]!).epoch) + (1 : Int), (l[i]!).index, (l[i]!).threshold, (l[i]!).many, (refrData l (refZero l[0]! coins).1 (l[0]!.data.length) i)⟩ : Share)] rfl rfl rfl (Parts.cons rfl ⟨_, rfl, hl3901⟩ (Parts.nil _ _ _)) (of_decide_eq_true rfl) s3899 fun v3908 w3904 s3905 m3906 k3907 hl3909 => (?_))
         have h_l := h_l.mv m3906
         have hl3777 := hl3777.mv m3906
         have ho0_10 := ho0_10.mv m3906 k3907 (by simp)
         have hd3726 := hd3726.mv m3906
         have bx3724 := bx3724.keep k3907 (by simp)
         have hbs_b3788 := hbs_b3788.keep k3907 (by simp)
         have := hl3909.len_le
         refine wl_s (o_append (E := Enc.share) (l := (refRefreshL l coins i)) (m := [(⟨((l[i]!).epoch) + (1 : Int), (l[i]!).index, (l[i]!).threshold, (l[i]!).many, (refrData l (refZero l[0]! coins).1 (l[0]!.data.length) i)⟩ : Share)]) Try.underlying38 i_53 rfl (by decide) rfl rfl ho0_10 hl3909 (fun _ hb => .inl hb) hB0_10 (by rw [refRefreshL_len]; simp; omega) (by rw [refRefreshL_len]; simp [maxLen]; omega) s3905 fun v3914 w3910 B3916 hB3917 at3918 sub3919 s3911 m3912 k3913 ho3915 => (?_))
         have ne3920 : ∀ b, v3914.ownBlock = some b → b ≠ b3713 := fun b hb => by rcases at3918 with e1 | e1 <;> rw [e1] at hb <;> first | (simp [Value.ownBlock] at hb; done) | (exact nb0_10_b3713 b hb) | (cases hb; have := bx3724.lt; omega)
         have ne3921 : ∀ b, v3914.ownBlock = some b → b ≠ b3788 := fun b hb => by rcases at3918 with e1 | e1 <;> rw [e1] at hb <;> first | (simp [Value.ownBlock] at hb; done) | (exact ne3796 b hb) | (cases hb; have := hbs_b3788.lt; omega)
         have hin_b3713 : b3713 ∈ B3916 := sub3919 b3713 (by first | assumption | (repeat (first | exact List.mem_cons_self | assumption | apply List.mem_cons_of_mem)))
         have hin_b3788 : b3788 ∈ B3916 := sub3919 b3788 (by first | assumption | (repeat (first | exact List.mem_cons_self | assumption | apply List.mem_cons_of_mem)))
         have h_l := h_l.mv m3912
         have hl3777 := hl3777.mv m3912
         have hd3726 := hd3726.mv m3912
         have bx3724 := bx3724.keep k3913 (by simp only [Option.mem_toList]; first | (simp [Value.ownBlock]; done) | exact fun e => absurd rfl (nb0_10_b3713 _ e))
         refine wl_s (o_assign (v3914) rfl (wl_nil (blockQ_n (thenQ_n (?_)))))
         refine cw_region (by kernel_rfl) (wl_s (o_move (vI ((i : Nat) : Int)) rfl (wl_s (o_add .i64 ((i : Nat) : Int) (1 : Int) (((i + 1 : Nat) : Int)) rfl rfl (w64 (by omega) (by omega)) (wl_s (o_assign (vI ((i + 1 : Nat) : Int)) rfl (wl_nil (thenQ_n (?_)))))))))
         exact ⟨_, (by omega), (i + 1), v3914, B3916, (by first | omega | (simp; done) | (simp; omega) | simp_all), rfl, ⟨_, upds_self _ ⟨rfl, rfl, rfl, rfl, (by first | rfl | exact congrArg (Value.int _) (by first | omega | (simp))), rfl, trivial⟩⟩, s3911, (by rw [show (refRefreshL l coins (i + 1)) = (refRefreshL l coins i) ++ ([(⟨((l[i]!).epoch) + (1 : Int), (l[i]!).index, (l[i]!).threshold, (l[i]!).many, (refrData l (refZero l[0]! coins).1 (l[0]!.data.length) i)⟩ : Share)]) from refRefreshL_succ _ _ _]; exact ho3915), hB3917, h_l, hl3777, hd3726, bx3724, (by first | assumption | (repeat (first | exact List.mem_cons_self | assumption | apply List.mem_cons_of_mem)) | (apply_assumption; assumption)), ne3920⟩
      ·have hp3922 : (l.length : Int) ≤ ((i : Nat) : Int) := by first | simpa using hc3782 | (have e := hc3782; simp at e; omega)
       obtain rfl : i = l.length := by omega
       refine cw_exit (thenQ_x (thenQ_x (blockQ_x (thenQ_n (?_)))))
       refine cw_seq (?_)
       refine cw_region (by kernel_rfl) (wl_s (o_move (vo0_10) rfl (wl_s (o_assign (vo0_10) rfl (wl_s (o_assign (vI (0 : Int)) rfl (wl_nil (thenQ_n (?_)))))))))
       refine cw_ret (end_r rfl (res2 rfl rfl rfl rfl) (?_))
       have e : (refRefreshM l coins) = ((refRefreshL l coins l.length), (0 : Int)) := by first | exact refRefreshM_ok (l := l) (coins := coins) (by unfold refRefreshBad; ((repeat (first | (refine (if_pos ?_).trans ?_; solve | omega | assumption | (simp only [dbs]; first | done | omega | assumption) | (simp only [*, dbs]; done)) | (refine (if_neg ?_).trans ?_; solve | omega | assumption | (simp only [dbs]; first | done | omega | assumption) | (simp only [*, dbs]; done)))); exact hz2)) rfl | exact refRefreshM_bad (l := l) (coins := coins) (by unfold refRefreshBad refZero; ((repeat (first | (refine (if_pos ?_).trans ?_; solve | omega | assumption | (simp only [dbs]; first | done | omega | assumption) | (simp only [*, dbs]; done)) | (refine (if_neg ?_).trans ?_; solve | omega | assumption | (simp only [dbs]; first | done | omega | assumption) | (simp only [*, dbs]; done)))); rfl)) (by first | assumption | decide)
       exact ⟨_, rfl, sl0.keep, by rw [e]; exact ⟨vo0_10, rfl, ho0_10.pub sl0⟩⟩

end Go.Proofs.Yteajcgfcnbdmgaa
