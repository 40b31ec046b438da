/- Walks, printed by gen.py. -/
import Derived.Test.YtjpniibleelgiaaXc
set_option linter.unusedSimpArgs false
set_option linter.unusedVariables false
namespace Go.Proofs.Ytjpniibleelgiaa
open Go.Fw Go.RowKit

set_option maxHeartbeats 4000000 in
set_option maxRecDepth 100000 in
theorem c_cloneD {O : List Nat} (l_v : Value) (l : List DeviceOp) (w : World) (h_l : RdL Enc.devop w O l_v l) (hpre0 : l.length ≤ 1000000) (hO : ∀ b ∈ O, b < w.heap.size) : CallsK Try.prog 56 [l_v] w (fun v w' => ∃ (x0 : Value), v = x0 ∧ (∀ b, x0.ownBlock = some b → w.heap.size ≤ b) ∧ Own Enc.devop 40 w.heap.size (x0.ownBlock.toList ++ (O)) w' x0 (l)) :=  by
 have lim_l := h_l.len_le
 have h_l : RdL Enc.devop w ([] ++ O) l_v l := h_l
 have s0 : St w O w [] := St.start hO
 refine callsK_of 8 Try.func56 rfl rfl (of_decide_eq_true rfl) (fun F0 => ?_)
 refine cw_seq (?_)
 refine cw_region (by kernel_rfl) (wl_s (o_assign (Value.slice none 0 0) rfl (wl_nil (thenQ_n (?_)))))
 refine cw_seq (?_)
 refine cw_seq (?_)
 refine cw_region (by kernel_rfl) (wl_s (o_move (l_v) rfl (wl_s (o_eqlNilR Try.underlying26 rfl rfl h_l fun bn664 hbn665 => (?_)))))
 refine wl_nil (thenQ_n (?_))
 refine cw_cond (bn664) rfl rfl (fun hc666 => ?_) (fun hc666 => ?_)
 ·have hp667 : bn664 = true := by first | simpa using hc666 | (have e := hc666; simp at e; omega)
  refine cw_seq (?_)
  refine cw_region (by kernel_rfl) (wl_s (o_assign (Value.slice none 0 0) rfl (wl_nil (thenQ_n (?_)))))
  refine cw_ret (thenQ_r (end_r rfl (res1 rfl rfl rfl) (?_)))
  have hnl669 : l = [] := hbn665 (by first | assumption | simp_all)
  have hl668 : RdL Enc.devop w ([] ++ O) (.slice none 0 0) (l) := by rw [hnl669]; exact RdL.nil _ _ _
  exact ⟨_, rfl, s0.keep, ⟨.slice none 0 0, rfl, (fun b hb => by simp [Value.ownBlock] at hb), (by rw [hnl669]; exact Own.nil _ _ _ _ _)⟩⟩
 ·have hp670 : bn664 = false := by first | simpa using hc666 | (have e := hc666; simp at e; omega)
  refine cw_skip (thenQ_n (?_))
  refine cw_seq (?_)
  refine cw_region (by kernel_rfl) (wl_s (o_litO (E := Enc.devop) (xs := []) Try.underlying26 s_40 z_40 (by decide) [] [] [] rfl rfl rfl (Parts.nil _ _ _) (of_decide_eq_true rfl) s0 fun v675 b677 w671 e678 hb679 s672 m673 k674 hl676 => (?_)))
  have hB680 : ∀ b, v675.ownBlock = some b → b ∈ (b677 :: []) := fun b hb => by rw [hb679] at hb; cases hb; simp
  clear e678 hb679
  have h_l := h_l.mv m673
  refine wl_s (o_move (l_v) rfl (wl_s (o_append (E := Enc.devop) (l := []) (m := l) Try.underlying26 i_40 rfl (by decide) rfl rfl hl676 h_l (fun _ hb => .inl hb) hB680 (by simp; omega) (by simp [maxLen]; omega) s672 fun v685 w681 B687 hB688 at689 sub690 s682 m683 k684 ho686 => (?_))))
  rw [List.nil_append] at ho686
  refine wl_s (o_assign (v685) rfl (wl_nil (thenQ_n (?_))))
  refine cw_ret (end_r rfl (res1 rfl rfl rfl) (?_))
  exact ⟨_, rfl, s682.keep, ⟨v685, rfl, (fun b hb => (s682.new b (hB688 b hb)).1), (ho686.sub (fun x hx => .inl ((List.mem_append.1 hx).elim (fun h => List.mem_append_left _ (hB688 x (by simpa using h))) (fun h => List.mem_append_right _ h))))⟩⟩
set_option maxHeartbeats 4000000 in
set_option maxRecDepth 100000 in
theorem c_add {O : List Nat} (l_v : Value) (l : List DeviceOp) (o_cs : List Value) (o : DeviceOp) (w : World) (h_l : RdL Enc.devop w O l_v l) (h_o : Enc.devop.rd w O o_cs o) (hO : ∀ b ∈ O, b < w.heap.size) : CallsK Try.prog 23 [l_v, .agg o_cs.toArray] w (fun v w' => ∃ (x0 : Value), v = .tuple #[x0, vI ((addM l o).2)] ∧ RdL Enc.devop w' (O) x0 ((addM l o).1)) :=  by
 have lim_l := h_l.len_le
 have h_l : RdL Enc.devop w ([] ++ O) l_v l := h_l
 obtain rfl := h_o
 have s0 : St w O w [] := St.start hO
 refine callsK_of 39 Try.func23 rfl rfl (of_decide_eq_true rfl) (fun F0 => ?_)
 refine cw_seq (?_)
 refine cw_region (by kernel_rfl) (wl_s (o_boxR (E := Enc.devop) (Value.agg #[vI o.device, vI o.no, vI o.kind, vI o.copy, vI o.to, vI o.token]) ([vI o.device, vI o.no, vI o.kind, vI o.copy, vI o.to, vI o.token]) o rfl rfl rfl s0 fun a691 w692 s693 m694 k695 hp696 => (?_)))
 have h_l := h_l.mv m694
 refine wl_s (o_assign (Value.slice none 0 0) rfl (wl_s (o_assign (vI (0 : Int)) rfl (wl_nil (thenQ_n (?_))))))
 refine cw_seq (?_)
 refine cw_seq (?_)
 refine cw_region (by kernel_rfl) (wl_s (o_move (l_v) rfl (wl_s (o_callK (vs := [l_v]) enter_29 (c_check42 (O := [] ++ O) l_v l w692 h_l s693.lt) rfl s693 fun v697 w698 s699 m700 k701 r702 => (?_)))))
 obtain rfl := r702
 have h_l := h_l.mv m700
 have hp696 := hp696.mv m700
 refine wl_s (o_neq .i64 (checkM l) (0 : Int) rfl rfl (wl_s (o_move (Value.bool ((checkM l) != (0 : Int))) rfl (?_))))
 cases hb703 : ((checkM l) != (0 : Int))
 ·have hp704 : checkM l = (0 : Int) := by first | simpa using hb703 | (have e := hb703; simp at e; omega)
  have hchk : checkM l = 0 := hp704
  have hchk_1 := (check_ok hchk).1
  refine wl_t rfl (o_loadS Try.underlying40 rfl s_40 rfl hp696 fun cs705 hs706 => (?_))
  obtain rfl := hs706
  refine wl_t rfl (o_callK (vs := [Value.agg #[vI o.device, vI o.no, vI o.kind, vI o.copy, vI o.to, vI o.token]]) enter_54 (c_valid (O := [] ++ O) [vI o.device, vI o.no, vI o.kind, vI o.copy, vI o.to, vI o.token] o w698 rfl s699.lt) rfl s699 fun v707 w708 s709 m710 k711 r712 => (?_))
  obtain rfl := r712
  have h_l := h_l.mv m710
  have hp696 := hp696.mv m710
  refine wl_t rfl (o_not (validM o) rfl (wl_s (o_pickF (Value.bool (!(validM o))) rfl rfl (wl_nil (thenQ_n (?_))))))
  refine cw_cond (!(validM o)) rfl rfl (fun hc713 => ?_) (fun hc713 => ?_)
  ·have hp714 : (validM o) = false := by first | simpa using hc713 | (have e := hc713; rw [Bool.not_eq_true'] at e; exact e) | (have e := hc713; rw [Bool.not_eq_false'] at e; exact e) | (have e := hc713; simp at e; omega)
   refine cw_seq (?_)
   refine cw_region (by kernel_rfl) (wl_s (o_assign (Value.slice none 0 0) rfl (wl_s (o_assign (vI (420 : Int)) rfl (wl_nil (thenQ_n (?_)))))))
   refine cw_ret (thenQ_r (end_r rfl (res2 rfl rfl rfl rfl) (?_)))
   have e715 : ((addM l o).1) = ([]) := by first | exact congrArg (fun p => p.1) (show addM l o = _ from add_1 (by assumption)) | exact congrArg (fun p => p.1) (show addM l o = _ from add_2 (by assumption)) | exact congrArg (fun p => p.1) (show addM l o = _ from add_3 (by assumption) (by assumption) (by assumption)) | exact congrArg (fun p => p.1) (show addM l o = _ from add_4 (by assumption) (by assumption) (by assumption) (by assumption)) | exact congrArg (fun p => p.1) (show addM l o = _ from add_5 (by assumption) (by assumption) (by assumption) (by assumption) (by assumption)) | exact congrArg (fun p => p.1) (show addM l o = _ from add_6 (by assumption) (by assumption) (by assumption) (by assumption) (by assumption))
   have e716 : ((addM l o).2) = (420 : Int) := by first | exact congrArg (fun p => p.2) (show addM l o = _ from add_1 (by assumption)) | exact congrArg (fun p => p.2) (show addM l o = _ from add_2 (by assumption)) | exact congrArg (fun p => p.2) (show addM l o = _ from add_3 (by assumption) (by assumption) (by assumption)) | exact congrArg (fun p => p.2) (show addM l o = _ from add_4 (by assumption) (by assumption) (by assumption) (by assumption)) | exact congrArg (fun p => p.2) (show addM l o = _ from add_5 (by assumption) (by assumption) (by assumption) (by assumption) (by assumption)) | exact congrArg (fun p => p.2) (show addM l o = _ from add_6 (by assumption) (by assumption) (by assumption) (by assumption) (by assumption))
   exact ⟨_, rfl, s709.keep, by rw [e715, e716]; exact ⟨.slice none 0 0, rfl, RdL.nil _ _ _⟩⟩
  ·have hp717 : (validM o) = true := by first | simpa using hc713 | (have e := hc713; rw [Bool.not_eq_true'] at e; exact e) | (have e := hc713; rw [Bool.not_eq_false'] at e; exact e) | (have e := hc713; simp at e; omega)
   refine cw_skip (thenQ_n (?_))
   refine cw_seq (?_)
   refine cw_seq (?_)
   refine cw_region (by kernel_rfl) (wl_s (o_move (l_v) rfl (wl_s (o_loadS Try.underlying40 rfl s_40 rfl hp696 fun cs718 hs719 => (?_)))))
   obtain rfl := hs719
   refine wl_s (o_callK (vs := [l_v, Value.agg #[vI o.device, vI o.no, vI o.kind, vI o.copy, vI o.to, vI o.token]]) enter_55 (c_containsD (O := [] ++ O) l_v l [vI o.device, vI o.no, vI o.kind, vI o.copy, vI o.to, vI o.token] o w708 h_l rfl s709.lt) rfl s709 fun v720 w721 s722 m723 k724 r725 => (?_))
   obtain rfl := r725
   have h_l := h_l.mv m723
   have hp696 := hp696.mv m723
   refine wl_nil (thenQ_n (?_))
   refine cw_cond (l.contains o) rfl rfl (fun hc726 => ?_) (fun hc726 => ?_)
   ·have hp727 : (l.contains o) = true := by first | simpa using hc726 | (have e := hc726; simp at e; omega)
    refine cw_seq (?_)
    refine cw_region (by kernel_rfl) (wl_s (o_move (l_v) rfl (wl_s (o_callK (vs := [l_v]) enter_56 (c_cloneD (O := [] ++ O) l_v l w721 h_l (by first | omega | assumption | (simp; done)) s722.lt) rfl s722 fun v728 w729 s730 m731 k732 r733 => (?_)))))
    obtain ⟨_, rfl, hv735, ho734⟩ := r733
    have ho734 := ho734.rd (O' := [] ++ O) (fun x hx => .inl (List.mem_append_right _ hx)) (fun c hc hx => by have := hv735 c hc; have := s722.lt c hx; omega)
    have := ho734.len_le
    refine wl_s (o_assign (v728) rfl (wl_s (o_assign (vI (0 : Int)) rfl (wl_nil (thenQ_n (?_))))))
    refine cw_ret (thenQ_r (end_r rfl (res2 rfl rfl rfl rfl) (?_)))
    have e736 : ((addM l o).1) = l := by first | exact congrArg (fun p => p.1) (show addM l o = _ from add_1 (by assumption)) | exact congrArg (fun p => p.1) (show addM l o = _ from add_2 (by assumption)) | exact congrArg (fun p => p.1) (show addM l o = _ from add_3 (by assumption) (by assumption) (by assumption)) | exact congrArg (fun p => p.1) (show addM l o = _ from add_4 (by assumption) (by assumption) (by assumption) (by assumption)) | exact congrArg (fun p => p.1) (show addM l o = _ from add_5 (by assumption) (by assumption) (by assumption) (by assumption) (by assumption)) | exact congrArg (fun p => p.1) (show addM l o = _ from add_6 (by assumption) (by assumption) (by assumption) (by assumption) (by assumption))
    have e737 : ((addM l o).2) = (0 : Int) := by first | exact congrArg (fun p => p.2) (show addM l o = _ from add_1 (by assumption)) | exact congrArg (fun p => p.2) (show addM l o = _ from add_2 (by assumption)) | exact congrArg (fun p => p.2) (show addM l o = _ from add_3 (by assumption) (by assumption) (by assumption)) | exact congrArg (fun p => p.2) (show addM l o = _ from add_4 (by assumption) (by assumption) (by assumption) (by assumption)) | exact congrArg (fun p => p.2) (show addM l o = _ from add_5 (by assumption) (by assumption) (by assumption) (by assumption) (by assumption)) | exact congrArg (fun p => p.2) (show addM l o = _ from add_6 (by assumption) (by assumption) (by assumption) (by assumption) (by assumption))
    exact ⟨_, rfl, s730.keep, by rw [e736, e737]; exact ⟨v728, rfl, ho734.out⟩⟩
   ·have hp738 : (l.contains o) = false := by first | simpa using hc726 | (have e := hc726; simp at e; omega)
    refine cw_skip (thenQ_n (?_))
    refine cw_seq (?_)
    refine cw_seq (?_)
    refine cw_region (by kernel_rfl) (wl_s (o_move (l_v) rfl (wl_s (o_makeFunc (first := []) (captured := [.tmp 3]) [] [Value.pointer (some a691)] rfl rfl (wl_s (o_callK (vs := [l_v, Value.func (.func 58) #[] #[Value.pointer (some a691)]]) enter_57 (c_containsF (O := [] ++ O) l_v l 58 [Value.pointer (some a691)] (fun x_ => numM x_ == numM o) w721 h_l enter_58 (fun w'_ O'_ kk_ hs_ hl_ x__cs x_ hr_x_  => c_add1 (O := O'_) x__cs x_ a691 o w'_ hr_x_ (hp696.on hs_ kk_) hl_) s722.lt) rfl s722 fun v739 w740 s741 m742 k743 r744 => (?_)))))))
    obtain rfl := r744
    have h_l := h_l.mv m742
    have hp696 := hp696.mv m742
    refine wl_nil (thenQ_n (?_))
    refine cw_cond (l.any (fun x_ => numM x_ == numM o)) rfl rfl (fun hc745 => ?_) (fun hc745 => ?_)
    ·have hp746 : (l.any (fun x_ => numM x_ == numM o)) = true := by first | simpa using hc745 | (have e := hc745; simp at e; omega)
     refine cw_seq (?_)
     refine cw_region (by kernel_rfl) (wl_s (o_assign (Value.slice none 0 0) rfl (wl_s (o_assign (vI (420 : Int)) rfl (wl_nil (thenQ_n (?_)))))))
     refine cw_ret (thenQ_r (end_r rfl (res2 rfl rfl rfl rfl) (?_)))
     have e747 : ((addM l o).1) = ([]) := by first | exact congrArg (fun p => p.1) (show addM l o = _ from add_1 (by assumption)) | exact congrArg (fun p => p.1) (show addM l o = _ from add_2 (by assumption)) | exact congrArg (fun p => p.1) (show addM l o = _ from add_3 (by assumption) (by assumption) (by assumption)) | exact congrArg (fun p => p.1) (show addM l o = _ from add_4 (by assumption) (by assumption) (by assumption) (by assumption)) | exact congrArg (fun p => p.1) (show addM l o = _ from add_5 (by assumption) (by assumption) (by assumption) (by assumption) (by assumption)) | exact congrArg (fun p => p.1) (show addM l o = _ from add_6 (by assumption) (by assumption) (by assumption) (by assumption) (by assumption))
     have e748 : ((addM l o).2) = (420 : Int) := by first | exact congrArg (fun p => p.2) (show addM l o = _ from add_1 (by assumption)) | exact congrArg (fun p => p.2) (show addM l o = _ from add_2 (by assumption)) | exact congrArg (fun p => p.2) (show addM l o = _ from add_3 (by assumption) (by assumption) (by assumption)) | exact congrArg (fun p => p.2) (show addM l o = _ from add_4 (by assumption) (by assumption) (by assumption) (by assumption)) | exact congrArg (fun p => p.2) (show addM l o = _ from add_5 (by assumption) (by assumption) (by assumption) (by assumption) (by assumption)) | exact congrArg (fun p => p.2) (show addM l o = _ from add_6 (by assumption) (by assumption) (by assumption) (by assumption) (by assumption))
     exact ⟨_, rfl, s741.keep, by rw [e747, e748]; exact ⟨.slice none 0 0, rfl, RdL.nil _ _ _⟩⟩
    ·have hp749 : (l.any (fun x_ => numM x_ == numM o)) = false := by first | simpa using hc745 | (have e := hc745; simp at e; omega)
     refine cw_skip (thenQ_n (?_))
     refine cw_seq (?_)
     refine cw_seq (?_)
     refine cw_region (by kernel_rfl) (wl_s (o_move (l_v) rfl (wl_s (o_lenR Try.underlying26 rfl h_l (wl_s (o_eql .i64 (l.length : Int) (256 : Int) rfl rfl (wl_nil (thenQ_n (?_)))))))))
     refine cw_cond ((l.length : Int) == (256 : Int)) rfl rfl (fun hc750 => ?_) (fun hc750 => ?_)
     ·have hp751 : (l.length : Int) = (256 : Int) := by first | simpa using hc750 | (have e := hc750; simp at e; omega)
      refine cw_seq (?_)
      refine cw_region (by kernel_rfl) (wl_s (o_assign (Value.slice none 0 0) rfl (wl_s (o_assign (vI (2 : Int)) rfl (wl_nil (thenQ_n (?_)))))))
      refine cw_ret (thenQ_r (end_r rfl (res2 rfl rfl rfl rfl) (?_)))
      have e752 : ((addM l o).1) = ([]) := by first | exact congrArg (fun p => p.1) (show addM l o = _ from add_1 (by assumption)) | exact congrArg (fun p => p.1) (show addM l o = _ from add_2 (by assumption)) | exact congrArg (fun p => p.1) (show addM l o = _ from add_3 (by assumption) (by assumption) (by assumption)) | exact congrArg (fun p => p.1) (show addM l o = _ from add_4 (by assumption) (by assumption) (by assumption) (by assumption)) | exact congrArg (fun p => p.1) (show addM l o = _ from add_5 (by assumption) (by assumption) (by assumption) (by assumption) (by assumption)) | exact congrArg (fun p => p.1) (show addM l o = _ from add_6 (by assumption) (by assumption) (by assumption) (by assumption) (by assumption))
      have e753 : ((addM l o).2) = (2 : Int) := by first | exact congrArg (fun p => p.2) (show addM l o = _ from add_1 (by assumption)) | exact congrArg (fun p => p.2) (show addM l o = _ from add_2 (by assumption)) | exact congrArg (fun p => p.2) (show addM l o = _ from add_3 (by assumption) (by assumption) (by assumption)) | exact congrArg (fun p => p.2) (show addM l o = _ from add_4 (by assumption) (by assumption) (by assumption) (by assumption)) | exact congrArg (fun p => p.2) (show addM l o = _ from add_5 (by assumption) (by assumption) (by assumption) (by assumption) (by assumption)) | exact congrArg (fun p => p.2) (show addM l o = _ from add_6 (by assumption) (by assumption) (by assumption) (by assumption) (by assumption))
      exact ⟨_, rfl, s741.keep, by rw [e752, e753]; exact ⟨.slice none 0 0, rfl, RdL.nil _ _ _⟩⟩
     ·have hp754 : (l.length : Int) ≠ (256 : Int) := by first | simpa using hc750 | (have e := hc750; simp at e; omega)
      refine cw_skip (thenQ_n (?_))
      refine cw_seq (?_)
      refine cw_region (by kernel_rfl) (wl_s (o_move (l_v) rfl (wl_s (o_loadS Try.underlying40 rfl s_40 rfl hp696 fun cs755 hs756 => (?_)))))
      obtain rfl := hs756
      refine wl_s (o_callK (vs := [l_v, Value.agg #[vI o.device, vI o.no, vI o.kind, vI o.copy, vI o.to, vI o.token], Value.func (.func 61) #[] #[]]) enter_60 (c_bsF (O := [] ++ O) l_v l [vI o.device, vI o.no, vI o.kind, vI o.copy, vI o.to, vI o.token] o 61 [] (fun x_ y_ => cmpM x_ y_) w740 h_l rfl enter_61 (fun w'_ O'_ kk_ hs_ hl_ x__cs x_ y__cs y_ hr_x_ hr_y_  => c_compare (O := O'_) x__cs x_ y__cs y_ w'_ hr_x_ hr_y_ hl_) (check_mono hchk o) (by omega) s741.lt) rfl s741 fun v757 w758 s759 m760 k761 r762 => (?_))
      obtain rfl := r762
      have h_l := h_l.mv m760
      have hp696 := hp696.mv m760
      refine wl_s (o_move (Value.tuple #[vI ((tw2 l o (fun x_ y_ => cmpM x_ y_) : Nat) : Int), Value.bool (bsG l o (fun x_ y_ => cmpM x_ y_))]) rfl (wl_s (o_extract (vI ((tw2 l o (fun x_ y_ => cmpM x_ y_) : Nat) : Int)) rfl rfl (wl_s (o_extract (Value.bool (bsG l o (fun x_ y_ => cmpM x_ y_))) rfl rfl (wl_s (o_assign (vI ((tw2 l o (fun x_ y_ => cmpM x_ y_) : Nat) : Int)) rfl (wl_s (o_assign (Value.bool (bsG l o (fun x_ y_ => cmpM x_ y_))) rfl (wl_nil (thenQ_n (?_))))))))))))
      refine cw_seq (?_)
      refine cw_drawU 5 _ _ [fun _ => fun (vT : Value) (_ : World) => RdL Enc.devop w758 ([] ++ O) vT (l), TOw w758 w.heap.size O Enc.devop 40 (l), fun _ => isV (vI ((tw2 l o (fun x_ y_ => cmpM x_ y_) : Nat) : Int)), fun _ => isV (Value.agg #[vI o.device, vI o.no, vI o.kind, vI o.copy, vI o.to, vI o.token]), TOw w758 w.heap.size O Enc.devop 40 ([o])] [⟨0, [], [], [], false, []⟩, ⟨1, [], [], [], false, [0]⟩, ⟨0, [], [], [], false, []⟩, ⟨0, [], [], [], false, []⟩, ⟨2, [], [], [], false, [3]⟩] ([]) (by kernel_rfl) (by kernel_rfl) (by kernel_rfl) (by kernel_rfl) (by kernel_rfl) rfl rfl ⟨fun _ _ _ _ _ h => h, TOw.st, fun _ _ _ _ _ h => h, fun _ _ _ _ _ h => h, TOw.st, trivial⟩ ⟨?_, ?_, ?_, ?_, ?_, trivial⟩ ?_
      ·intro F1 w1 B1_ Bs_ k1 hs_ hl_ hr_ hsep_ hf hd
       obtain ⟨F2, rfl⟩ := lit_of (F := F1) [(0, l_v)] ⟨hf 0 (by kernel_rfl), trivial⟩
       exact sp_plain rfl ((o_move (l_v) rfl (⟨[], (Keep.refl _ _), noC, h_l⟩)))
      ·intro F1 w1 B1_ Bs_ k1 hs_ hl_ hr_ hsep_ hf hd
       have k0 := (Keep.drew [] w758).trans k1
       have s1 := s759.adoptL k0 hl_
       have m1 : Mv ([]) w758 B1_ w1 := Mv.adoptL k0 hl_
       obtain ⟨v763, e765, hl764⟩ : ∃ v, F1 33 = v ∧ RdL Enc.devop w758 ([] ++ O) v (l) := ⟨_, rfl, hd 0 33 (by kernel_rfl) (by kernel_rfl)⟩
       have := hl764.len_le
       have hl764 := hl764.mv m1
       obtain ⟨F2, rfl⟩ := lit_of (F := F1) [(33, v763)] ⟨e765, trivial⟩
       refine sp_plain rfl ((o_callK (vs := [v763]) enter_56 (c_cloneD (O := B1_ ++ O) v763 l w1 hl764 (by first | omega | assumption | (simp; done)) s1.lt) rfl s1 fun v766 w767 s768 m769 k770 r771 => (?_)))
       obtain ⟨_, rfl, hv773, ho772⟩ := r771
       exact ⟨[], k770, noC, TOw.call k0.size (by have := s759.keep.size; have := k0.size; omega) (lt_of s1) hv773 ho772⟩
      ·intro F1 w1 B1_ Bs_ k1 hs_ hl_ hr_ hsep_ hf hd
       obtain ⟨F2, rfl⟩ := lit_of (F := F1) [(6, vI ((tw2 l o (fun x_ y_ => cmpM x_ y_) : Nat) : Int))] ⟨hf 6 (by kernel_rfl), trivial⟩
       exact sp_plain rfl ((o_move (vI ((tw2 l o (fun x_ y_ => cmpM x_ y_) : Nat) : Int)) rfl (⟨[], (Keep.refl _ _), noC, rfl⟩)))
      ·intro F1 w1 B1_ Bs_ k1 hs_ hl_ hr_ hsep_ hf hd
       have k0 := (Keep.drew [] w758).trans k1
       obtain ⟨F2, rfl⟩ := lit_of (F := F1) [(3, Value.pointer (some a691))] ⟨hf 3 (by kernel_rfl), trivial⟩
       refine sp_plain rfl ((o_loadSU Try.underlying40 rfl s_40 rfl hp696 k0 fun cs774 hs775 => (?_)))
       obtain rfl := hs775
       exact ⟨[], (Keep.refl _ _), noC, rfl⟩
      ·intro F1 w1 B1_ Bs_ k1 hs_ hl_ hr_ hsep_ hf hd
       have k0 := (Keep.drew [] w758).trans k1
       have s1 := s759.adoptL k0 hl_
       obtain ⟨F2, rfl⟩ := lit_of (F := F1) [(36, Value.agg #[vI o.device, vI o.no, vI o.kind, vI o.copy, vI o.to, vI o.token])] ⟨hd 3 36 (by kernel_rfl) (by kernel_rfl), trivial⟩
       refine sp_plain rfl ((o_litO (E := Enc.devop) (xs := [.tmp 36]) Try.underlying26 s_40 z_40 (by decide) [.agg #[vI o.device, vI o.no, vI o.kind, vI o.copy, vI o.to, vI o.token]] [[vI o.device, vI o.no, vI o.kind, vI o.copy, vI o.to, vI o.token]] [o] rfl rfl rfl (Parts.cons rfl rfl (Parts.nil _ _ _)) (of_decide_eq_true rfl) s1 fun v780 b782 w776 e783 hb784 s777 m778 k779 hl781 => (?_)))
       have lo785 : w758.heap.size ≤ b782 := by have := k0.size; omega
       have hi786 := (hl781.lt b782 hb784).2
       exact ⟨[], k779, noC, TOw.one hb784 lo785 (by intro h; have := lt_of s1 _ h; omega) hl781⟩
      intro F788 w789 Bs794 k787 hB795 hl796 sep797 hT790 hF791
      obtain ⟨v798, e799, hv800, ho801⟩ : ∃ v, F788 34 = v ∧ (TOw w758 w.heap.size O Enc.devop 40 (l)) (Bs794 1) v w789 := ⟨_, rfl, hT790 1 34 (by kernel_rfl) (by decide) (by kernel_rfl) (by kernel_rfl)⟩
      have hi802 : ∀ b, v798.ownBlock = some b → b < w789.heap.size := fun b hb => (ho801.lt b hb).2
      obtain ⟨v803, e804, hv805, ho806⟩ : ∃ v, F788 37 = v ∧ (TOw w758 w.heap.size O Enc.devop 40 ([o])) (Bs794 2) v w789 := ⟨_, rfl, hT790 4 37 (by kernel_rfl) (by decide) (by kernel_rfl) (by kernel_rfl)⟩
      have hi807 : ∀ b, v803.ownBlock = some b → b < w789.heap.size := fun b hb => (ho806.lt b hb).2
      have hl808 : ∀ x ∈ ([] : List Nat), x ∈ ([] : List Nat) ∨ (w758.heap.size ≤ x ∧ x < w789.heap.size) := fun x hx => .inl hx
      have hsu809 : ∀ x ∈ ([] : List Nat), x ∈ ([] : List Nat) := fun x hx => hx
      have hq810 : ∀ x ∈ ([] : List Nat), x ∈ Bs794 1 := fun x hx => hB795 1 x hx
      have hq811 : ∀ x ∈ ([] : List Nat), x ∈ Bs794 2 := fun x hx => hB795 2 x hx
      obtain ⟨B812, hBq813⟩ : ∃ B_, B_ = v798.ownBlock.toList ++ ([] : List Nat) := ⟨_, rfl⟩
      have hl814 : ∀ x ∈ B812, x ∈ ([] : List Nat) ∨ (w758.heap.size ≤ x ∧ x < w789.heap.size) := by rw [hBq813]; exact own_l hv800 hi802 hl808
      have hsu815 : ∀ x ∈ ([] : List Nat), x ∈ B812 := fun x hx => by rw [hBq813]; exact List.mem_append_right _ (hsu809 x hx)
      have hB816 : ∀ b, v798.ownBlock = some b → b ∈ B812 := fun b hb => by rw [hBq813]; exact List.mem_append_left _ (by simp [hb])
      have hq817 : ∀ x ∈ B812, x ∈ v798.ownBlock.toList ++ Bs794 1 := by rw [hBq813]; exact fun x hx => (List.mem_append.1 hx).elim (List.mem_append_left _) (fun h => List.mem_append_right _ (hq810 x h))
      have hq818 : ∀ x ∈ B812, x ∈ Bs794 2 := by rw [hBq813]; exact own_q hv800 hi802 (fun b h1 h2 h3 => sep797 1 2 b (by decide) h1 h2 h3) hq811
      obtain ⟨B819, hBq820⟩ : ∃ B_, B_ = v803.ownBlock.toList ++ B812 := ⟨_, rfl⟩
      have hl821 : ∀ x ∈ B819, x ∈ ([] : List Nat) ∨ (w758.heap.size ≤ x ∧ x < w789.heap.size) := by rw [hBq820]; exact own_l hv805 hi807 hl814
      have hsu822 : ∀ x ∈ ([] : List Nat), x ∈ B819 := fun x hx => by rw [hBq820]; exact List.mem_append_right _ (hsu815 x hx)
      have hB823 : ∀ b, v803.ownBlock = some b → b ∈ B819 := fun b hb => by rw [hBq820]; exact List.mem_append_left _ (by simp [hb])
      have hB824 : ∀ b, v798.ownBlock = some b → b ∈ B819 := fun b hb => by rw [hBq820]; exact List.mem_append_right _ (hB816 b hb)
      have hq825 : ∀ x ∈ B819, x ∈ v798.ownBlock.toList ++ Bs794 1 := by rw [hBq820]; exact own_q hv805 hi807 (fun b h1 h2 h3 => List.mem_append_right _ (sep797 2 1 b (by decide) h1 h2 h3)) hq817
      have hq826 : ∀ x ∈ B819, x ∈ v803.ownBlock.toList ++ Bs794 2 := by rw [hBq820]; exact fun x hx => (List.mem_append.1 hx).elim (List.mem_append_left _) (fun h => List.mem_append_right _ (hq818 x h))
      have s792 := s759.adoptL k787 hl821
      have ne827 : ∀ b, v798.ownBlock = some b → v803.ownBlock ≠ some b := fun b hb e => (hv805 b e).2 (sep797 1 2 b (by decide) (hv800 b hb).1 (hi802 b hb) (hv800 b hb).2)
      have ho801 : Own Enc.devop 40 w.heap.size (B819 ++ O) w789 v798 (l) := ho801.sub (fun x hx => .inl ((List.mem_append.1 hx).elim (fun hx => List.mem_append_left _ (hq825 x hx)) (fun h => List.mem_append_right _ h)))
      have ho806 : Own Enc.devop 40 w.heap.size (B819 ++ O) w789 v803 ([o]) := ho806.sub (fun x hx => .inl ((List.mem_append.1 hx).elim (fun hx => List.mem_append_left _ (hq826 x hx)) (fun h => List.mem_append_right _ h)))
      obtain ⟨F2, rfl⟩ := lit_of (F := F788) [(4, Value.slice none 0 0), (5, vI (0 : Int)), (39, undef), (34, v798), (35, vI ((tw2 l o (fun x_ y_ => cmpM x_ y_) : Nat) : Int)), (37, v803)] ⟨hF791 4 (by kernel_rfl), hF791 5 (by kernel_rfl), hF791 39 (by kernel_rfl), e799, hT790 2 35 (by kernel_rfl) (by decide) (by kernel_rfl) (by kernel_rfl), e804, trivial⟩
      clear hT790 hF791 hB795 hl796 sep797
      refine wl_s (o_callX [v798, vI ((tw2 l o (fun x_ y_ => cmpM x_ y_) : Nat) : Int), v803] enter_62 rfl (Calls.mono (c_insertD v798 v803 l ([o]) (tw2 l o (fun x_ y_ => cmpM x_ y_)) s792 ho801 ho806 hB824 hB823 ne827 (by simp) (tw2_le _ _ _) (by simp only [List.length_cons, List.length_nil]; omega) (by simp only [List.length_cons, List.length_nil, maxLen]; omega)) (fun e_ w837 hR_ => ?_)))
      obtain ⟨v828, B829, rfl, hB830, at831, sub832, s833, m834, k835, ho836⟩ := hR_
      refine both_r ?_
      have ne838 : ∀ b, v803.ownBlock = some b → v828.ownBlock ≠ some b := fun b hb e => (at831 b e).elim (fun e1 => ((fun b hb e => ne827 b e hb) b hb e1)) (fun e1 => by have := (ho806.lt b hb).2; omega)
      have hB823 : ∀ b, v803.ownBlock = some b → b ∈ B829 := fun b hb => sub832 b (hB823 b hb)
      refine wl_s (o_assign (v828) rfl (wl_s (o_assign (vI (0 : Int)) rfl (wl_nil (thenQ_n (?_))))))
      refine cw_ret (end_r rfl (res2 rfl rfl rfl rfl) (?_))
      have e839 : ((addM l o).1) = (l.take (tw2 l o (fun x_ y_ => cmpM x_ y_)) ++ ([o]) ++ l.drop (tw2 l o (fun x_ y_ => cmpM x_ y_))) := by first | exact congrArg (fun p => p.1) (show addM l o = _ from add_1 (by assumption)) | exact congrArg (fun p => p.1) (show addM l o = _ from add_2 (by assumption)) | exact congrArg (fun p => p.1) (show addM l o = _ from add_3 (by assumption) (by assumption) (by assumption)) | exact congrArg (fun p => p.1) (show addM l o = _ from add_4 (by assumption) (by assumption) (by assumption) (by assumption)) | exact congrArg (fun p => p.1) (show addM l o = _ from add_5 (by assumption) (by assumption) (by assumption) (by assumption) (by assumption)) | exact congrArg (fun p => p.1) (show addM l o = _ from add_6 (by assumption) (by assumption) (by assumption) (by assumption) (by assumption))
      have e840 : ((addM l o).2) = (0 : Int) := by first | exact congrArg (fun p => p.2) (show addM l o = _ from add_1 (by assumption)) | exact congrArg (fun p => p.2) (show addM l o = _ from add_2 (by assumption)) | exact congrArg (fun p => p.2) (show addM l o = _ from add_3 (by assumption) (by assumption) (by assumption)) | exact congrArg (fun p => p.2) (show addM l o = _ from add_4 (by assumption) (by assumption) (by assumption) (by assumption)) | exact congrArg (fun p => p.2) (show addM l o = _ from add_5 (by assumption) (by assumption) (by assumption) (by assumption) (by assumption)) | exact congrArg (fun p => p.2) (show addM l o = _ from add_6 (by assumption) (by assumption) (by assumption) (by assumption) (by assumption))
      exact ⟨_, rfl, s833.keep, by rw [e839, e840]; exact ⟨v828, rfl, ho836.pub s833⟩⟩
 ·have hp841 : checkM l ≠ (0 : Int) := by first | simpa using hb703 | (have e := hb703; simp at e; omega)
  refine wl_k rfl (wl_k rfl (wl_k rfl (wl_s (o_pickT (Value.bool true) rfl rfl (wl_nil (thenQ_n (?_)))))))
  refine cw_cond true rfl rfl (fun _ => ?_) (fun h => by cases h)
  refine cw_seq (?_)
  refine cw_region (by kernel_rfl) (wl_s (o_assign (Value.slice none 0 0) rfl (wl_s (o_assign (vI (420 : Int)) rfl (wl_nil (thenQ_n (?_)))))))
  refine cw_ret (thenQ_r (end_r rfl (res2 rfl rfl rfl rfl) (?_)))
  have e842 : ((addM l o).1) = ([]) := by first | exact congrArg (fun p => p.1) (show addM l o = _ from add_1 (by assumption)) | exact congrArg (fun p => p.1) (show addM l o = _ from add_2 (by assumption)) | exact congrArg (fun p => p.1) (show addM l o = _ from add_3 (by assumption) (by assumption) (by assumption)) | exact congrArg (fun p => p.1) (show addM l o = _ from add_4 (by assumption) (by assumption) (by assumption) (by assumption)) | exact congrArg (fun p => p.1) (show addM l o = _ from add_5 (by assumption) (by assumption) (by assumption) (by assumption) (by assumption)) | exact congrArg (fun p => p.1) (show addM l o = _ from add_6 (by assumption) (by assumption) (by assumption) (by assumption) (by assumption))
  have e843 : ((addM l o).2) = (420 : Int) := by first | exact congrArg (fun p => p.2) (show addM l o = _ from add_1 (by assumption)) | exact congrArg (fun p => p.2) (show addM l o = _ from add_2 (by assumption)) | exact congrArg (fun p => p.2) (show addM l o = _ from add_3 (by assumption) (by assumption) (by assumption)) | exact congrArg (fun p => p.2) (show addM l o = _ from add_4 (by assumption) (by assumption) (by assumption) (by assumption)) | exact congrArg (fun p => p.2) (show addM l o = _ from add_5 (by assumption) (by assumption) (by assumption) (by assumption) (by assumption)) | exact congrArg (fun p => p.2) (show addM l o = _ from add_6 (by assumption) (by assumption) (by assumption) (by assumption) (by assumption))
  exact ⟨_, rfl, s699.keep, by rw [e842, e843]; exact ⟨.slice none 0 0, rfl, RdL.nil _ _ _⟩⟩

end Go.Proofs.Ytjpniibleelgiaa
