/- Walks, printed by gen.py. -/
import Derived.Test.YtjpniibleelgiaaYk
import Derived.Test.YtjpniibleelgiaaYo
set_option linter.unusedSimpArgs false
set_option linter.unusedVariables false
namespace Go.Proofs.Ytjpniibleelgiaa
open Go.Fw Go.RowKit

set_option maxHeartbeats 4000000 in
set_option maxRecDepth 100000 in
theorem c_RollbackOthers {O : List Nat} (d_cs : List Value) (d : Device) (ac_cs : List Value) (ac : Step) (w : World) (h_d : Enc.device.rd w O d_cs d) (h_ac : Enc.step.rd w O ac_cs ac) (hO : ∀ b ∈ O, b < w.heap.size) : CallsK Try.prog 17 [.agg d_cs.toArray, .agg ac_cs.toArray] w (fun v _ => v = .bool (true)) :=  by
 have h_d : Enc.device.rd w ([] ++ O) d_cs d := h_d
 have h_ac : Enc.step.rd w ([] ++ O) ac_cs ac := h_ac
 have s0 : St w O w [] := St.start hO
 refine callsK_of 59 Try.func17 rfl rfl (of_decide_eq_true rfl) (fun F0 => ?_)
 refine cw_seq (?_)
 refine cw_region (by kernel_rfl) (wl_s (o_boxR (E := Enc.device) (Value.agg d_cs.toArray) (d_cs) d rfl rfl h_d s0 fun a7664 w7665 s7666 m7667 k7668 hp7669 => (?_)))
 have h_ac : Enc.step.rd w7665 ([] ++ O) ac_cs (ac) := Enc.mv Enc.step (x := ac) h_ac m7667
 refine wl_s (o_boxR (E := Enc.step) (Value.agg ac_cs.toArray) (ac_cs) ac rfl rfl h_ac s7666 fun a7670 w7671 s7672 m7673 k7674 hp7675 => (?_))
 have hp7669 := hp7669.mv m7673
 refine wl_s (o_assign (Value.bool false) rfl (wl_nil (thenQ_n (?_))))
 refine cw_seq (?_)
 refine cw_seq (?_)
 refine cw_region (by kernel_rfl) (wl_s (o_callK (vs := []) enter_39 (c_sane43 (O := [] ++ O) w7671 s7672.lt) rfl s7672 fun v7676 w7677 s7678 m7679 k7680 r7681 => (?_)))
 obtain rfl := r7681
 have hp7669 := hp7669.mv m7679
 have hp7675 := hp7675.mv m7679
 refine wl_s (o_not true rfl (wl_nil (thenQ_n (?_))))
 refine cw_cond false rfl rfl (fun h => by cases h) (fun _ => ?_)
 refine cw_skip (thenQ_n (?_))
 refine cw_seq (?_)
 refine cw_seq (?_)
 refine cw_region (by kernel_rfl) (wl_s (o_fieldR 2 f_31_2 (d.ops) rfl hp7669 (fun _ _ _ h => Enc_device_f2 h) fun a7682 hp7683 => (wl_s (o_loadL Try.underlying26 rfl rfl hp7683 fun v7684 hl7685 => (?_)))))
 have := hl7685.len_le
 refine wl_s (o_callK (vs := [v7684]) enter_26 (c_few (O := [] ++ O) v7684 d.ops w7677 hl7685 s7678.lt) rfl s7678 fun v7686 w7687 s7688 m7689 k7690 r7691 => (?_))
 obtain rfl := r7691
 have hp7669 := hp7669.mv m7689
 have hp7675 := hp7675.mv m7689
 refine wl_s (o_not (decide ((d.ops.length : Int) ≤ 40)) rfl (wl_nil (thenQ_n (?_))))
 refine cw_cond (!(decide ((d.ops.length : Int) ≤ 40))) rfl rfl (fun hc7692 => ?_) (fun hc7692 => ?_)
 ·have hp7693 : 40 < (d.ops.length : Int) := by first | simpa using hc7692 | (have e := hc7692; rw [Bool.not_eq_true'] at e; exact e) | (have e := hc7692; rw [Bool.not_eq_false'] at e; exact e) | (have e := hc7692; simp at e; omega)
  refine cw_seq (?_)
  refine cw_region (by kernel_rfl) (wl_s (o_assign (Value.bool true) rfl (wl_nil (thenQ_n (?_)))))
  refine cw_ret (thenQ_r (end_r rfl (res1 rfl rfl rfl) (?_)))
  exact ⟨_, rfl, s7688.keep, rfl⟩
 ·have hp7694 : (d.ops.length : Int) ≤ 40 := by first | simpa using hc7692 | (have e := hc7692; rw [Bool.not_eq_true'] at e; exact e) | (have e := hc7692; rw [Bool.not_eq_false'] at e; exact e) | (have e := hc7692; simp at e; omega)
  refine cw_skip (thenQ_n (?_))
  refine cw_seq (?_)
  refine cw_region (by kernel_rfl) (wl_s (o_loadS Try.underlying31 rfl s_31 rfl hp7669 fun cs7695 hs7696 => (wl_s (o_callK (vs := [Value.agg cs7695.toArray]) enter_44 (c_start (O := [] ++ O) cs7695 d w7687 hs7696 s7688.lt) rfl s7688 fun v7697 w7698 s7699 m7700 k7701 r7702 => (?_)))))
  obtain ⟨cs7703, rfl, hs7704⟩ := r7702
  have hp7669 := hp7669.mv m7700
  have hp7675 := hp7675.mv m7700
  refine wl_s (o_move (Value.tuple #[Value.agg cs7703.toArray, vI ((startM d).2)]) rfl (wl_s (o_extract (Value.agg cs7703.toArray) rfl rfl (wl_s (o_extract (vI ((startM d).2)) rfl rfl (wl_s (o_alloc [vI (0 : Int), vI (0 : Int), Value.slice none 0 0, Value.bool false] z_31 rfl s7699 fun b7705 w7706 e7711 s7707 m7708 k7709 bx7710 => (?_))))))))
  clear e7711
  have hp7669 := hp7669.mv m7708
  have hp7675 := hp7675.mv m7708
  have hs7704 : Enc.device.rd w7706 ((b7705 :: []) ++ O) cs7703 ((startM d).1) := Enc.mv Enc.device (x := (startM d).1) hs7704 m7708
  obtain ⟨d7717, rfl, hd7718⟩ := hs7704
  have := hd7718.len_le
  refine wl_n (o_store (vs := [vI (((startM d).1).id), vI (((startM d).1).counter), d7717, Value.bool (((startM d).1).halted)]) (.agg #[vI (((startM d).1).id), vI (((startM d).1).counter), d7717, Value.bool (((startM d).1).halted)]) rfl rfl rfl s_31 (fun u hu => by simp only [List.mem_cons, List.not_mem_nil, or_false] at hu; rcases hu with rfl | rfl | rfl | rfl <;> first | rfl | exact hd7718.oneCell) (by repeat (first | assumption | constructor)) bx7710 (of_decide_eq_true rfl) s7707 fun w7712 s7713 m7714 k7715 bx7716 => (?_))
  have hp7669 := hp7669.mv m7714
  have hp7675 := hp7675.mv m7714
  refine wl_s (o_assign (vI ((startM d).2)) rfl (wl_nil (thenQ_n (?_))))
  refine cw_cut (fun FI wI => ∃ (vrc33_7 : Value) (B : List Nat), True ∧ (∃ F1, FI = upds F1 [(2, Value.pointer (some a7664)), (6, vI ((startM d).2)), (7, vrc33_7), (8, vI ((addM d.ops (otherM (d.id % 4) ac)).2)), (59, undef)]) ∧ St w O wI B ∧ RdL Enc.devop wI (B ++ O) vrc33_7 ((addM d.ops (otherM (d.id % 4) ac)).1) ∧ PT Enc.device wI (B ++ O) (.pointer (some a7664)) (d)) ?_ ?_
  ·refine cw_draw' 12 _ _ [fun (vT : Value) (wT : World) => ∃ aT, vT = .pointer (some aT) ∧ PT (Enc.slice Enc.devop) wT ((b7705 :: []) ++ O) (.pointer (some aT)) (d.ops), fun (vT : Value) (wT : World) => RdL Enc.devop wT ((b7705 :: []) ++ O) vT (d.ops), fun (vT : Value) (wT : World) => ∃ aT, vT = .pointer (some aT) ∧ PT Enc.int wT ((b7705 :: []) ++ O) (.pointer (some aT)) (d.id), isV (vI d.id), isV (vI (d.id % 4)), fun (vT : Value) (wT : World) => ∃ csT : List Value, vT = .agg csT.toArray ∧ Enc.step.rd wT ((b7705 :: []) ++ O) csT (ac), isV (Value.agg #[vI ((otherM (d.id % 4) ac).device), vI ((otherM (d.id % 4) ac).no), vI ((otherM (d.id % 4) ac).kind), vI ((otherM (d.id % 4) ac).copy), vI ((otherM (d.id % 4) ac).to), vI ((otherM (d.id % 4) ac).token)]), fun (vT : Value) (wT : World) => ∃ (xT0 : Value), vT = .tuple #[xT0, vI ((addM d.ops (otherM (d.id % 4) ac)).2)] ∧ RdL Enc.devop wT ((b7705 :: []) ++ O) xT0 ((addM d.ops (otherM (d.id % 4) ac)).1), fun (vT : Value) (wT : World) => ∃ (xT0 : Value), vT = .tuple #[xT0, vI ((addM d.ops (otherM (d.id % 4) ac)).2)] ∧ RdL Enc.devop wT ((b7705 :: []) ++ O) xT0 ((addM d.ops (otherM (d.id % 4) ac)).1), fun (vT : Value) (wT : World) => RdL Enc.devop wT ((b7705 :: []) ++ O) vT ((addM d.ops (otherM (d.id % 4) ac)).1), isV (vI ((addM d.ops (otherM (d.id % 4) ac)).2)), fun (vT : Value) (wT : World) => RdL Enc.devop wT ((b7705 :: []) ++ O) vT ((addM d.ops (otherM (d.id % 4) ac)).1)] (by kernel_rfl) (by kernel_rfl) (by kernel_rfl) (by kernel_rfl) rfl rfl ⟨fun _ _ _ ⟨a, e, h⟩ k => ⟨a, e, h.mv (Mv.of_keep k)⟩, fun _ _ _ h k => h.mv (Mv.of_keep k), fun _ _ _ ⟨a, e, h⟩ k => ⟨a, e, h.mv (Mv.of_keep k)⟩, kI, kI, fun _ _ _ ⟨a, e, h⟩ k => ⟨a, e, Enc.mv _ h (Mv.of_keep k)⟩, kI, fun _ _ _ ⟨y0, e, h0⟩ k => ⟨y0, e, h0.mv (Mv.of_keep k)⟩, fun _ _ _ ⟨y0, e, h0⟩ k => ⟨y0, e, h0.mv (Mv.of_keep k)⟩, fun _ _ _ h k => h.mv (Mv.of_keep k), kI, fun _ _ _ h k => h.mv (Mv.of_keep k), trivial⟩ ⟨?_, ?_, ?_, ?_, ?_, ?_, ?_, ?_, ?_, ?_, ?_, ?_, trivial⟩ ?_
   ·intro F1 w1 k1 hf hd
    have k0 := (Keep.drew [] w7712).trans k1
    have m1 : Mv (b7705 :: []) w7712 (b7705 :: []) w1 := Mv.of_keep k0
    have hp7669 := hp7669.mv m1
    obtain ⟨F2, rfl⟩ := lit_of (F := F1) [(2, Value.pointer (some a7664))] ⟨hf 2 (by kernel_rfl), trivial⟩
    exact sp_plain rfl ((o_fieldR 2 f_31_2 (d.ops) rfl hp7669 (fun _ _ _ h => Enc_device_f2 h) fun a7719 hp7720 => (⟨(Keep.refl _ _), ⟨a7719, rfl, hp7720⟩⟩)))
   ·intro F1 w1 k1 hf hd
    obtain ⟨a7721, e7723, hp7722⟩ : ∃ aX_, F1 23 = .pointer (some aX_) ∧ PT (Enc.slice Enc.devop) w1 ((b7705 :: []) ++ O) (.pointer (some aX_)) (d.ops) := hd 0 23 (by kernel_rfl)
    obtain ⟨F2, rfl⟩ := lit_of (F := F1) [(23, Value.pointer (some a7721))] ⟨e7723, trivial⟩
    refine sp_plain rfl ((o_loadL Try.underlying26 rfl rfl hp7722 fun v7724 hl7725 => (?_)))
    have := hl7725.len_le
    exact ⟨(Keep.refl _ _), hl7725⟩
   ·intro F1 w1 k1 hf hd
    have k0 := (Keep.drew [] w7712).trans k1
    have m1 : Mv (b7705 :: []) w7712 (b7705 :: []) w1 := Mv.of_keep k0
    have hp7669 := hp7669.mv m1
    obtain ⟨F2, rfl⟩ := lit_of (F := F1) [(2, Value.pointer (some a7664))] ⟨hf 2 (by kernel_rfl), trivial⟩
    exact sp_plain rfl ((o_fieldR 0 f_31_0 (d.id) rfl hp7669 (fun _ _ _ h => Enc_device_f0 h) fun a7726 hp7727 => (⟨(Keep.refl _ _), ⟨a7726, rfl, hp7727⟩⟩)))
   ·intro F1 w1 k1 hf hd
    obtain ⟨a7728, e7730, hp7729⟩ : ∃ aX_, F1 25 = .pointer (some aX_) ∧ PT Enc.int w1 ((b7705 :: []) ++ O) (.pointer (some aX_)) (d.id) := hd 2 25 (by kernel_rfl)
    obtain ⟨F2, rfl⟩ := lit_of (F := F1) [(25, Value.pointer (some a7728))] ⟨e7730, trivial⟩
    exact sp_plain rfl ((o_loadI Try.underlying3 rfl rfl hp7729 (⟨(Keep.refl _ _), rfl⟩)))
   ·intro F1 w1 k1 hf hd
    obtain ⟨F2, rfl⟩ := lit_of (F := F1) [(26, vI d.id)] ⟨hd 3 26 (by kernel_rfl), trivial⟩
    exact sp_plain rfl ((o_and3 d.id rfl rfl (⟨(Keep.refl _ _), rfl⟩)))
   ·intro F1 w1 k1 hf hd
    have k0 := (Keep.drew [] w7712).trans k1
    have m1 : Mv (b7705 :: []) w7712 (b7705 :: []) w1 := Mv.of_keep k0
    have hp7675 := hp7675.mv m1
    obtain ⟨F2, rfl⟩ := lit_of (F := F1) [(3, Value.pointer (some a7670))] ⟨hf 3 (by kernel_rfl), trivial⟩
    exact sp_plain rfl ((o_loadS Try.underlying79 rfl s_79 rfl hp7675 fun cs7731 hs7732 => (⟨(Keep.refl _ _), ⟨cs7731, rfl, hs7732⟩⟩)))
   ·intro F1 w1 k1 hf hd
    have k0 := (Keep.drew [] w7712).trans k1
    have s1 := s7713.call k0
    obtain ⟨cs7733, e7735, hs7734⟩ : ∃ cs : List Value, F1 28 = .agg cs.toArray ∧ Enc.step.rd w1 ((b7705 :: []) ++ O) cs (ac) := hd 5 28 (by kernel_rfl)
    obtain ⟨F2, rfl⟩ := lit_of (F := F1) [(27, vI (d.id % 4)), (28, Value.agg cs7733.toArray)] ⟨hd 4 27 (by kernel_rfl), e7735, trivial⟩
    refine sp_plain rfl ((o_callK (vs := [vI (d.id % 4), Value.agg cs7733.toArray]) enter_53 (c_other (O := (b7705 :: []) ++ O) (d.id % 4) cs7733 ac w1 hs7734 (by omega) (by omega) s1.lt) rfl s1 fun v7736 w7737 s7738 m7739 k7740 r7741 => (?_)))
    obtain ⟨cs7742, rfl, hs7743⟩ := r7741
    obtain rfl := hs7743
    exact ⟨k7740, rfl⟩
   ·intro F1 w1 k1 hf hd
    have k0 := (Keep.drew [] w7712).trans k1
    have s1 := s7713.call k0
    obtain ⟨v7744, e7746, hl7745⟩ : ∃ v, F1 24 = v ∧ RdL Enc.devop w1 ((b7705 :: []) ++ O) v (d.ops) := ⟨_, rfl, hd 1 24 (by kernel_rfl)⟩
    have := hl7745.len_le
    obtain ⟨F2, rfl⟩ := lit_of (F := F1) [(24, v7744), (29, Value.agg #[vI ((otherM (d.id % 4) ac).device), vI ((otherM (d.id % 4) ac).no), vI ((otherM (d.id % 4) ac).kind), vI ((otherM (d.id % 4) ac).copy), vI ((otherM (d.id % 4) ac).to), vI ((otherM (d.id % 4) ac).token)])] ⟨e7746, hd 6 29 (by kernel_rfl), trivial⟩
    refine sp_plain rfl ((o_callK (vs := [v7744, Value.agg #[vI ((otherM (d.id % 4) ac).device), vI ((otherM (d.id % 4) ac).no), vI ((otherM (d.id % 4) ac).kind), vI ((otherM (d.id % 4) ac).copy), vI ((otherM (d.id % 4) ac).to), vI ((otherM (d.id % 4) ac).token)]]) enter_23 (c_add (O := (b7705 :: []) ++ O) v7744 d.ops [vI ((otherM (d.id % 4) ac).device), vI ((otherM (d.id % 4) ac).no), vI ((otherM (d.id % 4) ac).kind), vI ((otherM (d.id % 4) ac).copy), vI ((otherM (d.id % 4) ac).to), vI ((otherM (d.id % 4) ac).token)] (otherM (d.id % 4) ac) w1 hl7745 rfl s1.lt) rfl s1 fun v7747 w7748 s7749 m7750 k7751 r7752 => (?_)))
    obtain ⟨x7753, rfl, hl7754⟩ := r7752
    have := hl7754.len_le
    exact ⟨k7751, ⟨x7753, rfl, hl7754⟩⟩
   ·intro F1 w1 k1 hf hd
    obtain ⟨x7755, e7757, hl7756⟩ : (fun (vT : Value) (wT : World) => ∃ (xT0 : Value), vT = .tuple #[xT0, vI ((addM d.ops (otherM (d.id % 4) ac)).2)] ∧ RdL Enc.devop wT ((b7705 :: []) ++ O) xT0 ((addM d.ops (otherM (d.id % 4) ac)).1)) (F1 30) w1 := hd 7 30 (by kernel_rfl)
    have := hl7756.len_le
    obtain ⟨F2, rfl⟩ := lit_of (F := F1) [(30, Value.tuple #[x7755, vI ((addM d.ops (otherM (d.id % 4) ac)).2)])] ⟨e7757, trivial⟩
    exact sp_plain rfl ((o_move (Value.tuple #[x7755, vI ((addM d.ops (otherM (d.id % 4) ac)).2)]) rfl (⟨(Keep.refl _ _), ⟨x7755, rfl, hl7756⟩⟩)))
   ·intro F1 w1 k1 hf hd
    obtain ⟨x7758, e7760, hl7759⟩ : (fun (vT : Value) (wT : World) => ∃ (xT0 : Value), vT = .tuple #[xT0, vI ((addM d.ops (otherM (d.id % 4) ac)).2)] ∧ RdL Enc.devop wT ((b7705 :: []) ++ O) xT0 ((addM d.ops (otherM (d.id % 4) ac)).1)) (F1 22) w1 := hd 8 22 (by kernel_rfl)
    have := hl7759.len_le
    obtain ⟨F2, rfl⟩ := lit_of (F := F1) [(22, Value.tuple #[x7758, vI ((addM d.ops (otherM (d.id % 4) ac)).2)])] ⟨e7760, trivial⟩
    exact sp_plain rfl ((o_extract (x7758) rfl rfl (⟨(Keep.refl _ _), hl7759⟩)))
   ·intro F1 w1 k1 hf hd
    obtain ⟨x7761, e7763, hl7762⟩ : (fun (vT : Value) (wT : World) => ∃ (xT0 : Value), vT = .tuple #[xT0, vI ((addM d.ops (otherM (d.id % 4) ac)).2)] ∧ RdL Enc.devop wT ((b7705 :: []) ++ O) xT0 ((addM d.ops (otherM (d.id % 4) ac)).1)) (F1 22) w1 := hd 8 22 (by kernel_rfl)
    have := hl7762.len_le
    obtain ⟨F2, rfl⟩ := lit_of (F := F1) [(22, Value.tuple #[x7761, vI ((addM d.ops (otherM (d.id % 4) ac)).2)])] ⟨e7763, trivial⟩
    exact sp_plain rfl ((o_extract (vI ((addM d.ops (otherM (d.id % 4) ac)).2)) rfl rfl (⟨(Keep.refl _ _), rfl⟩)))
   ·intro F1 w1 k1 hf hd
    obtain ⟨v7764, e7766, hl7765⟩ : ∃ v, F1 31 = v ∧ RdL Enc.devop w1 ((b7705 :: []) ++ O) v ((addM d.ops (otherM (d.id % 4) ac)).1) := ⟨_, rfl, hd 9 31 (by kernel_rfl)⟩
    have := hl7765.len_le
    obtain ⟨F2, rfl⟩ := lit_of (F := F1) [(31, v7764)] ⟨e7766, trivial⟩
    exact sp_plain rfl ((o_assign (v7764) rfl (⟨(Keep.refl _ _), hl7765⟩)))
   intro F7768 w7769 k7767 hT7770 hF7771
   have s7772 := s7713.call k7767
   have m7773 : Mv (b7705 :: []) w7712 (b7705 :: []) w7769 := Mv.of_keep k7767
   have hp7669 := hp7669.mv m7773
   obtain ⟨v7776, e7778, hl7777⟩ : ∃ v, F7768 7 = v ∧ RdL Enc.devop w7769 ((b7705 :: []) ++ O) v ((addM d.ops (otherM (d.id % 4) ac)).1) := ⟨_, rfl, hT7770 11 7 (by kernel_rfl) (by decide)⟩
   have := hl7777.len_le
   obtain ⟨F2, rfl⟩ := lit_of (F := F7768) [(2, Value.pointer (some a7664)), (6, vI ((startM d).2)), (59, undef), (7, v7776), (32, vI ((addM d.ops (otherM (d.id % 4) ac)).2))] ⟨hF7771 2 (by kernel_rfl), hF7771 6 (by kernel_rfl), hF7771 59 (by kernel_rfl), e7778, hT7770 10 32 (by kernel_rfl) (by decide), trivial⟩
   clear hT7770 hF7771
   refine wl_s (o_assign (vI ((addM d.ops (otherM (d.id % 4) ac)).2)) rfl (wl_nil (thenQ_n (?_))))
   exact ⟨v7776, (b7705 :: []), trivial, ⟨_, upds_self _ ⟨rfl, rfl, rfl, rfl, rfl, trivial⟩⟩, s7772, hl7777, hp7669⟩
  ·intro F wlc33 hI
   clear hp7669
   obtain ⟨vrc33_7, Blc33, hmc33, ⟨Flc33, rfl⟩, slc33, hrdc33_7, hp7669⟩ := hI
   have := hrdc33_7.len_le
   refine cw_seq (?_)
   refine cw_seq (?_)
   refine cw_region (by kernel_rfl) (wl_s (o_move (vI ((startM d).2)) rfl (wl_s (o_eql .i64 ((startM d).2) (420 : Int) rfl rfl (wl_s (o_move (Value.bool (((startM d).2) == (420 : Int))) rfl (?_)))))))
   cases hb7779 : (((startM d).2) == (420 : Int))
   ·have hp7780 : (startM d).2 ≠ (420 : Int) := by first | simpa using hb7779 | (have e := hb7779; simp at e; omega)
    refine wl_t rfl (o_move (vI ((addM d.ops (otherM (d.id % 4) ac)).2)) rfl (wl_t rfl (o_neq .i64 ((addM d.ops (otherM (d.id % 4) ac)).2) (0 : Int) rfl rfl (wl_s (o_pickF (Value.bool (((addM d.ops (otherM (d.id % 4) ac)).2) != (0 : Int))) rfl rfl (wl_s (o_move (Value.bool (((addM d.ops (otherM (d.id % 4) ac)).2) != (0 : Int))) rfl (?_))))))))
    cases hb7781 : (((addM d.ops (otherM (d.id % 4) ac)).2) != (0 : Int))
    ·have hp7782 : (addM d.ops (otherM (d.id % 4) ac)).2 = (0 : Int) := by first | simpa using hb7781 | (have e := hb7781; simp at e; omega)
     refine wl_t rfl (o_fieldR 0 f_31_0 (d.id) rfl hp7669 (fun _ _ _ h => Enc_device_f0 h) fun a7783 hp7784 => (wl_t rfl (o_loadI Try.underlying3 rfl rfl hp7784 (wl_t rfl (o_lss .i64 d.id (0 : Int) rfl rfl (wl_s (o_pickF (Value.bool (decide (d.id < (0 : Int)))) rfl rfl (wl_s (o_move (Value.bool (decide (d.id < (0 : Int)))) rfl (?_))))))))))
     cases hb7785 : (decide (d.id < (0 : Int)))
     ·have hp7786 : (0 : Int) ≤ d.id := by first | simpa using hb7785 | (have e := hb7785; simp at e; omega)
      refine wl_t rfl (o_fieldR 0 f_31_0 (d.id) rfl hp7669 (fun _ _ _ h => Enc_device_f0 h) fun a7787 hp7788 => (wl_t rfl (o_loadI Try.underlying3 rfl rfl hp7788 (wl_t rfl (o_gtr .i64 d.id (3 : Int) rfl rfl (wl_s (o_pickF (Value.bool (decide ((3 : Int) < d.id))) rfl rfl (wl_nil (thenQ_n (?_))))))))))
      refine cw_cond (decide ((3 : Int) < d.id)) rfl rfl (fun hc7789 => ?_) (fun hc7789 => ?_)
      ·have hp7790 : (3 : Int) < d.id := by first | simpa using hc7789 | (have e := hc7789; simp at e; omega)
       refine cw_seq (?_)
       refine cw_region (by kernel_rfl) (wl_s (o_assign (Value.bool true) rfl (wl_nil (thenQ_n (?_)))))
       refine cw_ret (thenQ_r (end_r rfl (res1 rfl rfl rfl) (?_)))
       exact ⟨_, rfl, slc33.keep, rfl⟩
      ·have hp7791 : d.id ≤ (3 : Int) := by first | simpa using hc7789 | (have e := hc7789; simp at e; omega)
       refine cw_skip (thenQ_n (?_))
       refine cw_seq (?_)
       refine cw_region (by kernel_rfl) (wl_s (o_loadS Try.underlying31 rfl s_31 rfl hp7669 fun cs7792 hs7793 => (wl_s (o_move (vrc33_7) rfl (wl_s (o_callK (vs := [Value.agg cs7792.toArray, vrc33_7]) enter_47 (c_restore (O := Blc33 ++ O) cs7792 d vrc33_7 ((addM d.ops (otherM (d.id % 4) ac)).1) wlc33 hs7793 hrdc33_7 (by have := (add_ok (l := d.ops) (o := otherM (d.id % 4) ac) (by assumption)).2.2.1.1; omega) slc33.lt) rfl slc33 fun v7794 w7795 s7796 m7797 k7798 r7799 => (?_)))))))
       obtain ⟨cs7800, rfl, hs7801⟩ := r7799
       refine wl_s (o_callK (vs := [Value.agg cs7800.toArray]) enter_44 (c_start (O := Blc33 ++ O) cs7800 (restoreM d ((addM d.ops (otherM (d.id % 4) ac)).1)) w7795 hs7801 s7796.lt) rfl s7796 fun v7802 w7803 s7804 m7805 k7806 r7807 => (?_))
       obtain ⟨cs7808, rfl, hs7809⟩ := r7807
       refine wl_s (o_move (Value.tuple #[Value.agg cs7808.toArray, vI ((startM (restoreM d ((addM d.ops (otherM (d.id % 4) ac)).1))).2)]) rfl (wl_s (o_extract (Value.agg cs7808.toArray) rfl rfl (wl_s (o_extract (vI ((startM (restoreM d ((addM d.ops (otherM (d.id % 4) ac)).1))).2)) rfl rfl (wl_s (o_alloc [vI (0 : Int), vI (0 : Int), Value.slice none 0 0, Value.bool false] z_31 rfl s7804 fun b7810 w7811 e7816 s7812 m7813 k7814 bx7815 => (?_))))))))
       clear e7816
       have hs7809 : Enc.device.rd w7811 ((b7810 :: Blc33) ++ O) cs7808 ((startM (restoreM d ((addM d.ops (otherM (d.id % 4) ac)).1))).1) := Enc.mv Enc.device (x := (startM (restoreM d ((addM d.ops (otherM (d.id % 4) ac)).1))).1) hs7809 m7813
       obtain ⟨d7822, rfl, hd7823⟩ := hs7809
       have := hd7823.len_le
       refine wl_n (o_store (vs := [vI (((startM (restoreM d ((addM d.ops (otherM (d.id % 4) ac)).1))).1).id), vI (((startM (restoreM d ((addM d.ops (otherM (d.id % 4) ac)).1))).1).counter), d7822, Value.bool (((startM (restoreM d ((addM d.ops (otherM (d.id % 4) ac)).1))).1).halted)]) (.agg #[vI (((startM (restoreM d ((addM d.ops (otherM (d.id % 4) ac)).1))).1).id), vI (((startM (restoreM d ((addM d.ops (otherM (d.id % 4) ac)).1))).1).counter), d7822, Value.bool (((startM (restoreM d ((addM d.ops (otherM (d.id % 4) ac)).1))).1).halted)]) rfl rfl rfl s_31 (fun u hu => by simp only [List.mem_cons, List.not_mem_nil, or_false] at hu; rcases hu with rfl | rfl | rfl | rfl <;> first | rfl | exact hd7823.oneCell) (by repeat (first | assumption | constructor)) bx7815 (of_decide_eq_true rfl) s7812 fun w7817 s7818 m7819 k7820 bx7821 => (?_))
       refine wl_s (o_assign (vI ((startM (restoreM d ((addM d.ops (otherM (d.id % 4) ac)).1))).2)) rfl (wl_nil (thenQ_n (?_))))
       refine cw_seq (?_)
       refine cw_region (by kernel_rfl) (wl_s (o_move (vI ((startM (restoreM d ((addM d.ops (otherM (d.id % 4) ac)).1))).2)) rfl (wl_s (o_move (vI ((startM d).2)) rfl (wl_s (o_eql .i64 ((startM (restoreM d ((addM d.ops (otherM (d.id % 4) ac)).1))).2) ((startM d).2) rfl rfl (wl_s (o_assign (Value.bool (((startM (restoreM d ((addM d.ops (otherM (d.id % 4) ac)).1))).2) == ((startM d).2))) rfl (wl_nil (thenQ_n (?_)))))))))))
       refine cw_ret (end_r rfl (res1 rfl rfl rfl) (?_))
       have e : true = (((startM (restoreM d ((addM d.ops (otherM (d.id % 4) ac)).1))).2) == ((startM d).2)) := by first | rfl | exact (beq_iff_eq.2 (others_eq (by assumption) (by assumption) (by assumption))).symm
       exact ⟨_, rfl, s7818.keep, (by first | exact congrArg Value.bool e.symm | rfl)⟩
     ·have hp7824 : d.id < (0 : Int) := by first | simpa using hb7785 | (have e := hb7785; simp at e; omega)
      refine wl_k rfl (wl_k rfl (wl_k rfl (wl_s (o_pickT (Value.bool true) rfl rfl (wl_nil (thenQ_n (?_)))))))
      refine cw_cond true rfl rfl (fun _ => ?_) (fun h => by cases h)
      refine cw_seq (?_)
      refine cw_region (by kernel_rfl) (wl_s (o_assign (Value.bool true) rfl (wl_nil (thenQ_n (?_)))))
      refine cw_ret (thenQ_r (end_r rfl (res1 rfl rfl rfl) (?_)))
      exact ⟨_, rfl, slc33.keep, rfl⟩
    ·have hp7825 : (addM d.ops (otherM (d.id % 4) ac)).2 ≠ (0 : Int) := by first | simpa using hb7781 | (have e := hb7781; simp at e; omega)
     refine wl_k rfl (wl_k rfl (wl_k rfl (wl_s (o_pickT (Value.bool true) rfl rfl (wl_s (o_move (Value.bool true) rfl (wl_k rfl (wl_k rfl (wl_k rfl (wl_s (o_pickT (Value.bool true) rfl rfl (wl_nil (thenQ_n (?_))))))))))))))
     refine cw_cond true rfl rfl (fun _ => ?_) (fun h => by cases h)
     refine cw_seq (?_)
     refine cw_region (by kernel_rfl) (wl_s (o_assign (Value.bool true) rfl (wl_nil (thenQ_n (?_)))))
     refine cw_ret (thenQ_r (end_r rfl (res1 rfl rfl rfl) (?_)))
     exact ⟨_, rfl, slc33.keep, rfl⟩
   ·have hp7826 : (startM d).2 = (420 : Int) := by first | simpa using hb7779 | (have e := hb7779; simp at e; omega)
    refine wl_k rfl (wl_k rfl (wl_s (o_pickT (Value.bool true) rfl rfl (wl_s (o_move (Value.bool true) rfl (wl_k rfl (wl_k rfl (wl_k rfl (wl_s (o_pickT (Value.bool true) rfl rfl (wl_s (o_move (Value.bool true) rfl (wl_k rfl (wl_k rfl (wl_k rfl (wl_s (o_pickT (Value.bool true) rfl rfl (wl_nil (thenQ_n (?_))))))))))))))))))))
    refine cw_cond true rfl rfl (fun _ => ?_) (fun h => by cases h)
    refine cw_seq (?_)
    refine cw_region (by kernel_rfl) (wl_s (o_assign (Value.bool true) rfl (wl_nil (thenQ_n (?_)))))
    refine cw_ret (thenQ_r (end_r rfl (res1 rfl rfl rfl) (?_)))
    exact ⟨_, rfl, slc33.keep, rfl⟩

end Go.Proofs.Ytjpniibleelgiaa
