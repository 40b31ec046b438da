/- Walks, printed by gen.py. -/
import Derived.Test.YtjpniibleelgiaaMrA
import Derived.Test.YtjpniibleelgiaaXq
set_option linter.unusedSimpArgs false
set_option linter.unusedVariables false
namespace Go.Proofs.Ytjpniibleelgiaa
open Go.Fw Go.RowKit

set_option maxHeartbeats 4000000 in
set_option maxRecDepth 100000 in
theorem c_sameD {O : List Nat} (x_cs : List Value) (x : Device) (y_cs : List Value) (y : Device) (w : World) (h_x : Enc.device.rd w O x_cs x) (h_y : Enc.device.rd w O y_cs y) (hO : ∀ b ∈ O, b < w.heap.size) : CallsK Try.prog 42 [.agg x_cs.toArray, .agg y_cs.toArray] w (fun v _ => v = .bool (x == y)) :=  by
 have h_x : Enc.device.rd w ([] ++ O) x_cs x := h_x
 have h_y : Enc.device.rd w ([] ++ O) y_cs y := h_y
 have s0 : St w O w [] := St.start hO
 refine callsK_of 31 Try.func42 rfl rfl (of_decide_eq_true rfl) (fun F0 => ?_)
 refine cw_seq (?_)
 refine cw_region (by kernel_rfl) (wl_s (o_boxR (E := Enc.device) (Value.agg x_cs.toArray) (x_cs) x rfl rfl h_x s0 fun a5675 w5676 s5677 m5678 k5679 hp5680 => (?_)))
 have h_y : Enc.device.rd w5676 ([] ++ O) y_cs (y) := Enc.mv Enc.device (x := y) h_y m5678
 refine wl_s (o_boxR (E := Enc.device) (Value.agg y_cs.toArray) (y_cs) y rfl rfl h_y s5677 fun a5681 w5682 s5683 m5684 k5685 hp5686 => (?_))
 have hp5680 := hp5680.mv m5684
 refine wl_s (o_assign (Value.bool false) rfl (wl_nil (thenQ_n (?_))))
 refine cw_seq (?_)
 refine cw_region (by kernel_rfl) (wl_s (o_fieldR 0 f_31_0 (x.id) rfl hp5680 (fun _ _ _ h => Enc_device_f0 h) fun a5687 hp5688 => (wl_s (o_loadI Try.underlying3 rfl rfl hp5688 (wl_s (o_fieldR 0 f_31_0 (y.id) rfl hp5686 (fun _ _ _ h => Enc_device_f0 h) fun a5689 hp5690 => (wl_s (o_loadI Try.underlying3 rfl rfl hp5690 (wl_s (o_eql .i64 x.id y.id rfl rfl (wl_s (o_move (Value.bool (x.id == y.id)) rfl (?_)))))))))))))
 cases hb5691 : (x.id == y.id)
 ·have hp5692 : x.id ≠ y.id := by first | simpa using hb5691 | (have e := hb5691; simp at e; omega)
  refine wl_k rfl (wl_k rfl (wl_k rfl (wl_k rfl (wl_k rfl (wl_s (o_pickF (Value.bool false) rfl rfl (wl_s (o_move (Value.bool false) rfl (wl_k rfl (wl_k rfl (wl_k rfl (wl_k rfl (wl_k rfl (wl_s (o_pickF (Value.bool false) rfl rfl (wl_s (o_move (Value.bool false) rfl (wl_k rfl (wl_k rfl (wl_k rfl (wl_k rfl (wl_k rfl (wl_s (o_pickF (Value.bool false) rfl rfl (wl_s (o_assign (Value.bool false) rfl (wl_nil (thenQ_n (?_)))))))))))))))))))))))))))))
  refine cw_ret (end_r rfl (res1 rfl rfl rfl) (?_))
  have e : (x == y) = false := by first | exact dev_ne1 (by assumption) | exact dev_ne2 (by assumption) | exact dev_ne3 (by assumption) | exact dev_eq (by assumption) (by assumption) (by assumption)
  exact ⟨_, rfl, s5683.keep, (by first | exact congrArg Value.bool e.symm | rfl)⟩
 ·have hp5693 : x.id = y.id := by first | simpa using hb5691 | (have e := hb5691; simp at e; omega)
  refine wl_t rfl (o_fieldR 1 f_31_1 (x.counter) rfl hp5680 (fun _ _ _ h => Enc_device_f1 h) fun a5694 hp5695 => (wl_t rfl (o_loadI Try.underlying3 rfl rfl hp5695 (wl_t rfl (o_fieldR 1 f_31_1 (y.counter) rfl hp5686 (fun _ _ _ h => Enc_device_f1 h) fun a5696 hp5697 => (wl_t rfl (o_loadI Try.underlying3 rfl rfl hp5697 (wl_t rfl (o_eql .i64 x.counter y.counter rfl rfl (wl_s (o_pickT (Value.bool (x.counter == y.counter)) rfl rfl (wl_s (o_move (Value.bool (x.counter == y.counter)) rfl (?_))))))))))))))
  cases hb5698 : (x.counter == y.counter)
  ·have hp5699 : x.counter ≠ y.counter := by first | simpa using hb5698 | (have e := hb5698; simp at e; omega)
   refine wl_k rfl (wl_k rfl (wl_k rfl (wl_k rfl (wl_k rfl (wl_s (o_pickF (Value.bool false) rfl rfl (wl_s (o_move (Value.bool false) rfl (wl_k rfl (wl_k rfl (wl_k rfl (wl_k rfl (wl_k rfl (wl_s (o_pickF (Value.bool false) rfl rfl (wl_s (o_assign (Value.bool false) rfl (wl_nil (thenQ_n (?_))))))))))))))))))))
   refine cw_ret (end_r rfl (res1 rfl rfl rfl) (?_))
   have e : (x == y) = false := by first | exact dev_ne1 (by assumption) | exact dev_ne2 (by assumption) | exact dev_ne3 (by assumption) | exact dev_eq (by assumption) (by assumption) (by assumption)
   exact ⟨_, rfl, s5683.keep, (by first | exact congrArg Value.bool e.symm | rfl)⟩
  ·have hp5700 : x.counter = y.counter := by first | simpa using hb5698 | (have e := hb5698; simp at e; omega)
   refine wl_t rfl (o_fieldR 3 f_31_3 (x.halted) rfl hp5680 (fun _ _ _ h => Enc_device_f3 h) fun a5701 hp5702 => (wl_t rfl (o_loadT Try.underlying4 rfl rfl hp5702 (wl_t rfl (o_fieldR 3 f_31_3 (y.halted) rfl hp5686 (fun _ _ _ h => Enc_device_f3 h) fun a5703 hp5704 => (wl_t rfl (o_loadT Try.underlying4 rfl rfl hp5704 (wl_t rfl (o_eqlB x.halted y.halted Try.underlying4 rfl rfl (wl_s (o_pickT (Value.bool (x.halted == y.halted)) rfl rfl (wl_s (o_move (Value.bool (x.halted == y.halted)) rfl (?_))))))))))))))
   cases hb5705 : (x.halted == y.halted)
   ·have hp5706 : x.halted ≠ y.halted := by first | simpa using hb5705 | (have e := hb5705; simp at e; omega)
    refine wl_k rfl (wl_k rfl (wl_k rfl (wl_k rfl (wl_k rfl (wl_s (o_pickF (Value.bool false) rfl rfl (wl_s (o_assign (Value.bool false) rfl (wl_nil (thenQ_n (?_)))))))))))
    refine cw_ret (end_r rfl (res1 rfl rfl rfl) (?_))
    have e : (x == y) = false := by first | exact dev_ne1 (by assumption) | exact dev_ne2 (by assumption) | exact dev_ne3 (by assumption) | exact dev_eq (by assumption) (by assumption) (by assumption)
    exact ⟨_, rfl, s5683.keep, (by first | exact congrArg Value.bool e.symm | rfl)⟩
   ·have hp5707 : x.halted = y.halted := by first | simpa using hb5705 | (have e := hb5705; simp at e; omega)
    refine wl_t rfl (o_fieldR 2 f_31_2 (x.ops) rfl hp5680 (fun _ _ _ h => Enc_device_f2 h) fun a5708 hp5709 => (wl_t rfl (o_loadL Try.underlying26 rfl rfl hp5709 fun v5710 hl5711 => (?_))))
    have := hl5711.len_le
    refine wl_t rfl (o_fieldR 2 f_31_2 (y.ops) rfl hp5686 (fun _ _ _ h => Enc_device_f2 h) fun a5712 hp5713 => (wl_t rfl (o_loadL Try.underlying26 rfl rfl hp5713 fun v5714 hl5715 => (?_))))
    have := hl5715.len_le
    refine wl_t rfl (o_callK (vs := [v5710, v5714]) enter_28 (c_same (O := [] ++ O) v5710 x.ops v5714 y.ops w5682 hl5711 hl5715 s5683.lt) rfl s5683 fun v5716 w5717 s5718 m5719 k5720 r5721 => (?_))
    obtain rfl := r5721
    refine wl_s (o_pickT (Value.bool (x.ops == y.ops)) rfl rfl (wl_s (o_assign (Value.bool (x.ops == y.ops)) rfl (wl_nil (thenQ_n (?_))))))
    refine cw_ret (end_r rfl (res1 rfl rfl rfl) (?_))
    have e : (x == y) = (x.ops == y.ops) := by first | exact dev_ne1 (by assumption) | exact dev_ne2 (by assumption) | exact dev_ne3 (by assumption) | exact dev_eq (by assumption) (by assumption) (by assumption)
    exact ⟨_, rfl, s5718.keep, (by first | exact congrArg Value.bool e.symm | rfl)⟩
set_option maxHeartbeats 4000000 in
set_option maxRecDepth 100000 in
theorem c_sameI43 {O : List Nat} (la_v : Value) (la : List Int) (lb_v : Value) (lb : List Int) (w : World) (h_la : RdL Enc.int w O la_v la) (h_lb : RdL Enc.int w O lb_v lb) (hO : ∀ b ∈ O, b < w.heap.size) : CallsK Try.prog 49 [la_v, lb_v] w (fun v _ => v = .bool (la == lb)) :=  by
 have lim_la := h_la.len_le
 have h_la : RdL Enc.int w ([] ++ O) la_v la := h_la
 have lim_lb := h_lb.len_le
 have h_lb : RdL Enc.int w ([] ++ O) lb_v lb := h_lb
 have s0 : St w O w [] := St.start hO
 refine callsK_of 26 Try.func49 rfl rfl (of_decide_eq_true rfl) (fun F0 => ?_)
 refine cw_seq (?_)
 refine cw_region (by kernel_rfl) (wl_s (o_assign (Value.bool false) rfl (wl_nil (thenQ_n (?_)))))
 refine cw_seq (?_)
 refine cw_seq (?_)
 refine cw_region (by kernel_rfl) (wl_s (o_move (la_v) rfl (wl_s (o_lenR Try.underlying27 rfl h_la (wl_s (o_move (lb_v) rfl (wl_s (o_lenR Try.underlying27 rfl h_lb (wl_s (o_neq .i64 (la.length : Int) (lb.length : Int) rfl rfl (wl_nil (thenQ_n (?_)))))))))))))
 refine cw_cond ((la.length : Int) != (lb.length : Int)) rfl rfl (fun hc5722 => ?_) (fun hc5722 => ?_)
 ·have hp5723 : (la.length : Int) ≠ (lb.length : Int) := by first | simpa using hc5722 | (have e := hc5722; simp at e; omega)
  refine cw_seq (?_)
  refine cw_region (by kernel_rfl) (wl_s (o_assign (Value.bool false) rfl (wl_nil (thenQ_n (?_)))))
  refine cw_ret (thenQ_r (end_r rfl (res1 rfl rfl rfl) (?_)))
  have e : (la == lb) = false := by first | exact same_len (by assumption) | exact same_at (k := k) (by assumption) | exact same_end (by assumption) hr0_1
  exact ⟨_, rfl, s0.keep, (by first | exact congrArg Value.bool e.symm | rfl)⟩
 ·have hp5724 : (la.length : Int) = (lb.length : Int) := by first | simpa using hc5722 | (have e := hc5722; simp at e; omega)
  refine cw_skip (thenQ_n (?_))
  refine cw_seq (?_)
  refine cw_seq (?_)
  refine cw_region (by kernel_rfl) (wl_s (o_assign (vI (0 : Int)) rfl (wl_nil (thenQ_n (?_)))))
  refine cw_block (?_)
  refine cw_loop (fun mI FI wI => ∃ (k : Nat) (B : List Nat), k ≤ la.length ∧ (∀ q, q < k → la[q]! = lb[q]!) ∧ mI = la.length - k ∧ (∃ F1, FI = upds F1 [(0, la_v), (1, lb_v), (5, vI ((k : Nat) : Int)), (26, undef)]) ∧ St w O wI B ∧ RdL Enc.int wI (B ++ O) (la_v) (la) ∧ RdL Enc.int wI (B ++ O) (lb_v) (lb)) (la.length - (0)) ?_ ?_
  ·exact ⟨(0), [], (by omega), (fun q hq => by omega), rfl, ⟨_, upds_self _ ⟨rfl, rfl, (by first | rfl | exact congrArg (Value.int _) (by first | omega | (simp))), rfl, trivial⟩⟩, s0, h_la, h_lb⟩
  ·intro ml0 F wl0 hI
   clear h_la h_lb
   obtain ⟨k, Bl0, hr0_0, hr0_1, hm0, ⟨Fl0, rfl⟩, sl0, h_la, h_lb⟩ := hI
   refine cw_seq (?_)
   refine cw_seq (?_)
   refine cw_region (by kernel_rfl) (wl_s (o_move (vI ((k : Nat) : Int)) rfl (wl_s (o_move (la_v) rfl (wl_s (o_lenR Try.underlying27 rfl h_la (wl_s (o_lss .i64 ((k : Nat) : Int) (la.length : Int) rfl rfl (wl_nil (thenQ_n (?_)))))))))))
   refine cw_cond (decide (((k : Nat) : Int) < (la.length : Int))) rfl rfl (fun hc5725 => ?_) (fun hc5725 => ?_)
   ·have hp5726 : ((k : Nat) : Int) < (la.length : Int) := by first | simpa using hc5725 | (have e := hc5725; simp at e; omega)
    refine cw_skip (thenQ_n (?_))
    refine cw_seq (?_)
    refine cw_block (?_)
    refine cw_seq (?_)
    refine cw_draw' 8 _ _ [fun (vT : Value) (wT : World) => RdL Enc.int wT (Bl0 ++ O) vT (la), isV (vI ((k : Nat) : Int)), fun (vT : Value) (wT : World) => ∃ aT, vT = .pointer (some aT) ∧ PT Enc.int wT (Bl0 ++ O) (.pointer (some aT)) (la[k]!), isV (vI (la[k]!)), fun (vT : Value) (wT : World) => RdL Enc.int wT (Bl0 ++ O) vT (lb), isV (vI ((k : Nat) : Int)), fun (vT : Value) (wT : World) => ∃ aT, vT = .pointer (some aT) ∧ PT Enc.int wT (Bl0 ++ O) (.pointer (some aT)) (lb[k]!), isV (vI (lb[k]!))] (by kernel_rfl) (by kernel_rfl) (by kernel_rfl) (by kernel_rfl) rfl rfl ⟨fun _ _ _ h k => h.mv (Mv.of_keep k), kI, fun _ _ _ ⟨a, e, h⟩ k => ⟨a, e, h.mv (Mv.of_keep k)⟩, kI, fun _ _ _ h k => h.mv (Mv.of_keep k), kI, fun _ _ _ ⟨a, e, h⟩ k => ⟨a, e, h.mv (Mv.of_keep k)⟩, kI, trivial⟩ ⟨?_, ?_, ?_, ?_, ?_, ?_, ?_, ?_, trivial⟩ ?_
    ·intro F1 w1 k1 hf hd
     have k0 := (Keep.drew [] wl0).trans k1
     have m1 : Mv Bl0 wl0 Bl0 w1 := Mv.of_keep k0
     have h_la := h_la.mv m1
     obtain ⟨F2, rfl⟩ := lit_of (F := F1) [(0, la_v)] ⟨hf 0 (by kernel_rfl), trivial⟩
     exact sp_plain rfl ((o_move (la_v) rfl (⟨(Keep.refl _ _), h_la⟩)))
    ·intro F1 w1 k1 hf hd
     obtain ⟨F2, rfl⟩ := lit_of (F := F1) [(5, vI ((k : Nat) : Int))] ⟨hf 5 (by kernel_rfl), trivial⟩
     exact sp_plain rfl ((o_move (vI ((k : Nat) : Int)) rfl (⟨(Keep.refl _ _), rfl⟩)))
    ·intro F1 w1 k1 hf hd
     obtain ⟨v5727, e5729, hl5728⟩ : ∃ v, F1 17 = v ∧ RdL Enc.int w1 (Bl0 ++ O) v (la) := ⟨_, rfl, hd 0 17 (by kernel_rfl)⟩
     have := hl5728.len_le
     obtain ⟨F2, rfl⟩ := lit_of (F := F1) [(17, v5727), (18, vI ((k : Nat) : Int))] ⟨e5729, hd 1 18 (by kernel_rfl), trivial⟩
     exact sp_plain rfl ((o_idx Try.underlying27 s_3 .i64 ((k : Nat) : Int) k rfl rfl rfl hl5728 (by omega) fun a5730 hp5731 => (⟨(Keep.refl _ _), ⟨a5730, rfl, hp5731⟩⟩)))
    ·intro F1 w1 k1 hf hd
     obtain ⟨a5732, e5734, hp5733⟩ : ∃ aX_, F1 19 = .pointer (some aX_) ∧ PT Enc.int w1 (Bl0 ++ O) (.pointer (some aX_)) (la[k]!) := hd 2 19 (by kernel_rfl)
     obtain ⟨F2, rfl⟩ := lit_of (F := F1) [(19, Value.pointer (some a5732))] ⟨e5734, trivial⟩
     exact sp_plain rfl ((o_loadI Try.underlying3 rfl rfl hp5733 (⟨(Keep.refl _ _), rfl⟩)))
    ·intro F1 w1 k1 hf hd
     have k0 := (Keep.drew [] wl0).trans k1
     have m1 : Mv Bl0 wl0 Bl0 w1 := Mv.of_keep k0
     have h_lb := h_lb.mv m1
     obtain ⟨F2, rfl⟩ := lit_of (F := F1) [(1, lb_v)] ⟨hf 1 (by kernel_rfl), trivial⟩
     exact sp_plain rfl ((o_move (lb_v) rfl (⟨(Keep.refl _ _), h_lb⟩)))
    ·intro F1 w1 k1 hf hd
     obtain ⟨F2, rfl⟩ := lit_of (F := F1) [(5, vI ((k : Nat) : Int))] ⟨hf 5 (by kernel_rfl), trivial⟩
     exact sp_plain rfl ((o_move (vI ((k : Nat) : Int)) rfl (⟨(Keep.refl _ _), rfl⟩)))
    ·intro F1 w1 k1 hf hd
     obtain ⟨v5735, e5737, hl5736⟩ : ∃ v, F1 21 = v ∧ RdL Enc.int w1 (Bl0 ++ O) v (lb) := ⟨_, rfl, hd 4 21 (by kernel_rfl)⟩
     have := hl5736.len_le
     obtain ⟨F2, rfl⟩ := lit_of (F := F1) [(21, v5735), (22, vI ((k : Nat) : Int))] ⟨e5737, hd 5 22 (by kernel_rfl), trivial⟩
     exact sp_plain rfl ((o_idx Try.underlying27 s_3 .i64 ((k : Nat) : Int) k rfl rfl rfl hl5736 (by omega) fun a5738 hp5739 => (⟨(Keep.refl _ _), ⟨a5738, rfl, hp5739⟩⟩)))
    ·intro F1 w1 k1 hf hd
     obtain ⟨a5740, e5742, hp5741⟩ : ∃ aX_, F1 23 = .pointer (some aX_) ∧ PT Enc.int w1 (Bl0 ++ O) (.pointer (some aX_)) (lb[k]!) := hd 6 23 (by kernel_rfl)
     obtain ⟨F2, rfl⟩ := lit_of (F := F1) [(23, Value.pointer (some a5740))] ⟨e5742, trivial⟩
     exact sp_plain rfl ((o_loadI Try.underlying3 rfl rfl hp5741 (⟨(Keep.refl _ _), rfl⟩)))
    intro F5744 w5745 k5743 hT5746 hF5747
    have s5748 := sl0.call k5743
    have m5749 : Mv Bl0 wl0 Bl0 w5745 := Mv.of_keep k5743
    have h_la := h_la.mv m5749
    have h_lb := h_lb.mv m5749
    obtain ⟨F2, rfl⟩ := lit_of (F := F5744) [(0, la_v), (1, lb_v), (5, vI ((k : Nat) : Int)), (26, undef), (20, vI (la[k]!)), (24, vI (lb[k]!))] ⟨hF5747 0 (by kernel_rfl), hF5747 1 (by kernel_rfl), hF5747 5 (by kernel_rfl), hF5747 26 (by kernel_rfl), hT5746 3 20 (by kernel_rfl) (by decide), hT5746 7 24 (by kernel_rfl) (by decide), trivial⟩
    clear hT5746 hF5747
    refine wl_s (o_neq .i64 (la[k]!) (lb[k]!) rfl rfl (wl_nil (thenQ_n (?_))))
    refine cw_cond ((la[k]!) != (lb[k]!)) rfl rfl (fun hc5752 => ?_) (fun hc5752 => ?_)
    ·have hp5753 : la[k]! ≠ lb[k]! := by first | simpa using hc5752 | (have e := hc5752; simp at e; omega)
     refine cw_seq (?_)
     refine cw_region (by kernel_rfl) (wl_s (o_assign (Value.bool false) rfl (wl_nil (thenQ_n (?_)))))
     refine cw_ret (blockQ_r (thenQ_r (thenQ_r (blockQ_r (thenQ_r (end_r rfl (res1 rfl rfl rfl) (?_)))))))
     have e : (la == lb) = false := by first | exact same_len (by assumption) | exact same_at (k := k) (by assumption) | exact same_end (by assumption) hr0_1
     exact ⟨_, rfl, s5748.keep, (by first | exact congrArg Value.bool e.symm | rfl)⟩
    ·have hp5754 : la[k]! = lb[k]! := by first | simpa using hc5752 | (have e := hc5752; simp at e; omega)
     refine cw_skip (blockQ_n (thenQ_n (?_)))
     refine cw_region (by kernel_rfl) (wl_s (o_move (vI ((k : Nat) : Int)) rfl (wl_s (o_add .i64 ((k : Nat) : Int) (1 : Int) (((k + 1 : Nat) : Int)) rfl rfl (w64 (by omega) (by omega)) (wl_s (o_assign (vI ((k + 1 : Nat) : Int)) rfl (wl_nil (thenQ_n (?_)))))))))
     exact ⟨_, (by omega), (k + 1), Bl0, (by omega), (eq_step hr0_1 (by assumption)), rfl, ⟨_, upds_self _ ⟨rfl, rfl, (by first | rfl | exact congrArg (Value.int _) (by first | omega | (simp))), rfl, trivial⟩⟩, s5748, h_la, h_lb⟩
   ·have hp5755 : (la.length : Int) ≤ ((k : Nat) : Int) := by first | simpa using hc5725 | (have e := hc5725; simp at e; omega)
    obtain rfl : k = la.length := by omega
    refine cw_exit (thenQ_x (thenQ_x (blockQ_x (thenQ_n (?_)))))
    refine cw_seq (?_)
    refine cw_region (by kernel_rfl) (wl_s (o_assign (Value.bool true) rfl (wl_nil (thenQ_n (?_)))))
    refine cw_ret (end_r rfl (res1 rfl rfl rfl) (?_))
    have e : (la == lb) = true := by first | exact same_len (by assumption) | exact same_at (k := k) (by assumption) | exact same_end (by assumption) hr0_1
    exact ⟨_, rfl, sl0.keep, (by first | exact congrArg Value.bool e.symm | rfl)⟩

end Go.Proofs.Ytjpniibleelgiaa
