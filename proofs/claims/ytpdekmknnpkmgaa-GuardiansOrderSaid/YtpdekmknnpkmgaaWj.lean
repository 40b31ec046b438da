/- Walks, printed by gen.py. -/
import Derived.Test.YtpdekmknnpkmgaaWc
import Derived.Test.YtpdekmknnpkmgaaMgB
set_option linter.unusedSimpArgs false
set_option linter.unusedVariables false
namespace Go.Proofs.Ytpdekmknnpkmgaa
open Go.Fw Go.RowKit

set_option maxHeartbeats 4000000 in
set_option maxRecDepth 100000 in
theorem c_sameI {O : List Nat} (la_v : Value) (la : List Int) (lb_v : Value) (lb : List Int) (w : World) (h_la : RdL Enc.int w O la_v la) (h_lb : RdL Enc.int w O lb_v lb) (hO : ∀ b ∈ O, b < w.heap.size) : CallsK Try.prog 28 [la_v, lb_v] w (fun v _ => v = .bool (sameIM la lb)) :=  by
 have lim_la := h_la.len_le
 have h_la : RdL Enc.int w ([] ++ O) la_v la := h_la
 have lim_lb := h_lb.len_le
 have h_lb : RdL Enc.int w ([] ++ O) lb_v lb := h_lb
 have s0 : St w O w [] := St.start hO
 refine callsK_of 26 Try.func28 rfl rfl (of_decide_eq_true rfl) (fun F0 => ?_)
 refine cw_seq (?_)
 refine cw_region (by kernel_rfl) (wl_s (o_assign (Value.bool false) rfl (wl_nil (thenQ_n (?_)))))
 refine cw_seq (?_)
 refine cw_seq (?_)
 refine cw_region (by kernel_rfl) (wl_s (o_move (la_v) rfl (wl_s (o_lenR Try.underlying22 rfl h_la (wl_s (o_move (lb_v) rfl (wl_s (o_lenR Try.underlying22 rfl h_lb (wl_s (o_neq .i64 (la.length : Int) (lb.length : Int) rfl rfl (wl_nil (thenQ_n (?_)))))))))))))
 refine cw_cond ((la.length : Int) != (lb.length : Int)) rfl rfl (fun hc3819 => ?_) (fun hc3819 => ?_)
 ·have hp3820 : (la.length : Int) ≠ (lb.length : Int) := by first | simpa using hc3819 | (have e := hc3819; simp at e; omega)
  refine cw_seq (?_)
  refine cw_region (by kernel_rfl) (wl_s (o_assign (Value.bool false) rfl (wl_nil (thenQ_n (?_)))))
  refine cw_ret (thenQ_r (end_r rfl (res1 rfl rfl rfl) (?_)))
  have e : (sameIM la lb) = false := by first | (rw [hr0_1]; exact scan_some (by omega) (by ((repeat (first | (refine (if_pos ?_).trans ?_; solve | omega | assumption | (simp only [dbs]; first | done | (repeat (first | omega | assumption | (right; first | omega | assumption | (constructor <;> first | omega | assumption)) | left))) | (rw [Bool.not_eq_true]; simp only [dbs]; first | done | omega | assumption | ((repeat' apply And.intro) <;> first | omega | assumption)) | (simp only [*, dbs]; done)) | (refine (if_neg ?_).trans ?_; solve | omega | assumption | (simp only [dbs]; first | done | (repeat (first | omega | assumption | (right; first | omega | assumption | (constructor <;> first | omega | assumption)) | left))) | (rw [Bool.not_eq_true]; simp only [dbs]; first | done | omega | assumption | ((repeat' apply And.intro) <;> first | omega | assumption)) | (simp only [*, dbs]; done)))); rfl))) | (rw [hr0_1]; exact scan_end (by omega)) | (unfold sameIM; ((repeat (first | (refine (if_pos ?_).trans ?_; solve | omega | assumption | (simp only [dbs]; first | done | (repeat (first | omega | assumption | (right; first | omega | assumption | (constructor <;> first | omega | assumption)) | left))) | (rw [Bool.not_eq_true]; simp only [dbs]; first | done | omega | assumption | ((repeat' apply And.intro) <;> first | omega | assumption)) | (simp only [*, dbs]; done)) | (refine (if_neg ?_).trans ?_; solve | omega | assumption | (simp only [dbs]; first | done | (repeat (first | omega | assumption | (right; first | omega | assumption | (constructor <;> first | omega | assumption)) | left))) | (rw [Bool.not_eq_true]; simp only [dbs]; first | done | omega | assumption | ((repeat' apply And.intro) <;> first | omega | assumption)) | (simp only [*, dbs]; done)))); rfl))
  exact ⟨_, rfl, s0.keep, by rw [e]; exact rfl⟩
 ·have hp3821 : (la.length : Int) = (lb.length : Int) := by first | simpa using hc3819 | (have e := hc3819; simp at e; omega)
  refine cw_skip (thenQ_n (?_))
  refine cw_seq (?_)
  refine cw_seq (?_)
  refine cw_region (by kernel_rfl) (wl_s (o_assign (vI (0 : Int)) rfl (wl_nil (thenQ_n (?_)))))
  refine cw_block (?_)
  refine cw_loop (fun mI FI wI => ∃ (k : Nat) (B : List Nat), k ≤ la.length ∧ sameIM la lb = scan (fun k => if la[k]! != lb[k]! then some false else none) true k (la.length - k) ∧ mI = la.length - k ∧ (∃ F1, FI = upds F1 [(0, la_v), (1, lb_v), (5, vI ((k : Nat) : Int)), (26, undef)]) ∧ St w O wI B ∧ RdL Enc.int wI (B ++ O) (la_v) (la) ∧ RdL Enc.int wI (B ++ O) (lb_v) (lb)) (la.length - (0)) ?_ ?_
  ·exact ⟨(0), [], (by first | omega | (simp; done) | (simp; omega) | simp_all), (by unfold sameIM; ((repeat (first | (refine (if_pos ?_).trans ?_; solve | omega | assumption | (simp only [dbs]; first | done | (repeat (first | omega | assumption | (right; first | omega | assumption | (constructor <;> first | omega | assumption)) | left))) | (rw [Bool.not_eq_true]; simp only [dbs]; first | done | omega | assumption | ((repeat' apply And.intro) <;> first | omega | assumption)) | (simp only [*, dbs]; done)) | (refine (if_neg ?_).trans ?_; solve | omega | assumption | (simp only [dbs]; first | done | (repeat (first | omega | assumption | (right; first | omega | assumption | (constructor <;> first | omega | assumption)) | left))) | (rw [Bool.not_eq_true]; simp only [dbs]; first | done | omega | assumption | ((repeat' apply And.intro) <;> first | omega | assumption)) | (simp only [*, dbs]; done)))); rfl)), rfl, ⟨_, upds_self _ ⟨rfl, rfl, (by first | rfl | exact congrArg (Value.int _) (by first | omega | (simp))), rfl, trivial⟩⟩, s0, h_la, h_lb⟩
  ·intro ml0 F wl0 hI
   clear h_la h_lb
   obtain ⟨k, Bl0, hr0_0, hr0_1, hm0, ⟨Fl0, rfl⟩, sl0, h_la, h_lb⟩ := hI
   refine cw_seq (?_)
   refine cw_seq (?_)
   refine cw_region (by kernel_rfl) (wl_s (o_move (vI ((k : Nat) : Int)) rfl (wl_s (o_move (la_v) rfl (wl_s (o_lenR Try.underlying22 rfl h_la (wl_s (o_lss .i64 ((k : Nat) : Int) (la.length : Int) rfl rfl (wl_nil (thenQ_n (?_)))))))))))
   refine cw_cond (decide (((k : Nat) : Int) < (la.length : Int))) rfl rfl (fun hc3822 => ?_) (fun hc3822 => ?_)
   ·have hp3823 : ((k : Nat) : Int) < (la.length : Int) := by first | simpa using hc3822 | (have e := hc3822; simp at e; omega)
    refine cw_skip (thenQ_n (?_))
    refine cw_seq (?_)
    refine cw_block (?_)
    refine cw_seq (?_)
    refine cw_draw' 8 _ _ [fun (vT : Value) (wT : World) => RdL Enc.int wT (Bl0 ++ O) vT (la), isV (vI ((k : Nat) : Int)), fun (vT : Value) (wT : World) => ∃ aT, vT = .pointer (some aT) ∧ PT Enc.int wT (Bl0 ++ O) (.pointer (some aT)) (la[k]!), isV (vI (la[k]!)), fun (vT : Value) (wT : World) => RdL Enc.int wT (Bl0 ++ O) vT (lb), isV (vI ((k : Nat) : Int)), fun (vT : Value) (wT : World) => ∃ aT, vT = .pointer (some aT) ∧ PT Enc.int wT (Bl0 ++ O) (.pointer (some aT)) (lb[k]!), isV (vI (lb[k]!))] (by kernel_rfl) (by kernel_rfl) (by kernel_rfl) (by kernel_rfl) rfl rfl ⟨fun _ _ _ h k => h.mv (Mv.of_keep k), kI, fun _ _ _ ⟨a, e, h⟩ k => ⟨a, e, h.mv (Mv.of_keep k)⟩, kI, fun _ _ _ h k => h.mv (Mv.of_keep k), kI, fun _ _ _ ⟨a, e, h⟩ k => ⟨a, e, h.mv (Mv.of_keep k)⟩, kI, trivial⟩ ⟨?_, ?_, ?_, ?_, ?_, ?_, ?_, ?_, trivial⟩ ?_
    ·intro F1 w1 k1 hf hd
     have k0 := (Keep.drew [] wl0).trans k1
     have m1 : Mv Bl0 wl0 Bl0 w1 := Mv.of_keep k0
     have h_la := h_la.mv m1
     obtain ⟨F2, rfl⟩ := lit_of (F := F1) [(0, la_v)] ⟨hf 0 (by kernel_rfl), trivial⟩
     exact sp_plain rfl ((o_move (la_v) rfl (⟨(Keep.refl _ _), h_la⟩)))
    ·intro F1 w1 k1 hf hd
     obtain ⟨F2, rfl⟩ := lit_of (F := F1) [(5, vI ((k : Nat) : Int))] ⟨hf 5 (by kernel_rfl), trivial⟩
     exact sp_plain rfl ((o_move (vI ((k : Nat) : Int)) rfl (⟨(Keep.refl _ _), rfl⟩)))
    ·intro F1 w1 k1 hf hd
     obtain ⟨v3824, e3826, hl3825⟩ : ∃ v, F1 17 = v ∧ RdL Enc.int w1 (Bl0 ++ O) v (la) := ⟨_, rfl, hd 0 17 (by kernel_rfl)⟩
     have := hl3825.len_le
     obtain ⟨F2, rfl⟩ := lit_of (F := F1) [(17, v3824), (18, vI ((k : Nat) : Int))] ⟨e3826, hd 1 18 (by kernel_rfl), trivial⟩
     exact sp_plain rfl ((o_idx Try.underlying22 s_3 .i64 ((k : Nat) : Int) k rfl rfl rfl hl3825 (by omega) fun a3827 hp3828 => (⟨(Keep.refl _ _), ⟨a3827, rfl, hp3828⟩⟩)))
    ·intro F1 w1 k1 hf hd
     obtain ⟨a3829, e3831, hp3830⟩ : ∃ a, F1 19 = .pointer (some a) ∧ PT Enc.int w1 (Bl0 ++ O) (.pointer (some a)) (la[k]!) := hd 2 19 (by kernel_rfl)
     obtain ⟨F2, rfl⟩ := lit_of (F := F1) [(19, Value.pointer (some a3829))] ⟨e3831, trivial⟩
     exact sp_plain rfl ((o_loadI Try.underlying3 rfl rfl hp3830 (⟨(Keep.refl _ _), rfl⟩)))
    ·intro F1 w1 k1 hf hd
     have k0 := (Keep.drew [] wl0).trans k1
     have m1 : Mv Bl0 wl0 Bl0 w1 := Mv.of_keep k0
     have h_lb := h_lb.mv m1
     obtain ⟨F2, rfl⟩ := lit_of (F := F1) [(1, lb_v)] ⟨hf 1 (by kernel_rfl), trivial⟩
     exact sp_plain rfl ((o_move (lb_v) rfl (⟨(Keep.refl _ _), h_lb⟩)))
    ·intro F1 w1 k1 hf hd
     obtain ⟨F2, rfl⟩ := lit_of (F := F1) [(5, vI ((k : Nat) : Int))] ⟨hf 5 (by kernel_rfl), trivial⟩
     exact sp_plain rfl ((o_move (vI ((k : Nat) : Int)) rfl (⟨(Keep.refl _ _), rfl⟩)))
    ·intro F1 w1 k1 hf hd
     obtain ⟨v3832, e3834, hl3833⟩ : ∃ v, F1 21 = v ∧ RdL Enc.int w1 (Bl0 ++ O) v (lb) := ⟨_, rfl, hd 4 21 (by kernel_rfl)⟩
     have := hl3833.len_le
     obtain ⟨F2, rfl⟩ := lit_of (F := F1) [(21, v3832), (22, vI ((k : Nat) : Int))] ⟨e3834, hd 5 22 (by kernel_rfl), trivial⟩
     exact sp_plain rfl ((o_idx Try.underlying22 s_3 .i64 ((k : Nat) : Int) k rfl rfl rfl hl3833 (by omega) fun a3835 hp3836 => (⟨(Keep.refl _ _), ⟨a3835, rfl, hp3836⟩⟩)))
    ·intro F1 w1 k1 hf hd
     obtain ⟨a3837, e3839, hp3838⟩ : ∃ a, F1 23 = .pointer (some a) ∧ PT Enc.int w1 (Bl0 ++ O) (.pointer (some a)) (lb[k]!) := hd 6 23 (by kernel_rfl)
     obtain ⟨F2, rfl⟩ := lit_of (F := F1) [(23, Value.pointer (some a3837))] ⟨e3839, trivial⟩
     exact sp_plain rfl ((o_loadI Try.underlying3 rfl rfl hp3838 (⟨(Keep.refl _ _), rfl⟩)))
    intro F3841 w3842 k3840 hT3843 hF3844
    have s3845 := sl0.call k3840
    have m3846 : Mv Bl0 wl0 Bl0 w3842 := Mv.of_keep k3840
    have h_la := h_la.mv m3846
    have h_lb := h_lb.mv m3846
    obtain ⟨F2, rfl⟩ := lit_of (F := F3841) [(0, la_v), (1, lb_v), (5, vI ((k : Nat) : Int)), (26, undef), (20, vI (la[k]!)), (24, vI (lb[k]!))] ⟨hF3844 0 (by kernel_rfl), hF3844 1 (by kernel_rfl), hF3844 5 (by kernel_rfl), hF3844 26 (by kernel_rfl), hT3843 3 20 (by kernel_rfl) (by decide), hT3843 7 24 (by kernel_rfl) (by decide), trivial⟩
    clear hT3843 hF3844
    refine wl_s (o_neq .i64 (la[k]!) (lb[k]!) rfl rfl (wl_nil (thenQ_n (?_))))
    refine cw_cond ((la[k]!) != (lb[k]!)) rfl rfl (fun hc3848 => ?_) (fun hc3848 => ?_)
    ·have hp3849 : la[k]! ≠ lb[k]! := by first | simpa using hc3848 | (have e := hc3848; simp at e; omega)
     refine cw_seq (?_)
     refine cw_region (by kernel_rfl) (wl_s (o_assign (Value.bool false) rfl (wl_nil (thenQ_n (?_)))))
     refine cw_ret (blockQ_r (thenQ_r (thenQ_r (blockQ_r (thenQ_r (end_r rfl (res1 rfl rfl rfl) (?_)))))))
     have e : (sameIM la lb) = false := by first | (rw [hr0_1]; exact scan_some (by omega) (by ((repeat (first | (refine (if_pos ?_).trans ?_; solve | omega | assumption | (simp only [dbs]; first | done | (repeat (first | omega | assumption | (right; first | omega | assumption | (constructor <;> first | omega | assumption)) | left))) | (rw [Bool.not_eq_true]; simp only [dbs]; first | done | omega | assumption | ((repeat' apply And.intro) <;> first | omega | assumption)) | (simp only [*, dbs]; done)) | (refine (if_neg ?_).trans ?_; solve | omega | assumption | (simp only [dbs]; first | done | (repeat (first | omega | assumption | (right; first | omega | assumption | (constructor <;> first | omega | assumption)) | left))) | (rw [Bool.not_eq_true]; simp only [dbs]; first | done | omega | assumption | ((repeat' apply And.intro) <;> first | omega | assumption)) | (simp only [*, dbs]; done)))); rfl))) | (rw [hr0_1]; exact scan_end (by omega)) | (unfold sameIM; ((repeat (first | (refine (if_pos ?_).trans ?_; solve | omega | assumption | (simp only [dbs]; first | done | (repeat (first | omega | assumption | (right; first | omega | assumption | (constructor <;> first | omega | assumption)) | left))) | (rw [Bool.not_eq_true]; simp only [dbs]; first | done | omega | assumption | ((repeat' apply And.intro) <;> first | omega | assumption)) | (simp only [*, dbs]; done)) | (refine (if_neg ?_).trans ?_; solve | omega | assumption | (simp only [dbs]; first | done | (repeat (first | omega | assumption | (right; first | omega | assumption | (constructor <;> first | omega | assumption)) | left))) | (rw [Bool.not_eq_true]; simp only [dbs]; first | done | omega | assumption | ((repeat' apply And.intro) <;> first | omega | assumption)) | (simp only [*, dbs]; done)))); rfl))
     exact ⟨_, rfl, s3845.keep, by rw [e]; exact rfl⟩
    ·have hp3850 : la[k]! = lb[k]! := by first | simpa using hc3848 | (have e := hc3848; simp at e; omega)
     refine cw_skip (blockQ_n (thenQ_n (?_)))
     refine cw_region (by kernel_rfl) (wl_s (o_move (vI ((k : Nat) : Int)) rfl (wl_s (o_add .i64 ((k : Nat) : Int) (1 : Int) (((k + 1 : Nat) : Int)) rfl rfl (w64 (by omega) (by omega)) (wl_s (o_assign (vI ((k + 1 : Nat) : Int)) rfl (wl_nil (thenQ_n (?_)))))))))
     exact ⟨_, (by omega), (k + 1), Bl0, (by first | omega | (simp; done) | (simp; omega) | simp_all), (hr0_1.trans (scan_none (by omega) (by ((repeat (first | (refine (if_pos ?_).trans ?_; solve | omega | assumption | (simp only [dbs]; first | done | (repeat (first | omega | assumption | (right; first | omega | assumption | (constructor <;> first | omega | assumption)) | left))) | (rw [Bool.not_eq_true]; simp only [dbs]; first | done | omega | assumption | ((repeat' apply And.intro) <;> first | omega | assumption)) | (simp only [*, dbs]; done)) | (refine (if_neg ?_).trans ?_; solve | omega | assumption | (simp only [dbs]; first | done | (repeat (first | omega | assumption | (right; first | omega | assumption | (constructor <;> first | omega | assumption)) | left))) | (rw [Bool.not_eq_true]; simp only [dbs]; first | done | omega | assumption | ((repeat' apply And.intro) <;> first | omega | assumption)) | (simp only [*, dbs]; done)))); rfl)))), rfl, ⟨_, upds_self _ ⟨rfl, rfl, (by first | rfl | exact congrArg (Value.int _) (by first | omega | (simp))), rfl, trivial⟩⟩, s3845, h_la, h_lb⟩
   ·have hp3851 : (la.length : Int) ≤ ((k : Nat) : Int) := by first | simpa using hc3822 | (have e := hc3822; simp at e; omega)
    refine cw_exit (thenQ_x (thenQ_x (blockQ_x (thenQ_n (?_)))))
    refine cw_seq (?_)
    refine cw_region (by kernel_rfl) (wl_s (o_assign (Value.bool true) rfl (wl_nil (thenQ_n (?_)))))
    refine cw_ret (end_r rfl (res1 rfl rfl rfl) (?_))
    have e : (sameIM la lb) = true := by first | (rw [hr0_1]; exact scan_some (by omega) (by ((repeat (first | (refine (if_pos ?_).trans ?_; solve | omega | assumption | (simp only [dbs]; first | done | (repeat (first | omega | assumption | (right; first | omega | assumption | (constructor <;> first | omega | assumption)) | left))) | (rw [Bool.not_eq_true]; simp only [dbs]; first | done | omega | assumption | ((repeat' apply And.intro) <;> first | omega | assumption)) | (simp only [*, dbs]; done)) | (refine (if_neg ?_).trans ?_; solve | omega | assumption | (simp only [dbs]; first | done | (repeat (first | omega | assumption | (right; first | omega | assumption | (constructor <;> first | omega | assumption)) | left))) | (rw [Bool.not_eq_true]; simp only [dbs]; first | done | omega | assumption | ((repeat' apply And.intro) <;> first | omega | assumption)) | (simp only [*, dbs]; done)))); rfl))) | (rw [hr0_1]; exact scan_end (by omega)) | (unfold sameIM; ((repeat (first | (refine (if_pos ?_).trans ?_; solve | omega | assumption | (simp only [dbs]; first | done | (repeat (first | omega | assumption | (right; first | omega | assumption | (constructor <;> first | omega | assumption)) | left))) | (rw [Bool.not_eq_true]; simp only [dbs]; first | done | omega | assumption | ((repeat' apply And.intro) <;> first | omega | assumption)) | (simp only [*, dbs]; done)) | (refine (if_neg ?_).trans ?_; solve | omega | assumption | (simp only [dbs]; first | done | (repeat (first | omega | assumption | (right; first | omega | assumption | (constructor <;> first | omega | assumption)) | left))) | (rw [Bool.not_eq_true]; simp only [dbs]; first | done | omega | assumption | ((repeat' apply And.intro) <;> first | omega | assumption)) | (simp only [*, dbs]; done)))); rfl))
    exact ⟨_, rfl, sl0.keep, by rw [e]; exact rfl⟩
set_option maxHeartbeats 4000000 in
set_option maxRecDepth 100000 in
theorem c_sameC {O : List Nat} (x_cs : List Value) (x : Circle) (y_cs : List Value) (y : Circle) (w : World) (h_x : Enc.circle.rd w O x_cs x) (h_y : Enc.circle.rd w O y_cs y) (hO : ∀ b ∈ O, b < w.heap.size) : CallsK Try.prog 15 [.agg x_cs.toArray, .agg y_cs.toArray] w (fun v _ => v = .bool (sameC x y)) :=  by
 have h_x : Enc.circle.rd w ([] ++ O) x_cs x := h_x
 have h_y : Enc.circle.rd w ([] ++ O) y_cs y := h_y
 have s0 : St w O w [] := St.start hO
 refine callsK_of 96 Try.func15 rfl rfl (of_decide_eq_true rfl) (fun F0 => ?_)
 refine cw_seq (?_)
 refine cw_region (by kernel_rfl) (wl_s (o_boxR (E := Enc.circle) (Value.agg x_cs.toArray) (x_cs) x rfl rfl h_x s0 fun a3852 w3853 s3854 m3855 k3856 hp3857 => (?_)))
 have h_y : Enc.circle.rd w3853 ([] ++ O) y_cs (y) := Enc.mv Enc.circle (x := y) h_y m3855
 refine wl_s (o_boxR (E := Enc.circle) (Value.agg y_cs.toArray) (y_cs) y rfl rfl h_y s3854 fun a3858 w3859 s3860 m3861 k3862 hp3863 => (?_))
 have hp3857 := hp3857.mv m3861
 refine wl_s (o_assign (Value.bool false) rfl (wl_nil (thenQ_n (?_))))
 refine cw_seq (?_)
 refine cw_seq (?_)
 refine cw_region (by kernel_rfl) (wl_s (o_fieldR 0 f_25_0 (x.epoch) rfl hp3857 (fun _ _ _ h => Enc_circle_f0 h) fun a3864 hp3865 => (wl_s (o_loadI Try.underlying3 rfl rfl hp3865 (wl_s (o_fieldR 0 f_25_0 (y.epoch) rfl hp3863 (fun _ _ _ h => Enc_circle_f0 h) fun a3866 hp3867 => (wl_s (o_loadI Try.underlying3 rfl rfl hp3867 (wl_s (o_neq .i64 x.epoch y.epoch rfl rfl (wl_s (o_move (Value.bool (x.epoch != y.epoch)) rfl (?_)))))))))))))
 cases hb3868 : (x.epoch != y.epoch)
 ·have hp3869 : x.epoch = y.epoch := by first | simpa using hb3868 | (have e := hb3868; simp at e; omega)
  refine wl_t rfl (o_fieldR 1 f_25_1 (x.threshold) rfl hp3857 (fun _ _ _ h => Enc_circle_f1 h) fun a3870 hp3871 => (wl_t rfl (o_loadI Try.underlying3 rfl rfl hp3871 (wl_t rfl (o_fieldR 1 f_25_1 (y.threshold) rfl hp3863 (fun _ _ _ h => Enc_circle_f1 h) fun a3872 hp3873 => (wl_t rfl (o_loadI Try.underlying3 rfl rfl hp3873 (wl_t rfl (o_neq .i64 x.threshold y.threshold rfl rfl (wl_s (o_pickF (Value.bool (x.threshold != y.threshold)) rfl rfl (wl_s (o_move (Value.bool (x.threshold != y.threshold)) rfl (?_))))))))))))))
  cases hb3874 : (x.threshold != y.threshold)
  ·have hp3875 : x.threshold = y.threshold := by first | simpa using hb3874 | (have e := hb3874; simp at e; omega)
   refine wl_t rfl (o_fieldR 2 f_25_2 (x.wait) rfl hp3857 (fun _ _ _ h => Enc_circle_f2 h) fun a3876 hp3877 => (wl_t rfl (o_loadI Try.underlying3 rfl rfl hp3877 (wl_t rfl (o_fieldR 2 f_25_2 (y.wait) rfl hp3863 (fun _ _ _ h => Enc_circle_f2 h) fun a3878 hp3879 => (wl_t rfl (o_loadI Try.underlying3 rfl rfl hp3879 (wl_t rfl (o_neq .i64 x.wait y.wait rfl rfl (wl_s (o_pickF (Value.bool (x.wait != y.wait)) rfl rfl (wl_s (o_move (Value.bool (x.wait != y.wait)) rfl (?_))))))))))))))
   cases hb3880 : (x.wait != y.wait)
   ·have hp3881 : x.wait = y.wait := by first | simpa using hb3880 | (have e := hb3880; simp at e; omega)
    refine wl_t rfl (o_fieldR 3 f_25_3 (x.guardians) rfl hp3857 (fun _ _ _ h => Enc_circle_f3 h) fun a3882 hp3883 => (wl_t rfl (o_loadL Try.underlying22 rfl rfl hp3883 fun v3884 hl3885 => (?_))))
    have := hl3885.len_le
    refine wl_t rfl (o_fieldR 3 f_25_3 (y.guardians) rfl hp3863 (fun _ _ _ h => Enc_circle_f3 h) fun a3886 hp3887 => (wl_t rfl (o_loadL Try.underlying22 rfl rfl hp3887 fun v3888 hl3889 => (?_))))
    have := hl3889.len_le
    refine wl_t rfl (o_callK (vs := [v3884, v3888]) enter_28 (c_sameI (O := [] ++ O) v3884 x.guardians v3888 y.guardians w3859 hl3885 hl3889 s3860.lt) rfl s3860 fun v3890 w3891 s3892 m3893 k3894 r3895 => (?_))
    obtain rfl := r3895
    have hp3857 := hp3857.mv m3893
    have hp3863 := hp3863.mv m3893
    refine wl_t rfl (o_not (sameIM x.guardians y.guardians) rfl (wl_s (o_pickF (Value.bool (!(sameIM x.guardians y.guardians))) rfl rfl (wl_s (o_move (Value.bool (!(sameIM x.guardians y.guardians))) rfl (?_))))))
    cases hb3896 : (!(sameIM x.guardians y.guardians))
    ·have hp3897 : (sameIM x.guardians y.guardians) = true := by first | simpa using hb3896 | (have e := hb3896; simp at e; omega)
     refine wl_t rfl (o_fieldR 4 f_25_4 (x.recs) rfl hp3857 (fun _ _ _ h => Enc_circle_f4 h) fun a3898 hp3899 => (wl_t rfl (o_loadL Try.underlying23 rfl rfl hp3899 fun v3900 hl3901 => (?_))))
     have := hl3901.len_le
     refine wl_t rfl (o_lenR Try.underlying23 rfl hl3901 (wl_t rfl (o_fieldR 4 f_25_4 (y.recs) rfl hp3863 (fun _ _ _ h => Enc_circle_f4 h) fun a3902 hp3903 => (wl_t rfl (o_loadL Try.underlying23 rfl rfl hp3903 fun v3904 hl3905 => (?_))))))
     have := hl3905.len_le
     refine wl_t rfl (o_lenR Try.underlying23 rfl hl3905 (wl_t rfl (o_neq .i64 (x.recs.length : Int) (y.recs.length : Int) rfl rfl (wl_s (o_pickF (Value.bool ((x.recs.length : Int) != (y.recs.length : Int))) rfl rfl (wl_nil (thenQ_n (?_))))))))
     refine cw_cond ((x.recs.length : Int) != (y.recs.length : Int)) rfl rfl (fun hc3906 => ?_) (fun hc3906 => ?_)
     ·have hp3907 : (x.recs.length : Int) ≠ (y.recs.length : Int) := by first | simpa using hc3906 | (have e := hc3906; simp at e; omega)
      refine cw_seq (?_)
      refine cw_region (by kernel_rfl) (wl_s (o_assign (Value.bool false) rfl (wl_nil (thenQ_n (?_)))))
      refine cw_ret (thenQ_r (end_r rfl (res1 rfl rfl rfl) (?_)))
      have e : (sameC x y) = false := by first | (rw [hr0_1]; exact scan_some (by omega) (by ((repeat (first | (refine (if_pos ?_).trans ?_; solve | omega | assumption | (simp only [sameCHead, recDiff, dbs]; first | done | (repeat (first | omega | assumption | (right; first | omega | assumption | (constructor <;> first | omega | assumption)) | left))) | (rw [Bool.not_eq_true]; simp only [sameCHead, recDiff, dbs]; first | done | omega | assumption | ((repeat' apply And.intro) <;> first | omega | assumption)) | (simp only [*, dbs]; done)) | (refine (if_neg ?_).trans ?_; solve | omega | assumption | (simp only [sameCHead, recDiff, dbs]; first | done | (repeat (first | omega | assumption | (right; first | omega | assumption | (constructor <;> first | omega | assumption)) | left))) | (rw [Bool.not_eq_true]; simp only [sameCHead, recDiff, dbs]; first | done | omega | assumption | ((repeat' apply And.intro) <;> first | omega | assumption)) | (simp only [*, dbs]; done)))); rfl))) | (rw [hr0_1]; exact scan_end (by omega)) | (unfold sameC; ((repeat (first | (refine (if_pos ?_).trans ?_; solve | omega | assumption | (simp only [sameCHead, recDiff, dbs]; first | done | (repeat (first | omega | assumption | (right; first | omega | assumption | (constructor <;> first | omega | assumption)) | left))) | (rw [Bool.not_eq_true]; simp only [sameCHead, recDiff, dbs]; first | done | omega | assumption | ((repeat' apply And.intro) <;> first | omega | assumption)) | (simp only [*, dbs]; done)) | (refine (if_neg ?_).trans ?_; solve | omega | assumption | (simp only [sameCHead, recDiff, dbs]; first | done | (repeat (first | omega | assumption | (right; first | omega | assumption | (constructor <;> first | omega | assumption)) | left))) | (rw [Bool.not_eq_true]; simp only [sameCHead, recDiff, dbs]; first | done | omega | assumption | ((repeat' apply And.intro) <;> first | omega | assumption)) | (simp only [*, dbs]; done)))); rfl))
      exact ⟨_, rfl, s3892.keep, by rw [e]; exact rfl⟩
     ·have hp3908 : (x.recs.length : Int) = (y.recs.length : Int) := by first | simpa using hc3906 | (have e := hc3906; simp at e; omega)
      refine cw_skip (thenQ_n (?_))
      refine cw_seq (?_)
      refine cw_seq (?_)
      refine cw_region (by kernel_rfl) (wl_s (o_assign (vI (0 : Int)) rfl (wl_nil (thenQ_n (?_)))))
      refine cw_block (?_)
      refine cw_loop (fun mI FI wI => ∃ (k : Nat) (B : List Nat), k ≤ x.recs.length ∧ sameC x y = scan (fun k => if recDiff x.recs[k]! y.recs[k]! then some false else none) true k (x.recs.length - k) ∧ mI = x.recs.length - k ∧ (∃ F1, FI = upds F1 [(2, Value.pointer (some a3852)), (3, Value.pointer (some a3858)), (5, vI ((k : Nat) : Int)), (96, undef)]) ∧ St w O wI B ∧ PT Enc.circle wI (B ++ O) (.pointer (some a3852)) (x) ∧ PT Enc.circle wI (B ++ O) (.pointer (some a3858)) (y)) (x.recs.length - (0)) ?_ ?_
      ·exact ⟨(0), [], (by first | omega | (simp; done) | (simp; omega) | simp_all), (by unfold sameC; ((repeat (first | (refine (if_pos ?_).trans ?_; solve | omega | assumption | (simp only [sameCHead, recDiff, dbs]; first | done | (repeat (first | omega | assumption | (right; first | omega | assumption | (constructor <;> first | omega | assumption)) | left))) | (rw [Bool.not_eq_true]; simp only [sameCHead, recDiff, dbs]; first | done | omega | assumption | ((repeat' apply And.intro) <;> first | omega | assumption)) | (simp only [*, dbs]; done)) | (refine (if_neg ?_).trans ?_; solve | omega | assumption | (simp only [sameCHead, recDiff, dbs]; first | done | (repeat (first | omega | assumption | (right; first | omega | assumption | (constructor <;> first | omega | assumption)) | left))) | (rw [Bool.not_eq_true]; simp only [sameCHead, recDiff, dbs]; first | done | omega | assumption | ((repeat' apply And.intro) <;> first | omega | assumption)) | (simp only [*, dbs]; done)))); rfl)), rfl, ⟨_, upds_self _ ⟨rfl, rfl, (by first | rfl | exact congrArg (Value.int _) (by first | omega | (simp))), rfl, trivial⟩⟩, s3892, hp3857, hp3863⟩
      ·intro ml0 F wl0 hI
       clear hp3857 hp3863
       obtain ⟨k, Bl0, hr0_0, hr0_1, hm0, ⟨Fl0, rfl⟩, sl0, hp3857, hp3863⟩ := hI
       refine cw_seq (?_)
       refine cw_seq (?_)
       refine cw_region (by kernel_rfl) (wl_s (o_move (vI ((k : Nat) : Int)) rfl (wl_s (o_fieldR 4 f_25_4 (x.recs) rfl hp3857 (fun _ _ _ h => Enc_circle_f4 h) fun a3909 hp3910 => (wl_s (o_loadL Try.underlying23 rfl rfl hp3910 fun v3911 hl3912 => (?_)))))))
       have := hl3912.len_le
       refine wl_s (o_lenR Try.underlying23 rfl hl3912 (wl_s (o_lss .i64 ((k : Nat) : Int) (x.recs.length : Int) rfl rfl (wl_nil (thenQ_n (?_))))))
       refine cw_cond (decide (((k : Nat) : Int) < (x.recs.length : Int))) rfl rfl (fun hc3913 => ?_) (fun hc3913 => ?_)
       ·have hp3914 : ((k : Nat) : Int) < (x.recs.length : Int) := by first | simpa using hc3913 | (have e := hc3913; simp at e; omega)
        refine cw_skip (thenQ_n (?_))
        refine cw_seq (?_)
        refine cw_block (?_)
        refine cw_seq (?_)
        refine cw_region (by kernel_rfl) (wl_s (o_fieldR 4 f_25_4 (x.recs) rfl hp3857 (fun _ _ _ h => Enc_circle_f4 h) fun a3915 hp3916 => (wl_s (o_loadL Try.underlying23 rfl rfl hp3916 fun v3917 hl3918 => (?_)))))
        have := hl3918.len_le
        refine wl_s (o_move (vI ((k : Nat) : Int)) rfl (wl_s (o_idx Try.underlying23 s_47 .i64 ((k : Nat) : Int) k rfl rfl rfl hl3918 (by omega) fun a3919 hp3920 => (wl_s (o_loadS Try.underlying47 rfl s_47 rfl hp3920 fun cs3921 hs3922 => (wl_s (o_alloc [vI (0 : Int), vI (0 : Int), vI (0 : Int), Value.slice none 0 0, Value.slice none 0 0] z_47 rfl sl0 fun b3923 w3924 e3929 s3925 m3926 k3927 bx3928 => (?_))))))))
        clear e3929
        have hp3857 := hp3857.mv m3926
        have hp3863 := hp3863.mv m3926
        have hs3922 : Enc.recovery.rd w3924 ((b3923 :: Bl0) ++ O) cs3921 (x.recs[k]!) := Enc.mv Enc.recovery (x := x.recs[k]!) hs3922 m3926
        obtain ⟨d3935, d3937, rfl, hd3936, hd3938⟩ := hs3922
        have := hd3936.len_le
        have := hd3938.len_le
        refine wl_n (o_store (vs := [vI ((x.recs[k]!).no), vI ((x.recs[k]!).asked), vI ((x.recs[k]!).state), d3935, d3937]) (.agg #[vI ((x.recs[k]!).no), vI ((x.recs[k]!).asked), vI ((x.recs[k]!).state), d3935, d3937]) rfl rfl rfl s_47 (fun u hu => by simp only [List.mem_cons, List.not_mem_nil, or_false] at hu; rcases hu with rfl | rfl | rfl | rfl | rfl <;> first | rfl | exact hd3936.oneCell | exact hd3938.oneCell) (by repeat (first | assumption | constructor)) bx3928 (of_decide_eq_true rfl) s3925 fun w3930 s3931 m3932 k3933 bx3934 => (?_))
        have hp3857 := hp3857.mv m3932
        have hp3863 := hp3863.mv m3932
        have hd3936 := hd3936.mv m3932
        have hd3938 := hd3938.mv m3932
        refine wl_nil (thenQ_n (?_))
        refine cw_seq (?_)
        refine cw_region (by kernel_rfl) (wl_s (o_fieldR 4 f_25_4 (y.recs) rfl hp3863 (fun _ _ _ h => Enc_circle_f4 h) fun a3939 hp3940 => (wl_s (o_loadL Try.underlying23 rfl rfl hp3940 fun v3941 hl3942 => (?_)))))
        have := hl3942.len_le
        refine wl_s (o_move (vI ((k : Nat) : Int)) rfl (wl_s (o_idx Try.underlying23 s_47 .i64 ((k : Nat) : Int) k rfl rfl rfl hl3942 (by omega) fun a3943 hp3944 => (wl_s (o_loadS Try.underlying47 rfl s_47 rfl hp3944 fun cs3945 hs3946 => (wl_s (o_alloc [vI (0 : Int), vI (0 : Int), vI (0 : Int), Value.slice none 0 0, Value.slice none 0 0] z_47 rfl s3931 fun b3947 w3948 e3953 s3949 m3950 k3951 bx3952 => (?_))))))))
        have ne3954 : b3923 ≠ b3947 := by have := bx3934.lt; omega
        clear e3953
        have hp3857 := hp3857.mv m3950
        have hp3863 := hp3863.mv m3950
        have hd3936 := hd3936.mv m3950
        have hd3938 := hd3938.mv m3950
        have hs3946 : Enc.recovery.rd w3948 ((b3947 :: (b3923 :: Bl0)) ++ O) cs3945 (y.recs[k]!) := Enc.mv Enc.recovery (x := y.recs[k]!) hs3946 m3950
        have bx3934 := bx3934.keep k3951 (by simp)
        obtain ⟨d3960, d3962, rfl, hd3961, hd3963⟩ := hs3946
        have := hd3961.len_le
        have := hd3963.len_le
        refine wl_n (o_store (vs := [vI ((y.recs[k]!).no), vI ((y.recs[k]!).asked), vI ((y.recs[k]!).state), d3960, d3962]) (.agg #[vI ((y.recs[k]!).no), vI ((y.recs[k]!).asked), vI ((y.recs[k]!).state), d3960, d3962]) rfl rfl rfl s_47 (fun u hu => by simp only [List.mem_cons, List.not_mem_nil, or_false] at hu; rcases hu with rfl | rfl | rfl | rfl | rfl <;> first | rfl | exact hd3961.oneCell | exact hd3963.oneCell) (by repeat (first | assumption | constructor)) bx3952 (of_decide_eq_true rfl) s3949 fun w3955 s3956 m3957 k3958 bx3959 => (?_))
        have hp3857 := hp3857.mv m3957
        have hp3863 := hp3863.mv m3957
        have hd3936 := hd3936.mv m3957
        have hd3938 := hd3938.mv m3957
        have hd3961 := hd3961.mv m3957
        have hd3963 := hd3963.mv m3957
        have bx3934 := bx3934.keep k3958 (nin1 ne3954)
        refine wl_nil (thenQ_n (?_))
        refine cw_seq (?_)
        refine cw_region (by kernel_rfl) (wl_s (o_fieldL 0 f_47_0 rfl (wl_s (o_loadBx Try.underlying3 rfl (vI ((x.recs[k]!).no)) rfl bx3934 rfl (wl_s (o_fieldL 0 f_47_0 rfl (wl_s (o_loadBx Try.underlying3 rfl (vI ((y.recs[k]!).no)) rfl bx3959 rfl (wl_s (o_neq .i64 ((x.recs[k]!).no) ((y.recs[k]!).no) rfl rfl (wl_s (o_move (Value.bool (((x.recs[k]!).no) != ((y.recs[k]!).no))) rfl (?_)))))))))))))
        cases hb3964 : (((x.recs[k]!).no) != ((y.recs[k]!).no))
        ·have hp3965 : (x.recs[k]!).no = (y.recs[k]!).no := by first | simpa using hb3964 | (have e := hb3964; simp at e; omega)
         refine wl_t rfl (o_fieldL 1 f_47_1 rfl (wl_t rfl (o_loadBx Try.underlying3 rfl (vI ((x.recs[k]!).asked)) rfl bx3934 rfl (wl_t rfl (o_fieldL 1 f_47_1 rfl (wl_t rfl (o_loadBx Try.underlying3 rfl (vI ((y.recs[k]!).asked)) rfl bx3959 rfl (wl_t rfl (o_neq .i64 ((x.recs[k]!).asked) ((y.recs[k]!).asked) rfl rfl (wl_s (o_pickF (Value.bool (((x.recs[k]!).asked) != ((y.recs[k]!).asked))) rfl rfl (wl_s (o_move (Value.bool (((x.recs[k]!).asked) != ((y.recs[k]!).asked))) rfl (?_))))))))))))))
         cases hb3966 : (((x.recs[k]!).asked) != ((y.recs[k]!).asked))
         ·have hp3967 : (x.recs[k]!).asked = (y.recs[k]!).asked := by first | simpa using hb3966 | (have e := hb3966; simp at e; omega)
          refine wl_t rfl (o_fieldL 2 f_47_2 rfl (wl_t rfl (o_loadBx Try.underlying3 rfl (vI ((x.recs[k]!).state)) rfl bx3934 rfl (wl_t rfl (o_fieldL 2 f_47_2 rfl (wl_t rfl (o_loadBx Try.underlying3 rfl (vI ((y.recs[k]!).state)) rfl bx3959 rfl (wl_t rfl (o_neq .i64 ((x.recs[k]!).state) ((y.recs[k]!).state) rfl rfl (wl_s (o_pickF (Value.bool (((x.recs[k]!).state) != ((y.recs[k]!).state))) rfl rfl (wl_s (o_move (Value.bool (((x.recs[k]!).state) != ((y.recs[k]!).state))) rfl (?_))))))))))))))
          cases hb3968 : (((x.recs[k]!).state) != ((y.recs[k]!).state))
          ·have hp3969 : (x.recs[k]!).state = (y.recs[k]!).state := by first | simpa using hb3968 | (have e := hb3968; simp at e; omega)
           refine wl_t rfl (o_fieldL 3 f_47_3 rfl (wl_t rfl (o_loadBx Try.underlying22 rfl (d3935) rfl bx3934 rfl (wl_t rfl (o_fieldL 3 f_47_3 rfl (wl_t rfl (o_loadBx Try.underlying22 rfl (d3960) rfl bx3959 rfl (wl_t rfl (o_callK (vs := [d3935, d3960]) enter_28 (c_sameI (O := (b3947 :: (b3923 :: Bl0)) ++ O) d3935 ((x.recs[k]!).approved) d3960 ((y.recs[k]!).approved) w3955 hd3936 hd3961 s3956.lt) rfl s3956 fun v3970 w3971 s3972 m3973 k3974 r3975 => (?_))))))))))
           obtain rfl := r3975
           have hp3857 := hp3857.mv m3973
           have hp3863 := hp3863.mv m3973
           have hd3938 := hd3938.mv m3973
           have hd3963 := hd3963.mv m3973
           have bx3934 := bx3934.keep k3974 (by simp)
           have bx3959 := bx3959.keep k3974 (by simp)
           refine wl_t rfl (o_not (sameIM ((x.recs[k]!).approved) ((y.recs[k]!).approved)) rfl (wl_s (o_pickF (Value.bool (!(sameIM ((x.recs[k]!).approved) ((y.recs[k]!).approved)))) rfl rfl (wl_s (o_move (Value.bool (!(sameIM ((x.recs[k]!).approved) ((y.recs[k]!).approved)))) rfl (?_))))))
           cases hb3976 : (!(sameIM ((x.recs[k]!).approved) ((y.recs[k]!).approved)))
           ·have hp3977 : (sameIM ((x.recs[k]!).approved) ((y.recs[k]!).approved)) = true := by first | simpa using hb3976 | (have e := hb3976; simp at e; omega)
            refine wl_t rfl (o_fieldL 4 f_47_4 rfl (wl_t rfl (o_loadBx Try.underlying22 rfl (d3937) rfl bx3934 rfl (wl_t rfl (o_fieldL 4 f_47_4 rfl (wl_t rfl (o_loadBx Try.underlying22 rfl (d3962) rfl bx3959 rfl (wl_t rfl (o_callK (vs := [d3937, d3962]) enter_28 (c_sameI (O := (b3947 :: (b3923 :: Bl0)) ++ O) d3937 ((x.recs[k]!).vetoed) d3962 ((y.recs[k]!).vetoed) w3971 hd3938 hd3963 s3972.lt) rfl s3972 fun v3978 w3979 s3980 m3981 k3982 r3983 => (?_))))))))))
            obtain rfl := r3983
            have hp3857 := hp3857.mv m3981
            have hp3863 := hp3863.mv m3981
            refine wl_t rfl (o_not (sameIM ((x.recs[k]!).vetoed) ((y.recs[k]!).vetoed)) rfl (wl_s (o_pickF (Value.bool (!(sameIM ((x.recs[k]!).vetoed) ((y.recs[k]!).vetoed)))) rfl rfl (wl_nil (thenQ_n (?_))))))
            refine cw_cond (!(sameIM ((x.recs[k]!).vetoed) ((y.recs[k]!).vetoed))) rfl rfl (fun hc3984 => ?_) (fun hc3984 => ?_)
            ·have hp3985 : (sameIM ((x.recs[k]!).vetoed) ((y.recs[k]!).vetoed)) = false := by first | simpa using hc3984 | (have e := hc3984; simp at e; omega)
             refine cw_seq (?_)
             refine cw_region (by kernel_rfl) (wl_s (o_assign (Value.bool false) rfl (wl_nil (thenQ_n (?_)))))
             refine cw_ret (blockQ_r (thenQ_r (thenQ_r (blockQ_r (thenQ_r (end_r rfl (res1 rfl rfl rfl) (?_)))))))
             have e : (sameC x y) = false := by first | (rw [hr0_1]; exact scan_some (by omega) (by ((repeat (first | (refine (if_pos ?_).trans ?_; solve | omega | assumption | (simp only [sameCHead, recDiff, dbs]; first | done | (repeat (first | omega | assumption | (right; first | omega | assumption | (constructor <;> first | omega | assumption)) | left))) | (rw [Bool.not_eq_true]; simp only [sameCHead, recDiff, dbs]; first | done | omega | assumption | ((repeat' apply And.intro) <;> first | omega | assumption)) | (simp only [*, dbs]; done)) | (refine (if_neg ?_).trans ?_; solve | omega | assumption | (simp only [sameCHead, recDiff, dbs]; first | done | (repeat (first | omega | assumption | (right; first | omega | assumption | (constructor <;> first | omega | assumption)) | left))) | (rw [Bool.not_eq_true]; simp only [sameCHead, recDiff, dbs]; first | done | omega | assumption | ((repeat' apply And.intro) <;> first | omega | assumption)) | (simp only [*, dbs]; done)))); rfl))) | (rw [hr0_1]; exact scan_end (by omega)) | (unfold sameC; ((repeat (first | (refine (if_pos ?_).trans ?_; solve | omega | assumption | (simp only [sameCHead, recDiff, dbs]; first | done | (repeat (first | omega | assumption | (right; first | omega | assumption | (constructor <;> first | omega | assumption)) | left))) | (rw [Bool.not_eq_true]; simp only [sameCHead, recDiff, dbs]; first | done | omega | assumption | ((repeat' apply And.intro) <;> first | omega | assumption)) | (simp only [*, dbs]; done)) | (refine (if_neg ?_).trans ?_; solve | omega | assumption | (simp only [sameCHead, recDiff, dbs]; first | done | (repeat (first | omega | assumption | (right; first | omega | assumption | (constructor <;> first | omega | assumption)) | left))) | (rw [Bool.not_eq_true]; simp only [sameCHead, recDiff, dbs]; first | done | omega | assumption | ((repeat' apply And.intro) <;> first | omega | assumption)) | (simp only [*, dbs]; done)))); rfl))
             exact ⟨_, rfl, s3980.keep, by rw [e]; exact rfl⟩
            ·have hp3986 : (sameIM ((x.recs[k]!).vetoed) ((y.recs[k]!).vetoed)) = true := by first | simpa using hc3984 | (have e := hc3984; simp at e; omega)
             refine cw_skip (blockQ_n (thenQ_n (?_)))
             refine cw_region (by kernel_rfl) (wl_s (o_move (vI ((k : Nat) : Int)) rfl (wl_s (o_add .i64 ((k : Nat) : Int) (1 : Int) (((k + 1 : Nat) : Int)) rfl rfl (w64 (by omega) (by omega)) (wl_s (o_assign (vI ((k + 1 : Nat) : Int)) rfl (wl_nil (thenQ_n (?_)))))))))
             exact ⟨_, (by omega), (k + 1), (b3947 :: (b3923 :: Bl0)), (by first | omega | (simp; done) | (simp; omega) | simp_all), (hr0_1.trans (scan_none (by omega) (by ((repeat (first | (refine (if_pos ?_).trans ?_; solve | omega | assumption | (simp only [sameCHead, recDiff, dbs]; first | done | (repeat (first | omega | assumption | (right; first | omega | assumption | (constructor <;> first | omega | assumption)) | left))) | (rw [Bool.not_eq_true]; simp only [sameCHead, recDiff, dbs]; first | done | omega | assumption | ((repeat' apply And.intro) <;> first | omega | assumption)) | (simp only [*, dbs]; done)) | (refine (if_neg ?_).trans ?_; solve | omega | assumption | (simp only [sameCHead, recDiff, dbs]; first | done | (repeat (first | omega | assumption | (right; first | omega | assumption | (constructor <;> first | omega | assumption)) | left))) | (rw [Bool.not_eq_true]; simp only [sameCHead, recDiff, dbs]; first | done | omega | assumption | ((repeat' apply And.intro) <;> first | omega | assumption)) | (simp only [*, dbs]; done)))); rfl)))), rfl, ⟨_, upds_self _ ⟨rfl, rfl, (by first | rfl | exact congrArg (Value.int _) (by first | omega | (simp))), rfl, trivial⟩⟩, s3980, hp3857, hp3863⟩
           ·have hp3987 : (sameIM ((x.recs[k]!).approved) ((y.recs[k]!).approved)) = false := by first | simpa using hb3976 | (have e := hb3976; simp at e; omega)
            refine wl_k rfl (wl_k rfl (wl_k rfl (wl_k rfl (wl_k rfl (wl_k rfl (wl_s (o_pickT (Value.bool true) rfl rfl (wl_nil (thenQ_n (?_))))))))))
            refine cw_cond true rfl rfl (fun _ => ?_) (fun h => by cases h)
            refine cw_seq (?_)
            refine cw_region (by kernel_rfl) (wl_s (o_assign (Value.bool false) rfl (wl_nil (thenQ_n (?_)))))
            refine cw_ret (blockQ_r (thenQ_r (thenQ_r (blockQ_r (thenQ_r (end_r rfl (res1 rfl rfl rfl) (?_)))))))
            have e : (sameC x y) = false := by first | (rw [hr0_1]; exact scan_some (by omega) (by ((repeat (first | (refine (if_pos ?_).trans ?_; solve | omega | assumption | (simp only [sameCHead, recDiff, dbs]; first | done | (repeat (first | omega | assumption | (right; first | omega | assumption | (constructor <;> first | omega | assumption)) | left))) | (rw [Bool.not_eq_true]; simp only [sameCHead, recDiff, dbs]; first | done | omega | assumption | ((repeat' apply And.intro) <;> first | omega | assumption)) | (simp only [*, dbs]; done)) | (refine (if_neg ?_).trans ?_; solve | omega | assumption | (simp only [sameCHead, recDiff, dbs]; first | done | (repeat (first | omega | assumption | (right; first | omega | assumption | (constructor <;> first | omega | assumption)) | left))) | (rw [Bool.not_eq_true]; simp only [sameCHead, recDiff, dbs]; first | done | omega | assumption | ((repeat' apply And.intro) <;> first | omega | assumption)) | (simp only [*, dbs]; done)))); rfl))) | (rw [hr0_1]; exact scan_end (by omega)) | (unfold sameC; ((repeat (first | (refine (if_pos ?_).trans ?_; solve | omega | assumption | (simp only [sameCHead, recDiff, dbs]; first | done | (repeat (first | omega | assumption | (right; first | omega | assumption | (constructor <;> first | omega | assumption)) | left))) | (rw [Bool.not_eq_true]; simp only [sameCHead, recDiff, dbs]; first | done | omega | assumption | ((repeat' apply And.intro) <;> first | omega | assumption)) | (simp only [*, dbs]; done)) | (refine (if_neg ?_).trans ?_; solve | omega | assumption | (simp only [sameCHead, recDiff, dbs]; first | done | (repeat (first | omega | assumption | (right; first | omega | assumption | (constructor <;> first | omega | assumption)) | left))) | (rw [Bool.not_eq_true]; simp only [sameCHead, recDiff, dbs]; first | done | omega | assumption | ((repeat' apply And.intro) <;> first | omega | assumption)) | (simp only [*, dbs]; done)))); rfl))
            exact ⟨_, rfl, s3972.keep, by rw [e]; exact rfl⟩
          ·have hp3988 : (x.recs[k]!).state ≠ (y.recs[k]!).state := by first | simpa using hb3968 | (have e := hb3968; simp at e; omega)
           refine wl_k rfl (wl_k rfl (wl_k rfl (wl_k rfl (wl_k rfl (wl_k rfl (wl_s (o_pickT (Value.bool true) rfl rfl (wl_s (o_move (Value.bool true) rfl (wl_k rfl (wl_k rfl (wl_k rfl (wl_k rfl (wl_k rfl (wl_k rfl (wl_s (o_pickT (Value.bool true) rfl rfl (wl_nil (thenQ_n (?_))))))))))))))))))))
           refine cw_cond true rfl rfl (fun _ => ?_) (fun h => by cases h)
           refine cw_seq (?_)
           refine cw_region (by kernel_rfl) (wl_s (o_assign (Value.bool false) rfl (wl_nil (thenQ_n (?_)))))
           refine cw_ret (blockQ_r (thenQ_r (thenQ_r (blockQ_r (thenQ_r (end_r rfl (res1 rfl rfl rfl) (?_)))))))
           have e : (sameC x y) = false := by first | (rw [hr0_1]; exact scan_some (by omega) (by ((repeat (first | (refine (if_pos ?_).trans ?_; solve | omega | assumption | (simp only [sameCHead, recDiff, dbs]; first | done | (repeat (first | omega | assumption | (right; first | omega | assumption | (constructor <;> first | omega | assumption)) | left))) | (rw [Bool.not_eq_true]; simp only [sameCHead, recDiff, dbs]; first | done | omega | assumption | ((repeat' apply And.intro) <;> first | omega | assumption)) | (simp only [*, dbs]; done)) | (refine (if_neg ?_).trans ?_; solve | omega | assumption | (simp only [sameCHead, recDiff, dbs]; first | done | (repeat (first | omega | assumption | (right; first | omega | assumption | (constructor <;> first | omega | assumption)) | left))) | (rw [Bool.not_eq_true]; simp only [sameCHead, recDiff, dbs]; first | done | omega | assumption | ((repeat' apply And.intro) <;> first | omega | assumption)) | (simp only [*, dbs]; done)))); rfl))) | (rw [hr0_1]; exact scan_end (by omega)) | (unfold sameC; ((repeat (first | (refine (if_pos ?_).trans ?_; solve | omega | assumption | (simp only [sameCHead, recDiff, dbs]; first | done | (repeat (first | omega | assumption | (right; first | omega | assumption | (constructor <;> first | omega | assumption)) | left))) | (rw [Bool.not_eq_true]; simp only [sameCHead, recDiff, dbs]; first | done | omega | assumption | ((repeat' apply And.intro) <;> first | omega | assumption)) | (simp only [*, dbs]; done)) | (refine (if_neg ?_).trans ?_; solve | omega | assumption | (simp only [sameCHead, recDiff, dbs]; first | done | (repeat (first | omega | assumption | (right; first | omega | assumption | (constructor <;> first | omega | assumption)) | left))) | (rw [Bool.not_eq_true]; simp only [sameCHead, recDiff, dbs]; first | done | omega | assumption | ((repeat' apply And.intro) <;> first | omega | assumption)) | (simp only [*, dbs]; done)))); rfl))
           exact ⟨_, rfl, s3956.keep, by rw [e]; exact rfl⟩
         ·have hp3989 : (x.recs[k]!).asked ≠ (y.recs[k]!).asked := by first | simpa using hb3966 | (have e := hb3966; simp at e; omega)
          refine wl_k rfl (wl_k rfl (wl_k rfl (wl_k rfl (wl_k rfl (wl_s (o_pickT (Value.bool true) rfl rfl (wl_s (o_move (Value.bool true) rfl (wl_k rfl (wl_k rfl (wl_k rfl (wl_k rfl (wl_k rfl (wl_k rfl (wl_s (o_pickT (Value.bool true) rfl rfl (wl_s (o_move (Value.bool true) rfl (wl_k rfl (wl_k rfl (wl_k rfl (wl_k rfl (wl_k rfl (wl_k rfl (wl_s (o_pickT (Value.bool true) rfl rfl (wl_nil (thenQ_n (?_)))))))))))))))))))))))))))))
          refine cw_cond true rfl rfl (fun _ => ?_) (fun h => by cases h)
          refine cw_seq (?_)
          refine cw_region (by kernel_rfl) (wl_s (o_assign (Value.bool false) rfl (wl_nil (thenQ_n (?_)))))
          refine cw_ret (blockQ_r (thenQ_r (thenQ_r (blockQ_r (thenQ_r (end_r rfl (res1 rfl rfl rfl) (?_)))))))
          have e : (sameC x y) = false := by first | (rw [hr0_1]; exact scan_some (by omega) (by ((repeat (first | (refine (if_pos ?_).trans ?_; solve | omega | assumption | (simp only [sameCHead, recDiff, dbs]; first | done | (repeat (first | omega | assumption | (right; first | omega | assumption | (constructor <;> first | omega | assumption)) | left))) | (rw [Bool.not_eq_true]; simp only [sameCHead, recDiff, dbs]; first | done | omega | assumption | ((repeat' apply And.intro) <;> first | omega | assumption)) | (simp only [*, dbs]; done)) | (refine (if_neg ?_).trans ?_; solve | omega | assumption | (simp only [sameCHead, recDiff, dbs]; first | done | (repeat (first | omega | assumption | (right; first | omega | assumption | (constructor <;> first | omega | assumption)) | left))) | (rw [Bool.not_eq_true]; simp only [sameCHead, recDiff, dbs]; first | done | omega | assumption | ((repeat' apply And.intro) <;> first | omega | assumption)) | (simp only [*, dbs]; done)))); rfl))) | (rw [hr0_1]; exact scan_end (by omega)) | (unfold sameC; ((repeat (first | (refine (if_pos ?_).trans ?_; solve | omega | assumption | (simp only [sameCHead, recDiff, dbs]; first | done | (repeat (first | omega | assumption | (right; first | omega | assumption | (constructor <;> first | omega | assumption)) | left))) | (rw [Bool.not_eq_true]; simp only [sameCHead, recDiff, dbs]; first | done | omega | assumption | ((repeat' apply And.intro) <;> first | omega | assumption)) | (simp only [*, dbs]; done)) | (refine (if_neg ?_).trans ?_; solve | omega | assumption | (simp only [sameCHead, recDiff, dbs]; first | done | (repeat (first | omega | assumption | (right; first | omega | assumption | (constructor <;> first | omega | assumption)) | left))) | (rw [Bool.not_eq_true]; simp only [sameCHead, recDiff, dbs]; first | done | omega | assumption | ((repeat' apply And.intro) <;> first | omega | assumption)) | (simp only [*, dbs]; done)))); rfl))
          exact ⟨_, rfl, s3956.keep, by rw [e]; exact rfl⟩
        ·have hp3990 : (x.recs[k]!).no ≠ (y.recs[k]!).no := by first | simpa using hb3964 | (have e := hb3964; simp at e; omega)
         refine wl_k rfl (wl_k rfl (wl_k rfl (wl_k rfl (wl_k rfl (wl_s (o_pickT (Value.bool true) rfl rfl (wl_s (o_move (Value.bool true) rfl (wl_k rfl (wl_k rfl (wl_k rfl (wl_k rfl (wl_k rfl (wl_s (o_pickT (Value.bool true) rfl rfl (wl_s (o_move (Value.bool true) rfl (wl_k rfl (wl_k rfl (wl_k rfl (wl_k rfl (wl_k rfl (wl_k rfl (wl_s (o_pickT (Value.bool true) rfl rfl (wl_s (o_move (Value.bool true) rfl (wl_k rfl (wl_k rfl (wl_k rfl (wl_k rfl (wl_k rfl (wl_k rfl (wl_s (o_pickT (Value.bool true) rfl rfl (wl_nil (thenQ_n (?_))))))))))))))))))))))))))))))))))))))
         refine cw_cond true rfl rfl (fun _ => ?_) (fun h => by cases h)
         refine cw_seq (?_)
         refine cw_region (by kernel_rfl) (wl_s (o_assign (Value.bool false) rfl (wl_nil (thenQ_n (?_)))))
         refine cw_ret (blockQ_r (thenQ_r (thenQ_r (blockQ_r (thenQ_r (end_r rfl (res1 rfl rfl rfl) (?_)))))))
         have e : (sameC x y) = false := by first | (rw [hr0_1]; exact scan_some (by omega) (by ((repeat (first | (refine (if_pos ?_).trans ?_; solve | omega | assumption | (simp only [sameCHead, recDiff, dbs]; first | done | (repeat (first | omega | assumption | (right; first | omega | assumption | (constructor <;> first | omega | assumption)) | left))) | (rw [Bool.not_eq_true]; simp only [sameCHead, recDiff, dbs]; first | done | omega | assumption | ((repeat' apply And.intro) <;> first | omega | assumption)) | (simp only [*, dbs]; done)) | (refine (if_neg ?_).trans ?_; solve | omega | assumption | (simp only [sameCHead, recDiff, dbs]; first | done | (repeat (first | omega | assumption | (right; first | omega | assumption | (constructor <;> first | omega | assumption)) | left))) | (rw [Bool.not_eq_true]; simp only [sameCHead, recDiff, dbs]; first | done | omega | assumption | ((repeat' apply And.intro) <;> first | omega | assumption)) | (simp only [*, dbs]; done)))); rfl))) | (rw [hr0_1]; exact scan_end (by omega)) | (unfold sameC; ((repeat (first | (refine (if_pos ?_).trans ?_; solve | omega | assumption | (simp only [sameCHead, recDiff, dbs]; first | done | (repeat (first | omega | assumption | (right; first | omega | assumption | (constructor <;> first | omega | assumption)) | left))) | (rw [Bool.not_eq_true]; simp only [sameCHead, recDiff, dbs]; first | done | omega | assumption | ((repeat' apply And.intro) <;> first | omega | assumption)) | (simp only [*, dbs]; done)) | (refine (if_neg ?_).trans ?_; solve | omega | assumption | (simp only [sameCHead, recDiff, dbs]; first | done | (repeat (first | omega | assumption | (right; first | omega | assumption | (constructor <;> first | omega | assumption)) | left))) | (rw [Bool.not_eq_true]; simp only [sameCHead, recDiff, dbs]; first | done | omega | assumption | ((repeat' apply And.intro) <;> first | omega | assumption)) | (simp only [*, dbs]; done)))); rfl))
         exact ⟨_, rfl, s3956.keep, by rw [e]; exact rfl⟩
       ·have hp3991 : (x.recs.length : Int) ≤ ((k : Nat) : Int) := by first | simpa using hc3913 | (have e := hc3913; simp at e; omega)
        refine cw_exit (thenQ_x (thenQ_x (blockQ_x (thenQ_n (?_)))))
        refine cw_seq (?_)
        refine cw_region (by kernel_rfl) (wl_s (o_assign (Value.bool true) rfl (wl_nil (thenQ_n (?_)))))
        refine cw_ret (end_r rfl (res1 rfl rfl rfl) (?_))
        have e : (sameC x y) = true := by first | (rw [hr0_1]; exact scan_some (by omega) (by ((repeat (first | (refine (if_pos ?_).trans ?_; solve | omega | assumption | (simp only [sameCHead, recDiff, dbs]; first | done | (repeat (first | omega | assumption | (right; first | omega | assumption | (constructor <;> first | omega | assumption)) | left))) | (rw [Bool.not_eq_true]; simp only [sameCHead, recDiff, dbs]; first | done | omega | assumption | ((repeat' apply And.intro) <;> first | omega | assumption)) | (simp only [*, dbs]; done)) | (refine (if_neg ?_).trans ?_; solve | omega | assumption | (simp only [sameCHead, recDiff, dbs]; first | done | (repeat (first | omega | assumption | (right; first | omega | assumption | (constructor <;> first | omega | assumption)) | left))) | (rw [Bool.not_eq_true]; simp only [sameCHead, recDiff, dbs]; first | done | omega | assumption | ((repeat' apply And.intro) <;> first | omega | assumption)) | (simp only [*, dbs]; done)))); rfl))) | (rw [hr0_1]; exact scan_end (by omega)) | (unfold sameC; ((repeat (first | (refine (if_pos ?_).trans ?_; solve | omega | assumption | (simp only [sameCHead, recDiff, dbs]; first | done | (repeat (first | omega | assumption | (right; first | omega | assumption | (constructor <;> first | omega | assumption)) | left))) | (rw [Bool.not_eq_true]; simp only [sameCHead, recDiff, dbs]; first | done | omega | assumption | ((repeat' apply And.intro) <;> first | omega | assumption)) | (simp only [*, dbs]; done)) | (refine (if_neg ?_).trans ?_; solve | omega | assumption | (simp only [sameCHead, recDiff, dbs]; first | done | (repeat (first | omega | assumption | (right; first | omega | assumption | (constructor <;> first | omega | assumption)) | left))) | (rw [Bool.not_eq_true]; simp only [sameCHead, recDiff, dbs]; first | done | omega | assumption | ((repeat' apply And.intro) <;> first | omega | assumption)) | (simp only [*, dbs]; done)))); rfl))
        exact ⟨_, rfl, sl0.keep, by rw [e]; exact rfl⟩
    ·have hp3992 : (sameIM x.guardians y.guardians) = false := by first | simpa using hb3896 | (have e := hb3896; simp at e; omega)
     refine wl_k rfl (wl_k rfl (wl_k rfl (wl_k rfl (wl_k rfl (wl_k rfl (wl_k rfl (wl_s (o_pickT (Value.bool true) rfl rfl (wl_nil (thenQ_n (?_)))))))))))
     refine cw_cond true rfl rfl (fun _ => ?_) (fun h => by cases h)
     refine cw_seq (?_)
     refine cw_region (by kernel_rfl) (wl_s (o_assign (Value.bool false) rfl (wl_nil (thenQ_n (?_)))))
     refine cw_ret (thenQ_r (end_r rfl (res1 rfl rfl rfl) (?_)))
     have e : (sameC x y) = false := by first | (rw [hr0_1]; exact scan_some (by omega) (by ((repeat (first | (refine (if_pos ?_).trans ?_; solve | omega | assumption | (simp only [sameCHead, recDiff, dbs]; first | done | (repeat (first | omega | assumption | (right; first | omega | assumption | (constructor <;> first | omega | assumption)) | left))) | (rw [Bool.not_eq_true]; simp only [sameCHead, recDiff, dbs]; first | done | omega | assumption | ((repeat' apply And.intro) <;> first | omega | assumption)) | (simp only [*, dbs]; done)) | (refine (if_neg ?_).trans ?_; solve | omega | assumption | (simp only [sameCHead, recDiff, dbs]; first | done | (repeat (first | omega | assumption | (right; first | omega | assumption | (constructor <;> first | omega | assumption)) | left))) | (rw [Bool.not_eq_true]; simp only [sameCHead, recDiff, dbs]; first | done | omega | assumption | ((repeat' apply And.intro) <;> first | omega | assumption)) | (simp only [*, dbs]; done)))); rfl))) | (rw [hr0_1]; exact scan_end (by omega)) | (unfold sameC; ((repeat (first | (refine (if_pos ?_).trans ?_; solve | omega | assumption | (simp only [sameCHead, recDiff, dbs]; first | done | (repeat (first | omega | assumption | (right; first | omega | assumption | (constructor <;> first | omega | assumption)) | left))) | (rw [Bool.not_eq_true]; simp only [sameCHead, recDiff, dbs]; first | done | omega | assumption | ((repeat' apply And.intro) <;> first | omega | assumption)) | (simp only [*, dbs]; done)) | (refine (if_neg ?_).trans ?_; solve | omega | assumption | (simp only [sameCHead, recDiff, dbs]; first | done | (repeat (first | omega | assumption | (right; first | omega | assumption | (constructor <;> first | omega | assumption)) | left))) | (rw [Bool.not_eq_true]; simp only [sameCHead, recDiff, dbs]; first | done | omega | assumption | ((repeat' apply And.intro) <;> first | omega | assumption)) | (simp only [*, dbs]; done)))); rfl))
     exact ⟨_, rfl, s3892.keep, by rw [e]; exact rfl⟩
   ·have hp3993 : x.wait ≠ y.wait := by first | simpa using hb3880 | (have e := hb3880; simp at e; omega)
    refine wl_k rfl (wl_k rfl (wl_k rfl (wl_k rfl (wl_k rfl (wl_k rfl (wl_s (o_pickT (Value.bool true) rfl rfl (wl_s (o_move (Value.bool true) rfl (wl_k rfl (wl_k rfl (wl_k rfl (wl_k rfl (wl_k rfl (wl_k rfl (wl_k rfl (wl_s (o_pickT (Value.bool true) rfl rfl (wl_nil (thenQ_n (?_)))))))))))))))))))))
    refine cw_cond true rfl rfl (fun _ => ?_) (fun h => by cases h)
    refine cw_seq (?_)
    refine cw_region (by kernel_rfl) (wl_s (o_assign (Value.bool false) rfl (wl_nil (thenQ_n (?_)))))
    refine cw_ret (thenQ_r (end_r rfl (res1 rfl rfl rfl) (?_)))
    have e : (sameC x y) = false := by first | (rw [hr0_1]; exact scan_some (by omega) (by ((repeat (first | (refine (if_pos ?_).trans ?_; solve | omega | assumption | (simp only [sameCHead, recDiff, dbs]; first | done | (repeat (first | omega | assumption | (right; first | omega | assumption | (constructor <;> first | omega | assumption)) | left))) | (rw [Bool.not_eq_true]; simp only [sameCHead, recDiff, dbs]; first | done | omega | assumption | ((repeat' apply And.intro) <;> first | omega | assumption)) | (simp only [*, dbs]; done)) | (refine (if_neg ?_).trans ?_; solve | omega | assumption | (simp only [sameCHead, recDiff, dbs]; first | done | (repeat (first | omega | assumption | (right; first | omega | assumption | (constructor <;> first | omega | assumption)) | left))) | (rw [Bool.not_eq_true]; simp only [sameCHead, recDiff, dbs]; first | done | omega | assumption | ((repeat' apply And.intro) <;> first | omega | assumption)) | (simp only [*, dbs]; done)))); rfl))) | (rw [hr0_1]; exact scan_end (by omega)) | (unfold sameC; ((repeat (first | (refine (if_pos ?_).trans ?_; solve | omega | assumption | (simp only [sameCHead, recDiff, dbs]; first | done | (repeat (first | omega | assumption | (right; first | omega | assumption | (constructor <;> first | omega | assumption)) | left))) | (rw [Bool.not_eq_true]; simp only [sameCHead, recDiff, dbs]; first | done | omega | assumption | ((repeat' apply And.intro) <;> first | omega | assumption)) | (simp only [*, dbs]; done)) | (refine (if_neg ?_).trans ?_; solve | omega | assumption | (simp only [sameCHead, recDiff, dbs]; first | done | (repeat (first | omega | assumption | (right; first | omega | assumption | (constructor <;> first | omega | assumption)) | left))) | (rw [Bool.not_eq_true]; simp only [sameCHead, recDiff, dbs]; first | done | omega | assumption | ((repeat' apply And.intro) <;> first | omega | assumption)) | (simp only [*, dbs]; done)))); rfl))
    exact ⟨_, rfl, s3860.keep, by rw [e]; exact rfl⟩
  ·have hp3994 : x.threshold ≠ y.threshold := by first | simpa using hb3874 | (have e := hb3874; simp at e; omega)
   refine wl_k rfl (wl_k rfl (wl_k rfl (wl_k rfl (wl_k rfl (wl_s (o_pickT (Value.bool true) rfl rfl (wl_s (o_move (Value.bool true) rfl (wl_k rfl (wl_k rfl (wl_k rfl (wl_k rfl (wl_k rfl (wl_k rfl (wl_s (o_pickT (Value.bool true) rfl rfl (wl_s (o_move (Value.bool true) rfl (wl_k rfl (wl_k rfl (wl_k rfl (wl_k rfl (wl_k rfl (wl_k rfl (wl_k rfl (wl_s (o_pickT (Value.bool true) rfl rfl (wl_nil (thenQ_n (?_))))))))))))))))))))))))))))))
   refine cw_cond true rfl rfl (fun _ => ?_) (fun h => by cases h)
   refine cw_seq (?_)
   refine cw_region (by kernel_rfl) (wl_s (o_assign (Value.bool false) rfl (wl_nil (thenQ_n (?_)))))
   refine cw_ret (thenQ_r (end_r rfl (res1 rfl rfl rfl) (?_)))
   have e : (sameC x y) = false := by first | (rw [hr0_1]; exact scan_some (by omega) (by ((repeat (first | (refine (if_pos ?_).trans ?_; solve | omega | assumption | (simp only [sameCHead, recDiff, dbs]; first | done | (repeat (first | omega | assumption | (right; first | omega | assumption | (constructor <;> first | omega | assumption)) | left))) | (rw [Bool.not_eq_true]; simp only [sameCHead, recDiff, dbs]; first | done | omega | assumption | ((repeat' apply And.intro) <;> first | omega | assumption)) | (simp only [*, dbs]; done)) | (refine (if_neg ?_).trans ?_; solve | omega | assumption | (simp only [sameCHead, recDiff, dbs]; first | done | (repeat (first | omega | assumption | (right; first | omega | assumption | (constructor <;> first | omega | assumption)) | left))) | (rw [Bool.not_eq_true]; simp only [sameCHead, recDiff, dbs]; first | done | omega | assumption | ((repeat' apply And.intro) <;> first | omega | assumption)) | (simp only [*, dbs]; done)))); rfl))) | (rw [hr0_1]; exact scan_end (by omega)) | (unfold sameC; ((repeat (first | (refine (if_pos ?_).trans ?_; solve | omega | assumption | (simp only [sameCHead, recDiff, dbs]; first | done | (repeat (first | omega | assumption | (right; first | omega | assumption | (constructor <;> first | omega | assumption)) | left))) | (rw [Bool.not_eq_true]; simp only [sameCHead, recDiff, dbs]; first | done | omega | assumption | ((repeat' apply And.intro) <;> first | omega | assumption)) | (simp only [*, dbs]; done)) | (refine (if_neg ?_).trans ?_; solve | omega | assumption | (simp only [sameCHead, recDiff, dbs]; first | done | (repeat (first | omega | assumption | (right; first | omega | assumption | (constructor <;> first | omega | assumption)) | left))) | (rw [Bool.not_eq_true]; simp only [sameCHead, recDiff, dbs]; first | done | omega | assumption | ((repeat' apply And.intro) <;> first | omega | assumption)) | (simp only [*, dbs]; done)))); rfl))
   exact ⟨_, rfl, s3860.keep, by rw [e]; exact rfl⟩
 ·have hp3995 : x.epoch ≠ y.epoch := by first | simpa using hb3868 | (have e := hb3868; simp at e; omega)
  refine wl_k rfl (wl_k rfl (wl_k rfl (wl_k rfl (wl_k rfl (wl_s (o_pickT (Value.bool true) rfl rfl (wl_s (o_move (Value.bool true) rfl (wl_k rfl (wl_k rfl (wl_k rfl (wl_k rfl (wl_k rfl (wl_s (o_pickT (Value.bool true) rfl rfl (wl_s (o_move (Value.bool true) rfl (wl_k rfl (wl_k rfl (wl_k rfl (wl_k rfl (wl_k rfl (wl_k rfl (wl_s (o_pickT (Value.bool true) rfl rfl (wl_s (o_move (Value.bool true) rfl (wl_k rfl (wl_k rfl (wl_k rfl (wl_k rfl (wl_k rfl (wl_k rfl (wl_k rfl (wl_s (o_pickT (Value.bool true) rfl rfl (wl_nil (thenQ_n (?_)))))))))))))))))))))))))))))))))))))))
  refine cw_cond true rfl rfl (fun _ => ?_) (fun h => by cases h)
  refine cw_seq (?_)
  refine cw_region (by kernel_rfl) (wl_s (o_assign (Value.bool false) rfl (wl_nil (thenQ_n (?_)))))
  refine cw_ret (thenQ_r (end_r rfl (res1 rfl rfl rfl) (?_)))
  have e : (sameC x y) = false := by first | (rw [hr0_1]; exact scan_some (by omega) (by ((repeat (first | (refine (if_pos ?_).trans ?_; solve | omega | assumption | (simp only [sameCHead, recDiff, dbs]; first | done | (repeat (first | omega | assumption | (right; first | omega | assumption | (constructor <;> first | omega | assumption)) | left))) | (rw [Bool.not_eq_true]; simp only [sameCHead, recDiff, dbs]; first | done | omega | assumption | ((repeat' apply And.intro) <;> first | omega | assumption)) | (simp only [*, dbs]; done)) | (refine (if_neg ?_).trans ?_; solve | omega | assumption | (simp only [sameCHead, recDiff, dbs]; first | done | (repeat (first | omega | assumption | (right; first | omega | assumption | (constructor <;> first | omega | assumption)) | left))) | (rw [Bool.not_eq_true]; simp only [sameCHead, recDiff, dbs]; first | done | omega | assumption | ((repeat' apply And.intro) <;> first | omega | assumption)) | (simp only [*, dbs]; done)))); rfl))) | (rw [hr0_1]; exact scan_end (by omega)) | (unfold sameC; ((repeat (first | (refine (if_pos ?_).trans ?_; solve | omega | assumption | (simp only [sameCHead, recDiff, dbs]; first | done | (repeat (first | omega | assumption | (right; first | omega | assumption | (constructor <;> first | omega | assumption)) | left))) | (rw [Bool.not_eq_true]; simp only [sameCHead, recDiff, dbs]; first | done | omega | assumption | ((repeat' apply And.intro) <;> first | omega | assumption)) | (simp only [*, dbs]; done)) | (refine (if_neg ?_).trans ?_; solve | omega | assumption | (simp only [sameCHead, recDiff, dbs]; first | done | (repeat (first | omega | assumption | (right; first | omega | assumption | (constructor <;> first | omega | assumption)) | left))) | (rw [Bool.not_eq_true]; simp only [sameCHead, recDiff, dbs]; first | done | omega | assumption | ((repeat' apply And.intro) <;> first | omega | assumption)) | (simp only [*, dbs]; done)))); rfl))
  exact ⟨_, rfl, s3860.keep, by rw [e]; exact rfl⟩
set_option maxHeartbeats 4000000 in
set_option maxRecDepth 100000 in
theorem c_few {O : List Nat} (c_cs : List Value) (c : Circle) (w : World) (h_c : Enc.circle.rd w O c_cs c) (hO : ∀ b ∈ O, b < w.heap.size) : CallsK Try.prog 10 [.agg c_cs.toArray] w (fun v _ => v = .bool (fewC c)) :=  by
 have h_c : Enc.circle.rd w ([] ++ O) c_cs c := h_c
 have s0 : St w O w [] := St.start hO
 refine callsK_of 39 Try.func10 rfl rfl (of_decide_eq_true rfl) (fun F0 => ?_)
 refine cw_seq (?_)
 refine cw_region (by kernel_rfl) (wl_s (o_boxR (E := Enc.circle) (Value.agg c_cs.toArray) (c_cs) c rfl rfl h_c s0 fun a3996 w3997 s3998 m3999 k4000 hp4001 => (?_)))
 refine wl_s (o_assign (Value.bool false) rfl (wl_nil (thenQ_n (?_))))
 refine cw_seq (?_)
 refine cw_seq (?_)
 refine cw_region (by kernel_rfl) (wl_s (o_assign (vI (0 : Int)) rfl (wl_nil (thenQ_n (?_)))))
 refine cw_block (?_)
 refine cw_loop (fun mI FI wI => ∃ (k : Nat), k ≤ c.recs.length ∧ fewC c = scan (fun k => if fewBad c k then some false else none) (decide ((c.guardians.length : Int) ≤ 12) && decide ((c.recs.length : Int) ≤ 20)) k (c.recs.length - k) ∧ mI = c.recs.length - k ∧ (∃ F1, FI = upds F1 [(1, Value.pointer (some a3996)), (3, vI ((k : Nat) : Int)), (39, undef)]) ∧ w3997 = wI) (c.recs.length - (0)) ?_ ?_
 ·exact ⟨(0), (by first | omega | (simp; done) | (simp; omega) | simp_all), rfl, rfl, ⟨_, upds_self _ ⟨rfl, (by first | rfl | exact congrArg (Value.int _) (by first | omega | (simp))), rfl, trivial⟩⟩, rfl⟩
 ·rintro ml0 F wl0 ⟨k, hr0_0, hr0_1, hm0, ⟨Fl0, rfl⟩, rfl⟩
  refine cw_seq (?_)
  refine cw_seq (?_)
  refine cw_region (by kernel_rfl) (wl_s (o_move (vI ((k : Nat) : Int)) rfl (wl_s (o_fieldR 4 f_25_4 (c.recs) rfl hp4001 (fun _ _ _ h => Enc_circle_f4 h) fun a4002 hp4003 => (wl_s (o_loadL Try.underlying23 rfl rfl hp4003 fun v4004 hl4005 => (?_)))))))
  have := hl4005.len_le
  refine wl_s (o_lenR Try.underlying23 rfl hl4005 (wl_s (o_lss .i64 ((k : Nat) : Int) (c.recs.length : Int) rfl rfl (wl_nil (thenQ_n (?_))))))
  refine cw_cond (decide (((k : Nat) : Int) < (c.recs.length : Int))) rfl rfl (fun hc4006 => ?_) (fun hc4006 => ?_)
  ·have hp4007 : ((k : Nat) : Int) < (c.recs.length : Int) := by first | simpa using hc4006 | (have e := hc4006; simp at e; omega)
   refine cw_skip (thenQ_n (?_))
   refine cw_seq (?_)
   refine cw_block (?_)
   refine cw_seq (?_)
   refine cw_region (by kernel_rfl) (wl_s (o_fieldR 4 f_25_4 (c.recs) rfl hp4001 (fun _ _ _ h => Enc_circle_f4 h) fun a4008 hp4009 => (wl_s (o_loadL Try.underlying23 rfl rfl hp4009 fun v4010 hl4011 => (?_)))))
   have := hl4011.len_le
   refine wl_s (o_move (vI ((k : Nat) : Int)) rfl (wl_s (o_idx Try.underlying23 s_47 .i64 ((k : Nat) : Int) k rfl rfl rfl hl4011 (by omega) fun a4012 hp4013 => (wl_s (o_fieldR 3 f_47_3 ((c.recs[k]!).approved) rfl hp4013 (fun _ _ _ h => Enc_recovery_f3 h) fun a4014 hp4015 => (wl_s (o_loadL Try.underlying22 rfl rfl hp4015 fun v4016 hl4017 => (?_))))))))
   have := hl4017.len_le
   refine wl_s (o_lenR Try.underlying22 rfl hl4017 (wl_s (o_gtr .i64 (((c.recs[k]!).approved).length : Int) (20 : Int) rfl rfl (wl_s (o_move (Value.bool (decide ((20 : Int) < (((c.recs[k]!).approved).length : Int)))) rfl (?_))))))
   cases hb4018 : (decide ((20 : Int) < (((c.recs[k]!).approved).length : Int)))
   ·have hp4019 : (((c.recs[k]!).approved).length : Int) ≤ (20 : Int) := by first | simpa using hb4018 | (have e := hb4018; simp at e; omega)
    refine wl_t rfl (o_fieldR 4 f_25_4 (c.recs) rfl hp4001 (fun _ _ _ h => Enc_circle_f4 h) fun a4020 hp4021 => (wl_t rfl (o_loadL Try.underlying23 rfl rfl hp4021 fun v4022 hl4023 => (?_))))
    have := hl4023.len_le
    refine wl_t rfl (o_move (vI ((k : Nat) : Int)) rfl (wl_t rfl (o_idx Try.underlying23 s_47 .i64 ((k : Nat) : Int) k rfl rfl rfl hl4023 (by omega) fun a4024 hp4025 => (wl_t rfl (o_fieldR 4 f_47_4 ((c.recs[k]!).vetoed) rfl hp4025 (fun _ _ _ h => Enc_recovery_f4 h) fun a4026 hp4027 => (wl_t rfl (o_loadL Try.underlying22 rfl rfl hp4027 fun v4028 hl4029 => (?_))))))))
    have := hl4029.len_le
    refine wl_t rfl (o_lenR Try.underlying22 rfl hl4029 (wl_t rfl (o_gtr .i64 (((c.recs[k]!).vetoed).length : Int) (20 : Int) rfl rfl (wl_s (o_pickF (Value.bool (decide ((20 : Int) < (((c.recs[k]!).vetoed).length : Int)))) rfl rfl (wl_nil (thenQ_n (?_))))))))
    refine cw_cond (decide ((20 : Int) < (((c.recs[k]!).vetoed).length : Int))) rfl rfl (fun hc4030 => ?_) (fun hc4030 => ?_)
    ·have hp4031 : (20 : Int) < (((c.recs[k]!).vetoed).length : Int) := by first | simpa using hc4030 | (have e := hc4030; simp at e; omega)
     refine cw_seq (?_)
     refine cw_region (by kernel_rfl) (wl_s (o_assign (Value.bool false) rfl (wl_nil (thenQ_n (?_)))))
     refine cw_ret (blockQ_r (thenQ_r (thenQ_r (blockQ_r (thenQ_r (end_r rfl (res1 rfl rfl rfl) (?_)))))))
     have e : (fewC c) = false := by first | (rw [hr0_1]; exact scan_some (by omega) (by ((repeat (first | (refine (if_pos ?_).trans ?_; solve | omega | assumption | (simp only [fewBad, dbs]; first | done | (repeat (first | omega | assumption | (right; first | omega | assumption | (constructor <;> first | omega | assumption)) | left))) | (rw [Bool.not_eq_true]; simp only [fewBad, dbs]; first | done | omega | assumption | ((repeat' apply And.intro) <;> first | omega | assumption)) | (simp only [*, dbs]; done)) | (refine (if_neg ?_).trans ?_; solve | omega | assumption | (simp only [fewBad, dbs]; first | done | (repeat (first | omega | assumption | (right; first | omega | assumption | (constructor <;> first | omega | assumption)) | left))) | (rw [Bool.not_eq_true]; simp only [fewBad, dbs]; first | done | omega | assumption | ((repeat' apply And.intro) <;> first | omega | assumption)) | (simp only [*, dbs]; done)))); rfl))) | (rw [hr0_1, scan_end (by omega)]; simp [*])
     exact ⟨_, rfl, s3998.keep, by rw [e]; exact rfl⟩
    ·have hp4032 : (((c.recs[k]!).vetoed).length : Int) ≤ (20 : Int) := by first | simpa using hc4030 | (have e := hc4030; simp at e; omega)
     refine cw_skip (blockQ_n (thenQ_n (?_)))
     refine cw_region (by kernel_rfl) (wl_s (o_move (vI ((k : Nat) : Int)) rfl (wl_s (o_add .i64 ((k : Nat) : Int) (1 : Int) (((k + 1 : Nat) : Int)) rfl rfl (w64 (by omega) (by omega)) (wl_s (o_assign (vI ((k + 1 : Nat) : Int)) rfl (wl_nil (thenQ_n (?_)))))))))
     exact ⟨_, (by omega), (k + 1), (by first | omega | (simp; done) | (simp; omega) | simp_all), (hr0_1.trans (scan_none (by omega) (by ((repeat (first | (refine (if_pos ?_).trans ?_; solve | omega | assumption | (simp only [fewBad, dbs]; first | done | (repeat (first | omega | assumption | (right; first | omega | assumption | (constructor <;> first | omega | assumption)) | left))) | (rw [Bool.not_eq_true]; simp only [fewBad, dbs]; first | done | omega | assumption | ((repeat' apply And.intro) <;> first | omega | assumption)) | (simp only [*, dbs]; done)) | (refine (if_neg ?_).trans ?_; solve | omega | assumption | (simp only [fewBad, dbs]; first | done | (repeat (first | omega | assumption | (right; first | omega | assumption | (constructor <;> first | omega | assumption)) | left))) | (rw [Bool.not_eq_true]; simp only [fewBad, dbs]; first | done | omega | assumption | ((repeat' apply And.intro) <;> first | omega | assumption)) | (simp only [*, dbs]; done)))); rfl)))), rfl, ⟨_, upds_self _ ⟨rfl, (by first | rfl | exact congrArg (Value.int _) (by first | omega | (simp))), rfl, trivial⟩⟩, rfl⟩
   ·have hp4033 : (20 : Int) < (((c.recs[k]!).approved).length : Int) := by first | simpa using hb4018 | (have e := hb4018; simp at e; omega)
    refine wl_k rfl (wl_k rfl (wl_k rfl (wl_k rfl (wl_k rfl (wl_k rfl (wl_k rfl (wl_k rfl (wl_s (o_pickT (Value.bool true) rfl rfl (wl_nil (thenQ_n (?_))))))))))))
    refine cw_cond true rfl rfl (fun _ => ?_) (fun h => by cases h)
    refine cw_seq (?_)
    refine cw_region (by kernel_rfl) (wl_s (o_assign (Value.bool false) rfl (wl_nil (thenQ_n (?_)))))
    refine cw_ret (blockQ_r (thenQ_r (thenQ_r (blockQ_r (thenQ_r (end_r rfl (res1 rfl rfl rfl) (?_)))))))
    have e : (fewC c) = false := by first | (rw [hr0_1]; exact scan_some (by omega) (by ((repeat (first | (refine (if_pos ?_).trans ?_; solve | omega | assumption | (simp only [fewBad, dbs]; first | done | (repeat (first | omega | assumption | (right; first | omega | assumption | (constructor <;> first | omega | assumption)) | left))) | (rw [Bool.not_eq_true]; simp only [fewBad, dbs]; first | done | omega | assumption | ((repeat' apply And.intro) <;> first | omega | assumption)) | (simp only [*, dbs]; done)) | (refine (if_neg ?_).trans ?_; solve | omega | assumption | (simp only [fewBad, dbs]; first | done | (repeat (first | omega | assumption | (right; first | omega | assumption | (constructor <;> first | omega | assumption)) | left))) | (rw [Bool.not_eq_true]; simp only [fewBad, dbs]; first | done | omega | assumption | ((repeat' apply And.intro) <;> first | omega | assumption)) | (simp only [*, dbs]; done)))); rfl))) | (rw [hr0_1, scan_end (by omega)]; simp [*])
    exact ⟨_, rfl, s3998.keep, by rw [e]; exact rfl⟩
  ·have hp4034 : (c.recs.length : Int) ≤ ((k : Nat) : Int) := by first | simpa using hc4006 | (have e := hc4006; simp at e; omega)
   refine cw_exit (thenQ_x (thenQ_x (blockQ_x (thenQ_n (?_)))))
   refine cw_seq (?_)
   refine cw_region (by kernel_rfl) (wl_s (o_fieldR 3 f_25_3 (c.guardians) rfl hp4001 (fun _ _ _ h => Enc_circle_f3 h) fun a4035 hp4036 => (wl_s (o_loadL Try.underlying22 rfl rfl hp4036 fun v4037 hl4038 => (?_)))))
   have := hl4038.len_le
   refine wl_s (o_lenR Try.underlying22 rfl hl4038 (wl_s (o_leq .i64 (c.guardians.length : Int) (12 : Int) rfl rfl (wl_s (o_move (Value.bool (decide ((c.guardians.length : Int) ≤ (12 : Int)))) rfl (?_))))))
   cases hb4039 : (decide ((c.guardians.length : Int) ≤ (12 : Int)))
   ·have hp4040 : (12 : Int) < (c.guardians.length : Int) := by first | simpa using hb4039 | (have e := hb4039; simp at e; omega)
    refine wl_k rfl (wl_k rfl (wl_k rfl (wl_k rfl (wl_s (o_pickF (Value.bool false) rfl rfl (wl_s (o_assign (Value.bool false) rfl (wl_nil (thenQ_n (?_))))))))))
    refine cw_ret (end_r rfl (res1 rfl rfl rfl) (?_))
    have e : (fewC c) = false := by first | (rw [hr0_1]; exact scan_some (by omega) (by ((repeat (first | (refine (if_pos ?_).trans ?_; solve | omega | assumption | (simp only [fewBad, dbs]; first | done | (repeat (first | omega | assumption | (right; first | omega | assumption | (constructor <;> first | omega | assumption)) | left))) | (rw [Bool.not_eq_true]; simp only [fewBad, dbs]; first | done | omega | assumption | ((repeat' apply And.intro) <;> first | omega | assumption)) | (simp only [*, dbs]; done)) | (refine (if_neg ?_).trans ?_; solve | omega | assumption | (simp only [fewBad, dbs]; first | done | (repeat (first | omega | assumption | (right; first | omega | assumption | (constructor <;> first | omega | assumption)) | left))) | (rw [Bool.not_eq_true]; simp only [fewBad, dbs]; first | done | omega | assumption | ((repeat' apply And.intro) <;> first | omega | assumption)) | (simp only [*, dbs]; done)))); rfl))) | (rw [hr0_1, scan_end (by omega)]; simp [*])
    exact ⟨_, rfl, s3998.keep, by rw [e]; exact rfl⟩
   ·have hp4041 : (c.guardians.length : Int) ≤ (12 : Int) := by first | simpa using hb4039 | (have e := hb4039; simp at e; omega)
    refine wl_t rfl (o_fieldR 4 f_25_4 (c.recs) rfl hp4001 (fun _ _ _ h => Enc_circle_f4 h) fun a4042 hp4043 => (wl_t rfl (o_loadL Try.underlying23 rfl rfl hp4043 fun v4044 hl4045 => (?_))))
    have := hl4045.len_le
    refine wl_t rfl (o_lenR Try.underlying23 rfl hl4045 (wl_t rfl (o_leq .i64 (c.recs.length : Int) (20 : Int) rfl rfl (wl_s (o_pickT (Value.bool (decide ((c.recs.length : Int) ≤ (20 : Int)))) rfl rfl (wl_s (o_assign (Value.bool (decide ((c.recs.length : Int) ≤ (20 : Int)))) rfl (wl_nil (thenQ_n (?_))))))))))
    refine cw_ret (end_r rfl (res1 rfl rfl rfl) (?_))
    have e : (fewC c) = (decide ((c.recs.length : Int) ≤ (20 : Int))) := by first | (rw [hr0_1]; exact scan_some (by omega) (by ((repeat (first | (refine (if_pos ?_).trans ?_; solve | omega | assumption | (simp only [fewBad, dbs]; first | done | (repeat (first | omega | assumption | (right; first | omega | assumption | (constructor <;> first | omega | assumption)) | left))) | (rw [Bool.not_eq_true]; simp only [fewBad, dbs]; first | done | omega | assumption | ((repeat' apply And.intro) <;> first | omega | assumption)) | (simp only [*, dbs]; done)) | (refine (if_neg ?_).trans ?_; solve | omega | assumption | (simp only [fewBad, dbs]; first | done | (repeat (first | omega | assumption | (right; first | omega | assumption | (constructor <;> first | omega | assumption)) | left))) | (rw [Bool.not_eq_true]; simp only [fewBad, dbs]; first | done | omega | assumption | ((repeat' apply And.intro) <;> first | omega | assumption)) | (simp only [*, dbs]; done)))); rfl))) | (rw [hr0_1, scan_end (by omega)]; simp [*])
    exact ⟨_, rfl, s3998.keep, by rw [e]; exact rfl⟩

end Go.Proofs.Ytpdekmknnpkmgaa
