/- Walks, printed by gen.py. -/
import Derived.Test.YtjpniibleelgiaaXi
import Derived.Test.YtjpniibleelgiaaXb
set_option linter.unusedSimpArgs false
set_option linter.unusedVariables false
namespace Go.Proofs.Ytjpniibleelgiaa
open Go.Fw Go.RowKit

set_option maxHeartbeats 4000000 in
set_option maxRecDepth 100000 in
theorem c_idxD {O : List Nat} (l_v : Value) (l : List DeviceOp) (o_cs : List Value) (o : DeviceOp) (w : World) (h_l : RdL Enc.devop w O l_v l) (h_o : Enc.devop.rd w O o_cs o) (hO : ∀ b ∈ O, b < w.heap.size) : CallsK Try.prog 88 [l_v, .agg o_cs.toArray] w (fun v _ => v = vI (idxD l o)) :=  by
 have lim_l := h_l.len_le
 have h_l : RdL Enc.devop w ([] ++ O) l_v l := h_l
 obtain rfl := h_o
 have s0 : St w O w [] := St.start hO
 refine callsK_of 19 Try.func88 rfl rfl (of_decide_eq_true rfl) (fun F0 => ?_)
 refine cw_seq (?_)
 refine cw_region (by kernel_rfl) (wl_s (o_boxR (E := Enc.devop) (Value.agg #[vI o.device, vI o.no, vI o.kind, vI o.copy, vI o.to, vI o.token]) ([vI o.device, vI o.no, vI o.kind, vI o.copy, vI o.to, vI o.token]) o rfl rfl rfl s0 fun a478 w479 s480 m481 k482 hp483 => (?_)))
 have h_l := h_l.mv m481
 refine wl_s (o_assign (vI (0 : Int)) rfl (wl_nil (thenQ_n (?_))))
 refine cw_seq (?_)
 refine cw_seq (?_)
 refine cw_region (by kernel_rfl) (wl_s (o_move (l_v) rfl (wl_s (o_lenR Try.underlying26 rfl h_l (wl_s (o_move (vI (0 : Int)) rfl (wl_nil (thenQ_n (?_)))))))))
 refine cw_block (?_)
 refine cw_loop (fun mI FI wI => ∃ (k : Nat) (B : List Nat), k ≤ l.length ∧ idxD l o = scan (fun k => if o == l[k]! then some (k : Int) else none) (-1) k (l.length - k) ∧ mI = l.length - k ∧ (∃ F1, FI = upds F1 [(0, l_v), (3, Value.pointer (some a478)), (7, vI (l.length : Int)), (8, vI ((k : Nat) : Int)), (19, undef)]) ∧ St w O wI B ∧ RdL Enc.devop wI (B ++ O) (l_v) (l) ∧ PT Enc.devop wI (B ++ O) (.pointer (some a478)) (o)) (l.length - (0)) ?_ ?_
 ·exact ⟨(0), [], (by first | omega | (simp; done) | (simp; omega) | simp_all), rfl, rfl, ⟨_, upds_self _ ⟨rfl, rfl, rfl, (by first | rfl | exact congrArg (Value.int _) (by first | omega | (simp))), rfl, trivial⟩⟩, s480, h_l, hp483⟩
 ·intro ml0 F wl0 hI
  clear h_l hp483
  obtain ⟨k, Bl0, hr0_0, hr0_1, hm0, ⟨Fl0, rfl⟩, sl0, h_l, hp483⟩ := hI
  refine cw_seq (?_)
  refine cw_region (by kernel_rfl) (wl_s (o_lss .i64 ((k : Nat) : Int) (l.length : Int) rfl rfl (wl_nil (thenQ_n (?_)))))
  refine cw_seq (?_)
  refine cw_cond (decide (((k : Nat) : Int) < (l.length : Int))) rfl rfl (fun hc484 => ?_) (fun hc484 => ?_)
  ·have hp485 : ((k : Nat) : Int) < (l.length : Int) := by first | simpa using hc484 | (have e := hc484; simp at e; omega)
   refine cw_skip (thenQ_n (?_))
   refine cw_seq (?_)
   refine cw_block (?_)
   refine cw_seq (?_)
   refine cw_region (by kernel_rfl) (wl_s (o_move (vI ((k : Nat) : Int)) rfl (wl_s (o_assign (vI ((k : Nat) : Int)) rfl (wl_nil (thenQ_n (?_)))))))
   refine cw_seq (?_)
   refine cw_draw' 5 _ _ [isV (Value.agg #[vI o.device, vI o.no, vI o.kind, vI o.copy, vI o.to, vI o.token]), fun (vT : Value) (wT : World) => RdL Enc.devop wT (Bl0 ++ O) vT (l), isV (vI ((k : Nat) : Int)), fun (vT : Value) (wT : World) => ∃ aT, vT = .pointer (some aT) ∧ PT Enc.devop wT (Bl0 ++ O) (.pointer (some aT)) (l[k]!), isV (Value.agg #[vI ((l[k]!).device), vI ((l[k]!).no), vI ((l[k]!).kind), vI ((l[k]!).copy), vI ((l[k]!).to), vI ((l[k]!).token)])] (by kernel_rfl) (by kernel_rfl) (by kernel_rfl) (by kernel_rfl) rfl rfl ⟨kI, fun _ _ _ h k => h.mv (Mv.of_keep k), kI, fun _ _ _ ⟨a, e, h⟩ k => ⟨a, e, h.mv (Mv.of_keep k)⟩, kI, trivial⟩ ⟨?_, ?_, ?_, ?_, ?_, trivial⟩ ?_
   ·intro F1 w1 k1 hf hd
    have k0 := (Keep.drew [] wl0).trans k1
    have m1 : Mv Bl0 wl0 Bl0 w1 := Mv.of_keep k0
    have hp483 := hp483.mv m1
    obtain ⟨F2, rfl⟩ := lit_of (F := F1) [(3, Value.pointer (some a478))] ⟨hf 3 (by kernel_rfl), trivial⟩
    refine sp_plain rfl ((o_loadS Try.underlying40 rfl s_40 rfl hp483 fun cs486 hs487 => (?_)))
    obtain rfl := hs487
    exact ⟨(Keep.refl _ _), rfl⟩
   ·intro F1 w1 k1 hf hd
    have k0 := (Keep.drew [] wl0).trans k1
    have m1 : Mv Bl0 wl0 Bl0 w1 := Mv.of_keep k0
    have h_l := h_l.mv m1
    obtain ⟨F2, rfl⟩ := lit_of (F := F1) [(0, l_v)] ⟨hf 0 (by kernel_rfl), trivial⟩
    exact sp_plain rfl ((o_move (l_v) rfl (⟨(Keep.refl _ _), h_l⟩)))
   ·intro F1 w1 k1 hf hd
    obtain ⟨F2, rfl⟩ := lit_of (F := F1) [(5, vI ((k : Nat) : Int))] ⟨hf 5 (by kernel_rfl), trivial⟩
    exact sp_plain rfl ((o_move (vI ((k : Nat) : Int)) rfl (⟨(Keep.refl _ _), rfl⟩)))
   ·intro F1 w1 k1 hf hd
    obtain ⟨v488, e490, hl489⟩ : ∃ v, F1 12 = v ∧ RdL Enc.devop w1 (Bl0 ++ O) v (l) := ⟨_, rfl, hd 1 12 (by kernel_rfl)⟩
    have := hl489.len_le
    obtain ⟨F2, rfl⟩ := lit_of (F := F1) [(12, v488), (13, vI ((k : Nat) : Int))] ⟨e490, hd 2 13 (by kernel_rfl), trivial⟩
    exact sp_plain rfl ((o_idx Try.underlying26 s_40 .i64 ((k : Nat) : Int) k rfl rfl rfl hl489 (by omega) fun a491 hp492 => (⟨(Keep.refl _ _), ⟨a491, rfl, hp492⟩⟩)))
   ·intro F1 w1 k1 hf hd
    obtain ⟨a493, e495, hp494⟩ : ∃ aX_, F1 14 = .pointer (some aX_) ∧ PT Enc.devop w1 (Bl0 ++ O) (.pointer (some aX_)) (l[k]!) := hd 3 14 (by kernel_rfl)
    obtain ⟨F2, rfl⟩ := lit_of (F := F1) [(14, Value.pointer (some a493))] ⟨e495, trivial⟩
    refine sp_plain rfl ((o_loadS Try.underlying40 rfl s_40 rfl hp494 fun cs496 hs497 => (?_)))
    obtain rfl := hs497
    exact ⟨(Keep.refl _ _), rfl⟩
   intro F499 w500 k498 hT501 hF502
   have s503 := sl0.call k498
   have m504 : Mv Bl0 wl0 Bl0 w500 := Mv.of_keep k498
   have h_l := h_l.mv m504
   have hp483 := hp483.mv m504
   obtain ⟨F2, rfl⟩ := lit_of (F := F499) [(0, l_v), (3, Value.pointer (some a478)), (5, vI ((k : Nat) : Int)), (7, vI (l.length : Int)), (8, vI ((k : Nat) : Int)), (19, undef), (11, Value.agg #[vI o.device, vI o.no, vI o.kind, vI o.copy, vI o.to, vI o.token]), (15, Value.agg #[vI ((l[k]!).device), vI ((l[k]!).no), vI ((l[k]!).kind), vI ((l[k]!).copy), vI ((l[k]!).to), vI ((l[k]!).token)])] ⟨hF502 0 (by kernel_rfl), hF502 3 (by kernel_rfl), hF502 5 (by kernel_rfl), hF502 7 (by kernel_rfl), hF502 8 (by kernel_rfl), hF502 19 (by kernel_rfl), hT501 0 11 (by kernel_rfl) (by decide), hT501 4 15 (by kernel_rfl) (by decide), trivial⟩
   clear hT501 hF502
   refine wl_s (o_eqlF (ks := [true, true, true, true, true, true]) [.inl o.device, .inl o.no, .inl o.kind, .inl o.copy, .inl o.to, .inl o.token] [.inl ((l[k]!).device), .inl ((l[k]!).no), .inl ((l[k]!).kind), .inl ((l[k]!).copy), .inl ((l[k]!).to), .inl ((l[k]!).token)] str_devop flat_devop rfl rfl rfl rfl (cs_devop o (l[k]!)) (wl_nil (thenQ_n (?_))))
   refine cw_cond (o == (l[k]!)) rfl rfl (fun hc507 => ?_) (fun hc507 => ?_)
   ·have hp508 : o = (l[k]!) := by first | simpa using hc507 | (have e := hc507; simp at e; omega)
    refine cw_seq (?_)
    refine cw_region (by kernel_rfl) (wl_s (o_move (vI ((k : Nat) : Int)) rfl (wl_s (o_assign (vI ((k : Nat) : Int)) rfl (wl_nil (thenQ_n (?_)))))))
    refine cw_ret (blockQ_r (thenQ_r (thenQ_r (blockQ_r (thenQ_r (end_r rfl (res1 rfl rfl rfl) (?_)))))))
    have e : (idxD l o) = ((k : Nat) : Int) := by first | (rw [hr0_1]; exact scan_some (by omega) (by ((repeat (first | (refine (if_pos ?_).trans ?_; solve | omega | assumption | (simp only [dbs]; first | done | (repeat (first | omega | assumption | (right; first | omega | assumption | (constructor <;> first | omega | assumption)) | left))) | (rw [Bool.not_eq_true]; simp only [dbs]; first | done | omega | assumption | ((repeat' apply And.intro) <;> first | omega | assumption)) | (simp only [*, dbs]; done)) | (refine (if_neg ?_).trans ?_; solve | omega | assumption | (simp only [dbs]; first | done | (repeat (first | omega | assumption | (right; first | omega | assumption | (constructor <;> first | omega | assumption)) | left))) | (rw [Bool.not_eq_true]; simp only [dbs]; first | done | omega | assumption | ((repeat' apply And.intro) <;> first | omega | assumption)) | (simp only [*, dbs]; done)))); rfl))) | (rw [hr0_1]; exact scan_end (by omega)) | (unfold idxD; ((repeat (first | (refine (if_pos ?_).trans ?_; solve | omega | assumption | (simp only [dbs]; first | done | (repeat (first | omega | assumption | (right; first | omega | assumption | (constructor <;> first | omega | assumption)) | left))) | (rw [Bool.not_eq_true]; simp only [dbs]; first | done | omega | assumption | ((repeat' apply And.intro) <;> first | omega | assumption)) | (simp only [*, dbs]; done)) | (refine (if_neg ?_).trans ?_; solve | omega | assumption | (simp only [dbs]; first | done | (repeat (first | omega | assumption | (right; first | omega | assumption | (constructor <;> first | omega | assumption)) | left))) | (rw [Bool.not_eq_true]; simp only [dbs]; first | done | omega | assumption | ((repeat' apply And.intro) <;> first | omega | assumption)) | (simp only [*, dbs]; done)))); rfl))
    exact ⟨_, rfl, s503.keep, by rw [e]; first | done | exact rfl⟩
   ·have hp509 : o ≠ (l[k]!) := by first | simpa using hc507 | (have e := hc507; simp at e; omega)
    refine cw_skip (blockQ_n (thenQ_n (?_)))
    refine cw_region (by kernel_rfl) (wl_s (o_add .i64 ((k : Nat) : Int) (1 : Int) (((k + 1 : Nat) : Int)) rfl rfl (w64 (by omega) (by omega)) (wl_s (o_move (vI ((k + 1 : Nat) : Int)) rfl (wl_nil (thenQ_n (?_)))))))
    exact ⟨_, (by omega), (k + 1), Bl0, (by first | omega | (simp; done) | (simp; omega) | simp_all), (hr0_1.trans (scan_none (by omega) (by ((repeat (first | (refine (if_pos ?_).trans ?_; solve | omega | assumption | (simp only [dbs]; first | done | (repeat (first | omega | assumption | (right; first | omega | assumption | (constructor <;> first | omega | assumption)) | left))) | (rw [Bool.not_eq_true]; simp only [dbs]; first | done | omega | assumption | ((repeat' apply And.intro) <;> first | omega | assumption)) | (simp only [*, dbs]; done)) | (refine (if_neg ?_).trans ?_; solve | omega | assumption | (simp only [dbs]; first | done | (repeat (first | omega | assumption | (right; first | omega | assumption | (constructor <;> first | omega | assumption)) | left))) | (rw [Bool.not_eq_true]; simp only [dbs]; first | done | omega | assumption | ((repeat' apply And.intro) <;> first | omega | assumption)) | (simp only [*, dbs]; done)))); rfl)))), rfl, ⟨_, upds_self _ ⟨rfl, rfl, rfl, (by first | rfl | exact congrArg (Value.int _) (by first | omega | (simp))), rfl, trivial⟩⟩, s503, h_l, hp483⟩
  ·have hp510 : (l.length : Int) ≤ ((k : Nat) : Int) := by first | simpa using hc484 | (have e := hc484; simp at e; omega)
   refine cw_exit (thenQ_x (thenQ_x (blockQ_x (thenQ_n (?_)))))
   refine cw_seq (?_)
   refine cw_region (by kernel_rfl) (wl_s (o_assign (vI (-1 : Int)) rfl (wl_nil (thenQ_n (?_)))))
   refine cw_ret (end_r rfl (res1 rfl rfl rfl) (?_))
   have e : (idxD l o) = (-1 : Int) := by first | (rw [hr0_1]; exact scan_some (by omega) (by ((repeat (first | (refine (if_pos ?_).trans ?_; solve | omega | assumption | (simp only [dbs]; first | done | (repeat (first | omega | assumption | (right; first | omega | assumption | (constructor <;> first | omega | assumption)) | left))) | (rw [Bool.not_eq_true]; simp only [dbs]; first | done | omega | assumption | ((repeat' apply And.intro) <;> first | omega | assumption)) | (simp only [*, dbs]; done)) | (refine (if_neg ?_).trans ?_; solve | omega | assumption | (simp only [dbs]; first | done | (repeat (first | omega | assumption | (right; first | omega | assumption | (constructor <;> first | omega | assumption)) | left))) | (rw [Bool.not_eq_true]; simp only [dbs]; first | done | omega | assumption | ((repeat' apply And.intro) <;> first | omega | assumption)) | (simp only [*, dbs]; done)))); rfl))) | (rw [hr0_1]; exact scan_end (by omega)) | (unfold idxD; ((repeat (first | (refine (if_pos ?_).trans ?_; solve | omega | assumption | (simp only [dbs]; first | done | (repeat (first | omega | assumption | (right; first | omega | assumption | (constructor <;> first | omega | assumption)) | left))) | (rw [Bool.not_eq_true]; simp only [dbs]; first | done | omega | assumption | ((repeat' apply And.intro) <;> first | omega | assumption)) | (simp only [*, dbs]; done)) | (refine (if_neg ?_).trans ?_; solve | omega | assumption | (simp only [dbs]; first | done | (repeat (first | omega | assumption | (right; first | omega | assumption | (constructor <;> first | omega | assumption)) | left))) | (rw [Bool.not_eq_true]; simp only [dbs]; first | done | omega | assumption | ((repeat' apply And.intro) <;> first | omega | assumption)) | (simp only [*, dbs]; done)))); rfl))
   exact ⟨_, rfl, sl0.keep, by rw [e]; first | done | exact rfl⟩
set_option maxHeartbeats 4000000 in
set_option maxRecDepth 100000 in
theorem c_containsD {O : List Nat} (l_v : Value) (l : List DeviceOp) (o_cs : List Value) (o : DeviceOp) (w : World) (h_l : RdL Enc.devop w O l_v l) (h_o : Enc.devop.rd w O o_cs o) (hO : ∀ b ∈ O, b < w.heap.size) : CallsK Try.prog 55 [l_v, .agg o_cs.toArray] w (fun v _ => v = .bool (l.contains o)) :=  by
 have lim_l := h_l.len_le
 have h_l : RdL Enc.devop w ([] ++ O) l_v l := h_l
 obtain rfl := h_o
 have s0 : St w O w [] := St.start hO
 refine callsK_of 9 Try.func55 rfl rfl (of_decide_eq_true rfl) (fun F0 => ?_)
 refine cw_seq (?_)
 refine cw_region (by kernel_rfl) (wl_s (o_boxR (E := Enc.devop) (Value.agg #[vI o.device, vI o.no, vI o.kind, vI o.copy, vI o.to, vI o.token]) ([vI o.device, vI o.no, vI o.kind, vI o.copy, vI o.to, vI o.token]) o rfl rfl rfl s0 fun a511 w512 s513 m514 k515 hp516 => (?_)))
 have h_l := h_l.mv m514
 refine wl_s (o_assign (Value.bool false) rfl (wl_nil (thenQ_n (?_))))
 refine cw_seq (?_)
 refine cw_region (by kernel_rfl) (wl_s (o_move (l_v) rfl (wl_s (o_loadS Try.underlying40 rfl s_40 rfl hp516 fun cs517 hs518 => (?_)))))
 obtain rfl := hs518
 refine wl_s (o_callK (vs := [l_v, Value.agg #[vI o.device, vI o.no, vI o.kind, vI o.copy, vI o.to, vI o.token]]) enter_88 (c_idxD (O := [] ++ O) l_v l [vI o.device, vI o.no, vI o.kind, vI o.copy, vI o.to, vI o.token] o w512 h_l rfl s513.lt) rfl s513 fun v519 w520 s521 m522 k523 r524 => (?_))
 obtain rfl := r524
 refine wl_s (o_geq .i64 (idxD l o) (0 : Int) rfl rfl (wl_s (o_assign (Value.bool (decide ((0 : Int) ≤ idxD l o))) rfl (wl_nil (thenQ_n (?_))))))
 refine cw_ret (end_r rfl (res1 rfl rfl rfl) (?_))
 have e : (l.contains o) = (decide ((0 : Int) ≤ idxD l o)) := by exact (idxD_pos _ _).symm
 exact ⟨_, rfl, s521.keep, (by first | exact congrArg Value.bool e.symm | rfl)⟩
set_option maxHeartbeats 4000000 in
set_option maxRecDepth 100000 in
theorem c_add1 {O : List Nat} (p_cs : List Value) (p : DeviceOp) (o_a : Addr) (o : DeviceOp) (w : World) (h_p : Enc.devop.rd w O p_cs p) (h_o : PT Enc.devop w O (.pointer (some o_a)) o) (hO : ∀ b ∈ O, b < w.heap.size) : CallsK Try.prog 58 [.agg p_cs.toArray, .pointer (some o_a)] w (fun v _ => v = .bool (numM p == numM o)) :=  by
 obtain rfl := h_p
 have h_o : PT Enc.devop w ([] ++ O) (.pointer (some o_a)) o := h_o
 have s0 : St w O w [] := St.start hO
 refine callsK_of 9 Try.func58 rfl rfl (of_decide_eq_true rfl) (fun F0 => ?_)
 refine cw_seq (?_)
 refine cw_region (by kernel_rfl) (wl_s (o_boxR (E := Enc.devop) (Value.agg #[vI p.device, vI p.no, vI p.kind, vI p.copy, vI p.to, vI p.token]) ([vI p.device, vI p.no, vI p.kind, vI p.copy, vI p.to, vI p.token]) p rfl rfl rfl s0 fun a525 w526 s527 m528 k529 hp530 => (?_)))
 have h_o := h_o.mv m528
 refine wl_s (o_assign (Value.bool false) rfl (wl_nil (thenQ_n (?_))))
 refine cw_seq (?_)
 refine cw_draw' 3 _ _ [isV (Value.agg #[vI p.device, vI p.no, vI p.kind, vI p.copy, vI p.to, vI p.token]), isV (Value.agg #[vI ((numM p).device), vI ((numM p).no)]), isV (Value.agg #[vI o.device, vI o.no, vI o.kind, vI o.copy, vI o.to, vI o.token])] (by kernel_rfl) (by kernel_rfl) (by kernel_rfl) (by kernel_rfl) rfl rfl ⟨kI, kI, kI, trivial⟩ ⟨?_, ?_, ?_, trivial⟩ ?_
 ·intro F1 w1 k1 hf hd
  have k0 := (Keep.drew [] w526).trans k1
  have m1 : Mv ([]) w526 ([]) w1 := Mv.of_keep k0
  have hp530 := hp530.mv m1
  obtain ⟨F2, rfl⟩ := lit_of (F := F1) [(2, Value.pointer (some a525))] ⟨hf 2 (by kernel_rfl), trivial⟩
  refine sp_plain rfl ((o_loadS Try.underlying40 rfl s_40 rfl hp530 fun cs531 hs532 => (?_)))
  obtain rfl := hs532
  exact ⟨(Keep.refl _ _), rfl⟩
 ·intro F1 w1 k1 hf hd
  have k0 := (Keep.drew [] w526).trans k1
  have s1 := s527.call k0
  obtain ⟨F2, rfl⟩ := lit_of (F := F1) [(4, Value.agg #[vI p.device, vI p.no, vI p.kind, vI p.copy, vI p.to, vI p.token])] ⟨hd 0 4 (by kernel_rfl), trivial⟩
  refine sp_plain rfl ((o_callK (vs := [Value.agg #[vI p.device, vI p.no, vI p.kind, vI p.copy, vI p.to, vI p.token]]) enter_59 (c_numberOf (O := [] ++ O) [vI p.device, vI p.no, vI p.kind, vI p.copy, vI p.to, vI p.token] p w1 rfl s1.lt) rfl s1 fun v533 w534 s535 m536 k537 r538 => (?_)))
  obtain ⟨cs539, rfl, hs540⟩ := r538
  obtain rfl := hs540
  exact ⟨k537, rfl⟩
 ·intro F1 w1 k1 hf hd
  have k0 := (Keep.drew [] w526).trans k1
  have m1 : Mv ([]) w526 ([]) w1 := Mv.of_keep k0
  have h_o := h_o.mv m1
  obtain ⟨F2, rfl⟩ := lit_of (F := F1) [(1, Value.pointer (some o_a))] ⟨hf 1 (by kernel_rfl), trivial⟩
  refine sp_plain rfl ((o_loadS Try.underlying40 rfl s_40 rfl h_o fun cs541 hs542 => (?_)))
  obtain rfl := hs542
  exact ⟨(Keep.refl _ _), rfl⟩
 intro F544 w545 k543 hT546 hF547
 have s548 := s527.call k543
 obtain ⟨F2, rfl⟩ := lit_of (F := F544) [(3, Value.bool false), (9, undef), (5, Value.agg #[vI ((numM p).device), vI ((numM p).no)]), (6, Value.agg #[vI o.device, vI o.no, vI o.kind, vI o.copy, vI o.to, vI o.token])] ⟨hF547 3 (by kernel_rfl), hF547 9 (by kernel_rfl), hT546 1 5 (by kernel_rfl) (by decide), hT546 2 6 (by kernel_rfl) (by decide), trivial⟩
 clear hT546 hF547
 refine wl_s (o_callK (vs := [Value.agg #[vI o.device, vI o.no, vI o.kind, vI o.copy, vI o.to, vI o.token]]) enter_59 (c_numberOf (O := [] ++ O) [vI o.device, vI o.no, vI o.kind, vI o.copy, vI o.to, vI o.token] o w545 rfl s548.lt) rfl s548 fun v552 w553 s554 m555 k556 r557 => (?_))
 obtain ⟨cs558, rfl, hs559⟩ := r557
 obtain rfl := hs559
 refine wl_s (o_eqlF (ks := [true, true]) [.inl ((numM p).device), .inl ((numM p).no)] [.inl ((numM o).device), .inl ((numM o).no)] str_devno flat_devno rfl rfl rfl rfl (cs_devno (numM p) (numM o)) (wl_s (o_assign (Value.bool ((numM p) == (numM o))) rfl (wl_nil (thenQ_n (?_))))))
 refine cw_ret (end_r rfl (res1 rfl rfl rfl) (?_))
 have e : (numM p == numM o) = ((numM p) == (numM o)) := rfl
 exact ⟨_, rfl, s554.keep, (by first | exact congrArg Value.bool e.symm | rfl)⟩
set_option maxHeartbeats 4000000 in
set_option maxRecDepth 100000 in
theorem c_idxF {O : List Nat} (l_v : Value) (l : List DeviceOp) (f_v : Nat) (f_caps : List Value) (f : DeviceOp → Bool) (w : World) (h_l : RdL Enc.devop w O l_v l) (h_f_e : ∀ (vs_ : Array Value) (w : World), (callFunc f_v vs_).run Try.prog w = .ok (.enter f_v vs_) w) (h_f : ∀ (w' : World) (O' : List Nat), Keep [] w w' → (∀ b ∈ O', b ∈ O ∨ w.heap.size ≤ b) → (∀ b ∈ O', b < w'.heap.size) → ∀ (x_cs : List Value) (x : DeviceOp), Enc.devop.rd w' O' x_cs x → CallsK Try.prog f_v ([.agg x_cs.toArray] ++ f_caps) w' (fun v w2 => v = .bool (f x))) (hO : ∀ b ∈ O, b < w.heap.size) : CallsK Try.prog 89 [l_v, .func (.func f_v) #[] f_caps.toArray] w (fun v _ => v = vI (idxF l f)) :=  by
 have lim_l := h_l.len_le
 have h_l : RdL Enc.devop w ([] ++ O) l_v l := h_l
 have s0 : St w O w [] := St.start hO
 refine callsK_of 19 Try.func89 rfl rfl (of_decide_eq_true rfl) (fun F0 => ?_)
 refine cw_seq (?_)
 refine cw_region (by kernel_rfl) (wl_s (o_assign (vI (0 : Int)) rfl (wl_nil (thenQ_n (?_)))))
 refine cw_seq (?_)
 refine cw_seq (?_)
 refine cw_region (by kernel_rfl) (wl_s (o_move (l_v) rfl (wl_s (o_lenR Try.underlying26 rfl h_l (wl_s (o_move (vI (0 : Int)) rfl (wl_nil (thenQ_n (?_)))))))))
 refine cw_block (?_)
 refine cw_loop (fun mI FI wI => ∃ (k : Nat) (B : List Nat), k ≤ l.length ∧ idxF l f = scan (fun k => if f l[k]! then some (k : Int) else none) (-1) k (l.length - k) ∧ mI = l.length - k ∧ (∃ F1, FI = upds F1 [(0, l_v), (1, Value.func (.func f_v) #[] f_caps.toArray), (7, vI (l.length : Int)), (8, vI ((k : Nat) : Int)), (19, undef)]) ∧ St w O wI B ∧ RdL Enc.devop wI (B ++ O) (l_v) (l)) (l.length - (0)) ?_ ?_
 ·exact ⟨(0), [], (by first | omega | (simp; done) | (simp; omega) | simp_all), rfl, rfl, ⟨_, upds_self _ ⟨rfl, rfl, rfl, (by first | rfl | exact congrArg (Value.int _) (by first | omega | (simp))), rfl, trivial⟩⟩, s0, h_l⟩
 ·intro ml0 F wl0 hI
  clear h_l
  obtain ⟨k, Bl0, hr0_0, hr0_1, hm0, ⟨Fl0, rfl⟩, sl0, h_l⟩ := hI
  refine cw_seq (?_)
  refine cw_region (by kernel_rfl) (wl_s (o_lss .i64 ((k : Nat) : Int) (l.length : Int) rfl rfl (wl_nil (thenQ_n (?_)))))
  refine cw_seq (?_)
  refine cw_cond (decide (((k : Nat) : Int) < (l.length : Int))) rfl rfl (fun hc560 => ?_) (fun hc560 => ?_)
  ·have hp561 : ((k : Nat) : Int) < (l.length : Int) := by first | simpa using hc560 | (have e := hc560; simp at e; omega)
   refine cw_skip (thenQ_n (?_))
   refine cw_seq (?_)
   refine cw_block (?_)
   refine cw_seq (?_)
   refine cw_region (by kernel_rfl) (wl_s (o_move (vI ((k : Nat) : Int)) rfl (wl_s (o_assign (vI ((k : Nat) : Int)) rfl (wl_nil (thenQ_n (?_)))))))
   refine cw_seq (?_)
   refine cw_region (by kernel_rfl) (wl_s (o_move (Value.func (.func f_v) #[] f_caps.toArray) rfl (wl_s (o_move (l_v) rfl (wl_s (o_move (vI ((k : Nat) : Int)) rfl (wl_s (o_idx Try.underlying26 s_40 .i64 ((k : Nat) : Int) k rfl rfl rfl h_l (by omega) fun a562 hp563 => (wl_s (o_loadS Try.underlying40 rfl s_40 rfl hp563 fun cs564 hs565 => (?_)))))))))))
   obtain rfl := hs565
   refine wl_s (o_callvK [] f_caps [Value.agg #[vI ((l[k]!).device), vI ((l[k]!).no), vI ((l[k]!).kind), vI ((l[k]!).copy), vI ((l[k]!).to), vI ((l[k]!).token)]] h_f_e rfl (h_f wl0 (Bl0 ++ O) sl0.keep (fun b hb => (List.mem_append.1 hb).elim (fun h => .inr (sl0.new b h).1) .inl) sl0.lt [vI ((l[k]!).device), vI ((l[k]!).no), vI ((l[k]!).kind), vI ((l[k]!).copy), vI ((l[k]!).to), vI ((l[k]!).token)] (l[k]!) rfl) rfl rfl sl0 fun v566 w567 s568 m569 k570 r571 => (?_))
   obtain rfl := r571
   have h_l := h_l.mv m569
   refine wl_nil (thenQ_n (?_))
   refine cw_cond (f (l[k]!)) rfl rfl (fun hc572 => ?_) (fun hc572 => ?_)
   ·have hp573 : (f (l[k]!)) = true := by first | simpa using hc572 | (have e := hc572; simp at e; omega)
    refine cw_seq (?_)
    refine cw_region (by kernel_rfl) (wl_s (o_move (vI ((k : Nat) : Int)) rfl (wl_s (o_assign (vI ((k : Nat) : Int)) rfl (wl_nil (thenQ_n (?_)))))))
    refine cw_ret (blockQ_r (thenQ_r (thenQ_r (blockQ_r (thenQ_r (end_r rfl (res1 rfl rfl rfl) (?_)))))))
    have e : (idxF l f) = ((k : Nat) : Int) := by first | (rw [hr0_1]; exact scan_some (by omega) (by ((repeat (first | (refine (if_pos ?_).trans ?_; solve | omega | assumption | (simp only [dbs]; first | done | (repeat (first | omega | assumption | (right; first | omega | assumption | (constructor <;> first | omega | assumption)) | left))) | (rw [Bool.not_eq_true]; simp only [dbs]; first | done | omega | assumption | ((repeat' apply And.intro) <;> first | omega | assumption)) | (simp only [*, dbs]; done)) | (refine (if_neg ?_).trans ?_; solve | omega | assumption | (simp only [dbs]; first | done | (repeat (first | omega | assumption | (right; first | omega | assumption | (constructor <;> first | omega | assumption)) | left))) | (rw [Bool.not_eq_true]; simp only [dbs]; first | done | omega | assumption | ((repeat' apply And.intro) <;> first | omega | assumption)) | (simp only [*, dbs]; done)))); rfl))) | (rw [hr0_1]; exact scan_end (by omega)) | (unfold idxF; ((repeat (first | (refine (if_pos ?_).trans ?_; solve | omega | assumption | (simp only [dbs]; first | done | (repeat (first | omega | assumption | (right; first | omega | assumption | (constructor <;> first | omega | assumption)) | left))) | (rw [Bool.not_eq_true]; simp only [dbs]; first | done | omega | assumption | ((repeat' apply And.intro) <;> first | omega | assumption)) | (simp only [*, dbs]; done)) | (refine (if_neg ?_).trans ?_; solve | omega | assumption | (simp only [dbs]; first | done | (repeat (first | omega | assumption | (right; first | omega | assumption | (constructor <;> first | omega | assumption)) | left))) | (rw [Bool.not_eq_true]; simp only [dbs]; first | done | omega | assumption | ((repeat' apply And.intro) <;> first | omega | assumption)) | (simp only [*, dbs]; done)))); rfl))
    exact ⟨_, rfl, s568.keep, by rw [e]; first | done | exact rfl⟩
   ·have hp574 : (f (l[k]!)) = false := by first | simpa using hc572 | (have e := hc572; simp at e; omega)
    refine cw_skip (blockQ_n (thenQ_n (?_)))
    refine cw_region (by kernel_rfl) (wl_s (o_add .i64 ((k : Nat) : Int) (1 : Int) (((k + 1 : Nat) : Int)) rfl rfl (w64 (by omega) (by omega)) (wl_s (o_move (vI ((k + 1 : Nat) : Int)) rfl (wl_nil (thenQ_n (?_)))))))
    exact ⟨_, (by omega), (k + 1), Bl0, (by first | omega | (simp; done) | (simp; omega) | simp_all), (hr0_1.trans (scan_none (by omega) (by ((repeat (first | (refine (if_pos ?_).trans ?_; solve | omega | assumption | (simp only [dbs]; first | done | (repeat (first | omega | assumption | (right; first | omega | assumption | (constructor <;> first | omega | assumption)) | left))) | (rw [Bool.not_eq_true]; simp only [dbs]; first | done | omega | assumption | ((repeat' apply And.intro) <;> first | omega | assumption)) | (simp only [*, dbs]; done)) | (refine (if_neg ?_).trans ?_; solve | omega | assumption | (simp only [dbs]; first | done | (repeat (first | omega | assumption | (right; first | omega | assumption | (constructor <;> first | omega | assumption)) | left))) | (rw [Bool.not_eq_true]; simp only [dbs]; first | done | omega | assumption | ((repeat' apply And.intro) <;> first | omega | assumption)) | (simp only [*, dbs]; done)))); rfl)))), rfl, ⟨_, upds_self _ ⟨rfl, rfl, rfl, (by first | rfl | exact congrArg (Value.int _) (by first | omega | (simp))), rfl, trivial⟩⟩, s568, h_l⟩
  ·have hp575 : (l.length : Int) ≤ ((k : Nat) : Int) := by first | simpa using hc560 | (have e := hc560; simp at e; omega)
   refine cw_exit (thenQ_x (thenQ_x (blockQ_x (thenQ_n (?_)))))
   refine cw_seq (?_)
   refine cw_region (by kernel_rfl) (wl_s (o_assign (vI (-1 : Int)) rfl (wl_nil (thenQ_n (?_)))))
   refine cw_ret (end_r rfl (res1 rfl rfl rfl) (?_))
   have e : (idxF l f) = (-1 : Int) := by first | (rw [hr0_1]; exact scan_some (by omega) (by ((repeat (first | (refine (if_pos ?_).trans ?_; solve | omega | assumption | (simp only [dbs]; first | done | (repeat (first | omega | assumption | (right; first | omega | assumption | (constructor <;> first | omega | assumption)) | left))) | (rw [Bool.not_eq_true]; simp only [dbs]; first | done | omega | assumption | ((repeat' apply And.intro) <;> first | omega | assumption)) | (simp only [*, dbs]; done)) | (refine (if_neg ?_).trans ?_; solve | omega | assumption | (simp only [dbs]; first | done | (repeat (first | omega | assumption | (right; first | omega | assumption | (constructor <;> first | omega | assumption)) | left))) | (rw [Bool.not_eq_true]; simp only [dbs]; first | done | omega | assumption | ((repeat' apply And.intro) <;> first | omega | assumption)) | (simp only [*, dbs]; done)))); rfl))) | (rw [hr0_1]; exact scan_end (by omega)) | (unfold idxF; ((repeat (first | (refine (if_pos ?_).trans ?_; solve | omega | assumption | (simp only [dbs]; first | done | (repeat (first | omega | assumption | (right; first | omega | assumption | (constructor <;> first | omega | assumption)) | left))) | (rw [Bool.not_eq_true]; simp only [dbs]; first | done | omega | assumption | ((repeat' apply And.intro) <;> first | omega | assumption)) | (simp only [*, dbs]; done)) | (refine (if_neg ?_).trans ?_; solve | omega | assumption | (simp only [dbs]; first | done | (repeat (first | omega | assumption | (right; first | omega | assumption | (constructor <;> first | omega | assumption)) | left))) | (rw [Bool.not_eq_true]; simp only [dbs]; first | done | omega | assumption | ((repeat' apply And.intro) <;> first | omega | assumption)) | (simp only [*, dbs]; done)))); rfl))
   exact ⟨_, rfl, sl0.keep, by rw [e]; first | done | exact rfl⟩
set_option maxHeartbeats 4000000 in
set_option maxRecDepth 100000 in
theorem c_containsF {O : List Nat} (l_v : Value) (l : List DeviceOp) (f_v : Nat) (f_caps : List Value) (f : DeviceOp → Bool) (w : World) (h_l : RdL Enc.devop w O l_v l) (h_f_e : ∀ (vs_ : Array Value) (w : World), (callFunc f_v vs_).run Try.prog w = .ok (.enter f_v vs_) w) (h_f : ∀ (w' : World) (O' : List Nat), Keep [] w w' → (∀ b ∈ O', b ∈ O ∨ w.heap.size ≤ b) → (∀ b ∈ O', b < w'.heap.size) → ∀ (x_cs : List Value) (x : DeviceOp), Enc.devop.rd w' O' x_cs x → CallsK Try.prog f_v ([.agg x_cs.toArray] ++ f_caps) w' (fun v w2 => v = .bool (f x))) (hO : ∀ b ∈ O, b < w.heap.size) : CallsK Try.prog 57 [l_v, .func (.func f_v) #[] f_caps.toArray] w (fun v _ => v = .bool (l.any f)) :=  by
 have lim_l := h_l.len_le
 have h_l : RdL Enc.devop w ([] ++ O) l_v l := h_l
 have s0 : St w O w [] := St.start hO
 refine callsK_of 9 Try.func57 rfl rfl (of_decide_eq_true rfl) (fun F0 => ?_)
 refine cw_seq (?_)
 refine cw_region (by kernel_rfl) (wl_s (o_assign (Value.bool false) rfl (wl_nil (thenQ_n (?_)))))
 refine cw_seq (?_)
 refine cw_region (by kernel_rfl) (wl_s (o_move (l_v) rfl (wl_s (o_move (Value.func (.func f_v) #[] f_caps.toArray) rfl (wl_s (o_callK (vs := [l_v, Value.func (.func f_v) #[] f_caps.toArray]) enter_89 (c_idxF (O := [] ++ O) l_v l f_v f_caps f w h_l h_f_e (fun w'_ O'_ kk_ hs_ hl_ => h_f w'_ O'_ (s0.keep.trans kk_) (fun b hb => (hs_ b hb).elim (fun h => (List.mem_append.1 h).elim (fun h => .inr (s0.new b h).1) .inl) (fun h => .inr (Nat.le_trans s0.keep.size h))) hl_) s0.lt) rfl s0 fun v576 w577 s578 m579 k580 r581 => (?_)))))))
 obtain rfl := r581
 refine wl_s (o_geq .i64 (idxF l f) (0 : Int) rfl rfl (wl_s (o_assign (Value.bool (decide ((0 : Int) ≤ idxF l f))) rfl (wl_nil (thenQ_n (?_))))))
 refine cw_ret (end_r rfl (res1 rfl rfl rfl) (?_))
 have e : (l.any f) = (decide ((0 : Int) ≤ idxF l f)) := by exact (idxF_pos _ _).symm
 exact ⟨_, rfl, s578.keep, (by first | exact congrArg Value.bool e.symm | rfl)⟩
set_option maxHeartbeats 4000000 in
set_option maxRecDepth 100000 in
theorem c_bsF {O : List Nat} (l_v : Value) (l : List DeviceOp) (o_cs : List Value) (o : DeviceOp) (f_v : Nat) (f_caps : List Value) (f : DeviceOp → DeviceOp → Int) (w : World) (h_l : RdL Enc.devop w O l_v l) (h_o : Enc.devop.rd w O o_cs o) (h_f_e : ∀ (vs_ : Array Value) (w : World), (callFunc f_v vs_).run Try.prog w = .ok (.enter f_v vs_) w) (h_f : ∀ (w' : World) (O' : List Nat), Keep [] w w' → (∀ b ∈ O', b ∈ O ∨ w.heap.size ≤ b) → (∀ b ∈ O', b < w'.heap.size) → ∀ (x_cs : List Value) (x : DeviceOp) (y_cs : List Value) (y : DeviceOp), Enc.devop.rd w' O' x_cs x → Enc.devop.rd w' O' y_cs y → CallsK Try.prog f_v ([.agg x_cs.toArray, .agg y_cs.toArray] ++ f_caps) w' (fun v w2 => v = vI (f x y))) (hpre0 : ∀ p q, p < q → q < l.length → f l[q]! o < 0 → f l[p]! o < 0) (hpre1 : l.length ≤ 4611686018427387903) (hO : ∀ b ∈ O, b < w.heap.size) : CallsK Try.prog 60 [l_v, .agg o_cs.toArray, .func (.func f_v) #[] f_caps.toArray] w (fun v _ => v = .tuple #[vI ((tw2 l o f : Nat) : Int), .bool (bsG l o f)]) :=  by
 have lim_l := h_l.len_le
 have h_l : RdL Enc.devop w ([] ++ O) l_v l := h_l
 obtain rfl := h_o
 have s0 : St w O w [] := St.start hO
 refine callsK_of 49 Try.func60 rfl rfl (of_decide_eq_true rfl) (fun F0 => ?_)
 refine cw_seq (?_)
 refine cw_region (by kernel_rfl) (wl_s (o_boxR (E := Enc.devop) (Value.agg #[vI o.device, vI o.no, vI o.kind, vI o.copy, vI o.to, vI o.token]) ([vI o.device, vI o.no, vI o.kind, vI o.copy, vI o.to, vI o.token]) o rfl rfl rfl s0 fun a582 w583 s584 m585 k586 hp587 => (?_)))
 have h_l := h_l.mv m585
 refine wl_s (o_assign (vI (0 : Int)) rfl (wl_s (o_assign (Value.bool false) rfl (wl_nil (thenQ_n (?_))))))
 refine cw_seq (?_)
 refine cw_region (by kernel_rfl) (wl_s (o_move (l_v) rfl (wl_s (o_lenR Try.underlying26 rfl h_l (wl_s (o_assign (vI (l.length : Int)) rfl (wl_nil (thenQ_n (?_)))))))))
 refine cw_seq (?_)
 refine cw_region (by kernel_rfl) (wl_s (o_move (vI (l.length : Int)) rfl (wl_s (o_assign (vI (0 : Int)) rfl (wl_s (o_assign (vI (l.length : Int)) rfl (wl_nil (thenQ_n (?_)))))))))
 refine cw_seq (?_)
 refine cw_block (?_)
 refine cw_loop (fun mI FI wI => ∃ (lo : Nat) (hi : Nat) (B : List Nat), lo ≤ hi ∧ hi ≤ l.length ∧ (∀ q, q < lo → f l[q]! o < 0) ∧ (∀ q, hi ≤ q → q < l.length → 0 ≤ f l[q]! o) ∧ mI = hi - lo ∧ (∃ F1, FI = upds F1 [(0, l_v), (2, Value.func (.func f_v) #[] f_caps.toArray), (4, Value.pointer (some a582)), (8, vI (l.length : Int)), (9, vI ((lo : Nat) : Int)), (10, vI ((hi : Nat) : Int)), (49, undef)]) ∧ St w O wI B ∧ RdL Enc.devop wI (B ++ O) (l_v) (l) ∧ PT Enc.devop wI (B ++ O) (.pointer (some a582)) (o)) ((l.length) - (0)) ?_ ?_
 ·exact ⟨(0), (l.length), [], (by first | omega | (simp; done) | (simp; omega) | simp_all), (by first | omega | (simp; done) | (simp; omega) | simp_all), (fun q hq => by omega), (fun q h1 h2 => by omega), rfl, ⟨_, upds_self _ ⟨rfl, rfl, rfl, rfl, (by first | rfl | exact congrArg (Value.int _) (by first | omega | (simp))), (by first | rfl | exact congrArg (Value.int _) (by first | omega | (simp))), rfl, trivial⟩⟩, s584, h_l, hp587⟩
 ·intro ml0 F wl0 hI
  clear h_l hp587
  obtain ⟨lo, hi, Bl0, hr0_0, hr0_1, hr0_2, hr0_3, hm0, ⟨Fl0, rfl⟩, sl0, h_l, hp587⟩ := hI
  refine cw_seq (?_)
  refine cw_seq (?_)
  refine cw_region (by kernel_rfl) (wl_s (o_move (vI ((lo : Nat) : Int)) rfl (wl_s (o_move (vI ((hi : Nat) : Int)) rfl (wl_s (o_lss .i64 ((lo : Nat) : Int) ((hi : Nat) : Int) rfl rfl (wl_nil (thenQ_n (?_)))))))))
  refine cw_cond (decide (((lo : Nat) : Int) < ((hi : Nat) : Int))) rfl rfl (fun hc588 => ?_) (fun hc588 => ?_)
  ·have hp589 : ((lo : Nat) : Int) < ((hi : Nat) : Int) := by first | simpa using hc588 | (have e := hc588; simp at e; omega)
   refine cw_skip (thenQ_n (?_))
   refine cw_block (?_)
   refine cw_seq (?_)
   refine cw_region (by kernel_rfl) (wl_s (o_move (vI ((lo : Nat) : Int)) rfl (wl_s (o_move (vI ((hi : Nat) : Int)) rfl (wl_s (o_add .i64 ((lo : Nat) : Int) ((hi : Nat) : Int) (((lo + hi : Nat) : Int)) rfl rfl (w64 (by omega) (by omega)) (wl_s (o_conv .i64 .u64 Try.underlying3 Try.underlying119 ((lo + hi : Nat) : Int) (((lo + hi) : Nat) : Int) rfl (wrap_u64 (by omega)) (wl_s (o_shrU .u64 (lo + hi) 1 (by omega) rfl rfl (wl_s (o_conv .u64 .i64 Try.underlying119 Try.underlying3 (((lo + hi) / 2 ^ 1 : Nat) : Int) ((((lo + hi) / 2 ^ 1) : Nat) : Int) rfl (w64 (by omega) rfl) (wl_s (o_assign (vI (((lo + hi) / 2 ^ 1 : Nat) : Int)) rfl (wl_nil (thenQ_n (?_)))))))))))))))))
   refine cw_seq (?_)
   refine cw_draw' 6 _ _ [isV (Value.func (.func f_v) #[] f_caps.toArray), fun (vT : Value) (wT : World) => RdL Enc.devop wT (Bl0 ++ O) vT (l), isV (vI (((lo + hi) / 2 ^ 1 : Nat) : Int)), fun (vT : Value) (wT : World) => ∃ aT, vT = .pointer (some aT) ∧ PT Enc.devop wT (Bl0 ++ O) (.pointer (some aT)) (l[(lo + hi) / 2 ^ 1]!), isV (Value.agg #[vI ((l[(lo + hi) / 2 ^ 1]!).device), vI ((l[(lo + hi) / 2 ^ 1]!).no), vI ((l[(lo + hi) / 2 ^ 1]!).kind), vI ((l[(lo + hi) / 2 ^ 1]!).copy), vI ((l[(lo + hi) / 2 ^ 1]!).to), vI ((l[(lo + hi) / 2 ^ 1]!).token)]), isV (Value.agg #[vI o.device, vI o.no, vI o.kind, vI o.copy, vI o.to, vI o.token])] (by kernel_rfl) (by kernel_rfl) (by kernel_rfl) (by kernel_rfl) rfl rfl ⟨kI, fun _ _ _ h k => h.mv (Mv.of_keep k), kI, fun _ _ _ ⟨a, e, h⟩ k => ⟨a, e, h.mv (Mv.of_keep k)⟩, kI, kI, trivial⟩ ⟨?_, ?_, ?_, ?_, ?_, ?_, trivial⟩ ?_
   ·intro F1 w1 k1 hf hd
    obtain ⟨F2, rfl⟩ := lit_of (F := F1) [(2, Value.func (.func f_v) #[] f_caps.toArray)] ⟨hf 2 (by kernel_rfl), trivial⟩
    exact sp_plain rfl ((o_move (Value.func (.func f_v) #[] f_caps.toArray) rfl (⟨(Keep.refl _ _), rfl⟩)))
   ·intro F1 w1 k1 hf hd
    have k0 := (Keep.drew [] wl0).trans k1
    have m1 : Mv Bl0 wl0 Bl0 w1 := Mv.of_keep k0
    have h_l := h_l.mv m1
    obtain ⟨F2, rfl⟩ := lit_of (F := F1) [(0, l_v)] ⟨hf 0 (by kernel_rfl), trivial⟩
    exact sp_plain rfl ((o_move (l_v) rfl (⟨(Keep.refl _ _), h_l⟩)))
   ·intro F1 w1 k1 hf hd
    obtain ⟨F2, rfl⟩ := lit_of (F := F1) [(11, vI (((lo + hi) / 2 ^ 1 : Nat) : Int))] ⟨hf 11 (by kernel_rfl), trivial⟩
    exact sp_plain rfl ((o_move (vI (((lo + hi) / 2 ^ 1 : Nat) : Int)) rfl (⟨(Keep.refl _ _), rfl⟩)))
   ·intro F1 w1 k1 hf hd
    obtain ⟨v590, e592, hl591⟩ : ∃ v, F1 25 = v ∧ RdL Enc.devop w1 (Bl0 ++ O) v (l) := ⟨_, rfl, hd 1 25 (by kernel_rfl)⟩
    have := hl591.len_le
    obtain ⟨F2, rfl⟩ := lit_of (F := F1) [(25, v590), (26, vI (((lo + hi) / 2 ^ 1 : Nat) : Int))] ⟨e592, hd 2 26 (by kernel_rfl), trivial⟩
    exact sp_plain rfl ((o_idx Try.underlying26 s_40 .i64 (((lo + hi) / 2 ^ 1 : Nat) : Int) ((lo + hi) / 2 ^ 1) rfl rfl rfl hl591 (by omega) fun a593 hp594 => (⟨(Keep.refl _ _), ⟨a593, rfl, hp594⟩⟩)))
   ·intro F1 w1 k1 hf hd
    obtain ⟨a595, e597, hp596⟩ : ∃ aX_, F1 27 = .pointer (some aX_) ∧ PT Enc.devop w1 (Bl0 ++ O) (.pointer (some aX_)) (l[(lo + hi) / 2 ^ 1]!) := hd 3 27 (by kernel_rfl)
    obtain ⟨F2, rfl⟩ := lit_of (F := F1) [(27, Value.pointer (some a595))] ⟨e597, trivial⟩
    refine sp_plain rfl ((o_loadS Try.underlying40 rfl s_40 rfl hp596 fun cs598 hs599 => (?_)))
    obtain rfl := hs599
    exact ⟨(Keep.refl _ _), rfl⟩
   ·intro F1 w1 k1 hf hd
    have k0 := (Keep.drew [] wl0).trans k1
    have m1 : Mv Bl0 wl0 Bl0 w1 := Mv.of_keep k0
    have hp587 := hp587.mv m1
    obtain ⟨F2, rfl⟩ := lit_of (F := F1) [(4, Value.pointer (some a582))] ⟨hf 4 (by kernel_rfl), trivial⟩
    refine sp_plain rfl ((o_loadS Try.underlying40 rfl s_40 rfl hp587 fun cs600 hs601 => (?_)))
    obtain rfl := hs601
    exact ⟨(Keep.refl _ _), rfl⟩
   intro F603 w604 k602 hT605 hF606
   have s607 := sl0.call k602
   have m608 : Mv Bl0 wl0 Bl0 w604 := Mv.of_keep k602
   have h_l := h_l.mv m608
   have hp587 := hp587.mv m608
   obtain ⟨F2, rfl⟩ := lit_of (F := F603) [(0, l_v), (2, Value.func (.func f_v) #[] f_caps.toArray), (4, Value.pointer (some a582)), (8, vI (l.length : Int)), (9, vI ((lo : Nat) : Int)), (10, vI ((hi : Nat) : Int)), (11, vI (((lo + hi) / 2 ^ 1 : Nat) : Int)), (49, undef), (24, Value.func (.func f_v) #[] f_caps.toArray), (28, Value.agg #[vI ((l[(lo + hi) / 2 ^ 1]!).device), vI ((l[(lo + hi) / 2 ^ 1]!).no), vI ((l[(lo + hi) / 2 ^ 1]!).kind), vI ((l[(lo + hi) / 2 ^ 1]!).copy), vI ((l[(lo + hi) / 2 ^ 1]!).to), vI ((l[(lo + hi) / 2 ^ 1]!).token)]), (29, Value.agg #[vI o.device, vI o.no, vI o.kind, vI o.copy, vI o.to, vI o.token])] ⟨hF606 0 (by kernel_rfl), hF606 2 (by kernel_rfl), hF606 4 (by kernel_rfl), hF606 8 (by kernel_rfl), hF606 9 (by kernel_rfl), hF606 10 (by kernel_rfl), hF606 11 (by kernel_rfl), hF606 49 (by kernel_rfl), hT605 0 24 (by kernel_rfl) (by decide), hT605 4 28 (by kernel_rfl) (by decide), hT605 5 29 (by kernel_rfl) (by decide), trivial⟩
   clear hT605 hF606
   refine wl_s (o_callvK [] f_caps [Value.agg #[vI ((l[(lo + hi) / 2 ^ 1]!).device), vI ((l[(lo + hi) / 2 ^ 1]!).no), vI ((l[(lo + hi) / 2 ^ 1]!).kind), vI ((l[(lo + hi) / 2 ^ 1]!).copy), vI ((l[(lo + hi) / 2 ^ 1]!).to), vI ((l[(lo + hi) / 2 ^ 1]!).token)], Value.agg #[vI o.device, vI o.no, vI o.kind, vI o.copy, vI o.to, vI o.token]] h_f_e rfl (h_f w604 (Bl0 ++ O) s607.keep (fun b hb => (List.mem_append.1 hb).elim (fun h => .inr (s607.new b h).1) .inl) s607.lt [vI ((l[(lo + hi) / 2 ^ 1]!).device), vI ((l[(lo + hi) / 2 ^ 1]!).no), vI ((l[(lo + hi) / 2 ^ 1]!).kind), vI ((l[(lo + hi) / 2 ^ 1]!).copy), vI ((l[(lo + hi) / 2 ^ 1]!).to), vI ((l[(lo + hi) / 2 ^ 1]!).token)] (l[(lo + hi) / 2 ^ 1]!) [vI o.device, vI o.no, vI o.kind, vI o.copy, vI o.to, vI o.token] o rfl rfl) rfl rfl s607 fun v611 w612 s613 m614 k615 r616 => (?_))
   obtain rfl := r616
   have h_l := h_l.mv m614
   have hp587 := hp587.mv m614
   refine wl_s (o_lss .i64 (f (l[(lo + hi) / 2 ^ 1]!) o) (0 : Int) rfl rfl (wl_nil (thenQ_n (?_))))
   refine cw_cond (decide (f (l[(lo + hi) / 2 ^ 1]!) o < (0 : Int))) rfl rfl (fun hc617 => ?_) (fun hc617 => ?_)
   ·have hp618 : f (l[(lo + hi) / 2 ^ 1]!) o < (0 : Int) := by first | simpa using hc617 | (have e := hc617; simp at e; omega)
    refine cw_region (by kernel_rfl) (wl_s (o_move (vI (((lo + hi) / 2 ^ 1 : Nat) : Int)) rfl (wl_s (o_add .i64 (((lo + hi) / 2 ^ 1 : Nat) : Int) (1 : Int) ((((lo + hi) / 2 ^ 1 + 1 : Nat) : Int)) rfl rfl (w64 (by omega) (by omega)) (wl_s (o_assign (vI (((lo + hi) / 2 ^ 1 + 1 : Nat) : Int)) rfl (wl_nil (blockQ_n (thenQ_n (?_))))))))))
    exact ⟨_, (by omega), ((lo + hi) / 2 ^ 1 + 1), (hi), Bl0, (by omega), (by omega), (by first | exact hr0_2 | exact bs2_lo hpre0 (by assumption) (by omega)), (by first | exact hr0_3 | exact bs2_hi hpre0 (by assumption)), rfl, ⟨_, upds_self _ ⟨rfl, rfl, rfl, rfl, (by first | rfl | exact congrArg (Value.int _) (by first | omega | (simp))), (by first | rfl | exact congrArg (Value.int _) (by first | omega | (simp))), rfl, trivial⟩⟩, s613, h_l, hp587⟩
   ·have hp619 : (0 : Int) ≤ f (l[(lo + hi) / 2 ^ 1]!) o := by first | simpa using hc617 | (have e := hc617; simp at e; omega)
    refine cw_region (by kernel_rfl) (wl_s (o_move (vI (((lo + hi) / 2 ^ 1 : Nat) : Int)) rfl (wl_s (o_assign (vI (((lo + hi) / 2 ^ 1 : Nat) : Int)) rfl (wl_nil (blockQ_n (thenQ_n (?_))))))))
    exact ⟨_, (by omega), (lo), ((lo + hi) / 2 ^ 1), Bl0, (by omega), (by omega), (by first | exact hr0_2 | exact bs2_lo hpre0 (by assumption) (by omega)), (by first | exact hr0_3 | exact bs2_hi hpre0 (by assumption)), rfl, ⟨_, upds_self _ ⟨rfl, rfl, rfl, rfl, (by first | rfl | exact congrArg (Value.int _) (by first | omega | (simp))), (by first | rfl | exact congrArg (Value.int _) (by first | omega | (simp))), rfl, trivial⟩⟩, s613, h_l, hp587⟩
  ·have hp620 : ((hi : Nat) : Int) ≤ ((lo : Nat) : Int) := by first | simpa using hc588 | (have e := hc588; simp at e; omega)
   obtain rfl : lo = hi := by omega
   have htw : tw2 l o f = lo := tw2_eq (by omega) hr0_2 (fun h => hr0_3 lo (by omega) h)
   refine cw_exit (thenQ_x (thenQ_x (blockQ_x (thenQ_n (?_)))))
   refine cw_seq (?_)
   cases hb621 : (decide (((lo : Nat) : Int) < (l.length : Int)))
   ·have hp622 : (l.length : Int) ≤ ((lo : Nat) : Int) := by first | simpa using hb621 | (have e := hb621; simp at e; omega)
    refine cw_draw' 15 _ _ [isV (vI ((lo : Nat) : Int)), isV (vI ((lo : Nat) : Int)), isV (vI (l.length : Int)), isV (Value.bool false), isV (Value.bool false), isV undef, isV undef, isV undef, isV undef, isV undef, isV undef, isV undef, isV undef, isV (Value.bool false), isV (vI ((lo : Nat) : Int))] (by kernel_rfl) (by kernel_rfl) (by kernel_rfl) (by kernel_rfl) rfl rfl ⟨kI, kI, kI, kI, kI, kI, kI, kI, kI, kI, kI, kI, kI, kI, kI, trivial⟩ ⟨?_, ?_, ?_, ?_, ?_, ?_, ?_, ?_, ?_, ?_, ?_, ?_, ?_, ?_, ?_, trivial⟩ ?_
    ·intro F1 w1 k1 hf hd
     obtain ⟨F2, rfl⟩ := lit_of (F := F1) [(9, vI ((lo : Nat) : Int))] ⟨hf 9 (by kernel_rfl), trivial⟩
     exact sp_plain rfl ((o_move (vI ((lo : Nat) : Int)) rfl (⟨(Keep.refl _ _), rfl⟩)))
    ·intro F1 w1 k1 hf hd
     obtain ⟨F2, rfl⟩ := lit_of (F := F1) [(9, vI ((lo : Nat) : Int))] ⟨hf 9 (by kernel_rfl), trivial⟩
     exact sp_plain rfl ((o_move (vI ((lo : Nat) : Int)) rfl (⟨(Keep.refl _ _), rfl⟩)))
    ·intro F1 w1 k1 hf hd
     obtain ⟨F2, rfl⟩ := lit_of (F := F1) [(8, vI (l.length : Int))] ⟨hf 8 (by kernel_rfl), trivial⟩
     exact sp_plain rfl ((o_move (vI (l.length : Int)) rfl (⟨(Keep.refl _ _), rfl⟩)))
    ·intro F1 w1 k1 hf hd
     obtain ⟨F2, rfl⟩ := lit_of (F := F1) [(36, vI ((lo : Nat) : Int)), (37, vI (l.length : Int))] ⟨hd 1 36 (by kernel_rfl), hd 2 37 (by kernel_rfl), trivial⟩
     refine sp_plain rfl ((o_lss .i64 ((lo : Nat) : Int) (l.length : Int) rfl rfl (?_)))
     exact ⟨(Keep.refl _ _), congrArg Value.bool (hb621)⟩
    ·intro F1 w1 k1 hf hd
     obtain ⟨F2, rfl⟩ := lit_of (F := F1) [(38, Value.bool false)] ⟨hd 3 38 (by kernel_rfl), trivial⟩
     exact sp_plain rfl ((o_move (Value.bool false) rfl (⟨(Keep.refl _ _), rfl⟩)))
    ·intro F1 w1 k1 hf hd
     exact sp_skipD rfl rfl (hd 4 39 (by kernel_rfl)) rfl rfl
    ·intro F1 w1 k1 hf hd
     exact sp_skipD rfl rfl (hd 4 39 (by kernel_rfl)) rfl rfl
    ·intro F1 w1 k1 hf hd
     exact sp_skipD rfl rfl (hd 4 39 (by kernel_rfl)) rfl rfl
    ·intro F1 w1 k1 hf hd
     exact sp_skipD rfl rfl (hd 4 39 (by kernel_rfl)) rfl rfl
    ·intro F1 w1 k1 hf hd
     exact sp_skipD rfl rfl (hd 4 39 (by kernel_rfl)) rfl rfl
    ·intro F1 w1 k1 hf hd
     exact sp_skipD rfl rfl (hd 4 39 (by kernel_rfl)) rfl rfl
    ·intro F1 w1 k1 hf hd
     exact sp_skipD rfl rfl (hd 4 39 (by kernel_rfl)) rfl rfl
    ·intro F1 w1 k1 hf hd
     exact sp_skipD rfl rfl (hd 4 39 (by kernel_rfl)) rfl rfl
    ·intro F1 w1 k1 hf hd
     obtain ⟨F2, rfl⟩ := lit_of (F := F1) [(39, Value.bool false), (47, undef)] ⟨hd 4 39 (by kernel_rfl), hd 12 47 (by kernel_rfl), trivial⟩
     exact sp_plain rfl ((o_pickF (Value.bool false) rfl rfl (⟨(Keep.refl _ _), rfl⟩)))
    ·intro F1 w1 k1 hf hd
     obtain ⟨F2, rfl⟩ := lit_of (F := F1) [(35, vI ((lo : Nat) : Int))] ⟨hd 0 35 (by kernel_rfl), trivial⟩
     exact sp_plain rfl ((o_assign (vI ((lo : Nat) : Int)) rfl (⟨(Keep.refl _ _), rfl⟩)))
    intro F624 w625 k623 hT626 hF627
    have s628 := sl0.call k623
    obtain ⟨F2, rfl⟩ := lit_of (F := F624) [(49, undef), (6, vI ((lo : Nat) : Int)), (48, Value.bool false)] ⟨hF627 49 (by kernel_rfl), hT626 14 6 (by kernel_rfl) (by decide), hT626 13 48 (by kernel_rfl) (by decide), trivial⟩
    clear hT626 hF627
    refine wl_s (o_assign (Value.bool false) rfl (wl_nil (thenQ_n (?_))))
    refine cw_ret (end_r rfl (res2 rfl rfl rfl rfl) (?_))
    have e632 : (tw2 l o f) = lo := by exact htw
    have e633 : (bsG l o f) = false := by first | (unfold bsG; rw [htw]; simp only [dbs]; omega) | (unfold bsG; rw [htw]; simp [*]; done) | (unfold bsG; rw [htw]; simp [*]; omega)
    exact ⟨_, rfl, s628.keep, by rw [e632, e633]; exact rfl⟩
   ·have hp634 : ((lo : Nat) : Int) < (l.length : Int) := by first | simpa using hb621 | (have e := hb621; simp at e; omega)
    refine cw_draw' 15 _ _ [isV (vI ((lo : Nat) : Int)), isV (vI ((lo : Nat) : Int)), isV (vI (l.length : Int)), isV (Value.bool true), isV (Value.bool true), isV (Value.func (.func f_v) #[] f_caps.toArray), fun (vT : Value) (wT : World) => RdL Enc.devop wT (Bl0 ++ O) vT (l), isV (vI ((lo : Nat) : Int)), fun (vT : Value) (wT : World) => ∃ aT, vT = .pointer (some aT) ∧ PT Enc.devop wT (Bl0 ++ O) (.pointer (some aT)) (l[lo]!), isV (Value.agg #[vI ((l[lo]!).device), vI ((l[lo]!).no), vI ((l[lo]!).kind), vI ((l[lo]!).copy), vI ((l[lo]!).to), vI ((l[lo]!).token)]), isV (Value.agg #[vI o.device, vI o.no, vI o.kind, vI o.copy, vI o.to, vI o.token]), isV (vI (f (l[lo]!) o)), isV (Value.bool ((f (l[lo]!) o) == (0 : Int))), isV (Value.bool ((f (l[lo]!) o) == (0 : Int))), isV (vI ((lo : Nat) : Int))] (by kernel_rfl) (by kernel_rfl) (by kernel_rfl) (by kernel_rfl) rfl rfl ⟨kI, kI, kI, kI, kI, kI, fun _ _ _ h k => h.mv (Mv.of_keep k), kI, fun _ _ _ ⟨a, e, h⟩ k => ⟨a, e, h.mv (Mv.of_keep k)⟩, kI, kI, kI, kI, kI, kI, trivial⟩ ⟨?_, ?_, ?_, ?_, ?_, ?_, ?_, ?_, ?_, ?_, ?_, ?_, ?_, ?_, ?_, trivial⟩ ?_
    ·intro F1 w1 k1 hf hd
     obtain ⟨F2, rfl⟩ := lit_of (F := F1) [(9, vI ((lo : Nat) : Int))] ⟨hf 9 (by kernel_rfl), trivial⟩
     exact sp_plain rfl ((o_move (vI ((lo : Nat) : Int)) rfl (⟨(Keep.refl _ _), rfl⟩)))
    ·intro F1 w1 k1 hf hd
     obtain ⟨F2, rfl⟩ := lit_of (F := F1) [(9, vI ((lo : Nat) : Int))] ⟨hf 9 (by kernel_rfl), trivial⟩
     exact sp_plain rfl ((o_move (vI ((lo : Nat) : Int)) rfl (⟨(Keep.refl _ _), rfl⟩)))
    ·intro F1 w1 k1 hf hd
     obtain ⟨F2, rfl⟩ := lit_of (F := F1) [(8, vI (l.length : Int))] ⟨hf 8 (by kernel_rfl), trivial⟩
     exact sp_plain rfl ((o_move (vI (l.length : Int)) rfl (⟨(Keep.refl _ _), rfl⟩)))
    ·intro F1 w1 k1 hf hd
     obtain ⟨F2, rfl⟩ := lit_of (F := F1) [(36, vI ((lo : Nat) : Int)), (37, vI (l.length : Int))] ⟨hd 1 36 (by kernel_rfl), hd 2 37 (by kernel_rfl), trivial⟩
     refine sp_plain rfl ((o_lss .i64 ((lo : Nat) : Int) (l.length : Int) rfl rfl (?_)))
     exact ⟨(Keep.refl _ _), congrArg Value.bool (hb621)⟩
    ·intro F1 w1 k1 hf hd
     obtain ⟨F2, rfl⟩ := lit_of (F := F1) [(38, Value.bool true)] ⟨hd 3 38 (by kernel_rfl), trivial⟩
     exact sp_plain rfl ((o_move (Value.bool true) rfl (⟨(Keep.refl _ _), rfl⟩)))
    ·intro F1 w1 k1 hf hd
     obtain ⟨F2, rfl⟩ := lit_of (F := F1) [(2, Value.func (.func f_v) #[] f_caps.toArray), (39, Value.bool true)] ⟨hf 2 (by kernel_rfl), hd 4 39 (by kernel_rfl), trivial⟩
     exact sp_take rfl rfl ((o_move (Value.func (.func f_v) #[] f_caps.toArray) rfl (⟨(Keep.refl _ _), rfl⟩)))
    ·intro F1 w1 k1 hf hd
     have k0 := (Keep.drew [] wl0).trans k1
     have m1 : Mv Bl0 wl0 Bl0 w1 := Mv.of_keep k0
     have h_l := h_l.mv m1
     obtain ⟨F2, rfl⟩ := lit_of (F := F1) [(0, l_v), (39, Value.bool true)] ⟨hf 0 (by kernel_rfl), hd 4 39 (by kernel_rfl), trivial⟩
     exact sp_take rfl rfl ((o_move (l_v) rfl (⟨(Keep.refl _ _), h_l⟩)))
    ·intro F1 w1 k1 hf hd
     obtain ⟨F2, rfl⟩ := lit_of (F := F1) [(9, vI ((lo : Nat) : Int)), (39, Value.bool true)] ⟨hf 9 (by kernel_rfl), hd 4 39 (by kernel_rfl), trivial⟩
     exact sp_take rfl rfl ((o_move (vI ((lo : Nat) : Int)) rfl (⟨(Keep.refl _ _), rfl⟩)))
    ·intro F1 w1 k1 hf hd
     obtain ⟨v635, e637, hl636⟩ : ∃ v, F1 41 = v ∧ RdL Enc.devop w1 (Bl0 ++ O) v (l) := ⟨_, rfl, hd 6 41 (by kernel_rfl)⟩
     have := hl636.len_le
     obtain ⟨F2, rfl⟩ := lit_of (F := F1) [(39, Value.bool true), (41, v635), (42, vI ((lo : Nat) : Int))] ⟨hd 4 39 (by kernel_rfl), e637, hd 7 42 (by kernel_rfl), trivial⟩
     exact sp_take rfl rfl ((o_idx Try.underlying26 s_40 .i64 ((lo : Nat) : Int) lo rfl rfl rfl hl636 (by omega) fun a638 hp639 => (⟨(Keep.refl _ _), ⟨a638, rfl, hp639⟩⟩)))
    ·intro F1 w1 k1 hf hd
     obtain ⟨a640, e642, hp641⟩ : ∃ aX_, F1 43 = .pointer (some aX_) ∧ PT Enc.devop w1 (Bl0 ++ O) (.pointer (some aX_)) (l[lo]!) := hd 8 43 (by kernel_rfl)
     obtain ⟨F2, rfl⟩ := lit_of (F := F1) [(39, Value.bool true), (43, Value.pointer (some a640))] ⟨hd 4 39 (by kernel_rfl), e642, trivial⟩
     refine sp_take rfl rfl ((o_loadS Try.underlying40 rfl s_40 rfl hp641 fun cs643 hs644 => (?_)))
     obtain rfl := hs644
     exact ⟨(Keep.refl _ _), rfl⟩
    ·intro F1 w1 k1 hf hd
     have k0 := (Keep.drew [] wl0).trans k1
     have m1 : Mv Bl0 wl0 Bl0 w1 := Mv.of_keep k0
     have hp587 := hp587.mv m1
     obtain ⟨F2, rfl⟩ := lit_of (F := F1) [(4, Value.pointer (some a582)), (39, Value.bool true)] ⟨hf 4 (by kernel_rfl), hd 4 39 (by kernel_rfl), trivial⟩
     refine sp_take rfl rfl ((o_loadS Try.underlying40 rfl s_40 rfl hp587 fun cs645 hs646 => (?_)))
     obtain rfl := hs646
     exact ⟨(Keep.refl _ _), rfl⟩
    ·intro F1 w1 k1 hf hd
     have k0 := (Keep.drew [] wl0).trans k1
     have s1 := sl0.call k0
     obtain ⟨F2, rfl⟩ := lit_of (F := F1) [(39, Value.bool true), (40, Value.func (.func f_v) #[] f_caps.toArray), (44, Value.agg #[vI ((l[lo]!).device), vI ((l[lo]!).no), vI ((l[lo]!).kind), vI ((l[lo]!).copy), vI ((l[lo]!).to), vI ((l[lo]!).token)]), (45, Value.agg #[vI o.device, vI o.no, vI o.kind, vI o.copy, vI o.to, vI o.token])] ⟨hd 4 39 (by kernel_rfl), hd 5 40 (by kernel_rfl), hd 9 44 (by kernel_rfl), hd 10 45 (by kernel_rfl), trivial⟩
     refine sp_take rfl rfl ((o_callvK [] f_caps [Value.agg #[vI ((l[lo]!).device), vI ((l[lo]!).no), vI ((l[lo]!).kind), vI ((l[lo]!).copy), vI ((l[lo]!).to), vI ((l[lo]!).token)], Value.agg #[vI o.device, vI o.no, vI o.kind, vI o.copy, vI o.to, vI o.token]] h_f_e rfl (h_f w1 (Bl0 ++ O) s1.keep (fun b hb => (List.mem_append.1 hb).elim (fun h => .inr (s1.new b h).1) .inl) s1.lt [vI ((l[lo]!).device), vI ((l[lo]!).no), vI ((l[lo]!).kind), vI ((l[lo]!).copy), vI ((l[lo]!).to), vI ((l[lo]!).token)] (l[lo]!) [vI o.device, vI o.no, vI o.kind, vI o.copy, vI o.to, vI o.token] o rfl rfl) rfl rfl s1 fun v647 w648 s649 m650 k651 r652 => (?_)))
     obtain rfl := r652
     exact ⟨k651, rfl⟩
    ·intro F1 w1 k1 hf hd
     obtain ⟨F2, rfl⟩ := lit_of (F := F1) [(39, Value.bool true), (46, vI (f (l[lo]!) o))] ⟨hd 4 39 (by kernel_rfl), hd 11 46 (by kernel_rfl), trivial⟩
     exact sp_take rfl rfl ((o_eql .i64 (f (l[lo]!) o) (0 : Int) rfl rfl (⟨(Keep.refl _ _), rfl⟩)))
    ·intro F1 w1 k1 hf hd
     obtain ⟨F2, rfl⟩ := lit_of (F := F1) [(39, Value.bool true), (47, Value.bool ((f (l[lo]!) o) == (0 : Int)))] ⟨hd 4 39 (by kernel_rfl), hd 12 47 (by kernel_rfl), trivial⟩
     exact sp_plain rfl ((o_pickT (Value.bool ((f (l[lo]!) o) == (0 : Int))) rfl rfl (⟨(Keep.refl _ _), rfl⟩)))
    ·intro F1 w1 k1 hf hd
     obtain ⟨F2, rfl⟩ := lit_of (F := F1) [(35, vI ((lo : Nat) : Int))] ⟨hd 0 35 (by kernel_rfl), trivial⟩
     exact sp_plain rfl ((o_assign (vI ((lo : Nat) : Int)) rfl (⟨(Keep.refl _ _), rfl⟩)))
    intro F654 w655 k653 hT656 hF657
    have s658 := sl0.call k653
    obtain ⟨F2, rfl⟩ := lit_of (F := F654) [(49, undef), (6, vI ((lo : Nat) : Int)), (48, Value.bool ((f (l[lo]!) o) == (0 : Int)))] ⟨hF657 49 (by kernel_rfl), hT656 14 6 (by kernel_rfl) (by decide), hT656 13 48 (by kernel_rfl) (by decide), trivial⟩
    clear hT656 hF657
    refine wl_s (o_assign (Value.bool ((f (l[lo]!) o) == (0 : Int))) rfl (wl_nil (thenQ_n (?_))))
    refine cw_ret (end_r rfl (res2 rfl rfl rfl rfl) (?_))
    have e662 : (tw2 l o f) = lo := by exact htw
    have e663 : (bsG l o f) = ((f (l[lo]!) o) == (0 : Int)) := by first | (unfold bsG; rw [htw]; simp only [dbs]; omega) | (unfold bsG; rw [htw]; simp [*]; done) | (unfold bsG; rw [htw]; simp [*]; omega)
    exact ⟨_, rfl, s658.keep, by rw [e662, e663]; exact rfl⟩

end Go.Proofs.Ytjpniibleelgiaa
