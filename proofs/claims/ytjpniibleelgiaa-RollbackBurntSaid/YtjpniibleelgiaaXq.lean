/- Walks, printed by gen.py. -/
import Derived.Test.YtjpniibleelgiaaTy
import Derived.Test.YtjpniibleelgiaaFwZ
import Derived.Test.YtjpniibleelgiaaMdC
set_option linter.unusedSimpArgs false
set_option linter.unusedVariables false
namespace Go.Proofs.Ytjpniibleelgiaa
open Go.Fw Go.RowKit

set_option maxHeartbeats 4000000 in
set_option maxRecDepth 100000 in
theorem c_refHas {O : List Nat} (l_v : Value) (l : List DeviceOp) (o_cs : List Value) (o : DeviceOp) (w : World) (h_l : RdL Enc.devop w O l_v l) (h_o : Enc.devop.rd w O o_cs o) (hO : ∀ b ∈ O, b < w.heap.size) : CallsK Try.prog 37 [l_v, .agg o_cs.toArray] w (fun v _ => v = .bool (l.contains o)) :=  by
 have lim_l := h_l.len_le
 have h_l : RdL Enc.devop w ([] ++ O) l_v l := h_l
 obtain rfl := h_o
 have s0 : St w O w [] := St.start hO
 refine callsK_of 18 Try.func37 rfl rfl (of_decide_eq_true rfl) (fun F0 => ?_)
 refine cw_seq (?_)
 refine cw_region (by kernel_rfl) (wl_s (o_boxR (E := Enc.devop) (Value.agg #[vI o.device, vI o.no, vI o.kind, vI o.copy, vI o.to, vI o.token]) ([vI o.device, vI o.no, vI o.kind, vI o.copy, vI o.to, vI o.token]) o rfl rfl rfl s0 fun a1478 w1479 s1480 m1481 k1482 hp1483 => (?_)))
 have h_l := h_l.mv m1481
 refine wl_s (o_assign (Value.bool false) rfl (wl_nil (thenQ_n (?_))))
 refine cw_seq (?_)
 refine cw_seq (?_)
 refine cw_region (by kernel_rfl) (wl_s (o_assign (vI (0 : Int)) rfl (wl_nil (thenQ_n (?_)))))
 refine cw_block (?_)
 refine cw_loop (fun mI FI wI => ∃ (k : Nat) (B : List Nat), k ≤ l.length ∧ (∀ q, q < k → l[q]! ≠ o) ∧ mI = l.length - k ∧ (∃ F1, FI = upds F1 [(0, l_v), (3, Value.pointer (some a1478)), (5, vI ((k : Nat) : Int)), (18, undef)]) ∧ St w O wI B ∧ RdL Enc.devop wI (B ++ O) (l_v) (l) ∧ PT Enc.devop wI (B ++ O) (.pointer (some a1478)) (o)) (l.length - (0)) ?_ ?_
 ·exact ⟨(0), [], (by omega), (fun q hq => by omega), rfl, ⟨_, upds_self _ ⟨rfl, rfl, (by first | rfl | exact congrArg (Value.int _) (by first | omega | (simp))), rfl, trivial⟩⟩, s1480, h_l, hp1483⟩
 ·intro ml0 F wl0 hI
  clear h_l hp1483
  obtain ⟨k, Bl0, hr0_0, hr0_1, hm0, ⟨Fl0, rfl⟩, sl0, h_l, hp1483⟩ := hI
  refine cw_seq (?_)
  refine cw_seq (?_)
  refine cw_region (by kernel_rfl) (wl_s (o_move (vI ((k : Nat) : Int)) rfl (wl_s (o_move (l_v) rfl (wl_s (o_lenR Try.underlying26 rfl h_l (wl_s (o_lss .i64 ((k : Nat) : Int) (l.length : Int) rfl rfl (wl_nil (thenQ_n (?_)))))))))))
  refine cw_cond (decide (((k : Nat) : Int) < (l.length : Int))) rfl rfl (fun hc1484 => ?_) (fun hc1484 => ?_)
  ·have hp1485 : ((k : Nat) : Int) < (l.length : Int) := by first | simpa using hc1484 | (have e := hc1484; simp at e; omega)
   refine cw_skip (thenQ_n (?_))
   refine cw_seq (?_)
   refine cw_block (?_)
   refine cw_seq (?_)
   refine cw_draw' 5 _ _ [fun (vT : Value) (wT : World) => RdL Enc.devop wT (Bl0 ++ O) vT (l), isV (vI ((k : Nat) : Int)), fun (vT : Value) (wT : World) => ∃ aT, vT = .pointer (some aT) ∧ PT Enc.devop wT (Bl0 ++ O) (.pointer (some aT)) (l[k]!), isV (Value.agg #[vI ((l[k]!).device), vI ((l[k]!).no), vI ((l[k]!).kind), vI ((l[k]!).copy), vI ((l[k]!).to), vI ((l[k]!).token)]), isV (Value.agg #[vI o.device, vI o.no, vI o.kind, vI o.copy, vI o.to, vI o.token])] (by kernel_rfl) (by kernel_rfl) (by kernel_rfl) (by kernel_rfl) rfl rfl ⟨fun _ _ _ h k => h.mv (Mv.of_keep k), kI, fun _ _ _ ⟨a, e, h⟩ k => ⟨a, e, h.mv (Mv.of_keep k)⟩, kI, kI, trivial⟩ ⟨?_, ?_, ?_, ?_, ?_, trivial⟩ ?_
   ·intro F1 w1 k1 hf hd
    have k0 := (Keep.drew [] wl0).trans k1
    have m1 : Mv Bl0 wl0 Bl0 w1 := Mv.of_keep k0
    have h_l := h_l.mv m1
    obtain ⟨F2, rfl⟩ := lit_of (F := F1) [(0, l_v)] ⟨hf 0 (by kernel_rfl), trivial⟩
    exact sp_plain rfl ((o_move (l_v) rfl (⟨(Keep.refl _ _), h_l⟩)))
   ·intro F1 w1 k1 hf hd
    obtain ⟨F2, rfl⟩ := lit_of (F := F1) [(5, vI ((k : Nat) : Int))] ⟨hf 5 (by kernel_rfl), trivial⟩
    exact sp_plain rfl ((o_move (vI ((k : Nat) : Int)) rfl (⟨(Keep.refl _ _), rfl⟩)))
   ·intro F1 w1 k1 hf hd
    obtain ⟨v1486, e1488, hl1487⟩ : ∃ v, F1 12 = v ∧ RdL Enc.devop w1 (Bl0 ++ O) v (l) := ⟨_, rfl, hd 0 12 (by kernel_rfl)⟩
    have := hl1487.len_le
    obtain ⟨F2, rfl⟩ := lit_of (F := F1) [(12, v1486), (13, vI ((k : Nat) : Int))] ⟨e1488, hd 1 13 (by kernel_rfl), trivial⟩
    exact sp_plain rfl ((o_idx Try.underlying26 s_40 .i64 ((k : Nat) : Int) k rfl rfl rfl hl1487 (by omega) fun a1489 hp1490 => (⟨(Keep.refl _ _), ⟨a1489, rfl, hp1490⟩⟩)))
   ·intro F1 w1 k1 hf hd
    obtain ⟨a1491, e1493, hp1492⟩ : ∃ aX_, F1 14 = .pointer (some aX_) ∧ PT Enc.devop w1 (Bl0 ++ O) (.pointer (some aX_)) (l[k]!) := hd 2 14 (by kernel_rfl)
    obtain ⟨F2, rfl⟩ := lit_of (F := F1) [(14, Value.pointer (some a1491))] ⟨e1493, trivial⟩
    refine sp_plain rfl ((o_loadS Try.underlying40 rfl s_40 rfl hp1492 fun cs1494 hs1495 => (?_)))
    obtain rfl := hs1495
    exact ⟨(Keep.refl _ _), rfl⟩
   ·intro F1 w1 k1 hf hd
    have k0 := (Keep.drew [] wl0).trans k1
    have m1 : Mv Bl0 wl0 Bl0 w1 := Mv.of_keep k0
    have hp1483 := hp1483.mv m1
    obtain ⟨F2, rfl⟩ := lit_of (F := F1) [(3, Value.pointer (some a1478))] ⟨hf 3 (by kernel_rfl), trivial⟩
    refine sp_plain rfl ((o_loadS Try.underlying40 rfl s_40 rfl hp1483 fun cs1496 hs1497 => (?_)))
    obtain rfl := hs1497
    exact ⟨(Keep.refl _ _), rfl⟩
   intro F1499 w1500 k1498 hT1501 hF1502
   have s1503 := sl0.call k1498
   have m1504 : Mv Bl0 wl0 Bl0 w1500 := Mv.of_keep k1498
   have h_l := h_l.mv m1504
   have hp1483 := hp1483.mv m1504
   obtain ⟨F2, rfl⟩ := lit_of (F := F1499) [(0, l_v), (3, Value.pointer (some a1478)), (5, vI ((k : Nat) : Int)), (18, undef), (15, Value.agg #[vI ((l[k]!).device), vI ((l[k]!).no), vI ((l[k]!).kind), vI ((l[k]!).copy), vI ((l[k]!).to), vI ((l[k]!).token)]), (16, Value.agg #[vI o.device, vI o.no, vI o.kind, vI o.copy, vI o.to, vI o.token])] ⟨hF1502 0 (by kernel_rfl), hF1502 3 (by kernel_rfl), hF1502 5 (by kernel_rfl), hF1502 18 (by kernel_rfl), hT1501 3 15 (by kernel_rfl) (by decide), hT1501 4 16 (by kernel_rfl) (by decide), trivial⟩
   clear hT1501 hF1502
   refine wl_s (o_eqlF (ks := [true, true, true, true, true, true]) [.inl ((l[k]!).device), .inl ((l[k]!).no), .inl ((l[k]!).kind), .inl ((l[k]!).copy), .inl ((l[k]!).to), .inl ((l[k]!).token)] [.inl o.device, .inl o.no, .inl o.kind, .inl o.copy, .inl o.to, .inl o.token] str_devop flat_devop rfl rfl rfl rfl (cs_devop (l[k]!) o) (wl_nil (thenQ_n (?_))))
   refine cw_cond ((l[k]!) == o) rfl rfl (fun hc1507 => ?_) (fun hc1507 => ?_)
   ·have hp1508 : (l[k]!) = o := by first | simpa using hc1507 | (have e := hc1507; simp at e; omega)
    refine cw_seq (?_)
    refine cw_region (by kernel_rfl) (wl_s (o_assign (Value.bool true) rfl (wl_nil (thenQ_n (?_)))))
    refine cw_ret (blockQ_r (thenQ_r (thenQ_r (blockQ_r (thenQ_r (end_r rfl (res1 rfl rfl rfl) (?_)))))))
    have e : (l.contains o) = true := by first | exact mem_yes (k := k) (by omega) (by assumption) | exact mem_no hr0_1
    exact ⟨_, rfl, s1503.keep, (by first | exact congrArg Value.bool e.symm | rfl)⟩
   ·have hp1509 : (l[k]!) ≠ o := by first | simpa using hc1507 | (have e := hc1507; simp at e; omega)
    refine cw_skip (blockQ_n (thenQ_n (?_)))
    refine cw_region (by kernel_rfl) (wl_s (o_move (vI ((k : Nat) : Int)) rfl (wl_s (o_add .i64 ((k : Nat) : Int) (1 : Int) (((k + 1 : Nat) : Int)) rfl rfl (w64 (by omega) (by omega)) (wl_s (o_assign (vI ((k + 1 : Nat) : Int)) rfl (wl_nil (thenQ_n (?_)))))))))
    exact ⟨_, (by omega), (k + 1), Bl0, (by omega), (ne_step hr0_1 (by assumption)), rfl, ⟨_, upds_self _ ⟨rfl, rfl, (by first | rfl | exact congrArg (Value.int _) (by first | omega | (simp))), rfl, trivial⟩⟩, s1503, h_l, hp1483⟩
  ·have hp1510 : (l.length : Int) ≤ ((k : Nat) : Int) := by first | simpa using hc1484 | (have e := hc1484; simp at e; omega)
   obtain rfl : k = l.length := by omega
   refine cw_exit (thenQ_x (thenQ_x (blockQ_x (thenQ_n (?_)))))
   refine cw_seq (?_)
   refine cw_region (by kernel_rfl) (wl_s (o_assign (Value.bool false) rfl (wl_nil (thenQ_n (?_)))))
   refine cw_ret (end_r rfl (res1 rfl rfl rfl) (?_))
   have e : (l.contains o) = false := by first | exact mem_yes (k := k) (by omega) (by assumption) | exact mem_no hr0_1
   exact ⟨_, rfl, sl0.keep, (by first | exact congrArg Value.bool e.symm | rfl)⟩
set_option maxHeartbeats 4000000 in
set_option maxRecDepth 100000 in
theorem c_same {O : List Nat} (la_v : Value) (la : List DeviceOp) (lb_v : Value) (lb : List DeviceOp) (w : World) (h_la : RdL Enc.devop w O la_v la) (h_lb : RdL Enc.devop w O lb_v lb) (hO : ∀ b ∈ O, b < w.heap.size) : CallsK Try.prog 28 [la_v, lb_v] w (fun v _ => v = .bool (la == lb)) :=  by
 have lim_la := h_la.len_le
 have h_la : RdL Enc.devop w ([] ++ O) la_v la := h_la
 have lim_lb := h_lb.len_le
 have h_lb : RdL Enc.devop w ([] ++ O) lb_v lb := h_lb
 have s0 : St w O w [] := St.start hO
 refine callsK_of 26 Try.func28 rfl rfl (of_decide_eq_true rfl) (fun F0 => ?_)
 refine cw_seq (?_)
 refine cw_region (by kernel_rfl) (wl_s (o_assign (Value.bool false) rfl (wl_nil (thenQ_n (?_)))))
 refine cw_seq (?_)
 refine cw_seq (?_)
 refine cw_region (by kernel_rfl) (wl_s (o_move (la_v) rfl (wl_s (o_lenR Try.underlying26 rfl h_la (wl_s (o_move (lb_v) rfl (wl_s (o_lenR Try.underlying26 rfl h_lb (wl_s (o_neq .i64 (la.length : Int) (lb.length : Int) rfl rfl (wl_nil (thenQ_n (?_)))))))))))))
 refine cw_cond ((la.length : Int) != (lb.length : Int)) rfl rfl (fun hc1511 => ?_) (fun hc1511 => ?_)
 ·have hp1512 : (la.length : Int) ≠ (lb.length : Int) := by first | simpa using hc1511 | (have e := hc1511; simp at e; omega)
  refine cw_seq (?_)
  refine cw_region (by kernel_rfl) (wl_s (o_assign (Value.bool false) rfl (wl_nil (thenQ_n (?_)))))
  refine cw_ret (thenQ_r (end_r rfl (res1 rfl rfl rfl) (?_)))
  have e : (la == lb) = false := by first | exact same_len (by assumption) | exact same_at (k := k) (by assumption) | exact same_end (by assumption) hr0_1
  exact ⟨_, rfl, s0.keep, (by first | exact congrArg Value.bool e.symm | rfl)⟩
 ·have hp1513 : (la.length : Int) = (lb.length : Int) := by first | simpa using hc1511 | (have e := hc1511; simp at e; omega)
  refine cw_skip (thenQ_n (?_))
  refine cw_seq (?_)
  refine cw_seq (?_)
  refine cw_region (by kernel_rfl) (wl_s (o_assign (vI (0 : Int)) rfl (wl_nil (thenQ_n (?_)))))
  refine cw_block (?_)
  refine cw_loop (fun mI FI wI => ∃ (k : Nat) (B : List Nat), k ≤ la.length ∧ (∀ q, q < k → la[q]! = lb[q]!) ∧ mI = la.length - k ∧ (∃ F1, FI = upds F1 [(0, la_v), (1, lb_v), (5, vI ((k : Nat) : Int)), (26, undef)]) ∧ St w O wI B ∧ RdL Enc.devop wI (B ++ O) (la_v) (la) ∧ RdL Enc.devop wI (B ++ O) (lb_v) (lb)) (la.length - (0)) ?_ ?_
  ·exact ⟨(0), [], (by omega), (fun q hq => by omega), rfl, ⟨_, upds_self _ ⟨rfl, rfl, (by first | rfl | exact congrArg (Value.int _) (by first | omega | (simp))), rfl, trivial⟩⟩, s0, h_la, h_lb⟩
  ·intro ml0 F wl0 hI
   clear h_la h_lb
   obtain ⟨k, Bl0, hr0_0, hr0_1, hm0, ⟨Fl0, rfl⟩, sl0, h_la, h_lb⟩ := hI
   refine cw_seq (?_)
   refine cw_seq (?_)
   refine cw_region (by kernel_rfl) (wl_s (o_move (vI ((k : Nat) : Int)) rfl (wl_s (o_move (la_v) rfl (wl_s (o_lenR Try.underlying26 rfl h_la (wl_s (o_lss .i64 ((k : Nat) : Int) (la.length : Int) rfl rfl (wl_nil (thenQ_n (?_)))))))))))
   refine cw_cond (decide (((k : Nat) : Int) < (la.length : Int))) rfl rfl (fun hc1514 => ?_) (fun hc1514 => ?_)
   ·have hp1515 : ((k : Nat) : Int) < (la.length : Int) := by first | simpa using hc1514 | (have e := hc1514; simp at e; omega)
    refine cw_skip (thenQ_n (?_))
    refine cw_seq (?_)
    refine cw_block (?_)
    refine cw_seq (?_)
    refine cw_draw' 8 _ _ [fun (vT : Value) (wT : World) => RdL Enc.devop wT (Bl0 ++ O) vT (la), isV (vI ((k : Nat) : Int)), fun (vT : Value) (wT : World) => ∃ aT, vT = .pointer (some aT) ∧ PT Enc.devop wT (Bl0 ++ O) (.pointer (some aT)) (la[k]!), isV (Value.agg #[vI ((la[k]!).device), vI ((la[k]!).no), vI ((la[k]!).kind), vI ((la[k]!).copy), vI ((la[k]!).to), vI ((la[k]!).token)]), fun (vT : Value) (wT : World) => RdL Enc.devop wT (Bl0 ++ O) vT (lb), isV (vI ((k : Nat) : Int)), fun (vT : Value) (wT : World) => ∃ aT, vT = .pointer (some aT) ∧ PT Enc.devop wT (Bl0 ++ O) (.pointer (some aT)) (lb[k]!), isV (Value.agg #[vI ((lb[k]!).device), vI ((lb[k]!).no), vI ((lb[k]!).kind), vI ((lb[k]!).copy), vI ((lb[k]!).to), vI ((lb[k]!).token)])] (by kernel_rfl) (by kernel_rfl) (by kernel_rfl) (by kernel_rfl) rfl rfl ⟨fun _ _ _ h k => h.mv (Mv.of_keep k), kI, fun _ _ _ ⟨a, e, h⟩ k => ⟨a, e, h.mv (Mv.of_keep k)⟩, kI, fun _ _ _ h k => h.mv (Mv.of_keep k), kI, fun _ _ _ ⟨a, e, h⟩ k => ⟨a, e, h.mv (Mv.of_keep k)⟩, kI, trivial⟩ ⟨?_, ?_, ?_, ?_, ?_, ?_, ?_, ?_, trivial⟩ ?_
    ·intro F1 w1 k1 hf hd
     have k0 := (Keep.drew [] wl0).trans k1
     have m1 : Mv Bl0 wl0 Bl0 w1 := Mv.of_keep k0
     have h_la := h_la.mv m1
     obtain ⟨F2, rfl⟩ := lit_of (F := F1) [(0, la_v)] ⟨hf 0 (by kernel_rfl), trivial⟩
     exact sp_plain rfl ((o_move (la_v) rfl (⟨(Keep.refl _ _), h_la⟩)))
    ·intro F1 w1 k1 hf hd
     obtain ⟨F2, rfl⟩ := lit_of (F := F1) [(5, vI ((k : Nat) : Int))] ⟨hf 5 (by kernel_rfl), trivial⟩
     exact sp_plain rfl ((o_move (vI ((k : Nat) : Int)) rfl (⟨(Keep.refl _ _), rfl⟩)))
    ·intro F1 w1 k1 hf hd
     obtain ⟨v1516, e1518, hl1517⟩ : ∃ v, F1 17 = v ∧ RdL Enc.devop w1 (Bl0 ++ O) v (la) := ⟨_, rfl, hd 0 17 (by kernel_rfl)⟩
     have := hl1517.len_le
     obtain ⟨F2, rfl⟩ := lit_of (F := F1) [(17, v1516), (18, vI ((k : Nat) : Int))] ⟨e1518, hd 1 18 (by kernel_rfl), trivial⟩
     exact sp_plain rfl ((o_idx Try.underlying26 s_40 .i64 ((k : Nat) : Int) k rfl rfl rfl hl1517 (by omega) fun a1519 hp1520 => (⟨(Keep.refl _ _), ⟨a1519, rfl, hp1520⟩⟩)))
    ·intro F1 w1 k1 hf hd
     obtain ⟨a1521, e1523, hp1522⟩ : ∃ aX_, F1 19 = .pointer (some aX_) ∧ PT Enc.devop w1 (Bl0 ++ O) (.pointer (some aX_)) (la[k]!) := hd 2 19 (by kernel_rfl)
     obtain ⟨F2, rfl⟩ := lit_of (F := F1) [(19, Value.pointer (some a1521))] ⟨e1523, trivial⟩
     refine sp_plain rfl ((o_loadS Try.underlying40 rfl s_40 rfl hp1522 fun cs1524 hs1525 => (?_)))
     obtain rfl := hs1525
     exact ⟨(Keep.refl _ _), rfl⟩
    ·intro F1 w1 k1 hf hd
     have k0 := (Keep.drew [] wl0).trans k1
     have m1 : Mv Bl0 wl0 Bl0 w1 := Mv.of_keep k0
     have h_lb := h_lb.mv m1
     obtain ⟨F2, rfl⟩ := lit_of (F := F1) [(1, lb_v)] ⟨hf 1 (by kernel_rfl), trivial⟩
     exact sp_plain rfl ((o_move (lb_v) rfl (⟨(Keep.refl _ _), h_lb⟩)))
    ·intro F1 w1 k1 hf hd
     obtain ⟨F2, rfl⟩ := lit_of (F := F1) [(5, vI ((k : Nat) : Int))] ⟨hf 5 (by kernel_rfl), trivial⟩
     exact sp_plain rfl ((o_move (vI ((k : Nat) : Int)) rfl (⟨(Keep.refl _ _), rfl⟩)))
    ·intro F1 w1 k1 hf hd
     obtain ⟨v1526, e1528, hl1527⟩ : ∃ v, F1 21 = v ∧ RdL Enc.devop w1 (Bl0 ++ O) v (lb) := ⟨_, rfl, hd 4 21 (by kernel_rfl)⟩
     have := hl1527.len_le
     obtain ⟨F2, rfl⟩ := lit_of (F := F1) [(21, v1526), (22, vI ((k : Nat) : Int))] ⟨e1528, hd 5 22 (by kernel_rfl), trivial⟩
     exact sp_plain rfl ((o_idx Try.underlying26 s_40 .i64 ((k : Nat) : Int) k rfl rfl rfl hl1527 (by omega) fun a1529 hp1530 => (⟨(Keep.refl _ _), ⟨a1529, rfl, hp1530⟩⟩)))
    ·intro F1 w1 k1 hf hd
     obtain ⟨a1531, e1533, hp1532⟩ : ∃ aX_, F1 23 = .pointer (some aX_) ∧ PT Enc.devop w1 (Bl0 ++ O) (.pointer (some aX_)) (lb[k]!) := hd 6 23 (by kernel_rfl)
     obtain ⟨F2, rfl⟩ := lit_of (F := F1) [(23, Value.pointer (some a1531))] ⟨e1533, trivial⟩
     refine sp_plain rfl ((o_loadS Try.underlying40 rfl s_40 rfl hp1532 fun cs1534 hs1535 => (?_)))
     obtain rfl := hs1535
     exact ⟨(Keep.refl _ _), rfl⟩
    intro F1537 w1538 k1536 hT1539 hF1540
    have s1541 := sl0.call k1536
    have m1542 : Mv Bl0 wl0 Bl0 w1538 := Mv.of_keep k1536
    have h_la := h_la.mv m1542
    have h_lb := h_lb.mv m1542
    obtain ⟨F2, rfl⟩ := lit_of (F := F1537) [(0, la_v), (1, lb_v), (5, vI ((k : Nat) : Int)), (26, undef), (20, Value.agg #[vI ((la[k]!).device), vI ((la[k]!).no), vI ((la[k]!).kind), vI ((la[k]!).copy), vI ((la[k]!).to), vI ((la[k]!).token)]), (24, Value.agg #[vI ((lb[k]!).device), vI ((lb[k]!).no), vI ((lb[k]!).kind), vI ((lb[k]!).copy), vI ((lb[k]!).to), vI ((lb[k]!).token)])] ⟨hF1540 0 (by kernel_rfl), hF1540 1 (by kernel_rfl), hF1540 5 (by kernel_rfl), hF1540 26 (by kernel_rfl), hT1539 3 20 (by kernel_rfl) (by decide), hT1539 7 24 (by kernel_rfl) (by decide), trivial⟩
    clear hT1539 hF1540
    refine wl_s (o_neqF (ks := [true, true, true, true, true, true]) [.inl ((la[k]!).device), .inl ((la[k]!).no), .inl ((la[k]!).kind), .inl ((la[k]!).copy), .inl ((la[k]!).to), .inl ((la[k]!).token)] [.inl ((lb[k]!).device), .inl ((lb[k]!).no), .inl ((lb[k]!).kind), .inl ((lb[k]!).copy), .inl ((lb[k]!).to), .inl ((lb[k]!).token)] str_devop flat_devop rfl rfl rfl rfl (congrArg not (cs_devop (la[k]!) (lb[k]!))) (wl_nil (thenQ_n (?_))))
    refine cw_cond (!((la[k]!) == (lb[k]!))) rfl rfl (fun hc1545 => ?_) (fun hc1545 => ?_)
    ·have hp1546 : (la[k]!) ≠ (lb[k]!) := by first | simpa using hc1545 | (have e := hc1545; rw [Bool.not_eq_true'] at e; exact e) | (have e := hc1545; rw [Bool.not_eq_false'] at e; exact e) | (have e := hc1545; simp at e; omega)
     refine cw_seq (?_)
     refine cw_region (by kernel_rfl) (wl_s (o_assign (Value.bool false) rfl (wl_nil (thenQ_n (?_)))))
     refine cw_ret (blockQ_r (thenQ_r (thenQ_r (blockQ_r (thenQ_r (end_r rfl (res1 rfl rfl rfl) (?_)))))))
     have e : (la == lb) = false := by first | exact same_len (by assumption) | exact same_at (k := k) (by assumption) | exact same_end (by assumption) hr0_1
     exact ⟨_, rfl, s1541.keep, (by first | exact congrArg Value.bool e.symm | rfl)⟩
    ·have hp1547 : (la[k]!) = (lb[k]!) := by first | simpa using hc1545 | (have e := hc1545; rw [Bool.not_eq_true'] at e; exact e) | (have e := hc1545; rw [Bool.not_eq_false'] at e; exact e) | (have e := hc1545; simp at e; omega)
     refine cw_skip (blockQ_n (thenQ_n (?_)))
     refine cw_region (by kernel_rfl) (wl_s (o_move (vI ((k : Nat) : Int)) rfl (wl_s (o_add .i64 ((k : Nat) : Int) (1 : Int) (((k + 1 : Nat) : Int)) rfl rfl (w64 (by omega) (by omega)) (wl_s (o_assign (vI ((k + 1 : Nat) : Int)) rfl (wl_nil (thenQ_n (?_)))))))))
     exact ⟨_, (by omega), (k + 1), Bl0, (by omega), (eq_step hr0_1 (by assumption)), rfl, ⟨_, upds_self _ ⟨rfl, rfl, (by first | rfl | exact congrArg (Value.int _) (by first | omega | (simp))), rfl, trivial⟩⟩, s1541, h_la, h_lb⟩
   ·have hp1548 : (la.length : Int) ≤ ((k : Nat) : Int) := by first | simpa using hc1514 | (have e := hc1514; simp at e; omega)
    obtain rfl : k = la.length := by omega
    refine cw_exit (thenQ_x (thenQ_x (blockQ_x (thenQ_n (?_)))))
    refine cw_seq (?_)
    refine cw_region (by kernel_rfl) (wl_s (o_assign (Value.bool true) rfl (wl_nil (thenQ_n (?_)))))
    refine cw_ret (end_r rfl (res1 rfl rfl rfl) (?_))
    have e : (la == lb) = true := by first | exact same_len (by assumption) | exact same_at (k := k) (by assumption) | exact same_end (by assumption) hr0_1
    exact ⟨_, rfl, sl0.keep, (by first | exact congrArg Value.bool e.symm | rfl)⟩
set_option maxHeartbeats 4000000 in
set_option maxRecDepth 100000 in
theorem c_sameS {O : List Nat} (la_v : Value) (la : List Holding) (lb_v : Value) (lb : List Holding) (w : World) (h_la : RdL Enc.holding w O la_v la) (h_lb : RdL Enc.holding w O lb_v lb) (hO : ∀ b ∈ O, b < w.heap.size) : CallsK Try.prog 36 [la_v, lb_v] w (fun v _ => v = .bool (la == lb)) :=  by
 have lim_la := h_la.len_le
 have h_la : RdL Enc.holding w ([] ++ O) la_v la := h_la
 have lim_lb := h_lb.len_le
 have h_lb : RdL Enc.holding w ([] ++ O) lb_v lb := h_lb
 have s0 : St w O w [] := St.start hO
 refine callsK_of 26 Try.func36 rfl rfl (of_decide_eq_true rfl) (fun F0 => ?_)
 refine cw_seq (?_)
 refine cw_region (by kernel_rfl) (wl_s (o_assign (Value.bool false) rfl (wl_nil (thenQ_n (?_)))))
 refine cw_seq (?_)
 refine cw_seq (?_)
 refine cw_region (by kernel_rfl) (wl_s (o_move (la_v) rfl (wl_s (o_lenR Try.underlying43 rfl h_la (wl_s (o_move (lb_v) rfl (wl_s (o_lenR Try.underlying43 rfl h_lb (wl_s (o_neq .i64 (la.length : Int) (lb.length : Int) rfl rfl (wl_nil (thenQ_n (?_)))))))))))))
 refine cw_cond ((la.length : Int) != (lb.length : Int)) rfl rfl (fun hc1549 => ?_) (fun hc1549 => ?_)
 ·have hp1550 : (la.length : Int) ≠ (lb.length : Int) := by first | simpa using hc1549 | (have e := hc1549; simp at e; omega)
  refine cw_seq (?_)
  refine cw_region (by kernel_rfl) (wl_s (o_assign (Value.bool false) rfl (wl_nil (thenQ_n (?_)))))
  refine cw_ret (thenQ_r (end_r rfl (res1 rfl rfl rfl) (?_)))
  have e : (la == lb) = false := by first | exact same_len (by assumption) | exact same_at (k := k) (by assumption) | exact same_end (by assumption) hr0_1
  exact ⟨_, rfl, s0.keep, (by first | exact congrArg Value.bool e.symm | rfl)⟩
 ·have hp1551 : (la.length : Int) = (lb.length : Int) := by first | simpa using hc1549 | (have e := hc1549; simp at e; omega)
  refine cw_skip (thenQ_n (?_))
  refine cw_seq (?_)
  refine cw_seq (?_)
  refine cw_region (by kernel_rfl) (wl_s (o_assign (vI (0 : Int)) rfl (wl_nil (thenQ_n (?_)))))
  refine cw_block (?_)
  refine cw_loop (fun mI FI wI => ∃ (k : Nat) (B : List Nat), k ≤ la.length ∧ (∀ q, q < k → la[q]! = lb[q]!) ∧ mI = la.length - k ∧ (∃ F1, FI = upds F1 [(0, la_v), (1, lb_v), (5, vI ((k : Nat) : Int)), (26, undef)]) ∧ St w O wI B ∧ RdL Enc.holding wI (B ++ O) (la_v) (la) ∧ RdL Enc.holding wI (B ++ O) (lb_v) (lb)) (la.length - (0)) ?_ ?_
  ·exact ⟨(0), [], (by omega), (fun q hq => by omega), rfl, ⟨_, upds_self _ ⟨rfl, rfl, (by first | rfl | exact congrArg (Value.int _) (by first | omega | (simp))), rfl, trivial⟩⟩, s0, h_la, h_lb⟩
  ·intro ml0 F wl0 hI
   clear h_la h_lb
   obtain ⟨k, Bl0, hr0_0, hr0_1, hm0, ⟨Fl0, rfl⟩, sl0, h_la, h_lb⟩ := hI
   refine cw_seq (?_)
   refine cw_seq (?_)
   refine cw_region (by kernel_rfl) (wl_s (o_move (vI ((k : Nat) : Int)) rfl (wl_s (o_move (la_v) rfl (wl_s (o_lenR Try.underlying43 rfl h_la (wl_s (o_lss .i64 ((k : Nat) : Int) (la.length : Int) rfl rfl (wl_nil (thenQ_n (?_)))))))))))
   refine cw_cond (decide (((k : Nat) : Int) < (la.length : Int))) rfl rfl (fun hc1552 => ?_) (fun hc1552 => ?_)
   ·have hp1553 : ((k : Nat) : Int) < (la.length : Int) := by first | simpa using hc1552 | (have e := hc1552; simp at e; omega)
    refine cw_skip (thenQ_n (?_))
    refine cw_seq (?_)
    refine cw_block (?_)
    refine cw_seq (?_)
    refine cw_draw' 8 _ _ [fun (vT : Value) (wT : World) => RdL Enc.holding wT (Bl0 ++ O) vT (la), isV (vI ((k : Nat) : Int)), fun (vT : Value) (wT : World) => ∃ aT, vT = .pointer (some aT) ∧ PT Enc.holding wT (Bl0 ++ O) (.pointer (some aT)) (la[k]!), isV (Value.agg #[vI ((la[k]!).copy), vI ((la[k]!).device), vI ((la[k]!).token), Value.bool ((la[k]!).shown)]), fun (vT : Value) (wT : World) => RdL Enc.holding wT (Bl0 ++ O) vT (lb), isV (vI ((k : Nat) : Int)), fun (vT : Value) (wT : World) => ∃ aT, vT = .pointer (some aT) ∧ PT Enc.holding wT (Bl0 ++ O) (.pointer (some aT)) (lb[k]!), isV (Value.agg #[vI ((lb[k]!).copy), vI ((lb[k]!).device), vI ((lb[k]!).token), Value.bool ((lb[k]!).shown)])] (by kernel_rfl) (by kernel_rfl) (by kernel_rfl) (by kernel_rfl) rfl rfl ⟨fun _ _ _ h k => h.mv (Mv.of_keep k), kI, fun _ _ _ ⟨a, e, h⟩ k => ⟨a, e, h.mv (Mv.of_keep k)⟩, kI, fun _ _ _ h k => h.mv (Mv.of_keep k), kI, fun _ _ _ ⟨a, e, h⟩ k => ⟨a, e, h.mv (Mv.of_keep k)⟩, kI, trivial⟩ ⟨?_, ?_, ?_, ?_, ?_, ?_, ?_, ?_, trivial⟩ ?_
    ·intro F1 w1 k1 hf hd
     have k0 := (Keep.drew [] wl0).trans k1
     have m1 : Mv Bl0 wl0 Bl0 w1 := Mv.of_keep k0
     have h_la := h_la.mv m1
     obtain ⟨F2, rfl⟩ := lit_of (F := F1) [(0, la_v)] ⟨hf 0 (by kernel_rfl), trivial⟩
     exact sp_plain rfl ((o_move (la_v) rfl (⟨(Keep.refl _ _), h_la⟩)))
    ·intro F1 w1 k1 hf hd
     obtain ⟨F2, rfl⟩ := lit_of (F := F1) [(5, vI ((k : Nat) : Int))] ⟨hf 5 (by kernel_rfl), trivial⟩
     exact sp_plain rfl ((o_move (vI ((k : Nat) : Int)) rfl (⟨(Keep.refl _ _), rfl⟩)))
    ·intro F1 w1 k1 hf hd
     obtain ⟨v1554, e1556, hl1555⟩ : ∃ v, F1 17 = v ∧ RdL Enc.holding w1 (Bl0 ++ O) v (la) := ⟨_, rfl, hd 0 17 (by kernel_rfl)⟩
     have := hl1555.len_le
     obtain ⟨F2, rfl⟩ := lit_of (F := F1) [(17, v1554), (18, vI ((k : Nat) : Int))] ⟨e1556, hd 1 18 (by kernel_rfl), trivial⟩
     exact sp_plain rfl ((o_idx Try.underlying43 s_47 .i64 ((k : Nat) : Int) k rfl rfl rfl hl1555 (by omega) fun a1557 hp1558 => (⟨(Keep.refl _ _), ⟨a1557, rfl, hp1558⟩⟩)))
    ·intro F1 w1 k1 hf hd
     obtain ⟨a1559, e1561, hp1560⟩ : ∃ aX_, F1 19 = .pointer (some aX_) ∧ PT Enc.holding w1 (Bl0 ++ O) (.pointer (some aX_)) (la[k]!) := hd 2 19 (by kernel_rfl)
     obtain ⟨F2, rfl⟩ := lit_of (F := F1) [(19, Value.pointer (some a1559))] ⟨e1561, trivial⟩
     refine sp_plain rfl ((o_loadS Try.underlying47 rfl s_47 rfl hp1560 fun cs1562 hs1563 => (?_)))
     obtain rfl := hs1563
     exact ⟨(Keep.refl _ _), rfl⟩
    ·intro F1 w1 k1 hf hd
     have k0 := (Keep.drew [] wl0).trans k1
     have m1 : Mv Bl0 wl0 Bl0 w1 := Mv.of_keep k0
     have h_lb := h_lb.mv m1
     obtain ⟨F2, rfl⟩ := lit_of (F := F1) [(1, lb_v)] ⟨hf 1 (by kernel_rfl), trivial⟩
     exact sp_plain rfl ((o_move (lb_v) rfl (⟨(Keep.refl _ _), h_lb⟩)))
    ·intro F1 w1 k1 hf hd
     obtain ⟨F2, rfl⟩ := lit_of (F := F1) [(5, vI ((k : Nat) : Int))] ⟨hf 5 (by kernel_rfl), trivial⟩
     exact sp_plain rfl ((o_move (vI ((k : Nat) : Int)) rfl (⟨(Keep.refl _ _), rfl⟩)))
    ·intro F1 w1 k1 hf hd
     obtain ⟨v1564, e1566, hl1565⟩ : ∃ v, F1 21 = v ∧ RdL Enc.holding w1 (Bl0 ++ O) v (lb) := ⟨_, rfl, hd 4 21 (by kernel_rfl)⟩
     have := hl1565.len_le
     obtain ⟨F2, rfl⟩ := lit_of (F := F1) [(21, v1564), (22, vI ((k : Nat) : Int))] ⟨e1566, hd 5 22 (by kernel_rfl), trivial⟩
     exact sp_plain rfl ((o_idx Try.underlying43 s_47 .i64 ((k : Nat) : Int) k rfl rfl rfl hl1565 (by omega) fun a1567 hp1568 => (⟨(Keep.refl _ _), ⟨a1567, rfl, hp1568⟩⟩)))
    ·intro F1 w1 k1 hf hd
     obtain ⟨a1569, e1571, hp1570⟩ : ∃ aX_, F1 23 = .pointer (some aX_) ∧ PT Enc.holding w1 (Bl0 ++ O) (.pointer (some aX_)) (lb[k]!) := hd 6 23 (by kernel_rfl)
     obtain ⟨F2, rfl⟩ := lit_of (F := F1) [(23, Value.pointer (some a1569))] ⟨e1571, trivial⟩
     refine sp_plain rfl ((o_loadS Try.underlying47 rfl s_47 rfl hp1570 fun cs1572 hs1573 => (?_)))
     obtain rfl := hs1573
     exact ⟨(Keep.refl _ _), rfl⟩
    intro F1575 w1576 k1574 hT1577 hF1578
    have s1579 := sl0.call k1574
    have m1580 : Mv Bl0 wl0 Bl0 w1576 := Mv.of_keep k1574
    have h_la := h_la.mv m1580
    have h_lb := h_lb.mv m1580
    obtain ⟨F2, rfl⟩ := lit_of (F := F1575) [(0, la_v), (1, lb_v), (5, vI ((k : Nat) : Int)), (26, undef), (20, Value.agg #[vI ((la[k]!).copy), vI ((la[k]!).device), vI ((la[k]!).token), Value.bool ((la[k]!).shown)]), (24, Value.agg #[vI ((lb[k]!).copy), vI ((lb[k]!).device), vI ((lb[k]!).token), Value.bool ((lb[k]!).shown)])] ⟨hF1578 0 (by kernel_rfl), hF1578 1 (by kernel_rfl), hF1578 5 (by kernel_rfl), hF1578 26 (by kernel_rfl), hT1577 3 20 (by kernel_rfl) (by decide), hT1577 7 24 (by kernel_rfl) (by decide), trivial⟩
    clear hT1577 hF1578
    refine wl_s (o_neqF (ks := [true, true, true, false]) [.inl ((la[k]!).copy), .inl ((la[k]!).device), .inl ((la[k]!).token), .inr ((la[k]!).shown)] [.inl ((lb[k]!).copy), .inl ((lb[k]!).device), .inl ((lb[k]!).token), .inr ((lb[k]!).shown)] str_holding flat_holding rfl rfl rfl rfl (congrArg not (cs_holding (la[k]!) (lb[k]!))) (wl_nil (thenQ_n (?_))))
    refine cw_cond (!((la[k]!) == (lb[k]!))) rfl rfl (fun hc1583 => ?_) (fun hc1583 => ?_)
    ·have hp1584 : (la[k]!) ≠ (lb[k]!) := by first | simpa using hc1583 | (have e := hc1583; rw [Bool.not_eq_true'] at e; exact e) | (have e := hc1583; rw [Bool.not_eq_false'] at e; exact e) | (have e := hc1583; simp at e; omega)
     refine cw_seq (?_)
     refine cw_region (by kernel_rfl) (wl_s (o_assign (Value.bool false) rfl (wl_nil (thenQ_n (?_)))))
     refine cw_ret (blockQ_r (thenQ_r (thenQ_r (blockQ_r (thenQ_r (end_r rfl (res1 rfl rfl rfl) (?_)))))))
     have e : (la == lb) = false := by first | exact same_len (by assumption) | exact same_at (k := k) (by assumption) | exact same_end (by assumption) hr0_1
     exact ⟨_, rfl, s1579.keep, (by first | exact congrArg Value.bool e.symm | rfl)⟩
    ·have hp1585 : (la[k]!) = (lb[k]!) := by first | simpa using hc1583 | (have e := hc1583; rw [Bool.not_eq_true'] at e; exact e) | (have e := hc1583; rw [Bool.not_eq_false'] at e; exact e) | (have e := hc1583; simp at e; omega)
     refine cw_skip (blockQ_n (thenQ_n (?_)))
     refine cw_region (by kernel_rfl) (wl_s (o_move (vI ((k : Nat) : Int)) rfl (wl_s (o_add .i64 ((k : Nat) : Int) (1 : Int) (((k + 1 : Nat) : Int)) rfl rfl (w64 (by omega) (by omega)) (wl_s (o_assign (vI ((k + 1 : Nat) : Int)) rfl (wl_nil (thenQ_n (?_)))))))))
     exact ⟨_, (by omega), (k + 1), Bl0, (by omega), (eq_step hr0_1 (by assumption)), rfl, ⟨_, upds_self _ ⟨rfl, rfl, (by first | rfl | exact congrArg (Value.int _) (by first | omega | (simp))), rfl, trivial⟩⟩, s1579, h_la, h_lb⟩
   ·have hp1586 : (la.length : Int) ≤ ((k : Nat) : Int) := by first | simpa using hc1552 | (have e := hc1552; simp at e; omega)
    obtain rfl : k = la.length := by omega
    refine cw_exit (thenQ_x (thenQ_x (blockQ_x (thenQ_n (?_)))))
    refine cw_seq (?_)
    refine cw_region (by kernel_rfl) (wl_s (o_assign (Value.bool true) rfl (wl_nil (thenQ_n (?_)))))
    refine cw_ret (end_r rfl (res1 rfl rfl rfl) (?_))
    have e : (la == lb) = true := by first | exact same_len (by assumption) | exact same_at (k := k) (by assumption) | exact same_end (by assumption) hr0_1
    exact ⟨_, rfl, sl0.keep, (by first | exact congrArg Value.bool e.symm | rfl)⟩
set_option maxHeartbeats 4000000 in
set_option maxRecDepth 100000 in
theorem c_few {O : List Nat} (l_v : Value) (l : List DeviceOp) (w : World) (h_l : RdL Enc.devop w O l_v l) (hO : ∀ b ∈ O, b < w.heap.size) : CallsK Try.prog 26 [l_v] w (fun v _ => v = .bool (decide ((l.length : Int) ≤ 40))) :=  by
 have lim_l := h_l.len_le
 have h_l : RdL Enc.devop w ([] ++ O) l_v l := h_l
 have s0 : St w O w [] := St.start hO
 refine callsK_of 6 Try.func26 rfl rfl (of_decide_eq_true rfl) (fun F0 => ?_)
 refine cw_seq (?_)
 refine cw_region (by kernel_rfl) (wl_s (o_assign (Value.bool false) rfl (wl_nil (thenQ_n (?_)))))
 refine cw_seq (?_)
 refine cw_region (by kernel_rfl) (wl_s (o_move (l_v) rfl (wl_s (o_lenR Try.underlying26 rfl h_l (wl_s (o_leq .i64 (l.length : Int) (40 : Int) rfl rfl (wl_s (o_assign (Value.bool (decide ((l.length : Int) ≤ (40 : Int)))) rfl (wl_nil (thenQ_n (?_)))))))))))
 refine cw_ret (end_r rfl (res1 rfl rfl rfl) (?_))
 have e : (decide ((l.length : Int) ≤ 40)) = (decide ((l.length : Int) ≤ (40 : Int))) := rfl
 exact ⟨_, rfl, s0.keep, (by first | exact congrArg Value.bool e.symm | rfl)⟩

end Go.Proofs.Ytjpniibleelgiaa
