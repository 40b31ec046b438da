/- Walks, printed by gen.py. -/
import Derived.Test.YtjpniibleelgiaaTy
import Derived.Test.YtjpniibleelgiaaFwZ
import Derived.Test.YtjpniibleelgiaaMdC
set_option linter.unusedSimpArgs false
set_option linter.unusedVariables false
namespace Go.Proofs.Ytjpniibleelgiaa
open Go.Fw Go.RowKit

set_option maxHeartbeats 4000000 in
set_option maxRecDepth 100000 in
theorem c_in {O : List Nat} (n : Int) (least : Int) (most : Int) (w : World) (hO : ∀ b ∈ O, b < w.heap.size) : CallsK Try.prog 74 [vI n, vI least, vI most] w (fun v _ => v = .bool (inD n least most)) :=  by
 have s0 : St w O w [] := St.start hO
 refine callsK_of 15 Try.func74 rfl rfl (of_decide_eq_true rfl) (fun F0 => ?_)
 refine cw_seq (?_)
 refine cw_region (by kernel_rfl) (wl_s (o_assign (Value.bool false) rfl (wl_nil (thenQ_n (?_)))))
 refine cw_seq (?_)
 refine cw_region (by kernel_rfl) (wl_s (o_move (vI n) rfl (wl_s (o_move (vI least) rfl (wl_s (o_geq .i64 n least rfl rfl (wl_s (o_move (Value.bool (decide (least ≤ n))) rfl (?_)))))))))
 cases hb1587 : (decide (least ≤ n))
 ·have hp1588 : n < least := by first | simpa using hb1587 | (have e := hb1587; simp at e; omega)
  refine wl_k rfl (wl_k rfl (wl_k rfl (wl_s (o_pickF (Value.bool false) rfl rfl (wl_s (o_assign (Value.bool false) rfl (wl_nil (thenQ_n (?_)))))))))
  refine cw_ret (end_r rfl (res1 rfl rfl rfl) (?_))
  have e : (inD n least most) = false := by simp [inD, *]
  exact ⟨_, rfl, s0.keep, (by first | exact congrArg Value.bool e.symm | rfl)⟩
 ·have hp1589 : least ≤ n := by first | simpa using hb1587 | (have e := hb1587; simp at e; omega)
  refine wl_t rfl (o_move (vI n) rfl (wl_t rfl (o_move (vI most) rfl (wl_t rfl (o_leq .i64 n most rfl rfl (wl_s (o_pickT (Value.bool (decide (n ≤ most))) rfl rfl (wl_s (o_assign (Value.bool (decide (n ≤ most))) rfl (wl_nil (thenQ_n (?_))))))))))))
  refine cw_ret (end_r rfl (res1 rfl rfl rfl) (?_))
  have e : (inD n least most) = (decide (n ≤ most)) := by simp [inD, *]
  exact ⟨_, rfl, s0.keep, (by first | exact congrArg Value.bool e.symm | rfl)⟩
set_option maxHeartbeats 4000000 in
set_option maxRecDepth 100000 in
theorem c_refDev {O : List Nat} (n : Int) (w : World) (hO : ∀ b ∈ O, b < w.heap.size) : CallsK Try.prog 75 [vI n] w (fun v _ => v = .bool (isDevM n)) :=  by
 have s0 : St w O w [] := St.start hO
 refine callsK_of 5 Try.func75 rfl rfl (of_decide_eq_true rfl) (fun F0 => ?_)
 refine cw_seq (?_)
 refine cw_region (by kernel_rfl) (wl_s (o_assign (Value.bool false) rfl (wl_nil (thenQ_n (?_)))))
 refine cw_seq (?_)
 refine cw_region (by kernel_rfl) (wl_s (o_move (vI n) rfl (wl_s (o_callK (vs := [vI n, vI (0 : Int), vI (3 : Int)]) enter_74 (c_in (O := [] ++ O) n (0 : Int) (3 : Int) w s0.lt) rfl s0 fun v1590 w1591 s1592 m1593 k1594 r1595 => (?_)))))
 obtain rfl := r1595
 refine wl_s (o_assign (Value.bool (inD n (0 : Int) (3 : Int))) rfl (wl_nil (thenQ_n (?_))))
 refine cw_ret (end_r rfl (res1 rfl rfl rfl) (?_))
 have e : (isDevM n) = (inD n (0 : Int) (3 : Int)) := by exact dev_in n
 exact ⟨_, rfl, s1592.keep, (by first | exact congrArg Value.bool e.symm | rfl)⟩
set_option maxHeartbeats 4000000 in
set_option maxRecDepth 100000 in
theorem c_refValid {O : List Nat} (o_cs : List Value) (o : DeviceOp) (w : World) (h_o : Enc.devop.rd w O o_cs o) (hO : ∀ b ∈ O, b < w.heap.size) : CallsK Try.prog 67 [.agg o_cs.toArray] w (fun v _ => v = .bool (validM o)) :=  by
 obtain rfl := h_o
 have s0 : St w O w [] := St.start hO
 refine callsK_of 43 Try.func67 rfl rfl (of_decide_eq_true rfl) (fun F0 => ?_)
 refine cw_seq (?_)
 refine cw_region (by kernel_rfl) (wl_s (o_boxR (E := Enc.devop) (Value.agg #[vI o.device, vI o.no, vI o.kind, vI o.copy, vI o.to, vI o.token]) ([vI o.device, vI o.no, vI o.kind, vI o.copy, vI o.to, vI o.token]) o rfl rfl rfl s0 fun a1596 w1597 s1598 m1599 k1600 hp1601 => (?_)))
 refine wl_s (o_assign (Value.bool false) rfl (wl_nil (thenQ_n (?_))))
 refine cw_seq (?_)
 refine cw_seq (?_)
 refine cw_region (by kernel_rfl) (wl_s (o_fieldR 0 f_40_0 (o.device) rfl hp1601 (fun _ _ _ h => Enc_devop_f0 h) fun a1602 hp1603 => (wl_s (o_loadI Try.underlying3 rfl rfl hp1603 (wl_s (o_callK (vs := [vI o.device]) enter_75 (c_refDev (O := [] ++ O) o.device w1597 s1598.lt) rfl s1598 fun v1604 w1605 s1606 m1607 k1608 r1609 => (?_)))))))
 obtain rfl := r1609
 have hp1601 := hp1601.mv m1607
 refine wl_s (o_not (isDevM o.device) rfl (wl_s (o_move (Value.bool (!(isDevM o.device))) rfl (?_))))
 cases hb1610 : (!(isDevM o.device))
 ·have hp1611 : (isDevM o.device) = true := by first | simpa using hb1610 | (have e := hb1610; rw [Bool.not_eq_true'] at e; exact e) | (have e := hb1610; rw [Bool.not_eq_false'] at e; exact e) | (have e := hb1610; simp at e; omega)
  refine wl_t rfl (o_fieldR 1 f_40_1 (o.no) rfl hp1601 (fun _ _ _ h => Enc_devop_f1 h) fun a1612 hp1613 => (wl_t rfl (o_loadI Try.underlying3 rfl rfl hp1613 (wl_t rfl (o_callK (vs := [vI o.no, vI (1 : Int), vI (65536 : Int)]) enter_74 (c_in (O := [] ++ O) o.no (1 : Int) (65536 : Int) w1605 s1606.lt) rfl s1606 fun v1614 w1615 s1616 m1617 k1618 r1619 => (?_))))))
  obtain rfl := r1619
  have hp1601 := hp1601.mv m1617
  refine wl_t rfl (o_not (inD o.no (1 : Int) (65536 : Int)) rfl (wl_s (o_pickF (Value.bool (!(inD o.no (1 : Int) (65536 : Int)))) rfl rfl (wl_s (o_move (Value.bool (!(inD o.no (1 : Int) (65536 : Int)))) rfl (?_))))))
  cases hb1620 : (!(inD o.no (1 : Int) (65536 : Int)))
  ·have hp1621 : (inD o.no (1 : Int) (65536 : Int)) = true := by first | simpa using hb1620 | (have e := hb1620; rw [Bool.not_eq_true'] at e; exact e) | (have e := hb1620; rw [Bool.not_eq_false'] at e; exact e) | (have e := hb1620; simp at e; omega)
   refine wl_t rfl (o_fieldR 3 f_40_3 (o.copy) rfl hp1601 (fun _ _ _ h => Enc_devop_f3 h) fun a1622 hp1623 => (wl_t rfl (o_loadI Try.underlying3 rfl rfl hp1623 (wl_t rfl (o_callK (vs := [vI o.copy, vI (0 : Int), vI (1023 : Int)]) enter_74 (c_in (O := [] ++ O) o.copy (0 : Int) (1023 : Int) w1615 s1616.lt) rfl s1616 fun v1624 w1625 s1626 m1627 k1628 r1629 => (?_))))))
   obtain rfl := r1629
   have hp1601 := hp1601.mv m1627
   refine wl_t rfl (o_not (inD o.copy (0 : Int) (1023 : Int)) rfl (wl_s (o_pickF (Value.bool (!(inD o.copy (0 : Int) (1023 : Int)))) rfl rfl (wl_s (o_move (Value.bool (!(inD o.copy (0 : Int) (1023 : Int)))) rfl (?_))))))
   cases hb1630 : (!(inD o.copy (0 : Int) (1023 : Int)))
   ·have hp1631 : (inD o.copy (0 : Int) (1023 : Int)) = true := by first | simpa using hb1630 | (have e := hb1630; rw [Bool.not_eq_true'] at e; exact e) | (have e := hb1630; rw [Bool.not_eq_false'] at e; exact e) | (have e := hb1630; simp at e; omega)
    refine wl_t rfl (o_fieldR 5 f_40_5 (o.token) rfl hp1601 (fun _ _ _ h => Enc_devop_f5 h) fun a1632 hp1633 => (wl_t rfl (o_loadI Try.underlying3 rfl rfl hp1633 (wl_t rfl (o_callK (vs := [vI o.token, vI (1 : Int), vI (65536 : Int)]) enter_74 (c_in (O := [] ++ O) o.token (1 : Int) (65536 : Int) w1625 s1626.lt) rfl s1626 fun v1634 w1635 s1636 m1637 k1638 r1639 => (?_))))))
    obtain rfl := r1639
    have hp1601 := hp1601.mv m1637
    refine wl_t rfl (o_not (inD o.token (1 : Int) (65536 : Int)) rfl (wl_s (o_pickF (Value.bool (!(inD o.token (1 : Int) (65536 : Int)))) rfl rfl (wl_nil (thenQ_n (?_))))))
    refine cw_cond (!(inD o.token (1 : Int) (65536 : Int))) rfl rfl (fun hc1640 => ?_) (fun hc1640 => ?_)
    ·have hp1641 : (inD o.token (1 : Int) (65536 : Int)) = false := by first | simpa using hc1640 | (have e := hc1640; rw [Bool.not_eq_true'] at e; exact e) | (have e := hc1640; rw [Bool.not_eq_false'] at e; exact e) | (have e := hc1640; simp at e; omega)
     refine cw_seq (?_)
     refine cw_region (by kernel_rfl) (wl_s (o_assign (Value.bool false) rfl (wl_nil (thenQ_n (?_)))))
     refine cw_ret (thenQ_r (end_r rfl (res1 rfl rfl rfl) (?_)))
     have e : (validM o) = false := by first | (exfalso; omega) | (rw [valid_in]; simp [*])
     exact ⟨_, rfl, s1636.keep, (by first | exact congrArg Value.bool e.symm | rfl)⟩
    ·have hp1642 : (inD o.token (1 : Int) (65536 : Int)) = true := by first | simpa using hc1640 | (have e := hc1640; rw [Bool.not_eq_true'] at e; exact e) | (have e := hc1640; rw [Bool.not_eq_false'] at e; exact e) | (have e := hc1640; simp at e; omega)
     refine cw_skip (thenQ_n (?_))
     refine cw_seq (?_)
     refine cw_region (by kernel_rfl) (wl_s (o_fieldR 2 f_40_2 (o.kind) rfl hp1601 (fun _ _ _ h => Enc_devop_f2 h) fun a1643 hp1644 => (wl_s (o_loadI Try.underlying3 rfl rfl hp1644 (wl_s (o_eql .i64 o.kind (1 : Int) rfl rfl (wl_s (o_move (Value.bool (o.kind == (1 : Int))) rfl (?_)))))))))
     cases hb1645 : (o.kind == (1 : Int))
     ·have hp1646 : o.kind ≠ (1 : Int) := by first | simpa using hb1645 | (have e := hb1645; simp at e; omega)
      refine wl_k rfl (wl_k rfl (wl_k rfl (wl_s (o_pickF (Value.bool false) rfl rfl (wl_s (o_move (Value.bool false) rfl (wl_t rfl (o_fieldR 2 f_40_2 (o.kind) rfl hp1601 (fun _ _ _ h => Enc_devop_f2 h) fun a1647 hp1648 => (wl_t rfl (o_loadI Try.underlying3 rfl rfl hp1648 (wl_t rfl (o_eql .i64 o.kind (2 : Int) rfl rfl (wl_t rfl (o_move (Value.bool (o.kind == (2 : Int))) rfl (?_)))))))))))))))
      cases hb1649 : (o.kind == (2 : Int))
      ·have hp1650 : o.kind ≠ (2 : Int) := by first | simpa using hb1649 | (have e := hb1649; simp at e; omega)
       refine wl_k rfl (wl_k rfl (wl_k rfl (wl_t rfl (o_pickF (Value.bool false) rfl rfl (wl_s (o_pickF (Value.bool false) rfl rfl (wl_s (o_assign (Value.bool false) rfl (wl_nil (thenQ_n (?_)))))))))))
       refine cw_ret (end_r rfl (res1 rfl rfl rfl) (?_))
       have e : (validM o) = false := by first | (exfalso; omega) | (rw [valid_in]; simp [*])
       exact ⟨_, rfl, s1636.keep, (by first | exact congrArg Value.bool e.symm | rfl)⟩
      ·have hp1651 : o.kind = (2 : Int) := by first | simpa using hb1649 | (have e := hb1649; simp at e; omega)
       refine wl_t rfl (o_fieldR 4 f_40_4 (o.to) rfl hp1601 (fun _ _ _ h => Enc_devop_f4 h) fun a1652 hp1653 => (wl_t rfl (o_loadI Try.underlying3 rfl rfl hp1653 (wl_t rfl (o_eql .i64 o.to (0 : Int) rfl rfl (wl_t rfl (o_pickT (Value.bool (o.to == (0 : Int))) rfl rfl (wl_s (o_pickF (Value.bool (o.to == (0 : Int))) rfl rfl (wl_s (o_assign (Value.bool (o.to == (0 : Int))) rfl (wl_nil (thenQ_n (?_))))))))))))))
       refine cw_ret (end_r rfl (res1 rfl rfl rfl) (?_))
       have e : (validM o) = (o.to == (0 : Int)) := by first | (exfalso; omega) | (rw [valid_in]; simp [*])
       exact ⟨_, rfl, s1636.keep, (by first | exact congrArg Value.bool e.symm | rfl)⟩
     ·have hp1654 : o.kind = (1 : Int) := by first | simpa using hb1645 | (have e := hb1645; simp at e; omega)
      refine wl_t rfl (o_fieldR 4 f_40_4 (o.to) rfl hp1601 (fun _ _ _ h => Enc_devop_f4 h) fun a1655 hp1656 => (wl_t rfl (o_loadI Try.underlying3 rfl rfl hp1656 (wl_t rfl (o_callK (vs := [vI o.to]) enter_75 (c_refDev (O := [] ++ O) o.to w1635 s1636.lt) rfl s1636 fun v1657 w1658 s1659 m1660 k1661 r1662 => (?_))))))
      obtain rfl := r1662
      have hp1601 := hp1601.mv m1660
      refine wl_s (o_pickT (Value.bool (isDevM o.to)) rfl rfl (wl_s (o_move (Value.bool (isDevM o.to)) rfl (?_))))
      cases hb1663 : (isDevM o.to)
      ·have hp1664 : (isDevM o.to) = false := by first | simpa using hb1663 | (have e := hb1663; simp at e; omega)
       refine wl_t rfl (o_fieldR 2 f_40_2 (o.kind) rfl hp1601 (fun _ _ _ h => Enc_devop_f2 h) fun a1665 hp1666 => (wl_t rfl (o_loadI Try.underlying3 rfl rfl hp1666 (wl_t rfl (o_eql .i64 o.kind (2 : Int) rfl rfl (wl_t rfl (o_move (Value.bool (o.kind == (2 : Int))) rfl (?_))))))))
       cases hb1667 : (o.kind == (2 : Int))
       ·have hp1668 : o.kind ≠ (2 : Int) := by first | simpa using hb1667 | (have e := hb1667; simp at e; omega)
        refine wl_k rfl (wl_k rfl (wl_k rfl (wl_t rfl (o_pickF (Value.bool false) rfl rfl (wl_s (o_pickF (Value.bool false) rfl rfl (wl_s (o_assign (Value.bool false) rfl (wl_nil (thenQ_n (?_)))))))))))
        refine cw_ret (end_r rfl (res1 rfl rfl rfl) (?_))
        have e : (validM o) = false := by first | (exfalso; omega) | (rw [valid_in]; simp [*])
        exact ⟨_, rfl, s1659.keep, (by first | exact congrArg Value.bool e.symm | rfl)⟩
       ·have hp1669 : o.kind = (2 : Int) := by first | simpa using hb1667 | (have e := hb1667; simp at e; omega)
        refine wl_t rfl (o_fieldR 4 f_40_4 (o.to) rfl hp1601 (fun _ _ _ h => Enc_devop_f4 h) fun a1670 hp1671 => (wl_t rfl (o_loadI Try.underlying3 rfl rfl hp1671 (wl_t rfl (o_eql .i64 o.to (0 : Int) rfl rfl (wl_t rfl (o_pickT (Value.bool (o.to == (0 : Int))) rfl rfl (wl_s (o_pickF (Value.bool (o.to == (0 : Int))) rfl rfl (wl_s (o_assign (Value.bool (o.to == (0 : Int))) rfl (wl_nil (thenQ_n (?_))))))))))))))
        refine cw_ret (end_r rfl (res1 rfl rfl rfl) (?_))
        have e : (validM o) = (o.to == (0 : Int)) := by first | (exfalso; omega) | (rw [valid_in]; simp [*])
        exact ⟨_, rfl, s1659.keep, (by first | exact congrArg Value.bool e.symm | rfl)⟩
      ·have hp1672 : (isDevM o.to) = true := by first | simpa using hb1663 | (have e := hb1663; simp at e; omega)
       refine wl_k rfl (wl_k rfl (wl_k rfl (wl_k rfl (wl_u rfl (wl_u rfl (wl_u rfl (wl_k rfl (wl_s (o_pickT (Value.bool true) rfl rfl (wl_s (o_assign (Value.bool true) rfl (wl_nil (thenQ_n (?_))))))))))))))
       refine cw_ret (end_r rfl (res1 rfl rfl rfl) (?_))
       have e : (validM o) = true := by first | (exfalso; omega) | (rw [valid_in]; simp [*])
       exact ⟨_, rfl, s1659.keep, (by first | exact congrArg Value.bool e.symm | rfl)⟩
   ·have hp1673 : (inD o.copy (0 : Int) (1023 : Int)) = false := by first | simpa using hb1630 | (have e := hb1630; rw [Bool.not_eq_true'] at e; exact e) | (have e := hb1630; rw [Bool.not_eq_false'] at e; exact e) | (have e := hb1630; simp at e; omega)
    refine wl_k rfl (wl_k rfl (wl_k rfl (wl_k rfl (wl_s (o_pickT (Value.bool true) rfl rfl (wl_nil (thenQ_n (?_))))))))
    refine cw_cond true rfl rfl (fun _ => ?_) (fun h => by cases h)
    refine cw_seq (?_)
    refine cw_region (by kernel_rfl) (wl_s (o_assign (Value.bool false) rfl (wl_nil (thenQ_n (?_)))))
    refine cw_ret (thenQ_r (end_r rfl (res1 rfl rfl rfl) (?_)))
    have e : (validM o) = false := by first | (exfalso; omega) | (rw [valid_in]; simp [*])
    exact ⟨_, rfl, s1626.keep, (by first | exact congrArg Value.bool e.symm | rfl)⟩
  ·have hp1674 : (inD o.no (1 : Int) (65536 : Int)) = false := by first | simpa using hb1620 | (have e := hb1620; rw [Bool.not_eq_true'] at e; exact e) | (have e := hb1620; rw [Bool.not_eq_false'] at e; exact e) | (have e := hb1620; simp at e; omega)
   refine wl_k rfl (wl_k rfl (wl_k rfl (wl_k rfl (wl_s (o_pickT (Value.bool true) rfl rfl (wl_s (o_move (Value.bool true) rfl (wl_k rfl (wl_k rfl (wl_k rfl (wl_k rfl (wl_s (o_pickT (Value.bool true) rfl rfl (wl_nil (thenQ_n (?_))))))))))))))))
   refine cw_cond true rfl rfl (fun _ => ?_) (fun h => by cases h)
   refine cw_seq (?_)
   refine cw_region (by kernel_rfl) (wl_s (o_assign (Value.bool false) rfl (wl_nil (thenQ_n (?_)))))
   refine cw_ret (thenQ_r (end_r rfl (res1 rfl rfl rfl) (?_)))
   have e : (validM o) = false := by first | (exfalso; omega) | (rw [valid_in]; simp [*])
   exact ⟨_, rfl, s1616.keep, (by first | exact congrArg Value.bool e.symm | rfl)⟩
 ·have hp1675 : (isDevM o.device) = false := by first | simpa using hb1610 | (have e := hb1610; rw [Bool.not_eq_true'] at e; exact e) | (have e := hb1610; rw [Bool.not_eq_false'] at e; exact e) | (have e := hb1610; simp at e; omega)
  refine wl_k rfl (wl_k rfl (wl_k rfl (wl_k rfl (wl_s (o_pickT (Value.bool true) rfl rfl (wl_s (o_move (Value.bool true) rfl (wl_k rfl (wl_k rfl (wl_k rfl (wl_k rfl (wl_s (o_pickT (Value.bool true) rfl rfl (wl_s (o_move (Value.bool true) rfl (wl_k rfl (wl_k rfl (wl_k rfl (wl_k rfl (wl_s (o_pickT (Value.bool true) rfl rfl (wl_nil (thenQ_n (?_))))))))))))))))))))))))
  refine cw_cond true rfl rfl (fun _ => ?_) (fun h => by cases h)
  refine cw_seq (?_)
  refine cw_region (by kernel_rfl) (wl_s (o_assign (Value.bool false) rfl (wl_nil (thenQ_n (?_)))))
  refine cw_ret (thenQ_r (end_r rfl (res1 rfl rfl rfl) (?_)))
  have e : (validM o) = false := by first | (exfalso; omega) | (rw [valid_in]; simp [*])
  exact ⟨_, rfl, s1606.keep, (by first | exact congrArg Value.bool e.symm | rfl)⟩
set_option maxHeartbeats 4000000 in
set_option maxRecDepth 100000 in
theorem c_numbers {O : List Nat} (o_cs : List Value) (o : DeviceOp) (w : World) (h_o : Enc.devop.rd w O o_cs o) (hO : ∀ b ∈ O, b < w.heap.size) : CallsK Try.prog 99 [.agg o_cs.toArray] w (fun v w' => ∃ (x0 : Value), v = x0 ∧ RdL Enc.int w' (O) x0 (keysM o)) :=  by
 obtain rfl := h_o
 have s0 : St w O w [] := St.start hO
 refine callsK_of 16 Try.func99 rfl rfl (of_decide_eq_true rfl) (fun F0 => ?_)
 refine cw_seq (?_)
 refine cw_region (by kernel_rfl) (wl_s (o_boxR (E := Enc.devop) (Value.agg #[vI o.device, vI o.no, vI o.kind, vI o.copy, vI o.to, vI o.token]) ([vI o.device, vI o.no, vI o.kind, vI o.copy, vI o.to, vI o.token]) o rfl rfl rfl s0 fun a1676 w1677 s1678 m1679 k1680 hp1681 => (?_)))
 refine wl_s (o_assign (Value.slice none 0 0) rfl (wl_nil (thenQ_n (?_))))
 refine cw_seq (?_)
 refine cw_region (by kernel_rfl) (wl_s (o_fieldR 3 f_40_3 (o.copy) rfl hp1681 (fun _ _ _ h => Enc_devop_f3 h) fun a1682 hp1683 => (wl_s (o_loadI Try.underlying3 rfl rfl hp1683 (wl_s (o_fieldR 5 f_40_5 (o.token) rfl hp1681 (fun _ _ _ h => Enc_devop_f5 h) fun a1684 hp1685 => (wl_s (o_loadI Try.underlying3 rfl rfl hp1685 (wl_s (o_fieldR 0 f_40_0 (o.device) rfl hp1681 (fun _ _ _ h => Enc_devop_f0 h) fun a1686 hp1687 => (wl_s (o_loadI Try.underlying3 rfl rfl hp1687 (wl_s (o_fieldR 1 f_40_1 (o.no) rfl hp1681 (fun _ _ _ h => Enc_devop_f1 h) fun a1688 hp1689 => (wl_s (o_loadI Try.underlying3 rfl rfl hp1689 (wl_s (o_fieldR 2 f_40_2 (o.kind) rfl hp1681 (fun _ _ _ h => Enc_devop_f2 h) fun a1690 hp1691 => (wl_s (o_loadI Try.underlying3 rfl rfl hp1691 (wl_s (o_fieldR 4 f_40_4 (o.to) rfl hp1681 (fun _ _ _ h => Enc_devop_f4 h) fun a1692 hp1693 => (wl_s (o_loadI Try.underlying3 rfl rfl hp1693 (wl_s (o_lit (E := Enc.int) (xs := [.tmp 4, .tmp 6, .tmp 8, .tmp 10, .tmp 12, .tmp 14]) Try.underlying27 s_3 z_3 (by decide) [vI o.copy, vI o.token, vI o.device, vI o.no, vI o.kind, vI o.to] [[vI o.copy], [vI o.token], [vI o.device], [vI o.no], [vI o.kind], [vI o.to]] [o.copy, o.token, o.device, o.no, o.kind, o.to] rfl rfl rfl (Parts.cons rfl rfl (Parts.cons rfl rfl (Parts.cons rfl rfl (Parts.cons rfl rfl (Parts.cons rfl rfl (Parts.cons rfl rfl (Parts.nil _ _ _))))))) (of_decide_eq_true rfl) s1678 fun v1698 w1694 s1695 m1696 k1697 hl1699 => (?_)))))))))))))))))))))))))))
 have := hl1699.len_le
 refine wl_s (o_assign (v1698) rfl (wl_nil (thenQ_n (?_))))
 refine cw_ret (end_r rfl (res1 rfl rfl rfl) (?_))
 have e : (keysM o) = ([o.copy, o.token, o.device, o.no, o.kind, o.to]) := rfl
 exact ⟨_, rfl, s1695.keep, by rw [e]; first | done | exact ⟨v1698, rfl, hl1699.out⟩⟩
set_option maxHeartbeats 4000000 in
set_option maxRecDepth 100000 in
theorem c_before {O : List Nat} (x_cs : List Value) (x : DeviceOp) (y_cs : List Value) (y : DeviceOp) (w : World) (h_x : Enc.devop.rd w O x_cs x) (h_y : Enc.devop.rd w O y_cs y) (hO : ∀ b ∈ O, b < w.heap.size) : CallsK Try.prog 71 [.agg x_cs.toArray, .agg y_cs.toArray] w (fun v _ => v = .bool (beforeM x y)) :=  by
 obtain rfl := h_x
 obtain rfl := h_y
 have s0 : St w O w [] := St.start hO
 refine callsK_of 36 Try.func71 rfl rfl (of_decide_eq_true rfl) (fun F0 => ?_)
 refine cw_seq (?_)
 refine cw_region (by kernel_rfl) (wl_s (o_boxR (E := Enc.devop) (Value.agg #[vI x.device, vI x.no, vI x.kind, vI x.copy, vI x.to, vI x.token]) ([vI x.device, vI x.no, vI x.kind, vI x.copy, vI x.to, vI x.token]) x rfl rfl rfl s0 fun a1700 w1701 s1702 m1703 k1704 hp1705 => (?_)))
 refine wl_s (o_boxR (E := Enc.devop) (Value.agg #[vI y.device, vI y.no, vI y.kind, vI y.copy, vI y.to, vI y.token]) ([vI y.device, vI y.no, vI y.kind, vI y.copy, vI y.to, vI y.token]) y rfl rfl rfl s1702 fun a1706 w1707 s1708 m1709 k1710 hp1711 => (?_))
 have hp1705 := hp1705.mv m1709
 refine wl_s (o_assign (Value.bool false) rfl (wl_nil (thenQ_n (?_))))
 refine cw_seq (?_)
 refine cw_region (by kernel_rfl) (wl_s (o_loadS Try.underlying40 rfl s_40 rfl hp1705 fun cs1712 hs1713 => (?_)))
 obtain rfl := hs1713
 refine wl_s (o_callK (vs := [Value.agg #[vI x.device, vI x.no, vI x.kind, vI x.copy, vI x.to, vI x.token]]) enter_99 (c_numbers (O := [] ++ O) [vI x.device, vI x.no, vI x.kind, vI x.copy, vI x.to, vI x.token] x w1707 rfl s1708.lt) rfl s1708 fun v1714 w1715 s1716 m1717 k1718 r1719 => (?_))
 obtain ⟨_, rfl, hl1720⟩ := r1719
 have := hl1720.len_le
 have hp1711 := hp1711.mv m1717
 refine wl_s (o_assign (v1714) rfl (wl_nil (thenQ_n (?_))))
 refine cw_seq (?_)
 refine cw_region (by kernel_rfl) (wl_s (o_loadS Try.underlying40 rfl s_40 rfl hp1711 fun cs1721 hs1722 => (?_)))
 obtain rfl := hs1722
 refine wl_s (o_callK (vs := [Value.agg #[vI y.device, vI y.no, vI y.kind, vI y.copy, vI y.to, vI y.token]]) enter_99 (c_numbers (O := [] ++ O) [vI y.device, vI y.no, vI y.kind, vI y.copy, vI y.to, vI y.token] y w1715 rfl s1716.lt) rfl s1716 fun v1723 w1724 s1725 m1726 k1727 r1728 => (?_))
 obtain ⟨_, rfl, hl1729⟩ := r1728
 have := hl1729.len_le
 have hl1720 := hl1720.mv m1726
 refine wl_s (o_assign (v1723) rfl (wl_nil (thenQ_n (?_))))
 refine cw_seq (?_)
 refine cw_seq (?_)
 refine cw_region (by kernel_rfl) (wl_s (o_assign (vI (0 : Int)) rfl (wl_nil (thenQ_n (?_)))))
 refine cw_block (?_)
 have hka : (keysM x).length = 6 := rfl
 have hkb : (keysM y).length = 6 := rfl
 refine cw_loop (fun mI FI wI => ∃ (k : Nat) (B : List Nat), k ≤ (keysM x).length ∧ (∀ q, q < k → (keysM x)[q]! = (keysM y)[q]!) ∧ mI = (keysM x).length - k ∧ (∃ F1, FI = upds F1 [(5, v1714), (6, v1723), (7, vI ((k : Nat) : Int)), (36, undef)]) ∧ St w O wI B ∧ RdL Enc.int wI (B ++ O) (v1714) (keysM x) ∧ RdL Enc.int wI (B ++ O) (v1723) (keysM y)) ((keysM x).length - (0)) ?_ ?_
 ·exact ⟨(0), [], (by omega), (fun q hq => by omega), rfl, ⟨_, upds_self _ ⟨rfl, rfl, (by first | rfl | exact congrArg (Value.int _) (by first | omega | (simp))), rfl, trivial⟩⟩, s1725, hl1720, hl1729⟩
 ·intro ml0 F wl0 hI
  clear hl1720 hl1729
  obtain ⟨k, Bl0, hr0_0, hr0_1, hm0, ⟨Fl0, rfl⟩, sl0, hl1720, hl1729⟩ := hI
  refine cw_seq (?_)
  refine cw_seq (?_)
  refine cw_region (by kernel_rfl) (wl_s (o_move (vI ((k : Nat) : Int)) rfl (wl_s (o_move (v1714) rfl (wl_s (o_lenR Try.underlying27 rfl hl1720 (wl_s (o_lss .i64 ((k : Nat) : Int) ((keysM x).length : Int) rfl rfl (wl_nil (thenQ_n (?_)))))))))))
  refine cw_cond (decide (((k : Nat) : Int) < ((keysM x).length : Int))) rfl rfl (fun hc1730 => ?_) (fun hc1730 => ?_)
  ·have hp1731 : ((k : Nat) : Int) < ((keysM x).length : Int) := by first | simpa using hc1730 | (have e := hc1730; simp at e; omega)
   refine cw_skip (thenQ_n (?_))
   refine cw_seq (?_)
   refine cw_block (?_)
   refine cw_seq (?_)
   refine cw_draw' 8 _ _ [fun (vT : Value) (wT : World) => RdL Enc.int wT (Bl0 ++ O) vT (keysM x), isV (vI ((k : Nat) : Int)), fun (vT : Value) (wT : World) => ∃ aT, vT = .pointer (some aT) ∧ PT Enc.int wT (Bl0 ++ O) (.pointer (some aT)) ((keysM x)[k]!), isV (vI ((keysM x)[k]!)), fun (vT : Value) (wT : World) => RdL Enc.int wT (Bl0 ++ O) vT (keysM y), isV (vI ((k : Nat) : Int)), fun (vT : Value) (wT : World) => ∃ aT, vT = .pointer (some aT) ∧ PT Enc.int wT (Bl0 ++ O) (.pointer (some aT)) ((keysM y)[k]!), isV (vI ((keysM y)[k]!))] (by kernel_rfl) (by kernel_rfl) (by kernel_rfl) (by kernel_rfl) rfl rfl ⟨fun _ _ _ h k => h.mv (Mv.of_keep k), kI, fun _ _ _ ⟨a, e, h⟩ k => ⟨a, e, h.mv (Mv.of_keep k)⟩, kI, fun _ _ _ h k => h.mv (Mv.of_keep k), kI, fun _ _ _ ⟨a, e, h⟩ k => ⟨a, e, h.mv (Mv.of_keep k)⟩, kI, trivial⟩ ⟨?_, ?_, ?_, ?_, ?_, ?_, ?_, ?_, trivial⟩ ?_
   ·intro F1 w1 k1 hf hd
    have k0 := (Keep.drew [] wl0).trans k1
    have m1 : Mv Bl0 wl0 Bl0 w1 := Mv.of_keep k0
    have hl1720 := hl1720.mv m1
    obtain ⟨F2, rfl⟩ := lit_of (F := F1) [(5, v1714)] ⟨hf 5 (by kernel_rfl), trivial⟩
    exact sp_plain rfl ((o_move (v1714) rfl (⟨(Keep.refl _ _), hl1720⟩)))
   ·intro F1 w1 k1 hf hd
    obtain ⟨F2, rfl⟩ := lit_of (F := F1) [(7, vI ((k : Nat) : Int))] ⟨hf 7 (by kernel_rfl), trivial⟩
    exact sp_plain rfl ((o_move (vI ((k : Nat) : Int)) rfl (⟨(Keep.refl _ _), rfl⟩)))
   ·intro F1 w1 k1 hf hd
    obtain ⟨v1732, e1734, hl1733⟩ : ∃ v, F1 18 = v ∧ RdL Enc.int w1 (Bl0 ++ O) v (keysM x) := ⟨_, rfl, hd 0 18 (by kernel_rfl)⟩
    have := hl1733.len_le
    obtain ⟨F2, rfl⟩ := lit_of (F := F1) [(18, v1732), (19, vI ((k : Nat) : Int))] ⟨e1734, hd 1 19 (by kernel_rfl), trivial⟩
    exact sp_plain rfl ((o_idx Try.underlying27 s_3 .i64 ((k : Nat) : Int) k rfl rfl rfl hl1733 (by omega) fun a1735 hp1736 => (⟨(Keep.refl _ _), ⟨a1735, rfl, hp1736⟩⟩)))
   ·intro F1 w1 k1 hf hd
    obtain ⟨a1737, e1739, hp1738⟩ : ∃ aX_, F1 20 = .pointer (some aX_) ∧ PT Enc.int w1 (Bl0 ++ O) (.pointer (some aX_)) ((keysM x)[k]!) := hd 2 20 (by kernel_rfl)
    obtain ⟨F2, rfl⟩ := lit_of (F := F1) [(20, Value.pointer (some a1737))] ⟨e1739, trivial⟩
    exact sp_plain rfl ((o_loadI Try.underlying3 rfl rfl hp1738 (⟨(Keep.refl _ _), rfl⟩)))
   ·intro F1 w1 k1 hf hd
    have k0 := (Keep.drew [] wl0).trans k1
    have m1 : Mv Bl0 wl0 Bl0 w1 := Mv.of_keep k0
    have hl1729 := hl1729.mv m1
    obtain ⟨F2, rfl⟩ := lit_of (F := F1) [(6, v1723)] ⟨hf 6 (by kernel_rfl), trivial⟩
    exact sp_plain rfl ((o_move (v1723) rfl (⟨(Keep.refl _ _), hl1729⟩)))
   ·intro F1 w1 k1 hf hd
    obtain ⟨F2, rfl⟩ := lit_of (F := F1) [(7, vI ((k : Nat) : Int))] ⟨hf 7 (by kernel_rfl), trivial⟩
    exact sp_plain rfl ((o_move (vI ((k : Nat) : Int)) rfl (⟨(Keep.refl _ _), rfl⟩)))
   ·intro F1 w1 k1 hf hd
    obtain ⟨v1740, e1742, hl1741⟩ : ∃ v, F1 22 = v ∧ RdL Enc.int w1 (Bl0 ++ O) v (keysM y) := ⟨_, rfl, hd 4 22 (by kernel_rfl)⟩
    have := hl1741.len_le
    obtain ⟨F2, rfl⟩ := lit_of (F := F1) [(22, v1740), (23, vI ((k : Nat) : Int))] ⟨e1742, hd 5 23 (by kernel_rfl), trivial⟩
    exact sp_plain rfl ((o_idx Try.underlying27 s_3 .i64 ((k : Nat) : Int) k rfl rfl rfl hl1741 (by omega) fun a1743 hp1744 => (⟨(Keep.refl _ _), ⟨a1743, rfl, hp1744⟩⟩)))
   ·intro F1 w1 k1 hf hd
    obtain ⟨a1745, e1747, hp1746⟩ : ∃ aX_, F1 24 = .pointer (some aX_) ∧ PT Enc.int w1 (Bl0 ++ O) (.pointer (some aX_)) ((keysM y)[k]!) := hd 6 24 (by kernel_rfl)
    obtain ⟨F2, rfl⟩ := lit_of (F := F1) [(24, Value.pointer (some a1745))] ⟨e1747, trivial⟩
    exact sp_plain rfl ((o_loadI Try.underlying3 rfl rfl hp1746 (⟨(Keep.refl _ _), rfl⟩)))
   intro F1749 w1750 k1748 hT1751 hF1752
   have s1753 := sl0.call k1748
   have m1754 : Mv Bl0 wl0 Bl0 w1750 := Mv.of_keep k1748
   have hl1720 := hl1720.mv m1754
   have hl1729 := hl1729.mv m1754
   obtain ⟨F2, rfl⟩ := lit_of (F := F1749) [(5, v1714), (6, v1723), (7, vI ((k : Nat) : Int)), (36, undef), (21, vI ((keysM x)[k]!)), (25, vI ((keysM y)[k]!))] ⟨hF1752 5 (by kernel_rfl), hF1752 6 (by kernel_rfl), hF1752 7 (by kernel_rfl), hF1752 36 (by kernel_rfl), hT1751 3 21 (by kernel_rfl) (by decide), hT1751 7 25 (by kernel_rfl) (by decide), trivial⟩
   clear hT1751 hF1752
   refine wl_s (o_neq .i64 ((keysM x)[k]!) ((keysM y)[k]!) rfl rfl (wl_nil (thenQ_n (?_))))
   refine cw_cond (((keysM x)[k]!) != ((keysM y)[k]!)) rfl rfl (fun hc1757 => ?_) (fun hc1757 => ?_)
   ·have hp1758 : (keysM x)[k]! ≠ (keysM y)[k]! := by first | simpa using hc1757 | (have e := hc1757; simp at e; omega)
    refine cw_seq (?_)
    refine cw_draw' 8 _ _ [fun (vT : Value) (wT : World) => RdL Enc.int wT (Bl0 ++ O) vT (keysM x), isV (vI ((k : Nat) : Int)), fun (vT : Value) (wT : World) => ∃ aT, vT = .pointer (some aT) ∧ PT Enc.int wT (Bl0 ++ O) (.pointer (some aT)) ((keysM x)[k]!), isV (vI ((keysM x)[k]!)), fun (vT : Value) (wT : World) => RdL Enc.int wT (Bl0 ++ O) vT (keysM y), isV (vI ((k : Nat) : Int)), fun (vT : Value) (wT : World) => ∃ aT, vT = .pointer (some aT) ∧ PT Enc.int wT (Bl0 ++ O) (.pointer (some aT)) ((keysM y)[k]!), isV (vI ((keysM y)[k]!))] (by kernel_rfl) (by kernel_rfl) (by kernel_rfl) (by kernel_rfl) rfl rfl ⟨fun _ _ _ h k => h.mv (Mv.of_keep k), kI, fun _ _ _ ⟨a, e, h⟩ k => ⟨a, e, h.mv (Mv.of_keep k)⟩, kI, fun _ _ _ h k => h.mv (Mv.of_keep k), kI, fun _ _ _ ⟨a, e, h⟩ k => ⟨a, e, h.mv (Mv.of_keep k)⟩, kI, trivial⟩ ⟨?_, ?_, ?_, ?_, ?_, ?_, ?_, ?_, trivial⟩ ?_
    ·intro F1 w1 k1 hf hd
     have k0 := (Keep.drew [] w1750).trans k1
     have m1 : Mv Bl0 w1750 Bl0 w1 := Mv.of_keep k0
     have hl1720 := hl1720.mv m1
     obtain ⟨F2, rfl⟩ := lit_of (F := F1) [(5, v1714)] ⟨hf 5 (by kernel_rfl), trivial⟩
     exact sp_plain rfl ((o_move (v1714) rfl (⟨(Keep.refl _ _), hl1720⟩)))
    ·intro F1 w1 k1 hf hd
     obtain ⟨F2, rfl⟩ := lit_of (F := F1) [(7, vI ((k : Nat) : Int))] ⟨hf 7 (by kernel_rfl), trivial⟩
     exact sp_plain rfl ((o_move (vI ((k : Nat) : Int)) rfl (⟨(Keep.refl _ _), rfl⟩)))
    ·intro F1 w1 k1 hf hd
     obtain ⟨v1759, e1761, hl1760⟩ : ∃ v, F1 27 = v ∧ RdL Enc.int w1 (Bl0 ++ O) v (keysM x) := ⟨_, rfl, hd 0 27 (by kernel_rfl)⟩
     have := hl1760.len_le
     obtain ⟨F2, rfl⟩ := lit_of (F := F1) [(27, v1759), (28, vI ((k : Nat) : Int))] ⟨e1761, hd 1 28 (by kernel_rfl), trivial⟩
     exact sp_plain rfl ((o_idx Try.underlying27 s_3 .i64 ((k : Nat) : Int) k rfl rfl rfl hl1760 (by omega) fun a1762 hp1763 => (⟨(Keep.refl _ _), ⟨a1762, rfl, hp1763⟩⟩)))
    ·intro F1 w1 k1 hf hd
     obtain ⟨a1764, e1766, hp1765⟩ : ∃ aX_, F1 29 = .pointer (some aX_) ∧ PT Enc.int w1 (Bl0 ++ O) (.pointer (some aX_)) ((keysM x)[k]!) := hd 2 29 (by kernel_rfl)
     obtain ⟨F2, rfl⟩ := lit_of (F := F1) [(29, Value.pointer (some a1764))] ⟨e1766, trivial⟩
     exact sp_plain rfl ((o_loadI Try.underlying3 rfl rfl hp1765 (⟨(Keep.refl _ _), rfl⟩)))
    ·intro F1 w1 k1 hf hd
     have k0 := (Keep.drew [] w1750).trans k1
     have m1 : Mv Bl0 w1750 Bl0 w1 := Mv.of_keep k0
     have hl1729 := hl1729.mv m1
     obtain ⟨F2, rfl⟩ := lit_of (F := F1) [(6, v1723)] ⟨hf 6 (by kernel_rfl), trivial⟩
     exact sp_plain rfl ((o_move (v1723) rfl (⟨(Keep.refl _ _), hl1729⟩)))
    ·intro F1 w1 k1 hf hd
     obtain ⟨F2, rfl⟩ := lit_of (F := F1) [(7, vI ((k : Nat) : Int))] ⟨hf 7 (by kernel_rfl), trivial⟩
     exact sp_plain rfl ((o_move (vI ((k : Nat) : Int)) rfl (⟨(Keep.refl _ _), rfl⟩)))
    ·intro F1 w1 k1 hf hd
     obtain ⟨v1767, e1769, hl1768⟩ : ∃ v, F1 31 = v ∧ RdL Enc.int w1 (Bl0 ++ O) v (keysM y) := ⟨_, rfl, hd 4 31 (by kernel_rfl)⟩
     have := hl1768.len_le
     obtain ⟨F2, rfl⟩ := lit_of (F := F1) [(31, v1767), (32, vI ((k : Nat) : Int))] ⟨e1769, hd 5 32 (by kernel_rfl), trivial⟩
     exact sp_plain rfl ((o_idx Try.underlying27 s_3 .i64 ((k : Nat) : Int) k rfl rfl rfl hl1768 (by omega) fun a1770 hp1771 => (⟨(Keep.refl _ _), ⟨a1770, rfl, hp1771⟩⟩)))
    ·intro F1 w1 k1 hf hd
     obtain ⟨a1772, e1774, hp1773⟩ : ∃ aX_, F1 33 = .pointer (some aX_) ∧ PT Enc.int w1 (Bl0 ++ O) (.pointer (some aX_)) ((keysM y)[k]!) := hd 6 33 (by kernel_rfl)
     obtain ⟨F2, rfl⟩ := lit_of (F := F1) [(33, Value.pointer (some a1772))] ⟨e1774, trivial⟩
     exact sp_plain rfl ((o_loadI Try.underlying3 rfl rfl hp1773 (⟨(Keep.refl _ _), rfl⟩)))
    intro F1776 w1777 k1775 hT1778 hF1779
    have s1780 := s1753.call k1775
    obtain ⟨F2, rfl⟩ := lit_of (F := F1776) [(36, undef), (30, vI ((keysM x)[k]!)), (34, vI ((keysM y)[k]!))] ⟨hF1779 36 (by kernel_rfl), hT1778 3 30 (by kernel_rfl) (by decide), hT1778 7 34 (by kernel_rfl) (by decide), trivial⟩
    clear hT1778 hF1779
    refine wl_s (o_lss .i64 ((keysM x)[k]!) ((keysM y)[k]!) rfl rfl (wl_s (o_assign (Value.bool (decide ((keysM x)[k]! < (keysM y)[k]!))) rfl (wl_nil (thenQ_n (?_))))))
    refine cw_ret (blockQ_r (thenQ_r (thenQ_r (blockQ_r (thenQ_r (end_r rfl (res1 rfl rfl rfl) (?_)))))))
    have e : (beforeM x y) = (decide ((keysM x)[k]! < (keysM y)[k]!)) := by first | exact bef_at (by omega) hr0_1 (by assumption) | exact bef_end (by omega) hr0_1
    exact ⟨_, rfl, s1780.keep, (by first | exact congrArg Value.bool e.symm | rfl)⟩
   ·have hp1784 : (keysM x)[k]! = (keysM y)[k]! := by first | simpa using hc1757 | (have e := hc1757; simp at e; omega)
    refine cw_skip (blockQ_n (thenQ_n (?_)))
    refine cw_region (by kernel_rfl) (wl_s (o_move (vI ((k : Nat) : Int)) rfl (wl_s (o_add .i64 ((k : Nat) : Int) (1 : Int) (((k + 1 : Nat) : Int)) rfl rfl (w64 (by omega) (by omega)) (wl_s (o_assign (vI ((k + 1 : Nat) : Int)) rfl (wl_nil (thenQ_n (?_)))))))))
    exact ⟨_, (by omega), (k + 1), Bl0, (by omega), (eq_step hr0_1 (by assumption)), rfl, ⟨_, upds_self _ ⟨rfl, rfl, (by first | rfl | exact congrArg (Value.int _) (by first | omega | (simp))), rfl, trivial⟩⟩, s1753, hl1720, hl1729⟩
  ·have hp1785 : ((keysM x).length : Int) ≤ ((k : Nat) : Int) := by first | simpa using hc1730 | (have e := hc1730; simp at e; omega)
   refine cw_exit (thenQ_x (thenQ_x (blockQ_x (thenQ_n (?_)))))
   refine cw_seq (?_)
   refine cw_region (by kernel_rfl) (wl_s (o_assign (Value.bool false) rfl (wl_nil (thenQ_n (?_)))))
   refine cw_ret (end_r rfl (res1 rfl rfl rfl) (?_))
   have e : (beforeM x y) = false := by first | exact bef_at (by omega) hr0_1 (by assumption) | exact bef_end (by omega) hr0_1
   exact ⟨_, rfl, sl0.keep, (by first | exact congrArg Value.bool e.symm | rfl)⟩
set_option maxHeartbeats 4000000 in
set_option maxRecDepth 100000 in
theorem c_refCheck {O : List Nat} (l_v : Value) (l : List DeviceOp) (w : World) (h_l : RdL Enc.devop w O l_v l) (hO : ∀ b ∈ O, b < w.heap.size) : CallsK Try.prog 30 [l_v] w (fun v _ => v = vI (checkM l)) :=  by
 have lim_l := h_l.len_le
 have h_l : RdL Enc.devop w ([] ++ O) l_v l := h_l
 have s0 : St w O w [] := St.start hO
 refine callsK_of 66 Try.func30 rfl rfl (of_decide_eq_true rfl) (fun F0 => ?_)
 refine cw_seq (?_)
 refine cw_region (by kernel_rfl) (wl_s (o_assign (vI (0 : Int)) rfl (wl_nil (thenQ_n (?_)))))
 refine cw_seq (?_)
 refine cw_seq (?_)
 refine cw_region (by kernel_rfl) (wl_s (o_move (l_v) rfl (wl_s (o_lenR Try.underlying26 rfl h_l (wl_s (o_gtr .i64 (l.length : Int) (256 : Int) rfl rfl (wl_nil (thenQ_n (?_)))))))))
 refine cw_cond (decide ((256 : Int) < (l.length : Int))) rfl rfl (fun hc1786 => ?_) (fun hc1786 => ?_)
 ·have hp1787 : (256 : Int) < (l.length : Int) := by first | simpa using hc1786 | (have e := hc1786; simp at e; omega)
  refine cw_seq (?_)
  refine cw_region (by kernel_rfl) (wl_s (o_assign (vI (420 : Int)) rfl (wl_nil (thenQ_n (?_)))))
  refine cw_ret (thenQ_r (end_r rfl (res1 rfl rfl rfl) (?_)))
  have e : (checkM l) = (420 : Int) := by first | exact chk_len (by omega) | exact chk_val (i := k) (by omega) (by assumption) | exact chk_ord (i := k) (by omega) (by omega) (by assumption) | exact chk_num (i := k) (k := j) (by omega) (by omega) (by assumption) (by assumption) | exact chk_ok hr0_1 (by omega)
  exact ⟨_, rfl, s0.keep, by rw [e]; first | done | exact rfl⟩
 ·have hp1788 : (l.length : Int) ≤ (256 : Int) := by first | simpa using hc1786 | (have e := hc1786; simp at e; omega)
  refine cw_skip (thenQ_n (?_))
  refine cw_seq (?_)
  refine cw_seq (?_)
  refine cw_region (by kernel_rfl) (wl_s (o_assign (vI (0 : Int)) rfl (wl_nil (thenQ_n (?_)))))
  refine cw_block (?_)
  refine cw_loop (fun mI FI wI => ∃ (k : Nat) (B : List Nat), k ≤ l.length ∧ pre42 l k ∧ mI = l.length - k ∧ (∃ F1, FI = upds F1 [(0, l_v), (3, vI ((k : Nat) : Int)), (66, undef)]) ∧ St w O wI B ∧ RdL Enc.devop wI (B ++ O) (l_v) (l)) (l.length - (0)) ?_ ?_
  ·exact ⟨(0), [], (by omega), (pre_zero l), rfl, ⟨_, upds_self _ ⟨rfl, (by first | rfl | exact congrArg (Value.int _) (by first | omega | (simp))), rfl, trivial⟩⟩, s0, h_l⟩
  ·intro ml0 F wl0 hI
   clear h_l
   obtain ⟨k, Bl0, hr0_0, hr0_1, hm0, ⟨Fl0, rfl⟩, sl0, h_l⟩ := hI
   refine cw_seq (?_)
   refine cw_seq (?_)
   refine cw_region (by kernel_rfl) (wl_s (o_move (vI ((k : Nat) : Int)) rfl (wl_s (o_move (l_v) rfl (wl_s (o_lenR Try.underlying26 rfl h_l (wl_s (o_lss .i64 ((k : Nat) : Int) (l.length : Int) rfl rfl (wl_nil (thenQ_n (?_)))))))))))
   refine cw_cond (decide (((k : Nat) : Int) < (l.length : Int))) rfl rfl (fun hc1789 => ?_) (fun hc1789 => ?_)
   ·have hp1790 : ((k : Nat) : Int) < (l.length : Int) := by first | simpa using hc1789 | (have e := hc1789; simp at e; omega)
    refine cw_skip (thenQ_n (?_))
    refine cw_seq (?_)
    refine cw_block (?_)
    refine cw_cut (fun FI wI => ∃ (B : List Nat), validM l[k]! = true ∧ (0 < k → beforeM l[k - 1]! l[k]! = true) ∧ True ∧ (∃ F1, FI = upds F1 [(0, l_v), (3, vI ((k : Nat) : Int)), (66, undef)]) ∧ St w O wI B ∧ RdL Enc.devop wI (B ++ O) (l_v) (l)) ?_ ?_
    ·refine cw_seq (?_)
     cases hb1791 : (!(validM (l[k]!)))
     ·have hp1792 : (validM (l[k]!)) = true := by first | simpa using hb1791 | (have e := hb1791; rw [Bool.not_eq_true'] at e; exact e) | (have e := hb1791; rw [Bool.not_eq_false'] at e; exact e) | (have e := hb1791; simp at e; omega)
      cases hb1793 : (decide ((0 : Int) < ((k : Nat) : Int)))
      ·have hp1794 : ((k : Nat) : Int) ≤ (0 : Int) := by first | simpa using hb1793 | (have e := hb1793; simp at e; omega)
       refine cw_draw' 19 _ _ [fun (vT : Value) (wT : World) => RdL Enc.devop wT (Bl0 ++ O) vT (l), isV (vI ((k : Nat) : Int)), fun (vT : Value) (wT : World) => ∃ aT, vT = .pointer (some aT) ∧ PT Enc.devop wT (Bl0 ++ O) (.pointer (some aT)) (l[k]!), isV (Value.agg #[vI ((l[k]!).device), vI ((l[k]!).no), vI ((l[k]!).kind), vI ((l[k]!).copy), vI ((l[k]!).to), vI ((l[k]!).token)]), isV (Value.bool (validM (l[k]!))), isV (Value.bool false), isV (Value.bool false), isV (vI ((k : Nat) : Int)), isV (Value.bool false), isV (Value.bool false), isV undef, isV undef, isV undef, isV undef, isV undef, isV undef, isV undef, isV undef, isV undef] (by kernel_rfl) (by kernel_rfl) (by kernel_rfl) (by kernel_rfl) rfl rfl ⟨fun _ _ _ h k => h.mv (Mv.of_keep k), kI, fun _ _ _ ⟨a, e, h⟩ k => ⟨a, e, h.mv (Mv.of_keep k)⟩, kI, kI, kI, kI, kI, kI, kI, kI, kI, kI, kI, kI, kI, kI, kI, kI, trivial⟩ ⟨?_, ?_, ?_, ?_, ?_, ?_, ?_, ?_, ?_, ?_, ?_, ?_, ?_, ?_, ?_, ?_, ?_, ?_, ?_, trivial⟩ ?_
       ·intro F1 w1 k1 hf hd
        have k0 := (Keep.drew [] wl0).trans k1
        have m1 : Mv Bl0 wl0 Bl0 w1 := Mv.of_keep k0
        have h_l := h_l.mv m1
        obtain ⟨F2, rfl⟩ := lit_of (F := F1) [(0, l_v)] ⟨hf 0 (by kernel_rfl), trivial⟩
        exact sp_plain rfl ((o_move (l_v) rfl (⟨(Keep.refl _ _), h_l⟩)))
       ·intro F1 w1 k1 hf hd
        obtain ⟨F2, rfl⟩ := lit_of (F := F1) [(3, vI ((k : Nat) : Int))] ⟨hf 3 (by kernel_rfl), trivial⟩
        exact sp_plain rfl ((o_move (vI ((k : Nat) : Int)) rfl (⟨(Keep.refl _ _), rfl⟩)))
       ·intro F1 w1 k1 hf hd
        obtain ⟨v1795, e1797, hl1796⟩ : ∃ v, F1 14 = v ∧ RdL Enc.devop w1 (Bl0 ++ O) v (l) := ⟨_, rfl, hd 0 14 (by kernel_rfl)⟩
        have := hl1796.len_le
        obtain ⟨F2, rfl⟩ := lit_of (F := F1) [(14, v1795), (15, vI ((k : Nat) : Int))] ⟨e1797, hd 1 15 (by kernel_rfl), trivial⟩
        exact sp_plain rfl ((o_idx Try.underlying26 s_40 .i64 ((k : Nat) : Int) k rfl rfl rfl hl1796 (by omega) fun a1798 hp1799 => (⟨(Keep.refl _ _), ⟨a1798, rfl, hp1799⟩⟩)))
       ·intro F1 w1 k1 hf hd
        obtain ⟨a1800, e1802, hp1801⟩ : ∃ aX_, F1 16 = .pointer (some aX_) ∧ PT Enc.devop w1 (Bl0 ++ O) (.pointer (some aX_)) (l[k]!) := hd 2 16 (by kernel_rfl)
        obtain ⟨F2, rfl⟩ := lit_of (F := F1) [(16, Value.pointer (some a1800))] ⟨e1802, trivial⟩
        refine sp_plain rfl ((o_loadS Try.underlying40 rfl s_40 rfl hp1801 fun cs1803 hs1804 => (?_)))
        obtain rfl := hs1804
        exact ⟨(Keep.refl _ _), rfl⟩
       ·intro F1 w1 k1 hf hd
        have k0 := (Keep.drew [] wl0).trans k1
        have s1 := sl0.call k0
        obtain ⟨F2, rfl⟩ := lit_of (F := F1) [(17, Value.agg #[vI ((l[k]!).device), vI ((l[k]!).no), vI ((l[k]!).kind), vI ((l[k]!).copy), vI ((l[k]!).to), vI ((l[k]!).token)])] ⟨hd 3 17 (by kernel_rfl), trivial⟩
        refine sp_plain rfl ((o_callK (vs := [Value.agg #[vI ((l[k]!).device), vI ((l[k]!).no), vI ((l[k]!).kind), vI ((l[k]!).copy), vI ((l[k]!).to), vI ((l[k]!).token)]]) enter_67 (c_refValid (O := Bl0 ++ O) [vI ((l[k]!).device), vI ((l[k]!).no), vI ((l[k]!).kind), vI ((l[k]!).copy), vI ((l[k]!).to), vI ((l[k]!).token)] (l[k]!) w1 rfl s1.lt) rfl s1 fun v1805 w1806 s1807 m1808 k1809 r1810 => (?_)))
        obtain rfl := r1810
        exact ⟨k1809, rfl⟩
       ·intro F1 w1 k1 hf hd
        obtain ⟨F2, rfl⟩ := lit_of (F := F1) [(18, Value.bool (validM (l[k]!)))] ⟨hd 4 18 (by kernel_rfl), trivial⟩
        refine sp_plain rfl ((o_not (validM (l[k]!)) rfl (?_)))
        exact ⟨(Keep.refl _ _), congrArg Value.bool (hb1791)⟩
       ·intro F1 w1 k1 hf hd
        obtain ⟨F2, rfl⟩ := lit_of (F := F1) [(19, Value.bool false)] ⟨hd 5 19 (by kernel_rfl), trivial⟩
        exact sp_plain rfl ((o_move (Value.bool false) rfl (⟨(Keep.refl _ _), rfl⟩)))
       ·intro F1 w1 k1 hf hd
        obtain ⟨F2, rfl⟩ := lit_of (F := F1) [(3, vI ((k : Nat) : Int)), (20, Value.bool false)] ⟨hf 3 (by kernel_rfl), hd 6 20 (by kernel_rfl), trivial⟩
        exact sp_take rfl rfl ((o_move (vI ((k : Nat) : Int)) rfl (⟨(Keep.refl _ _), rfl⟩)))
       ·intro F1 w1 k1 hf hd
        obtain ⟨F2, rfl⟩ := lit_of (F := F1) [(20, Value.bool false), (21, vI ((k : Nat) : Int))] ⟨hd 6 20 (by kernel_rfl), hd 7 21 (by kernel_rfl), trivial⟩
        refine sp_take rfl rfl ((o_gtr .i64 ((k : Nat) : Int) (0 : Int) rfl rfl (?_)))
        exact ⟨(Keep.refl _ _), congrArg Value.bool (hb1793)⟩
       ·intro F1 w1 k1 hf hd
        obtain ⟨F2, rfl⟩ := lit_of (F := F1) [(20, Value.bool false), (22, Value.bool false)] ⟨hd 6 20 (by kernel_rfl), hd 8 22 (by kernel_rfl), trivial⟩
        exact sp_take rfl rfl ((o_move (Value.bool false) rfl (⟨(Keep.refl _ _), rfl⟩)))
       ·intro F1 w1 k1 hf hd
        exact sp_skipD rfl rfl (hd 9 23 (by kernel_rfl)) rfl rfl
       ·intro F1 w1 k1 hf hd
        exact sp_skipD rfl rfl (hd 9 23 (by kernel_rfl)) rfl rfl
       ·intro F1 w1 k1 hf hd
        exact sp_skipD rfl rfl (hd 9 23 (by kernel_rfl)) rfl rfl
       ·intro F1 w1 k1 hf hd
        exact sp_skipD rfl rfl (hd 9 23 (by kernel_rfl)) rfl rfl
       ·intro F1 w1 k1 hf hd
        exact sp_skipD rfl rfl (hd 9 23 (by kernel_rfl)) rfl rfl
       ·intro F1 w1 k1 hf hd
        exact sp_skipD rfl rfl (hd 9 23 (by kernel_rfl)) rfl rfl
       ·intro F1 w1 k1 hf hd
        exact sp_skipD rfl rfl (hd 9 23 (by kernel_rfl)) rfl rfl
       ·intro F1 w1 k1 hf hd
        exact sp_skipD rfl rfl (hd 9 23 (by kernel_rfl)) rfl rfl
       ·intro F1 w1 k1 hf hd
        exact sp_skipD rfl rfl (hd 9 23 (by kernel_rfl)) rfl rfl
       intro F1812 w1813 k1811 hT1814 hF1815
       have s1816 := sl0.call k1811
       have m1817 : Mv Bl0 wl0 Bl0 w1813 := Mv.of_keep k1811
       have h_l := h_l.mv m1817
       obtain ⟨F2, rfl⟩ := lit_of (F := F1812) [(0, l_v), (3, vI ((k : Nat) : Int)), (66, undef), (20, Value.bool false), (23, Value.bool false)] ⟨hF1815 0 (by kernel_rfl), hF1815 3 (by kernel_rfl), hF1815 66 (by kernel_rfl), hT1814 6 20 (by kernel_rfl) (by decide), hT1814 9 23 (by kernel_rfl) (by decide), trivial⟩
       clear hT1814 hF1815
       refine wl_k rfl (wl_k rfl (wl_t rfl (o_pickF (Value.bool false) rfl rfl (wl_s (o_pickF (Value.bool false) rfl rfl (wl_nil (thenQ_n (?_))))))))
       refine cw_cond false rfl rfl (fun h => by cases h) (fun _ => ?_)
       refine cw_skip (thenQ_n (?_))
       exact ⟨Bl0, (by assumption), (fun h0_ => by first | assumption | (exfalso; omega)), trivial, ⟨_, upds_self _ ⟨rfl, rfl, rfl, trivial⟩⟩, s1816, h_l⟩
      ·have hp1820 : (0 : Int) < ((k : Nat) : Int) := by first | simpa using hb1793 | (have e := hb1793; simp at e; omega)
       refine cw_draw' 19 _ _ [fun (vT : Value) (wT : World) => RdL Enc.devop wT (Bl0 ++ O) vT (l), isV (vI ((k : Nat) : Int)), fun (vT : Value) (wT : World) => ∃ aT, vT = .pointer (some aT) ∧ PT Enc.devop wT (Bl0 ++ O) (.pointer (some aT)) (l[k]!), isV (Value.agg #[vI ((l[k]!).device), vI ((l[k]!).no), vI ((l[k]!).kind), vI ((l[k]!).copy), vI ((l[k]!).to), vI ((l[k]!).token)]), isV (Value.bool (validM (l[k]!))), isV (Value.bool false), isV (Value.bool false), isV (vI ((k : Nat) : Int)), isV (Value.bool true), isV (Value.bool true), fun (vT : Value) (wT : World) => RdL Enc.devop wT (Bl0 ++ O) vT (l), isV (vI ((k : Nat) : Int)), isV (vI ((k - 1 : Nat) : Int)), fun (vT : Value) (wT : World) => ∃ aT, vT = .pointer (some aT) ∧ PT Enc.devop wT (Bl0 ++ O) (.pointer (some aT)) (l[k - 1]!), isV (Value.agg #[vI ((l[k - 1]!).device), vI ((l[k - 1]!).no), vI ((l[k - 1]!).kind), vI ((l[k - 1]!).copy), vI ((l[k - 1]!).to), vI ((l[k - 1]!).token)]), fun (vT : Value) (wT : World) => RdL Enc.devop wT (Bl0 ++ O) vT (l), isV (vI ((k : Nat) : Int)), fun (vT : Value) (wT : World) => ∃ aT, vT = .pointer (some aT) ∧ PT Enc.devop wT (Bl0 ++ O) (.pointer (some aT)) (l[k]!), isV (Value.agg #[vI ((l[k]!).device), vI ((l[k]!).no), vI ((l[k]!).kind), vI ((l[k]!).copy), vI ((l[k]!).to), vI ((l[k]!).token)])] (by kernel_rfl) (by kernel_rfl) (by kernel_rfl) (by kernel_rfl) rfl rfl ⟨fun _ _ _ h k => h.mv (Mv.of_keep k), kI, fun _ _ _ ⟨a, e, h⟩ k => ⟨a, e, h.mv (Mv.of_keep k)⟩, kI, kI, kI, kI, kI, kI, kI, fun _ _ _ h k => h.mv (Mv.of_keep k), kI, kI, fun _ _ _ ⟨a, e, h⟩ k => ⟨a, e, h.mv (Mv.of_keep k)⟩, kI, fun _ _ _ h k => h.mv (Mv.of_keep k), kI, fun _ _ _ ⟨a, e, h⟩ k => ⟨a, e, h.mv (Mv.of_keep k)⟩, kI, trivial⟩ ⟨?_, ?_, ?_, ?_, ?_, ?_, ?_, ?_, ?_, ?_, ?_, ?_, ?_, ?_, ?_, ?_, ?_, ?_, ?_, trivial⟩ ?_
       ·intro F1 w1 k1 hf hd
        have k0 := (Keep.drew [] wl0).trans k1
        have m1 : Mv Bl0 wl0 Bl0 w1 := Mv.of_keep k0
        have h_l := h_l.mv m1
        obtain ⟨F2, rfl⟩ := lit_of (F := F1) [(0, l_v)] ⟨hf 0 (by kernel_rfl), trivial⟩
        exact sp_plain rfl ((o_move (l_v) rfl (⟨(Keep.refl _ _), h_l⟩)))
       ·intro F1 w1 k1 hf hd
        obtain ⟨F2, rfl⟩ := lit_of (F := F1) [(3, vI ((k : Nat) : Int))] ⟨hf 3 (by kernel_rfl), trivial⟩
        exact sp_plain rfl ((o_move (vI ((k : Nat) : Int)) rfl (⟨(Keep.refl _ _), rfl⟩)))
       ·intro F1 w1 k1 hf hd
        obtain ⟨v1821, e1823, hl1822⟩ : ∃ v, F1 14 = v ∧ RdL Enc.devop w1 (Bl0 ++ O) v (l) := ⟨_, rfl, hd 0 14 (by kernel_rfl)⟩
        have := hl1822.len_le
        obtain ⟨F2, rfl⟩ := lit_of (F := F1) [(14, v1821), (15, vI ((k : Nat) : Int))] ⟨e1823, hd 1 15 (by kernel_rfl), trivial⟩
        exact sp_plain rfl ((o_idx Try.underlying26 s_40 .i64 ((k : Nat) : Int) k rfl rfl rfl hl1822 (by omega) fun a1824 hp1825 => (⟨(Keep.refl _ _), ⟨a1824, rfl, hp1825⟩⟩)))
       ·intro F1 w1 k1 hf hd
        obtain ⟨a1826, e1828, hp1827⟩ : ∃ aX_, F1 16 = .pointer (some aX_) ∧ PT Enc.devop w1 (Bl0 ++ O) (.pointer (some aX_)) (l[k]!) := hd 2 16 (by kernel_rfl)
        obtain ⟨F2, rfl⟩ := lit_of (F := F1) [(16, Value.pointer (some a1826))] ⟨e1828, trivial⟩
        refine sp_plain rfl ((o_loadS Try.underlying40 rfl s_40 rfl hp1827 fun cs1829 hs1830 => (?_)))
        obtain rfl := hs1830
        exact ⟨(Keep.refl _ _), rfl⟩
       ·intro F1 w1 k1 hf hd
        have k0 := (Keep.drew [] wl0).trans k1
        have s1 := sl0.call k0
        obtain ⟨F2, rfl⟩ := lit_of (F := F1) [(17, Value.agg #[vI ((l[k]!).device), vI ((l[k]!).no), vI ((l[k]!).kind), vI ((l[k]!).copy), vI ((l[k]!).to), vI ((l[k]!).token)])] ⟨hd 3 17 (by kernel_rfl), trivial⟩
        refine sp_plain rfl ((o_callK (vs := [Value.agg #[vI ((l[k]!).device), vI ((l[k]!).no), vI ((l[k]!).kind), vI ((l[k]!).copy), vI ((l[k]!).to), vI ((l[k]!).token)]]) enter_67 (c_refValid (O := Bl0 ++ O) [vI ((l[k]!).device), vI ((l[k]!).no), vI ((l[k]!).kind), vI ((l[k]!).copy), vI ((l[k]!).to), vI ((l[k]!).token)] (l[k]!) w1 rfl s1.lt) rfl s1 fun v1831 w1832 s1833 m1834 k1835 r1836 => (?_)))
        obtain rfl := r1836
        exact ⟨k1835, rfl⟩
       ·intro F1 w1 k1 hf hd
        obtain ⟨F2, rfl⟩ := lit_of (F := F1) [(18, Value.bool (validM (l[k]!)))] ⟨hd 4 18 (by kernel_rfl), trivial⟩
        refine sp_plain rfl ((o_not (validM (l[k]!)) rfl (?_)))
        exact ⟨(Keep.refl _ _), congrArg Value.bool (hb1791)⟩
       ·intro F1 w1 k1 hf hd
        obtain ⟨F2, rfl⟩ := lit_of (F := F1) [(19, Value.bool false)] ⟨hd 5 19 (by kernel_rfl), trivial⟩
        exact sp_plain rfl ((o_move (Value.bool false) rfl (⟨(Keep.refl _ _), rfl⟩)))
       ·intro F1 w1 k1 hf hd
        obtain ⟨F2, rfl⟩ := lit_of (F := F1) [(3, vI ((k : Nat) : Int)), (20, Value.bool false)] ⟨hf 3 (by kernel_rfl), hd 6 20 (by kernel_rfl), trivial⟩
        exact sp_take rfl rfl ((o_move (vI ((k : Nat) : Int)) rfl (⟨(Keep.refl _ _), rfl⟩)))
       ·intro F1 w1 k1 hf hd
        obtain ⟨F2, rfl⟩ := lit_of (F := F1) [(20, Value.bool false), (21, vI ((k : Nat) : Int))] ⟨hd 6 20 (by kernel_rfl), hd 7 21 (by kernel_rfl), trivial⟩
        refine sp_take rfl rfl ((o_gtr .i64 ((k : Nat) : Int) (0 : Int) rfl rfl (?_)))
        exact ⟨(Keep.refl _ _), congrArg Value.bool (hb1793)⟩
       ·intro F1 w1 k1 hf hd
        obtain ⟨F2, rfl⟩ := lit_of (F := F1) [(20, Value.bool false), (22, Value.bool true)] ⟨hd 6 20 (by kernel_rfl), hd 8 22 (by kernel_rfl), trivial⟩
        exact sp_take rfl rfl ((o_move (Value.bool true) rfl (⟨(Keep.refl _ _), rfl⟩)))
       ·intro F1 w1 k1 hf hd
        have k0 := (Keep.drew [] wl0).trans k1
        have m1 : Mv Bl0 wl0 Bl0 w1 := Mv.of_keep k0
        have h_l := h_l.mv m1
        obtain ⟨F2, rfl⟩ := lit_of (F := F1) [(0, l_v), (23, Value.bool true)] ⟨hf 0 (by kernel_rfl), hd 9 23 (by kernel_rfl), trivial⟩
        exact sp_take rfl rfl ((o_move (l_v) rfl (⟨(Keep.refl _ _), h_l⟩)))
       ·intro F1 w1 k1 hf hd
        obtain ⟨F2, rfl⟩ := lit_of (F := F1) [(3, vI ((k : Nat) : Int)), (23, Value.bool true)] ⟨hf 3 (by kernel_rfl), hd 9 23 (by kernel_rfl), trivial⟩
        exact sp_take rfl rfl ((o_move (vI ((k : Nat) : Int)) rfl (⟨(Keep.refl _ _), rfl⟩)))
       ·intro F1 w1 k1 hf hd
        obtain ⟨F2, rfl⟩ := lit_of (F := F1) [(23, Value.bool true), (25, vI ((k : Nat) : Int))] ⟨hd 9 23 (by kernel_rfl), hd 11 25 (by kernel_rfl), trivial⟩
        exact sp_take rfl rfl ((o_sub .i64 ((k : Nat) : Int) (1 : Int) (((k - 1 : Nat) : Int)) rfl rfl (w64 (by omega) (by omega)) (⟨(Keep.refl _ _), rfl⟩)))
       ·intro F1 w1 k1 hf hd
        obtain ⟨v1837, e1839, hl1838⟩ : ∃ v, F1 24 = v ∧ RdL Enc.devop w1 (Bl0 ++ O) v (l) := ⟨_, rfl, hd 10 24 (by kernel_rfl)⟩
        have := hl1838.len_le
        obtain ⟨F2, rfl⟩ := lit_of (F := F1) [(23, Value.bool true), (24, v1837), (26, vI ((k - 1 : Nat) : Int))] ⟨hd 9 23 (by kernel_rfl), e1839, hd 12 26 (by kernel_rfl), trivial⟩
        exact sp_take rfl rfl ((o_idx Try.underlying26 s_40 .i64 ((k - 1 : Nat) : Int) (k - 1) rfl rfl rfl hl1838 (by omega) fun a1840 hp1841 => (⟨(Keep.refl _ _), ⟨a1840, rfl, hp1841⟩⟩)))
       ·intro F1 w1 k1 hf hd
        obtain ⟨a1842, e1844, hp1843⟩ : ∃ aX_, F1 27 = .pointer (some aX_) ∧ PT Enc.devop w1 (Bl0 ++ O) (.pointer (some aX_)) (l[k - 1]!) := hd 13 27 (by kernel_rfl)
        obtain ⟨F2, rfl⟩ := lit_of (F := F1) [(23, Value.bool true), (27, Value.pointer (some a1842))] ⟨hd 9 23 (by kernel_rfl), e1844, trivial⟩
        refine sp_take rfl rfl ((o_loadS Try.underlying40 rfl s_40 rfl hp1843 fun cs1845 hs1846 => (?_)))
        obtain rfl := hs1846
        exact ⟨(Keep.refl _ _), rfl⟩
       ·intro F1 w1 k1 hf hd
        have k0 := (Keep.drew [] wl0).trans k1
        have m1 : Mv Bl0 wl0 Bl0 w1 := Mv.of_keep k0
        have h_l := h_l.mv m1
        obtain ⟨F2, rfl⟩ := lit_of (F := F1) [(0, l_v), (23, Value.bool true)] ⟨hf 0 (by kernel_rfl), hd 9 23 (by kernel_rfl), trivial⟩
        exact sp_take rfl rfl ((o_move (l_v) rfl (⟨(Keep.refl _ _), h_l⟩)))
       ·intro F1 w1 k1 hf hd
        obtain ⟨F2, rfl⟩ := lit_of (F := F1) [(3, vI ((k : Nat) : Int)), (23, Value.bool true)] ⟨hf 3 (by kernel_rfl), hd 9 23 (by kernel_rfl), trivial⟩
        exact sp_take rfl rfl ((o_move (vI ((k : Nat) : Int)) rfl (⟨(Keep.refl _ _), rfl⟩)))
       ·intro F1 w1 k1 hf hd
        obtain ⟨v1847, e1849, hl1848⟩ : ∃ v, F1 29 = v ∧ RdL Enc.devop w1 (Bl0 ++ O) v (l) := ⟨_, rfl, hd 15 29 (by kernel_rfl)⟩
        have := hl1848.len_le
        obtain ⟨F2, rfl⟩ := lit_of (F := F1) [(23, Value.bool true), (29, v1847), (30, vI ((k : Nat) : Int))] ⟨hd 9 23 (by kernel_rfl), e1849, hd 16 30 (by kernel_rfl), trivial⟩
        exact sp_take rfl rfl ((o_idx Try.underlying26 s_40 .i64 ((k : Nat) : Int) k rfl rfl rfl hl1848 (by omega) fun a1850 hp1851 => (⟨(Keep.refl _ _), ⟨a1850, rfl, hp1851⟩⟩)))
       ·intro F1 w1 k1 hf hd
        obtain ⟨a1852, e1854, hp1853⟩ : ∃ aX_, F1 31 = .pointer (some aX_) ∧ PT Enc.devop w1 (Bl0 ++ O) (.pointer (some aX_)) (l[k]!) := hd 17 31 (by kernel_rfl)
        obtain ⟨F2, rfl⟩ := lit_of (F := F1) [(23, Value.bool true), (31, Value.pointer (some a1852))] ⟨hd 9 23 (by kernel_rfl), e1854, trivial⟩
        refine sp_take rfl rfl ((o_loadS Try.underlying40 rfl s_40 rfl hp1853 fun cs1855 hs1856 => (?_)))
        obtain rfl := hs1856
        exact ⟨(Keep.refl _ _), rfl⟩
       intro F1858 w1859 k1857 hT1860 hF1861
       have s1862 := sl0.call k1857
       have m1863 : Mv Bl0 wl0 Bl0 w1859 := Mv.of_keep k1857
       have h_l := h_l.mv m1863
       obtain ⟨F2, rfl⟩ := lit_of (F := F1858) [(0, l_v), (3, vI ((k : Nat) : Int)), (66, undef), (20, Value.bool false), (23, Value.bool true), (28, Value.agg #[vI ((l[k - 1]!).device), vI ((l[k - 1]!).no), vI ((l[k - 1]!).kind), vI ((l[k - 1]!).copy), vI ((l[k - 1]!).to), vI ((l[k - 1]!).token)]), (32, Value.agg #[vI ((l[k]!).device), vI ((l[k]!).no), vI ((l[k]!).kind), vI ((l[k]!).copy), vI ((l[k]!).to), vI ((l[k]!).token)])] ⟨hF1861 0 (by kernel_rfl), hF1861 3 (by kernel_rfl), hF1861 66 (by kernel_rfl), hT1860 6 20 (by kernel_rfl) (by decide), hT1860 9 23 (by kernel_rfl) (by decide), hT1860 14 28 (by kernel_rfl) (by decide), hT1860 18 32 (by kernel_rfl) (by decide), trivial⟩
       clear hT1860 hF1861
       refine wl_t rfl (o_callK (vs := [Value.agg #[vI ((l[k - 1]!).device), vI ((l[k - 1]!).no), vI ((l[k - 1]!).kind), vI ((l[k - 1]!).copy), vI ((l[k - 1]!).to), vI ((l[k - 1]!).token)], Value.agg #[vI ((l[k]!).device), vI ((l[k]!).no), vI ((l[k]!).kind), vI ((l[k]!).copy), vI ((l[k]!).to), vI ((l[k]!).token)]]) enter_71 (c_before (O := Bl0 ++ O) [vI ((l[k - 1]!).device), vI ((l[k - 1]!).no), vI ((l[k - 1]!).kind), vI ((l[k - 1]!).copy), vI ((l[k - 1]!).to), vI ((l[k - 1]!).token)] (l[k - 1]!) [vI ((l[k]!).device), vI ((l[k]!).no), vI ((l[k]!).kind), vI ((l[k]!).copy), vI ((l[k]!).to), vI ((l[k]!).token)] (l[k]!) w1859 rfl rfl s1862.lt) rfl s1862 fun v1866 w1867 s1868 m1869 k1870 r1871 => (?_))
       obtain rfl := r1871
       have h_l := h_l.mv m1869
       refine wl_t rfl (o_not (beforeM (l[k - 1]!) (l[k]!)) rfl (wl_t rfl (o_pickT (Value.bool (!(beforeM (l[k - 1]!) (l[k]!)))) rfl rfl (wl_s (o_pickF (Value.bool (!(beforeM (l[k - 1]!) (l[k]!)))) rfl rfl (wl_nil (thenQ_n (?_))))))))
       refine cw_cond (!(beforeM (l[k - 1]!) (l[k]!))) rfl rfl (fun hc1872 => ?_) (fun hc1872 => ?_)
       ·have hp1873 : (beforeM (l[k - 1]!) (l[k]!)) = false := by first | simpa using hc1872 | (have e := hc1872; rw [Bool.not_eq_true'] at e; exact e) | (have e := hc1872; rw [Bool.not_eq_false'] at e; exact e) | (have e := hc1872; simp at e; omega)
        refine cw_seq (?_)
        refine cw_region (by kernel_rfl) (wl_s (o_assign (vI (420 : Int)) rfl (wl_nil (thenQ_n (?_)))))
        refine cw_ret (thenQ_r (blockQ_r (thenQ_r (thenQ_r (blockQ_r (thenQ_r (end_r rfl (res1 rfl rfl rfl) (?_))))))))
        have e : (checkM l) = (420 : Int) := by first | exact chk_len (by omega) | exact chk_val (i := k) (by omega) (by assumption) | exact chk_ord (i := k) (by omega) (by omega) (by assumption) | exact chk_num (i := k) (k := j) (by omega) (by omega) (by assumption) (by assumption) | exact chk_ok hr0_1 (by omega)
        exact ⟨_, rfl, s1868.keep, by rw [e]; first | done | exact rfl⟩
       ·have hp1874 : (beforeM (l[k - 1]!) (l[k]!)) = true := by first | simpa using hc1872 | (have e := hc1872; rw [Bool.not_eq_true'] at e; exact e) | (have e := hc1872; rw [Bool.not_eq_false'] at e; exact e) | (have e := hc1872; simp at e; omega)
        refine cw_skip (thenQ_n (?_))
        exact ⟨Bl0, (by assumption), (fun h0_ => by first | assumption | (exfalso; omega)), trivial, ⟨_, upds_self _ ⟨rfl, rfl, rfl, trivial⟩⟩, s1868, h_l⟩
     ·have hp1875 : (validM (l[k]!)) = false := by first | simpa using hb1791 | (have e := hb1791; rw [Bool.not_eq_true'] at e; exact e) | (have e := hb1791; rw [Bool.not_eq_false'] at e; exact e) | (have e := hb1791; simp at e; omega)
      refine cw_draw' 19 _ _ [fun (vT : Value) (wT : World) => RdL Enc.devop wT (Bl0 ++ O) vT (l), isV (vI ((k : Nat) : Int)), fun (vT : Value) (wT : World) => ∃ aT, vT = .pointer (some aT) ∧ PT Enc.devop wT (Bl0 ++ O) (.pointer (some aT)) (l[k]!), isV (Value.agg #[vI ((l[k]!).device), vI ((l[k]!).no), vI ((l[k]!).kind), vI ((l[k]!).copy), vI ((l[k]!).to), vI ((l[k]!).token)]), isV (Value.bool (validM (l[k]!))), isV (Value.bool true), isV (Value.bool true), isV undef, isV undef, isV undef, isV undef, isV undef, isV undef, isV undef, isV undef, isV undef, isV undef, isV undef, isV undef] (by kernel_rfl) (by kernel_rfl) (by kernel_rfl) (by kernel_rfl) rfl rfl ⟨fun _ _ _ h k => h.mv (Mv.of_keep k), kI, fun _ _ _ ⟨a, e, h⟩ k => ⟨a, e, h.mv (Mv.of_keep k)⟩, kI, kI, kI, kI, kI, kI, kI, kI, kI, kI, kI, kI, kI, kI, kI, kI, trivial⟩ ⟨?_, ?_, ?_, ?_, ?_, ?_, ?_, ?_, ?_, ?_, ?_, ?_, ?_, ?_, ?_, ?_, ?_, ?_, ?_, trivial⟩ ?_
      ·intro F1 w1 k1 hf hd
       have k0 := (Keep.drew [] wl0).trans k1
       have m1 : Mv Bl0 wl0 Bl0 w1 := Mv.of_keep k0
       have h_l := h_l.mv m1
       obtain ⟨F2, rfl⟩ := lit_of (F := F1) [(0, l_v)] ⟨hf 0 (by kernel_rfl), trivial⟩
       exact sp_plain rfl ((o_move (l_v) rfl (⟨(Keep.refl _ _), h_l⟩)))
      ·intro F1 w1 k1 hf hd
       obtain ⟨F2, rfl⟩ := lit_of (F := F1) [(3, vI ((k : Nat) : Int))] ⟨hf 3 (by kernel_rfl), trivial⟩
       exact sp_plain rfl ((o_move (vI ((k : Nat) : Int)) rfl (⟨(Keep.refl _ _), rfl⟩)))
      ·intro F1 w1 k1 hf hd
       obtain ⟨v1876, e1878, hl1877⟩ : ∃ v, F1 14 = v ∧ RdL Enc.devop w1 (Bl0 ++ O) v (l) := ⟨_, rfl, hd 0 14 (by kernel_rfl)⟩
       have := hl1877.len_le
       obtain ⟨F2, rfl⟩ := lit_of (F := F1) [(14, v1876), (15, vI ((k : Nat) : Int))] ⟨e1878, hd 1 15 (by kernel_rfl), trivial⟩
       exact sp_plain rfl ((o_idx Try.underlying26 s_40 .i64 ((k : Nat) : Int) k rfl rfl rfl hl1877 (by omega) fun a1879 hp1880 => (⟨(Keep.refl _ _), ⟨a1879, rfl, hp1880⟩⟩)))
      ·intro F1 w1 k1 hf hd
       obtain ⟨a1881, e1883, hp1882⟩ : ∃ aX_, F1 16 = .pointer (some aX_) ∧ PT Enc.devop w1 (Bl0 ++ O) (.pointer (some aX_)) (l[k]!) := hd 2 16 (by kernel_rfl)
       obtain ⟨F2, rfl⟩ := lit_of (F := F1) [(16, Value.pointer (some a1881))] ⟨e1883, trivial⟩
       refine sp_plain rfl ((o_loadS Try.underlying40 rfl s_40 rfl hp1882 fun cs1884 hs1885 => (?_)))
       obtain rfl := hs1885
       exact ⟨(Keep.refl _ _), rfl⟩
      ·intro F1 w1 k1 hf hd
       have k0 := (Keep.drew [] wl0).trans k1
       have s1 := sl0.call k0
       obtain ⟨F2, rfl⟩ := lit_of (F := F1) [(17, Value.agg #[vI ((l[k]!).device), vI ((l[k]!).no), vI ((l[k]!).kind), vI ((l[k]!).copy), vI ((l[k]!).to), vI ((l[k]!).token)])] ⟨hd 3 17 (by kernel_rfl), trivial⟩
       refine sp_plain rfl ((o_callK (vs := [Value.agg #[vI ((l[k]!).device), vI ((l[k]!).no), vI ((l[k]!).kind), vI ((l[k]!).copy), vI ((l[k]!).to), vI ((l[k]!).token)]]) enter_67 (c_refValid (O := Bl0 ++ O) [vI ((l[k]!).device), vI ((l[k]!).no), vI ((l[k]!).kind), vI ((l[k]!).copy), vI ((l[k]!).to), vI ((l[k]!).token)] (l[k]!) w1 rfl s1.lt) rfl s1 fun v1886 w1887 s1888 m1889 k1890 r1891 => (?_)))
       obtain rfl := r1891
       exact ⟨k1890, rfl⟩
      ·intro F1 w1 k1 hf hd
       obtain ⟨F2, rfl⟩ := lit_of (F := F1) [(18, Value.bool (validM (l[k]!)))] ⟨hd 4 18 (by kernel_rfl), trivial⟩
       refine sp_plain rfl ((o_not (validM (l[k]!)) rfl (?_)))
       exact ⟨(Keep.refl _ _), congrArg Value.bool (hb1791)⟩
      ·intro F1 w1 k1 hf hd
       obtain ⟨F2, rfl⟩ := lit_of (F := F1) [(19, Value.bool true)] ⟨hd 5 19 (by kernel_rfl), trivial⟩
       exact sp_plain rfl ((o_move (Value.bool true) rfl (⟨(Keep.refl _ _), rfl⟩)))
      ·intro F1 w1 k1 hf hd
       exact sp_skipD rfl rfl (hd 6 20 (by kernel_rfl)) rfl rfl
      ·intro F1 w1 k1 hf hd
       exact sp_skipD rfl rfl (hd 6 20 (by kernel_rfl)) rfl rfl
      ·intro F1 w1 k1 hf hd
       exact sp_skipD rfl rfl (hd 6 20 (by kernel_rfl)) rfl rfl
      ·intro F1 w1 k1 hf hd
       exact sp_undefD rfl rfl (hd 9 23 (by kernel_rfl)) rfl
      ·intro F1 w1 k1 hf hd
       exact sp_undefD rfl rfl (hd 9 23 (by kernel_rfl)) rfl
      ·intro F1 w1 k1 hf hd
       exact sp_undefD rfl rfl (hd 9 23 (by kernel_rfl)) rfl
      ·intro F1 w1 k1 hf hd
       exact sp_undefD rfl rfl (hd 9 23 (by kernel_rfl)) rfl
      ·intro F1 w1 k1 hf hd
       exact sp_undefD rfl rfl (hd 9 23 (by kernel_rfl)) rfl
      ·intro F1 w1 k1 hf hd
       exact sp_undefD rfl rfl (hd 9 23 (by kernel_rfl)) rfl
      ·intro F1 w1 k1 hf hd
       exact sp_undefD rfl rfl (hd 9 23 (by kernel_rfl)) rfl
      ·intro F1 w1 k1 hf hd
       exact sp_undefD rfl rfl (hd 9 23 (by kernel_rfl)) rfl
      ·intro F1 w1 k1 hf hd
       exact sp_undefD rfl rfl (hd 9 23 (by kernel_rfl)) rfl
      intro F1893 w1894 k1892 hT1895 hF1896
      have s1897 := sl0.call k1892
      obtain ⟨F2, rfl⟩ := lit_of (F := F1893) [(0, l_v), (3, vI ((k : Nat) : Int)), (66, undef), (20, Value.bool true), (23, undef)] ⟨hF1896 0 (by kernel_rfl), hF1896 3 (by kernel_rfl), hF1896 66 (by kernel_rfl), hT1895 6 20 (by kernel_rfl) (by decide), hT1895 9 23 (by kernel_rfl) (by decide), trivial⟩
      clear hT1895 hF1896
      refine wl_u rfl (wl_u rfl (wl_k rfl (wl_s (o_pickT (Value.bool true) rfl rfl (wl_nil (thenQ_n (?_)))))))
      refine cw_cond true rfl rfl (fun _ => ?_) (fun h => by cases h)
      refine cw_seq (?_)
      refine cw_region (by kernel_rfl) (wl_s (o_assign (vI (420 : Int)) rfl (wl_nil (thenQ_n (?_)))))
      refine cw_ret (thenQ_r (blockQ_r (thenQ_r (thenQ_r (blockQ_r (thenQ_r (end_r rfl (res1 rfl rfl rfl) (?_))))))))
      have e : (checkM l) = (420 : Int) := by first | exact chk_len (by omega) | exact chk_val (i := k) (by omega) (by assumption) | exact chk_ord (i := k) (by omega) (by omega) (by assumption) | exact chk_num (i := k) (k := j) (by omega) (by omega) (by assumption) (by assumption) | exact chk_ok hr0_1 (by omega)
      exact ⟨_, rfl, s1897.keep, by rw [e]; first | done | exact rfl⟩
    ·intro F wlc4 hI
     clear h_l
     obtain ⟨Blc4, hrc4_0, hrc4_1, hmc4, ⟨Flc4, rfl⟩, slc4, h_l⟩ := hI
     refine cw_seq (?_)
     refine cw_region (by kernel_rfl) (wl_s (o_assign (vI (0 : Int)) rfl (wl_nil (thenQ_n (?_)))))
     refine cw_block (?_)
     refine cw_loop (fun mI FI wI => ∃ (j : Nat) (B : List Nat), j ≤ k ∧ (∀ q, q < j → numM l[q]! ≠ numM l[k]!) ∧ mI = k - j ∧ (∃ F1, FI = upds F1 [(0, l_v), (3, vI ((k : Nat) : Int)), (4, vI ((j : Nat) : Int)), (66, undef)]) ∧ St w O wI B ∧ RdL Enc.devop wI (B ++ O) (l_v) (l)) (k - (0)) ?_ ?_
     ·exact ⟨(0), Blc4, (by omega), (fun q hq => by omega), rfl, ⟨_, upds_self _ ⟨rfl, rfl, (by first | rfl | exact congrArg (Value.int _) (by first | omega | (simp))), rfl, trivial⟩⟩, slc4, h_l⟩
     ·intro ml1 F wl1 hI
      clear h_l
      obtain ⟨j, Bl1, hr1_0, hr1_1, hm1, ⟨Fl1, rfl⟩, sl1, h_l⟩ := hI
      refine cw_seq (?_)
      refine cw_seq (?_)
      refine cw_region (by kernel_rfl) (wl_s (o_move (vI ((j : Nat) : Int)) rfl (wl_s (o_move (vI ((k : Nat) : Int)) rfl (wl_s (o_lss .i64 ((j : Nat) : Int) ((k : Nat) : Int) rfl rfl (wl_nil (thenQ_n (?_)))))))))
      refine cw_cond (decide (((j : Nat) : Int) < ((k : Nat) : Int))) rfl rfl (fun hc1901 => ?_) (fun hc1901 => ?_)
      ·have hp1902 : ((j : Nat) : Int) < ((k : Nat) : Int) := by first | simpa using hc1901 | (have e := hc1901; simp at e; omega)
       refine cw_skip (thenQ_n (?_))
       refine cw_seq (?_)
       refine cw_block (?_)
       refine cw_seq (?_)
       cases hb1903 : (((l[j]!).device) == ((l[k]!).device))
       ·have hp1904 : (l[j]!).device ≠ (l[k]!).device := by first | simpa using hb1903 | (have e := hb1903; simp at e; omega)
        refine cw_draw' 22 _ _ [fun (vT : Value) (wT : World) => RdL Enc.devop wT (Bl1 ++ O) vT (l), isV (vI ((j : Nat) : Int)), fun (vT : Value) (wT : World) => ∃ aT, vT = .pointer (some aT) ∧ PT Enc.devop wT (Bl1 ++ O) (.pointer (some aT)) (l[j]!), fun (vT : Value) (wT : World) => ∃ aT, vT = .pointer (some aT) ∧ PT Enc.int wT (Bl1 ++ O) (.pointer (some aT)) ((l[j]!).device), isV (vI ((l[j]!).device)), fun (vT : Value) (wT : World) => RdL Enc.devop wT (Bl1 ++ O) vT (l), isV (vI ((k : Nat) : Int)), fun (vT : Value) (wT : World) => ∃ aT, vT = .pointer (some aT) ∧ PT Enc.devop wT (Bl1 ++ O) (.pointer (some aT)) (l[k]!), fun (vT : Value) (wT : World) => ∃ aT, vT = .pointer (some aT) ∧ PT Enc.int wT (Bl1 ++ O) (.pointer (some aT)) ((l[k]!).device), isV (vI ((l[k]!).device)), isV (Value.bool false), isV (Value.bool false), isV undef, isV undef, isV undef, isV undef, isV undef, isV undef, isV undef, isV undef, isV undef, isV undef] (by kernel_rfl) (by kernel_rfl) (by kernel_rfl) (by kernel_rfl) rfl rfl ⟨fun _ _ _ h k => h.mv (Mv.of_keep k), kI, fun _ _ _ ⟨a, e, h⟩ k => ⟨a, e, h.mv (Mv.of_keep k)⟩, fun _ _ _ ⟨a, e, h⟩ k => ⟨a, e, h.mv (Mv.of_keep k)⟩, kI, fun _ _ _ h k => h.mv (Mv.of_keep k), kI, fun _ _ _ ⟨a, e, h⟩ k => ⟨a, e, h.mv (Mv.of_keep k)⟩, fun _ _ _ ⟨a, e, h⟩ k => ⟨a, e, h.mv (Mv.of_keep k)⟩, kI, kI, kI, kI, kI, kI, kI, kI, kI, kI, kI, kI, kI, trivial⟩ ⟨?_, ?_, ?_, ?_, ?_, ?_, ?_, ?_, ?_, ?_, ?_, ?_, ?_, ?_, ?_, ?_, ?_, ?_, ?_, ?_, ?_, ?_, trivial⟩ ?_
        ·intro F1 w1 k1 hf hd
         have k0 := (Keep.drew [] wl1).trans k1
         have m1 : Mv Bl1 wl1 Bl1 w1 := Mv.of_keep k0
         have h_l := h_l.mv m1
         obtain ⟨F2, rfl⟩ := lit_of (F := F1) [(0, l_v)] ⟨hf 0 (by kernel_rfl), trivial⟩
         exact sp_plain rfl ((o_move (l_v) rfl (⟨(Keep.refl _ _), h_l⟩)))
        ·intro F1 w1 k1 hf hd
         obtain ⟨F2, rfl⟩ := lit_of (F := F1) [(4, vI ((j : Nat) : Int))] ⟨hf 4 (by kernel_rfl), trivial⟩
         exact sp_plain rfl ((o_move (vI ((j : Nat) : Int)) rfl (⟨(Keep.refl _ _), rfl⟩)))
        ·intro F1 w1 k1 hf hd
         obtain ⟨v1905, e1907, hl1906⟩ : ∃ v, F1 42 = v ∧ RdL Enc.devop w1 (Bl1 ++ O) v (l) := ⟨_, rfl, hd 0 42 (by kernel_rfl)⟩
         have := hl1906.len_le
         obtain ⟨F2, rfl⟩ := lit_of (F := F1) [(42, v1905), (43, vI ((j : Nat) : Int))] ⟨e1907, hd 1 43 (by kernel_rfl), trivial⟩
         exact sp_plain rfl ((o_idx Try.underlying26 s_40 .i64 ((j : Nat) : Int) j rfl rfl rfl hl1906 (by omega) fun a1908 hp1909 => (⟨(Keep.refl _ _), ⟨a1908, rfl, hp1909⟩⟩)))
        ·intro F1 w1 k1 hf hd
         obtain ⟨a1910, e1912, hp1911⟩ : ∃ aX_, F1 44 = .pointer (some aX_) ∧ PT Enc.devop w1 (Bl1 ++ O) (.pointer (some aX_)) (l[j]!) := hd 2 44 (by kernel_rfl)
         obtain ⟨F2, rfl⟩ := lit_of (F := F1) [(44, Value.pointer (some a1910))] ⟨e1912, trivial⟩
         exact sp_plain rfl ((o_fieldR 0 f_40_0 ((l[j]!).device) rfl hp1911 (fun _ _ _ h => Enc_devop_f0 h) fun a1913 hp1914 => (⟨(Keep.refl _ _), ⟨a1913, rfl, hp1914⟩⟩)))
        ·intro F1 w1 k1 hf hd
         obtain ⟨a1915, e1917, hp1916⟩ : ∃ aX_, F1 45 = .pointer (some aX_) ∧ PT Enc.int w1 (Bl1 ++ O) (.pointer (some aX_)) ((l[j]!).device) := hd 3 45 (by kernel_rfl)
         obtain ⟨F2, rfl⟩ := lit_of (F := F1) [(45, Value.pointer (some a1915))] ⟨e1917, trivial⟩
         exact sp_plain rfl ((o_loadI Try.underlying3 rfl rfl hp1916 (⟨(Keep.refl _ _), rfl⟩)))
        ·intro F1 w1 k1 hf hd
         have k0 := (Keep.drew [] wl1).trans k1
         have m1 : Mv Bl1 wl1 Bl1 w1 := Mv.of_keep k0
         have h_l := h_l.mv m1
         obtain ⟨F2, rfl⟩ := lit_of (F := F1) [(0, l_v)] ⟨hf 0 (by kernel_rfl), trivial⟩
         exact sp_plain rfl ((o_move (l_v) rfl (⟨(Keep.refl _ _), h_l⟩)))
        ·intro F1 w1 k1 hf hd
         obtain ⟨F2, rfl⟩ := lit_of (F := F1) [(3, vI ((k : Nat) : Int))] ⟨hf 3 (by kernel_rfl), trivial⟩
         exact sp_plain rfl ((o_move (vI ((k : Nat) : Int)) rfl (⟨(Keep.refl _ _), rfl⟩)))
        ·intro F1 w1 k1 hf hd
         obtain ⟨v1918, e1920, hl1919⟩ : ∃ v, F1 47 = v ∧ RdL Enc.devop w1 (Bl1 ++ O) v (l) := ⟨_, rfl, hd 5 47 (by kernel_rfl)⟩
         have := hl1919.len_le
         obtain ⟨F2, rfl⟩ := lit_of (F := F1) [(47, v1918), (48, vI ((k : Nat) : Int))] ⟨e1920, hd 6 48 (by kernel_rfl), trivial⟩
         exact sp_plain rfl ((o_idx Try.underlying26 s_40 .i64 ((k : Nat) : Int) k rfl rfl rfl hl1919 (by omega) fun a1921 hp1922 => (⟨(Keep.refl _ _), ⟨a1921, rfl, hp1922⟩⟩)))
        ·intro F1 w1 k1 hf hd
         obtain ⟨a1923, e1925, hp1924⟩ : ∃ aX_, F1 49 = .pointer (some aX_) ∧ PT Enc.devop w1 (Bl1 ++ O) (.pointer (some aX_)) (l[k]!) := hd 7 49 (by kernel_rfl)
         obtain ⟨F2, rfl⟩ := lit_of (F := F1) [(49, Value.pointer (some a1923))] ⟨e1925, trivial⟩
         exact sp_plain rfl ((o_fieldR 0 f_40_0 ((l[k]!).device) rfl hp1924 (fun _ _ _ h => Enc_devop_f0 h) fun a1926 hp1927 => (⟨(Keep.refl _ _), ⟨a1926, rfl, hp1927⟩⟩)))
        ·intro F1 w1 k1 hf hd
         obtain ⟨a1928, e1930, hp1929⟩ : ∃ aX_, F1 50 = .pointer (some aX_) ∧ PT Enc.int w1 (Bl1 ++ O) (.pointer (some aX_)) ((l[k]!).device) := hd 8 50 (by kernel_rfl)
         obtain ⟨F2, rfl⟩ := lit_of (F := F1) [(50, Value.pointer (some a1928))] ⟨e1930, trivial⟩
         exact sp_plain rfl ((o_loadI Try.underlying3 rfl rfl hp1929 (⟨(Keep.refl _ _), rfl⟩)))
        ·intro F1 w1 k1 hf hd
         obtain ⟨F2, rfl⟩ := lit_of (F := F1) [(46, vI ((l[j]!).device)), (51, vI ((l[k]!).device))] ⟨hd 4 46 (by kernel_rfl), hd 9 51 (by kernel_rfl), trivial⟩
         refine sp_plain rfl ((o_eql .i64 ((l[j]!).device) ((l[k]!).device) rfl rfl (?_)))
         exact ⟨(Keep.refl _ _), congrArg Value.bool (hb1903)⟩
        ·intro F1 w1 k1 hf hd
         obtain ⟨F2, rfl⟩ := lit_of (F := F1) [(52, Value.bool false)] ⟨hd 10 52 (by kernel_rfl), trivial⟩
         exact sp_plain rfl ((o_move (Value.bool false) rfl (⟨(Keep.refl _ _), rfl⟩)))
        ·intro F1 w1 k1 hf hd
         exact sp_skipD rfl rfl (hd 11 53 (by kernel_rfl)) rfl rfl
        ·intro F1 w1 k1 hf hd
         exact sp_skipD rfl rfl (hd 11 53 (by kernel_rfl)) rfl rfl
        ·intro F1 w1 k1 hf hd
         exact sp_skipD rfl rfl (hd 11 53 (by kernel_rfl)) rfl rfl
        ·intro F1 w1 k1 hf hd
         exact sp_skipD rfl rfl (hd 11 53 (by kernel_rfl)) rfl rfl
        ·intro F1 w1 k1 hf hd
         exact sp_skipD rfl rfl (hd 11 53 (by kernel_rfl)) rfl rfl
        ·intro F1 w1 k1 hf hd
         exact sp_skipD rfl rfl (hd 11 53 (by kernel_rfl)) rfl rfl
        ·intro F1 w1 k1 hf hd
         exact sp_skipD rfl rfl (hd 11 53 (by kernel_rfl)) rfl rfl
        ·intro F1 w1 k1 hf hd
         exact sp_skipD rfl rfl (hd 11 53 (by kernel_rfl)) rfl rfl
        ·intro F1 w1 k1 hf hd
         exact sp_skipD rfl rfl (hd 11 53 (by kernel_rfl)) rfl rfl
        ·intro F1 w1 k1 hf hd
         exact sp_skipD rfl rfl (hd 11 53 (by kernel_rfl)) rfl rfl
        intro F1932 w1933 k1931 hT1934 hF1935
        have s1936 := sl1.call k1931
        have m1937 : Mv Bl1 wl1 Bl1 w1933 := Mv.of_keep k1931
        have h_l := h_l.mv m1937
        obtain ⟨F2, rfl⟩ := lit_of (F := F1932) [(0, l_v), (3, vI ((k : Nat) : Int)), (4, vI ((j : Nat) : Int)), (66, undef), (53, Value.bool false)] ⟨hF1935 0 (by kernel_rfl), hF1935 3 (by kernel_rfl), hF1935 4 (by kernel_rfl), hF1935 66 (by kernel_rfl), hT1934 11 53 (by kernel_rfl) (by decide), trivial⟩
        clear hT1934 hF1935
        refine wl_k rfl (wl_s (o_pickF (Value.bool false) rfl rfl (wl_nil (thenQ_n (?_)))))
        refine cw_cond false rfl rfl (fun h => by cases h) (fun _ => ?_)
        refine cw_skip (blockQ_n (thenQ_n (?_)))
        refine cw_region (by kernel_rfl) (wl_s (o_move (vI ((j : Nat) : Int)) rfl (wl_s (o_add .i64 ((j : Nat) : Int) (1 : Int) (((j + 1 : Nat) : Int)) rfl rfl (w64 (by omega) (by omega)) (wl_s (o_assign (vI ((j + 1 : Nat) : Int)) rfl (wl_nil (thenQ_n (?_)))))))))
        exact ⟨_, (by omega), (j + 1), Bl1, (by omega), (num_step hr1_1 (by first | exact num_ne1 (by assumption) | exact num_ne2 (by assumption))), rfl, ⟨_, upds_self _ ⟨rfl, rfl, (by first | rfl | exact congrArg (Value.int _) (by first | omega | (simp))), rfl, trivial⟩⟩, s1936, h_l⟩
       ·have hp1940 : (l[j]!).device = (l[k]!).device := by first | simpa using hb1903 | (have e := hb1903; simp at e; omega)
        refine cw_draw' 22 _ _ [fun (vT : Value) (wT : World) => RdL Enc.devop wT (Bl1 ++ O) vT (l), isV (vI ((j : Nat) : Int)), fun (vT : Value) (wT : World) => ∃ aT, vT = .pointer (some aT) ∧ PT Enc.devop wT (Bl1 ++ O) (.pointer (some aT)) (l[j]!), fun (vT : Value) (wT : World) => ∃ aT, vT = .pointer (some aT) ∧ PT Enc.int wT (Bl1 ++ O) (.pointer (some aT)) ((l[j]!).device), isV (vI ((l[j]!).device)), fun (vT : Value) (wT : World) => RdL Enc.devop wT (Bl1 ++ O) vT (l), isV (vI ((k : Nat) : Int)), fun (vT : Value) (wT : World) => ∃ aT, vT = .pointer (some aT) ∧ PT Enc.devop wT (Bl1 ++ O) (.pointer (some aT)) (l[k]!), fun (vT : Value) (wT : World) => ∃ aT, vT = .pointer (some aT) ∧ PT Enc.int wT (Bl1 ++ O) (.pointer (some aT)) ((l[k]!).device), isV (vI ((l[k]!).device)), isV (Value.bool true), isV (Value.bool true), fun (vT : Value) (wT : World) => RdL Enc.devop wT (Bl1 ++ O) vT (l), isV (vI ((j : Nat) : Int)), fun (vT : Value) (wT : World) => ∃ aT, vT = .pointer (some aT) ∧ PT Enc.devop wT (Bl1 ++ O) (.pointer (some aT)) (l[j]!), fun (vT : Value) (wT : World) => ∃ aT, vT = .pointer (some aT) ∧ PT Enc.int wT (Bl1 ++ O) (.pointer (some aT)) ((l[j]!).no), isV (vI ((l[j]!).no)), fun (vT : Value) (wT : World) => RdL Enc.devop wT (Bl1 ++ O) vT (l), isV (vI ((k : Nat) : Int)), fun (vT : Value) (wT : World) => ∃ aT, vT = .pointer (some aT) ∧ PT Enc.devop wT (Bl1 ++ O) (.pointer (some aT)) (l[k]!), fun (vT : Value) (wT : World) => ∃ aT, vT = .pointer (some aT) ∧ PT Enc.int wT (Bl1 ++ O) (.pointer (some aT)) ((l[k]!).no), isV (vI ((l[k]!).no))] (by kernel_rfl) (by kernel_rfl) (by kernel_rfl) (by kernel_rfl) rfl rfl ⟨fun _ _ _ h k => h.mv (Mv.of_keep k), kI, fun _ _ _ ⟨a, e, h⟩ k => ⟨a, e, h.mv (Mv.of_keep k)⟩, fun _ _ _ ⟨a, e, h⟩ k => ⟨a, e, h.mv (Mv.of_keep k)⟩, kI, fun _ _ _ h k => h.mv (Mv.of_keep k), kI, fun _ _ _ ⟨a, e, h⟩ k => ⟨a, e, h.mv (Mv.of_keep k)⟩, fun _ _ _ ⟨a, e, h⟩ k => ⟨a, e, h.mv (Mv.of_keep k)⟩, kI, kI, kI, fun _ _ _ h k => h.mv (Mv.of_keep k), kI, fun _ _ _ ⟨a, e, h⟩ k => ⟨a, e, h.mv (Mv.of_keep k)⟩, fun _ _ _ ⟨a, e, h⟩ k => ⟨a, e, h.mv (Mv.of_keep k)⟩, kI, fun _ _ _ h k => h.mv (Mv.of_keep k), kI, fun _ _ _ ⟨a, e, h⟩ k => ⟨a, e, h.mv (Mv.of_keep k)⟩, fun _ _ _ ⟨a, e, h⟩ k => ⟨a, e, h.mv (Mv.of_keep k)⟩, kI, trivial⟩ ⟨?_, ?_, ?_, ?_, ?_, ?_, ?_, ?_, ?_, ?_, ?_, ?_, ?_, ?_, ?_, ?_, ?_, ?_, ?_, ?_, ?_, ?_, trivial⟩ ?_
        ·intro F1 w1 k1 hf hd
         have k0 := (Keep.drew [] wl1).trans k1
         have m1 : Mv Bl1 wl1 Bl1 w1 := Mv.of_keep k0
         have h_l := h_l.mv m1
         obtain ⟨F2, rfl⟩ := lit_of (F := F1) [(0, l_v)] ⟨hf 0 (by kernel_rfl), trivial⟩
         exact sp_plain rfl ((o_move (l_v) rfl (⟨(Keep.refl _ _), h_l⟩)))
        ·intro F1 w1 k1 hf hd
         obtain ⟨F2, rfl⟩ := lit_of (F := F1) [(4, vI ((j : Nat) : Int))] ⟨hf 4 (by kernel_rfl), trivial⟩
         exact sp_plain rfl ((o_move (vI ((j : Nat) : Int)) rfl (⟨(Keep.refl _ _), rfl⟩)))
        ·intro F1 w1 k1 hf hd
         obtain ⟨v1941, e1943, hl1942⟩ : ∃ v, F1 42 = v ∧ RdL Enc.devop w1 (Bl1 ++ O) v (l) := ⟨_, rfl, hd 0 42 (by kernel_rfl)⟩
         have := hl1942.len_le
         obtain ⟨F2, rfl⟩ := lit_of (F := F1) [(42, v1941), (43, vI ((j : Nat) : Int))] ⟨e1943, hd 1 43 (by kernel_rfl), trivial⟩
         exact sp_plain rfl ((o_idx Try.underlying26 s_40 .i64 ((j : Nat) : Int) j rfl rfl rfl hl1942 (by omega) fun a1944 hp1945 => (⟨(Keep.refl _ _), ⟨a1944, rfl, hp1945⟩⟩)))
        ·intro F1 w1 k1 hf hd
         obtain ⟨a1946, e1948, hp1947⟩ : ∃ aX_, F1 44 = .pointer (some aX_) ∧ PT Enc.devop w1 (Bl1 ++ O) (.pointer (some aX_)) (l[j]!) := hd 2 44 (by kernel_rfl)
         obtain ⟨F2, rfl⟩ := lit_of (F := F1) [(44, Value.pointer (some a1946))] ⟨e1948, trivial⟩
         exact sp_plain rfl ((o_fieldR 0 f_40_0 ((l[j]!).device) rfl hp1947 (fun _ _ _ h => Enc_devop_f0 h) fun a1949 hp1950 => (⟨(Keep.refl _ _), ⟨a1949, rfl, hp1950⟩⟩)))
        ·intro F1 w1 k1 hf hd
         obtain ⟨a1951, e1953, hp1952⟩ : ∃ aX_, F1 45 = .pointer (some aX_) ∧ PT Enc.int w1 (Bl1 ++ O) (.pointer (some aX_)) ((l[j]!).device) := hd 3 45 (by kernel_rfl)
         obtain ⟨F2, rfl⟩ := lit_of (F := F1) [(45, Value.pointer (some a1951))] ⟨e1953, trivial⟩
         exact sp_plain rfl ((o_loadI Try.underlying3 rfl rfl hp1952 (⟨(Keep.refl _ _), rfl⟩)))
        ·intro F1 w1 k1 hf hd
         have k0 := (Keep.drew [] wl1).trans k1
         have m1 : Mv Bl1 wl1 Bl1 w1 := Mv.of_keep k0
         have h_l := h_l.mv m1
         obtain ⟨F2, rfl⟩ := lit_of (F := F1) [(0, l_v)] ⟨hf 0 (by kernel_rfl), trivial⟩
         exact sp_plain rfl ((o_move (l_v) rfl (⟨(Keep.refl _ _), h_l⟩)))
        ·intro F1 w1 k1 hf hd
         obtain ⟨F2, rfl⟩ := lit_of (F := F1) [(3, vI ((k : Nat) : Int))] ⟨hf 3 (by kernel_rfl), trivial⟩
         exact sp_plain rfl ((o_move (vI ((k : Nat) : Int)) rfl (⟨(Keep.refl _ _), rfl⟩)))
        ·intro F1 w1 k1 hf hd
         obtain ⟨v1954, e1956, hl1955⟩ : ∃ v, F1 47 = v ∧ RdL Enc.devop w1 (Bl1 ++ O) v (l) := ⟨_, rfl, hd 5 47 (by kernel_rfl)⟩
         have := hl1955.len_le
         obtain ⟨F2, rfl⟩ := lit_of (F := F1) [(47, v1954), (48, vI ((k : Nat) : Int))] ⟨e1956, hd 6 48 (by kernel_rfl), trivial⟩
         exact sp_plain rfl ((o_idx Try.underlying26 s_40 .i64 ((k : Nat) : Int) k rfl rfl rfl hl1955 (by omega) fun a1957 hp1958 => (⟨(Keep.refl _ _), ⟨a1957, rfl, hp1958⟩⟩)))
        ·intro F1 w1 k1 hf hd
         obtain ⟨a1959, e1961, hp1960⟩ : ∃ aX_, F1 49 = .pointer (some aX_) ∧ PT Enc.devop w1 (Bl1 ++ O) (.pointer (some aX_)) (l[k]!) := hd 7 49 (by kernel_rfl)
         obtain ⟨F2, rfl⟩ := lit_of (F := F1) [(49, Value.pointer (some a1959))] ⟨e1961, trivial⟩
         exact sp_plain rfl ((o_fieldR 0 f_40_0 ((l[k]!).device) rfl hp1960 (fun _ _ _ h => Enc_devop_f0 h) fun a1962 hp1963 => (⟨(Keep.refl _ _), ⟨a1962, rfl, hp1963⟩⟩)))
        ·intro F1 w1 k1 hf hd
         obtain ⟨a1964, e1966, hp1965⟩ : ∃ aX_, F1 50 = .pointer (some aX_) ∧ PT Enc.int w1 (Bl1 ++ O) (.pointer (some aX_)) ((l[k]!).device) := hd 8 50 (by kernel_rfl)
         obtain ⟨F2, rfl⟩ := lit_of (F := F1) [(50, Value.pointer (some a1964))] ⟨e1966, trivial⟩
         exact sp_plain rfl ((o_loadI Try.underlying3 rfl rfl hp1965 (⟨(Keep.refl _ _), rfl⟩)))
        ·intro F1 w1 k1 hf hd
         obtain ⟨F2, rfl⟩ := lit_of (F := F1) [(46, vI ((l[j]!).device)), (51, vI ((l[k]!).device))] ⟨hd 4 46 (by kernel_rfl), hd 9 51 (by kernel_rfl), trivial⟩
         refine sp_plain rfl ((o_eql .i64 ((l[j]!).device) ((l[k]!).device) rfl rfl (?_)))
         exact ⟨(Keep.refl _ _), congrArg Value.bool (hb1903)⟩
        ·intro F1 w1 k1 hf hd
         obtain ⟨F2, rfl⟩ := lit_of (F := F1) [(52, Value.bool true)] ⟨hd 10 52 (by kernel_rfl), trivial⟩
         exact sp_plain rfl ((o_move (Value.bool true) rfl (⟨(Keep.refl _ _), rfl⟩)))
        ·intro F1 w1 k1 hf hd
         have k0 := (Keep.drew [] wl1).trans k1
         have m1 : Mv Bl1 wl1 Bl1 w1 := Mv.of_keep k0
         have h_l := h_l.mv m1
         obtain ⟨F2, rfl⟩ := lit_of (F := F1) [(0, l_v), (53, Value.bool true)] ⟨hf 0 (by kernel_rfl), hd 11 53 (by kernel_rfl), trivial⟩
         exact sp_take rfl rfl ((o_move (l_v) rfl (⟨(Keep.refl _ _), h_l⟩)))
        ·intro F1 w1 k1 hf hd
         obtain ⟨F2, rfl⟩ := lit_of (F := F1) [(4, vI ((j : Nat) : Int)), (53, Value.bool true)] ⟨hf 4 (by kernel_rfl), hd 11 53 (by kernel_rfl), trivial⟩
         exact sp_take rfl rfl ((o_move (vI ((j : Nat) : Int)) rfl (⟨(Keep.refl _ _), rfl⟩)))
        ·intro F1 w1 k1 hf hd
         obtain ⟨v1967, e1969, hl1968⟩ : ∃ v, F1 54 = v ∧ RdL Enc.devop w1 (Bl1 ++ O) v (l) := ⟨_, rfl, hd 12 54 (by kernel_rfl)⟩
         have := hl1968.len_le
         obtain ⟨F2, rfl⟩ := lit_of (F := F1) [(53, Value.bool true), (54, v1967), (55, vI ((j : Nat) : Int))] ⟨hd 11 53 (by kernel_rfl), e1969, hd 13 55 (by kernel_rfl), trivial⟩
         exact sp_take rfl rfl ((o_idx Try.underlying26 s_40 .i64 ((j : Nat) : Int) j rfl rfl rfl hl1968 (by omega) fun a1970 hp1971 => (⟨(Keep.refl _ _), ⟨a1970, rfl, hp1971⟩⟩)))
        ·intro F1 w1 k1 hf hd
         obtain ⟨a1972, e1974, hp1973⟩ : ∃ aX_, F1 56 = .pointer (some aX_) ∧ PT Enc.devop w1 (Bl1 ++ O) (.pointer (some aX_)) (l[j]!) := hd 14 56 (by kernel_rfl)
         obtain ⟨F2, rfl⟩ := lit_of (F := F1) [(53, Value.bool true), (56, Value.pointer (some a1972))] ⟨hd 11 53 (by kernel_rfl), e1974, trivial⟩
         exact sp_take rfl rfl ((o_fieldR 1 f_40_1 ((l[j]!).no) rfl hp1973 (fun _ _ _ h => Enc_devop_f1 h) fun a1975 hp1976 => (⟨(Keep.refl _ _), ⟨a1975, rfl, hp1976⟩⟩)))
        ·intro F1 w1 k1 hf hd
         obtain ⟨a1977, e1979, hp1978⟩ : ∃ aX_, F1 57 = .pointer (some aX_) ∧ PT Enc.int w1 (Bl1 ++ O) (.pointer (some aX_)) ((l[j]!).no) := hd 15 57 (by kernel_rfl)
         obtain ⟨F2, rfl⟩ := lit_of (F := F1) [(53, Value.bool true), (57, Value.pointer (some a1977))] ⟨hd 11 53 (by kernel_rfl), e1979, trivial⟩
         exact sp_take rfl rfl ((o_loadI Try.underlying3 rfl rfl hp1978 (⟨(Keep.refl _ _), rfl⟩)))
        ·intro F1 w1 k1 hf hd
         have k0 := (Keep.drew [] wl1).trans k1
         have m1 : Mv Bl1 wl1 Bl1 w1 := Mv.of_keep k0
         have h_l := h_l.mv m1
         obtain ⟨F2, rfl⟩ := lit_of (F := F1) [(0, l_v), (53, Value.bool true)] ⟨hf 0 (by kernel_rfl), hd 11 53 (by kernel_rfl), trivial⟩
         exact sp_take rfl rfl ((o_move (l_v) rfl (⟨(Keep.refl _ _), h_l⟩)))
        ·intro F1 w1 k1 hf hd
         obtain ⟨F2, rfl⟩ := lit_of (F := F1) [(3, vI ((k : Nat) : Int)), (53, Value.bool true)] ⟨hf 3 (by kernel_rfl), hd 11 53 (by kernel_rfl), trivial⟩
         exact sp_take rfl rfl ((o_move (vI ((k : Nat) : Int)) rfl (⟨(Keep.refl _ _), rfl⟩)))
        ·intro F1 w1 k1 hf hd
         obtain ⟨v1980, e1982, hl1981⟩ : ∃ v, F1 59 = v ∧ RdL Enc.devop w1 (Bl1 ++ O) v (l) := ⟨_, rfl, hd 17 59 (by kernel_rfl)⟩
         have := hl1981.len_le
         obtain ⟨F2, rfl⟩ := lit_of (F := F1) [(53, Value.bool true), (59, v1980), (60, vI ((k : Nat) : Int))] ⟨hd 11 53 (by kernel_rfl), e1982, hd 18 60 (by kernel_rfl), trivial⟩
         exact sp_take rfl rfl ((o_idx Try.underlying26 s_40 .i64 ((k : Nat) : Int) k rfl rfl rfl hl1981 (by omega) fun a1983 hp1984 => (⟨(Keep.refl _ _), ⟨a1983, rfl, hp1984⟩⟩)))
        ·intro F1 w1 k1 hf hd
         obtain ⟨a1985, e1987, hp1986⟩ : ∃ aX_, F1 61 = .pointer (some aX_) ∧ PT Enc.devop w1 (Bl1 ++ O) (.pointer (some aX_)) (l[k]!) := hd 19 61 (by kernel_rfl)
         obtain ⟨F2, rfl⟩ := lit_of (F := F1) [(53, Value.bool true), (61, Value.pointer (some a1985))] ⟨hd 11 53 (by kernel_rfl), e1987, trivial⟩
         exact sp_take rfl rfl ((o_fieldR 1 f_40_1 ((l[k]!).no) rfl hp1986 (fun _ _ _ h => Enc_devop_f1 h) fun a1988 hp1989 => (⟨(Keep.refl _ _), ⟨a1988, rfl, hp1989⟩⟩)))
        ·intro F1 w1 k1 hf hd
         obtain ⟨a1990, e1992, hp1991⟩ : ∃ aX_, F1 62 = .pointer (some aX_) ∧ PT Enc.int w1 (Bl1 ++ O) (.pointer (some aX_)) ((l[k]!).no) := hd 20 62 (by kernel_rfl)
         obtain ⟨F2, rfl⟩ := lit_of (F := F1) [(53, Value.bool true), (62, Value.pointer (some a1990))] ⟨hd 11 53 (by kernel_rfl), e1992, trivial⟩
         exact sp_take rfl rfl ((o_loadI Try.underlying3 rfl rfl hp1991 (⟨(Keep.refl _ _), rfl⟩)))
        intro F1994 w1995 k1993 hT1996 hF1997
        have s1998 := sl1.call k1993
        have m1999 : Mv Bl1 wl1 Bl1 w1995 := Mv.of_keep k1993
        have h_l := h_l.mv m1999
        obtain ⟨F2, rfl⟩ := lit_of (F := F1994) [(0, l_v), (3, vI ((k : Nat) : Int)), (4, vI ((j : Nat) : Int)), (66, undef), (53, Value.bool true), (58, vI ((l[j]!).no)), (63, vI ((l[k]!).no))] ⟨hF1997 0 (by kernel_rfl), hF1997 3 (by kernel_rfl), hF1997 4 (by kernel_rfl), hF1997 66 (by kernel_rfl), hT1996 11 53 (by kernel_rfl) (by decide), hT1996 16 58 (by kernel_rfl) (by decide), hT1996 21 63 (by kernel_rfl) (by decide), trivial⟩
        clear hT1996 hF1997
        refine wl_t rfl (o_eql .i64 ((l[j]!).no) ((l[k]!).no) rfl rfl (wl_s (o_pickT (Value.bool (((l[j]!).no) == ((l[k]!).no))) rfl rfl (wl_nil (thenQ_n (?_))))))
        refine cw_cond (((l[j]!).no) == ((l[k]!).no)) rfl rfl (fun hc2002 => ?_) (fun hc2002 => ?_)
        ·have hp2003 : (l[j]!).no = (l[k]!).no := by first | simpa using hc2002 | (have e := hc2002; simp at e; omega)
         refine cw_seq (?_)
         refine cw_region (by kernel_rfl) (wl_s (o_assign (vI (420 : Int)) rfl (wl_nil (thenQ_n (?_)))))
         refine cw_ret (blockQ_r (thenQ_r (thenQ_r (blockQ_r (blockQ_r (thenQ_r (thenQ_r (blockQ_r (thenQ_r (end_r rfl (res1 rfl rfl rfl) (?_)))))))))))
         have e : (checkM l) = (420 : Int) := by first | exact chk_len (by omega) | exact chk_val (i := k) (by omega) (by assumption) | exact chk_ord (i := k) (by omega) (by omega) (by assumption) | exact chk_num (i := k) (k := j) (by omega) (by omega) (by assumption) (by assumption) | exact chk_ok hr0_1 (by omega)
         exact ⟨_, rfl, s1998.keep, by rw [e]; first | done | exact rfl⟩
        ·have hp2004 : (l[j]!).no ≠ (l[k]!).no := by first | simpa using hc2002 | (have e := hc2002; simp at e; omega)
         refine cw_skip (blockQ_n (thenQ_n (?_)))
         refine cw_region (by kernel_rfl) (wl_s (o_move (vI ((j : Nat) : Int)) rfl (wl_s (o_add .i64 ((j : Nat) : Int) (1 : Int) (((j + 1 : Nat) : Int)) rfl rfl (w64 (by omega) (by omega)) (wl_s (o_assign (vI ((j + 1 : Nat) : Int)) rfl (wl_nil (thenQ_n (?_)))))))))
         exact ⟨_, (by omega), (j + 1), Bl1, (by omega), (num_step hr1_1 (by first | exact num_ne1 (by assumption) | exact num_ne2 (by assumption))), rfl, ⟨_, upds_self _ ⟨rfl, rfl, (by first | rfl | exact congrArg (Value.int _) (by first | omega | (simp))), rfl, trivial⟩⟩, s1998, h_l⟩
      ·have hp2005 : ((k : Nat) : Int) ≤ ((j : Nat) : Int) := by first | simpa using hc1901 | (have e := hc1901; simp at e; omega)
       refine cw_exit (thenQ_x (thenQ_x (blockQ_x (blockQ_n (thenQ_n (?_))))))
       refine cw_region (by kernel_rfl) (wl_s (o_move (vI ((k : Nat) : Int)) rfl (wl_s (o_add .i64 ((k : Nat) : Int) (1 : Int) (((k + 1 : Nat) : Int)) rfl rfl (w64 (by omega) (by omega)) (wl_s (o_assign (vI ((k + 1 : Nat) : Int)) rfl (wl_nil (thenQ_n (?_)))))))))
       exact ⟨_, (by omega), (k + 1), Bl1, (by omega), (pre_step hr0_1 hrc4_0 hrc4_1 (fun q hq => hr1_1 q (by omega))), rfl, ⟨_, upds_self _ ⟨rfl, (by first | rfl | exact congrArg (Value.int _) (by first | omega | (simp))), rfl, trivial⟩⟩, sl1, h_l⟩
   ·have hp2006 : (l.length : Int) ≤ ((k : Nat) : Int) := by first | simpa using hc1789 | (have e := hc1789; simp at e; omega)
    obtain rfl : k = l.length := by omega
    refine cw_exit (thenQ_x (thenQ_x (blockQ_x (thenQ_n (?_)))))
    refine cw_seq (?_)
    refine cw_region (by kernel_rfl) (wl_s (o_assign (vI (0 : Int)) rfl (wl_nil (thenQ_n (?_)))))
    refine cw_ret (end_r rfl (res1 rfl rfl rfl) (?_))
    have e : (checkM l) = (0 : Int) := by first | exact chk_len (by omega) | exact chk_val (i := k) (by omega) (by assumption) | exact chk_ord (i := k) (by omega) (by omega) (by assumption) | exact chk_num (i := k) (k := j) (by omega) (by omega) (by assumption) (by assumption) | exact chk_ok hr0_1 (by omega)
    exact ⟨_, rfl, sl0.keep, by rw [e]; first | done | exact rfl⟩

end Go.Proofs.Ytjpniibleelgiaa
