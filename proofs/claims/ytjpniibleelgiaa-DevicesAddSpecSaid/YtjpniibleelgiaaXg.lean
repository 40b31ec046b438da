/- Walks, printed by gen.py. -/
import Derived.Test.YtjpniibleelgiaaXc
import Derived.Test.YtjpniibleelgiaaFwZ
import Derived.Test.YtjpniibleelgiaaMdC
set_option linter.unusedSimpArgs false
set_option linter.unusedVariables false
namespace Go.Proofs.Ytjpniibleelgiaa
open Go.Fw Go.RowKit

set_option maxHeartbeats 4000000 in
set_option maxRecDepth 100000 in
theorem c_in {O : List Nat} (n : Int) (least : Int) (most : Int) (w : World) (hO : ∀ b ∈ O, b < w.heap.size) : CallsK Try.prog 74 [vI n, vI least, vI most] w (fun v _ => v = .bool (inD n least most)) :=  by
 have s0 : St w O w [] := St.start hO
 refine callsK_of 15 Try.func74 rfl rfl (of_decide_eq_true rfl) (fun F0 => ?_)
 refine cw_seq (?_)
 refine cw_region (by kernel_rfl) (wl_s (o_assign (Value.bool false) rfl (wl_nil (thenQ_n (?_)))))
 refine cw_seq (?_)
 refine cw_region (by kernel_rfl) (wl_s (o_move (vI n) rfl (wl_s (o_move (vI least) rfl (wl_s (o_geq .i64 n least rfl rfl (wl_s (o_move (Value.bool (decide (least ≤ n))) rfl (?_)))))))))
 cases hb1478 : (decide (least ≤ n))
 ·have hp1479 : n < least := by first | simpa using hb1478 | (have e := hb1478; simp at e; omega)
  refine wl_k rfl (wl_k rfl (wl_k rfl (wl_s (o_pickF (Value.bool false) rfl rfl (wl_s (o_assign (Value.bool false) rfl (wl_nil (thenQ_n (?_)))))))))
  refine cw_ret (end_r rfl (res1 rfl rfl rfl) (?_))
  have e : (inD n least most) = false := by simp [inD, *]
  exact ⟨_, rfl, s0.keep, by rw [e]; exact rfl⟩
 ·have hp1480 : least ≤ n := by first | simpa using hb1478 | (have e := hb1478; simp at e; omega)
  refine wl_t rfl (o_move (vI n) rfl (wl_t rfl (o_move (vI most) rfl (wl_t rfl (o_leq .i64 n most rfl rfl (wl_s (o_pickT (Value.bool (decide (n ≤ most))) rfl rfl (wl_s (o_assign (Value.bool (decide (n ≤ most))) rfl (wl_nil (thenQ_n (?_))))))))))))
  refine cw_ret (end_r rfl (res1 rfl rfl rfl) (?_))
  have e : (inD n least most) = (decide (n ≤ most)) := by simp [inD, *]
  exact ⟨_, rfl, s0.keep, by rw [e]; exact rfl⟩
set_option maxHeartbeats 4000000 in
set_option maxRecDepth 100000 in
theorem c_refDev {O : List Nat} (n : Int) (w : World) (hO : ∀ b ∈ O, b < w.heap.size) : CallsK Try.prog 75 [vI n] w (fun v _ => v = .bool (isDevM n)) :=  by
 have s0 : St w O w [] := St.start hO
 refine callsK_of 5 Try.func75 rfl rfl (of_decide_eq_true rfl) (fun F0 => ?_)
 refine cw_seq (?_)
 refine cw_region (by kernel_rfl) (wl_s (o_assign (Value.bool false) rfl (wl_nil (thenQ_n (?_)))))
 refine cw_seq (?_)
 refine cw_region (by kernel_rfl) (wl_s (o_move (vI n) rfl (wl_s (o_callK (vs := [vI n, vI (0 : Int), vI (3 : Int)]) enter_74 (c_in (O := [] ++ O) n (0 : Int) (3 : Int) w s0.lt) rfl s0 fun v1481 w1482 s1483 m1484 k1485 r1486 => (?_)))))
 obtain rfl := r1486
 refine wl_s (o_assign (Value.bool (inD n (0 : Int) (3 : Int))) rfl (wl_nil (thenQ_n (?_))))
 refine cw_ret (end_r rfl (res1 rfl rfl rfl) (?_))
 have e : (isDevM n) = (inD n (0 : Int) (3 : Int)) := by exact dev_in n
 exact ⟨_, rfl, s1483.keep, by rw [e]; exact rfl⟩
set_option maxHeartbeats 4000000 in
set_option maxRecDepth 100000 in
theorem c_refValid {O : List Nat} (o_cs : List Value) (o : DeviceOp) (w : World) (h_o : Enc.devop.rd w O o_cs o) (hO : ∀ b ∈ O, b < w.heap.size) : CallsK Try.prog 67 [.agg o_cs.toArray] w (fun v _ => v = .bool (validM o)) :=  by
 obtain rfl := h_o
 have s0 : St w O w [] := St.start hO
 refine callsK_of 43 Try.func67 rfl rfl (of_decide_eq_true rfl) (fun F0 => ?_)
 refine cw_seq (?_)
 refine cw_region (by kernel_rfl) (wl_s (o_boxR (E := Enc.devop) (Value.agg #[vI o.device, vI o.no, vI o.kind, vI o.copy, vI o.to, vI o.token]) ([vI o.device, vI o.no, vI o.kind, vI o.copy, vI o.to, vI o.token]) o rfl rfl rfl s0 fun a1487 w1488 s1489 m1490 k1491 hp1492 => (?_)))
 refine wl_s (o_assign (Value.bool false) rfl (wl_nil (thenQ_n (?_))))
 refine cw_seq (?_)
 refine cw_seq (?_)
 refine cw_region (by kernel_rfl) (wl_s (o_fieldR 0 f_40_0 (o.device) rfl hp1492 (fun _ _ _ h => Enc_devop_f0 h) fun a1493 hp1494 => (wl_s (o_loadI Try.underlying3 rfl rfl hp1494 (wl_s (o_callK (vs := [vI o.device]) enter_75 (c_refDev (O := [] ++ O) o.device w1488 s1489.lt) rfl s1489 fun v1495 w1496 s1497 m1498 k1499 r1500 => (?_)))))))
 obtain rfl := r1500
 have hp1492 := hp1492.mv m1498
 refine wl_s (o_not (isDevM o.device) rfl (wl_s (o_move (Value.bool (!(isDevM o.device))) rfl (?_))))
 cases hb1501 : (!(isDevM o.device))
 ·have hp1502 : (isDevM o.device) = true := by first | simpa using hb1501 | (have e := hb1501; simp at e; omega)
  refine wl_t rfl (o_fieldR 1 f_40_1 (o.no) rfl hp1492 (fun _ _ _ h => Enc_devop_f1 h) fun a1503 hp1504 => (wl_t rfl (o_loadI Try.underlying3 rfl rfl hp1504 (wl_t rfl (o_callK (vs := [vI o.no, vI (1 : Int), vI (65536 : Int)]) enter_74 (c_in (O := [] ++ O) o.no (1 : Int) (65536 : Int) w1496 s1497.lt) rfl s1497 fun v1505 w1506 s1507 m1508 k1509 r1510 => (?_))))))
  obtain rfl := r1510
  have hp1492 := hp1492.mv m1508
  refine wl_t rfl (o_not (inD o.no (1 : Int) (65536 : Int)) rfl (wl_s (o_pickF (Value.bool (!(inD o.no (1 : Int) (65536 : Int)))) rfl rfl (wl_s (o_move (Value.bool (!(inD o.no (1 : Int) (65536 : Int)))) rfl (?_))))))
  cases hb1511 : (!(inD o.no (1 : Int) (65536 : Int)))
  ·have hp1512 : (inD o.no (1 : Int) (65536 : Int)) = true := by first | simpa using hb1511 | (have e := hb1511; simp at e; omega)
   refine wl_t rfl (o_fieldR 3 f_40_3 (o.copy) rfl hp1492 (fun _ _ _ h => Enc_devop_f3 h) fun a1513 hp1514 => (wl_t rfl (o_loadI Try.underlying3 rfl rfl hp1514 (wl_t rfl (o_callK (vs := [vI o.copy, vI (0 : Int), vI (1023 : Int)]) enter_74 (c_in (O := [] ++ O) o.copy (0 : Int) (1023 : Int) w1506 s1507.lt) rfl s1507 fun v1515 w1516 s1517 m1518 k1519 r1520 => (?_))))))
   obtain rfl := r1520
   have hp1492 := hp1492.mv m1518
   refine wl_t rfl (o_not (inD o.copy (0 : Int) (1023 : Int)) rfl (wl_s (o_pickF (Value.bool (!(inD o.copy (0 : Int) (1023 : Int)))) rfl rfl (wl_s (o_move (Value.bool (!(inD o.copy (0 : Int) (1023 : Int)))) rfl (?_))))))
   cases hb1521 : (!(inD o.copy (0 : Int) (1023 : Int)))
   ·have hp1522 : (inD o.copy (0 : Int) (1023 : Int)) = true := by first | simpa using hb1521 | (have e := hb1521; simp at e; omega)
    refine wl_t rfl (o_fieldR 5 f_40_5 (o.token) rfl hp1492 (fun _ _ _ h => Enc_devop_f5 h) fun a1523 hp1524 => (wl_t rfl (o_loadI Try.underlying3 rfl rfl hp1524 (wl_t rfl (o_callK (vs := [vI o.token, vI (1 : Int), vI (65536 : Int)]) enter_74 (c_in (O := [] ++ O) o.token (1 : Int) (65536 : Int) w1516 s1517.lt) rfl s1517 fun v1525 w1526 s1527 m1528 k1529 r1530 => (?_))))))
    obtain rfl := r1530
    have hp1492 := hp1492.mv m1528
    refine wl_t rfl (o_not (inD o.token (1 : Int) (65536 : Int)) rfl (wl_s (o_pickF (Value.bool (!(inD o.token (1 : Int) (65536 : Int)))) rfl rfl (wl_nil (thenQ_n (?_))))))
    refine cw_cond (!(inD o.token (1 : Int) (65536 : Int))) rfl rfl (fun hc1531 => ?_) (fun hc1531 => ?_)
    ·have hp1532 : (inD o.token (1 : Int) (65536 : Int)) = false := by first | simpa using hc1531 | (have e := hc1531; simp at e; omega)
     refine cw_seq (?_)
     refine cw_region (by kernel_rfl) (wl_s (o_assign (Value.bool false) rfl (wl_nil (thenQ_n (?_)))))
     refine cw_ret (thenQ_r (end_r rfl (res1 rfl rfl rfl) (?_)))
     have e : (validM o) = false := by first | (exfalso; omega) | (rw [valid_in]; simp [*])
     exact ⟨_, rfl, s1527.keep, by rw [e]; exact rfl⟩
    ·have hp1533 : (inD o.token (1 : Int) (65536 : Int)) = true := by first | simpa using hc1531 | (have e := hc1531; simp at e; omega)
     refine cw_skip (thenQ_n (?_))
     refine cw_seq (?_)
     refine cw_region (by kernel_rfl) (wl_s (o_fieldR 2 f_40_2 (o.kind) rfl hp1492 (fun _ _ _ h => Enc_devop_f2 h) fun a1534 hp1535 => (wl_s (o_loadI Try.underlying3 rfl rfl hp1535 (wl_s (o_eql .i64 o.kind (1 : Int) rfl rfl (wl_s (o_move (Value.bool (o.kind == (1 : Int))) rfl (?_)))))))))
     cases hb1536 : (o.kind == (1 : Int))
     ·have hp1537 : o.kind ≠ (1 : Int) := by first | simpa using hb1536 | (have e := hb1536; simp at e; omega)
      refine wl_k rfl (wl_k rfl (wl_k rfl (wl_s (o_pickF (Value.bool false) rfl rfl (wl_s (o_move (Value.bool false) rfl (wl_t rfl (o_fieldR 2 f_40_2 (o.kind) rfl hp1492 (fun _ _ _ h => Enc_devop_f2 h) fun a1538 hp1539 => (wl_t rfl (o_loadI Try.underlying3 rfl rfl hp1539 (wl_t rfl (o_eql .i64 o.kind (2 : Int) rfl rfl (wl_t rfl (o_move (Value.bool (o.kind == (2 : Int))) rfl (?_)))))))))))))))
      cases hb1540 : (o.kind == (2 : Int))
      ·have hp1541 : o.kind ≠ (2 : Int) := by first | simpa using hb1540 | (have e := hb1540; simp at e; omega)
       refine wl_k rfl (wl_k rfl (wl_k rfl (wl_t rfl (o_pickF (Value.bool false) rfl rfl (wl_s (o_pickF (Value.bool false) rfl rfl (wl_s (o_assign (Value.bool false) rfl (wl_nil (thenQ_n (?_)))))))))))
       refine cw_ret (end_r rfl (res1 rfl rfl rfl) (?_))
       have e : (validM o) = false := by first | (exfalso; omega) | (rw [valid_in]; simp [*])
       exact ⟨_, rfl, s1527.keep, by rw [e]; exact rfl⟩
      ·have hp1542 : o.kind = (2 : Int) := by first | simpa using hb1540 | (have e := hb1540; simp at e; omega)
       refine wl_t rfl (o_fieldR 4 f_40_4 (o.to) rfl hp1492 (fun _ _ _ h => Enc_devop_f4 h) fun a1543 hp1544 => (wl_t rfl (o_loadI Try.underlying3 rfl rfl hp1544 (wl_t rfl (o_eql .i64 o.to (0 : Int) rfl rfl (wl_t rfl (o_pickT (Value.bool (o.to == (0 : Int))) rfl rfl (wl_s (o_pickF (Value.bool (o.to == (0 : Int))) rfl rfl (wl_s (o_assign (Value.bool (o.to == (0 : Int))) rfl (wl_nil (thenQ_n (?_))))))))))))))
       refine cw_ret (end_r rfl (res1 rfl rfl rfl) (?_))
       have e : (validM o) = (o.to == (0 : Int)) := by first | (exfalso; omega) | (rw [valid_in]; simp [*])
       exact ⟨_, rfl, s1527.keep, by rw [e]; exact rfl⟩
     ·have hp1545 : o.kind = (1 : Int) := by first | simpa using hb1536 | (have e := hb1536; simp at e; omega)
      refine wl_t rfl (o_fieldR 4 f_40_4 (o.to) rfl hp1492 (fun _ _ _ h => Enc_devop_f4 h) fun a1546 hp1547 => (wl_t rfl (o_loadI Try.underlying3 rfl rfl hp1547 (wl_t rfl (o_callK (vs := [vI o.to]) enter_75 (c_refDev (O := [] ++ O) o.to w1526 s1527.lt) rfl s1527 fun v1548 w1549 s1550 m1551 k1552 r1553 => (?_))))))
      obtain rfl := r1553
      have hp1492 := hp1492.mv m1551
      refine wl_s (o_pickT (Value.bool (isDevM o.to)) rfl rfl (wl_s (o_move (Value.bool (isDevM o.to)) rfl (?_))))
      cases hb1554 : (isDevM o.to)
      ·have hp1555 : (isDevM o.to) = false := by first | simpa using hb1554 | (have e := hb1554; simp at e; omega)
       refine wl_t rfl (o_fieldR 2 f_40_2 (o.kind) rfl hp1492 (fun _ _ _ h => Enc_devop_f2 h) fun a1556 hp1557 => (wl_t rfl (o_loadI Try.underlying3 rfl rfl hp1557 (wl_t rfl (o_eql .i64 o.kind (2 : Int) rfl rfl (wl_t rfl (o_move (Value.bool (o.kind == (2 : Int))) rfl (?_))))))))
       cases hb1558 : (o.kind == (2 : Int))
       ·have hp1559 : o.kind ≠ (2 : Int) := by first | simpa using hb1558 | (have e := hb1558; simp at e; omega)
        refine wl_k rfl (wl_k rfl (wl_k rfl (wl_t rfl (o_pickF (Value.bool false) rfl rfl (wl_s (o_pickF (Value.bool false) rfl rfl (wl_s (o_assign (Value.bool false) rfl (wl_nil (thenQ_n (?_)))))))))))
        refine cw_ret (end_r rfl (res1 rfl rfl rfl) (?_))
        have e : (validM o) = false := by first | (exfalso; omega) | (rw [valid_in]; simp [*])
        exact ⟨_, rfl, s1550.keep, by rw [e]; exact rfl⟩
       ·have hp1560 : o.kind = (2 : Int) := by first | simpa using hb1558 | (have e := hb1558; simp at e; omega)
        refine wl_t rfl (o_fieldR 4 f_40_4 (o.to) rfl hp1492 (fun _ _ _ h => Enc_devop_f4 h) fun a1561 hp1562 => (wl_t rfl (o_loadI Try.underlying3 rfl rfl hp1562 (wl_t rfl (o_eql .i64 o.to (0 : Int) rfl rfl (wl_t rfl (o_pickT (Value.bool (o.to == (0 : Int))) rfl rfl (wl_s (o_pickF (Value.bool (o.to == (0 : Int))) rfl rfl (wl_s (o_assign (Value.bool (o.to == (0 : Int))) rfl (wl_nil (thenQ_n (?_))))))))))))))
        refine cw_ret (end_r rfl (res1 rfl rfl rfl) (?_))
        have e : (validM o) = (o.to == (0 : Int)) := by first | (exfalso; omega) | (rw [valid_in]; simp [*])
        exact ⟨_, rfl, s1550.keep, by rw [e]; exact rfl⟩
      ·have hp1563 : (isDevM o.to) = true := by first | simpa using hb1554 | (have e := hb1554; simp at e; omega)
       refine wl_k rfl (wl_k rfl (wl_k rfl (wl_k rfl (wl_u rfl (wl_u rfl (wl_u rfl (wl_k rfl (wl_s (o_pickT (Value.bool true) rfl rfl (wl_s (o_assign (Value.bool true) rfl (wl_nil (thenQ_n (?_))))))))))))))
       refine cw_ret (end_r rfl (res1 rfl rfl rfl) (?_))
       have e : (validM o) = true := by first | (exfalso; omega) | (rw [valid_in]; simp [*])
       exact ⟨_, rfl, s1550.keep, by rw [e]; exact rfl⟩
   ·have hp1564 : (inD o.copy (0 : Int) (1023 : Int)) = false := by first | simpa using hb1521 | (have e := hb1521; simp at e; omega)
    refine wl_k rfl (wl_k rfl (wl_k rfl (wl_k rfl (wl_s (o_pickT (Value.bool true) rfl rfl (wl_nil (thenQ_n (?_))))))))
    refine cw_cond true rfl rfl (fun _ => ?_) (fun h => by cases h)
    refine cw_seq (?_)
    refine cw_region (by kernel_rfl) (wl_s (o_assign (Value.bool false) rfl (wl_nil (thenQ_n (?_)))))
    refine cw_ret (thenQ_r (end_r rfl (res1 rfl rfl rfl) (?_)))
    have e : (validM o) = false := by first | (exfalso; omega) | (rw [valid_in]; simp [*])
    exact ⟨_, rfl, s1517.keep, by rw [e]; exact rfl⟩
  ·have hp1565 : (inD o.no (1 : Int) (65536 : Int)) = false := by first | simpa using hb1511 | (have e := hb1511; simp at e; omega)
   refine wl_k rfl (wl_k rfl (wl_k rfl (wl_k rfl (wl_s (o_pickT (Value.bool true) rfl rfl (wl_s (o_move (Value.bool true) rfl (wl_k rfl (wl_k rfl (wl_k rfl (wl_k rfl (wl_s (o_pickT (Value.bool true) rfl rfl (wl_nil (thenQ_n (?_))))))))))))))))
   refine cw_cond true rfl rfl (fun _ => ?_) (fun h => by cases h)
   refine cw_seq (?_)
   refine cw_region (by kernel_rfl) (wl_s (o_assign (Value.bool false) rfl (wl_nil (thenQ_n (?_)))))
   refine cw_ret (thenQ_r (end_r rfl (res1 rfl rfl rfl) (?_)))
   have e : (validM o) = false := by first | (exfalso; omega) | (rw [valid_in]; simp [*])
   exact ⟨_, rfl, s1507.keep, by rw [e]; exact rfl⟩
 ·have hp1566 : (isDevM o.device) = false := by first | simpa using hb1501 | (have e := hb1501; simp at e; omega)
  refine wl_k rfl (wl_k rfl (wl_k rfl (wl_k rfl (wl_s (o_pickT (Value.bool true) rfl rfl (wl_s (o_move (Value.bool true) rfl (wl_k rfl (wl_k rfl (wl_k rfl (wl_k rfl (wl_s (o_pickT (Value.bool true) rfl rfl (wl_s (o_move (Value.bool true) rfl (wl_k rfl (wl_k rfl (wl_k rfl (wl_k rfl (wl_s (o_pickT (Value.bool true) rfl rfl (wl_nil (thenQ_n (?_))))))))))))))))))))))))
  refine cw_cond true rfl rfl (fun _ => ?_) (fun h => by cases h)
  refine cw_seq (?_)
  refine cw_region (by kernel_rfl) (wl_s (o_assign (Value.bool false) rfl (wl_nil (thenQ_n (?_)))))
  refine cw_ret (thenQ_r (end_r rfl (res1 rfl rfl rfl) (?_)))
  have e : (validM o) = false := by first | (exfalso; omega) | (rw [valid_in]; simp [*])
  exact ⟨_, rfl, s1497.keep, by rw [e]; exact rfl⟩
set_option maxHeartbeats 4000000 in
set_option maxRecDepth 100000 in
theorem c_numbers {O : List Nat} (o_cs : List Value) (o : DeviceOp) (w : World) (h_o : Enc.devop.rd w O o_cs o) (hO : ∀ b ∈ O, b < w.heap.size) : CallsK Try.prog 99 [.agg o_cs.toArray] w (fun v w' => ∃ (x0 : Value), v = x0 ∧ RdL Enc.int w' (O) x0 (keysM o)) :=  by
 obtain rfl := h_o
 have s0 : St w O w [] := St.start hO
 refine callsK_of 16 Try.func99 rfl rfl (of_decide_eq_true rfl) (fun F0 => ?_)
 refine cw_seq (?_)
 refine cw_region (by kernel_rfl) (wl_s (o_boxR (E := Enc.devop) (Value.agg #[vI o.device, vI o.no, vI o.kind, vI o.copy, vI o.to, vI o.token]) ([vI o.device, vI o.no, vI o.kind, vI o.copy, vI o.to, vI o.token]) o rfl rfl rfl s0 fun a1567 w1568 s1569 m1570 k1571 hp1572 => (?_)))
 refine wl_s (o_assign (Value.slice none 0 0) rfl (wl_nil (thenQ_n (?_))))
 refine cw_seq (?_)
 refine cw_region (by kernel_rfl) (wl_s (o_fieldR 3 f_40_3 (o.copy) rfl hp1572 (fun _ _ _ h => Enc_devop_f3 h) fun a1573 hp1574 => (wl_s (o_loadI Try.underlying3 rfl rfl hp1574 (wl_s (o_fieldR 5 f_40_5 (o.token) rfl hp1572 (fun _ _ _ h => Enc_devop_f5 h) fun a1575 hp1576 => (wl_s (o_loadI Try.underlying3 rfl rfl hp1576 (wl_s (o_fieldR 0 f_40_0 (o.device) rfl hp1572 (fun _ _ _ h => Enc_devop_f0 h) fun a1577 hp1578 => (wl_s (o_loadI Try.underlying3 rfl rfl hp1578 (wl_s (o_fieldR 1 f_40_1 (o.no) rfl hp1572 (fun _ _ _ h => Enc_devop_f1 h) fun a1579 hp1580 => (wl_s (o_loadI Try.underlying3 rfl rfl hp1580 (wl_s (o_fieldR 2 f_40_2 (o.kind) rfl hp1572 (fun _ _ _ h => Enc_devop_f2 h) fun a1581 hp1582 => (wl_s (o_loadI Try.underlying3 rfl rfl hp1582 (wl_s (o_fieldR 4 f_40_4 (o.to) rfl hp1572 (fun _ _ _ h => Enc_devop_f4 h) fun a1583 hp1584 => (wl_s (o_loadI Try.underlying3 rfl rfl hp1584 (wl_s (o_lit (E := Enc.int) (xs := [.tmp 4, .tmp 6, .tmp 8, .tmp 10, .tmp 12, .tmp 14]) Try.underlying27 s_3 z_3 (by decide) [vI o.copy, vI o.token, vI o.device, vI o.no, vI o.kind, vI o.to] [[vI o.copy], [vI o.token], [vI o.device], [vI o.no], [vI o.kind], [vI o.to]] [o.copy, o.token, o.device, o.no, o.kind, o.to] rfl rfl rfl (Parts.cons rfl rfl (Parts.cons rfl rfl (Parts.cons rfl rfl (Parts.cons rfl rfl (Parts.cons rfl rfl (Parts.cons rfl rfl (Parts.nil _ _ _))))))) (of_decide_eq_true rfl) s1569 fun v1589 w1585 s1586 m1587 k1588 hl1590 => (?_)))))))))))))))))))))))))))
 have := hl1590.len_le
 refine wl_s (o_assign (v1589) rfl (wl_nil (thenQ_n (?_))))
 refine cw_ret (end_r rfl (res1 rfl rfl rfl) (?_))
 have e : (keysM o) = ([o.copy, o.token, o.device, o.no, o.kind, o.to]) := rfl
 exact ⟨_, rfl, s1586.keep, by rw [e]; exact ⟨v1589, rfl, hl1590.out⟩⟩
set_option maxHeartbeats 4000000 in
set_option maxRecDepth 100000 in
theorem c_before {O : List Nat} (x_cs : List Value) (x : DeviceOp) (y_cs : List Value) (y : DeviceOp) (w : World) (h_x : Enc.devop.rd w O x_cs x) (h_y : Enc.devop.rd w O y_cs y) (hO : ∀ b ∈ O, b < w.heap.size) : CallsK Try.prog 71 [.agg x_cs.toArray, .agg y_cs.toArray] w (fun v _ => v = .bool (beforeM x y)) :=  by
 obtain rfl := h_x
 obtain rfl := h_y
 have s0 : St w O w [] := St.start hO
 refine callsK_of 36 Try.func71 rfl rfl (of_decide_eq_true rfl) (fun F0 => ?_)
 refine cw_seq (?_)
 refine cw_region (by kernel_rfl) (wl_s (o_boxR (E := Enc.devop) (Value.agg #[vI x.device, vI x.no, vI x.kind, vI x.copy, vI x.to, vI x.token]) ([vI x.device, vI x.no, vI x.kind, vI x.copy, vI x.to, vI x.token]) x rfl rfl rfl s0 fun a1591 w1592 s1593 m1594 k1595 hp1596 => (?_)))
 refine wl_s (o_boxR (E := Enc.devop) (Value.agg #[vI y.device, vI y.no, vI y.kind, vI y.copy, vI y.to, vI y.token]) ([vI y.device, vI y.no, vI y.kind, vI y.copy, vI y.to, vI y.token]) y rfl rfl rfl s1593 fun a1597 w1598 s1599 m1600 k1601 hp1602 => (?_))
 have hp1596 := hp1596.mv m1600
 refine wl_s (o_assign (Value.bool false) rfl (wl_nil (thenQ_n (?_))))
 refine cw_seq (?_)
 refine cw_region (by kernel_rfl) (wl_s (o_loadS Try.underlying40 rfl s_40 rfl hp1596 fun cs1603 hs1604 => (?_)))
 obtain rfl := hs1604
 refine wl_s (o_callK (vs := [Value.agg #[vI x.device, vI x.no, vI x.kind, vI x.copy, vI x.to, vI x.token]]) enter_99 (c_numbers (O := [] ++ O) [vI x.device, vI x.no, vI x.kind, vI x.copy, vI x.to, vI x.token] x w1598 rfl s1599.lt) rfl s1599 fun v1605 w1606 s1607 m1608 k1609 r1610 => (?_))
 obtain ⟨_, rfl, hl1611⟩ := r1610
 have := hl1611.len_le
 have hp1602 := hp1602.mv m1608
 refine wl_s (o_assign (v1605) rfl (wl_nil (thenQ_n (?_))))
 refine cw_seq (?_)
 refine cw_region (by kernel_rfl) (wl_s (o_loadS Try.underlying40 rfl s_40 rfl hp1602 fun cs1612 hs1613 => (?_)))
 obtain rfl := hs1613
 refine wl_s (o_callK (vs := [Value.agg #[vI y.device, vI y.no, vI y.kind, vI y.copy, vI y.to, vI y.token]]) enter_99 (c_numbers (O := [] ++ O) [vI y.device, vI y.no, vI y.kind, vI y.copy, vI y.to, vI y.token] y w1606 rfl s1607.lt) rfl s1607 fun v1614 w1615 s1616 m1617 k1618 r1619 => (?_))
 obtain ⟨_, rfl, hl1620⟩ := r1619
 have := hl1620.len_le
 have hl1611 := hl1611.mv m1617
 refine wl_s (o_assign (v1614) rfl (wl_nil (thenQ_n (?_))))
 refine cw_seq (?_)
 refine cw_seq (?_)
 refine cw_region (by kernel_rfl) (wl_s (o_assign (vI (0 : Int)) rfl (wl_nil (thenQ_n (?_)))))
 refine cw_block (?_)
 have hka : (keysM x).length = 6 := rfl
 have hkb : (keysM y).length = 6 := rfl
 refine cw_loop (fun mI FI wI => ∃ (k : Nat) (B : List Nat), k ≤ (keysM x).length ∧ (∀ q, q < k → (keysM x)[q]! = (keysM y)[q]!) ∧ mI = (keysM x).length - k ∧ (∃ F1, FI = upds F1 [(5, v1605), (6, v1614), (7, vI ((k : Nat) : Int)), (36, undef)]) ∧ St w O wI B ∧ RdL Enc.int wI (B ++ O) (v1605) (keysM x) ∧ RdL Enc.int wI (B ++ O) (v1614) (keysM y)) ((keysM x).length - (0)) ?_ ?_
 ·exact ⟨(0), [], (by omega), (fun q hq => by omega), rfl, ⟨_, upds_self _ ⟨rfl, rfl, (by first | rfl | exact congrArg (Value.int _) (by first | omega | (simp))), rfl, trivial⟩⟩, s1616, hl1611, hl1620⟩
 ·intro ml0 F wl0 hI
  clear hl1611 hl1620
  obtain ⟨k, Bl0, hr0_0, hr0_1, hm0, ⟨Fl0, rfl⟩, sl0, hl1611, hl1620⟩ := hI
  refine cw_seq (?_)
  refine cw_seq (?_)
  refine cw_region (by kernel_rfl) (wl_s (o_move (vI ((k : Nat) : Int)) rfl (wl_s (o_move (v1605) rfl (wl_s (o_lenR Try.underlying27 rfl hl1611 (wl_s (o_lss .i64 ((k : Nat) : Int) ((keysM x).length : Int) rfl rfl (wl_nil (thenQ_n (?_)))))))))))
  refine cw_cond (decide (((k : Nat) : Int) < ((keysM x).length : Int))) rfl rfl (fun hc1621 => ?_) (fun hc1621 => ?_)
  ·have hp1622 : ((k : Nat) : Int) < ((keysM x).length : Int) := by first | simpa using hc1621 | (have e := hc1621; simp at e; omega)
   refine cw_skip (thenQ_n (?_))
   refine cw_seq (?_)
   refine cw_block (?_)
   refine cw_seq (?_)
   refine cw_draw' 8 _ _ [fun (vT : Value) (wT : World) => RdL Enc.int wT (Bl0 ++ O) vT (keysM x), isV (vI ((k : Nat) : Int)), fun (vT : Value) (wT : World) => ∃ aT, vT = .pointer (some aT) ∧ PT Enc.int wT (Bl0 ++ O) (.pointer (some aT)) ((keysM x)[k]!), isV (vI ((keysM x)[k]!)), fun (vT : Value) (wT : World) => RdL Enc.int wT (Bl0 ++ O) vT (keysM y), isV (vI ((k : Nat) : Int)), fun (vT : Value) (wT : World) => ∃ aT, vT = .pointer (some aT) ∧ PT Enc.int wT (Bl0 ++ O) (.pointer (some aT)) ((keysM y)[k]!), isV (vI ((keysM y)[k]!))] (by kernel_rfl) (by kernel_rfl) (by kernel_rfl) (by kernel_rfl) rfl rfl ⟨fun _ _ _ h k => h.mv (Mv.of_keep k), kI, fun _ _ _ ⟨a, e, h⟩ k => ⟨a, e, h.mv (Mv.of_keep k)⟩, kI, fun _ _ _ h k => h.mv (Mv.of_keep k), kI, fun _ _ _ ⟨a, e, h⟩ k => ⟨a, e, h.mv (Mv.of_keep k)⟩, kI, trivial⟩ ⟨?_, ?_, ?_, ?_, ?_, ?_, ?_, ?_, trivial⟩ ?_
   ·intro F1 w1 k1 hf hd
    have k0 := (Keep.drew [] wl0).trans k1
    have m1 : Mv Bl0 wl0 Bl0 w1 := Mv.of_keep k0
    have hl1611 := hl1611.mv m1
    obtain ⟨F2, rfl⟩ := lit_of (F := F1) [(5, v1605)] ⟨hf 5 (by kernel_rfl), trivial⟩
    exact sp_plain rfl ((o_move (v1605) rfl (⟨(Keep.refl _ _), hl1611⟩)))
   ·intro F1 w1 k1 hf hd
    obtain ⟨F2, rfl⟩ := lit_of (F := F1) [(7, vI ((k : Nat) : Int))] ⟨hf 7 (by kernel_rfl), trivial⟩
    exact sp_plain rfl ((o_move (vI ((k : Nat) : Int)) rfl (⟨(Keep.refl _ _), rfl⟩)))
   ·intro F1 w1 k1 hf hd
    obtain ⟨v1623, e1625, hl1624⟩ : ∃ v, F1 18 = v ∧ RdL Enc.int w1 (Bl0 ++ O) v (keysM x) := ⟨_, rfl, hd 0 18 (by kernel_rfl)⟩
    have := hl1624.len_le
    obtain ⟨F2, rfl⟩ := lit_of (F := F1) [(18, v1623), (19, vI ((k : Nat) : Int))] ⟨e1625, hd 1 19 (by kernel_rfl), trivial⟩
    exact sp_plain rfl ((o_idx Try.underlying27 s_3 .i64 ((k : Nat) : Int) k rfl rfl rfl hl1624 (by omega) fun a1626 hp1627 => (⟨(Keep.refl _ _), ⟨a1626, rfl, hp1627⟩⟩)))
   ·intro F1 w1 k1 hf hd
    obtain ⟨a1628, e1630, hp1629⟩ : ∃ aX_, F1 20 = .pointer (some aX_) ∧ PT Enc.int w1 (Bl0 ++ O) (.pointer (some aX_)) ((keysM x)[k]!) := hd 2 20 (by kernel_rfl)
    obtain ⟨F2, rfl⟩ := lit_of (F := F1) [(20, Value.pointer (some a1628))] ⟨e1630, trivial⟩
    exact sp_plain rfl ((o_loadI Try.underlying3 rfl rfl hp1629 (⟨(Keep.refl _ _), rfl⟩)))
   ·intro F1 w1 k1 hf hd
    have k0 := (Keep.drew [] wl0).trans k1
    have m1 : Mv Bl0 wl0 Bl0 w1 := Mv.of_keep k0
    have hl1620 := hl1620.mv m1
    obtain ⟨F2, rfl⟩ := lit_of (F := F1) [(6, v1614)] ⟨hf 6 (by kernel_rfl), trivial⟩
    exact sp_plain rfl ((o_move (v1614) rfl (⟨(Keep.refl _ _), hl1620⟩)))
   ·intro F1 w1 k1 hf hd
    obtain ⟨F2, rfl⟩ := lit_of (F := F1) [(7, vI ((k : Nat) : Int))] ⟨hf 7 (by kernel_rfl), trivial⟩
    exact sp_plain rfl ((o_move (vI ((k : Nat) : Int)) rfl (⟨(Keep.refl _ _), rfl⟩)))
   ·intro F1 w1 k1 hf hd
    obtain ⟨v1631, e1633, hl1632⟩ : ∃ v, F1 22 = v ∧ RdL Enc.int w1 (Bl0 ++ O) v (keysM y) := ⟨_, rfl, hd 4 22 (by kernel_rfl)⟩
    have := hl1632.len_le
    obtain ⟨F2, rfl⟩ := lit_of (F := F1) [(22, v1631), (23, vI ((k : Nat) : Int))] ⟨e1633, hd 5 23 (by kernel_rfl), trivial⟩
    exact sp_plain rfl ((o_idx Try.underlying27 s_3 .i64 ((k : Nat) : Int) k rfl rfl rfl hl1632 (by omega) fun a1634 hp1635 => (⟨(Keep.refl _ _), ⟨a1634, rfl, hp1635⟩⟩)))
   ·intro F1 w1 k1 hf hd
    obtain ⟨a1636, e1638, hp1637⟩ : ∃ aX_, F1 24 = .pointer (some aX_) ∧ PT Enc.int w1 (Bl0 ++ O) (.pointer (some aX_)) ((keysM y)[k]!) := hd 6 24 (by kernel_rfl)
    obtain ⟨F2, rfl⟩ := lit_of (F := F1) [(24, Value.pointer (some a1636))] ⟨e1638, trivial⟩
    exact sp_plain rfl ((o_loadI Try.underlying3 rfl rfl hp1637 (⟨(Keep.refl _ _), rfl⟩)))
   intro F1640 w1641 k1639 hT1642 hF1643
   have s1644 := sl0.call k1639
   have m1645 : Mv Bl0 wl0 Bl0 w1641 := Mv.of_keep k1639
   have hl1611 := hl1611.mv m1645
   have hl1620 := hl1620.mv m1645
   obtain ⟨F2, rfl⟩ := lit_of (F := F1640) [(5, v1605), (6, v1614), (7, vI ((k : Nat) : Int)), (36, undef), (21, vI ((keysM x)[k]!)), (25, vI ((keysM y)[k]!))] ⟨hF1643 5 (by kernel_rfl), hF1643 6 (by kernel_rfl), hF1643 7 (by kernel_rfl), hF1643 36 (by kernel_rfl), hT1642 3 21 (by kernel_rfl) (by decide), hT1642 7 25 (by kernel_rfl) (by decide), trivial⟩
   clear hT1642 hF1643
   refine wl_s (o_neq .i64 ((keysM x)[k]!) ((keysM y)[k]!) rfl rfl (wl_nil (thenQ_n (?_))))
   refine cw_cond (((keysM x)[k]!) != ((keysM y)[k]!)) rfl rfl (fun hc1648 => ?_) (fun hc1648 => ?_)
   ·have hp1649 : (keysM x)[k]! ≠ (keysM y)[k]! := by first | simpa using hc1648 | (have e := hc1648; simp at e; omega)
    refine cw_seq (?_)
    refine cw_draw' 8 _ _ [fun (vT : Value) (wT : World) => RdL Enc.int wT (Bl0 ++ O) vT (keysM x), isV (vI ((k : Nat) : Int)), fun (vT : Value) (wT : World) => ∃ aT, vT = .pointer (some aT) ∧ PT Enc.int wT (Bl0 ++ O) (.pointer (some aT)) ((keysM x)[k]!), isV (vI ((keysM x)[k]!)), fun (vT : Value) (wT : World) => RdL Enc.int wT (Bl0 ++ O) vT (keysM y), isV (vI ((k : Nat) : Int)), fun (vT : Value) (wT : World) => ∃ aT, vT = .pointer (some aT) ∧ PT Enc.int wT (Bl0 ++ O) (.pointer (some aT)) ((keysM y)[k]!), isV (vI ((keysM y)[k]!))] (by kernel_rfl) (by kernel_rfl) (by kernel_rfl) (by kernel_rfl) rfl rfl ⟨fun _ _ _ h k => h.mv (Mv.of_keep k), kI, fun _ _ _ ⟨a, e, h⟩ k => ⟨a, e, h.mv (Mv.of_keep k)⟩, kI, fun _ _ _ h k => h.mv (Mv.of_keep k), kI, fun _ _ _ ⟨a, e, h⟩ k => ⟨a, e, h.mv (Mv.of_keep k)⟩, kI, trivial⟩ ⟨?_, ?_, ?_, ?_, ?_, ?_, ?_, ?_, trivial⟩ ?_
    ·intro F1 w1 k1 hf hd
     have k0 := (Keep.drew [] w1641).trans k1
     have m1 : Mv Bl0 w1641 Bl0 w1 := Mv.of_keep k0
     have hl1611 := hl1611.mv m1
     obtain ⟨F2, rfl⟩ := lit_of (F := F1) [(5, v1605)] ⟨hf 5 (by kernel_rfl), trivial⟩
     exact sp_plain rfl ((o_move (v1605) rfl (⟨(Keep.refl _ _), hl1611⟩)))
    ·intro F1 w1 k1 hf hd
     obtain ⟨F2, rfl⟩ := lit_of (F := F1) [(7, vI ((k : Nat) : Int))] ⟨hf 7 (by kernel_rfl), trivial⟩
     exact sp_plain rfl ((o_move (vI ((k : Nat) : Int)) rfl (⟨(Keep.refl _ _), rfl⟩)))
    ·intro F1 w1 k1 hf hd
     obtain ⟨v1650, e1652, hl1651⟩ : ∃ v, F1 27 = v ∧ RdL Enc.int w1 (Bl0 ++ O) v (keysM x) := ⟨_, rfl, hd 0 27 (by kernel_rfl)⟩
     have := hl1651.len_le
     obtain ⟨F2, rfl⟩ := lit_of (F := F1) [(27, v1650), (28, vI ((k : Nat) : Int))] ⟨e1652, hd 1 28 (by kernel_rfl), trivial⟩
     exact sp_plain rfl ((o_idx Try.underlying27 s_3 .i64 ((k : Nat) : Int) k rfl rfl rfl hl1651 (by omega) fun a1653 hp1654 => (⟨(Keep.refl _ _), ⟨a1653, rfl, hp1654⟩⟩)))
    ·intro F1 w1 k1 hf hd
     obtain ⟨a1655, e1657, hp1656⟩ : ∃ aX_, F1 29 = .pointer (some aX_) ∧ PT Enc.int w1 (Bl0 ++ O) (.pointer (some aX_)) ((keysM x)[k]!) := hd 2 29 (by kernel_rfl)
     obtain ⟨F2, rfl⟩ := lit_of (F := F1) [(29, Value.pointer (some a1655))] ⟨e1657, trivial⟩
     exact sp_plain rfl ((o_loadI Try.underlying3 rfl rfl hp1656 (⟨(Keep.refl _ _), rfl⟩)))
    ·intro F1 w1 k1 hf hd
     have k0 := (Keep.drew [] w1641).trans k1
     have m1 : Mv Bl0 w1641 Bl0 w1 := Mv.of_keep k0
     have hl1620 := hl1620.mv m1
     obtain ⟨F2, rfl⟩ := lit_of (F := F1) [(6, v1614)] ⟨hf 6 (by kernel_rfl), trivial⟩
     exact sp_plain rfl ((o_move (v1614) rfl (⟨(Keep.refl _ _), hl1620⟩)))
    ·intro F1 w1 k1 hf hd
     obtain ⟨F2, rfl⟩ := lit_of (F := F1) [(7, vI ((k : Nat) : Int))] ⟨hf 7 (by kernel_rfl), trivial⟩
     exact sp_plain rfl ((o_move (vI ((k : Nat) : Int)) rfl (⟨(Keep.refl _ _), rfl⟩)))
    ·intro F1 w1 k1 hf hd
     obtain ⟨v1658, e1660, hl1659⟩ : ∃ v, F1 31 = v ∧ RdL Enc.int w1 (Bl0 ++ O) v (keysM y) := ⟨_, rfl, hd 4 31 (by kernel_rfl)⟩
     have := hl1659.len_le
     obtain ⟨F2, rfl⟩ := lit_of (F := F1) [(31, v1658), (32, vI ((k : Nat) : Int))] ⟨e1660, hd 5 32 (by kernel_rfl), trivial⟩
     exact sp_plain rfl ((o_idx Try.underlying27 s_3 .i64 ((k : Nat) : Int) k rfl rfl rfl hl1659 (by omega) fun a1661 hp1662 => (⟨(Keep.refl _ _), ⟨a1661, rfl, hp1662⟩⟩)))
    ·intro F1 w1 k1 hf hd
     obtain ⟨a1663, e1665, hp1664⟩ : ∃ aX_, F1 33 = .pointer (some aX_) ∧ PT Enc.int w1 (Bl0 ++ O) (.pointer (some aX_)) ((keysM y)[k]!) := hd 6 33 (by kernel_rfl)
     obtain ⟨F2, rfl⟩ := lit_of (F := F1) [(33, Value.pointer (some a1663))] ⟨e1665, trivial⟩
     exact sp_plain rfl ((o_loadI Try.underlying3 rfl rfl hp1664 (⟨(Keep.refl _ _), rfl⟩)))
    intro F1667 w1668 k1666 hT1669 hF1670
    have s1671 := s1644.call k1666
    obtain ⟨F2, rfl⟩ := lit_of (F := F1667) [(36, undef), (30, vI ((keysM x)[k]!)), (34, vI ((keysM y)[k]!))] ⟨hF1670 36 (by kernel_rfl), hT1669 3 30 (by kernel_rfl) (by decide), hT1669 7 34 (by kernel_rfl) (by decide), trivial⟩
    clear hT1669 hF1670
    refine wl_s (o_lss .i64 ((keysM x)[k]!) ((keysM y)[k]!) rfl rfl (wl_s (o_assign (Value.bool (decide ((keysM x)[k]! < (keysM y)[k]!))) rfl (wl_nil (thenQ_n (?_))))))
    refine cw_ret (blockQ_r (thenQ_r (thenQ_r (blockQ_r (thenQ_r (end_r rfl (res1 rfl rfl rfl) (?_)))))))
    have e : (beforeM x y) = (decide ((keysM x)[k]! < (keysM y)[k]!)) := by first | exact bef_at (by omega) hr0_1 (by assumption) | exact bef_end (by omega) hr0_1
    exact ⟨_, rfl, s1671.keep, by rw [e]; exact rfl⟩
   ·have hp1675 : (keysM x)[k]! = (keysM y)[k]! := by first | simpa using hc1648 | (have e := hc1648; simp at e; omega)
    refine cw_skip (blockQ_n (thenQ_n (?_)))
    refine cw_region (by kernel_rfl) (wl_s (o_move (vI ((k : Nat) : Int)) rfl (wl_s (o_add .i64 ((k : Nat) : Int) (1 : Int) (((k + 1 : Nat) : Int)) rfl rfl (w64 (by omega) (by omega)) (wl_s (o_assign (vI ((k + 1 : Nat) : Int)) rfl (wl_nil (thenQ_n (?_)))))))))
    exact ⟨_, (by omega), (k + 1), Bl0, (by omega), (eq_step hr0_1 (by assumption)), rfl, ⟨_, upds_self _ ⟨rfl, rfl, (by first | rfl | exact congrArg (Value.int _) (by first | omega | (simp))), rfl, trivial⟩⟩, s1644, hl1611, hl1620⟩
  ·have hp1676 : ((keysM x).length : Int) ≤ ((k : Nat) : Int) := by first | simpa using hc1621 | (have e := hc1621; simp at e; omega)
   refine cw_exit (thenQ_x (thenQ_x (blockQ_x (thenQ_n (?_)))))
   refine cw_seq (?_)
   refine cw_region (by kernel_rfl) (wl_s (o_assign (Value.bool false) rfl (wl_nil (thenQ_n (?_)))))
   refine cw_ret (end_r rfl (res1 rfl rfl rfl) (?_))
   have e : (beforeM x y) = false := by first | exact bef_at (by omega) hr0_1 (by assumption) | exact bef_end (by omega) hr0_1
   exact ⟨_, rfl, sl0.keep, by rw [e]; exact rfl⟩
set_option maxHeartbeats 4000000 in
set_option maxRecDepth 100000 in
theorem c_refCheck {O : List Nat} (l_v : Value) (l : List DeviceOp) (w : World) (h_l : RdL Enc.devop w O l_v l) (hO : ∀ b ∈ O, b < w.heap.size) : CallsK Try.prog 30 [l_v] w (fun v _ => v = vI (checkM l)) :=  by
 have lim_l := h_l.len_le
 have h_l : RdL Enc.devop w ([] ++ O) l_v l := h_l
 have s0 : St w O w [] := St.start hO
 refine callsK_of 66 Try.func30 rfl rfl (of_decide_eq_true rfl) (fun F0 => ?_)
 refine cw_seq (?_)
 refine cw_region (by kernel_rfl) (wl_s (o_assign (vI (0 : Int)) rfl (wl_nil (thenQ_n (?_)))))
 refine cw_seq (?_)
 refine cw_seq (?_)
 refine cw_region (by kernel_rfl) (wl_s (o_move (l_v) rfl (wl_s (o_lenR Try.underlying26 rfl h_l (wl_s (o_gtr .i64 (l.length : Int) (256 : Int) rfl rfl (wl_nil (thenQ_n (?_)))))))))
 refine cw_cond (decide ((256 : Int) < (l.length : Int))) rfl rfl (fun hc1677 => ?_) (fun hc1677 => ?_)
 ·have hp1678 : (256 : Int) < (l.length : Int) := by first | simpa using hc1677 | (have e := hc1677; simp at e; omega)
  refine cw_seq (?_)
  refine cw_region (by kernel_rfl) (wl_s (o_assign (vI (420 : Int)) rfl (wl_nil (thenQ_n (?_)))))
  refine cw_ret (thenQ_r (end_r rfl (res1 rfl rfl rfl) (?_)))
  have e : (checkM l) = (420 : Int) := by first | exact chk_len (by omega) | exact chk_val (i := k) (by omega) (by assumption) | exact chk_ord (i := k) (by omega) (by omega) (by assumption) | exact chk_num (i := k) (k := j) (by omega) (by omega) (by assumption) (by assumption) | exact chk_ok hr0_1 (by omega)
  exact ⟨_, rfl, s0.keep, by rw [e]; exact rfl⟩
 ·have hp1679 : (l.length : Int) ≤ (256 : Int) := by first | simpa using hc1677 | (have e := hc1677; simp at e; omega)
  refine cw_skip (thenQ_n (?_))
  refine cw_seq (?_)
  refine cw_seq (?_)
  refine cw_region (by kernel_rfl) (wl_s (o_assign (vI (0 : Int)) rfl (wl_nil (thenQ_n (?_)))))
  refine cw_block (?_)
  refine cw_loop (fun mI FI wI => ∃ (k : Nat) (B : List Nat), k ≤ l.length ∧ pre42 l k ∧ mI = l.length - k ∧ (∃ F1, FI = upds F1 [(0, l_v), (3, vI ((k : Nat) : Int)), (66, undef)]) ∧ St w O wI B ∧ RdL Enc.devop wI (B ++ O) (l_v) (l)) (l.length - (0)) ?_ ?_
  ·exact ⟨(0), [], (by omega), (pre_zero l), rfl, ⟨_, upds_self _ ⟨rfl, (by first | rfl | exact congrArg (Value.int _) (by first | omega | (simp))), rfl, trivial⟩⟩, s0, h_l⟩
  ·intro ml0 F wl0 hI
   clear h_l
   obtain ⟨k, Bl0, hr0_0, hr0_1, hm0, ⟨Fl0, rfl⟩, sl0, h_l⟩ := hI
   refine cw_seq (?_)
   refine cw_seq (?_)
   refine cw_region (by kernel_rfl) (wl_s (o_move (vI ((k : Nat) : Int)) rfl (wl_s (o_move (l_v) rfl (wl_s (o_lenR Try.underlying26 rfl h_l (wl_s (o_lss .i64 ((k : Nat) : Int) (l.length : Int) rfl rfl (wl_nil (thenQ_n (?_)))))))))))
   refine cw_cond (decide (((k : Nat) : Int) < (l.length : Int))) rfl rfl (fun hc1680 => ?_) (fun hc1680 => ?_)
   ·have hp1681 : ((k : Nat) : Int) < (l.length : Int) := by first | simpa using hc1680 | (have e := hc1680; simp at e; omega)
    refine cw_skip (thenQ_n (?_))
    refine cw_seq (?_)
    refine cw_block (?_)
    refine cw_cut (fun FI wI => ∃ (B : List Nat), validM l[k]! = true ∧ (0 < k → beforeM l[k - 1]! l[k]! = true) ∧ True ∧ (∃ F1, FI = upds F1 [(0, l_v), (3, vI ((k : Nat) : Int)), (66, undef)]) ∧ St w O wI B ∧ RdL Enc.devop wI (B ++ O) (l_v) (l)) ?_ ?_
    ·refine cw_seq (?_)
     cases hb1682 : (!(validM (l[k]!)))
     ·have hp1683 : (validM (l[k]!)) = true := by first | simpa using hb1682 | (have e := hb1682; simp at e; omega)
      cases hb1684 : (decide ((0 : Int) < ((k : Nat) : Int)))
      ·have hp1685 : ((k : Nat) : Int) ≤ (0 : Int) := by first | simpa using hb1684 | (have e := hb1684; simp at e; omega)
       refine cw_draw' 19 _ _ [fun (vT : Value) (wT : World) => RdL Enc.devop wT (Bl0 ++ O) vT (l), isV (vI ((k : Nat) : Int)), fun (vT : Value) (wT : World) => ∃ aT, vT = .pointer (some aT) ∧ PT Enc.devop wT (Bl0 ++ O) (.pointer (some aT)) (l[k]!), isV (Value.agg #[vI ((l[k]!).device), vI ((l[k]!).no), vI ((l[k]!).kind), vI ((l[k]!).copy), vI ((l[k]!).to), vI ((l[k]!).token)]), isV (Value.bool (validM (l[k]!))), isV (Value.bool false), isV (Value.bool false), isV (vI ((k : Nat) : Int)), isV (Value.bool false), isV (Value.bool false), isV undef, isV undef, isV undef, isV undef, isV undef, isV undef, isV undef, isV undef, isV undef] (by kernel_rfl) (by kernel_rfl) (by kernel_rfl) (by kernel_rfl) rfl rfl ⟨fun _ _ _ h k => h.mv (Mv.of_keep k), kI, fun _ _ _ ⟨a, e, h⟩ k => ⟨a, e, h.mv (Mv.of_keep k)⟩, kI, kI, kI, kI, kI, kI, kI, kI, kI, kI, kI, kI, kI, kI, kI, kI, trivial⟩ ⟨?_, ?_, ?_, ?_, ?_, ?_, ?_, ?_, ?_, ?_, ?_, ?_, ?_, ?_, ?_, ?_, ?_, ?_, ?_, trivial⟩ ?_
       ·intro F1 w1 k1 hf hd
        have k0 := (Keep.drew [] wl0).trans k1
        have m1 : Mv Bl0 wl0 Bl0 w1 := Mv.of_keep k0
        have h_l := h_l.mv m1
        obtain ⟨F2, rfl⟩ := lit_of (F := F1) [(0, l_v)] ⟨hf 0 (by kernel_rfl), trivial⟩
        exact sp_plain rfl ((o_move (l_v) rfl (⟨(Keep.refl _ _), h_l⟩)))
       ·intro F1 w1 k1 hf hd
        obtain ⟨F2, rfl⟩ := lit_of (F := F1) [(3, vI ((k : Nat) : Int))] ⟨hf 3 (by kernel_rfl), trivial⟩
        exact sp_plain rfl ((o_move (vI ((k : Nat) : Int)) rfl (⟨(Keep.refl _ _), rfl⟩)))
       ·intro F1 w1 k1 hf hd
        obtain ⟨v1686, e1688, hl1687⟩ : ∃ v, F1 14 = v ∧ RdL Enc.devop w1 (Bl0 ++ O) v (l) := ⟨_, rfl, hd 0 14 (by kernel_rfl)⟩
        have := hl1687.len_le
        obtain ⟨F2, rfl⟩ := lit_of (F := F1) [(14, v1686), (15, vI ((k : Nat) : Int))] ⟨e1688, hd 1 15 (by kernel_rfl), trivial⟩
        exact sp_plain rfl ((o_idx Try.underlying26 s_40 .i64 ((k : Nat) : Int) k rfl rfl rfl hl1687 (by omega) fun a1689 hp1690 => (⟨(Keep.refl _ _), ⟨a1689, rfl, hp1690⟩⟩)))
       ·intro F1 w1 k1 hf hd
        obtain ⟨a1691, e1693, hp1692⟩ : ∃ aX_, F1 16 = .pointer (some aX_) ∧ PT Enc.devop w1 (Bl0 ++ O) (.pointer (some aX_)) (l[k]!) := hd 2 16 (by kernel_rfl)
        obtain ⟨F2, rfl⟩ := lit_of (F := F1) [(16, Value.pointer (some a1691))] ⟨e1693, trivial⟩
        refine sp_plain rfl ((o_loadS Try.underlying40 rfl s_40 rfl hp1692 fun cs1694 hs1695 => (?_)))
        obtain rfl := hs1695
        exact ⟨(Keep.refl _ _), rfl⟩
       ·intro F1 w1 k1 hf hd
        have k0 := (Keep.drew [] wl0).trans k1
        have s1 := sl0.call k0
        obtain ⟨F2, rfl⟩ := lit_of (F := F1) [(17, Value.agg #[vI ((l[k]!).device), vI ((l[k]!).no), vI ((l[k]!).kind), vI ((l[k]!).copy), vI ((l[k]!).to), vI ((l[k]!).token)])] ⟨hd 3 17 (by kernel_rfl), trivial⟩
        refine sp_plain rfl ((o_callK (vs := [Value.agg #[vI ((l[k]!).device), vI ((l[k]!).no), vI ((l[k]!).kind), vI ((l[k]!).copy), vI ((l[k]!).to), vI ((l[k]!).token)]]) enter_67 (c_refValid (O := Bl0 ++ O) [vI ((l[k]!).device), vI ((l[k]!).no), vI ((l[k]!).kind), vI ((l[k]!).copy), vI ((l[k]!).to), vI ((l[k]!).token)] (l[k]!) w1 rfl s1.lt) rfl s1 fun v1696 w1697 s1698 m1699 k1700 r1701 => (?_)))
        obtain rfl := r1701
        exact ⟨k1700, rfl⟩
       ·intro F1 w1 k1 hf hd
        obtain ⟨F2, rfl⟩ := lit_of (F := F1) [(18, Value.bool (validM (l[k]!)))] ⟨hd 4 18 (by kernel_rfl), trivial⟩
        refine sp_plain rfl ((o_not (validM (l[k]!)) rfl (?_)))
        exact ⟨(Keep.refl _ _), congrArg Value.bool (hb1682)⟩
       ·intro F1 w1 k1 hf hd
        obtain ⟨F2, rfl⟩ := lit_of (F := F1) [(19, Value.bool false)] ⟨hd 5 19 (by kernel_rfl), trivial⟩
        exact sp_plain rfl ((o_move (Value.bool false) rfl (⟨(Keep.refl _ _), rfl⟩)))
       ·intro F1 w1 k1 hf hd
        obtain ⟨F2, rfl⟩ := lit_of (F := F1) [(3, vI ((k : Nat) : Int)), (20, Value.bool false)] ⟨hf 3 (by kernel_rfl), hd 6 20 (by kernel_rfl), trivial⟩
        exact sp_take rfl rfl ((o_move (vI ((k : Nat) : Int)) rfl (⟨(Keep.refl _ _), rfl⟩)))
       ·intro F1 w1 k1 hf hd
        obtain ⟨F2, rfl⟩ := lit_of (F := F1) [(20, Value.bool false), (21, vI ((k : Nat) : Int))] ⟨hd 6 20 (by kernel_rfl), hd 7 21 (by kernel_rfl), trivial⟩
        refine sp_take rfl rfl ((o_gtr .i64 ((k : Nat) : Int) (0 : Int) rfl rfl (?_)))
        exact ⟨(Keep.refl _ _), congrArg Value.bool (hb1684)⟩
       ·intro F1 w1 k1 hf hd
        obtain ⟨F2, rfl⟩ := lit_of (F := F1) [(20, Value.bool false), (22, Value.bool false)] ⟨hd 6 20 (by kernel_rfl), hd 8 22 (by kernel_rfl), trivial⟩
        exact sp_take rfl rfl ((o_move (Value.bool false) rfl (⟨(Keep.refl _ _), rfl⟩)))
       ·intro F1 w1 k1 hf hd
        exact sp_skipD rfl rfl (hd 9 23 (by kernel_rfl)) rfl rfl
       ·intro F1 w1 k1 hf hd
        exact sp_skipD rfl rfl (hd 9 23 (by kernel_rfl)) rfl rfl
       ·intro F1 w1 k1 hf hd
        exact sp_skipD rfl rfl (hd 9 23 (by kernel_rfl)) rfl rfl
       ·intro F1 w1 k1 hf hd
        exact sp_skipD rfl rfl (hd 9 23 (by kernel_rfl)) rfl rfl
       ·intro F1 w1 k1 hf hd
        exact sp_skipD rfl rfl (hd 9 23 (by kernel_rfl)) rfl rfl
       ·intro F1 w1 k1 hf hd
        exact sp_skipD rfl rfl (hd 9 23 (by kernel_rfl)) rfl rfl
       ·intro F1 w1 k1 hf hd
        exact sp_skipD rfl rfl (hd 9 23 (by kernel_rfl)) rfl rfl
       ·intro F1 w1 k1 hf hd
        exact sp_skipD rfl rfl (hd 9 23 (by kernel_rfl)) rfl rfl
       ·intro F1 w1 k1 hf hd
        exact sp_skipD rfl rfl (hd 9 23 (by kernel_rfl)) rfl rfl
       intro F1703 w1704 k1702 hT1705 hF1706
       have s1707 := sl0.call k1702
       have m1708 : Mv Bl0 wl0 Bl0 w1704 := Mv.of_keep k1702
       have h_l := h_l.mv m1708
       obtain ⟨F2, rfl⟩ := lit_of (F := F1703) [(0, l_v), (3, vI ((k : Nat) : Int)), (66, undef), (20, Value.bool false), (23, Value.bool false)] ⟨hF1706 0 (by kernel_rfl), hF1706 3 (by kernel_rfl), hF1706 66 (by kernel_rfl), hT1705 6 20 (by kernel_rfl) (by decide), hT1705 9 23 (by kernel_rfl) (by decide), trivial⟩
       clear hT1705 hF1706
       refine wl_k rfl (wl_k rfl (wl_t rfl (o_pickF (Value.bool false) rfl rfl (wl_s (o_pickF (Value.bool false) rfl rfl (wl_nil (thenQ_n (?_))))))))
       refine cw_cond false rfl rfl (fun h => by cases h) (fun _ => ?_)
       refine cw_skip (thenQ_n (?_))
       exact ⟨Bl0, (by assumption), (fun h0_ => by first | assumption | (exfalso; omega)), trivial, ⟨_, upds_self _ ⟨rfl, rfl, rfl, trivial⟩⟩, s1707, h_l⟩
      ·have hp1711 : (0 : Int) < ((k : Nat) : Int) := by first | simpa using hb1684 | (have e := hb1684; simp at e; omega)
       refine cw_draw' 19 _ _ [fun (vT : Value) (wT : World) => RdL Enc.devop wT (Bl0 ++ O) vT (l), isV (vI ((k : Nat) : Int)), fun (vT : Value) (wT : World) => ∃ aT, vT = .pointer (some aT) ∧ PT Enc.devop wT (Bl0 ++ O) (.pointer (some aT)) (l[k]!), isV (Value.agg #[vI ((l[k]!).device), vI ((l[k]!).no), vI ((l[k]!).kind), vI ((l[k]!).copy), vI ((l[k]!).to), vI ((l[k]!).token)]), isV (Value.bool (validM (l[k]!))), isV (Value.bool false), isV (Value.bool false), isV (vI ((k : Nat) : Int)), isV (Value.bool true), isV (Value.bool true), fun (vT : Value) (wT : World) => RdL Enc.devop wT (Bl0 ++ O) vT (l), isV (vI ((k : Nat) : Int)), isV (vI ((k - 1 : Nat) : Int)), fun (vT : Value) (wT : World) => ∃ aT, vT = .pointer (some aT) ∧ PT Enc.devop wT (Bl0 ++ O) (.pointer (some aT)) (l[k - 1]!), isV (Value.agg #[vI ((l[k - 1]!).device), vI ((l[k - 1]!).no), vI ((l[k - 1]!).kind), vI ((l[k - 1]!).copy), vI ((l[k - 1]!).to), vI ((l[k - 1]!).token)]), fun (vT : Value) (wT : World) => RdL Enc.devop wT (Bl0 ++ O) vT (l), isV (vI ((k : Nat) : Int)), fun (vT : Value) (wT : World) => ∃ aT, vT = .pointer (some aT) ∧ PT Enc.devop wT (Bl0 ++ O) (.pointer (some aT)) (l[k]!), isV (Value.agg #[vI ((l[k]!).device), vI ((l[k]!).no), vI ((l[k]!).kind), vI ((l[k]!).copy), vI ((l[k]!).to), vI ((l[k]!).token)])] (by kernel_rfl) (by kernel_rfl) (by kernel_rfl) (by kernel_rfl) rfl rfl ⟨fun _ _ _ h k => h.mv (Mv.of_keep k), kI, fun _ _ _ ⟨a, e, h⟩ k => ⟨a, e, h.mv (Mv.of_keep k)⟩, kI, kI, kI, kI, kI, kI, kI, fun _ _ _ h k => h.mv (Mv.of_keep k), kI, kI, fun _ _ _ ⟨a, e, h⟩ k => ⟨a, e, h.mv (Mv.of_keep k)⟩, kI, fun _ _ _ h k => h.mv (Mv.of_keep k), kI, fun _ _ _ ⟨a, e, h⟩ k => ⟨a, e, h.mv (Mv.of_keep k)⟩, kI, trivial⟩ ⟨?_, ?_, ?_, ?_, ?_, ?_, ?_, ?_, ?_, ?_, ?_, ?_, ?_, ?_, ?_, ?_, ?_, ?_, ?_, trivial⟩ ?_
       ·intro F1 w1 k1 hf hd
        have k0 := (Keep.drew [] wl0).trans k1
        have m1 : Mv Bl0 wl0 Bl0 w1 := Mv.of_keep k0
        have h_l := h_l.mv m1
        obtain ⟨F2, rfl⟩ := lit_of (F := F1) [(0, l_v)] ⟨hf 0 (by kernel_rfl), trivial⟩
        exact sp_plain rfl ((o_move (l_v) rfl (⟨(Keep.refl _ _), h_l⟩)))
       ·intro F1 w1 k1 hf hd
        obtain ⟨F2, rfl⟩ := lit_of (F := F1) [(3, vI ((k : Nat) : Int))] ⟨hf 3 (by kernel_rfl), trivial⟩
        exact sp_plain rfl ((o_move (vI ((k : Nat) : Int)) rfl (⟨(Keep.refl _ _), rfl⟩)))
       ·intro F1 w1 k1 hf hd
        obtain ⟨v1712, e1714, hl1713⟩ : ∃ v, F1 14 = v ∧ RdL Enc.devop w1 (Bl0 ++ O) v (l) := ⟨_, rfl, hd 0 14 (by kernel_rfl)⟩
        have := hl1713.len_le
        obtain ⟨F2, rfl⟩ := lit_of (F := F1) [(14, v1712), (15, vI ((k : Nat) : Int))] ⟨e1714, hd 1 15 (by kernel_rfl), trivial⟩
        exact sp_plain rfl ((o_idx Try.underlying26 s_40 .i64 ((k : Nat) : Int) k rfl rfl rfl hl1713 (by omega) fun a1715 hp1716 => (⟨(Keep.refl _ _), ⟨a1715, rfl, hp1716⟩⟩)))
       ·intro F1 w1 k1 hf hd
        obtain ⟨a1717, e1719, hp1718⟩ : ∃ aX_, F1 16 = .pointer (some aX_) ∧ PT Enc.devop w1 (Bl0 ++ O) (.pointer (some aX_)) (l[k]!) := hd 2 16 (by kernel_rfl)
        obtain ⟨F2, rfl⟩ := lit_of (F := F1) [(16, Value.pointer (some a1717))] ⟨e1719, trivial⟩
        refine sp_plain rfl ((o_loadS Try.underlying40 rfl s_40 rfl hp1718 fun cs1720 hs1721 => (?_)))
        obtain rfl := hs1721
        exact ⟨(Keep.refl _ _), rfl⟩
       ·intro F1 w1 k1 hf hd
        have k0 := (Keep.drew [] wl0).trans k1
        have s1 := sl0.call k0
        obtain ⟨F2, rfl⟩ := lit_of (F := F1) [(17, Value.agg #[vI ((l[k]!).device), vI ((l[k]!).no), vI ((l[k]!).kind), vI ((l[k]!).copy), vI ((l[k]!).to), vI ((l[k]!).token)])] ⟨hd 3 17 (by kernel_rfl), trivial⟩
        refine sp_plain rfl ((o_callK (vs := [Value.agg #[vI ((l[k]!).device), vI ((l[k]!).no), vI ((l[k]!).kind), vI ((l[k]!).copy), vI ((l[k]!).to), vI ((l[k]!).token)]]) enter_67 (c_refValid (O := Bl0 ++ O) [vI ((l[k]!).device), vI ((l[k]!).no), vI ((l[k]!).kind), vI ((l[k]!).copy), vI ((l[k]!).to), vI ((l[k]!).token)] (l[k]!) w1 rfl s1.lt) rfl s1 fun v1722 w1723 s1724 m1725 k1726 r1727 => (?_)))
        obtain rfl := r1727
        exact ⟨k1726, rfl⟩
       ·intro F1 w1 k1 hf hd
        obtain ⟨F2, rfl⟩ := lit_of (F := F1) [(18, Value.bool (validM (l[k]!)))] ⟨hd 4 18 (by kernel_rfl), trivial⟩
        refine sp_plain rfl ((o_not (validM (l[k]!)) rfl (?_)))
        exact ⟨(Keep.refl _ _), congrArg Value.bool (hb1682)⟩
       ·intro F1 w1 k1 hf hd
        obtain ⟨F2, rfl⟩ := lit_of (F := F1) [(19, Value.bool false)] ⟨hd 5 19 (by kernel_rfl), trivial⟩
        exact sp_plain rfl ((o_move (Value.bool false) rfl (⟨(Keep.refl _ _), rfl⟩)))
       ·intro F1 w1 k1 hf hd
        obtain ⟨F2, rfl⟩ := lit_of (F := F1) [(3, vI ((k : Nat) : Int)), (20, Value.bool false)] ⟨hf 3 (by kernel_rfl), hd 6 20 (by kernel_rfl), trivial⟩
        exact sp_take rfl rfl ((o_move (vI ((k : Nat) : Int)) rfl (⟨(Keep.refl _ _), rfl⟩)))
       ·intro F1 w1 k1 hf hd
        obtain ⟨F2, rfl⟩ := lit_of (F := F1) [(20, Value.bool false), (21, vI ((k : Nat) : Int))] ⟨hd 6 20 (by kernel_rfl), hd 7 21 (by kernel_rfl), trivial⟩
        refine sp_take rfl rfl ((o_gtr .i64 ((k : Nat) : Int) (0 : Int) rfl rfl (?_)))
        exact ⟨(Keep.refl _ _), congrArg Value.bool (hb1684)⟩
       ·intro F1 w1 k1 hf hd
        obtain ⟨F2, rfl⟩ := lit_of (F := F1) [(20, Value.bool false), (22, Value.bool true)] ⟨hd 6 20 (by kernel_rfl), hd 8 22 (by kernel_rfl), trivial⟩
        exact sp_take rfl rfl ((o_move (Value.bool true) rfl (⟨(Keep.refl _ _), rfl⟩)))
       ·intro F1 w1 k1 hf hd
        have k0 := (Keep.drew [] wl0).trans k1
        have m1 : Mv Bl0 wl0 Bl0 w1 := Mv.of_keep k0
        have h_l := h_l.mv m1
        obtain ⟨F2, rfl⟩ := lit_of (F := F1) [(0, l_v), (23, Value.bool true)] ⟨hf 0 (by kernel_rfl), hd 9 23 (by kernel_rfl), trivial⟩
        exact sp_take rfl rfl ((o_move (l_v) rfl (⟨(Keep.refl _ _), h_l⟩)))
       ·intro F1 w1 k1 hf hd
        obtain ⟨F2, rfl⟩ := lit_of (F := F1) [(3, vI ((k : Nat) : Int)), (23, Value.bool true)] ⟨hf 3 (by kernel_rfl), hd 9 23 (by kernel_rfl), trivial⟩
        exact sp_take rfl rfl ((o_move (vI ((k : Nat) : Int)) rfl (⟨(Keep.refl _ _), rfl⟩)))
       ·intro F1 w1 k1 hf hd
        obtain ⟨F2, rfl⟩ := lit_of (F := F1) [(23, Value.bool true), (25, vI ((k : Nat) : Int))] ⟨hd 9 23 (by kernel_rfl), hd 11 25 (by kernel_rfl), trivial⟩
        exact sp_take rfl rfl ((o_sub .i64 ((k : Nat) : Int) (1 : Int) (((k - 1 : Nat) : Int)) rfl rfl (w64 (by omega) (by omega)) (⟨(Keep.refl _ _), rfl⟩)))
       ·intro F1 w1 k1 hf hd
        obtain ⟨v1728, e1730, hl1729⟩ : ∃ v, F1 24 = v ∧ RdL Enc.devop w1 (Bl0 ++ O) v (l) := ⟨_, rfl, hd 10 24 (by kernel_rfl)⟩
        have := hl1729.len_le
        obtain ⟨F2, rfl⟩ := lit_of (F := F1) [(23, Value.bool true), (24, v1728), (26, vI ((k - 1 : Nat) : Int))] ⟨hd 9 23 (by kernel_rfl), e1730, hd 12 26 (by kernel_rfl), trivial⟩
        exact sp_take rfl rfl ((o_idx Try.underlying26 s_40 .i64 ((k - 1 : Nat) : Int) (k - 1) rfl rfl rfl hl1729 (by omega) fun a1731 hp1732 => (⟨(Keep.refl _ _), ⟨a1731, rfl, hp1732⟩⟩)))
       ·intro F1 w1 k1 hf hd
        obtain ⟨a1733, e1735, hp1734⟩ : ∃ aX_, F1 27 = .pointer (some aX_) ∧ PT Enc.devop w1 (Bl0 ++ O) (.pointer (some aX_)) (l[k - 1]!) := hd 13 27 (by kernel_rfl)
        obtain ⟨F2, rfl⟩ := lit_of (F := F1) [(23, Value.bool true), (27, Value.pointer (some a1733))] ⟨hd 9 23 (by kernel_rfl), e1735, trivial⟩
        refine sp_take rfl rfl ((o_loadS Try.underlying40 rfl s_40 rfl hp1734 fun cs1736 hs1737 => (?_)))
        obtain rfl := hs1737
        exact ⟨(Keep.refl _ _), rfl⟩
       ·intro F1 w1 k1 hf hd
        have k0 := (Keep.drew [] wl0).trans k1
        have m1 : Mv Bl0 wl0 Bl0 w1 := Mv.of_keep k0
        have h_l := h_l.mv m1
        obtain ⟨F2, rfl⟩ := lit_of (F := F1) [(0, l_v), (23, Value.bool true)] ⟨hf 0 (by kernel_rfl), hd 9 23 (by kernel_rfl), trivial⟩
        exact sp_take rfl rfl ((o_move (l_v) rfl (⟨(Keep.refl _ _), h_l⟩)))
       ·intro F1 w1 k1 hf hd
        obtain ⟨F2, rfl⟩ := lit_of (F := F1) [(3, vI ((k : Nat) : Int)), (23, Value.bool true)] ⟨hf 3 (by kernel_rfl), hd 9 23 (by kernel_rfl), trivial⟩
        exact sp_take rfl rfl ((o_move (vI ((k : Nat) : Int)) rfl (⟨(Keep.refl _ _), rfl⟩)))
       ·intro F1 w1 k1 hf hd
        obtain ⟨v1738, e1740, hl1739⟩ : ∃ v, F1 29 = v ∧ RdL Enc.devop w1 (Bl0 ++ O) v (l) := ⟨_, rfl, hd 15 29 (by kernel_rfl)⟩
        have := hl1739.len_le
        obtain ⟨F2, rfl⟩ := lit_of (F := F1) [(23, Value.bool true), (29, v1738), (30, vI ((k : Nat) : Int))] ⟨hd 9 23 (by kernel_rfl), e1740, hd 16 30 (by kernel_rfl), trivial⟩
        exact sp_take rfl rfl ((o_idx Try.underlying26 s_40 .i64 ((k : Nat) : Int) k rfl rfl rfl hl1739 (by omega) fun a1741 hp1742 => (⟨(Keep.refl _ _), ⟨a1741, rfl, hp1742⟩⟩)))
       ·intro F1 w1 k1 hf hd
        obtain ⟨a1743, e1745, hp1744⟩ : ∃ aX_, F1 31 = .pointer (some aX_) ∧ PT Enc.devop w1 (Bl0 ++ O) (.pointer (some aX_)) (l[k]!) := hd 17 31 (by kernel_rfl)
        obtain ⟨F2, rfl⟩ := lit_of (F := F1) [(23, Value.bool true), (31, Value.pointer (some a1743))] ⟨hd 9 23 (by kernel_rfl), e1745, trivial⟩
        refine sp_take rfl rfl ((o_loadS Try.underlying40 rfl s_40 rfl hp1744 fun cs1746 hs1747 => (?_)))
        obtain rfl := hs1747
        exact ⟨(Keep.refl _ _), rfl⟩
       intro F1749 w1750 k1748 hT1751 hF1752
       have s1753 := sl0.call k1748
       have m1754 : Mv Bl0 wl0 Bl0 w1750 := Mv.of_keep k1748
       have h_l := h_l.mv m1754
       obtain ⟨F2, rfl⟩ := lit_of (F := F1749) [(0, l_v), (3, vI ((k : Nat) : Int)), (66, undef), (20, Value.bool false), (23, Value.bool true), (28, Value.agg #[vI ((l[k - 1]!).device), vI ((l[k - 1]!).no), vI ((l[k - 1]!).kind), vI ((l[k - 1]!).copy), vI ((l[k - 1]!).to), vI ((l[k - 1]!).token)]), (32, Value.agg #[vI ((l[k]!).device), vI ((l[k]!).no), vI ((l[k]!).kind), vI ((l[k]!).copy), vI ((l[k]!).to), vI ((l[k]!).token)])] ⟨hF1752 0 (by kernel_rfl), hF1752 3 (by kernel_rfl), hF1752 66 (by kernel_rfl), hT1751 6 20 (by kernel_rfl) (by decide), hT1751 9 23 (by kernel_rfl) (by decide), hT1751 14 28 (by kernel_rfl) (by decide), hT1751 18 32 (by kernel_rfl) (by decide), trivial⟩
       clear hT1751 hF1752
       refine wl_t rfl (o_callK (vs := [Value.agg #[vI ((l[k - 1]!).device), vI ((l[k - 1]!).no), vI ((l[k - 1]!).kind), vI ((l[k - 1]!).copy), vI ((l[k - 1]!).to), vI ((l[k - 1]!).token)], Value.agg #[vI ((l[k]!).device), vI ((l[k]!).no), vI ((l[k]!).kind), vI ((l[k]!).copy), vI ((l[k]!).to), vI ((l[k]!).token)]]) enter_71 (c_before (O := Bl0 ++ O) [vI ((l[k - 1]!).device), vI ((l[k - 1]!).no), vI ((l[k - 1]!).kind), vI ((l[k - 1]!).copy), vI ((l[k - 1]!).to), vI ((l[k - 1]!).token)] (l[k - 1]!) [vI ((l[k]!).device), vI ((l[k]!).no), vI ((l[k]!).kind), vI ((l[k]!).copy), vI ((l[k]!).to), vI ((l[k]!).token)] (l[k]!) w1750 rfl rfl s1753.lt) rfl s1753 fun v1757 w1758 s1759 m1760 k1761 r1762 => (?_))
       obtain rfl := r1762
       have h_l := h_l.mv m1760
       refine wl_t rfl (o_not (beforeM (l[k - 1]!) (l[k]!)) rfl (wl_t rfl (o_pickT (Value.bool (!(beforeM (l[k - 1]!) (l[k]!)))) rfl rfl (wl_s (o_pickF (Value.bool (!(beforeM (l[k - 1]!) (l[k]!)))) rfl rfl (wl_nil (thenQ_n (?_))))))))
       refine cw_cond (!(beforeM (l[k - 1]!) (l[k]!))) rfl rfl (fun hc1763 => ?_) (fun hc1763 => ?_)
       ·have hp1764 : (beforeM (l[k - 1]!) (l[k]!)) = false := by first | simpa using hc1763 | (have e := hc1763; simp at e; omega)
        refine cw_seq (?_)
        refine cw_region (by kernel_rfl) (wl_s (o_assign (vI (420 : Int)) rfl (wl_nil (thenQ_n (?_)))))
        refine cw_ret (thenQ_r (blockQ_r (thenQ_r (thenQ_r (blockQ_r (thenQ_r (end_r rfl (res1 rfl rfl rfl) (?_))))))))
        have e : (checkM l) = (420 : Int) := by first | exact chk_len (by omega) | exact chk_val (i := k) (by omega) (by assumption) | exact chk_ord (i := k) (by omega) (by omega) (by assumption) | exact chk_num (i := k) (k := j) (by omega) (by omega) (by assumption) (by assumption) | exact chk_ok hr0_1 (by omega)
        exact ⟨_, rfl, s1759.keep, by rw [e]; exact rfl⟩
       ·have hp1765 : (beforeM (l[k - 1]!) (l[k]!)) = true := by first | simpa using hc1763 | (have e := hc1763; simp at e; omega)
        refine cw_skip (thenQ_n (?_))
        exact ⟨Bl0, (by assumption), (fun h0_ => by first | assumption | (exfalso; omega)), trivial, ⟨_, upds_self _ ⟨rfl, rfl, rfl, trivial⟩⟩, s1759, h_l⟩
     ·have hp1766 : (validM (l[k]!)) = false := by first | simpa using hb1682 | (have e := hb1682; simp at e; omega)
      refine cw_draw' 19 _ _ [fun (vT : Value) (wT : World) => RdL Enc.devop wT (Bl0 ++ O) vT (l), isV (vI ((k : Nat) : Int)), fun (vT : Value) (wT : World) => ∃ aT, vT = .pointer (some aT) ∧ PT Enc.devop wT (Bl0 ++ O) (.pointer (some aT)) (l[k]!), isV (Value.agg #[vI ((l[k]!).device), vI ((l[k]!).no), vI ((l[k]!).kind), vI ((l[k]!).copy), vI ((l[k]!).to), vI ((l[k]!).token)]), isV (Value.bool (validM (l[k]!))), isV (Value.bool true), isV (Value.bool true), isV undef, isV undef, isV undef, isV undef, isV undef, isV undef, isV undef, isV undef, isV undef, isV undef, isV undef, isV undef] (by kernel_rfl) (by kernel_rfl) (by kernel_rfl) (by kernel_rfl) rfl rfl ⟨fun _ _ _ h k => h.mv (Mv.of_keep k), kI, fun _ _ _ ⟨a, e, h⟩ k => ⟨a, e, h.mv (Mv.of_keep k)⟩, kI, kI, kI, kI, kI, kI, kI, kI, kI, kI, kI, kI, kI, kI, kI, kI, trivial⟩ ⟨?_, ?_, ?_, ?_, ?_, ?_, ?_, ?_, ?_, ?_, ?_, ?_, ?_, ?_, ?_, ?_, ?_, ?_, ?_, trivial⟩ ?_
      ·intro F1 w1 k1 hf hd
       have k0 := (Keep.drew [] wl0).trans k1
       have m1 : Mv Bl0 wl0 Bl0 w1 := Mv.of_keep k0
       have h_l := h_l.mv m1
       obtain ⟨F2, rfl⟩ := lit_of (F := F1) [(0, l_v)] ⟨hf 0 (by kernel_rfl), trivial⟩
       exact sp_plain rfl ((o_move (l_v) rfl (⟨(Keep.refl _ _), h_l⟩)))
      ·intro F1 w1 k1 hf hd
       obtain ⟨F2, rfl⟩ := lit_of (F := F1) [(3, vI ((k : Nat) : Int))] ⟨hf 3 (by kernel_rfl), trivial⟩
       exact sp_plain rfl ((o_move (vI ((k : Nat) : Int)) rfl (⟨(Keep.refl _ _), rfl⟩)))
      ·intro F1 w1 k1 hf hd
       obtain ⟨v1767, e1769, hl1768⟩ : ∃ v, F1 14 = v ∧ RdL Enc.devop w1 (Bl0 ++ O) v (l) := ⟨_, rfl, hd 0 14 (by kernel_rfl)⟩
       have := hl1768.len_le
       obtain ⟨F2, rfl⟩ := lit_of (F := F1) [(14, v1767), (15, vI ((k : Nat) : Int))] ⟨e1769, hd 1 15 (by kernel_rfl), trivial⟩
       exact sp_plain rfl ((o_idx Try.underlying26 s_40 .i64 ((k : Nat) : Int) k rfl rfl rfl hl1768 (by omega) fun a1770 hp1771 => (⟨(Keep.refl _ _), ⟨a1770, rfl, hp1771⟩⟩)))
      ·intro F1 w1 k1 hf hd
       obtain ⟨a1772, e1774, hp1773⟩ : ∃ aX_, F1 16 = .pointer (some aX_) ∧ PT Enc.devop w1 (Bl0 ++ O) (.pointer (some aX_)) (l[k]!) := hd 2 16 (by kernel_rfl)
       obtain ⟨F2, rfl⟩ := lit_of (F := F1) [(16, Value.pointer (some a1772))] ⟨e1774, trivial⟩
       refine sp_plain rfl ((o_loadS Try.underlying40 rfl s_40 rfl hp1773 fun cs1775 hs1776 => (?_)))
       obtain rfl := hs1776
       exact ⟨(Keep.refl _ _), rfl⟩
      ·intro F1 w1 k1 hf hd
       have k0 := (Keep.drew [] wl0).trans k1
       have s1 := sl0.call k0
       obtain ⟨F2, rfl⟩ := lit_of (F := F1) [(17, Value.agg #[vI ((l[k]!).device), vI ((l[k]!).no), vI ((l[k]!).kind), vI ((l[k]!).copy), vI ((l[k]!).to), vI ((l[k]!).token)])] ⟨hd 3 17 (by kernel_rfl), trivial⟩
       refine sp_plain rfl ((o_callK (vs := [Value.agg #[vI ((l[k]!).device), vI ((l[k]!).no), vI ((l[k]!).kind), vI ((l[k]!).copy), vI ((l[k]!).to), vI ((l[k]!).token)]]) enter_67 (c_refValid (O := Bl0 ++ O) [vI ((l[k]!).device), vI ((l[k]!).no), vI ((l[k]!).kind), vI ((l[k]!).copy), vI ((l[k]!).to), vI ((l[k]!).token)] (l[k]!) w1 rfl s1.lt) rfl s1 fun v1777 w1778 s1779 m1780 k1781 r1782 => (?_)))
       obtain rfl := r1782
       exact ⟨k1781, rfl⟩
      ·intro F1 w1 k1 hf hd
       obtain ⟨F2, rfl⟩ := lit_of (F := F1) [(18, Value.bool (validM (l[k]!)))] ⟨hd 4 18 (by kernel_rfl), trivial⟩
       refine sp_plain rfl ((o_not (validM (l[k]!)) rfl (?_)))
       exact ⟨(Keep.refl _ _), congrArg Value.bool (hb1682)⟩
      ·intro F1 w1 k1 hf hd
       obtain ⟨F2, rfl⟩ := lit_of (F := F1) [(19, Value.bool true)] ⟨hd 5 19 (by kernel_rfl), trivial⟩
       exact sp_plain rfl ((o_move (Value.bool true) rfl (⟨(Keep.refl _ _), rfl⟩)))
      ·intro F1 w1 k1 hf hd
       exact sp_skipD rfl rfl (hd 6 20 (by kernel_rfl)) rfl rfl
      ·intro F1 w1 k1 hf hd
       exact sp_skipD rfl rfl (hd 6 20 (by kernel_rfl)) rfl rfl
      ·intro F1 w1 k1 hf hd
       exact sp_skipD rfl rfl (hd 6 20 (by kernel_rfl)) rfl rfl
      ·intro F1 w1 k1 hf hd
       exact sp_undefD rfl rfl (hd 9 23 (by kernel_rfl)) rfl
      ·intro F1 w1 k1 hf hd
       exact sp_undefD rfl rfl (hd 9 23 (by kernel_rfl)) rfl
      ·intro F1 w1 k1 hf hd
       exact sp_undefD rfl rfl (hd 9 23 (by kernel_rfl)) rfl
      ·intro F1 w1 k1 hf hd
       exact sp_undefD rfl rfl (hd 9 23 (by kernel_rfl)) rfl
      ·intro F1 w1 k1 hf hd
       exact sp_undefD rfl rfl (hd 9 23 (by kernel_rfl)) rfl
      ·intro F1 w1 k1 hf hd
       exact sp_undefD rfl rfl (hd 9 23 (by kernel_rfl)) rfl
      ·intro F1 w1 k1 hf hd
       exact sp_undefD rfl rfl (hd 9 23 (by kernel_rfl)) rfl
      ·intro F1 w1 k1 hf hd
       exact sp_undefD rfl rfl (hd 9 23 (by kernel_rfl)) rfl
      ·intro F1 w1 k1 hf hd
       exact sp_undefD rfl rfl (hd 9 23 (by kernel_rfl)) rfl
      intro F1784 w1785 k1783 hT1786 hF1787
      have s1788 := sl0.call k1783
      obtain ⟨F2, rfl⟩ := lit_of (F := F1784) [(0, l_v), (3, vI ((k : Nat) : Int)), (66, undef), (20, Value.bool true), (23, undef)] ⟨hF1787 0 (by kernel_rfl), hF1787 3 (by kernel_rfl), hF1787 66 (by kernel_rfl), hT1786 6 20 (by kernel_rfl) (by decide), hT1786 9 23 (by kernel_rfl) (by decide), trivial⟩
      clear hT1786 hF1787
      refine wl_u rfl (wl_u rfl (wl_k rfl (wl_s (o_pickT (Value.bool true) rfl rfl (wl_nil (thenQ_n (?_)))))))
      refine cw_cond true rfl rfl (fun _ => ?_) (fun h => by cases h)
      refine cw_seq (?_)
      refine cw_region (by kernel_rfl) (wl_s (o_assign (vI (420 : Int)) rfl (wl_nil (thenQ_n (?_)))))
      refine cw_ret (thenQ_r (blockQ_r (thenQ_r (thenQ_r (blockQ_r (thenQ_r (end_r rfl (res1 rfl rfl rfl) (?_))))))))
      have e : (checkM l) = (420 : Int) := by first | exact chk_len (by omega) | exact chk_val (i := k) (by omega) (by assumption) | exact chk_ord (i := k) (by omega) (by omega) (by assumption) | exact chk_num (i := k) (k := j) (by omega) (by omega) (by assumption) (by assumption) | exact chk_ok hr0_1 (by omega)
      exact ⟨_, rfl, s1788.keep, by rw [e]; exact rfl⟩
    ·intro F wlc4 hI
     clear h_l
     obtain ⟨Blc4, hrc4_0, hrc4_1, hmc4, ⟨Flc4, rfl⟩, slc4, h_l⟩ := hI
     refine cw_seq (?_)
     refine cw_region (by kernel_rfl) (wl_s (o_assign (vI (0 : Int)) rfl (wl_nil (thenQ_n (?_)))))
     refine cw_block (?_)
     refine cw_loop (fun mI FI wI => ∃ (j : Nat) (B : List Nat), j ≤ k ∧ (∀ q, q < j → numM l[q]! ≠ numM l[k]!) ∧ mI = k - j ∧ (∃ F1, FI = upds F1 [(0, l_v), (3, vI ((k : Nat) : Int)), (4, vI ((j : Nat) : Int)), (66, undef)]) ∧ St w O wI B ∧ RdL Enc.devop wI (B ++ O) (l_v) (l)) (k - (0)) ?_ ?_
     ·exact ⟨(0), Blc4, (by omega), (fun q hq => by omega), rfl, ⟨_, upds_self _ ⟨rfl, rfl, (by first | rfl | exact congrArg (Value.int _) (by first | omega | (simp))), rfl, trivial⟩⟩, slc4, h_l⟩
     ·intro ml1 F wl1 hI
      clear h_l
      obtain ⟨j, Bl1, hr1_0, hr1_1, hm1, ⟨Fl1, rfl⟩, sl1, h_l⟩ := hI
      refine cw_seq (?_)
      refine cw_seq (?_)
      refine cw_region (by kernel_rfl) (wl_s (o_move (vI ((j : Nat) : Int)) rfl (wl_s (o_move (vI ((k : Nat) : Int)) rfl (wl_s (o_lss .i64 ((j : Nat) : Int) ((k : Nat) : Int) rfl rfl (wl_nil (thenQ_n (?_)))))))))
      refine cw_cond (decide (((j : Nat) : Int) < ((k : Nat) : Int))) rfl rfl (fun hc1792 => ?_) (fun hc1792 => ?_)
      ·have hp1793 : ((j : Nat) : Int) < ((k : Nat) : Int) := by first | simpa using hc1792 | (have e := hc1792; simp at e; omega)
       refine cw_skip (thenQ_n (?_))
       refine cw_seq (?_)
       refine cw_block (?_)
       refine cw_seq (?_)
       cases hb1794 : (((l[j]!).device) == ((l[k]!).device))
       ·have hp1795 : (l[j]!).device ≠ (l[k]!).device := by first | simpa using hb1794 | (have e := hb1794; simp at e; omega)
        refine cw_draw' 22 _ _ [fun (vT : Value) (wT : World) => RdL Enc.devop wT (Bl1 ++ O) vT (l), isV (vI ((j : Nat) : Int)), fun (vT : Value) (wT : World) => ∃ aT, vT = .pointer (some aT) ∧ PT Enc.devop wT (Bl1 ++ O) (.pointer (some aT)) (l[j]!), fun (vT : Value) (wT : World) => ∃ aT, vT = .pointer (some aT) ∧ PT Enc.int wT (Bl1 ++ O) (.pointer (some aT)) ((l[j]!).device), isV (vI ((l[j]!).device)), fun (vT : Value) (wT : World) => RdL Enc.devop wT (Bl1 ++ O) vT (l), isV (vI ((k : Nat) : Int)), fun (vT : Value) (wT : World) => ∃ aT, vT = .pointer (some aT) ∧ PT Enc.devop wT (Bl1 ++ O) (.pointer (some aT)) (l[k]!), fun (vT : Value) (wT : World) => ∃ aT, vT = .pointer (some aT) ∧ PT Enc.int wT (Bl1 ++ O) (.pointer (some aT)) ((l[k]!).device), isV (vI ((l[k]!).device)), isV (Value.bool false), isV (Value.bool false), isV undef, isV undef, isV undef, isV undef, isV undef, isV undef, isV undef, isV undef, isV undef, isV undef] (by kernel_rfl) (by kernel_rfl) (by kernel_rfl) (by kernel_rfl) rfl rfl ⟨fun _ _ _ h k => h.mv (Mv.of_keep k), kI, fun _ _ _ ⟨a, e, h⟩ k => ⟨a, e, h.mv (Mv.of_keep k)⟩, fun _ _ _ ⟨a, e, h⟩ k => ⟨a, e, h.mv (Mv.of_keep k)⟩, kI, fun _ _ _ h k => h.mv (Mv.of_keep k), kI, fun _ _ _ ⟨a, e, h⟩ k => ⟨a, e, h.mv (Mv.of_keep k)⟩, fun _ _ _ ⟨a, e, h⟩ k => ⟨a, e, h.mv (Mv.of_keep k)⟩, kI, kI, kI, kI, kI, kI, kI, kI, kI, kI, kI, kI, kI, trivial⟩ ⟨?_, ?_, ?_, ?_, ?_, ?_, ?_, ?_, ?_, ?_, ?_, ?_, ?_, ?_, ?_, ?_, ?_, ?_, ?_, ?_, ?_, ?_, trivial⟩ ?_
        ·intro F1 w1 k1 hf hd
         have k0 := (Keep.drew [] wl1).trans k1
         have m1 : Mv Bl1 wl1 Bl1 w1 := Mv.of_keep k0
         have h_l := h_l.mv m1
         obtain ⟨F2, rfl⟩ := lit_of (F := F1) [(0, l_v)] ⟨hf 0 (by kernel_rfl), trivial⟩
         exact sp_plain rfl ((o_move (l_v) rfl (⟨(Keep.refl _ _), h_l⟩)))
        ·intro F1 w1 k1 hf hd
         obtain ⟨F2, rfl⟩ := lit_of (F := F1) [(4, vI ((j : Nat) : Int))] ⟨hf 4 (by kernel_rfl), trivial⟩
         exact sp_plain rfl ((o_move (vI ((j : Nat) : Int)) rfl (⟨(Keep.refl _ _), rfl⟩)))
        ·intro F1 w1 k1 hf hd
         obtain ⟨v1796, e1798, hl1797⟩ : ∃ v, F1 42 = v ∧ RdL Enc.devop w1 (Bl1 ++ O) v (l) := ⟨_, rfl, hd 0 42 (by kernel_rfl)⟩
         have := hl1797.len_le
         obtain ⟨F2, rfl⟩ := lit_of (F := F1) [(42, v1796), (43, vI ((j : Nat) : Int))] ⟨e1798, hd 1 43 (by kernel_rfl), trivial⟩
         exact sp_plain rfl ((o_idx Try.underlying26 s_40 .i64 ((j : Nat) : Int) j rfl rfl rfl hl1797 (by omega) fun a1799 hp1800 => (⟨(Keep.refl _ _), ⟨a1799, rfl, hp1800⟩⟩)))
        ·intro F1 w1 k1 hf hd
         obtain ⟨a1801, e1803, hp1802⟩ : ∃ aX_, F1 44 = .pointer (some aX_) ∧ PT Enc.devop w1 (Bl1 ++ O) (.pointer (some aX_)) (l[j]!) := hd 2 44 (by kernel_rfl)
         obtain ⟨F2, rfl⟩ := lit_of (F := F1) [(44, Value.pointer (some a1801))] ⟨e1803, trivial⟩
         exact sp_plain rfl ((o_fieldR 0 f_40_0 ((l[j]!).device) rfl hp1802 (fun _ _ _ h => Enc_devop_f0 h) fun a1804 hp1805 => (⟨(Keep.refl _ _), ⟨a1804, rfl, hp1805⟩⟩)))
        ·intro F1 w1 k1 hf hd
         obtain ⟨a1806, e1808, hp1807⟩ : ∃ aX_, F1 45 = .pointer (some aX_) ∧ PT Enc.int w1 (Bl1 ++ O) (.pointer (some aX_)) ((l[j]!).device) := hd 3 45 (by kernel_rfl)
         obtain ⟨F2, rfl⟩ := lit_of (F := F1) [(45, Value.pointer (some a1806))] ⟨e1808, trivial⟩
         exact sp_plain rfl ((o_loadI Try.underlying3 rfl rfl hp1807 (⟨(Keep.refl _ _), rfl⟩)))
        ·intro F1 w1 k1 hf hd
         have k0 := (Keep.drew [] wl1).trans k1
         have m1 : Mv Bl1 wl1 Bl1 w1 := Mv.of_keep k0
         have h_l := h_l.mv m1
         obtain ⟨F2, rfl⟩ := lit_of (F := F1) [(0, l_v)] ⟨hf 0 (by kernel_rfl), trivial⟩
         exact sp_plain rfl ((o_move (l_v) rfl (⟨(Keep.refl _ _), h_l⟩)))
        ·intro F1 w1 k1 hf hd
         obtain ⟨F2, rfl⟩ := lit_of (F := F1) [(3, vI ((k : Nat) : Int))] ⟨hf 3 (by kernel_rfl), trivial⟩
         exact sp_plain rfl ((o_move (vI ((k : Nat) : Int)) rfl (⟨(Keep.refl _ _), rfl⟩)))
        ·intro F1 w1 k1 hf hd
         obtain ⟨v1809, e1811, hl1810⟩ : ∃ v, F1 47 = v ∧ RdL Enc.devop w1 (Bl1 ++ O) v (l) := ⟨_, rfl, hd 5 47 (by kernel_rfl)⟩
         have := hl1810.len_le
         obtain ⟨F2, rfl⟩ := lit_of (F := F1) [(47, v1809), (48, vI ((k : Nat) : Int))] ⟨e1811, hd 6 48 (by kernel_rfl), trivial⟩
         exact sp_plain rfl ((o_idx Try.underlying26 s_40 .i64 ((k : Nat) : Int) k rfl rfl rfl hl1810 (by omega) fun a1812 hp1813 => (⟨(Keep.refl _ _), ⟨a1812, rfl, hp1813⟩⟩)))
        ·intro F1 w1 k1 hf hd
         obtain ⟨a1814, e1816, hp1815⟩ : ∃ aX_, F1 49 = .pointer (some aX_) ∧ PT Enc.devop w1 (Bl1 ++ O) (.pointer (some aX_)) (l[k]!) := hd 7 49 (by kernel_rfl)
         obtain ⟨F2, rfl⟩ := lit_of (F := F1) [(49, Value.pointer (some a1814))] ⟨e1816, trivial⟩
         exact sp_plain rfl ((o_fieldR 0 f_40_0 ((l[k]!).device) rfl hp1815 (fun _ _ _ h => Enc_devop_f0 h) fun a1817 hp1818 => (⟨(Keep.refl _ _), ⟨a1817, rfl, hp1818⟩⟩)))
        ·intro F1 w1 k1 hf hd
         obtain ⟨a1819, e1821, hp1820⟩ : ∃ aX_, F1 50 = .pointer (some aX_) ∧ PT Enc.int w1 (Bl1 ++ O) (.pointer (some aX_)) ((l[k]!).device) := hd 8 50 (by kernel_rfl)
         obtain ⟨F2, rfl⟩ := lit_of (F := F1) [(50, Value.pointer (some a1819))] ⟨e1821, trivial⟩
         exact sp_plain rfl ((o_loadI Try.underlying3 rfl rfl hp1820 (⟨(Keep.refl _ _), rfl⟩)))
        ·intro F1 w1 k1 hf hd
         obtain ⟨F2, rfl⟩ := lit_of (F := F1) [(46, vI ((l[j]!).device)), (51, vI ((l[k]!).device))] ⟨hd 4 46 (by kernel_rfl), hd 9 51 (by kernel_rfl), trivial⟩
         refine sp_plain rfl ((o_eql .i64 ((l[j]!).device) ((l[k]!).device) rfl rfl (?_)))
         exact ⟨(Keep.refl _ _), congrArg Value.bool (hb1794)⟩
        ·intro F1 w1 k1 hf hd
         obtain ⟨F2, rfl⟩ := lit_of (F := F1) [(52, Value.bool false)] ⟨hd 10 52 (by kernel_rfl), trivial⟩
         exact sp_plain rfl ((o_move (Value.bool false) rfl (⟨(Keep.refl _ _), rfl⟩)))
        ·intro F1 w1 k1 hf hd
         exact sp_skipD rfl rfl (hd 11 53 (by kernel_rfl)) rfl rfl
        ·intro F1 w1 k1 hf hd
         exact sp_skipD rfl rfl (hd 11 53 (by kernel_rfl)) rfl rfl
        ·intro F1 w1 k1 hf hd
         exact sp_skipD rfl rfl (hd 11 53 (by kernel_rfl)) rfl rfl
        ·intro F1 w1 k1 hf hd
         exact sp_skipD rfl rfl (hd 11 53 (by kernel_rfl)) rfl rfl
        ·intro F1 w1 k1 hf hd
         exact sp_skipD rfl rfl (hd 11 53 (by kernel_rfl)) rfl rfl
        ·intro F1 w1 k1 hf hd
         exact sp_skipD rfl rfl (hd 11 53 (by kernel_rfl)) rfl rfl
        ·intro F1 w1 k1 hf hd
         exact sp_skipD rfl rfl (hd 11 53 (by kernel_rfl)) rfl rfl
        ·intro F1 w1 k1 hf hd
         exact sp_skipD rfl rfl (hd 11 53 (by kernel_rfl)) rfl rfl
        ·intro F1 w1 k1 hf hd
         exact sp_skipD rfl rfl (hd 11 53 (by kernel_rfl)) rfl rfl
        ·intro F1 w1 k1 hf hd
         exact sp_skipD rfl rfl (hd 11 53 (by kernel_rfl)) rfl rfl
        intro F1823 w1824 k1822 hT1825 hF1826
        have s1827 := sl1.call k1822
        have m1828 : Mv Bl1 wl1 Bl1 w1824 := Mv.of_keep k1822
        have h_l := h_l.mv m1828
        obtain ⟨F2, rfl⟩ := lit_of (F := F1823) [(0, l_v), (3, vI ((k : Nat) : Int)), (4, vI ((j : Nat) : Int)), (66, undef), (53, Value.bool false)] ⟨hF1826 0 (by kernel_rfl), hF1826 3 (by kernel_rfl), hF1826 4 (by kernel_rfl), hF1826 66 (by kernel_rfl), hT1825 11 53 (by kernel_rfl) (by decide), trivial⟩
        clear hT1825 hF1826
        refine wl_k rfl (wl_s (o_pickF (Value.bool false) rfl rfl (wl_nil (thenQ_n (?_)))))
        refine cw_cond false rfl rfl (fun h => by cases h) (fun _ => ?_)
        refine cw_skip (blockQ_n (thenQ_n (?_)))
        refine cw_region (by kernel_rfl) (wl_s (o_move (vI ((j : Nat) : Int)) rfl (wl_s (o_add .i64 ((j : Nat) : Int) (1 : Int) (((j + 1 : Nat) : Int)) rfl rfl (w64 (by omega) (by omega)) (wl_s (o_assign (vI ((j + 1 : Nat) : Int)) rfl (wl_nil (thenQ_n (?_)))))))))
        exact ⟨_, (by omega), (j + 1), Bl1, (by omega), (num_step hr1_1 (by first | exact num_ne1 (by assumption) | exact num_ne2 (by assumption))), rfl, ⟨_, upds_self _ ⟨rfl, rfl, (by first | rfl | exact congrArg (Value.int _) (by first | omega | (simp))), rfl, trivial⟩⟩, s1827, h_l⟩
       ·have hp1831 : (l[j]!).device = (l[k]!).device := by first | simpa using hb1794 | (have e := hb1794; simp at e; omega)
        refine cw_draw' 22 _ _ [fun (vT : Value) (wT : World) => RdL Enc.devop wT (Bl1 ++ O) vT (l), isV (vI ((j : Nat) : Int)), fun (vT : Value) (wT : World) => ∃ aT, vT = .pointer (some aT) ∧ PT Enc.devop wT (Bl1 ++ O) (.pointer (some aT)) (l[j]!), fun (vT : Value) (wT : World) => ∃ aT, vT = .pointer (some aT) ∧ PT Enc.int wT (Bl1 ++ O) (.pointer (some aT)) ((l[j]!).device), isV (vI ((l[j]!).device)), fun (vT : Value) (wT : World) => RdL Enc.devop wT (Bl1 ++ O) vT (l), isV (vI ((k : Nat) : Int)), fun (vT : Value) (wT : World) => ∃ aT, vT = .pointer (some aT) ∧ PT Enc.devop wT (Bl1 ++ O) (.pointer (some aT)) (l[k]!), fun (vT : Value) (wT : World) => ∃ aT, vT = .pointer (some aT) ∧ PT Enc.int wT (Bl1 ++ O) (.pointer (some aT)) ((l[k]!).device), isV (vI ((l[k]!).device)), isV (Value.bool true), isV (Value.bool true), fun (vT : Value) (wT : World) => RdL Enc.devop wT (Bl1 ++ O) vT (l), isV (vI ((j : Nat) : Int)), fun (vT : Value) (wT : World) => ∃ aT, vT = .pointer (some aT) ∧ PT Enc.devop wT (Bl1 ++ O) (.pointer (some aT)) (l[j]!), fun (vT : Value) (wT : World) => ∃ aT, vT = .pointer (some aT) ∧ PT Enc.int wT (Bl1 ++ O) (.pointer (some aT)) ((l[j]!).no), isV (vI ((l[j]!).no)), fun (vT : Value) (wT : World) => RdL Enc.devop wT (Bl1 ++ O) vT (l), isV (vI ((k : Nat) : Int)), fun (vT : Value) (wT : World) => ∃ aT, vT = .pointer (some aT) ∧ PT Enc.devop wT (Bl1 ++ O) (.pointer (some aT)) (l[k]!), fun (vT : Value) (wT : World) => ∃ aT, vT = .pointer (some aT) ∧ PT Enc.int wT (Bl1 ++ O) (.pointer (some aT)) ((l[k]!).no), isV (vI ((l[k]!).no))] (by kernel_rfl) (by kernel_rfl) (by kernel_rfl) (by kernel_rfl) rfl rfl ⟨fun _ _ _ h k => h.mv (Mv.of_keep k), kI, fun _ _ _ ⟨a, e, h⟩ k => ⟨a, e, h.mv (Mv.of_keep k)⟩, fun _ _ _ ⟨a, e, h⟩ k => ⟨a, e, h.mv (Mv.of_keep k)⟩, kI, fun _ _ _ h k => h.mv (Mv.of_keep k), kI, fun _ _ _ ⟨a, e, h⟩ k => ⟨a, e, h.mv (Mv.of_keep k)⟩, fun _ _ _ ⟨a, e, h⟩ k => ⟨a, e, h.mv (Mv.of_keep k)⟩, kI, kI, kI, fun _ _ _ h k => h.mv (Mv.of_keep k), kI, fun _ _ _ ⟨a, e, h⟩ k => ⟨a, e, h.mv (Mv.of_keep k)⟩, fun _ _ _ ⟨a, e, h⟩ k => ⟨a, e, h.mv (Mv.of_keep k)⟩, kI, fun _ _ _ h k => h.mv (Mv.of_keep k), kI, fun _ _ _ ⟨a, e, h⟩ k => ⟨a, e, h.mv (Mv.of_keep k)⟩, fun _ _ _ ⟨a, e, h⟩ k => ⟨a, e, h.mv (Mv.of_keep k)⟩, kI, trivial⟩ ⟨?_, ?_, ?_, ?_, ?_, ?_, ?_, ?_, ?_, ?_, ?_, ?_, ?_, ?_, ?_, ?_, ?_, ?_, ?_, ?_, ?_, ?_, trivial⟩ ?_
        ·intro F1 w1 k1 hf hd
         have k0 := (Keep.drew [] wl1).trans k1
         have m1 : Mv Bl1 wl1 Bl1 w1 := Mv.of_keep k0
         have h_l := h_l.mv m1
         obtain ⟨F2, rfl⟩ := lit_of (F := F1) [(0, l_v)] ⟨hf 0 (by kernel_rfl), trivial⟩
         exact sp_plain rfl ((o_move (l_v) rfl (⟨(Keep.refl _ _), h_l⟩)))
        ·intro F1 w1 k1 hf hd
         obtain ⟨F2, rfl⟩ := lit_of (F := F1) [(4, vI ((j : Nat) : Int))] ⟨hf 4 (by kernel_rfl), trivial⟩
         exact sp_plain rfl ((o_move (vI ((j : Nat) : Int)) rfl (⟨(Keep.refl _ _), rfl⟩)))
        ·intro F1 w1 k1 hf hd
         obtain ⟨v1832, e1834, hl1833⟩ : ∃ v, F1 42 = v ∧ RdL Enc.devop w1 (Bl1 ++ O) v (l) := ⟨_, rfl, hd 0 42 (by kernel_rfl)⟩
         have := hl1833.len_le
         obtain ⟨F2, rfl⟩ := lit_of (F := F1) [(42, v1832), (43, vI ((j : Nat) : Int))] ⟨e1834, hd 1 43 (by kernel_rfl), trivial⟩
         exact sp_plain rfl ((o_idx Try.underlying26 s_40 .i64 ((j : Nat) : Int) j rfl rfl rfl hl1833 (by omega) fun a1835 hp1836 => (⟨(Keep.refl _ _), ⟨a1835, rfl, hp1836⟩⟩)))
        ·intro F1 w1 k1 hf hd
         obtain ⟨a1837, e1839, hp1838⟩ : ∃ aX_, F1 44 = .pointer (some aX_) ∧ PT Enc.devop w1 (Bl1 ++ O) (.pointer (some aX_)) (l[j]!) := hd 2 44 (by kernel_rfl)
         obtain ⟨F2, rfl⟩ := lit_of (F := F1) [(44, Value.pointer (some a1837))] ⟨e1839, trivial⟩
         exact sp_plain rfl ((o_fieldR 0 f_40_0 ((l[j]!).device) rfl hp1838 (fun _ _ _ h => Enc_devop_f0 h) fun a1840 hp1841 => (⟨(Keep.refl _ _), ⟨a1840, rfl, hp1841⟩⟩)))
        ·intro F1 w1 k1 hf hd
         obtain ⟨a1842, e1844, hp1843⟩ : ∃ aX_, F1 45 = .pointer (some aX_) ∧ PT Enc.int w1 (Bl1 ++ O) (.pointer (some aX_)) ((l[j]!).device) := hd 3 45 (by kernel_rfl)
         obtain ⟨F2, rfl⟩ := lit_of (F := F1) [(45, Value.pointer (some a1842))] ⟨e1844, trivial⟩
         exact sp_plain rfl ((o_loadI Try.underlying3 rfl rfl hp1843 (⟨(Keep.refl _ _), rfl⟩)))
        ·intro F1 w1 k1 hf hd
         have k0 := (Keep.drew [] wl1).trans k1
         have m1 : Mv Bl1 wl1 Bl1 w1 := Mv.of_keep k0
         have h_l := h_l.mv m1
         obtain ⟨F2, rfl⟩ := lit_of (F := F1) [(0, l_v)] ⟨hf 0 (by kernel_rfl), trivial⟩
         exact sp_plain rfl ((o_move (l_v) rfl (⟨(Keep.refl _ _), h_l⟩)))
        ·intro F1 w1 k1 hf hd
         obtain ⟨F2, rfl⟩ := lit_of (F := F1) [(3, vI ((k : Nat) : Int))] ⟨hf 3 (by kernel_rfl), trivial⟩
         exact sp_plain rfl ((o_move (vI ((k : Nat) : Int)) rfl (⟨(Keep.refl _ _), rfl⟩)))
        ·intro F1 w1 k1 hf hd
         obtain ⟨v1845, e1847, hl1846⟩ : ∃ v, F1 47 = v ∧ RdL Enc.devop w1 (Bl1 ++ O) v (l) := ⟨_, rfl, hd 5 47 (by kernel_rfl)⟩
         have := hl1846.len_le
         obtain ⟨F2, rfl⟩ := lit_of (F := F1) [(47, v1845), (48, vI ((k : Nat) : Int))] ⟨e1847, hd 6 48 (by kernel_rfl), trivial⟩
         exact sp_plain rfl ((o_idx Try.underlying26 s_40 .i64 ((k : Nat) : Int) k rfl rfl rfl hl1846 (by omega) fun a1848 hp1849 => (⟨(Keep.refl _ _), ⟨a1848, rfl, hp1849⟩⟩)))
        ·intro F1 w1 k1 hf hd
         obtain ⟨a1850, e1852, hp1851⟩ : ∃ aX_, F1 49 = .pointer (some aX_) ∧ PT Enc.devop w1 (Bl1 ++ O) (.pointer (some aX_)) (l[k]!) := hd 7 49 (by kernel_rfl)
         obtain ⟨F2, rfl⟩ := lit_of (F := F1) [(49, Value.pointer (some a1850))] ⟨e1852, trivial⟩
         exact sp_plain rfl ((o_fieldR 0 f_40_0 ((l[k]!).device) rfl hp1851 (fun _ _ _ h => Enc_devop_f0 h) fun a1853 hp1854 => (⟨(Keep.refl _ _), ⟨a1853, rfl, hp1854⟩⟩)))
        ·intro F1 w1 k1 hf hd
         obtain ⟨a1855, e1857, hp1856⟩ : ∃ aX_, F1 50 = .pointer (some aX_) ∧ PT Enc.int w1 (Bl1 ++ O) (.pointer (some aX_)) ((l[k]!).device) := hd 8 50 (by kernel_rfl)
         obtain ⟨F2, rfl⟩ := lit_of (F := F1) [(50, Value.pointer (some a1855))] ⟨e1857, trivial⟩
         exact sp_plain rfl ((o_loadI Try.underlying3 rfl rfl hp1856 (⟨(Keep.refl _ _), rfl⟩)))
        ·intro F1 w1 k1 hf hd
         obtain ⟨F2, rfl⟩ := lit_of (F := F1) [(46, vI ((l[j]!).device)), (51, vI ((l[k]!).device))] ⟨hd 4 46 (by kernel_rfl), hd 9 51 (by kernel_rfl), trivial⟩
         refine sp_plain rfl ((o_eql .i64 ((l[j]!).device) ((l[k]!).device) rfl rfl (?_)))
         exact ⟨(Keep.refl _ _), congrArg Value.bool (hb1794)⟩
        ·intro F1 w1 k1 hf hd
         obtain ⟨F2, rfl⟩ := lit_of (F := F1) [(52, Value.bool true)] ⟨hd 10 52 (by kernel_rfl), trivial⟩
         exact sp_plain rfl ((o_move (Value.bool true) rfl (⟨(Keep.refl _ _), rfl⟩)))
        ·intro F1 w1 k1 hf hd
         have k0 := (Keep.drew [] wl1).trans k1
         have m1 : Mv Bl1 wl1 Bl1 w1 := Mv.of_keep k0
         have h_l := h_l.mv m1
         obtain ⟨F2, rfl⟩ := lit_of (F := F1) [(0, l_v), (53, Value.bool true)] ⟨hf 0 (by kernel_rfl), hd 11 53 (by kernel_rfl), trivial⟩
         exact sp_take rfl rfl ((o_move (l_v) rfl (⟨(Keep.refl _ _), h_l⟩)))
        ·intro F1 w1 k1 hf hd
         obtain ⟨F2, rfl⟩ := lit_of (F := F1) [(4, vI ((j : Nat) : Int)), (53, Value.bool true)] ⟨hf 4 (by kernel_rfl), hd 11 53 (by kernel_rfl), trivial⟩
         exact sp_take rfl rfl ((o_move (vI ((j : Nat) : Int)) rfl (⟨(Keep.refl _ _), rfl⟩)))
        ·intro F1 w1 k1 hf hd
         obtain ⟨v1858, e1860, hl1859⟩ : ∃ v, F1 54 = v ∧ RdL Enc.devop w1 (Bl1 ++ O) v (l) := ⟨_, rfl, hd 12 54 (by kernel_rfl)⟩
         have := hl1859.len_le
         obtain ⟨F2, rfl⟩ := lit_of (F := F1) [(53, Value.bool true), (54, v1858), (55, vI ((j : Nat) : Int))] ⟨hd 11 53 (by kernel_rfl), e1860, hd 13 55 (by kernel_rfl), trivial⟩
         exact sp_take rfl rfl ((o_idx Try.underlying26 s_40 .i64 ((j : Nat) : Int) j rfl rfl rfl hl1859 (by omega) fun a1861 hp1862 => (⟨(Keep.refl _ _), ⟨a1861, rfl, hp1862⟩⟩)))
        ·intro F1 w1 k1 hf hd
         obtain ⟨a1863, e1865, hp1864⟩ : ∃ aX_, F1 56 = .pointer (some aX_) ∧ PT Enc.devop w1 (Bl1 ++ O) (.pointer (some aX_)) (l[j]!) := hd 14 56 (by kernel_rfl)
         obtain ⟨F2, rfl⟩ := lit_of (F := F1) [(53, Value.bool true), (56, Value.pointer (some a1863))] ⟨hd 11 53 (by kernel_rfl), e1865, trivial⟩
         exact sp_take rfl rfl ((o_fieldR 1 f_40_1 ((l[j]!).no) rfl hp1864 (fun _ _ _ h => Enc_devop_f1 h) fun a1866 hp1867 => (⟨(Keep.refl _ _), ⟨a1866, rfl, hp1867⟩⟩)))
        ·intro F1 w1 k1 hf hd
         obtain ⟨a1868, e1870, hp1869⟩ : ∃ aX_, F1 57 = .pointer (some aX_) ∧ PT Enc.int w1 (Bl1 ++ O) (.pointer (some aX_)) ((l[j]!).no) := hd 15 57 (by kernel_rfl)
         obtain ⟨F2, rfl⟩ := lit_of (F := F1) [(53, Value.bool true), (57, Value.pointer (some a1868))] ⟨hd 11 53 (by kernel_rfl), e1870, trivial⟩
         exact sp_take rfl rfl ((o_loadI Try.underlying3 rfl rfl hp1869 (⟨(Keep.refl _ _), rfl⟩)))
        ·intro F1 w1 k1 hf hd
         have k0 := (Keep.drew [] wl1).trans k1
         have m1 : Mv Bl1 wl1 Bl1 w1 := Mv.of_keep k0
         have h_l := h_l.mv m1
         obtain ⟨F2, rfl⟩ := lit_of (F := F1) [(0, l_v), (53, Value.bool true)] ⟨hf 0 (by kernel_rfl), hd 11 53 (by kernel_rfl), trivial⟩
         exact sp_take rfl rfl ((o_move (l_v) rfl (⟨(Keep.refl _ _), h_l⟩)))
        ·intro F1 w1 k1 hf hd
         obtain ⟨F2, rfl⟩ := lit_of (F := F1) [(3, vI ((k : Nat) : Int)), (53, Value.bool true)] ⟨hf 3 (by kernel_rfl), hd 11 53 (by kernel_rfl), trivial⟩
         exact sp_take rfl rfl ((o_move (vI ((k : Nat) : Int)) rfl (⟨(Keep.refl _ _), rfl⟩)))
        ·intro F1 w1 k1 hf hd
         obtain ⟨v1871, e1873, hl1872⟩ : ∃ v, F1 59 = v ∧ RdL Enc.devop w1 (Bl1 ++ O) v (l) := ⟨_, rfl, hd 17 59 (by kernel_rfl)⟩
         have := hl1872.len_le
         obtain ⟨F2, rfl⟩ := lit_of (F := F1) [(53, Value.bool true), (59, v1871), (60, vI ((k : Nat) : Int))] ⟨hd 11 53 (by kernel_rfl), e1873, hd 18 60 (by kernel_rfl), trivial⟩
         exact sp_take rfl rfl ((o_idx Try.underlying26 s_40 .i64 ((k : Nat) : Int) k rfl rfl rfl hl1872 (by omega) fun a1874 hp1875 => (⟨(Keep.refl _ _), ⟨a1874, rfl, hp1875⟩⟩)))
        ·intro F1 w1 k1 hf hd
         obtain ⟨a1876, e1878, hp1877⟩ : ∃ aX_, F1 61 = .pointer (some aX_) ∧ PT Enc.devop w1 (Bl1 ++ O) (.pointer (some aX_)) (l[k]!) := hd 19 61 (by kernel_rfl)
         obtain ⟨F2, rfl⟩ := lit_of (F := F1) [(53, Value.bool true), (61, Value.pointer (some a1876))] ⟨hd 11 53 (by kernel_rfl), e1878, trivial⟩
         exact sp_take rfl rfl ((o_fieldR 1 f_40_1 ((l[k]!).no) rfl hp1877 (fun _ _ _ h => Enc_devop_f1 h) fun a1879 hp1880 => (⟨(Keep.refl _ _), ⟨a1879, rfl, hp1880⟩⟩)))
        ·intro F1 w1 k1 hf hd
         obtain ⟨a1881, e1883, hp1882⟩ : ∃ aX_, F1 62 = .pointer (some aX_) ∧ PT Enc.int w1 (Bl1 ++ O) (.pointer (some aX_)) ((l[k]!).no) := hd 20 62 (by kernel_rfl)
         obtain ⟨F2, rfl⟩ := lit_of (F := F1) [(53, Value.bool true), (62, Value.pointer (some a1881))] ⟨hd 11 53 (by kernel_rfl), e1883, trivial⟩
         exact sp_take rfl rfl ((o_loadI Try.underlying3 rfl rfl hp1882 (⟨(Keep.refl _ _), rfl⟩)))
        intro F1885 w1886 k1884 hT1887 hF1888
        have s1889 := sl1.call k1884
        have m1890 : Mv Bl1 wl1 Bl1 w1886 := Mv.of_keep k1884
        have h_l := h_l.mv m1890
        obtain ⟨F2, rfl⟩ := lit_of (F := F1885) [(0, l_v), (3, vI ((k : Nat) : Int)), (4, vI ((j : Nat) : Int)), (66, undef), (53, Value.bool true), (58, vI ((l[j]!).no)), (63, vI ((l[k]!).no))] ⟨hF1888 0 (by kernel_rfl), hF1888 3 (by kernel_rfl), hF1888 4 (by kernel_rfl), hF1888 66 (by kernel_rfl), hT1887 11 53 (by kernel_rfl) (by decide), hT1887 16 58 (by kernel_rfl) (by decide), hT1887 21 63 (by kernel_rfl) (by decide), trivial⟩
        clear hT1887 hF1888
        refine wl_t rfl (o_eql .i64 ((l[j]!).no) ((l[k]!).no) rfl rfl (wl_s (o_pickT (Value.bool (((l[j]!).no) == ((l[k]!).no))) rfl rfl (wl_nil (thenQ_n (?_))))))
        refine cw_cond (((l[j]!).no) == ((l[k]!).no)) rfl rfl (fun hc1893 => ?_) (fun hc1893 => ?_)
        ·have hp1894 : (l[j]!).no = (l[k]!).no := by first | simpa using hc1893 | (have e := hc1893; simp at e; omega)
         refine cw_seq (?_)
         refine cw_region (by kernel_rfl) (wl_s (o_assign (vI (420 : Int)) rfl (wl_nil (thenQ_n (?_)))))
         refine cw_ret (blockQ_r (thenQ_r (thenQ_r (blockQ_r (blockQ_r (thenQ_r (thenQ_r (blockQ_r (thenQ_r (end_r rfl (res1 rfl rfl rfl) (?_)))))))))))
         have e : (checkM l) = (420 : Int) := by first | exact chk_len (by omega) | exact chk_val (i := k) (by omega) (by assumption) | exact chk_ord (i := k) (by omega) (by omega) (by assumption) | exact chk_num (i := k) (k := j) (by omega) (by omega) (by assumption) (by assumption) | exact chk_ok hr0_1 (by omega)
         exact ⟨_, rfl, s1889.keep, by rw [e]; exact rfl⟩
        ·have hp1895 : (l[j]!).no ≠ (l[k]!).no := by first | simpa using hc1893 | (have e := hc1893; simp at e; omega)
         refine cw_skip (blockQ_n (thenQ_n (?_)))
         refine cw_region (by kernel_rfl) (wl_s (o_move (vI ((j : Nat) : Int)) rfl (wl_s (o_add .i64 ((j : Nat) : Int) (1 : Int) (((j + 1 : Nat) : Int)) rfl rfl (w64 (by omega) (by omega)) (wl_s (o_assign (vI ((j + 1 : Nat) : Int)) rfl (wl_nil (thenQ_n (?_)))))))))
         exact ⟨_, (by omega), (j + 1), Bl1, (by omega), (num_step hr1_1 (by first | exact num_ne1 (by assumption) | exact num_ne2 (by assumption))), rfl, ⟨_, upds_self _ ⟨rfl, rfl, (by first | rfl | exact congrArg (Value.int _) (by first | omega | (simp))), rfl, trivial⟩⟩, s1889, h_l⟩
      ·have hp1896 : ((k : Nat) : Int) ≤ ((j : Nat) : Int) := by first | simpa using hc1792 | (have e := hc1792; simp at e; omega)
       refine cw_exit (thenQ_x (thenQ_x (blockQ_x (blockQ_n (thenQ_n (?_))))))
       refine cw_region (by kernel_rfl) (wl_s (o_move (vI ((k : Nat) : Int)) rfl (wl_s (o_add .i64 ((k : Nat) : Int) (1 : Int) (((k + 1 : Nat) : Int)) rfl rfl (w64 (by omega) (by omega)) (wl_s (o_assign (vI ((k + 1 : Nat) : Int)) rfl (wl_nil (thenQ_n (?_)))))))))
       exact ⟨_, (by omega), (k + 1), Bl1, (by omega), (pre_step hr0_1 hrc4_0 hrc4_1 (fun q hq => hr1_1 q (by omega))), rfl, ⟨_, upds_self _ ⟨rfl, (by first | rfl | exact congrArg (Value.int _) (by first | omega | (simp))), rfl, trivial⟩⟩, sl1, h_l⟩
   ·have hp1897 : (l.length : Int) ≤ ((k : Nat) : Int) := by first | simpa using hc1680 | (have e := hc1680; simp at e; omega)
    obtain rfl : k = l.length := by omega
    refine cw_exit (thenQ_x (thenQ_x (blockQ_x (thenQ_n (?_)))))
    refine cw_seq (?_)
    refine cw_region (by kernel_rfl) (wl_s (o_assign (vI (0 : Int)) rfl (wl_nil (thenQ_n (?_)))))
    refine cw_ret (end_r rfl (res1 rfl rfl rfl) (?_))
    have e : (checkM l) = (0 : Int) := by first | exact chk_len (by omega) | exact chk_val (i := k) (by omega) (by assumption) | exact chk_ord (i := k) (by omega) (by omega) (by assumption) | exact chk_num (i := k) (k := j) (by omega) (by omega) (by assumption) (by assumption) | exact chk_ok hr0_1 (by omega)
    exact ⟨_, rfl, sl0.keep, by rw [e]; exact rfl⟩
set_option maxHeartbeats 4000000 in
set_option maxRecDepth 100000 in
theorem c_refHas {O : List Nat} (l_v : Value) (l : List DeviceOp) (o_cs : List Value) (o : DeviceOp) (w : World) (h_l : RdL Enc.devop w O l_v l) (h_o : Enc.devop.rd w O o_cs o) (hO : ∀ b ∈ O, b < w.heap.size) : CallsK Try.prog 37 [l_v, .agg o_cs.toArray] w (fun v _ => v = .bool (l.contains o)) :=  by
 have lim_l := h_l.len_le
 have h_l : RdL Enc.devop w ([] ++ O) l_v l := h_l
 obtain rfl := h_o
 have s0 : St w O w [] := St.start hO
 refine callsK_of 18 Try.func37 rfl rfl (of_decide_eq_true rfl) (fun F0 => ?_)
 refine cw_seq (?_)
 refine cw_region (by kernel_rfl) (wl_s (o_boxR (E := Enc.devop) (Value.agg #[vI o.device, vI o.no, vI o.kind, vI o.copy, vI o.to, vI o.token]) ([vI o.device, vI o.no, vI o.kind, vI o.copy, vI o.to, vI o.token]) o rfl rfl rfl s0 fun a1898 w1899 s1900 m1901 k1902 hp1903 => (?_)))
 have h_l := h_l.mv m1901
 refine wl_s (o_assign (Value.bool false) rfl (wl_nil (thenQ_n (?_))))
 refine cw_seq (?_)
 refine cw_seq (?_)
 refine cw_region (by kernel_rfl) (wl_s (o_assign (vI (0 : Int)) rfl (wl_nil (thenQ_n (?_)))))
 refine cw_block (?_)
 refine cw_loop (fun mI FI wI => ∃ (k : Nat) (B : List Nat), k ≤ l.length ∧ (∀ q, q < k → l[q]! ≠ o) ∧ mI = l.length - k ∧ (∃ F1, FI = upds F1 [(0, l_v), (3, Value.pointer (some a1898)), (5, vI ((k : Nat) : Int)), (18, undef)]) ∧ St w O wI B ∧ RdL Enc.devop wI (B ++ O) (l_v) (l) ∧ PT Enc.devop wI (B ++ O) (.pointer (some a1898)) (o)) (l.length - (0)) ?_ ?_
 ·exact ⟨(0), [], (by omega), (fun q hq => by omega), rfl, ⟨_, upds_self _ ⟨rfl, rfl, (by first | rfl | exact congrArg (Value.int _) (by first | omega | (simp))), rfl, trivial⟩⟩, s1900, h_l, hp1903⟩
 ·intro ml0 F wl0 hI
  clear h_l hp1903
  obtain ⟨k, Bl0, hr0_0, hr0_1, hm0, ⟨Fl0, rfl⟩, sl0, h_l, hp1903⟩ := hI
  refine cw_seq (?_)
  refine cw_seq (?_)
  refine cw_region (by kernel_rfl) (wl_s (o_move (vI ((k : Nat) : Int)) rfl (wl_s (o_move (l_v) rfl (wl_s (o_lenR Try.underlying26 rfl h_l (wl_s (o_lss .i64 ((k : Nat) : Int) (l.length : Int) rfl rfl (wl_nil (thenQ_n (?_)))))))))))
  refine cw_cond (decide (((k : Nat) : Int) < (l.length : Int))) rfl rfl (fun hc1904 => ?_) (fun hc1904 => ?_)
  ·have hp1905 : ((k : Nat) : Int) < (l.length : Int) := by first | simpa using hc1904 | (have e := hc1904; simp at e; omega)
   refine cw_skip (thenQ_n (?_))
   refine cw_seq (?_)
   refine cw_block (?_)
   refine cw_seq (?_)
   refine cw_draw' 5 _ _ [fun (vT : Value) (wT : World) => RdL Enc.devop wT (Bl0 ++ O) vT (l), isV (vI ((k : Nat) : Int)), fun (vT : Value) (wT : World) => ∃ aT, vT = .pointer (some aT) ∧ PT Enc.devop wT (Bl0 ++ O) (.pointer (some aT)) (l[k]!), isV (Value.agg #[vI ((l[k]!).device), vI ((l[k]!).no), vI ((l[k]!).kind), vI ((l[k]!).copy), vI ((l[k]!).to), vI ((l[k]!).token)]), isV (Value.agg #[vI o.device, vI o.no, vI o.kind, vI o.copy, vI o.to, vI o.token])] (by kernel_rfl) (by kernel_rfl) (by kernel_rfl) (by kernel_rfl) rfl rfl ⟨fun _ _ _ h k => h.mv (Mv.of_keep k), kI, fun _ _ _ ⟨a, e, h⟩ k => ⟨a, e, h.mv (Mv.of_keep k)⟩, kI, kI, trivial⟩ ⟨?_, ?_, ?_, ?_, ?_, trivial⟩ ?_
   ·intro F1 w1 k1 hf hd
    have k0 := (Keep.drew [] wl0).trans k1
    have m1 : Mv Bl0 wl0 Bl0 w1 := Mv.of_keep k0
    have h_l := h_l.mv m1
    obtain ⟨F2, rfl⟩ := lit_of (F := F1) [(0, l_v)] ⟨hf 0 (by kernel_rfl), trivial⟩
    exact sp_plain rfl ((o_move (l_v) rfl (⟨(Keep.refl _ _), h_l⟩)))
   ·intro F1 w1 k1 hf hd
    obtain ⟨F2, rfl⟩ := lit_of (F := F1) [(5, vI ((k : Nat) : Int))] ⟨hf 5 (by kernel_rfl), trivial⟩
    exact sp_plain rfl ((o_move (vI ((k : Nat) : Int)) rfl (⟨(Keep.refl _ _), rfl⟩)))
   ·intro F1 w1 k1 hf hd
    obtain ⟨v1906, e1908, hl1907⟩ : ∃ v, F1 12 = v ∧ RdL Enc.devop w1 (Bl0 ++ O) v (l) := ⟨_, rfl, hd 0 12 (by kernel_rfl)⟩
    have := hl1907.len_le
    obtain ⟨F2, rfl⟩ := lit_of (F := F1) [(12, v1906), (13, vI ((k : Nat) : Int))] ⟨e1908, hd 1 13 (by kernel_rfl), trivial⟩
    exact sp_plain rfl ((o_idx Try.underlying26 s_40 .i64 ((k : Nat) : Int) k rfl rfl rfl hl1907 (by omega) fun a1909 hp1910 => (⟨(Keep.refl _ _), ⟨a1909, rfl, hp1910⟩⟩)))
   ·intro F1 w1 k1 hf hd
    obtain ⟨a1911, e1913, hp1912⟩ : ∃ aX_, F1 14 = .pointer (some aX_) ∧ PT Enc.devop w1 (Bl0 ++ O) (.pointer (some aX_)) (l[k]!) := hd 2 14 (by kernel_rfl)
    obtain ⟨F2, rfl⟩ := lit_of (F := F1) [(14, Value.pointer (some a1911))] ⟨e1913, trivial⟩
    refine sp_plain rfl ((o_loadS Try.underlying40 rfl s_40 rfl hp1912 fun cs1914 hs1915 => (?_)))
    obtain rfl := hs1915
    exact ⟨(Keep.refl _ _), rfl⟩
   ·intro F1 w1 k1 hf hd
    have k0 := (Keep.drew [] wl0).trans k1
    have m1 : Mv Bl0 wl0 Bl0 w1 := Mv.of_keep k0
    have hp1903 := hp1903.mv m1
    obtain ⟨F2, rfl⟩ := lit_of (F := F1) [(3, Value.pointer (some a1898))] ⟨hf 3 (by kernel_rfl), trivial⟩
    refine sp_plain rfl ((o_loadS Try.underlying40 rfl s_40 rfl hp1903 fun cs1916 hs1917 => (?_)))
    obtain rfl := hs1917
    exact ⟨(Keep.refl _ _), rfl⟩
   intro F1919 w1920 k1918 hT1921 hF1922
   have s1923 := sl0.call k1918
   have m1924 : Mv Bl0 wl0 Bl0 w1920 := Mv.of_keep k1918
   have h_l := h_l.mv m1924
   have hp1903 := hp1903.mv m1924
   obtain ⟨F2, rfl⟩ := lit_of (F := F1919) [(0, l_v), (3, Value.pointer (some a1898)), (5, vI ((k : Nat) : Int)), (18, undef), (15, Value.agg #[vI ((l[k]!).device), vI ((l[k]!).no), vI ((l[k]!).kind), vI ((l[k]!).copy), vI ((l[k]!).to), vI ((l[k]!).token)]), (16, Value.agg #[vI o.device, vI o.no, vI o.kind, vI o.copy, vI o.to, vI o.token])] ⟨hF1922 0 (by kernel_rfl), hF1922 3 (by kernel_rfl), hF1922 5 (by kernel_rfl), hF1922 18 (by kernel_rfl), hT1921 3 15 (by kernel_rfl) (by decide), hT1921 4 16 (by kernel_rfl) (by decide), trivial⟩
   clear hT1921 hF1922
   refine wl_s (o_eqlF (ks := [true, true, true, true, true, true]) [.inl ((l[k]!).device), .inl ((l[k]!).no), .inl ((l[k]!).kind), .inl ((l[k]!).copy), .inl ((l[k]!).to), .inl ((l[k]!).token)] [.inl o.device, .inl o.no, .inl o.kind, .inl o.copy, .inl o.to, .inl o.token] str_devop flat_devop rfl rfl rfl rfl (cs_devop (l[k]!) o) (wl_nil (thenQ_n (?_))))
   refine cw_cond ((l[k]!) == o) rfl rfl (fun hc1927 => ?_) (fun hc1927 => ?_)
   ·have hp1928 : (l[k]!) = o := by first | simpa using hc1927 | (have e := hc1927; simp at e; omega)
    refine cw_seq (?_)
    refine cw_region (by kernel_rfl) (wl_s (o_assign (Value.bool true) rfl (wl_nil (thenQ_n (?_)))))
    refine cw_ret (blockQ_r (thenQ_r (thenQ_r (blockQ_r (thenQ_r (end_r rfl (res1 rfl rfl rfl) (?_)))))))
    have e : (l.contains o) = true := by first | exact mem_yes (k := k) (by omega) (by assumption) | exact mem_no hr0_1
    exact ⟨_, rfl, s1923.keep, by rw [e]; exact rfl⟩
   ·have hp1929 : (l[k]!) ≠ o := by first | simpa using hc1927 | (have e := hc1927; simp at e; omega)
    refine cw_skip (blockQ_n (thenQ_n (?_)))
    refine cw_region (by kernel_rfl) (wl_s (o_move (vI ((k : Nat) : Int)) rfl (wl_s (o_add .i64 ((k : Nat) : Int) (1 : Int) (((k + 1 : Nat) : Int)) rfl rfl (w64 (by omega) (by omega)) (wl_s (o_assign (vI ((k + 1 : Nat) : Int)) rfl (wl_nil (thenQ_n (?_)))))))))
    exact ⟨_, (by omega), (k + 1), Bl0, (by omega), (ne_step hr0_1 (by assumption)), rfl, ⟨_, upds_self _ ⟨rfl, rfl, (by first | rfl | exact congrArg (Value.int _) (by first | omega | (simp))), rfl, trivial⟩⟩, s1923, h_l, hp1903⟩
  ·have hp1930 : (l.length : Int) ≤ ((k : Nat) : Int) := by first | simpa using hc1904 | (have e := hc1904; simp at e; omega)
   obtain rfl : k = l.length := by omega
   refine cw_exit (thenQ_x (thenQ_x (blockQ_x (thenQ_n (?_)))))
   refine cw_seq (?_)
   refine cw_region (by kernel_rfl) (wl_s (o_assign (Value.bool false) rfl (wl_nil (thenQ_n (?_)))))
   refine cw_ret (end_r rfl (res1 rfl rfl rfl) (?_))
   have e : (l.contains o) = false := by first | exact mem_yes (k := k) (by omega) (by assumption) | exact mem_no hr0_1
   exact ⟨_, rfl, sl0.keep, by rw [e]; exact rfl⟩
set_option maxHeartbeats 4000000 in
set_option maxRecDepth 100000 in
theorem c_refClash {O : List Nat} (l_v : Value) (l : List DeviceOp) (o_cs : List Value) (o : DeviceOp) (w : World) (h_l : RdL Enc.devop w O l_v l) (h_o : Enc.devop.rd w O o_cs o) (hO : ∀ b ∈ O, b < w.heap.size) : CallsK Try.prog 68 [l_v, .agg o_cs.toArray] w (fun v _ => v = .bool (clashM l o)) :=  by
 have lim_l := h_l.len_le
 have h_l : RdL Enc.devop w ([] ++ O) l_v l := h_l
 obtain rfl := h_o
 have s0 : St w O w [] := St.start hO
 refine callsK_of 30 Try.func68 rfl rfl (of_decide_eq_true rfl) (fun F0 => ?_)
 refine cw_seq (?_)
 refine cw_region (by kernel_rfl) (wl_s (o_boxR (E := Enc.devop) (Value.agg #[vI o.device, vI o.no, vI o.kind, vI o.copy, vI o.to, vI o.token]) ([vI o.device, vI o.no, vI o.kind, vI o.copy, vI o.to, vI o.token]) o rfl rfl rfl s0 fun a1931 w1932 s1933 m1934 k1935 hp1936 => (?_)))
 have h_l := h_l.mv m1934
 refine wl_s (o_assign (Value.bool false) rfl (wl_nil (thenQ_n (?_))))
 refine cw_seq (?_)
 refine cw_seq (?_)
 refine cw_region (by kernel_rfl) (wl_s (o_assign (vI (0 : Int)) rfl (wl_nil (thenQ_n (?_)))))
 refine cw_block (?_)
 refine cw_loop (fun mI FI wI => ∃ (k : Nat) (B : List Nat), k ≤ l.length ∧ (∀ q, q < k → numM l[q]! ≠ numM o) ∧ mI = l.length - k ∧ (∃ F1, FI = upds F1 [(0, l_v), (3, Value.pointer (some a1931)), (5, vI ((k : Nat) : Int)), (30, undef)]) ∧ St w O wI B ∧ RdL Enc.devop wI (B ++ O) (l_v) (l) ∧ PT Enc.devop wI (B ++ O) (.pointer (some a1931)) (o)) (l.length - (0)) ?_ ?_
 ·exact ⟨(0), [], (by omega), (fun q hq => by omega), rfl, ⟨_, upds_self _ ⟨rfl, rfl, (by first | rfl | exact congrArg (Value.int _) (by first | omega | (simp))), rfl, trivial⟩⟩, s1933, h_l, hp1936⟩
 ·intro ml0 F wl0 hI
  clear h_l hp1936
  obtain ⟨k, Bl0, hr0_0, hr0_1, hm0, ⟨Fl0, rfl⟩, sl0, h_l, hp1936⟩ := hI
  refine cw_seq (?_)
  refine cw_seq (?_)
  refine cw_region (by kernel_rfl) (wl_s (o_move (vI ((k : Nat) : Int)) rfl (wl_s (o_move (l_v) rfl (wl_s (o_lenR Try.underlying26 rfl h_l (wl_s (o_lss .i64 ((k : Nat) : Int) (l.length : Int) rfl rfl (wl_nil (thenQ_n (?_)))))))))))
  refine cw_cond (decide (((k : Nat) : Int) < (l.length : Int))) rfl rfl (fun hc1937 => ?_) (fun hc1937 => ?_)
  ·have hp1938 : ((k : Nat) : Int) < (l.length : Int) := by first | simpa using hc1937 | (have e := hc1937; simp at e; omega)
   refine cw_skip (thenQ_n (?_))
   refine cw_seq (?_)
   refine cw_block (?_)
   refine cw_seq (?_)
   cases hb1939 : (((l[k]!).device) == o.device)
   ·have hp1940 : (l[k]!).device ≠ o.device := by first | simpa using hb1939 | (have e := hb1939; simp at e; omega)
    refine cw_draw' 16 _ _ [fun (vT : Value) (wT : World) => RdL Enc.devop wT (Bl0 ++ O) vT (l), isV (vI ((k : Nat) : Int)), fun (vT : Value) (wT : World) => ∃ aT, vT = .pointer (some aT) ∧ PT Enc.devop wT (Bl0 ++ O) (.pointer (some aT)) (l[k]!), fun (vT : Value) (wT : World) => ∃ aT, vT = .pointer (some aT) ∧ PT Enc.int wT (Bl0 ++ O) (.pointer (some aT)) ((l[k]!).device), isV (vI ((l[k]!).device)), fun (vT : Value) (wT : World) => ∃ aT, vT = .pointer (some aT) ∧ PT Enc.int wT (Bl0 ++ O) (.pointer (some aT)) (o.device), isV (vI o.device), isV (Value.bool false), isV (Value.bool false), isV undef, isV undef, isV undef, isV undef, isV undef, isV undef, isV undef] (by kernel_rfl) (by kernel_rfl) (by kernel_rfl) (by kernel_rfl) rfl rfl ⟨fun _ _ _ h k => h.mv (Mv.of_keep k), kI, fun _ _ _ ⟨a, e, h⟩ k => ⟨a, e, h.mv (Mv.of_keep k)⟩, fun _ _ _ ⟨a, e, h⟩ k => ⟨a, e, h.mv (Mv.of_keep k)⟩, kI, fun _ _ _ ⟨a, e, h⟩ k => ⟨a, e, h.mv (Mv.of_keep k)⟩, kI, kI, kI, kI, kI, kI, kI, kI, kI, kI, trivial⟩ ⟨?_, ?_, ?_, ?_, ?_, ?_, ?_, ?_, ?_, ?_, ?_, ?_, ?_, ?_, ?_, ?_, trivial⟩ ?_
    ·intro F1 w1 k1 hf hd
     have k0 := (Keep.drew [] wl0).trans k1
     have m1 : Mv Bl0 wl0 Bl0 w1 := Mv.of_keep k0
     have h_l := h_l.mv m1
     obtain ⟨F2, rfl⟩ := lit_of (F := F1) [(0, l_v)] ⟨hf 0 (by kernel_rfl), trivial⟩
     exact sp_plain rfl ((o_move (l_v) rfl (⟨(Keep.refl _ _), h_l⟩)))
    ·intro F1 w1 k1 hf hd
     obtain ⟨F2, rfl⟩ := lit_of (F := F1) [(5, vI ((k : Nat) : Int))] ⟨hf 5 (by kernel_rfl), trivial⟩
     exact sp_plain rfl ((o_move (vI ((k : Nat) : Int)) rfl (⟨(Keep.refl _ _), rfl⟩)))
    ·intro F1 w1 k1 hf hd
     obtain ⟨v1941, e1943, hl1942⟩ : ∃ v, F1 12 = v ∧ RdL Enc.devop w1 (Bl0 ++ O) v (l) := ⟨_, rfl, hd 0 12 (by kernel_rfl)⟩
     have := hl1942.len_le
     obtain ⟨F2, rfl⟩ := lit_of (F := F1) [(12, v1941), (13, vI ((k : Nat) : Int))] ⟨e1943, hd 1 13 (by kernel_rfl), trivial⟩
     exact sp_plain rfl ((o_idx Try.underlying26 s_40 .i64 ((k : Nat) : Int) k rfl rfl rfl hl1942 (by omega) fun a1944 hp1945 => (⟨(Keep.refl _ _), ⟨a1944, rfl, hp1945⟩⟩)))
    ·intro F1 w1 k1 hf hd
     obtain ⟨a1946, e1948, hp1947⟩ : ∃ aX_, F1 14 = .pointer (some aX_) ∧ PT Enc.devop w1 (Bl0 ++ O) (.pointer (some aX_)) (l[k]!) := hd 2 14 (by kernel_rfl)
     obtain ⟨F2, rfl⟩ := lit_of (F := F1) [(14, Value.pointer (some a1946))] ⟨e1948, trivial⟩
     exact sp_plain rfl ((o_fieldR 0 f_40_0 ((l[k]!).device) rfl hp1947 (fun _ _ _ h => Enc_devop_f0 h) fun a1949 hp1950 => (⟨(Keep.refl _ _), ⟨a1949, rfl, hp1950⟩⟩)))
    ·intro F1 w1 k1 hf hd
     obtain ⟨a1951, e1953, hp1952⟩ : ∃ aX_, F1 15 = .pointer (some aX_) ∧ PT Enc.int w1 (Bl0 ++ O) (.pointer (some aX_)) ((l[k]!).device) := hd 3 15 (by kernel_rfl)
     obtain ⟨F2, rfl⟩ := lit_of (F := F1) [(15, Value.pointer (some a1951))] ⟨e1953, trivial⟩
     exact sp_plain rfl ((o_loadI Try.underlying3 rfl rfl hp1952 (⟨(Keep.refl _ _), rfl⟩)))
    ·intro F1 w1 k1 hf hd
     have k0 := (Keep.drew [] wl0).trans k1
     have m1 : Mv Bl0 wl0 Bl0 w1 := Mv.of_keep k0
     have hp1936 := hp1936.mv m1
     obtain ⟨F2, rfl⟩ := lit_of (F := F1) [(3, Value.pointer (some a1931))] ⟨hf 3 (by kernel_rfl), trivial⟩
     exact sp_plain rfl ((o_fieldR 0 f_40_0 (o.device) rfl hp1936 (fun _ _ _ h => Enc_devop_f0 h) fun a1954 hp1955 => (⟨(Keep.refl _ _), ⟨a1954, rfl, hp1955⟩⟩)))
    ·intro F1 w1 k1 hf hd
     obtain ⟨a1956, e1958, hp1957⟩ : ∃ aX_, F1 17 = .pointer (some aX_) ∧ PT Enc.int w1 (Bl0 ++ O) (.pointer (some aX_)) (o.device) := hd 5 17 (by kernel_rfl)
     obtain ⟨F2, rfl⟩ := lit_of (F := F1) [(17, Value.pointer (some a1956))] ⟨e1958, trivial⟩
     exact sp_plain rfl ((o_loadI Try.underlying3 rfl rfl hp1957 (⟨(Keep.refl _ _), rfl⟩)))
    ·intro F1 w1 k1 hf hd
     obtain ⟨F2, rfl⟩ := lit_of (F := F1) [(16, vI ((l[k]!).device)), (18, vI o.device)] ⟨hd 4 16 (by kernel_rfl), hd 6 18 (by kernel_rfl), trivial⟩
     refine sp_plain rfl ((o_eql .i64 ((l[k]!).device) o.device rfl rfl (?_)))
     exact ⟨(Keep.refl _ _), congrArg Value.bool (hb1939)⟩
    ·intro F1 w1 k1 hf hd
     obtain ⟨F2, rfl⟩ := lit_of (F := F1) [(19, Value.bool false)] ⟨hd 7 19 (by kernel_rfl), trivial⟩
     exact sp_plain rfl ((o_move (Value.bool false) rfl (⟨(Keep.refl _ _), rfl⟩)))
    ·intro F1 w1 k1 hf hd
     exact sp_skipD rfl rfl (hd 8 20 (by kernel_rfl)) rfl rfl
    ·intro F1 w1 k1 hf hd
     exact sp_skipD rfl rfl (hd 8 20 (by kernel_rfl)) rfl rfl
    ·intro F1 w1 k1 hf hd
     exact sp_skipD rfl rfl (hd 8 20 (by kernel_rfl)) rfl rfl
    ·intro F1 w1 k1 hf hd
     exact sp_skipD rfl rfl (hd 8 20 (by kernel_rfl)) rfl rfl
    ·intro F1 w1 k1 hf hd
     exact sp_skipD rfl rfl (hd 8 20 (by kernel_rfl)) rfl rfl
    ·intro F1 w1 k1 hf hd
     exact sp_skipD rfl rfl (hd 8 20 (by kernel_rfl)) rfl rfl
    ·intro F1 w1 k1 hf hd
     exact sp_skipD rfl rfl (hd 8 20 (by kernel_rfl)) rfl rfl
    intro F1960 w1961 k1959 hT1962 hF1963
    have s1964 := sl0.call k1959
    have m1965 : Mv Bl0 wl0 Bl0 w1961 := Mv.of_keep k1959
    have h_l := h_l.mv m1965
    have hp1936 := hp1936.mv m1965
    obtain ⟨F2, rfl⟩ := lit_of (F := F1960) [(0, l_v), (3, Value.pointer (some a1931)), (5, vI ((k : Nat) : Int)), (30, undef), (20, Value.bool false)] ⟨hF1963 0 (by kernel_rfl), hF1963 3 (by kernel_rfl), hF1963 5 (by kernel_rfl), hF1963 30 (by kernel_rfl), hT1962 8 20 (by kernel_rfl) (by decide), trivial⟩
    clear hT1962 hF1963
    refine wl_k rfl (wl_s (o_pickF (Value.bool false) rfl rfl (wl_nil (thenQ_n (?_)))))
    refine cw_cond false rfl rfl (fun h => by cases h) (fun _ => ?_)
    refine cw_skip (blockQ_n (thenQ_n (?_)))
    refine cw_region (by kernel_rfl) (wl_s (o_move (vI ((k : Nat) : Int)) rfl (wl_s (o_add .i64 ((k : Nat) : Int) (1 : Int) (((k + 1 : Nat) : Int)) rfl rfl (w64 (by omega) (by omega)) (wl_s (o_assign (vI ((k + 1 : Nat) : Int)) rfl (wl_nil (thenQ_n (?_)))))))))
    exact ⟨_, (by omega), (k + 1), Bl0, (by omega), (nn_step hr0_1 (by first | exact num_ne1 (by assumption) | exact num_ne2 (by assumption))), rfl, ⟨_, upds_self _ ⟨rfl, rfl, (by first | rfl | exact congrArg (Value.int _) (by first | omega | (simp))), rfl, trivial⟩⟩, s1964, h_l, hp1936⟩
   ·have hp1968 : (l[k]!).device = o.device := by first | simpa using hb1939 | (have e := hb1939; simp at e; omega)
    refine cw_draw' 16 _ _ [fun (vT : Value) (wT : World) => RdL Enc.devop wT (Bl0 ++ O) vT (l), isV (vI ((k : Nat) : Int)), fun (vT : Value) (wT : World) => ∃ aT, vT = .pointer (some aT) ∧ PT Enc.devop wT (Bl0 ++ O) (.pointer (some aT)) (l[k]!), fun (vT : Value) (wT : World) => ∃ aT, vT = .pointer (some aT) ∧ PT Enc.int wT (Bl0 ++ O) (.pointer (some aT)) ((l[k]!).device), isV (vI ((l[k]!).device)), fun (vT : Value) (wT : World) => ∃ aT, vT = .pointer (some aT) ∧ PT Enc.int wT (Bl0 ++ O) (.pointer (some aT)) (o.device), isV (vI o.device), isV (Value.bool true), isV (Value.bool true), fun (vT : Value) (wT : World) => RdL Enc.devop wT (Bl0 ++ O) vT (l), isV (vI ((k : Nat) : Int)), fun (vT : Value) (wT : World) => ∃ aT, vT = .pointer (some aT) ∧ PT Enc.devop wT (Bl0 ++ O) (.pointer (some aT)) (l[k]!), fun (vT : Value) (wT : World) => ∃ aT, vT = .pointer (some aT) ∧ PT Enc.int wT (Bl0 ++ O) (.pointer (some aT)) ((l[k]!).no), isV (vI ((l[k]!).no)), fun (vT : Value) (wT : World) => ∃ aT, vT = .pointer (some aT) ∧ PT Enc.int wT (Bl0 ++ O) (.pointer (some aT)) (o.no), isV (vI o.no)] (by kernel_rfl) (by kernel_rfl) (by kernel_rfl) (by kernel_rfl) rfl rfl ⟨fun _ _ _ h k => h.mv (Mv.of_keep k), kI, fun _ _ _ ⟨a, e, h⟩ k => ⟨a, e, h.mv (Mv.of_keep k)⟩, fun _ _ _ ⟨a, e, h⟩ k => ⟨a, e, h.mv (Mv.of_keep k)⟩, kI, fun _ _ _ ⟨a, e, h⟩ k => ⟨a, e, h.mv (Mv.of_keep k)⟩, kI, kI, kI, fun _ _ _ h k => h.mv (Mv.of_keep k), kI, fun _ _ _ ⟨a, e, h⟩ k => ⟨a, e, h.mv (Mv.of_keep k)⟩, fun _ _ _ ⟨a, e, h⟩ k => ⟨a, e, h.mv (Mv.of_keep k)⟩, kI, fun _ _ _ ⟨a, e, h⟩ k => ⟨a, e, h.mv (Mv.of_keep k)⟩, kI, trivial⟩ ⟨?_, ?_, ?_, ?_, ?_, ?_, ?_, ?_, ?_, ?_, ?_, ?_, ?_, ?_, ?_, ?_, trivial⟩ ?_
    ·intro F1 w1 k1 hf hd
     have k0 := (Keep.drew [] wl0).trans k1
     have m1 : Mv Bl0 wl0 Bl0 w1 := Mv.of_keep k0
     have h_l := h_l.mv m1
     obtain ⟨F2, rfl⟩ := lit_of (F := F1) [(0, l_v)] ⟨hf 0 (by kernel_rfl), trivial⟩
     exact sp_plain rfl ((o_move (l_v) rfl (⟨(Keep.refl _ _), h_l⟩)))
    ·intro F1 w1 k1 hf hd
     obtain ⟨F2, rfl⟩ := lit_of (F := F1) [(5, vI ((k : Nat) : Int))] ⟨hf 5 (by kernel_rfl), trivial⟩
     exact sp_plain rfl ((o_move (vI ((k : Nat) : Int)) rfl (⟨(Keep.refl _ _), rfl⟩)))
    ·intro F1 w1 k1 hf hd
     obtain ⟨v1969, e1971, hl1970⟩ : ∃ v, F1 12 = v ∧ RdL Enc.devop w1 (Bl0 ++ O) v (l) := ⟨_, rfl, hd 0 12 (by kernel_rfl)⟩
     have := hl1970.len_le
     obtain ⟨F2, rfl⟩ := lit_of (F := F1) [(12, v1969), (13, vI ((k : Nat) : Int))] ⟨e1971, hd 1 13 (by kernel_rfl), trivial⟩
     exact sp_plain rfl ((o_idx Try.underlying26 s_40 .i64 ((k : Nat) : Int) k rfl rfl rfl hl1970 (by omega) fun a1972 hp1973 => (⟨(Keep.refl _ _), ⟨a1972, rfl, hp1973⟩⟩)))
    ·intro F1 w1 k1 hf hd
     obtain ⟨a1974, e1976, hp1975⟩ : ∃ aX_, F1 14 = .pointer (some aX_) ∧ PT Enc.devop w1 (Bl0 ++ O) (.pointer (some aX_)) (l[k]!) := hd 2 14 (by kernel_rfl)
     obtain ⟨F2, rfl⟩ := lit_of (F := F1) [(14, Value.pointer (some a1974))] ⟨e1976, trivial⟩
     exact sp_plain rfl ((o_fieldR 0 f_40_0 ((l[k]!).device) rfl hp1975 (fun _ _ _ h => Enc_devop_f0 h) fun a1977 hp1978 => (⟨(Keep.refl _ _), ⟨a1977, rfl, hp1978⟩⟩)))
    ·intro F1 w1 k1 hf hd
     obtain ⟨a1979, e1981, hp1980⟩ : ∃ aX_, F1 15 = .pointer (some aX_) ∧ PT Enc.int w1 (Bl0 ++ O) (.pointer (some aX_)) ((l[k]!).device) := hd 3 15 (by kernel_rfl)
     obtain ⟨F2, rfl⟩ := lit_of (F := F1) [(15, Value.pointer (some a1979))] ⟨e1981, trivial⟩
     exact sp_plain rfl ((o_loadI Try.underlying3 rfl rfl hp1980 (⟨(Keep.refl _ _), rfl⟩)))
    ·intro F1 w1 k1 hf hd
     have k0 := (Keep.drew [] wl0).trans k1
     have m1 : Mv Bl0 wl0 Bl0 w1 := Mv.of_keep k0
     have hp1936 := hp1936.mv m1
     obtain ⟨F2, rfl⟩ := lit_of (F := F1) [(3, Value.pointer (some a1931))] ⟨hf 3 (by kernel_rfl), trivial⟩
     exact sp_plain rfl ((o_fieldR 0 f_40_0 (o.device) rfl hp1936 (fun _ _ _ h => Enc_devop_f0 h) fun a1982 hp1983 => (⟨(Keep.refl _ _), ⟨a1982, rfl, hp1983⟩⟩)))
    ·intro F1 w1 k1 hf hd
     obtain ⟨a1984, e1986, hp1985⟩ : ∃ aX_, F1 17 = .pointer (some aX_) ∧ PT Enc.int w1 (Bl0 ++ O) (.pointer (some aX_)) (o.device) := hd 5 17 (by kernel_rfl)
     obtain ⟨F2, rfl⟩ := lit_of (F := F1) [(17, Value.pointer (some a1984))] ⟨e1986, trivial⟩
     exact sp_plain rfl ((o_loadI Try.underlying3 rfl rfl hp1985 (⟨(Keep.refl _ _), rfl⟩)))
    ·intro F1 w1 k1 hf hd
     obtain ⟨F2, rfl⟩ := lit_of (F := F1) [(16, vI ((l[k]!).device)), (18, vI o.device)] ⟨hd 4 16 (by kernel_rfl), hd 6 18 (by kernel_rfl), trivial⟩
     refine sp_plain rfl ((o_eql .i64 ((l[k]!).device) o.device rfl rfl (?_)))
     exact ⟨(Keep.refl _ _), congrArg Value.bool (hb1939)⟩
    ·intro F1 w1 k1 hf hd
     obtain ⟨F2, rfl⟩ := lit_of (F := F1) [(19, Value.bool true)] ⟨hd 7 19 (by kernel_rfl), trivial⟩
     exact sp_plain rfl ((o_move (Value.bool true) rfl (⟨(Keep.refl _ _), rfl⟩)))
    ·intro F1 w1 k1 hf hd
     have k0 := (Keep.drew [] wl0).trans k1
     have m1 : Mv Bl0 wl0 Bl0 w1 := Mv.of_keep k0
     have h_l := h_l.mv m1
     obtain ⟨F2, rfl⟩ := lit_of (F := F1) [(0, l_v), (20, Value.bool true)] ⟨hf 0 (by kernel_rfl), hd 8 20 (by kernel_rfl), trivial⟩
     exact sp_take rfl rfl ((o_move (l_v) rfl (⟨(Keep.refl _ _), h_l⟩)))
    ·intro F1 w1 k1 hf hd
     obtain ⟨F2, rfl⟩ := lit_of (F := F1) [(5, vI ((k : Nat) : Int)), (20, Value.bool true)] ⟨hf 5 (by kernel_rfl), hd 8 20 (by kernel_rfl), trivial⟩
     exact sp_take rfl rfl ((o_move (vI ((k : Nat) : Int)) rfl (⟨(Keep.refl _ _), rfl⟩)))
    ·intro F1 w1 k1 hf hd
     obtain ⟨v1987, e1989, hl1988⟩ : ∃ v, F1 21 = v ∧ RdL Enc.devop w1 (Bl0 ++ O) v (l) := ⟨_, rfl, hd 9 21 (by kernel_rfl)⟩
     have := hl1988.len_le
     obtain ⟨F2, rfl⟩ := lit_of (F := F1) [(20, Value.bool true), (21, v1987), (22, vI ((k : Nat) : Int))] ⟨hd 8 20 (by kernel_rfl), e1989, hd 10 22 (by kernel_rfl), trivial⟩
     exact sp_take rfl rfl ((o_idx Try.underlying26 s_40 .i64 ((k : Nat) : Int) k rfl rfl rfl hl1988 (by omega) fun a1990 hp1991 => (⟨(Keep.refl _ _), ⟨a1990, rfl, hp1991⟩⟩)))
    ·intro F1 w1 k1 hf hd
     obtain ⟨a1992, e1994, hp1993⟩ : ∃ aX_, F1 23 = .pointer (some aX_) ∧ PT Enc.devop w1 (Bl0 ++ O) (.pointer (some aX_)) (l[k]!) := hd 11 23 (by kernel_rfl)
     obtain ⟨F2, rfl⟩ := lit_of (F := F1) [(20, Value.bool true), (23, Value.pointer (some a1992))] ⟨hd 8 20 (by kernel_rfl), e1994, trivial⟩
     exact sp_take rfl rfl ((o_fieldR 1 f_40_1 ((l[k]!).no) rfl hp1993 (fun _ _ _ h => Enc_devop_f1 h) fun a1995 hp1996 => (⟨(Keep.refl _ _), ⟨a1995, rfl, hp1996⟩⟩)))
    ·intro F1 w1 k1 hf hd
     obtain ⟨a1997, e1999, hp1998⟩ : ∃ aX_, F1 24 = .pointer (some aX_) ∧ PT Enc.int w1 (Bl0 ++ O) (.pointer (some aX_)) ((l[k]!).no) := hd 12 24 (by kernel_rfl)
     obtain ⟨F2, rfl⟩ := lit_of (F := F1) [(20, Value.bool true), (24, Value.pointer (some a1997))] ⟨hd 8 20 (by kernel_rfl), e1999, trivial⟩
     exact sp_take rfl rfl ((o_loadI Try.underlying3 rfl rfl hp1998 (⟨(Keep.refl _ _), rfl⟩)))
    ·intro F1 w1 k1 hf hd
     have k0 := (Keep.drew [] wl0).trans k1
     have m1 : Mv Bl0 wl0 Bl0 w1 := Mv.of_keep k0
     have hp1936 := hp1936.mv m1
     obtain ⟨F2, rfl⟩ := lit_of (F := F1) [(3, Value.pointer (some a1931)), (20, Value.bool true)] ⟨hf 3 (by kernel_rfl), hd 8 20 (by kernel_rfl), trivial⟩
     exact sp_take rfl rfl ((o_fieldR 1 f_40_1 (o.no) rfl hp1936 (fun _ _ _ h => Enc_devop_f1 h) fun a2000 hp2001 => (⟨(Keep.refl _ _), ⟨a2000, rfl, hp2001⟩⟩)))
    ·intro F1 w1 k1 hf hd
     obtain ⟨a2002, e2004, hp2003⟩ : ∃ aX_, F1 26 = .pointer (some aX_) ∧ PT Enc.int w1 (Bl0 ++ O) (.pointer (some aX_)) (o.no) := hd 14 26 (by kernel_rfl)
     obtain ⟨F2, rfl⟩ := lit_of (F := F1) [(20, Value.bool true), (26, Value.pointer (some a2002))] ⟨hd 8 20 (by kernel_rfl), e2004, trivial⟩
     exact sp_take rfl rfl ((o_loadI Try.underlying3 rfl rfl hp2003 (⟨(Keep.refl _ _), rfl⟩)))
    intro F2006 w2007 k2005 hT2008 hF2009
    have s2010 := sl0.call k2005
    have m2011 : Mv Bl0 wl0 Bl0 w2007 := Mv.of_keep k2005
    have h_l := h_l.mv m2011
    have hp1936 := hp1936.mv m2011
    obtain ⟨F2, rfl⟩ := lit_of (F := F2006) [(0, l_v), (3, Value.pointer (some a1931)), (5, vI ((k : Nat) : Int)), (30, undef), (20, Value.bool true), (25, vI ((l[k]!).no)), (27, vI o.no)] ⟨hF2009 0 (by kernel_rfl), hF2009 3 (by kernel_rfl), hF2009 5 (by kernel_rfl), hF2009 30 (by kernel_rfl), hT2008 8 20 (by kernel_rfl) (by decide), hT2008 13 25 (by kernel_rfl) (by decide), hT2008 15 27 (by kernel_rfl) (by decide), trivial⟩
    clear hT2008 hF2009
    refine wl_t rfl (o_eql .i64 ((l[k]!).no) o.no rfl rfl (wl_s (o_pickT (Value.bool (((l[k]!).no) == o.no)) rfl rfl (wl_nil (thenQ_n (?_))))))
    refine cw_cond (((l[k]!).no) == o.no) rfl rfl (fun hc2014 => ?_) (fun hc2014 => ?_)
    ·have hp2015 : (l[k]!).no = o.no := by first | simpa using hc2014 | (have e := hc2014; simp at e; omega)
     refine cw_seq (?_)
     refine cw_region (by kernel_rfl) (wl_s (o_assign (Value.bool true) rfl (wl_nil (thenQ_n (?_)))))
     refine cw_ret (blockQ_r (thenQ_r (thenQ_r (blockQ_r (thenQ_r (end_r rfl (res1 rfl rfl rfl) (?_)))))))
     have e : (clashM l o) = true := by first | exact clash_yes (k := k) (by omega) (by assumption) (by assumption) | exact clash_no hr0_1
     exact ⟨_, rfl, s2010.keep, by rw [e]; exact rfl⟩
    ·have hp2016 : (l[k]!).no ≠ o.no := by first | simpa using hc2014 | (have e := hc2014; simp at e; omega)
     refine cw_skip (blockQ_n (thenQ_n (?_)))
     refine cw_region (by kernel_rfl) (wl_s (o_move (vI ((k : Nat) : Int)) rfl (wl_s (o_add .i64 ((k : Nat) : Int) (1 : Int) (((k + 1 : Nat) : Int)) rfl rfl (w64 (by omega) (by omega)) (wl_s (o_assign (vI ((k + 1 : Nat) : Int)) rfl (wl_nil (thenQ_n (?_)))))))))
     exact ⟨_, (by omega), (k + 1), Bl0, (by omega), (nn_step hr0_1 (by first | exact num_ne1 (by assumption) | exact num_ne2 (by assumption))), rfl, ⟨_, upds_self _ ⟨rfl, rfl, (by first | rfl | exact congrArg (Value.int _) (by first | omega | (simp))), rfl, trivial⟩⟩, s2010, h_l, hp1936⟩
  ·have hp2017 : (l.length : Int) ≤ ((k : Nat) : Int) := by first | simpa using hc1937 | (have e := hc1937; simp at e; omega)
   obtain rfl : k = l.length := by omega
   refine cw_exit (thenQ_x (thenQ_x (blockQ_x (thenQ_n (?_)))))
   refine cw_seq (?_)
   refine cw_region (by kernel_rfl) (wl_s (o_assign (Value.bool false) rfl (wl_nil (thenQ_n (?_)))))
   refine cw_ret (end_r rfl (res1 rfl rfl rfl) (?_))
   have e : (clashM l o) = false := by first | exact clash_yes (k := k) (by omega) (by assumption) (by assumption) | exact clash_no hr0_1
   exact ⟨_, rfl, sl0.keep, by rw [e]; exact rfl⟩
set_option maxHeartbeats 4000000 in
set_option maxRecDepth 100000 in
theorem c_refIns {O : List Nat} (l_v : Value) (l : List DeviceOp) (o_cs : List Value) (o : DeviceOp) (w : World) (h_l : RdL Enc.devop w O l_v l) (h_o : Enc.devop.rd w O o_cs o) (hpre0 : l.length ≤ 1000000) (hO : ∀ b ∈ O, b < w.heap.size) : CallsK Try.prog 69 [l_v, .agg o_cs.toArray] w (fun v w' => ∃ (x0 : Value), v = x0 ∧ RdL Enc.devop w' (O) x0 (insM l o)) :=  by
 have lim_l := h_l.len_le
 have h_l : RdL Enc.devop w ([] ++ O) l_v l := h_l
 obtain rfl := h_o
 have s0 : St w O w [] := St.start hO
 refine callsK_of 32 Try.func69 rfl rfl (of_decide_eq_true rfl) (fun F0 => ?_)
 refine cw_seq (?_)
 refine cw_region (by kernel_rfl) (wl_s (o_boxR (E := Enc.devop) (Value.agg #[vI o.device, vI o.no, vI o.kind, vI o.copy, vI o.to, vI o.token]) ([vI o.device, vI o.no, vI o.kind, vI o.copy, vI o.to, vI o.token]) o rfl rfl rfl s0 fun a2018 w2019 s2020 m2021 k2022 hp2023 => (?_)))
 have h_l := h_l.mv m2021
 refine wl_s (o_assign (Value.slice none 0 0) rfl (wl_nil (thenQ_n (?_))))
 refine cw_seq (?_)
 refine cw_region (by kernel_rfl) (wl_s (o_assign (vI (0 : Int)) rfl (wl_nil (thenQ_n (?_)))))
 refine cw_seq (?_)
 refine cw_block (?_)
 refine cw_loop (fun mI FI wI => ∃ (k : Nat) (B : List Nat), k ≤ l.length ∧ (∀ q, q < k → cmpM l[q]! o < 0) ∧ mI = l.length - k ∧ (∃ F1, FI = upds F1 [(0, l_v), (3, Value.pointer (some a2018)), (5, vI ((k : Nat) : Int)), (32, undef)]) ∧ St w O wI B ∧ RdL Enc.devop wI (B ++ O) (l_v) (l) ∧ PT Enc.devop wI (B ++ O) (.pointer (some a2018)) (o)) (l.length - (0)) ?_ ?_
 ·exact ⟨(0), [], (by omega), (fun q hq => by omega), rfl, ⟨_, upds_self _ ⟨rfl, rfl, (by first | rfl | exact congrArg (Value.int _) (by first | omega | (simp))), rfl, trivial⟩⟩, s2020, h_l, hp2023⟩
 ·intro ml0 F wl0 hI
  clear h_l hp2023
  obtain ⟨k, Bl0, hr0_0, hr0_1, hm0, ⟨Fl0, rfl⟩, sl0, h_l, hp2023⟩ := hI
  refine cw_seq (?_)
  refine cw_seq (?_)
  cases hb2024 : (decide (((k : Nat) : Int) < (l.length : Int)))
  ·have hp2025 : (l.length : Int) ≤ ((k : Nat) : Int) := by first | simpa using hb2024 | (have e := hb2024; simp at e; omega)
   refine cw_draw' 10 _ _ [isV (vI ((k : Nat) : Int)), fun (vT : Value) (wT : World) => RdL Enc.devop wT (Bl0 ++ O) vT (l), isV (vI (l.length : Int)), isV (Value.bool false), isV (Value.bool false), isV undef, isV undef, isV undef, isV undef, isV undef] (by kernel_rfl) (by kernel_rfl) (by kernel_rfl) (by kernel_rfl) rfl rfl ⟨kI, fun _ _ _ h k => h.mv (Mv.of_keep k), kI, kI, kI, kI, kI, kI, kI, kI, trivial⟩ ⟨?_, ?_, ?_, ?_, ?_, ?_, ?_, ?_, ?_, ?_, trivial⟩ ?_
   ·intro F1 w1 k1 hf hd
    obtain ⟨F2, rfl⟩ := lit_of (F := F1) [(5, vI ((k : Nat) : Int))] ⟨hf 5 (by kernel_rfl), trivial⟩
    exact sp_plain rfl ((o_move (vI ((k : Nat) : Int)) rfl (⟨(Keep.refl _ _), rfl⟩)))
   ·intro F1 w1 k1 hf hd
    have k0 := (Keep.drew [] wl0).trans k1
    have m1 : Mv Bl0 wl0 Bl0 w1 := Mv.of_keep k0
    have h_l := h_l.mv m1
    obtain ⟨F2, rfl⟩ := lit_of (F := F1) [(0, l_v)] ⟨hf 0 (by kernel_rfl), trivial⟩
    exact sp_plain rfl ((o_move (l_v) rfl (⟨(Keep.refl _ _), h_l⟩)))
   ·intro F1 w1 k1 hf hd
    obtain ⟨v2026, e2028, hl2027⟩ : ∃ v, F1 7 = v ∧ RdL Enc.devop w1 (Bl0 ++ O) v (l) := ⟨_, rfl, hd 1 7 (by kernel_rfl)⟩
    have := hl2027.len_le
    obtain ⟨F2, rfl⟩ := lit_of (F := F1) [(7, v2026)] ⟨e2028, trivial⟩
    exact sp_plain rfl ((o_lenR Try.underlying26 rfl hl2027 (⟨(Keep.refl _ _), rfl⟩)))
   ·intro F1 w1 k1 hf hd
    obtain ⟨F2, rfl⟩ := lit_of (F := F1) [(6, vI ((k : Nat) : Int)), (8, vI (l.length : Int))] ⟨hd 0 6 (by kernel_rfl), hd 2 8 (by kernel_rfl), trivial⟩
    refine sp_plain rfl ((o_lss .i64 ((k : Nat) : Int) (l.length : Int) rfl rfl (?_)))
    exact ⟨(Keep.refl _ _), congrArg Value.bool (hb2024)⟩
   ·intro F1 w1 k1 hf hd
    obtain ⟨F2, rfl⟩ := lit_of (F := F1) [(9, Value.bool false)] ⟨hd 3 9 (by kernel_rfl), trivial⟩
    exact sp_plain rfl ((o_move (Value.bool false) rfl (⟨(Keep.refl _ _), rfl⟩)))
   ·intro F1 w1 k1 hf hd
    exact sp_skipD rfl rfl (hd 4 10 (by kernel_rfl)) rfl rfl
   ·intro F1 w1 k1 hf hd
    exact sp_skipD rfl rfl (hd 4 10 (by kernel_rfl)) rfl rfl
   ·intro F1 w1 k1 hf hd
    exact sp_skipD rfl rfl (hd 4 10 (by kernel_rfl)) rfl rfl
   ·intro F1 w1 k1 hf hd
    exact sp_skipD rfl rfl (hd 4 10 (by kernel_rfl)) rfl rfl
   ·intro F1 w1 k1 hf hd
    exact sp_skipD rfl rfl (hd 4 10 (by kernel_rfl)) rfl rfl
   intro F2030 w2031 k2029 hT2032 hF2033
   have s2034 := sl0.call k2029
   have m2035 : Mv Bl0 wl0 Bl0 w2031 := Mv.of_keep k2029
   have h_l := h_l.mv m2035
   have hp2023 := hp2023.mv m2035
   obtain ⟨F2, rfl⟩ := lit_of (F := F2030) [(0, l_v), (3, Value.pointer (some a2018)), (5, vI ((k : Nat) : Int)), (32, undef), (10, Value.bool false)] ⟨hF2033 0 (by kernel_rfl), hF2033 3 (by kernel_rfl), hF2033 5 (by kernel_rfl), hF2033 32 (by kernel_rfl), hT2032 4 10 (by kernel_rfl) (by decide), trivial⟩
   clear hT2032 hF2033
   refine wl_k rfl (wl_s (o_pickF (Value.bool false) rfl rfl (wl_nil (thenQ_n (?_)))))
   refine cw_cond false rfl rfl (fun h => by cases h) (fun _ => ?_)
   have htw : twM l o = k := tw_at (by omega) hr0_1 (fun h => by first | assumption | omega)
   refine cw_exit (thenQ_x (thenQ_x (blockQ_x (thenQ_n (?_)))))
   refine cw_seq (?_)
   refine cw_drawU 11 _ _ [TOw w2031 w.heap.size O Enc.devop 40 ([]), fun _ => fun (vT : Value) (_ : World) => RdL Enc.devop w2031 (Bl0 ++ O) vT (l), fun _ => isV (vI ((k : Nat) : Int)), fun _ => fun (vT : Value) (_ : World) => RdL Enc.devop w2031 (Bl0 ++ O) vT ((l.take k)), TOw w2031 w.heap.size O Enc.devop 40 ((l.take k)), fun _ => isV (Value.agg #[vI o.device, vI o.no, vI o.kind, vI o.copy, vI o.to, vI o.token]), fun (BT : List Nat) (vT : Value) (wT : World) => RdL Enc.devop wT (BT ++ O) vT ([o]), TOw w2031 w.heap.size O Enc.devop 40 ((l.take k) ++ ([o])), fun _ => fun (vT : Value) (_ : World) => RdL Enc.devop w2031 (Bl0 ++ O) vT (l), fun _ => isV (vI ((k : Nat) : Int)), fun _ => fun (vT : Value) (_ : World) => RdL Enc.devop w2031 (Bl0 ++ O) vT ((l.drop k))] [⟨1, [], [], [], false, []⟩, ⟨0, [], [], [], false, []⟩, ⟨0, [], [], [], false, []⟩, ⟨0, [], [], [], false, [1, 2]⟩, ⟨1, [1], [], [0], true, [0, 3]⟩, ⟨0, [], [], [], false, []⟩, ⟨2, [], [], [], false, [5]⟩, ⟨1, [1, 2], [2], [0, 4, 6], true, [4, 6]⟩, ⟨0, [], [], [], false, []⟩, ⟨0, [], [], [], false, []⟩, ⟨0, [], [], [], false, [8, 9]⟩] Bl0 (by kernel_rfl) (by kernel_rfl) (by kernel_rfl) (by kernel_rfl) (by kernel_rfl) rfl rfl ⟨TOw.st, fun _ _ _ _ _ h => h, fun _ _ _ _ _ h => h, fun _ _ _ _ _ h => h, TOw.st, fun _ _ _ _ _ h => h, (show ∀ B B2 v w w2, (fun (BT : List Nat) (vT : Value) (wT : World) => RdL Enc.devop wT (BT ++ O) vT ([o])) B v w → Mv B w B2 w2 → (fun (BT : List Nat) (vT : Value) (wT : World) => RdL Enc.devop wT (BT ++ O) vT ([o])) B2 v w2 from fun _ _ _ _ _ h m => h.mv m), TOw.st, fun _ _ _ _ _ h => h, fun _ _ _ _ _ h => h, fun _ _ _ _ _ h => h, trivial⟩ ⟨?_, ?_, ?_, ?_, ?_, ?_, ?_, ?_, ?_, ?_, ?_, trivial⟩ ?_
   ·intro F1 w1 B1_ Bs_ k1 hs_ hl_ hr_ hsep_ hf hd
    have k0 := (Keep.drew [] w2031).trans k1
    have s1 := s2034.adoptL k0 hl_
    obtain ⟨F2, rfl⟩ := lit_of (F := F1) [] trivial
    refine sp_plain rfl ((o_litO (E := Enc.devop) (xs := []) Try.underlying26 s_40 z_40 (by decide) [] [] [] rfl rfl rfl (Parts.nil _ _ _) (of_decide_eq_true rfl) s1 fun v2042 b2044 w2038 e2045 hb2046 s2039 m2040 k2041 hl2043 => (?_)))
    have lo2047 : w2031.heap.size ≤ b2044 := by have := k0.size; omega
    have hi2048 := (hl2043.lt b2044 hb2046).2
    exact ⟨[], k2041, noC, TOw.one hb2046 lo2047 (by intro h; have := lt_of s1 _ h; omega) hl2043⟩
   ·intro F1 w1 B1_ Bs_ k1 hs_ hl_ hr_ hsep_ hf hd
    obtain ⟨F2, rfl⟩ := lit_of (F := F1) [(0, l_v)] ⟨hf 0 (by kernel_rfl), trivial⟩
    exact sp_plain rfl ((o_move (l_v) rfl (⟨[], (Keep.refl _ _), noC, h_l⟩)))
   ·intro F1 w1 B1_ Bs_ k1 hs_ hl_ hr_ hsep_ hf hd
    obtain ⟨F2, rfl⟩ := lit_of (F := F1) [(5, vI ((k : Nat) : Int))] ⟨hf 5 (by kernel_rfl), trivial⟩
    exact sp_plain rfl ((o_move (vI ((k : Nat) : Int)) rfl (⟨[], (Keep.refl _ _), noC, rfl⟩)))
   ·intro F1 w1 B1_ Bs_ k1 hs_ hl_ hr_ hsep_ hf hd
    obtain ⟨v2049, e2051, hl2050⟩ : ∃ v, F1 21 = v ∧ RdL Enc.devop w2031 (Bl0 ++ O) v (l) := ⟨_, rfl, hd 1 21 (by kernel_rfl) (by kernel_rfl)⟩
    have := hl2050.len_le
    obtain ⟨F2, rfl⟩ := lit_of (F := F1) [(21, v2049), (22, vI ((k : Nat) : Int))] ⟨e2051, hd 2 22 (by kernel_rfl) (by kernel_rfl), trivial⟩
    refine sp_plain rfl ((o_sliceRU Try.underlying26 s_40 0 k rfl (.inl ⟨rfl, rfl⟩) (.inr ⟨.tmp 22, .i64, ((k : Nat) : Int), rfl, rfl, rfl⟩) (by omega) (by omega) hl2050 fun v2052 hl2053 => (?_)))
    rw [List.drop_zero] at hl2053
    exact ⟨[], (Keep.refl _ _), noC, hl2053⟩
   ·intro F1 w1 B1_ Bs_ k1 hs_ hl_ hr_ hsep_ hf hd
    have k0 := (Keep.drew [] w2031).trans k1
    obtain ⟨v2054, e2057, hv2055, ho2056⟩ : ∃ v, F1 20 = v ∧ (TOw w2031 w.heap.size O Enc.devop 40 ([])) (Bs_ 1) v w1 := ⟨_, rfl, hd 0 20 (by kernel_rfl) (by kernel_rfl)⟩
    have hi2058 : ∀ b, v2054.ownBlock = some b → b < w1.heap.size := fun b hb => (ho2056.lt b hb).2
    have hn2059 : ∀ b, v2054.ownBlock = some b → w2031.heap.size ≤ b ∧ b ∉ B1_ := fun b hb => ⟨(hv2055 b hb).1, fun h => (hv2055 b hb).2 (hr_ 1 (by kernel_rfl) b h)⟩
    have s0_ := s2034.adoptL k0 hl_
    have hl2_ := own_l hn2059 hi2058 hl_
    have ho2061 := ho2056.mv ((Mv.at_ (hr_ 1 (by kernel_rfl))).app v2054.ownBlock.toList) (Keep.refl [] _) (by simp)
    have hB2060 : ∀ b2, v2054.ownBlock = some b2 → b2 ∈ (v2054.ownBlock.toList ++ B1_) := fun _ h => List.mem_append_left _ (by simp [h])
    have s1 := s2034.adoptL k0 hl2_
    have m1 : Mv Bl0 w2031 (v2054.ownBlock.toList ++ B1_) w1 := Mv.adoptL k0 hl2_
    obtain ⟨v2062, e2064, hl2063⟩ : ∃ v, F1 23 = v ∧ RdL Enc.devop w2031 (Bl0 ++ O) v ((l.take k)) := ⟨_, rfl, hd 3 23 (by kernel_rfl) (by kernel_rfl)⟩
    have := hl2063.len_le
    have hl2063 := hl2063.mv m1
    obtain ⟨F2, rfl⟩ := lit_of (F := F1) [(20, v2054), (23, v2062)] ⟨e2057, e2064, trivial⟩
    refine sp_plain rfl ((o_append (E := Enc.devop) (l := []) (m := (l.take k)) Try.underlying26 i_40 rfl (by decide) rfl rfl ho2061 hl2063 (fun _ hb => .inl hb) hB2060 (by simp only [List.length_append, List.length_cons, List.length_nil, List.length_take, List.length_drop]; omega) (by simp only [List.length_append, List.length_cons, List.length_nil, List.length_take, List.length_drop, maxLen]; omega) s1 fun v2069 w2065 B2071 hB2072 at2073 sub2074 s2066 m2067 k2068 ho2070 => (?_)))
    rw [List.nil_append] at ho2070
    exact ⟨_, k2068, wrote hn2059 hi2058, TOw.grow hn2059 k0.size (lt_of s0_) (at_app at2073) ho2070 hB2072 sub2074⟩
   ·intro F1 w1 B1_ Bs_ k1 hs_ hl_ hr_ hsep_ hf hd
    have k0 := (Keep.drew [] w2031).trans k1
    obtain ⟨F2, rfl⟩ := lit_of (F := F1) [(3, Value.pointer (some a2018))] ⟨hf 3 (by kernel_rfl), trivial⟩
    refine sp_plain rfl ((o_loadSU Try.underlying40 rfl s_40 rfl hp2023 k0 fun cs2075 hs2076 => (?_)))
    obtain rfl := hs2076
    exact ⟨[], (Keep.refl _ _), noC, rfl⟩
   ·intro F1 w1 B1_ Bs_ k1 hs_ hl_ hr_ hsep_ hf hd
    have k0 := (Keep.drew [] w2031).trans k1
    have s1 := s2034.adoptL k0 hl_
    obtain ⟨F2, rfl⟩ := lit_of (F := F1) [(25, Value.agg #[vI o.device, vI o.no, vI o.kind, vI o.copy, vI o.to, vI o.token])] ⟨hd 5 25 (by kernel_rfl) (by kernel_rfl), trivial⟩
    refine sp_plain rfl ((o_lit (E := Enc.devop) (xs := [.tmp 25]) Try.underlying26 s_40 z_40 (by decide) [.agg #[vI o.device, vI o.no, vI o.kind, vI o.copy, vI o.to, vI o.token]] [[vI o.device, vI o.no, vI o.kind, vI o.copy, vI o.to, vI o.token]] [o] rfl rfl rfl (Parts.cons rfl rfl (Parts.nil _ _ _)) (of_decide_eq_true rfl) s1 fun v2081 w2077 s2078 m2079 k2080 hl2082 => (?_)))
    have := hl2082.len_le
    exact ⟨[], k2080, noC, hl2082⟩
   ·intro F1 w1 B1_ Bs_ k1 hs_ hl_ hr_ hsep_ hf hd
    have k0 := (Keep.drew [] w2031).trans k1
    obtain ⟨v2083, e2086, hv2084, ho2085⟩ : ∃ v, F1 24 = v ∧ (TOw w2031 w.heap.size O Enc.devop 40 ((l.take k))) (Bs_ 1) v w1 := ⟨_, rfl, hd 4 24 (by kernel_rfl) (by kernel_rfl)⟩
    have hi2087 : ∀ b, v2083.ownBlock = some b → b < w1.heap.size := fun b hb => (ho2085.lt b hb).2
    have hn2088 : ∀ b, v2083.ownBlock = some b → w2031.heap.size ≤ b ∧ b ∉ B1_ := fun b hb => ⟨(hv2084 b hb).1, fun h => (hv2084 b hb).2 (hr_ 1 (by kernel_rfl) b h)⟩
    have s0_ := s2034.adoptL k0 hl_
    have hl2_ := own_l hn2088 hi2087 hl_
    have ho2090 := ho2085.mv ((Mv.at_ (hr_ 1 (by kernel_rfl))).app v2083.ownBlock.toList) (Keep.refl [] _) (by simp)
    have hB2089 : ∀ b2, v2083.ownBlock = some b2 → b2 ∈ (v2083.ownBlock.toList ++ B1_) := fun _ h => List.mem_append_left _ (by simp [h])
    have s1 := s2034.adoptL k0 hl2_
    have hq2091 := own_q (B1 := B1_) hv2084 hi2087 (fun b h1 h2 h3 => hsep_ 1 2 b (by decide) h1 h2 h3) (hr_ 2 (by kernel_rfl))
    obtain ⟨v2092, e2094, hl2093⟩ : ∃ v, F1 26 = v ∧ RdL Enc.devop w1 ((Bs_ 2) ++ O) v ([o]) := ⟨_, rfl, hd 6 26 (by kernel_rfl) (by kernel_rfl)⟩
    have := hl2093.len_le
    have hl2093 := hl2093.mv (Mv.at_ hq2091)
    obtain ⟨F2, rfl⟩ := lit_of (F := F1) [(24, v2083), (26, v2092)] ⟨e2086, e2094, trivial⟩
    refine sp_plain rfl ((o_append (E := Enc.devop) (l := (l.take k)) (m := [o]) Try.underlying26 i_40 rfl (by decide) rfl rfl ho2090 hl2093 (fun _ hb => .inl hb) hB2089 (by simp only [List.length_append, List.length_cons, List.length_nil, List.length_take, List.length_drop]; omega) (by simp only [List.length_append, List.length_cons, List.length_nil, List.length_take, List.length_drop, maxLen]; omega) s1 fun v2099 w2095 B2101 hB2102 at2103 sub2104 s2096 m2097 k2098 ho2100 => (?_)))
    exact ⟨_, k2098, wrote hn2088 hi2087, TOw.grow hn2088 k0.size (lt_of s0_) (at_app at2103) ho2100 hB2102 sub2104⟩
   ·intro F1 w1 B1_ Bs_ k1 hs_ hl_ hr_ hsep_ hf hd
    obtain ⟨F2, rfl⟩ := lit_of (F := F1) [(0, l_v)] ⟨hf 0 (by kernel_rfl), trivial⟩
    exact sp_plain rfl ((o_move (l_v) rfl (⟨[], (Keep.refl _ _), noC, h_l⟩)))
   ·intro F1 w1 B1_ Bs_ k1 hs_ hl_ hr_ hsep_ hf hd
    obtain ⟨F2, rfl⟩ := lit_of (F := F1) [(5, vI ((k : Nat) : Int))] ⟨hf 5 (by kernel_rfl), trivial⟩
    exact sp_plain rfl ((o_move (vI ((k : Nat) : Int)) rfl (⟨[], (Keep.refl _ _), noC, rfl⟩)))
   ·intro F1 w1 B1_ Bs_ k1 hs_ hl_ hr_ hsep_ hf hd
    obtain ⟨v2105, e2107, hl2106⟩ : ∃ v, F1 28 = v ∧ RdL Enc.devop w2031 (Bl0 ++ O) v (l) := ⟨_, rfl, hd 8 28 (by kernel_rfl) (by kernel_rfl)⟩
    have := hl2106.len_le
    obtain ⟨F2, rfl⟩ := lit_of (F := F1) [(28, v2105), (29, vI ((k : Nat) : Int))] ⟨e2107, hd 9 29 (by kernel_rfl) (by kernel_rfl), trivial⟩
    refine sp_plain rfl ((o_sliceRU Try.underlying26 s_40 k l.length rfl (.inr ⟨.tmp 29, .i64, ((k : Nat) : Int), rfl, rfl, rfl⟩) (.inl ⟨rfl, rfl⟩) (by omega) (by omega) hl2106 fun v2108 hl2109 => (?_)))
    rw [List.take_length] at hl2109
    exact ⟨[], (Keep.refl _ _), noC, hl2109⟩
   intro F2111 w2112 Bs2117 k2110 hB2118 hl2119 sep2120 hT2113 hF2114
   obtain ⟨v2121, e2122, hv2123, ho2124⟩ : ∃ v, F2111 27 = v ∧ (TOw w2031 w.heap.size O Enc.devop 40 ((l.take k) ++ ([o]))) (Bs2117 1) v w2112 := ⟨_, rfl, hT2113 7 27 (by kernel_rfl) (by decide) (by kernel_rfl) (by kernel_rfl)⟩
   have hi2125 : ∀ b, v2121.ownBlock = some b → b < w2112.heap.size := fun b hb => (ho2124.lt b hb).2
   have hl2126 : ∀ x ∈ Bl0, x ∈ Bl0 ∨ (w2031.heap.size ≤ x ∧ x < w2112.heap.size) := fun x hx => .inl hx
   have hsu2127 : ∀ x ∈ Bl0, x ∈ Bl0 := fun x hx => hx
   have hq2128 : ∀ x ∈ Bl0, x ∈ Bs2117 1 := fun x hx => hB2118 1 x hx
   obtain ⟨B2129, hBq2130⟩ : ∃ B_, B_ = v2121.ownBlock.toList ++ Bl0 := ⟨_, rfl⟩
   have hl2131 : ∀ x ∈ B2129, x ∈ Bl0 ∨ (w2031.heap.size ≤ x ∧ x < w2112.heap.size) := by rw [hBq2130]; exact own_l hv2123 hi2125 hl2126
   have hsu2132 : ∀ x ∈ Bl0, x ∈ B2129 := fun x hx => by rw [hBq2130]; exact List.mem_append_right _ (hsu2127 x hx)
   have hB2133 : ∀ b, v2121.ownBlock = some b → b ∈ B2129 := fun b hb => by rw [hBq2130]; exact List.mem_append_left _ (by simp [hb])
   have hq2134 : ∀ x ∈ B2129, x ∈ v2121.ownBlock.toList ++ Bs2117 1 := by rw [hBq2130]; exact fun x hx => (List.mem_append.1 hx).elim (List.mem_append_left _) (fun h => List.mem_append_right _ (hq2128 x h))
   have s2115 := s2034.adoptL k2110 hl2131
   have m2116 : Mv Bl0 w2031 B2129 w2112 := Mv.adoptL k2110 hl2131
   have ho2124 : Own Enc.devop 40 w.heap.size (B2129 ++ O) w2112 v2121 ((l.take k) ++ ([o])) := ho2124.sub (fun x hx => .inl ((List.mem_append.1 hx).elim (fun hx => List.mem_append_left _ (hq2134 x hx)) (fun h => List.mem_append_right _ h)))
   obtain ⟨v2135, e2137, hl2136⟩ : ∃ v, F2111 30 = v ∧ RdL Enc.devop w2031 (Bl0 ++ O) v ((l.drop k)) := ⟨_, rfl, hT2113 10 30 (by kernel_rfl) (by decide) (by kernel_rfl) (by kernel_rfl)⟩
   have := hl2136.len_le
   have hl2136 := hl2136.mv m2116
   obtain ⟨F2, rfl⟩ := lit_of (F := F2111) [(32, undef), (27, v2121), (30, v2135)] ⟨hF2114 32 (by kernel_rfl), e2122, e2137, trivial⟩
   clear hT2113 hF2114 hB2118 hl2119 sep2120
   refine wl_s (o_append (E := Enc.devop) (l := (l.take k) ++ ([o])) (m := (l.drop k)) Try.underlying26 i_40 rfl (by decide) rfl rfl ho2124 hl2136 (fun _ hb => .inl hb) hB2133 (by simp only [List.length_append, List.length_cons, List.length_nil, List.length_take, List.length_drop]; omega) (by simp only [List.length_append, List.length_cons, List.length_nil, List.length_take, List.length_drop, maxLen]; omega) s2115 fun v2142 w2138 B2144 hB2145 at2146 sub2147 s2139 m2140 k2141 ho2143 => (?_))
   refine wl_s (o_assign (v2142) rfl (wl_nil (thenQ_n (?_))))
   refine cw_ret (end_r rfl (res1 rfl rfl rfl) (?_))
   have e : (insM l o) = (((l.take k) ++ ([o])) ++ (l.drop k)) := by unfold insM; rw [htw]
   exact ⟨_, rfl, s2139.keep, by rw [e]; exact ⟨v2142, rfl, ho2143.pub s2139⟩⟩
  ·have hp2148 : ((k : Nat) : Int) < (l.length : Int) := by first | simpa using hb2024 | (have e := hb2024; simp at e; omega)
   refine cw_draw' 10 _ _ [isV (vI ((k : Nat) : Int)), fun (vT : Value) (wT : World) => RdL Enc.devop wT (Bl0 ++ O) vT (l), isV (vI (l.length : Int)), isV (Value.bool true), isV (Value.bool true), fun (vT : Value) (wT : World) => RdL Enc.devop wT (Bl0 ++ O) vT (l), isV (vI ((k : Nat) : Int)), fun (vT : Value) (wT : World) => ∃ aT, vT = .pointer (some aT) ∧ PT Enc.devop wT (Bl0 ++ O) (.pointer (some aT)) (l[k]!), isV (Value.agg #[vI ((l[k]!).device), vI ((l[k]!).no), vI ((l[k]!).kind), vI ((l[k]!).copy), vI ((l[k]!).to), vI ((l[k]!).token)]), isV (Value.agg #[vI o.device, vI o.no, vI o.kind, vI o.copy, vI o.to, vI o.token])] (by kernel_rfl) (by kernel_rfl) (by kernel_rfl) (by kernel_rfl) rfl rfl ⟨kI, fun _ _ _ h k => h.mv (Mv.of_keep k), kI, kI, kI, fun _ _ _ h k => h.mv (Mv.of_keep k), kI, fun _ _ _ ⟨a, e, h⟩ k => ⟨a, e, h.mv (Mv.of_keep k)⟩, kI, kI, trivial⟩ ⟨?_, ?_, ?_, ?_, ?_, ?_, ?_, ?_, ?_, ?_, trivial⟩ ?_
   ·intro F1 w1 k1 hf hd
    obtain ⟨F2, rfl⟩ := lit_of (F := F1) [(5, vI ((k : Nat) : Int))] ⟨hf 5 (by kernel_rfl), trivial⟩
    exact sp_plain rfl ((o_move (vI ((k : Nat) : Int)) rfl (⟨(Keep.refl _ _), rfl⟩)))
   ·intro F1 w1 k1 hf hd
    have k0 := (Keep.drew [] wl0).trans k1
    have m1 : Mv Bl0 wl0 Bl0 w1 := Mv.of_keep k0
    have h_l := h_l.mv m1
    obtain ⟨F2, rfl⟩ := lit_of (F := F1) [(0, l_v)] ⟨hf 0 (by kernel_rfl), trivial⟩
    exact sp_plain rfl ((o_move (l_v) rfl (⟨(Keep.refl _ _), h_l⟩)))
   ·intro F1 w1 k1 hf hd
    obtain ⟨v2149, e2151, hl2150⟩ : ∃ v, F1 7 = v ∧ RdL Enc.devop w1 (Bl0 ++ O) v (l) := ⟨_, rfl, hd 1 7 (by kernel_rfl)⟩
    have := hl2150.len_le
    obtain ⟨F2, rfl⟩ := lit_of (F := F1) [(7, v2149)] ⟨e2151, trivial⟩
    exact sp_plain rfl ((o_lenR Try.underlying26 rfl hl2150 (⟨(Keep.refl _ _), rfl⟩)))
   ·intro F1 w1 k1 hf hd
    obtain ⟨F2, rfl⟩ := lit_of (F := F1) [(6, vI ((k : Nat) : Int)), (8, vI (l.length : Int))] ⟨hd 0 6 (by kernel_rfl), hd 2 8 (by kernel_rfl), trivial⟩
    refine sp_plain rfl ((o_lss .i64 ((k : Nat) : Int) (l.length : Int) rfl rfl (?_)))
    exact ⟨(Keep.refl _ _), congrArg Value.bool (hb2024)⟩
   ·intro F1 w1 k1 hf hd
    obtain ⟨F2, rfl⟩ := lit_of (F := F1) [(9, Value.bool true)] ⟨hd 3 9 (by kernel_rfl), trivial⟩
    exact sp_plain rfl ((o_move (Value.bool true) rfl (⟨(Keep.refl _ _), rfl⟩)))
   ·intro F1 w1 k1 hf hd
    have k0 := (Keep.drew [] wl0).trans k1
    have m1 : Mv Bl0 wl0 Bl0 w1 := Mv.of_keep k0
    have h_l := h_l.mv m1
    obtain ⟨F2, rfl⟩ := lit_of (F := F1) [(0, l_v), (10, Value.bool true)] ⟨hf 0 (by kernel_rfl), hd 4 10 (by kernel_rfl), trivial⟩
    exact sp_take rfl rfl ((o_move (l_v) rfl (⟨(Keep.refl _ _), h_l⟩)))
   ·intro F1 w1 k1 hf hd
    obtain ⟨F2, rfl⟩ := lit_of (F := F1) [(5, vI ((k : Nat) : Int)), (10, Value.bool true)] ⟨hf 5 (by kernel_rfl), hd 4 10 (by kernel_rfl), trivial⟩
    exact sp_take rfl rfl ((o_move (vI ((k : Nat) : Int)) rfl (⟨(Keep.refl _ _), rfl⟩)))
   ·intro F1 w1 k1 hf hd
    obtain ⟨v2152, e2154, hl2153⟩ : ∃ v, F1 11 = v ∧ RdL Enc.devop w1 (Bl0 ++ O) v (l) := ⟨_, rfl, hd 5 11 (by kernel_rfl)⟩
    have := hl2153.len_le
    obtain ⟨F2, rfl⟩ := lit_of (F := F1) [(10, Value.bool true), (11, v2152), (12, vI ((k : Nat) : Int))] ⟨hd 4 10 (by kernel_rfl), e2154, hd 6 12 (by kernel_rfl), trivial⟩
    exact sp_take rfl rfl ((o_idx Try.underlying26 s_40 .i64 ((k : Nat) : Int) k rfl rfl rfl hl2153 (by omega) fun a2155 hp2156 => (⟨(Keep.refl _ _), ⟨a2155, rfl, hp2156⟩⟩)))
   ·intro F1 w1 k1 hf hd
    obtain ⟨a2157, e2159, hp2158⟩ : ∃ aX_, F1 13 = .pointer (some aX_) ∧ PT Enc.devop w1 (Bl0 ++ O) (.pointer (some aX_)) (l[k]!) := hd 7 13 (by kernel_rfl)
    obtain ⟨F2, rfl⟩ := lit_of (F := F1) [(10, Value.bool true), (13, Value.pointer (some a2157))] ⟨hd 4 10 (by kernel_rfl), e2159, trivial⟩
    refine sp_take rfl rfl ((o_loadS Try.underlying40 rfl s_40 rfl hp2158 fun cs2160 hs2161 => (?_)))
    obtain rfl := hs2161
    exact ⟨(Keep.refl _ _), rfl⟩
   ·intro F1 w1 k1 hf hd
    have k0 := (Keep.drew [] wl0).trans k1
    have m1 : Mv Bl0 wl0 Bl0 w1 := Mv.of_keep k0
    have hp2023 := hp2023.mv m1
    obtain ⟨F2, rfl⟩ := lit_of (F := F1) [(3, Value.pointer (some a2018)), (10, Value.bool true)] ⟨hf 3 (by kernel_rfl), hd 4 10 (by kernel_rfl), trivial⟩
    refine sp_take rfl rfl ((o_loadS Try.underlying40 rfl s_40 rfl hp2023 fun cs2162 hs2163 => (?_)))
    obtain rfl := hs2163
    exact ⟨(Keep.refl _ _), rfl⟩
   intro F2165 w2166 k2164 hT2167 hF2168
   have s2169 := sl0.call k2164
   have m2170 : Mv Bl0 wl0 Bl0 w2166 := Mv.of_keep k2164
   have h_l := h_l.mv m2170
   have hp2023 := hp2023.mv m2170
   obtain ⟨F2, rfl⟩ := lit_of (F := F2165) [(0, l_v), (3, Value.pointer (some a2018)), (5, vI ((k : Nat) : Int)), (32, undef), (10, Value.bool true), (14, Value.agg #[vI ((l[k]!).device), vI ((l[k]!).no), vI ((l[k]!).kind), vI ((l[k]!).copy), vI ((l[k]!).to), vI ((l[k]!).token)]), (15, Value.agg #[vI o.device, vI o.no, vI o.kind, vI o.copy, vI o.to, vI o.token])] ⟨hF2168 0 (by kernel_rfl), hF2168 3 (by kernel_rfl), hF2168 5 (by kernel_rfl), hF2168 32 (by kernel_rfl), hT2167 4 10 (by kernel_rfl) (by decide), hT2167 8 14 (by kernel_rfl) (by decide), hT2167 9 15 (by kernel_rfl) (by decide), trivial⟩
   clear hT2167 hF2168
   refine wl_t rfl (o_callK (vs := [Value.agg #[vI ((l[k]!).device), vI ((l[k]!).no), vI ((l[k]!).kind), vI ((l[k]!).copy), vI ((l[k]!).to), vI ((l[k]!).token)], Value.agg #[vI o.device, vI o.no, vI o.kind, vI o.copy, vI o.to, vI o.token]]) enter_71 (c_before (O := Bl0 ++ O) [vI ((l[k]!).device), vI ((l[k]!).no), vI ((l[k]!).kind), vI ((l[k]!).copy), vI ((l[k]!).to), vI ((l[k]!).token)] (l[k]!) [vI o.device, vI o.no, vI o.kind, vI o.copy, vI o.to, vI o.token] o w2166 rfl rfl s2169.lt) rfl s2169 fun v2173 w2174 s2175 m2176 k2177 r2178 => (?_))
   obtain rfl := r2178
   have h_l := h_l.mv m2176
   have hp2023 := hp2023.mv m2176
   refine wl_s (o_pickT (Value.bool (beforeM (l[k]!) o)) rfl rfl (wl_nil (thenQ_n (?_))))
   refine cw_cond (beforeM (l[k]!) o) rfl rfl (fun hc2179 => ?_) (fun hc2179 => ?_)
   ·have hp2180 : (beforeM (l[k]!) o) = true := by first | simpa using hc2179 | (have e := hc2179; simp at e; omega)
    refine cw_skip (thenQ_n (?_))
    refine cw_block (?_)
    refine cw_region (by kernel_rfl) (wl_s (o_move (vI ((k : Nat) : Int)) rfl (wl_s (o_add .i64 ((k : Nat) : Int) (1 : Int) (((k + 1 : Nat) : Int)) rfl rfl (w64 (by omega) (by omega)) (wl_s (o_assign (vI ((k + 1 : Nat) : Int)) rfl (wl_nil (blockQ_n (thenQ_n (?_))))))))))
    exact ⟨_, (by omega), (k + 1), Bl0, (by omega), (lt_step hr0_1 (by assumption)), rfl, ⟨_, upds_self _ ⟨rfl, rfl, (by first | rfl | exact congrArg (Value.int _) (by first | omega | (simp))), rfl, trivial⟩⟩, s2175, h_l, hp2023⟩
   ·have hp2181 : (beforeM (l[k]!) o) = false := by first | simpa using hc2179 | (have e := hc2179; simp at e; omega)
    have htw : twM l o = k := tw_at (by omega) hr0_1 (fun h => by first | assumption | omega)
    refine cw_exit (thenQ_x (thenQ_x (blockQ_x (thenQ_n (?_)))))
    refine cw_seq (?_)
    refine cw_drawU 11 _ _ [TOw w2174 w.heap.size O Enc.devop 40 ([]), fun _ => fun (vT : Value) (_ : World) => RdL Enc.devop w2174 (Bl0 ++ O) vT (l), fun _ => isV (vI ((k : Nat) : Int)), fun _ => fun (vT : Value) (_ : World) => RdL Enc.devop w2174 (Bl0 ++ O) vT ((l.take k)), TOw w2174 w.heap.size O Enc.devop 40 ((l.take k)), fun _ => isV (Value.agg #[vI o.device, vI o.no, vI o.kind, vI o.copy, vI o.to, vI o.token]), fun (BT : List Nat) (vT : Value) (wT : World) => RdL Enc.devop wT (BT ++ O) vT ([o]), TOw w2174 w.heap.size O Enc.devop 40 ((l.take k) ++ ([o])), fun _ => fun (vT : Value) (_ : World) => RdL Enc.devop w2174 (Bl0 ++ O) vT (l), fun _ => isV (vI ((k : Nat) : Int)), fun _ => fun (vT : Value) (_ : World) => RdL Enc.devop w2174 (Bl0 ++ O) vT ((l.drop k))] [⟨1, [], [], [], false, []⟩, ⟨0, [], [], [], false, []⟩, ⟨0, [], [], [], false, []⟩, ⟨0, [], [], [], false, [1, 2]⟩, ⟨1, [1], [], [0], true, [0, 3]⟩, ⟨0, [], [], [], false, []⟩, ⟨2, [], [], [], false, [5]⟩, ⟨1, [1, 2], [2], [0, 4, 6], true, [4, 6]⟩, ⟨0, [], [], [], false, []⟩, ⟨0, [], [], [], false, []⟩, ⟨0, [], [], [], false, [8, 9]⟩] Bl0 (by kernel_rfl) (by kernel_rfl) (by kernel_rfl) (by kernel_rfl) (by kernel_rfl) rfl rfl ⟨TOw.st, fun _ _ _ _ _ h => h, fun _ _ _ _ _ h => h, fun _ _ _ _ _ h => h, TOw.st, fun _ _ _ _ _ h => h, (show ∀ B B2 v w w2, (fun (BT : List Nat) (vT : Value) (wT : World) => RdL Enc.devop wT (BT ++ O) vT ([o])) B v w → Mv B w B2 w2 → (fun (BT : List Nat) (vT : Value) (wT : World) => RdL Enc.devop wT (BT ++ O) vT ([o])) B2 v w2 from fun _ _ _ _ _ h m => h.mv m), TOw.st, fun _ _ _ _ _ h => h, fun _ _ _ _ _ h => h, fun _ _ _ _ _ h => h, trivial⟩ ⟨?_, ?_, ?_, ?_, ?_, ?_, ?_, ?_, ?_, ?_, ?_, trivial⟩ ?_
    ·intro F1 w1 B1_ Bs_ k1 hs_ hl_ hr_ hsep_ hf hd
     have k0 := (Keep.drew [] w2174).trans k1
     have s1 := s2175.adoptL k0 hl_
     obtain ⟨F2, rfl⟩ := lit_of (F := F1) [] trivial
     refine sp_plain rfl ((o_litO (E := Enc.devop) (xs := []) Try.underlying26 s_40 z_40 (by decide) [] [] [] rfl rfl rfl (Parts.nil _ _ _) (of_decide_eq_true rfl) s1 fun v2186 b2188 w2182 e2189 hb2190 s2183 m2184 k2185 hl2187 => (?_)))
     have lo2191 : w2174.heap.size ≤ b2188 := by have := k0.size; omega
     have hi2192 := (hl2187.lt b2188 hb2190).2
     exact ⟨[], k2185, noC, TOw.one hb2190 lo2191 (by intro h; have := lt_of s1 _ h; omega) hl2187⟩
    ·intro F1 w1 B1_ Bs_ k1 hs_ hl_ hr_ hsep_ hf hd
     obtain ⟨F2, rfl⟩ := lit_of (F := F1) [(0, l_v)] ⟨hf 0 (by kernel_rfl), trivial⟩
     exact sp_plain rfl ((o_move (l_v) rfl (⟨[], (Keep.refl _ _), noC, h_l⟩)))
    ·intro F1 w1 B1_ Bs_ k1 hs_ hl_ hr_ hsep_ hf hd
     obtain ⟨F2, rfl⟩ := lit_of (F := F1) [(5, vI ((k : Nat) : Int))] ⟨hf 5 (by kernel_rfl), trivial⟩
     exact sp_plain rfl ((o_move (vI ((k : Nat) : Int)) rfl (⟨[], (Keep.refl _ _), noC, rfl⟩)))
    ·intro F1 w1 B1_ Bs_ k1 hs_ hl_ hr_ hsep_ hf hd
     obtain ⟨v2193, e2195, hl2194⟩ : ∃ v, F1 21 = v ∧ RdL Enc.devop w2174 (Bl0 ++ O) v (l) := ⟨_, rfl, hd 1 21 (by kernel_rfl) (by kernel_rfl)⟩
     have := hl2194.len_le
     obtain ⟨F2, rfl⟩ := lit_of (F := F1) [(21, v2193), (22, vI ((k : Nat) : Int))] ⟨e2195, hd 2 22 (by kernel_rfl) (by kernel_rfl), trivial⟩
     refine sp_plain rfl ((o_sliceRU Try.underlying26 s_40 0 k rfl (.inl ⟨rfl, rfl⟩) (.inr ⟨.tmp 22, .i64, ((k : Nat) : Int), rfl, rfl, rfl⟩) (by omega) (by omega) hl2194 fun v2196 hl2197 => (?_)))
     rw [List.drop_zero] at hl2197
     exact ⟨[], (Keep.refl _ _), noC, hl2197⟩
    ·intro F1 w1 B1_ Bs_ k1 hs_ hl_ hr_ hsep_ hf hd
     have k0 := (Keep.drew [] w2174).trans k1
     obtain ⟨v2198, e2201, hv2199, ho2200⟩ : ∃ v, F1 20 = v ∧ (TOw w2174 w.heap.size O Enc.devop 40 ([])) (Bs_ 1) v w1 := ⟨_, rfl, hd 0 20 (by kernel_rfl) (by kernel_rfl)⟩
     have hi2202 : ∀ b, v2198.ownBlock = some b → b < w1.heap.size := fun b hb => (ho2200.lt b hb).2
     have hn2203 : ∀ b, v2198.ownBlock = some b → w2174.heap.size ≤ b ∧ b ∉ B1_ := fun b hb => ⟨(hv2199 b hb).1, fun h => (hv2199 b hb).2 (hr_ 1 (by kernel_rfl) b h)⟩
     have s0_ := s2175.adoptL k0 hl_
     have hl2_ := own_l hn2203 hi2202 hl_
     have ho2205 := ho2200.mv ((Mv.at_ (hr_ 1 (by kernel_rfl))).app v2198.ownBlock.toList) (Keep.refl [] _) (by simp)
     have hB2204 : ∀ b2, v2198.ownBlock = some b2 → b2 ∈ (v2198.ownBlock.toList ++ B1_) := fun _ h => List.mem_append_left _ (by simp [h])
     have s1 := s2175.adoptL k0 hl2_
     have m1 : Mv Bl0 w2174 (v2198.ownBlock.toList ++ B1_) w1 := Mv.adoptL k0 hl2_
     obtain ⟨v2206, e2208, hl2207⟩ : ∃ v, F1 23 = v ∧ RdL Enc.devop w2174 (Bl0 ++ O) v ((l.take k)) := ⟨_, rfl, hd 3 23 (by kernel_rfl) (by kernel_rfl)⟩
     have := hl2207.len_le
     have hl2207 := hl2207.mv m1
     obtain ⟨F2, rfl⟩ := lit_of (F := F1) [(20, v2198), (23, v2206)] ⟨e2201, e2208, trivial⟩
     refine sp_plain rfl ((o_append (E := Enc.devop) (l := []) (m := (l.take k)) Try.underlying26 i_40 rfl (by decide) rfl rfl ho2205 hl2207 (fun _ hb => .inl hb) hB2204 (by simp only [List.length_append, List.length_cons, List.length_nil, List.length_take, List.length_drop]; omega) (by simp only [List.length_append, List.length_cons, List.length_nil, List.length_take, List.length_drop, maxLen]; omega) s1 fun v2213 w2209 B2215 hB2216 at2217 sub2218 s2210 m2211 k2212 ho2214 => (?_)))
     rw [List.nil_append] at ho2214
     exact ⟨_, k2212, wrote hn2203 hi2202, TOw.grow hn2203 k0.size (lt_of s0_) (at_app at2217) ho2214 hB2216 sub2218⟩
    ·intro F1 w1 B1_ Bs_ k1 hs_ hl_ hr_ hsep_ hf hd
     have k0 := (Keep.drew [] w2174).trans k1
     obtain ⟨F2, rfl⟩ := lit_of (F := F1) [(3, Value.pointer (some a2018))] ⟨hf 3 (by kernel_rfl), trivial⟩
     refine sp_plain rfl ((o_loadSU Try.underlying40 rfl s_40 rfl hp2023 k0 fun cs2219 hs2220 => (?_)))
     obtain rfl := hs2220
     exact ⟨[], (Keep.refl _ _), noC, rfl⟩
    ·intro F1 w1 B1_ Bs_ k1 hs_ hl_ hr_ hsep_ hf hd
     have k0 := (Keep.drew [] w2174).trans k1
     have s1 := s2175.adoptL k0 hl_
     obtain ⟨F2, rfl⟩ := lit_of (F := F1) [(25, Value.agg #[vI o.device, vI o.no, vI o.kind, vI o.copy, vI o.to, vI o.token])] ⟨hd 5 25 (by kernel_rfl) (by kernel_rfl), trivial⟩
     refine sp_plain rfl ((o_lit (E := Enc.devop) (xs := [.tmp 25]) Try.underlying26 s_40 z_40 (by decide) [.agg #[vI o.device, vI o.no, vI o.kind, vI o.copy, vI o.to, vI o.token]] [[vI o.device, vI o.no, vI o.kind, vI o.copy, vI o.to, vI o.token]] [o] rfl rfl rfl (Parts.cons rfl rfl (Parts.nil _ _ _)) (of_decide_eq_true rfl) s1 fun v2225 w2221 s2222 m2223 k2224 hl2226 => (?_)))
     have := hl2226.len_le
     exact ⟨[], k2224, noC, hl2226⟩
    ·intro F1 w1 B1_ Bs_ k1 hs_ hl_ hr_ hsep_ hf hd
     have k0 := (Keep.drew [] w2174).trans k1
     obtain ⟨v2227, e2230, hv2228, ho2229⟩ : ∃ v, F1 24 = v ∧ (TOw w2174 w.heap.size O Enc.devop 40 ((l.take k))) (Bs_ 1) v w1 := ⟨_, rfl, hd 4 24 (by kernel_rfl) (by kernel_rfl)⟩
     have hi2231 : ∀ b, v2227.ownBlock = some b → b < w1.heap.size := fun b hb => (ho2229.lt b hb).2
     have hn2232 : ∀ b, v2227.ownBlock = some b → w2174.heap.size ≤ b ∧ b ∉ B1_ := fun b hb => ⟨(hv2228 b hb).1, fun h => (hv2228 b hb).2 (hr_ 1 (by kernel_rfl) b h)⟩
     have s0_ := s2175.adoptL k0 hl_
     have hl2_ := own_l hn2232 hi2231 hl_
     have ho2234 := ho2229.mv ((Mv.at_ (hr_ 1 (by kernel_rfl))).app v2227.ownBlock.toList) (Keep.refl [] _) (by simp)
     have hB2233 : ∀ b2, v2227.ownBlock = some b2 → b2 ∈ (v2227.ownBlock.toList ++ B1_) := fun _ h => List.mem_append_left _ (by simp [h])
     have s1 := s2175.adoptL k0 hl2_
     have hq2235 := own_q (B1 := B1_) hv2228 hi2231 (fun b h1 h2 h3 => hsep_ 1 2 b (by decide) h1 h2 h3) (hr_ 2 (by kernel_rfl))
     obtain ⟨v2236, e2238, hl2237⟩ : ∃ v, F1 26 = v ∧ RdL Enc.devop w1 ((Bs_ 2) ++ O) v ([o]) := ⟨_, rfl, hd 6 26 (by kernel_rfl) (by kernel_rfl)⟩
     have := hl2237.len_le
     have hl2237 := hl2237.mv (Mv.at_ hq2235)
     obtain ⟨F2, rfl⟩ := lit_of (F := F1) [(24, v2227), (26, v2236)] ⟨e2230, e2238, trivial⟩
     refine sp_plain rfl ((o_append (E := Enc.devop) (l := (l.take k)) (m := [o]) Try.underlying26 i_40 rfl (by decide) rfl rfl ho2234 hl2237 (fun _ hb => .inl hb) hB2233 (by simp only [List.length_append, List.length_cons, List.length_nil, List.length_take, List.length_drop]; omega) (by simp only [List.length_append, List.length_cons, List.length_nil, List.length_take, List.length_drop, maxLen]; omega) s1 fun v2243 w2239 B2245 hB2246 at2247 sub2248 s2240 m2241 k2242 ho2244 => (?_)))
     exact ⟨_, k2242, wrote hn2232 hi2231, TOw.grow hn2232 k0.size (lt_of s0_) (at_app at2247) ho2244 hB2246 sub2248⟩
    ·intro F1 w1 B1_ Bs_ k1 hs_ hl_ hr_ hsep_ hf hd
     obtain ⟨F2, rfl⟩ := lit_of (F := F1) [(0, l_v)] ⟨hf 0 (by kernel_rfl), trivial⟩
     exact sp_plain rfl ((o_move (l_v) rfl (⟨[], (Keep.refl _ _), noC, h_l⟩)))
    ·intro F1 w1 B1_ Bs_ k1 hs_ hl_ hr_ hsep_ hf hd
     obtain ⟨F2, rfl⟩ := lit_of (F := F1) [(5, vI ((k : Nat) : Int))] ⟨hf 5 (by kernel_rfl), trivial⟩
     exact sp_plain rfl ((o_move (vI ((k : Nat) : Int)) rfl (⟨[], (Keep.refl _ _), noC, rfl⟩)))
    ·intro F1 w1 B1_ Bs_ k1 hs_ hl_ hr_ hsep_ hf hd
     obtain ⟨v2249, e2251, hl2250⟩ : ∃ v, F1 28 = v ∧ RdL Enc.devop w2174 (Bl0 ++ O) v (l) := ⟨_, rfl, hd 8 28 (by kernel_rfl) (by kernel_rfl)⟩
     have := hl2250.len_le
     obtain ⟨F2, rfl⟩ := lit_of (F := F1) [(28, v2249), (29, vI ((k : Nat) : Int))] ⟨e2251, hd 9 29 (by kernel_rfl) (by kernel_rfl), trivial⟩
     refine sp_plain rfl ((o_sliceRU Try.underlying26 s_40 k l.length rfl (.inr ⟨.tmp 29, .i64, ((k : Nat) : Int), rfl, rfl, rfl⟩) (.inl ⟨rfl, rfl⟩) (by omega) (by omega) hl2250 fun v2252 hl2253 => (?_)))
     rw [List.take_length] at hl2253
     exact ⟨[], (Keep.refl _ _), noC, hl2253⟩
    intro F2255 w2256 Bs2261 k2254 hB2262 hl2263 sep2264 hT2257 hF2258
    obtain ⟨v2265, e2266, hv2267, ho2268⟩ : ∃ v, F2255 27 = v ∧ (TOw w2174 w.heap.size O Enc.devop 40 ((l.take k) ++ ([o]))) (Bs2261 1) v w2256 := ⟨_, rfl, hT2257 7 27 (by kernel_rfl) (by decide) (by kernel_rfl) (by kernel_rfl)⟩
    have hi2269 : ∀ b, v2265.ownBlock = some b → b < w2256.heap.size := fun b hb => (ho2268.lt b hb).2
    have hl2270 : ∀ x ∈ Bl0, x ∈ Bl0 ∨ (w2174.heap.size ≤ x ∧ x < w2256.heap.size) := fun x hx => .inl hx
    have hsu2271 : ∀ x ∈ Bl0, x ∈ Bl0 := fun x hx => hx
    have hq2272 : ∀ x ∈ Bl0, x ∈ Bs2261 1 := fun x hx => hB2262 1 x hx
    obtain ⟨B2273, hBq2274⟩ : ∃ B_, B_ = v2265.ownBlock.toList ++ Bl0 := ⟨_, rfl⟩
    have hl2275 : ∀ x ∈ B2273, x ∈ Bl0 ∨ (w2174.heap.size ≤ x ∧ x < w2256.heap.size) := by rw [hBq2274]; exact own_l hv2267 hi2269 hl2270
    have hsu2276 : ∀ x ∈ Bl0, x ∈ B2273 := fun x hx => by rw [hBq2274]; exact List.mem_append_right _ (hsu2271 x hx)
    have hB2277 : ∀ b, v2265.ownBlock = some b → b ∈ B2273 := fun b hb => by rw [hBq2274]; exact List.mem_append_left _ (by simp [hb])
    have hq2278 : ∀ x ∈ B2273, x ∈ v2265.ownBlock.toList ++ Bs2261 1 := by rw [hBq2274]; exact fun x hx => (List.mem_append.1 hx).elim (List.mem_append_left _) (fun h => List.mem_append_right _ (hq2272 x h))
    have s2259 := s2175.adoptL k2254 hl2275
    have m2260 : Mv Bl0 w2174 B2273 w2256 := Mv.adoptL k2254 hl2275
    have ho2268 : Own Enc.devop 40 w.heap.size (B2273 ++ O) w2256 v2265 ((l.take k) ++ ([o])) := ho2268.sub (fun x hx => .inl ((List.mem_append.1 hx).elim (fun hx => List.mem_append_left _ (hq2278 x hx)) (fun h => List.mem_append_right _ h)))
    obtain ⟨v2279, e2281, hl2280⟩ : ∃ v, F2255 30 = v ∧ RdL Enc.devop w2174 (Bl0 ++ O) v ((l.drop k)) := ⟨_, rfl, hT2257 10 30 (by kernel_rfl) (by decide) (by kernel_rfl) (by kernel_rfl)⟩
    have := hl2280.len_le
    have hl2280 := hl2280.mv m2260
    obtain ⟨F2, rfl⟩ := lit_of (F := F2255) [(32, undef), (27, v2265), (30, v2279)] ⟨hF2258 32 (by kernel_rfl), e2266, e2281, trivial⟩
    clear hT2257 hF2258 hB2262 hl2263 sep2264
    refine wl_s (o_append (E := Enc.devop) (l := (l.take k) ++ ([o])) (m := (l.drop k)) Try.underlying26 i_40 rfl (by decide) rfl rfl ho2268 hl2280 (fun _ hb => .inl hb) hB2277 (by simp only [List.length_append, List.length_cons, List.length_nil, List.length_take, List.length_drop]; omega) (by simp only [List.length_append, List.length_cons, List.length_nil, List.length_take, List.length_drop, maxLen]; omega) s2259 fun v2286 w2282 B2288 hB2289 at2290 sub2291 s2283 m2284 k2285 ho2287 => (?_))
    refine wl_s (o_assign (v2286) rfl (wl_nil (thenQ_n (?_))))
    refine cw_ret (end_r rfl (res1 rfl rfl rfl) (?_))
    have e : (insM l o) = (((l.take k) ++ ([o])) ++ (l.drop k)) := by unfold insM; rw [htw]
    exact ⟨_, rfl, s2283.keep, by rw [e]; exact ⟨v2286, rfl, ho2287.pub s2283⟩⟩

end Go.Proofs.Ytjpniibleelgiaa
