/- Walks, printed by gen.py. -/
import Derived.Test.YteajcgfcnbdmgaaWaD
import Derived.Test.YteajcgfcnbdmgaaMaB
import Derived.Test.YteajcgfcnbdmgaaMaD
import Derived.Test.YteajcgfcnbdmgaaMaE
import Derived.Test.YteajcgfcnbdmgaaMaS
import Derived.Test.YteajcgfcnbdmgaaFwT
set_option linter.unusedSimpArgs false
set_option linter.unusedVariables false
namespace Go.Proofs.Yteajcgfcnbdmgaa
open Go.Fw Go.RowKit

set_option maxHeartbeats 4000000 in
set_option maxRecDepth 100000 in
theorem c_alike {O : List Nat} (l_v : Value) (l : List Share) (w : World) (h_l : RdL Enc.share w O l_v l) (hO : ∀ b ∈ O, b < w.heap.size) : CallsK Try.prog 55 [l_v] w (fun v _ => v = .bool (alikeM l)) :=  by
 have lim_l := h_l.len_le
 have h_l : RdL Enc.share w ([] ++ O) l_v l := h_l
 have s0 : St w O w [] := St.start hO
 refine callsK_of 75 Try.func55 rfl rfl (of_decide_eq_true rfl) (fun F0 => ?_)
 refine cw_seq (?_)
 refine cw_region (by kernel_rfl) (wl_s (o_assign (Value.bool false) rfl (wl_nil (thenQ_n (?_)))))
 refine cw_seq (?_)
 refine cw_seq (?_)
 refine cw_region (by kernel_rfl) (wl_s (o_move (l_v) rfl (wl_s (o_lenR Try.underlying38 rfl h_l (wl_s (o_eql .i64 (l.length : Int) (0 : Int) rfl rfl (wl_nil (thenQ_n (?_)))))))))
 refine cw_cond ((l.length : Int) == (0 : Int)) rfl rfl (fun hc1708 => ?_) (fun hc1708 => ?_)
 ·have hp1709 : (l.length : Int) = (0 : Int) := by first | simpa using hc1708 | (have e := hc1708; simp at e; omega)
  refine cw_seq (?_)
  refine cw_region (by kernel_rfl) (wl_s (o_assign (Value.bool false) rfl (wl_nil (thenQ_n (?_)))))
  refine cw_ret (thenQ_r (end_r rfl (res1 rfl rfl rfl) (?_)))
  have e : (alikeM l) = false := by first | (rw [hr0_1]; exact scan_some (by omega) (by ((repeat (first | (refine (if_pos ?_).trans ?_; solve | omega | assumption | (simp only [alx]; first | done | omega | assumption) | (simp only [*, dbs]; done)) | (refine (if_neg ?_).trans ?_; solve | omega | assumption | (simp only [alx]; first | done | omega | assumption) | (simp only [*, dbs]; done)))); rfl))) | (rw [hr0_1]; exact scan_end (by omega)) | (unfold alikeM; ((repeat (first | (refine (if_pos ?_).trans ?_; solve | omega | assumption | (simp only [alx]; first | done | omega | assumption) | (simp only [*, dbs]; done)) | (refine (if_neg ?_).trans ?_; solve | omega | assumption | (simp only [alx]; first | done | omega | assumption) | (simp only [*, dbs]; done)))); rfl))
  exact ⟨_, rfl, s0.keep, by rw [e]; exact rfl⟩
 ·have hp1710 : (l.length : Int) ≠ (0 : Int) := by first | simpa using hc1708 | (have e := hc1708; simp at e; omega)
  refine cw_skip (thenQ_n (?_))
  refine cw_seq (?_)
  refine cw_region (by kernel_rfl) (wl_s (o_move (l_v) rfl (wl_s (o_idx Try.underlying38 s_53 .i64 (0 : Int) 0 rfl rfl rfl h_l (by omega) fun a1711 hp1712 => (wl_s (o_loadS Try.underlying53 rfl s_53 rfl hp1712 fun cs1713 hs1714 => (wl_s (o_alloc [vI (0 : Int), vI (0 : Int), vI (0 : Int), vI (0 : Int), Value.slice none 0 0] z_53 rfl s0 fun b1715 w1716 e1721 s1717 m1718 k1719 bx1720 => (?_)))))))))
  clear e1721
  have h_l := h_l.mv m1718
  have hs1714 : Enc.share.rd w1716 ((b1715 :: []) ++ O) cs1713 (l[0]!) := Enc.mv Enc.share (x := l[0]!) hs1714 m1718
  obtain ⟨d1727, rfl, hd1728⟩ := hs1714
  have := hd1728.len_le
  refine wl_n (o_store (vs := [vI ((l[0]!).epoch), vI ((l[0]!).index), vI ((l[0]!).threshold), vI ((l[0]!).many), d1727]) (.agg #[vI ((l[0]!).epoch), vI ((l[0]!).index), vI ((l[0]!).threshold), vI ((l[0]!).many), d1727]) rfl rfl rfl s_53 (fun u hu => by simp only [List.mem_cons, List.not_mem_nil, or_false] at hu; rcases hu with rfl | rfl | rfl | rfl | rfl <;> first | rfl | exact hd1728.oneCell) (by first | assumption | (repeat (first | exact List.mem_cons_self | assumption | apply List.mem_cons_of_mem))) bx1720 (of_decide_eq_true rfl) s1717 fun w1722 s1723 m1724 k1725 bx1726 => (?_))
  have h_l := h_l.mv m1724
  have hd1728 := hd1728.mv m1724
  refine wl_s (o_assign (vI (0 : Int)) rfl (wl_nil (thenQ_n (?_))))
  refine cw_seq (?_)
  refine cw_seq (?_)
  refine cw_region (by kernel_rfl) (wl_s (o_fieldL 2 f_53_2 rfl (wl_s (o_loadBx Try.underlying3 rfl (vI ((l[0]!).threshold)) rfl bx1726 rfl (wl_s (o_lss .i64 ((l[0]!).threshold) (1 : Int) rfl rfl (wl_s (o_move (Value.bool (decide ((l[0]!).threshold < (1 : Int)))) rfl (?_)))))))))
  cases hb1729 : (decide ((l[0]!).threshold < (1 : Int)))
  ·have hp1730 : (1 : Int) ≤ (l[0]!).threshold := by first | simpa using hb1729 | (have e := hb1729; simp at e; omega)
   refine wl_t rfl (o_fieldL 2 f_53_2 rfl (wl_t rfl (o_loadBx Try.underlying3 rfl (vI ((l[0]!).threshold)) rfl bx1726 rfl (wl_t rfl (o_fieldL 3 f_53_3 rfl (wl_t rfl (o_loadBx Try.underlying3 rfl (vI ((l[0]!).many)) rfl bx1726 rfl (wl_t rfl (o_gtr .i64 ((l[0]!).threshold) ((l[0]!).many) rfl rfl (wl_s (o_pickF (Value.bool (decide ((l[0]!).many < (l[0]!).threshold))) rfl rfl (wl_s (o_move (Value.bool (decide ((l[0]!).many < (l[0]!).threshold))) rfl (?_))))))))))))))
   cases hb1731 : (decide ((l[0]!).many < (l[0]!).threshold))
   ·have hp1732 : (l[0]!).threshold ≤ (l[0]!).many := by first | simpa using hb1731 | (have e := hb1731; simp at e; omega)
    refine wl_t rfl (o_fieldL 3 f_53_3 rfl (wl_t rfl (o_loadBx Try.underlying3 rfl (vI ((l[0]!).many)) rfl bx1726 rfl (wl_t rfl (o_gtr .i64 ((l[0]!).many) (8 : Int) rfl rfl (wl_s (o_pickF (Value.bool (decide ((8 : Int) < (l[0]!).many))) rfl rfl (wl_s (o_move (Value.bool (decide ((8 : Int) < (l[0]!).many))) rfl (?_))))))))))
    cases hb1733 : (decide ((8 : Int) < (l[0]!).many))
    ·have hp1734 : (l[0]!).many ≤ (8 : Int) := by first | simpa using hb1733 | (have e := hb1733; simp at e; omega)
     refine wl_t rfl (o_fieldL 4 f_53_4 rfl (wl_t rfl (o_loadBx Try.underlying28 rfl (d1727) rfl bx1726 rfl (wl_t rfl (o_lenR Try.underlying28 rfl hd1728 (wl_t rfl (o_gtr .i64 (((l[0]!).data).length : Int) (64 : Int) rfl rfl (wl_s (o_pickF (Value.bool (decide ((64 : Int) < (((l[0]!).data).length : Int)))) rfl rfl (wl_nil (thenQ_n (?_))))))))))))
     refine cw_cond (decide ((64 : Int) < (((l[0]!).data).length : Int))) rfl rfl (fun hc1735 => ?_) (fun hc1735 => ?_)
     ·have hp1736 : (64 : Int) < (((l[0]!).data).length : Int) := by first | simpa using hc1735 | (have e := hc1735; simp at e; omega)
      refine cw_seq (?_)
      refine cw_region (by kernel_rfl) (wl_s (o_assign (Value.bool false) rfl (wl_nil (thenQ_n (?_)))))
      refine cw_ret (thenQ_r (end_r rfl (res1 rfl rfl rfl) (?_)))
      have e : (alikeM l) = false := by first | (rw [hr0_1]; exact scan_some (by omega) (by ((repeat (first | (refine (if_pos ?_).trans ?_; solve | omega | assumption | (simp only [alx]; first | done | omega | assumption) | (simp only [*, dbs]; done)) | (refine (if_neg ?_).trans ?_; solve | omega | assumption | (simp only [alx]; first | done | omega | assumption) | (simp only [*, dbs]; done)))); rfl))) | (rw [hr0_1]; exact scan_end (by omega)) | (unfold alikeM; ((repeat (first | (refine (if_pos ?_).trans ?_; solve | omega | assumption | (simp only [alx]; first | done | omega | assumption) | (simp only [*, dbs]; done)) | (refine (if_neg ?_).trans ?_; solve | omega | assumption | (simp only [alx]; first | done | omega | assumption) | (simp only [*, dbs]; done)))); rfl))
      exact ⟨_, rfl, s1723.keep, by rw [e]; exact rfl⟩
     ·have hp1737 : (((l[0]!).data).length : Int) ≤ (64 : Int) := by first | simpa using hc1735 | (have e := hc1735; simp at e; omega)
      refine cw_skip (thenQ_n (?_))
      refine cw_seq (?_)
      refine cw_seq (?_)
      refine cw_region (by kernel_rfl) (wl_s (o_move (l_v) rfl (wl_s (o_lenR Try.underlying38 rfl h_l (wl_s (o_move (vI (0 : Int)) rfl (wl_nil (thenQ_n (?_)))))))))
      refine cw_block (?_)
      refine cw_loop (fun mI FI wI => ∃ (k : Nat) (B : List Nat), k ≤ l.length ∧ alikeM l = scan (fun k => if alDiff l[0]! l[k]! then some false else if alIdx l[0]! l[k]! (alLast l k) then some false else none) true k (l.length - k) ∧ mI = l.length - k ∧ (∃ F1, FI = upds F1 [(3, Value.pointer (some ⟨b1715, 0, none⟩)), (4, vI (alLast l k)), (34, l_v), (35, vI (l.length : Int)), (36, vI ((k : Nat) : Int)), (75, undef)]) ∧ St w O wI B ∧ RdL Enc.share wI (B ++ O) (l_v) (l) ∧ RdL Enc.u8 wI (B ++ O) (d1727) ((l[0]!).data) ∧ Box wI b1715 53 [vI ((l[0]!).epoch), vI ((l[0]!).index), vI ((l[0]!).threshold), vI ((l[0]!).many), d1727] ∧ b1715 ∈ B) (l.length - (0)) ?_ ?_
      ·exact ⟨(0), (b1715 :: []), (by first | omega | (simp; done) | (simp; omega) | simp_all), (by unfold alikeM; ((repeat (first | (refine (if_pos ?_).trans ?_; solve | omega | assumption | (simp only [alx]; first | done | omega | assumption) | (simp only [*, dbs]; done)) | (refine (if_neg ?_).trans ?_; solve | omega | assumption | (simp only [alx]; first | done | omega | assumption) | (simp only [*, dbs]; done)))); rfl)), rfl, ⟨_, upds_self _ ⟨rfl, (by first | rfl | exact congrArg (Value.int _) (by first | omega | (rfl))), rfl, rfl, (by first | rfl | exact congrArg (Value.int _) (by first | omega | (simp))), rfl, trivial⟩⟩, s1723, h_l, hd1728, bx1726, (by first | assumption | (repeat (first | exact List.mem_cons_self | assumption | apply List.mem_cons_of_mem)) | (apply_assumption; assumption))⟩
      ·intro ml0 F wl0 hI
       clear h_l hd1728 bx1726
       obtain ⟨k, Bl0, hr0_0, hr0_1, hm0, ⟨Fl0, rfl⟩, sl0, h_l, hd1728, bx1726, hin_b1715⟩ := hI
       refine cw_seq (?_)
       refine cw_region (by kernel_rfl) (wl_s (o_lss .i64 ((k : Nat) : Int) (l.length : Int) rfl rfl (wl_nil (thenQ_n (?_)))))
       refine cw_seq (?_)
       refine cw_cond (decide (((k : Nat) : Int) < (l.length : Int))) rfl rfl (fun hc1738 => ?_) (fun hc1738 => ?_)
       ·have hp1739 : ((k : Nat) : Int) < (l.length : Int) := by first | simpa using hc1738 | (have e := hc1738; simp at e; omega)
        refine cw_skip (thenQ_n (?_))
        refine cw_seq (?_)
        refine cw_block (?_)
        refine cw_seq (?_)
        refine cw_region (by kernel_rfl) (wl_s (o_idx Try.underlying38 s_53 .i64 ((k : Nat) : Int) k rfl rfl rfl h_l (by omega) fun a1740 hp1741 => (wl_s (o_loadS Try.underlying53 rfl s_53 rfl hp1741 fun cs1742 hs1743 => (wl_s (o_alloc [vI (0 : Int), vI (0 : Int), vI (0 : Int), vI (0 : Int), Value.slice none 0 0] z_53 rfl sl0 fun b1744 w1745 e1750 s1746 m1747 k1748 bx1749 => (?_)))))))
        have ne1751 : b1715 ≠ b1744 := by have := bx1726.lt; omega
        clear e1750
        have h_l := h_l.mv m1747
        have hs1743 : Enc.share.rd w1745 ((b1744 :: Bl0) ++ O) cs1742 (l[k]!) := Enc.mv Enc.share (x := l[k]!) hs1743 m1747
        have hd1728 := hd1728.mv m1747
        have bx1726 := bx1726.keep k1748 (by simp)
        obtain ⟨d1757, rfl, hd1758⟩ := hs1743
        have := hd1758.len_le
        refine wl_n (o_store (vs := [vI ((l[k]!).epoch), vI ((l[k]!).index), vI ((l[k]!).threshold), vI ((l[k]!).many), d1757]) (.agg #[vI ((l[k]!).epoch), vI ((l[k]!).index), vI ((l[k]!).threshold), vI ((l[k]!).many), d1757]) rfl rfl rfl s_53 (fun u hu => by simp only [List.mem_cons, List.not_mem_nil, or_false] at hu; rcases hu with rfl | rfl | rfl | rfl | rfl <;> first | rfl | exact hd1758.oneCell) (by first | assumption | (repeat (first | exact List.mem_cons_self | assumption | apply List.mem_cons_of_mem))) bx1749 (of_decide_eq_true rfl) s1746 fun w1752 s1753 m1754 k1755 bx1756 => (?_))
        have h_l := h_l.mv m1754
        have hd1758 := hd1758.mv m1754
        have hd1728 := hd1728.mv m1754
        have bx1726 := bx1726.keep k1755 (by simp only [List.mem_singleton]; first | omega | exact ne1751)
        refine wl_nil (thenQ_n (?_))
        refine cw_seq (?_)
        refine cw_seq (?_)
        refine cw_region (by kernel_rfl) (wl_s (o_fieldL 2 f_53_2 rfl (wl_s (o_loadBx Try.underlying3 rfl (vI ((l[k]!).threshold)) rfl bx1756 rfl (wl_s (o_fieldL 2 f_53_2 rfl (wl_s (o_loadBx Try.underlying3 rfl (vI ((l[0]!).threshold)) rfl bx1726 rfl (wl_s (o_neq .i64 ((l[k]!).threshold) ((l[0]!).threshold) rfl rfl (wl_s (o_move (Value.bool (((l[k]!).threshold) != ((l[0]!).threshold))) rfl (?_)))))))))))))
        cases hb1759 : (((l[k]!).threshold) != ((l[0]!).threshold))
        ·have hp1760 : (l[k]!).threshold = (l[0]!).threshold := by first | simpa using hb1759 | (have e := hb1759; simp at e; omega)
         refine wl_t rfl (o_fieldL 3 f_53_3 rfl (wl_t rfl (o_loadBx Try.underlying3 rfl (vI ((l[k]!).many)) rfl bx1756 rfl (wl_t rfl (o_fieldL 3 f_53_3 rfl (wl_t rfl (o_loadBx Try.underlying3 rfl (vI ((l[0]!).many)) rfl bx1726 rfl (wl_t rfl (o_neq .i64 ((l[k]!).many) ((l[0]!).many) rfl rfl (wl_s (o_pickF (Value.bool (((l[k]!).many) != ((l[0]!).many))) rfl rfl (wl_s (o_move (Value.bool (((l[k]!).many) != ((l[0]!).many))) rfl (?_))))))))))))))
         cases hb1761 : (((l[k]!).many) != ((l[0]!).many))
         ·have hp1762 : (l[k]!).many = (l[0]!).many := by first | simpa using hb1761 | (have e := hb1761; simp at e; omega)
          refine wl_t rfl (o_fieldL 4 f_53_4 rfl (wl_t rfl (o_loadBx Try.underlying28 rfl (d1757) rfl bx1756 rfl (wl_t rfl (o_lenR Try.underlying28 rfl hd1758 (wl_t rfl (o_fieldL 4 f_53_4 rfl (wl_t rfl (o_loadBx Try.underlying28 rfl (d1727) rfl bx1726 rfl (wl_t rfl (o_lenR Try.underlying28 rfl hd1728 (wl_t rfl (o_neq .i64 (((l[k]!).data).length : Int) (((l[0]!).data).length : Int) rfl rfl (wl_s (o_pickF (Value.bool ((((l[k]!).data).length : Int) != (((l[0]!).data).length : Int))) rfl rfl (wl_nil (thenQ_n (?_))))))))))))))))))
          refine cw_cond ((((l[k]!).data).length : Int) != (((l[0]!).data).length : Int)) rfl rfl (fun hc1763 => ?_) (fun hc1763 => ?_)
          ·have hp1764 : (((l[k]!).data).length : Int) ≠ (((l[0]!).data).length : Int) := by first | simpa using hc1763 | (have e := hc1763; simp at e; omega)
           refine cw_seq (?_)
           refine cw_region (by kernel_rfl) (wl_s (o_assign (Value.bool false) rfl (wl_nil (thenQ_n (?_)))))
           refine cw_ret (thenQ_r (blockQ_r (thenQ_r (thenQ_r (blockQ_r (thenQ_r (end_r rfl (res1 rfl rfl rfl) (?_))))))))
           have e : (alikeM l) = false := by first | (rw [hr0_1]; exact scan_some (by omega) (by ((repeat (first | (refine (if_pos ?_).trans ?_; solve | omega | assumption | (simp only [alx]; first | done | omega | assumption) | (simp only [*, dbs]; done)) | (refine (if_neg ?_).trans ?_; solve | omega | assumption | (simp only [alx]; first | done | omega | assumption) | (simp only [*, dbs]; done)))); rfl))) | (rw [hr0_1]; exact scan_end (by omega)) | (unfold alikeM; ((repeat (first | (refine (if_pos ?_).trans ?_; solve | omega | assumption | (simp only [alx]; first | done | omega | assumption) | (simp only [*, dbs]; done)) | (refine (if_neg ?_).trans ?_; solve | omega | assumption | (simp only [alx]; first | done | omega | assumption) | (simp only [*, dbs]; done)))); rfl))
           exact ⟨_, rfl, s1753.keep, by rw [e]; exact rfl⟩
          ·have hp1765 : (((l[k]!).data).length : Int) = (((l[0]!).data).length : Int) := by first | simpa using hc1763 | (have e := hc1763; simp at e; omega)
           refine cw_skip (thenQ_n (?_))
           refine cw_seq (?_)
           refine cw_seq (?_)
           refine cw_region (by kernel_rfl) (wl_s (o_fieldL 1 f_53_1 rfl (wl_s (o_loadBx Try.underlying3 rfl (vI ((l[k]!).index)) rfl bx1756 rfl (wl_s (o_move (vI (alLast l k)) rfl (wl_s (o_leq .i64 ((l[k]!).index) (alLast l k) rfl rfl (wl_s (o_move (Value.bool (decide ((l[k]!).index ≤ alLast l k))) rfl (?_)))))))))))
           cases hb1766 : (decide ((l[k]!).index ≤ alLast l k))
           ·have hp1767 : alLast l k < (l[k]!).index := by first | simpa using hb1766 | (have e := hb1766; simp at e; omega)
            refine wl_t rfl (o_fieldL 1 f_53_1 rfl (wl_t rfl (o_loadBx Try.underlying3 rfl (vI ((l[k]!).index)) rfl bx1756 rfl (wl_t rfl (o_fieldL 3 f_53_3 rfl (wl_t rfl (o_loadBx Try.underlying3 rfl (vI ((l[0]!).many)) rfl bx1726 rfl (wl_t rfl (o_gtr .i64 ((l[k]!).index) ((l[0]!).many) rfl rfl (wl_s (o_pickF (Value.bool (decide ((l[0]!).many < (l[k]!).index))) rfl rfl (wl_nil (thenQ_n (?_))))))))))))))
            refine cw_cond (decide ((l[0]!).many < (l[k]!).index)) rfl rfl (fun hc1768 => ?_) (fun hc1768 => ?_)
            ·have hp1769 : (l[0]!).many < (l[k]!).index := by first | simpa using hc1768 | (have e := hc1768; simp at e; omega)
             refine cw_seq (?_)
             refine cw_region (by kernel_rfl) (wl_s (o_assign (Value.bool false) rfl (wl_nil (thenQ_n (?_)))))
             refine cw_ret (thenQ_r (blockQ_r (thenQ_r (thenQ_r (blockQ_r (thenQ_r (end_r rfl (res1 rfl rfl rfl) (?_))))))))
             have e : (alikeM l) = false := by first | (rw [hr0_1]; exact scan_some (by omega) (by ((repeat (first | (refine (if_pos ?_).trans ?_; solve | omega | assumption | (simp only [alx]; first | done | omega | assumption) | (simp only [*, dbs]; done)) | (refine (if_neg ?_).trans ?_; solve | omega | assumption | (simp only [alx]; first | done | omega | assumption) | (simp only [*, dbs]; done)))); rfl))) | (rw [hr0_1]; exact scan_end (by omega)) | (unfold alikeM; ((repeat (first | (refine (if_pos ?_).trans ?_; solve | omega | assumption | (simp only [alx]; first | done | omega | assumption) | (simp only [*, dbs]; done)) | (refine (if_neg ?_).trans ?_; solve | omega | assumption | (simp only [alx]; first | done | omega | assumption) | (simp only [*, dbs]; done)))); rfl))
             exact ⟨_, rfl, s1753.keep, by rw [e]; exact rfl⟩
            ·have hp1770 : (l[k]!).index ≤ (l[0]!).many := by first | simpa using hc1768 | (have e := hc1768; simp at e; omega)
             refine cw_skip (thenQ_n (?_))
             refine cw_region (by kernel_rfl) (wl_s (o_fieldL 1 f_53_1 rfl (wl_s (o_loadBx Try.underlying3 rfl (vI ((l[k]!).index)) rfl bx1756 rfl (wl_s (o_assign (vI ((l[k]!).index)) rfl (wl_nil (blockQ_n (thenQ_n (?_))))))))))
             refine cw_region (by kernel_rfl) (wl_s (o_add .i64 ((k : Nat) : Int) (1 : Int) (((k + 1 : Nat) : Int)) rfl rfl (w64 (by omega) (by omega)) (wl_s (o_move (vI ((k + 1 : Nat) : Int)) rfl (wl_nil (thenQ_n (?_)))))))
             exact ⟨_, (by omega), (k + 1), (b1744 :: Bl0), (by first | omega | (simp; done) | (simp; omega) | simp_all), (hr0_1.trans (scan_none (by omega) (by ((repeat (first | (refine (if_pos ?_).trans ?_; solve | omega | assumption | (simp only [alx]; first | done | omega | assumption) | (simp only [*, dbs]; done)) | (refine (if_neg ?_).trans ?_; solve | omega | assumption | (simp only [alx]; first | done | omega | assumption) | (simp only [*, dbs]; done)))); rfl)))), rfl, ⟨_, upds_self _ ⟨rfl, (by first | rfl | exact congrArg (Value.int _) (by first | omega | (simp [alLast]))), rfl, rfl, (by first | rfl | exact congrArg (Value.int _) (by first | omega | (simp))), rfl, trivial⟩⟩, s1753, h_l, hd1728, bx1726, (by first | assumption | (repeat (first | exact List.mem_cons_self | assumption | apply List.mem_cons_of_mem)) | (apply_assumption; assumption))⟩
           ·have hp1771 : (l[k]!).index ≤ alLast l k := by first | simpa using hb1766 | (have e := hb1766; simp at e; omega)
            refine wl_k rfl (wl_k rfl (wl_k rfl (wl_k rfl (wl_k rfl (wl_s (o_pickT (Value.bool true) rfl rfl (wl_nil (thenQ_n (?_)))))))))
            refine cw_cond true rfl rfl (fun _ => ?_) (fun h => by cases h)
            refine cw_seq (?_)
            refine cw_region (by kernel_rfl) (wl_s (o_assign (Value.bool false) rfl (wl_nil (thenQ_n (?_)))))
            refine cw_ret (thenQ_r (blockQ_r (thenQ_r (thenQ_r (blockQ_r (thenQ_r (end_r rfl (res1 rfl rfl rfl) (?_))))))))
            have e : (alikeM l) = false := by first | (rw [hr0_1]; exact scan_some (by omega) (by ((repeat (first | (refine (if_pos ?_).trans ?_; solve | omega | assumption | (simp only [alx]; first | done | omega | assumption) | (simp only [*, dbs]; done)) | (refine (if_neg ?_).trans ?_; solve | omega | assumption | (simp only [alx]; first | done | omega | assumption) | (simp only [*, dbs]; done)))); rfl))) | (rw [hr0_1]; exact scan_end (by omega)) | (unfold alikeM; ((repeat (first | (refine (if_pos ?_).trans ?_; solve | omega | assumption | (simp only [alx]; first | done | omega | assumption) | (simp only [*, dbs]; done)) | (refine (if_neg ?_).trans ?_; solve | omega | assumption | (simp only [alx]; first | done | omega | assumption) | (simp only [*, dbs]; done)))); rfl))
            exact ⟨_, rfl, s1753.keep, by rw [e]; exact rfl⟩
         ·have hp1772 : (l[k]!).many ≠ (l[0]!).many := by first | simpa using hb1761 | (have e := hb1761; simp at e; omega)
          refine wl_k rfl (wl_k rfl (wl_k rfl (wl_k rfl (wl_k rfl (wl_k rfl (wl_k rfl (wl_s (o_pickT (Value.bool true) rfl rfl (wl_nil (thenQ_n (?_)))))))))))
          refine cw_cond true rfl rfl (fun _ => ?_) (fun h => by cases h)
          refine cw_seq (?_)
          refine cw_region (by kernel_rfl) (wl_s (o_assign (Value.bool false) rfl (wl_nil (thenQ_n (?_)))))
          refine cw_ret (thenQ_r (blockQ_r (thenQ_r (thenQ_r (blockQ_r (thenQ_r (end_r rfl (res1 rfl rfl rfl) (?_))))))))
          have e : (alikeM l) = false := by first | (rw [hr0_1]; exact scan_some (by omega) (by ((repeat (first | (refine (if_pos ?_).trans ?_; solve | omega | assumption | (simp only [alx]; first | done | omega | assumption) | (simp only [*, dbs]; done)) | (refine (if_neg ?_).trans ?_; solve | omega | assumption | (simp only [alx]; first | done | omega | assumption) | (simp only [*, dbs]; done)))); rfl))) | (rw [hr0_1]; exact scan_end (by omega)) | (unfold alikeM; ((repeat (first | (refine (if_pos ?_).trans ?_; solve | omega | assumption | (simp only [alx]; first | done | omega | assumption) | (simp only [*, dbs]; done)) | (refine (if_neg ?_).trans ?_; solve | omega | assumption | (simp only [alx]; first | done | omega | assumption) | (simp only [*, dbs]; done)))); rfl))
          exact ⟨_, rfl, s1753.keep, by rw [e]; exact rfl⟩
        ·have hp1773 : (l[k]!).threshold ≠ (l[0]!).threshold := by first | simpa using hb1759 | (have e := hb1759; simp at e; omega)
         refine wl_k rfl (wl_k rfl (wl_k rfl (wl_k rfl (wl_k rfl (wl_s (o_pickT (Value.bool true) rfl rfl (wl_s (o_move (Value.bool true) rfl (wl_k rfl (wl_k rfl (wl_k rfl (wl_k rfl (wl_k rfl (wl_k rfl (wl_k rfl (wl_s (o_pickT (Value.bool true) rfl rfl (wl_nil (thenQ_n (?_))))))))))))))))))))
         refine cw_cond true rfl rfl (fun _ => ?_) (fun h => by cases h)
         refine cw_seq (?_)
         refine cw_region (by kernel_rfl) (wl_s (o_assign (Value.bool false) rfl (wl_nil (thenQ_n (?_)))))
         refine cw_ret (thenQ_r (blockQ_r (thenQ_r (thenQ_r (blockQ_r (thenQ_r (end_r rfl (res1 rfl rfl rfl) (?_))))))))
         have e : (alikeM l) = false := by first | (rw [hr0_1]; exact scan_some (by omega) (by ((repeat (first | (refine (if_pos ?_).trans ?_; solve | omega | assumption | (simp only [alx]; first | done | omega | assumption) | (simp only [*, dbs]; done)) | (refine (if_neg ?_).trans ?_; solve | omega | assumption | (simp only [alx]; first | done | omega | assumption) | (simp only [*, dbs]; done)))); rfl))) | (rw [hr0_1]; exact scan_end (by omega)) | (unfold alikeM; ((repeat (first | (refine (if_pos ?_).trans ?_; solve | omega | assumption | (simp only [alx]; first | done | omega | assumption) | (simp only [*, dbs]; done)) | (refine (if_neg ?_).trans ?_; solve | omega | assumption | (simp only [alx]; first | done | omega | assumption) | (simp only [*, dbs]; done)))); rfl))
         exact ⟨_, rfl, s1753.keep, by rw [e]; exact rfl⟩
       ·have hp1774 : (l.length : Int) ≤ ((k : Nat) : Int) := by first | simpa using hc1738 | (have e := hc1738; simp at e; omega)
        refine cw_exit (thenQ_x (thenQ_x (blockQ_x (thenQ_n (?_)))))
        refine cw_seq (?_)
        refine cw_region (by kernel_rfl) (wl_s (o_assign (Value.bool true) rfl (wl_nil (thenQ_n (?_)))))
        refine cw_ret (end_r rfl (res1 rfl rfl rfl) (?_))
        have e : (alikeM l) = true := by first | (rw [hr0_1]; exact scan_some (by omega) (by ((repeat (first | (refine (if_pos ?_).trans ?_; solve | omega | assumption | (simp only [alx]; first | done | omega | assumption) | (simp only [*, dbs]; done)) | (refine (if_neg ?_).trans ?_; solve | omega | assumption | (simp only [alx]; first | done | omega | assumption) | (simp only [*, dbs]; done)))); rfl))) | (rw [hr0_1]; exact scan_end (by omega)) | (unfold alikeM; ((repeat (first | (refine (if_pos ?_).trans ?_; solve | omega | assumption | (simp only [alx]; first | done | omega | assumption) | (simp only [*, dbs]; done)) | (refine (if_neg ?_).trans ?_; solve | omega | assumption | (simp only [alx]; first | done | omega | assumption) | (simp only [*, dbs]; done)))); rfl))
        exact ⟨_, rfl, sl0.keep, by rw [e]; exact rfl⟩
    ·have hp1775 : (8 : Int) < (l[0]!).many := by first | simpa using hb1733 | (have e := hb1733; simp at e; omega)
     refine wl_k rfl (wl_k rfl (wl_k rfl (wl_k rfl (wl_s (o_pickT (Value.bool true) rfl rfl (wl_nil (thenQ_n (?_))))))))
     refine cw_cond true rfl rfl (fun _ => ?_) (fun h => by cases h)
     refine cw_seq (?_)
     refine cw_region (by kernel_rfl) (wl_s (o_assign (Value.bool false) rfl (wl_nil (thenQ_n (?_)))))
     refine cw_ret (thenQ_r (end_r rfl (res1 rfl rfl rfl) (?_)))
     have e : (alikeM l) = false := by first | (rw [hr0_1]; exact scan_some (by omega) (by ((repeat (first | (refine (if_pos ?_).trans ?_; solve | omega | assumption | (simp only [alx]; first | done | omega | assumption) | (simp only [*, dbs]; done)) | (refine (if_neg ?_).trans ?_; solve | omega | assumption | (simp only [alx]; first | done | omega | assumption) | (simp only [*, dbs]; done)))); rfl))) | (rw [hr0_1]; exact scan_end (by omega)) | (unfold alikeM; ((repeat (first | (refine (if_pos ?_).trans ?_; solve | omega | assumption | (simp only [alx]; first | done | omega | assumption) | (simp only [*, dbs]; done)) | (refine (if_neg ?_).trans ?_; solve | omega | assumption | (simp only [alx]; first | done | omega | assumption) | (simp only [*, dbs]; done)))); rfl))
     exact ⟨_, rfl, s1723.keep, by rw [e]; exact rfl⟩
   ·have hp1776 : (l[0]!).many < (l[0]!).threshold := by first | simpa using hb1731 | (have e := hb1731; simp at e; omega)
    refine wl_k rfl (wl_k rfl (wl_k rfl (wl_s (o_pickT (Value.bool true) rfl rfl (wl_s (o_move (Value.bool true) rfl (wl_k rfl (wl_k rfl (wl_k rfl (wl_k rfl (wl_s (o_pickT (Value.bool true) rfl rfl (wl_nil (thenQ_n (?_)))))))))))))))
    refine cw_cond true rfl rfl (fun _ => ?_) (fun h => by cases h)
    refine cw_seq (?_)
    refine cw_region (by kernel_rfl) (wl_s (o_assign (Value.bool false) rfl (wl_nil (thenQ_n (?_)))))
    refine cw_ret (thenQ_r (end_r rfl (res1 rfl rfl rfl) (?_)))
    have e : (alikeM l) = false := by first | (rw [hr0_1]; exact scan_some (by omega) (by ((repeat (first | (refine (if_pos ?_).trans ?_; solve | omega | assumption | (simp only [alx]; first | done | omega | assumption) | (simp only [*, dbs]; done)) | (refine (if_neg ?_).trans ?_; solve | omega | assumption | (simp only [alx]; first | done | omega | assumption) | (simp only [*, dbs]; done)))); rfl))) | (rw [hr0_1]; exact scan_end (by omega)) | (unfold alikeM; ((repeat (first | (refine (if_pos ?_).trans ?_; solve | omega | assumption | (simp only [alx]; first | done | omega | assumption) | (simp only [*, dbs]; done)) | (refine (if_neg ?_).trans ?_; solve | omega | assumption | (simp only [alx]; first | done | omega | assumption) | (simp only [*, dbs]; done)))); rfl))
    exact ⟨_, rfl, s1723.keep, by rw [e]; exact rfl⟩
  ·have hp1777 : (l[0]!).threshold < (1 : Int) := by first | simpa using hb1729 | (have e := hb1729; simp at e; omega)
   refine wl_k rfl (wl_k rfl (wl_k rfl (wl_k rfl (wl_k rfl (wl_s (o_pickT (Value.bool true) rfl rfl (wl_s (o_move (Value.bool true) rfl (wl_k rfl (wl_k rfl (wl_k rfl (wl_s (o_pickT (Value.bool true) rfl rfl (wl_s (o_move (Value.bool true) rfl (wl_k rfl (wl_k rfl (wl_k rfl (wl_k rfl (wl_s (o_pickT (Value.bool true) rfl rfl (wl_nil (thenQ_n (?_))))))))))))))))))))))))
   refine cw_cond true rfl rfl (fun _ => ?_) (fun h => by cases h)
   refine cw_seq (?_)
   refine cw_region (by kernel_rfl) (wl_s (o_assign (Value.bool false) rfl (wl_nil (thenQ_n (?_)))))
   refine cw_ret (thenQ_r (end_r rfl (res1 rfl rfl rfl) (?_)))
   have e : (alikeM l) = false := by first | (rw [hr0_1]; exact scan_some (by omega) (by ((repeat (first | (refine (if_pos ?_).trans ?_; solve | omega | assumption | (simp only [alx]; first | done | omega | assumption) | (simp only [*, dbs]; done)) | (refine (if_neg ?_).trans ?_; solve | omega | assumption | (simp only [alx]; first | done | omega | assumption) | (simp only [*, dbs]; done)))); rfl))) | (rw [hr0_1]; exact scan_end (by omega)) | (unfold alikeM; ((repeat (first | (refine (if_pos ?_).trans ?_; solve | omega | assumption | (simp only [alx]; first | done | omega | assumption) | (simp only [*, dbs]; done)) | (refine (if_neg ?_).trans ?_; solve | omega | assumption | (simp only [alx]; first | done | omega | assumption) | (simp only [*, dbs]; done)))); rfl))
   exact ⟨_, rfl, s1723.keep, by rw [e]; exact rfl⟩
set_option maxHeartbeats 4000000 in
set_option maxRecDepth 100000 in
theorem c_check8 {O : List Nat} (l_v : Value) (l : List Share) (w : World) (h_l : RdL Enc.share w O l_v l) (hO : ∀ b ∈ O, b < w.heap.size) : CallsK Try.prog 32 [l_v] w (fun v _ => v = vI (checkM l)) :=  by
 have lim_l := h_l.len_le
 have h_l : RdL Enc.share w ([] ++ O) l_v l := h_l
 have s0 : St w O w [] := St.start hO
 refine callsK_of 32 Try.func32 rfl rfl (of_decide_eq_true rfl) (fun F0 => ?_)
 refine cw_seq (?_)
 refine cw_region (by kernel_rfl) (wl_s (o_assign (vI (0 : Int)) rfl (wl_nil (thenQ_n (?_)))))
 refine cw_seq (?_)
 refine cw_seq (?_)
 refine cw_region (by kernel_rfl) (wl_s (o_move (l_v) rfl (wl_s (o_callK (vs := [l_v]) enter_55 (c_alike (O := [] ++ O) l_v l w h_l s0.lt) rfl s0 fun v1778 w1779 s1780 m1781 k1782 r1783 => (?_)))))
 obtain rfl := r1783
 have h_l := h_l.mv m1781
 refine wl_s (o_not (alikeM l) rfl (wl_nil (thenQ_n (?_))))
 refine cw_cond (!(alikeM l)) rfl rfl (fun hc1784 => ?_) (fun hc1784 => ?_)
 ·have hp1785 : (alikeM l) = false := by first | simpa using hc1784 | (have e := hc1784; simp at e; omega)
  refine cw_seq (?_)
  refine cw_region (by kernel_rfl) (wl_s (o_assign (vI (80 : Int)) rfl (wl_nil (thenQ_n (?_)))))
  refine cw_ret (thenQ_r (end_r rfl (res1 rfl rfl rfl) (?_)))
  have e : (checkM l) = (80 : Int) := by first | (rw [hr0_1]; exact scan_some (by omega) (by ((repeat (first | (refine (if_pos ?_).trans ?_; solve | omega | assumption | (simp only [alx]; first | done | omega | assumption) | (simp only [*, dbs]; done)) | (refine (if_neg ?_).trans ?_; solve | omega | assumption | (simp only [alx]; first | done | omega | assumption) | (simp only [*, dbs]; done)))); rfl))) | (rw [hr0_1]; exact scan_end (by omega)) | (unfold checkM; ((repeat (first | (refine (if_pos ?_).trans ?_; solve | omega | assumption | (simp only [alx]; first | done | omega | assumption) | (simp only [*, dbs]; done)) | (refine (if_neg ?_).trans ?_; solve | omega | assumption | (simp only [alx]; first | done | omega | assumption) | (simp only [*, dbs]; done)))); rfl))
  exact ⟨_, rfl, s1780.keep, by rw [e]; exact rfl⟩
 ·have hp1786 : (alikeM l) = true := by first | simpa using hc1784 | (have e := hc1784; simp at e; omega)
  refine cw_skip (thenQ_n (?_))
  refine cw_seq (?_)
  refine cw_seq (?_)
  refine cw_region (by kernel_rfl) (wl_s (o_move (l_v) rfl (wl_s (o_lenR Try.underlying38 rfl h_l (wl_s (o_move (vI (0 : Int)) rfl (wl_nil (thenQ_n (?_)))))))))
  refine cw_block (?_)
  refine cw_loop (fun mI FI wI => ∃ (k : Nat) (B : List Nat), k ≤ l.length ∧ checkM l = scan (fun k => if ep1 l k then some 81 else none) 0 k (l.length - k) ∧ mI = l.length - k ∧ (∃ F1, FI = upds F1 [(0, l_v), (8, l_v), (9, vI (l.length : Int)), (10, vI ((k : Nat) : Int)), (32, undef)]) ∧ St w O wI B ∧ RdL Enc.share wI (B ++ O) (l_v) (l)) (l.length - (0)) ?_ ?_
  ·exact ⟨(0), [], (by first | omega | (simp; done) | (simp; omega) | simp_all), (by unfold checkM; ((repeat (first | (refine (if_pos ?_).trans ?_; solve | omega | assumption | (simp only [alx]; first | done | omega | assumption) | (simp only [*, dbs]; done)) | (refine (if_neg ?_).trans ?_; solve | omega | assumption | (simp only [alx]; first | done | omega | assumption) | (simp only [*, dbs]; done)))); rfl)), rfl, ⟨_, upds_self _ ⟨rfl, rfl, rfl, (by first | rfl | exact congrArg (Value.int _) (by first | omega | (simp))), rfl, trivial⟩⟩, s1780, h_l⟩
  ·intro ml0 F wl0 hI
   clear h_l
   obtain ⟨k, Bl0, hr0_0, hr0_1, hm0, ⟨Fl0, rfl⟩, sl0, h_l⟩ := hI
   refine cw_seq (?_)
   refine cw_region (by kernel_rfl) (wl_s (o_lss .i64 ((k : Nat) : Int) (l.length : Int) rfl rfl (wl_nil (thenQ_n (?_)))))
   refine cw_seq (?_)
   refine cw_cond (decide (((k : Nat) : Int) < (l.length : Int))) rfl rfl (fun hc1787 => ?_) (fun hc1787 => ?_)
   ·have hp1788 : ((k : Nat) : Int) < (l.length : Int) := by first | simpa using hc1787 | (have e := hc1787; simp at e; omega)
    refine cw_skip (thenQ_n (?_))
    refine cw_seq (?_)
    refine cw_block (?_)
    refine cw_seq (?_)
    refine cw_region (by kernel_rfl) (wl_s (o_idx Try.underlying38 s_53 .i64 ((k : Nat) : Int) k rfl rfl rfl h_l (by omega) fun a1789 hp1790 => (wl_s (o_loadS Try.underlying53 rfl s_53 rfl hp1790 fun cs1791 hs1792 => (wl_s (o_alloc [vI (0 : Int), vI (0 : Int), vI (0 : Int), vI (0 : Int), Value.slice none 0 0] z_53 rfl sl0 fun b1793 w1794 e1799 s1795 m1796 k1797 bx1798 => (?_)))))))
    clear e1799
    have h_l := h_l.mv m1796
    have hs1792 : Enc.share.rd w1794 ((b1793 :: Bl0) ++ O) cs1791 (l[k]!) := Enc.mv Enc.share (x := l[k]!) hs1792 m1796
    obtain ⟨d1805, rfl, hd1806⟩ := hs1792
    have := hd1806.len_le
    refine wl_n (o_store (vs := [vI ((l[k]!).epoch), vI ((l[k]!).index), vI ((l[k]!).threshold), vI ((l[k]!).many), d1805]) (.agg #[vI ((l[k]!).epoch), vI ((l[k]!).index), vI ((l[k]!).threshold), vI ((l[k]!).many), d1805]) rfl rfl rfl s_53 (fun u hu => by simp only [List.mem_cons, List.not_mem_nil, or_false] at hu; rcases hu with rfl | rfl | rfl | rfl | rfl <;> first | rfl | exact hd1806.oneCell) (by first | assumption | (repeat (first | exact List.mem_cons_self | assumption | apply List.mem_cons_of_mem))) bx1798 (of_decide_eq_true rfl) s1795 fun w1800 s1801 m1802 k1803 bx1804 => (?_))
    have h_l := h_l.mv m1802
    refine wl_nil (thenQ_n (?_))
    refine cw_seq (?_)
    refine cw_draw' 6 _ _ [isV (Value.pointer (some ⟨b1793, 0, none⟩)), isV (vI ((l[k]!).epoch)), fun (vT : Value) (wT : World) => RdL Enc.share wT ((b1793 :: Bl0) ++ O) vT (l), fun (vT : Value) (wT : World) => ∃ aT, vT = .pointer (some aT) ∧ PT Enc.share wT ((b1793 :: Bl0) ++ O) (.pointer (some aT)) (l[0]!), fun (vT : Value) (wT : World) => ∃ aT, vT = .pointer (some aT) ∧ PT Enc.int wT ((b1793 :: Bl0) ++ O) (.pointer (some aT)) ((l[0]!).epoch), isV (vI ((l[0]!).epoch))] (by kernel_rfl) (by kernel_rfl) (by kernel_rfl) (by kernel_rfl) rfl rfl ⟨kI, kI, fun _ _ _ h k => h.mv (Mv.of_keep k), fun _ _ _ ⟨a, e, h⟩ k => ⟨a, e, h.mv (Mv.of_keep k)⟩, fun _ _ _ ⟨a, e, h⟩ k => ⟨a, e, h.mv (Mv.of_keep k)⟩, kI, trivial⟩ ⟨?_, ?_, ?_, ?_, ?_, ?_, trivial⟩ ?_
    ·intro F1 w1 k1 hf hd
     obtain ⟨F2, rfl⟩ := lit_of (F := F1) [(4, Value.pointer (some ⟨b1793, 0, none⟩))] ⟨hf 4 (by kernel_rfl), trivial⟩
     exact sp_plain rfl ((o_fieldL 0 f_53_0 rfl (⟨(Keep.refl _ _), rfl⟩)))
    ·intro F1 w1 k1 hf hd
     have k0 := (Keep.drew [] w1800).trans k1
     have bx1804 := bx1804.keep k0 (by simp)
     obtain ⟨F2, rfl⟩ := lit_of (F := F1) [(14, Value.pointer (some ⟨b1793, 0, none⟩))] ⟨hd 0 14 (by kernel_rfl), trivial⟩
     exact sp_plain rfl ((o_loadBx Try.underlying3 rfl (vI ((l[k]!).epoch)) rfl bx1804 rfl (⟨(Keep.refl _ _), rfl⟩)))
    ·intro F1 w1 k1 hf hd
     have k0 := (Keep.drew [] w1800).trans k1
     have m1 : Mv (b1793 :: Bl0) w1800 (b1793 :: Bl0) w1 := Mv.of_keep k0
     have h_l := h_l.mv m1
     obtain ⟨F2, rfl⟩ := lit_of (F := F1) [(0, l_v)] ⟨hf 0 (by kernel_rfl), trivial⟩
     exact sp_plain rfl ((o_move (l_v) rfl (⟨(Keep.refl _ _), h_l⟩)))
    ·intro F1 w1 k1 hf hd
     obtain ⟨v1807, e1809, hl1808⟩ : ∃ v, F1 16 = v ∧ RdL Enc.share w1 ((b1793 :: Bl0) ++ O) v (l) := ⟨_, rfl, hd 2 16 (by kernel_rfl)⟩
     have := hl1808.len_le
     obtain ⟨F2, rfl⟩ := lit_of (F := F1) [(16, v1807)] ⟨e1809, trivial⟩
     exact sp_plain rfl ((o_idx Try.underlying38 s_53 .i64 (0 : Int) 0 rfl rfl rfl hl1808 (by omega) fun a1810 hp1811 => (⟨(Keep.refl _ _), ⟨a1810, rfl, hp1811⟩⟩)))
    ·intro F1 w1 k1 hf hd
     obtain ⟨a1812, e1814, hp1813⟩ : ∃ a, F1 17 = .pointer (some a) ∧ PT Enc.share w1 ((b1793 :: Bl0) ++ O) (.pointer (some a)) (l[0]!) := hd 3 17 (by kernel_rfl)
     obtain ⟨F2, rfl⟩ := lit_of (F := F1) [(17, Value.pointer (some a1812))] ⟨e1814, trivial⟩
     exact sp_plain rfl ((o_fieldR 0 f_53_0 ((l[0]!).epoch) rfl hp1813 (fun _ _ _ h => Enc_share_f0 h) fun a1815 hp1816 => (⟨(Keep.refl _ _), ⟨a1815, rfl, hp1816⟩⟩)))
    ·intro F1 w1 k1 hf hd
     obtain ⟨a1817, e1819, hp1818⟩ : ∃ a, F1 18 = .pointer (some a) ∧ PT Enc.int w1 ((b1793 :: Bl0) ++ O) (.pointer (some a)) ((l[0]!).epoch) := hd 4 18 (by kernel_rfl)
     obtain ⟨F2, rfl⟩ := lit_of (F := F1) [(18, Value.pointer (some a1817))] ⟨e1819, trivial⟩
     exact sp_plain rfl ((o_loadI Try.underlying3 rfl rfl hp1818 (⟨(Keep.refl _ _), rfl⟩)))
    intro F1821 w1822 k1820 hT1823 hF1824
    have s1825 := s1801.call k1820
    have m1826 : Mv (b1793 :: Bl0) w1800 (b1793 :: Bl0) w1822 := Mv.of_keep k1820
    have h_l := h_l.mv m1826
    have bx1804 := bx1804.keep k1820 (by simp)
    obtain ⟨F2, rfl⟩ := lit_of (F := F1821) [(0, l_v), (4, Value.pointer (some ⟨b1793, 0, none⟩)), (8, l_v), (9, vI (l.length : Int)), (10, vI ((k : Nat) : Int)), (32, undef), (15, vI ((l[k]!).epoch)), (19, vI ((l[0]!).epoch))] ⟨hF1824 0 (by kernel_rfl), hF1824 4 (by kernel_rfl), hF1824 8 (by kernel_rfl), hF1824 9 (by kernel_rfl), hF1824 10 (by kernel_rfl), hF1824 32 (by kernel_rfl), hT1823 1 15 (by kernel_rfl) (by decide), hT1823 5 19 (by kernel_rfl) (by decide), trivial⟩
    clear hT1823 hF1824
    refine wl_s (o_neq .i64 ((l[k]!).epoch) ((l[0]!).epoch) rfl rfl (wl_s (o_move (Value.bool (((l[k]!).epoch) != ((l[0]!).epoch))) rfl (?_))))
    cases hb1828 : (((l[k]!).epoch) != ((l[0]!).epoch))
    ·have hp1829 : (l[k]!).epoch = (l[0]!).epoch := by first | simpa using hb1828 | (have e := hb1828; simp at e; omega)
     refine wl_t rfl (o_fieldL 0 f_53_0 rfl (wl_t rfl (o_loadBx Try.underlying3 rfl (vI ((l[k]!).epoch)) rfl bx1804 rfl (wl_t rfl (o_lss .i64 ((l[k]!).epoch) (0 : Int) rfl rfl (wl_s (o_pickF (Value.bool (decide ((l[k]!).epoch < (0 : Int)))) rfl rfl (wl_s (o_move (Value.bool (decide ((l[k]!).epoch < (0 : Int)))) rfl (?_))))))))))
     cases hb1830 : (decide ((l[k]!).epoch < (0 : Int)))
     ·have hp1831 : (0 : Int) ≤ (l[k]!).epoch := by first | simpa using hb1830 | (have e := hb1830; simp at e; omega)
      refine wl_t rfl (o_fieldL 0 f_53_0 rfl (wl_t rfl (o_loadBx Try.underlying3 rfl (vI ((l[k]!).epoch)) rfl bx1804 rfl (wl_t rfl (o_gtr .i64 ((l[k]!).epoch) (1048576 : Int) rfl rfl (wl_s (o_pickF (Value.bool (decide ((1048576 : Int) < (l[k]!).epoch))) rfl rfl (wl_nil (thenQ_n (?_))))))))))
      refine cw_cond (decide ((1048576 : Int) < (l[k]!).epoch)) rfl rfl (fun hc1832 => ?_) (fun hc1832 => ?_)
      ·have hp1833 : (1048576 : Int) < (l[k]!).epoch := by first | simpa using hc1832 | (have e := hc1832; simp at e; omega)
       refine cw_seq (?_)
       refine cw_region (by kernel_rfl) (wl_s (o_assign (vI (81 : Int)) rfl (wl_nil (thenQ_n (?_)))))
       refine cw_ret (blockQ_r (thenQ_r (thenQ_r (blockQ_r (thenQ_r (end_r rfl (res1 rfl rfl rfl) (?_)))))))
       have e : (checkM l) = (81 : Int) := by first | (rw [hr0_1]; exact scan_some (by omega) (by ((repeat (first | (refine (if_pos ?_).trans ?_; solve | omega | assumption | (simp only [alx]; first | done | omega | assumption) | (simp only [*, dbs]; done)) | (refine (if_neg ?_).trans ?_; solve | omega | assumption | (simp only [alx]; first | done | omega | assumption) | (simp only [*, dbs]; done)))); rfl))) | (rw [hr0_1]; exact scan_end (by omega)) | (unfold checkM; ((repeat (first | (refine (if_pos ?_).trans ?_; solve | omega | assumption | (simp only [alx]; first | done | omega | assumption) | (simp only [*, dbs]; done)) | (refine (if_neg ?_).trans ?_; solve | omega | assumption | (simp only [alx]; first | done | omega | assumption) | (simp only [*, dbs]; done)))); rfl))
       exact ⟨_, rfl, s1825.keep, by rw [e]; exact rfl⟩
      ·have hp1834 : (l[k]!).epoch ≤ (1048576 : Int) := by first | simpa using hc1832 | (have e := hc1832; simp at e; omega)
       refine cw_skip (blockQ_n (thenQ_n (?_)))
       refine cw_region (by kernel_rfl) (wl_s (o_add .i64 ((k : Nat) : Int) (1 : Int) (((k + 1 : Nat) : Int)) rfl rfl (w64 (by omega) (by omega)) (wl_s (o_move (vI ((k + 1 : Nat) : Int)) rfl (wl_nil (thenQ_n (?_)))))))
       exact ⟨_, (by omega), (k + 1), (b1793 :: Bl0), (by first | omega | (simp; done) | (simp; omega) | simp_all), (hr0_1.trans (scan_none (by omega) (by ((repeat (first | (refine (if_pos ?_).trans ?_; solve | omega | assumption | (simp only [alx]; first | done | omega | assumption) | (simp only [*, dbs]; done)) | (refine (if_neg ?_).trans ?_; solve | omega | assumption | (simp only [alx]; first | done | omega | assumption) | (simp only [*, dbs]; done)))); rfl)))), rfl, ⟨_, upds_self _ ⟨rfl, rfl, rfl, (by first | rfl | exact congrArg (Value.int _) (by first | omega | (simp))), rfl, trivial⟩⟩, s1825, h_l⟩
     ·have hp1835 : (l[k]!).epoch < (0 : Int) := by first | simpa using hb1830 | (have e := hb1830; simp at e; omega)
      refine wl_k rfl (wl_k rfl (wl_k rfl (wl_s (o_pickT (Value.bool true) rfl rfl (wl_nil (thenQ_n (?_)))))))
      refine cw_cond true rfl rfl (fun _ => ?_) (fun h => by cases h)
      refine cw_seq (?_)
      refine cw_region (by kernel_rfl) (wl_s (o_assign (vI (81 : Int)) rfl (wl_nil (thenQ_n (?_)))))
      refine cw_ret (blockQ_r (thenQ_r (thenQ_r (blockQ_r (thenQ_r (end_r rfl (res1 rfl rfl rfl) (?_)))))))
      have e : (checkM l) = (81 : Int) := by first | (rw [hr0_1]; exact scan_some (by omega) (by ((repeat (first | (refine (if_pos ?_).trans ?_; solve | omega | assumption | (simp only [alx]; first | done | omega | assumption) | (simp only [*, dbs]; done)) | (refine (if_neg ?_).trans ?_; solve | omega | assumption | (simp only [alx]; first | done | omega | assumption) | (simp only [*, dbs]; done)))); rfl))) | (rw [hr0_1]; exact scan_end (by omega)) | (unfold checkM; ((repeat (first | (refine (if_pos ?_).trans ?_; solve | omega | assumption | (simp only [alx]; first | done | omega | assumption) | (simp only [*, dbs]; done)) | (refine (if_neg ?_).trans ?_; solve | omega | assumption | (simp only [alx]; first | done | omega | assumption) | (simp only [*, dbs]; done)))); rfl))
      exact ⟨_, rfl, s1825.keep, by rw [e]; exact rfl⟩
    ·have hp1836 : (l[k]!).epoch ≠ (l[0]!).epoch := by first | simpa using hb1828 | (have e := hb1828; simp at e; omega)
     refine wl_k rfl (wl_k rfl (wl_k rfl (wl_s (o_pickT (Value.bool true) rfl rfl (wl_s (o_move (Value.bool true) rfl (wl_k rfl (wl_k rfl (wl_k rfl (wl_s (o_pickT (Value.bool true) rfl rfl (wl_nil (thenQ_n (?_))))))))))))))
     refine cw_cond true rfl rfl (fun _ => ?_) (fun h => by cases h)
     refine cw_seq (?_)
     refine cw_region (by kernel_rfl) (wl_s (o_assign (vI (81 : Int)) rfl (wl_nil (thenQ_n (?_)))))
     refine cw_ret (blockQ_r (thenQ_r (thenQ_r (blockQ_r (thenQ_r (end_r rfl (res1 rfl rfl rfl) (?_)))))))
     have e : (checkM l) = (81 : Int) := by first | (rw [hr0_1]; exact scan_some (by omega) (by ((repeat (first | (refine (if_pos ?_).trans ?_; solve | omega | assumption | (simp only [alx]; first | done | omega | assumption) | (simp only [*, dbs]; done)) | (refine (if_neg ?_).trans ?_; solve | omega | assumption | (simp only [alx]; first | done | omega | assumption) | (simp only [*, dbs]; done)))); rfl))) | (rw [hr0_1]; exact scan_end (by omega)) | (unfold checkM; ((repeat (first | (refine (if_pos ?_).trans ?_; solve | omega | assumption | (simp only [alx]; first | done | omega | assumption) | (simp only [*, dbs]; done)) | (refine (if_neg ?_).trans ?_; solve | omega | assumption | (simp only [alx]; first | done | omega | assumption) | (simp only [*, dbs]; done)))); rfl))
     exact ⟨_, rfl, s1825.keep, by rw [e]; exact rfl⟩
   ·have hp1837 : (l.length : Int) ≤ ((k : Nat) : Int) := by first | simpa using hc1787 | (have e := hc1787; simp at e; omega)
    refine cw_exit (thenQ_x (thenQ_x (blockQ_x (thenQ_n (?_)))))
    refine cw_seq (?_)
    refine cw_region (by kernel_rfl) (wl_s (o_assign (vI (0 : Int)) rfl (wl_nil (thenQ_n (?_)))))
    refine cw_ret (end_r rfl (res1 rfl rfl rfl) (?_))
    have e : (checkM l) = (0 : Int) := by first | (rw [hr0_1]; exact scan_some (by omega) (by ((repeat (first | (refine (if_pos ?_).trans ?_; solve | omega | assumption | (simp only [alx]; first | done | omega | assumption) | (simp only [*, dbs]; done)) | (refine (if_neg ?_).trans ?_; solve | omega | assumption | (simp only [alx]; first | done | omega | assumption) | (simp only [*, dbs]; done)))); rfl))) | (rw [hr0_1]; exact scan_end (by omega)) | (unfold checkM; ((repeat (first | (refine (if_pos ?_).trans ?_; solve | omega | assumption | (simp only [alx]; first | done | omega | assumption) | (simp only [*, dbs]; done)) | (refine (if_neg ?_).trans ?_; solve | omega | assumption | (simp only [alx]; first | done | omega | assumption) | (simp only [*, dbs]; done)))); rfl))
    exact ⟨_, rfl, sl0.keep, by rw [e]; exact rfl⟩
set_option maxHeartbeats 4000000 in
set_option maxRecDepth 100000 in
theorem c_sameShare {O : List Nat} (sa_cs : List Value) (sa : Share) (sb_cs : List Value) (sb : Share) (w : World) (h_sa : Enc.share.rd w O sa_cs sa) (h_sb : Enc.share.rd w O sb_cs sb) (hO : ∀ b ∈ O, b < w.heap.size) : CallsK Try.prog 57 [.agg sa_cs.toArray, .agg sb_cs.toArray] w (fun v _ => v = .bool (sameShare sa sb)) :=  by
 have h_sa : Enc.share.rd w ([] ++ O) sa_cs sa := h_sa
 have h_sb : Enc.share.rd w ([] ++ O) sb_cs sb := h_sb
 have s0 : St w O w [] := St.start hO
 refine callsK_of 40 Try.func57 rfl rfl (of_decide_eq_true rfl) (fun F0 => ?_)
 refine cw_seq (?_)
 refine cw_region (by kernel_rfl) (wl_s (o_boxR (E := Enc.share) (Value.agg sa_cs.toArray) (sa_cs) sa rfl rfl h_sa s0 fun a1838 w1839 s1840 m1841 k1842 hp1843 => (?_)))
 have h_sb : Enc.share.rd w1839 ([] ++ O) sb_cs (sb) := Enc.mv Enc.share (x := sb) h_sb m1841
 refine wl_s (o_boxR (E := Enc.share) (Value.agg sb_cs.toArray) (sb_cs) sb rfl rfl h_sb s1840 fun a1844 w1845 s1846 m1847 k1848 hp1849 => (?_))
 have hp1843 := hp1843.mv m1847
 refine wl_s (o_assign (Value.bool false) rfl (wl_nil (thenQ_n (?_))))
 refine cw_seq (?_)
 refine cw_region (by kernel_rfl) (wl_s (o_fieldR 0 f_53_0 (sa.epoch) rfl hp1843 (fun _ _ _ h => Enc_share_f0 h) fun a1850 hp1851 => (wl_s (o_loadI Try.underlying3 rfl rfl hp1851 (wl_s (o_fieldR 0 f_53_0 (sb.epoch) rfl hp1849 (fun _ _ _ h => Enc_share_f0 h) fun a1852 hp1853 => (wl_s (o_loadI Try.underlying3 rfl rfl hp1853 (wl_s (o_eql .i64 sa.epoch sb.epoch rfl rfl (wl_s (o_move (Value.bool (sa.epoch == sb.epoch)) rfl (?_)))))))))))))
 cases hb1854 : (sa.epoch == sb.epoch)
 ·have hp1855 : sa.epoch ≠ sb.epoch := by first | simpa using hb1854 | (have e := hb1854; simp at e; omega)
  refine wl_k rfl (wl_k rfl (wl_k rfl (wl_k rfl (wl_k rfl (wl_s (o_pickF (Value.bool false) rfl rfl (wl_s (o_move (Value.bool false) rfl (wl_k rfl (wl_k rfl (wl_k rfl (wl_k rfl (wl_k rfl (wl_s (o_pickF (Value.bool false) rfl rfl (wl_s (o_move (Value.bool false) rfl (wl_k rfl (wl_k rfl (wl_k rfl (wl_k rfl (wl_k rfl (wl_s (o_pickF (Value.bool false) rfl rfl (wl_s (o_move (Value.bool false) rfl (wl_k rfl (wl_k rfl (wl_k rfl (wl_k rfl (wl_k rfl (wl_k rfl (wl_k rfl (wl_s (o_pickF (Value.bool false) rfl rfl (wl_s (o_assign (Value.bool false) rfl (wl_nil (thenQ_n (?_))))))))))))))))))))))))))))))))))))))))
  refine cw_ret (end_r rfl (res1 rfl rfl rfl) (?_))
  have e : (sameShare sa sb) = false := by simp [sameShare, *]
  exact ⟨_, rfl, s1846.keep, by rw [e]; exact rfl⟩
 ·have hp1856 : sa.epoch = sb.epoch := by first | simpa using hb1854 | (have e := hb1854; simp at e; omega)
  refine wl_t rfl (o_fieldR 1 f_53_1 (sa.index) rfl hp1843 (fun _ _ _ h => Enc_share_f1 h) fun a1857 hp1858 => (wl_t rfl (o_loadI Try.underlying3 rfl rfl hp1858 (wl_t rfl (o_fieldR 1 f_53_1 (sb.index) rfl hp1849 (fun _ _ _ h => Enc_share_f1 h) fun a1859 hp1860 => (wl_t rfl (o_loadI Try.underlying3 rfl rfl hp1860 (wl_t rfl (o_eql .i64 sa.index sb.index rfl rfl (wl_s (o_pickT (Value.bool (sa.index == sb.index)) rfl rfl (wl_s (o_move (Value.bool (sa.index == sb.index)) rfl (?_))))))))))))))
  cases hb1861 : (sa.index == sb.index)
  ·have hp1862 : sa.index ≠ sb.index := by first | simpa using hb1861 | (have e := hb1861; simp at e; omega)
   refine wl_k rfl (wl_k rfl (wl_k rfl (wl_k rfl (wl_k rfl (wl_s (o_pickF (Value.bool false) rfl rfl (wl_s (o_move (Value.bool false) rfl (wl_k rfl (wl_k rfl (wl_k rfl (wl_k rfl (wl_k rfl (wl_s (o_pickF (Value.bool false) rfl rfl (wl_s (o_move (Value.bool false) rfl (wl_k rfl (wl_k rfl (wl_k rfl (wl_k rfl (wl_k rfl (wl_k rfl (wl_k rfl (wl_s (o_pickF (Value.bool false) rfl rfl (wl_s (o_assign (Value.bool false) rfl (wl_nil (thenQ_n (?_)))))))))))))))))))))))))))))))
   refine cw_ret (end_r rfl (res1 rfl rfl rfl) (?_))
   have e : (sameShare sa sb) = false := by simp [sameShare, *]
   exact ⟨_, rfl, s1846.keep, by rw [e]; exact rfl⟩
  ·have hp1863 : sa.index = sb.index := by first | simpa using hb1861 | (have e := hb1861; simp at e; omega)
   refine wl_t rfl (o_fieldR 2 f_53_2 (sa.threshold) rfl hp1843 (fun _ _ _ h => Enc_share_f2 h) fun a1864 hp1865 => (wl_t rfl (o_loadI Try.underlying3 rfl rfl hp1865 (wl_t rfl (o_fieldR 2 f_53_2 (sb.threshold) rfl hp1849 (fun _ _ _ h => Enc_share_f2 h) fun a1866 hp1867 => (wl_t rfl (o_loadI Try.underlying3 rfl rfl hp1867 (wl_t rfl (o_eql .i64 sa.threshold sb.threshold rfl rfl (wl_s (o_pickT (Value.bool (sa.threshold == sb.threshold)) rfl rfl (wl_s (o_move (Value.bool (sa.threshold == sb.threshold)) rfl (?_))))))))))))))
   cases hb1868 : (sa.threshold == sb.threshold)
   ·have hp1869 : sa.threshold ≠ sb.threshold := by first | simpa using hb1868 | (have e := hb1868; simp at e; omega)
    refine wl_k rfl (wl_k rfl (wl_k rfl (wl_k rfl (wl_k rfl (wl_s (o_pickF (Value.bool false) rfl rfl (wl_s (o_move (Value.bool false) rfl (wl_k rfl (wl_k rfl (wl_k rfl (wl_k rfl (wl_k rfl (wl_k rfl (wl_k rfl (wl_s (o_pickF (Value.bool false) rfl rfl (wl_s (o_assign (Value.bool false) rfl (wl_nil (thenQ_n (?_))))))))))))))))))))))
    refine cw_ret (end_r rfl (res1 rfl rfl rfl) (?_))
    have e : (sameShare sa sb) = false := by simp [sameShare, *]
    exact ⟨_, rfl, s1846.keep, by rw [e]; exact rfl⟩
   ·have hp1870 : sa.threshold = sb.threshold := by first | simpa using hb1868 | (have e := hb1868; simp at e; omega)
    refine wl_t rfl (o_fieldR 3 f_53_3 (sa.many) rfl hp1843 (fun _ _ _ h => Enc_share_f3 h) fun a1871 hp1872 => (wl_t rfl (o_loadI Try.underlying3 rfl rfl hp1872 (wl_t rfl (o_fieldR 3 f_53_3 (sb.many) rfl hp1849 (fun _ _ _ h => Enc_share_f3 h) fun a1873 hp1874 => (wl_t rfl (o_loadI Try.underlying3 rfl rfl hp1874 (wl_t rfl (o_eql .i64 sa.many sb.many rfl rfl (wl_s (o_pickT (Value.bool (sa.many == sb.many)) rfl rfl (wl_s (o_move (Value.bool (sa.many == sb.many)) rfl (?_))))))))))))))
    cases hb1875 : (sa.many == sb.many)
    ·have hp1876 : sa.many ≠ sb.many := by first | simpa using hb1875 | (have e := hb1875; simp at e; omega)
     refine wl_k rfl (wl_k rfl (wl_k rfl (wl_k rfl (wl_k rfl (wl_k rfl (wl_k rfl (wl_s (o_pickF (Value.bool false) rfl rfl (wl_s (o_assign (Value.bool false) rfl (wl_nil (thenQ_n (?_)))))))))))))
     refine cw_ret (end_r rfl (res1 rfl rfl rfl) (?_))
     have e : (sameShare sa sb) = false := by simp [sameShare, *]
     exact ⟨_, rfl, s1846.keep, by rw [e]; exact rfl⟩
    ·have hp1877 : sa.many = sb.many := by first | simpa using hb1875 | (have e := hb1875; simp at e; omega)
     refine wl_t rfl (o_fieldR 4 f_53_4 (sa.data) rfl hp1843 (fun _ _ _ h => Enc_share_f4 h) fun a1878 hp1879 => (wl_t rfl (o_loadL Try.underlying28 rfl rfl hp1879 fun v1880 hl1881 => (?_))))
     have := hl1881.len_le
     refine wl_t rfl (o_bytes Try.underlying28 Try.underlying5 Try.underlying9 rfl hl1881 (wl_t rfl (o_fieldR 4 f_53_4 (sb.data) rfl hp1849 (fun _ _ _ h => Enc_share_f4 h) fun a1882 hp1883 => (wl_t rfl (o_loadL Try.underlying28 rfl rfl hp1883 fun v1884 hl1885 => (?_))))))
     have := hl1885.len_le
     refine wl_t rfl (o_bytes Try.underlying28 Try.underlying5 Try.underlying9 rfl hl1885 (wl_t rfl (o_eqlS sa.data sb.data rfl rfl (wl_s (o_pickT (Value.bool (sa.data == sb.data)) rfl rfl (wl_s (o_assign (Value.bool (sa.data == sb.data)) rfl (wl_nil (thenQ_n (?_))))))))))
     refine cw_ret (end_r rfl (res1 rfl rfl rfl) (?_))
     have e : (sameShare sa sb) = (sa.data == sb.data) := by simp [sameShare, *]
     exact ⟨_, rfl, s1846.keep, by rw [e]; exact rfl⟩
set_option maxHeartbeats 4000000 in
set_option maxRecDepth 100000 in
theorem c_same8 {O : List Nat} (la_v : Value) (la : List Share) (lb_v : Value) (lb : List Share) (w : World) (h_la : RdL Enc.share w O la_v la) (h_lb : RdL Enc.share w O lb_v lb) (hO : ∀ b ∈ O, b < w.heap.size) : CallsK Try.prog 34 [la_v, lb_v] w (fun v _ => v = .bool (sameM la lb)) :=  by
 have lim_la := h_la.len_le
 have h_la : RdL Enc.share w ([] ++ O) la_v la := h_la
 have lim_lb := h_lb.len_le
 have h_lb : RdL Enc.share w ([] ++ O) lb_v lb := h_lb
 have s0 : St w O w [] := St.start hO
 refine callsK_of 27 Try.func34 rfl rfl (of_decide_eq_true rfl) (fun F0 => ?_)
 refine cw_seq (?_)
 refine cw_region (by kernel_rfl) (wl_s (o_assign (Value.bool false) rfl (wl_nil (thenQ_n (?_)))))
 refine cw_seq (?_)
 refine cw_seq (?_)
 refine cw_region (by kernel_rfl) (wl_s (o_move (la_v) rfl (wl_s (o_lenR Try.underlying38 rfl h_la (wl_s (o_move (lb_v) rfl (wl_s (o_lenR Try.underlying38 rfl h_lb (wl_s (o_neq .i64 (la.length : Int) (lb.length : Int) rfl rfl (wl_nil (thenQ_n (?_)))))))))))))
 refine cw_cond ((la.length : Int) != (lb.length : Int)) rfl rfl (fun hc1886 => ?_) (fun hc1886 => ?_)
 ·have hp1887 : (la.length : Int) ≠ (lb.length : Int) := by first | simpa using hc1886 | (have e := hc1886; simp at e; omega)
  refine cw_seq (?_)
  refine cw_region (by kernel_rfl) (wl_s (o_assign (Value.bool false) rfl (wl_nil (thenQ_n (?_)))))
  refine cw_ret (thenQ_r (end_r rfl (res1 rfl rfl rfl) (?_)))
  have e : (sameM la lb) = false := by first | (rw [hr0_1]; exact scan_some (by omega) (by ((repeat (first | (refine (if_pos ?_).trans ?_; solve | omega | assumption | (simp only [dbs]; first | done | omega | assumption) | (simp only [*, dbs]; done)) | (refine (if_neg ?_).trans ?_; solve | omega | assumption | (simp only [dbs]; first | done | omega | assumption) | (simp only [*, dbs]; done)))); rfl))) | (rw [hr0_1]; exact scan_end (by omega)) | (unfold sameM; ((repeat (first | (refine (if_pos ?_).trans ?_; solve | omega | assumption | (simp only [dbs]; first | done | omega | assumption) | (simp only [*, dbs]; done)) | (refine (if_neg ?_).trans ?_; solve | omega | assumption | (simp only [dbs]; first | done | omega | assumption) | (simp only [*, dbs]; done)))); rfl))
  exact ⟨_, rfl, s0.keep, by rw [e]; exact rfl⟩
 ·have hp1888 : (la.length : Int) = (lb.length : Int) := by first | simpa using hc1886 | (have e := hc1886; simp at e; omega)
  refine cw_skip (thenQ_n (?_))
  refine cw_seq (?_)
  refine cw_seq (?_)
  refine cw_region (by kernel_rfl) (wl_s (o_assign (vI (0 : Int)) rfl (wl_nil (thenQ_n (?_)))))
  refine cw_block (?_)
  refine cw_loop (fun mI FI wI => ∃ (k : Nat) (B : List Nat), k ≤ la.length ∧ sameM la lb = scan (fun k => if !sameShare la[k]! lb[k]! then some false else none) true k (la.length - k) ∧ mI = la.length - k ∧ (∃ F1, FI = upds F1 [(0, la_v), (1, lb_v), (5, vI ((k : Nat) : Int)), (27, undef)]) ∧ St w O wI B ∧ RdL Enc.share wI (B ++ O) (la_v) (la) ∧ RdL Enc.share wI (B ++ O) (lb_v) (lb)) (la.length - (0)) ?_ ?_
  ·exact ⟨(0), [], (by first | omega | (simp; done) | (simp; omega) | simp_all), (by unfold sameM; ((repeat (first | (refine (if_pos ?_).trans ?_; solve | omega | assumption | (simp only [dbs]; first | done | omega | assumption) | (simp only [*, dbs]; done)) | (refine (if_neg ?_).trans ?_; solve | omega | assumption | (simp only [dbs]; first | done | omega | assumption) | (simp only [*, dbs]; done)))); rfl)), rfl, ⟨_, upds_self _ ⟨rfl, rfl, (by first | rfl | exact congrArg (Value.int _) (by first | omega | (simp))), rfl, trivial⟩⟩, s0, h_la, h_lb⟩
  ·intro ml0 F wl0 hI
   clear h_la h_lb
   obtain ⟨k, Bl0, hr0_0, hr0_1, hm0, ⟨Fl0, rfl⟩, sl0, h_la, h_lb⟩ := hI
   refine cw_seq (?_)
   refine cw_seq (?_)
   refine cw_region (by kernel_rfl) (wl_s (o_move (vI ((k : Nat) : Int)) rfl (wl_s (o_move (la_v) rfl (wl_s (o_lenR Try.underlying38 rfl h_la (wl_s (o_lss .i64 ((k : Nat) : Int) (la.length : Int) rfl rfl (wl_nil (thenQ_n (?_)))))))))))
   refine cw_cond (decide (((k : Nat) : Int) < (la.length : Int))) rfl rfl (fun hc1889 => ?_) (fun hc1889 => ?_)
   ·have hp1890 : ((k : Nat) : Int) < (la.length : Int) := by first | simpa using hc1889 | (have e := hc1889; simp at e; omega)
    refine cw_skip (thenQ_n (?_))
    refine cw_seq (?_)
    refine cw_block (?_)
    refine cw_seq (?_)
    refine cw_draw' 8 _ _ [fun (vT : Value) (wT : World) => RdL Enc.share wT (Bl0 ++ O) vT (la), isV (vI ((k : Nat) : Int)), fun (vT : Value) (wT : World) => ∃ aT, vT = .pointer (some aT) ∧ PT Enc.share wT (Bl0 ++ O) (.pointer (some aT)) (la[k]!), fun (vT : Value) (wT : World) => ∃ csT : List Value, vT = .agg csT.toArray ∧ Enc.share.rd wT (Bl0 ++ O) csT (la[k]!), fun (vT : Value) (wT : World) => RdL Enc.share wT (Bl0 ++ O) vT (lb), isV (vI ((k : Nat) : Int)), fun (vT : Value) (wT : World) => ∃ aT, vT = .pointer (some aT) ∧ PT Enc.share wT (Bl0 ++ O) (.pointer (some aT)) (lb[k]!), fun (vT : Value) (wT : World) => ∃ csT : List Value, vT = .agg csT.toArray ∧ Enc.share.rd wT (Bl0 ++ O) csT (lb[k]!)] (by kernel_rfl) (by kernel_rfl) (by kernel_rfl) (by kernel_rfl) rfl rfl ⟨fun _ _ _ h k => h.mv (Mv.of_keep k), kI, fun _ _ _ ⟨a, e, h⟩ k => ⟨a, e, h.mv (Mv.of_keep k)⟩, fun _ _ _ ⟨a, e, h⟩ k => ⟨a, e, Enc.mv _ h (Mv.of_keep k)⟩, fun _ _ _ h k => h.mv (Mv.of_keep k), kI, fun _ _ _ ⟨a, e, h⟩ k => ⟨a, e, h.mv (Mv.of_keep k)⟩, fun _ _ _ ⟨a, e, h⟩ k => ⟨a, e, Enc.mv _ h (Mv.of_keep k)⟩, trivial⟩ ⟨?_, ?_, ?_, ?_, ?_, ?_, ?_, ?_, trivial⟩ ?_
    ·intro F1 w1 k1 hf hd
     have k0 := (Keep.drew [] wl0).trans k1
     have m1 : Mv Bl0 wl0 Bl0 w1 := Mv.of_keep k0
     have h_la := h_la.mv m1
     obtain ⟨F2, rfl⟩ := lit_of (F := F1) [(0, la_v)] ⟨hf 0 (by kernel_rfl), trivial⟩
     exact sp_plain rfl ((o_move (la_v) rfl (⟨(Keep.refl _ _), h_la⟩)))
    ·intro F1 w1 k1 hf hd
     obtain ⟨F2, rfl⟩ := lit_of (F := F1) [(5, vI ((k : Nat) : Int))] ⟨hf 5 (by kernel_rfl), trivial⟩
     exact sp_plain rfl ((o_move (vI ((k : Nat) : Int)) rfl (⟨(Keep.refl _ _), rfl⟩)))
    ·intro F1 w1 k1 hf hd
     obtain ⟨v1891, e1893, hl1892⟩ : ∃ v, F1 17 = v ∧ RdL Enc.share w1 (Bl0 ++ O) v (la) := ⟨_, rfl, hd 0 17 (by kernel_rfl)⟩
     have := hl1892.len_le
     obtain ⟨F2, rfl⟩ := lit_of (F := F1) [(17, v1891), (18, vI ((k : Nat) : Int))] ⟨e1893, hd 1 18 (by kernel_rfl), trivial⟩
     exact sp_plain rfl ((o_idx Try.underlying38 s_53 .i64 ((k : Nat) : Int) k rfl rfl rfl hl1892 (by omega) fun a1894 hp1895 => (⟨(Keep.refl _ _), ⟨a1894, rfl, hp1895⟩⟩)))
    ·intro F1 w1 k1 hf hd
     obtain ⟨a1896, e1898, hp1897⟩ : ∃ a, F1 19 = .pointer (some a) ∧ PT Enc.share w1 (Bl0 ++ O) (.pointer (some a)) (la[k]!) := hd 2 19 (by kernel_rfl)
     obtain ⟨F2, rfl⟩ := lit_of (F := F1) [(19, Value.pointer (some a1896))] ⟨e1898, trivial⟩
     exact sp_plain rfl ((o_loadS Try.underlying53 rfl s_53 rfl hp1897 fun cs1899 hs1900 => (⟨(Keep.refl _ _), ⟨cs1899, rfl, hs1900⟩⟩)))
    ·intro F1 w1 k1 hf hd
     have k0 := (Keep.drew [] wl0).trans k1
     have m1 : Mv Bl0 wl0 Bl0 w1 := Mv.of_keep k0
     have h_lb := h_lb.mv m1
     obtain ⟨F2, rfl⟩ := lit_of (F := F1) [(1, lb_v)] ⟨hf 1 (by kernel_rfl), trivial⟩
     exact sp_plain rfl ((o_move (lb_v) rfl (⟨(Keep.refl _ _), h_lb⟩)))
    ·intro F1 w1 k1 hf hd
     obtain ⟨F2, rfl⟩ := lit_of (F := F1) [(5, vI ((k : Nat) : Int))] ⟨hf 5 (by kernel_rfl), trivial⟩
     exact sp_plain rfl ((o_move (vI ((k : Nat) : Int)) rfl (⟨(Keep.refl _ _), rfl⟩)))
    ·intro F1 w1 k1 hf hd
     obtain ⟨v1901, e1903, hl1902⟩ : ∃ v, F1 21 = v ∧ RdL Enc.share w1 (Bl0 ++ O) v (lb) := ⟨_, rfl, hd 4 21 (by kernel_rfl)⟩
     have := hl1902.len_le
     obtain ⟨F2, rfl⟩ := lit_of (F := F1) [(21, v1901), (22, vI ((k : Nat) : Int))] ⟨e1903, hd 5 22 (by kernel_rfl), trivial⟩
     exact sp_plain rfl ((o_idx Try.underlying38 s_53 .i64 ((k : Nat) : Int) k rfl rfl rfl hl1902 (by omega) fun a1904 hp1905 => (⟨(Keep.refl _ _), ⟨a1904, rfl, hp1905⟩⟩)))
    ·intro F1 w1 k1 hf hd
     obtain ⟨a1906, e1908, hp1907⟩ : ∃ a, F1 23 = .pointer (some a) ∧ PT Enc.share w1 (Bl0 ++ O) (.pointer (some a)) (lb[k]!) := hd 6 23 (by kernel_rfl)
     obtain ⟨F2, rfl⟩ := lit_of (F := F1) [(23, Value.pointer (some a1906))] ⟨e1908, trivial⟩
     exact sp_plain rfl ((o_loadS Try.underlying53 rfl s_53 rfl hp1907 fun cs1909 hs1910 => (⟨(Keep.refl _ _), ⟨cs1909, rfl, hs1910⟩⟩)))
    intro F1912 w1913 k1911 hT1914 hF1915
    have s1916 := sl0.call k1911
    have m1917 : Mv Bl0 wl0 Bl0 w1913 := Mv.of_keep k1911
    have h_la := h_la.mv m1917
    have h_lb := h_lb.mv m1917
    obtain ⟨cs1919, e1921, hs1920⟩ : ∃ cs : List Value, F1912 20 = .agg cs.toArray ∧ Enc.share.rd w1913 (Bl0 ++ O) cs (la[k]!) := hT1914 3 20 (by kernel_rfl) (by decide)
    obtain ⟨cs1922, e1924, hs1923⟩ : ∃ cs : List Value, F1912 24 = .agg cs.toArray ∧ Enc.share.rd w1913 (Bl0 ++ O) cs (lb[k]!) := hT1914 7 24 (by kernel_rfl) (by decide)
    obtain ⟨F2, rfl⟩ := lit_of (F := F1912) [(0, la_v), (1, lb_v), (5, vI ((k : Nat) : Int)), (27, undef), (20, Value.agg cs1919.toArray), (24, Value.agg cs1922.toArray)] ⟨hF1915 0 (by kernel_rfl), hF1915 1 (by kernel_rfl), hF1915 5 (by kernel_rfl), hF1915 27 (by kernel_rfl), e1921, e1924, trivial⟩
    clear hT1914 hF1915
    refine wl_s (o_callK (vs := [Value.agg cs1919.toArray, Value.agg cs1922.toArray]) enter_57 (c_sameShare (O := Bl0 ++ O) cs1919 (la[k]!) cs1922 (lb[k]!) w1913 hs1920 hs1923 s1916.lt) rfl s1916 fun v1925 w1926 s1927 m1928 k1929 r1930 => (?_))
    obtain rfl := r1930
    have h_la := h_la.mv m1928
    have h_lb := h_lb.mv m1928
    refine wl_s (o_not (sameShare (la[k]!) (lb[k]!)) rfl (wl_nil (thenQ_n (?_))))
    refine cw_cond (!(sameShare (la[k]!) (lb[k]!))) rfl rfl (fun hc1931 => ?_) (fun hc1931 => ?_)
    ·have hp1932 : (sameShare (la[k]!) (lb[k]!)) = false := by first | simpa using hc1931 | (have e := hc1931; simp at e; omega)
     refine cw_seq (?_)
     refine cw_region (by kernel_rfl) (wl_s (o_assign (Value.bool false) rfl (wl_nil (thenQ_n (?_)))))
     refine cw_ret (blockQ_r (thenQ_r (thenQ_r (blockQ_r (thenQ_r (end_r rfl (res1 rfl rfl rfl) (?_)))))))
     have e : (sameM la lb) = false := by first | (rw [hr0_1]; exact scan_some (by omega) (by ((repeat (first | (refine (if_pos ?_).trans ?_; solve | omega | assumption | (simp only [dbs]; first | done | omega | assumption) | (simp only [*, dbs]; done)) | (refine (if_neg ?_).trans ?_; solve | omega | assumption | (simp only [dbs]; first | done | omega | assumption) | (simp only [*, dbs]; done)))); rfl))) | (rw [hr0_1]; exact scan_end (by omega)) | (unfold sameM; ((repeat (first | (refine (if_pos ?_).trans ?_; solve | omega | assumption | (simp only [dbs]; first | done | omega | assumption) | (simp only [*, dbs]; done)) | (refine (if_neg ?_).trans ?_; solve | omega | assumption | (simp only [dbs]; first | done | omega | assumption) | (simp only [*, dbs]; done)))); rfl))
     exact ⟨_, rfl, s1927.keep, by rw [e]; exact rfl⟩
    ·have hp1933 : (sameShare (la[k]!) (lb[k]!)) = true := by first | simpa using hc1931 | (have e := hc1931; simp at e; omega)
     refine cw_skip (blockQ_n (thenQ_n (?_)))
     refine cw_region (by kernel_rfl) (wl_s (o_move (vI ((k : Nat) : Int)) rfl (wl_s (o_add .i64 ((k : Nat) : Int) (1 : Int) (((k + 1 : Nat) : Int)) rfl rfl (w64 (by omega) (by omega)) (wl_s (o_assign (vI ((k + 1 : Nat) : Int)) rfl (wl_nil (thenQ_n (?_)))))))))
     exact ⟨_, (by omega), (k + 1), Bl0, (by first | omega | (simp; done) | (simp; omega) | simp_all), (hr0_1.trans (scan_none (by omega) (by ((repeat (first | (refine (if_pos ?_).trans ?_; solve | omega | assumption | (simp only [dbs]; first | done | omega | assumption) | (simp only [*, dbs]; done)) | (refine (if_neg ?_).trans ?_; solve | omega | assumption | (simp only [dbs]; first | done | omega | assumption) | (simp only [*, dbs]; done)))); rfl)))), rfl, ⟨_, upds_self _ ⟨rfl, rfl, (by first | rfl | exact congrArg (Value.int _) (by first | omega | (simp))), rfl, trivial⟩⟩, s1927, h_la, h_lb⟩
   ·have hp1934 : (la.length : Int) ≤ ((k : Nat) : Int) := by first | simpa using hc1889 | (have e := hc1889; simp at e; omega)
    refine cw_exit (thenQ_x (thenQ_x (blockQ_x (thenQ_n (?_)))))
    refine cw_seq (?_)
    refine cw_region (by kernel_rfl) (wl_s (o_assign (Value.bool true) rfl (wl_nil (thenQ_n (?_)))))
    refine cw_ret (end_r rfl (res1 rfl rfl rfl) (?_))
    have e : (sameM la lb) = true := by first | (rw [hr0_1]; exact scan_some (by omega) (by ((repeat (first | (refine (if_pos ?_).trans ?_; solve | omega | assumption | (simp only [dbs]; first | done | omega | assumption) | (simp only [*, dbs]; done)) | (refine (if_neg ?_).trans ?_; solve | omega | assumption | (simp only [dbs]; first | done | omega | assumption) | (simp only [*, dbs]; done)))); rfl))) | (rw [hr0_1]; exact scan_end (by omega)) | (unfold sameM; ((repeat (first | (refine (if_pos ?_).trans ?_; solve | omega | assumption | (simp only [dbs]; first | done | omega | assumption) | (simp only [*, dbs]; done)) | (refine (if_neg ?_).trans ?_; solve | omega | assumption | (simp only [dbs]; first | done | omega | assumption) | (simp only [*, dbs]; done)))); rfl))
    exact ⟨_, rfl, sl0.keep, by rw [e]; exact rfl⟩

end Go.Proofs.Yteajcgfcnbdmgaa
