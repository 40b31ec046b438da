/- Walks, printed by gen.py. -/
import Derived.Test.YteajcgfcnbdmgaaWaD
import Derived.Test.YteajcgfcnbdmgaaMaB
import Derived.Test.YteajcgfcnbdmgaaMaD
import Derived.Test.YteajcgfcnbdmgaaMaE
import Derived.Test.YteajcgfcnbdmgaaMaS
import Derived.Test.YteajcgfcnbdmgaaFwT
set_option linter.unusedSimpArgs false
set_option linter.unusedVariables false
namespace Go.Proofs.Yteajcgfcnbdmgaa
open Go.Fw Go.RowKit

set_option maxHeartbeats 4000000 in
set_option maxRecDepth 100000 in
theorem c_alike {O : List Nat} (l_v : Value) (l : List Share) (w : World) (h_l : RdL Enc.share w O l_v l) (hO : ∀ b ∈ O, b < w.heap.size) : CallsK Try.prog 55 [l_v] w (fun v _ => v = .bool (alikeM l)) :=  by
 have lim_l := h_l.len_le
 have h_l : RdL Enc.share w ([] ++ O) l_v l := h_l
 have s0 : St w O w [] := St.start hO
 refine callsK_of 75 Try.func55 rfl rfl (of_decide_eq_true rfl) (fun F0 => ?_)
 refine cw_seq (?_)
 refine cw_region (by kernel_rfl) (wl_s (o_assign (Value.bool false) rfl (wl_nil (thenQ_n (?_)))))
 refine cw_seq (?_)
 refine cw_seq (?_)
 refine cw_region (by kernel_rfl) (wl_s (o_move (l_v) rfl (wl_s (o_lenR Try.underlying38 rfl h_l (wl_s (o_eql .i64 (l.length : Int) (0 : Int) rfl rfl (wl_nil (thenQ_n (?_)))))))))
 refine cw_cond ((l.length : Int) == (0 : Int)) rfl rfl (fun hc1708 => ?_) (fun hc1708 => ?_)
 ·have hp1709 : (l.length : Int) = (0 : Int) := by first | simpa using hc1708 | (have e := hc1708; simp at e; omega)
  refine cw_seq (?_)
  refine cw_region (by kernel_rfl) (wl_s (o_assign (Value.bool false) rfl (wl_nil (thenQ_n (?_)))))
  refine cw_ret (thenQ_r (end_r rfl (res1 rfl rfl rfl) (?_)))
  have e : (alikeM l) = false := by first | (rw [hr0_1]; exact scan_some (by omega) (by ((repeat (first | (refine (if_pos ?_).trans ?_; solve | omega | assumption | (simp only [alx]; first | done | omega | assumption) | (simp only [*, dbs]; done)) | (refine (if_neg ?_).trans ?_; solve | omega | assumption | (simp only [alx]; first | done | omega | assumption) | (simp only [*, dbs]; done)))); rfl))) | (rw [hr0_1]; exact scan_end (by omega)) | (unfold alikeM; ((repeat (first | (refine (if_pos ?_).trans ?_; solve | omega | assumption | (simp only [alx]; first | done | omega | assumption) | (simp only [*, dbs]; done)) | (refine (if_neg ?_).trans ?_; solve | omega | assumption | (simp only [alx]; first | done | omega | assumption) | (simp only [*, dbs]; done)))); rfl))
  exact ⟨_, rfl, s0.keep, by rw [e]; exact rfl⟩
 ·have hp1710 : (l.length : Int) ≠ (0 : Int) := by first | simpa using hc1708 | (have e := hc1708; simp at e; omega)
  refine cw_skip (thenQ_n (?_))
  refine cw_seq (?_)
  refine cw_region (by kernel_rfl) (wl_s (o_move (l_v) rfl (wl_s (o_idx Try.underlying38 s_53 .i64 (0 : Int) 0 rfl rfl rfl h_l (by omega) fun a1711 hp1712 => (wl_s (o_loadS Try.underlying53 rfl s_53 rfl hp1712 fun cs1713 hs1714 => (wl_s (o_alloc [vI (0 : Int), vI (0 : Int), vI (0 : Int), vI (0 : Int), Value.slice none 0 0] z_53 rfl s0 fun b1715 w1716 e1721 s1717 m1718 k1719 bx1720 => (?_)))))))))
  clear e1721
  have h_l := h_l.mv m1718
  have hs1714 : Enc.share.rd w1716 ((b1715 :: []) ++ O) cs1713 (l[0]!) := Enc.mv Enc.share (x := l[0]!) hs1714 m1718
  obtain ⟨d1727, rfl, hd1728⟩ := hs1714
  have := hd1728.len_le
  refine wl_n (o_store (vs := [vI ((l[0]!).epoch), vI ((l[0]!).index), vI ((l[0]!).threshold), vI ((l[0]!).many), d1727]) (.agg #[vI ((l[0]!).epoch), vI ((l[0]!).index), vI ((l[0]!).threshold), vI ((l[0]!).many), d1727]) rfl rfl rfl s_53 (fun u hu => by simp only [List.mem_cons, List.not_mem_nil, or_false] at hu; rcases hu with rfl | rfl | rfl | rfl | rfl <;> first | rfl | exact hd1728.oneCell) (by first | assumption | (repeat (first | exact List.mem_cons_self | assumption | apply List.mem_cons_of_mem))) bx1720 (of_decide_eq_true rfl) s1717 fun w1722 s1723 m1724 k1725 bx1726 => (?_))
  have h_l := h_l.mv m1724
  have hd1728 := hd1728.mv m1724
  refine wl_s (o_assign (vI (0 : Int)) rfl (wl_nil (thenQ_n (?_))))
  refine cw_seq (?_)
  refine cw_seq (?_)
  refine cw_region (by kernel_rfl) (wl_s (o_fieldL 2 f_53_2 rfl (wl_s (o_loadBx Try.underlying3 rfl (vI ((l[0]!).threshold)) rfl bx1726 rfl (wl_s (o_lss .i64 ((l[0]!).threshold) (1 : Int) rfl rfl (wl_s (o_move (Value.bool (decide ((l[0]!).threshold < (1 : Int)))) rfl (?_)))))))))
  cases hb1729 : (decide ((l[0]!).threshold < (1 : Int)))
  ·have hp1730 : (1 : Int) ≤ (l[0]!).threshold := by first | simpa using hb1729 | (have e := hb1729; simp at e; omega)
   refine wl_t rfl (o_fieldL 2 f_53_2 rfl (wl_t rfl (o_loadBx Try.underlying3 rfl (vI ((l[0]!).threshold)) rfl bx1726 rfl (wl_t rfl (o_fieldL 3 f_53_3 rfl (wl_t rfl (o_loadBx Try.underlying3 rfl (vI ((l[0]!).many)) rfl bx1726 rfl (wl_t rfl (o_gtr .i64 ((l[0]!).threshold) ((l[0]!).many) rfl rfl (wl_s (o_pickF (Value.bool (decide ((l[0]!).many < (l[0]!).threshold))) rfl rfl (wl_s (o_move (Value.bool (decide ((l[0]!).many < (l[0]!).threshold))) rfl (?_))))))))))))))
   cases hb1731 : (decide ((l[0]!).many < (l[0]!).threshold))
   ·have hp1732 : (l[0]!).threshold ≤ (l[0]!).many := by first | simpa using hb1731 | (have e := hb1731; simp at e; omega)
    refine wl_t rfl (o_fieldL 3 f_53_3 rfl (wl_t rfl (o_loadBx Try.underlying3 rfl (vI ((l[0]!).many)) rfl bx1726 rfl (wl_t rfl (o_gtr .i64 ((l[0]!).many) (8 : Int) rfl rfl (wl_s (o_pickF (Value.bool (decide ((8 : Int) < (l[0]!).many))) rfl rfl (wl_s (o_move (Value.bool (decide ((8 : Int) < (l[0]!).many))) rfl (?_))))))))))
    cases hb1733 : (decide ((8 : Int) < (l[0]!).many))
    ·have hp1734 : (l[0]!).many ≤ (8 : Int) := by first | simpa using hb1733 | (have e := hb1733; simp at e; omega)
     refine wl_t rfl (o_fieldL 4 f_53_4 rfl (wl_t rfl (o_loadBx Try.underlying28 rfl (d1727) rfl bx1726 rfl (wl_t rfl (o_lenR Try.underlying28 rfl hd1728 (wl_t rfl (o_gtr .i64 (((l[0]!).data).length : Int) (64 : Int) rfl rfl (wl_s (o_pickF (Value.bool (decide ((64 : Int) < (((l[0]!).data).length : Int)))) rfl rfl (wl_nil (thenQ_n (?_))))))))))))
     refine cw_cond (decide ((64 : Int) < (((l[0]!).data).length : Int))) rfl rfl (fun hc1735 => ?_) (fun hc1735 => ?_)
     ·have hp1736 : (64 : Int) < (((l[0]!).data).length : Int) := by first | simpa using hc1735 | (have e := hc1735; simp at e; omega)
      refine cw_seq (?_)
      refine cw_region (by kernel_rfl) (wl_s (o_assign (Value.bool false) rfl (wl_nil (thenQ_n (?_)))))
      refine cw_ret (thenQ_r (end_r rfl (res1 rfl rfl rfl) (?_)))
      have e : (alikeM l) = false := by first | (rw [hr0_1]; exact scan_some (by omega) (by ((repeat (first | (refine (if_pos ?_).trans ?_; solve | omega | assumption | (simp only [alx]; first | done | omega | assumption) | (simp only [*, dbs]; done)) | (refine (if_neg ?_).trans ?_; solve | omega | assumption | (simp only [alx]; first | done | omega | assumption) | (simp only [*, dbs]; done)))); rfl))) | (rw [hr0_1]; exact scan_end (by omega)) | (unfold alikeM; ((repeat (first | (refine (if_pos ?_).trans ?_; solve | omega | assumption | (simp only [alx]; first | done | omega | assumption) | (simp only [*, dbs]; done)) | (refine (if_neg ?_).trans ?_; solve | omega | assumption | (simp only [alx]; first | done | omega | assumption) | (simp only [*, dbs]; done)))); rfl))
      exact ⟨_, rfl, s1723.keep, by rw [e]; exact rfl⟩
     ·have hp1737 : (((l[0]!).data).length : Int) ≤ (64 : Int) := by first | simpa using hc1735 | (have e := hc1735; simp at e; omega)
      refine cw_skip (thenQ_n (?_))
      refine cw_seq (?_)
      refine cw_seq (?_)
      refine cw_region (by kernel_rfl) (wl_s (o_move (l_v) rfl (wl_s (o_lenR Try.underlying38 rfl h_l (wl_s (o_move (vI (0 : Int)) rfl (wl_nil (thenQ_n (?_)))))))))
      refine cw_block (?_)
      refine cw_loop (fun mI FI wI => ∃ (k : Nat) (B : List Nat), k ≤ l.length ∧ alikeM l = scan (fun k => if alDiff l[0]! l[k]! then some false else if alIdx l[0]! l[k]! (alLast l k) then some false else none) true k (l.length - k) ∧ mI = l.length - k ∧ (∃ F1, FI = upds F1 [(3, Value.pointer (some ⟨b1715, 0, none⟩)), (4, vI (alLast l k)), (34, l_v), (35, vI (l.length : Int)), (36, vI ((k : Nat) : Int)), (75, undef)]) ∧ St w O wI B ∧ RdL Enc.share wI (B ++ O) (l_v) (l) ∧ RdL Enc.u8 wI (B ++ O) (d1727) ((l[0]!).data) ∧ Box wI b1715 53 [vI ((l[0]!).epoch), vI ((l[0]!).index), vI ((l[0]!).threshold), vI ((l[0]!).many), d1727] ∧ b1715 ∈ B) (l.length - (0)) ?_ ?_
      ·exact ⟨(0), (b1715 :: []), (by first | omega | (simp; done) | (simp; omega) | simp_all), (by unfold alikeM; ((repeat (first | (refine (if_pos ?_).trans ?_; solve | omega | assumption | (simp only [alx]; first | done | omega | assumption) | (simp only [*, dbs]; done)) | (refine (if_neg ?_).trans ?_; solve | omega | assumption | (simp only [alx]; first | done | omega | assumption) | (simp only [*, dbs]; done)))); rfl)), rfl, ⟨_, upds_self _ ⟨rfl, (by first | rfl | exact congrArg (Value.int _) (by first | omega | (rfl))), rfl, rfl, (by first | rfl | exact congrArg (Value.int _) (by first | omega | (simp))), rfl, trivial⟩⟩, s1723, h_l, hd1728, bx1726, (by first | assumption | (repeat (first | exact List.mem_cons_self | assumption | apply List.mem_cons_of_mem)) | (apply_assumption; assumption))⟩
      ·intro ml0 F wl0 hI
       clear h_l hd1728 bx1726
       obtain ⟨k, Bl0, hr0_0, hr0_1, hm0, ⟨Fl0, rfl⟩, sl0, h_l, hd1728, bx1726, hin_b1715⟩ := hI
       refine cw_seq (?_)
       refine cw_region (by kernel_rfl) (wl_s (o_lss .i64 ((k : Nat) : Int) (l.length : Int) rfl rfl (wl_nil (thenQ_n (?_)))))
       refine cw_seq (?_)
       refine cw_cond (decide (((k : Nat) : Int) < (l.length : Int))) rfl rfl (fun hc1738 => ?_) (fun hc1738 => ?_)
       ·have hp1739 : ((k : Nat) : Int) < (l.length : Int) := by first | simpa using hc1738 | (have e := hc1738; simp at e; omega)
        refine cw_skip (thenQ_n (?_))
        refine cw_seq (?_)
        refine cw_block (?_)
        refine cw_seq (?_)
        refine cw_region (by kernel_rfl) (wl_s (o_idx Try.underlying38 s_53 .i64 ((k : Nat) : Int) k rfl rfl rfl h_l (by omega) fun a1740 hp1741 => (wl_s (o_loadS Try.underlying53 rfl s_53 rfl hp1741 fun cs1742 hs1743 => (wl_s (o_alloc [vI (0 : Int), vI (0 : Int), vI (0 : Int), vI (0 : Int), Value.slice none 0 0] z_53 rfl sl0 fun b1744 w1745 e1750 s1746 m1747 k1748 bx1749 => (?_)))))))
        have ne1751 : b1715 ≠ b1744 := by have := bx1726.lt; omega
        clear e1750
        have h_l := h_l.mv m1747
        have hs1743 : Enc.share.rd w1745 ((b1744 :: Bl0) ++ O) cs1742 (l[k]!) := Enc.mv Enc.share (x := l[k]!) hs1743 m1747
        have hd1728 := hd1728.mv m1747
        have bx1726 := bx1726.keep k1748 (by simp)
        obtain ⟨d1757, rfl, hd1758⟩ := hs1743
        have := hd1758.len_le
        refine wl_n (o_store (vs := [vI ((l[k]!).epoch), vI ((l[k]!).index), vI ((l[k]!).threshold), vI ((l[k]!).many), d1757]) (.agg #[vI ((l[k]!).epoch), vI ((l[k]!).index), vI ((l[k]!).threshold), vI ((l[k]!).many), d1757]) rfl rfl rfl s_53 (fun u hu => by simp only [List.mem_cons, List.not_mem_nil, or_false] at hu; rcases hu with rfl | rfl | rfl | rfl | rfl <;> first | rfl | exact hd1758.oneCell) (by first | assumption | (repeat (first | exact List.mem_cons_self | assumption | apply List.mem_cons_of_mem))) bx1749 (of_decide_eq_true rfl) s1746 fun w1752 s1753 m1754 k1755 bx1756 => (?_))
        have h_l := h_l.mv m1754
        have hd1758 := hd1758.mv m1754
        have hd1728 := hd1728.mv m1754
        have bx1726 := bx1726.keep k1755 (by simp only [List.mem_singleton]; first | omega | exact ne1751)
        refine wl_nil (thenQ_n (?_))
        refine cw_seq (?_)
        refine cw_seq (?_)
        refine cw_region (by kernel_rfl) (wl_s (o_fieldL 2 f_53_2 rfl (wl_s (o_loadBx Try.underlying3 rfl (vI ((l[k]!).threshold)) rfl bx1756 rfl (wl_s (o_fieldL 2 f_53_2 rfl (wl_s (o_loadBx Try.underlying3 rfl (vI ((l[0]!).threshold)) rfl bx1726 rfl (wl_s (o_neq .i64 ((l[k]!).threshold) ((l[0]!).threshold) rfl rfl (wl_s (o_move (Value.bool (((l[k]!).threshold) != ((l[0]!).threshold))) rfl (?_)))))))))))))
        cases hb1759 : (((l[k]!).threshold) != ((l[0]!).threshold))
        ·have hp1760 : (l[k]!).threshold = (l[0]!).threshold := by first | simpa using hb1759 | (have e := hb1759; simp at e; omega)
         refine wl_t rfl (o_fieldL 3 f_53_3 rfl (wl_t rfl (o_loadBx Try.underlying3 rfl (vI ((l[k]!).many)) rfl bx1756 rfl (wl_t rfl (o_fieldL 3 f_53_3 rfl (wl_t rfl (o_loadBx Try.underlying3 rfl (vI ((l[0]!).many)) rfl bx1726 rfl (wl_t rfl (o_neq .i64 ((l[k]!).many) ((l[0]!).many) rfl rfl (wl_s (o_pickF (Value.bool (((l[k]!).many) != ((l[0]!).many))) rfl rfl (wl_s (o_move (Value.bool (((l[k]!).many) != ((l[0]!).many))) rfl (?_))))))))))))))
         cases hb1761 : (((l[k]!).many) != ((l[0]!).many))
         ·have hp1762 : (l[k]!).many = (l[0]!).many := by first | simpa using hb1761 | (have e := hb1761; simp at e; omega)
          refine wl_t rfl (o_fieldL 4 f_53_4 rfl (wl_t rfl (o_loadBx Try.underlying28 rfl (d1757) rfl bx1756 rfl (wl_t rfl (o_lenR Try.underlying28 rfl hd1758 (wl_t rfl (o_fieldL 4 f_53_4 rfl (wl_t rfl (o_loadBx Try.underlying28 rfl (d1727) rfl bx1726 rfl (wl_t rfl (o_lenR Try.underlying28 rfl hd1728 (wl_t rfl (o_neq .i64 (((l[k]!).data).length : Int) (((l[0]!).data).length : Int) rfl rfl (wl_s (o_pickF (Value.bool ((((l[k]!).data).length : Int) != (((l[0]!).data).length : Int))) rfl rfl (wl_nil (thenQ_n (?_))))))))))))))))))
          refine cw_cond ((((l[k]!).data).length : Int) != (((l[0]!).data).length : Int)) rfl rfl (fun hc1763 => ?_) (fun hc1763 => ?_)
          ·have hp1764 : (((l[k]!).data).length : Int) ≠ (((l[0]!).data).length : Int) := by first | simpa using hc1763 | (have e := hc1763; simp at e; omega)
           refine cw_seq (?_)
           refine cw_region (by kernel_rfl) (wl_s (o_assign (Value.bool false) rfl (wl_nil (thenQ_n (?_)))))
           refine cw_ret (thenQ_r (blockQ_r (thenQ_r (thenQ_r (blockQ_r (thenQ_r (end_r rfl (res1 rfl rfl rfl) (?_))))))))
           have e : (alikeM l) = false := by first | (rw [hr0_1]; exact scan_some (by omega) (by ((repeat (first | (refine (if_pos ?_).trans ?_; solve | omega | assumption | (simp only [alx]; first | done | omega | assumption) | (simp only [*, dbs]; done)) | (refine (if_neg ?_).trans ?_; solve | omega | assumption | (simp only [alx]; first | done | omega | assumption) | (simp only [*, dbs]; done)))); rfl))) | (rw [hr0_1]; exact scan_end (by omega)) | (unfold alikeM; ((repeat (first | (refine (if_pos ?_).trans ?_; solve | omega | assumption | (simp only [alx]; first | done | omega | assumption) | (simp only [*, dbs]; done)) | (refine (if_neg ?_).trans ?_; solve | omega | assumption | (simp only [alx]; first | done | omega | assumption) | (simp only [*, dbs]; done)))); rfl))
           exact ⟨_, rfl, s1753.keep, by rw [e]; exact rfl⟩
          ·have hp1765 : (((l[k]!).data).length : Int) = (((l[0]!).data).length : Int) := by first | simpa using hc1763 | (have e := hc1763; simp at e; omega)
           refine cw_skip (thenQ_n (?_))
           refine cw_seq (?_)
           refine cw_seq (?_)
           refine cw_region (by kernel_rfl) (wl_s (o_fieldL 1 f_53_1 rfl (wl_s (o_loadBx Try.underlying3 rfl (vI ((l[k]!).index)) rfl bx1756 rfl (wl_s (o_move (vI (alLast l k)) rfl (wl_s (o_leq .i64 ((l[k]!).index) (alLast l k) rfl rfl (wl_s (o_move (Value.bool (decide ((l[k]!).index ≤ alLast l k))) rfl (?_)))))))))))
           cases hb1766 : (decide ((l[k]!).index ≤ alLast l k))
           ·have hp1767 : alLast l k < (l[k]!).index := by first | simpa using hb1766 | (have e := hb1766; simp at e; omega)
            refine wl_t rfl (o_fieldL 1 f_53_1 rfl (wl_t rfl (o_loadBx Try.underlying3 rfl (vI ((l[k]!).index)) rfl bx1756 rfl (wl_t rfl (o_fieldL 3 f_53_3 rfl (wl_t rfl (o_loadBx Try.underlying3 rfl (vI ((l[0]!).many)) rfl bx1726 rfl (wl_t rfl (o_gtr .i64 ((l[k]!).index) ((l[0]!).many) rfl rfl (wl_s (o_pickF (Value.bool (decide ((l[0]!).many < (l[k]!).index))) rfl rfl (wl_nil (thenQ_n (?_))))))))))))))
            refine cw_cond (decide ((l[0]!).many < (l[k]!).index)) rfl rfl (fun hc1768 => ?_) (fun hc1768 => ?_)
            ·have hp1769 : (l[0]!).many < (l[k]!).index := by first | simpa using hc1768 | (have e := hc1768; simp at e; omega)
             refine cw_seq (?_)
             refine cw_region (by kernel_rfl) (wl_s (o_assign (Value.bool false) rfl (wl_nil (thenQ_n (?_)))))
             refine cw_ret (thenQ_r (blockQ_r (thenQ_r (thenQ_r (blockQ_r (thenQ_r (end_r rfl (res1 rfl rfl rfl) (?_))))))))
             have e : (alikeM l) = false := by first | (rw [hr0_1]; exact scan_some (by omega) (by ((repeat (first | (refine (if_pos ?_).trans ?_; solve | omega | assumption | (simp only [alx]; first | done | omega | assumption) | (simp only [*, dbs]; done)) | (refine (if_neg ?_).trans ?_; solve | omega | assumption | (simp only [alx]; first | done | omega | assumption) | (simp only [*, dbs]; done)))); rfl))) | (rw [hr0_1]; exact scan_end (by omega)) | (unfold alikeM; ((repeat (first | (refine (if_pos ?_).trans ?_; solve | omega | assumption | (simp only [alx]; first | done | omega | assumption) | (simp only [*, dbs]; done)) | (refine (if_neg ?_).trans ?_; solve | omega | assumption | (simp only [alx]; first | done | omega | assumption) | (simp only [*, dbs]; done)))); rfl))
             exact ⟨_, rfl, s1753.keep, by rw [e]; exact rfl⟩
            ·have hp1770 : (l[k]!).index ≤ (l[0]!).many := by first | simpa using hc1768 | (have e := hc1768; simp at e; omega)
             refine cw_skip (thenQ_n (?_))
             refine cw_region (by kernel_rfl) (wl_s (o_fieldL 1 f_53_1 rfl (wl_s (o_loadBx Try.underlying3 rfl (vI ((l[k]!).index)) rfl bx1756 rfl (wl_s (o_assign (vI ((l[k]!).index)) rfl (wl_nil (blockQ_n (thenQ_n (?_))))))))))
             refine cw_region (by kernel_rfl) (wl_s (o_add .i64 ((k : Nat) : Int) (1 : Int) (((k + 1 : Nat) : Int)) rfl rfl (w64 (by omega) (by omega)) (wl_s (o_move (vI ((k + 1 : Nat) : Int)) rfl (wl_nil (thenQ_n (?_)))))))
             exact ⟨_, (by omega), (k + 1), (b1744 :: Bl0), (by first | omega | (simp; done) | (simp; omega) | simp_all), (hr0_1.trans (scan_none (by omega) (by ((repeat (first | (refine (if_pos ?_).trans ?_; solve | omega | assumption | (simp only [alx]; first | done | omega | assumption) | (simp only [*, dbs]; done)) | (refine (if_neg ?_).trans ?_; solve | omega | assumption | (simp only [alx]; first | done | omega | assumption) | (simp only [*, dbs]; done)))); rfl)))), rfl, ⟨_, upds_self _ ⟨rfl, (by first | rfl | exact congrArg (Value.int _) (by first | omega | (simp [alLast]))), rfl, rfl, (by first | rfl | exact congrArg (Value.int _) (by first | omega | (simp))), rfl, trivial⟩⟩, s1753, h_l, hd1728, bx1726, (by first | assumption | (repeat (first | exact List.mem_cons_self | assumption | apply List.mem_cons_of_mem)) | (apply_assumption; assumption))⟩
           ·have hp1771 : (l[k]!).index ≤ alLast l k := by first | simpa using hb1766 | (have e := hb1766; simp at e; omega)
            refine wl_k rfl (wl_k rfl (wl_k rfl (wl_k rfl (wl_k rfl (wl_s (o_pickT (Value.bool true) rfl rfl (wl_nil (thenQ_n (?_)))))))))
            refine cw_cond true rfl rfl (fun _ => ?_) (fun h => by cases h)
            refine cw_seq (?_)
            refine cw_region (by kernel_rfl) (wl_s (o_assign (Value.bool false) rfl (wl_nil (thenQ_n (?_)))))
            refine cw_ret (thenQ_r (blockQ_r (thenQ_r (thenQ_r (blockQ_r (thenQ_r (end_r rfl (res1 rfl rfl rfl) (?_))))))))
            have e : (alikeM l) = false := by first | (rw [hr0_1]; exact scan_some (by omega) (by ((repeat (first | (refine (if_pos ?_).trans ?_; solve | omega | assumption | (simp only [alx]; first | done | omega | assumption) | (simp only [*, dbs]; done)) | (refine (if_neg ?_).trans ?_; solve | omega | assumption | (simp only [alx]; first | done | omega | assumption) | (simp only [*, dbs]; done)))); rfl))) | (rw [hr0_1]; exact scan_end (by omega)) | (unfold alikeM; ((repeat (first | (refine (if_pos ?_).trans ?_; solve | omega | assumption | (simp only [alx]; first | done | omega | assumption) | (simp only [*, dbs]; done)) | (refine (if_neg ?_).trans ?_; solve | omega | assumption | (simp only [alx]; first | done | omega | assumption) | (simp only [*, dbs]; done)))); rfl))
            exact ⟨_, rfl, s1753.keep, by rw [e]; exact rfl⟩
         ·have hp1772 : (l[k]!).many ≠ (l[0]!).many := by first | simpa using hb1761 | (have e := hb1761; simp at e; omega)
          refine wl_k rfl (wl_k rfl (wl_k rfl (wl_k rfl (wl_k rfl (wl_k rfl (wl_k rfl (wl_s (o_pickT (Value.bool true) rfl rfl (wl_nil (thenQ_n (?_)))))))))))
          refine cw_cond true rfl rfl (fun _ => ?_) (fun h => by cases h)
          refine cw_seq (?_)
          refine cw_region (by kernel_rfl) (wl_s (o_assign (Value.bool false) rfl (wl_nil (thenQ_n (?_)))))
          refine cw_ret (thenQ_r (blockQ_r (thenQ_r (thenQ_r (blockQ_r (thenQ_r (end_r rfl (res1 rfl rfl rfl) (?_))))))))
          have e : (alikeM l) = false := by first | (rw [hr0_1]; exact scan_some (by omega) (by ((repeat (first | (refine (if_pos ?_).trans ?_; solve | omega | assumption | (simp only [alx]; first | done | omega | assumption) | (simp only [*, dbs]; done)) | (refine (if_neg ?_).trans ?_; solve | omega | assumption | (simp only [alx]; first | done | omega | assumption) | (simp only [*, dbs]; done)))); rfl))) | (rw [hr0_1]; exact scan_end (by omega)) | (unfold alikeM; ((repeat (first | (refine (if_pos ?_).trans ?_; solve | omega | assumption | (simp only [alx]; first | done | omega | assumption) | (simp only [*, dbs]; done)) | (refine (if_neg ?_).trans ?_; solve | omega | assumption | (simp only [alx]; first | done | omega | assumption) | (simp only [*, dbs]; done)))); rfl))
          exact ⟨_, rfl, s1753.keep, by rw [e]; exact rfl⟩
        ·have hp1773 : (l[k]!).threshold ≠ (l[0]!).threshold := by first | simpa using hb1759 | (have e := hb1759; simp at e; omega)
         refine wl_k rfl (wl_k rfl (wl_k rfl (wl_k rfl (wl_k rfl (wl_s (o_pickT (Value.bool true) rfl rfl (wl_s (o_move (Value.bool true) rfl (wl_k rfl (wl_k rfl (wl_k rfl (wl_k rfl (wl_k rfl (wl_k rfl (wl_k rfl (wl_s (o_pickT (Value.bool true) rfl rfl (wl_nil (thenQ_n (?_))))))))))))))))))))
         refine cw_cond true rfl rfl (fun _ => ?_) (fun h => by cases h)
         refine cw_seq (?_)
         refine cw_region (by kernel_rfl) (wl_s (o_assign (Value.bool false) rfl (wl_nil (thenQ_n (?_)))))
         refine cw_ret (thenQ_r (blockQ_r (thenQ_r (thenQ_r (blockQ_r (thenQ_r (end_r rfl (res1 rfl rfl rfl) (?_))))))))
         have e : (alikeM l) = false := by first | (rw [hr0_1]; exact scan_some (by omega) (by ((repeat (first | (refine (if_pos ?_).trans ?_; solve | omega | assumption | (simp only [alx]; first | done | omega | assumption) | (simp only [*, dbs]; done)) | (refine (if_neg ?_).trans ?_; solve | omega | assumption | (simp only [alx]; first | done | omega | assumption) | (simp only [*, dbs]; done)))); rfl))) | (rw [hr0_1]; exact scan_end (by omega)) | (unfold alikeM; ((repeat (first | (refine (if_pos ?_).trans ?_; solve | omega | assumption | (simp only [alx]; first | done | omega | assumption) | (simp only [*, dbs]; done)) | (refine (if_neg ?_).trans ?_; solve | omega | assumption | (simp only [alx]; first | done | omega | assumption) | (simp only [*, dbs]; done)))); rfl))
         exact ⟨_, rfl, s1753.keep, by rw [e]; exact rfl⟩
       ·have hp1774 : (l.length : Int) ≤ ((k : Nat) : Int) := by first | simpa using hc1738 | (have e := hc1738; simp at e; omega)
        refine cw_exit (thenQ_x (thenQ_x (blockQ_x (thenQ_n (?_)))))
        refine cw_seq (?_)
        refine cw_region (by kernel_rfl) (wl_s (o_assign (Value.bool true) rfl (wl_nil (thenQ_n (?_)))))
        refine cw_ret (end_r rfl (res1 rfl rfl rfl) (?_))
        have e : (alikeM l) = true := by first | (rw [hr0_1]; exact scan_some (by omega) (by ((repeat (first | (refine (if_pos ?_).trans ?_; solve | omega | assumption | (simp only [alx]; first | done | omega | assumption) | (simp only [*, dbs]; done)) | (refine (if_neg ?_).trans ?_; solve | omega | assumption | (simp only [alx]; first | done | omega | assumption) | (simp only [*, dbs]; done)))); rfl))) | (rw [hr0_1]; exact scan_end (by omega)) | (unfold alikeM; ((repeat (first | (refine (if_pos ?_).trans ?_; solve | omega | assumption | (simp only [alx]; first | done | omega | assumption) | (simp only [*, dbs]; done)) | (refine (if_neg ?_).trans ?_; solve | omega | assumption | (simp only [alx]; first | done | omega | assumption) | (simp only [*, dbs]; done)))); rfl))
        exact ⟨_, rfl, sl0.keep, by rw [e]; exact rfl⟩
    ·have hp1775 : (8 : Int) < (l[0]!).many := by first | simpa using hb1733 | (have e := hb1733; simp at e; omega)
     refine wl_k rfl (wl_k rfl (wl_k rfl (wl_k rfl (wl_s (o_pickT (Value.bool true) rfl rfl (wl_nil (thenQ_n (?_))))))))
     refine cw_cond true rfl rfl (fun _ => ?_) (fun h => by cases h)
     refine cw_seq (?_)
     refine cw_region (by kernel_rfl) (wl_s (o_assign (Value.bool false) rfl (wl_nil (thenQ_n (?_)))))
     refine cw_ret (thenQ_r (end_r rfl (res1 rfl rfl rfl) (?_)))
     have e : (alikeM l) = false := by first | (rw [hr0_1]; exact scan_some (by omega) (by ((repeat (first | (refine (if_pos ?_).trans ?_; solve | omega | assumption | (simp only [alx]; first | done | omega | assumption) | (simp only [*, dbs]; done)) | (refine (if_neg ?_).trans ?_; solve | omega | assumption | (simp only [alx]; first | done | omega | assumption) | (simp only [*, dbs]; done)))); rfl))) | (rw [hr0_1]; exact scan_end (by omega)) | (unfold alikeM; ((repeat (first | (refine (if_pos ?_).trans ?_; solve | omega | assumption | (simp only [alx]; first | done | omega | assumption) | (simp only [*, dbs]; done)) | (refine (if_neg ?_).trans ?_; solve | omega | assumption | (simp only [alx]; first | done | omega | assumption) | (simp only [*, dbs]; done)))); rfl))
     exact ⟨_, rfl, s1723.keep, by rw [e]; exact rfl⟩
   ·have hp1776 : (l[0]!).many < (l[0]!).threshold := by first | simpa using hb1731 | (have e := hb1731; simp at e; omega)
    refine wl_k rfl (wl_k rfl (wl_k rfl (wl_s (o_pickT (Value.bool true) rfl rfl (wl_s (o_move (Value.bool true) rfl (wl_k rfl (wl_k rfl (wl_k rfl (wl_k rfl (wl_s (o_pickT (Value.bool true) rfl rfl (wl_nil (thenQ_n (?_)))))))))))))))
    refine cw_cond true rfl rfl (fun _ => ?_) (fun h => by cases h)
    refine cw_seq (?_)
    refine cw_region (by kernel_rfl) (wl_s (o_assign (Value.bool false) rfl (wl_nil (thenQ_n (?_)))))
    refine cw_ret (thenQ_r (end_r rfl (res1 rfl rfl rfl) (?_)))
    have e : (alikeM l) = false := by first | (rw [hr0_1]; exact scan_some (by omega) (by ((repeat (first | (refine (if_pos ?_).trans ?_; solve | omega | assumption | (simp only [alx]; first | done | omega | assumption) | (simp only [*, dbs]; done)) | (refine (if_neg ?_).trans ?_; solve | omega | assumption | (simp only [alx]; first | done | omega | assumption) | (simp only [*, dbs]; done)))); rfl))) | (rw [hr0_1]; exact scan_end (by omega)) | (unfold alikeM; ((repeat (first | (refine (if_pos ?_).trans ?_; solve | omega | assumption | (simp only [alx]; first | done | omega | assumption) | (simp only [*, dbs]; done)) | (refine (if_neg ?_).trans ?_; solve | omega | assumption | (simp only [alx]; first | done | omega | assumption) | (simp only [*, dbs]; done)))); rfl))
    exact ⟨_, rfl, s1723.keep, by rw [e]; exact rfl⟩
  ·have hp1777 : (l[0]!).threshold < (1 : Int) := by first | simpa using hb1729 | (have e := hb1729; simp at e; omega)
   refine wl_k rfl (wl_k rfl (wl_k rfl (wl_k rfl (wl_k rfl (wl_s (o_pickT (Value.bool true) rfl rfl (wl_s (o_move (Value.bool true) rfl (wl_k rfl (wl_k rfl (wl_k rfl (wl_s (o_pickT (Value.bool true) rfl rfl (wl_s (o_move (Value.bool true) rfl (wl_k rfl (wl_k rfl (wl_k rfl (wl_k rfl (wl_s (o_pickT (Value.bool true) rfl rfl (wl_nil (thenQ_n (?_))))))))))))))))))))))))
   refine cw_cond true rfl rfl (fun _ => ?_) (fun h => by cases h)
   refine cw_seq (?_)
   refine cw_region (by kernel_rfl) (wl_s (o_assign (Value.bool false) rfl (wl_nil (thenQ_n (?_)))))
   refine cw_ret (thenQ_r (end_r rfl (res1 rfl rfl rfl) (?_)))
   have e : (alikeM l) = false := by first | (rw [hr0_1]; exact scan_some (by omega) (by ((repeat (first | (refine (if_pos ?_).trans ?_; solve | omega | assumption | (simp only [alx]; first | done | omega | assumption) | (simp only [*, dbs]; done)) | (refine (if_neg ?_).trans ?_; solve | omega | assumption | (simp only [alx]; first | done | omega | assumption) | (simp only [*, dbs]; done)))); rfl))) | (rw [hr0_1]; exact scan_end (by omega)) | (unfold alikeM; ((repeat (first | (refine (if_pos ?_).trans ?_; solve | omega | assumption | (simp only [alx]; first | done | omega | assumption) | (simp only [*, dbs]; done)) | (refine (if_neg ?_).trans ?_; solve | omega | assumption | (simp only [alx]; first | done | omega | assumption) | (simp only [*, dbs]; done)))); rfl))
   exact ⟨_, rfl, s1723.keep, by rw [e]; exact rfl⟩
set_option maxHeartbeats 4000000 in
set_option maxRecDepth 100000 in
theorem c_check8 {O : List Nat} (l_v : Value) (l : List Share) (w : World) (h_l : RdL Enc.share w O l_v l) (hO : ∀ b ∈ O, b < w.heap.size) : CallsK Try.prog 32 [l_v] w (fun v _ => v = vI (checkM l)) :=  by
 have lim_l := h_l.len_le
 have h_l : RdL Enc.share w ([] ++ O) l_v l := h_l
 have s0 : St w O w [] := St.start hO
 refine callsK_of 32 Try.func32 rfl rfl (of_decide_eq_true rfl) (fun F0 => ?_)
 refine cw_seq (?_)
 refine cw_region (by kernel_rfl) (wl_s (o_assign (vI (0 : Int)) rfl (wl_nil (thenQ_n (?_)))))
 refine cw_seq (?_)
 refine cw_seq (?_)
 refine cw_region (by kernel_rfl) (wl_s (o_move (l_v) rfl (wl_s (o_callK (vs := [l_v]) enter_55 (c_alike (O := [] ++ O) l_v l w h_l s0.lt) rfl s0 fun v1778 w1779 s1780 m1781 k1782 r1783 => (?_)))))
 obtain rfl := r1783
 have h_l := h_l.mv m1781
 refine wl_s (o_not (alikeM l) rfl (wl_nil (thenQ_n (?_))))
 refine cw_cond (!(alikeM l)) rfl rfl (fun hc1784 => ?_) (fun hc1784 => ?_)
 ·have hp1785 : (alikeM l) = false := by first | simpa using hc1784 | (have e := hc1784; simp at e; omega)
  refine cw_seq (?_)
  refine cw_region (by kernel_rfl) (wl_s (o_assign (vI (80 : Int)) rfl (wl_nil (thenQ_n (?_)))))
  refine cw_ret (thenQ_r (end_r rfl (res1 rfl rfl rfl) (?_)))
  have e : (checkM l) = (80 : Int) := by first | (rw [hr0_1]; exact scan_some (by omega) (by ((repeat (first | (refine (if_pos ?_).trans ?_; solve | omega | assumption | (simp only [alx]; first | done | omega | assumption) | (simp only [*, dbs]; done)) | (refine (if_neg ?_).trans ?_; solve | omega | assumption | (simp only [alx]; first | done | omega | assumption) | (simp only [*, dbs]; done)))); rfl))) | (rw [hr0_1]; exact scan_end (by omega)) | (unfold checkM; ((repeat (first | (refine (if_pos ?_).trans ?_; solve | omega | assumption | (simp only [alx]; first | done | omega | assumption) | (simp only [*, dbs]; done)) | (refine (if_neg ?_).trans ?_; solve | omega | assumption | (simp only [alx]; first | done | omega | assumption) | (simp only [*, dbs]; done)))); rfl))
  exact ⟨_, rfl, s1780.keep, by rw [e]; exact rfl⟩
 ·have hp1786 : (alikeM l) = true := by first | simpa using hc1784 | (have e := hc1784; simp at e; omega)
  refine cw_skip (thenQ_n (?_))
  refine cw_seq (?_)
  refine cw_seq (?_)
  refine cw_region (by kernel_rfl) (wl_s (o_move (l_v) rfl (wl_s (o_lenR Try.underlying38 rfl h_l (wl_s (o_move (vI (0 : Int)) rfl (wl_nil (thenQ_n (?_)))))))))
  refine cw_block (?_)
  refine cw_loop (fun mI FI wI => ∃ (k : Nat) (B : List Nat), k ≤ l.length ∧ checkM l = scan (fun k => if ep1 l k then some 81 else none) 0 k (l.length - k) ∧ mI = l.length - k ∧ (∃ F1, FI = upds F1 [(0, l_v), (8, l_v), (9, vI (l.length : Int)), (10, vI ((k : Nat) : Int)), (32, undef)]) ∧ St w O wI B ∧ RdL Enc.share wI (B ++ O) (l_v) (l)) (l.length - (0)) ?_ ?_
  ·exact ⟨(0), [], (by first | omega | (simp; done) | (simp; omega) | simp_all), (by unfold checkM; ((repeat (first | (refine (if_pos ?_).trans ?_; solve | omega | assumption | (simp only [alx]; first | done | omega | assumption) | (simp only [*, dbs]; done)) | (refine (if_neg ?_).trans ?_; solve | omega | assumption | (simp only [alx]; first | done | omega | assumption) | (simp only [*, dbs]; done)))); rfl)), rfl, ⟨_, upds_self _ ⟨rfl, rfl, rfl, (by first | rfl | exact congrArg (Value.int _) (by first | omega | (simp))), rfl, trivial⟩⟩, s1780, h_l⟩
  ·intro ml0 F wl0 hI
   clear h_l
   obtain ⟨k, Bl0, hr0_0, hr0_1, hm0, ⟨Fl0, rfl⟩, sl0, h_l⟩ := hI
   refine cw_seq (?_)
   refine cw_region (by kernel_rfl) (wl_s (o_lss .i64 ((k : Nat) : Int) (l.length : Int) rfl rfl (wl_nil (thenQ_n (?_)))))
   refine cw_seq (?_)
   refine cw_cond (decide (((k : Nat) : Int) < (l.length : Int))) rfl rfl (fun hc1787 => ?_) (fun hc1787 => ?_)
   ·have hp1788 : ((k : Nat) : Int) < (l.length : Int) := by first | simpa using hc1787 | (have e := hc1787; simp at e; omega)
    refine cw_skip (thenQ_n (?_))
    refine cw_seq (?_)
    refine cw_block (?_)
    refine cw_seq (?_)
    refine cw_region (by kernel_rfl) (wl_s (o_idx Try.underlying38 s_53 .i64 ((k : Nat) : Int) k rfl rfl rfl h_l (by omega) fun a1789 hp1790 => (wl_s (o_loadS Try.underlying53 rfl s_53 rfl hp1790 fun cs1791 hs1792 => (wl_s (o_alloc [vI (0 : Int), vI (0 : Int), vI (0 : Int), vI (0 : Int), Value.slice none 0 0] z_53 rfl sl0 fun b1793 w1794 e1799 s1795 m1796 k1797 bx1798 => (?_)))))))
    clear e1799
    have h_l := h_l.mv m1796
    have hs1792 : Enc.share.rd w1794 ((b1793 :: Bl0) ++ O) cs1791 (l[k]!) := Enc.mv Enc.share (x := l[k]!) hs1792 m1796
    obtain ⟨d1805, rfl, hd1806⟩ := hs1792
    have := hd1806.len_le
    refine wl_n (o_store (vs := [vI ((l[k]!).epoch), vI ((l[k]!).index), vI ((l[k]!).threshold), vI ((l[k]!).many), d1805]) (.agg #[vI ((l[k]!).epoch), vI ((l[k]!).index), vI ((l[k]!).threshold), vI ((l[k]!).many), d1805]) rfl rfl rfl s_53 (fun u hu => by simp only [List.mem_cons, List.not_mem_nil, or_false] at hu; rcases hu with rfl | rfl | rfl | rfl | rfl <;> first | rfl | exact hd1806.oneCell) (by first | assumption | (repeat (first | exact List.mem_cons_self | assumption | apply List.mem_cons_of_mem))) bx1798 (of_decide_eq_true rfl) s1795 fun w1800 s1801 m1802 k1803 bx1804 => (?_))
    have h_l := h_l.mv m1802
    refine wl_nil (thenQ_n (?_))
    refine cw_seq (?_)
    refine cw_draw' 6 _ _ [isV (Value.pointer (some ⟨b1793, 0, none⟩)), isV (vI ((l[k]!).epoch)), fun (vT : Value) (wT : World) => RdL Enc.share wT ((b1793 :: Bl0) ++ O) vT (l), fun (vT : Value) (wT : World) => ∃ aT, vT = .pointer (some aT) ∧ PT Enc.share wT ((b1793 :: Bl0) ++ O) (.pointer (some aT)) (l[0]!), fun (vT : Value) (wT : World) => ∃ aT, vT = .pointer (some aT) ∧ PT Enc.int wT ((b1793 :: Bl0) ++ O) (.pointer (some aT)) ((l[0]!).epoch), isV (vI ((l[0]!).epoch))] (by kernel_rfl) (by kernel_rfl) (by kernel_rfl) (by kernel_rfl) rfl rfl ⟨kI, kI, fun _ _ _ h k => h.mv (Mv.of_keep k), fun _ _ _ ⟨a, e, h⟩ k => ⟨a, e, h.mv (Mv.of_keep k)⟩, fun _ _ _ ⟨a, e, h⟩ k => ⟨a, e, h.mv (Mv.of_keep k)⟩, kI, trivial⟩ ⟨?_, ?_, ?_, ?_, ?_, ?_, trivial⟩ ?_
    ·intro F1 w1 k1 hf hd
     obtain ⟨F2, rfl⟩ := lit_of (F := F1) [(4, Value.pointer (some ⟨b1793, 0, none⟩))] ⟨hf 4 (by kernel_rfl), trivial⟩
     exact sp_plain rfl ((o_fieldL 0 f_53_0 rfl (⟨(Keep.refl _ _), rfl⟩)))
    ·intro F1 w1 k1 hf hd
     have k0 := (Keep.drew [] w1800).trans k1
     have bx1804 := bx1804.keep k0 (by simp)
     obtain ⟨F2, rfl⟩ := lit_of (F := F1) [(14, Value.pointer (some ⟨b1793, 0, none⟩))] ⟨hd 0 14 (by kernel_rfl), trivial⟩
     exact sp_plain rfl ((o_loadBx Try.underlying3 rfl (vI ((l[k]!).epoch)) rfl bx1804 rfl (⟨(Keep.refl _ _), rfl⟩)))
    ·intro F1 w1 k1 hf hd
     have k0 := (Keep.drew [] w1800).trans k1
     have m1 : Mv (b1793 :: Bl0) w1800 (b1793 :: Bl0) w1 := Mv.of_keep k0
     have h_l := h_l.mv m1
     obtain ⟨F2, rfl⟩ := lit_of (F := F1) [(0, l_v)] ⟨hf 0 (by kernel_rfl), trivial⟩
     exact sp_plain rfl ((o_move (l_v) rfl (⟨(Keep.refl _ _), h_l⟩)))
    ·intro F1 w1 k1 hf hd
     obtain ⟨v1807, e1809, hl1808⟩ : ∃ v, F1 16 = v ∧ RdL Enc.share w1 ((b1793 :: Bl0) ++ O) v (l) := ⟨_, rfl, hd 2 16 (by kernel_rfl)⟩
     have := hl1808.len_le
     obtain ⟨F2, rfl⟩ := lit_of (F := F1) [(16, v1807)] ⟨e1809, trivial⟩
     exact sp_plain rfl ((o_idx Try.underlying38 s_53 .i64 (0 : Int) 0 rfl rfl rfl hl1808 (by omega) fun a1810 hp1811 => (⟨(Keep.refl _ _), ⟨a1810, rfl, hp1811⟩⟩)))
    ·intro F1 w1 k1 hf hd
     obtain ⟨a1812, e1814, hp1813⟩ : ∃ a, F1 17 = .pointer (some a) ∧ PT Enc.share w1 ((b1793 :: Bl0) ++ O) (.pointer (some a)) (l[0]!) := hd 3 17 (by kernel_rfl)
     obtain ⟨F2, rfl⟩ := lit_of (F := F1) [(17, Value.pointer (some a1812))] ⟨e1814, trivial⟩
     exact sp_plain rfl ((o_fieldR 0 f_53_0 ((l[0]!).epoch) rfl hp1813 (fun _ _ _ h => Enc_share_f0 h) fun a1815 hp1816 => (⟨(Keep.refl _ _), ⟨a1815, rfl, hp1816⟩⟩)))
    ·intro F1 w1 k1 hf hd
     obtain ⟨a1817, e1819, hp1818⟩ : ∃ a, F1 18 = .pointer (some a) ∧ PT Enc.int w1 ((b1793 :: Bl0) ++ O) (.pointer (some a)) ((l[0]!).epoch) := hd 4 18 (by kernel_rfl)
     obtain ⟨F2, rfl⟩ := lit_of (F := F1) [(18, Value.pointer (some a1817))] ⟨e1819, trivial⟩
     exact sp_plain rfl ((o_loadI Try.underlying3 rfl rfl hp1818 (⟨(Keep.refl _ _), rfl⟩)))
    intro F1821 w1822 k1820 hT1823 hF1824
    have s1825 := s1801.call k1820
    have m1826 : Mv (b1793 :: Bl0) w1800 (b1793 :: Bl0) w1822 := Mv.of_keep k1820
    have h_l := h_l.mv m1826
    have bx1804 := bx1804.keep k1820 (by simp)
    obtain ⟨F2, rfl⟩ := lit_of (F := F1821) [(0, l_v), (4, Value.pointer (some ⟨b1793, 0, none⟩)), (8, l_v), (9, vI (l.length : Int)), (10, vI ((k : Nat) : Int)), (32, undef), (15, vI ((l[k]!).epoch)), (19, vI ((l[0]!).epoch))] ⟨hF1824 0 (by kernel_rfl), hF1824 4 (by kernel_rfl), hF1824 8 (by kernel_rfl), hF1824 9 (by kernel_rfl), hF1824 10 (by kernel_rfl), hF1824 32 (by kernel_rfl), hT1823 1 15 (by kernel_rfl) (by decide), hT1823 5 19 (by kernel_rfl) (by decide), trivial⟩
    clear hT1823 hF1824
    refine wl_s (o_neq .i64 ((l[k]!).epoch) ((l[0]!).epoch) rfl rfl (wl_s (o_move (Value.bool (((l[k]!).epoch) != ((l[0]!).epoch))) rfl (?_))))
    cases hb1828 : (((l[k]!).epoch) != ((l[0]!).epoch))
    ·have hp1829 : (l[k]!).epoch = (l[0]!).epoch := by first | simpa using hb1828 | (have e := hb1828; simp at e; omega)
     refine wl_t rfl (o_fieldL 0 f_53_0 rfl (wl_t rfl (o_loadBx Try.underlying3 rfl (vI ((l[k]!).epoch)) rfl bx1804 rfl (wl_t rfl (o_lss .i64 ((l[k]!).epoch) (0 : Int) rfl rfl (wl_s (o_pickF (Value.bool (decide ((l[k]!).epoch < (0 : Int)))) rfl rfl (wl_s (o_move (Value.bool (decide ((l[k]!).epoch < (0 : Int)))) rfl (?_))))))))))
     cases hb1830 : (decide ((l[k]!).epoch < (0 : Int)))
     ·have hp1831 : (0 : Int) ≤ (l[k]!).epoch := by first | simpa using hb1830 | (have e := hb1830; simp at e; omega)
      refine wl_t rfl (o_fieldL 0 f_53_0 rfl (wl_t rfl (o_loadBx Try.underlying3 rfl (vI ((l[k]!).epoch)) rfl bx1804 rfl (wl_t rfl (o_gtr .i64 ((l[k]!).epoch) (1048576 : Int) rfl rfl (wl_s (o_pickF (Value.bool (decide ((1048576 : Int) < (l[k]!).epoch))) rfl rfl (wl_nil (thenQ_n (?_))))))))))
      refine cw_cond (decide ((1048576 : Int) < (l[k]!).epoch)) rfl rfl (fun hc1832 => ?_) (fun hc1832 => ?_)
      ·have hp1833 : (1048576 : Int) < (l[k]!).epoch := by first | simpa using hc1832 | (have e := hc1832; simp at e; omega)
       refine cw_seq (?_)
       refine cw_region (by kernel_rfl) (wl_s (o_assign (vI (81 : Int)) rfl (wl_nil (thenQ_n (?_)))))
       refine cw_ret (blockQ_r (thenQ_r (thenQ_r (blockQ_r (thenQ_r (end_r rfl (res1 rfl rfl rfl) (?_)))))))
       have e : (checkM l) = (81 : Int) := by first | (rw [hr0_1]; exact scan_some (by omega) (by ((repeat (first | (refine (if_pos ?_).trans ?_; solve | omega | assumption | (simp only [alx]; first | done | omega | assumption) | (simp only [*, dbs]; done)) | (refine (if_neg ?_).trans ?_; solve | omega | assumption | (simp only [alx]; first | done | omega | assumption) | (simp only [*, dbs]; done)))); rfl))) | (rw [hr0_1]; exact scan_end (by omega)) | (unfold checkM; ((repeat (first | (refine (if_pos ?_).trans ?_; solve | omega | assumption | (simp only [alx]; first | done | omega | assumption) | (simp only [*, dbs]; done)) | (refine (if_neg ?_).trans ?_; solve | omega | assumption | (simp only [alx]; first | done | omega | assumption) | (simp only [*, dbs]; done)))); rfl))
       exact ⟨_, rfl, s1825.keep, by rw [e]; exact rfl⟩
      ·have hp1834 : (l[k]!).epoch ≤ (1048576 : Int) := by first | simpa using hc1832 | (have e := hc1832; simp at e; omega)
       refine cw_skip (blockQ_n (thenQ_n (?_)))
       refine cw_region (by kernel_rfl) (wl_s (o_add .i64 ((k : Nat) : Int) (1 : Int) (((k + 1 : Nat) : Int)) rfl rfl (w64 (by omega) (by omega)) (wl_s (o_move (vI ((k + 1 : Nat) : Int)) rfl (wl_nil (thenQ_n (?_)))))))
       exact ⟨_, (by omega), (k + 1), (b1793 :: Bl0), (by first | omega | (simp; done) | (simp; omega) | simp_all), (hr0_1.trans (scan_none (by omega) (by ((repeat (first | (refine (if_pos ?_).trans ?_; solve | omega | assumption | (simp only [alx]; first | done | omega | assumption) | (simp only [*, dbs]; done)) | (refine (if_neg ?_).trans ?_; solve | omega | assumption | (simp only [alx]; first | done | omega | assumption) | (simp only [*, dbs]; done)))); rfl)))), rfl, ⟨_, upds_self _ ⟨rfl, rfl, rfl, (by first | rfl | exact congrArg (Value.int _) (by first | omega | (simp))), rfl, trivial⟩⟩, s1825, h_l⟩
     ·have hp1835 : (l[k]!).epoch < (0 : Int) := by first | simpa using hb1830 | (have e := hb1830; simp at e; omega)
      refine wl_k rfl (wl_k rfl (wl_k rfl (wl_s (o_pickT (Value.bool true) rfl rfl (wl_nil (thenQ_n (?_)))))))
      refine cw_cond true rfl rfl (fun _ => ?_) (fun h => by cases h)
      refine cw_seq (?_)
      refine cw_region (by kernel_rfl) (wl_s (o_assign (vI (81 : Int)) rfl (wl_nil (thenQ_n (?_)))))
      refine cw_ret (blockQ_r (thenQ_r (thenQ_r (blockQ_r (thenQ_r (end_r rfl (res1 rfl rfl rfl) (?_)))))))
      have e : (checkM l) = (81 : Int) := by first | (rw [hr0_1]; exact scan_some (by omega) (by ((repeat (first | (refine (if_pos ?_).trans ?_; solve | omega | assumption | (simp only [alx]; first | done | omega | assumption) | (simp only [*, dbs]; done)) | (refine (if_neg ?_).trans ?_; solve | omega | assumption | (simp only [alx]; first | done | omega | assumption) | (simp only [*, dbs]; done)))); rfl))) | (rw [hr0_1]; exact scan_end (by omega)) | (unfold checkM; ((repeat (first | (refine (if_pos ?_).trans ?_; solve | omega | assumption | (simp only [alx]; first | done | omega | assumption) | (simp only [*, dbs]; done)) | (refine (if_neg ?_).trans ?_; solve | omega | assumption | (simp only [alx]; first | done | omega | assumption) | (simp only [*, dbs]; done)))); rfl))
      exact ⟨_, rfl, s1825.keep, by rw [e]; exact rfl⟩
    ·have hp1836 : (l[k]!).epoch ≠ (l[0]!).epoch := by first | simpa using hb1828 | (have e := hb1828; simp at e; omega)
     refine wl_k rfl (wl_k rfl (wl_k rfl (wl_s (o_pickT (Value.bool true) rfl rfl (wl_s (o_move (Value.bool true) rfl (wl_k rfl (wl_k rfl (wl_k rfl (wl_s (o_pickT (Value.bool true) rfl rfl (wl_nil (thenQ_n (?_))))))))))))))
     refine cw_cond true rfl rfl (fun _ => ?_) (fun h => by cases h)
     refine cw_seq (?_)
     refine cw_region (by kernel_rfl) (wl_s (o_assign (vI (81 : Int)) rfl (wl_nil (thenQ_n (?_)))))
     refine cw_ret (blockQ_r (thenQ_r (thenQ_r (blockQ_r (thenQ_r (end_r rfl (res1 rfl rfl rfl) (?_)))))))
     have e : (checkM l) = (81 : Int) := by first | (rw [hr0_1]; exact scan_some (by omega) (by ((repeat (first | (refine (if_pos ?_).trans ?_; solve | omega | assumption | (simp only [alx]; first | done | omega | assumption) | (simp only [*, dbs]; done)) | (refine (if_neg ?_).trans ?_; solve | omega | assumption | (simp only [alx]; first | done | omega | assumption) | (simp only [*, dbs]; done)))); rfl))) | (rw [hr0_1]; exact scan_end (by omega)) | (unfold checkM; ((repeat (first | (refine (if_pos ?_).trans ?_; solve | omega | assumption | (simp only [alx]; first | done | omega | assumption) | (simp only [*, dbs]; done)) | (refine (if_neg ?_).trans ?_; solve | omega | assumption | (simp only [alx]; first | done | omega | assumption) | (simp only [*, dbs]; done)))); rfl))
     exact ⟨_, rfl, s1825.keep, by rw [e]; exact rfl⟩
   ·have hp1837 : (l.length : Int) ≤ ((k : Nat) : Int) := by first | simpa using hc1787 | (have e := hc1787; simp at e; omega)
    refine cw_exit (thenQ_x (thenQ_x (blockQ_x (thenQ_n (?_)))))
    refine cw_seq (?_)
    refine cw_region (by kernel_rfl) (wl_s (o_assign (vI (0 : Int)) rfl (wl_nil (thenQ_n (?_)))))
    refine cw_ret (end_r rfl (res1 rfl rfl rfl) (?_))
    have e : (checkM l) = (0 : Int) := by first | (rw [hr0_1]; exact scan_some (by omega) (by ((repeat (first | (refine (if_pos ?_).trans ?_; solve | omega | assumption | (simp only [alx]; first | done | omega | assumption) | (simp only [*, dbs]; done)) | (refine (if_neg ?_).trans ?_; solve | omega | assumption | (simp only [alx]; first | done | omega | assumption) | (simp only [*, dbs]; done)))); rfl))) | (rw [hr0_1]; exact scan_end (by omega)) | (unfold checkM; ((repeat (first | (refine (if_pos ?_).trans ?_; solve | omega | assumption | (simp only [alx]; first | done | omega | assumption) | (simp only [*, dbs]; done)) | (refine (if_neg ?_).trans ?_; solve | omega | assumption | (simp only [alx]; first | done | omega | assumption) | (simp only [*, dbs]; done)))); rfl))
    exact ⟨_, rfl, sl0.keep, by rw [e]; exact rfl⟩
set_option maxHeartbeats 4000000 in
set_option maxRecDepth 100000 in
theorem c_refAlike {O : List Nat} (l_v : Value) (l : List Share) (w : World) (h_l : RdL Enc.share w O l_v l) (hO : ∀ b ∈ O, b < w.heap.size) : CallsK Try.prog 56 [l_v] w (fun v _ => v = .bool (refAlikeM l)) :=  by
 have lim_l := h_l.len_le
 have h_l : RdL Enc.share w ([] ++ O) l_v l := h_l
 have s0 : St w O w [] := St.start hO
 refine callsK_of 91 Try.func56 rfl rfl (of_decide_eq_true rfl) (fun F0 => ?_)
 refine cw_seq (?_)
 refine cw_region (by kernel_rfl) (wl_s (o_assign (Value.bool false) rfl (wl_nil (thenQ_n (?_)))))
 refine cw_seq (?_)
 refine cw_seq (?_)
 refine cw_region (by kernel_rfl) (wl_s (o_move (l_v) rfl (wl_s (o_lenR Try.underlying38 rfl h_l (wl_s (o_eql .i64 (l.length : Int) (0 : Int) rfl rfl (wl_nil (thenQ_n (?_)))))))))
 refine cw_cond ((l.length : Int) == (0 : Int)) rfl rfl (fun hc1838 => ?_) (fun hc1838 => ?_)
 ·have hp1839 : (l.length : Int) = (0 : Int) := by first | simpa using hc1838 | (have e := hc1838; simp at e; omega)
  refine cw_seq (?_)
  refine cw_region (by kernel_rfl) (wl_s (o_assign (Value.bool false) rfl (wl_nil (thenQ_n (?_)))))
  refine cw_ret (thenQ_r (end_r rfl (res1 rfl rfl rfl) (?_)))
  have e : (refAlikeM l) = false := by first | (rw [hr0_1]; exact scan_some (by omega) (by ((repeat (first | (refine (if_pos ?_).trans ?_; solve | omega | assumption | (simp only [alx]; first | done | omega | assumption) | (simp only [*, dbs]; done)) | (refine (if_neg ?_).trans ?_; solve | omega | assumption | (simp only [alx]; first | done | omega | assumption) | (simp only [*, dbs]; done)))); rfl))) | (rw [hr0_1]; exact scan_end (by omega)) | (unfold refAlikeM; ((repeat (first | (refine (if_pos ?_).trans ?_; solve | omega | assumption | (simp only [alx]; first | done | omega | assumption) | (simp only [*, dbs]; done)) | (refine (if_neg ?_).trans ?_; solve | omega | assumption | (simp only [alx]; first | done | omega | assumption) | (simp only [*, dbs]; done)))); rfl))
  exact ⟨_, rfl, s0.keep, by rw [e]; exact rfl⟩
 ·have hp1840 : (l.length : Int) ≠ (0 : Int) := by first | simpa using hc1838 | (have e := hc1838; simp at e; omega)
  refine cw_skip (thenQ_n (?_))
  refine cw_seq (?_)
  refine cw_region (by kernel_rfl) (wl_s (o_move (l_v) rfl (wl_s (o_idx Try.underlying38 s_53 .i64 (0 : Int) 0 rfl rfl rfl h_l (by omega) fun a1841 hp1842 => (wl_s (o_loadS Try.underlying53 rfl s_53 rfl hp1842 fun cs1843 hs1844 => (wl_s (o_alloc [vI (0 : Int), vI (0 : Int), vI (0 : Int), vI (0 : Int), Value.slice none 0 0] z_53 rfl s0 fun b1845 w1846 e1851 s1847 m1848 k1849 bx1850 => (?_)))))))))
  clear e1851
  have h_l := h_l.mv m1848
  have hs1844 : Enc.share.rd w1846 ((b1845 :: []) ++ O) cs1843 (l[0]!) := Enc.mv Enc.share (x := l[0]!) hs1844 m1848
  obtain ⟨d1857, rfl, hd1858⟩ := hs1844
  have := hd1858.len_le
  refine wl_n (o_store (vs := [vI ((l[0]!).epoch), vI ((l[0]!).index), vI ((l[0]!).threshold), vI ((l[0]!).many), d1857]) (.agg #[vI ((l[0]!).epoch), vI ((l[0]!).index), vI ((l[0]!).threshold), vI ((l[0]!).many), d1857]) rfl rfl rfl s_53 (fun u hu => by simp only [List.mem_cons, List.not_mem_nil, or_false] at hu; rcases hu with rfl | rfl | rfl | rfl | rfl <;> first | rfl | exact hd1858.oneCell) (by first | assumption | (repeat (first | exact List.mem_cons_self | assumption | apply List.mem_cons_of_mem))) bx1850 (of_decide_eq_true rfl) s1847 fun w1852 s1853 m1854 k1855 bx1856 => (?_))
  have h_l := h_l.mv m1854
  have hd1858 := hd1858.mv m1854
  refine wl_nil (thenQ_n (?_))
  refine cw_seq (?_)
  refine cw_seq (?_)
  refine cw_region (by kernel_rfl) (wl_s (o_fieldL 2 f_53_2 rfl (wl_s (o_loadBx Try.underlying3 rfl (vI ((l[0]!).threshold)) rfl bx1856 rfl (wl_s (o_lss .i64 ((l[0]!).threshold) (1 : Int) rfl rfl (wl_s (o_move (Value.bool (decide ((l[0]!).threshold < (1 : Int)))) rfl (?_)))))))))
  cases hb1859 : (decide ((l[0]!).threshold < (1 : Int)))
  ·have hp1860 : (1 : Int) ≤ (l[0]!).threshold := by first | simpa using hb1859 | (have e := hb1859; simp at e; omega)
   refine wl_t rfl (o_fieldL 2 f_53_2 rfl (wl_t rfl (o_loadBx Try.underlying3 rfl (vI ((l[0]!).threshold)) rfl bx1856 rfl (wl_t rfl (o_fieldL 3 f_53_3 rfl (wl_t rfl (o_loadBx Try.underlying3 rfl (vI ((l[0]!).many)) rfl bx1856 rfl (wl_t rfl (o_gtr .i64 ((l[0]!).threshold) ((l[0]!).many) rfl rfl (wl_s (o_pickF (Value.bool (decide ((l[0]!).many < (l[0]!).threshold))) rfl rfl (wl_s (o_move (Value.bool (decide ((l[0]!).many < (l[0]!).threshold))) rfl (?_))))))))))))))
   cases hb1861 : (decide ((l[0]!).many < (l[0]!).threshold))
   ·have hp1862 : (l[0]!).threshold ≤ (l[0]!).many := by first | simpa using hb1861 | (have e := hb1861; simp at e; omega)
    refine wl_t rfl (o_fieldL 3 f_53_3 rfl (wl_t rfl (o_loadBx Try.underlying3 rfl (vI ((l[0]!).many)) rfl bx1856 rfl (wl_t rfl (o_gtr .i64 ((l[0]!).many) (8 : Int) rfl rfl (wl_s (o_pickF (Value.bool (decide ((8 : Int) < (l[0]!).many))) rfl rfl (wl_s (o_move (Value.bool (decide ((8 : Int) < (l[0]!).many))) rfl (?_))))))))))
    cases hb1863 : (decide ((8 : Int) < (l[0]!).many))
    ·have hp1864 : (l[0]!).many ≤ (8 : Int) := by first | simpa using hb1863 | (have e := hb1863; simp at e; omega)
     refine wl_t rfl (o_fieldL 4 f_53_4 rfl (wl_t rfl (o_loadBx Try.underlying28 rfl (d1857) rfl bx1856 rfl (wl_t rfl (o_lenR Try.underlying28 rfl hd1858 (wl_t rfl (o_gtr .i64 (((l[0]!).data).length : Int) (64 : Int) rfl rfl (wl_s (o_pickF (Value.bool (decide ((64 : Int) < (((l[0]!).data).length : Int)))) rfl rfl (wl_nil (thenQ_n (?_))))))))))))
     refine cw_cond (decide ((64 : Int) < (((l[0]!).data).length : Int))) rfl rfl (fun hc1865 => ?_) (fun hc1865 => ?_)
     ·have hp1866 : (64 : Int) < (((l[0]!).data).length : Int) := by first | simpa using hc1865 | (have e := hc1865; simp at e; omega)
      refine cw_seq (?_)
      refine cw_region (by kernel_rfl) (wl_s (o_assign (Value.bool false) rfl (wl_nil (thenQ_n (?_)))))
      refine cw_ret (thenQ_r (end_r rfl (res1 rfl rfl rfl) (?_)))
      have e : (refAlikeM l) = false := by first | (rw [hr0_1]; exact scan_some (by omega) (by ((repeat (first | (refine (if_pos ?_).trans ?_; solve | omega | assumption | (simp only [alx]; first | done | omega | assumption) | (simp only [*, dbs]; done)) | (refine (if_neg ?_).trans ?_; solve | omega | assumption | (simp only [alx]; first | done | omega | assumption) | (simp only [*, dbs]; done)))); rfl))) | (rw [hr0_1]; exact scan_end (by omega)) | (unfold refAlikeM; ((repeat (first | (refine (if_pos ?_).trans ?_; solve | omega | assumption | (simp only [alx]; first | done | omega | assumption) | (simp only [*, dbs]; done)) | (refine (if_neg ?_).trans ?_; solve | omega | assumption | (simp only [alx]; first | done | omega | assumption) | (simp only [*, dbs]; done)))); rfl))
      exact ⟨_, rfl, s1853.keep, by rw [e]; exact rfl⟩
     ·have hp1867 : (((l[0]!).data).length : Int) ≤ (64 : Int) := by first | simpa using hc1865 | (have e := hc1865; simp at e; omega)
      refine cw_skip (thenQ_n (?_))
      refine cw_seq (?_)
      refine cw_seq (?_)
      refine cw_region (by kernel_rfl) (wl_s (o_assign (vI (0 : Int)) rfl (wl_nil (thenQ_n (?_)))))
      refine cw_block (?_)
      refine cw_loop (fun mI FI wI => ∃ (k : Nat) (B : List Nat), k ≤ l.length ∧ refAlikeM l = scan (fun k => if alRef l k then some false else none) true k (l.length - k) ∧ mI = l.length - k ∧ (∃ F1, FI = upds F1 [(0, l_v), (3, Value.pointer (some ⟨b1845, 0, none⟩)), (4, vI ((k : Nat) : Int)), (91, undef)]) ∧ St w O wI B ∧ RdL Enc.share wI (B ++ O) (l_v) (l) ∧ RdL Enc.u8 wI (B ++ O) (d1857) ((l[0]!).data) ∧ Box wI b1845 53 [vI ((l[0]!).epoch), vI ((l[0]!).index), vI ((l[0]!).threshold), vI ((l[0]!).many), d1857] ∧ b1845 ∈ B) (l.length - (0)) ?_ ?_
      ·exact ⟨(0), (b1845 :: []), (by first | omega | (simp; done) | (simp; omega) | simp_all), (by unfold refAlikeM; ((repeat (first | (refine (if_pos ?_).trans ?_; solve | omega | assumption | (simp only [alx]; first | done | omega | assumption) | (simp only [*, dbs]; done)) | (refine (if_neg ?_).trans ?_; solve | omega | assumption | (simp only [alx]; first | done | omega | assumption) | (simp only [*, dbs]; done)))); rfl)), rfl, ⟨_, upds_self _ ⟨rfl, rfl, (by first | rfl | exact congrArg (Value.int _) (by first | omega | (simp))), rfl, trivial⟩⟩, s1853, h_l, hd1858, bx1856, (by first | assumption | (repeat (first | exact List.mem_cons_self | assumption | apply List.mem_cons_of_mem)) | (apply_assumption; assumption))⟩
      ·intro ml0 F wl0 hI
       clear h_l hd1858 bx1856
       obtain ⟨k, Bl0, hr0_0, hr0_1, hm0, ⟨Fl0, rfl⟩, sl0, h_l, hd1858, bx1856, hin_b1845⟩ := hI
       refine cw_seq (?_)
       refine cw_seq (?_)
       refine cw_region (by kernel_rfl) (wl_s (o_move (vI ((k : Nat) : Int)) rfl (wl_s (o_move (l_v) rfl (wl_s (o_lenR Try.underlying38 rfl h_l (wl_s (o_lss .i64 ((k : Nat) : Int) (l.length : Int) rfl rfl (wl_nil (thenQ_n (?_)))))))))))
       refine cw_cond (decide (((k : Nat) : Int) < (l.length : Int))) rfl rfl (fun hc1868 => ?_) (fun hc1868 => ?_)
       ·have hp1869 : ((k : Nat) : Int) < (l.length : Int) := by first | simpa using hc1868 | (have e := hc1868; simp at e; omega)
        refine cw_skip (thenQ_n (?_))
        refine cw_seq (?_)
        refine cw_block (?_)
        refine cw_seq (?_)
        refine cw_region (by kernel_rfl) (wl_s (o_move (l_v) rfl (wl_s (o_move (vI ((k : Nat) : Int)) rfl (wl_s (o_idx Try.underlying38 s_53 .i64 ((k : Nat) : Int) k rfl rfl rfl h_l (by omega) fun a1870 hp1871 => (wl_s (o_loadS Try.underlying53 rfl s_53 rfl hp1871 fun cs1872 hs1873 => (wl_s (o_alloc [vI (0 : Int), vI (0 : Int), vI (0 : Int), vI (0 : Int), Value.slice none 0 0] z_53 rfl sl0 fun b1874 w1875 e1880 s1876 m1877 k1878 bx1879 => (?_)))))))))))
        have ne1881 : b1845 ≠ b1874 := by have := bx1856.lt; omega
        clear e1880
        have h_l := h_l.mv m1877
        have hs1873 : Enc.share.rd w1875 ((b1874 :: Bl0) ++ O) cs1872 (l[k]!) := Enc.mv Enc.share (x := l[k]!) hs1873 m1877
        have hd1858 := hd1858.mv m1877
        have bx1856 := bx1856.keep k1878 (by simp)
        obtain ⟨d1887, rfl, hd1888⟩ := hs1873
        have := hd1888.len_le
        refine wl_n (o_store (vs := [vI ((l[k]!).epoch), vI ((l[k]!).index), vI ((l[k]!).threshold), vI ((l[k]!).many), d1887]) (.agg #[vI ((l[k]!).epoch), vI ((l[k]!).index), vI ((l[k]!).threshold), vI ((l[k]!).many), d1887]) rfl rfl rfl s_53 (fun u hu => by simp only [List.mem_cons, List.not_mem_nil, or_false] at hu; rcases hu with rfl | rfl | rfl | rfl | rfl <;> first | rfl | exact hd1888.oneCell) (by first | assumption | (repeat (first | exact List.mem_cons_self | assumption | apply List.mem_cons_of_mem))) bx1879 (of_decide_eq_true rfl) s1876 fun w1882 s1883 m1884 k1885 bx1886 => (?_))
        have h_l := h_l.mv m1884
        have hd1888 := hd1888.mv m1884
        have hd1858 := hd1858.mv m1884
        have bx1856 := bx1856.keep k1885 (by simp only [List.mem_singleton]; first | omega | exact ne1881)
        refine wl_nil (thenQ_n (?_))
        refine cw_seq (?_)
        cases hb1889 : (((l[k]!).threshold) != ((l[0]!).threshold))
        ·have hp1890 : (l[k]!).threshold = (l[0]!).threshold := by first | simpa using hb1889 | (have e := hb1889; simp at e; omega)
         cases hb1891 : (((l[k]!).many) != ((l[0]!).many))
         ·have hp1892 : (l[k]!).many = (l[0]!).many := by first | simpa using hb1891 | (have e := hb1891; simp at e; omega)
          cases hb1893 : ((((l[k]!).data).length : Int) != (((l[0]!).data).length : Int))
          ·have hp1894 : (((l[k]!).data).length : Int) = (((l[0]!).data).length : Int) := by first | simpa using hb1893 | (have e := hb1893; simp at e; omega)
           cases hb1895 : (decide ((l[k]!).index < (1 : Int)))
           ·have hp1896 : (1 : Int) ≤ (l[k]!).index := by first | simpa using hb1895 | (have e := hb1895; simp at e; omega)
            cases hb1897 : (decide ((l[0]!).many < (l[k]!).index))
            ·have hp1898 : (l[k]!).index ≤ (l[0]!).many := by first | simpa using hb1897 | (have e := hb1897; simp at e; omega)
             cases hb1899 : (decide ((0 : Int) < ((k : Nat) : Int)))
             ·have hp1900 : ((k : Nat) : Int) ≤ (0 : Int) := by first | simpa using hb1899 | (have e := hb1899; simp at e; omega)
              refine cw_draw' 45 _ _ [isV (Value.pointer (some ⟨b1874, 2, none⟩)), isV (vI ((l[k]!).threshold)), isV (Value.pointer (some ⟨b1845, 2, none⟩)), isV (vI ((l[0]!).threshold)), isV (Value.bool false), isV (Value.bool false), isV (Value.pointer (some ⟨b1874, 3, none⟩)), isV (vI ((l[k]!).many)), isV (Value.pointer (some ⟨b1845, 3, none⟩)), isV (vI ((l[0]!).many)), isV (Value.bool false), isV (Value.bool false), isV (Value.bool false), isV (Value.pointer (some ⟨b1874, 4, none⟩)), fun (vT : Value) (wT : World) => RdL Enc.u8 wT ((b1874 :: Bl0) ++ O) vT ((l[k]!).data), isV (vI (((l[k]!).data).length : Int)), isV (Value.pointer (some ⟨b1845, 4, none⟩)), fun (vT : Value) (wT : World) => RdL Enc.u8 wT ((b1874 :: Bl0) ++ O) vT ((l[0]!).data), isV (vI (((l[0]!).data).length : Int)), isV (Value.bool false), isV (Value.bool false), isV (Value.bool false), isV (Value.pointer (some ⟨b1874, 1, none⟩)), isV (vI ((l[k]!).index)), isV (Value.bool false), isV (Value.bool false), isV (Value.bool false), isV (Value.pointer (some ⟨b1874, 1, none⟩)), isV (vI ((l[k]!).index)), isV (Value.pointer (some ⟨b1845, 3, none⟩)), isV (vI ((l[0]!).many)), isV (Value.bool false), isV (Value.bool false), isV (Value.bool false), isV (vI ((k : Nat) : Int)), isV (Value.bool false), isV (Value.bool false), isV undef, isV undef, isV undef, isV undef, isV undef, isV undef, isV undef, isV undef] (by kernel_rfl) (by kernel_rfl) (by kernel_rfl) (by kernel_rfl) rfl rfl ⟨kI, kI, kI, kI, kI, kI, kI, kI, kI, kI, kI, kI, kI, kI, fun _ _ _ h k => h.mv (Mv.of_keep k), kI, kI, fun _ _ _ h k => h.mv (Mv.of_keep k), kI, kI, kI, kI, kI, kI, kI, kI, kI, kI, kI, kI, kI, kI, kI, kI, kI, kI, kI, kI, kI, kI, kI, kI, kI, kI, kI, trivial⟩ ⟨?_, ?_, ?_, ?_, ?_, ?_, ?_, ?_, ?_, ?_, ?_, ?_, ?_, ?_, ?_, ?_, ?_, ?_, ?_, ?_, ?_, ?_, ?_, ?_, ?_, ?_, ?_, ?_, ?_, ?_, ?_, ?_, ?_, ?_, ?_, ?_, ?_, ?_, ?_, ?_, ?_, ?_, ?_, ?_, ?_, trivial⟩ ?_
              ·intro F1 w1 k1 hf hd
               obtain ⟨F2, rfl⟩ := lit_of (F := F1) [(5, Value.pointer (some ⟨b1874, 0, none⟩))] ⟨hf 5 (by kernel_rfl), trivial⟩
               exact sp_plain rfl ((o_fieldL 2 f_53_2 rfl (⟨(Keep.refl _ _), rfl⟩)))
              ·intro F1 w1 k1 hf hd
               have k0 := (Keep.drew [] w1882).trans k1
               have bx1886 := bx1886.keep k0 (by simp)
               obtain ⟨F2, rfl⟩ := lit_of (F := F1) [(43, Value.pointer (some ⟨b1874, 2, none⟩))] ⟨hd 0 43 (by kernel_rfl), trivial⟩
               exact sp_plain rfl ((o_loadBx Try.underlying3 rfl (vI ((l[k]!).threshold)) rfl bx1886 rfl (⟨(Keep.refl _ _), rfl⟩)))
              ·intro F1 w1 k1 hf hd
               obtain ⟨F2, rfl⟩ := lit_of (F := F1) [(3, Value.pointer (some ⟨b1845, 0, none⟩))] ⟨hf 3 (by kernel_rfl), trivial⟩
               exact sp_plain rfl ((o_fieldL 2 f_53_2 rfl (⟨(Keep.refl _ _), rfl⟩)))
              ·intro F1 w1 k1 hf hd
               have k0 := (Keep.drew [] w1882).trans k1
               have bx1856 := bx1856.keep k0 (by simp)
               obtain ⟨F2, rfl⟩ := lit_of (F := F1) [(45, Value.pointer (some ⟨b1845, 2, none⟩))] ⟨hd 2 45 (by kernel_rfl), trivial⟩
               exact sp_plain rfl ((o_loadBx Try.underlying3 rfl (vI ((l[0]!).threshold)) rfl bx1856 rfl (⟨(Keep.refl _ _), rfl⟩)))
              ·intro F1 w1 k1 hf hd
               obtain ⟨F2, rfl⟩ := lit_of (F := F1) [(44, vI ((l[k]!).threshold)), (46, vI ((l[0]!).threshold))] ⟨hd 1 44 (by kernel_rfl), hd 3 46 (by kernel_rfl), trivial⟩
               refine sp_plain rfl ((o_neq .i64 ((l[k]!).threshold) ((l[0]!).threshold) rfl rfl (?_)))
               exact ⟨(Keep.refl _ _), congrArg Value.bool (hb1889)⟩
              ·intro F1 w1 k1 hf hd
               obtain ⟨F2, rfl⟩ := lit_of (F := F1) [(47, Value.bool false)] ⟨hd 4 47 (by kernel_rfl), trivial⟩
               exact sp_plain rfl ((o_move (Value.bool false) rfl (⟨(Keep.refl _ _), rfl⟩)))
              ·intro F1 w1 k1 hf hd
               obtain ⟨F2, rfl⟩ := lit_of (F := F1) [(5, Value.pointer (some ⟨b1874, 0, none⟩)), (48, Value.bool false)] ⟨hf 5 (by kernel_rfl), hd 5 48 (by kernel_rfl), trivial⟩
               exact sp_take rfl rfl ((o_fieldL 3 f_53_3 rfl (⟨(Keep.refl _ _), rfl⟩)))
              ·intro F1 w1 k1 hf hd
               have k0 := (Keep.drew [] w1882).trans k1
               have bx1886 := bx1886.keep k0 (by simp)
               obtain ⟨F2, rfl⟩ := lit_of (F := F1) [(48, Value.bool false), (49, Value.pointer (some ⟨b1874, 3, none⟩))] ⟨hd 5 48 (by kernel_rfl), hd 6 49 (by kernel_rfl), trivial⟩
               exact sp_take rfl rfl ((o_loadBx Try.underlying3 rfl (vI ((l[k]!).many)) rfl bx1886 rfl (⟨(Keep.refl _ _), rfl⟩)))
              ·intro F1 w1 k1 hf hd
               obtain ⟨F2, rfl⟩ := lit_of (F := F1) [(3, Value.pointer (some ⟨b1845, 0, none⟩)), (48, Value.bool false)] ⟨hf 3 (by kernel_rfl), hd 5 48 (by kernel_rfl), trivial⟩
               exact sp_take rfl rfl ((o_fieldL 3 f_53_3 rfl (⟨(Keep.refl _ _), rfl⟩)))
              ·intro F1 w1 k1 hf hd
               have k0 := (Keep.drew [] w1882).trans k1
               have bx1856 := bx1856.keep k0 (by simp)
               obtain ⟨F2, rfl⟩ := lit_of (F := F1) [(48, Value.bool false), (51, Value.pointer (some ⟨b1845, 3, none⟩))] ⟨hd 5 48 (by kernel_rfl), hd 8 51 (by kernel_rfl), trivial⟩
               exact sp_take rfl rfl ((o_loadBx Try.underlying3 rfl (vI ((l[0]!).many)) rfl bx1856 rfl (⟨(Keep.refl _ _), rfl⟩)))
              ·intro F1 w1 k1 hf hd
               obtain ⟨F2, rfl⟩ := lit_of (F := F1) [(48, Value.bool false), (50, vI ((l[k]!).many)), (52, vI ((l[0]!).many))] ⟨hd 5 48 (by kernel_rfl), hd 7 50 (by kernel_rfl), hd 9 52 (by kernel_rfl), trivial⟩
               refine sp_take rfl rfl ((o_neq .i64 ((l[k]!).many) ((l[0]!).many) rfl rfl (?_)))
               exact ⟨(Keep.refl _ _), congrArg Value.bool (hb1891)⟩
              ·intro F1 w1 k1 hf hd
               obtain ⟨F2, rfl⟩ := lit_of (F := F1) [(48, Value.bool false), (53, Value.bool false)] ⟨hd 5 48 (by kernel_rfl), hd 10 53 (by kernel_rfl), trivial⟩
               exact sp_plain rfl ((o_pickF (Value.bool false) rfl rfl (⟨(Keep.refl _ _), rfl⟩)))
              ·intro F1 w1 k1 hf hd
               obtain ⟨F2, rfl⟩ := lit_of (F := F1) [(54, Value.bool false)] ⟨hd 11 54 (by kernel_rfl), trivial⟩
               exact sp_plain rfl ((o_move (Value.bool false) rfl (⟨(Keep.refl _ _), rfl⟩)))
              ·intro F1 w1 k1 hf hd
               obtain ⟨F2, rfl⟩ := lit_of (F := F1) [(5, Value.pointer (some ⟨b1874, 0, none⟩)), (55, Value.bool false)] ⟨hf 5 (by kernel_rfl), hd 12 55 (by kernel_rfl), trivial⟩
               exact sp_take rfl rfl ((o_fieldL 4 f_53_4 rfl (⟨(Keep.refl _ _), rfl⟩)))
              ·intro F1 w1 k1 hf hd
               have k0 := (Keep.drew [] w1882).trans k1
               have m1 : Mv (b1874 :: Bl0) w1882 (b1874 :: Bl0) w1 := Mv.of_keep k0
               have bx1886 := bx1886.keep k0 (by simp)
               have hd1888 := hd1888.mv m1
               obtain ⟨F2, rfl⟩ := lit_of (F := F1) [(55, Value.bool false), (56, Value.pointer (some ⟨b1874, 4, none⟩))] ⟨hd 12 55 (by kernel_rfl), hd 13 56 (by kernel_rfl), trivial⟩
               exact sp_take rfl rfl ((o_loadBx Try.underlying28 rfl (d1887) rfl bx1886 rfl (⟨(Keep.refl _ _), hd1888⟩)))
              ·intro F1 w1 k1 hf hd
               obtain ⟨v1901, e1903, hl1902⟩ : ∃ v, F1 57 = v ∧ RdL Enc.u8 w1 ((b1874 :: Bl0) ++ O) v ((l[k]!).data) := ⟨_, rfl, hd 14 57 (by kernel_rfl)⟩
               have := hl1902.len_le
               obtain ⟨F2, rfl⟩ := lit_of (F := F1) [(55, Value.bool false), (57, v1901)] ⟨hd 12 55 (by kernel_rfl), e1903, trivial⟩
               exact sp_take rfl rfl ((o_lenR Try.underlying28 rfl hl1902 (⟨(Keep.refl _ _), rfl⟩)))
              ·intro F1 w1 k1 hf hd
               obtain ⟨F2, rfl⟩ := lit_of (F := F1) [(3, Value.pointer (some ⟨b1845, 0, none⟩)), (55, Value.bool false)] ⟨hf 3 (by kernel_rfl), hd 12 55 (by kernel_rfl), trivial⟩
               exact sp_take rfl rfl ((o_fieldL 4 f_53_4 rfl (⟨(Keep.refl _ _), rfl⟩)))
              ·intro F1 w1 k1 hf hd
               have k0 := (Keep.drew [] w1882).trans k1
               have m1 : Mv (b1874 :: Bl0) w1882 (b1874 :: Bl0) w1 := Mv.of_keep k0
               have bx1856 := bx1856.keep k0 (by simp)
               have hd1858 := hd1858.mv m1
               obtain ⟨F2, rfl⟩ := lit_of (F := F1) [(55, Value.bool false), (59, Value.pointer (some ⟨b1845, 4, none⟩))] ⟨hd 12 55 (by kernel_rfl), hd 16 59 (by kernel_rfl), trivial⟩
               exact sp_take rfl rfl ((o_loadBx Try.underlying28 rfl (d1857) rfl bx1856 rfl (⟨(Keep.refl _ _), hd1858⟩)))
              ·intro F1 w1 k1 hf hd
               obtain ⟨v1904, e1906, hl1905⟩ : ∃ v, F1 60 = v ∧ RdL Enc.u8 w1 ((b1874 :: Bl0) ++ O) v ((l[0]!).data) := ⟨_, rfl, hd 17 60 (by kernel_rfl)⟩
               have := hl1905.len_le
               obtain ⟨F2, rfl⟩ := lit_of (F := F1) [(55, Value.bool false), (60, v1904)] ⟨hd 12 55 (by kernel_rfl), e1906, trivial⟩
               exact sp_take rfl rfl ((o_lenR Try.underlying28 rfl hl1905 (⟨(Keep.refl _ _), rfl⟩)))
              ·intro F1 w1 k1 hf hd
               obtain ⟨F2, rfl⟩ := lit_of (F := F1) [(55, Value.bool false), (58, vI (((l[k]!).data).length : Int)), (61, vI (((l[0]!).data).length : Int))] ⟨hd 12 55 (by kernel_rfl), hd 15 58 (by kernel_rfl), hd 18 61 (by kernel_rfl), trivial⟩
               refine sp_take rfl rfl ((o_neq .i64 (((l[k]!).data).length : Int) (((l[0]!).data).length : Int) rfl rfl (?_)))
               exact ⟨(Keep.refl _ _), congrArg Value.bool (hb1893)⟩
              ·intro F1 w1 k1 hf hd
               obtain ⟨F2, rfl⟩ := lit_of (F := F1) [(55, Value.bool false), (62, Value.bool false)] ⟨hd 12 55 (by kernel_rfl), hd 19 62 (by kernel_rfl), trivial⟩
               exact sp_plain rfl ((o_pickF (Value.bool false) rfl rfl (⟨(Keep.refl _ _), rfl⟩)))
              ·intro F1 w1 k1 hf hd
               obtain ⟨F2, rfl⟩ := lit_of (F := F1) [(63, Value.bool false)] ⟨hd 20 63 (by kernel_rfl), trivial⟩
               exact sp_plain rfl ((o_move (Value.bool false) rfl (⟨(Keep.refl _ _), rfl⟩)))
              ·intro F1 w1 k1 hf hd
               obtain ⟨F2, rfl⟩ := lit_of (F := F1) [(5, Value.pointer (some ⟨b1874, 0, none⟩)), (64, Value.bool false)] ⟨hf 5 (by kernel_rfl), hd 21 64 (by kernel_rfl), trivial⟩
               exact sp_take rfl rfl ((o_fieldL 1 f_53_1 rfl (⟨(Keep.refl _ _), rfl⟩)))
              ·intro F1 w1 k1 hf hd
               have k0 := (Keep.drew [] w1882).trans k1
               have bx1886 := bx1886.keep k0 (by simp)
               obtain ⟨F2, rfl⟩ := lit_of (F := F1) [(64, Value.bool false), (65, Value.pointer (some ⟨b1874, 1, none⟩))] ⟨hd 21 64 (by kernel_rfl), hd 22 65 (by kernel_rfl), trivial⟩
               exact sp_take rfl rfl ((o_loadBx Try.underlying3 rfl (vI ((l[k]!).index)) rfl bx1886 rfl (⟨(Keep.refl _ _), rfl⟩)))
              ·intro F1 w1 k1 hf hd
               obtain ⟨F2, rfl⟩ := lit_of (F := F1) [(64, Value.bool false), (66, vI ((l[k]!).index))] ⟨hd 21 64 (by kernel_rfl), hd 23 66 (by kernel_rfl), trivial⟩
               refine sp_take rfl rfl ((o_lss .i64 ((l[k]!).index) (1 : Int) rfl rfl (?_)))
               exact ⟨(Keep.refl _ _), congrArg Value.bool (hb1895)⟩
              ·intro F1 w1 k1 hf hd
               obtain ⟨F2, rfl⟩ := lit_of (F := F1) [(64, Value.bool false), (67, Value.bool false)] ⟨hd 21 64 (by kernel_rfl), hd 24 67 (by kernel_rfl), trivial⟩
               exact sp_plain rfl ((o_pickF (Value.bool false) rfl rfl (⟨(Keep.refl _ _), rfl⟩)))
              ·intro F1 w1 k1 hf hd
               obtain ⟨F2, rfl⟩ := lit_of (F := F1) [(68, Value.bool false)] ⟨hd 25 68 (by kernel_rfl), trivial⟩
               exact sp_plain rfl ((o_move (Value.bool false) rfl (⟨(Keep.refl _ _), rfl⟩)))
              ·intro F1 w1 k1 hf hd
               obtain ⟨F2, rfl⟩ := lit_of (F := F1) [(5, Value.pointer (some ⟨b1874, 0, none⟩)), (69, Value.bool false)] ⟨hf 5 (by kernel_rfl), hd 26 69 (by kernel_rfl), trivial⟩
               exact sp_take rfl rfl ((o_fieldL 1 f_53_1 rfl (⟨(Keep.refl _ _), rfl⟩)))
              ·intro F1 w1 k1 hf hd
               have k0 := (Keep.drew [] w1882).trans k1
               have bx1886 := bx1886.keep k0 (by simp)
               obtain ⟨F2, rfl⟩ := lit_of (F := F1) [(69, Value.bool false), (70, Value.pointer (some ⟨b1874, 1, none⟩))] ⟨hd 26 69 (by kernel_rfl), hd 27 70 (by kernel_rfl), trivial⟩
               exact sp_take rfl rfl ((o_loadBx Try.underlying3 rfl (vI ((l[k]!).index)) rfl bx1886 rfl (⟨(Keep.refl _ _), rfl⟩)))
              ·intro F1 w1 k1 hf hd
               obtain ⟨F2, rfl⟩ := lit_of (F := F1) [(3, Value.pointer (some ⟨b1845, 0, none⟩)), (69, Value.bool false)] ⟨hf 3 (by kernel_rfl), hd 26 69 (by kernel_rfl), trivial⟩
               exact sp_take rfl rfl ((o_fieldL 3 f_53_3 rfl (⟨(Keep.refl _ _), rfl⟩)))
              ·intro F1 w1 k1 hf hd
               have k0 := (Keep.drew [] w1882).trans k1
               have bx1856 := bx1856.keep k0 (by simp)
               obtain ⟨F2, rfl⟩ := lit_of (F := F1) [(69, Value.bool false), (72, Value.pointer (some ⟨b1845, 3, none⟩))] ⟨hd 26 69 (by kernel_rfl), hd 29 72 (by kernel_rfl), trivial⟩
               exact sp_take rfl rfl ((o_loadBx Try.underlying3 rfl (vI ((l[0]!).many)) rfl bx1856 rfl (⟨(Keep.refl _ _), rfl⟩)))
              ·intro F1 w1 k1 hf hd
               obtain ⟨F2, rfl⟩ := lit_of (F := F1) [(69, Value.bool false), (71, vI ((l[k]!).index)), (73, vI ((l[0]!).many))] ⟨hd 26 69 (by kernel_rfl), hd 28 71 (by kernel_rfl), hd 30 73 (by kernel_rfl), trivial⟩
               refine sp_take rfl rfl ((o_gtr .i64 ((l[k]!).index) ((l[0]!).many) rfl rfl (?_)))
               exact ⟨(Keep.refl _ _), congrArg Value.bool (hb1897)⟩
              ·intro F1 w1 k1 hf hd
               obtain ⟨F2, rfl⟩ := lit_of (F := F1) [(69, Value.bool false), (74, Value.bool false)] ⟨hd 26 69 (by kernel_rfl), hd 31 74 (by kernel_rfl), trivial⟩
               exact sp_plain rfl ((o_pickF (Value.bool false) rfl rfl (⟨(Keep.refl _ _), rfl⟩)))
              ·intro F1 w1 k1 hf hd
               obtain ⟨F2, rfl⟩ := lit_of (F := F1) [(75, Value.bool false)] ⟨hd 32 75 (by kernel_rfl), trivial⟩
               exact sp_plain rfl ((o_move (Value.bool false) rfl (⟨(Keep.refl _ _), rfl⟩)))
              ·intro F1 w1 k1 hf hd
               obtain ⟨F2, rfl⟩ := lit_of (F := F1) [(4, vI ((k : Nat) : Int)), (76, Value.bool false)] ⟨hf 4 (by kernel_rfl), hd 33 76 (by kernel_rfl), trivial⟩
               exact sp_take rfl rfl ((o_move (vI ((k : Nat) : Int)) rfl (⟨(Keep.refl _ _), rfl⟩)))
              ·intro F1 w1 k1 hf hd
               obtain ⟨F2, rfl⟩ := lit_of (F := F1) [(76, Value.bool false), (77, vI ((k : Nat) : Int))] ⟨hd 33 76 (by kernel_rfl), hd 34 77 (by kernel_rfl), trivial⟩
               refine sp_take rfl rfl ((o_gtr .i64 ((k : Nat) : Int) (0 : Int) rfl rfl (?_)))
               exact ⟨(Keep.refl _ _), congrArg Value.bool (hb1899)⟩
              ·intro F1 w1 k1 hf hd
               obtain ⟨F2, rfl⟩ := lit_of (F := F1) [(76, Value.bool false), (78, Value.bool false)] ⟨hd 33 76 (by kernel_rfl), hd 35 78 (by kernel_rfl), trivial⟩
               exact sp_take rfl rfl ((o_move (Value.bool false) rfl (⟨(Keep.refl _ _), rfl⟩)))
              ·intro F1 w1 k1 hf hd
               exact sp_skipD rfl rfl (hd 36 79 (by kernel_rfl)) rfl rfl
              ·intro F1 w1 k1 hf hd
               exact sp_skipD rfl rfl (hd 36 79 (by kernel_rfl)) rfl rfl
              ·intro F1 w1 k1 hf hd
               exact sp_skipD rfl rfl (hd 36 79 (by kernel_rfl)) rfl rfl
              ·intro F1 w1 k1 hf hd
               exact sp_skipD rfl rfl (hd 36 79 (by kernel_rfl)) rfl rfl
              ·intro F1 w1 k1 hf hd
               exact sp_skipD rfl rfl (hd 36 79 (by kernel_rfl)) rfl rfl
              ·intro F1 w1 k1 hf hd
               exact sp_skipD rfl rfl (hd 36 79 (by kernel_rfl)) rfl rfl
              ·intro F1 w1 k1 hf hd
               exact sp_skipD rfl rfl (hd 36 79 (by kernel_rfl)) rfl rfl
              ·intro F1 w1 k1 hf hd
               exact sp_skipD rfl rfl (hd 36 79 (by kernel_rfl)) rfl rfl
              intro F1908 w1909 k1907 hT1910 hF1911
              have s1912 := s1883.call k1907
              have m1913 : Mv (b1874 :: Bl0) w1882 (b1874 :: Bl0) w1909 := Mv.of_keep k1907
              have h_l := h_l.mv m1913
              have hd1858 := hd1858.mv m1913
              have bx1856 := bx1856.keep k1907 (by simp)
              obtain ⟨F2, rfl⟩ := lit_of (F := F1908) [(0, l_v), (3, Value.pointer (some ⟨b1845, 0, none⟩)), (4, vI ((k : Nat) : Int)), (91, undef), (76, Value.bool false), (79, Value.bool false)] ⟨hF1911 0 (by kernel_rfl), hF1911 3 (by kernel_rfl), hF1911 4 (by kernel_rfl), hF1911 91 (by kernel_rfl), hT1910 33 76 (by kernel_rfl) (by decide), hT1910 36 79 (by kernel_rfl) (by decide), trivial⟩
              clear hT1910 hF1911
              refine wl_k rfl (wl_t rfl (o_pickF (Value.bool false) rfl rfl (wl_s (o_pickF (Value.bool false) rfl rfl (wl_nil (thenQ_n (?_)))))))
              refine cw_cond false rfl rfl (fun h => by cases h) (fun _ => ?_)
              refine cw_skip (blockQ_n (thenQ_n (?_)))
              refine cw_region (by kernel_rfl) (wl_s (o_move (vI ((k : Nat) : Int)) rfl (wl_s (o_add .i64 ((k : Nat) : Int) (1 : Int) (((k + 1 : Nat) : Int)) rfl rfl (w64 (by omega) (by omega)) (wl_s (o_assign (vI ((k + 1 : Nat) : Int)) rfl (wl_nil (thenQ_n (?_)))))))))
              exact ⟨_, (by omega), (k + 1), (b1874 :: Bl0), (by first | omega | (simp; done) | (simp; omega) | simp_all), (hr0_1.trans (scan_none (by omega) (by ((repeat (first | (refine (if_pos ?_).trans ?_; solve | omega | assumption | (simp only [alx]; first | done | omega | assumption) | (simp only [*, dbs]; done)) | (refine (if_neg ?_).trans ?_; solve | omega | assumption | (simp only [alx]; first | done | omega | assumption) | (simp only [*, dbs]; done)))); rfl)))), rfl, ⟨_, upds_self _ ⟨rfl, rfl, (by first | rfl | exact congrArg (Value.int _) (by first | omega | (simp))), rfl, trivial⟩⟩, s1912, h_l, hd1858, bx1856, (by first | assumption | (repeat (first | exact List.mem_cons_self | assumption | apply List.mem_cons_of_mem)) | (apply_assumption; assumption))⟩
             ·have hp1915 : (0 : Int) < ((k : Nat) : Int) := by first | simpa using hb1899 | (have e := hb1899; simp at e; omega)
              refine cw_draw' 45 _ _ [isV (Value.pointer (some ⟨b1874, 2, none⟩)), isV (vI ((l[k]!).threshold)), isV (Value.pointer (some ⟨b1845, 2, none⟩)), isV (vI ((l[0]!).threshold)), isV (Value.bool false), isV (Value.bool false), isV (Value.pointer (some ⟨b1874, 3, none⟩)), isV (vI ((l[k]!).many)), isV (Value.pointer (some ⟨b1845, 3, none⟩)), isV (vI ((l[0]!).many)), isV (Value.bool false), isV (Value.bool false), isV (Value.bool false), isV (Value.pointer (some ⟨b1874, 4, none⟩)), fun (vT : Value) (wT : World) => RdL Enc.u8 wT ((b1874 :: Bl0) ++ O) vT ((l[k]!).data), isV (vI (((l[k]!).data).length : Int)), isV (Value.pointer (some ⟨b1845, 4, none⟩)), fun (vT : Value) (wT : World) => RdL Enc.u8 wT ((b1874 :: Bl0) ++ O) vT ((l[0]!).data), isV (vI (((l[0]!).data).length : Int)), isV (Value.bool false), isV (Value.bool false), isV (Value.bool false), isV (Value.pointer (some ⟨b1874, 1, none⟩)), isV (vI ((l[k]!).index)), isV (Value.bool false), isV (Value.bool false), isV (Value.bool false), isV (Value.pointer (some ⟨b1874, 1, none⟩)), isV (vI ((l[k]!).index)), isV (Value.pointer (some ⟨b1845, 3, none⟩)), isV (vI ((l[0]!).many)), isV (Value.bool false), isV (Value.bool false), isV (Value.bool false), isV (vI ((k : Nat) : Int)), isV (Value.bool true), isV (Value.bool true), isV (Value.pointer (some ⟨b1874, 1, none⟩)), isV (vI ((l[k]!).index)), fun (vT : Value) (wT : World) => RdL Enc.share wT ((b1874 :: Bl0) ++ O) vT (l), isV (vI ((k : Nat) : Int)), isV (vI ((k - 1 : Nat) : Int)), fun (vT : Value) (wT : World) => ∃ aT, vT = .pointer (some aT) ∧ PT Enc.share wT ((b1874 :: Bl0) ++ O) (.pointer (some aT)) (l[k - 1]!), fun (vT : Value) (wT : World) => ∃ aT, vT = .pointer (some aT) ∧ PT Enc.int wT ((b1874 :: Bl0) ++ O) (.pointer (some aT)) ((l[k - 1]!).index), isV (vI ((l[k - 1]!).index))] (by kernel_rfl) (by kernel_rfl) (by kernel_rfl) (by kernel_rfl) rfl rfl ⟨kI, kI, kI, kI, kI, kI, kI, kI, kI, kI, kI, kI, kI, kI, fun _ _ _ h k => h.mv (Mv.of_keep k), kI, kI, fun _ _ _ h k => h.mv (Mv.of_keep k), kI, kI, kI, kI, kI, kI, kI, kI, kI, kI, kI, kI, kI, kI, kI, kI, kI, kI, kI, kI, kI, fun _ _ _ h k => h.mv (Mv.of_keep k), kI, kI, fun _ _ _ ⟨a, e, h⟩ k => ⟨a, e, h.mv (Mv.of_keep k)⟩, fun _ _ _ ⟨a, e, h⟩ k => ⟨a, e, h.mv (Mv.of_keep k)⟩, kI, trivial⟩ ⟨?_, ?_, ?_, ?_, ?_, ?_, ?_, ?_, ?_, ?_, ?_, ?_, ?_, ?_, ?_, ?_, ?_, ?_, ?_, ?_, ?_, ?_, ?_, ?_, ?_, ?_, ?_, ?_, ?_, ?_, ?_, ?_, ?_, ?_, ?_, ?_, ?_, ?_, ?_, ?_, ?_, ?_, ?_, ?_, ?_, trivial⟩ ?_
              ·intro F1 w1 k1 hf hd
               obtain ⟨F2, rfl⟩ := lit_of (F := F1) [(5, Value.pointer (some ⟨b1874, 0, none⟩))] ⟨hf 5 (by kernel_rfl), trivial⟩
               exact sp_plain rfl ((o_fieldL 2 f_53_2 rfl (⟨(Keep.refl _ _), rfl⟩)))
              ·intro F1 w1 k1 hf hd
               have k0 := (Keep.drew [] w1882).trans k1
               have bx1886 := bx1886.keep k0 (by simp)
               obtain ⟨F2, rfl⟩ := lit_of (F := F1) [(43, Value.pointer (some ⟨b1874, 2, none⟩))] ⟨hd 0 43 (by kernel_rfl), trivial⟩
               exact sp_plain rfl ((o_loadBx Try.underlying3 rfl (vI ((l[k]!).threshold)) rfl bx1886 rfl (⟨(Keep.refl _ _), rfl⟩)))
              ·intro F1 w1 k1 hf hd
               obtain ⟨F2, rfl⟩ := lit_of (F := F1) [(3, Value.pointer (some ⟨b1845, 0, none⟩))] ⟨hf 3 (by kernel_rfl), trivial⟩
               exact sp_plain rfl ((o_fieldL 2 f_53_2 rfl (⟨(Keep.refl _ _), rfl⟩)))
              ·intro F1 w1 k1 hf hd
               have k0 := (Keep.drew [] w1882).trans k1
               have bx1856 := bx1856.keep k0 (by simp)
               obtain ⟨F2, rfl⟩ := lit_of (F := F1) [(45, Value.pointer (some ⟨b1845, 2, none⟩))] ⟨hd 2 45 (by kernel_rfl), trivial⟩
               exact sp_plain rfl ((o_loadBx Try.underlying3 rfl (vI ((l[0]!).threshold)) rfl bx1856 rfl (⟨(Keep.refl _ _), rfl⟩)))
              ·intro F1 w1 k1 hf hd
               obtain ⟨F2, rfl⟩ := lit_of (F := F1) [(44, vI ((l[k]!).threshold)), (46, vI ((l[0]!).threshold))] ⟨hd 1 44 (by kernel_rfl), hd 3 46 (by kernel_rfl), trivial⟩
               refine sp_plain rfl ((o_neq .i64 ((l[k]!).threshold) ((l[0]!).threshold) rfl rfl (?_)))
               exact ⟨(Keep.refl _ _), congrArg Value.bool (hb1889)⟩
              ·intro F1 w1 k1 hf hd
               obtain ⟨F2, rfl⟩ := lit_of (F := F1) [(47, Value.bool false)] ⟨hd 4 47 (by kernel_rfl), trivial⟩
               exact sp_plain rfl ((o_move (Value.bool false) rfl (⟨(Keep.refl _ _), rfl⟩)))
              ·intro F1 w1 k1 hf hd
               obtain ⟨F2, rfl⟩ := lit_of (F := F1) [(5, Value.pointer (some ⟨b1874, 0, none⟩)), (48, Value.bool false)] ⟨hf 5 (by kernel_rfl), hd 5 48 (by kernel_rfl), trivial⟩
               exact sp_take rfl rfl ((o_fieldL 3 f_53_3 rfl (⟨(Keep.refl _ _), rfl⟩)))
              ·intro F1 w1 k1 hf hd
               have k0 := (Keep.drew [] w1882).trans k1
               have bx1886 := bx1886.keep k0 (by simp)
               obtain ⟨F2, rfl⟩ := lit_of (F := F1) [(48, Value.bool false), (49, Value.pointer (some ⟨b1874, 3, none⟩))] ⟨hd 5 48 (by kernel_rfl), hd 6 49 (by kernel_rfl), trivial⟩
               exact sp_take rfl rfl ((o_loadBx Try.underlying3 rfl (vI ((l[k]!).many)) rfl bx1886 rfl (⟨(Keep.refl _ _), rfl⟩)))
              ·intro F1 w1 k1 hf hd
               obtain ⟨F2, rfl⟩ := lit_of (F := F1) [(3, Value.pointer (some ⟨b1845, 0, none⟩)), (48, Value.bool false)] ⟨hf 3 (by kernel_rfl), hd 5 48 (by kernel_rfl), trivial⟩
               exact sp_take rfl rfl ((o_fieldL 3 f_53_3 rfl (⟨(Keep.refl _ _), rfl⟩)))
              ·intro F1 w1 k1 hf hd
               have k0 := (Keep.drew [] w1882).trans k1
               have bx1856 := bx1856.keep k0 (by simp)
               obtain ⟨F2, rfl⟩ := lit_of (F := F1) [(48, Value.bool false), (51, Value.pointer (some ⟨b1845, 3, none⟩))] ⟨hd 5 48 (by kernel_rfl), hd 8 51 (by kernel_rfl), trivial⟩
               exact sp_take rfl rfl ((o_loadBx Try.underlying3 rfl (vI ((l[0]!).many)) rfl bx1856 rfl (⟨(Keep.refl _ _), rfl⟩)))
              ·intro F1 w1 k1 hf hd
               obtain ⟨F2, rfl⟩ := lit_of (F := F1) [(48, Value.bool false), (50, vI ((l[k]!).many)), (52, vI ((l[0]!).many))] ⟨hd 5 48 (by kernel_rfl), hd 7 50 (by kernel_rfl), hd 9 52 (by kernel_rfl), trivial⟩
               refine sp_take rfl rfl ((o_neq .i64 ((l[k]!).many) ((l[0]!).many) rfl rfl (?_)))
               exact ⟨(Keep.refl _ _), congrArg Value.bool (hb1891)⟩
              ·intro F1 w1 k1 hf hd
               obtain ⟨F2, rfl⟩ := lit_of (F := F1) [(48, Value.bool false), (53, Value.bool false)] ⟨hd 5 48 (by kernel_rfl), hd 10 53 (by kernel_rfl), trivial⟩
               exact sp_plain rfl ((o_pickF (Value.bool false) rfl rfl (⟨(Keep.refl _ _), rfl⟩)))
              ·intro F1 w1 k1 hf hd
               obtain ⟨F2, rfl⟩ := lit_of (F := F1) [(54, Value.bool false)] ⟨hd 11 54 (by kernel_rfl), trivial⟩
               exact sp_plain rfl ((o_move (Value.bool false) rfl (⟨(Keep.refl _ _), rfl⟩)))
              ·intro F1 w1 k1 hf hd
               obtain ⟨F2, rfl⟩ := lit_of (F := F1) [(5, Value.pointer (some ⟨b1874, 0, none⟩)), (55, Value.bool false)] ⟨hf 5 (by kernel_rfl), hd 12 55 (by kernel_rfl), trivial⟩
               exact sp_take rfl rfl ((o_fieldL 4 f_53_4 rfl (⟨(Keep.refl _ _), rfl⟩)))
              ·intro F1 w1 k1 hf hd
               have k0 := (Keep.drew [] w1882).trans k1
               have m1 : Mv (b1874 :: Bl0) w1882 (b1874 :: Bl0) w1 := Mv.of_keep k0
               have bx1886 := bx1886.keep k0 (by simp)
               have hd1888 := hd1888.mv m1
               obtain ⟨F2, rfl⟩ := lit_of (F := F1) [(55, Value.bool false), (56, Value.pointer (some ⟨b1874, 4, none⟩))] ⟨hd 12 55 (by kernel_rfl), hd 13 56 (by kernel_rfl), trivial⟩
               exact sp_take rfl rfl ((o_loadBx Try.underlying28 rfl (d1887) rfl bx1886 rfl (⟨(Keep.refl _ _), hd1888⟩)))
              ·intro F1 w1 k1 hf hd
               obtain ⟨v1916, e1918, hl1917⟩ : ∃ v, F1 57 = v ∧ RdL Enc.u8 w1 ((b1874 :: Bl0) ++ O) v ((l[k]!).data) := ⟨_, rfl, hd 14 57 (by kernel_rfl)⟩
               have := hl1917.len_le
               obtain ⟨F2, rfl⟩ := lit_of (F := F1) [(55, Value.bool false), (57, v1916)] ⟨hd 12 55 (by kernel_rfl), e1918, trivial⟩
               exact sp_take rfl rfl ((o_lenR Try.underlying28 rfl hl1917 (⟨(Keep.refl _ _), rfl⟩)))
              ·intro F1 w1 k1 hf hd
               obtain ⟨F2, rfl⟩ := lit_of (F := F1) [(3, Value.pointer (some ⟨b1845, 0, none⟩)), (55, Value.bool false)] ⟨hf 3 (by kernel_rfl), hd 12 55 (by kernel_rfl), trivial⟩
               exact sp_take rfl rfl ((o_fieldL 4 f_53_4 rfl (⟨(Keep.refl _ _), rfl⟩)))
              ·intro F1 w1 k1 hf hd
               have k0 := (Keep.drew [] w1882).trans k1
               have m1 : Mv (b1874 :: Bl0) w1882 (b1874 :: Bl0) w1 := Mv.of_keep k0
               have bx1856 := bx1856.keep k0 (by simp)
               have hd1858 := hd1858.mv m1
               obtain ⟨F2, rfl⟩ := lit_of (F := F1) [(55, Value.bool false), (59, Value.pointer (some ⟨b1845, 4, none⟩))] ⟨hd 12 55 (by kernel_rfl), hd 16 59 (by kernel_rfl), trivial⟩
               exact sp_take rfl rfl ((o_loadBx Try.underlying28 rfl (d1857) rfl bx1856 rfl (⟨(Keep.refl _ _), hd1858⟩)))
              ·intro F1 w1 k1 hf hd
               obtain ⟨v1919, e1921, hl1920⟩ : ∃ v, F1 60 = v ∧ RdL Enc.u8 w1 ((b1874 :: Bl0) ++ O) v ((l[0]!).data) := ⟨_, rfl, hd 17 60 (by kernel_rfl)⟩
               have := hl1920.len_le
               obtain ⟨F2, rfl⟩ := lit_of (F := F1) [(55, Value.bool false), (60, v1919)] ⟨hd 12 55 (by kernel_rfl), e1921, trivial⟩
               exact sp_take rfl rfl ((o_lenR Try.underlying28 rfl hl1920 (⟨(Keep.refl _ _), rfl⟩)))
              ·intro F1 w1 k1 hf hd
               obtain ⟨F2, rfl⟩ := lit_of (F := F1) [(55, Value.bool false), (58, vI (((l[k]!).data).length : Int)), (61, vI (((l[0]!).data).length : Int))] ⟨hd 12 55 (by kernel_rfl), hd 15 58 (by kernel_rfl), hd 18 61 (by kernel_rfl), trivial⟩
               refine sp_take rfl rfl ((o_neq .i64 (((l[k]!).data).length : Int) (((l[0]!).data).length : Int) rfl rfl (?_)))
               exact ⟨(Keep.refl _ _), congrArg Value.bool (hb1893)⟩
              ·intro F1 w1 k1 hf hd
               obtain ⟨F2, rfl⟩ := lit_of (F := F1) [(55, Value.bool false), (62, Value.bool false)] ⟨hd 12 55 (by kernel_rfl), hd 19 62 (by kernel_rfl), trivial⟩
               exact sp_plain rfl ((o_pickF (Value.bool false) rfl rfl (⟨(Keep.refl _ _), rfl⟩)))
              ·intro F1 w1 k1 hf hd
               obtain ⟨F2, rfl⟩ := lit_of (F := F1) [(63, Value.bool false)] ⟨hd 20 63 (by kernel_rfl), trivial⟩
               exact sp_plain rfl ((o_move (Value.bool false) rfl (⟨(Keep.refl _ _), rfl⟩)))
              ·intro F1 w1 k1 hf hd
               obtain ⟨F2, rfl⟩ := lit_of (F := F1) [(5, Value.pointer (some ⟨b1874, 0, none⟩)), (64, Value.bool false)] ⟨hf 5 (by kernel_rfl), hd 21 64 (by kernel_rfl), trivial⟩
               exact sp_take rfl rfl ((o_fieldL 1 f_53_1 rfl (⟨(Keep.refl _ _), rfl⟩)))
              ·intro F1 w1 k1 hf hd
               have k0 := (Keep.drew [] w1882).trans k1
               have bx1886 := bx1886.keep k0 (by simp)
               obtain ⟨F2, rfl⟩ := lit_of (F := F1) [(64, Value.bool false), (65, Value.pointer (some ⟨b1874, 1, none⟩))] ⟨hd 21 64 (by kernel_rfl), hd 22 65 (by kernel_rfl), trivial⟩
               exact sp_take rfl rfl ((o_loadBx Try.underlying3 rfl (vI ((l[k]!).index)) rfl bx1886 rfl (⟨(Keep.refl _ _), rfl⟩)))
              ·intro F1 w1 k1 hf hd
               obtain ⟨F2, rfl⟩ := lit_of (F := F1) [(64, Value.bool false), (66, vI ((l[k]!).index))] ⟨hd 21 64 (by kernel_rfl), hd 23 66 (by kernel_rfl), trivial⟩
               refine sp_take rfl rfl ((o_lss .i64 ((l[k]!).index) (1 : Int) rfl rfl (?_)))
               exact ⟨(Keep.refl _ _), congrArg Value.bool (hb1895)⟩
              ·intro F1 w1 k1 hf hd
               obtain ⟨F2, rfl⟩ := lit_of (F := F1) [(64, Value.bool false), (67, Value.bool false)] ⟨hd 21 64 (by kernel_rfl), hd 24 67 (by kernel_rfl), trivial⟩
               exact sp_plain rfl ((o_pickF (Value.bool false) rfl rfl (⟨(Keep.refl _ _), rfl⟩)))
              ·intro F1 w1 k1 hf hd
               obtain ⟨F2, rfl⟩ := lit_of (F := F1) [(68, Value.bool false)] ⟨hd 25 68 (by kernel_rfl), trivial⟩
               exact sp_plain rfl ((o_move (Value.bool false) rfl (⟨(Keep.refl _ _), rfl⟩)))
              ·intro F1 w1 k1 hf hd
               obtain ⟨F2, rfl⟩ := lit_of (F := F1) [(5, Value.pointer (some ⟨b1874, 0, none⟩)), (69, Value.bool false)] ⟨hf 5 (by kernel_rfl), hd 26 69 (by kernel_rfl), trivial⟩
               exact sp_take rfl rfl ((o_fieldL 1 f_53_1 rfl (⟨(Keep.refl _ _), rfl⟩)))
              ·intro F1 w1 k1 hf hd
               have k0 := (Keep.drew [] w1882).trans k1
               have bx1886 := bx1886.keep k0 (by simp)
               obtain ⟨F2, rfl⟩ := lit_of (F := F1) [(69, Value.bool false), (70, Value.pointer (some ⟨b1874, 1, none⟩))] ⟨hd 26 69 (by kernel_rfl), hd 27 70 (by kernel_rfl), trivial⟩
               exact sp_take rfl rfl ((o_loadBx Try.underlying3 rfl (vI ((l[k]!).index)) rfl bx1886 rfl (⟨(Keep.refl _ _), rfl⟩)))
              ·intro F1 w1 k1 hf hd
               obtain ⟨F2, rfl⟩ := lit_of (F := F1) [(3, Value.pointer (some ⟨b1845, 0, none⟩)), (69, Value.bool false)] ⟨hf 3 (by kernel_rfl), hd 26 69 (by kernel_rfl), trivial⟩
               exact sp_take rfl rfl ((o_fieldL 3 f_53_3 rfl (⟨(Keep.refl _ _), rfl⟩)))
              ·intro F1 w1 k1 hf hd
               have k0 := (Keep.drew [] w1882).trans k1
               have bx1856 := bx1856.keep k0 (by simp)
               obtain ⟨F2, rfl⟩ := lit_of (F := F1) [(69, Value.bool false), (72, Value.pointer (some ⟨b1845, 3, none⟩))] ⟨hd 26 69 (by kernel_rfl), hd 29 72 (by kernel_rfl), trivial⟩
               exact sp_take rfl rfl ((o_loadBx Try.underlying3 rfl (vI ((l[0]!).many)) rfl bx1856 rfl (⟨(Keep.refl _ _), rfl⟩)))
              ·intro F1 w1 k1 hf hd
               obtain ⟨F2, rfl⟩ := lit_of (F := F1) [(69, Value.bool false), (71, vI ((l[k]!).index)), (73, vI ((l[0]!).many))] ⟨hd 26 69 (by kernel_rfl), hd 28 71 (by kernel_rfl), hd 30 73 (by kernel_rfl), trivial⟩
               refine sp_take rfl rfl ((o_gtr .i64 ((l[k]!).index) ((l[0]!).many) rfl rfl (?_)))
               exact ⟨(Keep.refl _ _), congrArg Value.bool (hb1897)⟩
              ·intro F1 w1 k1 hf hd
               obtain ⟨F2, rfl⟩ := lit_of (F := F1) [(69, Value.bool false), (74, Value.bool false)] ⟨hd 26 69 (by kernel_rfl), hd 31 74 (by kernel_rfl), trivial⟩
               exact sp_plain rfl ((o_pickF (Value.bool false) rfl rfl (⟨(Keep.refl _ _), rfl⟩)))
              ·intro F1 w1 k1 hf hd
               obtain ⟨F2, rfl⟩ := lit_of (F := F1) [(75, Value.bool false)] ⟨hd 32 75 (by kernel_rfl), trivial⟩
               exact sp_plain rfl ((o_move (Value.bool false) rfl (⟨(Keep.refl _ _), rfl⟩)))
              ·intro F1 w1 k1 hf hd
               obtain ⟨F2, rfl⟩ := lit_of (F := F1) [(4, vI ((k : Nat) : Int)), (76, Value.bool false)] ⟨hf 4 (by kernel_rfl), hd 33 76 (by kernel_rfl), trivial⟩
               exact sp_take rfl rfl ((o_move (vI ((k : Nat) : Int)) rfl (⟨(Keep.refl _ _), rfl⟩)))
              ·intro F1 w1 k1 hf hd
               obtain ⟨F2, rfl⟩ := lit_of (F := F1) [(76, Value.bool false), (77, vI ((k : Nat) : Int))] ⟨hd 33 76 (by kernel_rfl), hd 34 77 (by kernel_rfl), trivial⟩
               refine sp_take rfl rfl ((o_gtr .i64 ((k : Nat) : Int) (0 : Int) rfl rfl (?_)))
               exact ⟨(Keep.refl _ _), congrArg Value.bool (hb1899)⟩
              ·intro F1 w1 k1 hf hd
               obtain ⟨F2, rfl⟩ := lit_of (F := F1) [(76, Value.bool false), (78, Value.bool true)] ⟨hd 33 76 (by kernel_rfl), hd 35 78 (by kernel_rfl), trivial⟩
               exact sp_take rfl rfl ((o_move (Value.bool true) rfl (⟨(Keep.refl _ _), rfl⟩)))
              ·intro F1 w1 k1 hf hd
               obtain ⟨F2, rfl⟩ := lit_of (F := F1) [(5, Value.pointer (some ⟨b1874, 0, none⟩)), (79, Value.bool true)] ⟨hf 5 (by kernel_rfl), hd 36 79 (by kernel_rfl), trivial⟩
               exact sp_take rfl rfl ((o_fieldL 1 f_53_1 rfl (⟨(Keep.refl _ _), rfl⟩)))
              ·intro F1 w1 k1 hf hd
               have k0 := (Keep.drew [] w1882).trans k1
               have bx1886 := bx1886.keep k0 (by simp)
               obtain ⟨F2, rfl⟩ := lit_of (F := F1) [(79, Value.bool true), (80, Value.pointer (some ⟨b1874, 1, none⟩))] ⟨hd 36 79 (by kernel_rfl), hd 37 80 (by kernel_rfl), trivial⟩
               exact sp_take rfl rfl ((o_loadBx Try.underlying3 rfl (vI ((l[k]!).index)) rfl bx1886 rfl (⟨(Keep.refl _ _), rfl⟩)))
              ·intro F1 w1 k1 hf hd
               have k0 := (Keep.drew [] w1882).trans k1
               have m1 : Mv (b1874 :: Bl0) w1882 (b1874 :: Bl0) w1 := Mv.of_keep k0
               have h_l := h_l.mv m1
               obtain ⟨F2, rfl⟩ := lit_of (F := F1) [(0, l_v), (79, Value.bool true)] ⟨hf 0 (by kernel_rfl), hd 36 79 (by kernel_rfl), trivial⟩
               exact sp_take rfl rfl ((o_move (l_v) rfl (⟨(Keep.refl _ _), h_l⟩)))
              ·intro F1 w1 k1 hf hd
               obtain ⟨F2, rfl⟩ := lit_of (F := F1) [(4, vI ((k : Nat) : Int)), (79, Value.bool true)] ⟨hf 4 (by kernel_rfl), hd 36 79 (by kernel_rfl), trivial⟩
               exact sp_take rfl rfl ((o_move (vI ((k : Nat) : Int)) rfl (⟨(Keep.refl _ _), rfl⟩)))
              ·intro F1 w1 k1 hf hd
               obtain ⟨F2, rfl⟩ := lit_of (F := F1) [(79, Value.bool true), (83, vI ((k : Nat) : Int))] ⟨hd 36 79 (by kernel_rfl), hd 40 83 (by kernel_rfl), trivial⟩
               exact sp_take rfl rfl ((o_sub .i64 ((k : Nat) : Int) (1 : Int) (((k - 1 : Nat) : Int)) rfl rfl (w64 (by omega) (by omega)) (⟨(Keep.refl _ _), rfl⟩)))
              ·intro F1 w1 k1 hf hd
               obtain ⟨v1922, e1924, hl1923⟩ : ∃ v, F1 82 = v ∧ RdL Enc.share w1 ((b1874 :: Bl0) ++ O) v (l) := ⟨_, rfl, hd 39 82 (by kernel_rfl)⟩
               have := hl1923.len_le
               obtain ⟨F2, rfl⟩ := lit_of (F := F1) [(79, Value.bool true), (82, v1922), (84, vI ((k - 1 : Nat) : Int))] ⟨hd 36 79 (by kernel_rfl), e1924, hd 41 84 (by kernel_rfl), trivial⟩
               exact sp_take rfl rfl ((o_idx Try.underlying38 s_53 .i64 ((k - 1 : Nat) : Int) (k - 1) rfl rfl rfl hl1923 (by omega) fun a1925 hp1926 => (⟨(Keep.refl _ _), ⟨a1925, rfl, hp1926⟩⟩)))
              ·intro F1 w1 k1 hf hd
               obtain ⟨a1927, e1929, hp1928⟩ : ∃ a, F1 85 = .pointer (some a) ∧ PT Enc.share w1 ((b1874 :: Bl0) ++ O) (.pointer (some a)) (l[k - 1]!) := hd 42 85 (by kernel_rfl)
               obtain ⟨F2, rfl⟩ := lit_of (F := F1) [(79, Value.bool true), (85, Value.pointer (some a1927))] ⟨hd 36 79 (by kernel_rfl), e1929, trivial⟩
               exact sp_take rfl rfl ((o_fieldR 1 f_53_1 ((l[k - 1]!).index) rfl hp1928 (fun _ _ _ h => Enc_share_f1 h) fun a1930 hp1931 => (⟨(Keep.refl _ _), ⟨a1930, rfl, hp1931⟩⟩)))
              ·intro F1 w1 k1 hf hd
               obtain ⟨a1932, e1934, hp1933⟩ : ∃ a, F1 86 = .pointer (some a) ∧ PT Enc.int w1 ((b1874 :: Bl0) ++ O) (.pointer (some a)) ((l[k - 1]!).index) := hd 43 86 (by kernel_rfl)
               obtain ⟨F2, rfl⟩ := lit_of (F := F1) [(79, Value.bool true), (86, Value.pointer (some a1932))] ⟨hd 36 79 (by kernel_rfl), e1934, trivial⟩
               exact sp_take rfl rfl ((o_loadI Try.underlying3 rfl rfl hp1933 (⟨(Keep.refl _ _), rfl⟩)))
              intro F1936 w1937 k1935 hT1938 hF1939
              have s1940 := s1883.call k1935
              have m1941 : Mv (b1874 :: Bl0) w1882 (b1874 :: Bl0) w1937 := Mv.of_keep k1935
              have h_l := h_l.mv m1941
              have hd1858 := hd1858.mv m1941
              have bx1856 := bx1856.keep k1935 (by simp)
              obtain ⟨F2, rfl⟩ := lit_of (F := F1936) [(0, l_v), (3, Value.pointer (some ⟨b1845, 0, none⟩)), (4, vI ((k : Nat) : Int)), (91, undef), (76, Value.bool false), (79, Value.bool true), (81, vI ((l[k]!).index)), (87, vI ((l[k - 1]!).index))] ⟨hF1939 0 (by kernel_rfl), hF1939 3 (by kernel_rfl), hF1939 4 (by kernel_rfl), hF1939 91 (by kernel_rfl), hT1938 33 76 (by kernel_rfl) (by decide), hT1938 36 79 (by kernel_rfl) (by decide), hT1938 38 81 (by kernel_rfl) (by decide), hT1938 44 87 (by kernel_rfl) (by decide), trivial⟩
              clear hT1938 hF1939
              refine wl_t rfl (o_leq .i64 ((l[k]!).index) ((l[k - 1]!).index) rfl rfl (wl_t rfl (o_pickT (Value.bool (decide ((l[k]!).index ≤ (l[k - 1]!).index))) rfl rfl (wl_s (o_pickF (Value.bool (decide ((l[k]!).index ≤ (l[k - 1]!).index))) rfl rfl (wl_nil (thenQ_n (?_))))))))
              refine cw_cond (decide ((l[k]!).index ≤ (l[k - 1]!).index)) rfl rfl (fun hc1943 => ?_) (fun hc1943 => ?_)
              ·have hp1944 : (l[k]!).index ≤ (l[k - 1]!).index := by first | simpa using hc1943 | (have e := hc1943; simp at e; omega)
               refine cw_seq (?_)
               refine cw_region (by kernel_rfl) (wl_s (o_assign (Value.bool false) rfl (wl_nil (thenQ_n (?_)))))
               refine cw_ret (blockQ_r (thenQ_r (thenQ_r (blockQ_r (thenQ_r (end_r rfl (res1 rfl rfl rfl) (?_)))))))
               have e : (refAlikeM l) = false := by first | (rw [hr0_1]; exact scan_some (by omega) (by ((repeat (first | (refine (if_pos ?_).trans ?_; solve | omega | assumption | (simp only [alx]; first | done | omega | assumption) | (simp only [*, dbs]; done)) | (refine (if_neg ?_).trans ?_; solve | omega | assumption | (simp only [alx]; first | done | omega | assumption) | (simp only [*, dbs]; done)))); rfl))) | (rw [hr0_1]; exact scan_end (by omega)) | (unfold refAlikeM; ((repeat (first | (refine (if_pos ?_).trans ?_; solve | omega | assumption | (simp only [alx]; first | done | omega | assumption) | (simp only [*, dbs]; done)) | (refine (if_neg ?_).trans ?_; solve | omega | assumption | (simp only [alx]; first | done | omega | assumption) | (simp only [*, dbs]; done)))); rfl))
               exact ⟨_, rfl, s1940.keep, by rw [e]; exact rfl⟩
              ·have hp1945 : (l[k - 1]!).index < (l[k]!).index := by first | simpa using hc1943 | (have e := hc1943; simp at e; omega)
               refine cw_skip (blockQ_n (thenQ_n (?_)))
               refine cw_region (by kernel_rfl) (wl_s (o_move (vI ((k : Nat) : Int)) rfl (wl_s (o_add .i64 ((k : Nat) : Int) (1 : Int) (((k + 1 : Nat) : Int)) rfl rfl (w64 (by omega) (by omega)) (wl_s (o_assign (vI ((k + 1 : Nat) : Int)) rfl (wl_nil (thenQ_n (?_)))))))))
               exact ⟨_, (by omega), (k + 1), (b1874 :: Bl0), (by first | omega | (simp; done) | (simp; omega) | simp_all), (hr0_1.trans (scan_none (by omega) (by ((repeat (first | (refine (if_pos ?_).trans ?_; solve | omega | assumption | (simp only [alx]; first | done | omega | assumption) | (simp only [*, dbs]; done)) | (refine (if_neg ?_).trans ?_; solve | omega | assumption | (simp only [alx]; first | done | omega | assumption) | (simp only [*, dbs]; done)))); rfl)))), rfl, ⟨_, upds_self _ ⟨rfl, rfl, (by first | rfl | exact congrArg (Value.int _) (by first | omega | (simp))), rfl, trivial⟩⟩, s1940, h_l, hd1858, bx1856, (by first | assumption | (repeat (first | exact List.mem_cons_self | assumption | apply List.mem_cons_of_mem)) | (apply_assumption; assumption))⟩
            ·have hp1946 : (l[0]!).many < (l[k]!).index := by first | simpa using hb1897 | (have e := hb1897; simp at e; omega)
             refine cw_draw' 45 _ _ [isV (Value.pointer (some ⟨b1874, 2, none⟩)), isV (vI ((l[k]!).threshold)), isV (Value.pointer (some ⟨b1845, 2, none⟩)), isV (vI ((l[0]!).threshold)), isV (Value.bool false), isV (Value.bool false), isV (Value.pointer (some ⟨b1874, 3, none⟩)), isV (vI ((l[k]!).many)), isV (Value.pointer (some ⟨b1845, 3, none⟩)), isV (vI ((l[0]!).many)), isV (Value.bool false), isV (Value.bool false), isV (Value.bool false), isV (Value.pointer (some ⟨b1874, 4, none⟩)), fun (vT : Value) (wT : World) => RdL Enc.u8 wT ((b1874 :: Bl0) ++ O) vT ((l[k]!).data), isV (vI (((l[k]!).data).length : Int)), isV (Value.pointer (some ⟨b1845, 4, none⟩)), fun (vT : Value) (wT : World) => RdL Enc.u8 wT ((b1874 :: Bl0) ++ O) vT ((l[0]!).data), isV (vI (((l[0]!).data).length : Int)), isV (Value.bool false), isV (Value.bool false), isV (Value.bool false), isV (Value.pointer (some ⟨b1874, 1, none⟩)), isV (vI ((l[k]!).index)), isV (Value.bool false), isV (Value.bool false), isV (Value.bool false), isV (Value.pointer (some ⟨b1874, 1, none⟩)), isV (vI ((l[k]!).index)), isV (Value.pointer (some ⟨b1845, 3, none⟩)), isV (vI ((l[0]!).many)), isV (Value.bool true), isV (Value.bool true), isV (Value.bool true), isV undef, isV undef, isV undef, isV undef, isV undef, isV undef, isV undef, isV undef, isV undef, isV undef, isV undef] (by kernel_rfl) (by kernel_rfl) (by kernel_rfl) (by kernel_rfl) rfl rfl ⟨kI, kI, kI, kI, kI, kI, kI, kI, kI, kI, kI, kI, kI, kI, fun _ _ _ h k => h.mv (Mv.of_keep k), kI, kI, fun _ _ _ h k => h.mv (Mv.of_keep k), kI, kI, kI, kI, kI, kI, kI, kI, kI, kI, kI, kI, kI, kI, kI, kI, kI, kI, kI, kI, kI, kI, kI, kI, kI, kI, kI, trivial⟩ ⟨?_, ?_, ?_, ?_, ?_, ?_, ?_, ?_, ?_, ?_, ?_, ?_, ?_, ?_, ?_, ?_, ?_, ?_, ?_, ?_, ?_, ?_, ?_, ?_, ?_, ?_, ?_, ?_, ?_, ?_, ?_, ?_, ?_, ?_, ?_, ?_, ?_, ?_, ?_, ?_, ?_, ?_, ?_, ?_, ?_, trivial⟩ ?_
             ·intro F1 w1 k1 hf hd
              obtain ⟨F2, rfl⟩ := lit_of (F := F1) [(5, Value.pointer (some ⟨b1874, 0, none⟩))] ⟨hf 5 (by kernel_rfl), trivial⟩
              exact sp_plain rfl ((o_fieldL 2 f_53_2 rfl (⟨(Keep.refl _ _), rfl⟩)))
             ·intro F1 w1 k1 hf hd
              have k0 := (Keep.drew [] w1882).trans k1
              have bx1886 := bx1886.keep k0 (by simp)
              obtain ⟨F2, rfl⟩ := lit_of (F := F1) [(43, Value.pointer (some ⟨b1874, 2, none⟩))] ⟨hd 0 43 (by kernel_rfl), trivial⟩
              exact sp_plain rfl ((o_loadBx Try.underlying3 rfl (vI ((l[k]!).threshold)) rfl bx1886 rfl (⟨(Keep.refl _ _), rfl⟩)))
             ·intro F1 w1 k1 hf hd
              obtain ⟨F2, rfl⟩ := lit_of (F := F1) [(3, Value.pointer (some ⟨b1845, 0, none⟩))] ⟨hf 3 (by kernel_rfl), trivial⟩
              exact sp_plain rfl ((o_fieldL 2 f_53_2 rfl (⟨(Keep.refl _ _), rfl⟩)))
             ·intro F1 w1 k1 hf hd
              have k0 := (Keep.drew [] w1882).trans k1
              have bx1856 := bx1856.keep k0 (by simp)
              obtain ⟨F2, rfl⟩ := lit_of (F := F1) [(45, Value.pointer (some ⟨b1845, 2, none⟩))] ⟨hd 2 45 (by kernel_rfl), trivial⟩
              exact sp_plain rfl ((o_loadBx Try.underlying3 rfl (vI ((l[0]!).threshold)) rfl bx1856 rfl (⟨(Keep.refl _ _), rfl⟩)))
             ·intro F1 w1 k1 hf hd
              obtain ⟨F2, rfl⟩ := lit_of (F := F1) [(44, vI ((l[k]!).threshold)), (46, vI ((l[0]!).threshold))] ⟨hd 1 44 (by kernel_rfl), hd 3 46 (by kernel_rfl), trivial⟩
              refine sp_plain rfl ((o_neq .i64 ((l[k]!).threshold) ((l[0]!).threshold) rfl rfl (?_)))
              exact ⟨(Keep.refl _ _), congrArg Value.bool (hb1889)⟩
             ·intro F1 w1 k1 hf hd
              obtain ⟨F2, rfl⟩ := lit_of (F := F1) [(47, Value.bool false)] ⟨hd 4 47 (by kernel_rfl), trivial⟩
              exact sp_plain rfl ((o_move (Value.bool false) rfl (⟨(Keep.refl _ _), rfl⟩)))
             ·intro F1 w1 k1 hf hd
              obtain ⟨F2, rfl⟩ := lit_of (F := F1) [(5, Value.pointer (some ⟨b1874, 0, none⟩)), (48, Value.bool false)] ⟨hf 5 (by kernel_rfl), hd 5 48 (by kernel_rfl), trivial⟩
              exact sp_take rfl rfl ((o_fieldL 3 f_53_3 rfl (⟨(Keep.refl _ _), rfl⟩)))
             ·intro F1 w1 k1 hf hd
              have k0 := (Keep.drew [] w1882).trans k1
              have bx1886 := bx1886.keep k0 (by simp)
              obtain ⟨F2, rfl⟩ := lit_of (F := F1) [(48, Value.bool false), (49, Value.pointer (some ⟨b1874, 3, none⟩))] ⟨hd 5 48 (by kernel_rfl), hd 6 49 (by kernel_rfl), trivial⟩
              exact sp_take rfl rfl ((o_loadBx Try.underlying3 rfl (vI ((l[k]!).many)) rfl bx1886 rfl (⟨(Keep.refl _ _), rfl⟩)))
             ·intro F1 w1 k1 hf hd
              obtain ⟨F2, rfl⟩ := lit_of (F := F1) [(3, Value.pointer (some ⟨b1845, 0, none⟩)), (48, Value.bool false)] ⟨hf 3 (by kernel_rfl), hd 5 48 (by kernel_rfl), trivial⟩
              exact sp_take rfl rfl ((o_fieldL 3 f_53_3 rfl (⟨(Keep.refl _ _), rfl⟩)))
             ·intro F1 w1 k1 hf hd
              have k0 := (Keep.drew [] w1882).trans k1
              have bx1856 := bx1856.keep k0 (by simp)
              obtain ⟨F2, rfl⟩ := lit_of (F := F1) [(48, Value.bool false), (51, Value.pointer (some ⟨b1845, 3, none⟩))] ⟨hd 5 48 (by kernel_rfl), hd 8 51 (by kernel_rfl), trivial⟩
              exact sp_take rfl rfl ((o_loadBx Try.underlying3 rfl (vI ((l[0]!).many)) rfl bx1856 rfl (⟨(Keep.refl _ _), rfl⟩)))
             ·intro F1 w1 k1 hf hd
              obtain ⟨F2, rfl⟩ := lit_of (F := F1) [(48, Value.bool false), (50, vI ((l[k]!).many)), (52, vI ((l[0]!).many))] ⟨hd 5 48 (by kernel_rfl), hd 7 50 (by kernel_rfl), hd 9 52 (by kernel_rfl), trivial⟩
              refine sp_take rfl rfl ((o_neq .i64 ((l[k]!).many) ((l[0]!).many) rfl rfl (?_)))
              exact ⟨(Keep.refl _ _), congrArg Value.bool (hb1891)⟩
             ·intro F1 w1 k1 hf hd
              obtain ⟨F2, rfl⟩ := lit_of (F := F1) [(48, Value.bool false), (53, Value.bool false)] ⟨hd 5 48 (by kernel_rfl), hd 10 53 (by kernel_rfl), trivial⟩
              exact sp_plain rfl ((o_pickF (Value.bool false) rfl rfl (⟨(Keep.refl _ _), rfl⟩)))
             ·intro F1 w1 k1 hf hd
              obtain ⟨F2, rfl⟩ := lit_of (F := F1) [(54, Value.bool false)] ⟨hd 11 54 (by kernel_rfl), trivial⟩
              exact sp_plain rfl ((o_move (Value.bool false) rfl (⟨(Keep.refl _ _), rfl⟩)))
             ·intro F1 w1 k1 hf hd
              obtain ⟨F2, rfl⟩ := lit_of (F := F1) [(5, Value.pointer (some ⟨b1874, 0, none⟩)), (55, Value.bool false)] ⟨hf 5 (by kernel_rfl), hd 12 55 (by kernel_rfl), trivial⟩
              exact sp_take rfl rfl ((o_fieldL 4 f_53_4 rfl (⟨(Keep.refl _ _), rfl⟩)))
             ·intro F1 w1 k1 hf hd
              have k0 := (Keep.drew [] w1882).trans k1
              have m1 : Mv (b1874 :: Bl0) w1882 (b1874 :: Bl0) w1 := Mv.of_keep k0
              have bx1886 := bx1886.keep k0 (by simp)
              have hd1888 := hd1888.mv m1
              obtain ⟨F2, rfl⟩ := lit_of (F := F1) [(55, Value.bool false), (56, Value.pointer (some ⟨b1874, 4, none⟩))] ⟨hd 12 55 (by kernel_rfl), hd 13 56 (by kernel_rfl), trivial⟩
              exact sp_take rfl rfl ((o_loadBx Try.underlying28 rfl (d1887) rfl bx1886 rfl (⟨(Keep.refl _ _), hd1888⟩)))
             ·intro F1 w1 k1 hf hd
              obtain ⟨v1947, e1949, hl1948⟩ : ∃ v, F1 57 = v ∧ RdL Enc.u8 w1 ((b1874 :: Bl0) ++ O) v ((l[k]!).data) := ⟨_, rfl, hd 14 57 (by kernel_rfl)⟩
              have := hl1948.len_le
              obtain ⟨F2, rfl⟩ := lit_of (F := F1) [(55, Value.bool false), (57, v1947)] ⟨hd 12 55 (by kernel_rfl), e1949, trivial⟩
              exact sp_take rfl rfl ((o_lenR Try.underlying28 rfl hl1948 (⟨(Keep.refl _ _), rfl⟩)))
             ·intro F1 w1 k1 hf hd
              obtain ⟨F2, rfl⟩ := lit_of (F := F1) [(3, Value.pointer (some ⟨b1845, 0, none⟩)), (55, Value.bool false)] ⟨hf 3 (by kernel_rfl), hd 12 55 (by kernel_rfl), trivial⟩
              exact sp_take rfl rfl ((o_fieldL 4 f_53_4 rfl (⟨(Keep.refl _ _), rfl⟩)))
             ·intro F1 w1 k1 hf hd
              have k0 := (Keep.drew [] w1882).trans k1
              have m1 : Mv (b1874 :: Bl0) w1882 (b1874 :: Bl0) w1 := Mv.of_keep k0
              have bx1856 := bx1856.keep k0 (by simp)
              have hd1858 := hd1858.mv m1
              obtain ⟨F2, rfl⟩ := lit_of (F := F1) [(55, Value.bool false), (59, Value.pointer (some ⟨b1845, 4, none⟩))] ⟨hd 12 55 (by kernel_rfl), hd 16 59 (by kernel_rfl), trivial⟩
              exact sp_take rfl rfl ((o_loadBx Try.underlying28 rfl (d1857) rfl bx1856 rfl (⟨(Keep.refl _ _), hd1858⟩)))
             ·intro F1 w1 k1 hf hd
              obtain ⟨v1950, e1952, hl1951⟩ : ∃ v, F1 60 = v ∧ RdL Enc.u8 w1 ((b1874 :: Bl0) ++ O) v ((l[0]!).data) := ⟨_, rfl, hd 17 60 (by kernel_rfl)⟩
              have := hl1951.len_le
              obtain ⟨F2, rfl⟩ := lit_of (F := F1) [(55, Value.bool false), (60, v1950)] ⟨hd 12 55 (by kernel_rfl), e1952, trivial⟩
              exact sp_take rfl rfl ((o_lenR Try.underlying28 rfl hl1951 (⟨(Keep.refl _ _), rfl⟩)))
             ·intro F1 w1 k1 hf hd
              obtain ⟨F2, rfl⟩ := lit_of (F := F1) [(55, Value.bool false), (58, vI (((l[k]!).data).length : Int)), (61, vI (((l[0]!).data).length : Int))] ⟨hd 12 55 (by kernel_rfl), hd 15 58 (by kernel_rfl), hd 18 61 (by kernel_rfl), trivial⟩
              refine sp_take rfl rfl ((o_neq .i64 (((l[k]!).data).length : Int) (((l[0]!).data).length : Int) rfl rfl (?_)))
              exact ⟨(Keep.refl _ _), congrArg Value.bool (hb1893)⟩
             ·intro F1 w1 k1 hf hd
              obtain ⟨F2, rfl⟩ := lit_of (F := F1) [(55, Value.bool false), (62, Value.bool false)] ⟨hd 12 55 (by kernel_rfl), hd 19 62 (by kernel_rfl), trivial⟩
              exact sp_plain rfl ((o_pickF (Value.bool false) rfl rfl (⟨(Keep.refl _ _), rfl⟩)))
             ·intro F1 w1 k1 hf hd
              obtain ⟨F2, rfl⟩ := lit_of (F := F1) [(63, Value.bool false)] ⟨hd 20 63 (by kernel_rfl), trivial⟩
              exact sp_plain rfl ((o_move (Value.bool false) rfl (⟨(Keep.refl _ _), rfl⟩)))
             ·intro F1 w1 k1 hf hd
              obtain ⟨F2, rfl⟩ := lit_of (F := F1) [(5, Value.pointer (some ⟨b1874, 0, none⟩)), (64, Value.bool false)] ⟨hf 5 (by kernel_rfl), hd 21 64 (by kernel_rfl), trivial⟩
              exact sp_take rfl rfl ((o_fieldL 1 f_53_1 rfl (⟨(Keep.refl _ _), rfl⟩)))
             ·intro F1 w1 k1 hf hd
              have k0 := (Keep.drew [] w1882).trans k1
              have bx1886 := bx1886.keep k0 (by simp)
              obtain ⟨F2, rfl⟩ := lit_of (F := F1) [(64, Value.bool false), (65, Value.pointer (some ⟨b1874, 1, none⟩))] ⟨hd 21 64 (by kernel_rfl), hd 22 65 (by kernel_rfl), trivial⟩
              exact sp_take rfl rfl ((o_loadBx Try.underlying3 rfl (vI ((l[k]!).index)) rfl bx1886 rfl (⟨(Keep.refl _ _), rfl⟩)))
             ·intro F1 w1 k1 hf hd
              obtain ⟨F2, rfl⟩ := lit_of (F := F1) [(64, Value.bool false), (66, vI ((l[k]!).index))] ⟨hd 21 64 (by kernel_rfl), hd 23 66 (by kernel_rfl), trivial⟩
              refine sp_take rfl rfl ((o_lss .i64 ((l[k]!).index) (1 : Int) rfl rfl (?_)))
              exact ⟨(Keep.refl _ _), congrArg Value.bool (hb1895)⟩
             ·intro F1 w1 k1 hf hd
              obtain ⟨F2, rfl⟩ := lit_of (F := F1) [(64, Value.bool false), (67, Value.bool false)] ⟨hd 21 64 (by kernel_rfl), hd 24 67 (by kernel_rfl), trivial⟩
              exact sp_plain rfl ((o_pickF (Value.bool false) rfl rfl (⟨(Keep.refl _ _), rfl⟩)))
             ·intro F1 w1 k1 hf hd
              obtain ⟨F2, rfl⟩ := lit_of (F := F1) [(68, Value.bool false)] ⟨hd 25 68 (by kernel_rfl), trivial⟩
              exact sp_plain rfl ((o_move (Value.bool false) rfl (⟨(Keep.refl _ _), rfl⟩)))
             ·intro F1 w1 k1 hf hd
              obtain ⟨F2, rfl⟩ := lit_of (F := F1) [(5, Value.pointer (some ⟨b1874, 0, none⟩)), (69, Value.bool false)] ⟨hf 5 (by kernel_rfl), hd 26 69 (by kernel_rfl), trivial⟩
              exact sp_take rfl rfl ((o_fieldL 1 f_53_1 rfl (⟨(Keep.refl _ _), rfl⟩)))
             ·intro F1 w1 k1 hf hd
              have k0 := (Keep.drew [] w1882).trans k1
              have bx1886 := bx1886.keep k0 (by simp)
              obtain ⟨F2, rfl⟩ := lit_of (F := F1) [(69, Value.bool false), (70, Value.pointer (some ⟨b1874, 1, none⟩))] ⟨hd 26 69 (by kernel_rfl), hd 27 70 (by kernel_rfl), trivial⟩
              exact sp_take rfl rfl ((o_loadBx Try.underlying3 rfl (vI ((l[k]!).index)) rfl bx1886 rfl (⟨(Keep.refl _ _), rfl⟩)))
             ·intro F1 w1 k1 hf hd
              obtain ⟨F2, rfl⟩ := lit_of (F := F1) [(3, Value.pointer (some ⟨b1845, 0, none⟩)), (69, Value.bool false)] ⟨hf 3 (by kernel_rfl), hd 26 69 (by kernel_rfl), trivial⟩
              exact sp_take rfl rfl ((o_fieldL 3 f_53_3 rfl (⟨(Keep.refl _ _), rfl⟩)))
             ·intro F1 w1 k1 hf hd
              have k0 := (Keep.drew [] w1882).trans k1
              have bx1856 := bx1856.keep k0 (by simp)
              obtain ⟨F2, rfl⟩ := lit_of (F := F1) [(69, Value.bool false), (72, Value.pointer (some ⟨b1845, 3, none⟩))] ⟨hd 26 69 (by kernel_rfl), hd 29 72 (by kernel_rfl), trivial⟩
              exact sp_take rfl rfl ((o_loadBx Try.underlying3 rfl (vI ((l[0]!).many)) rfl bx1856 rfl (⟨(Keep.refl _ _), rfl⟩)))
             ·intro F1 w1 k1 hf hd
              obtain ⟨F2, rfl⟩ := lit_of (F := F1) [(69, Value.bool false), (71, vI ((l[k]!).index)), (73, vI ((l[0]!).many))] ⟨hd 26 69 (by kernel_rfl), hd 28 71 (by kernel_rfl), hd 30 73 (by kernel_rfl), trivial⟩
              refine sp_take rfl rfl ((o_gtr .i64 ((l[k]!).index) ((l[0]!).many) rfl rfl (?_)))
              exact ⟨(Keep.refl _ _), congrArg Value.bool (hb1897)⟩
             ·intro F1 w1 k1 hf hd
              obtain ⟨F2, rfl⟩ := lit_of (F := F1) [(69, Value.bool false), (74, Value.bool true)] ⟨hd 26 69 (by kernel_rfl), hd 31 74 (by kernel_rfl), trivial⟩
              exact sp_plain rfl ((o_pickF (Value.bool true) rfl rfl (⟨(Keep.refl _ _), rfl⟩)))
             ·intro F1 w1 k1 hf hd
              obtain ⟨F2, rfl⟩ := lit_of (F := F1) [(75, Value.bool true)] ⟨hd 32 75 (by kernel_rfl), trivial⟩
              exact sp_plain rfl ((o_move (Value.bool true) rfl (⟨(Keep.refl _ _), rfl⟩)))
             ·intro F1 w1 k1 hf hd
              exact sp_skipD rfl rfl (hd 33 76 (by kernel_rfl)) rfl rfl
             ·intro F1 w1 k1 hf hd
              exact sp_skipD rfl rfl (hd 33 76 (by kernel_rfl)) rfl rfl
             ·intro F1 w1 k1 hf hd
              exact sp_skipD rfl rfl (hd 33 76 (by kernel_rfl)) rfl rfl
             ·intro F1 w1 k1 hf hd
              exact sp_undefD rfl rfl (hd 36 79 (by kernel_rfl)) rfl
             ·intro F1 w1 k1 hf hd
              exact sp_undefD rfl rfl (hd 36 79 (by kernel_rfl)) rfl
             ·intro F1 w1 k1 hf hd
              exact sp_undefD rfl rfl (hd 36 79 (by kernel_rfl)) rfl
             ·intro F1 w1 k1 hf hd
              exact sp_undefD rfl rfl (hd 36 79 (by kernel_rfl)) rfl
             ·intro F1 w1 k1 hf hd
              exact sp_undefD rfl rfl (hd 36 79 (by kernel_rfl)) rfl
             ·intro F1 w1 k1 hf hd
              exact sp_undefD rfl rfl (hd 36 79 (by kernel_rfl)) rfl
             ·intro F1 w1 k1 hf hd
              exact sp_undefD rfl rfl (hd 36 79 (by kernel_rfl)) rfl
             ·intro F1 w1 k1 hf hd
              exact sp_undefD rfl rfl (hd 36 79 (by kernel_rfl)) rfl
             intro F1954 w1955 k1953 hT1956 hF1957
             have s1958 := s1883.call k1953
             obtain ⟨F2, rfl⟩ := lit_of (F := F1954) [(0, l_v), (3, Value.pointer (some ⟨b1845, 0, none⟩)), (4, vI ((k : Nat) : Int)), (91, undef), (76, Value.bool true), (79, undef)] ⟨hF1957 0 (by kernel_rfl), hF1957 3 (by kernel_rfl), hF1957 4 (by kernel_rfl), hF1957 91 (by kernel_rfl), hT1956 33 76 (by kernel_rfl) (by decide), hT1956 36 79 (by kernel_rfl) (by decide), trivial⟩
             clear hT1956 hF1957
             refine wl_u rfl (wl_k rfl (wl_s (o_pickT (Value.bool true) rfl rfl (wl_nil (thenQ_n (?_))))))
             refine cw_cond true rfl rfl (fun _ => ?_) (fun h => by cases h)
             refine cw_seq (?_)
             refine cw_region (by kernel_rfl) (wl_s (o_assign (Value.bool false) rfl (wl_nil (thenQ_n (?_)))))
             refine cw_ret (blockQ_r (thenQ_r (thenQ_r (blockQ_r (thenQ_r (end_r rfl (res1 rfl rfl rfl) (?_)))))))
             have e : (refAlikeM l) = false := by first | (rw [hr0_1]; exact scan_some (by omega) (by ((repeat (first | (refine (if_pos ?_).trans ?_; solve | omega | assumption | (simp only [alx]; first | done | omega | assumption) | (simp only [*, dbs]; done)) | (refine (if_neg ?_).trans ?_; solve | omega | assumption | (simp only [alx]; first | done | omega | assumption) | (simp only [*, dbs]; done)))); rfl))) | (rw [hr0_1]; exact scan_end (by omega)) | (unfold refAlikeM; ((repeat (first | (refine (if_pos ?_).trans ?_; solve | omega | assumption | (simp only [alx]; first | done | omega | assumption) | (simp only [*, dbs]; done)) | (refine (if_neg ?_).trans ?_; solve | omega | assumption | (simp only [alx]; first | done | omega | assumption) | (simp only [*, dbs]; done)))); rfl))
             exact ⟨_, rfl, s1958.keep, by rw [e]; exact rfl⟩
           ·have hp1961 : (l[k]!).index < (1 : Int) := by first | simpa using hb1895 | (have e := hb1895; simp at e; omega)
            refine cw_draw' 45 _ _ [isV (Value.pointer (some ⟨b1874, 2, none⟩)), isV (vI ((l[k]!).threshold)), isV (Value.pointer (some ⟨b1845, 2, none⟩)), isV (vI ((l[0]!).threshold)), isV (Value.bool false), isV (Value.bool false), isV (Value.pointer (some ⟨b1874, 3, none⟩)), isV (vI ((l[k]!).many)), isV (Value.pointer (some ⟨b1845, 3, none⟩)), isV (vI ((l[0]!).many)), isV (Value.bool false), isV (Value.bool false), isV (Value.bool false), isV (Value.pointer (some ⟨b1874, 4, none⟩)), fun (vT : Value) (wT : World) => RdL Enc.u8 wT ((b1874 :: Bl0) ++ O) vT ((l[k]!).data), isV (vI (((l[k]!).data).length : Int)), isV (Value.pointer (some ⟨b1845, 4, none⟩)), fun (vT : Value) (wT : World) => RdL Enc.u8 wT ((b1874 :: Bl0) ++ O) vT ((l[0]!).data), isV (vI (((l[0]!).data).length : Int)), isV (Value.bool false), isV (Value.bool false), isV (Value.bool false), isV (Value.pointer (some ⟨b1874, 1, none⟩)), isV (vI ((l[k]!).index)), isV (Value.bool true), isV (Value.bool true), isV (Value.bool true), isV undef, isV undef, isV undef, isV undef, isV undef, isV (Value.bool true), isV (Value.bool true), isV undef, isV undef, isV undef, isV undef, isV undef, isV undef, isV undef, isV undef, isV undef, isV undef, isV undef] (by kernel_rfl) (by kernel_rfl) (by kernel_rfl) (by kernel_rfl) rfl rfl ⟨kI, kI, kI, kI, kI, kI, kI, kI, kI, kI, kI, kI, kI, kI, fun _ _ _ h k => h.mv (Mv.of_keep k), kI, kI, fun _ _ _ h k => h.mv (Mv.of_keep k), kI, kI, kI, kI, kI, kI, kI, kI, kI, kI, kI, kI, kI, kI, kI, kI, kI, kI, kI, kI, kI, kI, kI, kI, kI, kI, kI, trivial⟩ ⟨?_, ?_, ?_, ?_, ?_, ?_, ?_, ?_, ?_, ?_, ?_, ?_, ?_, ?_, ?_, ?_, ?_, ?_, ?_, ?_, ?_, ?_, ?_, ?_, ?_, ?_, ?_, ?_, ?_, ?_, ?_, ?_, ?_, ?_, ?_, ?_, ?_, ?_, ?_, ?_, ?_, ?_, ?_, ?_, ?_, trivial⟩ ?_
            ·intro F1 w1 k1 hf hd
             obtain ⟨F2, rfl⟩ := lit_of (F := F1) [(5, Value.pointer (some ⟨b1874, 0, none⟩))] ⟨hf 5 (by kernel_rfl), trivial⟩
             exact sp_plain rfl ((o_fieldL 2 f_53_2 rfl (⟨(Keep.refl _ _), rfl⟩)))
            ·intro F1 w1 k1 hf hd
             have k0 := (Keep.drew [] w1882).trans k1
             have bx1886 := bx1886.keep k0 (by simp)
             obtain ⟨F2, rfl⟩ := lit_of (F := F1) [(43, Value.pointer (some ⟨b1874, 2, none⟩))] ⟨hd 0 43 (by kernel_rfl), trivial⟩
             exact sp_plain rfl ((o_loadBx Try.underlying3 rfl (vI ((l[k]!).threshold)) rfl bx1886 rfl (⟨(Keep.refl _ _), rfl⟩)))
            ·intro F1 w1 k1 hf hd
             obtain ⟨F2, rfl⟩ := lit_of (F := F1) [(3, Value.pointer (some ⟨b1845, 0, none⟩))] ⟨hf 3 (by kernel_rfl), trivial⟩
             exact sp_plain rfl ((o_fieldL 2 f_53_2 rfl (⟨(Keep.refl _ _), rfl⟩)))
            ·intro F1 w1 k1 hf hd
             have k0 := (Keep.drew [] w1882).trans k1
             have bx1856 := bx1856.keep k0 (by simp)
             obtain ⟨F2, rfl⟩ := lit_of (F := F1) [(45, Value.pointer (some ⟨b1845, 2, none⟩))] ⟨hd 2 45 (by kernel_rfl), trivial⟩
             exact sp_plain rfl ((o_loadBx Try.underlying3 rfl (vI ((l[0]!).threshold)) rfl bx1856 rfl (⟨(Keep.refl _ _), rfl⟩)))
            ·intro F1 w1 k1 hf hd
             obtain ⟨F2, rfl⟩ := lit_of (F := F1) [(44, vI ((l[k]!).threshold)), (46, vI ((l[0]!).threshold))] ⟨hd 1 44 (by kernel_rfl), hd 3 46 (by kernel_rfl), trivial⟩
             refine sp_plain rfl ((o_neq .i64 ((l[k]!).threshold) ((l[0]!).threshold) rfl rfl (?_)))
             exact ⟨(Keep.refl _ _), congrArg Value.bool (hb1889)⟩
            ·intro F1 w1 k1 hf hd
             obtain ⟨F2, rfl⟩ := lit_of (F := F1) [(47, Value.bool false)] ⟨hd 4 47 (by kernel_rfl), trivial⟩
             exact sp_plain rfl ((o_move (Value.bool false) rfl (⟨(Keep.refl _ _), rfl⟩)))
            ·intro F1 w1 k1 hf hd
             obtain ⟨F2, rfl⟩ := lit_of (F := F1) [(5, Value.pointer (some ⟨b1874, 0, none⟩)), (48, Value.bool false)] ⟨hf 5 (by kernel_rfl), hd 5 48 (by kernel_rfl), trivial⟩
             exact sp_take rfl rfl ((o_fieldL 3 f_53_3 rfl (⟨(Keep.refl _ _), rfl⟩)))
            ·intro F1 w1 k1 hf hd
             have k0 := (Keep.drew [] w1882).trans k1
             have bx1886 := bx1886.keep k0 (by simp)
             obtain ⟨F2, rfl⟩ := lit_of (F := F1) [(48, Value.bool false), (49, Value.pointer (some ⟨b1874, 3, none⟩))] ⟨hd 5 48 (by kernel_rfl), hd 6 49 (by kernel_rfl), trivial⟩
             exact sp_take rfl rfl ((o_loadBx Try.underlying3 rfl (vI ((l[k]!).many)) rfl bx1886 rfl (⟨(Keep.refl _ _), rfl⟩)))
            ·intro F1 w1 k1 hf hd
             obtain ⟨F2, rfl⟩ := lit_of (F := F1) [(3, Value.pointer (some ⟨b1845, 0, none⟩)), (48, Value.bool false)] ⟨hf 3 (by kernel_rfl), hd 5 48 (by kernel_rfl), trivial⟩
             exact sp_take rfl rfl ((o_fieldL 3 f_53_3 rfl (⟨(Keep.refl _ _), rfl⟩)))
            ·intro F1 w1 k1 hf hd
             have k0 := (Keep.drew [] w1882).trans k1
             have bx1856 := bx1856.keep k0 (by simp)
             obtain ⟨F2, rfl⟩ := lit_of (F := F1) [(48, Value.bool false), (51, Value.pointer (some ⟨b1845, 3, none⟩))] ⟨hd 5 48 (by kernel_rfl), hd 8 51 (by kernel_rfl), trivial⟩
             exact sp_take rfl rfl ((o_loadBx Try.underlying3 rfl (vI ((l[0]!).many)) rfl bx1856 rfl (⟨(Keep.refl _ _), rfl⟩)))
            ·intro F1 w1 k1 hf hd
             obtain ⟨F2, rfl⟩ := lit_of (F := F1) [(48, Value.bool false), (50, vI ((l[k]!).many)), (52, vI ((l[0]!).many))] ⟨hd 5 48 (by kernel_rfl), hd 7 50 (by kernel_rfl), hd 9 52 (by kernel_rfl), trivial⟩
             refine sp_take rfl rfl ((o_neq .i64 ((l[k]!).many) ((l[0]!).many) rfl rfl (?_)))
             exact ⟨(Keep.refl _ _), congrArg Value.bool (hb1891)⟩
            ·intro F1 w1 k1 hf hd
             obtain ⟨F2, rfl⟩ := lit_of (F := F1) [(48, Value.bool false), (53, Value.bool false)] ⟨hd 5 48 (by kernel_rfl), hd 10 53 (by kernel_rfl), trivial⟩
             exact sp_plain rfl ((o_pickF (Value.bool false) rfl rfl (⟨(Keep.refl _ _), rfl⟩)))
            ·intro F1 w1 k1 hf hd
             obtain ⟨F2, rfl⟩ := lit_of (F := F1) [(54, Value.bool false)] ⟨hd 11 54 (by kernel_rfl), trivial⟩
             exact sp_plain rfl ((o_move (Value.bool false) rfl (⟨(Keep.refl _ _), rfl⟩)))
            ·intro F1 w1 k1 hf hd
             obtain ⟨F2, rfl⟩ := lit_of (F := F1) [(5, Value.pointer (some ⟨b1874, 0, none⟩)), (55, Value.bool false)] ⟨hf 5 (by kernel_rfl), hd 12 55 (by kernel_rfl), trivial⟩
             exact sp_take rfl rfl ((o_fieldL 4 f_53_4 rfl (⟨(Keep.refl _ _), rfl⟩)))
            ·intro F1 w1 k1 hf hd
             have k0 := (Keep.drew [] w1882).trans k1
             have m1 : Mv (b1874 :: Bl0) w1882 (b1874 :: Bl0) w1 := Mv.of_keep k0
             have bx1886 := bx1886.keep k0 (by simp)
             have hd1888 := hd1888.mv m1
             obtain ⟨F2, rfl⟩ := lit_of (F := F1) [(55, Value.bool false), (56, Value.pointer (some ⟨b1874, 4, none⟩))] ⟨hd 12 55 (by kernel_rfl), hd 13 56 (by kernel_rfl), trivial⟩
             exact sp_take rfl rfl ((o_loadBx Try.underlying28 rfl (d1887) rfl bx1886 rfl (⟨(Keep.refl _ _), hd1888⟩)))
            ·intro F1 w1 k1 hf hd
             obtain ⟨v1962, e1964, hl1963⟩ : ∃ v, F1 57 = v ∧ RdL Enc.u8 w1 ((b1874 :: Bl0) ++ O) v ((l[k]!).data) := ⟨_, rfl, hd 14 57 (by kernel_rfl)⟩
             have := hl1963.len_le
             obtain ⟨F2, rfl⟩ := lit_of (F := F1) [(55, Value.bool false), (57, v1962)] ⟨hd 12 55 (by kernel_rfl), e1964, trivial⟩
             exact sp_take rfl rfl ((o_lenR Try.underlying28 rfl hl1963 (⟨(Keep.refl _ _), rfl⟩)))
            ·intro F1 w1 k1 hf hd
             obtain ⟨F2, rfl⟩ := lit_of (F := F1) [(3, Value.pointer (some ⟨b1845, 0, none⟩)), (55, Value.bool false)] ⟨hf 3 (by kernel_rfl), hd 12 55 (by kernel_rfl), trivial⟩
             exact sp_take rfl rfl ((o_fieldL 4 f_53_4 rfl (⟨(Keep.refl _ _), rfl⟩)))
            ·intro F1 w1 k1 hf hd
             have k0 := (Keep.drew [] w1882).trans k1
             have m1 : Mv (b1874 :: Bl0) w1882 (b1874 :: Bl0) w1 := Mv.of_keep k0
             have bx1856 := bx1856.keep k0 (by simp)
             have hd1858 := hd1858.mv m1
             obtain ⟨F2, rfl⟩ := lit_of (F := F1) [(55, Value.bool false), (59, Value.pointer (some ⟨b1845, 4, none⟩))] ⟨hd 12 55 (by kernel_rfl), hd 16 59 (by kernel_rfl), trivial⟩
             exact sp_take rfl rfl ((o_loadBx Try.underlying28 rfl (d1857) rfl bx1856 rfl (⟨(Keep.refl _ _), hd1858⟩)))
            ·intro F1 w1 k1 hf hd
             obtain ⟨v1965, e1967, hl1966⟩ : ∃ v, F1 60 = v ∧ RdL Enc.u8 w1 ((b1874 :: Bl0) ++ O) v ((l[0]!).data) := ⟨_, rfl, hd 17 60 (by kernel_rfl)⟩
             have := hl1966.len_le
             obtain ⟨F2, rfl⟩ := lit_of (F := F1) [(55, Value.bool false), (60, v1965)] ⟨hd 12 55 (by kernel_rfl), e1967, trivial⟩
             exact sp_take rfl rfl ((o_lenR Try.underlying28 rfl hl1966 (⟨(Keep.refl _ _), rfl⟩)))
            ·intro F1 w1 k1 hf hd
             obtain ⟨F2, rfl⟩ := lit_of (F := F1) [(55, Value.bool false), (58, vI (((l[k]!).data).length : Int)), (61, vI (((l[0]!).data).length : Int))] ⟨hd 12 55 (by kernel_rfl), hd 15 58 (by kernel_rfl), hd 18 61 (by kernel_rfl), trivial⟩
             refine sp_take rfl rfl ((o_neq .i64 (((l[k]!).data).length : Int) (((l[0]!).data).length : Int) rfl rfl (?_)))
             exact ⟨(Keep.refl _ _), congrArg Value.bool (hb1893)⟩
            ·intro F1 w1 k1 hf hd
             obtain ⟨F2, rfl⟩ := lit_of (F := F1) [(55, Value.bool false), (62, Value.bool false)] ⟨hd 12 55 (by kernel_rfl), hd 19 62 (by kernel_rfl), trivial⟩
             exact sp_plain rfl ((o_pickF (Value.bool false) rfl rfl (⟨(Keep.refl _ _), rfl⟩)))
            ·intro F1 w1 k1 hf hd
             obtain ⟨F2, rfl⟩ := lit_of (F := F1) [(63, Value.bool false)] ⟨hd 20 63 (by kernel_rfl), trivial⟩
             exact sp_plain rfl ((o_move (Value.bool false) rfl (⟨(Keep.refl _ _), rfl⟩)))
            ·intro F1 w1 k1 hf hd
             obtain ⟨F2, rfl⟩ := lit_of (F := F1) [(5, Value.pointer (some ⟨b1874, 0, none⟩)), (64, Value.bool false)] ⟨hf 5 (by kernel_rfl), hd 21 64 (by kernel_rfl), trivial⟩
             exact sp_take rfl rfl ((o_fieldL 1 f_53_1 rfl (⟨(Keep.refl _ _), rfl⟩)))
            ·intro F1 w1 k1 hf hd
             have k0 := (Keep.drew [] w1882).trans k1
             have bx1886 := bx1886.keep k0 (by simp)
             obtain ⟨F2, rfl⟩ := lit_of (F := F1) [(64, Value.bool false), (65, Value.pointer (some ⟨b1874, 1, none⟩))] ⟨hd 21 64 (by kernel_rfl), hd 22 65 (by kernel_rfl), trivial⟩
             exact sp_take rfl rfl ((o_loadBx Try.underlying3 rfl (vI ((l[k]!).index)) rfl bx1886 rfl (⟨(Keep.refl _ _), rfl⟩)))
            ·intro F1 w1 k1 hf hd
             obtain ⟨F2, rfl⟩ := lit_of (F := F1) [(64, Value.bool false), (66, vI ((l[k]!).index))] ⟨hd 21 64 (by kernel_rfl), hd 23 66 (by kernel_rfl), trivial⟩
             refine sp_take rfl rfl ((o_lss .i64 ((l[k]!).index) (1 : Int) rfl rfl (?_)))
             exact ⟨(Keep.refl _ _), congrArg Value.bool (hb1895)⟩
            ·intro F1 w1 k1 hf hd
             obtain ⟨F2, rfl⟩ := lit_of (F := F1) [(64, Value.bool false), (67, Value.bool true)] ⟨hd 21 64 (by kernel_rfl), hd 24 67 (by kernel_rfl), trivial⟩
             exact sp_plain rfl ((o_pickF (Value.bool true) rfl rfl (⟨(Keep.refl _ _), rfl⟩)))
            ·intro F1 w1 k1 hf hd
             obtain ⟨F2, rfl⟩ := lit_of (F := F1) [(68, Value.bool true)] ⟨hd 25 68 (by kernel_rfl), trivial⟩
             exact sp_plain rfl ((o_move (Value.bool true) rfl (⟨(Keep.refl _ _), rfl⟩)))
            ·intro F1 w1 k1 hf hd
             exact sp_skipD rfl rfl (hd 26 69 (by kernel_rfl)) rfl rfl
            ·intro F1 w1 k1 hf hd
             exact sp_skipD rfl rfl (hd 26 69 (by kernel_rfl)) rfl rfl
            ·intro F1 w1 k1 hf hd
             exact sp_skipD rfl rfl (hd 26 69 (by kernel_rfl)) rfl rfl
            ·intro F1 w1 k1 hf hd
             exact sp_skipD rfl rfl (hd 26 69 (by kernel_rfl)) rfl rfl
            ·intro F1 w1 k1 hf hd
             exact sp_skipD rfl rfl (hd 26 69 (by kernel_rfl)) rfl rfl
            ·intro F1 w1 k1 hf hd
             obtain ⟨F2, rfl⟩ := lit_of (F := F1) [(69, Value.bool true), (74, undef)] ⟨hd 26 69 (by kernel_rfl), hd 31 74 (by kernel_rfl), trivial⟩
             exact sp_plain rfl ((o_pickT (Value.bool true) rfl rfl (⟨(Keep.refl _ _), rfl⟩)))
            ·intro F1 w1 k1 hf hd
             obtain ⟨F2, rfl⟩ := lit_of (F := F1) [(75, Value.bool true)] ⟨hd 32 75 (by kernel_rfl), trivial⟩
             exact sp_plain rfl ((o_move (Value.bool true) rfl (⟨(Keep.refl _ _), rfl⟩)))
            ·intro F1 w1 k1 hf hd
             exact sp_skipD rfl rfl (hd 33 76 (by kernel_rfl)) rfl rfl
            ·intro F1 w1 k1 hf hd
             exact sp_skipD rfl rfl (hd 33 76 (by kernel_rfl)) rfl rfl
            ·intro F1 w1 k1 hf hd
             exact sp_skipD rfl rfl (hd 33 76 (by kernel_rfl)) rfl rfl
            ·intro F1 w1 k1 hf hd
             exact sp_undefD rfl rfl (hd 36 79 (by kernel_rfl)) rfl
            ·intro F1 w1 k1 hf hd
             exact sp_undefD rfl rfl (hd 36 79 (by kernel_rfl)) rfl
            ·intro F1 w1 k1 hf hd
             exact sp_undefD rfl rfl (hd 36 79 (by kernel_rfl)) rfl
            ·intro F1 w1 k1 hf hd
             exact sp_undefD rfl rfl (hd 36 79 (by kernel_rfl)) rfl
            ·intro F1 w1 k1 hf hd
             exact sp_undefD rfl rfl (hd 36 79 (by kernel_rfl)) rfl
            ·intro F1 w1 k1 hf hd
             exact sp_undefD rfl rfl (hd 36 79 (by kernel_rfl)) rfl
            ·intro F1 w1 k1 hf hd
             exact sp_undefD rfl rfl (hd 36 79 (by kernel_rfl)) rfl
            ·intro F1 w1 k1 hf hd
             exact sp_undefD rfl rfl (hd 36 79 (by kernel_rfl)) rfl
            intro F1969 w1970 k1968 hT1971 hF1972
            have s1973 := s1883.call k1968
            obtain ⟨F2, rfl⟩ := lit_of (F := F1969) [(0, l_v), (3, Value.pointer (some ⟨b1845, 0, none⟩)), (4, vI ((k : Nat) : Int)), (91, undef), (76, Value.bool true), (79, undef)] ⟨hF1972 0 (by kernel_rfl), hF1972 3 (by kernel_rfl), hF1972 4 (by kernel_rfl), hF1972 91 (by kernel_rfl), hT1971 33 76 (by kernel_rfl) (by decide), hT1971 36 79 (by kernel_rfl) (by decide), trivial⟩
            clear hT1971 hF1972
            refine wl_u rfl (wl_k rfl (wl_s (o_pickT (Value.bool true) rfl rfl (wl_nil (thenQ_n (?_))))))
            refine cw_cond true rfl rfl (fun _ => ?_) (fun h => by cases h)
            refine cw_seq (?_)
            refine cw_region (by kernel_rfl) (wl_s (o_assign (Value.bool false) rfl (wl_nil (thenQ_n (?_)))))
            refine cw_ret (blockQ_r (thenQ_r (thenQ_r (blockQ_r (thenQ_r (end_r rfl (res1 rfl rfl rfl) (?_)))))))
            have e : (refAlikeM l) = false := by first | (rw [hr0_1]; exact scan_some (by omega) (by ((repeat (first | (refine (if_pos ?_).trans ?_; solve | omega | assumption | (simp only [alx]; first | done | omega | assumption) | (simp only [*, dbs]; done)) | (refine (if_neg ?_).trans ?_; solve | omega | assumption | (simp only [alx]; first | done | omega | assumption) | (simp only [*, dbs]; done)))); rfl))) | (rw [hr0_1]; exact scan_end (by omega)) | (unfold refAlikeM; ((repeat (first | (refine (if_pos ?_).trans ?_; solve | omega | assumption | (simp only [alx]; first | done | omega | assumption) | (simp only [*, dbs]; done)) | (refine (if_neg ?_).trans ?_; solve | omega | assumption | (simp only [alx]; first | done | omega | assumption) | (simp only [*, dbs]; done)))); rfl))
            exact ⟨_, rfl, s1973.keep, by rw [e]; exact rfl⟩
          ·have hp1976 : (((l[k]!).data).length : Int) ≠ (((l[0]!).data).length : Int) := by first | simpa using hb1893 | (have e := hb1893; simp at e; omega)
           refine cw_draw' 45 _ _ [isV (Value.pointer (some ⟨b1874, 2, none⟩)), isV (vI ((l[k]!).threshold)), isV (Value.pointer (some ⟨b1845, 2, none⟩)), isV (vI ((l[0]!).threshold)), isV (Value.bool false), isV (Value.bool false), isV (Value.pointer (some ⟨b1874, 3, none⟩)), isV (vI ((l[k]!).many)), isV (Value.pointer (some ⟨b1845, 3, none⟩)), isV (vI ((l[0]!).many)), isV (Value.bool false), isV (Value.bool false), isV (Value.bool false), isV (Value.pointer (some ⟨b1874, 4, none⟩)), fun (vT : Value) (wT : World) => RdL Enc.u8 wT ((b1874 :: Bl0) ++ O) vT ((l[k]!).data), isV (vI (((l[k]!).data).length : Int)), isV (Value.pointer (some ⟨b1845, 4, none⟩)), fun (vT : Value) (wT : World) => RdL Enc.u8 wT ((b1874 :: Bl0) ++ O) vT ((l[0]!).data), isV (vI (((l[0]!).data).length : Int)), isV (Value.bool true), isV (Value.bool true), isV (Value.bool true), isV undef, isV undef, isV undef, isV (Value.bool true), isV (Value.bool true), isV undef, isV undef, isV undef, isV undef, isV undef, isV (Value.bool true), isV (Value.bool true), isV undef, isV undef, isV undef, isV undef, isV undef, isV undef, isV undef, isV undef, isV undef, isV undef, isV undef] (by kernel_rfl) (by kernel_rfl) (by kernel_rfl) (by kernel_rfl) rfl rfl ⟨kI, kI, kI, kI, kI, kI, kI, kI, kI, kI, kI, kI, kI, kI, fun _ _ _ h k => h.mv (Mv.of_keep k), kI, kI, fun _ _ _ h k => h.mv (Mv.of_keep k), kI, kI, kI, kI, kI, kI, kI, kI, kI, kI, kI, kI, kI, kI, kI, kI, kI, kI, kI, kI, kI, kI, kI, kI, kI, kI, kI, trivial⟩ ⟨?_, ?_, ?_, ?_, ?_, ?_, ?_, ?_, ?_, ?_, ?_, ?_, ?_, ?_, ?_, ?_, ?_, ?_, ?_, ?_, ?_, ?_, ?_, ?_, ?_, ?_, ?_, ?_, ?_, ?_, ?_, ?_, ?_, ?_, ?_, ?_, ?_, ?_, ?_, ?_, ?_, ?_, ?_, ?_, ?_, trivial⟩ ?_
           ·intro F1 w1 k1 hf hd
            obtain ⟨F2, rfl⟩ := lit_of (F := F1) [(5, Value.pointer (some ⟨b1874, 0, none⟩))] ⟨hf 5 (by kernel_rfl), trivial⟩
            exact sp_plain rfl ((o_fieldL 2 f_53_2 rfl (⟨(Keep.refl _ _), rfl⟩)))
           ·intro F1 w1 k1 hf hd
            have k0 := (Keep.drew [] w1882).trans k1
            have bx1886 := bx1886.keep k0 (by simp)
            obtain ⟨F2, rfl⟩ := lit_of (F := F1) [(43, Value.pointer (some ⟨b1874, 2, none⟩))] ⟨hd 0 43 (by kernel_rfl), trivial⟩
            exact sp_plain rfl ((o_loadBx Try.underlying3 rfl (vI ((l[k]!).threshold)) rfl bx1886 rfl (⟨(Keep.refl _ _), rfl⟩)))
           ·intro F1 w1 k1 hf hd
            obtain ⟨F2, rfl⟩ := lit_of (F := F1) [(3, Value.pointer (some ⟨b1845, 0, none⟩))] ⟨hf 3 (by kernel_rfl), trivial⟩
            exact sp_plain rfl ((o_fieldL 2 f_53_2 rfl (⟨(Keep.refl _ _), rfl⟩)))
           ·intro F1 w1 k1 hf hd
            have k0 := (Keep.drew [] w1882).trans k1
            have bx1856 := bx1856.keep k0 (by simp)
            obtain ⟨F2, rfl⟩ := lit_of (F := F1) [(45, Value.pointer (some ⟨b1845, 2, none⟩))] ⟨hd 2 45 (by kernel_rfl), trivial⟩
            exact sp_plain rfl ((o_loadBx Try.underlying3 rfl (vI ((l[0]!).threshold)) rfl bx1856 rfl (⟨(Keep.refl _ _), rfl⟩)))
           ·intro F1 w1 k1 hf hd
            obtain ⟨F2, rfl⟩ := lit_of (F := F1) [(44, vI ((l[k]!).threshold)), (46, vI ((l[0]!).threshold))] ⟨hd 1 44 (by kernel_rfl), hd 3 46 (by kernel_rfl), trivial⟩
            refine sp_plain rfl ((o_neq .i64 ((l[k]!).threshold) ((l[0]!).threshold) rfl rfl (?_)))
            exact ⟨(Keep.refl _ _), congrArg Value.bool (hb1889)⟩
           ·intro F1 w1 k1 hf hd
            obtain ⟨F2, rfl⟩ := lit_of (F := F1) [(47, Value.bool false)] ⟨hd 4 47 (by kernel_rfl), trivial⟩
            exact sp_plain rfl ((o_move (Value.bool false) rfl (⟨(Keep.refl _ _), rfl⟩)))
           ·intro F1 w1 k1 hf hd
            obtain ⟨F2, rfl⟩ := lit_of (F := F1) [(5, Value.pointer (some ⟨b1874, 0, none⟩)), (48, Value.bool false)] ⟨hf 5 (by kernel_rfl), hd 5 48 (by kernel_rfl), trivial⟩
            exact sp_take rfl rfl ((o_fieldL 3 f_53_3 rfl (⟨(Keep.refl _ _), rfl⟩)))
           ·intro F1 w1 k1 hf hd
            have k0 := (Keep.drew [] w1882).trans k1
            have bx1886 := bx1886.keep k0 (by simp)
            obtain ⟨F2, rfl⟩ := lit_of (F := F1) [(48, Value.bool false), (49, Value.pointer (some ⟨b1874, 3, none⟩))] ⟨hd 5 48 (by kernel_rfl), hd 6 49 (by kernel_rfl), trivial⟩
            exact sp_take rfl rfl ((o_loadBx Try.underlying3 rfl (vI ((l[k]!).many)) rfl bx1886 rfl (⟨(Keep.refl _ _), rfl⟩)))
           ·intro F1 w1 k1 hf hd
            obtain ⟨F2, rfl⟩ := lit_of (F := F1) [(3, Value.pointer (some ⟨b1845, 0, none⟩)), (48, Value.bool false)] ⟨hf 3 (by kernel_rfl), hd 5 48 (by kernel_rfl), trivial⟩
            exact sp_take rfl rfl ((o_fieldL 3 f_53_3 rfl (⟨(Keep.refl _ _), rfl⟩)))
           ·intro F1 w1 k1 hf hd
            have k0 := (Keep.drew [] w1882).trans k1
            have bx1856 := bx1856.keep k0 (by simp)
            obtain ⟨F2, rfl⟩ := lit_of (F := F1) [(48, Value.bool false), (51, Value.pointer (some ⟨b1845, 3, none⟩))] ⟨hd 5 48 (by kernel_rfl), hd 8 51 (by kernel_rfl), trivial⟩
            exact sp_take rfl rfl ((o_loadBx Try.underlying3 rfl (vI ((l[0]!).many)) rfl bx1856 rfl (⟨(Keep.refl _ _), rfl⟩)))
           ·intro F1 w1 k1 hf hd
            obtain ⟨F2, rfl⟩ := lit_of (F := F1) [(48, Value.bool false), (50, vI ((l[k]!).many)), (52, vI ((l[0]!).many))] ⟨hd 5 48 (by kernel_rfl), hd 7 50 (by kernel_rfl), hd 9 52 (by kernel_rfl), trivial⟩
            refine sp_take rfl rfl ((o_neq .i64 ((l[k]!).many) ((l[0]!).many) rfl rfl (?_)))
            exact ⟨(Keep.refl _ _), congrArg Value.bool (hb1891)⟩
           ·intro F1 w1 k1 hf hd
            obtain ⟨F2, rfl⟩ := lit_of (F := F1) [(48, Value.bool false), (53, Value.bool false)] ⟨hd 5 48 (by kernel_rfl), hd 10 53 (by kernel_rfl), trivial⟩
            exact sp_plain rfl ((o_pickF (Value.bool false) rfl rfl (⟨(Keep.refl _ _), rfl⟩)))
           ·intro F1 w1 k1 hf hd
            obtain ⟨F2, rfl⟩ := lit_of (F := F1) [(54, Value.bool false)] ⟨hd 11 54 (by kernel_rfl), trivial⟩
            exact sp_plain rfl ((o_move (Value.bool false) rfl (⟨(Keep.refl _ _), rfl⟩)))
           ·intro F1 w1 k1 hf hd
            obtain ⟨F2, rfl⟩ := lit_of (F := F1) [(5, Value.pointer (some ⟨b1874, 0, none⟩)), (55, Value.bool false)] ⟨hf 5 (by kernel_rfl), hd 12 55 (by kernel_rfl), trivial⟩
            exact sp_take rfl rfl ((o_fieldL 4 f_53_4 rfl (⟨(Keep.refl _ _), rfl⟩)))
           ·intro F1 w1 k1 hf hd
            have k0 := (Keep.drew [] w1882).trans k1
            have m1 : Mv (b1874 :: Bl0) w1882 (b1874 :: Bl0) w1 := Mv.of_keep k0
            have bx1886 := bx1886.keep k0 (by simp)
            have hd1888 := hd1888.mv m1
            obtain ⟨F2, rfl⟩ := lit_of (F := F1) [(55, Value.bool false), (56, Value.pointer (some ⟨b1874, 4, none⟩))] ⟨hd 12 55 (by kernel_rfl), hd 13 56 (by kernel_rfl), trivial⟩
            exact sp_take rfl rfl ((o_loadBx Try.underlying28 rfl (d1887) rfl bx1886 rfl (⟨(Keep.refl _ _), hd1888⟩)))
           ·intro F1 w1 k1 hf hd
            obtain ⟨v1977, e1979, hl1978⟩ : ∃ v, F1 57 = v ∧ RdL Enc.u8 w1 ((b1874 :: Bl0) ++ O) v ((l[k]!).data) := ⟨_, rfl, hd 14 57 (by kernel_rfl)⟩
            have := hl1978.len_le
            obtain ⟨F2, rfl⟩ := lit_of (F := F1) [(55, Value.bool false), (57, v1977)] ⟨hd 12 55 (by kernel_rfl), e1979, trivial⟩
            exact sp_take rfl rfl ((o_lenR Try.underlying28 rfl hl1978 (⟨(Keep.refl _ _), rfl⟩)))
           ·intro F1 w1 k1 hf hd
            obtain ⟨F2, rfl⟩ := lit_of (F := F1) [(3, Value.pointer (some ⟨b1845, 0, none⟩)), (55, Value.bool false)] ⟨hf 3 (by kernel_rfl), hd 12 55 (by kernel_rfl), trivial⟩
            exact sp_take rfl rfl ((o_fieldL 4 f_53_4 rfl (⟨(Keep.refl _ _), rfl⟩)))
           ·intro F1 w1 k1 hf hd
            have k0 := (Keep.drew [] w1882).trans k1
            have m1 : Mv (b1874 :: Bl0) w1882 (b1874 :: Bl0) w1 := Mv.of_keep k0
            have bx1856 := bx1856.keep k0 (by simp)
            have hd1858 := hd1858.mv m1
            obtain ⟨F2, rfl⟩ := lit_of (F := F1) [(55, Value.bool false), (59, Value.pointer (some ⟨b1845, 4, none⟩))] ⟨hd 12 55 (by kernel_rfl), hd 16 59 (by kernel_rfl), trivial⟩
            exact sp_take rfl rfl ((o_loadBx Try.underlying28 rfl (d1857) rfl bx1856 rfl (⟨(Keep.refl _ _), hd1858⟩)))
           ·intro F1 w1 k1 hf hd
            obtain ⟨v1980, e1982, hl1981⟩ : ∃ v, F1 60 = v ∧ RdL Enc.u8 w1 ((b1874 :: Bl0) ++ O) v ((l[0]!).data) := ⟨_, rfl, hd 17 60 (by kernel_rfl)⟩
            have := hl1981.len_le
            obtain ⟨F2, rfl⟩ := lit_of (F := F1) [(55, Value.bool false), (60, v1980)] ⟨hd 12 55 (by kernel_rfl), e1982, trivial⟩
            exact sp_take rfl rfl ((o_lenR Try.underlying28 rfl hl1981 (⟨(Keep.refl _ _), rfl⟩)))
           ·intro F1 w1 k1 hf hd
            obtain ⟨F2, rfl⟩ := lit_of (F := F1) [(55, Value.bool false), (58, vI (((l[k]!).data).length : Int)), (61, vI (((l[0]!).data).length : Int))] ⟨hd 12 55 (by kernel_rfl), hd 15 58 (by kernel_rfl), hd 18 61 (by kernel_rfl), trivial⟩
            refine sp_take rfl rfl ((o_neq .i64 (((l[k]!).data).length : Int) (((l[0]!).data).length : Int) rfl rfl (?_)))
            exact ⟨(Keep.refl _ _), congrArg Value.bool (hb1893)⟩
           ·intro F1 w1 k1 hf hd
            obtain ⟨F2, rfl⟩ := lit_of (F := F1) [(55, Value.bool false), (62, Value.bool true)] ⟨hd 12 55 (by kernel_rfl), hd 19 62 (by kernel_rfl), trivial⟩
            exact sp_plain rfl ((o_pickF (Value.bool true) rfl rfl (⟨(Keep.refl _ _), rfl⟩)))
           ·intro F1 w1 k1 hf hd
            obtain ⟨F2, rfl⟩ := lit_of (F := F1) [(63, Value.bool true)] ⟨hd 20 63 (by kernel_rfl), trivial⟩
            exact sp_plain rfl ((o_move (Value.bool true) rfl (⟨(Keep.refl _ _), rfl⟩)))
           ·intro F1 w1 k1 hf hd
            exact sp_skipD rfl rfl (hd 21 64 (by kernel_rfl)) rfl rfl
           ·intro F1 w1 k1 hf hd
            exact sp_skipD rfl rfl (hd 21 64 (by kernel_rfl)) rfl rfl
           ·intro F1 w1 k1 hf hd
            exact sp_skipD rfl rfl (hd 21 64 (by kernel_rfl)) rfl rfl
           ·intro F1 w1 k1 hf hd
            obtain ⟨F2, rfl⟩ := lit_of (F := F1) [(64, Value.bool true), (67, undef)] ⟨hd 21 64 (by kernel_rfl), hd 24 67 (by kernel_rfl), trivial⟩
            exact sp_plain rfl ((o_pickT (Value.bool true) rfl rfl (⟨(Keep.refl _ _), rfl⟩)))
           ·intro F1 w1 k1 hf hd
            obtain ⟨F2, rfl⟩ := lit_of (F := F1) [(68, Value.bool true)] ⟨hd 25 68 (by kernel_rfl), trivial⟩
            exact sp_plain rfl ((o_move (Value.bool true) rfl (⟨(Keep.refl _ _), rfl⟩)))
           ·intro F1 w1 k1 hf hd
            exact sp_skipD rfl rfl (hd 26 69 (by kernel_rfl)) rfl rfl
           ·intro F1 w1 k1 hf hd
            exact sp_skipD rfl rfl (hd 26 69 (by kernel_rfl)) rfl rfl
           ·intro F1 w1 k1 hf hd
            exact sp_skipD rfl rfl (hd 26 69 (by kernel_rfl)) rfl rfl
           ·intro F1 w1 k1 hf hd
            exact sp_skipD rfl rfl (hd 26 69 (by kernel_rfl)) rfl rfl
           ·intro F1 w1 k1 hf hd
            exact sp_skipD rfl rfl (hd 26 69 (by kernel_rfl)) rfl rfl
           ·intro F1 w1 k1 hf hd
            obtain ⟨F2, rfl⟩ := lit_of (F := F1) [(69, Value.bool true), (74, undef)] ⟨hd 26 69 (by kernel_rfl), hd 31 74 (by kernel_rfl), trivial⟩
            exact sp_plain rfl ((o_pickT (Value.bool true) rfl rfl (⟨(Keep.refl _ _), rfl⟩)))
           ·intro F1 w1 k1 hf hd
            obtain ⟨F2, rfl⟩ := lit_of (F := F1) [(75, Value.bool true)] ⟨hd 32 75 (by kernel_rfl), trivial⟩
            exact sp_plain rfl ((o_move (Value.bool true) rfl (⟨(Keep.refl _ _), rfl⟩)))
           ·intro F1 w1 k1 hf hd
            exact sp_skipD rfl rfl (hd 33 76 (by kernel_rfl)) rfl rfl
           ·intro F1 w1 k1 hf hd
            exact sp_skipD rfl rfl (hd 33 76 (by kernel_rfl)) rfl rfl
           ·intro F1 w1 k1 hf hd
            exact sp_skipD rfl rfl (hd 33 76 (by kernel_rfl)) rfl rfl
           ·intro F1 w1 k1 hf hd
            exact sp_undefD rfl rfl (hd 36 79 (by kernel_rfl)) rfl
           ·intro F1 w1 k1 hf hd
            exact sp_undefD rfl rfl (hd 36 79 (by kernel_rfl)) rfl
           ·intro F1 w1 k1 hf hd
            exact sp_undefD rfl rfl (hd 36 79 (by kernel_rfl)) rfl
           ·intro F1 w1 k1 hf hd
            exact sp_undefD rfl rfl (hd 36 79 (by kernel_rfl)) rfl
           ·intro F1 w1 k1 hf hd
            exact sp_undefD rfl rfl (hd 36 79 (by kernel_rfl)) rfl
           ·intro F1 w1 k1 hf hd
            exact sp_undefD rfl rfl (hd 36 79 (by kernel_rfl)) rfl
           ·intro F1 w1 k1 hf hd
            exact sp_undefD rfl rfl (hd 36 79 (by kernel_rfl)) rfl
           ·intro F1 w1 k1 hf hd
            exact sp_undefD rfl rfl (hd 36 79 (by kernel_rfl)) rfl
           intro F1984 w1985 k1983 hT1986 hF1987
           have s1988 := s1883.call k1983
           obtain ⟨F2, rfl⟩ := lit_of (F := F1984) [(0, l_v), (3, Value.pointer (some ⟨b1845, 0, none⟩)), (4, vI ((k : Nat) : Int)), (91, undef), (76, Value.bool true), (79, undef)] ⟨hF1987 0 (by kernel_rfl), hF1987 3 (by kernel_rfl), hF1987 4 (by kernel_rfl), hF1987 91 (by kernel_rfl), hT1986 33 76 (by kernel_rfl) (by decide), hT1986 36 79 (by kernel_rfl) (by decide), trivial⟩
           clear hT1986 hF1987
           refine wl_u rfl (wl_k rfl (wl_s (o_pickT (Value.bool true) rfl rfl (wl_nil (thenQ_n (?_))))))
           refine cw_cond true rfl rfl (fun _ => ?_) (fun h => by cases h)
           refine cw_seq (?_)
           refine cw_region (by kernel_rfl) (wl_s (o_assign (Value.bool false) rfl (wl_nil (thenQ_n (?_)))))
           refine cw_ret (blockQ_r (thenQ_r (thenQ_r (blockQ_r (thenQ_r (end_r rfl (res1 rfl rfl rfl) (?_)))))))
           have e : (refAlikeM l) = false := by first | (rw [hr0_1]; exact scan_some (by omega) (by ((repeat (first | (refine (if_pos ?_).trans ?_; solve | omega | assumption | (simp only [alx]; first | done | omega | assumption) | (simp only [*, dbs]; done)) | (refine (if_neg ?_).trans ?_; solve | omega | assumption | (simp only [alx]; first | done | omega | assumption) | (simp only [*, dbs]; done)))); rfl))) | (rw [hr0_1]; exact scan_end (by omega)) | (unfold refAlikeM; ((repeat (first | (refine (if_pos ?_).trans ?_; solve | omega | assumption | (simp only [alx]; first | done | omega | assumption) | (simp only [*, dbs]; done)) | (refine (if_neg ?_).trans ?_; solve | omega | assumption | (simp only [alx]; first | done | omega | assumption) | (simp only [*, dbs]; done)))); rfl))
           exact ⟨_, rfl, s1988.keep, by rw [e]; exact rfl⟩
         ·have hp1991 : (l[k]!).many ≠ (l[0]!).many := by first | simpa using hb1891 | (have e := hb1891; simp at e; omega)
          refine cw_draw' 45 _ _ [isV (Value.pointer (some ⟨b1874, 2, none⟩)), isV (vI ((l[k]!).threshold)), isV (Value.pointer (some ⟨b1845, 2, none⟩)), isV (vI ((l[0]!).threshold)), isV (Value.bool false), isV (Value.bool false), isV (Value.pointer (some ⟨b1874, 3, none⟩)), isV (vI ((l[k]!).many)), isV (Value.pointer (some ⟨b1845, 3, none⟩)), isV (vI ((l[0]!).many)), isV (Value.bool true), isV (Value.bool true), isV (Value.bool true), isV undef, isV undef, isV undef, isV undef, isV undef, isV undef, isV undef, isV (Value.bool true), isV (Value.bool true), isV undef, isV undef, isV undef, isV (Value.bool true), isV (Value.bool true), isV undef, isV undef, isV undef, isV undef, isV undef, isV (Value.bool true), isV (Value.bool true), isV undef, isV undef, isV undef, isV undef, isV undef, isV undef, isV undef, isV undef, isV undef, isV undef, isV undef] (by kernel_rfl) (by kernel_rfl) (by kernel_rfl) (by kernel_rfl) rfl rfl ⟨kI, kI, kI, kI, kI, kI, kI, kI, kI, kI, kI, kI, kI, kI, kI, kI, kI, kI, kI, kI, kI, kI, kI, kI, kI, kI, kI, kI, kI, kI, kI, kI, kI, kI, kI, kI, kI, kI, kI, kI, kI, kI, kI, kI, kI, trivial⟩ ⟨?_, ?_, ?_, ?_, ?_, ?_, ?_, ?_, ?_, ?_, ?_, ?_, ?_, ?_, ?_, ?_, ?_, ?_, ?_, ?_, ?_, ?_, ?_, ?_, ?_, ?_, ?_, ?_, ?_, ?_, ?_, ?_, ?_, ?_, ?_, ?_, ?_, ?_, ?_, ?_, ?_, ?_, ?_, ?_, ?_, trivial⟩ ?_
          ·intro F1 w1 k1 hf hd
           obtain ⟨F2, rfl⟩ := lit_of (F := F1) [(5, Value.pointer (some ⟨b1874, 0, none⟩))] ⟨hf 5 (by kernel_rfl), trivial⟩
           exact sp_plain rfl ((o_fieldL 2 f_53_2 rfl (⟨(Keep.refl _ _), rfl⟩)))
          ·intro F1 w1 k1 hf hd
           have k0 := (Keep.drew [] w1882).trans k1
           have bx1886 := bx1886.keep k0 (by simp)
           obtain ⟨F2, rfl⟩ := lit_of (F := F1) [(43, Value.pointer (some ⟨b1874, 2, none⟩))] ⟨hd 0 43 (by kernel_rfl), trivial⟩
           exact sp_plain rfl ((o_loadBx Try.underlying3 rfl (vI ((l[k]!).threshold)) rfl bx1886 rfl (⟨(Keep.refl _ _), rfl⟩)))
          ·intro F1 w1 k1 hf hd
           obtain ⟨F2, rfl⟩ := lit_of (F := F1) [(3, Value.pointer (some ⟨b1845, 0, none⟩))] ⟨hf 3 (by kernel_rfl), trivial⟩
           exact sp_plain rfl ((o_fieldL 2 f_53_2 rfl (⟨(Keep.refl _ _), rfl⟩)))
          ·intro F1 w1 k1 hf hd
           have k0 := (Keep.drew [] w1882).trans k1
           have bx1856 := bx1856.keep k0 (by simp)
           obtain ⟨F2, rfl⟩ := lit_of (F := F1) [(45, Value.pointer (some ⟨b1845, 2, none⟩))] ⟨hd 2 45 (by kernel_rfl), trivial⟩
           exact sp_plain rfl ((o_loadBx Try.underlying3 rfl (vI ((l[0]!).threshold)) rfl bx1856 rfl (⟨(Keep.refl _ _), rfl⟩)))
          ·intro F1 w1 k1 hf hd
           obtain ⟨F2, rfl⟩ := lit_of (F := F1) [(44, vI ((l[k]!).threshold)), (46, vI ((l[0]!).threshold))] ⟨hd 1 44 (by kernel_rfl), hd 3 46 (by kernel_rfl), trivial⟩
           refine sp_plain rfl ((o_neq .i64 ((l[k]!).threshold) ((l[0]!).threshold) rfl rfl (?_)))
           exact ⟨(Keep.refl _ _), congrArg Value.bool (hb1889)⟩
          ·intro F1 w1 k1 hf hd
           obtain ⟨F2, rfl⟩ := lit_of (F := F1) [(47, Value.bool false)] ⟨hd 4 47 (by kernel_rfl), trivial⟩
           exact sp_plain rfl ((o_move (Value.bool false) rfl (⟨(Keep.refl _ _), rfl⟩)))
          ·intro F1 w1 k1 hf hd
           obtain ⟨F2, rfl⟩ := lit_of (F := F1) [(5, Value.pointer (some ⟨b1874, 0, none⟩)), (48, Value.bool false)] ⟨hf 5 (by kernel_rfl), hd 5 48 (by kernel_rfl), trivial⟩
           exact sp_take rfl rfl ((o_fieldL 3 f_53_3 rfl (⟨(Keep.refl _ _), rfl⟩)))
          ·intro F1 w1 k1 hf hd
           have k0 := (Keep.drew [] w1882).trans k1
           have bx1886 := bx1886.keep k0 (by simp)
           obtain ⟨F2, rfl⟩ := lit_of (F := F1) [(48, Value.bool false), (49, Value.pointer (some ⟨b1874, 3, none⟩))] ⟨hd 5 48 (by kernel_rfl), hd 6 49 (by kernel_rfl), trivial⟩
           exact sp_take rfl rfl ((o_loadBx Try.underlying3 rfl (vI ((l[k]!).many)) rfl bx1886 rfl (⟨(Keep.refl _ _), rfl⟩)))
          ·intro F1 w1 k1 hf hd
           obtain ⟨F2, rfl⟩ := lit_of (F := F1) [(3, Value.pointer (some ⟨b1845, 0, none⟩)), (48, Value.bool false)] ⟨hf 3 (by kernel_rfl), hd 5 48 (by kernel_rfl), trivial⟩
           exact sp_take rfl rfl ((o_fieldL 3 f_53_3 rfl (⟨(Keep.refl _ _), rfl⟩)))
          ·intro F1 w1 k1 hf hd
           have k0 := (Keep.drew [] w1882).trans k1
           have bx1856 := bx1856.keep k0 (by simp)
           obtain ⟨F2, rfl⟩ := lit_of (F := F1) [(48, Value.bool false), (51, Value.pointer (some ⟨b1845, 3, none⟩))] ⟨hd 5 48 (by kernel_rfl), hd 8 51 (by kernel_rfl), trivial⟩
           exact sp_take rfl rfl ((o_loadBx Try.underlying3 rfl (vI ((l[0]!).many)) rfl bx1856 rfl (⟨(Keep.refl _ _), rfl⟩)))
          ·intro F1 w1 k1 hf hd
           obtain ⟨F2, rfl⟩ := lit_of (F := F1) [(48, Value.bool false), (50, vI ((l[k]!).many)), (52, vI ((l[0]!).many))] ⟨hd 5 48 (by kernel_rfl), hd 7 50 (by kernel_rfl), hd 9 52 (by kernel_rfl), trivial⟩
           refine sp_take rfl rfl ((o_neq .i64 ((l[k]!).many) ((l[0]!).many) rfl rfl (?_)))
           exact ⟨(Keep.refl _ _), congrArg Value.bool (hb1891)⟩
          ·intro F1 w1 k1 hf hd
           obtain ⟨F2, rfl⟩ := lit_of (F := F1) [(48, Value.bool false), (53, Value.bool true)] ⟨hd 5 48 (by kernel_rfl), hd 10 53 (by kernel_rfl), trivial⟩
           exact sp_plain rfl ((o_pickF (Value.bool true) rfl rfl (⟨(Keep.refl _ _), rfl⟩)))
          ·intro F1 w1 k1 hf hd
           obtain ⟨F2, rfl⟩ := lit_of (F := F1) [(54, Value.bool true)] ⟨hd 11 54 (by kernel_rfl), trivial⟩
           exact sp_plain rfl ((o_move (Value.bool true) rfl (⟨(Keep.refl _ _), rfl⟩)))
          ·intro F1 w1 k1 hf hd
           exact sp_skipD rfl rfl (hd 12 55 (by kernel_rfl)) rfl rfl
          ·intro F1 w1 k1 hf hd
           exact sp_skipD rfl rfl (hd 12 55 (by kernel_rfl)) rfl rfl
          ·intro F1 w1 k1 hf hd
           exact sp_skipD rfl rfl (hd 12 55 (by kernel_rfl)) rfl rfl
          ·intro F1 w1 k1 hf hd
           exact sp_skipD rfl rfl (hd 12 55 (by kernel_rfl)) rfl rfl
          ·intro F1 w1 k1 hf hd
           exact sp_skipD rfl rfl (hd 12 55 (by kernel_rfl)) rfl rfl
          ·intro F1 w1 k1 hf hd
           exact sp_skipD rfl rfl (hd 12 55 (by kernel_rfl)) rfl rfl
          ·intro F1 w1 k1 hf hd
           exact sp_skipD rfl rfl (hd 12 55 (by kernel_rfl)) rfl rfl
          ·intro F1 w1 k1 hf hd
           obtain ⟨F2, rfl⟩ := lit_of (F := F1) [(55, Value.bool true), (62, undef)] ⟨hd 12 55 (by kernel_rfl), hd 19 62 (by kernel_rfl), trivial⟩
           exact sp_plain rfl ((o_pickT (Value.bool true) rfl rfl (⟨(Keep.refl _ _), rfl⟩)))
          ·intro F1 w1 k1 hf hd
           obtain ⟨F2, rfl⟩ := lit_of (F := F1) [(63, Value.bool true)] ⟨hd 20 63 (by kernel_rfl), trivial⟩
           exact sp_plain rfl ((o_move (Value.bool true) rfl (⟨(Keep.refl _ _), rfl⟩)))
          ·intro F1 w1 k1 hf hd
           exact sp_skipD rfl rfl (hd 21 64 (by kernel_rfl)) rfl rfl
          ·intro F1 w1 k1 hf hd
           exact sp_skipD rfl rfl (hd 21 64 (by kernel_rfl)) rfl rfl
          ·intro F1 w1 k1 hf hd
           exact sp_skipD rfl rfl (hd 21 64 (by kernel_rfl)) rfl rfl
          ·intro F1 w1 k1 hf hd
           obtain ⟨F2, rfl⟩ := lit_of (F := F1) [(64, Value.bool true), (67, undef)] ⟨hd 21 64 (by kernel_rfl), hd 24 67 (by kernel_rfl), trivial⟩
           exact sp_plain rfl ((o_pickT (Value.bool true) rfl rfl (⟨(Keep.refl _ _), rfl⟩)))
          ·intro F1 w1 k1 hf hd
           obtain ⟨F2, rfl⟩ := lit_of (F := F1) [(68, Value.bool true)] ⟨hd 25 68 (by kernel_rfl), trivial⟩
           exact sp_plain rfl ((o_move (Value.bool true) rfl (⟨(Keep.refl _ _), rfl⟩)))
          ·intro F1 w1 k1 hf hd
           exact sp_skipD rfl rfl (hd 26 69 (by kernel_rfl)) rfl rfl
          ·intro F1 w1 k1 hf hd
           exact sp_skipD rfl rfl (hd 26 69 (by kernel_rfl)) rfl rfl
          ·intro F1 w1 k1 hf hd
           exact sp_skipD rfl rfl (hd 26 69 (by kernel_rfl)) rfl rfl
          ·intro F1 w1 k1 hf hd
           exact sp_skipD rfl rfl (hd 26 69 (by kernel_rfl)) rfl rfl
          ·intro F1 w1 k1 hf hd
           exact sp_skipD rfl rfl (hd 26 69 (by kernel_rfl)) rfl rfl
          ·intro F1 w1 k1 hf hd
           obtain ⟨F2, rfl⟩ := lit_of (F := F1) [(69, Value.bool true), (74, undef)] ⟨hd 26 69 (by kernel_rfl), hd 31 74 (by kernel_rfl), trivial⟩
           exact sp_plain rfl ((o_pickT (Value.bool true) rfl rfl (⟨(Keep.refl _ _), rfl⟩)))
          ·intro F1 w1 k1 hf hd
           obtain ⟨F2, rfl⟩ := lit_of (F := F1) [(75, Value.bool true)] ⟨hd 32 75 (by kernel_rfl), trivial⟩
           exact sp_plain rfl ((o_move (Value.bool true) rfl (⟨(Keep.refl _ _), rfl⟩)))
          ·intro F1 w1 k1 hf hd
           exact sp_skipD rfl rfl (hd 33 76 (by kernel_rfl)) rfl rfl
          ·intro F1 w1 k1 hf hd
           exact sp_skipD rfl rfl (hd 33 76 (by kernel_rfl)) rfl rfl
          ·intro F1 w1 k1 hf hd
           exact sp_skipD rfl rfl (hd 33 76 (by kernel_rfl)) rfl rfl
          ·intro F1 w1 k1 hf hd
           exact sp_undefD rfl rfl (hd 36 79 (by kernel_rfl)) rfl
          ·intro F1 w1 k1 hf hd
           exact sp_undefD rfl rfl (hd 36 79 (by kernel_rfl)) rfl
          ·intro F1 w1 k1 hf hd
           exact sp_undefD rfl rfl (hd 36 79 (by kernel_rfl)) rfl
          ·intro F1 w1 k1 hf hd
           exact sp_undefD rfl rfl (hd 36 79 (by kernel_rfl)) rfl
          ·intro F1 w1 k1 hf hd
           exact sp_undefD rfl rfl (hd 36 79 (by kernel_rfl)) rfl
          ·intro F1 w1 k1 hf hd
           exact sp_undefD rfl rfl (hd 36 79 (by kernel_rfl)) rfl
          ·intro F1 w1 k1 hf hd
           exact sp_undefD rfl rfl (hd 36 79 (by kernel_rfl)) rfl
          ·intro F1 w1 k1 hf hd
           exact sp_undefD rfl rfl (hd 36 79 (by kernel_rfl)) rfl
          intro F1993 w1994 k1992 hT1995 hF1996
          have s1997 := s1883.call k1992
          obtain ⟨F2, rfl⟩ := lit_of (F := F1993) [(0, l_v), (3, Value.pointer (some ⟨b1845, 0, none⟩)), (4, vI ((k : Nat) : Int)), (91, undef), (76, Value.bool true), (79, undef)] ⟨hF1996 0 (by kernel_rfl), hF1996 3 (by kernel_rfl), hF1996 4 (by kernel_rfl), hF1996 91 (by kernel_rfl), hT1995 33 76 (by kernel_rfl) (by decide), hT1995 36 79 (by kernel_rfl) (by decide), trivial⟩
          clear hT1995 hF1996
          refine wl_u rfl (wl_k rfl (wl_s (o_pickT (Value.bool true) rfl rfl (wl_nil (thenQ_n (?_))))))
          refine cw_cond true rfl rfl (fun _ => ?_) (fun h => by cases h)
          refine cw_seq (?_)
          refine cw_region (by kernel_rfl) (wl_s (o_assign (Value.bool false) rfl (wl_nil (thenQ_n (?_)))))
          refine cw_ret (blockQ_r (thenQ_r (thenQ_r (blockQ_r (thenQ_r (end_r rfl (res1 rfl rfl rfl) (?_)))))))
          have e : (refAlikeM l) = false := by first | (rw [hr0_1]; exact scan_some (by omega) (by ((repeat (first | (refine (if_pos ?_).trans ?_; solve | omega | assumption | (simp only [alx]; first | done | omega | assumption) | (simp only [*, dbs]; done)) | (refine (if_neg ?_).trans ?_; solve | omega | assumption | (simp only [alx]; first | done | omega | assumption) | (simp only [*, dbs]; done)))); rfl))) | (rw [hr0_1]; exact scan_end (by omega)) | (unfold refAlikeM; ((repeat (first | (refine (if_pos ?_).trans ?_; solve | omega | assumption | (simp only [alx]; first | done | omega | assumption) | (simp only [*, dbs]; done)) | (refine (if_neg ?_).trans ?_; solve | omega | assumption | (simp only [alx]; first | done | omega | assumption) | (simp only [*, dbs]; done)))); rfl))
          exact ⟨_, rfl, s1997.keep, by rw [e]; exact rfl⟩
        ·have hp2000 : (l[k]!).threshold ≠ (l[0]!).threshold := by first | simpa using hb1889 | (have e := hb1889; simp at e; omega)
         refine cw_draw' 45 _ _ [isV (Value.pointer (some ⟨b1874, 2, none⟩)), isV (vI ((l[k]!).threshold)), isV (Value.pointer (some ⟨b1845, 2, none⟩)), isV (vI ((l[0]!).threshold)), isV (Value.bool true), isV (Value.bool true), isV undef, isV undef, isV undef, isV undef, isV undef, isV (Value.bool true), isV (Value.bool true), isV undef, isV undef, isV undef, isV undef, isV undef, isV undef, isV undef, isV (Value.bool true), isV (Value.bool true), isV undef, isV undef, isV undef, isV (Value.bool true), isV (Value.bool true), isV undef, isV undef, isV undef, isV undef, isV undef, isV (Value.bool true), isV (Value.bool true), isV undef, isV undef, isV undef, isV undef, isV undef, isV undef, isV undef, isV undef, isV undef, isV undef, isV undef] (by kernel_rfl) (by kernel_rfl) (by kernel_rfl) (by kernel_rfl) rfl rfl ⟨kI, kI, kI, kI, kI, kI, kI, kI, kI, kI, kI, kI, kI, kI, kI, kI, kI, kI, kI, kI, kI, kI, kI, kI, kI, kI, kI, kI, kI, kI, kI, kI, kI, kI, kI, kI, kI, kI, kI, kI, kI, kI, kI, kI, kI, trivial⟩ ⟨?_, ?_, ?_, ?_, ?_, ?_, ?_, ?_, ?_, ?_, ?_, ?_, ?_, ?_, ?_, ?_, ?_, ?_, ?_, ?_, ?_, ?_, ?_, ?_, ?_, ?_, ?_, ?_, ?_, ?_, ?_, ?_, ?_, ?_, ?_, ?_, ?_, ?_, ?_, ?_, ?_, ?_, ?_, ?_, ?_, trivial⟩ ?_
         ·intro F1 w1 k1 hf hd
          obtain ⟨F2, rfl⟩ := lit_of (F := F1) [(5, Value.pointer (some ⟨b1874, 0, none⟩))] ⟨hf 5 (by kernel_rfl), trivial⟩
          exact sp_plain rfl ((o_fieldL 2 f_53_2 rfl (⟨(Keep.refl _ _), rfl⟩)))
         ·intro F1 w1 k1 hf hd
          have k0 := (Keep.drew [] w1882).trans k1
          have bx1886 := bx1886.keep k0 (by simp)
          obtain ⟨F2, rfl⟩ := lit_of (F := F1) [(43, Value.pointer (some ⟨b1874, 2, none⟩))] ⟨hd 0 43 (by kernel_rfl), trivial⟩
          exact sp_plain rfl ((o_loadBx Try.underlying3 rfl (vI ((l[k]!).threshold)) rfl bx1886 rfl (⟨(Keep.refl _ _), rfl⟩)))
         ·intro F1 w1 k1 hf hd
          obtain ⟨F2, rfl⟩ := lit_of (F := F1) [(3, Value.pointer (some ⟨b1845, 0, none⟩))] ⟨hf 3 (by kernel_rfl), trivial⟩
          exact sp_plain rfl ((o_fieldL 2 f_53_2 rfl (⟨(Keep.refl _ _), rfl⟩)))
         ·intro F1 w1 k1 hf hd
          have k0 := (Keep.drew [] w1882).trans k1
          have bx1856 := bx1856.keep k0 (by simp)
          obtain ⟨F2, rfl⟩ := lit_of (F := F1) [(45, Value.pointer (some ⟨b1845, 2, none⟩))] ⟨hd 2 45 (by kernel_rfl), trivial⟩
          exact sp_plain rfl ((o_loadBx Try.underlying3 rfl (vI ((l[0]!).threshold)) rfl bx1856 rfl (⟨(Keep.refl _ _), rfl⟩)))
         ·intro F1 w1 k1 hf hd
          obtain ⟨F2, rfl⟩ := lit_of (F := F1) [(44, vI ((l[k]!).threshold)), (46, vI ((l[0]!).threshold))] ⟨hd 1 44 (by kernel_rfl), hd 3 46 (by kernel_rfl), trivial⟩
          refine sp_plain rfl ((o_neq .i64 ((l[k]!).threshold) ((l[0]!).threshold) rfl rfl (?_)))
          exact ⟨(Keep.refl _ _), congrArg Value.bool (hb1889)⟩
         ·intro F1 w1 k1 hf hd
          obtain ⟨F2, rfl⟩ := lit_of (F := F1) [(47, Value.bool true)] ⟨hd 4 47 (by kernel_rfl), trivial⟩
          exact sp_plain rfl ((o_move (Value.bool true) rfl (⟨(Keep.refl _ _), rfl⟩)))
         ·intro F1 w1 k1 hf hd
          exact sp_skipD rfl rfl (hd 5 48 (by kernel_rfl)) rfl rfl
         ·intro F1 w1 k1 hf hd
          exact sp_skipD rfl rfl (hd 5 48 (by kernel_rfl)) rfl rfl
         ·intro F1 w1 k1 hf hd
          exact sp_skipD rfl rfl (hd 5 48 (by kernel_rfl)) rfl rfl
         ·intro F1 w1 k1 hf hd
          exact sp_skipD rfl rfl (hd 5 48 (by kernel_rfl)) rfl rfl
         ·intro F1 w1 k1 hf hd
          exact sp_skipD rfl rfl (hd 5 48 (by kernel_rfl)) rfl rfl
         ·intro F1 w1 k1 hf hd
          obtain ⟨F2, rfl⟩ := lit_of (F := F1) [(48, Value.bool true), (53, undef)] ⟨hd 5 48 (by kernel_rfl), hd 10 53 (by kernel_rfl), trivial⟩
          exact sp_plain rfl ((o_pickT (Value.bool true) rfl rfl (⟨(Keep.refl _ _), rfl⟩)))
         ·intro F1 w1 k1 hf hd
          obtain ⟨F2, rfl⟩ := lit_of (F := F1) [(54, Value.bool true)] ⟨hd 11 54 (by kernel_rfl), trivial⟩
          exact sp_plain rfl ((o_move (Value.bool true) rfl (⟨(Keep.refl _ _), rfl⟩)))
         ·intro F1 w1 k1 hf hd
          exact sp_skipD rfl rfl (hd 12 55 (by kernel_rfl)) rfl rfl
         ·intro F1 w1 k1 hf hd
          exact sp_skipD rfl rfl (hd 12 55 (by kernel_rfl)) rfl rfl
         ·intro F1 w1 k1 hf hd
          exact sp_skipD rfl rfl (hd 12 55 (by kernel_rfl)) rfl rfl
         ·intro F1 w1 k1 hf hd
          exact sp_skipD rfl rfl (hd 12 55 (by kernel_rfl)) rfl rfl
         ·intro F1 w1 k1 hf hd
          exact sp_skipD rfl rfl (hd 12 55 (by kernel_rfl)) rfl rfl
         ·intro F1 w1 k1 hf hd
          exact sp_skipD rfl rfl (hd 12 55 (by kernel_rfl)) rfl rfl
         ·intro F1 w1 k1 hf hd
          exact sp_skipD rfl rfl (hd 12 55 (by kernel_rfl)) rfl rfl
         ·intro F1 w1 k1 hf hd
          obtain ⟨F2, rfl⟩ := lit_of (F := F1) [(55, Value.bool true), (62, undef)] ⟨hd 12 55 (by kernel_rfl), hd 19 62 (by kernel_rfl), trivial⟩
          exact sp_plain rfl ((o_pickT (Value.bool true) rfl rfl (⟨(Keep.refl _ _), rfl⟩)))
         ·intro F1 w1 k1 hf hd
          obtain ⟨F2, rfl⟩ := lit_of (F := F1) [(63, Value.bool true)] ⟨hd 20 63 (by kernel_rfl), trivial⟩
          exact sp_plain rfl ((o_move (Value.bool true) rfl (⟨(Keep.refl _ _), rfl⟩)))
         ·intro F1 w1 k1 hf hd
          exact sp_skipD rfl rfl (hd 21 64 (by kernel_rfl)) rfl rfl
         ·intro F1 w1 k1 hf hd
          exact sp_skipD rfl rfl (hd 21 64 (by kernel_rfl)) rfl rfl
         ·intro F1 w1 k1 hf hd
          exact sp_skipD rfl rfl (hd 21 64 (by kernel_rfl)) rfl rfl
         ·intro F1 w1 k1 hf hd
          obtain ⟨F2, rfl⟩ := lit_of (F := F1) [(64, Value.bool true), (67, undef)] ⟨hd 21 64 (by kernel_rfl), hd 24 67 (by kernel_rfl), trivial⟩
          exact sp_plain rfl ((o_pickT (Value.bool true) rfl rfl (⟨(Keep.refl _ _), rfl⟩)))
         ·intro F1 w1 k1 hf hd
          obtain ⟨F2, rfl⟩ := lit_of (F := F1) [(68, Value.bool true)] ⟨hd 25 68 (by kernel_rfl), trivial⟩
          exact sp_plain rfl ((o_move (Value.bool true) rfl (⟨(Keep.refl _ _), rfl⟩)))
         ·intro F1 w1 k1 hf hd
          exact sp_skipD rfl rfl (hd 26 69 (by kernel_rfl)) rfl rfl
         ·intro F1 w1 k1 hf hd
          exact sp_skipD rfl rfl (hd 26 69 (by kernel_rfl)) rfl rfl
         ·intro F1 w1 k1 hf hd
          exact sp_skipD rfl rfl (hd 26 69 (by kernel_rfl)) rfl rfl
         ·intro F1 w1 k1 hf hd
          exact sp_skipD rfl rfl (hd 26 69 (by kernel_rfl)) rfl rfl
         ·intro F1 w1 k1 hf hd
          exact sp_skipD rfl rfl (hd 26 69 (by kernel_rfl)) rfl rfl
         ·intro F1 w1 k1 hf hd
          obtain ⟨F2, rfl⟩ := lit_of (F := F1) [(69, Value.bool true), (74, undef)] ⟨hd 26 69 (by kernel_rfl), hd 31 74 (by kernel_rfl), trivial⟩
          exact sp_plain rfl ((o_pickT (Value.bool true) rfl rfl (⟨(Keep.refl _ _), rfl⟩)))
         ·intro F1 w1 k1 hf hd
          obtain ⟨F2, rfl⟩ := lit_of (F := F1) [(75, Value.bool true)] ⟨hd 32 75 (by kernel_rfl), trivial⟩
          exact sp_plain rfl ((o_move (Value.bool true) rfl (⟨(Keep.refl _ _), rfl⟩)))
         ·intro F1 w1 k1 hf hd
          exact sp_skipD rfl rfl (hd 33 76 (by kernel_rfl)) rfl rfl
         ·intro F1 w1 k1 hf hd
          exact sp_skipD rfl rfl (hd 33 76 (by kernel_rfl)) rfl rfl
         ·intro F1 w1 k1 hf hd
          exact sp_skipD rfl rfl (hd 33 76 (by kernel_rfl)) rfl rfl
         ·intro F1 w1 k1 hf hd
          exact sp_undefD rfl rfl (hd 36 79 (by kernel_rfl)) rfl
         ·intro F1 w1 k1 hf hd
          exact sp_undefD rfl rfl (hd 36 79 (by kernel_rfl)) rfl
         ·intro F1 w1 k1 hf hd
          exact sp_undefD rfl rfl (hd 36 79 (by kernel_rfl)) rfl
         ·intro F1 w1 k1 hf hd
          exact sp_undefD rfl rfl (hd 36 79 (by kernel_rfl)) rfl
         ·intro F1 w1 k1 hf hd
          exact sp_undefD rfl rfl (hd 36 79 (by kernel_rfl)) rfl
         ·intro F1 w1 k1 hf hd
          exact sp_undefD rfl rfl (hd 36 79 (by kernel_rfl)) rfl
         ·intro F1 w1 k1 hf hd
          exact sp_undefD rfl rfl (hd 36 79 (by kernel_rfl)) rfl
         ·intro F1 w1 k1 hf hd
          exact sp_undefD rfl rfl (hd 36 79 (by kernel_rfl)) rfl
         intro F2002 w2003 k2001 hT2004 hF2005
         have s2006 := s1883.call k2001
         obtain ⟨F2, rfl⟩ := lit_of (F := F2002) [(0, l_v), (3, Value.pointer (some ⟨b1845, 0, none⟩)), (4, vI ((k : Nat) : Int)), (91, undef), (76, Value.bool true), (79, undef)] ⟨hF2005 0 (by kernel_rfl), hF2005 3 (by kernel_rfl), hF2005 4 (by kernel_rfl), hF2005 91 (by kernel_rfl), hT2004 33 76 (by kernel_rfl) (by decide), hT2004 36 79 (by kernel_rfl) (by decide), trivial⟩
         clear hT2004 hF2005
         refine wl_u rfl (wl_k rfl (wl_s (o_pickT (Value.bool true) rfl rfl (wl_nil (thenQ_n (?_))))))
         refine cw_cond true rfl rfl (fun _ => ?_) (fun h => by cases h)
         refine cw_seq (?_)
         refine cw_region (by kernel_rfl) (wl_s (o_assign (Value.bool false) rfl (wl_nil (thenQ_n (?_)))))
         refine cw_ret (blockQ_r (thenQ_r (thenQ_r (blockQ_r (thenQ_r (end_r rfl (res1 rfl rfl rfl) (?_)))))))
         have e : (refAlikeM l) = false := by first | (rw [hr0_1]; exact scan_some (by omega) (by ((repeat (first | (refine (if_pos ?_).trans ?_; solve | omega | assumption | (simp only [alx]; first | done | omega | assumption) | (simp only [*, dbs]; done)) | (refine (if_neg ?_).trans ?_; solve | omega | assumption | (simp only [alx]; first | done | omega | assumption) | (simp only [*, dbs]; done)))); rfl))) | (rw [hr0_1]; exact scan_end (by omega)) | (unfold refAlikeM; ((repeat (first | (refine (if_pos ?_).trans ?_; solve | omega | assumption | (simp only [alx]; first | done | omega | assumption) | (simp only [*, dbs]; done)) | (refine (if_neg ?_).trans ?_; solve | omega | assumption | (simp only [alx]; first | done | omega | assumption) | (simp only [*, dbs]; done)))); rfl))
         exact ⟨_, rfl, s2006.keep, by rw [e]; exact rfl⟩
       ·have hp2009 : (l.length : Int) ≤ ((k : Nat) : Int) := by first | simpa using hc1868 | (have e := hc1868; simp at e; omega)
        refine cw_exit (thenQ_x (thenQ_x (blockQ_x (thenQ_n (?_)))))
        refine cw_seq (?_)
        refine cw_region (by kernel_rfl) (wl_s (o_assign (Value.bool true) rfl (wl_nil (thenQ_n (?_)))))
        refine cw_ret (end_r rfl (res1 rfl rfl rfl) (?_))
        have e : (refAlikeM l) = true := by first | (rw [hr0_1]; exact scan_some (by omega) (by ((repeat (first | (refine (if_pos ?_).trans ?_; solve | omega | assumption | (simp only [alx]; first | done | omega | assumption) | (simp only [*, dbs]; done)) | (refine (if_neg ?_).trans ?_; solve | omega | assumption | (simp only [alx]; first | done | omega | assumption) | (simp only [*, dbs]; done)))); rfl))) | (rw [hr0_1]; exact scan_end (by omega)) | (unfold refAlikeM; ((repeat (first | (refine (if_pos ?_).trans ?_; solve | omega | assumption | (simp only [alx]; first | done | omega | assumption) | (simp only [*, dbs]; done)) | (refine (if_neg ?_).trans ?_; solve | omega | assumption | (simp only [alx]; first | done | omega | assumption) | (simp only [*, dbs]; done)))); rfl))
        exact ⟨_, rfl, sl0.keep, by rw [e]; exact rfl⟩
    ·have hp2010 : (8 : Int) < (l[0]!).many := by first | simpa using hb1863 | (have e := hb1863; simp at e; omega)
     refine wl_k rfl (wl_k rfl (wl_k rfl (wl_k rfl (wl_s (o_pickT (Value.bool true) rfl rfl (wl_nil (thenQ_n (?_))))))))
     refine cw_cond true rfl rfl (fun _ => ?_) (fun h => by cases h)
     refine cw_seq (?_)
     refine cw_region (by kernel_rfl) (wl_s (o_assign (Value.bool false) rfl (wl_nil (thenQ_n (?_)))))
     refine cw_ret (thenQ_r (end_r rfl (res1 rfl rfl rfl) (?_)))
     have e : (refAlikeM l) = false := by first | (rw [hr0_1]; exact scan_some (by omega) (by ((repeat (first | (refine (if_pos ?_).trans ?_; solve | omega | assumption | (simp only [alx]; first | done | omega | assumption) | (simp only [*, dbs]; done)) | (refine (if_neg ?_).trans ?_; solve | omega | assumption | (simp only [alx]; first | done | omega | assumption) | (simp only [*, dbs]; done)))); rfl))) | (rw [hr0_1]; exact scan_end (by omega)) | (unfold refAlikeM; ((repeat (first | (refine (if_pos ?_).trans ?_; solve | omega | assumption | (simp only [alx]; first | done | omega | assumption) | (simp only [*, dbs]; done)) | (refine (if_neg ?_).trans ?_; solve | omega | assumption | (simp only [alx]; first | done | omega | assumption) | (simp only [*, dbs]; done)))); rfl))
     exact ⟨_, rfl, s1853.keep, by rw [e]; exact rfl⟩
   ·have hp2011 : (l[0]!).many < (l[0]!).threshold := by first | simpa using hb1861 | (have e := hb1861; simp at e; omega)
    refine wl_k rfl (wl_k rfl (wl_k rfl (wl_s (o_pickT (Value.bool true) rfl rfl (wl_s (o_move (Value.bool true) rfl (wl_k rfl (wl_k rfl (wl_k rfl (wl_k rfl (wl_s (o_pickT (Value.bool true) rfl rfl (wl_nil (thenQ_n (?_)))))))))))))))
    refine cw_cond true rfl rfl (fun _ => ?_) (fun h => by cases h)
    refine cw_seq (?_)
    refine cw_region (by kernel_rfl) (wl_s (o_assign (Value.bool false) rfl (wl_nil (thenQ_n (?_)))))
    refine cw_ret (thenQ_r (end_r rfl (res1 rfl rfl rfl) (?_)))
    have e : (refAlikeM l) = false := by first | (rw [hr0_1]; exact scan_some (by omega) (by ((repeat (first | (refine (if_pos ?_).trans ?_; solve | omega | assumption | (simp only [alx]; first | done | omega | assumption) | (simp only [*, dbs]; done)) | (refine (if_neg ?_).trans ?_; solve | omega | assumption | (simp only [alx]; first | done | omega | assumption) | (simp only [*, dbs]; done)))); rfl))) | (rw [hr0_1]; exact scan_end (by omega)) | (unfold refAlikeM; ((repeat (first | (refine (if_pos ?_).trans ?_; solve | omega | assumption | (simp only [alx]; first | done | omega | assumption) | (simp only [*, dbs]; done)) | (refine (if_neg ?_).trans ?_; solve | omega | assumption | (simp only [alx]; first | done | omega | assumption) | (simp only [*, dbs]; done)))); rfl))
    exact ⟨_, rfl, s1853.keep, by rw [e]; exact rfl⟩
  ·have hp2012 : (l[0]!).threshold < (1 : Int) := by first | simpa using hb1859 | (have e := hb1859; simp at e; omega)
   refine wl_k rfl (wl_k rfl (wl_k rfl (wl_k rfl (wl_k rfl (wl_s (o_pickT (Value.bool true) rfl rfl (wl_s (o_move (Value.bool true) rfl (wl_k rfl (wl_k rfl (wl_k rfl (wl_s (o_pickT (Value.bool true) rfl rfl (wl_s (o_move (Value.bool true) rfl (wl_k rfl (wl_k rfl (wl_k rfl (wl_k rfl (wl_s (o_pickT (Value.bool true) rfl rfl (wl_nil (thenQ_n (?_))))))))))))))))))))))))
   refine cw_cond true rfl rfl (fun _ => ?_) (fun h => by cases h)
   refine cw_seq (?_)
   refine cw_region (by kernel_rfl) (wl_s (o_assign (Value.bool false) rfl (wl_nil (thenQ_n (?_)))))
   refine cw_ret (thenQ_r (end_r rfl (res1 rfl rfl rfl) (?_)))
   have e : (refAlikeM l) = false := by first | (rw [hr0_1]; exact scan_some (by omega) (by ((repeat (first | (refine (if_pos ?_).trans ?_; solve | omega | assumption | (simp only [alx]; first | done | omega | assumption) | (simp only [*, dbs]; done)) | (refine (if_neg ?_).trans ?_; solve | omega | assumption | (simp only [alx]; first | done | omega | assumption) | (simp only [*, dbs]; done)))); rfl))) | (rw [hr0_1]; exact scan_end (by omega)) | (unfold refAlikeM; ((repeat (first | (refine (if_pos ?_).trans ?_; solve | omega | assumption | (simp only [alx]; first | done | omega | assumption) | (simp only [*, dbs]; done)) | (refine (if_neg ?_).trans ?_; solve | omega | assumption | (simp only [alx]; first | done | omega | assumption) | (simp only [*, dbs]; done)))); rfl))
   exact ⟨_, rfl, s1853.keep, by rw [e]; exact rfl⟩
set_option maxHeartbeats 4000000 in
set_option maxRecDepth 100000 in
theorem c_refCheck8 {O : List Nat} (l_v : Value) (l : List Share) (w : World) (h_l : RdL Enc.share w O l_v l) (hO : ∀ b ∈ O, b < w.heap.size) : CallsK Try.prog 33 [l_v] w (fun v _ => v = vI (refCheckM l)) :=  by
 have lim_l := h_l.len_le
 have h_l : RdL Enc.share w ([] ++ O) l_v l := h_l
 have s0 : St w O w [] := St.start hO
 refine callsK_of 39 Try.func33 rfl rfl (of_decide_eq_true rfl) (fun F0 => ?_)
 refine cw_seq (?_)
 refine cw_region (by kernel_rfl) (wl_s (o_assign (vI (0 : Int)) rfl (wl_nil (thenQ_n (?_)))))
 refine cw_seq (?_)
 refine cw_seq (?_)
 refine cw_region (by kernel_rfl) (wl_s (o_move (l_v) rfl (wl_s (o_callK (vs := [l_v]) enter_56 (c_refAlike (O := [] ++ O) l_v l w h_l s0.lt) rfl s0 fun v2013 w2014 s2015 m2016 k2017 r2018 => (?_)))))
 obtain rfl := r2018
 have h_l := h_l.mv m2016
 refine wl_s (o_not (refAlikeM l) rfl (wl_nil (thenQ_n (?_))))
 refine cw_cond (!(refAlikeM l)) rfl rfl (fun hc2019 => ?_) (fun hc2019 => ?_)
 ·have hp2020 : (refAlikeM l) = false := by first | simpa using hc2019 | (have e := hc2019; simp at e; omega)
  refine cw_seq (?_)
  refine cw_region (by kernel_rfl) (wl_s (o_assign (vI (80 : Int)) rfl (wl_nil (thenQ_n (?_)))))
  refine cw_ret (thenQ_r (end_r rfl (res1 rfl rfl rfl) (?_)))
  have e : (refCheckM l) = (80 : Int) := by first | (rw [hr0_1]; exact scan_some (by omega) (by ((repeat (first | (refine (if_pos ?_).trans ?_; solve | omega | assumption | (simp only [alx]; first | done | omega | assumption) | (simp only [*, dbs]; done)) | (refine (if_neg ?_).trans ?_; solve | omega | assumption | (simp only [alx]; first | done | omega | assumption) | (simp only [*, dbs]; done)))); rfl))) | (rw [hr0_1]; exact scan_end (by omega)) | (unfold refCheckM; ((repeat (first | (refine (if_pos ?_).trans ?_; solve | omega | assumption | (simp only [alx]; first | done | omega | assumption) | (simp only [*, dbs]; done)) | (refine (if_neg ?_).trans ?_; solve | omega | assumption | (simp only [alx]; first | done | omega | assumption) | (simp only [*, dbs]; done)))); rfl))
  exact ⟨_, rfl, s2015.keep, by rw [e]; exact rfl⟩
 ·have hp2021 : (refAlikeM l) = true := by first | simpa using hc2019 | (have e := hc2019; simp at e; omega)
  refine cw_skip (thenQ_n (?_))
  refine cw_seq (?_)
  refine cw_seq (?_)
  refine cw_region (by kernel_rfl) (wl_s (o_assign (vI (0 : Int)) rfl (wl_nil (thenQ_n (?_)))))
  refine cw_block (?_)
  refine cw_loop (fun mI FI wI => ∃ (k : Nat) (B : List Nat), k ≤ l.length ∧ refCheckM l = scan (fun k => if ep1 l k then some 81 else none) 0 k (l.length - k) ∧ mI = l.length - k ∧ (∃ F1, FI = upds F1 [(0, l_v), (3, vI ((k : Nat) : Int)), (39, undef)]) ∧ St w O wI B ∧ RdL Enc.share wI (B ++ O) (l_v) (l)) (l.length - (0)) ?_ ?_
  ·exact ⟨(0), [], (by first | omega | (simp; done) | (simp; omega) | simp_all), (by unfold refCheckM; ((repeat (first | (refine (if_pos ?_).trans ?_; solve | omega | assumption | (simp only [alx]; first | done | omega | assumption) | (simp only [*, dbs]; done)) | (refine (if_neg ?_).trans ?_; solve | omega | assumption | (simp only [alx]; first | done | omega | assumption) | (simp only [*, dbs]; done)))); rfl)), rfl, ⟨_, upds_self _ ⟨rfl, (by first | rfl | exact congrArg (Value.int _) (by first | omega | (simp))), rfl, trivial⟩⟩, s2015, h_l⟩
  ·intro ml0 F wl0 hI
   clear h_l
   obtain ⟨k, Bl0, hr0_0, hr0_1, hm0, ⟨Fl0, rfl⟩, sl0, h_l⟩ := hI
   refine cw_seq (?_)
   refine cw_seq (?_)
   refine cw_region (by kernel_rfl) (wl_s (o_move (vI ((k : Nat) : Int)) rfl (wl_s (o_move (l_v) rfl (wl_s (o_lenR Try.underlying38 rfl h_l (wl_s (o_lss .i64 ((k : Nat) : Int) (l.length : Int) rfl rfl (wl_nil (thenQ_n (?_)))))))))))
   refine cw_cond (decide (((k : Nat) : Int) < (l.length : Int))) rfl rfl (fun hc2022 => ?_) (fun hc2022 => ?_)
   ·have hp2023 : ((k : Nat) : Int) < (l.length : Int) := by first | simpa using hc2022 | (have e := hc2022; simp at e; omega)
    refine cw_skip (thenQ_n (?_))
    refine cw_seq (?_)
    refine cw_block (?_)
    refine cw_seq (?_)
    cases hb2024 : (((l[k]!).epoch) != ((l[0]!).epoch))
    ·have hp2025 : (l[k]!).epoch = (l[0]!).epoch := by first | simpa using hb2024 | (have e := hb2024; simp at e; omega)
     cases hb2026 : (decide ((l[k]!).epoch < (0 : Int)))
     ·have hp2027 : (0 : Int) ≤ (l[k]!).epoch := by first | simpa using hb2026 | (have e := hb2026; simp at e; omega)
      refine cw_draw' 21 _ _ [fun (vT : Value) (wT : World) => RdL Enc.share wT (Bl0 ++ O) vT (l), isV (vI ((k : Nat) : Int)), fun (vT : Value) (wT : World) => ∃ aT, vT = .pointer (some aT) ∧ PT Enc.share wT (Bl0 ++ O) (.pointer (some aT)) (l[k]!), fun (vT : Value) (wT : World) => ∃ aT, vT = .pointer (some aT) ∧ PT Enc.int wT (Bl0 ++ O) (.pointer (some aT)) ((l[k]!).epoch), isV (vI ((l[k]!).epoch)), fun (vT : Value) (wT : World) => RdL Enc.share wT (Bl0 ++ O) vT (l), fun (vT : Value) (wT : World) => ∃ aT, vT = .pointer (some aT) ∧ PT Enc.share wT (Bl0 ++ O) (.pointer (some aT)) (l[0]!), fun (vT : Value) (wT : World) => ∃ aT, vT = .pointer (some aT) ∧ PT Enc.int wT (Bl0 ++ O) (.pointer (some aT)) ((l[0]!).epoch), isV (vI ((l[0]!).epoch)), isV (Value.bool false), isV (Value.bool false), fun (vT : Value) (wT : World) => RdL Enc.share wT (Bl0 ++ O) vT (l), isV (vI ((k : Nat) : Int)), fun (vT : Value) (wT : World) => ∃ aT, vT = .pointer (some aT) ∧ PT Enc.share wT (Bl0 ++ O) (.pointer (some aT)) (l[k]!), fun (vT : Value) (wT : World) => ∃ aT, vT = .pointer (some aT) ∧ PT Enc.int wT (Bl0 ++ O) (.pointer (some aT)) ((l[k]!).epoch), isV (vI ((l[k]!).epoch)), isV (Value.bool false), isV (Value.bool false), isV (Value.bool false), fun (vT : Value) (wT : World) => RdL Enc.share wT (Bl0 ++ O) vT (l), isV (vI ((k : Nat) : Int))] (by kernel_rfl) (by kernel_rfl) (by kernel_rfl) (by kernel_rfl) rfl rfl ⟨fun _ _ _ h k => h.mv (Mv.of_keep k), kI, fun _ _ _ ⟨a, e, h⟩ k => ⟨a, e, h.mv (Mv.of_keep k)⟩, fun _ _ _ ⟨a, e, h⟩ k => ⟨a, e, h.mv (Mv.of_keep k)⟩, kI, fun _ _ _ h k => h.mv (Mv.of_keep k), fun _ _ _ ⟨a, e, h⟩ k => ⟨a, e, h.mv (Mv.of_keep k)⟩, fun _ _ _ ⟨a, e, h⟩ k => ⟨a, e, h.mv (Mv.of_keep k)⟩, kI, kI, kI, fun _ _ _ h k => h.mv (Mv.of_keep k), kI, fun _ _ _ ⟨a, e, h⟩ k => ⟨a, e, h.mv (Mv.of_keep k)⟩, fun _ _ _ ⟨a, e, h⟩ k => ⟨a, e, h.mv (Mv.of_keep k)⟩, kI, kI, kI, kI, fun _ _ _ h k => h.mv (Mv.of_keep k), kI, trivial⟩ ⟨?_, ?_, ?_, ?_, ?_, ?_, ?_, ?_, ?_, ?_, ?_, ?_, ?_, ?_, ?_, ?_, ?_, ?_, ?_, ?_, ?_, trivial⟩ ?_
      ·intro F1 w1 k1 hf hd
       have k0 := (Keep.drew [] wl0).trans k1
       have m1 : Mv Bl0 wl0 Bl0 w1 := Mv.of_keep k0
       have h_l := h_l.mv m1
       obtain ⟨F2, rfl⟩ := lit_of (F := F1) [(0, l_v)] ⟨hf 0 (by kernel_rfl), trivial⟩
       exact sp_plain rfl ((o_move (l_v) rfl (⟨(Keep.refl _ _), h_l⟩)))
      ·intro F1 w1 k1 hf hd
       obtain ⟨F2, rfl⟩ := lit_of (F := F1) [(3, vI ((k : Nat) : Int))] ⟨hf 3 (by kernel_rfl), trivial⟩
       exact sp_plain rfl ((o_move (vI ((k : Nat) : Int)) rfl (⟨(Keep.refl _ _), rfl⟩)))
      ·intro F1 w1 k1 hf hd
       obtain ⟨v2028, e2030, hl2029⟩ : ∃ v, F1 13 = v ∧ RdL Enc.share w1 (Bl0 ++ O) v (l) := ⟨_, rfl, hd 0 13 (by kernel_rfl)⟩
       have := hl2029.len_le
       obtain ⟨F2, rfl⟩ := lit_of (F := F1) [(13, v2028), (14, vI ((k : Nat) : Int))] ⟨e2030, hd 1 14 (by kernel_rfl), trivial⟩
       exact sp_plain rfl ((o_idx Try.underlying38 s_53 .i64 ((k : Nat) : Int) k rfl rfl rfl hl2029 (by omega) fun a2031 hp2032 => (⟨(Keep.refl _ _), ⟨a2031, rfl, hp2032⟩⟩)))
      ·intro F1 w1 k1 hf hd
       obtain ⟨a2033, e2035, hp2034⟩ : ∃ a, F1 15 = .pointer (some a) ∧ PT Enc.share w1 (Bl0 ++ O) (.pointer (some a)) (l[k]!) := hd 2 15 (by kernel_rfl)
       obtain ⟨F2, rfl⟩ := lit_of (F := F1) [(15, Value.pointer (some a2033))] ⟨e2035, trivial⟩
       exact sp_plain rfl ((o_fieldR 0 f_53_0 ((l[k]!).epoch) rfl hp2034 (fun _ _ _ h => Enc_share_f0 h) fun a2036 hp2037 => (⟨(Keep.refl _ _), ⟨a2036, rfl, hp2037⟩⟩)))
      ·intro F1 w1 k1 hf hd
       obtain ⟨a2038, e2040, hp2039⟩ : ∃ a, F1 16 = .pointer (some a) ∧ PT Enc.int w1 (Bl0 ++ O) (.pointer (some a)) ((l[k]!).epoch) := hd 3 16 (by kernel_rfl)
       obtain ⟨F2, rfl⟩ := lit_of (F := F1) [(16, Value.pointer (some a2038))] ⟨e2040, trivial⟩
       exact sp_plain rfl ((o_loadI Try.underlying3 rfl rfl hp2039 (⟨(Keep.refl _ _), rfl⟩)))
      ·intro F1 w1 k1 hf hd
       have k0 := (Keep.drew [] wl0).trans k1
       have m1 : Mv Bl0 wl0 Bl0 w1 := Mv.of_keep k0
       have h_l := h_l.mv m1
       obtain ⟨F2, rfl⟩ := lit_of (F := F1) [(0, l_v)] ⟨hf 0 (by kernel_rfl), trivial⟩
       exact sp_plain rfl ((o_move (l_v) rfl (⟨(Keep.refl _ _), h_l⟩)))
      ·intro F1 w1 k1 hf hd
       obtain ⟨v2041, e2043, hl2042⟩ : ∃ v, F1 18 = v ∧ RdL Enc.share w1 (Bl0 ++ O) v (l) := ⟨_, rfl, hd 5 18 (by kernel_rfl)⟩
       have := hl2042.len_le
       obtain ⟨F2, rfl⟩ := lit_of (F := F1) [(18, v2041)] ⟨e2043, trivial⟩
       exact sp_plain rfl ((o_idx Try.underlying38 s_53 .i64 (0 : Int) 0 rfl rfl rfl hl2042 (by omega) fun a2044 hp2045 => (⟨(Keep.refl _ _), ⟨a2044, rfl, hp2045⟩⟩)))
      ·intro F1 w1 k1 hf hd
       obtain ⟨a2046, e2048, hp2047⟩ : ∃ a, F1 19 = .pointer (some a) ∧ PT Enc.share w1 (Bl0 ++ O) (.pointer (some a)) (l[0]!) := hd 6 19 (by kernel_rfl)
       obtain ⟨F2, rfl⟩ := lit_of (F := F1) [(19, Value.pointer (some a2046))] ⟨e2048, trivial⟩
       exact sp_plain rfl ((o_fieldR 0 f_53_0 ((l[0]!).epoch) rfl hp2047 (fun _ _ _ h => Enc_share_f0 h) fun a2049 hp2050 => (⟨(Keep.refl _ _), ⟨a2049, rfl, hp2050⟩⟩)))
      ·intro F1 w1 k1 hf hd
       obtain ⟨a2051, e2053, hp2052⟩ : ∃ a, F1 20 = .pointer (some a) ∧ PT Enc.int w1 (Bl0 ++ O) (.pointer (some a)) ((l[0]!).epoch) := hd 7 20 (by kernel_rfl)
       obtain ⟨F2, rfl⟩ := lit_of (F := F1) [(20, Value.pointer (some a2051))] ⟨e2053, trivial⟩
       exact sp_plain rfl ((o_loadI Try.underlying3 rfl rfl hp2052 (⟨(Keep.refl _ _), rfl⟩)))
      ·intro F1 w1 k1 hf hd
       obtain ⟨F2, rfl⟩ := lit_of (F := F1) [(17, vI ((l[k]!).epoch)), (21, vI ((l[0]!).epoch))] ⟨hd 4 17 (by kernel_rfl), hd 8 21 (by kernel_rfl), trivial⟩
       refine sp_plain rfl ((o_neq .i64 ((l[k]!).epoch) ((l[0]!).epoch) rfl rfl (?_)))
       exact ⟨(Keep.refl _ _), congrArg Value.bool (hb2024)⟩
      ·intro F1 w1 k1 hf hd
       obtain ⟨F2, rfl⟩ := lit_of (F := F1) [(22, Value.bool false)] ⟨hd 9 22 (by kernel_rfl), trivial⟩
       exact sp_plain rfl ((o_move (Value.bool false) rfl (⟨(Keep.refl _ _), rfl⟩)))
      ·intro F1 w1 k1 hf hd
       have k0 := (Keep.drew [] wl0).trans k1
       have m1 : Mv Bl0 wl0 Bl0 w1 := Mv.of_keep k0
       have h_l := h_l.mv m1
       obtain ⟨F2, rfl⟩ := lit_of (F := F1) [(0, l_v), (23, Value.bool false)] ⟨hf 0 (by kernel_rfl), hd 10 23 (by kernel_rfl), trivial⟩
       exact sp_take rfl rfl ((o_move (l_v) rfl (⟨(Keep.refl _ _), h_l⟩)))
      ·intro F1 w1 k1 hf hd
       obtain ⟨F2, rfl⟩ := lit_of (F := F1) [(3, vI ((k : Nat) : Int)), (23, Value.bool false)] ⟨hf 3 (by kernel_rfl), hd 10 23 (by kernel_rfl), trivial⟩
       exact sp_take rfl rfl ((o_move (vI ((k : Nat) : Int)) rfl (⟨(Keep.refl _ _), rfl⟩)))
      ·intro F1 w1 k1 hf hd
       obtain ⟨v2054, e2056, hl2055⟩ : ∃ v, F1 24 = v ∧ RdL Enc.share w1 (Bl0 ++ O) v (l) := ⟨_, rfl, hd 11 24 (by kernel_rfl)⟩
       have := hl2055.len_le
       obtain ⟨F2, rfl⟩ := lit_of (F := F1) [(23, Value.bool false), (24, v2054), (25, vI ((k : Nat) : Int))] ⟨hd 10 23 (by kernel_rfl), e2056, hd 12 25 (by kernel_rfl), trivial⟩
       exact sp_take rfl rfl ((o_idx Try.underlying38 s_53 .i64 ((k : Nat) : Int) k rfl rfl rfl hl2055 (by omega) fun a2057 hp2058 => (⟨(Keep.refl _ _), ⟨a2057, rfl, hp2058⟩⟩)))
      ·intro F1 w1 k1 hf hd
       obtain ⟨a2059, e2061, hp2060⟩ : ∃ a, F1 26 = .pointer (some a) ∧ PT Enc.share w1 (Bl0 ++ O) (.pointer (some a)) (l[k]!) := hd 13 26 (by kernel_rfl)
       obtain ⟨F2, rfl⟩ := lit_of (F := F1) [(23, Value.bool false), (26, Value.pointer (some a2059))] ⟨hd 10 23 (by kernel_rfl), e2061, trivial⟩
       exact sp_take rfl rfl ((o_fieldR 0 f_53_0 ((l[k]!).epoch) rfl hp2060 (fun _ _ _ h => Enc_share_f0 h) fun a2062 hp2063 => (⟨(Keep.refl _ _), ⟨a2062, rfl, hp2063⟩⟩)))
      ·intro F1 w1 k1 hf hd
       obtain ⟨a2064, e2066, hp2065⟩ : ∃ a, F1 27 = .pointer (some a) ∧ PT Enc.int w1 (Bl0 ++ O) (.pointer (some a)) ((l[k]!).epoch) := hd 14 27 (by kernel_rfl)
       obtain ⟨F2, rfl⟩ := lit_of (F := F1) [(23, Value.bool false), (27, Value.pointer (some a2064))] ⟨hd 10 23 (by kernel_rfl), e2066, trivial⟩
       exact sp_take rfl rfl ((o_loadI Try.underlying3 rfl rfl hp2065 (⟨(Keep.refl _ _), rfl⟩)))
      ·intro F1 w1 k1 hf hd
       obtain ⟨F2, rfl⟩ := lit_of (F := F1) [(23, Value.bool false), (28, vI ((l[k]!).epoch))] ⟨hd 10 23 (by kernel_rfl), hd 15 28 (by kernel_rfl), trivial⟩
       refine sp_take rfl rfl ((o_lss .i64 ((l[k]!).epoch) (0 : Int) rfl rfl (?_)))
       exact ⟨(Keep.refl _ _), congrArg Value.bool (hb2026)⟩
      ·intro F1 w1 k1 hf hd
       obtain ⟨F2, rfl⟩ := lit_of (F := F1) [(23, Value.bool false), (29, Value.bool false)] ⟨hd 10 23 (by kernel_rfl), hd 16 29 (by kernel_rfl), trivial⟩
       exact sp_plain rfl ((o_pickF (Value.bool false) rfl rfl (⟨(Keep.refl _ _), rfl⟩)))
      ·intro F1 w1 k1 hf hd
       obtain ⟨F2, rfl⟩ := lit_of (F := F1) [(30, Value.bool false)] ⟨hd 17 30 (by kernel_rfl), trivial⟩
       exact sp_plain rfl ((o_move (Value.bool false) rfl (⟨(Keep.refl _ _), rfl⟩)))
      ·intro F1 w1 k1 hf hd
       have k0 := (Keep.drew [] wl0).trans k1
       have m1 : Mv Bl0 wl0 Bl0 w1 := Mv.of_keep k0
       have h_l := h_l.mv m1
       obtain ⟨F2, rfl⟩ := lit_of (F := F1) [(0, l_v), (31, Value.bool false)] ⟨hf 0 (by kernel_rfl), hd 18 31 (by kernel_rfl), trivial⟩
       exact sp_take rfl rfl ((o_move (l_v) rfl (⟨(Keep.refl _ _), h_l⟩)))
      ·intro F1 w1 k1 hf hd
       obtain ⟨F2, rfl⟩ := lit_of (F := F1) [(3, vI ((k : Nat) : Int)), (31, Value.bool false)] ⟨hf 3 (by kernel_rfl), hd 18 31 (by kernel_rfl), trivial⟩
       exact sp_take rfl rfl ((o_move (vI ((k : Nat) : Int)) rfl (⟨(Keep.refl _ _), rfl⟩)))
      intro F2068 w2069 k2067 hT2070 hF2071
      have s2072 := sl0.call k2067
      have m2073 : Mv Bl0 wl0 Bl0 w2069 := Mv.of_keep k2067
      have h_l := h_l.mv m2073
      obtain ⟨v2075, e2077, hl2076⟩ : ∃ v, F2068 32 = v ∧ RdL Enc.share w2069 (Bl0 ++ O) v (l) := ⟨_, rfl, hT2070 19 32 (by kernel_rfl) (by decide)⟩
      have := hl2076.len_le
      obtain ⟨F2, rfl⟩ := lit_of (F := F2068) [(0, l_v), (3, vI ((k : Nat) : Int)), (39, undef), (31, Value.bool false), (32, v2075), (33, vI ((k : Nat) : Int))] ⟨hF2071 0 (by kernel_rfl), hF2071 3 (by kernel_rfl), hF2071 39 (by kernel_rfl), hT2070 18 31 (by kernel_rfl) (by decide), e2077, hT2070 20 33 (by kernel_rfl) (by decide), trivial⟩
      clear hT2070 hF2071
      refine wl_t rfl (o_idx Try.underlying38 s_53 .i64 ((k : Nat) : Int) k rfl rfl rfl hl2076 (by omega) fun a2078 hp2079 => (wl_t rfl (o_fieldR 0 f_53_0 ((l[k]!).epoch) rfl hp2079 (fun _ _ _ h => Enc_share_f0 h) fun a2080 hp2081 => (wl_t rfl (o_loadI Try.underlying3 rfl rfl hp2081 (wl_t rfl (o_gtr .i64 ((l[k]!).epoch) (1048576 : Int) rfl rfl (wl_s (o_pickF (Value.bool (decide ((1048576 : Int) < (l[k]!).epoch))) rfl rfl (wl_nil (thenQ_n (?_))))))))))))
      refine cw_cond (decide ((1048576 : Int) < (l[k]!).epoch)) rfl rfl (fun hc2082 => ?_) (fun hc2082 => ?_)
      ·have hp2083 : (1048576 : Int) < (l[k]!).epoch := by first | simpa using hc2082 | (have e := hc2082; simp at e; omega)
       refine cw_seq (?_)
       refine cw_region (by kernel_rfl) (wl_s (o_assign (vI (81 : Int)) rfl (wl_nil (thenQ_n (?_)))))
       refine cw_ret (blockQ_r (thenQ_r (thenQ_r (blockQ_r (thenQ_r (end_r rfl (res1 rfl rfl rfl) (?_)))))))
       have e : (refCheckM l) = (81 : Int) := by first | (rw [hr0_1]; exact scan_some (by omega) (by ((repeat (first | (refine (if_pos ?_).trans ?_; solve | omega | assumption | (simp only [alx]; first | done | omega | assumption) | (simp only [*, dbs]; done)) | (refine (if_neg ?_).trans ?_; solve | omega | assumption | (simp only [alx]; first | done | omega | assumption) | (simp only [*, dbs]; done)))); rfl))) | (rw [hr0_1]; exact scan_end (by omega)) | (unfold refCheckM; ((repeat (first | (refine (if_pos ?_).trans ?_; solve | omega | assumption | (simp only [alx]; first | done | omega | assumption) | (simp only [*, dbs]; done)) | (refine (if_neg ?_).trans ?_; solve | omega | assumption | (simp only [alx]; first | done | omega | assumption) | (simp only [*, dbs]; done)))); rfl))
       exact ⟨_, rfl, s2072.keep, by rw [e]; exact rfl⟩
      ·have hp2084 : (l[k]!).epoch ≤ (1048576 : Int) := by first | simpa using hc2082 | (have e := hc2082; simp at e; omega)
       refine cw_skip (blockQ_n (thenQ_n (?_)))
       refine cw_region (by kernel_rfl) (wl_s (o_move (vI ((k : Nat) : Int)) rfl (wl_s (o_add .i64 ((k : Nat) : Int) (1 : Int) (((k + 1 : Nat) : Int)) rfl rfl (w64 (by omega) (by omega)) (wl_s (o_assign (vI ((k + 1 : Nat) : Int)) rfl (wl_nil (thenQ_n (?_)))))))))
       exact ⟨_, (by omega), (k + 1), Bl0, (by first | omega | (simp; done) | (simp; omega) | simp_all), (hr0_1.trans (scan_none (by omega) (by ((repeat (first | (refine (if_pos ?_).trans ?_; solve | omega | assumption | (simp only [alx]; first | done | omega | assumption) | (simp only [*, dbs]; done)) | (refine (if_neg ?_).trans ?_; solve | omega | assumption | (simp only [alx]; first | done | omega | assumption) | (simp only [*, dbs]; done)))); rfl)))), rfl, ⟨_, upds_self _ ⟨rfl, (by first | rfl | exact congrArg (Value.int _) (by first | omega | (simp))), rfl, trivial⟩⟩, s2072, h_l⟩
     ·have hp2085 : (l[k]!).epoch < (0 : Int) := by first | simpa using hb2026 | (have e := hb2026; simp at e; omega)
      refine cw_draw' 21 _ _ [fun (vT : Value) (wT : World) => RdL Enc.share wT (Bl0 ++ O) vT (l), isV (vI ((k : Nat) : Int)), fun (vT : Value) (wT : World) => ∃ aT, vT = .pointer (some aT) ∧ PT Enc.share wT (Bl0 ++ O) (.pointer (some aT)) (l[k]!), fun (vT : Value) (wT : World) => ∃ aT, vT = .pointer (some aT) ∧ PT Enc.int wT (Bl0 ++ O) (.pointer (some aT)) ((l[k]!).epoch), isV (vI ((l[k]!).epoch)), fun (vT : Value) (wT : World) => RdL Enc.share wT (Bl0 ++ O) vT (l), fun (vT : Value) (wT : World) => ∃ aT, vT = .pointer (some aT) ∧ PT Enc.share wT (Bl0 ++ O) (.pointer (some aT)) (l[0]!), fun (vT : Value) (wT : World) => ∃ aT, vT = .pointer (some aT) ∧ PT Enc.int wT (Bl0 ++ O) (.pointer (some aT)) ((l[0]!).epoch), isV (vI ((l[0]!).epoch)), isV (Value.bool false), isV (Value.bool false), fun (vT : Value) (wT : World) => RdL Enc.share wT (Bl0 ++ O) vT (l), isV (vI ((k : Nat) : Int)), fun (vT : Value) (wT : World) => ∃ aT, vT = .pointer (some aT) ∧ PT Enc.share wT (Bl0 ++ O) (.pointer (some aT)) (l[k]!), fun (vT : Value) (wT : World) => ∃ aT, vT = .pointer (some aT) ∧ PT Enc.int wT (Bl0 ++ O) (.pointer (some aT)) ((l[k]!).epoch), isV (vI ((l[k]!).epoch)), isV (Value.bool true), isV (Value.bool true), isV (Value.bool true), isV undef, isV undef] (by kernel_rfl) (by kernel_rfl) (by kernel_rfl) (by kernel_rfl) rfl rfl ⟨fun _ _ _ h k => h.mv (Mv.of_keep k), kI, fun _ _ _ ⟨a, e, h⟩ k => ⟨a, e, h.mv (Mv.of_keep k)⟩, fun _ _ _ ⟨a, e, h⟩ k => ⟨a, e, h.mv (Mv.of_keep k)⟩, kI, fun _ _ _ h k => h.mv (Mv.of_keep k), fun _ _ _ ⟨a, e, h⟩ k => ⟨a, e, h.mv (Mv.of_keep k)⟩, fun _ _ _ ⟨a, e, h⟩ k => ⟨a, e, h.mv (Mv.of_keep k)⟩, kI, kI, kI, fun _ _ _ h k => h.mv (Mv.of_keep k), kI, fun _ _ _ ⟨a, e, h⟩ k => ⟨a, e, h.mv (Mv.of_keep k)⟩, fun _ _ _ ⟨a, e, h⟩ k => ⟨a, e, h.mv (Mv.of_keep k)⟩, kI, kI, kI, kI, kI, kI, trivial⟩ ⟨?_, ?_, ?_, ?_, ?_, ?_, ?_, ?_, ?_, ?_, ?_, ?_, ?_, ?_, ?_, ?_, ?_, ?_, ?_, ?_, ?_, trivial⟩ ?_
      ·intro F1 w1 k1 hf hd
       have k0 := (Keep.drew [] wl0).trans k1
       have m1 : Mv Bl0 wl0 Bl0 w1 := Mv.of_keep k0
       have h_l := h_l.mv m1
       obtain ⟨F2, rfl⟩ := lit_of (F := F1) [(0, l_v)] ⟨hf 0 (by kernel_rfl), trivial⟩
       exact sp_plain rfl ((o_move (l_v) rfl (⟨(Keep.refl _ _), h_l⟩)))
      ·intro F1 w1 k1 hf hd
       obtain ⟨F2, rfl⟩ := lit_of (F := F1) [(3, vI ((k : Nat) : Int))] ⟨hf 3 (by kernel_rfl), trivial⟩
       exact sp_plain rfl ((o_move (vI ((k : Nat) : Int)) rfl (⟨(Keep.refl _ _), rfl⟩)))
      ·intro F1 w1 k1 hf hd
       obtain ⟨v2086, e2088, hl2087⟩ : ∃ v, F1 13 = v ∧ RdL Enc.share w1 (Bl0 ++ O) v (l) := ⟨_, rfl, hd 0 13 (by kernel_rfl)⟩
       have := hl2087.len_le
       obtain ⟨F2, rfl⟩ := lit_of (F := F1) [(13, v2086), (14, vI ((k : Nat) : Int))] ⟨e2088, hd 1 14 (by kernel_rfl), trivial⟩
       exact sp_plain rfl ((o_idx Try.underlying38 s_53 .i64 ((k : Nat) : Int) k rfl rfl rfl hl2087 (by omega) fun a2089 hp2090 => (⟨(Keep.refl _ _), ⟨a2089, rfl, hp2090⟩⟩)))
      ·intro F1 w1 k1 hf hd
       obtain ⟨a2091, e2093, hp2092⟩ : ∃ a, F1 15 = .pointer (some a) ∧ PT Enc.share w1 (Bl0 ++ O) (.pointer (some a)) (l[k]!) := hd 2 15 (by kernel_rfl)
       obtain ⟨F2, rfl⟩ := lit_of (F := F1) [(15, Value.pointer (some a2091))] ⟨e2093, trivial⟩
       exact sp_plain rfl ((o_fieldR 0 f_53_0 ((l[k]!).epoch) rfl hp2092 (fun _ _ _ h => Enc_share_f0 h) fun a2094 hp2095 => (⟨(Keep.refl _ _), ⟨a2094, rfl, hp2095⟩⟩)))
      ·intro F1 w1 k1 hf hd
       obtain ⟨a2096, e2098, hp2097⟩ : ∃ a, F1 16 = .pointer (some a) ∧ PT Enc.int w1 (Bl0 ++ O) (.pointer (some a)) ((l[k]!).epoch) := hd 3 16 (by kernel_rfl)
       obtain ⟨F2, rfl⟩ := lit_of (F := F1) [(16, Value.pointer (some a2096))] ⟨e2098, trivial⟩
       exact sp_plain rfl ((o_loadI Try.underlying3 rfl rfl hp2097 (⟨(Keep.refl _ _), rfl⟩)))
      ·intro F1 w1 k1 hf hd
       have k0 := (Keep.drew [] wl0).trans k1
       have m1 : Mv Bl0 wl0 Bl0 w1 := Mv.of_keep k0
       have h_l := h_l.mv m1
       obtain ⟨F2, rfl⟩ := lit_of (F := F1) [(0, l_v)] ⟨hf 0 (by kernel_rfl), trivial⟩
       exact sp_plain rfl ((o_move (l_v) rfl (⟨(Keep.refl _ _), h_l⟩)))
      ·intro F1 w1 k1 hf hd
       obtain ⟨v2099, e2101, hl2100⟩ : ∃ v, F1 18 = v ∧ RdL Enc.share w1 (Bl0 ++ O) v (l) := ⟨_, rfl, hd 5 18 (by kernel_rfl)⟩
       have := hl2100.len_le
       obtain ⟨F2, rfl⟩ := lit_of (F := F1) [(18, v2099)] ⟨e2101, trivial⟩
       exact sp_plain rfl ((o_idx Try.underlying38 s_53 .i64 (0 : Int) 0 rfl rfl rfl hl2100 (by omega) fun a2102 hp2103 => (⟨(Keep.refl _ _), ⟨a2102, rfl, hp2103⟩⟩)))
      ·intro F1 w1 k1 hf hd
       obtain ⟨a2104, e2106, hp2105⟩ : ∃ a, F1 19 = .pointer (some a) ∧ PT Enc.share w1 (Bl0 ++ O) (.pointer (some a)) (l[0]!) := hd 6 19 (by kernel_rfl)
       obtain ⟨F2, rfl⟩ := lit_of (F := F1) [(19, Value.pointer (some a2104))] ⟨e2106, trivial⟩
       exact sp_plain rfl ((o_fieldR 0 f_53_0 ((l[0]!).epoch) rfl hp2105 (fun _ _ _ h => Enc_share_f0 h) fun a2107 hp2108 => (⟨(Keep.refl _ _), ⟨a2107, rfl, hp2108⟩⟩)))
      ·intro F1 w1 k1 hf hd
       obtain ⟨a2109, e2111, hp2110⟩ : ∃ a, F1 20 = .pointer (some a) ∧ PT Enc.int w1 (Bl0 ++ O) (.pointer (some a)) ((l[0]!).epoch) := hd 7 20 (by kernel_rfl)
       obtain ⟨F2, rfl⟩ := lit_of (F := F1) [(20, Value.pointer (some a2109))] ⟨e2111, trivial⟩
       exact sp_plain rfl ((o_loadI Try.underlying3 rfl rfl hp2110 (⟨(Keep.refl _ _), rfl⟩)))
      ·intro F1 w1 k1 hf hd
       obtain ⟨F2, rfl⟩ := lit_of (F := F1) [(17, vI ((l[k]!).epoch)), (21, vI ((l[0]!).epoch))] ⟨hd 4 17 (by kernel_rfl), hd 8 21 (by kernel_rfl), trivial⟩
       refine sp_plain rfl ((o_neq .i64 ((l[k]!).epoch) ((l[0]!).epoch) rfl rfl (?_)))
       exact ⟨(Keep.refl _ _), congrArg Value.bool (hb2024)⟩
      ·intro F1 w1 k1 hf hd
       obtain ⟨F2, rfl⟩ := lit_of (F := F1) [(22, Value.bool false)] ⟨hd 9 22 (by kernel_rfl), trivial⟩
       exact sp_plain rfl ((o_move (Value.bool false) rfl (⟨(Keep.refl _ _), rfl⟩)))
      ·intro F1 w1 k1 hf hd
       have k0 := (Keep.drew [] wl0).trans k1
       have m1 : Mv Bl0 wl0 Bl0 w1 := Mv.of_keep k0
       have h_l := h_l.mv m1
       obtain ⟨F2, rfl⟩ := lit_of (F := F1) [(0, l_v), (23, Value.bool false)] ⟨hf 0 (by kernel_rfl), hd 10 23 (by kernel_rfl), trivial⟩
       exact sp_take rfl rfl ((o_move (l_v) rfl (⟨(Keep.refl _ _), h_l⟩)))
      ·intro F1 w1 k1 hf hd
       obtain ⟨F2, rfl⟩ := lit_of (F := F1) [(3, vI ((k : Nat) : Int)), (23, Value.bool false)] ⟨hf 3 (by kernel_rfl), hd 10 23 (by kernel_rfl), trivial⟩
       exact sp_take rfl rfl ((o_move (vI ((k : Nat) : Int)) rfl (⟨(Keep.refl _ _), rfl⟩)))
      ·intro F1 w1 k1 hf hd
       obtain ⟨v2112, e2114, hl2113⟩ : ∃ v, F1 24 = v ∧ RdL Enc.share w1 (Bl0 ++ O) v (l) := ⟨_, rfl, hd 11 24 (by kernel_rfl)⟩
       have := hl2113.len_le
       obtain ⟨F2, rfl⟩ := lit_of (F := F1) [(23, Value.bool false), (24, v2112), (25, vI ((k : Nat) : Int))] ⟨hd 10 23 (by kernel_rfl), e2114, hd 12 25 (by kernel_rfl), trivial⟩
       exact sp_take rfl rfl ((o_idx Try.underlying38 s_53 .i64 ((k : Nat) : Int) k rfl rfl rfl hl2113 (by omega) fun a2115 hp2116 => (⟨(Keep.refl _ _), ⟨a2115, rfl, hp2116⟩⟩)))
      ·intro F1 w1 k1 hf hd
       obtain ⟨a2117, e2119, hp2118⟩ : ∃ a, F1 26 = .pointer (some a) ∧ PT Enc.share w1 (Bl0 ++ O) (.pointer (some a)) (l[k]!) := hd 13 26 (by kernel_rfl)
       obtain ⟨F2, rfl⟩ := lit_of (F := F1) [(23, Value.bool false), (26, Value.pointer (some a2117))] ⟨hd 10 23 (by kernel_rfl), e2119, trivial⟩
       exact sp_take rfl rfl ((o_fieldR 0 f_53_0 ((l[k]!).epoch) rfl hp2118 (fun _ _ _ h => Enc_share_f0 h) fun a2120 hp2121 => (⟨(Keep.refl _ _), ⟨a2120, rfl, hp2121⟩⟩)))
      ·intro F1 w1 k1 hf hd
       obtain ⟨a2122, e2124, hp2123⟩ : ∃ a, F1 27 = .pointer (some a) ∧ PT Enc.int w1 (Bl0 ++ O) (.pointer (some a)) ((l[k]!).epoch) := hd 14 27 (by kernel_rfl)
       obtain ⟨F2, rfl⟩ := lit_of (F := F1) [(23, Value.bool false), (27, Value.pointer (some a2122))] ⟨hd 10 23 (by kernel_rfl), e2124, trivial⟩
       exact sp_take rfl rfl ((o_loadI Try.underlying3 rfl rfl hp2123 (⟨(Keep.refl _ _), rfl⟩)))
      ·intro F1 w1 k1 hf hd
       obtain ⟨F2, rfl⟩ := lit_of (F := F1) [(23, Value.bool false), (28, vI ((l[k]!).epoch))] ⟨hd 10 23 (by kernel_rfl), hd 15 28 (by kernel_rfl), trivial⟩
       refine sp_take rfl rfl ((o_lss .i64 ((l[k]!).epoch) (0 : Int) rfl rfl (?_)))
       exact ⟨(Keep.refl _ _), congrArg Value.bool (hb2026)⟩
      ·intro F1 w1 k1 hf hd
       obtain ⟨F2, rfl⟩ := lit_of (F := F1) [(23, Value.bool false), (29, Value.bool true)] ⟨hd 10 23 (by kernel_rfl), hd 16 29 (by kernel_rfl), trivial⟩
       exact sp_plain rfl ((o_pickF (Value.bool true) rfl rfl (⟨(Keep.refl _ _), rfl⟩)))
      ·intro F1 w1 k1 hf hd
       obtain ⟨F2, rfl⟩ := lit_of (F := F1) [(30, Value.bool true)] ⟨hd 17 30 (by kernel_rfl), trivial⟩
       exact sp_plain rfl ((o_move (Value.bool true) rfl (⟨(Keep.refl _ _), rfl⟩)))
      ·intro F1 w1 k1 hf hd
       exact sp_skipD rfl rfl (hd 18 31 (by kernel_rfl)) rfl rfl
      ·intro F1 w1 k1 hf hd
       exact sp_skipD rfl rfl (hd 18 31 (by kernel_rfl)) rfl rfl
      intro F2126 w2127 k2125 hT2128 hF2129
      have s2130 := sl0.call k2125
      obtain ⟨F2, rfl⟩ := lit_of (F := F2126) [(0, l_v), (3, vI ((k : Nat) : Int)), (39, undef), (31, Value.bool true)] ⟨hF2129 0 (by kernel_rfl), hF2129 3 (by kernel_rfl), hF2129 39 (by kernel_rfl), hT2128 18 31 (by kernel_rfl) (by decide), trivial⟩
      clear hT2128 hF2129
      refine wl_k rfl (wl_k rfl (wl_k rfl (wl_k rfl (wl_s (o_pickT (Value.bool true) rfl rfl (wl_nil (thenQ_n (?_))))))))
      refine cw_cond true rfl rfl (fun _ => ?_) (fun h => by cases h)
      refine cw_seq (?_)
      refine cw_region (by kernel_rfl) (wl_s (o_assign (vI (81 : Int)) rfl (wl_nil (thenQ_n (?_)))))
      refine cw_ret (blockQ_r (thenQ_r (thenQ_r (blockQ_r (thenQ_r (end_r rfl (res1 rfl rfl rfl) (?_)))))))
      have e : (refCheckM l) = (81 : Int) := by first | (rw [hr0_1]; exact scan_some (by omega) (by ((repeat (first | (refine (if_pos ?_).trans ?_; solve | omega | assumption | (simp only [alx]; first | done | omega | assumption) | (simp only [*, dbs]; done)) | (refine (if_neg ?_).trans ?_; solve | omega | assumption | (simp only [alx]; first | done | omega | assumption) | (simp only [*, dbs]; done)))); rfl))) | (rw [hr0_1]; exact scan_end (by omega)) | (unfold refCheckM; ((repeat (first | (refine (if_pos ?_).trans ?_; solve | omega | assumption | (simp only [alx]; first | done | omega | assumption) | (simp only [*, dbs]; done)) | (refine (if_neg ?_).trans ?_; solve | omega | assumption | (simp only [alx]; first | done | omega | assumption) | (simp only [*, dbs]; done)))); rfl))
      exact ⟨_, rfl, s2130.keep, by rw [e]; exact rfl⟩
    ·have hp2133 : (l[k]!).epoch ≠ (l[0]!).epoch := by first | simpa using hb2024 | (have e := hb2024; simp at e; omega)
     refine cw_draw' 21 _ _ [fun (vT : Value) (wT : World) => RdL Enc.share wT (Bl0 ++ O) vT (l), isV (vI ((k : Nat) : Int)), fun (vT : Value) (wT : World) => ∃ aT, vT = .pointer (some aT) ∧ PT Enc.share wT (Bl0 ++ O) (.pointer (some aT)) (l[k]!), fun (vT : Value) (wT : World) => ∃ aT, vT = .pointer (some aT) ∧ PT Enc.int wT (Bl0 ++ O) (.pointer (some aT)) ((l[k]!).epoch), isV (vI ((l[k]!).epoch)), fun (vT : Value) (wT : World) => RdL Enc.share wT (Bl0 ++ O) vT (l), fun (vT : Value) (wT : World) => ∃ aT, vT = .pointer (some aT) ∧ PT Enc.share wT (Bl0 ++ O) (.pointer (some aT)) (l[0]!), fun (vT : Value) (wT : World) => ∃ aT, vT = .pointer (some aT) ∧ PT Enc.int wT (Bl0 ++ O) (.pointer (some aT)) ((l[0]!).epoch), isV (vI ((l[0]!).epoch)), isV (Value.bool true), isV (Value.bool true), isV undef, isV undef, isV undef, isV undef, isV undef, isV undef, isV (Value.bool true), isV (Value.bool true), isV undef, isV undef] (by kernel_rfl) (by kernel_rfl) (by kernel_rfl) (by kernel_rfl) rfl rfl ⟨fun _ _ _ h k => h.mv (Mv.of_keep k), kI, fun _ _ _ ⟨a, e, h⟩ k => ⟨a, e, h.mv (Mv.of_keep k)⟩, fun _ _ _ ⟨a, e, h⟩ k => ⟨a, e, h.mv (Mv.of_keep k)⟩, kI, fun _ _ _ h k => h.mv (Mv.of_keep k), fun _ _ _ ⟨a, e, h⟩ k => ⟨a, e, h.mv (Mv.of_keep k)⟩, fun _ _ _ ⟨a, e, h⟩ k => ⟨a, e, h.mv (Mv.of_keep k)⟩, kI, kI, kI, kI, kI, kI, kI, kI, kI, kI, kI, kI, kI, trivial⟩ ⟨?_, ?_, ?_, ?_, ?_, ?_, ?_, ?_, ?_, ?_, ?_, ?_, ?_, ?_, ?_, ?_, ?_, ?_, ?_, ?_, ?_, trivial⟩ ?_
     ·intro F1 w1 k1 hf hd
      have k0 := (Keep.drew [] wl0).trans k1
      have m1 : Mv Bl0 wl0 Bl0 w1 := Mv.of_keep k0
      have h_l := h_l.mv m1
      obtain ⟨F2, rfl⟩ := lit_of (F := F1) [(0, l_v)] ⟨hf 0 (by kernel_rfl), trivial⟩
      exact sp_plain rfl ((o_move (l_v) rfl (⟨(Keep.refl _ _), h_l⟩)))
     ·intro F1 w1 k1 hf hd
      obtain ⟨F2, rfl⟩ := lit_of (F := F1) [(3, vI ((k : Nat) : Int))] ⟨hf 3 (by kernel_rfl), trivial⟩
      exact sp_plain rfl ((o_move (vI ((k : Nat) : Int)) rfl (⟨(Keep.refl _ _), rfl⟩)))
     ·intro F1 w1 k1 hf hd
      obtain ⟨v2134, e2136, hl2135⟩ : ∃ v, F1 13 = v ∧ RdL Enc.share w1 (Bl0 ++ O) v (l) := ⟨_, rfl, hd 0 13 (by kernel_rfl)⟩
      have := hl2135.len_le
      obtain ⟨F2, rfl⟩ := lit_of (F := F1) [(13, v2134), (14, vI ((k : Nat) : Int))] ⟨e2136, hd 1 14 (by kernel_rfl), trivial⟩
      exact sp_plain rfl ((o_idx Try.underlying38 s_53 .i64 ((k : Nat) : Int) k rfl rfl rfl hl2135 (by omega) fun a2137 hp2138 => (⟨(Keep.refl _ _), ⟨a2137, rfl, hp2138⟩⟩)))
     ·intro F1 w1 k1 hf hd
      obtain ⟨a2139, e2141, hp2140⟩ : ∃ a, F1 15 = .pointer (some a) ∧ PT Enc.share w1 (Bl0 ++ O) (.pointer (some a)) (l[k]!) := hd 2 15 (by kernel_rfl)
      obtain ⟨F2, rfl⟩ := lit_of (F := F1) [(15, Value.pointer (some a2139))] ⟨e2141, trivial⟩
      exact sp_plain rfl ((o_fieldR 0 f_53_0 ((l[k]!).epoch) rfl hp2140 (fun _ _ _ h => Enc_share_f0 h) fun a2142 hp2143 => (⟨(Keep.refl _ _), ⟨a2142, rfl, hp2143⟩⟩)))
     ·intro F1 w1 k1 hf hd
      obtain ⟨a2144, e2146, hp2145⟩ : ∃ a, F1 16 = .pointer (some a) ∧ PT Enc.int w1 (Bl0 ++ O) (.pointer (some a)) ((l[k]!).epoch) := hd 3 16 (by kernel_rfl)
      obtain ⟨F2, rfl⟩ := lit_of (F := F1) [(16, Value.pointer (some a2144))] ⟨e2146, trivial⟩
      exact sp_plain rfl ((o_loadI Try.underlying3 rfl rfl hp2145 (⟨(Keep.refl _ _), rfl⟩)))
     ·intro F1 w1 k1 hf hd
      have k0 := (Keep.drew [] wl0).trans k1
      have m1 : Mv Bl0 wl0 Bl0 w1 := Mv.of_keep k0
      have h_l := h_l.mv m1
      obtain ⟨F2, rfl⟩ := lit_of (F := F1) [(0, l_v)] ⟨hf 0 (by kernel_rfl), trivial⟩
      exact sp_plain rfl ((o_move (l_v) rfl (⟨(Keep.refl _ _), h_l⟩)))
     ·intro F1 w1 k1 hf hd
      obtain ⟨v2147, e2149, hl2148⟩ : ∃ v, F1 18 = v ∧ RdL Enc.share w1 (Bl0 ++ O) v (l) := ⟨_, rfl, hd 5 18 (by kernel_rfl)⟩
      have := hl2148.len_le
      obtain ⟨F2, rfl⟩ := lit_of (F := F1) [(18, v2147)] ⟨e2149, trivial⟩
      exact sp_plain rfl ((o_idx Try.underlying38 s_53 .i64 (0 : Int) 0 rfl rfl rfl hl2148 (by omega) fun a2150 hp2151 => (⟨(Keep.refl _ _), ⟨a2150, rfl, hp2151⟩⟩)))
     ·intro F1 w1 k1 hf hd
      obtain ⟨a2152, e2154, hp2153⟩ : ∃ a, F1 19 = .pointer (some a) ∧ PT Enc.share w1 (Bl0 ++ O) (.pointer (some a)) (l[0]!) := hd 6 19 (by kernel_rfl)
      obtain ⟨F2, rfl⟩ := lit_of (F := F1) [(19, Value.pointer (some a2152))] ⟨e2154, trivial⟩
      exact sp_plain rfl ((o_fieldR 0 f_53_0 ((l[0]!).epoch) rfl hp2153 (fun _ _ _ h => Enc_share_f0 h) fun a2155 hp2156 => (⟨(Keep.refl _ _), ⟨a2155, rfl, hp2156⟩⟩)))
     ·intro F1 w1 k1 hf hd
      obtain ⟨a2157, e2159, hp2158⟩ : ∃ a, F1 20 = .pointer (some a) ∧ PT Enc.int w1 (Bl0 ++ O) (.pointer (some a)) ((l[0]!).epoch) := hd 7 20 (by kernel_rfl)
      obtain ⟨F2, rfl⟩ := lit_of (F := F1) [(20, Value.pointer (some a2157))] ⟨e2159, trivial⟩
      exact sp_plain rfl ((o_loadI Try.underlying3 rfl rfl hp2158 (⟨(Keep.refl _ _), rfl⟩)))
     ·intro F1 w1 k1 hf hd
      obtain ⟨F2, rfl⟩ := lit_of (F := F1) [(17, vI ((l[k]!).epoch)), (21, vI ((l[0]!).epoch))] ⟨hd 4 17 (by kernel_rfl), hd 8 21 (by kernel_rfl), trivial⟩
      refine sp_plain rfl ((o_neq .i64 ((l[k]!).epoch) ((l[0]!).epoch) rfl rfl (?_)))
      exact ⟨(Keep.refl _ _), congrArg Value.bool (hb2024)⟩
     ·intro F1 w1 k1 hf hd
      obtain ⟨F2, rfl⟩ := lit_of (F := F1) [(22, Value.bool true)] ⟨hd 9 22 (by kernel_rfl), trivial⟩
      exact sp_plain rfl ((o_move (Value.bool true) rfl (⟨(Keep.refl _ _), rfl⟩)))
     ·intro F1 w1 k1 hf hd
      exact sp_skipD rfl rfl (hd 10 23 (by kernel_rfl)) rfl rfl
     ·intro F1 w1 k1 hf hd
      exact sp_skipD rfl rfl (hd 10 23 (by kernel_rfl)) rfl rfl
     ·intro F1 w1 k1 hf hd
      exact sp_skipD rfl rfl (hd 10 23 (by kernel_rfl)) rfl rfl
     ·intro F1 w1 k1 hf hd
      exact sp_skipD rfl rfl (hd 10 23 (by kernel_rfl)) rfl rfl
     ·intro F1 w1 k1 hf hd
      exact sp_skipD rfl rfl (hd 10 23 (by kernel_rfl)) rfl rfl
     ·intro F1 w1 k1 hf hd
      exact sp_skipD rfl rfl (hd 10 23 (by kernel_rfl)) rfl rfl
     ·intro F1 w1 k1 hf hd
      obtain ⟨F2, rfl⟩ := lit_of (F := F1) [(23, Value.bool true), (29, undef)] ⟨hd 10 23 (by kernel_rfl), hd 16 29 (by kernel_rfl), trivial⟩
      exact sp_plain rfl ((o_pickT (Value.bool true) rfl rfl (⟨(Keep.refl _ _), rfl⟩)))
     ·intro F1 w1 k1 hf hd
      obtain ⟨F2, rfl⟩ := lit_of (F := F1) [(30, Value.bool true)] ⟨hd 17 30 (by kernel_rfl), trivial⟩
      exact sp_plain rfl ((o_move (Value.bool true) rfl (⟨(Keep.refl _ _), rfl⟩)))
     ·intro F1 w1 k1 hf hd
      exact sp_skipD rfl rfl (hd 18 31 (by kernel_rfl)) rfl rfl
     ·intro F1 w1 k1 hf hd
      exact sp_skipD rfl rfl (hd 18 31 (by kernel_rfl)) rfl rfl
     intro F2161 w2162 k2160 hT2163 hF2164
     have s2165 := sl0.call k2160
     obtain ⟨F2, rfl⟩ := lit_of (F := F2161) [(0, l_v), (3, vI ((k : Nat) : Int)), (39, undef), (31, Value.bool true)] ⟨hF2164 0 (by kernel_rfl), hF2164 3 (by kernel_rfl), hF2164 39 (by kernel_rfl), hT2163 18 31 (by kernel_rfl) (by decide), trivial⟩
     clear hT2163 hF2164
     refine wl_k rfl (wl_k rfl (wl_k rfl (wl_k rfl (wl_s (o_pickT (Value.bool true) rfl rfl (wl_nil (thenQ_n (?_))))))))
     refine cw_cond true rfl rfl (fun _ => ?_) (fun h => by cases h)
     refine cw_seq (?_)
     refine cw_region (by kernel_rfl) (wl_s (o_assign (vI (81 : Int)) rfl (wl_nil (thenQ_n (?_)))))
     refine cw_ret (blockQ_r (thenQ_r (thenQ_r (blockQ_r (thenQ_r (end_r rfl (res1 rfl rfl rfl) (?_)))))))
     have e : (refCheckM l) = (81 : Int) := by first | (rw [hr0_1]; exact scan_some (by omega) (by ((repeat (first | (refine (if_pos ?_).trans ?_; solve | omega | assumption | (simp only [alx]; first | done | omega | assumption) | (simp only [*, dbs]; done)) | (refine (if_neg ?_).trans ?_; solve | omega | assumption | (simp only [alx]; first | done | omega | assumption) | (simp only [*, dbs]; done)))); rfl))) | (rw [hr0_1]; exact scan_end (by omega)) | (unfold refCheckM; ((repeat (first | (refine (if_pos ?_).trans ?_; solve | omega | assumption | (simp only [alx]; first | done | omega | assumption) | (simp only [*, dbs]; done)) | (refine (if_neg ?_).trans ?_; solve | omega | assumption | (simp only [alx]; first | done | omega | assumption) | (simp only [*, dbs]; done)))); rfl))
     exact ⟨_, rfl, s2165.keep, by rw [e]; exact rfl⟩
   ·have hp2168 : (l.length : Int) ≤ ((k : Nat) : Int) := by first | simpa using hc2022 | (have e := hc2022; simp at e; omega)
    refine cw_exit (thenQ_x (thenQ_x (blockQ_x (thenQ_n (?_)))))
    refine cw_seq (?_)
    refine cw_region (by kernel_rfl) (wl_s (o_assign (vI (0 : Int)) rfl (wl_nil (thenQ_n (?_)))))
    refine cw_ret (end_r rfl (res1 rfl rfl rfl) (?_))
    have e : (refCheckM l) = (0 : Int) := by first | (rw [hr0_1]; exact scan_some (by omega) (by ((repeat (first | (refine (if_pos ?_).trans ?_; solve | omega | assumption | (simp only [alx]; first | done | omega | assumption) | (simp only [*, dbs]; done)) | (refine (if_neg ?_).trans ?_; solve | omega | assumption | (simp only [alx]; first | done | omega | assumption) | (simp only [*, dbs]; done)))); rfl))) | (rw [hr0_1]; exact scan_end (by omega)) | (unfold refCheckM; ((repeat (first | (refine (if_pos ?_).trans ?_; solve | omega | assumption | (simp only [alx]; first | done | omega | assumption) | (simp only [*, dbs]; done)) | (refine (if_neg ?_).trans ?_; solve | omega | assumption | (simp only [alx]; first | done | omega | assumption) | (simp only [*, dbs]; done)))); rfl))
    exact ⟨_, rfl, sl0.keep, by rw [e]; exact rfl⟩
set_option maxHeartbeats 4000000 in
set_option maxRecDepth 100000 in
theorem c_sameShare {O : List Nat} (sa_cs : List Value) (sa : Share) (sb_cs : List Value) (sb : Share) (w : World) (h_sa : Enc.share.rd w O sa_cs sa) (h_sb : Enc.share.rd w O sb_cs sb) (hO : ∀ b ∈ O, b < w.heap.size) : CallsK Try.prog 57 [.agg sa_cs.toArray, .agg sb_cs.toArray] w (fun v _ => v = .bool (sameShare sa sb)) :=  by
 have h_sa : Enc.share.rd w ([] ++ O) sa_cs sa := h_sa
 have h_sb : Enc.share.rd w ([] ++ O) sb_cs sb := h_sb
 have s0 : St w O w [] := St.start hO
 refine callsK_of 40 Try.func57 rfl rfl (of_decide_eq_true rfl) (fun F0 => ?_)
 refine cw_seq (?_)
 refine cw_region (by kernel_rfl) (wl_s (o_boxR (E := Enc.share) (Value.agg sa_cs.toArray) (sa_cs) sa rfl rfl h_sa s0 fun a2169 w2170 s2171 m2172 k2173 hp2174 => (?_)))
 have h_sb : Enc.share.rd w2170 ([] ++ O) sb_cs (sb) := Enc.mv Enc.share (x := sb) h_sb m2172
 refine wl_s (o_boxR (E := Enc.share) (Value.agg sb_cs.toArray) (sb_cs) sb rfl rfl h_sb s2171 fun a2175 w2176 s2177 m2178 k2179 hp2180 => (?_))
 have hp2174 := hp2174.mv m2178
 refine wl_s (o_assign (Value.bool false) rfl (wl_nil (thenQ_n (?_))))
 refine cw_seq (?_)
 refine cw_region (by kernel_rfl) (wl_s (o_fieldR 0 f_53_0 (sa.epoch) rfl hp2174 (fun _ _ _ h => Enc_share_f0 h) fun a2181 hp2182 => (wl_s (o_loadI Try.underlying3 rfl rfl hp2182 (wl_s (o_fieldR 0 f_53_0 (sb.epoch) rfl hp2180 (fun _ _ _ h => Enc_share_f0 h) fun a2183 hp2184 => (wl_s (o_loadI Try.underlying3 rfl rfl hp2184 (wl_s (o_eql .i64 sa.epoch sb.epoch rfl rfl (wl_s (o_move (Value.bool (sa.epoch == sb.epoch)) rfl (?_)))))))))))))
 cases hb2185 : (sa.epoch == sb.epoch)
 ·have hp2186 : sa.epoch ≠ sb.epoch := by first | simpa using hb2185 | (have e := hb2185; simp at e; omega)
  refine wl_k rfl (wl_k rfl (wl_k rfl (wl_k rfl (wl_k rfl (wl_s (o_pickF (Value.bool false) rfl rfl (wl_s (o_move (Value.bool false) rfl (wl_k rfl (wl_k rfl (wl_k rfl (wl_k rfl (wl_k rfl (wl_s (o_pickF (Value.bool false) rfl rfl (wl_s (o_move (Value.bool false) rfl (wl_k rfl (wl_k rfl (wl_k rfl (wl_k rfl (wl_k rfl (wl_s (o_pickF (Value.bool false) rfl rfl (wl_s (o_move (Value.bool false) rfl (wl_k rfl (wl_k rfl (wl_k rfl (wl_k rfl (wl_k rfl (wl_k rfl (wl_k rfl (wl_s (o_pickF (Value.bool false) rfl rfl (wl_s (o_assign (Value.bool false) rfl (wl_nil (thenQ_n (?_))))))))))))))))))))))))))))))))))))))))
  refine cw_ret (end_r rfl (res1 rfl rfl rfl) (?_))
  have e : (sameShare sa sb) = false := by simp [sameShare, *]
  exact ⟨_, rfl, s2177.keep, by rw [e]; exact rfl⟩
 ·have hp2187 : sa.epoch = sb.epoch := by first | simpa using hb2185 | (have e := hb2185; simp at e; omega)
  refine wl_t rfl (o_fieldR 1 f_53_1 (sa.index) rfl hp2174 (fun _ _ _ h => Enc_share_f1 h) fun a2188 hp2189 => (wl_t rfl (o_loadI Try.underlying3 rfl rfl hp2189 (wl_t rfl (o_fieldR 1 f_53_1 (sb.index) rfl hp2180 (fun _ _ _ h => Enc_share_f1 h) fun a2190 hp2191 => (wl_t rfl (o_loadI Try.underlying3 rfl rfl hp2191 (wl_t rfl (o_eql .i64 sa.index sb.index rfl rfl (wl_s (o_pickT (Value.bool (sa.index == sb.index)) rfl rfl (wl_s (o_move (Value.bool (sa.index == sb.index)) rfl (?_))))))))))))))
  cases hb2192 : (sa.index == sb.index)
  ·have hp2193 : sa.index ≠ sb.index := by first | simpa using hb2192 | (have e := hb2192; simp at e; omega)
   refine wl_k rfl (wl_k rfl (wl_k rfl (wl_k rfl (wl_k rfl (wl_s (o_pickF (Value.bool false) rfl rfl (wl_s (o_move (Value.bool false) rfl (wl_k rfl (wl_k rfl (wl_k rfl (wl_k rfl (wl_k rfl (wl_s (o_pickF (Value.bool false) rfl rfl (wl_s (o_move (Value.bool false) rfl (wl_k rfl (wl_k rfl (wl_k rfl (wl_k rfl (wl_k rfl (wl_k rfl (wl_k rfl (wl_s (o_pickF (Value.bool false) rfl rfl (wl_s (o_assign (Value.bool false) rfl (wl_nil (thenQ_n (?_)))))))))))))))))))))))))))))))
   refine cw_ret (end_r rfl (res1 rfl rfl rfl) (?_))
   have e : (sameShare sa sb) = false := by simp [sameShare, *]
   exact ⟨_, rfl, s2177.keep, by rw [e]; exact rfl⟩
  ·have hp2194 : sa.index = sb.index := by first | simpa using hb2192 | (have e := hb2192; simp at e; omega)
   refine wl_t rfl (o_fieldR 2 f_53_2 (sa.threshold) rfl hp2174 (fun _ _ _ h => Enc_share_f2 h) fun a2195 hp2196 => (wl_t rfl (o_loadI Try.underlying3 rfl rfl hp2196 (wl_t rfl (o_fieldR 2 f_53_2 (sb.threshold) rfl hp2180 (fun _ _ _ h => Enc_share_f2 h) fun a2197 hp2198 => (wl_t rfl (o_loadI Try.underlying3 rfl rfl hp2198 (wl_t rfl (o_eql .i64 sa.threshold sb.threshold rfl rfl (wl_s (o_pickT (Value.bool (sa.threshold == sb.threshold)) rfl rfl (wl_s (o_move (Value.bool (sa.threshold == sb.threshold)) rfl (?_))))))))))))))
   cases hb2199 : (sa.threshold == sb.threshold)
   ·have hp2200 : sa.threshold ≠ sb.threshold := by first | simpa using hb2199 | (have e := hb2199; simp at e; omega)
    refine wl_k rfl (wl_k rfl (wl_k rfl (wl_k rfl (wl_k rfl (wl_s (o_pickF (Value.bool false) rfl rfl (wl_s (o_move (Value.bool false) rfl (wl_k rfl (wl_k rfl (wl_k rfl (wl_k rfl (wl_k rfl (wl_k rfl (wl_k rfl (wl_s (o_pickF (Value.bool false) rfl rfl (wl_s (o_assign (Value.bool false) rfl (wl_nil (thenQ_n (?_))))))))))))))))))))))
    refine cw_ret (end_r rfl (res1 rfl rfl rfl) (?_))
    have e : (sameShare sa sb) = false := by simp [sameShare, *]
    exact ⟨_, rfl, s2177.keep, by rw [e]; exact rfl⟩
   ·have hp2201 : sa.threshold = sb.threshold := by first | simpa using hb2199 | (have e := hb2199; simp at e; omega)
    refine wl_t rfl (o_fieldR 3 f_53_3 (sa.many) rfl hp2174 (fun _ _ _ h => Enc_share_f3 h) fun a2202 hp2203 => (wl_t rfl (o_loadI Try.underlying3 rfl rfl hp2203 (wl_t rfl (o_fieldR 3 f_53_3 (sb.many) rfl hp2180 (fun _ _ _ h => Enc_share_f3 h) fun a2204 hp2205 => (wl_t rfl (o_loadI Try.underlying3 rfl rfl hp2205 (wl_t rfl (o_eql .i64 sa.many sb.many rfl rfl (wl_s (o_pickT (Value.bool (sa.many == sb.many)) rfl rfl (wl_s (o_move (Value.bool (sa.many == sb.many)) rfl (?_))))))))))))))
    cases hb2206 : (sa.many == sb.many)
    ·have hp2207 : sa.many ≠ sb.many := by first | simpa using hb2206 | (have e := hb2206; simp at e; omega)
     refine wl_k rfl (wl_k rfl (wl_k rfl (wl_k rfl (wl_k rfl (wl_k rfl (wl_k rfl (wl_s (o_pickF (Value.bool false) rfl rfl (wl_s (o_assign (Value.bool false) rfl (wl_nil (thenQ_n (?_)))))))))))))
     refine cw_ret (end_r rfl (res1 rfl rfl rfl) (?_))
     have e : (sameShare sa sb) = false := by simp [sameShare, *]
     exact ⟨_, rfl, s2177.keep, by rw [e]; exact rfl⟩
    ·have hp2208 : sa.many = sb.many := by first | simpa using hb2206 | (have e := hb2206; simp at e; omega)
     refine wl_t rfl (o_fieldR 4 f_53_4 (sa.data) rfl hp2174 (fun _ _ _ h => Enc_share_f4 h) fun a2209 hp2210 => (wl_t rfl (o_loadL Try.underlying28 rfl rfl hp2210 fun v2211 hl2212 => (?_))))
     have := hl2212.len_le
     refine wl_t rfl (o_bytes Try.underlying28 Try.underlying5 Try.underlying9 rfl hl2212 (wl_t rfl (o_fieldR 4 f_53_4 (sb.data) rfl hp2180 (fun _ _ _ h => Enc_share_f4 h) fun a2213 hp2214 => (wl_t rfl (o_loadL Try.underlying28 rfl rfl hp2214 fun v2215 hl2216 => (?_))))))
     have := hl2216.len_le
     refine wl_t rfl (o_bytes Try.underlying28 Try.underlying5 Try.underlying9 rfl hl2216 (wl_t rfl (o_eqlS sa.data sb.data rfl rfl (wl_s (o_pickT (Value.bool (sa.data == sb.data)) rfl rfl (wl_s (o_assign (Value.bool (sa.data == sb.data)) rfl (wl_nil (thenQ_n (?_))))))))))
     refine cw_ret (end_r rfl (res1 rfl rfl rfl) (?_))
     have e : (sameShare sa sb) = (sa.data == sb.data) := by simp [sameShare, *]
     exact ⟨_, rfl, s2177.keep, by rw [e]; exact rfl⟩
set_option maxHeartbeats 4000000 in
set_option maxRecDepth 100000 in
theorem c_same8 {O : List Nat} (la_v : Value) (la : List Share) (lb_v : Value) (lb : List Share) (w : World) (h_la : RdL Enc.share w O la_v la) (h_lb : RdL Enc.share w O lb_v lb) (hO : ∀ b ∈ O, b < w.heap.size) : CallsK Try.prog 34 [la_v, lb_v] w (fun v _ => v = .bool (sameM la lb)) :=  by
 have lim_la := h_la.len_le
 have h_la : RdL Enc.share w ([] ++ O) la_v la := h_la
 have lim_lb := h_lb.len_le
 have h_lb : RdL Enc.share w ([] ++ O) lb_v lb := h_lb
 have s0 : St w O w [] := St.start hO
 refine callsK_of 27 Try.func34 rfl rfl (of_decide_eq_true rfl) (fun F0 => ?_)
 refine cw_seq (?_)
 refine cw_region (by kernel_rfl) (wl_s (o_assign (Value.bool false) rfl (wl_nil (thenQ_n (?_)))))
 refine cw_seq (?_)
 refine cw_seq (?_)
 refine cw_region (by kernel_rfl) (wl_s (o_move (la_v) rfl (wl_s (o_lenR Try.underlying38 rfl h_la (wl_s (o_move (lb_v) rfl (wl_s (o_lenR Try.underlying38 rfl h_lb (wl_s (o_neq .i64 (la.length : Int) (lb.length : Int) rfl rfl (wl_nil (thenQ_n (?_)))))))))))))
 refine cw_cond ((la.length : Int) != (lb.length : Int)) rfl rfl (fun hc2217 => ?_) (fun hc2217 => ?_)
 ·have hp2218 : (la.length : Int) ≠ (lb.length : Int) := by first | simpa using hc2217 | (have e := hc2217; simp at e; omega)
  refine cw_seq (?_)
  refine cw_region (by kernel_rfl) (wl_s (o_assign (Value.bool false) rfl (wl_nil (thenQ_n (?_)))))
  refine cw_ret (thenQ_r (end_r rfl (res1 rfl rfl rfl) (?_)))
  have e : (sameM la lb) = false := by first | (rw [hr0_1]; exact scan_some (by omega) (by ((repeat (first | (refine (if_pos ?_).trans ?_; solve | omega | assumption | (simp only [dbs]; first | done | omega | assumption) | (simp only [*, dbs]; done)) | (refine (if_neg ?_).trans ?_; solve | omega | assumption | (simp only [dbs]; first | done | omega | assumption) | (simp only [*, dbs]; done)))); rfl))) | (rw [hr0_1]; exact scan_end (by omega)) | (unfold sameM; ((repeat (first | (refine (if_pos ?_).trans ?_; solve | omega | assumption | (simp only [dbs]; first | done | omega | assumption) | (simp only [*, dbs]; done)) | (refine (if_neg ?_).trans ?_; solve | omega | assumption | (simp only [dbs]; first | done | omega | assumption) | (simp only [*, dbs]; done)))); rfl))
  exact ⟨_, rfl, s0.keep, by rw [e]; exact rfl⟩
 ·have hp2219 : (la.length : Int) = (lb.length : Int) := by first | simpa using hc2217 | (have e := hc2217; simp at e; omega)
  refine cw_skip (thenQ_n (?_))
  refine cw_seq (?_)
  refine cw_seq (?_)
  refine cw_region (by kernel_rfl) (wl_s (o_assign (vI (0 : Int)) rfl (wl_nil (thenQ_n (?_)))))
  refine cw_block (?_)
  refine cw_loop (fun mI FI wI => ∃ (k : Nat) (B : List Nat), k ≤ la.length ∧ sameM la lb = scan (fun k => if !sameShare la[k]! lb[k]! then some false else none) true k (la.length - k) ∧ mI = la.length - k ∧ (∃ F1, FI = upds F1 [(0, la_v), (1, lb_v), (5, vI ((k : Nat) : Int)), (27, undef)]) ∧ St w O wI B ∧ RdL Enc.share wI (B ++ O) (la_v) (la) ∧ RdL Enc.share wI (B ++ O) (lb_v) (lb)) (la.length - (0)) ?_ ?_
  ·exact ⟨(0), [], (by first | omega | (simp; done) | (simp; omega) | simp_all), (by unfold sameM; ((repeat (first | (refine (if_pos ?_).trans ?_; solve | omega | assumption | (simp only [dbs]; first | done | omega | assumption) | (simp only [*, dbs]; done)) | (refine (if_neg ?_).trans ?_; solve | omega | assumption | (simp only [dbs]; first | done | omega | assumption) | (simp only [*, dbs]; done)))); rfl)), rfl, ⟨_, upds_self _ ⟨rfl, rfl, (by first | rfl | exact congrArg (Value.int _) (by first | omega | (simp))), rfl, trivial⟩⟩, s0, h_la, h_lb⟩
  ·intro ml0 F wl0 hI
   clear h_la h_lb
   obtain ⟨k, Bl0, hr0_0, hr0_1, hm0, ⟨Fl0, rfl⟩, sl0, h_la, h_lb⟩ := hI
   refine cw_seq (?_)
   refine cw_seq (?_)
   refine cw_region (by kernel_rfl) (wl_s (o_move (vI ((k : Nat) : Int)) rfl (wl_s (o_move (la_v) rfl (wl_s (o_lenR Try.underlying38 rfl h_la (wl_s (o_lss .i64 ((k : Nat) : Int) (la.length : Int) rfl rfl (wl_nil (thenQ_n (?_)))))))))))
   refine cw_cond (decide (((k : Nat) : Int) < (la.length : Int))) rfl rfl (fun hc2220 => ?_) (fun hc2220 => ?_)
   ·have hp2221 : ((k : Nat) : Int) < (la.length : Int) := by first | simpa using hc2220 | (have e := hc2220; simp at e; omega)
    refine cw_skip (thenQ_n (?_))
    refine cw_seq (?_)
    refine cw_block (?_)
    refine cw_seq (?_)
    refine cw_draw' 8 _ _ [fun (vT : Value) (wT : World) => RdL Enc.share wT (Bl0 ++ O) vT (la), isV (vI ((k : Nat) : Int)), fun (vT : Value) (wT : World) => ∃ aT, vT = .pointer (some aT) ∧ PT Enc.share wT (Bl0 ++ O) (.pointer (some aT)) (la[k]!), fun (vT : Value) (wT : World) => ∃ csT : List Value, vT = .agg csT.toArray ∧ Enc.share.rd wT (Bl0 ++ O) csT (la[k]!), fun (vT : Value) (wT : World) => RdL Enc.share wT (Bl0 ++ O) vT (lb), isV (vI ((k : Nat) : Int)), fun (vT : Value) (wT : World) => ∃ aT, vT = .pointer (some aT) ∧ PT Enc.share wT (Bl0 ++ O) (.pointer (some aT)) (lb[k]!), fun (vT : Value) (wT : World) => ∃ csT : List Value, vT = .agg csT.toArray ∧ Enc.share.rd wT (Bl0 ++ O) csT (lb[k]!)] (by kernel_rfl) (by kernel_rfl) (by kernel_rfl) (by kernel_rfl) rfl rfl ⟨fun _ _ _ h k => h.mv (Mv.of_keep k), kI, fun _ _ _ ⟨a, e, h⟩ k => ⟨a, e, h.mv (Mv.of_keep k)⟩, fun _ _ _ ⟨a, e, h⟩ k => ⟨a, e, Enc.mv _ h (Mv.of_keep k)⟩, fun _ _ _ h k => h.mv (Mv.of_keep k), kI, fun _ _ _ ⟨a, e, h⟩ k => ⟨a, e, h.mv (Mv.of_keep k)⟩, fun _ _ _ ⟨a, e, h⟩ k => ⟨a, e, Enc.mv _ h (Mv.of_keep k)⟩, trivial⟩ ⟨?_, ?_, ?_, ?_, ?_, ?_, ?_, ?_, trivial⟩ ?_
    ·intro F1 w1 k1 hf hd
     have k0 := (Keep.drew [] wl0).trans k1
     have m1 : Mv Bl0 wl0 Bl0 w1 := Mv.of_keep k0
     have h_la := h_la.mv m1
     obtain ⟨F2, rfl⟩ := lit_of (F := F1) [(0, la_v)] ⟨hf 0 (by kernel_rfl), trivial⟩
     exact sp_plain rfl ((o_move (la_v) rfl (⟨(Keep.refl _ _), h_la⟩)))
    ·intro F1 w1 k1 hf hd
     obtain ⟨F2, rfl⟩ := lit_of (F := F1) [(5, vI ((k : Nat) : Int))] ⟨hf 5 (by kernel_rfl), trivial⟩
     exact sp_plain rfl ((o_move (vI ((k : Nat) : Int)) rfl (⟨(Keep.refl _ _), rfl⟩)))
    ·intro F1 w1 k1 hf hd
     obtain ⟨v2222, e2224, hl2223⟩ : ∃ v, F1 17 = v ∧ RdL Enc.share w1 (Bl0 ++ O) v (la) := ⟨_, rfl, hd 0 17 (by kernel_rfl)⟩
     have := hl2223.len_le
     obtain ⟨F2, rfl⟩ := lit_of (F := F1) [(17, v2222), (18, vI ((k : Nat) : Int))] ⟨e2224, hd 1 18 (by kernel_rfl), trivial⟩
     exact sp_plain rfl ((o_idx Try.underlying38 s_53 .i64 ((k : Nat) : Int) k rfl rfl rfl hl2223 (by omega) fun a2225 hp2226 => (⟨(Keep.refl _ _), ⟨a2225, rfl, hp2226⟩⟩)))
    ·intro F1 w1 k1 hf hd
     obtain ⟨a2227, e2229, hp2228⟩ : ∃ a, F1 19 = .pointer (some a) ∧ PT Enc.share w1 (Bl0 ++ O) (.pointer (some a)) (la[k]!) := hd 2 19 (by kernel_rfl)
     obtain ⟨F2, rfl⟩ := lit_of (F := F1) [(19, Value.pointer (some a2227))] ⟨e2229, trivial⟩
     exact sp_plain rfl ((o_loadS Try.underlying53 rfl s_53 rfl hp2228 fun cs2230 hs2231 => (⟨(Keep.refl _ _), ⟨cs2230, rfl, hs2231⟩⟩)))
    ·intro F1 w1 k1 hf hd
     have k0 := (Keep.drew [] wl0).trans k1
     have m1 : Mv Bl0 wl0 Bl0 w1 := Mv.of_keep k0
     have h_lb := h_lb.mv m1
     obtain ⟨F2, rfl⟩ := lit_of (F := F1) [(1, lb_v)] ⟨hf 1 (by kernel_rfl), trivial⟩
     exact sp_plain rfl ((o_move (lb_v) rfl (⟨(Keep.refl _ _), h_lb⟩)))
    ·intro F1 w1 k1 hf hd
     obtain ⟨F2, rfl⟩ := lit_of (F := F1) [(5, vI ((k : Nat) : Int))] ⟨hf 5 (by kernel_rfl), trivial⟩
     exact sp_plain rfl ((o_move (vI ((k : Nat) : Int)) rfl (⟨(Keep.refl _ _), rfl⟩)))
    ·intro F1 w1 k1 hf hd
     obtain ⟨v2232, e2234, hl2233⟩ : ∃ v, F1 21 = v ∧ RdL Enc.share w1 (Bl0 ++ O) v (lb) := ⟨_, rfl, hd 4 21 (by kernel_rfl)⟩
     have := hl2233.len_le
     obtain ⟨F2, rfl⟩ := lit_of (F := F1) [(21, v2232), (22, vI ((k : Nat) : Int))] ⟨e2234, hd 5 22 (by kernel_rfl), trivial⟩
     exact sp_plain rfl ((o_idx Try.underlying38 s_53 .i64 ((k : Nat) : Int) k rfl rfl rfl hl2233 (by omega) fun a2235 hp2236 => (⟨(Keep.refl _ _), ⟨a2235, rfl, hp2236⟩⟩)))
    ·intro F1 w1 k1 hf hd
     obtain ⟨a2237, e2239, hp2238⟩ : ∃ a, F1 23 = .pointer (some a) ∧ PT Enc.share w1 (Bl0 ++ O) (.pointer (some a)) (lb[k]!) := hd 6 23 (by kernel_rfl)
     obtain ⟨F2, rfl⟩ := lit_of (F := F1) [(23, Value.pointer (some a2237))] ⟨e2239, trivial⟩
     exact sp_plain rfl ((o_loadS Try.underlying53 rfl s_53 rfl hp2238 fun cs2240 hs2241 => (⟨(Keep.refl _ _), ⟨cs2240, rfl, hs2241⟩⟩)))
    intro F2243 w2244 k2242 hT2245 hF2246
    have s2247 := sl0.call k2242
    have m2248 : Mv Bl0 wl0 Bl0 w2244 := Mv.of_keep k2242
    have h_la := h_la.mv m2248
    have h_lb := h_lb.mv m2248
    obtain ⟨cs2250, e2252, hs2251⟩ : ∃ cs : List Value, F2243 20 = .agg cs.toArray ∧ Enc.share.rd w2244 (Bl0 ++ O) cs (la[k]!) := hT2245 3 20 (by kernel_rfl) (by decide)
    obtain ⟨cs2253, e2255, hs2254⟩ : ∃ cs : List Value, F2243 24 = .agg cs.toArray ∧ Enc.share.rd w2244 (Bl0 ++ O) cs (lb[k]!) := hT2245 7 24 (by kernel_rfl) (by decide)
    obtain ⟨F2, rfl⟩ := lit_of (F := F2243) [(0, la_v), (1, lb_v), (5, vI ((k : Nat) : Int)), (27, undef), (20, Value.agg cs2250.toArray), (24, Value.agg cs2253.toArray)] ⟨hF2246 0 (by kernel_rfl), hF2246 1 (by kernel_rfl), hF2246 5 (by kernel_rfl), hF2246 27 (by kernel_rfl), e2252, e2255, trivial⟩
    clear hT2245 hF2246
    refine wl_s (o_callK (vs := [Value.agg cs2250.toArray, Value.agg cs2253.toArray]) enter_57 (c_sameShare (O := Bl0 ++ O) cs2250 (la[k]!) cs2253 (lb[k]!) w2244 hs2251 hs2254 s2247.lt) rfl s2247 fun v2256 w2257 s2258 m2259 k2260 r2261 => (?_))
    obtain rfl := r2261
    have h_la := h_la.mv m2259
    have h_lb := h_lb.mv m2259
    refine wl_s (o_not (sameShare (la[k]!) (lb[k]!)) rfl (wl_nil (thenQ_n (?_))))
    refine cw_cond (!(sameShare (la[k]!) (lb[k]!))) rfl rfl (fun hc2262 => ?_) (fun hc2262 => ?_)
    ·have hp2263 : (sameShare (la[k]!) (lb[k]!)) = false := by first | simpa using hc2262 | (have e := hc2262; simp at e; omega)
     refine cw_seq (?_)
     refine cw_region (by kernel_rfl) (wl_s (o_assign (Value.bool false) rfl (wl_nil (thenQ_n (?_)))))
     refine cw_ret (blockQ_r (thenQ_r (thenQ_r (blockQ_r (thenQ_r (end_r rfl (res1 rfl rfl rfl) (?_)))))))
     have e : (sameM la lb) = false := by first | (rw [hr0_1]; exact scan_some (by omega) (by ((repeat (first | (refine (if_pos ?_).trans ?_; solve | omega | assumption | (simp only [dbs]; first | done | omega | assumption) | (simp only [*, dbs]; done)) | (refine (if_neg ?_).trans ?_; solve | omega | assumption | (simp only [dbs]; first | done | omega | assumption) | (simp only [*, dbs]; done)))); rfl))) | (rw [hr0_1]; exact scan_end (by omega)) | (unfold sameM; ((repeat (first | (refine (if_pos ?_).trans ?_; solve | omega | assumption | (simp only [dbs]; first | done | omega | assumption) | (simp only [*, dbs]; done)) | (refine (if_neg ?_).trans ?_; solve | omega | assumption | (simp only [dbs]; first | done | omega | assumption) | (simp only [*, dbs]; done)))); rfl))
     exact ⟨_, rfl, s2258.keep, by rw [e]; exact rfl⟩
    ·have hp2264 : (sameShare (la[k]!) (lb[k]!)) = true := by first | simpa using hc2262 | (have e := hc2262; simp at e; omega)
     refine cw_skip (blockQ_n (thenQ_n (?_)))
     refine cw_region (by kernel_rfl) (wl_s (o_move (vI ((k : Nat) : Int)) rfl (wl_s (o_add .i64 ((k : Nat) : Int) (1 : Int) (((k + 1 : Nat) : Int)) rfl rfl (w64 (by omega) (by omega)) (wl_s (o_assign (vI ((k + 1 : Nat) : Int)) rfl (wl_nil (thenQ_n (?_)))))))))
     exact ⟨_, (by omega), (k + 1), Bl0, (by first | omega | (simp; done) | (simp; omega) | simp_all), (hr0_1.trans (scan_none (by omega) (by ((repeat (first | (refine (if_pos ?_).trans ?_; solve | omega | assumption | (simp only [dbs]; first | done | omega | assumption) | (simp only [*, dbs]; done)) | (refine (if_neg ?_).trans ?_; solve | omega | assumption | (simp only [dbs]; first | done | omega | assumption) | (simp only [*, dbs]; done)))); rfl)))), rfl, ⟨_, upds_self _ ⟨rfl, rfl, (by first | rfl | exact congrArg (Value.int _) (by first | omega | (simp))), rfl, trivial⟩⟩, s2258, h_la, h_lb⟩
   ·have hp2265 : (la.length : Int) ≤ ((k : Nat) : Int) := by first | simpa using hc2220 | (have e := hc2220; simp at e; omega)
    refine cw_exit (thenQ_x (thenQ_x (blockQ_x (thenQ_n (?_)))))
    refine cw_seq (?_)
    refine cw_region (by kernel_rfl) (wl_s (o_assign (Value.bool true) rfl (wl_nil (thenQ_n (?_)))))
    refine cw_ret (end_r rfl (res1 rfl rfl rfl) (?_))
    have e : (sameM la lb) = true := by first | (rw [hr0_1]; exact scan_some (by omega) (by ((repeat (first | (refine (if_pos ?_).trans ?_; solve | omega | assumption | (simp only [dbs]; first | done | omega | assumption) | (simp only [*, dbs]; done)) | (refine (if_neg ?_).trans ?_; solve | omega | assumption | (simp only [dbs]; first | done | omega | assumption) | (simp only [*, dbs]; done)))); rfl))) | (rw [hr0_1]; exact scan_end (by omega)) | (unfold sameM; ((repeat (first | (refine (if_pos ?_).trans ?_; solve | omega | assumption | (simp only [dbs]; first | done | omega | assumption) | (simp only [*, dbs]; done)) | (refine (if_neg ?_).trans ?_; solve | omega | assumption | (simp only [dbs]; first | done | omega | assumption) | (simp only [*, dbs]; done)))); rfl))
    exact ⟨_, rfl, sl0.keep, by rw [e]; exact rfl⟩
set_option maxHeartbeats 4000000 in
set_option maxRecDepth 100000 in
theorem c_few8 {O : List Nat} (l_v : Value) (l : List Share) (w : World) (h_l : RdL Enc.share w O l_v l) (hO : ∀ b ∈ O, b < w.heap.size) : CallsK Try.prog 29 [l_v] w (fun v _ => v = .bool (fewM l)) :=  by
 have lim_l := h_l.len_le
 have h_l : RdL Enc.share w ([] ++ O) l_v l := h_l
 have s0 : St w O w [] := St.start hO
 refine callsK_of 20 Try.func29 rfl rfl (of_decide_eq_true rfl) (fun F0 => ?_)
 refine cw_seq (?_)
 refine cw_region (by kernel_rfl) (wl_s (o_assign (Value.bool false) rfl (wl_nil (thenQ_n (?_)))))
 refine cw_seq (?_)
 refine cw_seq (?_)
 refine cw_region (by kernel_rfl) (wl_s (o_assign (vI (0 : Int)) rfl (wl_nil (thenQ_n (?_)))))
 refine cw_block (?_)
 refine cw_loop (fun mI FI wI => ∃ (k : Nat), k ≤ l.length ∧ fewM l = scan (fun k => if 70 < (l[k]!.data.length : Int) then some false else none) (decide ((l.length : Int) ≤ 10)) k (l.length - k) ∧ mI = l.length - k ∧ (∃ F1, FI = upds F1 [(0, l_v), (3, vI ((k : Nat) : Int)), (20, undef)]) ∧ w = wI) (l.length - (0)) ?_ ?_
 ·exact ⟨(0), (by first | omega | (simp; done) | (simp; omega) | simp_all), rfl, rfl, ⟨_, upds_self _ ⟨rfl, (by first | rfl | exact congrArg (Value.int _) (by first | omega | (simp))), rfl, trivial⟩⟩, rfl⟩
 ·rintro ml0 F wl0 ⟨k, hr0_0, hr0_1, hm0, ⟨Fl0, rfl⟩, rfl⟩
  refine cw_seq (?_)
  refine cw_seq (?_)
  refine cw_region (by kernel_rfl) (wl_s (o_move (vI ((k : Nat) : Int)) rfl (wl_s (o_move (l_v) rfl (wl_s (o_lenR Try.underlying38 rfl h_l (wl_s (o_lss .i64 ((k : Nat) : Int) (l.length : Int) rfl rfl (wl_nil (thenQ_n (?_)))))))))))
  refine cw_cond (decide (((k : Nat) : Int) < (l.length : Int))) rfl rfl (fun hc2266 => ?_) (fun hc2266 => ?_)
  ·have hp2267 : ((k : Nat) : Int) < (l.length : Int) := by first | simpa using hc2266 | (have e := hc2266; simp at e; omega)
   refine cw_skip (thenQ_n (?_))
   refine cw_seq (?_)
   refine cw_block (?_)
   refine cw_seq (?_)
   refine cw_region (by kernel_rfl) (wl_s (o_move (l_v) rfl (wl_s (o_move (vI ((k : Nat) : Int)) rfl (wl_s (o_idx Try.underlying38 s_53 .i64 ((k : Nat) : Int) k rfl rfl rfl h_l (by omega) fun a2268 hp2269 => (wl_s (o_fieldR 4 f_53_4 ((l[k]!).data) rfl hp2269 (fun _ _ _ h => Enc_share_f4 h) fun a2270 hp2271 => (wl_s (o_loadL Try.underlying28 rfl rfl hp2271 fun v2272 hl2273 => (?_)))))))))))
   have := hl2273.len_le
   refine wl_s (o_lenR Try.underlying28 rfl hl2273 (wl_s (o_gtr .i64 (((l[k]!).data).length : Int) (70 : Int) rfl rfl (wl_nil (thenQ_n (?_))))))
   refine cw_cond (decide ((70 : Int) < (((l[k]!).data).length : Int))) rfl rfl (fun hc2274 => ?_) (fun hc2274 => ?_)
   ·have hp2275 : (70 : Int) < (((l[k]!).data).length : Int) := by first | simpa using hc2274 | (have e := hc2274; simp at e; omega)
    refine cw_seq (?_)
    refine cw_region (by kernel_rfl) (wl_s (o_assign (Value.bool false) rfl (wl_nil (thenQ_n (?_)))))
    refine cw_ret (blockQ_r (thenQ_r (thenQ_r (blockQ_r (thenQ_r (end_r rfl (res1 rfl rfl rfl) (?_)))))))
    have e : (fewM l) = false := by first | (rw [hr0_1]; exact scan_some (by omega) (by ((repeat (first | (refine (if_pos ?_).trans ?_; solve | omega | assumption | (simp only [dbs]; first | done | omega | assumption) | (simp only [*, dbs]; done)) | (refine (if_neg ?_).trans ?_; solve | omega | assumption | (simp only [dbs]; first | done | omega | assumption) | (simp only [*, dbs]; done)))); rfl))) | (rw [hr0_1]; exact scan_end (by omega)) | (unfold fewM; ((repeat (first | (refine (if_pos ?_).trans ?_; solve | omega | assumption | (simp only [dbs]; first | done | omega | assumption) | (simp only [*, dbs]; done)) | (refine (if_neg ?_).trans ?_; solve | omega | assumption | (simp only [dbs]; first | done | omega | assumption) | (simp only [*, dbs]; done)))); rfl))
    exact ⟨_, rfl, s0.keep, by rw [e]; exact rfl⟩
   ·have hp2276 : (((l[k]!).data).length : Int) ≤ (70 : Int) := by first | simpa using hc2274 | (have e := hc2274; simp at e; omega)
    refine cw_skip (blockQ_n (thenQ_n (?_)))
    refine cw_region (by kernel_rfl) (wl_s (o_move (vI ((k : Nat) : Int)) rfl (wl_s (o_add .i64 ((k : Nat) : Int) (1 : Int) (((k + 1 : Nat) : Int)) rfl rfl (w64 (by omega) (by omega)) (wl_s (o_assign (vI ((k + 1 : Nat) : Int)) rfl (wl_nil (thenQ_n (?_)))))))))
    exact ⟨_, (by omega), (k + 1), (by first | omega | (simp; done) | (simp; omega) | simp_all), (hr0_1.trans (scan_none (by omega) (by ((repeat (first | (refine (if_pos ?_).trans ?_; solve | omega | assumption | (simp only [dbs]; first | done | omega | assumption) | (simp only [*, dbs]; done)) | (refine (if_neg ?_).trans ?_; solve | omega | assumption | (simp only [dbs]; first | done | omega | assumption) | (simp only [*, dbs]; done)))); rfl)))), rfl, ⟨_, upds_self _ ⟨rfl, (by first | rfl | exact congrArg (Value.int _) (by first | omega | (simp))), rfl, trivial⟩⟩, rfl⟩
  ·have hp2277 : (l.length : Int) ≤ ((k : Nat) : Int) := by first | simpa using hc2266 | (have e := hc2266; simp at e; omega)
   refine cw_exit (thenQ_x (thenQ_x (blockQ_x (thenQ_n (?_)))))
   refine cw_seq (?_)
   refine cw_region (by kernel_rfl) (wl_s (o_move (l_v) rfl (wl_s (o_lenR Try.underlying38 rfl h_l (wl_s (o_leq .i64 (l.length : Int) (10 : Int) rfl rfl (wl_s (o_assign (Value.bool (decide ((l.length : Int) ≤ (10 : Int)))) rfl (wl_nil (thenQ_n (?_)))))))))))
   refine cw_ret (end_r rfl (res1 rfl rfl rfl) (?_))
   have e : (fewM l) = (decide ((l.length : Int) ≤ (10 : Int))) := by first | (rw [hr0_1]; exact scan_some (by omega) (by ((repeat (first | (refine (if_pos ?_).trans ?_; solve | omega | assumption | (simp only [dbs]; first | done | omega | assumption) | (simp only [*, dbs]; done)) | (refine (if_neg ?_).trans ?_; solve | omega | assumption | (simp only [dbs]; first | done | omega | assumption) | (simp only [*, dbs]; done)))); rfl))) | (rw [hr0_1]; exact scan_end (by omega)) | (unfold fewM; ((repeat (first | (refine (if_pos ?_).trans ?_; solve | omega | assumption | (simp only [dbs]; first | done | omega | assumption) | (simp only [*, dbs]; done)) | (refine (if_neg ?_).trans ?_; solve | omega | assumption | (simp only [dbs]; first | done | omega | assumption) | (simp only [*, dbs]; done)))); rfl))
   exact ⟨_, rfl, s0.keep, by rw [e]; exact rfl⟩

end Go.Proofs.Yteajcgfcnbdmgaa
