/- What the laws of this part rest on: lemmas, and the walks of the functions. No conditions. -/
import Derived.WalkKit
import Derived.WalkSpells
import Derived.WalkLawsBesides
import Derived.RangeFuncLeaves
import Derived.Maps.AppendAt
import Derived.Deep.AppendLies
import Derived.Deep.Slices
import Derived.OpenShut
import Derived.ProofKit
import Derived.Below
import Derived.ChangeSame
import Derived.Carry
import Derived.RangeFuncRecord
import Derived.Laws.Tables
import Derived.Recover
import Derived.DefersIn
import Derived.Lib.AppendZerosOnto
import Derived.Lib.Overlaps
import Derived.Laws.CopyRow
import Derived.Laws.StructEq
import Derived.ChangeKeysEq
import Derived.OrdersIn
import Derived.Test.YtjgfokolnkhafaaRows
import Derived.Test.YtjgfokolnkhafaaPC23
set_option linter.unusedSimpArgs false
set_option linter.unusedVariables false
namespace Go.Proofs.Ytjgfokolnkhafaa
open Go.Fw Go.RowKit
set_option maxHeartbeats 4000000 in
set_option maxRecDepth 100000 in
theorem c_indices1 {O:List Nat} (i:Nat) (l_a:Addr) (l:(List Share)) (w:World) (h_l:PT (Enc.slice Enc.share) w O (.pointer (some l_a)) l) (hpre0:i<l.length) (hO:∀ b∈O,b<w.heap.size):CE Try.prog 89 [vI (i:Int), .pointer (some l_a)] w (fun v _=>v=vB (GQ l[i]!.index)):= by
 have h_l:PT (Enc.slice Enc.share) w ([]++O) (.pointer (some l_a)) l:=h_l
 have s0:St w O w []:=St.start hO
 refine BP 10 Try.func89 rfl rfl oT (fun F0=>?_)
 refine AE (?_)
 refine AB kR (AA (AD (vB (0:UInt8)) rfl (AF (AC (?_)))))
 refine AE (?_)
 refine AB kR (AA (BV U32_ rfl rfl h_l fun v1756 hl1757=>(?_)))
 have:=hl1757.len_le
 refine AA (AG (vI (i:Int)) rfl (AA (DG U32_ DP .i64 (i:Int) i rfl rfl rfl hl1757 oM fun a1758 hp1759=>(AA (BJ 1 QK ((l[i]!).index) rfl hp1759 (fun _ _ _ h=>LW h) fun a1760 hp1761=>(AA (CC U3_ rfl rfl hp1761 (AA (o_u8of .i64 U3_ U5_ ((l[i]!).index) rfl (AA (AD (vB (GQ ((l[i]!).index))) rfl (AF (AC (?_))))))))))))))
 refine AM (AX rfl (CP rfl rfl rfl) (?_))
 have e:(GQ l[i]!.index)=(GQ ((l[i]!).index)):=rfl
 exact ⟨_,rfl,s0.keep,by rw [e];exact rfl⟩
set_option maxHeartbeats 4000000 in
set_option maxRecDepth 100000 in
theorem VU {O:List Nat} (l_v:Value) (l:List Share) (w:World) (h_l:BD Enc.share w O l_v l) (hpre0:l.length≤1000000) (hO:∀ b∈O,b<w.heap.size):CE Try.prog 41 [l_v] w (fun v w'=>∃ (x0:Value),v=x0∧BD Enc.u8 w' (O) x0 (MP l)):= by
 have lim_l:=h_l.len_le
 have h_l:BD Enc.share w ([]++O) l_v l:=h_l
 have s0:St w O w []:=St.start hO
 refine BP 7 Try.func41 rfl rfl oT (fun F0=>?_)
 refine AE (?_)
 refine AB kR (AA (DO (E:=(Enc.slice Enc.share)) (l_v) ([l_v]) l rfl (FB h_l.oneCell) ⟨_,rfl,h_l⟩ s0 fun a1762 w1763 s1764 m1765 k1766 hp1767=>(?_)))
 refine AA (AD (nS) rfl (AF (AC (?_))))
 refine AE (?_)
 refine AB kR (AA (BV U32_ rfl rfl hp1767 fun v1768 hl1769=>(?_)))
 have:=hl1769.len_le
 refine AA (CG U32_ rfl hl1769 (AA (DC (first:=[]) (captured:=[.tmp 1]) [] [vP (some a1762)] rfl rfl (AA (BC (vs:=[vI (l.length:Int),vN (.func 89) #[] #[vP (some a1762)]]) NA (JX (O:=[]++O) (l.length:Int) 89 [vP (some a1762)] (fun i_=>GQ l[i_]!.index) w1763 enter_89 (fun w'_ O'_ kk_ hs_ hl_ i_  hc_=>c_indices1 (O:=O'_) i_ a1762 l w'_ (hp1767.on hs_ kk_) oM hl_) oM s1764.lt) rfl s1764 fun v1770 w1771 s1772 m1773 k1774 r1775=>(?_))))))
 obtain ⟨_,rfl,hl1776⟩:=r1775
 have:=hl1776.len_le
 refine AA (AD (v1770) rfl (AF (AC (?_))))
 refine AM (AX rfl (CP rfl rfl rfl) (?_))
 have e:(MP l)=((List.range ((l.length:Int)).toNat).map (fun i_=>GQ l[i_]!.index)):=rfl
 exact ⟨_,rfl,s1772.keep,by rw [e];exact ⟨v1770,rfl,hl1776.out⟩⟩
set_option maxHeartbeats 4000000 in
set_option maxRecDepth 100000 in
theorem c_column1 {O:List Nat} (i:Nat) (l_a:Addr) (l:(List Share)) (place_a:Addr) (place:Int) (w:World) (h_l:PT (Enc.slice Enc.share) w O (.pointer (some l_a)) l) (h_place:PT Enc.int w O (.pointer (some place_a)) place) (hpre0:i<l.length) (hpre1:0≤place) (hpre2:(place).toNat<l[i]!.data.length) (hO:∀ b∈O,b<w.heap.size):CE Try.prog 90 [vI (i:Int), .pointer (some l_a), .pointer (some place_a)] w (fun v _=>v=vB (l[i]!.data[(place).toNat]!)):= by
 have h_l:PT (Enc.slice Enc.share) w ([]++O) (.pointer (some l_a)) l:=h_l
 have h_place:PT Enc.int w ([]++O) (.pointer (some place_a)) place:=h_place
 have s0:St w O w []:=St.start hO
 refine BP 13 Try.func90 rfl rfl oT (fun F0=>?_)
 refine AE (?_)
 refine AB kR (AA (AD (vB (0:UInt8)) rfl (AF (AC (?_)))))
 refine AE (?_)
 refine cw_draw' 6 _ _ [fun (vT:Value) (wT:World)=>BD Enc.share wT ([]++O) vT (l),DE (vI (i:Int)),fun (vT:Value) (wT:World)=>∃ aT,vT = .pointer (some aT)∧PT Enc.share wT ([]++O) (.pointer (some aT)) (l[i]!),fun (vT:Value) (wT:World)=>∃ aT,vT = .pointer (some aT)∧PT (Enc.slice Enc.u8) wT ([]++O) (.pointer (some aT)) ((l[i]!).data),fun (vT:Value) (wT:World)=>BD Enc.u8 wT ([]++O) vT ((l[i]!).data),DE (vI place)] kR kR kR kR rfl rfl ⟨fun _ _ _ h k=>h.mv (Mv.of_keep k),kI,fun _ _ _ ⟨a,e,h⟩ k=>⟨a,e,h.mv (Mv.of_keep k)⟩,fun _ _ _ ⟨a,e,h⟩ k=>⟨a,e,h.mv (Mv.of_keep k)⟩,fun _ _ _ h k=>h.mv (Mv.of_keep k),kI,trivial⟩ ⟨?_,?_,?_,?_,?_,?_,trivial⟩ ?_
 ·intro F1 w1 k1 hf hd
  have k0:=(Keep.drew [] w).trans k1
  have m1:Mv ([]) w ([]) w1:=Mv.of_keep k0
  have h_l:=h_l.mv m1
  obtain ⟨F2,rfl⟩:=AJ (F:=F1) [(1,vP (some l_a))] ⟨hf 1 kR,trivial⟩
  refine AH rfl ((BV U32_ rfl rfl h_l fun v1777 hl1778=>(?_)))
  have:=hl1778.len_le
  exact ⟨(Keep.refl _ _),hl1778⟩
 ·intro F1 w1 k1 hf hd
  obtain ⟨F2,rfl⟩:=AJ (F:=F1) [(0,vI (i:Int))] ⟨hf 0 kR,trivial⟩
  exact AH rfl ((AG (vI (i:Int)) rfl (⟨(Keep.refl _ _),rfl⟩)))
 ·intro F1 w1 k1 hf hd
  obtain ⟨v1779,e1781,hl1780⟩:∃ v,F1 5=v∧BD Enc.share w1 ([]++O) v (l):=⟨_,rfl,hd 0 5 kR⟩
  have:=hl1780.len_le
  obtain ⟨F2,rfl⟩:=AJ (F:=F1) [(5,v1779),(6,vI (i:Int))] ⟨e1781,hd 1 6 kR,trivial⟩
  exact AH rfl ((DG U32_ DP .i64 (i:Int) i rfl rfl rfl hl1780 oM fun a1782 hp1783=>(⟨(Keep.refl _ _),⟨a1782,rfl,hp1783⟩⟩)))
 ·intro F1 w1 k1 hf hd
  obtain ⟨a1784,e1786,hp1785⟩:∃ aX_,F1 7 = .pointer (some aX_)∧PT Enc.share w1 ([]++O) (.pointer (some aX_)) (l[i]!):=hd 2 7 kR
  obtain ⟨F2,rfl⟩:=AJ (F:=F1) [(7,vP (some a1784))] ⟨e1786,trivial⟩
  exact AH rfl ((BJ 4 GM ((l[i]!).data) rfl hp1785 (fun _ _ _ h=>FJ h) fun a1787 hp1788=>(⟨(Keep.refl _ _),⟨a1787,rfl,hp1788⟩⟩)))
 ·intro F1 w1 k1 hf hd
  obtain ⟨a1789,e1791,hp1790⟩:∃ aX_,F1 8 = .pointer (some aX_)∧PT (Enc.slice Enc.u8) w1 ([]++O) (.pointer (some aX_)) ((l[i]!).data):=hd 3 8 kR
  obtain ⟨F2,rfl⟩:=AJ (F:=F1) [(8,vP (some a1789))] ⟨e1791,trivial⟩
  refine AH rfl ((BV U23_ rfl rfl hp1790 fun v1792 hl1793=>(?_)))
  have:=hl1793.len_le
  exact ⟨(Keep.refl _ _),hl1793⟩
 ·intro F1 w1 k1 hf hd
  have k0:=(Keep.drew [] w).trans k1
  have m1:Mv ([]) w ([]) w1:=Mv.of_keep k0
  have h_place:=h_place.mv m1
  obtain ⟨F2,rfl⟩:=AJ (F:=F1) [(2,vP (some place_a))] ⟨hf 2 kR,trivial⟩
  exact AH rfl ((CC U3_ rfl rfl h_place (⟨(Keep.refl _ _),rfl⟩)))
 intro F1795 w1796 k1794 hT1797 hF1798
 have s1799:=s0.call k1794
 obtain ⟨v1803,e1805,hl1804⟩:∃ v,F1795 9=v∧BD Enc.u8 w1796 ([]++O) v ((l[i]!).data):=⟨_,rfl,hT1797 4 9 kR (by decide)⟩
 have:=hl1804.len_le
 obtain ⟨F2,rfl⟩:=AJ (F:=F1795) [(4,vB (0:UInt8)),(13,undef),(9,v1803),(10,vI place)] ⟨hF1798 4 kR,hF1798 13 kR,e1805,hT1797 5 10 kR (by decide),trivial⟩
 clear hT1797 hF1798
 refine AA (DG U23_ IH .i64 place place.toNat rfl rfl oM hl1804 oM fun a1806 hp1807=>(AA (HG U5_ rfl rfl hp1807 (AA (AD (vB (((l[i]!).data)[place.toNat]!)) rfl (AF (AC (?_))))))))
 refine AM (AX rfl (CP rfl rfl rfl) (?_))
 have e:(l[i]!.data[(place).toNat]!)=(((l[i]!).data)[place.toNat]!):=rfl
 exact ⟨_,rfl,s1799.keep,by rw [e];exact rfl⟩
set_option maxHeartbeats 4000000 in
set_option maxRecDepth 100000 in
theorem c_column {O:List Nat} (l_v:Value) (l:List Share) (place:Nat) (w:World) (h_l:BD Enc.share w O l_v l) (hpre0:l.length≤1000000) (hpre1:∀ k,k<l.length→place<l[k]!.data.length) (hO:∀ b∈O,b<w.heap.size):CE Try.prog 42 [l_v,vI (place:Int)] w (fun v w'=>∃ (x0:Value),v=x0∧BD Enc.u8 w' (O) x0 (EW l place)):= by
 have lim_l:=h_l.len_le
 have h_l:BD Enc.share w ([]++O) l_v l:=h_l
 have s0:St w O w []:=St.start hO
 refine BP 9 Try.func42 rfl rfl oT (fun F0=>?_)
 refine AE (?_)
 refine AB kR (AA (DO (E:=(Enc.slice Enc.share)) (l_v) ([l_v]) l rfl (FB h_l.oneCell) ⟨_,rfl,h_l⟩ s0 fun a1808 w1809 s1810 m1811 k1812 hp1813=>(?_)))
 refine AA (DO (E:=Enc.int) (vI (place:Int)) ([vI (place:Int)]) (place:Int) rfl rfl rfl s1810 fun a1814 w1815 s1816 m1817 k1818 hp1819=>(?_))
 have hp1813:=hp1813.mv m1817
 refine AA (AD (nS) rfl (AF (AC (?_))))
 refine AE (?_)
 refine AB kR (AA (BV U32_ rfl rfl hp1813 fun v1820 hl1821=>(?_)))
 have:=hl1821.len_le
 refine AA (CG U32_ rfl hl1821 (AA (DC (first:=[]) (captured:=[.tmp 2, .tmp 3]) [] [vP (some a1808),vP (some a1814)] rfl rfl (AA (BC (vs:=[vI (l.length:Int),vN (.func 90) #[] #[vP (some a1808),vP (some a1814)]]) NA (JX (O:=[]++O) (l.length:Int) 90 [vP (some a1808),vP (some a1814)] (fun i_=>l[i_]!.data[((place:Int)).toNat]!) w1815 enter_90 (fun w'_ O'_ kk_ hs_ hl_ i_  hc_=>c_column1 (O:=O'_) i_ a1808 l a1814 (place:Int) w'_ (hp1813.on hs_ kk_) (hp1819.on hs_ kk_) oM oM (hpre1 i_ oM) hl_) oM s1816.lt) rfl s1816 fun v1822 w1823 s1824 m1825 k1826 r1827=>(?_))))))
 obtain ⟨_,rfl,hl1828⟩:=r1827
 have:=hl1828.len_le
 refine AA (AD (v1822) rfl (AF (AC (?_))))
 refine AM (AX rfl (CP rfl rfl rfl) (?_))
 have e:(EW l place)=((List.range ((l.length:Int)).toNat).map (fun i_=>l[i_]!.data[((place:Int)).toNat]!)):=rfl
 exact ⟨_,rfl,s1824.keep,by rw [e];exact ⟨v1822,rfl,hl1828.out⟩⟩
set_option maxHeartbeats 4000000 in
set_option maxRecDepth 100000 in
theorem c_join1 {O:List Nat} (p:Nat) (xs_a:Addr) (xs:(List UInt8)) (l_a:Addr) (l:(List Share)) (w:World) (h_xs:PT (Enc.slice Enc.u8) w O (.pointer (some xs_a)) xs) (h_l:PT (Enc.slice Enc.share) w O (.pointer (some l_a)) l) (hpre0:l.length≤1000) (hpre1:xs.length<1000) (hpre2:∀ k,k<l.length→p<l[k]!.data.length) (hO:∀ b∈O,b<w.heap.size):CE Try.prog 62 [vI (p:Int), .pointer (some xs_a), .pointer (some l_a)] w (fun v _=>v=vB ((DA xs (EW l p) 0).1)):= by
 have h_xs:PT (Enc.slice Enc.u8) w ([]++O) (.pointer (some xs_a)) xs:=h_xs
 have h_l:PT (Enc.slice Enc.share) w ([]++O) (.pointer (some l_a)) l:=h_l
 have s0:St w O w []:=St.start hO
 refine BP 16 Try.func62 rfl rfl oT (fun F0=>?_)
 refine AE (?_)
 refine AB kR (AA (AD (vB (0:UInt8)) rfl (AF (AC (?_)))))
 refine AE (?_)
 refine cw_draw' 9 _ _ [fun (vT:Value) (wT:World)=>BD Enc.u8 wT ([]++O) vT (xs),fun (vT:Value) (wT:World)=>BD Enc.share wT ([]++O) vT (l),DE (vI (p:Int)),fun (vT:Value) (wT:World)=>BD Enc.u8 wT ([]++O) vT (EW l p),DE (vT #[vB ((DA xs (EW l p) (0:UInt8)).1),vI ((DA xs (EW l p) (0:UInt8)).2)]),DE (vT #[vB ((DA xs (EW l p) (0:UInt8)).1),vI ((DA xs (EW l p) (0:UInt8)).2)]),DE (vB ((DA xs (EW l p) (0:UInt8)).1)),DE (vI ((DA xs (EW l p) (0:UInt8)).2)),DE (vB ((DA xs (EW l p) (0:UInt8)).1))] kR kR kR kR rfl rfl ⟨fun _ _ _ h k=>h.mv (Mv.of_keep k),fun _ _ _ h k=>h.mv (Mv.of_keep k),kI,fun _ _ _ h k=>h.mv (Mv.of_keep k),kI,kI,kI,kI,kI,trivial⟩ ⟨?_,?_,?_,?_,?_,?_,?_,?_,?_,trivial⟩ ?_
 ·intro F1 w1 k1 hf hd
  have k0:=(Keep.drew [] w).trans k1
  have m1:Mv ([]) w ([]) w1:=Mv.of_keep k0
  have h_xs:=h_xs.mv m1
  obtain ⟨F2,rfl⟩:=AJ (F:=F1) [(1,vP (some xs_a))] ⟨hf 1 kR,trivial⟩
  refine AH rfl ((BV U23_ rfl rfl h_xs fun v1829 hl1830=>(?_)))
  have:=hl1830.len_le
  exact ⟨(Keep.refl _ _),hl1830⟩
 ·intro F1 w1 k1 hf hd
  have k0:=(Keep.drew [] w).trans k1
  have m1:Mv ([]) w ([]) w1:=Mv.of_keep k0
  have h_l:=h_l.mv m1
  obtain ⟨F2,rfl⟩:=AJ (F:=F1) [(2,vP (some l_a))] ⟨hf 2 kR,trivial⟩
  refine AH rfl ((BV U32_ rfl rfl h_l fun v1831 hl1832=>(?_)))
  have:=hl1832.len_le
  exact ⟨(Keep.refl _ _),hl1832⟩
 ·intro F1 w1 k1 hf hd
  obtain ⟨F2,rfl⟩:=AJ (F:=F1) [(0,vI (p:Int))] ⟨hf 0 kR,trivial⟩
  exact AH rfl ((AG (vI (p:Int)) rfl (⟨(Keep.refl _ _),rfl⟩)))
 ·intro F1 w1 k1 hf hd
  have k0:=(Keep.drew [] w).trans k1
  have s1:=s0.call k0
  obtain ⟨v1833,e1835,hl1834⟩:∃ v,F1 9=v∧BD Enc.share w1 ([]++O) v (l):=⟨_,rfl,hd 1 9 kR⟩
  have:=hl1834.len_le
  obtain ⟨F2,rfl⟩:=AJ (F:=F1) [(9,v1833),(10,vI (p:Int))] ⟨e1835,hd 2 10 kR,trivial⟩
  refine AH rfl ((BC (vs:=[v1833,vI (p:Int)]) enter_42 (c_column (O:=[]++O) v1833 l p w1 hl1834 oM hpre2 s1.lt) rfl s1 fun v1836 w1837 s1838 m1839 k1840 r1841=>(?_)))
  obtain ⟨_,rfl,hl1842⟩:=r1841
  have:=hl1842.len_le
  exact ⟨k1840,hl1842⟩
 ·intro F1 w1 k1 hf hd
  have k0:=(Keep.drew [] w).trans k1
  have s1:=s0.call k0
  obtain ⟨v1843,e1845,hl1844⟩:∃ v,F1 8=v∧BD Enc.u8 w1 ([]++O) v (xs):=⟨_,rfl,hd 0 8 kR⟩
  have:=hl1844.len_le
  obtain ⟨v1846,e1848,hl1847⟩:∃ v,F1 11=v∧BD Enc.u8 w1 ([]++O) v (EW l p):=⟨_,rfl,hd 3 11 kR⟩
  have:=hl1847.len_le
  obtain ⟨F2,rfl⟩:=AJ (F:=F1) [(8,v1843),(11,v1846)] ⟨e1845,e1848,trivial⟩
  refine AH rfl ((BC (vs:=[v1843,v1846,vB (0:UInt8)]) enter_63 (c_through (O:=[]++O) v1843 xs v1846 (EW l p) (0:UInt8) w1 hl1844 hl1847 oM s1.lt) rfl s1 fun v1849 w1850 s1851 m1852 k1853 r1854=>(?_)))
  obtain rfl:=r1854
  exact ⟨k1853,rfl⟩
 ·intro F1 w1 k1 hf hd
  obtain ⟨F2,rfl⟩:=AJ (F:=F1) [(12,vT #[vB ((DA xs (EW l p) (0:UInt8)).1),vI ((DA xs (EW l p) (0:UInt8)).2)])] ⟨hd 4 12 kR,trivial⟩
  exact AH rfl ((AG (vT #[vB ((DA xs (EW l p) (0:UInt8)).1),vI ((DA xs (EW l p) (0:UInt8)).2)]) rfl (⟨(Keep.refl _ _),rfl⟩)))
 ·intro F1 w1 k1 hf hd
  obtain ⟨F2,rfl⟩:=AJ (F:=F1) [(7,vT #[vB ((DA xs (EW l p) (0:UInt8)).1),vI ((DA xs (EW l p) (0:UInt8)).2)])] ⟨hd 5 7 kR,trivial⟩
  exact AH rfl ((AK (vB ((DA xs (EW l p) (0:UInt8)).1)) rfl rfl (⟨(Keep.refl _ _),rfl⟩)))
 ·intro F1 w1 k1 hf hd
  obtain ⟨F2,rfl⟩:=AJ (F:=F1) [(7,vT #[vB ((DA xs (EW l p) (0:UInt8)).1),vI ((DA xs (EW l p) (0:UInt8)).2)])] ⟨hd 5 7 kR,trivial⟩
  exact AH rfl ((AK (vI ((DA xs (EW l p) (0:UInt8)).2)) rfl rfl (⟨(Keep.refl _ _),rfl⟩)))
 ·intro F1 w1 k1 hf hd
  obtain ⟨F2,rfl⟩:=AJ (F:=F1) [(13,vB ((DA xs (EW l p) (0:UInt8)).1))] ⟨hd 6 13 kR,trivial⟩
  exact AH rfl ((AD (vB ((DA xs (EW l p) (0:UInt8)).1)) rfl (⟨(Keep.refl _ _),rfl⟩)))
 intro F1856 w1857 k1855 hT1858 hF1859
 have s1860:=s0.call k1855
 obtain ⟨F2,rfl⟩:=AJ (F:=F1856) [(16,undef),(5,vB ((DA xs (EW l p) (0:UInt8)).1)),(14,vI ((DA xs (EW l p) (0:UInt8)).2))] ⟨hF1859 16 kR,hT1858 8 5 kR (by decide),hT1858 7 14 kR (by decide),trivial⟩
 clear hT1858 hF1859
 refine AA (AD (vI ((DA xs (EW l p) (0:UInt8)).2)) rfl (AF (AC (?_))))
 refine AE (?_)
 refine AB kR (AA (AG (vB ((DA xs (EW l p) (0:UInt8)).1)) rfl (AA (AD (vB ((DA xs (EW l p) (0:UInt8)).1)) rfl (AF (AC (?_)))))))
 refine AM (AX rfl (CP rfl rfl rfl) (?_))
 have e:((DA xs (EW l p) 0).1)=((DA xs (EW l p) (0:UInt8)).1):=rfl
 exact ⟨_,rfl,s1860.keep,by rw [e];exact rfl⟩
set_option maxHeartbeats 4000000 in
set_option maxRecDepth 100000 in
theorem c_join {O:List Nat} (l_v:Value) (l:List Share) (w:World) (h_l:BD Enc.share w O l_v l) (hO:∀ b∈O,b<w.heap.size):CE Try.prog 30 [l_v] w (fun v w'=>∃ (x0:Value),v = .tuple #[x0,vI ((CS l).2)]∧BD Enc.u8 w' (O) x0 ((CS l).1)):= by
 have lim_l:=h_l.len_le
 have h_l:BD Enc.share w ([]++O) l_v l:=h_l
 have s0:St w O w []:=St.start hO
 refine BP 34 Try.func30 rfl rfl oT (fun F0=>?_)
 refine AE (?_)
 refine AB kR (AA (o_box (l_v) [l_v] rfl (FB h_l.oneCell) s0 fun b1864 w1865 e1870 s1866 m1867 k1868 bx1869=>(?_)))
 clear e1870
 have h_l:=h_l.mv m1867
 refine AA (AD (nS) rfl (AA (AD (vI 0) rfl (AF (AC (?_))))))
 refine AE (?_)
 refine AE (?_)
 refine AB kR (AA (BF U32_ rfl (l_v) rfl bx1869 rfl (AA (BC (vs:=[l_v]) LM (LN (O:=(b1864 :: [])++O) l_v l w1865 h_l s1866.lt) rfl s1866 fun v1871 w1872 s1873 m1874 k1875 r1876=>(?_)))))
 obtain rfl:=r1876
 have h_l:=h_l.mv m1874
 have bx1869:=bx1869.keep k1875 (by simp)
 refine AA (AD (vI (BR l)) rfl (AF (AC (?_))))
 refine AE (?_)
 refine AB kR (AA (AG (vI (BR l)) rfl (AA (CV .i64 (BR l) (0:Int) rfl rfl (AF (AC (?_)))))))
 refine AL ((BR l) != (0:Int)) rfl rfl (fun hc1877=>?_) (fun hc1877=>?_)
 ·have hp1878:BR l≠(0:Int):=by simpa using hc1877
  refine AE (?_)
  refine AB kR (AA (AG (vI (BR l)) rfl (AA (AD (nS) rfl (AA (AD (vI (BR l)) rfl (AF (AC (?_)))))))))
  refine AM (AP (AX rfl (FE rfl rfl rfl rfl) (?_)))
  have e:(CS l)=([],BR l):=by exact joinM_bad oM rfl
  exact ⟨_,rfl,s1873.keep,by rw [e];exact ⟨.slice none 0 0,rfl,BD.nil _ _ _⟩⟩
 ·have hp1879:BR l=(0:Int):=by simpa using hc1877
  have hv:=(FC l).1 hp1879
  have hpos:=hv.pos
  have ht1:=hv.t1
  have htm:=hv.tm
  have hm8:=hv.m8
  have hd64:=hv.d64
  refine AT (AC (?_))
  refine AE (?_)
  refine AB kR (AA (BF U32_ rfl (l_v) rfl bx1869 rfl (AA (DG U32_ DP .i64 (0:Int) 0 rfl rfl rfl h_l oM fun a1880 hp1881=>(AA (BJ 2 KJ ((l[0]!).threshold) rfl hp1881 (fun _ _ _ h=>MH h) fun a1882 hp1883=>(AA (CC U3_ rfl rfl hp1883 (AA (AD (vI ((l[0]!).threshold)) rfl (AF (AC (?_)))))))))))))
  refine AE (?_)
  refine AE (?_)
  refine AB kR (AA (BF U32_ rfl (l_v) rfl bx1869 rfl (AA (CG U32_ rfl h_l (AA (AG (vI ((l[0]!).threshold)) rfl (AA (DZ .i64 (l.length:Int) ((l[0]!).threshold) rfl rfl (AF (AC (?_)))))))))))
  refine AL (decide ((l.length:Int)<(l[0]!).threshold)) rfl rfl (fun hc1884=>?_) (fun hc1884=>?_)
  ·have hp1885:(l.length:Int)<(l[0]!).threshold:=by simpa using hc1884
   refine AE (?_)
   refine AB kR (AA (AD (nS) rfl (AA (AD (vI 80) rfl (AF (AC (?_)))))))
   refine AM (AP (AX rfl (FE rfl rfl rfl rfl) (?_)))
   have e:(CS l)=([],(80:Int)):=by exact VR oM oM rfl
   exact ⟨_,rfl,s1873.keep,by rw [e];exact ⟨.slice none 0 0,rfl,BD.nil _ _ _⟩⟩
  ·have hp1886:(l[0]!).threshold≤(l.length:Int):=by simpa using hc1884
   have htk:(l.take (l[0]!.threshold).toNat).length=l[0]!.threshold.toNat:=by rw [List.length_take];omega
   refine AT (AC (?_))
   refine AE (?_)
   refine AB kR (AA (BF U32_ rfl (l_v) rfl bx1869 rfl (AA (AG (vI ((l[0]!).threshold)) rfl (AA (AG (vI ((l[0]!).threshold)) rfl (AA (o_slice3R U32_ DP 0 (((l[0]!).threshold).toNat) (((l[0]!).threshold).toNat) rfl (.inl ⟨rfl,rfl⟩) .i64 .i64 ((l[0]!).threshold) ((l[0]!).threshold) rfl oM rfl oM oM oM oM h_l fun v1887 hl1888=>(?_)))))))))
   rw [List.drop_zero] at hl1888
   refine BW (CK (v1887) rfl rfl hl1888.oneCell s_32 (by repeat (constructor)) bx1869 oT s1873 fun w1889 s1890 m1891 k1892 bx1893=>(?_))
   have hl1888:=hl1888.mv m1891
   refine AF (AC (?_))
   refine AE (?_)
   refine AB kR (AA (BF U32_ rfl (v1887) rfl bx1893 rfl (AA (BC (vs:=[v1887]) enter_41 (VU (O:=(b1864 :: [])++O) v1887 (l.take (((l[0]!).threshold).toNat)) w1889 hl1888 oM s1890.lt) rfl s1890 fun v1894 w1895 s1896 m1897 k1898 r1899=>(?_)))))
   obtain ⟨_,rfl,hl1900⟩:=r1899
   have:=hl1900.len_le
   have hl1888:=hl1888.mv m1897
   have bx1893:=bx1893.keep k1898 (by simp)
   refine AA (CY [nS] z_23 rfl s1896 fun b1901 w1902 e1907 s1903 m1904 k1905 bx1906=>(?_))
   have ne1908:FO b1864 b1901:=by show b1864≠b1901;have:=bx1893.lt;omega
   clear e1907
   have hl1888:=hl1888.mv m1904
   have hl1900:=hl1900.mv m1904
   have bx1893:=bx1893.keep k1905 (by simp)
   refine BW (CK (v1894) rfl rfl hl1900.oneCell s_23 (by repeat (constructor)) bx1906 oT s1903 fun w1909 s1910 m1911 k1912 bx1913=>(?_))
   have hl1888:=hl1888.mv m1911
   have hl1900:=hl1900.mv m1911
   have bx1893:=bx1893.keep k1912 (BG ne1908)
   refine AF (AC (?_))
   refine AE (?_)
   refine AB kR (AA (BF U32_ rfl (v1887) rfl bx1893 rfl (AA (DG U32_ DP .i64 (0:Int) 0 rfl rfl rfl hl1888 oM fun a1914 hp1915=>(AA (BJ 4 GM (((l.take (((l[0]!).threshold).toNat))[0]!).data) rfl hp1915 (fun _ _ _ h=>FJ h) fun a1916 hp1917=>(AA (BV U23_ rfl rfl hp1917 fun v1918 hl1919=>(?_)))))))))
   have:=hl1919.len_le
   refine AA (CG U23_ rfl hl1919 (?_))
   obtain ⟨B1920,s1921,m1922,hp1923,hk1924⟩:=bx1913.publish (E:=(Enc.slice Enc.u8)) (u:=MP (l.take (((l[0]!).threshold).toNat))) ⟨_,rfl,hl1900⟩ s1910 (by repeat (constructor))
   have hin_b1864:b1864∈B1920:=hk1924 b1864 (by repeat (constructor)) ne1908
   have hl1888:=hl1888.mv m1922
   have bx1893:=bx1893.keep (Keep.refl [] _) (by simp)
   obtain ⟨B1925,s1926,m1927,hp1928,hk1929⟩:=bx1893.publish (E:=(Enc.slice Enc.share)) (u:=(l.take (((l[0]!).threshold).toNat))) ⟨_,rfl,hl1888⟩ s1921 (by repeat (assumption))
   have hp1923:=hp1923.mv m1927
   refine AA (DC (first:=[]) (captured:=[.tmp 6, .tmp 1]) [] [vP (some ⟨b1901,0,none⟩),vP (some ⟨b1864,0,none⟩)] rfl rfl (AA (BC (vs:=[vI ((((l.take (((l[0]!).threshold).toNat))[0]!).data).length:Int),vN (.func 62) #[] #[vP (some ⟨b1901,0,none⟩),vP (some ⟨b1864,0,none⟩)]]) NA (JX (O:=B1925++O) ((((l.take (((l[0]!).threshold).toNat))[0]!).data).length:Int) 62 [vP (some ⟨b1901,0,none⟩),vP (some ⟨b1864,0,none⟩)] (fun i_=>(DA (MP (l.take (((l[0]!).threshold).toNat))) (EW (l.take (((l[0]!).threshold).toNat)) i_) 0).1) w1909 enter_62 (fun w'_ O'_ kk_ hs_ hl_ i_  hc_=>c_join1 (O:=O'_) i_ (⟨b1901,0,none⟩) (MP (l.take (((l[0]!).threshold).toNat))) (⟨b1864,0,none⟩) (l.take (((l[0]!).threshold).toNat)) w'_ (hp1923.on hs_ kk_) (hp1928.on hs_ kk_) oM (by rw [HX];omega) (fun k hk=>by rw [takeS oM,hv.da k oM];rw [take0 oM] at hc_;omega) hl_) (by rw [take0 oM];omega) s1926.lt) rfl s1926 fun v1930 w1931 s1932 m1933 k1934 r1935=>(?_))))
   obtain ⟨_,rfl,hl1936⟩:=r1935
   have:=hl1936.len_le
   refine AA (AD (v1930) rfl (AF (AC (?_))))
   refine AE (?_)
   refine AB kR (AA (AG (v1930) rfl (AA (AD (v1930) rfl (AA (AD (vI 0) rfl (AF (AC (?_)))))))))
   refine AM (AX rfl (FE rfl rfl rfl rfl) (?_))
   have e:(CS l)=((List.range (((((l.take (((l[0]!).threshold).toNat))[0]!).data).length:Int)).toNat).map (fun i_=>(DA (MP (l.take (((l[0]!).threshold).toNat))) (EW (l.take (((l[0]!).threshold).toNat)) i_) 0).1),(0:Int)):=by exact joinM_ok oM oM rfl
   exact ⟨_,rfl,s1932.keep,by rw [e];exact ⟨v1930,rfl,hl1936.out⟩⟩
open Go.Fw
section
open Go.RowKit
end
theorem expX_zero (l:List Share):IQ l 0=[(0:UInt8)]++MP l:=by simp [IQ]
theorem expX_succ (l:List Share) (m:Nat):IQ l (m+1)=IQ l m++[GQ (9+(m:Int))]:=by simp [IQ,List.range_succ]
theorem expY_eq {l:List Share} {b:UInt8} {p T:Nat} (h:l.length<T) :
    ((List.replicate T (0:UInt8)).set 0 b).take 1++(EW l p).take (((List.replicate T (0:UInt8)).set 0 b).length - 1)++((List.replicate T (0:UInt8)).set 0 b).drop (1+(EW l p).length)=OG l b p (T - 1 - l.length):=by
  obtain ⟨S,rfl⟩:∃ S,T=S+1:=⟨T - 1,by omega⟩
  rw [List.replicate_succ,List.set_cons_zero]
  have h1:(EW l p).take S=EW l p:=List.take_of_length_le (by rw [QG];omega)
  simp only [List.take_succ_cons,List.take_zero,List.length_cons,List.length_replicate,Nat.add_sub_cancel,h1,QG]
  rw [show 1+l.length=l.length+1 by omega,List.drop_succ_cons,List.drop_replicate]
  unfold OG
  rfl
theorem coeff_len_le (xs ys:List UInt8):(EJ xs ys).1.length≤xs.length:=by
  cases h:FL xs ys with
  | true=>rw [coeff_bad h];simp
  | false=>rw [(PV h).2.1.len];exact Nat.le_refl _
theorem expL_len {l:List Share} {secret:List UInt8} {m:Nat} (h:1+l.length+m≤8):∀ p,(OF l secret m p).length≤8*p
  | 0=>by simp [OF]
  | p+1=>by
    unfold OF
    have h1:=expL_len (secret:=secret) h p
    have h2:=coeff_len_le (IQ l m) (OG l secret[p]! p m)
    rw [JT] at h2
    simp only [List.length_append,List.length_drop];omega
theorem u8of_nat' (n:Nat) (h:n<256):(GQ (n:Int)).toNat=n:=by
  rw [u8of_nat,UInt8.toNat_ofNat'];omega
theorem u8of_inj {a b:Int} (ha:0≤a) (ha':a<256) (hb:0≤b) (hb':b<256) (h:GQ a=GQ b):a=b:=by
  obtain ⟨x,rfl⟩:∃ x:Nat,a=(x:Int):=⟨a.toNat,by omega⟩
  obtain ⟨y,rfl⟩:∃ y:Nat,b=(y:Int):=⟨b.toNat,by omega⟩
  have:=congrArg UInt8.toNat h
  rw [u8of_nat' x (by omega),u8of_nat' y (by omega)] at this
  omega
def expI (l:List Share) (i:Nat):Int:=if i=0 then 0 else if i≤l.length then l[i - 1]!.index else 9+((i - 1 - l.length:Nat):Int)
theorem expX_get {l:List Share} {m i:Nat} (h:i<1+l.length+m):(IQ l m)[i]! = GQ (expI l i):=by
  unfold IQ expI
  cases i with
  | zero=>rw [if_pos rfl];rfl
  | succ i=>
    rw [if_neg (by omega),List.cons_append,GW,SL,HX]
    by_cases h1:i<l.length
    · rw [if_pos h1,if_pos (by omega)];unfold MP;rw [GS _ _ _ h1,Nat.add_sub_cancel]
    · rw [if_neg h1,if_neg (by omega),GS _ _ _ (by omega)]
      congr 2
theorem expI_mono {l:List Share} (hg:Good l):∀ (j i:Nat),i<j→expI l i<expI l j:=by
  intro j i hij
  unfold expI
  have hm:=hg.m8
  by_cases hj:j≤l.length
  · rw [if_neg (c:=j=0) (by omega),if_pos hj]
    have h1:=hg.ix (j - 1) (by omega)
    by_cases hi:i=0
    · rw [if_pos hi];omega
    · rw [if_neg hi,if_pos (by omega)];exact hg.mono (j - 1) (i - 1) (by omega) (by omega)
  · rw [if_neg (c:=j=0) (by omega),if_neg hj]
    by_cases hi:i=0
    · rw [if_pos hi];omega
    · rw [if_neg hi]
      by_cases hi2:i≤l.length
      · rw [if_pos hi2];have:=hg.ix (i - 1) (by omega);omega
      · rw [if_neg hi2];omega
theorem UK {l:List Share} (hg:Good l) (i:Nat) (h:i≤100):0≤expI l i∧expI l i<256:=by
  unfold expI
  have hm:=hg.m8
  split
  · omega
  · split
    · have:=hg.ix (i - 1) (by omega);omega
    · omega
theorem expX_nodup {l:List Share} (hg:Good l) {m:Nat} (h:1+l.length+m≤100):(IQ l m).Nodup:=by
  rw [LQ]
  intro i j hij hj he
  rw [JT] at hj
  rw [expX_get (by omega),expX_get hj] at he
  have h1:=UK hg i (by omega)
  have h2:=UK hg j (by omega)
  have:=u8of_inj h1.1 h1.2 h2.1 h2.2 he
  have:=expI_mono hg j i hij
  omega
theorem exp_right {l:List Share} (hg:Good l) {m:Nat} (h:1+l.length+m≤100) (b:UInt8) (p:Nat):FL (IQ l m) (OG l b p m)=false:=
  (QW _ _).2 ⟨by rw [JT,expY_len],expX_nodup hg h⟩
theorem exp_len {l:List Share} (hg:Good l) {m:Nat} (h:1+l.length+m≤100) (b:UInt8) (p:Nat):(EJ (IQ l m) (OG l b p m)).1.length=1+l.length+m:=by
  rw [(PV (exp_right hg h b p)).2.1.len,JT]
theorem QF {l:List Share} {secret:List UInt8} {e:Int} (h:BR l≠0) (he:BR l=e):BH l secret=([],e):=by
  unfold BH;rw [if_pos h,he]
theorem LE {l:List Share} {secret:List UInt8} {e:Int} (h:BR l=0) (h2:l[0]!.threshold≤(l.length:Int)) (he:(80:Int)=e):BH l secret=([],e):=by
  unfold BH;rw [if_neg (by omega),if_pos h2,he]
theorem PH {l:List Share} {secret:List UInt8} {e:Int} (h:BR l=0) (h2:(l.length:Int)<l[0]!.threshold) (h3:(secret.length:Int)≠(l[0]!.data.length:Int)) (he:(1:Int)=e):BH l secret=([],e):=by
  unfold BH;rw [if_neg (by omega),if_neg (by omega),if_pos h3,he]
theorem RH {l:List Share} {secret:List UInt8} {x:List UInt8} (h:BR l=0) (h2:(l.length:Int)<l[0]!.threshold) (h3:(secret.length:Int)=(l[0]!.data.length:Int)) (hx:OF l secret (l[0]!.threshold.toNat - 1 - l.length) secret.length=x):BH l secret=(x,0):=by
  unfold BH;rw [if_neg (by omega),if_neg (by omega),if_neg (by omega),hx]
def TR (l zero:List Share) (n i:Nat):List UInt8:=(List.range n).map fun k=>l[i]!.data[k]! ^^^ zero[i]!.data[k]!
def FS (l:List Share) (f:Share) (zero:List Share) (i:Nat):Share:=⟨l[i]!.epoch+1,l[i]!.index,l[i]!.threshold,l[i]!.many,TR l zero f.data.length i⟩
def HO (f:Share) (coins:List UInt8):List Share × Int:=BU (List.replicate f.data.length 0) f.epoch f.threshold f.many coins
def EB (l:List Share) (coins:List UInt8):Int:=if BR l≠0 then BR l else if (l.length:Int)≠l[0]!.many then 80 else if l[0]!.epoch=1048576 then 81 else (HO l[0]! coins).2
def KC (l:List Share) (coins:List UInt8):List Share:=(List.range l.length).map fun i=>FS l l[0]! (HO l[0]! coins).1 i
def CL (l:List Share) (coins:List UInt8):List Share × Int:=if EB l coins=0 then (KC l coins,0) else ([],EB l coins)
theorem RG {l:List Share} {coins:List UInt8} {x:List Share} (h:EB l coins=0) (hx:KC l coins=x):CL l coins=(x,0):=by
  unfold CL;rw [if_pos h,hx]
theorem HV {l:List Share} {coins:List UInt8} {e:Int} (h:EB l coins=e) (he:e≠0):CL l coins=([],e):=by
  unfold CL;rw [if_neg (by rw [h];exact he),h]
theorem MI (secret:List UInt8) (epoch threshold many:Int) (coins:List UInt8):(BU secret epoch threshold many coins).2=EC secret epoch threshold many coins:=by
  unfold BU;split
  · rename_i h;rw [h]
  · rfl
theorem KI (secret:List UInt8) (epoch threshold many:Int) (coins:List UInt8):(IP secret epoch threshold many coins).length=many.toNat:=by simp [IP]
theorem OQ {secret:List UInt8} {epoch threshold many:Int} {coins:List UInt8} {k:Nat} (h:k<many.toNat):(IP secret epoch threshold many coins)[k]! = EV secret (polysM secret coins threshold) epoch threshold many k:=GS _ _ _ h
theorem MZ (secret:List UInt8) (polys:List (List UInt8)) (epoch threshold many:Int) (k:Nat):(EV secret polys epoch threshold many k).data.length=secret.length:=by simp [EV]
theorem JJ {secret:List UInt8} {epoch threshold many:Int} {coins:List UInt8} (h:(BU secret epoch threshold many coins).2=0):EC secret epoch threshold many coins=0∧(BU secret epoch threshold many coins).1=IP secret epoch threshold many coins:=by
  rw [MI] at h
  exact ⟨h,by unfold BU;rw [if_pos h]⟩
theorem VQ {f:Share} {coins:List UInt8} (h:(HO f coins).2=0):(HO f coins).1.length=f.many.toNat:=by
  unfold HO at *;rw [(JJ h).2,KI]
theorem UC {f:Share} {coins:List UInt8} (h:(HO f coins).2=0) {k:Nat} (hk:k<f.many.toNat):(HO f coins).1[k]!.data.length=f.data.length:=by
  unfold HO at *;rw [(JJ h).2,OQ hk,MZ,List.length_replicate]
open Go.Fw Go.RowKit
set_option maxHeartbeats 4000000 in
set_option maxRecDepth 100000 in
theorem VJ {O:List Nat} (l_v:Value) (l:List Share) (secret_v:Value) (secret:List UInt8) (w:World) (h_l:BD Enc.share w O l_v l) (h_secret:BD Enc.u8 w O secret_v secret) (hO:∀ b∈O,b<w.heap.size):CE Try.prog 15 [l_v,secret_v] w (fun v w'=>∃ (x0:Value),v = .tuple #[x0,vI ((BH l secret).2)]∧(∀ b,x0.ownBlock=some b→w.heap.size≤b)∧EH Enc.u8 5 w.heap.size (x0.ownBlock.toList++(O)) w' x0 ((BH l secret).1)):= by
 have lim_l:=h_l.len_le
 have h_l:BD Enc.share w ([]++O) l_v l:=h_l
 have lim_secret:=h_secret.len_le
 have h_secret:BD Enc.u8 w ([]++O) secret_v secret:=h_secret
 have s0:St w O w []:=St.start hO
 refine BP 86 Try.func15 rfl rfl oT (fun F0=>?_)
 refine AE (?_)
 refine AB kR (AA (AD (.slice none 0 0) rfl (AA (AD (vI 0) rfl (AF (AC (?_)))))))
 refine AE (?_)
 refine AE (?_)
 refine AB kR (AA (AG (l_v) rfl (AA (BC (vs:=[l_v]) LM (LN (O:=[]++O) l_v l w h_l s0.lt) rfl s0 fun v1937 w1938 s1939 m1940 k1941 r1942=>(?_)))))
 obtain rfl:=r1942
 have h_l:=h_l.mv m1940
 have h_secret:=h_secret.mv m1940
 refine AA (AD (vI (BR l)) rfl (AF (AC (?_))))
 refine AE (?_)
 refine AB kR (AA (AG (vI (BR l)) rfl (AA (CV .i64 (BR l) (0:Int) rfl rfl (AF (AC (?_)))))))
 refine AL ((BR l) != (0:Int)) rfl rfl (fun hc1943=>?_) (fun hc1943=>?_)
 ·have hp1944:BR l≠(0:Int):=by simpa using hc1943
  refine AE (?_)
  refine AB kR (AA (AG (vI (BR l)) rfl (AA (AD (.slice none 0 0) rfl (AA (AD (vI (BR l)) rfl (AF (AC (?_)))))))))
  refine AM (AP (AX rfl (FE rfl rfl rfl rfl) (?_)))
  have e:(BH l secret)=([],BR l):=by exact QF oM rfl
  exact ⟨_,rfl,s1939.keep,by rw [e];exact ⟨.slice none 0 0,rfl,(fun b hb=>by simp [Value.ownBlock] at hb),EH.nil _ _ _ _ _⟩⟩
 ·have hp1945:BR l=(0:Int):=by simpa using hc1943
  have hv:=(FC l).1 hp1945
  have hpos:=hv.pos
  have ht1:=hv.t1
  have htm:=hv.tm
  have hm8:=hv.m8
  have hd64:=hv.d64
  refine AT (AC (?_))
  refine AE (?_)
  refine AB kR (AA (AG (l_v) rfl (AA (DG U32_ DP .i64 (0:Int) 0 rfl rfl rfl h_l oM fun a1946 hp1947=>(AA (BJ 2 KJ ((l[0]!).threshold) rfl hp1947 (fun _ _ _ h=>MH h) fun a1948 hp1949=>(AA (CC U3_ rfl rfl hp1949 (AA (AG (l_v) rfl (AA (CG U32_ rfl h_l (AA (AD (vI ((l[0]!).threshold)) rfl (AA (AD (vI (l.length:Int)) rfl (AF (AC (?_)))))))))))))))))))
  refine AE (?_)
  refine AE (?_)
  refine AB kR (AA (AG (vI (l.length:Int)) rfl (AA (AG (vI ((l[0]!).threshold)) rfl (AA (JH .i64 (l.length:Int) ((l[0]!).threshold) rfl rfl (AF (AC (?_)))))))))
  refine AL (decide ((l[0]!).threshold≤(l.length:Int))) rfl rfl (fun hc1950=>?_) (fun hc1950=>?_)
  ·have hp1951:(l[0]!).threshold≤(l.length:Int):=by simpa using hc1950
   refine AE (?_)
   refine AB kR (AA (AD (.slice none 0 0) rfl (AA (AD (vI 80) rfl (AF (AC (?_)))))))
   refine AM (AP (AX rfl (FE rfl rfl rfl rfl) (?_)))
   have e:(BH l secret)=([],(80:Int)):=by exact LE oM oM rfl
   exact ⟨_,rfl,s1939.keep,by rw [e];exact ⟨.slice none 0 0,rfl,(fun b hb=>by simp [Value.ownBlock] at hb),EH.nil _ _ _ _ _⟩⟩
  ·have hp1952:(l.length:Int)<(l[0]!).threshold:=by simpa using hc1950
   refine AT (AC (?_))
   refine AE (?_)
   refine AE (?_)
   refine AB kR (AA (AG (secret_v) rfl (AA (CG U23_ rfl h_secret (AA (AG (l_v) rfl (AA (DG U32_ DP .i64 (0:Int) 0 rfl rfl rfl h_l oM fun a1953 hp1954=>(AA (BJ 4 GM ((l[0]!).data) rfl hp1954 (fun _ _ _ h=>FJ h) fun a1955 hp1956=>(AA (BV U23_ rfl rfl hp1956 fun v1957 hl1958=>(?_)))))))))))))
   have:=hl1958.len_le
   refine AA (CG U23_ rfl hl1958 (AA (CV .i64 (secret.length:Int) (((l[0]!).data).length:Int) rfl rfl (AF (AC (?_))))))
   refine AL ((secret.length:Int) != (((l[0]!).data).length:Int)) rfl rfl (fun hc1959=>?_) (fun hc1959=>?_)
   ·have hp1960:(secret.length:Int)≠(((l[0]!).data).length:Int):=by simpa using hc1959
    refine AE (?_)
    refine AB kR (AA (AD (.slice none 0 0) rfl (AA (AD (vI 1) rfl (AF (AC (?_)))))))
    refine AM (AP (AX rfl (FE rfl rfl rfl rfl) (?_)))
    have e:(BH l secret)=([],(1:Int)):=by exact PH oM oM oM rfl
    exact ⟨_,rfl,s1939.keep,by rw [e];exact ⟨.slice none 0 0,rfl,(fun b hb=>by simp [Value.ownBlock] at hb),EH.nil _ _ _ _ _⟩⟩
   ·have hp1961:(secret.length:Int)=(((l[0]!).data).length:Int):=by simpa using hc1959
    refine AT (AC (?_))
    refine AE (?_)
    refine AB kR (AA (HU (E:=Enc.u8) (xs:=[.const (vB (0:UInt8))]) U23_ IH z_5 (by decide) [vB (0:UInt8)] [[vB (0:UInt8)]] [(0:UInt8)] rfl rfl rfl (Parts.cons rfl rfl (Parts.nil _ _ _)) oT s1939 fun v1966 b1968 w1962 e1969 hb1970 s1963 m1964 k1965 hl1967=>(?_)))
    have hB1971:∀ b,v1966.ownBlock=some b→b∈(b1968 :: []):=fun b hb=>by rw [hb1970] at hb;cases hb;simp
    clear e1969 hb1970
    have h_l:=h_l.mv m1964
    have h_secret:=h_secret.mv m1964
    refine AA (AG (l_v) rfl (AA (BC (vs:=[l_v]) enter_41 (VU (O:=(b1968 :: [])++O) l_v l w1962 h_l oM s1963.lt) rfl s1963 fun v1972 w1973 s1974 m1975 k1976 r1977=>(?_))))
    obtain ⟨_,rfl,hl1978⟩:=r1977
    have:=hl1978.len_le
    have h_l:=h_l.mv m1975
    have h_secret:=h_secret.mv m1975
    have hl1967:=hl1967.mv m1975 k1976 (by simp)
    refine AA (DJ (E:=Enc.u8) (l:=[(0:UInt8)]) (m:=MP l) U23_ i_5 rfl (by decide) rfl rfl hl1967 hl1978 (fun _ hb=>.inl hb) hB1971 (by rw [HX];simp;omega) (by rw [HX];simp [maxLen];omega) s1974 fun v1983 w1979 B1985 hB1986 at1987 sub1988 s1980 m1981 k1982 ho1984=>(?_))
    have h_l:=h_l.mv m1981
    have h_secret:=h_secret.mv m1981
    refine AA (AD (v1983) rfl (AF (AC (?_))))
    refine AE (?_)
    refine AE (?_)
    refine AB kR (AA (AG (vI ((l[0]!).threshold)) rfl (AA (ID .i64 ((l[0]!).threshold) (1:Int) (((l[0]!.threshold.toNat - 1:Nat):Int)) rfl rfl (FT oM oM) (AA (AG (vI (l.length:Int)) rfl (AA (ID .i64 ((l[0]!.threshold.toNat - 1:Nat):Int) (l.length:Int) ((((l[0]!.threshold.toNat - 1 - l.length):Nat):Int)) rfl rfl (FT oM oM) (AA (AG (vI 0) rfl (AF (AC (?_)))))))))))))
    refine BQ (?_)
    refine DI (fun mI FI wI=>∃ (q:Nat) (vo0_9:Value) (B:List Nat),q≤(l[0]!.threshold.toNat - 1 - l.length)∧mI=(l[0]!.threshold.toNat - 1 - l.length) - q∧(∃ F1,FI=FR F1 [(0,l_v),(1,secret_v),(4,nS),(7,vI ((l[0]!).threshold)),(9,vo0_9),(45,vI (((l[0]!.threshold.toNat - 1 - l.length):Nat):Int)),(46,vI ((q:Nat):Int)),(86,undef)])∧St w O wI B∧EH Enc.u8 5 w.heap.size (B++O) wI vo0_9 ((IQ l q))∧(∀ b,vo0_9.ownBlock=some b→b∈B)∧BD Enc.share wI (B++O) (l_v) (l)∧BD Enc.u8 wI (B++O) (secret_v) (secret)) ((l[0]!.threshold.toNat - 1 - l.length) - (0)) ?_ ?_
    ·exact ⟨(0),v1983,B1985,oM,rfl,⟨_,AY _ ⟨rfl,rfl,rfl,rfl,rfl,rfl,(by rfl),rfl,trivial⟩⟩,s1980,(by rw [show (IQ l (0))=([(0:UInt8)])++(MP l) from expX_zero l];exact ho1984),hB1986,h_l,h_secret⟩
    ·intro ml0 F wl0 hI
     clear h_l h_secret
     obtain ⟨q,vo0_9,Bl0,hr0_0,hm0,⟨Fl0,rfl⟩,sl0,ho0_9,hB0_9,h_l,h_secret⟩:=hI
     refine AE (?_)
     refine AB kR (AA (DZ .i64 ((q:Nat):Int) (((l[0]!.threshold.toNat - 1 - l.length):Nat):Int) rfl rfl (AF (AC (?_)))))
     refine AE (?_)
     refine AL (decide (((q:Nat):Int)<(((l[0]!.threshold.toNat - 1 - l.length):Nat):Int))) rfl rfl (fun hc1989=>?_) (fun hc1989=>?_)
     ·have hp1990:((q:Nat):Int)<(((l[0]!.threshold.toNat - 1 - l.length):Nat):Int):=by simpa using hc1989
      refine AT (AC (?_))
      refine AE (?_)
      refine BQ (?_)
      refine AE (?_)
      refine AB kR (AA (AG (vI ((q:Nat):Int)) rfl (AA (AD (vI ((q:Nat):Int)) rfl (AF (AC (?_)))))))
      refine AB kR (AA (AG (vo0_9) rfl (AA (AG (vI ((q:Nat):Int)) rfl (AA (DD .i64 (9:Int) ((q:Nat):Int) ((9:Int)+((q:Nat):Int)) rfl rfl (FT oM oM) (AA (o_u8of .i64 U3_ U5_ ((9:Int)+((q:Nat):Int)) rfl (AA (IY (E:=Enc.u8) (xs:=[.tmp 52]) U23_ IH z_5 (by decide) [vB (GQ ((9:Int)+((q:Nat):Int)))] [[vB (GQ ((9:Int)+((q:Nat):Int)))]] [GQ ((9:Int)+((q:Nat):Int))] rfl rfl rfl (Parts.cons rfl rfl (Parts.nil _ _ _)) oT sl0 fun v1995 w1991 s1992 m1993 k1994 hl1996=>(?_)))))))))))
      have h_l:=h_l.mv m1993
      have h_secret:=h_secret.mv m1993
      have ho0_9:=ho0_9.mv m1993 k1994 (by simp)
      have:=hl1996.len_le
      refine AA (DJ (E:=Enc.u8) (l:=(IQ l q)) (m:=[GQ ((9:Int)+((q:Nat):Int))]) U23_ i_5 rfl (by decide) rfl rfl ho0_9 hl1996 (fun _ hb=>.inl hb) hB0_9 (by rw [JT];simp;omega) (by rw [JT];simp [maxLen];omega) s1992 fun v2001 w1997 B2003 hB2004 at2005 sub2006 s1998 m1999 k2000 ho2002=>(?_))
      have h_l:=h_l.mv m1999
      have h_secret:=h_secret.mv m1999
      refine AA (AD (v2001) rfl (AF (CI (AC (?_)))))
      refine AB kR (AA (DD .i64 ((q:Nat):Int) (1:Int) (((q+1:Nat):Int)) rfl rfl (FT oM oM) (AA (AG (vI ((q+1:Nat):Int)) rfl (AF (AC (?_)))))))
      exact ⟨_,oM,(q+1),v2001,B2003,oM,rfl,⟨_,AY _ ⟨rfl,rfl,rfl,rfl,rfl,rfl,(by rfl),rfl,trivial⟩⟩,s1998,(by rw [show (IQ l (q+1))=(IQ l q)++([GQ ((9:Int)+((q:Nat):Int))]) from expX_succ _ _];exact ho2002),hB2004,h_l,h_secret⟩
     ·have hp2007:(((l[0]!.threshold.toNat - 1 - l.length):Nat):Int)≤((q:Nat):Int):=by simpa using hc1989
      obtain rfl:q=(l[0]!.threshold.toNat - 1 - l.length):=by omega
      refine DH (CD (CD (DB (AC (?_)))))
      refine AE (?_)
      refine AE (?_)
      refine AB kR (AA (AG (secret_v) rfl (AA (CG U23_ rfl h_secret (AA (AG (vI 0) rfl (AF (AC (?_)))))))))
      refine BQ (?_)
      obtain ⟨B2008,s2009,m2010,hl2011,hk2012⟩:=ho0_9.publish sl0
      have lim2013:=hl2011.len_le
      have h_l:=h_l.mv m2010
      have h_secret:=h_secret.mv m2010
      refine DI (fun mI FI wI=>∃ (k:Nat) (vo1_4:Value) (B:List Nat),k≤secret.length∧mI=secret.length - k∧(∃ F1,FI=FR F1 [(0,l_v),(4,vo1_4),(7,vI ((l[0]!).threshold)),(9,vo0_9),(56,secret_v),(57,vI (secret.length:Int)),(58,vI ((k:Nat):Int)),(86,undef)])∧St w O wI B∧EH Enc.u8 5 w.heap.size (B++O) wI vo1_4 ((OF l secret (l[0]!.threshold.toNat - 1 - l.length) k))∧(∀ b,vo1_4.ownBlock=some b→b∈B)∧BD Enc.share wI (B++O) (l_v) (l)∧BD Enc.u8 wI (B++O) (vo0_9) ((IQ l (l[0]!.threshold.toNat - 1 - l.length)))∧BD Enc.u8 wI (B++O) (secret_v) (secret)) (secret.length - (0)) ?_ ?_
      ·exact ⟨(0),(.slice none 0 0),B2008,oM,rfl,⟨_,AY _ ⟨rfl,rfl,rfl,rfl,rfl,rfl,(by rfl),rfl,trivial⟩⟩,s2009,(by rw [show (OF l secret (l[0]!.threshold.toNat - 1 - l.length) (0))=[] from rfl];exact (EH.nil Enc.u8 5 _ _ _)),(by intro b hb;simp [Value.ownBlock] at hb),h_l,hl2011,h_secret⟩
      ·intro ml1 F wl1 hI
       clear h_l hl2011 h_secret
       obtain ⟨k,vo1_4,Bl1,hr1_0,hm1,⟨Fl1,rfl⟩,sl1,ho1_4,hB1_4,h_l,hl2011,h_secret⟩:=hI
       have hco:=fun b=>exp_len hv.toGood (m:=(l[0]!.threshold.toNat - 1 - l.length)) oM b k
       have hel:=expL_len (l:=l) (secret:=secret) (m:=(l[0]!.threshold.toNat - 1 - l.length)) oM k
       refine AE (?_)
       refine AB kR (AA (DZ .i64 ((k:Nat):Int) (secret.length:Int) rfl rfl (AF (AC (?_)))))
       refine AE (?_)
       refine AL (decide (((k:Nat):Int)<(secret.length:Int))) rfl rfl (fun hc2014=>?_) (fun hc2014=>?_)
       ·have hp2015:((k:Nat):Int)<(secret.length:Int):=by simpa using hc2014
        refine AT (AC (?_))
        refine AE (?_)
        refine BQ (?_)
        refine AE (?_)
        refine AB kR (AA (AG (vI ((k:Nat):Int)) rfl (AA (DG U23_ IH .i64 ((k:Nat):Int) k rfl rfl rfl h_secret oM fun a2016 hp2017=>(AA (HG U5_ rfl rfl hp2017 (AA (AD (vI ((k:Nat):Int)) rfl (AA (AD (vB (secret[k]!)) rfl (AF (AC (?_)))))))))))))
        refine AE (?_)
        refine AB kR (AA (AG (vI ((l[0]!).threshold)) rfl (AA (UL (E:=Enc.u8) U23_ i_5 [vB (0:UInt8)] rfl rfl (by decide) (0:UInt8) (fun _ _=>rfl) .i64 .i64 ((l[0]!).threshold) ((l[0]!).threshold) (((l[0]!).threshold).toNat) (((l[0]!).threshold).toNat) rfl rfl oM oM oM oM (by simp only [maxLen];omega) sl1 fun v2022 b2024 w2018 e2025 hb2026 s2019 m2020 k2021 hl2023=>(?_)))))
        have ne2027:∀ b,vo1_4.ownBlock=some b→v2022.ownBlock≠some b:=fun b hb=>by have:=(ho1_4.lt b hb).2;rw [hb2026];intro e;cases e;omega
        have ne2027':∀ b,v2022.ownBlock=some b→vo1_4.ownBlock≠some b:=fun b hb e=>ne2027 b e hb
        have hB2028:∀ b,v2022.ownBlock=some b→b∈(b2024 :: Bl1):=fun b hb=>by rw [hb2026] at hb;cases hb;simp
        clear e2025 hb2026
        have hB1_4:∀ b,vo1_4.ownBlock=some b→b∈(b2024 :: Bl1):=fun b hb=>List.mem_cons_of_mem _ (hB1_4 b hb)
        have h_l:=h_l.mv m2020
        have ho1_4:=ho1_4.mv m2020 k2021 (by simp)
        have hl2011:=hl2011.mv m2020
        have h_secret:=h_secret.mv m2020
        refine AA (AD (v2022) rfl (AF (AC (?_))))
        refine AE (?_)
        refine AB kR (AA (AG (v2022) rfl (AA (AG (vB (secret[k]!)) rfl (AA (EP U23_ IH .i64 (0:Int) 0 rfl rfl rfl hl2023 (by (simp only [List.length_set,List.length_append,List.length_cons,List.length_nil,List.length_replicate];omega)) fun b2029 hb2030=>(BW (JW (secret[k]!) IH rfl rfl rfl hl2023 hb2030 (hB2028 _ hb2030) (by (simp only [List.length_set,List.length_append,List.length_cons,List.length_nil,List.length_replicate];omega)) rfl s2019 fun w2031 s2032 m2033 k2034 bx2035=>(?_)))))))))
        have h_l:=h_l.mv m2033
        have ho1_4:=ho1_4.mv m2033 k2034 (fun b hb=>by simp only [List.mem_singleton];rintro rfl;exact absurd hb2030 (ne2027 _ hb))
        have hl2011:=hl2011.mv m2033
        have h_secret:=h_secret.mv m2033
        refine AF (AC (?_))
        refine AE (?_)
        refine cw_draw' 5 _ _ [DE v2022,fun (vT:Value) (_:World)=>SubOf v2022 1 1 vT,fun (vT:Value) (wT:World)=>BD Enc.share wT ((b2024 :: Bl1)++O) vT (l),DE (vI ((k:Nat):Int)),fun (vT:Value) (wT:World)=>BD Enc.u8 wT ((b2024 :: Bl1)++O) vT (EW l k)] kR kR kR kR rfl rfl ⟨kI,fun _ _ _ h _=>h,fun _ _ _ h k=>h.mv (Mv.of_keep k),kI,fun _ _ _ h k=>h.mv (Mv.of_keep k),trivial⟩ ⟨?_,?_,?_,?_,?_,trivial⟩ ?_
        ·intro F1 w1 k1 hf hd
         obtain ⟨F2,rfl⟩:=AJ (F:=F1) [(13,v2022)] ⟨hf 13 kR,trivial⟩
         exact AH rfl ((AG (v2022) rfl (⟨(Keep.refl _ _),rfl⟩)))
        ·intro F1 w1 k1 hf hd
         have k0:=(Keep.drew [] w2031).trans k1
         have m1:Mv (b2024 :: Bl1) w2031 (b2024 :: Bl1) w1:=Mv.of_keep k0
         have bx2035:=bx2035.mv m1 k0 (by simp)
         obtain ⟨F2,rfl⟩:=AJ (F:=F1) [(68,v2022)] ⟨hd 0 68 kR,trivial⟩
         exact AH rfl ((TG U23_ IH 1 .i64 (1:Int) rfl rfl rfl (by rw [List.length_set,List.length_replicate];omega) bx2035 fun v2036 hs2037=>(⟨(Keep.refl _ _),hs2037⟩)))
        ·intro F1 w1 k1 hf hd
         have k0:=(Keep.drew [] w2031).trans k1
         have m1:Mv (b2024 :: Bl1) w2031 (b2024 :: Bl1) w1:=Mv.of_keep k0
         have h_l:=h_l.mv m1
         obtain ⟨F2,rfl⟩:=AJ (F:=F1) [(0,l_v)] ⟨hf 0 kR,trivial⟩
         exact AH rfl ((AG (l_v) rfl (⟨(Keep.refl _ _),h_l⟩)))
        ·intro F1 w1 k1 hf hd
         obtain ⟨F2,rfl⟩:=AJ (F:=F1) [(11,vI ((k:Nat):Int))] ⟨hf 11 kR,trivial⟩
         exact AH rfl ((AG (vI ((k:Nat):Int)) rfl (⟨(Keep.refl _ _),rfl⟩)))
        ·intro F1 w1 k1 hf hd
         have k0:=(Keep.drew [] w2031).trans k1
         have s1:=s2032.call k0
         obtain ⟨v2038,e2040,hl2039⟩:∃ v,F1 70=v∧BD Enc.share w1 ((b2024 :: Bl1)++O) v (l):=⟨_,rfl,hd 2 70 kR⟩
         have:=hl2039.len_le
         obtain ⟨F2,rfl⟩:=AJ (F:=F1) [(70,v2038),(71,vI ((k:Nat):Int))] ⟨e2040,hd 3 71 kR,trivial⟩
         refine AH rfl ((BC (vs:=[v2038,vI ((k:Nat):Int)]) enter_42 (c_column (O:=(b2024 :: Bl1)++O) v2038 l k w1 hl2039 oM (fun j hj=>by rw [hv.da j hj];omega) s1.lt) rfl s1 fun v2041 w2042 s2043 m2044 k2045 r2046=>(?_)))
         obtain ⟨_,rfl,hl2047⟩:=r2046
         have:=hl2047.len_le
         exact ⟨k2045,hl2047⟩
        intro F2049 w2050 k2048 hT2051 hF2052
        have s2053:=s2032.call k2048
        have m2054:Mv (b2024 :: Bl1) w2031 (b2024 :: Bl1) w2050:=Mv.of_keep k2048
        have h_l:=h_l.mv m2054
        have ho1_4:=ho1_4.mv m2054 k2048 (by simp)
        have hl2011:=hl2011.mv m2054
        have bx2035:=bx2035.mv m2054 k2048 (by simp)
        have h_secret:=h_secret.mv m2054
        obtain ⟨v2057,e2058,hs2059⟩:∃ v,F2049 69=v∧SubOf v2022 1 1 v:=⟨_,rfl,hT2051 1 69 kR (by decide)⟩
        obtain ⟨v2060,e2062,hl2061⟩:∃ v,F2049 72=v∧BD Enc.u8 w2050 ((b2024 :: Bl1)++O) v (EW l k):=⟨_,rfl,hT2051 4 72 kR (by decide)⟩
        have:=hl2061.len_le
        obtain ⟨F2,rfl⟩:=AJ (F:=F2049) [(0,l_v),(4,vo1_4),(7,vI ((l[0]!).threshold)),(9,vo0_9),(13,v2022),(56,secret_v),(57,vI (secret.length:Int)),(58,vI ((k:Nat):Int)),(86,undef),(69,v2057),(72,v2060)] ⟨hF2052 0 kR,hF2052 4 kR,hF2052 7 kR,hF2052 9 kR,hF2052 13 kR,hF2052 56 kR,hF2052 57 kR,hF2052 58 kR,hF2052 86 kR,e2058,e2062,trivial⟩
        clear hT2051 hF2052
        refine AA (o_copyO (l:=((List.replicate (((l[0]!).threshold).toNat) (0:UInt8)).set 0 (secret[k]!))) (m:=(EW l k)) U23_ IH rfl rfl hs2059 bx2035 hB2028 hl2061 (by rw [List.length_set,List.length_replicate];omega) s2053 fun v2063 w2064 s2065 m2066 k2067 ho2068=>(?_))
        rw [show ((List.replicate (((l[0]!).threshold).toNat) (0:UInt8)).set 0 (secret[k]!)).take 1++(EW l k).take (((List.replicate (((l[0]!).threshold).toNat) (0:UInt8)).set 0 (secret[k]!)).length - 1)++((List.replicate (((l[0]!).threshold).toNat) (0:UInt8)).set 0 (secret[k]!)).drop (1+(EW l k).length)=OG l secret[k]! k (l[0]!.threshold.toNat - 1 - l.length) from expY_eq oM] at ho2068
        have h_l:=h_l.mv m2066
        have ho1_4:=ho1_4.mv m2066 k2067 (fun b hb=>by simp only [Option.mem_toList];exact ne2027 b hb)
        have hl2011:=hl2011.mv m2066
        have h_secret:=h_secret.mv m2066
        refine AF (AC (?_))
        refine AE (?_)
        refine AB kR (AA (AG (vo0_9) rfl (AA (AG (v2022) rfl (?_)))))
        obtain ⟨B2069,s2070,m2071,hl2072,hk2073⟩:=ho2068.publish s2065
        have hB1_4:∀ b,vo1_4.ownBlock=some b→b∈B2069:=fun b hb=>hk2073 b (hB1_4 b hb) (ne2027 b hb)
        have lim2074:=hl2072.len_le
        have h_l:=h_l.mv m2071
        have ho1_4:=ho1_4.mv m2071 (Keep.refl [] _) (by simp)
        have hl2011:=hl2011.mv m2071
        have h_secret:=h_secret.mv m2071
        refine AA (BC (vs:=[vo0_9,v2022]) enter_43 (c_coeff (O:=B2069++O) vo0_9 (IQ l (l[0]!.threshold.toNat - 1 - l.length)) v2022 (OG l secret[k]! k (l[0]!.threshold.toNat - 1 - l.length)) w2064 hl2011 hl2072 (by rw [JT];omega) s2070.lt) rfl s2070 fun v2075 w2076 s2077 m2078 k2079 r2080=>(?_))
        obtain ⟨x2081,rfl,hl2082⟩:=r2080
        have:=hl2082.len_le
        have h_l:=h_l.mv m2078
        have ho1_4:=ho1_4.mv m2078 k2079 (by simp)
        have hl2011:=hl2011.mv m2078
        have h_secret:=h_secret.mv m2078
        refine AA (AG (vT #[x2081,vI ((EJ (IQ l (l[0]!.threshold.toNat - 1 - l.length)) (OG l secret[k]! k (l[0]!.threshold.toNat - 1 - l.length))).2)]) rfl (AA (AK (x2081) rfl rfl (AA (AK (vI ((EJ (IQ l (l[0]!.threshold.toNat - 1 - l.length)) (OG l secret[k]! k (l[0]!.threshold.toNat - 1 - l.length))).2)) rfl rfl (AA (AD (x2081) rfl (AA (AD (vI ((EJ (IQ l (l[0]!.threshold.toNat - 1 - l.length)) (OG l secret[k]! k (l[0]!.threshold.toNat - 1 - l.length))).2)) rfl (AF (AC (?_))))))))))))
        refine AB kR (AA (AG (vo1_4) rfl (AA (AG (x2081) rfl (AA (NG U23_ IH 1 (((EJ (IQ l (l[0]!.threshold.toNat - 1 - l.length)) (OG l secret[k]! k (l[0]!.threshold.toNat - 1 - l.length))).1).length) rfl (.inr ⟨.const (vI 1), .i64,(1:Int),rfl,rfl,rfl⟩) (.inl ⟨rfl,rfl⟩) (by rw [hco];omega) (Nat.le_refl _) hl2082 fun v2083 hl2084=>(?_)))))))
        rw [List.take_length] at hl2084
        refine AA (DJ (E:=Enc.u8) (l:=(OF l secret (l[0]!.threshold.toNat - 1 - l.length) k)) (m:=(((EJ (IQ l (l[0]!.threshold.toNat - 1 - l.length)) (OG l secret[k]! k (l[0]!.threshold.toNat - 1 - l.length))).1).drop 1)) U23_ i_5 rfl (by decide) rfl rfl ho1_4 hl2084 (fun _ hb=>.inl hb) hB1_4 (by rw [List.length_drop,hco];omega) (by rw [List.length_drop,hco];simp only [maxLen];omega) s2077 fun v2089 w2085 B2091 hB2092 at2093 sub2094 s2086 m2087 k2088 ho2090=>(?_))
        have h_l:=h_l.mv m2087
        have hl2011:=hl2011.mv m2087
        have h_secret:=h_secret.mv m2087
        refine AA (AD (v2089) rfl (AF (CI (AC (?_)))))
        refine AB kR (AA (DD .i64 ((k:Nat):Int) (1:Int) (((k+1:Nat):Int)) rfl rfl (FT oM oM) (AA (AG (vI ((k+1:Nat):Int)) rfl (AF (AC (?_)))))))
        exact ⟨_,oM,(k+1),v2089,B2091,oM,rfl,⟨_,AY _ ⟨rfl,rfl,rfl,rfl,rfl,rfl,(by rfl),rfl,trivial⟩⟩,s2086,(by rw [show (OF l secret (l[0]!.threshold.toNat - 1 - l.length) (k+1))=(OF l secret (l[0]!.threshold.toNat - 1 - l.length) k)++(((EJ (IQ l (l[0]!.threshold.toNat - 1 - l.length)) (OG l secret[k]! k (l[0]!.threshold.toNat - 1 - l.length))).1).drop 1) from rfl];exact ho2090),hB2092,h_l,hl2011,h_secret⟩
       ·have hp2095:(secret.length:Int)≤((k:Nat):Int):=by simpa using hc2014
        obtain rfl:k=secret.length:=by omega
        refine DH (CD (CD (DB (AC (?_)))))
        refine AE (?_)
        refine AB kR (AA (AG (vo1_4) rfl (AA (AD (vo1_4) rfl (AA (AD (vI 0) rfl (AF (AC (?_)))))))))
        refine AM (AX rfl (FE rfl rfl rfl rfl) (?_))
        have e:(BH l secret)=((OF l secret (l[0]!.threshold.toNat - 1 - l.length) secret.length),(0:Int)):=by exact RH oM oM oM rfl
        exact ⟨_,rfl,sl1.keep,by rw [e];exact ⟨vo1_4,rfl,(fun b hb=>(sl1.new b (hB1_4 b hb)).1),(ho1_4.sub (fun x hx=>.inl ((List.mem_append.1 hx).elim (fun h=>List.mem_append_left _ (hB1_4 x (by simpa using h))) (fun h=>List.mem_append_right _ h))))⟩⟩
open Go.Fw Go.RowKit
set_option maxHeartbeats 4000000 in
set_option maxRecDepth 100000 in
theorem c_refresh11 {O:List Nat} (k:Nat) (l_a:Addr) (l:(List Share)) (i_a:Addr) (i:Int) (zero_a:Addr) (zero:(List Share)) (w:World) (h_l:PT (Enc.slice Enc.share) w O (.pointer (some l_a)) l) (h_i:PT Enc.int w O (.pointer (some i_a)) i) (h_zero:PT (Enc.slice Enc.share) w O (.pointer (some zero_a)) zero) (hpre0:0≤i) (hpre1:(i).toNat<l.length) (hpre2:(i).toNat<zero.length) (hpre3:k<l[(i).toNat]!.data.length) (hpre4:k<zero[(i).toNat]!.data.length) (hO:∀ b∈O,b<w.heap.size):CE Try.prog 56 [vI (k:Int), .pointer (some l_a), .pointer (some i_a), .pointer (some zero_a)] w (fun v _=>v=vB (l[(i).toNat]!.data[k]! ^^^ zero[(i).toNat]!.data[k]!)):= by
 have h_l:PT (Enc.slice Enc.share) w ([]++O) (.pointer (some l_a)) l:=h_l
 have h_i:PT Enc.int w ([]++O) (.pointer (some i_a)) i:=h_i
 have h_zero:PT (Enc.slice Enc.share) w ([]++O) (.pointer (some zero_a)) zero:=h_zero
 have s0:St w O w []:=St.start hO
 refine BP 23 Try.func56 rfl rfl oT (fun F0=>?_)
 refine AE (?_)
 refine AB kR (AA (AD (vB (0:UInt8)) rfl (AF (AC (?_)))))
 refine AE (?_)
 refine cw_draw' 16 _ _ [fun (vT:Value) (wT:World)=>BD Enc.share wT ([]++O) vT (l),DE (vI i),fun (vT:Value) (wT:World)=>∃ aT,vT = .pointer (some aT)∧PT Enc.share wT ([]++O) (.pointer (some aT)) (l[i.toNat]!),fun (vT:Value) (wT:World)=>∃ aT,vT = .pointer (some aT)∧PT (Enc.slice Enc.u8) wT ([]++O) (.pointer (some aT)) ((l[i.toNat]!).data),fun (vT:Value) (wT:World)=>BD Enc.u8 wT ([]++O) vT ((l[i.toNat]!).data),DE (vI (k:Int)),fun (vT:Value) (wT:World)=>∃ aT,vT = .pointer (some aT)∧PT Enc.u8 wT ([]++O) (.pointer (some aT)) (((l[i.toNat]!).data)[k]!),DE (vB (((l[i.toNat]!).data)[k]!)),fun (vT:Value) (wT:World)=>BD Enc.share wT ([]++O) vT (zero),DE (vI i),fun (vT:Value) (wT:World)=>∃ aT,vT = .pointer (some aT)∧PT Enc.share wT ([]++O) (.pointer (some aT)) (zero[i.toNat]!),fun (vT:Value) (wT:World)=>∃ aT,vT = .pointer (some aT)∧PT (Enc.slice Enc.u8) wT ([]++O) (.pointer (some aT)) ((zero[i.toNat]!).data),fun (vT:Value) (wT:World)=>BD Enc.u8 wT ([]++O) vT ((zero[i.toNat]!).data),DE (vI (k:Int)),fun (vT:Value) (wT:World)=>∃ aT,vT = .pointer (some aT)∧PT Enc.u8 wT ([]++O) (.pointer (some aT)) (((zero[i.toNat]!).data)[k]!),DE (vB (((zero[i.toNat]!).data)[k]!))] kR kR kR kR rfl rfl ⟨fun _ _ _ h k=>h.mv (Mv.of_keep k),kI,fun _ _ _ ⟨a,e,h⟩ k=>⟨a,e,h.mv (Mv.of_keep k)⟩,fun _ _ _ ⟨a,e,h⟩ k=>⟨a,e,h.mv (Mv.of_keep k)⟩,fun _ _ _ h k=>h.mv (Mv.of_keep k),kI,fun _ _ _ ⟨a,e,h⟩ k=>⟨a,e,h.mv (Mv.of_keep k)⟩,kI,fun _ _ _ h k=>h.mv (Mv.of_keep k),kI,fun _ _ _ ⟨a,e,h⟩ k=>⟨a,e,h.mv (Mv.of_keep k)⟩,fun _ _ _ ⟨a,e,h⟩ k=>⟨a,e,h.mv (Mv.of_keep k)⟩,fun _ _ _ h k=>h.mv (Mv.of_keep k),kI,fun _ _ _ ⟨a,e,h⟩ k=>⟨a,e,h.mv (Mv.of_keep k)⟩,kI,trivial⟩ ⟨?_,?_,?_,?_,?_,?_,?_,?_,?_,?_,?_,?_,?_,?_,?_,?_,trivial⟩ ?_
 ·intro F1 w1 k1 hf hd
  have k0:=(Keep.drew [] w).trans k1
  have m1:Mv ([]) w ([]) w1:=Mv.of_keep k0
  have h_l:=h_l.mv m1
  obtain ⟨F2,rfl⟩:=AJ (F:=F1) [(1,vP (some l_a))] ⟨hf 1 kR,trivial⟩
  refine AH rfl ((BV U32_ rfl rfl h_l fun v2285 hl2286=>(?_)))
  have:=hl2286.len_le
  exact ⟨(Keep.refl _ _),hl2286⟩
 ·intro F1 w1 k1 hf hd
  have k0:=(Keep.drew [] w).trans k1
  have m1:Mv ([]) w ([]) w1:=Mv.of_keep k0
  have h_i:=h_i.mv m1
  obtain ⟨F2,rfl⟩:=AJ (F:=F1) [(2,vP (some i_a))] ⟨hf 2 kR,trivial⟩
  exact AH rfl ((CC U3_ rfl rfl h_i (⟨(Keep.refl _ _),rfl⟩)))
 ·intro F1 w1 k1 hf hd
  obtain ⟨v2287,e2289,hl2288⟩:∃ v,F1 6=v∧BD Enc.share w1 ([]++O) v (l):=⟨_,rfl,hd 0 6 kR⟩
  have:=hl2288.len_le
  obtain ⟨F2,rfl⟩:=AJ (F:=F1) [(6,v2287),(7,vI i)] ⟨e2289,hd 1 7 kR,trivial⟩
  exact AH rfl ((DG U32_ DP .i64 i i.toNat rfl rfl oM hl2288 oM fun a2290 hp2291=>(⟨(Keep.refl _ _),⟨a2290,rfl,hp2291⟩⟩)))
 ·intro F1 w1 k1 hf hd
  obtain ⟨a2292,e2294,hp2293⟩:∃ aX_,F1 8 = .pointer (some aX_)∧PT Enc.share w1 ([]++O) (.pointer (some aX_)) (l[i.toNat]!):=hd 2 8 kR
  obtain ⟨F2,rfl⟩:=AJ (F:=F1) [(8,vP (some a2292))] ⟨e2294,trivial⟩
  exact AH rfl ((BJ 4 GM ((l[i.toNat]!).data) rfl hp2293 (fun _ _ _ h=>FJ h) fun a2295 hp2296=>(⟨(Keep.refl _ _),⟨a2295,rfl,hp2296⟩⟩)))
 ·intro F1 w1 k1 hf hd
  obtain ⟨a2297,e2299,hp2298⟩:∃ aX_,F1 9 = .pointer (some aX_)∧PT (Enc.slice Enc.u8) w1 ([]++O) (.pointer (some aX_)) ((l[i.toNat]!).data):=hd 3 9 kR
  obtain ⟨F2,rfl⟩:=AJ (F:=F1) [(9,vP (some a2297))] ⟨e2299,trivial⟩
  refine AH rfl ((BV U23_ rfl rfl hp2298 fun v2300 hl2301=>(?_)))
  have:=hl2301.len_le
  exact ⟨(Keep.refl _ _),hl2301⟩
 ·intro F1 w1 k1 hf hd
  obtain ⟨F2,rfl⟩:=AJ (F:=F1) [(0,vI (k:Int))] ⟨hf 0 kR,trivial⟩
  exact AH rfl ((AG (vI (k:Int)) rfl (⟨(Keep.refl _ _),rfl⟩)))
 ·intro F1 w1 k1 hf hd
  obtain ⟨v2302,e2304,hl2303⟩:∃ v,F1 10=v∧BD Enc.u8 w1 ([]++O) v ((l[i.toNat]!).data):=⟨_,rfl,hd 4 10 kR⟩
  have:=hl2303.len_le
  obtain ⟨F2,rfl⟩:=AJ (F:=F1) [(10,v2302),(11,vI (k:Int))] ⟨e2304,hd 5 11 kR,trivial⟩
  exact AH rfl ((DG U23_ IH .i64 (k:Int) k rfl rfl rfl hl2303 oM fun a2305 hp2306=>(⟨(Keep.refl _ _),⟨a2305,rfl,hp2306⟩⟩)))
 ·intro F1 w1 k1 hf hd
  obtain ⟨a2307,e2309,hp2308⟩:∃ aX_,F1 12 = .pointer (some aX_)∧PT Enc.u8 w1 ([]++O) (.pointer (some aX_)) (((l[i.toNat]!).data)[k]!):=hd 6 12 kR
  obtain ⟨F2,rfl⟩:=AJ (F:=F1) [(12,vP (some a2307))] ⟨e2309,trivial⟩
  exact AH rfl ((HG U5_ rfl rfl hp2308 (⟨(Keep.refl _ _),rfl⟩)))
 ·intro F1 w1 k1 hf hd
  have k0:=(Keep.drew [] w).trans k1
  have m1:Mv ([]) w ([]) w1:=Mv.of_keep k0
  have h_zero:=h_zero.mv m1
  obtain ⟨F2,rfl⟩:=AJ (F:=F1) [(3,vP (some zero_a))] ⟨hf 3 kR,trivial⟩
  refine AH rfl ((BV U32_ rfl rfl h_zero fun v2310 hl2311=>(?_)))
  have:=hl2311.len_le
  exact ⟨(Keep.refl _ _),hl2311⟩
 ·intro F1 w1 k1 hf hd
  have k0:=(Keep.drew [] w).trans k1
  have m1:Mv ([]) w ([]) w1:=Mv.of_keep k0
  have h_i:=h_i.mv m1
  obtain ⟨F2,rfl⟩:=AJ (F:=F1) [(2,vP (some i_a))] ⟨hf 2 kR,trivial⟩
  exact AH rfl ((CC U3_ rfl rfl h_i (⟨(Keep.refl _ _),rfl⟩)))
 ·intro F1 w1 k1 hf hd
  obtain ⟨v2312,e2314,hl2313⟩:∃ v,F1 14=v∧BD Enc.share w1 ([]++O) v (zero):=⟨_,rfl,hd 8 14 kR⟩
  have:=hl2313.len_le
  obtain ⟨F2,rfl⟩:=AJ (F:=F1) [(14,v2312),(15,vI i)] ⟨e2314,hd 9 15 kR,trivial⟩
  exact AH rfl ((DG U32_ DP .i64 i i.toNat rfl rfl oM hl2313 oM fun a2315 hp2316=>(⟨(Keep.refl _ _),⟨a2315,rfl,hp2316⟩⟩)))
 ·intro F1 w1 k1 hf hd
  obtain ⟨a2317,e2319,hp2318⟩:∃ aX_,F1 16 = .pointer (some aX_)∧PT Enc.share w1 ([]++O) (.pointer (some aX_)) (zero[i.toNat]!):=hd 10 16 kR
  obtain ⟨F2,rfl⟩:=AJ (F:=F1) [(16,vP (some a2317))] ⟨e2319,trivial⟩
  exact AH rfl ((BJ 4 GM ((zero[i.toNat]!).data) rfl hp2318 (fun _ _ _ h=>FJ h) fun a2320 hp2321=>(⟨(Keep.refl _ _),⟨a2320,rfl,hp2321⟩⟩)))
 ·intro F1 w1 k1 hf hd
  obtain ⟨a2322,e2324,hp2323⟩:∃ aX_,F1 17 = .pointer (some aX_)∧PT (Enc.slice Enc.u8) w1 ([]++O) (.pointer (some aX_)) ((zero[i.toNat]!).data):=hd 11 17 kR
  obtain ⟨F2,rfl⟩:=AJ (F:=F1) [(17,vP (some a2322))] ⟨e2324,trivial⟩
  refine AH rfl ((BV U23_ rfl rfl hp2323 fun v2325 hl2326=>(?_)))
  have:=hl2326.len_le
  exact ⟨(Keep.refl _ _),hl2326⟩
 ·intro F1 w1 k1 hf hd
  obtain ⟨F2,rfl⟩:=AJ (F:=F1) [(0,vI (k:Int))] ⟨hf 0 kR,trivial⟩
  exact AH rfl ((AG (vI (k:Int)) rfl (⟨(Keep.refl _ _),rfl⟩)))
 ·intro F1 w1 k1 hf hd
  obtain ⟨v2327,e2329,hl2328⟩:∃ v,F1 18=v∧BD Enc.u8 w1 ([]++O) v ((zero[i.toNat]!).data):=⟨_,rfl,hd 12 18 kR⟩
  have:=hl2328.len_le
  obtain ⟨F2,rfl⟩:=AJ (F:=F1) [(18,v2327),(19,vI (k:Int))] ⟨e2329,hd 13 19 kR,trivial⟩
  exact AH rfl ((DG U23_ IH .i64 (k:Int) k rfl rfl rfl hl2328 oM fun a2330 hp2331=>(⟨(Keep.refl _ _),⟨a2330,rfl,hp2331⟩⟩)))
 ·intro F1 w1 k1 hf hd
  obtain ⟨a2332,e2334,hp2333⟩:∃ aX_,F1 20 = .pointer (some aX_)∧PT Enc.u8 w1 ([]++O) (.pointer (some aX_)) (((zero[i.toNat]!).data)[k]!):=hd 14 20 kR
  obtain ⟨F2,rfl⟩:=AJ (F:=F1) [(20,vP (some a2332))] ⟨e2334,trivial⟩
  exact AH rfl ((HG U5_ rfl rfl hp2333 (⟨(Keep.refl _ _),rfl⟩)))
 intro F2336 w2337 k2335 hT2338 hF2339
 have s2340:=s0.call k2335
 obtain ⟨F2,rfl⟩:=AJ (F:=F2336) [(5,vB (0:UInt8)),(23,undef),(13,vB (((l[i.toNat]!).data)[k]!)),(21,vB (((zero[i.toNat]!).data)[k]!))] ⟨hF2339 5 kR,hF2339 23 kR,hT2338 7 13 kR (by decide),hT2338 15 21 kR (by decide),trivial⟩
 clear hT2338 hF2339
 refine AA (NH (((l[i.toNat]!).data)[k]!) (((zero[i.toNat]!).data)[k]!) rfl rfl (AA (AD (vB ((((l[i.toNat]!).data)[k]!) ^^^ (((zero[i.toNat]!).data)[k]!))) rfl (AF (AC (?_))))))
 refine AM (AX rfl (CP rfl rfl rfl) (?_))
 have e:(l[(i).toNat]!.data[k]! ^^^ zero[(i).toNat]!.data[k]!)=((((l[i.toNat]!).data)[k]!) ^^^ (((zero[i.toNat]!).data)[k]!)):=rfl
 exact ⟨_,rfl,s2340.keep,by rw [e];exact rfl⟩
set_option maxHeartbeats 4000000 in
set_option maxRecDepth 100000 in
theorem TF {O:List Nat} (i:Nat) (l_a:Addr) (l:(List Share)) (f_a:Addr) (f:Share) (zero_a:Addr) (zero:(List Share)) (w:World) (h_l:PT (Enc.slice Enc.share) w O (.pointer (some l_a)) l) (h_f:PT Enc.share w O (.pointer (some f_a)) f) (h_zero:PT (Enc.slice Enc.share) w O (.pointer (some zero_a)) zero) (hpre0:i<l.length) (hpre1:i<zero.length) (hpre2:l[i]!.data.length=f.data.length) (hpre3:zero[i]!.data.length=f.data.length) (hpre4:0≤l[i]!.epoch) (hpre5:l[i]!.epoch≤1048576) (hpre6:f.data.length≤1000) (hO:∀ b∈O,b<w.heap.size):CE Try.prog 55 [vI (i:Int), .pointer (some l_a), .pointer (some f_a), .pointer (some zero_a)] w (fun v w'=>∃ (x0:List Value),v = .agg x0.toArray∧Enc.share.rd w' (O) x0 (FS l f zero i)):= by
 have h_l:PT (Enc.slice Enc.share) w ([]++O) (.pointer (some l_a)) l:=h_l
 have h_f:PT Enc.share w ([]++O) (.pointer (some f_a)) f:=h_f
 have h_zero:PT (Enc.slice Enc.share) w ([]++O) (.pointer (some zero_a)) zero:=h_zero
 have s0:St w O w []:=St.start hO
 refine BP 22 Try.func55 rfl rfl oT (fun F0=>?_)
 refine AE (?_)
 refine AB kR (AA (DO (E:=Enc.int) (vI (i:Int)) ([vI (i:Int)]) (i:Int) rfl rfl rfl s0 fun a2344 w2345 s2346 m2347 k2348 hp2349=>(?_)))
 have h_l:=h_l.mv m2347
 have h_f:=h_f.mv m2347
 have h_zero:=h_zero.mv m2347
 refine AA (CY [vI 0,vI 0,vI 0,vI 0,nS] NE rfl s2346 fun b2350 w2351 e2356 s2352 m2353 k2354 bx2355=>(?_))
 clear e2356
 have h_l:=h_l.mv m2353
 have h_f:=h_f.mv m2353
 have h_zero:=h_zero.mv m2353
 have hp2349:=hp2349.mv m2353
 refine AF (AC (?_))
 refine AE (?_)
 refine AB kR (AA (BV U32_ rfl rfl h_l fun v2357 hl2358=>(?_)))
 have:=hl2358.len_le
 refine AA (CC U3_ rfl rfl hp2349 (AA (DG U32_ DP .i64 (i:Int) i rfl rfl rfl hl2358 oM fun a2359 hp2360=>(AA (CR U70_ rfl DP rfl hp2360 fun cs2361 hs2362=>(AA (CY [vI 0,vI 0,vI 0,vI 0,nS] NE rfl s2352 fun b2363 w2364 e2369 s2365 m2366 k2367 bx2368=>(?_))))))))
 have ne2370:FO b2350 b2363:=by show b2350≠b2363;have:=bx2355.lt;omega
 clear e2369
 have h_l:=h_l.mv m2366
 have h_f:=h_f.mv m2366
 have h_zero:=h_zero.mv m2366
 have hp2349:=hp2349.mv m2366
 have hs2362:Enc.share.rd w2364 ((b2363 :: (b2350 :: []))++O) cs2361 (l[i]!):=Enc.mv Enc.share (x:=l[i]!) hs2362 m2366
 have bx2355:=bx2355.keep k2367 (by simp)
 obtain ⟨d2376,rfl,hd2377⟩:=hs2362
 have:=hd2377.len_le
 refine BW (BA (vs:=[vI ((l[i]!).epoch),vI ((l[i]!).index),vI ((l[i]!).threshold),vI ((l[i]!).many),d2376]) (.agg #[vI ((l[i]!).epoch),vI ((l[i]!).index),vI ((l[i]!).threshold),vI ((l[i]!).many),d2376]) rfl rfl rfl DP (fun u hu=>by simp only [List.mem_cons,List.not_mem_nil,or_false] at hu;rcases hu with rfl|rfl|rfl|rfl|rfl <;> first|rfl|exact hd2377.oneCell) (by repeat (constructor)) bx2368 oT s2365 fun w2371 s2372 m2373 k2374 bx2375=>(?_))
 have h_l:=h_l.mv m2373
 have h_f:=h_f.mv m2373
 have h_zero:=h_zero.mv m2373
 have hp2349:=hp2349.mv m2373
 have bx2355:=bx2355.keep k2374 (BG ne2370)
 refine AF (AC (?_))
 refine AE (?_)
 refine AB kR (AA (BB 0 IJ rfl (AA (BF U3_ rfl (vI ((l[i]!).epoch)) rfl bx2375 rfl (AA (DD .i64 ((l[i]!).epoch) (1:Int) (((l[i]!).epoch)+(1:Int)) rfl rfl (FT oM oM) (AA (BB 0 IJ rfl (BW (CK (vI (((l[i]!).epoch)+(1:Int))) rfl rfl rfl MO (by repeat (constructor)) bx2375 oT s2372 fun w2378 s2379 m2380 k2381 bx2382=>(?_)))))))))))
 have h_l:=h_l.mv m2380
 have h_f:=h_f.mv m2380
 have h_zero:=h_zero.mv m2380
 have hp2349:=hp2349.mv m2380
 have bx2355:=bx2355.keep k2381 (BG ne2370)
 refine AF (AC (?_))
 refine AE (?_)
 refine AB kR (AA (BJ 4 GM (f.data) rfl h_f (fun _ _ _ h=>FJ h) fun a2383 hp2384=>(AA (BV U23_ rfl rfl hp2384 fun v2385 hl2386=>(?_)))))
 have:=hl2386.len_le
 refine AA (CG U23_ rfl hl2386 (AA (DC (first:=[]) (captured:=[.tmp 1, .tmp 4, .tmp 3]) [] [vP (some l_a),vP (some a2344),vP (some zero_a)] rfl rfl (AA (BC (vs:=[vI (f.data.length:Int),vN (.func 56) #[] #[vP (some l_a),vP (some a2344),vP (some zero_a)]]) NA (JX (O:=(b2363 :: (b2350 :: []))++O) (f.data.length:Int) 56 [vP (some l_a),vP (some a2344),vP (some zero_a)] (fun i_=>l[((i:Int)).toNat]!.data[i_]! ^^^ zero[((i:Int)).toNat]!.data[i_]!) w2378 enter_56 (fun w'_ O'_ kk_ hs_ hl_ i_  hc_=>c_refresh11 (O:=O'_) i_ l_a l a2344 (i:Int) zero_a zero w'_ (h_l.on hs_ kk_) (hp2349.on hs_ kk_) (h_zero.on hs_ kk_) oM oM oM (by rw [Int.toNat_natCast,hpre2];omega) (by rw [Int.toNat_natCast,hpre3];omega) hl_) oM s2379.lt) rfl s2379 fun v2387 w2388 s2389 m2390 k2391 r2392=>(?_))))))
 obtain ⟨_,rfl,hl2393⟩:=r2392
 have:=hl2393.len_le
 have bx2355:=bx2355.keep k2391 (by simp)
 have bx2382:=bx2382.keep k2391 (by simp)
 refine AA (BB 4 GM rfl (BW (CK (v2387) rfl rfl hl2393.oneCell s_23 (by repeat (constructor)) bx2382 oT s2389 fun w2394 s2395 m2396 k2397 bx2398=>(?_))))
 have hl2393:=hl2393.mv m2396
 have bx2355:=bx2355.keep k2397 (BG ne2370)
 refine AF (AC (?_))
 refine AE (?_)
 refine AB kR (AA (BM (vs:=[vI (((l[i]!).epoch)+(1:Int)),vI ((l[i]!).index),vI ((l[i]!).threshold),vI ((l[i]!).many),v2387]) U70_ rfl DP rfl bx2398 rfl (BW (BA (vs:=[vI (((l[i]!).epoch)+(1:Int)),vI ((l[i]!).index),vI ((l[i]!).threshold),vI ((l[i]!).many),v2387]) (.agg #[vI (((l[i]!).epoch)+(1:Int)),vI ((l[i]!).index),vI ((l[i]!).threshold),vI ((l[i]!).many),v2387]) rfl rfl rfl DP (fun u hu=>by simp only [List.mem_cons,List.not_mem_nil,or_false] at hu;rcases hu with rfl|rfl|rfl|rfl|rfl <;> first|rfl|exact hl2393.oneCell) (by repeat (constructor)) bx2355 oT s2395 fun w2399 s2400 m2401 k2402 bx2403=>(?_)))))
 have hl2393:=hl2393.mv m2401
 refine AF (AC (?_))
 refine AM (AX rfl (rescA (vs:=[vI (((l[i]!).epoch)+(1:Int)),vI ((l[i]!).index),vI ((l[i]!).threshold),vI ((l[i]!).many),v2387]) rfl rfl U70_ rfl DP rfl bx2403 rfl) (?_))
 have e:(FS l f zero i)=(⟨((l[i]!).epoch)+(1:Int),(l[i]!).index,(l[i]!).threshold,(l[i]!).many,(List.range ((f.data.length:Int)).toNat).map (fun i_=>l[((i:Int)).toNat]!.data[i_]! ^^^ zero[((i:Int)).toNat]!.data[i_]!)⟩:Share):=rfl
 exact ⟨_,rfl,s2400.keep,by rw [e];exact ⟨[vI (((l[i]!).epoch)+(1:Int)),vI ((l[i]!).index),vI ((l[i]!).threshold),vI ((l[i]!).many),v2387],rfl,Enc.out (B:=(b2363 :: (b2350 :: []))) ⟨_,rfl,hl2393⟩⟩⟩
set_option maxHeartbeats 4000000 in
set_option maxRecDepth 100000 in
theorem c_refresh {O:List Nat} (l_v:Value) (l:List Share) (coins_v:Value) (coins:List UInt8) (w:World) (h_l:BD Enc.share w O l_v l) (h_coins:BD Enc.u8 w O coins_v coins) (hO:∀ b∈O,b<w.heap.size):CE Try.prog 19 [l_v,coins_v] w (fun v w'=>∃ (x0:Value),v = .tuple #[x0,vI ((CL l coins).2)]∧BD Enc.share w' (O) x0 ((CL l coins).1)):= by
 have lim_l:=h_l.len_le
 have h_l:BD Enc.share w ([]++O) l_v l:=h_l
 have lim_coins:=h_coins.len_le
 have h_coins:BD Enc.u8 w ([]++O) coins_v coins:=h_coins
 have s0:St w O w []:=St.start hO
 refine BP 48 Try.func19 rfl rfl oT (fun F0=>?_)
 refine AE (?_)
 refine AB kR (AA (DO (E:=(Enc.slice Enc.share)) (l_v) ([l_v]) l rfl (FB h_l.oneCell) ⟨_,rfl,h_l⟩ s0 fun a2404 w2405 s2406 m2407 k2408 hp2409=>(?_)))
 have h_coins:=h_coins.mv m2407
 refine AA (AD (nS) rfl (AA (AD (vI 0) rfl (AF (AC (?_))))))
 refine AE (?_)
 refine AE (?_)
 refine AB kR (AA (BV U32_ rfl rfl hp2409 fun v2410 hl2411=>(?_)))
 have:=hl2411.len_le
 refine AA (BC (vs:=[v2410]) LM (LN (O:=[]++O) v2410 l w2405 hl2411 s2406.lt) rfl s2406 fun v2412 w2413 s2414 m2415 k2416 r2417=>(?_))
 obtain rfl:=r2417
 have h_coins:=h_coins.mv m2415
 have hp2409:=hp2409.mv m2415
 refine AA (AD (vI (BR l)) rfl (AF (AC (?_))))
 refine AE (?_)
 refine AB kR (AA (AG (vI (BR l)) rfl (AA (CV .i64 (BR l) (0:Int) rfl rfl (AF (AC (?_)))))))
 refine AL ((BR l) != (0:Int)) rfl rfl (fun hc2418=>?_) (fun hc2418=>?_)
 ·have hp2419:BR l≠(0:Int):=by simpa using hc2418
  refine AE (?_)
  refine AB kR (AA (AG (vI (BR l)) rfl (AA (AD (nS) rfl (AA (AD (vI (BR l)) rfl (AF (AC (?_)))))))))
  refine AM (AP (AX rfl (FE rfl rfl rfl rfl) (?_)))
  have e:(CL l coins)=([],BR l):=by exact HV (l:=l) (coins:=coins) (by unfold EB HO;((repeat ((refine (if_pos ?_).trans ?_;omega)));rfl)) aS
  exact ⟨_,rfl,s2414.keep,by rw [e];exact ⟨.slice none 0 0,rfl,BD.nil _ _ _⟩⟩
 ·have hp2420:BR l=(0:Int):=by simpa using hc2418
  have hv:=(FC l).1 hp2420
  have hpos:=hv.pos
  have ht1:=hv.t1
  have htm:=hv.tm
  have hm8:=hv.m8
  have hd64:=hv.d64
  refine AT (AC (?_))
  refine AE (?_)
  refine AB kR (AA (BV U32_ rfl rfl hp2409 fun v2421 hl2422=>(?_)))
  have:=hl2422.len_le
  refine AA (DG U32_ DP .i64 (0:Int) 0 rfl rfl rfl hl2422 oM fun a2423 hp2424=>(AA (CR U70_ rfl DP rfl hp2424 fun cs2425 hs2426=>(AA (CY [vI 0,vI 0,vI 0,vI 0,nS] NE rfl s2414 fun b2427 w2428 e2433 s2429 m2430 k2431 bx2432=>(?_))))))
  clear e2433
  have h_coins:=h_coins.mv m2430
  have hp2409:=hp2409.mv m2430
  have hs2426:Enc.share.rd w2428 ((b2427 :: [])++O) cs2425 (l[0]!):=Enc.mv Enc.share (x:=l[0]!) hs2426 m2430
  obtain ⟨d2439,rfl,hd2440⟩:=hs2426
  have:=hd2440.len_le
  refine BW (BA (vs:=[vI ((l[0]!).epoch),vI ((l[0]!).index),vI ((l[0]!).threshold),vI ((l[0]!).many),d2439]) (.agg #[vI ((l[0]!).epoch),vI ((l[0]!).index),vI ((l[0]!).threshold),vI ((l[0]!).many),d2439]) rfl rfl rfl DP (fun u hu=>by simp only [List.mem_cons,List.not_mem_nil,or_false] at hu;rcases hu with rfl|rfl|rfl|rfl|rfl <;> first|rfl|exact hd2440.oneCell) (by repeat (constructor)) bx2432 oT s2429 fun w2434 s2435 m2436 k2437 bx2438=>(?_))
  have h_coins:=h_coins.mv m2436
  have hp2409:=hp2409.mv m2436
  have hd2440:=hd2440.mv m2436
  refine AF (AC (?_))
  refine AE (?_)
  refine AE (?_)
  refine AB kR (AA (BV U32_ rfl rfl hp2409 fun v2441 hl2442=>(?_)))
  have:=hl2442.len_le
  refine AA (CG U32_ rfl hl2442 (AA (BB 3 KG rfl (AA (BF U3_ rfl (vI ((l[0]!).many)) rfl bx2438 rfl (AA (CV .i64 (l.length:Int) ((l[0]!).many) rfl rfl (AF (AC (?_))))))))))
  refine AL ((l.length:Int) != ((l[0]!).many)) rfl rfl (fun hc2443=>?_) (fun hc2443=>?_)
  ·have hp2444:(l.length:Int)≠(l[0]!).many:=by simpa using hc2443
   refine AE (?_)
   refine AB kR (AA (AD (nS) rfl (AA (AD (vI 80) rfl (AF (AC (?_)))))))
   refine AM (AP (AX rfl (FE rfl rfl rfl rfl) (?_)))
   have e:(CL l coins)=([],(80:Int)):=by exact HV (l:=l) (coins:=coins) (by unfold EB HO;((repeat (first|(refine (if_pos ?_).trans ?_;omega)|(refine (if_neg ?_).trans ?_;omega)));rfl)) (by decide)
   exact ⟨_,rfl,s2435.keep,by rw [e];exact ⟨.slice none 0 0,rfl,BD.nil _ _ _⟩⟩
  ·have hp2445:(l.length:Int)=(l[0]!).many:=by simpa using hc2443
   refine AT (AC (?_))
   refine AE (?_)
   refine AE (?_)
   refine AB kR (AA (BB 0 IJ rfl (AA (BF U3_ rfl (vI ((l[0]!).epoch)) rfl bx2438 rfl (AA (EN .i64 ((l[0]!).epoch) (1048576:Int) rfl rfl (AF (AC (?_)))))))))
   refine AL (((l[0]!).epoch) == (1048576:Int)) rfl rfl (fun hc2446=>?_) (fun hc2446=>?_)
   ·have hp2447:(l[0]!).epoch=(1048576:Int):=by simpa using hc2446
    refine AE (?_)
    refine AB kR (AA (AD (nS) rfl (AA (AD (vI 81) rfl (AF (AC (?_)))))))
    refine AM (AP (AX rfl (FE rfl rfl rfl rfl) (?_)))
    have e:(CL l coins)=([],(81:Int)):=by exact HV (l:=l) (coins:=coins) (by unfold EB HO;((repeat (first|(refine (if_pos ?_).trans ?_;omega)|(refine (if_neg ?_).trans ?_;omega)));rfl)) (by decide)
    exact ⟨_,rfl,s2435.keep,by rw [e];exact ⟨.slice none 0 0,rfl,BD.nil _ _ _⟩⟩
   ·have hp2448:(l[0]!).epoch≠(1048576:Int):=by simpa using hc2446
    refine AT (AC (?_))
    refine AE (?_)
    refine VI 16 [14] _ _ _ [fun _=>DE (vP (some ⟨b2427,4,none⟩)),fun _=>fun (vT:Value) (_:World)=>BD Enc.u8 w2434 ((b2427 :: [])++O) vT ((l[0]!).data),fun _=>DE (vI (((l[0]!).data).length:Int)),fun (BT:List Nat) (vT:Value) (wT:World)=>BD Enc.u8 wT (BT++O) vT (List.replicate (((l[0]!).data).length) (0:UInt8)),fun _=>DE (vP (some ⟨b2427,0,none⟩)),fun _=>DE (vI ((l[0]!).epoch)),fun _=>DE (vP (some ⟨b2427,2,none⟩)),fun _=>DE (vI ((l[0]!).threshold)),fun _=>DE (vP (some ⟨b2427,3,none⟩)),fun _=>DE (vI ((l[0]!).many)),fun _=>fun (vT:Value) (_:World)=>BD Enc.u8 w2434 ((b2427 :: [])++O) vT (coins),fun (BT:List Nat) (vT:Value) (wT:World)=>∃ (xT0:Value),vT = .tuple #[xT0,vI ((BU (List.replicate (((l[0]!).data).length) (0:UInt8)) ((l[0]!).epoch) ((l[0]!).threshold) ((l[0]!).many) coins).2)]∧BD Enc.share wT (BT++O) xT0 ((BU (List.replicate (((l[0]!).data).length) (0:UInt8)) ((l[0]!).epoch) ((l[0]!).threshold) ((l[0]!).many) coins).1),fun (BT:List Nat) (vT:Value) (wT:World)=>∃ (xT0:Value),vT = .tuple #[xT0,vI ((BU (List.replicate (((l[0]!).data).length) (0:UInt8)) ((l[0]!).epoch) ((l[0]!).threshold) ((l[0]!).many) coins).2)]∧BD Enc.share wT (BT++O) xT0 ((BU (List.replicate (((l[0]!).data).length) (0:UInt8)) ((l[0]!).epoch) ((l[0]!).threshold) ((l[0]!).many) coins).1),fun (BT:List Nat) (vT:Value) (wT:World)=>BD Enc.share wT (BT++O) vT ((BU (List.replicate (((l[0]!).data).length) (0:UInt8)) ((l[0]!).epoch) ((l[0]!).threshold) ((l[0]!).many) coins).1),fun _=>DE (vI ((BU (List.replicate (((l[0]!).data).length) (0:UInt8)) ((l[0]!).epoch) ((l[0]!).threshold) ((l[0]!).many) coins).2)),RS w2434 32 [nS]] [⟨0,[],[],[],false,[]⟩,⟨0,[],[],[],false,[0]⟩,⟨0,[],[],[],false,[1]⟩,⟨1,[],[],[],false,[2]⟩,⟨0,[],[],[],false,[]⟩,⟨0,[],[],[],false,[4]⟩,⟨0,[],[],[],false,[]⟩,⟨0,[],[],[],false,[6]⟩,⟨0,[],[],[],false,[]⟩,⟨0,[],[],[],false,[8]⟩,⟨0,[],[],[],false,[]⟩,⟨1,[1],[],[],false,[3,5,7,9,10]⟩,⟨1,[1],[],[],false,[11]⟩,⟨1,[1],[],[],false,[12]⟩,⟨0,[1],[],[],false,[12]⟩,⟨2,[],[],[],false,[]⟩] (b2427 :: []) kR kR kR kR kR (by decide) rfl rfl rfl ⟨fun _ _ _ _ _ h=>h,fun _ _ _ _ _ h=>h,fun _ _ _ _ _ h=>h,(show ∀ B B2 v w w2,(fun (BT:List Nat) (vT:Value) (wT:World)=>BD Enc.u8 wT (BT++O) vT (List.replicate (((l[0]!).data).length) (0:UInt8))) B v w→Mv B w B2 w2→(fun (BT:List Nat) (vT:Value) (wT:World)=>BD Enc.u8 wT (BT++O) vT (List.replicate (((l[0]!).data).length) (0:UInt8))) B2 v w2 from fun _ _ _ _ _ h m=>h.mv m),fun _ _ _ _ _ h=>h,fun _ _ _ _ _ h=>h,fun _ _ _ _ _ h=>h,fun _ _ _ _ _ h=>h,fun _ _ _ _ _ h=>h,fun _ _ _ _ _ h=>h,fun _ _ _ _ _ h=>h,(show ∀ B B2 v w w2,(fun (BT:List Nat) (vT:Value) (wT:World)=>∃ (xT0:Value),vT = .tuple #[xT0,vI ((BU (List.replicate (((l[0]!).data).length) (0:UInt8)) ((l[0]!).epoch) ((l[0]!).threshold) ((l[0]!).many) coins).2)]∧BD Enc.share wT (BT++O) xT0 ((BU (List.replicate (((l[0]!).data).length) (0:UInt8)) ((l[0]!).epoch) ((l[0]!).threshold) ((l[0]!).many) coins).1)) B v w→Mv B w B2 w2→(fun (BT:List Nat) (vT:Value) (wT:World)=>∃ (xT0:Value),vT = .tuple #[xT0,vI ((BU (List.replicate (((l[0]!).data).length) (0:UInt8)) ((l[0]!).epoch) ((l[0]!).threshold) ((l[0]!).many) coins).2)]∧BD Enc.share wT (BT++O) xT0 ((BU (List.replicate (((l[0]!).data).length) (0:UInt8)) ((l[0]!).epoch) ((l[0]!).threshold) ((l[0]!).many) coins).1)) B2 v w2 from fun _ _ _ _ _ ⟨y0,e,h0⟩ m=>⟨y0,e,h0.mv m⟩),(show ∀ B B2 v w w2,(fun (BT:List Nat) (vT:Value) (wT:World)=>∃ (xT0:Value),vT = .tuple #[xT0,vI ((BU (List.replicate (((l[0]!).data).length) (0:UInt8)) ((l[0]!).epoch) ((l[0]!).threshold) ((l[0]!).many) coins).2)]∧BD Enc.share wT (BT++O) xT0 ((BU (List.replicate (((l[0]!).data).length) (0:UInt8)) ((l[0]!).epoch) ((l[0]!).threshold) ((l[0]!).many) coins).1)) B v w→Mv B w B2 w2→(fun (BT:List Nat) (vT:Value) (wT:World)=>∃ (xT0:Value),vT = .tuple #[xT0,vI ((BU (List.replicate (((l[0]!).data).length) (0:UInt8)) ((l[0]!).epoch) ((l[0]!).threshold) ((l[0]!).many) coins).2)]∧BD Enc.share wT (BT++O) xT0 ((BU (List.replicate (((l[0]!).data).length) (0:UInt8)) ((l[0]!).epoch) ((l[0]!).threshold) ((l[0]!).many) coins).1)) B2 v w2 from fun _ _ _ _ _ ⟨y0,e,h0⟩ m=>⟨y0,e,h0.mv m⟩),(show ∀ B B2 v w w2,(fun (BT:List Nat) (vT:Value) (wT:World)=>BD Enc.share wT (BT++O) vT ((BU (List.replicate (((l[0]!).data).length) (0:UInt8)) ((l[0]!).epoch) ((l[0]!).threshold) ((l[0]!).many) coins).1)) B v w→Mv B w B2 w2→(fun (BT:List Nat) (vT:Value) (wT:World)=>BD Enc.share wT (BT++O) vT ((BU (List.replicate (((l[0]!).data).length) (0:UInt8)) ((l[0]!).epoch) ((l[0]!).threshold) ((l[0]!).many) coins).1)) B2 v w2 from fun _ _ _ _ _ h m=>h.mv m),fun _ _ _ _ _ h=>h,RS.st,trivial⟩ ⟨?_,?_,?_,?_,?_,?_,?_,?_,?_,?_,?_,?_,?_,?_,?_,?_,trivial⟩ ?_ ?_
    ·intro F1 w1 B1_ Bs_ k1 hs_ hl_ hr_ hsep_ hf hd
     obtain ⟨F2,rfl⟩:=AJ (F:=F1) [(7,vP (some ⟨b2427,0,none⟩))] ⟨hf 7 kR,trivial⟩
     exact AH rfl ((BB 4 GM rfl (⟨[],(Keep.refl _ _),NW,rfl⟩)))
    ·intro F1 w1 B1_ Bs_ k1 hs_ hl_ hr_ hsep_ hf hd
     have k0:=(Keep.drew [] w2434).trans k1
     have bx2438:=bx2438.keep k0 (by simp)
     obtain ⟨F2,rfl⟩:=AJ (F:=F1) [(26,vP (some ⟨b2427,4,none⟩))] ⟨hd 0 26 kR kR,trivial⟩
     exact AH rfl ((BF U23_ rfl (d2439) rfl bx2438 rfl (⟨[],(Keep.refl _ _),NW,hd2440⟩)))
    ·intro F1 w1 B1_ Bs_ k1 hs_ hl_ hr_ hsep_ hf hd
     obtain ⟨v2449,e2451,hl2450⟩:∃ v,F1 27=v∧BD Enc.u8 w2434 ((b2427 :: [])++O) v ((l[0]!).data):=⟨_,rfl,hd 1 27 kR kR⟩
     have:=hl2450.len_le
     obtain ⟨F2,rfl⟩:=AJ (F:=F1) [(27,v2449)] ⟨e2451,trivial⟩
     exact AH rfl ((o_lenRU U23_ rfl hl2450 (⟨[],(Keep.refl _ _),NW,rfl⟩)))
    ·intro F1 w1 B1_ Bs_ k1 hs_ hl_ hr_ hsep_ hf hd
     have k0:=(Keep.drew [] w2434).trans k1
     have s1:=s2435.adoptL k0 hl_
     obtain ⟨F2,rfl⟩:=AJ (F:=F1) [(28,vI (((l[0]!).data).length:Int))] ⟨hd 2 28 kR kR,trivial⟩
     refine AH rfl ((o_makeR (E:=Enc.u8) U23_ i_5 [vB (0:UInt8)] rfl rfl (by decide) (0:UInt8) (fun _ _=>rfl) .i64 .i64 (((l[0]!).data).length:Int) (((l[0]!).data).length:Int) (((l[0]!).data).length) (((l[0]!).data).length) rfl rfl rfl rfl oM oM (by simp only [maxLen];omega) s1 fun v2456 w2452 s2453 m2454 k2455 hl2457=>(?_)))
     exact ⟨[],k2455,NW,hl2457⟩
    ·intro F1 w1 B1_ Bs_ k1 hs_ hl_ hr_ hsep_ hf hd
     obtain ⟨F2,rfl⟩:=AJ (F:=F1) [(7,vP (some ⟨b2427,0,none⟩))] ⟨hf 7 kR,trivial⟩
     exact AH rfl ((BB 0 IJ rfl (⟨[],(Keep.refl _ _),NW,rfl⟩)))
    ·intro F1 w1 B1_ Bs_ k1 hs_ hl_ hr_ hsep_ hf hd
     have k0:=(Keep.drew [] w2434).trans k1
     have bx2438:=bx2438.keep k0 (by simp)
     obtain ⟨F2,rfl⟩:=AJ (F:=F1) [(30,vP (some ⟨b2427,0,none⟩))] ⟨hd 4 30 kR kR,trivial⟩
     exact AH rfl ((BF U3_ rfl (vI ((l[0]!).epoch)) rfl bx2438 rfl (⟨[],(Keep.refl _ _),NW,rfl⟩)))
    ·intro F1 w1 B1_ Bs_ k1 hs_ hl_ hr_ hsep_ hf hd
     obtain ⟨F2,rfl⟩:=AJ (F:=F1) [(7,vP (some ⟨b2427,0,none⟩))] ⟨hf 7 kR,trivial⟩
     exact AH rfl ((BB 2 KJ rfl (⟨[],(Keep.refl _ _),NW,rfl⟩)))
    ·intro F1 w1 B1_ Bs_ k1 hs_ hl_ hr_ hsep_ hf hd
     have k0:=(Keep.drew [] w2434).trans k1
     have bx2438:=bx2438.keep k0 (by simp)
     obtain ⟨F2,rfl⟩:=AJ (F:=F1) [(32,vP (some ⟨b2427,2,none⟩))] ⟨hd 6 32 kR kR,trivial⟩
     exact AH rfl ((BF U3_ rfl (vI ((l[0]!).threshold)) rfl bx2438 rfl (⟨[],(Keep.refl _ _),NW,rfl⟩)))
    ·intro F1 w1 B1_ Bs_ k1 hs_ hl_ hr_ hsep_ hf hd
     obtain ⟨F2,rfl⟩:=AJ (F:=F1) [(7,vP (some ⟨b2427,0,none⟩))] ⟨hf 7 kR,trivial⟩
     exact AH rfl ((BB 3 KG rfl (⟨[],(Keep.refl _ _),NW,rfl⟩)))
    ·intro F1 w1 B1_ Bs_ k1 hs_ hl_ hr_ hsep_ hf hd
     have k0:=(Keep.drew [] w2434).trans k1
     have bx2438:=bx2438.keep k0 (by simp)
     obtain ⟨F2,rfl⟩:=AJ (F:=F1) [(34,vP (some ⟨b2427,3,none⟩))] ⟨hd 8 34 kR kR,trivial⟩
     exact AH rfl ((BF U3_ rfl (vI ((l[0]!).many)) rfl bx2438 rfl (⟨[],(Keep.refl _ _),NW,rfl⟩)))
    ·intro F1 w1 B1_ Bs_ k1 hs_ hl_ hr_ hsep_ hf hd
     obtain ⟨F2,rfl⟩:=AJ (F:=F1) [(1,coins_v)] ⟨hf 1 kR,trivial⟩
     exact AH rfl ((AG (coins_v) rfl (⟨[],(Keep.refl _ _),NW,h_coins⟩)))
    ·intro F1 w1 B1_ Bs_ k1 hs_ hl_ hr_ hsep_ hf hd
     have k0:=(Keep.drew [] w2434).trans k1
     have s1:=s2435.adoptL k0 hl_
     have m1:Mv (b2427 :: []) w2434 B1_ w1:=Mv.adoptL k0 hl_
     obtain ⟨v2458,e2460,hl2459⟩:∃ v,F1 29=v∧BD Enc.u8 w1 ((Bs_ 1)++O) v (List.replicate (((l[0]!).data).length) (0:UInt8)):=⟨_,rfl,hd 3 29 kR kR⟩
     have:=hl2459.len_le
     have hl2459:=hl2459.mv (Mv.at_ (hr_ 1 kR))
     obtain ⟨v2461,e2463,hl2462⟩:∃ v,F1 36=v∧BD Enc.u8 w2434 ((b2427 :: [])++O) v (coins):=⟨_,rfl,hd 10 36 kR kR⟩
     have:=hl2462.len_le
     have hl2462:=hl2462.mv m1
     obtain ⟨F2,rfl⟩:=AJ (F:=F1) [(29,v2458),(31,vI ((l[0]!).epoch)),(33,vI ((l[0]!).threshold)),(35,vI ((l[0]!).many)),(36,v2461)] ⟨e2460,hd 5 31 kR kR,hd 7 33 kR kR,hd 9 35 kR kR,e2463,trivial⟩
     refine AH rfl ((BC (vs:=[v2458,vI ((l[0]!).epoch),vI ((l[0]!).threshold),vI ((l[0]!).many),v2461]) SM (c_split (O:=B1_++O) v2458 (List.replicate (((l[0]!).data).length) (0:UInt8)) ((l[0]!).epoch) ((l[0]!).threshold) ((l[0]!).many) v2461 coins w1 hl2459 hl2462 s1.lt) rfl s1 fun v2464 w2465 s2466 m2467 k2468 r2469=>(?_)))
     obtain ⟨x2470,rfl,hl2471⟩:=r2469
     have:=hl2471.len_le
     exact ⟨[],k2468,NW,⟨x2470,rfl,hl2471⟩⟩
    ·intro F1 w1 B1_ Bs_ k1 hs_ hl_ hr_ hsep_ hf hd
     obtain ⟨x2472,e2474,hl2473⟩:(fun (vT:Value) (wT:World)=>∃ (xT0:Value),vT = .tuple #[xT0,vI ((BU (List.replicate (((l[0]!).data).length) (0:UInt8)) ((l[0]!).epoch) ((l[0]!).threshold) ((l[0]!).many) coins).2)]∧BD Enc.share wT ((Bs_ 1)++O) xT0 ((BU (List.replicate (((l[0]!).data).length) (0:UInt8)) ((l[0]!).epoch) ((l[0]!).threshold) ((l[0]!).many) coins).1)) (F1 37) w1:=hd 11 37 kR kR
     have:=hl2473.len_le
     have hl2473:=hl2473.mv (Mv.at_ (hr_ 1 kR))
     obtain ⟨F2,rfl⟩:=AJ (F:=F1) [(37,vT #[x2472,vI ((BU (List.replicate (((l[0]!).data).length) (0:UInt8)) ((l[0]!).epoch) ((l[0]!).threshold) ((l[0]!).many) coins).2)])] ⟨e2474,trivial⟩
     exact AH rfl ((AG (vT #[x2472,vI ((BU (List.replicate (((l[0]!).data).length) (0:UInt8)) ((l[0]!).epoch) ((l[0]!).threshold) ((l[0]!).many) coins).2)]) rfl (⟨[],(Keep.refl _ _),NW,⟨x2472,rfl,hl2473⟩⟩)))
    ·intro F1 w1 B1_ Bs_ k1 hs_ hl_ hr_ hsep_ hf hd
     obtain ⟨x2475,e2477,hl2476⟩:(fun (vT:Value) (wT:World)=>∃ (xT0:Value),vT = .tuple #[xT0,vI ((BU (List.replicate (((l[0]!).data).length) (0:UInt8)) ((l[0]!).epoch) ((l[0]!).threshold) ((l[0]!).many) coins).2)]∧BD Enc.share wT ((Bs_ 1)++O) xT0 ((BU (List.replicate (((l[0]!).data).length) (0:UInt8)) ((l[0]!).epoch) ((l[0]!).threshold) ((l[0]!).many) coins).1)) (F1 25) w1:=hd 12 25 kR kR
     have:=hl2476.len_le
     have hl2476:=hl2476.mv (Mv.at_ (hr_ 1 kR))
     obtain ⟨F2,rfl⟩:=AJ (F:=F1) [(25,vT #[x2475,vI ((BU (List.replicate (((l[0]!).data).length) (0:UInt8)) ((l[0]!).epoch) ((l[0]!).threshold) ((l[0]!).many) coins).2)])] ⟨e2477,trivial⟩
     exact AH rfl ((AK (x2475) rfl rfl (⟨[],(Keep.refl _ _),NW,hl2476⟩)))
    ·intro F1 w1 B1_ Bs_ k1 hs_ hl_ hr_ hsep_ hf hd
     obtain ⟨x2478,e2480,hl2479⟩:(fun (vT:Value) (wT:World)=>∃ (xT0:Value),vT = .tuple #[xT0,vI ((BU (List.replicate (((l[0]!).data).length) (0:UInt8)) ((l[0]!).epoch) ((l[0]!).threshold) ((l[0]!).many) coins).2)]∧BD Enc.share wT ((Bs_ 1)++O) xT0 ((BU (List.replicate (((l[0]!).data).length) (0:UInt8)) ((l[0]!).epoch) ((l[0]!).threshold) ((l[0]!).many) coins).1)) (F1 25) w1:=hd 12 25 kR kR
     have:=hl2479.len_le
     obtain ⟨F2,rfl⟩:=AJ (F:=F1) [(25,vT #[x2478,vI ((BU (List.replicate (((l[0]!).data).length) (0:UInt8)) ((l[0]!).epoch) ((l[0]!).threshold) ((l[0]!).many) coins).2)])] ⟨e2480,trivial⟩
     exact AH rfl ((AK (vI ((BU (List.replicate (((l[0]!).data).length) (0:UInt8)) ((l[0]!).epoch) ((l[0]!).threshold) ((l[0]!).many) coins).2)) rfl rfl (⟨[],(Keep.refl _ _),NW,rfl⟩)))
    ·intro F1 w1 B1_ Bs_ k1 hs_ hl_ hr_ hsep_ hf hd
     have k0:=(Keep.drew [] w2434).trans k1
     have s1:=s2435.adoptL k0 hl_
     obtain ⟨F2,rfl⟩:=AJ (F:=F1) [] trivial
     refine AH rfl ((CY [nS] z_32 rfl s1 fun b2481 w2482 e2487 s2483 m2484 k2485 bx2486=>(?_)))
     have lo2488:w2434.heap.size≤b2481:=by have:=k0.size;omega
     exact ⟨[],k2485,NW,⟨_,rfl,lo2488,(by intro h;have:=lt_of s1 _ h;omega),bx2486⟩⟩
    ·intro F2490 w2491 Bs2496 k2489 hB2497 hl2498 sep2499 hT2492 hF2493
     obtain ⟨b2500,e2504,lo2501,hn2502,bx2505⟩:(RS w2434 32 [nS]) (Bs2496 2) (F2490 8) w2491:=hT2492 15 8 kR (by decide) kR kR
     have hi2503:=bx2505.lt
     have hl2506:∀ x∈(b2427 :: []),x∈(b2427 :: [])∨(w2434.heap.size≤x∧x<w2491.heap.size):=fun x hx=>.inl hx
     have hsu2507:∀ x∈(b2427 :: []),x∈(b2427 :: []):=fun x hx=>hx
     have hq2508:∀ x∈(b2427 :: []),x∈Bs2496 1:=fun x hx=>hB2497 1 x hx
     have hq2509:∀ x∈(b2427 :: []),x∈Bs2496 2:=fun x hx=>hB2497 2 x hx
     have hl2510:∀ x∈(b2500 :: (b2427 :: [])),x∈(b2427 :: [])∨(w2434.heap.size≤x∧x<w2491.heap.size):=fun x hx=>by rcases List.mem_cons.1 hx with rfl|hx;exact .inr ⟨lo2501,hi2503⟩;exact hl2506 x hx
     have hsu2511:∀ x∈(b2427 :: []),x∈(b2500 :: (b2427 :: [])):=fun x hx=>List.mem_cons_of_mem _ (hsu2507 x hx)
     have hq2512:∀ x∈(b2500 :: (b2427 :: [])),x∈Bs2496 1:=fun x hx=>by rcases List.mem_cons.1 hx with rfl|hx;exact sep2499 2 1 _ (by decide) lo2501 hi2503 hn2502;exact hq2508 x hx
     have s2494:=s2435.adoptL k2489 hl2510
     have m2495:Mv (b2427 :: []) w2434 (b2500 :: (b2427 :: [])) w2491:=Mv.adoptL k2489 hl2510
     have ne2513:FO b2427 b2500:=by show b2427≠b2500;have:=bx2438.lt;omega
     obtain ⟨v2514,e2516,hl2515⟩:∃ v,F2490 38=v∧BD Enc.share w2491 ((Bs2496 1)++O) v ((BU (List.replicate (((l[0]!).data).length) (0:UInt8)) ((l[0]!).epoch) ((l[0]!).threshold) ((l[0]!).many) coins).1):=⟨_,rfl,hT2492 13 38 kR (by decide) kR kR⟩
     have:=hl2515.len_le
     have hl2515:=hl2515.mv (Mv.at_ hq2512)
     have hp2409:=hp2409.mv m2495
     have hd2440:=hd2440.mv m2495
     have bx2438:=bx2438.keep k2489 (by simp)
     obtain ⟨F2,rfl⟩:=AJ (F:=F2490) [(2,vP (some a2404)),(5,vI 0),(7,vP (some ⟨b2427,0,none⟩)),(48,undef),(8,vP (some ⟨b2500,0,none⟩)),(38,v2514),(39,vI ((BU (List.replicate (((l[0]!).data).length) (0:UInt8)) ((l[0]!).epoch) ((l[0]!).threshold) ((l[0]!).many) coins).2))] ⟨hF2493 2 kR,hF2493 5 kR,hF2493 7 kR,hF2493 48 kR,e2504,e2516,hT2492 14 39 kR (by decide) kR kR,trivial⟩
     clear hT2492 hF2493 hB2497 hl2498 sep2499
     refine BW (CK (v2514) rfl rfl hl2515.oneCell s_32 (by repeat (constructor)) bx2505 oT s2494 fun w2517 s2518 m2519 k2520 bx2521=>(?_))
     have hp2409:=hp2409.mv m2519
     have hl2515:=hl2515.mv m2519
     have hd2440:=hd2440.mv m2519
     have bx2438:=bx2438.keep k2520 (BG ne2513)
     refine AA (AD (vI ((BU (List.replicate (((l[0]!).data).length) (0:UInt8)) ((l[0]!).epoch) ((l[0]!).threshold) ((l[0]!).many) coins).2)) rfl (AF (AC (?_))))
     refine AE (?_)
     refine AE (?_)
     refine AB kR (AA (AG (vI ((BU (List.replicate (((l[0]!).data).length) (0:UInt8)) ((l[0]!).epoch) ((l[0]!).threshold) ((l[0]!).many) coins).2)) rfl (AA (CV .i64 ((BU (List.replicate (((l[0]!).data).length) (0:UInt8)) ((l[0]!).epoch) ((l[0]!).threshold) ((l[0]!).many) coins).2) (0:Int) rfl rfl (AF (AC (?_)))))))
     refine AL (((BU (List.replicate (((l[0]!).data).length) (0:UInt8)) ((l[0]!).epoch) ((l[0]!).threshold) ((l[0]!).many) coins).2) != (0:Int)) rfl rfl (fun hc2522=>?_) (fun hc2522=>?_)
     ·have hp2523:(BU (List.replicate (((l[0]!).data).length) (0:UInt8)) ((l[0]!).epoch) ((l[0]!).threshold) ((l[0]!).many) coins).2≠(0:Int):=by simpa using hc2522
      refine AE (?_)
      refine AB kR (AA (AG (vI ((BU (List.replicate (((l[0]!).data).length) (0:UInt8)) ((l[0]!).epoch) ((l[0]!).threshold) ((l[0]!).many) coins).2)) rfl (AA (AD (nS) rfl (AA (AD (vI ((BU (List.replicate (((l[0]!).data).length) (0:UInt8)) ((l[0]!).epoch) ((l[0]!).threshold) ((l[0]!).many) coins).2)) rfl (AF (AC (?_)))))))))
      refine AM (AP (AX rfl (FE rfl rfl rfl rfl) (?_)))
      have e:(CL l coins)=([],(BU (List.replicate (((l[0]!).data).length) (0:UInt8)) ((l[0]!).epoch) ((l[0]!).threshold) ((l[0]!).many) coins).2):=by exact HV (l:=l) (coins:=coins) (by unfold EB HO;((repeat ((refine (if_neg ?_).trans ?_;omega)));rfl)) aS
      exact ⟨_,rfl,s2518.keep,by rw [e];exact ⟨.slice none 0 0,rfl,BD.nil _ _ _⟩⟩
     ·have hp2524:(BU (List.replicate (((l[0]!).data).length) (0:UInt8)) ((l[0]!).epoch) ((l[0]!).threshold) ((l[0]!).many) coins).2=(0:Int):=by simpa using hc2522
      have hz2:(HO l[0]! coins).2=0:=hp2524
      have hzl:=VQ hz2
      refine AT (AC (?_))
      refine AE (?_)
      refine AB kR (AA (BV U32_ rfl rfl hp2409 fun v2525 hl2526=>(?_)))
      have:=hl2526.len_le
      refine AA (CG U32_ rfl hl2526 (?_))
      obtain ⟨B2527,s2528,m2529,hp2530,hk2531⟩:=bx2438.publish (E:=Enc.share) (u:=(l[0]!)) ⟨_,rfl,hd2440⟩ s2518 (by repeat (constructor))
      have hin_b2500:b2500∈B2527:=hk2531 b2500 (by repeat (constructor)) (Ne.symm ne2513)
      have hp2409:=hp2409.mv m2529
      have hl2515:=hl2515.mv m2529
      have bx2521:=bx2521.keep (Keep.refl [] _) (by simp)
      obtain ⟨B2532,s2533,m2534,hp2535,hk2536⟩:=bx2521.publish (E:=(Enc.slice Enc.share)) (u:=(BU (List.replicate (((l[0]!).data).length) (0:UInt8)) ((l[0]!).epoch) ((l[0]!).threshold) ((l[0]!).many) coins).1) ⟨_,rfl,hl2515⟩ s2528 (by repeat (assumption))
      have hp2409:=hp2409.mv m2534
      have hp2530:=hp2530.mv m2534
      refine AA (DC (first:=[]) (captured:=[.tmp 2, .tmp 7, .tmp 8]) [] [vP (some a2404),vP (some ⟨b2427,0,none⟩),vP (some ⟨b2500,0,none⟩)] rfl rfl (AA (BC (vs:=[vI (l.length:Int),vN (.func 55) #[] #[vP (some a2404),vP (some ⟨b2427,0,none⟩),vP (some ⟨b2500,0,none⟩)]]) TA (OU (O:=B2532++O) (l.length:Int) 55 [vP (some a2404),vP (some ⟨b2427,0,none⟩),vP (some ⟨b2500,0,none⟩)] (fun i_=>FS l (l[0]!) ((BU (List.replicate (((l[0]!).data).length) (0:UInt8)) ((l[0]!).epoch) ((l[0]!).threshold) ((l[0]!).many) coins).1) i_) w2517 enter_55 (fun w'_ O'_ kk_ hs_ hl_ i_  hc_=>TF (O:=O'_) i_ a2404 l (⟨b2427,0,none⟩) (l[0]!) (⟨b2500,0,none⟩) ((BU (List.replicate (((l[0]!).data).length) (0:UInt8)) ((l[0]!).epoch) ((l[0]!).threshold) ((l[0]!).many) coins).1) w'_ (hp2409.on hs_ kk_) (hp2530.on hs_ kk_) (hp2535.on hs_ kk_) oM (show _<(HO l[0]! coins).1.length from by omega) (hv.da _ oM) (UC hz2 oM) (by have:=hv.ep i_ oM;have:=hv.ep0;omega) (by have:=hv.ep i_ oM;have:=hv.ep1;omega) oM hl_) oM s2533.lt) rfl s2533 fun v2537 w2538 s2539 m2540 k2541 r2542=>(?_))))
      obtain ⟨_,rfl,hl2543⟩:=r2542
      have:=hl2543.len_le
      refine AA (AD (v2537) rfl (AF (AC (?_))))
      refine AE (?_)
      refine AB kR (AA (AG (v2537) rfl (AA (AD (v2537) rfl (AA (AD (vI 0) rfl (AF (AC (?_)))))))))
      refine AM (AX rfl (FE rfl rfl rfl rfl) (?_))
      have e:(CL l coins)=((List.range ((l.length:Int)).toNat).map (fun i_=>FS l (l[0]!) ((BU (List.replicate (((l[0]!).data).length) (0:UInt8)) ((l[0]!).epoch) ((l[0]!).threshold) ((l[0]!).many) coins).1) i_),(0:Int)):=by exact RG (l:=l) (coins:=coins) (by unfold EB;((repeat ((refine (if_neg ?_).trans ?_;omega)));exact hz2)) rfl
      exact ⟨_,rfl,s2539.keep,by rw [e];exact ⟨v2537,rfl,hl2543.out⟩⟩
    ·intro cx_ hcx_
     match cx_,hcx_ with
     | 0,_=>
      intro F2545 w2546 Bs2551 k2544 hB2552 hl2553 sep2554 hT2547 hF2548
      obtain ⟨b2555,e2559,lo2556,hn2557,bx2560⟩:(RS w2434 32 [nS]) (Bs2551 2) (F2545 8) w2546:=hT2547 15 8 kR (by decide) kR kR
      have hi2558:=bx2560.lt
      have hl2561:∀ x∈(b2427 :: []),x∈(b2427 :: [])∨(w2434.heap.size≤x∧x<w2546.heap.size):=fun x hx=>.inl hx
      have hsu2562:∀ x∈(b2427 :: []),x∈(b2427 :: []):=fun x hx=>hx
      have hq2563:∀ x∈(b2427 :: []),x∈Bs2551 1:=fun x hx=>hB2552 1 x hx
      have hq2564:∀ x∈(b2427 :: []),x∈Bs2551 2:=fun x hx=>hB2552 2 x hx
      have hl2565:∀ x∈(b2555 :: (b2427 :: [])),x∈(b2427 :: [])∨(w2434.heap.size≤x∧x<w2546.heap.size):=fun x hx=>by rcases List.mem_cons.1 hx with rfl|hx;exact .inr ⟨lo2556,hi2558⟩;exact hl2561 x hx
      have hsu2566:∀ x∈(b2427 :: []),x∈(b2555 :: (b2427 :: [])):=fun x hx=>List.mem_cons_of_mem _ (hsu2562 x hx)
      have hq2567:∀ x∈(b2555 :: (b2427 :: [])),x∈Bs2551 1:=fun x hx=>by rcases List.mem_cons.1 hx with rfl|hx;exact sep2554 2 1 _ (by decide) lo2556 hi2558 hn2557;exact hq2563 x hx
      have s2549:=s2435.adoptL k2544 hl2565
      have m2550:Mv (b2427 :: []) w2434 (b2555 :: (b2427 :: [])) w2546:=Mv.adoptL k2544 hl2565
      have ne2568:FO b2427 b2555:=by show b2427≠b2555;have:=bx2438.lt;omega
      obtain ⟨x2569,e2571,hl2570⟩:(fun (vT:Value) (wT:World)=>∃ (xT0:Value),vT = .tuple #[xT0,vI ((BU (List.replicate (((l[0]!).data).length) (0:UInt8)) ((l[0]!).epoch) ((l[0]!).threshold) ((l[0]!).many) coins).2)]∧BD Enc.share wT ((Bs2551 1)++O) xT0 ((BU (List.replicate (((l[0]!).data).length) (0:UInt8)) ((l[0]!).epoch) ((l[0]!).threshold) ((l[0]!).many) coins).1)) (F2545 25) w2546:=hT2547 12 25 kR (by decide) kR kR
      have:=hl2570.len_le
      obtain ⟨v2572,e2574,hl2573⟩:∃ v,F2545 38=v∧BD Enc.share w2546 ((Bs2551 1)++O) v ((BU (List.replicate (((l[0]!).data).length) (0:UInt8)) ((l[0]!).epoch) ((l[0]!).threshold) ((l[0]!).many) coins).1):=⟨_,rfl,hT2547 13 38 kR (by decide) kR kR⟩
      have:=hl2573.len_le
      have hl2573:=hl2573.mv (Mv.at_ hq2567)
      have hp2409:=hp2409.mv m2550
      have hd2440:=hd2440.mv m2550
      have bx2438:=bx2438.keep k2544 (by simp)
      obtain ⟨F2,rfl⟩:=AJ (F:=F2545) [(2,vP (some a2404)),(5,vI 0),(7,vP (some ⟨b2427,0,none⟩)),(48,undef),(8,vP (some ⟨b2555,0,none⟩)),(25,vT #[x2569,vI ((BU (List.replicate (((l[0]!).data).length) (0:UInt8)) ((l[0]!).epoch) ((l[0]!).threshold) ((l[0]!).many) coins).2)]),(38,v2572)] ⟨hF2548 2 kR,hF2548 5 kR,hF2548 7 kR,hF2548 48 kR,e2559,e2571,e2574,trivial⟩
      clear hT2547 hF2548 hB2552 hl2553 sep2554
      refine BW (CK (v2572) rfl rfl hl2573.oneCell s_32 (by repeat (constructor)) bx2560 oT s2549 fun w2575 s2576 m2577 k2578 bx2579=>(?_))
      have hp2409:=hp2409.mv m2577
      have hl2573:=hl2573.mv m2577
      have hd2440:=hd2440.mv m2577
      have bx2438:=bx2438.keep k2578 (BG ne2568)
      refine AA (AK (vI ((BU (List.replicate (((l[0]!).data).length) (0:UInt8)) ((l[0]!).epoch) ((l[0]!).threshold) ((l[0]!).many) coins).2)) rfl rfl (AA (AD (vI ((BU (List.replicate (((l[0]!).data).length) (0:UInt8)) ((l[0]!).epoch) ((l[0]!).threshold) ((l[0]!).many) coins).2)) rfl (AF (AC (?_))))))
      refine AE (?_)
      refine AE (?_)
      refine AB kR (AA (AG (vI ((BU (List.replicate (((l[0]!).data).length) (0:UInt8)) ((l[0]!).epoch) ((l[0]!).threshold) ((l[0]!).many) coins).2)) rfl (AA (CV .i64 ((BU (List.replicate (((l[0]!).data).length) (0:UInt8)) ((l[0]!).epoch) ((l[0]!).threshold) ((l[0]!).many) coins).2) (0:Int) rfl rfl (AF (AC (?_)))))))
      refine AL (((BU (List.replicate (((l[0]!).data).length) (0:UInt8)) ((l[0]!).epoch) ((l[0]!).threshold) ((l[0]!).many) coins).2) != (0:Int)) rfl rfl (fun hc2580=>?_) (fun hc2580=>?_)
      ·have hp2581:(BU (List.replicate (((l[0]!).data).length) (0:UInt8)) ((l[0]!).epoch) ((l[0]!).threshold) ((l[0]!).many) coins).2≠(0:Int):=by simpa using hc2580
       refine AE (?_)
       refine AB kR (AA (AG (vI ((BU (List.replicate (((l[0]!).data).length) (0:UInt8)) ((l[0]!).epoch) ((l[0]!).threshold) ((l[0]!).many) coins).2)) rfl (AA (AD (nS) rfl (AA (AD (vI ((BU (List.replicate (((l[0]!).data).length) (0:UInt8)) ((l[0]!).epoch) ((l[0]!).threshold) ((l[0]!).many) coins).2)) rfl (AF (AC (?_)))))))))
       refine AM (AP (AX rfl (FE rfl rfl rfl rfl) (?_)))
       have e:(CL l coins)=([],(BU (List.replicate (((l[0]!).data).length) (0:UInt8)) ((l[0]!).epoch) ((l[0]!).threshold) ((l[0]!).many) coins).2):=by exact HV (l:=l) (coins:=coins) (by unfold EB HO;((repeat ((refine (if_neg ?_).trans ?_;omega)));rfl)) aS
       exact ⟨_,rfl,s2576.keep,by rw [e];exact ⟨.slice none 0 0,rfl,BD.nil _ _ _⟩⟩
      ·have hp2582:(BU (List.replicate (((l[0]!).data).length) (0:UInt8)) ((l[0]!).epoch) ((l[0]!).threshold) ((l[0]!).many) coins).2=(0:Int):=by simpa using hc2580
       have hz2:(HO l[0]! coins).2=0:=hp2582
       have hzl:=VQ hz2
       refine AT (AC (?_))
       refine AE (?_)
       refine AB kR (AA (BV U32_ rfl rfl hp2409 fun v2583 hl2584=>(?_)))
       have:=hl2584.len_le
       refine AA (CG U32_ rfl hl2584 (?_))
       obtain ⟨B2585,s2586,m2587,hp2588,hk2589⟩:=bx2438.publish (E:=Enc.share) (u:=(l[0]!)) ⟨_,rfl,hd2440⟩ s2576 (by repeat (constructor))
       have hin_b2555:b2555∈B2585:=hk2589 b2555 (by repeat (constructor)) (Ne.symm ne2568)
       have hp2409:=hp2409.mv m2587
       have hl2573:=hl2573.mv m2587
       have bx2579:=bx2579.keep (Keep.refl [] _) (by simp)
       obtain ⟨B2590,s2591,m2592,hp2593,hk2594⟩:=bx2579.publish (E:=(Enc.slice Enc.share)) (u:=(BU (List.replicate (((l[0]!).data).length) (0:UInt8)) ((l[0]!).epoch) ((l[0]!).threshold) ((l[0]!).many) coins).1) ⟨_,rfl,hl2573⟩ s2586 (by repeat (assumption))
       have hp2409:=hp2409.mv m2592
       have hp2588:=hp2588.mv m2592
       refine AA (DC (first:=[]) (captured:=[.tmp 2, .tmp 7, .tmp 8]) [] [vP (some a2404),vP (some ⟨b2427,0,none⟩),vP (some ⟨b2555,0,none⟩)] rfl rfl (AA (BC (vs:=[vI (l.length:Int),vN (.func 55) #[] #[vP (some a2404),vP (some ⟨b2427,0,none⟩),vP (some ⟨b2555,0,none⟩)]]) TA (OU (O:=B2590++O) (l.length:Int) 55 [vP (some a2404),vP (some ⟨b2427,0,none⟩),vP (some ⟨b2555,0,none⟩)] (fun i_=>FS l (l[0]!) ((BU (List.replicate (((l[0]!).data).length) (0:UInt8)) ((l[0]!).epoch) ((l[0]!).threshold) ((l[0]!).many) coins).1) i_) w2575 enter_55 (fun w'_ O'_ kk_ hs_ hl_ i_  hc_=>TF (O:=O'_) i_ a2404 l (⟨b2427,0,none⟩) (l[0]!) (⟨b2555,0,none⟩) ((BU (List.replicate (((l[0]!).data).length) (0:UInt8)) ((l[0]!).epoch) ((l[0]!).threshold) ((l[0]!).many) coins).1) w'_ (hp2409.on hs_ kk_) (hp2588.on hs_ kk_) (hp2593.on hs_ kk_) oM (show _<(HO l[0]! coins).1.length from by omega) (hv.da _ oM) (UC hz2 oM) (by have:=hv.ep i_ oM;have:=hv.ep0;omega) (by have:=hv.ep i_ oM;have:=hv.ep1;omega) oM hl_) oM s2591.lt) rfl s2591 fun v2595 w2596 s2597 m2598 k2599 r2600=>(?_))))
       obtain ⟨_,rfl,hl2601⟩:=r2600
       have:=hl2601.len_le
       refine AA (AD (v2595) rfl (AF (AC (?_))))
       refine AE (?_)
       refine AB kR (AA (AG (v2595) rfl (AA (AD (v2595) rfl (AA (AD (vI 0) rfl (AF (AC (?_)))))))))
       refine AM (AX rfl (FE rfl rfl rfl rfl) (?_))
       have e:(CL l coins)=((List.range ((l.length:Int)).toNat).map (fun i_=>FS l (l[0]!) ((BU (List.replicate (((l[0]!).data).length) (0:UInt8)) ((l[0]!).epoch) ((l[0]!).threshold) ((l[0]!).many) coins).1) i_),(0:Int)):=by exact RG (l:=l) (coins:=coins) (by unfold EB;((repeat ((refine (if_neg ?_).trans ?_;omega)));exact hz2)) rfl
       exact ⟨_,rfl,s2597.keep,by rw [e];exact ⟨v2595,rfl,hl2601.out⟩⟩
open Go.Fw
def selB (mask:UInt8) (i:Nat):Bool:=decide (i<8) && (mask >>> UInt8.ofNat i &&& 1 == 1)
def NC (mask:UInt8) (n:Nat):List Nat:=(List.range n).filter (selB mask)
def CX (l:List Share) (mask:UInt8) (n:Nat):List Share:=(NC mask n).map fun i=>l[i]!
theorem UW (mask:UInt8) (n:Nat):NC mask (n+1)=NC mask n++if selB mask n then [n] else []:=by
  unfold NC;rw [List.range_succ,List.filter_append];congr 1
  cases h:selB mask n <;> simp [List.filter,h]
theorem someM_hit {l:List Share} {mask:UInt8} {n:Nat} (h:n<8) (h2:mask >>> UInt8.ofNat n &&& 1=1):CX l mask (n+1)=CX l mask n++[l[n]!]:=by
  unfold CX;rw [UW,if_pos (by simp [selB,h,h2])];simp
theorem someM_miss {l:List Share} {mask:UInt8} {n:Nat} (h:¬ (n<8∧mask >>> UInt8.ofNat n &&& 1=1)):CX l mask (n+1)=CX l mask n:=by
  unfold CX;rw [UW,if_neg (by simp only [selB,Bool.and_eq_true,decide_eq_true_eq,beq_iff_eq];exact h)];simp
theorem selL_lt {mask:UInt8} {n j:Nat} (h:j<(NC mask n).length):(NC mask n)[j]! < n:=by
  rw [getElem!_pos _ j h]
  have:=List.getElem_mem h
  unfold NC at this
  exact List.mem_range.1 (List.mem_filter.1 this).1
theorem selL_inc {mask:UInt8} {n i j:Nat} (hij:i<j) (h:j<(NC mask n).length):(NC mask n)[i]! < (NC mask n)[j]!:=by
  rw [getElem!_pos _ j h,getElem!_pos _ i (by omega)]
  have:(NC mask n).Pairwise (· < ·):=List.Pairwise.filter _ List.pairwise_lt_range
  exact List.pairwise_iff_getElem.1 this i j _ _ hij
theorem NY (l:List Share) (mask:UInt8) (n:Nat):(CX l mask n).length=(NC mask n).length:=by simp [CX]
theorem someM_le (l:List Share) (mask:UInt8) (n:Nat):(CX l mask n).length≤n:=by
  rw [NY];unfold NC;exact Nat.le_trans (List.length_filter_le _ _) (by simp)
theorem HN {l:List Share} {mask:UInt8} {n j:Nat} (h:j<(CX l mask n).length):(CX l mask n)[j]! = l[(NC mask n)[j]!]!:=by
  rw [NY] at h
  unfold CX
  rw [getElem!_pos _ j (by simpa using h),getElem!_pos _ j h];simp
structure Num (ep t m:Int) (n:Nat):Prop where
  t1:1≤t
  tm:t≤m
  m8:m≤8
  n64:n≤64
  ep0:0≤ep
  ep1:ep≤1048576
structure On (P:Nat→List UInt8) (ep t m:Int) (n:Nat) (x:List Share):Prop where
  ep:∀ j,j<x.length→x[j]!.epoch=ep
  th:∀ j,j<x.length→x[j]!.threshold=t
  ma:∀ j,j<x.length→x[j]!.many=m
  da:∀ j,j<x.length→x[j]!.data.length=n
  ix:∀ j,j<x.length→1≤x[j]!.index∧x[j]!.index≤m
  inc:∀ i j,i<j→j<x.length→x[i]!.index<x[j]!.index
  val:∀ j,j<x.length→∀ p,p<n→x[j]!.data[p]! = EF (P p) (GQ x[j]!.index)
theorem On.good {P:Nat→List UInt8} {ep t m:Int} {n:Nat} {x:List Share} (h:On P ep t m n x) (hn:Num ep t m n) (hx:0<x.length):Good x:=
  ⟨hx,by rw [h.th 0 hx];exact hn.t1,by rw [h.th 0 hx,h.ma 0 hx];exact hn.tm,by rw [h.ma 0 hx];exact hn.m8,by rw [h.da 0 hx];exact hn.n64,
   fun k hk=>by rw [h.th k hk,h.th 0 hx],fun k hk=>by rw [h.ma k hk,h.ma 0 hx],fun k hk=>by rw [h.da k hk,h.da 0 hx],fun k hk=>by rw [h.ma 0 hx];exact h.ix k hk,fun k hk=>h.inc k (k+1) (by omega) hk⟩
theorem On.vd {P:Nat→List UInt8} {ep t m:Int} {n:Nat} {x:List Share} (h:On P ep t m n x) (hn:Num ep t m n) (hx:0<x.length):Vd x:=
  ⟨h.good hn hx,fun k hk=>by rw [h.ep k hk,h.ep 0 hx],by rw [h.ep 0 hx];exact hn.ep0,by rw [h.ep 0 hx];exact hn.ep1⟩
theorem On.some {P:Nat→List UInt8} {ep t m:Int} {n:Nat} {l:List Share} (h:On P ep t m n l) (mask:UInt8):On P ep t m n (CX l mask l.length):=by
  have hs:∀ j,j<(CX l mask l.length).length→(NC mask l.length)[j]! < l.length:=fun j hj=>selL_lt (by rw [NY] at hj;exact hj)
  refine ⟨fun j hj=>?_,fun j hj=>?_,fun j hj=>?_,fun j hj=>?_,fun j hj=>?_,fun i j hij hj=>?_,fun j hj=>?_⟩
  · rw [HN hj];exact h.ep _ (hs j hj)
  · rw [HN hj];exact h.th _ (hs j hj)
  · rw [HN hj];exact h.ma _ (hs j hj)
  · rw [HN hj];exact h.da _ (hs j hj)
  · rw [HN hj];exact h.ix _ (hs j hj)
  · rw [HN hj,HN (by omega)];exact h.inc _ _ (selL_inc hij (by rw [NY] at hj;exact hj)) (hs j hj)
  · rw [HN hj];exact h.val _ (hs j hj)
theorem takeLen {α:Type} {l:List α} {n:Nat} (h:n≤l.length):(l.take n).length=n:=by rw [List.length_take];omega
theorem On.join {P:Nat→List UInt8} {ep t m:Int} {n:Nat} {x:List Share} (h:On P ep t m n x) (hn:Num ep t m n) (hx:t≤(x.length:Int)) (hd:∀ p,p<n→∀ i:Nat,t.toNat≤i→(P p)[i]! = 0) :
    CS x=((List.range n).map fun p=>EF (P p) 0,0):=by
  have ht1:=hn.t1
  have hpos:0<x.length:=by omega
  have hv:=h.vd hn hpos
  refine joinM_ok ((FC x).2 hv) (by rw [h.th 0 hpos];exact hx) ?_
  rw [h.th 0 hpos]
  have hl:(x.take t.toNat).length=t.toNat:=takeLen (by omega)
  unfold joinL
  rw [take0 (by omega),h.da 0 hpos]
  apply List.map_congr_left
  intro p hp
  have hp:p<n:=by simpa using hp
  have hm8:=hn.m8;have htm:=hn.tm
  have hxg:∀ i,i<t.toNat→(MP (x.take t.toNat))[i]! = GQ x[i]!.index:=fun i hi=>by
    unfold MP;rw [GS _ _ _ (by rw [hl];exact hi),takeS hi]
  have hyg:∀ i,i<t.toNat→(EW (x.take t.toNat) p)[i]! = x[i]!.data[p]!:=fun i hi=>by
    unfold EW;rw [GS _ _ _ (by rw [hl];exact hi),takeS hi]
  have hnd:(MP (x.take t.toNat)).Nodup:=by
    rw [LQ]
    intro i j hij hj he
    rw [HX,hl] at hj
    rw [hxg i (by omega),hxg j hj] at he
    have h1:=h.ix i (by omega);have h2:=h.ix j (by omega)
    have:=u8of_inj (by omega) (by omega) (by omega) (by omega) he
    have:=h.inc i j hij (by omega)
    omega
  have hw:FL (MP (x.take t.toNat)) (EW (x.take t.toNat) p)=false:=(QW _ _).2 ⟨by rw [HX,QG],hnd⟩
  rw [through_ok _ hw]
  refine JQ _ _ ((PV hw).2.1.unique hnd (fun i hi=>hd p hp i (by rw [HX,hl] at hi;exact hi)) fun i hi=>?_) 0
  rw [HX,hl] at hi
  rw [hxg i hi,hyg i hi,h.val i (by omega) p hp]
theorem On.few {P:Nat→List UInt8} {ep t m:Int} {n:Nat} {x:List Share} (h:On P ep t m n x) (hn:Num ep t m n) (hpos:0<x.length) (hx:(x.length:Int)<t):CS x=([],80):=
  VR ((FC x).2 (h.vd hn hpos)) (by rw [h.th 0 hpos];exact hx) rfl
theorem VM {secret:List UInt8} {ep t m:Int} {coins:List UInt8} (h:EC secret ep t m coins=0):Num ep t m secret.length:=by
  have:=(LY _ _ _ _ _).1 h
  exact ⟨by omega,by omega,by omega,by omega,by omega,by omega⟩
def pol (secret coins:List UInt8) (t:Int) (p:Nat):List UInt8:=LS secret coins t p
theorem split_on {secret:List UInt8} {ep t m:Int} {coins:List UInt8} (h:EC secret ep t m coins=0):On (pol secret coins t) ep t m secret.length (IP secret ep t m coins):=by
  have hn:=VM h
  have hg:∀ j,j<(IP secret ep t m coins).length→(IP secret ep t m coins)[j]! = EV secret (polysM secret coins t) ep t m j:=fun j hj=>OQ (by rw [KI] at hj;exact hj)
  refine ⟨fun j hj=>?_,fun j hj=>?_,fun j hj=>?_,fun j hj=>?_,fun j hj=>?_,fun i j hij hj=>?_,fun j hj p hp=>?_⟩
  · rw [hg j hj];rfl
  · rw [hg j hj];rfl
  · rw [hg j hj];rfl
  · rw [hg j hj,MZ]
  · rw [hg j hj];rw [KI] at hj;simp only [EV];omega
  · rw [hg j hj,hg i (by omega)];simp only [EV];omega
  · rw [hg j hj];simp only [EV];rw [GS _ _ _ hp,polys_get hp];rfl
theorem pol_len {secret:List UInt8} {t:Int} {coins:List UInt8} (ht:1≤t) (hc:(coins.length:Int)=(secret.length:Int)*(t - 1)) {p:Nat} (hp:p<secret.length):(pol secret coins t p).length=t.toNat:=by
  have hb:=polyB (m:=coins.length) hp ht hc
  unfold pol LS
  rw [List.length_cons,List.length_drop,List.length_take,Nat.min_eq_left hb,Nat.add_mul]
  omega
theorem pol_high {secret:List UInt8} {ep t m:Int} {coins:List UInt8} (h:EC secret ep t m coins=0):∀ p,p<secret.length→∀ i:Nat,t.toNat≤i→(pol secret coins t p)[i]! = 0:=fun p hp i hi=>by
  have:=(LY _ _ _ _ _).1 h
  exact DW (by rw [pol_len (by omega) this.2.2.2.2.2.2 hp];exact hi)
theorem pol_at0 (secret coins:List UInt8) (t:Int) (p:Nat):EF (pol secret coins t p) 0=secret[p]!:=by
  unfold pol LS;rw [GF,JO,UInt8.zero_xor]
theorem range_get (l:List UInt8):((List.range l.length).map fun p=>l[p]!)=l:=by
  apply SA (by simp)
  intro i
  by_cases hi:i<l.length
  · rw [GS _ _ _ hi]
  · rw [DW (by simp;omega),DW (by omega)]
theorem RI {l:List Share} {secret:List UInt8} {m:Nat} (hg:Good l) (h:1+l.length+m≤100):∀ p,(OF l secret m p).length=p*(l.length+m)
  | 0=>by simp [OF]
  | p+1=>by rw [OF,List.length_append,RI hg h p,List.length_drop,exp_len hg h,Nat.add_mul];omega
def Full (m:Int) (l:List Share):Prop:=l.length=m.toNat∧∀ k,k<l.length→l[k]!.index=(k:Int)+1
theorem SU (secret:List UInt8) (ep t m:Int) (coins:List UInt8):Full m (IP secret ep t m coins):=
  ⟨KI _ _ _ _ _,fun k hk=>by rw [OQ (by rw [KI] at hk;exact hk)];rfl⟩
open Go.Fw
structure Spl (secret:List UInt8) (ep t m:Int) (l:List Share):Prop where
  num:Num ep t m secret.length
  full:Full m l
  ex:∃ P,On P ep t m secret.length l∧(∀ p,p<secret.length→∀ i:Nat,t.toNat≤i→(P p)[i]! = 0)∧∀ p,p<secret.length→EF (P p) 0=secret[p]!
theorem VG {secret:List UInt8} {ep t m:Int} {coins:List UInt8} (h:(BU secret ep t m coins).2=0):Spl secret ep t m (BU secret ep t m coins).1:=by
  have hr:=JJ h
  rw [hr.2]
  exact ⟨VM hr.1,SU _ _ _ _ _,pol secret coins t,split_on hr.1,pol_high hr.1,fun p _=>pol_at0 _ _ _ _⟩
theorem Spl.len {secret:List UInt8} {ep t m:Int} {l:List Share} (h:Spl secret ep t m l):(l.length:Int)=m:=by
  have:=h.num.tm;have:=h.num.t1;rw [h.full.1];omega
theorem Spl.join {secret:List UInt8} {ep t m:Int} {l:List Share} (h:Spl secret ep t m l) (mask:UInt8) (hx:t≤((CX l mask l.length).length:Int)):CS (CX l mask l.length)=(secret,0):=by
  obtain ⟨P,h1,h2,h3⟩:=h.ex
  rw [(h1.some mask).join h.num hx h2]
  congr 1
  refine Eq.trans (List.map_congr_left fun p hp=>h3 p (by simpa using hp)) (range_get secret)
theorem Spl.few {secret:List UInt8} {ep t m:Int} {l:List Share} (h:Spl secret ep t m l) (mask:UInt8) (hpos:0<(CX l mask l.length).length) (hx:((CX l mask l.length).length:Int)<t):CS (CX l mask l.length)=([],80):=by
  obtain ⟨P,h1,_⟩:=h.ex
  exact (h1.some mask).few h.num hpos hx
theorem Spl.many {secret:List UInt8} {ep t m:Int} {l:List Share} (h:Spl secret ep t m l) (mask:UInt8) (other:List UInt8) (hpos:0<(CX l mask l.length).length) (hx:t≤((CX l mask l.length).length:Int)):BH (CX l mask l.length) other=([],80):=by
  obtain ⟨P,h1,_⟩:=h.ex
  have h2:=h1.some mask
  exact LE ((FC _).2 (h2.vd h.num hpos)) (by rw [h2.th 0 hpos];exact hx) rfl
theorem Spl.da {secret:List UInt8} {ep t m:Int} {l:List Share} (h:Spl secret ep t m l) {i:Nat} (hi:i<l.length):l[i]!.data.length=secret.length:=by
  obtain ⟨P,h1,_⟩:=h.ex
  exact h1.da i hi
def padd (l m:List UInt8):List UInt8:=tab (max l.length m.length) fun i=>l[i]! ^^^ m[i]!
theorem padd_get (l m:List UInt8) (i:Nat):(padd l m)[i]! = l[i]! ^^^ m[i]!:=by
  unfold padd;rw [KT]
  split
  · rfl
  · rw [DW (by omega),DW (by omega)];rfl
theorem padd_pev (l m:List UInt8) (x:UInt8):EF (padd l m) x=EF l x ^^^ EF m x:=PF _ _ _ (padd_get l m) x
open Go.Fw
theorem Spl.epoch {secret:List UInt8} {ep t m:Int} {l:List Share} (h:Spl secret ep t m l) (mask:UInt8) {j:Nat} (hj:j<(CX l mask l.length).length) :
    (CX l mask l.length)[j]!.epoch=ep∧(CX l mask l.length)[j]!.threshold=t∧(CX l mask l.length)[j]!.many=m:=by
  obtain ⟨P,h1,_⟩:=h.ex
  have:=h1.some mask
  exact ⟨this.ep j hj,this.th j hj,this.ma j hj⟩
theorem refresh_bad {secret:List UInt8} {ep t m:Int} {l:List Share} (h:Spl secret ep t m l) (hep:ep<1048576) (coins:List UInt8) :
    EB l coins=EC (List.replicate secret.length 0) ep t m coins:=by
  obtain ⟨P,h1,_⟩:=h.ex
  have hl:=h.len
  have:=h.num.t1;have:=h.num.tm
  have hpos:0<l.length:=by omega
  have hv:=h1.vd h.num hpos
  unfold EB
  rw [if_neg (by rw [(FC l).2 hv];simp),if_neg (by rw [h1.ma 0 hpos,hl];simp),if_neg (by rw [h1.ep 0 hpos];omega)]
  unfold HO
  rw [MI,h1.da 0 hpos,h1.ep 0 hpos,h1.th 0 hpos,h1.ma 0 hpos]
theorem RK (l:List Share) (coins:List UInt8):(CL l coins).2=EB l coins:=by
  unfold CL;split
  · rename_i h;rw [h]
  · rfl
theorem TT (n p:Nat):(List.replicate n (0:UInt8))[p]! = 0:=by
  by_cases h:p<n
  · rw [getElem!_pos _ p (by simpa using h)];simp
  · rw [DW (by simp;omega)]
theorem spl_refresh {secret:List UInt8} {ep t m:Int} {l:List Share} (h:Spl secret ep t m l) (hep:ep<1048576) {coins:List UInt8} (h0:(CL l coins).2=0):Spl secret (ep+1) t m (CL l coins).1:=by
  have hb:=h0
  rw [RK] at hb
  rw [show (CL l coins).1=KC l coins by unfold CL;rw [if_pos hb]]
  rw [refresh_bad h hep] at hb
  have hl:=h.len
  have hn:=h.num
  have:=hn.t1;have:=hn.tm
  have hpos:0<l.length:=by omega
  obtain ⟨P,h1,h2,h3⟩:=h.ex
  have hz:(HO l[0]! coins).1=IP (List.replicate secret.length 0) ep t m coins:=by
    unfold HO
    rw [h1.da 0 hpos,h1.ep 0 hpos,h1.th 0 hpos,h1.ma 0 hpos]
    exact (JJ (by rw [MI];exact hb)).2
  have hzo:=split_on hb
  have hzf:=SU (List.replicate secret.length 0) ep t m coins
  have hgl:(KC l coins).length=l.length:=by simp [KC]
  have hg:∀ j,j<l.length→(KC l coins)[j]! = FS l l[0]! (IP (List.replicate secret.length 0) ep t m coins) j:=fun j hj=>by
    unfold KC;rw [GS _ _ _ hj,hz]
  have hzl:(IP (List.replicate secret.length 0) ep t m coins).length=l.length:=by rw [hzf.1,h.full.1]
  refine ⟨⟨hn.t1,hn.tm,hn.m8,hn.n64,by have:=hn.ep0;omega,by omega⟩,⟨by rw [hgl,h.full.1],fun k hk=>by rw [hgl] at hk;rw [hg k hk];exact h.full.2 k hk⟩,fun p=>padd (P p) (pol (List.replicate secret.length 0) coins t p),?_,fun p hp i hi=>?_,fun p hp=>?_⟩
  · refine ⟨fun j hj=>?_,fun j hj=>?_,fun j hj=>?_,fun j hj=>?_,fun j hj=>?_,fun i j hij hj=>?_,fun j hj p hp=>?_⟩ <;> rw [hgl] at hj
    · rw [hg j hj];simp only [FS];rw [h1.ep j hj]
    · rw [hg j hj];exact h1.th j hj
    · rw [hg j hj];exact h1.ma j hj
    · rw [hg j hj];simp only [FS,TR,List.length_map,List.length_range];exact h1.da 0 hpos
    · rw [hg j hj];exact h1.ix j hj
    · rw [hg j hj,hg i (by omega)];exact h1.inc i j hij hj
    · rw [hg j hj];simp only [FS,TR]
      rw [GS _ _ _ (by rw [h1.da 0 hpos];exact hp),padd_pev,h1.val j hj p hp,hzo.val j (by omega) p (by simpa using hp),h.full.2 j hj,hzf.2 j (by omega)]
  · rw [padd_get,h2 p hp i hi,pol_high hb p (by simpa using hp) i hi];rfl
  · rw [padd_pev,h3 p hp,pol_at0,TT];simp
open Go.Fw
section
variable {c:Circle}
end
section
variable {c:Circle} {day no g:Int}
end
def TS (c:Circle) (k:Nat):Bool:=decide (20<(c.recs[k]!.approved.length:Int)) || decide (20<(c.recs[k]!.vetoed.length:Int))
def MQ (c:Circle):Bool:=FF (fun k=>if TS c k then some false else none) (decide ((c.guardians.length:Int)≤12) && decide ((c.recs.length:Int)≤20)) 0 (c.recs.length - 0)
open Go.Fw
theorem TM {α:Type} [Inhabited α] {l:List α} {i k:Nat} {x:α} (h:i<l.length):(l.set i x)[k]! = if k=i then x else l[k]!:=by
  by_cases hk:k<l.length
  · rw [getElem!_pos _ k (by simpa using hk),List.getElem_set,getElem!_pos l k hk]
    by_cases e:i=k
    · subst e;simp
    · rw [if_neg e,if_neg (fun h=>e h.symm)]
  · rw [if_neg (by omega),getElem!_neg _ k (by simpa using hk),getElem!_neg l k (by simpa using hk)]
def TO (c:Circle) (i:Nat) (r:Recovery):Circle:=⟨c.epoch,c.threshold,c.wait,c.guardians,c.recs.set i r⟩
theorem check_set {c:Circle} {i:Nat} {r:Recovery} (h:AQ c=0) (hi:i<c.recs.length) (hno:r.no=c.recs[i]!.no) (ha:r.asked=c.recs[i]!.asked) (hr:EE r=true) (hs:r.state≠0∨c.recs[i]!.state=0):AQ (TO c i r)=0:=by
  have h0:=(FG c).1 h
  refine (FG _).2 ⟨?_,fun k hk=>?_⟩
  · have e:DF (TO c i r)=DF c:=by unfold DF TO;simp only [List.length_set]
    rw [e];exact h0.1
  · have hk':k<c.recs.length:=by simpa [TO] using hk
    have hk0:=KK.1 (h0.2 k hk')
    have hask:EK (TO c i r).recs k=EK c.recs k:=by
      unfold EK
      by_cases e:k=0
      · rw [if_pos e,if_pos e]
      · rw [if_neg e,if_neg e]
        show (c.recs.set i r)[k - 1]!.asked=_
        rw [TM hi]
        split
        · rename_i e2;rw [ha,e2]
        · rfl
    rw [KK,hask]
    show (c.recs.set i r)[k]!.no=_∧_
    have hl:(TO c i r).recs.length=c.recs.length:=by simp [TO]
    rw [hl]
    show (c.recs.set i r)[k]!.no=_∧CQ (c.recs.set i r)[k]!.asked _=true∧EE (c.recs.set i r)[k]! = true∧((c.recs.set i r)[k]!.state≠0∨_)
    rw [TM hi]
    split
    · rename_i e
      subst e
      refine ⟨by rw [hno];exact hk0.1,by rw [ha];exact hk0.2.1,hr,?_⟩
      rcases hs with hs|hs
      · exact .inl hs
      · right;rcases hk0.2.2.2 with h1|h1
        · exact absurd hs h1
        · exact h1
    · exact hk0
section
variable {c:Circle} {no day:Int}
end
section
variable {l:List Int} {t w a day:Int} {k:Nat}
end
section
variable {l:List Int} {t w a day:Int} {k:Nat}
end
open Go.Fw
theorem QY (p:Nat→Bool):∀ (m i:Nat),(FF (fun k=>if p k then some (k:Int) else none) (-1) i m = -1∧∀ k,i≤k→k<i+m→p k=false)∨∃ k,i≤k∧k<i+m∧p k=true∧FF (fun k=>if p k then some (k:Int) else none) (-1) i m=(k:Int)∧∀ q,i≤q→q<k→p q=false
  | 0,i=>.inl ⟨rfl,fun k h1 h2=>by omega⟩
  | m+1,i=>by
    cases h:p i with
    | true=>exact .inr ⟨i,Nat.le_refl _,by omega,h,by simp [FF,h],fun q h1 h2=>by omega⟩
    | false=>
      have e:FF (fun k=>if p k then some (k:Int) else none) (-1) i (m+1)=FF (fun k=>if p k then some (k:Int) else none) (-1) (i+1) m:=by simp [FF,h]
      rw [e]
      rcases QY p m (i+1) with ⟨h1,h2⟩|⟨k,h1,h2,h3,h4,h5⟩
      · refine .inl ⟨h1,fun k hk hk2=>?_⟩
        by_cases e:k=i
        · rw [e];exact h
        · exact h2 k (by omega) (by omega)
      · refine .inr ⟨k,by omega,by omega,h3,h4,fun q hq hq2=>?_⟩
        by_cases e:q=i
        · rw [e];exact h
        · exact h5 q (by omega) hq2
def EU (l:List Share) (f:Share→Bool):Int:=FF (fun k=>if f l[k]! then some (k:Int) else none) (-1) 0 (l.length - 0)
theorem idxS_any (l:List Share) (f:Share→Bool):decide ((0:Int)≤EU l f)=l.any f:=by
  unfold EU
  rcases QY (fun k=>f l[k]!) (l.length - 0) 0 with ⟨h1,h2⟩|⟨k,h1,h2,h3,h4,_⟩
  · rw [h1]
    have:l.any f=false:=by
      rw [List.any_eq_false];intro x hx
      obtain ⟨i,hi,rfl⟩:=List.getElem_of_mem hx
      have:=h2 i (by omega) (by omega)
      rw [getElem!_pos l i hi] at this;simp [this]
    rw [this];rfl
  · rw [h4]
    have:l.any f=true:=List.any_eq_true.2 ⟨l[k]!,by rw [getElem!_pos l k (by omega)];exact List.getElem_mem _,h3⟩
    rw [this];simp
def EY (c:Circle) (s:Share):Bool:=(s.epoch != c.epoch || s.threshold != c.threshold) || (s.many != (c.guardians.length:Int))
def CB (c:Circle) (l:List Share):Int:=if BR l != 0 then BR l else if l.any (EY c) then 460 else 0
def CM (c:Circle) (secret coins:List UInt8):List Share × Int:=if AQ c != 0 then ([],AQ c) else BU secret c.epoch c.threshold (c.guardians.length:Int) coins
def AR (c:Circle) (l:List Share) (coins:List UInt8):Circle × List Share × Int:=
  if AQ c != 0 then (EA,[],AQ c) else if CB c l != 0 then (EA,[],CB c l) else if (CL l coins).2 != 0 then (EA,[],(CL l coins).2)
  else (⟨c.epoch+1,c.threshold,c.wait,c.guardians,c.recs⟩,(CL l coins).1,0)
def LD (c:Circle) (others:List Int) (t:Int):Circle:=⟨c.epoch+1,t,c.wait,others,c.recs⟩
def AO (c:Circle) (l:List Share) (others:List Int) (t:Int) (coins:List UInt8):Circle × List Share × Int:=
  if AQ c != 0 then (EA,[],AQ c) else if CB c l != 0 then (EA,[],CB c l) else if (CS l).2 != 0 then (EA,[],(CS l).2)
  else if (CM (LD c others t) (CS l).1 coins).2 != 0 then (EA,[],(CM (LD c others t) (CS l).1 coins).2)
  else (LD c others t,(CM (LD c others t) (CS l).1 coins).1,0)
def BO (c:Circle) (no:Int) (l:List Share):List UInt8 × Int:=
  if AQ c != 0 then ([],AQ c) else if decide (no<0) || decide ((c.recs.length:Int)≤no) then ([],1)
  else if c.recs[no.toNat]!.state == 2 then ([],452) else if c.recs[no.toNat]!.state == 0 then ([],460) else if CB c l != 0 then ([],CB c l) else CS l
theorem circ_ep {c:Circle} (h:AQ c=0):0≤c.epoch∧c.epoch≤1048576∧1≤(c.guardians.length:Int)∧(c.guardians.length:Int)≤8∧1≤c.threshold∧c.threshold≤(c.guardians.length:Int):=by
  have hh:=((FG c).1 h).1
  unfold DF at hh
  simp only [Bool.or_eq_false_iff,decide_eq_false_iff_not] at hh
  omega
section
variable {c:Circle} {l:List Share} {secret coins:List UInt8} {others:List Int} {t no:Int}
theorem deal_1 (h:AQ c≠0):CM c secret coins=([],AQ c):=if_pos (by simpa using h)
theorem deal_2 (h:AQ c=0):CM c secret coins=BU secret c.epoch c.threshold (c.guardians.length:Int) coins:=if_neg (by simpa using h)
theorem belong_1 (h:BR l≠0):CB c l=BR l:=if_pos (by simpa using h)
theorem belong_2 (h:BR l=0) (h2:l.any (EY c)=true):CB c l=460:=by unfold CB;rw [if_neg (by simpa using h),if_pos h2]
theorem belong_3 (h:BR l=0) (h2:l.any (EY c)=false):CB c l=0:=by unfold CB;rw [if_neg (by simpa using h),if_neg (by rw [h2];simp)]
theorem RZ (h:AQ c≠0):AR c l coins=(EA,[],AQ c):=if_pos (by simpa using h)
theorem PB (h:AQ c=0) (h2:CB c l≠0):AR c l coins=(EA,[],CB c l):=by unfold AR;rw [if_neg (by simpa using h),if_pos (by simpa using h2)]
theorem RU (h:AQ c=0) (h2:CB c l=0) (h3:(CL l coins).2≠0):AR c l coins=(EA,[],(CL l coins).2):=by unfold AR;rw [if_neg (by simpa using h),if_neg (by simpa using h2),if_pos (by simpa using h3)]
theorem SE (h:AQ c=0) (h2:CB c l=0) (h3:(CL l coins).2=0):AR c l coins=(⟨c.epoch+1,c.threshold,c.wait,c.guardians,c.recs⟩,(CL l coins).1,0):=by unfold AR;rw [if_neg (by simpa using h),if_neg (by simpa using h2),if_neg (by simpa using h3)]
theorem OE (h:AQ c≠0):AO c l others t coins=(EA,[],AQ c):=if_pos (by simpa using h)
theorem LK (h:AQ c=0) (h2:CB c l≠0):AO c l others t coins=(EA,[],CB c l):=by unfold AO;rw [if_neg (by simpa using h),if_pos (by simpa using h2)]
theorem OC (h:AQ c=0) (h2:CB c l=0) (h3:(CS l).2≠0):AO c l others t coins=(EA,[],(CS l).2):=by unfold AO;rw [if_neg (by simpa using h),if_neg (by simpa using h2),if_pos (by simpa using h3)]
theorem IN (h:AQ c=0) (h2:CB c l=0) (h3:(CS l).2=0) (h4:(CM ⟨c.epoch+1,t,c.wait,others,c.recs⟩ (CS l).1 coins).2≠0):AO c l others t coins=(EA,[],(CM ⟨c.epoch+1,t,c.wait,others,c.recs⟩ (CS l).1 coins).2):=by
  unfold AO LD;rw [if_neg (by simpa using h),if_neg (by simpa using h2),if_neg (by simpa using h3),if_pos (by simpa using h4)]
theorem IM (h:AQ c=0) (h2:CB c l=0) (h3:(CS l).2=0) (h4:(CM ⟨c.epoch+1,t,c.wait,others,c.recs⟩ (CS l).1 coins).2=0):AO c l others t coins=(⟨c.epoch+1,t,c.wait,others,c.recs⟩,(CM ⟨c.epoch+1,t,c.wait,others,c.recs⟩ (CS l).1 coins).1,0):=by
  unfold AO LD;rw [if_neg (by simpa using h),if_neg (by simpa using h2),if_neg (by simpa using h3),if_neg (by simpa using h4)]
theorem rest_1 (h:AQ c≠0):BO c no l=([],AQ c):=if_pos (by simpa using h)
theorem rest_2 (h:AQ c=0) (h2:no<0∨(c.recs.length:Int)≤no):BO c no l=([],1):=by unfold BO;rw [if_neg (by simpa using h),if_pos (by simp only [dbs];exact h2)]
section
variable (h:AQ c=0) (h0:0≤no) (h1:no<(c.recs.length:Int))
include h h0 h1
theorem rest_3 (h2:c.recs[no.toNat]!.state=2):BO c no l=([],452):=by unfold BO;rw [if_neg (by simpa using h),if_neg (by simp only [dbs];omega),if_pos (by simpa using h2)]
theorem rest_4 (h3:c.recs[no.toNat]!.state=0):BO c no l=([],460):=by unfold BO;rw [if_neg (by simpa using h),if_neg (by simp only [dbs];omega),if_neg (by rw [h3];decide),if_pos (by simpa using h3)]
theorem rest_5 (h2:c.recs[no.toNat]!.state≠2) (h3:c.recs[no.toNat]!.state≠0) (h4:CB c l≠0):BO c no l=([],CB c l):=by unfold BO;rw [if_neg (by simpa using h),if_neg (by simp only [dbs];omega),if_neg (by simpa using h2),if_neg (by simpa using h3),if_pos (by simpa using h4)]
theorem rest_6 (h2:c.recs[no.toNat]!.state≠2) (h3:c.recs[no.toNat]!.state≠0) (h4:CB c l=0):BO c no l=CS l:=by unfold BO;rw [if_neg (by simpa using h),if_neg (by simp only [dbs];omega),if_neg (by simpa using h2),if_neg (by simpa using h3),if_neg (by simpa using h4)]
end
end
def xorM (a b:List UInt8):List UInt8:=tab a.length fun k=>a[k]! ^^^ b[k]!
def atS (l:List Share) (i:Int):Share:=l[(EU l fun o=>o.index == i).toNat]!
def mixS (s:List Share) (x:Share):Share:=⟨x.epoch,x.index,x.threshold,x.many,xorM x.data (atS s x.index).data⟩
def FD (b s:List Share) (k:Nat):List Share:=(b.take k).map (mixS s)
abbrev MB (f g:Share):Bool:=((f.threshold != g.threshold || f.many != g.many) || (f.data.length:Int) != (g.data.length:Int)) || (g.epoch != f.epoch+1)
abbrev CO (a:List Share) (secret:List UInt8):List Share:=(BU secret a[0]!.epoch a[0]!.threshold a[0]!.many (BH a secret).1).1
abbrev mixQ (a b:List Share) (secret:List UInt8):List UInt8 × Int:=BH (FD b (CO a secret) b.length) (List.replicate secret.length 0)
def BZ (a b:List Share) (secret:List UInt8):List UInt8 × Int:=
  if BR a != 0 then ([],BR a) else if BR b != 0 then ([],BR b) else if MB a[0]! b[0]! then ([],460)
  else if (BH a secret).2 != 0 then ([],(BH a secret).2)
  else if (mixQ a b secret).2 != 0 then ([],(mixQ a b secret).2) else ((BH a secret).1++(mixQ a b secret).1,0)
open Go.Fw Go.RowKit
set_option maxHeartbeats 4000000 in
set_option maxRecDepth 100000 in
theorem c_idxS {O:List Nat} (l_v:Value) (l:List Share) (f_v:Nat) (f_caps:List Value) (f:Share→Bool) (w:World) (h_l:BD Enc.share w O l_v l) (h_f_e:∀ (vs_:Array Value) (w:World),(callFunc f_v vs_).run Try.prog w = .ok (.enter f_v vs_) w) (h_f:∀ (w':World) (O':List Nat),Keep [] w w'→(∀ b∈O',b∈O∨w.heap.size≤b)→(∀ b∈O',b<w'.heap.size)→∀ (x_cs:List Value) (x:Share),Enc.share.rd w' O' x_cs x→CE Try.prog f_v ([.agg x_cs.toArray]++f_caps) w' (fun v w2=>v = .bool (f x))) (hO:∀ b∈O,b<w.heap.size):CE Try.prog 96 [l_v, .func (.func f_v) #[] f_caps.toArray] w (fun v _=>v=vI (EU l f)):= by
 have lim_l:=h_l.len_le
 have h_l:BD Enc.share w ([]++O) l_v l:=h_l
 have s0:St w O w []:=St.start hO
 refine BP 19 Try.func96 rfl rfl oT (fun F0=>?_)
 refine AE (?_)
 refine AB kR (AA (AD (vI 0) rfl (AF (AC (?_)))))
 refine AE (?_)
 refine AE (?_)
 refine AB kR (AA (AG (l_v) rfl (AA (CG U32_ rfl h_l (AA (AG (vI 0) rfl (AF (AC (?_)))))))))
 refine BQ (?_)
 refine DI (fun mI FI wI=>∃ (k:Nat) (B:List Nat),k≤l.length∧EU l f=FF (fun k=>if f l[k]! then some (k:Int) else none) (-1) k (l.length - k)∧mI=l.length - k∧(∃ F1,FI=FR F1 [(0,l_v),(1,vN (.func f_v) #[] f_caps.toArray),(7,vI (l.length:Int)),(8,vI ((k:Nat):Int)),(19,undef)])∧St w O wI B∧BD Enc.share wI (B++O) (l_v) (l)) (l.length - (0)) ?_ ?_
 ·exact ⟨(0),[],oM,rfl,rfl,⟨_,AY _ ⟨rfl,rfl,rfl,(by rfl),rfl,trivial⟩⟩,s0,h_l⟩
 ·intro ml0 F wl0 hI
  clear h_l
  obtain ⟨k,Bl0,hr0_0,hr0_1,hm0,⟨Fl0,rfl⟩,sl0,h_l⟩:=hI
  refine AE (?_)
  refine AB kR (AA (DZ .i64 ((k:Nat):Int) (l.length:Int) rfl rfl (AF (AC (?_)))))
  refine AE (?_)
  refine AL (decide (((k:Nat):Int)<(l.length:Int))) rfl rfl (fun hc5066=>?_) (fun hc5066=>?_)
  ·have hp5067:((k:Nat):Int)<(l.length:Int):=by simpa using hc5066
   refine AT (AC (?_))
   refine AE (?_)
   refine BQ (?_)
   refine AE (?_)
   refine AB kR (AA (AG (vI ((k:Nat):Int)) rfl (AA (AD (vI ((k:Nat):Int)) rfl (AF (AC (?_)))))))
   refine AE (?_)
   refine AB kR (AA (AG (vN (.func f_v) #[] f_caps.toArray) rfl (AA (AG (l_v) rfl (AA (AG (vI ((k:Nat):Int)) rfl (AA (DG U32_ DP .i64 ((k:Nat):Int) k rfl rfl rfl h_l oM fun a5068 hp5069=>(AA (CR U70_ rfl DP rfl hp5069 fun cs5070 hs5071=>(AA (PW [] f_caps [vA cs5070.toArray] h_f_e rfl (h_f wl0 (Bl0++O) sl0.keep (fun b hb=>(List.mem_append.1 hb).elim (fun h=>.inr (sl0.new b h).1) .inl) sl0.lt cs5070 (l[k]!) hs5071) rfl rfl sl0 fun v5072 w5073 s5074 m5075 k5076 r5077=>(?_)))))))))))))
   obtain rfl:=r5077
   have h_l:=h_l.mv m5075
   refine AF (AC (?_))
   refine AL (f (l[k]!)) rfl rfl (fun hc5078=>?_) (fun hc5078=>?_)
   ·have hp5079:(f (l[k]!))=true:=by simpa using hc5078
    refine AE (?_)
    refine AB kR (AA (AG (vI ((k:Nat):Int)) rfl (AA (AD (vI ((k:Nat):Int)) rfl (AF (AC (?_)))))))
    refine AM (BY (AP (AP (BY (AP (AX rfl (CP rfl rfl rfl) (?_)))))))
    have e:(EU l f)=((k:Nat):Int):=by (rw [hr0_1];exact DQ oM (by ((repeat ((refine (if_pos ?_).trans ?_;omega)));rfl)))
    exact ⟨_,rfl,s5074.keep,by rw [e];exact rfl⟩
   ·have hp5080:(f (l[k]!))=false:=by simpa using hc5078
    refine AT (CI (AC (?_)))
    refine AB kR (AA (DD .i64 ((k:Nat):Int) (1:Int) (((k+1:Nat):Int)) rfl rfl (FT oM oM) (AA (AG (vI ((k+1:Nat):Int)) rfl (AF (AC (?_)))))))
    exact ⟨_,oM,(k+1),Bl0,oM,(hr0_1.trans (GJ oM (by ((repeat ((refine (if_neg ?_).trans ?_;solve|(simp only [dbs];(repeat (omega))))));rfl)))),rfl,⟨_,AY _ ⟨rfl,rfl,rfl,(by rfl),rfl,trivial⟩⟩,s5074,h_l⟩
  ·have hp5081:(l.length:Int)≤((k:Nat):Int):=by simpa using hc5066
   refine DH (CD (CD (DB (AC (?_)))))
   refine AE (?_)
   refine AB kR (AA (AD (vI (-1:Int)) rfl (AF (AC (?_)))))
   refine AM (AX rfl (CP rfl rfl rfl) (?_))
   have e:(EU l f)=(-1:Int):=by (rw [hr0_1];exact HC oM)
   exact ⟨_,rfl,sl0.keep,by rw [e];exact rfl⟩
set_option maxHeartbeats 4000000 in
set_option maxRecDepth 100000 in
theorem c_containsS {O:List Nat} (l_v:Value) (l:List Share) (f_v:Nat) (f_caps:List Value) (f:Share→Bool) (w:World) (h_l:BD Enc.share w O l_v l) (h_f_e:∀ (vs_:Array Value) (w:World),(callFunc f_v vs_).run Try.prog w = .ok (.enter f_v vs_) w) (h_f:∀ (w':World) (O':List Nat),Keep [] w w'→(∀ b∈O',b∈O∨w.heap.size≤b)→(∀ b∈O',b<w'.heap.size)→∀ (x_cs:List Value) (x:Share),Enc.share.rd w' O' x_cs x→CE Try.prog f_v ([.agg x_cs.toArray]++f_caps) w' (fun v w2=>v = .bool (f x))) (hO:∀ b∈O,b<w.heap.size):CE Try.prog 87 [l_v, .func (.func f_v) #[] f_caps.toArray] w (fun v _=>v = .bool (l.any f)):= by
 have lim_l:=h_l.len_le
 have h_l:BD Enc.share w ([]++O) l_v l:=h_l
 have s0:St w O w []:=St.start hO
 refine BP 9 Try.func87 rfl rfl oT (fun F0=>?_)
 refine AE (?_)
 refine AB kR (AA (AD (vO false) rfl (AF (AC (?_)))))
 refine AE (?_)
 refine AB kR (AA (AG (l_v) rfl (AA (AG (vN (.func f_v) #[] f_caps.toArray) rfl (AA (BC (vs:=[l_v,vN (.func f_v) #[] f_caps.toArray]) enter_96 (c_idxS (O:=[]++O) l_v l f_v f_caps f w h_l h_f_e (fun w'_ O'_ kk_ hs_ hl_=>h_f w'_ O'_ (s0.keep.trans kk_) (fun b hb=>(hs_ b hb).elim (fun h=>(List.mem_append.1 h).elim (fun h=>.inr (s0.new b h).1) .inl) (fun h=>.inr (Nat.le_trans s0.keep.size h))) hl_) s0.lt) rfl s0 fun v5082 w5083 s5084 m5085 k5086 r5087=>(?_)))))))
 obtain rfl:=r5087
 refine AA (JH .i64 (EU l f) (0:Int) rfl rfl (AA (AD (vO (decide ((0:Int)≤EU l f))) rfl (AF (AC (?_))))))
 refine AM (AX rfl (CP rfl rfl rfl) (?_))
 have e:(l.any f)=(decide ((0:Int)≤EU l f)):=by exact (idxS_any _ _).symm
 exact ⟨_,rfl,s5084.keep,(by exact congrArg vO e.symm)⟩
set_option maxHeartbeats 4000000 in
set_option maxRecDepth 100000 in
theorem c_belong1 {O:List Nat} (x_cs:List Value) (x:Share) (c_a:Addr) (c:Circle) (w:World) (h_x:Enc.share.rd w O x_cs x) (h_c:PT Enc.circle w O (.pointer (some c_a)) c) (hO:∀ b∈O,b<w.heap.size):CE Try.prog 86 [.agg x_cs.toArray, .pointer (some c_a)] w (fun v _=>v = .bool (EY c x)):= by
 have h_x:Enc.share.rd w ([]++O) x_cs x:=h_x
 have h_c:PT Enc.circle w ([]++O) (.pointer (some c_a)) c:=h_c
 have s0:St w O w []:=St.start hO
 refine BP 24 Try.func86 rfl rfl oT (fun F0=>?_)
 refine AE (?_)
 refine AB kR (AA (DO (E:=Enc.share) (vA x_cs.toArray) (x_cs) x rfl rfl h_x s0 fun a5088 w5089 s5090 m5091 k5092 hp5093=>(?_)))
 have h_c:=h_c.mv m5091
 refine AA (AD (vO false) rfl (AF (AC (?_))))
 refine AE (?_)
 refine AB kR (AA (BJ 0 IJ (x.epoch) rfl hp5093 (fun _ _ _ h=>LX h) fun a5094 hp5095=>(AA (CC U3_ rfl rfl hp5095 (AA (BJ 0 IA (c.epoch) rfl h_c (fun _ _ _ h=>GK h) fun a5096 hp5097=>(AA (CC U3_ rfl rfl hp5097 (AA (CV .i64 x.epoch c.epoch rfl rfl (AA (AG (vO (x.epoch != c.epoch)) rfl (?_)))))))))))))
 cases hb5098:(x.epoch != c.epoch)
 ·have hp5099:x.epoch=c.epoch:=by simpa using hb5098
  refine BI rfl (BJ 2 KJ (x.threshold) rfl hp5093 (fun _ _ _ h=>MH h) fun a5100 hp5101=>(BI rfl (CC U3_ rfl rfl hp5101 (BI rfl (BJ 1 MC (c.threshold) rfl h_c (fun _ _ _ h=>HE h) fun a5102 hp5103=>(BI rfl (CC U3_ rfl rfl hp5103 (BI rfl (CV .i64 x.threshold c.threshold rfl rfl (AA (CA (vO (x.threshold != c.threshold)) rfl rfl (AA (AG (vO (x.threshold != c.threshold)) rfl (?_))))))))))))))
  cases hb5104:(x.threshold != c.threshold)
  ·have hp5105:x.threshold=c.threshold:=by simpa using hb5104
   refine BI rfl (BJ 3 KG (x.many) rfl hp5093 (fun _ _ _ h=>Enc_share_f3 h) fun a5106 hp5107=>(BI rfl (CC U3_ rfl rfl hp5107 (BI rfl (BJ 3 JY (c.guardians) rfl h_c (fun _ _ _ h=>EO h) fun a5108 hp5109=>(BI rfl (BV U22_ rfl rfl hp5109 fun v5110 hl5111=>(?_))))))))
   have:=hl5111.len_le
   refine BI rfl (CG U22_ rfl hl5111 (BI rfl (CV .i64 x.many (c.guardians.length:Int) rfl rfl (AA (CA (vO (x.many != (c.guardians.length:Int))) rfl rfl (AA (AD (vO (x.many != (c.guardians.length:Int))) rfl (AF (AC (?_))))))))))
   refine AM (AX rfl (CP rfl rfl rfl) (?_))
   have e:(EY c x)=(x.many != (c.guardians.length:Int)):=by simp [EY, *]
   exact ⟨_,rfl,s5090.keep,(by exact congrArg vO e.symm)⟩
  ·have hp5112:x.threshold≠c.threshold:=by simpa using hb5104
   refine AS rfl (AS rfl (AS rfl (AS rfl (AS rfl (AS rfl (AA (BL (vO true) rfl rfl (AA (AD (vO true) rfl (AF (AC (?_))))))))))))
   refine AM (AX rfl (CP rfl rfl rfl) (?_))
   have e:(EY c x)=true:=by simp [EY, *]
   exact ⟨_,rfl,s5090.keep,(by exact congrArg vO e.symm)⟩
 ·have hp5113:x.epoch≠c.epoch:=by simpa using hb5098
  refine AS rfl (AS rfl (AS rfl (AS rfl (AS rfl (AA (BL (vO true) rfl rfl (AA (AG (vO true) rfl (AS rfl (AS rfl (AS rfl (AS rfl (AS rfl (AS rfl (AA (BL (vO true) rfl rfl (AA (AD (vO true) rfl (AF (AC (?_)))))))))))))))))))))
  refine AM (AX rfl (CP rfl rfl rfl) (?_))
  have e:(EY c x)=true:=by simp [EY, *]
  exact ⟨_,rfl,s5090.keep,(by exact congrArg vO e.symm)⟩
set_option maxHeartbeats 4000000 in
set_option maxRecDepth 100000 in
theorem NR {O:List Nat} (c_cs:List Value) (c:Circle) (w:World) (h_c:Enc.circle.rd w O c_cs c) (hO:∀ b∈O,b<w.heap.size):CE Try.prog 33 [.agg c_cs.toArray] w (fun v _=>v=vI (AQ c)):= by
 have h_c:Enc.circle.rd w ([]++O) c_cs c:=h_c
 have s0:St w O w []:=St.start hO
 refine BP 5 Try.func33 rfl rfl oT (fun F0=>?_)
 refine AE (?_)
 refine AB kR (AA (DO (E:=Enc.circle) (vA c_cs.toArray) (c_cs) c rfl rfl h_c s0 fun a5114 w5115 s5116 m5117 k5118 hp5119=>(?_)))
 refine AA (AD (vI 0) rfl (AF (AC (?_))))
 refine AE (?_)
 refine AB kR (AA (CR U28_ rfl BK rfl hp5119 fun cs5120 hs5121=>(AA (BC (vs:=[vA cs5120.toArray]) LJ (NV (O:=[]++O) cs5120 c w5115 hs5121 s5116.lt) rfl s5116 fun v5122 w5123 s5124 m5125 k5126 r5127=>(?_)))))
 obtain rfl:=r5127
 refine AA (AD (vI (AQ c)) rfl (AF (AC (?_))))
 refine AM (AX rfl (CP rfl rfl rfl) (?_))
 exact ⟨_,rfl,s5124.keep,rfl⟩
set_option maxHeartbeats 4000000 in
set_option maxRecDepth 100000 in
theorem SO {O:List Nat} (c_cs:List Value) (c:Circle) (l_v:Value) (l:List Share) (w:World) (h_c:Enc.circle.rd w O c_cs c) (h_l:BD Enc.share w O l_v l) (hO:∀ b∈O,b<w.heap.size):CE Try.prog 39 [.agg c_cs.toArray,l_v] w (fun v _=>v=vI (CB c l)):= by
 have h_c:Enc.circle.rd w ([]++O) c_cs c:=h_c
 have lim_l:=h_l.len_le
 have h_l:BD Enc.share w ([]++O) l_v l:=h_l
 have s0:St w O w []:=St.start hO
 refine BP 16 Try.func39 rfl rfl oT (fun F0=>?_)
 refine AE (?_)
 refine AB kR (AA (DO (E:=Enc.circle) (vA c_cs.toArray) (c_cs) c rfl rfl h_c s0 fun a5128 w5129 s5130 m5131 k5132 hp5133=>(?_)))
 have h_l:=h_l.mv m5131
 refine AA (AD (vI 0) rfl (AF (AC (?_))))
 refine AE (?_)
 refine AE (?_)
 refine AB kR (AA (AG (l_v) rfl (AA (BC (vs:=[l_v]) LM (LN (O:=[]++O) l_v l w5129 h_l s5130.lt) rfl s5130 fun v5134 w5135 s5136 m5137 k5138 r5139=>(?_)))))
 obtain rfl:=r5139
 have h_l:=h_l.mv m5137
 have hp5133:=hp5133.mv m5137
 refine AA (AD (vI (BR l)) rfl (AF (AC (?_))))
 refine AE (?_)
 refine AB kR (AA (AG (vI (BR l)) rfl (AA (CV .i64 (BR l) (0:Int) rfl rfl (AF (AC (?_)))))))
 refine AL ((BR l) != (0:Int)) rfl rfl (fun hc5140=>?_) (fun hc5140=>?_)
 ·have hp5141:BR l≠(0:Int):=by simpa using hc5140
  refine AE (?_)
  refine AB kR (AA (AG (vI (BR l)) rfl (AA (AD (vI (BR l)) rfl (AF (AC (?_)))))))
  refine AM (AP (AX rfl (CP rfl rfl rfl) (?_)))
  have e:(CB c l)=(BR l):=by exact belong_1 aS
  exact ⟨_,rfl,s5136.keep,by rw [e];exact rfl⟩
 ·have hp5142:BR l=(0:Int):=by simpa using hc5140
  refine AT (AC (?_))
  refine AE (?_)
  refine AB kR (AA (DC (first:=[]) (captured:=[.tmp 2]) [] [vP (some a5128)] rfl rfl (AA (AD (vN (.func 86) #[] #[vP (some a5128)]) rfl (AF (AC (?_)))))))
  refine AE (?_)
  refine AE (?_)
  refine AB kR (AA (AG (l_v) rfl (AA (AG (vN (.func 86) #[] #[vP (some a5128)]) rfl (AA (BC (vs:=[l_v,vN (.func 86) #[] #[vP (some a5128)]]) enter_87 (c_containsS (O:=[]++O) l_v l 86 [vP (some a5128)] (fun x_=>EY c x_) w5135 h_l enter_86 (fun w'_ O'_ kk_ hs_ hl_ x__cs x_ hr_x_ =>c_belong1 (O:=O'_) x__cs x_ a5128 c w'_ hr_x_ (hp5133.on hs_ kk_) hl_) s5136.lt) rfl s5136 fun v5143 w5144 s5145 m5146 k5147 r5148=>(?_)))))))
  obtain rfl:=r5148
  refine AF (AC (?_))
  refine AL (l.any (fun x_=>EY c x_)) rfl rfl (fun hc5149=>?_) (fun hc5149=>?_)
  ·have hp5150:(l.any (fun x_=>EY c x_))=true:=by simpa using hc5149
   refine AE (?_)
   refine AB kR (AA (AD (vI 460) rfl (AF (AC (?_)))))
   refine AM (AP (AX rfl (CP rfl rfl rfl) (?_)))
   have e:(CB c l)=(460:Int):=by exact belong_2 aS aS
   exact ⟨_,rfl,s5145.keep,by rw [e];exact rfl⟩
  ·have hp5151:(l.any (fun x_=>EY c x_))=false:=by simpa using hc5149
   refine AT (AC (?_))
   refine AE (?_)
   refine AB kR (AA (AD (vI 0) rfl (AF (AC (?_)))))
   refine AM (AX rfl (CP rfl rfl rfl) (?_))
   have e:(CB c l)=(0:Int):=by exact belong_3 aS aS
   exact ⟨_,rfl,s5145.keep,by rw [e];exact rfl⟩
set_option maxHeartbeats 4000000 in
set_option maxRecDepth 100000 in
theorem TW {O:List Nat} (c_cs:List Value) (c:Circle) (secret_v:Value) (secret:List UInt8) (coins_v:Value) (coins:List UInt8) (w:World) (h_c:Enc.circle.rd w O c_cs c) (h_secret:BD Enc.u8 w O secret_v secret) (h_coins:BD Enc.u8 w O coins_v coins) (hO:∀ b∈O,b<w.heap.size):CE Try.prog 11 [.agg c_cs.toArray,secret_v,coins_v] w (fun v w'=>∃ (x0:Value),v = .tuple #[x0,vI ((CM c secret coins).2)]∧BD Enc.share w' (O) x0 ((CM c secret coins).1)):= by
 have h_c:Enc.circle.rd w ([]++O) c_cs c:=h_c
 have lim_secret:=h_secret.len_le
 have h_secret:BD Enc.u8 w ([]++O) secret_v secret:=h_secret
 have lim_coins:=h_coins.len_le
 have h_coins:BD Enc.u8 w ([]++O) coins_v coins:=h_coins
 have s0:St w O w []:=St.start hO
 refine BP 26 Try.func11 rfl rfl oT (fun F0=>?_)
 refine AE (?_)
 refine AB kR (AA (DO (E:=Enc.circle) (vA c_cs.toArray) (c_cs) c rfl rfl h_c s0 fun a5152 w5153 s5154 m5155 k5156 hp5157=>(?_)))
 have h_secret:=h_secret.mv m5155
 have h_coins:=h_coins.mv m5155
 refine AA (AD (nS) rfl (AA (AD (vI 0) rfl (AF (AC (?_))))))
 refine AE (?_)
 refine AE (?_)
 refine AB kR (AA (CR U28_ rfl BK rfl hp5157 fun cs5158 hs5159=>(AA (BC (vs:=[vA cs5158.toArray]) PG (NR (O:=[]++O) cs5158 c w5153 hs5159 s5154.lt) rfl s5154 fun v5160 w5161 s5162 m5163 k5164 r5165=>(?_)))))
 obtain rfl:=r5165
 have h_secret:=h_secret.mv m5163
 have h_coins:=h_coins.mv m5163
 have hp5157:=hp5157.mv m5163
 refine AA (AD (vI (AQ c)) rfl (AF (AC (?_))))
 refine AE (?_)
 refine AB kR (AA (AG (vI (AQ c)) rfl (AA (CV .i64 (AQ c) (0:Int) rfl rfl (AF (AC (?_)))))))
 refine AL ((AQ c) != (0:Int)) rfl rfl (fun hc5166=>?_) (fun hc5166=>?_)
 ·have hp5167:AQ c≠(0:Int):=by simpa using hc5166
  refine AE (?_)
  refine AB kR (AA (AG (vI (AQ c)) rfl (AA (AD (nS) rfl (AA (AD (vI (AQ c)) rfl (AF (AC (?_)))))))))
  refine AM (AP (AX rfl (FE rfl rfl rfl rfl) (?_)))
  have e5168:((CM c secret coins).1)=([]):=by exact congrArg (fun p=>p.1) (show CM c secret coins=_ from deal_1 aS)
  have e5169:((CM c secret coins).2)=(AQ c):=by exact congrArg (fun p=>p.2) (show CM c secret coins=_ from deal_1 aS)
  exact ⟨_,rfl,s5162.keep,by rw [e5168,e5169];exact ⟨.slice none 0 0,rfl,BD.nil _ _ _⟩⟩
 ·have hp5170:AQ c=(0:Int):=by simpa using hc5166
  refine AT (AC (?_))
  refine AE (?_)
  refine AB kR (AA (AG (secret_v) rfl (AA (BJ 0 IA (c.epoch) rfl hp5157 (fun _ _ _ h=>GK h) fun a5171 hp5172=>(AA (CC U3_ rfl rfl hp5172 (AA (BJ 1 MC (c.threshold) rfl hp5157 (fun _ _ _ h=>HE h) fun a5173 hp5174=>(AA (CC U3_ rfl rfl hp5174 (AA (BJ 3 JY (c.guardians) rfl hp5157 (fun _ _ _ h=>EO h) fun a5175 hp5176=>(AA (BV U22_ rfl rfl hp5176 fun v5177 hl5178=>(?_)))))))))))))))
  have:=hl5178.len_le
  refine AA (CG U22_ rfl hl5178 (AA (AG (coins_v) rfl (AA (BC (vs:=[secret_v,vI c.epoch,vI c.threshold,vI (c.guardians.length:Int),coins_v]) SM (c_split (O:=[]++O) secret_v secret c.epoch c.threshold (c.guardians.length:Int) coins_v coins w5161 h_secret h_coins s5162.lt) rfl s5162 fun v5179 w5180 s5181 m5182 k5183 r5184=>(?_))))))
  obtain ⟨x5185,rfl,hl5186⟩:=r5184
  have:=hl5186.len_le
  refine AA (AK (x5185) rfl rfl (AA (AK (vI ((BU secret c.epoch c.threshold (c.guardians.length:Int) coins).2)) rfl rfl (AA (AD (x5185) rfl (AA (AD (vI ((BU secret c.epoch c.threshold (c.guardians.length:Int) coins).2)) rfl (AF (AC (?_))))))))))
  refine AM (AX rfl (FE rfl rfl rfl rfl) (?_))
  have e5187:((CM c secret coins).1)=((BU secret c.epoch c.threshold (c.guardians.length:Int) coins).1):=by exact congrArg (fun p=>p.1) (show CM c secret coins=_ from deal_2 aS)
  have e5188:((CM c secret coins).2)=((BU secret c.epoch c.threshold (c.guardians.length:Int) coins).2):=by exact congrArg (fun p=>p.2) (show CM c secret coins=_ from deal_2 aS)
  exact ⟨_,rfl,s5181.keep,by rw [e5187,e5188];exact ⟨x5185,rfl,hl5186.out⟩⟩
open Go.Fw Go.RowKit
set_option maxHeartbeats 4000000 in
set_option maxRecDepth 100000 in
theorem RW {O:List Nat} (c_cs:List Value) (c:Circle) (l_v:Value) (l:List Share) (coins_v:Value) (coins:List UInt8) (w:World) (h_c:Enc.circle.rd w O c_cs c) (h_l:BD Enc.share w O l_v l) (h_coins:BD Enc.u8 w O coins_v coins) (hO:∀ b∈O,b<w.heap.size):CE Try.prog 24 [.agg c_cs.toArray,l_v,coins_v] w (fun v w'=>∃ (x0:List Value) (x1:Value),v = .tuple #[.agg x0.toArray,x1,vI ((AR c l coins).2.2)]∧Enc.circle.rd w' (O) x0 ((AR c l coins).1)∧BD Enc.share w' (O) x1 ((AR c l coins).2.1)):= by
 have h_c:Enc.circle.rd w ([]++O) c_cs c:=h_c
 have lim_l:=h_l.len_le
 have h_l:BD Enc.share w ([]++O) l_v l:=h_l
 have lim_coins:=h_coins.len_le
 have h_coins:BD Enc.u8 w ([]++O) coins_v coins:=h_coins
 have s0:St w O w []:=St.start hO
 refine BP 41 Try.func24 rfl rfl oT (fun F0=>?_)
 refine AE (?_)
 refine AB kR (AA (DO (E:=Enc.circle) (vA c_cs.toArray) (c_cs) c rfl rfl h_c s0 fun a5189 w5190 s5191 m5192 k5193 hp5194=>(?_)))
 have h_l:=h_l.mv m5192
 have h_coins:=h_coins.mv m5192
 refine AA (CY [vI 0,vI 0,vI 0,nS,nS] KM rfl s5191 fun b5195 w5196 e5201 s5197 m5198 k5199 bx5200=>(?_))
 clear e5201
 have h_l:=h_l.mv m5198
 have h_coins:=h_coins.mv m5198
 have hp5194:=hp5194.mv m5198
 refine AA (AD (nS) rfl (AA (AD (vI 0) rfl (AF (AC (?_))))))
 refine AE (?_)
 refine AE (?_)
 refine AB kR (AA (CR U28_ rfl BK rfl hp5194 fun cs5202 hs5203=>(AA (BC (vs:=[vA cs5202.toArray]) PG (NR (O:=(b5195 :: [])++O) cs5202 c w5196 hs5203 s5197.lt) rfl s5197 fun v5204 w5205 s5206 m5207 k5208 r5209=>(?_)))))
 obtain rfl:=r5209
 have h_l:=h_l.mv m5207
 have h_coins:=h_coins.mv m5207
 have hp5194:=hp5194.mv m5207
 have bx5200:=bx5200.keep k5208 (by simp)
 refine AA (AD (vI (AQ c)) rfl (AF (AC (?_))))
 refine AE (?_)
 refine AB kR (AA (AG (vI (AQ c)) rfl (AA (CV .i64 (AQ c) (0:Int) rfl rfl (AF (AC (?_)))))))
 refine AL ((AQ c) != (0:Int)) rfl rfl (fun hc5210=>?_) (fun hc5210=>?_)
 ·have hp5211:AQ c≠(0:Int):=by simpa using hc5210
  refine AE (?_)
  refine AB kR (AA (BM (vs:=[vI 0,vI 0,vI 0,nS,nS]) U28_ rfl BK rfl bx5200 rfl (AA (AG (vI (AQ c)) rfl (BW (BA (vs:=[vI 0,vI 0,vI 0,nS,nS]) (.agg #[vI 0,vI 0,vI 0,nS,nS]) rfl rfl rfl BK (fun u hu=>by simp only [List.mem_cons,List.not_mem_nil,or_false] at hu;rcases hu with rfl|rfl|rfl|rfl|rfl <;> rfl) (by repeat (constructor)) bx5200 oT s5206 fun w5212 s5213 m5214 k5215 bx5216=>(?_)))))))
  refine AA (AD (nS) rfl (AA (AD (vI (AQ c)) rfl (AF (AC (?_))))))
  refine AM (AP (AX rfl (FV rfl (DX (vs:=[vI 0,vI 0,vI 0,nS,nS]) rfl U28_ rfl BK rfl bx5216 rfl) (DM rfl rfl) (DM rfl rfl)) (?_)))
  have e5217:((AR c l coins).1)=(⟨(0:Int),(0:Int),(0:Int),[],[]⟩:Circle):=by exact congrArg (fun p=>p.1) (show AR c l coins=_ from RZ aS)
  have e5218:((AR c l coins).2.1)=([]):=by exact congrArg (fun p=>p.2.1) (show AR c l coins=_ from RZ aS)
  have e5219:((AR c l coins).2.2)=(AQ c):=by exact congrArg (fun p=>p.2.2) (show AR c l coins=_ from RZ aS)
  exact ⟨_,rfl,s5213.keep,by rw [e5217,e5218,e5219];exact ⟨[vI 0,vI 0,vI 0,nS,nS], .slice none 0 0,rfl,Enc.out (B:=(b5195 :: [])) ⟨.slice none 0 0, .slice none 0 0,rfl,(BD.nil _ _ _),(BD.nil _ _ _)⟩,BD.nil _ _ _⟩⟩
 ·have hp5220:AQ c=(0:Int):=by simpa using hc5210
  have hok:AQ c=0:=hp5220
  have hepb:=circ_ep hok
  refine AT (AC (?_))
  refine AE (?_)
  refine AE (?_)
  refine AB kR (AA (CR U28_ rfl BK rfl hp5194 fun cs5221 hs5222=>(AA (AG (l_v) rfl (AA (BC (vs:=[vA cs5221.toArray,l_v]) TY (SO (O:=(b5195 :: [])++O) cs5221 c l_v l w5205 hs5222 h_l s5206.lt) rfl s5206 fun v5223 w5224 s5225 m5226 k5227 r5228=>(?_)))))))
  obtain rfl:=r5228
  have h_l:=h_l.mv m5226
  have h_coins:=h_coins.mv m5226
  have hp5194:=hp5194.mv m5226
  have bx5200:=bx5200.keep k5227 (by simp)
  refine AA (AD (vI (CB c l)) rfl (AF (AC (?_))))
  refine AE (?_)
  refine AB kR (AA (AG (vI (CB c l)) rfl (AA (CV .i64 (CB c l) (0:Int) rfl rfl (AF (AC (?_)))))))
  refine AL ((CB c l) != (0:Int)) rfl rfl (fun hc5229=>?_) (fun hc5229=>?_)
  ·have hp5230:CB c l≠(0:Int):=by simpa using hc5229
   refine AE (?_)
   refine AB kR (AA (BM (vs:=[vI 0,vI 0,vI 0,nS,nS]) U28_ rfl BK rfl bx5200 rfl (AA (AG (vI (CB c l)) rfl (BW (BA (vs:=[vI 0,vI 0,vI 0,nS,nS]) (.agg #[vI 0,vI 0,vI 0,nS,nS]) rfl rfl rfl BK (fun u hu=>by simp only [List.mem_cons,List.not_mem_nil,or_false] at hu;rcases hu with rfl|rfl|rfl|rfl|rfl <;> rfl) (by repeat (constructor)) bx5200 oT s5225 fun w5231 s5232 m5233 k5234 bx5235=>(?_)))))))
   refine AA (AD (nS) rfl (AA (AD (vI (CB c l)) rfl (AF (AC (?_))))))
   refine AM (AP (AX rfl (FV rfl (DX (vs:=[vI 0,vI 0,vI 0,nS,nS]) rfl U28_ rfl BK rfl bx5235 rfl) (DM rfl rfl) (DM rfl rfl)) (?_)))
   have e5236:((AR c l coins).1)=(⟨(0:Int),(0:Int),(0:Int),[],[]⟩:Circle):=by exact congrArg (fun p=>p.1) (show AR c l coins=_ from PB aS aS)
   have e5237:((AR c l coins).2.1)=([]):=by exact congrArg (fun p=>p.2.1) (show AR c l coins=_ from PB aS aS)
   have e5238:((AR c l coins).2.2)=(CB c l):=by exact congrArg (fun p=>p.2.2) (show AR c l coins=_ from PB aS aS)
   exact ⟨_,rfl,s5232.keep,by rw [e5236,e5237,e5238];exact ⟨[vI 0,vI 0,vI 0,nS,nS], .slice none 0 0,rfl,Enc.out (B:=(b5195 :: [])) ⟨.slice none 0 0, .slice none 0 0,rfl,(BD.nil _ _ _),(BD.nil _ _ _)⟩,BD.nil _ _ _⟩⟩
  ·have hp5239:CB c l=(0:Int):=by simpa using hc5229
   refine AT (AC (?_))
   refine AE (?_)
   refine AB kR (AA (AG (l_v) rfl (AA (AG (coins_v) rfl (AA (BC (vs:=[l_v,coins_v]) enter_19 (c_refresh (O:=(b5195 :: [])++O) l_v l coins_v coins w5224 h_l h_coins s5225.lt) rfl s5225 fun v5240 w5241 s5242 m5243 k5244 r5245=>(?_)))))))
   obtain ⟨x5246,rfl,hl5247⟩:=r5245
   have:=hl5247.len_le
   have hp5194:=hp5194.mv m5243
   have bx5200:=bx5200.keep k5244 (by simp)
   refine AA (AG (vT #[x5246,vI ((CL l coins).2)]) rfl (AA (AK (x5246) rfl rfl (AA (AK (vI ((CL l coins).2)) rfl rfl (AA (AD (x5246) rfl (AA (AD (vI ((CL l coins).2)) rfl (AF (AC (?_))))))))))))
   refine AE (?_)
   refine AE (?_)
   refine AB kR (AA (AG (vI ((CL l coins).2)) rfl (AA (CV .i64 ((CL l coins).2) (0:Int) rfl rfl (AF (AC (?_)))))))
   refine AL (((CL l coins).2) != (0:Int)) rfl rfl (fun hc5248=>?_) (fun hc5248=>?_)
   ·have hp5249:(CL l coins).2≠(0:Int):=by simpa using hc5248
    refine AE (?_)
    refine AB kR (AA (BM (vs:=[vI 0,vI 0,vI 0,nS,nS]) U28_ rfl BK rfl bx5200 rfl (AA (AG (vI ((CL l coins).2)) rfl (BW (BA (vs:=[vI 0,vI 0,vI 0,nS,nS]) (.agg #[vI 0,vI 0,vI 0,nS,nS]) rfl rfl rfl BK (fun u hu=>by simp only [List.mem_cons,List.not_mem_nil,or_false] at hu;rcases hu with rfl|rfl|rfl|rfl|rfl <;> rfl) (by repeat (constructor)) bx5200 oT s5242 fun w5250 s5251 m5252 k5253 bx5254=>(?_)))))))
    refine AA (AD (nS) rfl (AA (AD (vI ((CL l coins).2)) rfl (AF (AC (?_))))))
    refine AM (AP (AX rfl (FV rfl (DX (vs:=[vI 0,vI 0,vI 0,nS,nS]) rfl U28_ rfl BK rfl bx5254 rfl) (DM rfl rfl) (DM rfl rfl)) (?_)))
    have e5255:((AR c l coins).1)=(⟨(0:Int),(0:Int),(0:Int),[],[]⟩:Circle):=by exact congrArg (fun p=>p.1) (show AR c l coins=_ from RU aS aS aS)
    have e5256:((AR c l coins).2.1)=([]):=by exact congrArg (fun p=>p.2.1) (show AR c l coins=_ from RU aS aS aS)
    have e5257:((AR c l coins).2.2)=((CL l coins).2):=by exact congrArg (fun p=>p.2.2) (show AR c l coins=_ from RU aS aS aS)
    exact ⟨_,rfl,s5251.keep,by rw [e5255,e5256,e5257];exact ⟨[vI 0,vI 0,vI 0,nS,nS], .slice none 0 0,rfl,Enc.out (B:=(b5195 :: [])) ⟨.slice none 0 0, .slice none 0 0,rfl,(BD.nil _ _ _),(BD.nil _ _ _)⟩,BD.nil _ _ _⟩⟩
   ·have hp5258:(CL l coins).2=(0:Int):=by simpa using hc5248
    refine AT (AC (?_))
    refine AE (?_)
    refine AB kR (AA (CR U28_ rfl BK rfl hp5194 fun cs5259 hs5260=>(?_)))
    obtain ⟨d5266,d5268,rfl,hd5267,hd5269⟩:=hs5260
    have:=hd5267.len_le
    have:=hd5269.len_le
    refine BW (BA (vs:=[vI c.epoch,vI c.threshold,vI c.wait,d5266,d5268]) (.agg #[vI c.epoch,vI c.threshold,vI c.wait,d5266,d5268]) rfl rfl rfl BK (fun u hu=>by simp only [List.mem_cons,List.not_mem_nil,or_false] at hu;rcases hu with rfl|rfl|rfl|rfl|rfl <;> first|rfl|exact hd5267.oneCell|exact hd5269.oneCell) (by repeat (constructor)) bx5200 oT s5242 fun w5261 s5262 m5263 k5264 bx5265=>(?_))
    have hl5247:=hl5247.mv m5263
    have hd5267:=hd5267.mv m5263
    have hd5269:=hd5269.mv m5263
    refine AF (AC (?_))
    refine AE (?_)
    refine AB kR (AA (BB 0 IA rfl (AA (BF U3_ rfl (vI c.epoch) rfl bx5265 rfl (AA (DD .i64 c.epoch (1:Int) (c.epoch+(1:Int)) rfl rfl (FT oM oM) (AA (BB 0 IA rfl (BW (CK (vI (c.epoch+(1:Int))) rfl rfl rfl MO (by repeat (constructor)) bx5265 oT s5262 fun w5270 s5271 m5272 k5273 bx5274=>(?_)))))))))))
    have hl5247:=hl5247.mv m5272
    have hd5267:=hd5267.mv m5272
    have hd5269:=hd5269.mv m5272
    refine AF (AC (?_))
    refine AE (?_)
    refine AB kR (AA (BM (vs:=[vI (c.epoch+(1:Int)),vI c.threshold,vI c.wait,d5266,d5268]) U28_ rfl BK rfl bx5274 rfl (AA (AG (x5246) rfl (BW (BA (vs:=[vI (c.epoch+(1:Int)),vI c.threshold,vI c.wait,d5266,d5268]) (.agg #[vI (c.epoch+(1:Int)),vI c.threshold,vI c.wait,d5266,d5268]) rfl rfl rfl BK (fun u hu=>by simp only [List.mem_cons,List.not_mem_nil,or_false] at hu;rcases hu with rfl|rfl|rfl|rfl|rfl <;> first|rfl|exact hd5267.oneCell|exact hd5269.oneCell) (by repeat (constructor)) bx5274 oT s5271 fun w5275 s5276 m5277 k5278 bx5279=>(?_)))))))
    have hl5247:=hl5247.mv m5277
    have hd5267:=hd5267.mv m5277
    have hd5269:=hd5269.mv m5277
    refine AA (AD (x5246) rfl (AA (AD (vI 0) rfl (AF (AC (?_))))))
    refine AM (AX rfl (FV rfl (DX (vs:=[vI (c.epoch+(1:Int)),vI c.threshold,vI c.wait,d5266,d5268]) rfl U28_ rfl BK rfl bx5279 rfl) (DM rfl rfl) (DM rfl rfl)) (?_))
    have e5280:((AR c l coins).1)=(⟨c.epoch+(1:Int),c.threshold,c.wait,c.guardians,c.recs⟩:Circle):=by exact congrArg (fun p=>p.1) (show AR c l coins=_ from SE aS aS aS)
    have e5281:((AR c l coins).2.1)=((CL l coins).1):=by exact congrArg (fun p=>p.2.1) (show AR c l coins=_ from SE aS aS aS)
    have e5282:((AR c l coins).2.2)=(0:Int):=by exact congrArg (fun p=>p.2.2) (show AR c l coins=_ from SE aS aS aS)
    exact ⟨_,rfl,s5276.keep,by rw [e5280,e5281,e5282];exact ⟨[vI (c.epoch+(1:Int)),vI c.threshold,vI c.wait,d5266,d5268],x5246,rfl,Enc.out (B:=(b5195 :: [])) ⟨_,_,rfl,hd5267,hd5269⟩,hl5247.out⟩⟩
set_option maxHeartbeats 4000000 in
set_option maxRecDepth 100000 in
theorem SY {O:List Nat} (c_cs:List Value) (c:Circle) (no:Int) (l_v:Value) (l:List Share) (w:World) (h_c:Enc.circle.rd w O c_cs c) (h_l:BD Enc.share w O l_v l) (hO:∀ b∈O,b<w.heap.size):CE Try.prog 14 [.agg c_cs.toArray,vI no,l_v] w (fun v w'=>∃ (x0:Value),v = .tuple #[x0,vI ((BO c no l).2)]∧BD Enc.u8 w' (O) x0 ((BO c no l).1)):= by
 have h_c:Enc.circle.rd w ([]++O) c_cs c:=h_c
 have lim_l:=h_l.len_le
 have h_l:BD Enc.share w ([]++O) l_v l:=h_l
 have s0:St w O w []:=St.start hO
 refine BP 44 Try.func14 rfl rfl oT (fun F0=>?_)
 refine AE (?_)
 refine AB kR (AA (DO (E:=Enc.circle) (vA c_cs.toArray) (c_cs) c rfl rfl h_c s0 fun a5283 w5284 s5285 m5286 k5287 hp5288=>(?_)))
 have h_l:=h_l.mv m5286
 refine AA (AD (nS) rfl (AA (AD (vI 0) rfl (AF (AC (?_))))))
 refine AE (?_)
 refine AE (?_)
 refine AB kR (AA (CR U28_ rfl BK rfl hp5288 fun cs5289 hs5290=>(AA (BC (vs:=[vA cs5289.toArray]) PG (NR (O:=[]++O) cs5289 c w5284 hs5290 s5285.lt) rfl s5285 fun v5291 w5292 s5293 m5294 k5295 r5296=>(?_)))))
 obtain rfl:=r5296
 have h_l:=h_l.mv m5294
 have hp5288:=hp5288.mv m5294
 refine AA (AD (vI (AQ c)) rfl (AF (AC (?_))))
 refine AE (?_)
 refine AB kR (AA (AG (vI (AQ c)) rfl (AA (CV .i64 (AQ c) (0:Int) rfl rfl (AF (AC (?_)))))))
 refine AL ((AQ c) != (0:Int)) rfl rfl (fun hc5297=>?_) (fun hc5297=>?_)
 ·have hp5298:AQ c≠(0:Int):=by simpa using hc5297
  refine AE (?_)
  refine AB kR (AA (AG (vI (AQ c)) rfl (AA (AD (nS) rfl (AA (AD (vI (AQ c)) rfl (AF (AC (?_)))))))))
  refine AM (AP (AX rfl (FE rfl rfl rfl rfl) (?_)))
  have e5299:((BO c no l).1)=([]):=by exact congrArg (fun p=>p.1) (show BO c no l=_ from rest_1 aS)
  have e5300:((BO c no l).2)=(AQ c):=by exact congrArg (fun p=>p.2) (show BO c no l=_ from rest_1 aS)
  exact ⟨_,rfl,s5293.keep,by rw [e5299,e5300];exact ⟨.slice none 0 0,rfl,BD.nil _ _ _⟩⟩
 ·have hp5301:AQ c=(0:Int):=by simpa using hc5297
  refine AT (AC (?_))
  refine AE (?_)
  refine AE (?_)
  refine AB kR (AA (AG (vI no) rfl (AA (DZ .i64 no (0:Int) rfl rfl (AA (AG (vO (decide (no<(0:Int)))) rfl (?_)))))))
  cases hb5302:(decide (no<(0:Int)))
  ·have hp5303:(0:Int)≤no:=by simpa using hb5302
   refine BI rfl (AG (vI no) rfl (BI rfl (BJ 4 DK (c.recs) rfl hp5288 (fun _ _ _ h=>CH h) fun a5304 hp5305=>(BI rfl (BV U26_ rfl rfl hp5305 fun v5306 hl5307=>(?_))))))
   have:=hl5307.len_le
   refine BI rfl (CG U26_ rfl hl5307 (BI rfl (JH .i64 no (c.recs.length:Int) rfl rfl (AA (CA (vO (decide ((c.recs.length:Int)≤no))) rfl rfl (AF (AC (?_))))))))
   refine AL (decide ((c.recs.length:Int)≤no)) rfl rfl (fun hc5308=>?_) (fun hc5308=>?_)
   ·have hp5309:(c.recs.length:Int)≤no:=by simpa using hc5308
    refine AE (?_)
    refine AB kR (AA (AD (nS) rfl (AA (AD (vI 1) rfl (AF (AC (?_)))))))
    refine AM (AP (AX rfl (FE rfl rfl rfl rfl) (?_)))
    have e5310:((BO c no l).1)=([]):=by exact congrArg (fun p=>p.1) (show BO c no l=_ from rest_2 aS (.inr aS))
    have e5311:((BO c no l).2)=(1:Int):=by exact congrArg (fun p=>p.2) (show BO c no l=_ from rest_2 aS (.inr aS))
    exact ⟨_,rfl,s5293.keep,by rw [e5310,e5311];exact ⟨.slice none 0 0,rfl,BD.nil _ _ _⟩⟩
   ·have hp5312:no<(c.recs.length:Int):=by simpa using hc5308
    refine AT (AC (?_))
    refine AE (?_)
    refine AE (?_)
    refine AB kR (AA (BJ 4 DK (c.recs) rfl hp5288 (fun _ _ _ h=>CH h) fun a5313 hp5314=>(AA (BV U26_ rfl rfl hp5314 fun v5315 hl5316=>(?_)))))
    have:=hl5316.len_le
    refine AA (AG (vI no) rfl (AA (DG U26_ FX .i64 no no.toNat rfl rfl oM hl5316 oM fun a5317 hp5318=>(AA (BJ 2 KH ((c.recs[no.toNat]!).state) rfl hp5318 (fun _ _ _ h=>GC h) fun a5319 hp5320=>(AA (CC U3_ rfl rfl hp5320 (AF (AC (?_))))))))))
    refine BQ (?_)
    refine AE (?_)
    refine AB kR (AA (EN .i64 ((c.recs[no.toNat]!).state) (2:Int) rfl rfl (AA (AD (vO (((c.recs[no.toNat]!).state) == (2:Int))) rfl (AF (AC (?_)))))))
    refine AL (((c.recs[no.toNat]!).state) == (2:Int)) rfl rfl (fun hc5321=>?_) (fun hc5321=>?_)
    ·have hp5322:(c.recs[no.toNat]!).state=(2:Int):=by simpa using hc5321
     refine AE (?_)
     refine AB kR (AA (AD (nS) rfl (AA (AD (vI 452) rfl (AF (AC (?_)))))))
     refine AM (BY (AP (AX rfl (FE rfl rfl rfl rfl) (?_))))
     have e5323:((BO c no l).1)=([]):=by exact congrArg (fun p=>p.1) (show BO c no l=_ from rest_3 aS oM oM aS)
     have e5324:((BO c no l).2)=(452:Int):=by exact congrArg (fun p=>p.2) (show BO c no l=_ from rest_3 aS oM oM aS)
     exact ⟨_,rfl,s5293.keep,by rw [e5323,e5324];exact ⟨.slice none 0 0,rfl,BD.nil _ _ _⟩⟩
    ·have hp5325:(c.recs[no.toNat]!).state≠(2:Int):=by simpa using hc5321
     refine AE (?_)
     refine AB kR (AA (EN .i64 ((c.recs[no.toNat]!).state) (0:Int) rfl rfl (AA (AD (vO (((c.recs[no.toNat]!).state) == (0:Int))) rfl (AF (AC (?_)))))))
     refine AL (((c.recs[no.toNat]!).state) == (0:Int)) rfl rfl (fun hc5326=>?_) (fun hc5326=>?_)
     ·have hp5327:(c.recs[no.toNat]!).state=(0:Int):=by simpa using hc5326
      refine AE (?_)
      refine AB kR (AA (AD (nS) rfl (AA (AD (vI 460) rfl (AF (AC (?_)))))))
      refine AM (BY (AP (AX rfl (FE rfl rfl rfl rfl) (?_))))
      have e5328:((BO c no l).1)=([]):=by exact congrArg (fun p=>p.1) (show BO c no l=_ from rest_4 aS oM oM aS)
      have e5329:((BO c no l).2)=(460:Int):=by exact congrArg (fun p=>p.2) (show BO c no l=_ from rest_4 aS oM oM aS)
      exact ⟨_,rfl,s5293.keep,by rw [e5328,e5329];exact ⟨.slice none 0 0,rfl,BD.nil _ _ _⟩⟩
     ·have hp5330:(c.recs[no.toNat]!).state≠(0:Int):=by simpa using hc5326
      refine AT (CI (AC (?_)))
      refine AE (?_)
      refine AE (?_)
      refine AB kR (AA (CR U28_ rfl BK rfl hp5288 fun cs5331 hs5332=>(AA (AG (l_v) rfl (AA (BC (vs:=[vA cs5331.toArray,l_v]) TY (SO (O:=[]++O) cs5331 c l_v l w5292 hs5332 h_l s5293.lt) rfl s5293 fun v5333 w5334 s5335 m5336 k5337 r5338=>(?_)))))))
      obtain rfl:=r5338
      have h_l:=h_l.mv m5336
      refine AA (AD (vI (CB c l)) rfl (AF (AC (?_))))
      refine AE (?_)
      refine AB kR (AA (AG (vI (CB c l)) rfl (AA (CV .i64 (CB c l) (0:Int) rfl rfl (AF (AC (?_)))))))
      refine AL ((CB c l) != (0:Int)) rfl rfl (fun hc5339=>?_) (fun hc5339=>?_)
      ·have hp5340:CB c l≠(0:Int):=by simpa using hc5339
       refine AE (?_)
       refine AB kR (AA (AG (vI (CB c l)) rfl (AA (AD (nS) rfl (AA (AD (vI (CB c l)) rfl (AF (AC (?_)))))))))
       refine AM (AP (AX rfl (FE rfl rfl rfl rfl) (?_)))
       have e5341:((BO c no l).1)=([]):=by exact congrArg (fun p=>p.1) (show BO c no l=_ from rest_5 aS oM oM aS aS aS)
       have e5342:((BO c no l).2)=(CB c l):=by exact congrArg (fun p=>p.2) (show BO c no l=_ from rest_5 aS oM oM aS aS aS)
       exact ⟨_,rfl,s5335.keep,by rw [e5341,e5342];exact ⟨.slice none 0 0,rfl,BD.nil _ _ _⟩⟩
      ·have hp5343:CB c l=(0:Int):=by simpa using hc5339
       refine AT (AC (?_))
       refine AE (?_)
       refine AB kR (AA (AG (l_v) rfl (AA (BC (vs:=[l_v]) enter_30 (c_join (O:=[]++O) l_v l w5334 h_l s5335.lt) rfl s5335 fun v5344 w5345 s5346 m5347 k5348 r5349=>(?_)))))
       obtain ⟨x5350,rfl,hl5351⟩:=r5349
       have:=hl5351.len_le
       refine AA (AK (x5350) rfl rfl (AA (AK (vI ((CS l).2)) rfl rfl (AA (AD (x5350) rfl (AA (AD (vI ((CS l).2)) rfl (AF (AC (?_))))))))))
       refine AM (AX rfl (FE rfl rfl rfl rfl) (?_))
       have e5352:((BO c no l).1)=((CS l).1):=by exact congrArg (fun p=>p.1) (show BO c no l=_ from rest_6 aS oM oM aS aS aS)
       have e5353:((BO c no l).2)=((CS l).2):=by exact congrArg (fun p=>p.2) (show BO c no l=_ from rest_6 aS oM oM aS aS aS)
       exact ⟨_,rfl,s5346.keep,by rw [e5352,e5353];exact ⟨x5350,rfl,hl5351.out⟩⟩
  ·have hp5354:no<(0:Int):=by simpa using hb5302
   refine AS rfl (AS rfl (AS rfl (AS rfl (AS rfl (AA (BL (vO true) rfl rfl (AF (AC (?_)))))))))
   refine AL true rfl rfl (fun _=>?_) (fun h=>by cases h)
   refine AE (?_)
   refine AB kR (AA (AD (nS) rfl (AA (AD (vI 1) rfl (AF (AC (?_)))))))
   refine AM (AP (AX rfl (FE rfl rfl rfl rfl) (?_)))
   have e5355:((BO c no l).1)=([]):=by exact congrArg (fun p=>p.1) (show BO c no l=_ from rest_2 aS (.inl aS))
   have e5356:((BO c no l).2)=(1:Int):=by exact congrArg (fun p=>p.2) (show BO c no l=_ from rest_2 aS (.inl aS))
   exact ⟨_,rfl,s5293.keep,by rw [e5355,e5356];exact ⟨.slice none 0 0,rfl,BD.nil _ _ _⟩⟩
set_option maxHeartbeats 4000000 in
set_option maxRecDepth 100000 in
theorem QP {O:List Nat} (c_cs:List Value) (c:Circle) (l_v:Value) (l:List Share) (others_v:Value) (others:List Int) (t:Int) (coins_v:Value) (coins:List UInt8) (w:World) (h_c:Enc.circle.rd w O c_cs c) (h_l:BD Enc.share w O l_v l) (h_others:BD Enc.int w O others_v others) (h_coins:BD Enc.u8 w O coins_v coins) (hpre0:others.length≤1000000) (hO:∀ b∈O,b<w.heap.size):CE Try.prog 28 [.agg c_cs.toArray,l_v,others_v,vI t,coins_v] w (fun v w'=>∃ (x0:List Value) (x1:Value),v = .tuple #[.agg x0.toArray,x1,vI ((AO c l others t coins).2.2)]∧Enc.circle.rd w' (O) x0 ((AO c l others t coins).1)∧BD Enc.share w' (O) x1 ((AO c l others t coins).2.1)):= by
 have h_c:Enc.circle.rd w ([]++O) c_cs c:=h_c
 have lim_l:=h_l.len_le
 have h_l:BD Enc.share w ([]++O) l_v l:=h_l
 have lim_others:=h_others.len_le
 have h_others:BD Enc.int w ([]++O) others_v others:=h_others
 have lim_coins:=h_coins.len_le
 have h_coins:BD Enc.u8 w ([]++O) coins_v coins:=h_coins
 have s0:St w O w []:=St.start hO
 refine BP 61 Try.func28 rfl rfl oT (fun F0=>?_)
 refine AE (?_)
 refine AB kR (AA (DO (E:=Enc.circle) (vA c_cs.toArray) (c_cs) c rfl rfl h_c s0 fun a5357 w5358 s5359 m5360 k5361 hp5362=>(?_)))
 have h_l:=h_l.mv m5360
 have h_others:=h_others.mv m5360
 have h_coins:=h_coins.mv m5360
 refine AA (CY [vI 0,vI 0,vI 0,nS,nS] KM rfl s5359 fun b5363 w5364 e5369 s5365 m5366 k5367 bx5368=>(?_))
 clear e5369
 have h_l:=h_l.mv m5366
 have h_others:=h_others.mv m5366
 have h_coins:=h_coins.mv m5366
 have hp5362:=hp5362.mv m5366
 refine AA (AD (nS) rfl (AA (AD (vI 0) rfl (AF (AC (?_))))))
 refine AE (?_)
 refine AE (?_)
 refine AB kR (AA (CR U28_ rfl BK rfl hp5362 fun cs5370 hs5371=>(AA (BC (vs:=[vA cs5370.toArray]) PG (NR (O:=(b5363 :: [])++O) cs5370 c w5364 hs5371 s5365.lt) rfl s5365 fun v5372 w5373 s5374 m5375 k5376 r5377=>(?_)))))
 obtain rfl:=r5377
 have h_l:=h_l.mv m5375
 have h_others:=h_others.mv m5375
 have h_coins:=h_coins.mv m5375
 have hp5362:=hp5362.mv m5375
 have bx5368:=bx5368.keep k5376 (by simp)
 refine AA (AD (vI (AQ c)) rfl (AF (AC (?_))))
 refine AE (?_)
 refine AB kR (AA (AG (vI (AQ c)) rfl (AA (CV .i64 (AQ c) (0:Int) rfl rfl (AF (AC (?_)))))))
 refine AL ((AQ c) != (0:Int)) rfl rfl (fun hc5378=>?_) (fun hc5378=>?_)
 ·have hp5379:AQ c≠(0:Int):=by simpa using hc5378
  refine AE (?_)
  refine AB kR (AA (BM (vs:=[vI 0,vI 0,vI 0,nS,nS]) U28_ rfl BK rfl bx5368 rfl (AA (AG (vI (AQ c)) rfl (BW (BA (vs:=[vI 0,vI 0,vI 0,nS,nS]) (.agg #[vI 0,vI 0,vI 0,nS,nS]) rfl rfl rfl BK (fun u hu=>by simp only [List.mem_cons,List.not_mem_nil,or_false] at hu;rcases hu with rfl|rfl|rfl|rfl|rfl <;> rfl) (by repeat (constructor)) bx5368 oT s5374 fun w5380 s5381 m5382 k5383 bx5384=>(?_)))))))
  refine AA (AD (nS) rfl (AA (AD (vI (AQ c)) rfl (AF (AC (?_))))))
  refine AM (AP (AX rfl (FV rfl (DX (vs:=[vI 0,vI 0,vI 0,nS,nS]) rfl U28_ rfl BK rfl bx5384 rfl) (DM rfl rfl) (DM rfl rfl)) (?_)))
  have e5385:((AO c l others t coins).1)=(⟨(0:Int),(0:Int),(0:Int),[],[]⟩:Circle):=by exact congrArg (fun p=>p.1) (show AO c l others t coins=_ from OE aS)
  have e5386:((AO c l others t coins).2.1)=([]):=by exact congrArg (fun p=>p.2.1) (show AO c l others t coins=_ from OE aS)
  have e5387:((AO c l others t coins).2.2)=(AQ c):=by exact congrArg (fun p=>p.2.2) (show AO c l others t coins=_ from OE aS)
  exact ⟨_,rfl,s5381.keep,by rw [e5385,e5386,e5387];exact ⟨[vI 0,vI 0,vI 0,nS,nS], .slice none 0 0,rfl,Enc.out (B:=(b5363 :: [])) ⟨.slice none 0 0, .slice none 0 0,rfl,(BD.nil _ _ _),(BD.nil _ _ _)⟩,BD.nil _ _ _⟩⟩
 ·have hp5388:AQ c=(0:Int):=by simpa using hc5378
  have hok:AQ c=0:=hp5388
  have hepb:=circ_ep hok
  refine AT (AC (?_))
  refine AE (?_)
  refine AE (?_)
  refine AB kR (AA (CR U28_ rfl BK rfl hp5362 fun cs5389 hs5390=>(AA (AG (l_v) rfl (AA (BC (vs:=[vA cs5389.toArray,l_v]) TY (SO (O:=(b5363 :: [])++O) cs5389 c l_v l w5373 hs5390 h_l s5374.lt) rfl s5374 fun v5391 w5392 s5393 m5394 k5395 r5396=>(?_)))))))
  obtain rfl:=r5396
  have h_l:=h_l.mv m5394
  have h_others:=h_others.mv m5394
  have h_coins:=h_coins.mv m5394
  have hp5362:=hp5362.mv m5394
  have bx5368:=bx5368.keep k5395 (by simp)
  refine AA (AD (vI (CB c l)) rfl (AF (AC (?_))))
  refine AE (?_)
  refine AB kR (AA (AG (vI (CB c l)) rfl (AA (CV .i64 (CB c l) (0:Int) rfl rfl (AF (AC (?_)))))))
  refine AL ((CB c l) != (0:Int)) rfl rfl (fun hc5397=>?_) (fun hc5397=>?_)
  ·have hp5398:CB c l≠(0:Int):=by simpa using hc5397
   refine AE (?_)
   refine AB kR (AA (BM (vs:=[vI 0,vI 0,vI 0,nS,nS]) U28_ rfl BK rfl bx5368 rfl (AA (AG (vI (CB c l)) rfl (BW (BA (vs:=[vI 0,vI 0,vI 0,nS,nS]) (.agg #[vI 0,vI 0,vI 0,nS,nS]) rfl rfl rfl BK (fun u hu=>by simp only [List.mem_cons,List.not_mem_nil,or_false] at hu;rcases hu with rfl|rfl|rfl|rfl|rfl <;> rfl) (by repeat (constructor)) bx5368 oT s5393 fun w5399 s5400 m5401 k5402 bx5403=>(?_)))))))
   refine AA (AD (nS) rfl (AA (AD (vI (CB c l)) rfl (AF (AC (?_))))))
   refine AM (AP (AX rfl (FV rfl (DX (vs:=[vI 0,vI 0,vI 0,nS,nS]) rfl U28_ rfl BK rfl bx5403 rfl) (DM rfl rfl) (DM rfl rfl)) (?_)))
   have e5404:((AO c l others t coins).1)=(⟨(0:Int),(0:Int),(0:Int),[],[]⟩:Circle):=by exact congrArg (fun p=>p.1) (show AO c l others t coins=_ from LK aS aS)
   have e5405:((AO c l others t coins).2.1)=([]):=by exact congrArg (fun p=>p.2.1) (show AO c l others t coins=_ from LK aS aS)
   have e5406:((AO c l others t coins).2.2)=(CB c l):=by exact congrArg (fun p=>p.2.2) (show AO c l others t coins=_ from LK aS aS)
   exact ⟨_,rfl,s5400.keep,by rw [e5404,e5405,e5406];exact ⟨[vI 0,vI 0,vI 0,nS,nS], .slice none 0 0,rfl,Enc.out (B:=(b5363 :: [])) ⟨.slice none 0 0, .slice none 0 0,rfl,(BD.nil _ _ _),(BD.nil _ _ _)⟩,BD.nil _ _ _⟩⟩
  ·have hp5407:CB c l=(0:Int):=by simpa using hc5397
   refine AT (AC (?_))
   refine AE (?_)
   refine AB kR (AA (AG (l_v) rfl (AA (BC (vs:=[l_v]) enter_30 (c_join (O:=(b5363 :: [])++O) l_v l w5392 h_l s5393.lt) rfl s5393 fun v5408 w5409 s5410 m5411 k5412 r5413=>(?_)))))
   obtain ⟨x5414,rfl,hl5415⟩:=r5413
   have:=hl5415.len_le
   have h_others:=h_others.mv m5411
   have h_coins:=h_coins.mv m5411
   have hp5362:=hp5362.mv m5411
   have bx5368:=bx5368.keep k5412 (by simp)
   refine AA (AG (vT #[x5414,vI ((CS l).2)]) rfl (AA (AK (x5414) rfl rfl (AA (AK (vI ((CS l).2)) rfl rfl (AA (AD (x5414) rfl (AA (AD (vI ((CS l).2)) rfl (AF (AC (?_))))))))))))
   refine AE (?_)
   refine AE (?_)
   refine AB kR (AA (AG (vI ((CS l).2)) rfl (AA (CV .i64 ((CS l).2) (0:Int) rfl rfl (AF (AC (?_)))))))
   refine AL (((CS l).2) != (0:Int)) rfl rfl (fun hc5416=>?_) (fun hc5416=>?_)
   ·have hp5417:(CS l).2≠(0:Int):=by simpa using hc5416
    refine AE (?_)
    refine AB kR (AA (BM (vs:=[vI 0,vI 0,vI 0,nS,nS]) U28_ rfl BK rfl bx5368 rfl (AA (AG (vI ((CS l).2)) rfl (BW (BA (vs:=[vI 0,vI 0,vI 0,nS,nS]) (.agg #[vI 0,vI 0,vI 0,nS,nS]) rfl rfl rfl BK (fun u hu=>by simp only [List.mem_cons,List.not_mem_nil,or_false] at hu;rcases hu with rfl|rfl|rfl|rfl|rfl <;> rfl) (by repeat (constructor)) bx5368 oT s5410 fun w5418 s5419 m5420 k5421 bx5422=>(?_)))))))
    refine AA (AD (nS) rfl (AA (AD (vI ((CS l).2)) rfl (AF (AC (?_))))))
    refine AM (AP (AX rfl (FV rfl (DX (vs:=[vI 0,vI 0,vI 0,nS,nS]) rfl U28_ rfl BK rfl bx5422 rfl) (DM rfl rfl) (DM rfl rfl)) (?_)))
    have e5423:((AO c l others t coins).1)=(⟨(0:Int),(0:Int),(0:Int),[],[]⟩:Circle):=by exact congrArg (fun p=>p.1) (show AO c l others t coins=_ from OC aS aS aS)
    have e5424:((AO c l others t coins).2.1)=([]):=by exact congrArg (fun p=>p.2.1) (show AO c l others t coins=_ from OC aS aS aS)
    have e5425:((AO c l others t coins).2.2)=((CS l).2):=by exact congrArg (fun p=>p.2.2) (show AO c l others t coins=_ from OC aS aS aS)
    exact ⟨_,rfl,s5419.keep,by rw [e5423,e5424,e5425];exact ⟨[vI 0,vI 0,vI 0,nS,nS], .slice none 0 0,rfl,Enc.out (B:=(b5363 :: [])) ⟨.slice none 0 0, .slice none 0 0,rfl,(BD.nil _ _ _),(BD.nil _ _ _)⟩,BD.nil _ _ _⟩⟩
   ·have hp5426:(CS l).2=(0:Int):=by simpa using hc5416
    refine AT (AC (?_))
    refine AE (?_)
    refine AB kR (AA (CR U28_ rfl BK rfl hp5362 fun cs5427 hs5428=>(?_)))
    obtain ⟨d5434,d5436,rfl,hd5435,hd5437⟩:=hs5428
    have:=hd5435.len_le
    have:=hd5437.len_le
    refine BW (BA (vs:=[vI c.epoch,vI c.threshold,vI c.wait,d5434,d5436]) (.agg #[vI c.epoch,vI c.threshold,vI c.wait,d5434,d5436]) rfl rfl rfl BK (fun u hu=>by simp only [List.mem_cons,List.not_mem_nil,or_false] at hu;rcases hu with rfl|rfl|rfl|rfl|rfl <;> first|rfl|exact hd5435.oneCell|exact hd5437.oneCell) (by repeat (constructor)) bx5368 oT s5410 fun w5429 s5430 m5431 k5432 bx5433=>(?_))
    have h_others:=h_others.mv m5431
    have h_coins:=h_coins.mv m5431
    have hl5415:=hl5415.mv m5431
    have hd5437:=hd5437.mv m5431
    refine AF (AC (?_))
    refine AE (?_)
    refine AB kR (AA (BB 0 IA rfl (AA (BF U3_ rfl (vI c.epoch) rfl bx5433 rfl (AA (DD .i64 c.epoch (1:Int) (c.epoch+(1:Int)) rfl rfl (FT oM oM) (AA (BB 0 IA rfl (BW (CK (vI (c.epoch+(1:Int))) rfl rfl rfl MO (by repeat (constructor)) bx5433 oT s5430 fun w5438 s5439 m5440 k5441 bx5442=>(?_)))))))))))
    have h_others:=h_others.mv m5440
    have h_coins:=h_coins.mv m5440
    have hl5415:=hl5415.mv m5440
    have hd5437:=hd5437.mv m5440
    refine AF (AC (?_))
    refine AE (?_)
    refine AB kR (AA (AG (others_v) rfl (AA (JU [others_v] _ TB rfl (CF 8 Try.func32 rfl rfl oT (fun F5443=>?_)) (fun _ _ h=>h)))))
    refine AE (?_)
    refine AB kR (AA (AD (nS) rfl (AF (AC (?_)))))
    refine AE (?_)
    refine AE (?_)
    refine AB kR (AA (AG (others_v) rfl (AA (IO U22_ rfl rfl h_others fun bn5444 hbn5445=>(?_)))))
    refine AF (AC (?_))
    refine AL (bn5444) rfl rfl (fun hc5446=>?_) (fun hc5446=>?_)
    ·have hp5447:bn5444=true:=by simpa using hc5446
     refine AE (?_)
     refine AB kR (AA (AD (nS) rfl (AF (AC (?_)))))
     refine AM (AP (AX rfl (CP rfl rfl rfl) (?_)))
     have hnl5449:others=[]:=hbn5445 aS
     have hl5448:BD Enc.int w5438 ((b5363 :: [])++O) (.slice none 0 0) (others):=by rw [hnl5449];exact BD.nil _ _ _
     refine Exists.intro _ (And.intro rfl (?_))
     refine AA (AG (vI t) rfl (AA (BB 3 JY rfl (BW (CK (.slice none 0 0) rfl rfl hl5448.oneCell s_22 (by repeat (constructor)) bx5442 oT s5439 fun w5450 s5451 m5452 k5453 bx5454=>(?_))))))
     have h_coins:=h_coins.mv m5452
     have hl5415:=hl5415.mv m5452
     have hd5437:=hd5437.mv m5452
     have hl5448:=hl5448.mv m5452
     refine AA (BB 1 MC rfl (BW (CK (vI t) rfl rfl rfl MO (by repeat (constructor)) bx5454 oT s5451 fun w5455 s5456 m5457 k5458 bx5459=>(?_))))
     have h_coins:=h_coins.mv m5457
     have hl5415:=hl5415.mv m5457
     have hd5437:=hd5437.mv m5457
     have hl5448:=hl5448.mv m5457
     refine AF (AC (?_))
     refine AE (?_)
     refine AB kR (AA (BM (vs:=[vI (c.epoch+(1:Int)),vI t,vI c.wait, .slice none 0 0,d5436]) U28_ rfl BK rfl bx5459 rfl (AA (AG (x5414) rfl (AA (AG (coins_v) rfl (AA (BC (vs:=[vA #[vI (c.epoch+(1:Int)),vI t,vI c.wait, .slice none 0 0,d5436],x5414,coins_v]) MX (TW (O:=(b5363 :: [])++O) [vI (c.epoch+(1:Int)),vI t,vI c.wait, .slice none 0 0,d5436] (⟨c.epoch+(1:Int),t,c.wait,others,c.recs⟩:Circle) x5414 ((CS l).1) coins_v coins w5455 ⟨_,_,rfl,hl5448,hd5437⟩ hl5415 h_coins s5456.lt) rfl s5456 fun v5460 w5461 s5462 m5463 k5464 r5465=>(?_)))))))))
     obtain ⟨x5466,rfl,hl5467⟩:=r5465
     have:=hl5467.len_le
     have hd5437:=hd5437.mv m5463
     have hl5448:=hl5448.mv m5463
     have bx5459:=bx5459.keep k5464 (by simp)
     refine AA (AG (vT #[x5466,vI ((CM (⟨c.epoch+(1:Int),t,c.wait,others,c.recs⟩:Circle) ((CS l).1) coins).2)]) rfl (AA (AK (x5466) rfl rfl (AA (AK (vI ((CM (⟨c.epoch+(1:Int),t,c.wait,others,c.recs⟩:Circle) ((CS l).1) coins).2)) rfl rfl (AA (AD (x5466) rfl (AA (AD (vI ((CM (⟨c.epoch+(1:Int),t,c.wait,others,c.recs⟩:Circle) ((CS l).1) coins).2)) rfl (AF (AC (?_))))))))))))
     refine AE (?_)
     refine AE (?_)
     refine AB kR (AA (AG (vI ((CM (⟨c.epoch+(1:Int),t,c.wait,others,c.recs⟩:Circle) ((CS l).1) coins).2)) rfl (AA (CV .i64 ((CM (⟨c.epoch+(1:Int),t,c.wait,others,c.recs⟩:Circle) ((CS l).1) coins).2) (0:Int) rfl rfl (AF (AC (?_)))))))
     refine AL (((CM (⟨c.epoch+(1:Int),t,c.wait,others,c.recs⟩:Circle) ((CS l).1) coins).2) != (0:Int)) rfl rfl (fun hc5468=>?_) (fun hc5468=>?_)
     ·have hp5469:(CM (⟨c.epoch+(1:Int),t,c.wait,others,c.recs⟩:Circle) ((CS l).1) coins).2≠(0:Int):=by simpa using hc5468
      refine AE (?_)
      refine AB kR (AA (ED (l:=[]) RO KM rfl [] [vI 0,vI 0,vI 0,nS,nS] rfl rfl (AA (AG (vI ((CM (⟨c.epoch+(1:Int),t,c.wait,others,c.recs⟩:Circle) ((CS l).1) coins).2)) rfl (BW (BA (vs:=[vI 0,vI 0,vI 0,nS,nS]) (.agg #[vI 0,vI 0,vI 0,nS,nS]) rfl rfl rfl BK (fun u hu=>by simp only [List.mem_cons,List.not_mem_nil,or_false] at hu;rcases hu with rfl|rfl|rfl|rfl|rfl <;> rfl) (by repeat (constructor)) bx5459 oT s5462 fun w5470 s5471 m5472 k5473 bx5474=>(?_)))))))
      refine AA (AD (nS) rfl (AA (AD (vI ((CM (⟨c.epoch+(1:Int),t,c.wait,others,c.recs⟩:Circle) ((CS l).1) coins).2)) rfl (AF (AC (?_))))))
      refine AM (AP (AX rfl (FV rfl (DX (vs:=[vI 0,vI 0,vI 0,nS,nS]) rfl U28_ rfl BK rfl bx5474 rfl) (DM rfl rfl) (DM rfl rfl)) (?_)))
      have e5475:((AO c l others t coins).1)=(⟨(0:Int),(0:Int),(0:Int),[],[]⟩:Circle):=by exact congrArg (fun p=>p.1) (show AO c l others t coins=_ from IN aS aS aS aS)
      have e5476:((AO c l others t coins).2.1)=([]):=by exact congrArg (fun p=>p.2.1) (show AO c l others t coins=_ from IN aS aS aS aS)
      have e5477:((AO c l others t coins).2.2)=((CM (⟨c.epoch+(1:Int),t,c.wait,others,c.recs⟩:Circle) ((CS l).1) coins).2):=by exact congrArg (fun p=>p.2.2) (show AO c l others t coins=_ from IN aS aS aS aS)
      exact ⟨_,rfl,s5471.keep,by rw [e5475,e5476,e5477];exact ⟨[vI 0,vI 0,vI 0,nS,nS], .slice none 0 0,rfl,Enc.out (B:=(b5363 :: [])) ⟨.slice none 0 0, .slice none 0 0,rfl,(BD.nil _ _ _),(BD.nil _ _ _)⟩,BD.nil _ _ _⟩⟩
     ·have hp5478:(CM (⟨c.epoch+(1:Int),t,c.wait,others,c.recs⟩:Circle) ((CS l).1) coins).2=(0:Int):=by simpa using hc5468
      refine AT (AC (?_))
      refine AE (?_)
      refine AB kR (AA (BM (vs:=[vI (c.epoch+(1:Int)),vI t,vI c.wait, .slice none 0 0,d5436]) U28_ rfl BK rfl bx5459 rfl (AA (AG (x5466) rfl (BW (BA (vs:=[vI (c.epoch+(1:Int)),vI t,vI c.wait, .slice none 0 0,d5436]) (.agg #[vI (c.epoch+(1:Int)),vI t,vI c.wait, .slice none 0 0,d5436]) rfl rfl rfl BK (fun u hu=>by simp only [List.mem_cons,List.not_mem_nil,or_false] at hu;rcases hu with rfl|rfl|rfl|rfl|rfl <;> first|rfl|exact hd5437.oneCell) (by repeat (constructor)) bx5459 oT s5462 fun w5479 s5480 m5481 k5482 bx5483=>(?_)))))))
      have hl5467:=hl5467.mv m5481
      have hd5437:=hd5437.mv m5481
      have hl5448:=hl5448.mv m5481
      refine AA (AD (x5466) rfl (AA (AD (vI 0) rfl (AF (AC (?_))))))
      refine AM (AX rfl (FV rfl (DX (vs:=[vI (c.epoch+(1:Int)),vI t,vI c.wait, .slice none 0 0,d5436]) rfl U28_ rfl BK rfl bx5483 rfl) (DM rfl rfl) (DM rfl rfl)) (?_))
      have e5484:((AO c l others t coins).1)=(⟨c.epoch+(1:Int),t,c.wait,others,c.recs⟩:Circle):=by exact congrArg (fun p=>p.1) (show AO c l others t coins=_ from IM aS aS aS aS)
      have e5485:((AO c l others t coins).2.1)=((CM (⟨c.epoch+(1:Int),t,c.wait,others,c.recs⟩:Circle) ((CS l).1) coins).1):=by exact congrArg (fun p=>p.2.1) (show AO c l others t coins=_ from IM aS aS aS aS)
      have e5486:((AO c l others t coins).2.2)=(0:Int):=by exact congrArg (fun p=>p.2.2) (show AO c l others t coins=_ from IM aS aS aS aS)
      exact ⟨_,rfl,s5480.keep,by rw [e5484,e5485,e5486];exact ⟨[vI (c.epoch+(1:Int)),vI t,vI c.wait, .slice none 0 0,d5436],x5466,rfl,Enc.out (B:=(b5363 :: [])) ⟨_,_,rfl,hl5448,hd5437⟩,hl5467.out⟩⟩
    ·have hp5487:bn5444=false:=by simpa using hc5446
     refine AT (AC (?_))
     refine AE (?_)
     refine AB kR (AA (HU (E:=Enc.int) (xs:=[]) U22_ MO z_3 (by decide) [] [] [] rfl rfl rfl (Parts.nil _ _ _) oT s5439 fun v5492 b5494 w5488 e5495 hb5496 s5489 m5490 k5491 hl5493=>(?_)))
     have ne5497:∀ b,v5492.ownBlock=some b→b≠b5363:=fun b hb=>by have:=bx5442.lt;rw [hb5496] at hb;cases hb;omega
     have hB5498:∀ b,v5492.ownBlock=some b→b∈(b5494 :: (b5363 :: [])):=fun b hb=>by rw [hb5496] at hb;cases hb;simp
     clear e5495 hb5496
     have h_others:=h_others.mv m5490
     have h_coins:=h_coins.mv m5490
     have hl5415:=hl5415.mv m5490
     have hd5437:=hd5437.mv m5490
     have bx5442:=bx5442.keep k5491 (by simp)
     refine AA (AG (others_v) rfl (AA (DJ (E:=Enc.int) (l:=[]) (m:=others) U22_ i_3 rfl (by decide) rfl rfl hl5493 h_others (fun _ hb=>.inl hb) hB5498 (by simp;omega) (by simp [maxLen];omega) s5489 fun v5503 w5499 B5505 hB5506 at5507 sub5508 s5500 m5501 k5502 ho5504=>(?_))))
     rw [List.nil_append] at ho5504
     have ne5509:∀ b,v5503.ownBlock=some b→b≠b5363:=fun b hb=>by rcases at5507 with e1|e1 <;> rw [e1] at hb <;> first|(cases hb;have:=bx5442.lt;omega)|(exact ne5497 b hb)
     have hin_b5363:b5363∈B5505:=sub5508 b5363 (by repeat (constructor))
     have h_coins:=h_coins.mv m5501
     have hl5415:=hl5415.mv m5501
     have hd5437:=hd5437.mv m5501
     have bx5442:=bx5442.keep k5502 (by simp only [Option.mem_toList];exact fun e=>absurd rfl (ne5497 _ e))
     refine AA (AD (v5503) rfl (AF (AC (?_))))
     refine AM (AX rfl (CP rfl rfl rfl) (Exists.intro _ (And.intro rfl (?_))))
     refine AA (AG (vI t) rfl (AA (BB 3 JY rfl (BW (CK (v5503) rfl rfl ho5504.oneCell s_22 (by repeat (assumption)) bx5442 oT s5500 fun w5510 s5511 m5512 k5513 bx5514=>(?_))))))
     have h_coins:=h_coins.mv m5512
     have hl5415:=hl5415.mv m5512
     have hd5437:=hd5437.mv m5512
     have ho5504:=ho5504.mv m5512 k5513 (fun b hb=>BG (ne5509 b hb))
     refine AA (BB 1 MC rfl (BW (CK (vI t) rfl rfl rfl MO (by repeat (assumption)) bx5514 oT s5511 fun w5515 s5516 m5517 k5518 bx5519=>(?_))))
     have h_coins:=h_coins.mv m5517
     have hl5415:=hl5415.mv m5517
     have hd5437:=hd5437.mv m5517
     have ho5504:=ho5504.mv m5517 k5518 (fun b hb=>BG (ne5509 b hb))
     refine AF (AC (?_))
     refine AE (?_)
     refine AB kR (AA (BM (vs:=[vI (c.epoch+(1:Int)),vI t,vI c.wait,v5503,d5436]) U28_ rfl BK rfl bx5519 rfl (AA (AG (x5414) rfl (AA (AG (coins_v) rfl (?_)))))))
     obtain ⟨B5520,s5521,m5522,hl5523,hk5524⟩:=ho5504.publish s5516
     have hin_b5363:b5363∈B5520:=hk5524 b5363 (by repeat (assumption)) (fun e=>absurd rfl (ne5509 _ e))
     have lim5525:=hl5523.len_le
     have h_coins:=h_coins.mv m5522
     have hl5415:=hl5415.mv m5522
     have hd5437:=hd5437.mv m5522
     have bx5519:=bx5519.keep (Keep.refl [] _) (by simp)
     refine AA (BC (vs:=[vA #[vI (c.epoch+(1:Int)),vI t,vI c.wait,v5503,d5436],x5414,coins_v]) MX (TW (O:=B5520++O) [vI (c.epoch+(1:Int)),vI t,vI c.wait,v5503,d5436] (⟨c.epoch+(1:Int),t,c.wait,others,c.recs⟩:Circle) x5414 ((CS l).1) coins_v coins w5515 ⟨_,_,rfl,hl5523,hd5437⟩ hl5415 h_coins s5521.lt) rfl s5521 fun v5526 w5527 s5528 m5529 k5530 r5531=>(?_))
     obtain ⟨x5532,rfl,hl5533⟩:=r5531
     have:=hl5533.len_le
     have hd5437:=hd5437.mv m5529
     have hl5523:=hl5523.mv m5529
     have bx5519:=bx5519.keep k5530 (by simp)
     refine AA (AG (vT #[x5532,vI ((CM (⟨c.epoch+(1:Int),t,c.wait,others,c.recs⟩:Circle) ((CS l).1) coins).2)]) rfl (AA (AK (x5532) rfl rfl (AA (AK (vI ((CM (⟨c.epoch+(1:Int),t,c.wait,others,c.recs⟩:Circle) ((CS l).1) coins).2)) rfl rfl (AA (AD (x5532) rfl (AA (AD (vI ((CM (⟨c.epoch+(1:Int),t,c.wait,others,c.recs⟩:Circle) ((CS l).1) coins).2)) rfl (AF (AC (?_))))))))))))
     refine AE (?_)
     refine AE (?_)
     refine AB kR (AA (AG (vI ((CM (⟨c.epoch+(1:Int),t,c.wait,others,c.recs⟩:Circle) ((CS l).1) coins).2)) rfl (AA (CV .i64 ((CM (⟨c.epoch+(1:Int),t,c.wait,others,c.recs⟩:Circle) ((CS l).1) coins).2) (0:Int) rfl rfl (AF (AC (?_)))))))
     refine AL (((CM (⟨c.epoch+(1:Int),t,c.wait,others,c.recs⟩:Circle) ((CS l).1) coins).2) != (0:Int)) rfl rfl (fun hc5534=>?_) (fun hc5534=>?_)
     ·have hp5535:(CM (⟨c.epoch+(1:Int),t,c.wait,others,c.recs⟩:Circle) ((CS l).1) coins).2≠(0:Int):=by simpa using hc5534
      refine AE (?_)
      refine AB kR (AA (ED (l:=[]) RO KM rfl [] [vI 0,vI 0,vI 0,nS,nS] rfl rfl (AA (AG (vI ((CM (⟨c.epoch+(1:Int),t,c.wait,others,c.recs⟩:Circle) ((CS l).1) coins).2)) rfl (BW (BA (vs:=[vI 0,vI 0,vI 0,nS,nS]) (.agg #[vI 0,vI 0,vI 0,nS,nS]) rfl rfl rfl BK (fun u hu=>by simp only [List.mem_cons,List.not_mem_nil,or_false] at hu;rcases hu with rfl|rfl|rfl|rfl|rfl <;> rfl) (by repeat (assumption)) bx5519 oT s5528 fun w5536 s5537 m5538 k5539 bx5540=>(?_)))))))
      refine AA (AD (nS) rfl (AA (AD (vI ((CM (⟨c.epoch+(1:Int),t,c.wait,others,c.recs⟩:Circle) ((CS l).1) coins).2)) rfl (AF (AC (?_))))))
      refine AM (AP (AX rfl (FV rfl (DX (vs:=[vI 0,vI 0,vI 0,nS,nS]) rfl U28_ rfl BK rfl bx5540 rfl) (DM rfl rfl) (DM rfl rfl)) (?_)))
      have e5541:((AO c l others t coins).1)=(⟨(0:Int),(0:Int),(0:Int),[],[]⟩:Circle):=by exact congrArg (fun p=>p.1) (show AO c l others t coins=_ from IN aS aS aS aS)
      have e5542:((AO c l others t coins).2.1)=([]):=by exact congrArg (fun p=>p.2.1) (show AO c l others t coins=_ from IN aS aS aS aS)
      have e5543:((AO c l others t coins).2.2)=((CM (⟨c.epoch+(1:Int),t,c.wait,others,c.recs⟩:Circle) ((CS l).1) coins).2):=by exact congrArg (fun p=>p.2.2) (show AO c l others t coins=_ from IN aS aS aS aS)
      exact ⟨_,rfl,s5537.keep,by rw [e5541,e5542,e5543];exact ⟨[vI 0,vI 0,vI 0,nS,nS], .slice none 0 0,rfl,Enc.out (B:=B5520) ⟨.slice none 0 0, .slice none 0 0,rfl,(BD.nil _ _ _),(BD.nil _ _ _)⟩,BD.nil _ _ _⟩⟩
     ·have hp5544:(CM (⟨c.epoch+(1:Int),t,c.wait,others,c.recs⟩:Circle) ((CS l).1) coins).2=(0:Int):=by simpa using hc5534
      refine AT (AC (?_))
      refine AE (?_)
      refine AB kR (AA (BM (vs:=[vI (c.epoch+(1:Int)),vI t,vI c.wait,v5503,d5436]) U28_ rfl BK rfl bx5519 rfl (AA (AG (x5532) rfl (BW (BA (vs:=[vI (c.epoch+(1:Int)),vI t,vI c.wait,v5503,d5436]) (.agg #[vI (c.epoch+(1:Int)),vI t,vI c.wait,v5503,d5436]) rfl rfl rfl BK (fun u hu=>by simp only [List.mem_cons,List.not_mem_nil,or_false] at hu;rcases hu with rfl|rfl|rfl|rfl|rfl <;> first|rfl|exact hl5523.oneCell|exact hd5437.oneCell) (by repeat (assumption)) bx5519 oT s5528 fun w5545 s5546 m5547 k5548 bx5549=>(?_)))))))
      have hl5533:=hl5533.mv m5547
      have hd5437:=hd5437.mv m5547
      have hl5523:=hl5523.mv m5547
      refine AA (AD (x5532) rfl (AA (AD (vI 0) rfl (AF (AC (?_))))))
      refine AM (AX rfl (FV rfl (DX (vs:=[vI (c.epoch+(1:Int)),vI t,vI c.wait,v5503,d5436]) rfl U28_ rfl BK rfl bx5549 rfl) (DM rfl rfl) (DM rfl rfl)) (?_))
      have e5550:((AO c l others t coins).1)=(⟨c.epoch+(1:Int),t,c.wait,others,c.recs⟩:Circle):=by exact congrArg (fun p=>p.1) (show AO c l others t coins=_ from IM aS aS aS aS)
      have e5551:((AO c l others t coins).2.1)=((CM (⟨c.epoch+(1:Int),t,c.wait,others,c.recs⟩:Circle) ((CS l).1) coins).1):=by exact congrArg (fun p=>p.2.1) (show AO c l others t coins=_ from IM aS aS aS aS)
      have e5552:((AO c l others t coins).2.2)=(0:Int):=by exact congrArg (fun p=>p.2.2) (show AO c l others t coins=_ from IM aS aS aS aS)
      exact ⟨_,rfl,s5546.keep,by rw [e5550,e5551,e5552];exact ⟨[vI (c.epoch+(1:Int)),vI t,vI c.wait,v5503,d5436],x5532,rfl,Enc.out (B:=B5520) ⟨_,_,rfl,hl5523,hd5437⟩,hl5533.out⟩⟩
open Go.Fw
theorem inc_pw {l:List Int}:HL l=true↔l.Pairwise (· < ·)∧∀ x∈l,0≤x∧x<4096:=by
  constructor
  · intro h
    refine ⟨List.pairwise_iff_getElem.2 fun i j hi hj hij=>?_,fun x hx=>?_⟩
    · have:=LZ h i j hij hj
      rwa [getElem!_pos l i hi,getElem!_pos l j hj] at this
    · obtain ⟨i,hi,rfl⟩:=List.getElem_of_mem hx
      have:=QN h i hi
      rwa [getElem!_pos l i hi] at this
  · rintro ⟨h1,h2⟩
    refine (RV l).2 fun k hk=>PL.2 ⟨?_,?_⟩
    · unfold JD
      rw [getElem!_pos l k hk]
      split
      · have:=(h2 _ (List.getElem_mem hk)).1;omega
      · have:=List.pairwise_iff_getElem.1 h1 (k - 1) k (by omega) hk (by omega)
        rwa [getElem!_pos l (k - 1) (by omega)]
    · rw [getElem!_pos l k hk];exact (h2 _ (List.getElem_mem hk)).2
theorem SX (a:Int) (l:List Int) (x:Int):OJ (a :: l) x=if a<x then a :: OJ l x else x :: a :: l:=by
  unfold OJ tw
  by_cases h:a<x
  · simp [h]
  · simp [h]
theorem QT {x y:Int}:∀ {l:List Int},y∈OJ l x↔y=x∨y∈l
  | []=>by simp [OJ,tw]
  | a :: l=>by
    rw [SX]
    split
    · rw [List.mem_cons,QT,List.mem_cons]
      constructor
      · rintro (h|h|h)
        · exact .inr (.inl h)
        · exact .inl h
        · exact .inr (.inr h)
      · rintro (h|h|h)
        · exact .inr (.inl h)
        · exact .inl h
        · exact .inr (.inr h)
    · simp
theorem putIn_pw {x:Int}:∀ {l:List Int},l.Pairwise (· < ·)→x∉l→(OJ l x).Pairwise (· < ·)
  | [],_,_=>by simp [OJ,tw]
  | a :: l,h,hx=>by
    obtain ⟨h1,h2⟩:=List.pairwise_cons.1 h
    rw [SX]
    split
    · rename_i ha
      refine List.pairwise_cons.2 ⟨fun y hy=>?_,putIn_pw h2 (fun hm=>hx (List.mem_cons_of_mem _ hm))⟩
      rcases QT.1 hy with rfl|hy
      · exact ha
      · exact h1 y hy
    · rename_i ha
      have hne:x≠a:=fun e=>hx (by rw [e];exact List.mem_cons_self ..)
      refine List.pairwise_cons.2 ⟨fun y hy=>?_,h⟩
      rcases List.mem_cons.1 hy with rfl|hy
      · omega
      · have:=h1 y hy;omega
theorem bsF_cons (a:Int) (l:List Int) (x:Int):RP (a :: l) x=if a<x then RP l x else (a == x):=by
  unfold RP tw
  by_cases h:a<x
  · simp [h]
  · simp [h]
theorem bsF_iff {x:Int}:∀ {l:List Int},l.Pairwise (· < ·)→(RP l x=true↔x∈l)
  | [],_=>by simp [RP,tw]
  | a :: l,h=>by
    obtain ⟨h1,h2⟩:=List.pairwise_cons.1 h
    rw [bsF_cons]
    split
    · rename_i ha
      rw [bsF_iff h2,List.mem_cons]
      exact ⟨.inr,fun hm=>hm.resolve_left (fun e=>by omega)⟩
    · rename_i ha
      rw [List.mem_cons,beq_iff_eq]
      constructor
      · intro e;exact .inl e.symm
      · rintro (e|hm)
        · exact e.symm
        · have:=h1 x hm;omega
section
variable {c:Circle} {no:Int}
theorem guard_range (hok:AQ c=0) {x:Int} (hx:c.guardians.contains x=true):0≤x∧x<4096:=by
  have hh:=((FG c).1 hok).1
  simp only [DF,dbs] at hh
  have hi:HL c.guardians=true:=by simp_all
  exact (inc_pw.1 hi).2 x (by simpa using hx)
end
open Go.Fw
theorem any_f {l:List Share} {f:Share→Bool}:l.any f=false↔∀ k,k<l.length→f l[k]! = false:=by
  rw [List.any_eq_false]
  constructor
  · intro h k hk
    have:=h l[k]! (by rw [getElem!_pos l k hk];exact List.getElem_mem _)
    simpa using this
  · intro h x hx
    obtain ⟨i,hi,rfl⟩:=List.getElem_of_mem hx
    have:=h i hi
    rw [getElem!_pos l i hi] at this;simp [this]
theorem foreign_f {c:Circle} {s:Share}:EY c s=false↔s.epoch=c.epoch∧s.threshold=c.threshold∧s.many=(c.guardians.length:Int):=by
  unfold EY;simp only [Bool.or_eq_false_iff,bne_eq_false_iff_eq];rw [and_assoc]
theorem VN:BR []=80:=by decide
theorem TJ (c:Circle):CB c []=80:=by rw [belong_1 (by rw [VN];decide),VN]
theorem On.belong {P:Nat→List UInt8} {c:Circle} {n:Nat} {x:List Share} (h:On P c.epoch c.threshold (c.guardians.length:Int) n x) (hn:Num c.epoch c.threshold (c.guardians.length:Int) n) (hx:0<x.length):CB c x=0:=
  belong_3 ((FC x).2 (h.vd hn hx)) (any_f.2 fun k hk=>foreign_f.2 ⟨h.ep k hk,h.th k hk,h.ma k hk⟩)
theorem sel255:∀ n,n≤8→NC 255 n=List.range n:=by
  intro n h
  have:∀ n:Fin 9,NC 255 n.1=List.range n.1:=by decide +kernel
  exact this ⟨n,by omega⟩
theorem range_getS (l:List Share):((List.range l.length).map fun p=>l[p]!)=l:=by
  apply ext_getS (by simp)
  intro i hi
  rw [GS _ _ _ (by simpa using hi)]
theorem some255 {l:List Share} (h:l.length≤8):CX l 255 l.length=l:=by
  unfold CX;rw [sel255 _ h];exact range_getS l
theorem Spl.len8 {secret:List UInt8} {ep t m:Int} {l:List Share} (h:Spl secret ep t m l):l.length≤8:=by
  have:=h.len;have:=h.num.m8;omega
theorem Spl.pos {secret:List UInt8} {ep t m:Int} {l:List Share} (h:Spl secret ep t m l):0<l.length:=by
  have:=h.len;have:=h.num.t1;have:=h.num.tm;omega
theorem Spl.all {secret:List UInt8} {ep t m:Int} {l:List Share} (h:Spl secret ep t m l):CS l=(secret,0):=by
  have:=h.join 255 (by rw [some255 h.len8,h.len];exact h.num.tm)
  rwa [some255 h.len8] at this
theorem Spl.bel {secret:List UInt8} {c:Circle} {l:List Share} (h:Spl secret c.epoch c.threshold (c.guardians.length:Int) l) (mask:UInt8) (hp:0<(CX l mask l.length).length):CB c (CX l mask l.length)=0:=by
  obtain ⟨P,h1,_⟩:=h.ex
  exact (h1.some mask).belong h.num hp
section
variable {c:Circle} {l:List Share} {secret coins:List UInt8} {others:List Int} {t no:Int}
theorem deal_ok (h:(CM c secret coins).2=0):AQ c=0∧CM c secret coins=BU secret c.epoch c.threshold (c.guardians.length:Int) coins:=by
  by_cases hc:AQ c=0
  · exact ⟨hc,deal_2 hc⟩
  · rw [deal_1 hc] at h;exact absurd h hc
theorem deal_spl (h:(CM c secret coins).2=0):Spl secret c.epoch c.threshold (c.guardians.length:Int) (CM c secret coins).1:=by
  have:=deal_ok h
  rw [this.2] at h ⊢
  exact VG h
theorem renew_ok (h:(AR c l coins).2.2=0):AQ c=0∧CB c l=0∧(CL l coins).2=0∧AR c l coins=(⟨c.epoch+1,c.threshold,c.wait,c.guardians,c.recs⟩,(CL l coins).1,0):=by
  by_cases hc:AQ c=0
  · by_cases hb:CB c l=0
    · by_cases hr:(CL l coins).2=0
      · exact ⟨hc,hb,hr,SE hc hb hr⟩
      · rw [RU hc hb hr] at h;exact absurd h hr
    · rw [PB hc hb] at h;exact absurd h hb
  · rw [RZ hc] at h;exact absurd h hc
theorem UB (h:(AO c l others t coins).2.2=0):AQ c=0∧CB c l=0∧(CS l).2=0∧(CM (LD c others t) (CS l).1 coins).2=0∧AO c l others t coins=(LD c others t,(CM (LD c others t) (CS l).1 coins).1,0):=by
  by_cases hc:AQ c=0
  · by_cases hb:CB c l=0
    · by_cases hj:(CS l).2=0
      · by_cases hd:(CM (LD c others t) (CS l).1 coins).2=0
        · exact ⟨hc,hb,hj,hd,IM hc hb hj hd⟩
        · rw [IN hc hb hj hd] at h;exact absurd h hd
      · rw [OC hc hb hj] at h;exact absurd h hj
    · rw [LK hc hb] at h;exact absurd h hb
  · rw [OE hc] at h;exact absurd h hc
theorem head_epoch {d:Circle} (h:AQ c=0) (h1:d.threshold=c.threshold) (h2:d.wait=c.wait) (h3:d.guardians=c.guardians) (h4:d.recs=c.recs) (h5:0≤d.epoch) (h6:d.epoch≤1048576):AQ d=0:=by
  have:=(FG c).1 h
  refine (FG d).2 ⟨?_,by rw [h4];exact this.2⟩
  have hh:=this.1
  unfold DF at hh ⊢
  rw [h1,h2,h3,h4]
  simp only [Bool.or_eq_false_iff,decide_eq_false_iff_not] at hh ⊢
  exact ⟨⟨⟨⟨⟨⟨⟨⟨by omega,by omega⟩,hh.1.1.1.1.1.1.2⟩,hh.1.1.1.1.1.2⟩,hh.1.1.1.1.2⟩,hh.1.1.1.2⟩,hh.1.1.2⟩,hh.1.2⟩,hh.2⟩
structure Held (secret:List UInt8) (c:Circle) (l:List Share):Prop where
  ok:AQ c=0
  spl:Spl secret c.epoch c.threshold (c.guardians.length:Int) l
theorem VE (h:(CM c secret coins).2=0):Held secret c (CM c secret coins).1:=⟨(deal_ok h).1,deal_spl h⟩
theorem refresh_ep (hl:Spl secret c.epoch c.threshold (c.guardians.length:Int) l) (h:(CL l coins).2=0):c.epoch<1048576:=by
  have:=hl.num.ep1
  by_cases e:c.epoch=1048576
  · exfalso
    obtain ⟨P,h1,_⟩:=hl.ex
    have hv:=h1.vd hl.num hl.pos
    rw [RK] at h
    unfold EB at h
    rw [if_neg (by rw [(FC l).2 hv];simp),if_neg (by rw [h1.ma 0 hl.pos,hl.len];simp),if_pos (by rw [h1.ep 0 hl.pos];exact e)] at h
    cases h
  · omega
theorem held_renew (hl:Held secret c l) (h:(AR c l coins).2.2=0):Held secret (AR c l coins).1 (AR c l coins).2.1:=by
  obtain ⟨h1,h2,h3,h4⟩:=renew_ok h
  have he:=refresh_ep hl.spl h3
  rw [h4]
  have hs:=spl_refresh hl.spl he h3
  exact ⟨head_epoch h1 rfl rfl rfl rfl (by have:=hs.num.ep0;exact this) (by show c.epoch+1≤_;omega),hs⟩
theorem held_replace (hl:Held secret c l) (h:(AO c l others t coins).2.2=0):Held secret (AO c l others t coins).1 (AO c l others t coins).2.1:=by
  obtain ⟨h1,h2,h3,h4,h5⟩:=UB h
  rw [h5]
  rw [hl.spl.all] at h4 ⊢
  exact VE h4
theorem held_few (hl:Held secret c l) (mask:UInt8) (hx:((CX l mask l.length).length:Int)<c.threshold) (h0:0≤no) (h1:no<(c.recs.length:Int)) (hs:c.recs[no.toNat]!.state=1):BO c no (CX l mask l.length)=([],80):=by
  by_cases hp:0<(CX l mask l.length).length
  · rw [rest_6 hl.ok h0 h1 (by rw [hs];decide) (by rw [hs];decide) (hl.spl.bel mask hp)];exact hl.spl.few mask hp hx
  · have e:CX l mask l.length=[]:=List.eq_nil_of_length_eq_zero (by omega)
    rw [e,rest_5 hl.ok h0 h1 (by rw [hs];decide) (by rw [hs];decide) (by rw [TJ];decide),TJ]
theorem held_rest (hl:Held secret c l) (mask:UInt8) (hx:c.threshold≤((CX l mask l.length).length:Int)) (h0:0≤no) (h1:no<(c.recs.length:Int)) (hs:c.recs[no.toNat]!.state=1):BO c no (CX l mask l.length)=(secret,0):=by
  have:=hl.spl.num.t1
  rw [rest_6 hl.ok h0 h1 (by rw [hs];decide) (by rw [hs];decide) (hl.spl.bel mask (by omega))];exact hl.spl.join mask hx
end
open Go.Fw
def GH (c:Circle):Bool:=decide (0<(c.recs.length:Int)) && (c.recs[c.recs.length - 1]!.state == 0)
def AN (c:Circle):Int:=if 0<(c.recs.length:Int) then c.recs[c.recs.length - 1]!.asked else 0
abbrev askD (c:Circle):Circle × Int × Int:=AU c (AN c)
def AI (c:Circle):Nat→Circle × Int
  | 0=>((askD c).1,(askD c).2.2)
  | k+1=>if (AI c k).2=0 then BN (AI c k).1 (askD c).2.1 (AZ (AI c k).1 c.guardians[k]!) else AI c k
def finD (c:Circle):Circle × Int:=
  if (AI c c.guardians.length).2=0 then BN (AI c c.guardians.length).1 (askD c).2.1 (AW (AI c c.guardians.length).1 (min 1023 (AN c+c.wait))) else AI c c.guardians.length
def CJ (c:Circle):Circle × Int × Bool:=if GH c then (c,0,false) else ((finD c).1,(askD c).2.1,(finD c).2 == 0)
theorem done_1 {c:Circle} (h:GH c=true):CJ c=(c,0,false):=if_pos h
theorem done_2 {c:Circle} (h:GH c=false):CJ c=((finD c).1,(askD c).2.1,(finD c).2 == 0):=if_neg (by rw [h];simp)
theorem PQ {c:Circle} {k:Nat} (h:(AI c k).2=0):AI c (k+1)=BN (AI c k).1 (askD c).2.1 (AZ (AI c k).1 c.guardians[k]!):=by rw [AI,if_pos h]
theorem PN {c:Circle} {k:Nat} (h:(AI c k).2≠0):AI c (k+1)=AI c k:=by rw [AI,if_neg h]
theorem fin_y {c:Circle} (h:(AI c c.guardians.length).2=0):finD c=BN (AI c c.guardians.length).1 (askD c).2.1 (AW (AI c c.guardians.length).1 (min 1023 (AN c+c.wait))):=if_pos h
theorem fin_n {c:Circle} (h:(AI c c.guardians.length).2≠0):finD c=AI c c.guardians.length:=if_neg h
structure Grown (c x:Circle) (no:Int):Prop where
  ok:AQ x=0
  ep:x.epoch=c.epoch
  th:x.threshold=c.threshold
  wa:x.wait=c.wait
  gu:x.guardians=c.guardians
  n0:0≤no
  n1:no<(x.recs.length:Int)
theorem ask_grown {c:Circle} {day:Int} (h:(AU c day).2.2=0):AQ c=0∧CQ day 0=true∧Grown c (AU c day).1 (AU c day).2.1∧(AU c day).1 = ⟨c.epoch,c.threshold,c.wait,c.guardians,c.recs++[⟨(c.recs.length:Int),day,0,[],[]⟩]⟩∧(AU c day).2.1=(c.recs.length:Int):=by
  by_cases hc:AQ c=0
  · cases hd:CQ day (II c).asked with
    | false=>rw [KA hc hd] at h;cases h
    | true=>
      by_cases hs:(II c).state=0
      · rw [NQ hc hd hs] at h;cases h
      · by_cases hn:(c.recs.length:Int)=1024
        · rw [IR hc hd hs hn] at h;cases h
        · rw [HA hc hd hs hn]
          have h0:=(FG c).1 hc
          have hlast:0≤(II c).asked:=by
            unfold II;split
            · rename_i hpos
              exact (UF hc (no:=((c.recs.length - 1:Nat):Int)) (by omega) (by omega)).1
            · simp
          have hd':=HQ.1 hd
          refine ⟨hc,HQ.2 ⟨by omega,hd'.2⟩,⟨(FG _).2 ⟨?_,fun k hk=>?_⟩,rfl,rfl,rfl,rfl,by simp,by simp;omega⟩,rfl,rfl⟩
          · have hh:=h0.1
            have hr:=SB hc
            unfold DF at hh ⊢
            simp only [Bool.or_eq_false_iff,decide_eq_false_iff_not] at hh ⊢
            exact ⟨hh.1,by simp;omega⟩
          · simp only [List.length_append,List.length_cons,List.length_nil] at hk ⊢
            rw [KK]
            by_cases e:k=c.recs.length
            · subst e
              have hg:(c.recs++[(⟨(c.recs.length:Int),day,0,[],[]⟩:Recovery)])[c.recs.length]! = ⟨(c.recs.length:Int),day,0,[],[]⟩:=by simp
              have ha:EK (c.recs++[(⟨(c.recs.length:Int),day,0,[],[]⟩:Recovery)]) c.recs.length=(II c).asked:=by
                unfold EK II
                by_cases z:c.recs.length=0
                · rw [if_pos z,if_neg (by omega)]
                · rw [if_neg z,if_pos (by omega),List.getElem!_eq_getElem?_getD,List.getElem?_append_left (by omega),← List.getElem!_eq_getElem?_getD]
              rw [hg,ha]
              exact ⟨rfl,hd,by simp [EE,HL,FF], .inr (by simp)⟩
            · have hk:k<c.recs.length:=by omega
              have hg:(c.recs++[(⟨(c.recs.length:Int),day,0,[],[]⟩:Recovery)])[k]! = c.recs[k]!:=by rw [List.getElem!_eq_getElem?_getD,List.getElem?_append_left hk,← List.getElem!_eq_getElem?_getD]
              have ha:EK (c.recs++[(⟨(c.recs.length:Int),day,0,[],[]⟩:Recovery)]) k=EK c.recs k:=by
                unfold EK
                by_cases z:k=0
                · rw [if_pos z,if_pos z]
                · rw [if_neg z,if_neg z,List.getElem!_eq_getElem?_getD,List.getElem?_append_left (by omega),← List.getElem!_eq_getElem?_getD]
              have hb:=KK.1 (h0.2 k hk)
              rw [hg,ha]
              refine ⟨hb.1,hb.2.1,hb.2.2.1,?_⟩
              by_cases z:k+1=c.recs.length
              · left
                unfold II at hs
                rw [if_pos (by omega)] at hs
                rwa [show k=c.recs.length - 1 by omega]
              · rcases hb.2.2.2 with q|q
                · exact .inl q
                · omega
  · rw [PD hc] at h;exact absurd h hc
theorem act_get {c:Circle} {no:Int} {f:Recovery→Except Int Recovery} (hf:∀ r e,f r = .error e→e≠0) (h:(BN c no f).2=0):AQ c=0∧0≤no∧no<(c.recs.length:Int)∧∃ r,f c.recs[no.toNat]! = .ok r∧BN c no f=(TO c no.toNat r,0):=by
  by_cases hc:AQ c=0
  · by_cases hn:no<0∨(c.recs.length:Int)≤no
    · unfold BN at h;rw [if_neg (by simpa using hc),if_pos hn] at h;cases h
    · refine ⟨hc,by omega,by omega,?_⟩
      cases hr:f c.recs[no.toNat]! with
      | error x=>
        have e:BN c no f=(EA,x):=by unfold BN;rw [if_neg (by simpa using hc),if_neg hn];simp only [hr]
        rw [e] at h;exact absurd h (hf _ _ hr)
      | ok r=>
        have e:BN c no f=(TO c no.toNat r,0):=by unfold BN;rw [if_neg (by simpa using hc),if_neg hn];simp only [hr];rfl
        exact ⟨r,rfl,e⟩
  · unfold BN at h;rw [if_pos (by simpa using hc)] at h;exact absurd h hc
theorem QM {c x:Circle} {no:Int} {r:Recovery} (h:Grown c x no) (hno:r.no=x.recs[no.toNat]!.no) (ha:r.asked=x.recs[no.toNat]!.asked) (hr:EE r=true) (hs:r.state≠0∨x.recs[no.toNat]!.state=0):Grown c (TO x no.toNat r) no:=
  ⟨check_set h.ok (by have:=h.n0;have:=h.n1;omega) hno ha hr hs,h.ep,h.th,h.wa,h.gu,h.n0,by simp [TO];exact h.n1⟩
theorem UQ {c x:Circle} {no g:Int} (h:Grown c x no) (h2:(BN x no (AZ x g)).2=0):Grown c (BN x no (AZ x g)).1 no:=by
  obtain ⟨_,h0,h1,r,hr,e⟩:=act_get (fun r e he=>by
    unfold AZ at he
    split at he
    · cases he;decide
    · split at he
      · cases he;decide
      · split at he
        · cases he;decide
        · split at he <;> cases he) h2
  rw [e]
  have hrec:=KE h.ok (k:=no.toNat) (by omega)
  unfold AZ at hr
  split at hr
  · cases hr
  · split at hr
    · cases hr
    · split at hr
      · cases hr
      · rename_i hs2 hs1 hg
        have hs:x.recs[no.toNat]!.state=0:=by
          have:=KZ h.ok h0 h1
          simp only [beq_iff_eq] at hs2 hs1
          omega
        have hg:x.guardians.contains g=true:=by simpa using hg
        split at hr
        · cases hr;exact QM h rfl rfl hrec (.inr hs)
        · rename_i hb
          cases hr
          refine QM h rfl rfl ?_ (.inr hs)
          have hp:=ER hrec
          have hinc:=inc_pw.1 hp.2.2
          have hgr:=guard_range h.ok hg
          have hnot:g∉x.recs[no.toNat]!.approved:=fun hm=>hb ((bsF_iff hinc.1).2 hm)
          have hi:HL (OJ x.recs[no.toNat]!.approved g)=true:=inc_pw.2 ⟨putIn_pw hinc.1 hnot,fun y hy=>by
            rcases QT.1 hy with e|hy
            · rw [e];exact hgr
            · exact hinc.2 y hy⟩
          unfold EE at hrec ⊢
          simp only [hs,hi] at hrec ⊢
          simp only [hp.2.2] at hrec
          exact hrec
theorem finish_grown {c x:Circle} {no day:Int} (h:Grown c x no) (h2:(BN x no (AW x day)).2=0):Grown c (BN x no (AW x day)).1 no∧(BN x no (AW x day)).1.recs[no.toNat]!.state=1:=by
  obtain ⟨_,h0,h1,r,hr,e⟩:=act_get (fun r e he=>by
    unfold AW at he
    repeat' split at he
    all_goals cases he
    all_goals decide) h2
  rw [e]
  have hrec:=KE h.ok (k:=no.toNat) (by omega)
  unfold AW at hr
  repeat' split at hr
  all_goals cases hr
  rename_i hs2 hs1 _ _ _
  have hs:x.recs[no.toNat]!.state=0:=by
    have:=KZ h.ok h0 h1
    simp only [beq_iff_eq] at hs2 hs1
    omega
  refine ⟨QM h rfl rfl ?_ (.inl (by show (1:Int)≠0;decide)),?_⟩
  · have hp:=ER hrec
    unfold EE at hrec ⊢
    simp only [hs,hp.2.2] at hrec ⊢
    exact hrec
  · show (x.recs.set no.toNat _)[no.toNat]!.state=1
    rw [TM (by omega),if_pos rfl]
theorem QV {c:Circle}:∀ k,(AI c k).2=0→AQ c=0∧CQ (AN c) 0=true∧Grown c (AI c k).1 (askD c).2.1
  | 0,h=>by have:=ask_grown h;exact ⟨this.1,this.2.1,this.2.2.1⟩
  | k+1,h=>by
    by_cases hk:(AI c k).2=0
    · have ih:=QV k hk
      rw [PQ hk] at h ⊢
      exact ⟨ih.1,ih.2.1,UQ ih.2.2 h⟩
    · rw [PN hk] at h;exact absurd h hk
theorem UD {c:Circle} (h:(CJ c).2.2=true):AQ c=0∧Grown c (CJ c).1 (CJ c).2.1∧(CJ c).1.recs[(CJ c).2.1.toNat]!.state=1:=by
  cases hl:GH c with
  | true=>rw [done_1 hl] at h;cases h
  | false=>
    rw [done_2 hl] at h ⊢
    have hf:(finD c).2=0:=by simpa using h
    by_cases ha:(AI c c.guardians.length).2=0
    · have ih:=QV _ ha
      rw [fin_y ha] at hf ⊢
      exact ⟨ih.1,finish_grown ih.2.2 hf⟩
    · rw [fin_n ha] at hf;exact absurd hf ha
open Go.Fw
theorem idxS_full {T:List Share} {m:Int} (hT:Full m T) {i:Nat} (hi:i<T.length):EU T (fun o=>o.index == (i:Int)+1)=(i:Int):=by
  unfold EU
  rcases QY (fun k=>T[k]!.index == (i:Int)+1) (T.length - 0) 0 with ⟨h1,h2⟩|⟨k,h1,h2,h3,h4,_⟩
  · have:=h2 i (by omega) (by omega)
    rw [hT.2 i hi] at this;simp at this
  · rw [h4]
    rw [hT.2 k (by omega)] at h3
    simp only [beq_iff_eq] at h3
    omega
section
variable {s other:List UInt8} {ep ep' t m:Int} {y T:List Share}
end
open Go.Fw
theorem Good.count {l:List Share} (h:Good l):∀ k:Nat,k<l.length→(k:Int)+1≤l[k]!.index
  | 0,hk=>by have:=h.ix 0 hk;omega
  | k+1,hk=>by have:=h.count k (by omega);have:=h.inc k hk;omega
theorem Good.len8 {l:List Share} (h:Good l):l.length≤8:=by
  have h1:=h.pos
  have h2:=h.count (l.length - 1) (by omega)
  have h3:=h.ix (l.length - 1) (by omega)
  have:=h.m8
  omega
theorem ON {l:List Share} {secret:List UInt8} (h:(BH l secret).2=0):Vd l∧(l.length:Int)<l[0]!.threshold∧(secret.length:Int)=(l[0]!.data.length:Int)∧((BH l secret).1.length:Int)=(secret.length:Int)*(l[0]!.threshold - 1):=by
  have hc:BR l=0:=by
    by_cases c:BR l=0
    · exact c
    · rw [QF c rfl] at h;exact h
  have hv:=(FC l).1 hc
  have h2:(l.length:Int)<l[0]!.threshold:=by
    by_cases c:(l.length:Int)<l[0]!.threshold
    · exact c
    · rw [LE hc (by omega) rfl] at h;cases h
  have h3:(secret.length:Int)=(l[0]!.data.length:Int):=by
    by_cases c:(secret.length:Int)=(l[0]!.data.length:Int)
    · exact c
    · rw [PH hc h2 c rfl] at h;cases h
  refine ⟨hv,h2,h3,?_⟩
  rw [RH hc h2 h3 rfl]
  have:=hv.t1;have:=hv.tm;have:=hv.m8
  show ((OF l secret (l[0]!.threshold.toNat - 1 - l.length) secret.length).length:Int)=_
  rw [RI hv.toGood (by omega),show l.length+(l[0]!.threshold.toNat - 1 - l.length)=l[0]!.threshold.toNat - 1 by omega]
  rw [Int.natCast_mul];congr 1;omega
theorem MY {l:List Share} {secret:List UInt8} (h:(BH l secret).2=0):(BH l secret).1.length≤1000∧secret.length≤64:=by
  have h1:=ON h
  have h2:=h1.2.2.2
  have h3:=h1.2.2.1
  have:=h1.1.d64;have:=h1.1.t1;have:=h1.1.tm;have:=h1.1.m8
  have hs:secret.length≤64:=by omega
  refine ⟨?_,hs⟩
  have h4:(secret.length:Int)*(l[0]!.threshold - 1)≤64*7:=Int.mul_le_mul (by omega) (by omega) (by omega) (by omega)
  omega
theorem VP {a:List Share} {secret:List UInt8} (h:(BH a secret).2=0):(BU secret a[0]!.epoch a[0]!.threshold a[0]!.many (BH a secret).1).2=0:=by
  obtain ⟨hv,_,h3,h4⟩:=ON h
  have:=hv.t1;have:=hv.tm;have:=hv.m8;have:=hv.d64;have:=hv.ep0;have:=hv.ep1
  rw [MI]
  exact (LY _ _ _ _ _).2 ⟨by omega,by omega,by omega,by omega,by omega,by omega,h4⟩
theorem mix_spl {a:List Share} {secret:List UInt8} (h:(BH a secret).2=0):Spl secret a[0]!.epoch a[0]!.threshold a[0]!.many (CO a secret):=VG (VP h)
theorem OT (f g:Share):MB f g=false↔f.threshold=g.threshold∧f.many=g.many∧f.data.length=g.data.length∧g.epoch=f.epoch+1:=by
  unfold MB;simp only [dbs];omega
theorem GR {f g:Share} (h:f.threshold≠g.threshold∨f.many≠g.many∨(f.data.length:Int)≠(g.data.length:Int)∨g.epoch≠f.epoch+1):MB f g=true:=by
  rw [← Bool.not_eq_false];intro e
  have:=(OT f g).1 e
  omega
def KN (x y:List UInt8) (k:Nat):List UInt8:=tab x.length fun i=>if i<k then x[i]! ^^^ y[i]! else x[i]!
theorem xorP_zero (x y:List UInt8):KN x y 0=x:=by
  unfold KN
  refine SA (by rw [OB]) fun i=>?_
  rw [KT]
  by_cases c:i<x.length
  · rw [if_pos c,if_neg (by omega)]
  · rw [if_neg c,DW (by omega)]
theorem GG (x y:List UInt8) (k:Nat):(KN x y k).length=x.length:=OB _ _
theorem xorP_at {x y:List UInt8} {k:Nat} (h:k<x.length):(KN x y k)[k]! = x[k]!:=by unfold KN;rw [KT,if_pos h,if_neg (by omega)]
theorem xorP_set {x y:List UInt8} {k:Nat} (h:k<x.length):(KN x y k).set k ((KN x y k)[k]! ^^^ y[k]!)=KN x y (k+1):=by
  refine SA (by rw [List.length_set,GG,GG]) fun i=>?_
  rw [xorP_at h]
  by_cases e:i=k
  · subst e
    rw [getElem!_pos _ i (by rw [List.length_set,GG];exact h),List.getElem_set_self]
    unfold KN;rw [KT,if_pos h,if_pos (by omega)]
  · by_cases c:i<x.length
    · rw [getElem!_pos _ i (by rw [List.length_set,GG];exact c),List.getElem_set_ne (by omega),← getElem!_pos _ i (by rw [GG];exact c)]
      unfold KN;rw [KT,KT,if_pos c,if_pos c]
      by_cases d:i<k
      · rw [if_pos d,if_pos (by omega)]
      · rw [if_neg d,if_neg (by omega)]
    · rw [DW (by rw [List.length_set,GG];omega),DW (by rw [GG];omega)]
theorem xorP_all (x y:List UInt8):KN x y x.length=xorM x y:=by
  unfold KN xorM
  refine SA (by rw [OB,OB]) fun i=>?_
  rw [KT,KT]
  by_cases c:i<x.length
  · rw [if_pos c,if_pos c,if_pos c]
  · rw [if_neg c,if_neg c]
structure Mx (a b:List Share) (secret:List UInt8):Prop where
  va:Vd a
  vb:Vd b
  th:a[0]!.threshold=b[0]!.threshold
  ma:a[0]!.many=b[0]!.many
  da:a[0]!.data.length=b[0]!.data.length
  ep:b[0]!.epoch=a[0]!.epoch+1
  len:secret.length=a[0]!.data.length
  sp:Spl secret a[0]!.epoch a[0]!.threshold a[0]!.many (CO a secret)
theorem mx_of {a b:List Share} {secret:List UInt8} (hb:BR b=0) (h:(BH a secret).2=0) (hm:MB a[0]! b[0]! = false):Mx a b secret:=
  have h1:=ON h
  have h2:=(OT _ _).1 hm
  ⟨h1.1,(FC b).1 hb,h2.1,h2.2.1,h2.2.2.1,h2.2.2.2,by omega,mix_spl h⟩
section
variable {a b:List Share} {secret:List UInt8} (h:Mx a b secret) {k:Nat} (hk:k<b.length)
include h hk
theorem Mx.idx:EU (CO a secret) (fun o=>o.index == b[k]!.index)=b[k]!.index - 1∧0≤b[k]!.index - 1∧b[k]!.index - 1<((CO a secret).length:Int):=by
  have h1:=h.vb.ix k hk
  have h2:=h.sp.full.1
  have h3:=h.ma
  have hj:(b[k]!.index - 1).toNat<(CO a secret).length:=by rw [h2];omega
  have:=idxS_full h.sp.full hj
  rw [show (((b[k]!.index - 1).toNat:Nat):Int)+1=b[k]!.index by omega] at this
  rw [this];omega
theorem Mx.at:atS (CO a secret) b[k]!.index=(CO a secret)[(b[k]!.index - 1).toNat]!:=by unfold atS;rw [(h.idx hk).1]
theorem Mx.dl:(atS (CO a secret) b[k]!.index).data.length=secret.length:=by
  have h1:=h.idx hk
  rw [h.at hk];exact h.sp.da (by omega)
theorem Mx.idx':0≤EU (CO a secret) (fun o=>o.index == b[k]!.index)∧EU (CO a secret) (fun o=>o.index == b[k]!.index)<((CO a secret).length:Int):=by
  have h1:=h.idx hk
  exact ⟨by rw [h1.1];exact h1.2.1,by rw [h1.1];exact h1.2.2⟩
theorem Mx.dl':((CO a secret)[(EU (CO a secret) (fun o=>o.index == b[k]!.index)).toNat]!).data.length=secret.length:=h.dl hk
theorem Mx.bl:b[k]!.data.length=secret.length:=by rw [h.vb.da k hk,← h.da,h.len]
end
theorem mixD_succ {b s:List Share} {k:Nat} (hk:k<b.length):FD b s (k+1)=FD b s k++[mixS s b[k]!]:=by
  unfold FD;rw [List.take_add_one,List.map_append,List.getElem?_eq_getElem hk,getElem!_pos b k hk];rfl
theorem mixD_len (b s:List Share) (k:Nat):(FD b s k).length≤k:=by unfold FD;rw [List.length_map,List.length_take];omega
section
variable {a b:List Share} {secret:List UInt8}
theorem mixed_1 (h:BR a≠0):BZ a b secret=([],BR a):=if_pos (by simpa using h)
theorem mixed_2 (h:BR a=0) (h2:BR b≠0):BZ a b secret=([],BR b):=by unfold BZ;rw [if_neg (by simpa using h),if_pos (by simpa using h2)]
theorem KR (h:BR a=0) (h2:BR b=0) (h3:MB a[0]! b[0]! = true):BZ a b secret=([],460):=by unfold BZ;rw [if_neg (by simpa using h),if_neg (by simpa using h2),if_pos h3]
section
variable (h:BR a=0) (h2:BR b=0) (h3:MB a[0]! b[0]! = false)
include h h2 h3
theorem mixed_4 (h4:(BH a secret).2≠0):BZ a b secret=([],(BH a secret).2):=by unfold BZ;rw [if_neg (by simpa using h),if_neg (by simpa using h2),if_neg (by rw [h3];simp),if_pos (by simpa using h4)]
theorem mixed_5 (h4:(BH a secret).2=0) (h5:(mixQ a b secret).2≠0):BZ a b secret=([],(mixQ a b secret).2):=by unfold BZ;rw [if_neg (by simpa using h),if_neg (by simpa using h2),if_neg (by rw [h3];simp),if_neg (by simpa using h4),if_pos (by simpa using h5)]
theorem mixed_6 (h4:(BH a secret).2=0) (h5:(mixQ a b secret).2=0):BZ a b secret=((BH a secret).1++(mixQ a b secret).1,0):=by unfold BZ;rw [if_neg (by simpa using h),if_neg (by simpa using h2),if_neg (by rw [h3];simp),if_neg (by simpa using h4),if_neg (by simpa using h5)]
end
end
theorem last_y {c:Circle} (h:0<(c.recs.length:Int)) (h2:c.recs[c.recs.length - 1]!.state=0):GH c=true:=by unfold GH;rw [h2,decide_eq_true h];rfl
theorem last_n {c:Circle} (h:¬ 0<(c.recs.length:Int)∨c.recs[c.recs.length - 1]!.state≠0):GH c=false:=by
  rw [← Bool.not_eq_true];intro e;unfold GH at e;simp only [dbs] at e;omega
theorem min_if (x y:Int):(if y<x then y else x)=min x y:=by split <;> omega
theorem RB {c:Circle} (hl:GH c=false) (h:(AI c c.guardians.length).2=0):CJ c=((BN (AI c c.guardians.length).1 (AU c (AN c)).2.1 (AW (AI c c.guardians.length).1 (if AN c+c.wait<1023 then AN c+c.wait else 1023))).1,(AU c (AN c)).2.1,(BN (AI c c.guardians.length).1 (AU c (AN c)).2.1 (AW (AI c c.guardians.length).1 (if AN c+c.wait<1023 then AN c+c.wait else 1023))).2 == 0):=by rw [done_2 hl,fin_y h,min_if]
theorem QZ {c:Circle} (hl:GH c=false) (h:(AI c c.guardians.length).2≠0):CJ c=((AI c c.guardians.length).1,(AU c (AN c)).2.1,(AI c c.guardians.length).2 == 0):=by rw [done_2 hl,fin_n h]
theorem circ_wait {c:Circle} (h:AQ c=0):0≤c.wait∧c.wait<1024:=by
  have hh:=((FG c).1 h).1
  unfold DF at hh
  simp only [Bool.or_eq_false_iff,Bool.not_eq_false'] at hh
  exact HQ.1 hh.1.2
theorem app_w {c:Circle} (h:(AI c c.guardians.length).2=0):-1000000≤AN c+c.wait∧AN c+c.wait≤1000000:=by
  have h1:=QV _ h
  have h2:=HQ.1 h1.2.1
  have h3:=circ_wait h1.1
  omega
section
variable {a b:List Share} {secret:List UInt8}
section
variable (h:VT a=0) (h2:VT b=0) (h3:MB a[0]! b[0]! = false)
include h h2 h3
end
end
end Go.Proofs.Ytjgfokolnkhafaa
namespace Go.Fw
open Go.RowKit
theorem EH.base {α:Type} {E:Enc α} {e n m:Nat} {O:List Nat} {w:World} {v:Value} {l:List α} (h:EH E e n O w v l) (hm:m≤n):EH E e m O w v l:=by
  obtain ⟨css,h1,h2,h3⟩:=h
  refine ⟨css,h1,⟨h2.1,?_⟩,h3⟩
  rcases h2.2 with h|⟨g,cap,cur,e1,hg,r⟩
  · exact .inl h
  · exact .inr ⟨g,cap,cur,e1,Nat.le_trans hm hg,r⟩
theorem EH.u8O {e n:Nat} {O O':List Nat} {w:World} {v:Value} {l:List UInt8} (h:EH Enc.u8 e n O w v l):EH Enc.u8 e n O' w v l:=by
  obtain ⟨css,h1,h2,h3⟩:=h
  exact ⟨css,h1,h2,fun i cs x a b=>h3 i cs x a b⟩
theorem own_take {α:Type} {E:Enc α} {w0 w1 w:World} {O0 B:List Nat} {e:Nat} {v:Value} {l:List α} (s:St w0 O0 w1 B) (k:Keep [] w1 w) (hn:∀ b,v.ownBlock=some b→w1.heap.size≤b) (h:EH E e w1.heap.size (v.ownBlock.toList++(B++O0)) w v l) :
    ∃ B',(∀ b,v.ownBlock=some b→b∈B')∧(∀ b∈B,b∈B')∧St w0 O0 w B'∧Mv B w1 B' w∧EH E e w0.heap.size (B'++O0) w v l:=by
  refine ⟨v.ownBlock.toList++B,fun b hb=>List.mem_append_left _ (by simp [hb]),fun b hb=>List.mem_append_right _ hb,⟨(s.call k).keep,fun b hb=>?_,s.old⟩,⟨k.nil,fun b hb=>?_⟩,by rw [List.append_assoc];exact h.base s.keep.size⟩
  · rcases List.mem_append.1 hb with hb|hb
    · have h1:=h.lt b (by simpa using hb)
      exact ⟨Nat.le_trans s.keep.size h1.1,h1.2⟩
    · exact (s.call k).new b hb
  · rcases List.mem_append.1 hb with hb|hb
    · exact .inr (hn b (by simpa using hb))
    · exact .inl hb
theorem own_lent {w0 w1 w:World} {O0 B O':List Nat} {e:Nat} {v:Value} {l:List UInt8} (s:St w0 O0 w1 B) (hn:∀ b,v.ownBlock=some b→w1.heap.size≤b) (h:EH Enc.u8 e w1.heap.size O' w v l) :
    EH Enc.u8 e w0.heap.size (B++O0) w v l∧∀ b,v.ownBlock=some b→b∉B++O0:=
  ⟨(h.base s.keep.size).u8O,fun b hb hm=>by have:=hn b hb;have:=s.lt b hm;omega⟩
theorem own_back {w0 w:World} {O0 B:List Nat} {e:Nat} {v:Value} {l:List UInt8} (s:St w0 O0 w B) (h:EH Enc.u8 e w0.heap.size (B++O0) w v l) :
    ∃ B',(∀ b,v.ownBlock=some b→b∈B')∧(∀ b∈B,b∈B')∧St w0 O0 w B'∧EH Enc.u8 e w0.heap.size (B'++O0) w v l:=by
  refine ⟨v.ownBlock.toList++B,fun b hb=>List.mem_append_left _ (by simp [hb]),fun b hb=>List.mem_append_right _ hb,⟨s.keep,fun b hb=>?_,s.old⟩,h.u8O⟩
  rcases List.mem_append.1 hb with hb|hb
  · exact h.lt b (by simpa using hb)
  · exact s.new b hb
theorem flat_ones (m:List UInt8):(m.map fun y=>[vB y]).flatten=m.map vB:=by
  induction m with
  | nil=>rfl
  | cons a r ih=>simp [ih]
theorem BD.n8 {w:World} {O:List Nat} {A:Addr} {c:Nat} {m:List UInt8} (h:BD Enc.u8 w O (.slice (some A) m.length c) m):RdN Enc.u8 w O w (.slice (some A) m.length c) m:=by
  obtain ⟨A',c',h1,h2,h3,h4⟩:=h
  cases h1
  refine ⟨A,c,rfl,h2,h3,m.map fun y=>[vB y],by simp,fun j cs y hj hy=>?_,fun j q hq=>?_⟩
  · rw [List.getElem?_map,hy] at hj;cases hj;rfl
  · rw [flat_ones,List.getElem?_map] at hq
    cases hy:m[j]? with
    | none=>rw [hy] at hq;cases hq
    | some y=>
      rw [hy] at hq;cases hq
      obtain ⟨ad,cs,e1,hc,hr⟩:=h4 j y hy
      cases e1
      have hr:cs=[vB y]:=hr
      subst hr
      have:=hc.2.2 0 (vB y) rfl
      rw [add_add] at this
      rw [show j=j*Enc.u8.size+0 from by show j=j*1+0;omega]
      exact this
section
variable {P:Program} {ty:TypeId} {F:Fr} {w w0:World} {O0 B:List Nat} {K:Value→World→Prop} {Z:List PanicEntry→World→Prop} {x y:Operand}
theorem o_append8 {t e:Nat} {z:Value} {bytes:Nat} {v u:Value} {l m:List UInt8} {O':List Nat} (ht:P.underlying t=some (.slice e)) (hi:(P.info? e).map (fun i=>(i.zero,i.size,i.bytes))=some (some z,Enc.u8.size,bytes)) (hzs:z.cells.size=Enc.u8.size) (hpos:0<Enc.u8.size)
    (hx:CT F x=v) (hy:CT F y=u) (ho:EH Enc.u8 e w0.heap.size (B++O0) w v l) (hu:BD Enc.u8 w O' u m) (hv:∀ b,v.ownBlock=some b→b∈B) (hlen:(l.length+m.length)*bytes≤140737488355328) (hlm:l.length+m.length≤maxLen) (s:St w0 O0 w B)
    (h:∀ v' w' B',(∀ b,v'.ownBlock=some b→b∈B')→(v'.ownBlock=v.ownBlock∨v'.ownBlock=some w.heap.size)→(∀ b∈B,b∈B')→St w0 O0 w' B'→Mv B w B' w'→Keep v.ownBlock.toList w w'→EH Enc.u8 e w0.heap.size (B'++O0) w' v' (l++m)→K v' w') :
    DL P (.call { callee:=.builtin .append,args:=#[x,y],argTypes:=#[t,t] }) ty F w K Z:=by
  have hu0:=hu
  obtain ⟨A,c,e1,h2,h3,h4⟩:=hu
  cases A with
  | none=>
    have hm:m=[]:=by
      cases m with
      | nil=>rfl
      | cons a r=>obtain ⟨ad,_,e2,_⟩:=h4 0 a rfl;cases e2
    subst hm
    exact DJ (O':=B++O0) ht hi hzs hpos hx hy ho ⟨none,c,e1,h2,h3,fun i y hi=>by simp at hi⟩ (fun b hb=>.inl hb) hv hlen hlm s h
  | some A=>
    subst e1
    exact o_appendN (uw:=w) (O':=O') ht hi hzs hpos hx hy ho hu0.n8 (fun cs y h=>h) hv hlen hlm s h
end
open Go.RowKit
section
variable {P:Program} {n:Nat} {Q:Exit→Fr→World→Prop} {ro:Option Nat}
theorem wpOpIn_F {ops:List Oper} {i:Nat} {o:Oper} {F1:Fr} {w1:World} {K:Fr→World→Prop} {K':Act→World→Prop} (hok:ops.all (OL n ops)=true) (ho:ops[i]? = some o) (hK:∀ F w,K F w→K' (mk n F) w)
    (h1:Region.wanted o (DR ops F1)=true→DL P o.op o.type F1 w1 (fun v w2=>K (IF F1 o.dst v) w2) (fun c w2=>Q (.panic c) F1 w2)∨(true=true∧RoundW P o.op o.type F1 w1 (fun v w2=>K (IF F1 o.dst v) w2) (fun c w2=>Q (.panic c) F1 w2))) (h2:Region.wanted o (DR ops F1)=false→K (IF F1 o.dst undef) w1) :
    wpOpIn (fen ro) 0 P ops.toArray (JS n Q) i K' (mk n F1) w1:=by
  have hoo:OL n ops o=true:=List.all_eq_true.1 hok o (List.mem_of_getElem? ho)
  unfold wpOpIn
  simp only [List.getElem?_toArray,ho]
  rw [RC hoo]
  split
  · rename_i hw
    refine ⟨fun _ _=>trivial,?_⟩
    rw [Oper.semAt_eq _ _ _ (UY hoo),QQ o hoo,QS]
    rcases h1 hw with h|⟨_,h⟩
    · exact QA (fun v w' hk=>by rw [JF _ _ _ _ (IS hoo)];exact hK _ _ hk) (fun c w' hz=>⟨F1,rfl,hz⟩) h
    · exact PJ (fun v w' hk=>by rw [JF _ _ _ _ (IS hoo)];exact hK _ _ hk) (fun c w' hz=>⟨F1,rfl,hz⟩) h
  · rename_i hw
    rw [JF _ _ _ _ (IS hoo)]
    exact ⟨fun _ _=>trivial,hK _ _ (h2 (by simpa using hw))⟩
theorem tail_runY {ops:List Oper} {m:Nat} (hd:DOk ops m) (hok:ops.all (OL n ops)=true):∀ (fuel k:Nat) (listed:Array Bool) (F1:Fr) (w1:World),listed.size=ops.length→m≤k→ops.length≤k+fuel→k≤ops.length→(∀ j,j<ops.length→(listed[j]? = some true↔j<k))→
    WL true P ops Q (ops.drop k) F1 w1→wpAnyIn (fen ro) 0 P .any ops.toArray (JS n Q) fuel listed (mk n F1) w1:=by
  have fin:∀ (k:Nat) (listed:Array Bool) (F1:Fr) (w1:World),listed.size=ops.length→k≤ops.length→(∀ j,j<ops.length→(listed[j]? = some true↔j<k))→WL true P ops Q (ops.drop k) F1 w1→Region.ready .any ops.toArray listed=[]→JS n Q .normal (mk n F1) w1:=by
    intro k listed F1 w1 hsz hkn hl h hr
    by_cases hkl:k<ops.length
    · have:=PC hd hsz hkl (fun e=>by have:=(hl k hkl).1 e;omega) (fun j hj=>(hl j (by omega)).2 hj)
      rw [hr] at this;cases this
    · rw [List.drop_eq_nil_of_le (by omega)] at h
      exact ⟨F1,rfl,h⟩
  intro fuel
  induction fuel with
  | zero=>
    intro k listed F1 w1 hsz hmk hfu hkn hl h
    have hr:Region.ready .any ops.toArray listed=[]:=by
      unfold Region.ready
      rw [List.filter_eq_nil_iff]
      intro j hj
      have hjl:j<ops.length:=by simpa using hj
      have h1:=(hl j hjl).2 (by omega)
      have:j<listed.size:=by omega
      rw [Array.getElem?_eq_getElem this] at h1
      simp only [Option.some.injEq] at h1
      simp [this,h1]
    exact ⟨hr,fin k listed F1 w1 hsz hkn hl h hr⟩
  | succ fuel ih=>
    intro k listed F1 w1 hsz hmk hfu hkn hl h
    refine ⟨fin k listed F1 w1 hsz hkn hl h,fun i hi=>?_⟩
    obtain ⟨hnl,hil⟩:=JV hi hsz
    have hki:k≤i:=by
      rcases Nat.lt_or_ge i k with h1|h1
      · have:=(hl i hil).2 h1;rw [hnl] at this;cases this
      · exact h1
    have hdown:∀ i,listed[i]? = some true→∀ j∈KL ops i,listed[j]? = some true:=by
      intro i hi j hj
      have h1:i<ops.length:=by have:=(Array.getElem?_eq_some_iff.1 hi).1;omega
      have h2:=(hl i h1).1 hi
      have h3:=hd.back i h1 j hj
      exact (hl j (by omega)).2 (by omega)
    have hik:i=k:=by
      rcases Nat.eq_or_lt_of_le hki with e|hlt
      · exact e.symm
      · have h1:=MA hd hsz hdown hi (by omega) k hlt
        have:=(hl k (by omega)).1 h1;omega
    subst hik
    have ho:ops[i]? = some ops[i]:=List.getElem?_eq_getElem hil
    rw [List.drop_eq_getElem_cons hil] at h
    have hl':∀ j,j<ops.length→((listed.setIfInBounds i true)[j]? = some true↔j<i+1):=by
      intro j hj
      rw [Array.getElem?_setIfInBounds]
      by_cases hji:i=j
      · subst hji;simp;omega
      · rw [if_neg hji,hl j hj];omega
    refine wpOpIn_F (K:=fun F w=>WL true P ops Q (ops.drop (i+1)) F w) hok ho (fun F w hK=>ih (i+1) _ F w (by simpa using hsz) (by omega) (by omega) (by omega) hl' hK) (fun hw=>?_) (fun hw=>?_)
    · unfold WL at h;rw [if_pos hw] at h;exact h
    · unfold WL at h;rw [if_neg (by rw [hw];simp)] at h;exact h
theorem draw_runY {ops:List Oper} {m:Nat} {Ts:List Pr} {F:Fr} {w:World} (hd:DOk ops m) (hok:ops.all (OL n ops)=true) (hst:∀ i v w w',MS Ts i v w→Keep [] w w'→MS Ts i v w') (hm:m≤ops.length) (hlen:Ts.length=m)
    (hs:MK P ops m Ts F w 0 (ops.take m) Ts)
    (fin:∀ F1 w1,Keep [] w w1→(∀ i o d,i<m→ops[i]? = some o→o.dst=some d→MS Ts i (F1 d) w1)→(∀ t,(∀ j o,j<m→ops[j]? = some o→o.dst≠some t)→F1 t=F t)→WL true P ops Q (ops.drop m) F1 w1) :
    ∀ (fuel:Nat) (listed:Array Bool) (F1:Fr) (w1:World),listed.size=ops.length→PA ops listed≤fuel→(∀ j,m≤j→listed[j]?≠some true)→DInv ops m Ts F w listed F1 w1→wpAnyIn (fen ro) 0 P .any ops.toArray (JS n Q) fuel listed (mk n F1) w1:=by
  intro fuel
  -- all of the first m are listed: on to the tail
  have toTail:∀ (fuel:Nat) (listed:Array Bool) (F1:Fr) (w1:World),listed.size=ops.length→PA ops listed≤fuel→(∀ j,m≤j→listed[j]?≠some true)→DInv ops m Ts F w listed F1 w1→(∀ j,j<m→listed[j]? = some true)→wpAnyIn (fen ro) 0 P .any ops.toArray (JS n Q) fuel listed (mk n F1) w1:=by
    intro fuel listed F1 w1 hsz hfu hno hi hall
    have hfl:ops.length≤m+fuel:=by
      have:ops.length - m≤PA ops listed:=by
        unfold PA
        have e:List.range ops.length=List.range m++(List.range (ops.length - m)).map (m + ·):=by
          rw [← List.range_add];congr 1;omega
        rw [e,List.countP_append]
        have:((List.range (ops.length - m)).map (m + ·)).countP (fun j=>listed[j]? != some true)=ops.length - m:=by
          rw [List.countP_eq_length.2]
          · simp
          · intro j hj
            obtain ⟨q,_,rfl⟩:=List.mem_map.1 hj
            have:=hno (m+q) (by omega)
            simpa using this
        omega
      omega
    refine tail_runY hd hok fuel m listed F1 w1 hsz (Nat.le_refl _) hfl hm (fun j hj=>⟨fun h=>?_,fun h=>hall j h⟩) (fin F1 w1 hi.keep (fun i o d him ho hdst=>hi.fact i o d him (hall i him) ho hdst) (fun t ht=>hi.free t (fun j o hj ho=>?_)))
    · rcases Nat.lt_or_ge j m with h1|h1
      · exact h1
      · exact absurd h (hno j h1)
    · rcases Nat.lt_or_ge j m with h1|h1
      · exact ht j o h1 ho
      · exact absurd hj (hno j h1)
  induction fuel with
  | zero=>
    intro listed F1 w1 hsz hfu hno hi
    refine toTail 0 listed F1 w1 hsz hfu hno hi (fun j hj=>?_)
    have h0:PA ops listed=0:=by omega
    unfold PA at h0
    have:=List.countP_eq_zero.1 h0 j (by simp;omega)
    simpa using this
  | succ fuel ih=>
    intro listed F1 w1 hsz hfu hno hi
    by_cases hall:∀ j,j<m→listed[j]? = some true
    · exact toTail (fuel+1) listed F1 w1 hsz hfu hno hi hall
    · have hex:∃ j,j<m∧listed[j]?≠some true:=by
        refine Classical.byContradiction fun hc=>hall fun j hj=>Classical.byContradiction fun hn=>hc ⟨j,hj,hn⟩
      -- the first that is not listed is ready
      have hmin:∀ q j,q=j→j<m→listed[j]?≠some true→∃ k,k<m∧listed[k]?≠some true∧∀ i,i<k→listed[i]? = some true:=by
        intro q
        induction q using Nat.strongRecOn with
        | _ q ihq=>
          intro j hqj hj hn
          by_cases hb:∀ i,i<j→listed[i]? = some true
          · exact ⟨j,hj,hn,hb⟩
          · have:∃ i,i<j∧listed[i]?≠some true:=Classical.byContradiction fun hc=>hb fun i hi=>Classical.byContradiction fun hn=>hc ⟨i,hi,hn⟩
            obtain ⟨i,hij,hni⟩:=this
            exact ihq i (by omega) i rfl (by omega) hni
      obtain ⟨j0,hj0,hn0⟩:=hex
      obtain ⟨k,hkm,hkn,hkb⟩:=hmin j0 j0 rfl hj0 hn0
      refine ⟨fun h0=>?_,fun i hir=>?_⟩
      · have:=PC hd hsz (by omega) hkn hkb
        rw [h0] at this;cases this
      · obtain ⟨hnl,hil⟩:=JV hir hsz
        have him:i<m:=by
          rcases Nat.lt_or_ge i m with h1|h1
          · exact h1
          · exact absurd (MA hd hsz hi.down hir h1 k (by omega)) hkn
        have ho:ops[i]? = some ops[i]:=List.getElem?_eq_getElem hil
        have haft:=HR ho hir hsz (fun j hj=>Nat.lt_trans (hd.back i hil j hj) hil)
        have hT:Ts[i]? = some Ts[i]:=List.getElem?_eq_getElem (by omega)
        have hsp:=hs.at_ (ops.take m) Ts 0 i ops[i] Ts[i] (by rw [List.getElem?_take,if_pos him];exact ho) hT
        rw [Nat.zero_add] at hsp
        have hTi:MS Ts i=Ts[i]:=by unfold MS;rw [hT];rfl
        have hsp':=hsp F1 w1 hi.keep (fun t ht=>hi.free t (fun j oj hj hoj=>by
          intro e
          unfold NF at ht
          have h1:=List.all_eq_true.1 ht j (by simp;exact (List.getElem?_eq_some_iff.1 hoj).1)
          rw [hoj] at h1
          simp only [e,Bool.or_eq_true,List.contains_iff_mem] at h1
          rcases h1 with h1|h1
          · simp at h1
          · have:=hi.down j hj i h1
            rw [hnl] at this;cases this)) (fun j d hdep=>by
          unfold TV at hdep
          simp only [Bool.and_eq_true] at hdep
          obtain ⟨⟨h1,h2⟩,h3⟩:=hdep
          have hjl:=haft j (by simpa using h2)
          cases hoj:ops[j]? with
          | none=>rw [hoj] at h1;cases h1
          | some oj=>
            rw [hoj] at h1
            simp only [Option.bind_some] at h1
            cases hd':oj.dst with
            | none=>rw [hd'] at h1;cases h1
            | some e=>
              rw [hd'] at h1
              have:=Nat.eq_of_beq_eq_true h1
              subst this
              exact hi.fact j oj e (blt h3) hjl hoj hd')
        have hdist:∀ (j:Nat) (oj:Oper),j<m→j≠i→ops[j]? = some oj→oj.dst≠none→oj.dst≠ops[i].dst:=fun j oj hj hji hoj hne=>hd.dist j i oj ops[i] hj him hji hoj ho hne
        have hno':∀ j,m≤j→(listed.setIfInBounds i true)[j]?≠some true:=fun j hj=>by
          rw [Array.getElem?_setIfInBounds,if_neg (by omega)];exact hno j hj
        refine wpOpIn_F (K:=fun F2 w2=>DInv ops m Ts F w (listed.setIfInBounds i true) F2 w2) hok ho (fun F2 w2 hK=>ih _ F2 w2 (by simpa using hsz) (by have:=HZ hil hsz hnl;omega) hno' hK) (fun hw=>.inl ?_) (fun hw=>?_)
        · have h1:=hsp'.1 hw
          unfold DL at h1 ⊢
          generalize (execOp (CT F1) ⟨none,ops[i].op,ops[i].type,"",#[],none⟩).run P w1=r at h1 ⊢
          have use:∀ v w2,Keep [] w1 w2∧Ts[i] v w2→DInv ops m Ts F w (listed.setIfInBounds i true) (IF F1 ops[i].dst v) w2:=fun v w2 ⟨hk,hv⟩=>hi.step hst hsz hil ho haft hdist hk (fun _ _ _=>by rw [hTi];exact hv)
          cases r with
          | ok x w'=>
            cases x <;> simp only [FQ] at h1 ⊢ <;> try exact h1.elim
            case value v=>exact use _ _ h1
            case skip=>exact use _ _ h1
            case enter f args=>
              exact Calls.mono h1 fun e w'' he=>by
                cases e with
                | returned v=>exact use _ _ he
                | panicked c=>exact he.elim
                | outgrown=>exact he.elim
          | halt x w'=>cases x <;> simp only [FQ] at h1 ⊢ <;> exact h1.elim
        · have h1:=hsp'.2 hw
          exact hi.step hst hsz hil ho haft hdist (Keep.refl _ _) (fun _ _ _=>by rw [hTi];exact h1)
theorem cw_drawY0 {id:Nat} {ops:List Oper} {F:Fr} {w:World} (m:Nat) (Ts:List Pr) (hm:P.follows .mixedOrders=true) (hok:ops.all (OL n ops)=true) (hd:QO ops m=true) (hlen:(Nat.beq Ts.length m && Nat.ble m ops.length)=true) (hst:∀ T∈Ts,∀ v w w',T v w→Keep [] w w'→T v w')
    (hs:MK P ops m Ts F w.drew 0 (ops.take m) Ts)
    (fin:∀ F1 w1,Keep [] w w1→(∀ i d,depAt' ops i d=true→i<m→MS Ts i (F1 d) w1)→(∀ t,MN ops m t=true→F1 t=F t)→WL true P ops Q (ops.drop m) F1 w1):CW P (ro:=ro) n (.region id ops.toArray true) Q F w:=by
  simp only [Bool.and_eq_true] at hlen
  have hle:m≤ops.length:=Nat.le_of_ble_eq_true hlen.2
  have hdr:({ w with drawn:=w.drawn+1 }:World)=w.drew:=rfl
  refine wpIn_region_any hm ?_
  rw [hdr,List.size_toArray]
  refine draw_runY (DOk.of hd) hok (fun i v w w' h hk=>?_) hle (Nat.eq_of_beq_eq_true hlen.1) hs (fun F1 w1 hk h1 h2=>fin F1 w1 ((Keep.drew [] w).trans hk) (fun i d hdp him=>?_) (fun t ht=>h2 t (fun j o hj ho e=>?_))) ops.length _ F w.drew (by simp) ?_ (fun j _=>?_) ⟨Keep.refl _ _,fun i hi=>?_,fun i o d _ hi=>?_,fun _ _=>rfl⟩
  · unfold MS at h ⊢
    cases hT:Ts[i]? with
    | none=>rw [hT] at h;exact trivial
    | some T=>rw [hT] at h;exact hst T (List.mem_of_getElem? hT) v w w' h hk
  · unfold depAt' at hdp
    cases ho:ops[i]? with
    | none=>rw [ho] at hdp;cases hdp
    | some o=>
      rw [ho] at hdp
      simp only [Option.bind_some] at hdp
      cases hd':o.dst with
      | none=>rw [hd'] at hdp;cases hdp
      | some e=>
        rw [hd'] at hdp
        have:=Nat.eq_of_beq_eq_true hdp
        subst this
        exact h1 i o e him ho hd'
  · unfold MN at ht
    have h3:=List.all_eq_true.1 ht o (List.mem_of_getElem? (by rw [List.getElem?_take,if_pos hj];exact ho))
    rw [e] at h3;simp at h3
  · unfold PA;exact Nat.le_trans (List.countP_le_length) (by simp)
  all_goals simp_all [Array.getElem?_replicate]
theorem cw_drawY {id:Nat} {ops:List Oper} {F:Fr} {w:World} (m:Nat) (pre tl:List Oper) (Ts:List Pr) (hm:P.follows .mixedOrders=true) (hok:ops.all (OL n ops)=true) (hd:QO ops m=true) (hlen:(Nat.beq Ts.length m && Nat.ble m ops.length)=true) (hpre:ops.take m=pre) (htl:ops.drop m=tl) (hst:Stab Ts)
    (hs:MK P ops m Ts F w.drew 0 pre Ts)
    (fin:∀ F1 w1,Keep [] w w1→(∀ i d,depAt' ops i d=true→i<m→MS Ts i (F1 d) w1)→(∀ t,MN ops m t=true→F1 t=F t)→WL true P ops Q tl F1 w1):CW P (ro:=ro) n (.region id ops.toArray true) Q F w:=by
  subst hpre;subst htl
  exact cw_drawY0 m Ts hm hok hd hlen hst.of hs fin
end
section
variable {P:Program} {ty:TypeId} {F:Fr} {w:World} {K:Value→World→Prop} {Z:List PanicEntry→World→Prop} {x y:Operand}
end
end Go.Fw
namespace Go.Proofs.Ytjgfokolnkhafaa
open Go.Fw Go.RowKit
set_option maxHeartbeats 4000000 in
set_option maxRecDepth 100000 in
theorem c_cloneB {O:List Nat} (l_v:Value) (l:List UInt8) (w:World) (h_l:BD Enc.u8 w O l_v l) (hpre0:l.length≤1000000) (hO:∀ b∈O,b<w.heap.size):CE Try.prog 98 [l_v] w (fun v w'=>∃ (x0:Value),v=x0∧(∀ b,x0.ownBlock=some b→w.heap.size≤b)∧EH Enc.u8 5 w.heap.size (x0.ownBlock.toList++(O)) w' x0 (l)):= by
 have lim_l:=h_l.len_le
 have h_l:BD Enc.u8 w ([]++O) l_v l:=h_l
 have s0:St w O w []:=St.start hO
 refine BP 8 Try.func98 rfl rfl oT (fun F0=>?_)
 refine AE (?_)
 refine AB kR (AA (AD (nS) rfl (AF (AC (?_)))))
 refine AE (?_)
 refine AE (?_)
 refine AB kR (AA (AG (l_v) rfl (AA (IO U23_ rfl rfl h_l fun bn5656 hbn5657=>(?_)))))
 refine AF (AC (?_))
 refine AL (bn5656) rfl rfl (fun hc5658=>?_) (fun hc5658=>?_)
 ·have hp5659:bn5656=true:=by simpa using hc5658
  refine AE (?_)
  refine AB kR (AA (AD (nS) rfl (AF (AC (?_)))))
  refine AM (AP (AX rfl (CP rfl rfl rfl) (?_)))
  have hnl5661:l=[]:=hbn5657 aS
  have hl5660:BD Enc.u8 w ([]++O) (.slice none 0 0) (l):=by rw [hnl5661];exact BD.nil _ _ _
  exact ⟨_,rfl,s0.keep,⟨.slice none 0 0,rfl,(fun b hb=>by simp [Value.ownBlock] at hb),(by rw [hnl5661];exact EH.nil _ _ _ _ _)⟩⟩
 ·have hp5662:bn5656=false:=by simpa using hc5658
  refine AT (AC (?_))
  refine AE (?_)
  refine AB kR (AA (HU (E:=Enc.u8) (xs:=[]) U23_ IH z_5 (by decide) [] [] [] rfl rfl rfl (Parts.nil _ _ _) oT s0 fun v5667 b5669 w5663 e5670 hb5671 s5664 m5665 k5666 hl5668=>(?_)))
  have hB5672:∀ b,v5667.ownBlock=some b→b∈(b5669 :: []):=fun b hb=>by rw [hb5671] at hb;cases hb;simp
  clear e5670 hb5671
  have h_l:=h_l.mv m5665
  refine AA (AG (l_v) rfl (AA (DJ (E:=Enc.u8) (l:=[]) (m:=l) U23_ i_5 rfl (by decide) rfl rfl hl5668 h_l (fun _ hb=>.inl hb) hB5672 (by simp;omega) (by simp [maxLen];omega) s5664 fun v5677 w5673 B5679 hB5680 at5681 sub5682 s5674 m5675 k5676 ho5678=>(?_))))
  rw [List.nil_append] at ho5678
  refine AA (AD (v5677) rfl (AF (AC (?_))))
  refine AM (AX rfl (CP rfl rfl rfl) (?_))
  exact ⟨_,rfl,s5674.keep,⟨v5677,rfl,(fun b hb=>(s5674.new b (hB5680 b hb)).1),(ho5678.sub (fun x hx=>.inl ((List.mem_append.1 hx).elim (fun h=>List.mem_append_left _ (hB5680 x (by simpa using h))) (fun h=>List.mem_append_right _ h))))⟩⟩
set_option maxHeartbeats 4000000 in
set_option maxRecDepth 100000 in
theorem c_xor {O:List Nat} (x_v:Value) (x:List UInt8) (y_v:Value) (y:List UInt8) (w:World) (h_x:BD Enc.u8 w O x_v x) (h_y:BD Enc.u8 w O y_v y) (hpre0:x.length≤1000000) (hpre1:x.length≤y.length) (hO:∀ b∈O,b<w.heap.size):CE Try.prog 54 [x_v,y_v] w (fun v w'=>∃ (x0:Value),v=x0∧BD Enc.u8 w' (O) x0 (xorM x y)):= by
 have lim_x:=h_x.len_le
 have h_x:BD Enc.u8 w ([]++O) x_v x:=h_x
 have lim_y:=h_y.len_le
 have h_y:BD Enc.u8 w ([]++O) y_v y:=h_y
 have s0:St w O w []:=St.start hO
 refine BP 26 Try.func54 rfl rfl oT (fun F0=>?_)
 refine AE (?_)
 refine AB kR (AA (AD (nS) rfl (AF (AC (?_)))))
 refine AE (?_)
 refine AB kR (AA (AG (x_v) rfl (AA (BC (vs:=[x_v]) enter_98 (c_cloneB (O:=[]++O) x_v x w h_x oM s0.lt) rfl s0 fun v5683 w5684 s5685 m5686 k5687 r5688=>(?_)))))
 obtain ⟨_,rfl,hv5690,ho5689⟩:=r5688
 obtain ⟨B5692,hB5691,sub5693,s5694,m5695,ho5689⟩:=own_take s0 k5687 hv5690 ho5689
 have h_y:=h_y.mv m5695
 refine AA (AD (v5683) rfl (AF (AC (?_))))
 refine AE (?_)
 refine AE (?_)
 refine AB kR (AA (AG (v5683) rfl (AA (UJ U23_ rfl ho5689 (AA (AG (vI 0) rfl (AF (AC (?_)))))))))
 refine BQ (?_)
 refine DI (fun mI FI wI=>∃ (k:Nat) (vo0_5:Value) (B:List Nat),k≤x.length∧mI=x.length - k∧(∃ F1,FI=FR F1 [(1,y_v),(5,vo0_5),(10,vI (x.length:Int)),(11,vI ((k:Nat):Int)),(26,undef)])∧St w O wI B∧EH Enc.u8 5 w.heap.size (B++O) wI vo0_5 (KN x y k)∧(∀ b,vo0_5.ownBlock=some b→b∈B)∧BD Enc.u8 wI (B++O) (y_v) (y)) (x.length - (0)) ?_ ?_
 ·exact ⟨(0),v5683,B5692,oM,rfl,⟨_,AY _ ⟨rfl,rfl,rfl,(by rfl),rfl,trivial⟩⟩,s5694,(by rw [show KN x y (0)=x from xorP_zero _ _];exact ho5689),hB5691,h_y⟩
 ·intro ml0 F wl0 hI
  clear h_y
  obtain ⟨k,vo0_5,Bl0,hr0_0,hm0,⟨Fl0,rfl⟩,sl0,ho0_5,hB0_5,h_y⟩:=hI
  refine AE (?_)
  refine AB kR (AA (DZ .i64 ((k:Nat):Int) (x.length:Int) rfl rfl (AF (AC (?_)))))
  refine AE (?_)
  refine AL (decide (((k:Nat):Int)<(x.length:Int))) rfl rfl (fun hc5696=>?_) (fun hc5696=>?_)
  ·have hp5697:((k:Nat):Int)<(x.length:Int):=by simpa using hc5696
   refine AT (AC (?_))
   refine AE (?_)
   refine BQ (?_)
   refine AE (?_)
   refine AB kR (AA (AG (vI ((k:Nat):Int)) rfl (AA (AD (vI ((k:Nat):Int)) rfl (AF (AC (?_)))))))
   refine cw_draw' 8 _ _ [DE vo0_5,DE (vI ((k:Nat):Int)),fun (vT:Value) (wT:World)=>∃ bT,vT = .pointer (some ⟨bT,k*1,none⟩)∧vo0_5.ownBlock=some bT,DE (vB ((KN x y k)[k]!)),fun (vT:Value) (wT:World)=>BD Enc.u8 wT (Bl0++O) vT (y),DE (vI ((k:Nat):Int)),fun (vT:Value) (wT:World)=>∃ aT,vT = .pointer (some aT)∧PT Enc.u8 wT (Bl0++O) (.pointer (some aT)) (y[k]!),DE (vB (y[k]!))] kR kR kR kR rfl rfl ⟨kI,kI,fun _ _ _ h _=>h,kI,fun _ _ _ h k=>h.mv (Mv.of_keep k),kI,fun _ _ _ ⟨a,e,h⟩ k=>⟨a,e,h.mv (Mv.of_keep k)⟩,kI,trivial⟩ ⟨?_,?_,?_,?_,?_,?_,?_,?_,trivial⟩ ?_
   ·intro F1 w1 k1 hf hd
    obtain ⟨F2,rfl⟩:=AJ (F:=F1) [(5,vo0_5)] ⟨hf 5 kR,trivial⟩
    exact AH rfl ((AG (vo0_5) rfl (⟨(Keep.refl _ _),rfl⟩)))
   ·intro F1 w1 k1 hf hd
    obtain ⟨F2,rfl⟩:=AJ (F:=F1) [(6,vI ((k:Nat):Int))] ⟨hf 6 kR,trivial⟩
    exact AH rfl ((AG (vI ((k:Nat):Int)) rfl (⟨(Keep.refl _ _),rfl⟩)))
   ·intro F1 w1 k1 hf hd
    have k0:=(Keep.drew [] wl0).trans k1
    have m1:Mv Bl0 wl0 Bl0 w1:=Mv.of_keep k0
    have ho0_5:=ho0_5.mv m1 k0 (by simp)
    obtain ⟨F2,rfl⟩:=AJ (F:=F1) [(14,vo0_5),(15,vI ((k:Nat):Int))] ⟨hd 0 14 kR,hd 1 15 kR,trivial⟩
    exact AH rfl ((EP U23_ IH .i64 ((k:Nat):Int) k rfl rfl rfl ho0_5 (by have:=GG x y k;omega) fun b5698 hb5699=>(⟨(Keep.refl _ _),⟨_,rfl,hb5699⟩⟩)))
   ·intro F1 w1 k1 hf hd
    have k0:=(Keep.drew [] wl0).trans k1
    have m1:Mv Bl0 wl0 Bl0 w1:=Mv.of_keep k0
    have ho0_5:=ho0_5.mv m1 k0 (by simp)
    obtain ⟨b5700,e5702,hb5701⟩:∃ b,F1 16 = .pointer (some ⟨b,k*1,none⟩)∧vo0_5.ownBlock=some b:=hd 2 16 kR
    obtain ⟨F2,rfl⟩:=AJ (F:=F1) [(16,vP (some ⟨b5700,k*1,none⟩))] ⟨e5702,trivial⟩
    exact AH rfl ((LH U5_ rfl rfl ho0_5 hb5701 (by have:=GG x y k;omega) (⟨(Keep.refl _ _),rfl⟩)))
   ·intro F1 w1 k1 hf hd
    have k0:=(Keep.drew [] wl0).trans k1
    have m1:Mv Bl0 wl0 Bl0 w1:=Mv.of_keep k0
    have h_y:=h_y.mv m1
    obtain ⟨F2,rfl⟩:=AJ (F:=F1) [(1,y_v)] ⟨hf 1 kR,trivial⟩
    exact AH rfl ((AG (y_v) rfl (⟨(Keep.refl _ _),h_y⟩)))
   ·intro F1 w1 k1 hf hd
    obtain ⟨F2,rfl⟩:=AJ (F:=F1) [(6,vI ((k:Nat):Int))] ⟨hf 6 kR,trivial⟩
    exact AH rfl ((AG (vI ((k:Nat):Int)) rfl (⟨(Keep.refl _ _),rfl⟩)))
   ·intro F1 w1 k1 hf hd
    obtain ⟨v5703,e5705,hl5704⟩:∃ v,F1 18=v∧BD Enc.u8 w1 (Bl0++O) v (y):=⟨_,rfl,hd 4 18 kR⟩
    have:=hl5704.len_le
    obtain ⟨F2,rfl⟩:=AJ (F:=F1) [(18,v5703),(19,vI ((k:Nat):Int))] ⟨e5705,hd 5 19 kR,trivial⟩
    exact AH rfl ((DG U23_ IH .i64 ((k:Nat):Int) k rfl rfl rfl hl5704 (by have:=GG x y k;omega) fun a5706 hp5707=>(⟨(Keep.refl _ _),⟨a5706,rfl,hp5707⟩⟩)))
   ·intro F1 w1 k1 hf hd
    obtain ⟨a5708,e5710,hp5709⟩:∃ aX_,F1 20 = .pointer (some aX_)∧PT Enc.u8 w1 (Bl0++O) (.pointer (some aX_)) (y[k]!):=hd 6 20 kR
    obtain ⟨F2,rfl⟩:=AJ (F:=F1) [(20,vP (some a5708))] ⟨e5710,trivial⟩
    exact AH rfl ((HG U5_ rfl rfl hp5709 (⟨(Keep.refl _ _),rfl⟩)))
   intro F5712 w5713 k5711 hT5714 hF5715
   have s5716:=sl0.call k5711
   have m5717:Mv Bl0 wl0 Bl0 w5713:=Mv.of_keep k5711
   have h_y:=h_y.mv m5717
   have ho0_5:=ho0_5.mv m5717 k5711 (by simp)
   obtain ⟨F2,rfl⟩:=AJ (F:=F5712) [(1,y_v),(5,vo0_5),(10,vI (x.length:Int)),(11,vI ((k:Nat):Int)),(26,undef),(14,vo0_5),(15,vI ((k:Nat):Int)),(17,vB ((KN x y k)[k]!)),(21,vB (y[k]!))] ⟨hF5715 1 kR,hF5715 5 kR,hF5715 10 kR,hF5715 11 kR,hF5715 26 kR,hT5714 0 14 kR (by decide),hT5714 1 15 kR (by decide),hT5714 3 17 kR (by decide),hT5714 7 21 kR (by decide),trivial⟩
   clear hT5714 hF5715
   refine AA (NH ((KN x y k)[k]!) (y[k]!) rfl rfl (AA (EP U23_ IH .i64 ((k:Nat):Int) k rfl rfl rfl ho0_5 (by have:=GG x y k;omega) fun b5720 hb5721=>(BW (JW (((KN x y k)[k]!) ^^^ (y[k]!)) IH rfl rfl rfl ho0_5 hb5721 (hB0_5 _ hb5721) (by have:=GG x y k;omega) rfl s5716 fun w5722 s5723 m5724 k5725 bx5726=>(?_))))))
   have h_y:=h_y.mv m5724
   refine AF (CI (AC (?_)))
   refine AB kR (AA (DD .i64 ((k:Nat):Int) (1:Int) (((k+1:Nat):Int)) rfl rfl (FT oM oM) (AA (AG (vI ((k+1:Nat):Int)) rfl (AF (AC (?_)))))))
   exact ⟨_,oM,(k+1),vo0_5,Bl0,oM,rfl,⟨_,AY _ ⟨rfl,rfl,rfl,(by rfl),rfl,trivial⟩⟩,s5723,(by rw [show KN x y (k+1)=(KN x y k).set k (((KN x y k)[k]!) ^^^ (y[k]!)) from (xorP_set oM).symm];exact bx5726),hB0_5,h_y⟩
  ·have hp5727:(x.length:Int)≤((k:Nat):Int):=by simpa using hc5696
   obtain rfl:k=x.length:=by omega
   refine DH (CD (CD (DB (AC (?_)))))
   refine AE (?_)
   refine AB kR (AA (AG (vo0_5) rfl (AA (AD (vo0_5) rfl (AF (AC (?_)))))))
   refine AM (AX rfl (CP rfl rfl rfl) (?_))
   have e:(xorM x y)=(KN x y x.length):=by exact (xorP_all _ _).symm
   exact ⟨_,rfl,sl0.keep,by rw [e];exact ⟨vo0_5,rfl,ho0_5.pub sl0⟩⟩
set_option maxHeartbeats 4000000 in
set_option maxRecDepth 100000 in
theorem c_pairs11 {O:List Nat} (x_cs:List Value) (x:Share) (s_a:Addr) (s:Share) (w:World) (h_x:Enc.share.rd w O x_cs x) (h_s:PT Enc.share w O (.pointer (some s_a)) s) (hO:∀ b∈O,b<w.heap.size):CE Try.prog 97 [.agg x_cs.toArray, .pointer (some s_a)] w (fun v _=>v = .bool (x.index == s.index)):= by
 have h_x:Enc.share.rd w ([]++O) x_cs x:=h_x
 have h_s:PT Enc.share w ([]++O) (.pointer (some s_a)) s:=h_s
 have s0:St w O w []:=St.start hO
 refine BP 9 Try.func97 rfl rfl oT (fun F0=>?_)
 refine AE (?_)
 refine AB kR (AA (DO (E:=Enc.share) (vA x_cs.toArray) (x_cs) x rfl rfl h_x s0 fun a5728 w5729 s5730 m5731 k5732 hp5733=>(?_)))
 have h_s:=h_s.mv m5731
 refine AA (AD (vO false) rfl (AF (AC (?_))))
 refine AE (?_)
 refine AB kR (AA (BJ 1 QK (x.index) rfl hp5733 (fun _ _ _ h=>LW h) fun a5734 hp5735=>(AA (CC U3_ rfl rfl hp5735 (AA (BJ 1 QK (s.index) rfl h_s (fun _ _ _ h=>LW h) fun a5736 hp5737=>(AA (CC U3_ rfl rfl hp5737 (AA (EN .i64 x.index s.index rfl rfl (AA (AD (vO (x.index == s.index)) rfl (AF (AC (?_)))))))))))))))
 refine AM (AX rfl (CP rfl rfl rfl) (?_))
 exact ⟨_,rfl,s5730.keep,rfl⟩
set_option maxHeartbeats 4000000 in
set_option maxRecDepth 100000 in
theorem c_pairs {O:List Nat} (l_v:Value) (l:List Share) (others_v:Value) (others:List Share) (w:World) (h_l:BD Enc.share w O l_v l) (h_others:BD Enc.share w O others_v others) (hO:∀ b∈O,b<w.heap.size):CE Try.prog 53 [l_v,others_v] w (fun v w'=>∃ (a0_0:Addr) (a0_1:Addr),v = .func (.func 95) #[] #[.pointer (some a0_0), .pointer (some a0_1)]∧PT (Enc.slice Enc.share) w' (O) (.pointer (some a0_0)) (l)∧PT (Enc.slice Enc.share) w' (O) (.pointer (some a0_1)) (others)):= by
 have lim_l:=h_l.len_le
 have h_l:BD Enc.share w ([]++O) l_v l:=h_l
 have lim_others:=h_others.len_le
 have h_others:BD Enc.share w ([]++O) others_v others:=h_others
 have s0:St w O w []:=St.start hO
 refine BP 6 Try.func53 rfl rfl oT (fun F0=>?_)
 refine AE (?_)
 refine AB kR (AA (DO (E:=(Enc.slice Enc.share)) (l_v) ([l_v]) l rfl (FB h_l.oneCell) ⟨_,rfl,h_l⟩ s0 fun a5738 w5739 s5740 m5741 k5742 hp5743=>(?_)))
 have h_others:=h_others.mv m5741
 refine AA (DO (E:=(Enc.slice Enc.share)) (others_v) ([others_v]) others rfl (FB h_others.oneCell) ⟨_,rfl,h_others⟩ s5740 fun a5744 w5745 s5746 m5747 k5748 hp5749=>(?_))
 have hp5743:=hp5743.mv m5747
 refine AA (AD (Value.nilFunc) rfl (AF (AC (?_))))
 refine AE (?_)
 refine AB kR (AA (DC (first:=[]) (captured:=[.tmp 2, .tmp 3]) [] [vP (some a5738),vP (some a5744)] rfl rfl (AA (AD (vN (.func 95) #[] #[vP (some a5738),vP (some a5744)]) rfl (AF (AC (?_)))))))
 refine AM (AX rfl (CP rfl rfl rfl) (?_))
 exact ⟨_,rfl,s5746.keep,⟨_,_,rfl,(hp5743.sub (fun b hb=>.inl (List.mem_append_right _ hb))),(hp5749.sub (fun b hb=>.inl (List.mem_append_right _ hb)))⟩⟩
end Go.Proofs.Ytjgfokolnkhafaa
