/- What the laws of this part rest on: lemmas, and the walks of the functions. No conditions. -/
import Derived.WalkKit
import Derived.WalkSpells
import Derived.WalkLawsBesides
import Derived.RangeFuncLeaves
import Derived.Maps.AppendAt
import Derived.Deep.AppendLies
import Derived.Deep.Slices
import Derived.OpenShut
import Derived.ProofKit
import Derived.Below
import Derived.ChangeSame
import Derived.Carry
import Derived.RangeFuncRecord
import Derived.Laws.Tables
import Derived.Recover
import Derived.DefersIn
import Derived.Lib.AppendZerosOnto
import Derived.Lib.Overlaps
import Derived.Laws.CopyRow
import Derived.Laws.StructEq
import Derived.ChangeKeysEq
import Derived.OrdersIn
import Derived.Test.YtjgfokolnkhafaaRows
import Derived.Test.YtjgfokolnkhafaaPC43
set_option linter.unusedSimpArgs false
set_option linter.unusedVariables false
namespace Go.Proofs.Ytjgfokolnkhafaa
open Go.Fw Go.RowKit
set_option maxHeartbeats 4000000 in
set_option maxRecDepth 100000 in
theorem c_indices1 {O:List Nat} (i:Nat) (l_a:Addr) (l:(List Share)) (w:World) (h_l:PT (Enc.slice Enc.share) w O (.pointer (some l_a)) l) (hpre0:i<l.length) (hO:∀ b∈O,b<w.heap.size):CF Try.prog 89 [vI (i:Int), .pointer (some l_a)] w (fun v _=>v=vB (GP l[i]!.index)):= by
 have h_l:PT (Enc.slice Enc.share) w ([]++O) (.pointer (some l_a)) l:=h_l
 have s0:St w O w []:=St.start hO
 refine BQ 10 Try.func89 rfl rfl oT (fun F0=>?_)
 refine AG (?_)
 refine AB kR (AA (AD (vB (0:UInt8)) rfl (AF (AC (?_)))))
 refine AG (?_)
 refine AB kR (AA (BW U32_ rfl rfl h_l fun v1756 hl1757=>(?_)))
 have:=hl1757.len_le
 refine AA (AE (vI (i:Int)) rfl (AA (DI U32_ DM .i64 (i:Int) i rfl rfl rfl hl1757 oM fun a1758 hp1759=>(AA (BM 1 QW ((l[i]!).index) rfl hp1759 (fun _ _ _ h=>MN h) fun a1760 hp1761=>(AA (CE U3_ rfl rfl hp1761 (AA (o_u8of .i64 U3_ U5_ ((l[i]!).index) rfl (AA (AD (vB (GP ((l[i]!).index))) rfl (AF (AC (?_))))))))))))))
 refine AP (AZ rfl (CS rfl rfl rfl) (?_))
 have e:(GP l[i]!.index)=(GP ((l[i]!).index)):=rfl
 exact ⟨_,rfl,s0.keep,by rw [e];exact rfl⟩
set_option maxHeartbeats 4000000 in
set_option maxRecDepth 100000 in
theorem VV {O:List Nat} (l_v:Value) (l:List Share) (w:World) (h_l:BG Enc.share w O l_v l) (hpre0:l.length≤1000000) (hO:∀ b∈O,b<w.heap.size):CF Try.prog 41 [l_v] w (fun v w'=>∃ (x0:Value),v=x0∧BG Enc.u8 w' (O) x0 (MX l)):= by
 have lim_l:=h_l.len_le
 have h_l:BG Enc.share w ([]++O) l_v l:=h_l
 have s0:St w O w []:=St.start hO
 refine BQ 7 Try.func41 rfl rfl oT (fun F0=>?_)
 refine AG (?_)
 refine AB kR (AA (DO (E:=(Enc.slice Enc.share)) (l_v) ([l_v]) l rfl (FD h_l.oneCell) ⟨_,rfl,h_l⟩ s0 fun a1762 w1763 s1764 m1765 k1766 hp1767=>(?_)))
 refine AA (AD (nS) rfl (AF (AC (?_))))
 refine AG (?_)
 refine AB kR (AA (BW U32_ rfl rfl hp1767 fun v1768 hl1769=>(?_)))
 have:=hl1769.len_le
 refine AA (CG U32_ rfl hl1769 (AA (DD (first:=[]) (captured:=[.tmp 1]) [] [vP (some a1762)] rfl rfl (AA (BB (vs:=[vI (l.length:Int),vN (.func 89) #[] #[vP (some a1762)]]) NU (KC (O:=[]++O) (l.length:Int) 89 [vP (some a1762)] (fun i_=>GP l[i_]!.index) w1763 enter_89 (fun w'_ O'_ kk_ hs_ hl_ i_  hc_=>c_indices1 (O:=O'_) i_ a1762 l w'_ (hp1767.on hs_ kk_) oM hl_) oM s1764.lt) rfl s1764 fun v1770 w1771 s1772 m1773 k1774 r1775=>(?_))))))
 obtain ⟨_,rfl,hl1776⟩:=r1775
 have:=hl1776.len_le
 refine AA (AD (v1770) rfl (AF (AC (?_))))
 refine AP (AZ rfl (CS rfl rfl rfl) (?_))
 have e:(MX l)=((List.range ((l.length:Int)).toNat).map (fun i_=>GP l[i_]!.index)):=rfl
 exact ⟨_,rfl,s1772.keep,by rw [e];exact ⟨v1770,rfl,hl1776.out⟩⟩
set_option maxHeartbeats 4000000 in
set_option maxRecDepth 100000 in
theorem c_column1 {O:List Nat} (i:Nat) (l_a:Addr) (l:(List Share)) (place_a:Addr) (place:Int) (w:World) (h_l:PT (Enc.slice Enc.share) w O (.pointer (some l_a)) l) (h_place:PT Enc.int w O (.pointer (some place_a)) place) (hpre0:i<l.length) (hpre1:0≤place) (hpre2:(place).toNat<l[i]!.data.length) (hO:∀ b∈O,b<w.heap.size):CF Try.prog 90 [vI (i:Int), .pointer (some l_a), .pointer (some place_a)] w (fun v _=>v=vB (l[i]!.data[(place).toNat]!)):= by
 have h_l:PT (Enc.slice Enc.share) w ([]++O) (.pointer (some l_a)) l:=h_l
 have h_place:PT Enc.int w ([]++O) (.pointer (some place_a)) place:=h_place
 have s0:St w O w []:=St.start hO
 refine BQ 13 Try.func90 rfl rfl oT (fun F0=>?_)
 refine AG (?_)
 refine AB kR (AA (AD (vB (0:UInt8)) rfl (AF (AC (?_)))))
 refine AG (?_)
 refine cw_draw' 6 _ _ [fun (vT:Value) (wT:World)=>BG Enc.share wT ([]++O) vT (l),DF (vI (i:Int)),fun (vT:Value) (wT:World)=>∃ aT,vT = .pointer (some aT)∧PT Enc.share wT ([]++O) (.pointer (some aT)) (l[i]!),fun (vT:Value) (wT:World)=>∃ aT,vT = .pointer (some aT)∧PT (Enc.slice Enc.u8) wT ([]++O) (.pointer (some aT)) ((l[i]!).data),fun (vT:Value) (wT:World)=>BG Enc.u8 wT ([]++O) vT ((l[i]!).data),DF (vI place)] kR kR kR kR rfl rfl ⟨fun _ _ _ h k=>h.mv (Mv.of_keep k),kI,fun _ _ _ ⟨a,e,h⟩ k=>⟨a,e,h.mv (Mv.of_keep k)⟩,fun _ _ _ ⟨a,e,h⟩ k=>⟨a,e,h.mv (Mv.of_keep k)⟩,fun _ _ _ h k=>h.mv (Mv.of_keep k),kI,trivial⟩ ⟨?_,?_,?_,?_,?_,?_,trivial⟩ ?_
 ·intro F1 w1 k1 hf hd
  have k0:=(Keep.drew [] w).trans k1
  have m1:Mv ([]) w ([]) w1:=Mv.of_keep k0
  have h_l:=h_l.mv m1
  obtain ⟨F2,rfl⟩:=AL (F:=F1) [(1,vP (some l_a))] ⟨hf 1 kR,trivial⟩
  refine AH rfl ((BW U32_ rfl rfl h_l fun v1777 hl1778=>(?_)))
  have:=hl1778.len_le
  exact ⟨(Keep.refl _ _),hl1778⟩
 ·intro F1 w1 k1 hf hd
  obtain ⟨F2,rfl⟩:=AL (F:=F1) [(0,vI (i:Int))] ⟨hf 0 kR,trivial⟩
  exact AH rfl ((AE (vI (i:Int)) rfl (⟨(Keep.refl _ _),rfl⟩)))
 ·intro F1 w1 k1 hf hd
  obtain ⟨v1779,e1781,hl1780⟩:∃ v,F1 5=v∧BG Enc.share w1 ([]++O) v (l):=⟨_,rfl,hd 0 5 kR⟩
  have:=hl1780.len_le
  obtain ⟨F2,rfl⟩:=AL (F:=F1) [(5,v1779),(6,vI (i:Int))] ⟨e1781,hd 1 6 kR,trivial⟩
  exact AH rfl ((DI U32_ DM .i64 (i:Int) i rfl rfl rfl hl1780 oM fun a1782 hp1783=>(⟨(Keep.refl _ _),⟨a1782,rfl,hp1783⟩⟩)))
 ·intro F1 w1 k1 hf hd
  obtain ⟨a1784,e1786,hp1785⟩:∃ aX_,F1 7 = .pointer (some aX_)∧PT Enc.share w1 ([]++O) (.pointer (some aX_)) (l[i]!):=hd 2 7 kR
  obtain ⟨F2,rfl⟩:=AL (F:=F1) [(7,vP (some a1784))] ⟨e1786,trivial⟩
  exact AH rfl ((BM 4 GM ((l[i]!).data) rfl hp1785 (fun _ _ _ h=>FL h) fun a1787 hp1788=>(⟨(Keep.refl _ _),⟨a1787,rfl,hp1788⟩⟩)))
 ·intro F1 w1 k1 hf hd
  obtain ⟨a1789,e1791,hp1790⟩:∃ aX_,F1 8 = .pointer (some aX_)∧PT (Enc.slice Enc.u8) w1 ([]++O) (.pointer (some aX_)) ((l[i]!).data):=hd 3 8 kR
  obtain ⟨F2,rfl⟩:=AL (F:=F1) [(8,vP (some a1789))] ⟨e1791,trivial⟩
  refine AH rfl ((BW U23_ rfl rfl hp1790 fun v1792 hl1793=>(?_)))
  have:=hl1793.len_le
  exact ⟨(Keep.refl _ _),hl1793⟩
 ·intro F1 w1 k1 hf hd
  have k0:=(Keep.drew [] w).trans k1
  have m1:Mv ([]) w ([]) w1:=Mv.of_keep k0
  have h_place:=h_place.mv m1
  obtain ⟨F2,rfl⟩:=AL (F:=F1) [(2,vP (some place_a))] ⟨hf 2 kR,trivial⟩
  exact AH rfl ((CE U3_ rfl rfl h_place (⟨(Keep.refl _ _),rfl⟩)))
 intro F1795 w1796 k1794 hT1797 hF1798
 have s1799:=s0.call k1794
 obtain ⟨v1803,e1805,hl1804⟩:∃ v,F1795 9=v∧BG Enc.u8 w1796 ([]++O) v ((l[i]!).data):=⟨_,rfl,hT1797 4 9 kR (by decide)⟩
 have:=hl1804.len_le
 obtain ⟨F2,rfl⟩:=AL (F:=F1795) [(4,vB (0:UInt8)),(13,undef),(9,v1803),(10,vI place)] ⟨hF1798 4 kR,hF1798 13 kR,e1805,hT1797 5 10 kR (by decide),trivial⟩
 clear hT1797 hF1798
 refine AA (DI U23_ IJ .i64 place place.toNat rfl rfl oM hl1804 oM fun a1806 hp1807=>(AA (HJ U5_ rfl rfl hp1807 (AA (AD (vB (((l[i]!).data)[place.toNat]!)) rfl (AF (AC (?_))))))))
 refine AP (AZ rfl (CS rfl rfl rfl) (?_))
 have e:(l[i]!.data[(place).toNat]!)=(((l[i]!).data)[place.toNat]!):=rfl
 exact ⟨_,rfl,s1799.keep,by rw [e];exact rfl⟩
set_option maxHeartbeats 4000000 in
set_option maxRecDepth 100000 in
theorem c_column {O:List Nat} (l_v:Value) (l:List Share) (place:Nat) (w:World) (h_l:BG Enc.share w O l_v l) (hpre0:l.length≤1000000) (hpre1:∀ k,k<l.length→place<l[k]!.data.length) (hO:∀ b∈O,b<w.heap.size):CF Try.prog 42 [l_v,vI (place:Int)] w (fun v w'=>∃ (x0:Value),v=x0∧BG Enc.u8 w' (O) x0 (EZ l place)):= by
 have lim_l:=h_l.len_le
 have h_l:BG Enc.share w ([]++O) l_v l:=h_l
 have s0:St w O w []:=St.start hO
 refine BQ 9 Try.func42 rfl rfl oT (fun F0=>?_)
 refine AG (?_)
 refine AB kR (AA (DO (E:=(Enc.slice Enc.share)) (l_v) ([l_v]) l rfl (FD h_l.oneCell) ⟨_,rfl,h_l⟩ s0 fun a1808 w1809 s1810 m1811 k1812 hp1813=>(?_)))
 refine AA (DO (E:=Enc.int) (vI (place:Int)) ([vI (place:Int)]) (place:Int) rfl rfl rfl s1810 fun a1814 w1815 s1816 m1817 k1818 hp1819=>(?_))
 have hp1813:=hp1813.mv m1817
 refine AA (AD (nS) rfl (AF (AC (?_))))
 refine AG (?_)
 refine AB kR (AA (BW U32_ rfl rfl hp1813 fun v1820 hl1821=>(?_)))
 have:=hl1821.len_le
 refine AA (CG U32_ rfl hl1821 (AA (DD (first:=[]) (captured:=[.tmp 2, .tmp 3]) [] [vP (some a1808),vP (some a1814)] rfl rfl (AA (BB (vs:=[vI (l.length:Int),vN (.func 90) #[] #[vP (some a1808),vP (some a1814)]]) NU (KC (O:=[]++O) (l.length:Int) 90 [vP (some a1808),vP (some a1814)] (fun i_=>l[i_]!.data[((place:Int)).toNat]!) w1815 enter_90 (fun w'_ O'_ kk_ hs_ hl_ i_  hc_=>c_column1 (O:=O'_) i_ a1808 l a1814 (place:Int) w'_ (hp1813.on hs_ kk_) (hp1819.on hs_ kk_) oM oM (hpre1 i_ oM) hl_) oM s1816.lt) rfl s1816 fun v1822 w1823 s1824 m1825 k1826 r1827=>(?_))))))
 obtain ⟨_,rfl,hl1828⟩:=r1827
 have:=hl1828.len_le
 refine AA (AD (v1822) rfl (AF (AC (?_))))
 refine AP (AZ rfl (CS rfl rfl rfl) (?_))
 have e:(EZ l place)=((List.range ((l.length:Int)).toNat).map (fun i_=>l[i_]!.data[((place:Int)).toNat]!)):=rfl
 exact ⟨_,rfl,s1824.keep,by rw [e];exact ⟨v1822,rfl,hl1828.out⟩⟩
set_option maxHeartbeats 4000000 in
set_option maxRecDepth 100000 in
theorem c_join1 {O:List Nat} (p:Nat) (xs_a:Addr) (xs:(List UInt8)) (l_a:Addr) (l:(List Share)) (w:World) (h_xs:PT (Enc.slice Enc.u8) w O (.pointer (some xs_a)) xs) (h_l:PT (Enc.slice Enc.share) w O (.pointer (some l_a)) l) (hpre0:l.length≤1000) (hpre1:xs.length<1000) (hpre2:∀ k,k<l.length→p<l[k]!.data.length) (hO:∀ b∈O,b<w.heap.size):CF Try.prog 62 [vI (p:Int), .pointer (some xs_a), .pointer (some l_a)] w (fun v _=>v=vB ((DB xs (EZ l p) 0).1)):= by
 have h_xs:PT (Enc.slice Enc.u8) w ([]++O) (.pointer (some xs_a)) xs:=h_xs
 have h_l:PT (Enc.slice Enc.share) w ([]++O) (.pointer (some l_a)) l:=h_l
 have s0:St w O w []:=St.start hO
 refine BQ 16 Try.func62 rfl rfl oT (fun F0=>?_)
 refine AG (?_)
 refine AB kR (AA (AD (vB (0:UInt8)) rfl (AF (AC (?_)))))
 refine AG (?_)
 refine cw_draw' 9 _ _ [fun (vT:Value) (wT:World)=>BG Enc.u8 wT ([]++O) vT (xs),fun (vT:Value) (wT:World)=>BG Enc.share wT ([]++O) vT (l),DF (vI (p:Int)),fun (vT:Value) (wT:World)=>BG Enc.u8 wT ([]++O) vT (EZ l p),DF (vT #[vB ((DB xs (EZ l p) (0:UInt8)).1),vI ((DB xs (EZ l p) (0:UInt8)).2)]),DF (vT #[vB ((DB xs (EZ l p) (0:UInt8)).1),vI ((DB xs (EZ l p) (0:UInt8)).2)]),DF (vB ((DB xs (EZ l p) (0:UInt8)).1)),DF (vI ((DB xs (EZ l p) (0:UInt8)).2)),DF (vB ((DB xs (EZ l p) (0:UInt8)).1))] kR kR kR kR rfl rfl ⟨fun _ _ _ h k=>h.mv (Mv.of_keep k),fun _ _ _ h k=>h.mv (Mv.of_keep k),kI,fun _ _ _ h k=>h.mv (Mv.of_keep k),kI,kI,kI,kI,kI,trivial⟩ ⟨?_,?_,?_,?_,?_,?_,?_,?_,?_,trivial⟩ ?_
 ·intro F1 w1 k1 hf hd
  have k0:=(Keep.drew [] w).trans k1
  have m1:Mv ([]) w ([]) w1:=Mv.of_keep k0
  have h_xs:=h_xs.mv m1
  obtain ⟨F2,rfl⟩:=AL (F:=F1) [(1,vP (some xs_a))] ⟨hf 1 kR,trivial⟩
  refine AH rfl ((BW U23_ rfl rfl h_xs fun v1829 hl1830=>(?_)))
  have:=hl1830.len_le
  exact ⟨(Keep.refl _ _),hl1830⟩
 ·intro F1 w1 k1 hf hd
  have k0:=(Keep.drew [] w).trans k1
  have m1:Mv ([]) w ([]) w1:=Mv.of_keep k0
  have h_l:=h_l.mv m1
  obtain ⟨F2,rfl⟩:=AL (F:=F1) [(2,vP (some l_a))] ⟨hf 2 kR,trivial⟩
  refine AH rfl ((BW U32_ rfl rfl h_l fun v1831 hl1832=>(?_)))
  have:=hl1832.len_le
  exact ⟨(Keep.refl _ _),hl1832⟩
 ·intro F1 w1 k1 hf hd
  obtain ⟨F2,rfl⟩:=AL (F:=F1) [(0,vI (p:Int))] ⟨hf 0 kR,trivial⟩
  exact AH rfl ((AE (vI (p:Int)) rfl (⟨(Keep.refl _ _),rfl⟩)))
 ·intro F1 w1 k1 hf hd
  have k0:=(Keep.drew [] w).trans k1
  have s1:=s0.call k0
  obtain ⟨v1833,e1835,hl1834⟩:∃ v,F1 9=v∧BG Enc.share w1 ([]++O) v (l):=⟨_,rfl,hd 1 9 kR⟩
  have:=hl1834.len_le
  obtain ⟨F2,rfl⟩:=AL (F:=F1) [(9,v1833),(10,vI (p:Int))] ⟨e1835,hd 2 10 kR,trivial⟩
  refine AH rfl ((BB (vs:=[v1833,vI (p:Int)]) enter_42 (c_column (O:=[]++O) v1833 l p w1 hl1834 oM hpre2 s1.lt) rfl s1 fun v1836 w1837 s1838 m1839 k1840 r1841=>(?_)))
  obtain ⟨_,rfl,hl1842⟩:=r1841
  have:=hl1842.len_le
  exact ⟨k1840,hl1842⟩
 ·intro F1 w1 k1 hf hd
  have k0:=(Keep.drew [] w).trans k1
  have s1:=s0.call k0
  obtain ⟨v1843,e1845,hl1844⟩:∃ v,F1 8=v∧BG Enc.u8 w1 ([]++O) v (xs):=⟨_,rfl,hd 0 8 kR⟩
  have:=hl1844.len_le
  obtain ⟨v1846,e1848,hl1847⟩:∃ v,F1 11=v∧BG Enc.u8 w1 ([]++O) v (EZ l p):=⟨_,rfl,hd 3 11 kR⟩
  have:=hl1847.len_le
  obtain ⟨F2,rfl⟩:=AL (F:=F1) [(8,v1843),(11,v1846)] ⟨e1845,e1848,trivial⟩
  refine AH rfl ((BB (vs:=[v1843,v1846,vB (0:UInt8)]) enter_63 (c_through (O:=[]++O) v1843 xs v1846 (EZ l p) (0:UInt8) w1 hl1844 hl1847 oM s1.lt) rfl s1 fun v1849 w1850 s1851 m1852 k1853 r1854=>(?_)))
  obtain rfl:=r1854
  exact ⟨k1853,rfl⟩
 ·intro F1 w1 k1 hf hd
  obtain ⟨F2,rfl⟩:=AL (F:=F1) [(12,vT #[vB ((DB xs (EZ l p) (0:UInt8)).1),vI ((DB xs (EZ l p) (0:UInt8)).2)])] ⟨hd 4 12 kR,trivial⟩
  exact AH rfl ((AE (vT #[vB ((DB xs (EZ l p) (0:UInt8)).1),vI ((DB xs (EZ l p) (0:UInt8)).2)]) rfl (⟨(Keep.refl _ _),rfl⟩)))
 ·intro F1 w1 k1 hf hd
  obtain ⟨F2,rfl⟩:=AL (F:=F1) [(7,vT #[vB ((DB xs (EZ l p) (0:UInt8)).1),vI ((DB xs (EZ l p) (0:UInt8)).2)])] ⟨hd 5 7 kR,trivial⟩
  exact AH rfl ((AN (vB ((DB xs (EZ l p) (0:UInt8)).1)) rfl rfl (⟨(Keep.refl _ _),rfl⟩)))
 ·intro F1 w1 k1 hf hd
  obtain ⟨F2,rfl⟩:=AL (F:=F1) [(7,vT #[vB ((DB xs (EZ l p) (0:UInt8)).1),vI ((DB xs (EZ l p) (0:UInt8)).2)])] ⟨hd 5 7 kR,trivial⟩
  exact AH rfl ((AN (vI ((DB xs (EZ l p) (0:UInt8)).2)) rfl rfl (⟨(Keep.refl _ _),rfl⟩)))
 ·intro F1 w1 k1 hf hd
  obtain ⟨F2,rfl⟩:=AL (F:=F1) [(13,vB ((DB xs (EZ l p) (0:UInt8)).1))] ⟨hd 6 13 kR,trivial⟩
  exact AH rfl ((AD (vB ((DB xs (EZ l p) (0:UInt8)).1)) rfl (⟨(Keep.refl _ _),rfl⟩)))
 intro F1856 w1857 k1855 hT1858 hF1859
 have s1860:=s0.call k1855
 obtain ⟨F2,rfl⟩:=AL (F:=F1856) [(16,undef),(5,vB ((DB xs (EZ l p) (0:UInt8)).1)),(14,vI ((DB xs (EZ l p) (0:UInt8)).2))] ⟨hF1859 16 kR,hT1858 8 5 kR (by decide),hT1858 7 14 kR (by decide),trivial⟩
 clear hT1858 hF1859
 refine AA (AD (vI ((DB xs (EZ l p) (0:UInt8)).2)) rfl (AF (AC (?_))))
 refine AG (?_)
 refine AB kR (AA (AE (vB ((DB xs (EZ l p) (0:UInt8)).1)) rfl (AA (AD (vB ((DB xs (EZ l p) (0:UInt8)).1)) rfl (AF (AC (?_)))))))
 refine AP (AZ rfl (CS rfl rfl rfl) (?_))
 have e:((DB xs (EZ l p) 0).1)=((DB xs (EZ l p) (0:UInt8)).1):=rfl
 exact ⟨_,rfl,s1860.keep,by rw [e];exact rfl⟩
set_option maxHeartbeats 4000000 in
set_option maxRecDepth 100000 in
theorem c_join {O:List Nat} (l_v:Value) (l:List Share) (w:World) (h_l:BG Enc.share w O l_v l) (hO:∀ b∈O,b<w.heap.size):CF Try.prog 30 [l_v] w (fun v w'=>∃ (x0:Value),v = .tuple #[x0,vI ((CO l).2)]∧BG Enc.u8 w' (O) x0 ((CO l).1)):= by
 have lim_l:=h_l.len_le
 have h_l:BG Enc.share w ([]++O) l_v l:=h_l
 have s0:St w O w []:=St.start hO
 refine BQ 34 Try.func30 rfl rfl oT (fun F0=>?_)
 refine AG (?_)
 refine AB kR (AA (o_box (l_v) [l_v] rfl (FD h_l.oneCell) s0 fun b1864 w1865 e1870 s1866 m1867 k1868 bx1869=>(?_)))
 clear e1870
 have h_l:=h_l.mv m1867
 refine AA (AD (nS) rfl (AA (AD (vI 0) rfl (AF (AC (?_))))))
 refine AG (?_)
 refine AG (?_)
 refine AB kR (AA (BI U32_ rfl (l_v) rfl bx1869 rfl (AA (BB (vs:=[l_v]) LT (LW (O:=(b1864 :: [])++O) l_v l w1865 h_l s1866.lt) rfl s1866 fun v1871 w1872 s1873 m1874 k1875 r1876=>(?_)))))
 obtain rfl:=r1876
 have h_l:=h_l.mv m1874
 have bx1869:=bx1869.keep k1875 (by simp)
 refine AA (AD (vI (BP l)) rfl (AF (AC (?_))))
 refine AG (?_)
 refine AB kR (AA (AE (vI (BP l)) rfl (AA (CV .i64 (BP l) (0:Int) rfl rfl (AF (AC (?_)))))))
 refine AO ((BP l) != (0:Int)) rfl rfl (fun hc1877=>?_) (fun hc1877=>?_)
 ·have hp1878:BP l≠(0:Int):=by simpa using hc1877
  refine AG (?_)
  refine AB kR (AA (AE (vI (BP l)) rfl (AA (AD (nS) rfl (AA (AD (vI (BP l)) rfl (AF (AC (?_)))))))))
  refine AP (AR (AZ rfl (FF rfl rfl rfl rfl) (?_)))
  have e:(CO l)=([],BP l):=by exact VP oM rfl
  exact ⟨_,rfl,s1873.keep,by rw [e];exact ⟨.slice none 0 0,rfl,BG.nil _ _ _⟩⟩
 ·have hp1879:BP l=(0:Int):=by simpa using hc1877
  have hv:=(EN l).1 hp1879
  have hpos:=hv.pos
  have ht1:=hv.t1
  have htm:=hv.tm
  have hm8:=hv.m8
  have hd64:=hv.d64
  refine AU (AC (?_))
  refine AG (?_)
  refine AB kR (AA (BI U32_ rfl (l_v) rfl bx1869 rfl (AA (DI U32_ DM .i64 (0:Int) 0 rfl rfl rfl h_l oM fun a1880 hp1881=>(AA (BM 2 KL ((l[0]!).threshold) rfl hp1881 (fun _ _ _ h=>LZ h) fun a1882 hp1883=>(AA (CE U3_ rfl rfl hp1883 (AA (AD (vI ((l[0]!).threshold)) rfl (AF (AC (?_)))))))))))))
  refine AG (?_)
  refine AG (?_)
  refine AB kR (AA (BI U32_ rfl (l_v) rfl bx1869 rfl (AA (CG U32_ rfl h_l (AA (AE (vI ((l[0]!).threshold)) rfl (AA (DW .i64 (l.length:Int) ((l[0]!).threshold) rfl rfl (AF (AC (?_)))))))))))
  refine AO (decide ((l.length:Int)<(l[0]!).threshold)) rfl rfl (fun hc1884=>?_) (fun hc1884=>?_)
  ·have hp1885:(l.length:Int)<(l[0]!).threshold:=by simpa using hc1884
   refine AG (?_)
   refine AB kR (AA (AD (nS) rfl (AA (AD (vI 80) rfl (AF (AC (?_)))))))
   refine AP (AR (AZ rfl (FF rfl rfl rfl rfl) (?_)))
   have e:(CO l)=([],(80:Int)):=by exact VI oM oM rfl
   exact ⟨_,rfl,s1873.keep,by rw [e];exact ⟨.slice none 0 0,rfl,BG.nil _ _ _⟩⟩
  ·have hp1886:(l[0]!).threshold≤(l.length:Int):=by simpa using hc1884
   have htk:(l.take (l[0]!.threshold).toNat).length=l[0]!.threshold.toNat:=by rw [List.length_take];omega
   refine AU (AC (?_))
   refine AG (?_)
   refine AB kR (AA (BI U32_ rfl (l_v) rfl bx1869 rfl (AA (AE (vI ((l[0]!).threshold)) rfl (AA (AE (vI ((l[0]!).threshold)) rfl (AA (o_slice3R U32_ DM 0 (((l[0]!).threshold).toNat) (((l[0]!).threshold).toNat) rfl (.inl ⟨rfl,rfl⟩) .i64 .i64 ((l[0]!).threshold) ((l[0]!).threshold) rfl oM rfl oM oM oM oM h_l fun v1887 hl1888=>(?_)))))))))
   rw [List.drop_zero] at hl1888
   refine BY (CK (v1887) rfl rfl hl1888.oneCell s_32 (by repeat (constructor)) bx1869 oT s1873 fun w1889 s1890 m1891 k1892 bx1893=>(?_))
   have hl1888:=hl1888.mv m1891
   refine AF (AC (?_))
   refine AG (?_)
   refine AB kR (AA (BI U32_ rfl (v1887) rfl bx1893 rfl (AA (BB (vs:=[v1887]) enter_41 (VV (O:=(b1864 :: [])++O) v1887 (l.take (((l[0]!).threshold).toNat)) w1889 hl1888 oM s1890.lt) rfl s1890 fun v1894 w1895 s1896 m1897 k1898 r1899=>(?_)))))
   obtain ⟨_,rfl,hl1900⟩:=r1899
   have:=hl1900.len_le
   have hl1888:=hl1888.mv m1897
   have bx1893:=bx1893.keep k1898 (by simp)
   refine AA (CX [nS] z_23 rfl s1896 fun b1901 w1902 e1907 s1903 m1904 k1905 bx1906=>(?_))
   have ne1908:FH b1864 b1901:=by show b1864≠b1901;have:=bx1893.lt;omega
   clear e1907
   have hl1888:=hl1888.mv m1904
   have hl1900:=hl1900.mv m1904
   have bx1893:=bx1893.keep k1905 (by simp)
   refine BY (CK (v1894) rfl rfl hl1900.oneCell s_23 (by repeat (constructor)) bx1906 oT s1903 fun w1909 s1910 m1911 k1912 bx1913=>(?_))
   have hl1888:=hl1888.mv m1911
   have hl1900:=hl1900.mv m1911
   have bx1893:=bx1893.keep k1912 (BH ne1908)
   refine AF (AC (?_))
   refine AG (?_)
   refine AB kR (AA (BI U32_ rfl (v1887) rfl bx1893 rfl (AA (DI U32_ DM .i64 (0:Int) 0 rfl rfl rfl hl1888 oM fun a1914 hp1915=>(AA (BM 4 GM (((l.take (((l[0]!).threshold).toNat))[0]!).data) rfl hp1915 (fun _ _ _ h=>FL h) fun a1916 hp1917=>(AA (BW U23_ rfl rfl hp1917 fun v1918 hl1919=>(?_)))))))))
   have:=hl1919.len_le
   refine AA (CG U23_ rfl hl1919 (?_))
   obtain ⟨B1920,s1921,m1922,hp1923,hk1924⟩:=bx1913.publish (E:=(Enc.slice Enc.u8)) (u:=MX (l.take (((l[0]!).threshold).toNat))) ⟨_,rfl,hl1900⟩ s1910 (by repeat (constructor))
   have hin_b1864:b1864∈B1920:=hk1924 b1864 (by repeat (constructor)) ne1908
   have hl1888:=hl1888.mv m1922
   have bx1893:=bx1893.keep (Keep.refl [] _) (by simp)
   obtain ⟨B1925,s1926,m1927,hp1928,hk1929⟩:=bx1893.publish (E:=(Enc.slice Enc.share)) (u:=(l.take (((l[0]!).threshold).toNat))) ⟨_,rfl,hl1888⟩ s1921 (by repeat (assumption))
   have hp1923:=hp1923.mv m1927
   refine AA (DD (first:=[]) (captured:=[.tmp 6, .tmp 1]) [] [vP (some ⟨b1901,0,none⟩),vP (some ⟨b1864,0,none⟩)] rfl rfl (AA (BB (vs:=[vI ((((l.take (((l[0]!).threshold).toNat))[0]!).data).length:Int),vN (.func 62) #[] #[vP (some ⟨b1901,0,none⟩),vP (some ⟨b1864,0,none⟩)]]) NU (KC (O:=B1925++O) ((((l.take (((l[0]!).threshold).toNat))[0]!).data).length:Int) 62 [vP (some ⟨b1901,0,none⟩),vP (some ⟨b1864,0,none⟩)] (fun i_=>(DB (MX (l.take (((l[0]!).threshold).toNat))) (EZ (l.take (((l[0]!).threshold).toNat)) i_) 0).1) w1909 enter_62 (fun w'_ O'_ kk_ hs_ hl_ i_  hc_=>c_join1 (O:=O'_) i_ (⟨b1901,0,none⟩) (MX (l.take (((l[0]!).threshold).toNat))) (⟨b1864,0,none⟩) (l.take (((l[0]!).threshold).toNat)) w'_ (hp1923.on hs_ kk_) (hp1928.on hs_ kk_) oM (by rw [ID];omega) (fun k hk=>by rw [takeS oM,hv.da k oM];rw [take0 oM] at hc_;omega) hl_) (by rw [take0 oM];omega) s1926.lt) rfl s1926 fun v1930 w1931 s1932 m1933 k1934 r1935=>(?_))))
   obtain ⟨_,rfl,hl1936⟩:=r1935
   have:=hl1936.len_le
   refine AA (AD (v1930) rfl (AF (AC (?_))))
   refine AG (?_)
   refine AB kR (AA (AE (v1930) rfl (AA (AD (v1930) rfl (AA (AD (vI 0) rfl (AF (AC (?_)))))))))
   refine AP (AZ rfl (FF rfl rfl rfl rfl) (?_))
   have e:(CO l)=((List.range (((((l.take (((l[0]!).threshold).toNat))[0]!).data).length:Int)).toNat).map (fun i_=>(DB (MX (l.take (((l[0]!).threshold).toNat))) (EZ (l.take (((l[0]!).threshold).toNat)) i_) 0).1),(0:Int)):=by exact joinM_ok oM oM rfl
   exact ⟨_,rfl,s1932.keep,by rw [e];exact ⟨v1930,rfl,hl1936.out⟩⟩
open Go.Fw
section
open Go.RowKit
end
theorem expX_zero (l:List Share):IM l 0=[(0:UInt8)]++MX l:=by simp [IM]
theorem expX_succ (l:List Share) (m:Nat):IM l (m+1)=IM l m++[GP (9+(m:Int))]:=by simp [IM,List.range_succ]
theorem expY_eq {l:List Share} {b:UInt8} {p T:Nat} (h:l.length<T) :
    ((List.replicate T (0:UInt8)).set 0 b).take 1++(EZ l p).take (((List.replicate T (0:UInt8)).set 0 b).length - 1)++((List.replicate T (0:UInt8)).set 0 b).drop (1+(EZ l p).length)=ON l b p (T - 1 - l.length):=by
  obtain ⟨S,rfl⟩:∃ S,T=S+1:=⟨T - 1,by omega⟩
  rw [List.replicate_succ,List.set_cons_zero]
  have h1:(EZ l p).take S=EZ l p:=List.take_of_length_le (by rw [PL];omega)
  simp only [List.take_succ_cons,List.take_zero,List.length_cons,List.length_replicate,Nat.add_sub_cancel,h1,PL]
  rw [show 1+l.length=l.length+1 by omega,List.drop_succ_cons,List.drop_replicate]
  unfold ON
  rfl
theorem coeff_len_le (xs ys:List UInt8):(EL xs ys).1.length≤xs.length:=by
  cases h:FN xs ys with
  | true=>rw [coeff_bad h];simp
  | false=>rw [(PM h).2.1.len];exact Nat.le_refl _
theorem expL_len {l:List Share} {secret:List UInt8} {m:Nat} (h:1+l.length+m≤8):∀ p,(OM l secret m p).length≤8*p
  | 0=>by simp [OM]
  | p+1=>by
    unfold OM
    have h1:=expL_len (secret:=secret) h p
    have h2:=coeff_len_le (IM l m) (ON l secret[p]! p m)
    rw [KA] at h2
    simp only [List.length_append,List.length_drop];omega
theorem u8of_nat' (n:Nat) (h:n<256):(GP (n:Int)).toNat=n:=by
  rw [u8of_nat,UInt8.toNat_ofNat'];omega
theorem u8of_inj {a b:Int} (ha:0≤a) (ha':a<256) (hb:0≤b) (hb':b<256) (h:GP a=GP b):a=b:=by
  obtain ⟨x,rfl⟩:∃ x:Nat,a=(x:Int):=⟨a.toNat,by omega⟩
  obtain ⟨y,rfl⟩:∃ y:Nat,b=(y:Int):=⟨b.toNat,by omega⟩
  have:=congrArg UInt8.toNat h
  rw [u8of_nat' x (by omega),u8of_nat' y (by omega)] at this
  omega
def expI (l:List Share) (i:Nat):Int:=if i=0 then 0 else if i≤l.length then l[i - 1]!.index else 9+((i - 1 - l.length:Nat):Int)
theorem expX_get {l:List Share} {m i:Nat} (h:i<1+l.length+m):(IM l m)[i]! = GP (expI l i):=by
  unfold IM expI
  cases i with
  | zero=>rw [if_pos rfl];rfl
  | succ i=>
    rw [if_neg (by omega),List.cons_append,GS,TE,ID]
    by_cases h1:i<l.length
    · rw [if_pos h1,if_pos (by omega)];unfold MX;rw [GU _ _ _ h1,Nat.add_sub_cancel]
    · rw [if_neg h1,if_neg (by omega),GU _ _ _ (by omega)]
      congr 2
theorem expI_mono {l:List Share} (hg:Good l):∀ (j i:Nat),i<j→expI l i<expI l j:=by
  intro j i hij
  unfold expI
  have hm:=hg.m8
  by_cases hj:j≤l.length
  · rw [if_neg (c:=j=0) (by omega),if_pos hj]
    have h1:=hg.ix (j - 1) (by omega)
    by_cases hi:i=0
    · rw [if_pos hi];omega
    · rw [if_neg hi,if_pos (by omega)];exact hg.mono (j - 1) (i - 1) (by omega) (by omega)
  · rw [if_neg (c:=j=0) (by omega),if_neg hj]
    by_cases hi:i=0
    · rw [if_pos hi];omega
    · rw [if_neg hi]
      by_cases hi2:i≤l.length
      · rw [if_pos hi2];have:=hg.ix (i - 1) (by omega);omega
      · rw [if_neg hi2];omega
theorem TR {l:List Share} (hg:Good l) (i:Nat) (h:i≤100):0≤expI l i∧expI l i<256:=by
  unfold expI
  have hm:=hg.m8
  split
  · omega
  · split
    · have:=hg.ix (i - 1) (by omega);omega
    · omega
theorem expX_nodup {l:List Share} (hg:Good l) {m:Nat} (h:1+l.length+m≤100):(IM l m).Nodup:=by
  rw [LL]
  intro i j hij hj he
  rw [KA] at hj
  rw [expX_get (by omega),expX_get hj] at he
  have h1:=TR hg i (by omega)
  have h2:=TR hg j (by omega)
  have:=u8of_inj h1.1 h1.2 h2.1 h2.2 he
  have:=expI_mono hg j i hij
  omega
theorem exp_right {l:List Share} (hg:Good l) {m:Nat} (h:1+l.length+m≤100) (b:UInt8) (p:Nat):FN (IM l m) (ON l b p m)=false:=
  (RL _ _).2 ⟨by rw [KA,expY_len],expX_nodup hg h⟩
theorem exp_len {l:List Share} (hg:Good l) {m:Nat} (h:1+l.length+m≤100) (b:UInt8) (p:Nat):(EL (IM l m) (ON l b p m)).1.length=1+l.length+m:=by
  rw [(PM (exp_right hg h b p)).2.1.len,KA]
theorem QE {l:List Share} {secret:List UInt8} {e:Int} (h:BP l≠0) (he:BP l=e):BJ l secret=([],e):=by
  unfold BJ;rw [if_pos h,he]
theorem LH {l:List Share} {secret:List UInt8} {e:Int} (h:BP l=0) (h2:l[0]!.threshold≤(l.length:Int)) (he:(80:Int)=e):BJ l secret=([],e):=by
  unfold BJ;rw [if_neg (by omega),if_pos h2,he]
theorem QQ {l:List Share} {secret:List UInt8} {e:Int} (h:BP l=0) (h2:(l.length:Int)<l[0]!.threshold) (h3:(secret.length:Int)≠(l[0]!.data.length:Int)) (he:(1:Int)=e):BJ l secret=([],e):=by
  unfold BJ;rw [if_neg (by omega),if_neg (by omega),if_pos h3,he]
theorem RT {l:List Share} {secret:List UInt8} {x:List UInt8} (h:BP l=0) (h2:(l.length:Int)<l[0]!.threshold) (h3:(secret.length:Int)=(l[0]!.data.length:Int)) (hx:OM l secret (l[0]!.threshold.toNat - 1 - l.length) secret.length=x):BJ l secret=(x,0):=by
  unfold BJ;rw [if_neg (by omega),if_neg (by omega),if_neg (by omega),hx]
def TJ (l zero:List Share) (n i:Nat):List UInt8:=(List.range n).map fun k=>l[i]!.data[k]! ^^^ zero[i]!.data[k]!
def FR (l:List Share) (f:Share) (zero:List Share) (i:Nat):Share:=⟨l[i]!.epoch+1,l[i]!.index,l[i]!.threshold,l[i]!.many,TJ l zero f.data.length i⟩
def HT (f:Share) (coins:List UInt8):List Share × Int:=BV (List.replicate f.data.length 0) f.epoch f.threshold f.many coins
def EC (l:List Share) (coins:List UInt8):Int:=if BP l≠0 then BP l else if (l.length:Int)≠l[0]!.many then 80 else if l[0]!.epoch=1048576 then 81 else (HT l[0]! coins).2
def KN (l:List Share) (coins:List UInt8):List Share:=(List.range l.length).map fun i=>FR l l[0]! (HT l[0]! coins).1 i
def CN (l:List Share) (coins:List UInt8):List Share × Int:=if EC l coins=0 then (KN l coins,0) else ([],EC l coins)
theorem SA {l:List Share} {coins:List UInt8} {x:List Share} (h:EC l coins=0) (hx:KN l coins=x):CN l coins=(x,0):=by
  unfold CN;rw [if_pos h,hx]
theorem HZ {l:List Share} {coins:List UInt8} {e:Int} (h:EC l coins=e) (he:e≠0):CN l coins=([],e):=by
  unfold CN;rw [if_neg (by rw [h];exact he),h]
theorem MG (secret:List UInt8) (epoch threshold many:Int) (coins:List UInt8):(BV secret epoch threshold many coins).2=ED secret epoch threshold many coins:=by
  unfold BV;split
  · rename_i h;rw [h]
  · rfl
theorem KJ (secret:List UInt8) (epoch threshold many:Int) (coins:List UInt8):(IT secret epoch threshold many coins).length=many.toNat:=by simp [IT]
theorem PE {secret:List UInt8} {epoch threshold many:Int} {coins:List UInt8} {k:Nat} (h:k<many.toNat):(IT secret epoch threshold many coins)[k]! = EX secret (polysM secret coins threshold) epoch threshold many k:=GU _ _ _ h
theorem NH (secret:List UInt8) (polys:List (List UInt8)) (epoch threshold many:Int) (k:Nat):(EX secret polys epoch threshold many k).data.length=secret.length:=by simp [EX]
theorem JL {secret:List UInt8} {epoch threshold many:Int} {coins:List UInt8} (h:(BV secret epoch threshold many coins).2=0):ED secret epoch threshold many coins=0∧(BV secret epoch threshold many coins).1=IT secret epoch threshold many coins:=by
  rw [MG] at h
  exact ⟨h,by unfold BV;rw [if_pos h]⟩
theorem UZ {f:Share} {coins:List UInt8} (h:(HT f coins).2=0):(HT f coins).1.length=f.many.toNat:=by
  unfold HT at *;rw [(JL h).2,KJ]
theorem UK {f:Share} {coins:List UInt8} (h:(HT f coins).2=0) {k:Nat} (hk:k<f.many.toNat):(HT f coins).1[k]!.data.length=f.data.length:=by
  unfold HT at *;rw [(JL h).2,PE hk,NH,List.length_replicate]
open Go.Fw Go.RowKit
set_option maxHeartbeats 4000000 in
set_option maxRecDepth 100000 in
theorem VO {O:List Nat} (l_v:Value) (l:List Share) (secret_v:Value) (secret:List UInt8) (w:World) (h_l:BG Enc.share w O l_v l) (h_secret:BG Enc.u8 w O secret_v secret) (hO:∀ b∈O,b<w.heap.size):CF Try.prog 15 [l_v,secret_v] w (fun v w'=>∃ (x0:Value),v = .tuple #[x0,vI ((BJ l secret).2)]∧(∀ b,x0.ownBlock=some b→w.heap.size≤b)∧EJ Enc.u8 5 w.heap.size (x0.ownBlock.toList++(O)) w' x0 ((BJ l secret).1)):= by
 have lim_l:=h_l.len_le
 have h_l:BG Enc.share w ([]++O) l_v l:=h_l
 have lim_secret:=h_secret.len_le
 have h_secret:BG Enc.u8 w ([]++O) secret_v secret:=h_secret
 have s0:St w O w []:=St.start hO
 refine BQ 86 Try.func15 rfl rfl oT (fun F0=>?_)
 refine AG (?_)
 refine AB kR (AA (AD (.slice none 0 0) rfl (AA (AD (vI 0) rfl (AF (AC (?_)))))))
 refine AG (?_)
 refine AG (?_)
 refine AB kR (AA (AE (l_v) rfl (AA (BB (vs:=[l_v]) LT (LW (O:=[]++O) l_v l w h_l s0.lt) rfl s0 fun v1937 w1938 s1939 m1940 k1941 r1942=>(?_)))))
 obtain rfl:=r1942
 have h_l:=h_l.mv m1940
 have h_secret:=h_secret.mv m1940
 refine AA (AD (vI (BP l)) rfl (AF (AC (?_))))
 refine AG (?_)
 refine AB kR (AA (AE (vI (BP l)) rfl (AA (CV .i64 (BP l) (0:Int) rfl rfl (AF (AC (?_)))))))
 refine AO ((BP l) != (0:Int)) rfl rfl (fun hc1943=>?_) (fun hc1943=>?_)
 ·have hp1944:BP l≠(0:Int):=by simpa using hc1943
  refine AG (?_)
  refine AB kR (AA (AE (vI (BP l)) rfl (AA (AD (.slice none 0 0) rfl (AA (AD (vI (BP l)) rfl (AF (AC (?_)))))))))
  refine AP (AR (AZ rfl (FF rfl rfl rfl rfl) (?_)))
  have e:(BJ l secret)=([],BP l):=by exact QE oM rfl
  exact ⟨_,rfl,s1939.keep,by rw [e];exact ⟨.slice none 0 0,rfl,(fun b hb=>by simp [Value.ownBlock] at hb),EJ.nil _ _ _ _ _⟩⟩
 ·have hp1945:BP l=(0:Int):=by simpa using hc1943
  have hv:=(EN l).1 hp1945
  have hpos:=hv.pos
  have ht1:=hv.t1
  have htm:=hv.tm
  have hm8:=hv.m8
  have hd64:=hv.d64
  refine AU (AC (?_))
  refine AG (?_)
  refine AB kR (AA (AE (l_v) rfl (AA (DI U32_ DM .i64 (0:Int) 0 rfl rfl rfl h_l oM fun a1946 hp1947=>(AA (BM 2 KL ((l[0]!).threshold) rfl hp1947 (fun _ _ _ h=>LZ h) fun a1948 hp1949=>(AA (CE U3_ rfl rfl hp1949 (AA (AE (l_v) rfl (AA (CG U32_ rfl h_l (AA (AD (vI ((l[0]!).threshold)) rfl (AA (AD (vI (l.length:Int)) rfl (AF (AC (?_)))))))))))))))))))
  refine AG (?_)
  refine AG (?_)
  refine AB kR (AA (AE (vI (l.length:Int)) rfl (AA (AE (vI ((l[0]!).threshold)) rfl (AA (KI .i64 (l.length:Int) ((l[0]!).threshold) rfl rfl (AF (AC (?_)))))))))
  refine AO (decide ((l[0]!).threshold≤(l.length:Int))) rfl rfl (fun hc1950=>?_) (fun hc1950=>?_)
  ·have hp1951:(l[0]!).threshold≤(l.length:Int):=by simpa using hc1950
   refine AG (?_)
   refine AB kR (AA (AD (.slice none 0 0) rfl (AA (AD (vI 80) rfl (AF (AC (?_)))))))
   refine AP (AR (AZ rfl (FF rfl rfl rfl rfl) (?_)))
   have e:(BJ l secret)=([],(80:Int)):=by exact LH oM oM rfl
   exact ⟨_,rfl,s1939.keep,by rw [e];exact ⟨.slice none 0 0,rfl,(fun b hb=>by simp [Value.ownBlock] at hb),EJ.nil _ _ _ _ _⟩⟩
  ·have hp1952:(l.length:Int)<(l[0]!).threshold:=by simpa using hc1950
   refine AU (AC (?_))
   refine AG (?_)
   refine AG (?_)
   refine AB kR (AA (AE (secret_v) rfl (AA (CG U23_ rfl h_secret (AA (AE (l_v) rfl (AA (DI U32_ DM .i64 (0:Int) 0 rfl rfl rfl h_l oM fun a1953 hp1954=>(AA (BM 4 GM ((l[0]!).data) rfl hp1954 (fun _ _ _ h=>FL h) fun a1955 hp1956=>(AA (BW U23_ rfl rfl hp1956 fun v1957 hl1958=>(?_)))))))))))))
   have:=hl1958.len_le
   refine AA (CG U23_ rfl hl1958 (AA (CV .i64 (secret.length:Int) (((l[0]!).data).length:Int) rfl rfl (AF (AC (?_))))))
   refine AO ((secret.length:Int) != (((l[0]!).data).length:Int)) rfl rfl (fun hc1959=>?_) (fun hc1959=>?_)
   ·have hp1960:(secret.length:Int)≠(((l[0]!).data).length:Int):=by simpa using hc1959
    refine AG (?_)
    refine AB kR (AA (AD (.slice none 0 0) rfl (AA (AD (vI 1) rfl (AF (AC (?_)))))))
    refine AP (AR (AZ rfl (FF rfl rfl rfl rfl) (?_)))
    have e:(BJ l secret)=([],(1:Int)):=by exact QQ oM oM oM rfl
    exact ⟨_,rfl,s1939.keep,by rw [e];exact ⟨.slice none 0 0,rfl,(fun b hb=>by simp [Value.ownBlock] at hb),EJ.nil _ _ _ _ _⟩⟩
   ·have hp1961:(secret.length:Int)=(((l[0]!).data).length:Int):=by simpa using hc1959
    refine AU (AC (?_))
    refine AG (?_)
    refine AB kR (AA (HP (E:=Enc.u8) (xs:=[.const (vB (0:UInt8))]) U23_ IJ z_5 (by decide) [vB (0:UInt8)] [[vB (0:UInt8)]] [(0:UInt8)] rfl rfl rfl (Parts.cons rfl rfl (Parts.nil _ _ _)) oT s1939 fun v1966 b1968 w1962 e1969 hb1970 s1963 m1964 k1965 hl1967=>(?_)))
    have hB1971:∀ b,v1966.ownBlock=some b→b∈(b1968 :: []):=fun b hb=>by rw [hb1970] at hb;cases hb;simp
    clear e1969 hb1970
    have h_l:=h_l.mv m1964
    have h_secret:=h_secret.mv m1964
    refine AA (AE (l_v) rfl (AA (BB (vs:=[l_v]) enter_41 (VV (O:=(b1968 :: [])++O) l_v l w1962 h_l oM s1963.lt) rfl s1963 fun v1972 w1973 s1974 m1975 k1976 r1977=>(?_))))
    obtain ⟨_,rfl,hl1978⟩:=r1977
    have:=hl1978.len_le
    have h_l:=h_l.mv m1975
    have h_secret:=h_secret.mv m1975
    have hl1967:=hl1967.mv m1975 k1976 (by simp)
    refine AA (DG (E:=Enc.u8) (l:=[(0:UInt8)]) (m:=MX l) U23_ i_5 rfl (by decide) rfl rfl hl1967 hl1978 (fun _ hb=>.inl hb) hB1971 (by rw [ID];simp;omega) (by rw [ID];simp [maxLen];omega) s1974 fun v1983 w1979 B1985 hB1986 at1987 sub1988 s1980 m1981 k1982 ho1984=>(?_))
    have h_l:=h_l.mv m1981
    have h_secret:=h_secret.mv m1981
    refine AA (AD (v1983) rfl (AF (AC (?_))))
    refine AG (?_)
    refine AG (?_)
    refine AB kR (AA (AE (vI ((l[0]!).threshold)) rfl (AA (HW .i64 ((l[0]!).threshold) (1:Int) (((l[0]!.threshold.toNat - 1:Nat):Int)) rfl rfl (FO oM oM) (AA (AE (vI (l.length:Int)) rfl (AA (HW .i64 ((l[0]!.threshold.toNat - 1:Nat):Int) (l.length:Int) ((((l[0]!.threshold.toNat - 1 - l.length):Nat):Int)) rfl rfl (FO oM oM) (AA (AE (vI 0) rfl (AF (AC (?_)))))))))))))
    refine BR (?_)
    refine DH (fun mI FI wI=>∃ (q:Nat) (vo0_9:Value) (B:List Nat),q≤(l[0]!.threshold.toNat - 1 - l.length)∧mI=(l[0]!.threshold.toNat - 1 - l.length) - q∧(∃ F1,FI=FT F1 [(0,l_v),(1,secret_v),(4,nS),(7,vI ((l[0]!).threshold)),(9,vo0_9),(45,vI (((l[0]!.threshold.toNat - 1 - l.length):Nat):Int)),(46,vI ((q:Nat):Int)),(86,undef)])∧St w O wI B∧EJ Enc.u8 5 w.heap.size (B++O) wI vo0_9 ((IM l q))∧(∀ b,vo0_9.ownBlock=some b→b∈B)∧BG Enc.share wI (B++O) (l_v) (l)∧BG Enc.u8 wI (B++O) (secret_v) (secret)) ((l[0]!.threshold.toNat - 1 - l.length) - (0)) ?_ ?_
    ·exact ⟨(0),v1983,B1985,oM,rfl,⟨_,AX _ ⟨rfl,rfl,rfl,rfl,rfl,rfl,(by rfl),rfl,trivial⟩⟩,s1980,(by rw [show (IM l (0))=([(0:UInt8)])++(MX l) from expX_zero l];exact ho1984),hB1986,h_l,h_secret⟩
    ·intro ml0 F wl0 hI
     clear h_l h_secret
     obtain ⟨q,vo0_9,Bl0,hr0_0,hm0,⟨Fl0,rfl⟩,sl0,ho0_9,hB0_9,h_l,h_secret⟩:=hI
     refine AG (?_)
     refine AB kR (AA (DW .i64 ((q:Nat):Int) (((l[0]!.threshold.toNat - 1 - l.length):Nat):Int) rfl rfl (AF (AC (?_)))))
     refine AG (?_)
     refine AO (decide (((q:Nat):Int)<(((l[0]!.threshold.toNat - 1 - l.length):Nat):Int))) rfl rfl (fun hc1989=>?_) (fun hc1989=>?_)
     ·have hp1990:((q:Nat):Int)<(((l[0]!.threshold.toNat - 1 - l.length):Nat):Int):=by simpa using hc1989
      refine AU (AC (?_))
      refine AG (?_)
      refine BR (?_)
      refine AG (?_)
      refine AB kR (AA (AE (vI ((q:Nat):Int)) rfl (AA (AD (vI ((q:Nat):Int)) rfl (AF (AC (?_)))))))
      refine AB kR (AA (AE (vo0_9) rfl (AA (AE (vI ((q:Nat):Int)) rfl (AA (DC .i64 (9:Int) ((q:Nat):Int) ((9:Int)+((q:Nat):Int)) rfl rfl (FO oM oM) (AA (o_u8of .i64 U3_ U5_ ((9:Int)+((q:Nat):Int)) rfl (AA (IK (E:=Enc.u8) (xs:=[.tmp 52]) U23_ IJ z_5 (by decide) [vB (GP ((9:Int)+((q:Nat):Int)))] [[vB (GP ((9:Int)+((q:Nat):Int)))]] [GP ((9:Int)+((q:Nat):Int))] rfl rfl rfl (Parts.cons rfl rfl (Parts.nil _ _ _)) oT sl0 fun v1995 w1991 s1992 m1993 k1994 hl1996=>(?_)))))))))))
      have h_l:=h_l.mv m1993
      have h_secret:=h_secret.mv m1993
      have ho0_9:=ho0_9.mv m1993 k1994 (by simp)
      have:=hl1996.len_le
      refine AA (DG (E:=Enc.u8) (l:=(IM l q)) (m:=[GP ((9:Int)+((q:Nat):Int))]) U23_ i_5 rfl (by decide) rfl rfl ho0_9 hl1996 (fun _ hb=>.inl hb) hB0_9 (by rw [KA];simp;omega) (by rw [KA];simp [maxLen];omega) s1992 fun v2001 w1997 B2003 hB2004 at2005 sub2006 s1998 m1999 k2000 ho2002=>(?_))
      have h_l:=h_l.mv m1999
      have h_secret:=h_secret.mv m1999
      refine AA (AD (v2001) rfl (AF (CI (AC (?_)))))
      refine AB kR (AA (DC .i64 ((q:Nat):Int) (1:Int) (((q+1:Nat):Int)) rfl rfl (FO oM oM) (AA (AE (vI ((q+1:Nat):Int)) rfl (AF (AC (?_)))))))
      exact ⟨_,oM,(q+1),v2001,B2003,oM,rfl,⟨_,AX _ ⟨rfl,rfl,rfl,rfl,rfl,rfl,(by rfl),rfl,trivial⟩⟩,s1998,(by rw [show (IM l (q+1))=(IM l q)++([GP ((9:Int)+((q:Nat):Int))]) from expX_succ _ _];exact ho2002),hB2004,h_l,h_secret⟩
     ·have hp2007:(((l[0]!.threshold.toNat - 1 - l.length):Nat):Int)≤((q:Nat):Int):=by simpa using hc1989
      obtain rfl:q=(l[0]!.threshold.toNat - 1 - l.length):=by omega
      refine DE (CC (CC (CY (AC (?_)))))
      refine AG (?_)
      refine AG (?_)
      refine AB kR (AA (AE (secret_v) rfl (AA (CG U23_ rfl h_secret (AA (AE (vI 0) rfl (AF (AC (?_)))))))))
      refine BR (?_)
      obtain ⟨B2008,s2009,m2010,hl2011,hk2012⟩:=ho0_9.publish sl0
      have lim2013:=hl2011.len_le
      have h_l:=h_l.mv m2010
      have h_secret:=h_secret.mv m2010
      refine DH (fun mI FI wI=>∃ (k:Nat) (vo1_4:Value) (B:List Nat),k≤secret.length∧mI=secret.length - k∧(∃ F1,FI=FT F1 [(0,l_v),(4,vo1_4),(7,vI ((l[0]!).threshold)),(9,vo0_9),(56,secret_v),(57,vI (secret.length:Int)),(58,vI ((k:Nat):Int)),(86,undef)])∧St w O wI B∧EJ Enc.u8 5 w.heap.size (B++O) wI vo1_4 ((OM l secret (l[0]!.threshold.toNat - 1 - l.length) k))∧(∀ b,vo1_4.ownBlock=some b→b∈B)∧BG Enc.share wI (B++O) (l_v) (l)∧BG Enc.u8 wI (B++O) (vo0_9) ((IM l (l[0]!.threshold.toNat - 1 - l.length)))∧BG Enc.u8 wI (B++O) (secret_v) (secret)) (secret.length - (0)) ?_ ?_
      ·exact ⟨(0),(.slice none 0 0),B2008,oM,rfl,⟨_,AX _ ⟨rfl,rfl,rfl,rfl,rfl,rfl,(by rfl),rfl,trivial⟩⟩,s2009,(by rw [show (OM l secret (l[0]!.threshold.toNat - 1 - l.length) (0))=[] from rfl];exact (EJ.nil Enc.u8 5 _ _ _)),(by intro b hb;simp [Value.ownBlock] at hb),h_l,hl2011,h_secret⟩
      ·intro ml1 F wl1 hI
       clear h_l hl2011 h_secret
       obtain ⟨k,vo1_4,Bl1,hr1_0,hm1,⟨Fl1,rfl⟩,sl1,ho1_4,hB1_4,h_l,hl2011,h_secret⟩:=hI
       have hco:=fun b=>exp_len hv.toGood (m:=(l[0]!.threshold.toNat - 1 - l.length)) oM b k
       have hel:=expL_len (l:=l) (secret:=secret) (m:=(l[0]!.threshold.toNat - 1 - l.length)) oM k
       refine AG (?_)
       refine AB kR (AA (DW .i64 ((k:Nat):Int) (secret.length:Int) rfl rfl (AF (AC (?_)))))
       refine AG (?_)
       refine AO (decide (((k:Nat):Int)<(secret.length:Int))) rfl rfl (fun hc2014=>?_) (fun hc2014=>?_)
       ·have hp2015:((k:Nat):Int)<(secret.length:Int):=by simpa using hc2014
        refine AU (AC (?_))
        refine AG (?_)
        refine BR (?_)
        refine AG (?_)
        refine AB kR (AA (AE (vI ((k:Nat):Int)) rfl (AA (DI U23_ IJ .i64 ((k:Nat):Int) k rfl rfl rfl h_secret oM fun a2016 hp2017=>(AA (HJ U5_ rfl rfl hp2017 (AA (AD (vI ((k:Nat):Int)) rfl (AA (AD (vB (secret[k]!)) rfl (AF (AC (?_)))))))))))))
        refine AG (?_)
        refine AB kR (AA (AE (vI ((l[0]!).threshold)) rfl (AA (TS (E:=Enc.u8) U23_ i_5 [vB (0:UInt8)] rfl rfl (by decide) (0:UInt8) (fun _ _=>rfl) .i64 .i64 ((l[0]!).threshold) ((l[0]!).threshold) (((l[0]!).threshold).toNat) (((l[0]!).threshold).toNat) rfl rfl oM oM oM oM (by simp only [maxLen];omega) sl1 fun v2022 b2024 w2018 e2025 hb2026 s2019 m2020 k2021 hl2023=>(?_)))))
        have ne2027:∀ b,vo1_4.ownBlock=some b→v2022.ownBlock≠some b:=fun b hb=>by have:=(ho1_4.lt b hb).2;rw [hb2026];intro e;cases e;omega
        have ne2027':∀ b,v2022.ownBlock=some b→vo1_4.ownBlock≠some b:=fun b hb e=>ne2027 b e hb
        have hB2028:∀ b,v2022.ownBlock=some b→b∈(b2024 :: Bl1):=fun b hb=>by rw [hb2026] at hb;cases hb;simp
        clear e2025 hb2026
        have hB1_4:∀ b,vo1_4.ownBlock=some b→b∈(b2024 :: Bl1):=fun b hb=>List.mem_cons_of_mem _ (hB1_4 b hb)
        have h_l:=h_l.mv m2020
        have ho1_4:=ho1_4.mv m2020 k2021 (by simp)
        have hl2011:=hl2011.mv m2020
        have h_secret:=h_secret.mv m2020
        refine AA (AD (v2022) rfl (AF (AC (?_))))
        refine AG (?_)
        refine AB kR (AA (AE (v2022) rfl (AA (AE (vB (secret[k]!)) rfl (AA (ER U23_ IJ .i64 (0:Int) 0 rfl rfl rfl hl2023 (by (simp only [List.length_set,List.length_append,List.length_cons,List.length_nil,List.length_replicate];omega)) fun b2029 hb2030=>(BY (KM (secret[k]!) IJ rfl rfl rfl hl2023 hb2030 (hB2028 _ hb2030) (by (simp only [List.length_set,List.length_append,List.length_cons,List.length_nil,List.length_replicate];omega)) rfl s2019 fun w2031 s2032 m2033 k2034 bx2035=>(?_)))))))))
        have h_l:=h_l.mv m2033
        have ho1_4:=ho1_4.mv m2033 k2034 (fun b hb=>by simp only [List.mem_singleton];rintro rfl;exact absurd hb2030 (ne2027 _ hb))
        have hl2011:=hl2011.mv m2033
        have h_secret:=h_secret.mv m2033
        refine AF (AC (?_))
        refine AG (?_)
        refine cw_draw' 5 _ _ [DF v2022,fun (vT:Value) (_:World)=>SubOf v2022 1 1 vT,fun (vT:Value) (wT:World)=>BG Enc.share wT ((b2024 :: Bl1)++O) vT (l),DF (vI ((k:Nat):Int)),fun (vT:Value) (wT:World)=>BG Enc.u8 wT ((b2024 :: Bl1)++O) vT (EZ l k)] kR kR kR kR rfl rfl ⟨kI,fun _ _ _ h _=>h,fun _ _ _ h k=>h.mv (Mv.of_keep k),kI,fun _ _ _ h k=>h.mv (Mv.of_keep k),trivial⟩ ⟨?_,?_,?_,?_,?_,trivial⟩ ?_
        ·intro F1 w1 k1 hf hd
         obtain ⟨F2,rfl⟩:=AL (F:=F1) [(13,v2022)] ⟨hf 13 kR,trivial⟩
         exact AH rfl ((AE (v2022) rfl (⟨(Keep.refl _ _),rfl⟩)))
        ·intro F1 w1 k1 hf hd
         have k0:=(Keep.drew [] w2031).trans k1
         have m1:Mv (b2024 :: Bl1) w2031 (b2024 :: Bl1) w1:=Mv.of_keep k0
         have bx2035:=bx2035.mv m1 k0 (by simp)
         obtain ⟨F2,rfl⟩:=AL (F:=F1) [(68,v2022)] ⟨hd 0 68 kR,trivial⟩
         exact AH rfl ((TD U23_ IJ 1 .i64 (1:Int) rfl rfl rfl (by rw [List.length_set,List.length_replicate];omega) bx2035 fun v2036 hs2037=>(⟨(Keep.refl _ _),hs2037⟩)))
        ·intro F1 w1 k1 hf hd
         have k0:=(Keep.drew [] w2031).trans k1
         have m1:Mv (b2024 :: Bl1) w2031 (b2024 :: Bl1) w1:=Mv.of_keep k0
         have h_l:=h_l.mv m1
         obtain ⟨F2,rfl⟩:=AL (F:=F1) [(0,l_v)] ⟨hf 0 kR,trivial⟩
         exact AH rfl ((AE (l_v) rfl (⟨(Keep.refl _ _),h_l⟩)))
        ·intro F1 w1 k1 hf hd
         obtain ⟨F2,rfl⟩:=AL (F:=F1) [(11,vI ((k:Nat):Int))] ⟨hf 11 kR,trivial⟩
         exact AH rfl ((AE (vI ((k:Nat):Int)) rfl (⟨(Keep.refl _ _),rfl⟩)))
        ·intro F1 w1 k1 hf hd
         have k0:=(Keep.drew [] w2031).trans k1
         have s1:=s2032.call k0
         obtain ⟨v2038,e2040,hl2039⟩:∃ v,F1 70=v∧BG Enc.share w1 ((b2024 :: Bl1)++O) v (l):=⟨_,rfl,hd 2 70 kR⟩
         have:=hl2039.len_le
         obtain ⟨F2,rfl⟩:=AL (F:=F1) [(70,v2038),(71,vI ((k:Nat):Int))] ⟨e2040,hd 3 71 kR,trivial⟩
         refine AH rfl ((BB (vs:=[v2038,vI ((k:Nat):Int)]) enter_42 (c_column (O:=(b2024 :: Bl1)++O) v2038 l k w1 hl2039 oM (fun j hj=>by rw [hv.da j hj];omega) s1.lt) rfl s1 fun v2041 w2042 s2043 m2044 k2045 r2046=>(?_)))
         obtain ⟨_,rfl,hl2047⟩:=r2046
         have:=hl2047.len_le
         exact ⟨k2045,hl2047⟩
        intro F2049 w2050 k2048 hT2051 hF2052
        have s2053:=s2032.call k2048
        have m2054:Mv (b2024 :: Bl1) w2031 (b2024 :: Bl1) w2050:=Mv.of_keep k2048
        have h_l:=h_l.mv m2054
        have ho1_4:=ho1_4.mv m2054 k2048 (by simp)
        have hl2011:=hl2011.mv m2054
        have bx2035:=bx2035.mv m2054 k2048 (by simp)
        have h_secret:=h_secret.mv m2054
        obtain ⟨v2057,e2058,hs2059⟩:∃ v,F2049 69=v∧SubOf v2022 1 1 v:=⟨_,rfl,hT2051 1 69 kR (by decide)⟩
        obtain ⟨v2060,e2062,hl2061⟩:∃ v,F2049 72=v∧BG Enc.u8 w2050 ((b2024 :: Bl1)++O) v (EZ l k):=⟨_,rfl,hT2051 4 72 kR (by decide)⟩
        have:=hl2061.len_le
        obtain ⟨F2,rfl⟩:=AL (F:=F2049) [(0,l_v),(4,vo1_4),(7,vI ((l[0]!).threshold)),(9,vo0_9),(13,v2022),(56,secret_v),(57,vI (secret.length:Int)),(58,vI ((k:Nat):Int)),(86,undef),(69,v2057),(72,v2060)] ⟨hF2052 0 kR,hF2052 4 kR,hF2052 7 kR,hF2052 9 kR,hF2052 13 kR,hF2052 56 kR,hF2052 57 kR,hF2052 58 kR,hF2052 86 kR,e2058,e2062,trivial⟩
        clear hT2051 hF2052
        refine AA (o_copyO (l:=((List.replicate (((l[0]!).threshold).toNat) (0:UInt8)).set 0 (secret[k]!))) (m:=(EZ l k)) U23_ IJ rfl rfl hs2059 bx2035 hB2028 hl2061 (by rw [List.length_set,List.length_replicate];omega) s2053 fun v2063 w2064 s2065 m2066 k2067 ho2068=>(?_))
        rw [show ((List.replicate (((l[0]!).threshold).toNat) (0:UInt8)).set 0 (secret[k]!)).take 1++(EZ l k).take (((List.replicate (((l[0]!).threshold).toNat) (0:UInt8)).set 0 (secret[k]!)).length - 1)++((List.replicate (((l[0]!).threshold).toNat) (0:UInt8)).set 0 (secret[k]!)).drop (1+(EZ l k).length)=ON l secret[k]! k (l[0]!.threshold.toNat - 1 - l.length) from expY_eq oM] at ho2068
        have h_l:=h_l.mv m2066
        have ho1_4:=ho1_4.mv m2066 k2067 (fun b hb=>by simp only [Option.mem_toList];exact ne2027 b hb)
        have hl2011:=hl2011.mv m2066
        have h_secret:=h_secret.mv m2066
        refine AF (AC (?_))
        refine AG (?_)
        refine AB kR (AA (AE (vo0_9) rfl (AA (AE (v2022) rfl (?_)))))
        obtain ⟨B2069,s2070,m2071,hl2072,hk2073⟩:=ho2068.publish s2065
        have hB1_4:∀ b,vo1_4.ownBlock=some b→b∈B2069:=fun b hb=>hk2073 b (hB1_4 b hb) (ne2027 b hb)
        have lim2074:=hl2072.len_le
        have h_l:=h_l.mv m2071
        have ho1_4:=ho1_4.mv m2071 (Keep.refl [] _) (by simp)
        have hl2011:=hl2011.mv m2071
        have h_secret:=h_secret.mv m2071
        refine AA (BB (vs:=[vo0_9,v2022]) enter_43 (c_coeff (O:=B2069++O) vo0_9 (IM l (l[0]!.threshold.toNat - 1 - l.length)) v2022 (ON l secret[k]! k (l[0]!.threshold.toNat - 1 - l.length)) w2064 hl2011 hl2072 (by rw [KA];omega) s2070.lt) rfl s2070 fun v2075 w2076 s2077 m2078 k2079 r2080=>(?_))
        obtain ⟨x2081,rfl,hl2082⟩:=r2080
        have:=hl2082.len_le
        have h_l:=h_l.mv m2078
        have ho1_4:=ho1_4.mv m2078 k2079 (by simp)
        have hl2011:=hl2011.mv m2078
        have h_secret:=h_secret.mv m2078
        refine AA (AE (vT #[x2081,vI ((EL (IM l (l[0]!.threshold.toNat - 1 - l.length)) (ON l secret[k]! k (l[0]!.threshold.toNat - 1 - l.length))).2)]) rfl (AA (AN (x2081) rfl rfl (AA (AN (vI ((EL (IM l (l[0]!.threshold.toNat - 1 - l.length)) (ON l secret[k]! k (l[0]!.threshold.toNat - 1 - l.length))).2)) rfl rfl (AA (AD (x2081) rfl (AA (AD (vI ((EL (IM l (l[0]!.threshold.toNat - 1 - l.length)) (ON l secret[k]! k (l[0]!.threshold.toNat - 1 - l.length))).2)) rfl (AF (AC (?_))))))))))))
        refine AB kR (AA (AE (vo1_4) rfl (AA (AE (x2081) rfl (AA (NJ U23_ IJ 1 (((EL (IM l (l[0]!.threshold.toNat - 1 - l.length)) (ON l secret[k]! k (l[0]!.threshold.toNat - 1 - l.length))).1).length) rfl (.inr ⟨.const (vI 1), .i64,(1:Int),rfl,rfl,rfl⟩) (.inl ⟨rfl,rfl⟩) (by rw [hco];omega) (Nat.le_refl _) hl2082 fun v2083 hl2084=>(?_)))))))
        rw [List.take_length] at hl2084
        refine AA (DG (E:=Enc.u8) (l:=(OM l secret (l[0]!.threshold.toNat - 1 - l.length) k)) (m:=(((EL (IM l (l[0]!.threshold.toNat - 1 - l.length)) (ON l secret[k]! k (l[0]!.threshold.toNat - 1 - l.length))).1).drop 1)) U23_ i_5 rfl (by decide) rfl rfl ho1_4 hl2084 (fun _ hb=>.inl hb) hB1_4 (by rw [List.length_drop,hco];omega) (by rw [List.length_drop,hco];simp only [maxLen];omega) s2077 fun v2089 w2085 B2091 hB2092 at2093 sub2094 s2086 m2087 k2088 ho2090=>(?_))
        have h_l:=h_l.mv m2087
        have hl2011:=hl2011.mv m2087
        have h_secret:=h_secret.mv m2087
        refine AA (AD (v2089) rfl (AF (CI (AC (?_)))))
        refine AB kR (AA (DC .i64 ((k:Nat):Int) (1:Int) (((k+1:Nat):Int)) rfl rfl (FO oM oM) (AA (AE (vI ((k+1:Nat):Int)) rfl (AF (AC (?_)))))))
        exact ⟨_,oM,(k+1),v2089,B2091,oM,rfl,⟨_,AX _ ⟨rfl,rfl,rfl,rfl,rfl,rfl,(by rfl),rfl,trivial⟩⟩,s2086,(by rw [show (OM l secret (l[0]!.threshold.toNat - 1 - l.length) (k+1))=(OM l secret (l[0]!.threshold.toNat - 1 - l.length) k)++(((EL (IM l (l[0]!.threshold.toNat - 1 - l.length)) (ON l secret[k]! k (l[0]!.threshold.toNat - 1 - l.length))).1).drop 1) from rfl];exact ho2090),hB2092,h_l,hl2011,h_secret⟩
       ·have hp2095:(secret.length:Int)≤((k:Nat):Int):=by simpa using hc2014
        obtain rfl:k=secret.length:=by omega
        refine DE (CC (CC (CY (AC (?_)))))
        refine AG (?_)
        refine AB kR (AA (AE (vo1_4) rfl (AA (AD (vo1_4) rfl (AA (AD (vI 0) rfl (AF (AC (?_)))))))))
        refine AP (AZ rfl (FF rfl rfl rfl rfl) (?_))
        have e:(BJ l secret)=((OM l secret (l[0]!.threshold.toNat - 1 - l.length) secret.length),(0:Int)):=by exact RT oM oM oM rfl
        exact ⟨_,rfl,sl1.keep,by rw [e];exact ⟨vo1_4,rfl,(fun b hb=>(sl1.new b (hB1_4 b hb)).1),(ho1_4.sub (fun x hx=>.inl ((List.mem_append.1 hx).elim (fun h=>List.mem_append_left _ (hB1_4 x (by simpa using h))) (fun h=>List.mem_append_right _ h))))⟩⟩
open Go.Fw Go.RowKit
set_option maxHeartbeats 4000000 in
set_option maxRecDepth 100000 in
theorem c_refresh11 {O:List Nat} (k:Nat) (l_a:Addr) (l:(List Share)) (i_a:Addr) (i:Int) (zero_a:Addr) (zero:(List Share)) (w:World) (h_l:PT (Enc.slice Enc.share) w O (.pointer (some l_a)) l) (h_i:PT Enc.int w O (.pointer (some i_a)) i) (h_zero:PT (Enc.slice Enc.share) w O (.pointer (some zero_a)) zero) (hpre0:0≤i) (hpre1:(i).toNat<l.length) (hpre2:(i).toNat<zero.length) (hpre3:k<l[(i).toNat]!.data.length) (hpre4:k<zero[(i).toNat]!.data.length) (hO:∀ b∈O,b<w.heap.size):CF Try.prog 56 [vI (k:Int), .pointer (some l_a), .pointer (some i_a), .pointer (some zero_a)] w (fun v _=>v=vB (l[(i).toNat]!.data[k]! ^^^ zero[(i).toNat]!.data[k]!)):= by
 have h_l:PT (Enc.slice Enc.share) w ([]++O) (.pointer (some l_a)) l:=h_l
 have h_i:PT Enc.int w ([]++O) (.pointer (some i_a)) i:=h_i
 have h_zero:PT (Enc.slice Enc.share) w ([]++O) (.pointer (some zero_a)) zero:=h_zero
 have s0:St w O w []:=St.start hO
 refine BQ 23 Try.func56 rfl rfl oT (fun F0=>?_)
 refine AG (?_)
 refine AB kR (AA (AD (vB (0:UInt8)) rfl (AF (AC (?_)))))
 refine AG (?_)
 refine cw_draw' 16 _ _ [fun (vT:Value) (wT:World)=>BG Enc.share wT ([]++O) vT (l),DF (vI i),fun (vT:Value) (wT:World)=>∃ aT,vT = .pointer (some aT)∧PT Enc.share wT ([]++O) (.pointer (some aT)) (l[i.toNat]!),fun (vT:Value) (wT:World)=>∃ aT,vT = .pointer (some aT)∧PT (Enc.slice Enc.u8) wT ([]++O) (.pointer (some aT)) ((l[i.toNat]!).data),fun (vT:Value) (wT:World)=>BG Enc.u8 wT ([]++O) vT ((l[i.toNat]!).data),DF (vI (k:Int)),fun (vT:Value) (wT:World)=>∃ aT,vT = .pointer (some aT)∧PT Enc.u8 wT ([]++O) (.pointer (some aT)) (((l[i.toNat]!).data)[k]!),DF (vB (((l[i.toNat]!).data)[k]!)),fun (vT:Value) (wT:World)=>BG Enc.share wT ([]++O) vT (zero),DF (vI i),fun (vT:Value) (wT:World)=>∃ aT,vT = .pointer (some aT)∧PT Enc.share wT ([]++O) (.pointer (some aT)) (zero[i.toNat]!),fun (vT:Value) (wT:World)=>∃ aT,vT = .pointer (some aT)∧PT (Enc.slice Enc.u8) wT ([]++O) (.pointer (some aT)) ((zero[i.toNat]!).data),fun (vT:Value) (wT:World)=>BG Enc.u8 wT ([]++O) vT ((zero[i.toNat]!).data),DF (vI (k:Int)),fun (vT:Value) (wT:World)=>∃ aT,vT = .pointer (some aT)∧PT Enc.u8 wT ([]++O) (.pointer (some aT)) (((zero[i.toNat]!).data)[k]!),DF (vB (((zero[i.toNat]!).data)[k]!))] kR kR kR kR rfl rfl ⟨fun _ _ _ h k=>h.mv (Mv.of_keep k),kI,fun _ _ _ ⟨a,e,h⟩ k=>⟨a,e,h.mv (Mv.of_keep k)⟩,fun _ _ _ ⟨a,e,h⟩ k=>⟨a,e,h.mv (Mv.of_keep k)⟩,fun _ _ _ h k=>h.mv (Mv.of_keep k),kI,fun _ _ _ ⟨a,e,h⟩ k=>⟨a,e,h.mv (Mv.of_keep k)⟩,kI,fun _ _ _ h k=>h.mv (Mv.of_keep k),kI,fun _ _ _ ⟨a,e,h⟩ k=>⟨a,e,h.mv (Mv.of_keep k)⟩,fun _ _ _ ⟨a,e,h⟩ k=>⟨a,e,h.mv (Mv.of_keep k)⟩,fun _ _ _ h k=>h.mv (Mv.of_keep k),kI,fun _ _ _ ⟨a,e,h⟩ k=>⟨a,e,h.mv (Mv.of_keep k)⟩,kI,trivial⟩ ⟨?_,?_,?_,?_,?_,?_,?_,?_,?_,?_,?_,?_,?_,?_,?_,?_,trivial⟩ ?_
 ·intro F1 w1 k1 hf hd
  have k0:=(Keep.drew [] w).trans k1
  have m1:Mv ([]) w ([]) w1:=Mv.of_keep k0
  have h_l:=h_l.mv m1
  obtain ⟨F2,rfl⟩:=AL (F:=F1) [(1,vP (some l_a))] ⟨hf 1 kR,trivial⟩
  refine AH rfl ((BW U32_ rfl rfl h_l fun v2285 hl2286=>(?_)))
  have:=hl2286.len_le
  exact ⟨(Keep.refl _ _),hl2286⟩
 ·intro F1 w1 k1 hf hd
  have k0:=(Keep.drew [] w).trans k1
  have m1:Mv ([]) w ([]) w1:=Mv.of_keep k0
  have h_i:=h_i.mv m1
  obtain ⟨F2,rfl⟩:=AL (F:=F1) [(2,vP (some i_a))] ⟨hf 2 kR,trivial⟩
  exact AH rfl ((CE U3_ rfl rfl h_i (⟨(Keep.refl _ _),rfl⟩)))
 ·intro F1 w1 k1 hf hd
  obtain ⟨v2287,e2289,hl2288⟩:∃ v,F1 6=v∧BG Enc.share w1 ([]++O) v (l):=⟨_,rfl,hd 0 6 kR⟩
  have:=hl2288.len_le
  obtain ⟨F2,rfl⟩:=AL (F:=F1) [(6,v2287),(7,vI i)] ⟨e2289,hd 1 7 kR,trivial⟩
  exact AH rfl ((DI U32_ DM .i64 i i.toNat rfl rfl oM hl2288 oM fun a2290 hp2291=>(⟨(Keep.refl _ _),⟨a2290,rfl,hp2291⟩⟩)))
 ·intro F1 w1 k1 hf hd
  obtain ⟨a2292,e2294,hp2293⟩:∃ aX_,F1 8 = .pointer (some aX_)∧PT Enc.share w1 ([]++O) (.pointer (some aX_)) (l[i.toNat]!):=hd 2 8 kR
  obtain ⟨F2,rfl⟩:=AL (F:=F1) [(8,vP (some a2292))] ⟨e2294,trivial⟩
  exact AH rfl ((BM 4 GM ((l[i.toNat]!).data) rfl hp2293 (fun _ _ _ h=>FL h) fun a2295 hp2296=>(⟨(Keep.refl _ _),⟨a2295,rfl,hp2296⟩⟩)))
 ·intro F1 w1 k1 hf hd
  obtain ⟨a2297,e2299,hp2298⟩:∃ aX_,F1 9 = .pointer (some aX_)∧PT (Enc.slice Enc.u8) w1 ([]++O) (.pointer (some aX_)) ((l[i.toNat]!).data):=hd 3 9 kR
  obtain ⟨F2,rfl⟩:=AL (F:=F1) [(9,vP (some a2297))] ⟨e2299,trivial⟩
  refine AH rfl ((BW U23_ rfl rfl hp2298 fun v2300 hl2301=>(?_)))
  have:=hl2301.len_le
  exact ⟨(Keep.refl _ _),hl2301⟩
 ·intro F1 w1 k1 hf hd
  obtain ⟨F2,rfl⟩:=AL (F:=F1) [(0,vI (k:Int))] ⟨hf 0 kR,trivial⟩
  exact AH rfl ((AE (vI (k:Int)) rfl (⟨(Keep.refl _ _),rfl⟩)))
 ·intro F1 w1 k1 hf hd
  obtain ⟨v2302,e2304,hl2303⟩:∃ v,F1 10=v∧BG Enc.u8 w1 ([]++O) v ((l[i.toNat]!).data):=⟨_,rfl,hd 4 10 kR⟩
  have:=hl2303.len_le
  obtain ⟨F2,rfl⟩:=AL (F:=F1) [(10,v2302),(11,vI (k:Int))] ⟨e2304,hd 5 11 kR,trivial⟩
  exact AH rfl ((DI U23_ IJ .i64 (k:Int) k rfl rfl rfl hl2303 oM fun a2305 hp2306=>(⟨(Keep.refl _ _),⟨a2305,rfl,hp2306⟩⟩)))
 ·intro F1 w1 k1 hf hd
  obtain ⟨a2307,e2309,hp2308⟩:∃ aX_,F1 12 = .pointer (some aX_)∧PT Enc.u8 w1 ([]++O) (.pointer (some aX_)) (((l[i.toNat]!).data)[k]!):=hd 6 12 kR
  obtain ⟨F2,rfl⟩:=AL (F:=F1) [(12,vP (some a2307))] ⟨e2309,trivial⟩
  exact AH rfl ((HJ U5_ rfl rfl hp2308 (⟨(Keep.refl _ _),rfl⟩)))
 ·intro F1 w1 k1 hf hd
  have k0:=(Keep.drew [] w).trans k1
  have m1:Mv ([]) w ([]) w1:=Mv.of_keep k0
  have h_zero:=h_zero.mv m1
  obtain ⟨F2,rfl⟩:=AL (F:=F1) [(3,vP (some zero_a))] ⟨hf 3 kR,trivial⟩
  refine AH rfl ((BW U32_ rfl rfl h_zero fun v2310 hl2311=>(?_)))
  have:=hl2311.len_le
  exact ⟨(Keep.refl _ _),hl2311⟩
 ·intro F1 w1 k1 hf hd
  have k0:=(Keep.drew [] w).trans k1
  have m1:Mv ([]) w ([]) w1:=Mv.of_keep k0
  have h_i:=h_i.mv m1
  obtain ⟨F2,rfl⟩:=AL (F:=F1) [(2,vP (some i_a))] ⟨hf 2 kR,trivial⟩
  exact AH rfl ((CE U3_ rfl rfl h_i (⟨(Keep.refl _ _),rfl⟩)))
 ·intro F1 w1 k1 hf hd
  obtain ⟨v2312,e2314,hl2313⟩:∃ v,F1 14=v∧BG Enc.share w1 ([]++O) v (zero):=⟨_,rfl,hd 8 14 kR⟩
  have:=hl2313.len_le
  obtain ⟨F2,rfl⟩:=AL (F:=F1) [(14,v2312),(15,vI i)] ⟨e2314,hd 9 15 kR,trivial⟩
  exact AH rfl ((DI U32_ DM .i64 i i.toNat rfl rfl oM hl2313 oM fun a2315 hp2316=>(⟨(Keep.refl _ _),⟨a2315,rfl,hp2316⟩⟩)))
 ·intro F1 w1 k1 hf hd
  obtain ⟨a2317,e2319,hp2318⟩:∃ aX_,F1 16 = .pointer (some aX_)∧PT Enc.share w1 ([]++O) (.pointer (some aX_)) (zero[i.toNat]!):=hd 10 16 kR
  obtain ⟨F2,rfl⟩:=AL (F:=F1) [(16,vP (some a2317))] ⟨e2319,trivial⟩
  exact AH rfl ((BM 4 GM ((zero[i.toNat]!).data) rfl hp2318 (fun _ _ _ h=>FL h) fun a2320 hp2321=>(⟨(Keep.refl _ _),⟨a2320,rfl,hp2321⟩⟩)))
 ·intro F1 w1 k1 hf hd
  obtain ⟨a2322,e2324,hp2323⟩:∃ aX_,F1 17 = .pointer (some aX_)∧PT (Enc.slice Enc.u8) w1 ([]++O) (.pointer (some aX_)) ((zero[i.toNat]!).data):=hd 11 17 kR
  obtain ⟨F2,rfl⟩:=AL (F:=F1) [(17,vP (some a2322))] ⟨e2324,trivial⟩
  refine AH rfl ((BW U23_ rfl rfl hp2323 fun v2325 hl2326=>(?_)))
  have:=hl2326.len_le
  exact ⟨(Keep.refl _ _),hl2326⟩
 ·intro F1 w1 k1 hf hd
  obtain ⟨F2,rfl⟩:=AL (F:=F1) [(0,vI (k:Int))] ⟨hf 0 kR,trivial⟩
  exact AH rfl ((AE (vI (k:Int)) rfl (⟨(Keep.refl _ _),rfl⟩)))
 ·intro F1 w1 k1 hf hd
  obtain ⟨v2327,e2329,hl2328⟩:∃ v,F1 18=v∧BG Enc.u8 w1 ([]++O) v ((zero[i.toNat]!).data):=⟨_,rfl,hd 12 18 kR⟩
  have:=hl2328.len_le
  obtain ⟨F2,rfl⟩:=AL (F:=F1) [(18,v2327),(19,vI (k:Int))] ⟨e2329,hd 13 19 kR,trivial⟩
  exact AH rfl ((DI U23_ IJ .i64 (k:Int) k rfl rfl rfl hl2328 oM fun a2330 hp2331=>(⟨(Keep.refl _ _),⟨a2330,rfl,hp2331⟩⟩)))
 ·intro F1 w1 k1 hf hd
  obtain ⟨a2332,e2334,hp2333⟩:∃ aX_,F1 20 = .pointer (some aX_)∧PT Enc.u8 w1 ([]++O) (.pointer (some aX_)) (((zero[i.toNat]!).data)[k]!):=hd 14 20 kR
  obtain ⟨F2,rfl⟩:=AL (F:=F1) [(20,vP (some a2332))] ⟨e2334,trivial⟩
  exact AH rfl ((HJ U5_ rfl rfl hp2333 (⟨(Keep.refl _ _),rfl⟩)))
 intro F2336 w2337 k2335 hT2338 hF2339
 have s2340:=s0.call k2335
 obtain ⟨F2,rfl⟩:=AL (F:=F2336) [(5,vB (0:UInt8)),(23,undef),(13,vB (((l[i.toNat]!).data)[k]!)),(21,vB (((zero[i.toNat]!).data)[k]!))] ⟨hF2339 5 kR,hF2339 23 kR,hT2338 7 13 kR (by decide),hT2338 15 21 kR (by decide),trivial⟩
 clear hT2338 hF2339
 refine AA (NQ (((l[i.toNat]!).data)[k]!) (((zero[i.toNat]!).data)[k]!) rfl rfl (AA (AD (vB ((((l[i.toNat]!).data)[k]!) ^^^ (((zero[i.toNat]!).data)[k]!))) rfl (AF (AC (?_))))))
 refine AP (AZ rfl (CS rfl rfl rfl) (?_))
 have e:(l[(i).toNat]!.data[k]! ^^^ zero[(i).toNat]!.data[k]!)=((((l[i.toNat]!).data)[k]!) ^^^ (((zero[i.toNat]!).data)[k]!)):=rfl
 exact ⟨_,rfl,s2340.keep,by rw [e];exact rfl⟩
set_option maxHeartbeats 4000000 in
set_option maxRecDepth 100000 in
theorem SW {O:List Nat} (i:Nat) (l_a:Addr) (l:(List Share)) (f_a:Addr) (f:Share) (zero_a:Addr) (zero:(List Share)) (w:World) (h_l:PT (Enc.slice Enc.share) w O (.pointer (some l_a)) l) (h_f:PT Enc.share w O (.pointer (some f_a)) f) (h_zero:PT (Enc.slice Enc.share) w O (.pointer (some zero_a)) zero) (hpre0:i<l.length) (hpre1:i<zero.length) (hpre2:l[i]!.data.length=f.data.length) (hpre3:zero[i]!.data.length=f.data.length) (hpre4:0≤l[i]!.epoch) (hpre5:l[i]!.epoch≤1048576) (hpre6:f.data.length≤1000) (hO:∀ b∈O,b<w.heap.size):CF Try.prog 55 [vI (i:Int), .pointer (some l_a), .pointer (some f_a), .pointer (some zero_a)] w (fun v w'=>∃ (x0:List Value),v = .agg x0.toArray∧Enc.share.rd w' (O) x0 (FR l f zero i)):= by
 have h_l:PT (Enc.slice Enc.share) w ([]++O) (.pointer (some l_a)) l:=h_l
 have h_f:PT Enc.share w ([]++O) (.pointer (some f_a)) f:=h_f
 have h_zero:PT (Enc.slice Enc.share) w ([]++O) (.pointer (some zero_a)) zero:=h_zero
 have s0:St w O w []:=St.start hO
 refine BQ 22 Try.func55 rfl rfl oT (fun F0=>?_)
 refine AG (?_)
 refine AB kR (AA (DO (E:=Enc.int) (vI (i:Int)) ([vI (i:Int)]) (i:Int) rfl rfl rfl s0 fun a2344 w2345 s2346 m2347 k2348 hp2349=>(?_)))
 have h_l:=h_l.mv m2347
 have h_f:=h_f.mv m2347
 have h_zero:=h_zero.mv m2347
 refine AA (CX [vI 0,vI 0,vI 0,vI 0,nS] MT rfl s2346 fun b2350 w2351 e2356 s2352 m2353 k2354 bx2355=>(?_))
 clear e2356
 have h_l:=h_l.mv m2353
 have h_f:=h_f.mv m2353
 have h_zero:=h_zero.mv m2353
 have hp2349:=hp2349.mv m2353
 refine AF (AC (?_))
 refine AG (?_)
 refine AB kR (AA (BW U32_ rfl rfl h_l fun v2357 hl2358=>(?_)))
 have:=hl2358.len_le
 refine AA (CE U3_ rfl rfl hp2349 (AA (DI U32_ DM .i64 (i:Int) i rfl rfl rfl hl2358 oM fun a2359 hp2360=>(AA (CR U70_ rfl DM rfl hp2360 fun cs2361 hs2362=>(AA (CX [vI 0,vI 0,vI 0,vI 0,nS] MT rfl s2352 fun b2363 w2364 e2369 s2365 m2366 k2367 bx2368=>(?_))))))))
 have ne2370:FH b2350 b2363:=by show b2350≠b2363;have:=bx2355.lt;omega
 clear e2369
 have h_l:=h_l.mv m2366
 have h_f:=h_f.mv m2366
 have h_zero:=h_zero.mv m2366
 have hp2349:=hp2349.mv m2366
 have hs2362:Enc.share.rd w2364 ((b2363 :: (b2350 :: []))++O) cs2361 (l[i]!):=Enc.mv Enc.share (x:=l[i]!) hs2362 m2366
 have bx2355:=bx2355.keep k2367 (by simp)
 obtain ⟨d2376,rfl,hd2377⟩:=hs2362
 have:=hd2377.len_le
 refine BY (BC (vs:=[vI ((l[i]!).epoch),vI ((l[i]!).index),vI ((l[i]!).threshold),vI ((l[i]!).many),d2376]) (.agg #[vI ((l[i]!).epoch),vI ((l[i]!).index),vI ((l[i]!).threshold),vI ((l[i]!).many),d2376]) rfl rfl rfl DM (fun u hu=>by simp only [List.mem_cons,List.not_mem_nil,or_false] at hu;rcases hu with rfl|rfl|rfl|rfl|rfl <;> first|rfl|exact hd2377.oneCell) (by repeat (constructor)) bx2368 oT s2365 fun w2371 s2372 m2373 k2374 bx2375=>(?_))
 have h_l:=h_l.mv m2373
 have h_f:=h_f.mv m2373
 have h_zero:=h_zero.mv m2373
 have hp2349:=hp2349.mv m2373
 have bx2355:=bx2355.keep k2374 (BH ne2370)
 refine AF (AC (?_))
 refine AG (?_)
 refine AB kR (AA (BD 0 IP rfl (AA (BI U3_ rfl (vI ((l[i]!).epoch)) rfl bx2375 rfl (AA (DC .i64 ((l[i]!).epoch) (1:Int) (((l[i]!).epoch)+(1:Int)) rfl rfl (FO oM oM) (AA (BD 0 IP rfl (BY (CK (vI (((l[i]!).epoch)+(1:Int))) rfl rfl rfl MW (by repeat (constructor)) bx2375 oT s2372 fun w2378 s2379 m2380 k2381 bx2382=>(?_)))))))))))
 have h_l:=h_l.mv m2380
 have h_f:=h_f.mv m2380
 have h_zero:=h_zero.mv m2380
 have hp2349:=hp2349.mv m2380
 have bx2355:=bx2355.keep k2381 (BH ne2370)
 refine AF (AC (?_))
 refine AG (?_)
 refine AB kR (AA (BM 4 GM (f.data) rfl h_f (fun _ _ _ h=>FL h) fun a2383 hp2384=>(AA (BW U23_ rfl rfl hp2384 fun v2385 hl2386=>(?_)))))
 have:=hl2386.len_le
 refine AA (CG U23_ rfl hl2386 (AA (DD (first:=[]) (captured:=[.tmp 1, .tmp 4, .tmp 3]) [] [vP (some l_a),vP (some a2344),vP (some zero_a)] rfl rfl (AA (BB (vs:=[vI (f.data.length:Int),vN (.func 56) #[] #[vP (some l_a),vP (some a2344),vP (some zero_a)]]) NU (KC (O:=(b2363 :: (b2350 :: []))++O) (f.data.length:Int) 56 [vP (some l_a),vP (some a2344),vP (some zero_a)] (fun i_=>l[((i:Int)).toNat]!.data[i_]! ^^^ zero[((i:Int)).toNat]!.data[i_]!) w2378 enter_56 (fun w'_ O'_ kk_ hs_ hl_ i_  hc_=>c_refresh11 (O:=O'_) i_ l_a l a2344 (i:Int) zero_a zero w'_ (h_l.on hs_ kk_) (hp2349.on hs_ kk_) (h_zero.on hs_ kk_) oM oM oM (by rw [Int.toNat_natCast,hpre2];omega) (by rw [Int.toNat_natCast,hpre3];omega) hl_) oM s2379.lt) rfl s2379 fun v2387 w2388 s2389 m2390 k2391 r2392=>(?_))))))
 obtain ⟨_,rfl,hl2393⟩:=r2392
 have:=hl2393.len_le
 have bx2355:=bx2355.keep k2391 (by simp)
 have bx2382:=bx2382.keep k2391 (by simp)
 refine AA (BD 4 GM rfl (BY (CK (v2387) rfl rfl hl2393.oneCell s_23 (by repeat (constructor)) bx2382 oT s2389 fun w2394 s2395 m2396 k2397 bx2398=>(?_))))
 have hl2393:=hl2393.mv m2396
 have bx2355:=bx2355.keep k2397 (BH ne2370)
 refine AF (AC (?_))
 refine AG (?_)
 refine AB kR (AA (BN (vs:=[vI (((l[i]!).epoch)+(1:Int)),vI ((l[i]!).index),vI ((l[i]!).threshold),vI ((l[i]!).many),v2387]) U70_ rfl DM rfl bx2398 rfl (BY (BC (vs:=[vI (((l[i]!).epoch)+(1:Int)),vI ((l[i]!).index),vI ((l[i]!).threshold),vI ((l[i]!).many),v2387]) (.agg #[vI (((l[i]!).epoch)+(1:Int)),vI ((l[i]!).index),vI ((l[i]!).threshold),vI ((l[i]!).many),v2387]) rfl rfl rfl DM (fun u hu=>by simp only [List.mem_cons,List.not_mem_nil,or_false] at hu;rcases hu with rfl|rfl|rfl|rfl|rfl <;> first|rfl|exact hl2393.oneCell) (by repeat (constructor)) bx2355 oT s2395 fun w2399 s2400 m2401 k2402 bx2403=>(?_)))))
 have hl2393:=hl2393.mv m2401
 refine AF (AC (?_))
 refine AP (AZ rfl (rescA (vs:=[vI (((l[i]!).epoch)+(1:Int)),vI ((l[i]!).index),vI ((l[i]!).threshold),vI ((l[i]!).many),v2387]) rfl rfl U70_ rfl DM rfl bx2403 rfl) (?_))
 have e:(FR l f zero i)=(⟨((l[i]!).epoch)+(1:Int),(l[i]!).index,(l[i]!).threshold,(l[i]!).many,(List.range ((f.data.length:Int)).toNat).map (fun i_=>l[((i:Int)).toNat]!.data[i_]! ^^^ zero[((i:Int)).toNat]!.data[i_]!)⟩:Share):=rfl
 exact ⟨_,rfl,s2400.keep,by rw [e];exact ⟨[vI (((l[i]!).epoch)+(1:Int)),vI ((l[i]!).index),vI ((l[i]!).threshold),vI ((l[i]!).many),v2387],rfl,Enc.out (B:=(b2363 :: (b2350 :: []))) ⟨_,rfl,hl2393⟩⟩⟩
set_option maxHeartbeats 4000000 in
set_option maxRecDepth 100000 in
theorem c_refresh {O:List Nat} (l_v:Value) (l:List Share) (coins_v:Value) (coins:List UInt8) (w:World) (h_l:BG Enc.share w O l_v l) (h_coins:BG Enc.u8 w O coins_v coins) (hO:∀ b∈O,b<w.heap.size):CF Try.prog 19 [l_v,coins_v] w (fun v w'=>∃ (x0:Value),v = .tuple #[x0,vI ((CN l coins).2)]∧BG Enc.share w' (O) x0 ((CN l coins).1)):= by
 have lim_l:=h_l.len_le
 have h_l:BG Enc.share w ([]++O) l_v l:=h_l
 have lim_coins:=h_coins.len_le
 have h_coins:BG Enc.u8 w ([]++O) coins_v coins:=h_coins
 have s0:St w O w []:=St.start hO
 refine BQ 48 Try.func19 rfl rfl oT (fun F0=>?_)
 refine AG (?_)
 refine AB kR (AA (DO (E:=(Enc.slice Enc.share)) (l_v) ([l_v]) l rfl (FD h_l.oneCell) ⟨_,rfl,h_l⟩ s0 fun a2404 w2405 s2406 m2407 k2408 hp2409=>(?_)))
 have h_coins:=h_coins.mv m2407
 refine AA (AD (nS) rfl (AA (AD (vI 0) rfl (AF (AC (?_))))))
 refine AG (?_)
 refine AG (?_)
 refine AB kR (AA (BW U32_ rfl rfl hp2409 fun v2410 hl2411=>(?_)))
 have:=hl2411.len_le
 refine AA (BB (vs:=[v2410]) LT (LW (O:=[]++O) v2410 l w2405 hl2411 s2406.lt) rfl s2406 fun v2412 w2413 s2414 m2415 k2416 r2417=>(?_))
 obtain rfl:=r2417
 have h_coins:=h_coins.mv m2415
 have hp2409:=hp2409.mv m2415
 refine AA (AD (vI (BP l)) rfl (AF (AC (?_))))
 refine AG (?_)
 refine AB kR (AA (AE (vI (BP l)) rfl (AA (CV .i64 (BP l) (0:Int) rfl rfl (AF (AC (?_)))))))
 refine AO ((BP l) != (0:Int)) rfl rfl (fun hc2418=>?_) (fun hc2418=>?_)
 ·have hp2419:BP l≠(0:Int):=by simpa using hc2418
  refine AG (?_)
  refine AB kR (AA (AE (vI (BP l)) rfl (AA (AD (nS) rfl (AA (AD (vI (BP l)) rfl (AF (AC (?_)))))))))
  refine AP (AR (AZ rfl (FF rfl rfl rfl rfl) (?_)))
  have e:(CN l coins)=([],BP l):=by exact HZ (l:=l) (coins:=coins) (by unfold EC HT;((repeat ((refine (if_pos ?_).trans ?_;omega)));rfl)) aS
  exact ⟨_,rfl,s2414.keep,by rw [e];exact ⟨.slice none 0 0,rfl,BG.nil _ _ _⟩⟩
 ·have hp2420:BP l=(0:Int):=by simpa using hc2418
  have hv:=(EN l).1 hp2420
  have hpos:=hv.pos
  have ht1:=hv.t1
  have htm:=hv.tm
  have hm8:=hv.m8
  have hd64:=hv.d64
  refine AU (AC (?_))
  refine AG (?_)
  refine AB kR (AA (BW U32_ rfl rfl hp2409 fun v2421 hl2422=>(?_)))
  have:=hl2422.len_le
  refine AA (DI U32_ DM .i64 (0:Int) 0 rfl rfl rfl hl2422 oM fun a2423 hp2424=>(AA (CR U70_ rfl DM rfl hp2424 fun cs2425 hs2426=>(AA (CX [vI 0,vI 0,vI 0,vI 0,nS] MT rfl s2414 fun b2427 w2428 e2433 s2429 m2430 k2431 bx2432=>(?_))))))
  clear e2433
  have h_coins:=h_coins.mv m2430
  have hp2409:=hp2409.mv m2430
  have hs2426:Enc.share.rd w2428 ((b2427 :: [])++O) cs2425 (l[0]!):=Enc.mv Enc.share (x:=l[0]!) hs2426 m2430
  obtain ⟨d2439,rfl,hd2440⟩:=hs2426
  have:=hd2440.len_le
  refine BY (BC (vs:=[vI ((l[0]!).epoch),vI ((l[0]!).index),vI ((l[0]!).threshold),vI ((l[0]!).many),d2439]) (.agg #[vI ((l[0]!).epoch),vI ((l[0]!).index),vI ((l[0]!).threshold),vI ((l[0]!).many),d2439]) rfl rfl rfl DM (fun u hu=>by simp only [List.mem_cons,List.not_mem_nil,or_false] at hu;rcases hu with rfl|rfl|rfl|rfl|rfl <;> first|rfl|exact hd2440.oneCell) (by repeat (constructor)) bx2432 oT s2429 fun w2434 s2435 m2436 k2437 bx2438=>(?_))
  have h_coins:=h_coins.mv m2436
  have hp2409:=hp2409.mv m2436
  have hd2440:=hd2440.mv m2436
  refine AF (AC (?_))
  refine AG (?_)
  refine AG (?_)
  refine AB kR (AA (BW U32_ rfl rfl hp2409 fun v2441 hl2442=>(?_)))
  have:=hl2442.len_le
  refine AA (CG U32_ rfl hl2442 (AA (BD 3 KK rfl (AA (BI U3_ rfl (vI ((l[0]!).many)) rfl bx2438 rfl (AA (CV .i64 (l.length:Int) ((l[0]!).many) rfl rfl (AF (AC (?_))))))))))
  refine AO ((l.length:Int) != ((l[0]!).many)) rfl rfl (fun hc2443=>?_) (fun hc2443=>?_)
  ·have hp2444:(l.length:Int)≠(l[0]!).many:=by simpa using hc2443
   refine AG (?_)
   refine AB kR (AA (AD (nS) rfl (AA (AD (vI 80) rfl (AF (AC (?_)))))))
   refine AP (AR (AZ rfl (FF rfl rfl rfl rfl) (?_)))
   have e:(CN l coins)=([],(80:Int)):=by exact HZ (l:=l) (coins:=coins) (by unfold EC HT;((repeat (first|(refine (if_pos ?_).trans ?_;omega)|(refine (if_neg ?_).trans ?_;omega)));rfl)) (by decide)
   exact ⟨_,rfl,s2435.keep,by rw [e];exact ⟨.slice none 0 0,rfl,BG.nil _ _ _⟩⟩
  ·have hp2445:(l.length:Int)=(l[0]!).many:=by simpa using hc2443
   refine AU (AC (?_))
   refine AG (?_)
   refine AG (?_)
   refine AB kR (AA (BD 0 IP rfl (AA (BI U3_ rfl (vI ((l[0]!).epoch)) rfl bx2438 rfl (AA (EI .i64 ((l[0]!).epoch) (1048576:Int) rfl rfl (AF (AC (?_)))))))))
   refine AO (((l[0]!).epoch) == (1048576:Int)) rfl rfl (fun hc2446=>?_) (fun hc2446=>?_)
   ·have hp2447:(l[0]!).epoch=(1048576:Int):=by simpa using hc2446
    refine AG (?_)
    refine AB kR (AA (AD (nS) rfl (AA (AD (vI 81) rfl (AF (AC (?_)))))))
    refine AP (AR (AZ rfl (FF rfl rfl rfl rfl) (?_)))
    have e:(CN l coins)=([],(81:Int)):=by exact HZ (l:=l) (coins:=coins) (by unfold EC HT;((repeat (first|(refine (if_pos ?_).trans ?_;omega)|(refine (if_neg ?_).trans ?_;omega)));rfl)) (by decide)
    exact ⟨_,rfl,s2435.keep,by rw [e];exact ⟨.slice none 0 0,rfl,BG.nil _ _ _⟩⟩
   ·have hp2448:(l[0]!).epoch≠(1048576:Int):=by simpa using hc2446
    refine AU (AC (?_))
    refine AG (?_)
    refine WA 16 [14] _ _ _ [fun _=>DF (vP (some ⟨b2427,4,none⟩)),fun _=>fun (vT:Value) (_:World)=>BG Enc.u8 w2434 ((b2427 :: [])++O) vT ((l[0]!).data),fun _=>DF (vI (((l[0]!).data).length:Int)),fun (BT:List Nat) (vT:Value) (wT:World)=>BG Enc.u8 wT (BT++O) vT (List.replicate (((l[0]!).data).length) (0:UInt8)),fun _=>DF (vP (some ⟨b2427,0,none⟩)),fun _=>DF (vI ((l[0]!).epoch)),fun _=>DF (vP (some ⟨b2427,2,none⟩)),fun _=>DF (vI ((l[0]!).threshold)),fun _=>DF (vP (some ⟨b2427,3,none⟩)),fun _=>DF (vI ((l[0]!).many)),fun _=>fun (vT:Value) (_:World)=>BG Enc.u8 w2434 ((b2427 :: [])++O) vT (coins),fun (BT:List Nat) (vT:Value) (wT:World)=>∃ (xT0:Value),vT = .tuple #[xT0,vI ((BV (List.replicate (((l[0]!).data).length) (0:UInt8)) ((l[0]!).epoch) ((l[0]!).threshold) ((l[0]!).many) coins).2)]∧BG Enc.share wT (BT++O) xT0 ((BV (List.replicate (((l[0]!).data).length) (0:UInt8)) ((l[0]!).epoch) ((l[0]!).threshold) ((l[0]!).many) coins).1),fun (BT:List Nat) (vT:Value) (wT:World)=>∃ (xT0:Value),vT = .tuple #[xT0,vI ((BV (List.replicate (((l[0]!).data).length) (0:UInt8)) ((l[0]!).epoch) ((l[0]!).threshold) ((l[0]!).many) coins).2)]∧BG Enc.share wT (BT++O) xT0 ((BV (List.replicate (((l[0]!).data).length) (0:UInt8)) ((l[0]!).epoch) ((l[0]!).threshold) ((l[0]!).many) coins).1),fun (BT:List Nat) (vT:Value) (wT:World)=>BG Enc.share wT (BT++O) vT ((BV (List.replicate (((l[0]!).data).length) (0:UInt8)) ((l[0]!).epoch) ((l[0]!).threshold) ((l[0]!).many) coins).1),fun _=>DF (vI ((BV (List.replicate (((l[0]!).data).length) (0:UInt8)) ((l[0]!).epoch) ((l[0]!).threshold) ((l[0]!).many) coins).2)),SD w2434 32 [nS]] [⟨0,[],[],[],false,[]⟩,⟨0,[],[],[],false,[0]⟩,⟨0,[],[],[],false,[1]⟩,⟨1,[],[],[],false,[2]⟩,⟨0,[],[],[],false,[]⟩,⟨0,[],[],[],false,[4]⟩,⟨0,[],[],[],false,[]⟩,⟨0,[],[],[],false,[6]⟩,⟨0,[],[],[],false,[]⟩,⟨0,[],[],[],false,[8]⟩,⟨0,[],[],[],false,[]⟩,⟨1,[1],[],[],false,[3,5,7,9,10]⟩,⟨1,[1],[],[],false,[11]⟩,⟨1,[1],[],[],false,[12]⟩,⟨0,[1],[],[],false,[12]⟩,⟨2,[],[],[],false,[]⟩] (b2427 :: []) kR kR kR kR kR (by decide) rfl rfl rfl ⟨fun _ _ _ _ _ h=>h,fun _ _ _ _ _ h=>h,fun _ _ _ _ _ h=>h,(show ∀ B B2 v w w2,(fun (BT:List Nat) (vT:Value) (wT:World)=>BG Enc.u8 wT (BT++O) vT (List.replicate (((l[0]!).data).length) (0:UInt8))) B v w→Mv B w B2 w2→(fun (BT:List Nat) (vT:Value) (wT:World)=>BG Enc.u8 wT (BT++O) vT (List.replicate (((l[0]!).data).length) (0:UInt8))) B2 v w2 from fun _ _ _ _ _ h m=>h.mv m),fun _ _ _ _ _ h=>h,fun _ _ _ _ _ h=>h,fun _ _ _ _ _ h=>h,fun _ _ _ _ _ h=>h,fun _ _ _ _ _ h=>h,fun _ _ _ _ _ h=>h,fun _ _ _ _ _ h=>h,(show ∀ B B2 v w w2,(fun (BT:List Nat) (vT:Value) (wT:World)=>∃ (xT0:Value),vT = .tuple #[xT0,vI ((BV (List.replicate (((l[0]!).data).length) (0:UInt8)) ((l[0]!).epoch) ((l[0]!).threshold) ((l[0]!).many) coins).2)]∧BG Enc.share wT (BT++O) xT0 ((BV (List.replicate (((l[0]!).data).length) (0:UInt8)) ((l[0]!).epoch) ((l[0]!).threshold) ((l[0]!).many) coins).1)) B v w→Mv B w B2 w2→(fun (BT:List Nat) (vT:Value) (wT:World)=>∃ (xT0:Value),vT = .tuple #[xT0,vI ((BV (List.replicate (((l[0]!).data).length) (0:UInt8)) ((l[0]!).epoch) ((l[0]!).threshold) ((l[0]!).many) coins).2)]∧BG Enc.share wT (BT++O) xT0 ((BV (List.replicate (((l[0]!).data).length) (0:UInt8)) ((l[0]!).epoch) ((l[0]!).threshold) ((l[0]!).many) coins).1)) B2 v w2 from fun _ _ _ _ _ ⟨y0,e,h0⟩ m=>⟨y0,e,h0.mv m⟩),(show ∀ B B2 v w w2,(fun (BT:List Nat) (vT:Value) (wT:World)=>∃ (xT0:Value),vT = .tuple #[xT0,vI ((BV (List.replicate (((l[0]!).data).length) (0:UInt8)) ((l[0]!).epoch) ((l[0]!).threshold) ((l[0]!).many) coins).2)]∧BG Enc.share wT (BT++O) xT0 ((BV (List.replicate (((l[0]!).data).length) (0:UInt8)) ((l[0]!).epoch) ((l[0]!).threshold) ((l[0]!).many) coins).1)) B v w→Mv B w B2 w2→(fun (BT:List Nat) (vT:Value) (wT:World)=>∃ (xT0:Value),vT = .tuple #[xT0,vI ((BV (List.replicate (((l[0]!).data).length) (0:UInt8)) ((l[0]!).epoch) ((l[0]!).threshold) ((l[0]!).many) coins).2)]∧BG Enc.share wT (BT++O) xT0 ((BV (List.replicate (((l[0]!).data).length) (0:UInt8)) ((l[0]!).epoch) ((l[0]!).threshold) ((l[0]!).many) coins).1)) B2 v w2 from fun _ _ _ _ _ ⟨y0,e,h0⟩ m=>⟨y0,e,h0.mv m⟩),(show ∀ B B2 v w w2,(fun (BT:List Nat) (vT:Value) (wT:World)=>BG Enc.share wT (BT++O) vT ((BV (List.replicate (((l[0]!).data).length) (0:UInt8)) ((l[0]!).epoch) ((l[0]!).threshold) ((l[0]!).many) coins).1)) B v w→Mv B w B2 w2→(fun (BT:List Nat) (vT:Value) (wT:World)=>BG Enc.share wT (BT++O) vT ((BV (List.replicate (((l[0]!).data).length) (0:UInt8)) ((l[0]!).epoch) ((l[0]!).threshold) ((l[0]!).many) coins).1)) B2 v w2 from fun _ _ _ _ _ h m=>h.mv m),fun _ _ _ _ _ h=>h,SD.st,trivial⟩ ⟨?_,?_,?_,?_,?_,?_,?_,?_,?_,?_,?_,?_,?_,?_,?_,?_,trivial⟩ ?_ ?_
    ·intro F1 w1 B1_ Bs_ k1 hs_ hl_ hr_ hsep_ hf hd
     obtain ⟨F2,rfl⟩:=AL (F:=F1) [(7,vP (some ⟨b2427,0,none⟩))] ⟨hf 7 kR,trivial⟩
     exact AH rfl ((BD 4 GM rfl (⟨[],(Keep.refl _ _),OB,rfl⟩)))
    ·intro F1 w1 B1_ Bs_ k1 hs_ hl_ hr_ hsep_ hf hd
     have k0:=(Keep.drew [] w2434).trans k1
     have bx2438:=bx2438.keep k0 (by simp)
     obtain ⟨F2,rfl⟩:=AL (F:=F1) [(26,vP (some ⟨b2427,4,none⟩))] ⟨hd 0 26 kR kR,trivial⟩
     exact AH rfl ((BI U23_ rfl (d2439) rfl bx2438 rfl (⟨[],(Keep.refl _ _),OB,hd2440⟩)))
    ·intro F1 w1 B1_ Bs_ k1 hs_ hl_ hr_ hsep_ hf hd
     obtain ⟨v2449,e2451,hl2450⟩:∃ v,F1 27=v∧BG Enc.u8 w2434 ((b2427 :: [])++O) v ((l[0]!).data):=⟨_,rfl,hd 1 27 kR kR⟩
     have:=hl2450.len_le
     obtain ⟨F2,rfl⟩:=AL (F:=F1) [(27,v2449)] ⟨e2451,trivial⟩
     exact AH rfl ((o_lenRU U23_ rfl hl2450 (⟨[],(Keep.refl _ _),OB,rfl⟩)))
    ·intro F1 w1 B1_ Bs_ k1 hs_ hl_ hr_ hsep_ hf hd
     have k0:=(Keep.drew [] w2434).trans k1
     have s1:=s2435.adoptL k0 hl_
     obtain ⟨F2,rfl⟩:=AL (F:=F1) [(28,vI (((l[0]!).data).length:Int))] ⟨hd 2 28 kR kR,trivial⟩
     refine AH rfl ((o_makeR (E:=Enc.u8) U23_ i_5 [vB (0:UInt8)] rfl rfl (by decide) (0:UInt8) (fun _ _=>rfl) .i64 .i64 (((l[0]!).data).length:Int) (((l[0]!).data).length:Int) (((l[0]!).data).length) (((l[0]!).data).length) rfl rfl rfl rfl oM oM (by simp only [maxLen];omega) s1 fun v2456 w2452 s2453 m2454 k2455 hl2457=>(?_)))
     exact ⟨[],k2455,OB,hl2457⟩
    ·intro F1 w1 B1_ Bs_ k1 hs_ hl_ hr_ hsep_ hf hd
     obtain ⟨F2,rfl⟩:=AL (F:=F1) [(7,vP (some ⟨b2427,0,none⟩))] ⟨hf 7 kR,trivial⟩
     exact AH rfl ((BD 0 IP rfl (⟨[],(Keep.refl _ _),OB,rfl⟩)))
    ·intro F1 w1 B1_ Bs_ k1 hs_ hl_ hr_ hsep_ hf hd
     have k0:=(Keep.drew [] w2434).trans k1
     have bx2438:=bx2438.keep k0 (by simp)
     obtain ⟨F2,rfl⟩:=AL (F:=F1) [(30,vP (some ⟨b2427,0,none⟩))] ⟨hd 4 30 kR kR,trivial⟩
     exact AH rfl ((BI U3_ rfl (vI ((l[0]!).epoch)) rfl bx2438 rfl (⟨[],(Keep.refl _ _),OB,rfl⟩)))
    ·intro F1 w1 B1_ Bs_ k1 hs_ hl_ hr_ hsep_ hf hd
     obtain ⟨F2,rfl⟩:=AL (F:=F1) [(7,vP (some ⟨b2427,0,none⟩))] ⟨hf 7 kR,trivial⟩
     exact AH rfl ((BD 2 KL rfl (⟨[],(Keep.refl _ _),OB,rfl⟩)))
    ·intro F1 w1 B1_ Bs_ k1 hs_ hl_ hr_ hsep_ hf hd
     have k0:=(Keep.drew [] w2434).trans k1
     have bx2438:=bx2438.keep k0 (by simp)
     obtain ⟨F2,rfl⟩:=AL (F:=F1) [(32,vP (some ⟨b2427,2,none⟩))] ⟨hd 6 32 kR kR,trivial⟩
     exact AH rfl ((BI U3_ rfl (vI ((l[0]!).threshold)) rfl bx2438 rfl (⟨[],(Keep.refl _ _),OB,rfl⟩)))
    ·intro F1 w1 B1_ Bs_ k1 hs_ hl_ hr_ hsep_ hf hd
     obtain ⟨F2,rfl⟩:=AL (F:=F1) [(7,vP (some ⟨b2427,0,none⟩))] ⟨hf 7 kR,trivial⟩
     exact AH rfl ((BD 3 KK rfl (⟨[],(Keep.refl _ _),OB,rfl⟩)))
    ·intro F1 w1 B1_ Bs_ k1 hs_ hl_ hr_ hsep_ hf hd
     have k0:=(Keep.drew [] w2434).trans k1
     have bx2438:=bx2438.keep k0 (by simp)
     obtain ⟨F2,rfl⟩:=AL (F:=F1) [(34,vP (some ⟨b2427,3,none⟩))] ⟨hd 8 34 kR kR,trivial⟩
     exact AH rfl ((BI U3_ rfl (vI ((l[0]!).many)) rfl bx2438 rfl (⟨[],(Keep.refl _ _),OB,rfl⟩)))
    ·intro F1 w1 B1_ Bs_ k1 hs_ hl_ hr_ hsep_ hf hd
     obtain ⟨F2,rfl⟩:=AL (F:=F1) [(1,coins_v)] ⟨hf 1 kR,trivial⟩
     exact AH rfl ((AE (coins_v) rfl (⟨[],(Keep.refl _ _),OB,h_coins⟩)))
    ·intro F1 w1 B1_ Bs_ k1 hs_ hl_ hr_ hsep_ hf hd
     have k0:=(Keep.drew [] w2434).trans k1
     have s1:=s2435.adoptL k0 hl_
     have m1:Mv (b2427 :: []) w2434 B1_ w1:=Mv.adoptL k0 hl_
     obtain ⟨v2458,e2460,hl2459⟩:∃ v,F1 29=v∧BG Enc.u8 w1 ((Bs_ 1)++O) v (List.replicate (((l[0]!).data).length) (0:UInt8)):=⟨_,rfl,hd 3 29 kR kR⟩
     have:=hl2459.len_le
     have hl2459:=hl2459.mv (Mv.at_ (hr_ 1 kR))
     obtain ⟨v2461,e2463,hl2462⟩:∃ v,F1 36=v∧BG Enc.u8 w2434 ((b2427 :: [])++O) v (coins):=⟨_,rfl,hd 10 36 kR kR⟩
     have:=hl2462.len_le
     have hl2462:=hl2462.mv m1
     obtain ⟨F2,rfl⟩:=AL (F:=F1) [(29,v2458),(31,vI ((l[0]!).epoch)),(33,vI ((l[0]!).threshold)),(35,vI ((l[0]!).many)),(36,v2461)] ⟨e2460,hd 5 31 kR kR,hd 7 33 kR kR,hd 9 35 kR kR,e2463,trivial⟩
     refine AH rfl ((BB (vs:=[v2458,vI ((l[0]!).epoch),vI ((l[0]!).threshold),vI ((l[0]!).many),v2461]) TY (c_split (O:=B1_++O) v2458 (List.replicate (((l[0]!).data).length) (0:UInt8)) ((l[0]!).epoch) ((l[0]!).threshold) ((l[0]!).many) v2461 coins w1 hl2459 hl2462 s1.lt) rfl s1 fun v2464 w2465 s2466 m2467 k2468 r2469=>(?_)))
     obtain ⟨x2470,rfl,hl2471⟩:=r2469
     have:=hl2471.len_le
     exact ⟨[],k2468,OB,⟨x2470,rfl,hl2471⟩⟩
    ·intro F1 w1 B1_ Bs_ k1 hs_ hl_ hr_ hsep_ hf hd
     obtain ⟨x2472,e2474,hl2473⟩:(fun (vT:Value) (wT:World)=>∃ (xT0:Value),vT = .tuple #[xT0,vI ((BV (List.replicate (((l[0]!).data).length) (0:UInt8)) ((l[0]!).epoch) ((l[0]!).threshold) ((l[0]!).many) coins).2)]∧BG Enc.share wT ((Bs_ 1)++O) xT0 ((BV (List.replicate (((l[0]!).data).length) (0:UInt8)) ((l[0]!).epoch) ((l[0]!).threshold) ((l[0]!).many) coins).1)) (F1 37) w1:=hd 11 37 kR kR
     have:=hl2473.len_le
     have hl2473:=hl2473.mv (Mv.at_ (hr_ 1 kR))
     obtain ⟨F2,rfl⟩:=AL (F:=F1) [(37,vT #[x2472,vI ((BV (List.replicate (((l[0]!).data).length) (0:UInt8)) ((l[0]!).epoch) ((l[0]!).threshold) ((l[0]!).many) coins).2)])] ⟨e2474,trivial⟩
     exact AH rfl ((AE (vT #[x2472,vI ((BV (List.replicate (((l[0]!).data).length) (0:UInt8)) ((l[0]!).epoch) ((l[0]!).threshold) ((l[0]!).many) coins).2)]) rfl (⟨[],(Keep.refl _ _),OB,⟨x2472,rfl,hl2473⟩⟩)))
    ·intro F1 w1 B1_ Bs_ k1 hs_ hl_ hr_ hsep_ hf hd
     obtain ⟨x2475,e2477,hl2476⟩:(fun (vT:Value) (wT:World)=>∃ (xT0:Value),vT = .tuple #[xT0,vI ((BV (List.replicate (((l[0]!).data).length) (0:UInt8)) ((l[0]!).epoch) ((l[0]!).threshold) ((l[0]!).many) coins).2)]∧BG Enc.share wT ((Bs_ 1)++O) xT0 ((BV (List.replicate (((l[0]!).data).length) (0:UInt8)) ((l[0]!).epoch) ((l[0]!).threshold) ((l[0]!).many) coins).1)) (F1 25) w1:=hd 12 25 kR kR
     have:=hl2476.len_le
     have hl2476:=hl2476.mv (Mv.at_ (hr_ 1 kR))
     obtain ⟨F2,rfl⟩:=AL (F:=F1) [(25,vT #[x2475,vI ((BV (List.replicate (((l[0]!).data).length) (0:UInt8)) ((l[0]!).epoch) ((l[0]!).threshold) ((l[0]!).many) coins).2)])] ⟨e2477,trivial⟩
     exact AH rfl ((AN (x2475) rfl rfl (⟨[],(Keep.refl _ _),OB,hl2476⟩)))
    ·intro F1 w1 B1_ Bs_ k1 hs_ hl_ hr_ hsep_ hf hd
     obtain ⟨x2478,e2480,hl2479⟩:(fun (vT:Value) (wT:World)=>∃ (xT0:Value),vT = .tuple #[xT0,vI ((BV (List.replicate (((l[0]!).data).length) (0:UInt8)) ((l[0]!).epoch) ((l[0]!).threshold) ((l[0]!).many) coins).2)]∧BG Enc.share wT ((Bs_ 1)++O) xT0 ((BV (List.replicate (((l[0]!).data).length) (0:UInt8)) ((l[0]!).epoch) ((l[0]!).threshold) ((l[0]!).many) coins).1)) (F1 25) w1:=hd 12 25 kR kR
     have:=hl2479.len_le
     obtain ⟨F2,rfl⟩:=AL (F:=F1) [(25,vT #[x2478,vI ((BV (List.replicate (((l[0]!).data).length) (0:UInt8)) ((l[0]!).epoch) ((l[0]!).threshold) ((l[0]!).many) coins).2)])] ⟨e2480,trivial⟩
     exact AH rfl ((AN (vI ((BV (List.replicate (((l[0]!).data).length) (0:UInt8)) ((l[0]!).epoch) ((l[0]!).threshold) ((l[0]!).many) coins).2)) rfl rfl (⟨[],(Keep.refl _ _),OB,rfl⟩)))
    ·intro F1 w1 B1_ Bs_ k1 hs_ hl_ hr_ hsep_ hf hd
     have k0:=(Keep.drew [] w2434).trans k1
     have s1:=s2435.adoptL k0 hl_
     obtain ⟨F2,rfl⟩:=AL (F:=F1) [] trivial
     refine AH rfl ((CX [nS] z_32 rfl s1 fun b2481 w2482 e2487 s2483 m2484 k2485 bx2486=>(?_)))
     have lo2488:w2434.heap.size≤b2481:=by have:=k0.size;omega
     exact ⟨[],k2485,OB,⟨_,rfl,lo2488,(by intro h;have:=lt_of s1 _ h;omega),bx2486⟩⟩
    ·intro F2490 w2491 Bs2496 k2489 hB2497 hl2498 sep2499 hT2492 hF2493
     obtain ⟨b2500,e2504,lo2501,hn2502,bx2505⟩:(SD w2434 32 [nS]) (Bs2496 2) (F2490 8) w2491:=hT2492 15 8 kR (by decide) kR kR
     have hi2503:=bx2505.lt
     have hl2506:∀ x∈(b2427 :: []),x∈(b2427 :: [])∨(w2434.heap.size≤x∧x<w2491.heap.size):=fun x hx=>.inl hx
     have hsu2507:∀ x∈(b2427 :: []),x∈(b2427 :: []):=fun x hx=>hx
     have hq2508:∀ x∈(b2427 :: []),x∈Bs2496 1:=fun x hx=>hB2497 1 x hx
     have hq2509:∀ x∈(b2427 :: []),x∈Bs2496 2:=fun x hx=>hB2497 2 x hx
     have hl2510:∀ x∈(b2500 :: (b2427 :: [])),x∈(b2427 :: [])∨(w2434.heap.size≤x∧x<w2491.heap.size):=fun x hx=>by rcases List.mem_cons.1 hx with rfl|hx;exact .inr ⟨lo2501,hi2503⟩;exact hl2506 x hx
     have hsu2511:∀ x∈(b2427 :: []),x∈(b2500 :: (b2427 :: [])):=fun x hx=>List.mem_cons_of_mem _ (hsu2507 x hx)
     have hq2512:∀ x∈(b2500 :: (b2427 :: [])),x∈Bs2496 1:=fun x hx=>by rcases List.mem_cons.1 hx with rfl|hx;exact sep2499 2 1 _ (by decide) lo2501 hi2503 hn2502;exact hq2508 x hx
     have s2494:=s2435.adoptL k2489 hl2510
     have m2495:Mv (b2427 :: []) w2434 (b2500 :: (b2427 :: [])) w2491:=Mv.adoptL k2489 hl2510
     have ne2513:FH b2427 b2500:=by show b2427≠b2500;have:=bx2438.lt;omega
     obtain ⟨v2514,e2516,hl2515⟩:∃ v,F2490 38=v∧BG Enc.share w2491 ((Bs2496 1)++O) v ((BV (List.replicate (((l[0]!).data).length) (0:UInt8)) ((l[0]!).epoch) ((l[0]!).threshold) ((l[0]!).many) coins).1):=⟨_,rfl,hT2492 13 38 kR (by decide) kR kR⟩
     have:=hl2515.len_le
     have hl2515:=hl2515.mv (Mv.at_ hq2512)
     have hp2409:=hp2409.mv m2495
     have hd2440:=hd2440.mv m2495
     have bx2438:=bx2438.keep k2489 (by simp)
     obtain ⟨F2,rfl⟩:=AL (F:=F2490) [(2,vP (some a2404)),(5,vI 0),(7,vP (some ⟨b2427,0,none⟩)),(48,undef),(8,vP (some ⟨b2500,0,none⟩)),(38,v2514),(39,vI ((BV (List.replicate (((l[0]!).data).length) (0:UInt8)) ((l[0]!).epoch) ((l[0]!).threshold) ((l[0]!).many) coins).2))] ⟨hF2493 2 kR,hF2493 5 kR,hF2493 7 kR,hF2493 48 kR,e2504,e2516,hT2492 14 39 kR (by decide) kR kR,trivial⟩
     clear hT2492 hF2493 hB2497 hl2498 sep2499
     refine BY (CK (v2514) rfl rfl hl2515.oneCell s_32 (by repeat (constructor)) bx2505 oT s2494 fun w2517 s2518 m2519 k2520 bx2521=>(?_))
     have hp2409:=hp2409.mv m2519
     have hl2515:=hl2515.mv m2519
     have hd2440:=hd2440.mv m2519
     have bx2438:=bx2438.keep k2520 (BH ne2513)
     refine AA (AD (vI ((BV (List.replicate (((l[0]!).data).length) (0:UInt8)) ((l[0]!).epoch) ((l[0]!).threshold) ((l[0]!).many) coins).2)) rfl (AF (AC (?_))))
     refine AG (?_)
     refine AG (?_)
     refine AB kR (AA (AE (vI ((BV (List.replicate (((l[0]!).data).length) (0:UInt8)) ((l[0]!).epoch) ((l[0]!).threshold) ((l[0]!).many) coins).2)) rfl (AA (CV .i64 ((BV (List.replicate (((l[0]!).data).length) (0:UInt8)) ((l[0]!).epoch) ((l[0]!).threshold) ((l[0]!).many) coins).2) (0:Int) rfl rfl (AF (AC (?_)))))))
     refine AO (((BV (List.replicate (((l[0]!).data).length) (0:UInt8)) ((l[0]!).epoch) ((l[0]!).threshold) ((l[0]!).many) coins).2) != (0:Int)) rfl rfl (fun hc2522=>?_) (fun hc2522=>?_)
     ·have hp2523:(BV (List.replicate (((l[0]!).data).length) (0:UInt8)) ((l[0]!).epoch) ((l[0]!).threshold) ((l[0]!).many) coins).2≠(0:Int):=by simpa using hc2522
      refine AG (?_)
      refine AB kR (AA (AE (vI ((BV (List.replicate (((l[0]!).data).length) (0:UInt8)) ((l[0]!).epoch) ((l[0]!).threshold) ((l[0]!).many) coins).2)) rfl (AA (AD (nS) rfl (AA (AD (vI ((BV (List.replicate (((l[0]!).data).length) (0:UInt8)) ((l[0]!).epoch) ((l[0]!).threshold) ((l[0]!).many) coins).2)) rfl (AF (AC (?_)))))))))
      refine AP (AR (AZ rfl (FF rfl rfl rfl rfl) (?_)))
      have e:(CN l coins)=([],(BV (List.replicate (((l[0]!).data).length) (0:UInt8)) ((l[0]!).epoch) ((l[0]!).threshold) ((l[0]!).many) coins).2):=by exact HZ (l:=l) (coins:=coins) (by unfold EC HT;((repeat ((refine (if_neg ?_).trans ?_;omega)));rfl)) aS
      exact ⟨_,rfl,s2518.keep,by rw [e];exact ⟨.slice none 0 0,rfl,BG.nil _ _ _⟩⟩
     ·have hp2524:(BV (List.replicate (((l[0]!).data).length) (0:UInt8)) ((l[0]!).epoch) ((l[0]!).threshold) ((l[0]!).many) coins).2=(0:Int):=by simpa using hc2522
      have hz2:(HT l[0]! coins).2=0:=hp2524
      have hzl:=UZ hz2
      refine AU (AC (?_))
      refine AG (?_)
      refine AB kR (AA (BW U32_ rfl rfl hp2409 fun v2525 hl2526=>(?_)))
      have:=hl2526.len_le
      refine AA (CG U32_ rfl hl2526 (?_))
      obtain ⟨B2527,s2528,m2529,hp2530,hk2531⟩:=bx2438.publish (E:=Enc.share) (u:=(l[0]!)) ⟨_,rfl,hd2440⟩ s2518 (by repeat (constructor))
      have hin_b2500:b2500∈B2527:=hk2531 b2500 (by repeat (constructor)) (Ne.symm ne2513)
      have hp2409:=hp2409.mv m2529
      have hl2515:=hl2515.mv m2529
      have bx2521:=bx2521.keep (Keep.refl [] _) (by simp)
      obtain ⟨B2532,s2533,m2534,hp2535,hk2536⟩:=bx2521.publish (E:=(Enc.slice Enc.share)) (u:=(BV (List.replicate (((l[0]!).data).length) (0:UInt8)) ((l[0]!).epoch) ((l[0]!).threshold) ((l[0]!).many) coins).1) ⟨_,rfl,hl2515⟩ s2528 (by repeat (assumption))
      have hp2409:=hp2409.mv m2534
      have hp2530:=hp2530.mv m2534
      refine AA (DD (first:=[]) (captured:=[.tmp 2, .tmp 7, .tmp 8]) [] [vP (some a2404),vP (some ⟨b2427,0,none⟩),vP (some ⟨b2500,0,none⟩)] rfl rfl (AA (BB (vs:=[vI (l.length:Int),vN (.func 55) #[] #[vP (some a2404),vP (some ⟨b2427,0,none⟩),vP (some ⟨b2500,0,none⟩)]]) TP (PF (O:=B2532++O) (l.length:Int) 55 [vP (some a2404),vP (some ⟨b2427,0,none⟩),vP (some ⟨b2500,0,none⟩)] (fun i_=>FR l (l[0]!) ((BV (List.replicate (((l[0]!).data).length) (0:UInt8)) ((l[0]!).epoch) ((l[0]!).threshold) ((l[0]!).many) coins).1) i_) w2517 enter_55 (fun w'_ O'_ kk_ hs_ hl_ i_  hc_=>SW (O:=O'_) i_ a2404 l (⟨b2427,0,none⟩) (l[0]!) (⟨b2500,0,none⟩) ((BV (List.replicate (((l[0]!).data).length) (0:UInt8)) ((l[0]!).epoch) ((l[0]!).threshold) ((l[0]!).many) coins).1) w'_ (hp2409.on hs_ kk_) (hp2530.on hs_ kk_) (hp2535.on hs_ kk_) oM (show _<(HT l[0]! coins).1.length from by omega) (hv.da _ oM) (UK hz2 oM) (by have:=hv.ep i_ oM;have:=hv.ep0;omega) (by have:=hv.ep i_ oM;have:=hv.ep1;omega) oM hl_) oM s2533.lt) rfl s2533 fun v2537 w2538 s2539 m2540 k2541 r2542=>(?_))))
      obtain ⟨_,rfl,hl2543⟩:=r2542
      have:=hl2543.len_le
      refine AA (AD (v2537) rfl (AF (AC (?_))))
      refine AG (?_)
      refine AB kR (AA (AE (v2537) rfl (AA (AD (v2537) rfl (AA (AD (vI 0) rfl (AF (AC (?_)))))))))
      refine AP (AZ rfl (FF rfl rfl rfl rfl) (?_))
      have e:(CN l coins)=((List.range ((l.length:Int)).toNat).map (fun i_=>FR l (l[0]!) ((BV (List.replicate (((l[0]!).data).length) (0:UInt8)) ((l[0]!).epoch) ((l[0]!).threshold) ((l[0]!).many) coins).1) i_),(0:Int)):=by exact SA (l:=l) (coins:=coins) (by unfold EC;((repeat ((refine (if_neg ?_).trans ?_;omega)));exact hz2)) rfl
      exact ⟨_,rfl,s2539.keep,by rw [e];exact ⟨v2537,rfl,hl2543.out⟩⟩
    ·intro cx_ hcx_
     match cx_,hcx_ with
     | 0,_=>
      intro F2545 w2546 Bs2551 k2544 hB2552 hl2553 sep2554 hT2547 hF2548
      obtain ⟨b2555,e2559,lo2556,hn2557,bx2560⟩:(SD w2434 32 [nS]) (Bs2551 2) (F2545 8) w2546:=hT2547 15 8 kR (by decide) kR kR
      have hi2558:=bx2560.lt
      have hl2561:∀ x∈(b2427 :: []),x∈(b2427 :: [])∨(w2434.heap.size≤x∧x<w2546.heap.size):=fun x hx=>.inl hx
      have hsu2562:∀ x∈(b2427 :: []),x∈(b2427 :: []):=fun x hx=>hx
      have hq2563:∀ x∈(b2427 :: []),x∈Bs2551 1:=fun x hx=>hB2552 1 x hx
      have hq2564:∀ x∈(b2427 :: []),x∈Bs2551 2:=fun x hx=>hB2552 2 x hx
      have hl2565:∀ x∈(b2555 :: (b2427 :: [])),x∈(b2427 :: [])∨(w2434.heap.size≤x∧x<w2546.heap.size):=fun x hx=>by rcases List.mem_cons.1 hx with rfl|hx;exact .inr ⟨lo2556,hi2558⟩;exact hl2561 x hx
      have hsu2566:∀ x∈(b2427 :: []),x∈(b2555 :: (b2427 :: [])):=fun x hx=>List.mem_cons_of_mem _ (hsu2562 x hx)
      have hq2567:∀ x∈(b2555 :: (b2427 :: [])),x∈Bs2551 1:=fun x hx=>by rcases List.mem_cons.1 hx with rfl|hx;exact sep2554 2 1 _ (by decide) lo2556 hi2558 hn2557;exact hq2563 x hx
      have s2549:=s2435.adoptL k2544 hl2565
      have m2550:Mv (b2427 :: []) w2434 (b2555 :: (b2427 :: [])) w2546:=Mv.adoptL k2544 hl2565
      have ne2568:FH b2427 b2555:=by show b2427≠b2555;have:=bx2438.lt;omega
      obtain ⟨x2569,e2571,hl2570⟩:(fun (vT:Value) (wT:World)=>∃ (xT0:Value),vT = .tuple #[xT0,vI ((BV (List.replicate (((l[0]!).data).length) (0:UInt8)) ((l[0]!).epoch) ((l[0]!).threshold) ((l[0]!).many) coins).2)]∧BG Enc.share wT ((Bs2551 1)++O) xT0 ((BV (List.replicate (((l[0]!).data).length) (0:UInt8)) ((l[0]!).epoch) ((l[0]!).threshold) ((l[0]!).many) coins).1)) (F2545 25) w2546:=hT2547 12 25 kR (by decide) kR kR
      have:=hl2570.len_le
      obtain ⟨v2572,e2574,hl2573⟩:∃ v,F2545 38=v∧BG Enc.share w2546 ((Bs2551 1)++O) v ((BV (List.replicate (((l[0]!).data).length) (0:UInt8)) ((l[0]!).epoch) ((l[0]!).threshold) ((l[0]!).many) coins).1):=⟨_,rfl,hT2547 13 38 kR (by decide) kR kR⟩
      have:=hl2573.len_le
      have hl2573:=hl2573.mv (Mv.at_ hq2567)
      have hp2409:=hp2409.mv m2550
      have hd2440:=hd2440.mv m2550
      have bx2438:=bx2438.keep k2544 (by simp)
      obtain ⟨F2,rfl⟩:=AL (F:=F2545) [(2,vP (some a2404)),(5,vI 0),(7,vP (some ⟨b2427,0,none⟩)),(48,undef),(8,vP (some ⟨b2555,0,none⟩)),(25,vT #[x2569,vI ((BV (List.replicate (((l[0]!).data).length) (0:UInt8)) ((l[0]!).epoch) ((l[0]!).threshold) ((l[0]!).many) coins).2)]),(38,v2572)] ⟨hF2548 2 kR,hF2548 5 kR,hF2548 7 kR,hF2548 48 kR,e2559,e2571,e2574,trivial⟩
      clear hT2547 hF2548 hB2552 hl2553 sep2554
      refine BY (CK (v2572) rfl rfl hl2573.oneCell s_32 (by repeat (constructor)) bx2560 oT s2549 fun w2575 s2576 m2577 k2578 bx2579=>(?_))
      have hp2409:=hp2409.mv m2577
      have hl2573:=hl2573.mv m2577
      have hd2440:=hd2440.mv m2577
      have bx2438:=bx2438.keep k2578 (BH ne2568)
      refine AA (AN (vI ((BV (List.replicate (((l[0]!).data).length) (0:UInt8)) ((l[0]!).epoch) ((l[0]!).threshold) ((l[0]!).many) coins).2)) rfl rfl (AA (AD (vI ((BV (List.replicate (((l[0]!).data).length) (0:UInt8)) ((l[0]!).epoch) ((l[0]!).threshold) ((l[0]!).many) coins).2)) rfl (AF (AC (?_))))))
      refine AG (?_)
      refine AG (?_)
      refine AB kR (AA (AE (vI ((BV (List.replicate (((l[0]!).data).length) (0:UInt8)) ((l[0]!).epoch) ((l[0]!).threshold) ((l[0]!).many) coins).2)) rfl (AA (CV .i64 ((BV (List.replicate (((l[0]!).data).length) (0:UInt8)) ((l[0]!).epoch) ((l[0]!).threshold) ((l[0]!).many) coins).2) (0:Int) rfl rfl (AF (AC (?_)))))))
      refine AO (((BV (List.replicate (((l[0]!).data).length) (0:UInt8)) ((l[0]!).epoch) ((l[0]!).threshold) ((l[0]!).many) coins).2) != (0:Int)) rfl rfl (fun hc2580=>?_) (fun hc2580=>?_)
      ·have hp2581:(BV (List.replicate (((l[0]!).data).length) (0:UInt8)) ((l[0]!).epoch) ((l[0]!).threshold) ((l[0]!).many) coins).2≠(0:Int):=by simpa using hc2580
       refine AG (?_)
       refine AB kR (AA (AE (vI ((BV (List.replicate (((l[0]!).data).length) (0:UInt8)) ((l[0]!).epoch) ((l[0]!).threshold) ((l[0]!).many) coins).2)) rfl (AA (AD (nS) rfl (AA (AD (vI ((BV (List.replicate (((l[0]!).data).length) (0:UInt8)) ((l[0]!).epoch) ((l[0]!).threshold) ((l[0]!).many) coins).2)) rfl (AF (AC (?_)))))))))
       refine AP (AR (AZ rfl (FF rfl rfl rfl rfl) (?_)))
       have e:(CN l coins)=([],(BV (List.replicate (((l[0]!).data).length) (0:UInt8)) ((l[0]!).epoch) ((l[0]!).threshold) ((l[0]!).many) coins).2):=by exact HZ (l:=l) (coins:=coins) (by unfold EC HT;((repeat ((refine (if_neg ?_).trans ?_;omega)));rfl)) aS
       exact ⟨_,rfl,s2576.keep,by rw [e];exact ⟨.slice none 0 0,rfl,BG.nil _ _ _⟩⟩
      ·have hp2582:(BV (List.replicate (((l[0]!).data).length) (0:UInt8)) ((l[0]!).epoch) ((l[0]!).threshold) ((l[0]!).many) coins).2=(0:Int):=by simpa using hc2580
       have hz2:(HT l[0]! coins).2=0:=hp2582
       have hzl:=UZ hz2
       refine AU (AC (?_))
       refine AG (?_)
       refine AB kR (AA (BW U32_ rfl rfl hp2409 fun v2583 hl2584=>(?_)))
       have:=hl2584.len_le
       refine AA (CG U32_ rfl hl2584 (?_))
       obtain ⟨B2585,s2586,m2587,hp2588,hk2589⟩:=bx2438.publish (E:=Enc.share) (u:=(l[0]!)) ⟨_,rfl,hd2440⟩ s2576 (by repeat (constructor))
       have hin_b2555:b2555∈B2585:=hk2589 b2555 (by repeat (constructor)) (Ne.symm ne2568)
       have hp2409:=hp2409.mv m2587
       have hl2573:=hl2573.mv m2587
       have bx2579:=bx2579.keep (Keep.refl [] _) (by simp)
       obtain ⟨B2590,s2591,m2592,hp2593,hk2594⟩:=bx2579.publish (E:=(Enc.slice Enc.share)) (u:=(BV (List.replicate (((l[0]!).data).length) (0:UInt8)) ((l[0]!).epoch) ((l[0]!).threshold) ((l[0]!).many) coins).1) ⟨_,rfl,hl2573⟩ s2586 (by repeat (assumption))
       have hp2409:=hp2409.mv m2592
       have hp2588:=hp2588.mv m2592
       refine AA (DD (first:=[]) (captured:=[.tmp 2, .tmp 7, .tmp 8]) [] [vP (some a2404),vP (some ⟨b2427,0,none⟩),vP (some ⟨b2555,0,none⟩)] rfl rfl (AA (BB (vs:=[vI (l.length:Int),vN (.func 55) #[] #[vP (some a2404),vP (some ⟨b2427,0,none⟩),vP (some ⟨b2555,0,none⟩)]]) TP (PF (O:=B2590++O) (l.length:Int) 55 [vP (some a2404),vP (some ⟨b2427,0,none⟩),vP (some ⟨b2555,0,none⟩)] (fun i_=>FR l (l[0]!) ((BV (List.replicate (((l[0]!).data).length) (0:UInt8)) ((l[0]!).epoch) ((l[0]!).threshold) ((l[0]!).many) coins).1) i_) w2575 enter_55 (fun w'_ O'_ kk_ hs_ hl_ i_  hc_=>SW (O:=O'_) i_ a2404 l (⟨b2427,0,none⟩) (l[0]!) (⟨b2555,0,none⟩) ((BV (List.replicate (((l[0]!).data).length) (0:UInt8)) ((l[0]!).epoch) ((l[0]!).threshold) ((l[0]!).many) coins).1) w'_ (hp2409.on hs_ kk_) (hp2588.on hs_ kk_) (hp2593.on hs_ kk_) oM (show _<(HT l[0]! coins).1.length from by omega) (hv.da _ oM) (UK hz2 oM) (by have:=hv.ep i_ oM;have:=hv.ep0;omega) (by have:=hv.ep i_ oM;have:=hv.ep1;omega) oM hl_) oM s2591.lt) rfl s2591 fun v2595 w2596 s2597 m2598 k2599 r2600=>(?_))))
       obtain ⟨_,rfl,hl2601⟩:=r2600
       have:=hl2601.len_le
       refine AA (AD (v2595) rfl (AF (AC (?_))))
       refine AG (?_)
       refine AB kR (AA (AE (v2595) rfl (AA (AD (v2595) rfl (AA (AD (vI 0) rfl (AF (AC (?_)))))))))
       refine AP (AZ rfl (FF rfl rfl rfl rfl) (?_))
       have e:(CN l coins)=((List.range ((l.length:Int)).toNat).map (fun i_=>FR l (l[0]!) ((BV (List.replicate (((l[0]!).data).length) (0:UInt8)) ((l[0]!).epoch) ((l[0]!).threshold) ((l[0]!).many) coins).1) i_),(0:Int)):=by exact SA (l:=l) (coins:=coins) (by unfold EC;((repeat ((refine (if_neg ?_).trans ?_;omega)));exact hz2)) rfl
       exact ⟨_,rfl,s2597.keep,by rw [e];exact ⟨v2595,rfl,hl2601.out⟩⟩
open Go.Fw
def selB (mask:UInt8) (i:Nat):Bool:=decide (i<8) && (mask >>> UInt8.ofNat i &&& 1 == 1)
def KS (mask:UInt8) (n:Nat):List Nat:=(List.range n).filter (selB mask)
def CM (l:List Share) (mask:UInt8) (n:Nat):List Share:=(KS mask n).map fun i=>l[i]!
theorem VU (mask:UInt8) (n:Nat):KS mask (n+1)=KS mask n++if selB mask n then [n] else []:=by
  unfold KS;rw [List.range_succ,List.filter_append];congr 1
  cases h:selB mask n <;> simp [List.filter,h]
theorem someM_hit {l:List Share} {mask:UInt8} {n:Nat} (h:n<8) (h2:mask >>> UInt8.ofNat n &&& 1=1):CM l mask (n+1)=CM l mask n++[l[n]!]:=by
  unfold CM;rw [VU,if_pos (by simp [selB,h,h2])];simp
theorem someM_miss {l:List Share} {mask:UInt8} {n:Nat} (h:¬ (n<8∧mask >>> UInt8.ofNat n &&& 1=1)):CM l mask (n+1)=CM l mask n:=by
  unfold CM;rw [VU,if_neg (by simp only [selB,Bool.and_eq_true,decide_eq_true_eq,beq_iff_eq];exact h)];simp
theorem selL_lt {mask:UInt8} {n j:Nat} (h:j<(KS mask n).length):(KS mask n)[j]! < n:=by
  rw [getElem!_pos _ j h]
  have:=List.getElem_mem h
  unfold KS at this
  exact List.mem_range.1 (List.mem_filter.1 this).1
theorem selL_inc {mask:UInt8} {n i j:Nat} (hij:i<j) (h:j<(KS mask n).length):(KS mask n)[i]! < (KS mask n)[j]!:=by
  rw [getElem!_pos _ j h,getElem!_pos _ i (by omega)]
  have:(KS mask n).Pairwise (· < ·):=List.Pairwise.filter _ List.pairwise_lt_range
  exact List.pairwise_iff_getElem.1 this i j _ _ hij
theorem IS (l:List Share) (mask:UInt8) (n:Nat):(CM l mask n).length=(KS mask n).length:=by simp [CM]
theorem HG (l:List Share) (mask:UInt8) (n:Nat):(CM l mask n).length≤n:=by
  rw [IS];unfold KS;exact Nat.le_trans (List.length_filter_le _ _) (by simp)
theorem GZ {l:List Share} {mask:UInt8} {n j:Nat} (h:j<(CM l mask n).length):(CM l mask n)[j]! = l[(KS mask n)[j]!]!:=by
  rw [IS] at h
  unfold CM
  rw [getElem!_pos _ j (by simpa using h),getElem!_pos _ j h];simp
structure Num (ep t m:Int) (n:Nat):Prop where
  t1:1≤t
  tm:t≤m
  m8:m≤8
  n64:n≤64
  ep0:0≤ep
  ep1:ep≤1048576
structure On (P:Nat→List UInt8) (ep t m:Int) (n:Nat) (x:List Share):Prop where
  ep:∀ j,j<x.length→x[j]!.epoch=ep
  th:∀ j,j<x.length→x[j]!.threshold=t
  ma:∀ j,j<x.length→x[j]!.many=m
  da:∀ j,j<x.length→x[j]!.data.length=n
  ix:∀ j,j<x.length→1≤x[j]!.index∧x[j]!.index≤m
  inc:∀ i j,i<j→j<x.length→x[i]!.index<x[j]!.index
  val:∀ j,j<x.length→∀ p,p<n→x[j]!.data[p]! = EG (P p) (GP x[j]!.index)
theorem On.good {P:Nat→List UInt8} {ep t m:Int} {n:Nat} {x:List Share} (h:On P ep t m n x) (hn:Num ep t m n) (hx:0<x.length):Good x:=
  ⟨hx,by rw [h.th 0 hx];exact hn.t1,by rw [h.th 0 hx,h.ma 0 hx];exact hn.tm,by rw [h.ma 0 hx];exact hn.m8,by rw [h.da 0 hx];exact hn.n64,
   fun k hk=>by rw [h.th k hk,h.th 0 hx],fun k hk=>by rw [h.ma k hk,h.ma 0 hx],fun k hk=>by rw [h.da k hk,h.da 0 hx],fun k hk=>by rw [h.ma 0 hx];exact h.ix k hk,fun k hk=>h.inc k (k+1) (by omega) hk⟩
theorem On.vd {P:Nat→List UInt8} {ep t m:Int} {n:Nat} {x:List Share} (h:On P ep t m n x) (hn:Num ep t m n) (hx:0<x.length):Vd x:=
  ⟨h.good hn hx,fun k hk=>by rw [h.ep k hk,h.ep 0 hx],by rw [h.ep 0 hx];exact hn.ep0,by rw [h.ep 0 hx];exact hn.ep1⟩
theorem On.some {P:Nat→List UInt8} {ep t m:Int} {n:Nat} {l:List Share} (h:On P ep t m n l) (mask:UInt8):On P ep t m n (CM l mask l.length):=by
  have hs:∀ j,j<(CM l mask l.length).length→(KS mask l.length)[j]! < l.length:=fun j hj=>selL_lt (by rw [IS] at hj;exact hj)
  refine ⟨fun j hj=>?_,fun j hj=>?_,fun j hj=>?_,fun j hj=>?_,fun j hj=>?_,fun i j hij hj=>?_,fun j hj=>?_⟩
  · rw [GZ hj];exact h.ep _ (hs j hj)
  · rw [GZ hj];exact h.th _ (hs j hj)
  · rw [GZ hj];exact h.ma _ (hs j hj)
  · rw [GZ hj];exact h.da _ (hs j hj)
  · rw [GZ hj];exact h.ix _ (hs j hj)
  · rw [GZ hj,GZ (by omega)];exact h.inc _ _ (selL_inc hij (by rw [IS] at hj;exact hj)) (hs j hj)
  · rw [GZ hj];exact h.val _ (hs j hj)
theorem takeLen {α:Type} {l:List α} {n:Nat} (h:n≤l.length):(l.take n).length=n:=by rw [List.length_take];omega
theorem On.join {P:Nat→List UInt8} {ep t m:Int} {n:Nat} {x:List Share} (h:On P ep t m n x) (hn:Num ep t m n) (hx:t≤(x.length:Int)) (hd:∀ p,p<n→∀ i:Nat,t.toNat≤i→(P p)[i]! = 0) :
    CO x=((List.range n).map fun p=>EG (P p) 0,0):=by
  have ht1:=hn.t1
  have hpos:0<x.length:=by omega
  have hv:=h.vd hn hpos
  refine joinM_ok ((EN x).2 hv) (by rw [h.th 0 hpos];exact hx) ?_
  rw [h.th 0 hpos]
  have hl:(x.take t.toNat).length=t.toNat:=takeLen (by omega)
  unfold joinL
  rw [take0 (by omega),h.da 0 hpos]
  apply List.map_congr_left
  intro p hp
  have hp:p<n:=by simpa using hp
  have hm8:=hn.m8;have htm:=hn.tm
  have hxg:∀ i,i<t.toNat→(MX (x.take t.toNat))[i]! = GP x[i]!.index:=fun i hi=>by
    unfold MX;rw [GU _ _ _ (by rw [hl];exact hi),takeS hi]
  have hyg:∀ i,i<t.toNat→(EZ (x.take t.toNat) p)[i]! = x[i]!.data[p]!:=fun i hi=>by
    unfold EZ;rw [GU _ _ _ (by rw [hl];exact hi),takeS hi]
  have hnd:(MX (x.take t.toNat)).Nodup:=by
    rw [LL]
    intro i j hij hj he
    rw [ID,hl] at hj
    rw [hxg i (by omega),hxg j hj] at he
    have h1:=h.ix i (by omega);have h2:=h.ix j (by omega)
    have:=u8of_inj (by omega) (by omega) (by omega) (by omega) he
    have:=h.inc i j hij (by omega)
    omega
  have hw:FN (MX (x.take t.toNat)) (EZ (x.take t.toNat) p)=false:=(RL _ _).2 ⟨by rw [ID,PL],hnd⟩
  rw [through_ok _ hw]
  refine JU _ _ ((PM hw).2.1.unique hnd (fun i hi=>hd p hp i (by rw [ID,hl] at hi;exact hi)) fun i hi=>?_) 0
  rw [ID,hl] at hi
  rw [hxg i hi,hyg i hi,h.val i (by omega) p hp]
theorem On.few {P:Nat→List UInt8} {ep t m:Int} {n:Nat} {x:List Share} (h:On P ep t m n x) (hn:Num ep t m n) (hpos:0<x.length) (hx:(x.length:Int)<t):CO x=([],80):=
  VI ((EN x).2 (h.vd hn hpos)) (by rw [h.th 0 hpos];exact hx) rfl
theorem VH {secret:List UInt8} {ep t m:Int} {coins:List UInt8} (h:ED secret ep t m coins=0):Num ep t m secret.length:=by
  have:=(ME _ _ _ _ _).1 h
  exact ⟨by omega,by omega,by omega,by omega,by omega,by omega⟩
def pol (secret coins:List UInt8) (t:Int) (p:Nat):List UInt8:=LP secret coins t p
theorem split_on {secret:List UInt8} {ep t m:Int} {coins:List UInt8} (h:ED secret ep t m coins=0):On (pol secret coins t) ep t m secret.length (IT secret ep t m coins):=by
  have hn:=VH h
  have hg:∀ j,j<(IT secret ep t m coins).length→(IT secret ep t m coins)[j]! = EX secret (polysM secret coins t) ep t m j:=fun j hj=>PE (by rw [KJ] at hj;exact hj)
  refine ⟨fun j hj=>?_,fun j hj=>?_,fun j hj=>?_,fun j hj=>?_,fun j hj=>?_,fun i j hij hj=>?_,fun j hj p hp=>?_⟩
  · rw [hg j hj];rfl
  · rw [hg j hj];rfl
  · rw [hg j hj];rfl
  · rw [hg j hj,NH]
  · rw [hg j hj];rw [KJ] at hj;simp only [EX];omega
  · rw [hg j hj,hg i (by omega)];simp only [EX];omega
  · rw [hg j hj];simp only [EX];rw [GU _ _ _ hp,polys_get hp];rfl
theorem pol_len {secret:List UInt8} {t:Int} {coins:List UInt8} (ht:1≤t) (hc:(coins.length:Int)=(secret.length:Int)*(t - 1)) {p:Nat} (hp:p<secret.length):(pol secret coins t p).length=t.toNat:=by
  have hb:=polyB (m:=coins.length) hp ht hc
  unfold pol LP
  rw [List.length_cons,List.length_drop,List.length_take,Nat.min_eq_left hb,Nat.add_mul]
  omega
theorem pol_high {secret:List UInt8} {ep t m:Int} {coins:List UInt8} (h:ED secret ep t m coins=0):∀ p,p<secret.length→∀ i:Nat,t.toNat≤i→(pol secret coins t p)[i]! = 0:=fun p hp i hi=>by
  have:=(ME _ _ _ _ _).1 h
  exact DX (by rw [pol_len (by omega) this.2.2.2.2.2.2 hp];exact hi)
theorem pol_at0 (secret coins:List UInt8) (t:Int) (p:Nat):EG (pol secret coins t p) 0=secret[p]!:=by
  unfold pol LP;rw [GD,JR,UInt8.zero_xor]
theorem range_get (l:List UInt8):((List.range l.length).map fun p=>l[p]!)=l:=by
  apply SG (by simp)
  intro i
  by_cases hi:i<l.length
  · rw [GU _ _ _ hi]
  · rw [DX (by simp;omega),DX (by omega)]
theorem SB {l:List Share} {secret:List UInt8} {m:Nat} (hg:Good l) (h:1+l.length+m≤100):∀ p,(OM l secret m p).length=p*(l.length+m)
  | 0=>by simp [OM]
  | p+1=>by rw [OM,List.length_append,SB hg h p,List.length_drop,exp_len hg h,Nat.add_mul];omega
def Full (m:Int) (l:List Share):Prop:=l.length=m.toNat∧∀ k,k<l.length→l[k]!.index=(k:Int)+1
theorem TW (secret:List UInt8) (ep t m:Int) (coins:List UInt8):Full m (IT secret ep t m coins):=
  ⟨KJ _ _ _ _ _,fun k hk=>by rw [PE (by rw [KJ] at hk;exact hk)];rfl⟩
open Go.Fw
structure Spl (secret:List UInt8) (ep t m:Int) (l:List Share):Prop where
  num:Num ep t m secret.length
  full:Full m l
  ex:∃ P,On P ep t m secret.length l∧(∀ p,p<secret.length→∀ i:Nat,t.toNat≤i→(P p)[i]! = 0)∧∀ p,p<secret.length→EG (P p) 0=secret[p]!
theorem VR {secret:List UInt8} {ep t m:Int} {coins:List UInt8} (h:(BV secret ep t m coins).2=0):Spl secret ep t m (BV secret ep t m coins).1:=by
  have hr:=JL h
  rw [hr.2]
  exact ⟨VH hr.1,TW _ _ _ _ _,pol secret coins t,split_on hr.1,pol_high hr.1,fun p _=>pol_at0 _ _ _ _⟩
theorem Spl.len {secret:List UInt8} {ep t m:Int} {l:List Share} (h:Spl secret ep t m l):(l.length:Int)=m:=by
  have:=h.num.tm;have:=h.num.t1;rw [h.full.1];omega
theorem Spl.join {secret:List UInt8} {ep t m:Int} {l:List Share} (h:Spl secret ep t m l) (mask:UInt8) (hx:t≤((CM l mask l.length).length:Int)):CO (CM l mask l.length)=(secret,0):=by
  obtain ⟨P,h1,h2,h3⟩:=h.ex
  rw [(h1.some mask).join h.num hx h2]
  congr 1
  refine Eq.trans (List.map_congr_left fun p hp=>h3 p (by simpa using hp)) (range_get secret)
theorem Spl.few {secret:List UInt8} {ep t m:Int} {l:List Share} (h:Spl secret ep t m l) (mask:UInt8) (hpos:0<(CM l mask l.length).length) (hx:((CM l mask l.length).length:Int)<t):CO (CM l mask l.length)=([],80):=by
  obtain ⟨P,h1,_⟩:=h.ex
  exact (h1.some mask).few h.num hpos hx
theorem Spl.many {secret:List UInt8} {ep t m:Int} {l:List Share} (h:Spl secret ep t m l) (mask:UInt8) (other:List UInt8) (hpos:0<(CM l mask l.length).length) (hx:t≤((CM l mask l.length).length:Int)):BJ (CM l mask l.length) other=([],80):=by
  obtain ⟨P,h1,_⟩:=h.ex
  have h2:=h1.some mask
  exact LH ((EN _).2 (h2.vd h.num hpos)) (by rw [h2.th 0 hpos];exact hx) rfl
theorem Spl.da {secret:List UInt8} {ep t m:Int} {l:List Share} (h:Spl secret ep t m l) {i:Nat} (hi:i<l.length):l[i]!.data.length=secret.length:=by
  obtain ⟨P,h1,_⟩:=h.ex
  exact h1.da i hi
def padd (l m:List UInt8):List UInt8:=tab (max l.length m.length) fun i=>l[i]! ^^^ m[i]!
theorem padd_get (l m:List UInt8) (i:Nat):(padd l m)[i]! = l[i]! ^^^ m[i]!:=by
  unfold padd;rw [LG]
  split
  · rfl
  · rw [DX (by omega),DX (by omega)];rfl
theorem padd_pev (l m:List UInt8) (x:UInt8):EG (padd l m) x=EG l x ^^^ EG m x:=QJ _ _ _ (padd_get l m) x
open Go.Fw
theorem Spl.epoch {secret:List UInt8} {ep t m:Int} {l:List Share} (h:Spl secret ep t m l) (mask:UInt8) {j:Nat} (hj:j<(CM l mask l.length).length) :
    (CM l mask l.length)[j]!.epoch=ep∧(CM l mask l.length)[j]!.threshold=t∧(CM l mask l.length)[j]!.many=m:=by
  obtain ⟨P,h1,_⟩:=h.ex
  have:=h1.some mask
  exact ⟨this.ep j hj,this.th j hj,this.ma j hj⟩
theorem refresh_bad {secret:List UInt8} {ep t m:Int} {l:List Share} (h:Spl secret ep t m l) (hep:ep<1048576) (coins:List UInt8) :
    EC l coins=ED (List.replicate secret.length 0) ep t m coins:=by
  obtain ⟨P,h1,_⟩:=h.ex
  have hl:=h.len
  have:=h.num.t1;have:=h.num.tm
  have hpos:0<l.length:=by omega
  have hv:=h1.vd h.num hpos
  unfold EC
  rw [if_neg (by rw [(EN l).2 hv];simp),if_neg (by rw [h1.ma 0 hpos,hl];simp),if_neg (by rw [h1.ep 0 hpos];omega)]
  unfold HT
  rw [MG,h1.da 0 hpos,h1.ep 0 hpos,h1.th 0 hpos,h1.ma 0 hpos]
theorem RW (l:List Share) (coins:List UInt8):(CN l coins).2=EC l coins:=by
  unfold CN;split
  · rename_i h;rw [h]
  · rfl
theorem TV (n p:Nat):(List.replicate n (0:UInt8))[p]! = 0:=by
  by_cases h:p<n
  · rw [getElem!_pos _ p (by simpa using h)];simp
  · rw [DX (by simp;omega)]
theorem spl_refresh {secret:List UInt8} {ep t m:Int} {l:List Share} (h:Spl secret ep t m l) (hep:ep<1048576) {coins:List UInt8} (h0:(CN l coins).2=0):Spl secret (ep+1) t m (CN l coins).1:=by
  have hb:=h0
  rw [RW] at hb
  rw [show (CN l coins).1=KN l coins by unfold CN;rw [if_pos hb]]
  rw [refresh_bad h hep] at hb
  have hl:=h.len
  have hn:=h.num
  have:=hn.t1;have:=hn.tm
  have hpos:0<l.length:=by omega
  obtain ⟨P,h1,h2,h3⟩:=h.ex
  have hz:(HT l[0]! coins).1=IT (List.replicate secret.length 0) ep t m coins:=by
    unfold HT
    rw [h1.da 0 hpos,h1.ep 0 hpos,h1.th 0 hpos,h1.ma 0 hpos]
    exact (JL (by rw [MG];exact hb)).2
  have hzo:=split_on hb
  have hzf:=TW (List.replicate secret.length 0) ep t m coins
  have hgl:(KN l coins).length=l.length:=by simp [KN]
  have hg:∀ j,j<l.length→(KN l coins)[j]! = FR l l[0]! (IT (List.replicate secret.length 0) ep t m coins) j:=fun j hj=>by
    unfold KN;rw [GU _ _ _ hj,hz]
  have hzl:(IT (List.replicate secret.length 0) ep t m coins).length=l.length:=by rw [hzf.1,h.full.1]
  refine ⟨⟨hn.t1,hn.tm,hn.m8,hn.n64,by have:=hn.ep0;omega,by omega⟩,⟨by rw [hgl,h.full.1],fun k hk=>by rw [hgl] at hk;rw [hg k hk];exact h.full.2 k hk⟩,fun p=>padd (P p) (pol (List.replicate secret.length 0) coins t p),?_,fun p hp i hi=>?_,fun p hp=>?_⟩
  · refine ⟨fun j hj=>?_,fun j hj=>?_,fun j hj=>?_,fun j hj=>?_,fun j hj=>?_,fun i j hij hj=>?_,fun j hj p hp=>?_⟩ <;> rw [hgl] at hj
    · rw [hg j hj];simp only [FR];rw [h1.ep j hj]
    · rw [hg j hj];exact h1.th j hj
    · rw [hg j hj];exact h1.ma j hj
    · rw [hg j hj];simp only [FR,TJ,List.length_map,List.length_range];exact h1.da 0 hpos
    · rw [hg j hj];exact h1.ix j hj
    · rw [hg j hj,hg i (by omega)];exact h1.inc i j hij hj
    · rw [hg j hj];simp only [FR,TJ]
      rw [GU _ _ _ (by rw [h1.da 0 hpos];exact hp),padd_pev,h1.val j hj p hp,hzo.val j (by omega) p (by simpa using hp),h.full.2 j hj,hzf.2 j (by omega)]
  · rw [padd_get,h2 p hp i hi,pol_high hb p (by simpa using hp) i hi];rfl
  · rw [padd_pev,h3 p hp,pol_at0,TV];simp
open Go.Fw
section
variable {c:Circle}
end
section
variable {c:Circle} {day no g:Int}
end
def UB (c:Circle) (k:Nat):Bool:=decide (20<(c.recs[k]!.approved.length:Int)) || decide (20<(c.recs[k]!.vetoed.length:Int))
def MU (c:Circle):Bool:=FG (fun k=>if UB c k then some false else none) (decide ((c.guardians.length:Int)≤12) && decide ((c.recs.length:Int)≤20)) 0 (c.recs.length - 0)
open Go.Fw
theorem TC {α:Type} [Inhabited α] {l:List α} {i k:Nat} {x:α} (h:i<l.length):(l.set i x)[k]! = if k=i then x else l[k]!:=by
  by_cases hk:k<l.length
  · rw [getElem!_pos _ k (by simpa using hk),List.getElem_set,getElem!_pos l k hk]
    by_cases e:i=k
    · subst e;simp
    · rw [if_neg e,if_neg (fun h=>e h.symm)]
  · rw [if_neg (by omega),getElem!_neg _ k (by simpa using hk),getElem!_neg l k (by simpa using hk)]
def UQ (c:Circle) (i:Nat) (r:Recovery):Circle:=⟨c.epoch,c.threshold,c.wait,c.guardians,c.recs.set i r⟩
theorem check_set {c:Circle} {i:Nat} {r:Recovery} (h:AS c=0) (hi:i<c.recs.length) (hno:r.no=c.recs[i]!.no) (ha:r.asked=c.recs[i]!.asked) (hr:EF r=true) (hs:r.state≠0∨c.recs[i]!.state=0):AS (UQ c i r)=0:=by
  have h0:=(FJ c).1 h
  refine (FJ _).2 ⟨?_,fun k hk=>?_⟩
  · have e:DJ (UQ c i r)=DJ c:=by unfold DJ UQ;simp only [List.length_set]
    rw [e];exact h0.1
  · have hk':k<c.recs.length:=by simpa [UQ] using hk
    have hk0:=JV.1 (h0.2 k hk')
    have hask:EM (UQ c i r).recs k=EM c.recs k:=by
      unfold EM
      by_cases e:k=0
      · rw [if_pos e,if_pos e]
      · rw [if_neg e,if_neg e]
        show (c.recs.set i r)[k - 1]!.asked=_
        rw [TC hi]
        split
        · rename_i e2;rw [ha,e2]
        · rfl
    rw [JV,hask]
    show (c.recs.set i r)[k]!.no=_∧_
    have hl:(UQ c i r).recs.length=c.recs.length:=by simp [UQ]
    rw [hl]
    show (c.recs.set i r)[k]!.no=_∧CT (c.recs.set i r)[k]!.asked _=true∧EF (c.recs.set i r)[k]! = true∧((c.recs.set i r)[k]!.state≠0∨_)
    rw [TC hi]
    split
    · rename_i e
      subst e
      refine ⟨by rw [hno];exact hk0.1,by rw [ha];exact hk0.2.1,hr,?_⟩
      rcases hs with hs|hs
      · exact .inl hs
      · right;rcases hk0.2.2.2 with h1|h1
        · exact absurd hs h1
        · exact h1
    · exact hk0
section
variable {c:Circle} {no day:Int}
end
section
variable {l:List Int} {t w a day:Int} {k:Nat}
end
section
variable {l:List Int} {t w a day:Int} {k:Nat}
end
open Go.Fw
theorem RG (p:Nat→Bool):∀ (m i:Nat),(FG (fun k=>if p k then some (k:Int) else none) (-1) i m = -1∧∀ k,i≤k→k<i+m→p k=false)∨∃ k,i≤k∧k<i+m∧p k=true∧FG (fun k=>if p k then some (k:Int) else none) (-1) i m=(k:Int)∧∀ q,i≤q→q<k→p q=false
  | 0,i=>.inl ⟨rfl,fun k h1 h2=>by omega⟩
  | m+1,i=>by
    cases h:p i with
    | true=>exact .inr ⟨i,Nat.le_refl _,by omega,h,by simp [FG,h],fun q h1 h2=>by omega⟩
    | false=>
      have e:FG (fun k=>if p k then some (k:Int) else none) (-1) i (m+1)=FG (fun k=>if p k then some (k:Int) else none) (-1) (i+1) m:=by simp [FG,h]
      rw [e]
      rcases RG p m (i+1) with ⟨h1,h2⟩|⟨k,h1,h2,h3,h4,h5⟩
      · refine .inl ⟨h1,fun k hk hk2=>?_⟩
        by_cases e:k=i
        · rw [e];exact h
        · exact h2 k (by omega) (by omega)
      · refine .inr ⟨k,by omega,by omega,h3,h4,fun q hq hq2=>?_⟩
        by_cases e:q=i
        · rw [e];exact h
        · exact h5 q (by omega) hq2
def EW (l:List Share) (f:Share→Bool):Int:=FG (fun k=>if f l[k]! then some (k:Int) else none) (-1) 0 (l.length - 0)
theorem idxS_any (l:List Share) (f:Share→Bool):decide ((0:Int)≤EW l f)=l.any f:=by
  unfold EW
  rcases RG (fun k=>f l[k]!) (l.length - 0) 0 with ⟨h1,h2⟩|⟨k,h1,h2,h3,h4,_⟩
  · rw [h1]
    have:l.any f=false:=by
      rw [List.any_eq_false];intro x hx
      obtain ⟨i,hi,rfl⟩:=List.getElem_of_mem hx
      have:=h2 i (by omega) (by omega)
      rw [getElem!_pos l i hi] at this;simp [this]
    rw [this];rfl
  · rw [h4]
    have:l.any f=true:=List.any_eq_true.2 ⟨l[k]!,by rw [getElem!_pos l k (by omega)];exact List.getElem_mem _,h3⟩
    rw [this];simp
def FA (c:Circle) (s:Share):Bool:=(s.epoch != c.epoch || s.threshold != c.threshold) || (s.many != (c.guardians.length:Int))
def CD (c:Circle) (l:List Share):Int:=if BP l != 0 then BP l else if l.any (FA c) then 460 else 0
def AM (c:Circle) (secret coins:List UInt8):List Share × Int:=if AS c != 0 then ([],AS c) else BV secret c.epoch c.threshold (c.guardians.length:Int) coins
def AK (c:Circle) (l:List Share) (coins:List UInt8):Circle × List Share × Int:=
  if AS c != 0 then (DZ,[],AS c) else if CD c l != 0 then (DZ,[],CD c l) else if (CN l coins).2 != 0 then (DZ,[],(CN l coins).2)
  else (⟨c.epoch+1,c.threshold,c.wait,c.guardians,c.recs⟩,(CN l coins).1,0)
def LI (c:Circle) (others:List Int) (t:Int):Circle:=⟨c.epoch+1,t,c.wait,others,c.recs⟩
def AJ (c:Circle) (l:List Share) (others:List Int) (t:Int) (coins:List UInt8):Circle × List Share × Int:=
  if AS c != 0 then (DZ,[],AS c) else if CD c l != 0 then (DZ,[],CD c l) else if (CO l).2 != 0 then (DZ,[],(CO l).2)
  else if (AM (LI c others t) (CO l).1 coins).2 != 0 then (DZ,[],(AM (LI c others t) (CO l).1 coins).2)
  else (LI c others t,(AM (LI c others t) (CO l).1 coins).1,0)
def BS (c:Circle) (no:Int) (l:List Share):List UInt8 × Int:=
  if AS c != 0 then ([],AS c) else if decide (no<0) || decide ((c.recs.length:Int)≤no) then ([],1)
  else if c.recs[no.toNat]!.state == 2 then ([],452) else if c.recs[no.toNat]!.state == 0 then ([],460) else if CD c l != 0 then ([],CD c l) else CO l
theorem circ_ep {c:Circle} (h:AS c=0):0≤c.epoch∧c.epoch≤1048576∧1≤(c.guardians.length:Int)∧(c.guardians.length:Int)≤8∧1≤c.threshold∧c.threshold≤(c.guardians.length:Int):=by
  have hh:=((FJ c).1 h).1
  unfold DJ at hh
  simp only [Bool.or_eq_false_iff,decide_eq_false_iff_not] at hh
  omega
section
variable {c:Circle} {l:List Share} {secret coins:List UInt8} {others:List Int} {t no:Int}
theorem deal_1 (h:AS c≠0):AM c secret coins=([],AS c):=if_pos (by simpa using h)
theorem deal_2 (h:AS c=0):AM c secret coins=BV secret c.epoch c.threshold (c.guardians.length:Int) coins:=if_neg (by simpa using h)
theorem belong_1 (h:BP l≠0):CD c l=BP l:=if_pos (by simpa using h)
theorem belong_2 (h:BP l=0) (h2:l.any (FA c)=true):CD c l=460:=by unfold CD;rw [if_neg (by simpa using h),if_pos h2]
theorem belong_3 (h:BP l=0) (h2:l.any (FA c)=false):CD c l=0:=by unfold CD;rw [if_neg (by simpa using h),if_neg (by rw [h2];simp)]
theorem QP (h:AS c≠0):AK c l coins=(DZ,[],AS c):=if_pos (by simpa using h)
theorem NZ (h:AS c=0) (h2:CD c l≠0):AK c l coins=(DZ,[],CD c l):=by unfold AK;rw [if_neg (by simpa using h),if_pos (by simpa using h2)]
theorem PU (h:AS c=0) (h2:CD c l=0) (h3:(CN l coins).2≠0):AK c l coins=(DZ,[],(CN l coins).2):=by unfold AK;rw [if_neg (by simpa using h),if_neg (by simpa using h2),if_pos (by simpa using h3)]
theorem PK (h:AS c=0) (h2:CD c l=0) (h3:(CN l coins).2=0):AK c l coins=(⟨c.epoch+1,c.threshold,c.wait,c.guardians,c.recs⟩,(CN l coins).1,0):=by unfold AK;rw [if_neg (by simpa using h),if_neg (by simpa using h2),if_neg (by simpa using h3)]
theorem OE (h:AS c≠0):AJ c l others t coins=(DZ,[],AS c):=if_pos (by simpa using h)
theorem LV (h:AS c=0) (h2:CD c l≠0):AJ c l others t coins=(DZ,[],CD c l):=by unfold AJ;rw [if_neg (by simpa using h),if_pos (by simpa using h2)]
theorem NV (h:AS c=0) (h2:CD c l=0) (h3:(CO l).2≠0):AJ c l others t coins=(DZ,[],(CO l).2):=by unfold AJ;rw [if_neg (by simpa using h),if_neg (by simpa using h2),if_pos (by simpa using h3)]
theorem IV (h:AS c=0) (h2:CD c l=0) (h3:(CO l).2=0) (h4:(AM ⟨c.epoch+1,t,c.wait,others,c.recs⟩ (CO l).1 coins).2≠0):AJ c l others t coins=(DZ,[],(AM ⟨c.epoch+1,t,c.wait,others,c.recs⟩ (CO l).1 coins).2):=by
  unfold AJ LI;rw [if_neg (by simpa using h),if_neg (by simpa using h2),if_neg (by simpa using h3),if_pos (by simpa using h4)]
theorem IR (h:AS c=0) (h2:CD c l=0) (h3:(CO l).2=0) (h4:(AM ⟨c.epoch+1,t,c.wait,others,c.recs⟩ (CO l).1 coins).2=0):AJ c l others t coins=(⟨c.epoch+1,t,c.wait,others,c.recs⟩,(AM ⟨c.epoch+1,t,c.wait,others,c.recs⟩ (CO l).1 coins).1,0):=by
  unfold AJ LI;rw [if_neg (by simpa using h),if_neg (by simpa using h2),if_neg (by simpa using h3),if_neg (by simpa using h4)]
theorem rest_1 (h:AS c≠0):BS c no l=([],AS c):=if_pos (by simpa using h)
theorem rest_2 (h:AS c=0) (h2:no<0∨(c.recs.length:Int)≤no):BS c no l=([],1):=by unfold BS;rw [if_neg (by simpa using h),if_pos (by simp only [dbs];exact h2)]
section
variable (h:AS c=0) (h0:0≤no) (h1:no<(c.recs.length:Int))
include h h0 h1
theorem rest_3 (h2:c.recs[no.toNat]!.state=2):BS c no l=([],452):=by unfold BS;rw [if_neg (by simpa using h),if_neg (by simp only [dbs];omega),if_pos (by simpa using h2)]
theorem rest_4 (h3:c.recs[no.toNat]!.state=0):BS c no l=([],460):=by unfold BS;rw [if_neg (by simpa using h),if_neg (by simp only [dbs];omega),if_neg (by rw [h3];decide),if_pos (by simpa using h3)]
theorem rest_5 (h2:c.recs[no.toNat]!.state≠2) (h3:c.recs[no.toNat]!.state≠0) (h4:CD c l≠0):BS c no l=([],CD c l):=by unfold BS;rw [if_neg (by simpa using h),if_neg (by simp only [dbs];omega),if_neg (by simpa using h2),if_neg (by simpa using h3),if_pos (by simpa using h4)]
theorem rest_6 (h2:c.recs[no.toNat]!.state≠2) (h3:c.recs[no.toNat]!.state≠0) (h4:CD c l=0):BS c no l=CO l:=by unfold BS;rw [if_neg (by simpa using h),if_neg (by simp only [dbs];omega),if_neg (by simpa using h2),if_neg (by simpa using h3),if_neg (by simpa using h4)]
end
end
def xorM (a b:List UInt8):List UInt8:=tab a.length fun k=>a[k]! ^^^ b[k]!
def atS (l:List Share) (i:Int):Share:=l[(EW l fun o=>o.index == i).toNat]!
def mixS (s:List Share) (x:Share):Share:=⟨x.epoch,x.index,x.threshold,x.many,xorM x.data (atS s x.index).data⟩
def FC (b s:List Share) (k:Nat):List Share:=(b.take k).map (mixS s)
abbrev MA (f g:Share):Bool:=((f.threshold != g.threshold || f.many != g.many) || (f.data.length:Int) != (g.data.length:Int)) || (g.epoch != f.epoch+1)
abbrev CQ (a:List Share) (secret:List UInt8):List Share:=(BV secret a[0]!.epoch a[0]!.threshold a[0]!.many (BJ a secret).1).1
abbrev mixQ (a b:List Share) (secret:List UInt8):List UInt8 × Int:=BJ (FC b (CQ a secret) b.length) (List.replicate secret.length 0)
def CA (a b:List Share) (secret:List UInt8):List UInt8 × Int:=
  if BP a != 0 then ([],BP a) else if BP b != 0 then ([],BP b) else if MA a[0]! b[0]! then ([],460)
  else if (BJ a secret).2 != 0 then ([],(BJ a secret).2)
  else if (mixQ a b secret).2 != 0 then ([],(mixQ a b secret).2) else ((BJ a secret).1++(mixQ a b secret).1,0)
open Go.Fw Go.RowKit
set_option maxHeartbeats 4000000 in
set_option maxRecDepth 100000 in
theorem c_idxS {O:List Nat} (l_v:Value) (l:List Share) (f_v:Nat) (f_caps:List Value) (f:Share→Bool) (w:World) (h_l:BG Enc.share w O l_v l) (h_f_e:∀ (vs_:Array Value) (w:World),(callFunc f_v vs_).run Try.prog w = .ok (.enter f_v vs_) w) (h_f:∀ (w':World) (O':List Nat),Keep [] w w'→(∀ b∈O',b∈O∨w.heap.size≤b)→(∀ b∈O',b<w'.heap.size)→∀ (x_cs:List Value) (x:Share),Enc.share.rd w' O' x_cs x→CF Try.prog f_v ([.agg x_cs.toArray]++f_caps) w' (fun v w2=>v = .bool (f x))) (hO:∀ b∈O,b<w.heap.size):CF Try.prog 96 [l_v, .func (.func f_v) #[] f_caps.toArray] w (fun v _=>v=vI (EW l f)):= by
 have lim_l:=h_l.len_le
 have h_l:BG Enc.share w ([]++O) l_v l:=h_l
 have s0:St w O w []:=St.start hO
 refine BQ 19 Try.func96 rfl rfl oT (fun F0=>?_)
 refine AG (?_)
 refine AB kR (AA (AD (vI 0) rfl (AF (AC (?_)))))
 refine AG (?_)
 refine AG (?_)
 refine AB kR (AA (AE (l_v) rfl (AA (CG U32_ rfl h_l (AA (AE (vI 0) rfl (AF (AC (?_)))))))))
 refine BR (?_)
 refine DH (fun mI FI wI=>∃ (k:Nat) (B:List Nat),k≤l.length∧EW l f=FG (fun k=>if f l[k]! then some (k:Int) else none) (-1) k (l.length - k)∧mI=l.length - k∧(∃ F1,FI=FT F1 [(0,l_v),(1,vN (.func f_v) #[] f_caps.toArray),(7,vI (l.length:Int)),(8,vI ((k:Nat):Int)),(19,undef)])∧St w O wI B∧BG Enc.share wI (B++O) (l_v) (l)) (l.length - (0)) ?_ ?_
 ·exact ⟨(0),[],oM,rfl,rfl,⟨_,AX _ ⟨rfl,rfl,rfl,(by rfl),rfl,trivial⟩⟩,s0,h_l⟩
 ·intro ml0 F wl0 hI
  clear h_l
  obtain ⟨k,Bl0,hr0_0,hr0_1,hm0,⟨Fl0,rfl⟩,sl0,h_l⟩:=hI
  refine AG (?_)
  refine AB kR (AA (DW .i64 ((k:Nat):Int) (l.length:Int) rfl rfl (AF (AC (?_)))))
  refine AG (?_)
  refine AO (decide (((k:Nat):Int)<(l.length:Int))) rfl rfl (fun hc5066=>?_) (fun hc5066=>?_)
  ·have hp5067:((k:Nat):Int)<(l.length:Int):=by simpa using hc5066
   refine AU (AC (?_))
   refine AG (?_)
   refine BR (?_)
   refine AG (?_)
   refine AB kR (AA (AE (vI ((k:Nat):Int)) rfl (AA (AD (vI ((k:Nat):Int)) rfl (AF (AC (?_)))))))
   refine AG (?_)
   refine AB kR (AA (AE (vN (.func f_v) #[] f_caps.toArray) rfl (AA (AE (l_v) rfl (AA (AE (vI ((k:Nat):Int)) rfl (AA (DI U32_ DM .i64 ((k:Nat):Int) k rfl rfl rfl h_l oM fun a5068 hp5069=>(AA (CR U70_ rfl DM rfl hp5069 fun cs5070 hs5071=>(AA (PJ [] f_caps [vA cs5070.toArray] h_f_e rfl (h_f wl0 (Bl0++O) sl0.keep (fun b hb=>(List.mem_append.1 hb).elim (fun h=>.inr (sl0.new b h).1) .inl) sl0.lt cs5070 (l[k]!) hs5071) rfl rfl sl0 fun v5072 w5073 s5074 m5075 k5076 r5077=>(?_)))))))))))))
   obtain rfl:=r5077
   have h_l:=h_l.mv m5075
   refine AF (AC (?_))
   refine AO (f (l[k]!)) rfl rfl (fun hc5078=>?_) (fun hc5078=>?_)
   ·have hp5079:(f (l[k]!))=true:=by simpa using hc5078
    refine AG (?_)
    refine AB kR (AA (AE (vI ((k:Nat):Int)) rfl (AA (AD (vI ((k:Nat):Int)) rfl (AF (AC (?_)))))))
    refine AP (CB (AR (AR (CB (AR (AZ rfl (CS rfl rfl rfl) (?_)))))))
    have e:(EW l f)=((k:Nat):Int):=by (rw [hr0_1];exact DQ oM (by ((repeat ((refine (if_pos ?_).trans ?_;omega)));rfl)))
    exact ⟨_,rfl,s5074.keep,by rw [e];exact rfl⟩
   ·have hp5080:(f (l[k]!))=false:=by simpa using hc5078
    refine AU (CI (AC (?_)))
    refine AB kR (AA (DC .i64 ((k:Nat):Int) (1:Int) (((k+1:Nat):Int)) rfl rfl (FO oM oM) (AA (AE (vI ((k+1:Nat):Int)) rfl (AF (AC (?_)))))))
    exact ⟨_,oM,(k+1),Bl0,oM,(hr0_1.trans (GJ oM (by ((repeat ((refine (if_neg ?_).trans ?_;solve|(simp only [dbs];(repeat (omega))))));rfl)))),rfl,⟨_,AX _ ⟨rfl,rfl,rfl,(by rfl),rfl,trivial⟩⟩,s5074,h_l⟩
  ·have hp5081:(l.length:Int)≤((k:Nat):Int):=by simpa using hc5066
   refine DE (CC (CC (CY (AC (?_)))))
   refine AG (?_)
   refine AB kR (AA (AD (vI (-1:Int)) rfl (AF (AC (?_)))))
   refine AP (AZ rfl (CS rfl rfl rfl) (?_))
   have e:(EW l f)=(-1:Int):=by (rw [hr0_1];exact HD oM)
   exact ⟨_,rfl,sl0.keep,by rw [e];exact rfl⟩
set_option maxHeartbeats 4000000 in
set_option maxRecDepth 100000 in
theorem c_containsS {O:List Nat} (l_v:Value) (l:List Share) (f_v:Nat) (f_caps:List Value) (f:Share→Bool) (w:World) (h_l:BG Enc.share w O l_v l) (h_f_e:∀ (vs_:Array Value) (w:World),(callFunc f_v vs_).run Try.prog w = .ok (.enter f_v vs_) w) (h_f:∀ (w':World) (O':List Nat),Keep [] w w'→(∀ b∈O',b∈O∨w.heap.size≤b)→(∀ b∈O',b<w'.heap.size)→∀ (x_cs:List Value) (x:Share),Enc.share.rd w' O' x_cs x→CF Try.prog f_v ([.agg x_cs.toArray]++f_caps) w' (fun v w2=>v = .bool (f x))) (hO:∀ b∈O,b<w.heap.size):CF Try.prog 87 [l_v, .func (.func f_v) #[] f_caps.toArray] w (fun v _=>v = .bool (l.any f)):= by
 have lim_l:=h_l.len_le
 have h_l:BG Enc.share w ([]++O) l_v l:=h_l
 have s0:St w O w []:=St.start hO
 refine BQ 9 Try.func87 rfl rfl oT (fun F0=>?_)
 refine AG (?_)
 refine AB kR (AA (AD (vO false) rfl (AF (AC (?_)))))
 refine AG (?_)
 refine AB kR (AA (AE (l_v) rfl (AA (AE (vN (.func f_v) #[] f_caps.toArray) rfl (AA (BB (vs:=[l_v,vN (.func f_v) #[] f_caps.toArray]) enter_96 (c_idxS (O:=[]++O) l_v l f_v f_caps f w h_l h_f_e (fun w'_ O'_ kk_ hs_ hl_=>h_f w'_ O'_ (s0.keep.trans kk_) (fun b hb=>(hs_ b hb).elim (fun h=>(List.mem_append.1 h).elim (fun h=>.inr (s0.new b h).1) .inl) (fun h=>.inr (Nat.le_trans s0.keep.size h))) hl_) s0.lt) rfl s0 fun v5082 w5083 s5084 m5085 k5086 r5087=>(?_)))))))
 obtain rfl:=r5087
 refine AA (KI .i64 (EW l f) (0:Int) rfl rfl (AA (AD (vO (decide ((0:Int)≤EW l f))) rfl (AF (AC (?_))))))
 refine AP (AZ rfl (CS rfl rfl rfl) (?_))
 have e:(l.any f)=(decide ((0:Int)≤EW l f)):=by exact (idxS_any _ _).symm
 exact ⟨_,rfl,s5084.keep,(by exact congrArg vO e.symm)⟩
set_option maxHeartbeats 4000000 in
set_option maxRecDepth 100000 in
theorem c_belong1 {O:List Nat} (x_cs:List Value) (x:Share) (c_a:Addr) (c:Circle) (w:World) (h_x:Enc.share.rd w O x_cs x) (h_c:PT Enc.circle w O (.pointer (some c_a)) c) (hO:∀ b∈O,b<w.heap.size):CF Try.prog 86 [.agg x_cs.toArray, .pointer (some c_a)] w (fun v _=>v = .bool (FA c x)):= by
 have h_x:Enc.share.rd w ([]++O) x_cs x:=h_x
 have h_c:PT Enc.circle w ([]++O) (.pointer (some c_a)) c:=h_c
 have s0:St w O w []:=St.start hO
 refine BQ 24 Try.func86 rfl rfl oT (fun F0=>?_)
 refine AG (?_)
 refine AB kR (AA (DO (E:=Enc.share) (vA x_cs.toArray) (x_cs) x rfl rfl h_x s0 fun a5088 w5089 s5090 m5091 k5092 hp5093=>(?_)))
 have h_c:=h_c.mv m5091
 refine AA (AD (vO false) rfl (AF (AC (?_))))
 refine AG (?_)
 refine AB kR (AA (BM 0 IP (x.epoch) rfl hp5093 (fun _ _ _ h=>MH h) fun a5094 hp5095=>(AA (CE U3_ rfl rfl hp5095 (AA (BM 0 JG (c.epoch) rfl h_c (fun _ _ _ h=>HE h) fun a5096 hp5097=>(AA (CE U3_ rfl rfl hp5097 (AA (CV .i64 x.epoch c.epoch rfl rfl (AA (AE (vO (x.epoch != c.epoch)) rfl (?_)))))))))))))
 cases hb5098:(x.epoch != c.epoch)
 ·have hp5099:x.epoch=c.epoch:=by simpa using hb5098
  refine BE rfl (BM 2 KL (x.threshold) rfl hp5093 (fun _ _ _ h=>LZ h) fun a5100 hp5101=>(BE rfl (CE U3_ rfl rfl hp5101 (BE rfl (BM 1 NI (c.threshold) rfl h_c (fun _ _ _ h=>HH h) fun a5102 hp5103=>(BE rfl (CE U3_ rfl rfl hp5103 (BE rfl (CV .i64 x.threshold c.threshold rfl rfl (AA (BX (vO (x.threshold != c.threshold)) rfl rfl (AA (AE (vO (x.threshold != c.threshold)) rfl (?_))))))))))))))
  cases hb5104:(x.threshold != c.threshold)
  ·have hp5105:x.threshold=c.threshold:=by simpa using hb5104
   refine BE rfl (BM 3 KK (x.many) rfl hp5093 (fun _ _ _ h=>Enc_share_f3 h) fun a5106 hp5107=>(BE rfl (CE U3_ rfl rfl hp5107 (BE rfl (BM 3 JW (c.guardians) rfl h_c (fun _ _ _ h=>EQ h) fun a5108 hp5109=>(BE rfl (BW U22_ rfl rfl hp5109 fun v5110 hl5111=>(?_))))))))
   have:=hl5111.len_le
   refine BE rfl (CG U22_ rfl hl5111 (BE rfl (CV .i64 x.many (c.guardians.length:Int) rfl rfl (AA (BX (vO (x.many != (c.guardians.length:Int))) rfl rfl (AA (AD (vO (x.many != (c.guardians.length:Int))) rfl (AF (AC (?_))))))))))
   refine AP (AZ rfl (CS rfl rfl rfl) (?_))
   have e:(FA c x)=(x.many != (c.guardians.length:Int)):=by simp [FA, *]
   exact ⟨_,rfl,s5090.keep,(by exact congrArg vO e.symm)⟩
  ·have hp5112:x.threshold≠c.threshold:=by simpa using hb5104
   refine AT rfl (AT rfl (AT rfl (AT rfl (AT rfl (AT rfl (AA (BK (vO true) rfl rfl (AA (AD (vO true) rfl (AF (AC (?_))))))))))))
   refine AP (AZ rfl (CS rfl rfl rfl) (?_))
   have e:(FA c x)=true:=by simp [FA, *]
   exact ⟨_,rfl,s5090.keep,(by exact congrArg vO e.symm)⟩
 ·have hp5113:x.epoch≠c.epoch:=by simpa using hb5098
  refine AT rfl (AT rfl (AT rfl (AT rfl (AT rfl (AA (BK (vO true) rfl rfl (AA (AE (vO true) rfl (AT rfl (AT rfl (AT rfl (AT rfl (AT rfl (AT rfl (AA (BK (vO true) rfl rfl (AA (AD (vO true) rfl (AF (AC (?_)))))))))))))))))))))
  refine AP (AZ rfl (CS rfl rfl rfl) (?_))
  have e:(FA c x)=true:=by simp [FA, *]
  exact ⟨_,rfl,s5090.keep,(by exact congrArg vO e.symm)⟩
set_option maxHeartbeats 4000000 in
set_option maxRecDepth 100000 in
theorem OH {O:List Nat} (c_cs:List Value) (c:Circle) (w:World) (h_c:Enc.circle.rd w O c_cs c) (hO:∀ b∈O,b<w.heap.size):CF Try.prog 33 [.agg c_cs.toArray] w (fun v _=>v=vI (AS c)):= by
 have h_c:Enc.circle.rd w ([]++O) c_cs c:=h_c
 have s0:St w O w []:=St.start hO
 refine BQ 5 Try.func33 rfl rfl oT (fun F0=>?_)
 refine AG (?_)
 refine AB kR (AA (DO (E:=Enc.circle) (vA c_cs.toArray) (c_cs) c rfl rfl h_c s0 fun a5114 w5115 s5116 m5117 k5118 hp5119=>(?_)))
 refine AA (AD (vI 0) rfl (AF (AC (?_))))
 refine AG (?_)
 refine AB kR (AA (CR U28_ rfl BL rfl hp5119 fun cs5120 hs5121=>(AA (BB (vs:=[vA cs5120.toArray]) LU (OC (O:=[]++O) cs5120 c w5115 hs5121 s5116.lt) rfl s5116 fun v5122 w5123 s5124 m5125 k5126 r5127=>(?_)))))
 obtain rfl:=r5127
 refine AA (AD (vI (AS c)) rfl (AF (AC (?_))))
 refine AP (AZ rfl (CS rfl rfl rfl) (?_))
 exact ⟨_,rfl,s5124.keep,rfl⟩
set_option maxHeartbeats 4000000 in
set_option maxRecDepth 100000 in
theorem SX {O:List Nat} (c_cs:List Value) (c:Circle) (l_v:Value) (l:List Share) (w:World) (h_c:Enc.circle.rd w O c_cs c) (h_l:BG Enc.share w O l_v l) (hO:∀ b∈O,b<w.heap.size):CF Try.prog 39 [.agg c_cs.toArray,l_v] w (fun v _=>v=vI (CD c l)):= by
 have h_c:Enc.circle.rd w ([]++O) c_cs c:=h_c
 have lim_l:=h_l.len_le
 have h_l:BG Enc.share w ([]++O) l_v l:=h_l
 have s0:St w O w []:=St.start hO
 refine BQ 16 Try.func39 rfl rfl oT (fun F0=>?_)
 refine AG (?_)
 refine AB kR (AA (DO (E:=Enc.circle) (vA c_cs.toArray) (c_cs) c rfl rfl h_c s0 fun a5128 w5129 s5130 m5131 k5132 hp5133=>(?_)))
 have h_l:=h_l.mv m5131
 refine AA (AD (vI 0) rfl (AF (AC (?_))))
 refine AG (?_)
 refine AG (?_)
 refine AB kR (AA (AE (l_v) rfl (AA (BB (vs:=[l_v]) LT (LW (O:=[]++O) l_v l w5129 h_l s5130.lt) rfl s5130 fun v5134 w5135 s5136 m5137 k5138 r5139=>(?_)))))
 obtain rfl:=r5139
 have h_l:=h_l.mv m5137
 have hp5133:=hp5133.mv m5137
 refine AA (AD (vI (BP l)) rfl (AF (AC (?_))))
 refine AG (?_)
 refine AB kR (AA (AE (vI (BP l)) rfl (AA (CV .i64 (BP l) (0:Int) rfl rfl (AF (AC (?_)))))))
 refine AO ((BP l) != (0:Int)) rfl rfl (fun hc5140=>?_) (fun hc5140=>?_)
 ·have hp5141:BP l≠(0:Int):=by simpa using hc5140
  refine AG (?_)
  refine AB kR (AA (AE (vI (BP l)) rfl (AA (AD (vI (BP l)) rfl (AF (AC (?_)))))))
  refine AP (AR (AZ rfl (CS rfl rfl rfl) (?_)))
  have e:(CD c l)=(BP l):=by exact belong_1 aS
  exact ⟨_,rfl,s5136.keep,by rw [e];exact rfl⟩
 ·have hp5142:BP l=(0:Int):=by simpa using hc5140
  refine AU (AC (?_))
  refine AG (?_)
  refine AB kR (AA (DD (first:=[]) (captured:=[.tmp 2]) [] [vP (some a5128)] rfl rfl (AA (AD (vN (.func 86) #[] #[vP (some a5128)]) rfl (AF (AC (?_)))))))
  refine AG (?_)
  refine AG (?_)
  refine AB kR (AA (AE (l_v) rfl (AA (AE (vN (.func 86) #[] #[vP (some a5128)]) rfl (AA (BB (vs:=[l_v,vN (.func 86) #[] #[vP (some a5128)]]) enter_87 (c_containsS (O:=[]++O) l_v l 86 [vP (some a5128)] (fun x_=>FA c x_) w5135 h_l enter_86 (fun w'_ O'_ kk_ hs_ hl_ x__cs x_ hr_x_ =>c_belong1 (O:=O'_) x__cs x_ a5128 c w'_ hr_x_ (hp5133.on hs_ kk_) hl_) s5136.lt) rfl s5136 fun v5143 w5144 s5145 m5146 k5147 r5148=>(?_)))))))
  obtain rfl:=r5148
  refine AF (AC (?_))
  refine AO (l.any (fun x_=>FA c x_)) rfl rfl (fun hc5149=>?_) (fun hc5149=>?_)
  ·have hp5150:(l.any (fun x_=>FA c x_))=true:=by simpa using hc5149
   refine AG (?_)
   refine AB kR (AA (AD (vI 460) rfl (AF (AC (?_)))))
   refine AP (AR (AZ rfl (CS rfl rfl rfl) (?_)))
   have e:(CD c l)=(460:Int):=by exact belong_2 aS aS
   exact ⟨_,rfl,s5145.keep,by rw [e];exact rfl⟩
  ·have hp5151:(l.any (fun x_=>FA c x_))=false:=by simpa using hc5149
   refine AU (AC (?_))
   refine AG (?_)
   refine AB kR (AA (AD (vI 0) rfl (AF (AC (?_)))))
   refine AP (AZ rfl (CS rfl rfl rfl) (?_))
   have e:(CD c l)=(0:Int):=by exact belong_3 aS aS
   exact ⟨_,rfl,s5145.keep,by rw [e];exact rfl⟩
set_option maxHeartbeats 4000000 in
set_option maxRecDepth 100000 in
theorem SV {O:List Nat} (c_cs:List Value) (c:Circle) (secret_v:Value) (secret:List UInt8) (coins_v:Value) (coins:List UInt8) (w:World) (h_c:Enc.circle.rd w O c_cs c) (h_secret:BG Enc.u8 w O secret_v secret) (h_coins:BG Enc.u8 w O coins_v coins) (hO:∀ b∈O,b<w.heap.size):CF Try.prog 11 [.agg c_cs.toArray,secret_v,coins_v] w (fun v w'=>∃ (x0:Value),v = .tuple #[x0,vI ((AM c secret coins).2)]∧BG Enc.share w' (O) x0 ((AM c secret coins).1)):= by
 have h_c:Enc.circle.rd w ([]++O) c_cs c:=h_c
 have lim_secret:=h_secret.len_le
 have h_secret:BG Enc.u8 w ([]++O) secret_v secret:=h_secret
 have lim_coins:=h_coins.len_le
 have h_coins:BG Enc.u8 w ([]++O) coins_v coins:=h_coins
 have s0:St w O w []:=St.start hO
 refine BQ 26 Try.func11 rfl rfl oT (fun F0=>?_)
 refine AG (?_)
 refine AB kR (AA (DO (E:=Enc.circle) (vA c_cs.toArray) (c_cs) c rfl rfl h_c s0 fun a5152 w5153 s5154 m5155 k5156 hp5157=>(?_)))
 have h_secret:=h_secret.mv m5155
 have h_coins:=h_coins.mv m5155
 refine AA (AD (nS) rfl (AA (AD (vI 0) rfl (AF (AC (?_))))))
 refine AG (?_)
 refine AG (?_)
 refine AB kR (AA (CR U28_ rfl BL rfl hp5157 fun cs5158 hs5159=>(AA (BB (vs:=[vA cs5158.toArray]) PX (OH (O:=[]++O) cs5158 c w5153 hs5159 s5154.lt) rfl s5154 fun v5160 w5161 s5162 m5163 k5164 r5165=>(?_)))))
 obtain rfl:=r5165
 have h_secret:=h_secret.mv m5163
 have h_coins:=h_coins.mv m5163
 have hp5157:=hp5157.mv m5163
 refine AA (AD (vI (AS c)) rfl (AF (AC (?_))))
 refine AG (?_)
 refine AB kR (AA (AE (vI (AS c)) rfl (AA (CV .i64 (AS c) (0:Int) rfl rfl (AF (AC (?_)))))))
 refine AO ((AS c) != (0:Int)) rfl rfl (fun hc5166=>?_) (fun hc5166=>?_)
 ·have hp5167:AS c≠(0:Int):=by simpa using hc5166
  refine AG (?_)
  refine AB kR (AA (AE (vI (AS c)) rfl (AA (AD (nS) rfl (AA (AD (vI (AS c)) rfl (AF (AC (?_)))))))))
  refine AP (AR (AZ rfl (FF rfl rfl rfl rfl) (?_)))
  have e5168:((AM c secret coins).1)=([]):=by exact congrArg (fun p=>p.1) (show AM c secret coins=_ from deal_1 aS)
  have e5169:((AM c secret coins).2)=(AS c):=by exact congrArg (fun p=>p.2) (show AM c secret coins=_ from deal_1 aS)
  exact ⟨_,rfl,s5162.keep,by rw [e5168,e5169];exact ⟨.slice none 0 0,rfl,BG.nil _ _ _⟩⟩
 ·have hp5170:AS c=(0:Int):=by simpa using hc5166
  refine AU (AC (?_))
  refine AG (?_)
  refine AB kR (AA (AE (secret_v) rfl (AA (BM 0 JG (c.epoch) rfl hp5157 (fun _ _ _ h=>HE h) fun a5171 hp5172=>(AA (CE U3_ rfl rfl hp5172 (AA (BM 1 NI (c.threshold) rfl hp5157 (fun _ _ _ h=>HH h) fun a5173 hp5174=>(AA (CE U3_ rfl rfl hp5174 (AA (BM 3 JW (c.guardians) rfl hp5157 (fun _ _ _ h=>EQ h) fun a5175 hp5176=>(AA (BW U22_ rfl rfl hp5176 fun v5177 hl5178=>(?_)))))))))))))))
  have:=hl5178.len_le
  refine AA (CG U22_ rfl hl5178 (AA (AE (coins_v) rfl (AA (BB (vs:=[secret_v,vI c.epoch,vI c.threshold,vI (c.guardians.length:Int),coins_v]) TY (c_split (O:=[]++O) secret_v secret c.epoch c.threshold (c.guardians.length:Int) coins_v coins w5161 h_secret h_coins s5162.lt) rfl s5162 fun v5179 w5180 s5181 m5182 k5183 r5184=>(?_))))))
  obtain ⟨x5185,rfl,hl5186⟩:=r5184
  have:=hl5186.len_le
  refine AA (AN (x5185) rfl rfl (AA (AN (vI ((BV secret c.epoch c.threshold (c.guardians.length:Int) coins).2)) rfl rfl (AA (AD (x5185) rfl (AA (AD (vI ((BV secret c.epoch c.threshold (c.guardians.length:Int) coins).2)) rfl (AF (AC (?_))))))))))
  refine AP (AZ rfl (FF rfl rfl rfl rfl) (?_))
  have e5187:((AM c secret coins).1)=((BV secret c.epoch c.threshold (c.guardians.length:Int) coins).1):=by exact congrArg (fun p=>p.1) (show AM c secret coins=_ from deal_2 aS)
  have e5188:((AM c secret coins).2)=((BV secret c.epoch c.threshold (c.guardians.length:Int) coins).2):=by exact congrArg (fun p=>p.2) (show AM c secret coins=_ from deal_2 aS)
  exact ⟨_,rfl,s5181.keep,by rw [e5187,e5188];exact ⟨x5185,rfl,hl5186.out⟩⟩
open Go.Fw Go.RowKit
set_option maxHeartbeats 4000000 in
set_option maxRecDepth 100000 in
theorem SK {O:List Nat} (c_cs:List Value) (c:Circle) (l_v:Value) (l:List Share) (coins_v:Value) (coins:List UInt8) (w:World) (h_c:Enc.circle.rd w O c_cs c) (h_l:BG Enc.share w O l_v l) (h_coins:BG Enc.u8 w O coins_v coins) (hO:∀ b∈O,b<w.heap.size):CF Try.prog 24 [.agg c_cs.toArray,l_v,coins_v] w (fun v w'=>∃ (x0:List Value) (x1:Value),v = .tuple #[.agg x0.toArray,x1,vI ((AK c l coins).2.2)]∧Enc.circle.rd w' (O) x0 ((AK c l coins).1)∧BG Enc.share w' (O) x1 ((AK c l coins).2.1)):= by
 have h_c:Enc.circle.rd w ([]++O) c_cs c:=h_c
 have lim_l:=h_l.len_le
 have h_l:BG Enc.share w ([]++O) l_v l:=h_l
 have lim_coins:=h_coins.len_le
 have h_coins:BG Enc.u8 w ([]++O) coins_v coins:=h_coins
 have s0:St w O w []:=St.start hO
 refine BQ 41 Try.func24 rfl rfl oT (fun F0=>?_)
 refine AG (?_)
 refine AB kR (AA (DO (E:=Enc.circle) (vA c_cs.toArray) (c_cs) c rfl rfl h_c s0 fun a5189 w5190 s5191 m5192 k5193 hp5194=>(?_)))
 have h_l:=h_l.mv m5192
 have h_coins:=h_coins.mv m5192
 refine AA (CX [vI 0,vI 0,vI 0,nS,nS] II rfl s5191 fun b5195 w5196 e5201 s5197 m5198 k5199 bx5200=>(?_))
 clear e5201
 have h_l:=h_l.mv m5198
 have h_coins:=h_coins.mv m5198
 have hp5194:=hp5194.mv m5198
 refine AA (AD (nS) rfl (AA (AD (vI 0) rfl (AF (AC (?_))))))
 refine AG (?_)
 refine AG (?_)
 refine AB kR (AA (CR U28_ rfl BL rfl hp5194 fun cs5202 hs5203=>(AA (BB (vs:=[vA cs5202.toArray]) PX (OH (O:=(b5195 :: [])++O) cs5202 c w5196 hs5203 s5197.lt) rfl s5197 fun v5204 w5205 s5206 m5207 k5208 r5209=>(?_)))))
 obtain rfl:=r5209
 have h_l:=h_l.mv m5207
 have h_coins:=h_coins.mv m5207
 have hp5194:=hp5194.mv m5207
 have bx5200:=bx5200.keep k5208 (by simp)
 refine AA (AD (vI (AS c)) rfl (AF (AC (?_))))
 refine AG (?_)
 refine AB kR (AA (AE (vI (AS c)) rfl (AA (CV .i64 (AS c) (0:Int) rfl rfl (AF (AC (?_)))))))
 refine AO ((AS c) != (0:Int)) rfl rfl (fun hc5210=>?_) (fun hc5210=>?_)
 ·have hp5211:AS c≠(0:Int):=by simpa using hc5210
  refine AG (?_)
  refine AB kR (AA (BN (vs:=[vI 0,vI 0,vI 0,nS,nS]) U28_ rfl BL rfl bx5200 rfl (AA (AE (vI (AS c)) rfl (BY (BC (vs:=[vI 0,vI 0,vI 0,nS,nS]) (.agg #[vI 0,vI 0,vI 0,nS,nS]) rfl rfl rfl BL (fun u hu=>by simp only [List.mem_cons,List.not_mem_nil,or_false] at hu;rcases hu with rfl|rfl|rfl|rfl|rfl <;> rfl) (by repeat (constructor)) bx5200 oT s5206 fun w5212 s5213 m5214 k5215 bx5216=>(?_)))))))
  refine AA (AD (nS) rfl (AA (AD (vI (AS c)) rfl (AF (AC (?_))))))
  refine AP (AR (AZ rfl (FV rfl (DY (vs:=[vI 0,vI 0,vI 0,nS,nS]) rfl U28_ rfl BL rfl bx5216 rfl) (DN rfl rfl) (DN rfl rfl)) (?_)))
  have e5217:((AK c l coins).1)=(⟨(0:Int),(0:Int),(0:Int),[],[]⟩:Circle):=by exact congrArg (fun p=>p.1) (show AK c l coins=_ from QP aS)
  have e5218:((AK c l coins).2.1)=([]):=by exact congrArg (fun p=>p.2.1) (show AK c l coins=_ from QP aS)
  have e5219:((AK c l coins).2.2)=(AS c):=by exact congrArg (fun p=>p.2.2) (show AK c l coins=_ from QP aS)
  exact ⟨_,rfl,s5213.keep,by rw [e5217,e5218,e5219];exact ⟨[vI 0,vI 0,vI 0,nS,nS], .slice none 0 0,rfl,Enc.out (B:=(b5195 :: [])) ⟨.slice none 0 0, .slice none 0 0,rfl,(BG.nil _ _ _),(BG.nil _ _ _)⟩,BG.nil _ _ _⟩⟩
 ·have hp5220:AS c=(0:Int):=by simpa using hc5210
  have hok:AS c=0:=hp5220
  have hepb:=circ_ep hok
  refine AU (AC (?_))
  refine AG (?_)
  refine AG (?_)
  refine AB kR (AA (CR U28_ rfl BL rfl hp5194 fun cs5221 hs5222=>(AA (AE (l_v) rfl (AA (BB (vs:=[vA cs5221.toArray,l_v]) TO (SX (O:=(b5195 :: [])++O) cs5221 c l_v l w5205 hs5222 h_l s5206.lt) rfl s5206 fun v5223 w5224 s5225 m5226 k5227 r5228=>(?_)))))))
  obtain rfl:=r5228
  have h_l:=h_l.mv m5226
  have h_coins:=h_coins.mv m5226
  have hp5194:=hp5194.mv m5226
  have bx5200:=bx5200.keep k5227 (by simp)
  refine AA (AD (vI (CD c l)) rfl (AF (AC (?_))))
  refine AG (?_)
  refine AB kR (AA (AE (vI (CD c l)) rfl (AA (CV .i64 (CD c l) (0:Int) rfl rfl (AF (AC (?_)))))))
  refine AO ((CD c l) != (0:Int)) rfl rfl (fun hc5229=>?_) (fun hc5229=>?_)
  ·have hp5230:CD c l≠(0:Int):=by simpa using hc5229
   refine AG (?_)
   refine AB kR (AA (BN (vs:=[vI 0,vI 0,vI 0,nS,nS]) U28_ rfl BL rfl bx5200 rfl (AA (AE (vI (CD c l)) rfl (BY (BC (vs:=[vI 0,vI 0,vI 0,nS,nS]) (.agg #[vI 0,vI 0,vI 0,nS,nS]) rfl rfl rfl BL (fun u hu=>by simp only [List.mem_cons,List.not_mem_nil,or_false] at hu;rcases hu with rfl|rfl|rfl|rfl|rfl <;> rfl) (by repeat (constructor)) bx5200 oT s5225 fun w5231 s5232 m5233 k5234 bx5235=>(?_)))))))
   refine AA (AD (nS) rfl (AA (AD (vI (CD c l)) rfl (AF (AC (?_))))))
   refine AP (AR (AZ rfl (FV rfl (DY (vs:=[vI 0,vI 0,vI 0,nS,nS]) rfl U28_ rfl BL rfl bx5235 rfl) (DN rfl rfl) (DN rfl rfl)) (?_)))
   have e5236:((AK c l coins).1)=(⟨(0:Int),(0:Int),(0:Int),[],[]⟩:Circle):=by exact congrArg (fun p=>p.1) (show AK c l coins=_ from NZ aS aS)
   have e5237:((AK c l coins).2.1)=([]):=by exact congrArg (fun p=>p.2.1) (show AK c l coins=_ from NZ aS aS)
   have e5238:((AK c l coins).2.2)=(CD c l):=by exact congrArg (fun p=>p.2.2) (show AK c l coins=_ from NZ aS aS)
   exact ⟨_,rfl,s5232.keep,by rw [e5236,e5237,e5238];exact ⟨[vI 0,vI 0,vI 0,nS,nS], .slice none 0 0,rfl,Enc.out (B:=(b5195 :: [])) ⟨.slice none 0 0, .slice none 0 0,rfl,(BG.nil _ _ _),(BG.nil _ _ _)⟩,BG.nil _ _ _⟩⟩
  ·have hp5239:CD c l=(0:Int):=by simpa using hc5229
   refine AU (AC (?_))
   refine AG (?_)
   refine AB kR (AA (AE (l_v) rfl (AA (AE (coins_v) rfl (AA (BB (vs:=[l_v,coins_v]) enter_19 (c_refresh (O:=(b5195 :: [])++O) l_v l coins_v coins w5224 h_l h_coins s5225.lt) rfl s5225 fun v5240 w5241 s5242 m5243 k5244 r5245=>(?_)))))))
   obtain ⟨x5246,rfl,hl5247⟩:=r5245
   have:=hl5247.len_le
   have hp5194:=hp5194.mv m5243
   have bx5200:=bx5200.keep k5244 (by simp)
   refine AA (AE (vT #[x5246,vI ((CN l coins).2)]) rfl (AA (AN (x5246) rfl rfl (AA (AN (vI ((CN l coins).2)) rfl rfl (AA (AD (x5246) rfl (AA (AD (vI ((CN l coins).2)) rfl (AF (AC (?_))))))))))))
   refine AG (?_)
   refine AG (?_)
   refine AB kR (AA (AE (vI ((CN l coins).2)) rfl (AA (CV .i64 ((CN l coins).2) (0:Int) rfl rfl (AF (AC (?_)))))))
   refine AO (((CN l coins).2) != (0:Int)) rfl rfl (fun hc5248=>?_) (fun hc5248=>?_)
   ·have hp5249:(CN l coins).2≠(0:Int):=by simpa using hc5248
    refine AG (?_)
    refine AB kR (AA (BN (vs:=[vI 0,vI 0,vI 0,nS,nS]) U28_ rfl BL rfl bx5200 rfl (AA (AE (vI ((CN l coins).2)) rfl (BY (BC (vs:=[vI 0,vI 0,vI 0,nS,nS]) (.agg #[vI 0,vI 0,vI 0,nS,nS]) rfl rfl rfl BL (fun u hu=>by simp only [List.mem_cons,List.not_mem_nil,or_false] at hu;rcases hu with rfl|rfl|rfl|rfl|rfl <;> rfl) (by repeat (constructor)) bx5200 oT s5242 fun w5250 s5251 m5252 k5253 bx5254=>(?_)))))))
    refine AA (AD (nS) rfl (AA (AD (vI ((CN l coins).2)) rfl (AF (AC (?_))))))
    refine AP (AR (AZ rfl (FV rfl (DY (vs:=[vI 0,vI 0,vI 0,nS,nS]) rfl U28_ rfl BL rfl bx5254 rfl) (DN rfl rfl) (DN rfl rfl)) (?_)))
    have e5255:((AK c l coins).1)=(⟨(0:Int),(0:Int),(0:Int),[],[]⟩:Circle):=by exact congrArg (fun p=>p.1) (show AK c l coins=_ from PU aS aS aS)
    have e5256:((AK c l coins).2.1)=([]):=by exact congrArg (fun p=>p.2.1) (show AK c l coins=_ from PU aS aS aS)
    have e5257:((AK c l coins).2.2)=((CN l coins).2):=by exact congrArg (fun p=>p.2.2) (show AK c l coins=_ from PU aS aS aS)
    exact ⟨_,rfl,s5251.keep,by rw [e5255,e5256,e5257];exact ⟨[vI 0,vI 0,vI 0,nS,nS], .slice none 0 0,rfl,Enc.out (B:=(b5195 :: [])) ⟨.slice none 0 0, .slice none 0 0,rfl,(BG.nil _ _ _),(BG.nil _ _ _)⟩,BG.nil _ _ _⟩⟩
   ·have hp5258:(CN l coins).2=(0:Int):=by simpa using hc5248
    refine AU (AC (?_))
    refine AG (?_)
    refine AB kR (AA (CR U28_ rfl BL rfl hp5194 fun cs5259 hs5260=>(?_)))
    obtain ⟨d5266,d5268,rfl,hd5267,hd5269⟩:=hs5260
    have:=hd5267.len_le
    have:=hd5269.len_le
    refine BY (BC (vs:=[vI c.epoch,vI c.threshold,vI c.wait,d5266,d5268]) (.agg #[vI c.epoch,vI c.threshold,vI c.wait,d5266,d5268]) rfl rfl rfl BL (fun u hu=>by simp only [List.mem_cons,List.not_mem_nil,or_false] at hu;rcases hu with rfl|rfl|rfl|rfl|rfl <;> first|rfl|exact hd5267.oneCell|exact hd5269.oneCell) (by repeat (constructor)) bx5200 oT s5242 fun w5261 s5262 m5263 k5264 bx5265=>(?_))
    have hl5247:=hl5247.mv m5263
    have hd5267:=hd5267.mv m5263
    have hd5269:=hd5269.mv m5263
    refine AF (AC (?_))
    refine AG (?_)
    refine AB kR (AA (BD 0 JG rfl (AA (BI U3_ rfl (vI c.epoch) rfl bx5265 rfl (AA (DC .i64 c.epoch (1:Int) (c.epoch+(1:Int)) rfl rfl (FO oM oM) (AA (BD 0 JG rfl (BY (CK (vI (c.epoch+(1:Int))) rfl rfl rfl MW (by repeat (constructor)) bx5265 oT s5262 fun w5270 s5271 m5272 k5273 bx5274=>(?_)))))))))))
    have hl5247:=hl5247.mv m5272
    have hd5267:=hd5267.mv m5272
    have hd5269:=hd5269.mv m5272
    refine AF (AC (?_))
    refine AG (?_)
    refine AB kR (AA (BN (vs:=[vI (c.epoch+(1:Int)),vI c.threshold,vI c.wait,d5266,d5268]) U28_ rfl BL rfl bx5274 rfl (AA (AE (x5246) rfl (BY (BC (vs:=[vI (c.epoch+(1:Int)),vI c.threshold,vI c.wait,d5266,d5268]) (.agg #[vI (c.epoch+(1:Int)),vI c.threshold,vI c.wait,d5266,d5268]) rfl rfl rfl BL (fun u hu=>by simp only [List.mem_cons,List.not_mem_nil,or_false] at hu;rcases hu with rfl|rfl|rfl|rfl|rfl <;> first|rfl|exact hd5267.oneCell|exact hd5269.oneCell) (by repeat (constructor)) bx5274 oT s5271 fun w5275 s5276 m5277 k5278 bx5279=>(?_)))))))
    have hl5247:=hl5247.mv m5277
    have hd5267:=hd5267.mv m5277
    have hd5269:=hd5269.mv m5277
    refine AA (AD (x5246) rfl (AA (AD (vI 0) rfl (AF (AC (?_))))))
    refine AP (AZ rfl (FV rfl (DY (vs:=[vI (c.epoch+(1:Int)),vI c.threshold,vI c.wait,d5266,d5268]) rfl U28_ rfl BL rfl bx5279 rfl) (DN rfl rfl) (DN rfl rfl)) (?_))
    have e5280:((AK c l coins).1)=(⟨c.epoch+(1:Int),c.threshold,c.wait,c.guardians,c.recs⟩:Circle):=by exact congrArg (fun p=>p.1) (show AK c l coins=_ from PK aS aS aS)
    have e5281:((AK c l coins).2.1)=((CN l coins).1):=by exact congrArg (fun p=>p.2.1) (show AK c l coins=_ from PK aS aS aS)
    have e5282:((AK c l coins).2.2)=(0:Int):=by exact congrArg (fun p=>p.2.2) (show AK c l coins=_ from PK aS aS aS)
    exact ⟨_,rfl,s5276.keep,by rw [e5280,e5281,e5282];exact ⟨[vI (c.epoch+(1:Int)),vI c.threshold,vI c.wait,d5266,d5268],x5246,rfl,Enc.out (B:=(b5195 :: [])) ⟨_,_,rfl,hd5267,hd5269⟩,hl5247.out⟩⟩
set_option maxHeartbeats 4000000 in
set_option maxRecDepth 100000 in
theorem TG {O:List Nat} (c_cs:List Value) (c:Circle) (no:Int) (l_v:Value) (l:List Share) (w:World) (h_c:Enc.circle.rd w O c_cs c) (h_l:BG Enc.share w O l_v l) (hO:∀ b∈O,b<w.heap.size):CF Try.prog 14 [.agg c_cs.toArray,vI no,l_v] w (fun v w'=>∃ (x0:Value),v = .tuple #[x0,vI ((BS c no l).2)]∧BG Enc.u8 w' (O) x0 ((BS c no l).1)):= by
 have h_c:Enc.circle.rd w ([]++O) c_cs c:=h_c
 have lim_l:=h_l.len_le
 have h_l:BG Enc.share w ([]++O) l_v l:=h_l
 have s0:St w O w []:=St.start hO
 refine BQ 44 Try.func14 rfl rfl oT (fun F0=>?_)
 refine AG (?_)
 refine AB kR (AA (DO (E:=Enc.circle) (vA c_cs.toArray) (c_cs) c rfl rfl h_c s0 fun a5283 w5284 s5285 m5286 k5287 hp5288=>(?_)))
 have h_l:=h_l.mv m5286
 refine AA (AD (nS) rfl (AA (AD (vI 0) rfl (AF (AC (?_))))))
 refine AG (?_)
 refine AG (?_)
 refine AB kR (AA (CR U28_ rfl BL rfl hp5288 fun cs5289 hs5290=>(AA (BB (vs:=[vA cs5289.toArray]) PX (OH (O:=[]++O) cs5289 c w5284 hs5290 s5285.lt) rfl s5285 fun v5291 w5292 s5293 m5294 k5295 r5296=>(?_)))))
 obtain rfl:=r5296
 have h_l:=h_l.mv m5294
 have hp5288:=hp5288.mv m5294
 refine AA (AD (vI (AS c)) rfl (AF (AC (?_))))
 refine AG (?_)
 refine AB kR (AA (AE (vI (AS c)) rfl (AA (CV .i64 (AS c) (0:Int) rfl rfl (AF (AC (?_)))))))
 refine AO ((AS c) != (0:Int)) rfl rfl (fun hc5297=>?_) (fun hc5297=>?_)
 ·have hp5298:AS c≠(0:Int):=by simpa using hc5297
  refine AG (?_)
  refine AB kR (AA (AE (vI (AS c)) rfl (AA (AD (nS) rfl (AA (AD (vI (AS c)) rfl (AF (AC (?_)))))))))
  refine AP (AR (AZ rfl (FF rfl rfl rfl rfl) (?_)))
  have e5299:((BS c no l).1)=([]):=by exact congrArg (fun p=>p.1) (show BS c no l=_ from rest_1 aS)
  have e5300:((BS c no l).2)=(AS c):=by exact congrArg (fun p=>p.2) (show BS c no l=_ from rest_1 aS)
  exact ⟨_,rfl,s5293.keep,by rw [e5299,e5300];exact ⟨.slice none 0 0,rfl,BG.nil _ _ _⟩⟩
 ·have hp5301:AS c=(0:Int):=by simpa using hc5297
  refine AU (AC (?_))
  refine AG (?_)
  refine AG (?_)
  refine AB kR (AA (AE (vI no) rfl (AA (DW .i64 no (0:Int) rfl rfl (AA (AE (vO (decide (no<(0:Int)))) rfl (?_)))))))
  cases hb5302:(decide (no<(0:Int)))
  ·have hp5303:(0:Int)≤no:=by simpa using hb5302
   refine BE rfl (AE (vI no) rfl (BE rfl (BM 4 DK (c.recs) rfl hp5288 (fun _ _ _ h=>CJ h) fun a5304 hp5305=>(BE rfl (BW U26_ rfl rfl hp5305 fun v5306 hl5307=>(?_))))))
   have:=hl5307.len_le
   refine BE rfl (CG U26_ rfl hl5307 (BE rfl (KI .i64 no (c.recs.length:Int) rfl rfl (AA (BX (vO (decide ((c.recs.length:Int)≤no))) rfl rfl (AF (AC (?_))))))))
   refine AO (decide ((c.recs.length:Int)≤no)) rfl rfl (fun hc5308=>?_) (fun hc5308=>?_)
   ·have hp5309:(c.recs.length:Int)≤no:=by simpa using hc5308
    refine AG (?_)
    refine AB kR (AA (AD (nS) rfl (AA (AD (vI 1) rfl (AF (AC (?_)))))))
    refine AP (AR (AZ rfl (FF rfl rfl rfl rfl) (?_)))
    have e5310:((BS c no l).1)=([]):=by exact congrArg (fun p=>p.1) (show BS c no l=_ from rest_2 aS (.inr aS))
    have e5311:((BS c no l).2)=(1:Int):=by exact congrArg (fun p=>p.2) (show BS c no l=_ from rest_2 aS (.inr aS))
    exact ⟨_,rfl,s5293.keep,by rw [e5310,e5311];exact ⟨.slice none 0 0,rfl,BG.nil _ _ _⟩⟩
   ·have hp5312:no<(c.recs.length:Int):=by simpa using hc5308
    refine AU (AC (?_))
    refine AG (?_)
    refine AG (?_)
    refine AB kR (AA (BM 4 DK (c.recs) rfl hp5288 (fun _ _ _ h=>CJ h) fun a5313 hp5314=>(AA (BW U26_ rfl rfl hp5314 fun v5315 hl5316=>(?_)))))
    have:=hl5316.len_le
    refine AA (AE (vI no) rfl (AA (DI U26_ GA .i64 no no.toNat rfl rfl oM hl5316 oM fun a5317 hp5318=>(AA (BM 2 KD ((c.recs[no.toNat]!).state) rfl hp5318 (fun _ _ _ h=>GI h) fun a5319 hp5320=>(AA (CE U3_ rfl rfl hp5320 (AF (AC (?_))))))))))
    refine BR (?_)
    refine AG (?_)
    refine AB kR (AA (EI .i64 ((c.recs[no.toNat]!).state) (2:Int) rfl rfl (AA (AD (vO (((c.recs[no.toNat]!).state) == (2:Int))) rfl (AF (AC (?_)))))))
    refine AO (((c.recs[no.toNat]!).state) == (2:Int)) rfl rfl (fun hc5321=>?_) (fun hc5321=>?_)
    ·have hp5322:(c.recs[no.toNat]!).state=(2:Int):=by simpa using hc5321
     refine AG (?_)
     refine AB kR (AA (AD (nS) rfl (AA (AD (vI 452) rfl (AF (AC (?_)))))))
     refine AP (CB (AR (AZ rfl (FF rfl rfl rfl rfl) (?_))))
     have e5323:((BS c no l).1)=([]):=by exact congrArg (fun p=>p.1) (show BS c no l=_ from rest_3 aS oM oM aS)
     have e5324:((BS c no l).2)=(452:Int):=by exact congrArg (fun p=>p.2) (show BS c no l=_ from rest_3 aS oM oM aS)
     exact ⟨_,rfl,s5293.keep,by rw [e5323,e5324];exact ⟨.slice none 0 0,rfl,BG.nil _ _ _⟩⟩
    ·have hp5325:(c.recs[no.toNat]!).state≠(2:Int):=by simpa using hc5321
     refine AG (?_)
     refine AB kR (AA (EI .i64 ((c.recs[no.toNat]!).state) (0:Int) rfl rfl (AA (AD (vO (((c.recs[no.toNat]!).state) == (0:Int))) rfl (AF (AC (?_)))))))
     refine AO (((c.recs[no.toNat]!).state) == (0:Int)) rfl rfl (fun hc5326=>?_) (fun hc5326=>?_)
     ·have hp5327:(c.recs[no.toNat]!).state=(0:Int):=by simpa using hc5326
      refine AG (?_)
      refine AB kR (AA (AD (nS) rfl (AA (AD (vI 460) rfl (AF (AC (?_)))))))
      refine AP (CB (AR (AZ rfl (FF rfl rfl rfl rfl) (?_))))
      have e5328:((BS c no l).1)=([]):=by exact congrArg (fun p=>p.1) (show BS c no l=_ from rest_4 aS oM oM aS)
      have e5329:((BS c no l).2)=(460:Int):=by exact congrArg (fun p=>p.2) (show BS c no l=_ from rest_4 aS oM oM aS)
      exact ⟨_,rfl,s5293.keep,by rw [e5328,e5329];exact ⟨.slice none 0 0,rfl,BG.nil _ _ _⟩⟩
     ·have hp5330:(c.recs[no.toNat]!).state≠(0:Int):=by simpa using hc5326
      refine AU (CI (AC (?_)))
      refine AG (?_)
      refine AG (?_)
      refine AB kR (AA (CR U28_ rfl BL rfl hp5288 fun cs5331 hs5332=>(AA (AE (l_v) rfl (AA (BB (vs:=[vA cs5331.toArray,l_v]) TO (SX (O:=[]++O) cs5331 c l_v l w5292 hs5332 h_l s5293.lt) rfl s5293 fun v5333 w5334 s5335 m5336 k5337 r5338=>(?_)))))))
      obtain rfl:=r5338
      have h_l:=h_l.mv m5336
      refine AA (AD (vI (CD c l)) rfl (AF (AC (?_))))
      refine AG (?_)
      refine AB kR (AA (AE (vI (CD c l)) rfl (AA (CV .i64 (CD c l) (0:Int) rfl rfl (AF (AC (?_)))))))
      refine AO ((CD c l) != (0:Int)) rfl rfl (fun hc5339=>?_) (fun hc5339=>?_)
      ·have hp5340:CD c l≠(0:Int):=by simpa using hc5339
       refine AG (?_)
       refine AB kR (AA (AE (vI (CD c l)) rfl (AA (AD (nS) rfl (AA (AD (vI (CD c l)) rfl (AF (AC (?_)))))))))
       refine AP (AR (AZ rfl (FF rfl rfl rfl rfl) (?_)))
       have e5341:((BS c no l).1)=([]):=by exact congrArg (fun p=>p.1) (show BS c no l=_ from rest_5 aS oM oM aS aS aS)
       have e5342:((BS c no l).2)=(CD c l):=by exact congrArg (fun p=>p.2) (show BS c no l=_ from rest_5 aS oM oM aS aS aS)
       exact ⟨_,rfl,s5335.keep,by rw [e5341,e5342];exact ⟨.slice none 0 0,rfl,BG.nil _ _ _⟩⟩
      ·have hp5343:CD c l=(0:Int):=by simpa using hc5339
       refine AU (AC (?_))
       refine AG (?_)
       refine AB kR (AA (AE (l_v) rfl (AA (BB (vs:=[l_v]) TH (c_join (O:=[]++O) l_v l w5334 h_l s5335.lt) rfl s5335 fun v5344 w5345 s5346 m5347 k5348 r5349=>(?_)))))
       obtain ⟨x5350,rfl,hl5351⟩:=r5349
       have:=hl5351.len_le
       refine AA (AN (x5350) rfl rfl (AA (AN (vI ((CO l).2)) rfl rfl (AA (AD (x5350) rfl (AA (AD (vI ((CO l).2)) rfl (AF (AC (?_))))))))))
       refine AP (AZ rfl (FF rfl rfl rfl rfl) (?_))
       have e5352:((BS c no l).1)=((CO l).1):=by exact congrArg (fun p=>p.1) (show BS c no l=_ from rest_6 aS oM oM aS aS aS)
       have e5353:((BS c no l).2)=((CO l).2):=by exact congrArg (fun p=>p.2) (show BS c no l=_ from rest_6 aS oM oM aS aS aS)
       exact ⟨_,rfl,s5346.keep,by rw [e5352,e5353];exact ⟨x5350,rfl,hl5351.out⟩⟩
  ·have hp5354:no<(0:Int):=by simpa using hb5302
   refine AT rfl (AT rfl (AT rfl (AT rfl (AT rfl (AA (BK (vO true) rfl rfl (AF (AC (?_)))))))))
   refine AO true rfl rfl (fun _=>?_) (fun h=>by cases h)
   refine AG (?_)
   refine AB kR (AA (AD (nS) rfl (AA (AD (vI 1) rfl (AF (AC (?_)))))))
   refine AP (AR (AZ rfl (FF rfl rfl rfl rfl) (?_)))
   have e5355:((BS c no l).1)=([]):=by exact congrArg (fun p=>p.1) (show BS c no l=_ from rest_2 aS (.inl aS))
   have e5356:((BS c no l).2)=(1:Int):=by exact congrArg (fun p=>p.2) (show BS c no l=_ from rest_2 aS (.inl aS))
   exact ⟨_,rfl,s5293.keep,by rw [e5355,e5356];exact ⟨.slice none 0 0,rfl,BG.nil _ _ _⟩⟩
set_option maxHeartbeats 4000000 in
set_option maxRecDepth 100000 in
theorem RE {O:List Nat} (c_cs:List Value) (c:Circle) (l_v:Value) (l:List Share) (others_v:Value) (others:List Int) (t:Int) (coins_v:Value) (coins:List UInt8) (w:World) (h_c:Enc.circle.rd w O c_cs c) (h_l:BG Enc.share w O l_v l) (h_others:BG Enc.int w O others_v others) (h_coins:BG Enc.u8 w O coins_v coins) (hpre0:others.length≤1000000) (hO:∀ b∈O,b<w.heap.size):CF Try.prog 28 [.agg c_cs.toArray,l_v,others_v,vI t,coins_v] w (fun v w'=>∃ (x0:List Value) (x1:Value),v = .tuple #[.agg x0.toArray,x1,vI ((AJ c l others t coins).2.2)]∧Enc.circle.rd w' (O) x0 ((AJ c l others t coins).1)∧BG Enc.share w' (O) x1 ((AJ c l others t coins).2.1)):= by
 have h_c:Enc.circle.rd w ([]++O) c_cs c:=h_c
 have lim_l:=h_l.len_le
 have h_l:BG Enc.share w ([]++O) l_v l:=h_l
 have lim_others:=h_others.len_le
 have h_others:BG Enc.int w ([]++O) others_v others:=h_others
 have lim_coins:=h_coins.len_le
 have h_coins:BG Enc.u8 w ([]++O) coins_v coins:=h_coins
 have s0:St w O w []:=St.start hO
 refine BQ 61 Try.func28 rfl rfl oT (fun F0=>?_)
 refine AG (?_)
 refine AB kR (AA (DO (E:=Enc.circle) (vA c_cs.toArray) (c_cs) c rfl rfl h_c s0 fun a5357 w5358 s5359 m5360 k5361 hp5362=>(?_)))
 have h_l:=h_l.mv m5360
 have h_others:=h_others.mv m5360
 have h_coins:=h_coins.mv m5360
 refine AA (CX [vI 0,vI 0,vI 0,nS,nS] II rfl s5359 fun b5363 w5364 e5369 s5365 m5366 k5367 bx5368=>(?_))
 clear e5369
 have h_l:=h_l.mv m5366
 have h_others:=h_others.mv m5366
 have h_coins:=h_coins.mv m5366
 have hp5362:=hp5362.mv m5366
 refine AA (AD (nS) rfl (AA (AD (vI 0) rfl (AF (AC (?_))))))
 refine AG (?_)
 refine AG (?_)
 refine AB kR (AA (CR U28_ rfl BL rfl hp5362 fun cs5370 hs5371=>(AA (BB (vs:=[vA cs5370.toArray]) PX (OH (O:=(b5363 :: [])++O) cs5370 c w5364 hs5371 s5365.lt) rfl s5365 fun v5372 w5373 s5374 m5375 k5376 r5377=>(?_)))))
 obtain rfl:=r5377
 have h_l:=h_l.mv m5375
 have h_others:=h_others.mv m5375
 have h_coins:=h_coins.mv m5375
 have hp5362:=hp5362.mv m5375
 have bx5368:=bx5368.keep k5376 (by simp)
 refine AA (AD (vI (AS c)) rfl (AF (AC (?_))))
 refine AG (?_)
 refine AB kR (AA (AE (vI (AS c)) rfl (AA (CV .i64 (AS c) (0:Int) rfl rfl (AF (AC (?_)))))))
 refine AO ((AS c) != (0:Int)) rfl rfl (fun hc5378=>?_) (fun hc5378=>?_)
 ·have hp5379:AS c≠(0:Int):=by simpa using hc5378
  refine AG (?_)
  refine AB kR (AA (BN (vs:=[vI 0,vI 0,vI 0,nS,nS]) U28_ rfl BL rfl bx5368 rfl (AA (AE (vI (AS c)) rfl (BY (BC (vs:=[vI 0,vI 0,vI 0,nS,nS]) (.agg #[vI 0,vI 0,vI 0,nS,nS]) rfl rfl rfl BL (fun u hu=>by simp only [List.mem_cons,List.not_mem_nil,or_false] at hu;rcases hu with rfl|rfl|rfl|rfl|rfl <;> rfl) (by repeat (constructor)) bx5368 oT s5374 fun w5380 s5381 m5382 k5383 bx5384=>(?_)))))))
  refine AA (AD (nS) rfl (AA (AD (vI (AS c)) rfl (AF (AC (?_))))))
  refine AP (AR (AZ rfl (FV rfl (DY (vs:=[vI 0,vI 0,vI 0,nS,nS]) rfl U28_ rfl BL rfl bx5384 rfl) (DN rfl rfl) (DN rfl rfl)) (?_)))
  have e5385:((AJ c l others t coins).1)=(⟨(0:Int),(0:Int),(0:Int),[],[]⟩:Circle):=by exact congrArg (fun p=>p.1) (show AJ c l others t coins=_ from OE aS)
  have e5386:((AJ c l others t coins).2.1)=([]):=by exact congrArg (fun p=>p.2.1) (show AJ c l others t coins=_ from OE aS)
  have e5387:((AJ c l others t coins).2.2)=(AS c):=by exact congrArg (fun p=>p.2.2) (show AJ c l others t coins=_ from OE aS)
  exact ⟨_,rfl,s5381.keep,by rw [e5385,e5386,e5387];exact ⟨[vI 0,vI 0,vI 0,nS,nS], .slice none 0 0,rfl,Enc.out (B:=(b5363 :: [])) ⟨.slice none 0 0, .slice none 0 0,rfl,(BG.nil _ _ _),(BG.nil _ _ _)⟩,BG.nil _ _ _⟩⟩
 ·have hp5388:AS c=(0:Int):=by simpa using hc5378
  have hok:AS c=0:=hp5388
  have hepb:=circ_ep hok
  refine AU (AC (?_))
  refine AG (?_)
  refine AG (?_)
  refine AB kR (AA (CR U28_ rfl BL rfl hp5362 fun cs5389 hs5390=>(AA (AE (l_v) rfl (AA (BB (vs:=[vA cs5389.toArray,l_v]) TO (SX (O:=(b5363 :: [])++O) cs5389 c l_v l w5373 hs5390 h_l s5374.lt) rfl s5374 fun v5391 w5392 s5393 m5394 k5395 r5396=>(?_)))))))
  obtain rfl:=r5396
  have h_l:=h_l.mv m5394
  have h_others:=h_others.mv m5394
  have h_coins:=h_coins.mv m5394
  have hp5362:=hp5362.mv m5394
  have bx5368:=bx5368.keep k5395 (by simp)
  refine AA (AD (vI (CD c l)) rfl (AF (AC (?_))))
  refine AG (?_)
  refine AB kR (AA (AE (vI (CD c l)) rfl (AA (CV .i64 (CD c l) (0:Int) rfl rfl (AF (AC (?_)))))))
  refine AO ((CD c l) != (0:Int)) rfl rfl (fun hc5397=>?_) (fun hc5397=>?_)
  ·have hp5398:CD c l≠(0:Int):=by simpa using hc5397
   refine AG (?_)
   refine AB kR (AA (BN (vs:=[vI 0,vI 0,vI 0,nS,nS]) U28_ rfl BL rfl bx5368 rfl (AA (AE (vI (CD c l)) rfl (BY (BC (vs:=[vI 0,vI 0,vI 0,nS,nS]) (.agg #[vI 0,vI 0,vI 0,nS,nS]) rfl rfl rfl BL (fun u hu=>by simp only [List.mem_cons,List.not_mem_nil,or_false] at hu;rcases hu with rfl|rfl|rfl|rfl|rfl <;> rfl) (by repeat (constructor)) bx5368 oT s5393 fun w5399 s5400 m5401 k5402 bx5403=>(?_)))))))
   refine AA (AD (nS) rfl (AA (AD (vI (CD c l)) rfl (AF (AC (?_))))))
   refine AP (AR (AZ rfl (FV rfl (DY (vs:=[vI 0,vI 0,vI 0,nS,nS]) rfl U28_ rfl BL rfl bx5403 rfl) (DN rfl rfl) (DN rfl rfl)) (?_)))
   have e5404:((AJ c l others t coins).1)=(⟨(0:Int),(0:Int),(0:Int),[],[]⟩:Circle):=by exact congrArg (fun p=>p.1) (show AJ c l others t coins=_ from LV aS aS)
   have e5405:((AJ c l others t coins).2.1)=([]):=by exact congrArg (fun p=>p.2.1) (show AJ c l others t coins=_ from LV aS aS)
   have e5406:((AJ c l others t coins).2.2)=(CD c l):=by exact congrArg (fun p=>p.2.2) (show AJ c l others t coins=_ from LV aS aS)
   exact ⟨_,rfl,s5400.keep,by rw [e5404,e5405,e5406];exact ⟨[vI 0,vI 0,vI 0,nS,nS], .slice none 0 0,rfl,Enc.out (B:=(b5363 :: [])) ⟨.slice none 0 0, .slice none 0 0,rfl,(BG.nil _ _ _),(BG.nil _ _ _)⟩,BG.nil _ _ _⟩⟩
  ·have hp5407:CD c l=(0:Int):=by simpa using hc5397
   refine AU (AC (?_))
   refine AG (?_)
   refine AB kR (AA (AE (l_v) rfl (AA (BB (vs:=[l_v]) TH (c_join (O:=(b5363 :: [])++O) l_v l w5392 h_l s5393.lt) rfl s5393 fun v5408 w5409 s5410 m5411 k5412 r5413=>(?_)))))
   obtain ⟨x5414,rfl,hl5415⟩:=r5413
   have:=hl5415.len_le
   have h_others:=h_others.mv m5411
   have h_coins:=h_coins.mv m5411
   have hp5362:=hp5362.mv m5411
   have bx5368:=bx5368.keep k5412 (by simp)
   refine AA (AE (vT #[x5414,vI ((CO l).2)]) rfl (AA (AN (x5414) rfl rfl (AA (AN (vI ((CO l).2)) rfl rfl (AA (AD (x5414) rfl (AA (AD (vI ((CO l).2)) rfl (AF (AC (?_))))))))))))
   refine AG (?_)
   refine AG (?_)
   refine AB kR (AA (AE (vI ((CO l).2)) rfl (AA (CV .i64 ((CO l).2) (0:Int) rfl rfl (AF (AC (?_)))))))
   refine AO (((CO l).2) != (0:Int)) rfl rfl (fun hc5416=>?_) (fun hc5416=>?_)
   ·have hp5417:(CO l).2≠(0:Int):=by simpa using hc5416
    refine AG (?_)
    refine AB kR (AA (BN (vs:=[vI 0,vI 0,vI 0,nS,nS]) U28_ rfl BL rfl bx5368 rfl (AA (AE (vI ((CO l).2)) rfl (BY (BC (vs:=[vI 0,vI 0,vI 0,nS,nS]) (.agg #[vI 0,vI 0,vI 0,nS,nS]) rfl rfl rfl BL (fun u hu=>by simp only [List.mem_cons,List.not_mem_nil,or_false] at hu;rcases hu with rfl|rfl|rfl|rfl|rfl <;> rfl) (by repeat (constructor)) bx5368 oT s5410 fun w5418 s5419 m5420 k5421 bx5422=>(?_)))))))
    refine AA (AD (nS) rfl (AA (AD (vI ((CO l).2)) rfl (AF (AC (?_))))))
    refine AP (AR (AZ rfl (FV rfl (DY (vs:=[vI 0,vI 0,vI 0,nS,nS]) rfl U28_ rfl BL rfl bx5422 rfl) (DN rfl rfl) (DN rfl rfl)) (?_)))
    have e5423:((AJ c l others t coins).1)=(⟨(0:Int),(0:Int),(0:Int),[],[]⟩:Circle):=by exact congrArg (fun p=>p.1) (show AJ c l others t coins=_ from NV aS aS aS)
    have e5424:((AJ c l others t coins).2.1)=([]):=by exact congrArg (fun p=>p.2.1) (show AJ c l others t coins=_ from NV aS aS aS)
    have e5425:((AJ c l others t coins).2.2)=((CO l).2):=by exact congrArg (fun p=>p.2.2) (show AJ c l others t coins=_ from NV aS aS aS)
    exact ⟨_,rfl,s5419.keep,by rw [e5423,e5424,e5425];exact ⟨[vI 0,vI 0,vI 0,nS,nS], .slice none 0 0,rfl,Enc.out (B:=(b5363 :: [])) ⟨.slice none 0 0, .slice none 0 0,rfl,(BG.nil _ _ _),(BG.nil _ _ _)⟩,BG.nil _ _ _⟩⟩
   ·have hp5426:(CO l).2=(0:Int):=by simpa using hc5416
    refine AU (AC (?_))
    refine AG (?_)
    refine AB kR (AA (CR U28_ rfl BL rfl hp5362 fun cs5427 hs5428=>(?_)))
    obtain ⟨d5434,d5436,rfl,hd5435,hd5437⟩:=hs5428
    have:=hd5435.len_le
    have:=hd5437.len_le
    refine BY (BC (vs:=[vI c.epoch,vI c.threshold,vI c.wait,d5434,d5436]) (.agg #[vI c.epoch,vI c.threshold,vI c.wait,d5434,d5436]) rfl rfl rfl BL (fun u hu=>by simp only [List.mem_cons,List.not_mem_nil,or_false] at hu;rcases hu with rfl|rfl|rfl|rfl|rfl <;> first|rfl|exact hd5435.oneCell|exact hd5437.oneCell) (by repeat (constructor)) bx5368 oT s5410 fun w5429 s5430 m5431 k5432 bx5433=>(?_))
    have h_others:=h_others.mv m5431
    have h_coins:=h_coins.mv m5431
    have hl5415:=hl5415.mv m5431
    have hd5437:=hd5437.mv m5431
    refine AF (AC (?_))
    refine AG (?_)
    refine AB kR (AA (BD 0 JG rfl (AA (BI U3_ rfl (vI c.epoch) rfl bx5433 rfl (AA (DC .i64 c.epoch (1:Int) (c.epoch+(1:Int)) rfl rfl (FO oM oM) (AA (BD 0 JG rfl (BY (CK (vI (c.epoch+(1:Int))) rfl rfl rfl MW (by repeat (constructor)) bx5433 oT s5430 fun w5438 s5439 m5440 k5441 bx5442=>(?_)))))))))))
    have h_others:=h_others.mv m5440
    have h_coins:=h_coins.mv m5440
    have hl5415:=hl5415.mv m5440
    have hd5437:=hd5437.mv m5440
    refine AF (AC (?_))
    refine AG (?_)
    refine AB kR (AA (AE (others_v) rfl (AA (KB [others_v] _ SS rfl (CH 8 Try.func32 rfl rfl oT (fun F5443=>?_)) (fun _ _ h=>h)))))
    refine AG (?_)
    refine AB kR (AA (AD (nS) rfl (AF (AC (?_)))))
    refine AG (?_)
    refine AG (?_)
    refine AB kR (AA (AE (others_v) rfl (AA (IO U22_ rfl rfl h_others fun bn5444 hbn5445=>(?_)))))
    refine AF (AC (?_))
    refine AO (bn5444) rfl rfl (fun hc5446=>?_) (fun hc5446=>?_)
    ·have hp5447:bn5444=true:=by simpa using hc5446
     refine AG (?_)
     refine AB kR (AA (AD (nS) rfl (AF (AC (?_)))))
     refine AP (AR (AZ rfl (CS rfl rfl rfl) (?_)))
     have hnl5449:others=[]:=hbn5445 aS
     have hl5448:BG Enc.int w5438 ((b5363 :: [])++O) (.slice none 0 0) (others):=by rw [hnl5449];exact BG.nil _ _ _
     refine Exists.intro _ (And.intro rfl (?_))
     refine AA (AE (vI t) rfl (AA (BD 3 JW rfl (BY (CK (.slice none 0 0) rfl rfl hl5448.oneCell s_22 (by repeat (constructor)) bx5442 oT s5439 fun w5450 s5451 m5452 k5453 bx5454=>(?_))))))
     have h_coins:=h_coins.mv m5452
     have hl5415:=hl5415.mv m5452
     have hd5437:=hd5437.mv m5452
     have hl5448:=hl5448.mv m5452
     refine AA (BD 1 NI rfl (BY (CK (vI t) rfl rfl rfl MW (by repeat (constructor)) bx5454 oT s5451 fun w5455 s5456 m5457 k5458 bx5459=>(?_))))
     have h_coins:=h_coins.mv m5457
     have hl5415:=hl5415.mv m5457
     have hd5437:=hd5437.mv m5457
     have hl5448:=hl5448.mv m5457
     refine AF (AC (?_))
     refine AG (?_)
     refine AB kR (AA (BN (vs:=[vI (c.epoch+(1:Int)),vI t,vI c.wait, .slice none 0 0,d5436]) U28_ rfl BL rfl bx5459 rfl (AA (AE (x5414) rfl (AA (AE (coins_v) rfl (AA (BB (vs:=[vA #[vI (c.epoch+(1:Int)),vI t,vI c.wait, .slice none 0 0,d5436],x5414,coins_v]) NA (SV (O:=(b5363 :: [])++O) [vI (c.epoch+(1:Int)),vI t,vI c.wait, .slice none 0 0,d5436] (⟨c.epoch+(1:Int),t,c.wait,others,c.recs⟩:Circle) x5414 ((CO l).1) coins_v coins w5455 ⟨_,_,rfl,hl5448,hd5437⟩ hl5415 h_coins s5456.lt) rfl s5456 fun v5460 w5461 s5462 m5463 k5464 r5465=>(?_)))))))))
     obtain ⟨x5466,rfl,hl5467⟩:=r5465
     have:=hl5467.len_le
     have hd5437:=hd5437.mv m5463
     have hl5448:=hl5448.mv m5463
     have bx5459:=bx5459.keep k5464 (by simp)
     refine AA (AE (vT #[x5466,vI ((AM (⟨c.epoch+(1:Int),t,c.wait,others,c.recs⟩:Circle) ((CO l).1) coins).2)]) rfl (AA (AN (x5466) rfl rfl (AA (AN (vI ((AM (⟨c.epoch+(1:Int),t,c.wait,others,c.recs⟩:Circle) ((CO l).1) coins).2)) rfl rfl (AA (AD (x5466) rfl (AA (AD (vI ((AM (⟨c.epoch+(1:Int),t,c.wait,others,c.recs⟩:Circle) ((CO l).1) coins).2)) rfl (AF (AC (?_))))))))))))
     refine AG (?_)
     refine AG (?_)
     refine AB kR (AA (AE (vI ((AM (⟨c.epoch+(1:Int),t,c.wait,others,c.recs⟩:Circle) ((CO l).1) coins).2)) rfl (AA (CV .i64 ((AM (⟨c.epoch+(1:Int),t,c.wait,others,c.recs⟩:Circle) ((CO l).1) coins).2) (0:Int) rfl rfl (AF (AC (?_)))))))
     refine AO (((AM (⟨c.epoch+(1:Int),t,c.wait,others,c.recs⟩:Circle) ((CO l).1) coins).2) != (0:Int)) rfl rfl (fun hc5468=>?_) (fun hc5468=>?_)
     ·have hp5469:(AM (⟨c.epoch+(1:Int),t,c.wait,others,c.recs⟩:Circle) ((CO l).1) coins).2≠(0:Int):=by simpa using hc5468
      refine AG (?_)
      refine AB kR (AA (EE (l:=[]) RS II rfl [] [vI 0,vI 0,vI 0,nS,nS] rfl rfl (AA (AE (vI ((AM (⟨c.epoch+(1:Int),t,c.wait,others,c.recs⟩:Circle) ((CO l).1) coins).2)) rfl (BY (BC (vs:=[vI 0,vI 0,vI 0,nS,nS]) (.agg #[vI 0,vI 0,vI 0,nS,nS]) rfl rfl rfl BL (fun u hu=>by simp only [List.mem_cons,List.not_mem_nil,or_false] at hu;rcases hu with rfl|rfl|rfl|rfl|rfl <;> rfl) (by repeat (constructor)) bx5459 oT s5462 fun w5470 s5471 m5472 k5473 bx5474=>(?_)))))))
      refine AA (AD (nS) rfl (AA (AD (vI ((AM (⟨c.epoch+(1:Int),t,c.wait,others,c.recs⟩:Circle) ((CO l).1) coins).2)) rfl (AF (AC (?_))))))
      refine AP (AR (AZ rfl (FV rfl (DY (vs:=[vI 0,vI 0,vI 0,nS,nS]) rfl U28_ rfl BL rfl bx5474 rfl) (DN rfl rfl) (DN rfl rfl)) (?_)))
      have e5475:((AJ c l others t coins).1)=(⟨(0:Int),(0:Int),(0:Int),[],[]⟩:Circle):=by exact congrArg (fun p=>p.1) (show AJ c l others t coins=_ from IV aS aS aS aS)
      have e5476:((AJ c l others t coins).2.1)=([]):=by exact congrArg (fun p=>p.2.1) (show AJ c l others t coins=_ from IV aS aS aS aS)
      have e5477:((AJ c l others t coins).2.2)=((AM (⟨c.epoch+(1:Int),t,c.wait,others,c.recs⟩:Circle) ((CO l).1) coins).2):=by exact congrArg (fun p=>p.2.2) (show AJ c l others t coins=_ from IV aS aS aS aS)
      exact ⟨_,rfl,s5471.keep,by rw [e5475,e5476,e5477];exact ⟨[vI 0,vI 0,vI 0,nS,nS], .slice none 0 0,rfl,Enc.out (B:=(b5363 :: [])) ⟨.slice none 0 0, .slice none 0 0,rfl,(BG.nil _ _ _),(BG.nil _ _ _)⟩,BG.nil _ _ _⟩⟩
     ·have hp5478:(AM (⟨c.epoch+(1:Int),t,c.wait,others,c.recs⟩:Circle) ((CO l).1) coins).2=(0:Int):=by simpa using hc5468
      refine AU (AC (?_))
      refine AG (?_)
      refine AB kR (AA (BN (vs:=[vI (c.epoch+(1:Int)),vI t,vI c.wait, .slice none 0 0,d5436]) U28_ rfl BL rfl bx5459 rfl (AA (AE (x5466) rfl (BY (BC (vs:=[vI (c.epoch+(1:Int)),vI t,vI c.wait, .slice none 0 0,d5436]) (.agg #[vI (c.epoch+(1:Int)),vI t,vI c.wait, .slice none 0 0,d5436]) rfl rfl rfl BL (fun u hu=>by simp only [List.mem_cons,List.not_mem_nil,or_false] at hu;rcases hu with rfl|rfl|rfl|rfl|rfl <;> first|rfl|exact hd5437.oneCell) (by repeat (constructor)) bx5459 oT s5462 fun w5479 s5480 m5481 k5482 bx5483=>(?_)))))))
      have hl5467:=hl5467.mv m5481
      have hd5437:=hd5437.mv m5481
      have hl5448:=hl5448.mv m5481
      refine AA (AD (x5466) rfl (AA (AD (vI 0) rfl (AF (AC (?_))))))
      refine AP (AZ rfl (FV rfl (DY (vs:=[vI (c.epoch+(1:Int)),vI t,vI c.wait, .slice none 0 0,d5436]) rfl U28_ rfl BL rfl bx5483 rfl) (DN rfl rfl) (DN rfl rfl)) (?_))
      have e5484:((AJ c l others t coins).1)=(⟨c.epoch+(1:Int),t,c.wait,others,c.recs⟩:Circle):=by exact congrArg (fun p=>p.1) (show AJ c l others t coins=_ from IR aS aS aS aS)
      have e5485:((AJ c l others t coins).2.1)=((AM (⟨c.epoch+(1:Int),t,c.wait,others,c.recs⟩:Circle) ((CO l).1) coins).1):=by exact congrArg (fun p=>p.2.1) (show AJ c l others t coins=_ from IR aS aS aS aS)
      have e5486:((AJ c l others t coins).2.2)=(0:Int):=by exact congrArg (fun p=>p.2.2) (show AJ c l others t coins=_ from IR aS aS aS aS)
      exact ⟨_,rfl,s5480.keep,by rw [e5484,e5485,e5486];exact ⟨[vI (c.epoch+(1:Int)),vI t,vI c.wait, .slice none 0 0,d5436],x5466,rfl,Enc.out (B:=(b5363 :: [])) ⟨_,_,rfl,hl5448,hd5437⟩,hl5467.out⟩⟩
    ·have hp5487:bn5444=false:=by simpa using hc5446
     refine AU (AC (?_))
     refine AG (?_)
     refine AB kR (AA (HP (E:=Enc.int) (xs:=[]) U22_ MW z_3 (by decide) [] [] [] rfl rfl rfl (Parts.nil _ _ _) oT s5439 fun v5492 b5494 w5488 e5495 hb5496 s5489 m5490 k5491 hl5493=>(?_)))
     have ne5497:∀ b,v5492.ownBlock=some b→b≠b5363:=fun b hb=>by have:=bx5442.lt;rw [hb5496] at hb;cases hb;omega
     have hB5498:∀ b,v5492.ownBlock=some b→b∈(b5494 :: (b5363 :: [])):=fun b hb=>by rw [hb5496] at hb;cases hb;simp
     clear e5495 hb5496
     have h_others:=h_others.mv m5490
     have h_coins:=h_coins.mv m5490
     have hl5415:=hl5415.mv m5490
     have hd5437:=hd5437.mv m5490
     have bx5442:=bx5442.keep k5491 (by simp)
     refine AA (AE (others_v) rfl (AA (DG (E:=Enc.int) (l:=[]) (m:=others) U22_ i_3 rfl (by decide) rfl rfl hl5493 h_others (fun _ hb=>.inl hb) hB5498 (by simp;omega) (by simp [maxLen];omega) s5489 fun v5503 w5499 B5505 hB5506 at5507 sub5508 s5500 m5501 k5502 ho5504=>(?_))))
     rw [List.nil_append] at ho5504
     have ne5509:∀ b,v5503.ownBlock=some b→b≠b5363:=fun b hb=>by rcases at5507 with e1|e1 <;> rw [e1] at hb <;> first|(cases hb;have:=bx5442.lt;omega)|(exact ne5497 b hb)
     have hin_b5363:b5363∈B5505:=sub5508 b5363 (by repeat (constructor))
     have h_coins:=h_coins.mv m5501
     have hl5415:=hl5415.mv m5501
     have hd5437:=hd5437.mv m5501
     have bx5442:=bx5442.keep k5502 (by simp only [Option.mem_toList];exact fun e=>absurd rfl (ne5497 _ e))
     refine AA (AD (v5503) rfl (AF (AC (?_))))
     refine AP (AZ rfl (CS rfl rfl rfl) (Exists.intro _ (And.intro rfl (?_))))
     refine AA (AE (vI t) rfl (AA (BD 3 JW rfl (BY (CK (v5503) rfl rfl ho5504.oneCell s_22 (by repeat (assumption)) bx5442 oT s5500 fun w5510 s5511 m5512 k5513 bx5514=>(?_))))))
     have h_coins:=h_coins.mv m5512
     have hl5415:=hl5415.mv m5512
     have hd5437:=hd5437.mv m5512
     have ho5504:=ho5504.mv m5512 k5513 (fun b hb=>BH (ne5509 b hb))
     refine AA (BD 1 NI rfl (BY (CK (vI t) rfl rfl rfl MW (by repeat (assumption)) bx5514 oT s5511 fun w5515 s5516 m5517 k5518 bx5519=>(?_))))
     have h_coins:=h_coins.mv m5517
     have hl5415:=hl5415.mv m5517
     have hd5437:=hd5437.mv m5517
     have ho5504:=ho5504.mv m5517 k5518 (fun b hb=>BH (ne5509 b hb))
     refine AF (AC (?_))
     refine AG (?_)
     refine AB kR (AA (BN (vs:=[vI (c.epoch+(1:Int)),vI t,vI c.wait,v5503,d5436]) U28_ rfl BL rfl bx5519 rfl (AA (AE (x5414) rfl (AA (AE (coins_v) rfl (?_)))))))
     obtain ⟨B5520,s5521,m5522,hl5523,hk5524⟩:=ho5504.publish s5516
     have hin_b5363:b5363∈B5520:=hk5524 b5363 (by repeat (assumption)) (fun e=>absurd rfl (ne5509 _ e))
     have lim5525:=hl5523.len_le
     have h_coins:=h_coins.mv m5522
     have hl5415:=hl5415.mv m5522
     have hd5437:=hd5437.mv m5522
     have bx5519:=bx5519.keep (Keep.refl [] _) (by simp)
     refine AA (BB (vs:=[vA #[vI (c.epoch+(1:Int)),vI t,vI c.wait,v5503,d5436],x5414,coins_v]) NA (SV (O:=B5520++O) [vI (c.epoch+(1:Int)),vI t,vI c.wait,v5503,d5436] (⟨c.epoch+(1:Int),t,c.wait,others,c.recs⟩:Circle) x5414 ((CO l).1) coins_v coins w5515 ⟨_,_,rfl,hl5523,hd5437⟩ hl5415 h_coins s5521.lt) rfl s5521 fun v5526 w5527 s5528 m5529 k5530 r5531=>(?_))
     obtain ⟨x5532,rfl,hl5533⟩:=r5531
     have:=hl5533.len_le
     have hd5437:=hd5437.mv m5529
     have hl5523:=hl5523.mv m5529
     have bx5519:=bx5519.keep k5530 (by simp)
     refine AA (AE (vT #[x5532,vI ((AM (⟨c.epoch+(1:Int),t,c.wait,others,c.recs⟩:Circle) ((CO l).1) coins).2)]) rfl (AA (AN (x5532) rfl rfl (AA (AN (vI ((AM (⟨c.epoch+(1:Int),t,c.wait,others,c.recs⟩:Circle) ((CO l).1) coins).2)) rfl rfl (AA (AD (x5532) rfl (AA (AD (vI ((AM (⟨c.epoch+(1:Int),t,c.wait,others,c.recs⟩:Circle) ((CO l).1) coins).2)) rfl (AF (AC (?_))))))))))))
     refine AG (?_)
     refine AG (?_)
     refine AB kR (AA (AE (vI ((AM (⟨c.epoch+(1:Int),t,c.wait,others,c.recs⟩:Circle) ((CO l).1) coins).2)) rfl (AA (CV .i64 ((AM (⟨c.epoch+(1:Int),t,c.wait,others,c.recs⟩:Circle) ((CO l).1) coins).2) (0:Int) rfl rfl (AF (AC (?_)))))))
     refine AO (((AM (⟨c.epoch+(1:Int),t,c.wait,others,c.recs⟩:Circle) ((CO l).1) coins).2) != (0:Int)) rfl rfl (fun hc5534=>?_) (fun hc5534=>?_)
     ·have hp5535:(AM (⟨c.epoch+(1:Int),t,c.wait,others,c.recs⟩:Circle) ((CO l).1) coins).2≠(0:Int):=by simpa using hc5534
      refine AG (?_)
      refine AB kR (AA (EE (l:=[]) RS II rfl [] [vI 0,vI 0,vI 0,nS,nS] rfl rfl (AA (AE (vI ((AM (⟨c.epoch+(1:Int),t,c.wait,others,c.recs⟩:Circle) ((CO l).1) coins).2)) rfl (BY (BC (vs:=[vI 0,vI 0,vI 0,nS,nS]) (.agg #[vI 0,vI 0,vI 0,nS,nS]) rfl rfl rfl BL (fun u hu=>by simp only [List.mem_cons,List.not_mem_nil,or_false] at hu;rcases hu with rfl|rfl|rfl|rfl|rfl <;> rfl) (by repeat (assumption)) bx5519 oT s5528 fun w5536 s5537 m5538 k5539 bx5540=>(?_)))))))
      refine AA (AD (nS) rfl (AA (AD (vI ((AM (⟨c.epoch+(1:Int),t,c.wait,others,c.recs⟩:Circle) ((CO l).1) coins).2)) rfl (AF (AC (?_))))))
      refine AP (AR (AZ rfl (FV rfl (DY (vs:=[vI 0,vI 0,vI 0,nS,nS]) rfl U28_ rfl BL rfl bx5540 rfl) (DN rfl rfl) (DN rfl rfl)) (?_)))
      have e5541:((AJ c l others t coins).1)=(⟨(0:Int),(0:Int),(0:Int),[],[]⟩:Circle):=by exact congrArg (fun p=>p.1) (show AJ c l others t coins=_ from IV aS aS aS aS)
      have e5542:((AJ c l others t coins).2.1)=([]):=by exact congrArg (fun p=>p.2.1) (show AJ c l others t coins=_ from IV aS aS aS aS)
      have e5543:((AJ c l others t coins).2.2)=((AM (⟨c.epoch+(1:Int),t,c.wait,others,c.recs⟩:Circle) ((CO l).1) coins).2):=by exact congrArg (fun p=>p.2.2) (show AJ c l others t coins=_ from IV aS aS aS aS)
      exact ⟨_,rfl,s5537.keep,by rw [e5541,e5542,e5543];exact ⟨[vI 0,vI 0,vI 0,nS,nS], .slice none 0 0,rfl,Enc.out (B:=B5520) ⟨.slice none 0 0, .slice none 0 0,rfl,(BG.nil _ _ _),(BG.nil _ _ _)⟩,BG.nil _ _ _⟩⟩
     ·have hp5544:(AM (⟨c.epoch+(1:Int),t,c.wait,others,c.recs⟩:Circle) ((CO l).1) coins).2=(0:Int):=by simpa using hc5534
      refine AU (AC (?_))
      refine AG (?_)
      refine AB kR (AA (BN (vs:=[vI (c.epoch+(1:Int)),vI t,vI c.wait,v5503,d5436]) U28_ rfl BL rfl bx5519 rfl (AA (AE (x5532) rfl (BY (BC (vs:=[vI (c.epoch+(1:Int)),vI t,vI c.wait,v5503,d5436]) (.agg #[vI (c.epoch+(1:Int)),vI t,vI c.wait,v5503,d5436]) rfl rfl rfl BL (fun u hu=>by simp only [List.mem_cons,List.not_mem_nil,or_false] at hu;rcases hu with rfl|rfl|rfl|rfl|rfl <;> first|rfl|exact hl5523.oneCell|exact hd5437.oneCell) (by repeat (assumption)) bx5519 oT s5528 fun w5545 s5546 m5547 k5548 bx5549=>(?_)))))))
      have hl5533:=hl5533.mv m5547
      have hd5437:=hd5437.mv m5547
      have hl5523:=hl5523.mv m5547
      refine AA (AD (x5532) rfl (AA (AD (vI 0) rfl (AF (AC (?_))))))
      refine AP (AZ rfl (FV rfl (DY (vs:=[vI (c.epoch+(1:Int)),vI t,vI c.wait,v5503,d5436]) rfl U28_ rfl BL rfl bx5549 rfl) (DN rfl rfl) (DN rfl rfl)) (?_))
      have e5550:((AJ c l others t coins).1)=(⟨c.epoch+(1:Int),t,c.wait,others,c.recs⟩:Circle):=by exact congrArg (fun p=>p.1) (show AJ c l others t coins=_ from IR aS aS aS aS)
      have e5551:((AJ c l others t coins).2.1)=((AM (⟨c.epoch+(1:Int),t,c.wait,others,c.recs⟩:Circle) ((CO l).1) coins).1):=by exact congrArg (fun p=>p.2.1) (show AJ c l others t coins=_ from IR aS aS aS aS)
      have e5552:((AJ c l others t coins).2.2)=(0:Int):=by exact congrArg (fun p=>p.2.2) (show AJ c l others t coins=_ from IR aS aS aS aS)
      exact ⟨_,rfl,s5546.keep,by rw [e5550,e5551,e5552];exact ⟨[vI (c.epoch+(1:Int)),vI t,vI c.wait,v5503,d5436],x5532,rfl,Enc.out (B:=B5520) ⟨_,_,rfl,hl5523,hd5437⟩,hl5533.out⟩⟩
open Go.Fw
theorem inc_pw {l:List Int}:HM l=true↔l.Pairwise (· < ·)∧∀ x∈l,0≤x∧x<4096:=by
  constructor
  · intro h
    refine ⟨List.pairwise_iff_getElem.2 fun i j hi hj hij=>?_,fun x hx=>?_⟩
    · have:=MJ h i j hij hj
      rwa [getElem!_pos l i hi,getElem!_pos l j hj] at this
    · obtain ⟨i,hi,rfl⟩:=List.getElem_of_mem hx
      have:=QV h i hi
      rwa [getElem!_pos l i hi] at this
  · rintro ⟨h1,h2⟩
    refine (SI l).2 fun k hk=>PW.2 ⟨?_,?_⟩
    · unfold JJ
      rw [getElem!_pos l k hk]
      split
      · have:=(h2 _ (List.getElem_mem hk)).1;omega
      · have:=List.pairwise_iff_getElem.1 h1 (k - 1) k (by omega) hk (by omega)
        rwa [getElem!_pos l (k - 1) (by omega)]
    · rw [getElem!_pos l k hk];exact (h2 _ (List.getElem_mem hk)).2
theorem UP (a:Int) (l:List Int) (x:Int):OT (a :: l) x=if a<x then a :: OT l x else x :: a :: l:=by
  unfold OT tw
  by_cases h:a<x
  · simp [h]
  · simp [h]
theorem RQ {x y:Int}:∀ {l:List Int},y∈OT l x↔y=x∨y∈l
  | []=>by simp [OT,tw]
  | a :: l=>by
    rw [UP]
    split
    · rw [List.mem_cons,RQ,List.mem_cons]
      constructor
      · rintro (h|h|h)
        · exact .inr (.inl h)
        · exact .inl h
        · exact .inr (.inr h)
      · rintro (h|h|h)
        · exact .inr (.inl h)
        · exact .inl h
        · exact .inr (.inr h)
    · simp
theorem putIn_pw {x:Int}:∀ {l:List Int},l.Pairwise (· < ·)→x∉l→(OT l x).Pairwise (· < ·)
  | [],_,_=>by simp [OT,tw]
  | a :: l,h,hx=>by
    obtain ⟨h1,h2⟩:=List.pairwise_cons.1 h
    rw [UP]
    split
    · rename_i ha
      refine List.pairwise_cons.2 ⟨fun y hy=>?_,putIn_pw h2 (fun hm=>hx (List.mem_cons_of_mem _ hm))⟩
      rcases RQ.1 hy with rfl|hy
      · exact ha
      · exact h1 y hy
    · rename_i ha
      have hne:x≠a:=fun e=>hx (by rw [e];exact List.mem_cons_self ..)
      refine List.pairwise_cons.2 ⟨fun y hy=>?_,h⟩
      rcases List.mem_cons.1 hy with rfl|hy
      · omega
      · have:=h1 y hy;omega
theorem bsF_cons (a:Int) (l:List Int) (x:Int):RY (a :: l) x=if a<x then RY l x else (a == x):=by
  unfold RY tw
  by_cases h:a<x
  · simp [h]
  · simp [h]
theorem bsF_iff {x:Int}:∀ {l:List Int},l.Pairwise (· < ·)→(RY l x=true↔x∈l)
  | [],_=>by simp [RY,tw]
  | a :: l,h=>by
    obtain ⟨h1,h2⟩:=List.pairwise_cons.1 h
    rw [bsF_cons]
    split
    · rename_i ha
      rw [bsF_iff h2,List.mem_cons]
      exact ⟨.inr,fun hm=>hm.resolve_left (fun e=>by omega)⟩
    · rename_i ha
      rw [List.mem_cons,beq_iff_eq]
      constructor
      · intro e;exact .inl e.symm
      · rintro (e|hm)
        · exact e.symm
        · have:=h1 x hm;omega
section
variable {c:Circle} {no:Int}
theorem guard_range (hok:AS c=0) {x:Int} (hx:c.guardians.contains x=true):0≤x∧x<4096:=by
  have hh:=((FJ c).1 hok).1
  simp only [DJ,dbs] at hh
  have hi:HM c.guardians=true:=by simp_all
  exact (inc_pw.1 hi).2 x (by simpa using hx)
end
open Go.Fw
theorem any_f {l:List Share} {f:Share→Bool}:l.any f=false↔∀ k,k<l.length→f l[k]! = false:=by
  rw [List.any_eq_false]
  constructor
  · intro h k hk
    have:=h l[k]! (by rw [getElem!_pos l k hk];exact List.getElem_mem _)
    simpa using this
  · intro h x hx
    obtain ⟨i,hi,rfl⟩:=List.getElem_of_mem hx
    have:=h i hi
    rw [getElem!_pos l i hi] at this;simp [this]
theorem VD {c:Circle} {s:Share}:FA c s=false↔s.epoch=c.epoch∧s.threshold=c.threshold∧s.many=(c.guardians.length:Int):=by
  unfold FA;simp only [Bool.or_eq_false_iff,bne_eq_false_iff_eq];rw [and_assoc]
theorem On.belong {P:Nat→List UInt8} {c:Circle} {n:Nat} {x:List Share} (h:On P c.epoch c.threshold (c.guardians.length:Int) n x) (hn:Num c.epoch c.threshold (c.guardians.length:Int) n) (hx:0<x.length):CD c x=0:=
  belong_3 ((EN x).2 (h.vd hn hx)) (any_f.2 fun k hk=>VD.2 ⟨h.ep k hk,h.th k hk,h.ma k hk⟩)
theorem On.strange {P:Nat→List UInt8} {c:Circle} {ep t m:Int} {n:Nat} {x:List Share} (h:On P ep t m n x) (hn:Num ep t m n) (hx:0<x.length) (he:ep≠c.epoch):CD c x=460:=by
  refine belong_2 ((EN x).2 (h.vd hn hx)) ?_
  rw [← Bool.not_eq_false]
  intro hf
  have:=VD.1 (any_f.1 hf 0 hx)
  rw [h.ep 0 hx] at this
  exact he this.1
theorem sel255:∀ n,n≤8→KS 255 n=List.range n:=by
  intro n h
  have:∀ n:Fin 9,KS 255 n.1=List.range n.1:=by decide +kernel
  exact this ⟨n,by omega⟩
theorem range_getS (l:List Share):((List.range l.length).map fun p=>l[p]!)=l:=by
  apply ext_getS (by simp)
  intro i hi
  rw [GU _ _ _ (by simpa using hi)]
theorem some255 {l:List Share} (h:l.length≤8):CM l 255 l.length=l:=by
  unfold CM;rw [sel255 _ h];exact range_getS l
theorem Spl.len8 {secret:List UInt8} {ep t m:Int} {l:List Share} (h:Spl secret ep t m l):l.length≤8:=by
  have:=h.len;have:=h.num.m8;omega
theorem Spl.pos {secret:List UInt8} {ep t m:Int} {l:List Share} (h:Spl secret ep t m l):0<l.length:=by
  have:=h.len;have:=h.num.t1;have:=h.num.tm;omega
theorem Spl.all {secret:List UInt8} {ep t m:Int} {l:List Share} (h:Spl secret ep t m l):CO l=(secret,0):=by
  have:=h.join 255 (by rw [some255 h.len8,h.len];exact h.num.tm)
  rwa [some255 h.len8] at this
theorem Spl.bel {secret:List UInt8} {c:Circle} {l:List Share} (h:Spl secret c.epoch c.threshold (c.guardians.length:Int) l) (mask:UInt8) (hp:0<(CM l mask l.length).length):CD c (CM l mask l.length)=0:=by
  obtain ⟨P,h1,_⟩:=h.ex
  exact (h1.some mask).belong h.num hp
theorem Spl.strange {secret:List UInt8} {c:Circle} {ep t m:Int} {l:List Share} (h:Spl secret ep t m l) (he:ep≠c.epoch):CD c l=460:=by
  obtain ⟨P,h1,_⟩:=h.ex
  exact h1.strange h.num h.pos he
section
variable {c:Circle} {l:List Share} {secret coins:List UInt8} {others:List Int} {t no:Int}
theorem deal_ok (h:(AM c secret coins).2=0):AS c=0∧AM c secret coins=BV secret c.epoch c.threshold (c.guardians.length:Int) coins:=by
  by_cases hc:AS c=0
  · exact ⟨hc,deal_2 hc⟩
  · rw [deal_1 hc] at h;exact absurd h hc
theorem deal_spl (h:(AM c secret coins).2=0):Spl secret c.epoch c.threshold (c.guardians.length:Int) (AM c secret coins).1:=by
  have:=deal_ok h
  rw [this.2] at h ⊢
  exact VR h
theorem TK (h:(AK c l coins).2.2=0):AS c=0∧CD c l=0∧(CN l coins).2=0∧AK c l coins=(⟨c.epoch+1,c.threshold,c.wait,c.guardians,c.recs⟩,(CN l coins).1,0):=by
  by_cases hc:AS c=0
  · by_cases hb:CD c l=0
    · by_cases hr:(CN l coins).2=0
      · exact ⟨hc,hb,hr,PK hc hb hr⟩
      · rw [PU hc hb hr] at h;exact absurd h hr
    · rw [NZ hc hb] at h;exact absurd h hb
  · rw [QP hc] at h;exact absurd h hc
theorem UM (h:(AJ c l others t coins).2.2=0):AS c=0∧CD c l=0∧(CO l).2=0∧(AM (LI c others t) (CO l).1 coins).2=0∧AJ c l others t coins=(LI c others t,(AM (LI c others t) (CO l).1 coins).1,0):=by
  by_cases hc:AS c=0
  · by_cases hb:CD c l=0
    · by_cases hj:(CO l).2=0
      · by_cases hd:(AM (LI c others t) (CO l).1 coins).2=0
        · exact ⟨hc,hb,hj,hd,IR hc hb hj hd⟩
        · rw [IV hc hb hj hd] at h;exact absurd h hd
      · rw [NV hc hb hj] at h;exact absurd h hj
    · rw [LV hc hb] at h;exact absurd h hb
  · rw [OE hc] at h;exact absurd h hc
theorem head_epoch {d:Circle} (h:AS c=0) (h1:d.threshold=c.threshold) (h2:d.wait=c.wait) (h3:d.guardians=c.guardians) (h4:d.recs=c.recs) (h5:0≤d.epoch) (h6:d.epoch≤1048576):AS d=0:=by
  have:=(FJ c).1 h
  refine (FJ d).2 ⟨?_,by rw [h4];exact this.2⟩
  have hh:=this.1
  unfold DJ at hh ⊢
  rw [h1,h2,h3,h4]
  simp only [Bool.or_eq_false_iff,decide_eq_false_iff_not] at hh ⊢
  exact ⟨⟨⟨⟨⟨⟨⟨⟨by omega,by omega⟩,hh.1.1.1.1.1.1.2⟩,hh.1.1.1.1.1.2⟩,hh.1.1.1.1.2⟩,hh.1.1.1.2⟩,hh.1.1.2⟩,hh.1.2⟩,hh.2⟩
structure Held (secret:List UInt8) (c:Circle) (l:List Share):Prop where
  ok:AS c=0
  spl:Spl secret c.epoch c.threshold (c.guardians.length:Int) l
theorem VK (h:(AM c secret coins).2=0):Held secret c (AM c secret coins).1:=⟨(deal_ok h).1,deal_spl h⟩
theorem refresh_ep (hl:Spl secret c.epoch c.threshold (c.guardians.length:Int) l) (h:(CN l coins).2=0):c.epoch<1048576:=by
  have:=hl.num.ep1
  by_cases e:c.epoch=1048576
  · exfalso
    obtain ⟨P,h1,_⟩:=hl.ex
    have hv:=h1.vd hl.num hl.pos
    rw [RW] at h
    unfold EC at h
    rw [if_neg (by rw [(EN l).2 hv];simp),if_neg (by rw [h1.ma 0 hl.pos,hl.len];simp),if_pos (by rw [h1.ep 0 hl.pos];exact e)] at h
    cases h
  · omega
theorem TI (hl:Held secret c l) (h:(AK c l coins).2.2=0):Held secret (AK c l coins).1 (AK c l coins).2.1:=by
  obtain ⟨h1,h2,h3,h4⟩:=TK h
  have he:=refresh_ep hl.spl h3
  rw [h4]
  have hs:=spl_refresh hl.spl he h3
  exact ⟨head_epoch h1 rfl rfl rfl rfl (by have:=hs.num.ep0;exact this) (by show c.epoch+1≤_;omega),hs⟩
theorem held_replace (hl:Held secret c l) (h:(AJ c l others t coins).2.2=0):Held secret (AJ c l others t coins).1 (AJ c l others t coins).2.1:=by
  obtain ⟨h1,h2,h3,h4,h5⟩:=UM h
  rw [h5]
  rw [hl.spl.all] at h4 ⊢
  exact VK h4
end
open Go.Fw
def GH (c:Circle):Bool:=decide (0<(c.recs.length:Int)) && (c.recs[c.recs.length - 1]!.state == 0)
def AQ (c:Circle):Int:=if 0<(c.recs.length:Int) then c.recs[c.recs.length - 1]!.asked else 0
abbrev askD (c:Circle):Circle × Int × Int:=AV c (AQ c)
def AI (c:Circle):Nat→Circle × Int
  | 0=>((askD c).1,(askD c).2.2)
  | k+1=>if (AI c k).2=0 then BO (AI c k).1 (askD c).2.1 (BA (AI c k).1 c.guardians[k]!) else AI c k
def finD (c:Circle):Circle × Int:=
  if (AI c c.guardians.length).2=0 then BO (AI c c.guardians.length).1 (askD c).2.1 (AY (AI c c.guardians.length).1 (min 1023 (AQ c+c.wait))) else AI c c.guardians.length
def CL (c:Circle):Circle × Int × Bool:=if GH c then (c,0,false) else ((finD c).1,(askD c).2.1,(finD c).2 == 0)
theorem done_1 {c:Circle} (h:GH c=true):CL c=(c,0,false):=if_pos h
theorem done_2 {c:Circle} (h:GH c=false):CL c=((finD c).1,(askD c).2.1,(finD c).2 == 0):=if_neg (by rw [h];simp)
theorem PQ {c:Circle} {k:Nat} (h:(AI c k).2=0):AI c (k+1)=BO (AI c k).1 (askD c).2.1 (BA (AI c k).1 c.guardians[k]!):=by rw [AI,if_pos h]
theorem PP {c:Circle} {k:Nat} (h:(AI c k).2≠0):AI c (k+1)=AI c k:=by rw [AI,if_neg h]
theorem fin_y {c:Circle} (h:(AI c c.guardians.length).2=0):finD c=BO (AI c c.guardians.length).1 (askD c).2.1 (AY (AI c c.guardians.length).1 (min 1023 (AQ c+c.wait))):=if_pos h
theorem fin_n {c:Circle} (h:(AI c c.guardians.length).2≠0):finD c=AI c c.guardians.length:=if_neg h
structure Grown (c x:Circle) (no:Int):Prop where
  ok:AS x=0
  ep:x.epoch=c.epoch
  th:x.threshold=c.threshold
  wa:x.wait=c.wait
  gu:x.guardians=c.guardians
  n0:0≤no
  n1:no<(x.recs.length:Int)
theorem ask_grown {c:Circle} {day:Int} (h:(AV c day).2.2=0):AS c=0∧CT day 0=true∧Grown c (AV c day).1 (AV c day).2.1∧(AV c day).1 = ⟨c.epoch,c.threshold,c.wait,c.guardians,c.recs++[⟨(c.recs.length:Int),day,0,[],[]⟩]⟩∧(AV c day).2.1=(c.recs.length:Int):=by
  by_cases hc:AS c=0
  · cases hd:CT day (IL c).asked with
    | false=>rw [JX hc hd] at h;cases h
    | true=>
      by_cases hs:(IL c).state=0
      · rw [OG hc hd hs] at h;cases h
      · by_cases hn:(c.recs.length:Int)=1024
        · rw [IU hc hd hs hn] at h;cases h
        · rw [HB hc hd hs hn]
          have h0:=(FJ c).1 hc
          have hlast:0≤(IL c).asked:=by
            unfold IL;split
            · rename_i hpos
              exact (TN hc (no:=((c.recs.length - 1:Nat):Int)) (by omega) (by omega)).1
            · simp
          have hd':=HU.1 hd
          refine ⟨hc,HU.2 ⟨by omega,hd'.2⟩,⟨(FJ _).2 ⟨?_,fun k hk=>?_⟩,rfl,rfl,rfl,rfl,by simp,by simp;omega⟩,rfl,rfl⟩
          · have hh:=h0.1
            have hr:=SH hc
            unfold DJ at hh ⊢
            simp only [Bool.or_eq_false_iff,decide_eq_false_iff_not] at hh ⊢
            exact ⟨hh.1,by simp;omega⟩
          · simp only [List.length_append,List.length_cons,List.length_nil] at hk ⊢
            rw [JV]
            by_cases e:k=c.recs.length
            · subst e
              have hg:(c.recs++[(⟨(c.recs.length:Int),day,0,[],[]⟩:Recovery)])[c.recs.length]! = ⟨(c.recs.length:Int),day,0,[],[]⟩:=by simp
              have ha:EM (c.recs++[(⟨(c.recs.length:Int),day,0,[],[]⟩:Recovery)]) c.recs.length=(IL c).asked:=by
                unfold EM IL
                by_cases z:c.recs.length=0
                · rw [if_pos z,if_neg (by omega)]
                · rw [if_neg z,if_pos (by omega),List.getElem!_eq_getElem?_getD,List.getElem?_append_left (by omega),← List.getElem!_eq_getElem?_getD]
              rw [hg,ha]
              exact ⟨rfl,hd,by simp [EF,HM,FG], .inr (by simp)⟩
            · have hk:k<c.recs.length:=by omega
              have hg:(c.recs++[(⟨(c.recs.length:Int),day,0,[],[]⟩:Recovery)])[k]! = c.recs[k]!:=by rw [List.getElem!_eq_getElem?_getD,List.getElem?_append_left hk,← List.getElem!_eq_getElem?_getD]
              have ha:EM (c.recs++[(⟨(c.recs.length:Int),day,0,[],[]⟩:Recovery)]) k=EM c.recs k:=by
                unfold EM
                by_cases z:k=0
                · rw [if_pos z,if_pos z]
                · rw [if_neg z,if_neg z,List.getElem!_eq_getElem?_getD,List.getElem?_append_left (by omega),← List.getElem!_eq_getElem?_getD]
              have hb:=JV.1 (h0.2 k hk)
              rw [hg,ha]
              refine ⟨hb.1,hb.2.1,hb.2.2.1,?_⟩
              by_cases z:k+1=c.recs.length
              · left
                unfold IL at hs
                rw [if_pos (by omega)] at hs
                rwa [show k=c.recs.length - 1 by omega]
              · rcases hb.2.2.2 with q|q
                · exact .inl q
                · omega
  · rw [QK hc] at h;exact absurd h hc
theorem act_get {c:Circle} {no:Int} {f:Recovery→Except Int Recovery} (hf:∀ r e,f r = .error e→e≠0) (h:(BO c no f).2=0):AS c=0∧0≤no∧no<(c.recs.length:Int)∧∃ r,f c.recs[no.toNat]! = .ok r∧BO c no f=(UQ c no.toNat r,0):=by
  by_cases hc:AS c=0
  · by_cases hn:no<0∨(c.recs.length:Int)≤no
    · unfold BO at h;rw [if_neg (by simpa using hc),if_pos hn] at h;cases h
    · refine ⟨hc,by omega,by omega,?_⟩
      cases hr:f c.recs[no.toNat]! with
      | error x=>
        have e:BO c no f=(DZ,x):=by unfold BO;rw [if_neg (by simpa using hc),if_neg hn];simp only [hr]
        rw [e] at h;exact absurd h (hf _ _ hr)
      | ok r=>
        have e:BO c no f=(UQ c no.toNat r,0):=by unfold BO;rw [if_neg (by simpa using hc),if_neg hn];simp only [hr];rfl
        exact ⟨r,rfl,e⟩
  · unfold BO at h;rw [if_pos (by simpa using hc)] at h;exact absurd h hc
theorem QY {c x:Circle} {no:Int} {r:Recovery} (h:Grown c x no) (hno:r.no=x.recs[no.toNat]!.no) (ha:r.asked=x.recs[no.toNat]!.asked) (hr:EF r=true) (hs:r.state≠0∨x.recs[no.toNat]!.state=0):Grown c (UQ x no.toNat r) no:=
  ⟨check_set h.ok (by have:=h.n0;have:=h.n1;omega) hno ha hr hs,h.ep,h.th,h.wa,h.gu,h.n0,by simp [UQ];exact h.n1⟩
theorem US {c x:Circle} {no g:Int} (h:Grown c x no) (h2:(BO x no (BA x g)).2=0):Grown c (BO x no (BA x g)).1 no:=by
  obtain ⟨_,h0,h1,r,hr,e⟩:=act_get (fun r e he=>by
    unfold BA at he
    split at he
    · cases he;decide
    · split at he
      · cases he;decide
      · split at he
        · cases he;decide
        · split at he <;> cases he) h2
  rw [e]
  have hrec:=KE h.ok (k:=no.toNat) (by omega)
  unfold BA at hr
  split at hr
  · cases hr
  · split at hr
    · cases hr
    · split at hr
      · cases hr
      · rename_i hs2 hs1 hg
        have hs:x.recs[no.toNat]!.state=0:=by
          have:=LC h.ok h0 h1
          simp only [beq_iff_eq] at hs2 hs1
          omega
        have hg:x.guardians.contains g=true:=by simpa using hg
        split at hr
        · cases hr;exact QY h rfl rfl hrec (.inr hs)
        · rename_i hb
          cases hr
          refine QY h rfl rfl ?_ (.inr hs)
          have hp:=ET hrec
          have hinc:=inc_pw.1 hp.2.2
          have hgr:=guard_range h.ok hg
          have hnot:g∉x.recs[no.toNat]!.approved:=fun hm=>hb ((bsF_iff hinc.1).2 hm)
          have hi:HM (OT x.recs[no.toNat]!.approved g)=true:=inc_pw.2 ⟨putIn_pw hinc.1 hnot,fun y hy=>by
            rcases RQ.1 hy with e|hy
            · rw [e];exact hgr
            · exact hinc.2 y hy⟩
          unfold EF at hrec ⊢
          simp only [hs,hi] at hrec ⊢
          simp only [hp.2.2] at hrec
          exact hrec
theorem finish_grown {c x:Circle} {no day:Int} (h:Grown c x no) (h2:(BO x no (AY x day)).2=0):Grown c (BO x no (AY x day)).1 no∧(BO x no (AY x day)).1.recs[no.toNat]!.state=1:=by
  obtain ⟨_,h0,h1,r,hr,e⟩:=act_get (fun r e he=>by
    unfold AY at he
    repeat' split at he
    all_goals cases he
    all_goals decide) h2
  rw [e]
  have hrec:=KE h.ok (k:=no.toNat) (by omega)
  unfold AY at hr
  repeat' split at hr
  all_goals cases hr
  rename_i hs2 hs1 _ _ _
  have hs:x.recs[no.toNat]!.state=0:=by
    have:=LC h.ok h0 h1
    simp only [beq_iff_eq] at hs2 hs1
    omega
  refine ⟨QY h rfl rfl ?_ (.inl (by show (1:Int)≠0;decide)),?_⟩
  · have hp:=ET hrec
    unfold EF at hrec ⊢
    simp only [hs,hp.2.2] at hrec ⊢
    exact hrec
  · show (x.recs.set no.toNat _)[no.toNat]!.state=1
    rw [TC (by omega),if_pos rfl]
theorem RH {c:Circle}:∀ k,(AI c k).2=0→AS c=0∧CT (AQ c) 0=true∧Grown c (AI c k).1 (askD c).2.1
  | 0,h=>by have:=ask_grown h;exact ⟨this.1,this.2.1,this.2.2.1⟩
  | k+1,h=>by
    by_cases hk:(AI c k).2=0
    · have ih:=RH k hk
      rw [PQ hk] at h ⊢
      exact ⟨ih.1,ih.2.1,US ih.2.2 h⟩
    · rw [PP hk] at h;exact absurd h hk
theorem done_grown {c:Circle} (h:(CL c).2.2=true):AS c=0∧Grown c (CL c).1 (CL c).2.1∧(CL c).1.recs[(CL c).2.1.toNat]!.state=1:=by
  cases hl:GH c with
  | true=>rw [done_1 hl] at h;cases h
  | false=>
    rw [done_2 hl] at h ⊢
    have hf:(finD c).2=0:=by simpa using h
    by_cases ha:(AI c c.guardians.length).2=0
    · have ih:=RH _ ha
      rw [fin_y ha] at hf ⊢
      exact ⟨ih.1,finish_grown ih.2.2 hf⟩
    · rw [fin_n ha] at hf;exact absurd hf ha
open Go.Fw
def EB (a:UInt8):Nat→Nat
  | 0=>0
  | k+1=>if a >>> UInt8.ofNat k &&& 1=1 then k else EB a k
theorem high_y {a:UInt8} {k:Nat} (h:a >>> UInt8.ofNat k &&& 1=1):EB a (k+1)=k:=if_pos h
theorem high_n {a:UInt8} {k:Nat} (h:a >>> UInt8.ofNat k &&& 1≠1):EB a (k+1)=EB a k:=if_neg h
theorem idxS_full {T:List Share} {m:Int} (hT:Full m T) {i:Nat} (hi:i<T.length):EW T (fun o=>o.index == (i:Int)+1)=(i:Int):=by
  unfold EW
  rcases RG (fun k=>T[k]!.index == (i:Int)+1) (T.length - 0) 0 with ⟨h1,h2⟩|⟨k,h1,h2,h3,h4,_⟩
  · have:=h2 i (by omega) (by omega)
    rw [hT.2 i hi] at this;simp at this
  · rw [h4]
    rw [hT.2 k (by omega)] at h3
    simp only [beq_iff_eq] at h3
    omega
section
variable {s other:List UInt8} {ep ep' t m:Int} {y T:List Share}
end
open Go.Fw
theorem Good.count {l:List Share} (h:Good l):∀ k:Nat,k<l.length→(k:Int)+1≤l[k]!.index
  | 0,hk=>by have:=h.ix 0 hk;omega
  | k+1,hk=>by have:=h.count k (by omega);have:=h.inc k hk;omega
theorem Good.len8 {l:List Share} (h:Good l):l.length≤8:=by
  have h1:=h.pos
  have h2:=h.count (l.length - 1) (by omega)
  have h3:=h.ix (l.length - 1) (by omega)
  have:=h.m8
  omega
theorem PA {l:List Share} {secret:List UInt8} (h:(BJ l secret).2=0):Vd l∧(l.length:Int)<l[0]!.threshold∧(secret.length:Int)=(l[0]!.data.length:Int)∧((BJ l secret).1.length:Int)=(secret.length:Int)*(l[0]!.threshold - 1):=by
  have hc:BP l=0:=by
    by_cases c:BP l=0
    · exact c
    · rw [QE c rfl] at h;exact h
  have hv:=(EN l).1 hc
  have h2:(l.length:Int)<l[0]!.threshold:=by
    by_cases c:(l.length:Int)<l[0]!.threshold
    · exact c
    · rw [LH hc (by omega) rfl] at h;cases h
  have h3:(secret.length:Int)=(l[0]!.data.length:Int):=by
    by_cases c:(secret.length:Int)=(l[0]!.data.length:Int)
    · exact c
    · rw [QQ hc h2 c rfl] at h;cases h
  refine ⟨hv,h2,h3,?_⟩
  rw [RT hc h2 h3 rfl]
  have:=hv.t1;have:=hv.tm;have:=hv.m8
  show ((OM l secret (l[0]!.threshold.toNat - 1 - l.length) secret.length).length:Int)=_
  rw [SB hv.toGood (by omega),show l.length+(l[0]!.threshold.toNat - 1 - l.length)=l[0]!.threshold.toNat - 1 by omega]
  rw [Int.natCast_mul];congr 1;omega
theorem MZ {l:List Share} {secret:List UInt8} (h:(BJ l secret).2=0):(BJ l secret).1.length≤1000∧secret.length≤64:=by
  have h1:=PA h
  have h2:=h1.2.2.2
  have h3:=h1.2.2.1
  have:=h1.1.d64;have:=h1.1.t1;have:=h1.1.tm;have:=h1.1.m8
  have hs:secret.length≤64:=by omega
  refine ⟨?_,hs⟩
  have h4:(secret.length:Int)*(l[0]!.threshold - 1)≤64*7:=Int.mul_le_mul (by omega) (by omega) (by omega) (by omega)
  omega
theorem VE {a:List Share} {secret:List UInt8} (h:(BJ a secret).2=0):(BV secret a[0]!.epoch a[0]!.threshold a[0]!.many (BJ a secret).1).2=0:=by
  obtain ⟨hv,_,h3,h4⟩:=PA h
  have:=hv.t1;have:=hv.tm;have:=hv.m8;have:=hv.d64;have:=hv.ep0;have:=hv.ep1
  rw [MG]
  exact (ME _ _ _ _ _).2 ⟨by omega,by omega,by omega,by omega,by omega,by omega,h4⟩
theorem mix_spl {a:List Share} {secret:List UInt8} (h:(BJ a secret).2=0):Spl secret a[0]!.epoch a[0]!.threshold a[0]!.many (CQ a secret):=VR (VE h)
theorem OW (f g:Share):MA f g=false↔f.threshold=g.threshold∧f.many=g.many∧f.data.length=g.data.length∧g.epoch=f.epoch+1:=by
  unfold MA;simp only [dbs];omega
theorem GT {f g:Share} (h:f.threshold≠g.threshold∨f.many≠g.many∨(f.data.length:Int)≠(g.data.length:Int)∨g.epoch≠f.epoch+1):MA f g=true:=by
  rw [← Bool.not_eq_false];intro e
  have:=(OW f g).1 e
  omega
def KR (x y:List UInt8) (k:Nat):List UInt8:=tab x.length fun i=>if i<k then x[i]! ^^^ y[i]! else x[i]!
theorem xorP_zero (x y:List UInt8):KR x y 0=x:=by
  unfold KR
  refine SG (by rw [NW]) fun i=>?_
  rw [LG]
  by_cases c:i<x.length
  · rw [if_pos c,if_neg (by omega)]
  · rw [if_neg c,DX (by omega)]
theorem GG (x y:List UInt8) (k:Nat):(KR x y k).length=x.length:=NW _ _
theorem xorP_at {x y:List UInt8} {k:Nat} (h:k<x.length):(KR x y k)[k]! = x[k]!:=by unfold KR;rw [LG,if_pos h,if_neg (by omega)]
theorem xorP_set {x y:List UInt8} {k:Nat} (h:k<x.length):(KR x y k).set k ((KR x y k)[k]! ^^^ y[k]!)=KR x y (k+1):=by
  refine SG (by rw [List.length_set,GG,GG]) fun i=>?_
  rw [xorP_at h]
  by_cases e:i=k
  · subst e
    rw [getElem!_pos _ i (by rw [List.length_set,GG];exact h),List.getElem_set_self]
    unfold KR;rw [LG,if_pos h,if_pos (by omega)]
  · by_cases c:i<x.length
    · rw [getElem!_pos _ i (by rw [List.length_set,GG];exact c),List.getElem_set_ne (by omega),← getElem!_pos _ i (by rw [GG];exact c)]
      unfold KR;rw [LG,LG,if_pos c,if_pos c]
      by_cases d:i<k
      · rw [if_pos d,if_pos (by omega)]
      · rw [if_neg d,if_neg (by omega)]
    · rw [DX (by rw [List.length_set,GG];omega),DX (by rw [GG];omega)]
theorem xorP_all (x y:List UInt8):KR x y x.length=xorM x y:=by
  unfold KR xorM
  refine SG (by rw [NW,NW]) fun i=>?_
  rw [LG,LG]
  by_cases c:i<x.length
  · rw [if_pos c,if_pos c,if_pos c]
  · rw [if_neg c,if_neg c]
structure Mx (a b:List Share) (secret:List UInt8):Prop where
  va:Vd a
  vb:Vd b
  th:a[0]!.threshold=b[0]!.threshold
  ma:a[0]!.many=b[0]!.many
  da:a[0]!.data.length=b[0]!.data.length
  ep:b[0]!.epoch=a[0]!.epoch+1
  len:secret.length=a[0]!.data.length
  sp:Spl secret a[0]!.epoch a[0]!.threshold a[0]!.many (CQ a secret)
theorem mx_of {a b:List Share} {secret:List UInt8} (hb:BP b=0) (h:(BJ a secret).2=0) (hm:MA a[0]! b[0]! = false):Mx a b secret:=
  have h1:=PA h
  have h2:=(OW _ _).1 hm
  ⟨h1.1,(EN b).1 hb,h2.1,h2.2.1,h2.2.2.1,h2.2.2.2,by omega,mix_spl h⟩
section
variable {a b:List Share} {secret:List UInt8} (h:Mx a b secret) {k:Nat} (hk:k<b.length)
include h hk
theorem Mx.idx:EW (CQ a secret) (fun o=>o.index == b[k]!.index)=b[k]!.index - 1∧0≤b[k]!.index - 1∧b[k]!.index - 1<((CQ a secret).length:Int):=by
  have h1:=h.vb.ix k hk
  have h2:=h.sp.full.1
  have h3:=h.ma
  have hj:(b[k]!.index - 1).toNat<(CQ a secret).length:=by rw [h2];omega
  have:=idxS_full h.sp.full hj
  rw [show (((b[k]!.index - 1).toNat:Nat):Int)+1=b[k]!.index by omega] at this
  rw [this];omega
theorem Mx.at:atS (CQ a secret) b[k]!.index=(CQ a secret)[(b[k]!.index - 1).toNat]!:=by unfold atS;rw [(h.idx hk).1]
theorem Mx.dl:(atS (CQ a secret) b[k]!.index).data.length=secret.length:=by
  have h1:=h.idx hk
  rw [h.at hk];exact h.sp.da (by omega)
theorem Mx.idx':0≤EW (CQ a secret) (fun o=>o.index == b[k]!.index)∧EW (CQ a secret) (fun o=>o.index == b[k]!.index)<((CQ a secret).length:Int):=by
  have h1:=h.idx hk
  exact ⟨by rw [h1.1];exact h1.2.1,by rw [h1.1];exact h1.2.2⟩
theorem Mx.dl':((CQ a secret)[(EW (CQ a secret) (fun o=>o.index == b[k]!.index)).toNat]!).data.length=secret.length:=h.dl hk
theorem Mx.bl:b[k]!.data.length=secret.length:=by rw [h.vb.da k hk,← h.da,h.len]
end
theorem mixD_succ {b s:List Share} {k:Nat} (hk:k<b.length):FC b s (k+1)=FC b s k++[mixS s b[k]!]:=by
  unfold FC;rw [List.take_add_one,List.map_append,List.getElem?_eq_getElem hk,getElem!_pos b k hk];rfl
theorem mixD_len (b s:List Share) (k:Nat):(FC b s k).length≤k:=by unfold FC;rw [List.length_map,List.length_take];omega
section
variable {a b:List Share} {secret:List UInt8}
theorem mixed_1 (h:BP a≠0):CA a b secret=([],BP a):=if_pos (by simpa using h)
theorem mixed_2 (h:BP a=0) (h2:BP b≠0):CA a b secret=([],BP b):=by unfold CA;rw [if_neg (by simpa using h),if_pos (by simpa using h2)]
theorem LE (h:BP a=0) (h2:BP b=0) (h3:MA a[0]! b[0]! = true):CA a b secret=([],460):=by unfold CA;rw [if_neg (by simpa using h),if_neg (by simpa using h2),if_pos h3]
section
variable (h:BP a=0) (h2:BP b=0) (h3:MA a[0]! b[0]! = false)
include h h2 h3
theorem mixed_4 (h4:(BJ a secret).2≠0):CA a b secret=([],(BJ a secret).2):=by unfold CA;rw [if_neg (by simpa using h),if_neg (by simpa using h2),if_neg (by rw [h3];simp),if_pos (by simpa using h4)]
theorem mixed_5 (h4:(BJ a secret).2=0) (h5:(mixQ a b secret).2≠0):CA a b secret=([],(mixQ a b secret).2):=by unfold CA;rw [if_neg (by simpa using h),if_neg (by simpa using h2),if_neg (by rw [h3];simp),if_neg (by simpa using h4),if_pos (by simpa using h5)]
theorem mixed_6 (h4:(BJ a secret).2=0) (h5:(mixQ a b secret).2=0):CA a b secret=((BJ a secret).1++(mixQ a b secret).1,0):=by unfold CA;rw [if_neg (by simpa using h),if_neg (by simpa using h2),if_neg (by rw [h3];simp),if_neg (by simpa using h4),if_neg (by simpa using h5)]
end
end
theorem last_y {c:Circle} (h:0<(c.recs.length:Int)) (h2:c.recs[c.recs.length - 1]!.state=0):GH c=true:=by unfold GH;rw [h2,decide_eq_true h];rfl
theorem last_n {c:Circle} (h:¬ 0<(c.recs.length:Int)∨c.recs[c.recs.length - 1]!.state≠0):GH c=false:=by
  rw [← Bool.not_eq_true];intro e;unfold GH at e;simp only [dbs] at e;omega
theorem min_if (x y:Int):(if y<x then y else x)=min x y:=by split <;> omega
theorem RA {c:Circle} (hl:GH c=false) (h:(AI c c.guardians.length).2=0):CL c=((BO (AI c c.guardians.length).1 (AV c (AQ c)).2.1 (AY (AI c c.guardians.length).1 (if AQ c+c.wait<1023 then AQ c+c.wait else 1023))).1,(AV c (AQ c)).2.1,(BO (AI c c.guardians.length).1 (AV c (AQ c)).2.1 (AY (AI c c.guardians.length).1 (if AQ c+c.wait<1023 then AQ c+c.wait else 1023))).2 == 0):=by rw [done_2 hl,fin_y h,min_if]
theorem RO {c:Circle} (hl:GH c=false) (h:(AI c c.guardians.length).2≠0):CL c=((AI c c.guardians.length).1,(AV c (AQ c)).2.1,(AI c c.guardians.length).2 == 0):=by rw [done_2 hl,fin_n h]
theorem circ_wait {c:Circle} (h:AS c=0):0≤c.wait∧c.wait<1024:=by
  have hh:=((FJ c).1 h).1
  unfold DJ at hh
  simp only [Bool.or_eq_false_iff,Bool.not_eq_false'] at hh
  exact HU.1 hh.1.2
theorem app_w {c:Circle} (h:(AI c c.guardians.length).2=0):-1000000≤AQ c+c.wait∧AQ c+c.wait≤1000000:=by
  have h1:=RH _ h
  have h2:=HU.1 h1.2.1
  have h3:=circ_wait h1.1
  omega
section
variable {a b:List Share} {secret:List UInt8}
section
variable (h:VX a=0) (h2:VX b=0) (h3:MA a[0]! b[0]! = false)
include h h2 h3
end
end
end Go.Proofs.Ytjgfokolnkhafaa
namespace Go.Fw
open Go.RowKit
theorem EJ.base {α:Type} {E:Enc α} {e n m:Nat} {O:List Nat} {w:World} {v:Value} {l:List α} (h:EJ E e n O w v l) (hm:m≤n):EJ E e m O w v l:=by
  obtain ⟨css,h1,h2,h3⟩:=h
  refine ⟨css,h1,⟨h2.1,?_⟩,h3⟩
  rcases h2.2 with h|⟨g,cap,cur,e1,hg,r⟩
  · exact .inl h
  · exact .inr ⟨g,cap,cur,e1,Nat.le_trans hm hg,r⟩
theorem EJ.u8O {e n:Nat} {O O':List Nat} {w:World} {v:Value} {l:List UInt8} (h:EJ Enc.u8 e n O w v l):EJ Enc.u8 e n O' w v l:=by
  obtain ⟨css,h1,h2,h3⟩:=h
  exact ⟨css,h1,h2,fun i cs x a b=>h3 i cs x a b⟩
theorem own_take {α:Type} {E:Enc α} {w0 w1 w:World} {O0 B:List Nat} {e:Nat} {v:Value} {l:List α} (s:St w0 O0 w1 B) (k:Keep [] w1 w) (hn:∀ b,v.ownBlock=some b→w1.heap.size≤b) (h:EJ E e w1.heap.size (v.ownBlock.toList++(B++O0)) w v l) :
    ∃ B',(∀ b,v.ownBlock=some b→b∈B')∧(∀ b∈B,b∈B')∧St w0 O0 w B'∧Mv B w1 B' w∧EJ E e w0.heap.size (B'++O0) w v l:=by
  refine ⟨v.ownBlock.toList++B,fun b hb=>List.mem_append_left _ (by simp [hb]),fun b hb=>List.mem_append_right _ hb,⟨(s.call k).keep,fun b hb=>?_,s.old⟩,⟨k.nil,fun b hb=>?_⟩,by rw [List.append_assoc];exact h.base s.keep.size⟩
  · rcases List.mem_append.1 hb with hb|hb
    · have h1:=h.lt b (by simpa using hb)
      exact ⟨Nat.le_trans s.keep.size h1.1,h1.2⟩
    · exact (s.call k).new b hb
  · rcases List.mem_append.1 hb with hb|hb
    · exact .inr (hn b (by simpa using hb))
    · exact .inl hb
theorem own_lent {w0 w1 w:World} {O0 B O':List Nat} {e:Nat} {v:Value} {l:List UInt8} (s:St w0 O0 w1 B) (hn:∀ b,v.ownBlock=some b→w1.heap.size≤b) (h:EJ Enc.u8 e w1.heap.size O' w v l) :
    EJ Enc.u8 e w0.heap.size (B++O0) w v l∧∀ b,v.ownBlock=some b→b∉B++O0:=
  ⟨(h.base s.keep.size).u8O,fun b hb hm=>by have:=hn b hb;have:=s.lt b hm;omega⟩
theorem own_back {w0 w:World} {O0 B:List Nat} {e:Nat} {v:Value} {l:List UInt8} (s:St w0 O0 w B) (h:EJ Enc.u8 e w0.heap.size (B++O0) w v l) :
    ∃ B',(∀ b,v.ownBlock=some b→b∈B')∧(∀ b∈B,b∈B')∧St w0 O0 w B'∧EJ Enc.u8 e w0.heap.size (B'++O0) w v l:=by
  refine ⟨v.ownBlock.toList++B,fun b hb=>List.mem_append_left _ (by simp [hb]),fun b hb=>List.mem_append_right _ hb,⟨s.keep,fun b hb=>?_,s.old⟩,h.u8O⟩
  rcases List.mem_append.1 hb with hb|hb
  · exact h.lt b (by simpa using hb)
  · exact s.new b hb
theorem flat_ones (m:List UInt8):(m.map fun y=>[vB y]).flatten=m.map vB:=by
  induction m with
  | nil=>rfl
  | cons a r ih=>simp [ih]
theorem BG.n8 {w:World} {O:List Nat} {A:Addr} {c:Nat} {m:List UInt8} (h:BG Enc.u8 w O (.slice (some A) m.length c) m):RdN Enc.u8 w O w (.slice (some A) m.length c) m:=by
  obtain ⟨A',c',h1,h2,h3,h4⟩:=h
  cases h1
  refine ⟨A,c,rfl,h2,h3,m.map fun y=>[vB y],by simp,fun j cs y hj hy=>?_,fun j q hq=>?_⟩
  · rw [List.getElem?_map,hy] at hj;cases hj;rfl
  · rw [flat_ones,List.getElem?_map] at hq
    cases hy:m[j]? with
    | none=>rw [hy] at hq;cases hq
    | some y=>
      rw [hy] at hq;cases hq
      obtain ⟨ad,cs,e1,hc,hr⟩:=h4 j y hy
      cases e1
      have hr:cs=[vB y]:=hr
      subst hr
      have:=hc.2.2 0 (vB y) rfl
      rw [add_add] at this
      rw [show j=j*Enc.u8.size+0 from by show j=j*1+0;omega]
      exact this
section
variable {P:Program} {ty:TypeId} {F:Fr} {w w0:World} {O0 B:List Nat} {K:Value→World→Prop} {Z:List PanicEntry→World→Prop} {x y:Operand}
theorem o_append8 {t e:Nat} {z:Value} {bytes:Nat} {v u:Value} {l m:List UInt8} {O':List Nat} (ht:P.underlying t=some (.slice e)) (hi:(P.info? e).map (fun i=>(i.zero,i.size,i.bytes))=some (some z,Enc.u8.size,bytes)) (hzs:z.cells.size=Enc.u8.size) (hpos:0<Enc.u8.size)
    (hx:CU F x=v) (hy:CU F y=u) (ho:EJ Enc.u8 e w0.heap.size (B++O0) w v l) (hu:BG Enc.u8 w O' u m) (hv:∀ b,v.ownBlock=some b→b∈B) (hlen:(l.length+m.length)*bytes≤140737488355328) (hlm:l.length+m.length≤maxLen) (s:St w0 O0 w B)
    (h:∀ v' w' B',(∀ b,v'.ownBlock=some b→b∈B')→(v'.ownBlock=v.ownBlock∨v'.ownBlock=some w.heap.size)→(∀ b∈B,b∈B')→St w0 O0 w' B'→Mv B w B' w'→Keep v.ownBlock.toList w w'→EJ Enc.u8 e w0.heap.size (B'++O0) w' v' (l++m)→K v' w') :
    DL P (.call { callee:=.builtin .append,args:=#[x,y],argTypes:=#[t,t] }) ty F w K Z:=by
  have hu0:=hu
  obtain ⟨A,c,e1,h2,h3,h4⟩:=hu
  cases A with
  | none=>
    have hm:m=[]:=by
      cases m with
      | nil=>rfl
      | cons a r=>obtain ⟨ad,_,e2,_⟩:=h4 0 a rfl;cases e2
    subst hm
    exact DG (O':=B++O0) ht hi hzs hpos hx hy ho ⟨none,c,e1,h2,h3,fun i y hi=>by simp at hi⟩ (fun b hb=>.inl hb) hv hlen hlm s h
  | some A=>
    subst e1
    exact o_appendN (uw:=w) (O':=O') ht hi hzs hpos hx hy ho hu0.n8 (fun cs y h=>h) hv hlen hlm s h
end
open Go.RowKit
section
variable {P:Program} {n:Nat} {Q:Exit→Fr→World→Prop} {ro:Option Nat}
theorem wpOpIn_F {ops:List Oper} {i:Nat} {o:Oper} {F1:Fr} {w1:World} {K:Fr→World→Prop} {K':Act→World→Prop} (hok:ops.all (OR n ops)=true) (ho:ops[i]? = some o) (hK:∀ F w,K F w→K' (mk n F) w)
    (h1:Region.wanted o (DR ops F1)=true→DL P o.op o.type F1 w1 (fun v w2=>K (IG F1 o.dst v) w2) (fun c w2=>Q (.panic c) F1 w2)∨(true=true∧RoundW P o.op o.type F1 w1 (fun v w2=>K (IG F1 o.dst v) w2) (fun c w2=>Q (.panic c) F1 w2))) (h2:Region.wanted o (DR ops F1)=false→K (IG F1 o.dst undef) w1) :
    wpOpIn (fen ro) 0 P ops.toArray (KG n Q) i K' (mk n F1) w1:=by
  have hoo:OR n ops o=true:=List.all_eq_true.1 hok o (List.mem_of_getElem? ho)
  unfold wpOpIn
  simp only [List.getElem?_toArray,ho]
  rw [QZ hoo]
  split
  · rename_i hw
    refine ⟨fun _ _=>trivial,?_⟩
    rw [Oper.semAt_eq _ _ _ (VS hoo),RJ o hoo,RM]
    rcases h1 hw with h|⟨_,h⟩
    · exact QL (fun v w' hk=>by rw [JI _ _ _ _ (IY hoo)];exact hK _ _ hk) (fun c w' hz=>⟨F1,rfl,hz⟩) h
    · exact QH (fun v w' hk=>by rw [JI _ _ _ _ (IY hoo)];exact hK _ _ hk) (fun c w' hz=>⟨F1,rfl,hz⟩) h
  · rename_i hw
    rw [JI _ _ _ _ (IY hoo)]
    exact ⟨fun _ _=>trivial,hK _ _ (h2 (by simpa using hw))⟩
theorem tail_runY {ops:List Oper} {m:Nat} (hd:DOk ops m) (hok:ops.all (OR n ops)=true):∀ (fuel k:Nat) (listed:Array Bool) (F1:Fr) (w1:World),listed.size=ops.length→m≤k→ops.length≤k+fuel→k≤ops.length→(∀ j,j<ops.length→(listed[j]? = some true↔j<k))→
    WL true P ops Q (ops.drop k) F1 w1→wpAnyIn (fen ro) 0 P .any ops.toArray (KG n Q) fuel listed (mk n F1) w1:=by
  have fin:∀ (k:Nat) (listed:Array Bool) (F1:Fr) (w1:World),listed.size=ops.length→k≤ops.length→(∀ j,j<ops.length→(listed[j]? = some true↔j<k))→WL true P ops Q (ops.drop k) F1 w1→Region.ready .any ops.toArray listed=[]→KG n Q .normal (mk n F1) w1:=by
    intro k listed F1 w1 hsz hkn hl h hr
    by_cases hkl:k<ops.length
    · have:=PI hd hsz hkl (fun e=>by have:=(hl k hkl).1 e;omega) (fun j hj=>(hl j (by omega)).2 hj)
      rw [hr] at this;cases this
    · rw [List.drop_eq_nil_of_le (by omega)] at h
      exact ⟨F1,rfl,h⟩
  intro fuel
  induction fuel with
  | zero=>
    intro k listed F1 w1 hsz hmk hfu hkn hl h
    have hr:Region.ready .any ops.toArray listed=[]:=by
      unfold Region.ready
      rw [List.filter_eq_nil_iff]
      intro j hj
      have hjl:j<ops.length:=by simpa using hj
      have h1:=(hl j hjl).2 (by omega)
      have:j<listed.size:=by omega
      rw [Array.getElem?_eq_getElem this] at h1
      simp only [Option.some.injEq] at h1
      simp [this,h1]
    exact ⟨hr,fin k listed F1 w1 hsz hkn hl h hr⟩
  | succ fuel ih=>
    intro k listed F1 w1 hsz hmk hfu hkn hl h
    refine ⟨fin k listed F1 w1 hsz hkn hl h,fun i hi=>?_⟩
    obtain ⟨hnl,hil⟩:=KH hi hsz
    have hki:k≤i:=by
      rcases Nat.lt_or_ge i k with h1|h1
      · have:=(hl i hil).2 h1;rw [hnl] at this;cases this
      · exact h1
    have hdown:∀ i,listed[i]? = some true→∀ j∈KP ops i,listed[j]? = some true:=by
      intro i hi j hj
      have h1:i<ops.length:=by have:=(Array.getElem?_eq_some_iff.1 hi).1;omega
      have h2:=(hl i h1).1 hi
      have h3:=hd.back i h1 j hj
      exact (hl j (by omega)).2 (by omega)
    have hik:i=k:=by
      rcases Nat.eq_or_lt_of_le hki with e|hlt
      · exact e.symm
      · have h1:=MB hd hsz hdown hi (by omega) k hlt
        have:=(hl k (by omega)).1 h1;omega
    subst hik
    have ho:ops[i]? = some ops[i]:=List.getElem?_eq_getElem hil
    rw [List.drop_eq_getElem_cons hil] at h
    have hl':∀ j,j<ops.length→((listed.setIfInBounds i true)[j]? = some true↔j<i+1):=by
      intro j hj
      rw [Array.getElem?_setIfInBounds]
      by_cases hji:i=j
      · subst hji;simp;omega
      · rw [if_neg hji,hl j hj];omega
    refine wpOpIn_F (K:=fun F w=>WL true P ops Q (ops.drop (i+1)) F w) hok ho (fun F w hK=>ih (i+1) _ F w (by simpa using hsz) (by omega) (by omega) (by omega) hl' hK) (fun hw=>?_) (fun hw=>?_)
    · unfold WL at h;rw [if_pos hw] at h;exact h
    · unfold WL at h;rw [if_neg (by rw [hw];simp)] at h;exact h
theorem draw_runY {ops:List Oper} {m:Nat} {Ts:List Pr} {F:Fr} {w:World} (hd:DOk ops m) (hok:ops.all (OR n ops)=true) (hst:∀ i v w w',MY Ts i v w→Keep [] w w'→MY Ts i v w') (hm:m≤ops.length) (hlen:Ts.length=m)
    (hs:MS P ops m Ts F w 0 (ops.take m) Ts)
    (fin:∀ F1 w1,Keep [] w w1→(∀ i o d,i<m→ops[i]? = some o→o.dst=some d→MY Ts i (F1 d) w1)→(∀ t,(∀ j o,j<m→ops[j]? = some o→o.dst≠some t)→F1 t=F t)→WL true P ops Q (ops.drop m) F1 w1) :
    ∀ (fuel:Nat) (listed:Array Bool) (F1:Fr) (w1:World),listed.size=ops.length→OX ops listed≤fuel→(∀ j,m≤j→listed[j]?≠some true)→DInv ops m Ts F w listed F1 w1→wpAnyIn (fen ro) 0 P .any ops.toArray (KG n Q) fuel listed (mk n F1) w1:=by
  intro fuel
  -- all of the first m are listed: on to the tail
  have toTail:∀ (fuel:Nat) (listed:Array Bool) (F1:Fr) (w1:World),listed.size=ops.length→OX ops listed≤fuel→(∀ j,m≤j→listed[j]?≠some true)→DInv ops m Ts F w listed F1 w1→(∀ j,j<m→listed[j]? = some true)→wpAnyIn (fen ro) 0 P .any ops.toArray (KG n Q) fuel listed (mk n F1) w1:=by
    intro fuel listed F1 w1 hsz hfu hno hi hall
    have hfl:ops.length≤m+fuel:=by
      have:ops.length - m≤OX ops listed:=by
        unfold OX
        have e:List.range ops.length=List.range m++(List.range (ops.length - m)).map (m + ·):=by
          rw [← List.range_add];congr 1;omega
        rw [e,List.countP_append]
        have:((List.range (ops.length - m)).map (m + ·)).countP (fun j=>listed[j]? != some true)=ops.length - m:=by
          rw [List.countP_eq_length.2]
          · simp
          · intro j hj
            obtain ⟨q,_,rfl⟩:=List.mem_map.1 hj
            have:=hno (m+q) (by omega)
            simpa using this
        omega
      omega
    refine tail_runY hd hok fuel m listed F1 w1 hsz (Nat.le_refl _) hfl hm (fun j hj=>⟨fun h=>?_,fun h=>hall j h⟩) (fin F1 w1 hi.keep (fun i o d him ho hdst=>hi.fact i o d him (hall i him) ho hdst) (fun t ht=>hi.free t (fun j o hj ho=>?_)))
    · rcases Nat.lt_or_ge j m with h1|h1
      · exact h1
      · exact absurd h (hno j h1)
    · rcases Nat.lt_or_ge j m with h1|h1
      · exact ht j o h1 ho
      · exact absurd hj (hno j h1)
  induction fuel with
  | zero=>
    intro listed F1 w1 hsz hfu hno hi
    refine toTail 0 listed F1 w1 hsz hfu hno hi (fun j hj=>?_)
    have h0:OX ops listed=0:=by omega
    unfold OX at h0
    have:=List.countP_eq_zero.1 h0 j (by simp;omega)
    simpa using this
  | succ fuel ih=>
    intro listed F1 w1 hsz hfu hno hi
    by_cases hall:∀ j,j<m→listed[j]? = some true
    · exact toTail (fuel+1) listed F1 w1 hsz hfu hno hi hall
    · have hex:∃ j,j<m∧listed[j]?≠some true:=by
        refine Classical.byContradiction fun hc=>hall fun j hj=>Classical.byContradiction fun hn=>hc ⟨j,hj,hn⟩
      -- the first that is not listed is ready
      have hmin:∀ q j,q=j→j<m→listed[j]?≠some true→∃ k,k<m∧listed[k]?≠some true∧∀ i,i<k→listed[i]? = some true:=by
        intro q
        induction q using Nat.strongRecOn with
        | _ q ihq=>
          intro j hqj hj hn
          by_cases hb:∀ i,i<j→listed[i]? = some true
          · exact ⟨j,hj,hn,hb⟩
          · have:∃ i,i<j∧listed[i]?≠some true:=Classical.byContradiction fun hc=>hb fun i hi=>Classical.byContradiction fun hn=>hc ⟨i,hi,hn⟩
            obtain ⟨i,hij,hni⟩:=this
            exact ihq i (by omega) i rfl (by omega) hni
      obtain ⟨j0,hj0,hn0⟩:=hex
      obtain ⟨k,hkm,hkn,hkb⟩:=hmin j0 j0 rfl hj0 hn0
      refine ⟨fun h0=>?_,fun i hir=>?_⟩
      · have:=PI hd hsz (by omega) hkn hkb
        rw [h0] at this;cases this
      · obtain ⟨hnl,hil⟩:=KH hir hsz
        have him:i<m:=by
          rcases Nat.lt_or_ge i m with h1|h1
          · exact h1
          · exact absurd (MB hd hsz hi.down hir h1 k (by omega)) hkn
        have ho:ops[i]? = some ops[i]:=List.getElem?_eq_getElem hil
        have haft:=HX ho hir hsz (fun j hj=>Nat.lt_trans (hd.back i hil j hj) hil)
        have hT:Ts[i]? = some Ts[i]:=List.getElem?_eq_getElem (by omega)
        have hsp:=hs.at_ (ops.take m) Ts 0 i ops[i] Ts[i] (by rw [List.getElem?_take,if_pos him];exact ho) hT
        rw [Nat.zero_add] at hsp
        have hTi:MY Ts i=Ts[i]:=by unfold MY;rw [hT];rfl
        have hsp':=hsp F1 w1 hi.keep (fun t ht=>hi.free t (fun j oj hj hoj=>by
          intro e
          unfold NG at ht
          have h1:=List.all_eq_true.1 ht j (by simp;exact (List.getElem?_eq_some_iff.1 hoj).1)
          rw [hoj] at h1
          simp only [e,Bool.or_eq_true,List.contains_iff_mem] at h1
          rcases h1 with h1|h1
          · simp at h1
          · have:=hi.down j hj i h1
            rw [hnl] at this;cases this)) (fun j d hdep=>by
          unfold SP at hdep
          simp only [Bool.and_eq_true] at hdep
          obtain ⟨⟨h1,h2⟩,h3⟩:=hdep
          have hjl:=haft j (by simpa using h2)
          cases hoj:ops[j]? with
          | none=>rw [hoj] at h1;cases h1
          | some oj=>
            rw [hoj] at h1
            simp only [Option.bind_some] at h1
            cases hd':oj.dst with
            | none=>rw [hd'] at h1;cases h1
            | some e=>
              rw [hd'] at h1
              have:=Nat.eq_of_beq_eq_true h1
              subst this
              exact hi.fact j oj e (blt h3) hjl hoj hd')
        have hdist:∀ (j:Nat) (oj:Oper),j<m→j≠i→ops[j]? = some oj→oj.dst≠none→oj.dst≠ops[i].dst:=fun j oj hj hji hoj hne=>hd.dist j i oj ops[i] hj him hji hoj ho hne
        have hno':∀ j,m≤j→(listed.setIfInBounds i true)[j]?≠some true:=fun j hj=>by
          rw [Array.getElem?_setIfInBounds,if_neg (by omega)];exact hno j hj
        refine wpOpIn_F (K:=fun F2 w2=>DInv ops m Ts F w (listed.setIfInBounds i true) F2 w2) hok ho (fun F2 w2 hK=>ih _ F2 w2 (by simpa using hsz) (by have:=IA hil hsz hnl;omega) hno' hK) (fun hw=>.inl ?_) (fun hw=>?_)
        · have h1:=hsp'.1 hw
          unfold DL at h1 ⊢
          generalize (execOp (CU F1) ⟨none,ops[i].op,ops[i].type,"",#[],none⟩).run P w1=r at h1 ⊢
          have use:∀ v w2,Keep [] w1 w2∧Ts[i] v w2→DInv ops m Ts F w (listed.setIfInBounds i true) (IG F1 ops[i].dst v) w2:=fun v w2 ⟨hk,hv⟩=>hi.step hst hsz hil ho haft hdist hk (fun _ _ _=>by rw [hTi];exact hv)
          cases r with
          | ok x w'=>
            cases x <;> simp only [FS] at h1 ⊢ <;> try exact h1.elim
            case value v=>exact use _ _ h1
            case skip=>exact use _ _ h1
            case enter f args=>
              exact Calls.mono h1 fun e w'' he=>by
                cases e with
                | returned v=>exact use _ _ he
                | panicked c=>exact he.elim
                | outgrown=>exact he.elim
          | halt x w'=>cases x <;> simp only [FS] at h1 ⊢ <;> exact h1.elim
        · have h1:=hsp'.2 hw
          exact hi.step hst hsz hil ho haft hdist (Keep.refl _ _) (fun _ _ _=>by rw [hTi];exact h1)
theorem cw_drawY0 {id:Nat} {ops:List Oper} {F:Fr} {w:World} (m:Nat) (Ts:List Pr) (hm:P.follows .mixedOrders=true) (hok:ops.all (OR n ops)=true) (hd:QU ops m=true) (hlen:(Nat.beq Ts.length m && Nat.ble m ops.length)=true) (hst:∀ T∈Ts,∀ v w w',T v w→Keep [] w w'→T v w')
    (hs:MS P ops m Ts F w.drew 0 (ops.take m) Ts)
    (fin:∀ F1 w1,Keep [] w w1→(∀ i d,depAt' ops i d=true→i<m→MY Ts i (F1 d) w1)→(∀ t,MQ ops m t=true→F1 t=F t)→WL true P ops Q (ops.drop m) F1 w1):CW P (ro:=ro) n (.region id ops.toArray true) Q F w:=by
  simp only [Bool.and_eq_true] at hlen
  have hle:m≤ops.length:=Nat.le_of_ble_eq_true hlen.2
  have hdr:({ w with drawn:=w.drawn+1 }:World)=w.drew:=rfl
  refine wpIn_region_any hm ?_
  rw [hdr,List.size_toArray]
  refine draw_runY (DOk.of hd) hok (fun i v w w' h hk=>?_) hle (Nat.eq_of_beq_eq_true hlen.1) hs (fun F1 w1 hk h1 h2=>fin F1 w1 ((Keep.drew [] w).trans hk) (fun i d hdp him=>?_) (fun t ht=>h2 t (fun j o hj ho e=>?_))) ops.length _ F w.drew (by simp) ?_ (fun j _=>?_) ⟨Keep.refl _ _,fun i hi=>?_,fun i o d _ hi=>?_,fun _ _=>rfl⟩
  · unfold MY at h ⊢
    cases hT:Ts[i]? with
    | none=>rw [hT] at h;exact trivial
    | some T=>rw [hT] at h;exact hst T (List.mem_of_getElem? hT) v w w' h hk
  · unfold depAt' at hdp
    cases ho:ops[i]? with
    | none=>rw [ho] at hdp;cases hdp
    | some o=>
      rw [ho] at hdp
      simp only [Option.bind_some] at hdp
      cases hd':o.dst with
      | none=>rw [hd'] at hdp;cases hdp
      | some e=>
        rw [hd'] at hdp
        have:=Nat.eq_of_beq_eq_true hdp
        subst this
        exact h1 i o e him ho hd'
  · unfold MQ at ht
    have h3:=List.all_eq_true.1 ht o (List.mem_of_getElem? (by rw [List.getElem?_take,if_pos hj];exact ho))
    rw [e] at h3;simp at h3
  · unfold OX;exact Nat.le_trans (List.countP_le_length) (by simp)
  all_goals simp_all [Array.getElem?_replicate]
theorem cw_drawY {id:Nat} {ops:List Oper} {F:Fr} {w:World} (m:Nat) (pre tl:List Oper) (Ts:List Pr) (hm:P.follows .mixedOrders=true) (hok:ops.all (OR n ops)=true) (hd:QU ops m=true) (hlen:(Nat.beq Ts.length m && Nat.ble m ops.length)=true) (hpre:ops.take m=pre) (htl:ops.drop m=tl) (hst:Stab Ts)
    (hs:MS P ops m Ts F w.drew 0 pre Ts)
    (fin:∀ F1 w1,Keep [] w w1→(∀ i d,depAt' ops i d=true→i<m→MY Ts i (F1 d) w1)→(∀ t,MQ ops m t=true→F1 t=F t)→WL true P ops Q tl F1 w1):CW P (ro:=ro) n (.region id ops.toArray true) Q F w:=by
  subst hpre;subst htl
  exact cw_drawY0 m Ts hm hok hd hlen hst.of hs fin
end
section
variable {P:Program} {ty:TypeId} {F:Fr} {w:World} {K:Value→World→Prop} {Z:List PanicEntry→World→Prop} {x y:Operand}
theorem o_sub8 {t yt:TypeId} (a b:UInt8) (hx:CU F x=vB a) (hy:CU F y=vB b) (h:K (vB (a - b)) w):DL P (.binOp .sub t x y yt) ty F w K Z:=
  HW .u8 _ _ _ hx hy rfl (by
    have:IntKind.u8.wrap ((a.toNat:Int) - (b.toNat:Int))=((a - b).toNat:Int):=by
      rw [UInt8.toNat_sub]
      have:=a.toNat_lt;have:=b.toNat_lt
      simp only [IntKind.wrap,IntKind.bits,IntKind.signed]
      simp
      omega
    rw [this];exact h)
theorem o_andNot8 {t yt:TypeId} (a b:UInt8) (hx:CU F x=vB a) (hy:CU F y=vB b) (h:K (vB (a &&& ~~~b)) w):DL P (.binOp .andNot t x y yt) ty F w K Z:=
  BU (by
    simp only [execOp,hx,hy,eqGuard,binOp]
    have:(Op.intBits .andNot .u8 (a.toNat:Int) (b.toNat:Int))=pure (vB (a &&& ~~~b)):=by
      show pure (Value.int .u8 (IntKind.u8.wrap ((BitVec.ofInt 8 (a.toNat:Int) &&& ~~~BitVec.ofInt 8 (b.toNat:Int)).toNat:Int)))=_
      rw [VC,VC,← UInt8.toBitVec_not,← UInt8.toBitVec_and]
      exact congrArg pure (congrArg (Value.int .u8) (u8_wrap _))
    simp [this]) h
end
end Go.Fw
namespace Go.Proofs.Ytjgfokolnkhafaa
open Go.Fw Go.RowKit
set_option maxHeartbeats 4000000 in
set_option maxRecDepth 100000 in
theorem c_cloneB {O:List Nat} (l_v:Value) (l:List UInt8) (w:World) (h_l:BG Enc.u8 w O l_v l) (hpre0:l.length≤1000000) (hO:∀ b∈O,b<w.heap.size):CF Try.prog 98 [l_v] w (fun v w'=>∃ (x0:Value),v=x0∧(∀ b,x0.ownBlock=some b→w.heap.size≤b)∧EJ Enc.u8 5 w.heap.size (x0.ownBlock.toList++(O)) w' x0 (l)):= by
 have lim_l:=h_l.len_le
 have h_l:BG Enc.u8 w ([]++O) l_v l:=h_l
 have s0:St w O w []:=St.start hO
 refine BQ 8 Try.func98 rfl rfl oT (fun F0=>?_)
 refine AG (?_)
 refine AB kR (AA (AD (nS) rfl (AF (AC (?_)))))
 refine AG (?_)
 refine AG (?_)
 refine AB kR (AA (AE (l_v) rfl (AA (IO U23_ rfl rfl h_l fun bn5656 hbn5657=>(?_)))))
 refine AF (AC (?_))
 refine AO (bn5656) rfl rfl (fun hc5658=>?_) (fun hc5658=>?_)
 ·have hp5659:bn5656=true:=by simpa using hc5658
  refine AG (?_)
  refine AB kR (AA (AD (nS) rfl (AF (AC (?_)))))
  refine AP (AR (AZ rfl (CS rfl rfl rfl) (?_)))
  have hnl5661:l=[]:=hbn5657 aS
  have hl5660:BG Enc.u8 w ([]++O) (.slice none 0 0) (l):=by rw [hnl5661];exact BG.nil _ _ _
  exact ⟨_,rfl,s0.keep,⟨.slice none 0 0,rfl,(fun b hb=>by simp [Value.ownBlock] at hb),(by rw [hnl5661];exact EJ.nil _ _ _ _ _)⟩⟩
 ·have hp5662:bn5656=false:=by simpa using hc5658
  refine AU (AC (?_))
  refine AG (?_)
  refine AB kR (AA (HP (E:=Enc.u8) (xs:=[]) U23_ IJ z_5 (by decide) [] [] [] rfl rfl rfl (Parts.nil _ _ _) oT s0 fun v5667 b5669 w5663 e5670 hb5671 s5664 m5665 k5666 hl5668=>(?_)))
  have hB5672:∀ b,v5667.ownBlock=some b→b∈(b5669 :: []):=fun b hb=>by rw [hb5671] at hb;cases hb;simp
  clear e5670 hb5671
  have h_l:=h_l.mv m5665
  refine AA (AE (l_v) rfl (AA (DG (E:=Enc.u8) (l:=[]) (m:=l) U23_ i_5 rfl (by decide) rfl rfl hl5668 h_l (fun _ hb=>.inl hb) hB5672 (by simp;omega) (by simp [maxLen];omega) s5664 fun v5677 w5673 B5679 hB5680 at5681 sub5682 s5674 m5675 k5676 ho5678=>(?_))))
  rw [List.nil_append] at ho5678
  refine AA (AD (v5677) rfl (AF (AC (?_))))
  refine AP (AZ rfl (CS rfl rfl rfl) (?_))
  exact ⟨_,rfl,s5674.keep,⟨v5677,rfl,(fun b hb=>(s5674.new b (hB5680 b hb)).1),(ho5678.sub (fun x hx=>.inl ((List.mem_append.1 hx).elim (fun h=>List.mem_append_left _ (hB5680 x (by simpa using h))) (fun h=>List.mem_append_right _ h))))⟩⟩
set_option maxHeartbeats 4000000 in
set_option maxRecDepth 100000 in
theorem c_xor {O:List Nat} (x_v:Value) (x:List UInt8) (y_v:Value) (y:List UInt8) (w:World) (h_x:BG Enc.u8 w O x_v x) (h_y:BG Enc.u8 w O y_v y) (hpre0:x.length≤1000000) (hpre1:x.length≤y.length) (hO:∀ b∈O,b<w.heap.size):CF Try.prog 54 [x_v,y_v] w (fun v w'=>∃ (x0:Value),v=x0∧BG Enc.u8 w' (O) x0 (xorM x y)):= by
 have lim_x:=h_x.len_le
 have h_x:BG Enc.u8 w ([]++O) x_v x:=h_x
 have lim_y:=h_y.len_le
 have h_y:BG Enc.u8 w ([]++O) y_v y:=h_y
 have s0:St w O w []:=St.start hO
 refine BQ 26 Try.func54 rfl rfl oT (fun F0=>?_)
 refine AG (?_)
 refine AB kR (AA (AD (nS) rfl (AF (AC (?_)))))
 refine AG (?_)
 refine AB kR (AA (AE (x_v) rfl (AA (BB (vs:=[x_v]) enter_98 (c_cloneB (O:=[]++O) x_v x w h_x oM s0.lt) rfl s0 fun v5683 w5684 s5685 m5686 k5687 r5688=>(?_)))))
 obtain ⟨_,rfl,hv5690,ho5689⟩:=r5688
 obtain ⟨B5692,hB5691,sub5693,s5694,m5695,ho5689⟩:=own_take s0 k5687 hv5690 ho5689
 have h_y:=h_y.mv m5695
 refine AA (AD (v5683) rfl (AF (AC (?_))))
 refine AG (?_)
 refine AG (?_)
 refine AB kR (AA (AE (v5683) rfl (AA (RN U23_ rfl ho5689 (AA (AE (vI 0) rfl (AF (AC (?_)))))))))
 refine BR (?_)
 refine DH (fun mI FI wI=>∃ (k:Nat) (vo0_5:Value) (B:List Nat),k≤x.length∧mI=x.length - k∧(∃ F1,FI=FT F1 [(1,y_v),(5,vo0_5),(10,vI (x.length:Int)),(11,vI ((k:Nat):Int)),(26,undef)])∧St w O wI B∧EJ Enc.u8 5 w.heap.size (B++O) wI vo0_5 (KR x y k)∧(∀ b,vo0_5.ownBlock=some b→b∈B)∧BG Enc.u8 wI (B++O) (y_v) (y)) (x.length - (0)) ?_ ?_
 ·exact ⟨(0),v5683,B5692,oM,rfl,⟨_,AX _ ⟨rfl,rfl,rfl,(by rfl),rfl,trivial⟩⟩,s5694,(by rw [show KR x y (0)=x from xorP_zero _ _];exact ho5689),hB5691,h_y⟩
 ·intro ml0 F wl0 hI
  clear h_y
  obtain ⟨k,vo0_5,Bl0,hr0_0,hm0,⟨Fl0,rfl⟩,sl0,ho0_5,hB0_5,h_y⟩:=hI
  refine AG (?_)
  refine AB kR (AA (DW .i64 ((k:Nat):Int) (x.length:Int) rfl rfl (AF (AC (?_)))))
  refine AG (?_)
  refine AO (decide (((k:Nat):Int)<(x.length:Int))) rfl rfl (fun hc5696=>?_) (fun hc5696=>?_)
  ·have hp5697:((k:Nat):Int)<(x.length:Int):=by simpa using hc5696
   refine AU (AC (?_))
   refine AG (?_)
   refine BR (?_)
   refine AG (?_)
   refine AB kR (AA (AE (vI ((k:Nat):Int)) rfl (AA (AD (vI ((k:Nat):Int)) rfl (AF (AC (?_)))))))
   refine cw_draw' 8 _ _ [DF vo0_5,DF (vI ((k:Nat):Int)),fun (vT:Value) (wT:World)=>∃ bT,vT = .pointer (some ⟨bT,k*1,none⟩)∧vo0_5.ownBlock=some bT,DF (vB ((KR x y k)[k]!)),fun (vT:Value) (wT:World)=>BG Enc.u8 wT (Bl0++O) vT (y),DF (vI ((k:Nat):Int)),fun (vT:Value) (wT:World)=>∃ aT,vT = .pointer (some aT)∧PT Enc.u8 wT (Bl0++O) (.pointer (some aT)) (y[k]!),DF (vB (y[k]!))] kR kR kR kR rfl rfl ⟨kI,kI,fun _ _ _ h _=>h,kI,fun _ _ _ h k=>h.mv (Mv.of_keep k),kI,fun _ _ _ ⟨a,e,h⟩ k=>⟨a,e,h.mv (Mv.of_keep k)⟩,kI,trivial⟩ ⟨?_,?_,?_,?_,?_,?_,?_,?_,trivial⟩ ?_
   ·intro F1 w1 k1 hf hd
    obtain ⟨F2,rfl⟩:=AL (F:=F1) [(5,vo0_5)] ⟨hf 5 kR,trivial⟩
    exact AH rfl ((AE (vo0_5) rfl (⟨(Keep.refl _ _),rfl⟩)))
   ·intro F1 w1 k1 hf hd
    obtain ⟨F2,rfl⟩:=AL (F:=F1) [(6,vI ((k:Nat):Int))] ⟨hf 6 kR,trivial⟩
    exact AH rfl ((AE (vI ((k:Nat):Int)) rfl (⟨(Keep.refl _ _),rfl⟩)))
   ·intro F1 w1 k1 hf hd
    have k0:=(Keep.drew [] wl0).trans k1
    have m1:Mv Bl0 wl0 Bl0 w1:=Mv.of_keep k0
    have ho0_5:=ho0_5.mv m1 k0 (by simp)
    obtain ⟨F2,rfl⟩:=AL (F:=F1) [(14,vo0_5),(15,vI ((k:Nat):Int))] ⟨hd 0 14 kR,hd 1 15 kR,trivial⟩
    exact AH rfl ((ER U23_ IJ .i64 ((k:Nat):Int) k rfl rfl rfl ho0_5 (by have:=GG x y k;omega) fun b5698 hb5699=>(⟨(Keep.refl _ _),⟨_,rfl,hb5699⟩⟩)))
   ·intro F1 w1 k1 hf hd
    have k0:=(Keep.drew [] wl0).trans k1
    have m1:Mv Bl0 wl0 Bl0 w1:=Mv.of_keep k0
    have ho0_5:=ho0_5.mv m1 k0 (by simp)
    obtain ⟨b5700,e5702,hb5701⟩:∃ b,F1 16 = .pointer (some ⟨b,k*1,none⟩)∧vo0_5.ownBlock=some b:=hd 2 16 kR
    obtain ⟨F2,rfl⟩:=AL (F:=F1) [(16,vP (some ⟨b5700,k*1,none⟩))] ⟨e5702,trivial⟩
    exact AH rfl ((LM U5_ rfl rfl ho0_5 hb5701 (by have:=GG x y k;omega) (⟨(Keep.refl _ _),rfl⟩)))
   ·intro F1 w1 k1 hf hd
    have k0:=(Keep.drew [] wl0).trans k1
    have m1:Mv Bl0 wl0 Bl0 w1:=Mv.of_keep k0
    have h_y:=h_y.mv m1
    obtain ⟨F2,rfl⟩:=AL (F:=F1) [(1,y_v)] ⟨hf 1 kR,trivial⟩
    exact AH rfl ((AE (y_v) rfl (⟨(Keep.refl _ _),h_y⟩)))
   ·intro F1 w1 k1 hf hd
    obtain ⟨F2,rfl⟩:=AL (F:=F1) [(6,vI ((k:Nat):Int))] ⟨hf 6 kR,trivial⟩
    exact AH rfl ((AE (vI ((k:Nat):Int)) rfl (⟨(Keep.refl _ _),rfl⟩)))
   ·intro F1 w1 k1 hf hd
    obtain ⟨v5703,e5705,hl5704⟩:∃ v,F1 18=v∧BG Enc.u8 w1 (Bl0++O) v (y):=⟨_,rfl,hd 4 18 kR⟩
    have:=hl5704.len_le
    obtain ⟨F2,rfl⟩:=AL (F:=F1) [(18,v5703),(19,vI ((k:Nat):Int))] ⟨e5705,hd 5 19 kR,trivial⟩
    exact AH rfl ((DI U23_ IJ .i64 ((k:Nat):Int) k rfl rfl rfl hl5704 (by have:=GG x y k;omega) fun a5706 hp5707=>(⟨(Keep.refl _ _),⟨a5706,rfl,hp5707⟩⟩)))
   ·intro F1 w1 k1 hf hd
    obtain ⟨a5708,e5710,hp5709⟩:∃ aX_,F1 20 = .pointer (some aX_)∧PT Enc.u8 w1 (Bl0++O) (.pointer (some aX_)) (y[k]!):=hd 6 20 kR
    obtain ⟨F2,rfl⟩:=AL (F:=F1) [(20,vP (some a5708))] ⟨e5710,trivial⟩
    exact AH rfl ((HJ U5_ rfl rfl hp5709 (⟨(Keep.refl _ _),rfl⟩)))
   intro F5712 w5713 k5711 hT5714 hF5715
   have s5716:=sl0.call k5711
   have m5717:Mv Bl0 wl0 Bl0 w5713:=Mv.of_keep k5711
   have h_y:=h_y.mv m5717
   have ho0_5:=ho0_5.mv m5717 k5711 (by simp)
   obtain ⟨F2,rfl⟩:=AL (F:=F5712) [(1,y_v),(5,vo0_5),(10,vI (x.length:Int)),(11,vI ((k:Nat):Int)),(26,undef),(14,vo0_5),(15,vI ((k:Nat):Int)),(17,vB ((KR x y k)[k]!)),(21,vB (y[k]!))] ⟨hF5715 1 kR,hF5715 5 kR,hF5715 10 kR,hF5715 11 kR,hF5715 26 kR,hT5714 0 14 kR (by decide),hT5714 1 15 kR (by decide),hT5714 3 17 kR (by decide),hT5714 7 21 kR (by decide),trivial⟩
   clear hT5714 hF5715
   refine AA (NQ ((KR x y k)[k]!) (y[k]!) rfl rfl (AA (ER U23_ IJ .i64 ((k:Nat):Int) k rfl rfl rfl ho0_5 (by have:=GG x y k;omega) fun b5720 hb5721=>(BY (KM (((KR x y k)[k]!) ^^^ (y[k]!)) IJ rfl rfl rfl ho0_5 hb5721 (hB0_5 _ hb5721) (by have:=GG x y k;omega) rfl s5716 fun w5722 s5723 m5724 k5725 bx5726=>(?_))))))
   have h_y:=h_y.mv m5724
   refine AF (CI (AC (?_)))
   refine AB kR (AA (DC .i64 ((k:Nat):Int) (1:Int) (((k+1:Nat):Int)) rfl rfl (FO oM oM) (AA (AE (vI ((k+1:Nat):Int)) rfl (AF (AC (?_)))))))
   exact ⟨_,oM,(k+1),vo0_5,Bl0,oM,rfl,⟨_,AX _ ⟨rfl,rfl,rfl,(by rfl),rfl,trivial⟩⟩,s5723,(by rw [show KR x y (k+1)=(KR x y k).set k (((KR x y k)[k]!) ^^^ (y[k]!)) from (xorP_set oM).symm];exact bx5726),hB0_5,h_y⟩
  ·have hp5727:(x.length:Int)≤((k:Nat):Int):=by simpa using hc5696
   obtain rfl:k=x.length:=by omega
   refine DE (CC (CC (CY (AC (?_)))))
   refine AG (?_)
   refine AB kR (AA (AE (vo0_5) rfl (AA (AD (vo0_5) rfl (AF (AC (?_)))))))
   refine AP (AZ rfl (CS rfl rfl rfl) (?_))
   have e:(xorM x y)=(KR x y x.length):=by exact (xorP_all _ _).symm
   exact ⟨_,rfl,sl0.keep,by rw [e];exact ⟨vo0_5,rfl,ho0_5.pub sl0⟩⟩
set_option maxHeartbeats 4000000 in
set_option maxRecDepth 100000 in
theorem c_pairs11 {O:List Nat} (x_cs:List Value) (x:Share) (s_a:Addr) (s:Share) (w:World) (h_x:Enc.share.rd w O x_cs x) (h_s:PT Enc.share w O (.pointer (some s_a)) s) (hO:∀ b∈O,b<w.heap.size):CF Try.prog 97 [.agg x_cs.toArray, .pointer (some s_a)] w (fun v _=>v = .bool (x.index == s.index)):= by
 have h_x:Enc.share.rd w ([]++O) x_cs x:=h_x
 have h_s:PT Enc.share w ([]++O) (.pointer (some s_a)) s:=h_s
 have s0:St w O w []:=St.start hO
 refine BQ 9 Try.func97 rfl rfl oT (fun F0=>?_)
 refine AG (?_)
 refine AB kR (AA (DO (E:=Enc.share) (vA x_cs.toArray) (x_cs) x rfl rfl h_x s0 fun a5728 w5729 s5730 m5731 k5732 hp5733=>(?_)))
 have h_s:=h_s.mv m5731
 refine AA (AD (vO false) rfl (AF (AC (?_))))
 refine AG (?_)
 refine AB kR (AA (BM 1 QW (x.index) rfl hp5733 (fun _ _ _ h=>MN h) fun a5734 hp5735=>(AA (CE U3_ rfl rfl hp5735 (AA (BM 1 QW (s.index) rfl h_s (fun _ _ _ h=>MN h) fun a5736 hp5737=>(AA (CE U3_ rfl rfl hp5737 (AA (EI .i64 x.index s.index rfl rfl (AA (AD (vO (x.index == s.index)) rfl (AF (AC (?_)))))))))))))))
 refine AP (AZ rfl (CS rfl rfl rfl) (?_))
 exact ⟨_,rfl,s5730.keep,rfl⟩
set_option maxHeartbeats 4000000 in
set_option maxRecDepth 100000 in
theorem c_pairs {O:List Nat} (l_v:Value) (l:List Share) (others_v:Value) (others:List Share) (w:World) (h_l:BG Enc.share w O l_v l) (h_others:BG Enc.share w O others_v others) (hO:∀ b∈O,b<w.heap.size):CF Try.prog 53 [l_v,others_v] w (fun v w'=>∃ (a0_0:Addr) (a0_1:Addr),v = .func (.func 95) #[] #[.pointer (some a0_0), .pointer (some a0_1)]∧PT (Enc.slice Enc.share) w' (O) (.pointer (some a0_0)) (l)∧PT (Enc.slice Enc.share) w' (O) (.pointer (some a0_1)) (others)):= by
 have lim_l:=h_l.len_le
 have h_l:BG Enc.share w ([]++O) l_v l:=h_l
 have lim_others:=h_others.len_le
 have h_others:BG Enc.share w ([]++O) others_v others:=h_others
 have s0:St w O w []:=St.start hO
 refine BQ 6 Try.func53 rfl rfl oT (fun F0=>?_)
 refine AG (?_)
 refine AB kR (AA (DO (E:=(Enc.slice Enc.share)) (l_v) ([l_v]) l rfl (FD h_l.oneCell) ⟨_,rfl,h_l⟩ s0 fun a5738 w5739 s5740 m5741 k5742 hp5743=>(?_)))
 have h_others:=h_others.mv m5741
 refine AA (DO (E:=(Enc.slice Enc.share)) (others_v) ([others_v]) others rfl (FD h_others.oneCell) ⟨_,rfl,h_others⟩ s5740 fun a5744 w5745 s5746 m5747 k5748 hp5749=>(?_))
 have hp5743:=hp5743.mv m5747
 refine AA (AD (Value.nilFunc) rfl (AF (AC (?_))))
 refine AG (?_)
 refine AB kR (AA (DD (first:=[]) (captured:=[.tmp 2, .tmp 3]) [] [vP (some a5738),vP (some a5744)] rfl rfl (AA (AD (vN (.func 95) #[] #[vP (some a5738),vP (some a5744)]) rfl (AF (AC (?_)))))))
 refine AP (AZ rfl (CS rfl rfl rfl) (?_))
 exact ⟨_,rfl,s5746.keep,⟨_,_,rfl,(hp5743.sub (fun b hb=>.inl (List.mem_append_right _ hb))),(hp5749.sub (fun b hb=>.inl (List.mem_append_right _ hb)))⟩⟩
end Go.Proofs.Ytjgfokolnkhafaa
