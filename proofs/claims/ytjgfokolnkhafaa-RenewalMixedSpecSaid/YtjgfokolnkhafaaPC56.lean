/- What the laws of this part rest on: lemmas, and the walks of the functions. No conditions. -/
import Derived.WalkKit
import Derived.WalkSpells
import Derived.WalkLawsBesides
import Derived.RangeFuncLeaves
import Derived.Maps.AppendAt
import Derived.Deep.AppendLies
import Derived.Deep.Slices
import Derived.OpenShut
import Derived.ProofKit
import Derived.Below
import Derived.ChangeSame
import Derived.Carry
import Derived.RangeFuncRecord
import Derived.Laws.Tables
import Derived.Recover
import Derived.DefersIn
import Derived.Lib.AppendZerosOnto
import Derived.Lib.Overlaps
import Derived.Laws.CopyRow
import Derived.Laws.StructEq
import Derived.ChangeKeysEq
import Derived.OrdersIn
import Derived.Test.YtjgfokolnkhafaaRows
import Derived.Test.YtjgfokolnkhafaaPC55
set_option linter.unusedSimpArgs false
set_option linter.unusedVariables false
namespace Go.Proofs.Ytjgfokolnkhafaa
open Go.Fw Go.RowKit
def kC:Circle:=(MF [3,5,8] 2 0).1
def kL:List Share:=(DN kC [7] [9]).1
def kX:Circle:=(BG kC kL [4]).1
def kA:Circle:=(CJ kC 1).1
def OY:Circle:=(CR kA (CJ kC 1).2.1 (BS kA 3)).1
def PJ:Circle:=(CR OY (CJ kC 1).2.1 (BS OY 8)).1
def DW:Circle:=(CR PJ (CJ kC 1).2.1 (CH PJ 1)).1
def kZ:Circle:=(AV DW (kL.take 2) [(4:Int)] 1 []).1
def kW:List Share:=(AV DW (kL.take 2) [(4:Int)] 1 []).2.1
def kE:Int:=(AV DW (kL.take 2) [(4:Int)] 1 []).2.2
set_option maxHeartbeats 4000000 in
set_option maxRecDepth 100000 in
theorem c_sane46 {O:List Nat} (w:World) (hO:∀ b∈O,b<w.heap.size):CE Try.prog 20 [] w (fun v _=>v = .bool (true)):= by
 have s0:St w O w []:=St.start hO
 refine BI 252 Try.func20 rfl rfl oT (fun F0=>AF (AB kR (AA (AD (vO false) rfl (AG (AC (AF (AB kR (AA (GZ (E:=Enc.int) (xs:=[.const (vI 3), .const (vI 5), .const (vI 8)]) U22_ OV z_3 (by decide) [vI 3,vI 5,vI 8] [[vI 3],[vI 5],[vI 8]] [(3:Int),(5:Int),(8:Int)] rfl rfl rfl (Parts.cons rfl rfl (Parts.cons rfl rfl (Parts.cons rfl rfl (Parts.nil _ _ _)))) oT s0 fun B3 O0 B4 az aA u6=>(?_)))))))))))
 have:=u6.len_le
 refine AA (AZ (vs:=[B3,vI 2,vI 0]) enter_10 (c_new (O:=[]++O) B3 ([(3:Int),(5:Int),(8:Int)]) (2:Int) (0:Int) O0 u6 (by (simp;done)) B4.lt) rfl B4 fun aB O1 O2 aC aD O3=>(?_))
 obtain ⟨k4,rfl,h4⟩:=O3
 have h4:Enc.circle.rd O1 ([]++O) k4 kC:=h4
 refine AA (AE (vT #[vA k4.toArray,vI ((MF ([(3:Int),(5:Int),(8:Int)]) (2:Int) (0:Int)).2)]) rfl (AA (AN (vA k4.toArray) rfl rfl (AA (AN (vI ((MF ([(3:Int),(5:Int),(8:Int)]) (2:Int) (0:Int)).2)) rfl rfl (AA (DE [vI 0,vI 0,vI 0,nS,nS] NN rfl O2 fun a0 O4 O5 O6 O7 aE G8=>(?_))))))))
 clear O5
 have h4:Enc.circle.rd O4 ((a0 :: [])++O) k4 (kC):=Enc.mv Enc.circle (x:=kC) h4 O7
 obtain ⟨d4,d5,rfl,b6,b7⟩:=h4
 have:=b6.len_le
 have:=b7.len_le
 refine CB (BF (vs:=[vI kC.epoch,vI kC.threshold,vI kC.wait,d4,d5]) (.agg #[vI kC.epoch,vI kC.threshold,vI kC.wait,d4,d5]) rfl rfl rfl BR (fun u hu=>by simp only [List.mem_cons,List.not_mem_nil,or_false] at hu;rcases hu with rfl|rfl|rfl|rfl|rfl <;> first|rfl|exact b6.oneCell|exact b7.oneCell) (by repeat (constructor)) G8 oT O6 fun aF O8 B5 aG b8=>(?_))
 have b6:=b6.mv B5
 have b7:=b7.mv B5
 refine AA (AD (vI ((MF ([(3:Int),(5:Int),(8:Int)]) (2:Int) (0:Int)).2)) rfl (AG (AC (AF (AB kR (AA (BW (vs:=[vI kC.epoch,vI kC.threshold,vI kC.wait,d4,d5]) U28_ rfl BR rfl b8 rfl (AA (GZ (E:=Enc.u8) (xs:=[.const (vB (7:UInt8))]) U23_ GK VF (by decide) [vB (7:UInt8)] [[vB (7:UInt8)]] [(7:UInt8)] rfl rfl rfl (Parts.cons rfl rfl (Parts.nil _ _ _)) oT O8 fun B6 aH O9 B7 P0 k5=>(?_))))))))))
 have b6:=b6.mv B7
 have b7:=b7.mv B7
 have b8:=b8.keep P0 (by simp)
 have:=k5.len_le
 refine AA (GZ (E:=Enc.u8) (xs:=[.const (vB (9:UInt8))]) U23_ GK VF (by decide) [vB (9:UInt8)] [[vB (9:UInt8)]] [(9:UInt8)] rfl rfl rfl (Parts.cons rfl rfl (Parts.nil _ _ _)) oT O9 fun B8 P1 B9 r3 P2 u7=>(?_))
 have b6:=b6.mv r3
 have b7:=b7.mv r3
 have k5:=k5.mv r3
 have b8:=b8.keep P2 (by simp)
 have:=u7.len_le
 refine AA (AZ (vs:=[vA #[vI kC.epoch,vI kC.threshold,vI kC.wait,d4,d5],B6,B8]) RF (c_deal (O:=(a0 :: [])++O) [vI kC.epoch,vI kC.threshold,vI kC.wait,d4,d5] kC B6 ([(7:UInt8)]) B8 ([(9:UInt8)]) P1 ⟨_,_,rfl,b6,b7⟩ k5 u7 B9.lt) rfl B9 fun aI P3 P4 C0 P5 P6=>(?_))
 obtain ⟨b9,rfl,a2⟩:=P6
 have:=a2.len_le
 have a2:BB Enc.share P3 ((a0 :: [])++O) b9 kL:=a2
 have b6:=b6.mv C0
 have b7:=b7.mv C0
 have b8:=b8.keep P5 (by simp)
 refine AA (AE (vT #[b9,vI ((DN kC ([(7:UInt8)]) ([(9:UInt8)])).2)]) rfl (AA (AN (b9) rfl rfl (AA (AN (vI ((DN kC ([(7:UInt8)]) ([(9:UInt8)])).2)) rfl rfl (AA (AD (b9) rfl (AA (AD (vI ((DN kC ([(7:UInt8)]) ([(9:UInt8)])).2)) rfl (AG (AC (AF (AB kR (AA (BW (vs:=[vI kC.epoch,vI kC.threshold,vI kC.wait,d4,d5]) U28_ rfl BR rfl b8 rfl (AA (AE (b9) rfl (AA (GZ (E:=Enc.u8) (xs:=[.const (vB (4:UInt8))]) U23_ GK VF (by decide) [vB (4:UInt8)] [[vB (4:UInt8)]] [(4:UInt8)] rfl rfl rfl (Parts.cons rfl rfl (Parts.nil _ _ _)) oT P4 fun C1 P7 C2 r4 P8 u9=>(?_))))))))))))))))))))
 have a2:=a2.mv r4
 have b6:=b6.mv r4
 have b7:=b7.mv r4
 have b8:=b8.keep P8 (by simp)
 have:=u9.len_le
 refine AA (AZ (vs:=[vA #[vI kC.epoch,vI kC.threshold,vI kC.wait,d4,d5],b9,C1]) enter_24 (c_renew (O:=(a0 :: [])++O) [vI kC.epoch,vI kC.threshold,vI kC.wait,d4,d5] kC b9 kL C1 ([(4:UInt8)]) P7 ⟨_,_,rfl,b6,b7⟩ a2 u9 C2.lt) rfl C2 fun aJ P9 Q0 r5 Q1 Q2=>(?_))
 obtain ⟨k6,c1,rfl,h5,a3⟩:=Q2
 have:=a3.len_le
 have h5:Enc.circle.rd P9 ((a0 :: [])++O) k6 kX:=h5
 have a2:=a2.mv r5
 have b6:=b6.mv r5
 have b7:=b7.mv r5
 have b8:=b8.keep Q1 (by simp)
 refine AA (AE (vT #[vA k6.toArray,c1,vI ((BG kC kL ([(4:UInt8)])).2.2)]) rfl (AA (AN (vA k6.toArray) rfl rfl (AA (AN (c1) rfl rfl (AA (AN (vI ((BG kC kL ([(4:UInt8)])).2.2)) rfl rfl (AA (DE [vI 0,vI 0,vI 0,nS,nS] NN rfl Q0 fun a1 Q3 Q4 Q5 k7 Q6 G9=>(?_))))))))))
 have h6:GV a0 a1:=by show a0≠a1;have:=b8.lt;omega
 clear Q4
 have a2:=a2.mv k7
 have b6:=b6.mv k7
 have b7:=b7.mv k7
 have h5:Enc.circle.rd Q3 ((a1 :: (a0 :: []))++O) k6 (kX):=Enc.mv Enc.circle (x:=kX) h5 k7
 have a3:=a3.mv k7
 have b8:=b8.keep Q6 (by simp)
 obtain ⟨f8,f9,rfl,a5,a6⟩:=h5
 have:=a5.len_le
 have:=a6.len_le
 refine CB (BF (vs:=[vI kX.epoch,vI kX.threshold,vI kX.wait,f8,f9]) (.agg #[vI kX.epoch,vI kX.threshold,vI kX.wait,f8,f9]) rfl rfl rfl BR (fun u hu=>by simp only [List.mem_cons,List.not_mem_nil,or_false] at hu;rcases hu with rfl|rfl|rfl|rfl|rfl <;> first|rfl|exact a5.oneCell|exact a6.oneCell) (by repeat (constructor)) G9 oT Q5 fun Q7 C3 j2 Q8 a4=>(?_))
 have a2:=a2.mv j2
 have b6:=b6.mv j2
 have b7:=b7.mv j2
 have a3:=a3.mv j2
 have a5:=a5.mv j2
 have a6:=a6.mv j2
 have b8:=b8.keep Q8 (BC h6)
 refine AA (AD (c1) rfl (AA (AD (vI ((BG kC kL ([(4:UInt8)])).2.2)) rfl (AG (AC (AF (AB kR (AA (BW (vs:=[vI kC.epoch,vI kC.threshold,vI kC.wait,d4,d5]) U28_ rfl BR rfl b8 rfl (AA (AZ (vs:=[vA #[vI kC.epoch,vI kC.threshold,vI kC.wait,d4,d5],vI 1]) enter_34 (c_ask (O:=(a1 :: (a0 :: []))++O) [vI kC.epoch,vI kC.threshold,vI kC.wait,d4,d5] kC (1:Int) Q7 ⟨_,_,rfl,b6,b7⟩ C3.lt) rfl C3 fun aK Q9 R0 m3 C4 R1=>(?_))))))))))))
 obtain ⟨o5,rfl,o6⟩:=R1
 have o6:Enc.circle.rd Q9 ((a1 :: (a0 :: []))++O) o5 kA:=o6
 have a2:=a2.mv m3
 have a3:=a3.mv m3
 have a5:=a5.mv m3
 have a6:=a6.mv m3
 have b8:=b8.keep C4 (by simp)
 have a4:=a4.keep C4 (by simp)
 refine AA (AE (vT #[vA o5.toArray,vI ((CJ kC (1:Int)).2.1),vI ((CJ kC (1:Int)).2.2)]) rfl (AA (AN (vA o5.toArray) rfl rfl (AA (AN (vI ((CJ kC (1:Int)).2.1)) rfl rfl (AA (AN (vI ((CJ kC (1:Int)).2.2)) rfl rfl (?_))))))))
 obtain ⟨e7,e8,rfl,e1,e2⟩:=o6
 have:=e1.len_le
 have:=e2.len_le
 refine CB (BF (vs:=[vI kA.epoch,vI kA.threshold,vI kA.wait,e7,e8]) (.agg #[vI kA.epoch,vI kA.threshold,vI kA.wait,e7,e8]) rfl rfl rfl BR (fun u hu=>by simp only [List.mem_cons,List.not_mem_nil,or_false] at hu;rcases hu with rfl|rfl|rfl|rfl|rfl <;> first|rfl|exact e1.oneCell|exact e2.oneCell) (by repeat (constructor)) b8 oT R0 fun R2 C5 j3 R3 e4=>(?_))
 have a2:=a2.mv j3
 have a3:=a3.mv j3
 have a5:=a5.mv j3
 have a6:=a6.mv j3
 have e1:=e1.mv j3
 have e2:=e2.mv j3
 have a4:=a4.keep R3 (BC (Ne.symm h6))
 refine AA (AD (vI ((CJ kC (1:Int)).2.1)) rfl (AA (AD (vI ((CJ kC (1:Int)).2.2)) rfl (AG (AC (AF (AB kR (AA (BW (vs:=[vI kA.epoch,vI kA.threshold,vI kA.wait,e7,e8]) U28_ rfl BR rfl e4 rfl (AA (AE (vI ((CJ kC (1:Int)).2.1)) rfl (AA (AE (b9) rfl (AA (AZ (vs:=[vA #[vI kA.epoch,vI kA.threshold,vI kA.wait,e7,e8],vI ((CJ kC (1:Int)).2.1),b9]) RQ (c_rest (O:=(a1 :: (a0 :: []))++O) [vI kA.epoch,vI kA.threshold,vI kA.wait,e7,e8] kA ((CJ kC (1:Int)).2.1) b9 kL R2 ⟨_,_,rfl,e1,e2⟩ a2 C5.lt) rfl C5 fun aL R4 C6 j4 C7 R5=>(?_))))))))))))))))
 obtain ⟨r6,rfl,H0⟩:=R5
 have:=H0.len_le
 have a2:=a2.mv j4
 have a3:=a3.mv j4
 have a5:=a5.mv j4
 have a6:=a6.mv j4
 have e1:=e1.mv j4
 have e2:=e2.mv j4
 have e4:=e4.keep C7 (by simp)
 have a4:=a4.keep C7 (by simp)
 refine AA (AE (vT #[r6,vI ((CK kA ((CJ kC (1:Int)).2.1) kL).2)]) rfl (AA (AN (r6) rfl rfl (AA (AN (vI ((CK kA ((CJ kC (1:Int)).2.1) kL).2)) rfl rfl (AA (AD (r6) rfl (AA (AD (vI ((CK kA ((CJ kC (1:Int)).2.1) kL).2)) rfl (AG (AC (AF (AB kR (AA (BW (vs:=[vI kA.epoch,vI kA.threshold,vI kA.wait,e7,e8]) U28_ rfl BR rfl e4 rfl (AA (AE (vI ((CJ kC (1:Int)).2.1)) rfl (AA (AZ (vs:=[vA #[vI kA.epoch,vI kA.threshold,vI kA.wait,e7,e8],vI ((CJ kC (1:Int)).2.1),vI 3]) enter_35 (YH (O:=(a1 :: (a0 :: []))++O) [vI kA.epoch,vI kA.threshold,vI kA.wait,e7,e8] kA ((CJ kC (1:Int)).2.1) (3:Int) R4 ⟨_,_,rfl,e1,e2⟩ C6.lt) rfl C6 fun aM R6 R7 m4 C8 R8=>(?_))))))))))))))))))))
 obtain ⟨o7,rfl,o8⟩:=R8
 have o8:Enc.circle.rd R6 ((a1 :: (a0 :: []))++O) o7 OY:=o8
 have a2:=a2.mv m4
 have a3:=a3.mv m4
 have a5:=a5.mv m4
 have a6:=a6.mv m4
 have e4:=e4.keep C8 (by simp)
 have a4:=a4.keep C8 (by simp)
 refine AA (AE (vT #[vA o7.toArray,vI ((CR kA ((CJ kC (1:Int)).2.1) (BS kA (3:Int))).2)]) rfl (AA (AN (vA o7.toArray) rfl rfl (AA (AN (vI ((CR kA ((CJ kC (1:Int)).2.1) (BS kA (3:Int))).2)) rfl rfl (?_))))))
 obtain ⟨k8,k9,rfl,h7,h8⟩:=o8
 have:=h7.len_le
 have:=h8.len_le
 refine CB (BF (vs:=[vI OY.epoch,vI OY.threshold,vI OY.wait,k8,k9]) (.agg #[vI OY.epoch,vI OY.threshold,vI OY.wait,k8,k9]) rfl rfl rfl BR (fun u hu=>by simp only [List.mem_cons,List.not_mem_nil,or_false] at hu;rcases hu with rfl|rfl|rfl|rfl|rfl <;> first|rfl|exact h7.oneCell|exact h8.oneCell) (by repeat (constructor)) e4 oT R7 fun R9 C9 j5 S0 l0=>(?_))
 have a2:=a2.mv j5
 have a3:=a3.mv j5
 have a5:=a5.mv j5
 have a6:=a6.mv j5
 have h7:=h7.mv j5
 have h8:=h8.mv j5
 have a4:=a4.keep S0 (BC (Ne.symm h6))
 refine AA (AD (vI ((CR kA ((CJ kC (1:Int)).2.1) (BS kA (3:Int))).2)) rfl (AG (AC (AF (AB kR (AA (BW (vs:=[vI OY.epoch,vI OY.threshold,vI OY.wait,k8,k9]) U28_ rfl BR rfl l0 rfl (AA (AE (vI ((CJ kC (1:Int)).2.1)) rfl (AA (AZ (vs:=[vA #[vI OY.epoch,vI OY.threshold,vI OY.wait,k8,k9],vI ((CJ kC (1:Int)).2.1),vI 8]) enter_35 (YH (O:=(a1 :: (a0 :: []))++O) [vI OY.epoch,vI OY.threshold,vI OY.wait,k8,k9] OY ((CJ kC (1:Int)).2.1) (8:Int) R9 ⟨_,_,rfl,h7,h8⟩ C9.lt) rfl C9 fun aN S1 S2 m5 D0 S3=>(?_))))))))))))
 obtain ⟨o9,rfl,p0⟩:=S3
 have p0:Enc.circle.rd S1 ((a1 :: (a0 :: []))++O) o9 PJ:=p0
 have a2:=a2.mv m5
 have a3:=a3.mv m5
 have a5:=a5.mv m5
 have a6:=a6.mv m5
 have l0:=l0.keep D0 (by simp)
 have a4:=a4.keep D0 (by simp)
 refine AA (AE (vT #[vA o9.toArray,vI ((CR OY ((CJ kC (1:Int)).2.1) (BS OY (8:Int))).2)]) rfl (AA (AN (vA o9.toArray) rfl rfl (AA (AN (vI ((CR OY ((CJ kC (1:Int)).2.1) (BS OY (8:Int))).2)) rfl rfl (?_))))))
 obtain ⟨l1,l2,rfl,h9,i0⟩:=p0
 have:=h9.len_le
 have:=i0.len_le
 refine CB (BF (vs:=[vI PJ.epoch,vI PJ.threshold,vI PJ.wait,l1,l2]) (.agg #[vI PJ.epoch,vI PJ.threshold,vI PJ.wait,l1,l2]) rfl rfl rfl BR (fun u hu=>by simp only [List.mem_cons,List.not_mem_nil,or_false] at hu;rcases hu with rfl|rfl|rfl|rfl|rfl <;> first|rfl|exact h9.oneCell|exact i0.oneCell) (by repeat (constructor)) l0 oT S2 fun S4 D1 j6 S5 l3=>(?_))
 have a2:=a2.mv j6
 have a3:=a3.mv j6
 have a5:=a5.mv j6
 have a6:=a6.mv j6
 have h9:=h9.mv j6
 have i0:=i0.mv j6
 have a4:=a4.keep S5 (BC (Ne.symm h6))
 refine AA (AD (vI ((CR OY ((CJ kC (1:Int)).2.1) (BS OY (8:Int))).2)) rfl (AG (AC (AF (AB kR (AA (BW (vs:=[vI PJ.epoch,vI PJ.threshold,vI PJ.wait,l1,l2]) U28_ rfl BR rfl l3 rfl (AA (AE (vI ((CJ kC (1:Int)).2.1)) rfl (AA (AZ (vs:=[vA #[vI PJ.epoch,vI PJ.threshold,vI PJ.wait,l1,l2],vI ((CJ kC (1:Int)).2.1),vI 1]) enter_38 (c_finish (O:=(a1 :: (a0 :: []))++O) [vI PJ.epoch,vI PJ.threshold,vI PJ.wait,l1,l2] PJ ((CJ kC (1:Int)).2.1) (1:Int) S4 ⟨_,_,rfl,h9,i0⟩ D1.lt) rfl D1 fun aO S6 S7 m6 D2 S8=>(?_))))))))))))
 obtain ⟨p1,rfl,p2⟩:=S8
 have p2:Enc.circle.rd S6 ((a1 :: (a0 :: []))++O) p1 DW:=p2
 have a2:=a2.mv m6
 have a3:=a3.mv m6
 have a5:=a5.mv m6
 have a6:=a6.mv m6
 have l3:=l3.keep D2 (by simp)
 have a4:=a4.keep D2 (by simp)
 refine AA (AE (vT #[vA p1.toArray,vI ((CR PJ ((CJ kC (1:Int)).2.1) (CH PJ (1:Int))).2)]) rfl (AA (AN (vA p1.toArray) rfl rfl (AA (AN (vI ((CR PJ ((CJ kC (1:Int)).2.1) (CH PJ (1:Int))).2)) rfl rfl (?_))))))
 obtain ⟨c2,c3,rfl,a8,a9⟩:=p2
 have:=a8.len_le
 have:=a9.len_le
 refine CB (BF (vs:=[vI DW.epoch,vI DW.threshold,vI DW.wait,c2,c3]) (.agg #[vI DW.epoch,vI DW.threshold,vI DW.wait,c2,c3]) rfl rfl rfl BR (fun u hu=>by simp only [List.mem_cons,List.not_mem_nil,or_false] at hu;rcases hu with rfl|rfl|rfl|rfl|rfl <;> first|rfl|exact a8.oneCell|exact a9.oneCell) (by repeat (constructor)) l3 oT S7 fun S9 T0 j7 T1 a7=>(?_))
 have a2:=a2.mv j7
 have a3:=a3.mv j7
 have a5:=a5.mv j7
 have a6:=a6.mv j7
 have a8:=a8.mv j7
 have a9:=a9.mv j7
 have a4:=a4.keep T1 (BC (Ne.symm h6))
 refine AA (AD (vI ((CR PJ ((CJ kC (1:Int)).2.1) (CH PJ (1:Int))).2)) rfl (AG (AC (AF (AF (AB kR (AA (AE (vI ((MF ([(3:Int),(5:Int),(8:Int)]) (2:Int) (0:Int)).2)) rfl (AA (CT .i64 ((MF ([(3:Int),(5:Int),(8:Int)]) (2:Int) (0:Int)).2) (0:Int) rfl rfl (AA (AE (vO (((MF ([(3:Int),(5:Int),(8:Int)]) (2:Int) (0:Int)).2) != (0:Int))) rfl (?_)))))))))))))
 have H1:(((MF ([(3:Int),(5:Int),(8:Int)]) (2:Int) (0:Int)).2) != (0:Int))=false:=(by decide +kernel)
 rw [H1]
 refine BJ rfl (AE (vI ((DN kC ([(7:UInt8)]) ([(9:UInt8)])).2)) rfl (BJ rfl (CT .i64 ((DN kC ([(7:UInt8)]) ([(9:UInt8)])).2) (0:Int) rfl rfl (AA (BX (vO (((DN kC ([(7:UInt8)]) ([(9:UInt8)])).2) != (0:Int))) rfl rfl (AA (AE (vO (((DN kC ([(7:UInt8)]) ([(9:UInt8)])).2) != (0:Int))) rfl (?_))))))))
 have H2:(((DN kC ([(7:UInt8)]) ([(9:UInt8)])).2) != (0:Int))=false:=(by decide +kernel)
 rw [H2]
 refine BJ rfl (AE (vI ((BG kC kL ([(4:UInt8)])).2.2)) rfl (BJ rfl (CT .i64 ((BG kC kL ([(4:UInt8)])).2.2) (0:Int) rfl rfl (AA (BX (vO (((BG kC kL ([(4:UInt8)])).2.2) != (0:Int))) rfl rfl (AA (AE (vO (((BG kC kL ([(4:UInt8)])).2.2) != (0:Int))) rfl (?_))))))))
 have H3:(((BG kC kL ([(4:UInt8)])).2.2) != (0:Int))=false:=(by decide +kernel)
 rw [H3]
 refine BJ rfl (AE (vI ((CJ kC (1:Int)).2.2)) rfl (BJ rfl (CT .i64 ((CJ kC (1:Int)).2.2) (0:Int) rfl rfl (AA (BX (vO (((CJ kC (1:Int)).2.2) != (0:Int))) rfl rfl (AA (AE (vO (((CJ kC (1:Int)).2.2) != (0:Int))) rfl (?_))))))))
 have H4:(((CJ kC (1:Int)).2.2) != (0:Int))=false:=(by decide +kernel)
 rw [H4]
 refine BJ rfl (AE (vI ((CR kA ((CJ kC (1:Int)).2.1) (BS kA (3:Int))).2)) rfl (BJ rfl (CT .i64 ((CR kA ((CJ kC (1:Int)).2.1) (BS kA (3:Int))).2) (0:Int) rfl rfl (AA (BX (vO (((CR kA ((CJ kC (1:Int)).2.1) (BS kA (3:Int))).2) != (0:Int))) rfl rfl (AA (AE (vO (((CR kA ((CJ kC (1:Int)).2.1) (BS kA (3:Int))).2) != (0:Int))) rfl (?_))))))))
 have H5:(((CR kA ((CJ kC (1:Int)).2.1) (BS kA (3:Int))).2) != (0:Int))=false:=(by decide +kernel)
 rw [H5]
 refine BJ rfl (AE (vI ((CR OY ((CJ kC (1:Int)).2.1) (BS OY (8:Int))).2)) rfl (BJ rfl (CT .i64 ((CR OY ((CJ kC (1:Int)).2.1) (BS OY (8:Int))).2) (0:Int) rfl rfl (AA (BX (vO (((CR OY ((CJ kC (1:Int)).2.1) (BS OY (8:Int))).2) != (0:Int))) rfl rfl (AA (AE (vO (((CR OY ((CJ kC (1:Int)).2.1) (BS OY (8:Int))).2) != (0:Int))) rfl (?_))))))))
 have H6:(((CR OY ((CJ kC (1:Int)).2.1) (BS OY (8:Int))).2) != (0:Int))=false:=(by decide +kernel)
 rw [H6]
 refine BJ rfl (AE (vI ((CR PJ ((CJ kC (1:Int)).2.1) (CH PJ (1:Int))).2)) rfl (BJ rfl (CT .i64 ((CR PJ ((CJ kC (1:Int)).2.1) (CH PJ (1:Int))).2) (0:Int) rfl rfl (AA (BX (vO (((CR PJ ((CJ kC (1:Int)).2.1) (CH PJ (1:Int))).2) != (0:Int))) rfl rfl (AA (AE (vO (((CR PJ ((CJ kC (1:Int)).2.1) (CH PJ (1:Int))).2) != (0:Int))) rfl (?_))))))))
 have H7:(((CR PJ ((CJ kC (1:Int)).2.1) (CH PJ (1:Int))).2) != (0:Int))=false:=(by decide +kernel)
 rw [H7]
 refine BJ rfl (AE (b9) rfl (BJ rfl (CA U32_ rfl a2 (BJ rfl (CT .i64 (kL.length:Int) (3:Int) rfl rfl (AA (BX (vO ((kL.length:Int) != (3:Int))) rfl rfl (AA (AE (vO ((kL.length:Int) != (3:Int))) rfl (?_))))))))))
 have H8:((kL.length:Int) != (3:Int))=false:=(by decide +kernel)
 rw [H8]
 refine BJ rfl (AE (c1) rfl (BJ rfl (CA U32_ rfl a3 (BJ rfl (CT .i64 (((BG kC kL ([(4:UInt8)])).2.1).length:Int) (3:Int) rfl rfl (AA (BX (vO ((((BG kC kL ([(4:UInt8)])).2.1).length:Int) != (3:Int))) rfl rfl (AG (AC (?_))))))))))
 have H9:((((BG kC kL ([(4:UInt8)])).2.1).length:Int) != (3:Int))=false:=(by decide +kernel)
 rw [H9]
 refine AJ false rfl rfl (fun h=>by cases h) (fun _=>AO (AC (AF (FJ 4 _ _ kR kR kR kR kR rfl rfl fun D3 m7=>?_))))
 have D4:=T0.call m7
 have j8:Mv (a1 :: (a0 :: [])) S9 (a1 :: (a0 :: [])) D3:=Mv.of_keep m7
 have a2:=a2.mv j8
 have a3:=a3.mv j8
 have a5:=a5.mv j8
 have a6:=a6.mv j8
 have a8:=a8.mv j8
 have a9:=a9.mv j8
 have a7:=a7.keep m7 (by simp)
 have a4:=a4.keep m7 (by simp)
 refine BM (BW (vs:=[vI DW.epoch,vI DW.threshold,vI DW.wait,c2,c3]) U28_ rfl BR rfl a7 rfl (BM (AE (vI ((CJ kC (1:Int)).2.1)) rfl (BM (AE (b9) rfl (BM (NG U32_ CZ 1 kL.length rfl (.inr ⟨.const (vI 1), .i64,(1:Int),rfl,rfl,rfl⟩) (.inl ⟨rfl,rfl⟩) (by decide +kernel) (by decide +kernel) a2 fun D5 v0=>(?_))))))))
 rw [List.take_length] at v0
 refine EQ (AA (AZ (vs:=[vA #[vI DW.epoch,vI DW.threshold,vI DW.wait,c2,c3],vI ((CJ kC (1:Int)).2.1),D5]) RQ (c_rest (O:=(a1 :: (a0 :: []))++O) [vI DW.epoch,vI DW.threshold,vI DW.wait,c2,c3] DW ((CJ kC (1:Int)).2.1) D5 (kL.drop 1) D3 ⟨_,_,rfl,a8,a9⟩ v0 D4.lt) rfl D4 fun aP T2 T3 j9 D6 T4=>(?_)))
 obtain ⟨d6,rfl,b0⟩:=T4
 have:=b0.len_le
 have a2:=a2.mv j9
 have a3:=a3.mv j9
 have a5:=a5.mv j9
 have a6:=a6.mv j9
 have a8:=a8.mv j9
 have a9:=a9.mv j9
 have a7:=a7.keep D6 (by simp)
 have a4:=a4.keep D6 (by simp)
 refine AA (AE (vT #[d6,vI ((CK DW ((CJ kC (1:Int)).2.1) (kL.drop 1)).2)]) rfl (AA (AN (d6) rfl rfl (AA (AN (vI ((CK DW ((CJ kC (1:Int)).2.1) (kL.drop 1)).2)) rfl rfl (AA (AD (d6) rfl (AA (AD (vI ((CK DW ((CJ kC (1:Int)).2.1) (kL.drop 1)).2)) rfl (AG (AC (AF (FJ 4 _ _ kR kR kR kR kR rfl rfl fun D7 m9=>?_)))))))))))))
 have D8:=T3.call m9
 have g0:Mv (a1 :: (a0 :: [])) T2 (a1 :: (a0 :: [])) D7:=Mv.of_keep m9
 have a2:=a2.mv g0
 have a3:=a3.mv g0
 have b0:=b0.mv g0
 have a5:=a5.mv g0
 have a6:=a6.mv g0
 have a8:=a8.mv g0
 have a9:=a9.mv g0
 have a7:=a7.keep m9 (by simp)
 have a4:=a4.keep m9 (by simp)
 refine BM (BW (vs:=[vI DW.epoch,vI DW.threshold,vI DW.wait,c2,c3]) U28_ rfl BR rfl a7 rfl (BM (AE (vI ((CJ kC (1:Int)).2.1)) rfl (BM (AE (c1) rfl (BM (NG U32_ CZ 1 (((BG kC kL ([(4:UInt8)])).2.1).length) rfl (.inr ⟨.const (vI 1), .i64,(1:Int),rfl,rfl,rfl⟩) (.inl ⟨rfl,rfl⟩) (by decide +kernel) (by decide +kernel) a3 fun D9 v1=>(?_))))))))
 rw [List.take_length] at v1
 refine EQ (AA (AZ (vs:=[vA #[vI DW.epoch,vI DW.threshold,vI DW.wait,c2,c3],vI ((CJ kC (1:Int)).2.1),D9]) RQ (c_rest (O:=(a1 :: (a0 :: []))++O) [vI DW.epoch,vI DW.threshold,vI DW.wait,c2,c3] DW ((CJ kC (1:Int)).2.1) D9 (((BG kC kL ([(4:UInt8)])).2.1).drop 1) D7 ⟨_,_,rfl,a8,a9⟩ v1 D8.lt) rfl D8 fun aQ b5 g1 g2 E0 T5=>(?_)))
 obtain ⟨r7,rfl,I0⟩:=T5
 have:=I0.len_le
 have a2:=a2.mv g2
 have a3:=a3.mv g2
 have b0:=b0.mv g2
 have a5:=a5.mv g2
 have a6:=a6.mv g2
 have a8:=a8.mv g2
 have a9:=a9.mv g2
 have a7:=a7.keep E0 (by simp)
 have a4:=a4.keep E0 (by simp)
 refine AA (AE (vT #[r7,vI ((CK DW ((CJ kC (1:Int)).2.1) (((BG kC kL ([(4:UInt8)])).2.1).drop 1)).2)]) rfl (AA (AN (r7) rfl rfl (AA (AN (vI ((CK DW ((CJ kC (1:Int)).2.1) (((BG kC kL ([(4:UInt8)])).2.1).drop 1)).2)) rfl rfl (AA (AD (r7) rfl (AA (AD (vI ((CK DW ((CJ kC (1:Int)).2.1) (((BG kC kL ([(4:UInt8)])).2.1).drop 1)).2)) rfl (AG (AC (cw_cut (fun FI wI=>∃ (c4:Nat) (f1:Value) (f2:Value) (d3:Value) (B:List Nat),True∧(∃ F1,FI=FR F1 [(1,vP (some ⟨a0,0,none⟩)),(3,b9),(5,vP (some ⟨a1,0,none⟩)),(6,c1),(11,vI ((CK kA ((CJ kC (1:Int)).2.1) kL).2)),(15,d6),(16,vI ((CK DW ((CJ kC (1:Int)).2.1) (kL.drop 1)).2)),(18,vI ((CK DW ((CJ kC (1:Int)).2.1) (((BG kC kL ([(4:UInt8)])).2.1).drop 1)).2)),(19,vP (some ⟨c4,0,none⟩)),(20,d3),(21,vI kE),(252,undef)])∧St w O wI B∧BB Enc.share wI (B++O) d3 (kW)∧BB Enc.share wI (B++O) (b9) (kL)∧BB Enc.share wI (B++O) (c1) ((BG kC kL ([(4:UInt8)])).2.1)∧BB Enc.u8 wI (B++O) (d6) ((CK DW ((CJ kC (1:Int)).2.1) (kL.drop 1)).1)∧BB Enc.int wI (B++O) (c2) (DW.guardians)∧BB Enc.recovery wI (B++O) (c3) (DW.recs)∧IB wI a0 28 [vI DW.epoch,vI DW.threshold,vI DW.wait,c2,c3]∧a0∈B∧BB Enc.int wI (B++O) (f8) (kX.guardians)∧BB Enc.recovery wI (B++O) (f9) (kX.recs)∧IB wI a1 28 [vI kX.epoch,vI kX.threshold,vI kX.wait,f8,f9]∧a1∈B∧IB wI c4 28 [vI kZ.epoch,vI kZ.threshold,vI kZ.wait,f1,f2]∧BB Enc.int wI (B++O) f1 (kZ.guardians)∧BB Enc.recovery wI (B++O) f2 (kZ.recs)∧c4∈B∧GV a0 c4∧GV a1 c4) ?_ ?_))))))))))))
 ·refine cw_drawUN 10 [7,8] [[7],[8],[7,8]] (by intro c F d v w hd;simp only [SI,QT];exact qp_end c F d v w hd) _ _ _ [fun _=>DZ (vA #[vI DW.epoch,vI DW.threshold,vI DW.wait,c2,c3]),fun _=>fun (vT:Value) (_:World)=>BB Enc.share b5 ((a1 :: (a0 :: []))++O) vT (kL),fun _=>fun (vT:Value) (_:World)=>BB Enc.share b5 ((a1 :: (a0 :: []))++O) vT ((kL.take 2)),fun (BT:List Nat) (vT:Value) (wT:World)=>BB Enc.int wT (BT++O) vT ([(4:Int)]),fun (BT:List Nat) (vT:Value) (wT:World)=>∃ (xT0:List Value) (xT1:Value),vT = .tuple #[.agg xT0.toArray,xT1,vI ((AV DW (kL.take 2) ([(4:Int)]) (1:Int) ([])).2.2)]∧Enc.circle.rd wT (BT++O) xT0 (kZ)∧BB Enc.share wT (BT++O) xT1 ((AV DW (kL.take 2) ([(4:Int)]) (1:Int) ([])).2.1),fun (BT:List Nat) (vT:Value) (wT:World)=>∃ (xT0:List Value) (xT1:Value),vT = .tuple #[.agg xT0.toArray,xT1,vI ((AV DW (kL.take 2) ([(4:Int)]) (1:Int) ([])).2.2)]∧Enc.circle.rd wT (BT++O) xT0 (kZ)∧BB Enc.share wT (BT++O) xT1 ((AV DW (kL.take 2) ([(4:Int)]) (1:Int) ([])).2.1),fun (BT:List Nat) (vT:Value) (wT:World)=>∃ csT:List Value,vT = .agg csT.toArray∧Enc.circle.rd wT (BT++O) csT (kZ),fun (BT:List Nat) (vT:Value) (wT:World)=>BB Enc.share wT (BT++O) vT ((AV DW (kL.take 2) ([(4:Int)]) (1:Int) ([])).2.1),fun _=>DZ (vI ((AV DW (kL.take 2) ([(4:Int)]) (1:Int) ([])).2.2)),UA b5 28 [vI 0,vI 0,vI 0,nS,nS]] [⟨0,[],[],[],false,[]⟩,⟨0,[],[],[],false,[]⟩,⟨0,[],[],[],false,[1]⟩,⟨1,[],[],[],false,[]⟩,⟨1,[1],[],[],false,[0,2,3]⟩,⟨1,[1],[],[],false,[4]⟩,⟨1,[1],[],[],false,[5]⟩,⟨1,[1],[],[],false,[5]⟩,⟨0,[1],[],[],false,[5]⟩,⟨2,[],[],[],false,[]⟩] (a1 :: (a0 :: [])) kR kR kR kR kR (by decide) rfl rfl rfl ⟨fun _ _ _ _ _ h=>h,fun _ _ _ _ _ h=>h,fun _ _ _ _ _ h=>h,(show ∀ B B2 v w w2,(fun (BT:List Nat) (vT:Value) (wT:World)=>BB Enc.int wT (BT++O) vT ([(4:Int)])) B v w→Mv B w B2 w2→(fun (BT:List Nat) (vT:Value) (wT:World)=>BB Enc.int wT (BT++O) vT ([(4:Int)])) B2 v w2 from fun _ _ _ _ _ h m=>h.mv m),(show ∀ B B2 v w w2,(fun (BT:List Nat) (vT:Value) (wT:World)=>∃ (xT0:List Value) (xT1:Value),vT = .tuple #[.agg xT0.toArray,xT1,vI ((AV DW (kL.take 2) ([(4:Int)]) (1:Int) ([])).2.2)]∧Enc.circle.rd wT (BT++O) xT0 (kZ)∧BB Enc.share wT (BT++O) xT1 ((AV DW (kL.take 2) ([(4:Int)]) (1:Int) ([])).2.1)) B v w→Mv B w B2 w2→(fun (BT:List Nat) (vT:Value) (wT:World)=>∃ (xT0:List Value) (xT1:Value),vT = .tuple #[.agg xT0.toArray,xT1,vI ((AV DW (kL.take 2) ([(4:Int)]) (1:Int) ([])).2.2)]∧Enc.circle.rd wT (BT++O) xT0 (kZ)∧BB Enc.share wT (BT++O) xT1 ((AV DW (kL.take 2) ([(4:Int)]) (1:Int) ([])).2.1)) B2 v w2 from fun _ _ _ _ _ ⟨y0,y1,e,h0,h1⟩ m=>⟨y0,y1,e,Enc.mv _ h0 m,h1.mv m⟩),(show ∀ B B2 v w w2,(fun (BT:List Nat) (vT:Value) (wT:World)=>∃ (xT0:List Value) (xT1:Value),vT = .tuple #[.agg xT0.toArray,xT1,vI ((AV DW (kL.take 2) ([(4:Int)]) (1:Int) ([])).2.2)]∧Enc.circle.rd wT (BT++O) xT0 (kZ)∧BB Enc.share wT (BT++O) xT1 ((AV DW (kL.take 2) ([(4:Int)]) (1:Int) ([])).2.1)) B v w→Mv B w B2 w2→(fun (BT:List Nat) (vT:Value) (wT:World)=>∃ (xT0:List Value) (xT1:Value),vT = .tuple #[.agg xT0.toArray,xT1,vI ((AV DW (kL.take 2) ([(4:Int)]) (1:Int) ([])).2.2)]∧Enc.circle.rd wT (BT++O) xT0 (kZ)∧BB Enc.share wT (BT++O) xT1 ((AV DW (kL.take 2) ([(4:Int)]) (1:Int) ([])).2.1)) B2 v w2 from fun _ _ _ _ _ ⟨y0,y1,e,h0,h1⟩ m=>⟨y0,y1,e,Enc.mv _ h0 m,h1.mv m⟩),(show ∀ B B2 v w w2,(fun (BT:List Nat) (vT:Value) (wT:World)=>∃ csT:List Value,vT = .agg csT.toArray∧Enc.circle.rd wT (BT++O) csT (kZ)) B v w→Mv B w B2 w2→(fun (BT:List Nat) (vT:Value) (wT:World)=>∃ csT:List Value,vT = .agg csT.toArray∧Enc.circle.rd wT (BT++O) csT (kZ)) B2 v w2 from fun _ _ _ _ _ ⟨a,e,h⟩ m=>⟨a,e,Enc.mv _ h m⟩),(show ∀ B B2 v w w2,(fun (BT:List Nat) (vT:Value) (wT:World)=>BB Enc.share wT (BT++O) vT ((AV DW (kL.take 2) ([(4:Int)]) (1:Int) ([])).2.1)) B v w→Mv B w B2 w2→(fun (BT:List Nat) (vT:Value) (wT:World)=>BB Enc.share wT (BT++O) vT ((AV DW (kL.take 2) ([(4:Int)]) (1:Int) ([])).2.1)) B2 v w2 from fun _ _ _ _ _ h m=>h.mv m),fun _ _ _ _ _ h=>h,UA.st,trivial⟩ ⟨?_,?_,?_,?_,?_,?_,?_,?_,?_,?_,trivial⟩ ?_ ?_
  ·intro F1 w1 B1_ Bs_ k1 hs_ hl_ hr_ hsep_ hf hd
   have k0:=(Keep.drew [] b5).trans k1
   have a7:=a7.keep k0 (by simp)
   obtain ⟨F2,rfl⟩:=AL (F:=F1) [(1,vP (some ⟨a0,0,none⟩))] ⟨hf 1 kR,trivial⟩
   exact AH rfl ((BW (vs:=[vI DW.epoch,vI DW.threshold,vI DW.wait,c2,c3]) U28_ rfl BR rfl a7 rfl (⟨[],(Keep.refl _ _),QB,rfl⟩)))
  ·intro F1 w1 B1_ Bs_ k1 hs_ hl_ hr_ hsep_ hf hd
   obtain ⟨F2,rfl⟩:=AL (F:=F1) [(3,b9)] ⟨hf 3 kR,trivial⟩
   exact AH rfl ((AE (b9) rfl (⟨[],(Keep.refl _ _),QB,a2⟩)))
  ·intro F1 w1 B1_ Bs_ k1 hs_ hl_ hr_ hsep_ hf hd
   obtain ⟨T6,T7,v2⟩:∃ v,F1 138=v∧BB Enc.share b5 ((a1 :: (a0 :: []))++O) v (kL):=⟨_,rfl,hd 1 138 kR kR⟩
   have:=v2.len_le
   obtain ⟨F2,rfl⟩:=AL (F:=F1) [(138,T6)] ⟨T7,trivial⟩
   refine AH rfl ((XR U32_ CZ 0 2 rfl (.inl ⟨rfl,rfl⟩) (.inr ⟨.const (vI 2), .i64,(2:Int),rfl,rfl,rfl⟩) (by decide +kernel) (by decide +kernel) v2 fun aR v3=>(?_)))
   rw [List.drop_zero] at v3
   exact ⟨[],(Keep.refl _ _),QB,v3⟩
  ·intro F1 w1 B1_ Bs_ k1 hs_ hl_ hr_ hsep_ hf hd
   have k0:=(Keep.drew [] b5).trans k1
   have s1:=g1.adoptL k0 hl_
   obtain ⟨F2,rfl⟩:=AL (F:=F1) [] trivial
   refine AH rfl ((GZ (E:=Enc.int) (xs:=[.const (vI 4)]) U22_ OV z_3 (by decide) [vI 4] [[vI 4]] [(4:Int)] rfl rfl rfl (Parts.cons rfl rfl (Parts.nil _ _ _)) oT s1 fun aT aU aV aW T8 v4=>(?_)))
   have:=v4.len_le
   exact ⟨[],T8,QB,v4⟩
  ·intro F1 w1 B1_ Bs_ k1 hs_ hl_ hr_ hsep_ hf hd
   have k0:=(Keep.drew [] b5).trans k1
   have s1:=g1.adoptL k0 hl_
   have m1:Mv (a1 :: (a0 :: [])) b5 B1_ w1:=Mv.adoptL k0 hl_
   have a8:=a8.mv m1
   have a9:=a9.mv m1
   obtain ⟨r8,T9,l4⟩:∃ v,F1 139=v∧BB Enc.share b5 ((a1 :: (a0 :: []))++O) v ((kL.take 2)):=⟨_,rfl,hd 2 139 kR kR⟩
   have:=l4.len_le
   have l4:=l4.mv m1
   obtain ⟨r9,U0,l5⟩:∃ v,F1 140=v∧BB Enc.int w1 ((Bs_ 1)++O) v ([(4:Int)]):=⟨_,rfl,hd 3 140 kR kR⟩
   have:=l5.len_le
   have l5:=l5.mv (Mv.at_ (hr_ 1 kR))
   obtain ⟨F2,rfl⟩:=AL (F:=F1) [(137,vA #[vI DW.epoch,vI DW.threshold,vI DW.wait,c2,c3]),(139,r8),(140,r9)] ⟨hd 0 137 kR kR,T9,U0,trivial⟩
   refine AH rfl ((AZ (vs:=[vA #[vI DW.epoch,vI DW.threshold,vI DW.wait,c2,c3],r8,r9,vI 1,nS]) enter_28 (c_replace (O:=B1_++O) [vI DW.epoch,vI DW.threshold,vI DW.wait,c2,c3] DW r8 (kL.take 2) r9 ([(4:Int)]) (1:Int) (.slice none 0 0) [] w1 ⟨_,_,rfl,a8,a9⟩ l4 l5 (BB.nil _ _ _) (by decide +kernel) s1.lt) rfl s1 fun aX U1 aY aZ U2 U3=>(?_)))
   obtain ⟨v5,U4,rfl,p3,v6⟩:=U3
   have:=v6.len_le
   have p3:Enc.circle.rd U1 (B1_++O) v5 kZ:=p3
   exact ⟨[],U2,QB,⟨v5,U4,rfl,p3,v6⟩⟩
  ·intro F1 w1 B1_ Bs_ k1 hs_ hl_ hr_ hsep_ hf hd
   obtain ⟨l6,s2,U5,p4,l7⟩:(fun (vT:Value) (wT:World)=>∃ (xT0:List Value) (xT1:Value),vT = .tuple #[.agg xT0.toArray,xT1,vI ((AV DW (kL.take 2) ([(4:Int)]) (1:Int) ([])).2.2)]∧Enc.circle.rd wT ((Bs_ 1)++O) xT0 (kZ)∧BB Enc.share wT ((Bs_ 1)++O) xT1 ((AV DW (kL.take 2) ([(4:Int)]) (1:Int) ([])).2.1)) (F1 141) w1:=hd 4 141 kR kR
   have:=l7.len_le
   have p4:Enc.circle.rd w1 (B1_++O) l6 (kZ):=Enc.mv Enc.circle (x:=kZ) p4 (Mv.at_ (hr_ 1 kR))
   have l7:=l7.mv (Mv.at_ (hr_ 1 kR))
   obtain ⟨F2,rfl⟩:=AL (F:=F1) [(141,vT #[vA l6.toArray,s2,vI ((AV DW (kL.take 2) ([(4:Int)]) (1:Int) ([])).2.2)])] ⟨U5,trivial⟩
   exact AH rfl ((AE (vT #[vA l6.toArray,s2,vI ((AV DW (kL.take 2) ([(4:Int)]) (1:Int) ([])).2.2)]) rfl (⟨[],(Keep.refl _ _),QB,⟨l6,s2,rfl,p4,l7⟩⟩)))
  ·intro F1 w1 B1_ Bs_ k1 hs_ hl_ hr_ hsep_ hf hd
   obtain ⟨l8,U6,U7,p5,I1⟩:(fun (vT:Value) (wT:World)=>∃ (xT0:List Value) (xT1:Value),vT = .tuple #[.agg xT0.toArray,xT1,vI ((AV DW (kL.take 2) ([(4:Int)]) (1:Int) ([])).2.2)]∧Enc.circle.rd wT ((Bs_ 1)++O) xT0 (kZ)∧BB Enc.share wT ((Bs_ 1)++O) xT1 ((AV DW (kL.take 2) ([(4:Int)]) (1:Int) ([])).2.1)) (F1 136) w1:=hd 5 136 kR kR
   have:=I1.len_le
   have p5:Enc.circle.rd w1 (B1_++O) l8 (kZ):=Enc.mv Enc.circle (x:=kZ) p5 (Mv.at_ (hr_ 1 kR))
   obtain ⟨F2,rfl⟩:=AL (F:=F1) [(136,vT #[vA l8.toArray,U6,vI ((AV DW (kL.take 2) ([(4:Int)]) (1:Int) ([])).2.2)])] ⟨U7,trivial⟩
   exact AH rfl ((AN (vA l8.toArray) rfl rfl (⟨[],(Keep.refl _ _),QB,⟨l8,rfl,p5⟩⟩)))
  ·intro F1 w1 B1_ Bs_ k1 hs_ hl_ hr_ hsep_ hf hd
   obtain ⟨I2,E1,U8,ak,l9⟩:(fun (vT:Value) (wT:World)=>∃ (xT0:List Value) (xT1:Value),vT = .tuple #[.agg xT0.toArray,xT1,vI ((AV DW (kL.take 2) ([(4:Int)]) (1:Int) ([])).2.2)]∧Enc.circle.rd wT ((Bs_ 1)++O) xT0 (kZ)∧BB Enc.share wT ((Bs_ 1)++O) xT1 ((AV DW (kL.take 2) ([(4:Int)]) (1:Int) ([])).2.1)) (F1 136) w1:=hd 5 136 kR kR
   have:=l9.len_le
   have l9:=l9.mv (Mv.at_ (hr_ 1 kR))
   obtain ⟨F2,rfl⟩:=AL (F:=F1) [(136,vT #[vA I2.toArray,E1,vI ((AV DW (kL.take 2) ([(4:Int)]) (1:Int) ([])).2.2)])] ⟨U8,trivial⟩
   exact AH rfl ((AN (E1) rfl rfl (⟨[],(Keep.refl _ _),QB,l9⟩)))
  ·intro F1 w1 B1_ Bs_ k1 hs_ hl_ hr_ hsep_ hf hd
   obtain ⟨I3,U9,V0,al,I4⟩:(fun (vT:Value) (wT:World)=>∃ (xT0:List Value) (xT1:Value),vT = .tuple #[.agg xT0.toArray,xT1,vI ((AV DW (kL.take 2) ([(4:Int)]) (1:Int) ([])).2.2)]∧Enc.circle.rd wT ((Bs_ 1)++O) xT0 (kZ)∧BB Enc.share wT ((Bs_ 1)++O) xT1 ((AV DW (kL.take 2) ([(4:Int)]) (1:Int) ([])).2.1)) (F1 136) w1:=hd 5 136 kR kR
   have:=I4.len_le
   obtain ⟨F2,rfl⟩:=AL (F:=F1) [(136,vT #[vA I3.toArray,U9,vI ((AV DW (kL.take 2) ([(4:Int)]) (1:Int) ([])).2.2)])] ⟨V0,trivial⟩
   exact AH rfl ((AN (vI ((AV DW (kL.take 2) ([(4:Int)]) (1:Int) ([])).2.2)) rfl rfl (⟨[],(Keep.refl _ _),QB,rfl⟩)))
  ·intro F1 w1 B1_ Bs_ k1 hs_ hl_ hr_ hsep_ hf hd
   have k0:=(Keep.drew [] b5).trans k1
   have s1:=g1.adoptL k0 hl_
   obtain ⟨F2,rfl⟩:=AL (F:=F1) [] trivial
   refine AH rfl ((DE [vI 0,vI 0,vI 0,nS,nS] NN rfl s1 fun V1 ba bb bc bd V2 I5=>(?_)))
   have I6:b5.heap.size≤V1:=by have:=k0.size;omega
   exact ⟨[],V2,QB,⟨_,rfl,I6,(by intro h;have:=lt_of s1 _ h;omega),I5⟩⟩
  ·intro n2 g3 f3 n3 p6 I7 q9 i1 c5
   obtain ⟨c9,V3,v7,I8,v8⟩:(UA b5 28 [vI 0,vI 0,vI 0,nS,nS]) (f3 2) (n2 19) g3:=i1 9 19 kR (by decide) kR kR
   have v9:=v8.lt
   have I9:∀ x∈(a1 :: (a0 :: [])),x∈(a1 :: (a0 :: []))∨(b5.heap.size≤x∧x<g3.heap.size):=fun x hx=>.inl hx
   have G3:∀ x∈(a1 :: (a0 :: [])),x∈(a1 :: (a0 :: [])):=fun x hx=>hx
   have J0:∀ x∈(a1 :: (a0 :: [])),x∈f3 1:=fun x hx=>p6 1 x hx
   have am:∀ x∈(a1 :: (a0 :: [])),x∈f3 2:=fun x hx=>p6 2 x hx
   have w0:∀ x∈(c9 :: (a1 :: (a0 :: []))),x∈(a1 :: (a0 :: []))∨(b5.heap.size≤x∧x<g3.heap.size):=fun x hx=>by rcases List.mem_cons.1 hx with rfl|hx;exact .inr ⟨v7,v9⟩;exact I9 x hx
   have ag:∀ x∈(a1 :: (a0 :: [])),x∈(c9 :: (a1 :: (a0 :: []))):=fun x hx=>List.mem_cons_of_mem _ (G3 x hx)
   have w3:∀ x∈(c9 :: (a1 :: (a0 :: []))),x∈f3 1:=fun x hx=>by rcases List.mem_cons.1 hx with rfl|hx;exact q9 2 1 _ (by decide) v7 v9 I8;exact J0 x hx
   have V4:=g1.adoptL n3 w0
   have g4:Mv (a1 :: (a0 :: [])) b5 (c9 :: (a1 :: (a0 :: []))) g3:=Mv.adoptL n3 w0
   have w4:GV a0 c9:=by show a0≠c9;have:=a7.lt;omega
   have w5:GV a1 c9:=by show a1≠c9;have:=a4.lt;omega
   obtain ⟨w6,V5,p7⟩:∃ cs:List Value,n2 142 = .agg cs.toArray∧Enc.circle.rd g3 ((f3 1)++O) cs (kZ):=i1 6 142 kR (by decide) kR kR
   have p7:Enc.circle.rd g3 ((c9 :: (a1 :: (a0 :: [])))++O) w6 (kZ):=Enc.mv Enc.circle (x:=kZ) p7 (Mv.at_ w3)
   obtain ⟨s3,V6,f4⟩:∃ v,n2 143=v∧BB Enc.share g3 ((f3 1)++O) v ((AV DW (kL.take 2) ([(4:Int)]) (1:Int) ([])).2.1):=⟨_,rfl,i1 7 143 kR (by decide) kR kR⟩
   have:=f4.len_le
   have f4:=f4.mv (Mv.at_ w3)
   have a2:=a2.mv g4
   have a3:=a3.mv g4
   have b0:=b0.mv g4
   have a5:=a5.mv g4
   have a6:=a6.mv g4
   have a8:=a8.mv g4
   have a9:=a9.mv g4
   have a7:=a7.keep n3 (by simp)
   have a4:=a4.keep n3 (by simp)
   obtain ⟨F2,rfl⟩:=AL (F:=n2) [(1,vP (some ⟨a0,0,none⟩)),(3,b9),(5,vP (some ⟨a1,0,none⟩)),(6,c1),(11,vI ((CK kA ((CJ kC (1:Int)).2.1) kL).2)),(15,d6),(16,vI ((CK DW ((CJ kC (1:Int)).2.1) (kL.drop 1)).2)),(18,vI ((CK DW ((CJ kC (1:Int)).2.1) (((BG kC kL ([(4:UInt8)])).2.1).drop 1)).2)),(252,undef),(19,vP (some ⟨c9,0,none⟩)),(142,vA w6.toArray),(143,s3),(144,vI ((AV DW (kL.take 2) ([(4:Int)]) (1:Int) ([])).2.2))] ⟨c5 1 kR,c5 3 kR,c5 5 kR,c5 6 kR,c5 11 kR,c5 15 kR,c5 16 kR,c5 18 kR,c5 252 kR,V3,V5,V6,i1 8 144 kR (by decide) kR kR,trivial⟩
   clear i1 c5 p6 I7 q9
   obtain ⟨s4,s5,rfl,i2,i3⟩:=p7
   have:=i2.len_le
   have:=i3.len_le
   refine CB (BF (vs:=[vI kZ.epoch,vI kZ.threshold,vI kZ.wait,s4,s5]) (.agg #[vI kZ.epoch,vI kZ.threshold,vI kZ.wait,s4,s5]) rfl rfl rfl BR (fun u hu=>by simp only [List.mem_cons,List.not_mem_nil,or_false] at hu;rcases hu with rfl|rfl|rfl|rfl|rfl <;> first|rfl|exact i2.oneCell|exact i3.oneCell) (by repeat (constructor)) v8 oT V4 fun be V7 d7 E2 J1=>(?_))
   have a2:=a2.mv d7
   have a3:=a3.mv d7
   have b0:=b0.mv d7
   have i2:=i2.mv d7
   have i3:=i3.mv d7
   have f4:=f4.mv d7
   have a8:=a8.mv d7
   have a9:=a9.mv d7
   have a7:=a7.keep E2 (BC w4)
   have a5:=a5.mv d7
   have a6:=a6.mv d7
   have a4:=a4.keep E2 (BC w5)
   refine AA (AD (s3) rfl (AA (AD (vI ((AV DW (kL.take 2) ([(4:Int)]) (1:Int) ([])).2.2)) rfl (AG (AC (?_))))))
   exact ⟨c9,s4,s5,s3,(c9 :: (a1 :: (a0 :: []))),trivial,⟨_,AP _ ⟨rfl,rfl,rfl,rfl,rfl,rfl,rfl,rfl,rfl,rfl,(by rfl),rfl,trivial⟩⟩,V7,(by rw [show kW=(AV DW (kL.take 2) ([(4:Int)]) (1:Int) ([])).2.1 from rfl];exact f4),a2,a3,b0,a8,a9,a7,(by (repeat (first|exact List.mem_cons_self|apply List.mem_cons_of_mem))),a5,a6,a4,(by (repeat (first|exact List.mem_cons_self|apply List.mem_cons_of_mem))),J1,i2,i3,(by repeat (constructor)),w4,w5⟩
  intro cx_ hcx_
  match cx_,hcx_ with
  | 0,_=>
   intro n4 g5 e5 n5 p8 J2 r0 i4 c6
   obtain ⟨d0,V8,w7,J3,w8⟩:(UA b5 28 [vI 0,vI 0,vI 0,nS,nS]) (e5 2) (n4 19) g5:=i4 9 19 kR (by decide) kR kR
   have w9:=w8.lt
   have J4:∀ x∈(a1 :: (a0 :: [])),x∈(a1 :: (a0 :: []))∨(b5.heap.size≤x∧x<g5.heap.size):=fun x hx=>.inl hx
   have G4:∀ x∈(a1 :: (a0 :: [])),x∈(a1 :: (a0 :: [])):=fun x hx=>hx
   have J5:∀ x∈(a1 :: (a0 :: [])),x∈e5 1:=fun x hx=>p8 1 x hx
   have an:∀ x∈(a1 :: (a0 :: [])),x∈e5 2:=fun x hx=>p8 2 x hx
   have x0:∀ x∈(d0 :: (a1 :: (a0 :: []))),x∈(a1 :: (a0 :: []))∨(b5.heap.size≤x∧x<g5.heap.size):=fun x hx=>by rcases List.mem_cons.1 hx with rfl|hx;exact .inr ⟨w7,w9⟩;exact J4 x hx
   have ah:∀ x∈(a1 :: (a0 :: [])),x∈(d0 :: (a1 :: (a0 :: []))):=fun x hx=>List.mem_cons_of_mem _ (G4 x hx)
   have x1:∀ x∈(d0 :: (a1 :: (a0 :: []))),x∈e5 1:=fun x hx=>by rcases List.mem_cons.1 hx with rfl|hx;exact r0 2 1 _ (by decide) w7 w9 J3;exact J5 x hx
   have V9:=g1.adoptL n5 x0
   have g6:Mv (a1 :: (a0 :: [])) b5 (d0 :: (a1 :: (a0 :: []))) g5:=Mv.adoptL n5 x0
   have x2:GV a0 d0:=by show a0≠d0;have:=a7.lt;omega
   have x3:GV a1 d0:=by show a1≠d0;have:=a4.lt;omega
   obtain ⟨J6,n6,W0,ao,f5⟩:(fun (vT:Value) (wT:World)=>∃ (xT0:List Value) (xT1:Value),vT = .tuple #[.agg xT0.toArray,xT1,vI ((AV DW (kL.take 2) ([(4:Int)]) (1:Int) ([])).2.2)]∧Enc.circle.rd wT ((e5 1)++O) xT0 (kZ)∧BB Enc.share wT ((e5 1)++O) xT1 ((AV DW (kL.take 2) ([(4:Int)]) (1:Int) ([])).2.1)) (n4 136) g5:=i4 5 136 kR (by decide) kR kR
   have:=f5.len_le
   have f5:=f5.mv (Mv.at_ x1)
   obtain ⟨x4,W1,p9⟩:∃ cs:List Value,n4 142 = .agg cs.toArray∧Enc.circle.rd g5 ((e5 1)++O) cs (kZ):=i4 6 142 kR (by decide) kR kR
   have p9:Enc.circle.rd g5 ((d0 :: (a1 :: (a0 :: [])))++O) x4 (kZ):=Enc.mv Enc.circle (x:=kZ) p9 (Mv.at_ x1)
   have a2:=a2.mv g6
   have a3:=a3.mv g6
   have b0:=b0.mv g6
   have a5:=a5.mv g6
   have a6:=a6.mv g6
   have a8:=a8.mv g6
   have a9:=a9.mv g6
   have a7:=a7.keep n5 (by simp)
   have a4:=a4.keep n5 (by simp)
   obtain ⟨F2,rfl⟩:=AL (F:=n4) [(1,vP (some ⟨a0,0,none⟩)),(3,b9),(5,vP (some ⟨a1,0,none⟩)),(6,c1),(11,vI ((CK kA ((CJ kC (1:Int)).2.1) kL).2)),(15,d6),(16,vI ((CK DW ((CJ kC (1:Int)).2.1) (kL.drop 1)).2)),(18,vI ((CK DW ((CJ kC (1:Int)).2.1) (((BG kC kL ([(4:UInt8)])).2.1).drop 1)).2)),(252,undef),(19,vP (some ⟨d0,0,none⟩)),(136,vT #[vA J6.toArray,n6,vI ((AV DW (kL.take 2) ([(4:Int)]) (1:Int) ([])).2.2)]),(142,vA x4.toArray),(144,vI ((AV DW (kL.take 2) ([(4:Int)]) (1:Int) ([])).2.2))] ⟨c6 1 kR,c6 3 kR,c6 5 kR,c6 6 kR,c6 11 kR,c6 15 kR,c6 16 kR,c6 18 kR,c6 252 kR,V8,W0,W1,i4 8 144 kR (by decide) kR kR,trivial⟩
   clear i4 c6 p8 J2 r0
   obtain ⟨s6,s7,rfl,i5,i6⟩:=p9
   have:=i5.len_le
   have:=i6.len_le
   refine CB (BF (vs:=[vI kZ.epoch,vI kZ.threshold,vI kZ.wait,s6,s7]) (.agg #[vI kZ.epoch,vI kZ.threshold,vI kZ.wait,s6,s7]) rfl rfl rfl BR (fun u hu=>by simp only [List.mem_cons,List.not_mem_nil,or_false] at hu;rcases hu with rfl|rfl|rfl|rfl|rfl <;> first|rfl|exact i5.oneCell|exact i6.oneCell) (by repeat (constructor)) w8 oT V9 fun bf W2 d8 E3 J7=>(?_))
   have a2:=a2.mv d8
   have a3:=a3.mv d8
   have b0:=b0.mv d8
   have f5:=f5.mv d8
   have i5:=i5.mv d8
   have i6:=i6.mv d8
   have a8:=a8.mv d8
   have a9:=a9.mv d8
   have a7:=a7.keep E3 (BC x2)
   have a5:=a5.mv d8
   have a6:=a6.mv d8
   have a4:=a4.keep E3 (BC x3)
   refine AA (AN (n6) rfl rfl (AA (AD (n6) rfl (AA (AD (vI ((AV DW (kL.take 2) ([(4:Int)]) (1:Int) ([])).2.2)) rfl (AG (AC (?_))))))))
   exact ⟨d0,s6,s7,n6,(d0 :: (a1 :: (a0 :: []))),trivial,⟨_,AP _ ⟨rfl,rfl,rfl,rfl,rfl,rfl,rfl,rfl,rfl,rfl,(by rfl),rfl,trivial⟩⟩,W2,(by rw [show kW=(AV DW (kL.take 2) ([(4:Int)]) (1:Int) ([])).2.1 from rfl];exact f5),a2,a3,b0,a8,a9,a7,(by (repeat (first|exact List.mem_cons_self|apply List.mem_cons_of_mem))),a5,a6,a4,(by (repeat (first|exact List.mem_cons_self|apply List.mem_cons_of_mem))),J7,i5,i6,(by repeat (constructor)),x2,x3⟩
  | 1,_=>
   intro m0 e9 e3 n7 q0 J8 r1 i7 c7
   obtain ⟨d1,W3,x5,J9,x6⟩:(UA b5 28 [vI 0,vI 0,vI 0,nS,nS]) (e3 2) (m0 19) e9:=i7 9 19 kR (by decide) kR kR
   have x7:=x6.lt
   have K0:∀ x∈(a1 :: (a0 :: [])),x∈(a1 :: (a0 :: []))∨(b5.heap.size≤x∧x<e9.heap.size):=fun x hx=>.inl hx
   have G5:∀ x∈(a1 :: (a0 :: [])),x∈(a1 :: (a0 :: [])):=fun x hx=>hx
   have K1:∀ x∈(a1 :: (a0 :: [])),x∈e3 1:=fun x hx=>q0 1 x hx
   have ap:∀ x∈(a1 :: (a0 :: [])),x∈e3 2:=fun x hx=>q0 2 x hx
   have x8:∀ x∈(d1 :: (a1 :: (a0 :: []))),x∈(a1 :: (a0 :: []))∨(b5.heap.size≤x∧x<e9.heap.size):=fun x hx=>by rcases List.mem_cons.1 hx with rfl|hx;exact .inr ⟨x5,x7⟩;exact K0 x hx
   have ai:∀ x∈(a1 :: (a0 :: [])),x∈(d1 :: (a1 :: (a0 :: []))):=fun x hx=>List.mem_cons_of_mem _ (G5 x hx)
   have x9:∀ x∈(d1 :: (a1 :: (a0 :: []))),x∈e3 1:=fun x hx=>by rcases List.mem_cons.1 hx with rfl|hx;exact r1 2 1 _ (by decide) x5 x7 J9;exact K1 x hx
   have W4:=g1.adoptL n7 x8
   have g7:Mv (a1 :: (a0 :: [])) b5 (d1 :: (a1 :: (a0 :: []))) e9:=Mv.adoptL n7 x8
   have y2:GV a0 d1:=by show a0≠d1;have:=a7.lt;omega
   have y3:GV a1 d1:=by show a1≠d1;have:=a4.lt;omega
   obtain ⟨K2,W5,W6,aq,K3⟩:(fun (vT:Value) (wT:World)=>∃ (xT0:List Value) (xT1:Value),vT = .tuple #[.agg xT0.toArray,xT1,vI ((AV DW (kL.take 2) ([(4:Int)]) (1:Int) ([])).2.2)]∧Enc.circle.rd wT ((e3 1)++O) xT0 (kZ)∧BB Enc.share wT ((e3 1)++O) xT1 ((AV DW (kL.take 2) ([(4:Int)]) (1:Int) ([])).2.1)) (m0 136) e9:=i7 5 136 kR (by decide) kR kR
   have:=K3.len_le
   obtain ⟨y4,W7,q1⟩:∃ cs:List Value,m0 142 = .agg cs.toArray∧Enc.circle.rd e9 ((e3 1)++O) cs (kZ):=i7 6 142 kR (by decide) kR kR
   have q1:Enc.circle.rd e9 ((d1 :: (a1 :: (a0 :: [])))++O) y4 (kZ):=Enc.mv Enc.circle (x:=kZ) q1 (Mv.at_ x9)
   obtain ⟨s8,W8,f6⟩:∃ v,m0 143=v∧BB Enc.share e9 ((e3 1)++O) v ((AV DW (kL.take 2) ([(4:Int)]) (1:Int) ([])).2.1):=⟨_,rfl,i7 7 143 kR (by decide) kR kR⟩
   have:=f6.len_le
   have f6:=f6.mv (Mv.at_ x9)
   have a2:=a2.mv g7
   have a3:=a3.mv g7
   have b0:=b0.mv g7
   have a5:=a5.mv g7
   have a6:=a6.mv g7
   have a8:=a8.mv g7
   have a9:=a9.mv g7
   have a7:=a7.keep n7 (by simp)
   have a4:=a4.keep n7 (by simp)
   obtain ⟨F2,rfl⟩:=AL (F:=m0) [(1,vP (some ⟨a0,0,none⟩)),(3,b9),(5,vP (some ⟨a1,0,none⟩)),(6,c1),(11,vI ((CK kA ((CJ kC (1:Int)).2.1) kL).2)),(15,d6),(16,vI ((CK DW ((CJ kC (1:Int)).2.1) (kL.drop 1)).2)),(18,vI ((CK DW ((CJ kC (1:Int)).2.1) (((BG kC kL ([(4:UInt8)])).2.1).drop 1)).2)),(252,undef),(19,vP (some ⟨d1,0,none⟩)),(136,vT #[vA K2.toArray,W5,vI ((AV DW (kL.take 2) ([(4:Int)]) (1:Int) ([])).2.2)]),(142,vA y4.toArray),(143,s8)] ⟨c7 1 kR,c7 3 kR,c7 5 kR,c7 6 kR,c7 11 kR,c7 15 kR,c7 16 kR,c7 18 kR,c7 252 kR,W3,W6,W7,W8,trivial⟩
   clear i7 c7 q0 J8 r1
   obtain ⟨s9,t0,rfl,i8,i9⟩:=q1
   have:=i8.len_le
   have:=i9.len_le
   refine CB (BF (vs:=[vI kZ.epoch,vI kZ.threshold,vI kZ.wait,s9,t0]) (.agg #[vI kZ.epoch,vI kZ.threshold,vI kZ.wait,s9,t0]) rfl rfl rfl BR (fun u hu=>by simp only [List.mem_cons,List.not_mem_nil,or_false] at hu;rcases hu with rfl|rfl|rfl|rfl|rfl <;> first|rfl|exact i8.oneCell|exact i9.oneCell) (by repeat (constructor)) x6 oT W4 fun bg W9 d9 E4 K4=>(?_))
   have a2:=a2.mv d9
   have a3:=a3.mv d9
   have b0:=b0.mv d9
   have i8:=i8.mv d9
   have i9:=i9.mv d9
   have f6:=f6.mv d9
   have a8:=a8.mv d9
   have a9:=a9.mv d9
   have a7:=a7.keep E4 (BC y2)
   have a5:=a5.mv d9
   have a6:=a6.mv d9
   have a4:=a4.keep E4 (BC y3)
   refine AA (AN (vI ((AV DW (kL.take 2) ([(4:Int)]) (1:Int) ([])).2.2)) rfl rfl (AA (AD (s8) rfl (AA (AD (vI ((AV DW (kL.take 2) ([(4:Int)]) (1:Int) ([])).2.2)) rfl (AG (AC (?_))))))))
   exact ⟨d1,s9,t0,s8,(d1 :: (a1 :: (a0 :: []))),trivial,⟨_,AP _ ⟨rfl,rfl,rfl,rfl,rfl,rfl,rfl,rfl,rfl,rfl,(by rfl),rfl,trivial⟩⟩,W9,(by rw [show kW=(AV DW (kL.take 2) ([(4:Int)]) (1:Int) ([])).2.1 from rfl];exact f6),a2,a3,b0,a8,a9,a7,(by (repeat (first|exact List.mem_cons_self|apply List.mem_cons_of_mem))),a5,a6,a4,(by (repeat (first|exact List.mem_cons_self|apply List.mem_cons_of_mem))),K4,i8,i9,(by repeat (constructor)),y2,y3⟩
  | 2,_=>
   intro n9 g8 e6 o0 q2 K5 r2 m2 c8
   obtain ⟨d2,X0,y5,K6,y6⟩:(UA b5 28 [vI 0,vI 0,vI 0,nS,nS]) (e6 2) (n9 19) g8:=m2 9 19 kR (by decide) kR kR
   have y7:=y6.lt
   have K7:∀ x∈(a1 :: (a0 :: [])),x∈(a1 :: (a0 :: []))∨(b5.heap.size≤x∧x<g8.heap.size):=fun x hx=>.inl hx
   have G6:∀ x∈(a1 :: (a0 :: [])),x∈(a1 :: (a0 :: [])):=fun x hx=>hx
   have K8:∀ x∈(a1 :: (a0 :: [])),x∈e6 1:=fun x hx=>q2 1 x hx
   have ar:∀ x∈(a1 :: (a0 :: [])),x∈e6 2:=fun x hx=>q2 2 x hx
   have y8:∀ x∈(d2 :: (a1 :: (a0 :: []))),x∈(a1 :: (a0 :: []))∨(b5.heap.size≤x∧x<g8.heap.size):=fun x hx=>by rcases List.mem_cons.1 hx with rfl|hx;exact .inr ⟨y5,y7⟩;exact K7 x hx
   have aj:∀ x∈(a1 :: (a0 :: [])),x∈(d2 :: (a1 :: (a0 :: []))):=fun x hx=>List.mem_cons_of_mem _ (G6 x hx)
   have y9:∀ x∈(d2 :: (a1 :: (a0 :: []))),x∈e6 1:=fun x hx=>by rcases List.mem_cons.1 hx with rfl|hx;exact r2 2 1 _ (by decide) y5 y7 K6;exact K8 x hx
   have X1:=g1.adoptL o0 y8
   have g9:Mv (a1 :: (a0 :: [])) b5 (d2 :: (a1 :: (a0 :: []))) g8:=Mv.adoptL o0 y8
   have z0:GV a0 d2:=by show a0≠d2;have:=a7.lt;omega
   have z1:GV a1 d2:=by show a1≠d2;have:=a4.lt;omega
   obtain ⟨K9,o1,X2,au,f7⟩:(fun (vT:Value) (wT:World)=>∃ (xT0:List Value) (xT1:Value),vT = .tuple #[.agg xT0.toArray,xT1,vI ((AV DW (kL.take 2) ([(4:Int)]) (1:Int) ([])).2.2)]∧Enc.circle.rd wT ((e6 1)++O) xT0 (kZ)∧BB Enc.share wT ((e6 1)++O) xT1 ((AV DW (kL.take 2) ([(4:Int)]) (1:Int) ([])).2.1)) (n9 136) g8:=m2 5 136 kR (by decide) kR kR
   have:=f7.len_le
   have f7:=f7.mv (Mv.at_ y9)
   obtain ⟨z2,X3,q3⟩:∃ cs:List Value,n9 142 = .agg cs.toArray∧Enc.circle.rd g8 ((e6 1)++O) cs (kZ):=m2 6 142 kR (by decide) kR kR
   have q3:Enc.circle.rd g8 ((d2 :: (a1 :: (a0 :: [])))++O) z2 (kZ):=Enc.mv Enc.circle (x:=kZ) q3 (Mv.at_ y9)
   have a2:=a2.mv g9
   have a3:=a3.mv g9
   have b0:=b0.mv g9
   have a5:=a5.mv g9
   have a6:=a6.mv g9
   have a8:=a8.mv g9
   have a9:=a9.mv g9
   have a7:=a7.keep o0 (by simp)
   have a4:=a4.keep o0 (by simp)
   obtain ⟨F2,rfl⟩:=AL (F:=n9) [(1,vP (some ⟨a0,0,none⟩)),(3,b9),(5,vP (some ⟨a1,0,none⟩)),(6,c1),(11,vI ((CK kA ((CJ kC (1:Int)).2.1) kL).2)),(15,d6),(16,vI ((CK DW ((CJ kC (1:Int)).2.1) (kL.drop 1)).2)),(18,vI ((CK DW ((CJ kC (1:Int)).2.1) (((BG kC kL ([(4:UInt8)])).2.1).drop 1)).2)),(252,undef),(19,vP (some ⟨d2,0,none⟩)),(136,vT #[vA K9.toArray,o1,vI ((AV DW (kL.take 2) ([(4:Int)]) (1:Int) ([])).2.2)]),(142,vA z2.toArray)] ⟨c8 1 kR,c8 3 kR,c8 5 kR,c8 6 kR,c8 11 kR,c8 15 kR,c8 16 kR,c8 18 kR,c8 252 kR,X0,X2,X3,trivial⟩
   clear m2 c8 q2 K5 r2
   obtain ⟨t2,t3,rfl,j0,j1⟩:=q3
   have:=j0.len_le
   have:=j1.len_le
   refine CB (BF (vs:=[vI kZ.epoch,vI kZ.threshold,vI kZ.wait,t2,t3]) (.agg #[vI kZ.epoch,vI kZ.threshold,vI kZ.wait,t2,t3]) rfl rfl rfl BR (fun u hu=>by simp only [List.mem_cons,List.not_mem_nil,or_false] at hu;rcases hu with rfl|rfl|rfl|rfl|rfl <;> first|rfl|exact j0.oneCell|exact j1.oneCell) (by repeat (constructor)) y6 oT X1 fun bh X4 e0 E5 L0=>(?_))
   have a2:=a2.mv e0
   have a3:=a3.mv e0
   have b0:=b0.mv e0
   have f7:=f7.mv e0
   have j0:=j0.mv e0
   have j1:=j1.mv e0
   have a8:=a8.mv e0
   have a9:=a9.mv e0
   have a7:=a7.keep E5 (BC z0)
   have a5:=a5.mv e0
   have a6:=a6.mv e0
   have a4:=a4.keep E5 (BC z1)
   refine AA (AN (o1) rfl rfl (AA (AN (vI ((AV DW (kL.take 2) ([(4:Int)]) (1:Int) ([])).2.2)) rfl rfl (AA (AD (o1) rfl (AA (AD (vI ((AV DW (kL.take 2) ([(4:Int)]) (1:Int) ([])).2.2)) rfl (AG (AC (?_))))))))))
   exact ⟨d2,t2,t3,o1,(d2 :: (a1 :: (a0 :: []))),trivial,⟨_,AP _ ⟨rfl,rfl,rfl,rfl,rfl,rfl,rfl,rfl,rfl,rfl,(by rfl),rfl,trivial⟩⟩,X4,(by rw [show kW=(AV DW (kL.take 2) ([(4:Int)]) (1:Int) ([])).2.1 from rfl];exact f7),a2,a3,b0,a8,a9,a7,(by (repeat (first|exact List.mem_cons_self|apply List.mem_cons_of_mem))),a5,a6,a4,(by (repeat (first|exact List.mem_cons_self|apply List.mem_cons_of_mem))),L0,j0,j1,(by repeat (constructor)),z0,z1⟩
 intro F L1 hI
 clear a2 a3 b0 a8 a9 a7 a5 a6 a4
 obtain ⟨c4,f1,f2,d3,b2,av,⟨aw,rfl⟩,z3,b3,a2,a3,b0,a8,a9,a7,ae,a5,a6,a4,af,b1,q4,q5,G7,B0,B1⟩:=hI
 have:=b3.len_le
 have:=q4.len_le
 have:=q5.len_le
 refine AF (AB kR (AA (EN (l:=[]) TM NN rfl [] [vI 0,vI 0,vI 0,nS,nS] rfl rfl (AA (AZ (vs:=[vA #[vI 0,vI 0,vI 0,nS,nS],nS,nS]) RF (c_deal (O:=b2++O) [vI 0,vI 0,vI 0,nS,nS] (⟨(0:Int),(0:Int),(0:Int),[],[]⟩:Circle) (.slice none 0 0) [] (.slice none 0 0) [] L1 ⟨.slice none 0 0, .slice none 0 0,rfl,(BB.nil _ _ _),(BB.nil _ _ _)⟩ (BB.nil _ _ _) (BB.nil _ _ _) z3.lt) rfl z3 fun bi X5 E6 f0 t4 X6=>(?_))))))
 obtain ⟨t5,rfl,L2⟩:=X6
 have:=L2.len_le
 have a2:=a2.mv f0
 have a3:=a3.mv f0
 have b0:=b0.mv f0
 have b3:=b3.mv f0
 have a8:=a8.mv f0
 have a9:=a9.mv f0
 have a7:=a7.keep t4 (by simp)
 have a5:=a5.mv f0
 have a6:=a6.mv f0
 have a4:=a4.keep t4 (by simp)
 have b1:=b1.keep t4 (by simp)
 refine AA (AE (vT #[t5,vI ((DN (⟨(0:Int),(0:Int),(0:Int),[],[]⟩:Circle) ([]) ([])).2)]) rfl (AA (AN (t5) rfl rfl (AA (AN (vI ((DN (⟨(0:Int),(0:Int),(0:Int),[],[]⟩:Circle) ([]) ([])).2)) rfl rfl (AA (AD (t5) rfl (AA (AD (vI ((DN (⟨(0:Int),(0:Int),(0:Int),[],[]⟩:Circle) ([]) ([])).2)) rfl (AG (AC (AF (AB kR (AA (BW (vs:=[vI DW.epoch,vI DW.threshold,vI DW.wait,c2,c3]) U28_ rfl BR rfl a7 rfl (AA (AZ (vs:=[vA #[vI DW.epoch,vI DW.threshold,vI DW.wait,c2,c3],nS,nS]) enter_24 (c_renew (O:=b2++O) [vI DW.epoch,vI DW.threshold,vI DW.wait,c2,c3] DW (.slice none 0 0) [] (.slice none 0 0) [] X5 ⟨_,_,rfl,a8,a9⟩ (BB.nil _ _ _) (BB.nil _ _ _) E6.lt) rfl E6 fun bj bk X7 k2 t6 X8=>(?_))))))))))))))))))
 obtain ⟨q6,t7,rfl,q7,L3⟩:=X8
 have:=L3.len_le
 have a2:=a2.mv k2
 have a3:=a3.mv k2
 have b0:=b0.mv k2
 have b3:=b3.mv k2
 have a7:=a7.keep t6 (by simp)
 have a5:=a5.mv k2
 have a6:=a6.mv k2
 have a4:=a4.keep t6 (by simp)
 have b1:=b1.keep t6 (by simp)
 refine AA (AE (vT #[vA q6.toArray,t7,vI ((BG DW ([]) ([])).2.2)]) rfl (AA (AN (vA q6.toArray) rfl rfl (AA (AN (t7) rfl rfl (AA (AN (vI ((BG DW ([]) ([])).2.2)) rfl rfl (AA (DE [vI 0,vI 0,vI 0,nS,nS] NN rfl X7 fun b4 X9 Y0 Y1 h2 E7 L4=>(?_))))))))))
 have ax:GV a0 b4:=by show a0≠b4;have:=a7.lt;omega
 have L5:GV a1 b4:=by show a1≠b4;have:=a4.lt;omega
 have L6:GV c4 b4:=by show c4≠b4;have:=b1.lt;omega
 clear Y0
 have a2:=a2.mv h2
 have a3:=a3.mv h2
 have b0:=b0.mv h2
 have b3:=b3.mv h2
 have q7:Enc.circle.rd X9 ((b4 :: b2)++O) q6 ((BG DW ([]) ([])).1):=Enc.mv Enc.circle (x:=(BG DW ([]) ([])).1) q7 h2
 have a5:=a5.mv h2
 have a6:=a6.mv h2
 have a4:=a4.keep E7 (by simp)
 have b1:=b1.keep E7 (by simp)
 obtain ⟨E8,E9,rfl,z4,z5⟩:=q7
 have:=z4.len_le
 have:=z5.len_le
 refine CB (BF (vs:=[vI (((BG DW ([]) ([])).1).epoch),vI (((BG DW ([]) ([])).1).threshold),vI (((BG DW ([]) ([])).1).wait),E8,E9]) (.agg #[vI (((BG DW ([]) ([])).1).epoch),vI (((BG DW ([]) ([])).1).threshold),vI (((BG DW ([]) ([])).1).wait),E8,E9]) rfl rfl rfl BR (fun u hu=>by simp only [List.mem_cons,List.not_mem_nil,or_false] at hu;rcases hu with rfl|rfl|rfl|rfl|rfl <;> first|rfl|exact z4.oneCell|exact z5.oneCell) (by repeat (constructor)) L4 oT Y1 fun Y2 F3 k3 F4 ay=>(?_))
 have a2:=a2.mv k3
 have a3:=a3.mv k3
 have b0:=b0.mv k3
 have b3:=b3.mv k3
 have a5:=a5.mv k3
 have a6:=a6.mv k3
 have a4:=a4.keep F4 (BC L5)
 have b1:=b1.keep F4 (BC L6)
 refine AA (AD (t7) rfl (AA (AD (vI ((BG DW ([]) ([])).2.2)) rfl (AG (AC (AF (AB kR (AA (BW (vs:=[vI kX.epoch,vI kX.threshold,vI kX.wait,f8,f9]) U28_ rfl BR rfl a4 rfl (AA (AE (c1) rfl (AA (AZ (vs:=[vA #[vI kX.epoch,vI kX.threshold,vI kX.wait,f8,f9],vI 0,c1]) RQ (c_rest (O:=(b4 :: b2)++O) [vI kX.epoch,vI kX.threshold,vI kX.wait,f8,f9] kX (0:Int) c1 ((BG kC kL ([(4:UInt8)])).2.1) Y2 ⟨_,_,rfl,a5,a6⟩ a3 F3.lt) rfl F3 fun bm Y3 F5 o2 F6 Y4=>(?_))))))))))))))
 obtain ⟨t8,rfl,L7⟩:=Y4
 have:=L7.len_le
 have a2:=a2.mv o2
 have a3:=a3.mv o2
 have b0:=b0.mv o2
 have b3:=b3.mv o2
 have a4:=a4.keep F6 (by simp)
 have b1:=b1.keep F6 (by simp)
 refine AA (AE (vT #[t8,vI ((CK kX (0:Int) ((BG kC kL ([(4:UInt8)])).2.1)).2)]) rfl (AA (AN (t8) rfl rfl (AA (AN (vI ((CK kX (0:Int) ((BG kC kL ([(4:UInt8)])).2.1)).2)) rfl rfl (AA (AD (t8) rfl (AA (AD (vI ((CK kX (0:Int) ((BG kC kL ([(4:UInt8)])).2.1)).2)) rfl (AG (AC (AF (AB kR (AA (AZ (vs:=[nS,nS,nS]) WF (c_mixed (O:=(b4 :: b2)++O) (.slice none 0 0) [] (.slice none 0 0) [] (.slice none 0 0) [] Y3 (BB.nil _ _ _) (BB.nil _ _ _) (BB.nil _ _ _) F5.lt) rfl F5 fun bn h3 t9 o3 F7 Y5=>(?_))))))))))))))))
 obtain ⟨u0,rfl,L8⟩:=Y5
 have:=L8.len_le
 have a2:=a2.mv o3
 have a3:=a3.mv o3
 have b0:=b0.mv o3
 have b3:=b3.mv o3
 have a4:=a4.keep F7 (by simp)
 have b1:=b1.keep F7 (by simp)
 refine AA (AE (vT #[u0,vI ((BU ([]) ([]) ([])).2)]) rfl (AA (AN (u0) rfl rfl (AA (AN (vI ((BU ([]) ([]) ([])).2)) rfl rfl (AA (AD (u0) rfl (AA (AD (vI ((BU ([]) ([]) ([])).2)) rfl (AG (AC (AF (cw_draw' 10 _ _ [fun (vT:Value) (wT:World)=>BB Enc.share wT ((b4 :: b2)++O) vT (kL),fun (vT:Value) (wT:World)=>BB Enc.share wT ((b4 :: b2)++O) vT ((kL.take 1)),fun (vT:Value) (wT:World)=>BB Enc.share wT ((b4 :: b2)++O) vT ((BG kC kL ([(4:UInt8)])).2.1),fun (vT:Value) (wT:World)=>BB Enc.share wT ((b4 :: b2)++O) vT ((((BG kC kL ([(4:UInt8)])).2.1).drop 2)),fun (vT:Value) (wT:World)=>BB Enc.u8 wT ((b4 :: b2)++O) vT ([(200:UInt8)]),fun (vT:Value) (wT:World)=>∃ (xT0:Value),vT = .tuple #[xT0,vI ((BU (kL.take 1) (((BG kC kL ([(4:UInt8)])).2.1).drop 2) ([(200:UInt8)])).2)]∧BB Enc.u8 wT ((b4 :: b2)++O) xT0 ((BU (kL.take 1) (((BG kC kL ([(4:UInt8)])).2.1).drop 2) ([(200:UInt8)])).1),fun (vT:Value) (wT:World)=>∃ (xT0:Value),vT = .tuple #[xT0,vI ((BU (kL.take 1) (((BG kC kL ([(4:UInt8)])).2.1).drop 2) ([(200:UInt8)])).2)]∧BB Enc.u8 wT ((b4 :: b2)++O) xT0 ((BU (kL.take 1) (((BG kC kL ([(4:UInt8)])).2.1).drop 2) ([(200:UInt8)])).1),fun (vT:Value) (wT:World)=>BB Enc.u8 wT ((b4 :: b2)++O) vT ((BU (kL.take 1) (((BG kC kL ([(4:UInt8)])).2.1).drop 2) ([(200:UInt8)])).1),DZ (vI ((BU (kL.take 1) (((BG kC kL ([(4:UInt8)])).2.1).drop 2) ([(200:UInt8)])).2)),fun (vT:Value) (wT:World)=>BB Enc.u8 wT ((b4 :: b2)++O) vT ((BU (kL.take 1) (((BG kC kL ([(4:UInt8)])).2.1).drop 2) ([(200:UInt8)])).1)] kR kR kR kR rfl rfl ⟨fun _ _ _ h k=>h.mv (Mv.of_keep k),fun _ _ _ h k=>h.mv (Mv.of_keep k),fun _ _ _ h k=>h.mv (Mv.of_keep k),fun _ _ _ h k=>h.mv (Mv.of_keep k),fun _ _ _ h k=>h.mv (Mv.of_keep k),fun _ _ _ ⟨y0,e,h0⟩ k=>⟨y0,e,h0.mv (Mv.of_keep k)⟩,fun _ _ _ ⟨y0,e,h0⟩ k=>⟨y0,e,h0.mv (Mv.of_keep k)⟩,fun _ _ _ h k=>h.mv (Mv.of_keep k),kI,fun _ _ _ h k=>h.mv (Mv.of_keep k),trivial⟩ ⟨?_,?_,?_,?_,?_,?_,?_,?_,?_,?_,trivial⟩ ?_)))))))))))))
 ·intro F1 w1 k1 hf hd
  have k0:=(Keep.drew [] h3).trans k1
  have m1:Mv (b4 :: b2) h3 (b4 :: b2) w1:=Mv.of_keep k0
  have a2:=a2.mv m1
  obtain ⟨F2,rfl⟩:=AL (F:=F1) [(3,b9)] ⟨hf 3 kR,trivial⟩
  exact AH rfl ((AE (b9) rfl (⟨(Keep.refl _ _),a2⟩)))
 ·intro F1 w1 k1 hf hd
  obtain ⟨Y6,Y7,z6⟩:∃ v,F1 167=v∧BB Enc.share w1 ((b4 :: b2)++O) v (kL):=⟨_,rfl,hd 0 167 kR⟩
  have:=z6.len_le
  obtain ⟨F2,rfl⟩:=AL (F:=F1) [(167,Y6)] ⟨Y7,trivial⟩
  refine AH rfl ((NG U32_ CZ 0 1 rfl (.inl ⟨rfl,rfl⟩) (.inr ⟨.const (vI 1), .i64,(1:Int),rfl,rfl,rfl⟩) (by decide +kernel) (by decide +kernel) z6 fun bo z7=>(?_)))
  rw [List.drop_zero] at z7
  exact ⟨(Keep.refl _ _),z7⟩
 ·intro F1 w1 k1 hf hd
  have k0:=(Keep.drew [] h3).trans k1
  have m1:Mv (b4 :: b2) h3 (b4 :: b2) w1:=Mv.of_keep k0
  have a3:=a3.mv m1
  obtain ⟨F2,rfl⟩:=AL (F:=F1) [(6,c1)] ⟨hf 6 kR,trivial⟩
  exact AH rfl ((AE (c1) rfl (⟨(Keep.refl _ _),a3⟩)))
 ·intro F1 w1 k1 hf hd
  obtain ⟨Y8,Y9,z8⟩:∃ v,F1 169=v∧BB Enc.share w1 ((b4 :: b2)++O) v ((BG kC kL ([(4:UInt8)])).2.1):=⟨_,rfl,hd 2 169 kR⟩
  have:=z8.len_le
  obtain ⟨F2,rfl⟩:=AL (F:=F1) [(169,Y8)] ⟨Y9,trivial⟩
  refine AH rfl ((NG U32_ CZ 2 (((BG kC kL ([(4:UInt8)])).2.1).length) rfl (.inr ⟨.const (vI 2), .i64,(2:Int),rfl,rfl,rfl⟩) (.inl ⟨rfl,rfl⟩) (by decide +kernel) (by decide +kernel) z8 fun bp z9=>(?_)))
  rw [List.take_length] at z9
  exact ⟨(Keep.refl _ _),z9⟩
 ·intro F1 w1 k1 hf hd
  have k0:=(Keep.drew [] h3).trans k1
  have s1:=t9.call k0
  obtain ⟨F2,rfl⟩:=AL (F:=F1) [] trivial
  refine AH rfl ((GZ (E:=Enc.u8) (xs:=[.const (vB (200:UInt8))]) U23_ GK VF (by decide) [vB (200:UInt8)] [[vB (200:UInt8)]] [(200:UInt8)] rfl rfl rfl (Parts.cons rfl rfl (Parts.nil _ _ _)) oT s1 fun bq br bs bt Z0 A0=>(?_)))
  have:=A0.len_le
  exact ⟨Z0,A0⟩
 ·intro F1 w1 k1 hf hd
  have k0:=(Keep.drew [] h3).trans k1
  have s1:=t9.call k0
  obtain ⟨u1,Z1,A1⟩:∃ v,F1 168=v∧BB Enc.share w1 ((b4 :: b2)++O) v ((kL.take 1)):=⟨_,rfl,hd 1 168 kR⟩
  have:=A1.len_le
  obtain ⟨u2,Z2,A2⟩:∃ v,F1 170=v∧BB Enc.share w1 ((b4 :: b2)++O) v ((((BG kC kL ([(4:UInt8)])).2.1).drop 2)):=⟨_,rfl,hd 3 170 kR⟩
  have:=A2.len_le
  obtain ⟨u3,Z3,A3⟩:∃ v,F1 171=v∧BB Enc.u8 w1 ((b4 :: b2)++O) v ([(200:UInt8)]):=⟨_,rfl,hd 4 171 kR⟩
  have:=A3.len_le
  obtain ⟨F2,rfl⟩:=AL (F:=F1) [(168,u1),(170,u2),(171,u3)] ⟨Z1,Z2,Z3,trivial⟩
  refine AH rfl ((AZ (vs:=[u1,u2,u3]) WF (c_mixed (O:=(b4 :: b2)++O) u1 (kL.take 1) u2 (((BG kC kL ([(4:UInt8)])).2.1).drop 2) u3 ([(200:UInt8)]) w1 A1 A2 A3 s1.lt) rfl s1 fun bu bv bw bx Z4 Z5=>(?_)))
  obtain ⟨Z6,rfl,A4⟩:=Z5
  have:=A4.len_le
  exact ⟨Z4,⟨Z6,rfl,A4⟩⟩
 ·intro F1 w1 k1 hf hd
  obtain ⟨u4,Z7,A5⟩:(fun (vT:Value) (wT:World)=>∃ (xT0:Value),vT = .tuple #[xT0,vI ((BU (kL.take 1) (((BG kC kL ([(4:UInt8)])).2.1).drop 2) ([(200:UInt8)])).2)]∧BB Enc.u8 wT ((b4 :: b2)++O) xT0 ((BU (kL.take 1) (((BG kC kL ([(4:UInt8)])).2.1).drop 2) ([(200:UInt8)])).1)) (F1 172) w1:=hd 5 172 kR
  have:=A5.len_le
  obtain ⟨F2,rfl⟩:=AL (F:=F1) [(172,vT #[u4,vI ((BU (kL.take 1) (((BG kC kL ([(4:UInt8)])).2.1).drop 2) ([(200:UInt8)])).2)])] ⟨Z7,trivial⟩
  exact AH rfl ((AE (vT #[u4,vI ((BU (kL.take 1) (((BG kC kL ([(4:UInt8)])).2.1).drop 2) ([(200:UInt8)])).2)]) rfl (⟨(Keep.refl _ _),⟨u4,rfl,A5⟩⟩)))
 ·intro F1 w1 k1 hf hd
  obtain ⟨F8,Z8,A6⟩:(fun (vT:Value) (wT:World)=>∃ (xT0:Value),vT = .tuple #[xT0,vI ((BU (kL.take 1) (((BG kC kL ([(4:UInt8)])).2.1).drop 2) ([(200:UInt8)])).2)]∧BB Enc.u8 wT ((b4 :: b2)++O) xT0 ((BU (kL.take 1) (((BG kC kL ([(4:UInt8)])).2.1).drop 2) ([(200:UInt8)])).1)) (F1 166) w1:=hd 6 166 kR
  have:=A6.len_le
  obtain ⟨F2,rfl⟩:=AL (F:=F1) [(166,vT #[F8,vI ((BU (kL.take 1) (((BG kC kL ([(4:UInt8)])).2.1).drop 2) ([(200:UInt8)])).2)])] ⟨Z8,trivial⟩
  exact AH rfl ((AN (F8) rfl rfl (⟨(Keep.refl _ _),A6⟩)))
 ·intro F1 w1 k1 hf hd
  obtain ⟨Z9,aa,L9⟩:(fun (vT:Value) (wT:World)=>∃ (xT0:Value),vT = .tuple #[xT0,vI ((BU (kL.take 1) (((BG kC kL ([(4:UInt8)])).2.1).drop 2) ([(200:UInt8)])).2)]∧BB Enc.u8 wT ((b4 :: b2)++O) xT0 ((BU (kL.take 1) (((BG kC kL ([(4:UInt8)])).2.1).drop 2) ([(200:UInt8)])).1)) (F1 166) w1:=hd 6 166 kR
  have:=L9.len_le
  obtain ⟨F2,rfl⟩:=AL (F:=F1) [(166,vT #[Z9,vI ((BU (kL.take 1) (((BG kC kL ([(4:UInt8)])).2.1).drop 2) ([(200:UInt8)])).2)])] ⟨aa,trivial⟩
  exact AH rfl ((AN (vI ((BU (kL.take 1) (((BG kC kL ([(4:UInt8)])).2.1).drop 2) ([(200:UInt8)])).2)) rfl rfl (⟨(Keep.refl _ _),rfl⟩)))
 ·intro F1 w1 k1 hf hd
  obtain ⟨F9,ab,A7⟩:∃ v,F1 173=v∧BB Enc.u8 w1 ((b4 :: b2)++O) v ((BU (kL.take 1) (((BG kC kL ([(4:UInt8)])).2.1).drop 2) ([(200:UInt8)])).1):=⟨_,rfl,hd 7 173 kR⟩
  have:=A7.len_le
  obtain ⟨F2,rfl⟩:=AL (F:=F1) [(173,F9)] ⟨ab,trivial⟩
  exact AH rfl ((AD (F9) rfl (⟨(Keep.refl _ _),A7⟩)))
 intro G0 G1 o4 q8 c0
 have ac:=t9.call o4
 have u5:Mv (b4 :: b2) h3 (b4 :: b2) G1:=Mv.of_keep o4
 have a3:=a3.mv u5
 have b0:=b0.mv u5
 have b3:=b3.mv u5
 have a4:=a4.keep o4 (by simp)
 have b1:=b1.keep o4 (by simp)
 obtain ⟨G2,ad,A8⟩:∃ v,G0 31=v∧BB Enc.u8 G1 ((b4 :: b2)++O) v ((BU (kL.take 1) (((BG kC kL ([(4:UInt8)])).2.1).drop 2) ([(200:UInt8)])).1):=⟨_,rfl,q8 9 31 kR (by decide)⟩
 have:=A8.len_le
 obtain ⟨F2,rfl⟩:=AL (F:=G0) [(5,vP (some ⟨a1,0,none⟩)),(6,c1),(11,vI ((CK kA ((CJ kC (1:Int)).2.1) kL).2)),(15,d6),(16,vI ((CK DW ((CJ kC (1:Int)).2.1) (kL.drop 1)).2)),(18,vI ((CK DW ((CJ kC (1:Int)).2.1) (((BG kC kL ([(4:UInt8)])).2.1).drop 1)).2)),(19,vP (some ⟨c4,0,none⟩)),(20,d3),(21,vI kE),(23,vI ((DN (⟨(0:Int),(0:Int),(0:Int),[],[]⟩:Circle) ([]) ([])).2)),(26,vI ((BG DW ([]) ([])).2.2)),(28,vI ((CK kX (0:Int) ((BG kC kL ([(4:UInt8)])).2.1)).2)),(30,vI ((BU ([]) ([]) ([])).2)),(252,undef),(31,G2),(174,vI ((BU (kL.take 1) (((BG kC kL ([(4:UInt8)])).2.1).drop 2) ([(200:UInt8)])).2))] ⟨c0 5 kR,c0 6 kR,c0 11 kR,c0 15 kR,c0 16 kR,c0 18 kR,c0 19 kR,c0 20 kR,c0 21 kR,c0 23 kR,c0 26 kR,c0 28 kR,c0 30 kR,c0 252 kR,ad,q8 8 174 kR (by decide),trivial⟩
 clear q8 c0
 refine AA (AD (vI ((BU (kL.take 1) (((BG kC kL ([(4:UInt8)])).2.1).drop 2) ([(200:UInt8)])).2)) rfl (AG (AC (AF (AF (AB kR (AA (AE (vI ((CK DW ((CJ kC (1:Int)).2.1) (kL.drop 1)).2)) rfl (AA (CT .i64 ((CK DW ((CJ kC (1:Int)).2.1) (kL.drop 1)).2) (0:Int) rfl rfl (AA (AE (vO (((CK DW ((CJ kC (1:Int)).2.1) (kL.drop 1)).2) != (0:Int))) rfl (?_)))))))))))))
 have M0:(((CK DW ((CJ kC (1:Int)).2.1) (kL.drop 1)).2) != (0:Int))=false:=(by decide +kernel)
 rw [M0]
 refine BJ rfl (AE (vI ((CK DW ((CJ kC (1:Int)).2.1) (((BG kC kL ([(4:UInt8)])).2.1).drop 1)).2)) rfl (BJ rfl (CT .i64 ((CK DW ((CJ kC (1:Int)).2.1) (((BG kC kL ([(4:UInt8)])).2.1).drop 1)).2) (460:Int) rfl rfl (AA (BX (vO (((CK DW ((CJ kC (1:Int)).2.1) (((BG kC kL ([(4:UInt8)])).2.1).drop 1)).2) != (460:Int))) rfl rfl (AA (AE (vO (((CK DW ((CJ kC (1:Int)).2.1) (((BG kC kL ([(4:UInt8)])).2.1).drop 1)).2) != (460:Int))) rfl (?_))))))))
 have M1:(((CK DW ((CJ kC (1:Int)).2.1) (((BG kC kL ([(4:UInt8)])).2.1).drop 1)).2) != (460:Int))=false:=(by decide +kernel)
 rw [M1]
 refine BJ rfl (AE (vI kE) rfl (BJ rfl (CT .i64 kE (0:Int) rfl rfl (AA (BX (vO (kE != (0:Int))) rfl rfl (AA (AE (vO (kE != (0:Int))) rfl (?_))))))))
 have M2:(kE != (0:Int))=false:=(by decide +kernel)
 rw [M2]
 refine BJ rfl (AE (vI ((DN (⟨(0:Int),(0:Int),(0:Int),[],[]⟩:Circle) ([]) ([])).2)) rfl (BJ rfl (CT .i64 ((DN (⟨(0:Int),(0:Int),(0:Int),[],[]⟩:Circle) ([]) ([])).2) (450:Int) rfl rfl (AA (BX (vO (((DN (⟨(0:Int),(0:Int),(0:Int),[],[]⟩:Circle) ([]) ([])).2) != (450:Int))) rfl rfl (AA (AE (vO (((DN (⟨(0:Int),(0:Int),(0:Int),[],[]⟩:Circle) ([]) ([])).2) != (450:Int))) rfl (?_))))))))
 have M3:(((DN (⟨(0:Int),(0:Int),(0:Int),[],[]⟩:Circle) ([]) ([])).2) != (450:Int))=false:=(by decide +kernel)
 rw [M3]
 refine BJ rfl (AE (vI ((BG DW ([]) ([])).2.2)) rfl (BJ rfl (CT .i64 ((BG DW ([]) ([])).2.2) (80:Int) rfl rfl (AA (BX (vO (((BG DW ([]) ([])).2.2) != (80:Int))) rfl rfl (AA (AE (vO (((BG DW ([]) ([])).2.2) != (80:Int))) rfl (?_))))))))
 have M4:(((BG DW ([]) ([])).2.2) != (80:Int))=false:=(by decide +kernel)
 rw [M4]
 refine BJ rfl (AE (vI ((CK kX (0:Int) ((BG kC kL ([(4:UInt8)])).2.1)).2)) rfl (BJ rfl (CT .i64 ((CK kX (0:Int) ((BG kC kL ([(4:UInt8)])).2.1)).2) (1:Int) rfl rfl (AA (BX (vO (((CK kX (0:Int) ((BG kC kL ([(4:UInt8)])).2.1)).2) != (1:Int))) rfl rfl (AA (AE (vO (((CK kX (0:Int) ((BG kC kL ([(4:UInt8)])).2.1)).2) != (1:Int))) rfl (?_))))))))
 have M5:(((CK kX (0:Int) ((BG kC kL ([(4:UInt8)])).2.1)).2) != (1:Int))=false:=(by decide +kernel)
 rw [M5]
 refine BJ rfl (AE (vI ((BU ([]) ([]) ([])).2)) rfl (BJ rfl (CT .i64 ((BU ([]) ([]) ([])).2) (80:Int) rfl rfl (AA (BX (vO (((BU ([]) ([]) ([])).2) != (80:Int))) rfl rfl (AA (AE (vO (((BU ([]) ([]) ([])).2) != (80:Int))) rfl (?_))))))))
 have M6:(((BU ([]) ([]) ([])).2) != (80:Int))=false:=(by decide +kernel)
 rw [M6]
 refine BJ rfl (AE (vI ((BU (kL.take 1) (((BG kC kL ([(4:UInt8)])).2.1).drop 2) ([(200:UInt8)])).2)) rfl (BJ rfl (CT .i64 ((BU (kL.take 1) (((BG kC kL ([(4:UInt8)])).2.1).drop 2) ([(200:UInt8)])).2) (0:Int) rfl rfl (AA (BX (vO (((BU (kL.take 1) (((BG kC kL ([(4:UInt8)])).2.1).drop 2) ([(200:UInt8)])).2) != (0:Int))) rfl rfl (AA (AE (vO (((BU (kL.take 1) (((BG kC kL ([(4:UInt8)])).2.1).drop 2) ([(200:UInt8)])).2) != (0:Int))) rfl (?_))))))))
 have M7:(((BU (kL.take 1) (((BG kC kL ([(4:UInt8)])).2.1).drop 2) ([(200:UInt8)])).2) != (0:Int))=false:=(by decide +kernel)
 rw [M7]
 refine BJ rfl (AE (vI ((CK kA ((CJ kC (1:Int)).2.1) kL).2)) rfl (BJ rfl (CT .i64 ((CK kA ((CJ kC (1:Int)).2.1) kL).2) (460:Int) rfl rfl (AA (BX (vO (((CK kA ((CJ kC (1:Int)).2.1) kL).2) != (460:Int))) rfl rfl (AA (AE (vO (((CK kA ((CJ kC (1:Int)).2.1) kL).2) != (460:Int))) rfl (?_))))))))
 have M8:(((CK kA ((CJ kC (1:Int)).2.1) kL).2) != (460:Int))=false:=(by decide +kernel)
 rw [M8]
 refine BJ rfl (AE (d3) rfl (BJ rfl (CA U32_ rfl b3 (BJ rfl (CT .i64 (kW.length:Int) (1:Int) rfl rfl (AA (BX (vO ((kW.length:Int) != (1:Int))) rfl rfl (AG (AC (?_))))))))))
 have M9:((kW.length:Int) != (1:Int))=false:=(by decide +kernel)
 rw [M9]
 refine AJ false rfl rfl (fun h=>by cases h) (fun _=>AO (AC (AF (AB kR (AA (AE (d6) rfl (AA (UJ U23_ U5_ U9_ rfl b0 (AA (o_eqlS ((CK DW ((CJ kC (1:Int)).2.1) (kL.drop 1)).1) ([7]:List UInt8) rfl rfl (AA (AE (vO (((CK DW ((CJ kC (1:Int)).2.1) (kL.drop 1)).1) == ([7]:List UInt8))) rfl (?_)))))))))))))
 have N0:(((CK DW ((CJ kC (1:Int)).2.1) (kL.drop 1)).1) == ([7]:List UInt8))=true:=(by decide +kernel)
 rw [N0]
 refine BJ rfl (AU 0 MR rfl (BJ rfl (AW U3_ rfl (vI kX.epoch) rfl a4 rfl (BJ rfl (GO .i64 kX.epoch (1:Int) rfl rfl (AA (AX (vO (kX.epoch == (1:Int))) rfl rfl (AA (AE (vO (kX.epoch == (1:Int))) rfl (?_))))))))))
 have N1:(kX.epoch == (1:Int))=true:=(by decide +kernel)
 rw [N1]
 refine BJ rfl (AE (c1) rfl (BJ rfl (CP U32_ CZ .i64 (0:Int) 0 rfl rfl rfl a3 (by decide +kernel) fun bz N2=>(BJ rfl (BH 0 HD ((((BG kC kL ([(4:UInt8)])).2.1)[0]!).epoch) rfl N2 (fun _ _ _ h=>FM h) fun bA N3=>(BJ rfl (CC U3_ rfl rfl N3 (BJ rfl (GO .i64 ((((BG kC kL ([(4:UInt8)])).2.1)[0]!).epoch) (1:Int) rfl rfl (AA (AX (vO (((((BG kC kL ([(4:UInt8)])).2.1)[0]!).epoch) == (1:Int))) rfl rfl (AA (AE (vO (((((BG kC kL ([(4:UInt8)])).2.1)[0]!).epoch) == (1:Int))) rfl (?_))))))))))))))
 have N4:(((((BG kC kL ([(4:UInt8)])).2.1)[0]!).epoch) == (1:Int))=true:=(by decide +kernel)
 rw [N4]
 refine BJ rfl (AU 0 MR rfl (BJ rfl (AW U3_ rfl (vI kZ.epoch) rfl b1 rfl (BJ rfl (GO .i64 kZ.epoch (1:Int) rfl rfl (AA (AX (vO (kZ.epoch == (1:Int))) rfl rfl (AA (AE (vO (kZ.epoch == (1:Int))) rfl (?_))))))))))
 have N5:(kZ.epoch == (1:Int))=true:=(by decide +kernel)
 rw [N5]
 refine BJ rfl (AU 1 OQ rfl (BJ rfl (AW U3_ rfl (vI kZ.threshold) rfl b1 rfl (BJ rfl (GO .i64 kZ.threshold (1:Int) rfl rfl (AA (AX (vO (kZ.threshold == (1:Int))) rfl rfl (AA (AE (vO (kZ.threshold == (1:Int))) rfl (?_))))))))))
 have N6:(kZ.threshold == (1:Int))=true:=(by decide +kernel)
 rw [N6]
 refine BJ rfl (AE (d3) rfl (BJ rfl (CP U32_ CZ .i64 (0:Int) 0 rfl rfl rfl b3 (by decide +kernel) fun bB N7=>(BJ rfl (BH 4 EP ((kW[0]!).data) rfl N7 (fun _ _ _ h=>EG h) fun bC N8=>(BJ rfl (CF U23_ rfl rfl N8 fun bD A9=>(?_))))))))
 have:=A9.len_le
 refine BJ rfl (UJ U23_ U5_ U9_ rfl A9 (BJ rfl (o_eqlS ((kW[0]!).data) ([7]:List UInt8) rfl rfl (AA (AX (vO (((kW[0]!).data) == ([7]:List UInt8))) rfl rfl (AA (AE (vO (((kW[0]!).data) == ([7]:List UInt8))) rfl (?_))))))))
 have N9:(((kW[0]!).data) == ([7]:List UInt8))=true:=(by decide +kernel)
 rw [N9]
 refine BJ rfl (AE (G2) rfl (BJ rfl (CA U23_ rfl A8 (BJ rfl (GO .i64 (((BU (kL.take 1) (((BG kC kL ([(4:UInt8)])).2.1).drop 2) ([(200:UInt8)])).1).length:Int) (2:Int) rfl rfl (AA (AX (vO ((((BU (kL.take 1) (((BG kC kL ([(4:UInt8)])).2.1).drop 2) ([(200:UInt8)])).1).length:Int) == (2:Int))) rfl rfl (AA (AD (vO ((((BU (kL.take 1) (((BG kC kL ([(4:UInt8)])).2.1).drop 2) ([(200:UInt8)])).1).length:Int) == (2:Int))) rfl (AG (AC (AM (AS rfl (CN rfl rfl rfl) (?_))))))))))))))
 have e:true=((((BU (kL.take 1) (((BG kC kL ([(4:UInt8)])).2.1).drop 2) ([(200:UInt8)])).1).length:Int) == (2:Int)):=by rfl
 exact ⟨_,rfl,ac.keep,(by exact congrArg vO e.symm)⟩
open Go.Fw Go.RowKit
set_option maxHeartbeats 4000000 in
set_option maxRecDepth 100000 in
theorem c_refAlike {O:List Nat} (l_v:Value) (l:List Share) (w:World) (a2:BB Enc.share w O l_v l) (hO:∀ b∈O,b<w.heap.size):CE Try.prog 99 [l_v] w (fun v _=>v = .bool (DH l)):= by
 have f5:=a2.len_le
 have a2:BB Enc.share w ([]++O) l_v l:=a2
 have s0:St w O w []:=St.start hO
 refine BI 91 Try.func99 rfl rfl oT (fun F0=>AF (AB kR (AA (AD (vO false) rfl (AG (AC (AF (AF (AB kR (AA (AE (l_v) rfl (AA (CA U32_ rfl a2 (AA (GO .i64 (l.length:Int) (0:Int) rfl rfl (AG (AC (AJ ((l.length:Int) == (0:Int)) rfl rfl (fun b0=>?_) (fun b0=>?_)))))))))))))))))))
 ·have f6:(l.length:Int)=(0:Int):=by simpa using b0
  refine AF (AB kR (AA (AD (vO false) rfl (AG (AC (AM (AK (AS rfl (CN rfl rfl rfl) (?_)))))))))
  have e:(DH l)=false:=by (unfold DH;((repeat ((refine (if_pos ?_).trans ?_;omega)));rfl))
  exact ⟨_,rfl,s0.keep,(by exact congrArg vO e.symm)⟩
 have f7:(l.length:Int)≠(0:Int):=by simpa using b0
 refine AO (AC (AF (AB kR (AA (AE (l_v) rfl (AA (CP U32_ CZ .i64 (0:Int) 0 rfl rfl rfl a2 oM fun i2 d3=>(AA (DF U70_ rfl CZ rfl d3 fun d4 b1=>(AA (DE [vI 0,vI 0,vI 0,vI 0,nS] KU rfl s0 fun a6 e3 e4 e5 d1 i3 d5=>(?_))))))))))))
 clear e4
 have a2:=a2.mv d1
 have b1:Enc.share.rd e3 ((a6 :: [])++O) d4 (l[0]!):=Enc.mv Enc.share (x:=l[0]!) b1 d1
 obtain ⟨a8,rfl,a1⟩:=b1
 have:=a1.len_le
 refine CB (BF (vs:=[vI ((l[0]!).epoch),vI ((l[0]!).index),vI ((l[0]!).threshold),vI ((l[0]!).many),a8]) (.agg #[vI ((l[0]!).epoch),vI ((l[0]!).index),vI ((l[0]!).threshold),vI ((l[0]!).many),a8]) rfl rfl rfl CZ (fun u hu=>by simp only [List.mem_cons,List.not_mem_nil,or_false] at hu;rcases hu with rfl|rfl|rfl|rfl|rfl <;> first|rfl|exact a1.oneCell) (by repeat (constructor)) d5 oT e5 fun i4 a9 d2 i5 a0=>(?_))
 have a2:=a2.mv d2
 have a1:=a1.mv d2
 refine AG (AC (AF (AF (AB kR (AA (AU 2 HK rfl (AA (AW U3_ rfl (vI ((l[0]!).threshold)) rfl a0 rfl (AA (DO .i64 ((l[0]!).threshold) (1:Int) rfl rfl (AA (AE (vO (decide ((l[0]!).threshold<(1:Int)))) rfl (?_)))))))))))))
 cases c2:(decide ((l[0]!).threshold<(1:Int)))
 ·have f8:(1:Int)≤(l[0]!).threshold:=by simpa using c2
  refine BJ rfl (AU 2 HK rfl (BJ rfl (AW U3_ rfl (vI ((l[0]!).threshold)) rfl a0 rfl (BJ rfl (AU 3 HF rfl (BJ rfl (AW U3_ rfl (vI ((l[0]!).many)) rfl a0 rfl (BJ rfl (GQ .i64 ((l[0]!).threshold) ((l[0]!).many) rfl rfl (AA (BX (vO (decide ((l[0]!).many<(l[0]!).threshold))) rfl rfl (AA (AE (vO (decide ((l[0]!).many<(l[0]!).threshold))) rfl (?_))))))))))))))
  cases c3:(decide ((l[0]!).many<(l[0]!).threshold))
  ·have f9:(l[0]!).threshold≤(l[0]!).many:=by simpa using c3
   refine BJ rfl (AU 3 HF rfl (BJ rfl (AW U3_ rfl (vI ((l[0]!).many)) rfl a0 rfl (BJ rfl (GQ .i64 ((l[0]!).many) (8:Int) rfl rfl (AA (BX (vO (decide ((8:Int)<(l[0]!).many))) rfl rfl (AA (AE (vO (decide ((8:Int)<(l[0]!).many))) rfl (?_))))))))))
   cases c4:(decide ((8:Int)<(l[0]!).many))
   ·have g0:(l[0]!).many≤(8:Int):=by simpa using c4
    refine BJ rfl (AU 4 EP rfl (BJ rfl (AW U23_ rfl (a8) rfl a0 rfl (BJ rfl (CA U23_ rfl a1 (BJ rfl (GQ .i64 (((l[0]!).data).length:Int) (64:Int) rfl rfl (AA (BX (vO (decide ((64:Int)<(((l[0]!).data).length:Int)))) rfl rfl (AG (AC (AJ (decide ((64:Int)<(((l[0]!).data).length:Int))) rfl rfl (fun b2=>?_) (fun b2=>?_)))))))))))))
    ·have g1:(64:Int)<(((l[0]!).data).length:Int):=by simpa using b2
     refine AF (AB kR (AA (AD (vO false) rfl (AG (AC (AM (AK (AS rfl (CN rfl rfl rfl) (?_)))))))))
     have e:(DH l)=false:=by (unfold DH;((repeat (first|(refine (if_pos ?_).trans ?_;solve|(simp only [MW];omega))|(refine (if_neg ?_).trans ?_;solve|(simp only [MW];omega))));rfl))
     exact ⟨_,rfl,a9.keep,(by exact congrArg vO e.symm)⟩
    have g2:(((l[0]!).data).length:Int)≤(64:Int):=by simpa using b2
    refine AO (AC (AF (AF (AB kR (AA (AD (vI 0) rfl (AG (AC (BA (CX (fun mI FI wI=>∃ (k:Nat) (B:List Nat),k≤l.length∧DH l=EX (fun k=>if XT l k then some false else none) true k (l.length - k)∧mI=l.length - k∧(∃ F1,FI=FR F1 [(0,l_v),(3,vP (some ⟨a6,0,none⟩)),(4,vI ((k:Nat):Int)),(91,undef)])∧St w O wI B∧BB Enc.share wI (B++O) (l_v) (l)∧BB Enc.u8 wI (B++O) (a8) ((l[0]!).data)∧IB wI a6 70 [vI ((l[0]!).epoch),vI ((l[0]!).index),vI ((l[0]!).threshold),vI ((l[0]!).many),a8]∧a6∈B) (l.length - (0)) ?_ ?_))))))))))
    ·exact ⟨(0),(a6 :: []),oM,(by unfold DH;((repeat ((refine (if_neg ?_).trans ?_;solve|(simp only [MW];omega))));rfl)),rfl,⟨_,AP _ ⟨rfl,rfl,(by rfl),rfl,trivial⟩⟩,a9,a2,a1,a0,(by (repeat (exact List.mem_cons_self)))⟩
    intro i9 F j0 hI
    clear a2 a1 a0
    obtain ⟨k,b7,hr0_0,hr0_1,j1,⟨j2,rfl⟩,e2,a2,a1,a0,e6⟩:=hI
    refine AF (AF (AB kR (AA (AE (vI ((k:Nat):Int)) rfl (AA (AE (l_v) rfl (AA (CA U32_ rfl a2 (AA (DO .i64 ((k:Nat):Int) (l.length:Int) rfl rfl (AG (AC (AJ (decide (((k:Nat):Int)<(l.length:Int))) rfl rfl (fun b3=>?_) (fun b3=>?_))))))))))))))
    ·have g3:((k:Nat):Int)<(l.length:Int):=by simpa using b3
     refine AO (AC (AF (BA (AF (AB kR (AA (AE (l_v) rfl (AA (AE (vI ((k:Nat):Int)) rfl (AA (CP U32_ CZ .i64 ((k:Nat):Int) k rfl rfl rfl a2 oM fun i6 d6=>(AA (DF U70_ rfl CZ rfl d6 fun d7 b4=>(AA (DE [vI 0,vI 0,vI 0,vI 0,nS] KU rfl e2 fun a7 e7 e8 e9 b8 f0 d8=>(?_))))))))))))))))
     have d9:GV a6 a7:=by show a6≠a7;have:=a0.lt;omega
     clear e8
     have a2:=a2.mv b8
     have b4:Enc.share.rd e7 ((a7 :: b7)++O) d7 (l[k]!):=Enc.mv Enc.share (x:=l[k]!) b4 b8
     have a1:=a1.mv b8
     have a0:=a0.keep f0 (by simp)
     obtain ⟨b9,rfl,a4⟩:=b4
     have:=a4.len_le
     refine CB (BF (vs:=[vI ((l[k]!).epoch),vI ((l[k]!).index),vI ((l[k]!).threshold),vI ((l[k]!).many),b9]) (.agg #[vI ((l[k]!).epoch),vI ((l[k]!).index),vI ((l[k]!).threshold),vI ((l[k]!).many),b9]) rfl rfl rfl CZ (fun u hu=>by simp only [List.mem_cons,List.not_mem_nil,or_false] at hu;rcases hu with rfl|rfl|rfl|rfl|rfl <;> first|rfl|exact a4.oneCell) (by repeat (constructor)) d8 oT e9 fun f1 f2 c0 f3 a3=>(?_))
     have a2:=a2.mv c0
     have a4:=a4.mv c0
     have a1:=a1.mv c0
     have a0:=a0.keep f3 (BC d9)
     refine AG (AC (AF (FJ 48 _ _ kR kR kR kR kR rfl rfl fun f4 b5=>?_)))
     have a5:=f2.call b5
     have c1:Mv (a7 :: b7) f1 (a7 :: b7) f4:=Mv.of_keep b5
     have a2:=a2.mv c1
     have a4:=a4.mv c1
     have a1:=a1.mv c1
     have a0:=a0.keep b5 (by simp)
     have a3:=a3.keep b5 (by simp)
     refine BM (AU 2 HK rfl (BM (AW U3_ rfl (vI ((l[k]!).threshold)) rfl a3 rfl (BM (AU 2 HK rfl (BM (AW U3_ rfl (vI ((l[0]!).threshold)) rfl a0 rfl (BM (CT .i64 ((l[k]!).threshold) ((l[0]!).threshold) rfl rfl (BM (AE (vO (((l[k]!).threshold) != ((l[0]!).threshold))) rfl (?_))))))))))))
     cases c5:(((l[k]!).threshold) != ((l[0]!).threshold))
     ·have g4:(l[k]!).threshold=(l[0]!).threshold:=by simpa using c5
      refine DR rfl (AU 3 HF rfl (DR rfl (AW U3_ rfl (vI ((l[k]!).many)) rfl a3 rfl (DR rfl (AU 3 HF rfl (DR rfl (AW U3_ rfl (vI ((l[0]!).many)) rfl a0 rfl (DR rfl (CT .i64 ((l[k]!).many) ((l[0]!).many) rfl rfl (BM (BX (vO (((l[k]!).many) != ((l[0]!).many))) rfl rfl (BM (AE (vO (((l[k]!).many) != ((l[0]!).many))) rfl (?_))))))))))))))
      cases c6:(((l[k]!).many) != ((l[0]!).many))
      ·have g5:(l[k]!).many=(l[0]!).many:=by simpa using c6
       refine DR rfl (AU 4 EP rfl (DR rfl (AW U23_ rfl (b9) rfl a3 rfl (DR rfl (CA U23_ rfl a4 (DR rfl (AU 4 EP rfl (DR rfl (AW U23_ rfl (a8) rfl a0 rfl (DR rfl (CA U23_ rfl a1 (DR rfl (CT .i64 (((l[k]!).data).length:Int) (((l[0]!).data).length:Int) rfl rfl (BM (BX (vO ((((l[k]!).data).length:Int) != (((l[0]!).data).length:Int))) rfl rfl (BM (AE (vO ((((l[k]!).data).length:Int) != (((l[0]!).data).length:Int))) rfl (?_))))))))))))))))))
       cases c7:((((l[k]!).data).length:Int) != (((l[0]!).data).length:Int))
       ·have g6:(((l[k]!).data).length:Int)=(((l[0]!).data).length:Int):=by simpa using c7
        refine DR rfl (AU 1 KJ rfl (DR rfl (AW U3_ rfl (vI ((l[k]!).index)) rfl a3 rfl (DR rfl (DO .i64 ((l[k]!).index) (1:Int) rfl rfl (BM (BX (vO (decide ((l[k]!).index<(1:Int)))) rfl rfl (BM (AE (vO (decide ((l[k]!).index<(1:Int)))) rfl (?_))))))))))
        cases c8:(decide ((l[k]!).index<(1:Int)))
        ·have g7:(1:Int)≤(l[k]!).index:=by simpa using c8
         refine DR rfl (AU 1 KJ rfl (DR rfl (AW U3_ rfl (vI ((l[k]!).index)) rfl a3 rfl (DR rfl (AU 3 HF rfl (DR rfl (AW U3_ rfl (vI ((l[0]!).many)) rfl a0 rfl (DR rfl (GQ .i64 ((l[k]!).index) ((l[0]!).many) rfl rfl (BM (BX (vO (decide ((l[0]!).many<(l[k]!).index))) rfl rfl (BM (AE (vO (decide ((l[0]!).many<(l[k]!).index))) rfl (?_))))))))))))))
         cases c9:(decide ((l[0]!).many<(l[k]!).index))
         ·have g8:(l[k]!).index≤(l[0]!).many:=by simpa using c9
          refine DR rfl (AE (vI ((k:Nat):Int)) rfl (DR rfl (GQ .i64 ((k:Nat):Int) (0:Int) rfl rfl (DR rfl (AE (vO (decide ((0:Int)<((k:Nat):Int)))) rfl (?_))))))
          cases d0:(decide ((0:Int)<((k:Nat):Int)))
          ·have g9:((k:Nat):Int)≤(0:Int):=by simpa using d0
           refine CD rfl (CD rfl (CD rfl (CD rfl (CD rfl (CD rfl (CD rfl (CD rfl (CD rfl (DR rfl (BX (vO false) rfl rfl (BM (BX (vO false) rfl rfl (EQ (AG (AC (AJ false rfl rfl (fun h=>by cases h) (fun _=>AO (BZ (AC (AB kR (AA (AE (vI ((k:Nat):Int)) rfl (AA (DC .i64 ((k:Nat):Int) (1:Int) (((k+1:Nat):Int)) rfl rfl (FQ oM oM) (AA (AD (vI ((k+1:Nat):Int)) rfl (AG (AC (?_)))))))))))))))))))))))))))))
           exact ⟨_,oM,(k+1),(a7 :: b7),oM,(hr0_1.trans (FF oM (by ((repeat ((refine (if_neg ?_).trans ?_;solve|(simp only [MW];omega))));rfl)))),rfl,⟨_,AP _ ⟨rfl,rfl,(by rfl),rfl,trivial⟩⟩,a5,a2,a1,a0,(by (repeat (first|assumption|apply List.mem_cons_of_mem)))⟩
          have h0:(0:Int)<((k:Nat):Int):=by simpa using d0
          refine DR rfl (AU 1 KJ rfl (DR rfl (AW U3_ rfl (vI ((l[k]!).index)) rfl a3 rfl (DR rfl (AE (l_v) rfl (DR rfl (AE (vI ((k:Nat):Int)) rfl (DR rfl (IA .i64 ((k:Nat):Int) (1:Int) (((k - 1:Nat):Int)) rfl rfl (FQ oM oM) (DR rfl (CP U32_ CZ .i64 ((k - 1:Nat):Int) (k - 1) rfl rfl rfl a2 oM fun i7 e0=>(DR rfl (BH 1 KJ ((l[k - 1]!).index) rfl e0 (fun _ _ _ h=>IL h) fun i8 e1=>(DR rfl (CC U3_ rfl rfl e1 (DR rfl (o_leq .i64 ((l[k]!).index) ((l[k - 1]!).index) rfl rfl (DR rfl (AX (vO (decide ((l[k]!).index≤(l[k - 1]!).index))) rfl rfl (BM (BX (vO (decide ((l[k]!).index≤(l[k - 1]!).index))) rfl rfl (EQ (AG (AC (AJ (decide ((l[k]!).index≤(l[k - 1]!).index)) rfl rfl (fun b6=>?_) (fun b6=>?_))))))))))))))))))))))))))
          ·have h1:(l[k]!).index≤(l[k - 1]!).index:=by simpa using b6
           refine AF (AB kR (AA (AD (vO false) rfl (AG (AC (AM (BK (AK (AK (BK (AK (AS rfl (CN rfl rfl rfl) (?_)))))))))))))
           have e:(DH l)=false:=by (rw [hr0_1];exact DB oM (by ((repeat ((refine (if_pos ?_).trans ?_;solve|(simp only [MW];omega))));rfl)))
           exact ⟨_,rfl,a5.keep,(by exact congrArg vO e.symm)⟩
          have h2:(l[k - 1]!).index<(l[k]!).index:=by simpa using b6
          refine AO (BZ (AC (AB kR (AA (AE (vI ((k:Nat):Int)) rfl (AA (DC .i64 ((k:Nat):Int) (1:Int) (((k+1:Nat):Int)) rfl rfl (FQ oM oM) (AA (AD (vI ((k+1:Nat):Int)) rfl (AG (AC (?_))))))))))))
          exact ⟨_,oM,(k+1),(a7 :: b7),oM,(hr0_1.trans (FF oM (by ((repeat ((refine (if_neg ?_).trans ?_;solve|(simp only [MW];omega))));rfl)))),rfl,⟨_,AP _ ⟨rfl,rfl,(by rfl),rfl,trivial⟩⟩,a5,a2,a1,a0,(by (repeat (first|assumption|apply List.mem_cons_of_mem)))⟩
         have h3:(l[0]!).many<(l[k]!).index:=by simpa using c9
         refine CD rfl (CD rfl (CD rfl (GL rfl (GL rfl (GL rfl (GL rfl (GL rfl (GL rfl (GL rfl (GL rfl (GL rfl (CD rfl (BM (AX (vO true) rfl rfl (EQ (AG (AC (AJ true rfl rfl (fun _=>AF (AB kR (AA (AD (vO false) rfl (AG (AC (AM (BK (AK (AK (BK (AK (AS rfl (CN rfl rfl rfl) (?_)))))))))))))) (fun h=>by cases h)))))))))))))))))))
         have e:(DH l)=false:=by (rw [hr0_1];exact DB oM (by ((repeat ((refine (if_pos ?_).trans ?_;solve|(simp only [MW];omega))));rfl)))
         exact ⟨_,rfl,a5.keep,(by exact congrArg vO e.symm)⟩
        have h4:(l[k]!).index<(1:Int):=by simpa using c8
        refine CD rfl (CD rfl (CD rfl (CD rfl (CD rfl (BM (AX (vO true) rfl rfl (BM (AE (vO true) rfl (CD rfl (CD rfl (CD rfl (GL rfl (GL rfl (GL rfl (GL rfl (GL rfl (GL rfl (GL rfl (GL rfl (GL rfl (CD rfl (BM (AX (vO true) rfl rfl (EQ (AG (AC (AJ true rfl rfl (fun _=>AF (AB kR (AA (AD (vO false) rfl (AG (AC (AM (BK (AK (AK (BK (AK (AS rfl (CN rfl rfl rfl) (?_)))))))))))))) (fun h=>by cases h))))))))))))))))))))))))))))
        have e:(DH l)=false:=by (rw [hr0_1];exact DB oM (by ((repeat ((refine (if_pos ?_).trans ?_;solve|(simp only [MW];omega))));rfl)))
        exact ⟨_,rfl,a5.keep,(by exact congrArg vO e.symm)⟩
       have h5:(((l[k]!).data).length:Int)≠(((l[0]!).data).length:Int):=by simpa using c7
       refine CD rfl (CD rfl (CD rfl (BM (AX (vO true) rfl rfl (BM (AE (vO true) rfl (CD rfl (CD rfl (CD rfl (CD rfl (CD rfl (BM (AX (vO true) rfl rfl (BM (AE (vO true) rfl (CD rfl (CD rfl (CD rfl (GL rfl (GL rfl (GL rfl (GL rfl (GL rfl (GL rfl (GL rfl (GL rfl (GL rfl (CD rfl (BM (AX (vO true) rfl rfl (EQ (AG (AC (AJ true rfl rfl (fun _=>AF (AB kR (AA (AD (vO false) rfl (AG (AC (AM (BK (AK (AK (BK (AK (AS rfl (CN rfl rfl rfl) (?_)))))))))))))) (fun h=>by cases h)))))))))))))))))))))))))))))))))))
       have e:(DH l)=false:=by (rw [hr0_1];exact DB oM (by ((repeat ((refine (if_pos ?_).trans ?_;solve|(simp only [MW];omega))));rfl)))
       exact ⟨_,rfl,a5.keep,(by exact congrArg vO e.symm)⟩
      have h6:(l[k]!).many≠(l[0]!).many:=by simpa using c6
      refine CD rfl (CD rfl (CD rfl (CD rfl (CD rfl (CD rfl (CD rfl (BM (AX (vO true) rfl rfl (BM (AE (vO true) rfl (CD rfl (CD rfl (CD rfl (BM (AX (vO true) rfl rfl (BM (AE (vO true) rfl (CD rfl (CD rfl (CD rfl (CD rfl (CD rfl (BM (AX (vO true) rfl rfl (BM (AE (vO true) rfl (CD rfl (CD rfl (CD rfl (GL rfl (GL rfl (GL rfl (GL rfl (GL rfl (GL rfl (GL rfl (GL rfl (GL rfl (CD rfl (BM (AX (vO true) rfl rfl (EQ (AG (AC (AJ true rfl rfl (fun _=>AF (AB kR (AA (AD (vO false) rfl (AG (AC (AM (BK (AK (AK (BK (AK (AS rfl (CN rfl rfl rfl) (?_)))))))))))))) (fun h=>by cases h))))))))))))))))))))))))))))))))))))))))))))))
      have e:(DH l)=false:=by (rw [hr0_1];exact DB oM (by ((repeat ((refine (if_pos ?_).trans ?_;solve|(simp only [MW];omega))));rfl)))
      exact ⟨_,rfl,a5.keep,(by exact congrArg vO e.symm)⟩
     have h7:(l[k]!).threshold≠(l[0]!).threshold:=by simpa using c5
     refine CD rfl (CD rfl (CD rfl (CD rfl (CD rfl (BM (AX (vO true) rfl rfl (BM (AE (vO true) rfl (CD rfl (CD rfl (CD rfl (CD rfl (CD rfl (CD rfl (CD rfl (BM (AX (vO true) rfl rfl (BM (AE (vO true) rfl (CD rfl (CD rfl (CD rfl (BM (AX (vO true) rfl rfl (BM (AE (vO true) rfl (CD rfl (CD rfl (CD rfl (CD rfl (CD rfl (BM (AX (vO true) rfl rfl (BM (AE (vO true) rfl (CD rfl (CD rfl (CD rfl (GL rfl (GL rfl (GL rfl (GL rfl (GL rfl (GL rfl (GL rfl (GL rfl (GL rfl (CD rfl (BM (AX (vO true) rfl rfl (EQ (AG (AC (AJ true rfl rfl (fun _=>AF (AB kR (AA (AD (vO false) rfl (AG (AC (AM (BK (AK (AK (BK (AK (AS rfl (CN rfl rfl rfl) (?_)))))))))))))) (fun h=>by cases h)))))))))))))))))))))))))))))))))))))))))))))))))))))))
     have e:(DH l)=false:=by (rw [hr0_1];exact DB oM (by ((repeat ((refine (if_pos ?_).trans ?_;solve|(simp only [MW];omega))));rfl)))
     exact ⟨_,rfl,a5.keep,(by exact congrArg vO e.symm)⟩
    have h8:(l.length:Int)≤((k:Nat):Int):=by simpa using b3
    refine CV (BL (BL (CL (AC (AF (AB kR (AA (AD (vO true) rfl (AG (AC (AM (AS rfl (CN rfl rfl rfl) (?_)))))))))))))
    have e:(DH l)=true:=by (rw [hr0_1];exact GR oM)
    exact ⟨_,rfl,e2.keep,(by exact congrArg vO e.symm)⟩
   have h9:(8:Int)<(l[0]!).many:=by simpa using c4
   refine AT rfl (AT rfl (AT rfl (AT rfl (AA (AX (vO true) rfl rfl (AG (AC (AJ true rfl rfl (fun _=>AF (AB kR (AA (AD (vO false) rfl (AG (AC (AM (AK (AS rfl (CN rfl rfl rfl) (?_)))))))))) (fun h=>by cases h)))))))))
   have e:(DH l)=false:=by (unfold DH;((repeat (first|(refine (if_pos ?_).trans ?_;solve|(simp only [MW];omega))|(refine (if_neg ?_).trans ?_;solve|(simp only [MW];omega))));rfl))
   exact ⟨_,rfl,a9.keep,(by exact congrArg vO e.symm)⟩
  have i0:(l[0]!).many<(l[0]!).threshold:=by simpa using c3
  refine AT rfl (AT rfl (AT rfl (AA (AX (vO true) rfl rfl (AA (AE (vO true) rfl (AT rfl (AT rfl (AT rfl (AT rfl (AA (AX (vO true) rfl rfl (AG (AC (AJ true rfl rfl (fun _=>AF (AB kR (AA (AD (vO false) rfl (AG (AC (AM (AK (AS rfl (CN rfl rfl rfl) (?_)))))))))) (fun h=>by cases h))))))))))))))))
  have e:(DH l)=false:=by (unfold DH;((repeat (first|(refine (if_pos ?_).trans ?_;solve|(simp only [MW];omega))|(refine (if_neg ?_).trans ?_;solve|(simp only [MW];omega))));rfl))
  exact ⟨_,rfl,a9.keep,(by exact congrArg vO e.symm)⟩
 have i1:(l[0]!).threshold<(1:Int):=by simpa using c2
 refine AT rfl (AT rfl (AT rfl (AT rfl (AT rfl (AA (AX (vO true) rfl rfl (AA (AE (vO true) rfl (AT rfl (AT rfl (AT rfl (AA (AX (vO true) rfl rfl (AA (AE (vO true) rfl (AT rfl (AT rfl (AT rfl (AT rfl (AA (AX (vO true) rfl rfl (AG (AC (AJ true rfl rfl (fun _=>AF (AB kR (AA (AD (vO false) rfl (AG (AC (AM (AK (AS rfl (CN rfl rfl rfl) (?_)))))))))) (fun h=>by cases h)))))))))))))))))))))))))
 have e:(DH l)=false:=by (unfold DH;((repeat (first|(refine (if_pos ?_).trans ?_;solve|(simp only [MW];omega))|(refine (if_neg ?_).trans ?_;solve|(simp only [MW];omega))));rfl))
 exact ⟨_,rfl,a9.keep,(by exact congrArg vO e.symm)⟩
set_option maxHeartbeats 4000000 in
set_option maxRecDepth 100000 in
theorem OX {O:List Nat} (l_v:Value) (l:List Share) (w:World) (a0:BB Enc.share w O l_v l) (hO:∀ b∈O,b<w.heap.size):CE Try.prog 57 [l_v] w (fun v _=>v=vI (BP l)):= by
 have c4:=a0.len_le
 have a0:BB Enc.share w ([]++O) l_v l:=a0
 have s0:St w O w []:=St.start hO
 refine BI 39 Try.func57 rfl rfl oT (fun F0=>AF (AB kR (AA (AD (vI 0) rfl (AG (AC (AF (AF (AB kR (AA (AE (l_v) rfl (AA (AZ (vs:=[l_v]) enter_99 (c_refAlike (O:=[]++O) l_v l w a0 s0.lt) rfl s0 fun d5 d6 a7 b9 d7 c0=>(?_))))))))))))))
 obtain rfl:=c0
 have a0:=a0.mv b9
 refine AA (HP (DH l) rfl (AG (AC (AJ (!(DH l)) rfl rfl (fun a1=>?_) (fun a1=>?_)))))
 ·have c5:(DH l)=false:=by simpa using a1
  refine AF (AB kR (AA (AD (vI 80) rfl (AG (AC (AM (AK (AS rfl (CN rfl rfl rfl) (?_)))))))))
  have e:(BP l)=(80:Int):=by (unfold BP;((repeat ((refine (if_pos ?_).trans ?_;omega)));rfl))
  exact ⟨_,rfl,a7.keep,by rw [e];exact rfl⟩
 have c6:(DH l)=true:=by simpa using a1
 refine AO (AC (AF (AF (AB kR (AA (AD (vI 0) rfl (AG (AC (BA (CX (fun mI FI wI=>∃ (k:Nat) (B:List Nat),k≤l.length∧BP l=EX (fun k=>if ep1 l k then some 81 else none) 0 k (l.length - k)∧mI=l.length - k∧(∃ F1,FI=FR F1 [(0,l_v),(3,vI ((k:Nat):Int)),(39,undef)])∧St w O wI B∧BB Enc.share wI (B++O) (l_v) (l)) (l.length - (0)) ?_ ?_))))))))))
 ·exact ⟨(0),[],oM,(by unfold BP;((repeat ((refine (if_neg ?_).trans ?_;solve|(simp only [*,dbs];done))));rfl)),rfl,⟨_,AP _ ⟨rfl,(by rfl),rfl,trivial⟩⟩,a7,a0⟩
 intro e6 F c3 hI
 clear a0
 obtain ⟨k,a8,hr0_0,hr0_1,e7,⟨e8,rfl⟩,b8,a0⟩:=hI
 refine AF (AF (AB kR (AA (AE (vI ((k:Nat):Int)) rfl (AA (AE (l_v) rfl (AA (CA U32_ rfl a0 (AA (DO .i64 ((k:Nat):Int) (l.length:Int) rfl rfl (AG (AC (AJ (decide (((k:Nat):Int)<(l.length:Int))) rfl rfl (fun a2=>?_) (fun a2=>?_))))))))))))))
 ·have c7:((k:Nat):Int)<(l.length:Int):=by simpa using a2
  refine AO (AC (AF (BA (AF (FJ 26 _ _ kR kR kR kR kR rfl rfl fun c1 a9=>?_)))))
  have a3:=b8.call a9
  have c2:Mv a8 c3 a8 c1:=Mv.of_keep a9
  have a0:=a0.mv c2
  refine BM (AE (l_v) rfl (BM (AE (vI ((k:Nat):Int)) rfl (BM (CP U32_ CZ .i64 ((k:Nat):Int) k rfl rfl rfl a0 oM fun d8 b0=>(BM (BH 0 HD ((l[k]!).epoch) rfl b0 (fun _ _ _ h=>FM h) fun d9 b1=>(BM (CC U3_ rfl rfl b1 (BM (AE (l_v) rfl (BM (CP U32_ CZ .i64 (0:Int) 0 rfl rfl rfl a0 oM fun e0 b2=>(BM (BH 0 HD ((l[0]!).epoch) rfl b2 (fun _ _ _ h=>FM h) fun e1 b3=>(BM (CC U3_ rfl rfl b3 (BM (CT .i64 ((l[k]!).epoch) ((l[0]!).epoch) rfl rfl (BM (AE (vO (((l[k]!).epoch) != ((l[0]!).epoch))) rfl (?_))))))))))))))))))))))
  cases a5:(((l[k]!).epoch) != ((l[0]!).epoch))
  ·have c8:(l[k]!).epoch=(l[0]!).epoch:=by simpa using a5
   refine DR rfl (AE (l_v) rfl (DR rfl (AE (vI ((k:Nat):Int)) rfl (DR rfl (CP U32_ CZ .i64 ((k:Nat):Int) k rfl rfl rfl a0 oM fun e2 b4=>(DR rfl (BH 0 HD ((l[k]!).epoch) rfl b4 (fun _ _ _ h=>FM h) fun e3 b5=>(DR rfl (CC U3_ rfl rfl b5 (DR rfl (DO .i64 ((l[k]!).epoch) (0:Int) rfl rfl (BM (BX (vO (decide ((l[k]!).epoch<(0:Int)))) rfl rfl (BM (AE (vO (decide ((l[k]!).epoch<(0:Int)))) rfl (?_))))))))))))))))
   cases a6:(decide ((l[k]!).epoch<(0:Int)))
   ·have c9:(0:Int)≤(l[k]!).epoch:=by simpa using a6
    refine DR rfl (AE (l_v) rfl (DR rfl (AE (vI ((k:Nat):Int)) rfl (DR rfl (CP U32_ CZ .i64 ((k:Nat):Int) k rfl rfl rfl a0 oM fun e4 b6=>(DR rfl (BH 0 HD ((l[k]!).epoch) rfl b6 (fun _ _ _ h=>FM h) fun e5 b7=>(DR rfl (CC U3_ rfl rfl b7 (DR rfl (GQ .i64 ((l[k]!).epoch) (1048576:Int) rfl rfl (BM (BX (vO (decide ((1048576:Int)<(l[k]!).epoch))) rfl rfl (EQ (AG (AC (AJ (decide ((1048576:Int)<(l[k]!).epoch)) rfl rfl (fun a4=>?_) (fun a4=>?_))))))))))))))))))
    ·have d0:(1048576:Int)<(l[k]!).epoch:=by simpa using a4
     refine AF (AB kR (AA (AD (vI 81) rfl (AG (AC (AM (BK (AK (AK (BK (AK (AS rfl (CN rfl rfl rfl) (?_)))))))))))))
     have e:(BP l)=(81:Int):=by (rw [hr0_1];exact DB oM (by ((repeat ((refine (if_pos ?_).trans ?_;solve|(simp only [MW];omega))));rfl)))
     exact ⟨_,rfl,a3.keep,by rw [e];exact rfl⟩
    have d1:(l[k]!).epoch≤(1048576:Int):=by simpa using a4
    refine AO (BZ (AC (AB kR (AA (AE (vI ((k:Nat):Int)) rfl (AA (DC .i64 ((k:Nat):Int) (1:Int) (((k+1:Nat):Int)) rfl rfl (FQ oM oM) (AA (AD (vI ((k+1:Nat):Int)) rfl (AG (AC (?_))))))))))))
    exact ⟨_,oM,(k+1),a8,oM,(hr0_1.trans (FF oM (by ((repeat ((refine (if_neg ?_).trans ?_;solve|(simp only [MW];omega))));rfl)))),rfl,⟨_,AP _ ⟨rfl,(by rfl),rfl,trivial⟩⟩,a3,a0⟩
   have d2:(l[k]!).epoch<(0:Int):=by simpa using a6
   refine CD rfl (CD rfl (CD rfl (CD rfl (CD rfl (CD rfl (BM (AX (vO true) rfl rfl (EQ (AG (AC (AJ true rfl rfl (fun _=>AF (AB kR (AA (AD (vI 81) rfl (AG (AC (AM (BK (AK (AK (BK (AK (AS rfl (CN rfl rfl rfl) (?_)))))))))))))) (fun h=>by cases h))))))))))))
   have e:(BP l)=(81:Int):=by (rw [hr0_1];exact DB oM (by ((repeat ((refine (if_pos ?_).trans ?_;solve|(simp only [MW];omega))));rfl)))
   exact ⟨_,rfl,a3.keep,by rw [e];exact rfl⟩
  have d3:(l[k]!).epoch≠(l[0]!).epoch:=by simpa using a5
  refine CD rfl (CD rfl (CD rfl (CD rfl (CD rfl (CD rfl (BM (AX (vO true) rfl rfl (BM (AE (vO true) rfl (CD rfl (CD rfl (CD rfl (CD rfl (CD rfl (CD rfl (BM (AX (vO true) rfl rfl (EQ (AG (AC (AJ true rfl rfl (fun _=>AF (AB kR (AA (AD (vI 81) rfl (AG (AC (AM (BK (AK (AK (BK (AK (AS rfl (CN rfl rfl rfl) (?_)))))))))))))) (fun h=>by cases h))))))))))))))))))))))
  have e:(BP l)=(81:Int):=by (rw [hr0_1];exact DB oM (by ((repeat ((refine (if_pos ?_).trans ?_;solve|(simp only [MW];omega))));rfl)))
  exact ⟨_,rfl,a3.keep,by rw [e];exact rfl⟩
 have d4:(l.length:Int)≤((k:Nat):Int):=by simpa using a2
 refine CV (BL (BL (CL (AC (AF (AB kR (AA (AD (vI 0) rfl (AG (AC (AM (AS rfl (CN rfl rfl rfl) (?_)))))))))))))
 have e:(BP l)=(0:Int):=by (rw [hr0_1];exact GR oM)
 exact ⟨_,rfl,b8.keep,by rw [e];exact rfl⟩
set_option maxHeartbeats 4000000 in
set_option maxRecDepth 100000 in
theorem c_few8 {O:List Nat} (l_v:Value) (l:List Share) (w:World) (a0:BB Enc.share w O l_v l) (hO:∀ b∈O,b<w.heap.size):CE Try.prog 21 [l_v] w (fun v _=>v = .bool (QU l)):= by
 have a6:=a0.len_le
 have a0:BB Enc.share w ([]++O) l_v l:=a0
 have s0:St w O w []:=St.start hO
 refine BI 20 Try.func21 rfl rfl oT (fun F0=>AF (AB kR (AA (AD (vO false) rfl (AG (AC (AF (AF (AB kR (AA (AD (vI 0) rfl (AG (AC (BA (CX (fun mI FI wI=>∃ (k:Nat),k≤l.length∧QU l=EX (fun k=>if 70<(l[k]!.data.length:Int) then some false else none) (decide ((l.length:Int)≤10)) k (l.length - k)∧mI=l.length - k∧(∃ F1,FI=FR F1 [(0,l_v),(3,vI ((k:Nat):Int)),(20,undef)])∧w=wI) (l.length - (0)) ?_ ?_)))))))))))))))
 ·exact ⟨(0),oM,rfl,rfl,⟨_,AP _ ⟨rfl,(by rfl),rfl,trivial⟩⟩,rfl⟩
 rintro b4 F b5 ⟨k,hr0_0,hr0_1,b6,⟨b7,rfl⟩,rfl⟩
 refine AF (AF (AB kR (AA (AE (vI ((k:Nat):Int)) rfl (AA (AE (l_v) rfl (AA (CA U32_ rfl a0 (AA (DO .i64 ((k:Nat):Int) (l.length:Int) rfl rfl (AG (AC (AJ (decide (((k:Nat):Int)<(l.length:Int))) rfl rfl (fun a1=>?_) (fun a1=>?_))))))))))))))
 ·have a7:((k:Nat):Int)<(l.length:Int):=by simpa using a1
  refine AO (AC (AF (BA (AF (AB kR (AA (AE (l_v) rfl (AA (AE (vI ((k:Nat):Int)) rfl (AA (CP U32_ CZ .i64 ((k:Nat):Int) k rfl rfl rfl a0 oM fun b1 a4=>(AA (BH 4 EP ((l[k]!).data) rfl a4 (fun _ _ _ h=>EG h) fun b2 a5=>(AA (CF U23_ rfl rfl a5 fun b3 a3=>(?_))))))))))))))))
  have:=a3.len_le
  refine AA (CA U23_ rfl a3 (AA (GQ .i64 (((l[k]!).data).length:Int) (70:Int) rfl rfl (AG (AC (AJ (decide ((70:Int)<(((l[k]!).data).length:Int))) rfl rfl (fun a2=>?_) (fun a2=>?_)))))))
  ·have a8:(70:Int)<(((l[k]!).data).length:Int):=by simpa using a2
   refine AF (AB kR (AA (AD (vO false) rfl (AG (AC (AM (BK (AK (AK (BK (AK (AS rfl (CN rfl rfl rfl) (?_)))))))))))))
   have e:(QU l)=false:=by (rw [hr0_1];exact DB oM (by ((repeat ((refine (if_pos ?_).trans ?_;omega)));rfl)))
   exact ⟨_,rfl,s0.keep,(by exact congrArg vO e.symm)⟩
  have a9:(((l[k]!).data).length:Int)≤(70:Int):=by simpa using a2
  refine AO (BZ (AC (AB kR (AA (AE (vI ((k:Nat):Int)) rfl (AA (DC .i64 ((k:Nat):Int) (1:Int) (((k+1:Nat):Int)) rfl rfl (FQ oM oM) (AA (AD (vI ((k+1:Nat):Int)) rfl (AG (AC (?_))))))))))))
  exact ⟨_,oM,(k+1),oM,(hr0_1.trans (FF oM (by ((repeat ((refine (if_neg ?_).trans ?_;omega)));rfl)))),rfl,⟨_,AP _ ⟨rfl,(by rfl),rfl,trivial⟩⟩,rfl⟩
 have b0:(l.length:Int)≤((k:Nat):Int):=by simpa using a1
 refine CV (BL (BL (CL (AC (AF (AB kR (AA (AE (l_v) rfl (AA (CA U32_ rfl a0 (AA (o_leq .i64 (l.length:Int) (10:Int) rfl rfl (AA (AD (vO (decide ((l.length:Int)≤(10:Int)))) rfl (AG (AC (AM (AS rfl (CN rfl rfl rfl) (?_)))))))))))))))))))
 have e:(QU l)=(decide ((l.length:Int)≤(10:Int))):=by (rw [hr0_1];exact GR oM)
 exact ⟨_,rfl,s0.keep,(by exact congrArg vO e.symm)⟩
open Go.Fw Go.RowKit
set_option maxHeartbeats 4000000 in
set_option maxRecDepth 100000 in
theorem RU {O:List Nat} (l_v:Value) (l:List Share) (secret_v:Value) (secret:List UInt8) (w:World) (a2:BB Enc.share w O l_v l) (a0:BB Enc.u8 w O secret_v secret) (hO:∀ b∈O,b<w.heap.size):CE Try.prog 58 [l_v,secret_v] w (fun v w'=>∃ (x0:Value),v = .tuple #[x0,vI ((AI l secret).2)]∧BB Enc.u8 w' (O) x0 ((AI l secret).1)):= by
 have r3:=a2.len_le
 have a2:BB Enc.share w ([]++O) l_v l:=a2
 have n4:=a0.len_le
 have a0:BB Enc.u8 w ([]++O) secret_v secret:=a0
 have s0:St w O w []:=St.start hO
 refine BI 82 Try.func58 rfl rfl oT (fun F0=>AF (AB kR (AA (AD (nS) rfl (AA (AD (vI 0) rfl (AG (AC (AF (AB kR (AA (AE (l_v) rfl (AA (AZ (vs:=[l_v]) WM (OX (O:=[]++O) l_v l w a2 s0.lt) rfl s0 fun r4 r5 c3 j3 r6 n5=>(?_)))))))))))))))
 obtain rfl:=n5
 have a2:=a2.mv j3
 have a0:=a0.mv j3
 refine AA (AD (vI (BP l)) rfl (AG (AC (AF (AF (AB kR (AA (AE (vI (BP l)) rfl (AA (CT .i64 (BP l) (0:Int) rfl rfl (AG (AC (AJ ((BP l) != (0:Int)) rfl rfl (fun d6=>?_) (fun d6=>?_))))))))))))))
 ·have p9:BP l≠(0:Int):=by simpa using d6
  refine AF (AB kR (AA (AE (vI (BP l)) rfl (AA (AD (nS) rfl (AA (AD (vI (BP l)) rfl (AG (AC (AM (AK (AS rfl (EA rfl rfl rfl rfl) (?_)))))))))))))
  have e:(AI l secret)=([],BP l):=by exact UD oM rfl
  exact ⟨_,rfl,c3.keep,by rw [e];exact ⟨.slice none 0 0,rfl,BB.nil _ _ _⟩⟩
 have k8:BP l=(0:Int):=by simpa using d6
 have hv:=(FS l).1 (by rw [← IJ];exact k8)
 have hpos:=hv.pos
 have ht1:=hv.t1
 have htm:=hv.tm
 have w2:=hv.m8
 have v6:=hv.d64
 refine AO (AC (AF (AB kR (AA (AE (l_v) rfl (AA (CP U32_ CZ .i64 (0:Int) 0 rfl rfl rfl a2 oM fun r7 k9=>(AA (BH 2 HK ((l[0]!).threshold) rfl k9 (fun _ _ _ h=>HM h) fun r8 l0=>(AA (CC U3_ rfl rfl l0 (AA (AD (vI ((l[0]!).threshold)) rfl (AG (AC (AF (AF (AB kR (AA (AE (l_v) rfl (AA (CA U32_ rfl a2 (AA (AE (vI ((l[0]!).threshold)) rfl (AA (KR .i64 (l.length:Int) ((l[0]!).threshold) rfl rfl (AG (AC (AJ (decide ((l[0]!).threshold≤(l.length:Int))) rfl rfl (fun d7=>?_) (fun d7=>?_))))))))))))))))))))))))))))))
 ·have q0:(l[0]!).threshold≤(l.length:Int):=by simpa using d7
  refine AF (AB kR (AA (AD (nS) rfl (AA (AD (vI 80) rfl (AG (AC (AM (AK (AS rfl (EA rfl rfl rfl rfl) (?_)))))))))))
  have e:(AI l secret)=([],(80:Int)):=by exact TD oM oM rfl
  exact ⟨_,rfl,c3.keep,by rw [e];exact ⟨.slice none 0 0,rfl,BB.nil _ _ _⟩⟩
 have q1:(l.length:Int)<(l[0]!).threshold:=by simpa using d7
 refine AO (AC (AF (AF (AB kR (AA (AE (secret_v) rfl (AA (CA U23_ rfl a0 (AA (AE (l_v) rfl (AA (CP U32_ CZ .i64 (0:Int) 0 rfl rfl rfl a2 oM fun r9 l1=>(AA (BH 4 EP ((l[0]!).data) rfl l1 (fun _ _ _ h=>EG h) fun s1 l2=>(AA (CF U23_ rfl rfl l2 fun s2 g2=>(?_)))))))))))))))))
 have:=g2.len_le
 refine AA (CA U23_ rfl g2 (AA (CT .i64 (secret.length:Int) (((l[0]!).data).length:Int) rfl rfl (AG (AC (AJ ((secret.length:Int) != (((l[0]!).data).length:Int)) rfl rfl (fun d8=>?_) (fun d8=>?_)))))))
 ·have q2:(secret.length:Int)≠(((l[0]!).data).length:Int):=by simpa using d8
  refine AF (AB kR (AA (AD (nS) rfl (AA (AD (vI 1) rfl (AG (AC (AM (AK (AS rfl (EA rfl rfl rfl rfl) (?_)))))))))))
  have e:(AI l secret)=([],(1:Int)):=by exact UC oM oM oM rfl
  exact ⟨_,rfl,c3.keep,by rw [e];exact ⟨.slice none 0 0,rfl,BB.nil _ _ _⟩⟩
 have q3:(secret.length:Int)=(((l[0]!).data).length:Int):=by simpa using d8
 refine AO (AC (AF (AB kR (AA (AD (.slice none 0 0) rfl (AG (AC (AF (AF (AB kR (AA (AD (vI 0) rfl (AG (AC (BA (CX (fun mI FI wI=>∃ (k:Nat) (a1:Value) (B:List Nat),k≤secret.length∧mI=secret.length - k∧(∃ F1,FI=FR F1 [(0,l_v),(1,secret_v),(7,vI ((l[0]!).threshold)),(8,a1),(9,vI ((k:Nat):Int)),(82,undef)])∧St w O wI B∧ED Enc.u8 5 w.heap.size (B++O) wI a1 ((GX l secret (l[0]!.threshold.toNat - 1 - l.length) k))∧(∀ b,a1.ownBlock=some b→b∈B)∧BB Enc.share wI (B++O) (l_v) (l)∧BB Enc.u8 wI (B++O) (secret_v) (secret)) (secret.length - (0)) ?_ ?_))))))))))))))))
 ·exact ⟨(0),(.slice none 0 0),[],oM,rfl,⟨_,AP _ ⟨rfl,rfl,rfl,rfl,(by rfl),rfl,trivial⟩⟩,c3,(by rw [show (GX l secret (l[0]!.threshold.toNat - 1 - l.length) (0))=[] from rfl];exact (ED.nil Enc.u8 5 _ _ _)),(by intro b hb;simp [Value.ownBlock] at hb),a2,a0⟩
 intro w3 F w4 hI
 clear a2 a0
 obtain ⟨k,a1,q4,hr0_0,w5,⟨w6,rfl⟩,l3,ho0_8,a3,a2,a0⟩:=hI
 have hel:=TL (l:=l) (secret:=secret) (m:=(l[0]!.threshold.toNat - 1 - l.length)) oM k
 refine AF (AF (AB kR (AA (AE (vI ((k:Nat):Int)) rfl (AA (AE (secret_v) rfl (AA (CA U23_ rfl a0 (AA (DO .i64 ((k:Nat):Int) (secret.length:Int) rfl rfl (AG (AC (AJ (decide (((k:Nat):Int)<(secret.length:Int))) rfl rfl (fun d9=>?_) (fun d9=>?_))))))))))))))
 ·have q5:((k:Nat):Int)<(secret.length:Int):=by simpa using d9
  refine AO (AC (AF (BA (AF (AB kR (AA (AE (l_v) rfl (AA (AE (vI ((k:Nat):Int)) rfl (AA (LB [l_v,vI ((k:Nat):Int)] _ enter_100 rfl (CG 37 Try.func100 rfl rfl oT (fun s3=>AF (AB kR (AA (AD (nS) rfl (AA (AD (nS) rfl (AG (AC (AF (AB kR (AA (AD (.slice none 0 0) rfl (AA (AD (.slice none 0 0) rfl (AG (AC (AF (AF (AB kR (AA (AD (vI 0) rfl (AG (AC (BA (CX (fun mI FI wI=>∃ (q:Nat) (a5:Value) (a4:Value) (B:List Nat),q≤l.length∧mI=l.length - q∧(∃ F1,FI=FR F1 [(0,l_v),(1,vI ((k:Nat):Int)),(6,a5),(7,a4),(8,vI ((q:Nat):Int)),(37,undef)])∧St w O wI B∧ED Enc.u8 5 w.heap.size (B++O) wI a5 ((ptX l q))∧(∀ b,a5.ownBlock=some b→b∈B)∧ED Enc.u8 5 w.heap.size (B++O) wI a4 ((ptY l k q))∧(∀ b,a4.ownBlock=some b→b∈B)∧BB Enc.share wI (B++O) (l_v) (l)∧BB Enc.u8 wI (B++O) (secret_v) (secret)∧ED Enc.u8 5 w.heap.size (B++O) wI a1 ((GX l secret (l[0]!.threshold.toNat - 1 - l.length) k))∧(∀ b,a1.ownBlock=some b→b∈B)∧(∀ b,a5.ownBlock=some b→a1.ownBlock≠some b)∧(∀ b,a1.ownBlock=some b→a5.ownBlock≠some b)∧(∀ b,a4.ownBlock=some b→a1.ownBlock≠some b)∧(∀ b,a1.ownBlock=some b→a4.ownBlock≠some b)∧(∀ b,a5.ownBlock=some b→a4.ownBlock≠some b)∧(∀ b,a4.ownBlock=some b→a5.ownBlock≠some b)) (l.length - (0)) ?_ ?_)))))))))))))))))))))))))) (fun _ _ h=>h))))))))))))
  ·exact ⟨(0),(.slice none 0 0),(.slice none 0 0),q4,oM,rfl,⟨_,AP _ ⟨rfl,rfl,rfl,rfl,(by rfl),rfl,trivial⟩⟩,l3,(by rw [show (ptX l (0))=[] from rfl];exact (ED.nil Enc.u8 5 _ _ _)),(by intro b hb;simp [Value.ownBlock] at hb),(by rw [show (ptY l k (0))=[] from rfl];exact (ED.nil Enc.u8 5 _ _ _)),(by intro b hb;simp [Value.ownBlock] at hb),a2,a0,ho0_8,a3,(fun b hb=>by (simp [Value.ownBlock] at hb;done)),(fun b hb=>by (simp [Value.ownBlock];done)),(fun b hb=>by (simp [Value.ownBlock] at hb;done)),(fun b hb=>by (simp [Value.ownBlock];done)),(fun b hb=>by (simp [Value.ownBlock] at hb;done)),(fun b hb=>by (simp [Value.ownBlock] at hb;done))⟩
  intro v7 F v8 hI
  clear a2 a0 ho0_8 a3
  obtain ⟨q,a5,a4,v9,hrp0_0,w0,⟨w1,rfl⟩,l4,hop0_6,g3,hop0_7,a8,a2,a0,ho0_8,a3,nop0_6_vo0_8,npp0_6_vo0_8,nop0_7_vo0_8,npp0_7_vo0_8,nnp0_6_7,nnp0_7_6⟩:=hI
  refine AF (AF (AB kR (AA (AE (vI ((q:Nat):Int)) rfl (AA (AE (l_v) rfl (AA (CA U32_ rfl a2 (AA (DO .i64 ((q:Nat):Int) (l.length:Int) rfl rfl (AG (AC (AJ (decide (((q:Nat):Int)<(l.length:Int))) rfl rfl (fun e0=>?_) (fun e0=>?_))))))))))))))
  ·have q6:((q:Nat):Int)<(l.length:Int):=by simpa using e0
   refine AO (AC (AF (BA (AF (AB kR (AA (AE (a5) rfl (AA (AE (l_v) rfl (AA (AE (vI ((q:Nat):Int)) rfl (AA (CP U32_ CZ .i64 ((q:Nat):Int) q rfl rfl rfl a2 oM fun s4 l5=>(AA (BH 1 KJ ((l[q]!).index) rfl l5 (fun _ _ _ h=>IL h) fun s5 l6=>(AA (CC U3_ rfl rfl l6 (AA (OU .i64 U3_ U5_ ((l[q]!).index) rfl (AA (GZ (E:=Enc.u8) (xs:=[.tmp 21]) U23_ GK VF (by decide) [vB (DL ((l[q]!).index))] [[vB (DL ((l[q]!).index))]] [DL ((l[q]!).index)] rfl rfl rfl (Parts.cons rfl rfl (Parts.nil _ _ _)) oT l4 fun s6 s7 n6 b6 f2 g4=>(?_))))))))))))))))))))))
   have a2:=a2.mv b6
   have hop0_6:=hop0_6.mv b6 f2 (by simp)
   have hop0_7:=hop0_7.mv b6 f2 (by simp)
   have a0:=a0.mv b6
   have ho0_8:=ho0_8.mv b6 f2 (by simp)
   have:=g4.len_le
   refine AA (CY (E:=Enc.u8) (l:=(ptX l q)) (m:=[DL ((l[q]!).index)]) U23_ RI rfl (by decide) rfl rfl hop0_6 g4 (fun _ hb=>.inl hb) g3 (by rw [UH];simp;omega) (by rw [UH];simp [maxLen];omega) n6 fun b3 s8 j4 e2 g5 e6 n7 c4 j5 a9=>(?_))
   have g6:∀ b,a4.ownBlock=some b→b3.ownBlock≠some b:=fun b hb e=>by rcases g5 with e1|e1 <;> rw [e1] at e <;> first|(cases e;have:=(hop0_7.lt _ hb).2;omega)|(exact absurd e (nnp0_7_6 b hb))
   have g7:∀ b,a1.ownBlock=some b→b3.ownBlock≠some b:=fun b hb e=>by rcases g5 with e1|e1 <;> rw [e1] at e <;> first|(cases e;have:=(ho0_8.lt _ hb).2;omega)|(exact absurd e (npp0_6_vo0_8 b hb))
   have a8:∀ b,a4.ownBlock=some b→b∈j4:=fun b hb=>e6 b (a8 b hb)
   have a3:∀ b,a1.ownBlock=some b→b∈j4:=fun b hb=>e6 b (a3 b hb)
   have a2:=a2.mv c4
   have hop0_7:=hop0_7.mv c4 j5 (fun b hb=>by simp only [Option.mem_toList];exact nnp0_7_6 b hb)
   have a0:=a0.mv c4
   have ho0_8:=ho0_8.mv c4 j5 (fun b hb=>by simp only [Option.mem_toList];exact npp0_6_vo0_8 b hb)
   refine AA (AD (b3) rfl (AG (AC (AB kR (AA (AE (a4) rfl (AA (AE (l_v) rfl (AA (AE (vI ((q:Nat):Int)) rfl (AA (CP U32_ CZ .i64 ((q:Nat):Int) q rfl rfl rfl a2 oM fun s9 l7=>(AA (BH 4 EP ((l[q]!).data) rfl l7 (fun _ _ _ h=>EG h) fun t0 l8=>(AA (CF U23_ rfl rfl l8 fun t2 g8=>(?_)))))))))))))))))
   have:=g8.len_le
   refine AA (AE (vI ((k:Nat):Int)) rfl (AA (CP U23_ GK .i64 ((k:Nat):Int) k rfl rfl rfl g8 (by rw [hv.da q oM];omega) fun t3 l9=>(AA (EM U5_ rfl rfl l9 (AA (GZ (E:=Enc.u8) (xs:=[.tmp 32]) U23_ GK VF (by decide) [vB (((l[q]!).data)[k]!)] [[vB (((l[q]!).data)[k]!)]] [((l[q]!).data)[k]!] rfl rfl rfl (Parts.cons rfl rfl (Parts.nil _ _ _)) oT n7 fun t4 t5 n9 b7 f3 g9=>(?_))))))))
   have a2:=a2.mv b7
   have a9:=a9.mv b7 f3 (by simp)
   have hop0_7:=hop0_7.mv b7 f3 (by simp)
   have a0:=a0.mv b7
   have ho0_8:=ho0_8.mv b7 f3 (by simp)
   have:=g9.len_le
   refine AA (CY (E:=Enc.u8) (l:=(ptY l k q)) (m:=[((l[q]!).data)[k]!]) U23_ RI rfl (by decide) rfl rfl hop0_7 g9 (fun _ hb=>.inl hb) a8 (by rw [UK];simp;omega) (by rw [UK];simp [maxLen];omega) n9 fun c5 t6 f4 m0 h0 e7 o0 c6 j6 m1=>(?_))
   have h1:∀ b,b3.ownBlock=some b→c5.ownBlock≠some b:=fun b hb e=>by rcases h0 with e1|e1 <;> rw [e1] at e <;> first|(cases e;have:=(a9.lt _ hb).2;omega)|(exact absurd e ((fun b hb e=>g6 b e hb) b hb))
   have h2:∀ b,a1.ownBlock=some b→c5.ownBlock≠some b:=fun b hb e=>by rcases h0 with e1|e1 <;> rw [e1] at e <;> first|(cases e;have:=(ho0_8.lt _ hb).2;omega)|(exact absurd e (npp0_7_vo0_8 b hb))
   have e2:∀ b,b3.ownBlock=some b→b∈f4:=fun b hb=>e7 b (e2 b hb)
   have a3:∀ b,a1.ownBlock=some b→b∈f4:=fun b hb=>e7 b (a3 b hb)
   have a2:=a2.mv c6
   have a9:=a9.mv c6 j6 (fun b hb=>by simp only [Option.mem_toList];exact (fun b hb e=>g6 b e hb) b hb)
   have a0:=a0.mv c6
   have ho0_8:=ho0_8.mv c6 j6 (fun b hb=>by simp only [Option.mem_toList];exact npp0_7_vo0_8 b hb)
   refine AA (AD (c5) rfl (AG (BZ (AC (AB kR (AA (AE (vI ((q:Nat):Int)) rfl (AA (DC .i64 ((q:Nat):Int) (1:Int) (((q+1:Nat):Int)) rfl rfl (FQ oM oM) (AA (AD (vI ((q+1:Nat):Int)) rfl (AG (AC (?_))))))))))))))
   exact ⟨_,oM,(q+1),b3,c5,f4,oM,rfl,⟨_,AP _ ⟨rfl,rfl,rfl,rfl,(by rfl),rfl,trivial⟩⟩,o0,(by rw [show (ptX l (q+1))=(ptX l q)++([DL ((l[q]!).index)]) from ptX_succ _ _];exact a9),e2,(by rw [show (ptY l k (q+1))=(ptY l k q)++([((l[q]!).data)[k]!]) from ptY_succ _ _ _];exact m1),m0,a2,a0,ho0_8,a3,(fun b hb e=>g7 b e hb),g7,(fun b hb e=>h2 b e hb),h2,h1,(fun b hb e=>h1 b e hb)⟩
  have q7:(l.length:Int)≤((q:Nat):Int):=by simpa using e0
  obtain rfl:q=l.length:=by omega
  refine CV (BL (BL (CL (AC (AF (AB kR (AA (AE (a5) rfl (AA (AE (a4) rfl (AA (AD (a5) rfl (AA (AD (a4) rfl (AG (AC (AM (AS rfl (EA rfl rfl rfl rfl) (Exists.intro _ (And.intro rfl (AA (AE (vT #[a5,a4]) rfl (AA (AN (a5) rfl rfl (AA (AN (a4) rfl rfl (AA (AD (a5) rfl (AA (AD (a4) rfl (AG (AC (AF (AB kR (AA (AE (a5) rfl (AA (GZ (E:=Enc.u8) (xs:=[.const (vB (0:UInt8))]) U23_ GK VF (by decide) [vB (0:UInt8)] [[vB (0:UInt8)]] [(0:UInt8)] rfl rfl rfl (Parts.cons rfl rfl (Parts.nil _ _ _)) oT l4 fun t7 t8 o1 b8 f5 h3=>(?_)))))))))))))))))))))))))))))))))))))))
  have a2:=a2.mv b8
  have a0:=a0.mv b8
  have ho0_8:=ho0_8.mv b8 f5 (by simp)
  have hop0_6:=hop0_6.mv b8 f5 (by simp)
  have hop0_7:=hop0_7.mv b8 f5 (by simp)
  have:=h3.len_le
  refine AA (CY (E:=Enc.u8) (l:=(ptX l l.length)) (m:=[(0:UInt8)]) U23_ RI rfl (by decide) rfl rfl hop0_6 h3 (fun _ hb=>.inl hb) g3 (by rw [UH];simp;omega) (by rw [UH];simp [maxLen];omega) o1 fun b4 t9 j7 e3 h4 e8 o2 c7 j8 b0=>(?_))
  have h5:∀ b,a1.ownBlock=some b→b4.ownBlock≠some b:=fun b hb e=>by rcases h4 with e1|e1 <;> rw [e1] at e <;> first|(cases e;have:=(ho0_8.lt _ hb).2;omega)|(exact absurd e (npp0_6_vo0_8 b hb))
  have h6:∀ b,a4.ownBlock=some b→b4.ownBlock≠some b:=fun b hb e=>by rcases h4 with e1|e1 <;> rw [e1] at e <;> first|(cases e;have:=(hop0_7.lt _ hb).2;omega)|(exact absurd e (nnp0_7_6 b hb))
  have a3:∀ b,a1.ownBlock=some b→b∈j7:=fun b hb=>e8 b (a3 b hb)
  have a8:∀ b,a4.ownBlock=some b→b∈j7:=fun b hb=>e8 b (a8 b hb)
  have a2:=a2.mv c7
  have a0:=a0.mv c7
  have ho0_8:=ho0_8.mv c7 j8 (fun b hb=>by simp only [Option.mem_toList];exact npp0_6_vo0_8 b hb)
  have hop0_7:=hop0_7.mv c7 j8 (fun b hb=>by simp only [Option.mem_toList];exact nnp0_7_6 b hb)
  refine AA (AD (b4) rfl (AG (AC (AF (AB kR (AA (AE (a4) rfl (AA (AE (secret_v) rfl (AA (AE (vI ((k:Nat):Int)) rfl (AA (CP U23_ GK .i64 ((k:Nat):Int) k rfl rfl rfl a0 oM fun u0 m2=>(AA (EM U5_ rfl rfl m2 (AA (GZ (E:=Enc.u8) (xs:=[.tmp 55]) U23_ GK VF (by decide) [vB (secret[k]!)] [[vB (secret[k]!)]] [secret[k]!] rfl rfl rfl (Parts.cons rfl rfl (Parts.nil _ _ _)) oT o2 fun u1 u2 o3 b9 f6 h7=>(?_))))))))))))))))))
  have a2:=a2.mv b9
  have a0:=a0.mv b9
  have ho0_8:=ho0_8.mv b9 f6 (by simp)
  have b0:=b0.mv b9 f6 (by simp)
  have hop0_7:=hop0_7.mv b9 f6 (by simp)
  have:=h7.len_le
  refine AA (CY (E:=Enc.u8) (l:=(ptY l k l.length)) (m:=[secret[k]!]) U23_ RI rfl (by decide) rfl rfl hop0_7 h7 (fun _ hb=>.inl hb) a8 (by rw [UK];simp;omega) (by rw [UK];simp [maxLen];omega) o3 fun c8 u3 f7 m3 h8 e9 o4 c9 j9 m4=>(?_))
  have h9:∀ b,a1.ownBlock=some b→c8.ownBlock≠some b:=fun b hb e=>by rcases h8 with e1|e1 <;> rw [e1] at e <;> first|(cases e;have:=(ho0_8.lt _ hb).2;omega)|(exact absurd e (npp0_7_vo0_8 b hb))
  have i0:∀ b,b4.ownBlock=some b→c8.ownBlock≠some b:=fun b hb e=>by rcases h8 with e1|e1 <;> rw [e1] at e <;> first|(cases e;have:=(b0.lt _ hb).2;omega)|(exact absurd e ((fun b hb e=>h6 b e hb) b hb))
  have a3:∀ b,a1.ownBlock=some b→b∈f7:=fun b hb=>e9 b (a3 b hb)
  have e3:∀ b,b4.ownBlock=some b→b∈f7:=fun b hb=>e9 b (e3 b hb)
  have a2:=a2.mv c9
  have a0:=a0.mv c9
  have ho0_8:=ho0_8.mv c9 j9 (fun b hb=>by simp only [Option.mem_toList];exact npp0_7_vo0_8 b hb)
  have b0:=b0.mv c9 j9 (fun b hb=>by simp only [Option.mem_toList];exact (fun b hb e=>h6 b e hb) b hb)
  refine AA (AD (c8) rfl (AG (AC (AF (AF (AB kR (AA (AD (vB (9:UInt8)) rfl (AG (AC (BA (CX (fun mI FI wI=>∃ (q:Nat) (a7:Value) (a6:Value) (B:List Nat),q≤(l[0]!.threshold.toNat - 1 - l.length)∧mI=(l[0]!.threshold.toNat - 1 - l.length) - q∧(∃ F1,FI=FR F1 [(0,l_v),(1,secret_v),(7,vI ((l[0]!).threshold)),(8,a1),(9,vI ((k:Nat):Int)),(10,a7),(11,a6),(12,vB (DL (9+(q:Int)))),(82,undef)])∧St w O wI B∧ED Enc.u8 5 w.heap.size (B++O) wI a7 ((JC l q))∧(∀ b,a7.ownBlock=some b→b∈B)∧ED Enc.u8 5 w.heap.size (B++O) wI a6 ((KT l secret[k]! k q))∧(∀ b,a6.ownBlock=some b→b∈B)∧BB Enc.share wI (B++O) (l_v) (l)∧BB Enc.u8 wI (B++O) (secret_v) (secret)∧ED Enc.u8 5 w.heap.size (B++O) wI a1 ((GX l secret (l[0]!.threshold.toNat - 1 - l.length) k))∧(∀ b,a1.ownBlock=some b→b∈B)∧(∀ b,a7.ownBlock=some b→a1.ownBlock≠some b)∧(∀ b,a1.ownBlock=some b→a7.ownBlock≠some b)∧(∀ b,a6.ownBlock=some b→a1.ownBlock≠some b)∧(∀ b,a1.ownBlock=some b→a6.ownBlock≠some b)∧(∀ b,a7.ownBlock=some b→a6.ownBlock≠some b)∧(∀ b,a6.ownBlock=some b→a7.ownBlock≠some b)) ((l[0]!.threshold.toNat - 1 - l.length) - (0)) ?_ ?_))))))))))))
  ·exact ⟨(0),b4,c8,f7,oM,rfl,⟨_,AP _ ⟨rfl,rfl,rfl,rfl,rfl,rfl,rfl,(congrArg vB (by rfl)),rfl,trivial⟩⟩,o4,(by rw [show (JC l (0))=(ptX l l.length)++([(0:UInt8)]) from by rw [refX_zero,ptX_all]];exact b0),e3,(by rw [show (KT l secret[k]! k (0))=(ptY l k l.length)++([secret[k]!]) from by rw [refY_zero,ptY_all]];exact m4),m3,a2,a0,ho0_8,a3,(fun b hb e=>h5 b e hb),h5,(fun b hb e=>h9 b e hb),h9,i0,(fun b hb e=>i0 b e hb)⟩
  intro w7 F q8 hI
  clear a2 a0 ho0_8 a3
  obtain ⟨q,a7,a6,w8,hr1_0,w9,⟨x1,rfl⟩,p5,ho1_10,m5,ho1_11,b2,a2,a0,ho0_8,a3,no1_10_vo0_8,np1_10_vo0_8,no1_11_vo0_8,np1_11_vo0_8,nn1_10_11,nn1_11_10⟩:=hI
  have hxl:=JP l q
  have hco:=XA hv.toGood (m:=(l[0]!.threshold.toNat - 1 - l.length)) oM secret[k]! k
  refine AF (AF (AB kR (AA (AE (a7) rfl (AA (SO U23_ rfl ho1_10 (AA (AE (vI ((l[0]!).threshold)) rfl (AA (DO .i64 ((JC l q).length:Int) ((l[0]!).threshold) rfl rfl (AG (AC (AJ (decide (((JC l q).length:Int)<(l[0]!).threshold)) rfl rfl (fun e4=>?_) (fun e4=>?_))))))))))))))
  ·have q9:((JC l q).length:Int)<(l[0]!).threshold:=by simpa using e4
   refine AO (AC (AF (BA (AF (AB kR (AA (AE (a7) rfl (AA (AE (vB (DL (9+(q:Int)))) rfl (AA (GZ (E:=Enc.u8) (xs:=[.tmp 65]) U23_ GK VF (by decide) [vB (DL (9+(q:Int)))] [[vB (DL (9+(q:Int)))]] [DL (9+(q:Int))] rfl rfl rfl (Parts.cons rfl rfl (Parts.nil _ _ _)) oT p5 fun u4 u5 o5 c0 f8 i1=>(?_))))))))))))
   have a2:=a2.mv c0
   have a0:=a0.mv c0
   have ho0_8:=ho0_8.mv c0 f8 (by simp)
   have ho1_10:=ho1_10.mv c0 f8 (by simp)
   have ho1_11:=ho1_11.mv c0 f8 (by simp)
   have:=i1.len_le
   refine AA (CY (E:=Enc.u8) (l:=(JC l q)) (m:=[DL (9+(q:Int))]) U23_ RI rfl (by decide) rfl rfl ho1_10 i1 (fun _ hb=>.inl hb) m5 (by rw [JP];simp;omega) (by rw [JP];simp [maxLen];omega) o5 fun b5 u6 k0 e5 i2 f0 o6 d0 k1 b1=>(?_))
   have i3:∀ b,a1.ownBlock=some b→b5.ownBlock≠some b:=fun b hb e=>by rcases i2 with e1|e1 <;> rw [e1] at e <;> first|(cases e;have:=(ho0_8.lt _ hb).2;omega)|(exact absurd e (np1_10_vo0_8 b hb))
   have i4:∀ b,a6.ownBlock=some b→b5.ownBlock≠some b:=fun b hb e=>by rcases i2 with e1|e1 <;> rw [e1] at e <;> first|(cases e;have:=(ho1_11.lt _ hb).2;omega)|(exact absurd e (nn1_11_10 b hb))
   have a3:∀ b,a1.ownBlock=some b→b∈k0:=fun b hb=>f0 b (a3 b hb)
   have b2:∀ b,a6.ownBlock=some b→b∈k0:=fun b hb=>f0 b (b2 b hb)
   have a2:=a2.mv d0
   have a0:=a0.mv d0
   have ho0_8:=ho0_8.mv d0 k1 (fun b hb=>by simp only [Option.mem_toList];exact np1_10_vo0_8 b hb)
   have ho1_11:=ho1_11.mv d0 k1 (fun b hb=>by simp only [Option.mem_toList];exact nn1_11_10 b hb)
   refine AA (AD (b5) rfl (AG (AC (AB kR (AA (AE (a6) rfl (AA (GZ (E:=Enc.u8) (xs:=[.const (vB (0:UInt8))]) U23_ GK VF (by decide) [vB (0:UInt8)] [[vB (0:UInt8)]] [(0:UInt8)] rfl rfl rfl (Parts.cons rfl rfl (Parts.nil _ _ _)) oT o6 fun u7 u9 o7 c1 f9 i5=>(?_)))))))))
   have a2:=a2.mv c1
   have a0:=a0.mv c1
   have ho0_8:=ho0_8.mv c1 f9 (by simp)
   have b1:=b1.mv c1 f9 (by simp)
   have ho1_11:=ho1_11.mv c1 f9 (by simp)
   have:=i5.len_le
   refine AA (CY (E:=Enc.u8) (l:=(KT l secret[k]! k q)) (m:=[(0:UInt8)]) U23_ RI rfl (by decide) rfl rfl ho1_11 i5 (fun _ hb=>.inl hb) b2 (by rw [UO];simp;omega) (by rw [UO];simp [maxLen];omega) o7 fun d1 v0 g0 m6 i6 f1 o8 d2 k2 m7=>(?_))
   have i7:∀ b,a1.ownBlock=some b→d1.ownBlock≠some b:=fun b hb e=>by rcases i6 with e1|e1 <;> rw [e1] at e <;> first|(cases e;have:=(ho0_8.lt _ hb).2;omega)|(exact absurd e (np1_11_vo0_8 b hb))
   have i8:∀ b,b5.ownBlock=some b→d1.ownBlock≠some b:=fun b hb e=>by rcases i6 with e1|e1 <;> rw [e1] at e <;> first|(cases e;have:=(b1.lt _ hb).2;omega)|(exact absurd e ((fun b hb e=>i4 b e hb) b hb))
   have a3:∀ b,a1.ownBlock=some b→b∈g0:=fun b hb=>f1 b (a3 b hb)
   have e5:∀ b,b5.ownBlock=some b→b∈g0:=fun b hb=>f1 b (e5 b hb)
   have a2:=a2.mv d2
   have a0:=a0.mv d2
   have ho0_8:=ho0_8.mv d2 k2 (fun b hb=>by simp only [Option.mem_toList];exact np1_11_vo0_8 b hb)
   have b1:=b1.mv d2 k2 (fun b hb=>by simp only [Option.mem_toList];exact (fun b hb e=>i4 b e hb) b hb)
   refine AA (AD (d1) rfl (AG (BZ (AC (AB kR (AA (AE (vB (DL (9+(q:Int)))) rfl (AA (o_add8 (DL (9+(q:Int))) (1:UInt8) rfl rfl (AA (AD (vB ((DL (9+(q:Int)))+(1:UInt8))) rfl (AG (AC (?_))))))))))))))
   exact ⟨_,oM,(q+1),b5,d1,g0,oM,rfl,⟨_,AP _ ⟨rfl,rfl,rfl,rfl,rfl,rfl,rfl,(congrArg vB (by exact u8of_step q)),rfl,trivial⟩⟩,o8,(by rw [show (JC l (q+1))=(JC l q)++([DL (9+(q:Int))]) from refX_succ _ _];exact b1),e5,(by rw [show (KT l secret[k]! k (q+1))=(KT l secret[k]! k q)++([(0:UInt8)]) from refY_succ _ _ _ _];exact m7),m6,a2,a0,ho0_8,a3,(fun b hb e=>i3 b e hb),i3,(fun b hb e=>i7 b e hb),i7,i8,(fun b hb e=>i8 b e hb)⟩
  have r0:(l[0]!).threshold≤((JC l q).length:Int):=by simpa using e4
  obtain rfl:q=(l[0]!.threshold.toNat - 1 - l.length):=by omega
  refine CV (BL (BL (CL (AC (AF (AB kR (AA (AE (a7) rfl (AA (AE (a6) rfl (?_)))))))))))
  obtain ⟨k3,o9,d3,c2,i9⟩:=ho1_10.publish p5
  have a3:∀ b,a1.ownBlock=some b→b∈k3:=fun b hb=>i9 b (a3 b hb) (np1_10_vo0_8 b hb)
  have b2:∀ b,a6.ownBlock=some b→b∈k3:=fun b hb=>i9 b (b2 b hb) (nn1_11_10 b hb)
  have p6:=c2.len_le
  have a2:=a2.mv d3
  have a0:=a0.mv d3
  have ho0_8:=ho0_8.mv d3 (Keep.refl [] _) (by simp)
  have ho1_11:=ho1_11.mv d3 (Keep.refl [] _) (by simp)
  obtain ⟨k4,k5,d4,j0,m9⟩:=ho1_11.publish o9
  have a3:∀ b,a1.ownBlock=some b→b∈k4:=fun b hb=>m9 b (a3 b hb) (np1_11_vo0_8 b hb)
  have p7:=j0.len_le
  have a2:=a2.mv d4
  have a0:=a0.mv d4
  have ho0_8:=ho0_8.mv d4 (Keep.refl [] _) (by simp)
  have c2:=c2.mv d4
  refine AA (AZ (vs:=[a7,a6]) enter_101 (c_refCoeff (O:=k4++O) a7 (JC l (l[0]!.threshold.toNat - 1 - l.length)) a6 (KT l secret[k]! k (l[0]!.threshold.toNat - 1 - l.length)) q8 c2 j0 (by rw [JP];omega) k5.lt) rfl k5 fun v1 v2 p0 g1 p1 p2=>(?_))
  obtain ⟨d5,rfl,j1⟩:=p2
  have:=j1.len_le
  have a2:=a2.mv g1
  have a0:=a0.mv g1
  have ho0_8:=ho0_8.mv g1 p1 (by simp)
  refine AA (AE (vT #[d5,vI ((FO (JC l (l[0]!.threshold.toNat - 1 - l.length)) (KT l secret[k]! k (l[0]!.threshold.toNat - 1 - l.length))).2)]) rfl (AA (AN (d5) rfl rfl (AA (AN (vI ((FO (JC l (l[0]!.threshold.toNat - 1 - l.length)) (KT l secret[k]! k (l[0]!.threshold.toNat - 1 - l.length))).2)) rfl rfl (AA (AD (d5) rfl (AA (AD (vI ((FO (JC l (l[0]!.threshold.toNat - 1 - l.length)) (KT l secret[k]! k (l[0]!.threshold.toNat - 1 - l.length))).2)) rfl (AG (AC (AB kR (AA (AE (a1) rfl (AA (AE (d5) rfl (AA (NG U23_ GK 1 (((FO (JC l (l[0]!.threshold.toNat - 1 - l.length)) (KT l secret[k]! k (l[0]!.threshold.toNat - 1 - l.length))).1).length) rfl (.inr ⟨.const (vI 1), .i64,(1:Int),rfl,rfl,rfl⟩) (.inl ⟨rfl,rfl⟩) (by rw [hco];omega) (Nat.le_refl _) j1 fun v3 j2=>(?_)))))))))))))))))))
  rw [List.take_length] at j2
  refine AA (CY (E:=Enc.u8) (l:=(GX l secret (l[0]!.threshold.toNat - 1 - l.length) k)) (m:=(((FO (JC l (l[0]!.threshold.toNat - 1 - l.length)) (KT l secret[k]! k (l[0]!.threshold.toNat - 1 - l.length))).1).drop 1)) U23_ RI rfl (by decide) rfl rfl ho0_8 j2 (fun _ hb=>.inl hb) a3 (by rw [List.length_drop,hco];omega) (by rw [List.length_drop,hco];simp only [maxLen];omega) p0 fun k6 v4 p3 n2 r1 p8 p4 k7 v5 n3=>(?_))
  have a2:=a2.mv k7
  have a0:=a0.mv k7
  refine AA (AD (k6) rfl (AG (BZ (AC (AB kR (AA (AE (vI ((k:Nat):Int)) rfl (AA (DC .i64 ((k:Nat):Int) (1:Int) (((k+1:Nat):Int)) rfl rfl (FQ oM oM) (AA (AD (vI ((k+1:Nat):Int)) rfl (AG (AC (?_))))))))))))))
  exact ⟨_,oM,(k+1),k6,p3,oM,rfl,⟨_,AP _ ⟨rfl,rfl,rfl,rfl,(by rfl),rfl,trivial⟩⟩,p4,(by rw [show (GX l secret (l[0]!.threshold.toNat - 1 - l.length) (k+1))=(GX l secret (l[0]!.threshold.toNat - 1 - l.length) k)++(((FO (JC l (l[0]!.threshold.toNat - 1 - l.length)) (KT l secret[k]! k (l[0]!.threshold.toNat - 1 - l.length))).1).drop 1) from rfl];exact n3),n2,a2,a0⟩
 have r2:(secret.length:Int)≤((k:Nat):Int):=by simpa using d9
 obtain rfl:k=secret.length:=by omega
 refine CV (BL (BL (CL (AC (AF (AB kR (AA (AE (a1) rfl (AA (AD (a1) rfl (AA (AD (vI 0) rfl (AG (AC (AM (AS rfl (EA rfl rfl rfl rfl) (?_)))))))))))))))))
 have e:(AI l secret)=((GX l secret (l[0]!.threshold.toNat - 1 - l.length) secret.length),(0:Int)):=by exact VC oM oM oM rfl
 exact ⟨_,rfl,l3.keep,by rw [e];exact ⟨a1,rfl,ho0_8.pub l3⟩⟩
open Go.Fw Go.RowKit
set_option maxHeartbeats 4000000 in
set_option maxRecDepth 100000 in
theorem c_refSplit {O:List Nat} (secret_v:Value) (secret:List UInt8) (epoch:Int) (threshold:Int) (many:Int) (coins_v:Value) (coins:List UInt8) (w:World) (a0:BB Enc.u8 w O secret_v secret) (a2:BB Enc.u8 w O coins_v coins) (hO:∀ b∈O,b<w.heap.size):CE Try.prog 59 [secret_v,vI epoch,vI threshold,vI many,coins_v] w (fun v w'=>∃ (x0:Value),v = .tuple #[x0,vI ((AY secret epoch threshold many coins).2)]∧BB Enc.share w' (O) x0 ((AY secret epoch threshold many coins).1)):= by
 have k6:=a0.len_le
 have a0:BB Enc.u8 w ([]++O) secret_v secret:=a0
 have o6:=a2.len_le
 have a2:BB Enc.u8 w ([]++O) coins_v coins:=a2
 have s0:St w O w []:=St.start hO
 refine BI 92 Try.func59 rfl rfl oT (fun F0=>AF (AB kR (AA (AD (nS) rfl (AA (AD (vI 0) rfl (AG (AC (AF (AF (AB kR (AA (AE (secret_v) rfl (AA (CA U23_ rfl a0 (AA (GQ .i64 (secret.length:Int) (64:Int) rfl rfl (AG (AC (AJ (decide ((64:Int)<(secret.length:Int))) rfl rfl (fun d1=>?_) (fun d1=>?_)))))))))))))))))))))
 ·have o9:(64:Int)<(secret.length:Int):=by simpa using d1
  refine AF (AB kR (AA (AD (nS) rfl (AA (AD (vI 1) rfl (AG (AC (AM (AK (AS rfl (EA rfl rfl rfl rfl) (?_)))))))))))
  have e:(AY secret epoch threshold many coins)=([],(1:Int)):=by exact GU (by unfold DM;((repeat ((refine (if_pos ?_).trans ?_;omega)));rfl)) (by decide)
  exact ⟨_,rfl,s0.keep,by rw [e];exact ⟨.slice none 0 0,rfl,BB.nil _ _ _⟩⟩
 have p0:(secret.length:Int)≤(64:Int):=by simpa using d1
 refine AO (AC (AF (AF (AB kR (AA (AE (vI threshold) rfl (AA (DO .i64 threshold (1:Int) rfl rfl (AA (AE (vO (decide (threshold<(1:Int)))) rfl (?_)))))))))))
 cases f4:(decide (threshold<(1:Int)))
 ·have p1:(1:Int)≤threshold:=by simpa using f4
  refine BJ rfl (AE (vI threshold) rfl (BJ rfl (AE (vI many) rfl (BJ rfl (GQ .i64 threshold many rfl rfl (AA (BX (vO (decide (many<threshold))) rfl rfl (AA (AE (vO (decide (many<threshold))) rfl (?_))))))))))
  cases f5:(decide (many<threshold))
  ·have p2:threshold≤many:=by simpa using f5
   refine BJ rfl (AE (vI many) rfl (BJ rfl (GQ .i64 many (8:Int) rfl rfl (AA (BX (vO (decide ((8:Int)<many))) rfl rfl (AG (AC (AJ (decide ((8:Int)<many)) rfl rfl (fun d2=>?_) (fun d2=>?_)))))))))
   ·have p3:(8:Int)<many:=by simpa using d2
    refine AF (AB kR (AA (AD (nS) rfl (AA (AD (vI 80) rfl (AG (AC (AM (AK (AS rfl (EA rfl rfl rfl rfl) (?_)))))))))))
    have e:(AY secret epoch threshold many coins)=([],(80:Int)):=by exact GU (by unfold DM;((repeat (first|(refine (if_pos ?_).trans ?_;omega)|(refine (if_neg ?_).trans ?_;omega)));rfl)) (by decide)
    exact ⟨_,rfl,s0.keep,by rw [e];exact ⟨.slice none 0 0,rfl,BB.nil _ _ _⟩⟩
   have p4:many≤(8:Int):=by simpa using d2
   refine AO (AC (AF (AF (AB kR (AA (AE (vI epoch) rfl (AA (DO .i64 epoch (0:Int) rfl rfl (AA (AE (vO (decide (epoch<(0:Int)))) rfl (?_)))))))))))
   cases f6:(decide (epoch<(0:Int)))
   ·have p5:(0:Int)≤epoch:=by simpa using f6
    refine BJ rfl (AE (vI epoch) rfl (BJ rfl (GQ .i64 epoch (1048576:Int) rfl rfl (AA (BX (vO (decide ((1048576:Int)<epoch))) rfl rfl (AG (AC (AJ (decide ((1048576:Int)<epoch)) rfl rfl (fun d3=>?_) (fun d3=>?_)))))))))
    ·have p6:(1048576:Int)<epoch:=by simpa using d3
     refine AF (AB kR (AA (AD (nS) rfl (AA (AD (vI 81) rfl (AG (AC (AM (AK (AS rfl (EA rfl rfl rfl rfl) (?_)))))))))))
     have e:(AY secret epoch threshold many coins)=([],(81:Int)):=by exact GU (by unfold DM;((repeat (first|(refine (if_pos ?_).trans ?_;omega)|(refine (if_neg ?_).trans ?_;omega)));rfl)) (by decide)
     exact ⟨_,rfl,s0.keep,by rw [e];exact ⟨.slice none 0 0,rfl,BB.nil _ _ _⟩⟩
    have p7:epoch≤(1048576:Int):=by simpa using d3
    refine AO (AC (AF (AF (AB kR (AA (AE (coins_v) rfl (AA (CA U23_ rfl a2 (AA (AE (secret_v) rfl (AA (CA U23_ rfl a0 (AA (AE (vI threshold) rfl (AA (IA .i64 threshold (1:Int) (threshold - (1:Int)) rfl rfl (FQ oM oM) (AA (YB .i64 (secret.length:Int) (threshold - (1:Int)) ((secret.length:Int)*(threshold - (1:Int))) rfl rfl (FQ (mulb oM oM oM oM) rfl) (AA (CT .i64 (coins.length:Int) ((secret.length:Int)*(threshold - (1:Int))) rfl rfl (AG (AC (AJ ((coins.length:Int) != ((secret.length:Int)*(threshold - (1:Int)))) rfl rfl (fun d4=>?_) (fun d4=>?_))))))))))))))))))))))))
    ·have p8:(coins.length:Int)≠(secret.length:Int)*(threshold - (1:Int)):=by simpa using d4
     refine AF (AB kR (AA (AD (nS) rfl (AA (AD (vI 1) rfl (AG (AC (AM (AK (AS rfl (EA rfl rfl rfl rfl) (?_)))))))))))
     have e:(AY secret epoch threshold many coins)=([],(1:Int)):=by exact GU (by unfold DM;((repeat (first|(refine (if_pos ?_).trans ?_;omega)|(refine (if_neg ?_).trans ?_;omega)));rfl)) (by decide)
     exact ⟨_,rfl,s0.keep,by rw [e];exact ⟨.slice none 0 0,rfl,BB.nil _ _ _⟩⟩
    have i5:(coins.length:Int)=(secret.length:Int)*(threshold - (1:Int)):=by simpa using d4
    have hcl:(coins.length:Int)=(secret.length:Int)*(threshold - 1):=i5
    have hpl:=polyL (n:=secret.length) oM oM oM hcl
    refine AO (AC (AF (AB kR (AA (AD (.slice none 0 0) rfl (AG (AC (AF (AF (AB kR (AA (AD (vI 1) rfl (AG (AC (BA (CX (fun mI FI wI=>∃ (i:Nat) (a4:Value) (B:List Nat),i≤many.toNat∧mI=many.toNat - i∧(∃ F1,FI=FR F1 [(0,secret_v),(1,vI epoch),(2,vI threshold),(3,vI many),(4,coins_v),(12,a4),(13,vI ((i+1:Nat):Int)),(92,undef)])∧St w O wI B∧ED Enc.share 70 w.heap.size (B++O) wI a4 ((FL secret epoch threshold many coins i))∧(∀ b,a4.ownBlock=some b→b∈B)∧BB Enc.u8 wI (B++O) (secret_v) (secret)∧BB Enc.u8 wI (B++O) (coins_v) (coins)) (many.toNat - (0)) ?_ ?_))))))))))))))))
    ·exact ⟨(0),(.slice none 0 0),[],oM,rfl,⟨_,AP _ ⟨rfl,rfl,rfl,rfl,rfl,rfl,(by rfl),rfl,trivial⟩⟩,s0,(by rw [show (FL secret epoch threshold many coins (0))=[] from rfl];exact (ED.nil Enc.share 70 _ _ _)),(by intro b hb;simp [Value.ownBlock] at hb),a0,a2⟩
    intro t8 F t9 hI
    clear a0 a2
    obtain ⟨i,a4,o7,hr0_0,u0,⟨u1,rfl⟩,i6,ho0_12,a6,a0,a2⟩:=hI
    refine AF (AF (AB kR (AA (AE (vI ((i+1:Nat):Int)) rfl (AA (AE (vI many) rfl (AA (o_leq .i64 ((i+1:Nat):Int) many rfl rfl (AG (AC (AJ (decide (((i+1:Nat):Int)≤many)) rfl rfl (fun d5=>?_) (fun d5=>?_))))))))))))
    ·have p9:((i+1:Nat):Int)≤many:=by simpa using d5
     refine AO (AC (AF (BA (AF (AB kR (AA (AE (vI epoch) rfl (AA (AE (vI ((i+1:Nat):Int)) rfl (AA (AE (vI threshold) rfl (AA (AE (vI many) rfl (AA (EN (l:=[(0, .tmp 50),(1, .tmp 51),(2, .tmp 52),(3, .tmp 53)]) pl_70 KU rfl [(0,vI epoch,[vI epoch]),(1,vI ((i+1:Nat):Int),[vI ((i+1:Nat):Int)]),(2,vI threshold,[vI threshold]),(3,vI many,[vI many])] [vI epoch,vI ((i+1:Nat):Int),vI threshold,vI many,nS] rfl ⟨_,rfl,rfl,oT,⟨_,rfl,rfl,oT,⟨_,rfl,rfl,oT,⟨_,rfl,rfl,oT,rfl⟩⟩⟩⟩ (AA (DE [vI 0,vI 0,vI 0,vI 0,nS] KU rfl i6 fun a5 r3 k7 k8 e5 k9 i7=>(?_))))))))))))))))))
     have d6:∀ b,a4.ownBlock=some b→b≠a5:=fun b hb=>by have:=(ho0_12.lt b hb).2;omega
     have a6:∀ b,a4.ownBlock=some b→b∈(a5 :: o7):=fun b hb=>List.mem_cons_of_mem _ (a6 b hb)
     clear k7
     have a0:=a0.mv e5
     have a2:=a2.mv e5
     have ho0_12:=ho0_12.mv e5 k9 (by simp)
     refine CB (BF (vs:=[vI epoch,vI ((i+1:Nat):Int),vI threshold,vI many,nS]) (.agg #[vI epoch,vI ((i+1:Nat):Int),vI threshold,vI many,nS]) rfl rfl rfl CZ (fun u hu=>by simp only [List.mem_cons,List.not_mem_nil,or_false] at hu;rcases hu with rfl|rfl|rfl|rfl|rfl <;> rfl) (by repeat (constructor)) i7 oT k8 fun r4 l0 e6 l1 i8=>(?_))
     have a0:=a0.mv e6
     have a2:=a2.mv e6
     have ho0_12:=ho0_12.mv e6 l1 (fun b hb=>BC (d6 b hb))
     refine AG (AC (AF (AF (AB kR (AA (AD (vI 0) rfl (AG (AC (BA (CX (fun mI FI wI=>∃ (k:Nat) (a3:Value) (B:List Nat),k≤secret.length∧mI=secret.length - k∧(∃ F1,FI=FR F1 [(0,secret_v),(1,vI epoch),(2,vI threshold),(3,vI many),(4,coins_v),(12,a4),(13,vI ((i+1:Nat):Int)),(14,vP (some ⟨a5,0,none⟩)),(15,vI ((k:Nat):Int)),(92,undef)])∧St w O wI B∧ED Enc.u8 5 w.heap.size (B++O) wI a3 ((XI k fun q=>FH (IP secret coins threshold q) (DL ((i+1:Nat):Int))))∧(∀ b,a3.ownBlock=some b→b∈B)∧BB Enc.u8 wI (B++O) (secret_v) (secret)∧BB Enc.u8 wI (B++O) (coins_v) (coins)∧ED Enc.share 70 w.heap.size (B++O) wI a4 ((FL secret epoch threshold many coins i))∧(∀ b,a4.ownBlock=some b→b∈B)∧IB wI a5 70 [vI epoch,vI ((i+1:Nat):Int),vI threshold,vI many,a3]∧a5∈B∧(∀ b,a3.ownBlock=some b→b≠a5)∧(∀ b,a3.ownBlock=some b→a4.ownBlock≠some b)∧(∀ b,a4.ownBlock=some b→a3.ownBlock≠some b)) (secret.length - (0)) ?_ ?_))))))))))
     ·exact ⟨(0),(.slice none 0 0),(a5 :: o7),oM,rfl,⟨_,AP _ ⟨rfl,rfl,rfl,rfl,rfl,rfl,rfl,rfl,(by rfl),rfl,trivial⟩⟩,l0,(by rw [show (XI (0) fun q=>FH (IP secret coins threshold q) (DL ((i+1:Nat):Int)))=[] from rfl];exact (ED.nil Enc.u8 5 _ _ _)),(by intro b hb;simp [Value.ownBlock] at hb),a0,a2,ho0_12,a6,i8,(by (repeat (exact List.mem_cons_self))),(fun b hb=>by (simp [Value.ownBlock] at hb;done)),(fun b hb=>by (simp [Value.ownBlock] at hb;done)),(fun b hb=>by (simp [Value.ownBlock];done))⟩
     intro u2 F b2 hI
     clear a0 a2 ho0_12 a6
     obtain ⟨k,a3,b0,hr1_0,u3,⟨u4,rfl⟩,h3,ho1_b1276_4,a9,a0,a2,ho0_12,a6,a1,b4,nb1_b1276_4_b1276,no1_b1276_4_vo0_12,np1_b1276_4_vo0_12⟩:=hI
     refine AF (AF (AB kR (AA (AE (vI ((k:Nat):Int)) rfl (AA (AE (secret_v) rfl (AA (CA U23_ rfl a0 (AA (DO .i64 ((k:Nat):Int) (secret.length:Int) rfl rfl (AG (AC (AJ (decide (((k:Nat):Int)<(secret.length:Int))) rfl rfl (fun d7=>?_) (fun d7=>?_))))))))))))))
     ·have q0:((k:Nat):Int)<(secret.length:Int):=by simpa using d7
      refine AO (AC (AF (BA (AF (cw_draw' 16 _ _ [fun (vT:Value) (_:World)=>BB Enc.u8 b2 (b0++O) vT (secret),DZ (vI ((k:Nat):Int)),fun (vT:Value) (_:World)=>∃ aT,vT = .pointer (some aT)∧PT Enc.u8 b2 (b0++O) (.pointer (some aT)) (secret[k]!),DZ (vB (secret[k]!)),fun (vT:Value) (wT:World)=>∃ bT:Nat,vT.ownBlock=some bT∧b2.heap.size≤bT∧bT<wT.heap.size∧ED Enc.u8 5 w.heap.size ((bT :: b0)++O) wT vT ([secret[k]!]),fun (vT:Value) (_:World)=>BB Enc.u8 b2 (b0++O) vT (coins),DZ (vI ((k:Nat):Int)),DZ (vI threshold),DZ (vI (((threshold - 1).toNat:Nat):Int)),DZ (vI ((k*(threshold - 1).toNat:Nat):Int)),DZ (vI ((k:Nat):Int)),DZ (vI ((k+1:Nat):Int)),DZ (vI threshold),DZ (vI (((threshold - 1).toNat:Nat):Int)),DZ (vI (((k+1)*(threshold - 1).toNat:Nat):Int)),fun (vT:Value) (_:World)=>BB Enc.u8 b2 (b0++O) vT (((coins.take ((k+1)*(threshold - 1).toNat)).drop (k*(threshold - 1).toNat)))] kR kR kR kR rfl rfl ⟨fun _ _ _ h _=>h,kI,fun _ _ _ h _=>h,kI,fun _ _ _ ⟨b,e,h1,h2,h⟩ k=>⟨b,e,h1,Nat.lt_of_lt_of_le h2 k.size,h.mv (Mv.of_keep k) k (by simp)⟩,fun _ _ _ h _=>h,kI,kI,kI,kI,kI,kI,kI,kI,kI,fun _ _ _ h _=>h,trivial⟩ ⟨?_,?_,?_,?_,?_,?_,?_,?_,?_,?_,?_,?_,?_,?_,?_,?_,trivial⟩ ?_)))))
      ·intro F1 w1 k1 hf hd
       obtain ⟨F2,rfl⟩:=AL (F:=F1) [(0,secret_v)] ⟨hf 0 kR,trivial⟩
       exact AH rfl ((AE (secret_v) rfl (⟨(Keep.refl _ _),a0⟩)))
      ·intro F1 w1 k1 hf hd
       obtain ⟨F2,rfl⟩:=AL (F:=F1) [(15,vI ((k:Nat):Int))] ⟨hf 15 kR,trivial⟩
       exact AH rfl ((AE (vI ((k:Nat):Int)) rfl (⟨(Keep.refl _ _),rfl⟩)))
      ·intro F1 w1 k1 hf hd
       obtain ⟨l2,l3,f7⟩:∃ v,F1 61=v∧BB Enc.u8 b2 (b0++O) v (secret):=⟨_,rfl,hd 0 61 kR⟩
       have:=f7.len_le
       obtain ⟨F2,rfl⟩:=AL (F:=F1) [(61,l2),(62,vI ((k:Nat):Int))] ⟨l3,hd 1 62 kR,trivial⟩
       exact AH rfl ((o_idxU U23_ GK .i64 ((k:Nat):Int) k rfl rfl rfl f7 oM fun l4 i9=>(⟨(Keep.refl _ _),⟨l4,rfl,i9⟩⟩)))
      ·intro F1 w1 k1 hf hd
       have k0:=(Keep.drew [] b2).trans k1
       obtain ⟨l5,l6,j0⟩:∃ aX_,F1 63 = .pointer (some aX_)∧PT Enc.u8 b2 (b0++O) (.pointer (some aX_)) (secret[k]!):=hd 2 63 kR
       obtain ⟨F2,rfl⟩:=AL (F:=F1) [(63,vP (some l5))] ⟨l6,trivial⟩
       exact AH rfl ((o_loadBU U5_ rfl rfl j0 k0 (⟨(Keep.refl _ _),rfl⟩)))
      ·intro F1 w1 k1 hf hd
       have k0:=(Keep.drew [] b2).trans k1
       have s1:=h3.call k0
       obtain ⟨F2,rfl⟩:=AL (F:=F1) [(64,vB (secret[k]!))] ⟨hd 3 64 kR,trivial⟩
       refine AH rfl ((HT (E:=Enc.u8) (xs:=[.tmp 64]) U23_ GK VF (by decide) [vB (secret[k]!)] [[vB (secret[k]!)]] [secret[k]!] rfl rfl rfl (Parts.cons rfl rfl (Parts.nil _ _ _)) oT s1 fun r5 h4 r6 r7 f8 r8 r9 l7 f9=>(?_)))
       have j1:b2.heap.size≤h4:=by have:=k0.size;omega
       have j2:=(f9.lt h4 f8).2
       exact ⟨l7,⟨_,f8,j1,j2,f9⟩⟩
      ·intro F1 w1 k1 hf hd
       obtain ⟨F2,rfl⟩:=AL (F:=F1) [(4,coins_v)] ⟨hf 4 kR,trivial⟩
       exact AH rfl ((AE (coins_v) rfl (⟨(Keep.refl _ _),a2⟩)))
      ·intro F1 w1 k1 hf hd
       obtain ⟨F2,rfl⟩:=AL (F:=F1) [(15,vI ((k:Nat):Int))] ⟨hf 15 kR,trivial⟩
       exact AH rfl ((AE (vI ((k:Nat):Int)) rfl (⟨(Keep.refl _ _),rfl⟩)))
      ·intro F1 w1 k1 hf hd
       obtain ⟨F2,rfl⟩:=AL (F:=F1) [(2,vI threshold)] ⟨hf 2 kR,trivial⟩
       exact AH rfl ((AE (vI threshold) rfl (⟨(Keep.refl _ _),rfl⟩)))
      ·intro F1 w1 k1 hf hd
       obtain ⟨F2,rfl⟩:=AL (F:=F1) [(68,vI threshold)] ⟨hd 7 68 kR,trivial⟩
       exact AH rfl ((IA .i64 threshold (1:Int) ((((threshold - 1).toNat:Nat):Int)) rfl rfl (FQ oM oM) (⟨(Keep.refl _ _),rfl⟩)))
      ·intro F1 w1 k1 hf hd
       obtain ⟨F2,rfl⟩:=AL (F:=F1) [(67,vI ((k:Nat):Int)),(69,vI (((threshold - 1).toNat:Nat):Int))] ⟨hd 6 67 kR,hd 8 69 kR,trivial⟩
       exact AH rfl ((YB .i64 ((k:Nat):Int) (((threshold - 1).toNat:Nat):Int) (((k*(threshold - 1).toNat:Nat):Int)) rfl rfl (FQ (mulbN oM oM) (by simp)) (⟨(Keep.refl _ _),rfl⟩)))
      ·intro F1 w1 k1 hf hd
       obtain ⟨F2,rfl⟩:=AL (F:=F1) [(15,vI ((k:Nat):Int))] ⟨hf 15 kR,trivial⟩
       exact AH rfl ((AE (vI ((k:Nat):Int)) rfl (⟨(Keep.refl _ _),rfl⟩)))
      ·intro F1 w1 k1 hf hd
       obtain ⟨F2,rfl⟩:=AL (F:=F1) [(71,vI ((k:Nat):Int))] ⟨hd 10 71 kR,trivial⟩
       exact AH rfl ((DC .i64 ((k:Nat):Int) (1:Int) (((k+1:Nat):Int)) rfl rfl (FQ oM oM) (⟨(Keep.refl _ _),rfl⟩)))
      ·intro F1 w1 k1 hf hd
       obtain ⟨F2,rfl⟩:=AL (F:=F1) [(2,vI threshold)] ⟨hf 2 kR,trivial⟩
       exact AH rfl ((AE (vI threshold) rfl (⟨(Keep.refl _ _),rfl⟩)))
      ·intro F1 w1 k1 hf hd
       obtain ⟨F2,rfl⟩:=AL (F:=F1) [(73,vI threshold)] ⟨hd 12 73 kR,trivial⟩
       exact AH rfl ((IA .i64 threshold (1:Int) ((((threshold - 1).toNat:Nat):Int)) rfl rfl (FQ oM oM) (⟨(Keep.refl _ _),rfl⟩)))
      ·intro F1 w1 k1 hf hd
       obtain ⟨F2,rfl⟩:=AL (F:=F1) [(72,vI ((k+1:Nat):Int)),(74,vI (((threshold - 1).toNat:Nat):Int))] ⟨hd 11 72 kR,hd 13 74 kR,trivial⟩
       exact AH rfl ((YB .i64 ((k+1:Nat):Int) (((threshold - 1).toNat:Nat):Int) ((((k+1)*(threshold - 1).toNat:Nat):Int)) rfl rfl (FQ (mulbN oM oM) (by simp)) (⟨(Keep.refl _ _),rfl⟩)))
      ·intro F1 w1 k1 hf hd
       obtain ⟨l8,l9,g0⟩:∃ v,F1 66=v∧BB Enc.u8 b2 (b0++O) v (coins):=⟨_,rfl,hd 5 66 kR⟩
       have:=g0.len_le
       obtain ⟨F2,rfl⟩:=AL (F:=F1) [(66,l8),(70,vI ((k*(threshold - 1).toNat:Nat):Int)),(75,vI (((k+1)*(threshold - 1).toNat:Nat):Int))] ⟨l9,hd 9 70 kR,hd 14 75 kR,trivial⟩
       refine AH rfl ((XR U23_ GK (k*(threshold - 1).toNat) ((k+1)*(threshold - 1).toNat) rfl (.inr ⟨.tmp 70, .i64,((k*(threshold - 1).toNat:Nat):Int),rfl,rfl,oM⟩) (.inr ⟨.tmp 75, .i64,(((k+1)*(threshold - 1).toNat:Nat):Int),rfl,rfl,oM⟩) (Nat.mul_le_mul_right _ oM) (polyB oM oM hcl) g0 fun s2 j3=>(?_)))
       exact ⟨(Keep.refl _ _),j3⟩
      intro b7 h5 b9 b5 a7
      obtain ⟨m0,m2,j4⟩:∃ v,b7 61=v∧BB Enc.u8 b2 (b0++O) v (secret):=⟨_,rfl,b5 0 61 kR (by decide)⟩
      have:=j4.len_le
      obtain ⟨m3,m4,q1⟩:∃ aX_,b7 63 = .pointer (some aX_)∧PT Enc.u8 b2 (b0++O) (.pointer (some aX_)) (secret[k]!):=b5 2 63 kR (by decide)
      obtain ⟨m5,m6,j5⟩:∃ v,b7 66=v∧BB Enc.u8 b2 (b0++O) v (coins):=⟨_,rfl,b5 5 66 kR (by decide)⟩
      have:=j5.len_le
      obtain ⟨m7,m9,c0⟩:∃ v,b7 76=v∧BB Enc.u8 b2 (b0++O) v (((coins.take ((k+1)*(threshold - 1).toNat)).drop (k*(threshold - 1).toNat))):=⟨_,rfl,b5 15 76 kR (by decide)⟩
      have:=c0.len_le
      obtain ⟨b6,n2,b8,c1,g1,j6,j7⟩:∃ v,b7 65=v∧(fun (vT:Value) (wT:World)=>∃ bT:Nat,vT.ownBlock=some bT∧b2.heap.size≤bT∧bT<wT.heap.size∧ED Enc.u8 5 w.heap.size ((bT :: b0)++O) wT vT ([secret[k]!])) v h5:=⟨_,rfl,b5 4 65 kR (by decide)⟩
      have q2:GV a5 b8:=by show a5≠b8;have:=a1.lt;omega
      have g2:∀ b,b6.ownBlock=some b→b≠a5:=fun b hb=>by have:=a1.lt;rw [c1] at hb;cases hb;omega
      have d8:∀ b,a4.ownBlock=some b→b6.ownBlock≠some b:=fun b hb=>by have:=(ho0_12.lt b hb).2;rw [c1];intro e;cases e;omega
      have ne1345':∀ b,b6.ownBlock=some b→a4.ownBlock≠some b:=fun b hb e=>d8 b e hb
      have a6:∀ b,a4.ownBlock=some b→b∈(b8 :: b0):=fun b hb=>List.mem_cons_of_mem _ (a6 b hb)
      have d9:∀ b,a3.ownBlock=some b→b6.ownBlock≠some b:=fun b hb=>by have:=(ho1_b1276_4.lt b hb).2;rw [c1];intro e;cases e;omega
      have ne1346':∀ b,b6.ownBlock=some b→a3.ownBlock≠some b:=fun b hb e=>d9 b e hb
      have a9:∀ b,a3.ownBlock=some b→b∈(b8 :: b0):=fun b hb=>List.mem_cons_of_mem _ (a9 b hb)
      have j8:∀ b,b6.ownBlock=some b→b∈(b8 :: b0):=fun b hb=>by rw [c1] at hb;cases hb;simp
      have n3:=(h3.call b9).adopt (Nat.le_trans h3.keep.size g1) j6
      have c2:Mv b0 b2 (b8 :: b0) h5:=Mv.adopt b9 g1
      have a0:=a0.mv c2
      have a2:=a2.mv c2
      have ho0_12:=ho0_12.mv c2 b9 (by simp)
      have c0:=c0.mv c2
      have ho1_b1276_4:=ho1_b1276_4.mv c2 b9 (by simp)
      have a1:=a1.keep b9 (by simp)
      obtain ⟨F2,rfl⟩:=AL (F:=b7) [(0,secret_v),(1,vI epoch),(2,vI threshold),(3,vI many),(4,coins_v),(12,a4),(13,vI ((i+1:Nat):Int)),(14,vP (some ⟨a5,0,none⟩)),(15,vI ((k:Nat):Int)),(92,undef),(61,m0),(63,vP (some m3)),(65,b6),(66,m5),(76,m7)] ⟨a7 0 kR,a7 1 kR,a7 2 kR,a7 3 kR,a7 4 kR,a7 12 kR,a7 13 kR,a7 14 kR,a7 15 kR,a7 92 kR,m2,m4,n2,m6,m9,trivial⟩
      clear b5 a7
      refine AA (CY (E:=Enc.u8) (l:=[secret[k]!]) (m:=((coins.take ((k+1)*(threshold - 1).toNat)).drop (k*(threshold - 1).toNat))) U23_ RI rfl (by decide) rfl rfl j7 c0 (fun _ hb=>.inl hb) j8 (by simp only [List.length_cons,List.length_nil,List.length_drop,List.length_take];omega) (by simp only [List.length_cons,List.length_nil,List.length_drop,List.length_take,maxLen];omega) n3 fun b1 c3 b3 q3 e0 c6 e7 c7 e8 e2=>(?_))
      have q4:∀ b,a4.ownBlock=some b→b1.ownBlock≠some b:=fun b hb e=>by rcases e0 with e1|e1 <;> rw [e1] at e <;> first|(cases e;have:=(ho0_12.lt _ hb).2;omega)|(exact absurd e (d8 b hb))
      have q5:∀ b,a3.ownBlock=some b→b1.ownBlock≠some b:=fun b hb e=>by rcases e0 with e1|e1 <;> rw [e1] at e <;> first|(cases e;have:=(ho1_b1276_4.lt _ hb).2;omega)|(exact absurd e (d9 b hb))
      have q6:∀ b,b1.ownBlock=some b→b≠a5:=fun b hb=>by rcases e0 with e1|e1 <;> rw [e1] at hb <;> first|(cases hb;have:=a1.lt;omega)|(exact g2 b hb)
      have a6:∀ b,a4.ownBlock=some b→b∈b3:=fun b hb=>c6 b (a6 b hb)
      have a9:∀ b,a3.ownBlock=some b→b∈b3:=fun b hb=>c6 b (a9 b hb)
      have b4:a5∈b3:=c6 a5 rC
      have a0:=a0.mv c7
      have a2:=a2.mv c7
      have ho0_12:=ho0_12.mv c7 e8 (fun b hb=>by simp only [Option.mem_toList];exact d8 b hb)
      have ho1_b1276_4:=ho1_b1276_4.mv c7 e8 (fun b hb=>by simp only [Option.mem_toList];exact d9 b hb)
      have a1:=a1.keep e8 (by simp only [Option.mem_toList];exact fun e=>absurd rfl (g2 _ e))
      refine AA (AD (b1) rfl (AG (AC (cw_draw' 7 _ _ [DZ (vP (some ⟨a5,4,none⟩)),DZ a3,DZ b1,DZ (vI ((i+1:Nat):Int)),DZ (vB (DL ((i+1:Nat):Int))),DZ (vB (FH (([secret[k]!])++((coins.take ((k+1)*(threshold - 1).toNat)).drop (k*(threshold - 1).toNat))) (DL ((i+1:Nat):Int)))),fun (vT:Value) (wT:World)=>BB Enc.u8 wT (b3++O) vT ([FH (([secret[k]!])++((coins.take ((k+1)*(threshold - 1).toNat)).drop (k*(threshold - 1).toNat))) (DL ((i+1:Nat):Int))])] kR kR kR kR rfl rfl ⟨kI,kI,kI,kI,kI,kI,fun _ _ _ h k=>h.mv (Mv.of_keep k),trivial⟩ ⟨?_,?_,?_,?_,?_,?_,?_,trivial⟩ ?_))))
      ·intro F1 w1 k1 hf hd
       obtain ⟨F2,rfl⟩:=AL (F:=F1) [(14,vP (some ⟨a5,0,none⟩))] ⟨hf 14 kR,trivial⟩
       exact AH rfl ((AU 4 EP rfl (⟨(Keep.refl _ _),rfl⟩)))
      ·intro F1 w1 k1 hf hd
       have k0:=(Keep.drew [] c3).trans k1
       have a1:=a1.keep k0 (by simp)
       obtain ⟨F2,rfl⟩:=AL (F:=F1) [(78,vP (some ⟨a5,4,none⟩))] ⟨hd 0 78 kR,trivial⟩
       exact AH rfl ((AW U23_ rfl (a3) rfl a1 rfl (⟨(Keep.refl _ _),rfl⟩)))
      ·intro F1 w1 k1 hf hd
       obtain ⟨F2,rfl⟩:=AL (F:=F1) [(16,b1)] ⟨hf 16 kR,trivial⟩
       exact AH rfl ((AE (b1) rfl (⟨(Keep.refl _ _),rfl⟩)))
      ·intro F1 w1 k1 hf hd
       obtain ⟨F2,rfl⟩:=AL (F:=F1) [(13,vI ((i+1:Nat):Int))] ⟨hf 13 kR,trivial⟩
       exact AH rfl ((AE (vI ((i+1:Nat):Int)) rfl (⟨(Keep.refl _ _),rfl⟩)))
      ·intro F1 w1 k1 hf hd
       obtain ⟨F2,rfl⟩:=AL (F:=F1) [(81,vI ((i+1:Nat):Int))] ⟨hd 3 81 kR,trivial⟩
       exact AH rfl ((OU .i64 U3_ U5_ ((i+1:Nat):Int) rfl (⟨(Keep.refl _ _),rfl⟩)))
      ·intro F1 w1 k1 hf hd
       have k0:=(Keep.drew [] c3).trans k1
       have s1:=e7.call k0
       have m1:Mv b3 c3 b3 w1:=Mv.of_keep k0
       have e2:=e2.mv m1 k0 (by simp)
       obtain ⟨F2,rfl⟩:=AL (F:=F1) [(80,b1),(82,vB (DL ((i+1:Nat):Int)))] ⟨hd 2 80 kR,hd 4 82 kR,trivial⟩
       refine AH rfl ((AZ (vs:=[b1,vB (DL ((i+1:Nat):Int))]) enter_102 (c_refEval (O:=[]) b1 (([secret[k]!])++((coins.take ((k+1)*(threshold - 1).toNat)).drop (k*(threshold - 1).toNat))) (DL ((i+1:Nat):Int)) w1 e2.rd0 PQ) rfl s1 fun s3 s4 s5 s6 n4 n5=>(?_)))
       obtain rfl:=n5
       exact ⟨n4,rfl⟩
      ·intro F1 w1 k1 hf hd
       have k0:=(Keep.drew [] c3).trans k1
       have s1:=e7.call k0
       obtain ⟨F2,rfl⟩:=AL (F:=F1) [(83,vB (FH (([secret[k]!])++((coins.take ((k+1)*(threshold - 1).toNat)).drop (k*(threshold - 1).toNat))) (DL ((i+1:Nat):Int))))] ⟨hd 5 83 kR,trivial⟩
       refine AH rfl ((GZ (E:=Enc.u8) (xs:=[.tmp 83]) U23_ GK VF (by decide) [vB (FH (([secret[k]!])++((coins.take ((k+1)*(threshold - 1).toNat)).drop (k*(threshold - 1).toNat))) (DL ((i+1:Nat):Int)))] [[vB (FH (([secret[k]!])++((coins.take ((k+1)*(threshold - 1).toNat)).drop (k*(threshold - 1).toNat))) (DL ((i+1:Nat):Int)))]] [FH (([secret[k]!])++((coins.take ((k+1)*(threshold - 1).toNat)).drop (k*(threshold - 1).toNat))) (DL ((i+1:Nat):Int))] rfl rfl rfl (Parts.cons rfl rfl (Parts.nil _ _ _)) oT s1 fun s7 s8 s9 t0 n6 g3=>(?_)))
       have:=g3.len_le
       exact ⟨n6,g3⟩
      intro h6 h7 c4 e3 a8
      have n7:=e7.call c4
      have c8:Mv b3 c3 b3 h7:=Mv.of_keep c4
      have a0:=a0.mv c8
      have a2:=a2.mv c8
      have ho0_12:=ho0_12.mv c8 c4 (by simp)
      have ho1_b1276_4:=ho1_b1276_4.mv c8 c4 (by simp)
      have a1:=a1.keep c4 (by simp)
      obtain ⟨n9,o0,g4⟩:∃ v,h6 84=v∧BB Enc.u8 h7 (b3++O) v ([FH (([secret[k]!])++((coins.take ((k+1)*(threshold - 1).toNat)).drop (k*(threshold - 1).toNat))) (DL ((i+1:Nat):Int))]):=⟨_,rfl,e3 6 84 kR (by decide)⟩
      have:=g4.len_le
      obtain ⟨F2,rfl⟩:=AL (F:=h6) [(0,secret_v),(1,vI epoch),(2,vI threshold),(3,vI many),(4,coins_v),(12,a4),(13,vI ((i+1:Nat):Int)),(14,vP (some ⟨a5,0,none⟩)),(15,vI ((k:Nat):Int)),(92,undef),(79,a3),(84,n9)] ⟨a8 0 kR,a8 1 kR,a8 2 kR,a8 3 kR,a8 4 kR,a8 12 kR,a8 13 kR,a8 14 kR,a8 15 kR,a8 92 kR,e3 1 79 kR (by decide),o0,trivial⟩
      clear e3 a8
      refine AA (CY (E:=Enc.u8) (l:=(XI k fun q=>FH (IP secret coins threshold q) (DL ((i+1:Nat):Int)))) (m:=[FH (([secret[k]!])++((coins.take ((k+1)*(threshold - 1).toNat)).drop (k*(threshold - 1).toNat))) (DL ((i+1:Nat):Int))]) U23_ RI rfl (by decide) rfl rfl ho1_b1276_4 g4 (fun _ hb=>.inl hb) a9 (by rw [LG];simp;omega) (by rw [LG];simp [maxLen];omega) n7 fun c9 t2 e9 j9 g5 e4 o1 f0 h8 c5=>(?_))
      have g6:∀ b,a4.ownBlock=some b→c9.ownBlock≠some b:=fun b hb e=>by rcases g5 with e1|e1 <;> rw [e1] at e <;> first|(cases e;have:=(ho0_12.lt _ hb).2;omega)|(exact absurd e (np1_b1276_4_vo0_12 b hb))
      have g7:∀ b,c9.ownBlock=some b→b≠a5:=fun b hb=>by rcases g5 with e1|e1 <;> rw [e1] at hb <;> first|(cases hb;have:=a1.lt;omega)|(exact nb1_b1276_4_b1276 b hb)
      have a6:∀ b,a4.ownBlock=some b→b∈e9:=fun b hb=>e4 b (a6 b hb)
      have b4:a5∈e9:=e4 a5 (by repeat (assumption))
      have a0:=a0.mv f0
      have a2:=a2.mv f0
      have ho0_12:=ho0_12.mv f0 h8 (fun b hb=>by simp only [Option.mem_toList];exact np1_b1276_4_vo0_12 b hb)
      have a1:=a1.keep h8 (by simp only [Option.mem_toList];exact fun e=>absurd rfl (nb1_b1276_4_b1276 _ e))
      refine AA (AU 4 EP rfl (CB (CI (c9) rfl rfl c5.oneCell s_23 (by repeat (assumption)) a1 oT o1 fun t3 o2 d0 h9 k2=>(?_))))
      have a0:=a0.mv d0
      have a2:=a2.mv d0
      have ho0_12:=ho0_12.mv d0 h9 (fun b hb=>BC (d6 b hb))
      have c5:=c5.mv d0 h9 (fun b hb=>BC (g7 b hb))
      refine AG (BZ (AC (AB kR (AA (AE (vI ((k:Nat):Int)) rfl (AA (DC .i64 ((k:Nat):Int) (1:Int) (((k+1:Nat):Int)) rfl rfl (FQ oM oM) (AA (AD (vI ((k+1:Nat):Int)) rfl (AG (AC (?_))))))))))))
      exact ⟨_,oM,(k+1),c9,e9,oM,rfl,⟨_,AP _ ⟨rfl,rfl,rfl,rfl,rfl,rfl,rfl,rfl,(by rfl),rfl,trivial⟩⟩,o2,(by rw [show (XI (k+1) fun q=>FH (IP secret coins threshold q) (DL ((i+1:Nat):Int)))=(XI k fun q=>FH (IP secret coins threshold q) (DL ((i+1:Nat):Int)))++([FH (([secret[k]!])++((coins.take ((k+1)*(threshold - 1).toNat)).drop (k*(threshold - 1).toNat))) (DL ((i+1:Nat):Int))]) from tab_succ _ _];exact c5),j9,a0,a2,ho0_12,a6,k2,aS,g7,(fun b hb e=>g6 b e hb),g6⟩
     have q7:(secret.length:Int)≤((k:Nat):Int):=by simpa using d7
     obtain rfl:k=secret.length:=by omega
     refine CV (BL (BL (CL (AC (AB kR (AA (AE (a4) rfl (AA (BW (vs:=[vI epoch,vI ((i+1:Nat):Int),vI threshold,vI many,a3]) U70_ rfl CZ rfl a1 rfl (?_))))))))))
     obtain ⟨i0,o3,f1,g8,g9⟩:=ho1_b1276_4.publish h3
     have a6:∀ b,a4.ownBlock=some b→b∈i0:=fun b hb=>g9 b (a6 b hb) (np1_b1276_4_vo0_12 b hb)
     have b4:a5∈i0:=g9 a5 (by repeat (assumption)) (fun e=>absurd rfl (nb1_b1276_4_b1276 _ e))
     have o8:=g8.len_le
     have a0:=a0.mv f1
     have a2:=a2.mv f1
     have ho0_12:=ho0_12.mv f1 (Keep.refl [] _) (by simp)
     have a1:=a1.keep (Keep.refl [] _) (by simp)
     refine AA (GZ (E:=Enc.share) (xs:=[.tmp 88]) U32_ CZ KU (by decide) [.agg #[vI epoch,vI ((i+1:Nat):Int),vI threshold,vI many,a3]] [[vI epoch,vI ((i+1:Nat):Int),vI threshold,vI many,a3]] [(⟨epoch,((i+1:Nat):Int),threshold,many,(XI secret.length fun q=>FH (IP secret coins threshold q) (DL ((i+1:Nat):Int)))⟩:Share)] rfl rfl rfl (Parts.cons rfl ⟨_,rfl,g8⟩ (Parts.nil _ _ _)) oT o3 fun t4 t5 o4 f2 i1 h0=>(?_))
     have a0:=a0.mv f2
     have a2:=a2.mv f2
     have ho0_12:=ho0_12.mv f2 i1 (by simp)
     have a1:=a1.keep i1 (by simp)
     have:=h0.len_le
     refine AA (CY (E:=Enc.share) (l:=(FL secret epoch threshold many coins i)) (m:=[(⟨epoch,((i+1:Nat):Int),threshold,many,(XI secret.length fun q=>FH (IP secret coins threshold q) (DL ((i+1:Nat):Int)))⟩:Share)]) U32_ i_70 rfl (by decide) rfl rfl ho0_12 h0 (fun _ hb=>.inl hb) a6 (by rw [QG];simp;omega) (by rw [QG];simp [maxLen];omega) o4 fun f3 t6 i2 k3 k4 i4 o5 i3 t7 k5=>(?_))
     have q8:∀ b,f3.ownBlock=some b→b≠a5:=fun b hb=>by rcases k4 with e1|e1 <;> rw [e1] at hb <;> first|(cases hb;have:=a1.lt;omega)|(exact d6 b hb)
     have b4:a5∈i2:=i4 a5 (by repeat (assumption))
     have a0:=a0.mv i3
     have a2:=a2.mv i3
     refine AA (AD (f3) rfl (AG (BZ (AC (AB kR (AA (AE (vI ((i+1:Nat):Int)) rfl (AA (DC .i64 ((i+1:Nat):Int) (1:Int) (((i+1+1:Nat):Int)) rfl rfl (FQ oM oM) (AA (AD (vI ((i+1+1:Nat):Int)) rfl (AG (AC (?_))))))))))))))
     exact ⟨_,oM,(i+1),f3,i2,oM,rfl,⟨_,AP _ ⟨rfl,rfl,rfl,rfl,rfl,rfl,(by rfl),rfl,trivial⟩⟩,o5,(by rw [show (FL secret epoch threshold many coins (i+1))=(FL secret epoch threshold many coins i)++([(⟨epoch,((i+1:Nat):Int),threshold,many,(XI secret.length fun q=>FH (IP secret coins threshold q) (DL ((i+1:Nat):Int)))⟩:Share)]) from VV _ _ _ _ _ _];exact k5),k3,a0,a2⟩
    have q9:many<((i+1:Nat):Int):=by simpa using d5
    obtain rfl:i=many.toNat:=by omega
    refine CV (BL (BL (CL (AC (AF (AB kR (AA (AE (a4) rfl (AA (AD (a4) rfl (AA (AD (vI 0) rfl (AG (AC (AM (AS rfl (EA rfl rfl rfl rfl) (?_)))))))))))))))))
    have e:(AY secret epoch threshold many coins)=((FL secret epoch threshold many coins many.toNat),(0:Int)):=by exact refSplitM_ok (by unfold DM;((repeat ((refine (if_neg ?_).trans ?_;omega)));rfl)) rfl
    exact ⟨_,rfl,i6.keep,by rw [e];exact ⟨a4,rfl,ho0_12.pub i6⟩⟩
   have r0:epoch<(0:Int):=by simpa using f6
   refine AT rfl (AT rfl (AA (AX (vO true) rfl rfl (AG (AC (AJ true rfl rfl (fun _=>AF (AB kR (AA (AD (nS) rfl (AA (AD (vI 81) rfl (AG (AC (AM (AK (AS rfl (EA rfl rfl rfl rfl) (?_)))))))))))) (fun h=>by cases h)))))))
   have e:(AY secret epoch threshold many coins)=([],(81:Int)):=by exact GU (by unfold DM;((repeat (first|(refine (if_pos ?_).trans ?_;omega)|(refine (if_neg ?_).trans ?_;omega)));rfl)) (by decide)
   exact ⟨_,rfl,s0.keep,by rw [e];exact ⟨.slice none 0 0,rfl,BB.nil _ _ _⟩⟩
  have r1:many<threshold:=by simpa using f5
  refine AT rfl (AT rfl (AA (AX (vO true) rfl rfl (AG (AC (AJ true rfl rfl (fun _=>AF (AB kR (AA (AD (nS) rfl (AA (AD (vI 80) rfl (AG (AC (AM (AK (AS rfl (EA rfl rfl rfl rfl) (?_)))))))))))) (fun h=>by cases h)))))))
  have e:(AY secret epoch threshold many coins)=([],(80:Int)):=by exact GU (by unfold DM;((repeat (first|(refine (if_pos ?_).trans ?_;omega)|(refine (if_neg ?_).trans ?_;omega)));rfl)) (by decide)
  exact ⟨_,rfl,s0.keep,by rw [e];exact ⟨.slice none 0 0,rfl,BB.nil _ _ _⟩⟩
 have r2:threshold<(1:Int):=by simpa using f4
 refine AT rfl (AT rfl (AT rfl (AA (AX (vO true) rfl rfl (AA (AE (vO true) rfl (AT rfl (AT rfl (AA (AX (vO true) rfl rfl (AG (AC (AJ true rfl rfl (fun _=>AF (AB kR (AA (AD (nS) rfl (AA (AD (vI 80) rfl (AG (AC (AM (AK (AS rfl (EA rfl rfl rfl rfl) (?_)))))))))))) (fun h=>by cases h))))))))))))))
 have e:(AY secret epoch threshold many coins)=([],(80:Int)):=by exact GU (by unfold DM;((repeat (first|(refine (if_pos ?_).trans ?_;omega)|(refine (if_neg ?_).trans ?_;omega)));rfl)) (by decide)
 exact ⟨_,rfl,s0.keep,by rw [e];exact ⟨.slice none 0 0,rfl,BB.nil _ _ _⟩⟩
open Go.Fw Go.RowKit
set_option maxHeartbeats 4000000 in
set_option maxRecDepth 100000 in
theorem c_refShareL {O:List Nat} (l_v:Value) (l:List Share) (index:Int) (w:World) (a1:BB Enc.share w O l_v l) (hO:∀ b∈O,b<w.heap.size):CE Try.prog 60 [l_v,vI index] w (fun v w'=>∃ (x0:List Value),v = .agg x0.toArray∧Enc.share.rd w' (O) x0 (DV l index)):= by
 have c7:=a1.len_le
 have a1:BB Enc.share w ([]++O) l_v l:=a1
 have s0:St w O w []:=St.start hO
 refine BI 24 Try.func60 rfl rfl oT (fun F0=>AF (AB kR (AA (DE [vI 0,vI 0,vI 0,vI 0,nS] KU rfl s0 fun a3 c8 b5 b6 b7 c9 a0=>(?_)))))
 clear b5
 have a1:=a1.mv b7
 refine AG (AC (AF (AF (AB kR (AA (AD (vI 0) rfl (AG (AC (BA (CX (fun mI FI wI=>∃ (k:Nat) (B:List Nat),k≤l.length∧DV l index=EX (fun k=>if l[k]!.index == index then some l[k]! else none) ⟨0,0,0,0,[]⟩ k (l.length - k)∧mI=l.length - k∧(∃ F1,FI=FR F1 [(0,l_v),(1,vI index),(4,vP (some ⟨a3,0,none⟩)),(5,vI ((k:Nat):Int)),(24,undef)])∧St w O wI B∧BB Enc.share wI (B++O) (l_v) (l)∧IB wI a3 70 [vI 0,vI 0,vI 0,vI 0,nS]∧a3∈B) (l.length - (0)) ?_ ?_))))))))))
 ·exact ⟨(0),(a3 :: []),oM,rfl,rfl,⟨_,AP _ ⟨rfl,rfl,rfl,(by rfl),rfl,trivial⟩⟩,b6,a1,a0,(by (repeat (exact List.mem_cons_self)))⟩
 intro d8 F d9 hI
 clear a1 a0
 obtain ⟨k,a7,hr0_0,hr0_1,e0,⟨e1,rfl⟩,a8,a1,a0,c1⟩:=hI
 refine AF (AF (AB kR (AA (AE (vI ((k:Nat):Int)) rfl (AA (AE (l_v) rfl (AA (CA U32_ rfl a1 (AA (DO .i64 ((k:Nat):Int) (l.length:Int) rfl rfl (AG (AC (AJ (decide (((k:Nat):Int)<(l.length:Int))) rfl rfl (fun a5=>?_) (fun a5=>?_))))))))))))))
 ·have c2:((k:Nat):Int)<(l.length:Int):=by simpa using a5
  refine AO (AC (AF (BA (AF (AB kR (AA (AE (l_v) rfl (AA (AE (vI ((k:Nat):Int)) rfl (AA (CP U32_ CZ .i64 ((k:Nat):Int) k rfl rfl rfl a1 oM fun d0 a9=>(AA (BH 1 KJ ((l[k]!).index) rfl a9 (fun _ _ _ h=>IL h) fun d1 b0=>(AA (CC U3_ rfl rfl b0 (AA (AE (vI index) rfl (AA (GO .i64 ((l[k]!).index) index rfl rfl (AG (AC (AJ (((l[k]!).index) == index) rfl rfl (fun a6=>?_) (fun a6=>?_)))))))))))))))))))))))
  ·have c3:(l[k]!).index=index:=by simpa using a6
   refine AF (AB kR (AA (AE (l_v) rfl (AA (AE (vI ((k:Nat):Int)) rfl (AA (CP U32_ CZ .i64 ((k:Nat):Int) k rfl rfl rfl a1 oM fun d2 b1=>(AA (DF U70_ rfl CZ rfl b1 fun c4 b2=>(?_))))))))))
   obtain ⟨a4,rfl,a2⟩:=b2
   have:=a2.len_le
   refine CB (BF (vs:=[vI ((l[k]!).epoch),vI ((l[k]!).index),vI ((l[k]!).threshold),vI ((l[k]!).many),a4]) (.agg #[vI ((l[k]!).epoch),vI ((l[k]!).index),vI ((l[k]!).threshold),vI ((l[k]!).many),a4]) rfl rfl rfl CZ (fun u hu=>by simp only [List.mem_cons,List.not_mem_nil,or_false] at hu;rcases hu with rfl|rfl|rfl|rfl|rfl <;> first|rfl|exact a2.oneCell) (by repeat (assumption)) a0 oT a8 fun d3 b8 b9 d4 b3=>(?_))
   have a2:=a2.mv b9
   refine AG (AC (AM (BK (AK (AK (BK (AK (AS rfl (rescA (vs:=[vI ((l[k]!).epoch),vI ((l[k]!).index),vI ((l[k]!).threshold),vI ((l[k]!).many),a4]) rfl rfl U70_ rfl CZ rfl b3 rfl) (?_)))))))))
   have e:(DV l index)=(l[k]!):=by (rw [hr0_1];exact DB oM (by ((repeat ((refine (if_pos ?_).trans ?_;omega)));rfl)))
   exact ⟨_,rfl,b8.keep,by rw [e];exact ⟨[vI ((l[k]!).epoch),vI ((l[k]!).index),vI ((l[k]!).threshold),vI ((l[k]!).many),a4],rfl,Enc.out (B:=a7) ⟨_,rfl,a2⟩⟩⟩
  have c5:(l[k]!).index≠index:=by simpa using a6
  refine AO (BZ (AC (AB kR (AA (AE (vI ((k:Nat):Int)) rfl (AA (DC .i64 ((k:Nat):Int) (1:Int) (((k+1:Nat):Int)) rfl rfl (FQ oM oM) (AA (AD (vI ((k+1:Nat):Int)) rfl (AG (AC (?_))))))))))))
  exact ⟨_,oM,(k+1),a7,oM,(hr0_1.trans (FF oM (by ((repeat ((refine (if_neg ?_).trans ?_;solve|(simp only [dbs];(repeat (omega))))));rfl)))),rfl,⟨_,AP _ ⟨rfl,rfl,rfl,(by rfl),rfl,trivial⟩⟩,a8,a1,a0,aS⟩
 have c6:(l.length:Int)≤((k:Nat):Int):=by simpa using a5
 refine CV (BL (BL (CL (AC (AF (AB kR (AA (EN (l:=[]) pl_70 KU rfl [] [vI 0,vI 0,vI 0,vI 0,nS] rfl rfl (CB (BF (vs:=[vI 0,vI 0,vI 0,vI 0,nS]) (.agg #[vI 0,vI 0,vI 0,vI 0,nS]) rfl rfl rfl CZ (fun u hu=>by simp only [List.mem_cons,List.not_mem_nil,or_false] at hu;rcases hu with rfl|rfl|rfl|rfl|rfl <;> rfl) (by repeat (assumption)) a0 oT a8 fun d5 c0 d6 d7 b4=>(AG (AC (AM (AS rfl (rescA (vs:=[vI 0,vI 0,vI 0,vI 0,nS]) rfl rfl U70_ rfl CZ rfl b4 rfl) (?_)))))))))))))))
 have e:(DV l index)=(⟨(0:Int),(0:Int),(0:Int),(0:Int),[]⟩:Share):=by (rw [hr0_1];exact GR oM)
 exact ⟨_,rfl,c0.keep,by rw [e];exact ⟨[vI 0,vI 0,vI 0,vI 0,nS],rfl,Enc.out (B:=a7) ⟨.slice none 0 0,rfl,(BB.nil _ _ _)⟩⟩⟩
set_option maxHeartbeats 4000000 in
set_option maxRecDepth 100000 in
theorem c_refMixed {O:List Nat} (la_v:Value) (la:List Share) (lb_v:Value) (lb:List Share) (secret_v:Value) (secret:List UInt8) (w:World) (b2:BB Enc.share w O la_v la) (a2:BB Enc.share w O lb_v lb) (a0:BB Enc.u8 w O secret_v secret) (hO:∀ b∈O,b<w.heap.size):CE Try.prog 22 [la_v,lb_v,secret_v] w (fun v w'=>∃ (x0:Value),v = .tuple #[x0,vI ((BN la lb secret).2)]∧BB Enc.u8 w' (O) x0 ((BN la lb secret).1)):= by
 have C8:=b2.len_le
 have b2:BB Enc.share w ([]++O) la_v la:=b2
 have C9:=a2.len_le
 have a2:BB Enc.share w ([]++O) lb_v lb:=a2
 have t7:=a0.len_le
 have a0:BB Enc.u8 w ([]++O) secret_v secret:=a0
 have s0:St w O w []:=St.start hO
 refine BI 165 Try.func22 rfl rfl oT (fun F0=>AF (AB kR (AA (AD (nS) rfl (AA (AD (vI 0) rfl (AG (AC (AF (AB kR (AA (AE (la_v) rfl (AA (AZ (vs:=[la_v]) WM (OX (O:=[]++O) la_v la w b2 s0.lt) rfl s0 fun F6 t8 h0 h3 F7 t9=>(?_)))))))))))))))
 obtain rfl:=t9
 have b2:=b2.mv h3
 have a2:=a2.mv h3
 have a0:=a0.mv h3
 refine AA (AD (vI (BP la)) rfl (AG (AC (AF (AF (AB kR (AA (AE (vI (BP la)) rfl (AA (CT .i64 (BP la) (0:Int) rfl rfl (AG (AC (AJ ((BP la) != (0:Int)) rfl rfl (fun f1=>?_) (fun f1=>?_))))))))))))))
 ·have D0:BP la≠(0:Int):=by simpa using f1
  refine AF (AB kR (AA (AE (vI (BP la)) rfl (AA (AD (nS) rfl (AA (AD (vI (BP la)) rfl (AG (AC (AM (AK (AS rfl (EA rfl rfl rfl rfl) (?_)))))))))))))
  have u0:((BN la lb secret).1)=([]):=by exact congrArg (fun p=>p.1) (show BN la lb secret=_ from UR aS)
  have u1:((BN la lb secret).2)=(BP la):=by exact congrArg (fun p=>p.2) (show BN la lb secret=_ from UR aS)
  exact ⟨_,rfl,h0.keep,by rw [u0,u1];exact ⟨.slice none 0 0,rfl,BB.nil _ _ _⟩⟩
 have o1:BP la=(0:Int):=by simpa using f1
 have hca:BP la=0:=o1
 have hva:=(FS la).1 (by rw [← IJ];exact hca)
 have hpa:=hva.pos
 have hepa:=hva.ep1
 have hepa0:=hva.ep0
 refine AO (AC (AF (AB kR (AA (AE (lb_v) rfl (AA (AZ (vs:=[lb_v]) WM (OX (O:=[]++O) lb_v lb t8 a2 h0.lt) rfl h0 fun F8 u2 l2 h4 F9 u3=>(?_))))))))
 obtain rfl:=u3
 have b2:=b2.mv h4
 have a2:=a2.mv h4
 have a0:=a0.mv h4
 refine AA (AD (vI (BP lb)) rfl (AG (AC (AF (AF (AB kR (AA (AE (vI (BP lb)) rfl (AA (CT .i64 (BP lb) (0:Int) rfl rfl (AG (AC (AJ ((BP lb) != (0:Int)) rfl rfl (fun f2=>?_) (fun f2=>?_))))))))))))))
 ·have D1:BP lb≠(0:Int):=by simpa using f2
  refine AF (AB kR (AA (AE (vI (BP lb)) rfl (AA (AD (nS) rfl (AA (AD (vI (BP lb)) rfl (AG (AC (AM (AK (AS rfl (EA rfl rfl rfl rfl) (?_)))))))))))))
  have u4:((BN la lb secret).1)=([]):=by exact congrArg (fun p=>p.1) (show BN la lb secret=_ from VM aS aS)
  have u5:((BN la lb secret).2)=(BP lb):=by exact congrArg (fun p=>p.2) (show BN la lb secret=_ from VM aS aS)
  exact ⟨_,rfl,l2.keep,by rw [u4,u5];exact ⟨.slice none 0 0,rfl,BB.nil _ _ _⟩⟩
 have o2:BP lb=(0:Int):=by simpa using f2
 have hcb:BP lb=0:=o2
 have hvb:=(FS lb).1 (by rw [← IJ];exact hcb)
 have hpb:=hvb.pos
 have hlb8:=hvb.len8
 refine AO (AC (AF (AF (FJ 45 _ _ kR kR kR kR kR rfl rfl fun l3 l4=>?_))))
 have c6:=l2.call l4
 have h5:Mv ([]) u2 ([]) l3:=Mv.of_keep l4
 have b2:=b2.mv h5
 have a2:=a2.mv h5
 have a0:=a0.mv h5
 refine BM (AE (la_v) rfl (BM (CP U32_ CZ .i64 (0:Int) 0 rfl rfl rfl b2 oM fun G0 o3=>(BM (BH 2 HK ((la[0]!).threshold) rfl o3 (fun _ _ _ h=>HM h) fun G1 o4=>(BM (CC U3_ rfl rfl o4 (BM (AE (lb_v) rfl (BM (CP U32_ CZ .i64 (0:Int) 0 rfl rfl rfl a2 oM fun G2 o5=>(BM (BH 2 HK ((lb[0]!).threshold) rfl o5 (fun _ _ _ h=>HM h) fun G3 o6=>(BM (CC U3_ rfl rfl o6 (BM (CT .i64 ((la[0]!).threshold) ((lb[0]!).threshold) rfl rfl (BM (AE (vO (((la[0]!).threshold) != ((lb[0]!).threshold))) rfl (?_))))))))))))))))))))
 cases i7:(((la[0]!).threshold) != ((lb[0]!).threshold))
 ·have D2:(la[0]!).threshold=(lb[0]!).threshold:=by simpa using i7
  refine DR rfl (AE (la_v) rfl (DR rfl (CP U32_ CZ .i64 (0:Int) 0 rfl rfl rfl b2 oM fun G4 o7=>(DR rfl (BH 3 HF ((la[0]!).many) rfl o7 (fun _ _ _ h=>LF h) fun G5 o8=>(DR rfl (CC U3_ rfl rfl o8 (DR rfl (AE (lb_v) rfl (DR rfl (CP U32_ CZ .i64 (0:Int) 0 rfl rfl rfl a2 oM fun G6 o9=>(DR rfl (BH 3 HF ((lb[0]!).many) rfl o9 (fun _ _ _ h=>LF h) fun G7 p0=>(DR rfl (CC U3_ rfl rfl p0 (DR rfl (CT .i64 ((la[0]!).many) ((lb[0]!).many) rfl rfl (BM (BX (vO (((la[0]!).many) != ((lb[0]!).many))) rfl rfl (BM (AE (vO (((la[0]!).many) != ((lb[0]!).many))) rfl (?_))))))))))))))))))))))
  cases i8:(((la[0]!).many) != ((lb[0]!).many))
  ·have D3:(la[0]!).many=(lb[0]!).many:=by simpa using i8
   refine DR rfl (AE (la_v) rfl (DR rfl (CP U32_ CZ .i64 (0:Int) 0 rfl rfl rfl b2 oM fun G8 p1=>(DR rfl (BH 4 EP ((la[0]!).data) rfl p1 (fun _ _ _ h=>EG h) fun G9 p2=>(DR rfl (CF U23_ rfl rfl p2 fun H0 i9=>(?_))))))))
   have:=i9.len_le
   refine DR rfl (CA U23_ rfl i9 (DR rfl (AE (lb_v) rfl (DR rfl (CP U32_ CZ .i64 (0:Int) 0 rfl rfl rfl a2 oM fun H1 p3=>(DR rfl (BH 4 EP ((lb[0]!).data) rfl p3 (fun _ _ _ h=>EG h) fun H2 p4=>(DR rfl (CF U23_ rfl rfl p4 fun H3 j0=>(?_))))))))))
   have:=j0.len_le
   refine DR rfl (CA U23_ rfl j0 (DR rfl (CT .i64 (((la[0]!).data).length:Int) (((lb[0]!).data).length:Int) rfl rfl (BM (BX (vO ((((la[0]!).data).length:Int) != (((lb[0]!).data).length:Int))) rfl rfl (BM (AE (vO ((((la[0]!).data).length:Int) != (((lb[0]!).data).length:Int))) rfl (?_))))))))
   cases j1:((((la[0]!).data).length:Int) != (((lb[0]!).data).length:Int))
   ·have D4:(((la[0]!).data).length:Int)=(((lb[0]!).data).length:Int):=by simpa using j1
    refine DR rfl (AE (lb_v) rfl (DR rfl (CP U32_ CZ .i64 (0:Int) 0 rfl rfl rfl a2 oM fun H4 p5=>(DR rfl (BH 0 HD ((lb[0]!).epoch) rfl p5 (fun _ _ _ h=>FM h) fun H5 p6=>(DR rfl (CC U3_ rfl rfl p6 (DR rfl (AE (la_v) rfl (DR rfl (CP U32_ CZ .i64 (0:Int) 0 rfl rfl rfl b2 oM fun H6 p7=>(DR rfl (BH 0 HD ((la[0]!).epoch) rfl p7 (fun _ _ _ h=>FM h) fun H7 p8=>(DR rfl (CC U3_ rfl rfl p8 (DR rfl (DC .i64 ((la[0]!).epoch) (1:Int) (((la[0]!).epoch)+(1:Int)) rfl rfl (FQ oM oM) (DR rfl (CT .i64 ((lb[0]!).epoch) (((la[0]!).epoch)+(1:Int)) rfl rfl (BM (BX (vO (((lb[0]!).epoch) != (((la[0]!).epoch)+(1:Int)))) rfl rfl (EQ (AG (AC (AJ (((lb[0]!).epoch) != (((la[0]!).epoch)+(1:Int))) rfl rfl (fun f3=>?_) (fun f3=>?_))))))))))))))))))))))))))
    ·have D5:(lb[0]!).epoch≠((la[0]!).epoch)+(1:Int):=by simpa using f3
     refine AF (AB kR (AA (AD (nS) rfl (AA (AD (vI 460) rfl (AG (AC (AM (AK (AS rfl (EA rfl rfl rfl rfl) (?_)))))))))))
     have u6:((BN la lb secret).1)=([]):=by exact congrArg (fun p=>p.1) (show BN la lb secret=_ from ID aS aS (EK oM))
     have u7:((BN la lb secret).2)=(460:Int):=by exact congrArg (fun p=>p.2) (show BN la lb secret=_ from ID aS aS (EK oM))
     exact ⟨_,rfl,c6.keep,by rw [u6,u7];exact ⟨.slice none 0 0,rfl,BB.nil _ _ _⟩⟩
    have D6:(lb[0]!).epoch=((la[0]!).epoch)+(1:Int):=by simpa using f3
    have f4:JY la[0]! lb[0]! = false:=(NQ _ _).2 oM
    refine AO (AC (AF (AB kR (AA (AE (la_v) rfl (AA (AE (secret_v) rfl (AA (AZ (vs:=[la_v,secret_v]) enter_58 (RU (O:=[]++O) la_v la secret_v secret l3 b2 a0 c6.lt) rfl c6 fun H8 u9 l5 h6 H9 v0=>(?_))))))))))
    obtain ⟨b6,rfl,a1⟩:=v0
    have:=a1.len_le
    have b2:=b2.mv h6
    have a2:=a2.mv h6
    have a0:=a0.mv h6
    refine AA (AE (vT #[b6,vI ((AI la secret).2)]) rfl (AA (AN (b6) rfl rfl (AA (AN (vI ((AI la secret).2)) rfl rfl (AA (AD (b6) rfl (AA (AD (vI ((AI la secret).2)) rfl (AG (AC (AF (AF (AB kR (AA (AE (vI ((AI la secret).2)) rfl (AA (CT .i64 ((AI la secret).2) (0:Int) rfl rfl (AG (AC (AJ (((AI la secret).2) != (0:Int)) rfl rfl (fun f5=>?_) (fun f5=>?_))))))))))))))))))))))
    ·have D7:(AI la secret).2≠(0:Int):=by simpa using f5
     refine AF (AB kR (AA (AE (vI ((AI la secret).2)) rfl (AA (AD (nS) rfl (AA (AD (vI ((AI la secret).2)) rfl (AG (AC (AM (AK (AS rfl (EA rfl rfl rfl rfl) (?_)))))))))))))
     have v1:((BN la lb secret).1)=([]):=by exact congrArg (fun p=>p.1) (show BN la lb secret=_ from WD hca hcb f4 aS)
     have v2:((BN la lb secret).2)=((AI la secret).2):=by exact congrArg (fun p=>p.2) (show BN la lb secret=_ from WD hca hcb f4 aS)
     exact ⟨_,rfl,l5.keep,by rw [v1,v2];exact ⟨.slice none 0 0,rfl,BB.nil _ _ _⟩⟩
    have p9:(AI la secret).2=(0:Int):=by simpa using f5
    have hex:(AI la secret).2=0:=p9
    have C2:=refMx_of hcb hex f4
    have hfe:=FE hex
    refine AO (AC (AF (FJ 14 _ _ kR kR kR kR kR rfl rfl fun l6 l7=>?_)))
    have l8:=l5.call l7
    have e5:Mv ([]) u9 ([]) l6:=Mv.of_keep l7
    have b2:=b2.mv e5
    have a2:=a2.mv e5
    have a0:=a0.mv e5
    have a1:=a1.mv e5
    refine BM (AE (secret_v) rfl (BM (AE (la_v) rfl (BM (CP U32_ CZ .i64 (0:Int) 0 rfl rfl rfl b2 oM fun I0 q0=>(BM (BH 0 HD ((la[0]!).epoch) rfl q0 (fun _ _ _ h=>FM h) fun I1 q1=>(BM (CC U3_ rfl rfl q1 (BM (AE (la_v) rfl (BM (CP U32_ CZ .i64 (0:Int) 0 rfl rfl rfl b2 oM fun I2 q2=>(BM (BH 2 HK ((la[0]!).threshold) rfl q2 (fun _ _ _ h=>HM h) fun I3 q3=>(BM (CC U3_ rfl rfl q3 (BM (AE (la_v) rfl (BM (CP U32_ CZ .i64 (0:Int) 0 rfl rfl rfl b2 oM fun I4 q4=>(BM (BH 3 HF ((la[0]!).many) rfl q4 (fun _ _ _ h=>LF h) fun I5 q5=>(BM (CC U3_ rfl rfl q5 (BM (AE (b6) rfl (EQ (AA (AZ (vs:=[secret_v,vI ((la[0]!).epoch),vI ((la[0]!).threshold),vI ((la[0]!).many),b6]) enter_59 (c_refSplit (O:=[]++O) secret_v secret ((la[0]!).epoch) ((la[0]!).threshold) ((la[0]!).many) b6 ((AI la secret).1) l6 a0 a1 l8.lt) rfl l8 fun I6 I7 v3 h7 I8 v4=>(?_)))))))))))))))))))))))))))))))
    obtain ⟨b7,rfl,a3⟩:=v4
    have:=a3.len_le
    have a2:=a2.mv h7
    have a0:=a0.mv h7
    have a1:=a1.mv h7
    refine AA (AE (vT #[b7,vI ((AY secret ((la[0]!).epoch) ((la[0]!).threshold) ((la[0]!).many) ((AI la secret).1)).2)]) rfl (AA (AN (b7) rfl rfl (AA (AN (vI ((AY secret ((la[0]!).epoch) ((la[0]!).threshold) ((la[0]!).many) ((AI la secret).1)).2)) rfl rfl (AA (AD (b7) rfl (AA (AD (vI ((AY secret ((la[0]!).epoch) ((la[0]!).threshold) ((la[0]!).many) ((AI la secret).1)).2)) rfl (AG (AC (AF (AB kR (AA (HT (E:=Enc.share) (xs:=[]) U32_ CZ KU (by decide) [] [] [] rfl rfl rfl (Parts.nil _ _ _) oT v3 fun h8 l9 I9 v5 j2 v6 e6 J0 q6=>(?_))))))))))))))))
    have q7:∀ b,h8.ownBlock=some b→b∈(l9 :: []):=fun b hb=>by rw [j2] at hb;cases hb;simp
    clear v5 j2
    have a2:=a2.mv e6
    have a0:=a0.mv e6
    have a1:=a1.mv e6
    have a3:=a3.mv e6
    refine AA (AD (h8) rfl (AG (AC (AF (AF (AB kR (AA (AD (vI 0) rfl (AG (AC (BA (CX (fun mI FI wI=>∃ (i:Nat) (a6:Value) (B:List Nat),i≤lb.length∧mI=lb.length - i∧(∃ F1,FI=FR F1 [(1,lb_v),(2,secret_v),(10,b6),(12,b7),(14,a6),(15,vI ((i:Nat):Int)),(165,undef)])∧St w O wI B∧ED Enc.share 70 w.heap.size (B++O) wI a6 ((DU lb (AY secret la[0]!.epoch la[0]!.threshold la[0]!.many (AI la secret).1).1 secret.length i))∧(∀ b,a6.ownBlock=some b→b∈B)∧BB Enc.share wI (B++O) (lb_v) (lb)∧BB Enc.u8 wI (B++O) (secret_v) (secret)∧BB Enc.u8 wI (B++O) (b6) ((AI la secret).1)∧BB Enc.share wI (B++O) (b7) ((AY secret ((la[0]!).epoch) ((la[0]!).threshold) ((la[0]!).many) ((AI la secret).1)).1)) (lb.length - (0)) ?_ ?_))))))))))))
    ·exact ⟨(0),h8,(l9 :: []),oM,rfl,⟨_,AP _ ⟨rfl,rfl,rfl,rfl,rfl,(by rfl),rfl,trivial⟩⟩,v6,(by rw [show (DU lb (AY secret la[0]!.epoch la[0]!.threshold la[0]!.many (AI la secret).1).1 secret.length (0))=[] from rfl];exact q6),q7,a2,a0,a1,a3⟩
    intro M1 F M2 hI
    clear a2 a0 a1 a3
    obtain ⟨i,a6,e4,hr0_0,M3,⟨M4,rfl⟩,C3,ho0_14,b1,a2,a0,a1,a3⟩:=hI
    refine AF (AF (AB kR (AA (AE (vI ((i:Nat):Int)) rfl (AA (AE (lb_v) rfl (AA (CA U32_ rfl a2 (AA (DO .i64 ((i:Nat):Int) (lb.length:Int) rfl rfl (AG (AC (AJ (decide (((i:Nat):Int)<(lb.length:Int))) rfl rfl (fun f6=>?_) (fun f6=>?_))))))))))))))
    ·have D8:((i:Nat):Int)<(lb.length:Int):=by simpa using f6
     have hbl:=C2.bl (k:=i) oM
     have hrd:=C2.refdl (k:=i) oM
     refine AO (AC (AF (BA (AF (AB kR (AA (AE (lb_v) rfl (AA (AE (vI ((i:Nat):Int)) rfl (AA (CP U32_ CZ .i64 ((i:Nat):Int) i rfl rfl rfl a2 oM fun J1 q8=>(AA (DF U70_ rfl CZ rfl q8 fun q9 f7=>(AA (DE [vI 0,vI 0,vI 0,vI 0,nS] KU rfl C3 fun a8 v7 v8 v9 c7 w0 r0=>(?_))))))))))))))))
     have d3:∀ b,a6.ownBlock=some b→b≠a8:=fun b hb=>by have:=(ho0_14.lt b hb).2;omega
     have b1:∀ b,a6.ownBlock=some b→b∈(a8 :: e4):=fun b hb=>List.mem_cons_of_mem _ (b1 b hb)
     clear v8
     have a2:=a2.mv c7
     have a0:=a0.mv c7
     have a1:=a1.mv c7
     have a3:=a3.mv c7
     have ho0_14:=ho0_14.mv c7 w0 (by simp)
     have f7:Enc.share.rd v7 ((a8 :: e4)++O) q9 (lb[i]!):=Enc.mv Enc.share (x:=lb[i]!) f7 c7
     obtain ⟨m0,rfl,j3⟩:=f7
     have:=j3.len_le
     refine CB (BF (vs:=[vI ((lb[i]!).epoch),vI ((lb[i]!).index),vI ((lb[i]!).threshold),vI ((lb[i]!).many),m0]) (.agg #[vI ((lb[i]!).epoch),vI ((lb[i]!).index),vI ((lb[i]!).threshold),vI ((lb[i]!).many),m0]) rfl rfl rfl CZ (fun u hu=>by simp only [List.mem_cons,List.not_mem_nil,or_false] at hu;rcases hu with rfl|rfl|rfl|rfl|rfl <;> first|rfl|exact j3.oneCell) (by repeat (constructor)) r0 oT v9 fun w2 m2 d4 w3 b3=>(?_))
     have a2:=a2.mv d4
     have a0:=a0.mv d4
     have a1:=a1.mv d4
     have a3:=a3.mv d4
     have ho0_14:=ho0_14.mv d4 w3 (fun b hb=>BC (d3 b hb))
     refine AG (AC (AF (AB kR (AA (AE (b7) rfl (AA (AU 1 KJ rfl (AA (AW U3_ rfl (vI ((lb[i]!).index)) rfl b3 rfl (AA (AZ (vs:=[b7,vI ((lb[i]!).index)]) enter_60 (c_refShareL (O:=(a8 :: e4)++O) b7 ((AY secret ((la[0]!).epoch) ((la[0]!).threshold) ((la[0]!).many) ((AI la secret).1)).1) ((lb[i]!).index) w2 a3 m2.lt) rfl m2 fun J2 J3 w4 d5 m3 w5=>(?_))))))))))))
     obtain ⟨r1,rfl,f8⟩:=w5
     have a2:=a2.mv d5
     have a0:=a0.mv d5
     have a1:=a1.mv d5
     have a3:=a3.mv d5
     have ho0_14:=ho0_14.mv d5 m3 (by simp)
     have b3:=b3.keep m3 (by simp)
     refine AA (DE [vI 0,vI 0,vI 0,vI 0,nS] KU rfl w4 fun b0 w6 w7 w8 c8 m4 r2=>(?_))
     have f9:GV a8 b0:=by show a8≠b0;have:=b3.lt;omega
     have j4:∀ b,a6.ownBlock=some b→b≠b0:=fun b hb=>by have:=(ho0_14.lt b hb).2;omega
     have b1:∀ b,a6.ownBlock=some b→b∈(b0 :: (a8 :: e4)):=fun b hb=>List.mem_cons_of_mem _ (b1 b hb)
     clear w7
     have a2:=a2.mv c8
     have a0:=a0.mv c8
     have a1:=a1.mv c8
     have a3:=a3.mv c8
     have ho0_14:=ho0_14.mv c8 m4 (by simp)
     have f8:Enc.share.rd w6 ((b0 :: (a8 :: e4))++O) r1 (DV ((AY secret ((la[0]!).epoch) ((la[0]!).threshold) ((la[0]!).many) ((AI la secret).1)).1) ((lb[i]!).index)):=Enc.mv Enc.share (x:=DV ((AY secret ((la[0]!).epoch) ((la[0]!).threshold) ((la[0]!).many) ((AI la secret).1)).1) ((lb[i]!).index)) f8 c8
     have b3:=b3.keep m4 (by simp)
     obtain ⟨d6,rfl,a9⟩:=f8
     have:=a9.len_le
     refine CB (BF (vs:=[vI ((DV ((AY secret ((la[0]!).epoch) ((la[0]!).threshold) ((la[0]!).many) ((AI la secret).1)).1) ((lb[i]!).index)).epoch),vI ((DV ((AY secret ((la[0]!).epoch) ((la[0]!).threshold) ((la[0]!).many) ((AI la secret).1)).1) ((lb[i]!).index)).index),vI ((DV ((AY secret ((la[0]!).epoch) ((la[0]!).threshold) ((la[0]!).many) ((AI la secret).1)).1) ((lb[i]!).index)).threshold),vI ((DV ((AY secret ((la[0]!).epoch) ((la[0]!).threshold) ((la[0]!).many) ((AI la secret).1)).1) ((lb[i]!).index)).many),d6]) (.agg #[vI ((DV ((AY secret ((la[0]!).epoch) ((la[0]!).threshold) ((la[0]!).many) ((AI la secret).1)).1) ((lb[i]!).index)).epoch),vI ((DV ((AY secret ((la[0]!).epoch) ((la[0]!).threshold) ((la[0]!).many) ((AI la secret).1)).1) ((lb[i]!).index)).index),vI ((DV ((AY secret ((la[0]!).epoch) ((la[0]!).threshold) ((la[0]!).many) ((AI la secret).1)).1) ((lb[i]!).index)).threshold),vI ((DV ((AY secret ((la[0]!).epoch) ((la[0]!).threshold) ((la[0]!).many) ((AI la secret).1)).1) ((lb[i]!).index)).many),d6]) rfl rfl rfl CZ (fun u hu=>by simp only [List.mem_cons,List.not_mem_nil,or_false] at hu;rcases hu with rfl|rfl|rfl|rfl|rfl <;> first|rfl|exact a9.oneCell) (by repeat (constructor)) r2 oT w8 fun J4 w9 c9 m5 a7=>(?_))
     have a2:=a2.mv c9
     have a0:=a0.mv c9
     have a1:=a1.mv c9
     have a3:=a3.mv c9
     have ho0_14:=ho0_14.mv c9 m5 (fun b hb=>BC (j4 b hb))
     have a9:=a9.mv c9
     have b3:=b3.keep m5 (BC f9)
     refine AG (AC (AF (AB kR (AA (HT (E:=Enc.u8) (xs:=[]) U23_ GK VF (by decide) [] [] [] rfl rfl rfl (Parts.nil _ _ _) oT w9 fun b9 h9 J5 x1 c3 x2 d0 i0 d7=>(?_))))))
     have j5:∀ b,b9.ownBlock=some b→b≠a8:=fun b hb=>by have:=b3.lt;rw [c3] at hb;cases hb;omega
     have r3:∀ b,b9.ownBlock=some b→b≠b0:=fun b hb=>by have:=a7.lt;rw [c3] at hb;cases hb;omega
     have g0:∀ b,a6.ownBlock=some b→b9.ownBlock≠some b:=fun b hb=>by have:=(ho0_14.lt b hb).2;rw [c3];intro e;cases e;omega
     have ne6126':∀ b,b9.ownBlock=some b→a6.ownBlock≠some b:=fun b hb e=>g0 b e hb
     have r4:∀ b,b9.ownBlock=some b→b∈(h9 :: (b0 :: (a8 :: e4))):=fun b hb=>by rw [c3] at hb;cases hb;simp
     clear x1 c3
     have b1:∀ b,a6.ownBlock=some b→b∈(h9 :: (b0 :: (a8 :: e4))):=fun b hb=>List.mem_cons_of_mem _ (b1 b hb)
     have a2:=a2.mv d0
     have a0:=a0.mv d0
     have a1:=a1.mv d0
     have a3:=a3.mv d0
     have ho0_14:=ho0_14.mv d0 i0 (by simp)
     have a9:=a9.mv d0
     have b3:=b3.keep i0 (by simp)
     have a7:=a7.keep i0 (by simp)
     refine AA (AU 4 EP rfl (CB (CI (b9) rfl rfl d7.oneCell s_23 (by repeat (constructor)) b3 oT x2 fun J6 x3 c0 i1 r5=>(?_))))
     have a2:=a2.mv c0
     have a0:=a0.mv c0
     have a1:=a1.mv c0
     have a3:=a3.mv c0
     have ho0_14:=ho0_14.mv c0 i1 (fun b hb=>BC (d3 b hb))
     have a9:=a9.mv c0
     have d7:=d7.mv c0 i1 (fun b hb=>BC (j5 b hb))
     have a7:=a7.keep i1 (BC (Ne.symm f9))
     refine AG (AC (AF (AF (AB kR (AA (AD (vI 0) rfl (AG (AC (BA (CX (fun mI FI wI=>∃ (k:Nat) (a5:Value) (B:List Nat),k≤secret.length∧mI=secret.length - k∧(∃ F1,FI=FR F1 [(1,lb_v),(2,secret_v),(10,b6),(12,b7),(14,a6),(15,vI ((i:Nat):Int)),(16,vP (some ⟨a8,0,none⟩)),(17,vP (some ⟨b0,0,none⟩)),(18,vI ((k:Nat):Int)),(165,undef)])∧St w O wI B∧ED Enc.u8 5 w.heap.size (B++O) wI a5 ((IN (AY secret la[0]!.epoch la[0]!.threshold la[0]!.many (AI la secret).1).1 lb[i]! k))∧(∀ b,a5.ownBlock=some b→b∈B)∧BB Enc.share wI (B++O) (lb_v) (lb)∧BB Enc.u8 wI (B++O) (secret_v) (secret)∧BB Enc.u8 wI (B++O) (b6) ((AI la secret).1)∧BB Enc.share wI (B++O) (b7) ((AY secret ((la[0]!).epoch) ((la[0]!).threshold) ((la[0]!).many) ((AI la secret).1)).1)∧ED Enc.share 70 w.heap.size (B++O) wI a6 ((DU lb (AY secret la[0]!.epoch la[0]!.threshold la[0]!.many (AI la secret).1).1 secret.length i))∧(∀ b,a6.ownBlock=some b→b∈B)∧IB wI a8 70 [vI ((lb[i]!).epoch),vI ((lb[i]!).index),vI ((lb[i]!).threshold),vI ((lb[i]!).many),a5]∧a8∈B∧BB Enc.u8 wI (B++O) (d6) ((DV ((AY secret ((la[0]!).epoch) ((la[0]!).threshold) ((la[0]!).many) ((AI la secret).1)).1) ((lb[i]!).index)).data)∧IB wI b0 70 [vI ((DV ((AY secret ((la[0]!).epoch) ((la[0]!).threshold) ((la[0]!).many) ((AI la secret).1)).1) ((lb[i]!).index)).epoch),vI ((DV ((AY secret ((la[0]!).epoch) ((la[0]!).threshold) ((la[0]!).many) ((AI la secret).1)).1) ((lb[i]!).index)).index),vI ((DV ((AY secret ((la[0]!).epoch) ((la[0]!).threshold) ((la[0]!).many) ((AI la secret).1)).1) ((lb[i]!).index)).threshold),vI ((DV ((AY secret ((la[0]!).epoch) ((la[0]!).threshold) ((la[0]!).many) ((AI la secret).1)).1) ((lb[i]!).index)).many),d6]∧b0∈B∧(∀ b,a5.ownBlock=some b→b≠a8)∧(∀ b,a5.ownBlock=some b→b≠b0)∧(∀ b,a5.ownBlock=some b→a6.ownBlock≠some b)∧(∀ b,a6.ownBlock=some b→a5.ownBlock≠some b)) (secret.length - (0)) ?_ ?_))))))))))
     ·exact ⟨(0),b9,(h9 :: (b0 :: (a8 :: e4))),oM,rfl,⟨_,AP _ ⟨rfl,rfl,rfl,rfl,rfl,rfl,rfl,rfl,(by rfl),rfl,trivial⟩⟩,x3,(by rw [show (IN (AY secret la[0]!.epoch la[0]!.threshold la[0]!.many (AI la secret).1).1 lb[i]! (0))=[] from rfl];exact d7),r4,a2,a0,a1,a3,ho0_14,b1,r5,(by (repeat (first|exact List.mem_cons_self|apply List.mem_cons_of_mem))),a9,a7,(by (repeat (first|exact List.mem_cons_self|apply List.mem_cons_of_mem))),j5,r3,(fun b hb e=>g0 b e hb),g0⟩
     intro M5 F g1 hI
     clear a2 a0 a1 a3 ho0_14 b1 a9 a7
     obtain ⟨k,a5,b5,hr1_0,M6,⟨M7,rfl⟩,r6,ho1_b6076_4,g8,a2,a0,a1,a3,ho0_14,b1,a4,c4,a9,a7,c5,nb1_b6076_4_b6076,nb1_b6076_4_b6099,no1_b6076_4_vo0_14,np1_b6076_4_vo0_14⟩:=hI
     refine AF (AF (AB kR (AA (AE (vI ((k:Nat):Int)) rfl (AA (AE (secret_v) rfl (AA (CA U23_ rfl a0 (AA (DO .i64 ((k:Nat):Int) (secret.length:Int) rfl rfl (AG (AC (AJ (decide (((k:Nat):Int)<(secret.length:Int))) rfl rfl (fun g2=>?_) (fun g2=>?_))))))))))))))
     ·have D9:((k:Nat):Int)<(secret.length:Int):=by simpa using g2
      refine AO (AC (AF (BA (cw_draw' 17 _ _ [DZ (vP (some ⟨a8,4,none⟩)),DZ a5,fun (vT:Value) (wT:World)=>BB Enc.share wT (b5++O) vT (lb),DZ (vI ((i:Nat):Int)),fun (vT:Value) (wT:World)=>∃ aT,vT = .pointer (some aT)∧PT Enc.share wT (b5++O) (.pointer (some aT)) (lb[i]!),fun (vT:Value) (wT:World)=>∃ aT,vT = .pointer (some aT)∧PT (Enc.slice Enc.u8) wT (b5++O) (.pointer (some aT)) ((lb[i]!).data),fun (vT:Value) (wT:World)=>BB Enc.u8 wT (b5++O) vT ((lb[i]!).data),DZ (vI ((k:Nat):Int)),fun (vT:Value) (wT:World)=>∃ aT,vT = .pointer (some aT)∧PT Enc.u8 wT (b5++O) (.pointer (some aT)) (((lb[i]!).data)[k]!),DZ (vB (((lb[i]!).data)[k]!)),DZ (vP (some ⟨b0,4,none⟩)),fun (vT:Value) (wT:World)=>BB Enc.u8 wT (b5++O) vT ((DV ((AY secret ((la[0]!).epoch) ((la[0]!).threshold) ((la[0]!).many) ((AI la secret).1)).1) ((lb[i]!).index)).data),DZ (vI ((k:Nat):Int)),fun (vT:Value) (wT:World)=>∃ aT,vT = .pointer (some aT)∧PT Enc.u8 wT (b5++O) (.pointer (some aT)) (((DV ((AY secret ((la[0]!).epoch) ((la[0]!).threshold) ((la[0]!).many) ((AI la secret).1)).1) ((lb[i]!).index)).data)[k]!),DZ (vB (((DV ((AY secret ((la[0]!).epoch) ((la[0]!).threshold) ((la[0]!).many) ((AI la secret).1)).1) ((lb[i]!).index)).data)[k]!)),DZ (vB ((((lb[i]!).data)[k]!) ^^^ (((DV ((AY secret ((la[0]!).epoch) ((la[0]!).threshold) ((la[0]!).many) ((AI la secret).1)).1) ((lb[i]!).index)).data)[k]!))),fun (vT:Value) (wT:World)=>BB Enc.u8 wT (b5++O) vT ([(((lb[i]!).data)[k]!) ^^^ (((DV ((AY secret ((la[0]!).epoch) ((la[0]!).threshold) ((la[0]!).many) ((AI la secret).1)).1) ((lb[i]!).index)).data)[k]!)])] kR kR kR kR rfl rfl ⟨kI,kI,fun _ _ _ h k=>h.mv (Mv.of_keep k),kI,fun _ _ _ ⟨a,e,h⟩ k=>⟨a,e,h.mv (Mv.of_keep k)⟩,fun _ _ _ ⟨a,e,h⟩ k=>⟨a,e,h.mv (Mv.of_keep k)⟩,fun _ _ _ h k=>h.mv (Mv.of_keep k),kI,fun _ _ _ ⟨a,e,h⟩ k=>⟨a,e,h.mv (Mv.of_keep k)⟩,kI,kI,fun _ _ _ h k=>h.mv (Mv.of_keep k),kI,fun _ _ _ ⟨a,e,h⟩ k=>⟨a,e,h.mv (Mv.of_keep k)⟩,kI,kI,fun _ _ _ h k=>h.mv (Mv.of_keep k),trivial⟩ ⟨?_,?_,?_,?_,?_,?_,?_,?_,?_,?_,?_,?_,?_,?_,?_,?_,?_,trivial⟩ ?_))))
      ·intro F1 w1 k1 hf hd
       obtain ⟨F2,rfl⟩:=AL (F:=F1) [(16,vP (some ⟨a8,0,none⟩))] ⟨hf 16 kR,trivial⟩
       exact AH rfl ((AU 4 EP rfl (⟨(Keep.refl _ _),rfl⟩)))
      ·intro F1 w1 k1 hf hd
       have k0:=(Keep.drew [] g1).trans k1
       have a4:=a4.keep k0 (by simp)
       obtain ⟨F2,rfl⟩:=AL (F:=F1) [(126,vP (some ⟨a8,4,none⟩))] ⟨hd 0 126 kR,trivial⟩
       exact AH rfl ((AW U23_ rfl (a5) rfl a4 rfl (⟨(Keep.refl _ _),rfl⟩)))
      ·intro F1 w1 k1 hf hd
       have k0:=(Keep.drew [] g1).trans k1
       have m1:Mv b5 g1 b5 w1:=Mv.of_keep k0
       have a2:=a2.mv m1
       obtain ⟨F2,rfl⟩:=AL (F:=F1) [(1,lb_v)] ⟨hf 1 kR,trivial⟩
       exact AH rfl ((AE (lb_v) rfl (⟨(Keep.refl _ _),a2⟩)))
      ·intro F1 w1 k1 hf hd
       obtain ⟨F2,rfl⟩:=AL (F:=F1) [(15,vI ((i:Nat):Int))] ⟨hf 15 kR,trivial⟩
       exact AH rfl ((AE (vI ((i:Nat):Int)) rfl (⟨(Keep.refl _ _),rfl⟩)))
      ·intro F1 w1 k1 hf hd
       obtain ⟨x4,x5,j6⟩:∃ v,F1 128=v∧BB Enc.share w1 (b5++O) v (lb):=⟨_,rfl,hd 2 128 kR⟩
       have:=j6.len_le
       obtain ⟨F2,rfl⟩:=AL (F:=F1) [(128,x4),(129,vI ((i:Nat):Int))] ⟨x5,hd 3 129 kR,trivial⟩
       exact AH rfl ((CP U32_ CZ .i64 ((i:Nat):Int) i rfl rfl rfl j6 oM fun x6 r7=>(⟨(Keep.refl _ _),⟨x6,rfl,r7⟩⟩)))
      ·intro F1 w1 k1 hf hd
       obtain ⟨x7,x8,r8⟩:∃ aX_,F1 130 = .pointer (some aX_)∧PT Enc.share w1 (b5++O) (.pointer (some aX_)) (lb[i]!):=hd 4 130 kR
       obtain ⟨F2,rfl⟩:=AL (F:=F1) [(130,vP (some x7))] ⟨x8,trivial⟩
       exact AH rfl ((BH 4 EP ((lb[i]!).data) rfl r8 (fun _ _ _ h=>EG h) fun x9 r9=>(⟨(Keep.refl _ _),⟨x9,rfl,r9⟩⟩)))
      ·intro F1 w1 k1 hf hd
       obtain ⟨y0,y1,s2⟩:∃ aX_,F1 131 = .pointer (some aX_)∧PT (Enc.slice Enc.u8) w1 (b5++O) (.pointer (some aX_)) ((lb[i]!).data):=hd 5 131 kR
       obtain ⟨F2,rfl⟩:=AL (F:=F1) [(131,vP (some y0))] ⟨y1,trivial⟩
       refine AH rfl ((CF U23_ rfl rfl s2 fun J7 j7=>(?_)))
       have:=j7.len_le
       exact ⟨(Keep.refl _ _),j7⟩
      ·intro F1 w1 k1 hf hd
       obtain ⟨F2,rfl⟩:=AL (F:=F1) [(18,vI ((k:Nat):Int))] ⟨hf 18 kR,trivial⟩
       exact AH rfl ((AE (vI ((k:Nat):Int)) rfl (⟨(Keep.refl _ _),rfl⟩)))
      ·intro F1 w1 k1 hf hd
       obtain ⟨y2,y3,j8⟩:∃ v,F1 132=v∧BB Enc.u8 w1 (b5++O) v ((lb[i]!).data):=⟨_,rfl,hd 6 132 kR⟩
       have:=j8.len_le
       obtain ⟨F2,rfl⟩:=AL (F:=F1) [(132,y2),(133,vI ((k:Nat):Int))] ⟨y3,hd 7 133 kR,trivial⟩
       exact AH rfl ((CP U23_ GK .i64 ((k:Nat):Int) k rfl rfl rfl j8 oM fun y4 s3=>(⟨(Keep.refl _ _),⟨y4,rfl,s3⟩⟩)))
      ·intro F1 w1 k1 hf hd
       obtain ⟨y5,y6,s4⟩:∃ aX_,F1 134 = .pointer (some aX_)∧PT Enc.u8 w1 (b5++O) (.pointer (some aX_)) (((lb[i]!).data)[k]!):=hd 8 134 kR
       obtain ⟨F2,rfl⟩:=AL (F:=F1) [(134,vP (some y5))] ⟨y6,trivial⟩
       exact AH rfl ((EM U5_ rfl rfl s4 (⟨(Keep.refl _ _),rfl⟩)))
      ·intro F1 w1 k1 hf hd
       obtain ⟨F2,rfl⟩:=AL (F:=F1) [(17,vP (some ⟨b0,0,none⟩))] ⟨hf 17 kR,trivial⟩
       exact AH rfl ((AU 4 EP rfl (⟨(Keep.refl _ _),rfl⟩)))
      ·intro F1 w1 k1 hf hd
       have k0:=(Keep.drew [] g1).trans k1
       have m1:Mv b5 g1 b5 w1:=Mv.of_keep k0
       have a7:=a7.keep k0 (by simp)
       have a9:=a9.mv m1
       obtain ⟨F2,rfl⟩:=AL (F:=F1) [(136,vP (some ⟨b0,4,none⟩))] ⟨hd 10 136 kR,trivial⟩
       exact AH rfl ((AW U23_ rfl (d6) rfl a7 rfl (⟨(Keep.refl _ _),a9⟩)))
      ·intro F1 w1 k1 hf hd
       obtain ⟨F2,rfl⟩:=AL (F:=F1) [(18,vI ((k:Nat):Int))] ⟨hf 18 kR,trivial⟩
       exact AH rfl ((AE (vI ((k:Nat):Int)) rfl (⟨(Keep.refl _ _),rfl⟩)))
      ·intro F1 w1 k1 hf hd
       obtain ⟨y7,y8,j9⟩:∃ v,F1 137=v∧BB Enc.u8 w1 (b5++O) v ((DV ((AY secret ((la[0]!).epoch) ((la[0]!).threshold) ((la[0]!).many) ((AI la secret).1)).1) ((lb[i]!).index)).data):=⟨_,rfl,hd 11 137 kR⟩
       have:=j9.len_le
       obtain ⟨F2,rfl⟩:=AL (F:=F1) [(137,y7),(138,vI ((k:Nat):Int))] ⟨y8,hd 12 138 kR,trivial⟩
       exact AH rfl ((CP U23_ GK .i64 ((k:Nat):Int) k rfl rfl rfl j9 oM fun y9 s5=>(⟨(Keep.refl _ _),⟨y9,rfl,s5⟩⟩)))
      ·intro F1 w1 k1 hf hd
       obtain ⟨z0,z1,s6⟩:∃ aX_,F1 139 = .pointer (some aX_)∧PT Enc.u8 w1 (b5++O) (.pointer (some aX_)) (((DV ((AY secret ((la[0]!).epoch) ((la[0]!).threshold) ((la[0]!).many) ((AI la secret).1)).1) ((lb[i]!).index)).data)[k]!):=hd 13 139 kR
       obtain ⟨F2,rfl⟩:=AL (F:=F1) [(139,vP (some z0))] ⟨z1,trivial⟩
       exact AH rfl ((EM U5_ rfl rfl s6 (⟨(Keep.refl _ _),rfl⟩)))
      ·intro F1 w1 k1 hf hd
       obtain ⟨F2,rfl⟩:=AL (F:=F1) [(135,vB (((lb[i]!).data)[k]!)),(140,vB (((DV ((AY secret ((la[0]!).epoch) ((la[0]!).threshold) ((la[0]!).many) ((AI la secret).1)).1) ((lb[i]!).index)).data)[k]!))] ⟨hd 9 135 kR,hd 14 140 kR,trivial⟩
       exact AH rfl ((JT (((lb[i]!).data)[k]!) (((DV ((AY secret ((la[0]!).epoch) ((la[0]!).threshold) ((la[0]!).many) ((AI la secret).1)).1) ((lb[i]!).index)).data)[k]!) rfl rfl (⟨(Keep.refl _ _),rfl⟩)))
      ·intro F1 w1 k1 hf hd
       have k0:=(Keep.drew [] g1).trans k1
       have s1:=r6.call k0
       obtain ⟨F2,rfl⟩:=AL (F:=F1) [(141,vB ((((lb[i]!).data)[k]!) ^^^ (((DV ((AY secret ((la[0]!).epoch) ((la[0]!).threshold) ((la[0]!).many) ((AI la secret).1)).1) ((lb[i]!).index)).data)[k]!)))] ⟨hd 15 141 kR,trivial⟩
       refine AH rfl ((GZ (E:=Enc.u8) (xs:=[.tmp 141]) U23_ GK VF (by decide) [vB ((((lb[i]!).data)[k]!) ^^^ (((DV ((AY secret ((la[0]!).epoch) ((la[0]!).threshold) ((la[0]!).many) ((AI la secret).1)).1) ((lb[i]!).index)).data)[k]!))] [[vB ((((lb[i]!).data)[k]!) ^^^ (((DV ((AY secret ((la[0]!).epoch) ((la[0]!).threshold) ((la[0]!).many) ((AI la secret).1)).1) ((lb[i]!).index)).data)[k]!))]] [(((lb[i]!).data)[k]!) ^^^ (((DV ((AY secret ((la[0]!).epoch) ((la[0]!).threshold) ((la[0]!).many) ((AI la secret).1)).1) ((lb[i]!).index)).data)[k]!)] rfl rfl rfl (Parts.cons rfl rfl (Parts.nil _ _ _)) oT s1 fun J8 J9 K0 K1 z2 k2=>(?_)))
       have:=k2.len_le
       exact ⟨z2,k2⟩
      intro m6 m7 d1 g3 b4
      have z3:=r6.call d1
      have c1:Mv b5 g1 b5 m7:=Mv.of_keep d1
      have a2:=a2.mv c1
      have a0:=a0.mv c1
      have a1:=a1.mv c1
      have a3:=a3.mv c1
      have ho0_14:=ho0_14.mv c1 d1 (by simp)
      have ho1_b6076_4:=ho1_b6076_4.mv c1 d1 (by simp)
      have a4:=a4.keep d1 (by simp)
      have a9:=a9.mv c1
      have a7:=a7.keep d1 (by simp)
      obtain ⟨z4,z5,k3⟩:∃ v,m6 142=v∧BB Enc.u8 m7 (b5++O) v ([(((lb[i]!).data)[k]!) ^^^ (((DV ((AY secret ((la[0]!).epoch) ((la[0]!).threshold) ((la[0]!).many) ((AI la secret).1)).1) ((lb[i]!).index)).data)[k]!)]):=⟨_,rfl,g3 16 142 kR (by decide)⟩
      have:=k3.len_le
      obtain ⟨F2,rfl⟩:=AL (F:=m6) [(1,lb_v),(2,secret_v),(10,b6),(12,b7),(14,a6),(15,vI ((i:Nat):Int)),(16,vP (some ⟨a8,0,none⟩)),(17,vP (some ⟨b0,0,none⟩)),(18,vI ((k:Nat):Int)),(165,undef),(127,a5),(142,z4)] ⟨b4 1 kR,b4 2 kR,b4 10 kR,b4 12 kR,b4 14 kR,b4 15 kR,b4 16 kR,b4 17 kR,b4 18 kR,b4 165 kR,g3 1 127 kR (by decide),z5,trivial⟩
      clear g3 b4
      refine AA (CY (E:=Enc.u8) (l:=(IN (AY secret la[0]!.epoch la[0]!.threshold la[0]!.many (AI la secret).1).1 lb[i]! k)) (m:=[(((lb[i]!).data)[k]!) ^^^ (((DV ((AY secret ((la[0]!).epoch) ((la[0]!).threshold) ((la[0]!).many) ((AI la secret).1)).1) ((lb[i]!).index)).data)[k]!)]) U23_ RI rfl (by decide) rfl rfl ho1_b6076_4 k3 (fun _ hb=>.inl hb) g8 (by rw [TV];simp;omega) (by rw [TV];simp [maxLen];omega) z3 fun d8 K2 e7 s7 g4 e3 z6 d2 i2 d9=>(?_))
      have k4:∀ b,a6.ownBlock=some b→d8.ownBlock≠some b:=fun b hb e=>by rcases g4 with e1|e1 <;> rw [e1] at e <;> first|(cases e;have:=(ho0_14.lt _ hb).2;omega)|(exact absurd e (np1_b6076_4_vo0_14 b hb))
      have k5:∀ b,d8.ownBlock=some b→b≠a8:=fun b hb=>by rcases g4 with e1|e1 <;> rw [e1] at hb <;> first|(cases hb;have:=a4.lt;omega)|(exact nb1_b6076_4_b6076 b hb)
      have s8:∀ b,d8.ownBlock=some b→b≠b0:=fun b hb=>by rcases g4 with e1|e1 <;> rw [e1] at hb <;> first|(cases hb;have:=a7.lt;omega)|(exact nb1_b6076_4_b6099 b hb)
      have b1:∀ b,a6.ownBlock=some b→b∈e7:=fun b hb=>e3 b (b1 b hb)
      have c4:a8∈e7:=e3 a8 (by repeat (assumption))
      have c5:b0∈e7:=e3 b0 (by repeat (assumption))
      have a2:=a2.mv d2
      have a0:=a0.mv d2
      have a1:=a1.mv d2
      have a3:=a3.mv d2
      have ho0_14:=ho0_14.mv d2 i2 (fun b hb=>by simp only [Option.mem_toList];exact np1_b6076_4_vo0_14 b hb)
      have a4:=a4.keep i2 (by simp only [Option.mem_toList];exact fun e=>absurd rfl (nb1_b6076_4_b6076 _ e))
      have a9:=a9.mv d2
      have a7:=a7.keep i2 (by simp only [Option.mem_toList];exact fun e=>absurd rfl (nb1_b6076_4_b6099 _ e))
      refine AA (AU 4 EP rfl (CB (CI (d8) rfl rfl d9.oneCell s_23 (by repeat (assumption)) a4 oT z6 fun K3 z7 c2 i3 s9=>(?_))))
      have a2:=a2.mv c2
      have a0:=a0.mv c2
      have a1:=a1.mv c2
      have a3:=a3.mv c2
      have ho0_14:=ho0_14.mv c2 i3 (fun b hb=>BC (d3 b hb))
      have d9:=d9.mv c2 i3 (fun b hb=>BC (k5 b hb))
      have a9:=a9.mv c2
      have a7:=a7.keep i3 (BC (Ne.symm f9))
      refine AG (BZ (AC (AB kR (AA (AE (vI ((k:Nat):Int)) rfl (AA (DC .i64 ((k:Nat):Int) (1:Int) (((k+1:Nat):Int)) rfl rfl (FQ oM oM) (AA (AD (vI ((k+1:Nat):Int)) rfl (AG (AC (?_))))))))))))
      exact ⟨_,oM,(k+1),d8,e7,oM,rfl,⟨_,AP _ ⟨rfl,rfl,rfl,rfl,rfl,rfl,rfl,rfl,(by rfl),rfl,trivial⟩⟩,z7,(by rw [show (IN (AY secret la[0]!.epoch la[0]!.threshold la[0]!.many (AI la secret).1).1 lb[i]! (k+1))=(IN (AY secret la[0]!.epoch la[0]!.threshold la[0]!.many (AI la secret).1).1 lb[i]! k)++([(((lb[i]!).data)[k]!) ^^^ (((DV ((AY secret ((la[0]!).epoch) ((la[0]!).threshold) ((la[0]!).many) ((AI la secret).1)).1) ((lb[i]!).index)).data)[k]!)]) from refMixN_succ _ _ _];exact d9),s7,a2,a0,a1,a3,ho0_14,b1,s9,aS,a9,a7,aS,k5,s8,(fun b hb e=>k4 b e hb),k4⟩
     have E0:(secret.length:Int)≤((k:Nat):Int):=by simpa using g2
     obtain rfl:k=secret.length:=by omega
     refine CV (BL (BL (CL (AC (AB kR (AA (AE (a6) rfl (AA (BW (vs:=[vI ((lb[i]!).epoch),vI ((lb[i]!).index),vI ((lb[i]!).threshold),vI ((lb[i]!).many),a5]) U70_ rfl CZ rfl a4 rfl (?_))))))))))
     obtain ⟨i4,z8,e0,k6,g5⟩:=ho1_b6076_4.publish r6
     have b1:∀ b,a6.ownBlock=some b→b∈i4:=fun b hb=>g5 b (b1 b hb) (np1_b6076_4_vo0_14 b hb)
     have c4:a8∈i4:=g5 a8 (by repeat (assumption)) (fun e=>absurd rfl (nb1_b6076_4_b6076 _ e))
     have c5:b0∈i4:=g5 b0 (by repeat (assumption)) (fun e=>absurd rfl (nb1_b6076_4_b6099 _ e))
     have C4:=k6.len_le
     have a2:=a2.mv e0
     have a0:=a0.mv e0
     have a1:=a1.mv e0
     have a3:=a3.mv e0
     have ho0_14:=ho0_14.mv e0 (Keep.refl [] _) (by simp)
     have a4:=a4.keep (Keep.refl [] _) (by simp)
     have a7:=a7.keep (Keep.refl [] _) (by simp)
     refine AA (GZ (E:=Enc.share) (xs:=[.tmp 146]) U32_ CZ KU (by decide) [.agg #[vI ((lb[i]!).epoch),vI ((lb[i]!).index),vI ((lb[i]!).threshold),vI ((lb[i]!).many),a5]] [[vI ((lb[i]!).epoch),vI ((lb[i]!).index),vI ((lb[i]!).threshold),vI ((lb[i]!).many),a5]] [(⟨(lb[i]!).epoch,(lb[i]!).index,(lb[i]!).threshold,(lb[i]!).many,(IN (AY secret la[0]!.epoch la[0]!.threshold la[0]!.many (AI la secret).1).1 lb[i]! secret.length)⟩:Share)] rfl rfl rfl (Parts.cons rfl ⟨_,rfl,k6⟩ (Parts.nil _ _ _)) oT z8 fun K4 K5 z9 e2 i5 k7=>(?_))
     have a2:=a2.mv e2
     have a0:=a0.mv e2
     have a1:=a1.mv e2
     have a3:=a3.mv e2
     have ho0_14:=ho0_14.mv e2 i5 (by simp)
     have a4:=a4.keep i5 (by simp)
     have a7:=a7.keep i5 (by simp)
     have:=k7.len_le
     refine AA (CY (E:=Enc.share) (l:=(DU lb (AY secret la[0]!.epoch la[0]!.threshold la[0]!.many (AI la secret).1).1 secret.length i)) (m:=[(⟨(lb[i]!).epoch,(lb[i]!).index,(lb[i]!).threshold,(lb[i]!).many,(IN (AY secret la[0]!.epoch la[0]!.threshold la[0]!.many (AI la secret).1).1 lb[i]! secret.length)⟩:Share)]) U32_ i_70 rfl (by decide) rfl rfl ho0_14 k7 (fun _ hb=>.inl hb) b1 (by have:=TT lb (AY secret la[0]!.epoch la[0]!.threshold la[0]!.many (AI la secret).1).1 secret.length i;simp only [List.length_cons,List.length_nil];omega) (by have:=TT lb (AY secret la[0]!.epoch la[0]!.threshold la[0]!.many (AI la secret).1).1 secret.length i;simp only [List.length_cons,List.length_nil,maxLen];omega) z9 fun e8 K6 i6 t0 k8 g9 A0 e9 K7 t2=>(?_))
     have E1:∀ b,e8.ownBlock=some b→b≠a8:=fun b hb=>by rcases k8 with e1|e1 <;> rw [e1] at hb <;> first|(cases hb;have:=a4.lt;omega)|(exact d3 b hb)
     have E2:∀ b,e8.ownBlock=some b→b≠b0:=fun b hb=>by rcases k8 with e1|e1 <;> rw [e1] at hb <;> first|(cases hb;have:=a7.lt;omega)|(exact j4 b hb)
     have c4:a8∈i6:=g9 a8 (by repeat (assumption))
     have c5:b0∈i6:=g9 b0 (by repeat (assumption))
     have a2:=a2.mv e9
     have a0:=a0.mv e9
     have a1:=a1.mv e9
     have a3:=a3.mv e9
     refine AA (AD (e8) rfl (AG (BZ (AC (AB kR (AA (AE (vI ((i:Nat):Int)) rfl (AA (DC .i64 ((i:Nat):Int) (1:Int) (((i+1:Nat):Int)) rfl rfl (FQ oM oM) (AA (AD (vI ((i+1:Nat):Int)) rfl (AG (AC (?_))))))))))))))
     exact ⟨_,oM,(i+1),e8,i6,oM,rfl,⟨_,AP _ ⟨rfl,rfl,rfl,rfl,rfl,(by rfl),rfl,trivial⟩⟩,A0,(by rw [show (DU lb (AY secret la[0]!.epoch la[0]!.threshold la[0]!.many (AI la secret).1).1 secret.length (i+1))=(DU lb (AY secret la[0]!.epoch la[0]!.threshold la[0]!.many (AI la secret).1).1 secret.length i)++([(⟨(lb[i]!).epoch,(lb[i]!).index,(lb[i]!).threshold,(lb[i]!).many,(IN (AY secret la[0]!.epoch la[0]!.threshold la[0]!.many (AI la secret).1).1 lb[i]! secret.length)⟩:Share)]) from refMixD_succ oM];exact t2),t0,a2,a0,a1,a3⟩
    have E3:(lb.length:Int)≤((i:Nat):Int):=by simpa using f6
    obtain rfl:i=lb.length:=by omega
    refine CV (BL (BL (CL (AC (AF (AB kR (AA (AE (a6) rfl (AA (AE (secret_v) rfl (AA (CA U23_ rfl a0 (AA (o_makeR (E:=Enc.u8) U23_ RI [vB (0:UInt8)] rfl rfl (by decide) (0:UInt8) (fun _ _=>rfl) .i64 .i64 (secret.length:Int) (secret.length:Int) secret.length secret.length rfl rfl rfl rfl oM oM (by simp only [maxLen];omega) C3 fun m9 A1 A2 n2 A3 g6=>(?_)))))))))))))))
    have a1:=a1.mv n2
    have ho0_14:=ho0_14.mv n2 A3 (by simp)
    obtain ⟨n3,n4,n5,k9,E4⟩:=ho0_14.publish A2
    have C5:=k9.len_le
    have a1:=a1.mv n5
    have g6:=g6.mv n5
    refine AA (AZ (vs:=[a6,m9]) enter_58 (RU (O:=n3++O) a6 (DU lb (AY secret la[0]!.epoch la[0]!.threshold la[0]!.many (AI la secret).1).1 secret.length lb.length) m9 (List.replicate secret.length (0:UInt8)) A1 k9 g6 n4.lt) rfl n4 fun K8 K9 n6 A4 L0 A5=>(?_))
    obtain ⟨f0,rfl,b8⟩:=A5
    have:=b8.len_le
    have a1:=a1.mv A4
    refine AA (AE (vT #[f0,vI ((AI (DU lb (AY secret la[0]!.epoch la[0]!.threshold la[0]!.many (AI la secret).1).1 secret.length lb.length) (List.replicate secret.length (0:UInt8))).2)]) rfl (AA (AN (f0) rfl rfl (AA (AN (vI ((AI (DU lb (AY secret la[0]!.epoch la[0]!.threshold la[0]!.many (AI la secret).1).1 secret.length lb.length) (List.replicate secret.length (0:UInt8))).2)) rfl rfl (AA (AD (f0) rfl (AA (AD (vI ((AI (DU lb (AY secret la[0]!.epoch la[0]!.threshold la[0]!.many (AI la secret).1).1 secret.length lb.length) (List.replicate secret.length (0:UInt8))).2)) rfl (AG (AC (AF (AF (AB kR (AA (AE (vI ((AI (DU lb (AY secret la[0]!.epoch la[0]!.threshold la[0]!.many (AI la secret).1).1 secret.length lb.length) (List.replicate secret.length (0:UInt8))).2)) rfl (AA (CT .i64 ((AI (DU lb (AY secret la[0]!.epoch la[0]!.threshold la[0]!.many (AI la secret).1).1 secret.length lb.length) (List.replicate secret.length (0:UInt8))).2) (0:Int) rfl rfl (AG (AC (AJ (((AI (DU lb (AY secret la[0]!.epoch la[0]!.threshold la[0]!.many (AI la secret).1).1 secret.length lb.length) (List.replicate secret.length (0:UInt8))).2) != (0:Int)) rfl rfl (fun g7=>?_) (fun g7=>?_))))))))))))))))))))))
    ·have E5:(AI (DU lb (AY secret la[0]!.epoch la[0]!.threshold la[0]!.many (AI la secret).1).1 secret.length lb.length) (List.replicate secret.length (0:UInt8))).2≠(0:Int):=by simpa using g7
     refine AF (AB kR (AA (AE (vI ((AI (DU lb (AY secret la[0]!.epoch la[0]!.threshold la[0]!.many (AI la secret).1).1 secret.length lb.length) (List.replicate secret.length (0:UInt8))).2)) rfl (AA (AD (nS) rfl (AA (AD (vI ((AI (DU lb (AY secret la[0]!.epoch la[0]!.threshold la[0]!.many (AI la secret).1).1 secret.length lb.length) (List.replicate secret.length (0:UInt8))).2)) rfl (AG (AC (AM (AK (AS rfl (EA rfl rfl rfl rfl) (?_)))))))))))))
     have A6:((BN la lb secret).1)=([]):=by exact congrArg (fun p=>p.1) (show BN la lb secret=_ from VH hca hcb f4 hex aS)
     have A7:((BN la lb secret).2)=((AI (DU lb (AY secret la[0]!.epoch la[0]!.threshold la[0]!.many (AI la secret).1).1 secret.length lb.length) (List.replicate secret.length (0:UInt8))).2):=by exact congrArg (fun p=>p.2) (show BN la lb secret=_ from VH hca hcb f4 hex aS)
     exact ⟨_,rfl,n6.keep,by rw [A6,A7];exact ⟨.slice none 0 0,rfl,BB.nil _ _ _⟩⟩
    have E6:(AI (DU lb (AY secret la[0]!.epoch la[0]!.threshold la[0]!.many (AI la secret).1).1 secret.length lb.length) (List.replicate secret.length (0:UInt8))).2=(0:Int):=by simpa using g7
    refine AO (AC (AF (AB kR (AA (HT (E:=Enc.u8) (xs:=[]) U23_ GK VF (by decide) [] [] [] rfl rfl rfl (Parts.nil _ _ _) oT n6 fun A8 A9 L1 B0 l0 B1 n7 L2 t3=>(?_))))))
    have t4:∀ b,A8.ownBlock=some b→b∈(A9 :: n3):=fun b hb=>by rw [l0] at hb;cases hb;simp
    clear B0 l0
    have a1:=a1.mv n7
    have b8:=b8.mv n7
    refine AA (AE (b6) rfl (AA (CY (E:=Enc.u8) (l:=[]) (m:=(AI la secret).1) U23_ RI rfl (by decide) rfl rfl t3 a1 (fun _ hb=>.inl hb) t4 (by have h1:=FE hex;have h2:=FE (l:=DU lb (AY secret la[0]!.epoch la[0]!.threshold la[0]!.many (AI la secret).1).1 secret.length lb.length) aS;simp;omega) (by have h1:=FE hex;have h2:=FE (l:=DU lb (AY secret la[0]!.epoch la[0]!.threshold la[0]!.many (AI la secret).1).1 secret.length lb.length) aS;simp [maxLen];omega) B1 fun L3 L4 L5 t5 E7 C6 B2 B3 L6 l1=>(?_))))
    rw [List.nil_append] at l1
    have b8:=b8.mv B3
    refine AA (AE (f0) rfl (AA (CY (E:=Enc.u8) (l:=(AI la secret).1) (m:=(AI (DU lb (AY secret la[0]!.epoch la[0]!.threshold la[0]!.many (AI la secret).1).1 secret.length lb.length) (List.replicate secret.length (0:UInt8))).1) U23_ RI rfl (by decide) rfl rfl l1 b8 (fun _ hb=>.inl hb) t5 (by have h1:=FE hex;have h2:=FE (l:=DU lb (AY secret la[0]!.epoch la[0]!.threshold la[0]!.many (AI la secret).1).1 secret.length lb.length) aS;omega) (by have h1:=FE hex;have h2:=FE (l:=DU lb (AY secret la[0]!.epoch la[0]!.threshold la[0]!.many (AI la secret).1).1 secret.length lb.length) aS;simp only [maxLen];omega) B2 fun n9 L7 L8 E8 E9 C7 o0 L9 M0 t6=>(AA (AD (n9) rfl (AA (AD (vI 0) rfl (AG (AC (AM (AS rfl (EA rfl rfl rfl rfl) (?_))))))))))))
    have B4:((BN la lb secret).1)=(((AI la secret).1)++((AI (DU lb (AY secret la[0]!.epoch la[0]!.threshold la[0]!.many (AI la secret).1).1 secret.length lb.length) (List.replicate secret.length (0:UInt8))).1)):=by exact congrArg (fun p=>p.1) (show BN la lb secret=_ from VG hca hcb f4 hex aS)
    have B5:((BN la lb secret).2)=(0:Int):=by exact congrArg (fun p=>p.2) (show BN la lb secret=_ from VG hca hcb f4 hex aS)
    exact ⟨_,rfl,o0.keep,by rw [B4,B5];exact ⟨n9,rfl,t6.pub o0⟩⟩
   have F3:(((la[0]!).data).length:Int)≠(((lb[0]!).data).length:Int):=by simpa using j1
   refine CD rfl (CD rfl (CD rfl (CD rfl (CD rfl (CD rfl (CD rfl (CD rfl (CD rfl (CD rfl (BM (AX (vO true) rfl rfl (EQ (AG (AC (AJ true rfl rfl (fun _=>AF (AB kR (AA (AD (nS) rfl (AA (AD (vI 460) rfl (AG (AC (AM (AK (AS rfl (EA rfl rfl rfl rfl) (?_)))))))))))) (fun h=>by cases h))))))))))))))))
   have B6:((BN la lb secret).1)=([]):=by exact congrArg (fun p=>p.1) (show BN la lb secret=_ from ID aS aS (EK oM))
   have B7:((BN la lb secret).2)=(460:Int):=by exact congrArg (fun p=>p.2) (show BN la lb secret=_ from ID aS aS (EK oM))
   exact ⟨_,rfl,c6.keep,by rw [B6,B7];exact ⟨.slice none 0 0,rfl,BB.nil _ _ _⟩⟩
  have F4:(la[0]!).many≠(lb[0]!).many:=by simpa using i8
  refine CD rfl (CD rfl (CD rfl (CD rfl (CD rfl (CD rfl (CD rfl (CD rfl (CD rfl (CD rfl (CD rfl (BM (AX (vO true) rfl rfl (BM (AE (vO true) rfl (CD rfl (CD rfl (CD rfl (CD rfl (CD rfl (CD rfl (CD rfl (CD rfl (CD rfl (CD rfl (BM (AX (vO true) rfl rfl (EQ (AG (AC (AJ true rfl rfl (fun _=>AF (AB kR (AA (AD (nS) rfl (AA (AD (vI 460) rfl (AG (AC (AM (AK (AS rfl (EA rfl rfl rfl rfl) (?_)))))))))))) (fun h=>by cases h)))))))))))))))))))))))))))))))
  have B8:((BN la lb secret).1)=([]):=by exact congrArg (fun p=>p.1) (show BN la lb secret=_ from ID aS aS (EK oM))
  have B9:((BN la lb secret).2)=(460:Int):=by exact congrArg (fun p=>p.2) (show BN la lb secret=_ from ID aS aS (EK oM))
  exact ⟨_,rfl,c6.keep,by rw [B8,B9];exact ⟨.slice none 0 0,rfl,BB.nil _ _ _⟩⟩
 have F5:(la[0]!).threshold≠(lb[0]!).threshold:=by simpa using i7
 refine CD rfl (CD rfl (CD rfl (CD rfl (CD rfl (CD rfl (CD rfl (CD rfl (CD rfl (BM (AX (vO true) rfl rfl (BM (AE (vO true) rfl (CD rfl (CD rfl (CD rfl (CD rfl (CD rfl (CD rfl (CD rfl (CD rfl (CD rfl (CD rfl (CD rfl (BM (AX (vO true) rfl rfl (BM (AE (vO true) rfl (CD rfl (CD rfl (CD rfl (CD rfl (CD rfl (CD rfl (CD rfl (CD rfl (CD rfl (CD rfl (BM (AX (vO true) rfl rfl (EQ (AG (AC (AJ true rfl rfl (fun _=>AF (AB kR (AA (AD (nS) rfl (AA (AD (vI 460) rfl (AG (AC (AM (AK (AS rfl (EA rfl rfl rfl rfl) (?_)))))))))))) (fun h=>by cases h))))))))))))))))))))))))))))))))))))))))))))
 have C0:((BN la lb secret).1)=([]):=by exact congrArg (fun p=>p.1) (show BN la lb secret=_ from ID aS aS (EK oM))
 have C1:((BN la lb secret).2)=(460:Int):=by exact congrArg (fun p=>p.2) (show BN la lb secret=_ from ID aS aS (EK oM))
 exact ⟨_,rfl,c6.keep,by rw [C0,C1];exact ⟨.slice none 0 0,rfl,BB.nil _ _ _⟩⟩
open Go.Fw Go.RowKit
set_option maxHeartbeats 4000000 in
set_option maxRecDepth 100000 in
theorem QR {O:List Nat} (la_v:Value) (la:List Share) (lb_v:Value) (lb:List Share) (secret_v:Value) (secret:List UInt8) (w:World) (a1:BB Enc.share w O la_v la) (a2:BB Enc.share w O lb_v lb) (a0:BB Enc.u8 w O secret_v secret) (hO:∀ b∈O,b<w.heap.size):CE Try.prog 4 [la_v,lb_v,secret_v] w (fun v _=>v = .bool (true)):= by
 have d1:=a1.len_le
 have a1:BB Enc.share w ([]++O) la_v la:=a1
 have d2:=a2.len_le
 have a2:BB Enc.share w ([]++O) lb_v lb:=a2
 have b9:=a0.len_le
 have a0:BB Enc.u8 w ([]++O) secret_v secret:=a0
 have s0:St w O w []:=St.start hO
 refine BI 50 Try.func4 rfl rfl oT (fun F0=>AF (AB kR (AA (AD (vO false) rfl (AG (AC (AF (AF (AB kR (AA (AZ (vs:=[]) enter_20 (c_sane46 (O:=[]++O) w s0.lt) rfl s0 fun d9 c0 b6 a8 e0 c1=>(?_))))))))))))
 obtain rfl:=c1
 have a1:=a1.mv a8
 have a2:=a2.mv a8
 have a0:=a0.mv a8
 refine AA (HP true rfl (AG (AC (AJ false rfl rfl (fun h=>by cases h) (fun _=>AO (AC (AF (AF (AB kR (AA (AE (la_v) rfl (AA (AZ (vs:=[la_v]) enter_21 (c_few8 (O:=[]++O) la_v la c0 a1 b6.lt) rfl b6 fun e1 c2 a9 b0 e2 c3=>(?_))))))))))))))
 obtain rfl:=c3
 have a1:=a1.mv b0
 have a2:=a2.mv b0
 have a0:=a0.mv b0
 refine AA (HP (QU la) rfl (AA (AE (vO (!(QU la))) rfl (?_))))
 cases b3:(!(QU la))
 ·have d3:(QU la)=true:=by simpa using b3
  refine BJ rfl (AE (lb_v) rfl (BJ rfl (AZ (vs:=[lb_v]) enter_21 (c_few8 (O:=[]++O) lb_v lb c2 a2 a9.lt) rfl a9 fun e3 c4 a4 b1 e4 c5=>(?_))))
  obtain rfl:=c5
  have a1:=a1.mv b1
  have a2:=a2.mv b1
  have a0:=a0.mv b1
  refine BJ rfl (HP (QU lb) rfl (AA (BX (vO (!(QU lb))) rfl rfl (AA (AE (vO (!(QU lb))) rfl (?_))))))
  cases b4:(!(QU lb))
  ·have d4:(QU lb)=true:=by simpa using b4
   refine BJ rfl (AE (secret_v) rfl (BJ rfl (CA U23_ rfl a0 (BJ rfl (GQ .i64 (secret.length:Int) (100:Int) rfl rfl (AA (BX (vO (decide ((100:Int)<(secret.length:Int)))) rfl rfl (AG (AC (AJ (decide ((100:Int)<(secret.length:Int))) rfl rfl (fun a7=>?_) (fun a7=>?_)))))))))))
   ·have d5:(100:Int)<(secret.length:Int):=by simpa using a7
    refine AF (AB kR (AA (AD (vO true) rfl (AG (AC (AM (AK (AS rfl (CN rfl rfl rfl) (?_)))))))))
    exact ⟨_,rfl,a4.keep,rfl⟩
   have d6:(secret.length:Int)≤(100:Int):=by simpa using a7
   refine AO (AC (AF (AB kR (AA (AE (la_v) rfl (AA (AE (lb_v) rfl (AA (AE (secret_v) rfl (AA (AZ (vs:=[la_v,lb_v,secret_v]) WF (c_mixed (O:=[]++O) la_v la lb_v lb secret_v secret c4 a1 a2 a0 a4.lt) rfl a4 fun e5 c6 b7 b2 e6 c7=>(?_))))))))))))
   obtain ⟨a5,rfl,a3⟩:=c7
   have:=a3.len_le
   have a1:=a1.mv b2
   have a2:=a2.mv b2
   have a0:=a0.mv b2
   refine AA (AE (vT #[a5,vI ((BU la lb secret).2)]) rfl (AA (AN (a5) rfl rfl (AA (AN (vI ((BU la lb secret).2)) rfl rfl (AA (AD (a5) rfl (AA (AD (vI ((BU la lb secret).2)) rfl (AG (AC (AF (AB kR (AA (AE (la_v) rfl (AA (AE (lb_v) rfl (AA (AE (secret_v) rfl (AA (AZ (vs:=[la_v,lb_v,secret_v]) enter_22 (c_refMixed (O:=[]++O) la_v la lb_v lb secret_v secret c6 a1 a2 a0 b7.lt) rfl b7 fun e7 e8 c8 c9 e9 d0=>(?_))))))))))))))))))))))
   obtain ⟨a6,rfl,b5⟩:=d0
   have:=b5.len_le
   have a3:=a3.mv c9
   refine AA (AE (vT #[a6,vI ((BN la lb secret).2)]) rfl (AA (AN (a6) rfl rfl (AA (AN (vI ((BN la lb secret).2)) rfl rfl (AA (AD (a6) rfl (AA (AD (vI ((BN la lb secret).2)) rfl (AG (AC (AF (AB kR (AA (AE (a5) rfl (AA (UJ U23_ U5_ U9_ rfl a3 (AA (AE (a6) rfl (AA (UJ U23_ U5_ U9_ rfl b5 (AA (o_eqlS ((BU la lb secret).1) ((BN la lb secret).1) rfl rfl (AA (AE (vO (((BU la lb secret).1) == ((BN la lb secret).1))) rfl (?_))))))))))))))))))))))))))
   have b8:(((BU la lb secret).1) == ((BN la lb secret).1))=true:=(by rw [TR];simp)
   rw [b8]
   refine BJ rfl (AE (vI ((BU la lb secret).2)) rfl (BJ rfl (AE (vI ((BN la lb secret).2)) rfl (BJ rfl (GO .i64 ((BU la lb secret).2) ((BN la lb secret).2) rfl rfl (AA (AX (vO (((BU la lb secret).2) == ((BN la lb secret).2))) rfl rfl (AA (AD (vO (((BU la lb secret).2) == ((BN la lb secret).2))) rfl (AG (AC (AM (AS rfl (CN rfl rfl rfl) (?_))))))))))))))
   have e:true=(((BU la lb secret).2) == ((BN la lb secret).2)):=by (rw [TR];simp)
   exact ⟨_,rfl,c8.keep,(by exact congrArg vO e.symm)⟩
  have d7:(QU lb)=false:=by simpa using b4
  refine AT rfl (AT rfl (AT rfl (AA (AX (vO true) rfl rfl (AG (AC (AJ true rfl rfl (fun _=>AF (AB kR (AA (AD (vO true) rfl (AG (AC (AM (AK (AS rfl (CN rfl rfl rfl) (?_)))))))))) (fun h=>by cases h))))))))
  exact ⟨_,rfl,a4.keep,rfl⟩
 have d8:(QU la)=false:=by simpa using b3
 refine AT rfl (AT rfl (AT rfl (AA (AX (vO true) rfl rfl (AA (AE (vO true) rfl (AT rfl (AT rfl (AT rfl (AA (AX (vO true) rfl rfl (AG (AC (AJ true rfl rfl (fun _=>AF (AB kR (AA (AD (vO true) rfl (AG (AC (AM (AK (AS rfl (CN rfl rfl rfl) (?_)))))))))) (fun h=>by cases h)))))))))))))))
 exact ⟨_,rfl,a9.keep,rfl⟩
end Go.Proofs.Ytjgfokolnkhafaa
