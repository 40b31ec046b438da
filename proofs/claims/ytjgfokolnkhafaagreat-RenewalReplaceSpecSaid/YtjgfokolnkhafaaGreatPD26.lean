/- What the laws of this part rest on: lemmas, and the walks of the functions. No conditions. -/
import Derived.WalkKit
import Derived.WalkSpells
import Derived.WalkLawsBesides
import Derived.RangeFuncLeaves
import Derived.Maps.AppendAt
import Derived.Deep.AppendLies
import Derived.Deep.Slices
import Derived.OpenShut
import Derived.ProofKit
import Derived.Below
import Derived.ChangeSame
import Derived.Carry
import Derived.RangeFuncRecord
import Derived.Laws.Tables
import Derived.Recover
import Derived.DefersIn
import Derived.Lib.AppendZerosOnto
import Derived.Lib.Overlaps
import Derived.Laws.CopyRow
import Derived.Laws.StructEq
import Derived.ChangeKeysEq
import Derived.OrdersIn
import Derived.Test.YtjgfokolnkhafaaGreatRows
import Derived.Test.YtjgfokolnkhafaaGreatPD25
set_option linter.unusedSimpArgs false
set_option linter.unusedVariables false
namespace Go.Proofs.YtjgfokolnkhafaaGreat
open Go.Fw Go.RowKit
def kC:Circle:=(MI [3,5,8] 2 0).1
def kL:List Share:=(CS kC [7] [9]).1
def kX:Circle:=(BI kC kL [4]).1
def kA:Circle:=(CL kC 1).1
def PH:Circle:=(CT kA (CL kC 1).2.1 (BV kA 3)).1
def PQ:Circle:=(CT PH (CL kC 1).2.1 (BV PH 8)).1
def EC:Circle:=(CT PQ (CL kC 1).2.1 (CF PQ 1)).1
def kZ:Circle:=(AN EC (kL.take 2) [(4:Int)] 1 []).1
def kW:List Share:=(AN EC (kL.take 2) [(4:Int)] 1 []).2.1
def kE:Int:=(AN EC (kL.take 2) [(4:Int)] 1 []).2.2
set_option maxHeartbeats 4000000 in
set_option maxRecDepth 100000 in
theorem c_sane46 {O:List Nat} (w:World) (hO:∀ b∈O,b<w.heap.size):CA Tryz.prog 5 [] w (fun v _=>v = .bool (true)):= by
 have s0:St w O w []:=St.start hO
 refine BE 252 Tryz.func5 rfl rfl oT (fun F0=>AF (AC kR (AA (AD (vO false) rfl (AG (AB (AF (AC kR (AA (JG (E:=Enc.int) (xs:=[.const (vI 3), .const (vI 5), .const (vI 8)]) U22_ MS z_3 (by decide) [vI 3,vI 5,vI 8] [[vI 3],[vI 5],[vI 8]] [(3:Int),(5:Int),(8:Int)] rfl rfl rfl (Parts.cons rfl rfl (Parts.cons rfl rfl (Parts.cons rfl rfl (Parts.nil _ _ _)))) oT s0 fun B6 O3 B7 aC aD v0=>(?_)))))))))))
 have:=v0.len_le
 refine AA (AZ (vs:=[B6,vI 2,vI 0]) enter_17 (c_new (O:=[]++O) B6 ([(3:Int),(5:Int),(8:Int)]) (2:Int) (0:Int) O3 v0 (by (simp;done)) B7.lt) rfl B7 fun aE O4 O5 aF aG O6=>(?_))
 obtain ⟨k4,rfl,h4⟩:=O6
 have h4:Enc.circle.rd O4 ([]++O) k4 kC:=h4
 refine AA (AE (vT #[vA k4.toArray,vI ((MI ([(3:Int),(5:Int),(8:Int)]) (2:Int) (0:Int)).2)]) rfl (AA (AO (vA k4.toArray) rfl rfl (AA (AO (vI ((MI ([(3:Int),(5:Int),(8:Int)]) (2:Int) (0:Int)).2)) rfl rfl (AA (CZ [vI 0,vI 0,vI 0,nS,nS] KM rfl O5 fun a0 O7 O8 O9 P0 aH H1=>(?_))))))))
 clear O8
 have h4:Enc.circle.rd O7 ((a0 :: [])++O) k4 (kC):=Enc.mv Enc.circle (x:=kC) h4 P0
 obtain ⟨d4,d5,rfl,b6,b7⟩:=h4
 have:=b6.len_le
 have:=b7.len_le
 refine CC (BF (vs:=[vI kC.epoch,vI kC.threshold,vI kC.wait,d4,d5]) (.agg #[vI kC.epoch,vI kC.threshold,vI kC.wait,d4,d5]) rfl rfl rfl BM (fun u hu=>by simp only [List.mem_cons,List.not_mem_nil,or_false] at hu;rcases hu with rfl|rfl|rfl|rfl|rfl <;> first|rfl|exact b6.oneCell|exact b7.oneCell) (by repeat (constructor)) H1 oT O9 fun aI P1 B8 aJ b8=>(?_))
 have b6:=b6.mv B8
 have b7:=b7.mv B8
 refine AA (AD (vI ((MI ([(3:Int),(5:Int),(8:Int)]) (2:Int) (0:Int)).2)) rfl (AG (AB (AF (AC kR (AA (BS (vs:=[vI kC.epoch,vI kC.threshold,vI kC.wait,d4,d5]) U25_ rfl BM rfl b8 rfl (AA (JG (E:=Enc.u8) (xs:=[.const (vB (7:UInt8))]) U26_ IZ z_5 (by decide) [vB (7:UInt8)] [[vB (7:UInt8)]] [(7:UInt8)] rfl rfl rfl (Parts.cons rfl rfl (Parts.nil _ _ _)) oT P1 fun B9 aK P2 C0 P3 k5=>(?_))))))))))
 have b6:=b6.mv C0
 have b7:=b7.mv C0
 have b8:=b8.keep P3 (by simp)
 have:=k5.len_le
 refine AA (JG (E:=Enc.u8) (xs:=[.const (vB (9:UInt8))]) U26_ IZ z_5 (by decide) [vB (9:UInt8)] [[vB (9:UInt8)]] [(9:UInt8)] rfl rfl rfl (Parts.cons rfl rfl (Parts.nil _ _ _)) oT P2 fun C1 P4 C2 r6 P5 v1=>(?_))
 have b6:=b6.mv r6
 have b7:=b7.mv r6
 have k5:=k5.mv r6
 have b8:=b8.keep P5 (by simp)
 have:=v1.len_le
 refine AA (AZ (vs:=[vA #[vI kC.epoch,vI kC.threshold,vI kC.wait,d4,d5],B9,C1]) UP (c_deal (O:=(a0 :: [])++O) [vI kC.epoch,vI kC.threshold,vI kC.wait,d4,d5] kC B9 ([(7:UInt8)]) C1 ([(9:UInt8)]) P4 ⟨_,_,rfl,b6,b7⟩ k5 v1 C2.lt) rfl C2 fun aL P6 P7 C3 P8 P9=>(?_))
 obtain ⟨b9,rfl,a2⟩:=P9
 have:=a2.len_le
 have a2:BB Enc.share P6 ((a0 :: [])++O) b9 kL:=a2
 have b6:=b6.mv C3
 have b7:=b7.mv C3
 have b8:=b8.keep P8 (by simp)
 refine AA (AE (vT #[b9,vI ((CS kC ([(7:UInt8)]) ([(9:UInt8)])).2)]) rfl (AA (AO (b9) rfl rfl (AA (AO (vI ((CS kC ([(7:UInt8)]) ([(9:UInt8)])).2)) rfl rfl (AA (AD (b9) rfl (AA (AD (vI ((CS kC ([(7:UInt8)]) ([(9:UInt8)])).2)) rfl (AG (AB (AF (AC kR (AA (BS (vs:=[vI kC.epoch,vI kC.threshold,vI kC.wait,d4,d5]) U25_ rfl BM rfl b8 rfl (AA (AE (b9) rfl (AA (JG (E:=Enc.u8) (xs:=[.const (vB (4:UInt8))]) U26_ IZ z_5 (by decide) [vB (4:UInt8)] [[vB (4:UInt8)]] [(4:UInt8)] rfl rfl rfl (Parts.cons rfl rfl (Parts.nil _ _ _)) oT P7 fun C4 Q0 C5 r7 Q1 v2=>(?_))))))))))))))))))))
 have a2:=a2.mv r7
 have b6:=b6.mv r7
 have b7:=b7.mv r7
 have b8:=b8.keep Q1 (by simp)
 have:=v2.len_le
 refine AA (AZ (vs:=[vA #[vI kC.epoch,vI kC.threshold,vI kC.wait,d4,d5],b9,C4]) enter_9 (c_renew (O:=(a0 :: [])++O) [vI kC.epoch,vI kC.threshold,vI kC.wait,d4,d5] kC b9 kL C4 ([(4:UInt8)]) Q0 ⟨_,_,rfl,b6,b7⟩ a2 v2 C5.lt) rfl C5 fun aM Q2 Q3 r8 Q4 Q5=>(?_))
 obtain ⟨k6,c1,rfl,h5,a3⟩:=Q5
 have:=a3.len_le
 have h5:Enc.circle.rd Q2 ((a0 :: [])++O) k6 kX:=h5
 have a2:=a2.mv r8
 have b6:=b6.mv r8
 have b7:=b7.mv r8
 have b8:=b8.keep Q4 (by simp)
 refine AA (AE (vT #[vA k6.toArray,c1,vI ((BI kC kL ([(4:UInt8)])).2.2)]) rfl (AA (AO (vA k6.toArray) rfl rfl (AA (AO (c1) rfl rfl (AA (AO (vI ((BI kC kL ([(4:UInt8)])).2.2)) rfl rfl (AA (CZ [vI 0,vI 0,vI 0,nS,nS] KM rfl Q3 fun a1 Q6 Q7 Q8 k7 Q9 H2=>(?_))))))))))
 have h6:HD a0 a1:=by show a0≠a1;have:=b8.lt;omega
 clear Q7
 have a2:=a2.mv k7
 have b6:=b6.mv k7
 have b7:=b7.mv k7
 have h5:Enc.circle.rd Q6 ((a1 :: (a0 :: []))++O) k6 (kX):=Enc.mv Enc.circle (x:=kX) h5 k7
 have a3:=a3.mv k7
 have b8:=b8.keep Q9 (by simp)
 obtain ⟨f8,f9,rfl,a5,a6⟩:=h5
 have:=a5.len_le
 have:=a6.len_le
 refine CC (BF (vs:=[vI kX.epoch,vI kX.threshold,vI kX.wait,f8,f9]) (.agg #[vI kX.epoch,vI kX.threshold,vI kX.wait,f8,f9]) rfl rfl rfl BM (fun u hu=>by simp only [List.mem_cons,List.not_mem_nil,or_false] at hu;rcases hu with rfl|rfl|rfl|rfl|rfl <;> first|rfl|exact a5.oneCell|exact a6.oneCell) (by repeat (constructor)) H2 oT Q8 fun R0 C6 j2 R1 a4=>(?_))
 have a2:=a2.mv j2
 have b6:=b6.mv j2
 have b7:=b7.mv j2
 have a3:=a3.mv j2
 have a5:=a5.mv j2
 have a6:=a6.mv j2
 have b8:=b8.keep R1 (BH h6)
 refine AA (AD (c1) rfl (AA (AD (vI ((BI kC kL ([(4:UInt8)])).2.2)) rfl (AG (AB (AF (AC kR (AA (BS (vs:=[vI kC.epoch,vI kC.threshold,vI kC.wait,d4,d5]) U25_ rfl BM rfl b8 rfl (AA (AZ (vs:=[vA #[vI kC.epoch,vI kC.threshold,vI kC.wait,d4,d5],vI 1]) enter_18 (c_ask (O:=(a1 :: (a0 :: []))++O) [vI kC.epoch,vI kC.threshold,vI kC.wait,d4,d5] kC (1:Int) R0 ⟨_,_,rfl,b6,b7⟩ C6.lt) rfl C6 fun aN R2 R3 m3 C7 R4=>(?_))))))))))))
 obtain ⟨o5,rfl,o6⟩:=R4
 have o6:Enc.circle.rd R2 ((a1 :: (a0 :: []))++O) o5 kA:=o6
 have a2:=a2.mv m3
 have a3:=a3.mv m3
 have a5:=a5.mv m3
 have a6:=a6.mv m3
 have b8:=b8.keep C7 (by simp)
 have a4:=a4.keep C7 (by simp)
 refine AA (AE (vT #[vA o5.toArray,vI ((CL kC (1:Int)).2.1),vI ((CL kC (1:Int)).2.2)]) rfl (AA (AO (vA o5.toArray) rfl rfl (AA (AO (vI ((CL kC (1:Int)).2.1)) rfl rfl (AA (AO (vI ((CL kC (1:Int)).2.2)) rfl rfl (?_))))))))
 obtain ⟨e7,e8,rfl,e1,e2⟩:=o6
 have:=e1.len_le
 have:=e2.len_le
 refine CC (BF (vs:=[vI kA.epoch,vI kA.threshold,vI kA.wait,e7,e8]) (.agg #[vI kA.epoch,vI kA.threshold,vI kA.wait,e7,e8]) rfl rfl rfl BM (fun u hu=>by simp only [List.mem_cons,List.not_mem_nil,or_false] at hu;rcases hu with rfl|rfl|rfl|rfl|rfl <;> first|rfl|exact e1.oneCell|exact e2.oneCell) (by repeat (constructor)) b8 oT R3 fun R5 C8 j3 R6 e4=>(?_))
 have a2:=a2.mv j3
 have a3:=a3.mv j3
 have a5:=a5.mv j3
 have a6:=a6.mv j3
 have e1:=e1.mv j3
 have e2:=e2.mv j3
 have a4:=a4.keep R6 (BH (Ne.symm h6))
 refine AA (AD (vI ((CL kC (1:Int)).2.1)) rfl (AA (AD (vI ((CL kC (1:Int)).2.2)) rfl (AG (AB (AF (AC kR (AA (BS (vs:=[vI kA.epoch,vI kA.threshold,vI kA.wait,e7,e8]) U25_ rfl BM rfl e4 rfl (AA (AE (vI ((CL kC (1:Int)).2.1)) rfl (AA (AE (b9) rfl (AA (AZ (vs:=[vA #[vI kA.epoch,vI kA.threshold,vI kA.wait,e7,e8],vI ((CL kC (1:Int)).2.1),b9]) PN (WA (O:=(a1 :: (a0 :: []))++O) [vI kA.epoch,vI kA.threshold,vI kA.wait,e7,e8] kA ((CL kC (1:Int)).2.1) b9 kL R5 ⟨_,_,rfl,e1,e2⟩ a2 C8.lt) rfl C8 fun aO R7 C9 j4 D0 R8=>(?_))))))))))))))))
 obtain ⟨r9,rfl,H3⟩:=R8
 have:=H3.len_le
 have a2:=a2.mv j4
 have a3:=a3.mv j4
 have a5:=a5.mv j4
 have a6:=a6.mv j4
 have e1:=e1.mv j4
 have e2:=e2.mv j4
 have e4:=e4.keep D0 (by simp)
 have a4:=a4.keep D0 (by simp)
 refine AA (AE (vT #[r9,vI ((BO kA ((CL kC (1:Int)).2.1) kL).2)]) rfl (AA (AO (r9) rfl rfl (AA (AO (vI ((BO kA ((CL kC (1:Int)).2.1) kL).2)) rfl rfl (AA (AD (r9) rfl (AA (AD (vI ((BO kA ((CL kC (1:Int)).2.1) kL).2)) rfl (AG (AB (AF (AC kR (AA (BS (vs:=[vI kA.epoch,vI kA.threshold,vI kA.wait,e7,e8]) U25_ rfl BM rfl e4 rfl (AA (AE (vI ((CL kC (1:Int)).2.1)) rfl (AA (AZ (vs:=[vA #[vI kA.epoch,vI kA.threshold,vI kA.wait,e7,e8],vI ((CL kC (1:Int)).2.1),vI 3]) enter_19 (XQ (O:=(a1 :: (a0 :: []))++O) [vI kA.epoch,vI kA.threshold,vI kA.wait,e7,e8] kA ((CL kC (1:Int)).2.1) (3:Int) R7 ⟨_,_,rfl,e1,e2⟩ C9.lt) rfl C9 fun aP R9 S0 m4 D1 S1=>(?_))))))))))))))))))))
 obtain ⟨o7,rfl,o8⟩:=S1
 have o8:Enc.circle.rd R9 ((a1 :: (a0 :: []))++O) o7 PH:=o8
 have a2:=a2.mv m4
 have a3:=a3.mv m4
 have a5:=a5.mv m4
 have a6:=a6.mv m4
 have e4:=e4.keep D1 (by simp)
 have a4:=a4.keep D1 (by simp)
 refine AA (AE (vT #[vA o7.toArray,vI ((CT kA ((CL kC (1:Int)).2.1) (BV kA (3:Int))).2)]) rfl (AA (AO (vA o7.toArray) rfl rfl (AA (AO (vI ((CT kA ((CL kC (1:Int)).2.1) (BV kA (3:Int))).2)) rfl rfl (?_))))))
 obtain ⟨k8,k9,rfl,h7,h8⟩:=o8
 have:=h7.len_le
 have:=h8.len_le
 refine CC (BF (vs:=[vI PH.epoch,vI PH.threshold,vI PH.wait,k8,k9]) (.agg #[vI PH.epoch,vI PH.threshold,vI PH.wait,k8,k9]) rfl rfl rfl BM (fun u hu=>by simp only [List.mem_cons,List.not_mem_nil,or_false] at hu;rcases hu with rfl|rfl|rfl|rfl|rfl <;> first|rfl|exact h7.oneCell|exact h8.oneCell) (by repeat (constructor)) e4 oT S0 fun S2 D2 j5 S3 l0=>(?_))
 have a2:=a2.mv j5
 have a3:=a3.mv j5
 have a5:=a5.mv j5
 have a6:=a6.mv j5
 have h7:=h7.mv j5
 have h8:=h8.mv j5
 have a4:=a4.keep S3 (BH (Ne.symm h6))
 refine AA (AD (vI ((CT kA ((CL kC (1:Int)).2.1) (BV kA (3:Int))).2)) rfl (AG (AB (AF (AC kR (AA (BS (vs:=[vI PH.epoch,vI PH.threshold,vI PH.wait,k8,k9]) U25_ rfl BM rfl l0 rfl (AA (AE (vI ((CL kC (1:Int)).2.1)) rfl (AA (AZ (vs:=[vA #[vI PH.epoch,vI PH.threshold,vI PH.wait,k8,k9],vI ((CL kC (1:Int)).2.1),vI 8]) enter_19 (XQ (O:=(a1 :: (a0 :: []))++O) [vI PH.epoch,vI PH.threshold,vI PH.wait,k8,k9] PH ((CL kC (1:Int)).2.1) (8:Int) S2 ⟨_,_,rfl,h7,h8⟩ D2.lt) rfl D2 fun aQ S4 S5 m5 D3 S6=>(?_))))))))))))
 obtain ⟨o9,rfl,p0⟩:=S6
 have p0:Enc.circle.rd S4 ((a1 :: (a0 :: []))++O) o9 PQ:=p0
 have a2:=a2.mv m5
 have a3:=a3.mv m5
 have a5:=a5.mv m5
 have a6:=a6.mv m5
 have l0:=l0.keep D3 (by simp)
 have a4:=a4.keep D3 (by simp)
 refine AA (AE (vT #[vA o9.toArray,vI ((CT PH ((CL kC (1:Int)).2.1) (BV PH (8:Int))).2)]) rfl (AA (AO (vA o9.toArray) rfl rfl (AA (AO (vI ((CT PH ((CL kC (1:Int)).2.1) (BV PH (8:Int))).2)) rfl rfl (?_))))))
 obtain ⟨l1,l2,rfl,h9,i0⟩:=p0
 have:=h9.len_le
 have:=i0.len_le
 refine CC (BF (vs:=[vI PQ.epoch,vI PQ.threshold,vI PQ.wait,l1,l2]) (.agg #[vI PQ.epoch,vI PQ.threshold,vI PQ.wait,l1,l2]) rfl rfl rfl BM (fun u hu=>by simp only [List.mem_cons,List.not_mem_nil,or_false] at hu;rcases hu with rfl|rfl|rfl|rfl|rfl <;> first|rfl|exact h9.oneCell|exact i0.oneCell) (by repeat (constructor)) l0 oT S5 fun S7 D4 j6 S8 l3=>(?_))
 have a2:=a2.mv j6
 have a3:=a3.mv j6
 have a5:=a5.mv j6
 have a6:=a6.mv j6
 have h9:=h9.mv j6
 have i0:=i0.mv j6
 have a4:=a4.keep S8 (BH (Ne.symm h6))
 refine AA (AD (vI ((CT PH ((CL kC (1:Int)).2.1) (BV PH (8:Int))).2)) rfl (AG (AB (AF (AC kR (AA (BS (vs:=[vI PQ.epoch,vI PQ.threshold,vI PQ.wait,l1,l2]) U25_ rfl BM rfl l3 rfl (AA (AE (vI ((CL kC (1:Int)).2.1)) rfl (AA (AZ (vs:=[vA #[vI PQ.epoch,vI PQ.threshold,vI PQ.wait,l1,l2],vI ((CL kC (1:Int)).2.1),vI 1]) enter_20 (c_finish (O:=(a1 :: (a0 :: []))++O) [vI PQ.epoch,vI PQ.threshold,vI PQ.wait,l1,l2] PQ ((CL kC (1:Int)).2.1) (1:Int) S7 ⟨_,_,rfl,h9,i0⟩ D4.lt) rfl D4 fun aR S9 T0 m6 D5 T1=>(?_))))))))))))
 obtain ⟨p1,rfl,p2⟩:=T1
 have p2:Enc.circle.rd S9 ((a1 :: (a0 :: []))++O) p1 EC:=p2
 have a2:=a2.mv m6
 have a3:=a3.mv m6
 have a5:=a5.mv m6
 have a6:=a6.mv m6
 have l3:=l3.keep D5 (by simp)
 have a4:=a4.keep D5 (by simp)
 refine AA (AE (vT #[vA p1.toArray,vI ((CT PQ ((CL kC (1:Int)).2.1) (CF PQ (1:Int))).2)]) rfl (AA (AO (vA p1.toArray) rfl rfl (AA (AO (vI ((CT PQ ((CL kC (1:Int)).2.1) (CF PQ (1:Int))).2)) rfl rfl (?_))))))
 obtain ⟨c2,c3,rfl,a8,a9⟩:=p2
 have:=a8.len_le
 have:=a9.len_le
 refine CC (BF (vs:=[vI EC.epoch,vI EC.threshold,vI EC.wait,c2,c3]) (.agg #[vI EC.epoch,vI EC.threshold,vI EC.wait,c2,c3]) rfl rfl rfl BM (fun u hu=>by simp only [List.mem_cons,List.not_mem_nil,or_false] at hu;rcases hu with rfl|rfl|rfl|rfl|rfl <;> first|rfl|exact a8.oneCell|exact a9.oneCell) (by repeat (constructor)) l3 oT T0 fun T2 T3 j7 T4 a7=>(?_))
 have a2:=a2.mv j7
 have a3:=a3.mv j7
 have a5:=a5.mv j7
 have a6:=a6.mv j7
 have a8:=a8.mv j7
 have a9:=a9.mv j7
 have a4:=a4.keep T4 (BH (Ne.symm h6))
 refine AA (AD (vI ((CT PQ ((CL kC (1:Int)).2.1) (CF PQ (1:Int))).2)) rfl (AG (AB (AF (AF (AC kR (AA (AE (vI ((MI ([(3:Int),(5:Int),(8:Int)]) (2:Int) (0:Int)).2)) rfl (AA (CM .i64 ((MI ([(3:Int),(5:Int),(8:Int)]) (2:Int) (0:Int)).2) (0:Int) rfl rfl (AA (AE (vO (((MI ([(3:Int),(5:Int),(8:Int)]) (2:Int) (0:Int)).2) != (0:Int))) rfl (?_)))))))))))))
 have H4:(((MI ([(3:Int),(5:Int),(8:Int)]) (2:Int) (0:Int)).2) != (0:Int))=false:=(by decide +kernel)
 rw [H4]
 refine AW rfl (AE (vI ((CS kC ([(7:UInt8)]) ([(9:UInt8)])).2)) rfl (AW rfl (CM .i64 ((CS kC ([(7:UInt8)]) ([(9:UInt8)])).2) (0:Int) rfl rfl (AA (BA (vO (((CS kC ([(7:UInt8)]) ([(9:UInt8)])).2) != (0:Int))) rfl rfl (AA (AE (vO (((CS kC ([(7:UInt8)]) ([(9:UInt8)])).2) != (0:Int))) rfl (?_))))))))
 have H5:(((CS kC ([(7:UInt8)]) ([(9:UInt8)])).2) != (0:Int))=false:=(by decide +kernel)
 rw [H5]
 refine AW rfl (AE (vI ((BI kC kL ([(4:UInt8)])).2.2)) rfl (AW rfl (CM .i64 ((BI kC kL ([(4:UInt8)])).2.2) (0:Int) rfl rfl (AA (BA (vO (((BI kC kL ([(4:UInt8)])).2.2) != (0:Int))) rfl rfl (AA (AE (vO (((BI kC kL ([(4:UInt8)])).2.2) != (0:Int))) rfl (?_))))))))
 have H6:(((BI kC kL ([(4:UInt8)])).2.2) != (0:Int))=false:=(by decide +kernel)
 rw [H6]
 refine AW rfl (AE (vI ((CL kC (1:Int)).2.2)) rfl (AW rfl (CM .i64 ((CL kC (1:Int)).2.2) (0:Int) rfl rfl (AA (BA (vO (((CL kC (1:Int)).2.2) != (0:Int))) rfl rfl (AA (AE (vO (((CL kC (1:Int)).2.2) != (0:Int))) rfl (?_))))))))
 have H7:(((CL kC (1:Int)).2.2) != (0:Int))=false:=(by decide +kernel)
 rw [H7]
 refine AW rfl (AE (vI ((CT kA ((CL kC (1:Int)).2.1) (BV kA (3:Int))).2)) rfl (AW rfl (CM .i64 ((CT kA ((CL kC (1:Int)).2.1) (BV kA (3:Int))).2) (0:Int) rfl rfl (AA (BA (vO (((CT kA ((CL kC (1:Int)).2.1) (BV kA (3:Int))).2) != (0:Int))) rfl rfl (AA (AE (vO (((CT kA ((CL kC (1:Int)).2.1) (BV kA (3:Int))).2) != (0:Int))) rfl (?_))))))))
 have H8:(((CT kA ((CL kC (1:Int)).2.1) (BV kA (3:Int))).2) != (0:Int))=false:=(by decide +kernel)
 rw [H8]
 refine AW rfl (AE (vI ((CT PH ((CL kC (1:Int)).2.1) (BV PH (8:Int))).2)) rfl (AW rfl (CM .i64 ((CT PH ((CL kC (1:Int)).2.1) (BV PH (8:Int))).2) (0:Int) rfl rfl (AA (BA (vO (((CT PH ((CL kC (1:Int)).2.1) (BV PH (8:Int))).2) != (0:Int))) rfl rfl (AA (AE (vO (((CT PH ((CL kC (1:Int)).2.1) (BV PH (8:Int))).2) != (0:Int))) rfl (?_))))))))
 have H9:(((CT PH ((CL kC (1:Int)).2.1) (BV PH (8:Int))).2) != (0:Int))=false:=(by decide +kernel)
 rw [H9]
 refine AW rfl (AE (vI ((CT PQ ((CL kC (1:Int)).2.1) (CF PQ (1:Int))).2)) rfl (AW rfl (CM .i64 ((CT PQ ((CL kC (1:Int)).2.1) (CF PQ (1:Int))).2) (0:Int) rfl rfl (AA (BA (vO (((CT PQ ((CL kC (1:Int)).2.1) (CF PQ (1:Int))).2) != (0:Int))) rfl rfl (AA (AE (vO (((CT PQ ((CL kC (1:Int)).2.1) (CF PQ (1:Int))).2) != (0:Int))) rfl (?_))))))))
 have I0:(((CT PQ ((CL kC (1:Int)).2.1) (CF PQ (1:Int))).2) != (0:Int))=false:=(by decide +kernel)
 rw [I0]
 refine AW rfl (AE (b9) rfl (AW rfl (BP U27_ rfl a2 (AW rfl (CM .i64 (kL.length:Int) (3:Int) rfl rfl (AA (BA (vO ((kL.length:Int) != (3:Int))) rfl rfl (AA (AE (vO ((kL.length:Int) != (3:Int))) rfl (?_))))))))))
 have I1:((kL.length:Int) != (3:Int))=false:=(by decide +kernel)
 rw [I1]
 refine AW rfl (AE (c1) rfl (AW rfl (BP U27_ rfl a3 (AW rfl (CM .i64 (((BI kC kL ([(4:UInt8)])).2.1).length:Int) (3:Int) rfl rfl (AA (BA (vO ((((BI kC kL ([(4:UInt8)])).2.1).length:Int) != (3:Int))) rfl rfl (AG (AB (?_))))))))))
 have I2:((((BI kC kL ([(4:UInt8)])).2.1).length:Int) != (3:Int))=false:=(by decide +kernel)
 rw [I2]
 refine AJ false rfl rfl (fun h=>by cases h) (fun _=>AR (AB (AF (FK 4 _ _ kR kR kR kR kR rfl rfl fun D6 m7=>?_))))
 have D7:=T3.call m7
 have j8:Mv (a1 :: (a0 :: [])) T2 (a1 :: (a0 :: [])) D6:=Mv.of_keep m7
 have a2:=a2.mv j8
 have a3:=a3.mv j8
 have a5:=a5.mv j8
 have a6:=a6.mv j8
 have a8:=a8.mv j8
 have a9:=a9.mv j8
 have a7:=a7.keep m7 (by simp)
 have a4:=a4.keep m7 (by simp)
 refine BU (BS (vs:=[vI EC.epoch,vI EC.threshold,vI EC.wait,c2,c3]) U25_ rfl BM rfl a7 rfl (BU (AE (vI ((CL kC (1:Int)).2.1)) rfl (BU (AE (b9) rfl (BU (NU U27_ DO 1 kL.length rfl (.inr ⟨.const (vI 1), .i64,(1:Int),rfl,rfl,rfl⟩) (.inl ⟨rfl,rfl⟩) (by decide +kernel) (by decide +kernel) a2 fun D8 v3=>(?_))))))))
 rw [List.take_length] at v3
 refine EO (AA (AZ (vs:=[vA #[vI EC.epoch,vI EC.threshold,vI EC.wait,c2,c3],vI ((CL kC (1:Int)).2.1),D8]) PN (WA (O:=(a1 :: (a0 :: []))++O) [vI EC.epoch,vI EC.threshold,vI EC.wait,c2,c3] EC ((CL kC (1:Int)).2.1) D8 (kL.drop 1) D6 ⟨_,_,rfl,a8,a9⟩ v3 D7.lt) rfl D7 fun aT T5 T6 j9 D9 T7=>(?_)))
 obtain ⟨d6,rfl,b0⟩:=T7
 have:=b0.len_le
 have a2:=a2.mv j9
 have a3:=a3.mv j9
 have a5:=a5.mv j9
 have a6:=a6.mv j9
 have a8:=a8.mv j9
 have a9:=a9.mv j9
 have a7:=a7.keep D9 (by simp)
 have a4:=a4.keep D9 (by simp)
 refine AA (AE (vT #[d6,vI ((BO EC ((CL kC (1:Int)).2.1) (kL.drop 1)).2)]) rfl (AA (AO (d6) rfl rfl (AA (AO (vI ((BO EC ((CL kC (1:Int)).2.1) (kL.drop 1)).2)) rfl rfl (AA (AD (d6) rfl (AA (AD (vI ((BO EC ((CL kC (1:Int)).2.1) (kL.drop 1)).2)) rfl (AG (AB (AF (FK 4 _ _ kR kR kR kR kR rfl rfl fun E0 m9=>?_)))))))))))))
 have E1:=T6.call m9
 have g0:Mv (a1 :: (a0 :: [])) T5 (a1 :: (a0 :: [])) E0:=Mv.of_keep m9
 have a2:=a2.mv g0
 have a3:=a3.mv g0
 have b0:=b0.mv g0
 have a5:=a5.mv g0
 have a6:=a6.mv g0
 have a8:=a8.mv g0
 have a9:=a9.mv g0
 have a7:=a7.keep m9 (by simp)
 have a4:=a4.keep m9 (by simp)
 refine BU (BS (vs:=[vI EC.epoch,vI EC.threshold,vI EC.wait,c2,c3]) U25_ rfl BM rfl a7 rfl (BU (AE (vI ((CL kC (1:Int)).2.1)) rfl (BU (AE (c1) rfl (BU (NU U27_ DO 1 (((BI kC kL ([(4:UInt8)])).2.1).length) rfl (.inr ⟨.const (vI 1), .i64,(1:Int),rfl,rfl,rfl⟩) (.inl ⟨rfl,rfl⟩) (by decide +kernel) (by decide +kernel) a3 fun E2 v4=>(?_))))))))
 rw [List.take_length] at v4
 refine EO (AA (AZ (vs:=[vA #[vI EC.epoch,vI EC.threshold,vI EC.wait,c2,c3],vI ((CL kC (1:Int)).2.1),E2]) PN (WA (O:=(a1 :: (a0 :: []))++O) [vI EC.epoch,vI EC.threshold,vI EC.wait,c2,c3] EC ((CL kC (1:Int)).2.1) E2 (((BI kC kL ([(4:UInt8)])).2.1).drop 1) E0 ⟨_,_,rfl,a8,a9⟩ v4 E1.lt) rfl E1 fun aU b5 g1 g2 E3 T8=>(?_)))
 obtain ⟨s2,rfl,I3⟩:=T8
 have:=I3.len_le
 have a2:=a2.mv g2
 have a3:=a3.mv g2
 have b0:=b0.mv g2
 have a5:=a5.mv g2
 have a6:=a6.mv g2
 have a8:=a8.mv g2
 have a9:=a9.mv g2
 have a7:=a7.keep E3 (by simp)
 have a4:=a4.keep E3 (by simp)
 refine AA (AE (vT #[s2,vI ((BO EC ((CL kC (1:Int)).2.1) (((BI kC kL ([(4:UInt8)])).2.1).drop 1)).2)]) rfl (AA (AO (s2) rfl rfl (AA (AO (vI ((BO EC ((CL kC (1:Int)).2.1) (((BI kC kL ([(4:UInt8)])).2.1).drop 1)).2)) rfl rfl (AA (AD (s2) rfl (AA (AD (vI ((BO EC ((CL kC (1:Int)).2.1) (((BI kC kL ([(4:UInt8)])).2.1).drop 1)).2)) rfl (AG (AB (cw_cut (fun FI wI=>∃ (c4:Nat) (f1:Value) (f2:Value) (d3:Value) (B:List Nat),True∧(∃ F1,FI=GD F1 [(1,vP (some ⟨a0,0,none⟩)),(3,b9),(5,vP (some ⟨a1,0,none⟩)),(6,c1),(11,vI ((BO kA ((CL kC (1:Int)).2.1) kL).2)),(15,d6),(16,vI ((BO EC ((CL kC (1:Int)).2.1) (kL.drop 1)).2)),(18,vI ((BO EC ((CL kC (1:Int)).2.1) (((BI kC kL ([(4:UInt8)])).2.1).drop 1)).2)),(19,vP (some ⟨c4,0,none⟩)),(20,d3),(21,vI kE),(252,undef)])∧St w O wI B∧BB Enc.share wI (B++O) d3 (kW)∧BB Enc.share wI (B++O) (b9) (kL)∧BB Enc.share wI (B++O) (c1) ((BI kC kL ([(4:UInt8)])).2.1)∧BB Enc.u8 wI (B++O) (d6) ((BO EC ((CL kC (1:Int)).2.1) (kL.drop 1)).1)∧BB Enc.int wI (B++O) (c2) (EC.guardians)∧BB Enc.recovery wI (B++O) (c3) (EC.recs)∧IX wI a0 25 [vI EC.epoch,vI EC.threshold,vI EC.wait,c2,c3]∧a0∈B∧BB Enc.int wI (B++O) (f8) (kX.guardians)∧BB Enc.recovery wI (B++O) (f9) (kX.recs)∧IX wI a1 25 [vI kX.epoch,vI kX.threshold,vI kX.wait,f8,f9]∧a1∈B∧IX wI c4 25 [vI kZ.epoch,vI kZ.threshold,vI kZ.wait,f1,f2]∧BB Enc.int wI (B++O) f1 (kZ.guardians)∧BB Enc.recovery wI (B++O) f2 (kZ.recs)∧c4∈B∧HD a0 c4∧HD a1 c4) ?_ ?_))))))))))))
 ·refine cw_drawUN 10 [7,8] [[7],[8],[7,8]] (by intro c F d v w hd;simp only [SF,QZ];exact qp_end c F d v w hd) _ _ _ [fun _=>CQ (vA #[vI EC.epoch,vI EC.threshold,vI EC.wait,c2,c3]),fun _=>fun (vT:Value) (_:World)=>BB Enc.share b5 ((a1 :: (a0 :: []))++O) vT (kL),fun _=>fun (vT:Value) (_:World)=>BB Enc.share b5 ((a1 :: (a0 :: []))++O) vT ((kL.take 2)),fun (BT:List Nat) (vT:Value) (wT:World)=>BB Enc.int wT (BT++O) vT ([(4:Int)]),fun (BT:List Nat) (vT:Value) (wT:World)=>∃ (xT0:List Value) (xT1:Value),vT = .tuple #[.agg xT0.toArray,xT1,vI ((AN EC (kL.take 2) ([(4:Int)]) (1:Int) ([])).2.2)]∧Enc.circle.rd wT (BT++O) xT0 (kZ)∧BB Enc.share wT (BT++O) xT1 ((AN EC (kL.take 2) ([(4:Int)]) (1:Int) ([])).2.1),fun (BT:List Nat) (vT:Value) (wT:World)=>∃ (xT0:List Value) (xT1:Value),vT = .tuple #[.agg xT0.toArray,xT1,vI ((AN EC (kL.take 2) ([(4:Int)]) (1:Int) ([])).2.2)]∧Enc.circle.rd wT (BT++O) xT0 (kZ)∧BB Enc.share wT (BT++O) xT1 ((AN EC (kL.take 2) ([(4:Int)]) (1:Int) ([])).2.1),fun (BT:List Nat) (vT:Value) (wT:World)=>∃ csT:List Value,vT = .agg csT.toArray∧Enc.circle.rd wT (BT++O) csT (kZ),fun (BT:List Nat) (vT:Value) (wT:World)=>BB Enc.share wT (BT++O) vT ((AN EC (kL.take 2) ([(4:Int)]) (1:Int) ([])).2.1),fun _=>CQ (vI ((AN EC (kL.take 2) ([(4:Int)]) (1:Int) ([])).2.2)),UE b5 25 [vI 0,vI 0,vI 0,nS,nS]] [⟨0,[],[],[],false,[]⟩,⟨0,[],[],[],false,[]⟩,⟨0,[],[],[],false,[1]⟩,⟨1,[],[],[],false,[]⟩,⟨1,[1],[],[],false,[0,2,3]⟩,⟨1,[1],[],[],false,[4]⟩,⟨1,[1],[],[],false,[5]⟩,⟨1,[1],[],[],false,[5]⟩,⟨0,[1],[],[],false,[5]⟩,⟨2,[],[],[],false,[]⟩] (a1 :: (a0 :: [])) kR kR kR kR kR (by decide) rfl rfl rfl ⟨fun _ _ _ _ _ h=>h,fun _ _ _ _ _ h=>h,fun _ _ _ _ _ h=>h,(show ∀ B B2 v w w2,(fun (BT:List Nat) (vT:Value) (wT:World)=>BB Enc.int wT (BT++O) vT ([(4:Int)])) B v w→Mv B w B2 w2→(fun (BT:List Nat) (vT:Value) (wT:World)=>BB Enc.int wT (BT++O) vT ([(4:Int)])) B2 v w2 from fun _ _ _ _ _ h m=>h.mv m),(show ∀ B B2 v w w2,(fun (BT:List Nat) (vT:Value) (wT:World)=>∃ (xT0:List Value) (xT1:Value),vT = .tuple #[.agg xT0.toArray,xT1,vI ((AN EC (kL.take 2) ([(4:Int)]) (1:Int) ([])).2.2)]∧Enc.circle.rd wT (BT++O) xT0 (kZ)∧BB Enc.share wT (BT++O) xT1 ((AN EC (kL.take 2) ([(4:Int)]) (1:Int) ([])).2.1)) B v w→Mv B w B2 w2→(fun (BT:List Nat) (vT:Value) (wT:World)=>∃ (xT0:List Value) (xT1:Value),vT = .tuple #[.agg xT0.toArray,xT1,vI ((AN EC (kL.take 2) ([(4:Int)]) (1:Int) ([])).2.2)]∧Enc.circle.rd wT (BT++O) xT0 (kZ)∧BB Enc.share wT (BT++O) xT1 ((AN EC (kL.take 2) ([(4:Int)]) (1:Int) ([])).2.1)) B2 v w2 from fun _ _ _ _ _ ⟨y0,y1,e,h0,h1⟩ m=>⟨y0,y1,e,Enc.mv _ h0 m,h1.mv m⟩),(show ∀ B B2 v w w2,(fun (BT:List Nat) (vT:Value) (wT:World)=>∃ (xT0:List Value) (xT1:Value),vT = .tuple #[.agg xT0.toArray,xT1,vI ((AN EC (kL.take 2) ([(4:Int)]) (1:Int) ([])).2.2)]∧Enc.circle.rd wT (BT++O) xT0 (kZ)∧BB Enc.share wT (BT++O) xT1 ((AN EC (kL.take 2) ([(4:Int)]) (1:Int) ([])).2.1)) B v w→Mv B w B2 w2→(fun (BT:List Nat) (vT:Value) (wT:World)=>∃ (xT0:List Value) (xT1:Value),vT = .tuple #[.agg xT0.toArray,xT1,vI ((AN EC (kL.take 2) ([(4:Int)]) (1:Int) ([])).2.2)]∧Enc.circle.rd wT (BT++O) xT0 (kZ)∧BB Enc.share wT (BT++O) xT1 ((AN EC (kL.take 2) ([(4:Int)]) (1:Int) ([])).2.1)) B2 v w2 from fun _ _ _ _ _ ⟨y0,y1,e,h0,h1⟩ m=>⟨y0,y1,e,Enc.mv _ h0 m,h1.mv m⟩),(show ∀ B B2 v w w2,(fun (BT:List Nat) (vT:Value) (wT:World)=>∃ csT:List Value,vT = .agg csT.toArray∧Enc.circle.rd wT (BT++O) csT (kZ)) B v w→Mv B w B2 w2→(fun (BT:List Nat) (vT:Value) (wT:World)=>∃ csT:List Value,vT = .agg csT.toArray∧Enc.circle.rd wT (BT++O) csT (kZ)) B2 v w2 from fun _ _ _ _ _ ⟨a,e,h⟩ m=>⟨a,e,Enc.mv _ h m⟩),(show ∀ B B2 v w w2,(fun (BT:List Nat) (vT:Value) (wT:World)=>BB Enc.share wT (BT++O) vT ((AN EC (kL.take 2) ([(4:Int)]) (1:Int) ([])).2.1)) B v w→Mv B w B2 w2→(fun (BT:List Nat) (vT:Value) (wT:World)=>BB Enc.share wT (BT++O) vT ((AN EC (kL.take 2) ([(4:Int)]) (1:Int) ([])).2.1)) B2 v w2 from fun _ _ _ _ _ h m=>h.mv m),fun _ _ _ _ _ h=>h,UE.st,trivial⟩ ⟨?_,?_,?_,?_,?_,?_,?_,?_,?_,?_,trivial⟩ ?_ ?_
  ·intro F1 w1 B1_ Bs_ k1 hs_ hl_ hr_ hsep_ hf hd
   have k0:=(Keep.drew [] b5).trans k1
   have a7:=a7.keep k0 (by simp)
   obtain ⟨F2,rfl⟩:=AK (F:=F1) [(1,vP (some ⟨a0,0,none⟩))] ⟨hf 1 kR,trivial⟩
   exact AH rfl ((BS (vs:=[vI EC.epoch,vI EC.threshold,vI EC.wait,c2,c3]) U25_ rfl BM rfl a7 rfl (⟨[],(Keep.refl _ _),QG,rfl⟩)))
  ·intro F1 w1 B1_ Bs_ k1 hs_ hl_ hr_ hsep_ hf hd
   obtain ⟨F2,rfl⟩:=AK (F:=F1) [(3,b9)] ⟨hf 3 kR,trivial⟩
   exact AH rfl ((AE (b9) rfl (⟨[],(Keep.refl _ _),QG,a2⟩)))
  ·intro F1 w1 B1_ Bs_ k1 hs_ hl_ hr_ hsep_ hf hd
   obtain ⟨T9,U0,v5⟩:∃ v,F1 138=v∧BB Enc.share b5 ((a1 :: (a0 :: []))++O) v (kL):=⟨_,rfl,hd 1 138 kR kR⟩
   have:=v5.len_le
   obtain ⟨F2,rfl⟩:=AK (F:=F1) [(138,T9)] ⟨U0,trivial⟩
   refine AH rfl ((XP U27_ DO 0 2 rfl (.inl ⟨rfl,rfl⟩) (.inr ⟨.const (vI 2), .i64,(2:Int),rfl,rfl,rfl⟩) (by decide +kernel) (by decide +kernel) v5 fun aV v6=>(?_)))
   rw [List.drop_zero] at v6
   exact ⟨[],(Keep.refl _ _),QG,v6⟩
  ·intro F1 w1 B1_ Bs_ k1 hs_ hl_ hr_ hsep_ hf hd
   have k0:=(Keep.drew [] b5).trans k1
   have s1:=g1.adoptL k0 hl_
   obtain ⟨F2,rfl⟩:=AK (F:=F1) [] trivial
   refine AH rfl ((JG (E:=Enc.int) (xs:=[.const (vI 4)]) U22_ MS z_3 (by decide) [vI 4] [[vI 4]] [(4:Int)] rfl rfl rfl (Parts.cons rfl rfl (Parts.nil _ _ _)) oT s1 fun aW aX aY aZ U1 v7=>(?_)))
   have:=v7.len_le
   exact ⟨[],U1,QG,v7⟩
  ·intro F1 w1 B1_ Bs_ k1 hs_ hl_ hr_ hsep_ hf hd
   have k0:=(Keep.drew [] b5).trans k1
   have s1:=g1.adoptL k0 hl_
   have m1:Mv (a1 :: (a0 :: [])) b5 B1_ w1:=Mv.adoptL k0 hl_
   have a8:=a8.mv m1
   have a9:=a9.mv m1
   obtain ⟨s3,U2,l4⟩:∃ v,F1 139=v∧BB Enc.share b5 ((a1 :: (a0 :: []))++O) v ((kL.take 2)):=⟨_,rfl,hd 2 139 kR kR⟩
   have:=l4.len_le
   have l4:=l4.mv m1
   obtain ⟨s4,U3,l5⟩:∃ v,F1 140=v∧BB Enc.int w1 ((Bs_ 1)++O) v ([(4:Int)]):=⟨_,rfl,hd 3 140 kR kR⟩
   have:=l5.len_le
   have l5:=l5.mv (Mv.at_ (hr_ 1 kR))
   obtain ⟨F2,rfl⟩:=AK (F:=F1) [(137,vA #[vI EC.epoch,vI EC.threshold,vI EC.wait,c2,c3]),(139,s3),(140,s4)] ⟨hd 0 137 kR kR,U2,U3,trivial⟩
   refine AH rfl ((AZ (vs:=[vA #[vI EC.epoch,vI EC.threshold,vI EC.wait,c2,c3],s3,s4,vI 1,nS]) enter_13 (YA (O:=B1_++O) [vI EC.epoch,vI EC.threshold,vI EC.wait,c2,c3] EC s3 (kL.take 2) s4 ([(4:Int)]) (1:Int) (.slice none 0 0) [] w1 ⟨_,_,rfl,a8,a9⟩ l4 l5 (BB.nil _ _ _) (by decide +kernel) s1.lt) rfl s1 fun ba U4 bb bc U5 U6=>(?_)))
   obtain ⟨v8,U7,rfl,p3,v9⟩:=U6
   have:=v9.len_le
   have p3:Enc.circle.rd U4 (B1_++O) v8 kZ:=p3
   exact ⟨[],U5,QG,⟨v8,U7,rfl,p3,v9⟩⟩
  ·intro F1 w1 B1_ Bs_ k1 hs_ hl_ hr_ hsep_ hf hd
   obtain ⟨l6,s5,U8,p4,l7⟩:(fun (vT:Value) (wT:World)=>∃ (xT0:List Value) (xT1:Value),vT = .tuple #[.agg xT0.toArray,xT1,vI ((AN EC (kL.take 2) ([(4:Int)]) (1:Int) ([])).2.2)]∧Enc.circle.rd wT ((Bs_ 1)++O) xT0 (kZ)∧BB Enc.share wT ((Bs_ 1)++O) xT1 ((AN EC (kL.take 2) ([(4:Int)]) (1:Int) ([])).2.1)) (F1 141) w1:=hd 4 141 kR kR
   have:=l7.len_le
   have p4:Enc.circle.rd w1 (B1_++O) l6 (kZ):=Enc.mv Enc.circle (x:=kZ) p4 (Mv.at_ (hr_ 1 kR))
   have l7:=l7.mv (Mv.at_ (hr_ 1 kR))
   obtain ⟨F2,rfl⟩:=AK (F:=F1) [(141,vT #[vA l6.toArray,s5,vI ((AN EC (kL.take 2) ([(4:Int)]) (1:Int) ([])).2.2)])] ⟨U8,trivial⟩
   exact AH rfl ((AE (vT #[vA l6.toArray,s5,vI ((AN EC (kL.take 2) ([(4:Int)]) (1:Int) ([])).2.2)]) rfl (⟨[],(Keep.refl _ _),QG,⟨l6,s5,rfl,p4,l7⟩⟩)))
  ·intro F1 w1 B1_ Bs_ k1 hs_ hl_ hr_ hsep_ hf hd
   obtain ⟨l8,U9,V0,p5,I4⟩:(fun (vT:Value) (wT:World)=>∃ (xT0:List Value) (xT1:Value),vT = .tuple #[.agg xT0.toArray,xT1,vI ((AN EC (kL.take 2) ([(4:Int)]) (1:Int) ([])).2.2)]∧Enc.circle.rd wT ((Bs_ 1)++O) xT0 (kZ)∧BB Enc.share wT ((Bs_ 1)++O) xT1 ((AN EC (kL.take 2) ([(4:Int)]) (1:Int) ([])).2.1)) (F1 136) w1:=hd 5 136 kR kR
   have:=I4.len_le
   have p5:Enc.circle.rd w1 (B1_++O) l8 (kZ):=Enc.mv Enc.circle (x:=kZ) p5 (Mv.at_ (hr_ 1 kR))
   obtain ⟨F2,rfl⟩:=AK (F:=F1) [(136,vT #[vA l8.toArray,U9,vI ((AN EC (kL.take 2) ([(4:Int)]) (1:Int) ([])).2.2)])] ⟨V0,trivial⟩
   exact AH rfl ((AO (vA l8.toArray) rfl rfl (⟨[],(Keep.refl _ _),QG,⟨l8,rfl,p5⟩⟩)))
  ·intro F1 w1 B1_ Bs_ k1 hs_ hl_ hr_ hsep_ hf hd
   obtain ⟨I5,E4,V1,an,l9⟩:(fun (vT:Value) (wT:World)=>∃ (xT0:List Value) (xT1:Value),vT = .tuple #[.agg xT0.toArray,xT1,vI ((AN EC (kL.take 2) ([(4:Int)]) (1:Int) ([])).2.2)]∧Enc.circle.rd wT ((Bs_ 1)++O) xT0 (kZ)∧BB Enc.share wT ((Bs_ 1)++O) xT1 ((AN EC (kL.take 2) ([(4:Int)]) (1:Int) ([])).2.1)) (F1 136) w1:=hd 5 136 kR kR
   have:=l9.len_le
   have l9:=l9.mv (Mv.at_ (hr_ 1 kR))
   obtain ⟨F2,rfl⟩:=AK (F:=F1) [(136,vT #[vA I5.toArray,E4,vI ((AN EC (kL.take 2) ([(4:Int)]) (1:Int) ([])).2.2)])] ⟨V1,trivial⟩
   exact AH rfl ((AO (E4) rfl rfl (⟨[],(Keep.refl _ _),QG,l9⟩)))
  ·intro F1 w1 B1_ Bs_ k1 hs_ hl_ hr_ hsep_ hf hd
   obtain ⟨I6,V2,V3,ao,I7⟩:(fun (vT:Value) (wT:World)=>∃ (xT0:List Value) (xT1:Value),vT = .tuple #[.agg xT0.toArray,xT1,vI ((AN EC (kL.take 2) ([(4:Int)]) (1:Int) ([])).2.2)]∧Enc.circle.rd wT ((Bs_ 1)++O) xT0 (kZ)∧BB Enc.share wT ((Bs_ 1)++O) xT1 ((AN EC (kL.take 2) ([(4:Int)]) (1:Int) ([])).2.1)) (F1 136) w1:=hd 5 136 kR kR
   have:=I7.len_le
   obtain ⟨F2,rfl⟩:=AK (F:=F1) [(136,vT #[vA I6.toArray,V2,vI ((AN EC (kL.take 2) ([(4:Int)]) (1:Int) ([])).2.2)])] ⟨V3,trivial⟩
   exact AH rfl ((AO (vI ((AN EC (kL.take 2) ([(4:Int)]) (1:Int) ([])).2.2)) rfl rfl (⟨[],(Keep.refl _ _),QG,rfl⟩)))
  ·intro F1 w1 B1_ Bs_ k1 hs_ hl_ hr_ hsep_ hf hd
   have k0:=(Keep.drew [] b5).trans k1
   have s1:=g1.adoptL k0 hl_
   obtain ⟨F2,rfl⟩:=AK (F:=F1) [] trivial
   refine AH rfl ((CZ [vI 0,vI 0,vI 0,nS,nS] KM rfl s1 fun V4 bd be bf bg V5 I8=>(?_)))
   have I9:b5.heap.size≤V4:=by have:=k0.size;omega
   exact ⟨[],V5,QG,⟨_,rfl,I9,(by intro h;have:=lt_of s1 _ h;omega),I8⟩⟩
  ·intro n2 g3 f3 n3 p6 J0 q9 i1 c5
   obtain ⟨c9,V6,w0,J1,w3⟩:(UE b5 25 [vI 0,vI 0,vI 0,nS,nS]) (f3 2) (n2 19) g3:=i1 9 19 kR (by decide) kR kR
   have w4:=w3.lt
   have J2:∀ x∈(a1 :: (a0 :: [])),x∈(a1 :: (a0 :: []))∨(b5.heap.size≤x∧x<g3.heap.size):=fun x hx=>.inl hx
   have G6:∀ x∈(a1 :: (a0 :: [])),x∈(a1 :: (a0 :: [])):=fun x hx=>hx
   have J3:∀ x∈(a1 :: (a0 :: [])),x∈f3 1:=fun x hx=>p6 1 x hx
   have ap:∀ x∈(a1 :: (a0 :: [])),x∈f3 2:=fun x hx=>p6 2 x hx
   have w5:∀ x∈(c9 :: (a1 :: (a0 :: []))),x∈(a1 :: (a0 :: []))∨(b5.heap.size≤x∧x<g3.heap.size):=fun x hx=>by rcases List.mem_cons.1 hx with rfl|hx;exact .inr ⟨w0,w4⟩;exact J2 x hx
   have aj:∀ x∈(a1 :: (a0 :: [])),x∈(c9 :: (a1 :: (a0 :: []))):=fun x hx=>List.mem_cons_of_mem _ (G6 x hx)
   have w6:∀ x∈(c9 :: (a1 :: (a0 :: []))),x∈f3 1:=fun x hx=>by rcases List.mem_cons.1 hx with rfl|hx;exact q9 2 1 _ (by decide) w0 w4 J1;exact J3 x hx
   have V7:=g1.adoptL n3 w5
   have g4:Mv (a1 :: (a0 :: [])) b5 (c9 :: (a1 :: (a0 :: []))) g3:=Mv.adoptL n3 w5
   have w7:HD a0 c9:=by show a0≠c9;have:=a7.lt;omega
   have w8:HD a1 c9:=by show a1≠c9;have:=a4.lt;omega
   obtain ⟨w9,V8,p7⟩:∃ cs:List Value,n2 142 = .agg cs.toArray∧Enc.circle.rd g3 ((f3 1)++O) cs (kZ):=i1 6 142 kR (by decide) kR kR
   have p7:Enc.circle.rd g3 ((c9 :: (a1 :: (a0 :: [])))++O) w9 (kZ):=Enc.mv Enc.circle (x:=kZ) p7 (Mv.at_ w6)
   obtain ⟨s6,V9,f4⟩:∃ v,n2 143=v∧BB Enc.share g3 ((f3 1)++O) v ((AN EC (kL.take 2) ([(4:Int)]) (1:Int) ([])).2.1):=⟨_,rfl,i1 7 143 kR (by decide) kR kR⟩
   have:=f4.len_le
   have f4:=f4.mv (Mv.at_ w6)
   have a2:=a2.mv g4
   have a3:=a3.mv g4
   have b0:=b0.mv g4
   have a5:=a5.mv g4
   have a6:=a6.mv g4
   have a8:=a8.mv g4
   have a9:=a9.mv g4
   have a7:=a7.keep n3 (by simp)
   have a4:=a4.keep n3 (by simp)
   obtain ⟨F2,rfl⟩:=AK (F:=n2) [(1,vP (some ⟨a0,0,none⟩)),(3,b9),(5,vP (some ⟨a1,0,none⟩)),(6,c1),(11,vI ((BO kA ((CL kC (1:Int)).2.1) kL).2)),(15,d6),(16,vI ((BO EC ((CL kC (1:Int)).2.1) (kL.drop 1)).2)),(18,vI ((BO EC ((CL kC (1:Int)).2.1) (((BI kC kL ([(4:UInt8)])).2.1).drop 1)).2)),(252,undef),(19,vP (some ⟨c9,0,none⟩)),(142,vA w9.toArray),(143,s6),(144,vI ((AN EC (kL.take 2) ([(4:Int)]) (1:Int) ([])).2.2))] ⟨c5 1 kR,c5 3 kR,c5 5 kR,c5 6 kR,c5 11 kR,c5 15 kR,c5 16 kR,c5 18 kR,c5 252 kR,V6,V8,V9,i1 8 144 kR (by decide) kR kR,trivial⟩
   clear i1 c5 p6 J0 q9
   obtain ⟨s7,s8,rfl,i2,i3⟩:=p7
   have:=i2.len_le
   have:=i3.len_le
   refine CC (BF (vs:=[vI kZ.epoch,vI kZ.threshold,vI kZ.wait,s7,s8]) (.agg #[vI kZ.epoch,vI kZ.threshold,vI kZ.wait,s7,s8]) rfl rfl rfl BM (fun u hu=>by simp only [List.mem_cons,List.not_mem_nil,or_false] at hu;rcases hu with rfl|rfl|rfl|rfl|rfl <;> first|rfl|exact i2.oneCell|exact i3.oneCell) (by repeat (constructor)) w3 oT V7 fun bh W0 d7 E5 J4=>(?_))
   have a2:=a2.mv d7
   have a3:=a3.mv d7
   have b0:=b0.mv d7
   have i2:=i2.mv d7
   have i3:=i3.mv d7
   have f4:=f4.mv d7
   have a8:=a8.mv d7
   have a9:=a9.mv d7
   have a7:=a7.keep E5 (BH w7)
   have a5:=a5.mv d7
   have a6:=a6.mv d7
   have a4:=a4.keep E5 (BH w8)
   refine AA (AD (s6) rfl (AA (AD (vI ((AN EC (kL.take 2) ([(4:Int)]) (1:Int) ([])).2.2)) rfl (AG (AB (?_))))))
   exact ⟨c9,s7,s8,s6,(c9 :: (a1 :: (a0 :: []))),trivial,⟨_,AX _ ⟨rfl,rfl,rfl,rfl,rfl,rfl,rfl,rfl,rfl,rfl,(by rfl),rfl,trivial⟩⟩,W0,(by rw [show kW=(AN EC (kL.take 2) ([(4:Int)]) (1:Int) ([])).2.1 from rfl];exact f4),a2,a3,b0,a8,a9,a7,(by (repeat (first|exact List.mem_cons_self|apply List.mem_cons_of_mem))),a5,a6,a4,(by (repeat (first|exact List.mem_cons_self|apply List.mem_cons_of_mem))),J4,i2,i3,(by repeat (constructor)),w7,w8⟩
  intro cx_ hcx_
  match cx_,hcx_ with
  | 0,_=>
   intro n4 g5 e5 n5 p8 J5 r0 i4 c6
   obtain ⟨d0,W1,x0,J6,x1⟩:(UE b5 25 [vI 0,vI 0,vI 0,nS,nS]) (e5 2) (n4 19) g5:=i4 9 19 kR (by decide) kR kR
   have x2:=x1.lt
   have J7:∀ x∈(a1 :: (a0 :: [])),x∈(a1 :: (a0 :: []))∨(b5.heap.size≤x∧x<g5.heap.size):=fun x hx=>.inl hx
   have G7:∀ x∈(a1 :: (a0 :: [])),x∈(a1 :: (a0 :: [])):=fun x hx=>hx
   have J8:∀ x∈(a1 :: (a0 :: [])),x∈e5 1:=fun x hx=>p8 1 x hx
   have aq:∀ x∈(a1 :: (a0 :: [])),x∈e5 2:=fun x hx=>p8 2 x hx
   have x3:∀ x∈(d0 :: (a1 :: (a0 :: []))),x∈(a1 :: (a0 :: []))∨(b5.heap.size≤x∧x<g5.heap.size):=fun x hx=>by rcases List.mem_cons.1 hx with rfl|hx;exact .inr ⟨x0,x2⟩;exact J7 x hx
   have ak:∀ x∈(a1 :: (a0 :: [])),x∈(d0 :: (a1 :: (a0 :: []))):=fun x hx=>List.mem_cons_of_mem _ (G7 x hx)
   have x4:∀ x∈(d0 :: (a1 :: (a0 :: []))),x∈e5 1:=fun x hx=>by rcases List.mem_cons.1 hx with rfl|hx;exact r0 2 1 _ (by decide) x0 x2 J6;exact J8 x hx
   have W2:=g1.adoptL n5 x3
   have g6:Mv (a1 :: (a0 :: [])) b5 (d0 :: (a1 :: (a0 :: []))) g5:=Mv.adoptL n5 x3
   have x5:HD a0 d0:=by show a0≠d0;have:=a7.lt;omega
   have x6:HD a1 d0:=by show a1≠d0;have:=a4.lt;omega
   obtain ⟨J9,n6,W3,ar,f5⟩:(fun (vT:Value) (wT:World)=>∃ (xT0:List Value) (xT1:Value),vT = .tuple #[.agg xT0.toArray,xT1,vI ((AN EC (kL.take 2) ([(4:Int)]) (1:Int) ([])).2.2)]∧Enc.circle.rd wT ((e5 1)++O) xT0 (kZ)∧BB Enc.share wT ((e5 1)++O) xT1 ((AN EC (kL.take 2) ([(4:Int)]) (1:Int) ([])).2.1)) (n4 136) g5:=i4 5 136 kR (by decide) kR kR
   have:=f5.len_le
   have f5:=f5.mv (Mv.at_ x4)
   obtain ⟨x7,W4,p9⟩:∃ cs:List Value,n4 142 = .agg cs.toArray∧Enc.circle.rd g5 ((e5 1)++O) cs (kZ):=i4 6 142 kR (by decide) kR kR
   have p9:Enc.circle.rd g5 ((d0 :: (a1 :: (a0 :: [])))++O) x7 (kZ):=Enc.mv Enc.circle (x:=kZ) p9 (Mv.at_ x4)
   have a2:=a2.mv g6
   have a3:=a3.mv g6
   have b0:=b0.mv g6
   have a5:=a5.mv g6
   have a6:=a6.mv g6
   have a8:=a8.mv g6
   have a9:=a9.mv g6
   have a7:=a7.keep n5 (by simp)
   have a4:=a4.keep n5 (by simp)
   obtain ⟨F2,rfl⟩:=AK (F:=n4) [(1,vP (some ⟨a0,0,none⟩)),(3,b9),(5,vP (some ⟨a1,0,none⟩)),(6,c1),(11,vI ((BO kA ((CL kC (1:Int)).2.1) kL).2)),(15,d6),(16,vI ((BO EC ((CL kC (1:Int)).2.1) (kL.drop 1)).2)),(18,vI ((BO EC ((CL kC (1:Int)).2.1) (((BI kC kL ([(4:UInt8)])).2.1).drop 1)).2)),(252,undef),(19,vP (some ⟨d0,0,none⟩)),(136,vT #[vA J9.toArray,n6,vI ((AN EC (kL.take 2) ([(4:Int)]) (1:Int) ([])).2.2)]),(142,vA x7.toArray),(144,vI ((AN EC (kL.take 2) ([(4:Int)]) (1:Int) ([])).2.2))] ⟨c6 1 kR,c6 3 kR,c6 5 kR,c6 6 kR,c6 11 kR,c6 15 kR,c6 16 kR,c6 18 kR,c6 252 kR,W1,W3,W4,i4 8 144 kR (by decide) kR kR,trivial⟩
   clear i4 c6 p8 J5 r0
   obtain ⟨s9,t0,rfl,i5,i6⟩:=p9
   have:=i5.len_le
   have:=i6.len_le
   refine CC (BF (vs:=[vI kZ.epoch,vI kZ.threshold,vI kZ.wait,s9,t0]) (.agg #[vI kZ.epoch,vI kZ.threshold,vI kZ.wait,s9,t0]) rfl rfl rfl BM (fun u hu=>by simp only [List.mem_cons,List.not_mem_nil,or_false] at hu;rcases hu with rfl|rfl|rfl|rfl|rfl <;> first|rfl|exact i5.oneCell|exact i6.oneCell) (by repeat (constructor)) x1 oT W2 fun bi W5 d8 E6 K0=>(?_))
   have a2:=a2.mv d8
   have a3:=a3.mv d8
   have b0:=b0.mv d8
   have f5:=f5.mv d8
   have i5:=i5.mv d8
   have i6:=i6.mv d8
   have a8:=a8.mv d8
   have a9:=a9.mv d8
   have a7:=a7.keep E6 (BH x5)
   have a5:=a5.mv d8
   have a6:=a6.mv d8
   have a4:=a4.keep E6 (BH x6)
   refine AA (AO (n6) rfl rfl (AA (AD (n6) rfl (AA (AD (vI ((AN EC (kL.take 2) ([(4:Int)]) (1:Int) ([])).2.2)) rfl (AG (AB (?_))))))))
   exact ⟨d0,s9,t0,n6,(d0 :: (a1 :: (a0 :: []))),trivial,⟨_,AX _ ⟨rfl,rfl,rfl,rfl,rfl,rfl,rfl,rfl,rfl,rfl,(by rfl),rfl,trivial⟩⟩,W5,(by rw [show kW=(AN EC (kL.take 2) ([(4:Int)]) (1:Int) ([])).2.1 from rfl];exact f5),a2,a3,b0,a8,a9,a7,(by (repeat (first|exact List.mem_cons_self|apply List.mem_cons_of_mem))),a5,a6,a4,(by (repeat (first|exact List.mem_cons_self|apply List.mem_cons_of_mem))),K0,i5,i6,(by repeat (constructor)),x5,x6⟩
  | 1,_=>
   intro m0 e9 e3 n7 q0 K1 r4 i7 c7
   obtain ⟨d1,W6,x8,K2,x9⟩:(UE b5 25 [vI 0,vI 0,vI 0,nS,nS]) (e3 2) (m0 19) e9:=i7 9 19 kR (by decide) kR kR
   have y2:=x9.lt
   have K3:∀ x∈(a1 :: (a0 :: [])),x∈(a1 :: (a0 :: []))∨(b5.heap.size≤x∧x<e9.heap.size):=fun x hx=>.inl hx
   have G8:∀ x∈(a1 :: (a0 :: [])),x∈(a1 :: (a0 :: [])):=fun x hx=>hx
   have K4:∀ x∈(a1 :: (a0 :: [])),x∈e3 1:=fun x hx=>q0 1 x hx
   have au:∀ x∈(a1 :: (a0 :: [])),x∈e3 2:=fun x hx=>q0 2 x hx
   have y3:∀ x∈(d1 :: (a1 :: (a0 :: []))),x∈(a1 :: (a0 :: []))∨(b5.heap.size≤x∧x<e9.heap.size):=fun x hx=>by rcases List.mem_cons.1 hx with rfl|hx;exact .inr ⟨x8,y2⟩;exact K3 x hx
   have al:∀ x∈(a1 :: (a0 :: [])),x∈(d1 :: (a1 :: (a0 :: []))):=fun x hx=>List.mem_cons_of_mem _ (G8 x hx)
   have y4:∀ x∈(d1 :: (a1 :: (a0 :: []))),x∈e3 1:=fun x hx=>by rcases List.mem_cons.1 hx with rfl|hx;exact r4 2 1 _ (by decide) x8 y2 K2;exact K4 x hx
   have W7:=g1.adoptL n7 y3
   have g7:Mv (a1 :: (a0 :: [])) b5 (d1 :: (a1 :: (a0 :: []))) e9:=Mv.adoptL n7 y3
   have y5:HD a0 d1:=by show a0≠d1;have:=a7.lt;omega
   have y6:HD a1 d1:=by show a1≠d1;have:=a4.lt;omega
   obtain ⟨K5,W8,W9,av,K6⟩:(fun (vT:Value) (wT:World)=>∃ (xT0:List Value) (xT1:Value),vT = .tuple #[.agg xT0.toArray,xT1,vI ((AN EC (kL.take 2) ([(4:Int)]) (1:Int) ([])).2.2)]∧Enc.circle.rd wT ((e3 1)++O) xT0 (kZ)∧BB Enc.share wT ((e3 1)++O) xT1 ((AN EC (kL.take 2) ([(4:Int)]) (1:Int) ([])).2.1)) (m0 136) e9:=i7 5 136 kR (by decide) kR kR
   have:=K6.len_le
   obtain ⟨y7,X0,q1⟩:∃ cs:List Value,m0 142 = .agg cs.toArray∧Enc.circle.rd e9 ((e3 1)++O) cs (kZ):=i7 6 142 kR (by decide) kR kR
   have q1:Enc.circle.rd e9 ((d1 :: (a1 :: (a0 :: [])))++O) y7 (kZ):=Enc.mv Enc.circle (x:=kZ) q1 (Mv.at_ y4)
   obtain ⟨t2,X1,f6⟩:∃ v,m0 143=v∧BB Enc.share e9 ((e3 1)++O) v ((AN EC (kL.take 2) ([(4:Int)]) (1:Int) ([])).2.1):=⟨_,rfl,i7 7 143 kR (by decide) kR kR⟩
   have:=f6.len_le
   have f6:=f6.mv (Mv.at_ y4)
   have a2:=a2.mv g7
   have a3:=a3.mv g7
   have b0:=b0.mv g7
   have a5:=a5.mv g7
   have a6:=a6.mv g7
   have a8:=a8.mv g7
   have a9:=a9.mv g7
   have a7:=a7.keep n7 (by simp)
   have a4:=a4.keep n7 (by simp)
   obtain ⟨F2,rfl⟩:=AK (F:=m0) [(1,vP (some ⟨a0,0,none⟩)),(3,b9),(5,vP (some ⟨a1,0,none⟩)),(6,c1),(11,vI ((BO kA ((CL kC (1:Int)).2.1) kL).2)),(15,d6),(16,vI ((BO EC ((CL kC (1:Int)).2.1) (kL.drop 1)).2)),(18,vI ((BO EC ((CL kC (1:Int)).2.1) (((BI kC kL ([(4:UInt8)])).2.1).drop 1)).2)),(252,undef),(19,vP (some ⟨d1,0,none⟩)),(136,vT #[vA K5.toArray,W8,vI ((AN EC (kL.take 2) ([(4:Int)]) (1:Int) ([])).2.2)]),(142,vA y7.toArray),(143,t2)] ⟨c7 1 kR,c7 3 kR,c7 5 kR,c7 6 kR,c7 11 kR,c7 15 kR,c7 16 kR,c7 18 kR,c7 252 kR,W6,W9,X0,X1,trivial⟩
   clear i7 c7 q0 K1 r4
   obtain ⟨t3,t4,rfl,i8,i9⟩:=q1
   have:=i8.len_le
   have:=i9.len_le
   refine CC (BF (vs:=[vI kZ.epoch,vI kZ.threshold,vI kZ.wait,t3,t4]) (.agg #[vI kZ.epoch,vI kZ.threshold,vI kZ.wait,t3,t4]) rfl rfl rfl BM (fun u hu=>by simp only [List.mem_cons,List.not_mem_nil,or_false] at hu;rcases hu with rfl|rfl|rfl|rfl|rfl <;> first|rfl|exact i8.oneCell|exact i9.oneCell) (by repeat (constructor)) x9 oT W7 fun bj X2 d9 E7 K7=>(?_))
   have a2:=a2.mv d9
   have a3:=a3.mv d9
   have b0:=b0.mv d9
   have i8:=i8.mv d9
   have i9:=i9.mv d9
   have f6:=f6.mv d9
   have a8:=a8.mv d9
   have a9:=a9.mv d9
   have a7:=a7.keep E7 (BH y5)
   have a5:=a5.mv d9
   have a6:=a6.mv d9
   have a4:=a4.keep E7 (BH y6)
   refine AA (AO (vI ((AN EC (kL.take 2) ([(4:Int)]) (1:Int) ([])).2.2)) rfl rfl (AA (AD (t2) rfl (AA (AD (vI ((AN EC (kL.take 2) ([(4:Int)]) (1:Int) ([])).2.2)) rfl (AG (AB (?_))))))))
   exact ⟨d1,t3,t4,t2,(d1 :: (a1 :: (a0 :: []))),trivial,⟨_,AX _ ⟨rfl,rfl,rfl,rfl,rfl,rfl,rfl,rfl,rfl,rfl,(by rfl),rfl,trivial⟩⟩,X2,(by rw [show kW=(AN EC (kL.take 2) ([(4:Int)]) (1:Int) ([])).2.1 from rfl];exact f6),a2,a3,b0,a8,a9,a7,(by (repeat (first|exact List.mem_cons_self|apply List.mem_cons_of_mem))),a5,a6,a4,(by (repeat (first|exact List.mem_cons_self|apply List.mem_cons_of_mem))),K7,i8,i9,(by repeat (constructor)),y5,y6⟩
  | 2,_=>
   intro n9 g8 e6 o0 q2 K8 r5 m2 c8
   obtain ⟨d2,X3,y8,K9,y9⟩:(UE b5 25 [vI 0,vI 0,vI 0,nS,nS]) (e6 2) (n9 19) g8:=m2 9 19 kR (by decide) kR kR
   have z0:=y9.lt
   have L0:∀ x∈(a1 :: (a0 :: [])),x∈(a1 :: (a0 :: []))∨(b5.heap.size≤x∧x<g8.heap.size):=fun x hx=>.inl hx
   have G9:∀ x∈(a1 :: (a0 :: [])),x∈(a1 :: (a0 :: [])):=fun x hx=>hx
   have L1:∀ x∈(a1 :: (a0 :: [])),x∈e6 1:=fun x hx=>q2 1 x hx
   have aw:∀ x∈(a1 :: (a0 :: [])),x∈e6 2:=fun x hx=>q2 2 x hx
   have z1:∀ x∈(d2 :: (a1 :: (a0 :: []))),x∈(a1 :: (a0 :: []))∨(b5.heap.size≤x∧x<g8.heap.size):=fun x hx=>by rcases List.mem_cons.1 hx with rfl|hx;exact .inr ⟨y8,z0⟩;exact L0 x hx
   have am:∀ x∈(a1 :: (a0 :: [])),x∈(d2 :: (a1 :: (a0 :: []))):=fun x hx=>List.mem_cons_of_mem _ (G9 x hx)
   have z2:∀ x∈(d2 :: (a1 :: (a0 :: []))),x∈e6 1:=fun x hx=>by rcases List.mem_cons.1 hx with rfl|hx;exact r5 2 1 _ (by decide) y8 z0 K9;exact L1 x hx
   have X4:=g1.adoptL o0 z1
   have g9:Mv (a1 :: (a0 :: [])) b5 (d2 :: (a1 :: (a0 :: []))) g8:=Mv.adoptL o0 z1
   have z3:HD a0 d2:=by show a0≠d2;have:=a7.lt;omega
   have z4:HD a1 d2:=by show a1≠d2;have:=a4.lt;omega
   obtain ⟨L2,o1,X5,ax,f7⟩:(fun (vT:Value) (wT:World)=>∃ (xT0:List Value) (xT1:Value),vT = .tuple #[.agg xT0.toArray,xT1,vI ((AN EC (kL.take 2) ([(4:Int)]) (1:Int) ([])).2.2)]∧Enc.circle.rd wT ((e6 1)++O) xT0 (kZ)∧BB Enc.share wT ((e6 1)++O) xT1 ((AN EC (kL.take 2) ([(4:Int)]) (1:Int) ([])).2.1)) (n9 136) g8:=m2 5 136 kR (by decide) kR kR
   have:=f7.len_le
   have f7:=f7.mv (Mv.at_ z2)
   obtain ⟨z5,X6,q3⟩:∃ cs:List Value,n9 142 = .agg cs.toArray∧Enc.circle.rd g8 ((e6 1)++O) cs (kZ):=m2 6 142 kR (by decide) kR kR
   have q3:Enc.circle.rd g8 ((d2 :: (a1 :: (a0 :: [])))++O) z5 (kZ):=Enc.mv Enc.circle (x:=kZ) q3 (Mv.at_ z2)
   have a2:=a2.mv g9
   have a3:=a3.mv g9
   have b0:=b0.mv g9
   have a5:=a5.mv g9
   have a6:=a6.mv g9
   have a8:=a8.mv g9
   have a9:=a9.mv g9
   have a7:=a7.keep o0 (by simp)
   have a4:=a4.keep o0 (by simp)
   obtain ⟨F2,rfl⟩:=AK (F:=n9) [(1,vP (some ⟨a0,0,none⟩)),(3,b9),(5,vP (some ⟨a1,0,none⟩)),(6,c1),(11,vI ((BO kA ((CL kC (1:Int)).2.1) kL).2)),(15,d6),(16,vI ((BO EC ((CL kC (1:Int)).2.1) (kL.drop 1)).2)),(18,vI ((BO EC ((CL kC (1:Int)).2.1) (((BI kC kL ([(4:UInt8)])).2.1).drop 1)).2)),(252,undef),(19,vP (some ⟨d2,0,none⟩)),(136,vT #[vA L2.toArray,o1,vI ((AN EC (kL.take 2) ([(4:Int)]) (1:Int) ([])).2.2)]),(142,vA z5.toArray)] ⟨c8 1 kR,c8 3 kR,c8 5 kR,c8 6 kR,c8 11 kR,c8 15 kR,c8 16 kR,c8 18 kR,c8 252 kR,X3,X5,X6,trivial⟩
   clear m2 c8 q2 K8 r5
   obtain ⟨t5,t6,rfl,j0,j1⟩:=q3
   have:=j0.len_le
   have:=j1.len_le
   refine CC (BF (vs:=[vI kZ.epoch,vI kZ.threshold,vI kZ.wait,t5,t6]) (.agg #[vI kZ.epoch,vI kZ.threshold,vI kZ.wait,t5,t6]) rfl rfl rfl BM (fun u hu=>by simp only [List.mem_cons,List.not_mem_nil,or_false] at hu;rcases hu with rfl|rfl|rfl|rfl|rfl <;> first|rfl|exact j0.oneCell|exact j1.oneCell) (by repeat (constructor)) y9 oT X4 fun bk X7 e0 E8 L3=>(?_))
   have a2:=a2.mv e0
   have a3:=a3.mv e0
   have b0:=b0.mv e0
   have f7:=f7.mv e0
   have j0:=j0.mv e0
   have j1:=j1.mv e0
   have a8:=a8.mv e0
   have a9:=a9.mv e0
   have a7:=a7.keep E8 (BH z3)
   have a5:=a5.mv e0
   have a6:=a6.mv e0
   have a4:=a4.keep E8 (BH z4)
   refine AA (AO (o1) rfl rfl (AA (AO (vI ((AN EC (kL.take 2) ([(4:Int)]) (1:Int) ([])).2.2)) rfl rfl (AA (AD (o1) rfl (AA (AD (vI ((AN EC (kL.take 2) ([(4:Int)]) (1:Int) ([])).2.2)) rfl (AG (AB (?_))))))))))
   exact ⟨d2,t5,t6,o1,(d2 :: (a1 :: (a0 :: []))),trivial,⟨_,AX _ ⟨rfl,rfl,rfl,rfl,rfl,rfl,rfl,rfl,rfl,rfl,(by rfl),rfl,trivial⟩⟩,X7,(by rw [show kW=(AN EC (kL.take 2) ([(4:Int)]) (1:Int) ([])).2.1 from rfl];exact f7),a2,a3,b0,a8,a9,a7,(by (repeat (first|exact List.mem_cons_self|apply List.mem_cons_of_mem))),a5,a6,a4,(by (repeat (first|exact List.mem_cons_self|apply List.mem_cons_of_mem))),L3,j0,j1,(by repeat (constructor)),z3,z4⟩
 intro F L4 hI
 clear a2 a3 b0 a8 a9 a7 a5 a6 a4
 obtain ⟨c4,f1,f2,d3,b2,ay,⟨az,rfl⟩,z6,b3,a2,a3,b0,a8,a9,a7,ah,a5,a6,a4,ai,b1,q4,q5,H0,B4,B5⟩:=hI
 have:=b3.len_le
 have:=q4.len_le
 have:=q5.len_le
 refine AF (AC kR (AA (EG (l:=[]) OR KM rfl [] [vI 0,vI 0,vI 0,nS,nS] rfl rfl (AA (AZ (vs:=[vA #[vI 0,vI 0,vI 0,nS,nS],nS,nS]) UP (c_deal (O:=b2++O) [vI 0,vI 0,vI 0,nS,nS] (⟨(0:Int),(0:Int),(0:Int),[],[]⟩:Circle) (.slice none 0 0) [] (.slice none 0 0) [] L4 ⟨.slice none 0 0, .slice none 0 0,rfl,(BB.nil _ _ _),(BB.nil _ _ _)⟩ (BB.nil _ _ _) (BB.nil _ _ _) z6.lt) rfl z6 fun bm X8 E9 f0 t7 X9=>(?_))))))
 obtain ⟨t8,rfl,L5⟩:=X9
 have:=L5.len_le
 have a2:=a2.mv f0
 have a3:=a3.mv f0
 have b0:=b0.mv f0
 have b3:=b3.mv f0
 have a8:=a8.mv f0
 have a9:=a9.mv f0
 have a7:=a7.keep t7 (by simp)
 have a5:=a5.mv f0
 have a6:=a6.mv f0
 have a4:=a4.keep t7 (by simp)
 have b1:=b1.keep t7 (by simp)
 refine AA (AE (vT #[t8,vI ((CS (⟨(0:Int),(0:Int),(0:Int),[],[]⟩:Circle) ([]) ([])).2)]) rfl (AA (AO (t8) rfl rfl (AA (AO (vI ((CS (⟨(0:Int),(0:Int),(0:Int),[],[]⟩:Circle) ([]) ([])).2)) rfl rfl (AA (AD (t8) rfl (AA (AD (vI ((CS (⟨(0:Int),(0:Int),(0:Int),[],[]⟩:Circle) ([]) ([])).2)) rfl (AG (AB (AF (AC kR (AA (BS (vs:=[vI EC.epoch,vI EC.threshold,vI EC.wait,c2,c3]) U25_ rfl BM rfl a7 rfl (AA (AZ (vs:=[vA #[vI EC.epoch,vI EC.threshold,vI EC.wait,c2,c3],nS,nS]) enter_9 (c_renew (O:=b2++O) [vI EC.epoch,vI EC.threshold,vI EC.wait,c2,c3] EC (.slice none 0 0) [] (.slice none 0 0) [] X8 ⟨_,_,rfl,a8,a9⟩ (BB.nil _ _ _) (BB.nil _ _ _) E9.lt) rfl E9 fun bn bo Y0 k2 t9 Y1=>(?_))))))))))))))))))
 obtain ⟨q6,u0,rfl,q7,L6⟩:=Y1
 have:=L6.len_le
 have a2:=a2.mv k2
 have a3:=a3.mv k2
 have b0:=b0.mv k2
 have b3:=b3.mv k2
 have a7:=a7.keep t9 (by simp)
 have a5:=a5.mv k2
 have a6:=a6.mv k2
 have a4:=a4.keep t9 (by simp)
 have b1:=b1.keep t9 (by simp)
 refine AA (AE (vT #[vA q6.toArray,u0,vI ((BI EC ([]) ([])).2.2)]) rfl (AA (AO (vA q6.toArray) rfl rfl (AA (AO (u0) rfl rfl (AA (AO (vI ((BI EC ([]) ([])).2.2)) rfl rfl (AA (CZ [vI 0,vI 0,vI 0,nS,nS] KM rfl Y0 fun b4 Y2 Y3 Y4 h2 F3 L7=>(?_))))))))))
 have aA:HD a0 b4:=by show a0≠b4;have:=a7.lt;omega
 have L8:HD a1 b4:=by show a1≠b4;have:=a4.lt;omega
 have L9:HD c4 b4:=by show c4≠b4;have:=b1.lt;omega
 clear Y3
 have a2:=a2.mv h2
 have a3:=a3.mv h2
 have b0:=b0.mv h2
 have b3:=b3.mv h2
 have q7:Enc.circle.rd Y2 ((b4 :: b2)++O) q6 ((BI EC ([]) ([])).1):=Enc.mv Enc.circle (x:=(BI EC ([]) ([])).1) q7 h2
 have a5:=a5.mv h2
 have a6:=a6.mv h2
 have a4:=a4.keep F3 (by simp)
 have b1:=b1.keep F3 (by simp)
 obtain ⟨F4,F5,rfl,z7,z8⟩:=q7
 have:=z7.len_le
 have:=z8.len_le
 refine CC (BF (vs:=[vI (((BI EC ([]) ([])).1).epoch),vI (((BI EC ([]) ([])).1).threshold),vI (((BI EC ([]) ([])).1).wait),F4,F5]) (.agg #[vI (((BI EC ([]) ([])).1).epoch),vI (((BI EC ([]) ([])).1).threshold),vI (((BI EC ([]) ([])).1).wait),F4,F5]) rfl rfl rfl BM (fun u hu=>by simp only [List.mem_cons,List.not_mem_nil,or_false] at hu;rcases hu with rfl|rfl|rfl|rfl|rfl <;> first|rfl|exact z7.oneCell|exact z8.oneCell) (by repeat (constructor)) L7 oT Y4 fun Y5 F6 k3 F7 aB=>(?_))
 have a2:=a2.mv k3
 have a3:=a3.mv k3
 have b0:=b0.mv k3
 have b3:=b3.mv k3
 have a5:=a5.mv k3
 have a6:=a6.mv k3
 have a4:=a4.keep F7 (BH L8)
 have b1:=b1.keep F7 (BH L9)
 refine AA (AD (u0) rfl (AA (AD (vI ((BI EC ([]) ([])).2.2)) rfl (AG (AB (AF (AC kR (AA (BS (vs:=[vI kX.epoch,vI kX.threshold,vI kX.wait,f8,f9]) U25_ rfl BM rfl a4 rfl (AA (AE (c1) rfl (AA (AZ (vs:=[vA #[vI kX.epoch,vI kX.threshold,vI kX.wait,f8,f9],vI 0,c1]) PN (WA (O:=(b4 :: b2)++O) [vI kX.epoch,vI kX.threshold,vI kX.wait,f8,f9] kX (0:Int) c1 ((BI kC kL ([(4:UInt8)])).2.1) Y5 ⟨_,_,rfl,a5,a6⟩ a3 F6.lt) rfl F6 fun bp Y6 F8 o2 F9 Y7=>(?_))))))))))))))
 obtain ⟨u1,rfl,M0⟩:=Y7
 have:=M0.len_le
 have a2:=a2.mv o2
 have a3:=a3.mv o2
 have b0:=b0.mv o2
 have b3:=b3.mv o2
 have a4:=a4.keep F9 (by simp)
 have b1:=b1.keep F9 (by simp)
 refine AA (AE (vT #[u1,vI ((BO kX (0:Int) ((BI kC kL ([(4:UInt8)])).2.1)).2)]) rfl (AA (AO (u1) rfl rfl (AA (AO (vI ((BO kX (0:Int) ((BI kC kL ([(4:UInt8)])).2.1)).2)) rfl rfl (AA (AD (u1) rfl (AA (AD (vI ((BO kX (0:Int) ((BI kC kL ([(4:UInt8)])).2.1)).2)) rfl (AG (AB (AF (AC kR (AA (AZ (vs:=[nS,nS,nS]) enter_21 (c_mixed (O:=(b4 :: b2)++O) (.slice none 0 0) [] (.slice none 0 0) [] (.slice none 0 0) [] Y6 (BB.nil _ _ _) (BB.nil _ _ _) (BB.nil _ _ _) F8.lt) rfl F8 fun bq h3 u2 o3 G0 Y8=>(?_))))))))))))))))
 obtain ⟨u3,rfl,M1⟩:=Y8
 have:=M1.len_le
 have a2:=a2.mv o3
 have a3:=a3.mv o3
 have b0:=b0.mv o3
 have b3:=b3.mv o3
 have a4:=a4.keep G0 (by simp)
 have b1:=b1.keep G0 (by simp)
 refine AA (AE (vT #[u3,vI ((CD ([]) ([]) ([])).2)]) rfl (AA (AO (u3) rfl rfl (AA (AO (vI ((CD ([]) ([]) ([])).2)) rfl rfl (AA (AD (u3) rfl (AA (AD (vI ((CD ([]) ([]) ([])).2)) rfl (AG (AB (AF (cw_draw' 10 _ _ [fun (vT:Value) (wT:World)=>BB Enc.share wT ((b4 :: b2)++O) vT (kL),fun (vT:Value) (wT:World)=>BB Enc.share wT ((b4 :: b2)++O) vT ((kL.take 1)),fun (vT:Value) (wT:World)=>BB Enc.share wT ((b4 :: b2)++O) vT ((BI kC kL ([(4:UInt8)])).2.1),fun (vT:Value) (wT:World)=>BB Enc.share wT ((b4 :: b2)++O) vT ((((BI kC kL ([(4:UInt8)])).2.1).drop 2)),fun (vT:Value) (wT:World)=>BB Enc.u8 wT ((b4 :: b2)++O) vT ([(200:UInt8)]),fun (vT:Value) (wT:World)=>∃ (xT0:Value),vT = .tuple #[xT0,vI ((CD (kL.take 1) (((BI kC kL ([(4:UInt8)])).2.1).drop 2) ([(200:UInt8)])).2)]∧BB Enc.u8 wT ((b4 :: b2)++O) xT0 ((CD (kL.take 1) (((BI kC kL ([(4:UInt8)])).2.1).drop 2) ([(200:UInt8)])).1),fun (vT:Value) (wT:World)=>∃ (xT0:Value),vT = .tuple #[xT0,vI ((CD (kL.take 1) (((BI kC kL ([(4:UInt8)])).2.1).drop 2) ([(200:UInt8)])).2)]∧BB Enc.u8 wT ((b4 :: b2)++O) xT0 ((CD (kL.take 1) (((BI kC kL ([(4:UInt8)])).2.1).drop 2) ([(200:UInt8)])).1),fun (vT:Value) (wT:World)=>BB Enc.u8 wT ((b4 :: b2)++O) vT ((CD (kL.take 1) (((BI kC kL ([(4:UInt8)])).2.1).drop 2) ([(200:UInt8)])).1),CQ (vI ((CD (kL.take 1) (((BI kC kL ([(4:UInt8)])).2.1).drop 2) ([(200:UInt8)])).2)),fun (vT:Value) (wT:World)=>BB Enc.u8 wT ((b4 :: b2)++O) vT ((CD (kL.take 1) (((BI kC kL ([(4:UInt8)])).2.1).drop 2) ([(200:UInt8)])).1)] kR kR kR kR rfl rfl ⟨fun _ _ _ h k=>h.mv (Mv.of_keep k),fun _ _ _ h k=>h.mv (Mv.of_keep k),fun _ _ _ h k=>h.mv (Mv.of_keep k),fun _ _ _ h k=>h.mv (Mv.of_keep k),fun _ _ _ h k=>h.mv (Mv.of_keep k),fun _ _ _ ⟨y0,e,h0⟩ k=>⟨y0,e,h0.mv (Mv.of_keep k)⟩,fun _ _ _ ⟨y0,e,h0⟩ k=>⟨y0,e,h0.mv (Mv.of_keep k)⟩,fun _ _ _ h k=>h.mv (Mv.of_keep k),kI,fun _ _ _ h k=>h.mv (Mv.of_keep k),trivial⟩ ⟨?_,?_,?_,?_,?_,?_,?_,?_,?_,?_,trivial⟩ ?_)))))))))))))
 ·intro F1 w1 k1 hf hd
  have k0:=(Keep.drew [] h3).trans k1
  have m1:Mv (b4 :: b2) h3 (b4 :: b2) w1:=Mv.of_keep k0
  have a2:=a2.mv m1
  obtain ⟨F2,rfl⟩:=AK (F:=F1) [(3,b9)] ⟨hf 3 kR,trivial⟩
  exact AH rfl ((AE (b9) rfl (⟨(Keep.refl _ _),a2⟩)))
 ·intro F1 w1 k1 hf hd
  obtain ⟨Y9,Z0,z9⟩:∃ v,F1 167=v∧BB Enc.share w1 ((b4 :: b2)++O) v (kL):=⟨_,rfl,hd 0 167 kR⟩
  have:=z9.len_le
  obtain ⟨F2,rfl⟩:=AK (F:=F1) [(167,Y9)] ⟨Z0,trivial⟩
  refine AH rfl ((NU U27_ DO 0 1 rfl (.inl ⟨rfl,rfl⟩) (.inr ⟨.const (vI 1), .i64,(1:Int),rfl,rfl,rfl⟩) (by decide +kernel) (by decide +kernel) z9 fun br A0=>(?_)))
  rw [List.drop_zero] at A0
  exact ⟨(Keep.refl _ _),A0⟩
 ·intro F1 w1 k1 hf hd
  have k0:=(Keep.drew [] h3).trans k1
  have m1:Mv (b4 :: b2) h3 (b4 :: b2) w1:=Mv.of_keep k0
  have a3:=a3.mv m1
  obtain ⟨F2,rfl⟩:=AK (F:=F1) [(6,c1)] ⟨hf 6 kR,trivial⟩
  exact AH rfl ((AE (c1) rfl (⟨(Keep.refl _ _),a3⟩)))
 ·intro F1 w1 k1 hf hd
  obtain ⟨Z1,Z2,A1⟩:∃ v,F1 169=v∧BB Enc.share w1 ((b4 :: b2)++O) v ((BI kC kL ([(4:UInt8)])).2.1):=⟨_,rfl,hd 2 169 kR⟩
  have:=A1.len_le
  obtain ⟨F2,rfl⟩:=AK (F:=F1) [(169,Z1)] ⟨Z2,trivial⟩
  refine AH rfl ((NU U27_ DO 2 (((BI kC kL ([(4:UInt8)])).2.1).length) rfl (.inr ⟨.const (vI 2), .i64,(2:Int),rfl,rfl,rfl⟩) (.inl ⟨rfl,rfl⟩) (by decide +kernel) (by decide +kernel) A1 fun bs A2=>(?_)))
  rw [List.take_length] at A2
  exact ⟨(Keep.refl _ _),A2⟩
 ·intro F1 w1 k1 hf hd
  have k0:=(Keep.drew [] h3).trans k1
  have s1:=u2.call k0
  obtain ⟨F2,rfl⟩:=AK (F:=F1) [] trivial
  refine AH rfl ((JG (E:=Enc.u8) (xs:=[.const (vB (200:UInt8))]) U26_ IZ z_5 (by decide) [vB (200:UInt8)] [[vB (200:UInt8)]] [(200:UInt8)] rfl rfl rfl (Parts.cons rfl rfl (Parts.nil _ _ _)) oT s1 fun bt bu bv bw Z3 A3=>(?_)))
  have:=A3.len_le
  exact ⟨Z3,A3⟩
 ·intro F1 w1 k1 hf hd
  have k0:=(Keep.drew [] h3).trans k1
  have s1:=u2.call k0
  obtain ⟨u4,Z4,A4⟩:∃ v,F1 168=v∧BB Enc.share w1 ((b4 :: b2)++O) v ((kL.take 1)):=⟨_,rfl,hd 1 168 kR⟩
  have:=A4.len_le
  obtain ⟨u5,Z5,A5⟩:∃ v,F1 170=v∧BB Enc.share w1 ((b4 :: b2)++O) v ((((BI kC kL ([(4:UInt8)])).2.1).drop 2)):=⟨_,rfl,hd 3 170 kR⟩
  have:=A5.len_le
  obtain ⟨u6,Z6,A6⟩:∃ v,F1 171=v∧BB Enc.u8 w1 ((b4 :: b2)++O) v ([(200:UInt8)]):=⟨_,rfl,hd 4 171 kR⟩
  have:=A6.len_le
  obtain ⟨F2,rfl⟩:=AK (F:=F1) [(168,u4),(170,u5),(171,u6)] ⟨Z4,Z5,Z6,trivial⟩
  refine AH rfl ((AZ (vs:=[u4,u5,u6]) enter_21 (c_mixed (O:=(b4 :: b2)++O) u4 (kL.take 1) u5 (((BI kC kL ([(4:UInt8)])).2.1).drop 2) u6 ([(200:UInt8)]) w1 A4 A5 A6 s1.lt) rfl s1 fun bx bz bA bB Z7 Z8=>(?_)))
  obtain ⟨Z9,rfl,A7⟩:=Z8
  have:=A7.len_le
  exact ⟨Z7,⟨Z9,rfl,A7⟩⟩
 ·intro F1 w1 k1 hf hd
  obtain ⟨u7,aa,A8⟩:(fun (vT:Value) (wT:World)=>∃ (xT0:Value),vT = .tuple #[xT0,vI ((CD (kL.take 1) (((BI kC kL ([(4:UInt8)])).2.1).drop 2) ([(200:UInt8)])).2)]∧BB Enc.u8 wT ((b4 :: b2)++O) xT0 ((CD (kL.take 1) (((BI kC kL ([(4:UInt8)])).2.1).drop 2) ([(200:UInt8)])).1)) (F1 172) w1:=hd 5 172 kR
  have:=A8.len_le
  obtain ⟨F2,rfl⟩:=AK (F:=F1) [(172,vT #[u7,vI ((CD (kL.take 1) (((BI kC kL ([(4:UInt8)])).2.1).drop 2) ([(200:UInt8)])).2)])] ⟨aa,trivial⟩
  exact AH rfl ((AE (vT #[u7,vI ((CD (kL.take 1) (((BI kC kL ([(4:UInt8)])).2.1).drop 2) ([(200:UInt8)])).2)]) rfl (⟨(Keep.refl _ _),⟨u7,rfl,A8⟩⟩)))
 ·intro F1 w1 k1 hf hd
  obtain ⟨G1,ab,A9⟩:(fun (vT:Value) (wT:World)=>∃ (xT0:Value),vT = .tuple #[xT0,vI ((CD (kL.take 1) (((BI kC kL ([(4:UInt8)])).2.1).drop 2) ([(200:UInt8)])).2)]∧BB Enc.u8 wT ((b4 :: b2)++O) xT0 ((CD (kL.take 1) (((BI kC kL ([(4:UInt8)])).2.1).drop 2) ([(200:UInt8)])).1)) (F1 166) w1:=hd 6 166 kR
  have:=A9.len_le
  obtain ⟨F2,rfl⟩:=AK (F:=F1) [(166,vT #[G1,vI ((CD (kL.take 1) (((BI kC kL ([(4:UInt8)])).2.1).drop 2) ([(200:UInt8)])).2)])] ⟨ab,trivial⟩
  exact AH rfl ((AO (G1) rfl rfl (⟨(Keep.refl _ _),A9⟩)))
 ·intro F1 w1 k1 hf hd
  obtain ⟨ac,ad,M2⟩:(fun (vT:Value) (wT:World)=>∃ (xT0:Value),vT = .tuple #[xT0,vI ((CD (kL.take 1) (((BI kC kL ([(4:UInt8)])).2.1).drop 2) ([(200:UInt8)])).2)]∧BB Enc.u8 wT ((b4 :: b2)++O) xT0 ((CD (kL.take 1) (((BI kC kL ([(4:UInt8)])).2.1).drop 2) ([(200:UInt8)])).1)) (F1 166) w1:=hd 6 166 kR
  have:=M2.len_le
  obtain ⟨F2,rfl⟩:=AK (F:=F1) [(166,vT #[ac,vI ((CD (kL.take 1) (((BI kC kL ([(4:UInt8)])).2.1).drop 2) ([(200:UInt8)])).2)])] ⟨ad,trivial⟩
  exact AH rfl ((AO (vI ((CD (kL.take 1) (((BI kC kL ([(4:UInt8)])).2.1).drop 2) ([(200:UInt8)])).2)) rfl rfl (⟨(Keep.refl _ _),rfl⟩)))
 ·intro F1 w1 k1 hf hd
  obtain ⟨G2,ae,B0⟩:∃ v,F1 173=v∧BB Enc.u8 w1 ((b4 :: b2)++O) v ((CD (kL.take 1) (((BI kC kL ([(4:UInt8)])).2.1).drop 2) ([(200:UInt8)])).1):=⟨_,rfl,hd 7 173 kR⟩
  have:=B0.len_le
  obtain ⟨F2,rfl⟩:=AK (F:=F1) [(173,G2)] ⟨ae,trivial⟩
  exact AH rfl ((AD (G2) rfl (⟨(Keep.refl _ _),B0⟩)))
 intro G3 G4 o4 q8 c0
 have af:=u2.call o4
 have u9:Mv (b4 :: b2) h3 (b4 :: b2) G4:=Mv.of_keep o4
 have a3:=a3.mv u9
 have b0:=b0.mv u9
 have b3:=b3.mv u9
 have a4:=a4.keep o4 (by simp)
 have b1:=b1.keep o4 (by simp)
 obtain ⟨G5,ag,B1⟩:∃ v,G3 31=v∧BB Enc.u8 G4 ((b4 :: b2)++O) v ((CD (kL.take 1) (((BI kC kL ([(4:UInt8)])).2.1).drop 2) ([(200:UInt8)])).1):=⟨_,rfl,q8 9 31 kR (by decide)⟩
 have:=B1.len_le
 obtain ⟨F2,rfl⟩:=AK (F:=G3) [(5,vP (some ⟨a1,0,none⟩)),(6,c1),(11,vI ((BO kA ((CL kC (1:Int)).2.1) kL).2)),(15,d6),(16,vI ((BO EC ((CL kC (1:Int)).2.1) (kL.drop 1)).2)),(18,vI ((BO EC ((CL kC (1:Int)).2.1) (((BI kC kL ([(4:UInt8)])).2.1).drop 1)).2)),(19,vP (some ⟨c4,0,none⟩)),(20,d3),(21,vI kE),(23,vI ((CS (⟨(0:Int),(0:Int),(0:Int),[],[]⟩:Circle) ([]) ([])).2)),(26,vI ((BI EC ([]) ([])).2.2)),(28,vI ((BO kX (0:Int) ((BI kC kL ([(4:UInt8)])).2.1)).2)),(30,vI ((CD ([]) ([]) ([])).2)),(252,undef),(31,G5),(174,vI ((CD (kL.take 1) (((BI kC kL ([(4:UInt8)])).2.1).drop 2) ([(200:UInt8)])).2))] ⟨c0 5 kR,c0 6 kR,c0 11 kR,c0 15 kR,c0 16 kR,c0 18 kR,c0 19 kR,c0 20 kR,c0 21 kR,c0 23 kR,c0 26 kR,c0 28 kR,c0 30 kR,c0 252 kR,ag,q8 8 174 kR (by decide),trivial⟩
 clear q8 c0
 refine AA (AD (vI ((CD (kL.take 1) (((BI kC kL ([(4:UInt8)])).2.1).drop 2) ([(200:UInt8)])).2)) rfl (AG (AB (AF (AF (AC kR (AA (AE (vI ((BO EC ((CL kC (1:Int)).2.1) (kL.drop 1)).2)) rfl (AA (CM .i64 ((BO EC ((CL kC (1:Int)).2.1) (kL.drop 1)).2) (0:Int) rfl rfl (AA (AE (vO (((BO EC ((CL kC (1:Int)).2.1) (kL.drop 1)).2) != (0:Int))) rfl (?_)))))))))))))
 have M3:(((BO EC ((CL kC (1:Int)).2.1) (kL.drop 1)).2) != (0:Int))=false:=(by decide +kernel)
 rw [M3]
 refine AW rfl (AE (vI ((BO EC ((CL kC (1:Int)).2.1) (((BI kC kL ([(4:UInt8)])).2.1).drop 1)).2)) rfl (AW rfl (CM .i64 ((BO EC ((CL kC (1:Int)).2.1) (((BI kC kL ([(4:UInt8)])).2.1).drop 1)).2) (460:Int) rfl rfl (AA (BA (vO (((BO EC ((CL kC (1:Int)).2.1) (((BI kC kL ([(4:UInt8)])).2.1).drop 1)).2) != (460:Int))) rfl rfl (AA (AE (vO (((BO EC ((CL kC (1:Int)).2.1) (((BI kC kL ([(4:UInt8)])).2.1).drop 1)).2) != (460:Int))) rfl (?_))))))))
 have M4:(((BO EC ((CL kC (1:Int)).2.1) (((BI kC kL ([(4:UInt8)])).2.1).drop 1)).2) != (460:Int))=false:=(by decide +kernel)
 rw [M4]
 refine AW rfl (AE (vI kE) rfl (AW rfl (CM .i64 kE (0:Int) rfl rfl (AA (BA (vO (kE != (0:Int))) rfl rfl (AA (AE (vO (kE != (0:Int))) rfl (?_))))))))
 have M5:(kE != (0:Int))=false:=(by decide +kernel)
 rw [M5]
 refine AW rfl (AE (vI ((CS (⟨(0:Int),(0:Int),(0:Int),[],[]⟩:Circle) ([]) ([])).2)) rfl (AW rfl (CM .i64 ((CS (⟨(0:Int),(0:Int),(0:Int),[],[]⟩:Circle) ([]) ([])).2) (450:Int) rfl rfl (AA (BA (vO (((CS (⟨(0:Int),(0:Int),(0:Int),[],[]⟩:Circle) ([]) ([])).2) != (450:Int))) rfl rfl (AA (AE (vO (((CS (⟨(0:Int),(0:Int),(0:Int),[],[]⟩:Circle) ([]) ([])).2) != (450:Int))) rfl (?_))))))))
 have M6:(((CS (⟨(0:Int),(0:Int),(0:Int),[],[]⟩:Circle) ([]) ([])).2) != (450:Int))=false:=(by decide +kernel)
 rw [M6]
 refine AW rfl (AE (vI ((BI EC ([]) ([])).2.2)) rfl (AW rfl (CM .i64 ((BI EC ([]) ([])).2.2) (80:Int) rfl rfl (AA (BA (vO (((BI EC ([]) ([])).2.2) != (80:Int))) rfl rfl (AA (AE (vO (((BI EC ([]) ([])).2.2) != (80:Int))) rfl (?_))))))))
 have M7:(((BI EC ([]) ([])).2.2) != (80:Int))=false:=(by decide +kernel)
 rw [M7]
 refine AW rfl (AE (vI ((BO kX (0:Int) ((BI kC kL ([(4:UInt8)])).2.1)).2)) rfl (AW rfl (CM .i64 ((BO kX (0:Int) ((BI kC kL ([(4:UInt8)])).2.1)).2) (1:Int) rfl rfl (AA (BA (vO (((BO kX (0:Int) ((BI kC kL ([(4:UInt8)])).2.1)).2) != (1:Int))) rfl rfl (AA (AE (vO (((BO kX (0:Int) ((BI kC kL ([(4:UInt8)])).2.1)).2) != (1:Int))) rfl (?_))))))))
 have M8:(((BO kX (0:Int) ((BI kC kL ([(4:UInt8)])).2.1)).2) != (1:Int))=false:=(by decide +kernel)
 rw [M8]
 refine AW rfl (AE (vI ((CD ([]) ([]) ([])).2)) rfl (AW rfl (CM .i64 ((CD ([]) ([]) ([])).2) (80:Int) rfl rfl (AA (BA (vO (((CD ([]) ([]) ([])).2) != (80:Int))) rfl rfl (AA (AE (vO (((CD ([]) ([]) ([])).2) != (80:Int))) rfl (?_))))))))
 have M9:(((CD ([]) ([]) ([])).2) != (80:Int))=false:=(by decide +kernel)
 rw [M9]
 refine AW rfl (AE (vI ((CD (kL.take 1) (((BI kC kL ([(4:UInt8)])).2.1).drop 2) ([(200:UInt8)])).2)) rfl (AW rfl (CM .i64 ((CD (kL.take 1) (((BI kC kL ([(4:UInt8)])).2.1).drop 2) ([(200:UInt8)])).2) (0:Int) rfl rfl (AA (BA (vO (((CD (kL.take 1) (((BI kC kL ([(4:UInt8)])).2.1).drop 2) ([(200:UInt8)])).2) != (0:Int))) rfl rfl (AA (AE (vO (((CD (kL.take 1) (((BI kC kL ([(4:UInt8)])).2.1).drop 2) ([(200:UInt8)])).2) != (0:Int))) rfl (?_))))))))
 have N0:(((CD (kL.take 1) (((BI kC kL ([(4:UInt8)])).2.1).drop 2) ([(200:UInt8)])).2) != (0:Int))=false:=(by decide +kernel)
 rw [N0]
 refine AW rfl (AE (vI ((BO kA ((CL kC (1:Int)).2.1) kL).2)) rfl (AW rfl (CM .i64 ((BO kA ((CL kC (1:Int)).2.1) kL).2) (460:Int) rfl rfl (AA (BA (vO (((BO kA ((CL kC (1:Int)).2.1) kL).2) != (460:Int))) rfl rfl (AA (AE (vO (((BO kA ((CL kC (1:Int)).2.1) kL).2) != (460:Int))) rfl (?_))))))))
 have N1:(((BO kA ((CL kC (1:Int)).2.1) kL).2) != (460:Int))=false:=(by decide +kernel)
 rw [N1]
 refine AW rfl (AE (d3) rfl (AW rfl (BP U27_ rfl b3 (AW rfl (CM .i64 (kW.length:Int) (1:Int) rfl rfl (AA (BA (vO ((kW.length:Int) != (1:Int))) rfl rfl (AG (AB (?_))))))))))
 have N2:((kW.length:Int) != (1:Int))=false:=(by decide +kernel)
 rw [N2]
 refine AJ false rfl rfl (fun h=>by cases h) (fun _=>AR (AB (AF (AC kR (AA (AE (d6) rfl (AA (QI U26_ U5_ U9_ rfl b0 (AA (o_eqlS ((BO EC ((CL kC (1:Int)).2.1) (kL.drop 1)).1) ([7]:List UInt8) rfl rfl (AA (AE (vO (((BO EC ((CL kC (1:Int)).2.1) (kL.drop 1)).1) == ([7]:List UInt8))) rfl (?_)))))))))))))
 have N3:(((BO EC ((CL kC (1:Int)).2.1) (kL.drop 1)).1) == ([7]:List UInt8))=true:=(by decide +kernel)
 rw [N3]
 refine AW rfl (AT 0 JF rfl (AW rfl (AU U3_ rfl (vI kX.epoch) rfl a4 rfl (AW rfl (EK .i64 kX.epoch (1:Int) rfl rfl (AA (AQ (vO (kX.epoch == (1:Int))) rfl rfl (AA (AE (vO (kX.epoch == (1:Int))) rfl (?_))))))))))
 have N4:(kX.epoch == (1:Int))=true:=(by decide +kernel)
 rw [N4]
 refine AW rfl (AE (c1) rfl (AW rfl (CR U27_ DO .i64 (0:Int) 0 rfl rfl rfl a3 (by decide +kernel) fun bC N5=>(AW rfl (AY 0 HO ((((BI kC kL ([(4:UInt8)])).2.1)[0]!).epoch) rfl N5 (fun _ _ _ h=>FZ h) fun bD N6=>(AW rfl (BK U3_ rfl rfl N6 (AW rfl (EK .i64 ((((BI kC kL ([(4:UInt8)])).2.1)[0]!).epoch) (1:Int) rfl rfl (AA (AQ (vO (((((BI kC kL ([(4:UInt8)])).2.1)[0]!).epoch) == (1:Int))) rfl rfl (AA (AE (vO (((((BI kC kL ([(4:UInt8)])).2.1)[0]!).epoch) == (1:Int))) rfl (?_))))))))))))))
 have N7:(((((BI kC kL ([(4:UInt8)])).2.1)[0]!).epoch) == (1:Int))=true:=(by decide +kernel)
 rw [N7]
 refine AW rfl (AT 0 JF rfl (AW rfl (AU U3_ rfl (vI kZ.epoch) rfl b1 rfl (AW rfl (EK .i64 kZ.epoch (1:Int) rfl rfl (AA (AQ (vO (kZ.epoch == (1:Int))) rfl rfl (AA (AE (vO (kZ.epoch == (1:Int))) rfl (?_))))))))))
 have N8:(kZ.epoch == (1:Int))=true:=(by decide +kernel)
 rw [N8]
 refine AW rfl (AT 1 KP rfl (AW rfl (AU U3_ rfl (vI kZ.threshold) rfl b1 rfl (AW rfl (EK .i64 kZ.threshold (1:Int) rfl rfl (AA (AQ (vO (kZ.threshold == (1:Int))) rfl rfl (AA (AE (vO (kZ.threshold == (1:Int))) rfl (?_))))))))))
 have N9:(kZ.threshold == (1:Int))=true:=(by decide +kernel)
 rw [N9]
 refine AW rfl (AE (d3) rfl (AW rfl (CR U27_ DO .i64 (0:Int) 0 rfl rfl rfl b3 (by decide +kernel) fun bE O0=>(AW rfl (AY 4 FX ((kW[0]!).data) rfl O0 (fun _ _ _ h=>FB h) fun bF O1=>(AW rfl (BL U26_ rfl rfl O1 fun bG B3=>(?_))))))))
 have:=B3.len_le
 refine AW rfl (QI U26_ U5_ U9_ rfl B3 (AW rfl (o_eqlS ((kW[0]!).data) ([7]:List UInt8) rfl rfl (AA (AQ (vO (((kW[0]!).data) == ([7]:List UInt8))) rfl rfl (AA (AE (vO (((kW[0]!).data) == ([7]:List UInt8))) rfl (?_))))))))
 have O2:(((kW[0]!).data) == ([7]:List UInt8))=true:=(by decide +kernel)
 rw [O2]
 refine AW rfl (AE (G5) rfl (AW rfl (BP U26_ rfl B1 (AW rfl (EK .i64 (((CD (kL.take 1) (((BI kC kL ([(4:UInt8)])).2.1).drop 2) ([(200:UInt8)])).1).length:Int) (2:Int) rfl rfl (AA (AQ (vO ((((CD (kL.take 1) (((BI kC kL ([(4:UInt8)])).2.1).drop 2) ([(200:UInt8)])).1).length:Int) == (2:Int))) rfl rfl (AA (AD (vO ((((CD (kL.take 1) (((BI kC kL ([(4:UInt8)])).2.1).drop 2) ([(200:UInt8)])).1).length:Int) == (2:Int))) rfl (AG (AB (AM (AS rfl (BZ rfl rfl rfl) (?_))))))))))))))
 have e:true=((((CD (kL.take 1) (((BI kC kL ([(4:UInt8)])).2.1).drop 2) ([(200:UInt8)])).1).length:Int) == (2:Int)):=by rfl
 exact ⟨_,rfl,af.keep,(by exact congrArg vO e.symm)⟩
open Go.Fw Go.RowKit
set_option maxHeartbeats 4000000 in
set_option maxRecDepth 100000 in
theorem c_sameI {O:List Nat} (la_v:Value) (la:List Int) (lb_v:Value) (lb:List Int) (w:World) (a0:BB Enc.int w O la_v la) (a1:BB Enc.int w O lb_v lb) (hO:∀ b∈O,b<w.heap.size):CA Tryz.prog 33 [la_v,lb_v] w (fun v _=>v = .bool (FH la lb)):= by
 have b3:=a0.len_le
 have a0:BB Enc.int w ([]++O) la_v la:=a0
 have b4:=a1.len_le
 have a1:BB Enc.int w ([]++O) lb_v lb:=a1
 have s0:St w O w []:=St.start hO
 refine BE 26 Tryz.func33 rfl rfl oT (fun F0=>AF (AC kR (AA (AD (vO false) rfl (AG (AB (AF (AF (AC kR (AA (AE (la_v) rfl (AA (BP U22_ rfl a0 (AA (AE (lb_v) rfl (AA (BP U22_ rfl a1 (AA (CM .i64 (la.length:Int) (lb.length:Int) rfl rfl (AG (AB (AJ ((la.length:Int) != (lb.length:Int)) rfl rfl (fun a2=>?_) (fun a2=>?_)))))))))))))))))))))))
 ·have b5:(la.length:Int)≠(lb.length:Int):=by simpa using a2
  refine AF (AC kR (AA (AD (vO false) rfl (AG (AB (AM (AI (AS rfl (BZ rfl rfl rfl) (?_)))))))))
  have e:(FH la lb)=false:=by (unfold FH;((repeat ((refine (if_pos ?_).trans ?_;omega)));rfl))
  exact ⟨_,rfl,s0.keep,(by exact congrArg vO e.symm)⟩
 have b6:(la.length:Int)=(lb.length:Int):=by simpa using a2
 refine AR (AB (AF (AF (AC kR (AA (AD (vI 0) rfl (AG (AB (BD (DB (fun mI FI wI=>∃ (k:Nat) (B:List Nat),k≤la.length∧FH la lb=EW (fun k=>if la[k]! != lb[k]! then some false else none) true k (la.length - k)∧mI=la.length - k∧(∃ F1,FI=GD F1 [(0,la_v),(1,lb_v),(5,vI ((k:Nat):Int)),(26,undef)])∧St w O wI B∧BB Enc.int wI (B++O) (la_v) (la)∧BB Enc.int wI (B++O) (lb_v) (lb)) (la.length - (0)) ?_ ?_))))))))))
 ·exact ⟨(0),[],oM,(by unfold FH;((repeat ((refine (if_neg ?_).trans ?_;solve|(simp only [dbs];(repeat (omega))))));rfl)),rfl,⟨_,AX _ ⟨rfl,rfl,(by rfl),rfl,trivial⟩⟩,s0,a0,a1⟩
 intro c4 F b7 hI
 clear a0 a1
 obtain ⟨k,a8,hr0_0,hr0_1,c5,⟨c6,rfl⟩,b2,a0,a1⟩:=hI
 refine AF (AF (AC kR (AA (AE (vI ((k:Nat):Int)) rfl (AA (AE (la_v) rfl (AA (BP U22_ rfl a0 (AA (DQ .i64 ((k:Nat):Int) (la.length:Int) rfl rfl (AG (AB (AJ (decide (((k:Nat):Int)<(la.length:Int))) rfl rfl (fun a3=>?_) (fun a3=>?_))))))))))))))
 ·have b8:((k:Nat):Int)<(la.length:Int):=by simpa using a3
  refine AR (AB (AF (BD (AF (FK 9 _ _ kR kR kR kR kR rfl rfl fun b1 a5=>?_)))))
  have a6:=b2.call a5
  have a7:Mv a8 b7 a8 b1:=Mv.of_keep a5
  have a0:=a0.mv a7
  have a1:=a1.mv a7
  refine BU (AE (la_v) rfl (BU (AE (vI ((k:Nat):Int)) rfl (BU (CR U22_ MS .i64 ((k:Nat):Int) k rfl rfl rfl a0 oM fun c2 a9=>(BU (BK U3_ rfl rfl a9 (BU (AE (lb_v) rfl (BU (AE (vI ((k:Nat):Int)) rfl (BU (CR U22_ MS .i64 ((k:Nat):Int) k rfl rfl rfl a1 oM fun c3 b0=>(BU (BK U3_ rfl rfl b0 (BU (CM .i64 (la[k]!) (lb[k]!) rfl rfl (EO (AG (AB (AJ ((la[k]!) != (lb[k]!)) rfl rfl (fun a4=>?_) (fun a4=>?_))))))))))))))))))))))
  ·have b9:la[k]!≠lb[k]!:=by simpa using a4
   refine AF (AC kR (AA (AD (vO false) rfl (AG (AB (AM (BC (AI (AI (BC (AI (AS rfl (BZ rfl rfl rfl) (?_)))))))))))))
   have e:(FH la lb)=false:=by (rw [hr0_1];exact CP oM (by ((repeat ((refine (if_pos ?_).trans ?_;omega)));rfl)))
   exact ⟨_,rfl,a6.keep,(by exact congrArg vO e.symm)⟩
  have c0:la[k]! = lb[k]!:=by simpa using a4
  refine AR (CB (AB (AC kR (AA (AE (vI ((k:Nat):Int)) rfl (AA (DF .i64 ((k:Nat):Int) (1:Int) (((k+1:Nat):Int)) rfl rfl (GA oM oM) (AA (AD (vI ((k+1:Nat):Int)) rfl (AG (AB (?_))))))))))))
  exact ⟨_,oM,(k+1),a8,oM,(hr0_1.trans (EP oM (by ((repeat ((refine (if_neg ?_).trans ?_;solve|(simp only [dbs];(repeat (omega))))));rfl)))),rfl,⟨_,AX _ ⟨rfl,rfl,(by rfl),rfl,trivial⟩⟩,a6,a0,a1⟩
 have c1:(la.length:Int)≤((k:Nat):Int):=by simpa using a3
 refine DA (BN (BN (CO (AB (AF (AC kR (AA (AD (vO true) rfl (AG (AB (AM (AS rfl (BZ rfl rfl rfl) (?_)))))))))))))
 have e:(FH la lb)=true:=by (rw [hr0_1];exact FS oM)
 exact ⟨_,rfl,b2.keep,(by exact congrArg vO e.symm)⟩
set_option maxHeartbeats 4000000 in
set_option maxRecDepth 100000 in
theorem c_sameC {O:List Nat} (x_cs:List Value) (x:Circle) (y_cs:List Value) (y:Circle) (w:World) (f3:Enc.circle.rd w O x_cs x) (c8:Enc.circle.rd w O y_cs y) (hO:∀ b∈O,b<w.heap.size):CA Tryz.prog 12 [.agg x_cs.toArray, .agg y_cs.toArray] w (fun v _=>v = .bool (IY x y)):= by
 have f3:Enc.circle.rd w ([]++O) x_cs x:=f3
 have c8:Enc.circle.rd w ([]++O) y_cs y:=c8
 have s0:St w O w []:=St.start hO
 refine BE 96 Tryz.func12 rfl rfl oT (fun F0=>AF (AC kR (AA (DR (E:=Enc.circle) (vA x_cs.toArray) (x_cs) x rfl rfl f3 s0 fun e5 h4 h5 h6 l6 a0=>(?_)))))
 have c8:Enc.circle.rd h4 ([]++O) y_cs (y):=Enc.mv Enc.circle (x:=y) c8 h6
 refine AA (DR (E:=Enc.circle) (vA y_cs.toArray) (y_cs) y rfl rfl c8 h5 fun e6 h7 b1 h8 l7 a1=>(?_))
 have a0:=a0.mv h8
 refine AA (AD (vO false) rfl (AG (AB (AF (AF (AC kR (AA (AY 0 JF (x.epoch) rfl a0 (fun _ _ _ h=>FG h) fun l8 f4=>(AA (BK U3_ rfl rfl f4 (AA (AY 0 JF (y.epoch) rfl a1 (fun _ _ _ h=>FG h) fun l9 f5=>(AA (BK U3_ rfl rfl f5 (AA (CM .i64 x.epoch y.epoch rfl rfl (AA (AE (vO (x.epoch != y.epoch)) rfl (?_)))))))))))))))))))
 cases c9:(x.epoch != y.epoch)
 ·have j4:x.epoch=y.epoch:=by simpa using c9
  refine AW rfl (AY 1 KP (x.threshold) rfl a0 (fun _ _ _ h=>FF h) fun m0 f6=>(AW rfl (BK U3_ rfl rfl f6 (AW rfl (AY 1 KP (y.threshold) rfl a1 (fun _ _ _ h=>FF h) fun m1 f7=>(AW rfl (BK U3_ rfl rfl f7 (AW rfl (CM .i64 x.threshold y.threshold rfl rfl (AA (BA (vO (x.threshold != y.threshold)) rfl rfl (AA (AE (vO (x.threshold != y.threshold)) rfl (?_))))))))))))))
  cases d0:(x.threshold != y.threshold)
  ·have j5:x.threshold=y.threshold:=by simpa using d0
   refine AW rfl (AY 2 TA (x.wait) rfl a0 (fun _ _ _ h=>IL h) fun m2 f8=>(AW rfl (BK U3_ rfl rfl f8 (AW rfl (AY 2 TA (y.wait) rfl a1 (fun _ _ _ h=>IL h) fun m3 f9=>(AW rfl (BK U3_ rfl rfl f9 (AW rfl (CM .i64 x.wait y.wait rfl rfl (AA (BA (vO (x.wait != y.wait)) rfl rfl (AA (AE (vO (x.wait != y.wait)) rfl (?_))))))))))))))
   cases d1:(x.wait != y.wait)
   ·have j6:x.wait=y.wait:=by simpa using d1
    refine AW rfl (AY 3 JE (x.guardians) rfl a0 (fun _ _ _ h=>EA h) fun m4 g0=>(AW rfl (BL U22_ rfl rfl g0 fun e7 d2=>(?_))))
    have:=d2.len_le
    refine AW rfl (AY 3 JE (y.guardians) rfl a1 (fun _ _ _ h=>EA h) fun m5 g1=>(AW rfl (BL U22_ rfl rfl g1 fun e8 d3=>(?_))))
    have:=d3.len_le
    refine AW rfl (AZ (vs:=[e7,e8]) VG (c_sameI (O:=[]++O) e7 x.guardians e8 y.guardians h7 d2 d3 b1.lt) rfl b1 fun m6 m7 c5 e9 m9 h9=>(?_))
    obtain rfl:=h9
    have a0:=a0.mv e9
    have a1:=a1.mv e9
    refine AW rfl (EU (FH x.guardians y.guardians) rfl (AA (BA (vO (!(FH x.guardians y.guardians))) rfl rfl (AA (AE (vO (!(FH x.guardians y.guardians))) rfl (?_))))))
    cases d4:(!(FH x.guardians y.guardians))
    ·have j7:(FH x.guardians y.guardians)=true:=by simpa using d4
     refine AW rfl (AY 4 DL (x.recs) rfl a0 (fun _ _ _ h=>BX h) fun n2 g2=>(AW rfl (BL U23_ rfl rfl g2 fun n3 d5=>(?_))))
     have:=d5.len_le
     refine AW rfl (BP U23_ rfl d5 (AW rfl (AY 4 DL (y.recs) rfl a1 (fun _ _ _ h=>BX h) fun n4 g3=>(AW rfl (BL U23_ rfl rfl g3 fun n5 d6=>(?_))))))
     have:=d6.len_le
     refine AW rfl (BP U23_ rfl d6 (AW rfl (CM .i64 (x.recs.length:Int) (y.recs.length:Int) rfl rfl (AA (BA (vO ((x.recs.length:Int) != (y.recs.length:Int))) rfl rfl (AG (AB (AJ ((x.recs.length:Int) != (y.recs.length:Int)) rfl rfl (fun c0=>?_) (fun c0=>?_)))))))))
     ·have j8:(x.recs.length:Int)≠(y.recs.length:Int):=by simpa using c0
      refine AF (AC kR (AA (AD (vO false) rfl (AG (AB (AM (AI (AS rfl (BZ rfl rfl rfl) (?_)))))))))
      have e:(IY x y)=false:=by (unfold IY;((repeat ((refine (if_pos ?_).trans ?_;solve|(simp only [FM,GX,dbs];(repeat (omega))))));rfl))
      exact ⟨_,rfl,c5.keep,(by exact congrArg vO e.symm)⟩
     have j9:(x.recs.length:Int)=(y.recs.length:Int):=by simpa using c0
     refine AR (AB (AF (AF (AC kR (AA (AD (vI 0) rfl (AG (AB (BD (DB (fun mI FI wI=>∃ (k:Nat) (B:List Nat),k≤x.recs.length∧IY x y=EW (fun k=>if GX x.recs[k]! y.recs[k]! then some false else none) true k (x.recs.length - k)∧mI=x.recs.length - k∧(∃ F1,FI=GD F1 [(2,vP (some e5)),(3,vP (some e6)),(5,vI ((k:Nat):Int)),(96,undef)])∧St w O wI B∧PT Enc.circle wI (B++O) (.pointer (some e5)) (x)∧PT Enc.circle wI (B++O) (.pointer (some e6)) (y)) (x.recs.length - (0)) ?_ ?_))))))))))
     ·exact ⟨(0),[],oM,(by unfold IY;((repeat ((refine (if_neg ?_).trans ?_;solve|(simp only [FM,GX,dbs];(repeat (first|omega|assumption|(right;first|omega|assumption|(constructor <;> first|omega|assumption))|left)))|(rw [Bool.not_eq_true];simp only [FM,GX,dbs];((repeat' apply And.intro) <;> omega)))));rfl)),rfl,⟨_,AX _ ⟨rfl,rfl,(by rfl),rfl,trivial⟩⟩,c5,a0,a1⟩
     intro p2 F p3 hI
     clear a0 a1
     obtain ⟨k,d7,hr0_0,hr0_1,p4,⟨p5,rfl⟩,j3,a0,a1⟩:=hI
     refine AF (AF (AC kR (AA (AE (vI ((k:Nat):Int)) rfl (AA (AY 4 DL (x.recs) rfl a0 (fun _ _ _ h=>BX h) fun n6 g4=>(AA (BL U23_ rfl rfl g4 fun n7 d8=>(?_)))))))))
     have:=d8.len_le
     refine AA (BP U23_ rfl d8 (AA (DQ .i64 ((k:Nat):Int) (x.recs.length:Int) rfl rfl (AG (AB (AJ (decide (((k:Nat):Int)<(x.recs.length:Int))) rfl rfl (fun c1=>?_) (fun c1=>?_)))))))
     ·have k0:((k:Nat):Int)<(x.recs.length:Int):=by simpa using c1
      refine AR (AB (AF (BD (AF (AC kR (AA (AY 4 DL (x.recs) rfl a0 (fun _ _ _ h=>BX h) fun n9 g5=>(AA (BL U23_ rfl rfl g5 fun o0 d9=>(?_))))))))))
      have:=d9.len_le
      refine AA (AE (vI ((k:Nat):Int)) rfl (AA (CR U23_ GM .i64 ((k:Nat):Int) k rfl rfl rfl d9 oM fun o1 g6=>(AA (CJ U59_ rfl GM rfl g6 fun g7 c2=>(AA (CZ [vI 0,vI 0,vI 0,nS,nS] NA rfl j3 fun a7 i0 i1 i2 c6 o2 g8=>(?_))))))))
      clear i1
      have a0:=a0.mv c6
      have a1:=a1.mv c6
      have c2:Enc.recovery.rd i0 ((a7 :: d7)++O) g7 (x.recs[k]!):=Enc.mv Enc.recovery (x:=x.recs[k]!) c2 c6
      obtain ⟨b2,b3,rfl,a4,a3⟩:=c2
      have:=a4.len_le
      have:=a3.len_le
      refine CC (BF (vs:=[vI ((x.recs[k]!).no),vI ((x.recs[k]!).asked),vI ((x.recs[k]!).state),b2,b3]) (.agg #[vI ((x.recs[k]!).no),vI ((x.recs[k]!).asked),vI ((x.recs[k]!).state),b2,b3]) rfl rfl rfl GM (fun u hu=>by simp only [List.mem_cons,List.not_mem_nil,or_false] at hu;rcases hu with rfl|rfl|rfl|rfl|rfl <;> first|rfl|exact a4.oneCell|exact a3.oneCell) (by repeat (constructor)) g8 oT i2 fun o3 i3 b8 o4 a2=>(?_))
      have a0:=a0.mv b8
      have a1:=a1.mv b8
      have a4:=a4.mv b8
      have a3:=a3.mv b8
      refine AG (AB (AF (AC kR (AA (AY 4 DL (y.recs) rfl a1 (fun _ _ _ h=>BX h) fun o5 g9=>(AA (BL U23_ rfl rfl g9 fun o6 e0=>(?_))))))))
      have:=e0.len_le
      refine AA (AE (vI ((k:Nat):Int)) rfl (AA (CR U23_ GM .i64 ((k:Nat):Int) k rfl rfl rfl e0 oM fun o7 h0=>(AA (CJ U59_ rfl GM rfl h0 fun h1 c3=>(AA (CZ [vI 0,vI 0,vI 0,nS,nS] NA rfl i3 fun a9 i4 i5 i6 b4 i7 h2=>(?_))))))))
      have h3:HD a7 a9:=by show a7≠a9;have:=a2.lt;omega
      clear i5
      have a0:=a0.mv b4
      have a1:=a1.mv b4
      have a4:=a4.mv b4
      have a3:=a3.mv b4
      have c3:Enc.recovery.rd i4 ((a9 :: (a7 :: d7))++O) h1 (y.recs[k]!):=Enc.mv Enc.recovery (x:=y.recs[k]!) c3 b4
      have a2:=a2.keep i7 (by simp)
      obtain ⟨b5,b6,rfl,a8,a5⟩:=c3
      have:=a8.len_le
      have:=a5.len_le
      refine CC (BF (vs:=[vI ((y.recs[k]!).no),vI ((y.recs[k]!).asked),vI ((y.recs[k]!).state),b5,b6]) (.agg #[vI ((y.recs[k]!).no),vI ((y.recs[k]!).asked),vI ((y.recs[k]!).state),b5,b6]) rfl rfl rfl GM (fun u hu=>by simp only [List.mem_cons,List.not_mem_nil,or_false] at hu;rcases hu with rfl|rfl|rfl|rfl|rfl <;> first|rfl|exact a8.oneCell|exact a5.oneCell) (by repeat (constructor)) h2 oT i6 fun i8 b7 b0 i9 a6=>(?_))
      have a0:=a0.mv b0
      have a1:=a1.mv b0
      have a4:=a4.mv b0
      have a3:=a3.mv b0
      have a8:=a8.mv b0
      have a5:=a5.mv b0
      have a2:=a2.keep i9 (BH h3)
      refine AG (AB (AF (AC kR (AA (AT 0 RC rfl (AA (AU U3_ rfl (vI ((x.recs[k]!).no)) rfl a2 rfl (AA (AT 0 RC rfl (AA (AU U3_ rfl (vI ((y.recs[k]!).no)) rfl a6 rfl (AA (CM .i64 ((x.recs[k]!).no) ((y.recs[k]!).no) rfl rfl (AA (AE (vO (((x.recs[k]!).no) != ((y.recs[k]!).no))) rfl (?_))))))))))))))))
      cases e1:(((x.recs[k]!).no) != ((y.recs[k]!).no))
      ·have k1:(x.recs[k]!).no=(y.recs[k]!).no:=by simpa using e1
       refine AW rfl (AT 1 JD rfl (AW rfl (AU U3_ rfl (vI ((x.recs[k]!).asked)) rfl a2 rfl (AW rfl (AT 1 JD rfl (AW rfl (AU U3_ rfl (vI ((y.recs[k]!).asked)) rfl a6 rfl (AW rfl (CM .i64 ((x.recs[k]!).asked) ((y.recs[k]!).asked) rfl rfl (AA (BA (vO (((x.recs[k]!).asked) != ((y.recs[k]!).asked))) rfl rfl (AA (AE (vO (((x.recs[k]!).asked) != ((y.recs[k]!).asked))) rfl (?_))))))))))))))
       cases e2:(((x.recs[k]!).asked) != ((y.recs[k]!).asked))
       ·have k2:(x.recs[k]!).asked=(y.recs[k]!).asked:=by simpa using e2
        refine AW rfl (AT 2 HN rfl (AW rfl (AU U3_ rfl (vI ((x.recs[k]!).state)) rfl a2 rfl (AW rfl (AT 2 HN rfl (AW rfl (AU U3_ rfl (vI ((y.recs[k]!).state)) rfl a6 rfl (AW rfl (CM .i64 ((x.recs[k]!).state) ((y.recs[k]!).state) rfl rfl (AA (BA (vO (((x.recs[k]!).state) != ((y.recs[k]!).state))) rfl rfl (AA (AE (vO (((x.recs[k]!).state) != ((y.recs[k]!).state))) rfl (?_))))))))))))))
        cases e3:(((x.recs[k]!).state) != ((y.recs[k]!).state))
        ·have k3:(x.recs[k]!).state=(y.recs[k]!).state:=by simpa using e3
         refine AW rfl (AT 3 MA rfl (AW rfl (AU U22_ rfl (b2) rfl a2 rfl (AW rfl (AT 3 MA rfl (AW rfl (AU U22_ rfl (b5) rfl a6 rfl (AW rfl (AZ (vs:=[b2,b5]) VG (c_sameI (O:=(a9 :: (a7 :: d7))++O) b2 ((x.recs[k]!).approved) b5 ((y.recs[k]!).approved) i8 a4 a8 b7.lt) rfl b7 fun o8 j0 c7 b9 f0 j1=>(?_))))))))))
         obtain rfl:=j1
         have a0:=a0.mv b9
         have a1:=a1.mv b9
         have a3:=a3.mv b9
         have a5:=a5.mv b9
         have a2:=a2.keep f0 (by simp)
         have a6:=a6.keep f0 (by simp)
         refine AW rfl (EU (FH ((x.recs[k]!).approved) ((y.recs[k]!).approved)) rfl (AA (BA (vO (!(FH ((x.recs[k]!).approved) ((y.recs[k]!).approved)))) rfl rfl (AA (AE (vO (!(FH ((x.recs[k]!).approved) ((y.recs[k]!).approved)))) rfl (?_))))))
         cases e4:(!(FH ((x.recs[k]!).approved) ((y.recs[k]!).approved)))
         ·have k4:(FH ((x.recs[k]!).approved) ((y.recs[k]!).approved))=true:=by simpa using e4
          refine AW rfl (AT 4 LK rfl (AW rfl (AU U22_ rfl (b3) rfl a2 rfl (AW rfl (AT 4 LK rfl (AW rfl (AU U22_ rfl (b6) rfl a6 rfl (AW rfl (AZ (vs:=[b3,b6]) VG (c_sameI (O:=(a9 :: (a7 :: d7))++O) b3 ((x.recs[k]!).vetoed) b6 ((y.recs[k]!).vetoed) j0 a3 a5 c7.lt) rfl c7 fun o9 p0 f1 f2 p1 j2=>(?_))))))))))
          obtain rfl:=j2
          have a0:=a0.mv f2
          have a1:=a1.mv f2
          refine AW rfl (EU (FH ((x.recs[k]!).vetoed) ((y.recs[k]!).vetoed)) rfl (AA (BA (vO (!(FH ((x.recs[k]!).vetoed) ((y.recs[k]!).vetoed)))) rfl rfl (AG (AB (AJ (!(FH ((x.recs[k]!).vetoed) ((y.recs[k]!).vetoed))) rfl rfl (fun c4=>?_) (fun c4=>?_)))))))
          ·have k5:(FH ((x.recs[k]!).vetoed) ((y.recs[k]!).vetoed))=false:=by simpa using c4
           refine AF (AC kR (AA (AD (vO false) rfl (AG (AB (AM (BC (AI (AI (BC (AI (AS rfl (BZ rfl rfl rfl) (?_)))))))))))))
           have e:(IY x y)=false:=by (rw [hr0_1];exact CP oM (by ((repeat ((refine (if_pos ?_).trans ?_;solve|(simp only [FM,GX,dbs];(repeat ((right;omega)))))));rfl)))
           exact ⟨_,rfl,f1.keep,(by exact congrArg vO e.symm)⟩
          have k6:(FH ((x.recs[k]!).vetoed) ((y.recs[k]!).vetoed))=true:=by simpa using c4
          refine AR (CB (AB (AC kR (AA (AE (vI ((k:Nat):Int)) rfl (AA (DF .i64 ((k:Nat):Int) (1:Int) (((k+1:Nat):Int)) rfl rfl (GA oM oM) (AA (AD (vI ((k+1:Nat):Int)) rfl (AG (AB (?_))))))))))))
          exact ⟨_,oM,(k+1),(a9 :: (a7 :: d7)),oM,(hr0_1.trans (EP oM (by ((repeat ((refine (if_neg ?_).trans ?_;solve|(simp only [FM,GX,dbs];(repeat (first|omega|assumption|(right;first|omega|assumption|(constructor <;> first|omega|assumption))|left)))|(rw [Bool.not_eq_true];simp only [FM,GX,dbs];((repeat' apply And.intro) <;> omega)))));rfl)))),rfl,⟨_,AX _ ⟨rfl,rfl,(by rfl),rfl,trivial⟩⟩,f1,a0,a1⟩
         have k7:(FH ((x.recs[k]!).approved) ((y.recs[k]!).approved))=false:=by simpa using e4
         refine AL rfl (AL rfl (AL rfl (AL rfl (AL rfl (AL rfl (AA (AQ (vO true) rfl rfl (AG (AB (AJ true rfl rfl (fun _=>AF (AC kR (AA (AD (vO false) rfl (AG (AB (AM (BC (AI (AI (BC (AI (AS rfl (BZ rfl rfl rfl) (?_)))))))))))))) (fun h=>by cases h)))))))))))
         have e:(IY x y)=false:=by (rw [hr0_1];exact CP oM (by ((repeat ((refine (if_pos ?_).trans ?_;solve|(simp only [FM,GX,dbs];(repeat (first|(right;omega)|left))))));rfl)))
         exact ⟨_,rfl,c7.keep,(by exact congrArg vO e.symm)⟩
        have k8:(x.recs[k]!).state≠(y.recs[k]!).state:=by simpa using e3
        refine AL rfl (AL rfl (AL rfl (AL rfl (AL rfl (AL rfl (AA (AQ (vO true) rfl rfl (AA (AE (vO true) rfl (AL rfl (AL rfl (AL rfl (AL rfl (AL rfl (AL rfl (AA (AQ (vO true) rfl rfl (AG (AB (AJ true rfl rfl (fun _=>AF (AC kR (AA (AD (vO false) rfl (AG (AB (AM (BC (AI (AI (BC (AI (AS rfl (BZ rfl rfl rfl) (?_)))))))))))))) (fun h=>by cases h)))))))))))))))))))))
        have e:(IY x y)=false:=by (rw [hr0_1];exact CP oM (by ((repeat ((refine (if_pos ?_).trans ?_;solve|(simp only [FM,GX,dbs];(repeat (omega))))));rfl)))
        exact ⟨_,rfl,b7.keep,(by exact congrArg vO e.symm)⟩
       have k9:(x.recs[k]!).asked≠(y.recs[k]!).asked:=by simpa using e2
       refine AL rfl (AL rfl (AL rfl (AL rfl (AL rfl (AA (AQ (vO true) rfl rfl (AA (AE (vO true) rfl (AL rfl (AL rfl (AL rfl (AL rfl (AL rfl (AL rfl (AA (AQ (vO true) rfl rfl (AA (AE (vO true) rfl (AL rfl (AL rfl (AL rfl (AL rfl (AL rfl (AL rfl (AA (AQ (vO true) rfl rfl (AG (AB (AJ true rfl rfl (fun _=>AF (AC kR (AA (AD (vO false) rfl (AG (AB (AM (BC (AI (AI (BC (AI (AS rfl (BZ rfl rfl rfl) (?_)))))))))))))) (fun h=>by cases h))))))))))))))))))))))))))))))
       have e:(IY x y)=false:=by (rw [hr0_1];exact CP oM (by ((repeat ((refine (if_pos ?_).trans ?_;solve|(simp only [FM,GX,dbs];(repeat (omega))))));rfl)))
       exact ⟨_,rfl,b7.keep,(by exact congrArg vO e.symm)⟩
      have l0:(x.recs[k]!).no≠(y.recs[k]!).no:=by simpa using e1
      refine AL rfl (AL rfl (AL rfl (AL rfl (AL rfl (AA (AQ (vO true) rfl rfl (AA (AE (vO true) rfl (AL rfl (AL rfl (AL rfl (AL rfl (AL rfl (AA (AQ (vO true) rfl rfl (AA (AE (vO true) rfl (AL rfl (AL rfl (AL rfl (AL rfl (AL rfl (AL rfl (AA (AQ (vO true) rfl rfl (AA (AE (vO true) rfl (AL rfl (AL rfl (AL rfl (AL rfl (AL rfl (AL rfl (AA (AQ (vO true) rfl rfl (AG (AB (AJ true rfl rfl (fun _=>AF (AC kR (AA (AD (vO false) rfl (AG (AB (AM (BC (AI (AI (BC (AI (AS rfl (BZ rfl rfl rfl) (?_)))))))))))))) (fun h=>by cases h)))))))))))))))))))))))))))))))))))))))
      have e:(IY x y)=false:=by (rw [hr0_1];exact CP oM (by ((repeat ((refine (if_pos ?_).trans ?_;solve|(simp only [FM,GX,dbs];(repeat (omega))))));rfl)))
      exact ⟨_,rfl,b7.keep,(by exact congrArg vO e.symm)⟩
     have l1:(x.recs.length:Int)≤((k:Nat):Int):=by simpa using c1
     refine DA (BN (BN (CO (AB (AF (AC kR (AA (AD (vO true) rfl (AG (AB (AM (AS rfl (BZ rfl rfl rfl) (?_)))))))))))))
     have e:(IY x y)=true:=by (rw [hr0_1];exact FS oM)
     exact ⟨_,rfl,j3.keep,(by exact congrArg vO e.symm)⟩
    have l2:(FH x.guardians y.guardians)=false:=by simpa using d4
    refine AL rfl (AL rfl (AL rfl (AL rfl (AL rfl (AL rfl (AL rfl (AA (AQ (vO true) rfl rfl (AG (AB (AJ true rfl rfl (fun _=>AF (AC kR (AA (AD (vO false) rfl (AG (AB (AM (AI (AS rfl (BZ rfl rfl rfl) (?_)))))))))) (fun h=>by cases h))))))))))))
    have e:(IY x y)=false:=by (unfold IY;((repeat ((refine (if_pos ?_).trans ?_;solve|(simp only [FM,GX,dbs];(repeat (first|(right;omega)|left))))));rfl))
    exact ⟨_,rfl,c5.keep,(by exact congrArg vO e.symm)⟩
   have l3:x.wait≠y.wait:=by simpa using d1
   refine AL rfl (AL rfl (AL rfl (AL rfl (AL rfl (AL rfl (AA (AQ (vO true) rfl rfl (AA (AE (vO true) rfl (AL rfl (AL rfl (AL rfl (AL rfl (AL rfl (AL rfl (AL rfl (AA (AQ (vO true) rfl rfl (AG (AB (AJ true rfl rfl (fun _=>AF (AC kR (AA (AD (vO false) rfl (AG (AB (AM (AI (AS rfl (BZ rfl rfl rfl) (?_)))))))))) (fun h=>by cases h))))))))))))))))))))))
   have e:(IY x y)=false:=by (unfold IY;((repeat ((refine (if_pos ?_).trans ?_;solve|(simp only [FM,GX,dbs];(repeat (omega))))));rfl))
   exact ⟨_,rfl,b1.keep,(by exact congrArg vO e.symm)⟩
  have l4:x.threshold≠y.threshold:=by simpa using d0
  refine AL rfl (AL rfl (AL rfl (AL rfl (AL rfl (AA (AQ (vO true) rfl rfl (AA (AE (vO true) rfl (AL rfl (AL rfl (AL rfl (AL rfl (AL rfl (AL rfl (AA (AQ (vO true) rfl rfl (AA (AE (vO true) rfl (AL rfl (AL rfl (AL rfl (AL rfl (AL rfl (AL rfl (AL rfl (AA (AQ (vO true) rfl rfl (AG (AB (AJ true rfl rfl (fun _=>AF (AC kR (AA (AD (vO false) rfl (AG (AB (AM (AI (AS rfl (BZ rfl rfl rfl) (?_)))))))))) (fun h=>by cases h)))))))))))))))))))))))))))))))
  have e:(IY x y)=false:=by (unfold IY;((repeat ((refine (if_pos ?_).trans ?_;solve|(simp only [FM,GX,dbs];(repeat (omega))))));rfl))
  exact ⟨_,rfl,b1.keep,(by exact congrArg vO e.symm)⟩
 have l5:x.epoch≠y.epoch:=by simpa using c9
 refine AL rfl (AL rfl (AL rfl (AL rfl (AL rfl (AA (AQ (vO true) rfl rfl (AA (AE (vO true) rfl (AL rfl (AL rfl (AL rfl (AL rfl (AL rfl (AA (AQ (vO true) rfl rfl (AA (AE (vO true) rfl (AL rfl (AL rfl (AL rfl (AL rfl (AL rfl (AL rfl (AA (AQ (vO true) rfl rfl (AA (AE (vO true) rfl (AL rfl (AL rfl (AL rfl (AL rfl (AL rfl (AL rfl (AL rfl (AA (AQ (vO true) rfl rfl (AG (AB (AJ true rfl rfl (fun _=>AF (AC kR (AA (AD (vO false) rfl (AG (AB (AM (AI (AS rfl (BZ rfl rfl rfl) (?_)))))))))) (fun h=>by cases h))))))))))))))))))))))))))))))))))))))))
 have e:(IY x y)=false:=by (unfold IY;((repeat ((refine (if_pos ?_).trans ?_;solve|(simp only [FM,GX,dbs];(repeat (omega))))));rfl))
 exact ⟨_,rfl,b1.keep,(by exact congrArg vO e.symm)⟩
set_option maxHeartbeats 4000000 in
set_option maxRecDepth 100000 in
theorem c_few {O:List Nat} (c_cs:List Value) (c:Circle) (w:World) (b3:Enc.circle.rd w O c_cs c) (hO:∀ b∈O,b<w.heap.size):CA Tryz.prog 22 [.agg c_cs.toArray] w (fun v _=>v = .bool (OU c)):= by
 have b3:Enc.circle.rd w ([]++O) c_cs c:=b3
 have s0:St w O w []:=St.start hO
 refine BE 39 Tryz.func22 rfl rfl oT (fun F0=>AF (AC kR (AA (DR (E:=Enc.circle) (vA c_cs.toArray) (c_cs) c rfl rfl b3 s0 fun c3 c4 a1 d3 d4 a0=>(AA (AD (vO false) rfl (AG (AB (AF (AF (AC kR (AA (AD (vI 0) rfl (AG (AB (BD (DB (fun mI FI wI=>∃ (k:Nat),k≤c.recs.length∧OU c=EW (fun k=>if VQ c k then some false else none) (decide ((c.guardians.length:Int)≤12) && decide ((c.recs.length:Int)≤20)) k (c.recs.length - k)∧mI=c.recs.length - k∧(∃ F1,FI=GD F1 [(1,vP (some c3)),(3,vI ((k:Nat):Int)),(39,undef)])∧c4=wI) (c.recs.length - (0)) ?_ ?_)))))))))))))))))
 ·exact ⟨(0),oM,rfl,rfl,⟨_,AX _ ⟨rfl,(by rfl),rfl,trivial⟩⟩,rfl⟩
 rintro f1 F f2 ⟨k,hr0_0,hr0_1,f3,⟨f4,rfl⟩,rfl⟩
 refine AF (AF (AC kR (AA (AE (vI ((k:Nat):Int)) rfl (AA (AY 4 DL (c.recs) rfl a0 (fun _ _ _ h=>BX h) fun d5 b4=>(AA (BL U23_ rfl rfl b4 fun d6 a4=>(?_)))))))))
 have:=a4.len_le
 refine AA (BP U23_ rfl a4 (AA (DQ .i64 ((k:Nat):Int) (c.recs.length:Int) rfl rfl (AG (AB (AJ (decide (((k:Nat):Int)<(c.recs.length:Int))) rfl rfl (fun a2=>?_) (fun a2=>?_)))))))
 ·have c5:((k:Nat):Int)<(c.recs.length:Int):=by simpa using a2
  refine AR (AB (AF (BD (AF (AC kR (AA (AY 4 DL (c.recs) rfl a0 (fun _ _ _ h=>BX h) fun d7 b5=>(AA (BL U23_ rfl rfl b5 fun d8 a5=>(?_))))))))))
  have:=a5.len_le
  refine AA (AE (vI ((k:Nat):Int)) rfl (AA (CR U23_ GM .i64 ((k:Nat):Int) k rfl rfl rfl a5 oM fun d9 b6=>(AA (AY 3 MA ((c.recs[k]!).approved) rfl b6 (fun _ _ _ h=>LL h) fun e0 b7=>(AA (BL U22_ rfl rfl b7 fun e1 a6=>(?_))))))))
  have:=a6.len_le
  refine AA (BP U22_ rfl a6 (AA (FN .i64 (((c.recs[k]!).approved).length:Int) (20:Int) rfl rfl (AA (AE (vO (decide ((20:Int)<(((c.recs[k]!).approved).length:Int)))) rfl (?_))))))
  cases a7:(decide ((20:Int)<(((c.recs[k]!).approved).length:Int)))
  ·have c6:(((c.recs[k]!).approved).length:Int)≤(20:Int):=by simpa using a7
   refine AW rfl (AY 4 DL (c.recs) rfl a0 (fun _ _ _ h=>BX h) fun e2 b8=>(AW rfl (BL U23_ rfl rfl b8 fun e3 a8=>(?_))))
   have:=a8.len_le
   refine AW rfl (AE (vI ((k:Nat):Int)) rfl (AW rfl (CR U23_ GM .i64 ((k:Nat):Int) k rfl rfl rfl a8 oM fun e4 b9=>(AW rfl (AY 4 LK ((c.recs[k]!).vetoed) rfl b9 (fun _ _ _ h=>JJ h) fun e5 c0=>(AW rfl (BL U22_ rfl rfl c0 fun e6 a9=>(?_))))))))
   have:=a9.len_le
   refine AW rfl (BP U22_ rfl a9 (AW rfl (FN .i64 (((c.recs[k]!).vetoed).length:Int) (20:Int) rfl rfl (AA (BA (vO (decide ((20:Int)<(((c.recs[k]!).vetoed).length:Int)))) rfl rfl (AG (AB (AJ (decide ((20:Int)<(((c.recs[k]!).vetoed).length:Int))) rfl rfl (fun a3=>?_) (fun a3=>?_)))))))))
   ·have c7:(20:Int)<(((c.recs[k]!).vetoed).length:Int):=by simpa using a3
    refine AF (AC kR (AA (AD (vO false) rfl (AG (AB (AM (BC (AI (AI (BC (AI (AS rfl (BZ rfl rfl rfl) (?_)))))))))))))
    have e:(OU c)=false:=by (rw [hr0_1];exact CP oM (by ((repeat ((refine (if_pos ?_).trans ?_;solve|(simp only [VQ,dbs];(repeat (omega))))));rfl)))
    exact ⟨_,rfl,a1.keep,(by exact congrArg vO e.symm)⟩
   have c8:(((c.recs[k]!).vetoed).length:Int)≤(20:Int):=by simpa using a3
   refine AR (CB (AB (AC kR (AA (AE (vI ((k:Nat):Int)) rfl (AA (DF .i64 ((k:Nat):Int) (1:Int) (((k+1:Nat):Int)) rfl rfl (GA oM oM) (AA (AD (vI ((k+1:Nat):Int)) rfl (AG (AB (?_))))))))))))
   exact ⟨_,oM,(k+1),oM,(hr0_1.trans (EP oM (by ((repeat ((refine (if_neg ?_).trans ?_;solve|(simp only [VQ,dbs];(repeat (omega))))));rfl)))),rfl,⟨_,AX _ ⟨rfl,(by rfl),rfl,trivial⟩⟩,rfl⟩
  have c9:(20:Int)<(((c.recs[k]!).approved).length:Int):=by simpa using a7
  refine AL rfl (AL rfl (AL rfl (AL rfl (AL rfl (AL rfl (AL rfl (AL rfl (AA (AQ (vO true) rfl rfl (AG (AB (AJ true rfl rfl (fun _=>AF (AC kR (AA (AD (vO false) rfl (AG (AB (AM (BC (AI (AI (BC (AI (AS rfl (BZ rfl rfl rfl) (?_)))))))))))))) (fun h=>by cases h)))))))))))))
  have e:(OU c)=false:=by (rw [hr0_1];exact CP oM (by ((repeat ((refine (if_pos ?_).trans ?_;solve|(simp only [VQ,dbs];(repeat (omega))))));rfl)))
  exact ⟨_,rfl,a1.keep,(by exact congrArg vO e.symm)⟩
 have d0:(c.recs.length:Int)≤((k:Nat):Int):=by simpa using a2
 refine DA (BN (BN (CO (AB (AF (AC kR (AA (AY 3 JE (c.guardians) rfl a0 (fun _ _ _ h=>EA h) fun e7 c1=>(AA (BL U22_ rfl rfl c1 fun e8 b0=>(?_)))))))))))
 have:=b0.len_le
 refine AA (BP U22_ rfl b0 (AA (UA .i64 (c.guardians.length:Int) (12:Int) rfl rfl (AA (AE (vO (decide ((c.guardians.length:Int)≤(12:Int)))) rfl (?_))))))
 cases b1:(decide ((c.guardians.length:Int)≤(12:Int)))
 ·have d1:(12:Int)<(c.guardians.length:Int):=by simpa using b1
  refine AL rfl (AL rfl (AL rfl (AL rfl (AA (BA (vO false) rfl rfl (AA (AD (vO false) rfl (AG (AB (AM (AS rfl (BZ rfl rfl rfl) (?_))))))))))))
  have e:(OU c)=false:=by (rw [hr0_1,FS oM];simp [*])
  exact ⟨_,rfl,a1.keep,(by exact congrArg vO e.symm)⟩
 have d2:(c.guardians.length:Int)≤(12:Int):=by simpa using b1
 refine AW rfl (AY 4 DL (c.recs) rfl a0 (fun _ _ _ h=>BX h) fun e9 c2=>(AW rfl (BL U23_ rfl rfl c2 fun f0 b2=>(?_))))
 have:=b2.len_le
 refine AW rfl (BP U23_ rfl b2 (AW rfl (UA .i64 (c.recs.length:Int) (20:Int) rfl rfl (AA (AQ (vO (decide ((c.recs.length:Int)≤(20:Int)))) rfl rfl (AA (AD (vO (decide ((c.recs.length:Int)≤(20:Int)))) rfl (AG (AB (AM (AS rfl (BZ rfl rfl rfl) (?_))))))))))))
 have e:(OU c)=(decide ((c.recs.length:Int)≤(20:Int))):=by (rw [hr0_1,FS oM];simp [*])
 exact ⟨_,rfl,a1.keep,(by exact congrArg vO e.symm)⟩
open Go.Fw Go.RowKit
set_option maxHeartbeats 4000000 in
set_option maxRecDepth 100000 in
theorem c_refAlike {O:List Nat} (l_v:Value) (l:List Share) (w:World) (a2:BB Enc.share w O l_v l) (hO:∀ b∈O,b<w.heap.size):CA Tryz.prog 96 [l_v] w (fun v _=>v = .bool (DJ l)):= by
 have f5:=a2.len_le
 have a2:BB Enc.share w ([]++O) l_v l:=a2
 have s0:St w O w []:=St.start hO
 refine BE 91 Tryz.func96 rfl rfl oT (fun F0=>AF (AC kR (AA (AD (vO false) rfl (AG (AB (AF (AF (AC kR (AA (AE (l_v) rfl (AA (BP U27_ rfl a2 (AA (EK .i64 (l.length:Int) (0:Int) rfl rfl (AG (AB (AJ ((l.length:Int) == (0:Int)) rfl rfl (fun b0=>?_) (fun b0=>?_)))))))))))))))))))
 ·have f6:(l.length:Int)=(0:Int):=by simpa using b0
  refine AF (AC kR (AA (AD (vO false) rfl (AG (AB (AM (AI (AS rfl (BZ rfl rfl rfl) (?_)))))))))
  have e:(DJ l)=false:=by (unfold DJ;((repeat ((refine (if_pos ?_).trans ?_;omega)));rfl))
  exact ⟨_,rfl,s0.keep,(by exact congrArg vO e.symm)⟩
 have f7:(l.length:Int)≠(0:Int):=by simpa using b0
 refine AR (AB (AF (AC kR (AA (AE (l_v) rfl (AA (CR U27_ DO .i64 (0:Int) 0 rfl rfl rfl a2 oM fun i2 d3=>(AA (CJ U49_ rfl DO rfl d3 fun d4 b1=>(AA (CZ [vI 0,vI 0,vI 0,vI 0,nS] NH rfl s0 fun a6 e3 e4 e5 d1 i3 d5=>(?_))))))))))))
 clear e4
 have a2:=a2.mv d1
 have b1:Enc.share.rd e3 ((a6 :: [])++O) d4 (l[0]!):=Enc.mv Enc.share (x:=l[0]!) b1 d1
 obtain ⟨a8,rfl,a1⟩:=b1
 have:=a1.len_le
 refine CC (BF (vs:=[vI ((l[0]!).epoch),vI ((l[0]!).index),vI ((l[0]!).threshold),vI ((l[0]!).many),a8]) (.agg #[vI ((l[0]!).epoch),vI ((l[0]!).index),vI ((l[0]!).threshold),vI ((l[0]!).many),a8]) rfl rfl rfl DO (fun u hu=>by simp only [List.mem_cons,List.not_mem_nil,or_false] at hu;rcases hu with rfl|rfl|rfl|rfl|rfl <;> first|rfl|exact a1.oneCell) (by repeat (constructor)) d5 oT e5 fun i4 a9 d2 i5 a0=>(?_))
 have a2:=a2.mv d2
 have a1:=a1.mv d2
 refine AG (AB (AF (AF (AC kR (AA (AT 2 HP rfl (AA (AU U3_ rfl (vI ((l[0]!).threshold)) rfl a0 rfl (AA (DQ .i64 ((l[0]!).threshold) (1:Int) rfl rfl (AA (AE (vO (decide ((l[0]!).threshold<(1:Int)))) rfl (?_)))))))))))))
 cases c2:(decide ((l[0]!).threshold<(1:Int)))
 ·have f8:(1:Int)≤(l[0]!).threshold:=by simpa using c2
  refine AW rfl (AT 2 HP rfl (AW rfl (AU U3_ rfl (vI ((l[0]!).threshold)) rfl a0 rfl (AW rfl (AT 3 HW rfl (AW rfl (AU U3_ rfl (vI ((l[0]!).many)) rfl a0 rfl (AW rfl (FN .i64 ((l[0]!).threshold) ((l[0]!).many) rfl rfl (AA (BA (vO (decide ((l[0]!).many<(l[0]!).threshold))) rfl rfl (AA (AE (vO (decide ((l[0]!).many<(l[0]!).threshold))) rfl (?_))))))))))))))
  cases c3:(decide ((l[0]!).many<(l[0]!).threshold))
  ·have f9:(l[0]!).threshold≤(l[0]!).many:=by simpa using c3
   refine AW rfl (AT 3 HW rfl (AW rfl (AU U3_ rfl (vI ((l[0]!).many)) rfl a0 rfl (AW rfl (FN .i64 ((l[0]!).many) (8:Int) rfl rfl (AA (BA (vO (decide ((8:Int)<(l[0]!).many))) rfl rfl (AA (AE (vO (decide ((8:Int)<(l[0]!).many))) rfl (?_))))))))))
   cases c4:(decide ((8:Int)<(l[0]!).many))
   ·have g0:(l[0]!).many≤(8:Int):=by simpa using c4
    refine AW rfl (AT 4 FX rfl (AW rfl (AU U26_ rfl (a8) rfl a0 rfl (AW rfl (BP U26_ rfl a1 (AW rfl (FN .i64 (((l[0]!).data).length:Int) (64:Int) rfl rfl (AA (BA (vO (decide ((64:Int)<(((l[0]!).data).length:Int)))) rfl rfl (AG (AB (AJ (decide ((64:Int)<(((l[0]!).data).length:Int))) rfl rfl (fun b2=>?_) (fun b2=>?_)))))))))))))
    ·have g1:(64:Int)<(((l[0]!).data).length:Int):=by simpa using b2
     refine AF (AC kR (AA (AD (vO false) rfl (AG (AB (AM (AI (AS rfl (BZ rfl rfl rfl) (?_)))))))))
     have e:(DJ l)=false:=by (unfold DJ;((repeat (first|(refine (if_pos ?_).trans ?_;solve|(simp only [MZ];omega))|(refine (if_neg ?_).trans ?_;solve|(simp only [MZ];omega))));rfl))
     exact ⟨_,rfl,a9.keep,(by exact congrArg vO e.symm)⟩
    have g2:(((l[0]!).data).length:Int)≤(64:Int):=by simpa using b2
    refine AR (AB (AF (AF (AC kR (AA (AD (vI 0) rfl (AG (AB (BD (DB (fun mI FI wI=>∃ (k:Nat) (B:List Nat),k≤l.length∧DJ l=EW (fun k=>if YN l k then some false else none) true k (l.length - k)∧mI=l.length - k∧(∃ F1,FI=GD F1 [(0,l_v),(3,vP (some ⟨a6,0,none⟩)),(4,vI ((k:Nat):Int)),(91,undef)])∧St w O wI B∧BB Enc.share wI (B++O) (l_v) (l)∧BB Enc.u8 wI (B++O) (a8) ((l[0]!).data)∧IX wI a6 49 [vI ((l[0]!).epoch),vI ((l[0]!).index),vI ((l[0]!).threshold),vI ((l[0]!).many),a8]∧a6∈B) (l.length - (0)) ?_ ?_))))))))))
    ·exact ⟨(0),(a6 :: []),oM,(by unfold DJ;((repeat ((refine (if_neg ?_).trans ?_;solve|(simp only [MZ];omega))));rfl)),rfl,⟨_,AX _ ⟨rfl,rfl,(by rfl),rfl,trivial⟩⟩,a9,a2,a1,a0,(by (repeat (exact List.mem_cons_self)))⟩
    intro i9 F j0 hI
    clear a2 a1 a0
    obtain ⟨k,b7,hr0_0,hr0_1,j1,⟨j2,rfl⟩,e2,a2,a1,a0,e6⟩:=hI
    refine AF (AF (AC kR (AA (AE (vI ((k:Nat):Int)) rfl (AA (AE (l_v) rfl (AA (BP U27_ rfl a2 (AA (DQ .i64 ((k:Nat):Int) (l.length:Int) rfl rfl (AG (AB (AJ (decide (((k:Nat):Int)<(l.length:Int))) rfl rfl (fun b3=>?_) (fun b3=>?_))))))))))))))
    ·have g3:((k:Nat):Int)<(l.length:Int):=by simpa using b3
     refine AR (AB (AF (BD (AF (AC kR (AA (AE (l_v) rfl (AA (AE (vI ((k:Nat):Int)) rfl (AA (CR U27_ DO .i64 ((k:Nat):Int) k rfl rfl rfl a2 oM fun i6 d6=>(AA (CJ U49_ rfl DO rfl d6 fun d7 b4=>(AA (CZ [vI 0,vI 0,vI 0,vI 0,nS] NH rfl e2 fun a7 e7 e8 e9 b8 f0 d8=>(?_))))))))))))))))
     have d9:HD a6 a7:=by show a6≠a7;have:=a0.lt;omega
     clear e8
     have a2:=a2.mv b8
     have b4:Enc.share.rd e7 ((a7 :: b7)++O) d7 (l[k]!):=Enc.mv Enc.share (x:=l[k]!) b4 b8
     have a1:=a1.mv b8
     have a0:=a0.keep f0 (by simp)
     obtain ⟨b9,rfl,a4⟩:=b4
     have:=a4.len_le
     refine CC (BF (vs:=[vI ((l[k]!).epoch),vI ((l[k]!).index),vI ((l[k]!).threshold),vI ((l[k]!).many),b9]) (.agg #[vI ((l[k]!).epoch),vI ((l[k]!).index),vI ((l[k]!).threshold),vI ((l[k]!).many),b9]) rfl rfl rfl DO (fun u hu=>by simp only [List.mem_cons,List.not_mem_nil,or_false] at hu;rcases hu with rfl|rfl|rfl|rfl|rfl <;> first|rfl|exact a4.oneCell) (by repeat (constructor)) d8 oT e9 fun f1 f2 c0 f3 a3=>(?_))
     have a2:=a2.mv c0
     have a4:=a4.mv c0
     have a1:=a1.mv c0
     have a0:=a0.keep f3 (BH d9)
     refine AG (AB (AF (FK 48 _ _ kR kR kR kR kR rfl rfl fun f4 b5=>?_)))
     have a5:=f2.call b5
     have c1:Mv (a7 :: b7) f1 (a7 :: b7) f4:=Mv.of_keep b5
     have a2:=a2.mv c1
     have a4:=a4.mv c1
     have a1:=a1.mv c1
     have a0:=a0.keep b5 (by simp)
     have a3:=a3.keep b5 (by simp)
     refine BU (AT 2 HP rfl (BU (AU U3_ rfl (vI ((l[k]!).threshold)) rfl a3 rfl (BU (AT 2 HP rfl (BU (AU U3_ rfl (vI ((l[0]!).threshold)) rfl a0 rfl (BU (CM .i64 ((l[k]!).threshold) ((l[0]!).threshold) rfl rfl (BU (AE (vO (((l[k]!).threshold) != ((l[0]!).threshold))) rfl (?_))))))))))))
     cases c5:(((l[k]!).threshold) != ((l[0]!).threshold))
     ·have g4:(l[k]!).threshold=(l[0]!).threshold:=by simpa using c5
      refine DW rfl (AT 3 HW rfl (DW rfl (AU U3_ rfl (vI ((l[k]!).many)) rfl a3 rfl (DW rfl (AT 3 HW rfl (DW rfl (AU U3_ rfl (vI ((l[0]!).many)) rfl a0 rfl (DW rfl (CM .i64 ((l[k]!).many) ((l[0]!).many) rfl rfl (BU (BA (vO (((l[k]!).many) != ((l[0]!).many))) rfl rfl (BU (AE (vO (((l[k]!).many) != ((l[0]!).many))) rfl (?_))))))))))))))
      cases c6:(((l[k]!).many) != ((l[0]!).many))
      ·have g5:(l[k]!).many=(l[0]!).many:=by simpa using c6
       refine DW rfl (AT 4 FX rfl (DW rfl (AU U26_ rfl (b9) rfl a3 rfl (DW rfl (BP U26_ rfl a4 (DW rfl (AT 4 FX rfl (DW rfl (AU U26_ rfl (a8) rfl a0 rfl (DW rfl (BP U26_ rfl a1 (DW rfl (CM .i64 (((l[k]!).data).length:Int) (((l[0]!).data).length:Int) rfl rfl (BU (BA (vO ((((l[k]!).data).length:Int) != (((l[0]!).data).length:Int))) rfl rfl (BU (AE (vO ((((l[k]!).data).length:Int) != (((l[0]!).data).length:Int))) rfl (?_))))))))))))))))))
       cases c7:((((l[k]!).data).length:Int) != (((l[0]!).data).length:Int))
       ·have g6:(((l[k]!).data).length:Int)=(((l[0]!).data).length:Int):=by simpa using c7
        refine DW rfl (AT 1 KX rfl (DW rfl (AU U3_ rfl (vI ((l[k]!).index)) rfl a3 rfl (DW rfl (DQ .i64 ((l[k]!).index) (1:Int) rfl rfl (BU (BA (vO (decide ((l[k]!).index<(1:Int)))) rfl rfl (BU (AE (vO (decide ((l[k]!).index<(1:Int)))) rfl (?_))))))))))
        cases c8:(decide ((l[k]!).index<(1:Int)))
        ·have g7:(1:Int)≤(l[k]!).index:=by simpa using c8
         refine DW rfl (AT 1 KX rfl (DW rfl (AU U3_ rfl (vI ((l[k]!).index)) rfl a3 rfl (DW rfl (AT 3 HW rfl (DW rfl (AU U3_ rfl (vI ((l[0]!).many)) rfl a0 rfl (DW rfl (FN .i64 ((l[k]!).index) ((l[0]!).many) rfl rfl (BU (BA (vO (decide ((l[0]!).many<(l[k]!).index))) rfl rfl (BU (AE (vO (decide ((l[0]!).many<(l[k]!).index))) rfl (?_))))))))))))))
         cases c9:(decide ((l[0]!).many<(l[k]!).index))
         ·have g8:(l[k]!).index≤(l[0]!).many:=by simpa using c9
          refine DW rfl (AE (vI ((k:Nat):Int)) rfl (DW rfl (FN .i64 ((k:Nat):Int) (0:Int) rfl rfl (DW rfl (AE (vO (decide ((0:Int)<((k:Nat):Int)))) rfl (?_))))))
          cases d0:(decide ((0:Int)<((k:Nat):Int)))
          ·have g9:((k:Nat):Int)≤(0:Int):=by simpa using d0
           refine CK rfl (CK rfl (CK rfl (CK rfl (CK rfl (CK rfl (CK rfl (CK rfl (CK rfl (DW rfl (BA (vO false) rfl rfl (BU (BA (vO false) rfl rfl (EO (AG (AB (AJ false rfl rfl (fun h=>by cases h) (fun _=>AR (CB (AB (AC kR (AA (AE (vI ((k:Nat):Int)) rfl (AA (DF .i64 ((k:Nat):Int) (1:Int) (((k+1:Nat):Int)) rfl rfl (GA oM oM) (AA (AD (vI ((k+1:Nat):Int)) rfl (AG (AB (?_)))))))))))))))))))))))))))))
           exact ⟨_,oM,(k+1),(a7 :: b7),oM,(hr0_1.trans (EP oM (by ((repeat ((refine (if_neg ?_).trans ?_;solve|(simp only [MZ];omega))));rfl)))),rfl,⟨_,AX _ ⟨rfl,rfl,(by rfl),rfl,trivial⟩⟩,a5,a2,a1,a0,(by (repeat (first|assumption|apply List.mem_cons_of_mem)))⟩
          have h0:(0:Int)<((k:Nat):Int):=by simpa using d0
          refine DW rfl (AT 1 KX rfl (DW rfl (AU U3_ rfl (vI ((l[k]!).index)) rfl a3 rfl (DW rfl (AE (l_v) rfl (DW rfl (AE (vI ((k:Nat):Int)) rfl (DW rfl (HK .i64 ((k:Nat):Int) (1:Int) (((k - 1:Nat):Int)) rfl rfl (GA oM oM) (DW rfl (CR U27_ DO .i64 ((k - 1:Nat):Int) (k - 1) rfl rfl rfl a2 oM fun i7 e0=>(DW rfl (AY 1 KX ((l[k - 1]!).index) rfl e0 (fun _ _ _ h=>HV h) fun i8 e1=>(DW rfl (BK U3_ rfl rfl e1 (DW rfl (UA .i64 ((l[k]!).index) ((l[k - 1]!).index) rfl rfl (DW rfl (AQ (vO (decide ((l[k]!).index≤(l[k - 1]!).index))) rfl rfl (BU (BA (vO (decide ((l[k]!).index≤(l[k - 1]!).index))) rfl rfl (EO (AG (AB (AJ (decide ((l[k]!).index≤(l[k - 1]!).index)) rfl rfl (fun b6=>?_) (fun b6=>?_))))))))))))))))))))))))))
          ·have h1:(l[k]!).index≤(l[k - 1]!).index:=by simpa using b6
           refine AF (AC kR (AA (AD (vO false) rfl (AG (AB (AM (BC (AI (AI (BC (AI (AS rfl (BZ rfl rfl rfl) (?_)))))))))))))
           have e:(DJ l)=false:=by (rw [hr0_1];exact CP oM (by ((repeat ((refine (if_pos ?_).trans ?_;solve|(simp only [MZ];omega))));rfl)))
           exact ⟨_,rfl,a5.keep,(by exact congrArg vO e.symm)⟩
          have h2:(l[k - 1]!).index<(l[k]!).index:=by simpa using b6
          refine AR (CB (AB (AC kR (AA (AE (vI ((k:Nat):Int)) rfl (AA (DF .i64 ((k:Nat):Int) (1:Int) (((k+1:Nat):Int)) rfl rfl (GA oM oM) (AA (AD (vI ((k+1:Nat):Int)) rfl (AG (AB (?_))))))))))))
          exact ⟨_,oM,(k+1),(a7 :: b7),oM,(hr0_1.trans (EP oM (by ((repeat ((refine (if_neg ?_).trans ?_;solve|(simp only [MZ];omega))));rfl)))),rfl,⟨_,AX _ ⟨rfl,rfl,(by rfl),rfl,trivial⟩⟩,a5,a2,a1,a0,(by (repeat (first|assumption|apply List.mem_cons_of_mem)))⟩
         have h3:(l[0]!).many<(l[k]!).index:=by simpa using c9
         refine CK rfl (CK rfl (CK rfl (GY rfl (GY rfl (GY rfl (GY rfl (GY rfl (GY rfl (GY rfl (GY rfl (GY rfl (CK rfl (BU (AQ (vO true) rfl rfl (EO (AG (AB (AJ true rfl rfl (fun _=>AF (AC kR (AA (AD (vO false) rfl (AG (AB (AM (BC (AI (AI (BC (AI (AS rfl (BZ rfl rfl rfl) (?_)))))))))))))) (fun h=>by cases h)))))))))))))))))))
         have e:(DJ l)=false:=by (rw [hr0_1];exact CP oM (by ((repeat ((refine (if_pos ?_).trans ?_;solve|(simp only [MZ];omega))));rfl)))
         exact ⟨_,rfl,a5.keep,(by exact congrArg vO e.symm)⟩
        have h4:(l[k]!).index<(1:Int):=by simpa using c8
        refine CK rfl (CK rfl (CK rfl (CK rfl (CK rfl (BU (AQ (vO true) rfl rfl (BU (AE (vO true) rfl (CK rfl (CK rfl (CK rfl (GY rfl (GY rfl (GY rfl (GY rfl (GY rfl (GY rfl (GY rfl (GY rfl (GY rfl (CK rfl (BU (AQ (vO true) rfl rfl (EO (AG (AB (AJ true rfl rfl (fun _=>AF (AC kR (AA (AD (vO false) rfl (AG (AB (AM (BC (AI (AI (BC (AI (AS rfl (BZ rfl rfl rfl) (?_)))))))))))))) (fun h=>by cases h))))))))))))))))))))))))))))
        have e:(DJ l)=false:=by (rw [hr0_1];exact CP oM (by ((repeat ((refine (if_pos ?_).trans ?_;solve|(simp only [MZ];omega))));rfl)))
        exact ⟨_,rfl,a5.keep,(by exact congrArg vO e.symm)⟩
       have h5:(((l[k]!).data).length:Int)≠(((l[0]!).data).length:Int):=by simpa using c7
       refine CK rfl (CK rfl (CK rfl (BU (AQ (vO true) rfl rfl (BU (AE (vO true) rfl (CK rfl (CK rfl (CK rfl (CK rfl (CK rfl (BU (AQ (vO true) rfl rfl (BU (AE (vO true) rfl (CK rfl (CK rfl (CK rfl (GY rfl (GY rfl (GY rfl (GY rfl (GY rfl (GY rfl (GY rfl (GY rfl (GY rfl (CK rfl (BU (AQ (vO true) rfl rfl (EO (AG (AB (AJ true rfl rfl (fun _=>AF (AC kR (AA (AD (vO false) rfl (AG (AB (AM (BC (AI (AI (BC (AI (AS rfl (BZ rfl rfl rfl) (?_)))))))))))))) (fun h=>by cases h)))))))))))))))))))))))))))))))))))
       have e:(DJ l)=false:=by (rw [hr0_1];exact CP oM (by ((repeat ((refine (if_pos ?_).trans ?_;solve|(simp only [MZ];omega))));rfl)))
       exact ⟨_,rfl,a5.keep,(by exact congrArg vO e.symm)⟩
      have h6:(l[k]!).many≠(l[0]!).many:=by simpa using c6
      refine CK rfl (CK rfl (CK rfl (CK rfl (CK rfl (CK rfl (CK rfl (BU (AQ (vO true) rfl rfl (BU (AE (vO true) rfl (CK rfl (CK rfl (CK rfl (BU (AQ (vO true) rfl rfl (BU (AE (vO true) rfl (CK rfl (CK rfl (CK rfl (CK rfl (CK rfl (BU (AQ (vO true) rfl rfl (BU (AE (vO true) rfl (CK rfl (CK rfl (CK rfl (GY rfl (GY rfl (GY rfl (GY rfl (GY rfl (GY rfl (GY rfl (GY rfl (GY rfl (CK rfl (BU (AQ (vO true) rfl rfl (EO (AG (AB (AJ true rfl rfl (fun _=>AF (AC kR (AA (AD (vO false) rfl (AG (AB (AM (BC (AI (AI (BC (AI (AS rfl (BZ rfl rfl rfl) (?_)))))))))))))) (fun h=>by cases h))))))))))))))))))))))))))))))))))))))))))))))
      have e:(DJ l)=false:=by (rw [hr0_1];exact CP oM (by ((repeat ((refine (if_pos ?_).trans ?_;solve|(simp only [MZ];omega))));rfl)))
      exact ⟨_,rfl,a5.keep,(by exact congrArg vO e.symm)⟩
     have h7:(l[k]!).threshold≠(l[0]!).threshold:=by simpa using c5
     refine CK rfl (CK rfl (CK rfl (CK rfl (CK rfl (BU (AQ (vO true) rfl rfl (BU (AE (vO true) rfl (CK rfl (CK rfl (CK rfl (CK rfl (CK rfl (CK rfl (CK rfl (BU (AQ (vO true) rfl rfl (BU (AE (vO true) rfl (CK rfl (CK rfl (CK rfl (BU (AQ (vO true) rfl rfl (BU (AE (vO true) rfl (CK rfl (CK rfl (CK rfl (CK rfl (CK rfl (BU (AQ (vO true) rfl rfl (BU (AE (vO true) rfl (CK rfl (CK rfl (CK rfl (GY rfl (GY rfl (GY rfl (GY rfl (GY rfl (GY rfl (GY rfl (GY rfl (GY rfl (CK rfl (BU (AQ (vO true) rfl rfl (EO (AG (AB (AJ true rfl rfl (fun _=>AF (AC kR (AA (AD (vO false) rfl (AG (AB (AM (BC (AI (AI (BC (AI (AS rfl (BZ rfl rfl rfl) (?_)))))))))))))) (fun h=>by cases h)))))))))))))))))))))))))))))))))))))))))))))))))))))))
     have e:(DJ l)=false:=by (rw [hr0_1];exact CP oM (by ((repeat ((refine (if_pos ?_).trans ?_;solve|(simp only [MZ];omega))));rfl)))
     exact ⟨_,rfl,a5.keep,(by exact congrArg vO e.symm)⟩
    have h8:(l.length:Int)≤((k:Nat):Int):=by simpa using b3
    refine DA (BN (BN (CO (AB (AF (AC kR (AA (AD (vO true) rfl (AG (AB (AM (AS rfl (BZ rfl rfl rfl) (?_)))))))))))))
    have e:(DJ l)=true:=by (rw [hr0_1];exact FS oM)
    exact ⟨_,rfl,e2.keep,(by exact congrArg vO e.symm)⟩
   have h9:(8:Int)<(l[0]!).many:=by simpa using c4
   refine AL rfl (AL rfl (AL rfl (AL rfl (AA (AQ (vO true) rfl rfl (AG (AB (AJ true rfl rfl (fun _=>AF (AC kR (AA (AD (vO false) rfl (AG (AB (AM (AI (AS rfl (BZ rfl rfl rfl) (?_)))))))))) (fun h=>by cases h)))))))))
   have e:(DJ l)=false:=by (unfold DJ;((repeat (first|(refine (if_pos ?_).trans ?_;solve|(simp only [MZ];omega))|(refine (if_neg ?_).trans ?_;solve|(simp only [MZ];omega))));rfl))
   exact ⟨_,rfl,a9.keep,(by exact congrArg vO e.symm)⟩
  have i0:(l[0]!).many<(l[0]!).threshold:=by simpa using c3
  refine AL rfl (AL rfl (AL rfl (AA (AQ (vO true) rfl rfl (AA (AE (vO true) rfl (AL rfl (AL rfl (AL rfl (AL rfl (AA (AQ (vO true) rfl rfl (AG (AB (AJ true rfl rfl (fun _=>AF (AC kR (AA (AD (vO false) rfl (AG (AB (AM (AI (AS rfl (BZ rfl rfl rfl) (?_)))))))))) (fun h=>by cases h))))))))))))))))
  have e:(DJ l)=false:=by (unfold DJ;((repeat (first|(refine (if_pos ?_).trans ?_;solve|(simp only [MZ];omega))|(refine (if_neg ?_).trans ?_;solve|(simp only [MZ];omega))));rfl))
  exact ⟨_,rfl,a9.keep,(by exact congrArg vO e.symm)⟩
 have i1:(l[0]!).threshold<(1:Int):=by simpa using c2
 refine AL rfl (AL rfl (AL rfl (AL rfl (AL rfl (AA (AQ (vO true) rfl rfl (AA (AE (vO true) rfl (AL rfl (AL rfl (AL rfl (AA (AQ (vO true) rfl rfl (AA (AE (vO true) rfl (AL rfl (AL rfl (AL rfl (AL rfl (AA (AQ (vO true) rfl rfl (AG (AB (AJ true rfl rfl (fun _=>AF (AC kR (AA (AD (vO false) rfl (AG (AB (AM (AI (AS rfl (BZ rfl rfl rfl) (?_)))))))))) (fun h=>by cases h)))))))))))))))))))))))))
 have e:(DJ l)=false:=by (unfold DJ;((repeat (first|(refine (if_pos ?_).trans ?_;solve|(simp only [MZ];omega))|(refine (if_neg ?_).trans ?_;solve|(simp only [MZ];omega))));rfl))
 exact ⟨_,rfl,a9.keep,(by exact congrArg vO e.symm)⟩
set_option maxHeartbeats 4000000 in
set_option maxRecDepth 100000 in
theorem TX {O:List Nat} (l_v:Value) (l:List Share) (w:World) (a0:BB Enc.share w O l_v l) (hO:∀ b∈O,b<w.heap.size):CA Tryz.prog 74 [l_v] w (fun v _=>v=vI (CI l)):= by
 have c4:=a0.len_le
 have a0:BB Enc.share w ([]++O) l_v l:=a0
 have s0:St w O w []:=St.start hO
 refine BE 39 Tryz.func74 rfl rfl oT (fun F0=>AF (AC kR (AA (AD (vI 0) rfl (AG (AB (AF (AF (AC kR (AA (AE (l_v) rfl (AA (AZ (vs:=[l_v]) enter_96 (c_refAlike (O:=[]++O) l_v l w a0 s0.lt) rfl s0 fun d5 d6 a7 b9 d7 c0=>(?_))))))))))))))
 obtain rfl:=c0
 have a0:=a0.mv b9
 refine AA (EU (DJ l) rfl (AG (AB (AJ (!(DJ l)) rfl rfl (fun a1=>?_) (fun a1=>?_)))))
 ·have c5:(DJ l)=false:=by simpa using a1
  refine AF (AC kR (AA (AD (vI 80) rfl (AG (AB (AM (AI (AS rfl (BZ rfl rfl rfl) (?_)))))))))
  have e:(CI l)=(80:Int):=by (unfold CI;((repeat ((refine (if_pos ?_).trans ?_;omega)));rfl))
  exact ⟨_,rfl,a7.keep,by rw [e];exact rfl⟩
 have c6:(DJ l)=true:=by simpa using a1
 refine AR (AB (AF (AF (AC kR (AA (AD (vI 0) rfl (AG (AB (BD (DB (fun mI FI wI=>∃ (k:Nat) (B:List Nat),k≤l.length∧CI l=EW (fun k=>if ep1 l k then some 81 else none) 0 k (l.length - k)∧mI=l.length - k∧(∃ F1,FI=GD F1 [(0,l_v),(3,vI ((k:Nat):Int)),(39,undef)])∧St w O wI B∧BB Enc.share wI (B++O) (l_v) (l)) (l.length - (0)) ?_ ?_))))))))))
 ·exact ⟨(0),[],oM,(by unfold CI;((repeat ((refine (if_neg ?_).trans ?_;solve|(simp only [*,dbs];done))));rfl)),rfl,⟨_,AX _ ⟨rfl,(by rfl),rfl,trivial⟩⟩,a7,a0⟩
 intro e6 F c3 hI
 clear a0
 obtain ⟨k,a8,hr0_0,hr0_1,e7,⟨e8,rfl⟩,b8,a0⟩:=hI
 refine AF (AF (AC kR (AA (AE (vI ((k:Nat):Int)) rfl (AA (AE (l_v) rfl (AA (BP U27_ rfl a0 (AA (DQ .i64 ((k:Nat):Int) (l.length:Int) rfl rfl (AG (AB (AJ (decide (((k:Nat):Int)<(l.length:Int))) rfl rfl (fun a2=>?_) (fun a2=>?_))))))))))))))
 ·have c7:((k:Nat):Int)<(l.length:Int):=by simpa using a2
  refine AR (AB (AF (BD (AF (FK 26 _ _ kR kR kR kR kR rfl rfl fun c1 a9=>?_)))))
  have a3:=b8.call a9
  have c2:Mv a8 c3 a8 c1:=Mv.of_keep a9
  have a0:=a0.mv c2
  refine BU (AE (l_v) rfl (BU (AE (vI ((k:Nat):Int)) rfl (BU (CR U27_ DO .i64 ((k:Nat):Int) k rfl rfl rfl a0 oM fun d8 b0=>(BU (AY 0 HO ((l[k]!).epoch) rfl b0 (fun _ _ _ h=>FZ h) fun d9 b1=>(BU (BK U3_ rfl rfl b1 (BU (AE (l_v) rfl (BU (CR U27_ DO .i64 (0:Int) 0 rfl rfl rfl a0 oM fun e0 b2=>(BU (AY 0 HO ((l[0]!).epoch) rfl b2 (fun _ _ _ h=>FZ h) fun e1 b3=>(BU (BK U3_ rfl rfl b3 (BU (CM .i64 ((l[k]!).epoch) ((l[0]!).epoch) rfl rfl (BU (AE (vO (((l[k]!).epoch) != ((l[0]!).epoch))) rfl (?_))))))))))))))))))))))
  cases a5:(((l[k]!).epoch) != ((l[0]!).epoch))
  ·have c8:(l[k]!).epoch=(l[0]!).epoch:=by simpa using a5
   refine DW rfl (AE (l_v) rfl (DW rfl (AE (vI ((k:Nat):Int)) rfl (DW rfl (CR U27_ DO .i64 ((k:Nat):Int) k rfl rfl rfl a0 oM fun e2 b4=>(DW rfl (AY 0 HO ((l[k]!).epoch) rfl b4 (fun _ _ _ h=>FZ h) fun e3 b5=>(DW rfl (BK U3_ rfl rfl b5 (DW rfl (DQ .i64 ((l[k]!).epoch) (0:Int) rfl rfl (BU (BA (vO (decide ((l[k]!).epoch<(0:Int)))) rfl rfl (BU (AE (vO (decide ((l[k]!).epoch<(0:Int)))) rfl (?_))))))))))))))))
   cases a6:(decide ((l[k]!).epoch<(0:Int)))
   ·have c9:(0:Int)≤(l[k]!).epoch:=by simpa using a6
    refine DW rfl (AE (l_v) rfl (DW rfl (AE (vI ((k:Nat):Int)) rfl (DW rfl (CR U27_ DO .i64 ((k:Nat):Int) k rfl rfl rfl a0 oM fun e4 b6=>(DW rfl (AY 0 HO ((l[k]!).epoch) rfl b6 (fun _ _ _ h=>FZ h) fun e5 b7=>(DW rfl (BK U3_ rfl rfl b7 (DW rfl (FN .i64 ((l[k]!).epoch) (1048576:Int) rfl rfl (BU (BA (vO (decide ((1048576:Int)<(l[k]!).epoch))) rfl rfl (EO (AG (AB (AJ (decide ((1048576:Int)<(l[k]!).epoch)) rfl rfl (fun a4=>?_) (fun a4=>?_))))))))))))))))))
    ·have d0:(1048576:Int)<(l[k]!).epoch:=by simpa using a4
     refine AF (AC kR (AA (AD (vI 81) rfl (AG (AB (AM (BC (AI (AI (BC (AI (AS rfl (BZ rfl rfl rfl) (?_)))))))))))))
     have e:(CI l)=(81:Int):=by (rw [hr0_1];exact CP oM (by ((repeat ((refine (if_pos ?_).trans ?_;solve|(simp only [MZ];omega))));rfl)))
     exact ⟨_,rfl,a3.keep,by rw [e];exact rfl⟩
    have d1:(l[k]!).epoch≤(1048576:Int):=by simpa using a4
    refine AR (CB (AB (AC kR (AA (AE (vI ((k:Nat):Int)) rfl (AA (DF .i64 ((k:Nat):Int) (1:Int) (((k+1:Nat):Int)) rfl rfl (GA oM oM) (AA (AD (vI ((k+1:Nat):Int)) rfl (AG (AB (?_))))))))))))
    exact ⟨_,oM,(k+1),a8,oM,(hr0_1.trans (EP oM (by ((repeat ((refine (if_neg ?_).trans ?_;solve|(simp only [MZ];omega))));rfl)))),rfl,⟨_,AX _ ⟨rfl,(by rfl),rfl,trivial⟩⟩,a3,a0⟩
   have d2:(l[k]!).epoch<(0:Int):=by simpa using a6
   refine CK rfl (CK rfl (CK rfl (CK rfl (CK rfl (CK rfl (BU (AQ (vO true) rfl rfl (EO (AG (AB (AJ true rfl rfl (fun _=>AF (AC kR (AA (AD (vI 81) rfl (AG (AB (AM (BC (AI (AI (BC (AI (AS rfl (BZ rfl rfl rfl) (?_)))))))))))))) (fun h=>by cases h))))))))))))
   have e:(CI l)=(81:Int):=by (rw [hr0_1];exact CP oM (by ((repeat ((refine (if_pos ?_).trans ?_;solve|(simp only [MZ];omega))));rfl)))
   exact ⟨_,rfl,a3.keep,by rw [e];exact rfl⟩
  have d3:(l[k]!).epoch≠(l[0]!).epoch:=by simpa using a5
  refine CK rfl (CK rfl (CK rfl (CK rfl (CK rfl (CK rfl (BU (AQ (vO true) rfl rfl (BU (AE (vO true) rfl (CK rfl (CK rfl (CK rfl (CK rfl (CK rfl (CK rfl (BU (AQ (vO true) rfl rfl (EO (AG (AB (AJ true rfl rfl (fun _=>AF (AC kR (AA (AD (vI 81) rfl (AG (AB (AM (BC (AI (AI (BC (AI (AS rfl (BZ rfl rfl rfl) (?_)))))))))))))) (fun h=>by cases h))))))))))))))))))))))
  have e:(CI l)=(81:Int):=by (rw [hr0_1];exact CP oM (by ((repeat ((refine (if_pos ?_).trans ?_;solve|(simp only [MZ];omega))));rfl)))
  exact ⟨_,rfl,a3.keep,by rw [e];exact rfl⟩
 have d4:(l.length:Int)≤((k:Nat):Int):=by simpa using a2
 refine DA (BN (BN (CO (AB (AF (AC kR (AA (AD (vI 0) rfl (AG (AB (AM (AS rfl (BZ rfl rfl rfl) (?_)))))))))))))
 have e:(CI l)=(0:Int):=by (rw [hr0_1];exact FS oM)
 exact ⟨_,rfl,b8.keep,by rw [e];exact rfl⟩
set_option maxHeartbeats 4000000 in
set_option maxRecDepth 100000 in
theorem c_few8 {O:List Nat} (l_v:Value) (l:List Share) (w:World) (a0:BB Enc.share w O l_v l) (hO:∀ b∈O,b<w.heap.size):CA Tryz.prog 23 [l_v] w (fun v _=>v = .bool (RQ l)):= by
 have a6:=a0.len_le
 have a0:BB Enc.share w ([]++O) l_v l:=a0
 have s0:St w O w []:=St.start hO
 refine BE 20 Tryz.func23 rfl rfl oT (fun F0=>AF (AC kR (AA (AD (vO false) rfl (AG (AB (AF (AF (AC kR (AA (AD (vI 0) rfl (AG (AB (BD (DB (fun mI FI wI=>∃ (k:Nat),k≤l.length∧RQ l=EW (fun k=>if 70<(l[k]!.data.length:Int) then some false else none) (decide ((l.length:Int)≤10)) k (l.length - k)∧mI=l.length - k∧(∃ F1,FI=GD F1 [(0,l_v),(3,vI ((k:Nat):Int)),(20,undef)])∧w=wI) (l.length - (0)) ?_ ?_)))))))))))))))
 ·exact ⟨(0),oM,rfl,rfl,⟨_,AX _ ⟨rfl,(by rfl),rfl,trivial⟩⟩,rfl⟩
 rintro b4 F b5 ⟨k,hr0_0,hr0_1,b6,⟨b7,rfl⟩,rfl⟩
 refine AF (AF (AC kR (AA (AE (vI ((k:Nat):Int)) rfl (AA (AE (l_v) rfl (AA (BP U27_ rfl a0 (AA (DQ .i64 ((k:Nat):Int) (l.length:Int) rfl rfl (AG (AB (AJ (decide (((k:Nat):Int)<(l.length:Int))) rfl rfl (fun a1=>?_) (fun a1=>?_))))))))))))))
 ·have a7:((k:Nat):Int)<(l.length:Int):=by simpa using a1
  refine AR (AB (AF (BD (AF (AC kR (AA (AE (l_v) rfl (AA (AE (vI ((k:Nat):Int)) rfl (AA (CR U27_ DO .i64 ((k:Nat):Int) k rfl rfl rfl a0 oM fun b1 a4=>(AA (AY 4 FX ((l[k]!).data) rfl a4 (fun _ _ _ h=>FB h) fun b2 a5=>(AA (BL U26_ rfl rfl a5 fun b3 a3=>(?_))))))))))))))))
  have:=a3.len_le
  refine AA (BP U26_ rfl a3 (AA (FN .i64 (((l[k]!).data).length:Int) (70:Int) rfl rfl (AG (AB (AJ (decide ((70:Int)<(((l[k]!).data).length:Int))) rfl rfl (fun a2=>?_) (fun a2=>?_)))))))
  ·have a8:(70:Int)<(((l[k]!).data).length:Int):=by simpa using a2
   refine AF (AC kR (AA (AD (vO false) rfl (AG (AB (AM (BC (AI (AI (BC (AI (AS rfl (BZ rfl rfl rfl) (?_)))))))))))))
   have e:(RQ l)=false:=by (rw [hr0_1];exact CP oM (by ((repeat ((refine (if_pos ?_).trans ?_;omega)));rfl)))
   exact ⟨_,rfl,s0.keep,(by exact congrArg vO e.symm)⟩
  have a9:(((l[k]!).data).length:Int)≤(70:Int):=by simpa using a2
  refine AR (CB (AB (AC kR (AA (AE (vI ((k:Nat):Int)) rfl (AA (DF .i64 ((k:Nat):Int) (1:Int) (((k+1:Nat):Int)) rfl rfl (GA oM oM) (AA (AD (vI ((k+1:Nat):Int)) rfl (AG (AB (?_))))))))))))
  exact ⟨_,oM,(k+1),oM,(hr0_1.trans (EP oM (by ((repeat ((refine (if_neg ?_).trans ?_;omega)));rfl)))),rfl,⟨_,AX _ ⟨rfl,(by rfl),rfl,trivial⟩⟩,rfl⟩
 have b0:(l.length:Int)≤((k:Nat):Int):=by simpa using a1
 refine DA (BN (BN (CO (AB (AF (AC kR (AA (AE (l_v) rfl (AA (BP U27_ rfl a0 (AA (UA .i64 (l.length:Int) (10:Int) rfl rfl (AA (AD (vO (decide ((l.length:Int)≤(10:Int)))) rfl (AG (AB (AM (AS rfl (BZ rfl rfl rfl) (?_)))))))))))))))))))
 have e:(RQ l)=(decide ((l.length:Int)≤(10:Int))):=by (rw [hr0_1];exact FS oM)
 exact ⟨_,rfl,s0.keep,(by exact congrArg vO e.symm)⟩
open Go.Fw Go.RowKit
set_option maxHeartbeats 4000000 in
set_option maxRecDepth 100000 in
theorem c_few46 {O:List Nat} (c_cs:List Value) (c:Circle) (l_v:Value) (l:List Share) (w:World) (a5:Enc.circle.rd w O c_cs c) (a0:BB Enc.share w O l_v l) (hO:∀ b∈O,b<w.heap.size):CA Tryz.prog 6 [.agg c_cs.toArray,l_v] w (fun v _=>v = .bool (OU c && RQ l)):= by
 have a5:Enc.circle.rd w ([]++O) c_cs c:=a5
 have b7:=a0.len_le
 have a0:BB Enc.share w ([]++O) l_v l:=a0
 have s0:St w O w []:=St.start hO
 refine BE 11 Tryz.func6 rfl rfl oT (fun F0=>AF (AC kR (AA (DR (E:=Enc.circle) (vA c_cs.toArray) (c_cs) c rfl rfl a5 s0 fun b8 a8 a4 a9 b9 a6=>(?_)))))
 have a0:=a0.mv a9
 refine AA (AD (vO false) rfl (AG (AB (AF (AC kR (AA (CJ U25_ rfl BM rfl a6 fun a2 a7=>(AA (AZ (vs:=[vA a2.toArray]) enter_22 (c_few (O:=[]++O) a2 c a8 a7 a4.lt) rfl a4 fun c0 b0 a1 b1 c1 b2=>(?_))))))))))
 obtain rfl:=b2
 have a0:=a0.mv b1
 refine AA (AE (vO (OU c)) rfl (?_))
 cases a3:(OU c)
 ·have b5:(OU c)=false:=by simpa using a3
  refine AL rfl (AL rfl (AA (BA (vO false) rfl rfl (AA (AD (vO false) rfl (AG (AB (AM (AS rfl (BZ rfl rfl rfl) (?_))))))))))
  have e:(OU c && RQ l)=false:=by simp [*]
  exact ⟨_,rfl,a1.keep,(by rfl)⟩
 have b6:(OU c)=true:=by simpa using a3
 refine AW rfl (AE (l_v) rfl (AW rfl (AZ (vs:=[l_v]) enter_23 (c_few8 (O:=[]++O) l_v l b0 a0 a1.lt) rfl a1 fun c2 c3 b3 c4 c5 b4=>(?_))))
 obtain rfl:=b4
 refine AA (AQ (vO (RQ l)) rfl rfl (AA (AD (vO (RQ l)) rfl (AG (AB (AM (AS rfl (BZ rfl rfl rfl) (?_))))))))
 have e:(OU c && RQ l)=(RQ l):=by simp [*]
 exact ⟨_,rfl,b3.keep,(by rfl)⟩
open Go.Fw Go.RowKit
set_option maxHeartbeats 4000000 in
set_option maxRecDepth 100000 in
theorem c_refSplit {O:List Nat} (secret_v:Value) (secret:List UInt8) (epoch:Int) (threshold:Int) (many:Int) (coins_v:Value) (coins:List UInt8) (w:World) (a0:BB Enc.u8 w O secret_v secret) (a2:BB Enc.u8 w O coins_v coins) (hO:∀ b∈O,b<w.heap.size):CA Tryz.prog 27 [secret_v,vI epoch,vI threshold,vI many,coins_v] w (fun v w'=>∃ (x0:Value),v = .tuple #[x0,vI ((EF secret epoch threshold many coins).2)]∧BB Enc.share w' (O) x0 ((EF secret epoch threshold many coins).1)):= by
 have k6:=a0.len_le
 have a0:BB Enc.u8 w ([]++O) secret_v secret:=a0
 have o6:=a2.len_le
 have a2:BB Enc.u8 w ([]++O) coins_v coins:=a2
 have s0:St w O w []:=St.start hO
 refine BE 92 Tryz.func27 rfl rfl oT (fun F0=>AF (AC kR (AA (AD (nS) rfl (AA (AD (vI 0) rfl (AG (AB (AF (AF (AC kR (AA (AE (secret_v) rfl (AA (BP U26_ rfl a0 (AA (FN .i64 (secret.length:Int) (64:Int) rfl rfl (AG (AB (AJ (decide ((64:Int)<(secret.length:Int))) rfl rfl (fun d1=>?_) (fun d1=>?_)))))))))))))))))))))
 ·have o9:(64:Int)<(secret.length:Int):=by simpa using d1
  refine AF (AC kR (AA (AD (nS) rfl (AA (AD (vI 1) rfl (AG (AB (AM (AI (AS rfl (EJ rfl rfl rfl rfl) (?_)))))))))))
  have e:(EF secret epoch threshold many coins)=([],(1:Int)):=by exact HJ (by unfold DN;((repeat ((refine (if_pos ?_).trans ?_;omega)));rfl)) (by decide)
  exact ⟨_,rfl,s0.keep,by rw [e];exact ⟨.slice none 0 0,rfl,BB.nil _ _ _⟩⟩
 have p0:(secret.length:Int)≤(64:Int):=by simpa using d1
 refine AR (AB (AF (AF (AC kR (AA (AE (vI threshold) rfl (AA (DQ .i64 threshold (1:Int) rfl rfl (AA (AE (vO (decide (threshold<(1:Int)))) rfl (?_)))))))))))
 cases f4:(decide (threshold<(1:Int)))
 ·have p1:(1:Int)≤threshold:=by simpa using f4
  refine AW rfl (AE (vI threshold) rfl (AW rfl (AE (vI many) rfl (AW rfl (FN .i64 threshold many rfl rfl (AA (BA (vO (decide (many<threshold))) rfl rfl (AA (AE (vO (decide (many<threshold))) rfl (?_))))))))))
  cases f5:(decide (many<threshold))
  ·have p2:threshold≤many:=by simpa using f5
   refine AW rfl (AE (vI many) rfl (AW rfl (FN .i64 many (8:Int) rfl rfl (AA (BA (vO (decide ((8:Int)<many))) rfl rfl (AG (AB (AJ (decide ((8:Int)<many)) rfl rfl (fun d2=>?_) (fun d2=>?_)))))))))
   ·have p3:(8:Int)<many:=by simpa using d2
    refine AF (AC kR (AA (AD (nS) rfl (AA (AD (vI 80) rfl (AG (AB (AM (AI (AS rfl (EJ rfl rfl rfl rfl) (?_)))))))))))
    have e:(EF secret epoch threshold many coins)=([],(80:Int)):=by exact HJ (by unfold DN;((repeat (first|(refine (if_pos ?_).trans ?_;omega)|(refine (if_neg ?_).trans ?_;omega)));rfl)) (by decide)
    exact ⟨_,rfl,s0.keep,by rw [e];exact ⟨.slice none 0 0,rfl,BB.nil _ _ _⟩⟩
   have p4:many≤(8:Int):=by simpa using d2
   refine AR (AB (AF (AF (AC kR (AA (AE (vI epoch) rfl (AA (DQ .i64 epoch (0:Int) rfl rfl (AA (AE (vO (decide (epoch<(0:Int)))) rfl (?_)))))))))))
   cases f6:(decide (epoch<(0:Int)))
   ·have p5:(0:Int)≤epoch:=by simpa using f6
    refine AW rfl (AE (vI epoch) rfl (AW rfl (FN .i64 epoch (1048576:Int) rfl rfl (AA (BA (vO (decide ((1048576:Int)<epoch))) rfl rfl (AG (AB (AJ (decide ((1048576:Int)<epoch)) rfl rfl (fun d3=>?_) (fun d3=>?_)))))))))
    ·have p6:(1048576:Int)<epoch:=by simpa using d3
     refine AF (AC kR (AA (AD (nS) rfl (AA (AD (vI 81) rfl (AG (AB (AM (AI (AS rfl (EJ rfl rfl rfl rfl) (?_)))))))))))
     have e:(EF secret epoch threshold many coins)=([],(81:Int)):=by exact HJ (by unfold DN;((repeat (first|(refine (if_pos ?_).trans ?_;omega)|(refine (if_neg ?_).trans ?_;omega)));rfl)) (by decide)
     exact ⟨_,rfl,s0.keep,by rw [e];exact ⟨.slice none 0 0,rfl,BB.nil _ _ _⟩⟩
    have p7:epoch≤(1048576:Int):=by simpa using d3
    refine AR (AB (AF (AF (AC kR (AA (AE (coins_v) rfl (AA (BP U26_ rfl a2 (AA (AE (secret_v) rfl (AA (BP U26_ rfl a0 (AA (AE (vI threshold) rfl (AA (HK .i64 threshold (1:Int) (threshold - (1:Int)) rfl rfl (GA oM oM) (AA (YL .i64 (secret.length:Int) (threshold - (1:Int)) ((secret.length:Int)*(threshold - (1:Int))) rfl rfl (GA (mulb oM oM oM oM) rfl) (AA (CM .i64 (coins.length:Int) ((secret.length:Int)*(threshold - (1:Int))) rfl rfl (AG (AB (AJ ((coins.length:Int) != ((secret.length:Int)*(threshold - (1:Int)))) rfl rfl (fun d4=>?_) (fun d4=>?_))))))))))))))))))))))))
    ·have p8:(coins.length:Int)≠(secret.length:Int)*(threshold - (1:Int)):=by simpa using d4
     refine AF (AC kR (AA (AD (nS) rfl (AA (AD (vI 1) rfl (AG (AB (AM (AI (AS rfl (EJ rfl rfl rfl rfl) (?_)))))))))))
     have e:(EF secret epoch threshold many coins)=([],(1:Int)):=by exact HJ (by unfold DN;((repeat (first|(refine (if_pos ?_).trans ?_;omega)|(refine (if_neg ?_).trans ?_;omega)));rfl)) (by decide)
     exact ⟨_,rfl,s0.keep,by rw [e];exact ⟨.slice none 0 0,rfl,BB.nil _ _ _⟩⟩
    have i5:(coins.length:Int)=(secret.length:Int)*(threshold - (1:Int)):=by simpa using d4
    have hcl:(coins.length:Int)=(secret.length:Int)*(threshold - 1):=i5
    have hpl:=polyL (n:=secret.length) oM oM oM hcl
    refine AR (AB (AF (AC kR (AA (AD (.slice none 0 0) rfl (AG (AB (AF (AF (AC kR (AA (AD (vI 1) rfl (AG (AB (BD (DB (fun mI FI wI=>∃ (i:Nat) (a4:Value) (B:List Nat),i≤many.toNat∧mI=many.toNat - i∧(∃ F1,FI=GD F1 [(0,secret_v),(1,vI epoch),(2,vI threshold),(3,vI many),(4,coins_v),(12,a4),(13,vI ((i+1:Nat):Int)),(92,undef)])∧St w O wI B∧EX Enc.share 49 w.heap.size (B++O) wI a4 ((FY secret epoch threshold many coins i))∧(∀ b,a4.ownBlock=some b→b∈B)∧BB Enc.u8 wI (B++O) (secret_v) (secret)∧BB Enc.u8 wI (B++O) (coins_v) (coins)) (many.toNat - (0)) ?_ ?_))))))))))))))))
    ·exact ⟨(0),(.slice none 0 0),[],oM,rfl,⟨_,AX _ ⟨rfl,rfl,rfl,rfl,rfl,rfl,(by rfl),rfl,trivial⟩⟩,s0,(by rw [show (FY secret epoch threshold many coins (0))=[] from rfl];exact (EX.nil Enc.share 49 _ _ _)),(by intro b hb;simp [Value.ownBlock] at hb),a0,a2⟩
    intro u1 F u2 hI
    clear a0 a2
    obtain ⟨i,a4,o7,hr0_0,u3,⟨u4,rfl⟩,i6,ho0_12,a6,a0,a2⟩:=hI
    refine AF (AF (AC kR (AA (AE (vI ((i+1:Nat):Int)) rfl (AA (AE (vI many) rfl (AA (UA .i64 ((i+1:Nat):Int) many rfl rfl (AG (AB (AJ (decide (((i+1:Nat):Int)≤many)) rfl rfl (fun d5=>?_) (fun d5=>?_))))))))))))
    ·have p9:((i+1:Nat):Int)≤many:=by simpa using d5
     refine AR (AB (AF (BD (AF (AC kR (AA (AE (vI epoch) rfl (AA (AE (vI ((i+1:Nat):Int)) rfl (AA (AE (vI threshold) rfl (AA (AE (vI many) rfl (AA (EG (l:=[(0, .tmp 50),(1, .tmp 51),(2, .tmp 52),(3, .tmp 53)]) pl_49 NH rfl [(0,vI epoch,[vI epoch]),(1,vI ((i+1:Nat):Int),[vI ((i+1:Nat):Int)]),(2,vI threshold,[vI threshold]),(3,vI many,[vI many])] [vI epoch,vI ((i+1:Nat):Int),vI threshold,vI many,nS] rfl ⟨_,rfl,rfl,oT,⟨_,rfl,rfl,oT,⟨_,rfl,rfl,oT,⟨_,rfl,rfl,oT,rfl⟩⟩⟩⟩ (AA (CZ [vI 0,vI 0,vI 0,vI 0,nS] NH rfl i6 fun a5 r6 k7 k8 e5 k9 i7=>(?_))))))))))))))))))
     have d6:∀ b,a4.ownBlock=some b→b≠a5:=fun b hb=>by have:=(ho0_12.lt b hb).2;omega
     have a6:∀ b,a4.ownBlock=some b→b∈(a5 :: o7):=fun b hb=>List.mem_cons_of_mem _ (a6 b hb)
     clear k7
     have a0:=a0.mv e5
     have a2:=a2.mv e5
     have ho0_12:=ho0_12.mv e5 k9 (by simp)
     refine CC (BF (vs:=[vI epoch,vI ((i+1:Nat):Int),vI threshold,vI many,nS]) (.agg #[vI epoch,vI ((i+1:Nat):Int),vI threshold,vI many,nS]) rfl rfl rfl DO (fun u hu=>by simp only [List.mem_cons,List.not_mem_nil,or_false] at hu;rcases hu with rfl|rfl|rfl|rfl|rfl <;> rfl) (by repeat (constructor)) i7 oT k8 fun r7 l0 e6 l1 i8=>(?_))
     have a0:=a0.mv e6
     have a2:=a2.mv e6
     have ho0_12:=ho0_12.mv e6 l1 (fun b hb=>BH (d6 b hb))
     refine AG (AB (AF (AF (AC kR (AA (AD (vI 0) rfl (AG (AB (BD (DB (fun mI FI wI=>∃ (k:Nat) (a3:Value) (B:List Nat),k≤secret.length∧mI=secret.length - k∧(∃ F1,FI=GD F1 [(0,secret_v),(1,vI epoch),(2,vI threshold),(3,vI many),(4,coins_v),(12,a4),(13,vI ((i+1:Nat):Int)),(14,vP (some ⟨a5,0,none⟩)),(15,vI ((k:Nat):Int)),(92,undef)])∧St w O wI B∧EX Enc.u8 5 w.heap.size (B++O) wI a3 ((XD k fun q=>FQ (JC secret coins threshold q) (DZ ((i+1:Nat):Int))))∧(∀ b,a3.ownBlock=some b→b∈B)∧BB Enc.u8 wI (B++O) (secret_v) (secret)∧BB Enc.u8 wI (B++O) (coins_v) (coins)∧EX Enc.share 49 w.heap.size (B++O) wI a4 ((FY secret epoch threshold many coins i))∧(∀ b,a4.ownBlock=some b→b∈B)∧IX wI a5 49 [vI epoch,vI ((i+1:Nat):Int),vI threshold,vI many,a3]∧a5∈B∧(∀ b,a3.ownBlock=some b→b≠a5)∧(∀ b,a3.ownBlock=some b→a4.ownBlock≠some b)∧(∀ b,a4.ownBlock=some b→a3.ownBlock≠some b)) (secret.length - (0)) ?_ ?_))))))))))
     ·exact ⟨(0),(.slice none 0 0),(a5 :: o7),oM,rfl,⟨_,AX _ ⟨rfl,rfl,rfl,rfl,rfl,rfl,rfl,rfl,(by rfl),rfl,trivial⟩⟩,l0,(by rw [show (XD (0) fun q=>FQ (JC secret coins threshold q) (DZ ((i+1:Nat):Int)))=[] from rfl];exact (EX.nil Enc.u8 5 _ _ _)),(by intro b hb;simp [Value.ownBlock] at hb),a0,a2,ho0_12,a6,i8,(by (repeat (exact List.mem_cons_self))),(fun b hb=>by (simp [Value.ownBlock] at hb;done)),(fun b hb=>by (simp [Value.ownBlock] at hb;done)),(fun b hb=>by (simp [Value.ownBlock];done))⟩
     intro u5 F b2 hI
     clear a0 a2 ho0_12 a6
     obtain ⟨k,a3,b0,hr1_0,u6,⟨u7,rfl⟩,h3,ho1_b1175_4,a9,a0,a2,ho0_12,a6,a1,b4,nb1_b1175_4_b1175,no1_b1175_4_vo0_12,np1_b1175_4_vo0_12⟩:=hI
     refine AF (AF (AC kR (AA (AE (vI ((k:Nat):Int)) rfl (AA (AE (secret_v) rfl (AA (BP U26_ rfl a0 (AA (DQ .i64 ((k:Nat):Int) (secret.length:Int) rfl rfl (AG (AB (AJ (decide (((k:Nat):Int)<(secret.length:Int))) rfl rfl (fun d7=>?_) (fun d7=>?_))))))))))))))
     ·have q0:((k:Nat):Int)<(secret.length:Int):=by simpa using d7
      refine AR (AB (AF (BD (AF (cw_draw' 16 _ _ [fun (vT:Value) (_:World)=>BB Enc.u8 b2 (b0++O) vT (secret),CQ (vI ((k:Nat):Int)),fun (vT:Value) (_:World)=>∃ aT,vT = .pointer (some aT)∧PT Enc.u8 b2 (b0++O) (.pointer (some aT)) (secret[k]!),CQ (vB (secret[k]!)),fun (vT:Value) (wT:World)=>∃ bT:Nat,vT.ownBlock=some bT∧b2.heap.size≤bT∧bT<wT.heap.size∧EX Enc.u8 5 w.heap.size ((bT :: b0)++O) wT vT ([secret[k]!]),fun (vT:Value) (_:World)=>BB Enc.u8 b2 (b0++O) vT (coins),CQ (vI ((k:Nat):Int)),CQ (vI threshold),CQ (vI (((threshold - 1).toNat:Nat):Int)),CQ (vI ((k*(threshold - 1).toNat:Nat):Int)),CQ (vI ((k:Nat):Int)),CQ (vI ((k+1:Nat):Int)),CQ (vI threshold),CQ (vI (((threshold - 1).toNat:Nat):Int)),CQ (vI (((k+1)*(threshold - 1).toNat:Nat):Int)),fun (vT:Value) (_:World)=>BB Enc.u8 b2 (b0++O) vT (((coins.take ((k+1)*(threshold - 1).toNat)).drop (k*(threshold - 1).toNat)))] kR kR kR kR rfl rfl ⟨fun _ _ _ h _=>h,kI,fun _ _ _ h _=>h,kI,fun _ _ _ ⟨b,e,h1,h2,h⟩ k=>⟨b,e,h1,Nat.lt_of_lt_of_le h2 k.size,h.mv (Mv.of_keep k) k (by simp)⟩,fun _ _ _ h _=>h,kI,kI,kI,kI,kI,kI,kI,kI,kI,fun _ _ _ h _=>h,trivial⟩ ⟨?_,?_,?_,?_,?_,?_,?_,?_,?_,?_,?_,?_,?_,?_,?_,?_,trivial⟩ ?_)))))
      ·intro F1 w1 k1 hf hd
       obtain ⟨F2,rfl⟩:=AK (F:=F1) [(0,secret_v)] ⟨hf 0 kR,trivial⟩
       exact AH rfl ((AE (secret_v) rfl (⟨(Keep.refl _ _),a0⟩)))
      ·intro F1 w1 k1 hf hd
       obtain ⟨F2,rfl⟩:=AK (F:=F1) [(15,vI ((k:Nat):Int))] ⟨hf 15 kR,trivial⟩
       exact AH rfl ((AE (vI ((k:Nat):Int)) rfl (⟨(Keep.refl _ _),rfl⟩)))
      ·intro F1 w1 k1 hf hd
       obtain ⟨l2,l3,f7⟩:∃ v,F1 61=v∧BB Enc.u8 b2 (b0++O) v (secret):=⟨_,rfl,hd 0 61 kR⟩
       have:=f7.len_le
       obtain ⟨F2,rfl⟩:=AK (F:=F1) [(61,l2),(62,vI ((k:Nat):Int))] ⟨l3,hd 1 62 kR,trivial⟩
       exact AH rfl ((o_idxU U26_ IZ .i64 ((k:Nat):Int) k rfl rfl rfl f7 oM fun l4 i9=>(⟨(Keep.refl _ _),⟨l4,rfl,i9⟩⟩)))
      ·intro F1 w1 k1 hf hd
       have k0:=(Keep.drew [] b2).trans k1
       obtain ⟨l5,l6,j0⟩:∃ aX_,F1 63 = .pointer (some aX_)∧PT Enc.u8 b2 (b0++O) (.pointer (some aX_)) (secret[k]!):=hd 2 63 kR
       obtain ⟨F2,rfl⟩:=AK (F:=F1) [(63,vP (some l5))] ⟨l6,trivial⟩
       exact AH rfl ((o_loadBU U5_ rfl rfl j0 k0 (⟨(Keep.refl _ _),rfl⟩)))
      ·intro F1 w1 k1 hf hd
       have k0:=(Keep.drew [] b2).trans k1
       have s1:=h3.call k0
       obtain ⟨F2,rfl⟩:=AK (F:=F1) [(64,vB (secret[k]!))] ⟨hd 3 64 kR,trivial⟩
       refine AH rfl ((JL (E:=Enc.u8) (xs:=[.tmp 64]) U26_ IZ z_5 (by decide) [vB (secret[k]!)] [[vB (secret[k]!)]] [secret[k]!] rfl rfl rfl (Parts.cons rfl rfl (Parts.nil _ _ _)) oT s1 fun r8 h4 r9 s2 f8 s3 s4 l7 f9=>(?_)))
       have j1:b2.heap.size≤h4:=by have:=k0.size;omega
       have j2:=(f9.lt h4 f8).2
       exact ⟨l7,⟨_,f8,j1,j2,f9⟩⟩
      ·intro F1 w1 k1 hf hd
       obtain ⟨F2,rfl⟩:=AK (F:=F1) [(4,coins_v)] ⟨hf 4 kR,trivial⟩
       exact AH rfl ((AE (coins_v) rfl (⟨(Keep.refl _ _),a2⟩)))
      ·intro F1 w1 k1 hf hd
       obtain ⟨F2,rfl⟩:=AK (F:=F1) [(15,vI ((k:Nat):Int))] ⟨hf 15 kR,trivial⟩
       exact AH rfl ((AE (vI ((k:Nat):Int)) rfl (⟨(Keep.refl _ _),rfl⟩)))
      ·intro F1 w1 k1 hf hd
       obtain ⟨F2,rfl⟩:=AK (F:=F1) [(2,vI threshold)] ⟨hf 2 kR,trivial⟩
       exact AH rfl ((AE (vI threshold) rfl (⟨(Keep.refl _ _),rfl⟩)))
      ·intro F1 w1 k1 hf hd
       obtain ⟨F2,rfl⟩:=AK (F:=F1) [(68,vI threshold)] ⟨hd 7 68 kR,trivial⟩
       exact AH rfl ((HK .i64 threshold (1:Int) ((((threshold - 1).toNat:Nat):Int)) rfl rfl (GA oM oM) (⟨(Keep.refl _ _),rfl⟩)))
      ·intro F1 w1 k1 hf hd
       obtain ⟨F2,rfl⟩:=AK (F:=F1) [(67,vI ((k:Nat):Int)),(69,vI (((threshold - 1).toNat:Nat):Int))] ⟨hd 6 67 kR,hd 8 69 kR,trivial⟩
       exact AH rfl ((YL .i64 ((k:Nat):Int) (((threshold - 1).toNat:Nat):Int) (((k*(threshold - 1).toNat:Nat):Int)) rfl rfl (GA (mulbN oM oM) (by simp)) (⟨(Keep.refl _ _),rfl⟩)))
      ·intro F1 w1 k1 hf hd
       obtain ⟨F2,rfl⟩:=AK (F:=F1) [(15,vI ((k:Nat):Int))] ⟨hf 15 kR,trivial⟩
       exact AH rfl ((AE (vI ((k:Nat):Int)) rfl (⟨(Keep.refl _ _),rfl⟩)))
      ·intro F1 w1 k1 hf hd
       obtain ⟨F2,rfl⟩:=AK (F:=F1) [(71,vI ((k:Nat):Int))] ⟨hd 10 71 kR,trivial⟩
       exact AH rfl ((DF .i64 ((k:Nat):Int) (1:Int) (((k+1:Nat):Int)) rfl rfl (GA oM oM) (⟨(Keep.refl _ _),rfl⟩)))
      ·intro F1 w1 k1 hf hd
       obtain ⟨F2,rfl⟩:=AK (F:=F1) [(2,vI threshold)] ⟨hf 2 kR,trivial⟩
       exact AH rfl ((AE (vI threshold) rfl (⟨(Keep.refl _ _),rfl⟩)))
      ·intro F1 w1 k1 hf hd
       obtain ⟨F2,rfl⟩:=AK (F:=F1) [(73,vI threshold)] ⟨hd 12 73 kR,trivial⟩
       exact AH rfl ((HK .i64 threshold (1:Int) ((((threshold - 1).toNat:Nat):Int)) rfl rfl (GA oM oM) (⟨(Keep.refl _ _),rfl⟩)))
      ·intro F1 w1 k1 hf hd
       obtain ⟨F2,rfl⟩:=AK (F:=F1) [(72,vI ((k+1:Nat):Int)),(74,vI (((threshold - 1).toNat:Nat):Int))] ⟨hd 11 72 kR,hd 13 74 kR,trivial⟩
       exact AH rfl ((YL .i64 ((k+1:Nat):Int) (((threshold - 1).toNat:Nat):Int) ((((k+1)*(threshold - 1).toNat:Nat):Int)) rfl rfl (GA (mulbN oM oM) (by simp)) (⟨(Keep.refl _ _),rfl⟩)))
      ·intro F1 w1 k1 hf hd
       obtain ⟨l8,l9,g0⟩:∃ v,F1 66=v∧BB Enc.u8 b2 (b0++O) v (coins):=⟨_,rfl,hd 5 66 kR⟩
       have:=g0.len_le
       obtain ⟨F2,rfl⟩:=AK (F:=F1) [(66,l8),(70,vI ((k*(threshold - 1).toNat:Nat):Int)),(75,vI (((k+1)*(threshold - 1).toNat:Nat):Int))] ⟨l9,hd 9 70 kR,hd 14 75 kR,trivial⟩
       refine AH rfl ((XP U26_ IZ (k*(threshold - 1).toNat) ((k+1)*(threshold - 1).toNat) rfl (.inr ⟨.tmp 70, .i64,((k*(threshold - 1).toNat:Nat):Int),rfl,rfl,oM⟩) (.inr ⟨.tmp 75, .i64,(((k+1)*(threshold - 1).toNat:Nat):Int),rfl,rfl,oM⟩) (Nat.mul_le_mul_right _ oM) (polyB oM oM hcl) g0 fun s5 j3=>(?_)))
       exact ⟨(Keep.refl _ _),j3⟩
      intro b7 h5 b9 b5 a7
      obtain ⟨m0,m2,j4⟩:∃ v,b7 61=v∧BB Enc.u8 b2 (b0++O) v (secret):=⟨_,rfl,b5 0 61 kR (by decide)⟩
      have:=j4.len_le
      obtain ⟨m3,m4,q1⟩:∃ aX_,b7 63 = .pointer (some aX_)∧PT Enc.u8 b2 (b0++O) (.pointer (some aX_)) (secret[k]!):=b5 2 63 kR (by decide)
      obtain ⟨m5,m6,j5⟩:∃ v,b7 66=v∧BB Enc.u8 b2 (b0++O) v (coins):=⟨_,rfl,b5 5 66 kR (by decide)⟩
      have:=j5.len_le
      obtain ⟨m7,m9,c0⟩:∃ v,b7 76=v∧BB Enc.u8 b2 (b0++O) v (((coins.take ((k+1)*(threshold - 1).toNat)).drop (k*(threshold - 1).toNat))):=⟨_,rfl,b5 15 76 kR (by decide)⟩
      have:=c0.len_le
      obtain ⟨b6,n2,b8,c1,g1,j6,j7⟩:∃ v,b7 65=v∧(fun (vT:Value) (wT:World)=>∃ bT:Nat,vT.ownBlock=some bT∧b2.heap.size≤bT∧bT<wT.heap.size∧EX Enc.u8 5 w.heap.size ((bT :: b0)++O) wT vT ([secret[k]!])) v h5:=⟨_,rfl,b5 4 65 kR (by decide)⟩
      have q2:HD a5 b8:=by show a5≠b8;have:=a1.lt;omega
      have g2:∀ b,b6.ownBlock=some b→b≠a5:=fun b hb=>by have:=a1.lt;rw [c1] at hb;cases hb;omega
      have d8:∀ b,a4.ownBlock=some b→b6.ownBlock≠some b:=fun b hb=>by have:=(ho0_12.lt b hb).2;rw [c1];intro e;cases e;omega
      have ne1244':∀ b,b6.ownBlock=some b→a4.ownBlock≠some b:=fun b hb e=>d8 b e hb
      have a6:∀ b,a4.ownBlock=some b→b∈(b8 :: b0):=fun b hb=>List.mem_cons_of_mem _ (a6 b hb)
      have d9:∀ b,a3.ownBlock=some b→b6.ownBlock≠some b:=fun b hb=>by have:=(ho1_b1175_4.lt b hb).2;rw [c1];intro e;cases e;omega
      have ne1245':∀ b,b6.ownBlock=some b→a3.ownBlock≠some b:=fun b hb e=>d9 b e hb
      have a9:∀ b,a3.ownBlock=some b→b∈(b8 :: b0):=fun b hb=>List.mem_cons_of_mem _ (a9 b hb)
      have j8:∀ b,b6.ownBlock=some b→b∈(b8 :: b0):=fun b hb=>by rw [c1] at hb;cases hb;simp
      have n3:=(h3.call b9).adopt (Nat.le_trans h3.keep.size g1) j6
      have c2:Mv b0 b2 (b8 :: b0) h5:=Mv.adopt b9 g1
      have a0:=a0.mv c2
      have a2:=a2.mv c2
      have ho0_12:=ho0_12.mv c2 b9 (by simp)
      have c0:=c0.mv c2
      have ho1_b1175_4:=ho1_b1175_4.mv c2 b9 (by simp)
      have a1:=a1.keep b9 (by simp)
      obtain ⟨F2,rfl⟩:=AK (F:=b7) [(0,secret_v),(1,vI epoch),(2,vI threshold),(3,vI many),(4,coins_v),(12,a4),(13,vI ((i+1:Nat):Int)),(14,vP (some ⟨a5,0,none⟩)),(15,vI ((k:Nat):Int)),(92,undef),(61,m0),(63,vP (some m3)),(65,b6),(66,m5),(76,m7)] ⟨a7 0 kR,a7 1 kR,a7 2 kR,a7 3 kR,a7 4 kR,a7 12 kR,a7 13 kR,a7 14 kR,a7 15 kR,a7 92 kR,m2,m4,n2,m6,m9,trivial⟩
      clear b5 a7
      refine AA (DS (E:=Enc.u8) (l:=[secret[k]!]) (m:=((coins.take ((k+1)*(threshold - 1).toNat)).drop (k*(threshold - 1).toNat))) U26_ i_5 rfl (by decide) rfl rfl j7 c0 (fun _ hb=>.inl hb) j8 (by simp only [List.length_cons,List.length_nil,List.length_drop,List.length_take];omega) (by simp only [List.length_cons,List.length_nil,List.length_drop,List.length_take,maxLen];omega) n3 fun b1 c3 b3 q3 e0 c6 e7 c7 e8 e2=>(?_))
      have q4:∀ b,a4.ownBlock=some b→b1.ownBlock≠some b:=fun b hb e=>by rcases e0 with e1|e1 <;> rw [e1] at e <;> first|(cases e;have:=(ho0_12.lt _ hb).2;omega)|(exact absurd e (d8 b hb))
      have q5:∀ b,a3.ownBlock=some b→b1.ownBlock≠some b:=fun b hb e=>by rcases e0 with e1|e1 <;> rw [e1] at e <;> first|(cases e;have:=(ho1_b1175_4.lt _ hb).2;omega)|(exact absurd e (d9 b hb))
      have q6:∀ b,b1.ownBlock=some b→b≠a5:=fun b hb=>by rcases e0 with e1|e1 <;> rw [e1] at hb <;> first|(cases hb;have:=a1.lt;omega)|(exact g2 b hb)
      have a6:∀ b,a4.ownBlock=some b→b∈b3:=fun b hb=>c6 b (a6 b hb)
      have a9:∀ b,a3.ownBlock=some b→b∈b3:=fun b hb=>c6 b (a9 b hb)
      have b4:a5∈b3:=c6 a5 rC
      have a0:=a0.mv c7
      have a2:=a2.mv c7
      have ho0_12:=ho0_12.mv c7 e8 (fun b hb=>by simp only [Option.mem_toList];exact d8 b hb)
      have ho1_b1175_4:=ho1_b1175_4.mv c7 e8 (fun b hb=>by simp only [Option.mem_toList];exact d9 b hb)
      have a1:=a1.keep e8 (by simp only [Option.mem_toList];exact fun e=>absurd rfl (g2 _ e))
      refine AA (AD (b1) rfl (AG (AB (cw_draw' 7 _ _ [CQ (vP (some ⟨a5,4,none⟩)),CQ a3,CQ b1,CQ (vI ((i+1:Nat):Int)),CQ (vB (DZ ((i+1:Nat):Int))),CQ (vB (FQ (([secret[k]!])++((coins.take ((k+1)*(threshold - 1).toNat)).drop (k*(threshold - 1).toNat))) (DZ ((i+1:Nat):Int)))),fun (vT:Value) (wT:World)=>BB Enc.u8 wT (b3++O) vT ([FQ (([secret[k]!])++((coins.take ((k+1)*(threshold - 1).toNat)).drop (k*(threshold - 1).toNat))) (DZ ((i+1:Nat):Int))])] kR kR kR kR rfl rfl ⟨kI,kI,kI,kI,kI,kI,fun _ _ _ h k=>h.mv (Mv.of_keep k),trivial⟩ ⟨?_,?_,?_,?_,?_,?_,?_,trivial⟩ ?_))))
      ·intro F1 w1 k1 hf hd
       obtain ⟨F2,rfl⟩:=AK (F:=F1) [(14,vP (some ⟨a5,0,none⟩))] ⟨hf 14 kR,trivial⟩
       exact AH rfl ((AT 4 FX rfl (⟨(Keep.refl _ _),rfl⟩)))
      ·intro F1 w1 k1 hf hd
       have k0:=(Keep.drew [] c3).trans k1
       have a1:=a1.keep k0 (by simp)
       obtain ⟨F2,rfl⟩:=AK (F:=F1) [(78,vP (some ⟨a5,4,none⟩))] ⟨hd 0 78 kR,trivial⟩
       exact AH rfl ((AU U26_ rfl (a3) rfl a1 rfl (⟨(Keep.refl _ _),rfl⟩)))
      ·intro F1 w1 k1 hf hd
       obtain ⟨F2,rfl⟩:=AK (F:=F1) [(16,b1)] ⟨hf 16 kR,trivial⟩
       exact AH rfl ((AE (b1) rfl (⟨(Keep.refl _ _),rfl⟩)))
      ·intro F1 w1 k1 hf hd
       obtain ⟨F2,rfl⟩:=AK (F:=F1) [(13,vI ((i+1:Nat):Int))] ⟨hf 13 kR,trivial⟩
       exact AH rfl ((AE (vI ((i+1:Nat):Int)) rfl (⟨(Keep.refl _ _),rfl⟩)))
      ·intro F1 w1 k1 hf hd
       obtain ⟨F2,rfl⟩:=AK (F:=F1) [(81,vI ((i+1:Nat):Int))] ⟨hd 3 81 kR,trivial⟩
       exact AH rfl ((PI .i64 U3_ U5_ ((i+1:Nat):Int) rfl (⟨(Keep.refl _ _),rfl⟩)))
      ·intro F1 w1 k1 hf hd
       have k0:=(Keep.drew [] c3).trans k1
       have s1:=e7.call k0
       have m1:Mv b3 c3 b3 w1:=Mv.of_keep k0
       have e2:=e2.mv m1 k0 (by simp)
       obtain ⟨F2,rfl⟩:=AK (F:=F1) [(80,b1),(82,vB (DZ ((i+1:Nat):Int)))] ⟨hd 2 80 kR,hd 4 82 kR,trivial⟩
       refine AH rfl ((AZ (vs:=[b1,vB (DZ ((i+1:Nat):Int))]) enter_69 (c_refEval (O:=[]) b1 (([secret[k]!])++((coins.take ((k+1)*(threshold - 1).toNat)).drop (k*(threshold - 1).toNat))) (DZ ((i+1:Nat):Int)) w1 e2.rd0 NS) rfl s1 fun s6 s7 s8 s9 n4 n5=>(?_)))
       obtain rfl:=n5
       exact ⟨n4,rfl⟩
      ·intro F1 w1 k1 hf hd
       have k0:=(Keep.drew [] c3).trans k1
       have s1:=e7.call k0
       obtain ⟨F2,rfl⟩:=AK (F:=F1) [(83,vB (FQ (([secret[k]!])++((coins.take ((k+1)*(threshold - 1).toNat)).drop (k*(threshold - 1).toNat))) (DZ ((i+1:Nat):Int))))] ⟨hd 5 83 kR,trivial⟩
       refine AH rfl ((JG (E:=Enc.u8) (xs:=[.tmp 83]) U26_ IZ z_5 (by decide) [vB (FQ (([secret[k]!])++((coins.take ((k+1)*(threshold - 1).toNat)).drop (k*(threshold - 1).toNat))) (DZ ((i+1:Nat):Int)))] [[vB (FQ (([secret[k]!])++((coins.take ((k+1)*(threshold - 1).toNat)).drop (k*(threshold - 1).toNat))) (DZ ((i+1:Nat):Int)))]] [FQ (([secret[k]!])++((coins.take ((k+1)*(threshold - 1).toNat)).drop (k*(threshold - 1).toNat))) (DZ ((i+1:Nat):Int))] rfl rfl rfl (Parts.cons rfl rfl (Parts.nil _ _ _)) oT s1 fun t0 t2 t3 t4 n6 g3=>(?_)))
       have:=g3.len_le
       exact ⟨n6,g3⟩
      intro h6 h7 c4 e3 a8
      have n7:=e7.call c4
      have c8:Mv b3 c3 b3 h7:=Mv.of_keep c4
      have a0:=a0.mv c8
      have a2:=a2.mv c8
      have ho0_12:=ho0_12.mv c8 c4 (by simp)
      have ho1_b1175_4:=ho1_b1175_4.mv c8 c4 (by simp)
      have a1:=a1.keep c4 (by simp)
      obtain ⟨n9,o0,g4⟩:∃ v,h6 84=v∧BB Enc.u8 h7 (b3++O) v ([FQ (([secret[k]!])++((coins.take ((k+1)*(threshold - 1).toNat)).drop (k*(threshold - 1).toNat))) (DZ ((i+1:Nat):Int))]):=⟨_,rfl,e3 6 84 kR (by decide)⟩
      have:=g4.len_le
      obtain ⟨F2,rfl⟩:=AK (F:=h6) [(0,secret_v),(1,vI epoch),(2,vI threshold),(3,vI many),(4,coins_v),(12,a4),(13,vI ((i+1:Nat):Int)),(14,vP (some ⟨a5,0,none⟩)),(15,vI ((k:Nat):Int)),(92,undef),(79,a3),(84,n9)] ⟨a8 0 kR,a8 1 kR,a8 2 kR,a8 3 kR,a8 4 kR,a8 12 kR,a8 13 kR,a8 14 kR,a8 15 kR,a8 92 kR,e3 1 79 kR (by decide),o0,trivial⟩
      clear e3 a8
      refine AA (DS (E:=Enc.u8) (l:=(XD k fun q=>FQ (JC secret coins threshold q) (DZ ((i+1:Nat):Int)))) (m:=[FQ (([secret[k]!])++((coins.take ((k+1)*(threshold - 1).toNat)).drop (k*(threshold - 1).toNat))) (DZ ((i+1:Nat):Int))]) U26_ i_5 rfl (by decide) rfl rfl ho1_b1175_4 g4 (fun _ hb=>.inl hb) a9 (by rw [LA];simp;omega) (by rw [LA];simp [maxLen];omega) n7 fun c9 t5 e9 j9 g5 e4 o1 f0 h8 c5=>(?_))
      have g6:∀ b,a4.ownBlock=some b→c9.ownBlock≠some b:=fun b hb e=>by rcases g5 with e1|e1 <;> rw [e1] at e <;> first|(cases e;have:=(ho0_12.lt _ hb).2;omega)|(exact absurd e (np1_b1175_4_vo0_12 b hb))
      have g7:∀ b,c9.ownBlock=some b→b≠a5:=fun b hb=>by rcases g5 with e1|e1 <;> rw [e1] at hb <;> first|(cases hb;have:=a1.lt;omega)|(exact nb1_b1175_4_b1175 b hb)
      have a6:∀ b,a4.ownBlock=some b→b∈e9:=fun b hb=>e4 b (a6 b hb)
      have b4:a5∈e9:=e4 a5 (by repeat (assumption))
      have a0:=a0.mv f0
      have a2:=a2.mv f0
      have ho0_12:=ho0_12.mv f0 h8 (fun b hb=>by simp only [Option.mem_toList];exact np1_b1175_4_vo0_12 b hb)
      have a1:=a1.keep h8 (by simp only [Option.mem_toList];exact fun e=>absurd rfl (nb1_b1175_4_b1175 _ e))
      refine AA (AT 4 FX rfl (CC (CN (c9) rfl rfl c5.oneCell s_26 (by repeat (assumption)) a1 oT o1 fun t6 o2 d0 h9 k2=>(?_))))
      have a0:=a0.mv d0
      have a2:=a2.mv d0
      have ho0_12:=ho0_12.mv d0 h9 (fun b hb=>BH (d6 b hb))
      have c5:=c5.mv d0 h9 (fun b hb=>BH (g7 b hb))
      refine AG (CB (AB (AC kR (AA (AE (vI ((k:Nat):Int)) rfl (AA (DF .i64 ((k:Nat):Int) (1:Int) (((k+1:Nat):Int)) rfl rfl (GA oM oM) (AA (AD (vI ((k+1:Nat):Int)) rfl (AG (AB (?_))))))))))))
      exact ⟨_,oM,(k+1),c9,e9,oM,rfl,⟨_,AX _ ⟨rfl,rfl,rfl,rfl,rfl,rfl,rfl,rfl,(by rfl),rfl,trivial⟩⟩,o2,(by rw [show (XD (k+1) fun q=>FQ (JC secret coins threshold q) (DZ ((i+1:Nat):Int)))=(XD k fun q=>FQ (JC secret coins threshold q) (DZ ((i+1:Nat):Int)))++([FQ (([secret[k]!])++((coins.take ((k+1)*(threshold - 1).toNat)).drop (k*(threshold - 1).toNat))) (DZ ((i+1:Nat):Int))]) from tab_succ _ _];exact c5),j9,a0,a2,ho0_12,a6,k2,aS,g7,(fun b hb e=>g6 b e hb),g6⟩
     have q7:(secret.length:Int)≤((k:Nat):Int):=by simpa using d7
     obtain rfl:k=secret.length:=by omega
     refine DA (BN (BN (CO (AB (AC kR (AA (AE (a4) rfl (AA (BS (vs:=[vI epoch,vI ((i+1:Nat):Int),vI threshold,vI many,a3]) U49_ rfl DO rfl a1 rfl (?_))))))))))
     obtain ⟨i0,o3,f1,g8,g9⟩:=ho1_b1175_4.publish h3
     have a6:∀ b,a4.ownBlock=some b→b∈i0:=fun b hb=>g9 b (a6 b hb) (np1_b1175_4_vo0_12 b hb)
     have b4:a5∈i0:=g9 a5 (by repeat (assumption)) (fun e=>absurd rfl (nb1_b1175_4_b1175 _ e))
     have o8:=g8.len_le
     have a0:=a0.mv f1
     have a2:=a2.mv f1
     have ho0_12:=ho0_12.mv f1 (Keep.refl [] _) (by simp)
     have a1:=a1.keep (Keep.refl [] _) (by simp)
     refine AA (JG (E:=Enc.share) (xs:=[.tmp 88]) U27_ DO NH (by decide) [.agg #[vI epoch,vI ((i+1:Nat):Int),vI threshold,vI many,a3]] [[vI epoch,vI ((i+1:Nat):Int),vI threshold,vI many,a3]] [(⟨epoch,((i+1:Nat):Int),threshold,many,(XD secret.length fun q=>FQ (JC secret coins threshold q) (DZ ((i+1:Nat):Int)))⟩:Share)] rfl rfl rfl (Parts.cons rfl ⟨_,rfl,g8⟩ (Parts.nil _ _ _)) oT o3 fun t7 t8 o4 f2 i1 h0=>(?_))
     have a0:=a0.mv f2
     have a2:=a2.mv f2
     have ho0_12:=ho0_12.mv f2 i1 (by simp)
     have a1:=a1.keep i1 (by simp)
     have:=h0.len_le
     refine AA (DS (E:=Enc.share) (l:=(FY secret epoch threshold many coins i)) (m:=[(⟨epoch,((i+1:Nat):Int),threshold,many,(XD secret.length fun q=>FQ (JC secret coins threshold q) (DZ ((i+1:Nat):Int)))⟩:Share)]) U27_ i_49 rfl (by decide) rfl rfl ho0_12 h0 (fun _ hb=>.inl hb) a6 (by rw [QW];simp;omega) (by rw [QW];simp [maxLen];omega) o4 fun f3 t9 i2 k3 k4 i4 o5 i3 u0 k5=>(?_))
     have q8:∀ b,f3.ownBlock=some b→b≠a5:=fun b hb=>by rcases k4 with e1|e1 <;> rw [e1] at hb <;> first|(cases hb;have:=a1.lt;omega)|(exact d6 b hb)
     have b4:a5∈i2:=i4 a5 (by repeat (assumption))
     have a0:=a0.mv i3
     have a2:=a2.mv i3
     refine AA (AD (f3) rfl (AG (CB (AB (AC kR (AA (AE (vI ((i+1:Nat):Int)) rfl (AA (DF .i64 ((i+1:Nat):Int) (1:Int) (((i+1+1:Nat):Int)) rfl rfl (GA oM oM) (AA (AD (vI ((i+1+1:Nat):Int)) rfl (AG (AB (?_))))))))))))))
     exact ⟨_,oM,(i+1),f3,i2,oM,rfl,⟨_,AX _ ⟨rfl,rfl,rfl,rfl,rfl,rfl,(by rfl),rfl,trivial⟩⟩,o5,(by rw [show (FY secret epoch threshold many coins (i+1))=(FY secret epoch threshold many coins i)++([(⟨epoch,((i+1:Nat):Int),threshold,many,(XD secret.length fun q=>FQ (JC secret coins threshold q) (DZ ((i+1:Nat):Int)))⟩:Share)]) from XB _ _ _ _ _ _];exact k5),k3,a0,a2⟩
    have q9:many<((i+1:Nat):Int):=by simpa using d5
    obtain rfl:i=many.toNat:=by omega
    refine DA (BN (BN (CO (AB (AF (AC kR (AA (AE (a4) rfl (AA (AD (a4) rfl (AA (AD (vI 0) rfl (AG (AB (AM (AS rfl (EJ rfl rfl rfl rfl) (?_)))))))))))))))))
    have e:(EF secret epoch threshold many coins)=((FY secret epoch threshold many coins many.toNat),(0:Int)):=by exact refSplitM_ok (by unfold DN;((repeat ((refine (if_neg ?_).trans ?_;omega)));rfl)) rfl
    exact ⟨_,rfl,i6.keep,by rw [e];exact ⟨a4,rfl,ho0_12.pub i6⟩⟩
   have r0:epoch<(0:Int):=by simpa using f6
   refine AL rfl (AL rfl (AA (AQ (vO true) rfl rfl (AG (AB (AJ true rfl rfl (fun _=>AF (AC kR (AA (AD (nS) rfl (AA (AD (vI 81) rfl (AG (AB (AM (AI (AS rfl (EJ rfl rfl rfl rfl) (?_)))))))))))) (fun h=>by cases h)))))))
   have e:(EF secret epoch threshold many coins)=([],(81:Int)):=by exact HJ (by unfold DN;((repeat (first|(refine (if_pos ?_).trans ?_;omega)|(refine (if_neg ?_).trans ?_;omega)));rfl)) (by decide)
   exact ⟨_,rfl,s0.keep,by rw [e];exact ⟨.slice none 0 0,rfl,BB.nil _ _ _⟩⟩
  have r4:many<threshold:=by simpa using f5
  refine AL rfl (AL rfl (AA (AQ (vO true) rfl rfl (AG (AB (AJ true rfl rfl (fun _=>AF (AC kR (AA (AD (nS) rfl (AA (AD (vI 80) rfl (AG (AB (AM (AI (AS rfl (EJ rfl rfl rfl rfl) (?_)))))))))))) (fun h=>by cases h)))))))
  have e:(EF secret epoch threshold many coins)=([],(80:Int)):=by exact HJ (by unfold DN;((repeat (first|(refine (if_pos ?_).trans ?_;omega)|(refine (if_neg ?_).trans ?_;omega)));rfl)) (by decide)
  exact ⟨_,rfl,s0.keep,by rw [e];exact ⟨.slice none 0 0,rfl,BB.nil _ _ _⟩⟩
 have r5:threshold<(1:Int):=by simpa using f4
 refine AL rfl (AL rfl (AL rfl (AA (AQ (vO true) rfl rfl (AA (AE (vO true) rfl (AL rfl (AL rfl (AA (AQ (vO true) rfl rfl (AG (AB (AJ true rfl rfl (fun _=>AF (AC kR (AA (AD (nS) rfl (AA (AD (vI 80) rfl (AG (AB (AM (AI (AS rfl (EJ rfl rfl rfl rfl) (?_)))))))))))) (fun h=>by cases h))))))))))))))
 have e:(EF secret epoch threshold many coins)=([],(80:Int)):=by exact HJ (by unfold DN;((repeat (first|(refine (if_pos ?_).trans ?_;omega)|(refine (if_neg ?_).trans ?_;omega)));rfl)) (by decide)
 exact ⟨_,rfl,s0.keep,by rw [e];exact ⟨.slice none 0 0,rfl,BB.nil _ _ _⟩⟩
open Go.Fw Go.RowKit
set_option maxHeartbeats 4000000 in
set_option maxRecDepth 100000 in
theorem YR {O:List Nat} (l_v:Value) (l:List Share) (w:World) (a2:BB Enc.share w O l_v l) (hO:∀ b∈O,b<w.heap.size):CA Tryz.prog 36 [l_v] w (fun v w'=>∃ (x0:Value),v = .tuple #[x0,vI ((CG l).2)]∧BB Enc.u8 w' (O) x0 ((CG l).1)):= by
 have j5:=a2.len_le
 have a2:BB Enc.share w ([]++O) l_v l:=a2
 have s0:St w O w []:=St.start hO
 refine BE 54 Tryz.func36 rfl rfl oT (fun F0=>AF (AC kR (AA (AD (nS) rfl (AA (AD (vI 0) rfl (AG (AB (AF (AC kR (AA (AE (l_v) rfl (AA (AZ (vs:=[l_v]) enter_74 (TX (O:=[]++O) l_v l w a2 s0.lt) rfl s0 fun j6 j7 d2 g8 j8 g9=>(?_)))))))))))))))
 obtain rfl:=g9
 have a2:=a2.mv g8
 refine AA (AD (vI (CI l)) rfl (AG (AB (AF (AF (AC kR (AA (AE (vI (CI l)) rfl (AA (CM .i64 (CI l) (0:Int) rfl rfl (AG (AB (AJ ((CI l) != (0:Int)) rfl rfl (fun c3=>?_) (fun c3=>?_))))))))))))))
 ·have i5:CI l≠(0:Int):=by simpa using c3
  refine AF (AC kR (AA (AE (vI (CI l)) rfl (AA (AD (nS) rfl (AA (AD (vI (CI l)) rfl (AG (AB (AM (AI (AS rfl (EJ rfl rfl rfl rfl) (?_)))))))))))))
  have e:(CG l)=([],CI l):=by exact refJoinM_bad oM rfl
  exact ⟨_,rfl,d2.keep,by rw [e];exact ⟨.slice none 0 0,rfl,BB.nil _ _ _⟩⟩
 have f4:CI l=(0:Int):=by simpa using c3
 have hv:=(FW l).1 (by rw [← JQ];exact f4)
 have hpos:=hv.pos
 have ht1:=hv.t1
 have htm:=hv.tm
 have m5:=hv.m8
 have m0:=hv.d64
 refine AR (AB (AF (AF (AC kR (AA (AE (l_v) rfl (AA (BP U27_ rfl a2 (AA (AE (l_v) rfl (AA (CR U27_ DO .i64 (0:Int) 0 rfl rfl rfl a2 oM fun j9 f5=>(AA (AY 2 HP ((l[0]!).threshold) rfl f5 (fun _ _ _ h=>HC h) fun k0 f6=>(AA (BK U3_ rfl rfl f6 (AA (DQ .i64 (l.length:Int) ((l[0]!).threshold) rfl rfl (AG (AB (AJ (decide ((l.length:Int)<(l[0]!).threshold)) rfl rfl (fun c4=>?_) (fun c4=>?_))))))))))))))))))))))
 ·have i6:(l.length:Int)<(l[0]!).threshold:=by simpa using c4
  refine AF (AC kR (AA (AD (nS) rfl (AA (AD (vI 80) rfl (AG (AB (AM (AI (AS rfl (EJ rfl rfl rfl rfl) (?_)))))))))))
  have e:(CG l)=([],(80:Int)):=by exact refJoinM_few oM oM rfl
  exact ⟨_,rfl,d2.keep,by rw [e];exact ⟨.slice none 0 0,rfl,BB.nil _ _ _⟩⟩
 have i7:(l[0]!).threshold≤(l.length:Int):=by simpa using c4
 have htk:(l.take (l[0]!.threshold).toNat).length=l[0]!.threshold.toNat:=by rw [List.length_take];omega
 refine AR (AB (AF (AC kR (AA (AD (.slice none 0 0) rfl (AG (AB (AF (AF (AC kR (AA (AD (vI 0) rfl (AG (AB (BD (DB (fun mI FI wI=>∃ (k:Nat) (a4:Value) (B:List Nat),k≤l[0]!.data.length∧mI=l[0]!.data.length - k∧(∃ F1,FI=GD F1 [(0,l_v),(5,a4),(6,vI ((k:Nat):Int)),(54,undef)])∧St w O wI B∧EX Enc.u8 5 w.heap.size (B++O) wI a4 ((HE l k))∧(∀ b,a4.ownBlock=some b→b∈B)∧BB Enc.share wI (B++O) (l_v) (l)) (l[0]!.data.length - (0)) ?_ ?_))))))))))))))))
 ·exact ⟨(0),(.slice none 0 0),[],oM,rfl,⟨_,AX _ ⟨rfl,rfl,(by rfl),rfl,trivial⟩⟩,d2,(by rw [show (HE l (0))=[] from rfl];exact (EX.nil Enc.u8 5 _ _ _)),(by intro b hb;simp [Value.ownBlock] at hb),a2⟩
 intro m6 F m7 hI
 clear a2
 obtain ⟨k,a4,i8,hr0_0,m9,⟨n2,rfl⟩,f7,ho0_5,b2,a2⟩:=hI
 refine AF (AF (AC kR (AA (AE (vI ((k:Nat):Int)) rfl (AA (AE (l_v) rfl (AA (CR U27_ DO .i64 (0:Int) 0 rfl rfl rfl a2 oM fun h0 a6=>(AA (AY 4 FX ((l[0]!).data) rfl a6 (fun _ _ _ h=>FB h) fun h1 a7=>(AA (BL U26_ rfl rfl a7 fun h2 a5=>(?_)))))))))))))
 have:=a5.len_le
 refine AA (BP U26_ rfl a5 (AA (DQ .i64 ((k:Nat):Int) (((l[0]!).data).length:Int) rfl rfl (AG (AB (AJ (decide (((k:Nat):Int)<(((l[0]!).data).length:Int))) rfl rfl (fun c5=>?_) (fun c5=>?_)))))))
 ·have i9:((k:Nat):Int)<(((l[0]!).data).length:Int):=by simpa using c5
  refine AR (AB (AF (BD (AF (AC kR (AA (AE (l_v) rfl (AA (AE (l_v) rfl (AA (CR U27_ DO .i64 (0:Int) 0 rfl rfl rfl a2 oM fun h3 a8=>(AA (AY 2 HP ((l[0]!).threshold) rfl a8 (fun _ _ _ h=>HC h) fun h4 a9=>(AA (BK U3_ rfl rfl a9 (AA (NU U27_ DO 0 (((l[0]!).threshold).toNat) rfl (.inl ⟨rfl,rfl⟩) (.inr ⟨.tmp 37, .i64,((l[0]!).threshold),rfl,rfl,oM⟩) oM oM a2 fun b7 a3=>(?_))))))))))))))))))
  rw [List.drop_zero] at a3
  refine AA (AE (vI ((k:Nat):Int)) rfl (AA (LM [b7,vI ((k:Nat):Int)] _ enter_80 rfl (CE 37 Tryz.func80 rfl rfl oT (fun k1=>AF (AC kR (AA (AD (nS) rfl (AA (AD (nS) rfl (AG (AB (AF (AC kR (AA (AD (.slice none 0 0) rfl (AA (AD (.slice none 0 0) rfl (AG (AB (AF (AF (AC kR (AA (AD (vI 0) rfl (AG (AB (BD (DB (fun mI FI wI=>∃ (q:Nat) (a1:Value) (a0:Value) (B:List Nat),q≤(l.take (l[0]!.threshold).toNat).length∧mI=(l.take (l[0]!.threshold).toNat).length - q∧(∃ F1,FI=GD F1 [(0,b7),(1,vI ((k:Nat):Int)),(6,a1),(7,a0),(8,vI ((q:Nat):Int)),(37,undef)])∧St w O wI B∧EX Enc.u8 5 w.heap.size (B++O) wI a1 ((UD (l.take (l[0]!.threshold).toNat) q))∧(∀ b,a1.ownBlock=some b→b∈B)∧EX Enc.u8 5 w.heap.size (B++O) wI a0 ((UG (l.take (l[0]!.threshold).toNat) k q))∧(∀ b,a0.ownBlock=some b→b∈B)∧BB Enc.share wI (B++O) (b7) ((l.take (((l[0]!).threshold).toNat)))∧BB Enc.share wI (B++O) (l_v) (l)∧EX Enc.u8 5 w.heap.size (B++O) wI a4 ((HE l k))∧(∀ b,a4.ownBlock=some b→b∈B)∧PT Enc.share wI (B++O) (.pointer (some h0)) (l[0]!)∧PT (Enc.slice Enc.u8) wI (B++O) (.pointer (some h1)) ((l[0]!).data)∧BB Enc.u8 wI (B++O) (h2) ((l[0]!).data)∧PT Enc.share wI (B++O) (.pointer (some h3)) (l[0]!)∧PT Enc.int wI (B++O) (.pointer (some h4)) ((l[0]!).threshold)∧(∀ b,a1.ownBlock=some b→a4.ownBlock≠some b)∧(∀ b,a4.ownBlock=some b→a1.ownBlock≠some b)∧(∀ b,a0.ownBlock=some b→a4.ownBlock≠some b)∧(∀ b,a4.ownBlock=some b→a0.ownBlock≠some b)∧(∀ b,a1.ownBlock=some b→a0.ownBlock≠some b)∧(∀ b,a0.ownBlock=some b→a1.ownBlock≠some b)) ((l.take (l[0]!.threshold).toNat).length - (0)) ?_ ?_)))))))))))))))))))))))))) (fun _ _ h=>h))))
  ·exact ⟨(0),(.slice none 0 0),(.slice none 0 0),i8,oM,rfl,⟨_,AX _ ⟨rfl,rfl,rfl,rfl,(by rfl),rfl,trivial⟩⟩,f7,(by rw [show (UD (l.take (l[0]!.threshold).toNat) (0))=[] from rfl];exact (EX.nil Enc.u8 5 _ _ _)),(by intro b hb;simp [Value.ownBlock] at hb),(by rw [show (UG (l.take (l[0]!.threshold).toNat) k (0))=[] from rfl];exact (EX.nil Enc.u8 5 _ _ _)),(by intro b hb;simp [Value.ownBlock] at hb),a3,a2,ho0_5,b2,a6,a7,a5,a8,a9,(fun b hb=>by (simp [Value.ownBlock] at hb;done)),(fun b hb=>by (simp [Value.ownBlock];done)),(fun b hb=>by (simp [Value.ownBlock] at hb;done)),(fun b hb=>by (simp [Value.ownBlock];done)),(fun b hb=>by (simp [Value.ownBlock] at hb;done)),(fun b hb=>by (simp [Value.ownBlock] at hb;done))⟩
  intro m1 F i4 hI
  clear a3 a2 ho0_5 b2 a6 a7 a5 a8 a9
  obtain ⟨q,a1,a0,m2,hrp0_0,m3,⟨m4,rfl⟩,f8,hop0_6,c6,hop0_7,b6,a3,a2,ho0_5,b2,a6,a7,a5,a8,a9,nop0_6_vo0_5,npp0_6_vo0_5,nop0_7_vo0_5,npp0_7_vo0_5,nnp0_6_7,nnp0_7_6⟩:=hI
  refine AF (AF (AC kR (AA (AE (vI ((q:Nat):Int)) rfl (AA (AE (b7) rfl (AA (BP U27_ rfl a3 (AA (DQ .i64 ((q:Nat):Int) ((l.take (((l[0]!).threshold).toNat)).length:Int) rfl rfl (AG (AB (AJ (decide (((q:Nat):Int)<((l.take (((l[0]!).threshold).toNat)).length:Int))) rfl rfl (fun c7=>?_) (fun c7=>?_))))))))))))))
  ·have j0:((q:Nat):Int)<((l.take (((l[0]!).threshold).toNat)).length:Int):=by simpa using c7
   refine AR (AB (AF (BD (AF (AC kR (AA (AE (a1) rfl (AA (AE (b7) rfl (AA (AE (vI ((q:Nat):Int)) rfl (AA (CR U27_ DO .i64 ((q:Nat):Int) q rfl rfl rfl a3 oM fun k2 f9=>(AA (AY 1 KX (((l.take (((l[0]!).threshold).toNat))[q]!).index) rfl f9 (fun _ _ _ h=>HV h) fun k3 g0=>(AA (BK U3_ rfl rfl g0 (AA (PI .i64 U3_ U5_ (((l.take (((l[0]!).threshold).toNat))[q]!).index) rfl (AA (JG (E:=Enc.u8) (xs:=[.tmp 21]) U26_ IZ z_5 (by decide) [vB (DZ (((l.take (((l[0]!).threshold).toNat))[q]!).index))] [[vB (DZ (((l.take (((l[0]!).threshold).toNat))[q]!).index))]] [DZ (((l.take (((l[0]!).threshold).toNat))[q]!).index)] rfl rfl rfl (Parts.cons rfl rfl (Parts.nil _ _ _)) oT f8 fun k4 k5 h5 b0 d3 d9=>(?_))))))))))))))))))))))
   have a3:=a3.mv b0
   have hop0_6:=hop0_6.mv b0 d3 (by simp)
   have hop0_7:=hop0_7.mv b0 d3 (by simp)
   have a2:=a2.mv b0
   have ho0_5:=ho0_5.mv b0 d3 (by simp)
   have a6:=a6.mv b0
   have a7:=a7.mv b0
   have a5:=a5.mv b0
   have a8:=a8.mv b0
   have a9:=a9.mv b0
   have:=d9.len_le
   refine AA (DS (E:=Enc.u8) (l:=(UD (l.take (l[0]!.threshold).toNat) q)) (m:=[DZ (((l.take (((l[0]!).threshold).toNat))[q]!).index)]) U26_ i_5 rfl (by decide) rfl rfl hop0_6 d9 (fun _ hb=>.inl hb) c6 (by rw [ptX_len];simp;omega) (by rw [ptX_len];simp [maxLen];omega) h5 fun b8 k6 f1 c8 e0 c9 h6 b3 f2 b5=>(?_))
   have e2:∀ b,a0.ownBlock=some b→b8.ownBlock≠some b:=fun b hb e=>by rcases e0 with e1|e1 <;> rw [e1] at e <;> first|(cases e;have:=(hop0_7.lt _ hb).2;omega)|(exact absurd e (nnp0_7_6 b hb))
   have e3:∀ b,a4.ownBlock=some b→b8.ownBlock≠some b:=fun b hb e=>by rcases e0 with e1|e1 <;> rw [e1] at e <;> first|(cases e;have:=(ho0_5.lt _ hb).2;omega)|(exact absurd e (npp0_6_vo0_5 b hb))
   have b6:∀ b,a0.ownBlock=some b→b∈f1:=fun b hb=>c9 b (b6 b hb)
   have b2:∀ b,a4.ownBlock=some b→b∈f1:=fun b hb=>c9 b (b2 b hb)
   have a3:=a3.mv b3
   have hop0_7:=hop0_7.mv b3 f2 (fun b hb=>by simp only [Option.mem_toList];exact nnp0_7_6 b hb)
   have a2:=a2.mv b3
   have ho0_5:=ho0_5.mv b3 f2 (fun b hb=>by simp only [Option.mem_toList];exact npp0_6_vo0_5 b hb)
   have a6:=a6.mv b3
   have a7:=a7.mv b3
   have a5:=a5.mv b3
   have a8:=a8.mv b3
   have a9:=a9.mv b3
   refine AA (AD (b8) rfl (AG (AB (AC kR (AA (AE (a0) rfl (AA (AE (b7) rfl (AA (AE (vI ((q:Nat):Int)) rfl (AA (CR U27_ DO .i64 ((q:Nat):Int) q rfl rfl rfl a3 oM fun k7 g1=>(AA (AY 4 FX (((l.take (((l[0]!).threshold).toNat))[q]!).data) rfl g1 (fun _ _ _ h=>FB h) fun k8 g2=>(AA (BL U26_ rfl rfl g2 fun k9 e4=>(?_)))))))))))))))))
   have:=e4.len_le
   refine AA (AE (vI ((k:Nat):Int)) rfl (AA (CR U26_ IZ .i64 ((k:Nat):Int) k rfl rfl rfl e4 (by rw [takeS oM,hv.da q oM];omega) fun l0 g3=>(AA (GE U5_ rfl rfl g3 (AA (JG (E:=Enc.u8) (xs:=[.tmp 32]) U26_ IZ z_5 (by decide) [vB ((((l.take (((l[0]!).threshold).toNat))[q]!).data)[k]!)] [[vB ((((l.take (((l[0]!).threshold).toNat))[q]!).data)[k]!)]] [(((l.take (((l[0]!).threshold).toNat))[q]!).data)[k]!] rfl rfl rfl (Parts.cons rfl rfl (Parts.nil _ _ _)) oT h6 fun l1 l2 h7 b1 d4 e5=>(?_))))))))
   have a3:=a3.mv b1
   have b5:=b5.mv b1 d4 (by simp)
   have hop0_7:=hop0_7.mv b1 d4 (by simp)
   have a2:=a2.mv b1
   have ho0_5:=ho0_5.mv b1 d4 (by simp)
   have a6:=a6.mv b1
   have a7:=a7.mv b1
   have a5:=a5.mv b1
   have a8:=a8.mv b1
   have a9:=a9.mv b1
   have:=e5.len_le
   refine AA (DS (E:=Enc.u8) (l:=(UG (l.take (l[0]!.threshold).toNat) k q)) (m:=[(((l.take (((l[0]!).threshold).toNat))[q]!).data)[k]!]) U26_ i_5 rfl (by decide) rfl rfl hop0_7 e5 (fun _ hb=>.inl hb) b6 (by rw [ptY_len];simp;omega) (by rw [ptY_len];simp [maxLen];omega) h7 fun b9 l3 d5 g4 e6 d0 h8 b4 f3 g5=>(?_))
   have e7:∀ b,b8.ownBlock=some b→b9.ownBlock≠some b:=fun b hb e=>by rcases e6 with e1|e1 <;> rw [e1] at e <;> first|(cases e;have:=(b5.lt _ hb).2;omega)|(exact absurd e ((fun b hb e=>e2 b e hb) b hb))
   have e8:∀ b,a4.ownBlock=some b→b9.ownBlock≠some b:=fun b hb e=>by rcases e6 with e1|e1 <;> rw [e1] at e <;> first|(cases e;have:=(ho0_5.lt _ hb).2;omega)|(exact absurd e (npp0_7_vo0_5 b hb))
   have c8:∀ b,b8.ownBlock=some b→b∈d5:=fun b hb=>d0 b (c8 b hb)
   have b2:∀ b,a4.ownBlock=some b→b∈d5:=fun b hb=>d0 b (b2 b hb)
   have a3:=a3.mv b4
   have b5:=b5.mv b4 f3 (fun b hb=>by simp only [Option.mem_toList];exact (fun b hb e=>e2 b e hb) b hb)
   have a2:=a2.mv b4
   have ho0_5:=ho0_5.mv b4 f3 (fun b hb=>by simp only [Option.mem_toList];exact npp0_7_vo0_5 b hb)
   have a6:=a6.mv b4
   have a7:=a7.mv b4
   have a5:=a5.mv b4
   have a8:=a8.mv b4
   have a9:=a9.mv b4
   refine AA (AD (b9) rfl (AG (CB (AB (AC kR (AA (AE (vI ((q:Nat):Int)) rfl (AA (DF .i64 ((q:Nat):Int) (1:Int) (((q+1:Nat):Int)) rfl rfl (GA oM oM) (AA (AD (vI ((q+1:Nat):Int)) rfl (AG (AB (?_))))))))))))))
   exact ⟨_,oM,(q+1),b8,b9,d5,oM,rfl,⟨_,AX _ ⟨rfl,rfl,rfl,rfl,(by rfl),rfl,trivial⟩⟩,h8,(by rw [show (UD (l.take (l[0]!.threshold).toNat) (q+1))=(UD (l.take (l[0]!.threshold).toNat) q)++([DZ (((l.take (((l[0]!).threshold).toNat))[q]!).index)]) from ptX_succ _ _];exact b5),c8,(by rw [show (UG (l.take (l[0]!.threshold).toNat) k (q+1))=(UG (l.take (l[0]!.threshold).toNat) k q)++([(((l.take (((l[0]!).threshold).toNat))[q]!).data)[k]!]) from ptY_succ _ _ _];exact g5),g4,a3,a2,ho0_5,b2,a6,a7,a5,a8,a9,(fun b hb e=>e3 b e hb),e3,(fun b hb e=>e8 b e hb),e8,e7,(fun b hb e=>e7 b e hb)⟩
  have j1:((l.take (((l[0]!).threshold).toNat)).length:Int)≤((q:Nat):Int):=by simpa using c7
  obtain rfl:q=(l.take (l[0]!.threshold).toNat).length:=by omega
  refine DA (BN (BN (CO (AB (AF (AC kR (AA (AE (a1) rfl (AA (AE (a0) rfl (AA (AD (a1) rfl (AA (AD (a0) rfl (AG (AB (AM (AS rfl (EJ rfl rfl rfl rfl) (Exists.intro _ (And.intro rfl (AA (AE (vT #[a1,a0]) rfl (AA (AO (a1) rfl rfl (AA (AO (a0) rfl rfl (AA (AD (a1) rfl (AA (AD (a0) rfl (AG (AB (AF (AC kR (AA (AE (a1) rfl (AA (AE (a0) rfl (AA (AZ (vs:=[a1,a0,vB (0:UInt8)]) enter_81 (c_refThrough (O:=[]) a1 (UD (l.take (l[0]!.threshold).toNat) ((l.take (l[0]!.threshold).toNat).length)) a0 (UG (l.take (l[0]!.threshold).toNat) k ((l.take (l[0]!.threshold).toNat).length)) (0:UInt8) i4 hop0_6.rd0 hop0_7.rd0 NS) rfl f8 fun l4 l5 h9 c0 d6 i0=>(?_)))))))))))))))))))))))))))))))))))))))))
  obtain rfl:=i0
  have a2:=a2.mv c0
  have ho0_5:=ho0_5.mv c0 d6 (by simp)
  have hop0_6:=hop0_6.mv c0 d6 (by simp)
  have hop0_7:=hop0_7.mv c0 d6 (by simp)
  refine AA (AE (vT #[vB ((DU (UD (l.take (l[0]!.threshold).toNat) ((l.take (l[0]!.threshold).toNat).length)) (UG (l.take (l[0]!.threshold).toNat) k ((l.take (l[0]!.threshold).toNat).length)) (0:UInt8)).1),vI ((DU (UD (l.take (l[0]!.threshold).toNat) ((l.take (l[0]!.threshold).toNat).length)) (UG (l.take (l[0]!.threshold).toNat) k ((l.take (l[0]!.threshold).toNat).length)) (0:UInt8)).2)]) rfl (AA (AO (vB ((DU (UD (l.take (l[0]!.threshold).toNat) ((l.take (l[0]!.threshold).toNat).length)) (UG (l.take (l[0]!.threshold).toNat) k ((l.take (l[0]!.threshold).toNat).length)) (0:UInt8)).1)) rfl rfl (AA (AO (vI ((DU (UD (l.take (l[0]!.threshold).toNat) ((l.take (l[0]!.threshold).toNat).length)) (UG (l.take (l[0]!.threshold).toNat) k ((l.take (l[0]!.threshold).toNat).length)) (0:UInt8)).2)) rfl rfl (AA (AD (vB ((DU (UD (l.take (l[0]!.threshold).toNat) ((l.take (l[0]!.threshold).toNat).length)) (UG (l.take (l[0]!.threshold).toNat) k ((l.take (l[0]!.threshold).toNat).length)) (0:UInt8)).1)) rfl (AA (AD (vI ((DU (UD (l.take (l[0]!.threshold).toNat) ((l.take (l[0]!.threshold).toNat).length)) (UG (l.take (l[0]!.threshold).toNat) k ((l.take (l[0]!.threshold).toNat).length)) (0:UInt8)).2)) rfl (AG (AB (AC kR (AA (AE (a4) rfl (AA (AE (vB ((DU (UD (l.take (l[0]!.threshold).toNat) ((l.take (l[0]!.threshold).toNat).length)) (UG (l.take (l[0]!.threshold).toNat) k ((l.take (l[0]!.threshold).toNat).length)) (0:UInt8)).1)) rfl (AA (JG (E:=Enc.u8) (xs:=[.tmp 50]) U26_ IZ z_5 (by decide) [vB ((DU (UD (l.take (l[0]!.threshold).toNat) ((l.take (l[0]!.threshold).toNat).length)) (UG (l.take (l[0]!.threshold).toNat) k ((l.take (l[0]!.threshold).toNat).length)) (0:UInt8)).1)] [[vB ((DU (UD (l.take (l[0]!.threshold).toNat) ((l.take (l[0]!.threshold).toNat).length)) (UG (l.take (l[0]!.threshold).toNat) k ((l.take (l[0]!.threshold).toNat).length)) (0:UInt8)).1)]] [(DU (UD (l.take (l[0]!.threshold).toNat) ((l.take (l[0]!.threshold).toNat).length)) (UG (l.take (l[0]!.threshold).toNat) k ((l.take (l[0]!.threshold).toNat).length)) (0:UInt8)).1] rfl rfl rfl (Parts.cons rfl rfl (Parts.nil _ _ _)) oT h9 fun l6 l7 i1 c1 d7 e9=>(?_)))))))))))))))))))
  have a2:=a2.mv c1
  have ho0_5:=ho0_5.mv c1 d7 (by simp)
  have hop0_6:=hop0_6.mv c1 d7 (by simp)
  have hop0_7:=hop0_7.mv c1 d7 (by simp)
  have:=e9.len_le
  refine AA (DS (E:=Enc.u8) (l:=(HE l k)) (m:=[(DU (UD (l.take (l[0]!.threshold).toNat) ((l.take (l[0]!.threshold).toNat).length)) (UG (l.take (l[0]!.threshold).toNat) k ((l.take (l[0]!.threshold).toNat).length)) (0:UInt8)).1]) U26_ i_5 rfl (by decide) rfl rfl ho0_5 e9 (fun _ hb=>.inl hb) b2 (by rw [HE,LA];simp;omega) (by rw [HE,LA];simp [maxLen];omega) i1 fun c2 l8 d8 g6 f0 d1 i2 i3 l9 g7=>(?_))
  have j2:∀ b,a1.ownBlock=some b→c2.ownBlock≠some b:=fun b hb e=>by rcases f0 with e1|e1 <;> rw [e1] at e <;> first|(cases e;have:=(hop0_6.lt _ hb).2;omega)|(exact absurd e (nop0_6_vo0_5 b hb))
  have j3:∀ b,a0.ownBlock=some b→c2.ownBlock≠some b:=fun b hb e=>by rcases f0 with e1|e1 <;> rw [e1] at e <;> first|(cases e;have:=(hop0_7.lt _ hb).2;omega)|(exact absurd e (nop0_7_vo0_5 b hb))
  have c6:∀ b,a1.ownBlock=some b→b∈d8:=fun b hb=>d1 b (c6 b hb)
  have b6:∀ b,a0.ownBlock=some b→b∈d8:=fun b hb=>d1 b (b6 b hb)
  have a2:=a2.mv i3
  refine AA (AD (c2) rfl (AG (CB (AB (AC kR (AA (AE (vI ((k:Nat):Int)) rfl (AA (DF .i64 ((k:Nat):Int) (1:Int) (((k+1:Nat):Int)) rfl rfl (GA oM oM) (AA (AD (vI ((k+1:Nat):Int)) rfl (AG (AB (?_))))))))))))))
  exact ⟨_,oM,(k+1),c2,d8,oM,rfl,⟨_,AX _ ⟨rfl,rfl,(by rfl),rfl,trivial⟩⟩,i2,(by rw [show (HE l (k+1))=(HE l k)++([(DU (UD (l.take (l[0]!.threshold).toNat) ((l.take (l[0]!.threshold).toNat).length)) (UG (l.take (l[0]!.threshold).toNat) k ((l.take (l[0]!.threshold).toNat).length)) (0:UInt8)).1]) from XE _ _];exact g7),g6,a2⟩
 have j4:(((l[0]!).data).length:Int)≤((k:Nat):Int):=by simpa using c5
 obtain rfl:k=l[0]!.data.length:=by omega
 refine DA (BN (BN (CO (AB (AF (AC kR (AA (AE (a4) rfl (AA (AD (a4) rfl (AA (AD (vI 0) rfl (AG (AB (AM (AS rfl (EJ rfl rfl rfl rfl) (?_)))))))))))))))))
 have e:(CG l)=((HE l (l[0]!.data.length)),(0:Int)):=by exact refJoinM_ok oM oM rfl
 exact ⟨_,rfl,f7.keep,by rw [e];exact ⟨a4,rfl,ho0_5.pub f7⟩⟩
open Go.Fw Go.RowKit
end Go.Proofs.YtjgfokolnkhafaaGreat
namespace Go.Proofs.YtjgfokolnkhafaaGreat
open Go.Fw Go.RowKit
set_option maxHeartbeats 4000000 in
set_option maxRecDepth 100000 in
theorem ST {O:List Nat} (n:Int) (least:Int) (most:Int) (w:World) (hO:∀ b∈O,b<w.heap.size):CA Tryz.prog 66 [vI n,vI least,vI most] w (fun v _=>v = .bool (GU n least most)):= by
 have s0:St w O w []:=St.start hO
 refine BE 15 Tryz.func66 rfl rfl oT (fun F0=>AF (AC kR (AA (AD (vO false) rfl (AG (AB (AF (AC kR (AA (AE (vI n) rfl (AA (AE (vI least) rfl (AA (JZ .i64 n least rfl rfl (AA (AE (vO (decide (least≤n))) rfl (?_)))))))))))))))))
 cases a0:(decide (least≤n))
 ·have a1:n<least:=by simpa using a0
  refine AL rfl (AL rfl (AL rfl (AA (BA (vO false) rfl rfl (AA (AD (vO false) rfl (AG (AB (AM (AS rfl (BZ rfl rfl rfl) (?_)))))))))))
  have e:(GU n least most)=false:=by simp [GU, *]
  exact ⟨_,rfl,s0.keep,(by exact congrArg vO e.symm)⟩
 have a2:least≤n:=by simpa using a0
 refine AW rfl (AE (vI n) rfl (AW rfl (AE (vI most) rfl (AW rfl (UA .i64 n most rfl rfl (AA (AQ (vO (decide (n≤most))) rfl rfl (AA (AD (vO (decide (n≤most))) rfl (AG (AB (AM (AS rfl (BZ rfl rfl rfl) (?_))))))))))))))
 have e:(GU n least most)=(decide (n≤most)):=by simp [GU, *]
 exact ⟨_,rfl,s0.keep,(by exact congrArg vO e.symm)⟩
set_option maxHeartbeats 4000000 in
set_option maxRecDepth 100000 in
theorem VZ {O:List Nat} (l_v:Value) (l:List Int) (w:World) (a1:BB Enc.int w O l_v l) (hO:∀ b∈O,b<w.heap.size):CA Tryz.prog 67 [l_v] w (fun v _=>v = .bool (FR l)):= by
 have i1:=a1.len_le
 have a1:BB Enc.int w ([]++O) l_v l:=a1
 have s0:St w O w []:=St.start hO
 refine BE 32 Tryz.func67 rfl rfl oT (fun F0=>AF (AC kR (AA (AD (vO false) rfl (AG (AB (AF (AF (AC kR (AA (AD (vI 0) rfl (AG (AB (BD (DB (fun mI FI wI=>∃ (k:Nat) (B:List Nat),k≤l.length∧(∀ q,q<k→IN l q=false)∧mI=l.length - k∧(∃ F1,FI=GD F1 [(0,l_v),(3,vI ((k:Nat):Int)),(32,undef)])∧St w O wI B∧BB Enc.int wI (B++O) (l_v) (l)) (l.length - (0)) ?_ ?_)))))))))))))))
 ·exact ⟨(0),[],oM,(fun q hq=>by omega),rfl,⟨_,AX _ ⟨rfl,(by rfl),rfl,trivial⟩⟩,s0,a1⟩
 intro j5 F a2 hI
 clear a1
 obtain ⟨k,a0,hr0_0,hr0_1,j6,⟨j7,rfl⟩,a9,a1⟩:=hI
 refine AF (AF (AC kR (AA (AE (vI ((k:Nat):Int)) rfl (AA (AE (l_v) rfl (AA (BP U22_ rfl a1 (AA (DQ .i64 ((k:Nat):Int) (l.length:Int) rfl rfl (AG (AB (AJ (decide (((k:Nat):Int)<(l.length:Int))) rfl rfl (fun b0=>?_) (fun b0=>?_))))))))))))))
 ·have h3:((k:Nat):Int)<(l.length:Int):=by simpa using b0
  refine AR (AB (AF (BD (AF (?_)))))
  cases a3:(!(GU (l[k]!) (0:Int) (4095:Int)))
  ·have h4:(GU (l[k]!) (0:Int) (4095:Int))=true:=by simpa using a3
   cases a5:(decide ((0:Int)<((k:Nat):Int)))
   ·have h5:((k:Nat):Int)≤(0:Int):=by simpa using a5
    refine cw_draw' 19 _ _ [fun (vT:Value) (wT:World)=>BB Enc.int wT (a0++O) vT (l),CQ (vI ((k:Nat):Int)),fun (vT:Value) (wT:World)=>∃ aT,vT = .pointer (some aT)∧PT Enc.int wT (a0++O) (.pointer (some aT)) (l[k]!),CQ (vI (l[k]!)),CQ (vO (GU (l[k]!) (0:Int) (4095:Int))),CQ (vO false),CQ (vO false),CQ (vI ((k:Nat):Int)),CQ (vO false),CQ (vO false),CQ undef,CQ undef,CQ undef,CQ undef,CQ undef,CQ undef,CQ undef,CQ undef,CQ undef] kR kR kR kR rfl rfl ⟨fun _ _ _ h k=>h.mv (Mv.of_keep k),kI,fun _ _ _ ⟨a,e,h⟩ k=>⟨a,e,h.mv (Mv.of_keep k)⟩,kI,kI,kI,kI,kI,kI,kI,kI,kI,kI,kI,kI,kI,kI,kI,kI,trivial⟩ ⟨?_,?_,?_,?_,?_,?_,?_,?_,?_,?_,?_,?_,?_,?_,?_,?_,?_,?_,?_,trivial⟩ ?_
    ·intro F1 w1 k1 hf hd
     have k0:=(Keep.drew [] a2).trans k1
     have m1:Mv a0 a2 a0 w1:=Mv.of_keep k0
     have a1:=a1.mv m1
     obtain ⟨F2,rfl⟩:=AK (F:=F1) [(0,l_v)] ⟨hf 0 kR,trivial⟩
     exact AH rfl ((AE (l_v) rfl (⟨(Keep.refl _ _),a1⟩)))
    ·intro F1 w1 k1 hf hd
     obtain ⟨F2,rfl⟩:=AK (F:=F1) [(3,vI ((k:Nat):Int))] ⟨hf 3 kR,trivial⟩
     exact AH rfl ((AE (vI ((k:Nat):Int)) rfl (⟨(Keep.refl _ _),rfl⟩)))
    ·intro F1 w1 k1 hf hd
     obtain ⟨d2,d3,b4⟩:∃ v,F1 10=v∧BB Enc.int w1 (a0++O) v (l):=⟨_,rfl,hd 0 10 kR⟩
     have:=b4.len_le
     obtain ⟨F2,rfl⟩:=AK (F:=F1) [(10,d2),(11,vI ((k:Nat):Int))] ⟨d3,hd 1 11 kR,trivial⟩
     exact AH rfl ((CR U22_ MS .i64 ((k:Nat):Int) k rfl rfl rfl b4 oM fun d4 c2=>(⟨(Keep.refl _ _),⟨d4,rfl,c2⟩⟩)))
    ·intro F1 w1 k1 hf hd
     obtain ⟨d5,d6,c3⟩:∃ aX_,F1 12 = .pointer (some aX_)∧PT Enc.int w1 (a0++O) (.pointer (some aX_)) (l[k]!):=hd 2 12 kR
     obtain ⟨F2,rfl⟩:=AK (F:=F1) [(12,vP (some d5))] ⟨d6,trivial⟩
     exact AH rfl ((BK U3_ rfl rfl c3 (⟨(Keep.refl _ _),rfl⟩)))
    ·intro F1 w1 k1 hf hd
     have k0:=(Keep.drew [] a2).trans k1
     have s1:=a9.call k0
     obtain ⟨F2,rfl⟩:=AK (F:=F1) [(13,vI (l[k]!))] ⟨hd 3 13 kR,trivial⟩
     refine AH rfl ((AZ (vs:=[vI (l[k]!),vI 0,vI 4095]) HG (ST (O:=a0++O) (l[k]!) (0:Int) (4095:Int) w1 s1.lt) rfl s1 fun i2 i3 i4 i5 d7 d8=>(?_)))
     obtain rfl:=d8
     exact ⟨d7,rfl⟩
    ·intro F1 w1 k1 hf hd
     obtain ⟨F2,rfl⟩:=AK (F:=F1) [(14,vO (GU (l[k]!) (0:Int) (4095:Int)))] ⟨hd 4 14 kR,trivial⟩
     refine AH rfl ((EU (GU (l[k]!) (0:Int) (4095:Int)) rfl (?_)))
     exact ⟨(Keep.refl _ _),congrArg vO (a3)⟩
    ·intro F1 w1 k1 hf hd
     obtain ⟨F2,rfl⟩:=AK (F:=F1) [(15,vO false)] ⟨hd 5 15 kR,trivial⟩
     exact AH rfl ((AE (vO false) rfl (⟨(Keep.refl _ _),rfl⟩)))
    ·intro F1 w1 k1 hf hd
     obtain ⟨F2,rfl⟩:=AK (F:=F1) [(3,vI ((k:Nat):Int)),(16,vO false)] ⟨hf 3 kR,hd 6 16 kR,trivial⟩
     exact CX rfl rfl ((AE (vI ((k:Nat):Int)) rfl (⟨(Keep.refl _ _),rfl⟩)))
    ·intro F1 w1 k1 hf hd
     obtain ⟨F2,rfl⟩:=AK (F:=F1) [(16,vO false),(17,vI ((k:Nat):Int))] ⟨hd 6 16 kR,hd 7 17 kR,trivial⟩
     refine CX rfl rfl ((FN .i64 ((k:Nat):Int) (0:Int) rfl rfl (?_)))
     exact ⟨(Keep.refl _ _),congrArg vO (a5)⟩
    ·intro F1 w1 k1 hf hd
     obtain ⟨F2,rfl⟩:=AK (F:=F1) [(16,vO false),(18,vO false)] ⟨hd 6 16 kR,hd 8 18 kR,trivial⟩
     exact CX rfl rfl ((AE (vO false) rfl (⟨(Keep.refl _ _),rfl⟩)))
    ·intro F1 w1 k1 hf hd
     exact DP rfl rfl (hd 9 19 kR) rfl rfl
    ·intro F1 w1 k1 hf hd
     exact DP rfl rfl (hd 9 19 kR) rfl rfl
    ·intro F1 w1 k1 hf hd
     exact DP rfl rfl (hd 9 19 kR) rfl rfl
    ·intro F1 w1 k1 hf hd
     exact DP rfl rfl (hd 9 19 kR) rfl rfl
    ·intro F1 w1 k1 hf hd
     exact DP rfl rfl (hd 9 19 kR) rfl rfl
    ·intro F1 w1 k1 hf hd
     exact DP rfl rfl (hd 9 19 kR) rfl rfl
    ·intro F1 w1 k1 hf hd
     exact DP rfl rfl (hd 9 19 kR) rfl rfl
    ·intro F1 w1 k1 hf hd
     exact DP rfl rfl (hd 9 19 kR) rfl rfl
    ·intro F1 w1 k1 hf hd
     exact DP rfl rfl (hd 9 19 kR) rfl rfl
    intro d9 e0 b9 b1 a6
    have e1:=a9.call b9
    have e2:Mv a0 a2 a0 e0:=Mv.of_keep b9
    have a1:=a1.mv e2
    obtain ⟨F2,rfl⟩:=AK (F:=d9) [(0,l_v),(3,vI ((k:Nat):Int)),(32,undef),(16,vO false),(19,vO false)] ⟨a6 0 kR,a6 3 kR,a6 32 kR,b1 6 16 kR (by decide),b1 9 19 kR (by decide),trivial⟩
    clear b1 a6
    refine AL rfl (AW rfl (BA (vO false) rfl rfl (AA (BA (vO false) rfl rfl (AG (AB (AJ false rfl rfl (fun h=>by cases h) (fun _=>AR (CB (AB (AC kR (AA (AE (vI ((k:Nat):Int)) rfl (AA (DF .i64 ((k:Nat):Int) (1:Int) (((k+1:Nat):Int)) rfl rfl (GA oM oM) (AA (AD (vI ((k+1:Nat):Int)) rfl (AG (AB (?_))))))))))))))))))))
    exact ⟨_,oM,(k+1),a0,oM,(by exact ris_ok1 hr0_1 aS oM),rfl,⟨_,AX _ ⟨rfl,(by rfl),rfl,trivial⟩⟩,e1,a1⟩
   have h6:(0:Int)<((k:Nat):Int):=by simpa using a5
   refine cw_draw' 19 _ _ [fun (vT:Value) (wT:World)=>BB Enc.int wT (a0++O) vT (l),CQ (vI ((k:Nat):Int)),fun (vT:Value) (wT:World)=>∃ aT,vT = .pointer (some aT)∧PT Enc.int wT (a0++O) (.pointer (some aT)) (l[k]!),CQ (vI (l[k]!)),CQ (vO (GU (l[k]!) (0:Int) (4095:Int))),CQ (vO false),CQ (vO false),CQ (vI ((k:Nat):Int)),CQ (vO true),CQ (vO true),fun (vT:Value) (wT:World)=>BB Enc.int wT (a0++O) vT (l),CQ (vI ((k:Nat):Int)),CQ (vI ((k - 1:Nat):Int)),fun (vT:Value) (wT:World)=>∃ aT,vT = .pointer (some aT)∧PT Enc.int wT (a0++O) (.pointer (some aT)) (l[k - 1]!),CQ (vI (l[k - 1]!)),fun (vT:Value) (wT:World)=>BB Enc.int wT (a0++O) vT (l),CQ (vI ((k:Nat):Int)),fun (vT:Value) (wT:World)=>∃ aT,vT = .pointer (some aT)∧PT Enc.int wT (a0++O) (.pointer (some aT)) (l[k]!),CQ (vI (l[k]!))] kR kR kR kR rfl rfl ⟨fun _ _ _ h k=>h.mv (Mv.of_keep k),kI,fun _ _ _ ⟨a,e,h⟩ k=>⟨a,e,h.mv (Mv.of_keep k)⟩,kI,kI,kI,kI,kI,kI,kI,fun _ _ _ h k=>h.mv (Mv.of_keep k),kI,kI,fun _ _ _ ⟨a,e,h⟩ k=>⟨a,e,h.mv (Mv.of_keep k)⟩,kI,fun _ _ _ h k=>h.mv (Mv.of_keep k),kI,fun _ _ _ ⟨a,e,h⟩ k=>⟨a,e,h.mv (Mv.of_keep k)⟩,kI,trivial⟩ ⟨?_,?_,?_,?_,?_,?_,?_,?_,?_,?_,?_,?_,?_,?_,?_,?_,?_,?_,?_,trivial⟩ ?_
   ·intro F1 w1 k1 hf hd
    have k0:=(Keep.drew [] a2).trans k1
    have m1:Mv a0 a2 a0 w1:=Mv.of_keep k0
    have a1:=a1.mv m1
    obtain ⟨F2,rfl⟩:=AK (F:=F1) [(0,l_v)] ⟨hf 0 kR,trivial⟩
    exact AH rfl ((AE (l_v) rfl (⟨(Keep.refl _ _),a1⟩)))
   ·intro F1 w1 k1 hf hd
    obtain ⟨F2,rfl⟩:=AK (F:=F1) [(3,vI ((k:Nat):Int))] ⟨hf 3 kR,trivial⟩
    exact AH rfl ((AE (vI ((k:Nat):Int)) rfl (⟨(Keep.refl _ _),rfl⟩)))
   ·intro F1 w1 k1 hf hd
    obtain ⟨e3,e4,b5⟩:∃ v,F1 10=v∧BB Enc.int w1 (a0++O) v (l):=⟨_,rfl,hd 0 10 kR⟩
    have:=b5.len_le
    obtain ⟨F2,rfl⟩:=AK (F:=F1) [(10,e3),(11,vI ((k:Nat):Int))] ⟨e4,hd 1 11 kR,trivial⟩
    exact AH rfl ((CR U22_ MS .i64 ((k:Nat):Int) k rfl rfl rfl b5 oM fun e5 c4=>(⟨(Keep.refl _ _),⟨e5,rfl,c4⟩⟩)))
   ·intro F1 w1 k1 hf hd
    obtain ⟨e6,e7,c5⟩:∃ aX_,F1 12 = .pointer (some aX_)∧PT Enc.int w1 (a0++O) (.pointer (some aX_)) (l[k]!):=hd 2 12 kR
    obtain ⟨F2,rfl⟩:=AK (F:=F1) [(12,vP (some e6))] ⟨e7,trivial⟩
    exact AH rfl ((BK U3_ rfl rfl c5 (⟨(Keep.refl _ _),rfl⟩)))
   ·intro F1 w1 k1 hf hd
    have k0:=(Keep.drew [] a2).trans k1
    have s1:=a9.call k0
    obtain ⟨F2,rfl⟩:=AK (F:=F1) [(13,vI (l[k]!))] ⟨hd 3 13 kR,trivial⟩
    refine AH rfl ((AZ (vs:=[vI (l[k]!),vI 0,vI 4095]) HG (ST (O:=a0++O) (l[k]!) (0:Int) (4095:Int) w1 s1.lt) rfl s1 fun i6 i7 i8 i9 e8 e9=>(?_)))
    obtain rfl:=e9
    exact ⟨e8,rfl⟩
   ·intro F1 w1 k1 hf hd
    obtain ⟨F2,rfl⟩:=AK (F:=F1) [(14,vO (GU (l[k]!) (0:Int) (4095:Int)))] ⟨hd 4 14 kR,trivial⟩
    refine AH rfl ((EU (GU (l[k]!) (0:Int) (4095:Int)) rfl (?_)))
    exact ⟨(Keep.refl _ _),congrArg vO (a3)⟩
   ·intro F1 w1 k1 hf hd
    obtain ⟨F2,rfl⟩:=AK (F:=F1) [(15,vO false)] ⟨hd 5 15 kR,trivial⟩
    exact AH rfl ((AE (vO false) rfl (⟨(Keep.refl _ _),rfl⟩)))
   ·intro F1 w1 k1 hf hd
    obtain ⟨F2,rfl⟩:=AK (F:=F1) [(3,vI ((k:Nat):Int)),(16,vO false)] ⟨hf 3 kR,hd 6 16 kR,trivial⟩
    exact CX rfl rfl ((AE (vI ((k:Nat):Int)) rfl (⟨(Keep.refl _ _),rfl⟩)))
   ·intro F1 w1 k1 hf hd
    obtain ⟨F2,rfl⟩:=AK (F:=F1) [(16,vO false),(17,vI ((k:Nat):Int))] ⟨hd 6 16 kR,hd 7 17 kR,trivial⟩
    refine CX rfl rfl ((FN .i64 ((k:Nat):Int) (0:Int) rfl rfl (?_)))
    exact ⟨(Keep.refl _ _),congrArg vO (a5)⟩
   ·intro F1 w1 k1 hf hd
    obtain ⟨F2,rfl⟩:=AK (F:=F1) [(16,vO false),(18,vO true)] ⟨hd 6 16 kR,hd 8 18 kR,trivial⟩
    exact CX rfl rfl ((AE (vO true) rfl (⟨(Keep.refl _ _),rfl⟩)))
   ·intro F1 w1 k1 hf hd
    have k0:=(Keep.drew [] a2).trans k1
    have m1:Mv a0 a2 a0 w1:=Mv.of_keep k0
    have a1:=a1.mv m1
    obtain ⟨F2,rfl⟩:=AK (F:=F1) [(0,l_v),(19,vO true)] ⟨hf 0 kR,hd 9 19 kR,trivial⟩
    exact CX rfl rfl ((AE (l_v) rfl (⟨(Keep.refl _ _),a1⟩)))
   ·intro F1 w1 k1 hf hd
    obtain ⟨F2,rfl⟩:=AK (F:=F1) [(3,vI ((k:Nat):Int)),(19,vO true)] ⟨hf 3 kR,hd 9 19 kR,trivial⟩
    exact CX rfl rfl ((AE (vI ((k:Nat):Int)) rfl (⟨(Keep.refl _ _),rfl⟩)))
   ·intro F1 w1 k1 hf hd
    obtain ⟨F2,rfl⟩:=AK (F:=F1) [(19,vO true),(21,vI ((k:Nat):Int))] ⟨hd 9 19 kR,hd 11 21 kR,trivial⟩
    exact CX rfl rfl ((HK .i64 ((k:Nat):Int) (1:Int) (((k - 1:Nat):Int)) rfl rfl (GA oM oM) (⟨(Keep.refl _ _),rfl⟩)))
   ·intro F1 w1 k1 hf hd
    obtain ⟨f0,f1,b6⟩:∃ v,F1 20=v∧BB Enc.int w1 (a0++O) v (l):=⟨_,rfl,hd 10 20 kR⟩
    have:=b6.len_le
    obtain ⟨F2,rfl⟩:=AK (F:=F1) [(19,vO true),(20,f0),(22,vI ((k - 1:Nat):Int))] ⟨hd 9 19 kR,f1,hd 12 22 kR,trivial⟩
    exact CX rfl rfl ((CR U22_ MS .i64 ((k - 1:Nat):Int) (k - 1) rfl rfl rfl b6 oM fun f2 c6=>(⟨(Keep.refl _ _),⟨f2,rfl,c6⟩⟩)))
   ·intro F1 w1 k1 hf hd
    obtain ⟨f3,f4,c7⟩:∃ aX_,F1 23 = .pointer (some aX_)∧PT Enc.int w1 (a0++O) (.pointer (some aX_)) (l[k - 1]!):=hd 13 23 kR
    obtain ⟨F2,rfl⟩:=AK (F:=F1) [(19,vO true),(23,vP (some f3))] ⟨hd 9 19 kR,f4,trivial⟩
    exact CX rfl rfl ((BK U3_ rfl rfl c7 (⟨(Keep.refl _ _),rfl⟩)))
   ·intro F1 w1 k1 hf hd
    have k0:=(Keep.drew [] a2).trans k1
    have m1:Mv a0 a2 a0 w1:=Mv.of_keep k0
    have a1:=a1.mv m1
    obtain ⟨F2,rfl⟩:=AK (F:=F1) [(0,l_v),(19,vO true)] ⟨hf 0 kR,hd 9 19 kR,trivial⟩
    exact CX rfl rfl ((AE (l_v) rfl (⟨(Keep.refl _ _),a1⟩)))
   ·intro F1 w1 k1 hf hd
    obtain ⟨F2,rfl⟩:=AK (F:=F1) [(3,vI ((k:Nat):Int)),(19,vO true)] ⟨hf 3 kR,hd 9 19 kR,trivial⟩
    exact CX rfl rfl ((AE (vI ((k:Nat):Int)) rfl (⟨(Keep.refl _ _),rfl⟩)))
   ·intro F1 w1 k1 hf hd
    obtain ⟨f5,f6,b7⟩:∃ v,F1 25=v∧BB Enc.int w1 (a0++O) v (l):=⟨_,rfl,hd 15 25 kR⟩
    have:=b7.len_le
    obtain ⟨F2,rfl⟩:=AK (F:=F1) [(19,vO true),(25,f5),(26,vI ((k:Nat):Int))] ⟨hd 9 19 kR,f6,hd 16 26 kR,trivial⟩
    exact CX rfl rfl ((CR U22_ MS .i64 ((k:Nat):Int) k rfl rfl rfl b7 oM fun f7 c8=>(⟨(Keep.refl _ _),⟨f7,rfl,c8⟩⟩)))
   ·intro F1 w1 k1 hf hd
    obtain ⟨f8,f9,c9⟩:∃ aX_,F1 27 = .pointer (some aX_)∧PT Enc.int w1 (a0++O) (.pointer (some aX_)) (l[k]!):=hd 17 27 kR
    obtain ⟨F2,rfl⟩:=AK (F:=F1) [(19,vO true),(27,vP (some f8))] ⟨hd 9 19 kR,f9,trivial⟩
    exact CX rfl rfl ((BK U3_ rfl rfl c9 (⟨(Keep.refl _ _),rfl⟩)))
   intro g0 g1 c0 a4 a7
   have c1:=a9.call c0
   have g2:Mv a0 a2 a0 g1:=Mv.of_keep c0
   have a1:=a1.mv g2
   obtain ⟨F2,rfl⟩:=AK (F:=g0) [(0,l_v),(3,vI ((k:Nat):Int)),(32,undef),(16,vO false),(19,vO true),(24,vI (l[k - 1]!)),(28,vI (l[k]!))] ⟨a7 0 kR,a7 3 kR,a7 32 kR,a4 6 16 kR (by decide),a4 9 19 kR (by decide),a4 14 24 kR (by decide),a4 18 28 kR (by decide),trivial⟩
   clear a4 a7
   refine AW rfl (JZ .i64 (l[k - 1]!) (l[k]!) rfl rfl (AW rfl (AQ (vO (decide (l[k]!≤l[k - 1]!))) rfl rfl (AA (BA (vO (decide (l[k]!≤l[k - 1]!))) rfl rfl (AG (AB (AJ (decide (l[k]!≤l[k - 1]!)) rfl rfl (fun b2=>?_) (fun b2=>?_)))))))))
   ·have h7:l[k]!≤l[k - 1]!:=by simpa using b2
    refine AF (AC kR (AA (AD (vO false) rfl (AG (AB (AM (BC (AI (AI (BC (AI (AS rfl (BZ rfl rfl rfl) (?_)))))))))))))
    have e:(FR l)=false:=by exact ris_no2 (k:=k) oM aS oM
    exact ⟨_,rfl,c1.keep,(by exact congrArg vO e.symm)⟩
   have h8:l[k - 1]! < l[k]!:=by simpa using b2
   refine AR (CB (AB (AC kR (AA (AE (vI ((k:Nat):Int)) rfl (AA (DF .i64 ((k:Nat):Int) (1:Int) (((k+1:Nat):Int)) rfl rfl (GA oM oM) (AA (AD (vI ((k+1:Nat):Int)) rfl (AG (AB (?_))))))))))))
   exact ⟨_,oM,(k+1),a0,oM,(by exact ris_ok2 hr0_1 aS aS oM),rfl,⟨_,AX _ ⟨rfl,(by rfl),rfl,trivial⟩⟩,c1,a1⟩
  have h9:(GU (l[k]!) (0:Int) (4095:Int))=false:=by simpa using a3
  refine cw_draw' 19 _ _ [fun (vT:Value) (wT:World)=>BB Enc.int wT (a0++O) vT (l),CQ (vI ((k:Nat):Int)),fun (vT:Value) (wT:World)=>∃ aT,vT = .pointer (some aT)∧PT Enc.int wT (a0++O) (.pointer (some aT)) (l[k]!),CQ (vI (l[k]!)),CQ (vO (GU (l[k]!) (0:Int) (4095:Int))),CQ (vO true),CQ (vO true),CQ undef,CQ undef,CQ undef,CQ undef,CQ undef,CQ undef,CQ undef,CQ undef,CQ undef,CQ undef,CQ undef,CQ undef] kR kR kR kR rfl rfl ⟨fun _ _ _ h k=>h.mv (Mv.of_keep k),kI,fun _ _ _ ⟨a,e,h⟩ k=>⟨a,e,h.mv (Mv.of_keep k)⟩,kI,kI,kI,kI,kI,kI,kI,kI,kI,kI,kI,kI,kI,kI,kI,kI,trivial⟩ ⟨?_,?_,?_,?_,?_,?_,?_,?_,?_,?_,?_,?_,?_,?_,?_,?_,?_,?_,?_,trivial⟩ ?_
  ·intro F1 w1 k1 hf hd
   have k0:=(Keep.drew [] a2).trans k1
   have m1:Mv a0 a2 a0 w1:=Mv.of_keep k0
   have a1:=a1.mv m1
   obtain ⟨F2,rfl⟩:=AK (F:=F1) [(0,l_v)] ⟨hf 0 kR,trivial⟩
   exact AH rfl ((AE (l_v) rfl (⟨(Keep.refl _ _),a1⟩)))
  ·intro F1 w1 k1 hf hd
   obtain ⟨F2,rfl⟩:=AK (F:=F1) [(3,vI ((k:Nat):Int))] ⟨hf 3 kR,trivial⟩
   exact AH rfl ((AE (vI ((k:Nat):Int)) rfl (⟨(Keep.refl _ _),rfl⟩)))
  ·intro F1 w1 k1 hf hd
   obtain ⟨g3,g4,b8⟩:∃ v,F1 10=v∧BB Enc.int w1 (a0++O) v (l):=⟨_,rfl,hd 0 10 kR⟩
   have:=b8.len_le
   obtain ⟨F2,rfl⟩:=AK (F:=F1) [(10,g3),(11,vI ((k:Nat):Int))] ⟨g4,hd 1 11 kR,trivial⟩
   exact AH rfl ((CR U22_ MS .i64 ((k:Nat):Int) k rfl rfl rfl b8 oM fun g5 d0=>(⟨(Keep.refl _ _),⟨g5,rfl,d0⟩⟩)))
  ·intro F1 w1 k1 hf hd
   obtain ⟨g6,g7,d1⟩:∃ aX_,F1 12 = .pointer (some aX_)∧PT Enc.int w1 (a0++O) (.pointer (some aX_)) (l[k]!):=hd 2 12 kR
   obtain ⟨F2,rfl⟩:=AK (F:=F1) [(12,vP (some g6))] ⟨g7,trivial⟩
   exact AH rfl ((BK U3_ rfl rfl d1 (⟨(Keep.refl _ _),rfl⟩)))
  ·intro F1 w1 k1 hf hd
   have k0:=(Keep.drew [] a2).trans k1
   have s1:=a9.call k0
   obtain ⟨F2,rfl⟩:=AK (F:=F1) [(13,vI (l[k]!))] ⟨hd 3 13 kR,trivial⟩
   refine AH rfl ((AZ (vs:=[vI (l[k]!),vI 0,vI 4095]) HG (ST (O:=a0++O) (l[k]!) (0:Int) (4095:Int) w1 s1.lt) rfl s1 fun j0 j1 j2 j3 g8 g9=>(?_)))
   obtain rfl:=g9
   exact ⟨g8,rfl⟩
  ·intro F1 w1 k1 hf hd
   obtain ⟨F2,rfl⟩:=AK (F:=F1) [(14,vO (GU (l[k]!) (0:Int) (4095:Int)))] ⟨hd 4 14 kR,trivial⟩
   refine AH rfl ((EU (GU (l[k]!) (0:Int) (4095:Int)) rfl (?_)))
   exact ⟨(Keep.refl _ _),congrArg vO (a3)⟩
  ·intro F1 w1 k1 hf hd
   obtain ⟨F2,rfl⟩:=AK (F:=F1) [(15,vO true)] ⟨hd 5 15 kR,trivial⟩
   exact AH rfl ((AE (vO true) rfl (⟨(Keep.refl _ _),rfl⟩)))
  ·intro F1 w1 k1 hf hd
   exact DP rfl rfl (hd 6 16 kR) rfl rfl
  ·intro F1 w1 k1 hf hd
   exact DP rfl rfl (hd 6 16 kR) rfl rfl
  ·intro F1 w1 k1 hf hd
   exact DP rfl rfl (hd 6 16 kR) rfl rfl
  ·intro F1 w1 k1 hf hd
   exact DM rfl rfl (hd 9 19 kR) rfl
  ·intro F1 w1 k1 hf hd
   exact DM rfl rfl (hd 9 19 kR) rfl
  ·intro F1 w1 k1 hf hd
   exact DM rfl rfl (hd 9 19 kR) rfl
  ·intro F1 w1 k1 hf hd
   exact DM rfl rfl (hd 9 19 kR) rfl
  ·intro F1 w1 k1 hf hd
   exact DM rfl rfl (hd 9 19 kR) rfl
  ·intro F1 w1 k1 hf hd
   exact DM rfl rfl (hd 9 19 kR) rfl
  ·intro F1 w1 k1 hf hd
   exact DM rfl rfl (hd 9 19 kR) rfl
  ·intro F1 w1 k1 hf hd
   exact DM rfl rfl (hd 9 19 kR) rfl
  ·intro F1 w1 k1 hf hd
   exact DM rfl rfl (hd 9 19 kR) rfl
  intro h0 j4 h1 b3 a8
  have h2:=a9.call h1
  obtain ⟨F2,rfl⟩:=AK (F:=h0) [(0,l_v),(3,vI ((k:Nat):Int)),(32,undef),(16,vO true),(19,undef)] ⟨a8 0 kR,a8 3 kR,a8 32 kR,b3 6 16 kR (by decide),b3 9 19 kR (by decide),trivial⟩
  clear b3 a8
  refine HH rfl (AL rfl (AA (AQ (vO true) rfl rfl (AG (AB (AJ true rfl rfl (fun _=>AF (AC kR (AA (AD (vO false) rfl (AG (AB (AM (BC (AI (AI (BC (AI (AS rfl (BZ rfl rfl rfl) (?_)))))))))))))) (fun h=>by cases h)))))))
  have e:(FR l)=false:=by exact ris_no1 (k:=k) oM aS
  exact ⟨_,rfl,h2.keep,(by exact congrArg vO e.symm)⟩
 have i0:(l.length:Int)≤((k:Nat):Int):=by simpa using b0
 refine DA (BN (BN (CO (AB (AF (AC kR (AA (AD (vO true) rfl (AG (AB (AM (AS rfl (BZ rfl rfl rfl) (?_)))))))))))))
 have e:(FR l)=true:=by exact ris_all (fun q hq=>hr0_1 q oM)
 exact ⟨_,rfl,a9.keep,(by exact congrArg vO e.symm)⟩
set_option maxHeartbeats 4000000 in
set_option maxRecDepth 100000 in
theorem c_refRec {O:List Nat} (c_cs:List Value) (c:Circle) (i:Nat) (w:World) (g4:Enc.circle.rd w O c_cs c) (hpre0:i<c.recs.length) (hO:∀ b∈O,b<w.heap.size):CA Tryz.prog 68 [.agg c_cs.toArray,vI (i:Int)] w (fun v _=>v = .bool (DD c i)):= by
 have g4:Enc.circle.rd w ([]++O) c_cs c:=g4
 have s0:St w O w []:=St.start hO
 refine BE 82 Tryz.func68 rfl rfl oT (fun F0=>AF (AC kR (AA (DR (E:=Enc.circle) (vA c_cs.toArray) (c_cs) c rfl rfl g4 s0 fun b6 q5 h9 q6 q7 a3=>(AA (AD (vO false) rfl (AG (AB (AF (AC kR (AA (AY 4 DL (c.recs) rfl a3 (fun _ _ _ h=>BX h) fun q8 g5=>(AA (BL U23_ rfl rfl g5 fun q9 e2=>(?_)))))))))))))))
 have:=e2.len_le
 refine AA (AE (vI (i:Int)) rfl (AA (CR U23_ GM .i64 (i:Int) i rfl rfl rfl e2 oM fun r0 g6=>(AA (CJ U59_ rfl GM rfl g6 fun g7 c0=>(AA (CZ [vI 0,vI 0,vI 0,nS,nS] NA rfl h9 fun a1 i0 i1 i2 f6 r4 g8=>(?_))))))))
 clear i1
 have a3:=a3.mv f6
 have c0:Enc.recovery.rd i0 ((a1 :: [])++O) g7 (c.recs[i]!):=Enc.mv Enc.recovery (x:=c.recs[i]!) c0 f6
 obtain ⟨a6,a7,rfl,a4,a2⟩:=c0
 have:=a4.len_le
 have:=a2.len_le
 refine CC (BF (vs:=[vI ((c.recs[i]!).no),vI ((c.recs[i]!).asked),vI ((c.recs[i]!).state),a6,a7]) (.agg #[vI ((c.recs[i]!).no),vI ((c.recs[i]!).asked),vI ((c.recs[i]!).state),a6,a7]) rfl rfl rfl GM (fun u hu=>by simp only [List.mem_cons,List.not_mem_nil,or_false] at hu;rcases hu with rfl|rfl|rfl|rfl|rfl <;> first|rfl|exact a4.oneCell|exact a2.oneCell) (by repeat (constructor)) g8 oT i2 fun a5 a9 c8 r5 a0=>(?_))
 have a3:=a3.mv c8
 have a4:=a4.mv c8
 have a2:=a2.mv c8
 refine AG (AB (AF (AF (?_))))
 cases a8:(((c.recs[i]!).no) != (i:Int))
 ·have n2:(c.recs[i]!).no=(i:Int):=by simpa using a8
  cases b0:(!(GU ((c.recs[i]!).asked) (0:Int) (1023:Int)))
  ·have n3:(GU ((c.recs[i]!).asked) (0:Int) (1023:Int))=true:=by simpa using b0
   cases b7:(decide ((0:Int)<(i:Int)))
   ·have n4:(i:Int)≤(0:Int):=by simpa using b7
    refine cw_draw' 23 _ _ [CQ (vP (some ⟨a1,0,none⟩)),CQ (vI ((c.recs[i]!).no)),CQ (vI (i:Int)),CQ (vO false),CQ (vO false),CQ (vP (some ⟨a1,1,none⟩)),CQ (vI ((c.recs[i]!).asked)),CQ (vO (GU ((c.recs[i]!).asked) (0:Int) (1023:Int))),CQ (vO false),CQ (vO false),CQ (vO false),CQ (vI (i:Int)),CQ (vO false),CQ (vO false),CQ undef,CQ undef,CQ undef,CQ undef,CQ undef,CQ undef,CQ undef,CQ undef,CQ undef] kR kR kR kR rfl rfl ⟨kI,kI,kI,kI,kI,kI,kI,kI,kI,kI,kI,kI,kI,kI,kI,kI,kI,kI,kI,kI,kI,kI,kI,trivial⟩ ⟨?_,?_,?_,?_,?_,?_,?_,?_,?_,?_,?_,?_,?_,?_,?_,?_,?_,?_,?_,?_,?_,?_,?_,trivial⟩ ?_
    ·intro F1 w1 k1 hf hd
     obtain ⟨F2,rfl⟩:=AK (F:=F1) [(5,vP (some ⟨a1,0,none⟩))] ⟨hf 5 kR,trivial⟩
     exact AH rfl ((AT 0 RC rfl (⟨(Keep.refl _ _),rfl⟩)))
    ·intro F1 w1 k1 hf hd
     have k0:=(Keep.drew [] a5).trans k1
     have a0:=a0.keep k0 (by simp)
     obtain ⟨F2,rfl⟩:=AK (F:=F1) [(11,vP (some ⟨a1,0,none⟩))] ⟨hd 0 11 kR,trivial⟩
     exact AH rfl ((AU U3_ rfl (vI ((c.recs[i]!).no)) rfl a0 rfl (⟨(Keep.refl _ _),rfl⟩)))
    ·intro F1 w1 k1 hf hd
     obtain ⟨F2,rfl⟩:=AK (F:=F1) [(1,vI (i:Int))] ⟨hf 1 kR,trivial⟩
     exact AH rfl ((AE (vI (i:Int)) rfl (⟨(Keep.refl _ _),rfl⟩)))
    ·intro F1 w1 k1 hf hd
     obtain ⟨F2,rfl⟩:=AK (F:=F1) [(12,vI ((c.recs[i]!).no)),(13,vI (i:Int))] ⟨hd 1 12 kR,hd 2 13 kR,trivial⟩
     refine AH rfl ((CM .i64 ((c.recs[i]!).no) (i:Int) rfl rfl (?_)))
     exact ⟨(Keep.refl _ _),congrArg vO (a8)⟩
    ·intro F1 w1 k1 hf hd
     obtain ⟨F2,rfl⟩:=AK (F:=F1) [(14,vO false)] ⟨hd 3 14 kR,trivial⟩
     exact AH rfl ((AE (vO false) rfl (⟨(Keep.refl _ _),rfl⟩)))
    ·intro F1 w1 k1 hf hd
     obtain ⟨F2,rfl⟩:=AK (F:=F1) [(5,vP (some ⟨a1,0,none⟩)),(15,vO false)] ⟨hf 5 kR,hd 4 15 kR,trivial⟩
     exact CX rfl rfl ((AT 1 JD rfl (⟨(Keep.refl _ _),rfl⟩)))
    ·intro F1 w1 k1 hf hd
     have k0:=(Keep.drew [] a5).trans k1
     have a0:=a0.keep k0 (by simp)
     obtain ⟨F2,rfl⟩:=AK (F:=F1) [(15,vO false),(16,vP (some ⟨a1,1,none⟩))] ⟨hd 4 15 kR,hd 5 16 kR,trivial⟩
     exact CX rfl rfl ((AU U3_ rfl (vI ((c.recs[i]!).asked)) rfl a0 rfl (⟨(Keep.refl _ _),rfl⟩)))
    ·intro F1 w1 k1 hf hd
     have k0:=(Keep.drew [] a5).trans k1
     have s1:=a9.call k0
     obtain ⟨F2,rfl⟩:=AK (F:=F1) [(15,vO false),(17,vI ((c.recs[i]!).asked))] ⟨hd 4 15 kR,hd 6 17 kR,trivial⟩
     refine CX rfl rfl ((AZ (vs:=[vI ((c.recs[i]!).asked),vI 0,vI 1023]) HG (ST (O:=(a1 :: [])++O) ((c.recs[i]!).asked) (0:Int) (1023:Int) w1 s1.lt) rfl s1 fun r6 r7 r8 r9 i3 i4=>(?_)))
     obtain rfl:=i4
     exact ⟨i3,rfl⟩
    ·intro F1 w1 k1 hf hd
     obtain ⟨F2,rfl⟩:=AK (F:=F1) [(15,vO false),(18,vO (GU ((c.recs[i]!).asked) (0:Int) (1023:Int)))] ⟨hd 4 15 kR,hd 7 18 kR,trivial⟩
     refine CX rfl rfl ((EU (GU ((c.recs[i]!).asked) (0:Int) (1023:Int)) rfl (?_)))
     exact ⟨(Keep.refl _ _),congrArg vO (b0)⟩
    ·intro F1 w1 k1 hf hd
     obtain ⟨F2,rfl⟩:=AK (F:=F1) [(15,vO false),(19,vO false)] ⟨hd 4 15 kR,hd 8 19 kR,trivial⟩
     exact AH rfl ((BA (vO false) rfl rfl (⟨(Keep.refl _ _),rfl⟩)))
    ·intro F1 w1 k1 hf hd
     obtain ⟨F2,rfl⟩:=AK (F:=F1) [(20,vO false)] ⟨hd 9 20 kR,trivial⟩
     exact AH rfl ((AE (vO false) rfl (⟨(Keep.refl _ _),rfl⟩)))
    ·intro F1 w1 k1 hf hd
     obtain ⟨F2,rfl⟩:=AK (F:=F1) [(1,vI (i:Int)),(21,vO false)] ⟨hf 1 kR,hd 10 21 kR,trivial⟩
     exact CX rfl rfl ((AE (vI (i:Int)) rfl (⟨(Keep.refl _ _),rfl⟩)))
    ·intro F1 w1 k1 hf hd
     obtain ⟨F2,rfl⟩:=AK (F:=F1) [(21,vO false),(22,vI (i:Int))] ⟨hd 10 21 kR,hd 11 22 kR,trivial⟩
     refine CX rfl rfl ((FN .i64 (i:Int) (0:Int) rfl rfl (?_)))
     exact ⟨(Keep.refl _ _),congrArg vO (b7)⟩
    ·intro F1 w1 k1 hf hd
     obtain ⟨F2,rfl⟩:=AK (F:=F1) [(21,vO false),(23,vO false)] ⟨hd 10 21 kR,hd 12 23 kR,trivial⟩
     exact CX rfl rfl ((AE (vO false) rfl (⟨(Keep.refl _ _),rfl⟩)))
    ·intro F1 w1 k1 hf hd
     exact DP rfl rfl (hd 13 24 kR) rfl rfl
    ·intro F1 w1 k1 hf hd
     exact DP rfl rfl (hd 13 24 kR) rfl rfl
    ·intro F1 w1 k1 hf hd
     exact DP rfl rfl (hd 13 24 kR) rfl rfl
    ·intro F1 w1 k1 hf hd
     exact DP rfl rfl (hd 13 24 kR) rfl rfl
    ·intro F1 w1 k1 hf hd
     exact DP rfl rfl (hd 13 24 kR) rfl rfl
    ·intro F1 w1 k1 hf hd
     exact DP rfl rfl (hd 13 24 kR) rfl rfl
    ·intro F1 w1 k1 hf hd
     exact DP rfl rfl (hd 13 24 kR) rfl rfl
    ·intro F1 w1 k1 hf hd
     exact DP rfl rfl (hd 13 24 kR) rfl rfl
    ·intro F1 w1 k1 hf hd
     exact DP rfl rfl (hd 13 24 kR) rfl rfl
    intro i5 f7 c9 c1 b1
    have f8:=a9.call c9
    have d0:Mv (a1 :: []) a5 (a1 :: []) f7:=Mv.of_keep c9
    have a3:=a3.mv d0
    have a4:=a4.mv d0
    have a2:=a2.mv d0
    have a0:=a0.keep c9 (by simp)
    obtain ⟨F2,rfl⟩:=AK (F:=i5) [(1,vI (i:Int)),(2,vP (some b6)),(5,vP (some ⟨a1,0,none⟩)),(82,undef),(21,vO false),(24,vO false)] ⟨b1 1 kR,b1 2 kR,b1 5 kR,b1 82 kR,c1 10 21 kR (by decide),c1 13 24 kR (by decide),trivial⟩
    clear c1 b1
    refine AL rfl (AW rfl (BA (vO false) rfl rfl (AA (BA (vO false) rfl rfl (AA (AE (vO false) rfl (AW rfl (AT 2 HN rfl (AW rfl (AU U3_ rfl (vI ((c.recs[i]!).state)) rfl a0 rfl (AW rfl (AZ (vs:=[vI ((c.recs[i]!).state),vI 0,vI 2]) HG (ST (O:=(a1 :: [])++O) ((c.recs[i]!).state) (0:Int) (2:Int) f7 f8.lt) rfl f8 fun s2 i6 d1 d2 i7 i8=>(?_)))))))))))))
    obtain rfl:=i8
    have a3:=a3.mv d2
    have a4:=a4.mv d2
    have a2:=a2.mv d2
    have a0:=a0.keep i7 (by simp)
    refine AW rfl (EU (GU ((c.recs[i]!).state) (0:Int) (2:Int)) rfl (AA (BA (vO (!(GU ((c.recs[i]!).state) (0:Int) (2:Int)))) rfl rfl (AA (AE (vO (!(GU ((c.recs[i]!).state) (0:Int) (2:Int)))) rfl (?_))))))
    cases e3:(!(GU ((c.recs[i]!).state) (0:Int) (2:Int)))
    ·have n5:(GU ((c.recs[i]!).state) (0:Int) (2:Int))=true:=by simpa using e3
     refine AW rfl (AT 3 MA rfl (AW rfl (AU U22_ rfl (a6) rfl a0 rfl (AW rfl (AZ (vs:=[a6]) WG (VZ (O:=(a1 :: [])++O) a6 ((c.recs[i]!).approved) i6 a4 d1.lt) rfl d1 fun s3 i9 b8 f9 j0 j1=>(?_))))))
     obtain rfl:=j1
     have a3:=a3.mv f9
     have a2:=a2.mv f9
     have a0:=a0.keep j0 (by simp)
     refine AW rfl (EU (FR ((c.recs[i]!).approved)) rfl (AA (BA (vO (!(FR ((c.recs[i]!).approved)))) rfl rfl (AG (AB (AJ (!(FR ((c.recs[i]!).approved))) rfl rfl (fun c2=>?_) (fun c2=>?_)))))))
     ·have n6:(FR ((c.recs[i]!).approved))=false:=by simpa using c2
      refine AF (AC kR (AA (AD (vO false) rfl (AG (AB (AM (AI (AS rfl (BZ rfl rfl rfl) (?_)))))))))
      have e:(DD c i)=false:=by (unfold DD;((repeat ((refine (if_pos ?_).trans ?_;solve|(simp only [dbs];(repeat ((right;omega)))))));rfl))
      exact ⟨_,rfl,b8.keep,(by exact congrArg vO e.symm)⟩
     have n7:(FR ((c.recs[i]!).approved))=true:=by simpa using c2
     refine AR (AB (AF (AF (AC kR (AA (AT 2 HN rfl (AA (AU U3_ rfl (vI ((c.recs[i]!).state)) rfl a0 rfl (AA (EK .i64 ((c.recs[i]!).state) (2:Int) rfl rfl (AG (AB (AJ (((c.recs[i]!).state) == (2:Int)) rfl rfl (fun c3=>?_) (fun c3=>?_))))))))))))))
     ·have n9:(c.recs[i]!).state=(2:Int):=by simpa using c3
      refine AF (FK 11 _ _ kR kR kR kR kR rfl rfl fun g0 d3=>?_)
      have d4:=b8.call d3
      have j2:Mv (a1 :: []) i9 (a1 :: []) g0:=Mv.of_keep d3
      have a2:=a2.mv j2
      have a0:=a0.keep d3 (by simp)
      refine BU (AT 4 LK rfl (BU (AU U22_ rfl (a7) rfl a0 rfl (BU (BP U22_ rfl a2 (BU (EK .i64 (((c.recs[i]!).vetoed).length:Int) (1:Int) rfl rfl (BU (AE (vO ((((c.recs[i]!).vetoed).length:Int) == (1:Int))) rfl (?_))))))))))
      cases e4:((((c.recs[i]!).vetoed).length:Int) == (1:Int))
      ·have o0:(((c.recs[i]!).vetoed).length:Int)≠(1:Int):=by simpa using e4
       refine CK rfl (CK rfl (CK rfl (CK rfl (CK rfl (CK rfl (EO (AL rfl (AA (BA (vO false) rfl rfl (AA (AD (vO false) rfl (AG (AB (AM (AI (AS rfl (BZ rfl rfl rfl) (?_)))))))))))))))))
       have e:(DD c i)=false:=by (unfold DD;simp only [*,dbs];simp;done)
       exact ⟨_,rfl,d4.keep,(by exact congrArg vO e.symm)⟩
      have o1:(((c.recs[i]!).vetoed).length:Int)=(1:Int):=by simpa using e4
      refine DW rfl (AT 4 LK rfl (DW rfl (AU U22_ rfl (a7) rfl a0 rfl (DW rfl (CR U22_ MS .i64 (0:Int) 0 rfl rfl rfl a2 oM fun s4 g9=>(DW rfl (BK U3_ rfl rfl g9 (DW rfl (AT 1 JD rfl (DW rfl (AU U3_ rfl (vI ((c.recs[i]!).asked)) rfl a0 rfl (EO (AW rfl (AZ (vs:=[vI (((c.recs[i]!).vetoed)[0]!),vI ((c.recs[i]!).asked),vI 1023]) HG (ST (O:=(a1 :: [])++O) (((c.recs[i]!).vetoed)[0]!) ((c.recs[i]!).asked) (1023:Int) g0 d4.lt) rfl d4 fun s5 s6 j3 s7 s8 j4=>(?_)))))))))))))))
      obtain rfl:=j4
      refine AA (AQ (vO (GU (((c.recs[i]!).vetoed)[0]!) ((c.recs[i]!).asked) (1023:Int))) rfl rfl (AA (AD (vO (GU (((c.recs[i]!).vetoed)[0]!) ((c.recs[i]!).asked) (1023:Int))) rfl (AG (AB (AM (AI (AS rfl (BZ rfl rfl rfl) (?_)))))))))
      have e:(DD c i)=(GU (((c.recs[i]!).vetoed)[0]!) ((c.recs[i]!).asked) (1023:Int)):=by simp_all [DD]
      exact ⟨_,rfl,j3.keep,(by exact congrArg vO e.symm)⟩
     have o2:(c.recs[i]!).state≠(2:Int):=by simpa using c3
     refine AR (AB (AF (AC kR (AA (AT 4 LK rfl (AA (AU U22_ rfl (a7) rfl a0 rfl (AA (BP U22_ rfl a2 (AA (EK .i64 (((c.recs[i]!).vetoed).length:Int) (0:Int) rfl rfl (AA (AE (vO ((((c.recs[i]!).vetoed).length:Int) == (0:Int))) rfl (?_))))))))))))))
     cases e5:((((c.recs[i]!).vetoed).length:Int) == (0:Int))
     ·have o3:(((c.recs[i]!).vetoed).length:Int)≠(0:Int):=by simpa using e5
      refine AL rfl (AL rfl (AL rfl (AL rfl (HH rfl (HH rfl (HH rfl (HH rfl (HH rfl (HH rfl (AL rfl (AA (BA (vO false) rfl rfl (AA (AD (vO false) rfl (AG (AB (AM (AS rfl (BZ rfl rfl rfl) (?_)))))))))))))))))))
      have e:(DD c i)=false:=by (unfold DD;simp only [*,dbs];simp;done)
      exact ⟨_,rfl,b8.keep,(by exact congrArg vO e.symm)⟩
     have o4:(((c.recs[i]!).vetoed).length:Int)=(0:Int):=by simpa using e5
     refine AW rfl (AT 2 HN rfl (AW rfl (AU U3_ rfl (vI ((c.recs[i]!).state)) rfl a0 rfl (AW rfl (EK .i64 ((c.recs[i]!).state) (1:Int) rfl rfl (AW rfl (AE (vO (((c.recs[i]!).state) == (1:Int))) rfl (?_))))))))
     cases e6:(((c.recs[i]!).state) == (1:Int))
     ·have o5:(c.recs[i]!).state≠(1:Int):=by simpa using e6
      refine AW rfl (AE (vI (i:Int)) rfl (AW rfl (AY 4 DL (c.recs) rfl a3 (fun _ _ _ h=>BX h) fun s9 h0=>(AW rfl (BL U23_ rfl rfl h0 fun t0 e7=>(?_))))))
      have:=e7.len_le
      refine AW rfl (BP U23_ rfl e7 (AW rfl (HK .i64 (c.recs.length:Int) (1:Int) ((c.recs.length:Int) - (1:Int)) rfl rfl (GA oM oM) (AW rfl (EK .i64 (i:Int) ((c.recs.length:Int) - (1:Int)) rfl rfl (AW rfl (BA (vO ((i:Int) == ((c.recs.length:Int) - (1:Int)))) rfl rfl (AA (AQ (vO ((i:Int) == ((c.recs.length:Int) - (1:Int)))) rfl rfl (AA (AD (vO ((i:Int) == ((c.recs.length:Int) - (1:Int)))) rfl (AG (AB (AM (AS rfl (BZ rfl rfl rfl) (?_))))))))))))))))
      have e:(DD c i)=((i:Int) == ((c.recs.length:Int) - (1:Int))):=by (unfold DD;simp only [*,dbs];simp;done)
      exact ⟨_,rfl,b8.keep,(by exact congrArg vO e.symm)⟩
     have o6:(c.recs[i]!).state=(1:Int):=by simpa using e6
     refine AL rfl (AL rfl (AL rfl (AL rfl (AL rfl (AL rfl (AW rfl (AQ (vO true) rfl rfl (AA (AQ (vO true) rfl rfl (AA (AD (vO true) rfl (AG (AB (AM (AS rfl (BZ rfl rfl rfl) (?_))))))))))))))))
     have e:(DD c i)=true:=by simp_all [DD]
     exact ⟨_,rfl,b8.keep,(by exact congrArg vO e.symm)⟩
    have o7:(GU ((c.recs[i]!).state) (0:Int) (2:Int))=false:=by simpa using e3
    refine AL rfl (AL rfl (AL rfl (AL rfl (AA (AQ (vO true) rfl rfl (AG (AB (AJ true rfl rfl (fun _=>AF (AC kR (AA (AD (vO false) rfl (AG (AB (AM (AI (AS rfl (BZ rfl rfl rfl) (?_)))))))))) (fun h=>by cases h)))))))))
    have e:(DD c i)=false:=by (unfold DD;((repeat ((refine (if_pos ?_).trans ?_;solve|(simp only [dbs];(repeat (first|(right;omega)|left))))));rfl))
    exact ⟨_,rfl,d1.keep,(by exact congrArg vO e.symm)⟩
   have o8:(0:Int)<(i:Int):=by simpa using b7
   refine cw_draw' 23 _ _ [CQ (vP (some ⟨a1,0,none⟩)),CQ (vI ((c.recs[i]!).no)),CQ (vI (i:Int)),CQ (vO false),CQ (vO false),CQ (vP (some ⟨a1,1,none⟩)),CQ (vI ((c.recs[i]!).asked)),CQ (vO (GU ((c.recs[i]!).asked) (0:Int) (1023:Int))),CQ (vO false),CQ (vO false),CQ (vO false),CQ (vI (i:Int)),CQ (vO true),CQ (vO true),fun (vT:Value) (wT:World)=>∃ aT,vT = .pointer (some aT)∧PT (Enc.slice Enc.recovery) wT ((a1 :: [])++O) (.pointer (some aT)) (c.recs),fun (vT:Value) (wT:World)=>BB Enc.recovery wT ((a1 :: [])++O) vT (c.recs),CQ (vI (i:Int)),CQ (vI ((i - 1:Nat):Int)),fun (vT:Value) (wT:World)=>∃ aT,vT = .pointer (some aT)∧PT Enc.recovery wT ((a1 :: [])++O) (.pointer (some aT)) (c.recs[i - 1]!),fun (vT:Value) (wT:World)=>∃ aT,vT = .pointer (some aT)∧PT Enc.int wT ((a1 :: [])++O) (.pointer (some aT)) ((c.recs[i - 1]!).asked),CQ (vI ((c.recs[i - 1]!).asked)),CQ (vP (some ⟨a1,1,none⟩)),CQ (vI ((c.recs[i]!).asked))] kR kR kR kR rfl rfl ⟨kI,kI,kI,kI,kI,kI,kI,kI,kI,kI,kI,kI,kI,kI,fun _ _ _ ⟨a,e,h⟩ k=>⟨a,e,h.mv (Mv.of_keep k)⟩,fun _ _ _ h k=>h.mv (Mv.of_keep k),kI,kI,fun _ _ _ ⟨a,e,h⟩ k=>⟨a,e,h.mv (Mv.of_keep k)⟩,fun _ _ _ ⟨a,e,h⟩ k=>⟨a,e,h.mv (Mv.of_keep k)⟩,kI,kI,kI,trivial⟩ ⟨?_,?_,?_,?_,?_,?_,?_,?_,?_,?_,?_,?_,?_,?_,?_,?_,?_,?_,?_,?_,?_,?_,?_,trivial⟩ ?_
   ·intro F1 w1 k1 hf hd
    obtain ⟨F2,rfl⟩:=AK (F:=F1) [(5,vP (some ⟨a1,0,none⟩))] ⟨hf 5 kR,trivial⟩
    exact AH rfl ((AT 0 RC rfl (⟨(Keep.refl _ _),rfl⟩)))
   ·intro F1 w1 k1 hf hd
    have k0:=(Keep.drew [] a5).trans k1
    have a0:=a0.keep k0 (by simp)
    obtain ⟨F2,rfl⟩:=AK (F:=F1) [(11,vP (some ⟨a1,0,none⟩))] ⟨hd 0 11 kR,trivial⟩
    exact AH rfl ((AU U3_ rfl (vI ((c.recs[i]!).no)) rfl a0 rfl (⟨(Keep.refl _ _),rfl⟩)))
   ·intro F1 w1 k1 hf hd
    obtain ⟨F2,rfl⟩:=AK (F:=F1) [(1,vI (i:Int))] ⟨hf 1 kR,trivial⟩
    exact AH rfl ((AE (vI (i:Int)) rfl (⟨(Keep.refl _ _),rfl⟩)))
   ·intro F1 w1 k1 hf hd
    obtain ⟨F2,rfl⟩:=AK (F:=F1) [(12,vI ((c.recs[i]!).no)),(13,vI (i:Int))] ⟨hd 1 12 kR,hd 2 13 kR,trivial⟩
    refine AH rfl ((CM .i64 ((c.recs[i]!).no) (i:Int) rfl rfl (?_)))
    exact ⟨(Keep.refl _ _),congrArg vO (a8)⟩
   ·intro F1 w1 k1 hf hd
    obtain ⟨F2,rfl⟩:=AK (F:=F1) [(14,vO false)] ⟨hd 3 14 kR,trivial⟩
    exact AH rfl ((AE (vO false) rfl (⟨(Keep.refl _ _),rfl⟩)))
   ·intro F1 w1 k1 hf hd
    obtain ⟨F2,rfl⟩:=AK (F:=F1) [(5,vP (some ⟨a1,0,none⟩)),(15,vO false)] ⟨hf 5 kR,hd 4 15 kR,trivial⟩
    exact CX rfl rfl ((AT 1 JD rfl (⟨(Keep.refl _ _),rfl⟩)))
   ·intro F1 w1 k1 hf hd
    have k0:=(Keep.drew [] a5).trans k1
    have a0:=a0.keep k0 (by simp)
    obtain ⟨F2,rfl⟩:=AK (F:=F1) [(15,vO false),(16,vP (some ⟨a1,1,none⟩))] ⟨hd 4 15 kR,hd 5 16 kR,trivial⟩
    exact CX rfl rfl ((AU U3_ rfl (vI ((c.recs[i]!).asked)) rfl a0 rfl (⟨(Keep.refl _ _),rfl⟩)))
   ·intro F1 w1 k1 hf hd
    have k0:=(Keep.drew [] a5).trans k1
    have s1:=a9.call k0
    obtain ⟨F2,rfl⟩:=AK (F:=F1) [(15,vO false),(17,vI ((c.recs[i]!).asked))] ⟨hd 4 15 kR,hd 6 17 kR,trivial⟩
    refine CX rfl rfl ((AZ (vs:=[vI ((c.recs[i]!).asked),vI 0,vI 1023]) HG (ST (O:=(a1 :: [])++O) ((c.recs[i]!).asked) (0:Int) (1023:Int) w1 s1.lt) rfl s1 fun t2 t3 t4 t5 j5 j6=>(?_)))
    obtain rfl:=j6
    exact ⟨j5,rfl⟩
   ·intro F1 w1 k1 hf hd
    obtain ⟨F2,rfl⟩:=AK (F:=F1) [(15,vO false),(18,vO (GU ((c.recs[i]!).asked) (0:Int) (1023:Int)))] ⟨hd 4 15 kR,hd 7 18 kR,trivial⟩
    refine CX rfl rfl ((EU (GU ((c.recs[i]!).asked) (0:Int) (1023:Int)) rfl (?_)))
    exact ⟨(Keep.refl _ _),congrArg vO (b0)⟩
   ·intro F1 w1 k1 hf hd
    obtain ⟨F2,rfl⟩:=AK (F:=F1) [(15,vO false),(19,vO false)] ⟨hd 4 15 kR,hd 8 19 kR,trivial⟩
    exact AH rfl ((BA (vO false) rfl rfl (⟨(Keep.refl _ _),rfl⟩)))
   ·intro F1 w1 k1 hf hd
    obtain ⟨F2,rfl⟩:=AK (F:=F1) [(20,vO false)] ⟨hd 9 20 kR,trivial⟩
    exact AH rfl ((AE (vO false) rfl (⟨(Keep.refl _ _),rfl⟩)))
   ·intro F1 w1 k1 hf hd
    obtain ⟨F2,rfl⟩:=AK (F:=F1) [(1,vI (i:Int)),(21,vO false)] ⟨hf 1 kR,hd 10 21 kR,trivial⟩
    exact CX rfl rfl ((AE (vI (i:Int)) rfl (⟨(Keep.refl _ _),rfl⟩)))
   ·intro F1 w1 k1 hf hd
    obtain ⟨F2,rfl⟩:=AK (F:=F1) [(21,vO false),(22,vI (i:Int))] ⟨hd 10 21 kR,hd 11 22 kR,trivial⟩
    refine CX rfl rfl ((FN .i64 (i:Int) (0:Int) rfl rfl (?_)))
    exact ⟨(Keep.refl _ _),congrArg vO (b7)⟩
   ·intro F1 w1 k1 hf hd
    obtain ⟨F2,rfl⟩:=AK (F:=F1) [(21,vO false),(23,vO true)] ⟨hd 10 21 kR,hd 12 23 kR,trivial⟩
    exact CX rfl rfl ((AE (vO true) rfl (⟨(Keep.refl _ _),rfl⟩)))
   ·intro F1 w1 k1 hf hd
    have k0:=(Keep.drew [] a5).trans k1
    have m1:Mv (a1 :: []) a5 (a1 :: []) w1:=Mv.of_keep k0
    have a3:=a3.mv m1
    obtain ⟨F2,rfl⟩:=AK (F:=F1) [(2,vP (some b6)),(24,vO true)] ⟨hf 2 kR,hd 13 24 kR,trivial⟩
    exact CX rfl rfl ((AY 4 DL (c.recs) rfl a3 (fun _ _ _ h=>BX h) fun j7 h1=>(⟨(Keep.refl _ _),⟨j7,rfl,h1⟩⟩)))
   ·intro F1 w1 k1 hf hd
    obtain ⟨j8,j9,h2⟩:∃ aX_,F1 25 = .pointer (some aX_)∧PT (Enc.slice Enc.recovery) w1 ((a1 :: [])++O) (.pointer (some aX_)) (c.recs):=hd 14 25 kR
    obtain ⟨F2,rfl⟩:=AK (F:=F1) [(24,vO true),(25,vP (some j8))] ⟨hd 13 24 kR,j9,trivial⟩
    refine CX rfl rfl ((BL U23_ rfl rfl h2 fun t6 e8=>(?_)))
    have:=e8.len_le
    exact ⟨(Keep.refl _ _),e8⟩
   ·intro F1 w1 k1 hf hd
    obtain ⟨F2,rfl⟩:=AK (F:=F1) [(1,vI (i:Int)),(24,vO true)] ⟨hf 1 kR,hd 13 24 kR,trivial⟩
    exact CX rfl rfl ((AE (vI (i:Int)) rfl (⟨(Keep.refl _ _),rfl⟩)))
   ·intro F1 w1 k1 hf hd
    obtain ⟨F2,rfl⟩:=AK (F:=F1) [(24,vO true),(27,vI (i:Int))] ⟨hd 13 24 kR,hd 16 27 kR,trivial⟩
    exact CX rfl rfl ((HK .i64 (i:Int) (1:Int) (((i - 1:Nat):Int)) rfl rfl (GA oM oM) (⟨(Keep.refl _ _),rfl⟩)))
   ·intro F1 w1 k1 hf hd
    obtain ⟨k2,k3,e9⟩:∃ v,F1 26=v∧BB Enc.recovery w1 ((a1 :: [])++O) v (c.recs):=⟨_,rfl,hd 15 26 kR⟩
    have:=e9.len_le
    obtain ⟨F2,rfl⟩:=AK (F:=F1) [(24,vO true),(26,k2),(28,vI ((i - 1:Nat):Int))] ⟨hd 13 24 kR,k3,hd 17 28 kR,trivial⟩
    exact CX rfl rfl ((CR U23_ GM .i64 ((i - 1:Nat):Int) (i - 1) rfl rfl rfl e9 oM fun k4 h3=>(⟨(Keep.refl _ _),⟨k4,rfl,h3⟩⟩)))
   ·intro F1 w1 k1 hf hd
    obtain ⟨k5,k6,h4⟩:∃ aX_,F1 29 = .pointer (some aX_)∧PT Enc.recovery w1 ((a1 :: [])++O) (.pointer (some aX_)) (c.recs[i - 1]!):=hd 18 29 kR
    obtain ⟨F2,rfl⟩:=AK (F:=F1) [(24,vO true),(29,vP (some k5))] ⟨hd 13 24 kR,k6,trivial⟩
    exact CX rfl rfl ((AY 1 JD ((c.recs[i - 1]!).asked) rfl h4 (fun _ _ _ h=>OS h) fun k7 h5=>(⟨(Keep.refl _ _),⟨k7,rfl,h5⟩⟩)))
   ·intro F1 w1 k1 hf hd
    obtain ⟨k8,k9,h6⟩:∃ aX_,F1 30 = .pointer (some aX_)∧PT Enc.int w1 ((a1 :: [])++O) (.pointer (some aX_)) ((c.recs[i - 1]!).asked):=hd 19 30 kR
    obtain ⟨F2,rfl⟩:=AK (F:=F1) [(24,vO true),(30,vP (some k8))] ⟨hd 13 24 kR,k9,trivial⟩
    exact CX rfl rfl ((BK U3_ rfl rfl h6 (⟨(Keep.refl _ _),rfl⟩)))
   ·intro F1 w1 k1 hf hd
    obtain ⟨F2,rfl⟩:=AK (F:=F1) [(5,vP (some ⟨a1,0,none⟩)),(24,vO true)] ⟨hf 5 kR,hd 13 24 kR,trivial⟩
    exact CX rfl rfl ((AT 1 JD rfl (⟨(Keep.refl _ _),rfl⟩)))
   ·intro F1 w1 k1 hf hd
    have k0:=(Keep.drew [] a5).trans k1
    have a0:=a0.keep k0 (by simp)
    obtain ⟨F2,rfl⟩:=AK (F:=F1) [(24,vO true),(32,vP (some ⟨a1,1,none⟩))] ⟨hd 13 24 kR,hd 21 32 kR,trivial⟩
    exact CX rfl rfl ((AU U3_ rfl (vI ((c.recs[i]!).asked)) rfl a0 rfl (⟨(Keep.refl _ _),rfl⟩)))
   intro l0 g1 d5 b2 b3
   have d6:=a9.call d5
   have d7:Mv (a1 :: []) a5 (a1 :: []) g1:=Mv.of_keep d5
   have a3:=a3.mv d7
   have a4:=a4.mv d7
   have a2:=a2.mv d7
   have a0:=a0.keep d5 (by simp)
   obtain ⟨F2,rfl⟩:=AK (F:=l0) [(1,vI (i:Int)),(2,vP (some b6)),(5,vP (some ⟨a1,0,none⟩)),(82,undef),(21,vO false),(24,vO true),(31,vI ((c.recs[i - 1]!).asked)),(33,vI ((c.recs[i]!).asked))] ⟨b3 1 kR,b3 2 kR,b3 5 kR,b3 82 kR,b2 10 21 kR (by decide),b2 13 24 kR (by decide),b2 20 31 kR (by decide),b2 22 33 kR (by decide),trivial⟩
   clear b2 b3
   refine AW rfl (FN .i64 ((c.recs[i - 1]!).asked) ((c.recs[i]!).asked) rfl rfl (AW rfl (AQ (vO (decide ((c.recs[i]!).asked<(c.recs[i - 1]!).asked))) rfl rfl (AA (BA (vO (decide ((c.recs[i]!).asked<(c.recs[i - 1]!).asked))) rfl rfl (AA (AE (vO (decide ((c.recs[i]!).asked<(c.recs[i - 1]!).asked))) rfl (?_))))))))
   cases f0:(decide ((c.recs[i]!).asked<(c.recs[i - 1]!).asked))
   ·have o9:(c.recs[i - 1]!).asked≤(c.recs[i]!).asked:=by simpa using f0
    refine AW rfl (AT 2 HN rfl (AW rfl (AU U3_ rfl (vI ((c.recs[i]!).state)) rfl a0 rfl (AW rfl (AZ (vs:=[vI ((c.recs[i]!).state),vI 0,vI 2]) HG (ST (O:=(a1 :: [])++O) ((c.recs[i]!).state) (0:Int) (2:Int) g1 d6.lt) rfl d6 fun t7 l1 d8 d9 l2 l3=>(?_))))))
    obtain rfl:=l3
    have a3:=a3.mv d9
    have a4:=a4.mv d9
    have a2:=a2.mv d9
    have a0:=a0.keep l2 (by simp)
    refine AW rfl (EU (GU ((c.recs[i]!).state) (0:Int) (2:Int)) rfl (AA (BA (vO (!(GU ((c.recs[i]!).state) (0:Int) (2:Int)))) rfl rfl (AA (AE (vO (!(GU ((c.recs[i]!).state) (0:Int) (2:Int)))) rfl (?_))))))
    cases f1:(!(GU ((c.recs[i]!).state) (0:Int) (2:Int)))
    ·have p0:(GU ((c.recs[i]!).state) (0:Int) (2:Int))=true:=by simpa using f1
     refine AW rfl (AT 3 MA rfl (AW rfl (AU U22_ rfl (a6) rfl a0 rfl (AW rfl (AZ (vs:=[a6]) WG (VZ (O:=(a1 :: [])++O) a6 ((c.recs[i]!).approved) l1 a4 d8.lt) rfl d8 fun t8 l4 b9 g2 l5 l6=>(?_))))))
     obtain rfl:=l6
     have a3:=a3.mv g2
     have a2:=a2.mv g2
     have a0:=a0.keep l5 (by simp)
     refine AW rfl (EU (FR ((c.recs[i]!).approved)) rfl (AA (BA (vO (!(FR ((c.recs[i]!).approved)))) rfl rfl (AG (AB (AJ (!(FR ((c.recs[i]!).approved))) rfl rfl (fun c4=>?_) (fun c4=>?_)))))))
     ·have p1:(FR ((c.recs[i]!).approved))=false:=by simpa using c4
      refine AF (AC kR (AA (AD (vO false) rfl (AG (AB (AM (AI (AS rfl (BZ rfl rfl rfl) (?_)))))))))
      have e:(DD c i)=false:=by (unfold DD;((repeat ((refine (if_pos ?_).trans ?_;solve|(simp only [dbs];(repeat ((right;omega)))))));rfl))
      exact ⟨_,rfl,b9.keep,(by exact congrArg vO e.symm)⟩
     have p2:(FR ((c.recs[i]!).approved))=true:=by simpa using c4
     refine AR (AB (AF (AF (AC kR (AA (AT 2 HN rfl (AA (AU U3_ rfl (vI ((c.recs[i]!).state)) rfl a0 rfl (AA (EK .i64 ((c.recs[i]!).state) (2:Int) rfl rfl (AG (AB (AJ (((c.recs[i]!).state) == (2:Int)) rfl rfl (fun c5=>?_) (fun c5=>?_))))))))))))))
     ·have p3:(c.recs[i]!).state=(2:Int):=by simpa using c5
      refine AF (FK 11 _ _ kR kR kR kR kR rfl rfl fun g3 e0=>?_)
      have e1:=b9.call e0
      have l7:Mv (a1 :: []) l4 (a1 :: []) g3:=Mv.of_keep e0
      have a2:=a2.mv l7
      have a0:=a0.keep e0 (by simp)
      refine BU (AT 4 LK rfl (BU (AU U22_ rfl (a7) rfl a0 rfl (BU (BP U22_ rfl a2 (BU (EK .i64 (((c.recs[i]!).vetoed).length:Int) (1:Int) rfl rfl (BU (AE (vO ((((c.recs[i]!).vetoed).length:Int) == (1:Int))) rfl (?_))))))))))
      cases f2:((((c.recs[i]!).vetoed).length:Int) == (1:Int))
      ·have p4:(((c.recs[i]!).vetoed).length:Int)≠(1:Int):=by simpa using f2
       refine CK rfl (CK rfl (CK rfl (CK rfl (CK rfl (CK rfl (EO (AL rfl (AA (BA (vO false) rfl rfl (AA (AD (vO false) rfl (AG (AB (AM (AI (AS rfl (BZ rfl rfl rfl) (?_)))))))))))))))))
       have e:(DD c i)=false:=by (unfold DD;simp only [*,dbs];simp;done)
       exact ⟨_,rfl,e1.keep,(by exact congrArg vO e.symm)⟩
      have p5:(((c.recs[i]!).vetoed).length:Int)=(1:Int):=by simpa using f2
      refine DW rfl (AT 4 LK rfl (DW rfl (AU U22_ rfl (a7) rfl a0 rfl (DW rfl (CR U22_ MS .i64 (0:Int) 0 rfl rfl rfl a2 oM fun t9 h7=>(DW rfl (BK U3_ rfl rfl h7 (DW rfl (AT 1 JD rfl (DW rfl (AU U3_ rfl (vI ((c.recs[i]!).asked)) rfl a0 rfl (EO (AW rfl (AZ (vs:=[vI (((c.recs[i]!).vetoed)[0]!),vI ((c.recs[i]!).asked),vI 1023]) HG (ST (O:=(a1 :: [])++O) (((c.recs[i]!).vetoed)[0]!) ((c.recs[i]!).asked) (1023:Int) g3 e1.lt) rfl e1 fun u0 u1 l8 u2 u3 l9=>(?_)))))))))))))))
      obtain rfl:=l9
      refine AA (AQ (vO (GU (((c.recs[i]!).vetoed)[0]!) ((c.recs[i]!).asked) (1023:Int))) rfl rfl (AA (AD (vO (GU (((c.recs[i]!).vetoed)[0]!) ((c.recs[i]!).asked) (1023:Int))) rfl (AG (AB (AM (AI (AS rfl (BZ rfl rfl rfl) (?_)))))))))
      have e:(DD c i)=(GU (((c.recs[i]!).vetoed)[0]!) ((c.recs[i]!).asked) (1023:Int)):=by simp_all [DD]
      exact ⟨_,rfl,l8.keep,(by exact congrArg vO e.symm)⟩
     have p6:(c.recs[i]!).state≠(2:Int):=by simpa using c5
     refine AR (AB (AF (AC kR (AA (AT 4 LK rfl (AA (AU U22_ rfl (a7) rfl a0 rfl (AA (BP U22_ rfl a2 (AA (EK .i64 (((c.recs[i]!).vetoed).length:Int) (0:Int) rfl rfl (AA (AE (vO ((((c.recs[i]!).vetoed).length:Int) == (0:Int))) rfl (?_))))))))))))))
     cases f3:((((c.recs[i]!).vetoed).length:Int) == (0:Int))
     ·have p7:(((c.recs[i]!).vetoed).length:Int)≠(0:Int):=by simpa using f3
      refine AL rfl (AL rfl (AL rfl (AL rfl (HH rfl (HH rfl (HH rfl (HH rfl (HH rfl (HH rfl (AL rfl (AA (BA (vO false) rfl rfl (AA (AD (vO false) rfl (AG (AB (AM (AS rfl (BZ rfl rfl rfl) (?_)))))))))))))))))))
      have e:(DD c i)=false:=by (unfold DD;simp only [*,dbs];simp;done)
      exact ⟨_,rfl,b9.keep,(by exact congrArg vO e.symm)⟩
     have p8:(((c.recs[i]!).vetoed).length:Int)=(0:Int):=by simpa using f3
     refine AW rfl (AT 2 HN rfl (AW rfl (AU U3_ rfl (vI ((c.recs[i]!).state)) rfl a0 rfl (AW rfl (EK .i64 ((c.recs[i]!).state) (1:Int) rfl rfl (AW rfl (AE (vO (((c.recs[i]!).state) == (1:Int))) rfl (?_))))))))
     cases f4:(((c.recs[i]!).state) == (1:Int))
     ·have p9:(c.recs[i]!).state≠(1:Int):=by simpa using f4
      refine AW rfl (AE (vI (i:Int)) rfl (AW rfl (AY 4 DL (c.recs) rfl a3 (fun _ _ _ h=>BX h) fun u4 h8=>(AW rfl (BL U23_ rfl rfl h8 fun u5 f5=>(?_))))))
      have:=f5.len_le
      refine AW rfl (BP U23_ rfl f5 (AW rfl (HK .i64 (c.recs.length:Int) (1:Int) ((c.recs.length:Int) - (1:Int)) rfl rfl (GA oM oM) (AW rfl (EK .i64 (i:Int) ((c.recs.length:Int) - (1:Int)) rfl rfl (AW rfl (BA (vO ((i:Int) == ((c.recs.length:Int) - (1:Int)))) rfl rfl (AA (AQ (vO ((i:Int) == ((c.recs.length:Int) - (1:Int)))) rfl rfl (AA (AD (vO ((i:Int) == ((c.recs.length:Int) - (1:Int)))) rfl (AG (AB (AM (AS rfl (BZ rfl rfl rfl) (?_))))))))))))))))
      have e:(DD c i)=((i:Int) == ((c.recs.length:Int) - (1:Int))):=by (unfold DD;simp only [*,dbs];simp;done)
      exact ⟨_,rfl,b9.keep,(by exact congrArg vO e.symm)⟩
     have q0:(c.recs[i]!).state=(1:Int):=by simpa using f4
     refine AL rfl (AL rfl (AL rfl (AL rfl (AL rfl (AL rfl (AW rfl (AQ (vO true) rfl rfl (AA (AQ (vO true) rfl rfl (AA (AD (vO true) rfl (AG (AB (AM (AS rfl (BZ rfl rfl rfl) (?_))))))))))))))))
     have e:(DD c i)=true:=by simp_all [DD]
     exact ⟨_,rfl,b9.keep,(by exact congrArg vO e.symm)⟩
    have q1:(GU ((c.recs[i]!).state) (0:Int) (2:Int))=false:=by simpa using f1
    refine AL rfl (AL rfl (AL rfl (AL rfl (AA (AQ (vO true) rfl rfl (AG (AB (AJ true rfl rfl (fun _=>AF (AC kR (AA (AD (vO false) rfl (AG (AB (AM (AI (AS rfl (BZ rfl rfl rfl) (?_)))))))))) (fun h=>by cases h)))))))))
    have e:(DD c i)=false:=by (unfold DD;((repeat ((refine (if_pos ?_).trans ?_;solve|(simp only [dbs];(repeat (first|(right;omega)|left))))));rfl))
    exact ⟨_,rfl,d8.keep,(by exact congrArg vO e.symm)⟩
   have q2:(c.recs[i]!).asked<(c.recs[i - 1]!).asked:=by simpa using f0
   refine AL rfl (AL rfl (AL rfl (AL rfl (AA (AQ (vO true) rfl rfl (AA (AE (vO true) rfl (AL rfl (AL rfl (AL rfl (AL rfl (AA (AQ (vO true) rfl rfl (AG (AB (AJ true rfl rfl (fun _=>AF (AC kR (AA (AD (vO false) rfl (AG (AB (AM (AI (AS rfl (BZ rfl rfl rfl) (?_)))))))))) (fun h=>by cases h)))))))))))))))))
   have e:(DD c i)=false:=by (unfold DD;((repeat ((refine (if_pos ?_).trans ?_;solve|(simp only [dbs];(repeat (omega))))));rfl))
   exact ⟨_,rfl,d6.keep,(by exact congrArg vO e.symm)⟩
  have q3:(GU ((c.recs[i]!).asked) (0:Int) (1023:Int))=false:=by simpa using b0
  refine cw_draw' 23 _ _ [CQ (vP (some ⟨a1,0,none⟩)),CQ (vI ((c.recs[i]!).no)),CQ (vI (i:Int)),CQ (vO false),CQ (vO false),CQ (vP (some ⟨a1,1,none⟩)),CQ (vI ((c.recs[i]!).asked)),CQ (vO (GU ((c.recs[i]!).asked) (0:Int) (1023:Int))),CQ (vO true),CQ (vO true),CQ (vO true),CQ undef,CQ undef,CQ undef,CQ undef,CQ undef,CQ undef,CQ undef,CQ undef,CQ undef,CQ undef,CQ undef,CQ undef] kR kR kR kR rfl rfl ⟨kI,kI,kI,kI,kI,kI,kI,kI,kI,kI,kI,kI,kI,kI,kI,kI,kI,kI,kI,kI,kI,kI,kI,trivial⟩ ⟨?_,?_,?_,?_,?_,?_,?_,?_,?_,?_,?_,?_,?_,?_,?_,?_,?_,?_,?_,?_,?_,?_,?_,trivial⟩ ?_
  ·intro F1 w1 k1 hf hd
   obtain ⟨F2,rfl⟩:=AK (F:=F1) [(5,vP (some ⟨a1,0,none⟩))] ⟨hf 5 kR,trivial⟩
   exact AH rfl ((AT 0 RC rfl (⟨(Keep.refl _ _),rfl⟩)))
  ·intro F1 w1 k1 hf hd
   have k0:=(Keep.drew [] a5).trans k1
   have a0:=a0.keep k0 (by simp)
   obtain ⟨F2,rfl⟩:=AK (F:=F1) [(11,vP (some ⟨a1,0,none⟩))] ⟨hd 0 11 kR,trivial⟩
   exact AH rfl ((AU U3_ rfl (vI ((c.recs[i]!).no)) rfl a0 rfl (⟨(Keep.refl _ _),rfl⟩)))
  ·intro F1 w1 k1 hf hd
   obtain ⟨F2,rfl⟩:=AK (F:=F1) [(1,vI (i:Int))] ⟨hf 1 kR,trivial⟩
   exact AH rfl ((AE (vI (i:Int)) rfl (⟨(Keep.refl _ _),rfl⟩)))
  ·intro F1 w1 k1 hf hd
   obtain ⟨F2,rfl⟩:=AK (F:=F1) [(12,vI ((c.recs[i]!).no)),(13,vI (i:Int))] ⟨hd 1 12 kR,hd 2 13 kR,trivial⟩
   refine AH rfl ((CM .i64 ((c.recs[i]!).no) (i:Int) rfl rfl (?_)))
   exact ⟨(Keep.refl _ _),congrArg vO (a8)⟩
  ·intro F1 w1 k1 hf hd
   obtain ⟨F2,rfl⟩:=AK (F:=F1) [(14,vO false)] ⟨hd 3 14 kR,trivial⟩
   exact AH rfl ((AE (vO false) rfl (⟨(Keep.refl _ _),rfl⟩)))
  ·intro F1 w1 k1 hf hd
   obtain ⟨F2,rfl⟩:=AK (F:=F1) [(5,vP (some ⟨a1,0,none⟩)),(15,vO false)] ⟨hf 5 kR,hd 4 15 kR,trivial⟩
   exact CX rfl rfl ((AT 1 JD rfl (⟨(Keep.refl _ _),rfl⟩)))
  ·intro F1 w1 k1 hf hd
   have k0:=(Keep.drew [] a5).trans k1
   have a0:=a0.keep k0 (by simp)
   obtain ⟨F2,rfl⟩:=AK (F:=F1) [(15,vO false),(16,vP (some ⟨a1,1,none⟩))] ⟨hd 4 15 kR,hd 5 16 kR,trivial⟩
   exact CX rfl rfl ((AU U3_ rfl (vI ((c.recs[i]!).asked)) rfl a0 rfl (⟨(Keep.refl _ _),rfl⟩)))
  ·intro F1 w1 k1 hf hd
   have k0:=(Keep.drew [] a5).trans k1
   have s1:=a9.call k0
   obtain ⟨F2,rfl⟩:=AK (F:=F1) [(15,vO false),(17,vI ((c.recs[i]!).asked))] ⟨hd 4 15 kR,hd 6 17 kR,trivial⟩
   refine CX rfl rfl ((AZ (vs:=[vI ((c.recs[i]!).asked),vI 0,vI 1023]) HG (ST (O:=(a1 :: [])++O) ((c.recs[i]!).asked) (0:Int) (1023:Int) w1 s1.lt) rfl s1 fun u6 u7 u9 v0 m0 m2=>(?_)))
   obtain rfl:=m2
   exact ⟨m0,rfl⟩
  ·intro F1 w1 k1 hf hd
   obtain ⟨F2,rfl⟩:=AK (F:=F1) [(15,vO false),(18,vO (GU ((c.recs[i]!).asked) (0:Int) (1023:Int)))] ⟨hd 4 15 kR,hd 7 18 kR,trivial⟩
   refine CX rfl rfl ((EU (GU ((c.recs[i]!).asked) (0:Int) (1023:Int)) rfl (?_)))
   exact ⟨(Keep.refl _ _),congrArg vO (b0)⟩
  ·intro F1 w1 k1 hf hd
   obtain ⟨F2,rfl⟩:=AK (F:=F1) [(15,vO false),(19,vO true)] ⟨hd 4 15 kR,hd 8 19 kR,trivial⟩
   exact AH rfl ((BA (vO true) rfl rfl (⟨(Keep.refl _ _),rfl⟩)))
  ·intro F1 w1 k1 hf hd
   obtain ⟨F2,rfl⟩:=AK (F:=F1) [(20,vO true)] ⟨hd 9 20 kR,trivial⟩
   exact AH rfl ((AE (vO true) rfl (⟨(Keep.refl _ _),rfl⟩)))
  ·intro F1 w1 k1 hf hd
   exact DP rfl rfl (hd 10 21 kR) rfl rfl
  ·intro F1 w1 k1 hf hd
   exact DP rfl rfl (hd 10 21 kR) rfl rfl
  ·intro F1 w1 k1 hf hd
   exact DP rfl rfl (hd 10 21 kR) rfl rfl
  ·intro F1 w1 k1 hf hd
   exact DM rfl rfl (hd 13 24 kR) rfl
  ·intro F1 w1 k1 hf hd
   exact DM rfl rfl (hd 13 24 kR) rfl
  ·intro F1 w1 k1 hf hd
   exact DM rfl rfl (hd 13 24 kR) rfl
  ·intro F1 w1 k1 hf hd
   exact DM rfl rfl (hd 13 24 kR) rfl
  ·intro F1 w1 k1 hf hd
   exact DM rfl rfl (hd 13 24 kR) rfl
  ·intro F1 w1 k1 hf hd
   exact DM rfl rfl (hd 13 24 kR) rfl
  ·intro F1 w1 k1 hf hd
   exact DM rfl rfl (hd 13 24 kR) rfl
  ·intro F1 w1 k1 hf hd
   exact DM rfl rfl (hd 13 24 kR) rfl
  ·intro F1 w1 k1 hf hd
   exact DM rfl rfl (hd 13 24 kR) rfl
  intro m3 v1 m4 c6 b4
  have m5:=a9.call m4
  obtain ⟨F2,rfl⟩:=AK (F:=m3) [(1,vI (i:Int)),(2,vP (some b6)),(5,vP (some ⟨a1,0,none⟩)),(82,undef),(21,vO true),(24,undef)] ⟨b4 1 kR,b4 2 kR,b4 5 kR,b4 82 kR,c6 10 21 kR (by decide),c6 13 24 kR (by decide),trivial⟩
  clear c6 b4
  refine HH rfl (AL rfl (AA (AQ (vO true) rfl rfl (AA (AE (vO true) rfl (AL rfl (AL rfl (AL rfl (AL rfl (AA (AQ (vO true) rfl rfl (AA (AE (vO true) rfl (AL rfl (AL rfl (AL rfl (AL rfl (AA (AQ (vO true) rfl rfl (AG (AB (AJ true rfl rfl (fun _=>AF (AC kR (AA (AD (vO false) rfl (AG (AB (AM (AI (AS rfl (BZ rfl rfl rfl) (?_)))))))))) (fun h=>by cases h)))))))))))))))))))))))
  have e:(DD c i)=false:=by (unfold DD;((repeat ((refine (if_pos ?_).trans ?_;solve|(simp only [dbs];(repeat (first|(right;omega)|left))))));rfl))
  exact ⟨_,rfl,m5.keep,(by exact congrArg vO e.symm)⟩
 have q4:(c.recs[i]!).no≠(i:Int):=by simpa using a8
 refine cw_draw' 23 _ _ [CQ (vP (some ⟨a1,0,none⟩)),CQ (vI ((c.recs[i]!).no)),CQ (vI (i:Int)),CQ (vO true),CQ (vO true),CQ undef,CQ undef,CQ undef,CQ undef,CQ (vO true),CQ (vO true),CQ undef,CQ undef,CQ undef,CQ undef,CQ undef,CQ undef,CQ undef,CQ undef,CQ undef,CQ undef,CQ undef,CQ undef] kR kR kR kR rfl rfl ⟨kI,kI,kI,kI,kI,kI,kI,kI,kI,kI,kI,kI,kI,kI,kI,kI,kI,kI,kI,kI,kI,kI,kI,trivial⟩ ⟨?_,?_,?_,?_,?_,?_,?_,?_,?_,?_,?_,?_,?_,?_,?_,?_,?_,?_,?_,?_,?_,?_,?_,trivial⟩ ?_
 ·intro F1 w1 k1 hf hd
  obtain ⟨F2,rfl⟩:=AK (F:=F1) [(5,vP (some ⟨a1,0,none⟩))] ⟨hf 5 kR,trivial⟩
  exact AH rfl ((AT 0 RC rfl (⟨(Keep.refl _ _),rfl⟩)))
 ·intro F1 w1 k1 hf hd
  have k0:=(Keep.drew [] a5).trans k1
  have a0:=a0.keep k0 (by simp)
  obtain ⟨F2,rfl⟩:=AK (F:=F1) [(11,vP (some ⟨a1,0,none⟩))] ⟨hd 0 11 kR,trivial⟩
  exact AH rfl ((AU U3_ rfl (vI ((c.recs[i]!).no)) rfl a0 rfl (⟨(Keep.refl _ _),rfl⟩)))
 ·intro F1 w1 k1 hf hd
  obtain ⟨F2,rfl⟩:=AK (F:=F1) [(1,vI (i:Int))] ⟨hf 1 kR,trivial⟩
  exact AH rfl ((AE (vI (i:Int)) rfl (⟨(Keep.refl _ _),rfl⟩)))
 ·intro F1 w1 k1 hf hd
  obtain ⟨F2,rfl⟩:=AK (F:=F1) [(12,vI ((c.recs[i]!).no)),(13,vI (i:Int))] ⟨hd 1 12 kR,hd 2 13 kR,trivial⟩
  refine AH rfl ((CM .i64 ((c.recs[i]!).no) (i:Int) rfl rfl (?_)))
  exact ⟨(Keep.refl _ _),congrArg vO (a8)⟩
 ·intro F1 w1 k1 hf hd
  obtain ⟨F2,rfl⟩:=AK (F:=F1) [(14,vO true)] ⟨hd 3 14 kR,trivial⟩
  exact AH rfl ((AE (vO true) rfl (⟨(Keep.refl _ _),rfl⟩)))
 ·intro F1 w1 k1 hf hd
  exact DP rfl rfl (hd 4 15 kR) rfl rfl
 ·intro F1 w1 k1 hf hd
  exact DP rfl rfl (hd 4 15 kR) rfl rfl
 ·intro F1 w1 k1 hf hd
  exact DP rfl rfl (hd 4 15 kR) rfl rfl
 ·intro F1 w1 k1 hf hd
  exact DP rfl rfl (hd 4 15 kR) rfl rfl
 ·intro F1 w1 k1 hf hd
  obtain ⟨F2,rfl⟩:=AK (F:=F1) [(15,vO true),(19,undef)] ⟨hd 4 15 kR,hd 8 19 kR,trivial⟩
  exact AH rfl ((AQ (vO true) rfl rfl (⟨(Keep.refl _ _),rfl⟩)))
 ·intro F1 w1 k1 hf hd
  obtain ⟨F2,rfl⟩:=AK (F:=F1) [(20,vO true)] ⟨hd 9 20 kR,trivial⟩
  exact AH rfl ((AE (vO true) rfl (⟨(Keep.refl _ _),rfl⟩)))
 ·intro F1 w1 k1 hf hd
  exact DP rfl rfl (hd 10 21 kR) rfl rfl
 ·intro F1 w1 k1 hf hd
  exact DP rfl rfl (hd 10 21 kR) rfl rfl
 ·intro F1 w1 k1 hf hd
  exact DP rfl rfl (hd 10 21 kR) rfl rfl
 ·intro F1 w1 k1 hf hd
  exact DM rfl rfl (hd 13 24 kR) rfl
 ·intro F1 w1 k1 hf hd
  exact DM rfl rfl (hd 13 24 kR) rfl
 ·intro F1 w1 k1 hf hd
  exact DM rfl rfl (hd 13 24 kR) rfl
 ·intro F1 w1 k1 hf hd
  exact DM rfl rfl (hd 13 24 kR) rfl
 ·intro F1 w1 k1 hf hd
  exact DM rfl rfl (hd 13 24 kR) rfl
 ·intro F1 w1 k1 hf hd
  exact DM rfl rfl (hd 13 24 kR) rfl
 ·intro F1 w1 k1 hf hd
  exact DM rfl rfl (hd 13 24 kR) rfl
 ·intro F1 w1 k1 hf hd
  exact DM rfl rfl (hd 13 24 kR) rfl
 ·intro F1 w1 k1 hf hd
  exact DM rfl rfl (hd 13 24 kR) rfl
 intro m6 v2 m7 c7 b5
 have m9:=a9.call m7
 obtain ⟨F2,rfl⟩:=AK (F:=m6) [(1,vI (i:Int)),(2,vP (some b6)),(5,vP (some ⟨a1,0,none⟩)),(82,undef),(21,vO true),(24,undef)] ⟨b5 1 kR,b5 2 kR,b5 5 kR,b5 82 kR,c7 10 21 kR (by decide),c7 13 24 kR (by decide),trivial⟩
 clear c7 b5
 refine HH rfl (AL rfl (AA (AQ (vO true) rfl rfl (AA (AE (vO true) rfl (AL rfl (AL rfl (AL rfl (AL rfl (AA (AQ (vO true) rfl rfl (AA (AE (vO true) rfl (AL rfl (AL rfl (AL rfl (AL rfl (AA (AQ (vO true) rfl rfl (AG (AB (AJ true rfl rfl (fun _=>AF (AC kR (AA (AD (vO false) rfl (AG (AB (AM (AI (AS rfl (BZ rfl rfl rfl) (?_)))))))))) (fun h=>by cases h)))))))))))))))))))))))
 have e:(DD c i)=false:=by (unfold DD;((repeat ((refine (if_pos ?_).trans ?_;solve|(simp only [dbs];(repeat (omega))))));rfl))
 exact ⟨_,rfl,m9.keep,(by exact congrArg vO e.symm)⟩
set_option maxHeartbeats 4000000 in
set_option maxRecDepth 100000 in
theorem RE {O:List Nat} (c_cs:List Value) (c:Circle) (w:World) (c4:Enc.circle.rd w O c_cs c) (hO:∀ b∈O,b<w.heap.size):CA Tryz.prog 26 [.agg c_cs.toArray] w (fun v _=>v=vI (AP c)):= by
 have c4:Enc.circle.rd w ([]++O) c_cs c:=c4
 have s0:St w O w []:=St.start hO
 refine BE 53 Tryz.func26 rfl rfl oT (fun F0=>AF (AC kR (AA (DR (E:=Enc.circle) (vA c_cs.toArray) (c_cs) c rfl rfl c4 s0 fun c0 d5 c1 h0 h1 a0=>(AA (AD (vI 0) rfl (AG (AB (AF (AF (AC kR (AA (AY 0 JF (c.epoch) rfl a0 (fun _ _ _ h=>FG h) fun h2 c5=>(AA (BK U3_ rfl rfl c5 (AA (AZ (vs:=[vI c.epoch,vI 0,vI 1048576]) HG (ST (O:=[]++O) c.epoch (0:Int) (1048576:Int) d5 c1.lt) rfl c1 fun h3 d6 a4 d7 h4 d8=>(?_))))))))))))))))))
 obtain rfl:=d8
 have a0:=a0.mv d7
 refine AA (EU (GU c.epoch (0:Int) (1048576:Int)) rfl (AA (AE (vO (!(GU c.epoch (0:Int) (1048576:Int)))) rfl (?_))))
 cases a9:(!(GU c.epoch (0:Int) (1048576:Int)))
 ·have f3:(GU c.epoch (0:Int) (1048576:Int))=true:=by simpa using a9
  refine AW rfl (AY 3 JE (c.guardians) rfl a0 (fun _ _ _ h=>EA h) fun h5 c6=>(AW rfl (BL U22_ rfl rfl c6 fun h6 b0=>(?_))))
  have:=b0.len_le
  refine AW rfl (BP U22_ rfl b0 (AW rfl (AZ (vs:=[vI (c.guardians.length:Int),vI 1,vI 8]) HG (ST (O:=[]++O) (c.guardians.length:Int) (1:Int) (8:Int) d6 a4.lt) rfl a4 fun h7 d9 a5 e0 h8 e1=>(?_))))
  obtain rfl:=e1
  have a0:=a0.mv e0
  refine AW rfl (EU (GU (c.guardians.length:Int) (1:Int) (8:Int)) rfl (AA (BA (vO (!(GU (c.guardians.length:Int) (1:Int) (8:Int)))) rfl rfl (AA (AE (vO (!(GU (c.guardians.length:Int) (1:Int) (8:Int)))) rfl (?_))))))
  cases b1:(!(GU (c.guardians.length:Int) (1:Int) (8:Int)))
  ·have f4:(GU (c.guardians.length:Int) (1:Int) (8:Int))=true:=by simpa using b1
   refine AW rfl (AY 3 JE (c.guardians) rfl a0 (fun _ _ _ h=>EA h) fun h9 c7=>(AW rfl (BL U22_ rfl rfl c7 fun c2 b2=>(?_))))
   have:=b2.len_le
   refine AW rfl (AZ (vs:=[c2]) WG (VZ (O:=[]++O) c2 c.guardians d9 b2 a5.lt) rfl a5 fun i0 e2 a6 e3 i1 e4=>(?_))
   obtain rfl:=e4
   have a0:=a0.mv e3
   refine AW rfl (EU (FR c.guardians) rfl (AA (BA (vO (!(FR c.guardians))) rfl rfl (AA (AE (vO (!(FR c.guardians))) rfl (?_))))))
   cases b3:(!(FR c.guardians))
   ·have f5:(FR c.guardians)=true:=by simpa using b3
    refine AW rfl (AY 1 KP (c.threshold) rfl a0 (fun _ _ _ h=>FF h) fun i2 c8=>(AW rfl (BK U3_ rfl rfl c8 (AW rfl (AY 3 JE (c.guardians) rfl a0 (fun _ _ _ h=>EA h) fun i3 c9=>(AW rfl (BL U22_ rfl rfl c9 fun i4 b4=>(?_))))))))
    have:=b4.len_le
    refine AW rfl (BP U22_ rfl b4 (AW rfl (AZ (vs:=[vI c.threshold,vI 1,vI (c.guardians.length:Int)]) HG (ST (O:=[]++O) c.threshold (1:Int) (c.guardians.length:Int) e2 a6.lt) rfl a6 fun i5 e5 a7 e6 i6 e7=>(?_))))
    obtain rfl:=e7
    have a0:=a0.mv e6
    refine AW rfl (EU (GU c.threshold (1:Int) (c.guardians.length:Int)) rfl (AA (BA (vO (!(GU c.threshold (1:Int) (c.guardians.length:Int)))) rfl rfl (AA (AE (vO (!(GU c.threshold (1:Int) (c.guardians.length:Int)))) rfl (?_))))))
    cases b5:(!(GU c.threshold (1:Int) (c.guardians.length:Int)))
    ·have f6:(GU c.threshold (1:Int) (c.guardians.length:Int))=true:=by simpa using b5
     refine AW rfl (AY 2 TA (c.wait) rfl a0 (fun _ _ _ h=>IL h) fun i7 d0=>(AW rfl (BK U3_ rfl rfl d0 (AW rfl (AZ (vs:=[vI c.wait,vI 0,vI 1023]) HG (ST (O:=[]++O) c.wait (0:Int) (1023:Int) e5 a7.lt) rfl a7 fun i8 i9 a8 e8 j0 e9=>(?_))))))
     obtain rfl:=e9
     have a0:=a0.mv e8
     refine AW rfl (EU (GU c.wait (0:Int) (1023:Int)) rfl (AA (BA (vO (!(GU c.wait (0:Int) (1023:Int)))) rfl rfl (AA (AE (vO (!(GU c.wait (0:Int) (1023:Int)))) rfl (?_))))))
     cases b6:(!(GU c.wait (0:Int) (1023:Int)))
     ·have f7:(GU c.wait (0:Int) (1023:Int))=true:=by simpa using b6
      refine AW rfl (AY 4 DL (c.recs) rfl a0 (fun _ _ _ h=>BX h) fun j1 d1=>(AW rfl (BL U23_ rfl rfl d1 fun j2 b7=>(?_))))
      have:=b7.len_le
      refine AW rfl (BP U23_ rfl b7 (AW rfl (FN .i64 (c.recs.length:Int) (1024:Int) rfl rfl (AA (BA (vO (decide ((1024:Int)<(c.recs.length:Int)))) rfl rfl (AG (AB (AJ (decide ((1024:Int)<(c.recs.length:Int))) rfl rfl (fun a1=>?_) (fun a1=>?_)))))))))
      ·have f8:(1024:Int)<(c.recs.length:Int):=by simpa using a1
       refine AF (AC kR (AA (AD (vI 450) rfl (AG (AB (AM (AI (AS rfl (BZ rfl rfl rfl) (?_)))))))))
       have e:(AP c)=(450:Int):=by exact gc_6 aS
       exact ⟨_,rfl,a8.keep,by rw [e];exact rfl⟩
      have f9:(c.recs.length:Int)≤(1024:Int):=by simpa using a1
      refine AR (AB (AF (AF (AC kR (AA (AD (vI 0) rfl (AG (AB (BD (?_))))))))))
      have hhead:DT c=false:=head_ok aS aS aS aS aS aS
      refine DB (fun mI FI wI=>∃ (k:Nat) (B:List Nat),k≤c.recs.length∧(∀ q,q<k→EE c.recs q=false)∧mI=c.recs.length - k∧(∃ F1,FI=GD F1 [(1,vP (some c0)),(3,vI ((k:Nat):Int)),(53,undef)])∧St w O wI B∧PT Enc.circle wI (B++O) (.pointer (some c0)) (c)) (c.recs.length - (0)) ?_ ?_
      ·exact ⟨(0),[],oM,(fun q hq=>by omega),rfl,⟨_,AX _ ⟨rfl,(by rfl),rfl,trivial⟩⟩,a8,a0⟩
      intro j8 F g0 hI
      clear a0
      obtain ⟨k,f2,hr0_0,hr0_1,j9,⟨k0,rfl⟩,d2,a0⟩:=hI
      refine AF (AF (AC kR (AA (AE (vI ((k:Nat):Int)) rfl (AA (AY 4 DL (c.recs) rfl a0 (fun _ _ _ h=>BX h) fun j3 d3=>(AA (BL U23_ rfl rfl d3 fun j4 b8=>(?_)))))))))
      have:=b8.len_le
      refine AA (BP U23_ rfl b8 (AA (DQ .i64 ((k:Nat):Int) (c.recs.length:Int) rfl rfl (AG (AB (AJ (decide (((k:Nat):Int)<(c.recs.length:Int))) rfl rfl (fun a2=>?_) (fun a2=>?_)))))))
      ·have g1:((k:Nat):Int)<(c.recs.length:Int):=by simpa using a2
       refine AR (AB (AF (BD (AF (AC kR (AA (CJ U25_ rfl BM rfl a0 fun b9 d4=>(AA (AE (vI ((k:Nat):Int)) rfl (AA (AZ (vs:=[vA b9.toArray,vI ((k:Nat):Int)]) enter_68 (c_refRec (O:=f2++O) b9 c k g0 d4 oM d2.lt) rfl d2 fun j5 j6 c3 f0 j7 f1=>(?_))))))))))))
       obtain rfl:=f1
       have a0:=a0.mv f0
       refine AA (EU (DD c k) rfl (AG (AB (AJ (!(DD c k)) rfl rfl (fun a3=>?_) (fun a3=>?_)))))
       ·have g2:(DD c k)=false:=by simpa using a3
        refine AF (AC kR (AA (AD (vI 450) rfl (AG (AB (AM (BC (AI (AI (BC (AI (AS rfl (BZ rfl rfl rfl) (?_)))))))))))))
        have e:(AP c)=(450:Int):=by exact gc_rec (k:=k) oM hr0_1 aS
        exact ⟨_,rfl,c3.keep,by rw [e];exact rfl⟩
       have g3:(DD c k)=true:=by simpa using a3
       refine AR (CB (AB (AC kR (AA (AE (vI ((k:Nat):Int)) rfl (AA (DF .i64 ((k:Nat):Int) (1:Int) (((k+1:Nat):Int)) rfl rfl (GA oM oM) (AA (AD (vI ((k+1:Nat):Int)) rfl (AG (AB (?_))))))))))))
       exact ⟨_,oM,(k+1),f2,oM,(rec_step oM hr0_1 aS),rfl,⟨_,AX _ ⟨rfl,(by rfl),rfl,trivial⟩⟩,c3,a0⟩
      have g4:(c.recs.length:Int)≤((k:Nat):Int):=by simpa using a2
      refine DA (BN (BN (CO (AB (AF (AC kR (AA (AD (vI 0) rfl (AG (AB (AM (AS rfl (BZ rfl rfl rfl) (?_)))))))))))))
      have e:(AP c)=(0:Int):=by exact gc_ok hhead (fun q hq=>hr0_1 q oM)
      exact ⟨_,rfl,d2.keep,by rw [e];exact rfl⟩
     have g5:(GU c.wait (0:Int) (1023:Int))=false:=by simpa using b6
     refine AL rfl (AL rfl (AL rfl (AL rfl (AA (AQ (vO true) rfl rfl (AG (AB (AJ true rfl rfl (fun _=>AF (AC kR (AA (AD (vI 450) rfl (AG (AB (AM (AI (AS rfl (BZ rfl rfl rfl) (?_)))))))))) (fun h=>by cases h)))))))))
     have e:(AP c)=(450:Int):=by exact gc_5 aS
     exact ⟨_,rfl,a8.keep,by rw [e];exact rfl⟩
    have g6:(GU c.threshold (1:Int) (c.guardians.length:Int))=false:=by simpa using b5
    refine AL rfl (AL rfl (AL rfl (AL rfl (AA (AQ (vO true) rfl rfl (AA (AE (vO true) rfl (AL rfl (AL rfl (AL rfl (AL rfl (AA (AQ (vO true) rfl rfl (AG (AB (AJ true rfl rfl (fun _=>AF (AC kR (AA (AD (vI 450) rfl (AG (AB (AM (AI (AS rfl (BZ rfl rfl rfl) (?_)))))))))) (fun h=>by cases h)))))))))))))))))
    have e:(AP c)=(450:Int):=by exact gc_4 aS
    exact ⟨_,rfl,a7.keep,by rw [e];exact rfl⟩
   have g7:(FR c.guardians)=false:=by simpa using b3
   refine AL rfl (AL rfl (AL rfl (AL rfl (AL rfl (AL rfl (AL rfl (AA (AQ (vO true) rfl rfl (AA (AE (vO true) rfl (AL rfl (AL rfl (AL rfl (AL rfl (AA (AQ (vO true) rfl rfl (AA (AE (vO true) rfl (AL rfl (AL rfl (AL rfl (AL rfl (AA (AQ (vO true) rfl rfl (AG (AB (AJ true rfl rfl (fun _=>AF (AC kR (AA (AD (vI 450) rfl (AG (AB (AM (AI (AS rfl (BZ rfl rfl rfl) (?_)))))))))) (fun h=>by cases h))))))))))))))))))))))))))))
   have e:(AP c)=(450:Int):=by exact gc_3 aS
   exact ⟨_,rfl,a6.keep,by rw [e];exact rfl⟩
  have g8:(GU (c.guardians.length:Int) (1:Int) (8:Int))=false:=by simpa using b1
  refine AL rfl (AL rfl (AL rfl (AL rfl (AA (AQ (vO true) rfl rfl (AA (AE (vO true) rfl (AL rfl (AL rfl (AL rfl (AL rfl (AL rfl (AL rfl (AL rfl (AA (AQ (vO true) rfl rfl (AA (AE (vO true) rfl (AL rfl (AL rfl (AL rfl (AL rfl (AA (AQ (vO true) rfl rfl (AA (AE (vO true) rfl (AL rfl (AL rfl (AL rfl (AL rfl (AA (AQ (vO true) rfl rfl (AG (AB (AJ true rfl rfl (fun _=>AF (AC kR (AA (AD (vI 450) rfl (AG (AB (AM (AI (AS rfl (BZ rfl rfl rfl) (?_)))))))))) (fun h=>by cases h))))))))))))))))))))))))))))))))))))
  have e:(AP c)=(450:Int):=by exact gc_2 aS
  exact ⟨_,rfl,a5.keep,by rw [e];exact rfl⟩
 have g9:(GU c.epoch (0:Int) (1048576:Int))=false:=by simpa using a9
 refine AL rfl (AL rfl (AL rfl (AL rfl (AL rfl (AA (AQ (vO true) rfl rfl (AA (AE (vO true) rfl (AL rfl (AL rfl (AL rfl (AL rfl (AA (AQ (vO true) rfl rfl (AA (AE (vO true) rfl (AL rfl (AL rfl (AL rfl (AL rfl (AL rfl (AL rfl (AL rfl (AA (AQ (vO true) rfl rfl (AA (AE (vO true) rfl (AL rfl (AL rfl (AL rfl (AL rfl (AA (AQ (vO true) rfl rfl (AA (AE (vO true) rfl (AL rfl (AL rfl (AL rfl (AL rfl (AA (AQ (vO true) rfl rfl (AG (AB (AJ true rfl rfl (fun _=>AF (AC kR (AA (AD (vI 450) rfl (AG (AB (AM (AI (AS rfl (BZ rfl rfl rfl) (?_)))))))))) (fun h=>by cases h)))))))))))))))))))))))))))))))))))))))))))))
 have e:(AP c)=(450:Int):=by exact gc_1 aS
 exact ⟨_,rfl,a4.keep,by rw [e];exact rfl⟩
open Go.Fw
section
variable {c x:Circle} {no:Int} {l m:List Share} {secret more next:List UInt8} {others:List Int} {t:Int}
structure OldC (c:Circle) (l:List Share) (x:Circle):Prop where
  ok:AP x=0
  ep:x.epoch=c.epoch+1
  bel:CH x l=460
theorem OldC.r1 (h:OldC c l x) (more:List UInt8):(BI x l more).2.2=460:=by rw [UI h.ok (by rw [h.bel];decide),h.bel]
theorem OldC.r2 (h:OldC c l x) (others:List Int) (t:Int) (next:List UInt8):(AN x l others t next).2.2=460:=by rw [NJ h.ok (by rw [h.bel];decide),h.bel]
end
open Go.Fw
def JM (c:Circle) (l:List Share):Bool:=(l[0]!.epoch == c.epoch && l[0]!.threshold == c.threshold) && (l[0]!.many == (c.guardians.length:Int))
def FT (c:Circle) (l:List Share):Int:=if AP c != 0 then AP c else CH c l
section
variable {c:Circle} {l:List Share} {secret coins:List UInt8} {others:List Int} {t no:Int}
theorem rdeal_2 (h:AP c=0):CS c secret coins=EF secret c.epoch c.threshold (c.guardians.length:Int) coins:=by rw [refSplit_eq,deal_2 h]
theorem chk_1 (h:AP c≠0):FT c l=AP c:=if_pos (by simpa using h)
theorem WH (h:AP c=0):FT c l=CH c l:=if_neg (by simpa using h)
theorem chk_2 (h:AP c=0) (h2:CI l≠0):FT c l=CI l:=by
  rw [WH h];rw [JQ] at h2 ⊢;exact belong_1 h2
theorem VK (h2:BQ l=0):JM c l=true↔l.any (HF c)=false:=by
  have hv:=(FW l).1 h2
  rw [any_f]
  unfold JM
  simp only [Bool.and_eq_true,beq_iff_eq]
  refine ⟨fun h k hk=>TF.2 ⟨by rw [hv.ep k hk];exact h.1.1,by rw [hv.th k hk];exact h.1.2,by rw [hv.ma k hk];exact h.2⟩,fun h=>?_⟩
  have:=TF.1 (h 0 hv.pos)
  exact ⟨⟨this.1,this.2.1⟩,this.2.2⟩
theorem chk_3 (h:AP c=0) (h2:CI l=0) (h3:JM c l=false):FT c l=460:=by
  rw [JQ] at h2
  rw [WH h]
  refine belong_2 h2 ?_
  rw [← Bool.not_eq_false];intro e
  rw [(VK h2).2 e] at h3;cases h3
theorem chk_4 (h:AP c=0) (h2:CI l=0) (h3:JM c l=true):FT c l=0:=by
  rw [JQ] at h2
  rw [WH h];exact UR h2 ((VK h2).1 h3)
theorem RL (h:FT c l=0):AP c=0∧CH c l=0:=by
  by_cases g:AP c=0
  · rw [WH g] at h;exact ⟨g,h⟩
  · rw [chk_1 g] at h;exact absurd h g
theorem rp_1 (h:FT c l≠0):AN c l others t coins=(ET,[],FT c l):=by
  by_cases g:AP c=0
  · rw [WH g] at h ⊢;exact NJ g h
  · rw [chk_1 g];exact QN g
theorem rp_2 (h:FT c l=0) (h2:(CG l).2≠0):AN c l others t coins=(ET,[],(CG l).2):=by
  rw [OG] at h2 ⊢;exact PY (RL h).1 (RL h).2 h2
theorem rp_3 (h:FT c l=0) (h2:(CG l).2=0) (h3:(CS ⟨c.epoch+1,t,c.wait,others,c.recs⟩ (CG l).1 coins).2≠0):AN c l others t coins=(ET,[],(CS ⟨c.epoch+1,t,c.wait,others,c.recs⟩ (CG l).1 coins).2):=by
  rw [OG] at h2 h3 ⊢;exact KT (RL h).1 (RL h).2 h2 h3
theorem rp_4 (h:FT c l=0) (h2:(CG l).2=0) (h3:(CS ⟨c.epoch+1,t,c.wait,others,c.recs⟩ (CG l).1 coins).2=0):AN c l others t coins=(⟨c.epoch+1,t,c.wait,others,c.recs⟩,(CS ⟨c.epoch+1,t,c.wait,others,c.recs⟩ (CG l).1 coins).1,0):=by
  rw [OG] at h2 h3 ⊢;exact KV (RL h).1 (RL h).2 h2 h3
section
variable (h:AP c=0) (h0:0≤no) (h1:no<(c.recs.length:Int))
include h h0 h1
theorem rr_4 (h2:c.recs[no.toNat]!.state≠2) (h3:c.recs[no.toNat]!.state≠1):BO c no l=([],460):=by
  have hs:=GN (MU h (k:=no.toNat) (by omega))
  exact rest_4 h h0 h1 (by omega)
theorem rr_5 (h3:c.recs[no.toNat]!.state=1) (h4:FT c l≠0):BO c no l=([],FT c l):=by
  rw [WH h] at h4 ⊢;exact rest_5 h h0 h1 (by rw [h3];decide) (by rw [h3];decide) h4
theorem rr_6 (h3:c.recs[no.toNat]!.state=1) (h4:FT c l=0):BO c no l=CG l:=by
  rw [WH h] at h4;rw [OG];exact rest_6 h h0 h1 (by rw [h3];decide) (by rw [h3];decide) h4
end
end
end Go.Proofs.YtjgfokolnkhafaaGreat
