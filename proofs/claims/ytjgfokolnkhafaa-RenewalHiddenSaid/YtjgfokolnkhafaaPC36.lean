/- What the laws of this part rest on: lemmas, and the walks of the functions. No conditions. -/
import Derived.WalkKit
import Derived.WalkSpells
import Derived.WalkLawsBesides
import Derived.RangeFuncLeaves
import Derived.Maps.AppendAt
import Derived.Deep.AppendLies
import Derived.Deep.Slices
import Derived.OpenShut
import Derived.ProofKit
import Derived.Below
import Derived.ChangeSame
import Derived.Carry
import Derived.RangeFuncRecord
import Derived.Laws.Tables
import Derived.Recover
import Derived.DefersIn
import Derived.Lib.AppendZerosOnto
import Derived.Lib.Overlaps
import Derived.Laws.CopyRow
import Derived.Laws.StructEq
import Derived.ChangeKeysEq
import Derived.OrdersIn
import Derived.Test.YtjgfokolnkhafaaRows
import Derived.Test.YtjgfokolnkhafaaPC35
set_option linter.unusedSimpArgs false
set_option linter.unusedVariables false
namespace Go.Proofs.Ytjgfokolnkhafaa
open Go.Fw Go.RowKit
def kC:Circle:=(LA [3,5,8] 2 0).1
def kL:List Share:=(AB kC [7] [9]).1
def kX:Circle:=(AE kC kL [4]).1
def kA:Circle:=(BS kC 1).1
def NN:Circle:=(CH kA (BS kC 1).2.1 (BJ kA 3)).1
def NL:Circle:=(CH NN (BS kC 1).2.1 (BJ NN 8)).1
def CT:Circle:=(CH NL (BS kC 1).2.1 (BZ NL 1)).1
def kZ:Circle:=(AU CT (kL.take 2) [(4:Int)] 1 []).1
def kW:List Share:=(AU CT (kL.take 2) [(4:Int)] 1 []).2.1
def kE:Int:=(AU CT (kL.take 2) [(4:Int)] 1 []).2.2
set_option maxHeartbeats 4000000 in
set_option maxRecDepth 100000 in
theorem c_sane46 {O:List Nat} (w:World) (hO:∀ b∈O,b<w.heap.size):CD Try.prog 20 [] w (fun v _=>v = .bool (true)):= by
 have s0:St w O w []:=St.start hO
 refine BK 252 Try.func20 rfl rfl oT (fun F0=>AI (AC kR (AA (AF (vO false) rfl (AH (AD (AI (AC kR (AA (JI (E:=Enc.int) (xs:=[.const (vI 3), .const (vI 5), .const (vI 8)]) U22_ NR z_3 (by decide) [vI 3,vI 5,vI 8] [[vI 3],[vI 5],[vI 8]] [(3:Int),(5:Int),(8:Int)] rfl rfl rfl (Parts.cons rfl rfl (Parts.cons rfl rfl (Parts.cons rfl rfl (Parts.nil _ _ _)))) oT s0 fun D5 Q2 D6 bp bq v6=>(?_)))))))))))
 have:=v6.len_le
 refine AA (BD (vs:=[D5,vI 2,vI 0]) enter_10 (c_new (O:=[]++O) D5 ([(3:Int),(5:Int),(8:Int)]) (2:Int) (0:Int) Q2 v6 (by (simp;done)) D6.lt) rfl D6 fun br Q3 Q4 bs bt Q5=>(?_))
 obtain ⟨k6,rfl,h6⟩:=Q5
 have h6:Enc.circle.rd Q3 ([]++O) k6 kC:=h6
 refine AA (AG (vT #[vA k6.toArray,vI ((LA ([(3:Int),(5:Int),(8:Int)]) (2:Int) (0:Int)).2)]) rfl (AA (AP (vA k6.toArray) rfl rfl (AA (AP (vI ((LA ([(3:Int),(5:Int),(8:Int)]) (2:Int) (0:Int)).2)) rfl rfl (AA (CU [vI 0,vI 0,vI 0,nS,nS] LC rfl Q4 fun a0 Q6 Q7 Q8 Q9 bu I9=>(?_))))))))
 clear Q7
 have h6:Enc.circle.rd Q6 ((a0 :: [])++O) k6 (kC):=Enc.mv Enc.circle (x:=kC) h6 Q9
 obtain ⟨d4,d5,rfl,b6,b7⟩:=h6
 have:=b6.len_le
 have:=b7.len_le
 refine BX (BG (vs:=[vI kC.epoch,vI kC.threshold,vI kC.wait,d4,d5]) (.agg #[vI kC.epoch,vI kC.threshold,vI kC.wait,d4,d5]) rfl rfl rfl BM (fun u hu=>by simp only [List.mem_cons,List.not_mem_nil,or_false] at hu;rcases hu with rfl|rfl|rfl|rfl|rfl <;> first|rfl|exact b6.oneCell|exact b7.oneCell) (by repeat (constructor)) I9 oT Q8 fun bv R0 D7 bw b8=>(?_))
 have b6:=b6.mv D7
 have b7:=b7.mv D7
 refine AA (AF (vI ((LA ([(3:Int),(5:Int),(8:Int)]) (2:Int) (0:Int)).2)) rfl (AH (AD (AI (AC kR (AA (BP (vs:=[vI kC.epoch,vI kC.threshold,vI kC.wait,d4,d5]) U28_ rfl BM rfl b8 rfl (AA (JI (E:=Enc.u8) (xs:=[.const (vB (7:UInt8))]) U23_ IR z_5 (by decide) [vB (7:UInt8)] [[vB (7:UInt8)]] [(7:UInt8)] rfl rfl rfl (Parts.cons rfl rfl (Parts.nil _ _ _)) oT R0 fun D8 bx R1 D9 R2 k7=>(?_))))))))))
 have b6:=b6.mv D9
 have b7:=b7.mv D9
 have b8:=b8.keep R2 (by simp)
 have:=k7.len_le
 refine AA (JI (E:=Enc.u8) (xs:=[.const (vB (9:UInt8))]) U23_ IR z_5 (by decide) [vB (9:UInt8)] [[vB (9:UInt8)]] [(9:UInt8)] rfl rfl rfl (Parts.cons rfl rfl (Parts.nil _ _ _)) oT R1 fun E0 R3 E1 r9 R4 v7=>(?_))
 have b6:=b6.mv r9
 have b7:=b7.mv r9
 have k7:=k7.mv r9
 have b8:=b8.keep R4 (by simp)
 have:=v7.len_le
 refine AA (BD (vs:=[vA #[vI kC.epoch,vI kC.threshold,vI kC.wait,d4,d5],D8,E0]) MM (RP (O:=(a0 :: [])++O) [vI kC.epoch,vI kC.threshold,vI kC.wait,d4,d5] kC D8 ([(7:UInt8)]) E0 ([(9:UInt8)]) R3 ⟨_,_,rfl,b6,b7⟩ k7 v7 E1.lt) rfl E1 fun bz R5 R6 E2 R7 R8=>(?_))
 obtain ⟨b9,rfl,a2⟩:=R8
 have:=a2.len_le
 have a2:AZ Enc.share R5 ((a0 :: [])++O) b9 kL:=a2
 have b6:=b6.mv E2
 have b7:=b7.mv E2
 have b8:=b8.keep R7 (by simp)
 refine AA (AG (vT #[b9,vI ((AB kC ([(7:UInt8)]) ([(9:UInt8)])).2)]) rfl (AA (AP (b9) rfl rfl (AA (AP (vI ((AB kC ([(7:UInt8)]) ([(9:UInt8)])).2)) rfl rfl (AA (AF (b9) rfl (AA (AF (vI ((AB kC ([(7:UInt8)]) ([(9:UInt8)])).2)) rfl (AH (AD (AI (AC kR (AA (BP (vs:=[vI kC.epoch,vI kC.threshold,vI kC.wait,d4,d5]) U28_ rfl BM rfl b8 rfl (AA (AG (b9) rfl (AA (JI (E:=Enc.u8) (xs:=[.const (vB (4:UInt8))]) U23_ IR z_5 (by decide) [vB (4:UInt8)] [[vB (4:UInt8)]] [(4:UInt8)] rfl rfl rfl (Parts.cons rfl rfl (Parts.nil _ _ _)) oT R6 fun E3 R9 E4 s2 S0 v8=>(?_))))))))))))))))))))
 have a2:=a2.mv s2
 have b6:=b6.mv s2
 have b7:=b7.mv s2
 have b8:=b8.keep S0 (by simp)
 have:=v8.len_le
 refine AA (BD (vs:=[vA #[vI kC.epoch,vI kC.threshold,vI kC.wait,d4,d5],b9,E3]) QQ (SN (O:=(a0 :: [])++O) [vI kC.epoch,vI kC.threshold,vI kC.wait,d4,d5] kC b9 kL E3 ([(4:UInt8)]) R9 ⟨_,_,rfl,b6,b7⟩ a2 v8 E4.lt) rfl E4 fun bA S1 S2 s3 S3 S4=>(?_))
 obtain ⟨k8,c2,rfl,h7,a3⟩:=S4
 have:=a3.len_le
 have h7:Enc.circle.rd S1 ((a0 :: [])++O) k8 kX:=h7
 have a2:=a2.mv s3
 have b6:=b6.mv s3
 have b7:=b7.mv s3
 have b8:=b8.keep S3 (by simp)
 refine AA (AG (vT #[vA k8.toArray,c2,vI ((AE kC kL ([(4:UInt8)])).2.2)]) rfl (AA (AP (vA k8.toArray) rfl rfl (AA (AP (c2) rfl rfl (AA (AP (vI ((AE kC kL ([(4:UInt8)])).2.2)) rfl rfl (AA (CU [vI 0,vI 0,vI 0,nS,nS] LC rfl S2 fun a1 S5 S6 S7 k9 S8 J0=>(?_))))))))))
 have h8:FM a0 a1:=by show a0≠a1;have:=b8.lt;omega
 clear S6
 have a2:=a2.mv k9
 have b6:=b6.mv k9
 have b7:=b7.mv k9
 have h7:Enc.circle.rd S5 ((a1 :: (a0 :: []))++O) k8 (kX):=Enc.mv Enc.circle (x:=kX) h7 k9
 have a3:=a3.mv k9
 have b8:=b8.keep S8 (by simp)
 obtain ⟨g1,g2,rfl,a5,a6⟩:=h7
 have:=a5.len_le
 have:=a6.len_le
 refine BX (BG (vs:=[vI kX.epoch,vI kX.threshold,vI kX.wait,g1,g2]) (.agg #[vI kX.epoch,vI kX.threshold,vI kX.wait,g1,g2]) rfl rfl rfl BM (fun u hu=>by simp only [List.mem_cons,List.not_mem_nil,or_false] at hu;rcases hu with rfl|rfl|rfl|rfl|rfl <;> first|rfl|exact a5.oneCell|exact a6.oneCell) (by repeat (constructor)) J0 oT S7 fun S9 E5 j4 T0 a4=>(?_))
 have a2:=a2.mv j4
 have b6:=b6.mv j4
 have b7:=b7.mv j4
 have a3:=a3.mv j4
 have a5:=a5.mv j4
 have a6:=a6.mv j4
 have b8:=b8.keep T0 (BF h8)
 refine AA (AF (c2) rfl (AA (AF (vI ((AE kC kL ([(4:UInt8)])).2.2)) rfl (AH (AD (AI (AC kR (AA (BP (vs:=[vI kC.epoch,vI kC.threshold,vI kC.wait,d4,d5]) U28_ rfl BM rfl b8 rfl (AA (BD (vs:=[vA #[vI kC.epoch,vI kC.threshold,vI kC.wait,d4,d5],vI 1]) enter_34 (c_ask (O:=(a1 :: (a0 :: []))++O) [vI kC.epoch,vI kC.threshold,vI kC.wait,d4,d5] kC (1:Int) S9 ⟨_,_,rfl,b6,b7⟩ E5.lt) rfl E5 fun bB T1 T2 m5 E6 T3=>(?_))))))))))))
 obtain ⟨o7,rfl,o8⟩:=T3
 have o8:Enc.circle.rd T1 ((a1 :: (a0 :: []))++O) o7 kA:=o8
 have a2:=a2.mv m5
 have a3:=a3.mv m5
 have a5:=a5.mv m5
 have a6:=a6.mv m5
 have b8:=b8.keep E6 (by simp)
 have a4:=a4.keep E6 (by simp)
 refine AA (AG (vT #[vA o7.toArray,vI ((BS kC (1:Int)).2.1),vI ((BS kC (1:Int)).2.2)]) rfl (AA (AP (vA o7.toArray) rfl rfl (AA (AP (vI ((BS kC (1:Int)).2.1)) rfl rfl (AA (AP (vI ((BS kC (1:Int)).2.2)) rfl rfl (?_))))))))
 obtain ⟨e9,f0,rfl,e2,e3⟩:=o8
 have:=e2.len_le
 have:=e3.len_le
 refine BX (BG (vs:=[vI kA.epoch,vI kA.threshold,vI kA.wait,e9,f0]) (.agg #[vI kA.epoch,vI kA.threshold,vI kA.wait,e9,f0]) rfl rfl rfl BM (fun u hu=>by simp only [List.mem_cons,List.not_mem_nil,or_false] at hu;rcases hu with rfl|rfl|rfl|rfl|rfl <;> first|rfl|exact e2.oneCell|exact e3.oneCell) (by repeat (constructor)) b8 oT T2 fun T4 E7 j5 T5 e6=>(?_))
 have a2:=a2.mv j5
 have a3:=a3.mv j5
 have a5:=a5.mv j5
 have a6:=a6.mv j5
 have e2:=e2.mv j5
 have e3:=e3.mv j5
 have a4:=a4.keep T5 (BF (Ne.symm h8))
 refine AA (AF (vI ((BS kC (1:Int)).2.1)) rfl (AA (AF (vI ((BS kC (1:Int)).2.2)) rfl (AH (AD (AI (AC kR (AA (BP (vs:=[vI kA.epoch,vI kA.threshold,vI kA.wait,e9,f0]) U28_ rfl BM rfl e6 rfl (AA (AG (vI ((BS kC (1:Int)).2.1)) rfl (AA (AG (b9) rfl (AA (BD (vs:=[vA #[vI kA.epoch,vI kA.threshold,vI kA.wait,e9,f0],vI ((BS kC (1:Int)).2.1),b9]) QS (c_rest (O:=(a1 :: (a0 :: []))++O) [vI kA.epoch,vI kA.threshold,vI kA.wait,e9,f0] kA ((BS kC (1:Int)).2.1) b9 kL T4 ⟨_,_,rfl,e2,e3⟩ a2 E7.lt) rfl E7 fun bC T6 E8 j6 E9 T7=>(?_))))))))))))))))
 obtain ⟨s4,rfl,J1⟩:=T7
 have:=J1.len_le
 have a2:=a2.mv j6
 have a3:=a3.mv j6
 have a5:=a5.mv j6
 have a6:=a6.mv j6
 have e2:=e2.mv j6
 have e3:=e3.mv j6
 have e6:=e6.keep E9 (by simp)
 have a4:=a4.keep E9 (by simp)
 refine AA (AG (vT #[s4,vI ((BQ kA ((BS kC (1:Int)).2.1) kL).2)]) rfl (AA (AP (s4) rfl rfl (AA (AP (vI ((BQ kA ((BS kC (1:Int)).2.1) kL).2)) rfl rfl (AA (AF (s4) rfl (AA (AF (vI ((BQ kA ((BS kC (1:Int)).2.1) kL).2)) rfl (AH (AD (AI (AC kR (AA (BP (vs:=[vI kA.epoch,vI kA.threshold,vI kA.wait,e9,f0]) U28_ rfl BM rfl e6 rfl (AA (AG (vI ((BS kC (1:Int)).2.1)) rfl (AA (BD (vs:=[vA #[vI kA.epoch,vI kA.threshold,vI kA.wait,e9,f0],vI ((BS kC (1:Int)).2.1),vI 3]) enter_35 (UZ (O:=(a1 :: (a0 :: []))++O) [vI kA.epoch,vI kA.threshold,vI kA.wait,e9,f0] kA ((BS kC (1:Int)).2.1) (3:Int) T6 ⟨_,_,rfl,e2,e3⟩ E8.lt) rfl E8 fun bD T8 T9 m6 F3 U0=>(?_))))))))))))))))))))
 obtain ⟨o9,rfl,p0⟩:=U0
 have p0:Enc.circle.rd T8 ((a1 :: (a0 :: []))++O) o9 NN:=p0
 have a2:=a2.mv m6
 have a3:=a3.mv m6
 have a5:=a5.mv m6
 have a6:=a6.mv m6
 have e6:=e6.keep F3 (by simp)
 have a4:=a4.keep F3 (by simp)
 refine AA (AG (vT #[vA o9.toArray,vI ((CH kA ((BS kC (1:Int)).2.1) (BJ kA (3:Int))).2)]) rfl (AA (AP (vA o9.toArray) rfl rfl (AA (AP (vI ((CH kA ((BS kC (1:Int)).2.1) (BJ kA (3:Int))).2)) rfl rfl (?_))))))
 obtain ⟨l0,l1,rfl,h9,i0⟩:=p0
 have:=h9.len_le
 have:=i0.len_le
 refine BX (BG (vs:=[vI NN.epoch,vI NN.threshold,vI NN.wait,l0,l1]) (.agg #[vI NN.epoch,vI NN.threshold,vI NN.wait,l0,l1]) rfl rfl rfl BM (fun u hu=>by simp only [List.mem_cons,List.not_mem_nil,or_false] at hu;rcases hu with rfl|rfl|rfl|rfl|rfl <;> first|rfl|exact h9.oneCell|exact i0.oneCell) (by repeat (constructor)) e6 oT T9 fun U1 F4 j7 U2 l2=>(?_))
 have a2:=a2.mv j7
 have a3:=a3.mv j7
 have a5:=a5.mv j7
 have a6:=a6.mv j7
 have h9:=h9.mv j7
 have i0:=i0.mv j7
 have a4:=a4.keep U2 (BF (Ne.symm h8))
 refine AA (AF (vI ((CH kA ((BS kC (1:Int)).2.1) (BJ kA (3:Int))).2)) rfl (AH (AD (AI (AC kR (AA (BP (vs:=[vI NN.epoch,vI NN.threshold,vI NN.wait,l0,l1]) U28_ rfl BM rfl l2 rfl (AA (AG (vI ((BS kC (1:Int)).2.1)) rfl (AA (BD (vs:=[vA #[vI NN.epoch,vI NN.threshold,vI NN.wait,l0,l1],vI ((BS kC (1:Int)).2.1),vI 8]) enter_35 (UZ (O:=(a1 :: (a0 :: []))++O) [vI NN.epoch,vI NN.threshold,vI NN.wait,l0,l1] NN ((BS kC (1:Int)).2.1) (8:Int) U1 ⟨_,_,rfl,h9,i0⟩ F4.lt) rfl F4 fun bE U3 U4 m7 F5 U5=>(?_))))))))))))
 obtain ⟨p1,rfl,p2⟩:=U5
 have p2:Enc.circle.rd U3 ((a1 :: (a0 :: []))++O) p1 NL:=p2
 have a2:=a2.mv m7
 have a3:=a3.mv m7
 have a5:=a5.mv m7
 have a6:=a6.mv m7
 have l2:=l2.keep F5 (by simp)
 have a4:=a4.keep F5 (by simp)
 refine AA (AG (vT #[vA p1.toArray,vI ((CH NN ((BS kC (1:Int)).2.1) (BJ NN (8:Int))).2)]) rfl (AA (AP (vA p1.toArray) rfl rfl (AA (AP (vI ((CH NN ((BS kC (1:Int)).2.1) (BJ NN (8:Int))).2)) rfl rfl (?_))))))
 obtain ⟨l3,l4,rfl,i1,i2⟩:=p2
 have:=i1.len_le
 have:=i2.len_le
 refine BX (BG (vs:=[vI NL.epoch,vI NL.threshold,vI NL.wait,l3,l4]) (.agg #[vI NL.epoch,vI NL.threshold,vI NL.wait,l3,l4]) rfl rfl rfl BM (fun u hu=>by simp only [List.mem_cons,List.not_mem_nil,or_false] at hu;rcases hu with rfl|rfl|rfl|rfl|rfl <;> first|rfl|exact i1.oneCell|exact i2.oneCell) (by repeat (constructor)) l2 oT U4 fun U6 F6 j8 U7 l5=>(?_))
 have a2:=a2.mv j8
 have a3:=a3.mv j8
 have a5:=a5.mv j8
 have a6:=a6.mv j8
 have i1:=i1.mv j8
 have i2:=i2.mv j8
 have a4:=a4.keep U7 (BF (Ne.symm h8))
 refine AA (AF (vI ((CH NN ((BS kC (1:Int)).2.1) (BJ NN (8:Int))).2)) rfl (AH (AD (AI (AC kR (AA (BP (vs:=[vI NL.epoch,vI NL.threshold,vI NL.wait,l3,l4]) U28_ rfl BM rfl l5 rfl (AA (AG (vI ((BS kC (1:Int)).2.1)) rfl (AA (BD (vs:=[vA #[vI NL.epoch,vI NL.threshold,vI NL.wait,l3,l4],vI ((BS kC (1:Int)).2.1),vI 1]) enter_38 (c_finish (O:=(a1 :: (a0 :: []))++O) [vI NL.epoch,vI NL.threshold,vI NL.wait,l3,l4] NL ((BS kC (1:Int)).2.1) (1:Int) U6 ⟨_,_,rfl,i1,i2⟩ F6.lt) rfl F6 fun bF U8 U9 m9 F7 V0=>(?_))))))))))))
 obtain ⟨p3,rfl,p4⟩:=V0
 have p4:Enc.circle.rd U8 ((a1 :: (a0 :: []))++O) p3 CT:=p4
 have a2:=a2.mv m9
 have a3:=a3.mv m9
 have a5:=a5.mv m9
 have a6:=a6.mv m9
 have l5:=l5.keep F7 (by simp)
 have a4:=a4.keep F7 (by simp)
 refine AA (AG (vT #[vA p3.toArray,vI ((CH NL ((BS kC (1:Int)).2.1) (BZ NL (1:Int))).2)]) rfl (AA (AP (vA p3.toArray) rfl rfl (AA (AP (vI ((CH NL ((BS kC (1:Int)).2.1) (BZ NL (1:Int))).2)) rfl rfl (?_))))))
 obtain ⟨c0,c1,rfl,a8,a9⟩:=p4
 have:=a8.len_le
 have:=a9.len_le
 refine BX (BG (vs:=[vI CT.epoch,vI CT.threshold,vI CT.wait,c0,c1]) (.agg #[vI CT.epoch,vI CT.threshold,vI CT.wait,c0,c1]) rfl rfl rfl BM (fun u hu=>by simp only [List.mem_cons,List.not_mem_nil,or_false] at hu;rcases hu with rfl|rfl|rfl|rfl|rfl <;> first|rfl|exact a8.oneCell|exact a9.oneCell) (by repeat (constructor)) l5 oT U9 fun j9 F8 k2 V1 a7=>(?_))
 have a2:=a2.mv k2
 have a3:=a3.mv k2
 have a5:=a5.mv k2
 have a6:=a6.mv k2
 have a8:=a8.mv k2
 have a9:=a9.mv k2
 have a4:=a4.keep V1 (BF (Ne.symm h8))
 refine AA (AF (vI ((CH NL ((BS kC (1:Int)).2.1) (BZ NL (1:Int))).2)) rfl (AH (AD (AI (AI (AC kR (AA (AG (vI ((LA ([(3:Int),(5:Int),(8:Int)]) (2:Int) (0:Int)).2)) rfl (AA (CS .i64 ((LA ([(3:Int),(5:Int),(8:Int)]) (2:Int) (0:Int)).2) (0:Int) rfl rfl (AA (AG (vO (((LA ([(3:Int),(5:Int),(8:Int)]) (2:Int) (0:Int)).2) != (0:Int))) rfl (?_)))))))))))))
 have J2:(((LA ([(3:Int),(5:Int),(8:Int)]) (2:Int) (0:Int)).2) != (0:Int))=false:=(by decide +kernel)
 rw [J2]
 refine AY rfl (AG (vI ((AB kC ([(7:UInt8)]) ([(9:UInt8)])).2)) rfl (AY rfl (CS .i64 ((AB kC ([(7:UInt8)]) ([(9:UInt8)])).2) (0:Int) rfl rfl (AA (BR (vO (((AB kC ([(7:UInt8)]) ([(9:UInt8)])).2) != (0:Int))) rfl rfl (AA (AG (vO (((AB kC ([(7:UInt8)]) ([(9:UInt8)])).2) != (0:Int))) rfl (?_))))))))
 have J3:(((AB kC ([(7:UInt8)]) ([(9:UInt8)])).2) != (0:Int))=false:=(by decide +kernel)
 rw [J3]
 refine AY rfl (AG (vI ((AE kC kL ([(4:UInt8)])).2.2)) rfl (AY rfl (CS .i64 ((AE kC kL ([(4:UInt8)])).2.2) (0:Int) rfl rfl (AA (BR (vO (((AE kC kL ([(4:UInt8)])).2.2) != (0:Int))) rfl rfl (AA (AG (vO (((AE kC kL ([(4:UInt8)])).2.2) != (0:Int))) rfl (?_))))))))
 have J4:(((AE kC kL ([(4:UInt8)])).2.2) != (0:Int))=false:=(by decide +kernel)
 rw [J4]
 refine AY rfl (AG (vI ((BS kC (1:Int)).2.2)) rfl (AY rfl (CS .i64 ((BS kC (1:Int)).2.2) (0:Int) rfl rfl (AA (BR (vO (((BS kC (1:Int)).2.2) != (0:Int))) rfl rfl (AA (AG (vO (((BS kC (1:Int)).2.2) != (0:Int))) rfl (?_))))))))
 have J5:(((BS kC (1:Int)).2.2) != (0:Int))=false:=(by decide +kernel)
 rw [J5]
 refine AY rfl (AG (vI ((CH kA ((BS kC (1:Int)).2.1) (BJ kA (3:Int))).2)) rfl (AY rfl (CS .i64 ((CH kA ((BS kC (1:Int)).2.1) (BJ kA (3:Int))).2) (0:Int) rfl rfl (AA (BR (vO (((CH kA ((BS kC (1:Int)).2.1) (BJ kA (3:Int))).2) != (0:Int))) rfl rfl (AA (AG (vO (((CH kA ((BS kC (1:Int)).2.1) (BJ kA (3:Int))).2) != (0:Int))) rfl (?_))))))))
 have J6:(((CH kA ((BS kC (1:Int)).2.1) (BJ kA (3:Int))).2) != (0:Int))=false:=(by decide +kernel)
 rw [J6]
 refine AY rfl (AG (vI ((CH NN ((BS kC (1:Int)).2.1) (BJ NN (8:Int))).2)) rfl (AY rfl (CS .i64 ((CH NN ((BS kC (1:Int)).2.1) (BJ NN (8:Int))).2) (0:Int) rfl rfl (AA (BR (vO (((CH NN ((BS kC (1:Int)).2.1) (BJ NN (8:Int))).2) != (0:Int))) rfl rfl (AA (AG (vO (((CH NN ((BS kC (1:Int)).2.1) (BJ NN (8:Int))).2) != (0:Int))) rfl (?_))))))))
 have J7:(((CH NN ((BS kC (1:Int)).2.1) (BJ NN (8:Int))).2) != (0:Int))=false:=(by decide +kernel)
 rw [J7]
 refine AY rfl (AG (vI ((CH NL ((BS kC (1:Int)).2.1) (BZ NL (1:Int))).2)) rfl (AY rfl (CS .i64 ((CH NL ((BS kC (1:Int)).2.1) (BZ NL (1:Int))).2) (0:Int) rfl rfl (AA (BR (vO (((CH NL ((BS kC (1:Int)).2.1) (BZ NL (1:Int))).2) != (0:Int))) rfl rfl (AA (AG (vO (((CH NL ((BS kC (1:Int)).2.1) (BZ NL (1:Int))).2) != (0:Int))) rfl (?_))))))))
 have J8:(((CH NL ((BS kC (1:Int)).2.1) (BZ NL (1:Int))).2) != (0:Int))=false:=(by decide +kernel)
 rw [J8]
 refine AY rfl (AG (b9) rfl (AY rfl (CB U32_ rfl a2 (AY rfl (CS .i64 (kL.length:Int) (3:Int) rfl rfl (AA (BR (vO ((kL.length:Int) != (3:Int))) rfl rfl (AA (AG (vO ((kL.length:Int) != (3:Int))) rfl (?_))))))))))
 have J9:((kL.length:Int) != (3:Int))=false:=(by decide +kernel)
 rw [J9]
 refine AY rfl (AG (c2) rfl (AY rfl (CB U32_ rfl a3 (AY rfl (CS .i64 (((AE kC kL ([(4:UInt8)])).2.1).length:Int) (3:Int) rfl rfl (AA (BR (vO ((((AE kC kL ([(4:UInt8)])).2.1).length:Int) != (3:Int))) rfl rfl (AH (AD (?_))))))))))
 have K0:((((AE kC kL ([(4:UInt8)])).2.1).length:Int) != (3:Int))=false:=(by decide +kernel)
 rw [K0]
 refine AN false rfl rfl (fun h=>by cases h) (fun _=>AW (AD (AI (cw_draw' 9 _ _ [DB (vA #[vI CT.epoch,vI CT.threshold,vI CT.wait,c0,c1]),DB (vI ((BS kC (1:Int)).2.1)),fun (vT:Value) (wT:World)=>AZ Enc.share wT ((a1 :: (a0 :: []))++O) vT (kL),fun (vT:Value) (wT:World)=>AZ Enc.share wT ((a1 :: (a0 :: []))++O) vT ((kL.drop 1)),fun (vT:Value) (wT:World)=>∃ (xT0:Value),vT = .tuple #[xT0,vI ((BQ CT ((BS kC (1:Int)).2.1) (kL.drop 1)).2)]∧AZ Enc.u8 wT ((a1 :: (a0 :: []))++O) xT0 ((BQ CT ((BS kC (1:Int)).2.1) (kL.drop 1)).1),fun (vT:Value) (wT:World)=>∃ (xT0:Value),vT = .tuple #[xT0,vI ((BQ CT ((BS kC (1:Int)).2.1) (kL.drop 1)).2)]∧AZ Enc.u8 wT ((a1 :: (a0 :: []))++O) xT0 ((BQ CT ((BS kC (1:Int)).2.1) (kL.drop 1)).1),fun (vT:Value) (wT:World)=>AZ Enc.u8 wT ((a1 :: (a0 :: []))++O) vT ((BQ CT ((BS kC (1:Int)).2.1) (kL.drop 1)).1),DB (vI ((BQ CT ((BS kC (1:Int)).2.1) (kL.drop 1)).2)),fun (vT:Value) (wT:World)=>AZ Enc.u8 wT ((a1 :: (a0 :: []))++O) vT ((BQ CT ((BS kC (1:Int)).2.1) (kL.drop 1)).1)] kR kR kR kR rfl rfl ⟨kI,kI,fun _ _ _ h k=>h.mv (Mv.of_keep k),fun _ _ _ h k=>h.mv (Mv.of_keep k),fun _ _ _ ⟨y0,e,h0⟩ k=>⟨y0,e,h0.mv (Mv.of_keep k)⟩,fun _ _ _ ⟨y0,e,h0⟩ k=>⟨y0,e,h0.mv (Mv.of_keep k)⟩,fun _ _ _ h k=>h.mv (Mv.of_keep k),kI,fun _ _ _ h k=>h.mv (Mv.of_keep k),trivial⟩ ⟨?_,?_,?_,?_,?_,?_,?_,?_,?_,trivial⟩ ?_))))
 ·intro F1 w1 k1 hf hd
  have k0:=(Keep.drew [] j9).trans k1
  have a7:=a7.keep k0 (by simp)
  obtain ⟨F2,rfl⟩:=AM (F:=F1) [(1,vP (some ⟨a0,0,none⟩))] ⟨hf 1 kR,trivial⟩
  exact AK rfl ((BP (vs:=[vI CT.epoch,vI CT.threshold,vI CT.wait,c0,c1]) U28_ rfl BM rfl a7 rfl (⟨(Keep.refl _ _),rfl⟩)))
 ·intro F1 w1 k1 hf hd
  obtain ⟨F2,rfl⟩:=AM (F:=F1) [(8,vI ((BS kC (1:Int)).2.1))] ⟨hf 8 kR,trivial⟩
  exact AK rfl ((AG (vI ((BS kC (1:Int)).2.1)) rfl (⟨(Keep.refl _ _),rfl⟩)))
 ·intro F1 w1 k1 hf hd
  have k0:=(Keep.drew [] j9).trans k1
  have m1:Mv (a1 :: (a0 :: [])) j9 (a1 :: (a0 :: [])) w1:=Mv.of_keep k0
  have a2:=a2.mv m1
  obtain ⟨F2,rfl⟩:=AM (F:=F1) [(3,b9)] ⟨hf 3 kR,trivial⟩
  exact AK rfl ((AG (b9) rfl (⟨(Keep.refl _ _),a2⟩)))
 ·intro F1 w1 k1 hf hd
  obtain ⟨V2,V3,v9⟩:∃ v,F1 123=v∧AZ Enc.share w1 ((a1 :: (a0 :: []))++O) v (kL):=⟨_,rfl,hd 2 123 kR⟩
  have:=v9.len_le
  obtain ⟨F2,rfl⟩:=AM (F:=F1) [(123,V2)] ⟨V3,trivial⟩
  refine AK rfl ((MK U32_ DC 1 kL.length rfl (.inr ⟨.const (vI 1), .i64,(1:Int),rfl,rfl,rfl⟩) (.inl ⟨rfl,rfl⟩) (by decide +kernel) (by decide +kernel) v9 fun bG w0=>(?_)))
  rw [List.take_length] at w0
  exact ⟨(Keep.refl _ _),w0⟩
 ·intro F1 w1 k1 hf hd
  have k0:=(Keep.drew [] j9).trans k1
  have s1:=F8.call k0
  have m1:Mv (a1 :: (a0 :: [])) j9 (a1 :: (a0 :: [])) w1:=Mv.of_keep k0
  have a8:=a8.mv m1
  have a9:=a9.mv m1
  obtain ⟨s5,V4,w3⟩:∃ v,F1 124=v∧AZ Enc.share w1 ((a1 :: (a0 :: []))++O) v ((kL.drop 1)):=⟨_,rfl,hd 3 124 kR⟩
  have:=w3.len_le
  obtain ⟨F2,rfl⟩:=AM (F:=F1) [(121,vA #[vI CT.epoch,vI CT.threshold,vI CT.wait,c0,c1]),(122,vI ((BS kC (1:Int)).2.1)),(124,s5)] ⟨hd 0 121 kR,hd 1 122 kR,V4,trivial⟩
  refine AK rfl ((BD (vs:=[vA #[vI CT.epoch,vI CT.threshold,vI CT.wait,c0,c1],vI ((BS kC (1:Int)).2.1),s5]) QS (c_rest (O:=(a1 :: (a0 :: []))++O) [vI CT.epoch,vI CT.threshold,vI CT.wait,c0,c1] CT ((BS kC (1:Int)).2.1) s5 (kL.drop 1) w1 ⟨_,_,rfl,a8,a9⟩ w3 s1.lt) rfl s1 fun bH bI bJ bK V5 V6=>(?_)))
  obtain ⟨V7,rfl,w4⟩:=V6
  have:=w4.len_le
  exact ⟨V5,⟨V7,rfl,w4⟩⟩
 ·intro F1 w1 k1 hf hd
  obtain ⟨s6,V8,w5⟩:(fun (vT:Value) (wT:World)=>∃ (xT0:Value),vT = .tuple #[xT0,vI ((BQ CT ((BS kC (1:Int)).2.1) (kL.drop 1)).2)]∧AZ Enc.u8 wT ((a1 :: (a0 :: []))++O) xT0 ((BQ CT ((BS kC (1:Int)).2.1) (kL.drop 1)).1)) (F1 125) w1:=hd 4 125 kR
  have:=w5.len_le
  obtain ⟨F2,rfl⟩:=AM (F:=F1) [(125,vT #[s6,vI ((BQ CT ((BS kC (1:Int)).2.1) (kL.drop 1)).2)])] ⟨V8,trivial⟩
  exact AK rfl ((AG (vT #[s6,vI ((BQ CT ((BS kC (1:Int)).2.1) (kL.drop 1)).2)]) rfl (⟨(Keep.refl _ _),⟨s6,rfl,w5⟩⟩)))
 ·intro F1 w1 k1 hf hd
  obtain ⟨F9,V9,w6⟩:(fun (vT:Value) (wT:World)=>∃ (xT0:Value),vT = .tuple #[xT0,vI ((BQ CT ((BS kC (1:Int)).2.1) (kL.drop 1)).2)]∧AZ Enc.u8 wT ((a1 :: (a0 :: []))++O) xT0 ((BQ CT ((BS kC (1:Int)).2.1) (kL.drop 1)).1)) (F1 120) w1:=hd 5 120 kR
  have:=w6.len_le
  obtain ⟨F2,rfl⟩:=AM (F:=F1) [(120,vT #[F9,vI ((BQ CT ((BS kC (1:Int)).2.1) (kL.drop 1)).2)])] ⟨V9,trivial⟩
  exact AK rfl ((AP (F9) rfl rfl (⟨(Keep.refl _ _),w6⟩)))
 ·intro F1 w1 k1 hf hd
  obtain ⟨W0,W1,K1⟩:(fun (vT:Value) (wT:World)=>∃ (xT0:Value),vT = .tuple #[xT0,vI ((BQ CT ((BS kC (1:Int)).2.1) (kL.drop 1)).2)]∧AZ Enc.u8 wT ((a1 :: (a0 :: []))++O) xT0 ((BQ CT ((BS kC (1:Int)).2.1) (kL.drop 1)).1)) (F1 120) w1:=hd 5 120 kR
  have:=K1.len_le
  obtain ⟨F2,rfl⟩:=AM (F:=F1) [(120,vT #[W0,vI ((BQ CT ((BS kC (1:Int)).2.1) (kL.drop 1)).2)])] ⟨W1,trivial⟩
  exact AK rfl ((AP (vI ((BQ CT ((BS kC (1:Int)).2.1) (kL.drop 1)).2)) rfl rfl (⟨(Keep.refl _ _),rfl⟩)))
 ·intro F1 w1 k1 hf hd
  obtain ⟨G0,W2,w7⟩:∃ v,F1 126=v∧AZ Enc.u8 w1 ((a1 :: (a0 :: []))++O) v ((BQ CT ((BS kC (1:Int)).2.1) (kL.drop 1)).1):=⟨_,rfl,hd 6 126 kR⟩
  have:=w7.len_le
  obtain ⟨F2,rfl⟩:=AM (F:=F1) [(126,G0)] ⟨W2,trivial⟩
  exact AK rfl ((AF (G0) rfl (⟨(Keep.refl _ _),w7⟩)))
 intro G1 f1 n2 p5 e4
 have G2:=F8.call n2
 have k3:Mv (a1 :: (a0 :: [])) j9 (a1 :: (a0 :: [])) f1:=Mv.of_keep n2
 have a2:=a2.mv k3
 have a3:=a3.mv k3
 have a5:=a5.mv k3
 have a6:=a6.mv k3
 have a8:=a8.mv k3
 have a9:=a9.mv k3
 have a7:=a7.keep n2 (by simp)
 have a4:=a4.keep n2 (by simp)
 obtain ⟨d7,W3,b0⟩:∃ v,G1 15=v∧AZ Enc.u8 f1 ((a1 :: (a0 :: []))++O) v ((BQ CT ((BS kC (1:Int)).2.1) (kL.drop 1)).1):=⟨_,rfl,p5 8 15 kR (by decide)⟩
 have:=b0.len_le
 obtain ⟨F2,rfl⟩:=AM (F:=G1) [(1,vP (some ⟨a0,0,none⟩)),(3,b9),(5,vP (some ⟨a1,0,none⟩)),(6,c2),(8,vI ((BS kC (1:Int)).2.1)),(11,vI ((BQ kA ((BS kC (1:Int)).2.1) kL).2)),(252,undef),(15,d7),(127,vI ((BQ CT ((BS kC (1:Int)).2.1) (kL.drop 1)).2))] ⟨e4 1 kR,e4 3 kR,e4 5 kR,e4 6 kR,e4 8 kR,e4 11 kR,e4 252 kR,W3,p5 7 127 kR (by decide),trivial⟩
 clear p5 e4
 refine AA (AF (vI ((BQ CT ((BS kC (1:Int)).2.1) (kL.drop 1)).2)) rfl (AH (AD (AI (cw_draw' 9 _ _ [DB (vA #[vI CT.epoch,vI CT.threshold,vI CT.wait,c0,c1]),DB (vI ((BS kC (1:Int)).2.1)),fun (vT:Value) (wT:World)=>AZ Enc.share wT ((a1 :: (a0 :: []))++O) vT ((AE kC kL ([(4:UInt8)])).2.1),fun (vT:Value) (wT:World)=>AZ Enc.share wT ((a1 :: (a0 :: []))++O) vT ((((AE kC kL ([(4:UInt8)])).2.1).drop 1)),fun (vT:Value) (wT:World)=>∃ (xT0:Value),vT = .tuple #[xT0,vI ((BQ CT ((BS kC (1:Int)).2.1) (((AE kC kL ([(4:UInt8)])).2.1).drop 1)).2)]∧AZ Enc.u8 wT ((a1 :: (a0 :: []))++O) xT0 ((BQ CT ((BS kC (1:Int)).2.1) (((AE kC kL ([(4:UInt8)])).2.1).drop 1)).1),fun (vT:Value) (wT:World)=>∃ (xT0:Value),vT = .tuple #[xT0,vI ((BQ CT ((BS kC (1:Int)).2.1) (((AE kC kL ([(4:UInt8)])).2.1).drop 1)).2)]∧AZ Enc.u8 wT ((a1 :: (a0 :: []))++O) xT0 ((BQ CT ((BS kC (1:Int)).2.1) (((AE kC kL ([(4:UInt8)])).2.1).drop 1)).1),fun (vT:Value) (wT:World)=>AZ Enc.u8 wT ((a1 :: (a0 :: []))++O) vT ((BQ CT ((BS kC (1:Int)).2.1) (((AE kC kL ([(4:UInt8)])).2.1).drop 1)).1),DB (vI ((BQ CT ((BS kC (1:Int)).2.1) (((AE kC kL ([(4:UInt8)])).2.1).drop 1)).2)),fun (vT:Value) (wT:World)=>AZ Enc.u8 wT ((a1 :: (a0 :: []))++O) vT ((BQ CT ((BS kC (1:Int)).2.1) (((AE kC kL ([(4:UInt8)])).2.1).drop 1)).1)] kR kR kR kR rfl rfl ⟨kI,kI,fun _ _ _ h k=>h.mv (Mv.of_keep k),fun _ _ _ h k=>h.mv (Mv.of_keep k),fun _ _ _ ⟨y0,e,h0⟩ k=>⟨y0,e,h0.mv (Mv.of_keep k)⟩,fun _ _ _ ⟨y0,e,h0⟩ k=>⟨y0,e,h0.mv (Mv.of_keep k)⟩,fun _ _ _ h k=>h.mv (Mv.of_keep k),kI,fun _ _ _ h k=>h.mv (Mv.of_keep k),trivial⟩ ⟨?_,?_,?_,?_,?_,?_,?_,?_,?_,trivial⟩ ?_)))))
 ·intro F1 w1 k1 hf hd
  have k0:=(Keep.drew [] f1).trans k1
  have a7:=a7.keep k0 (by simp)
  obtain ⟨F2,rfl⟩:=AM (F:=F1) [(1,vP (some ⟨a0,0,none⟩))] ⟨hf 1 kR,trivial⟩
  exact AK rfl ((BP (vs:=[vI CT.epoch,vI CT.threshold,vI CT.wait,c0,c1]) U28_ rfl BM rfl a7 rfl (⟨(Keep.refl _ _),rfl⟩)))
 ·intro F1 w1 k1 hf hd
  obtain ⟨F2,rfl⟩:=AM (F:=F1) [(8,vI ((BS kC (1:Int)).2.1))] ⟨hf 8 kR,trivial⟩
  exact AK rfl ((AG (vI ((BS kC (1:Int)).2.1)) rfl (⟨(Keep.refl _ _),rfl⟩)))
 ·intro F1 w1 k1 hf hd
  have k0:=(Keep.drew [] f1).trans k1
  have m1:Mv (a1 :: (a0 :: [])) f1 (a1 :: (a0 :: [])) w1:=Mv.of_keep k0
  have a3:=a3.mv m1
  obtain ⟨F2,rfl⟩:=AM (F:=F1) [(6,c2)] ⟨hf 6 kR,trivial⟩
  exact AK rfl ((AG (c2) rfl (⟨(Keep.refl _ _),a3⟩)))
 ·intro F1 w1 k1 hf hd
  obtain ⟨W4,W5,w8⟩:∃ v,F1 131=v∧AZ Enc.share w1 ((a1 :: (a0 :: []))++O) v ((AE kC kL ([(4:UInt8)])).2.1):=⟨_,rfl,hd 2 131 kR⟩
  have:=w8.len_le
  obtain ⟨F2,rfl⟩:=AM (F:=F1) [(131,W4)] ⟨W5,trivial⟩
  refine AK rfl ((MK U32_ DC 1 (((AE kC kL ([(4:UInt8)])).2.1).length) rfl (.inr ⟨.const (vI 1), .i64,(1:Int),rfl,rfl,rfl⟩) (.inl ⟨rfl,rfl⟩) (by decide +kernel) (by decide +kernel) w8 fun bL w9=>(?_)))
  rw [List.take_length] at w9
  exact ⟨(Keep.refl _ _),w9⟩
 ·intro F1 w1 k1 hf hd
  have k0:=(Keep.drew [] f1).trans k1
  have s1:=G2.call k0
  have m1:Mv (a1 :: (a0 :: [])) f1 (a1 :: (a0 :: [])) w1:=Mv.of_keep k0
  have a8:=a8.mv m1
  have a9:=a9.mv m1
  obtain ⟨s7,W6,x0⟩:∃ v,F1 132=v∧AZ Enc.share w1 ((a1 :: (a0 :: []))++O) v ((((AE kC kL ([(4:UInt8)])).2.1).drop 1)):=⟨_,rfl,hd 3 132 kR⟩
  have:=x0.len_le
  obtain ⟨F2,rfl⟩:=AM (F:=F1) [(129,vA #[vI CT.epoch,vI CT.threshold,vI CT.wait,c0,c1]),(130,vI ((BS kC (1:Int)).2.1)),(132,s7)] ⟨hd 0 129 kR,hd 1 130 kR,W6,trivial⟩
  refine AK rfl ((BD (vs:=[vA #[vI CT.epoch,vI CT.threshold,vI CT.wait,c0,c1],vI ((BS kC (1:Int)).2.1),s7]) QS (c_rest (O:=(a1 :: (a0 :: []))++O) [vI CT.epoch,vI CT.threshold,vI CT.wait,c0,c1] CT ((BS kC (1:Int)).2.1) s7 (((AE kC kL ([(4:UInt8)])).2.1).drop 1) w1 ⟨_,_,rfl,a8,a9⟩ x0 s1.lt) rfl s1 fun bM bN bO bP W7 W8=>(?_)))
  obtain ⟨W9,rfl,x1⟩:=W8
  have:=x1.len_le
  exact ⟨W7,⟨W9,rfl,x1⟩⟩
 ·intro F1 w1 k1 hf hd
  obtain ⟨s8,X0,x2⟩:(fun (vT:Value) (wT:World)=>∃ (xT0:Value),vT = .tuple #[xT0,vI ((BQ CT ((BS kC (1:Int)).2.1) (((AE kC kL ([(4:UInt8)])).2.1).drop 1)).2)]∧AZ Enc.u8 wT ((a1 :: (a0 :: []))++O) xT0 ((BQ CT ((BS kC (1:Int)).2.1) (((AE kC kL ([(4:UInt8)])).2.1).drop 1)).1)) (F1 133) w1:=hd 4 133 kR
  have:=x2.len_le
  obtain ⟨F2,rfl⟩:=AM (F:=F1) [(133,vT #[s8,vI ((BQ CT ((BS kC (1:Int)).2.1) (((AE kC kL ([(4:UInt8)])).2.1).drop 1)).2)])] ⟨X0,trivial⟩
  exact AK rfl ((AG (vT #[s8,vI ((BQ CT ((BS kC (1:Int)).2.1) (((AE kC kL ([(4:UInt8)])).2.1).drop 1)).2)]) rfl (⟨(Keep.refl _ _),⟨s8,rfl,x2⟩⟩)))
 ·intro F1 w1 k1 hf hd
  obtain ⟨G3,X1,x3⟩:(fun (vT:Value) (wT:World)=>∃ (xT0:Value),vT = .tuple #[xT0,vI ((BQ CT ((BS kC (1:Int)).2.1) (((AE kC kL ([(4:UInt8)])).2.1).drop 1)).2)]∧AZ Enc.u8 wT ((a1 :: (a0 :: []))++O) xT0 ((BQ CT ((BS kC (1:Int)).2.1) (((AE kC kL ([(4:UInt8)])).2.1).drop 1)).1)) (F1 128) w1:=hd 5 128 kR
  have:=x3.len_le
  obtain ⟨F2,rfl⟩:=AM (F:=F1) [(128,vT #[G3,vI ((BQ CT ((BS kC (1:Int)).2.1) (((AE kC kL ([(4:UInt8)])).2.1).drop 1)).2)])] ⟨X1,trivial⟩
  exact AK rfl ((AP (G3) rfl rfl (⟨(Keep.refl _ _),x3⟩)))
 ·intro F1 w1 k1 hf hd
  obtain ⟨X2,X3,K2⟩:(fun (vT:Value) (wT:World)=>∃ (xT0:Value),vT = .tuple #[xT0,vI ((BQ CT ((BS kC (1:Int)).2.1) (((AE kC kL ([(4:UInt8)])).2.1).drop 1)).2)]∧AZ Enc.u8 wT ((a1 :: (a0 :: []))++O) xT0 ((BQ CT ((BS kC (1:Int)).2.1) (((AE kC kL ([(4:UInt8)])).2.1).drop 1)).1)) (F1 128) w1:=hd 5 128 kR
  have:=K2.len_le
  obtain ⟨F2,rfl⟩:=AM (F:=F1) [(128,vT #[X2,vI ((BQ CT ((BS kC (1:Int)).2.1) (((AE kC kL ([(4:UInt8)])).2.1).drop 1)).2)])] ⟨X3,trivial⟩
  exact AK rfl ((AP (vI ((BQ CT ((BS kC (1:Int)).2.1) (((AE kC kL ([(4:UInt8)])).2.1).drop 1)).2)) rfl rfl (⟨(Keep.refl _ _),rfl⟩)))
 ·intro F1 w1 k1 hf hd
  obtain ⟨G4,X4,x4⟩:∃ v,F1 134=v∧AZ Enc.u8 w1 ((a1 :: (a0 :: []))++O) v ((BQ CT ((BS kC (1:Int)).2.1) (((AE kC kL ([(4:UInt8)])).2.1).drop 1)).1):=⟨_,rfl,hd 6 134 kR⟩
  have:=x4.len_le
  obtain ⟨F2,rfl⟩:=AM (F:=F1) [(134,G4)] ⟨X4,trivial⟩
  exact AK rfl ((AF (G4) rfl (⟨(Keep.refl _ _),x4⟩)))
 intro X5 b5 n3 x5 d6
 have g3:=G2.call n3
 have g4:Mv (a1 :: (a0 :: [])) f1 (a1 :: (a0 :: [])) b5:=Mv.of_keep n3
 have a2:=a2.mv g4
 have a3:=a3.mv g4
 have b0:=b0.mv g4
 have a8:=a8.mv g4
 have a9:=a9.mv g4
 have a7:=a7.keep n3 (by simp)
 have a5:=a5.mv g4
 have a6:=a6.mv g4
 have a4:=a4.keep n3 (by simp)
 obtain ⟨F2,rfl⟩:=AM (F:=X5) [(1,vP (some ⟨a0,0,none⟩)),(3,b9),(5,vP (some ⟨a1,0,none⟩)),(6,c2),(11,vI ((BQ kA ((BS kC (1:Int)).2.1) kL).2)),(15,d7),(16,vI ((BQ CT ((BS kC (1:Int)).2.1) (kL.drop 1)).2)),(252,undef),(135,vI ((BQ CT ((BS kC (1:Int)).2.1) (((AE kC kL ([(4:UInt8)])).2.1).drop 1)).2))] ⟨d6 1 kR,d6 3 kR,d6 5 kR,d6 6 kR,d6 11 kR,d6 15 kR,d6 16 kR,d6 252 kR,x5 7 135 kR (by decide),trivial⟩
 clear x5 d6
 refine AA (AF (vI ((BQ CT ((BS kC (1:Int)).2.1) (((AE kC kL ([(4:UInt8)])).2.1).drop 1)).2)) rfl (AH (AD (cw_cut (fun FI wI=>∃ (c4:Nat) (f4:Value) (f5:Value) (d3:Value) (B:List Nat),True∧(∃ F1,FI=GO F1 [(1,vP (some ⟨a0,0,none⟩)),(3,b9),(5,vP (some ⟨a1,0,none⟩)),(6,c2),(11,vI ((BQ kA ((BS kC (1:Int)).2.1) kL).2)),(15,d7),(16,vI ((BQ CT ((BS kC (1:Int)).2.1) (kL.drop 1)).2)),(18,vI ((BQ CT ((BS kC (1:Int)).2.1) (((AE kC kL ([(4:UInt8)])).2.1).drop 1)).2)),(19,vP (some ⟨c4,0,none⟩)),(20,d3),(21,vI kE),(252,undef)])∧St w O wI B∧AZ Enc.share wI (B++O) d3 (kW)∧AZ Enc.share wI (B++O) (b9) (kL)∧AZ Enc.share wI (B++O) (c2) ((AE kC kL ([(4:UInt8)])).2.1)∧AZ Enc.u8 wI (B++O) (d7) ((BQ CT ((BS kC (1:Int)).2.1) (kL.drop 1)).1)∧AZ Enc.int wI (B++O) (c0) (CT.guardians)∧AZ Enc.recovery wI (B++O) (c1) (CT.recs)∧HC wI a0 28 [vI CT.epoch,vI CT.threshold,vI CT.wait,c0,c1]∧a0∈B∧AZ Enc.int wI (B++O) (g1) (kX.guardians)∧AZ Enc.recovery wI (B++O) (g2) (kX.recs)∧HC wI a1 28 [vI kX.epoch,vI kX.threshold,vI kX.wait,g1,g2]∧a1∈B∧HC wI c4 28 [vI kZ.epoch,vI kZ.threshold,vI kZ.wait,f4,f5]∧AZ Enc.int wI (B++O) f4 (kZ.guardians)∧AZ Enc.recovery wI (B++O) f5 (kZ.recs)∧c4∈B∧FM a0 c4∧FM a1 c4) ?_ ?_))))
 ·refine VZ 10 [7,8] [[7],[8],[7,8]] (by intro c F d v w hd;simp only [OY,NS];exact qp_end c F d v w hd) _ _ _ [fun _=>DB (vA #[vI CT.epoch,vI CT.threshold,vI CT.wait,c0,c1]),fun _=>fun (vT:Value) (_:World)=>AZ Enc.share b5 ((a1 :: (a0 :: []))++O) vT (kL),fun _=>fun (vT:Value) (_:World)=>AZ Enc.share b5 ((a1 :: (a0 :: []))++O) vT ((kL.take 2)),fun (BT:List Nat) (vT:Value) (wT:World)=>AZ Enc.int wT (BT++O) vT ([(4:Int)]),fun (BT:List Nat) (vT:Value) (wT:World)=>∃ (xT0:List Value) (xT1:Value),vT = .tuple #[.agg xT0.toArray,xT1,vI ((AU CT (kL.take 2) ([(4:Int)]) (1:Int) ([])).2.2)]∧Enc.circle.rd wT (BT++O) xT0 (kZ)∧AZ Enc.share wT (BT++O) xT1 ((AU CT (kL.take 2) ([(4:Int)]) (1:Int) ([])).2.1),fun (BT:List Nat) (vT:Value) (wT:World)=>∃ (xT0:List Value) (xT1:Value),vT = .tuple #[.agg xT0.toArray,xT1,vI ((AU CT (kL.take 2) ([(4:Int)]) (1:Int) ([])).2.2)]∧Enc.circle.rd wT (BT++O) xT0 (kZ)∧AZ Enc.share wT (BT++O) xT1 ((AU CT (kL.take 2) ([(4:Int)]) (1:Int) ([])).2.1),fun (BT:List Nat) (vT:Value) (wT:World)=>∃ csT:List Value,vT = .agg csT.toArray∧Enc.circle.rd wT (BT++O) csT (kZ),fun (BT:List Nat) (vT:Value) (wT:World)=>AZ Enc.share wT (BT++O) vT ((AU CT (kL.take 2) ([(4:Int)]) (1:Int) ([])).2.1),fun _=>DB (vI ((AU CT (kL.take 2) ([(4:Int)]) (1:Int) ([])).2.2)),PE b5 28 [vI 0,vI 0,vI 0,nS,nS]] [⟨0,[],[],[],false,[]⟩,⟨0,[],[],[],false,[]⟩,⟨0,[],[],[],false,[1]⟩,⟨1,[],[],[],false,[]⟩,⟨1,[1],[],[],false,[0,2,3]⟩,⟨1,[1],[],[],false,[4]⟩,⟨1,[1],[],[],false,[5]⟩,⟨1,[1],[],[],false,[5]⟩,⟨0,[1],[],[],false,[5]⟩,⟨2,[],[],[],false,[]⟩] (a1 :: (a0 :: [])) kR kR kR kR kR (by decide) rfl rfl rfl ⟨fun _ _ _ _ _ h=>h,fun _ _ _ _ _ h=>h,fun _ _ _ _ _ h=>h,(show ∀ B B2 v w w2,(fun (BT:List Nat) (vT:Value) (wT:World)=>AZ Enc.int wT (BT++O) vT ([(4:Int)])) B v w→Mv B w B2 w2→(fun (BT:List Nat) (vT:Value) (wT:World)=>AZ Enc.int wT (BT++O) vT ([(4:Int)])) B2 v w2 from fun _ _ _ _ _ h m=>h.mv m),(show ∀ B B2 v w w2,(fun (BT:List Nat) (vT:Value) (wT:World)=>∃ (xT0:List Value) (xT1:Value),vT = .tuple #[.agg xT0.toArray,xT1,vI ((AU CT (kL.take 2) ([(4:Int)]) (1:Int) ([])).2.2)]∧Enc.circle.rd wT (BT++O) xT0 (kZ)∧AZ Enc.share wT (BT++O) xT1 ((AU CT (kL.take 2) ([(4:Int)]) (1:Int) ([])).2.1)) B v w→Mv B w B2 w2→(fun (BT:List Nat) (vT:Value) (wT:World)=>∃ (xT0:List Value) (xT1:Value),vT = .tuple #[.agg xT0.toArray,xT1,vI ((AU CT (kL.take 2) ([(4:Int)]) (1:Int) ([])).2.2)]∧Enc.circle.rd wT (BT++O) xT0 (kZ)∧AZ Enc.share wT (BT++O) xT1 ((AU CT (kL.take 2) ([(4:Int)]) (1:Int) ([])).2.1)) B2 v w2 from fun _ _ _ _ _ ⟨y0,y1,e,h0,h1⟩ m=>⟨y0,y1,e,Enc.mv _ h0 m,h1.mv m⟩),(show ∀ B B2 v w w2,(fun (BT:List Nat) (vT:Value) (wT:World)=>∃ (xT0:List Value) (xT1:Value),vT = .tuple #[.agg xT0.toArray,xT1,vI ((AU CT (kL.take 2) ([(4:Int)]) (1:Int) ([])).2.2)]∧Enc.circle.rd wT (BT++O) xT0 (kZ)∧AZ Enc.share wT (BT++O) xT1 ((AU CT (kL.take 2) ([(4:Int)]) (1:Int) ([])).2.1)) B v w→Mv B w B2 w2→(fun (BT:List Nat) (vT:Value) (wT:World)=>∃ (xT0:List Value) (xT1:Value),vT = .tuple #[.agg xT0.toArray,xT1,vI ((AU CT (kL.take 2) ([(4:Int)]) (1:Int) ([])).2.2)]∧Enc.circle.rd wT (BT++O) xT0 (kZ)∧AZ Enc.share wT (BT++O) xT1 ((AU CT (kL.take 2) ([(4:Int)]) (1:Int) ([])).2.1)) B2 v w2 from fun _ _ _ _ _ ⟨y0,y1,e,h0,h1⟩ m=>⟨y0,y1,e,Enc.mv _ h0 m,h1.mv m⟩),(show ∀ B B2 v w w2,(fun (BT:List Nat) (vT:Value) (wT:World)=>∃ csT:List Value,vT = .agg csT.toArray∧Enc.circle.rd wT (BT++O) csT (kZ)) B v w→Mv B w B2 w2→(fun (BT:List Nat) (vT:Value) (wT:World)=>∃ csT:List Value,vT = .agg csT.toArray∧Enc.circle.rd wT (BT++O) csT (kZ)) B2 v w2 from fun _ _ _ _ _ ⟨a,e,h⟩ m=>⟨a,e,Enc.mv _ h m⟩),(show ∀ B B2 v w w2,(fun (BT:List Nat) (vT:Value) (wT:World)=>AZ Enc.share wT (BT++O) vT ((AU CT (kL.take 2) ([(4:Int)]) (1:Int) ([])).2.1)) B v w→Mv B w B2 w2→(fun (BT:List Nat) (vT:Value) (wT:World)=>AZ Enc.share wT (BT++O) vT ((AU CT (kL.take 2) ([(4:Int)]) (1:Int) ([])).2.1)) B2 v w2 from fun _ _ _ _ _ h m=>h.mv m),fun _ _ _ _ _ h=>h,PE.st,trivial⟩ ⟨?_,?_,?_,?_,?_,?_,?_,?_,?_,?_,trivial⟩ ?_ ?_
  ·intro F1 w1 B1_ Bs_ k1 hs_ hl_ hr_ hsep_ hf hd
   have k0:=(Keep.drew [] b5).trans k1
   have a7:=a7.keep k0 (by simp)
   obtain ⟨F2,rfl⟩:=AM (F:=F1) [(1,vP (some ⟨a0,0,none⟩))] ⟨hf 1 kR,trivial⟩
   exact AK rfl ((BP (vs:=[vI CT.epoch,vI CT.threshold,vI CT.wait,c0,c1]) U28_ rfl BM rfl a7 rfl (⟨[],(Keep.refl _ _),KY,rfl⟩)))
  ·intro F1 w1 B1_ Bs_ k1 hs_ hl_ hr_ hsep_ hf hd
   obtain ⟨F2,rfl⟩:=AM (F:=F1) [(3,b9)] ⟨hf 3 kR,trivial⟩
   exact AK rfl ((AG (b9) rfl (⟨[],(Keep.refl _ _),KY,a2⟩)))
  ·intro F1 w1 B1_ Bs_ k1 hs_ hl_ hr_ hsep_ hf hd
   obtain ⟨X6,X7,x6⟩:∃ v,F1 138=v∧AZ Enc.share b5 ((a1 :: (a0 :: []))++O) v (kL):=⟨_,rfl,hd 1 138 kR kR⟩
   have:=x6.len_le
   obtain ⟨F2,rfl⟩:=AM (F:=F1) [(138,X6)] ⟨X7,trivial⟩
   refine AK rfl ((UX U32_ DC 0 2 rfl (.inl ⟨rfl,rfl⟩) (.inr ⟨.const (vI 2), .i64,(2:Int),rfl,rfl,rfl⟩) (by decide +kernel) (by decide +kernel) x6 fun bQ x7=>(?_)))
   rw [List.drop_zero] at x7
   exact ⟨[],(Keep.refl _ _),KY,x7⟩
  ·intro F1 w1 B1_ Bs_ k1 hs_ hl_ hr_ hsep_ hf hd
   have k0:=(Keep.drew [] b5).trans k1
   have s1:=g3.adoptL k0 hl_
   obtain ⟨F2,rfl⟩:=AM (F:=F1) [] trivial
   refine AK rfl ((JI (E:=Enc.int) (xs:=[.const (vI 4)]) U22_ NR z_3 (by decide) [vI 4] [[vI 4]] [(4:Int)] rfl rfl rfl (Parts.cons rfl rfl (Parts.nil _ _ _)) oT s1 fun bR bS bT bU X8 x8=>(?_)))
   have:=x8.len_le
   exact ⟨[],X8,KY,x8⟩
  ·intro F1 w1 B1_ Bs_ k1 hs_ hl_ hr_ hsep_ hf hd
   have k0:=(Keep.drew [] b5).trans k1
   have s1:=g3.adoptL k0 hl_
   have m1:Mv (a1 :: (a0 :: [])) b5 B1_ w1:=Mv.adoptL k0 hl_
   have a8:=a8.mv m1
   have a9:=a9.mv m1
   obtain ⟨s9,X9,l6⟩:∃ v,F1 139=v∧AZ Enc.share b5 ((a1 :: (a0 :: []))++O) v ((kL.take 2)):=⟨_,rfl,hd 2 139 kR kR⟩
   have:=l6.len_le
   have l6:=l6.mv m1
   obtain ⟨t0,Y0,l7⟩:∃ v,F1 140=v∧AZ Enc.int w1 ((Bs_ 1)++O) v ([(4:Int)]):=⟨_,rfl,hd 3 140 kR kR⟩
   have:=l7.len_le
   have l7:=l7.mv (Mv.at_ (hr_ 1 kR))
   obtain ⟨F2,rfl⟩:=AM (F:=F1) [(137,vA #[vI CT.epoch,vI CT.threshold,vI CT.wait,c0,c1]),(139,s9),(140,t0)] ⟨hd 0 137 kR kR,X9,Y0,trivial⟩
   refine AK rfl ((BD (vs:=[vA #[vI CT.epoch,vI CT.threshold,vI CT.wait,c0,c1],s9,t0,vI 1,nS]) enter_28 (c_replace (O:=B1_++O) [vI CT.epoch,vI CT.threshold,vI CT.wait,c0,c1] CT s9 (kL.take 2) t0 ([(4:Int)]) (1:Int) (.slice none 0 0) [] w1 ⟨_,_,rfl,a8,a9⟩ l6 l7 (AZ.nil _ _ _) (by decide +kernel) s1.lt) rfl s1 fun bV Y1 bW bX Y2 Y3=>(?_)))
   obtain ⟨x9,Y4,rfl,p6,y2⟩:=Y3
   have:=y2.len_le
   have p6:Enc.circle.rd Y1 (B1_++O) x9 kZ:=p6
   exact ⟨[],Y2,KY,⟨x9,Y4,rfl,p6,y2⟩⟩
  ·intro F1 w1 B1_ Bs_ k1 hs_ hl_ hr_ hsep_ hf hd
   obtain ⟨l8,t2,Y5,p7,l9⟩:(fun (vT:Value) (wT:World)=>∃ (xT0:List Value) (xT1:Value),vT = .tuple #[.agg xT0.toArray,xT1,vI ((AU CT (kL.take 2) ([(4:Int)]) (1:Int) ([])).2.2)]∧Enc.circle.rd wT ((Bs_ 1)++O) xT0 (kZ)∧AZ Enc.share wT ((Bs_ 1)++O) xT1 ((AU CT (kL.take 2) ([(4:Int)]) (1:Int) ([])).2.1)) (F1 141) w1:=hd 4 141 kR kR
   have:=l9.len_le
   have p7:Enc.circle.rd w1 (B1_++O) l8 (kZ):=Enc.mv Enc.circle (x:=kZ) p7 (Mv.at_ (hr_ 1 kR))
   have l9:=l9.mv (Mv.at_ (hr_ 1 kR))
   obtain ⟨F2,rfl⟩:=AM (F:=F1) [(141,vT #[vA l8.toArray,t2,vI ((AU CT (kL.take 2) ([(4:Int)]) (1:Int) ([])).2.2)])] ⟨Y5,trivial⟩
   exact AK rfl ((AG (vT #[vA l8.toArray,t2,vI ((AU CT (kL.take 2) ([(4:Int)]) (1:Int) ([])).2.2)]) rfl (⟨[],(Keep.refl _ _),KY,⟨l8,t2,rfl,p7,l9⟩⟩)))
  ·intro F1 w1 B1_ Bs_ k1 hs_ hl_ hr_ hsep_ hf hd
   obtain ⟨m0,Y6,Y7,p8,K3⟩:(fun (vT:Value) (wT:World)=>∃ (xT0:List Value) (xT1:Value),vT = .tuple #[.agg xT0.toArray,xT1,vI ((AU CT (kL.take 2) ([(4:Int)]) (1:Int) ([])).2.2)]∧Enc.circle.rd wT ((Bs_ 1)++O) xT0 (kZ)∧AZ Enc.share wT ((Bs_ 1)++O) xT1 ((AU CT (kL.take 2) ([(4:Int)]) (1:Int) ([])).2.1)) (F1 136) w1:=hd 5 136 kR kR
   have:=K3.len_le
   have p8:Enc.circle.rd w1 (B1_++O) m0 (kZ):=Enc.mv Enc.circle (x:=kZ) p8 (Mv.at_ (hr_ 1 kR))
   obtain ⟨F2,rfl⟩:=AM (F:=F1) [(136,vT #[vA m0.toArray,Y6,vI ((AU CT (kL.take 2) ([(4:Int)]) (1:Int) ([])).2.2)])] ⟨Y7,trivial⟩
   exact AK rfl ((AP (vA m0.toArray) rfl rfl (⟨[],(Keep.refl _ _),KY,⟨m0,rfl,p8⟩⟩)))
  ·intro F1 w1 B1_ Bs_ k1 hs_ hl_ hr_ hsep_ hf hd
   obtain ⟨K4,G5,Y8,bb,m2⟩:(fun (vT:Value) (wT:World)=>∃ (xT0:List Value) (xT1:Value),vT = .tuple #[.agg xT0.toArray,xT1,vI ((AU CT (kL.take 2) ([(4:Int)]) (1:Int) ([])).2.2)]∧Enc.circle.rd wT ((Bs_ 1)++O) xT0 (kZ)∧AZ Enc.share wT ((Bs_ 1)++O) xT1 ((AU CT (kL.take 2) ([(4:Int)]) (1:Int) ([])).2.1)) (F1 136) w1:=hd 5 136 kR kR
   have:=m2.len_le
   have m2:=m2.mv (Mv.at_ (hr_ 1 kR))
   obtain ⟨F2,rfl⟩:=AM (F:=F1) [(136,vT #[vA K4.toArray,G5,vI ((AU CT (kL.take 2) ([(4:Int)]) (1:Int) ([])).2.2)])] ⟨Y8,trivial⟩
   exact AK rfl ((AP (G5) rfl rfl (⟨[],(Keep.refl _ _),KY,m2⟩)))
  ·intro F1 w1 B1_ Bs_ k1 hs_ hl_ hr_ hsep_ hf hd
   obtain ⟨K5,Y9,Z0,bc,K6⟩:(fun (vT:Value) (wT:World)=>∃ (xT0:List Value) (xT1:Value),vT = .tuple #[.agg xT0.toArray,xT1,vI ((AU CT (kL.take 2) ([(4:Int)]) (1:Int) ([])).2.2)]∧Enc.circle.rd wT ((Bs_ 1)++O) xT0 (kZ)∧AZ Enc.share wT ((Bs_ 1)++O) xT1 ((AU CT (kL.take 2) ([(4:Int)]) (1:Int) ([])).2.1)) (F1 136) w1:=hd 5 136 kR kR
   have:=K6.len_le
   obtain ⟨F2,rfl⟩:=AM (F:=F1) [(136,vT #[vA K5.toArray,Y9,vI ((AU CT (kL.take 2) ([(4:Int)]) (1:Int) ([])).2.2)])] ⟨Z0,trivial⟩
   exact AK rfl ((AP (vI ((AU CT (kL.take 2) ([(4:Int)]) (1:Int) ([])).2.2)) rfl rfl (⟨[],(Keep.refl _ _),KY,rfl⟩)))
  ·intro F1 w1 B1_ Bs_ k1 hs_ hl_ hr_ hsep_ hf hd
   have k0:=(Keep.drew [] b5).trans k1
   have s1:=g3.adoptL k0 hl_
   obtain ⟨F2,rfl⟩:=AM (F:=F1) [] trivial
   refine AK rfl ((CU [vI 0,vI 0,vI 0,nS,nS] LC rfl s1 fun Z1 bY bZ ca cb Z2 K7=>(?_)))
   have K8:b5.heap.size≤Z1:=by have:=k0.size;omega
   exact ⟨[],Z2,KY,⟨_,rfl,K8,(by intro h;have:=lt_of s1 _ h;omega),K7⟩⟩
  ·intro n4 g5 f6 n5 p9 K9 r5 i3 c5
   obtain ⟨c9,Z3,y3,L0,y4⟩:(PE b5 28 [vI 0,vI 0,vI 0,nS,nS]) (f6 2) (n4 19) g5:=i3 9 19 kR (by decide) kR kR
   have y5:=y4.lt
   have L1:∀ x∈(a1 :: (a0 :: [])),x∈(a1 :: (a0 :: []))∨(b5.heap.size≤x∧x<g5.heap.size):=fun x hx=>.inl hx
   have I4:∀ x∈(a1 :: (a0 :: [])),x∈(a1 :: (a0 :: [])):=fun x hx=>hx
   have L2:∀ x∈(a1 :: (a0 :: [])),x∈f6 1:=fun x hx=>p9 1 x hx
   have bd:∀ x∈(a1 :: (a0 :: [])),x∈f6 2:=fun x hx=>p9 2 x hx
   have y6:∀ x∈(c9 :: (a1 :: (a0 :: []))),x∈(a1 :: (a0 :: []))∨(b5.heap.size≤x∧x<g5.heap.size):=fun x hx=>by rcases List.mem_cons.1 hx with rfl|hx;exact .inr ⟨y3,y5⟩;exact L1 x hx
   have aX:∀ x∈(a1 :: (a0 :: [])),x∈(c9 :: (a1 :: (a0 :: []))):=fun x hx=>List.mem_cons_of_mem _ (I4 x hx)
   have y7:∀ x∈(c9 :: (a1 :: (a0 :: []))),x∈f6 1:=fun x hx=>by rcases List.mem_cons.1 hx with rfl|hx;exact r5 2 1 _ (by decide) y3 y5 L0;exact L2 x hx
   have Z4:=g3.adoptL n5 y6
   have g6:Mv (a1 :: (a0 :: [])) b5 (c9 :: (a1 :: (a0 :: []))) g5:=Mv.adoptL n5 y6
   have y8:FM a0 c9:=by show a0≠c9;have:=a7.lt;omega
   have y9:FM a1 c9:=by show a1≠c9;have:=a4.lt;omega
   obtain ⟨z0,Z5,q0⟩:∃ cs:List Value,n4 142 = .agg cs.toArray∧Enc.circle.rd g5 ((f6 1)++O) cs (kZ):=i3 6 142 kR (by decide) kR kR
   have q0:Enc.circle.rd g5 ((c9 :: (a1 :: (a0 :: [])))++O) z0 (kZ):=Enc.mv Enc.circle (x:=kZ) q0 (Mv.at_ y7)
   obtain ⟨t3,Z6,f7⟩:∃ v,n4 143=v∧AZ Enc.share g5 ((f6 1)++O) v ((AU CT (kL.take 2) ([(4:Int)]) (1:Int) ([])).2.1):=⟨_,rfl,i3 7 143 kR (by decide) kR kR⟩
   have:=f7.len_le
   have f7:=f7.mv (Mv.at_ y7)
   have a2:=a2.mv g6
   have a3:=a3.mv g6
   have b0:=b0.mv g6
   have a8:=a8.mv g6
   have a9:=a9.mv g6
   have a7:=a7.keep n5 (by simp)
   have a5:=a5.mv g6
   have a6:=a6.mv g6
   have a4:=a4.keep n5 (by simp)
   obtain ⟨F2,rfl⟩:=AM (F:=n4) [(1,vP (some ⟨a0,0,none⟩)),(3,b9),(5,vP (some ⟨a1,0,none⟩)),(6,c2),(11,vI ((BQ kA ((BS kC (1:Int)).2.1) kL).2)),(15,d7),(16,vI ((BQ CT ((BS kC (1:Int)).2.1) (kL.drop 1)).2)),(18,vI ((BQ CT ((BS kC (1:Int)).2.1) (((AE kC kL ([(4:UInt8)])).2.1).drop 1)).2)),(252,undef),(19,vP (some ⟨c9,0,none⟩)),(142,vA z0.toArray),(143,t3),(144,vI ((AU CT (kL.take 2) ([(4:Int)]) (1:Int) ([])).2.2))] ⟨c5 1 kR,c5 3 kR,c5 5 kR,c5 6 kR,c5 11 kR,c5 15 kR,c5 16 kR,c5 18 kR,c5 252 kR,Z3,Z5,Z6,i3 8 144 kR (by decide) kR kR,trivial⟩
   clear i3 c5 p9 K9 r5
   obtain ⟨t4,t5,rfl,i4,i5⟩:=q0
   have:=i4.len_le
   have:=i5.len_le
   refine BX (BG (vs:=[vI kZ.epoch,vI kZ.threshold,vI kZ.wait,t4,t5]) (.agg #[vI kZ.epoch,vI kZ.threshold,vI kZ.wait,t4,t5]) rfl rfl rfl BM (fun u hu=>by simp only [List.mem_cons,List.not_mem_nil,or_false] at hu;rcases hu with rfl|rfl|rfl|rfl|rfl <;> first|rfl|exact i4.oneCell|exact i5.oneCell) (by repeat (constructor)) y4 oT Z4 fun cc Z7 d8 G6 L3=>(?_))
   have a2:=a2.mv d8
   have a3:=a3.mv d8
   have b0:=b0.mv d8
   have i4:=i4.mv d8
   have i5:=i5.mv d8
   have f7:=f7.mv d8
   have a8:=a8.mv d8
   have a9:=a9.mv d8
   have a7:=a7.keep G6 (BF y8)
   have a5:=a5.mv d8
   have a6:=a6.mv d8
   have a4:=a4.keep G6 (BF y9)
   refine AA (AF (t3) rfl (AA (AF (vI ((AU CT (kL.take 2) ([(4:Int)]) (1:Int) ([])).2.2)) rfl (AH (AD (?_))))))
   exact ⟨c9,t4,t5,t3,(c9 :: (a1 :: (a0 :: []))),trivial,⟨_,BB _ ⟨rfl,rfl,rfl,rfl,rfl,rfl,rfl,rfl,rfl,rfl,(by rfl),rfl,trivial⟩⟩,Z7,(by rw [show kW=(AU CT (kL.take 2) ([(4:Int)]) (1:Int) ([])).2.1 from rfl];exact f7),a2,a3,b0,a8,a9,a7,(by (repeat (first|exact List.mem_cons_self|apply List.mem_cons_of_mem))),a5,a6,a4,(by (repeat (first|exact List.mem_cons_self|apply List.mem_cons_of_mem))),L3,i4,i5,(by repeat (constructor)),y8,y9⟩
  intro cx_ hcx_
  match cx_,hcx_ with
  | 0,_=>
   intro n6 g7 e7 n7 q1 L4 r6 i6 c6
   obtain ⟨d0,Z8,z1,L5,z2⟩:(PE b5 28 [vI 0,vI 0,vI 0,nS,nS]) (e7 2) (n6 19) g7:=i6 9 19 kR (by decide) kR kR
   have z3:=z2.lt
   have L6:∀ x∈(a1 :: (a0 :: [])),x∈(a1 :: (a0 :: []))∨(b5.heap.size≤x∧x<g7.heap.size):=fun x hx=>.inl hx
   have I5:∀ x∈(a1 :: (a0 :: [])),x∈(a1 :: (a0 :: [])):=fun x hx=>hx
   have L7:∀ x∈(a1 :: (a0 :: [])),x∈e7 1:=fun x hx=>q1 1 x hx
   have be:∀ x∈(a1 :: (a0 :: [])),x∈e7 2:=fun x hx=>q1 2 x hx
   have z4:∀ x∈(d0 :: (a1 :: (a0 :: []))),x∈(a1 :: (a0 :: []))∨(b5.heap.size≤x∧x<g7.heap.size):=fun x hx=>by rcases List.mem_cons.1 hx with rfl|hx;exact .inr ⟨z1,z3⟩;exact L6 x hx
   have aY:∀ x∈(a1 :: (a0 :: [])),x∈(d0 :: (a1 :: (a0 :: []))):=fun x hx=>List.mem_cons_of_mem _ (I5 x hx)
   have z5:∀ x∈(d0 :: (a1 :: (a0 :: []))),x∈e7 1:=fun x hx=>by rcases List.mem_cons.1 hx with rfl|hx;exact r6 2 1 _ (by decide) z1 z3 L5;exact L7 x hx
   have Z9:=g3.adoptL n7 z4
   have g8:Mv (a1 :: (a0 :: [])) b5 (d0 :: (a1 :: (a0 :: []))) g7:=Mv.adoptL n7 z4
   have z6:FM a0 d0:=by show a0≠d0;have:=a7.lt;omega
   have z7:FM a1 d0:=by show a1≠d0;have:=a4.lt;omega
   obtain ⟨L8,n9,aa,bf,f8⟩:(fun (vT:Value) (wT:World)=>∃ (xT0:List Value) (xT1:Value),vT = .tuple #[.agg xT0.toArray,xT1,vI ((AU CT (kL.take 2) ([(4:Int)]) (1:Int) ([])).2.2)]∧Enc.circle.rd wT ((e7 1)++O) xT0 (kZ)∧AZ Enc.share wT ((e7 1)++O) xT1 ((AU CT (kL.take 2) ([(4:Int)]) (1:Int) ([])).2.1)) (n6 136) g7:=i6 5 136 kR (by decide) kR kR
   have:=f8.len_le
   have f8:=f8.mv (Mv.at_ z5)
   obtain ⟨z8,ab,q2⟩:∃ cs:List Value,n6 142 = .agg cs.toArray∧Enc.circle.rd g7 ((e7 1)++O) cs (kZ):=i6 6 142 kR (by decide) kR kR
   have q2:Enc.circle.rd g7 ((d0 :: (a1 :: (a0 :: [])))++O) z8 (kZ):=Enc.mv Enc.circle (x:=kZ) q2 (Mv.at_ z5)
   have a2:=a2.mv g8
   have a3:=a3.mv g8
   have b0:=b0.mv g8
   have a8:=a8.mv g8
   have a9:=a9.mv g8
   have a7:=a7.keep n7 (by simp)
   have a5:=a5.mv g8
   have a6:=a6.mv g8
   have a4:=a4.keep n7 (by simp)
   obtain ⟨F2,rfl⟩:=AM (F:=n6) [(1,vP (some ⟨a0,0,none⟩)),(3,b9),(5,vP (some ⟨a1,0,none⟩)),(6,c2),(11,vI ((BQ kA ((BS kC (1:Int)).2.1) kL).2)),(15,d7),(16,vI ((BQ CT ((BS kC (1:Int)).2.1) (kL.drop 1)).2)),(18,vI ((BQ CT ((BS kC (1:Int)).2.1) (((AE kC kL ([(4:UInt8)])).2.1).drop 1)).2)),(252,undef),(19,vP (some ⟨d0,0,none⟩)),(136,vT #[vA L8.toArray,n9,vI ((AU CT (kL.take 2) ([(4:Int)]) (1:Int) ([])).2.2)]),(142,vA z8.toArray),(144,vI ((AU CT (kL.take 2) ([(4:Int)]) (1:Int) ([])).2.2))] ⟨c6 1 kR,c6 3 kR,c6 5 kR,c6 6 kR,c6 11 kR,c6 15 kR,c6 16 kR,c6 18 kR,c6 252 kR,Z8,aa,ab,i6 8 144 kR (by decide) kR kR,trivial⟩
   clear i6 c6 q1 L4 r6
   obtain ⟨t6,t7,rfl,i7,i8⟩:=q2
   have:=i7.len_le
   have:=i8.len_le
   refine BX (BG (vs:=[vI kZ.epoch,vI kZ.threshold,vI kZ.wait,t6,t7]) (.agg #[vI kZ.epoch,vI kZ.threshold,vI kZ.wait,t6,t7]) rfl rfl rfl BM (fun u hu=>by simp only [List.mem_cons,List.not_mem_nil,or_false] at hu;rcases hu with rfl|rfl|rfl|rfl|rfl <;> first|rfl|exact i7.oneCell|exact i8.oneCell) (by repeat (constructor)) z2 oT Z9 fun cd ac d9 G7 L9=>(?_))
   have a2:=a2.mv d9
   have a3:=a3.mv d9
   have b0:=b0.mv d9
   have f8:=f8.mv d9
   have i7:=i7.mv d9
   have i8:=i8.mv d9
   have a8:=a8.mv d9
   have a9:=a9.mv d9
   have a7:=a7.keep G7 (BF z6)
   have a5:=a5.mv d9
   have a6:=a6.mv d9
   have a4:=a4.keep G7 (BF z7)
   refine AA (AP (n9) rfl rfl (AA (AF (n9) rfl (AA (AF (vI ((AU CT (kL.take 2) ([(4:Int)]) (1:Int) ([])).2.2)) rfl (AH (AD (?_))))))))
   exact ⟨d0,t6,t7,n9,(d0 :: (a1 :: (a0 :: []))),trivial,⟨_,BB _ ⟨rfl,rfl,rfl,rfl,rfl,rfl,rfl,rfl,rfl,rfl,(by rfl),rfl,trivial⟩⟩,ac,(by rw [show kW=(AU CT (kL.take 2) ([(4:Int)]) (1:Int) ([])).2.1 from rfl];exact f8),a2,a3,b0,a8,a9,a7,(by (repeat (first|exact List.mem_cons_self|apply List.mem_cons_of_mem))),a5,a6,a4,(by (repeat (first|exact List.mem_cons_self|apply List.mem_cons_of_mem))),L9,i7,i8,(by repeat (constructor)),z6,z7⟩
  | 1,_=>
   intro m3 f2 e5 o0 q3 M0 r7 i9 c7
   obtain ⟨d1,ad,z9,M1,A0⟩:(PE b5 28 [vI 0,vI 0,vI 0,nS,nS]) (e5 2) (m3 19) f2:=i9 9 19 kR (by decide) kR kR
   have A1:=A0.lt
   have M2:∀ x∈(a1 :: (a0 :: [])),x∈(a1 :: (a0 :: []))∨(b5.heap.size≤x∧x<f2.heap.size):=fun x hx=>.inl hx
   have I6:∀ x∈(a1 :: (a0 :: [])),x∈(a1 :: (a0 :: [])):=fun x hx=>hx
   have M3:∀ x∈(a1 :: (a0 :: [])),x∈e5 1:=fun x hx=>q3 1 x hx
   have bg:∀ x∈(a1 :: (a0 :: [])),x∈e5 2:=fun x hx=>q3 2 x hx
   have A2:∀ x∈(d1 :: (a1 :: (a0 :: []))),x∈(a1 :: (a0 :: []))∨(b5.heap.size≤x∧x<f2.heap.size):=fun x hx=>by rcases List.mem_cons.1 hx with rfl|hx;exact .inr ⟨z9,A1⟩;exact M2 x hx
   have aZ:∀ x∈(a1 :: (a0 :: [])),x∈(d1 :: (a1 :: (a0 :: []))):=fun x hx=>List.mem_cons_of_mem _ (I6 x hx)
   have A3:∀ x∈(d1 :: (a1 :: (a0 :: []))),x∈e5 1:=fun x hx=>by rcases List.mem_cons.1 hx with rfl|hx;exact r7 2 1 _ (by decide) z9 A1 M1;exact M3 x hx
   have ae:=g3.adoptL o0 A2
   have g9:Mv (a1 :: (a0 :: [])) b5 (d1 :: (a1 :: (a0 :: []))) f2:=Mv.adoptL o0 A2
   have A4:FM a0 d1:=by show a0≠d1;have:=a7.lt;omega
   have A5:FM a1 d1:=by show a1≠d1;have:=a4.lt;omega
   obtain ⟨M4,af,ag,bh,M5⟩:(fun (vT:Value) (wT:World)=>∃ (xT0:List Value) (xT1:Value),vT = .tuple #[.agg xT0.toArray,xT1,vI ((AU CT (kL.take 2) ([(4:Int)]) (1:Int) ([])).2.2)]∧Enc.circle.rd wT ((e5 1)++O) xT0 (kZ)∧AZ Enc.share wT ((e5 1)++O) xT1 ((AU CT (kL.take 2) ([(4:Int)]) (1:Int) ([])).2.1)) (m3 136) f2:=i9 5 136 kR (by decide) kR kR
   have:=M5.len_le
   obtain ⟨A6,ah,q4⟩:∃ cs:List Value,m3 142 = .agg cs.toArray∧Enc.circle.rd f2 ((e5 1)++O) cs (kZ):=i9 6 142 kR (by decide) kR kR
   have q4:Enc.circle.rd f2 ((d1 :: (a1 :: (a0 :: [])))++O) A6 (kZ):=Enc.mv Enc.circle (x:=kZ) q4 (Mv.at_ A3)
   obtain ⟨t8,ai,f9⟩:∃ v,m3 143=v∧AZ Enc.share f2 ((e5 1)++O) v ((AU CT (kL.take 2) ([(4:Int)]) (1:Int) ([])).2.1):=⟨_,rfl,i9 7 143 kR (by decide) kR kR⟩
   have:=f9.len_le
   have f9:=f9.mv (Mv.at_ A3)
   have a2:=a2.mv g9
   have a3:=a3.mv g9
   have b0:=b0.mv g9
   have a8:=a8.mv g9
   have a9:=a9.mv g9
   have a7:=a7.keep o0 (by simp)
   have a5:=a5.mv g9
   have a6:=a6.mv g9
   have a4:=a4.keep o0 (by simp)
   obtain ⟨F2,rfl⟩:=AM (F:=m3) [(1,vP (some ⟨a0,0,none⟩)),(3,b9),(5,vP (some ⟨a1,0,none⟩)),(6,c2),(11,vI ((BQ kA ((BS kC (1:Int)).2.1) kL).2)),(15,d7),(16,vI ((BQ CT ((BS kC (1:Int)).2.1) (kL.drop 1)).2)),(18,vI ((BQ CT ((BS kC (1:Int)).2.1) (((AE kC kL ([(4:UInt8)])).2.1).drop 1)).2)),(252,undef),(19,vP (some ⟨d1,0,none⟩)),(136,vT #[vA M4.toArray,af,vI ((AU CT (kL.take 2) ([(4:Int)]) (1:Int) ([])).2.2)]),(142,vA A6.toArray),(143,t8)] ⟨c7 1 kR,c7 3 kR,c7 5 kR,c7 6 kR,c7 11 kR,c7 15 kR,c7 16 kR,c7 18 kR,c7 252 kR,ad,ag,ah,ai,trivial⟩
   clear i9 c7 q3 M0 r7
   obtain ⟨t9,u0,rfl,j0,j1⟩:=q4
   have:=j0.len_le
   have:=j1.len_le
   refine BX (BG (vs:=[vI kZ.epoch,vI kZ.threshold,vI kZ.wait,t9,u0]) (.agg #[vI kZ.epoch,vI kZ.threshold,vI kZ.wait,t9,u0]) rfl rfl rfl BM (fun u hu=>by simp only [List.mem_cons,List.not_mem_nil,or_false] at hu;rcases hu with rfl|rfl|rfl|rfl|rfl <;> first|rfl|exact j0.oneCell|exact j1.oneCell) (by repeat (constructor)) A0 oT ae fun ce aj e0 G8 M6=>(?_))
   have a2:=a2.mv e0
   have a3:=a3.mv e0
   have b0:=b0.mv e0
   have j0:=j0.mv e0
   have j1:=j1.mv e0
   have f9:=f9.mv e0
   have a8:=a8.mv e0
   have a9:=a9.mv e0
   have a7:=a7.keep G8 (BF A4)
   have a5:=a5.mv e0
   have a6:=a6.mv e0
   have a4:=a4.keep G8 (BF A5)
   refine AA (AP (vI ((AU CT (kL.take 2) ([(4:Int)]) (1:Int) ([])).2.2)) rfl rfl (AA (AF (t8) rfl (AA (AF (vI ((AU CT (kL.take 2) ([(4:Int)]) (1:Int) ([])).2.2)) rfl (AH (AD (?_))))))))
   exact ⟨d1,t9,u0,t8,(d1 :: (a1 :: (a0 :: []))),trivial,⟨_,BB _ ⟨rfl,rfl,rfl,rfl,rfl,rfl,rfl,rfl,rfl,rfl,(by rfl),rfl,trivial⟩⟩,aj,(by rw [show kW=(AU CT (kL.take 2) ([(4:Int)]) (1:Int) ([])).2.1 from rfl];exact f9),a2,a3,b0,a8,a9,a7,(by (repeat (first|exact List.mem_cons_self|apply List.mem_cons_of_mem))),a5,a6,a4,(by (repeat (first|exact List.mem_cons_self|apply List.mem_cons_of_mem))),M6,j0,j1,(by repeat (constructor)),A4,A5⟩
  | 2,_=>
   intro o1 h2 e8 o2 q5 M7 r8 m4 c8
   obtain ⟨d2,ak,A7,M8,A8⟩:(PE b5 28 [vI 0,vI 0,vI 0,nS,nS]) (e8 2) (o1 19) h2:=m4 9 19 kR (by decide) kR kR
   have A9:=A8.lt
   have M9:∀ x∈(a1 :: (a0 :: [])),x∈(a1 :: (a0 :: []))∨(b5.heap.size≤x∧x<h2.heap.size):=fun x hx=>.inl hx
   have I7:∀ x∈(a1 :: (a0 :: [])),x∈(a1 :: (a0 :: [])):=fun x hx=>hx
   have N0:∀ x∈(a1 :: (a0 :: [])),x∈e8 1:=fun x hx=>q5 1 x hx
   have bi:∀ x∈(a1 :: (a0 :: [])),x∈e8 2:=fun x hx=>q5 2 x hx
   have B0:∀ x∈(d2 :: (a1 :: (a0 :: []))),x∈(a1 :: (a0 :: []))∨(b5.heap.size≤x∧x<h2.heap.size):=fun x hx=>by rcases List.mem_cons.1 hx with rfl|hx;exact .inr ⟨A7,A9⟩;exact M9 x hx
   have ba:∀ x∈(a1 :: (a0 :: [])),x∈(d2 :: (a1 :: (a0 :: []))):=fun x hx=>List.mem_cons_of_mem _ (I7 x hx)
   have B1:∀ x∈(d2 :: (a1 :: (a0 :: []))),x∈e8 1:=fun x hx=>by rcases List.mem_cons.1 hx with rfl|hx;exact r8 2 1 _ (by decide) A7 A9 M8;exact N0 x hx
   have al:=g3.adoptL o2 B0
   have h3:Mv (a1 :: (a0 :: [])) b5 (d2 :: (a1 :: (a0 :: []))) h2:=Mv.adoptL o2 B0
   have B3:FM a0 d2:=by show a0≠d2;have:=a7.lt;omega
   have B4:FM a1 d2:=by show a1≠d2;have:=a4.lt;omega
   obtain ⟨N1,o3,am,bj,g0⟩:(fun (vT:Value) (wT:World)=>∃ (xT0:List Value) (xT1:Value),vT = .tuple #[.agg xT0.toArray,xT1,vI ((AU CT (kL.take 2) ([(4:Int)]) (1:Int) ([])).2.2)]∧Enc.circle.rd wT ((e8 1)++O) xT0 (kZ)∧AZ Enc.share wT ((e8 1)++O) xT1 ((AU CT (kL.take 2) ([(4:Int)]) (1:Int) ([])).2.1)) (o1 136) h2:=m4 5 136 kR (by decide) kR kR
   have:=g0.len_le
   have g0:=g0.mv (Mv.at_ B1)
   obtain ⟨B5,an,q6⟩:∃ cs:List Value,o1 142 = .agg cs.toArray∧Enc.circle.rd h2 ((e8 1)++O) cs (kZ):=m4 6 142 kR (by decide) kR kR
   have q6:Enc.circle.rd h2 ((d2 :: (a1 :: (a0 :: [])))++O) B5 (kZ):=Enc.mv Enc.circle (x:=kZ) q6 (Mv.at_ B1)
   have a2:=a2.mv h3
   have a3:=a3.mv h3
   have b0:=b0.mv h3
   have a8:=a8.mv h3
   have a9:=a9.mv h3
   have a7:=a7.keep o2 (by simp)
   have a5:=a5.mv h3
   have a6:=a6.mv h3
   have a4:=a4.keep o2 (by simp)
   obtain ⟨F2,rfl⟩:=AM (F:=o1) [(1,vP (some ⟨a0,0,none⟩)),(3,b9),(5,vP (some ⟨a1,0,none⟩)),(6,c2),(11,vI ((BQ kA ((BS kC (1:Int)).2.1) kL).2)),(15,d7),(16,vI ((BQ CT ((BS kC (1:Int)).2.1) (kL.drop 1)).2)),(18,vI ((BQ CT ((BS kC (1:Int)).2.1) (((AE kC kL ([(4:UInt8)])).2.1).drop 1)).2)),(252,undef),(19,vP (some ⟨d2,0,none⟩)),(136,vT #[vA N1.toArray,o3,vI ((AU CT (kL.take 2) ([(4:Int)]) (1:Int) ([])).2.2)]),(142,vA B5.toArray)] ⟨c8 1 kR,c8 3 kR,c8 5 kR,c8 6 kR,c8 11 kR,c8 15 kR,c8 16 kR,c8 18 kR,c8 252 kR,ak,am,an,trivial⟩
   clear m4 c8 q5 M7 r8
   obtain ⟨u1,u2,rfl,j2,j3⟩:=q6
   have:=j2.len_le
   have:=j3.len_le
   refine BX (BG (vs:=[vI kZ.epoch,vI kZ.threshold,vI kZ.wait,u1,u2]) (.agg #[vI kZ.epoch,vI kZ.threshold,vI kZ.wait,u1,u2]) rfl rfl rfl BM (fun u hu=>by simp only [List.mem_cons,List.not_mem_nil,or_false] at hu;rcases hu with rfl|rfl|rfl|rfl|rfl <;> first|rfl|exact j2.oneCell|exact j3.oneCell) (by repeat (constructor)) A8 oT al fun cf ao e1 G9 N2=>(?_))
   have a2:=a2.mv e1
   have a3:=a3.mv e1
   have b0:=b0.mv e1
   have g0:=g0.mv e1
   have j2:=j2.mv e1
   have j3:=j3.mv e1
   have a8:=a8.mv e1
   have a9:=a9.mv e1
   have a7:=a7.keep G9 (BF B3)
   have a5:=a5.mv e1
   have a6:=a6.mv e1
   have a4:=a4.keep G9 (BF B4)
   refine AA (AP (o3) rfl rfl (AA (AP (vI ((AU CT (kL.take 2) ([(4:Int)]) (1:Int) ([])).2.2)) rfl rfl (AA (AF (o3) rfl (AA (AF (vI ((AU CT (kL.take 2) ([(4:Int)]) (1:Int) ([])).2.2)) rfl (AH (AD (?_))))))))))
   exact ⟨d2,u1,u2,o3,(d2 :: (a1 :: (a0 :: []))),trivial,⟨_,BB _ ⟨rfl,rfl,rfl,rfl,rfl,rfl,rfl,rfl,rfl,rfl,(by rfl),rfl,trivial⟩⟩,ao,(by rw [show kW=(AU CT (kL.take 2) ([(4:Int)]) (1:Int) ([])).2.1 from rfl];exact g0),a2,a3,b0,a8,a9,a7,(by (repeat (first|exact List.mem_cons_self|apply List.mem_cons_of_mem))),a5,a6,a4,(by (repeat (first|exact List.mem_cons_self|apply List.mem_cons_of_mem))),N2,j2,j3,(by repeat (constructor)),B3,B4⟩
 intro F N3 hI
 clear a2 a3 b0 a8 a9 a7 a5 a6 a4
 obtain ⟨c4,f4,f5,d3,b2,bk,⟨bm,rfl⟩,B6,b3,a2,a3,b0,a8,a9,a7,aV,a5,a6,a4,aW,b1,q7,q8,I8,D3,D4⟩:=hI
 have:=b3.len_le
 have:=q7.len_le
 have:=q8.len_le
 refine AI (AC kR (AA (EC (l:=[]) RW LC rfl [] [vI 0,vI 0,vI 0,nS,nS] rfl rfl (AA (BD (vs:=[vA #[vI 0,vI 0,vI 0,nS,nS],nS,nS]) MM (RP (O:=b2++O) [vI 0,vI 0,vI 0,nS,nS] (⟨(0:Int),(0:Int),(0:Int),[],[]⟩:Circle) (.slice none 0 0) [] (.slice none 0 0) [] N3 ⟨.slice none 0 0, .slice none 0 0,rfl,(AZ.nil _ _ _),(AZ.nil _ _ _)⟩ (AZ.nil _ _ _) (AZ.nil _ _ _) B6.lt) rfl B6 fun cg ap H0 f3 u3 aq=>(?_))))))
 obtain ⟨u4,rfl,N4⟩:=aq
 have:=N4.len_le
 have a2:=a2.mv f3
 have a3:=a3.mv f3
 have b0:=b0.mv f3
 have b3:=b3.mv f3
 have a8:=a8.mv f3
 have a9:=a9.mv f3
 have a7:=a7.keep u3 (by simp)
 have a5:=a5.mv f3
 have a6:=a6.mv f3
 have a4:=a4.keep u3 (by simp)
 have b1:=b1.keep u3 (by simp)
 refine AA (AG (vT #[u4,vI ((AB (⟨(0:Int),(0:Int),(0:Int),[],[]⟩:Circle) ([]) ([])).2)]) rfl (AA (AP (u4) rfl rfl (AA (AP (vI ((AB (⟨(0:Int),(0:Int),(0:Int),[],[]⟩:Circle) ([]) ([])).2)) rfl rfl (AA (AF (u4) rfl (AA (AF (vI ((AB (⟨(0:Int),(0:Int),(0:Int),[],[]⟩:Circle) ([]) ([])).2)) rfl (AH (AD (AI (AC kR (AA (BP (vs:=[vI CT.epoch,vI CT.threshold,vI CT.wait,c0,c1]) U28_ rfl BM rfl a7 rfl (AA (BD (vs:=[vA #[vI CT.epoch,vI CT.threshold,vI CT.wait,c0,c1],nS,nS]) QQ (SN (O:=b2++O) [vI CT.epoch,vI CT.threshold,vI CT.wait,c0,c1] CT (.slice none 0 0) [] (.slice none 0 0) [] ap ⟨_,_,rfl,a8,a9⟩ (AZ.nil _ _ _) (AZ.nil _ _ _) H0.lt) rfl H0 fun ch ci ar k4 u5 au=>(?_))))))))))))))))))
 obtain ⟨q9,u6,rfl,r0,N5⟩:=au
 have:=N5.len_le
 have a2:=a2.mv k4
 have a3:=a3.mv k4
 have b0:=b0.mv k4
 have b3:=b3.mv k4
 have a7:=a7.keep u5 (by simp)
 have a5:=a5.mv k4
 have a6:=a6.mv k4
 have a4:=a4.keep u5 (by simp)
 have b1:=b1.keep u5 (by simp)
 refine AA (AG (vT #[vA q9.toArray,u6,vI ((AE CT ([]) ([])).2.2)]) rfl (AA (AP (vA q9.toArray) rfl rfl (AA (AP (u6) rfl rfl (AA (AP (vI ((AE CT ([]) ([])).2.2)) rfl rfl (AA (CU [vI 0,vI 0,vI 0,nS,nS] LC rfl ar fun b4 av aw ax h4 H1 N6=>(?_))))))))))
 have bn:FM a0 b4:=by show a0≠b4;have:=a7.lt;omega
 have N7:FM a1 b4:=by show a1≠b4;have:=a4.lt;omega
 have N8:FM c4 b4:=by show c4≠b4;have:=b1.lt;omega
 clear aw
 have a2:=a2.mv h4
 have a3:=a3.mv h4
 have b0:=b0.mv h4
 have b3:=b3.mv h4
 have r0:Enc.circle.rd av ((b4 :: b2)++O) q9 ((AE CT ([]) ([])).1):=Enc.mv Enc.circle (x:=(AE CT ([]) ([])).1) r0 h4
 have a5:=a5.mv h4
 have a6:=a6.mv h4
 have a4:=a4.keep H1 (by simp)
 have b1:=b1.keep H1 (by simp)
 obtain ⟨H2,H3,rfl,B7,B8⟩:=r0
 have:=B7.len_le
 have:=B8.len_le
 refine BX (BG (vs:=[vI (((AE CT ([]) ([])).1).epoch),vI (((AE CT ([]) ([])).1).threshold),vI (((AE CT ([]) ([])).1).wait),H2,H3]) (.agg #[vI (((AE CT ([]) ([])).1).epoch),vI (((AE CT ([]) ([])).1).threshold),vI (((AE CT ([]) ([])).1).wait),H2,H3]) rfl rfl rfl BM (fun u hu=>by simp only [List.mem_cons,List.not_mem_nil,or_false] at hu;rcases hu with rfl|rfl|rfl|rfl|rfl <;> first|rfl|exact B7.oneCell|exact B8.oneCell) (by repeat (constructor)) N6 oT ax fun ay H4 k5 H5 bo=>(?_))
 have a2:=a2.mv k5
 have a3:=a3.mv k5
 have b0:=b0.mv k5
 have b3:=b3.mv k5
 have a5:=a5.mv k5
 have a6:=a6.mv k5
 have a4:=a4.keep H5 (BF N7)
 have b1:=b1.keep H5 (BF N8)
 refine AA (AF (u6) rfl (AA (AF (vI ((AE CT ([]) ([])).2.2)) rfl (AH (AD (AI (AC kR (AA (BP (vs:=[vI kX.epoch,vI kX.threshold,vI kX.wait,g1,g2]) U28_ rfl BM rfl a4 rfl (AA (AG (c2) rfl (AA (BD (vs:=[vA #[vI kX.epoch,vI kX.threshold,vI kX.wait,g1,g2],vI 0,c2]) QS (c_rest (O:=(b4 :: b2)++O) [vI kX.epoch,vI kX.threshold,vI kX.wait,g1,g2] kX (0:Int) c2 ((AE kC kL ([(4:UInt8)])).2.1) ay ⟨_,_,rfl,a5,a6⟩ a3 H4.lt) rfl H4 fun cj az H6 o4 H7 aA=>(?_))))))))))))))
 obtain ⟨u7,rfl,N9⟩:=aA
 have:=N9.len_le
 have a2:=a2.mv o4
 have a3:=a3.mv o4
 have b0:=b0.mv o4
 have b3:=b3.mv o4
 have a4:=a4.keep H7 (by simp)
 have b1:=b1.keep H7 (by simp)
 refine AA (AG (vT #[u7,vI ((BQ kX (0:Int) ((AE kC kL ([(4:UInt8)])).2.1)).2)]) rfl (AA (AP (u7) rfl rfl (AA (AP (vI ((BQ kX (0:Int) ((AE kC kL ([(4:UInt8)])).2.1)).2)) rfl rfl (AA (AF (u7) rfl (AA (AF (vI ((BQ kX (0:Int) ((AE kC kL ([(4:UInt8)])).2.1)).2)) rfl (AH (AD (AI (AC kR (AA (BD (vs:=[nS,nS,nS]) SP (c_mixed (O:=(b4 :: b2)++O) (.slice none 0 0) [] (.slice none 0 0) [] (.slice none 0 0) [] az (AZ.nil _ _ _) (AZ.nil _ _ _) (AZ.nil _ _ _) H6.lt) rfl H6 fun cm h5 u9 o5 H8 aB=>(?_))))))))))))))))
 obtain ⟨v0,rfl,O0⟩:=aB
 have:=O0.len_le
 have a2:=a2.mv o5
 have a3:=a3.mv o5
 have b0:=b0.mv o5
 have b3:=b3.mv o5
 have a4:=a4.keep H8 (by simp)
 have b1:=b1.keep H8 (by simp)
 refine AA (AG (vT #[v0,vI ((AL ([]) ([]) ([])).2)]) rfl (AA (AP (v0) rfl rfl (AA (AP (vI ((AL ([]) ([]) ([])).2)) rfl rfl (AA (AF (v0) rfl (AA (AF (vI ((AL ([]) ([]) ([])).2)) rfl (AH (AD (AI (cw_draw' 10 _ _ [fun (vT:Value) (wT:World)=>AZ Enc.share wT ((b4 :: b2)++O) vT (kL),fun (vT:Value) (wT:World)=>AZ Enc.share wT ((b4 :: b2)++O) vT ((kL.take 1)),fun (vT:Value) (wT:World)=>AZ Enc.share wT ((b4 :: b2)++O) vT ((AE kC kL ([(4:UInt8)])).2.1),fun (vT:Value) (wT:World)=>AZ Enc.share wT ((b4 :: b2)++O) vT ((((AE kC kL ([(4:UInt8)])).2.1).drop 2)),fun (vT:Value) (wT:World)=>AZ Enc.u8 wT ((b4 :: b2)++O) vT ([(200:UInt8)]),fun (vT:Value) (wT:World)=>∃ (xT0:Value),vT = .tuple #[xT0,vI ((AL (kL.take 1) (((AE kC kL ([(4:UInt8)])).2.1).drop 2) ([(200:UInt8)])).2)]∧AZ Enc.u8 wT ((b4 :: b2)++O) xT0 ((AL (kL.take 1) (((AE kC kL ([(4:UInt8)])).2.1).drop 2) ([(200:UInt8)])).1),fun (vT:Value) (wT:World)=>∃ (xT0:Value),vT = .tuple #[xT0,vI ((AL (kL.take 1) (((AE kC kL ([(4:UInt8)])).2.1).drop 2) ([(200:UInt8)])).2)]∧AZ Enc.u8 wT ((b4 :: b2)++O) xT0 ((AL (kL.take 1) (((AE kC kL ([(4:UInt8)])).2.1).drop 2) ([(200:UInt8)])).1),fun (vT:Value) (wT:World)=>AZ Enc.u8 wT ((b4 :: b2)++O) vT ((AL (kL.take 1) (((AE kC kL ([(4:UInt8)])).2.1).drop 2) ([(200:UInt8)])).1),DB (vI ((AL (kL.take 1) (((AE kC kL ([(4:UInt8)])).2.1).drop 2) ([(200:UInt8)])).2)),fun (vT:Value) (wT:World)=>AZ Enc.u8 wT ((b4 :: b2)++O) vT ((AL (kL.take 1) (((AE kC kL ([(4:UInt8)])).2.1).drop 2) ([(200:UInt8)])).1)] kR kR kR kR rfl rfl ⟨fun _ _ _ h k=>h.mv (Mv.of_keep k),fun _ _ _ h k=>h.mv (Mv.of_keep k),fun _ _ _ h k=>h.mv (Mv.of_keep k),fun _ _ _ h k=>h.mv (Mv.of_keep k),fun _ _ _ h k=>h.mv (Mv.of_keep k),fun _ _ _ ⟨y0,e,h0⟩ k=>⟨y0,e,h0.mv (Mv.of_keep k)⟩,fun _ _ _ ⟨y0,e,h0⟩ k=>⟨y0,e,h0.mv (Mv.of_keep k)⟩,fun _ _ _ h k=>h.mv (Mv.of_keep k),kI,fun _ _ _ h k=>h.mv (Mv.of_keep k),trivial⟩ ⟨?_,?_,?_,?_,?_,?_,?_,?_,?_,?_,trivial⟩ ?_)))))))))))))
 ·intro F1 w1 k1 hf hd
  have k0:=(Keep.drew [] h5).trans k1
  have m1:Mv (b4 :: b2) h5 (b4 :: b2) w1:=Mv.of_keep k0
  have a2:=a2.mv m1
  obtain ⟨F2,rfl⟩:=AM (F:=F1) [(3,b9)] ⟨hf 3 kR,trivial⟩
  exact AK rfl ((AG (b9) rfl (⟨(Keep.refl _ _),a2⟩)))
 ·intro F1 w1 k1 hf hd
  obtain ⟨aC,aD,B9⟩:∃ v,F1 167=v∧AZ Enc.share w1 ((b4 :: b2)++O) v (kL):=⟨_,rfl,hd 0 167 kR⟩
  have:=B9.len_le
  obtain ⟨F2,rfl⟩:=AM (F:=F1) [(167,aC)] ⟨aD,trivial⟩
  refine AK rfl ((MK U32_ DC 0 1 rfl (.inl ⟨rfl,rfl⟩) (.inr ⟨.const (vI 1), .i64,(1:Int),rfl,rfl,rfl⟩) (by decide +kernel) (by decide +kernel) B9 fun cn C0=>(?_)))
  rw [List.drop_zero] at C0
  exact ⟨(Keep.refl _ _),C0⟩
 ·intro F1 w1 k1 hf hd
  have k0:=(Keep.drew [] h5).trans k1
  have m1:Mv (b4 :: b2) h5 (b4 :: b2) w1:=Mv.of_keep k0
  have a3:=a3.mv m1
  obtain ⟨F2,rfl⟩:=AM (F:=F1) [(6,c2)] ⟨hf 6 kR,trivial⟩
  exact AK rfl ((AG (c2) rfl (⟨(Keep.refl _ _),a3⟩)))
 ·intro F1 w1 k1 hf hd
  obtain ⟨aE,aF,C1⟩:∃ v,F1 169=v∧AZ Enc.share w1 ((b4 :: b2)++O) v ((AE kC kL ([(4:UInt8)])).2.1):=⟨_,rfl,hd 2 169 kR⟩
  have:=C1.len_le
  obtain ⟨F2,rfl⟩:=AM (F:=F1) [(169,aE)] ⟨aF,trivial⟩
  refine AK rfl ((MK U32_ DC 2 (((AE kC kL ([(4:UInt8)])).2.1).length) rfl (.inr ⟨.const (vI 2), .i64,(2:Int),rfl,rfl,rfl⟩) (.inl ⟨rfl,rfl⟩) (by decide +kernel) (by decide +kernel) C1 fun co C2=>(?_)))
  rw [List.take_length] at C2
  exact ⟨(Keep.refl _ _),C2⟩
 ·intro F1 w1 k1 hf hd
  have k0:=(Keep.drew [] h5).trans k1
  have s1:=u9.call k0
  obtain ⟨F2,rfl⟩:=AM (F:=F1) [] trivial
  refine AK rfl ((JI (E:=Enc.u8) (xs:=[.const (vB (200:UInt8))]) U23_ IR z_5 (by decide) [vB (200:UInt8)] [[vB (200:UInt8)]] [(200:UInt8)] rfl rfl rfl (Parts.cons rfl rfl (Parts.nil _ _ _)) oT s1 fun cp cq cr ct aG C3=>(?_)))
  have:=C3.len_le
  exact ⟨aG,C3⟩
 ·intro F1 w1 k1 hf hd
  have k0:=(Keep.drew [] h5).trans k1
  have s1:=u9.call k0
  obtain ⟨v1,aH,C4⟩:∃ v,F1 168=v∧AZ Enc.share w1 ((b4 :: b2)++O) v ((kL.take 1)):=⟨_,rfl,hd 1 168 kR⟩
  have:=C4.len_le
  obtain ⟨v2,aI,C5⟩:∃ v,F1 170=v∧AZ Enc.share w1 ((b4 :: b2)++O) v ((((AE kC kL ([(4:UInt8)])).2.1).drop 2)):=⟨_,rfl,hd 3 170 kR⟩
  have:=C5.len_le
  obtain ⟨v3,aJ,C6⟩:∃ v,F1 171=v∧AZ Enc.u8 w1 ((b4 :: b2)++O) v ([(200:UInt8)]):=⟨_,rfl,hd 4 171 kR⟩
  have:=C6.len_le
  obtain ⟨F2,rfl⟩:=AM (F:=F1) [(168,v1),(170,v2),(171,v3)] ⟨aH,aI,aJ,trivial⟩
  refine AK rfl ((BD (vs:=[v1,v2,v3]) SP (c_mixed (O:=(b4 :: b2)++O) v1 (kL.take 1) v2 (((AE kC kL ([(4:UInt8)])).2.1).drop 2) v3 ([(200:UInt8)]) w1 C4 C5 C6 s1.lt) rfl s1 fun cu cv cw cx aK aL=>(?_)))
  obtain ⟨aM,rfl,C7⟩:=aL
  have:=C7.len_le
  exact ⟨aK,⟨aM,rfl,C7⟩⟩
 ·intro F1 w1 k1 hf hd
  obtain ⟨v4,aN,C8⟩:(fun (vT:Value) (wT:World)=>∃ (xT0:Value),vT = .tuple #[xT0,vI ((AL (kL.take 1) (((AE kC kL ([(4:UInt8)])).2.1).drop 2) ([(200:UInt8)])).2)]∧AZ Enc.u8 wT ((b4 :: b2)++O) xT0 ((AL (kL.take 1) (((AE kC kL ([(4:UInt8)])).2.1).drop 2) ([(200:UInt8)])).1)) (F1 172) w1:=hd 5 172 kR
  have:=C8.len_le
  obtain ⟨F2,rfl⟩:=AM (F:=F1) [(172,vT #[v4,vI ((AL (kL.take 1) (((AE kC kL ([(4:UInt8)])).2.1).drop 2) ([(200:UInt8)])).2)])] ⟨aN,trivial⟩
  exact AK rfl ((AG (vT #[v4,vI ((AL (kL.take 1) (((AE kC kL ([(4:UInt8)])).2.1).drop 2) ([(200:UInt8)])).2)]) rfl (⟨(Keep.refl _ _),⟨v4,rfl,C8⟩⟩)))
 ·intro F1 w1 k1 hf hd
  obtain ⟨H9,aO,C9⟩:(fun (vT:Value) (wT:World)=>∃ (xT0:Value),vT = .tuple #[xT0,vI ((AL (kL.take 1) (((AE kC kL ([(4:UInt8)])).2.1).drop 2) ([(200:UInt8)])).2)]∧AZ Enc.u8 wT ((b4 :: b2)++O) xT0 ((AL (kL.take 1) (((AE kC kL ([(4:UInt8)])).2.1).drop 2) ([(200:UInt8)])).1)) (F1 166) w1:=hd 6 166 kR
  have:=C9.len_le
  obtain ⟨F2,rfl⟩:=AM (F:=F1) [(166,vT #[H9,vI ((AL (kL.take 1) (((AE kC kL ([(4:UInt8)])).2.1).drop 2) ([(200:UInt8)])).2)])] ⟨aO,trivial⟩
  exact AK rfl ((AP (H9) rfl rfl (⟨(Keep.refl _ _),C9⟩)))
 ·intro F1 w1 k1 hf hd
  obtain ⟨aP,aQ,O1⟩:(fun (vT:Value) (wT:World)=>∃ (xT0:Value),vT = .tuple #[xT0,vI ((AL (kL.take 1) (((AE kC kL ([(4:UInt8)])).2.1).drop 2) ([(200:UInt8)])).2)]∧AZ Enc.u8 wT ((b4 :: b2)++O) xT0 ((AL (kL.take 1) (((AE kC kL ([(4:UInt8)])).2.1).drop 2) ([(200:UInt8)])).1)) (F1 166) w1:=hd 6 166 kR
  have:=O1.len_le
  obtain ⟨F2,rfl⟩:=AM (F:=F1) [(166,vT #[aP,vI ((AL (kL.take 1) (((AE kC kL ([(4:UInt8)])).2.1).drop 2) ([(200:UInt8)])).2)])] ⟨aQ,trivial⟩
  exact AK rfl ((AP (vI ((AL (kL.take 1) (((AE kC kL ([(4:UInt8)])).2.1).drop 2) ([(200:UInt8)])).2)) rfl rfl (⟨(Keep.refl _ _),rfl⟩)))
 ·intro F1 w1 k1 hf hd
  obtain ⟨I0,aR,D0⟩:∃ v,F1 173=v∧AZ Enc.u8 w1 ((b4 :: b2)++O) v ((AL (kL.take 1) (((AE kC kL ([(4:UInt8)])).2.1).drop 2) ([(200:UInt8)])).1):=⟨_,rfl,hd 7 173 kR⟩
  have:=D0.len_le
  obtain ⟨F2,rfl⟩:=AM (F:=F1) [(173,I0)] ⟨aR,trivial⟩
  exact AK rfl ((AF (I0) rfl (⟨(Keep.refl _ _),D0⟩)))
 intro I1 I2 o6 r4 c3
 have aT:=u9.call o6
 have v5:Mv (b4 :: b2) h5 (b4 :: b2) I2:=Mv.of_keep o6
 have a3:=a3.mv v5
 have b0:=b0.mv v5
 have b3:=b3.mv v5
 have a4:=a4.keep o6 (by simp)
 have b1:=b1.keep o6 (by simp)
 obtain ⟨I3,aU,D1⟩:∃ v,I1 31=v∧AZ Enc.u8 I2 ((b4 :: b2)++O) v ((AL (kL.take 1) (((AE kC kL ([(4:UInt8)])).2.1).drop 2) ([(200:UInt8)])).1):=⟨_,rfl,r4 9 31 kR (by decide)⟩
 have:=D1.len_le
 obtain ⟨F2,rfl⟩:=AM (F:=I1) [(5,vP (some ⟨a1,0,none⟩)),(6,c2),(11,vI ((BQ kA ((BS kC (1:Int)).2.1) kL).2)),(15,d7),(16,vI ((BQ CT ((BS kC (1:Int)).2.1) (kL.drop 1)).2)),(18,vI ((BQ CT ((BS kC (1:Int)).2.1) (((AE kC kL ([(4:UInt8)])).2.1).drop 1)).2)),(19,vP (some ⟨c4,0,none⟩)),(20,d3),(21,vI kE),(23,vI ((AB (⟨(0:Int),(0:Int),(0:Int),[],[]⟩:Circle) ([]) ([])).2)),(26,vI ((AE CT ([]) ([])).2.2)),(28,vI ((BQ kX (0:Int) ((AE kC kL ([(4:UInt8)])).2.1)).2)),(30,vI ((AL ([]) ([]) ([])).2)),(252,undef),(31,I3),(174,vI ((AL (kL.take 1) (((AE kC kL ([(4:UInt8)])).2.1).drop 2) ([(200:UInt8)])).2))] ⟨c3 5 kR,c3 6 kR,c3 11 kR,c3 15 kR,c3 16 kR,c3 18 kR,c3 19 kR,c3 20 kR,c3 21 kR,c3 23 kR,c3 26 kR,c3 28 kR,c3 30 kR,c3 252 kR,aU,r4 8 174 kR (by decide),trivial⟩
 clear r4 c3
 refine AA (AF (vI ((AL (kL.take 1) (((AE kC kL ([(4:UInt8)])).2.1).drop 2) ([(200:UInt8)])).2)) rfl (AH (AD (AI (AI (AC kR (AA (AG (vI ((BQ CT ((BS kC (1:Int)).2.1) (kL.drop 1)).2)) rfl (AA (CS .i64 ((BQ CT ((BS kC (1:Int)).2.1) (kL.drop 1)).2) (0:Int) rfl rfl (AA (AG (vO (((BQ CT ((BS kC (1:Int)).2.1) (kL.drop 1)).2) != (0:Int))) rfl (?_)))))))))))))
 have O2:(((BQ CT ((BS kC (1:Int)).2.1) (kL.drop 1)).2) != (0:Int))=false:=(by decide +kernel)
 rw [O2]
 refine AY rfl (AG (vI ((BQ CT ((BS kC (1:Int)).2.1) (((AE kC kL ([(4:UInt8)])).2.1).drop 1)).2)) rfl (AY rfl (CS .i64 ((BQ CT ((BS kC (1:Int)).2.1) (((AE kC kL ([(4:UInt8)])).2.1).drop 1)).2) (460:Int) rfl rfl (AA (BR (vO (((BQ CT ((BS kC (1:Int)).2.1) (((AE kC kL ([(4:UInt8)])).2.1).drop 1)).2) != (460:Int))) rfl rfl (AA (AG (vO (((BQ CT ((BS kC (1:Int)).2.1) (((AE kC kL ([(4:UInt8)])).2.1).drop 1)).2) != (460:Int))) rfl (?_))))))))
 have O3:(((BQ CT ((BS kC (1:Int)).2.1) (((AE kC kL ([(4:UInt8)])).2.1).drop 1)).2) != (460:Int))=false:=(by decide +kernel)
 rw [O3]
 refine AY rfl (AG (vI kE) rfl (AY rfl (CS .i64 kE (0:Int) rfl rfl (AA (BR (vO (kE != (0:Int))) rfl rfl (AA (AG (vO (kE != (0:Int))) rfl (?_))))))))
 have O4:(kE != (0:Int))=false:=(by decide +kernel)
 rw [O4]
 refine AY rfl (AG (vI ((AB (⟨(0:Int),(0:Int),(0:Int),[],[]⟩:Circle) ([]) ([])).2)) rfl (AY rfl (CS .i64 ((AB (⟨(0:Int),(0:Int),(0:Int),[],[]⟩:Circle) ([]) ([])).2) (450:Int) rfl rfl (AA (BR (vO (((AB (⟨(0:Int),(0:Int),(0:Int),[],[]⟩:Circle) ([]) ([])).2) != (450:Int))) rfl rfl (AA (AG (vO (((AB (⟨(0:Int),(0:Int),(0:Int),[],[]⟩:Circle) ([]) ([])).2) != (450:Int))) rfl (?_))))))))
 have O5:(((AB (⟨(0:Int),(0:Int),(0:Int),[],[]⟩:Circle) ([]) ([])).2) != (450:Int))=false:=(by decide +kernel)
 rw [O5]
 refine AY rfl (AG (vI ((AE CT ([]) ([])).2.2)) rfl (AY rfl (CS .i64 ((AE CT ([]) ([])).2.2) (80:Int) rfl rfl (AA (BR (vO (((AE CT ([]) ([])).2.2) != (80:Int))) rfl rfl (AA (AG (vO (((AE CT ([]) ([])).2.2) != (80:Int))) rfl (?_))))))))
 have O6:(((AE CT ([]) ([])).2.2) != (80:Int))=false:=(by decide +kernel)
 rw [O6]
 refine AY rfl (AG (vI ((BQ kX (0:Int) ((AE kC kL ([(4:UInt8)])).2.1)).2)) rfl (AY rfl (CS .i64 ((BQ kX (0:Int) ((AE kC kL ([(4:UInt8)])).2.1)).2) (1:Int) rfl rfl (AA (BR (vO (((BQ kX (0:Int) ((AE kC kL ([(4:UInt8)])).2.1)).2) != (1:Int))) rfl rfl (AA (AG (vO (((BQ kX (0:Int) ((AE kC kL ([(4:UInt8)])).2.1)).2) != (1:Int))) rfl (?_))))))))
 have O7:(((BQ kX (0:Int) ((AE kC kL ([(4:UInt8)])).2.1)).2) != (1:Int))=false:=(by decide +kernel)
 rw [O7]
 refine AY rfl (AG (vI ((AL ([]) ([]) ([])).2)) rfl (AY rfl (CS .i64 ((AL ([]) ([]) ([])).2) (80:Int) rfl rfl (AA (BR (vO (((AL ([]) ([]) ([])).2) != (80:Int))) rfl rfl (AA (AG (vO (((AL ([]) ([]) ([])).2) != (80:Int))) rfl (?_))))))))
 have O8:(((AL ([]) ([]) ([])).2) != (80:Int))=false:=(by decide +kernel)
 rw [O8]
 refine AY rfl (AG (vI ((AL (kL.take 1) (((AE kC kL ([(4:UInt8)])).2.1).drop 2) ([(200:UInt8)])).2)) rfl (AY rfl (CS .i64 ((AL (kL.take 1) (((AE kC kL ([(4:UInt8)])).2.1).drop 2) ([(200:UInt8)])).2) (0:Int) rfl rfl (AA (BR (vO (((AL (kL.take 1) (((AE kC kL ([(4:UInt8)])).2.1).drop 2) ([(200:UInt8)])).2) != (0:Int))) rfl rfl (AA (AG (vO (((AL (kL.take 1) (((AE kC kL ([(4:UInt8)])).2.1).drop 2) ([(200:UInt8)])).2) != (0:Int))) rfl (?_))))))))
 have O9:(((AL (kL.take 1) (((AE kC kL ([(4:UInt8)])).2.1).drop 2) ([(200:UInt8)])).2) != (0:Int))=false:=(by decide +kernel)
 rw [O9]
 refine AY rfl (AG (vI ((BQ kA ((BS kC (1:Int)).2.1) kL).2)) rfl (AY rfl (CS .i64 ((BQ kA ((BS kC (1:Int)).2.1) kL).2) (460:Int) rfl rfl (AA (BR (vO (((BQ kA ((BS kC (1:Int)).2.1) kL).2) != (460:Int))) rfl rfl (AA (AG (vO (((BQ kA ((BS kC (1:Int)).2.1) kL).2) != (460:Int))) rfl (?_))))))))
 have P0:(((BQ kA ((BS kC (1:Int)).2.1) kL).2) != (460:Int))=false:=(by decide +kernel)
 rw [P0]
 refine AY rfl (AG (d3) rfl (AY rfl (CB U32_ rfl b3 (AY rfl (CS .i64 (kW.length:Int) (1:Int) rfl rfl (AA (BR (vO ((kW.length:Int) != (1:Int))) rfl rfl (AH (AD (?_))))))))))
 have P1:((kW.length:Int) != (1:Int))=false:=(by decide +kernel)
 rw [P1]
 refine AN false rfl rfl (fun h=>by cases h) (fun _=>AW (AD (AI (AC kR (AA (AG (d7) rfl (AA (SG U23_ U5_ U9_ rfl b0 (AA (o_eqlS ((BQ CT ((BS kC (1:Int)).2.1) (kL.drop 1)).1) ([7]:List UInt8) rfl rfl (AA (AG (vO (((BQ CT ((BS kC (1:Int)).2.1) (kL.drop 1)).1) == ([7]:List UInt8))) rfl (?_)))))))))))))
 have P2:(((BQ CT ((BS kC (1:Int)).2.1) (kL.drop 1)).1) == ([7]:List UInt8))=true:=(by decide +kernel)
 rw [P2]
 refine AY rfl (BC 0 LT rfl (AY rfl (BH U3_ rfl (vI kX.epoch) rfl a4 rfl (AY rfl (EV .i64 kX.epoch (1:Int) rfl rfl (AA (BA (vO (kX.epoch == (1:Int))) rfl rfl (AA (AG (vO (kX.epoch == (1:Int))) rfl (?_))))))))))
 have P3:(kX.epoch == (1:Int))=true:=(by decide +kernel)
 rw [P3]
 refine AY rfl (AG (c2) rfl (AY rfl (DF U32_ DC .i64 (0:Int) 0 rfl rfl rfl a3 (by decide +kernel) fun cy P4=>(AY rfl (BI 0 HW ((((AE kC kL ([(4:UInt8)])).2.1)[0]!).epoch) rfl P4 (fun _ _ _ h=>IF h) fun cz P5=>(AY rfl (CA U3_ rfl rfl P5 (AY rfl (EV .i64 ((((AE kC kL ([(4:UInt8)])).2.1)[0]!).epoch) (1:Int) rfl rfl (AA (BA (vO (((((AE kC kL ([(4:UInt8)])).2.1)[0]!).epoch) == (1:Int))) rfl rfl (AA (AG (vO (((((AE kC kL ([(4:UInt8)])).2.1)[0]!).epoch) == (1:Int))) rfl (?_))))))))))))))
 have P6:(((((AE kC kL ([(4:UInt8)])).2.1)[0]!).epoch) == (1:Int))=true:=(by decide +kernel)
 rw [P6]
 refine AY rfl (BC 0 LT rfl (AY rfl (BH U3_ rfl (vI kZ.epoch) rfl b1 rfl (AY rfl (EV .i64 kZ.epoch (1:Int) rfl rfl (AA (BA (vO (kZ.epoch == (1:Int))) rfl rfl (AA (AG (vO (kZ.epoch == (1:Int))) rfl (?_))))))))))
 have P7:(kZ.epoch == (1:Int))=true:=(by decide +kernel)
 rw [P7]
 refine AY rfl (BC 1 LV rfl (AY rfl (BH U3_ rfl (vI kZ.threshold) rfl b1 rfl (AY rfl (EV .i64 kZ.threshold (1:Int) rfl rfl (AA (BA (vO (kZ.threshold == (1:Int))) rfl rfl (AA (AG (vO (kZ.threshold == (1:Int))) rfl (?_))))))))))
 have P8:(kZ.threshold == (1:Int))=true:=(by decide +kernel)
 rw [P8]
 refine AY rfl (AG (d3) rfl (AY rfl (DF U32_ DC .i64 (0:Int) 0 rfl rfl rfl b3 (by decide +kernel) fun cA P9=>(AY rfl (BI 4 FV ((kW[0]!).data) rfl P9 (fun _ _ _ h=>EO h) fun cB Q0=>(AY rfl (BW U23_ rfl rfl Q0 fun cC D2=>(?_))))))))
 have:=D2.len_le
 refine AY rfl (SG U23_ U5_ U9_ rfl D2 (AY rfl (o_eqlS ((kW[0]!).data) ([7]:List UInt8) rfl rfl (AA (BA (vO (((kW[0]!).data) == ([7]:List UInt8))) rfl rfl (AA (AG (vO (((kW[0]!).data) == ([7]:List UInt8))) rfl (?_))))))))
 have Q1:(((kW[0]!).data) == ([7]:List UInt8))=true:=(by decide +kernel)
 rw [Q1]
 refine AY rfl (AG (I3) rfl (AY rfl (CB U23_ rfl D1 (AY rfl (EV .i64 (((AL (kL.take 1) (((AE kC kL ([(4:UInt8)])).2.1).drop 2) ([(200:UInt8)])).1).length:Int) (2:Int) rfl rfl (AA (BA (vO ((((AL (kL.take 1) (((AE kC kL ([(4:UInt8)])).2.1).drop 2) ([(200:UInt8)])).1).length:Int) == (2:Int))) rfl rfl (AA (AF (vO ((((AL (kL.take 1) (((AE kC kL ([(4:UInt8)])).2.1).drop 2) ([(200:UInt8)])).1).length:Int) == (2:Int))) rfl (AH (AD (AQ (AX rfl (CK rfl rfl rfl) (?_))))))))))))))
 have e:true=((((AL (kL.take 1) (((AE kC kL ([(4:UInt8)])).2.1).drop 2) ([(200:UInt8)])).1).length:Int) == (2:Int)):=by rfl
 exact ⟨_,rfl,aT.keep,(by exact congrArg vO e.symm)⟩
open Go.Fw Go.RowKit
set_option maxHeartbeats 4000000 in
set_option maxRecDepth 100000 in
theorem c_few {O:List Nat} (c_cs:List Value) (c:Circle) (w:World) (b3:Enc.circle.rd w O c_cs c) (hO:∀ b∈O,b<w.heap.size):CD Try.prog 61 [.agg c_cs.toArray] w (fun v _=>v = .bool (NF c)):= by
 have b3:Enc.circle.rd w ([]++O) c_cs c:=b3
 have s0:St w O w []:=St.start hO
 refine BK 39 Try.func61 rfl rfl oT (fun F0=>AI (AC kR (AA (DK (E:=Enc.circle) (vA c_cs.toArray) (c_cs) c rfl rfl b3 s0 fun c3 c4 a1 d3 d4 a0=>(AA (AF (vO false) rfl (AH (AD (AI (AI (AC kR (AA (AF (vI 0) rfl (AH (AD (BO (DJ (fun mI FI wI=>∃ (k:Nat),k≤c.recs.length∧NF c=FH (fun k=>if TE c k then some false else none) (decide ((c.guardians.length:Int)≤12) && decide ((c.recs.length:Int)≤20)) k (c.recs.length - k)∧mI=c.recs.length - k∧(∃ F1,FI=GO F1 [(1,vP (some c3)),(3,vI ((k:Nat):Int)),(39,undef)])∧c4=wI) (c.recs.length - (0)) ?_ ?_)))))))))))))))))
 ·exact ⟨(0),oM,rfl,rfl,⟨_,BB _ ⟨rfl,(by rfl),rfl,trivial⟩⟩,rfl⟩
 rintro f1 F f2 ⟨k,hr0_0,hr0_1,f3,⟨f4,rfl⟩,rfl⟩
 refine AI (AI (AC kR (AA (AG (vI ((k:Nat):Int)) rfl (AA (BI 4 DU (c.recs) rfl a0 (fun _ _ _ h=>CN h) fun d5 b4=>(AA (BW U26_ rfl rfl b4 fun d6 a4=>(?_)))))))))
 have:=a4.len_le
 refine AA (CB U26_ rfl a4 (AA (DY .i64 ((k:Nat):Int) (c.recs.length:Int) rfl rfl (AH (AD (AN (decide (((k:Nat):Int)<(c.recs.length:Int))) rfl rfl (fun a2=>?_) (fun a2=>?_)))))))
 ·have c5:((k:Nat):Int)<(c.recs.length:Int):=by simpa using a2
  refine AW (AD (AI (BO (AI (AC kR (AA (BI 4 DU (c.recs) rfl a0 (fun _ _ _ h=>CN h) fun d7 b5=>(AA (BW U26_ rfl rfl b5 fun d8 a5=>(?_))))))))))
  have:=a5.len_le
  refine AA (AG (vI ((k:Nat):Int)) rfl (AA (DF U26_ GP .i64 ((k:Nat):Int) k rfl rfl rfl a5 oM fun d9 b6=>(AA (BI 3 PD ((c.recs[k]!).approved) rfl b6 (fun _ _ _ h=>JU h) fun e0 b7=>(AA (BW U22_ rfl rfl b7 fun e1 a6=>(?_))))))))
  have:=a6.len_le
  refine AA (CB U22_ rfl a6 (AA (HI .i64 (((c.recs[k]!).approved).length:Int) (20:Int) rfl rfl (AA (AG (vO (decide ((20:Int)<(((c.recs[k]!).approved).length:Int)))) rfl (?_))))))
  cases a7:(decide ((20:Int)<(((c.recs[k]!).approved).length:Int)))
  ·have c6:(((c.recs[k]!).approved).length:Int)≤(20:Int):=by simpa using a7
   refine AY rfl (BI 4 DU (c.recs) rfl a0 (fun _ _ _ h=>CN h) fun e2 b8=>(AY rfl (BW U26_ rfl rfl b8 fun e3 a8=>(?_))))
   have:=a8.len_le
   refine AY rfl (AG (vI ((k:Nat):Int)) rfl (AY rfl (DF U26_ GP .i64 ((k:Nat):Int) k rfl rfl rfl a8 oM fun e4 b9=>(AY rfl (BI 4 UD ((c.recs[k]!).vetoed) rfl b9 (fun _ _ _ h=>GG h) fun e5 c0=>(AY rfl (BW U22_ rfl rfl c0 fun e6 a9=>(?_))))))))
   have:=a9.len_le
   refine AY rfl (CB U22_ rfl a9 (AY rfl (HI .i64 (((c.recs[k]!).vetoed).length:Int) (20:Int) rfl rfl (AA (BR (vO (decide ((20:Int)<(((c.recs[k]!).vetoed).length:Int)))) rfl rfl (AH (AD (AN (decide ((20:Int)<(((c.recs[k]!).vetoed).length:Int))) rfl rfl (fun a3=>?_) (fun a3=>?_)))))))))
   ·have c7:(20:Int)<(((c.recs[k]!).vetoed).length:Int):=by simpa using a3
    refine AI (AC kR (AA (AF (vO false) rfl (AH (AD (AQ (BY (AR (AR (BY (AR (AX rfl (CK rfl rfl rfl) (?_)))))))))))))
    have e:(NF c)=false:=by (rw [hr0_1];exact DN oM (by ((repeat ((refine (if_pos ?_).trans ?_;solve|(simp only [TE,dbs];(repeat (omega))))));rfl)))
    exact ⟨_,rfl,a1.keep,(by exact congrArg vO e.symm)⟩
   have c8:(((c.recs[k]!).vetoed).length:Int)≤(20:Int):=by simpa using a3
   refine AW (CI (AD (AC kR (AA (AG (vI ((k:Nat):Int)) rfl (AA (DE .i64 ((k:Nat):Int) (1:Int) (((k+1:Nat):Int)) rfl rfl (GR oM oM) (AA (AF (vI ((k+1:Nat):Int)) rfl (AH (AD (?_))))))))))))
   exact ⟨_,oM,(k+1),oM,(hr0_1.trans (GL oM (by ((repeat ((refine (if_neg ?_).trans ?_;solve|(simp only [TE,dbs];(repeat (omega))))));rfl)))),rfl,⟨_,BB _ ⟨rfl,(by rfl),rfl,trivial⟩⟩,rfl⟩
  have c9:(20:Int)<(((c.recs[k]!).approved).length:Int):=by simpa using a7
  refine AO rfl (AO rfl (AO rfl (AO rfl (AO rfl (AO rfl (AO rfl (AO rfl (AA (BA (vO true) rfl rfl (AH (AD (AN true rfl rfl (fun _=>AI (AC kR (AA (AF (vO false) rfl (AH (AD (AQ (BY (AR (AR (BY (AR (AX rfl (CK rfl rfl rfl) (?_)))))))))))))) (fun h=>by cases h)))))))))))))
  have e:(NF c)=false:=by (rw [hr0_1];exact DN oM (by ((repeat ((refine (if_pos ?_).trans ?_;solve|(simp only [TE,dbs];(repeat (omega))))));rfl)))
  exact ⟨_,rfl,a1.keep,(by exact congrArg vO e.symm)⟩
 have d0:(c.recs.length:Int)≤((k:Nat):Int):=by simpa using a2
 refine DI (CF (CF (CY (AD (AI (AC kR (AA (BI 3 MZ (c.guardians) rfl a0 (fun _ _ _ h=>FO h) fun e7 c1=>(AA (BW U22_ rfl rfl c1 fun e8 b0=>(?_)))))))))))
 have:=b0.len_le
 refine AA (CB U22_ rfl b0 (AA (o_leq .i64 (c.guardians.length:Int) (12:Int) rfl rfl (AA (AG (vO (decide ((c.guardians.length:Int)≤(12:Int)))) rfl (?_))))))
 cases b1:(decide ((c.guardians.length:Int)≤(12:Int)))
 ·have d1:(12:Int)<(c.guardians.length:Int):=by simpa using b1
  refine AO rfl (AO rfl (AO rfl (AO rfl (AA (BR (vO false) rfl rfl (AA (AF (vO false) rfl (AH (AD (AQ (AX rfl (CK rfl rfl rfl) (?_))))))))))))
  have e:(NF c)=false:=by (rw [hr0_1,HJ oM];simp [*])
  exact ⟨_,rfl,a1.keep,(by exact congrArg vO e.symm)⟩
 have d2:(c.guardians.length:Int)≤(12:Int):=by simpa using b1
 refine AY rfl (BI 4 DU (c.recs) rfl a0 (fun _ _ _ h=>CN h) fun e9 c2=>(AY rfl (BW U26_ rfl rfl c2 fun f0 b2=>(?_))))
 have:=b2.len_le
 refine AY rfl (CB U26_ rfl b2 (AY rfl (o_leq .i64 (c.recs.length:Int) (20:Int) rfl rfl (AA (BA (vO (decide ((c.recs.length:Int)≤(20:Int)))) rfl rfl (AA (AF (vO (decide ((c.recs.length:Int)≤(20:Int)))) rfl (AH (AD (AQ (AX rfl (CK rfl rfl rfl) (?_))))))))))))
 have e:(NF c)=(decide ((c.recs.length:Int)≤(20:Int))):=by (rw [hr0_1,HJ oM];simp [*])
 exact ⟨_,rfl,a1.keep,(by exact congrArg vO e.symm)⟩
open Go.Fw Go.RowKit
set_option maxHeartbeats 4000000 in
set_option maxRecDepth 100000 in
theorem c_few8 {O:List Nat} (l_v:Value) (l:List Share) (w:World) (a2:AZ Enc.share w O l_v l) (hO:∀ b∈O,b<w.heap.size):CD Try.prog 21 [l_v] w (fun v _=>v = .bool (PO l)):= by
 have b0:=a2.len_le
 have a2:AZ Enc.share w ([]++O) l_v l:=a2
 have s0:St w O w []:=St.start hO
 refine BK 20 Try.func21 rfl rfl oT (fun F0=>AI (AC kR (AA (AF (vO false) rfl (AH (AD (AI (AI (AC kR (AA (AF (vI 0) rfl (AH (AD (BO (DJ (fun mI FI wI=>∃ (k:Nat),k≤l.length∧PO l=FH (fun k=>if 70<(l[k]!.data.length:Int) then some false else none) (decide ((l.length:Int)≤10)) k (l.length - k)∧mI=l.length - k∧(∃ F1,FI=GO F1 [(0,l_v),(3,vI ((k:Nat):Int)),(20,undef)])∧w=wI) (l.length - (0)) ?_ ?_)))))))))))))))
 ·exact ⟨(0),oM,rfl,rfl,⟨_,BB _ ⟨rfl,(by rfl),rfl,trivial⟩⟩,rfl⟩
 rintro b4 F b5 ⟨k,hr0_0,hr0_1,b6,⟨b7,rfl⟩,rfl⟩
 refine AI (AI (AC kR (AA (AG (vI ((k:Nat):Int)) rfl (AA (AG (l_v) rfl (AA (CB U32_ rfl a2 (AA (DY .i64 ((k:Nat):Int) (l.length:Int) rfl rfl (AH (AD (AN (decide (((k:Nat):Int)<(l.length:Int))) rfl rfl (fun a0=>?_) (fun a0=>?_))))))))))))))
 ·have a6:((k:Nat):Int)<(l.length:Int):=by simpa using a0
  refine AW (AD (AI (BO (AI (AC kR (AA (AG (l_v) rfl (AA (AG (vI ((k:Nat):Int)) rfl (AA (DF U32_ DC .i64 ((k:Nat):Int) k rfl rfl rfl a2 oM fun b1 a4=>(AA (BI 4 FV ((l[k]!).data) rfl a4 (fun _ _ _ h=>EO h) fun b2 a5=>(AA (BW U23_ rfl rfl a5 fun b3 a3=>(?_))))))))))))))))
  have:=a3.len_le
  refine AA (CB U23_ rfl a3 (AA (HI .i64 (((l[k]!).data).length:Int) (70:Int) rfl rfl (AH (AD (AN (decide ((70:Int)<(((l[k]!).data).length:Int))) rfl rfl (fun a1=>?_) (fun a1=>?_)))))))
  ·have a7:(70:Int)<(((l[k]!).data).length:Int):=by simpa using a1
   refine AI (AC kR (AA (AF (vO false) rfl (AH (AD (AQ (BY (AR (AR (BY (AR (AX rfl (CK rfl rfl rfl) (?_)))))))))))))
   have e:(PO l)=false:=by (rw [hr0_1];exact DN oM (by ((repeat ((refine (if_pos ?_).trans ?_;omega)));rfl)))
   exact ⟨_,rfl,s0.keep,(by exact congrArg vO e.symm)⟩
  have a8:(((l[k]!).data).length:Int)≤(70:Int):=by simpa using a1
  refine AW (CI (AD (AC kR (AA (AG (vI ((k:Nat):Int)) rfl (AA (DE .i64 ((k:Nat):Int) (1:Int) (((k+1:Nat):Int)) rfl rfl (GR oM oM) (AA (AF (vI ((k+1:Nat):Int)) rfl (AH (AD (?_))))))))))))
  exact ⟨_,oM,(k+1),oM,(hr0_1.trans (GL oM (by ((repeat ((refine (if_neg ?_).trans ?_;omega)));rfl)))),rfl,⟨_,BB _ ⟨rfl,(by rfl),rfl,trivial⟩⟩,rfl⟩
 have a9:(l.length:Int)≤((k:Nat):Int):=by simpa using a0
 refine DI (CF (CF (CY (AD (AI (AC kR (AA (AG (l_v) rfl (AA (CB U32_ rfl a2 (AA (o_leq .i64 (l.length:Int) (10:Int) rfl rfl (AA (AF (vO (decide ((l.length:Int)≤(10:Int)))) rfl (AH (AD (AQ (AX rfl (CK rfl rfl rfl) (?_)))))))))))))))))))
 have e:(PO l)=(decide ((l.length:Int)≤(10:Int))):=by (rw [hr0_1];exact HJ oM)
 exact ⟨_,rfl,s0.keep,(by exact congrArg vO e.symm)⟩
open Go.Fw Go.RowKit
set_option maxHeartbeats 4000000 in
set_option maxRecDepth 100000 in
theorem c_few46 {O:List Nat} (c_cs:List Value) (c:Circle) (l_v:Value) (l:List Share) (w:World) (a5:Enc.circle.rd w O c_cs c) (a0:AZ Enc.share w O l_v l) (hO:∀ b∈O,b<w.heap.size):CD Try.prog 23 [.agg c_cs.toArray,l_v] w (fun v _=>v = .bool (NF c && PO l)):= by
 have a5:Enc.circle.rd w ([]++O) c_cs c:=a5
 have b7:=a0.len_le
 have a0:AZ Enc.share w ([]++O) l_v l:=a0
 have s0:St w O w []:=St.start hO
 refine BK 11 Try.func23 rfl rfl oT (fun F0=>AI (AC kR (AA (DK (E:=Enc.circle) (vA c_cs.toArray) (c_cs) c rfl rfl a5 s0 fun b8 a8 a4 a9 b9 a6=>(?_)))))
 have a0:=a0.mv a9
 refine AA (AF (vO false) rfl (AH (AD (AI (AC kR (AA (CP U28_ rfl BM rfl a6 fun a2 a7=>(AA (BD (vs:=[vA a2.toArray]) enter_61 (c_few (O:=[]++O) a2 c a8 a7 a4.lt) rfl a4 fun c0 b0 a1 b1 c1 b2=>(?_))))))))))
 obtain rfl:=b2
 have a0:=a0.mv b1
 refine AA (AG (vO (NF c)) rfl (?_))
 cases a3:(NF c)
 ·have b5:(NF c)=false:=by simpa using a3
  refine AO rfl (AO rfl (AA (BR (vO false) rfl rfl (AA (AF (vO false) rfl (AH (AD (AQ (AX rfl (CK rfl rfl rfl) (?_))))))))))
  have e:(NF c && PO l)=false:=by simp [*]
  exact ⟨_,rfl,a1.keep,(by rfl)⟩
 have b6:(NF c)=true:=by simpa using a3
 refine AY rfl (AG (l_v) rfl (AY rfl (BD (vs:=[l_v]) enter_21 (c_few8 (O:=[]++O) l_v l b0 a0 a1.lt) rfl a1 fun c2 c3 b3 c4 c5 b4=>(?_))))
 obtain rfl:=b4
 refine AA (BA (vO (PO l)) rfl rfl (AA (AF (vO (PO l)) rfl (AH (AD (AQ (AX rfl (CK rfl rfl rfl) (?_))))))))
 have e:(NF c && PO l)=(PO l):=by simp [*]
 exact ⟨_,rfl,b3.keep,(by rfl)⟩
open Go.Fw Go.RowKit
set_option maxHeartbeats 4000000 in
set_option maxRecDepth 100000 in
theorem c_subset {O:List Nat} (l_v:Value) (l:List Share) (mask:UInt8) (w:World) (a1:AZ Enc.share w O l_v l) (hpre0:l.length≤8) (hO:∀ b∈O,b<w.heap.size):CD Try.prog 25 [l_v,vB mask] w (fun v w'=>∃ (x0:Value),v=x0∧AZ Enc.share w' (O) x0 (AJ l mask l.length)):= by
 have e3:=a1.len_le
 have a1:AZ Enc.share w ([]++O) l_v l:=a1
 have s0:St w O w []:=St.start hO
 refine BK 25 Try.func25 rfl rfl oT (fun F0=>AI (AC kR (AA (AF (.slice none 0 0) rfl (AH (AD (AI (AI (AC kR (AA (AG (l_v) rfl (AA (CB U32_ rfl a1 (AA (AG (vI 0) rfl (AH (AD (BO (DJ (fun mI FI wI=>∃ (k:Nat) (a0:Value) (B:List Nat),k≤l.length∧mI=l.length - k∧(∃ F1,FI=GO F1 [(1,vB mask),(4,a0),(7,l_v),(8,vI (l.length:Int)),(9,vI ((k:Nat):Int)),(25,undef)])∧St w O wI B∧EG Enc.share 70 w.heap.size (B++O) wI a0 ((AJ l mask k))∧(∀ b,a0.ownBlock=some b→b∈B)∧AZ Enc.share wI (B++O) (l_v) (l)) (l.length - (0)) ?_ ?_)))))))))))))))))))
 ·exact ⟨(0),(.slice none 0 0),[],oM,rfl,⟨_,BB _ ⟨rfl,rfl,rfl,rfl,(by rfl),rfl,trivial⟩⟩,s0,(by rw [show (AJ l mask (0))=[] from rfl];exact (EG.nil Enc.share 70 _ _ _)),(by intro b hb;simp [Value.ownBlock] at hb),a1⟩
 intro f0 F f1 hI
 clear a1
 obtain ⟨k,a0,c0,hr0_0,f2,⟨f3,rfl⟩,c1,ho0_4,a6,a1⟩:=hI
 refine AI (AC kR (AA (DY .i64 ((k:Nat):Int) (l.length:Int) rfl rfl (AH (AD (AI (AN (decide (((k:Nat):Int)<(l.length:Int))) rfl rfl (fun a7=>?_) (fun a7=>?_))))))))
 ·have d7:((k:Nat):Int)<(l.length:Int):=by simpa using a7
  refine AW (AD (AI (BO (AI (AC kR (AA (AG (vI ((k:Nat):Int)) rfl (AA (DF U32_ DC .i64 ((k:Nat):Int) k rfl rfl rfl a1 oM fun e4 c2=>(AA (CP U70_ rfl DC rfl c2 fun c3 a8=>(AA (CU [vI 0,vI 0,vI 0,vI 0,nS] MO rfl c1 fun a2 c8 c9 d0 b0 d1 c4=>(?_))))))))))))))
  have b3:∀ b,a0.ownBlock=some b→b≠a2:=fun b hb=>by have:=(ho0_4.lt b hb).2;omega
  have a6:∀ b,a0.ownBlock=some b→b∈(a2 :: c0):=fun b hb=>List.mem_cons_of_mem _ (a6 b hb)
  clear c9
  have ho0_4:=ho0_4.mv b0 d1 (by simp)
  have a1:=a1.mv b0
  have a8:Enc.share.rd c8 ((a2 :: c0)++O) c3 (l[k]!):=Enc.mv Enc.share (x:=l[k]!) a8 b0
  refine AA (AF (vI ((k:Nat):Int)) rfl (?_))
  obtain ⟨a4,rfl,a3⟩:=a8
  have:=a3.len_le
  refine BX (BG (vs:=[vI ((l[k]!).epoch),vI ((l[k]!).index),vI ((l[k]!).threshold),vI ((l[k]!).many),a4]) (.agg #[vI ((l[k]!).epoch),vI ((l[k]!).index),vI ((l[k]!).threshold),vI ((l[k]!).many),a4]) rfl rfl rfl DC (fun u hu=>by simp only [List.mem_cons,List.not_mem_nil,or_false] at hu;rcases hu with rfl|rfl|rfl|rfl|rfl <;> first|rfl|exact a3.oneCell) (by repeat (constructor)) c4 oT d0 fun e5 b5 b1 d2 a5=>(?_))
  have ho0_4:=ho0_4.mv b1 d2 (fun b hb=>BF (b3 b hb))
  have a1:=a1.mv b1
  have a3:=a3.mv b1
  refine AH (AD (AI (AC kR (AA (AG (vB mask) rfl (AA (AG (vI ((k:Nat):Int)) rfl (AA (o_shr8 .i64 mask k oM rfl rfl (AA (o_and8 (mask >>> UInt8.ofNat k) (1:UInt8) rfl rfl (AA (o_eql8 ((mask >>> UInt8.ofNat k) &&& (1:UInt8)) (1:UInt8) rfl rfl (AH (AD (AN (((mask >>> UInt8.ofNat k) &&& (1:UInt8)) == (1:UInt8)) rfl rfl (fun a9=>?_) (fun a9=>?_)))))))))))))))))
  ·have d8:(mask >>> UInt8.ofNat k) &&& (1:UInt8)=(1:UInt8):=by simpa using a9
   refine AC kR (AA (AG (a0) rfl (AA (BP (vs:=[vI ((l[k]!).epoch),vI ((l[k]!).index),vI ((l[k]!).threshold),vI ((l[k]!).many),a4]) U70_ rfl DC rfl a5 rfl (AA (JI (E:=Enc.share) (xs:=[.tmp 20]) U32_ DC MO (by decide) [.agg #[vI ((l[k]!).epoch),vI ((l[k]!).index),vI ((l[k]!).threshold),vI ((l[k]!).many),a4]] [[vI ((l[k]!).epoch),vI ((l[k]!).index),vI ((l[k]!).threshold),vI ((l[k]!).many),a4]] [(l[k]!)] rfl rfl rfl (Parts.cons rfl ⟨_,rfl,a3⟩ (Parts.nil _ _ _)) oT b5 fun e6 e7 d3 b6 b7 b4=>(?_)))))))
   have ho0_4:=ho0_4.mv b6 b7 (by simp)
   have a1:=a1.mv b6
   have a5:=a5.keep b7 (by simp)
   have:=b4.len_le
   refine AA (DG (E:=Enc.share) (l:=(AJ l mask k)) (m:=[(l[k]!)]) U32_ i_70 rfl (by decide) rfl rfl ho0_4 b4 (fun _ hb=>.inl hb) a6 (by have:=someM_le l mask k;simp;omega) (by have:=someM_le l mask k;simp [maxLen];omega) d3 fun b2 e8 b8 c5 c6 b9 d4 d5 e9 c7=>(?_))
   have d9:∀ b,b2.ownBlock=some b→b≠a2:=fun b hb=>by rcases c6 with e1|e1 <;> rw [e1] at hb <;> first|(cases hb;have:=a5.lt;omega)|(exact b3 b hb)
   have d6:a2∈b8:=b9 a2 (by repeat (constructor))
   have a1:=a1.mv d5
   refine AA (AF (b2) rfl (AH (CI (AD (AC kR (AA (DE .i64 ((k:Nat):Int) (1:Int) (((k+1:Nat):Int)) rfl rfl (GR oM oM) (AA (AG (vI ((k+1:Nat):Int)) rfl (AH (AD (?_))))))))))))
   exact ⟨_,oM,(k+1),b2,b8,oM,rfl,⟨_,BB _ ⟨rfl,rfl,rfl,rfl,(by rfl),rfl,trivial⟩⟩,d4,(by rw [show (AJ l mask (k+1))=(AJ l mask k)++([(l[k]!)]) from by exact someM_hit oM aS];exact c7),c5,a1⟩
  have e0:(mask >>> UInt8.ofNat k) &&& (1:UInt8)≠(1:UInt8):=by simpa using a9
  refine AW (CI (AD (AC kR (AA (DE .i64 ((k:Nat):Int) (1:Int) (((k+1:Nat):Int)) rfl rfl (GR oM oM) (AA (AG (vI ((k+1:Nat):Int)) rfl (AH (AD (?_))))))))))
  exact ⟨_,oM,(k+1),a0,(a2 :: c0),oM,rfl,⟨_,BB _ ⟨rfl,rfl,rfl,rfl,(by rfl),rfl,trivial⟩⟩,b5,(by rw [show (AJ l mask (k+1))=(AJ l mask k) from by exact someM_miss (fun hq=>absurd hq.2 aS)];exact ho0_4),a6,a1⟩
 have e2:(l.length:Int)≤((k:Nat):Int):=by simpa using a7
 obtain rfl:k=l.length:=by omega
 refine DI (CF (CF (CY (AD (AI (AC kR (AA (AG (a0) rfl (AA (AF (a0) rfl (AH (AD (AQ (AX rfl (CK rfl rfl rfl) (?_)))))))))))))))
 exact ⟨_,rfl,c1.keep,⟨a0,rfl,ho0_4.pub c1⟩⟩
set_option maxHeartbeats 4000000 in
set_option maxRecDepth 100000 in
theorem c_within {O:List Nat} (a_v:Value) (a:List Share) (b_v:Value) (b:List Share) (w:World) (a2:AZ Enc.share w O a_v a) (a3:AZ Enc.share w O b_v b) (hO:∀ b∈O,b<w.heap.size):CD Try.prog 26 [a_v,b_v] w (fun v _=>v = .bool (FA a b)):= by
 have f5:=a2.len_le
 have a2:AZ Enc.share w ([]++O) a_v a:=a2
 have f6:=a3.len_le
 have a3:AZ Enc.share w ([]++O) b_v b:=a3
 have s0:St w O w []:=St.start hO
 refine BK 32 Try.func26 rfl rfl oT (fun F0=>AI (AC kR (AA (AF (vO false) rfl (AH (AD (AI (AI (AC kR (AA (AG (a_v) rfl (AA (CB U32_ rfl a2 (AA (AG (vI 0) rfl (AH (AD (BO (DJ (fun mI FI wI=>∃ (k:Nat) (B:List Nat),k≤a.length∧(∀ q,q<k→(b.any fun o=>DA a[q]! o)=true)∧mI=a.length - k∧(∃ F1,FI=GO F1 [(1,b_v),(10,a_v),(11,vI (a.length:Int)),(12,vI ((k:Nat):Int)),(32,undef)])∧St w O wI B∧AZ Enc.share wI (B++O) (b_v) (b)∧AZ Enc.share wI (B++O) (a_v) (a)) (a.length - (0)) ?_ ?_)))))))))))))))))))
 ·exact ⟨(0),[],oM,(fun q hq=>by omega),rfl,⟨_,BB _ ⟨rfl,rfl,rfl,(by rfl),rfl,trivial⟩⟩,s0,a3,a2⟩
 intro g4 F g5 hI
 clear a3 a2
 obtain ⟨k,e4,hr0_0,hr0_1,g6,⟨g7,rfl⟩,e5,a3,a2⟩:=hI
 refine AI (AC kR (AA (DY .i64 ((k:Nat):Int) (a.length:Int) rfl rfl (AH (AD (AI (AN (decide (((k:Nat):Int)<(a.length:Int))) rfl rfl (fun b1=>?_) (fun b1=>?_))))))))
 ·have e7:((k:Nat):Int)<(a.length:Int):=by simpa using b1
  refine AW (AD (AI (BO (AI (AC kR (AA (DF U32_ DC .i64 ((k:Nat):Int) k rfl rfl rfl a2 oM fun f7 c2=>(AA (CP U70_ rfl DC rfl c2 fun c3 b2=>(AA (CU [vI 0,vI 0,vI 0,vI 0,nS] MO rfl e5 fun a4 d1 d2 d3 b6 f8 c4=>(?_))))))))))))
  clear d2
  have a3:=a3.mv b6
  have a2:=a2.mv b6
  have b2:Enc.share.rd d1 ((a4 :: e4)++O) c3 (a[k]!):=Enc.mv Enc.share (x:=a[k]!) b2 b6
  obtain ⟨a5,rfl,a0⟩:=b2
  have:=a0.len_le
  refine BX (BG (vs:=[vI ((a[k]!).epoch),vI ((a[k]!).index),vI ((a[k]!).threshold),vI ((a[k]!).many),a5]) (.agg #[vI ((a[k]!).epoch),vI ((a[k]!).index),vI ((a[k]!).threshold),vI ((a[k]!).many),a5]) rfl rfl rfl DC (fun u hu=>by simp only [List.mem_cons,List.not_mem_nil,or_false] at hu;rcases hu with rfl|rfl|rfl|rfl|rfl <;> first|rfl|exact a0.oneCell) (by repeat (constructor)) c4 oT d3 fun f9 d4 b7 g0 a1=>(?_))
  have a3:=a3.mv b7
  have a2:=a2.mv b7
  have a0:=a0.mv b7
  refine AH (AD (AI (AC kR (AA (AF (vO false) rfl (AH (AD (AI (AI (AC kR (AA (AG (b_v) rfl (AA (CB U32_ rfl a3 (AA (AG (vI 0) rfl (AH (AD (BO (DJ (fun mI FI wI=>∃ (j:Nat) (B:List Nat),j≤b.length∧mI=b.length - j∧(∃ F1,FI=GO F1 [(1,b_v),(6,vP (some ⟨a4,0,none⟩)),(7,vO (MT b a[k]! j)),(10,a_v),(11,vI (a.length:Int)),(12,vI ((k:Nat):Int)),(16,b_v),(17,vI (b.length:Int)),(18,vI ((j:Nat):Int)),(32,undef)])∧St w O wI B∧AZ Enc.share wI (B++O) (b_v) (b)∧AZ Enc.share wI (B++O) (a_v) (a)∧AZ Enc.u8 wI (B++O) (a5) ((a[k]!).data)∧HC wI a4 70 [vI ((a[k]!).epoch),vI ((a[k]!).index),vI ((a[k]!).threshold),vI ((a[k]!).many),a5]∧a4∈B) (b.length - (0)) ?_ ?_))))))))))))))))))))
  ·exact ⟨(0),(a4 :: e4),oM,rfl,⟨_,BB _ ⟨rfl,rfl,(congrArg vO (by rfl)),rfl,rfl,rfl,rfl,rfl,(by rfl),rfl,trivial⟩⟩,d4,a3,a2,a0,a1,(by (repeat (exact List.mem_cons_self)))⟩
  intro g8 F g9 hI
  clear a3 a2 a0 a1
  obtain ⟨j,c0,hr1_0,h0,⟨h1,rfl⟩,c5,a3,a2,a0,a1,e6⟩:=hI
  refine AI (AC kR (AA (DY .i64 ((j:Nat):Int) (b.length:Int) rfl rfl (AH (AD (AI (AN (decide (((j:Nat):Int)<(b.length:Int))) rfl rfl (fun b3=>?_) (fun b3=>?_))))))))
  ·have e8:((j:Nat):Int)<(b.length:Int):=by simpa using b3
   refine AW (AD (AI (BO (AI (AC kR (AA (DF U32_ DC .i64 ((j:Nat):Int) j rfl rfl rfl a3 oM fun g1 c6=>(AA (CP U70_ rfl DC rfl c6 fun c7 b4=>(AA (CU [vI 0,vI 0,vI 0,vI 0,nS] MO rfl c5 fun a7 d5 d6 d7 a9 d8 c8=>(?_))))))))))))
   have c9:FM a4 a7:=by show a4≠a7;have:=a1.lt;omega
   clear d6
   have a3:=a3.mv a9
   have a2:=a2.mv a9
   have b4:Enc.share.rd d5 ((a7 :: c0)++O) c7 (b[j]!):=Enc.mv Enc.share (x:=b[j]!) b4 a9
   have a0:=a0.mv a9
   have a1:=a1.keep d8 (by simp)
   obtain ⟨a8,rfl,a6⟩:=b4
   have:=a6.len_le
   refine BX (BG (vs:=[vI ((b[j]!).epoch),vI ((b[j]!).index),vI ((b[j]!).threshold),vI ((b[j]!).many),a8]) (.agg #[vI ((b[j]!).epoch),vI ((b[j]!).index),vI ((b[j]!).threshold),vI ((b[j]!).many),a8]) rfl rfl rfl DC (fun u hu=>by simp only [List.mem_cons,List.not_mem_nil,or_false] at hu;rcases hu with rfl|rfl|rfl|rfl|rfl <;> first|rfl|exact a6.oneCell) (by repeat (constructor)) c8 oT d7 fun d9 b8 b0 e0 d0=>(?_))
   have a3:=a3.mv b0
   have a2:=a2.mv b0
   have a6:=a6.mv b0
   have a0:=a0.mv b0
   have a1:=a1.keep e0 (BF c9)
   refine AH (AD (AC kR (AA (AG (vO (MT b a[k]! j)) rfl (AA (AG (vO (MT b a[k]! j)) rfl (?_)))))))
   cases c1:(MT b a[k]! j)
   ·have e9:(MT b a[k]! j)=false:=by simpa using c1
    refine AY rfl (BP (vs:=[vI ((a[k]!).epoch),vI ((a[k]!).index),vI ((a[k]!).threshold),vI ((a[k]!).many),a5]) U70_ rfl DC rfl a1 rfl (AY rfl (BP (vs:=[vI ((b[j]!).epoch),vI ((b[j]!).index),vI ((b[j]!).threshold),vI ((b[j]!).many),a8]) U70_ rfl DC rfl d0 rfl (AY rfl (BD (vs:=[vA #[vI ((a[k]!).epoch),vI ((a[k]!).index),vI ((a[k]!).threshold),vI ((a[k]!).many),a5],vA #[vI ((b[j]!).epoch),vI ((b[j]!).index),vI ((b[j]!).threshold),vI ((b[j]!).many),a8]]) enter_52 (c_sameShare (O:=(a7 :: c0)++O) [vI ((a[k]!).epoch),vI ((a[k]!).index),vI ((a[k]!).threshold),vI ((a[k]!).many),a5] (a[k]!) [vI ((b[j]!).epoch),vI ((b[j]!).index),vI ((b[j]!).threshold),vI ((b[j]!).many),a8] (b[j]!) d9 ⟨_,rfl,a0⟩ ⟨_,rfl,a6⟩ b8.lt) rfl b8 fun g2 g3 e1 b9 e2 e3=>(?_))))))
    obtain rfl:=e3
    have a3:=a3.mv b9
    have a2:=a2.mv b9
    have a0:=a0.mv b9
    have a1:=a1.keep e2 (by simp)
    refine AA (BR (vO (DA (a[k]!) (b[j]!))) rfl rfl (AA (AF (vO (DA (a[k]!) (b[j]!))) rfl (AH (CI (AD (AC kR (AA (DE .i64 ((j:Nat):Int) (1:Int) (((j+1:Nat):Int)) rfl rfl (GR oM oM) (AA (AG (vI ((j+1:Nat):Int)) rfl (AH (AD (?_))))))))))))))
    exact ⟨_,oM,(j+1),(a7 :: c0),oM,rfl,⟨_,BB _ ⟨rfl,rfl,(congrArg vO (by (exact (met_n oM aS).symm))),rfl,rfl,rfl,rfl,rfl,(by rfl),rfl,trivial⟩⟩,e1,a3,a2,a0,a1,(by (repeat (first|assumption|apply List.mem_cons_of_mem)))⟩
   have f0:(MT b a[k]! j)=true:=by simpa using c1
   refine AO rfl (AO rfl (AO rfl (AA (BA (vO true) rfl rfl (AA (AF (vO true) rfl (AH (CI (AD (AC kR (AA (DE .i64 ((j:Nat):Int) (1:Int) (((j+1:Nat):Int)) rfl rfl (GR oM oM) (AA (AG (vI ((j+1:Nat):Int)) rfl (AH (AD (?_)))))))))))))))))
   exact ⟨_,oM,(j+1),(a7 :: c0),oM,rfl,⟨_,BB _ ⟨rfl,rfl,(congrArg vO (by (exact (met_y oM aS).symm))),rfl,rfl,rfl,rfl,rfl,(by rfl),rfl,trivial⟩⟩,b8,a3,a2,a0,a1,(by (repeat (first|assumption|apply List.mem_cons_of_mem)))⟩
  have f1:(b.length:Int)≤((j:Nat):Int):=by simpa using b3
  obtain rfl:j=b.length:=by omega
  refine DI (CF (CF (CY (AD (AI (AC kR (AA (AG (vO (MT b a[k]! b.length)) rfl (AA (GZ (MT b a[k]! b.length) rfl (AH (AD (AN (!(MT b a[k]! b.length)) rfl rfl (fun b5=>?_) (fun b5=>?_))))))))))))))
  ·have f2:(MT b a[k]! b.length)=false:=by simpa using b5
   refine AI (AC kR (AA (AF (vO false) rfl (AH (AD (AQ (BY (AR (AR (BY (AR (AX rfl (CK rfl rfl rfl) (?_)))))))))))))
   have e:(FA a b)=false:=by exact with_not (k:=k) oM (by rw [← met_all];assumption)
   exact ⟨_,rfl,c5.keep,(by exact congrArg vO e.symm)⟩
  have f3:(MT b a[k]! b.length)=true:=by simpa using b5
  refine AW (CI (AD (AC kR (AA (DE .i64 ((k:Nat):Int) (1:Int) (((k+1:Nat):Int)) rfl rfl (GR oM oM) (AA (AG (vI ((k+1:Nat):Int)) rfl (AH (AD (?_))))))))))
  exact ⟨_,oM,(k+1),c0,oM,(with_step hr0_1 (by rw [← met_all];assumption)),rfl,⟨_,BB _ ⟨rfl,rfl,rfl,(by rfl),rfl,trivial⟩⟩,c5,a3,a2⟩
 have f4:(a.length:Int)≤((k:Nat):Int):=by simpa using b1
 refine DI (CF (CF (CY (AD (AI (AC kR (AA (AF (vO true) rfl (AH (AD (AQ (AX rfl (CK rfl rfl rfl) (?_)))))))))))))
 have e:(FA a b)=true:=by exact with_all (fun q hq=>hr0_1 q oM)
 exact ⟨_,rfl,e5.keep,(by exact congrArg vO e.symm)⟩
open Go.Fw
section
variable {c x:Circle} {no:Int} {l m:List Share} {secret more next:List UInt8} {others:List Int} {t:Int}
structure KeptI (secret:List UInt8) (no:Int) (x:Circle) (m:List Share):Prop where
  held:Held secret x m
  n0:0≤no
  n1:no<(x.recs.length:Int)
  st:x.recs[no.toNat]!.state=1
theorem KeptI.len8 (h:KeptI secret no x m):m.length≤8:=h.held.spl.len8
theorem renew_spl (hl:Held secret c l) (h:(AE c l more).2.2=0):Spl secret (c.epoch+1) c.threshold (c.guardians.length:Int) (AE c l more).2.1:=by
  have:=(UE hl h).spl
  have e:=UF h
  rw [show (AE c l more).1 = ⟨c.epoch+1,c.threshold,c.wait,c.guardians,c.recs⟩ by rw [e.2.2.2]] at this
  exact this
theorem renew_len (hl:Held secret c l):(AE c l more).2.1.length≤8:=by
  by_cases h:(AE c l more).2.2=0
  · exact (renew_spl hl h).len8
  · by_cases h1:AS c=0
    · by_cases h2:CC c l=0
      · by_cases h3:(CG l more).2=0
        · rw [OJ h1 h2 h3] at h;exact absurd rfl h
        · rw [PZ h1 h2 h3];simp
      · rw [OK h1 h2];simp
    · rw [PR h1];simp
structure OldC (c:Circle) (l:List Share) (x:Circle):Prop where
  ok:AS x=0
  ep:x.epoch=c.epoch+1
  bel:CC x l=460
theorem OldC.r1 (h:OldC c l x) (more:List UInt8):(AE x l more).2.2=460:=by rw [OK h.ok (by rw [h.bel];decide),h.bel]
theorem OldC.r2 (h:OldC c l x) (others:List Int) (t:Int) (next:List UInt8):(AU x l others t next).2.2=460:=by rw [OD h.ok (by rw [h.bel];decide),h.bel]
theorem OldC.r3 (h:OldC c l x) (hd:(ND x).2.2=true):(BQ (ND x).1 (ND x).2.1 l).2=460:=by
  obtain ⟨_,g,hs⟩:=done_grown hd
  have hf:FB (ND x).1=FB x:=by funext s;unfold FB;rw [g.ep,g.th,g.gu]
  have hb:CC (ND x).1 l=460:=by unfold CC;rw [hf];exact h.bel
  rw [rest_5 g.ok g.n0 g.n1 (by rw [hs];decide) (by rw [hs];decide) (by rw [hb];decide),hb]
end
theorem hidden {c:Circle} {secret coins more other:List UInt8} {a b:UInt8} {l y old now:List Share} (hd:(AB c secret coins).2=0) (hl:(AB c secret coins).1=l) (hf:(AE c l more).2.2=0) (hy:(AE c l more).2.1=y)
    (hold:AJ l a l.length=old) (hnow:AJ y b y.length=now) (ha:0<old.length) (hb:0<now.length) (ha':(old.length:Int)<c.threshold) (hb':(now.length:Int)<c.threshold) (ho:other.length=secret.length) :
    (AL old now other).2=0∧(AL old now other).1.length=2*coins.length∧(AB c other ((AL old now other).1.take coins.length)).2=0∧FA old (AB c other ((AL old now other).1.take coins.length)).1=true
      ∧(AE c (AB c other ((AL old now other).1.take coins.length)).1 ((AL old now other).1.drop coins.length)).2.2=0∧FA now (AE c (AB c other ((AL old now other).1.take coins.length)).1 ((AL old now other).1.drop coins.length)).2.1=true:=by
  have hh:=VH hd
  rw [hl] at hh
  have hr:=UE hh hf
  have e:=UF hf
  have hsp:Spl secret (c.epoch+1) c.threshold (c.guardians.length:Int) y:=by
    have:=hr.spl
    rw [hy] at this
    rw [e.2.2.2] at this;exact this
  have H:=hide2 hh.spl hsp rfl ho hold hnow ha ha' hb hb'
  obtain ⟨m1,m2,m3,m4,m5,m6,m7⟩:=H
  have hc:=deal_coins hd
  have hpl:(AV old other).1.length=coins.length:=by omega
  have hql:(IA old now other).1.length=coins.length:=by omega
  have t1:(AL old now other).1.take coins.length=(AV old other).1:=by rw [m1,← hpl];exact List.take_left
  have t2:(AL old now other).1.drop coins.length=(IA old now other).1:=by rw [m1,← hpl];exact List.drop_left
  rw [t1,t2]
  have g:=TB (secret:=other) (coins:=(AV old other).1) hh.ok
  rw [g]
  have hT:=MJ m2
  have hrn:=OJ (coins:=(IA old now other).1) hh.ok hT.belA m6
  rw [hrn]
  refine ⟨by rw [m1],by rw [m1];show ((AV old other).1++(IA old now other).1).length=_;rw [List.length_append];omega,m2,m3,rfl,m7⟩
open Go.Fw Go.RowKit
set_option maxHeartbeats 4000000 in
set_option maxRecDepth 100000 in
theorem SC {O:List Nat} (c_cs:List Value) (c:Circle) (secret_v:Value) (secret:List UInt8) (coins_v:Value) (coins:List UInt8) (more_v:Value) (more:List UInt8) (pa:UInt8) (pb:UInt8) (other_v:Value) (other:List UInt8) (w:World) (w4:Enc.circle.rd w O c_cs c) (a5:AZ Enc.u8 w O secret_v secret) (a1:AZ Enc.u8 w O coins_v coins) (b1:AZ Enc.u8 w O more_v more) (a4:AZ Enc.u8 w O other_v other) (hO:∀ b∈O,b<w.heap.size):CD Try.prog 5 [.agg c_cs.toArray,secret_v,coins_v,more_v,vB pa,vB pb,other_v] w (fun v _=>v = .bool (true)):= by
 have w4:Enc.circle.rd w ([]++O) c_cs c:=w4
 have B5:=a5.len_le
 have a5:AZ Enc.u8 w ([]++O) secret_v secret:=a5
 have K0:=a1.len_le
 have a1:AZ Enc.u8 w ([]++O) coins_v coins:=a1
 have K2:=b1.len_le
 have b1:AZ Enc.u8 w ([]++O) more_v more:=b1
 have K1:=a4.len_le
 have a4:AZ Enc.u8 w ([]++O) other_v other:=a4
 have s0:St w O w []:=St.start hO
 refine BK 157 Try.func5 rfl rfl oT (fun F0=>AI (AC kR (AA (DK (E:=Enc.circle) (vA c_cs.toArray) (c_cs) c rfl rfl w4 s0 fun k7 B6 t2 h3 O5 a6=>(?_)))))
 have a5:=a5.mv h3
 have a1:=a1.mv h3
 have b1:=b1.mv h3
 have a4:=a4.mv h3
 refine AA (AF (vO false) rfl (AH (AD (AI (AI (AC kR (AA (BD (vs:=[]) enter_20 (c_sane46 (O:=[]++O) B6 t2.lt) rfl t2 fun O6 B7 t3 f2 O7 B8=>(?_)))))))))
 obtain rfl:=B8
 have a5:=a5.mv f2
 have a1:=a1.mv f2
 have b1:=b1.mv f2
 have a4:=a4.mv f2
 have a6:=a6.mv f2
 refine AA (GZ true rfl (AH (AD (AN false rfl rfl (fun h=>by cases h) (fun _=>AW (AD (AI (AI (AC kR (AA (CP U28_ rfl BM rfl a6 fun m3 w5=>(AA (BD (vs:=[vA m3.toArray,nS]) enter_23 (c_few46 (O:=[]++O) m3 c (.slice none 0 0) [] B7 w5 (AZ.nil _ _ _) t3.lt) rfl t3 fun O8 B9 f3 f4 O9 C0=>(?_))))))))))))))
 obtain rfl:=C0
 have a5:=a5.mv f4
 have a1:=a1.mv f4
 have b1:=b1.mv f4
 have a4:=a4.mv f4
 have a6:=a6.mv f4
 refine AA (GZ (NF c && PO ([])) rfl (AA (AG (vO (!(NF c && PO ([])))) rfl (?_))))
 cases m4:(!(NF c && PO ([])))
 ·have K7:(NF c && PO ([]))=true:=by simpa using m4
  refine AY rfl (AG (secret_v) rfl (AY rfl (CB U23_ rfl a5 (AY rfl (HI .i64 (secret.length:Int) (20:Int) rfl rfl (AA (BR (vO (decide ((20:Int)<(secret.length:Int)))) rfl rfl (AA (AG (vO (decide ((20:Int)<(secret.length:Int)))) rfl (?_))))))))))
  cases m5:(decide ((20:Int)<(secret.length:Int)))
  ·have K8:(secret.length:Int)≤(20:Int):=by simpa using m5
   refine AY rfl (AG (coins_v) rfl (AY rfl (CB U23_ rfl a1 (AY rfl (HI .i64 (coins.length:Int) (200:Int) rfl rfl (AA (BR (vO (decide ((200:Int)<(coins.length:Int)))) rfl rfl (AH (AD (AN (decide ((200:Int)<(coins.length:Int))) rfl rfl (fun i3=>?_) (fun i3=>?_)))))))))))
   ·have K9:(200:Int)<(coins.length:Int):=by simpa using i3
    refine AI (AC kR (AA (AF (vO true) rfl (AH (AD (AQ (AR (AX rfl (CK rfl rfl rfl) (?_)))))))))
    exact ⟨_,rfl,f3.keep,rfl⟩
   have L0:(coins.length:Int)≤(200:Int):=by simpa using i3
   refine AW (AD (AI (AC kR (AA (CP U28_ rfl BM rfl a6 fun m6 w6=>(AA (AG (secret_v) rfl (AA (AG (coins_v) rfl (AA (BD (vs:=[vA m6.toArray,secret_v,coins_v]) MM (RP (O:=[]++O) m6 c secret_v secret coins_v coins B9 w6 a5 a1 f3.lt) rfl f3 fun P0 C1 k8 f5 P1 C2=>(?_))))))))))))
   obtain ⟨b7,rfl,b3⟩:=C2
   have:=b3.len_le
   have a5:=a5.mv f5
   have a1:=a1.mv f5
   have b1:=b1.mv f5
   have a4:=a4.mv f5
   have a6:=a6.mv f5
   refine AA (AG (vT #[b7,vI ((AB c secret coins).2)]) rfl (AA (AP (b7) rfl rfl (AA (AP (vI ((AB c secret coins).2)) rfl rfl (AA (AF (b7) rfl (AA (AF (vI ((AB c secret coins).2)) rfl (AH (AD (AI (AI (AC kR (AA (AG (vI ((AB c secret coins).2)) rfl (AA (CS .i64 ((AB c secret coins).2) (0:Int) rfl rfl (AH (AD (AN (((AB c secret coins).2) != (0:Int)) rfl rfl (fun i4=>?_) (fun i4=>?_))))))))))))))))))))))
   ·have L1:(AB c secret coins).2≠(0:Int):=by simpa using i4
    refine AI (AC kR (AA (AG (b7) rfl (AA (CB U32_ rfl b3 (AA (EV .i64 (((AB c secret coins).1).length:Int) (0:Int) rfl rfl (AA (AF (vO ((((AB c secret coins).1).length:Int) == (0:Int))) rfl (AH (AD (AQ (AR (AX rfl (CK rfl rfl rfl) (?_)))))))))))))))
    have e:true=((((AB c secret coins).1).length:Int) == (0:Int)):=by (rw [deal_none aS];rfl)
    exact ⟨_,rfl,k8.keep,(by exact congrArg vO e.symm)⟩
   have w7:(AB c secret coins).2=(0:Int):=by simpa using i4
   have hdl:(AB c secret coins).2=0:=w7
   have hhd:=VH hdl
   have hL8:=hhd.spl.len8
   have hY8:=renew_len (more:=more) hhd
   have hepb:=circ_ep hhd.ok
   refine AW (AD (AI (AC kR (AA (CP U28_ rfl BM rfl a6 fun m7 w8=>(AA (AG (b7) rfl (AA (AG (more_v) rfl (AA (BD (vs:=[vA m7.toArray,b7,more_v]) QQ (SN (O:=[]++O) m7 c b7 ((AB c secret coins).1) more_v more C1 w8 b3 b1 k8.lt) rfl k8 fun P2 P3 C3 f6 P4 C4=>(?_))))))))))))
   obtain ⟨i5,e9,rfl,i6,b9⟩:=C4
   have:=b9.len_le
   have a5:=a5.mv f6
   have a1:=a1.mv f6
   have a4:=a4.mv f6
   have a6:=a6.mv f6
   have b3:=b3.mv f6
   refine AA (AG (vT #[vA i5.toArray,e9,vI ((AE c ((AB c secret coins).1) more).2.2)]) rfl (AA (AP (vA i5.toArray) rfl rfl (AA (AP (e9) rfl rfl (AA (AP (vI ((AE c ((AB c secret coins).1) more).2.2)) rfl rfl (AA (CU [vI 0,vI 0,vI 0,nS,nS] LC rfl C3 fun a0 C5 C6 C7 e2 P5 w9=>(?_))))))))))
   clear C6
   have a5:=a5.mv e2
   have a1:=a1.mv e2
   have a4:=a4.mv e2
   have a6:=a6.mv e2
   have b3:=b3.mv e2
   have i6:Enc.circle.rd C5 ((a0 :: [])++O) i5 ((AE c ((AB c secret coins).1) more).1):=Enc.mv Enc.circle (x:=(AE c ((AB c secret coins).1) more).1) i6 e2
   have b9:=b9.mv e2
   obtain ⟨t4,t5,rfl,m9,n2⟩:=i6
   have:=m9.len_le
   have:=n2.len_le
   refine BX (BG (vs:=[vI (((AE c ((AB c secret coins).1) more).1).epoch),vI (((AE c ((AB c secret coins).1) more).1).threshold),vI (((AE c ((AB c secret coins).1) more).1).wait),t4,t5]) (.agg #[vI (((AE c ((AB c secret coins).1) more).1).epoch),vI (((AE c ((AB c secret coins).1) more).1).threshold),vI (((AE c ((AB c secret coins).1) more).1).wait),t4,t5]) rfl rfl rfl BM (fun u hu=>by simp only [List.mem_cons,List.not_mem_nil,or_false] at hu;rcases hu with rfl|rfl|rfl|rfl|rfl <;> first|rfl|exact m9.oneCell|exact n2.oneCell) (by repeat (constructor)) w9 oT C7 fun C8 t6 f0 P6 b2=>(?_))
   have a5:=a5.mv f0
   have a1:=a1.mv f0
   have a4:=a4.mv f0
   have a6:=a6.mv f0
   have b3:=b3.mv f0
   have b9:=b9.mv f0
   refine AA (AF (e9) rfl (AA (AF (vI ((AE c ((AB c secret coins).1) more).2.2)) rfl (AH (AD (AI (AC kR (AA (AG (b7) rfl (AA (AG (vB pa) rfl (AA (BD (vs:=[b7,vB pa]) enter_25 (c_subset (O:=(a0 :: [])++O) b7 ((AB c secret coins).1) pa C8 b3 (by exact hL8) t6.lt) rfl t6 fun a9 C9 t7 f7 D0 D1=>(?_))))))))))))))
   obtain ⟨_,rfl,a2⟩:=D1
   have:=a2.len_le
   have a5:=a5.mv f7
   have a1:=a1.mv f7
   have a4:=a4.mv f7
   have a6:=a6.mv f7
   have b9:=b9.mv f7
   have b2:=b2.keep D0 (by simp)
   refine AA (AG (e9) rfl (AA (AG (vB pb) rfl (AA (BD (vs:=[e9,vB pb]) enter_25 (c_subset (O:=(a0 :: [])++O) e9 ((AE c ((AB c secret coins).1) more).2.1) pb C9 b9 (by exact hY8) t7.lt) rfl t7 fun b0 D2 d1 f8 D3 D4=>(?_))))))
   obtain ⟨_,rfl,a3⟩:=D4
   have:=a3.len_le
   have a5:=a5.mv f8
   have a1:=a1.mv f8
   have a4:=a4.mv f8
   have a6:=a6.mv f8
   have a2:=a2.mv f8
   have b2:=b2.keep D3 (by simp)
   refine AA (AF (a9) rfl (AA (AF (b0) rfl (AH (AD (AI (AI (AC kR (AA (AG (vI ((AE c ((AB c secret coins).1) more).2.2)) rfl (AA (CS .i64 ((AE c ((AB c secret coins).1) more).2.2) (0:Int) rfl rfl (AA (AG (vO (((AE c ((AB c secret coins).1) more).2.2) != (0:Int))) rfl (?_)))))))))))))))
   cases n3:(((AE c ((AB c secret coins).1) more).2.2) != (0:Int))
   ·have L2:(AE c ((AB c secret coins).1) more).2.2=(0:Int):=by simpa using n3
    refine AY rfl (AG (a9) rfl (AY rfl (CB U32_ rfl a2 (AY rfl (EV .i64 ((AJ ((AB c secret coins).1) pa ((AB c secret coins).1).length).length:Int) (0:Int) rfl rfl (AA (BR (vO (((AJ ((AB c secret coins).1) pa ((AB c secret coins).1).length).length:Int) == (0:Int))) rfl rfl (AA (AG (vO (((AJ ((AB c secret coins).1) pa ((AB c secret coins).1).length).length:Int) == (0:Int))) rfl (?_))))))))))
    cases n4:(((AJ ((AB c secret coins).1) pa ((AB c secret coins).1).length).length:Int) == (0:Int))
    ·have L3:((AJ ((AB c secret coins).1) pa ((AB c secret coins).1).length).length:Int)≠(0:Int):=by simpa using n4
     refine AY rfl (AG (b0) rfl (AY rfl (CB U32_ rfl a3 (AY rfl (EV .i64 ((AJ ((AE c ((AB c secret coins).1) more).2.1) pb ((AE c ((AB c secret coins).1) more).2.1).length).length:Int) (0:Int) rfl rfl (AA (BR (vO (((AJ ((AE c ((AB c secret coins).1) more).2.1) pb ((AE c ((AB c secret coins).1) more).2.1).length).length:Int) == (0:Int))) rfl rfl (AA (AG (vO (((AJ ((AE c ((AB c secret coins).1) more).2.1) pb ((AE c ((AB c secret coins).1) more).2.1).length).length:Int) == (0:Int))) rfl (?_))))))))))
     cases n5:(((AJ ((AE c ((AB c secret coins).1) more).2.1) pb ((AE c ((AB c secret coins).1) more).2.1).length).length:Int) == (0:Int))
     ·have L4:((AJ ((AE c ((AB c secret coins).1) more).2.1) pb ((AE c ((AB c secret coins).1) more).2.1).length).length:Int)≠(0:Int):=by simpa using n5
      refine AY rfl (AG (a9) rfl (AY rfl (CB U32_ rfl a2 (AY rfl (BI 1 LV (c.threshold) rfl a6 (fun _ _ _ h=>FN h) fun P7 x0=>(AY rfl (CA U3_ rfl rfl x0 (AY rfl (JK .i64 ((AJ ((AB c secret coins).1) pa ((AB c secret coins).1).length).length:Int) c.threshold rfl rfl (AA (BR (vO (decide (c.threshold≤((AJ ((AB c secret coins).1) pa ((AB c secret coins).1).length).length:Int)))) rfl rfl (AA (AG (vO (decide (c.threshold≤((AJ ((AB c secret coins).1) pa ((AB c secret coins).1).length).length:Int)))) rfl (?_))))))))))))))
      cases n6:(decide (c.threshold≤((AJ ((AB c secret coins).1) pa ((AB c secret coins).1).length).length:Int)))
      ·have L5:((AJ ((AB c secret coins).1) pa ((AB c secret coins).1).length).length:Int)<c.threshold:=by simpa using n6
       refine AY rfl (AG (b0) rfl (AY rfl (CB U32_ rfl a3 (AY rfl (BI 1 LV (c.threshold) rfl a6 (fun _ _ _ h=>FN h) fun P8 x1=>(AY rfl (CA U3_ rfl rfl x1 (AY rfl (JK .i64 ((AJ ((AE c ((AB c secret coins).1) more).2.1) pb ((AE c ((AB c secret coins).1) more).2.1).length).length:Int) c.threshold rfl rfl (AA (BR (vO (decide (c.threshold≤((AJ ((AE c ((AB c secret coins).1) more).2.1) pb ((AE c ((AB c secret coins).1) more).2.1).length).length:Int)))) rfl rfl (AA (AG (vO (decide (c.threshold≤((AJ ((AE c ((AB c secret coins).1) more).2.1) pb ((AE c ((AB c secret coins).1) more).2.1).length).length:Int)))) rfl (?_))))))))))))))
       cases n7:(decide (c.threshold≤((AJ ((AE c ((AB c secret coins).1) more).2.1) pb ((AE c ((AB c secret coins).1) more).2.1).length).length:Int)))
       ·have L6:((AJ ((AE c ((AB c secret coins).1) more).2.1) pb ((AE c ((AB c secret coins).1) more).2.1).length).length:Int)<c.threshold:=by simpa using n7
        refine AY rfl (AG (other_v) rfl (AY rfl (CB U23_ rfl a4 (AY rfl (AG (secret_v) rfl (AY rfl (CB U23_ rfl a5 (AY rfl (CS .i64 (other.length:Int) (secret.length:Int) rfl rfl (AA (BR (vO ((other.length:Int) != (secret.length:Int))) rfl rfl (AH (AD (AN ((other.length:Int) != (secret.length:Int)) rfl rfl (fun i7=>?_) (fun i7=>?_)))))))))))))))
        ·have L7:(other.length:Int)≠(secret.length:Int):=by simpa using i7
         refine AI (AC kR (AA (AF (vO true) rfl (AH (AD (AQ (AR (AX rfl (CK rfl rfl rfl) (?_)))))))))
         exact ⟨_,rfl,d1.keep,rfl⟩
        have L8:(other.length:Int)=(secret.length:Int):=by simpa using i7
        have hid:=hidden (a:=pa) (b:=pb) (other:=other) hdl rfl aS rfl rfl rfl oM oM oM oM oM
        have hfl:=hid.2.1
        refine AW (AD (AI (AC kR (AA (AG (a9) rfl (AA (AG (b0) rfl (AA (AG (other_v) rfl (AA (BD (vs:=[a9,b0,other_v]) SP (c_mixed (O:=(a0 :: [])++O) a9 (AJ ((AB c secret coins).1) pa ((AB c secret coins).1).length) b0 (AJ ((AE c ((AB c secret coins).1) more).2.1) pb ((AE c ((AB c secret coins).1) more).2.1).length) other_v other D2 a2 a3 a4 d1.lt) rfl d1 fun P9 b8 t8 f9 D5 D6=>(?_))))))))))))
        obtain ⟨c2,rfl,c0⟩:=D6
        have:=c0.len_le
        have a1:=a1.mv f9
        have a4:=a4.mv f9
        have a6:=a6.mv f9
        have a2:=a2.mv f9
        have a3:=a3.mv f9
        have b2:=b2.keep D5 (by simp)
        refine AA (AG (vT #[c2,vI ((AL (AJ ((AB c secret coins).1) pa ((AB c secret coins).1).length) (AJ ((AE c ((AB c secret coins).1) more).2.1) pb ((AE c ((AB c secret coins).1) more).2.1).length) other).2)]) rfl (AA (AP (c2) rfl rfl (AA (AP (vI ((AL (AJ ((AB c secret coins).1) pa ((AB c secret coins).1).length) (AJ ((AE c ((AB c secret coins).1) more).2.1) pb ((AE c ((AB c secret coins).1) more).2.1).length) other).2)) rfl rfl (AA (AF (c2) rfl (AA (AF (vI ((AL (AJ ((AB c secret coins).1) pa ((AB c secret coins).1).length) (AJ ((AE c ((AB c secret coins).1) more).2.1) pb ((AE c ((AB c secret coins).1) more).2.1).length) other).2)) rfl (AH (AD (AI (AI (AC kR (AA (AG (vI ((AL (AJ ((AB c secret coins).1) pa ((AB c secret coins).1).length) (AJ ((AE c ((AB c secret coins).1) more).2.1) pb ((AE c ((AB c secret coins).1) more).2.1).length) other).2)) rfl (AA (CS .i64 ((AL (AJ ((AB c secret coins).1) pa ((AB c secret coins).1).length) (AJ ((AE c ((AB c secret coins).1) more).2.1) pb ((AE c ((AB c secret coins).1) more).2.1).length) other).2) (0:Int) rfl rfl (AA (AG (vO (((AL (AJ ((AB c secret coins).1) pa ((AB c secret coins).1).length) (AJ ((AE c ((AB c secret coins).1) more).2.1) pb ((AE c ((AB c secret coins).1) more).2.1).length) other).2) != (0:Int))) rfl (?_)))))))))))))))))))))
        have x2:(((AL (AJ ((AB c secret coins).1) pa ((AB c secret coins).1).length) (AJ ((AE c ((AB c secret coins).1) more).2.1) pb ((AE c ((AB c secret coins).1) more).2.1).length) other).2) != (0:Int))=false:=(by rw [hid.1];rfl)
        rw [x2]
        refine AY rfl (AG (c2) rfl (AY rfl (CB U23_ rfl c0 (AY rfl (AG (coins_v) rfl (AY rfl (CB U23_ rfl a1 (AY rfl (o_mul .i64 (2:Int) (coins.length:Int) ((2:Int)*(coins.length:Int)) rfl rfl (GR oM oM) (AY rfl (CS .i64 (((AL (AJ ((AB c secret coins).1) pa ((AB c secret coins).1).length) (AJ ((AE c ((AB c secret coins).1) more).2.1) pb ((AE c ((AB c secret coins).1) more).2.1).length) other).1).length:Int) ((2:Int)*(coins.length:Int)) rfl rfl (AA (BR (vO ((((AL (AJ ((AB c secret coins).1) pa ((AB c secret coins).1).length) (AJ ((AE c ((AB c secret coins).1) more).2.1) pb ((AE c ((AB c secret coins).1) more).2.1).length) other).1).length:Int) != ((2:Int)*(coins.length:Int)))) rfl rfl (AH (AD (?_))))))))))))))))
        have x3:((((AL (AJ ((AB c secret coins).1) pa ((AB c secret coins).1).length) (AJ ((AE c ((AB c secret coins).1) more).2.1) pb ((AE c ((AB c secret coins).1) more).2.1).length) other).1).length:Int) != ((2:Int)*(coins.length:Int)))=false:=(by rw [hfl];simp)
        rw [x3]
        refine AN false rfl rfl (fun h=>by cases h) (fun _=>AW (AD (AI (cw_draw' 11 _ _ [fun (vT:Value) (wT:World)=>∃ csT:List Value,vT = .agg csT.toArray∧Enc.circle.rd wT ((a0 :: [])++O) csT (c),fun (vT:Value) (wT:World)=>AZ Enc.u8 wT ((a0 :: [])++O) vT (other),fun (vT:Value) (wT:World)=>AZ Enc.u8 wT ((a0 :: [])++O) vT ((AL (AJ ((AB c secret coins).1) pa ((AB c secret coins).1).length) (AJ ((AE c ((AB c secret coins).1) more).2.1) pb ((AE c ((AB c secret coins).1) more).2.1).length) other).1),fun (vT:Value) (wT:World)=>AZ Enc.u8 wT ((a0 :: [])++O) vT (coins),DB (vI (coins.length:Int)),fun (vT:Value) (wT:World)=>AZ Enc.u8 wT ((a0 :: [])++O) vT ((((AL (AJ ((AB c secret coins).1) pa ((AB c secret coins).1).length) (AJ ((AE c ((AB c secret coins).1) more).2.1) pb ((AE c ((AB c secret coins).1) more).2.1).length) other).1).take coins.length)),fun (vT:Value) (wT:World)=>∃ (xT0:Value),vT = .tuple #[xT0,vI ((AB c other (((AL (AJ ((AB c secret coins).1) pa ((AB c secret coins).1).length) (AJ ((AE c ((AB c secret coins).1) more).2.1) pb ((AE c ((AB c secret coins).1) more).2.1).length) other).1).take coins.length)).2)]∧AZ Enc.share wT ((a0 :: [])++O) xT0 ((AB c other (((AL (AJ ((AB c secret coins).1) pa ((AB c secret coins).1).length) (AJ ((AE c ((AB c secret coins).1) more).2.1) pb ((AE c ((AB c secret coins).1) more).2.1).length) other).1).take coins.length)).1),fun (vT:Value) (wT:World)=>∃ (xT0:Value),vT = .tuple #[xT0,vI ((AB c other (((AL (AJ ((AB c secret coins).1) pa ((AB c secret coins).1).length) (AJ ((AE c ((AB c secret coins).1) more).2.1) pb ((AE c ((AB c secret coins).1) more).2.1).length) other).1).take coins.length)).2)]∧AZ Enc.share wT ((a0 :: [])++O) xT0 ((AB c other (((AL (AJ ((AB c secret coins).1) pa ((AB c secret coins).1).length) (AJ ((AE c ((AB c secret coins).1) more).2.1) pb ((AE c ((AB c secret coins).1) more).2.1).length) other).1).take coins.length)).1),fun (vT:Value) (wT:World)=>AZ Enc.share wT ((a0 :: [])++O) vT ((AB c other (((AL (AJ ((AB c secret coins).1) pa ((AB c secret coins).1).length) (AJ ((AE c ((AB c secret coins).1) more).2.1) pb ((AE c ((AB c secret coins).1) more).2.1).length) other).1).take coins.length)).1),DB (vI ((AB c other (((AL (AJ ((AB c secret coins).1) pa ((AB c secret coins).1).length) (AJ ((AE c ((AB c secret coins).1) more).2.1) pb ((AE c ((AB c secret coins).1) more).2.1).length) other).1).take coins.length)).2)),fun (vT:Value) (wT:World)=>AZ Enc.share wT ((a0 :: [])++O) vT ((AB c other (((AL (AJ ((AB c secret coins).1) pa ((AB c secret coins).1).length) (AJ ((AE c ((AB c secret coins).1) more).2.1) pb ((AE c ((AB c secret coins).1) more).2.1).length) other).1).take coins.length)).1)] kR kR kR kR rfl rfl ⟨fun _ _ _ ⟨a,e,h⟩ k=>⟨a,e,Enc.mv _ h (Mv.of_keep k)⟩,fun _ _ _ h k=>h.mv (Mv.of_keep k),fun _ _ _ h k=>h.mv (Mv.of_keep k),fun _ _ _ h k=>h.mv (Mv.of_keep k),kI,fun _ _ _ h k=>h.mv (Mv.of_keep k),fun _ _ _ ⟨y0,e,h0⟩ k=>⟨y0,e,h0.mv (Mv.of_keep k)⟩,fun _ _ _ ⟨y0,e,h0⟩ k=>⟨y0,e,h0.mv (Mv.of_keep k)⟩,fun _ _ _ h k=>h.mv (Mv.of_keep k),kI,fun _ _ _ h k=>h.mv (Mv.of_keep k),trivial⟩ ⟨?_,?_,?_,?_,?_,?_,?_,?_,?_,?_,?_,trivial⟩ ?_))))
        ·intro F1 w1 k1 hf hd
         have k0:=(Keep.drew [] b8).trans k1
         have m1:Mv (a0 :: []) b8 (a0 :: []) w1:=Mv.of_keep k0
         have a6:=a6.mv m1
         obtain ⟨F2,rfl⟩:=AM (F:=F1) [(7,vP (some k7))] ⟨hf 7 kR,trivial⟩
         exact AK rfl ((CP U28_ rfl BM rfl a6 fun x4 x5=>(⟨(Keep.refl _ _),⟨x4,rfl,x5⟩⟩)))
        ·intro F1 w1 k1 hf hd
         have k0:=(Keep.drew [] b8).trans k1
         have m1:Mv (a0 :: []) b8 (a0 :: []) w1:=Mv.of_keep k0
         have a4:=a4.mv m1
         obtain ⟨F2,rfl⟩:=AM (F:=F1) [(6,other_v)] ⟨hf 6 kR,trivial⟩
         exact AK rfl ((AG (other_v) rfl (⟨(Keep.refl _ _),a4⟩)))
        ·intro F1 w1 k1 hf hd
         have k0:=(Keep.drew [] b8).trans k1
         have m1:Mv (a0 :: []) b8 (a0 :: []) w1:=Mv.of_keep k0
         have c0:=c0.mv m1
         obtain ⟨F2,rfl⟩:=AM (F:=F1) [(22,c2)] ⟨hf 22 kR,trivial⟩
         exact AK rfl ((AG (c2) rfl (⟨(Keep.refl _ _),c0⟩)))
        ·intro F1 w1 k1 hf hd
         have k0:=(Keep.drew [] b8).trans k1
         have m1:Mv (a0 :: []) b8 (a0 :: []) w1:=Mv.of_keep k0
         have a1:=a1.mv m1
         obtain ⟨F2,rfl⟩:=AM (F:=F1) [(2,coins_v)] ⟨hf 2 kR,trivial⟩
         exact AK rfl ((AG (coins_v) rfl (⟨(Keep.refl _ _),a1⟩)))
        ·intro F1 w1 k1 hf hd
         obtain ⟨D7,D8,n9⟩:∃ v,F1 124=v∧AZ Enc.u8 w1 ((a0 :: [])++O) v (coins):=⟨_,rfl,hd 3 124 kR⟩
         have:=n9.len_le
         obtain ⟨F2,rfl⟩:=AM (F:=F1) [(124,D7)] ⟨D8,trivial⟩
         exact AK rfl ((CB U23_ rfl n9 (⟨(Keep.refl _ _),rfl⟩)))
        ·intro F1 w1 k1 hf hd
         obtain ⟨D9,E0,o0⟩:∃ v,F1 123=v∧AZ Enc.u8 w1 ((a0 :: [])++O) v ((AL (AJ ((AB c secret coins).1) pa ((AB c secret coins).1).length) (AJ ((AE c ((AB c secret coins).1) more).2.1) pb ((AE c ((AB c secret coins).1) more).2.1).length) other).1):=⟨_,rfl,hd 2 123 kR⟩
         have:=o0.len_le
         obtain ⟨F2,rfl⟩:=AM (F:=F1) [(123,D9),(125,vI (coins.length:Int))] ⟨E0,hd 4 125 kR,trivial⟩
         refine AK rfl ((MK U23_ IR 0 coins.length rfl (.inl ⟨rfl,rfl⟩) (.inr ⟨.tmp 125, .i64,(coins.length:Int),rfl,rfl,rfl⟩) oM oM o0 fun Q0 o1=>(?_)))
         rw [List.drop_zero] at o1
         exact ⟨(Keep.refl _ _),o1⟩
        ·intro F1 w1 k1 hf hd
         have k0:=(Keep.drew [] b8).trans k1
         have s1:=t8.call k0
         obtain ⟨i8,E1,x6⟩:∃ cs:List Value,F1 121 = .agg cs.toArray∧Enc.circle.rd w1 ((a0 :: [])++O) cs (c):=hd 0 121 kR
         obtain ⟨k9,E2,o2⟩:∃ v,F1 122=v∧AZ Enc.u8 w1 ((a0 :: [])++O) v (other):=⟨_,rfl,hd 1 122 kR⟩
         have:=o2.len_le
         obtain ⟨l0,E3,o3⟩:∃ v,F1 126=v∧AZ Enc.u8 w1 ((a0 :: [])++O) v ((((AL (AJ ((AB c secret coins).1) pa ((AB c secret coins).1).length) (AJ ((AE c ((AB c secret coins).1) more).2.1) pb ((AE c ((AB c secret coins).1) more).2.1).length) other).1).take coins.length)):=⟨_,rfl,hd 5 126 kR⟩
         have:=o3.len_le
         obtain ⟨F2,rfl⟩:=AM (F:=F1) [(121,vA i8.toArray),(122,k9),(126,l0)] ⟨E1,E2,E3,trivial⟩
         refine AK rfl ((BD (vs:=[vA i8.toArray,k9,l0]) MM (RP (O:=(a0 :: [])++O) i8 c k9 other l0 (((AL (AJ ((AB c secret coins).1) pa ((AB c secret coins).1).length) (AJ ((AE c ((AB c secret coins).1) more).2.1) pb ((AE c ((AB c secret coins).1) more).2.1).length) other).1).take coins.length) w1 x6 o2 o3 s1.lt) rfl s1 fun Q1 Q2 Q3 Q4 E4 E5=>(?_)))
         obtain ⟨E6,rfl,o4⟩:=E5
         have:=o4.len_le
         exact ⟨E4,⟨E6,rfl,o4⟩⟩
        ·intro F1 w1 k1 hf hd
         obtain ⟨l1,E7,o5⟩:(fun (vT:Value) (wT:World)=>∃ (xT0:Value),vT = .tuple #[xT0,vI ((AB c other (((AL (AJ ((AB c secret coins).1) pa ((AB c secret coins).1).length) (AJ ((AE c ((AB c secret coins).1) more).2.1) pb ((AE c ((AB c secret coins).1) more).2.1).length) other).1).take coins.length)).2)]∧AZ Enc.share wT ((a0 :: [])++O) xT0 ((AB c other (((AL (AJ ((AB c secret coins).1) pa ((AB c secret coins).1).length) (AJ ((AE c ((AB c secret coins).1) more).2.1) pb ((AE c ((AB c secret coins).1) more).2.1).length) other).1).take coins.length)).1)) (F1 127) w1:=hd 6 127 kR
         have:=o5.len_le
         obtain ⟨F2,rfl⟩:=AM (F:=F1) [(127,vT #[l1,vI ((AB c other (((AL (AJ ((AB c secret coins).1) pa ((AB c secret coins).1).length) (AJ ((AE c ((AB c secret coins).1) more).2.1) pb ((AE c ((AB c secret coins).1) more).2.1).length) other).1).take coins.length)).2)])] ⟨E7,trivial⟩
         exact AK rfl ((AG (vT #[l1,vI ((AB c other (((AL (AJ ((AB c secret coins).1) pa ((AB c secret coins).1).length) (AJ ((AE c ((AB c secret coins).1) more).2.1) pb ((AE c ((AB c secret coins).1) more).2.1).length) other).1).take coins.length)).2)]) rfl (⟨(Keep.refl _ _),⟨l1,rfl,o5⟩⟩)))
        ·intro F1 w1 k1 hf hd
         obtain ⟨t9,E8,o6⟩:(fun (vT:Value) (wT:World)=>∃ (xT0:Value),vT = .tuple #[xT0,vI ((AB c other (((AL (AJ ((AB c secret coins).1) pa ((AB c secret coins).1).length) (AJ ((AE c ((AB c secret coins).1) more).2.1) pb ((AE c ((AB c secret coins).1) more).2.1).length) other).1).take coins.length)).2)]∧AZ Enc.share wT ((a0 :: [])++O) xT0 ((AB c other (((AL (AJ ((AB c secret coins).1) pa ((AB c secret coins).1).length) (AJ ((AE c ((AB c secret coins).1) more).2.1) pb ((AE c ((AB c secret coins).1) more).2.1).length) other).1).take coins.length)).1)) (F1 120) w1:=hd 7 120 kR
         have:=o6.len_le
         obtain ⟨F2,rfl⟩:=AM (F:=F1) [(120,vT #[t9,vI ((AB c other (((AL (AJ ((AB c secret coins).1) pa ((AB c secret coins).1).length) (AJ ((AE c ((AB c secret coins).1) more).2.1) pb ((AE c ((AB c secret coins).1) more).2.1).length) other).1).take coins.length)).2)])] ⟨E8,trivial⟩
         exact AK rfl ((AP (t9) rfl rfl (⟨(Keep.refl _ _),o6⟩)))
        ·intro F1 w1 k1 hf hd
         obtain ⟨E9,F3,x7⟩:(fun (vT:Value) (wT:World)=>∃ (xT0:Value),vT = .tuple #[xT0,vI ((AB c other (((AL (AJ ((AB c secret coins).1) pa ((AB c secret coins).1).length) (AJ ((AE c ((AB c secret coins).1) more).2.1) pb ((AE c ((AB c secret coins).1) more).2.1).length) other).1).take coins.length)).2)]∧AZ Enc.share wT ((a0 :: [])++O) xT0 ((AB c other (((AL (AJ ((AB c secret coins).1) pa ((AB c secret coins).1).length) (AJ ((AE c ((AB c secret coins).1) more).2.1) pb ((AE c ((AB c secret coins).1) more).2.1).length) other).1).take coins.length)).1)) (F1 120) w1:=hd 7 120 kR
         have:=x7.len_le
         obtain ⟨F2,rfl⟩:=AM (F:=F1) [(120,vT #[E9,vI ((AB c other (((AL (AJ ((AB c secret coins).1) pa ((AB c secret coins).1).length) (AJ ((AE c ((AB c secret coins).1) more).2.1) pb ((AE c ((AB c secret coins).1) more).2.1).length) other).1).take coins.length)).2)])] ⟨F3,trivial⟩
         exact AK rfl ((AP (vI ((AB c other (((AL (AJ ((AB c secret coins).1) pa ((AB c secret coins).1).length) (AJ ((AE c ((AB c secret coins).1) more).2.1) pb ((AE c ((AB c secret coins).1) more).2.1).length) other).1).take coins.length)).2)) rfl rfl (⟨(Keep.refl _ _),rfl⟩)))
        ·intro F1 w1 k1 hf hd
         obtain ⟨u0,F4,o7⟩:∃ v,F1 128=v∧AZ Enc.share w1 ((a0 :: [])++O) v ((AB c other (((AL (AJ ((AB c secret coins).1) pa ((AB c secret coins).1).length) (AJ ((AE c ((AB c secret coins).1) more).2.1) pb ((AE c ((AB c secret coins).1) more).2.1).length) other).1).take coins.length)).1):=⟨_,rfl,hd 8 128 kR⟩
         have:=o7.len_le
         obtain ⟨F2,rfl⟩:=AM (F:=F1) [(128,u0)] ⟨F4,trivial⟩
         exact AK rfl ((AF (u0) rfl (⟨(Keep.refl _ _),o7⟩)))
        intro u1 a7 l2 i9 c8
        have f1:=t8.call l2
        have g0:Mv (a0 :: []) b8 (a0 :: []) a7:=Mv.of_keep l2
        have a1:=a1.mv g0
        have a6:=a6.mv g0
        have a2:=a2.mv g0
        have a3:=a3.mv g0
        have c0:=c0.mv g0
        have b2:=b2.keep l2 (by simp)
        obtain ⟨b6,F5,a8⟩:∃ v,u1 24=v∧AZ Enc.share a7 ((a0 :: [])++O) v ((AB c other (((AL (AJ ((AB c secret coins).1) pa ((AB c secret coins).1).length) (AJ ((AE c ((AB c secret coins).1) more).2.1) pb ((AE c ((AB c secret coins).1) more).2.1).length) other).1).take coins.length)).1):=⟨_,rfl,i9 10 24 kR (by decide)⟩
        have:=a8.len_le
        obtain ⟨F2,rfl⟩:=AM (F:=u1) [(2,coins_v),(7,vP (some k7)),(20,a9),(21,b0),(22,c2),(157,undef),(24,b6),(129,vI ((AB c other (((AL (AJ ((AB c secret coins).1) pa ((AB c secret coins).1).length) (AJ ((AE c ((AB c secret coins).1) more).2.1) pb ((AE c ((AB c secret coins).1) more).2.1).length) other).1).take coins.length)).2))] ⟨c8 2 kR,c8 7 kR,c8 20 kR,c8 21 kR,c8 22 kR,c8 157 kR,F5,i9 9 129 kR (by decide),trivial⟩
        clear i9 c8
        refine AA (AF (vI ((AB c other (((AL (AJ ((AB c secret coins).1) pa ((AB c secret coins).1).length) (AJ ((AE c ((AB c secret coins).1) more).2.1) pb ((AE c ((AB c secret coins).1) more).2.1).length) other).1).take coins.length)).2)) rfl (AH (AD (cw_cut (fun FI wI=>∃ (b4:Value) (b5:Value) (B:List Nat),True∧(∃ F1,FI=GO F1 [(20,a9),(21,b0),(24,b4),(25,vI ((AB c other ((AL (AJ (AB c secret coins).1 pa (AB c secret coins).1.length) (AJ (AE c (AB c secret coins).1 more).2.1 pb (AE c (AB c secret coins).1 more).2.1.length) other).1.take coins.length)).2)),(27,b5),(28,vI ((AE c (AB c other ((AL (AJ (AB c secret coins).1 pa (AB c secret coins).1.length) (AJ (AE c (AB c secret coins).1 more).2.1 pb (AE c (AB c secret coins).1 more).2.1.length) other).1.take coins.length)).1 ((AL (AJ (AB c secret coins).1 pa (AB c secret coins).1.length) (AJ (AE c (AB c secret coins).1 more).2.1 pb (AE c (AB c secret coins).1 more).2.1.length) other).1.drop coins.length)).2.2)),(157,undef)])∧St w O wI B∧AZ Enc.share wI (B++O) b4 ((AB c other ((AL (AJ (AB c secret coins).1 pa (AB c secret coins).1.length) (AJ (AE c (AB c secret coins).1 more).2.1 pb (AE c (AB c secret coins).1 more).2.1.length) other).1.take coins.length)).1)∧AZ Enc.share wI (B++O) b5 ((AE c (AB c other ((AL (AJ (AB c secret coins).1 pa (AB c secret coins).1.length) (AJ (AE c (AB c secret coins).1 more).2.1 pb (AE c (AB c secret coins).1 more).2.1.length) other).1.take coins.length)).1 ((AL (AJ (AB c secret coins).1 pa (AB c secret coins).1.length) (AJ (AE c (AB c secret coins).1 more).2.1 pb (AE c (AB c secret coins).1 more).2.1.length) other).1.drop coins.length)).2.1)∧AZ Enc.share wI (B++O) (a9) (AJ ((AB c secret coins).1) pa ((AB c secret coins).1).length)∧AZ Enc.share wI (B++O) (b0) (AJ ((AE c ((AB c secret coins).1) more).2.1) pb ((AE c ((AB c secret coins).1) more).2.1).length)) ?_ ?_))))
        ·refine VZ 12 [9,10] [[9],[10],[9,10]] (by intro c F d v w hd;simp only [OY,NS];exact qp_end c F d v w hd) _ _ _ [fun _=>fun (vT:Value) (_:World)=>∃ csT:List Value,vT = .agg csT.toArray∧Enc.circle.rd a7 ((a0 :: [])++O) csT (c),fun _=>fun (vT:Value) (_:World)=>AZ Enc.share a7 ((a0 :: [])++O) vT ((AB c other (((AL (AJ ((AB c secret coins).1) pa ((AB c secret coins).1).length) (AJ ((AE c ((AB c secret coins).1) more).2.1) pb ((AE c ((AB c secret coins).1) more).2.1).length) other).1).take coins.length)).1),fun _=>fun (vT:Value) (_:World)=>AZ Enc.u8 a7 ((a0 :: [])++O) vT ((AL (AJ ((AB c secret coins).1) pa ((AB c secret coins).1).length) (AJ ((AE c ((AB c secret coins).1) more).2.1) pb ((AE c ((AB c secret coins).1) more).2.1).length) other).1),fun _=>fun (vT:Value) (_:World)=>AZ Enc.u8 a7 ((a0 :: [])++O) vT (coins),fun _=>DB (vI (coins.length:Int)),fun _=>fun (vT:Value) (_:World)=>AZ Enc.u8 a7 ((a0 :: [])++O) vT ((((AL (AJ ((AB c secret coins).1) pa ((AB c secret coins).1).length) (AJ ((AE c ((AB c secret coins).1) more).2.1) pb ((AE c ((AB c secret coins).1) more).2.1).length) other).1).drop coins.length)),fun (BT:List Nat) (vT:Value) (wT:World)=>∃ (xT0:List Value) (xT1:Value),vT = .tuple #[.agg xT0.toArray,xT1,vI ((AE c ((AB c other (((AL (AJ ((AB c secret coins).1) pa ((AB c secret coins).1).length) (AJ ((AE c ((AB c secret coins).1) more).2.1) pb ((AE c ((AB c secret coins).1) more).2.1).length) other).1).take coins.length)).1) (((AL (AJ ((AB c secret coins).1) pa ((AB c secret coins).1).length) (AJ ((AE c ((AB c secret coins).1) more).2.1) pb ((AE c ((AB c secret coins).1) more).2.1).length) other).1).drop coins.length)).2.2)]∧Enc.circle.rd wT (BT++O) xT0 ((AE c ((AB c other (((AL (AJ ((AB c secret coins).1) pa ((AB c secret coins).1).length) (AJ ((AE c ((AB c secret coins).1) more).2.1) pb ((AE c ((AB c secret coins).1) more).2.1).length) other).1).take coins.length)).1) (((AL (AJ ((AB c secret coins).1) pa ((AB c secret coins).1).length) (AJ ((AE c ((AB c secret coins).1) more).2.1) pb ((AE c ((AB c secret coins).1) more).2.1).length) other).1).drop coins.length)).1)∧AZ Enc.share wT (BT++O) xT1 ((AE c ((AB c other (((AL (AJ ((AB c secret coins).1) pa ((AB c secret coins).1).length) (AJ ((AE c ((AB c secret coins).1) more).2.1) pb ((AE c ((AB c secret coins).1) more).2.1).length) other).1).take coins.length)).1) (((AL (AJ ((AB c secret coins).1) pa ((AB c secret coins).1).length) (AJ ((AE c ((AB c secret coins).1) more).2.1) pb ((AE c ((AB c secret coins).1) more).2.1).length) other).1).drop coins.length)).2.1),fun (BT:List Nat) (vT:Value) (wT:World)=>∃ (xT0:List Value) (xT1:Value),vT = .tuple #[.agg xT0.toArray,xT1,vI ((AE c ((AB c other (((AL (AJ ((AB c secret coins).1) pa ((AB c secret coins).1).length) (AJ ((AE c ((AB c secret coins).1) more).2.1) pb ((AE c ((AB c secret coins).1) more).2.1).length) other).1).take coins.length)).1) (((AL (AJ ((AB c secret coins).1) pa ((AB c secret coins).1).length) (AJ ((AE c ((AB c secret coins).1) more).2.1) pb ((AE c ((AB c secret coins).1) more).2.1).length) other).1).drop coins.length)).2.2)]∧Enc.circle.rd wT (BT++O) xT0 ((AE c ((AB c other (((AL (AJ ((AB c secret coins).1) pa ((AB c secret coins).1).length) (AJ ((AE c ((AB c secret coins).1) more).2.1) pb ((AE c ((AB c secret coins).1) more).2.1).length) other).1).take coins.length)).1) (((AL (AJ ((AB c secret coins).1) pa ((AB c secret coins).1).length) (AJ ((AE c ((AB c secret coins).1) more).2.1) pb ((AE c ((AB c secret coins).1) more).2.1).length) other).1).drop coins.length)).1)∧AZ Enc.share wT (BT++O) xT1 ((AE c ((AB c other (((AL (AJ ((AB c secret coins).1) pa ((AB c secret coins).1).length) (AJ ((AE c ((AB c secret coins).1) more).2.1) pb ((AE c ((AB c secret coins).1) more).2.1).length) other).1).take coins.length)).1) (((AL (AJ ((AB c secret coins).1) pa ((AB c secret coins).1).length) (AJ ((AE c ((AB c secret coins).1) more).2.1) pb ((AE c ((AB c secret coins).1) more).2.1).length) other).1).drop coins.length)).2.1),fun (BT:List Nat) (vT:Value) (wT:World)=>∃ csT:List Value,vT = .agg csT.toArray∧Enc.circle.rd wT (BT++O) csT ((AE c ((AB c other (((AL (AJ ((AB c secret coins).1) pa ((AB c secret coins).1).length) (AJ ((AE c ((AB c secret coins).1) more).2.1) pb ((AE c ((AB c secret coins).1) more).2.1).length) other).1).take coins.length)).1) (((AL (AJ ((AB c secret coins).1) pa ((AB c secret coins).1).length) (AJ ((AE c ((AB c secret coins).1) more).2.1) pb ((AE c ((AB c secret coins).1) more).2.1).length) other).1).drop coins.length)).1),fun (BT:List Nat) (vT:Value) (wT:World)=>AZ Enc.share wT (BT++O) vT ((AE c ((AB c other (((AL (AJ ((AB c secret coins).1) pa ((AB c secret coins).1).length) (AJ ((AE c ((AB c secret coins).1) more).2.1) pb ((AE c ((AB c secret coins).1) more).2.1).length) other).1).take coins.length)).1) (((AL (AJ ((AB c secret coins).1) pa ((AB c secret coins).1).length) (AJ ((AE c ((AB c secret coins).1) more).2.1) pb ((AE c ((AB c secret coins).1) more).2.1).length) other).1).drop coins.length)).2.1),fun _=>DB (vI ((AE c ((AB c other (((AL (AJ ((AB c secret coins).1) pa ((AB c secret coins).1).length) (AJ ((AE c ((AB c secret coins).1) more).2.1) pb ((AE c ((AB c secret coins).1) more).2.1).length) other).1).take coins.length)).1) (((AL (AJ ((AB c secret coins).1) pa ((AB c secret coins).1).length) (AJ ((AE c ((AB c secret coins).1) more).2.1) pb ((AE c ((AB c secret coins).1) more).2.1).length) other).1).drop coins.length)).2.2)),PE a7 28 [vI 0,vI 0,vI 0,nS,nS]] [⟨0,[],[],[],false,[]⟩,⟨0,[],[],[],false,[]⟩,⟨0,[],[],[],false,[]⟩,⟨0,[],[],[],false,[]⟩,⟨0,[],[],[],false,[3]⟩,⟨0,[],[],[],false,[2,4]⟩,⟨1,[],[],[],false,[0,1,5]⟩,⟨1,[1],[],[],false,[6]⟩,⟨1,[1],[],[],false,[7]⟩,⟨1,[1],[],[],false,[7]⟩,⟨0,[1],[],[],false,[7]⟩,⟨2,[],[],[],false,[]⟩] (a0 :: []) kR kR kR kR kR (by decide) rfl rfl rfl ⟨fun _ _ _ _ _ h=>h,fun _ _ _ _ _ h=>h,fun _ _ _ _ _ h=>h,fun _ _ _ _ _ h=>h,fun _ _ _ _ _ h=>h,fun _ _ _ _ _ h=>h,(show ∀ B B2 v w w2,(fun (BT:List Nat) (vT:Value) (wT:World)=>∃ (xT0:List Value) (xT1:Value),vT = .tuple #[.agg xT0.toArray,xT1,vI ((AE c ((AB c other (((AL (AJ ((AB c secret coins).1) pa ((AB c secret coins).1).length) (AJ ((AE c ((AB c secret coins).1) more).2.1) pb ((AE c ((AB c secret coins).1) more).2.1).length) other).1).take coins.length)).1) (((AL (AJ ((AB c secret coins).1) pa ((AB c secret coins).1).length) (AJ ((AE c ((AB c secret coins).1) more).2.1) pb ((AE c ((AB c secret coins).1) more).2.1).length) other).1).drop coins.length)).2.2)]∧Enc.circle.rd wT (BT++O) xT0 ((AE c ((AB c other (((AL (AJ ((AB c secret coins).1) pa ((AB c secret coins).1).length) (AJ ((AE c ((AB c secret coins).1) more).2.1) pb ((AE c ((AB c secret coins).1) more).2.1).length) other).1).take coins.length)).1) (((AL (AJ ((AB c secret coins).1) pa ((AB c secret coins).1).length) (AJ ((AE c ((AB c secret coins).1) more).2.1) pb ((AE c ((AB c secret coins).1) more).2.1).length) other).1).drop coins.length)).1)∧AZ Enc.share wT (BT++O) xT1 ((AE c ((AB c other (((AL (AJ ((AB c secret coins).1) pa ((AB c secret coins).1).length) (AJ ((AE c ((AB c secret coins).1) more).2.1) pb ((AE c ((AB c secret coins).1) more).2.1).length) other).1).take coins.length)).1) (((AL (AJ ((AB c secret coins).1) pa ((AB c secret coins).1).length) (AJ ((AE c ((AB c secret coins).1) more).2.1) pb ((AE c ((AB c secret coins).1) more).2.1).length) other).1).drop coins.length)).2.1)) B v w→Mv B w B2 w2→(fun (BT:List Nat) (vT:Value) (wT:World)=>∃ (xT0:List Value) (xT1:Value),vT = .tuple #[.agg xT0.toArray,xT1,vI ((AE c ((AB c other (((AL (AJ ((AB c secret coins).1) pa ((AB c secret coins).1).length) (AJ ((AE c ((AB c secret coins).1) more).2.1) pb ((AE c ((AB c secret coins).1) more).2.1).length) other).1).take coins.length)).1) (((AL (AJ ((AB c secret coins).1) pa ((AB c secret coins).1).length) (AJ ((AE c ((AB c secret coins).1) more).2.1) pb ((AE c ((AB c secret coins).1) more).2.1).length) other).1).drop coins.length)).2.2)]∧Enc.circle.rd wT (BT++O) xT0 ((AE c ((AB c other (((AL (AJ ((AB c secret coins).1) pa ((AB c secret coins).1).length) (AJ ((AE c ((AB c secret coins).1) more).2.1) pb ((AE c ((AB c secret coins).1) more).2.1).length) other).1).take coins.length)).1) (((AL (AJ ((AB c secret coins).1) pa ((AB c secret coins).1).length) (AJ ((AE c ((AB c secret coins).1) more).2.1) pb ((AE c ((AB c secret coins).1) more).2.1).length) other).1).drop coins.length)).1)∧AZ Enc.share wT (BT++O) xT1 ((AE c ((AB c other (((AL (AJ ((AB c secret coins).1) pa ((AB c secret coins).1).length) (AJ ((AE c ((AB c secret coins).1) more).2.1) pb ((AE c ((AB c secret coins).1) more).2.1).length) other).1).take coins.length)).1) (((AL (AJ ((AB c secret coins).1) pa ((AB c secret coins).1).length) (AJ ((AE c ((AB c secret coins).1) more).2.1) pb ((AE c ((AB c secret coins).1) more).2.1).length) other).1).drop coins.length)).2.1)) B2 v w2 from fun _ _ _ _ _ ⟨y0,y1,e,h0,h1⟩ m=>⟨y0,y1,e,Enc.mv _ h0 m,h1.mv m⟩),(show ∀ B B2 v w w2,(fun (BT:List Nat) (vT:Value) (wT:World)=>∃ (xT0:List Value) (xT1:Value),vT = .tuple #[.agg xT0.toArray,xT1,vI ((AE c ((AB c other (((AL (AJ ((AB c secret coins).1) pa ((AB c secret coins).1).length) (AJ ((AE c ((AB c secret coins).1) more).2.1) pb ((AE c ((AB c secret coins).1) more).2.1).length) other).1).take coins.length)).1) (((AL (AJ ((AB c secret coins).1) pa ((AB c secret coins).1).length) (AJ ((AE c ((AB c secret coins).1) more).2.1) pb ((AE c ((AB c secret coins).1) more).2.1).length) other).1).drop coins.length)).2.2)]∧Enc.circle.rd wT (BT++O) xT0 ((AE c ((AB c other (((AL (AJ ((AB c secret coins).1) pa ((AB c secret coins).1).length) (AJ ((AE c ((AB c secret coins).1) more).2.1) pb ((AE c ((AB c secret coins).1) more).2.1).length) other).1).take coins.length)).1) (((AL (AJ ((AB c secret coins).1) pa ((AB c secret coins).1).length) (AJ ((AE c ((AB c secret coins).1) more).2.1) pb ((AE c ((AB c secret coins).1) more).2.1).length) other).1).drop coins.length)).1)∧AZ Enc.share wT (BT++O) xT1 ((AE c ((AB c other (((AL (AJ ((AB c secret coins).1) pa ((AB c secret coins).1).length) (AJ ((AE c ((AB c secret coins).1) more).2.1) pb ((AE c ((AB c secret coins).1) more).2.1).length) other).1).take coins.length)).1) (((AL (AJ ((AB c secret coins).1) pa ((AB c secret coins).1).length) (AJ ((AE c ((AB c secret coins).1) more).2.1) pb ((AE c ((AB c secret coins).1) more).2.1).length) other).1).drop coins.length)).2.1)) B v w→Mv B w B2 w2→(fun (BT:List Nat) (vT:Value) (wT:World)=>∃ (xT0:List Value) (xT1:Value),vT = .tuple #[.agg xT0.toArray,xT1,vI ((AE c ((AB c other (((AL (AJ ((AB c secret coins).1) pa ((AB c secret coins).1).length) (AJ ((AE c ((AB c secret coins).1) more).2.1) pb ((AE c ((AB c secret coins).1) more).2.1).length) other).1).take coins.length)).1) (((AL (AJ ((AB c secret coins).1) pa ((AB c secret coins).1).length) (AJ ((AE c ((AB c secret coins).1) more).2.1) pb ((AE c ((AB c secret coins).1) more).2.1).length) other).1).drop coins.length)).2.2)]∧Enc.circle.rd wT (BT++O) xT0 ((AE c ((AB c other (((AL (AJ ((AB c secret coins).1) pa ((AB c secret coins).1).length) (AJ ((AE c ((AB c secret coins).1) more).2.1) pb ((AE c ((AB c secret coins).1) more).2.1).length) other).1).take coins.length)).1) (((AL (AJ ((AB c secret coins).1) pa ((AB c secret coins).1).length) (AJ ((AE c ((AB c secret coins).1) more).2.1) pb ((AE c ((AB c secret coins).1) more).2.1).length) other).1).drop coins.length)).1)∧AZ Enc.share wT (BT++O) xT1 ((AE c ((AB c other (((AL (AJ ((AB c secret coins).1) pa ((AB c secret coins).1).length) (AJ ((AE c ((AB c secret coins).1) more).2.1) pb ((AE c ((AB c secret coins).1) more).2.1).length) other).1).take coins.length)).1) (((AL (AJ ((AB c secret coins).1) pa ((AB c secret coins).1).length) (AJ ((AE c ((AB c secret coins).1) more).2.1) pb ((AE c ((AB c secret coins).1) more).2.1).length) other).1).drop coins.length)).2.1)) B2 v w2 from fun _ _ _ _ _ ⟨y0,y1,e,h0,h1⟩ m=>⟨y0,y1,e,Enc.mv _ h0 m,h1.mv m⟩),(show ∀ B B2 v w w2,(fun (BT:List Nat) (vT:Value) (wT:World)=>∃ csT:List Value,vT = .agg csT.toArray∧Enc.circle.rd wT (BT++O) csT ((AE c ((AB c other (((AL (AJ ((AB c secret coins).1) pa ((AB c secret coins).1).length) (AJ ((AE c ((AB c secret coins).1) more).2.1) pb ((AE c ((AB c secret coins).1) more).2.1).length) other).1).take coins.length)).1) (((AL (AJ ((AB c secret coins).1) pa ((AB c secret coins).1).length) (AJ ((AE c ((AB c secret coins).1) more).2.1) pb ((AE c ((AB c secret coins).1) more).2.1).length) other).1).drop coins.length)).1)) B v w→Mv B w B2 w2→(fun (BT:List Nat) (vT:Value) (wT:World)=>∃ csT:List Value,vT = .agg csT.toArray∧Enc.circle.rd wT (BT++O) csT ((AE c ((AB c other (((AL (AJ ((AB c secret coins).1) pa ((AB c secret coins).1).length) (AJ ((AE c ((AB c secret coins).1) more).2.1) pb ((AE c ((AB c secret coins).1) more).2.1).length) other).1).take coins.length)).1) (((AL (AJ ((AB c secret coins).1) pa ((AB c secret coins).1).length) (AJ ((AE c ((AB c secret coins).1) more).2.1) pb ((AE c ((AB c secret coins).1) more).2.1).length) other).1).drop coins.length)).1)) B2 v w2 from fun _ _ _ _ _ ⟨a,e,h⟩ m=>⟨a,e,Enc.mv _ h m⟩),(show ∀ B B2 v w w2,(fun (BT:List Nat) (vT:Value) (wT:World)=>AZ Enc.share wT (BT++O) vT ((AE c ((AB c other (((AL (AJ ((AB c secret coins).1) pa ((AB c secret coins).1).length) (AJ ((AE c ((AB c secret coins).1) more).2.1) pb ((AE c ((AB c secret coins).1) more).2.1).length) other).1).take coins.length)).1) (((AL (AJ ((AB c secret coins).1) pa ((AB c secret coins).1).length) (AJ ((AE c ((AB c secret coins).1) more).2.1) pb ((AE c ((AB c secret coins).1) more).2.1).length) other).1).drop coins.length)).2.1)) B v w→Mv B w B2 w2→(fun (BT:List Nat) (vT:Value) (wT:World)=>AZ Enc.share wT (BT++O) vT ((AE c ((AB c other (((AL (AJ ((AB c secret coins).1) pa ((AB c secret coins).1).length) (AJ ((AE c ((AB c secret coins).1) more).2.1) pb ((AE c ((AB c secret coins).1) more).2.1).length) other).1).take coins.length)).1) (((AL (AJ ((AB c secret coins).1) pa ((AB c secret coins).1).length) (AJ ((AE c ((AB c secret coins).1) more).2.1) pb ((AE c ((AB c secret coins).1) more).2.1).length) other).1).drop coins.length)).2.1)) B2 v w2 from fun _ _ _ _ _ h m=>h.mv m),fun _ _ _ _ _ h=>h,PE.st,trivial⟩ ⟨?_,?_,?_,?_,?_,?_,?_,?_,?_,?_,?_,?_,trivial⟩ ?_ ?_
         ·intro F1 w1 B1_ Bs_ k1 hs_ hl_ hr_ hsep_ hf hd
          have k0:=(Keep.drew [] a7).trans k1
          obtain ⟨F2,rfl⟩:=AM (F:=F1) [(7,vP (some k7))] ⟨hf 7 kR,trivial⟩
          exact AK rfl ((TJ U28_ rfl BM rfl a6 k0 fun x8 x9=>(⟨[],(Keep.refl _ _),KY,⟨x8,rfl,x9⟩⟩)))
         ·intro F1 w1 B1_ Bs_ k1 hs_ hl_ hr_ hsep_ hf hd
          obtain ⟨F2,rfl⟩:=AM (F:=F1) [(24,b6)] ⟨hf 24 kR,trivial⟩
          exact AK rfl ((AG (b6) rfl (⟨[],(Keep.refl _ _),KY,a8⟩)))
         ·intro F1 w1 B1_ Bs_ k1 hs_ hl_ hr_ hsep_ hf hd
          obtain ⟨F2,rfl⟩:=AM (F:=F1) [(22,c2)] ⟨hf 22 kR,trivial⟩
          exact AK rfl ((AG (c2) rfl (⟨[],(Keep.refl _ _),KY,c0⟩)))
         ·intro F1 w1 B1_ Bs_ k1 hs_ hl_ hr_ hsep_ hf hd
          obtain ⟨F2,rfl⟩:=AM (F:=F1) [(2,coins_v)] ⟨hf 2 kR,trivial⟩
          exact AK rfl ((AG (coins_v) rfl (⟨[],(Keep.refl _ _),KY,a1⟩)))
         ·intro F1 w1 B1_ Bs_ k1 hs_ hl_ hr_ hsep_ hf hd
          obtain ⟨F6,F7,o8⟩:∃ v,F1 134=v∧AZ Enc.u8 a7 ((a0 :: [])++O) v (coins):=⟨_,rfl,hd 3 134 kR kR⟩
          have:=o8.len_le
          obtain ⟨F2,rfl⟩:=AM (F:=F1) [(134,F6)] ⟨F7,trivial⟩
          exact AK rfl ((o_lenRU U23_ rfl o8 (⟨[],(Keep.refl _ _),KY,rfl⟩)))
         ·intro F1 w1 B1_ Bs_ k1 hs_ hl_ hr_ hsep_ hf hd
          obtain ⟨F8,F9,o9⟩:∃ v,F1 133=v∧AZ Enc.u8 a7 ((a0 :: [])++O) v ((AL (AJ ((AB c secret coins).1) pa ((AB c secret coins).1).length) (AJ ((AE c ((AB c secret coins).1) more).2.1) pb ((AE c ((AB c secret coins).1) more).2.1).length) other).1):=⟨_,rfl,hd 2 133 kR kR⟩
          have:=o9.len_le
          obtain ⟨F2,rfl⟩:=AM (F:=F1) [(133,F8),(135,vI (coins.length:Int))] ⟨F9,hd 4 135 kR kR,trivial⟩
          refine AK rfl ((UX U23_ IR coins.length (((AL (AJ ((AB c secret coins).1) pa ((AB c secret coins).1).length) (AJ ((AE c ((AB c secret coins).1) more).2.1) pb ((AE c ((AB c secret coins).1) more).2.1).length) other).1).length) rfl (.inr ⟨.tmp 135, .i64,(coins.length:Int),rfl,rfl,rfl⟩) (.inl ⟨rfl,rfl⟩) oM oM o9 fun Q5 p0=>(?_)))
          rw [List.take_length] at p0
          exact ⟨[],(Keep.refl _ _),KY,p0⟩
         ·intro F1 w1 B1_ Bs_ k1 hs_ hl_ hr_ hsep_ hf hd
          have k0:=(Keep.drew [] a7).trans k1
          have s1:=f1.adoptL k0 hl_
          have m1:Mv (a0 :: []) a7 B1_ w1:=Mv.adoptL k0 hl_
          obtain ⟨g1,G0,j0⟩:∃ cs:List Value,F1 131 = .agg cs.toArray∧Enc.circle.rd a7 ((a0 :: [])++O) cs (c):=hd 0 131 kR kR
          have j0:Enc.circle.rd w1 (B1_++O) g1 (c):=Enc.mv Enc.circle (x:=c) j0 m1
          obtain ⟨l3,G1,g2⟩:∃ v,F1 132=v∧AZ Enc.share a7 ((a0 :: [])++O) v ((AB c other (((AL (AJ ((AB c secret coins).1) pa ((AB c secret coins).1).length) (AJ ((AE c ((AB c secret coins).1) more).2.1) pb ((AE c ((AB c secret coins).1) more).2.1).length) other).1).take coins.length)).1):=⟨_,rfl,hd 1 132 kR kR⟩
          have:=g2.len_le
          have g2:=g2.mv m1
          obtain ⟨l4,G2,g3⟩:∃ v,F1 136=v∧AZ Enc.u8 a7 ((a0 :: [])++O) v ((((AL (AJ ((AB c secret coins).1) pa ((AB c secret coins).1).length) (AJ ((AE c ((AB c secret coins).1) more).2.1) pb ((AE c ((AB c secret coins).1) more).2.1).length) other).1).drop coins.length)):=⟨_,rfl,hd 5 136 kR kR⟩
          have:=g3.len_le
          have g3:=g3.mv m1
          obtain ⟨F2,rfl⟩:=AM (F:=F1) [(131,vA g1.toArray),(132,l3),(136,l4)] ⟨G0,G1,G2,trivial⟩
          refine AK rfl ((BD (vs:=[vA g1.toArray,l3,l4]) QQ (SN (O:=B1_++O) g1 c l3 ((AB c other (((AL (AJ ((AB c secret coins).1) pa ((AB c secret coins).1).length) (AJ ((AE c ((AB c secret coins).1) more).2.1) pb ((AE c ((AB c secret coins).1) more).2.1).length) other).1).take coins.length)).1) l4 (((AL (AJ ((AB c secret coins).1) pa ((AB c secret coins).1).length) (AJ ((AE c ((AB c secret coins).1) more).2.1) pb ((AE c ((AB c secret coins).1) more).2.1).length) other).1).drop coins.length) w1 j0 g2 g3 s1.lt) rfl s1 fun Q6 Q7 Q8 Q9 G3 G4=>(?_)))
          obtain ⟨y2,G5,rfl,y3,p1⟩:=G4
          have:=p1.len_le
          exact ⟨[],G3,KY,⟨y2,G5,rfl,y3,p1⟩⟩
         ·intro F1 w1 B1_ Bs_ k1 hs_ hl_ hr_ hsep_ hf hd
          obtain ⟨g4,l5,G6,j1,g5⟩:(fun (vT:Value) (wT:World)=>∃ (xT0:List Value) (xT1:Value),vT = .tuple #[.agg xT0.toArray,xT1,vI ((AE c ((AB c other (((AL (AJ ((AB c secret coins).1) pa ((AB c secret coins).1).length) (AJ ((AE c ((AB c secret coins).1) more).2.1) pb ((AE c ((AB c secret coins).1) more).2.1).length) other).1).take coins.length)).1) (((AL (AJ ((AB c secret coins).1) pa ((AB c secret coins).1).length) (AJ ((AE c ((AB c secret coins).1) more).2.1) pb ((AE c ((AB c secret coins).1) more).2.1).length) other).1).drop coins.length)).2.2)]∧Enc.circle.rd wT ((Bs_ 1)++O) xT0 ((AE c ((AB c other (((AL (AJ ((AB c secret coins).1) pa ((AB c secret coins).1).length) (AJ ((AE c ((AB c secret coins).1) more).2.1) pb ((AE c ((AB c secret coins).1) more).2.1).length) other).1).take coins.length)).1) (((AL (AJ ((AB c secret coins).1) pa ((AB c secret coins).1).length) (AJ ((AE c ((AB c secret coins).1) more).2.1) pb ((AE c ((AB c secret coins).1) more).2.1).length) other).1).drop coins.length)).1)∧AZ Enc.share wT ((Bs_ 1)++O) xT1 ((AE c ((AB c other (((AL (AJ ((AB c secret coins).1) pa ((AB c secret coins).1).length) (AJ ((AE c ((AB c secret coins).1) more).2.1) pb ((AE c ((AB c secret coins).1) more).2.1).length) other).1).take coins.length)).1) (((AL (AJ ((AB c secret coins).1) pa ((AB c secret coins).1).length) (AJ ((AE c ((AB c secret coins).1) more).2.1) pb ((AE c ((AB c secret coins).1) more).2.1).length) other).1).drop coins.length)).2.1)) (F1 137) w1:=hd 6 137 kR kR
          have:=g5.len_le
          have j1:Enc.circle.rd w1 (B1_++O) g4 ((AE c ((AB c other (((AL (AJ ((AB c secret coins).1) pa ((AB c secret coins).1).length) (AJ ((AE c ((AB c secret coins).1) more).2.1) pb ((AE c ((AB c secret coins).1) more).2.1).length) other).1).take coins.length)).1) (((AL (AJ ((AB c secret coins).1) pa ((AB c secret coins).1).length) (AJ ((AE c ((AB c secret coins).1) more).2.1) pb ((AE c ((AB c secret coins).1) more).2.1).length) other).1).drop coins.length)).1):=Enc.mv Enc.circle (x:=(AE c ((AB c other (((AL (AJ ((AB c secret coins).1) pa ((AB c secret coins).1).length) (AJ ((AE c ((AB c secret coins).1) more).2.1) pb ((AE c ((AB c secret coins).1) more).2.1).length) other).1).take coins.length)).1) (((AL (AJ ((AB c secret coins).1) pa ((AB c secret coins).1).length) (AJ ((AE c ((AB c secret coins).1) more).2.1) pb ((AE c ((AB c secret coins).1) more).2.1).length) other).1).drop coins.length)).1) j1 (Mv.at_ (hr_ 1 kR))
          have g5:=g5.mv (Mv.at_ (hr_ 1 kR))
          obtain ⟨F2,rfl⟩:=AM (F:=F1) [(137,vT #[vA g4.toArray,l5,vI ((AE c ((AB c other (((AL (AJ ((AB c secret coins).1) pa ((AB c secret coins).1).length) (AJ ((AE c ((AB c secret coins).1) more).2.1) pb ((AE c ((AB c secret coins).1) more).2.1).length) other).1).take coins.length)).1) (((AL (AJ ((AB c secret coins).1) pa ((AB c secret coins).1).length) (AJ ((AE c ((AB c secret coins).1) more).2.1) pb ((AE c ((AB c secret coins).1) more).2.1).length) other).1).drop coins.length)).2.2)])] ⟨G6,trivial⟩
          exact AK rfl ((AG (vT #[vA g4.toArray,l5,vI ((AE c ((AB c other (((AL (AJ ((AB c secret coins).1) pa ((AB c secret coins).1).length) (AJ ((AE c ((AB c secret coins).1) more).2.1) pb ((AE c ((AB c secret coins).1) more).2.1).length) other).1).take coins.length)).1) (((AL (AJ ((AB c secret coins).1) pa ((AB c secret coins).1).length) (AJ ((AE c ((AB c secret coins).1) more).2.1) pb ((AE c ((AB c secret coins).1) more).2.1).length) other).1).drop coins.length)).2.2)]) rfl (⟨[],(Keep.refl _ _),KY,⟨g4,l5,rfl,j1,g5⟩⟩)))
         ·intro F1 w1 B1_ Bs_ k1 hs_ hl_ hr_ hsep_ hf hd
          obtain ⟨g6,G7,G8,j2,y4⟩:(fun (vT:Value) (wT:World)=>∃ (xT0:List Value) (xT1:Value),vT = .tuple #[.agg xT0.toArray,xT1,vI ((AE c ((AB c other (((AL (AJ ((AB c secret coins).1) pa ((AB c secret coins).1).length) (AJ ((AE c ((AB c secret coins).1) more).2.1) pb ((AE c ((AB c secret coins).1) more).2.1).length) other).1).take coins.length)).1) (((AL (AJ ((AB c secret coins).1) pa ((AB c secret coins).1).length) (AJ ((AE c ((AB c secret coins).1) more).2.1) pb ((AE c ((AB c secret coins).1) more).2.1).length) other).1).drop coins.length)).2.2)]∧Enc.circle.rd wT ((Bs_ 1)++O) xT0 ((AE c ((AB c other (((AL (AJ ((AB c secret coins).1) pa ((AB c secret coins).1).length) (AJ ((AE c ((AB c secret coins).1) more).2.1) pb ((AE c ((AB c secret coins).1) more).2.1).length) other).1).take coins.length)).1) (((AL (AJ ((AB c secret coins).1) pa ((AB c secret coins).1).length) (AJ ((AE c ((AB c secret coins).1) more).2.1) pb ((AE c ((AB c secret coins).1) more).2.1).length) other).1).drop coins.length)).1)∧AZ Enc.share wT ((Bs_ 1)++O) xT1 ((AE c ((AB c other (((AL (AJ ((AB c secret coins).1) pa ((AB c secret coins).1).length) (AJ ((AE c ((AB c secret coins).1) more).2.1) pb ((AE c ((AB c secret coins).1) more).2.1).length) other).1).take coins.length)).1) (((AL (AJ ((AB c secret coins).1) pa ((AB c secret coins).1).length) (AJ ((AE c ((AB c secret coins).1) more).2.1) pb ((AE c ((AB c secret coins).1) more).2.1).length) other).1).drop coins.length)).2.1)) (F1 130) w1:=hd 7 130 kR kR
          have:=y4.len_le
          have j2:Enc.circle.rd w1 (B1_++O) g6 ((AE c ((AB c other (((AL (AJ ((AB c secret coins).1) pa ((AB c secret coins).1).length) (AJ ((AE c ((AB c secret coins).1) more).2.1) pb ((AE c ((AB c secret coins).1) more).2.1).length) other).1).take coins.length)).1) (((AL (AJ ((AB c secret coins).1) pa ((AB c secret coins).1).length) (AJ ((AE c ((AB c secret coins).1) more).2.1) pb ((AE c ((AB c secret coins).1) more).2.1).length) other).1).drop coins.length)).1):=Enc.mv Enc.circle (x:=(AE c ((AB c other (((AL (AJ ((AB c secret coins).1) pa ((AB c secret coins).1).length) (AJ ((AE c ((AB c secret coins).1) more).2.1) pb ((AE c ((AB c secret coins).1) more).2.1).length) other).1).take coins.length)).1) (((AL (AJ ((AB c secret coins).1) pa ((AB c secret coins).1).length) (AJ ((AE c ((AB c secret coins).1) more).2.1) pb ((AE c ((AB c secret coins).1) more).2.1).length) other).1).drop coins.length)).1) j2 (Mv.at_ (hr_ 1 kR))
          obtain ⟨F2,rfl⟩:=AM (F:=F1) [(130,vT #[vA g6.toArray,G7,vI ((AE c ((AB c other (((AL (AJ ((AB c secret coins).1) pa ((AB c secret coins).1).length) (AJ ((AE c ((AB c secret coins).1) more).2.1) pb ((AE c ((AB c secret coins).1) more).2.1).length) other).1).take coins.length)).1) (((AL (AJ ((AB c secret coins).1) pa ((AB c secret coins).1).length) (AJ ((AE c ((AB c secret coins).1) more).2.1) pb ((AE c ((AB c secret coins).1) more).2.1).length) other).1).drop coins.length)).2.2)])] ⟨G8,trivial⟩
          exact AK rfl ((AP (vA g6.toArray) rfl rfl (⟨[],(Keep.refl _ _),KY,⟨g6,rfl,j2⟩⟩)))
         ·intro F1 w1 B1_ Bs_ k1 hs_ hl_ hr_ hsep_ hf hd
          obtain ⟨y5,u2,G9,L9,g7⟩:(fun (vT:Value) (wT:World)=>∃ (xT0:List Value) (xT1:Value),vT = .tuple #[.agg xT0.toArray,xT1,vI ((AE c ((AB c other (((AL (AJ ((AB c secret coins).1) pa ((AB c secret coins).1).length) (AJ ((AE c ((AB c secret coins).1) more).2.1) pb ((AE c ((AB c secret coins).1) more).2.1).length) other).1).take coins.length)).1) (((AL (AJ ((AB c secret coins).1) pa ((AB c secret coins).1).length) (AJ ((AE c ((AB c secret coins).1) more).2.1) pb ((AE c ((AB c secret coins).1) more).2.1).length) other).1).drop coins.length)).2.2)]∧Enc.circle.rd wT ((Bs_ 1)++O) xT0 ((AE c ((AB c other (((AL (AJ ((AB c secret coins).1) pa ((AB c secret coins).1).length) (AJ ((AE c ((AB c secret coins).1) more).2.1) pb ((AE c ((AB c secret coins).1) more).2.1).length) other).1).take coins.length)).1) (((AL (AJ ((AB c secret coins).1) pa ((AB c secret coins).1).length) (AJ ((AE c ((AB c secret coins).1) more).2.1) pb ((AE c ((AB c secret coins).1) more).2.1).length) other).1).drop coins.length)).1)∧AZ Enc.share wT ((Bs_ 1)++O) xT1 ((AE c ((AB c other (((AL (AJ ((AB c secret coins).1) pa ((AB c secret coins).1).length) (AJ ((AE c ((AB c secret coins).1) more).2.1) pb ((AE c ((AB c secret coins).1) more).2.1).length) other).1).take coins.length)).1) (((AL (AJ ((AB c secret coins).1) pa ((AB c secret coins).1).length) (AJ ((AE c ((AB c secret coins).1) more).2.1) pb ((AE c ((AB c secret coins).1) more).2.1).length) other).1).drop coins.length)).2.1)) (F1 130) w1:=hd 7 130 kR kR
          have:=g7.len_le
          have g7:=g7.mv (Mv.at_ (hr_ 1 kR))
          obtain ⟨F2,rfl⟩:=AM (F:=F1) [(130,vT #[vA y5.toArray,u2,vI ((AE c ((AB c other (((AL (AJ ((AB c secret coins).1) pa ((AB c secret coins).1).length) (AJ ((AE c ((AB c secret coins).1) more).2.1) pb ((AE c ((AB c secret coins).1) more).2.1).length) other).1).take coins.length)).1) (((AL (AJ ((AB c secret coins).1) pa ((AB c secret coins).1).length) (AJ ((AE c ((AB c secret coins).1) more).2.1) pb ((AE c ((AB c secret coins).1) more).2.1).length) other).1).drop coins.length)).2.2)])] ⟨G9,trivial⟩
          exact AK rfl ((AP (u2) rfl rfl (⟨[],(Keep.refl _ _),KY,g7⟩)))
         ·intro F1 w1 B1_ Bs_ k1 hs_ hl_ hr_ hsep_ hf hd
          obtain ⟨y6,H0,H1,M0,y7⟩:(fun (vT:Value) (wT:World)=>∃ (xT0:List Value) (xT1:Value),vT = .tuple #[.agg xT0.toArray,xT1,vI ((AE c ((AB c other (((AL (AJ ((AB c secret coins).1) pa ((AB c secret coins).1).length) (AJ ((AE c ((AB c secret coins).1) more).2.1) pb ((AE c ((AB c secret coins).1) more).2.1).length) other).1).take coins.length)).1) (((AL (AJ ((AB c secret coins).1) pa ((AB c secret coins).1).length) (AJ ((AE c ((AB c secret coins).1) more).2.1) pb ((AE c ((AB c secret coins).1) more).2.1).length) other).1).drop coins.length)).2.2)]∧Enc.circle.rd wT ((Bs_ 1)++O) xT0 ((AE c ((AB c other (((AL (AJ ((AB c secret coins).1) pa ((AB c secret coins).1).length) (AJ ((AE c ((AB c secret coins).1) more).2.1) pb ((AE c ((AB c secret coins).1) more).2.1).length) other).1).take coins.length)).1) (((AL (AJ ((AB c secret coins).1) pa ((AB c secret coins).1).length) (AJ ((AE c ((AB c secret coins).1) more).2.1) pb ((AE c ((AB c secret coins).1) more).2.1).length) other).1).drop coins.length)).1)∧AZ Enc.share wT ((Bs_ 1)++O) xT1 ((AE c ((AB c other (((AL (AJ ((AB c secret coins).1) pa ((AB c secret coins).1).length) (AJ ((AE c ((AB c secret coins).1) more).2.1) pb ((AE c ((AB c secret coins).1) more).2.1).length) other).1).take coins.length)).1) (((AL (AJ ((AB c secret coins).1) pa ((AB c secret coins).1).length) (AJ ((AE c ((AB c secret coins).1) more).2.1) pb ((AE c ((AB c secret coins).1) more).2.1).length) other).1).drop coins.length)).2.1)) (F1 130) w1:=hd 7 130 kR kR
          have:=y7.len_le
          obtain ⟨F2,rfl⟩:=AM (F:=F1) [(130,vT #[vA y6.toArray,H0,vI ((AE c ((AB c other (((AL (AJ ((AB c secret coins).1) pa ((AB c secret coins).1).length) (AJ ((AE c ((AB c secret coins).1) more).2.1) pb ((AE c ((AB c secret coins).1) more).2.1).length) other).1).take coins.length)).1) (((AL (AJ ((AB c secret coins).1) pa ((AB c secret coins).1).length) (AJ ((AE c ((AB c secret coins).1) more).2.1) pb ((AE c ((AB c secret coins).1) more).2.1).length) other).1).drop coins.length)).2.2)])] ⟨H1,trivial⟩
          exact AK rfl ((AP (vI ((AE c ((AB c other (((AL (AJ ((AB c secret coins).1) pa ((AB c secret coins).1).length) (AJ ((AE c ((AB c secret coins).1) more).2.1) pb ((AE c ((AB c secret coins).1) more).2.1).length) other).1).take coins.length)).1) (((AL (AJ ((AB c secret coins).1) pa ((AB c secret coins).1).length) (AJ ((AE c ((AB c secret coins).1) more).2.1) pb ((AE c ((AB c secret coins).1) more).2.1).length) other).1).drop coins.length)).2.2)) rfl rfl (⟨[],(Keep.refl _ _),KY,rfl⟩)))
         ·intro F1 w1 B1_ Bs_ k1 hs_ hl_ hr_ hsep_ hf hd
          have k0:=(Keep.drew [] a7).trans k1
          have s1:=f1.adoptL k0 hl_
          obtain ⟨F2,rfl⟩:=AM (F:=F1) [] trivial
          refine AK rfl ((CU [vI 0,vI 0,vI 0,nS,nS] LC rfl s1 fun H2 R0 R1 R2 R3 H3 y8=>(?_)))
          have y9:a7.heap.size≤H2:=by have:=k0.size;omega
          exact ⟨[],H3,KY,⟨_,rfl,y9,(by intro h;have:=lt_of s1 _ h;omega),y8⟩⟩
         ·intro h4 e3 d3 u3 j3 z0 k3 e6 d4
          obtain ⟨c3,H4,p2,z1,p3⟩:(PE a7 28 [vI 0,vI 0,vI 0,nS,nS]) (d3 2) (h4 26) e3:=e6 11 26 kR (by decide) kR kR
          have p4:=p3.lt
          have z2:∀ x∈(a0 :: []),x∈(a0 :: [])∨(a7.heap.size≤x∧x<e3.heap.size):=fun x hx=>.inl hx
          have v8:∀ x∈(a0 :: []),x∈(a0 :: []):=fun x hx=>hx
          have z3:∀ x∈(a0 :: []),x∈d3 1:=fun x hx=>j3 1 x hx
          have M1:∀ x∈(a0 :: []),x∈d3 2:=fun x hx=>j3 2 x hx
          have p5:∀ x∈(c3 :: (a0 :: [])),x∈(a0 :: [])∨(a7.heap.size≤x∧x<e3.heap.size):=fun x hx=>by rcases List.mem_cons.1 hx with rfl|hx;exact .inr ⟨p2,p4⟩;exact z2 x hx
          have K3:∀ x∈(a0 :: []),x∈(c3 :: (a0 :: [])):=fun x hx=>List.mem_cons_of_mem _ (v8 x hx)
          have p6:∀ x∈(c3 :: (a0 :: [])),x∈d3 1:=fun x hx=>by rcases List.mem_cons.1 hx with rfl|hx;exact k3 2 1 _ (by decide) p2 p4 z1;exact z3 x hx
          have H5:=f1.adoptL u3 p5
          have l6:Mv (a0 :: []) a7 (c3 :: (a0 :: [])) e3:=Mv.adoptL u3 p5
          have M2:FM a0 c3:=by show a0≠c3;have:=b2.lt;omega
          obtain ⟨p7,H6,j4⟩:∃ cs:List Value,h4 138 = .agg cs.toArray∧Enc.circle.rd e3 ((d3 1)++O) cs ((AE c ((AB c other (((AL (AJ ((AB c secret coins).1) pa ((AB c secret coins).1).length) (AJ ((AE c ((AB c secret coins).1) more).2.1) pb ((AE c ((AB c secret coins).1) more).2.1).length) other).1).take coins.length)).1) (((AL (AJ ((AB c secret coins).1) pa ((AB c secret coins).1).length) (AJ ((AE c ((AB c secret coins).1) more).2.1) pb ((AE c ((AB c secret coins).1) more).2.1).length) other).1).drop coins.length)).1):=e6 8 138 kR (by decide) kR kR
          have j4:Enc.circle.rd e3 ((c3 :: (a0 :: []))++O) p7 ((AE c ((AB c other (((AL (AJ ((AB c secret coins).1) pa ((AB c secret coins).1).length) (AJ ((AE c ((AB c secret coins).1) more).2.1) pb ((AE c ((AB c secret coins).1) more).2.1).length) other).1).take coins.length)).1) (((AL (AJ ((AB c secret coins).1) pa ((AB c secret coins).1).length) (AJ ((AE c ((AB c secret coins).1) more).2.1) pb ((AE c ((AB c secret coins).1) more).2.1).length) other).1).drop coins.length)).1):=Enc.mv Enc.circle (x:=(AE c ((AB c other (((AL (AJ ((AB c secret coins).1) pa ((AB c secret coins).1).length) (AJ ((AE c ((AB c secret coins).1) more).2.1) pb ((AE c ((AB c secret coins).1) more).2.1).length) other).1).take coins.length)).1) (((AL (AJ ((AB c secret coins).1) pa ((AB c secret coins).1).length) (AJ ((AE c ((AB c secret coins).1) more).2.1) pb ((AE c ((AB c secret coins).1) more).2.1).length) other).1).drop coins.length)).1) j4 (Mv.at_ p6)
          obtain ⟨l7,H7,d5⟩:∃ v,h4 139=v∧AZ Enc.share e3 ((d3 1)++O) v ((AE c ((AB c other (((AL (AJ ((AB c secret coins).1) pa ((AB c secret coins).1).length) (AJ ((AE c ((AB c secret coins).1) more).2.1) pb ((AE c ((AB c secret coins).1) more).2.1).length) other).1).take coins.length)).1) (((AL (AJ ((AB c secret coins).1) pa ((AB c secret coins).1).length) (AJ ((AE c ((AB c secret coins).1) more).2.1) pb ((AE c ((AB c secret coins).1) more).2.1).length) other).1).drop coins.length)).2.1):=⟨_,rfl,e6 9 139 kR (by decide) kR kR⟩
          have:=d5.len_le
          have d5:=d5.mv (Mv.at_ p6)
          have a2:=a2.mv l6
          have a3:=a3.mv l6
          have a8:=a8.mv l6
          obtain ⟨F2,rfl⟩:=AM (F:=h4) [(20,a9),(21,b0),(24,b6),(25,vI ((AB c other (((AL (AJ ((AB c secret coins).1) pa ((AB c secret coins).1).length) (AJ ((AE c ((AB c secret coins).1) more).2.1) pb ((AE c ((AB c secret coins).1) more).2.1).length) other).1).take coins.length)).2)),(157,undef),(26,vP (some ⟨c3,0,none⟩)),(138,vA p7.toArray),(139,l7),(140,vI ((AE c ((AB c other (((AL (AJ ((AB c secret coins).1) pa ((AB c secret coins).1).length) (AJ ((AE c ((AB c secret coins).1) more).2.1) pb ((AE c ((AB c secret coins).1) more).2.1).length) other).1).take coins.length)).1) (((AL (AJ ((AB c secret coins).1) pa ((AB c secret coins).1).length) (AJ ((AE c ((AB c secret coins).1) more).2.1) pb ((AE c ((AB c secret coins).1) more).2.1).length) other).1).drop coins.length)).2.2))] ⟨d4 20 kR,d4 21 kR,d4 24 kR,d4 25 kR,d4 157 kR,H4,H6,H7,e6 10 140 kR (by decide) kR kR,trivial⟩
          clear e6 d4 j3 z0 k3
          obtain ⟨u4,u5,rfl,p8,p9⟩:=j4
          have:=p8.len_le
          have:=p9.len_le
          refine BX (BG (vs:=[vI (((AE c ((AB c other (((AL (AJ ((AB c secret coins).1) pa ((AB c secret coins).1).length) (AJ ((AE c ((AB c secret coins).1) more).2.1) pb ((AE c ((AB c secret coins).1) more).2.1).length) other).1).take coins.length)).1) (((AL (AJ ((AB c secret coins).1) pa ((AB c secret coins).1).length) (AJ ((AE c ((AB c secret coins).1) more).2.1) pb ((AE c ((AB c secret coins).1) more).2.1).length) other).1).drop coins.length)).1).epoch),vI (((AE c ((AB c other (((AL (AJ ((AB c secret coins).1) pa ((AB c secret coins).1).length) (AJ ((AE c ((AB c secret coins).1) more).2.1) pb ((AE c ((AB c secret coins).1) more).2.1).length) other).1).take coins.length)).1) (((AL (AJ ((AB c secret coins).1) pa ((AB c secret coins).1).length) (AJ ((AE c ((AB c secret coins).1) more).2.1) pb ((AE c ((AB c secret coins).1) more).2.1).length) other).1).drop coins.length)).1).threshold),vI (((AE c ((AB c other (((AL (AJ ((AB c secret coins).1) pa ((AB c secret coins).1).length) (AJ ((AE c ((AB c secret coins).1) more).2.1) pb ((AE c ((AB c secret coins).1) more).2.1).length) other).1).take coins.length)).1) (((AL (AJ ((AB c secret coins).1) pa ((AB c secret coins).1).length) (AJ ((AE c ((AB c secret coins).1) more).2.1) pb ((AE c ((AB c secret coins).1) more).2.1).length) other).1).drop coins.length)).1).wait),u4,u5]) (.agg #[vI (((AE c ((AB c other (((AL (AJ ((AB c secret coins).1) pa ((AB c secret coins).1).length) (AJ ((AE c ((AB c secret coins).1) more).2.1) pb ((AE c ((AB c secret coins).1) more).2.1).length) other).1).take coins.length)).1) (((AL (AJ ((AB c secret coins).1) pa ((AB c secret coins).1).length) (AJ ((AE c ((AB c secret coins).1) more).2.1) pb ((AE c ((AB c secret coins).1) more).2.1).length) other).1).drop coins.length)).1).epoch),vI (((AE c ((AB c other (((AL (AJ ((AB c secret coins).1) pa ((AB c secret coins).1).length) (AJ ((AE c ((AB c secret coins).1) more).2.1) pb ((AE c ((AB c secret coins).1) more).2.1).length) other).1).take coins.length)).1) (((AL (AJ ((AB c secret coins).1) pa ((AB c secret coins).1).length) (AJ ((AE c ((AB c secret coins).1) more).2.1) pb ((AE c ((AB c secret coins).1) more).2.1).length) other).1).drop coins.length)).1).threshold),vI (((AE c ((AB c other (((AL (AJ ((AB c secret coins).1) pa ((AB c secret coins).1).length) (AJ ((AE c ((AB c secret coins).1) more).2.1) pb ((AE c ((AB c secret coins).1) more).2.1).length) other).1).take coins.length)).1) (((AL (AJ ((AB c secret coins).1) pa ((AB c secret coins).1).length) (AJ ((AE c ((AB c secret coins).1) more).2.1) pb ((AE c ((AB c secret coins).1) more).2.1).length) other).1).drop coins.length)).1).wait),u4,u5]) rfl rfl rfl BM (fun u hu=>by simp only [List.mem_cons,List.not_mem_nil,or_false] at hu;rcases hu with rfl|rfl|rfl|rfl|rfl <;> first|rfl|exact p8.oneCell|exact p9.oneCell) (by repeat (constructor)) p3 oT H5 fun R4 H8 h5 R5 M3=>(?_))
          have a2:=a2.mv h5
          have a3:=a3.mv h5
          have a8:=a8.mv h5
          have d5:=d5.mv h5
          refine AA (AF (l7) rfl (AA (AF (vI ((AE c ((AB c other (((AL (AJ ((AB c secret coins).1) pa ((AB c secret coins).1).length) (AJ ((AE c ((AB c secret coins).1) more).2.1) pb ((AE c ((AB c secret coins).1) more).2.1).length) other).1).take coins.length)).1) (((AL (AJ ((AB c secret coins).1) pa ((AB c secret coins).1).length) (AJ ((AE c ((AB c secret coins).1) more).2.1) pb ((AE c ((AB c secret coins).1) more).2.1).length) other).1).drop coins.length)).2.2)) rfl (AH (AD (?_))))))
          exact ⟨b6,l7,(c3 :: (a0 :: [])),trivial,⟨_,BB _ ⟨rfl,rfl,rfl,(by rfl),rfl,(by rfl),rfl,trivial⟩⟩,H8,(by rw [show (AB c other ((AL (AJ (AB c secret coins).1 pa (AB c secret coins).1.length) (AJ (AE c (AB c secret coins).1 more).2.1 pb (AE c (AB c secret coins).1 more).2.1.length) other).1.take coins.length)).1=(AB c other (((AL (AJ ((AB c secret coins).1) pa ((AB c secret coins).1).length) (AJ ((AE c ((AB c secret coins).1) more).2.1) pb ((AE c ((AB c secret coins).1) more).2.1).length) other).1).take coins.length)).1 from rfl];exact a8),(by rw [show (AE c (AB c other ((AL (AJ (AB c secret coins).1 pa (AB c secret coins).1.length) (AJ (AE c (AB c secret coins).1 more).2.1 pb (AE c (AB c secret coins).1 more).2.1.length) other).1.take coins.length)).1 ((AL (AJ (AB c secret coins).1 pa (AB c secret coins).1.length) (AJ (AE c (AB c secret coins).1 more).2.1 pb (AE c (AB c secret coins).1 more).2.1.length) other).1.drop coins.length)).2.1=(AE c ((AB c other (((AL (AJ ((AB c secret coins).1) pa ((AB c secret coins).1).length) (AJ ((AE c ((AB c secret coins).1) more).2.1) pb ((AE c ((AB c secret coins).1) more).2.1).length) other).1).take coins.length)).1) (((AL (AJ ((AB c secret coins).1) pa ((AB c secret coins).1).length) (AJ ((AE c ((AB c secret coins).1) more).2.1) pb ((AE c ((AB c secret coins).1) more).2.1).length) other).1).drop coins.length)).2.1 from rfl];exact d5),a2,a3⟩
         intro cx_ hcx_
         match cx_,hcx_ with
         | 0,_=>
          intro h6 e4 c9 u6 j5 z4 k4 e7 d6
          obtain ⟨c4,H9,q0,z5,q1⟩:(PE a7 28 [vI 0,vI 0,vI 0,nS,nS]) (c9 2) (h6 26) e4:=e7 11 26 kR (by decide) kR kR
          have q2:=q1.lt
          have z6:∀ x∈(a0 :: []),x∈(a0 :: [])∨(a7.heap.size≤x∧x<e4.heap.size):=fun x hx=>.inl hx
          have v9:∀ x∈(a0 :: []),x∈(a0 :: []):=fun x hx=>hx
          have z7:∀ x∈(a0 :: []),x∈c9 1:=fun x hx=>j5 1 x hx
          have M4:∀ x∈(a0 :: []),x∈c9 2:=fun x hx=>j5 2 x hx
          have q3:∀ x∈(c4 :: (a0 :: [])),x∈(a0 :: [])∨(a7.heap.size≤x∧x<e4.heap.size):=fun x hx=>by rcases List.mem_cons.1 hx with rfl|hx;exact .inr ⟨q0,q2⟩;exact z6 x hx
          have K4:∀ x∈(a0 :: []),x∈(c4 :: (a0 :: [])):=fun x hx=>List.mem_cons_of_mem _ (v9 x hx)
          have q4:∀ x∈(c4 :: (a0 :: [])),x∈c9 1:=fun x hx=>by rcases List.mem_cons.1 hx with rfl|hx;exact k4 2 1 _ (by decide) q0 q2 z5;exact z7 x hx
          have I0:=f1.adoptL u6 q3
          have l8:Mv (a0 :: []) a7 (c4 :: (a0 :: [])) e4:=Mv.adoptL u6 q3
          have M5:FM a0 c4:=by show a0≠c4;have:=b2.lt;omega
          obtain ⟨z8,h7,I1,M6,d7⟩:(fun (vT:Value) (wT:World)=>∃ (xT0:List Value) (xT1:Value),vT = .tuple #[.agg xT0.toArray,xT1,vI ((AE c ((AB c other (((AL (AJ ((AB c secret coins).1) pa ((AB c secret coins).1).length) (AJ ((AE c ((AB c secret coins).1) more).2.1) pb ((AE c ((AB c secret coins).1) more).2.1).length) other).1).take coins.length)).1) (((AL (AJ ((AB c secret coins).1) pa ((AB c secret coins).1).length) (AJ ((AE c ((AB c secret coins).1) more).2.1) pb ((AE c ((AB c secret coins).1) more).2.1).length) other).1).drop coins.length)).2.2)]∧Enc.circle.rd wT ((c9 1)++O) xT0 ((AE c ((AB c other (((AL (AJ ((AB c secret coins).1) pa ((AB c secret coins).1).length) (AJ ((AE c ((AB c secret coins).1) more).2.1) pb ((AE c ((AB c secret coins).1) more).2.1).length) other).1).take coins.length)).1) (((AL (AJ ((AB c secret coins).1) pa ((AB c secret coins).1).length) (AJ ((AE c ((AB c secret coins).1) more).2.1) pb ((AE c ((AB c secret coins).1) more).2.1).length) other).1).drop coins.length)).1)∧AZ Enc.share wT ((c9 1)++O) xT1 ((AE c ((AB c other (((AL (AJ ((AB c secret coins).1) pa ((AB c secret coins).1).length) (AJ ((AE c ((AB c secret coins).1) more).2.1) pb ((AE c ((AB c secret coins).1) more).2.1).length) other).1).take coins.length)).1) (((AL (AJ ((AB c secret coins).1) pa ((AB c secret coins).1).length) (AJ ((AE c ((AB c secret coins).1) more).2.1) pb ((AE c ((AB c secret coins).1) more).2.1).length) other).1).drop coins.length)).2.1)) (h6 130) e4:=e7 7 130 kR (by decide) kR kR
          have:=d7.len_le
          have d7:=d7.mv (Mv.at_ q4)
          obtain ⟨q5,I2,j6⟩:∃ cs:List Value,h6 138 = .agg cs.toArray∧Enc.circle.rd e4 ((c9 1)++O) cs ((AE c ((AB c other (((AL (AJ ((AB c secret coins).1) pa ((AB c secret coins).1).length) (AJ ((AE c ((AB c secret coins).1) more).2.1) pb ((AE c ((AB c secret coins).1) more).2.1).length) other).1).take coins.length)).1) (((AL (AJ ((AB c secret coins).1) pa ((AB c secret coins).1).length) (AJ ((AE c ((AB c secret coins).1) more).2.1) pb ((AE c ((AB c secret coins).1) more).2.1).length) other).1).drop coins.length)).1):=e7 8 138 kR (by decide) kR kR
          have j6:Enc.circle.rd e4 ((c4 :: (a0 :: []))++O) q5 ((AE c ((AB c other (((AL (AJ ((AB c secret coins).1) pa ((AB c secret coins).1).length) (AJ ((AE c ((AB c secret coins).1) more).2.1) pb ((AE c ((AB c secret coins).1) more).2.1).length) other).1).take coins.length)).1) (((AL (AJ ((AB c secret coins).1) pa ((AB c secret coins).1).length) (AJ ((AE c ((AB c secret coins).1) more).2.1) pb ((AE c ((AB c secret coins).1) more).2.1).length) other).1).drop coins.length)).1):=Enc.mv Enc.circle (x:=(AE c ((AB c other (((AL (AJ ((AB c secret coins).1) pa ((AB c secret coins).1).length) (AJ ((AE c ((AB c secret coins).1) more).2.1) pb ((AE c ((AB c secret coins).1) more).2.1).length) other).1).take coins.length)).1) (((AL (AJ ((AB c secret coins).1) pa ((AB c secret coins).1).length) (AJ ((AE c ((AB c secret coins).1) more).2.1) pb ((AE c ((AB c secret coins).1) more).2.1).length) other).1).drop coins.length)).1) j6 (Mv.at_ q4)
          have a2:=a2.mv l8
          have a3:=a3.mv l8
          have a8:=a8.mv l8
          obtain ⟨F2,rfl⟩:=AM (F:=h6) [(20,a9),(21,b0),(24,b6),(25,vI ((AB c other (((AL (AJ ((AB c secret coins).1) pa ((AB c secret coins).1).length) (AJ ((AE c ((AB c secret coins).1) more).2.1) pb ((AE c ((AB c secret coins).1) more).2.1).length) other).1).take coins.length)).2)),(157,undef),(26,vP (some ⟨c4,0,none⟩)),(130,vT #[vA z8.toArray,h7,vI ((AE c ((AB c other (((AL (AJ ((AB c secret coins).1) pa ((AB c secret coins).1).length) (AJ ((AE c ((AB c secret coins).1) more).2.1) pb ((AE c ((AB c secret coins).1) more).2.1).length) other).1).take coins.length)).1) (((AL (AJ ((AB c secret coins).1) pa ((AB c secret coins).1).length) (AJ ((AE c ((AB c secret coins).1) more).2.1) pb ((AE c ((AB c secret coins).1) more).2.1).length) other).1).drop coins.length)).2.2)]),(138,vA q5.toArray),(140,vI ((AE c ((AB c other (((AL (AJ ((AB c secret coins).1) pa ((AB c secret coins).1).length) (AJ ((AE c ((AB c secret coins).1) more).2.1) pb ((AE c ((AB c secret coins).1) more).2.1).length) other).1).take coins.length)).1) (((AL (AJ ((AB c secret coins).1) pa ((AB c secret coins).1).length) (AJ ((AE c ((AB c secret coins).1) more).2.1) pb ((AE c ((AB c secret coins).1) more).2.1).length) other).1).drop coins.length)).2.2))] ⟨d6 20 kR,d6 21 kR,d6 24 kR,d6 25 kR,d6 157 kR,H9,I1,I2,e7 10 140 kR (by decide) kR kR,trivial⟩
          clear e7 d6 j5 z4 k4
          obtain ⟨u7,u9,rfl,q6,q7⟩:=j6
          have:=q6.len_le
          have:=q7.len_le
          refine BX (BG (vs:=[vI (((AE c ((AB c other (((AL (AJ ((AB c secret coins).1) pa ((AB c secret coins).1).length) (AJ ((AE c ((AB c secret coins).1) more).2.1) pb ((AE c ((AB c secret coins).1) more).2.1).length) other).1).take coins.length)).1) (((AL (AJ ((AB c secret coins).1) pa ((AB c secret coins).1).length) (AJ ((AE c ((AB c secret coins).1) more).2.1) pb ((AE c ((AB c secret coins).1) more).2.1).length) other).1).drop coins.length)).1).epoch),vI (((AE c ((AB c other (((AL (AJ ((AB c secret coins).1) pa ((AB c secret coins).1).length) (AJ ((AE c ((AB c secret coins).1) more).2.1) pb ((AE c ((AB c secret coins).1) more).2.1).length) other).1).take coins.length)).1) (((AL (AJ ((AB c secret coins).1) pa ((AB c secret coins).1).length) (AJ ((AE c ((AB c secret coins).1) more).2.1) pb ((AE c ((AB c secret coins).1) more).2.1).length) other).1).drop coins.length)).1).threshold),vI (((AE c ((AB c other (((AL (AJ ((AB c secret coins).1) pa ((AB c secret coins).1).length) (AJ ((AE c ((AB c secret coins).1) more).2.1) pb ((AE c ((AB c secret coins).1) more).2.1).length) other).1).take coins.length)).1) (((AL (AJ ((AB c secret coins).1) pa ((AB c secret coins).1).length) (AJ ((AE c ((AB c secret coins).1) more).2.1) pb ((AE c ((AB c secret coins).1) more).2.1).length) other).1).drop coins.length)).1).wait),u7,u9]) (.agg #[vI (((AE c ((AB c other (((AL (AJ ((AB c secret coins).1) pa ((AB c secret coins).1).length) (AJ ((AE c ((AB c secret coins).1) more).2.1) pb ((AE c ((AB c secret coins).1) more).2.1).length) other).1).take coins.length)).1) (((AL (AJ ((AB c secret coins).1) pa ((AB c secret coins).1).length) (AJ ((AE c ((AB c secret coins).1) more).2.1) pb ((AE c ((AB c secret coins).1) more).2.1).length) other).1).drop coins.length)).1).epoch),vI (((AE c ((AB c other (((AL (AJ ((AB c secret coins).1) pa ((AB c secret coins).1).length) (AJ ((AE c ((AB c secret coins).1) more).2.1) pb ((AE c ((AB c secret coins).1) more).2.1).length) other).1).take coins.length)).1) (((AL (AJ ((AB c secret coins).1) pa ((AB c secret coins).1).length) (AJ ((AE c ((AB c secret coins).1) more).2.1) pb ((AE c ((AB c secret coins).1) more).2.1).length) other).1).drop coins.length)).1).threshold),vI (((AE c ((AB c other (((AL (AJ ((AB c secret coins).1) pa ((AB c secret coins).1).length) (AJ ((AE c ((AB c secret coins).1) more).2.1) pb ((AE c ((AB c secret coins).1) more).2.1).length) other).1).take coins.length)).1) (((AL (AJ ((AB c secret coins).1) pa ((AB c secret coins).1).length) (AJ ((AE c ((AB c secret coins).1) more).2.1) pb ((AE c ((AB c secret coins).1) more).2.1).length) other).1).drop coins.length)).1).wait),u7,u9]) rfl rfl rfl BM (fun u hu=>by simp only [List.mem_cons,List.not_mem_nil,or_false] at hu;rcases hu with rfl|rfl|rfl|rfl|rfl <;> first|rfl|exact q6.oneCell|exact q7.oneCell) (by repeat (constructor)) q1 oT I0 fun R6 I3 h8 R7 M7=>(?_))
          have a2:=a2.mv h8
          have a3:=a3.mv h8
          have a8:=a8.mv h8
          have d7:=d7.mv h8
          refine AA (AP (h7) rfl rfl (AA (AF (h7) rfl (AA (AF (vI ((AE c ((AB c other (((AL (AJ ((AB c secret coins).1) pa ((AB c secret coins).1).length) (AJ ((AE c ((AB c secret coins).1) more).2.1) pb ((AE c ((AB c secret coins).1) more).2.1).length) other).1).take coins.length)).1) (((AL (AJ ((AB c secret coins).1) pa ((AB c secret coins).1).length) (AJ ((AE c ((AB c secret coins).1) more).2.1) pb ((AE c ((AB c secret coins).1) more).2.1).length) other).1).drop coins.length)).2.2)) rfl (AH (AD (?_))))))))
          exact ⟨b6,h7,(c4 :: (a0 :: [])),trivial,⟨_,BB _ ⟨rfl,rfl,rfl,(by rfl),rfl,(by rfl),rfl,trivial⟩⟩,I3,(by rw [show (AB c other ((AL (AJ (AB c secret coins).1 pa (AB c secret coins).1.length) (AJ (AE c (AB c secret coins).1 more).2.1 pb (AE c (AB c secret coins).1 more).2.1.length) other).1.take coins.length)).1=(AB c other (((AL (AJ ((AB c secret coins).1) pa ((AB c secret coins).1).length) (AJ ((AE c ((AB c secret coins).1) more).2.1) pb ((AE c ((AB c secret coins).1) more).2.1).length) other).1).take coins.length)).1 from rfl];exact a8),(by rw [show (AE c (AB c other ((AL (AJ (AB c secret coins).1 pa (AB c secret coins).1.length) (AJ (AE c (AB c secret coins).1 more).2.1 pb (AE c (AB c secret coins).1 more).2.1.length) other).1.take coins.length)).1 ((AL (AJ (AB c secret coins).1 pa (AB c secret coins).1.length) (AJ (AE c (AB c secret coins).1 more).2.1 pb (AE c (AB c secret coins).1 more).2.1.length) other).1.drop coins.length)).2.1=(AE c ((AB c other (((AL (AJ ((AB c secret coins).1) pa ((AB c secret coins).1).length) (AJ ((AE c ((AB c secret coins).1) more).2.1) pb ((AE c ((AB c secret coins).1) more).2.1).length) other).1).take coins.length)).1) (((AL (AJ ((AB c secret coins).1) pa ((AB c secret coins).1).length) (AJ ((AE c ((AB c secret coins).1) more).2.1) pb ((AE c ((AB c secret coins).1) more).2.1).length) other).1).drop coins.length)).2.1 from rfl];exact d7),a2,a3⟩
         | 1,_=>
          intro g8 d2 c1 v0 j7 z9 k5 e8 d8
          obtain ⟨c5,I4,q8,A0,q9⟩:(PE a7 28 [vI 0,vI 0,vI 0,nS,nS]) (c1 2) (g8 26) d2:=e8 11 26 kR (by decide) kR kR
          have r0:=q9.lt
          have A1:∀ x∈(a0 :: []),x∈(a0 :: [])∨(a7.heap.size≤x∧x<d2.heap.size):=fun x hx=>.inl hx
          have w0:∀ x∈(a0 :: []),x∈(a0 :: []):=fun x hx=>hx
          have A2:∀ x∈(a0 :: []),x∈c1 1:=fun x hx=>j7 1 x hx
          have M8:∀ x∈(a0 :: []),x∈c1 2:=fun x hx=>j7 2 x hx
          have r4:∀ x∈(c5 :: (a0 :: [])),x∈(a0 :: [])∨(a7.heap.size≤x∧x<d2.heap.size):=fun x hx=>by rcases List.mem_cons.1 hx with rfl|hx;exact .inr ⟨q8,r0⟩;exact A1 x hx
          have K5:∀ x∈(a0 :: []),x∈(c5 :: (a0 :: [])):=fun x hx=>List.mem_cons_of_mem _ (w0 x hx)
          have r5:∀ x∈(c5 :: (a0 :: [])),x∈c1 1:=fun x hx=>by rcases List.mem_cons.1 hx with rfl|hx;exact k5 2 1 _ (by decide) q8 r0 A0;exact A2 x hx
          have I5:=f1.adoptL v0 r4
          have l9:Mv (a0 :: []) a7 (c5 :: (a0 :: [])) d2:=Mv.adoptL v0 r4
          have M9:FM a0 c5:=by show a0≠c5;have:=b2.lt;omega
          obtain ⟨A3,I6,I7,N0,A4⟩:(fun (vT:Value) (wT:World)=>∃ (xT0:List Value) (xT1:Value),vT = .tuple #[.agg xT0.toArray,xT1,vI ((AE c ((AB c other (((AL (AJ ((AB c secret coins).1) pa ((AB c secret coins).1).length) (AJ ((AE c ((AB c secret coins).1) more).2.1) pb ((AE c ((AB c secret coins).1) more).2.1).length) other).1).take coins.length)).1) (((AL (AJ ((AB c secret coins).1) pa ((AB c secret coins).1).length) (AJ ((AE c ((AB c secret coins).1) more).2.1) pb ((AE c ((AB c secret coins).1) more).2.1).length) other).1).drop coins.length)).2.2)]∧Enc.circle.rd wT ((c1 1)++O) xT0 ((AE c ((AB c other (((AL (AJ ((AB c secret coins).1) pa ((AB c secret coins).1).length) (AJ ((AE c ((AB c secret coins).1) more).2.1) pb ((AE c ((AB c secret coins).1) more).2.1).length) other).1).take coins.length)).1) (((AL (AJ ((AB c secret coins).1) pa ((AB c secret coins).1).length) (AJ ((AE c ((AB c secret coins).1) more).2.1) pb ((AE c ((AB c secret coins).1) more).2.1).length) other).1).drop coins.length)).1)∧AZ Enc.share wT ((c1 1)++O) xT1 ((AE c ((AB c other (((AL (AJ ((AB c secret coins).1) pa ((AB c secret coins).1).length) (AJ ((AE c ((AB c secret coins).1) more).2.1) pb ((AE c ((AB c secret coins).1) more).2.1).length) other).1).take coins.length)).1) (((AL (AJ ((AB c secret coins).1) pa ((AB c secret coins).1).length) (AJ ((AE c ((AB c secret coins).1) more).2.1) pb ((AE c ((AB c secret coins).1) more).2.1).length) other).1).drop coins.length)).2.1)) (g8 130) d2:=e8 7 130 kR (by decide) kR kR
          have:=A4.len_le
          obtain ⟨r6,I8,j8⟩:∃ cs:List Value,g8 138 = .agg cs.toArray∧Enc.circle.rd d2 ((c1 1)++O) cs ((AE c ((AB c other (((AL (AJ ((AB c secret coins).1) pa ((AB c secret coins).1).length) (AJ ((AE c ((AB c secret coins).1) more).2.1) pb ((AE c ((AB c secret coins).1) more).2.1).length) other).1).take coins.length)).1) (((AL (AJ ((AB c secret coins).1) pa ((AB c secret coins).1).length) (AJ ((AE c ((AB c secret coins).1) more).2.1) pb ((AE c ((AB c secret coins).1) more).2.1).length) other).1).drop coins.length)).1):=e8 8 138 kR (by decide) kR kR
          have j8:Enc.circle.rd d2 ((c5 :: (a0 :: []))++O) r6 ((AE c ((AB c other (((AL (AJ ((AB c secret coins).1) pa ((AB c secret coins).1).length) (AJ ((AE c ((AB c secret coins).1) more).2.1) pb ((AE c ((AB c secret coins).1) more).2.1).length) other).1).take coins.length)).1) (((AL (AJ ((AB c secret coins).1) pa ((AB c secret coins).1).length) (AJ ((AE c ((AB c secret coins).1) more).2.1) pb ((AE c ((AB c secret coins).1) more).2.1).length) other).1).drop coins.length)).1):=Enc.mv Enc.circle (x:=(AE c ((AB c other (((AL (AJ ((AB c secret coins).1) pa ((AB c secret coins).1).length) (AJ ((AE c ((AB c secret coins).1) more).2.1) pb ((AE c ((AB c secret coins).1) more).2.1).length) other).1).take coins.length)).1) (((AL (AJ ((AB c secret coins).1) pa ((AB c secret coins).1).length) (AJ ((AE c ((AB c secret coins).1) more).2.1) pb ((AE c ((AB c secret coins).1) more).2.1).length) other).1).drop coins.length)).1) j8 (Mv.at_ r5)
          obtain ⟨m0,I9,d9⟩:∃ v,g8 139=v∧AZ Enc.share d2 ((c1 1)++O) v ((AE c ((AB c other (((AL (AJ ((AB c secret coins).1) pa ((AB c secret coins).1).length) (AJ ((AE c ((AB c secret coins).1) more).2.1) pb ((AE c ((AB c secret coins).1) more).2.1).length) other).1).take coins.length)).1) (((AL (AJ ((AB c secret coins).1) pa ((AB c secret coins).1).length) (AJ ((AE c ((AB c secret coins).1) more).2.1) pb ((AE c ((AB c secret coins).1) more).2.1).length) other).1).drop coins.length)).2.1):=⟨_,rfl,e8 9 139 kR (by decide) kR kR⟩
          have:=d9.len_le
          have d9:=d9.mv (Mv.at_ r5)
          have a2:=a2.mv l9
          have a3:=a3.mv l9
          have a8:=a8.mv l9
          obtain ⟨F2,rfl⟩:=AM (F:=g8) [(20,a9),(21,b0),(24,b6),(25,vI ((AB c other (((AL (AJ ((AB c secret coins).1) pa ((AB c secret coins).1).length) (AJ ((AE c ((AB c secret coins).1) more).2.1) pb ((AE c ((AB c secret coins).1) more).2.1).length) other).1).take coins.length)).2)),(157,undef),(26,vP (some ⟨c5,0,none⟩)),(130,vT #[vA A3.toArray,I6,vI ((AE c ((AB c other (((AL (AJ ((AB c secret coins).1) pa ((AB c secret coins).1).length) (AJ ((AE c ((AB c secret coins).1) more).2.1) pb ((AE c ((AB c secret coins).1) more).2.1).length) other).1).take coins.length)).1) (((AL (AJ ((AB c secret coins).1) pa ((AB c secret coins).1).length) (AJ ((AE c ((AB c secret coins).1) more).2.1) pb ((AE c ((AB c secret coins).1) more).2.1).length) other).1).drop coins.length)).2.2)]),(138,vA r6.toArray),(139,m0)] ⟨d8 20 kR,d8 21 kR,d8 24 kR,d8 25 kR,d8 157 kR,I4,I7,I8,I9,trivial⟩
          clear e8 d8 j7 z9 k5
          obtain ⟨v1,v2,rfl,r7,r8⟩:=j8
          have:=r7.len_le
          have:=r8.len_le
          refine BX (BG (vs:=[vI (((AE c ((AB c other (((AL (AJ ((AB c secret coins).1) pa ((AB c secret coins).1).length) (AJ ((AE c ((AB c secret coins).1) more).2.1) pb ((AE c ((AB c secret coins).1) more).2.1).length) other).1).take coins.length)).1) (((AL (AJ ((AB c secret coins).1) pa ((AB c secret coins).1).length) (AJ ((AE c ((AB c secret coins).1) more).2.1) pb ((AE c ((AB c secret coins).1) more).2.1).length) other).1).drop coins.length)).1).epoch),vI (((AE c ((AB c other (((AL (AJ ((AB c secret coins).1) pa ((AB c secret coins).1).length) (AJ ((AE c ((AB c secret coins).1) more).2.1) pb ((AE c ((AB c secret coins).1) more).2.1).length) other).1).take coins.length)).1) (((AL (AJ ((AB c secret coins).1) pa ((AB c secret coins).1).length) (AJ ((AE c ((AB c secret coins).1) more).2.1) pb ((AE c ((AB c secret coins).1) more).2.1).length) other).1).drop coins.length)).1).threshold),vI (((AE c ((AB c other (((AL (AJ ((AB c secret coins).1) pa ((AB c secret coins).1).length) (AJ ((AE c ((AB c secret coins).1) more).2.1) pb ((AE c ((AB c secret coins).1) more).2.1).length) other).1).take coins.length)).1) (((AL (AJ ((AB c secret coins).1) pa ((AB c secret coins).1).length) (AJ ((AE c ((AB c secret coins).1) more).2.1) pb ((AE c ((AB c secret coins).1) more).2.1).length) other).1).drop coins.length)).1).wait),v1,v2]) (.agg #[vI (((AE c ((AB c other (((AL (AJ ((AB c secret coins).1) pa ((AB c secret coins).1).length) (AJ ((AE c ((AB c secret coins).1) more).2.1) pb ((AE c ((AB c secret coins).1) more).2.1).length) other).1).take coins.length)).1) (((AL (AJ ((AB c secret coins).1) pa ((AB c secret coins).1).length) (AJ ((AE c ((AB c secret coins).1) more).2.1) pb ((AE c ((AB c secret coins).1) more).2.1).length) other).1).drop coins.length)).1).epoch),vI (((AE c ((AB c other (((AL (AJ ((AB c secret coins).1) pa ((AB c secret coins).1).length) (AJ ((AE c ((AB c secret coins).1) more).2.1) pb ((AE c ((AB c secret coins).1) more).2.1).length) other).1).take coins.length)).1) (((AL (AJ ((AB c secret coins).1) pa ((AB c secret coins).1).length) (AJ ((AE c ((AB c secret coins).1) more).2.1) pb ((AE c ((AB c secret coins).1) more).2.1).length) other).1).drop coins.length)).1).threshold),vI (((AE c ((AB c other (((AL (AJ ((AB c secret coins).1) pa ((AB c secret coins).1).length) (AJ ((AE c ((AB c secret coins).1) more).2.1) pb ((AE c ((AB c secret coins).1) more).2.1).length) other).1).take coins.length)).1) (((AL (AJ ((AB c secret coins).1) pa ((AB c secret coins).1).length) (AJ ((AE c ((AB c secret coins).1) more).2.1) pb ((AE c ((AB c secret coins).1) more).2.1).length) other).1).drop coins.length)).1).wait),v1,v2]) rfl rfl rfl BM (fun u hu=>by simp only [List.mem_cons,List.not_mem_nil,or_false] at hu;rcases hu with rfl|rfl|rfl|rfl|rfl <;> first|rfl|exact r7.oneCell|exact r8.oneCell) (by repeat (constructor)) q9 oT I5 fun R8 J0 h9 R9 N1=>(?_))
          have a2:=a2.mv h9
          have a3:=a3.mv h9
          have a8:=a8.mv h9
          have d9:=d9.mv h9
          refine AA (AP (vI ((AE c ((AB c other (((AL (AJ ((AB c secret coins).1) pa ((AB c secret coins).1).length) (AJ ((AE c ((AB c secret coins).1) more).2.1) pb ((AE c ((AB c secret coins).1) more).2.1).length) other).1).take coins.length)).1) (((AL (AJ ((AB c secret coins).1) pa ((AB c secret coins).1).length) (AJ ((AE c ((AB c secret coins).1) more).2.1) pb ((AE c ((AB c secret coins).1) more).2.1).length) other).1).drop coins.length)).2.2)) rfl rfl (AA (AF (m0) rfl (AA (AF (vI ((AE c ((AB c other (((AL (AJ ((AB c secret coins).1) pa ((AB c secret coins).1).length) (AJ ((AE c ((AB c secret coins).1) more).2.1) pb ((AE c ((AB c secret coins).1) more).2.1).length) other).1).take coins.length)).1) (((AL (AJ ((AB c secret coins).1) pa ((AB c secret coins).1).length) (AJ ((AE c ((AB c secret coins).1) more).2.1) pb ((AE c ((AB c secret coins).1) more).2.1).length) other).1).drop coins.length)).2.2)) rfl (AH (AD (?_))))))))
          exact ⟨b6,m0,(c5 :: (a0 :: [])),trivial,⟨_,BB _ ⟨rfl,rfl,rfl,(by rfl),rfl,(by rfl),rfl,trivial⟩⟩,J0,(by rw [show (AB c other ((AL (AJ (AB c secret coins).1 pa (AB c secret coins).1.length) (AJ (AE c (AB c secret coins).1 more).2.1 pb (AE c (AB c secret coins).1 more).2.1.length) other).1.take coins.length)).1=(AB c other (((AL (AJ ((AB c secret coins).1) pa ((AB c secret coins).1).length) (AJ ((AE c ((AB c secret coins).1) more).2.1) pb ((AE c ((AB c secret coins).1) more).2.1).length) other).1).take coins.length)).1 from rfl];exact a8),(by rw [show (AE c (AB c other ((AL (AJ (AB c secret coins).1 pa (AB c secret coins).1.length) (AJ (AE c (AB c secret coins).1 more).2.1 pb (AE c (AB c secret coins).1 more).2.1.length) other).1.take coins.length)).1 ((AL (AJ (AB c secret coins).1 pa (AB c secret coins).1.length) (AJ (AE c (AB c secret coins).1 more).2.1 pb (AE c (AB c secret coins).1 more).2.1.length) other).1.drop coins.length)).2.1=(AE c ((AB c other (((AL (AJ ((AB c secret coins).1) pa ((AB c secret coins).1).length) (AJ ((AE c ((AB c secret coins).1) more).2.1) pb ((AE c ((AB c secret coins).1) more).2.1).length) other).1).take coins.length)).1) (((AL (AJ ((AB c secret coins).1) pa ((AB c secret coins).1).length) (AJ ((AE c ((AB c secret coins).1) more).2.1) pb ((AE c ((AB c secret coins).1) more).2.1).length) other).1).drop coins.length)).2.1 from rfl];exact d9),a2,a3⟩
         | 2,_=>
          intro i0 e5 d0 v3 j9 A5 k6 g9 e0
          obtain ⟨c6,J1,r9,A6,s2⟩:(PE a7 28 [vI 0,vI 0,vI 0,nS,nS]) (d0 2) (i0 26) e5:=g9 11 26 kR (by decide) kR kR
          have s3:=s2.lt
          have A7:∀ x∈(a0 :: []),x∈(a0 :: [])∨(a7.heap.size≤x∧x<e5.heap.size):=fun x hx=>.inl hx
          have w3:∀ x∈(a0 :: []),x∈(a0 :: []):=fun x hx=>hx
          have A8:∀ x∈(a0 :: []),x∈d0 1:=fun x hx=>j9 1 x hx
          have N2:∀ x∈(a0 :: []),x∈d0 2:=fun x hx=>j9 2 x hx
          have s4:∀ x∈(c6 :: (a0 :: [])),x∈(a0 :: [])∨(a7.heap.size≤x∧x<e5.heap.size):=fun x hx=>by rcases List.mem_cons.1 hx with rfl|hx;exact .inr ⟨r9,s3⟩;exact A7 x hx
          have K6:∀ x∈(a0 :: []),x∈(c6 :: (a0 :: [])):=fun x hx=>List.mem_cons_of_mem _ (w3 x hx)
          have s5:∀ x∈(c6 :: (a0 :: [])),x∈d0 1:=fun x hx=>by rcases List.mem_cons.1 hx with rfl|hx;exact k6 2 1 _ (by decide) r9 s3 A6;exact A8 x hx
          have J2:=f1.adoptL v3 s4
          have m2:Mv (a0 :: []) a7 (c6 :: (a0 :: [])) e5:=Mv.adoptL v3 s4
          have N3:FM a0 c6:=by show a0≠c6;have:=b2.lt;omega
          obtain ⟨A9,i1,J3,N4,e1⟩:(fun (vT:Value) (wT:World)=>∃ (xT0:List Value) (xT1:Value),vT = .tuple #[.agg xT0.toArray,xT1,vI ((AE c ((AB c other (((AL (AJ ((AB c secret coins).1) pa ((AB c secret coins).1).length) (AJ ((AE c ((AB c secret coins).1) more).2.1) pb ((AE c ((AB c secret coins).1) more).2.1).length) other).1).take coins.length)).1) (((AL (AJ ((AB c secret coins).1) pa ((AB c secret coins).1).length) (AJ ((AE c ((AB c secret coins).1) more).2.1) pb ((AE c ((AB c secret coins).1) more).2.1).length) other).1).drop coins.length)).2.2)]∧Enc.circle.rd wT ((d0 1)++O) xT0 ((AE c ((AB c other (((AL (AJ ((AB c secret coins).1) pa ((AB c secret coins).1).length) (AJ ((AE c ((AB c secret coins).1) more).2.1) pb ((AE c ((AB c secret coins).1) more).2.1).length) other).1).take coins.length)).1) (((AL (AJ ((AB c secret coins).1) pa ((AB c secret coins).1).length) (AJ ((AE c ((AB c secret coins).1) more).2.1) pb ((AE c ((AB c secret coins).1) more).2.1).length) other).1).drop coins.length)).1)∧AZ Enc.share wT ((d0 1)++O) xT1 ((AE c ((AB c other (((AL (AJ ((AB c secret coins).1) pa ((AB c secret coins).1).length) (AJ ((AE c ((AB c secret coins).1) more).2.1) pb ((AE c ((AB c secret coins).1) more).2.1).length) other).1).take coins.length)).1) (((AL (AJ ((AB c secret coins).1) pa ((AB c secret coins).1).length) (AJ ((AE c ((AB c secret coins).1) more).2.1) pb ((AE c ((AB c secret coins).1) more).2.1).length) other).1).drop coins.length)).2.1)) (i0 130) e5:=g9 7 130 kR (by decide) kR kR
          have:=e1.len_le
          have e1:=e1.mv (Mv.at_ s5)
          obtain ⟨s6,J4,k2⟩:∃ cs:List Value,i0 138 = .agg cs.toArray∧Enc.circle.rd e5 ((d0 1)++O) cs ((AE c ((AB c other (((AL (AJ ((AB c secret coins).1) pa ((AB c secret coins).1).length) (AJ ((AE c ((AB c secret coins).1) more).2.1) pb ((AE c ((AB c secret coins).1) more).2.1).length) other).1).take coins.length)).1) (((AL (AJ ((AB c secret coins).1) pa ((AB c secret coins).1).length) (AJ ((AE c ((AB c secret coins).1) more).2.1) pb ((AE c ((AB c secret coins).1) more).2.1).length) other).1).drop coins.length)).1):=g9 8 138 kR (by decide) kR kR
          have k2:Enc.circle.rd e5 ((c6 :: (a0 :: []))++O) s6 ((AE c ((AB c other (((AL (AJ ((AB c secret coins).1) pa ((AB c secret coins).1).length) (AJ ((AE c ((AB c secret coins).1) more).2.1) pb ((AE c ((AB c secret coins).1) more).2.1).length) other).1).take coins.length)).1) (((AL (AJ ((AB c secret coins).1) pa ((AB c secret coins).1).length) (AJ ((AE c ((AB c secret coins).1) more).2.1) pb ((AE c ((AB c secret coins).1) more).2.1).length) other).1).drop coins.length)).1):=Enc.mv Enc.circle (x:=(AE c ((AB c other (((AL (AJ ((AB c secret coins).1) pa ((AB c secret coins).1).length) (AJ ((AE c ((AB c secret coins).1) more).2.1) pb ((AE c ((AB c secret coins).1) more).2.1).length) other).1).take coins.length)).1) (((AL (AJ ((AB c secret coins).1) pa ((AB c secret coins).1).length) (AJ ((AE c ((AB c secret coins).1) more).2.1) pb ((AE c ((AB c secret coins).1) more).2.1).length) other).1).drop coins.length)).1) k2 (Mv.at_ s5)
          have a2:=a2.mv m2
          have a3:=a3.mv m2
          have a8:=a8.mv m2
          obtain ⟨F2,rfl⟩:=AM (F:=i0) [(20,a9),(21,b0),(24,b6),(25,vI ((AB c other (((AL (AJ ((AB c secret coins).1) pa ((AB c secret coins).1).length) (AJ ((AE c ((AB c secret coins).1) more).2.1) pb ((AE c ((AB c secret coins).1) more).2.1).length) other).1).take coins.length)).2)),(157,undef),(26,vP (some ⟨c6,0,none⟩)),(130,vT #[vA A9.toArray,i1,vI ((AE c ((AB c other (((AL (AJ ((AB c secret coins).1) pa ((AB c secret coins).1).length) (AJ ((AE c ((AB c secret coins).1) more).2.1) pb ((AE c ((AB c secret coins).1) more).2.1).length) other).1).take coins.length)).1) (((AL (AJ ((AB c secret coins).1) pa ((AB c secret coins).1).length) (AJ ((AE c ((AB c secret coins).1) more).2.1) pb ((AE c ((AB c secret coins).1) more).2.1).length) other).1).drop coins.length)).2.2)]),(138,vA s6.toArray)] ⟨e0 20 kR,e0 21 kR,e0 24 kR,e0 25 kR,e0 157 kR,J1,J3,J4,trivial⟩
          clear g9 e0 j9 A5 k6
          obtain ⟨v4,v5,rfl,s7,s8⟩:=k2
          have:=s7.len_le
          have:=s8.len_le
          refine BX (BG (vs:=[vI (((AE c ((AB c other (((AL (AJ ((AB c secret coins).1) pa ((AB c secret coins).1).length) (AJ ((AE c ((AB c secret coins).1) more).2.1) pb ((AE c ((AB c secret coins).1) more).2.1).length) other).1).take coins.length)).1) (((AL (AJ ((AB c secret coins).1) pa ((AB c secret coins).1).length) (AJ ((AE c ((AB c secret coins).1) more).2.1) pb ((AE c ((AB c secret coins).1) more).2.1).length) other).1).drop coins.length)).1).epoch),vI (((AE c ((AB c other (((AL (AJ ((AB c secret coins).1) pa ((AB c secret coins).1).length) (AJ ((AE c ((AB c secret coins).1) more).2.1) pb ((AE c ((AB c secret coins).1) more).2.1).length) other).1).take coins.length)).1) (((AL (AJ ((AB c secret coins).1) pa ((AB c secret coins).1).length) (AJ ((AE c ((AB c secret coins).1) more).2.1) pb ((AE c ((AB c secret coins).1) more).2.1).length) other).1).drop coins.length)).1).threshold),vI (((AE c ((AB c other (((AL (AJ ((AB c secret coins).1) pa ((AB c secret coins).1).length) (AJ ((AE c ((AB c secret coins).1) more).2.1) pb ((AE c ((AB c secret coins).1) more).2.1).length) other).1).take coins.length)).1) (((AL (AJ ((AB c secret coins).1) pa ((AB c secret coins).1).length) (AJ ((AE c ((AB c secret coins).1) more).2.1) pb ((AE c ((AB c secret coins).1) more).2.1).length) other).1).drop coins.length)).1).wait),v4,v5]) (.agg #[vI (((AE c ((AB c other (((AL (AJ ((AB c secret coins).1) pa ((AB c secret coins).1).length) (AJ ((AE c ((AB c secret coins).1) more).2.1) pb ((AE c ((AB c secret coins).1) more).2.1).length) other).1).take coins.length)).1) (((AL (AJ ((AB c secret coins).1) pa ((AB c secret coins).1).length) (AJ ((AE c ((AB c secret coins).1) more).2.1) pb ((AE c ((AB c secret coins).1) more).2.1).length) other).1).drop coins.length)).1).epoch),vI (((AE c ((AB c other (((AL (AJ ((AB c secret coins).1) pa ((AB c secret coins).1).length) (AJ ((AE c ((AB c secret coins).1) more).2.1) pb ((AE c ((AB c secret coins).1) more).2.1).length) other).1).take coins.length)).1) (((AL (AJ ((AB c secret coins).1) pa ((AB c secret coins).1).length) (AJ ((AE c ((AB c secret coins).1) more).2.1) pb ((AE c ((AB c secret coins).1) more).2.1).length) other).1).drop coins.length)).1).threshold),vI (((AE c ((AB c other (((AL (AJ ((AB c secret coins).1) pa ((AB c secret coins).1).length) (AJ ((AE c ((AB c secret coins).1) more).2.1) pb ((AE c ((AB c secret coins).1) more).2.1).length) other).1).take coins.length)).1) (((AL (AJ ((AB c secret coins).1) pa ((AB c secret coins).1).length) (AJ ((AE c ((AB c secret coins).1) more).2.1) pb ((AE c ((AB c secret coins).1) more).2.1).length) other).1).drop coins.length)).1).wait),v4,v5]) rfl rfl rfl BM (fun u hu=>by simp only [List.mem_cons,List.not_mem_nil,or_false] at hu;rcases hu with rfl|rfl|rfl|rfl|rfl <;> first|rfl|exact s7.oneCell|exact s8.oneCell) (by repeat (constructor)) s2 oT J2 fun S0 J5 i2 S1 N5=>(?_))
          have a2:=a2.mv i2
          have a3:=a3.mv i2
          have a8:=a8.mv i2
          have e1:=e1.mv i2
          refine AA (AP (i1) rfl rfl (AA (AP (vI ((AE c ((AB c other (((AL (AJ ((AB c secret coins).1) pa ((AB c secret coins).1).length) (AJ ((AE c ((AB c secret coins).1) more).2.1) pb ((AE c ((AB c secret coins).1) more).2.1).length) other).1).take coins.length)).1) (((AL (AJ ((AB c secret coins).1) pa ((AB c secret coins).1).length) (AJ ((AE c ((AB c secret coins).1) more).2.1) pb ((AE c ((AB c secret coins).1) more).2.1).length) other).1).drop coins.length)).2.2)) rfl rfl (AA (AF (i1) rfl (AA (AF (vI ((AE c ((AB c other (((AL (AJ ((AB c secret coins).1) pa ((AB c secret coins).1).length) (AJ ((AE c ((AB c secret coins).1) more).2.1) pb ((AE c ((AB c secret coins).1) more).2.1).length) other).1).take coins.length)).1) (((AL (AJ ((AB c secret coins).1) pa ((AB c secret coins).1).length) (AJ ((AE c ((AB c secret coins).1) more).2.1) pb ((AE c ((AB c secret coins).1) more).2.1).length) other).1).drop coins.length)).2.2)) rfl (AH (AD (?_))))))))))
          exact ⟨b6,i1,(c6 :: (a0 :: [])),trivial,⟨_,BB _ ⟨rfl,rfl,rfl,(by rfl),rfl,(by rfl),rfl,trivial⟩⟩,J5,(by rw [show (AB c other ((AL (AJ (AB c secret coins).1 pa (AB c secret coins).1.length) (AJ (AE c (AB c secret coins).1 more).2.1 pb (AE c (AB c secret coins).1 more).2.1.length) other).1.take coins.length)).1=(AB c other (((AL (AJ ((AB c secret coins).1) pa ((AB c secret coins).1).length) (AJ ((AE c ((AB c secret coins).1) more).2.1) pb ((AE c ((AB c secret coins).1) more).2.1).length) other).1).take coins.length)).1 from rfl];exact a8),(by rw [show (AE c (AB c other ((AL (AJ (AB c secret coins).1 pa (AB c secret coins).1.length) (AJ (AE c (AB c secret coins).1 more).2.1 pb (AE c (AB c secret coins).1 more).2.1.length) other).1.take coins.length)).1 ((AL (AJ (AB c secret coins).1 pa (AB c secret coins).1.length) (AJ (AE c (AB c secret coins).1 more).2.1 pb (AE c (AB c secret coins).1 more).2.1.length) other).1.drop coins.length)).2.1=(AE c ((AB c other (((AL (AJ ((AB c secret coins).1) pa ((AB c secret coins).1).length) (AJ ((AE c ((AB c secret coins).1) more).2.1) pb ((AE c ((AB c secret coins).1) more).2.1).length) other).1).take coins.length)).1) (((AL (AJ ((AB c secret coins).1) pa ((AB c secret coins).1).length) (AJ ((AE c ((AB c secret coins).1) more).2.1) pb ((AE c ((AB c secret coins).1) more).2.1).length) other).1).drop coins.length)).2.1 from rfl];exact e1),a2,a3⟩
        intro F B0 hI
        clear a2 a3
        obtain ⟨b4,b5,s9,N6,⟨N7,rfl⟩,t0,h2,c7,a2,a3⟩:=hI
        have:=h2.len_le
        have:=c7.len_le
        refine AI (AC kR (AA (AG (vI ((AB c other ((AL (AJ (AB c secret coins).1 pa (AB c secret coins).1.length) (AJ (AE c (AB c secret coins).1 more).2.1 pb (AE c (AB c secret coins).1 more).2.1.length) other).1.take coins.length)).2)) rfl (AA (EV .i64 ((AB c other ((AL (AJ (AB c secret coins).1 pa (AB c secret coins).1.length) (AJ (AE c (AB c secret coins).1 more).2.1 pb (AE c (AB c secret coins).1 more).2.1.length) other).1.take coins.length)).2) (0:Int) rfl rfl (AA (AG (vO (((AB c other ((AL (AJ (AB c secret coins).1 pa (AB c secret coins).1.length) (AJ (AE c (AB c secret coins).1 more).2.1 pb (AE c (AB c secret coins).1 more).2.1.length) other).1.take coins.length)).2) == (0:Int))) rfl (?_))))))))
        have B1:(((AB c other ((AL (AJ (AB c secret coins).1 pa (AB c secret coins).1.length) (AJ (AE c (AB c secret coins).1 more).2.1 pb (AE c (AB c secret coins).1 more).2.1.length) other).1.take coins.length)).2) == (0:Int))=true:=(by rw [hid.2.2.1];rfl)
        rw [B1]
        refine AY rfl (AG (vI ((AE c (AB c other ((AL (AJ (AB c secret coins).1 pa (AB c secret coins).1.length) (AJ (AE c (AB c secret coins).1 more).2.1 pb (AE c (AB c secret coins).1 more).2.1.length) other).1.take coins.length)).1 ((AL (AJ (AB c secret coins).1 pa (AB c secret coins).1.length) (AJ (AE c (AB c secret coins).1 more).2.1 pb (AE c (AB c secret coins).1 more).2.1.length) other).1.drop coins.length)).2.2)) rfl (AY rfl (EV .i64 ((AE c (AB c other ((AL (AJ (AB c secret coins).1 pa (AB c secret coins).1.length) (AJ (AE c (AB c secret coins).1 more).2.1 pb (AE c (AB c secret coins).1 more).2.1.length) other).1.take coins.length)).1 ((AL (AJ (AB c secret coins).1 pa (AB c secret coins).1.length) (AJ (AE c (AB c secret coins).1 more).2.1 pb (AE c (AB c secret coins).1 more).2.1.length) other).1.drop coins.length)).2.2) (0:Int) rfl rfl (AA (BA (vO (((AE c (AB c other ((AL (AJ (AB c secret coins).1 pa (AB c secret coins).1.length) (AJ (AE c (AB c secret coins).1 more).2.1 pb (AE c (AB c secret coins).1 more).2.1.length) other).1.take coins.length)).1 ((AL (AJ (AB c secret coins).1 pa (AB c secret coins).1.length) (AJ (AE c (AB c secret coins).1 more).2.1 pb (AE c (AB c secret coins).1 more).2.1.length) other).1.drop coins.length)).2.2) == (0:Int))) rfl rfl (AA (AG (vO (((AE c (AB c other ((AL (AJ (AB c secret coins).1 pa (AB c secret coins).1.length) (AJ (AE c (AB c secret coins).1 more).2.1 pb (AE c (AB c secret coins).1 more).2.1.length) other).1.take coins.length)).1 ((AL (AJ (AB c secret coins).1 pa (AB c secret coins).1.length) (AJ (AE c (AB c secret coins).1 more).2.1 pb (AE c (AB c secret coins).1 more).2.1.length) other).1.drop coins.length)).2.2) == (0:Int))) rfl (?_))))))))
        have B3:(((AE c (AB c other ((AL (AJ (AB c secret coins).1 pa (AB c secret coins).1.length) (AJ (AE c (AB c secret coins).1 more).2.1 pb (AE c (AB c secret coins).1 more).2.1.length) other).1.take coins.length)).1 ((AL (AJ (AB c secret coins).1 pa (AB c secret coins).1.length) (AJ (AE c (AB c secret coins).1 more).2.1 pb (AE c (AB c secret coins).1 more).2.1.length) other).1.drop coins.length)).2.2) == (0:Int))=true:=(by rw [hid.2.2.2.2.1];rfl)
        rw [B3]
        refine AY rfl (AG (a9) rfl (AY rfl (AG (b4) rfl (AY rfl (BD (vs:=[a9,b4]) enter_26 (c_within (O:=s9++O) a9 (AJ ((AB c secret coins).1) pa ((AB c secret coins).1).length) b4 ((AB c other ((AL (AJ (AB c secret coins).1 pa (AB c secret coins).1.length) (AJ (AE c (AB c secret coins).1 more).2.1 pb (AE c (AB c secret coins).1 more).2.1.length) other).1.take coins.length)).1) B0 a2 h2 t0.lt) rfl t0 fun S2 J6 v6 v7 S3 J7=>(?_))))))
        obtain rfl:=J7
        have a3:=a3.mv v7
        have c7:=c7.mv v7
        refine AA (BA (vO (FA (AJ ((AB c secret coins).1) pa ((AB c secret coins).1).length) ((AB c other ((AL (AJ (AB c secret coins).1 pa (AB c secret coins).1.length) (AJ (AE c (AB c secret coins).1 more).2.1 pb (AE c (AB c secret coins).1 more).2.1.length) other).1.take coins.length)).1))) rfl rfl (AA (AG (vO (FA (AJ ((AB c secret coins).1) pa ((AB c secret coins).1).length) ((AB c other ((AL (AJ (AB c secret coins).1 pa (AB c secret coins).1.length) (AJ (AE c (AB c secret coins).1 more).2.1 pb (AE c (AB c secret coins).1 more).2.1.length) other).1.take coins.length)).1))) rfl (?_))))
        have B4:(FA (AJ ((AB c secret coins).1) pa ((AB c secret coins).1).length) ((AB c other ((AL (AJ (AB c secret coins).1 pa (AB c secret coins).1.length) (AJ (AE c (AB c secret coins).1 more).2.1 pb (AE c (AB c secret coins).1 more).2.1.length) other).1.take coins.length)).1))=true:=hid.2.2.2.1
        rw [B4]
        refine AY rfl (AG (b0) rfl (AY rfl (AG (b5) rfl (AY rfl (BD (vs:=[b0,b5]) enter_26 (c_within (O:=s9++O) b0 (AJ ((AE c ((AB c secret coins).1) more).2.1) pb ((AE c ((AB c secret coins).1) more).2.1).length) b5 ((AE c (AB c other ((AL (AJ (AB c secret coins).1 pa (AB c secret coins).1.length) (AJ (AE c (AB c secret coins).1 more).2.1 pb (AE c (AB c secret coins).1 more).2.1.length) other).1.take coins.length)).1 ((AL (AJ (AB c secret coins).1 pa (AB c secret coins).1.length) (AJ (AE c (AB c secret coins).1 more).2.1 pb (AE c (AB c secret coins).1 more).2.1.length) other).1.drop coins.length)).2.1) J6 a3 c7 v6.lt) rfl v6 fun S4 S5 J8 S6 S7 J9=>(?_))))))
        obtain rfl:=J9
        refine AA (BA (vO (FA (AJ ((AE c ((AB c secret coins).1) more).2.1) pb ((AE c ((AB c secret coins).1) more).2.1).length) ((AE c (AB c other ((AL (AJ (AB c secret coins).1 pa (AB c secret coins).1.length) (AJ (AE c (AB c secret coins).1 more).2.1 pb (AE c (AB c secret coins).1 more).2.1.length) other).1.take coins.length)).1 ((AL (AJ (AB c secret coins).1 pa (AB c secret coins).1.length) (AJ (AE c (AB c secret coins).1 more).2.1 pb (AE c (AB c secret coins).1 more).2.1.length) other).1.drop coins.length)).2.1))) rfl rfl (AA (AF (vO (FA (AJ ((AE c ((AB c secret coins).1) more).2.1) pb ((AE c ((AB c secret coins).1) more).2.1).length) ((AE c (AB c other ((AL (AJ (AB c secret coins).1 pa (AB c secret coins).1.length) (AJ (AE c (AB c secret coins).1 more).2.1 pb (AE c (AB c secret coins).1 more).2.1.length) other).1.take coins.length)).1 ((AL (AJ (AB c secret coins).1 pa (AB c secret coins).1.length) (AJ (AE c (AB c secret coins).1 more).2.1 pb (AE c (AB c secret coins).1 more).2.1.length) other).1.drop coins.length)).2.1))) rfl (AH (AD (AQ (AX rfl (CK rfl rfl rfl) (?_))))))))
        have e:true=(FA (AJ ((AE c ((AB c secret coins).1) more).2.1) pb ((AE c ((AB c secret coins).1) more).2.1).length) ((AE c (AB c other ((AL (AJ (AB c secret coins).1 pa (AB c secret coins).1.length) (AJ (AE c (AB c secret coins).1 more).2.1 pb (AE c (AB c secret coins).1 more).2.1.length) other).1.take coins.length)).1 ((AL (AJ (AB c secret coins).1 pa (AB c secret coins).1.length) (AJ (AE c (AB c secret coins).1 more).2.1 pb (AE c (AB c secret coins).1 more).2.1.length) other).1.drop coins.length)).2.1)):=by exact hid.2.2.2.2.2.symm
        exact ⟨_,rfl,J8.keep,(by exact congrArg vO e.symm)⟩
       have N8:c.threshold≤((AJ ((AE c ((AB c secret coins).1) more).2.1) pb ((AE c ((AB c secret coins).1) more).2.1).length).length:Int):=by simpa using n7
       refine AO rfl (AO rfl (AO rfl (AO rfl (AO rfl (AA (BA (vO true) rfl rfl (AH (AD (AN true rfl rfl (fun _=>AI (AC kR (AA (AF (vO true) rfl (AH (AD (AQ (AR (AX rfl (CK rfl rfl rfl) (?_)))))))))) (fun h=>by cases h))))))))))
       exact ⟨_,rfl,d1.keep,rfl⟩
      have N9:c.threshold≤((AJ ((AB c secret coins).1) pa ((AB c secret coins).1).length).length:Int):=by simpa using n6
      refine AO rfl (AO rfl (AO rfl (AO rfl (AO rfl (AA (BA (vO true) rfl rfl (AA (AG (vO true) rfl (AO rfl (AO rfl (AO rfl (AO rfl (AO rfl (AA (BA (vO true) rfl rfl (AH (AD (AN true rfl rfl (fun _=>AI (AC kR (AA (AF (vO true) rfl (AH (AD (AQ (AR (AX rfl (CK rfl rfl rfl) (?_)))))))))) (fun h=>by cases h)))))))))))))))))))
      exact ⟨_,rfl,d1.keep,rfl⟩
     have O0:((AJ ((AE c ((AB c secret coins).1) more).2.1) pb ((AE c ((AB c secret coins).1) more).2.1).length).length:Int)=(0:Int):=by simpa using n5
     refine AO rfl (AO rfl (AO rfl (AO rfl (AO rfl (AA (BA (vO true) rfl rfl (AA (AG (vO true) rfl (AO rfl (AO rfl (AO rfl (AO rfl (AO rfl (AA (BA (vO true) rfl rfl (AA (AG (vO true) rfl (AO rfl (AO rfl (AO rfl (AO rfl (AO rfl (AA (BA (vO true) rfl rfl (AH (AD (AN true rfl rfl (fun _=>AI (AC kR (AA (AF (vO true) rfl (AH (AD (AQ (AR (AX rfl (CK rfl rfl rfl) (?_)))))))))) (fun h=>by cases h))))))))))))))))))))))))))))
     exact ⟨_,rfl,d1.keep,rfl⟩
    have O1:((AJ ((AB c secret coins).1) pa ((AB c secret coins).1).length).length:Int)=(0:Int):=by simpa using n4
    refine AO rfl (AO rfl (AO rfl (AA (BA (vO true) rfl rfl (AA (AG (vO true) rfl (AO rfl (AO rfl (AO rfl (AO rfl (AO rfl (AA (BA (vO true) rfl rfl (AA (AG (vO true) rfl (AO rfl (AO rfl (AO rfl (AO rfl (AO rfl (AA (BA (vO true) rfl rfl (AA (AG (vO true) rfl (AO rfl (AO rfl (AO rfl (AO rfl (AO rfl (AA (BA (vO true) rfl rfl (AH (AD (AN true rfl rfl (fun _=>AI (AC kR (AA (AF (vO true) rfl (AH (AD (AQ (AR (AX rfl (CK rfl rfl rfl) (?_)))))))))) (fun h=>by cases h)))))))))))))))))))))))))))))))))))
    exact ⟨_,rfl,d1.keep,rfl⟩
   have O2:(AE c ((AB c secret coins).1) more).2.2≠(0:Int):=by simpa using n3
   refine AO rfl (AO rfl (AO rfl (AA (BA (vO true) rfl rfl (AA (AG (vO true) rfl (AO rfl (AO rfl (AO rfl (AA (BA (vO true) rfl rfl (AA (AG (vO true) rfl (AO rfl (AO rfl (AO rfl (AO rfl (AO rfl (AA (BA (vO true) rfl rfl (AA (AG (vO true) rfl (AO rfl (AO rfl (AO rfl (AO rfl (AO rfl (AA (BA (vO true) rfl rfl (AA (AG (vO true) rfl (AO rfl (AO rfl (AO rfl (AO rfl (AO rfl (AA (BA (vO true) rfl rfl (AH (AD (AN true rfl rfl (fun _=>AI (AC kR (AA (AF (vO true) rfl (AH (AD (AQ (AR (AX rfl (CK rfl rfl rfl) (?_)))))))))) (fun h=>by cases h))))))))))))))))))))))))))))))))))))))))))
   exact ⟨_,rfl,d1.keep,rfl⟩
  have O3:(20:Int)<(secret.length:Int):=by simpa using m5
  refine AO rfl (AO rfl (AO rfl (AA (BA (vO true) rfl rfl (AH (AD (AN true rfl rfl (fun _=>AI (AC kR (AA (AF (vO true) rfl (AH (AD (AQ (AR (AX rfl (CK rfl rfl rfl) (?_)))))))))) (fun h=>by cases h))))))))
  exact ⟨_,rfl,f3.keep,rfl⟩
 have O4:(NF c && PO ([]))=false:=by (have e:=m4;rw [Bool.not_eq_true'] at e;exact e)
 refine AO rfl (AO rfl (AO rfl (AA (BA (vO true) rfl rfl (AA (AG (vO true) rfl (AO rfl (AO rfl (AO rfl (AA (BA (vO true) rfl rfl (AH (AD (AN true rfl rfl (fun _=>AI (AC kR (AA (AF (vO true) rfl (AH (AD (AQ (AR (AX rfl (CK rfl rfl rfl) (?_)))))))))) (fun h=>by cases h)))))))))))))))
 exact ⟨_,rfl,f3.keep,rfl⟩
end Go.Proofs.Ytjgfokolnkhafaa
