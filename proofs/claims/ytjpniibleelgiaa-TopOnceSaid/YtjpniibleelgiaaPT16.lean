/- What the laws of this part rest on: lemmas, and the walks of the functions. No conditions. -/
import Derived.WalkKit
import Derived.WalkSpells
import Derived.WalkLawsBesides
import Derived.RangeFuncLeaves
import Derived.Maps.AppendAt
import Derived.Deep.AppendLies
import Derived.Deep.Slices
import Derived.OpenShut
import Derived.ProofKit
import Derived.Below
import Derived.ChangeSame
import Derived.Carry
import Derived.RangeFuncRecord
import Derived.Laws.Tables
import Derived.Recover
import Derived.DefersIn
import Derived.Lib.AppendZerosOnto
import Derived.Lib.Overlaps
import Derived.Laws.CopyRow
import Derived.Laws.StructEq
import Derived.ChangeKeysEq
import Derived.OrdersIn
import Derived.Test.YtjpniibleelgiaaRows
import Derived.Test.YtjpniibleelgiaaPT15
set_option linter.unusedSimpArgs false
set_option linter.unusedVariables false
namespace Go.Proofs.Ytjpniibleelgiaa
open Go.Fw Go.RowKit
set_option maxHeartbeats 40000000 in
set_option maxRecDepth 100000 in
theorem c_TopOnce {O:List Nat} (many:UInt8) (l_v:Value) (l:List Doing) (w:World) (b1:CI Enc.doing w O l_v l) (hO:∀ b∈O,b<w.heap.size):CF Try.prog 3 [vB many,l_v] w (fun v _=>v = .bool (true)):= by
 have su:=b1.len_le
 have b1:CI Enc.doing w ([]++O) l_v l:=b1
 have s0:St w O w []:=St.start hO
 have pv:(many % 3).toNat<3:=by rw [UInt8.toNat_mod];exact Nat.mod_lt _ (by decide)
 refine BS 160 Try.func3 rfl rfl oT (fun F0=>AG (AD kR (AC (AH (vO false) rfl (AE (AB (AG (AG (AD kR (AC (BI (vs:=[]) enter_19 (c_saneT (O:=[]++O) w s0.lt) rfl s0 fun sv sw eZ mK sx mL=>(?_))))))))))))
 obtain rfl:=mL
 have b1:=b1.mv mK
 refine AC (EI true rfl (AE (AB (AK false rfl rfl (fun h=>by cases h) (fun _=>AT (AB (AG (AG (AD kR (AC (AF (l_v) rfl (AC (DS U22_ rfl b1 (AC (IF .i64 (l.length:Int) (40:Int) rfl rfl (AE (AB (AK (decide ((40:Int)<(l.length:Int))) rfl rfl (fun bc=>?_) (fun bc=>?_)))))))))))))))))))
 ·have pw:(40:Int)<(l.length:Int):=by simpa using bc
  refine AG (AD kR (AC (AH (vO true) rfl (AE (AB (AS (AN (AZ rfl (CX rfl rfl rfl) (?_)))))))))
  exact ⟨_,rfl,eZ.keep,rfl⟩
 have px:(l.length:Int)≤(40:Int):=by simpa using bc
 have bd:l.length≤40:=by omega
 refine AT (AB (AG (AD kR (AC (CV (l:=[]) pl_29 z_29 rfl [] [nS,nS,nS,nS] rfl rfl (AC (CC [nS,nS,nS,nS] z_29 rfl eZ fun b8 sy mM mN mO sz iM=>(?_))))))))
 clear mM
 have b1:=b1.mv mO
 refine BK (AU (vs:=[nS,nS,nS,nS]) (.agg #[nS,nS,nS,nS]) rfl rfl rfl CL (fun u hu=>by simp only [List.mem_cons,List.not_mem_nil,or_false] at hu;rcases hu with rfl|rfl|rfl|rfl <;> rfl) (by repeat (constructor)) iM oT mN fun sA mP mQ sB iN=>(?_))
 have b1:=b1.mv mQ
 refine AE (AB (AG (AG (AD kR (AC (AH (vI 0) rfl (AE (AB (BN (ED (fun mI FI wI=>∃ (k:Nat) (L:List Value) (f2:Value) (d9:Value) (d0:Value) (d1:Value) (B:List Nat),k≤(2+(many % 3).toNat)∧Bk (Enc.slice Enc.devop) 26 w.heap.size O B wI L (List.replicate k [])∧mI=(2+(many % 3).toNat) - k∧(∃ F1,FI=GM F1 [(0,vB many),(1,l_v),(5,vP (some ⟨b8,0,none⟩)),(6,vI ((k:Nat):Int)),(160,undef)])∧St w O wI B∧DM Enc.device 31 w.heap.size (B++O) wI f2 (IK k)∧(∀ b,f2.ownBlock=some b→b∈B)∧DM Enc.val 58 w.heap.size (B++O) wI d9 (L)∧(∀ b,d9.ownBlock=some b→b∈B)∧DM Enc.devop 40 w.heap.size (B++O) wI d0 (([]:List DeviceOp))∧(∀ b,d0.ownBlock=some b→b∈B)∧DM Enc.int 3 w.heap.size (B++O) wI d1 (([]:List Int))∧(∀ b,d1.ownBlock=some b→b∈B)∧CI Enc.doing wI (B++O) (l_v) (l)∧EN wI b8 29 [f2,d9,d0,d1]∧b8∈B∧(∀ b,f2.ownBlock=some b→b≠b8)∧(∀ b,d9.ownBlock=some b→b≠b8)∧(∀ b,d0.ownBlock=some b→b≠b8)∧(∀ b,d1.ownBlock=some b→b≠b8)∧(∀ b,f2.ownBlock=some b→d9.ownBlock≠some b)∧(∀ b,f2.ownBlock=some b→d0.ownBlock≠some b)∧(∀ b,f2.ownBlock=some b→d1.ownBlock≠some b)∧(∀ b,d9.ownBlock=some b→f2.ownBlock≠some b)∧(∀ b,d9.ownBlock=some b→d0.ownBlock≠some b)∧(∀ b,d9.ownBlock=some b→d1.ownBlock≠some b)∧(∀ b,d0.ownBlock=some b→f2.ownBlock≠some b)∧(∀ b,d0.ownBlock=some b→d9.ownBlock≠some b)∧(∀ b,d0.ownBlock=some b→d1.ownBlock≠some b)∧(∀ b,d1.ownBlock=some b→f2.ownBlock≠some b)∧(∀ b,d1.ownBlock=some b→d9.ownBlock≠some b)∧(∀ b,d1.ownBlock=some b→d0.ownBlock≠some b)) ((2+(many % 3).toNat) - (0)) ?_ ?_))))))))))
 ·exact ⟨(0),([]),(.slice none 0 0),(.slice none 0 0),(.slice none 0 0),(.slice none 0 0),(b8 :: []),oM,Bk.nil,rfl,⟨_,AL _ ⟨rfl,rfl,rfl,(by rfl),rfl,trivial⟩⟩,mP,(by rw [show IK (0)=[] from rfl];exact (DM.nil Enc.device 31 _ _ _)),(by intro b hb;simp [Value.ownBlock] at hb),(by rw [show ([])=[] from rfl];exact (DM.nil Enc.val 58 _ _ _)),(by intro b hb;simp [Value.ownBlock] at hb),(by rw [show ([]:List DeviceOp)=[] from rfl];exact (DM.nil Enc.devop 40 _ _ _)),(by intro b hb;simp [Value.ownBlock] at hb),(by rw [show ([]:List Int)=[] from rfl];exact (DM.nil Enc.int 3 _ _ _)),(by intro b hb;simp [Value.ownBlock] at hb),b1,iN,(by (repeat (exact List.mem_cons_self))),(fun b hb=>by (simp [Value.ownBlock] at hb;done)),(fun b hb=>by (simp [Value.ownBlock] at hb;done)),(fun b hb=>by (simp [Value.ownBlock] at hb;done)),(fun b hb=>by (simp [Value.ownBlock] at hb;done)),(fun b hb=>by (simp [Value.ownBlock] at hb;done)),(fun b hb=>by (simp [Value.ownBlock] at hb;done)),(fun b hb=>by (simp [Value.ownBlock] at hb;done)),(fun b hb=>by (simp [Value.ownBlock] at hb;done)),(fun b hb=>by (simp [Value.ownBlock] at hb;done)),(fun b hb=>by (simp [Value.ownBlock] at hb;done)),(fun b hb=>by (simp [Value.ownBlock] at hb;done)),(fun b hb=>by (simp [Value.ownBlock] at hb;done)),(fun b hb=>by (simp [Value.ownBlock] at hb;done)),(fun b hb=>by (simp [Value.ownBlock] at hb;done)),(fun b hb=>by (simp [Value.ownBlock] at hb;done)),(fun b hb=>by (simp [Value.ownBlock] at hb;done))⟩
 intro sS F py hI
 clear b1
 obtain ⟨k,L,f2,d9,d0,d1,X0,hr0_0,hr0_1,sT,⟨sU,rfl⟩,iO,ho0_b9863_0,i1,ho0_b9863_1,g0,ho0_b9863_2,e6,ho0_b9863_3,e7,b1,b5,e9,nb0_b9863_0_b9863,nb0_b9863_1_b9863,nb0_b9863_2_b9863,nb0_b9863_3_b9863,nn0_b9863_0_b9863_1,nn0_b9863_0_b9863_2,nn0_b9863_0_b9863_3,nn0_b9863_1_b9863_0,nn0_b9863_1_b9863_2,nn0_b9863_1_b9863_3,nn0_b9863_2_b9863_0,nn0_b9863_2_b9863_1,nn0_b9863_2_b9863_3,nn0_b9863_3_b9863_0,nn0_b9863_3_b9863_1,nn0_b9863_3_b9863_2⟩:=hI
 have hT:=hr0_1
 have hdv:=PB k
 have hLT:L.length=k:=by have h_:=hT.len;simpa using h_
 refine AG (AG (AD kR (AC (AF (vI ((k:Nat):Int)) rfl (AC (AF (vB many) rfl (AC (DY many (3:UInt8) (by decide) rfl rfl (AC (FF .u8 .i64 U5_ U3_ ((many % 3).toNat:Int) ((many % 3).toNat:Int) rfl (by have:=(many % 3).toNat_lt;exact EP oM rfl) (AC (CE .i64 (2:Int) ((many % 3).toNat:Int) ((2:Int)+((many % 3).toNat:Int)) rfl rfl (EP oM oM) (AC (DR .i64 ((k:Nat):Int) ((2:Int)+((many % 3).toNat:Int)) rfl rfl (AE (AB (AK (decide (((k:Nat):Int)<(2:Int)+((many % 3).toNat:Int))) rfl rfl (fun be=>?_) (fun be=>?_))))))))))))))))))
 ·have pz:((k:Nat):Int)<(2:Int)+((many % 3).toNat:Int):=by simpa using be
  refine AT (AB (AG (BN (AG (AD kR (AC (AF (vI ((k:Nat):Int)) rfl (AC (BI (vs:=[vI ((k:Nat):Int)]) enter_20 (c_new43 (O:=X0++O) ((k:Nat):Int) py iO.lt) rfl iO fun sC sD mR U2 U3 mS=>(?_))))))))))
  obtain ⟨bf,rfl,bg⟩:=mS
  have b1:=b1.mv U2
  have ho0_b9863_0:=ho0_b9863_0.mv U2 U3 (by simp)
  have ho0_b9863_1:=ho0_b9863_1.mv U2 U3 (by simp)
  have ho0_b9863_2:=ho0_b9863_2.mv U2 U3 (by simp)
  have ho0_b9863_3:=ho0_b9863_3.mv U2 U3 (by simp)
  have b5:=b5.keep U3 (by simp)
  have hT:=by exact hT.mv0 U2 U3 (fun x hx=>by exact hx)
  refine AC (AF (vT #[vA bf.toArray,vI ((CP ((k:Nat):Int)).2)]) rfl (AC (BD (vA bf.toArray) rfl rfl (AC (BD (vI ((CP ((k:Nat):Int)).2)) rfl rfl (AC (CC [vI 0,vI 0,nS,vO false] HO rfl mR fun f8 mT mU mV Q1 U4 iP=>(?_))))))))
  have iQ:DB b8 f8:=by show b8≠f8;have:=b5.lt;omega
  have v4:∀ b,f2.ownBlock=some b→b≠f8:=fun b hb=>by have:=(ho0_b9863_0.lt b hb).2;omega
  have Q9:∀ b,d9.ownBlock=some b→b≠f8:=fun b hb=>by have:=(ho0_b9863_1.lt b hb).2;omega
  have iR:∀ b,d0.ownBlock=some b→b≠f8:=fun b hb=>by have:=(ho0_b9863_2.lt b hb).2;omega
  have iS:∀ b,d1.ownBlock=some b→b≠f8:=fun b hb=>by have:=(ho0_b9863_3.lt b hb).2;omega
  have i1:∀ b,f2.ownBlock=some b→b∈(f8 :: X0):=fun b hb=>List.mem_cons_of_mem _ (i1 b hb)
  have g0:∀ b,d9.ownBlock=some b→b∈(f8 :: X0):=fun b hb=>List.mem_cons_of_mem _ (g0 b hb)
  have e6:∀ b,d0.ownBlock=some b→b∈(f8 :: X0):=fun b hb=>List.mem_cons_of_mem _ (e6 b hb)
  have e7:∀ b,d1.ownBlock=some b→b∈(f8 :: X0):=fun b hb=>List.mem_cons_of_mem _ (e7 b hb)
  clear mU
  have b1:=b1.mv Q1
  have bg:Enc.device.rd mT ((f8 :: X0)++O) bf ((CP ((k:Nat):Int)).1):=Enc.mv Enc.device (x:=(CP ((k:Nat):Int)).1) bg Q1
  have ho0_b9863_0:=ho0_b9863_0.mv Q1 U4 (by simp)
  have ho0_b9863_1:=ho0_b9863_1.mv Q1 U4 (by simp)
  have ho0_b9863_2:=ho0_b9863_2.mv Q1 U4 (by simp)
  have ho0_b9863_3:=ho0_b9863_3.mv Q1 U4 (by simp)
  have b5:=b5.keep U4 (by simp)
  have hT:=by exact hT.mv0 Q1 U4 (fun x hx=>by exact List.mem_cons_of_mem _ hx)
  obtain ⟨l2,rfl,j5⟩:=bg
  have:=j5.len_le
  refine BK (AU (vs:=[vI (((CP ((k:Nat):Int)).1).id),vI (((CP ((k:Nat):Int)).1).counter),l2,vO (((CP ((k:Nat):Int)).1).halted)]) (.agg #[vI (((CP ((k:Nat):Int)).1).id),vI (((CP ((k:Nat):Int)).1).counter),l2,vO (((CP ((k:Nat):Int)).1).halted)]) rfl rfl rfl BG (fun u hu=>by simp only [List.mem_cons,List.not_mem_nil,or_false] at hu;rcases hu with rfl|rfl|rfl|rfl <;> first|rfl|exact j5.oneCell) (by repeat (constructor)) iP oT mV fun mW mX Q2 U5 f0=>(?_))
  have b1:=b1.mv Q2
  have j5:=j5.mv Q2
  have ho0_b9863_0:=ho0_b9863_0.mv Q2 U5 (fun b hb=>AJ (v4 b hb))
  have ho0_b9863_1:=ho0_b9863_1.mv Q2 U5 (fun b hb=>AJ (Q9 b hb))
  have ho0_b9863_2:=ho0_b9863_2.mv Q2 U5 (fun b hb=>AJ (iR b hb))
  have ho0_b9863_3:=ho0_b9863_3.mv Q2 U5 (fun b hb=>AJ (iS b hb))
  have b5:=b5.keep U5 (AJ iQ)
  have hT:=by exact hT.mvB Q2 U5 aS (by decide) (fun x hx=>by exact hx)
  refine AC (AH (vI ((CP ((k:Nat):Int)).2)) rfl (AE (AB (AG (AG (AD kR (AC (AF (vI ((CP ((k:Nat):Int)).2)) rfl (AC (DX .i64 ((CP ((k:Nat):Int)).2) (0:Int) rfl rfl (AE (AB (?_)))))))))))))
  have iU:(((CP ((k:Nat):Int)).2) != (0:Int))=false:=(by rw [OU oM oM];rfl)
  rw [iU]
  refine AK false rfl rfl (fun h=>by cases h) (fun _=>AT (AB (ET (f2.ownBlock.toList++d9.ownBlock.toList) [3,4,7,9] [[(0,1),(1,1),(2,1),(5,4),(6,4),(3,2),(4,3),(7,2),(9,4),(8,3),(10,0),(11,1),(12,0)],[(0,1),(1,1),(2,1),(5,4),(6,4),(3,2),(4,3),(9,4),(7,2),(8,3),(10,0),(11,1),(12,0)],[(0,1),(1,1),(2,1),(5,4),(6,4),(3,2),(7,2),(4,3),(9,4),(8,3),(10,0),(11,1),(12,0)],[(0,1),(1,1),(2,1),(5,4),(6,4),(7,2),(3,2),(4,3),(9,4),(8,3),(10,0),(11,1),(12,0)]] (by intro c F d v w hd;simp only [FQ,EZ];exact GW c F d v w hd) kR kR kR fun mY D1=>?_)))
  have bb:=mX.call D1
  have Q3:Mv (f8 :: X0) mW (f8 :: X0) mY:=Mv.of_keep D1
  have b1:=b1.mv Q3
  have j5:=j5.mv Q3
  have ho0_b9863_0:=ho0_b9863_0.mv Q3 D1 (by simp)
  have ho0_b9863_1:=ho0_b9863_1.mv Q3 D1 (by simp)
  have ho0_b9863_2:=ho0_b9863_2.mv Q3 D1 (by simp)
  have ho0_b9863_3:=ho0_b9863_3.mv Q3 D1 (by simp)
  have b5:=b5.keep D1 (by simp)
  have f0:=f0.keep D1 (by simp)
  have hT:=by exact hT.mv0 Q3 D1 (fun x hx=>by exact hx)
  refine ⟨?_,?_,?_,?_,trivial⟩
  ·refine AO (AM 0 GC rfl (CD (AO (AR U24_ rfl (f2) rfl b5 rfl (CD (AO (AQ (vs:=[vI (((CP ((k:Nat):Int)).1).id),vI (((CP ((k:Nat):Int)).1).counter),l2,vO (((CP ((k:Nat):Int)).1).halted)]) U31_ rfl BG rfl f0 rfl (CD (DA rfl (fun w4_ k4_=>AM 1 GA rfl (⟨rfl,rfl⟩)) (DA rfl (fun w4_ k4_=>AR U25_ rfl (d9) rfl (b5.keep k4_ (fun h_=>(List.mem_append.1 h_).elim (fun h_=>nb0_b9863_0_b9863 _ (Option.mem_toList.1 h_) rfl) (fun h_=>nb0_b9863_1_b9863 _ (Option.mem_toList.1 h_) rfl))) rfl (⟨rfl,rfl⟩)) (DU (EY (E:=Enc.device) (xs:=[.tmp 42]) U24_ BG HO (by decide) [.agg #[vI (((CP ((k:Nat):Int)).1).id),vI (((CP ((k:Nat):Int)).1).counter),l2,vO (((CP ((k:Nat):Int)).1).halted)]] [[vI (((CP ((k:Nat):Int)).1).id),vI (((CP ((k:Nat):Int)).1).counter),l2,vO (((CP ((k:Nat):Int)).1).halted)]] [((CP ((k:Nat):Int)).1)] rfl rfl rfl (Parts.cons rfl ⟨_,rfl,j5⟩ (Parts.nil _ _ _)) oT bb fun sE sF mZ U6 J0 dN=>(?_)))))))))))))
   have b1:=b1.mv U6
   have ho0_b9863_0:=ho0_b9863_0.mv U6 J0 (by simp)
   have ho0_b9863_1:=ho0_b9863_1.mv U6 J0 (by simp)
   have ho0_b9863_2:=ho0_b9863_2.mv U6 J0 (by simp)
   have ho0_b9863_3:=ho0_b9863_3.mv U6 J0 (by simp)
   have b5:=b5.keep J0 (by simp)
   have f0:=f0.keep J0 (by simp)
   have hT:=by exact hT.mv0 U6 J0 (fun x hx=>by exact hx)
   have:=dN.len_le
   refine ⟨J0,?_⟩
   refine KX (CT (E:=Enc.device) (l:=IK k) (m:=[((CP ((k:Nat):Int)).1)]) U24_ i_31 rfl (by decide) rfl rfl ho0_b9863_0 dN (fun _ hb=>.inl hb) i1 (by simp only [List.length_singleton];omega) (by simp only [maxLen,List.length_singleton];omega) mZ fun D2 sG X1 bh R0 E6 na X2 Q4 l3=>(?_))
   have dO:∀ b,d9.ownBlock=some b→D2.ownBlock≠some b:=fun b hb e=>by rcases R0 with e1|e1 <;> rw [e1] at e <;> first|(cases e;have:=(ho0_b9863_1.lt _ hb).2;omega)|(exact absurd e (nn0_b9863_1_b9863_0 b hb))
   have dP:∀ b,d0.ownBlock=some b→D2.ownBlock≠some b:=fun b hb e=>by rcases R0 with e1|e1 <;> rw [e1] at e <;> first|(cases e;have:=(ho0_b9863_2.lt _ hb).2;omega)|(exact absurd e (nn0_b9863_2_b9863_0 b hb))
   have dQ:∀ b,d1.ownBlock=some b→D2.ownBlock≠some b:=fun b hb e=>by rcases R0 with e1|e1 <;> rw [e1] at e <;> first|(cases e;have:=(ho0_b9863_3.lt _ hb).2;omega)|(exact absurd e (nn0_b9863_3_b9863_0 b hb))
   have bi:∀ b,D2.ownBlock=some b→b≠b8:=fun b hb=>by rcases R0 with e1|e1 <;> rw [e1] at hb <;> first|(cases hb;have:=b5.lt;omega)|(exact nb0_b9863_0_b9863 b hb)
   have pA:∀ b,D2.ownBlock=some b→b≠f8:=fun b hb=>by rcases R0 with e1|e1 <;> rw [e1] at hb <;> first|(cases hb;have:=f0.lt;omega)|(exact v4 b hb)
   have g0:∀ b,d9.ownBlock=some b→b∈X1:=fun b hb=>E6 b (g0 b hb)
   have e6:∀ b,d0.ownBlock=some b→b∈X1:=fun b hb=>E6 b (e6 b hb)
   have e7:∀ b,d1.ownBlock=some b→b∈X1:=fun b hb=>E6 b (e7 b hb)
   have e9:b8∈X1:=E6 b8 rC
   have l4:f8∈X1:=E6 f8 (by repeat (constructor))
   have b1:=b1.mv X2
   have ho0_b9863_1:=ho0_b9863_1.mv X2 Q4 (fun b hb=>by simp only [Option.mem_toList];exact nn0_b9863_1_b9863_0 b hb)
   have ho0_b9863_2:=ho0_b9863_2.mv X2 Q4 (fun b hb=>by simp only [Option.mem_toList];exact nn0_b9863_2_b9863_0 b hb)
   have ho0_b9863_3:=ho0_b9863_3.mv X2 Q4 (fun b hb=>by simp only [Option.mem_toList];exact nn0_b9863_3_b9863_0 b hb)
   have b5:=b5.keep Q4 (by simp only [Option.mem_toList];exact fun e=>absurd rfl (nb0_b9863_0_b9863 _ e))
   have f0:=f0.keep Q4 (by simp only [Option.mem_toList];exact fun e=>absurd rfl (v4 _ e))
   have hT:=hT.mvO X2 Q4 ho0_b9863_0 (fun b hb=>Option.mem_toList.1 hb) (by decide) E6
   refine ⟨(Q4.mono fun _ h_=>.inl (List.mem_append_left _ h_)),?_⟩
   refine DU (EY (E:=Enc.val) (xs:=[.const (nS)]) U25_ LR z_58 (by decide) [nS] [[nS]] [(.slice none 0 0:Value)] rfl rfl rfl (Parts.cons rfl ⟨rfl,rfl⟩ (Parts.nil _ _ _)) oT na fun sH sI nb U7 J1 dR=>(?_))
   have b1:=b1.mv U7
   have l3:=l3.mv U7 J1 (by simp)
   have ho0_b9863_1:=ho0_b9863_1.mv U7 J1 (by simp)
   have ho0_b9863_2:=ho0_b9863_2.mv U7 J1 (by simp)
   have ho0_b9863_3:=ho0_b9863_3.mv U7 J1 (by simp)
   have b5:=b5.keep J1 (by simp)
   have f0:=f0.keep J1 (by simp)
   have hT:=by exact hT.mv0 U7 J1 (fun x hx=>by exact hx)
   have:=dR.len_le
   refine ⟨J1,?_⟩
   refine DA rfl (fun w4_ k4_=>AM 0 GC rfl (⟨rfl,rfl⟩)) (KX (CT (E:=Enc.val) (l:=L) (m:=[(.slice none 0 0:Value)]) U25_ i_58 rfl (by decide) rfl rfl ho0_b9863_1 dR (fun _ hb=>.inl hb) g0 (by simp only [List.length_singleton];omega) (by simp only [maxLen,List.length_singleton];omega) nb fun Q5 sJ U8 iV R1 E7 nc X3 U9 J4=>(?_)))
   have dS:∀ b,D2.ownBlock=some b→Q5.ownBlock≠some b:=fun b hb e=>by rcases R1 with e1|e1 <;> rw [e1] at e <;> first|(cases e;have:=(l3.lt _ hb).2;omega)|(exact absurd e ((fun b hb e=>dO b e hb) b hb))
   have dT:∀ b,d0.ownBlock=some b→Q5.ownBlock≠some b:=fun b hb e=>by rcases R1 with e1|e1 <;> rw [e1] at e <;> first|(cases e;have:=(ho0_b9863_2.lt _ hb).2;omega)|(exact absurd e (nn0_b9863_2_b9863_1 b hb))
   have dU:∀ b,d1.ownBlock=some b→Q5.ownBlock≠some b:=fun b hb e=>by rcases R1 with e1|e1 <;> rw [e1] at e <;> first|(cases e;have:=(ho0_b9863_3.lt _ hb).2;omega)|(exact absurd e (nn0_b9863_3_b9863_1 b hb))
   have bj:∀ b,Q5.ownBlock=some b→b≠b8:=fun b hb=>by rcases R1 with e1|e1 <;> rw [e1] at hb <;> first|(cases hb;have:=b5.lt;omega)|(exact nb0_b9863_1_b9863 b hb)
   have pB:∀ b,Q5.ownBlock=some b→b≠f8:=fun b hb=>by rcases R1 with e1|e1 <;> rw [e1] at hb <;> first|(cases hb;have:=f0.lt;omega)|(exact Q9 b hb)
   have bh:∀ b,D2.ownBlock=some b→b∈U8:=fun b hb=>E7 b (bh b hb)
   have e6:∀ b,d0.ownBlock=some b→b∈U8:=fun b hb=>E7 b (e6 b hb)
   have e7:∀ b,d1.ownBlock=some b→b∈U8:=fun b hb=>E7 b (e7 b hb)
   have e9:b8∈U8:=E7 b8 (by repeat (assumption))
   have l4:f8∈U8:=E7 f8 (by repeat (assumption))
   have b1:=b1.mv X3
   have l3:=l3.mv X3 U9 (fun b hb=>by simp only [Option.mem_toList];exact (fun b hb e=>dO b e hb) b hb)
   have ho0_b9863_2:=ho0_b9863_2.mv X3 U9 (fun b hb=>by simp only [Option.mem_toList];exact nn0_b9863_2_b9863_1 b hb)
   have ho0_b9863_3:=ho0_b9863_3.mv X3 U9 (fun b hb=>by simp only [Option.mem_toList];exact nn0_b9863_3_b9863_1 b hb)
   have b5:=b5.keep U9 (by simp only [Option.mem_toList];exact fun e=>absurd rfl (nb0_b9863_1_b9863 _ e))
   have hT:=hT.mvO X3 U9 ho0_b9863_1 (fun b hb=>Option.mem_toList.1 hb) (by decide) E7
   have hT:=hT.push
   refine ⟨(U9.mono fun _ h_=>.inl (List.mem_append_right _ h_)),?_⟩
   refine FO (BP (D2) rfl rfl l3.oneCell s_24 (by repeat (assumption)) b5 oT nc fun sK nd V0 X4 iW=>(?_))
   have b1:=b1.mv V0
   have l3:=l3.mv V0 X4 (fun b hb=>AJ (bi b hb))
   have J4:=J4.mv V0 X4 (fun b hb=>AJ (bj b hb))
   have ho0_b9863_2:=ho0_b9863_2.mv V0 X4 (fun b hb=>AJ (nb0_b9863_2_b9863 b hb))
   have ho0_b9863_3:=ho0_b9863_3.mv V0 X4 (fun b hb=>AJ (nb0_b9863_3_b9863 b hb))
   have hT:=by exact hT.mvB V0 X4 aS (by decide) (fun x hx=>by exact hx)
   refine AO (AM 1 GA rfl (CD (FO (BP (Q5) rfl rfl J4.oneCell s_25 (by repeat (assumption)) iW oT nd fun sL nf V1 X5 iX=>(?_)))))
   have b1:=b1.mv V1
   have l3:=l3.mv V1 X5 (fun b hb=>AJ (bi b hb))
   have J4:=J4.mv V1 X5 (fun b hb=>AJ (bj b hb))
   have ho0_b9863_2:=ho0_b9863_2.mv V1 X5 (fun b hb=>AJ (nb0_b9863_2_b9863 b hb))
   have ho0_b9863_3:=ho0_b9863_3.mv V1 X5 (fun b hb=>AJ (nb0_b9863_3_b9863 b hb))
   have hT:=by exact hT.mvB V1 X5 aS (by decide) (fun x hx=>by exact hx)
   refine EW (AW (AB (AD kR (AC (AF (vI ((k:Nat):Int)) rfl (AC (CE .i64 ((k:Nat):Int) (1:Int) (((k+1:Nat):Int)) rfl rfl (EP oM oM) (AC (AH (vI ((k+1:Nat):Int)) rfl (AE (AB (?_))))))))))))
   exact ⟨_,oM,(k+1),(L++([(.slice none 0 0:Value)])),D2,Q5,d0,d1,U8,oM,(by rw [List.replicate_succ'];exact hT),rfl,⟨_,AL _ ⟨rfl,rfl,rfl,(by rfl),rfl,trivial⟩⟩,nf,(by rw [show IK (k+1)=(IK k)++([((CP ((k:Nat):Int)).1)]) from by rw [KO,OU oM oM]];exact l3),bh,(by rw [show (L++([(.slice none 0 0:Value)]))=L++([(.slice none 0 0:Value)]) from by simp];exact J4),iV,ho0_b9863_2,e6,ho0_b9863_3,e7,b1,iX,aS,bi,bj,nb0_b9863_2_b9863,nb0_b9863_3_b9863,dS,(fun b hb e=>dP b e hb),(fun b hb e=>dQ b e hb),(fun b hb e=>dS b e hb),(fun b hb e=>dT b e hb),(fun b hb e=>dU b e hb),dP,dT,nn0_b9863_2_b9863_3,dQ,dU,nn0_b9863_3_b9863_2⟩
  ·refine AO (AM 0 GC rfl (CD (AO (AR U24_ rfl (f2) rfl b5 rfl (CD (AO (AQ (vs:=[vI (((CP ((k:Nat):Int)).1).id),vI (((CP ((k:Nat):Int)).1).counter),l2,vO (((CP ((k:Nat):Int)).1).halted)]) U31_ rfl BG rfl f0 rfl (CD (DA rfl (fun w4_ k4_=>AM 1 GA rfl (⟨rfl,rfl⟩)) (DA rfl (fun w4_ k4_=>AR U25_ rfl (d9) rfl (b5.keep k4_ (fun h_=>(List.mem_append.1 h_).elim (fun h_=>nb0_b9863_0_b9863 _ (Option.mem_toList.1 h_) rfl) (fun h_=>nb0_b9863_1_b9863 _ (Option.mem_toList.1 h_) rfl))) rfl (⟨rfl,rfl⟩)) (DU (EY (E:=Enc.device) (xs:=[.tmp 42]) U24_ BG HO (by decide) [.agg #[vI (((CP ((k:Nat):Int)).1).id),vI (((CP ((k:Nat):Int)).1).counter),l2,vO (((CP ((k:Nat):Int)).1).halted)]] [[vI (((CP ((k:Nat):Int)).1).id),vI (((CP ((k:Nat):Int)).1).counter),l2,vO (((CP ((k:Nat):Int)).1).halted)]] [((CP ((k:Nat):Int)).1)] rfl rfl rfl (Parts.cons rfl ⟨_,rfl,j5⟩ (Parts.nil _ _ _)) oT bb fun sM sN ng V2 J2 dV=>(?_)))))))))))))
   have b1:=b1.mv V2
   have ho0_b9863_0:=ho0_b9863_0.mv V2 J2 (by simp)
   have ho0_b9863_1:=ho0_b9863_1.mv V2 J2 (by simp)
   have ho0_b9863_2:=ho0_b9863_2.mv V2 J2 (by simp)
   have ho0_b9863_3:=ho0_b9863_3.mv V2 J2 (by simp)
   have b5:=b5.keep J2 (by simp)
   have f0:=f0.keep J2 (by simp)
   have hT:=by exact hT.mv0 V2 J2 (fun x hx=>by exact hx)
   have:=dV.len_le
   refine ⟨J2,?_⟩
   refine KX (CT (E:=Enc.device) (l:=IK k) (m:=[((CP ((k:Nat):Int)).1)]) U24_ i_31 rfl (by decide) rfl rfl ho0_b9863_0 dV (fun _ hb=>.inl hb) i1 (by simp only [List.length_singleton];omega) (by simp only [maxLen,List.length_singleton];omega) ng fun D3 sO X6 bk R2 E8 nh X7 Q6 l5=>(?_))
   have dW:∀ b,d9.ownBlock=some b→D3.ownBlock≠some b:=fun b hb e=>by rcases R2 with e1|e1 <;> rw [e1] at e <;> first|(cases e;have:=(ho0_b9863_1.lt _ hb).2;omega)|(exact absurd e (nn0_b9863_1_b9863_0 b hb))
   have dX:∀ b,d0.ownBlock=some b→D3.ownBlock≠some b:=fun b hb e=>by rcases R2 with e1|e1 <;> rw [e1] at e <;> first|(cases e;have:=(ho0_b9863_2.lt _ hb).2;omega)|(exact absurd e (nn0_b9863_2_b9863_0 b hb))
   have dY:∀ b,d1.ownBlock=some b→D3.ownBlock≠some b:=fun b hb e=>by rcases R2 with e1|e1 <;> rw [e1] at e <;> first|(cases e;have:=(ho0_b9863_3.lt _ hb).2;omega)|(exact absurd e (nn0_b9863_3_b9863_0 b hb))
   have bm:∀ b,D3.ownBlock=some b→b≠b8:=fun b hb=>by rcases R2 with e1|e1 <;> rw [e1] at hb <;> first|(cases hb;have:=b5.lt;omega)|(exact nb0_b9863_0_b9863 b hb)
   have pC:∀ b,D3.ownBlock=some b→b≠f8:=fun b hb=>by rcases R2 with e1|e1 <;> rw [e1] at hb <;> first|(cases hb;have:=f0.lt;omega)|(exact v4 b hb)
   have g0:∀ b,d9.ownBlock=some b→b∈X6:=fun b hb=>E8 b (g0 b hb)
   have e6:∀ b,d0.ownBlock=some b→b∈X6:=fun b hb=>E8 b (e6 b hb)
   have e7:∀ b,d1.ownBlock=some b→b∈X6:=fun b hb=>E8 b (e7 b hb)
   have e9:b8∈X6:=E8 b8 rC
   have l4:f8∈X6:=E8 f8 (by repeat (constructor))
   have b1:=b1.mv X7
   have ho0_b9863_1:=ho0_b9863_1.mv X7 Q6 (fun b hb=>by simp only [Option.mem_toList];exact nn0_b9863_1_b9863_0 b hb)
   have ho0_b9863_2:=ho0_b9863_2.mv X7 Q6 (fun b hb=>by simp only [Option.mem_toList];exact nn0_b9863_2_b9863_0 b hb)
   have ho0_b9863_3:=ho0_b9863_3.mv X7 Q6 (fun b hb=>by simp only [Option.mem_toList];exact nn0_b9863_3_b9863_0 b hb)
   have b5:=b5.keep Q6 (by simp only [Option.mem_toList];exact fun e=>absurd rfl (nb0_b9863_0_b9863 _ e))
   have f0:=f0.keep Q6 (by simp only [Option.mem_toList];exact fun e=>absurd rfl (v4 _ e))
   have hT:=hT.mvO X7 Q6 ho0_b9863_0 (fun b hb=>Option.mem_toList.1 hb) (by decide) E8
   refine ⟨(Q6.mono fun _ h_=>.inl (List.mem_append_left _ h_)),?_⟩
   refine DA rfl (fun w4_ k4_=>AM 0 GC rfl (⟨rfl,rfl⟩)) (DU (EY (E:=Enc.val) (xs:=[.const (nS)]) U25_ LR z_58 (by decide) [nS] [[nS]] [(.slice none 0 0:Value)] rfl rfl rfl (Parts.cons rfl ⟨rfl,rfl⟩ (Parts.nil _ _ _)) oT nh fun sP sQ ni V3 J3 dZ=>(?_)))
   have b1:=b1.mv V3
   have l5:=l5.mv V3 J3 (by simp)
   have ho0_b9863_1:=ho0_b9863_1.mv V3 J3 (by simp)
   have ho0_b9863_2:=ho0_b9863_2.mv V3 J3 (by simp)
   have ho0_b9863_3:=ho0_b9863_3.mv V3 J3 (by simp)
   have b5:=b5.keep J3 (by simp)
   have f0:=f0.keep J3 (by simp)
   have hT:=by exact hT.mv0 V3 J3 (fun x hx=>by exact hx)
   have:=dZ.len_le
   refine ⟨J3,?_⟩
   refine KX (CT (E:=Enc.val) (l:=L) (m:=[(.slice none 0 0:Value)]) U25_ i_58 rfl (by decide) rfl rfl ho0_b9863_1 dZ (fun _ hb=>.inl hb) g0 (by simp only [List.length_singleton];omega) (by simp only [maxLen,List.length_singleton];omega) ni fun Q7 sR V4 iY R3 E9 nj X8 V5 J5=>(?_))
   have ea:∀ b,D3.ownBlock=some b→Q7.ownBlock≠some b:=fun b hb e=>by rcases R3 with e1|e1 <;> rw [e1] at e <;> first|(cases e;have:=(l5.lt _ hb).2;omega)|(exact absurd e ((fun b hb e=>dW b e hb) b hb))
   have eb:∀ b,d0.ownBlock=some b→Q7.ownBlock≠some b:=fun b hb e=>by rcases R3 with e1|e1 <;> rw [e1] at e <;> first|(cases e;have:=(ho0_b9863_2.lt _ hb).2;omega)|(exact absurd e (nn0_b9863_2_b9863_1 b hb))
   have bP:∀ b,d1.ownBlock=some b→Q7.ownBlock≠some b:=fun b hb e=>by rcases R3 with e1|e1 <;> rw [e1] at e <;> first|(cases e;have:=(ho0_b9863_3.lt _ hb).2;omega)|(exact absurd e (nn0_b9863_3_b9863_1 b hb))
   have Y8:∀ b,Q7.ownBlock=some b→b≠b8:=fun b hb=>by rcases R3 with e1|e1 <;> rw [e1] at hb <;> first|(cases hb;have:=b5.lt;omega)|(exact nb0_b9863_1_b9863 b hb)
   have nv:∀ b,Q7.ownBlock=some b→b≠f8:=fun b hb=>by rcases R3 with e1|e1 <;> rw [e1] at hb <;> first|(cases hb;have:=f0.lt;omega)|(exact Q9 b hb)
   have bk:∀ b,D3.ownBlock=some b→b∈V4:=fun b hb=>E9 b (bk b hb)
   have e6:∀ b,d0.ownBlock=some b→b∈V4:=fun b hb=>E9 b (e6 b hb)
   have e7:∀ b,d1.ownBlock=some b→b∈V4:=fun b hb=>E9 b (e7 b hb)
   have e9:b8∈V4:=E9 b8 (by repeat (assumption))
   have l4:f8∈V4:=E9 f8 (by repeat (assumption))
   have b1:=b1.mv X8
   have l5:=l5.mv X8 V5 (fun b hb=>by simp only [Option.mem_toList];exact (fun b hb e=>dW b e hb) b hb)
   have ho0_b9863_2:=ho0_b9863_2.mv X8 V5 (fun b hb=>by simp only [Option.mem_toList];exact nn0_b9863_2_b9863_1 b hb)
   have ho0_b9863_3:=ho0_b9863_3.mv X8 V5 (fun b hb=>by simp only [Option.mem_toList];exact nn0_b9863_3_b9863_1 b hb)
   have b5:=b5.keep V5 (by simp only [Option.mem_toList];exact fun e=>absurd rfl (nb0_b9863_1_b9863 _ e))
   have hT:=hT.mvO X8 V5 ho0_b9863_1 (fun b hb=>Option.mem_toList.1 hb) (by decide) E9
   have hT:=hT.push
   refine ⟨(V5.mono fun _ h_=>.inl (List.mem_append_right _ h_)),?_⟩
   refine FO (BP (D3) rfl rfl l5.oneCell s_24 (by repeat (assumption)) b5 oT nj fun pD iZ J6 R4 fb=>(?_))
   have b1:=b1.mv J6
   have l5:=l5.mv J6 R4 (fun b hb=>AJ (bm b hb))
   have J5:=J5.mv J6 R4 (fun b hb=>AJ (Y8 b hb))
   have ho0_b9863_2:=ho0_b9863_2.mv J6 R4 (fun b hb=>AJ (nb0_b9863_2_b9863 b hb))
   have ho0_b9863_3:=ho0_b9863_3.mv J6 R4 (fun b hb=>AJ (nb0_b9863_3_b9863 b hb))
   have hT:=by exact hT.mvB J6 R4 aS (by decide) (fun x hx=>by exact hx)
   refine AO (AM 1 GA rfl (CD (FO (BP (Q7) rfl rfl J5.oneCell s_25 (by repeat (assumption)) fb oT iZ fun pE ja J7 R5 fc=>(?_)))))
   have b1:=b1.mv J7
   have l5:=l5.mv J7 R5 (fun b hb=>AJ (bm b hb))
   have J5:=J5.mv J7 R5 (fun b hb=>AJ (Y8 b hb))
   have ho0_b9863_2:=ho0_b9863_2.mv J7 R5 (fun b hb=>AJ (nb0_b9863_2_b9863 b hb))
   have ho0_b9863_3:=ho0_b9863_3.mv J7 R5 (fun b hb=>AJ (nb0_b9863_3_b9863 b hb))
   have hT:=by exact hT.mvB J7 R5 aS (by decide) (fun x hx=>by exact hx)
   refine EW (AW (AB (AD kR (AC (AF (vI ((k:Nat):Int)) rfl (AC (CE .i64 ((k:Nat):Int) (1:Int) (((k+1:Nat):Int)) rfl rfl (EP oM oM) (AC (AH (vI ((k+1:Nat):Int)) rfl (AE (AB (?_))))))))))))
   exact ⟨_,oM,(k+1),(L++([(.slice none 0 0:Value)])),D3,Q7,d0,d1,V4,oM,(by rw [List.replicate_succ'];exact hT),rfl,⟨_,AL _ ⟨rfl,rfl,rfl,(by rfl),rfl,trivial⟩⟩,ja,(by rw [show IK (k+1)=(IK k)++([((CP ((k:Nat):Int)).1)]) from by rw [KO,OU oM oM]];exact l5),bk,(by rw [show (L++([(.slice none 0 0:Value)]))=L++([(.slice none 0 0:Value)]) from by simp];exact J5),iY,ho0_b9863_2,e6,ho0_b9863_3,e7,b1,fc,aS,bm,Y8,nb0_b9863_2_b9863,nb0_b9863_3_b9863,ea,(fun b hb e=>dX b e hb),(fun b hb e=>dY b e hb),(fun b hb e=>ea b e hb),(fun b hb e=>eb b e hb),(fun b hb e=>bP b e hb),dX,eb,nn0_b9863_2_b9863_3,dY,bP,nn0_b9863_3_b9863_2⟩
  ·refine AO (AM 0 GC rfl (CD (AO (AR U24_ rfl (f2) rfl b5 rfl (CD (AO (AQ (vs:=[vI (((CP ((k:Nat):Int)).1).id),vI (((CP ((k:Nat):Int)).1).counter),l2,vO (((CP ((k:Nat):Int)).1).halted)]) U31_ rfl BG rfl f0 rfl (CD (DA rfl (fun w4_ k4_=>AM 1 GA rfl (⟨rfl,rfl⟩)) (DA rfl (fun w4_ k4_=>AR U25_ rfl (d9) rfl (b5.keep k4_ (fun h_=>(List.mem_append.1 h_).elim (fun h_=>nb0_b9863_0_b9863 _ (Option.mem_toList.1 h_) rfl) (fun h_=>nb0_b9863_1_b9863 _ (Option.mem_toList.1 h_) rfl))) rfl (⟨rfl,rfl⟩)) (DU (EY (E:=Enc.device) (xs:=[.tmp 42]) U24_ BG HO (by decide) [.agg #[vI (((CP ((k:Nat):Int)).1).id),vI (((CP ((k:Nat):Int)).1).counter),l2,vO (((CP ((k:Nat):Int)).1).halted)]] [[vI (((CP ((k:Nat):Int)).1).id),vI (((CP ((k:Nat):Int)).1).counter),l2,vO (((CP ((k:Nat):Int)).1).halted)]] [((CP ((k:Nat):Int)).1)] rfl rfl rfl (Parts.cons rfl ⟨_,rfl,j5⟩ (Parts.nil _ _ _)) oT bb fun pF pG jb J8 A4 V6=>(?_)))))))))))))
   have b1:=b1.mv J8
   have ho0_b9863_0:=ho0_b9863_0.mv J8 A4 (by simp)
   have ho0_b9863_1:=ho0_b9863_1.mv J8 A4 (by simp)
   have ho0_b9863_2:=ho0_b9863_2.mv J8 A4 (by simp)
   have ho0_b9863_3:=ho0_b9863_3.mv J8 A4 (by simp)
   have b5:=b5.keep A4 (by simp)
   have f0:=f0.keep A4 (by simp)
   have hT:=by exact hT.mv0 J8 A4 (fun x hx=>by exact hx)
   have:=V6.len_le
   refine ⟨A4,?_⟩
   refine DU (EY (E:=Enc.val) (xs:=[.const (nS)]) U25_ LR z_58 (by decide) [nS] [[nS]] [(.slice none 0 0:Value)] rfl rfl rfl (Parts.cons rfl ⟨rfl,rfl⟩ (Parts.nil _ _ _)) oT jb fun pH pI jc F8 A5 V7=>(?_))
   have b1:=b1.mv F8
   have ho0_b9863_0:=ho0_b9863_0.mv F8 A5 (by simp)
   have V6:=V6.mv F8
   have ho0_b9863_1:=ho0_b9863_1.mv F8 A5 (by simp)
   have ho0_b9863_2:=ho0_b9863_2.mv F8 A5 (by simp)
   have ho0_b9863_3:=ho0_b9863_3.mv F8 A5 (by simp)
   have b5:=b5.keep A5 (by simp)
   have f0:=f0.keep A5 (by simp)
   have hT:=by exact hT.mv0 F8 A5 (fun x hx=>by exact hx)
   have:=V7.len_le
   refine ⟨A5,?_⟩
   refine KX (CT (E:=Enc.device) (l:=IK k) (m:=[((CP ((k:Nat):Int)).1)]) U24_ i_31 rfl (by decide) rfl rfl ho0_b9863_0 V6 (fun _ hb=>.inl hb) i1 (by simp only [List.length_singleton];omega) (by simp only [maxLen,List.length_singleton];omega) jc fun v5 pJ R6 Y9 J9 z2 jd K0 F9 p3=>(?_))
   have bQ:∀ b,d9.ownBlock=some b→v5.ownBlock≠some b:=fun b hb e=>by rcases J9 with e1|e1 <;> rw [e1] at e <;> first|(cases e;have:=(ho0_b9863_1.lt _ hb).2;omega)|(exact absurd e (nn0_b9863_1_b9863_0 b hb))
   have bR:∀ b,d0.ownBlock=some b→v5.ownBlock≠some b:=fun b hb e=>by rcases J9 with e1|e1 <;> rw [e1] at e <;> first|(cases e;have:=(ho0_b9863_2.lt _ hb).2;omega)|(exact absurd e (nn0_b9863_2_b9863_0 b hb))
   have bS:∀ b,d1.ownBlock=some b→v5.ownBlock≠some b:=fun b hb e=>by rcases J9 with e1|e1 <;> rw [e1] at e <;> first|(cases e;have:=(ho0_b9863_3.lt _ hb).2;omega)|(exact absurd e (nn0_b9863_3_b9863_0 b hb))
   have Z0:∀ b,v5.ownBlock=some b→b≠b8:=fun b hb=>by rcases J9 with e1|e1 <;> rw [e1] at hb <;> first|(cases hb;have:=b5.lt;omega)|(exact nb0_b9863_0_b9863 b hb)
   have nw:∀ b,v5.ownBlock=some b→b≠f8:=fun b hb=>by rcases J9 with e1|e1 <;> rw [e1] at hb <;> first|(cases hb;have:=f0.lt;omega)|(exact v4 b hb)
   have g0:∀ b,d9.ownBlock=some b→b∈R6:=fun b hb=>z2 b (g0 b hb)
   have e6:∀ b,d0.ownBlock=some b→b∈R6:=fun b hb=>z2 b (e6 b hb)
   have e7:∀ b,d1.ownBlock=some b→b∈R6:=fun b hb=>z2 b (e7 b hb)
   have e9:b8∈R6:=z2 b8 rC
   have l4:f8∈R6:=z2 f8 (by repeat (constructor))
   have b1:=b1.mv K0
   have ho0_b9863_1:=ho0_b9863_1.mv K0 F9 (fun b hb=>by simp only [Option.mem_toList];exact nn0_b9863_1_b9863_0 b hb)
   have V7:=V7.mv K0
   have ho0_b9863_2:=ho0_b9863_2.mv K0 F9 (fun b hb=>by simp only [Option.mem_toList];exact nn0_b9863_2_b9863_0 b hb)
   have ho0_b9863_3:=ho0_b9863_3.mv K0 F9 (fun b hb=>by simp only [Option.mem_toList];exact nn0_b9863_3_b9863_0 b hb)
   have b5:=b5.keep F9 (by simp only [Option.mem_toList];exact fun e=>absurd rfl (nb0_b9863_0_b9863 _ e))
   have f0:=f0.keep F9 (by simp only [Option.mem_toList];exact fun e=>absurd rfl (v4 _ e))
   have hT:=hT.mvO K0 F9 ho0_b9863_0 (fun b hb=>Option.mem_toList.1 hb) (by decide) z2
   refine ⟨(F9.mono fun _ h_=>.inl (List.mem_append_left _ h_)),?_⟩
   refine DA rfl (fun w4_ k4_=>AM 0 GC rfl (⟨rfl,rfl⟩)) (KX (CT (E:=Enc.val) (l:=L) (m:=[(.slice none 0 0:Value)]) U25_ i_58 rfl (by decide) rfl rfl ho0_b9863_1 V7 (fun _ hb=>.inl hb) g0 (by simp only [List.length_singleton];omega) (by simp only [maxLen,List.length_singleton];omega) jd fun G0 pK K1 fd K2 z3 je R7 K3 F2=>(?_)))
   have bT:∀ b,v5.ownBlock=some b→G0.ownBlock≠some b:=fun b hb e=>by rcases K2 with e1|e1 <;> rw [e1] at e <;> first|(cases e;have:=(p3.lt _ hb).2;omega)|(exact absurd e ((fun b hb e=>bQ b e hb) b hb))
   have bU:∀ b,d0.ownBlock=some b→G0.ownBlock≠some b:=fun b hb e=>by rcases K2 with e1|e1 <;> rw [e1] at e <;> first|(cases e;have:=(ho0_b9863_2.lt _ hb).2;omega)|(exact absurd e (nn0_b9863_2_b9863_1 b hb))
   have bV:∀ b,d1.ownBlock=some b→G0.ownBlock≠some b:=fun b hb e=>by rcases K2 with e1|e1 <;> rw [e1] at e <;> first|(cases e;have:=(ho0_b9863_3.lt _ hb).2;omega)|(exact absurd e (nn0_b9863_3_b9863_1 b hb))
   have Z1:∀ b,G0.ownBlock=some b→b≠b8:=fun b hb=>by rcases K2 with e1|e1 <;> rw [e1] at hb <;> first|(cases hb;have:=b5.lt;omega)|(exact nb0_b9863_1_b9863 b hb)
   have nx:∀ b,G0.ownBlock=some b→b≠f8:=fun b hb=>by rcases K2 with e1|e1 <;> rw [e1] at hb <;> first|(cases hb;have:=f0.lt;omega)|(exact Q9 b hb)
   have Y9:∀ b,v5.ownBlock=some b→b∈K1:=fun b hb=>z3 b (Y9 b hb)
   have e6:∀ b,d0.ownBlock=some b→b∈K1:=fun b hb=>z3 b (e6 b hb)
   have e7:∀ b,d1.ownBlock=some b→b∈K1:=fun b hb=>z3 b (e7 b hb)
   have e9:b8∈K1:=z3 b8 (by repeat (assumption))
   have l4:f8∈K1:=z3 f8 (by repeat (assumption))
   have b1:=b1.mv R7
   have p3:=p3.mv R7 K3 (fun b hb=>by simp only [Option.mem_toList];exact (fun b hb e=>bQ b e hb) b hb)
   have ho0_b9863_2:=ho0_b9863_2.mv R7 K3 (fun b hb=>by simp only [Option.mem_toList];exact nn0_b9863_2_b9863_1 b hb)
   have ho0_b9863_3:=ho0_b9863_3.mv R7 K3 (fun b hb=>by simp only [Option.mem_toList];exact nn0_b9863_3_b9863_1 b hb)
   have b5:=b5.keep K3 (by simp only [Option.mem_toList];exact fun e=>absurd rfl (nb0_b9863_1_b9863 _ e))
   have hT:=hT.mvO R7 K3 ho0_b9863_1 (fun b hb=>Option.mem_toList.1 hb) (by decide) z3
   have hT:=hT.push
   refine ⟨(K3.mono fun _ h_=>.inl (List.mem_append_right _ h_)),?_⟩
   refine FO (BP (v5) rfl rfl p3.oneCell s_24 (by repeat (assumption)) b5 oT je fun pL jf K4 R8 fe=>(?_))
   have b1:=b1.mv K4
   have p3:=p3.mv K4 R8 (fun b hb=>AJ (Z0 b hb))
   have F2:=F2.mv K4 R8 (fun b hb=>AJ (Z1 b hb))
   have ho0_b9863_2:=ho0_b9863_2.mv K4 R8 (fun b hb=>AJ (nb0_b9863_2_b9863 b hb))
   have ho0_b9863_3:=ho0_b9863_3.mv K4 R8 (fun b hb=>AJ (nb0_b9863_3_b9863 b hb))
   have hT:=by exact hT.mvB K4 R8 aS (by decide) (fun x hx=>by exact hx)
   refine AO (AM 1 GA rfl (CD (FO (BP (G0) rfl rfl F2.oneCell s_25 (by repeat (assumption)) fe oT jf fun pM jg K5 R9 ff=>(?_)))))
   have b1:=b1.mv K5
   have p3:=p3.mv K5 R9 (fun b hb=>AJ (Z0 b hb))
   have F2:=F2.mv K5 R9 (fun b hb=>AJ (Z1 b hb))
   have ho0_b9863_2:=ho0_b9863_2.mv K5 R9 (fun b hb=>AJ (nb0_b9863_2_b9863 b hb))
   have ho0_b9863_3:=ho0_b9863_3.mv K5 R9 (fun b hb=>AJ (nb0_b9863_3_b9863 b hb))
   have hT:=by exact hT.mvB K5 R9 aS (by decide) (fun x hx=>by exact hx)
   refine EW (AW (AB (AD kR (AC (AF (vI ((k:Nat):Int)) rfl (AC (CE .i64 ((k:Nat):Int) (1:Int) (((k+1:Nat):Int)) rfl rfl (EP oM oM) (AC (AH (vI ((k+1:Nat):Int)) rfl (AE (AB (?_))))))))))))
   exact ⟨_,oM,(k+1),(L++([(.slice none 0 0:Value)])),v5,G0,d0,d1,K1,oM,(by rw [List.replicate_succ'];exact hT),rfl,⟨_,AL _ ⟨rfl,rfl,rfl,(by rfl),rfl,trivial⟩⟩,jg,(by rw [show IK (k+1)=(IK k)++([((CP ((k:Nat):Int)).1)]) from by rw [KO,OU oM oM]];exact p3),Y9,(by rw [show (L++([(.slice none 0 0:Value)]))=L++([(.slice none 0 0:Value)]) from by simp];exact F2),fd,ho0_b9863_2,e6,ho0_b9863_3,e7,b1,ff,aS,Z0,Z1,nb0_b9863_2_b9863,nb0_b9863_3_b9863,bT,(fun b hb e=>bR b e hb),(fun b hb e=>bS b e hb),(fun b hb e=>bT b e hb),(fun b hb e=>bU b e hb),(fun b hb e=>bV b e hb),bR,bU,nn0_b9863_2_b9863_3,bS,bV,nn0_b9863_3_b9863_2⟩
  refine AO (AM 0 GC rfl (CD (AO (AR U24_ rfl (f2) rfl b5 rfl (CD (AO (AQ (vs:=[vI (((CP ((k:Nat):Int)).1).id),vI (((CP ((k:Nat):Int)).1).counter),l2,vO (((CP ((k:Nat):Int)).1).halted)]) U31_ rfl BG rfl f0 rfl (CD (DA rfl (fun w4_ k4_=>AM 1 GA rfl (⟨rfl,rfl⟩)) (DA rfl (fun w4_ k4_=>AR U25_ rfl (d9) rfl (b5.keep k4_ (fun h_=>(List.mem_append.1 h_).elim (fun h_=>nb0_b9863_0_b9863 _ (Option.mem_toList.1 h_) rfl) (fun h_=>nb0_b9863_1_b9863 _ (Option.mem_toList.1 h_) rfl))) rfl (⟨rfl,rfl⟩)) (DU (EY (E:=Enc.val) (xs:=[.const (nS)]) U25_ LR z_58 (by decide) [nS] [[nS]] [(.slice none 0 0:Value)] rfl rfl rfl (Parts.cons rfl ⟨rfl,rfl⟩ (Parts.nil _ _ _)) oT bb fun pN pO jh G1 A6 F3=>(?_)))))))))))))
  have b1:=b1.mv G1
  have j5:=j5.mv G1
  have ho0_b9863_0:=ho0_b9863_0.mv G1 A6 (by simp)
  have ho0_b9863_1:=ho0_b9863_1.mv G1 A6 (by simp)
  have ho0_b9863_2:=ho0_b9863_2.mv G1 A6 (by simp)
  have ho0_b9863_3:=ho0_b9863_3.mv G1 A6 (by simp)
  have b5:=b5.keep A6 (by simp)
  have f0:=f0.keep A6 (by simp)
  have hT:=by exact hT.mv0 G1 A6 (fun x hx=>by exact hx)
  have:=F3.len_le
  refine ⟨A6,?_⟩
  refine DU (EY (E:=Enc.device) (xs:=[.tmp 42]) U24_ BG HO (by decide) [.agg #[vI (((CP ((k:Nat):Int)).1).id),vI (((CP ((k:Nat):Int)).1).counter),l2,vO (((CP ((k:Nat):Int)).1).halted)]] [[vI (((CP ((k:Nat):Int)).1).id),vI (((CP ((k:Nat):Int)).1).counter),l2,vO (((CP ((k:Nat):Int)).1).halted)]] [((CP ((k:Nat):Int)).1)] rfl rfl rfl (Parts.cons rfl ⟨_,rfl,j5⟩ (Parts.nil _ _ _)) oT jh fun pP pQ ji G2 A7 bW=>(?_))
  have b1:=b1.mv G2
  have ho0_b9863_0:=ho0_b9863_0.mv G2 A7 (by simp)
  have ho0_b9863_1:=ho0_b9863_1.mv G2 A7 (by simp)
  have F3:=F3.mv G2
  have ho0_b9863_2:=ho0_b9863_2.mv G2 A7 (by simp)
  have ho0_b9863_3:=ho0_b9863_3.mv G2 A7 (by simp)
  have b5:=b5.keep A7 (by simp)
  have f0:=f0.keep A7 (by simp)
  have hT:=by exact hT.mv0 G2 A7 (fun x hx=>by exact hx)
  have:=bW.len_le
  refine ⟨A7,?_⟩
  refine KX (CT (E:=Enc.device) (l:=IK k) (m:=[((CP ((k:Nat):Int)).1)]) U24_ i_31 rfl (by decide) rfl rfl ho0_b9863_0 bW (fun _ hb=>.inl hb) i1 (by simp only [List.length_singleton];omega) (by simp only [maxLen,List.length_singleton];omega) ji fun v6 pR S0 Z2 K6 z4 jj K7 G3 p4=>(?_))
  have bX:∀ b,d9.ownBlock=some b→v6.ownBlock≠some b:=fun b hb e=>by rcases K6 with e1|e1 <;> rw [e1] at e <;> first|(cases e;have:=(ho0_b9863_1.lt _ hb).2;omega)|(exact absurd e (nn0_b9863_1_b9863_0 b hb))
  have bY:∀ b,d0.ownBlock=some b→v6.ownBlock≠some b:=fun b hb e=>by rcases K6 with e1|e1 <;> rw [e1] at e <;> first|(cases e;have:=(ho0_b9863_2.lt _ hb).2;omega)|(exact absurd e (nn0_b9863_2_b9863_0 b hb))
  have bZ:∀ b,d1.ownBlock=some b→v6.ownBlock≠some b:=fun b hb e=>by rcases K6 with e1|e1 <;> rw [e1] at e <;> first|(cases e;have:=(ho0_b9863_3.lt _ hb).2;omega)|(exact absurd e (nn0_b9863_3_b9863_0 b hb))
  have Z3:∀ b,v6.ownBlock=some b→b≠b8:=fun b hb=>by rcases K6 with e1|e1 <;> rw [e1] at hb <;> first|(cases hb;have:=b5.lt;omega)|(exact nb0_b9863_0_b9863 b hb)
  have ny:∀ b,v6.ownBlock=some b→b≠f8:=fun b hb=>by rcases K6 with e1|e1 <;> rw [e1] at hb <;> first|(cases hb;have:=f0.lt;omega)|(exact v4 b hb)
  have g0:∀ b,d9.ownBlock=some b→b∈S0:=fun b hb=>z4 b (g0 b hb)
  have e6:∀ b,d0.ownBlock=some b→b∈S0:=fun b hb=>z4 b (e6 b hb)
  have e7:∀ b,d1.ownBlock=some b→b∈S0:=fun b hb=>z4 b (e7 b hb)
  have e9:b8∈S0:=z4 b8 rC
  have l4:f8∈S0:=z4 f8 (by repeat (constructor))
  have b1:=b1.mv K7
  have ho0_b9863_1:=ho0_b9863_1.mv K7 G3 (fun b hb=>by simp only [Option.mem_toList];exact nn0_b9863_1_b9863_0 b hb)
  have F3:=F3.mv K7
  have ho0_b9863_2:=ho0_b9863_2.mv K7 G3 (fun b hb=>by simp only [Option.mem_toList];exact nn0_b9863_2_b9863_0 b hb)
  have ho0_b9863_3:=ho0_b9863_3.mv K7 G3 (fun b hb=>by simp only [Option.mem_toList];exact nn0_b9863_3_b9863_0 b hb)
  have b5:=b5.keep G3 (by simp only [Option.mem_toList];exact fun e=>absurd rfl (nb0_b9863_0_b9863 _ e))
  have f0:=f0.keep G3 (by simp only [Option.mem_toList];exact fun e=>absurd rfl (v4 _ e))
  have hT:=hT.mvO K7 G3 ho0_b9863_0 (fun b hb=>Option.mem_toList.1 hb) (by decide) z4
  refine ⟨(G3.mono fun _ h_=>.inl (List.mem_append_left _ h_)),?_⟩
  refine DA rfl (fun w4_ k4_=>AM 0 GC rfl (⟨rfl,rfl⟩)) (KX (CT (E:=Enc.val) (l:=L) (m:=[(.slice none 0 0:Value)]) U25_ i_58 rfl (by decide) rfl rfl ho0_b9863_1 F3 (fun _ hb=>.inl hb) g0 (by simp only [List.length_singleton];omega) (by simp only [maxLen,List.length_singleton];omega) jj fun G4 pS K8 fg K9 z5 jk S1 L0 F4=>(?_)))
  have ca:∀ b,v6.ownBlock=some b→G4.ownBlock≠some b:=fun b hb e=>by rcases K9 with e1|e1 <;> rw [e1] at e <;> first|(cases e;have:=(p4.lt _ hb).2;omega)|(exact absurd e ((fun b hb e=>bX b e hb) b hb))
  have cb:∀ b,d0.ownBlock=some b→G4.ownBlock≠some b:=fun b hb e=>by rcases K9 with e1|e1 <;> rw [e1] at e <;> first|(cases e;have:=(ho0_b9863_2.lt _ hb).2;omega)|(exact absurd e (nn0_b9863_2_b9863_1 b hb))
  have cc:∀ b,d1.ownBlock=some b→G4.ownBlock≠some b:=fun b hb e=>by rcases K9 with e1|e1 <;> rw [e1] at e <;> first|(cases e;have:=(ho0_b9863_3.lt _ hb).2;omega)|(exact absurd e (nn0_b9863_3_b9863_1 b hb))
  have Z4:∀ b,G4.ownBlock=some b→b≠b8:=fun b hb=>by rcases K9 with e1|e1 <;> rw [e1] at hb <;> first|(cases hb;have:=b5.lt;omega)|(exact nb0_b9863_1_b9863 b hb)
  have nz:∀ b,G4.ownBlock=some b→b≠f8:=fun b hb=>by rcases K9 with e1|e1 <;> rw [e1] at hb <;> first|(cases hb;have:=f0.lt;omega)|(exact Q9 b hb)
  have Z2:∀ b,v6.ownBlock=some b→b∈K8:=fun b hb=>z5 b (Z2 b hb)
  have e6:∀ b,d0.ownBlock=some b→b∈K8:=fun b hb=>z5 b (e6 b hb)
  have e7:∀ b,d1.ownBlock=some b→b∈K8:=fun b hb=>z5 b (e7 b hb)
  have e9:b8∈K8:=z5 b8 (by repeat (assumption))
  have l4:f8∈K8:=z5 f8 (by repeat (assumption))
  have b1:=b1.mv S1
  have p4:=p4.mv S1 L0 (fun b hb=>by simp only [Option.mem_toList];exact (fun b hb e=>bX b e hb) b hb)
  have ho0_b9863_2:=ho0_b9863_2.mv S1 L0 (fun b hb=>by simp only [Option.mem_toList];exact nn0_b9863_2_b9863_1 b hb)
  have ho0_b9863_3:=ho0_b9863_3.mv S1 L0 (fun b hb=>by simp only [Option.mem_toList];exact nn0_b9863_3_b9863_1 b hb)
  have b5:=b5.keep L0 (by simp only [Option.mem_toList];exact fun e=>absurd rfl (nb0_b9863_1_b9863 _ e))
  have hT:=hT.mvO S1 L0 ho0_b9863_1 (fun b hb=>Option.mem_toList.1 hb) (by decide) z5
  have hT:=hT.push
  refine ⟨(L0.mono fun _ h_=>.inl (List.mem_append_right _ h_)),?_⟩
  refine FO (BP (v6) rfl rfl p4.oneCell s_24 (by repeat (assumption)) b5 oT jk fun pT jl L1 S2 fh=>(?_))
  have b1:=b1.mv L1
  have p4:=p4.mv L1 S2 (fun b hb=>AJ (Z3 b hb))
  have F4:=F4.mv L1 S2 (fun b hb=>AJ (Z4 b hb))
  have ho0_b9863_2:=ho0_b9863_2.mv L1 S2 (fun b hb=>AJ (nb0_b9863_2_b9863 b hb))
  have ho0_b9863_3:=ho0_b9863_3.mv L1 S2 (fun b hb=>AJ (nb0_b9863_3_b9863 b hb))
  have hT:=by exact hT.mvB L1 S2 aS (by decide) (fun x hx=>by exact hx)
  refine AO (AM 1 GA rfl (CD (FO (BP (G4) rfl rfl F4.oneCell s_25 (by repeat (assumption)) fh oT jl fun pU jm L3 S3 fi=>(?_)))))
  have b1:=b1.mv L3
  have p4:=p4.mv L3 S3 (fun b hb=>AJ (Z3 b hb))
  have F4:=F4.mv L3 S3 (fun b hb=>AJ (Z4 b hb))
  have ho0_b9863_2:=ho0_b9863_2.mv L3 S3 (fun b hb=>AJ (nb0_b9863_2_b9863 b hb))
  have ho0_b9863_3:=ho0_b9863_3.mv L3 S3 (fun b hb=>AJ (nb0_b9863_3_b9863 b hb))
  have hT:=by exact hT.mvB L3 S3 aS (by decide) (fun x hx=>by exact hx)
  refine EW (AW (AB (AD kR (AC (AF (vI ((k:Nat):Int)) rfl (AC (CE .i64 ((k:Nat):Int) (1:Int) (((k+1:Nat):Int)) rfl rfl (EP oM oM) (AC (AH (vI ((k+1:Nat):Int)) rfl (AE (AB (?_))))))))))))
  exact ⟨_,oM,(k+1),(L++([(.slice none 0 0:Value)])),v6,G4,d0,d1,K8,oM,(by rw [List.replicate_succ'];exact hT),rfl,⟨_,AL _ ⟨rfl,rfl,rfl,(by rfl),rfl,trivial⟩⟩,jm,(by rw [show IK (k+1)=(IK k)++([((CP ((k:Nat):Int)).1)]) from by rw [KO,OU oM oM]];exact p4),Z2,(by rw [show (L++([(.slice none 0 0:Value)]))=L++([(.slice none 0 0:Value)]) from by simp];exact F4),fg,ho0_b9863_2,e6,ho0_b9863_3,e7,b1,fi,aS,Z3,Z4,nb0_b9863_2_b9863,nb0_b9863_3_b9863,ca,(fun b hb e=>bY b e hb),(fun b hb e=>bZ b e hb),(fun b hb e=>ca b e hb),(fun b hb e=>cb b e hb),(fun b hb e=>cc b e hb),bY,cb,nn0_b9863_2_b9863_3,bZ,cc,nn0_b9863_3_b9863_2⟩
 have nA:(2:Int)+((many % 3).toNat:Int)≤((k:Nat):Int):=by simpa using be
 obtain rfl:k=(2+(many % 3).toNat):=by omega
 refine EF (CG (CG (DJ (AB (AG (AG (AD kR (AC (AH (vI 0) rfl (AE (AB (BN (ED (fun mI FI wI=>∃ (k:Nat) (s:HouseR) (L:List Value) (b3:Value) (a1:Value) (a3:Value) (a2:Value) (B:List Nat),k≤l.length∧InvT (2+(many % 3).toNat) k s∧Bk (Enc.slice Enc.devop) 26 w.heap.size O B wI L s.b∧mI=l.length - k∧(∃ F1,FI=GM F1 [(1,l_v),(5,vP (some ⟨b8,0,none⟩)),(9,vI ((k:Nat):Int)),(160,undef)])∧St w O wI B∧DM Enc.device 31 w.heap.size (B++O) wI b3 (s.d)∧(∀ b,b3.ownBlock=some b→b∈B)∧DM Enc.val 58 w.heap.size (B++O) wI a1 (L)∧(∀ b,a1.ownBlock=some b→b∈B)∧DM Enc.devop 40 w.heap.size (B++O) wI a3 (s.done)∧(∀ b,a3.ownBlock=some b→b∈B)∧DM Enc.int 3 w.heap.size (B++O) wI a2 (s.shown)∧(∀ b,a2.ownBlock=some b→b∈B)∧CI Enc.doing wI (B++O) (l_v) (l)∧EN wI b8 29 [b3,a1,a3,a2]∧b8∈B∧(∀ b,b3.ownBlock=some b→b≠b8)∧(∀ b,a1.ownBlock=some b→b≠b8)∧(∀ b,a3.ownBlock=some b→b≠b8)∧(∀ b,a2.ownBlock=some b→b≠b8)∧(∀ b,b3.ownBlock=some b→a1.ownBlock≠some b)∧(∀ b,b3.ownBlock=some b→a3.ownBlock≠some b)∧(∀ b,b3.ownBlock=some b→a2.ownBlock≠some b)∧(∀ b,a1.ownBlock=some b→b3.ownBlock≠some b)∧(∀ b,a1.ownBlock=some b→a3.ownBlock≠some b)∧(∀ b,a1.ownBlock=some b→a2.ownBlock≠some b)∧(∀ b,a3.ownBlock=some b→b3.ownBlock≠some b)∧(∀ b,a3.ownBlock=some b→a1.ownBlock≠some b)∧(∀ b,a3.ownBlock=some b→a2.ownBlock≠some b)∧(∀ b,a2.ownBlock=some b→b3.ownBlock≠some b)∧(∀ b,a2.ownBlock=some b→a1.ownBlock≠some b)∧(∀ b,a2.ownBlock=some b→a3.ownBlock≠some b)) (l.length - (0)) ?_ ?_)))))))))))))
 ·exact ⟨(0),(IR (2+(many % 3).toNat)),(L),f2,d9,d0,d1,X0,oM,(OV oM oM),hT,rfl,⟨_,AL _ ⟨rfl,rfl,(by rfl),rfl,trivial⟩⟩,iO,ho0_b9863_0,i1,ho0_b9863_1,g0,ho0_b9863_2,e6,ho0_b9863_3,e7,b1,b5,aS,nb0_b9863_0_b9863,nb0_b9863_1_b9863,nb0_b9863_2_b9863,nb0_b9863_3_b9863,nn0_b9863_0_b9863_1,nn0_b9863_0_b9863_2,nn0_b9863_0_b9863_3,nn0_b9863_1_b9863_0,nn0_b9863_1_b9863_2,nn0_b9863_1_b9863_3,nn0_b9863_2_b9863_0,nn0_b9863_2_b9863_1,nn0_b9863_2_b9863_3,nn0_b9863_3_b9863_0,nn0_b9863_3_b9863_1,nn0_b9863_3_b9863_2⟩
 intro sV F pV hI
 clear b1
 obtain ⟨k,s,L,b3,a1,a3,a2,r0,hr1_0,hr1_1,hr1_2,sW,⟨sX,rfl⟩,nm,ho1_b9863_0,c8,ho1_b9863_1,b2,ho1_b9863_2,b7,ho1_b9863_3,b4,b1,a0,e9,nb1_b9863_0_b9863,nb1_b9863_1_b9863,nb1_b9863_2_b9863,nb1_b9863_3_b9863,nn1_b9863_0_b9863_1,nn1_b9863_0_b9863_2,nn1_b9863_0_b9863_3,nn1_b9863_1_b9863_0,nn1_b9863_1_b9863_2,nn1_b9863_1_b9863_3,nn1_b9863_2_b9863_0,nn1_b9863_2_b9863_1,nn1_b9863_2_b9863_3,nn1_b9863_3_b9863_0,nn1_b9863_3_b9863_1,nn1_b9863_3_b9863_2⟩:=hI
 have hT:=hr1_2
 have hI:=hr1_1
 have hLT:=hT.len
 have hld:=hI.ld
 have hlb:=hI.lb
 have hn2:=hI.n2
 have hn4:=hI.n4
 have hi1:l[k]!.device.toNat % s.d.length<s.d.length:=Nat.mod_lt _ oM
 have hi2:l[k]!.device.toNat % s.d.length<s.b.length:=by omega
 have hk1:l[k]!.other.toNat % s.d.length<s.d.length:=Nat.mod_lt _ oM
 have hc0:0≤s.d[l[k]!.device.toNat % s.d.length]!.counter∧s.d[l[k]!.device.toNat % s.d.length]!.counter≤65536:=hI.c0 _ (hI.i_lt l[k]!)
 have hol:s.d[l[k]!.device.toNat % s.d.length]!.ops.length≤256:=(hI.ops _ (hI.i_lt l[k]!)).2
 have hbl:s.b[l[k]!.device.toNat % s.d.length]!.length≤k:=hI.bl _ (hI.i_lt l[k]!)
 have hdl:=hI.dl
 have hsl:=sh_len hI
 have hcc:(l[k]!.copy % 4).toNat<4:=mod6 l[k]!
 refine AG (AG (AD kR (AC (AF (vI ((k:Nat):Int)) rfl (AC (AF (l_v) rfl (AC (DS U22_ rfl b1 (AC (DR .i64 ((k:Nat):Int) (l.length:Int) rfl rfl (AE (AB (AK (decide (((k:Nat):Int)<(l.length:Int))) rfl rfl (fun Z5=>?_) (fun Z5=>?_))))))))))))))
 ·have nB:((k:Nat):Int)<(l.length:Int):=by simpa using Z5
  refine AT (AB (AG (BN (FV 5 _ _ kR kR kR kR kR rfl rfl fun jn A8=>?_))))
  have jo:=nm.call A8
  have L4:Mv r0 pV r0 jn:=Mv.of_keep A8
  have b1:=b1.mv L4
  have ho1_b9863_0:=ho1_b9863_0.mv L4 A8 (by simp)
  have ho1_b9863_1:=ho1_b9863_1.mv L4 A8 (by simp)
  have ho1_b9863_2:=ho1_b9863_2.mv L4 A8 (by simp)
  have ho1_b9863_3:=ho1_b9863_3.mv L4 A8 (by simp)
  have a0:=a0.keep A8 (by simp)
  have hT:=by exact hT.mv0 L4 A8 (fun x hx=>by exact hx)
  refine CA (AQ (vs:=[b3,a1,a3,a2]) U29_ rfl CL rfl a0 rfl (CA (AF (l_v) rfl (CA (AF (vI ((k:Nat):Int)) rfl (CA (BZ U22_ s_37 .i64 ((k:Nat):Int) k rfl rfl rfl b1 oM fun jp a6=>(CA (BT U37_ rfl s_37 rfl a6 fun b9 a7=>(HN (AC (LO [vA #[b3,a1,a3,a2],vA b9.toArray] _ enter_21 rfl (EJ 240 Try.func21 rfl rfl oT (fun pW=>AG (AD kR (AC (o_box (vA #[b3,a1,a3,a2]) [b3,a1,a3,a2] rfl rfl jo fun c2 jq jr js A9 L5 h0=>(?_)))))) (fun _ _ h=>h)))))))))))))
  have z6:DB b8 c2:=by show b8≠c2;have:=a0.lt;omega
  have Z6:∀ b,b3.ownBlock=some b→b≠c2:=fun b hb=>by have:=(ho1_b9863_0.lt b hb).2;omega
  have g1:∀ b,a1.ownBlock=some b→b≠c2:=fun b hb=>by have:=(ho1_b9863_1.lt b hb).2;omega
  have g4:∀ b,a3.ownBlock=some b→b≠c2:=fun b hb=>by have:=(ho1_b9863_2.lt b hb).2;omega
  have g3:∀ b,a2.ownBlock=some b→b≠c2:=fun b hb=>by have:=(ho1_b9863_3.lt b hb).2;omega
  have c8:∀ b,b3.ownBlock=some b→b∈(c2 :: r0):=fun b hb=>List.mem_cons_of_mem _ (c8 b hb)
  have b2:∀ b,a1.ownBlock=some b→b∈(c2 :: r0):=fun b hb=>List.mem_cons_of_mem _ (b2 b hb)
  have b7:∀ b,a3.ownBlock=some b→b∈(c2 :: r0):=fun b hb=>List.mem_cons_of_mem _ (b7 b hb)
  have b4:∀ b,a2.ownBlock=some b→b∈(c2 :: r0):=fun b hb=>List.mem_cons_of_mem _ (b4 b hb)
  clear jr
  have ho1_b9863_0:=ho1_b9863_0.mv A9 L5 (by simp)
  have ho1_b9863_1:=ho1_b9863_1.mv A9 L5 (by simp)
  have ho1_b9863_2:=ho1_b9863_2.mv A9 L5 (by simp)
  have ho1_b9863_3:=ho1_b9863_3.mv A9 L5 (by simp)
  have a7:Enc.doing.rd jq ((c2 :: r0)++O) b9 (l[k]!):=Enc.mv Enc.doing (x:=l[k]!) a7 A9
  have b1:=b1.mv A9
  have a6:=a6.mv A9
  have a0:=a0.keep L5 (by simp)
  have hT:=by exact hT.mv0 A9 L5 (fun x hx=>by exact List.mem_cons_of_mem _ hx)
  refine AC (DG (E:=Enc.doing) (vA b9.toArray) (b9) (l[k]!) rfl rfl a7 js fun pX jt ju B0 G5 b6=>(?_))
  have a7:Enc.doing.rd jt ((c2 :: r0)++O) b9 (l[k]!):=Enc.mv Enc.doing (x:=l[k]!) a7 B0
  have b1:=b1.mv B0
  have a6:=a6.mv B0
  have a0:=a0.keep G5 (by simp)
  have ho1_b9863_0:=ho1_b9863_0.mv B0 G5 (by simp)
  have ho1_b9863_1:=ho1_b9863_1.mv B0 G5 (by simp)
  have ho1_b9863_2:=ho1_b9863_2.mv B0 G5 (by simp)
  have ho1_b9863_3:=ho1_b9863_3.mv B0 G5 (by simp)
  have h0:=h0.keep G5 (by simp)
  have hT:=by exact hT.mv0 B0 G5 (fun x hx=>by exact hx)
  refine AC (CC [nS,nS,nS,nS] z_29 rfl ju fun c7 ec jv jw v7 G6 a5=>(?_))
  have i8:DB b8 c7:=by show b8≠c7;have:=a0.lt;omega
  have z7:DB c2 c7:=by show c2≠c7;have:=h0.lt;omega
  have nC:∀ b,b3.ownBlock=some b→b≠c7:=fun b hb=>by have:=(ho1_b9863_0.lt b hb).2;omega
  have f6:∀ b,a1.ownBlock=some b→b≠c7:=fun b hb=>by have:=(ho1_b9863_1.lt b hb).2;omega
  have f3:∀ b,a3.ownBlock=some b→b≠c7:=fun b hb=>by have:=(ho1_b9863_2.lt b hb).2;omega
  have f5:∀ b,a2.ownBlock=some b→b≠c7:=fun b hb=>by have:=(ho1_b9863_3.lt b hb).2;omega
  have c8:∀ b,b3.ownBlock=some b→b∈(c7 :: (c2 :: r0)):=fun b hb=>List.mem_cons_of_mem _ (c8 b hb)
  have b2:∀ b,a1.ownBlock=some b→b∈(c7 :: (c2 :: r0)):=fun b hb=>List.mem_cons_of_mem _ (b2 b hb)
  have b7:∀ b,a3.ownBlock=some b→b∈(c7 :: (c2 :: r0)):=fun b hb=>List.mem_cons_of_mem _ (b7 b hb)
  have b4:∀ b,a2.ownBlock=some b→b∈(c7 :: (c2 :: r0)):=fun b hb=>List.mem_cons_of_mem _ (b4 b hb)
  clear jv
  have a7:Enc.doing.rd ec ((c7 :: (c2 :: r0))++O) b9 (l[k]!):=Enc.mv Enc.doing (x:=l[k]!) a7 v7
  have b6:=b6.mv v7
  have b1:=b1.mv v7
  have a6:=a6.mv v7
  have a0:=a0.keep G6 (by simp)
  have ho1_b9863_0:=ho1_b9863_0.mv v7 G6 (by simp)
  have ho1_b9863_1:=ho1_b9863_1.mv v7 G6 (by simp)
  have ho1_b9863_2:=ho1_b9863_2.mv v7 G6 (by simp)
  have ho1_b9863_3:=ho1_b9863_3.mv v7 G6 (by simp)
  have h0:=h0.keep G6 (by simp)
  have hT:=by exact hT.mv0 v7 G6 (fun x hx=>by exact List.mem_cons_of_mem _ hx)
  refine AE (AB (AG (AD kR (AC (AM 0 GC rfl (AC (AR U24_ rfl (b3) rfl h0 rfl (AC (JG U24_ rfl ho1_b9863_0 (AC (AH (vI (s.d.length:Int)) rfl (AE (AB (AG (FV 17 _ _ kR kR kR kR kR rfl rfl fun ed r1=>?_)))))))))))))))
  have jx:=jw.call r1
  have v8:Mv (c7 :: (c2 :: r0)) ec (c7 :: (c2 :: r0)) ed:=Mv.of_keep r1
  have a7:Enc.doing.rd ed ((c7 :: (c2 :: r0))++O) b9 (l[k]!):=Enc.mv Enc.doing (x:=l[k]!) a7 v8
  have b6:=b6.mv v8
  have ho1_b9863_0:=ho1_b9863_0.mv v8 r1 (by simp)
  have b1:=b1.mv v8
  have a6:=a6.mv v8
  have a0:=a0.keep r1 (by simp)
  have ho1_b9863_1:=ho1_b9863_1.mv v8 r1 (by simp)
  have ho1_b9863_2:=ho1_b9863_2.mv v8 r1 (by simp)
  have ho1_b9863_3:=ho1_b9863_3.mv v8 r1 (by simp)
  have h0:=h0.keep r1 (by simp)
  have a5:=a5.keep r1 (by simp)
  have hT:=by exact hT.mv0 v8 r1 (fun x hx=>by exact hx)
  refine CA (AP 1 f_37_1 ((l[k]!).device) rfl b6 (fun _ _ _ h=>MC h) fun pY fj=>(CA (CU U5_ rfl rfl fj (CA (FF .u8 .i64 U5_ U3_ (((l[k]!).device).toNat:Int) (((l[k]!).device).toNat:Int) rfl (by have:=((l[k]!).device).toNat_lt;exact EP oM rfl) (CA (AF (vI (s.d.length:Int)) rfl (CA (MZ (((l[k]!).device).toNat) s.d.length oM rfl rfl (CA (AP 2 f_37_2 ((l[k]!).other) rfl b6 (fun _ _ _ h=>MB h) fun pZ fk=>(CA (CU U5_ rfl rfl fk (CA (FF .u8 .i64 U5_ U3_ (((l[k]!).other).toNat:Int) (((l[k]!).other).toNat:Int) rfl (by have:=((l[k]!).other).toNat_lt;exact EP oM rfl) (CA (AF (vI (s.d.length:Int)) rfl (CA (MZ (((l[k]!).other).toNat) s.d.length oM rfl rfl (CA (AP 3 f_37_3 ((l[k]!).copy) rfl b6 (fun _ _ _ h=>MH h) fun qa fl=>(CA (CU U5_ rfl rfl fl (CA (DY ((l[k]!).copy) (4:UInt8) (by decide) rfl rfl (CA (FF .u8 .i64 U5_ U3_ ((((l[k]!).copy) % 4).toNat:Int) ((((l[k]!).copy) % 4).toNat:Int) rfl (by have:=(((l[k]!).copy) % 4).toNat_lt;exact EP oM rfl) (CA (AH (vI (((((l[k]!).device).toNat) % s.d.length:Nat):Int)) rfl (CA (AH (vI (((((l[k]!).other).toNat) % s.d.length:Nat):Int)) rfl (CA (AH (vI ((((l[k]!).copy) % 4).toNat:Int)) rfl (HN (AE (AB (AG (AD kR (AC (PO (E:=Enc.device) (xs:=[]) U24_ BG HO (by decide) [] [] [] rfl rfl rfl (Parts.nil _ _ _) oT jx fun j6 L6 jy jz p5 jA v9 B1 cd=>(?_)))))))))))))))))))))))))))))))))))))))))
  have ce:∀ b,j6.ownBlock=some b→b≠b8:=fun b hb=>by have:=a0.lt;rw [p5] at hb;cases hb;omega
  have cf:∀ b,j6.ownBlock=some b→b≠c2:=fun b hb=>by have:=h0.lt;rw [p5] at hb;cases hb;omega
  have cg:∀ b,j6.ownBlock=some b→b≠c7:=fun b hb=>by have:=a5.lt;rw [p5] at hb;cases hb;omega
  have Z7:∀ b,b3.ownBlock=some b→j6.ownBlock≠some b:=fun b hb=>by have:=(ho1_b9863_0.lt b hb).2;rw [p5];intro e;cases e;omega
  have ne10182':∀ b,j6.ownBlock=some b→b3.ownBlock≠some b:=fun b hb e=>Z7 b e hb
  have Z8:∀ b,a1.ownBlock=some b→j6.ownBlock≠some b:=fun b hb=>by have:=(ho1_b9863_1.lt b hb).2;rw [p5];intro e;cases e;omega
  have ne10183':∀ b,j6.ownBlock=some b→a1.ownBlock≠some b:=fun b hb e=>Z8 b e hb
  have Z9:∀ b,a3.ownBlock=some b→j6.ownBlock≠some b:=fun b hb=>by have:=(ho1_b9863_2.lt b hb).2;rw [p5];intro e;cases e;omega
  have ne10184':∀ b,j6.ownBlock=some b→a3.ownBlock≠some b:=fun b hb e=>Z9 b e hb
  have aa:∀ b,a2.ownBlock=some b→j6.ownBlock≠some b:=fun b hb=>by have:=(ho1_b9863_3.lt b hb).2;rw [p5];intro e;cases e;omega
  have ne10185':∀ b,j6.ownBlock=some b→a2.ownBlock≠some b:=fun b hb e=>aa b e hb
  have fm:∀ b,j6.ownBlock=some b→b∈(L6 :: (c7 :: (c2 :: r0))):=fun b hb=>by rw [p5] at hb;cases hb;simp
  clear jz p5
  have c8:∀ b,b3.ownBlock=some b→b∈(L6 :: (c7 :: (c2 :: r0))):=fun b hb=>List.mem_cons_of_mem _ (c8 b hb)
  have b2:∀ b,a1.ownBlock=some b→b∈(L6 :: (c7 :: (c2 :: r0))):=fun b hb=>List.mem_cons_of_mem _ (b2 b hb)
  have b7:∀ b,a3.ownBlock=some b→b∈(L6 :: (c7 :: (c2 :: r0))):=fun b hb=>List.mem_cons_of_mem _ (b7 b hb)
  have b4:∀ b,a2.ownBlock=some b→b∈(L6 :: (c7 :: (c2 :: r0))):=fun b hb=>List.mem_cons_of_mem _ (b4 b hb)
  have a7:Enc.doing.rd jy ((L6 :: (c7 :: (c2 :: r0)))++O) b9 (l[k]!):=Enc.mv Enc.doing (x:=l[k]!) a7 v9
  have b6:=b6.mv v9
  have ho1_b9863_0:=ho1_b9863_0.mv v9 B1 (by simp)
  have b1:=b1.mv v9
  have a6:=a6.mv v9
  have a0:=a0.keep B1 (by simp)
  have ho1_b9863_1:=ho1_b9863_1.mv v9 B1 (by simp)
  have ho1_b9863_2:=ho1_b9863_2.mv v9 B1 (by simp)
  have ho1_b9863_3:=ho1_b9863_3.mv v9 B1 (by simp)
  have h0:=h0.keep B1 (by simp)
  have a5:=a5.keep B1 (by simp)
  have hT:=by exact hT.mv0 v9 B1 (fun x hx=>by exact List.mem_cons_of_mem _ hx)
  refine AC (AM 0 GC rfl (AC (AR U24_ rfl (b3) rfl h0 rfl (AC (LD (E:=Enc.device) (l:=[]) (m:=s.d) U24_ i_31 rfl (by decide) rfl rfl cd ho1_b9863_0  fm (by simp;omega) (by simp [maxLen];omega) jA fun b0 jB a9 c3 z8 l6 jC w0 B2 a4=>(?_))))))
  rw [List.nil_append] at a4
  have V8:∀ b,b3.ownBlock=some b→b0.ownBlock≠some b:=fun b hb e=>by rcases z8 with e1|e1 <;> rw [e1] at e <;> first|(cases e;have:=(ho1_b9863_0.lt _ hb).2;omega)|(exact absurd e (Z7 b hb))
  have c4:∀ b,a1.ownBlock=some b→b0.ownBlock≠some b:=fun b hb e=>by rcases z8 with e1|e1 <;> rw [e1] at e <;> first|(cases e;have:=(ho1_b9863_1.lt _ hb).2;omega)|(exact absurd e (Z8 b hb))
  have c5:∀ b,a3.ownBlock=some b→b0.ownBlock≠some b:=fun b hb e=>by rcases z8 with e1|e1 <;> rw [e1] at e <;> first|(cases e;have:=(ho1_b9863_2.lt _ hb).2;omega)|(exact absurd e (Z9 b hb))
  have c6:∀ b,a2.ownBlock=some b→b0.ownBlock≠some b:=fun b hb e=>by rcases z8 with e1|e1 <;> rw [e1] at e <;> first|(cases e;have:=(ho1_b9863_3.lt _ hb).2;omega)|(exact absurd e (aa b hb))
  have d8:∀ b,b0.ownBlock=some b→b≠b8:=fun b hb=>by rcases z8 with e1|e1 <;> rw [e1] at hb <;> first|(cases hb;have:=a0.lt;omega)|(exact ce b hb)
  have f1:∀ b,b0.ownBlock=some b→b≠c2:=fun b hb=>by rcases z8 with e1|e1 <;> rw [e1] at hb <;> first|(cases hb;have:=h0.lt;omega)|(exact cf b hb)
  have e8:∀ b,b0.ownBlock=some b→b≠c7:=fun b hb=>by rcases z8 with e1|e1 <;> rw [e1] at hb <;> first|(cases hb;have:=a5.lt;omega)|(exact cg b hb)
  have c8:∀ b,b3.ownBlock=some b→b∈a9:=fun b hb=>l6 b (c8 b hb)
  have b2:∀ b,a1.ownBlock=some b→b∈a9:=fun b hb=>l6 b (b2 b hb)
  have b7:∀ b,a3.ownBlock=some b→b∈a9:=fun b hb=>l6 b (b7 b hb)
  have b4:∀ b,a2.ownBlock=some b→b∈a9:=fun b hb=>l6 b (b4 b hb)
  have e9:b8∈a9:=l6 b8 rC
  have h9:c2∈a9:=l6 c2 (by repeat (constructor))
  have i0:c7∈a9:=l6 c7 (by repeat (constructor))
  have a7:Enc.doing.rd jB (a9++O) b9 (l[k]!):=Enc.mv Enc.doing (x:=l[k]!) a7 w0
  have b6:=b6.mv w0
  have ho1_b9863_0:=ho1_b9863_0.mv w0 B2 (fun b hb=>by simp only [Option.mem_toList];exact Z7 b hb)
  have b1:=b1.mv w0
  have a6:=a6.mv w0
  have a0:=a0.keep B2 (by simp only [Option.mem_toList];exact fun e=>absurd rfl (ce _ e))
  have ho1_b9863_1:=ho1_b9863_1.mv w0 B2 (fun b hb=>by simp only [Option.mem_toList];exact Z8 b hb)
  have ho1_b9863_2:=ho1_b9863_2.mv w0 B2 (fun b hb=>by simp only [Option.mem_toList];exact Z9 b hb)
  have ho1_b9863_3:=ho1_b9863_3.mv w0 B2 (fun b hb=>by simp only [Option.mem_toList];exact aa b hb)
  have h0:=h0.keep B2 (by simp only [Option.mem_toList];exact fun e=>absurd rfl (cf _ e))
  have a5:=a5.keep B2 (by simp only [Option.mem_toList];exact fun e=>absurd rfl (cg _ e))
  have hT:=hT.mvO w0 B2 cd (fun b hb=>Option.mem_toList.1 hb) (by decide) l6
  refine AC (AH (b0) rfl (AE (AB (AG (AD kR (AC (AF (b0) rfl (AC (AM 0 GC rfl (BK (BP (b0) rfl rfl a4.oneCell s_24 (by repeat (assumption)) h0 oT jC fun w1 r2 r3 B3 a8=>(?_))))))))))))
  have a7:Enc.doing.rd w1 (a9++O) b9 (l[k]!):=Enc.mv Enc.doing (x:=l[k]!) a7 r3
  have b6:=b6.mv r3
  have a4:=a4.mv r3 B3 (fun b hb=>AJ (f1 b hb))
  have ho1_b9863_0:=ho1_b9863_0.mv r3 B3 (fun b hb=>AJ (Z6 b hb))
  have b1:=b1.mv r3
  have a6:=a6.mv r3
  have a0:=a0.keep B3 (AJ z6)
  have ho1_b9863_1:=ho1_b9863_1.mv r3 B3 (fun b hb=>AJ (g1 b hb))
  have ho1_b9863_2:=ho1_b9863_2.mv r3 B3 (fun b hb=>AJ (g4 b hb))
  have ho1_b9863_3:=ho1_b9863_3.mv r3 B3 (fun b hb=>AJ (g3 b hb))
  have a5:=a5.keep B3 (AJ (Ne.symm z7))
  have hT:=by exact hT.mvB r3 B3 aS (by decide) (fun x hx=>by exact hx)
  refine AE (AB (JW (fun FI wI=>∃ (s2:HouseR) (L2:List Value) (d3:Value) (d4:Value) (d5:Value) (d6:Value) (B:List Nat),s2=DF s l[k]!∧Bk (Enc.slice Enc.devop) 26 w.heap.size O B wI L2 s2.b∧True∧(∃ F1,FI=GM F1 [(2,vP (some ⟨c2,0,none⟩)),(4,vP (some ⟨c7,0,none⟩)),(240,undef)])∧St w O wI B∧DM Enc.device 31 w.heap.size (B++O) wI d3 (s2.d)∧(∀ b,d3.ownBlock=some b→b∈B)∧DM Enc.val 58 w.heap.size (B++O) wI d4 (L2)∧(∀ b,d4.ownBlock=some b→b∈B)∧DM Enc.devop 40 w.heap.size (B++O) wI d5 (s2.done)∧(∀ b,d5.ownBlock=some b→b∈B)∧DM Enc.int 3 w.heap.size (B++O) wI d6 (s2.shown)∧(∀ b,d6.ownBlock=some b→b∈B)∧CI Enc.doing wI (B++O) (l_v) (l)∧PT Enc.doing wI (B++O) (.pointer (some jp)) (l[k]!)∧Enc.doing.rd wI (B++O) b9 (l[k]!)∧EN wI c2 29 [d3,d4,d5,d6]∧c2∈B∧EN wI c7 29 [nS,nS,nS,nS]∧c7∈B∧EN wI b8 29 [b3,a1,a3,a2]∧b8∈B∧(∀ b,d3.ownBlock=some b→b≠c2)∧(∀ b,d3.ownBlock=some b→b≠c7)∧(∀ b,d3.ownBlock=some b→b≠b8)∧(∀ b,d4.ownBlock=some b→b≠c2)∧(∀ b,d4.ownBlock=some b→b≠c7)∧(∀ b,d4.ownBlock=some b→b≠b8)∧(∀ b,d5.ownBlock=some b→b≠c2)∧(∀ b,d5.ownBlock=some b→b≠c7)∧(∀ b,d5.ownBlock=some b→b≠b8)∧(∀ b,d6.ownBlock=some b→b≠c2)∧(∀ b,d6.ownBlock=some b→b≠c7)∧(∀ b,d6.ownBlock=some b→b≠b8)∧(∀ b,d3.ownBlock=some b→d4.ownBlock≠some b)∧(∀ b,d3.ownBlock=some b→d5.ownBlock≠some b)∧(∀ b,d3.ownBlock=some b→d6.ownBlock≠some b)∧(∀ b,d4.ownBlock=some b→d3.ownBlock≠some b)∧(∀ b,d4.ownBlock=some b→d5.ownBlock≠some b)∧(∀ b,d4.ownBlock=some b→d6.ownBlock≠some b)∧(∀ b,d5.ownBlock=some b→d3.ownBlock≠some b)∧(∀ b,d5.ownBlock=some b→d4.ownBlock≠some b)∧(∀ b,d5.ownBlock=some b→d6.ownBlock≠some b)∧(∀ b,d6.ownBlock=some b→d3.ownBlock≠some b)∧(∀ b,d6.ownBlock=some b→d4.ownBlock≠some b)∧(∀ b,d6.ownBlock=some b→d5.ownBlock≠some b)) ?_ ?_))
  ·refine AG (AD kR (AC (AP 0 MV ((l[k]!).kind) rfl b6 (fun _ _ _ h=>FZ h) fun qb fn=>(AC (CU U5_ rfl rfl fn (AC (DY ((l[k]!).kind) (6:UInt8) (by decide) rfl rfl (AE (AB (BN (AG (AG (AD kR (AC (EG (((l[k]!).kind) % 6) (0:UInt8) rfl rfl (AC (AH (vO ((((l[k]!).kind) % 6) == (0:UInt8))) rfl (AE (AB (AK ((((l[k]!).kind) % 6) == (0:UInt8)) rfl rfl (fun L7=>?_) (fun L7=>?_)))))))))))))))))))))
   ·have nD:((l[k]!).kind) % 6=(0:UInt8):=by simpa using L7
    refine AT (AB (?_))
    have fo:((((l[k]!).kind) % 6) == (0:UInt8))=true:=(by simpa using L7)
    rw [fo]
    refine AK true rfl rfl (fun _=>AG (AD kR (AC (AF (b0) rfl (AC (AF (vI (((((l[k]!).device).toNat) % s.d.length:Nat):Int)) rfl (AC (BZ U24_ BG .i64 (((((l[k]!).device).toNat) % s.d.length:Nat):Int) ((((l[k]!).device).toNat) % s.d.length) rfl rfl rfl a4.rdB oM fun qc fp=>(AC (AP (E':=(Enc.both (Enc.slice Enc.devop) w1 (a9++O))) 2 EQ ((s.d[(((l[k]!).device).toNat) % s.d.length]!).ops) rfl fp (fun _ _ _ h=>⟨BL h.1,BL h.2⟩) fun qd fq=>(AC (ER U26_ rfl rfl fq fun ee ch=>(?_))))))))))))) (fun h=>by cases h)
    have:=ch.len_le
    refine AC (BI (vs:=[ee,vI 4,vI 0]) IU (KQ (O:=a9++O) ee ((s.d[(((l[k]!).device).toNat) % s.d.length]!).ops) (4:Int) (0:Int) w1 ch r2.lt) rfl r2 fun qe bn ef r4 w2 jD=>(?_))
    obtain ⟨S4,rfl,z9⟩:=jD
    have:=z9.len_le
    have a7:Enc.doing.rd bn (a9++O) b9 (l[k]!):=Enc.mv Enc.doing (x:=l[k]!) a7 r4
    have b6:=b6.mv r4
    have a4:=a4.mv r4 w2 (by simp)
    have ho1_b9863_0:=ho1_b9863_0.mv r4 w2 (by simp)
    have b1:=b1.mv r4
    have a6:=a6.mv r4
    have a0:=a0.keep w2 (by simp)
    have ho1_b9863_1:=ho1_b9863_1.mv r4 w2 (by simp)
    have ho1_b9863_2:=ho1_b9863_2.mv r4 w2 (by simp)
    have ho1_b9863_3:=ho1_b9863_3.mv r4 w2 (by simp)
    have a8:=a8.keep w2 (by simp)
    have a5:=a5.keep w2 (by simp)
    have hT:=by exact hT.mv0 r4 w2 (fun x hx=>by exact hx)
    refine AC (AF (vT #[S4,vI ((AI ((s.d[(((l[k]!).device).toNat) % s.d.length]!).ops) (4:Int) (0:Int)).2)]) rfl (AC (BD (S4) rfl rfl (AC (BD (vI ((AI ((s.d[(((l[k]!).device).toNat) % s.d.length]!).ops) (4:Int) (0:Int)).2)) rfl rfl (AC (AH (S4) rfl (AC (AH (vI ((AI ((s.d[(((l[k]!).device).toNat) % s.d.length]!).ops) (4:Int) (0:Int)).2)) rfl (AE (AB (AG (AD kR (AC (AF (b0) rfl (AC (AF (vI (((((l[k]!).device).toNat) % s.d.length:Nat):Int)) rfl (AC (BZ U24_ BG .i64 (((((l[k]!).device).toNat) % s.d.length:Nat):Int) ((((l[k]!).device).toNat) % s.d.length) rfl rfl rfl a4.rdB oM fun qf fr=>(AC (AP (E':=(Enc.both (Enc.slice Enc.devop) bn (a9++O))) 2 EQ ((s.d[(((l[k]!).device).toNat) % s.d.length]!).ops) rfl fr (fun _ _ _ h=>⟨BL h.1,BL h.2⟩) fun qg fs=>(AC (ER U26_ rfl rfl fs fun eg ci=>(?_))))))))))))))))))))))))
    have:=ci.len_le
    refine AC (AF (vI (((((l[k]!).device).toNat) % s.d.length:Nat):Int)) rfl (AC (AF (vI ((((l[k]!).copy) % 4).toNat:Int)) rfl (AC (BI (vs:=[eg,vI 4,vI 0,vI (((((l[k]!).device).toNat) % s.d.length:Nat):Int),vI ((((l[k]!).copy) % 4).toNat:Int)]) LS (c_may (O:=a9++O) eg ((s.d[(((l[k]!).device).toNat) % s.d.length]!).ops) (4:Int) (0:Int) (((((l[k]!).device).toNat) % s.d.length:Nat):Int) ((((l[k]!).copy) % 4).toNat:Int) bn ci ef.lt) rfl ef fun qh eh X9 l7 w3 jE=>(?_))))))
    obtain rfl:=jE
    have a7:Enc.doing.rd eh (a9++O) b9 (l[k]!):=Enc.mv Enc.doing (x:=l[k]!) a7 l7
    have b6:=b6.mv l7
    have a4:=a4.mv l7 w3 (by simp)
    have z9:=z9.mv l7
    have ho1_b9863_0:=ho1_b9863_0.mv l7 w3 (by simp)
    have b1:=b1.mv l7
    have a6:=a6.mv l7
    have a0:=a0.keep w3 (by simp)
    have ho1_b9863_1:=ho1_b9863_1.mv l7 w3 (by simp)
    have ho1_b9863_2:=ho1_b9863_2.mv l7 w3 (by simp)
    have ho1_b9863_3:=ho1_b9863_3.mv l7 w3 (by simp)
    have a8:=a8.keep w3 (by simp)
    have a5:=a5.keep w3 (by simp)
    have hT:=by exact hT.mv0 l7 w3 (fun x hx=>by exact hx)
    refine AC (AF (vT #[vO ((BY ((s.d[(((l[k]!).device).toNat) % s.d.length]!).ops) (4:Int) (0:Int) (((((l[k]!).device).toNat) % s.d.length:Nat):Int) ((((l[k]!).copy) % 4).toNat:Int)).1),vI ((BY ((s.d[(((l[k]!).device).toNat) % s.d.length]!).ops) (4:Int) (0:Int) (((((l[k]!).device).toNat) % s.d.length:Nat):Int) ((((l[k]!).copy) % 4).toNat:Int)).2)]) rfl (AC (BD (vO ((BY ((s.d[(((l[k]!).device).toNat) % s.d.length]!).ops) (4:Int) (0:Int) (((((l[k]!).device).toNat) % s.d.length:Nat):Int) ((((l[k]!).copy) % 4).toNat:Int)).1)) rfl rfl (AC (BD (vI ((BY ((s.d[(((l[k]!).device).toNat) % s.d.length]!).ops) (4:Int) (0:Int) (((((l[k]!).device).toNat) % s.d.length:Nat):Int) ((((l[k]!).copy) % 4).toNat:Int)).2)) rfl rfl (AC (AH (vO ((BY ((s.d[(((l[k]!).device).toNat) % s.d.length]!).ops) (4:Int) (0:Int) (((((l[k]!).device).toNat) % s.d.length:Nat):Int) ((((l[k]!).copy) % 4).toNat:Int)).1)) rfl (AC (AH (vI ((BY ((s.d[(((l[k]!).device).toNat) % s.d.length]!).ops) (4:Int) (0:Int) (((((l[k]!).device).toNat) % s.d.length:Nat):Int) ((((l[k]!).copy) % 4).toNat:Int)).2)) rfl (AE (AB (AG (AG (AD kR (AC (AF (vI ((AI ((s.d[(((l[k]!).device).toNat) % s.d.length]!).ops) (4:Int) (0:Int)).2)) rfl (AC (DX .i64 ((AI ((s.d[(((l[k]!).device).toNat) % s.d.length]!).ops) (4:Int) (0:Int)).2) (0:Int) rfl rfl (AC (AF (vO (((AI ((s.d[(((l[k]!).device).toNat) % s.d.length]!).ops) (4:Int) (0:Int)).2) != (0:Int))) rfl (?_)))))))))))))))))))))
    cases cj:(((AI ((s.d[(((l[k]!).device).toNat) % s.d.length]!).ops) (4:Int) (0:Int)).2) != (0:Int))
    ·have nE:(AI ((s.d[(((l[k]!).device).toNat) % s.d.length]!).ops) (4:Int) (0:Int)).2=(0:Int):=by simpa using cj
     refine BH rfl (AF (vI ((BY ((s.d[(((l[k]!).device).toNat) % s.d.length]!).ops) (4:Int) (0:Int) (((((l[k]!).device).toNat) % s.d.length:Nat):Int) ((((l[k]!).copy) % 4).toNat:Int)).2)) rfl (BH rfl (DX .i64 ((BY ((s.d[(((l[k]!).device).toNat) % s.d.length]!).ops) (4:Int) (0:Int) (((((l[k]!).device).toNat) % s.d.length:Nat):Int) ((((l[k]!).copy) % 4).toNat:Int)).2) (0:Int) rfl rfl (AC (BM (vO (((BY ((s.d[(((l[k]!).device).toNat) % s.d.length]!).ops) (4:Int) (0:Int) (((((l[k]!).device).toNat) % s.d.length:Nat):Int) ((((l[k]!).copy) % 4).toNat:Int)).2) != (0:Int))) rfl rfl (AC (AF (vO (((BY ((s.d[(((l[k]!).device).toNat) % s.d.length]!).ops) (4:Int) (0:Int) (((((l[k]!).device).toNat) % s.d.length:Nat):Int) ((((l[k]!).copy) % 4).toNat:Int)).2) != (0:Int))) rfl (?_))))))))
     cases ck:(((BY ((s.d[(((l[k]!).device).toNat) % s.d.length]!).ops) (4:Int) (0:Int) (((((l[k]!).device).toNat) % s.d.length:Nat):Int) ((((l[k]!).copy) % 4).toNat:Int)).2) != (0:Int))
     ·have nF:(BY ((s.d[(((l[k]!).device).toNat) % s.d.length]!).ops) (4:Int) (0:Int) (((((l[k]!).device).toNat) % s.d.length:Nat):Int) ((((l[k]!).copy) % 4).toNat:Int)).2=(0:Int):=by simpa using ck
      refine BH rfl (AF (vO ((BY ((s.d[(((l[k]!).device).toNat) % s.d.length]!).ops) (4:Int) (0:Int) (((((l[k]!).device).toNat) % s.d.length:Nat):Int) ((((l[k]!).copy) % 4).toNat:Int)).1)) rfl (BH rfl (EI ((BY ((s.d[(((l[k]!).device).toNat) % s.d.length]!).ops) (4:Int) (0:Int) (((((l[k]!).device).toNat) % s.d.length:Nat):Int) ((((l[k]!).copy) % 4).toNat:Int)).1) rfl (AC (BM (vO (!((BY ((s.d[(((l[k]!).device).toNat) % s.d.length]!).ops) (4:Int) (0:Int) (((((l[k]!).device).toNat) % s.d.length:Nat):Int) ((((l[k]!).copy) % 4).toNat:Int)).1))) rfl rfl (AC (AF (vO (!((BY ((s.d[(((l[k]!).device).toNat) % s.d.length]!).ops) (4:Int) (0:Int) (((((l[k]!).device).toNat) % s.d.length:Nat):Int) ((((l[k]!).copy) % 4).toNat:Int)).1))) rfl (?_))))))))
      cases cm:(!((BY ((s.d[(((l[k]!).device).toNat) % s.d.length]!).ops) (4:Int) (0:Int) (((((l[k]!).device).toNat) % s.d.length:Nat):Int) ((((l[k]!).copy) % 4).toNat:Int)).1))
      ·have nG:((BY ((s.d[(((l[k]!).device).toNat) % s.d.length]!).ops) (4:Int) (0:Int) (((((l[k]!).device).toNat) % s.d.length:Nat):Int) ((((l[k]!).copy) % 4).toNat:Int)).1)=true:=by simpa using cm
       refine BH rfl (AF (S4) rfl (BH rfl (DS U43_ rfl z9 (BH rfl (DX .i64 (((AI ((s.d[(((l[k]!).device).toNat) % s.d.length]!).ops) (4:Int) (0:Int)).1).length:Int) (4:Int) rfl rfl (AC (BM (vO ((((AI ((s.d[(((l[k]!).device).toNat) % s.d.length]!).ops) (4:Int) (0:Int)).1).length:Int) != (4:Int))) rfl rfl (AE (AB (?_))))))))))
       have ft:((((AI ((s.d[(((l[k]!).device).toNat) % s.d.length]!).ops) (4:Int) (0:Int)).1).length:Int) != (4:Int))=false:=(by rw [FB aS];rfl)
       rw [ft]
       refine AK false rfl rfl (fun h=>by cases h) (fun _=>AT (AB (AG (ET [] [] [[(0,1),(1,1),(2,1),(3,1),(4,1),(5,1),(6,4),(7,1),(8,1),(9,1),(10,1),(11,1),(12,1),(13,4),(14,1),(15,2),(16,0)]] (by intro c F d v w hd;simp only [FQ,EZ];exact GW c F d v w hd) kR kR kR fun ei l8=>?_))))
       have jF:=X9.call l8
       have l9:Mv a9 eh a9 ei:=Mv.of_keep l8
       have a7:Enc.doing.rd ei (a9++O) b9 (l[k]!):=Enc.mv Enc.doing (x:=l[k]!) a7 l9
       have b6:=b6.mv l9
       have a4:=a4.mv l9 l8 (by simp)
       have z9:=z9.mv l9
       have ho1_b9863_0:=ho1_b9863_0.mv l9 l8 (by simp)
       have b1:=b1.mv l9
       have a6:=a6.mv l9
       have a0:=a0.keep l8 (by simp)
       have ho1_b9863_1:=ho1_b9863_1.mv l9 l8 (by simp)
       have ho1_b9863_2:=ho1_b9863_2.mv l9 l8 (by simp)
       have ho1_b9863_3:=ho1_b9863_3.mv l9 l8 (by simp)
       have a8:=a8.keep l8 (by simp)
       have a5:=a5.keep l8 (by simp)
       have hT:=by exact hT.mv0 l9 l8 (fun x hx=>by exact hx)
       refine ⟨?_,trivial⟩
       refine AO (AF (vI (((((l[k]!).device).toNat) % s.d.length:Nat):Int)) rfl (CD (AO (AF (b0) rfl (CD (AO (AF (vI (((((l[k]!).device).toNat) % s.d.length:Nat):Int)) rfl (CD (AO (BZ U24_ BG .i64 (((((l[k]!).device).toNat) % s.d.length:Nat):Int) ((((l[k]!).device).toNat) % s.d.length) rfl rfl rfl a4.rdB oM fun qi fu=>(CD (AO (AP (E':=Enc.int) 1 IG ((s.d[(((l[k]!).device).toNat) % s.d.length]!).counter) rfl fu (fun _ _ _ h=>DQ h.1) fun qj fv=>(CD (AO (BJ U3_ rfl rfl fv (CD (DA rfl (fun w4_ k4_=>CE .i64 ((s.d[(((l[k]!).device).toNat) % s.d.length]!).counter) (1:Int) (s.d[l[k]!.device.toNat % s.d.length]!.counter+1) rfl rfl (EP oM rfl) (⟨rfl,rfl⟩)) (AO (AF (vI ((((l[k]!).copy) % 4).toNat:Int)) rfl (CD (AO (AF (S4) rfl (CD (AO (AF (vI ((((l[k]!).copy) % 4).toNat:Int)) rfl (CD (AO (BZ U43_ LI .i64 ((((l[k]!).copy) % 4).toNat:Int) ((((l[k]!).copy) % 4).toNat) rfl rfl oM z9 (by rw [FB aS];show (l[k]!.copy % 4).toNat<4;omega) fun qk fw=>(CD (AO (AP 2 MX ((((AI ((s.d[(((l[k]!).device).toNat) % s.d.length]!).ops) (4:Int) (0:Int)).1)[(((l[k]!).copy) % 4).toNat]!).token) rfl fw (fun _ _ _ h=>GN h) fun ql fx=>(CD (AO (BJ U3_ rfl rfl fx (CD (DA rfl (fun w4_ k4_=>CE .i64 ((((AI ((s.d[(((l[k]!).device).toNat) % s.d.length]!).ops) (4:Int) (0:Int)).1)[(((l[k]!).copy) % 4).toNat]!).token) (1:Int) ((AI s.d[l[k]!.device.toNat % s.d.length]!.ops 4 0).1[(l[k]!.copy % 4).toNat]!.token+1) rfl rfl (EP (by have:=nx_tok (l:=s.d[l[k]!.device.toNat % s.d.length]!.ops) (copies:=4) (first:=0) (k:=(l[k]!.copy % 4).toNat) aS (by show (l[k]!.copy % 4).toNat<4;omega);omega) rfl) (⟨rfl,rfl⟩)) (AO (CV (l:=[(0, .tmp 87),(1, .tmp 93),(2, .const (vI 2)),(3, .tmp 94),(5, .tmp 100)]) pl_40 HC rfl [(0,vI (((((l[k]!).device).toNat) % s.d.length:Nat):Int),[vI (((((l[k]!).device).toNat) % s.d.length:Nat):Int)]),(1,vI (s.d[l[k]!.device.toNat % s.d.length]!.counter+1),[vI (s.d[l[k]!.device.toNat % s.d.length]!.counter+1)]),(2,vI 2,[vI 2]),(3,vI ((((l[k]!).copy) % 4).toNat:Int),[vI ((((l[k]!).copy) % 4).toNat:Int)]),(5,vI ((AI s.d[l[k]!.device.toNat % s.d.length]!.ops 4 0).1[(l[k]!.copy % 4).toNat]!.token+1),[vI ((AI s.d[l[k]!.device.toNat % s.d.length]!.ops 4 0).1[(l[k]!.copy % 4).toNat]!.token+1)])] [vI (((((l[k]!).device).toNat) % s.d.length:Nat):Int),vI (s.d[l[k]!.device.toNat % s.d.length]!.counter+1),vI 2,vI ((((l[k]!).copy) % 4).toNat:Int),vI 0,vI ((AI s.d[l[k]!.device.toNat % s.d.length]!.ops 4 0).1[(l[k]!.copy % 4).toNat]!.token+1)] rfl ⟨_,rfl,rfl,oT,⟨_,rfl,rfl,oT,⟨_,rfl,rfl,oT,⟨_,rfl,rfl,oT,⟨_,rfl,rfl,oT,rfl⟩⟩⟩⟩⟩ (CD (DU (CC [vI 0,vI 0,vI 0,vI 0,vI 0,vI 0] HC rfl jF fun c9 jG jH jI r5 r6 fy=>(?_)))))))))))))))))))))))))))))))))))))))))))
       have fz:DB b8 c9:=by show b8≠c9;have:=a0.lt;omega
       have ab:DB c2 c9:=by show c2≠c9;have:=a8.lt;omega
       have fA:DB c7 c9:=by show c7≠c9;have:=a5.lt;omega
       have ac:∀ b,b0.ownBlock=some b→b≠c9:=fun b hb=>by have:=(a4.lt b hb).2;omega
       have fB:∀ b,b3.ownBlock=some b→b≠c9:=fun b hb=>by have:=(ho1_b9863_0.lt b hb).2;omega
       have fC:∀ b,a1.ownBlock=some b→b≠c9:=fun b hb=>by have:=(ho1_b9863_1.lt b hb).2;omega
       have L8:∀ b,a3.ownBlock=some b→b≠c9:=fun b hb=>by have:=(ho1_b9863_2.lt b hb).2;omega
       have ad:∀ b,a2.ownBlock=some b→b≠c9:=fun b hb=>by have:=(ho1_b9863_3.lt b hb).2;omega
       have c3:∀ b,b0.ownBlock=some b→b∈(c9 :: a9):=fun b hb=>List.mem_cons_of_mem _ (c3 b hb)
       have c8:∀ b,b3.ownBlock=some b→b∈(c9 :: a9):=fun b hb=>List.mem_cons_of_mem _ (c8 b hb)
       have b2:∀ b,a1.ownBlock=some b→b∈(c9 :: a9):=fun b hb=>List.mem_cons_of_mem _ (b2 b hb)
       have b7:∀ b,a3.ownBlock=some b→b∈(c9 :: a9):=fun b hb=>List.mem_cons_of_mem _ (b7 b hb)
       have b4:∀ b,a2.ownBlock=some b→b∈(c9 :: a9):=fun b hb=>List.mem_cons_of_mem _ (b4 b hb)
       clear jH
       have a7:Enc.doing.rd jG ((c9 :: a9)++O) b9 (l[k]!):=Enc.mv Enc.doing (x:=l[k]!) a7 r5
       have b6:=b6.mv r5
       have a4:=a4.mv r5 r6 (by simp)
       have ho1_b9863_0:=ho1_b9863_0.mv r5 r6 (by simp)
       have b1:=b1.mv r5
       have a6:=a6.mv r5
       have a0:=a0.keep r6 (by simp)
       have ho1_b9863_1:=ho1_b9863_1.mv r5 r6 (by simp)
       have ho1_b9863_2:=ho1_b9863_2.mv r5 r6 (by simp)
       have ho1_b9863_3:=ho1_b9863_3.mv r5 r6 (by simp)
       have a8:=a8.keep r6 (by simp)
       have a5:=a5.keep r6 (by simp)
       have hT:=by exact hT.mv0 r5 r6 (fun x hx=>by exact List.mem_cons_of_mem _ hx)
       refine ⟨r6,?_⟩
       refine FO (AU (vs:=[vI (((((l[k]!).device).toNat) % s.d.length:Nat):Int),vI (s.d[l[k]!.device.toNat % s.d.length]!.counter+1),vI 2,vI ((((l[k]!).copy) % 4).toNat:Int),vI 0,vI ((AI s.d[l[k]!.device.toNat % s.d.length]!.ops 4 0).1[(l[k]!.copy % 4).toNat]!.token+1)]) (.agg #[vI (((((l[k]!).device).toNat) % s.d.length:Nat):Int),vI (s.d[l[k]!.device.toNat % s.d.length]!.counter+1),vI 2,vI ((((l[k]!).copy) % 4).toNat:Int),vI 0,vI ((AI s.d[l[k]!.device.toNat % s.d.length]!.ops 4 0).1[(l[k]!.copy % 4).toNat]!.token+1)]) rfl rfl rfl BX (fun u hu=>by simp only [List.mem_cons,List.not_mem_nil,or_false] at hu;rcases hu with rfl|rfl|rfl|rfl|rfl|rfl <;> rfl) (by repeat (constructor)) fy oT jI fun ej jJ r7 w4 d7=>(?_))
       have a7:Enc.doing.rd ej ((c9 :: a9)++O) b9 (l[k]!):=Enc.mv Enc.doing (x:=l[k]!) a7 r7
       have b6:=b6.mv r7
       have a4:=a4.mv r7 w4 (fun b hb=>AJ (ac b hb))
       have ho1_b9863_0:=ho1_b9863_0.mv r7 w4 (fun b hb=>AJ (fB b hb))
       have b1:=b1.mv r7
       have a6:=a6.mv r7
       have a0:=a0.keep w4 (AJ fz)
       have ho1_b9863_1:=ho1_b9863_1.mv r7 w4 (fun b hb=>AJ (fC b hb))
       have ho1_b9863_2:=ho1_b9863_2.mv r7 w4 (fun b hb=>AJ (L8 b hb))
       have ho1_b9863_3:=ho1_b9863_3.mv r7 w4 (fun b hb=>AJ (ad b hb))
       have a8:=a8.keep w4 (AJ ab)
       have a5:=a5.keep w4 (AJ fA)
       have hT:=by exact hT.mvB r7 w4 aS (by decide) (fun x hx=>by exact hx)
       refine EW (AB (AG (AG (AD kR (AC (AP 0 MV ((l[k]!).kind) rfl b6 (fun _ _ _ h=>FZ h) fun qm fD=>(AC (CU U5_ rfl rfl fD (AC (DY ((l[k]!).kind) (6:UInt8) (by decide) rfl rfl (AC (EG (((l[k]!).kind) % 6) (1:UInt8) rfl rfl (AE (AB (?_)))))))))))))))
       have fE:((((l[k]!).kind) % 6) == (1:UInt8))=false:=(by rw [show l[k]!.kind % 6=0 from by simpa using (by simpa using L7)];rfl)
       rw [fE]
       refine AK false rfl rfl (fun h=>by cases h) (fun _=>AT (AB (AG (ET [] [9,13] [[(0,1),(1,1),(2,1),(3,1),(4,1),(5,1),(6,1),(7,4),(8,4),(9,2),(10,1),(11,1),(12,1),(13,2),(14,0),(15,1)],[(0,1),(1,1),(2,1),(3,1),(4,1),(5,1),(6,1),(7,4),(8,4),(13,2),(9,2),(10,1),(11,1),(12,1),(14,0),(15,1)]] (by intro c F d v w hd;simp only [FQ,EZ];exact GW c F d v w hd) kR kR kR fun bo j7=>?_))))
       have bp:=jJ.call j7
       have r8:Mv (c9 :: a9) ej (c9 :: a9) bo:=Mv.of_keep j7
       have a7:Enc.doing.rd bo ((c9 :: a9)++O) b9 (l[k]!):=Enc.mv Enc.doing (x:=l[k]!) a7 r8
       have b6:=b6.mv r8
       have a4:=a4.mv r8 j7 (by simp)
       have ho1_b9863_0:=ho1_b9863_0.mv r8 j7 (by simp)
       have b1:=b1.mv r8
       have a6:=a6.mv r8
       have a0:=a0.keep j7 (by simp)
       have ho1_b9863_1:=ho1_b9863_1.mv r8 j7 (by simp)
       have ho1_b9863_2:=ho1_b9863_2.mv r8 j7 (by simp)
       have ho1_b9863_3:=ho1_b9863_3.mv r8 j7 (by simp)
       have a8:=a8.keep j7 (by simp)
       have a5:=a5.keep j7 (by simp)
       have d7:=d7.keep j7 (by simp)
       have hT:=by exact hT.mv0 r8 j7 (fun x hx=>by exact hx)
       refine ⟨?_,?_,trivial⟩
       ·refine AO (AF (b0) rfl (CD (AO (AF (vI (((((l[k]!).device).toNat) % s.d.length:Nat):Int)) rfl (CD (AO (BZ U24_ BG .i64 (((((l[k]!).device).toNat) % s.d.length:Nat):Int) ((((l[k]!).device).toNat) % s.d.length) rfl rfl rfl a4.rdB oM fun qn fF=>(CD (AO (BT U31_ rfl BG rfl fF fun cn ae=>(?_)))))))))))
        have ae:=ae.2
        refine CD (AO (AQ (vs:=[vI (((((l[k]!).device).toNat) % s.d.length:Nat):Int),vI (s.d[l[k]!.device.toNat % s.d.length]!.counter+1),vI 2,vI ((((l[k]!).copy) % 4).toNat:Int),vI 0,vI ((AI s.d[l[k]!.device.toNat % s.d.length]!.ops 4 0).1[(l[k]!.copy % 4).toNat]!.token+1)]) U40_ rfl BX rfl d7 rfl (CD (AO (AP 4 GE ((l[k]!).crash) rfl b6 (fun _ _ _ h=>CM h) fun qo fG=>(CD (AO (CU U5_ rfl rfl fG (CD (DA rfl (fun w4_ k4_=>DY ((l[k]!).crash) (3:UInt8) (by decide) rfl rfl (⟨rfl,rfl⟩)) (DA rfl (fun w4_ k4_=>FF .u8 .i64 U5_ U3_ ((((l[k]!).crash) % 3).toNat:Int) ((((l[k]!).crash) % 3).toNat:Int) rfl (by have:=(((l[k]!).crash) % 3).toNat_lt;exact EP oM rfl) (⟨rfl,rfl⟩)) (DU (BI (vs:=[vA cn.toArray,vA #[vI (((((l[k]!).device).toNat) % s.d.length:Nat):Int),vI (s.d[l[k]!.device.toNat % s.d.length]!.counter+1),vI 2,vI ((((l[k]!).copy) % 4).toNat:Int),vI 0,vI ((AI s.d[l[k]!.device.toNat % s.d.length]!.ops 4 0).1[(l[k]!.copy % 4).toNat]!.token+1)],vI ((((l[k]!).crash) % 3).toNat:Int)]) HK (NP (O:=(c9 :: a9)++O) cn (s.d[(((l[k]!).device).toNat) % s.d.length]!) [vI (((((l[k]!).device).toNat) % s.d.length:Nat):Int),vI (s.d[l[k]!.device.toNat % s.d.length]!.counter+1),vI 2,vI ((((l[k]!).copy) % 4).toNat:Int),vI 0,vI ((AI s.d[l[k]!.device.toNat % s.d.length]!.ops 4 0).1[(l[k]!.copy % 4).toNat]!.token+1)] (⟨(((((l[k]!).device).toNat) % s.d.length:Nat):Int),s.d[l[k]!.device.toNat % s.d.length]!.counter+1,(2:Int),((((l[k]!).copy) % 4).toNat:Int),(0:Int),(AI s.d[l[k]!.device.toNat % s.d.length]!.ops 4 0).1[(l[k]!.copy % 4).toNat]!.token+1⟩:DeviceOp) ((((l[k]!).crash) % 3).toNat:Int) bo ae rfl bp.lt) rfl bp fun qp jK jL r9 m0 jM=>(?_))))))))))))))
        obtain ⟨af,rfl,ag⟩:=jM
        have a7:Enc.doing.rd jK ((c9 :: a9)++O) b9 (l[k]!):=Enc.mv Enc.doing (x:=l[k]!) a7 r9
        have b6:=b6.mv r9
        have a4:=a4.mv r9 m0 (by simp)
        have ho1_b9863_0:=ho1_b9863_0.mv r9 m0 (by simp)
        have b1:=b1.mv r9
        have a6:=a6.mv r9
        have a0:=a0.keep m0 (by simp)
        have ho1_b9863_1:=ho1_b9863_1.mv r9 m0 (by simp)
        have ho1_b9863_2:=ho1_b9863_2.mv r9 m0 (by simp)
        have ho1_b9863_3:=ho1_b9863_3.mv r9 m0 (by simp)
        have a8:=a8.keep m0 (by simp)
        have a5:=a5.keep m0 (by simp)
        have d7:=d7.keep m0 (by simp)
        have hT:=by exact hT.mv0 r9 m0 (fun x hx=>by exact hx)
        refine ⟨m0,?_⟩
        refine AO (AF (vT #[vA af.toArray,vI ((AV (s.d[(((l[k]!).device).toNat) % s.d.length]!) (⟨(((((l[k]!).device).toNat) % s.d.length:Nat):Int),s.d[l[k]!.device.toNat % s.d.length]!.counter+1,(2:Int),((((l[k]!).copy) % 4).toNat:Int),(0:Int),(AI s.d[l[k]!.device.toNat % s.d.length]!.ops 4 0).1[(l[k]!.copy % 4).toNat]!.token+1⟩:DeviceOp) ((((l[k]!).crash) % 3).toNat:Int)).2)]) rfl (CD (AO (BD (vA af.toArray) rfl rfl (CD (AO (BD (vI ((AV (s.d[(((l[k]!).device).toNat) % s.d.length]!) (⟨(((((l[k]!).device).toNat) % s.d.length:Nat):Int),s.d[l[k]!.device.toNat % s.d.length]!.counter+1,(2:Int),((((l[k]!).copy) % 4).toNat:Int),(0:Int),(AI s.d[l[k]!.device.toNat % s.d.length]!.ops 4 0).1[(l[k]!.copy % 4).toNat]!.token+1⟩:DeviceOp) ((((l[k]!).crash) % 3).toNat:Int)).2)) rfl rfl (CD (DU (CC [vI 0,vI 0,nS,vO false] HO rfl jL fun f7 ek jN jO m1 m2 fH=>(?_)))))))))))
        have fI:DB b8 f7:=by show b8≠f7;have:=a0.lt;omega
        have co:DB c2 f7:=by show c2≠f7;have:=a8.lt;omega
        have fJ:DB c7 f7:=by show c7≠f7;have:=a5.lt;omega
        have fK:DB c9 f7:=by show c9≠f7;have:=d7.lt;omega
        have cp:∀ b,b0.ownBlock=some b→b≠f7:=fun b hb=>by have:=(a4.lt b hb).2;omega
        have fL:∀ b,b3.ownBlock=some b→b≠f7:=fun b hb=>by have:=(ho1_b9863_0.lt b hb).2;omega
        have fM:∀ b,a1.ownBlock=some b→b≠f7:=fun b hb=>by have:=(ho1_b9863_1.lt b hb).2;omega
        have ah:∀ b,a3.ownBlock=some b→b≠f7:=fun b hb=>by have:=(ho1_b9863_2.lt b hb).2;omega
        have cq:∀ b,a2.ownBlock=some b→b≠f7:=fun b hb=>by have:=(ho1_b9863_3.lt b hb).2;omega
        have c3:∀ b,b0.ownBlock=some b→b∈(f7 :: (c9 :: a9)):=fun b hb=>List.mem_cons_of_mem _ (c3 b hb)
        have c8:∀ b,b3.ownBlock=some b→b∈(f7 :: (c9 :: a9)):=fun b hb=>List.mem_cons_of_mem _ (c8 b hb)
        have b2:∀ b,a1.ownBlock=some b→b∈(f7 :: (c9 :: a9)):=fun b hb=>List.mem_cons_of_mem _ (b2 b hb)
        have b7:∀ b,a3.ownBlock=some b→b∈(f7 :: (c9 :: a9)):=fun b hb=>List.mem_cons_of_mem _ (b7 b hb)
        have b4:∀ b,a2.ownBlock=some b→b∈(f7 :: (c9 :: a9)):=fun b hb=>List.mem_cons_of_mem _ (b4 b hb)
        clear jN
        have a7:Enc.doing.rd ek ((f7 :: (c9 :: a9))++O) b9 (l[k]!):=Enc.mv Enc.doing (x:=l[k]!) a7 m1
        have b6:=b6.mv m1
        have a4:=a4.mv m1 m2 (by simp)
        have ho1_b9863_0:=ho1_b9863_0.mv m1 m2 (by simp)
        have ag:Enc.device.rd ek ((f7 :: (c9 :: a9))++O) af ((AV (s.d[(((l[k]!).device).toNat) % s.d.length]!) (⟨(((((l[k]!).device).toNat) % s.d.length:Nat):Int),s.d[l[k]!.device.toNat % s.d.length]!.counter+1,(2:Int),((((l[k]!).copy) % 4).toNat:Int),(0:Int),(AI s.d[l[k]!.device.toNat % s.d.length]!.ops 4 0).1[(l[k]!.copy % 4).toNat]!.token+1⟩:DeviceOp) ((((l[k]!).crash) % 3).toNat:Int)).1):=Enc.mv Enc.device (x:=(AV (s.d[(((l[k]!).device).toNat) % s.d.length]!) (⟨(((((l[k]!).device).toNat) % s.d.length:Nat):Int),s.d[l[k]!.device.toNat % s.d.length]!.counter+1,(2:Int),((((l[k]!).copy) % 4).toNat:Int),(0:Int),(AI s.d[l[k]!.device.toNat % s.d.length]!.ops 4 0).1[(l[k]!.copy % 4).toNat]!.token+1⟩:DeviceOp) ((((l[k]!).crash) % 3).toNat:Int)).1) ag m1
        have b1:=b1.mv m1
        have a6:=a6.mv m1
        have a0:=a0.keep m2 (by simp)
        have ho1_b9863_1:=ho1_b9863_1.mv m1 m2 (by simp)
        have ho1_b9863_2:=ho1_b9863_2.mv m1 m2 (by simp)
        have ho1_b9863_3:=ho1_b9863_3.mv m1 m2 (by simp)
        have a8:=a8.keep m2 (by simp)
        have a5:=a5.keep m2 (by simp)
        have d7:=d7.keep m2 (by simp)
        have hT:=by exact hT.mv0 m1 m2 (fun x hx=>by exact List.mem_cons_of_mem _ hx)
        refine ⟨m2,?_⟩
        obtain ⟨bq,rfl,L9⟩:=ag
        have:=L9.len_le
        refine FO (AU (vs:=[vI (((AV (s.d[(((l[k]!).device).toNat) % s.d.length]!) (⟨(((((l[k]!).device).toNat) % s.d.length:Nat):Int),s.d[l[k]!.device.toNat % s.d.length]!.counter+1,(2:Int),((((l[k]!).copy) % 4).toNat:Int),(0:Int),(AI s.d[l[k]!.device.toNat % s.d.length]!.ops 4 0).1[(l[k]!.copy % 4).toNat]!.token+1⟩:DeviceOp) ((((l[k]!).crash) % 3).toNat:Int)).1).id),vI (((AV (s.d[(((l[k]!).device).toNat) % s.d.length]!) (⟨(((((l[k]!).device).toNat) % s.d.length:Nat):Int),s.d[l[k]!.device.toNat % s.d.length]!.counter+1,(2:Int),((((l[k]!).copy) % 4).toNat:Int),(0:Int),(AI s.d[l[k]!.device.toNat % s.d.length]!.ops 4 0).1[(l[k]!.copy % 4).toNat]!.token+1⟩:DeviceOp) ((((l[k]!).crash) % 3).toNat:Int)).1).counter),bq,vO (((AV (s.d[(((l[k]!).device).toNat) % s.d.length]!) (⟨(((((l[k]!).device).toNat) % s.d.length:Nat):Int),s.d[l[k]!.device.toNat % s.d.length]!.counter+1,(2:Int),((((l[k]!).copy) % 4).toNat:Int),(0:Int),(AI s.d[l[k]!.device.toNat % s.d.length]!.ops 4 0).1[(l[k]!.copy % 4).toNat]!.token+1⟩:DeviceOp) ((((l[k]!).crash) % 3).toNat:Int)).1).halted)]) (.agg #[vI (((AV (s.d[(((l[k]!).device).toNat) % s.d.length]!) (⟨(((((l[k]!).device).toNat) % s.d.length:Nat):Int),s.d[l[k]!.device.toNat % s.d.length]!.counter+1,(2:Int),((((l[k]!).copy) % 4).toNat:Int),(0:Int),(AI s.d[l[k]!.device.toNat % s.d.length]!.ops 4 0).1[(l[k]!.copy % 4).toNat]!.token+1⟩:DeviceOp) ((((l[k]!).crash) % 3).toNat:Int)).1).id),vI (((AV (s.d[(((l[k]!).device).toNat) % s.d.length]!) (⟨(((((l[k]!).device).toNat) % s.d.length:Nat):Int),s.d[l[k]!.device.toNat % s.d.length]!.counter+1,(2:Int),((((l[k]!).copy) % 4).toNat:Int),(0:Int),(AI s.d[l[k]!.device.toNat % s.d.length]!.ops 4 0).1[(l[k]!.copy % 4).toNat]!.token+1⟩:DeviceOp) ((((l[k]!).crash) % 3).toNat:Int)).1).counter),bq,vO (((AV (s.d[(((l[k]!).device).toNat) % s.d.length]!) (⟨(((((l[k]!).device).toNat) % s.d.length:Nat):Int),s.d[l[k]!.device.toNat % s.d.length]!.counter+1,(2:Int),((((l[k]!).copy) % 4).toNat:Int),(0:Int),(AI s.d[l[k]!.device.toNat % s.d.length]!.ops 4 0).1[(l[k]!.copy % 4).toNat]!.token+1⟩:DeviceOp) ((((l[k]!).crash) % 3).toNat:Int)).1).halted)]) rfl rfl rfl BG (fun u hu=>by simp only [List.mem_cons,List.not_mem_nil,or_false] at hu;rcases hu with rfl|rfl|rfl|rfl <;> first|rfl|exact L9.oneCell) (by repeat (constructor)) fH oT jO fun jP el m3 s1 h3=>(?_))
        have a7:Enc.doing.rd jP ((f7 :: (c9 :: a9))++O) b9 (l[k]!):=Enc.mv Enc.doing (x:=l[k]!) a7 m3
        have b6:=b6.mv m3
        have a4:=a4.mv m3 s1 (fun b hb=>AJ (cp b hb))
        have ho1_b9863_0:=ho1_b9863_0.mv m3 s1 (fun b hb=>AJ (fL b hb))
        have L9:=L9.mv m3
        have b1:=b1.mv m3
        have a6:=a6.mv m3
        have a0:=a0.keep s1 (AJ fI)
        have ho1_b9863_1:=ho1_b9863_1.mv m3 s1 (fun b hb=>AJ (fM b hb))
        have ho1_b9863_2:=ho1_b9863_2.mv m3 s1 (fun b hb=>AJ (ah b hb))
        have ho1_b9863_3:=ho1_b9863_3.mv m3 s1 (fun b hb=>AJ (cq b hb))
        have a8:=a8.keep s1 (AJ co)
        have a5:=a5.keep s1 (AJ fJ)
        have d7:=d7.keep s1 (AJ fK)
        have hT:=by exact hT.mvB m3 s1 aS (by decide) (fun x hx=>by exact hx)
        refine AO (AH (vI ((AV (s.d[(((l[k]!).device).toNat) % s.d.length]!) (⟨(((((l[k]!).device).toNat) % s.d.length:Nat):Int),s.d[l[k]!.device.toNat % s.d.length]!.counter+1,(2:Int),((((l[k]!).copy) % 4).toNat:Int),(0:Int),(AI s.d[l[k]!.device.toNat % s.d.length]!.ops 4 0).1[(l[k]!.copy % 4).toNat]!.token+1⟩:DeviceOp) ((((l[k]!).crash) % 3).toNat:Int)).2)) rfl (CD (EW (AB (AG (AG (AD kR (AC (AF (vI ((AV (s.d[(((l[k]!).device).toNat) % s.d.length]!) (⟨(((((l[k]!).device).toNat) % s.d.length:Nat):Int),s.d[l[k]!.device.toNat % s.d.length]!.counter+1,(2:Int),((((l[k]!).copy) % 4).toNat:Int),(0:Int),(AI s.d[l[k]!.device.toNat % s.d.length]!.ops 4 0).1[(l[k]!.copy % 4).toNat]!.token+1⟩:DeviceOp) ((((l[k]!).crash) % 3).toNat:Int)).2)) rfl (AC (DX .i64 ((AV (s.d[(((l[k]!).device).toNat) % s.d.length]!) (⟨(((((l[k]!).device).toNat) % s.d.length:Nat):Int),s.d[l[k]!.device.toNat % s.d.length]!.counter+1,(2:Int),((((l[k]!).copy) % 4).toNat:Int),(0:Int),(AI s.d[l[k]!.device.toNat % s.d.length]!.ops 4 0).1[(l[k]!.copy % 4).toNat]!.token+1⟩:DeviceOp) ((((l[k]!).crash) % 3).toNat:Int)).2) (0:Int) rfl rfl (AE (AB (AK (((AV (s.d[(((l[k]!).device).toNat) % s.d.length]!) (⟨(((((l[k]!).device).toNat) % s.d.length:Nat):Int),s.d[l[k]!.device.toNat % s.d.length]!.counter+1,(2:Int),((((l[k]!).copy) % 4).toNat:Int),(0:Int),(AI s.d[l[k]!.device.toNat % s.d.length]!.ops 4 0).1[(l[k]!.copy % 4).toNat]!.token+1⟩:DeviceOp) ((((l[k]!).crash) % 3).toNat:Int)).2) != (0:Int)) rfl rfl (fun ai=>?_) (fun ai=>?_)))))))))))))))
        ·have nH:(AV (s.d[(((l[k]!).device).toNat) % s.d.length]!) (⟨(((((l[k]!).device).toNat) % s.d.length:Nat):Int),s.d[l[k]!.device.toNat % s.d.length]!.counter+1,(2:Int),((((l[k]!).copy) % 4).toNat:Int),(0:Int),(AI s.d[l[k]!.device.toNat % s.d.length]!.ops 4 0).1[(l[k]!.copy % 4).toNat]!.token+1⟩:DeviceOp) ((((l[k]!).crash) % 3).toNat:Int)).2≠(0:Int):=by simpa using ai
         refine AG (AD kR (AC (AQ (vs:=[b0,a1,a3,a2]) U29_ rfl CL rfl a8 rfl (BK (AU (vs:=[b0,a1,a3,a2]) (.agg #[b0,a1,a3,a2]) rfl rfl rfl CL (fun u hu=>by simp only [List.mem_cons,List.not_mem_nil,or_false] at hu;rcases hu with rfl|rfl|rfl|rfl <;> first|exact a4.oneCell|exact ho1_b9863_1.oneCell|exact ho1_b9863_2.oneCell|exact ho1_b9863_3.oneCell) rC a5 oT el fun qq jQ M0 M1 fN=>(?_))))))
         have a4:=a4.mv M0 M1 (fun b hb=>AJ (e8 b hb))
         have ho1_b9863_1:=ho1_b9863_1.mv M0 M1 (fun b hb=>AJ (f6 b hb))
         have ho1_b9863_2:=ho1_b9863_2.mv M0 M1 (fun b hb=>AJ (f3 b hb))
         have ho1_b9863_3:=ho1_b9863_3.mv M0 M1 (fun b hb=>AJ (f5 b hb))
         have b1:=b1.mv M0
         have a0:=a0.keep M1 (AJ i8)
         have hT:=by exact hT.mvB M0 M1 aS (by decide) (fun x hx=>by exact hx)
         refine AE (AB (AS (AN (BC (AN (AZ rfl (FN (vs:=[b0,a1,a3,a2]) rfl rfl U29_ rfl CL rfl fN rfl) (Exists.intro _ (And.intro rfl (BK (AU (vs:=[b0,a1,a3,a2]) (.agg #[b0,a1,a3,a2]) rfl rfl rfl CL (fun u hu=>by simp only [List.mem_cons,List.not_mem_nil,or_false] at hu;rcases hu with rfl|rfl|rfl|rfl <;> first|exact a4.oneCell|exact ho1_b9863_1.oneCell|exact ho1_b9863_2.oneCell|exact ho1_b9863_3.oneCell) rC a0 oT jQ fun qr jR M2 S5 fO=>(?_)))))))))))
         have b1:=b1.mv M2
         have a4:=a4.mv M2 S5 (fun b hb=>AJ (d8 b hb))
         have ho1_b9863_1:=ho1_b9863_1.mv M2 S5 (fun b hb=>AJ (nb1_b9863_1_b9863 b hb))
         have ho1_b9863_2:=ho1_b9863_2.mv M2 S5 (fun b hb=>AJ (nb1_b9863_2_b9863 b hb))
         have ho1_b9863_3:=ho1_b9863_3.mv M2 S5 (fun b hb=>AJ (nb1_b9863_3_b9863 b hb))
         have hT:=by exact hT.mvB M2 S5 aS (by decide) (fun x hx=>by exact hx)
         refine AE (AW (AB (AD kR (AC (AF (vI ((k:Nat):Int)) rfl (AC (CE .i64 ((k:Nat):Int) (1:Int) (((k+1:Nat):Int)) rfl rfl (EP oM oM) (AC (AH (vI ((k+1:Nat):Int)) rfl (AE (AB (?_))))))))))))
         exact ⟨_,oM,(k+1),(s),(L),b0,a1,a3,a2,(f7 :: (c9 :: a9)),oM,(by exact GP hI),hT,rfl,⟨_,AL _ ⟨rfl,rfl,(by rfl),rfl,trivial⟩⟩,jR,a4,c3,ho1_b9863_1,b2,ho1_b9863_2,b7,ho1_b9863_3,b4,b1,fO,(by (repeat (first|assumption|apply List.mem_cons_of_mem))),d8,nb1_b9863_1_b9863,nb1_b9863_2_b9863,nb1_b9863_3_b9863,(fun b hb e=>c4 b e hb),(fun b hb e=>c5 b e hb),(fun b hb e=>c6 b e hb),c4,nn1_b9863_1_b9863_2,nn1_b9863_1_b9863_3,c5,nn1_b9863_2_b9863_1,nn1_b9863_2_b9863_3,c6,nn1_b9863_3_b9863_1,nn1_b9863_3_b9863_2⟩
        have nI:(AV (s.d[(((l[k]!).device).toNat) % s.d.length]!) (⟨(((((l[k]!).device).toNat) % s.d.length:Nat):Int),s.d[l[k]!.device.toNat % s.d.length]!.counter+1,(2:Int),((((l[k]!).copy) % 4).toNat:Int),(0:Int),(AI s.d[l[k]!.device.toNat % s.d.length]!.ops 4 0).1[(l[k]!.copy % 4).toNat]!.token+1⟩:DeviceOp) ((((l[k]!).crash) % 3).toNat:Int)).2=(0:Int):=by simpa using ai
        refine AT (AB (AG (AD kR (AC (AF (b0) rfl (AC (AF (vI (((((l[k]!).device).toNat) % s.d.length:Nat):Int)) rfl (AC (AQ (vs:=[vI (((AV (s.d[(((l[k]!).device).toNat) % s.d.length]!) (⟨(((((l[k]!).device).toNat) % s.d.length:Nat):Int),s.d[l[k]!.device.toNat % s.d.length]!.counter+1,(2:Int),((((l[k]!).copy) % 4).toNat:Int),(0:Int),(AI s.d[l[k]!.device.toNat % s.d.length]!.ops 4 0).1[(l[k]!.copy % 4).toNat]!.token+1⟩:DeviceOp) ((((l[k]!).crash) % 3).toNat:Int)).1).id),vI (((AV (s.d[(((l[k]!).device).toNat) % s.d.length]!) (⟨(((((l[k]!).device).toNat) % s.d.length:Nat):Int),s.d[l[k]!.device.toNat % s.d.length]!.counter+1,(2:Int),((((l[k]!).copy) % 4).toNat:Int),(0:Int),(AI s.d[l[k]!.device.toNat % s.d.length]!.ops 4 0).1[(l[k]!.copy % 4).toNat]!.token+1⟩:DeviceOp) ((((l[k]!).crash) % 3).toNat:Int)).1).counter),bq,vO (((AV (s.d[(((l[k]!).device).toNat) % s.d.length]!) (⟨(((((l[k]!).device).toNat) % s.d.length:Nat):Int),s.d[l[k]!.device.toNat % s.d.length]!.counter+1,(2:Int),((((l[k]!).copy) % 4).toNat:Int),(0:Int),(AI s.d[l[k]!.device.toNat % s.d.length]!.ops 4 0).1[(l[k]!.copy % 4).toNat]!.token+1⟩:DeviceOp) ((((l[k]!).crash) % 3).toNat:Int)).1).halted)]) U31_ rfl BG rfl h3 rfl (AC (DO U24_ BG .i64 (((((l[k]!).device).toNat) % s.d.length:Nat):Int) ((((l[k]!).device).toNat) % s.d.length) rfl rfl rfl a4 oM fun qs h5=>(BK (DW ((AV (s.d[(((l[k]!).device).toNat) % s.d.length]!) (⟨(((((l[k]!).device).toNat) % s.d.length:Nat):Int),s.d[l[k]!.device.toNat % s.d.length]!.counter+1,(2:Int),((((l[k]!).copy) % 4).toNat:Int),(0:Int),(AI s.d[l[k]!.device.toNat % s.d.length]!.ops 4 0).1[(l[k]!.copy % 4).toNat]!.token+1⟩:DeviceOp) ((((l[k]!).crash) % 3).toNat:Int)).1) (by decide) BG rfl rfl a4 h5 (c3 _ h5) oM ⟨_,rfl,L9⟩ el fun jS em w5 s3 h1=>(?_))))))))))))))
        have a7:Enc.doing.rd jS ((f7 :: (c9 :: a9))++O) b9 (l[k]!):=Enc.mv Enc.doing (x:=l[k]!) a7 w5
        have b6:=b6.mv w5
        have ho1_b9863_0:=ho1_b9863_0.mv w5 s3 (fun b hb=>by simp only [List.mem_singleton];rintro rfl;exact absurd h5 (V8 _ hb))
        have b1:=b1.mv w5
        have a6:=a6.mv w5
        have a0:=a0.keep s3 (by simp only [List.mem_singleton];exact fun e=>absurd e.symm (d8 _ h5))
        have ho1_b9863_1:=ho1_b9863_1.mv w5 s3 (fun b hb=>by simp only [List.mem_singleton];rintro rfl;exact absurd h5 (c4 _ hb))
        have ho1_b9863_2:=ho1_b9863_2.mv w5 s3 (fun b hb=>by simp only [List.mem_singleton];rintro rfl;exact absurd h5 (c5 _ hb))
        have ho1_b9863_3:=ho1_b9863_3.mv w5 s3 (fun b hb=>by simp only [List.mem_singleton];rintro rfl;exact absurd h5 (c6 _ hb))
        have a8:=a8.keep s3 (by simp only [List.mem_singleton];exact fun e=>absurd e.symm (f1 _ h5))
        have a5:=a5.keep s3 (by simp only [List.mem_singleton];exact fun e=>absurd e.symm (e8 _ h5))
        have d7:=d7.keep s3 (by simp only [List.mem_singleton];exact fun e=>absurd e.symm (ac _ h5))
        have h3:=h3.keep s3 (by simp only [List.mem_singleton];exact fun e=>absurd e.symm (cp _ h5))
        have hT:=hT.mvO w5 s3 a4 (fun b hq=>by have hq:=List.mem_singleton.1 hq;subst hq;exact h5) (by decide) (fun x hx=>by exact hx)
        refine AE (AB (AG (AD kR (AC (AP 4 GE ((l[k]!).crash) rfl b6 (fun _ _ _ h=>CM h) fun qt fP=>(AC (CU U5_ rfl rfl fP (AC (DY ((l[k]!).crash) (3:UInt8) (by decide) rfl rfl (AC (EG (((l[k]!).crash) % 3) (2:UInt8) rfl rfl (AE (AB (AK ((((l[k]!).crash) % 3) == (2:UInt8)) rfl rfl (fun aj=>?_) (fun aj=>?_)))))))))))))))
        ·have nJ:((l[k]!).crash) % 3=(2:UInt8):=by simpa using aj
         refine AG (AD kR (AC (AM 2 EE rfl (AC (AR U26_ rfl (a3) rfl a8 rfl (AC (AQ (vs:=[vI (((((l[k]!).device).toNat) % s.d.length:Nat):Int),vI (s.d[l[k]!.device.toNat % s.d.length]!.counter+1),vI 2,vI ((((l[k]!).copy) % 4).toNat:Int),vI 0,vI ((AI s.d[l[k]!.device.toNat % s.d.length]!.ops 4 0).1[(l[k]!.copy % 4).toNat]!.token+1)]) U40_ rfl BX rfl d7 rfl (AC (EY (E:=Enc.devop) (xs:=[.tmp 135]) U26_ BX HC (by decide) [.agg #[vI (((((l[k]!).device).toNat) % s.d.length:Nat):Int),vI (s.d[l[k]!.device.toNat % s.d.length]!.counter+1),vI 2,vI ((((l[k]!).copy) % 4).toNat:Int),vI 0,vI ((AI s.d[l[k]!.device.toNat % s.d.length]!.ops 4 0).1[(l[k]!.copy % 4).toNat]!.token+1)]] [[vI (((((l[k]!).device).toNat) % s.d.length:Nat):Int),vI (s.d[l[k]!.device.toNat % s.d.length]!.counter+1),vI 2,vI ((((l[k]!).copy) % 4).toNat:Int),vI 0,vI ((AI s.d[l[k]!.device.toNat % s.d.length]!.ops 4 0).1[(l[k]!.copy % 4).toNat]!.token+1)]] [(⟨(((((l[k]!).device).toNat) % s.d.length:Nat):Int),s.d[l[k]!.device.toNat % s.d.length]!.counter+1,(2:Int),((((l[k]!).copy) % 4).toNat:Int),(0:Int),(AI s.d[l[k]!.device.toNat % s.d.length]!.ops 4 0).1[(l[k]!.copy % 4).toNat]!.token+1⟩:DeviceOp)] rfl rfl rfl (Parts.cons rfl rfl (Parts.nil _ _ _)) oT em fun qu jT jU w6 m4 cr=>(?_))))))))))
         have a7:Enc.doing.rd jT ((f7 :: (c9 :: a9))++O) b9 (l[k]!):=Enc.mv Enc.doing (x:=l[k]!) a7 w6
         have h1:=h1.mv w6 m4 (by simp)
         have ho1_b9863_0:=ho1_b9863_0.mv w6 m4 (by simp)
         have ho1_b9863_2:=ho1_b9863_2.mv w6 m4 (by simp)
         have b1:=b1.mv w6
         have a6:=a6.mv w6
         have a0:=a0.keep m4 (by simp)
         have ho1_b9863_1:=ho1_b9863_1.mv w6 m4 (by simp)
         have ho1_b9863_3:=ho1_b9863_3.mv w6 m4 (by simp)
         have a8:=a8.keep m4 (by simp)
         have a5:=a5.keep m4 (by simp)
         have d7:=d7.keep m4 (by simp)
         have h3:=h3.keep m4 (by simp)
         have hT:=by exact hT.mv0 w6 m4 (fun x hx=>by exact hx)
         have:=cr.len_le
         refine AC (CT (E:=Enc.devop) (l:=s.done) (m:=[(⟨(((((l[k]!).device).toNat) % s.d.length:Nat):Int),s.d[l[k]!.device.toNat % s.d.length]!.counter+1,(2:Int),((((l[k]!).copy) % 4).toNat:Int),(0:Int),(AI s.d[l[k]!.device.toNat % s.d.length]!.ops 4 0).1[(l[k]!.copy % 4).toNat]!.token+1⟩:DeviceOp)]) U26_ OB rfl (by decide) rfl rfl ho1_b9863_2 cr (fun _ hb=>.inl hb) b7 (by simp;omega) (by simp [maxLen];omega) jU fun i9 jV j8 ak p6 i2 jW B4 s4 j0=>(?_))
         have ct:∀ b,b0.ownBlock=some b→i9.ownBlock≠some b:=fun b hb e=>by rcases p6 with e1|e1 <;> rw [e1] at e <;> first|(cases e;have:=(h1.lt _ hb).2;omega)|(exact absurd e ((fun b hb e=>c5 b e hb) b hb))
         have nK:∀ b,b3.ownBlock=some b→i9.ownBlock≠some b:=fun b hb e=>by rcases p6 with e1|e1 <;> rw [e1] at e <;> first|(cases e;have:=(ho1_b9863_0.lt _ hb).2;omega)|(exact absurd e (nn1_b9863_0_b9863_2 b hb))
         have cu:∀ b,a1.ownBlock=some b→i9.ownBlock≠some b:=fun b hb e=>by rcases p6 with e1|e1 <;> rw [e1] at e <;> first|(cases e;have:=(ho1_b9863_1.lt _ hb).2;omega)|(exact absurd e (nn1_b9863_1_b9863_2 b hb))
         have cv:∀ b,a2.ownBlock=some b→i9.ownBlock≠some b:=fun b hb e=>by rcases p6 with e1|e1 <;> rw [e1] at e <;> first|(cases e;have:=(ho1_b9863_3.lt _ hb).2;omega)|(exact absurd e (nn1_b9863_3_b9863_2 b hb))
         have fQ:∀ b,i9.ownBlock=some b→b≠b8:=fun b hb=>by rcases p6 with e1|e1 <;> rw [e1] at hb <;> first|(cases hb;have:=a0.lt;omega)|(exact nb1_b9863_2_b9863 b hb)
         have al:∀ b,i9.ownBlock=some b→b≠c2:=fun b hb=>by rcases p6 with e1|e1 <;> rw [e1] at hb <;> first|(cases hb;have:=a8.lt;omega)|(exact g4 b hb)
         have fR:∀ b,i9.ownBlock=some b→b≠c7:=fun b hb=>by rcases p6 with e1|e1 <;> rw [e1] at hb <;> first|(cases hb;have:=a5.lt;omega)|(exact f3 b hb)
         have nL:∀ b,i9.ownBlock=some b→b≠c9:=fun b hb=>by rcases p6 with e1|e1 <;> rw [e1] at hb <;> first|(cases hb;have:=d7.lt;omega)|(exact L8 b hb)
         have nM:∀ b,i9.ownBlock=some b→b≠f7:=fun b hb=>by rcases p6 with e1|e1 <;> rw [e1] at hb <;> first|(cases hb;have:=h3.lt;omega)|(exact ah b hb)
         have c3:∀ b,b0.ownBlock=some b→b∈j8:=fun b hb=>i2 b (c3 b hb)
         have c8:∀ b,b3.ownBlock=some b→b∈j8:=fun b hb=>i2 b (c8 b hb)
         have b2:∀ b,a1.ownBlock=some b→b∈j8:=fun b hb=>i2 b (b2 b hb)
         have b4:∀ b,a2.ownBlock=some b→b∈j8:=fun b hb=>i2 b (b4 b hb)
         have e9:b8∈j8:=i2 b8 rC
         have h9:c2∈j8:=i2 c2 rC
         have i0:c7∈j8:=i2 c7 rC
         have Q8:c9∈j8:=i2 c9 (by repeat (constructor))
         have dK:f7∈j8:=i2 f7 (by repeat (constructor))
         have a7:Enc.doing.rd jV (j8++O) b9 (l[k]!):=Enc.mv Enc.doing (x:=l[k]!) a7 B4
         have h1:=h1.mv B4 s4 (fun b hb=>by simp only [Option.mem_toList];exact (fun b hb e=>c5 b e hb) b hb)
         have ho1_b9863_0:=ho1_b9863_0.mv B4 s4 (fun b hb=>by simp only [Option.mem_toList];exact nn1_b9863_0_b9863_2 b hb)
         have b1:=b1.mv B4
         have a6:=a6.mv B4
         have a0:=a0.keep s4 (by simp only [Option.mem_toList];exact fun e=>absurd rfl (nb1_b9863_2_b9863 _ e))
         have ho1_b9863_1:=ho1_b9863_1.mv B4 s4 (fun b hb=>by simp only [Option.mem_toList];exact nn1_b9863_1_b9863_2 b hb)
         have ho1_b9863_3:=ho1_b9863_3.mv B4 s4 (fun b hb=>by simp only [Option.mem_toList];exact nn1_b9863_3_b9863_2 b hb)
         have a8:=a8.keep s4 (by simp only [Option.mem_toList];exact fun e=>absurd rfl (g4 _ e))
         have a5:=a5.keep s4 (by simp only [Option.mem_toList];exact fun e=>absurd rfl (f3 _ e))
         have d7:=d7.keep s4 (by simp only [Option.mem_toList];exact fun e=>absurd rfl (L8 _ e))
         have h3:=h3.keep s4 (by simp only [Option.mem_toList];exact fun e=>absurd rfl (ah _ e))
         have hT:=hT.mvO B4 s4 ho1_b9863_2 (fun b hb=>Option.mem_toList.1 hb) (by decide) i2
         refine AC (AM 2 EE rfl (BK (BP (i9) rfl rfl j0.oneCell HR (by repeat (assumption)) a8 oT jW fun jX jY w7 s5 A0=>(?_))))
         have a7:Enc.doing.rd jX (j8++O) b9 (l[k]!):=Enc.mv Enc.doing (x:=l[k]!) a7 w7
         have h1:=h1.mv w7 s5 (fun b hb=>AJ (f1 b hb))
         have ho1_b9863_0:=ho1_b9863_0.mv w7 s5 (fun b hb=>AJ (Z6 b hb))
         have j0:=j0.mv w7 s5 (fun b hb=>AJ (al b hb))
         have b1:=b1.mv w7
         have a6:=a6.mv w7
         have a0:=a0.keep s5 (AJ z6)
         have ho1_b9863_1:=ho1_b9863_1.mv w7 s5 (fun b hb=>AJ (g1 b hb))
         have ho1_b9863_3:=ho1_b9863_3.mv w7 s5 (fun b hb=>AJ (g3 b hb))
         have a5:=a5.keep s5 (AJ (Ne.symm z7))
         have d7:=d7.keep s5 (AJ (Ne.symm ab))
         have h3:=h3.keep s5 (AJ (Ne.symm co))
         have hT:=by exact hT.mvB w7 s5 aS (by decide) (fun x hx=>by exact hx)
         refine AE (AB (AG (AD kR (AC (AM 2 GB rfl (AC (AR U3_ rfl (vI 2) rfl d7 rfl (AC (DC .i64 (2:Int) (2:Int) rfl rfl (AE (AB (AK true rfl rfl (fun _=>AD kR (AC (AM 3 GO rfl (AC (AR U27_ rfl (a2) rfl A0 rfl (AC (AF (vI ((((l[k]!).copy) % 4).toNat:Int)) rfl (AC (EY (E:=Enc.int) (xs:=[.tmp 144]) U27_ s_3 z_3 (by decide) [vI ((((l[k]!).copy) % 4).toNat:Int)] [[vI ((((l[k]!).copy) % 4).toNat:Int)]] [((((l[k]!).copy) % 4).toNat:Int)] rfl rfl rfl (Parts.cons rfl rfl (Parts.nil _ _ _)) oT jY fun qv jZ ka w8 m5 cw=>(?_)))))))))) (fun h=>by cases h)))))))))))))
         have a7:Enc.doing.rd jZ (j8++O) b9 (l[k]!):=Enc.mv Enc.doing (x:=l[k]!) a7 w8
         have h1:=h1.mv w8 m5 (by simp)
         have ho1_b9863_0:=ho1_b9863_0.mv w8 m5 (by simp)
         have j0:=j0.mv w8 m5 (by simp)
         have ho1_b9863_3:=ho1_b9863_3.mv w8 m5 (by simp)
         have b1:=b1.mv w8
         have a6:=a6.mv w8
         have a0:=a0.keep m5 (by simp)
         have ho1_b9863_1:=ho1_b9863_1.mv w8 m5 (by simp)
         have A0:=A0.keep m5 (by simp)
         have a5:=a5.keep m5 (by simp)
         have d7:=d7.keep m5 (by simp)
         have h3:=h3.keep m5 (by simp)
         have hT:=by exact hT.mv0 w8 m5 (fun x hx=>by exact hx)
         have:=cw.len_le
         refine AC (CT (E:=Enc.int) (l:=s.shown) (m:=[((((l[k]!).copy) % 4).toNat:Int)]) U27_ i_3 rfl (by decide) rfl rfl ho1_b9863_3 cw (fun _ hb=>.inl hb) b4 (by simp;omega) (by simp [maxLen];omega) ka fun m6 kb j9 fS p7 i3 kc G7 G8 V9=>(?_))
         have cx:∀ b,b0.ownBlock=some b→m6.ownBlock≠some b:=fun b hb e=>by rcases p7 with e1|e1 <;> rw [e1] at e <;> first|(cases e;have:=(h1.lt _ hb).2;omega)|(exact absurd e ((fun b hb e=>c6 b e hb) b hb))
         have nN:∀ b,b3.ownBlock=some b→m6.ownBlock≠some b:=fun b hb e=>by rcases p7 with e1|e1 <;> rw [e1] at e <;> first|(cases e;have:=(ho1_b9863_0.lt _ hb).2;omega)|(exact absurd e (nn1_b9863_0_b9863_3 b hb))
         have cy:∀ b,i9.ownBlock=some b→m6.ownBlock≠some b:=fun b hb e=>by rcases p7 with e1|e1 <;> rw [e1] at e <;> first|(cases e;have:=(j0.lt _ hb).2;omega)|(exact absurd e ((fun b hb e=>cv b e hb) b hb))
         have cz:∀ b,a1.ownBlock=some b→m6.ownBlock≠some b:=fun b hb e=>by rcases p7 with e1|e1 <;> rw [e1] at e <;> first|(cases e;have:=(ho1_b9863_1.lt _ hb).2;omega)|(exact absurd e (nn1_b9863_1_b9863_3 b hb))
         have fT:∀ b,m6.ownBlock=some b→b≠b8:=fun b hb=>by rcases p7 with e1|e1 <;> rw [e1] at hb <;> first|(cases hb;have:=a0.lt;omega)|(exact nb1_b9863_3_b9863 b hb)
         have cA:∀ b,m6.ownBlock=some b→b≠c2:=fun b hb=>by rcases p7 with e1|e1 <;> rw [e1] at hb <;> first|(cases hb;have:=A0.lt;omega)|(exact g3 b hb)
         have fU:∀ b,m6.ownBlock=some b→b≠c7:=fun b hb=>by rcases p7 with e1|e1 <;> rw [e1] at hb <;> first|(cases hb;have:=a5.lt;omega)|(exact f5 b hb)
         have nO:∀ b,m6.ownBlock=some b→b≠c9:=fun b hb=>by rcases p7 with e1|e1 <;> rw [e1] at hb <;> first|(cases hb;have:=d7.lt;omega)|(exact ad b hb)
         have nP:∀ b,m6.ownBlock=some b→b≠f7:=fun b hb=>by rcases p7 with e1|e1 <;> rw [e1] at hb <;> first|(cases hb;have:=h3.lt;omega)|(exact cq b hb)
         have c3:∀ b,b0.ownBlock=some b→b∈j9:=fun b hb=>i3 b (c3 b hb)
         have c8:∀ b,b3.ownBlock=some b→b∈j9:=fun b hb=>i3 b (c8 b hb)
         have ak:∀ b,i9.ownBlock=some b→b∈j9:=fun b hb=>i3 b (ak b hb)
         have b2:∀ b,a1.ownBlock=some b→b∈j9:=fun b hb=>i3 b (b2 b hb)
         have e9:b8∈j9:=i3 b8 (by repeat (assumption))
         have h9:c2∈j9:=i3 c2 (by repeat (assumption))
         have i0:c7∈j9:=i3 c7 (by repeat (assumption))
         have Q8:c9∈j9:=i3 c9 (by repeat (assumption))
         have dK:f7∈j9:=i3 f7 (by repeat (assumption))
         have a7:Enc.doing.rd kb (j9++O) b9 (l[k]!):=Enc.mv Enc.doing (x:=l[k]!) a7 G7
         have h1:=h1.mv G7 G8 (fun b hb=>by simp only [Option.mem_toList];exact (fun b hb e=>c6 b e hb) b hb)
         have j0:=j0.mv G7 G8 (fun b hb=>by simp only [Option.mem_toList];exact (fun b hb e=>cv b e hb) b hb)
         have b1:=b1.mv G7
         have a6:=a6.mv G7
         have a0:=a0.keep G8 (by simp only [Option.mem_toList];exact fun e=>absurd rfl (nb1_b9863_3_b9863 _ e))
         have ho1_b9863_1:=ho1_b9863_1.mv G7 G8 (fun b hb=>by simp only [Option.mem_toList];exact nn1_b9863_1_b9863_3 b hb)
         have A0:=A0.keep G8 (by simp only [Option.mem_toList];exact fun e=>absurd rfl (g3 _ e))
         have a5:=a5.keep G8 (by simp only [Option.mem_toList];exact fun e=>absurd rfl (f5 _ e))
         have hT:=hT.mvO G7 G8 ho1_b9863_3 (fun b hb=>Option.mem_toList.1 hb) (by decide) i3
         refine AC (AM 3 GO rfl (BK (BP (m6) rfl rfl V9.oneCell s_27 (by repeat (assumption)) A0 oT kc fun kd ke B5 G9 fV=>(?_))))
         have a7:Enc.doing.rd kd (j9++O) b9 (l[k]!):=Enc.mv Enc.doing (x:=l[k]!) a7 B5
         have h1:=h1.mv B5 G9 (fun b hb=>AJ (f1 b hb))
         have j0:=j0.mv B5 G9 (fun b hb=>AJ (al b hb))
         have V9:=V9.mv B5 G9 (fun b hb=>AJ (cA b hb))
         have b1:=b1.mv B5
         have a6:=a6.mv B5
         have a0:=a0.keep G9 (AJ z6)
         have ho1_b9863_1:=ho1_b9863_1.mv B5 G9 (fun b hb=>AJ (g1 b hb))
         have a5:=a5.keep G9 (AJ (Ne.symm z7))
         have hT:=by exact hT.mvB B5 G9 aS (by decide) (fun x hx=>by exact hx)
         refine AE (AW (AB (?_)))
         exact ⟨((⟨s.d.set ((((l[k]!).device).toNat) % s.d.length) ((AV (s.d[(((l[k]!).device).toNat) % s.d.length]!) (⟨(((((l[k]!).device).toNat) % s.d.length:Nat):Int),s.d[l[k]!.device.toNat % s.d.length]!.counter+1,(2:Int),((((l[k]!).copy) % 4).toNat:Int),(0:Int),(AI s.d[l[k]!.device.toNat % s.d.length]!.ops 4 0).1[(l[k]!.copy % 4).toNat]!.token+1⟩:DeviceOp) ((((l[k]!).crash) % 3).toNat:Int)).1),s.b,s.done++([(⟨(((((l[k]!).device).toNat) % s.d.length:Nat):Int),s.d[l[k]!.device.toNat % s.d.length]!.counter+1,(2:Int),((((l[k]!).copy) % 4).toNat:Int),(0:Int),(AI s.d[l[k]!.device.toNat % s.d.length]!.ops 4 0).1[(l[k]!.copy % 4).toNat]!.token+1⟩:DeviceOp)]),s.shown++([((((l[k]!).copy) % 4).toNat:Int)])⟩:HouseR)),(L),b0,a1,i9,m6,j9,(by (rw [lv_a2s aS (HP aS aS aS) (by rw [GZ aS];assumption) aS];(rw [GZ aS];rfl))),hT,trivial,⟨_,AL _ ⟨rfl,rfl,rfl,trivial⟩⟩,ke,h1,c3,ho1_b9863_1,b2,j0,ak,V9,fS,b1,a6,a7,fV,aS,a5,aS,a0,aS,f1,e8,d8,g1,f6,nb1_b9863_1_b9863,al,fR,fQ,cA,fU,fT,(fun b hb e=>c4 b e hb),ct,cx,c4,cu,cz,(fun b hb e=>ct b e hb),(fun b hb e=>cu b e hb),cy,(fun b hb e=>cx b e hb),(fun b hb e=>cz b e hb),(fun b hb e=>cy b e hb)⟩
        have nQ:((l[k]!).crash) % 3≠(2:UInt8):=by simpa using aj
        refine AT (AW (AB (?_)))
        exact ⟨((⟨s.d.set ((((l[k]!).device).toNat) % s.d.length) ((AV (s.d[(((l[k]!).device).toNat) % s.d.length]!) (⟨(((((l[k]!).device).toNat) % s.d.length:Nat):Int),s.d[l[k]!.device.toNat % s.d.length]!.counter+1,(2:Int),((((l[k]!).copy) % 4).toNat:Int),(0:Int),(AI s.d[l[k]!.device.toNat % s.d.length]!.ops 4 0).1[(l[k]!.copy % 4).toNat]!.token+1⟩:DeviceOp) ((((l[k]!).crash) % 3).toNat:Int)).1),s.b,s.done,s.shown⟩:HouseR)),(L),b0,a1,a3,a2,(f7 :: (c9 :: a9)),(by (rw [NQ (.inl aS) (HP aS aS aS) (by rw [GZ aS];assumption) aS];(rw [GZ aS];rfl))),hT,trivial,⟨_,AL _ ⟨rfl,rfl,rfl,trivial⟩⟩,em,h1,c3,ho1_b9863_1,b2,ho1_b9863_2,b7,ho1_b9863_3,b4,b1,a6,a7,a8,(by (repeat (first|assumption|apply List.mem_cons_of_mem))),a5,(by (repeat (first|assumption|apply List.mem_cons_of_mem))),a0,(by (repeat (first|assumption|apply List.mem_cons_of_mem))),f1,e8,d8,g1,f6,nb1_b9863_1_b9863,g4,f3,nb1_b9863_2_b9863,g3,f5,nb1_b9863_3_b9863,(fun b hb e=>c4 b e hb),(fun b hb e=>c5 b e hb),(fun b hb e=>c6 b e hb),c4,nn1_b9863_1_b9863_2,nn1_b9863_1_b9863_3,c5,nn1_b9863_2_b9863_1,nn1_b9863_2_b9863_3,c6,nn1_b9863_3_b9863_1,nn1_b9863_3_b9863_2⟩
       refine AO (AF (b0) rfl (CD (AO (AF (vI (((((l[k]!).device).toNat) % s.d.length:Nat):Int)) rfl (CD (AO (BZ U24_ BG .i64 (((((l[k]!).device).toNat) % s.d.length:Nat):Int) ((((l[k]!).device).toNat) % s.d.length) rfl rfl rfl a4.rdB oM fun qw fW=>(CD (AO (BT U31_ rfl BG rfl fW fun am M3=>(?_)))))))))))
       have M3:=M3.2
       refine CD (AO (AQ (vs:=[vI (((((l[k]!).device).toNat) % s.d.length:Nat):Int),vI (s.d[l[k]!.device.toNat % s.d.length]!.counter+1),vI 2,vI ((((l[k]!).copy) % 4).toNat:Int),vI 0,vI ((AI s.d[l[k]!.device.toNat % s.d.length]!.ops 4 0).1[(l[k]!.copy % 4).toNat]!.token+1)]) U40_ rfl BX rfl d7 rfl (CD (AO (AP 4 GE ((l[k]!).crash) rfl b6 (fun _ _ _ h=>CM h) fun qx fX=>(CD (AO (CU U5_ rfl rfl fX (CD (DA rfl (fun w4_ k4_=>DY ((l[k]!).crash) (3:UInt8) (by decide) rfl rfl (⟨rfl,rfl⟩)) (DA rfl (fun w4_ k4_=>FF .u8 .i64 U5_ U3_ ((((l[k]!).crash) % 3).toNat:Int) ((((l[k]!).crash) % 3).toNat:Int) rfl (by have:=(((l[k]!).crash) % 3).toNat_lt;exact EP oM rfl) (⟨rfl,rfl⟩)) (DU (CC [vI 0,vI 0,nS,vO false] HO rfl bp fun f4 br kg en m7 m8 an=>(?_))))))))))))))
       have fY:DB b8 f4:=by show b8≠f4;have:=a0.lt;omega
       have cB:DB c2 f4:=by show c2≠f4;have:=a8.lt;omega
       have fZ:DB c7 f4:=by show c7≠f4;have:=a5.lt;omega
       have ga:DB c9 f4:=by show c9≠f4;have:=d7.lt;omega
       have cC:∀ b,b0.ownBlock=some b→b≠f4:=fun b hb=>by have:=(a4.lt b hb).2;omega
       have gb:∀ b,b3.ownBlock=some b→b≠f4:=fun b hb=>by have:=(ho1_b9863_0.lt b hb).2;omega
       have gc:∀ b,a1.ownBlock=some b→b≠f4:=fun b hb=>by have:=(ho1_b9863_1.lt b hb).2;omega
       have ao:∀ b,a3.ownBlock=some b→b≠f4:=fun b hb=>by have:=(ho1_b9863_2.lt b hb).2;omega
       have cD:∀ b,a2.ownBlock=some b→b≠f4:=fun b hb=>by have:=(ho1_b9863_3.lt b hb).2;omega
       have c3:∀ b,b0.ownBlock=some b→b∈(f4 :: (c9 :: a9)):=fun b hb=>List.mem_cons_of_mem _ (c3 b hb)
       have c8:∀ b,b3.ownBlock=some b→b∈(f4 :: (c9 :: a9)):=fun b hb=>List.mem_cons_of_mem _ (c8 b hb)
       have b2:∀ b,a1.ownBlock=some b→b∈(f4 :: (c9 :: a9)):=fun b hb=>List.mem_cons_of_mem _ (b2 b hb)
       have b7:∀ b,a3.ownBlock=some b→b∈(f4 :: (c9 :: a9)):=fun b hb=>List.mem_cons_of_mem _ (b7 b hb)
       have b4:∀ b,a2.ownBlock=some b→b∈(f4 :: (c9 :: a9)):=fun b hb=>List.mem_cons_of_mem _ (b4 b hb)
       clear kg
       have a7:Enc.doing.rd br ((f4 :: (c9 :: a9))++O) b9 (l[k]!):=Enc.mv Enc.doing (x:=l[k]!) a7 m7
       have b6:=b6.mv m7
       have a4:=a4.mv m7 m8 (by simp)
       have ho1_b9863_0:=ho1_b9863_0.mv m7 m8 (by simp)
       have M3:Enc.device.rd br ((f4 :: (c9 :: a9))++O) am (s.d[(((l[k]!).device).toNat) % s.d.length]!):=Enc.mv Enc.device (x:=s.d[(((l[k]!).device).toNat) % s.d.length]!) M3 m7
       have b1:=b1.mv m7
       have a6:=a6.mv m7
       have a0:=a0.keep m8 (by simp)
       have ho1_b9863_1:=ho1_b9863_1.mv m7 m8 (by simp)
       have ho1_b9863_2:=ho1_b9863_2.mv m7 m8 (by simp)
       have ho1_b9863_3:=ho1_b9863_3.mv m7 m8 (by simp)
       have a8:=a8.keep m8 (by simp)
       have a5:=a5.keep m8 (by simp)
       have d7:=d7.keep m8 (by simp)
       have hT:=by exact hT.mv0 m7 m8 (fun x hx=>by exact List.mem_cons_of_mem _ hx)
       refine ⟨m8,?_⟩
       refine DU (BI (vs:=[vA am.toArray,vA #[vI (((((l[k]!).device).toNat) % s.d.length:Nat):Int),vI (s.d[l[k]!.device.toNat % s.d.length]!.counter+1),vI 2,vI ((((l[k]!).copy) % 4).toNat:Int),vI 0,vI ((AI s.d[l[k]!.device.toNat % s.d.length]!.ops 4 0).1[(l[k]!.copy % 4).toNat]!.token+1)],vI ((((l[k]!).crash) % 3).toNat:Int)]) HK (NP (O:=(f4 :: (c9 :: a9))++O) am (s.d[(((l[k]!).device).toNat) % s.d.length]!) [vI (((((l[k]!).device).toNat) % s.d.length:Nat):Int),vI (s.d[l[k]!.device.toNat % s.d.length]!.counter+1),vI 2,vI ((((l[k]!).copy) % 4).toNat:Int),vI 0,vI ((AI s.d[l[k]!.device.toNat % s.d.length]!.ops 4 0).1[(l[k]!.copy % 4).toNat]!.token+1)] (⟨(((((l[k]!).device).toNat) % s.d.length:Nat):Int),s.d[l[k]!.device.toNat % s.d.length]!.counter+1,(2:Int),((((l[k]!).copy) % 4).toNat:Int),(0:Int),(AI s.d[l[k]!.device.toNat % s.d.length]!.ops 4 0).1[(l[k]!.copy % 4).toNat]!.token+1⟩:DeviceOp) ((((l[k]!).crash) % 3).toNat:Int) br M3 rfl en.lt) rfl en fun qy kh ki s6 k0 kj=>(?_))
       obtain ⟨cE,rfl,gd⟩:=kj
       have a7:Enc.doing.rd kh ((f4 :: (c9 :: a9))++O) b9 (l[k]!):=Enc.mv Enc.doing (x:=l[k]!) a7 s6
       have b6:=b6.mv s6
       have a4:=a4.mv s6 k0 (by simp)
       have ho1_b9863_0:=ho1_b9863_0.mv s6 k0 (by simp)
       have b1:=b1.mv s6
       have a6:=a6.mv s6
       have a0:=a0.keep k0 (by simp)
       have ho1_b9863_1:=ho1_b9863_1.mv s6 k0 (by simp)
       have ho1_b9863_2:=ho1_b9863_2.mv s6 k0 (by simp)
       have ho1_b9863_3:=ho1_b9863_3.mv s6 k0 (by simp)
       have a8:=a8.keep k0 (by simp)
       have a5:=a5.keep k0 (by simp)
       have d7:=d7.keep k0 (by simp)
       have an:=an.keep k0 (by simp)
       have hT:=by exact hT.mv0 s6 k0 (fun x hx=>by exact hx)
       refine ⟨k0,?_⟩
       refine AO (AF (vT #[vA cE.toArray,vI ((AV (s.d[(((l[k]!).device).toNat) % s.d.length]!) (⟨(((((l[k]!).device).toNat) % s.d.length:Nat):Int),s.d[l[k]!.device.toNat % s.d.length]!.counter+1,(2:Int),((((l[k]!).copy) % 4).toNat:Int),(0:Int),(AI s.d[l[k]!.device.toNat % s.d.length]!.ops 4 0).1[(l[k]!.copy % 4).toNat]!.token+1⟩:DeviceOp) ((((l[k]!).crash) % 3).toNat:Int)).2)]) rfl (CD (AO (BD (vA cE.toArray) rfl rfl (CD (AO (BD (vI ((AV (s.d[(((l[k]!).device).toNat) % s.d.length]!) (⟨(((((l[k]!).device).toNat) % s.d.length:Nat):Int),s.d[l[k]!.device.toNat % s.d.length]!.counter+1,(2:Int),((((l[k]!).copy) % 4).toNat:Int),(0:Int),(AI s.d[l[k]!.device.toNat % s.d.length]!.ops 4 0).1[(l[k]!.copy % 4).toNat]!.token+1⟩:DeviceOp) ((((l[k]!).crash) % 3).toNat:Int)).2)) rfl rfl (CD (?_)))))))))
       obtain ⟨bs,rfl,M4⟩:=gd
       have:=M4.len_le
       refine FO (AU (vs:=[vI (((AV (s.d[(((l[k]!).device).toNat) % s.d.length]!) (⟨(((((l[k]!).device).toNat) % s.d.length:Nat):Int),s.d[l[k]!.device.toNat % s.d.length]!.counter+1,(2:Int),((((l[k]!).copy) % 4).toNat:Int),(0:Int),(AI s.d[l[k]!.device.toNat % s.d.length]!.ops 4 0).1[(l[k]!.copy % 4).toNat]!.token+1⟩:DeviceOp) ((((l[k]!).crash) % 3).toNat:Int)).1).id),vI (((AV (s.d[(((l[k]!).device).toNat) % s.d.length]!) (⟨(((((l[k]!).device).toNat) % s.d.length:Nat):Int),s.d[l[k]!.device.toNat % s.d.length]!.counter+1,(2:Int),((((l[k]!).copy) % 4).toNat:Int),(0:Int),(AI s.d[l[k]!.device.toNat % s.d.length]!.ops 4 0).1[(l[k]!.copy % 4).toNat]!.token+1⟩:DeviceOp) ((((l[k]!).crash) % 3).toNat:Int)).1).counter),bs,vO (((AV (s.d[(((l[k]!).device).toNat) % s.d.length]!) (⟨(((((l[k]!).device).toNat) % s.d.length:Nat):Int),s.d[l[k]!.device.toNat % s.d.length]!.counter+1,(2:Int),((((l[k]!).copy) % 4).toNat:Int),(0:Int),(AI s.d[l[k]!.device.toNat % s.d.length]!.ops 4 0).1[(l[k]!.copy % 4).toNat]!.token+1⟩:DeviceOp) ((((l[k]!).crash) % 3).toNat:Int)).1).halted)]) (.agg #[vI (((AV (s.d[(((l[k]!).device).toNat) % s.d.length]!) (⟨(((((l[k]!).device).toNat) % s.d.length:Nat):Int),s.d[l[k]!.device.toNat % s.d.length]!.counter+1,(2:Int),((((l[k]!).copy) % 4).toNat:Int),(0:Int),(AI s.d[l[k]!.device.toNat % s.d.length]!.ops 4 0).1[(l[k]!.copy % 4).toNat]!.token+1⟩:DeviceOp) ((((l[k]!).crash) % 3).toNat:Int)).1).id),vI (((AV (s.d[(((l[k]!).device).toNat) % s.d.length]!) (⟨(((((l[k]!).device).toNat) % s.d.length:Nat):Int),s.d[l[k]!.device.toNat % s.d.length]!.counter+1,(2:Int),((((l[k]!).copy) % 4).toNat:Int),(0:Int),(AI s.d[l[k]!.device.toNat % s.d.length]!.ops 4 0).1[(l[k]!.copy % 4).toNat]!.token+1⟩:DeviceOp) ((((l[k]!).crash) % 3).toNat:Int)).1).counter),bs,vO (((AV (s.d[(((l[k]!).device).toNat) % s.d.length]!) (⟨(((((l[k]!).device).toNat) % s.d.length:Nat):Int),s.d[l[k]!.device.toNat % s.d.length]!.counter+1,(2:Int),((((l[k]!).copy) % 4).toNat:Int),(0:Int),(AI s.d[l[k]!.device.toNat % s.d.length]!.ops 4 0).1[(l[k]!.copy % 4).toNat]!.token+1⟩:DeviceOp) ((((l[k]!).crash) % 3).toNat:Int)).1).halted)]) rfl rfl rfl BG (fun u hu=>by simp only [List.mem_cons,List.not_mem_nil,or_false] at hu;rcases hu with rfl|rfl|rfl|rfl <;> first|rfl|exact M4.oneCell) (by repeat (constructor)) an oT ki fun kk eo m9 s7 h4=>(?_))
       have a7:Enc.doing.rd kk ((f4 :: (c9 :: a9))++O) b9 (l[k]!):=Enc.mv Enc.doing (x:=l[k]!) a7 m9
       have b6:=b6.mv m9
       have a4:=a4.mv m9 s7 (fun b hb=>AJ (cC b hb))
       have ho1_b9863_0:=ho1_b9863_0.mv m9 s7 (fun b hb=>AJ (gb b hb))
       have M4:=M4.mv m9
       have b1:=b1.mv m9
       have a6:=a6.mv m9
       have a0:=a0.keep s7 (AJ fY)
       have ho1_b9863_1:=ho1_b9863_1.mv m9 s7 (fun b hb=>AJ (gc b hb))
       have ho1_b9863_2:=ho1_b9863_2.mv m9 s7 (fun b hb=>AJ (ao b hb))
       have ho1_b9863_3:=ho1_b9863_3.mv m9 s7 (fun b hb=>AJ (cD b hb))
       have a8:=a8.keep s7 (AJ cB)
       have a5:=a5.keep s7 (AJ fZ)
       have d7:=d7.keep s7 (AJ ga)
       have hT:=by exact hT.mvB m9 s7 aS (by decide) (fun x hx=>by exact hx)
       refine AO (AH (vI ((AV (s.d[(((l[k]!).device).toNat) % s.d.length]!) (⟨(((((l[k]!).device).toNat) % s.d.length:Nat):Int),s.d[l[k]!.device.toNat % s.d.length]!.counter+1,(2:Int),((((l[k]!).copy) % 4).toNat:Int),(0:Int),(AI s.d[l[k]!.device.toNat % s.d.length]!.ops 4 0).1[(l[k]!.copy % 4).toNat]!.token+1⟩:DeviceOp) ((((l[k]!).crash) % 3).toNat:Int)).2)) rfl (CD (EW (AB (AG (AG (AD kR (AC (AF (vI ((AV (s.d[(((l[k]!).device).toNat) % s.d.length]!) (⟨(((((l[k]!).device).toNat) % s.d.length:Nat):Int),s.d[l[k]!.device.toNat % s.d.length]!.counter+1,(2:Int),((((l[k]!).copy) % 4).toNat:Int),(0:Int),(AI s.d[l[k]!.device.toNat % s.d.length]!.ops 4 0).1[(l[k]!.copy % 4).toNat]!.token+1⟩:DeviceOp) ((((l[k]!).crash) % 3).toNat:Int)).2)) rfl (AC (DX .i64 ((AV (s.d[(((l[k]!).device).toNat) % s.d.length]!) (⟨(((((l[k]!).device).toNat) % s.d.length:Nat):Int),s.d[l[k]!.device.toNat % s.d.length]!.counter+1,(2:Int),((((l[k]!).copy) % 4).toNat:Int),(0:Int),(AI s.d[l[k]!.device.toNat % s.d.length]!.ops 4 0).1[(l[k]!.copy % 4).toNat]!.token+1⟩:DeviceOp) ((((l[k]!).crash) % 3).toNat:Int)).2) (0:Int) rfl rfl (AE (AB (AK (((AV (s.d[(((l[k]!).device).toNat) % s.d.length]!) (⟨(((((l[k]!).device).toNat) % s.d.length:Nat):Int),s.d[l[k]!.device.toNat % s.d.length]!.counter+1,(2:Int),((((l[k]!).copy) % 4).toNat:Int),(0:Int),(AI s.d[l[k]!.device.toNat % s.d.length]!.ops 4 0).1[(l[k]!.copy % 4).toNat]!.token+1⟩:DeviceOp) ((((l[k]!).crash) % 3).toNat:Int)).2) != (0:Int)) rfl rfl (fun ap=>?_) (fun ap=>?_)))))))))))))))
       ·have nR:(AV (s.d[(((l[k]!).device).toNat) % s.d.length]!) (⟨(((((l[k]!).device).toNat) % s.d.length:Nat):Int),s.d[l[k]!.device.toNat % s.d.length]!.counter+1,(2:Int),((((l[k]!).copy) % 4).toNat:Int),(0:Int),(AI s.d[l[k]!.device.toNat % s.d.length]!.ops 4 0).1[(l[k]!.copy % 4).toNat]!.token+1⟩:DeviceOp) ((((l[k]!).crash) % 3).toNat:Int)).2≠(0:Int):=by simpa using ap
        refine AG (AD kR (AC (AQ (vs:=[b0,a1,a3,a2]) U29_ rfl CL rfl a8 rfl (BK (AU (vs:=[b0,a1,a3,a2]) (.agg #[b0,a1,a3,a2]) rfl rfl rfl CL (fun u hu=>by simp only [List.mem_cons,List.not_mem_nil,or_false] at hu;rcases hu with rfl|rfl|rfl|rfl <;> first|exact a4.oneCell|exact ho1_b9863_1.oneCell|exact ho1_b9863_2.oneCell|exact ho1_b9863_3.oneCell) rC a5 oT eo fun qz kl M5 M6 ge=>(?_))))))
        have a4:=a4.mv M5 M6 (fun b hb=>AJ (e8 b hb))
        have ho1_b9863_1:=ho1_b9863_1.mv M5 M6 (fun b hb=>AJ (f6 b hb))
        have ho1_b9863_2:=ho1_b9863_2.mv M5 M6 (fun b hb=>AJ (f3 b hb))
        have ho1_b9863_3:=ho1_b9863_3.mv M5 M6 (fun b hb=>AJ (f5 b hb))
        have b1:=b1.mv M5
        have a0:=a0.keep M6 (AJ i8)
        have hT:=by exact hT.mvB M5 M6 aS (by decide) (fun x hx=>by exact hx)
        refine AE (AB (AS (AN (BC (AN (AZ rfl (FN (vs:=[b0,a1,a3,a2]) rfl rfl U29_ rfl CL rfl ge rfl) (Exists.intro _ (And.intro rfl (BK (AU (vs:=[b0,a1,a3,a2]) (.agg #[b0,a1,a3,a2]) rfl rfl rfl CL (fun u hu=>by simp only [List.mem_cons,List.not_mem_nil,or_false] at hu;rcases hu with rfl|rfl|rfl|rfl <;> first|exact a4.oneCell|exact ho1_b9863_1.oneCell|exact ho1_b9863_2.oneCell|exact ho1_b9863_3.oneCell) rC a0 oT kl fun qA km M7 S6 gf=>(?_)))))))))))
        have b1:=b1.mv M7
        have a4:=a4.mv M7 S6 (fun b hb=>AJ (d8 b hb))
        have ho1_b9863_1:=ho1_b9863_1.mv M7 S6 (fun b hb=>AJ (nb1_b9863_1_b9863 b hb))
        have ho1_b9863_2:=ho1_b9863_2.mv M7 S6 (fun b hb=>AJ (nb1_b9863_2_b9863 b hb))
        have ho1_b9863_3:=ho1_b9863_3.mv M7 S6 (fun b hb=>AJ (nb1_b9863_3_b9863 b hb))
        have hT:=by exact hT.mvB M7 S6 aS (by decide) (fun x hx=>by exact hx)
        refine AE (AW (AB (AD kR (AC (AF (vI ((k:Nat):Int)) rfl (AC (CE .i64 ((k:Nat):Int) (1:Int) (((k+1:Nat):Int)) rfl rfl (EP oM oM) (AC (AH (vI ((k+1:Nat):Int)) rfl (AE (AB (?_))))))))))))
        exact ⟨_,oM,(k+1),(s),(L),b0,a1,a3,a2,(f4 :: (c9 :: a9)),oM,(by exact GP hI),hT,rfl,⟨_,AL _ ⟨rfl,rfl,(by rfl),rfl,trivial⟩⟩,km,a4,c3,ho1_b9863_1,b2,ho1_b9863_2,b7,ho1_b9863_3,b4,b1,gf,(by (repeat (first|assumption|apply List.mem_cons_of_mem))),d8,nb1_b9863_1_b9863,nb1_b9863_2_b9863,nb1_b9863_3_b9863,(fun b hb e=>c4 b e hb),(fun b hb e=>c5 b e hb),(fun b hb e=>c6 b e hb),c4,nn1_b9863_1_b9863_2,nn1_b9863_1_b9863_3,c5,nn1_b9863_2_b9863_1,nn1_b9863_2_b9863_3,c6,nn1_b9863_3_b9863_1,nn1_b9863_3_b9863_2⟩
       have nT:(AV (s.d[(((l[k]!).device).toNat) % s.d.length]!) (⟨(((((l[k]!).device).toNat) % s.d.length:Nat):Int),s.d[l[k]!.device.toNat % s.d.length]!.counter+1,(2:Int),((((l[k]!).copy) % 4).toNat:Int),(0:Int),(AI s.d[l[k]!.device.toNat % s.d.length]!.ops 4 0).1[(l[k]!.copy % 4).toNat]!.token+1⟩:DeviceOp) ((((l[k]!).crash) % 3).toNat:Int)).2=(0:Int):=by simpa using ap
       refine AT (AB (AG (AD kR (AC (AF (b0) rfl (AC (AF (vI (((((l[k]!).device).toNat) % s.d.length:Nat):Int)) rfl (AC (AQ (vs:=[vI (((AV (s.d[(((l[k]!).device).toNat) % s.d.length]!) (⟨(((((l[k]!).device).toNat) % s.d.length:Nat):Int),s.d[l[k]!.device.toNat % s.d.length]!.counter+1,(2:Int),((((l[k]!).copy) % 4).toNat:Int),(0:Int),(AI s.d[l[k]!.device.toNat % s.d.length]!.ops 4 0).1[(l[k]!.copy % 4).toNat]!.token+1⟩:DeviceOp) ((((l[k]!).crash) % 3).toNat:Int)).1).id),vI (((AV (s.d[(((l[k]!).device).toNat) % s.d.length]!) (⟨(((((l[k]!).device).toNat) % s.d.length:Nat):Int),s.d[l[k]!.device.toNat % s.d.length]!.counter+1,(2:Int),((((l[k]!).copy) % 4).toNat:Int),(0:Int),(AI s.d[l[k]!.device.toNat % s.d.length]!.ops 4 0).1[(l[k]!.copy % 4).toNat]!.token+1⟩:DeviceOp) ((((l[k]!).crash) % 3).toNat:Int)).1).counter),bs,vO (((AV (s.d[(((l[k]!).device).toNat) % s.d.length]!) (⟨(((((l[k]!).device).toNat) % s.d.length:Nat):Int),s.d[l[k]!.device.toNat % s.d.length]!.counter+1,(2:Int),((((l[k]!).copy) % 4).toNat:Int),(0:Int),(AI s.d[l[k]!.device.toNat % s.d.length]!.ops 4 0).1[(l[k]!.copy % 4).toNat]!.token+1⟩:DeviceOp) ((((l[k]!).crash) % 3).toNat:Int)).1).halted)]) U31_ rfl BG rfl h4 rfl (AC (DO U24_ BG .i64 (((((l[k]!).device).toNat) % s.d.length:Nat):Int) ((((l[k]!).device).toNat) % s.d.length) rfl rfl rfl a4 oM fun qB h6=>(BK (DW ((AV (s.d[(((l[k]!).device).toNat) % s.d.length]!) (⟨(((((l[k]!).device).toNat) % s.d.length:Nat):Int),s.d[l[k]!.device.toNat % s.d.length]!.counter+1,(2:Int),((((l[k]!).copy) % 4).toNat:Int),(0:Int),(AI s.d[l[k]!.device.toNat % s.d.length]!.ops 4 0).1[(l[k]!.copy % 4).toNat]!.token+1⟩:DeviceOp) ((((l[k]!).crash) % 3).toNat:Int)).1) (by decide) BG rfl rfl a4 h6 (c3 _ h6) oM ⟨_,rfl,M4⟩ eo fun kn ep w9 s8 h2=>(?_))))))))))))))
       have a7:Enc.doing.rd kn ((f4 :: (c9 :: a9))++O) b9 (l[k]!):=Enc.mv Enc.doing (x:=l[k]!) a7 w9
       have b6:=b6.mv w9
       have ho1_b9863_0:=ho1_b9863_0.mv w9 s8 (fun b hb=>by simp only [List.mem_singleton];rintro rfl;exact absurd h6 (V8 _ hb))
       have b1:=b1.mv w9
       have a6:=a6.mv w9
       have a0:=a0.keep s8 (by simp only [List.mem_singleton];exact fun e=>absurd e.symm (d8 _ h6))
       have ho1_b9863_1:=ho1_b9863_1.mv w9 s8 (fun b hb=>by simp only [List.mem_singleton];rintro rfl;exact absurd h6 (c4 _ hb))
       have ho1_b9863_2:=ho1_b9863_2.mv w9 s8 (fun b hb=>by simp only [List.mem_singleton];rintro rfl;exact absurd h6 (c5 _ hb))
       have ho1_b9863_3:=ho1_b9863_3.mv w9 s8 (fun b hb=>by simp only [List.mem_singleton];rintro rfl;exact absurd h6 (c6 _ hb))
       have a8:=a8.keep s8 (by simp only [List.mem_singleton];exact fun e=>absurd e.symm (f1 _ h6))
       have a5:=a5.keep s8 (by simp only [List.mem_singleton];exact fun e=>absurd e.symm (e8 _ h6))
       have d7:=d7.keep s8 (by simp only [List.mem_singleton];exact fun e=>absurd e.symm (ac _ h6))
       have h4:=h4.keep s8 (by simp only [List.mem_singleton];exact fun e=>absurd e.symm (cC _ h6))
       have hT:=hT.mvO w9 s8 a4 (fun b hq=>by have hq:=List.mem_singleton.1 hq;subst hq;exact h6) (by decide) (fun x hx=>by exact hx)
       refine AE (AB (AG (AD kR (AC (AP 4 GE ((l[k]!).crash) rfl b6 (fun _ _ _ h=>CM h) fun qC gg=>(AC (CU U5_ rfl rfl gg (AC (DY ((l[k]!).crash) (3:UInt8) (by decide) rfl rfl (AC (EG (((l[k]!).crash) % 3) (2:UInt8) rfl rfl (AE (AB (AK ((((l[k]!).crash) % 3) == (2:UInt8)) rfl rfl (fun aq=>?_) (fun aq=>?_)))))))))))))))
       ·have nU:((l[k]!).crash) % 3=(2:UInt8):=by simpa using aq
        refine AG (AD kR (AC (AM 2 EE rfl (AC (AR U26_ rfl (a3) rfl a8 rfl (AC (AQ (vs:=[vI (((((l[k]!).device).toNat) % s.d.length:Nat):Int),vI (s.d[l[k]!.device.toNat % s.d.length]!.counter+1),vI 2,vI ((((l[k]!).copy) % 4).toNat:Int),vI 0,vI ((AI s.d[l[k]!.device.toNat % s.d.length]!.ops 4 0).1[(l[k]!.copy % 4).toNat]!.token+1)]) U40_ rfl BX rfl d7 rfl (AC (EY (E:=Enc.devop) (xs:=[.tmp 135]) U26_ BX HC (by decide) [.agg #[vI (((((l[k]!).device).toNat) % s.d.length:Nat):Int),vI (s.d[l[k]!.device.toNat % s.d.length]!.counter+1),vI 2,vI ((((l[k]!).copy) % 4).toNat:Int),vI 0,vI ((AI s.d[l[k]!.device.toNat % s.d.length]!.ops 4 0).1[(l[k]!.copy % 4).toNat]!.token+1)]] [[vI (((((l[k]!).device).toNat) % s.d.length:Nat):Int),vI (s.d[l[k]!.device.toNat % s.d.length]!.counter+1),vI 2,vI ((((l[k]!).copy) % 4).toNat:Int),vI 0,vI ((AI s.d[l[k]!.device.toNat % s.d.length]!.ops 4 0).1[(l[k]!.copy % 4).toNat]!.token+1)]] [(⟨(((((l[k]!).device).toNat) % s.d.length:Nat):Int),s.d[l[k]!.device.toNat % s.d.length]!.counter+1,(2:Int),((((l[k]!).copy) % 4).toNat:Int),(0:Int),(AI s.d[l[k]!.device.toNat % s.d.length]!.ops 4 0).1[(l[k]!.copy % 4).toNat]!.token+1⟩:DeviceOp)] rfl rfl rfl (Parts.cons rfl rfl (Parts.nil _ _ _)) oT ep fun qD ko kp x0 n0 cF=>(?_))))))))))
        have a7:Enc.doing.rd ko ((f4 :: (c9 :: a9))++O) b9 (l[k]!):=Enc.mv Enc.doing (x:=l[k]!) a7 x0
        have h2:=h2.mv x0 n0 (by simp)
        have ho1_b9863_0:=ho1_b9863_0.mv x0 n0 (by simp)
        have ho1_b9863_2:=ho1_b9863_2.mv x0 n0 (by simp)
        have b1:=b1.mv x0
        have a6:=a6.mv x0
        have a0:=a0.keep n0 (by simp)
        have ho1_b9863_1:=ho1_b9863_1.mv x0 n0 (by simp)
        have ho1_b9863_3:=ho1_b9863_3.mv x0 n0 (by simp)
        have a8:=a8.keep n0 (by simp)
        have a5:=a5.keep n0 (by simp)
        have d7:=d7.keep n0 (by simp)
        have h4:=h4.keep n0 (by simp)
        have hT:=by exact hT.mv0 x0 n0 (fun x hx=>by exact hx)
        have:=cF.len_le
        refine AC (CT (E:=Enc.devop) (l:=s.done) (m:=[(⟨(((((l[k]!).device).toNat) % s.d.length:Nat):Int),s.d[l[k]!.device.toNat % s.d.length]!.counter+1,(2:Int),((((l[k]!).copy) % 4).toNat:Int),(0:Int),(AI s.d[l[k]!.device.toNat % s.d.length]!.ops 4 0).1[(l[k]!.copy % 4).toNat]!.token+1⟩:DeviceOp)]) U26_ OB rfl (by decide) rfl rfl ho1_b9863_2 cF (fun _ hb=>.inl hb) b7 (by simp;omega) (by simp [maxLen];omega) kp fun j1 kq k5 ar p8 i4 kr B6 s9 j2=>(?_))
        have cG:∀ b,b0.ownBlock=some b→j1.ownBlock≠some b:=fun b hb e=>by rcases p8 with e1|e1 <;> rw [e1] at e <;> first|(cases e;have:=(h2.lt _ hb).2;omega)|(exact absurd e ((fun b hb e=>c5 b e hb) b hb))
        have nV:∀ b,b3.ownBlock=some b→j1.ownBlock≠some b:=fun b hb e=>by rcases p8 with e1|e1 <;> rw [e1] at e <;> first|(cases e;have:=(ho1_b9863_0.lt _ hb).2;omega)|(exact absurd e (nn1_b9863_0_b9863_2 b hb))
        have cH:∀ b,a1.ownBlock=some b→j1.ownBlock≠some b:=fun b hb e=>by rcases p8 with e1|e1 <;> rw [e1] at e <;> first|(cases e;have:=(ho1_b9863_1.lt _ hb).2;omega)|(exact absurd e (nn1_b9863_1_b9863_2 b hb))
        have cI:∀ b,a2.ownBlock=some b→j1.ownBlock≠some b:=fun b hb e=>by rcases p8 with e1|e1 <;> rw [e1] at e <;> first|(cases e;have:=(ho1_b9863_3.lt _ hb).2;omega)|(exact absurd e (nn1_b9863_3_b9863_2 b hb))
        have gh:∀ b,j1.ownBlock=some b→b≠b8:=fun b hb=>by rcases p8 with e1|e1 <;> rw [e1] at hb <;> first|(cases hb;have:=a0.lt;omega)|(exact nb1_b9863_2_b9863 b hb)
        have au:∀ b,j1.ownBlock=some b→b≠c2:=fun b hb=>by rcases p8 with e1|e1 <;> rw [e1] at hb <;> first|(cases hb;have:=a8.lt;omega)|(exact g4 b hb)
        have gi:∀ b,j1.ownBlock=some b→b≠c7:=fun b hb=>by rcases p8 with e1|e1 <;> rw [e1] at hb <;> first|(cases hb;have:=a5.lt;omega)|(exact f3 b hb)
        have nW:∀ b,j1.ownBlock=some b→b≠c9:=fun b hb=>by rcases p8 with e1|e1 <;> rw [e1] at hb <;> first|(cases hb;have:=d7.lt;omega)|(exact L8 b hb)
        have nX:∀ b,j1.ownBlock=some b→b≠f4:=fun b hb=>by rcases p8 with e1|e1 <;> rw [e1] at hb <;> first|(cases hb;have:=h4.lt;omega)|(exact ao b hb)
        have c3:∀ b,b0.ownBlock=some b→b∈k5:=fun b hb=>i4 b (c3 b hb)
        have c8:∀ b,b3.ownBlock=some b→b∈k5:=fun b hb=>i4 b (c8 b hb)
        have b2:∀ b,a1.ownBlock=some b→b∈k5:=fun b hb=>i4 b (b2 b hb)
        have b4:∀ b,a2.ownBlock=some b→b∈k5:=fun b hb=>i4 b (b4 b hb)
        have e9:b8∈k5:=i4 b8 rC
        have h9:c2∈k5:=i4 c2 rC
        have i0:c7∈k5:=i4 c7 rC
        have Q8:c9∈k5:=i4 c9 (by repeat (constructor))
        have dL:f4∈k5:=i4 f4 (by repeat (constructor))
        have a7:Enc.doing.rd kq (k5++O) b9 (l[k]!):=Enc.mv Enc.doing (x:=l[k]!) a7 B6
        have h2:=h2.mv B6 s9 (fun b hb=>by simp only [Option.mem_toList];exact (fun b hb e=>c5 b e hb) b hb)
        have ho1_b9863_0:=ho1_b9863_0.mv B6 s9 (fun b hb=>by simp only [Option.mem_toList];exact nn1_b9863_0_b9863_2 b hb)
        have b1:=b1.mv B6
        have a6:=a6.mv B6
        have a0:=a0.keep s9 (by simp only [Option.mem_toList];exact fun e=>absurd rfl (nb1_b9863_2_b9863 _ e))
        have ho1_b9863_1:=ho1_b9863_1.mv B6 s9 (fun b hb=>by simp only [Option.mem_toList];exact nn1_b9863_1_b9863_2 b hb)
        have ho1_b9863_3:=ho1_b9863_3.mv B6 s9 (fun b hb=>by simp only [Option.mem_toList];exact nn1_b9863_3_b9863_2 b hb)
        have a8:=a8.keep s9 (by simp only [Option.mem_toList];exact fun e=>absurd rfl (g4 _ e))
        have a5:=a5.keep s9 (by simp only [Option.mem_toList];exact fun e=>absurd rfl (f3 _ e))
        have d7:=d7.keep s9 (by simp only [Option.mem_toList];exact fun e=>absurd rfl (L8 _ e))
        have h4:=h4.keep s9 (by simp only [Option.mem_toList];exact fun e=>absurd rfl (ao _ e))
        have hT:=hT.mvO B6 s9 ho1_b9863_2 (fun b hb=>Option.mem_toList.1 hb) (by decide) i4
        refine AC (AM 2 EE rfl (BK (BP (j1) rfl rfl j2.oneCell HR (by repeat (assumption)) a8 oT kr fun ks kt x1 t0 A1=>(?_))))
        have a7:Enc.doing.rd ks (k5++O) b9 (l[k]!):=Enc.mv Enc.doing (x:=l[k]!) a7 x1
        have h2:=h2.mv x1 t0 (fun b hb=>AJ (f1 b hb))
        have ho1_b9863_0:=ho1_b9863_0.mv x1 t0 (fun b hb=>AJ (Z6 b hb))
        have j2:=j2.mv x1 t0 (fun b hb=>AJ (au b hb))
        have b1:=b1.mv x1
        have a6:=a6.mv x1
        have a0:=a0.keep t0 (AJ z6)
        have ho1_b9863_1:=ho1_b9863_1.mv x1 t0 (fun b hb=>AJ (g1 b hb))
        have ho1_b9863_3:=ho1_b9863_3.mv x1 t0 (fun b hb=>AJ (g3 b hb))
        have a5:=a5.keep t0 (AJ (Ne.symm z7))
        have d7:=d7.keep t0 (AJ (Ne.symm ab))
        have h4:=h4.keep t0 (AJ (Ne.symm cB))
        have hT:=by exact hT.mvB x1 t0 aS (by decide) (fun x hx=>by exact hx)
        refine AE (AB (AG (AD kR (AC (AM 2 GB rfl (AC (AR U3_ rfl (vI 2) rfl d7 rfl (AC (DC .i64 (2:Int) (2:Int) rfl rfl (AE (AB (AK true rfl rfl (fun _=>AD kR (AC (AM 3 GO rfl (AC (AR U27_ rfl (a2) rfl A1 rfl (AC (AF (vI ((((l[k]!).copy) % 4).toNat:Int)) rfl (AC (EY (E:=Enc.int) (xs:=[.tmp 144]) U27_ s_3 z_3 (by decide) [vI ((((l[k]!).copy) % 4).toNat:Int)] [[vI ((((l[k]!).copy) % 4).toNat:Int)]] [((((l[k]!).copy) % 4).toNat:Int)] rfl rfl rfl (Parts.cons rfl rfl (Parts.nil _ _ _)) oT kt fun qE ku kv x2 n1 cJ=>(?_)))))))))) (fun h=>by cases h)))))))))))))
        have a7:Enc.doing.rd ku (k5++O) b9 (l[k]!):=Enc.mv Enc.doing (x:=l[k]!) a7 x2
        have h2:=h2.mv x2 n1 (by simp)
        have ho1_b9863_0:=ho1_b9863_0.mv x2 n1 (by simp)
        have j2:=j2.mv x2 n1 (by simp)
        have ho1_b9863_3:=ho1_b9863_3.mv x2 n1 (by simp)
        have b1:=b1.mv x2
        have a6:=a6.mv x2
        have a0:=a0.keep n1 (by simp)
        have ho1_b9863_1:=ho1_b9863_1.mv x2 n1 (by simp)
        have A1:=A1.keep n1 (by simp)
        have a5:=a5.keep n1 (by simp)
        have d7:=d7.keep n1 (by simp)
        have h4:=h4.keep n1 (by simp)
        have hT:=by exact hT.mv0 x2 n1 (fun x hx=>by exact hx)
        have:=cJ.len_le
        refine AC (CT (E:=Enc.int) (l:=s.shown) (m:=[((((l[k]!).copy) % 4).toNat:Int)]) U27_ i_3 rfl (by decide) rfl rfl ho1_b9863_3 cJ (fun _ hb=>.inl hb) b4 (by simp;omega) (by simp [maxLen];omega) kv fun n3 kw k6 gj p9 i5 kx H0 H1 W0=>(?_))
        have cK:∀ b,b0.ownBlock=some b→n3.ownBlock≠some b:=fun b hb e=>by rcases p9 with e1|e1 <;> rw [e1] at e <;> first|(cases e;have:=(h2.lt _ hb).2;omega)|(exact absurd e ((fun b hb e=>c6 b e hb) b hb))
        have nY:∀ b,b3.ownBlock=some b→n3.ownBlock≠some b:=fun b hb e=>by rcases p9 with e1|e1 <;> rw [e1] at e <;> first|(cases e;have:=(ho1_b9863_0.lt _ hb).2;omega)|(exact absurd e (nn1_b9863_0_b9863_3 b hb))
        have cL:∀ b,j1.ownBlock=some b→n3.ownBlock≠some b:=fun b hb e=>by rcases p9 with e1|e1 <;> rw [e1] at e <;> first|(cases e;have:=(j2.lt _ hb).2;omega)|(exact absurd e ((fun b hb e=>cI b e hb) b hb))
        have cM:∀ b,a1.ownBlock=some b→n3.ownBlock≠some b:=fun b hb e=>by rcases p9 with e1|e1 <;> rw [e1] at e <;> first|(cases e;have:=(ho1_b9863_1.lt _ hb).2;omega)|(exact absurd e (nn1_b9863_1_b9863_3 b hb))
        have gk:∀ b,n3.ownBlock=some b→b≠b8:=fun b hb=>by rcases p9 with e1|e1 <;> rw [e1] at hb <;> first|(cases hb;have:=a0.lt;omega)|(exact nb1_b9863_3_b9863 b hb)
        have cN:∀ b,n3.ownBlock=some b→b≠c2:=fun b hb=>by rcases p9 with e1|e1 <;> rw [e1] at hb <;> first|(cases hb;have:=A1.lt;omega)|(exact g3 b hb)
        have gl:∀ b,n3.ownBlock=some b→b≠c7:=fun b hb=>by rcases p9 with e1|e1 <;> rw [e1] at hb <;> first|(cases hb;have:=a5.lt;omega)|(exact f5 b hb)
        have nZ:∀ b,n3.ownBlock=some b→b≠c9:=fun b hb=>by rcases p9 with e1|e1 <;> rw [e1] at hb <;> first|(cases hb;have:=d7.lt;omega)|(exact ad b hb)
        have oa:∀ b,n3.ownBlock=some b→b≠f4:=fun b hb=>by rcases p9 with e1|e1 <;> rw [e1] at hb <;> first|(cases hb;have:=h4.lt;omega)|(exact cD b hb)
        have c3:∀ b,b0.ownBlock=some b→b∈k6:=fun b hb=>i5 b (c3 b hb)
        have c8:∀ b,b3.ownBlock=some b→b∈k6:=fun b hb=>i5 b (c8 b hb)
        have ar:∀ b,j1.ownBlock=some b→b∈k6:=fun b hb=>i5 b (ar b hb)
        have b2:∀ b,a1.ownBlock=some b→b∈k6:=fun b hb=>i5 b (b2 b hb)
        have e9:b8∈k6:=i5 b8 (by repeat (assumption))
        have h9:c2∈k6:=i5 c2 (by repeat (assumption))
        have i0:c7∈k6:=i5 c7 (by repeat (assumption))
        have Q8:c9∈k6:=i5 c9 (by repeat (assumption))
        have dL:f4∈k6:=i5 f4 (by repeat (assumption))
        have a7:Enc.doing.rd kw (k6++O) b9 (l[k]!):=Enc.mv Enc.doing (x:=l[k]!) a7 H0
        have h2:=h2.mv H0 H1 (fun b hb=>by simp only [Option.mem_toList];exact (fun b hb e=>c6 b e hb) b hb)
        have j2:=j2.mv H0 H1 (fun b hb=>by simp only [Option.mem_toList];exact (fun b hb e=>cI b e hb) b hb)
        have b1:=b1.mv H0
        have a6:=a6.mv H0
        have a0:=a0.keep H1 (by simp only [Option.mem_toList];exact fun e=>absurd rfl (nb1_b9863_3_b9863 _ e))
        have ho1_b9863_1:=ho1_b9863_1.mv H0 H1 (fun b hb=>by simp only [Option.mem_toList];exact nn1_b9863_1_b9863_3 b hb)
        have A1:=A1.keep H1 (by simp only [Option.mem_toList];exact fun e=>absurd rfl (g3 _ e))
        have a5:=a5.keep H1 (by simp only [Option.mem_toList];exact fun e=>absurd rfl (f5 _ e))
        have hT:=hT.mvO H0 H1 ho1_b9863_3 (fun b hb=>Option.mem_toList.1 hb) (by decide) i5
        refine AC (AM 3 GO rfl (BK (BP (n3) rfl rfl W0.oneCell s_27 (by repeat (assumption)) A1 oT kx fun ky kz B7 H2 gn=>(?_))))
        have a7:Enc.doing.rd ky (k6++O) b9 (l[k]!):=Enc.mv Enc.doing (x:=l[k]!) a7 B7
        have h2:=h2.mv B7 H2 (fun b hb=>AJ (f1 b hb))
        have j2:=j2.mv B7 H2 (fun b hb=>AJ (au b hb))
        have W0:=W0.mv B7 H2 (fun b hb=>AJ (cN b hb))
        have b1:=b1.mv B7
        have a6:=a6.mv B7
        have a0:=a0.keep H2 (AJ z6)
        have ho1_b9863_1:=ho1_b9863_1.mv B7 H2 (fun b hb=>AJ (g1 b hb))
        have a5:=a5.keep H2 (AJ (Ne.symm z7))
        have hT:=by exact hT.mvB B7 H2 aS (by decide) (fun x hx=>by exact hx)
        refine AE (AW (AB (?_)))
        exact ⟨((⟨s.d.set ((((l[k]!).device).toNat) % s.d.length) ((AV (s.d[(((l[k]!).device).toNat) % s.d.length]!) (⟨(((((l[k]!).device).toNat) % s.d.length:Nat):Int),s.d[l[k]!.device.toNat % s.d.length]!.counter+1,(2:Int),((((l[k]!).copy) % 4).toNat:Int),(0:Int),(AI s.d[l[k]!.device.toNat % s.d.length]!.ops 4 0).1[(l[k]!.copy % 4).toNat]!.token+1⟩:DeviceOp) ((((l[k]!).crash) % 3).toNat:Int)).1),s.b,s.done++([(⟨(((((l[k]!).device).toNat) % s.d.length:Nat):Int),s.d[l[k]!.device.toNat % s.d.length]!.counter+1,(2:Int),((((l[k]!).copy) % 4).toNat:Int),(0:Int),(AI s.d[l[k]!.device.toNat % s.d.length]!.ops 4 0).1[(l[k]!.copy % 4).toNat]!.token+1⟩:DeviceOp)]),s.shown++([((((l[k]!).copy) % 4).toNat:Int)])⟩:HouseR)),(L),b0,a1,j1,n3,k6,(by (rw [lv_a2s aS (HP aS aS aS) (by rw [GZ aS];assumption) aS];(rw [GZ aS];rfl))),hT,trivial,⟨_,AL _ ⟨rfl,rfl,rfl,trivial⟩⟩,kz,h2,c3,ho1_b9863_1,b2,j2,ar,W0,gj,b1,a6,a7,gn,aS,a5,aS,a0,aS,f1,e8,d8,g1,f6,nb1_b9863_1_b9863,au,gi,gh,cN,gl,gk,(fun b hb e=>c4 b e hb),cG,cK,c4,cH,cM,(fun b hb e=>cG b e hb),(fun b hb e=>cH b e hb),cL,(fun b hb e=>cK b e hb),(fun b hb e=>cM b e hb),(fun b hb e=>cL b e hb)⟩
       have ob:((l[k]!).crash) % 3≠(2:UInt8):=by simpa using aq
       refine AT (AW (AB (?_)))
       exact ⟨((⟨s.d.set ((((l[k]!).device).toNat) % s.d.length) ((AV (s.d[(((l[k]!).device).toNat) % s.d.length]!) (⟨(((((l[k]!).device).toNat) % s.d.length:Nat):Int),s.d[l[k]!.device.toNat % s.d.length]!.counter+1,(2:Int),((((l[k]!).copy) % 4).toNat:Int),(0:Int),(AI s.d[l[k]!.device.toNat % s.d.length]!.ops 4 0).1[(l[k]!.copy % 4).toNat]!.token+1⟩:DeviceOp) ((((l[k]!).crash) % 3).toNat:Int)).1),s.b,s.done,s.shown⟩:HouseR)),(L),b0,a1,a3,a2,(f4 :: (c9 :: a9)),(by (rw [NQ (.inl aS) (HP aS aS aS) (by rw [GZ aS];assumption) aS];(rw [GZ aS];rfl))),hT,trivial,⟨_,AL _ ⟨rfl,rfl,rfl,trivial⟩⟩,ep,h2,c3,ho1_b9863_1,b2,ho1_b9863_2,b7,ho1_b9863_3,b4,b1,a6,a7,a8,(by (repeat (first|assumption|apply List.mem_cons_of_mem))),a5,(by (repeat (first|assumption|apply List.mem_cons_of_mem))),a0,(by (repeat (first|assumption|apply List.mem_cons_of_mem))),f1,e8,d8,g1,f6,nb1_b9863_1_b9863,g4,f3,nb1_b9863_2_b9863,g3,f5,nb1_b9863_3_b9863,(fun b hb e=>c4 b e hb),(fun b hb e=>c5 b e hb),(fun b hb e=>c6 b e hb),c4,nn1_b9863_1_b9863_2,nn1_b9863_1_b9863_3,c5,nn1_b9863_2_b9863_1,nn1_b9863_2_b9863_3,c6,nn1_b9863_3_b9863_1,nn1_b9863_3_b9863_2⟩
      have oc:((BY ((s.d[(((l[k]!).device).toNat) % s.d.length]!).ops) (4:Int) (0:Int) (((((l[k]!).device).toNat) % s.d.length:Nat):Int) ((((l[k]!).copy) % 4).toNat:Int)).1)=false:=by simpa using cm
      refine AX rfl (AX rfl (AX rfl (AC (BA (vO true) rfl rfl (AE (AB (AK true rfl rfl (fun _=>AG (AD kR (AC (AQ (vs:=[b0,a1,a3,a2]) U29_ rfl CL rfl a8 rfl (BK (AU (vs:=[b0,a1,a3,a2]) (.agg #[b0,a1,a3,a2]) rfl rfl rfl CL (fun u hu=>by simp only [List.mem_cons,List.not_mem_nil,or_false] at hu;rcases hu with rfl|rfl|rfl|rfl <;> first|exact a4.oneCell|exact ho1_b9863_1.oneCell|exact ho1_b9863_2.oneCell|exact ho1_b9863_3.oneCell) (by repeat (assumption)) a5 oT X9 fun qF kA M8 M9 go=>(?_))))))) (fun h=>by cases h))))))))
      have a4:=a4.mv M8 M9 (fun b hb=>AJ (e8 b hb))
      have ho1_b9863_1:=ho1_b9863_1.mv M8 M9 (fun b hb=>AJ (f6 b hb))
      have ho1_b9863_2:=ho1_b9863_2.mv M8 M9 (fun b hb=>AJ (f3 b hb))
      have ho1_b9863_3:=ho1_b9863_3.mv M8 M9 (fun b hb=>AJ (f5 b hb))
      have b1:=b1.mv M8
      have a0:=a0.keep M9 (AJ i8)
      have hT:=by exact hT.mvB M8 M9 aS (by decide) (fun x hx=>by exact hx)
      refine AE (AB (AS (AN (BC (AN (AZ rfl (FN (vs:=[b0,a1,a3,a2]) rfl rfl U29_ rfl CL rfl go rfl) (Exists.intro _ (And.intro rfl (BK (AU (vs:=[b0,a1,a3,a2]) (.agg #[b0,a1,a3,a2]) rfl rfl rfl CL (fun u hu=>by simp only [List.mem_cons,List.not_mem_nil,or_false] at hu;rcases hu with rfl|rfl|rfl|rfl <;> first|exact a4.oneCell|exact ho1_b9863_1.oneCell|exact ho1_b9863_2.oneCell|exact ho1_b9863_3.oneCell) (by repeat (assumption)) a0 oT kA fun qG kB N0 S7 gp=>(?_)))))))))))
      have b1:=b1.mv N0
      have a4:=a4.mv N0 S7 (fun b hb=>AJ (d8 b hb))
      have ho1_b9863_1:=ho1_b9863_1.mv N0 S7 (fun b hb=>AJ (nb1_b9863_1_b9863 b hb))
      have ho1_b9863_2:=ho1_b9863_2.mv N0 S7 (fun b hb=>AJ (nb1_b9863_2_b9863 b hb))
      have ho1_b9863_3:=ho1_b9863_3.mv N0 S7 (fun b hb=>AJ (nb1_b9863_3_b9863 b hb))
      have hT:=by exact hT.mvB N0 S7 aS (by decide) (fun x hx=>by exact hx)
      refine AE (AW (AB (AD kR (AC (AF (vI ((k:Nat):Int)) rfl (AC (CE .i64 ((k:Nat):Int) (1:Int) (((k+1:Nat):Int)) rfl rfl (EP oM oM) (AC (AH (vI ((k+1:Nat):Int)) rfl (AE (AB (?_))))))))))))
      exact ⟨_,oM,(k+1),(s),(L),b0,a1,a3,a2,a9,oM,(by exact GP hI),hT,rfl,⟨_,AL _ ⟨rfl,rfl,(by rfl),rfl,trivial⟩⟩,kB,a4,c3,ho1_b9863_1,b2,ho1_b9863_2,b7,ho1_b9863_3,b4,b1,gp,aS,d8,nb1_b9863_1_b9863,nb1_b9863_2_b9863,nb1_b9863_3_b9863,(fun b hb e=>c4 b e hb),(fun b hb e=>c5 b e hb),(fun b hb e=>c6 b e hb),c4,nn1_b9863_1_b9863_2,nn1_b9863_1_b9863_3,c5,nn1_b9863_2_b9863_1,nn1_b9863_2_b9863_3,c6,nn1_b9863_3_b9863_1,nn1_b9863_3_b9863_2⟩
     have od:(BY ((s.d[(((l[k]!).device).toNat) % s.d.length]!).ops) (4:Int) (0:Int) (((((l[k]!).device).toNat) % s.d.length:Nat):Int) ((((l[k]!).copy) % 4).toNat:Int)).2≠(0:Int):=by simpa using ck
     refine AX rfl (AX rfl (AC (BA (vO true) rfl rfl (AC (AF (vO true) rfl (AX rfl (AX rfl (AX rfl (AC (BA (vO true) rfl rfl (AE (AB (AK true rfl rfl (fun _=>AG (AD kR (AC (AQ (vs:=[b0,a1,a3,a2]) U29_ rfl CL rfl a8 rfl (BK (AU (vs:=[b0,a1,a3,a2]) (.agg #[b0,a1,a3,a2]) rfl rfl rfl CL (fun u hu=>by simp only [List.mem_cons,List.not_mem_nil,or_false] at hu;rcases hu with rfl|rfl|rfl|rfl <;> first|exact a4.oneCell|exact ho1_b9863_1.oneCell|exact ho1_b9863_2.oneCell|exact ho1_b9863_3.oneCell) (by repeat (assumption)) a5 oT X9 fun qH kC N1 N2 gq=>(?_))))))) (fun h=>by cases h))))))))))))))
     have a4:=a4.mv N1 N2 (fun b hb=>AJ (e8 b hb))
     have ho1_b9863_1:=ho1_b9863_1.mv N1 N2 (fun b hb=>AJ (f6 b hb))
     have ho1_b9863_2:=ho1_b9863_2.mv N1 N2 (fun b hb=>AJ (f3 b hb))
     have ho1_b9863_3:=ho1_b9863_3.mv N1 N2 (fun b hb=>AJ (f5 b hb))
     have b1:=b1.mv N1
     have a0:=a0.keep N2 (AJ i8)
     have hT:=by exact hT.mvB N1 N2 aS (by decide) (fun x hx=>by exact hx)
     refine AE (AB (AS (AN (BC (AN (AZ rfl (FN (vs:=[b0,a1,a3,a2]) rfl rfl U29_ rfl CL rfl gq rfl) (Exists.intro _ (And.intro rfl (BK (AU (vs:=[b0,a1,a3,a2]) (.agg #[b0,a1,a3,a2]) rfl rfl rfl CL (fun u hu=>by simp only [List.mem_cons,List.not_mem_nil,or_false] at hu;rcases hu with rfl|rfl|rfl|rfl <;> first|exact a4.oneCell|exact ho1_b9863_1.oneCell|exact ho1_b9863_2.oneCell|exact ho1_b9863_3.oneCell) (by repeat (assumption)) a0 oT kC fun qI kD N3 S8 gr=>(?_)))))))))))
     have b1:=b1.mv N3
     have a4:=a4.mv N3 S8 (fun b hb=>AJ (d8 b hb))
     have ho1_b9863_1:=ho1_b9863_1.mv N3 S8 (fun b hb=>AJ (nb1_b9863_1_b9863 b hb))
     have ho1_b9863_2:=ho1_b9863_2.mv N3 S8 (fun b hb=>AJ (nb1_b9863_2_b9863 b hb))
     have ho1_b9863_3:=ho1_b9863_3.mv N3 S8 (fun b hb=>AJ (nb1_b9863_3_b9863 b hb))
     have hT:=by exact hT.mvB N3 S8 aS (by decide) (fun x hx=>by exact hx)
     refine AE (AW (AB (AD kR (AC (AF (vI ((k:Nat):Int)) rfl (AC (CE .i64 ((k:Nat):Int) (1:Int) (((k+1:Nat):Int)) rfl rfl (EP oM oM) (AC (AH (vI ((k+1:Nat):Int)) rfl (AE (AB (?_))))))))))))
     exact ⟨_,oM,(k+1),(s),(L),b0,a1,a3,a2,a9,oM,(by exact GP hI),hT,rfl,⟨_,AL _ ⟨rfl,rfl,(by rfl),rfl,trivial⟩⟩,kD,a4,c3,ho1_b9863_1,b2,ho1_b9863_2,b7,ho1_b9863_3,b4,b1,gr,aS,d8,nb1_b9863_1_b9863,nb1_b9863_2_b9863,nb1_b9863_3_b9863,(fun b hb e=>c4 b e hb),(fun b hb e=>c5 b e hb),(fun b hb e=>c6 b e hb),c4,nn1_b9863_1_b9863_2,nn1_b9863_1_b9863_3,c5,nn1_b9863_2_b9863_1,nn1_b9863_2_b9863_3,c6,nn1_b9863_3_b9863_1,nn1_b9863_3_b9863_2⟩
    have oe:(AI ((s.d[(((l[k]!).device).toNat) % s.d.length]!).ops) (4:Int) (0:Int)).2≠(0:Int):=by simpa using cj
    refine AX rfl (AX rfl (AC (BA (vO true) rfl rfl (AC (AF (vO true) rfl (AX rfl (AX rfl (AC (BA (vO true) rfl rfl (AC (AF (vO true) rfl (AX rfl (AX rfl (AX rfl (AC (BA (vO true) rfl rfl (AE (AB (AK true rfl rfl (fun _=>AG (AD kR (AC (AQ (vs:=[b0,a1,a3,a2]) U29_ rfl CL rfl a8 rfl (BK (AU (vs:=[b0,a1,a3,a2]) (.agg #[b0,a1,a3,a2]) rfl rfl rfl CL (fun u hu=>by simp only [List.mem_cons,List.not_mem_nil,or_false] at hu;rcases hu with rfl|rfl|rfl|rfl <;> first|exact a4.oneCell|exact ho1_b9863_1.oneCell|exact ho1_b9863_2.oneCell|exact ho1_b9863_3.oneCell) (by repeat (assumption)) a5 oT X9 fun qJ kE N4 N5 gs=>(?_))))))) (fun h=>by cases h))))))))))))))))))))
    have a4:=a4.mv N4 N5 (fun b hb=>AJ (e8 b hb))
    have ho1_b9863_1:=ho1_b9863_1.mv N4 N5 (fun b hb=>AJ (f6 b hb))
    have ho1_b9863_2:=ho1_b9863_2.mv N4 N5 (fun b hb=>AJ (f3 b hb))
    have ho1_b9863_3:=ho1_b9863_3.mv N4 N5 (fun b hb=>AJ (f5 b hb))
    have b1:=b1.mv N4
    have a0:=a0.keep N5 (AJ i8)
    have hT:=by exact hT.mvB N4 N5 aS (by decide) (fun x hx=>by exact hx)
    refine AE (AB (AS (AN (BC (AN (AZ rfl (FN (vs:=[b0,a1,a3,a2]) rfl rfl U29_ rfl CL rfl gs rfl) (Exists.intro _ (And.intro rfl (BK (AU (vs:=[b0,a1,a3,a2]) (.agg #[b0,a1,a3,a2]) rfl rfl rfl CL (fun u hu=>by simp only [List.mem_cons,List.not_mem_nil,or_false] at hu;rcases hu with rfl|rfl|rfl|rfl <;> first|exact a4.oneCell|exact ho1_b9863_1.oneCell|exact ho1_b9863_2.oneCell|exact ho1_b9863_3.oneCell) (by repeat (assumption)) a0 oT kE fun qK kF N6 S9 gt=>(?_)))))))))))
    have b1:=b1.mv N6
    have a4:=a4.mv N6 S9 (fun b hb=>AJ (d8 b hb))
    have ho1_b9863_1:=ho1_b9863_1.mv N6 S9 (fun b hb=>AJ (nb1_b9863_1_b9863 b hb))
    have ho1_b9863_2:=ho1_b9863_2.mv N6 S9 (fun b hb=>AJ (nb1_b9863_2_b9863 b hb))
    have ho1_b9863_3:=ho1_b9863_3.mv N6 S9 (fun b hb=>AJ (nb1_b9863_3_b9863 b hb))
    have hT:=by exact hT.mvB N6 S9 aS (by decide) (fun x hx=>by exact hx)
    refine AE (AW (AB (AD kR (AC (AF (vI ((k:Nat):Int)) rfl (AC (CE .i64 ((k:Nat):Int) (1:Int) (((k+1:Nat):Int)) rfl rfl (EP oM oM) (AC (AH (vI ((k+1:Nat):Int)) rfl (AE (AB (?_))))))))))))
    exact ⟨_,oM,(k+1),(s),(L),b0,a1,a3,a2,a9,oM,(by exact GP hI),hT,rfl,⟨_,AL _ ⟨rfl,rfl,(by rfl),rfl,trivial⟩⟩,kF,a4,c3,ho1_b9863_1,b2,ho1_b9863_2,b7,ho1_b9863_3,b4,b1,gt,aS,d8,nb1_b9863_1_b9863,nb1_b9863_2_b9863,nb1_b9863_3_b9863,(fun b hb e=>c4 b e hb),(fun b hb e=>c5 b e hb),(fun b hb e=>c6 b e hb),c4,nn1_b9863_1_b9863_2,nn1_b9863_1_b9863_3,c5,nn1_b9863_2_b9863_1,nn1_b9863_2_b9863_3,c6,nn1_b9863_3_b9863_1,nn1_b9863_3_b9863_2⟩
   have og:((l[k]!).kind) % 6≠(0:UInt8):=by simpa using L7
   refine AD kR (AC (EG (((l[k]!).kind) % 6) (1:UInt8) rfl rfl (AC (AH (vO ((((l[k]!).kind) % 6) == (1:UInt8))) rfl (AE (AB (AK ((((l[k]!).kind) % 6) == (1:UInt8)) rfl rfl (fun W1=>?_) (fun W1=>?_))))))))
   ·have oh:((l[k]!).kind) % 6=(1:UInt8):=by simpa using W1
    refine AG (AD kR (AC (AF (b0) rfl (AC (AF (vI (((((l[k]!).device).toNat) % s.d.length:Nat):Int)) rfl (AC (BZ U24_ BG .i64 (((((l[k]!).device).toNat) % s.d.length:Nat):Int) ((((l[k]!).device).toNat) % s.d.length) rfl rfl rfl a4.rdB oM fun qL gu=>(AC (AP (E':=(Enc.both (Enc.slice Enc.devop) w1 (a9++O))) 2 EQ ((s.d[(((l[k]!).device).toNat) % s.d.length]!).ops) rfl gu (fun _ _ _ h=>⟨BL h.1,BL h.2⟩) fun qM gv=>(AC (ER U26_ rfl rfl gv fun eq cO=>(?_))))))))))))
    have:=cO.len_le
    refine AC (BI (vs:=[eq,vI 4,vI 0]) IU (KQ (O:=a9++O) eq ((s.d[(((l[k]!).device).toNat) % s.d.length]!).ops) (4:Int) (0:Int) w1 cO r2.lt) rfl r2 fun qN bt es t1 x3 kG=>(?_))
    obtain ⟨T0,rfl,A2⟩:=kG
    have:=A2.len_le
    have a7:Enc.doing.rd bt (a9++O) b9 (l[k]!):=Enc.mv Enc.doing (x:=l[k]!) a7 t1
    have b6:=b6.mv t1
    have a4:=a4.mv t1 x3 (by simp)
    have ho1_b9863_0:=ho1_b9863_0.mv t1 x3 (by simp)
    have b1:=b1.mv t1
    have a6:=a6.mv t1
    have a0:=a0.keep x3 (by simp)
    have ho1_b9863_1:=ho1_b9863_1.mv t1 x3 (by simp)
    have ho1_b9863_2:=ho1_b9863_2.mv t1 x3 (by simp)
    have ho1_b9863_3:=ho1_b9863_3.mv t1 x3 (by simp)
    have a8:=a8.keep x3 (by simp)
    have a5:=a5.keep x3 (by simp)
    have hT:=by exact hT.mv0 t1 x3 (fun x hx=>by exact hx)
    refine AC (AF (vT #[T0,vI ((AI ((s.d[(((l[k]!).device).toNat) % s.d.length]!).ops) (4:Int) (0:Int)).2)]) rfl (AC (BD (T0) rfl rfl (AC (BD (vI ((AI ((s.d[(((l[k]!).device).toNat) % s.d.length]!).ops) (4:Int) (0:Int)).2)) rfl rfl (AC (AH (T0) rfl (AC (AH (vI ((AI ((s.d[(((l[k]!).device).toNat) % s.d.length]!).ops) (4:Int) (0:Int)).2)) rfl (AE (AB (AG (AD kR (AC (AF (b0) rfl (AC (AF (vI (((((l[k]!).device).toNat) % s.d.length:Nat):Int)) rfl (AC (BZ U24_ BG .i64 (((((l[k]!).device).toNat) % s.d.length:Nat):Int) ((((l[k]!).device).toNat) % s.d.length) rfl rfl rfl a4.rdB oM fun qO gw=>(AC (AP (E':=(Enc.both (Enc.slice Enc.devop) bt (a9++O))) 2 EQ ((s.d[(((l[k]!).device).toNat) % s.d.length]!).ops) rfl gw (fun _ _ _ h=>⟨BL h.1,BL h.2⟩) fun qP gx=>(AC (ER U26_ rfl rfl gx fun et cP=>(?_))))))))))))))))))))))))
    have:=cP.len_le
    refine AC (AF (vI (((((l[k]!).device).toNat) % s.d.length:Nat):Int)) rfl (AC (AF (vI ((((l[k]!).copy) % 4).toNat:Int)) rfl (AC (BI (vs:=[et,vI 4,vI 0,vI (((((l[k]!).device).toNat) % s.d.length:Nat):Int),vI ((((l[k]!).copy) % 4).toNat:Int)]) LS (c_may (O:=a9++O) et ((s.d[(((l[k]!).device).toNat) % s.d.length]!).ops) (4:Int) (0:Int) (((((l[k]!).device).toNat) % s.d.length:Nat):Int) ((((l[k]!).copy) % 4).toNat:Int) bt cP es.lt) rfl es fun qQ eu Y0 n5 x4 kH=>(?_))))))
    obtain rfl:=kH
    have a7:Enc.doing.rd eu (a9++O) b9 (l[k]!):=Enc.mv Enc.doing (x:=l[k]!) a7 n5
    have b6:=b6.mv n5
    have a4:=a4.mv n5 x4 (by simp)
    have A2:=A2.mv n5
    have ho1_b9863_0:=ho1_b9863_0.mv n5 x4 (by simp)
    have b1:=b1.mv n5
    have a6:=a6.mv n5
    have a0:=a0.keep x4 (by simp)
    have ho1_b9863_1:=ho1_b9863_1.mv n5 x4 (by simp)
    have ho1_b9863_2:=ho1_b9863_2.mv n5 x4 (by simp)
    have ho1_b9863_3:=ho1_b9863_3.mv n5 x4 (by simp)
    have a8:=a8.keep x4 (by simp)
    have a5:=a5.keep x4 (by simp)
    have hT:=by exact hT.mv0 n5 x4 (fun x hx=>by exact hx)
    refine AC (AF (vT #[vO ((BY ((s.d[(((l[k]!).device).toNat) % s.d.length]!).ops) (4:Int) (0:Int) (((((l[k]!).device).toNat) % s.d.length:Nat):Int) ((((l[k]!).copy) % 4).toNat:Int)).1),vI ((BY ((s.d[(((l[k]!).device).toNat) % s.d.length]!).ops) (4:Int) (0:Int) (((((l[k]!).device).toNat) % s.d.length:Nat):Int) ((((l[k]!).copy) % 4).toNat:Int)).2)]) rfl (AC (BD (vO ((BY ((s.d[(((l[k]!).device).toNat) % s.d.length]!).ops) (4:Int) (0:Int) (((((l[k]!).device).toNat) % s.d.length:Nat):Int) ((((l[k]!).copy) % 4).toNat:Int)).1)) rfl rfl (AC (BD (vI ((BY ((s.d[(((l[k]!).device).toNat) % s.d.length]!).ops) (4:Int) (0:Int) (((((l[k]!).device).toNat) % s.d.length:Nat):Int) ((((l[k]!).copy) % 4).toNat:Int)).2)) rfl rfl (AC (AH (vO ((BY ((s.d[(((l[k]!).device).toNat) % s.d.length]!).ops) (4:Int) (0:Int) (((((l[k]!).device).toNat) % s.d.length:Nat):Int) ((((l[k]!).copy) % 4).toNat:Int)).1)) rfl (AC (AH (vI ((BY ((s.d[(((l[k]!).device).toNat) % s.d.length]!).ops) (4:Int) (0:Int) (((((l[k]!).device).toNat) % s.d.length:Nat):Int) ((((l[k]!).copy) % 4).toNat:Int)).2)) rfl (AE (AB (AG (AG (AD kR (AC (AF (vI ((AI ((s.d[(((l[k]!).device).toNat) % s.d.length]!).ops) (4:Int) (0:Int)).2)) rfl (AC (DX .i64 ((AI ((s.d[(((l[k]!).device).toNat) % s.d.length]!).ops) (4:Int) (0:Int)).2) (0:Int) rfl rfl (AC (AF (vO (((AI ((s.d[(((l[k]!).device).toNat) % s.d.length]!).ops) (4:Int) (0:Int)).2) != (0:Int))) rfl (?_)))))))))))))))))))))
    cases cQ:(((AI ((s.d[(((l[k]!).device).toNat) % s.d.length]!).ops) (4:Int) (0:Int)).2) != (0:Int))
    ·have oi:(AI ((s.d[(((l[k]!).device).toNat) % s.d.length]!).ops) (4:Int) (0:Int)).2=(0:Int):=by simpa using cQ
     refine BH rfl (AF (vI ((BY ((s.d[(((l[k]!).device).toNat) % s.d.length]!).ops) (4:Int) (0:Int) (((((l[k]!).device).toNat) % s.d.length:Nat):Int) ((((l[k]!).copy) % 4).toNat:Int)).2)) rfl (BH rfl (DX .i64 ((BY ((s.d[(((l[k]!).device).toNat) % s.d.length]!).ops) (4:Int) (0:Int) (((((l[k]!).device).toNat) % s.d.length:Nat):Int) ((((l[k]!).copy) % 4).toNat:Int)).2) (0:Int) rfl rfl (AC (BM (vO (((BY ((s.d[(((l[k]!).device).toNat) % s.d.length]!).ops) (4:Int) (0:Int) (((((l[k]!).device).toNat) % s.d.length:Nat):Int) ((((l[k]!).copy) % 4).toNat:Int)).2) != (0:Int))) rfl rfl (AC (AF (vO (((BY ((s.d[(((l[k]!).device).toNat) % s.d.length]!).ops) (4:Int) (0:Int) (((((l[k]!).device).toNat) % s.d.length:Nat):Int) ((((l[k]!).copy) % 4).toNat:Int)).2) != (0:Int))) rfl (?_))))))))
     cases cR:(((BY ((s.d[(((l[k]!).device).toNat) % s.d.length]!).ops) (4:Int) (0:Int) (((((l[k]!).device).toNat) % s.d.length:Nat):Int) ((((l[k]!).copy) % 4).toNat:Int)).2) != (0:Int))
     ·have oj:(BY ((s.d[(((l[k]!).device).toNat) % s.d.length]!).ops) (4:Int) (0:Int) (((((l[k]!).device).toNat) % s.d.length:Nat):Int) ((((l[k]!).copy) % 4).toNat:Int)).2=(0:Int):=by simpa using cR
      refine BH rfl (AF (vO ((BY ((s.d[(((l[k]!).device).toNat) % s.d.length]!).ops) (4:Int) (0:Int) (((((l[k]!).device).toNat) % s.d.length:Nat):Int) ((((l[k]!).copy) % 4).toNat:Int)).1)) rfl (BH rfl (EI ((BY ((s.d[(((l[k]!).device).toNat) % s.d.length]!).ops) (4:Int) (0:Int) (((((l[k]!).device).toNat) % s.d.length:Nat):Int) ((((l[k]!).copy) % 4).toNat:Int)).1) rfl (AC (BM (vO (!((BY ((s.d[(((l[k]!).device).toNat) % s.d.length]!).ops) (4:Int) (0:Int) (((((l[k]!).device).toNat) % s.d.length:Nat):Int) ((((l[k]!).copy) % 4).toNat:Int)).1))) rfl rfl (AC (AF (vO (!((BY ((s.d[(((l[k]!).device).toNat) % s.d.length]!).ops) (4:Int) (0:Int) (((((l[k]!).device).toNat) % s.d.length:Nat):Int) ((((l[k]!).copy) % 4).toNat:Int)).1))) rfl (?_))))))))
      cases cS:(!((BY ((s.d[(((l[k]!).device).toNat) % s.d.length]!).ops) (4:Int) (0:Int) (((((l[k]!).device).toNat) % s.d.length:Nat):Int) ((((l[k]!).copy) % 4).toNat:Int)).1))
      ·have ok:((BY ((s.d[(((l[k]!).device).toNat) % s.d.length]!).ops) (4:Int) (0:Int) (((((l[k]!).device).toNat) % s.d.length:Nat):Int) ((((l[k]!).copy) % 4).toNat:Int)).1)=true:=by simpa using cS
       refine BH rfl (AF (T0) rfl (BH rfl (DS U43_ rfl A2 (BH rfl (DX .i64 (((AI ((s.d[(((l[k]!).device).toNat) % s.d.length]!).ops) (4:Int) (0:Int)).1).length:Int) (4:Int) rfl rfl (AC (BM (vO ((((AI ((s.d[(((l[k]!).device).toNat) % s.d.length]!).ops) (4:Int) (0:Int)).1).length:Int) != (4:Int))) rfl rfl (AE (AB (?_))))))))))
       have gy:((((AI ((s.d[(((l[k]!).device).toNat) % s.d.length]!).ops) (4:Int) (0:Int)).1).length:Int) != (4:Int))=false:=(by rw [FB aS];rfl)
       rw [gy]
       refine AK false rfl rfl (fun h=>by cases h) (fun _=>AT (AB (AG (ET [] [] [[(0,1),(1,1),(2,1),(3,1),(4,1),(5,1),(6,4),(7,1),(8,1),(9,1),(10,1),(11,1),(12,1),(13,4),(14,1),(15,2),(16,0)]] (by intro c F d v w hd;simp only [FQ,EZ];exact GW c F d v w hd) kR kR kR fun ev n6=>?_))))
       have kJ:=Y0.call n6
       have n7:Mv a9 eu a9 ev:=Mv.of_keep n6
       have a7:Enc.doing.rd ev (a9++O) b9 (l[k]!):=Enc.mv Enc.doing (x:=l[k]!) a7 n7
       have b6:=b6.mv n7
       have a4:=a4.mv n7 n6 (by simp)
       have A2:=A2.mv n7
       have ho1_b9863_0:=ho1_b9863_0.mv n7 n6 (by simp)
       have b1:=b1.mv n7
       have a6:=a6.mv n7
       have a0:=a0.keep n6 (by simp)
       have ho1_b9863_1:=ho1_b9863_1.mv n7 n6 (by simp)
       have ho1_b9863_2:=ho1_b9863_2.mv n7 n6 (by simp)
       have ho1_b9863_3:=ho1_b9863_3.mv n7 n6 (by simp)
       have a8:=a8.keep n6 (by simp)
       have a5:=a5.keep n6 (by simp)
       have hT:=by exact hT.mv0 n7 n6 (fun x hx=>by exact hx)
       refine ⟨?_,trivial⟩
       refine AO (AF (vI (((((l[k]!).device).toNat) % s.d.length:Nat):Int)) rfl (CD (AO (AF (b0) rfl (CD (AO (AF (vI (((((l[k]!).device).toNat) % s.d.length:Nat):Int)) rfl (CD (AO (BZ U24_ BG .i64 (((((l[k]!).device).toNat) % s.d.length:Nat):Int) ((((l[k]!).device).toNat) % s.d.length) rfl rfl rfl a4.rdB oM fun qR gz=>(CD (AO (AP (E':=Enc.int) 1 IG ((s.d[(((l[k]!).device).toNat) % s.d.length]!).counter) rfl gz (fun _ _ _ h=>DQ h.1) fun qS gA=>(CD (AO (BJ U3_ rfl rfl gA (CD (DA rfl (fun w4_ k4_=>CE .i64 ((s.d[(((l[k]!).device).toNat) % s.d.length]!).counter) (1:Int) (s.d[l[k]!.device.toNat % s.d.length]!.counter+1) rfl rfl (EP oM rfl) (⟨rfl,rfl⟩)) (AO (AF (vI ((((l[k]!).copy) % 4).toNat:Int)) rfl (CD (AO (AF (T0) rfl (CD (AO (AF (vI ((((l[k]!).copy) % 4).toNat:Int)) rfl (CD (AO (BZ U43_ LI .i64 ((((l[k]!).copy) % 4).toNat:Int) ((((l[k]!).copy) % 4).toNat) rfl rfl oM A2 (by rw [FB aS];show (l[k]!.copy % 4).toNat<4;omega) fun qT gB=>(CD (AO (AP 2 MX ((((AI ((s.d[(((l[k]!).device).toNat) % s.d.length]!).ops) (4:Int) (0:Int)).1)[(((l[k]!).copy) % 4).toNat]!).token) rfl gB (fun _ _ _ h=>GN h) fun qU gC=>(CD (AO (BJ U3_ rfl rfl gC (CD (DA rfl (fun w4_ k4_=>CE .i64 ((((AI ((s.d[(((l[k]!).device).toNat) % s.d.length]!).ops) (4:Int) (0:Int)).1)[(((l[k]!).copy) % 4).toNat]!).token) (1:Int) ((AI s.d[l[k]!.device.toNat % s.d.length]!.ops 4 0).1[(l[k]!.copy % 4).toNat]!.token+1) rfl rfl (EP (by have:=nx_tok (l:=s.d[l[k]!.device.toNat % s.d.length]!.ops) (copies:=4) (first:=0) (k:=(l[k]!.copy % 4).toNat) aS (by show (l[k]!.copy % 4).toNat<4;omega);omega) rfl) (⟨rfl,rfl⟩)) (AO (CV (l:=[(0, .tmp 87),(1, .tmp 93),(2, .const (vI 2)),(3, .tmp 94),(5, .tmp 100)]) pl_40 HC rfl [(0,vI (((((l[k]!).device).toNat) % s.d.length:Nat):Int),[vI (((((l[k]!).device).toNat) % s.d.length:Nat):Int)]),(1,vI (s.d[l[k]!.device.toNat % s.d.length]!.counter+1),[vI (s.d[l[k]!.device.toNat % s.d.length]!.counter+1)]),(2,vI 2,[vI 2]),(3,vI ((((l[k]!).copy) % 4).toNat:Int),[vI ((((l[k]!).copy) % 4).toNat:Int)]),(5,vI ((AI s.d[l[k]!.device.toNat % s.d.length]!.ops 4 0).1[(l[k]!.copy % 4).toNat]!.token+1),[vI ((AI s.d[l[k]!.device.toNat % s.d.length]!.ops 4 0).1[(l[k]!.copy % 4).toNat]!.token+1)])] [vI (((((l[k]!).device).toNat) % s.d.length:Nat):Int),vI (s.d[l[k]!.device.toNat % s.d.length]!.counter+1),vI 2,vI ((((l[k]!).copy) % 4).toNat:Int),vI 0,vI ((AI s.d[l[k]!.device.toNat % s.d.length]!.ops 4 0).1[(l[k]!.copy % 4).toNat]!.token+1)] rfl ⟨_,rfl,rfl,oT,⟨_,rfl,rfl,oT,⟨_,rfl,rfl,oT,⟨_,rfl,rfl,oT,⟨_,rfl,rfl,oT,rfl⟩⟩⟩⟩⟩ (CD (DU (CC [vI 0,vI 0,vI 0,vI 0,vI 0,vI 0] HC rfl kJ fun d2 kK kL kM t2 t3 gD=>(?_)))))))))))))))))))))))))))))))))))))))))))
       have av:DB b8 d2:=by show b8≠d2;have:=a0.lt;omega
       have N7:DB c2 d2:=by show c2≠d2;have:=a8.lt;omega
       have aw:DB c7 d2:=by show c7≠d2;have:=a5.lt;omega
       have N8:∀ b,b0.ownBlock=some b→b≠d2:=fun b hb=>by have:=(a4.lt b hb).2;omega
       have ax:∀ b,b3.ownBlock=some b→b≠d2:=fun b hb=>by have:=(ho1_b9863_0.lt b hb).2;omega
       have ay:∀ b,a1.ownBlock=some b→b≠d2:=fun b hb=>by have:=(ho1_b9863_1.lt b hb).2;omega
       have A3:∀ b,a3.ownBlock=some b→b≠d2:=fun b hb=>by have:=(ho1_b9863_2.lt b hb).2;omega
       have az:∀ b,a2.ownBlock=some b→b≠d2:=fun b hb=>by have:=(ho1_b9863_3.lt b hb).2;omega
       have c3:∀ b,b0.ownBlock=some b→b∈(d2 :: a9):=fun b hb=>List.mem_cons_of_mem _ (c3 b hb)
       have c8:∀ b,b3.ownBlock=some b→b∈(d2 :: a9):=fun b hb=>List.mem_cons_of_mem _ (c8 b hb)
       have b2:∀ b,a1.ownBlock=some b→b∈(d2 :: a9):=fun b hb=>List.mem_cons_of_mem _ (b2 b hb)
       have b7:∀ b,a3.ownBlock=some b→b∈(d2 :: a9):=fun b hb=>List.mem_cons_of_mem _ (b7 b hb)
       have b4:∀ b,a2.ownBlock=some b→b∈(d2 :: a9):=fun b hb=>List.mem_cons_of_mem _ (b4 b hb)
       clear kL
       have a7:Enc.doing.rd kK ((d2 :: a9)++O) b9 (l[k]!):=Enc.mv Enc.doing (x:=l[k]!) a7 t2
       have b6:=b6.mv t2
       have a4:=a4.mv t2 t3 (by simp)
       have ho1_b9863_0:=ho1_b9863_0.mv t2 t3 (by simp)
       have b1:=b1.mv t2
       have a6:=a6.mv t2
       have a0:=a0.keep t3 (by simp)
       have ho1_b9863_1:=ho1_b9863_1.mv t2 t3 (by simp)
       have ho1_b9863_2:=ho1_b9863_2.mv t2 t3 (by simp)
       have ho1_b9863_3:=ho1_b9863_3.mv t2 t3 (by simp)
       have a8:=a8.keep t3 (by simp)
       have a5:=a5.keep t3 (by simp)
       have hT:=by exact hT.mv0 t2 t3 (fun x hx=>by exact List.mem_cons_of_mem _ hx)
       refine ⟨t3,?_⟩
       refine FO (AU (vs:=[vI (((((l[k]!).device).toNat) % s.d.length:Nat):Int),vI (s.d[l[k]!.device.toNat % s.d.length]!.counter+1),vI 2,vI ((((l[k]!).copy) % 4).toNat:Int),vI 0,vI ((AI s.d[l[k]!.device.toNat % s.d.length]!.ops 4 0).1[(l[k]!.copy % 4).toNat]!.token+1)]) (.agg #[vI (((((l[k]!).device).toNat) % s.d.length:Nat):Int),vI (s.d[l[k]!.device.toNat % s.d.length]!.counter+1),vI 2,vI ((((l[k]!).copy) % 4).toNat:Int),vI 0,vI ((AI s.d[l[k]!.device.toNat % s.d.length]!.ops 4 0).1[(l[k]!.copy % 4).toNat]!.token+1)]) rfl rfl rfl BX (fun u hu=>by simp only [List.mem_cons,List.not_mem_nil,or_false] at hu;rcases hu with rfl|rfl|rfl|rfl|rfl|rfl <;> rfl) (by repeat (constructor)) gD oT kM fun kN kO t4 x5 gE=>(?_))
       have a7:Enc.doing.rd kN ((d2 :: a9)++O) b9 (l[k]!):=Enc.mv Enc.doing (x:=l[k]!) a7 t4
       have b6:=b6.mv t4
       have a4:=a4.mv t4 x5 (fun b hb=>AJ (N8 b hb))
       have ho1_b9863_0:=ho1_b9863_0.mv t4 x5 (fun b hb=>AJ (ax b hb))
       have b1:=b1.mv t4
       have a6:=a6.mv t4
       have a0:=a0.keep x5 (AJ av)
       have ho1_b9863_1:=ho1_b9863_1.mv t4 x5 (fun b hb=>AJ (ay b hb))
       have ho1_b9863_2:=ho1_b9863_2.mv t4 x5 (fun b hb=>AJ (A3 b hb))
       have ho1_b9863_3:=ho1_b9863_3.mv t4 x5 (fun b hb=>AJ (az b hb))
       have a8:=a8.keep x5 (AJ N7)
       have a5:=a5.keep x5 (AJ aw)
       have hT:=by exact hT.mvB t4 x5 aS (by decide) (fun x hx=>by exact hx)
       refine EW (AB (AG (AG (AD kR (AC (AP 0 MV ((l[k]!).kind) rfl b6 (fun _ _ _ h=>FZ h) fun qV gF=>(AC (CU U5_ rfl rfl gF (AC (DY ((l[k]!).kind) (6:UInt8) (by decide) rfl rfl (AC (EG (((l[k]!).kind) % 6) (1:UInt8) rfl rfl (AE (AB (?_)))))))))))))))
       have gG:((((l[k]!).kind) % 6) == (1:UInt8))=true:=(by simpa using W1)
       rw [gG]
       refine AK true rfl rfl (fun _=>AD kR (AC (AF (vI (((((l[k]!).other).toNat) % s.d.length:Nat):Int)) rfl (AC (AM 2 GB rfl (BK (BP (vI 1) rfl rfl rfl s_3 (by repeat (constructor)) gE oT kO fun kP kQ t5 x6 gH=>(?_)))))))) (fun h=>by cases h)
       have a7:Enc.doing.rd kP ((d2 :: a9)++O) b9 (l[k]!):=Enc.mv Enc.doing (x:=l[k]!) a7 t5
       have b6:=b6.mv t5
       have a4:=a4.mv t5 x6 (fun b hb=>AJ (N8 b hb))
       have ho1_b9863_0:=ho1_b9863_0.mv t5 x6 (fun b hb=>AJ (ax b hb))
       have b1:=b1.mv t5
       have a6:=a6.mv t5
       have a0:=a0.keep x6 (AJ av)
       have ho1_b9863_1:=ho1_b9863_1.mv t5 x6 (fun b hb=>AJ (ay b hb))
       have ho1_b9863_2:=ho1_b9863_2.mv t5 x6 (fun b hb=>AJ (A3 b hb))
       have ho1_b9863_3:=ho1_b9863_3.mv t5 x6 (fun b hb=>AJ (az b hb))
       have a8:=a8.keep x6 (AJ N7)
       have a5:=a5.keep x6 (AJ aw)
       have hT:=by exact hT.mvB t5 x6 aS (by decide) (fun x hx=>by exact hx)
       refine AC (AM 4 LN rfl (BK (BP (vI (((((l[k]!).other).toNat) % s.d.length:Nat):Int)) rfl rfl rfl s_3 (by repeat (constructor)) gH oT kQ fun ew kS t6 x7 e2=>(?_))))
       have a7:Enc.doing.rd ew ((d2 :: a9)++O) b9 (l[k]!):=Enc.mv Enc.doing (x:=l[k]!) a7 t6
       have b6:=b6.mv t6
       have a4:=a4.mv t6 x7 (fun b hb=>AJ (N8 b hb))
       have ho1_b9863_0:=ho1_b9863_0.mv t6 x7 (fun b hb=>AJ (ax b hb))
       have b1:=b1.mv t6
       have a6:=a6.mv t6
       have a0:=a0.keep x7 (AJ av)
       have ho1_b9863_1:=ho1_b9863_1.mv t6 x7 (fun b hb=>AJ (ay b hb))
       have ho1_b9863_2:=ho1_b9863_2.mv t6 x7 (fun b hb=>AJ (A3 b hb))
       have ho1_b9863_3:=ho1_b9863_3.mv t6 x7 (fun b hb=>AJ (az b hb))
       have a8:=a8.keep x7 (AJ N7)
       have a5:=a5.keep x7 (AJ aw)
       have hT:=by exact hT.mvB t6 x7 aS (by decide) (fun x hx=>by exact hx)
       refine AE (AB (AG (ET [] [9,13] [[(0,1),(1,1),(2,1),(3,1),(4,1),(5,1),(6,1),(7,4),(8,4),(9,2),(10,1),(11,1),(12,1),(13,2),(14,0),(15,1)],[(0,1),(1,1),(2,1),(3,1),(4,1),(5,1),(6,1),(7,4),(8,4),(13,2),(9,2),(10,1),(11,1),(12,1),(14,0),(15,1)]] (by intro c F d v w hd;simp only [FQ,EZ];exact GW c F d v w hd) kR kR kR fun bu k7=>?_)))
       have bv:=kS.call k7
       have t7:Mv (d2 :: a9) ew (d2 :: a9) bu:=Mv.of_keep k7
       have a7:Enc.doing.rd bu ((d2 :: a9)++O) b9 (l[k]!):=Enc.mv Enc.doing (x:=l[k]!) a7 t7
       have b6:=b6.mv t7
       have a4:=a4.mv t7 k7 (by simp)
       have ho1_b9863_0:=ho1_b9863_0.mv t7 k7 (by simp)
       have b1:=b1.mv t7
       have a6:=a6.mv t7
       have a0:=a0.keep k7 (by simp)
       have ho1_b9863_1:=ho1_b9863_1.mv t7 k7 (by simp)
       have ho1_b9863_2:=ho1_b9863_2.mv t7 k7 (by simp)
       have ho1_b9863_3:=ho1_b9863_3.mv t7 k7 (by simp)
       have a8:=a8.keep k7 (by simp)
       have a5:=a5.keep k7 (by simp)
       have e2:=e2.keep k7 (by simp)
       have hT:=by exact hT.mv0 t7 k7 (fun x hx=>by exact hx)
       refine ⟨?_,?_,trivial⟩
       ·refine AO (AF (b0) rfl (CD (AO (AF (vI (((((l[k]!).device).toNat) % s.d.length:Nat):Int)) rfl (CD (AO (BZ U24_ BG .i64 (((((l[k]!).device).toNat) % s.d.length:Nat):Int) ((((l[k]!).device).toNat) % s.d.length) rfl rfl rfl a4.rdB oM fun qW gI=>(CD (AO (BT U31_ rfl BG rfl gI fun cU aA=>(?_)))))))))))
        have aA:=aA.2
        refine CD (AO (AQ (vs:=[vI (((((l[k]!).device).toNat) % s.d.length:Nat):Int),vI (s.d[l[k]!.device.toNat % s.d.length]!.counter+1),vI 1,vI ((((l[k]!).copy) % 4).toNat:Int),vI (((((l[k]!).other).toNat) % s.d.length:Nat):Int),vI ((AI s.d[l[k]!.device.toNat % s.d.length]!.ops 4 0).1[(l[k]!.copy % 4).toNat]!.token+1)]) U40_ rfl BX rfl e2 rfl (CD (AO (AP 4 GE ((l[k]!).crash) rfl b6 (fun _ _ _ h=>CM h) fun qX gJ=>(CD (AO (CU U5_ rfl rfl gJ (CD (DA rfl (fun w4_ k4_=>DY ((l[k]!).crash) (3:UInt8) (by decide) rfl rfl (⟨rfl,rfl⟩)) (DA rfl (fun w4_ k4_=>FF .u8 .i64 U5_ U3_ ((((l[k]!).crash) % 3).toNat:Int) ((((l[k]!).crash) % 3).toNat:Int) rfl (by have:=(((l[k]!).crash) % 3).toNat_lt;exact EP oM rfl) (⟨rfl,rfl⟩)) (DU (BI (vs:=[vA cU.toArray,vA #[vI (((((l[k]!).device).toNat) % s.d.length:Nat):Int),vI (s.d[l[k]!.device.toNat % s.d.length]!.counter+1),vI 1,vI ((((l[k]!).copy) % 4).toNat:Int),vI (((((l[k]!).other).toNat) % s.d.length:Nat):Int),vI ((AI s.d[l[k]!.device.toNat % s.d.length]!.ops 4 0).1[(l[k]!.copy % 4).toNat]!.token+1)],vI ((((l[k]!).crash) % 3).toNat:Int)]) HK (NP (O:=(d2 :: a9)++O) cU (s.d[(((l[k]!).device).toNat) % s.d.length]!) [vI (((((l[k]!).device).toNat) % s.d.length:Nat):Int),vI (s.d[l[k]!.device.toNat % s.d.length]!.counter+1),vI 1,vI ((((l[k]!).copy) % 4).toNat:Int),vI (((((l[k]!).other).toNat) % s.d.length:Nat):Int),vI ((AI s.d[l[k]!.device.toNat % s.d.length]!.ops 4 0).1[(l[k]!.copy % 4).toNat]!.token+1)] (⟨(((((l[k]!).device).toNat) % s.d.length:Nat):Int),s.d[l[k]!.device.toNat % s.d.length]!.counter+1,(1:Int),((((l[k]!).copy) % 4).toNat:Int),(((((l[k]!).other).toNat) % s.d.length:Nat):Int),(AI s.d[l[k]!.device.toNat % s.d.length]!.ops 4 0).1[(l[k]!.copy % 4).toNat]!.token+1⟩:DeviceOp) ((((l[k]!).crash) % 3).toNat:Int) bu aA rfl bv.lt) rfl bv fun qY kU kV t8 n9 kW=>(?_))))))))))))))
        obtain ⟨aB,rfl,aC⟩:=kW
        have a7:Enc.doing.rd kU ((d2 :: a9)++O) b9 (l[k]!):=Enc.mv Enc.doing (x:=l[k]!) a7 t8
        have b6:=b6.mv t8
        have a4:=a4.mv t8 n9 (by simp)
        have ho1_b9863_0:=ho1_b9863_0.mv t8 n9 (by simp)
        have b1:=b1.mv t8
        have a6:=a6.mv t8
        have a0:=a0.keep n9 (by simp)
        have ho1_b9863_1:=ho1_b9863_1.mv t8 n9 (by simp)
        have ho1_b9863_2:=ho1_b9863_2.mv t8 n9 (by simp)
        have ho1_b9863_3:=ho1_b9863_3.mv t8 n9 (by simp)
        have a8:=a8.keep n9 (by simp)
        have a5:=a5.keep n9 (by simp)
        have e2:=e2.keep n9 (by simp)
        have hT:=by exact hT.mv0 t8 n9 (fun x hx=>by exact hx)
        refine ⟨n9,?_⟩
        refine AO (AF (vT #[vA aB.toArray,vI ((AV (s.d[(((l[k]!).device).toNat) % s.d.length]!) (⟨(((((l[k]!).device).toNat) % s.d.length:Nat):Int),s.d[l[k]!.device.toNat % s.d.length]!.counter+1,(1:Int),((((l[k]!).copy) % 4).toNat:Int),(((((l[k]!).other).toNat) % s.d.length:Nat):Int),(AI s.d[l[k]!.device.toNat % s.d.length]!.ops 4 0).1[(l[k]!.copy % 4).toNat]!.token+1⟩:DeviceOp) ((((l[k]!).crash) % 3).toNat:Int)).2)]) rfl (CD (AO (BD (vA aB.toArray) rfl rfl (CD (AO (BD (vI ((AV (s.d[(((l[k]!).device).toNat) % s.d.length]!) (⟨(((((l[k]!).device).toNat) % s.d.length:Nat):Int),s.d[l[k]!.device.toNat % s.d.length]!.counter+1,(1:Int),((((l[k]!).copy) % 4).toNat:Int),(((((l[k]!).other).toNat) % s.d.length:Nat):Int),(AI s.d[l[k]!.device.toNat % s.d.length]!.ops 4 0).1[(l[k]!.copy % 4).toNat]!.token+1⟩:DeviceOp) ((((l[k]!).crash) % 3).toNat:Int)).2)) rfl rfl (CD (DU (CC [vI 0,vI 0,nS,vO false] HO rfl kV fun g2 ex kX kY o0 o1 gK=>(?_)))))))))))
        have gL:DB b8 g2:=by show b8≠g2;have:=a0.lt;omega
        have gM:DB c2 g2:=by show c2≠g2;have:=a8.lt;omega
        have gN:DB c7 g2:=by show c7≠g2;have:=a5.lt;omega
        have gO:DB d2 g2:=by show d2≠g2;have:=e2.lt;omega
        have cV:∀ b,b0.ownBlock=some b→b≠g2:=fun b hb=>by have:=(a4.lt b hb).2;omega
        have gP:∀ b,b3.ownBlock=some b→b≠g2:=fun b hb=>by have:=(ho1_b9863_0.lt b hb).2;omega
        have gQ:∀ b,a1.ownBlock=some b→b≠g2:=fun b hb=>by have:=(ho1_b9863_1.lt b hb).2;omega
        have cW:∀ b,a3.ownBlock=some b→b≠g2:=fun b hb=>by have:=(ho1_b9863_2.lt b hb).2;omega
        have gR:∀ b,a2.ownBlock=some b→b≠g2:=fun b hb=>by have:=(ho1_b9863_3.lt b hb).2;omega
        have c3:∀ b,b0.ownBlock=some b→b∈(g2 :: (d2 :: a9)):=fun b hb=>List.mem_cons_of_mem _ (c3 b hb)
        have c8:∀ b,b3.ownBlock=some b→b∈(g2 :: (d2 :: a9)):=fun b hb=>List.mem_cons_of_mem _ (c8 b hb)
        have b2:∀ b,a1.ownBlock=some b→b∈(g2 :: (d2 :: a9)):=fun b hb=>List.mem_cons_of_mem _ (b2 b hb)
        have b7:∀ b,a3.ownBlock=some b→b∈(g2 :: (d2 :: a9)):=fun b hb=>List.mem_cons_of_mem _ (b7 b hb)
        have b4:∀ b,a2.ownBlock=some b→b∈(g2 :: (d2 :: a9)):=fun b hb=>List.mem_cons_of_mem _ (b4 b hb)
        clear kX
        have a7:Enc.doing.rd ex ((g2 :: (d2 :: a9))++O) b9 (l[k]!):=Enc.mv Enc.doing (x:=l[k]!) a7 o0
        have b6:=b6.mv o0
        have a4:=a4.mv o0 o1 (by simp)
        have ho1_b9863_0:=ho1_b9863_0.mv o0 o1 (by simp)
        have aC:Enc.device.rd ex ((g2 :: (d2 :: a9))++O) aB ((AV (s.d[(((l[k]!).device).toNat) % s.d.length]!) (⟨(((((l[k]!).device).toNat) % s.d.length:Nat):Int),s.d[l[k]!.device.toNat % s.d.length]!.counter+1,(1:Int),((((l[k]!).copy) % 4).toNat:Int),(((((l[k]!).other).toNat) % s.d.length:Nat):Int),(AI s.d[l[k]!.device.toNat % s.d.length]!.ops 4 0).1[(l[k]!.copy % 4).toNat]!.token+1⟩:DeviceOp) ((((l[k]!).crash) % 3).toNat:Int)).1):=Enc.mv Enc.device (x:=(AV (s.d[(((l[k]!).device).toNat) % s.d.length]!) (⟨(((((l[k]!).device).toNat) % s.d.length:Nat):Int),s.d[l[k]!.device.toNat % s.d.length]!.counter+1,(1:Int),((((l[k]!).copy) % 4).toNat:Int),(((((l[k]!).other).toNat) % s.d.length:Nat):Int),(AI s.d[l[k]!.device.toNat % s.d.length]!.ops 4 0).1[(l[k]!.copy % 4).toNat]!.token+1⟩:DeviceOp) ((((l[k]!).crash) % 3).toNat:Int)).1) aC o0
        have b1:=b1.mv o0
        have a6:=a6.mv o0
        have a0:=a0.keep o1 (by simp)
        have ho1_b9863_1:=ho1_b9863_1.mv o0 o1 (by simp)
        have ho1_b9863_2:=ho1_b9863_2.mv o0 o1 (by simp)
        have ho1_b9863_3:=ho1_b9863_3.mv o0 o1 (by simp)
        have a8:=a8.keep o1 (by simp)
        have a5:=a5.keep o1 (by simp)
        have e2:=e2.keep o1 (by simp)
        have hT:=by exact hT.mv0 o0 o1 (fun x hx=>by exact List.mem_cons_of_mem _ hx)
        refine ⟨o1,?_⟩
        obtain ⟨bw,rfl,N9⟩:=aC
        have:=N9.len_le
        refine FO (AU (vs:=[vI (((AV (s.d[(((l[k]!).device).toNat) % s.d.length]!) (⟨(((((l[k]!).device).toNat) % s.d.length:Nat):Int),s.d[l[k]!.device.toNat % s.d.length]!.counter+1,(1:Int),((((l[k]!).copy) % 4).toNat:Int),(((((l[k]!).other).toNat) % s.d.length:Nat):Int),(AI s.d[l[k]!.device.toNat % s.d.length]!.ops 4 0).1[(l[k]!.copy % 4).toNat]!.token+1⟩:DeviceOp) ((((l[k]!).crash) % 3).toNat:Int)).1).id),vI (((AV (s.d[(((l[k]!).device).toNat) % s.d.length]!) (⟨(((((l[k]!).device).toNat) % s.d.length:Nat):Int),s.d[l[k]!.device.toNat % s.d.length]!.counter+1,(1:Int),((((l[k]!).copy) % 4).toNat:Int),(((((l[k]!).other).toNat) % s.d.length:Nat):Int),(AI s.d[l[k]!.device.toNat % s.d.length]!.ops 4 0).1[(l[k]!.copy % 4).toNat]!.token+1⟩:DeviceOp) ((((l[k]!).crash) % 3).toNat:Int)).1).counter),bw,vO (((AV (s.d[(((l[k]!).device).toNat) % s.d.length]!) (⟨(((((l[k]!).device).toNat) % s.d.length:Nat):Int),s.d[l[k]!.device.toNat % s.d.length]!.counter+1,(1:Int),((((l[k]!).copy) % 4).toNat:Int),(((((l[k]!).other).toNat) % s.d.length:Nat):Int),(AI s.d[l[k]!.device.toNat % s.d.length]!.ops 4 0).1[(l[k]!.copy % 4).toNat]!.token+1⟩:DeviceOp) ((((l[k]!).crash) % 3).toNat:Int)).1).halted)]) (.agg #[vI (((AV (s.d[(((l[k]!).device).toNat) % s.d.length]!) (⟨(((((l[k]!).device).toNat) % s.d.length:Nat):Int),s.d[l[k]!.device.toNat % s.d.length]!.counter+1,(1:Int),((((l[k]!).copy) % 4).toNat:Int),(((((l[k]!).other).toNat) % s.d.length:Nat):Int),(AI s.d[l[k]!.device.toNat % s.d.length]!.ops 4 0).1[(l[k]!.copy % 4).toNat]!.token+1⟩:DeviceOp) ((((l[k]!).crash) % 3).toNat:Int)).1).id),vI (((AV (s.d[(((l[k]!).device).toNat) % s.d.length]!) (⟨(((((l[k]!).device).toNat) % s.d.length:Nat):Int),s.d[l[k]!.device.toNat % s.d.length]!.counter+1,(1:Int),((((l[k]!).copy) % 4).toNat:Int),(((((l[k]!).other).toNat) % s.d.length:Nat):Int),(AI s.d[l[k]!.device.toNat % s.d.length]!.ops 4 0).1[(l[k]!.copy % 4).toNat]!.token+1⟩:DeviceOp) ((((l[k]!).crash) % 3).toNat:Int)).1).counter),bw,vO (((AV (s.d[(((l[k]!).device).toNat) % s.d.length]!) (⟨(((((l[k]!).device).toNat) % s.d.length:Nat):Int),s.d[l[k]!.device.toNat % s.d.length]!.counter+1,(1:Int),((((l[k]!).copy) % 4).toNat:Int),(((((l[k]!).other).toNat) % s.d.length:Nat):Int),(AI s.d[l[k]!.device.toNat % s.d.length]!.ops 4 0).1[(l[k]!.copy % 4).toNat]!.token+1⟩:DeviceOp) ((((l[k]!).crash) % 3).toNat:Int)).1).halted)]) rfl rfl rfl BG (fun u hu=>by simp only [List.mem_cons,List.not_mem_nil,or_false] at hu;rcases hu with rfl|rfl|rfl|rfl <;> first|rfl|exact N9.oneCell) (by repeat (constructor)) gK oT kY fun kZ ey o2 t9 F5=>(?_))
        have a7:Enc.doing.rd kZ ((g2 :: (d2 :: a9))++O) b9 (l[k]!):=Enc.mv Enc.doing (x:=l[k]!) a7 o2
        have b6:=b6.mv o2
        have a4:=a4.mv o2 t9 (fun b hb=>AJ (cV b hb))
        have ho1_b9863_0:=ho1_b9863_0.mv o2 t9 (fun b hb=>AJ (gP b hb))
        have N9:=N9.mv o2
        have b1:=b1.mv o2
        have a6:=a6.mv o2
        have a0:=a0.keep t9 (AJ gL)
        have ho1_b9863_1:=ho1_b9863_1.mv o2 t9 (fun b hb=>AJ (gQ b hb))
        have ho1_b9863_2:=ho1_b9863_2.mv o2 t9 (fun b hb=>AJ (cW b hb))
        have ho1_b9863_3:=ho1_b9863_3.mv o2 t9 (fun b hb=>AJ (gR b hb))
        have a8:=a8.keep t9 (AJ gM)
        have a5:=a5.keep t9 (AJ gN)
        have e2:=e2.keep t9 (AJ gO)
        have hT:=by exact hT.mvB o2 t9 aS (by decide) (fun x hx=>by exact hx)
        refine AO (AH (vI ((AV (s.d[(((l[k]!).device).toNat) % s.d.length]!) (⟨(((((l[k]!).device).toNat) % s.d.length:Nat):Int),s.d[l[k]!.device.toNat % s.d.length]!.counter+1,(1:Int),((((l[k]!).copy) % 4).toNat:Int),(((((l[k]!).other).toNat) % s.d.length:Nat):Int),(AI s.d[l[k]!.device.toNat % s.d.length]!.ops 4 0).1[(l[k]!.copy % 4).toNat]!.token+1⟩:DeviceOp) ((((l[k]!).crash) % 3).toNat:Int)).2)) rfl (CD (EW (AB (AG (AG (AD kR (AC (AF (vI ((AV (s.d[(((l[k]!).device).toNat) % s.d.length]!) (⟨(((((l[k]!).device).toNat) % s.d.length:Nat):Int),s.d[l[k]!.device.toNat % s.d.length]!.counter+1,(1:Int),((((l[k]!).copy) % 4).toNat:Int),(((((l[k]!).other).toNat) % s.d.length:Nat):Int),(AI s.d[l[k]!.device.toNat % s.d.length]!.ops 4 0).1[(l[k]!.copy % 4).toNat]!.token+1⟩:DeviceOp) ((((l[k]!).crash) % 3).toNat:Int)).2)) rfl (AC (DX .i64 ((AV (s.d[(((l[k]!).device).toNat) % s.d.length]!) (⟨(((((l[k]!).device).toNat) % s.d.length:Nat):Int),s.d[l[k]!.device.toNat % s.d.length]!.counter+1,(1:Int),((((l[k]!).copy) % 4).toNat:Int),(((((l[k]!).other).toNat) % s.d.length:Nat):Int),(AI s.d[l[k]!.device.toNat % s.d.length]!.ops 4 0).1[(l[k]!.copy % 4).toNat]!.token+1⟩:DeviceOp) ((((l[k]!).crash) % 3).toNat:Int)).2) (0:Int) rfl rfl (AE (AB (AK (((AV (s.d[(((l[k]!).device).toNat) % s.d.length]!) (⟨(((((l[k]!).device).toNat) % s.d.length:Nat):Int),s.d[l[k]!.device.toNat % s.d.length]!.counter+1,(1:Int),((((l[k]!).copy) % 4).toNat:Int),(((((l[k]!).other).toNat) % s.d.length:Nat):Int),(AI s.d[l[k]!.device.toNat % s.d.length]!.ops 4 0).1[(l[k]!.copy % 4).toNat]!.token+1⟩:DeviceOp) ((((l[k]!).crash) % 3).toNat:Int)).2) != (0:Int)) rfl rfl (fun aD=>?_) (fun aD=>?_)))))))))))))))
        ·have ol:(AV (s.d[(((l[k]!).device).toNat) % s.d.length]!) (⟨(((((l[k]!).device).toNat) % s.d.length:Nat):Int),s.d[l[k]!.device.toNat % s.d.length]!.counter+1,(1:Int),((((l[k]!).copy) % 4).toNat:Int),(((((l[k]!).other).toNat) % s.d.length:Nat):Int),(AI s.d[l[k]!.device.toNat % s.d.length]!.ops 4 0).1[(l[k]!.copy % 4).toNat]!.token+1⟩:DeviceOp) ((((l[k]!).crash) % 3).toNat:Int)).2≠(0:Int):=by simpa using aD
         refine AG (AD kR (AC (AQ (vs:=[b0,a1,a3,a2]) U29_ rfl CL rfl a8 rfl (BK (AU (vs:=[b0,a1,a3,a2]) (.agg #[b0,a1,a3,a2]) rfl rfl rfl CL (fun u hu=>by simp only [List.mem_cons,List.not_mem_nil,or_false] at hu;rcases hu with rfl|rfl|rfl|rfl <;> first|exact a4.oneCell|exact ho1_b9863_1.oneCell|exact ho1_b9863_2.oneCell|exact ho1_b9863_3.oneCell) rC a5 oT ey fun qZ la O0 O1 gS=>(?_))))))
         have a4:=a4.mv O0 O1 (fun b hb=>AJ (e8 b hb))
         have ho1_b9863_1:=ho1_b9863_1.mv O0 O1 (fun b hb=>AJ (f6 b hb))
         have ho1_b9863_2:=ho1_b9863_2.mv O0 O1 (fun b hb=>AJ (f3 b hb))
         have ho1_b9863_3:=ho1_b9863_3.mv O0 O1 (fun b hb=>AJ (f5 b hb))
         have b1:=b1.mv O0
         have a0:=a0.keep O1 (AJ i8)
         have hT:=by exact hT.mvB O0 O1 aS (by decide) (fun x hx=>by exact hx)
         refine AE (AB (AS (AN (BC (AN (AZ rfl (FN (vs:=[b0,a1,a3,a2]) rfl rfl U29_ rfl CL rfl gS rfl) (Exists.intro _ (And.intro rfl (BK (AU (vs:=[b0,a1,a3,a2]) (.agg #[b0,a1,a3,a2]) rfl rfl rfl CL (fun u hu=>by simp only [List.mem_cons,List.not_mem_nil,or_false] at hu;rcases hu with rfl|rfl|rfl|rfl <;> first|exact a4.oneCell|exact ho1_b9863_1.oneCell|exact ho1_b9863_2.oneCell|exact ho1_b9863_3.oneCell) rC a0 oT la fun ra le O2 T1 gT=>(?_)))))))))))
         have b1:=b1.mv O2
         have a4:=a4.mv O2 T1 (fun b hb=>AJ (d8 b hb))
         have ho1_b9863_1:=ho1_b9863_1.mv O2 T1 (fun b hb=>AJ (nb1_b9863_1_b9863 b hb))
         have ho1_b9863_2:=ho1_b9863_2.mv O2 T1 (fun b hb=>AJ (nb1_b9863_2_b9863 b hb))
         have ho1_b9863_3:=ho1_b9863_3.mv O2 T1 (fun b hb=>AJ (nb1_b9863_3_b9863 b hb))
         have hT:=by exact hT.mvB O2 T1 aS (by decide) (fun x hx=>by exact hx)
         refine AE (AW (AB (AD kR (AC (AF (vI ((k:Nat):Int)) rfl (AC (CE .i64 ((k:Nat):Int) (1:Int) (((k+1:Nat):Int)) rfl rfl (EP oM oM) (AC (AH (vI ((k+1:Nat):Int)) rfl (AE (AB (?_))))))))))))
         exact ⟨_,oM,(k+1),(s),(L),b0,a1,a3,a2,(g2 :: (d2 :: a9)),oM,(by exact GP hI),hT,rfl,⟨_,AL _ ⟨rfl,rfl,(by rfl),rfl,trivial⟩⟩,le,a4,c3,ho1_b9863_1,b2,ho1_b9863_2,b7,ho1_b9863_3,b4,b1,gT,(by (repeat (first|assumption|apply List.mem_cons_of_mem))),d8,nb1_b9863_1_b9863,nb1_b9863_2_b9863,nb1_b9863_3_b9863,(fun b hb e=>c4 b e hb),(fun b hb e=>c5 b e hb),(fun b hb e=>c6 b e hb),c4,nn1_b9863_1_b9863_2,nn1_b9863_1_b9863_3,c5,nn1_b9863_2_b9863_1,nn1_b9863_2_b9863_3,c6,nn1_b9863_3_b9863_1,nn1_b9863_3_b9863_2⟩
        have om:(AV (s.d[(((l[k]!).device).toNat) % s.d.length]!) (⟨(((((l[k]!).device).toNat) % s.d.length:Nat):Int),s.d[l[k]!.device.toNat % s.d.length]!.counter+1,(1:Int),((((l[k]!).copy) % 4).toNat:Int),(((((l[k]!).other).toNat) % s.d.length:Nat):Int),(AI s.d[l[k]!.device.toNat % s.d.length]!.ops 4 0).1[(l[k]!.copy % 4).toNat]!.token+1⟩:DeviceOp) ((((l[k]!).crash) % 3).toNat:Int)).2=(0:Int):=by simpa using aD
        refine AT (AB (AG (AD kR (AC (AF (b0) rfl (AC (AF (vI (((((l[k]!).device).toNat) % s.d.length:Nat):Int)) rfl (AC (AQ (vs:=[vI (((AV (s.d[(((l[k]!).device).toNat) % s.d.length]!) (⟨(((((l[k]!).device).toNat) % s.d.length:Nat):Int),s.d[l[k]!.device.toNat % s.d.length]!.counter+1,(1:Int),((((l[k]!).copy) % 4).toNat:Int),(((((l[k]!).other).toNat) % s.d.length:Nat):Int),(AI s.d[l[k]!.device.toNat % s.d.length]!.ops 4 0).1[(l[k]!.copy % 4).toNat]!.token+1⟩:DeviceOp) ((((l[k]!).crash) % 3).toNat:Int)).1).id),vI (((AV (s.d[(((l[k]!).device).toNat) % s.d.length]!) (⟨(((((l[k]!).device).toNat) % s.d.length:Nat):Int),s.d[l[k]!.device.toNat % s.d.length]!.counter+1,(1:Int),((((l[k]!).copy) % 4).toNat:Int),(((((l[k]!).other).toNat) % s.d.length:Nat):Int),(AI s.d[l[k]!.device.toNat % s.d.length]!.ops 4 0).1[(l[k]!.copy % 4).toNat]!.token+1⟩:DeviceOp) ((((l[k]!).crash) % 3).toNat:Int)).1).counter),bw,vO (((AV (s.d[(((l[k]!).device).toNat) % s.d.length]!) (⟨(((((l[k]!).device).toNat) % s.d.length:Nat):Int),s.d[l[k]!.device.toNat % s.d.length]!.counter+1,(1:Int),((((l[k]!).copy) % 4).toNat:Int),(((((l[k]!).other).toNat) % s.d.length:Nat):Int),(AI s.d[l[k]!.device.toNat % s.d.length]!.ops 4 0).1[(l[k]!.copy % 4).toNat]!.token+1⟩:DeviceOp) ((((l[k]!).crash) % 3).toNat:Int)).1).halted)]) U31_ rfl BG rfl F5 rfl (AC (DO U24_ BG .i64 (((((l[k]!).device).toNat) % s.d.length:Nat):Int) ((((l[k]!).device).toNat) % s.d.length) rfl rfl rfl a4 oM fun rb h7=>(BK (DW ((AV (s.d[(((l[k]!).device).toNat) % s.d.length]!) (⟨(((((l[k]!).device).toNat) % s.d.length:Nat):Int),s.d[l[k]!.device.toNat % s.d.length]!.counter+1,(1:Int),((((l[k]!).copy) % 4).toNat:Int),(((((l[k]!).other).toNat) % s.d.length:Nat):Int),(AI s.d[l[k]!.device.toNat % s.d.length]!.ops 4 0).1[(l[k]!.copy % 4).toNat]!.token+1⟩:DeviceOp) ((((l[k]!).crash) % 3).toNat:Int)).1) (by decide) BG rfl rfl a4 h7 (c3 _ h7) oM ⟨_,rfl,N9⟩ ey fun lf ez x8 u0 q0=>(?_))))))))))))))
        have a7:Enc.doing.rd lf ((g2 :: (d2 :: a9))++O) b9 (l[k]!):=Enc.mv Enc.doing (x:=l[k]!) a7 x8
        have b6:=b6.mv x8
        have ho1_b9863_0:=ho1_b9863_0.mv x8 u0 (fun b hb=>by simp only [List.mem_singleton];rintro rfl;exact absurd h7 (V8 _ hb))
        have b1:=b1.mv x8
        have a6:=a6.mv x8
        have a0:=a0.keep u0 (by simp only [List.mem_singleton];exact fun e=>absurd e.symm (d8 _ h7))
        have ho1_b9863_1:=ho1_b9863_1.mv x8 u0 (fun b hb=>by simp only [List.mem_singleton];rintro rfl;exact absurd h7 (c4 _ hb))
        have ho1_b9863_2:=ho1_b9863_2.mv x8 u0 (fun b hb=>by simp only [List.mem_singleton];rintro rfl;exact absurd h7 (c5 _ hb))
        have ho1_b9863_3:=ho1_b9863_3.mv x8 u0 (fun b hb=>by simp only [List.mem_singleton];rintro rfl;exact absurd h7 (c6 _ hb))
        have a8:=a8.keep u0 (by simp only [List.mem_singleton];exact fun e=>absurd e.symm (f1 _ h7))
        have a5:=a5.keep u0 (by simp only [List.mem_singleton];exact fun e=>absurd e.symm (e8 _ h7))
        have e2:=e2.keep u0 (by simp only [List.mem_singleton];exact fun e=>absurd e.symm (N8 _ h7))
        have F5:=F5.keep u0 (by simp only [List.mem_singleton];exact fun e=>absurd e.symm (cV _ h7))
        have hT:=hT.mvO x8 u0 a4 (fun b hq=>by have hq:=List.mem_singleton.1 hq;subst hq;exact h7) (by decide) (fun x hx=>by exact hx)
        refine AE (AB (AG (AD kR (AC (AP 4 GE ((l[k]!).crash) rfl b6 (fun _ _ _ h=>CM h) fun rc gU=>(AC (CU U5_ rfl rfl gU (AC (DY ((l[k]!).crash) (3:UInt8) (by decide) rfl rfl (AC (EG (((l[k]!).crash) % 3) (2:UInt8) rfl rfl (AE (AB (AK ((((l[k]!).crash) % 3) == (2:UInt8)) rfl rfl (fun aE=>?_) (fun aE=>?_)))))))))))))))
        ·have oo:((l[k]!).crash) % 3=(2:UInt8):=by simpa using aE
         refine AG (AD kR (AC (AM 2 EE rfl (AC (AR U26_ rfl (a3) rfl a8 rfl (AC (AQ (vs:=[vI (((((l[k]!).device).toNat) % s.d.length:Nat):Int),vI (s.d[l[k]!.device.toNat % s.d.length]!.counter+1),vI 1,vI ((((l[k]!).copy) % 4).toNat:Int),vI (((((l[k]!).other).toNat) % s.d.length:Nat):Int),vI ((AI s.d[l[k]!.device.toNat % s.d.length]!.ops 4 0).1[(l[k]!.copy % 4).toNat]!.token+1)]) U40_ rfl BX rfl e2 rfl (AC (EY (E:=Enc.devop) (xs:=[.tmp 135]) U26_ BX HC (by decide) [.agg #[vI (((((l[k]!).device).toNat) % s.d.length:Nat):Int),vI (s.d[l[k]!.device.toNat % s.d.length]!.counter+1),vI 1,vI ((((l[k]!).copy) % 4).toNat:Int),vI (((((l[k]!).other).toNat) % s.d.length:Nat):Int),vI ((AI s.d[l[k]!.device.toNat % s.d.length]!.ops 4 0).1[(l[k]!.copy % 4).toNat]!.token+1)]] [[vI (((((l[k]!).device).toNat) % s.d.length:Nat):Int),vI (s.d[l[k]!.device.toNat % s.d.length]!.counter+1),vI 1,vI ((((l[k]!).copy) % 4).toNat:Int),vI (((((l[k]!).other).toNat) % s.d.length:Nat):Int),vI ((AI s.d[l[k]!.device.toNat % s.d.length]!.ops 4 0).1[(l[k]!.copy % 4).toNat]!.token+1)]] [(⟨(((((l[k]!).device).toNat) % s.d.length:Nat):Int),s.d[l[k]!.device.toNat % s.d.length]!.counter+1,(1:Int),((((l[k]!).copy) % 4).toNat:Int),(((((l[k]!).other).toNat) % s.d.length:Nat):Int),(AI s.d[l[k]!.device.toNat % s.d.length]!.ops 4 0).1[(l[k]!.copy % 4).toNat]!.token+1⟩:DeviceOp)] rfl rfl rfl (Parts.cons rfl rfl (Parts.nil _ _ _)) oT ez fun re lg lh x9 o3 cX=>(?_))))))))))
         have a7:Enc.doing.rd lg ((g2 :: (d2 :: a9))++O) b9 (l[k]!):=Enc.mv Enc.doing (x:=l[k]!) a7 x9
         have q0:=q0.mv x9 o3 (by simp)
         have ho1_b9863_0:=ho1_b9863_0.mv x9 o3 (by simp)
         have ho1_b9863_2:=ho1_b9863_2.mv x9 o3 (by simp)
         have b1:=b1.mv x9
         have a6:=a6.mv x9
         have a0:=a0.keep o3 (by simp)
         have ho1_b9863_1:=ho1_b9863_1.mv x9 o3 (by simp)
         have ho1_b9863_3:=ho1_b9863_3.mv x9 o3 (by simp)
         have a8:=a8.keep o3 (by simp)
         have a5:=a5.keep o3 (by simp)
         have e2:=e2.keep o3 (by simp)
         have F5:=F5.keep o3 (by simp)
         have hT:=by exact hT.mv0 x9 o3 (fun x hx=>by exact hx)
         have:=cX.len_le
         refine AC (CT (E:=Enc.devop) (l:=s.done) (m:=[(⟨(((((l[k]!).device).toNat) % s.d.length:Nat):Int),s.d[l[k]!.device.toNat % s.d.length]!.counter+1,(1:Int),((((l[k]!).copy) % 4).toNat:Int),(((((l[k]!).other).toNat) % s.d.length:Nat):Int),(AI s.d[l[k]!.device.toNat % s.d.length]!.ops 4 0).1[(l[k]!.copy % 4).toNat]!.token+1⟩:DeviceOp)]) U26_ OB rfl (by decide) rfl rfl ho1_b9863_2 cX (fun _ hb=>.inl hb) b7 (by simp;omega) (by simp [maxLen];omega) lh fun o4 li k8 gV q1 i6 lj H3 B8 W2=>(?_))
         have cY:∀ b,b0.ownBlock=some b→o4.ownBlock≠some b:=fun b hb e=>by rcases q1 with e1|e1 <;> rw [e1] at e <;> first|(cases e;have:=(q0.lt _ hb).2;omega)|(exact absurd e ((fun b hb e=>c5 b e hb) b hb))
         have op:∀ b,b3.ownBlock=some b→o4.ownBlock≠some b:=fun b hb e=>by rcases q1 with e1|e1 <;> rw [e1] at e <;> first|(cases e;have:=(ho1_b9863_0.lt _ hb).2;omega)|(exact absurd e (nn1_b9863_0_b9863_2 b hb))
         have cZ:∀ b,a1.ownBlock=some b→o4.ownBlock≠some b:=fun b hb e=>by rcases q1 with e1|e1 <;> rw [e1] at e <;> first|(cases e;have:=(ho1_b9863_1.lt _ hb).2;omega)|(exact absurd e (nn1_b9863_1_b9863_2 b hb))
         have da:∀ b,a2.ownBlock=some b→o4.ownBlock≠some b:=fun b hb e=>by rcases q1 with e1|e1 <;> rw [e1] at e <;> first|(cases e;have:=(ho1_b9863_3.lt _ hb).2;omega)|(exact absurd e (nn1_b9863_3_b9863_2 b hb))
         have gW:∀ b,o4.ownBlock=some b→b≠b8:=fun b hb=>by rcases q1 with e1|e1 <;> rw [e1] at hb <;> first|(cases hb;have:=a0.lt;omega)|(exact nb1_b9863_2_b9863 b hb)
         have db:∀ b,o4.ownBlock=some b→b≠c2:=fun b hb=>by rcases q1 with e1|e1 <;> rw [e1] at hb <;> first|(cases hb;have:=a8.lt;omega)|(exact g4 b hb)
         have gX:∀ b,o4.ownBlock=some b→b≠c7:=fun b hb=>by rcases q1 with e1|e1 <;> rw [e1] at hb <;> first|(cases hb;have:=a5.lt;omega)|(exact f3 b hb)
         have oq:∀ b,o4.ownBlock=some b→b≠d2:=fun b hb=>by rcases q1 with e1|e1 <;> rw [e1] at hb <;> first|(cases hb;have:=e2.lt;omega)|(exact A3 b hb)
         have ot:∀ b,o4.ownBlock=some b→b≠g2:=fun b hb=>by rcases q1 with e1|e1 <;> rw [e1] at hb <;> first|(cases hb;have:=F5.lt;omega)|(exact cW b hb)
         have c3:∀ b,b0.ownBlock=some b→b∈k8:=fun b hb=>i6 b (c3 b hb)
         have c8:∀ b,b3.ownBlock=some b→b∈k8:=fun b hb=>i6 b (c8 b hb)
         have b2:∀ b,a1.ownBlock=some b→b∈k8:=fun b hb=>i6 b (b2 b hb)
         have b4:∀ b,a2.ownBlock=some b→b∈k8:=fun b hb=>i6 b (b4 b hb)
         have e9:b8∈k8:=i6 b8 rC
         have h9:c2∈k8:=i6 c2 rC
         have i0:c7∈k8:=i6 c7 rC
         have dM:d2∈k8:=i6 d2 (by repeat (constructor))
         have nk:g2∈k8:=i6 g2 (by repeat (constructor))
         have a7:Enc.doing.rd li (k8++O) b9 (l[k]!):=Enc.mv Enc.doing (x:=l[k]!) a7 H3
         have q0:=q0.mv H3 B8 (fun b hb=>by simp only [Option.mem_toList];exact (fun b hb e=>c5 b e hb) b hb)
         have b1:=b1.mv H3
         have a6:=a6.mv H3
         have a0:=a0.keep B8 (by simp only [Option.mem_toList];exact fun e=>absurd rfl (nb1_b9863_2_b9863 _ e))
         have ho1_b9863_1:=ho1_b9863_1.mv H3 B8 (fun b hb=>by simp only [Option.mem_toList];exact nn1_b9863_1_b9863_2 b hb)
         have ho1_b9863_3:=ho1_b9863_3.mv H3 B8 (fun b hb=>by simp only [Option.mem_toList];exact nn1_b9863_3_b9863_2 b hb)
         have a8:=a8.keep B8 (by simp only [Option.mem_toList];exact fun e=>absurd rfl (g4 _ e))
         have a5:=a5.keep B8 (by simp only [Option.mem_toList];exact fun e=>absurd rfl (f3 _ e))
         have e2:=e2.keep B8 (by simp only [Option.mem_toList];exact fun e=>absurd rfl (A3 _ e))
         have hT:=hT.mvO H3 B8 ho1_b9863_2 (fun b hb=>Option.mem_toList.1 hb) (by decide) i6
         refine AC (AM 2 EE rfl (BK (BP (o4) rfl rfl W2.oneCell HR (by repeat (assumption)) a8 oT lj fun lk ll B9 C0 gY=>(?_))))
         have a7:Enc.doing.rd lk (k8++O) b9 (l[k]!):=Enc.mv Enc.doing (x:=l[k]!) a7 B9
         have q0:=q0.mv B9 C0 (fun b hb=>AJ (f1 b hb))
         have W2:=W2.mv B9 C0 (fun b hb=>AJ (db b hb))
         have b1:=b1.mv B9
         have a6:=a6.mv B9
         have a0:=a0.keep C0 (AJ z6)
         have ho1_b9863_1:=ho1_b9863_1.mv B9 C0 (fun b hb=>AJ (g1 b hb))
         have ho1_b9863_3:=ho1_b9863_3.mv B9 C0 (fun b hb=>AJ (g3 b hb))
         have a5:=a5.keep C0 (AJ (Ne.symm z7))
         have e2:=e2.keep C0 (AJ (Ne.symm N7))
         have hT:=by exact hT.mvB B9 C0 aS (by decide) (fun x hx=>by exact hx)
         refine AE (AB (AG (AD kR (AC (AM 2 GB rfl (AC (AR U3_ rfl (vI 1) rfl e2 rfl (AC (DC .i64 (1:Int) (2:Int) rfl rfl (AE (AB (AK false rfl rfl (fun h=>by cases h) (fun _=>AT (AW (AB (?_))))))))))))))))
         exact ⟨((⟨s.d.set ((((l[k]!).device).toNat) % s.d.length) ((AV (s.d[(((l[k]!).device).toNat) % s.d.length]!) (⟨(((((l[k]!).device).toNat) % s.d.length:Nat):Int),s.d[l[k]!.device.toNat % s.d.length]!.counter+1,(1:Int),((((l[k]!).copy) % 4).toNat:Int),(((((l[k]!).other).toNat) % s.d.length:Nat):Int),(AI s.d[l[k]!.device.toNat % s.d.length]!.ops 4 0).1[(l[k]!.copy % 4).toNat]!.token+1⟩:DeviceOp) ((((l[k]!).crash) % 3).toNat:Int)).1),s.b,s.done++([(⟨(((((l[k]!).device).toNat) % s.d.length:Nat):Int),s.d[l[k]!.device.toNat % s.d.length]!.counter+1,(1:Int),((((l[k]!).copy) % 4).toNat:Int),(((((l[k]!).other).toNat) % s.d.length:Nat):Int),(AI s.d[l[k]!.device.toNat % s.d.length]!.ops 4 0).1[(l[k]!.copy % 4).toNat]!.token+1⟩:DeviceOp)]),s.shown⟩:HouseR)),(L),b0,a1,o4,a2,k8,(by (rw [lv_a2g aS (HP aS aS aS) (by rw [HA aS];assumption) aS];(rw [HA aS];rfl))),hT,trivial,⟨_,AL _ ⟨rfl,rfl,rfl,trivial⟩⟩,ll,q0,c3,ho1_b9863_1,b2,W2,gV,ho1_b9863_3,b4,b1,a6,a7,gY,aS,a5,aS,a0,aS,f1,e8,d8,g1,f6,nb1_b9863_1_b9863,db,gX,gW,g3,f5,nb1_b9863_3_b9863,(fun b hb e=>c4 b e hb),cY,(fun b hb e=>c6 b e hb),c4,cZ,nn1_b9863_1_b9863_3,(fun b hb e=>cY b e hb),(fun b hb e=>cZ b e hb),(fun b hb e=>da b e hb),c6,nn1_b9863_3_b9863_1,da⟩
        have ou:((l[k]!).crash) % 3≠(2:UInt8):=by simpa using aE
        refine AT (AW (AB (?_)))
        exact ⟨((⟨s.d.set ((((l[k]!).device).toNat) % s.d.length) ((AV (s.d[(((l[k]!).device).toNat) % s.d.length]!) (⟨(((((l[k]!).device).toNat) % s.d.length:Nat):Int),s.d[l[k]!.device.toNat % s.d.length]!.counter+1,(1:Int),((((l[k]!).copy) % 4).toNat:Int),(((((l[k]!).other).toNat) % s.d.length:Nat):Int),(AI s.d[l[k]!.device.toNat % s.d.length]!.ops 4 0).1[(l[k]!.copy % 4).toNat]!.token+1⟩:DeviceOp) ((((l[k]!).crash) % 3).toNat:Int)).1),s.b,s.done,s.shown⟩:HouseR)),(L),b0,a1,a3,a2,(g2 :: (d2 :: a9)),(by (rw [NQ (.inr aS) (HP aS aS aS) (by rw [HA aS];assumption) aS];(rw [HA aS];rfl))),hT,trivial,⟨_,AL _ ⟨rfl,rfl,rfl,trivial⟩⟩,ez,q0,c3,ho1_b9863_1,b2,ho1_b9863_2,b7,ho1_b9863_3,b4,b1,a6,a7,a8,(by (repeat (first|assumption|apply List.mem_cons_of_mem))),a5,(by (repeat (first|assumption|apply List.mem_cons_of_mem))),a0,(by (repeat (first|assumption|apply List.mem_cons_of_mem))),f1,e8,d8,g1,f6,nb1_b9863_1_b9863,g4,f3,nb1_b9863_2_b9863,g3,f5,nb1_b9863_3_b9863,(fun b hb e=>c4 b e hb),(fun b hb e=>c5 b e hb),(fun b hb e=>c6 b e hb),c4,nn1_b9863_1_b9863_2,nn1_b9863_1_b9863_3,c5,nn1_b9863_2_b9863_1,nn1_b9863_2_b9863_3,c6,nn1_b9863_3_b9863_1,nn1_b9863_3_b9863_2⟩
       refine AO (AF (b0) rfl (CD (AO (AF (vI (((((l[k]!).device).toNat) % s.d.length:Nat):Int)) rfl (CD (AO (BZ U24_ BG .i64 (((((l[k]!).device).toNat) % s.d.length:Nat):Int) ((((l[k]!).device).toNat) % s.d.length) rfl rfl rfl a4.rdB oM fun rf gZ=>(CD (AO (BT U31_ rfl BG rfl gZ fun aF O3=>(?_)))))))))))
       have O3:=O3.2
       refine CD (AO (AQ (vs:=[vI (((((l[k]!).device).toNat) % s.d.length:Nat):Int),vI (s.d[l[k]!.device.toNat % s.d.length]!.counter+1),vI 1,vI ((((l[k]!).copy) % 4).toNat:Int),vI (((((l[k]!).other).toNat) % s.d.length:Nat):Int),vI ((AI s.d[l[k]!.device.toNat % s.d.length]!.ops 4 0).1[(l[k]!.copy % 4).toNat]!.token+1)]) U40_ rfl BX rfl e2 rfl (CD (AO (AP 4 GE ((l[k]!).crash) rfl b6 (fun _ _ _ h=>CM h) fun rg ha=>(CD (AO (CU U5_ rfl rfl ha (CD (DA rfl (fun w4_ k4_=>DY ((l[k]!).crash) (3:UInt8) (by decide) rfl rfl (⟨rfl,rfl⟩)) (DA rfl (fun w4_ k4_=>FF .u8 .i64 U5_ U3_ ((((l[k]!).crash) % 3).toNat:Int) ((((l[k]!).crash) % 3).toNat:Int) rfl (by have:=(((l[k]!).crash) % 3).toNat_lt;exact EP oM rfl) (⟨rfl,rfl⟩)) (DU (CC [vI 0,vI 0,nS,vO false] HO rfl bv fun f9 bx lm eA o5 o6 aG=>(?_))))))))))))))
       have hf:DB b8 f9:=by show b8≠f9;have:=a0.lt;omega
       have hg:DB c2 f9:=by show c2≠f9;have:=a8.lt;omega
       have hh:DB c7 f9:=by show c7≠f9;have:=a5.lt;omega
       have hi:DB d2 f9:=by show d2≠f9;have:=e2.lt;omega
       have dc:∀ b,b0.ownBlock=some b→b≠f9:=fun b hb=>by have:=(a4.lt b hb).2;omega
       have hj:∀ b,b3.ownBlock=some b→b≠f9:=fun b hb=>by have:=(ho1_b9863_0.lt b hb).2;omega
       have hk:∀ b,a1.ownBlock=some b→b≠f9:=fun b hb=>by have:=(ho1_b9863_1.lt b hb).2;omega
       have dd:∀ b,a3.ownBlock=some b→b≠f9:=fun b hb=>by have:=(ho1_b9863_2.lt b hb).2;omega
       have hl:∀ b,a2.ownBlock=some b→b≠f9:=fun b hb=>by have:=(ho1_b9863_3.lt b hb).2;omega
       have c3:∀ b,b0.ownBlock=some b→b∈(f9 :: (d2 :: a9)):=fun b hb=>List.mem_cons_of_mem _ (c3 b hb)
       have c8:∀ b,b3.ownBlock=some b→b∈(f9 :: (d2 :: a9)):=fun b hb=>List.mem_cons_of_mem _ (c8 b hb)
       have b2:∀ b,a1.ownBlock=some b→b∈(f9 :: (d2 :: a9)):=fun b hb=>List.mem_cons_of_mem _ (b2 b hb)
       have b7:∀ b,a3.ownBlock=some b→b∈(f9 :: (d2 :: a9)):=fun b hb=>List.mem_cons_of_mem _ (b7 b hb)
       have b4:∀ b,a2.ownBlock=some b→b∈(f9 :: (d2 :: a9)):=fun b hb=>List.mem_cons_of_mem _ (b4 b hb)
       clear lm
       have a7:Enc.doing.rd bx ((f9 :: (d2 :: a9))++O) b9 (l[k]!):=Enc.mv Enc.doing (x:=l[k]!) a7 o5
       have b6:=b6.mv o5
       have a4:=a4.mv o5 o6 (by simp)
       have ho1_b9863_0:=ho1_b9863_0.mv o5 o6 (by simp)
       have O3:Enc.device.rd bx ((f9 :: (d2 :: a9))++O) aF (s.d[(((l[k]!).device).toNat) % s.d.length]!):=Enc.mv Enc.device (x:=s.d[(((l[k]!).device).toNat) % s.d.length]!) O3 o5
       have b1:=b1.mv o5
       have a6:=a6.mv o5
       have a0:=a0.keep o6 (by simp)
       have ho1_b9863_1:=ho1_b9863_1.mv o5 o6 (by simp)
       have ho1_b9863_2:=ho1_b9863_2.mv o5 o6 (by simp)
       have ho1_b9863_3:=ho1_b9863_3.mv o5 o6 (by simp)
       have a8:=a8.keep o6 (by simp)
       have a5:=a5.keep o6 (by simp)
       have e2:=e2.keep o6 (by simp)
       have hT:=by exact hT.mv0 o5 o6 (fun x hx=>by exact List.mem_cons_of_mem _ hx)
       refine ⟨o6,?_⟩
       refine DU (BI (vs:=[vA aF.toArray,vA #[vI (((((l[k]!).device).toNat) % s.d.length:Nat):Int),vI (s.d[l[k]!.device.toNat % s.d.length]!.counter+1),vI 1,vI ((((l[k]!).copy) % 4).toNat:Int),vI (((((l[k]!).other).toNat) % s.d.length:Nat):Int),vI ((AI s.d[l[k]!.device.toNat % s.d.length]!.ops 4 0).1[(l[k]!.copy % 4).toNat]!.token+1)],vI ((((l[k]!).crash) % 3).toNat:Int)]) HK (NP (O:=(f9 :: (d2 :: a9))++O) aF (s.d[(((l[k]!).device).toNat) % s.d.length]!) [vI (((((l[k]!).device).toNat) % s.d.length:Nat):Int),vI (s.d[l[k]!.device.toNat % s.d.length]!.counter+1),vI 1,vI ((((l[k]!).copy) % 4).toNat:Int),vI (((((l[k]!).other).toNat) % s.d.length:Nat):Int),vI ((AI s.d[l[k]!.device.toNat % s.d.length]!.ops 4 0).1[(l[k]!.copy % 4).toNat]!.token+1)] (⟨(((((l[k]!).device).toNat) % s.d.length:Nat):Int),s.d[l[k]!.device.toNat % s.d.length]!.counter+1,(1:Int),((((l[k]!).copy) % 4).toNat:Int),(((((l[k]!).other).toNat) % s.d.length:Nat):Int),(AI s.d[l[k]!.device.toNat % s.d.length]!.ops 4 0).1[(l[k]!.copy % 4).toNat]!.token+1⟩:DeviceOp) ((((l[k]!).crash) % 3).toNat:Int) bx O3 rfl eA.lt) rfl eA fun rh ln lo u1 k9 lp=>(?_))
       obtain ⟨de,rfl,hm⟩:=lp
       have a7:Enc.doing.rd ln ((f9 :: (d2 :: a9))++O) b9 (l[k]!):=Enc.mv Enc.doing (x:=l[k]!) a7 u1
       have b6:=b6.mv u1
       have a4:=a4.mv u1 k9 (by simp)
       have ho1_b9863_0:=ho1_b9863_0.mv u1 k9 (by simp)
       have b1:=b1.mv u1
       have a6:=a6.mv u1
       have a0:=a0.keep k9 (by simp)
       have ho1_b9863_1:=ho1_b9863_1.mv u1 k9 (by simp)
       have ho1_b9863_2:=ho1_b9863_2.mv u1 k9 (by simp)
       have ho1_b9863_3:=ho1_b9863_3.mv u1 k9 (by simp)
       have a8:=a8.keep k9 (by simp)
       have a5:=a5.keep k9 (by simp)
       have e2:=e2.keep k9 (by simp)
       have aG:=aG.keep k9 (by simp)
       have hT:=by exact hT.mv0 u1 k9 (fun x hx=>by exact hx)
       refine ⟨k9,?_⟩
       refine AO (AF (vT #[vA de.toArray,vI ((AV (s.d[(((l[k]!).device).toNat) % s.d.length]!) (⟨(((((l[k]!).device).toNat) % s.d.length:Nat):Int),s.d[l[k]!.device.toNat % s.d.length]!.counter+1,(1:Int),((((l[k]!).copy) % 4).toNat:Int),(((((l[k]!).other).toNat) % s.d.length:Nat):Int),(AI s.d[l[k]!.device.toNat % s.d.length]!.ops 4 0).1[(l[k]!.copy % 4).toNat]!.token+1⟩:DeviceOp) ((((l[k]!).crash) % 3).toNat:Int)).2)]) rfl (CD (AO (BD (vA de.toArray) rfl rfl (CD (AO (BD (vI ((AV (s.d[(((l[k]!).device).toNat) % s.d.length]!) (⟨(((((l[k]!).device).toNat) % s.d.length:Nat):Int),s.d[l[k]!.device.toNat % s.d.length]!.counter+1,(1:Int),((((l[k]!).copy) % 4).toNat:Int),(((((l[k]!).other).toNat) % s.d.length:Nat):Int),(AI s.d[l[k]!.device.toNat % s.d.length]!.ops 4 0).1[(l[k]!.copy % 4).toNat]!.token+1⟩:DeviceOp) ((((l[k]!).crash) % 3).toNat:Int)).2)) rfl rfl (CD (?_)))))))))
       obtain ⟨bz,rfl,O4⟩:=hm
       have:=O4.len_le
       refine FO (AU (vs:=[vI (((AV (s.d[(((l[k]!).device).toNat) % s.d.length]!) (⟨(((((l[k]!).device).toNat) % s.d.length:Nat):Int),s.d[l[k]!.device.toNat % s.d.length]!.counter+1,(1:Int),((((l[k]!).copy) % 4).toNat:Int),(((((l[k]!).other).toNat) % s.d.length:Nat):Int),(AI s.d[l[k]!.device.toNat % s.d.length]!.ops 4 0).1[(l[k]!.copy % 4).toNat]!.token+1⟩:DeviceOp) ((((l[k]!).crash) % 3).toNat:Int)).1).id),vI (((AV (s.d[(((l[k]!).device).toNat) % s.d.length]!) (⟨(((((l[k]!).device).toNat) % s.d.length:Nat):Int),s.d[l[k]!.device.toNat % s.d.length]!.counter+1,(1:Int),((((l[k]!).copy) % 4).toNat:Int),(((((l[k]!).other).toNat) % s.d.length:Nat):Int),(AI s.d[l[k]!.device.toNat % s.d.length]!.ops 4 0).1[(l[k]!.copy % 4).toNat]!.token+1⟩:DeviceOp) ((((l[k]!).crash) % 3).toNat:Int)).1).counter),bz,vO (((AV (s.d[(((l[k]!).device).toNat) % s.d.length]!) (⟨(((((l[k]!).device).toNat) % s.d.length:Nat):Int),s.d[l[k]!.device.toNat % s.d.length]!.counter+1,(1:Int),((((l[k]!).copy) % 4).toNat:Int),(((((l[k]!).other).toNat) % s.d.length:Nat):Int),(AI s.d[l[k]!.device.toNat % s.d.length]!.ops 4 0).1[(l[k]!.copy % 4).toNat]!.token+1⟩:DeviceOp) ((((l[k]!).crash) % 3).toNat:Int)).1).halted)]) (.agg #[vI (((AV (s.d[(((l[k]!).device).toNat) % s.d.length]!) (⟨(((((l[k]!).device).toNat) % s.d.length:Nat):Int),s.d[l[k]!.device.toNat % s.d.length]!.counter+1,(1:Int),((((l[k]!).copy) % 4).toNat:Int),(((((l[k]!).other).toNat) % s.d.length:Nat):Int),(AI s.d[l[k]!.device.toNat % s.d.length]!.ops 4 0).1[(l[k]!.copy % 4).toNat]!.token+1⟩:DeviceOp) ((((l[k]!).crash) % 3).toNat:Int)).1).id),vI (((AV (s.d[(((l[k]!).device).toNat) % s.d.length]!) (⟨(((((l[k]!).device).toNat) % s.d.length:Nat):Int),s.d[l[k]!.device.toNat % s.d.length]!.counter+1,(1:Int),((((l[k]!).copy) % 4).toNat:Int),(((((l[k]!).other).toNat) % s.d.length:Nat):Int),(AI s.d[l[k]!.device.toNat % s.d.length]!.ops 4 0).1[(l[k]!.copy % 4).toNat]!.token+1⟩:DeviceOp) ((((l[k]!).crash) % 3).toNat:Int)).1).counter),bz,vO (((AV (s.d[(((l[k]!).device).toNat) % s.d.length]!) (⟨(((((l[k]!).device).toNat) % s.d.length:Nat):Int),s.d[l[k]!.device.toNat % s.d.length]!.counter+1,(1:Int),((((l[k]!).copy) % 4).toNat:Int),(((((l[k]!).other).toNat) % s.d.length:Nat):Int),(AI s.d[l[k]!.device.toNat % s.d.length]!.ops 4 0).1[(l[k]!.copy % 4).toNat]!.token+1⟩:DeviceOp) ((((l[k]!).crash) % 3).toNat:Int)).1).halted)]) rfl rfl rfl BG (fun u hu=>by simp only [List.mem_cons,List.not_mem_nil,or_false] at hu;rcases hu with rfl|rfl|rfl|rfl <;> first|rfl|exact O4.oneCell) (by repeat (constructor)) aG oT lo fun lq eB o7 u2 F6=>(?_))
       have a7:Enc.doing.rd lq ((f9 :: (d2 :: a9))++O) b9 (l[k]!):=Enc.mv Enc.doing (x:=l[k]!) a7 o7
       have b6:=b6.mv o7
       have a4:=a4.mv o7 u2 (fun b hb=>AJ (dc b hb))
       have ho1_b9863_0:=ho1_b9863_0.mv o7 u2 (fun b hb=>AJ (hj b hb))
       have O4:=O4.mv o7
       have b1:=b1.mv o7
       have a6:=a6.mv o7
       have a0:=a0.keep u2 (AJ hf)
       have ho1_b9863_1:=ho1_b9863_1.mv o7 u2 (fun b hb=>AJ (hk b hb))
       have ho1_b9863_2:=ho1_b9863_2.mv o7 u2 (fun b hb=>AJ (dd b hb))
       have ho1_b9863_3:=ho1_b9863_3.mv o7 u2 (fun b hb=>AJ (hl b hb))
       have a8:=a8.keep u2 (AJ hg)
       have a5:=a5.keep u2 (AJ hh)
       have e2:=e2.keep u2 (AJ hi)
       have hT:=by exact hT.mvB o7 u2 aS (by decide) (fun x hx=>by exact hx)
       refine AO (AH (vI ((AV (s.d[(((l[k]!).device).toNat) % s.d.length]!) (⟨(((((l[k]!).device).toNat) % s.d.length:Nat):Int),s.d[l[k]!.device.toNat % s.d.length]!.counter+1,(1:Int),((((l[k]!).copy) % 4).toNat:Int),(((((l[k]!).other).toNat) % s.d.length:Nat):Int),(AI s.d[l[k]!.device.toNat % s.d.length]!.ops 4 0).1[(l[k]!.copy % 4).toNat]!.token+1⟩:DeviceOp) ((((l[k]!).crash) % 3).toNat:Int)).2)) rfl (CD (EW (AB (AG (AG (AD kR (AC (AF (vI ((AV (s.d[(((l[k]!).device).toNat) % s.d.length]!) (⟨(((((l[k]!).device).toNat) % s.d.length:Nat):Int),s.d[l[k]!.device.toNat % s.d.length]!.counter+1,(1:Int),((((l[k]!).copy) % 4).toNat:Int),(((((l[k]!).other).toNat) % s.d.length:Nat):Int),(AI s.d[l[k]!.device.toNat % s.d.length]!.ops 4 0).1[(l[k]!.copy % 4).toNat]!.token+1⟩:DeviceOp) ((((l[k]!).crash) % 3).toNat:Int)).2)) rfl (AC (DX .i64 ((AV (s.d[(((l[k]!).device).toNat) % s.d.length]!) (⟨(((((l[k]!).device).toNat) % s.d.length:Nat):Int),s.d[l[k]!.device.toNat % s.d.length]!.counter+1,(1:Int),((((l[k]!).copy) % 4).toNat:Int),(((((l[k]!).other).toNat) % s.d.length:Nat):Int),(AI s.d[l[k]!.device.toNat % s.d.length]!.ops 4 0).1[(l[k]!.copy % 4).toNat]!.token+1⟩:DeviceOp) ((((l[k]!).crash) % 3).toNat:Int)).2) (0:Int) rfl rfl (AE (AB (AK (((AV (s.d[(((l[k]!).device).toNat) % s.d.length]!) (⟨(((((l[k]!).device).toNat) % s.d.length:Nat):Int),s.d[l[k]!.device.toNat % s.d.length]!.counter+1,(1:Int),((((l[k]!).copy) % 4).toNat:Int),(((((l[k]!).other).toNat) % s.d.length:Nat):Int),(AI s.d[l[k]!.device.toNat % s.d.length]!.ops 4 0).1[(l[k]!.copy % 4).toNat]!.token+1⟩:DeviceOp) ((((l[k]!).crash) % 3).toNat:Int)).2) != (0:Int)) rfl rfl (fun aH=>?_) (fun aH=>?_)))))))))))))))
       ·have ov:(AV (s.d[(((l[k]!).device).toNat) % s.d.length]!) (⟨(((((l[k]!).device).toNat) % s.d.length:Nat):Int),s.d[l[k]!.device.toNat % s.d.length]!.counter+1,(1:Int),((((l[k]!).copy) % 4).toNat:Int),(((((l[k]!).other).toNat) % s.d.length:Nat):Int),(AI s.d[l[k]!.device.toNat % s.d.length]!.ops 4 0).1[(l[k]!.copy % 4).toNat]!.token+1⟩:DeviceOp) ((((l[k]!).crash) % 3).toNat:Int)).2≠(0:Int):=by simpa using aH
        refine AG (AD kR (AC (AQ (vs:=[b0,a1,a3,a2]) U29_ rfl CL rfl a8 rfl (BK (AU (vs:=[b0,a1,a3,a2]) (.agg #[b0,a1,a3,a2]) rfl rfl rfl CL (fun u hu=>by simp only [List.mem_cons,List.not_mem_nil,or_false] at hu;rcases hu with rfl|rfl|rfl|rfl <;> first|exact a4.oneCell|exact ho1_b9863_1.oneCell|exact ho1_b9863_2.oneCell|exact ho1_b9863_3.oneCell) rC a5 oT eB fun ri lr O5 O6 hn=>(?_))))))
        have a4:=a4.mv O5 O6 (fun b hb=>AJ (e8 b hb))
        have ho1_b9863_1:=ho1_b9863_1.mv O5 O6 (fun b hb=>AJ (f6 b hb))
        have ho1_b9863_2:=ho1_b9863_2.mv O5 O6 (fun b hb=>AJ (f3 b hb))
        have ho1_b9863_3:=ho1_b9863_3.mv O5 O6 (fun b hb=>AJ (f5 b hb))
        have b1:=b1.mv O5
        have a0:=a0.keep O6 (AJ i8)
        have hT:=by exact hT.mvB O5 O6 aS (by decide) (fun x hx=>by exact hx)
        refine AE (AB (AS (AN (BC (AN (AZ rfl (FN (vs:=[b0,a1,a3,a2]) rfl rfl U29_ rfl CL rfl hn rfl) (Exists.intro _ (And.intro rfl (BK (AU (vs:=[b0,a1,a3,a2]) (.agg #[b0,a1,a3,a2]) rfl rfl rfl CL (fun u hu=>by simp only [List.mem_cons,List.not_mem_nil,or_false] at hu;rcases hu with rfl|rfl|rfl|rfl <;> first|exact a4.oneCell|exact ho1_b9863_1.oneCell|exact ho1_b9863_2.oneCell|exact ho1_b9863_3.oneCell) rC a0 oT lr fun rj ls O7 T2 ho=>(?_)))))))))))
        have b1:=b1.mv O7
        have a4:=a4.mv O7 T2 (fun b hb=>AJ (d8 b hb))
        have ho1_b9863_1:=ho1_b9863_1.mv O7 T2 (fun b hb=>AJ (nb1_b9863_1_b9863 b hb))
        have ho1_b9863_2:=ho1_b9863_2.mv O7 T2 (fun b hb=>AJ (nb1_b9863_2_b9863 b hb))
        have ho1_b9863_3:=ho1_b9863_3.mv O7 T2 (fun b hb=>AJ (nb1_b9863_3_b9863 b hb))
        have hT:=by exact hT.mvB O7 T2 aS (by decide) (fun x hx=>by exact hx)
        refine AE (AW (AB (AD kR (AC (AF (vI ((k:Nat):Int)) rfl (AC (CE .i64 ((k:Nat):Int) (1:Int) (((k+1:Nat):Int)) rfl rfl (EP oM oM) (AC (AH (vI ((k+1:Nat):Int)) rfl (AE (AB (?_))))))))))))
        exact ⟨_,oM,(k+1),(s),(L),b0,a1,a3,a2,(f9 :: (d2 :: a9)),oM,(by exact GP hI),hT,rfl,⟨_,AL _ ⟨rfl,rfl,(by rfl),rfl,trivial⟩⟩,ls,a4,c3,ho1_b9863_1,b2,ho1_b9863_2,b7,ho1_b9863_3,b4,b1,ho,(by (repeat (first|assumption|apply List.mem_cons_of_mem))),d8,nb1_b9863_1_b9863,nb1_b9863_2_b9863,nb1_b9863_3_b9863,(fun b hb e=>c4 b e hb),(fun b hb e=>c5 b e hb),(fun b hb e=>c6 b e hb),c4,nn1_b9863_1_b9863_2,nn1_b9863_1_b9863_3,c5,nn1_b9863_2_b9863_1,nn1_b9863_2_b9863_3,c6,nn1_b9863_3_b9863_1,nn1_b9863_3_b9863_2⟩
       have ow:(AV (s.d[(((l[k]!).device).toNat) % s.d.length]!) (⟨(((((l[k]!).device).toNat) % s.d.length:Nat):Int),s.d[l[k]!.device.toNat % s.d.length]!.counter+1,(1:Int),((((l[k]!).copy) % 4).toNat:Int),(((((l[k]!).other).toNat) % s.d.length:Nat):Int),(AI s.d[l[k]!.device.toNat % s.d.length]!.ops 4 0).1[(l[k]!.copy % 4).toNat]!.token+1⟩:DeviceOp) ((((l[k]!).crash) % 3).toNat:Int)).2=(0:Int):=by simpa using aH
       refine AT (AB (AG (AD kR (AC (AF (b0) rfl (AC (AF (vI (((((l[k]!).device).toNat) % s.d.length:Nat):Int)) rfl (AC (AQ (vs:=[vI (((AV (s.d[(((l[k]!).device).toNat) % s.d.length]!) (⟨(((((l[k]!).device).toNat) % s.d.length:Nat):Int),s.d[l[k]!.device.toNat % s.d.length]!.counter+1,(1:Int),((((l[k]!).copy) % 4).toNat:Int),(((((l[k]!).other).toNat) % s.d.length:Nat):Int),(AI s.d[l[k]!.device.toNat % s.d.length]!.ops 4 0).1[(l[k]!.copy % 4).toNat]!.token+1⟩:DeviceOp) ((((l[k]!).crash) % 3).toNat:Int)).1).id),vI (((AV (s.d[(((l[k]!).device).toNat) % s.d.length]!) (⟨(((((l[k]!).device).toNat) % s.d.length:Nat):Int),s.d[l[k]!.device.toNat % s.d.length]!.counter+1,(1:Int),((((l[k]!).copy) % 4).toNat:Int),(((((l[k]!).other).toNat) % s.d.length:Nat):Int),(AI s.d[l[k]!.device.toNat % s.d.length]!.ops 4 0).1[(l[k]!.copy % 4).toNat]!.token+1⟩:DeviceOp) ((((l[k]!).crash) % 3).toNat:Int)).1).counter),bz,vO (((AV (s.d[(((l[k]!).device).toNat) % s.d.length]!) (⟨(((((l[k]!).device).toNat) % s.d.length:Nat):Int),s.d[l[k]!.device.toNat % s.d.length]!.counter+1,(1:Int),((((l[k]!).copy) % 4).toNat:Int),(((((l[k]!).other).toNat) % s.d.length:Nat):Int),(AI s.d[l[k]!.device.toNat % s.d.length]!.ops 4 0).1[(l[k]!.copy % 4).toNat]!.token+1⟩:DeviceOp) ((((l[k]!).crash) % 3).toNat:Int)).1).halted)]) U31_ rfl BG rfl F6 rfl (AC (DO U24_ BG .i64 (((((l[k]!).device).toNat) % s.d.length:Nat):Int) ((((l[k]!).device).toNat) % s.d.length) rfl rfl rfl a4 oM fun rk h8=>(BK (DW ((AV (s.d[(((l[k]!).device).toNat) % s.d.length]!) (⟨(((((l[k]!).device).toNat) % s.d.length:Nat):Int),s.d[l[k]!.device.toNat % s.d.length]!.counter+1,(1:Int),((((l[k]!).copy) % 4).toNat:Int),(((((l[k]!).other).toNat) % s.d.length:Nat):Int),(AI s.d[l[k]!.device.toNat % s.d.length]!.ops 4 0).1[(l[k]!.copy % 4).toNat]!.token+1⟩:DeviceOp) ((((l[k]!).crash) % 3).toNat:Int)).1) (by decide) BG rfl rfl a4 h8 (c3 _ h8) oM ⟨_,rfl,O4⟩ eB fun lu eC y0 u3 q2=>(?_))))))))))))))
       have a7:Enc.doing.rd lu ((f9 :: (d2 :: a9))++O) b9 (l[k]!):=Enc.mv Enc.doing (x:=l[k]!) a7 y0
       have b6:=b6.mv y0
       have ho1_b9863_0:=ho1_b9863_0.mv y0 u3 (fun b hb=>by simp only [List.mem_singleton];rintro rfl;exact absurd h8 (V8 _ hb))
       have b1:=b1.mv y0
       have a6:=a6.mv y0
       have a0:=a0.keep u3 (by simp only [List.mem_singleton];exact fun e=>absurd e.symm (d8 _ h8))
       have ho1_b9863_1:=ho1_b9863_1.mv y0 u3 (fun b hb=>by simp only [List.mem_singleton];rintro rfl;exact absurd h8 (c4 _ hb))
       have ho1_b9863_2:=ho1_b9863_2.mv y0 u3 (fun b hb=>by simp only [List.mem_singleton];rintro rfl;exact absurd h8 (c5 _ hb))
       have ho1_b9863_3:=ho1_b9863_3.mv y0 u3 (fun b hb=>by simp only [List.mem_singleton];rintro rfl;exact absurd h8 (c6 _ hb))
       have a8:=a8.keep u3 (by simp only [List.mem_singleton];exact fun e=>absurd e.symm (f1 _ h8))
       have a5:=a5.keep u3 (by simp only [List.mem_singleton];exact fun e=>absurd e.symm (e8 _ h8))
       have e2:=e2.keep u3 (by simp only [List.mem_singleton];exact fun e=>absurd e.symm (N8 _ h8))
       have F6:=F6.keep u3 (by simp only [List.mem_singleton];exact fun e=>absurd e.symm (dc _ h8))
       have hT:=hT.mvO y0 u3 a4 (fun b hq=>by have hq:=List.mem_singleton.1 hq;subst hq;exact h8) (by decide) (fun x hx=>by exact hx)
       refine AE (AB (AG (AD kR (AC (AP 4 GE ((l[k]!).crash) rfl b6 (fun _ _ _ h=>CM h) fun rl hp=>(AC (CU U5_ rfl rfl hp (AC (DY ((l[k]!).crash) (3:UInt8) (by decide) rfl rfl (AC (EG (((l[k]!).crash) % 3) (2:UInt8) rfl rfl (AE (AB (AK ((((l[k]!).crash) % 3) == (2:UInt8)) rfl rfl (fun aI=>?_) (fun aI=>?_)))))))))))))))
       ·have ox:((l[k]!).crash) % 3=(2:UInt8):=by simpa using aI
        refine AG (AD kR (AC (AM 2 EE rfl (AC (AR U26_ rfl (a3) rfl a8 rfl (AC (AQ (vs:=[vI (((((l[k]!).device).toNat) % s.d.length:Nat):Int),vI (s.d[l[k]!.device.toNat % s.d.length]!.counter+1),vI 1,vI ((((l[k]!).copy) % 4).toNat:Int),vI (((((l[k]!).other).toNat) % s.d.length:Nat):Int),vI ((AI s.d[l[k]!.device.toNat % s.d.length]!.ops 4 0).1[(l[k]!.copy % 4).toNat]!.token+1)]) U40_ rfl BX rfl e2 rfl (AC (EY (E:=Enc.devop) (xs:=[.tmp 135]) U26_ BX HC (by decide) [.agg #[vI (((((l[k]!).device).toNat) % s.d.length:Nat):Int),vI (s.d[l[k]!.device.toNat % s.d.length]!.counter+1),vI 1,vI ((((l[k]!).copy) % 4).toNat:Int),vI (((((l[k]!).other).toNat) % s.d.length:Nat):Int),vI ((AI s.d[l[k]!.device.toNat % s.d.length]!.ops 4 0).1[(l[k]!.copy % 4).toNat]!.token+1)]] [[vI (((((l[k]!).device).toNat) % s.d.length:Nat):Int),vI (s.d[l[k]!.device.toNat % s.d.length]!.counter+1),vI 1,vI ((((l[k]!).copy) % 4).toNat:Int),vI (((((l[k]!).other).toNat) % s.d.length:Nat):Int),vI ((AI s.d[l[k]!.device.toNat % s.d.length]!.ops 4 0).1[(l[k]!.copy % 4).toNat]!.token+1)]] [(⟨(((((l[k]!).device).toNat) % s.d.length:Nat):Int),s.d[l[k]!.device.toNat % s.d.length]!.counter+1,(1:Int),((((l[k]!).copy) % 4).toNat:Int),(((((l[k]!).other).toNat) % s.d.length:Nat):Int),(AI s.d[l[k]!.device.toNat % s.d.length]!.ops 4 0).1[(l[k]!.copy % 4).toNat]!.token+1⟩:DeviceOp)] rfl rfl rfl (Parts.cons rfl rfl (Parts.nil _ _ _)) oT eC fun rm lw lx y1 o8 df=>(?_))))))))))
        have a7:Enc.doing.rd lw ((f9 :: (d2 :: a9))++O) b9 (l[k]!):=Enc.mv Enc.doing (x:=l[k]!) a7 y1
        have q2:=q2.mv y1 o8 (by simp)
        have ho1_b9863_0:=ho1_b9863_0.mv y1 o8 (by simp)
        have ho1_b9863_2:=ho1_b9863_2.mv y1 o8 (by simp)
        have b1:=b1.mv y1
        have a6:=a6.mv y1
        have a0:=a0.keep o8 (by simp)
        have ho1_b9863_1:=ho1_b9863_1.mv y1 o8 (by simp)
        have ho1_b9863_3:=ho1_b9863_3.mv y1 o8 (by simp)
        have a8:=a8.keep o8 (by simp)
        have a5:=a5.keep o8 (by simp)
        have e2:=e2.keep o8 (by simp)
        have F6:=F6.keep o8 (by simp)
        have hT:=by exact hT.mv0 y1 o8 (fun x hx=>by exact hx)
        have:=df.len_le
        refine AC (CT (E:=Enc.devop) (l:=s.done) (m:=[(⟨(((((l[k]!).device).toNat) % s.d.length:Nat):Int),s.d[l[k]!.device.toNat % s.d.length]!.counter+1,(1:Int),((((l[k]!).copy) % 4).toNat:Int),(((((l[k]!).other).toNat) % s.d.length:Nat):Int),(AI s.d[l[k]!.device.toNat % s.d.length]!.ops 4 0).1[(l[k]!.copy % 4).toNat]!.token+1⟩:DeviceOp)]) U26_ OB rfl (by decide) rfl rfl ho1_b9863_2 df (fun _ hb=>.inl hb) b7 (by simp;omega) (by simp [maxLen];omega) lx fun o9 ly l0 hr q3 i7 lz H4 C1 W3=>(?_))
        have dg:∀ b,b0.ownBlock=some b→o9.ownBlock≠some b:=fun b hb e=>by rcases q3 with e1|e1 <;> rw [e1] at e <;> first|(cases e;have:=(q2.lt _ hb).2;omega)|(exact absurd e ((fun b hb e=>c5 b e hb) b hb))
        have oy:∀ b,b3.ownBlock=some b→o9.ownBlock≠some b:=fun b hb e=>by rcases q3 with e1|e1 <;> rw [e1] at e <;> first|(cases e;have:=(ho1_b9863_0.lt _ hb).2;omega)|(exact absurd e (nn1_b9863_0_b9863_2 b hb))
        have dh:∀ b,a1.ownBlock=some b→o9.ownBlock≠some b:=fun b hb e=>by rcases q3 with e1|e1 <;> rw [e1] at e <;> first|(cases e;have:=(ho1_b9863_1.lt _ hb).2;omega)|(exact absurd e (nn1_b9863_1_b9863_2 b hb))
        have di:∀ b,a2.ownBlock=some b→o9.ownBlock≠some b:=fun b hb e=>by rcases q3 with e1|e1 <;> rw [e1] at e <;> first|(cases e;have:=(ho1_b9863_3.lt _ hb).2;omega)|(exact absurd e (nn1_b9863_3_b9863_2 b hb))
        have ht:∀ b,o9.ownBlock=some b→b≠b8:=fun b hb=>by rcases q3 with e1|e1 <;> rw [e1] at hb <;> first|(cases hb;have:=a0.lt;omega)|(exact nb1_b9863_2_b9863 b hb)
        have dj:∀ b,o9.ownBlock=some b→b≠c2:=fun b hb=>by rcases q3 with e1|e1 <;> rw [e1] at hb <;> first|(cases hb;have:=a8.lt;omega)|(exact g4 b hb)
        have hv:∀ b,o9.ownBlock=some b→b≠c7:=fun b hb=>by rcases q3 with e1|e1 <;> rw [e1] at hb <;> first|(cases hb;have:=a5.lt;omega)|(exact f3 b hb)
        have oz:∀ b,o9.ownBlock=some b→b≠d2:=fun b hb=>by rcases q3 with e1|e1 <;> rw [e1] at hb <;> first|(cases hb;have:=e2.lt;omega)|(exact A3 b hb)
        have oA:∀ b,o9.ownBlock=some b→b≠f9:=fun b hb=>by rcases q3 with e1|e1 <;> rw [e1] at hb <;> first|(cases hb;have:=F6.lt;omega)|(exact dd b hb)
        have c3:∀ b,b0.ownBlock=some b→b∈l0:=fun b hb=>i7 b (c3 b hb)
        have c8:∀ b,b3.ownBlock=some b→b∈l0:=fun b hb=>i7 b (c8 b hb)
        have b2:∀ b,a1.ownBlock=some b→b∈l0:=fun b hb=>i7 b (b2 b hb)
        have b4:∀ b,a2.ownBlock=some b→b∈l0:=fun b hb=>i7 b (b4 b hb)
        have e9:b8∈l0:=i7 b8 rC
        have h9:c2∈l0:=i7 c2 rC
        have i0:c7∈l0:=i7 c7 rC
        have dM:d2∈l0:=i7 d2 (by repeat (constructor))
        have nl:f9∈l0:=i7 f9 (by repeat (constructor))
        have a7:Enc.doing.rd ly (l0++O) b9 (l[k]!):=Enc.mv Enc.doing (x:=l[k]!) a7 H4
        have q2:=q2.mv H4 C1 (fun b hb=>by simp only [Option.mem_toList];exact (fun b hb e=>c5 b e hb) b hb)
        have b1:=b1.mv H4
        have a6:=a6.mv H4
        have a0:=a0.keep C1 (by simp only [Option.mem_toList];exact fun e=>absurd rfl (nb1_b9863_2_b9863 _ e))
        have ho1_b9863_1:=ho1_b9863_1.mv H4 C1 (fun b hb=>by simp only [Option.mem_toList];exact nn1_b9863_1_b9863_2 b hb)
        have ho1_b9863_3:=ho1_b9863_3.mv H4 C1 (fun b hb=>by simp only [Option.mem_toList];exact nn1_b9863_3_b9863_2 b hb)
        have a8:=a8.keep C1 (by simp only [Option.mem_toList];exact fun e=>absurd rfl (g4 _ e))
        have a5:=a5.keep C1 (by simp only [Option.mem_toList];exact fun e=>absurd rfl (f3 _ e))
        have e2:=e2.keep C1 (by simp only [Option.mem_toList];exact fun e=>absurd rfl (A3 _ e))
        have hT:=hT.mvO H4 C1 ho1_b9863_2 (fun b hb=>Option.mem_toList.1 hb) (by decide) i7
        refine AC (AM 2 EE rfl (BK (BP (o9) rfl rfl W3.oneCell HR (by repeat (assumption)) a8 oT lz fun lA lB C2 C3 hw=>(?_))))
        have a7:Enc.doing.rd lA (l0++O) b9 (l[k]!):=Enc.mv Enc.doing (x:=l[k]!) a7 C2
        have q2:=q2.mv C2 C3 (fun b hb=>AJ (f1 b hb))
        have W3:=W3.mv C2 C3 (fun b hb=>AJ (dj b hb))
        have b1:=b1.mv C2
        have a6:=a6.mv C2
        have a0:=a0.keep C3 (AJ z6)
        have ho1_b9863_1:=ho1_b9863_1.mv C2 C3 (fun b hb=>AJ (g1 b hb))
        have ho1_b9863_3:=ho1_b9863_3.mv C2 C3 (fun b hb=>AJ (g3 b hb))
        have a5:=a5.keep C3 (AJ (Ne.symm z7))
        have e2:=e2.keep C3 (AJ (Ne.symm N7))
        have hT:=by exact hT.mvB C2 C3 aS (by decide) (fun x hx=>by exact hx)
        refine AE (AB (AG (AD kR (AC (AM 2 GB rfl (AC (AR U3_ rfl (vI 1) rfl e2 rfl (AC (DC .i64 (1:Int) (2:Int) rfl rfl (AE (AB (AK false rfl rfl (fun h=>by cases h) (fun _=>AT (AW (AB (?_))))))))))))))))
        exact ⟨((⟨s.d.set ((((l[k]!).device).toNat) % s.d.length) ((AV (s.d[(((l[k]!).device).toNat) % s.d.length]!) (⟨(((((l[k]!).device).toNat) % s.d.length:Nat):Int),s.d[l[k]!.device.toNat % s.d.length]!.counter+1,(1:Int),((((l[k]!).copy) % 4).toNat:Int),(((((l[k]!).other).toNat) % s.d.length:Nat):Int),(AI s.d[l[k]!.device.toNat % s.d.length]!.ops 4 0).1[(l[k]!.copy % 4).toNat]!.token+1⟩:DeviceOp) ((((l[k]!).crash) % 3).toNat:Int)).1),s.b,s.done++([(⟨(((((l[k]!).device).toNat) % s.d.length:Nat):Int),s.d[l[k]!.device.toNat % s.d.length]!.counter+1,(1:Int),((((l[k]!).copy) % 4).toNat:Int),(((((l[k]!).other).toNat) % s.d.length:Nat):Int),(AI s.d[l[k]!.device.toNat % s.d.length]!.ops 4 0).1[(l[k]!.copy % 4).toNat]!.token+1⟩:DeviceOp)]),s.shown⟩:HouseR)),(L),b0,a1,o9,a2,l0,(by (rw [lv_a2g aS (HP aS aS aS) (by rw [HA aS];assumption) aS];(rw [HA aS];rfl))),hT,trivial,⟨_,AL _ ⟨rfl,rfl,rfl,trivial⟩⟩,lB,q2,c3,ho1_b9863_1,b2,W3,hr,ho1_b9863_3,b4,b1,a6,a7,hw,aS,a5,aS,a0,aS,f1,e8,d8,g1,f6,nb1_b9863_1_b9863,dj,hv,ht,g3,f5,nb1_b9863_3_b9863,(fun b hb e=>c4 b e hb),dg,(fun b hb e=>c6 b e hb),c4,dh,nn1_b9863_1_b9863_3,(fun b hb e=>dg b e hb),(fun b hb e=>dh b e hb),(fun b hb e=>di b e hb),c6,nn1_b9863_3_b9863_1,di⟩
       have oB:((l[k]!).crash) % 3≠(2:UInt8):=by simpa using aI
       refine AT (AW (AB (?_)))
       exact ⟨((⟨s.d.set ((((l[k]!).device).toNat) % s.d.length) ((AV (s.d[(((l[k]!).device).toNat) % s.d.length]!) (⟨(((((l[k]!).device).toNat) % s.d.length:Nat):Int),s.d[l[k]!.device.toNat % s.d.length]!.counter+1,(1:Int),((((l[k]!).copy) % 4).toNat:Int),(((((l[k]!).other).toNat) % s.d.length:Nat):Int),(AI s.d[l[k]!.device.toNat % s.d.length]!.ops 4 0).1[(l[k]!.copy % 4).toNat]!.token+1⟩:DeviceOp) ((((l[k]!).crash) % 3).toNat:Int)).1),s.b,s.done,s.shown⟩:HouseR)),(L),b0,a1,a3,a2,(f9 :: (d2 :: a9)),(by (rw [NQ (.inr aS) (HP aS aS aS) (by rw [HA aS];assumption) aS];(rw [HA aS];rfl))),hT,trivial,⟨_,AL _ ⟨rfl,rfl,rfl,trivial⟩⟩,eC,q2,c3,ho1_b9863_1,b2,ho1_b9863_2,b7,ho1_b9863_3,b4,b1,a6,a7,a8,(by (repeat (first|assumption|apply List.mem_cons_of_mem))),a5,(by (repeat (first|assumption|apply List.mem_cons_of_mem))),a0,(by (repeat (first|assumption|apply List.mem_cons_of_mem))),f1,e8,d8,g1,f6,nb1_b9863_1_b9863,g4,f3,nb1_b9863_2_b9863,g3,f5,nb1_b9863_3_b9863,(fun b hb e=>c4 b e hb),(fun b hb e=>c5 b e hb),(fun b hb e=>c6 b e hb),c4,nn1_b9863_1_b9863_2,nn1_b9863_1_b9863_3,c5,nn1_b9863_2_b9863_1,nn1_b9863_2_b9863_3,c6,nn1_b9863_3_b9863_1,nn1_b9863_3_b9863_2⟩
      have oC:((BY ((s.d[(((l[k]!).device).toNat) % s.d.length]!).ops) (4:Int) (0:Int) (((((l[k]!).device).toNat) % s.d.length:Nat):Int) ((((l[k]!).copy) % 4).toNat:Int)).1)=false:=by simpa using cS
      refine AX rfl (AX rfl (AX rfl (AC (BA (vO true) rfl rfl (AE (AB (AK true rfl rfl (fun _=>AG (AD kR (AC (AQ (vs:=[b0,a1,a3,a2]) U29_ rfl CL rfl a8 rfl (BK (AU (vs:=[b0,a1,a3,a2]) (.agg #[b0,a1,a3,a2]) rfl rfl rfl CL (fun u hu=>by simp only [List.mem_cons,List.not_mem_nil,or_false] at hu;rcases hu with rfl|rfl|rfl|rfl <;> first|exact a4.oneCell|exact ho1_b9863_1.oneCell|exact ho1_b9863_2.oneCell|exact ho1_b9863_3.oneCell) (by repeat (assumption)) a5 oT Y0 fun rn lC O8 O9 hy=>(?_))))))) (fun h=>by cases h))))))))
      have a4:=a4.mv O8 O9 (fun b hb=>AJ (e8 b hb))
      have ho1_b9863_1:=ho1_b9863_1.mv O8 O9 (fun b hb=>AJ (f6 b hb))
      have ho1_b9863_2:=ho1_b9863_2.mv O8 O9 (fun b hb=>AJ (f3 b hb))
      have ho1_b9863_3:=ho1_b9863_3.mv O8 O9 (fun b hb=>AJ (f5 b hb))
      have b1:=b1.mv O8
      have a0:=a0.keep O9 (AJ i8)
      have hT:=by exact hT.mvB O8 O9 aS (by decide) (fun x hx=>by exact hx)
      refine AE (AB (AS (AN (BC (AN (AZ rfl (FN (vs:=[b0,a1,a3,a2]) rfl rfl U29_ rfl CL rfl hy rfl) (Exists.intro _ (And.intro rfl (BK (AU (vs:=[b0,a1,a3,a2]) (.agg #[b0,a1,a3,a2]) rfl rfl rfl CL (fun u hu=>by simp only [List.mem_cons,List.not_mem_nil,or_false] at hu;rcases hu with rfl|rfl|rfl|rfl <;> first|exact a4.oneCell|exact ho1_b9863_1.oneCell|exact ho1_b9863_2.oneCell|exact ho1_b9863_3.oneCell) (by repeat (assumption)) a0 oT lC fun ro lD P0 T3 hz=>(?_)))))))))))
      have b1:=b1.mv P0
      have a4:=a4.mv P0 T3 (fun b hb=>AJ (d8 b hb))
      have ho1_b9863_1:=ho1_b9863_1.mv P0 T3 (fun b hb=>AJ (nb1_b9863_1_b9863 b hb))
      have ho1_b9863_2:=ho1_b9863_2.mv P0 T3 (fun b hb=>AJ (nb1_b9863_2_b9863 b hb))
      have ho1_b9863_3:=ho1_b9863_3.mv P0 T3 (fun b hb=>AJ (nb1_b9863_3_b9863 b hb))
      have hT:=by exact hT.mvB P0 T3 aS (by decide) (fun x hx=>by exact hx)
      refine AE (AW (AB (AD kR (AC (AF (vI ((k:Nat):Int)) rfl (AC (CE .i64 ((k:Nat):Int) (1:Int) (((k+1:Nat):Int)) rfl rfl (EP oM oM) (AC (AH (vI ((k+1:Nat):Int)) rfl (AE (AB (?_))))))))))))
      exact ⟨_,oM,(k+1),(s),(L),b0,a1,a3,a2,a9,oM,(by exact GP hI),hT,rfl,⟨_,AL _ ⟨rfl,rfl,(by rfl),rfl,trivial⟩⟩,lD,a4,c3,ho1_b9863_1,b2,ho1_b9863_2,b7,ho1_b9863_3,b4,b1,hz,aS,d8,nb1_b9863_1_b9863,nb1_b9863_2_b9863,nb1_b9863_3_b9863,(fun b hb e=>c4 b e hb),(fun b hb e=>c5 b e hb),(fun b hb e=>c6 b e hb),c4,nn1_b9863_1_b9863_2,nn1_b9863_1_b9863_3,c5,nn1_b9863_2_b9863_1,nn1_b9863_2_b9863_3,c6,nn1_b9863_3_b9863_1,nn1_b9863_3_b9863_2⟩
     have oD:(BY ((s.d[(((l[k]!).device).toNat) % s.d.length]!).ops) (4:Int) (0:Int) (((((l[k]!).device).toNat) % s.d.length:Nat):Int) ((((l[k]!).copy) % 4).toNat:Int)).2≠(0:Int):=by simpa using cR
     refine AX rfl (AX rfl (AC (BA (vO true) rfl rfl (AC (AF (vO true) rfl (AX rfl (AX rfl (AX rfl (AC (BA (vO true) rfl rfl (AE (AB (AK true rfl rfl (fun _=>AG (AD kR (AC (AQ (vs:=[b0,a1,a3,a2]) U29_ rfl CL rfl a8 rfl (BK (AU (vs:=[b0,a1,a3,a2]) (.agg #[b0,a1,a3,a2]) rfl rfl rfl CL (fun u hu=>by simp only [List.mem_cons,List.not_mem_nil,or_false] at hu;rcases hu with rfl|rfl|rfl|rfl <;> first|exact a4.oneCell|exact ho1_b9863_1.oneCell|exact ho1_b9863_2.oneCell|exact ho1_b9863_3.oneCell) (by repeat (assumption)) a5 oT Y0 fun rp lE P1 P2 hA=>(?_))))))) (fun h=>by cases h))))))))))))))
     have a4:=a4.mv P1 P2 (fun b hb=>AJ (e8 b hb))
     have ho1_b9863_1:=ho1_b9863_1.mv P1 P2 (fun b hb=>AJ (f6 b hb))
     have ho1_b9863_2:=ho1_b9863_2.mv P1 P2 (fun b hb=>AJ (f3 b hb))
     have ho1_b9863_3:=ho1_b9863_3.mv P1 P2 (fun b hb=>AJ (f5 b hb))
     have b1:=b1.mv P1
     have a0:=a0.keep P2 (AJ i8)
     have hT:=by exact hT.mvB P1 P2 aS (by decide) (fun x hx=>by exact hx)
     refine AE (AB (AS (AN (BC (AN (AZ rfl (FN (vs:=[b0,a1,a3,a2]) rfl rfl U29_ rfl CL rfl hA rfl) (Exists.intro _ (And.intro rfl (BK (AU (vs:=[b0,a1,a3,a2]) (.agg #[b0,a1,a3,a2]) rfl rfl rfl CL (fun u hu=>by simp only [List.mem_cons,List.not_mem_nil,or_false] at hu;rcases hu with rfl|rfl|rfl|rfl <;> first|exact a4.oneCell|exact ho1_b9863_1.oneCell|exact ho1_b9863_2.oneCell|exact ho1_b9863_3.oneCell) (by repeat (assumption)) a0 oT lE fun rq lF P3 T4 hB=>(?_)))))))))))
     have b1:=b1.mv P3
     have a4:=a4.mv P3 T4 (fun b hb=>AJ (d8 b hb))
     have ho1_b9863_1:=ho1_b9863_1.mv P3 T4 (fun b hb=>AJ (nb1_b9863_1_b9863 b hb))
     have ho1_b9863_2:=ho1_b9863_2.mv P3 T4 (fun b hb=>AJ (nb1_b9863_2_b9863 b hb))
     have ho1_b9863_3:=ho1_b9863_3.mv P3 T4 (fun b hb=>AJ (nb1_b9863_3_b9863 b hb))
     have hT:=by exact hT.mvB P3 T4 aS (by decide) (fun x hx=>by exact hx)
     refine AE (AW (AB (AD kR (AC (AF (vI ((k:Nat):Int)) rfl (AC (CE .i64 ((k:Nat):Int) (1:Int) (((k+1:Nat):Int)) rfl rfl (EP oM oM) (AC (AH (vI ((k+1:Nat):Int)) rfl (AE (AB (?_))))))))))))
     exact ⟨_,oM,(k+1),(s),(L),b0,a1,a3,a2,a9,oM,(by exact GP hI),hT,rfl,⟨_,AL _ ⟨rfl,rfl,(by rfl),rfl,trivial⟩⟩,lF,a4,c3,ho1_b9863_1,b2,ho1_b9863_2,b7,ho1_b9863_3,b4,b1,hB,aS,d8,nb1_b9863_1_b9863,nb1_b9863_2_b9863,nb1_b9863_3_b9863,(fun b hb e=>c4 b e hb),(fun b hb e=>c5 b e hb),(fun b hb e=>c6 b e hb),c4,nn1_b9863_1_b9863_2,nn1_b9863_1_b9863_3,c5,nn1_b9863_2_b9863_1,nn1_b9863_2_b9863_3,c6,nn1_b9863_3_b9863_1,nn1_b9863_3_b9863_2⟩
    have oE:(AI ((s.d[(((l[k]!).device).toNat) % s.d.length]!).ops) (4:Int) (0:Int)).2≠(0:Int):=by simpa using cQ
    refine AX rfl (AX rfl (AC (BA (vO true) rfl rfl (AC (AF (vO true) rfl (AX rfl (AX rfl (AC (BA (vO true) rfl rfl (AC (AF (vO true) rfl (AX rfl (AX rfl (AX rfl (AC (BA (vO true) rfl rfl (AE (AB (AK true rfl rfl (fun _=>AG (AD kR (AC (AQ (vs:=[b0,a1,a3,a2]) U29_ rfl CL rfl a8 rfl (BK (AU (vs:=[b0,a1,a3,a2]) (.agg #[b0,a1,a3,a2]) rfl rfl rfl CL (fun u hu=>by simp only [List.mem_cons,List.not_mem_nil,or_false] at hu;rcases hu with rfl|rfl|rfl|rfl <;> first|exact a4.oneCell|exact ho1_b9863_1.oneCell|exact ho1_b9863_2.oneCell|exact ho1_b9863_3.oneCell) (by repeat (assumption)) a5 oT Y0 fun rr lG P4 P5 hC=>(?_))))))) (fun h=>by cases h))))))))))))))))))))
    have a4:=a4.mv P4 P5 (fun b hb=>AJ (e8 b hb))
    have ho1_b9863_1:=ho1_b9863_1.mv P4 P5 (fun b hb=>AJ (f6 b hb))
    have ho1_b9863_2:=ho1_b9863_2.mv P4 P5 (fun b hb=>AJ (f3 b hb))
    have ho1_b9863_3:=ho1_b9863_3.mv P4 P5 (fun b hb=>AJ (f5 b hb))
    have b1:=b1.mv P4
    have a0:=a0.keep P5 (AJ i8)
    have hT:=by exact hT.mvB P4 P5 aS (by decide) (fun x hx=>by exact hx)
    refine AE (AB (AS (AN (BC (AN (AZ rfl (FN (vs:=[b0,a1,a3,a2]) rfl rfl U29_ rfl CL rfl hC rfl) (Exists.intro _ (And.intro rfl (BK (AU (vs:=[b0,a1,a3,a2]) (.agg #[b0,a1,a3,a2]) rfl rfl rfl CL (fun u hu=>by simp only [List.mem_cons,List.not_mem_nil,or_false] at hu;rcases hu with rfl|rfl|rfl|rfl <;> first|exact a4.oneCell|exact ho1_b9863_1.oneCell|exact ho1_b9863_2.oneCell|exact ho1_b9863_3.oneCell) (by repeat (assumption)) a0 oT lG fun rt lH P6 T5 hD=>(?_)))))))))))
    have b1:=b1.mv P6
    have a4:=a4.mv P6 T5 (fun b hb=>AJ (d8 b hb))
    have ho1_b9863_1:=ho1_b9863_1.mv P6 T5 (fun b hb=>AJ (nb1_b9863_1_b9863 b hb))
    have ho1_b9863_2:=ho1_b9863_2.mv P6 T5 (fun b hb=>AJ (nb1_b9863_2_b9863 b hb))
    have ho1_b9863_3:=ho1_b9863_3.mv P6 T5 (fun b hb=>AJ (nb1_b9863_3_b9863 b hb))
    have hT:=by exact hT.mvB P6 T5 aS (by decide) (fun x hx=>by exact hx)
    refine AE (AW (AB (AD kR (AC (AF (vI ((k:Nat):Int)) rfl (AC (CE .i64 ((k:Nat):Int) (1:Int) (((k+1:Nat):Int)) rfl rfl (EP oM oM) (AC (AH (vI ((k+1:Nat):Int)) rfl (AE (AB (?_))))))))))))
    exact ⟨_,oM,(k+1),(s),(L),b0,a1,a3,a2,a9,oM,(by exact GP hI),hT,rfl,⟨_,AL _ ⟨rfl,rfl,(by rfl),rfl,trivial⟩⟩,lH,a4,c3,ho1_b9863_1,b2,ho1_b9863_2,b7,ho1_b9863_3,b4,b1,hD,aS,d8,nb1_b9863_1_b9863,nb1_b9863_2_b9863,nb1_b9863_3_b9863,(fun b hb e=>c4 b e hb),(fun b hb e=>c5 b e hb),(fun b hb e=>c6 b e hb),c4,nn1_b9863_1_b9863_2,nn1_b9863_1_b9863_3,c5,nn1_b9863_2_b9863_1,nn1_b9863_2_b9863_3,c6,nn1_b9863_3_b9863_1,nn1_b9863_3_b9863_2⟩
   have oF:((l[k]!).kind) % 6≠(1:UInt8):=by simpa using W1
   refine AG (AD kR (AC (EG (((l[k]!).kind) % 6) (2:UInt8) rfl rfl (AC (AH (vO ((((l[k]!).kind) % 6) == (2:UInt8))) rfl (AE (AB (AK ((((l[k]!).kind) % 6) == (2:UInt8)) rfl rfl (fun aJ=>?_) (fun aJ=>?_)))))))))
   ·have oG:((l[k]!).kind) % 6=(2:UInt8):=by simpa using aJ
    refine AG (FV 10 _ _ kR kR kR kR kR rfl rfl fun T6 u4=>?_)
    have eD:=r2.call u4
    have C4:Mv a9 w1 a9 T6:=Mv.of_keep u4
    have a7:Enc.doing.rd T6 (a9++O) b9 (l[k]!):=Enc.mv Enc.doing (x:=l[k]!) a7 C4
    have a4:=a4.mv C4 u4 (by simp)
    have b1:=b1.mv C4
    have a6:=a6.mv C4
    have a0:=a0.keep u4 (by simp)
    have ho1_b9863_1:=ho1_b9863_1.mv C4 u4 (by simp)
    have ho1_b9863_2:=ho1_b9863_2.mv C4 u4 (by simp)
    have ho1_b9863_3:=ho1_b9863_3.mv C4 u4 (by simp)
    have a8:=a8.keep u4 (by simp)
    have a5:=a5.keep u4 (by simp)
    have hT:=by exact hT.mv0 C4 u4 (fun x hx=>by exact hx)
    refine CA (AF (b0) rfl (CA (AF (vI (((((l[k]!).device).toNat) % s.d.length:Nat):Int)) rfl (CA (BZ U24_ BG .i64 (((((l[k]!).device).toNat) % s.d.length:Nat):Int) ((((l[k]!).device).toNat) % s.d.length) rfl rfl rfl a4.rdB oM fun ru hE=>(CA (AP (E':=(Enc.both (Enc.slice Enc.devop) T6 (a9++O))) 2 EQ ((s.d[(((l[k]!).device).toNat) % s.d.length]!).ops) rfl hE (fun _ _ _ h=>⟨BL h.1,BL h.2⟩) fun rx hF=>(CA (ER U26_ rfl rfl hF fun eE dk=>(?_))))))))))
    have:=dk.len_le
    refine CA (AF (b0) rfl (CA (AF (vI (((((l[k]!).other).toNat) % s.d.length:Nat):Int)) rfl (CA (BZ U24_ BG .i64 (((((l[k]!).other).toNat) % s.d.length:Nat):Int) ((((l[k]!).other).toNat) % s.d.length) rfl rfl rfl a4.rdB oM fun ry hG=>(CA (AP (E':=(Enc.both (Enc.slice Enc.devop) T6 (a9++O))) 2 EQ ((s.d[(((l[k]!).other).toNat) % s.d.length]!).ops) rfl hG (fun _ _ _ h=>⟨BL h.1,BL h.2⟩) fun rz hH=>(CA (ER U26_ rfl rfl hH fun eF dm=>(?_))))))))))
    have:=dm.len_le
    refine HN (AC (BI (vs:=[eE,eF]) enter_31 (c_merge (O:=a9++O) eE ((s.d[(((l[k]!).device).toNat) % s.d.length]!).ops) eF ((s.d[(((l[k]!).other).toNat) % s.d.length]!).ops) T6 dk dm eD.lt) rfl eD fun rA lI eG C5 C6 lJ=>(?_)))
    obtain ⟨T7,rfl,dn⟩:=lJ
    have:=dn.len_le
    have a7:Enc.doing.rd lI (a9++O) b9 (l[k]!):=Enc.mv Enc.doing (x:=l[k]!) a7 C5
    have a4:=a4.mv C5 C6 (by simp)
    have b1:=b1.mv C5
    have a6:=a6.mv C5
    have a0:=a0.keep C6 (by simp)
    have ho1_b9863_1:=ho1_b9863_1.mv C5 C6 (by simp)
    have ho1_b9863_2:=ho1_b9863_2.mv C5 C6 (by simp)
    have ho1_b9863_3:=ho1_b9863_3.mv C5 C6 (by simp)
    have a8:=a8.keep C6 (by simp)
    have a5:=a5.keep C6 (by simp)
    have hT:=by exact hT.mv0 C5 C6 (fun x hx=>by exact hx)
    refine AC (AF (vT #[T7,vI ((BW ((s.d[(((l[k]!).device).toNat) % s.d.length]!).ops) ((s.d[(((l[k]!).other).toNat) % s.d.length]!).ops)).2)]) rfl (AC (BD (T7) rfl rfl (AC (BD (vI ((BW ((s.d[(((l[k]!).device).toNat) % s.d.length]!).ops) ((s.d[(((l[k]!).other).toNat) % s.d.length]!).ops)).2)) rfl rfl (AC (AH (T7) rfl (AC (AH (vI ((BW ((s.d[(((l[k]!).device).toNat) % s.d.length]!).ops) ((s.d[(((l[k]!).other).toNat) % s.d.length]!).ops)).2)) rfl (AE (AB (AG (AD kR (AC (AF (vI ((BW ((s.d[(((l[k]!).device).toNat) % s.d.length]!).ops) ((s.d[(((l[k]!).other).toNat) % s.d.length]!).ops)).2)) rfl (AC (DC .i64 ((BW ((s.d[(((l[k]!).device).toNat) % s.d.length]!).ops) ((s.d[(((l[k]!).other).toNat) % s.d.length]!).ops)).2) (0:Int) rfl rfl (AE (AB (AK (((BW ((s.d[(((l[k]!).device).toNat) % s.d.length]!).ops) ((s.d[(((l[k]!).other).toNat) % s.d.length]!).ops)).2) == (0:Int)) rfl rfl (fun aK=>?_) (fun aK=>?_)))))))))))))))))))))
    ·have oH:(BW ((s.d[(((l[k]!).device).toNat) % s.d.length]!).ops) ((s.d[(((l[k]!).other).toNat) % s.d.length]!).ops)).2=(0:Int):=by simpa using aK
     refine AD kR (AC (AF (b0) rfl (AC (AF (vI (((((l[k]!).device).toNat) % s.d.length:Nat):Int)) rfl (AC (AF (T7) rfl (AC (DO U24_ BG .i64 (((((l[k]!).device).toNat) % s.d.length:Nat):Int) ((((l[k]!).device).toNat) % s.d.length) rfl rfl rfl a4 oM fun rB q4=>(AC (AM 2 EQ rfl (BK (KL (off:=2) (⟨s.d[(((l[k]!).device).toNat) % s.d.length]!.id,s.d[(((l[k]!).device).toNat) % s.d.length]!.counter,(BW ((s.d[(((l[k]!).device).toNat) % s.d.length]!).ops) ((s.d[(((l[k]!).other).toNat) % s.d.length]!).ops)).1,s.d[(((l[k]!).device).toNat) % s.d.length]!.halted⟩:Device) HR rfl rfl a4 q4 (c3 _ q4) oM (by decide) (fun cs hc=>by obtain ⟨d2_,rfl,r2_⟩:=hc;exact ⟨T7,rfl,dn⟩) eG fun lK lL H5 H6 hJ=>(?_)))))))))))))
     have a7:Enc.doing.rd lK (a9++O) b9 (l[k]!):=Enc.mv Enc.doing (x:=l[k]!) a7 H5
     have b1:=b1.mv H5
     have a6:=a6.mv H5
     have a0:=a0.keep H6 (by simp only [List.mem_singleton];exact fun e=>absurd e.symm (d8 _ q4))
     have ho1_b9863_1:=ho1_b9863_1.mv H5 H6 (fun b hb=>by simp only [List.mem_singleton];rintro rfl;exact absurd q4 (c4 _ hb))
     have ho1_b9863_2:=ho1_b9863_2.mv H5 H6 (fun b hb=>by simp only [List.mem_singleton];rintro rfl;exact absurd q4 (c5 _ hb))
     have ho1_b9863_3:=ho1_b9863_3.mv H5 H6 (fun b hb=>by simp only [List.mem_singleton];rintro rfl;exact absurd q4 (c6 _ hb))
     have a8:=a8.keep H6 (by simp only [List.mem_singleton];exact fun e=>absurd e.symm (f1 _ q4))
     have a5:=a5.keep H6 (by simp only [List.mem_singleton];exact fun e=>absurd e.symm (e8 _ q4))
     have hT:=hT.mvO H5 H6 a4 (fun b hq=>by have hq:=List.mem_singleton.1 hq;subst hq;exact q4) (by decide) (fun x hx=>by exact hx)
     refine AE (AW (AB (?_)))
     exact ⟨((⟨s.d.set ((((l[k]!).device).toNat) % s.d.length) (⟨s.d[(((l[k]!).device).toNat) % s.d.length]!.id,s.d[(((l[k]!).device).toNat) % s.d.length]!.counter,(BW ((s.d[(((l[k]!).device).toNat) % s.d.length]!).ops) ((s.d[(((l[k]!).other).toNat) % s.d.length]!).ops)).1,s.d[(((l[k]!).device).toNat) % s.d.length]!.halted⟩:Device),s.b,s.done,s.shown⟩:HouseR)),(L),b0,a1,a3,a2,a9,(by (rw [lv_2y aS aS];rfl)),hT,trivial,⟨_,AL _ ⟨rfl,rfl,rfl,trivial⟩⟩,lL,hJ,c3,ho1_b9863_1,b2,ho1_b9863_2,b7,ho1_b9863_3,b4,b1,a6,a7,a8,aS,a5,aS,a0,aS,f1,e8,d8,g1,f6,nb1_b9863_1_b9863,g4,f3,nb1_b9863_2_b9863,g3,f5,nb1_b9863_3_b9863,(fun b hb e=>c4 b e hb),(fun b hb e=>c5 b e hb),(fun b hb e=>c6 b e hb),c4,nn1_b9863_1_b9863_2,nn1_b9863_1_b9863_3,c5,nn1_b9863_2_b9863_1,nn1_b9863_2_b9863_3,c6,nn1_b9863_3_b9863_1,nn1_b9863_3_b9863_2⟩
    have oI:(BW ((s.d[(((l[k]!).device).toNat) % s.d.length]!).ops) ((s.d[(((l[k]!).other).toNat) % s.d.length]!).ops)).2≠(0:Int):=by simpa using aK
    refine AT (AW (AB (?_)))
    exact ⟨(s),(L),b0,a1,a3,a2,a9,(by (rw [lv_2n aS aS];done)),hT,trivial,⟨_,AL _ ⟨rfl,rfl,rfl,trivial⟩⟩,eG,a4,c3,ho1_b9863_1,b2,ho1_b9863_2,b7,ho1_b9863_3,b4,b1,a6,a7,a8,aS,a5,aS,a0,aS,f1,e8,d8,g1,f6,nb1_b9863_1_b9863,g4,f3,nb1_b9863_2_b9863,g3,f5,nb1_b9863_3_b9863,(fun b hb e=>c4 b e hb),(fun b hb e=>c5 b e hb),(fun b hb e=>c6 b e hb),c4,nn1_b9863_1_b9863_2,nn1_b9863_1_b9863_3,c5,nn1_b9863_2_b9863_1,nn1_b9863_2_b9863_3,c6,nn1_b9863_3_b9863_1,nn1_b9863_3_b9863_2⟩
   have oJ:((l[k]!).kind) % 6≠(2:UInt8):=by simpa using aJ
   refine AG (AD kR (AC (EG (((l[k]!).kind) % 6) (3:UInt8) rfl rfl (AC (AH (vO ((((l[k]!).kind) % 6) == (3:UInt8))) rfl (AE (AB (AK ((((l[k]!).kind) % 6) == (3:UInt8)) rfl rfl (fun aL=>?_) (fun aL=>?_)))))))))
   ·have oK:((l[k]!).kind) % 6=(3:UInt8):=by simpa using aL
    refine ET L[l[k]!.device.toNat % s.d.length]!.ownBlock.toList [] [[(0,4),(1,4),(2,1),(3,1),(4,1),(5,1),(6,1),(7,1),(8,1),(9,1),(10,1),(11,1),(12,2),(13,2),(14,3),(15,1),(16,0)]] (by intro c F d v w hd;simp only [FQ,EZ];exact GW c F d v w hd) kR kR kR fun bA p0=>?_
    have eH:=r2.call p0
    have y2:Mv a9 w1 a9 bA:=Mv.of_keep p0
    have a7:Enc.doing.rd bA (a9++O) b9 (l[k]!):=Enc.mv Enc.doing (x:=l[k]!) a7 y2
    have a4:=a4.mv y2 p0 (by simp)
    have ho1_b9863_0:=ho1_b9863_0.mv y2 p0 (by simp)
    have b1:=b1.mv y2
    have a6:=a6.mv y2
    have a0:=a0.keep p0 (by simp)
    have ho1_b9863_1:=ho1_b9863_1.mv y2 p0 (by simp)
    have ho1_b9863_2:=ho1_b9863_2.mv y2 p0 (by simp)
    have ho1_b9863_3:=ho1_b9863_3.mv y2 p0 (by simp)
    have a8:=a8.keep p0 (by simp)
    have a5:=a5.keep p0 (by simp)
    have hT:=by exact hT.mv0 y2 p0 (fun x hx=>by exact hx)
    refine ⟨?_,trivial⟩
    refine DA rfl (fun w4_ k4_=>AM 1 GA rfl (⟨rfl,rfl⟩)) (DA rfl (fun w4_ k4_=>AR U25_ rfl (a1) rfl (a8.keep k4_ (hT.neB (i:=l[k]!.device.toNat % s.d.length) oM a8 (by decide))) rfl (⟨rfl,rfl⟩)) (AO (AF (vI (((((l[k]!).device).toNat) % s.d.length:Nat):Int)) rfl (CD (AO (AM 1 GA rfl (CD (AO (AR U25_ rfl (a1) rfl a8 rfl (CD (AO (AF (vI (((((l[k]!).device).toNat) % s.d.length:Nat):Int)) rfl (CD (AO (BZ U25_ LR .i64 (((((l[k]!).device).toNat) % s.d.length:Nat):Int) ((((l[k]!).device).toNat) % s.d.length) rfl rfl rfl ho1_b9863_1.rd0 oM fun rD hK=>(CD (AO (KM U58_ rfl rfl hK (CD (AO (AF (b0) rfl (CD (AO (AF (vI (((((l[k]!).device).toNat) % s.d.length:Nat):Int)) rfl (CD (AO (BZ U24_ BG .i64 (((((l[k]!).device).toNat) % s.d.length:Nat):Int) ((((l[k]!).device).toNat) % s.d.length) rfl rfl rfl a4.rdB oM fun rE hL=>(CD (AO (BT U31_ rfl BG rfl hL fun dp aM=>(?_)))))))))))))))))))))))))))))))
    have aM:=aM.2
    refine CD (DU (BI (vs:=[vA dp.toArray]) enter_46 (c_backup (O:=a9++O) dp (s.d[(((l[k]!).device).toNat) % s.d.length]!) bA aM oM eH.lt) rfl eH fun eI lM lN y3 u5 lO=>(?_)))
    obtain ⟨_,rfl,aN⟩:=lO
    have:=aN.len_le
    have a7:Enc.doing.rd lM (a9++O) b9 (l[k]!):=Enc.mv Enc.doing (x:=l[k]!) a7 y3
    have a4:=a4.mv y3 u5 (by simp)
    have ho1_b9863_0:=ho1_b9863_0.mv y3 u5 (by simp)
    have ho1_b9863_1:=ho1_b9863_1.mv y3 u5 (by simp)
    have b1:=b1.mv y3
    have a6:=a6.mv y3
    have a0:=a0.keep u5 (by simp)
    have ho1_b9863_2:=ho1_b9863_2.mv y3 u5 (by simp)
    have ho1_b9863_3:=ho1_b9863_3.mv y3 u5 (by simp)
    have a8:=a8.keep u5 (by simp)
    have a5:=a5.keep u5 (by simp)
    have hT:=by exact hT.mv0 y3 u5 (fun x hx=>by exact hx)
    refine ⟨u5,?_⟩
    refine DU (EY (E:=(Enc.slice Enc.devop)) (xs:=[.tmp 185]) U58_ HR z_26 (by decide) [eI] [[eI]] [(s.d[(((l[k]!).device).toNat) % s.d.length]!).ops] rfl rfl rfl (Parts.cons (HG aN.oneCell) ⟨_,rfl,aN⟩ (Parts.nil _ _ _)) oT lN fun rF lP lQ y4 u6 dq=>(?_))
    have a7:Enc.doing.rd lP (a9++O) b9 (l[k]!):=Enc.mv Enc.doing (x:=l[k]!) a7 y4
    have a4:=a4.mv y4 u6 (by simp)
    have ho1_b9863_0:=ho1_b9863_0.mv y4 u6 (by simp)
    have ho1_b9863_1:=ho1_b9863_1.mv y4 u6 (by simp)
    have b1:=b1.mv y4
    have a6:=a6.mv y4
    have a0:=a0.keep u6 (by simp)
    have ho1_b9863_2:=ho1_b9863_2.mv y4 u6 (by simp)
    have ho1_b9863_3:=ho1_b9863_3.mv y4 u6 (by simp)
    have a8:=a8.keep u6 (by simp)
    have a5:=a5.keep u6 (by simp)
    have hT:=by exact hT.mv0 y4 u6 (fun x hx=>by exact hx)
    have:=dq.len_le
    refine ⟨u6,?_⟩
    have dr:∀ b,b0.ownBlock=some b→(L[(((l[k]!).device).toNat) % s.d.length]!).ownBlock≠some b:=fun b hb he=>hT.neO (i:=(((l[k]!).device).toNat) % s.d.length) oM a4 (by decide) b hb (by rw [he];simp)
    have hM:∀ b,b3.ownBlock=some b→(L[(((l[k]!).device).toNat) % s.d.length]!).ownBlock≠some b:=fun b hb he=>hT.neO (i:=(((l[k]!).device).toNat) % s.d.length) oM ho1_b9863_0 (by decide) b hb (by rw [he];simp)
    have ds:∀ b,a1.ownBlock=some b→(L[(((l[k]!).device).toNat) % s.d.length]!).ownBlock≠some b:=fun b hb he=>hT.neO (i:=(((l[k]!).device).toNat) % s.d.length) oM ho1_b9863_1 (by decide) b hb (by rw [he];simp)
    have dt:∀ b,a3.ownBlock=some b→(L[(((l[k]!).device).toNat) % s.d.length]!).ownBlock≠some b:=fun b hb he=>hT.neO (i:=(((l[k]!).device).toNat) % s.d.length) oM ho1_b9863_2 (by decide) b hb (by rw [he];simp)
    have du:∀ b,a2.ownBlock=some b→(L[(((l[k]!).device).toNat) % s.d.length]!).ownBlock≠some b:=fun b hb he=>hT.neO (i:=(((l[k]!).device).toNat) % s.d.length) oM ho1_b9863_3 (by decide) b hb (by rw [he];simp)
    have dv:∀ b,(L[(((l[k]!).device).toNat) % s.d.length]!).ownBlock=some b→b≠b8:=fun b hb e=>hT.neB (i:=(((l[k]!).device).toNat) % s.d.length) oM a0 (by decide) (by rw [hb,e];simp)
    have dw:∀ b,(L[(((l[k]!).device).toNat) % s.d.length]!).ownBlock=some b→b≠c2:=fun b hb e=>hT.neB (i:=(((l[k]!).device).toNat) % s.d.length) oM a8 (by decide) (by rw [hb,e];simp)
    have dx:∀ b,(L[(((l[k]!).device).toNat) % s.d.length]!).ownBlock=some b→b≠c7:=fun b hb e=>hT.neB (i:=(((l[k]!).device).toNat) % s.d.length) oM a5 (by decide) (by rw [hb,e];simp)
    refine KX (CT (E:=(Enc.slice Enc.devop)) (l:=s.b[(((l[k]!).device).toNat) % s.d.length]!) (m:=[(s.d[(((l[k]!).device).toNat) % s.d.length]!).ops]) U58_ i_26 rfl (by decide) rfl rfl (hT.own (i:=(((l[k]!).device).toNat) % s.d.length) oM) dq (fun _ hb=>.inl hb) (hT.blk (i:=(((l[k]!).device).toNat) % s.d.length) oM) (by simp only [List.length_singleton];omega) (by simp only [maxLen,List.length_singleton];omega) lQ fun u7 lR p1 hN q5 j4 lS C7 y5 dy=>(?_))
    have oL:∀ b,b0.ownBlock=some b→u7.ownBlock≠some b:=fun b hb e=>by rcases q5 with e1|e1 <;> rw [e1] at e <;> first|(cases e;have:=(a4.lt _ hb).2;omega)|(exact absurd e (dr b hb))
    have oN:∀ b,b3.ownBlock=some b→u7.ownBlock≠some b:=fun b hb e=>by rcases q5 with e1|e1 <;> rw [e1] at e <;> first|(cases e;have:=(ho1_b9863_0.lt _ hb).2;omega)|(exact absurd e (hM b hb))
    have oO:∀ b,a1.ownBlock=some b→u7.ownBlock≠some b:=fun b hb e=>by rcases q5 with e1|e1 <;> rw [e1] at e <;> first|(cases e;have:=(ho1_b9863_1.lt _ hb).2;omega)|(exact absurd e (ds b hb))
    have oP:∀ b,a3.ownBlock=some b→u7.ownBlock≠some b:=fun b hb e=>by rcases q5 with e1|e1 <;> rw [e1] at e <;> first|(cases e;have:=(ho1_b9863_2.lt _ hb).2;omega)|(exact absurd e (dt b hb))
    have oQ:∀ b,a2.ownBlock=some b→u7.ownBlock≠some b:=fun b hb e=>by rcases q5 with e1|e1 <;> rw [e1] at e <;> first|(cases e;have:=(ho1_b9863_3.lt _ hb).2;omega)|(exact absurd e (du b hb))
    have oR:∀ b,u7.ownBlock=some b→b≠b8:=fun b hb=>by rcases q5 with e1|e1 <;> rw [e1] at hb <;> first|(cases hb;have:=a0.lt;omega)|(exact dv b hb)
    have oS:∀ b,u7.ownBlock=some b→b≠c2:=fun b hb=>by rcases q5 with e1|e1 <;> rw [e1] at hb <;> first|(cases hb;have:=a8.lt;omega)|(exact dw b hb)
    have oU:∀ b,u7.ownBlock=some b→b≠c7:=fun b hb=>by rcases q5 with e1|e1 <;> rw [e1] at hb <;> first|(cases hb;have:=a5.lt;omega)|(exact dx b hb)
    have c3:∀ b,b0.ownBlock=some b→b∈p1:=fun b hb=>j4 b (c3 b hb)
    have c8:∀ b,b3.ownBlock=some b→b∈p1:=fun b hb=>j4 b (c8 b hb)
    have b2:∀ b,a1.ownBlock=some b→b∈p1:=fun b hb=>j4 b (b2 b hb)
    have b7:∀ b,a3.ownBlock=some b→b∈p1:=fun b hb=>j4 b (b7 b hb)
    have b4:∀ b,a2.ownBlock=some b→b∈p1:=fun b hb=>j4 b (b4 b hb)
    have e9:b8∈p1:=j4 b8 (by repeat (assumption))
    have h9:c2∈p1:=j4 c2 (by repeat (assumption))
    have i0:c7∈p1:=j4 c7 (by repeat (assumption))
    have a7:Enc.doing.rd lR (p1++O) b9 (l[k]!):=Enc.mv Enc.doing (x:=l[k]!) a7 C7
    have a4:=a4.mv C7 y5 (fun b hb=>by simp only [Option.mem_toList];exact dr b hb)
    have ho1_b9863_1:=ho1_b9863_1.mv C7 y5 (fun b hb=>by simp only [Option.mem_toList];exact ds b hb)
    have b1:=b1.mv C7
    have a6:=a6.mv C7
    have a0:=a0.keep y5 (by simp only [Option.mem_toList];exact fun e=>absurd rfl (dv _ e))
    have ho1_b9863_2:=ho1_b9863_2.mv C7 y5 (fun b hb=>by simp only [Option.mem_toList];exact dt b hb)
    have ho1_b9863_3:=ho1_b9863_3.mv C7 y5 (fun b hb=>by simp only [Option.mem_toList];exact du b hb)
    have a8:=a8.keep y5 (by simp only [Option.mem_toList];exact fun e=>absurd rfl (dw _ e))
    have a5:=a5.keep y5 (by simp only [Option.mem_toList];exact fun e=>absurd rfl (dx _ e))
    have hT:=hT.app (i:=(((l[k]!).device).toNat) % s.d.length) oM C7 y5 q5 dy j4 hN
    refine ⟨y5,?_⟩
    refine AO (DO U25_ LR .i64 (((((l[k]!).device).toNat) % s.d.length:Nat):Int) ((((l[k]!).device).toNat) % s.d.length) rfl rfl rfl ho1_b9863_1 oM fun rG q6=>(CD (FO (KL (off:=0) u7 LR rfl rfl ho1_b9863_1 q6 (b2 _ q6) oM (by decide) (fun cs hc=>by obtain ⟨rfl,h1_⟩:=hc;exact ⟨rfl,dy.oneCell⟩) lS fun lT lU H7 H8 hP=>(?_)))))
    have a7:Enc.doing.rd lT (p1++O) b9 (l[k]!):=Enc.mv Enc.doing (x:=l[k]!) a7 H7
    have a4:=a4.mv H7 H8 (fun b hb=>by simp only [List.mem_singleton];rintro rfl;exact absurd q6 ((fun b hb e=>c4 b e hb) _ hb))
    have b1:=b1.mv H7
    have a6:=a6.mv H7
    have a0:=a0.keep H8 (by simp only [List.mem_singleton];exact fun e=>absurd e.symm (nb1_b9863_1_b9863 _ q6))
    have ho1_b9863_2:=ho1_b9863_2.mv H7 H8 (fun b hb=>by simp only [List.mem_singleton];rintro rfl;exact absurd q6 (nn1_b9863_2_b9863_1 _ hb))
    have ho1_b9863_3:=ho1_b9863_3.mv H7 H8 (fun b hb=>by simp only [List.mem_singleton];rintro rfl;exact absurd q6 (nn1_b9863_3_b9863_1 _ hb))
    have a8:=a8.keep H8 (by simp only [List.mem_singleton];exact fun e=>absurd e.symm (g1 _ q6))
    have a5:=a5.keep H8 (by simp only [List.mem_singleton];exact fun e=>absurd e.symm (f6 _ q6))
    have hT:=hT.mvO H7 H8 ho1_b9863_1 (fun b hq=>by have hq:=List.mem_singleton.1 hq;subst hq;exact q6) (by decide) (fun x hx=>by exact hx)
    refine EW (AW (AB (?_)))
    exact ⟨((⟨s.d,s.b.set ((((l[k]!).device).toNat) % s.d.length) ((s.b[(((l[k]!).device).toNat) % s.d.length]!)++([(s.d[(((l[k]!).device).toNat) % s.d.length]!).ops])),s.done,s.shown⟩:HouseR)),(L.set ((((l[k]!).device).toNat) % s.d.length) u7),b0,a1,a3,a2,p1,(by (rw [lv_3 aS];done)),hT,trivial,⟨_,AL _ ⟨rfl,rfl,rfl,trivial⟩⟩,lU,a4,c3,hP,b2,ho1_b9863_2,b7,ho1_b9863_3,b4,b1,a6,a7,a8,aS,a5,aS,a0,aS,f1,e8,d8,g1,f6,nb1_b9863_1_b9863,g4,f3,nb1_b9863_2_b9863,g3,f5,nb1_b9863_3_b9863,(fun b hb e=>c4 b e hb),(fun b hb e=>c5 b e hb),(fun b hb e=>c6 b e hb),c4,nn1_b9863_1_b9863_2,nn1_b9863_1_b9863_3,c5,nn1_b9863_2_b9863_1,nn1_b9863_2_b9863_3,c6,nn1_b9863_3_b9863_1,nn1_b9863_3_b9863_2⟩
   have oV:((l[k]!).kind) % 6≠(3:UInt8):=by simpa using aL
   refine AG (AD kR (AC (EG (((l[k]!).kind) % 6) (4:UInt8) rfl rfl (AC (AH (vO ((((l[k]!).kind) % 6) == (4:UInt8))) rfl (AE (AB (AK ((((l[k]!).kind) % 6) == (4:UInt8)) rfl rfl (fun aO=>?_) (fun aO=>?_)))))))))
   ·have oW:((l[k]!).kind) % 6=(4:UInt8):=by simpa using aO
    refine AG (AD kR (AC (AM 1 GA rfl (AC (AR U25_ rfl (a1) rfl a8 rfl (AC (AF (vI (((((l[k]!).device).toNat) % s.d.length:Nat):Int)) rfl (AC (BZ U25_ LR .i64 (((((l[k]!).device).toNat) % s.d.length:Nat):Int) ((((l[k]!).device).toNat) % s.d.length) rfl rfl rfl ho1_b9863_1.rd0 oM fun rH hQ=>(AC (KM U58_ rfl rfl hQ (AC (JG U58_ rfl (hT.own (i:=(((l[k]!).device).toNat) % s.d.length) oM) (AC (AH (vI (s.b[(((l[k]!).device).toNat) % s.d.length]!.length:Int)) rfl (AE (AB (AG (AD kR (AC (AF (vI (s.b[(((l[k]!).device).toNat) % s.d.length]!.length:Int)) rfl (AC (IF .i64 (s.b[(((l[k]!).device).toNat) % s.d.length]!.length:Int) (0:Int) rfl rfl (AE (AB (AK (decide ((0:Int)<(s.b[(((l[k]!).device).toNat) % s.d.length]!.length:Int))) rfl rfl (fun aP=>?_) (fun aP=>?_)))))))))))))))))))))))))))
    ·have oX:(0:Int)<(s.b[(((l[k]!).device).toNat) % s.d.length]!.length:Int):=by simpa using aP
     refine ET [] [] [[(0,1),(1,1),(2,1),(3,1),(4,1),(5,1),(6,1),(7,1),(8,1),(9,1),(10,1),(11,1),(12,1),(13,4),(14,1),(15,4),(16,1),(17,1),(18,2),(19,1),(20,0)]] (by intro c F d v w hd;simp only [FQ,EZ];exact GW c F d v w hd) kR kR kR fun bB u9=>?_
     have eJ:=r2.call u9
     have y6:Mv a9 w1 a9 bB:=Mv.of_keep u9
     have a7:Enc.doing.rd bB (a9++O) b9 (l[k]!):=Enc.mv Enc.doing (x:=l[k]!) a7 y6
     have b6:=b6.mv y6
     have a4:=a4.mv y6 u9 (by simp)
     have ho1_b9863_1:=ho1_b9863_1.mv y6 u9 (by simp)
     have b1:=b1.mv y6
     have a6:=a6.mv y6
     have a0:=a0.keep u9 (by simp)
     have ho1_b9863_2:=ho1_b9863_2.mv y6 u9 (by simp)
     have ho1_b9863_3:=ho1_b9863_3.mv y6 u9 (by simp)
     have a8:=a8.keep u9 (by simp)
     have a5:=a5.keep u9 (by simp)
     have hT:=by exact hT.mv0 y6 u9 (fun x hx=>by exact hx)
     refine ⟨?_,trivial⟩
     refine AO (AF (b0) rfl (CD (AO (AF (vI (((((l[k]!).device).toNat) % s.d.length:Nat):Int)) rfl (CD (AO (AF (b0) rfl (CD (AO (AF (vI (((((l[k]!).device).toNat) % s.d.length:Nat):Int)) rfl (CD (AO (BZ U24_ BG .i64 (((((l[k]!).device).toNat) % s.d.length:Nat):Int) ((((l[k]!).device).toNat) % s.d.length) rfl rfl rfl a4.rdB oM fun rI hR=>(CD (AO (BT U31_ rfl BG rfl hR fun dz aQ=>(?_)))))))))))))))))
     have aQ:=aQ.2
     refine CD (AO (AM 1 GA rfl (CD (AO (AR U25_ rfl (a1) rfl a8 rfl (CD (AO (AF (vI (((((l[k]!).device).toNat) % s.d.length:Nat):Int)) rfl (CD (AO (BZ U25_ LR .i64 (((((l[k]!).device).toNat) % s.d.length:Nat):Int) ((((l[k]!).device).toNat) % s.d.length) rfl rfl rfl ho1_b9863_1.rd0 oM fun rJ hS=>(CD (AO (KM U58_ rfl rfl hS (CD (AO (AP 5 f_37_5 ((l[k]!).at_) rfl b6 (fun _ _ _ h=>MO h) fun rK hU=>(CD (AO (CU U5_ rfl rfl hU (CD (DA rfl (fun w4_ k4_=>FF .u8 .i64 U5_ U3_ (((l[k]!).at_).toNat:Int) (((l[k]!).at_).toNat:Int) rfl (by have:=((l[k]!).at_).toNat_lt;exact EP oM rfl) (⟨rfl,rfl⟩)) (AO (AF (vI (s.b[(((l[k]!).device).toNat) % s.d.length]!.length:Int)) rfl (CD (DA rfl (fun w4_ k4_=>MZ (((l[k]!).at_).toNat) (s.b[(((l[k]!).device).toNat) % s.d.length]!.length) oM rfl rfl (⟨rfl,rfl⟩)) (AO (BZ U58_ HR .i64 (((((l[k]!).at_).toNat) % (s.b[(((l[k]!).device).toNat) % s.d.length]!.length):Nat):Int) ((((l[k]!).at_).toNat) % (s.b[(((l[k]!).device).toNat) % s.d.length]!.length)) rfl rfl rfl (hT.own (i:=(((l[k]!).device).toNat) % s.d.length) oM).rdB (Nat.mod_lt _ oM) fun rL hV=>(CD (AO (ER U26_ rfl rfl hV fun eK dA=>(?_))))))))))))))))))))))))))))))))
     have:=dA.len_le
     refine CD (DU (BI (vs:=[vA dz.toArray,eK]) enter_47 (QY (O:=a9++O) dz (s.d[(((l[k]!).device).toNat) % s.d.length]!) eK ((s.b[(((l[k]!).device).toNat) % s.d.length]!)[(((l[k]!).at_).toNat) % (s.b[(((l[k]!).device).toNat) % s.d.length]!.length)]!) bB aQ dA (by have h_:s.b[l[k]!.device.toNat % s.d.length]![l[k]!.at_.toNat % s.b[l[k]!.device.toNat % s.d.length]!.length]!.length≤256:=bk_len hI (hI.i_lt l[k]!) (Nat.mod_lt l[k]!.at_.toNat (show 0<s.b[l[k]!.device.toNat % s.d.length]!.length by omega));omega) eJ.lt) rfl eJ fun rM lV lW C8 y7 lX=>(?_)))
     obtain ⟨oY,rfl,hW⟩:=lX
     have a7:Enc.doing.rd lV (a9++O) b9 (l[k]!):=Enc.mv Enc.doing (x:=l[k]!) a7 C8
     have a4:=a4.mv C8 y7 (by simp)
     have ho1_b9863_1:=ho1_b9863_1.mv C8 y7 (by simp)
     have b1:=b1.mv C8
     have a6:=a6.mv C8
     have a0:=a0.keep y7 (by simp)
     have ho1_b9863_2:=ho1_b9863_2.mv C8 y7 (by simp)
     have ho1_b9863_3:=ho1_b9863_3.mv C8 y7 (by simp)
     have a8:=a8.keep y7 (by simp)
     have a5:=a5.keep y7 (by simp)
     have hT:=by exact hT.mv0 C8 y7 (fun x hx=>by exact hx)
     refine ⟨y7,?_⟩
     refine AO (DO U24_ BG .i64 (((((l[k]!).device).toNat) % s.d.length:Nat):Int) ((((l[k]!).device).toNat) % s.d.length) rfl rfl rfl a4 oM fun rN q7=>(CD (FO (DW (GH (s.d[(((l[k]!).device).toNat) % s.d.length]!) ((s.b[(((l[k]!).device).toNat) % s.d.length]!)[(((l[k]!).at_).toNat) % (s.b[(((l[k]!).device).toNat) % s.d.length]!.length)]!)) (by decide) BG rfl rfl a4 q7 (c3 _ q7) oM hW lW fun lY lZ H9 I0 hX=>(?_)))))
     have a7:Enc.doing.rd lY (a9++O) b9 (l[k]!):=Enc.mv Enc.doing (x:=l[k]!) a7 H9
     have ho1_b9863_1:=ho1_b9863_1.mv H9 I0 (fun b hb=>by simp only [List.mem_singleton];rintro rfl;exact absurd q7 (c4 _ hb))
     have b1:=b1.mv H9
     have a6:=a6.mv H9
     have a0:=a0.keep I0 (by simp only [List.mem_singleton];exact fun e=>absurd e.symm (d8 _ q7))
     have ho1_b9863_2:=ho1_b9863_2.mv H9 I0 (fun b hb=>by simp only [List.mem_singleton];rintro rfl;exact absurd q7 (c5 _ hb))
     have ho1_b9863_3:=ho1_b9863_3.mv H9 I0 (fun b hb=>by simp only [List.mem_singleton];rintro rfl;exact absurd q7 (c6 _ hb))
     have a8:=a8.keep I0 (by simp only [List.mem_singleton];exact fun e=>absurd e.symm (f1 _ q7))
     have a5:=a5.keep I0 (by simp only [List.mem_singleton];exact fun e=>absurd e.symm (e8 _ q7))
     have hT:=hT.mvO H9 I0 a4 (fun b hq=>by have hq:=List.mem_singleton.1 hq;subst hq;exact q7) (by decide) (fun x hx=>by exact hx)
     refine EW (AW (AB (?_)))
     exact ⟨((⟨s.d.set ((((l[k]!).device).toNat) % s.d.length) (GH (s.d[(((l[k]!).device).toNat) % s.d.length]!) ((s.b[(((l[k]!).device).toNat) % s.d.length]!)[(((l[k]!).at_).toNat) % (s.b[(((l[k]!).device).toNat) % s.d.length]!.length)]!)),s.b,s.done,s.shown⟩:HouseR)),(L),b0,a1,a3,a2,a9,(by (rw [lv_4y aS aS];done)),hT,trivial,⟨_,AL _ ⟨rfl,rfl,rfl,trivial⟩⟩,lZ,hX,c3,ho1_b9863_1,b2,ho1_b9863_2,b7,ho1_b9863_3,b4,b1,a6,a7,a8,aS,a5,aS,a0,aS,f1,e8,d8,g1,f6,nb1_b9863_1_b9863,g4,f3,nb1_b9863_2_b9863,g3,f5,nb1_b9863_3_b9863,(fun b hb e=>c4 b e hb),(fun b hb e=>c5 b e hb),(fun b hb e=>c6 b e hb),c4,nn1_b9863_1_b9863_2,nn1_b9863_1_b9863_3,c5,nn1_b9863_2_b9863_1,nn1_b9863_2_b9863_3,c6,nn1_b9863_3_b9863_1,nn1_b9863_3_b9863_2⟩
    have oZ:(s.b[(((l[k]!).device).toNat) % s.d.length]!.length:Int)≤(0:Int):=by simpa using aP
    refine AT (AW (AB (?_)))
    exact ⟨(s),(L),b0,a1,a3,a2,a9,(by (rw [lv_4n aS aS];done)),hT,trivial,⟨_,AL _ ⟨rfl,rfl,rfl,trivial⟩⟩,r2,a4,c3,ho1_b9863_1,b2,ho1_b9863_2,b7,ho1_b9863_3,b4,b1,a6,a7,a8,aS,a5,aS,a0,aS,f1,e8,d8,g1,f6,nb1_b9863_1_b9863,g4,f3,nb1_b9863_2_b9863,g3,f5,nb1_b9863_3_b9863,(fun b hb e=>c4 b e hb),(fun b hb e=>c5 b e hb),(fun b hb e=>c6 b e hb),c4,nn1_b9863_1_b9863_2,nn1_b9863_1_b9863_3,c5,nn1_b9863_2_b9863_1,nn1_b9863_2_b9863_3,c6,nn1_b9863_3_b9863_1,nn1_b9863_3_b9863_2⟩
   have pa:((l[k]!).kind) % 6≠(4:UInt8):=by simpa using aO
   refine AG (AD kR (AC (EG (((l[k]!).kind) % 6) (5:UInt8) rfl rfl (AC (AH (vO ((((l[k]!).kind) % 6) == (5:UInt8))) rfl (AE (AB (?_))))))))
   have hY:((((l[k]!).kind) % 6) == (5:UInt8))=true:=(beq_iff_eq.2 (KD aS aS aS aS aS))
   rw [hY]
   refine AK true rfl rfl (fun _=>AG (AD kR (AC (AF (b0) rfl (AC (AF (vI (((((l[k]!).device).toNat) % s.d.length:Nat):Int)) rfl (AC (BZ U24_ BG .i64 (((((l[k]!).device).toNat) % s.d.length:Nat):Int) ((((l[k]!).device).toNat) % s.d.length) rfl rfl rfl a4.rdB oM fun rO hZ=>(AC (BT U31_ rfl BG rfl hZ fun dB aR=>(?_))))))))))) (fun h=>by cases h)
   have aR:=aR.2
   refine AC (BI (vs:=[vA dB.toArray]) enter_44 (c_start (O:=a9++O) dB (s.d[(((l[k]!).device).toNat) % s.d.length]!) w1 aR r2.lt) rfl r2 fun rP ma mb y8 y9 mc=>(?_))
   obtain ⟨aT,rfl,aU⟩:=mc
   have a7:Enc.doing.rd ma (a9++O) b9 (l[k]!):=Enc.mv Enc.doing (x:=l[k]!) a7 y8
   have a4:=a4.mv y8 y9 (by simp)
   have ho1_b9863_0:=ho1_b9863_0.mv y8 y9 (by simp)
   have b1:=b1.mv y8
   have a6:=a6.mv y8
   have a0:=a0.keep y9 (by simp)
   have ho1_b9863_1:=ho1_b9863_1.mv y8 y9 (by simp)
   have ho1_b9863_2:=ho1_b9863_2.mv y8 y9 (by simp)
   have ho1_b9863_3:=ho1_b9863_3.mv y8 y9 (by simp)
   have a8:=a8.keep y9 (by simp)
   have a5:=a5.keep y9 (by simp)
   have hT:=by exact hT.mv0 y8 y9 (fun x hx=>by exact hx)
   refine AC (AF (vT #[vA aT.toArray,vI ((BE (s.d[(((l[k]!).device).toNat) % s.d.length]!)).2)]) rfl (AC (BD (vA aT.toArray) rfl rfl (AC (BD (vI ((BE (s.d[(((l[k]!).device).toNat) % s.d.length]!)).2)) rfl rfl (AC (CC [vI 0,vI 0,nS,vO false] HO rfl mb fun g5 eL md me z0 C9 ia=>(?_))))))))
   have ib:DB b8 g5:=by show b8≠g5;have:=a0.lt;omega
   have ic:DB c2 g5:=by show c2≠g5;have:=a8.lt;omega
   have ie:DB c7 g5:=by show c7≠g5;have:=a5.lt;omega
   have ig:∀ b,b0.ownBlock=some b→b≠g5:=fun b hb=>by have:=(a4.lt b hb).2;omega
   have pb:∀ b,b3.ownBlock=some b→b≠g5:=fun b hb=>by have:=(ho1_b9863_0.lt b hb).2;omega
   have ih:∀ b,a1.ownBlock=some b→b≠g5:=fun b hb=>by have:=(ho1_b9863_1.lt b hb).2;omega
   have ii:∀ b,a3.ownBlock=some b→b≠g5:=fun b hb=>by have:=(ho1_b9863_2.lt b hb).2;omega
   have ij:∀ b,a2.ownBlock=some b→b≠g5:=fun b hb=>by have:=(ho1_b9863_3.lt b hb).2;omega
   have c3:∀ b,b0.ownBlock=some b→b∈(g5 :: a9):=fun b hb=>List.mem_cons_of_mem _ (c3 b hb)
   have c8:∀ b,b3.ownBlock=some b→b∈(g5 :: a9):=fun b hb=>List.mem_cons_of_mem _ (c8 b hb)
   have b2:∀ b,a1.ownBlock=some b→b∈(g5 :: a9):=fun b hb=>List.mem_cons_of_mem _ (b2 b hb)
   have b7:∀ b,a3.ownBlock=some b→b∈(g5 :: a9):=fun b hb=>List.mem_cons_of_mem _ (b7 b hb)
   have b4:∀ b,a2.ownBlock=some b→b∈(g5 :: a9):=fun b hb=>List.mem_cons_of_mem _ (b4 b hb)
   clear md
   have a7:Enc.doing.rd eL ((g5 :: a9)++O) b9 (l[k]!):=Enc.mv Enc.doing (x:=l[k]!) a7 z0
   have a4:=a4.mv z0 C9 (by simp)
   have aU:Enc.device.rd eL ((g5 :: a9)++O) aT ((BE (s.d[(((l[k]!).device).toNat) % s.d.length]!)).1):=Enc.mv Enc.device (x:=(BE (s.d[(((l[k]!).device).toNat) % s.d.length]!)).1) aU z0
   have b1:=b1.mv z0
   have a6:=a6.mv z0
   have a0:=a0.keep C9 (by simp)
   have ho1_b9863_1:=ho1_b9863_1.mv z0 C9 (by simp)
   have ho1_b9863_2:=ho1_b9863_2.mv z0 C9 (by simp)
   have ho1_b9863_3:=ho1_b9863_3.mv z0 C9 (by simp)
   have a8:=a8.keep C9 (by simp)
   have a5:=a5.keep C9 (by simp)
   have hT:=by exact hT.mv0 z0 C9 (fun x hx=>by exact List.mem_cons_of_mem _ hx)
   obtain ⟨Y1,rfl,F7⟩:=aU
   have:=F7.len_le
   refine BK (AU (vs:=[vI (((BE (s.d[(((l[k]!).device).toNat) % s.d.length]!)).1).id),vI (((BE (s.d[(((l[k]!).device).toNat) % s.d.length]!)).1).counter),Y1,vO (((BE (s.d[(((l[k]!).device).toNat) % s.d.length]!)).1).halted)]) (.agg #[vI (((BE (s.d[(((l[k]!).device).toNat) % s.d.length]!)).1).id),vI (((BE (s.d[(((l[k]!).device).toNat) % s.d.length]!)).1).counter),Y1,vO (((BE (s.d[(((l[k]!).device).toNat) % s.d.length]!)).1).halted)]) rfl rfl rfl BG (fun u hu=>by simp only [List.mem_cons,List.not_mem_nil,or_false] at hu;rcases hu with rfl|rfl|rfl|rfl <;> first|rfl|exact F7.oneCell) (by repeat (constructor)) ia oT me fun mf bC z1 D0 dC=>(?_))
   have a7:Enc.doing.rd mf ((g5 :: a9)++O) b9 (l[k]!):=Enc.mv Enc.doing (x:=l[k]!) a7 z1
   have a4:=a4.mv z1 D0 (fun b hb=>AJ (ig b hb))
   have F7:=F7.mv z1
   have b1:=b1.mv z1
   have a6:=a6.mv z1
   have a0:=a0.keep D0 (AJ ib)
   have ho1_b9863_1:=ho1_b9863_1.mv z1 D0 (fun b hb=>AJ (ih b hb))
   have ho1_b9863_2:=ho1_b9863_2.mv z1 D0 (fun b hb=>AJ (ii b hb))
   have ho1_b9863_3:=ho1_b9863_3.mv z1 D0 (fun b hb=>AJ (ij b hb))
   have a8:=a8.keep D0 (AJ ic)
   have a5:=a5.keep D0 (AJ ie)
   have hT:=by exact hT.mvB z1 D0 aS (by decide) (fun x hx=>by exact hx)
   refine AC (AH (vI ((BE (s.d[(((l[k]!).device).toNat) % s.d.length]!)).2)) rfl (AE (AB (AG (AD kR (AC (AF (vI ((BE (s.d[(((l[k]!).device).toNat) % s.d.length]!)).2)) rfl (AC (DC .i64 ((BE (s.d[(((l[k]!).device).toNat) % s.d.length]!)).2) (0:Int) rfl rfl (AC (AF (vO (((BE (s.d[(((l[k]!).device).toNat) % s.d.length]!)).2) == (0:Int))) rfl (?_))))))))))))
   cases dD:(((BE (s.d[(((l[k]!).device).toNat) % s.d.length]!)).2) == (0:Int))
   ·have pc:(BE (s.d[(((l[k]!).device).toNat) % s.d.length]!)).2≠(0:Int):=by simpa using dD
    refine BH rfl (AF (vI ((BE (s.d[(((l[k]!).device).toNat) % s.d.length]!)).2)) rfl (BH rfl (DC .i64 ((BE (s.d[(((l[k]!).device).toNat) % s.d.length]!)).2) (430:Int) rfl rfl (AC (BM (vO (((BE (s.d[(((l[k]!).device).toNat) % s.d.length]!)).2) == (430:Int))) rfl rfl (AE (AB (AK (((BE (s.d[(((l[k]!).device).toNat) % s.d.length]!)).2) == (430:Int)) rfl rfl (fun aV=>?_) (fun aV=>?_)))))))))
    ·have pd:(BE (s.d[(((l[k]!).device).toNat) % s.d.length]!)).2=(430:Int):=by simpa using aV
     refine AD kR (AC (AF (b0) rfl (AC (AF (vI (((((l[k]!).device).toNat) % s.d.length:Nat):Int)) rfl (AC (AQ (vs:=[vI (((BE (s.d[(((l[k]!).device).toNat) % s.d.length]!)).1).id),vI (((BE (s.d[(((l[k]!).device).toNat) % s.d.length]!)).1).counter),Y1,vO (((BE (s.d[(((l[k]!).device).toNat) % s.d.length]!)).1).halted)]) U31_ rfl BG rfl dC rfl (AC (DO U24_ BG .i64 (((((l[k]!).device).toNat) % s.d.length:Nat):Int) ((((l[k]!).device).toNat) % s.d.length) rfl rfl rfl a4 oM fun rQ q8=>(BK (DW ((BE (s.d[(((l[k]!).device).toNat) % s.d.length]!)).1) (by decide) BG rfl rfl a4 q8 (c3 _ q8) oM ⟨_,rfl,F7⟩ bC fun mg mh I1 I2 ik=>(?_)))))))))))
     have a7:Enc.doing.rd mg ((g5 :: a9)++O) b9 (l[k]!):=Enc.mv Enc.doing (x:=l[k]!) a7 I1
     have b1:=b1.mv I1
     have a6:=a6.mv I1
     have a0:=a0.keep I2 (by simp only [List.mem_singleton];exact fun e=>absurd e.symm (d8 _ q8))
     have ho1_b9863_1:=ho1_b9863_1.mv I1 I2 (fun b hb=>by simp only [List.mem_singleton];rintro rfl;exact absurd q8 (c4 _ hb))
     have ho1_b9863_2:=ho1_b9863_2.mv I1 I2 (fun b hb=>by simp only [List.mem_singleton];rintro rfl;exact absurd q8 (c5 _ hb))
     have ho1_b9863_3:=ho1_b9863_3.mv I1 I2 (fun b hb=>by simp only [List.mem_singleton];rintro rfl;exact absurd q8 (c6 _ hb))
     have a8:=a8.keep I2 (by simp only [List.mem_singleton];exact fun e=>absurd e.symm (f1 _ q8))
     have a5:=a5.keep I2 (by simp only [List.mem_singleton];exact fun e=>absurd e.symm (e8 _ q8))
     have hT:=hT.mvO I1 I2 a4 (fun b hq=>by have hq:=List.mem_singleton.1 hq;subst hq;exact q8) (by decide) (fun x hx=>by exact hx)
     refine AE (AW (AB (?_)))
     exact ⟨((⟨s.d.set ((((l[k]!).device).toNat) % s.d.length) ((BE (s.d[(((l[k]!).device).toNat) % s.d.length]!)).1),s.b,s.done,s.shown⟩:HouseR)),(L),b0,a1,a3,a2,(g5 :: a9),(by (rw [lv_5b (KD aS aS aS aS aS) aS];done)),hT,trivial,⟨_,AL _ ⟨rfl,rfl,rfl,trivial⟩⟩,mh,ik,c3,ho1_b9863_1,b2,ho1_b9863_2,b7,ho1_b9863_3,b4,b1,a6,a7,a8,(by (repeat (first|assumption|apply List.mem_cons_of_mem))),a5,(by (repeat (first|assumption|apply List.mem_cons_of_mem))),a0,(by (repeat (first|assumption|apply List.mem_cons_of_mem))),f1,e8,d8,g1,f6,nb1_b9863_1_b9863,g4,f3,nb1_b9863_2_b9863,g3,f5,nb1_b9863_3_b9863,(fun b hb e=>c4 b e hb),(fun b hb e=>c5 b e hb),(fun b hb e=>c6 b e hb),c4,nn1_b9863_1_b9863_2,nn1_b9863_1_b9863_3,c5,nn1_b9863_2_b9863_1,nn1_b9863_2_b9863_3,c6,nn1_b9863_3_b9863_1,nn1_b9863_3_b9863_2⟩
    have pe:(BE (s.d[(((l[k]!).device).toNat) % s.d.length]!)).2≠(430:Int):=by simpa using aV
    refine AT (AW (AB (?_)))
    exact ⟨(s),(L),b0,a1,a3,a2,(g5 :: a9),(by (rw [lv_5n (KD aS aS aS aS aS) aS aS];done)),hT,trivial,⟨_,AL _ ⟨rfl,rfl,rfl,trivial⟩⟩,bC,a4,c3,ho1_b9863_1,b2,ho1_b9863_2,b7,ho1_b9863_3,b4,b1,a6,a7,a8,(by (repeat (first|assumption|apply List.mem_cons_of_mem))),a5,(by (repeat (first|assumption|apply List.mem_cons_of_mem))),a0,(by (repeat (first|assumption|apply List.mem_cons_of_mem))),f1,e8,d8,g1,f6,nb1_b9863_1_b9863,g4,f3,nb1_b9863_2_b9863,g3,f5,nb1_b9863_3_b9863,(fun b hb e=>c4 b e hb),(fun b hb e=>c5 b e hb),(fun b hb e=>c6 b e hb),c4,nn1_b9863_1_b9863_2,nn1_b9863_1_b9863_3,c5,nn1_b9863_2_b9863_1,nn1_b9863_2_b9863_3,c6,nn1_b9863_3_b9863_1,nn1_b9863_3_b9863_2⟩
   have pf:(BE (s.d[(((l[k]!).device).toNat) % s.d.length]!)).2=(0:Int):=by simpa using dD
   refine AX rfl (AX rfl (AC (BA (vO true) rfl rfl (AE (AB (AK true rfl rfl (fun _=>AD kR (AC (AF (b0) rfl (AC (AF (vI (((((l[k]!).device).toNat) % s.d.length:Nat):Int)) rfl (AC (AQ (vs:=[vI (((BE (s.d[(((l[k]!).device).toNat) % s.d.length]!)).1).id),vI (((BE (s.d[(((l[k]!).device).toNat) % s.d.length]!)).1).counter),Y1,vO (((BE (s.d[(((l[k]!).device).toNat) % s.d.length]!)).1).halted)]) U31_ rfl BG rfl dC rfl (AC (DO U24_ BG .i64 (((((l[k]!).device).toNat) % s.d.length:Nat):Int) ((((l[k]!).device).toNat) % s.d.length) rfl rfl rfl a4 oM fun rR q9=>(BK (DW ((BE (s.d[(((l[k]!).device).toNat) % s.d.length]!)).1) (by decide) BG rfl rfl a4 q9 (c3 _ q9) oM ⟨_,rfl,F7⟩ bC fun mi mj I3 I4 il=>(?_)))))))))))) (fun h=>by cases h)))))))
   have a7:Enc.doing.rd mi ((g5 :: a9)++O) b9 (l[k]!):=Enc.mv Enc.doing (x:=l[k]!) a7 I3
   have b1:=b1.mv I3
   have a6:=a6.mv I3
   have a0:=a0.keep I4 (by simp only [List.mem_singleton];exact fun e=>absurd e.symm (d8 _ q9))
   have ho1_b9863_1:=ho1_b9863_1.mv I3 I4 (fun b hb=>by simp only [List.mem_singleton];rintro rfl;exact absurd q9 (c4 _ hb))
   have ho1_b9863_2:=ho1_b9863_2.mv I3 I4 (fun b hb=>by simp only [List.mem_singleton];rintro rfl;exact absurd q9 (c5 _ hb))
   have ho1_b9863_3:=ho1_b9863_3.mv I3 I4 (fun b hb=>by simp only [List.mem_singleton];rintro rfl;exact absurd q9 (c6 _ hb))
   have a8:=a8.keep I4 (by simp only [List.mem_singleton];exact fun e=>absurd e.symm (f1 _ q9))
   have a5:=a5.keep I4 (by simp only [List.mem_singleton];exact fun e=>absurd e.symm (e8 _ q9))
   have hT:=hT.mvO I3 I4 a4 (fun b hq=>by have hq:=List.mem_singleton.1 hq;subst hq;exact q9) (by decide) (fun x hx=>by exact hx)
   refine AE (AW (AB (?_)))
   exact ⟨((⟨s.d.set ((((l[k]!).device).toNat) % s.d.length) ((BE (s.d[(((l[k]!).device).toNat) % s.d.length]!)).1),s.b,s.done,s.shown⟩:HouseR)),(L),b0,a1,a3,a2,(g5 :: a9),(by (rw [lv_5a (KD aS aS aS aS aS) aS];done)),hT,trivial,⟨_,AL _ ⟨rfl,rfl,rfl,trivial⟩⟩,mj,il,c3,ho1_b9863_1,b2,ho1_b9863_2,b7,ho1_b9863_3,b4,b1,a6,a7,a8,(by (repeat (first|assumption|apply List.mem_cons_of_mem))),a5,(by (repeat (first|assumption|apply List.mem_cons_of_mem))),a0,(by (repeat (first|assumption|apply List.mem_cons_of_mem))),f1,e8,d8,g1,f6,nb1_b9863_1_b9863,g4,f3,nb1_b9863_2_b9863,g3,f5,nb1_b9863_3_b9863,(fun b hb e=>c4 b e hb),(fun b hb e=>c5 b e hb),(fun b hb e=>c6 b e hb),c4,nn1_b9863_1_b9863_2,nn1_b9863_1_b9863_3,c5,nn1_b9863_2_b9863_1,nn1_b9863_2_b9863_3,c6,nn1_b9863_3_b9863_1,nn1_b9863_3_b9863_2⟩
  intro F pg hI
  clear b1 a6 a7 a5 a0
  obtain ⟨s2,L2,d3,d4,d5,d6,im,eM,eN,ph,⟨pi,rfl⟩,io,g6,W5,g7,W6,g8,W7,g9,W8,b1,a6,a7,W9,h9,a5,i0,a0,e9,bL,I6,v0,bM,I7,v1,bN,I8,v2,bO,I9,v3,D4,D5,D6,D7,D8,D9,E0,E1,E2,E3,E4,E5⟩:=hI
  have hT:=eN
  refine AG (AD kR (AC (AQ (vs:=[d3,d4,d5,d6]) U29_ rfl CL rfl W9 rfl (BK (AU (vs:=[d3,d4,d5,d6]) (.agg #[d3,d4,d5,d6]) rfl rfl rfl CL (fun u hu=>by simp only [List.mem_cons,List.not_mem_nil,or_false] at hu;rcases hu with rfl|rfl|rfl|rfl <;> first|exact g6.oneCell|exact g7.oneCell|exact g8.oneCell|exact g9.oneCell) (by repeat (assumption)) a5 oT io fun rS ml P7 P8 ip=>(?_))))))
  have g6:=g6.mv P7 P8 (fun b hb=>AJ (I6 b hb))
  have g7:=g7.mv P7 P8 (fun b hb=>AJ (I7 b hb))
  have g8:=g8.mv P7 P8 (fun b hb=>AJ (I8 b hb))
  have g9:=g9.mv P7 P8 (fun b hb=>AJ (I9 b hb))
  have b1:=b1.mv P7
  have a0:=a0.keep P8 (AJ i8)
  have hT:=by exact hT.mvB P7 P8 aS (by decide) (fun x hx=>by exact hx)
  refine AE (AB (AS (AZ rfl (FN (vs:=[d3,d4,d5,d6]) rfl rfl U29_ rfl CL rfl ip rfl) (Exists.intro _ (And.intro rfl (BK (AU (vs:=[d3,d4,d5,d6]) (.agg #[d3,d4,d5,d6]) rfl rfl rfl CL (fun u hu=>by simp only [List.mem_cons,List.not_mem_nil,or_false] at hu;rcases hu with rfl|rfl|rfl|rfl <;> first|exact g6.oneCell|exact g7.oneCell|exact g8.oneCell|exact g9.oneCell) (by repeat (assumption)) a0 oT ml fun rT mm P9 T8 iq=>(?_))))))))
  have b1:=b1.mv P9
  have g6:=g6.mv P9 T8 (fun b hb=>AJ (v0 b hb))
  have g7:=g7.mv P9 T8 (fun b hb=>AJ (v1 b hb))
  have g8:=g8.mv P9 T8 (fun b hb=>AJ (v2 b hb))
  have g9:=g9.mv P9 T8 (fun b hb=>AJ (v3 b hb))
  have hT:=by exact hT.mvB P9 T8 aS (by decide) (fun x hx=>by exact hx)
  refine AE (AW (AB (AD kR (AC (AF (vI ((k:Nat):Int)) rfl (AC (CE .i64 ((k:Nat):Int) (1:Int) (((k+1:Nat):Int)) rfl rfl (EP oM oM) (AC (AH (vI ((k+1:Nat):Int)) rfl (AE (AB (?_))))))))))))
  exact ⟨_,oM,(k+1),(s2),(L2),d3,d4,d5,d6,im,oM,(by (rw [eM];exact RA hI _)),hT,rfl,⟨_,AL _ ⟨rfl,rfl,(by rfl),rfl,trivial⟩⟩,mm,g6,W5,g7,W6,g8,W7,g9,W8,b1,iq,aS,v0,v1,v2,v3,D4,D5,D6,D7,D8,D9,E0,E1,E2,E3,E4,E5⟩
 have pj:(l.length:Int)≤((k:Nat):Int):=by simpa using Z5
 obtain rfl:k=l.length:=by omega
 refine EF (CG (CG (DJ (AB (AG (AG (?_)))))))
 obtain ⟨Y2,mn,bD,e3,W4⟩:=ho1_b9863_0.publish nm
 have b2:∀ b,a1.ownBlock=some b→b∈Y2:=fun b hb=>W4 b (b2 b hb) (nn1_b9863_1_b9863_0 b hb)
 have b7:∀ b,a3.ownBlock=some b→b∈Y2:=fun b hb=>W4 b (b7 b hb) (nn1_b9863_2_b9863_0 b hb)
 have b4:∀ b,a2.ownBlock=some b→b∈Y2:=fun b hb=>W4 b (b4 b hb) (nn1_b9863_3_b9863_0 b hb)
 have e9:b8∈Y2:=W4 b8 (by repeat (assumption)) (fun e=>absurd rfl (nb1_b9863_0_b9863 _ e))
 have nr:=e3.len_le
 have ho1_b9863_1:=ho1_b9863_1.mv bD (Keep.refl [] _) (by simp)
 have ho1_b9863_2:=ho1_b9863_2.mv bD (Keep.refl [] _) (by simp)
 have ho1_b9863_3:=ho1_b9863_3.mv bD (Keep.refl [] _) (by simp)
 have a0:=a0.keep (Keep.refl [] _) (by simp)
 obtain ⟨bE,mo,bF,e4,aW⟩:=ho1_b9863_1.publish mn
 have b7:∀ b,a3.ownBlock=some b→b∈bE:=fun b hb=>aW b (b7 b hb) (nn1_b9863_2_b9863_1 b hb)
 have b4:∀ b,a2.ownBlock=some b→b∈bE:=fun b hb=>aW b (b4 b hb) (nn1_b9863_3_b9863_1 b hb)
 have e9:b8∈bE:=aW b8 (by repeat (assumption)) (fun e=>absurd rfl (nb1_b9863_1_b9863 _ e))
 have ns:=e4.len_le
 have e3:=e3.mv bF
 have ho1_b9863_2:=ho1_b9863_2.mv bF (Keep.refl [] _) (by simp)
 have ho1_b9863_3:=ho1_b9863_3.mv bF (Keep.refl [] _) (by simp)
 have a0:=a0.keep (Keep.refl [] _) (by simp)
 obtain ⟨eO,mp,bG,e0,dE⟩:=ho1_b9863_2.publish mo
 have b4:∀ b,a2.ownBlock=some b→b∈eO:=fun b hb=>dE b (b4 b hb) (nn1_b9863_3_b9863_2 b hb)
 have e9:b8∈eO:=dE b8 (by repeat (assumption)) (fun e=>absurd rfl (nb1_b9863_2_b9863 _ e))
 have nt:=e0.len_le
 have e3:=e3.mv bG
 have e4:=e4.mv bG
 have ho1_b9863_3:=ho1_b9863_3.mv bG (Keep.refl [] _) (by simp)
 have a0:=a0.keep (Keep.refl [] _) (by simp)
 obtain ⟨eP,mq,bH,e5,ir⟩:=ho1_b9863_3.publish mp
 have e9:b8∈eP:=ir b8 (by repeat (assumption)) (fun e=>absurd rfl (nb1_b9863_3_b9863 _ e))
 have nu:=e5.len_le
 have e3:=e3.mv bH
 have e4:=e4.mv bH
 have e0:=e0.mv bH
 have a0:=a0.keep (Keep.refl [] _) (by simp)
 refine AD kR (AC (AH (vI 0) rfl (AE (AB (BN (?_))))))
 have hI:=hr1_1
 refine ED (fun mI FI wI=>∃ (i:Nat) (B:List Nat),i≤s.shown.length∧mI=s.shown.length - i∧(∃ F1,FI=GM F1 [(5,vP (some ⟨b8,0,none⟩)),(10,vI ((i:Nat):Int)),(160,undef)])∧St w O wI B∧CI Enc.device wI (B++O) (b3) (s.d)∧CI Enc.val wI (B++O) (a1) (L)∧CI Enc.devop wI (B++O) (a3) (s.done)∧CI Enc.int wI (B++O) (a2) (s.shown)∧EN wI b8 29 [b3,a1,a3,a2]∧b8∈B) (s.shown.length - (0)) ?_ ?_
 ·exact ⟨(0),eP,oM,rfl,⟨_,AL _ ⟨rfl,(by rfl),rfl,trivial⟩⟩,mq,e3,e4,e0,e5,a0,aS⟩
 intro sY F rU hI
 clear e3 e4 e0 e5 a0
 obtain ⟨i,eQ,hr2_0,sZ,⟨ta,rfl⟩,nn,e3,e4,e0,e5,a0,e9⟩:=hI
 refine AG (AG (AD kR (AC (AF (vI ((i:Nat):Int)) rfl (AC (AM 3 GO rfl (AC (AR U27_ rfl (a2) rfl a0 rfl (AC (DS U27_ rfl e5 (AC (DR .i64 ((i:Nat):Int) (s.shown.length:Int) rfl rfl (AE (AB (AK (decide (((i:Nat):Int)<(s.shown.length:Int))) rfl rfl (fun aX=>?_) (fun aX=>?_))))))))))))))))
 ·have pk:((i:Nat):Int)<(s.shown.length:Int):=by simpa using aX
  refine AT (AB (AG (BN (AG (FV 9 _ _ kR kR kR kR kR rfl rfl fun eR bI=>?_)))))
  have eS:=nn.call bI
  have Y3:Mv eQ rU eQ eR:=Mv.of_keep bI
  have e5:=e5.mv Y3
  have e3:=e3.mv Y3
  have e4:=e4.mv Y3
  have e0:=e0.mv Y3
  have a0:=a0.keep bI (by simp)
  refine CA (AM 3 GO rfl (CA (AR U27_ rfl (a2) rfl a0 rfl (CA (AF (vI ((i:Nat):Int)) rfl (CA (ID U27_ s_3 0 i rfl (.inl ⟨rfl,rfl⟩) (.inr ⟨.tmp 72, .i64,((i:Nat):Int),rfl,rfl,rfl⟩) oM oM e5 fun eT dF=>(?_))))))))
  rw [List.drop_zero] at dF
  refine CA (AM 3 GO rfl (CA (AR U27_ rfl (a2) rfl a0 rfl (CA (AF (vI ((i:Nat):Int)) rfl (CA (BZ U27_ s_3 .i64 ((i:Nat):Int) i rfl rfl rfl e5 oM fun rV it=>(CA (BJ U3_ rfl rfl it (HN (AC (BI (vs:=[eT,vI (s.shown[i]!)]) enter_22 (c_hasT (O:=eQ++O) eT (s.shown.take i) (s.shown[i]!) eR dF eS.lt) rfl eS fun rW rX mr Y4 ms mt=>(?_)))))))))))))
  obtain rfl:=mt
  have e5:=e5.mv Y4
  have e3:=e3.mv Y4
  have e4:=e4.mv Y4
  have e0:=e0.mv Y4
  have a0:=a0.keep ms (by simp)
  refine AE (AB (?_))
  have iu:((s.shown.take i).contains (s.shown[i]!))=false:=(sh_has hI oM)
  rw [iu]
  refine AK false rfl rfl (fun h=>by cases h) (fun _=>AT (AW (AB (AD kR (AC (AF (vI ((i:Nat):Int)) rfl (AC (CE .i64 ((i:Nat):Int) (1:Int) (((i+1:Nat):Int)) rfl rfl (EP oM oM) (AC (AH (vI ((i+1:Nat):Int)) rfl (AE (AB (?_)))))))))))))
  exact ⟨_,oM,(i+1),eQ,oM,rfl,⟨_,AL _ ⟨rfl,(by rfl),rfl,trivial⟩⟩,mr,e3,e4,e0,e5,a0,aS⟩
 have pl:(s.shown.length:Int)≤((i:Nat):Int):=by simpa using aX
 refine EF (CG (CG (DJ (AB (AG (AD kR (AC (EY (E:=Enc.devop) (xs:=[]) U26_ BX HC (by decide) [] [] [] rfl rfl rfl (Parts.nil _ _ _) oT nn fun eU rY mu Y5 mw dG=>(?_)))))))))
 have e5:=e5.mv Y5
 have e3:=e3.mv Y5
 have e4:=e4.mv Y5
 have e0:=e0.mv Y5
 have a0:=a0.keep mw (by simp)
 have:=dG.len_le
 refine AC (AH (eU) rfl (AE (AB (AG (AG (AD kR (AC (AH (vI 0) rfl (AE (AB (BN (ED (fun mI FI wI=>∃ (i:Nat) (p2:Value) (B:List Nat),i≤s.done.length∧mI=s.done.length - i∧(∃ F1,FI=GM F1 [(5,vP (some ⟨b8,0,none⟩)),(11,p2),(12,vI ((i:Nat):Int)),(160,undef)])∧St w O wI B∧CI Enc.devop wI (B++O) p2 (EU s.done i)∧CI Enc.device wI (B++O) (b3) (s.d)∧CI Enc.val wI (B++O) (a1) (L)∧CI Enc.devop wI (B++O) (a3) (s.done)∧CI Enc.int wI (B++O) (a2) (s.shown)∧EN wI b8 29 [b3,a1,a3,a2]∧b8∈B) (s.done.length - (0)) ?_ ?_))))))))))))
 ·exact ⟨(0),eU,eQ,oM,rfl,⟨_,AL _ ⟨rfl,rfl,(by rfl),rfl,trivial⟩⟩,mu,(by rw [show EU s.done (0)=[] from rfl];exact dG),e3,e4,e0,e5,a0,aS⟩
 intro tb F rZ hI
 clear e3 e4 e0 e5 a0
 obtain ⟨i,p2,mx,hr3_0,pv,⟨tc,rfl⟩,my,l1,e3,e4,e0,e5,a0,e9⟩:=hI
 have:=l1.len_le
 refine AG (AG (AD kR (AC (AF (vI ((i:Nat):Int)) rfl (AC (AM 2 EE rfl (AC (AR U26_ rfl (a3) rfl a0 rfl (AC (DS U26_ rfl e0 (AC (DR .i64 ((i:Nat):Int) (s.done.length:Int) rfl rfl (AE (AB (AK (decide (((i:Nat):Int)<(s.done.length:Int))) rfl rfl (fun aY=>?_) (fun aY=>?_))))))))))))))))
 ·have pm:((i:Nat):Int)<(s.done.length:Int):=by simpa using aY
  refine AT (AB (AG (BN (AG (AG (AD kR (AC (AH (vI 0) rfl (AE (AB (BN (ED (fun mI FI wI=>∃ (j:Nat) (B:List Nat),j≤i∧mI=i - j∧(∃ F1,FI=GM F1 [(5,vP (some ⟨b8,0,none⟩)),(11,p2),(12,vI ((i:Nat):Int)),(13,vI ((j:Nat):Int)),(160,undef)])∧St w O wI B∧CI Enc.devop wI (B++O) (p2) (EU s.done i)∧CI Enc.device wI (B++O) (b3) (s.d)∧CI Enc.val wI (B++O) (a1) (L)∧CI Enc.devop wI (B++O) (a3) (s.done)∧CI Enc.int wI (B++O) (a2) (s.shown)∧EN wI b8 29 [b3,a1,a3,a2]∧b8∈B) (i - (0)) ?_ ?_))))))))))))
  ·exact ⟨(0),mx,oM,rfl,⟨_,AL _ ⟨rfl,rfl,rfl,(by rfl),rfl,trivial⟩⟩,my,l1,e3,e4,e0,e5,a0,aS⟩
  intro td F np hI
  clear l1 e3 e4 e0 e5 a0
  obtain ⟨j,dH,hr4_0,te,⟨tf,rfl⟩,mz,l1,e3,e4,e0,e5,a0,e9⟩:=hI
  refine AG (AG (AD kR (AC (AF (vI ((j:Nat):Int)) rfl (AC (AF (vI ((i:Nat):Int)) rfl (AC (DR .i64 ((j:Nat):Int) ((i:Nat):Int) rfl rfl (AE (AB (AK (decide (((j:Nat):Int)<((i:Nat):Int))) rfl rfl (fun aZ=>?_) (fun aZ=>?_))))))))))))
  ·have pn:((j:Nat):Int)<((i:Nat):Int):=by simpa using aZ
   refine AT (AB (AG (BN (AG (FV 28 _ _ kR kR kR kR kR rfl rfl fun mA bJ=>?_)))))
   have eV:=mz.call bJ
   have T9:Mv dH np dH mA:=Mv.of_keep bJ
   have l1:=l1.mv T9
   have e3:=e3.mv T9
   have e4:=e4.mv T9
   have e0:=e0.mv T9
   have e5:=e5.mv T9
   have a0:=a0.keep bJ (by simp)
   refine CA (AM 2 EE rfl (CA (AR U26_ rfl (a3) rfl a0 rfl (CA (AF (vI ((j:Nat):Int)) rfl (CA (BZ U26_ BX .i64 ((j:Nat):Int) j rfl rfl rfl e0 oM fun sa iv=>(CA (AP 3 II ((s.done[j]!).copy) rfl iv (fun _ _ _ h=>DK h) fun sb iw=>(CA (BJ U3_ rfl rfl iw (CA (AM 2 EE rfl (CA (AR U26_ rfl (a3) rfl a0 rfl (CA (AF (vI ((i:Nat):Int)) rfl (CA (BZ U26_ BX .i64 ((i:Nat):Int) i rfl rfl rfl e0 oM fun sc ix=>(CA (AP 3 II ((s.done[i]!).copy) rfl ix (fun _ _ _ h=>DK h) fun sd iy=>(CA (BJ U3_ rfl rfl iy (CA (DC .i64 ((s.done[j]!).copy) ((s.done[i]!).copy) rfl rfl (CA (AF (vO (((s.done[j]!).copy) == ((s.done[i]!).copy))) rfl (?_))))))))))))))))))))))))))))
   cases dI:(((s.done[j]!).copy) == ((s.done[i]!).copy))
   ·have po:(s.done[j]!).copy≠(s.done[i]!).copy:=by simpa using dI
    refine NC rfl (NC rfl (NC rfl (NC rfl (NC rfl (NC rfl (NC rfl (NC rfl (NC rfl (NC rfl (NC rfl (NC rfl (NC rfl (CA (BM (vO false) rfl rfl (HN (AE (AB (AK false rfl rfl (fun h=>by cases h) (fun _=>AT (AW (AB (AD kR (AC (AF (vI ((j:Nat):Int)) rfl (AC (CE .i64 ((j:Nat):Int) (1:Int) (((j+1:Nat):Int)) rfl rfl (EP oM oM) (AC (AH (vI ((j+1:Nat):Int)) rfl (AE (AB (?_)))))))))))))))))))))))))))))))
    exact ⟨_,oM,(j+1),dH,oM,rfl,⟨_,AL _ ⟨rfl,rfl,rfl,(by rfl),rfl,trivial⟩⟩,eV,l1,e3,e4,e0,e5,a0,aS⟩
   have pp:(s.done[j]!).copy=(s.done[i]!).copy:=by simpa using dI
   refine MW rfl (AM 2 EE rfl (MW rfl (AR U26_ rfl (a3) rfl a0 rfl (MW rfl (AF (vI ((j:Nat):Int)) rfl (MW rfl (BZ U26_ BX .i64 ((j:Nat):Int) j rfl rfl rfl e0 oM fun se iz=>(MW rfl (AP 5 LE ((s.done[j]!).token) rfl iz (fun _ _ _ h=>FE h) fun sf iA=>(MW rfl (BJ U3_ rfl rfl iA (MW rfl (AM 2 EE rfl (MW rfl (AR U26_ rfl (a3) rfl a0 rfl (MW rfl (AF (vI ((i:Nat):Int)) rfl (MW rfl (BZ U26_ BX .i64 ((i:Nat):Int) i rfl rfl rfl e0 oM fun sg iB=>(MW rfl (AP 5 LE ((s.done[i]!).token) rfl iB (fun _ _ _ h=>FE h) fun si iC=>(MW rfl (BJ U3_ rfl rfl iC (MW rfl (DC .i64 ((s.done[j]!).token) ((s.done[i]!).token) rfl rfl (CA (BA (vO (((s.done[j]!).token) == ((s.done[i]!).token))) rfl rfl (HN (AE (AB (?_)))))))))))))))))))))))))))))))
   have iD:(((s.done[j]!).token) == ((s.done[i]!).token))=false:=(beq_false_of_ne (tok_ne hI oM oM aS))
   rw [iD]
   refine AK false rfl rfl (fun h=>by cases h) (fun _=>AT (AW (AB (AD kR (AC (AF (vI ((j:Nat):Int)) rfl (AC (CE .i64 ((j:Nat):Int) (1:Int) (((j+1:Nat):Int)) rfl rfl (EP oM oM) (AC (AH (vI ((j+1:Nat):Int)) rfl (AE (AB (?_)))))))))))))
   exact ⟨_,oM,(j+1),dH,oM,rfl,⟨_,AL _ ⟨rfl,rfl,rfl,(by rfl),rfl,trivial⟩⟩,eV,l1,e3,e4,e0,e5,a0,aS⟩
  have pq:((i:Nat):Int)≤((j:Nat):Int):=by simpa using aZ
  refine EF (CG (CG (DJ (AB (AG (AD kR (AC (AF (p2) rfl (AC (AM 2 EE rfl (AC (AR U26_ rfl (a3) rfl a0 rfl (AC (AF (vI ((i:Nat):Int)) rfl (AC (BZ U26_ BX .i64 ((i:Nat):Int) i rfl rfl rfl e0 oM fun sj iE=>(AC (BT U40_ rfl BX rfl iE fun pr iF=>(?_)))))))))))))))))))
  obtain rfl:=iF
  refine AC (BI (vs:=[p2,vA #[vI ((s.done[i]!).device),vI ((s.done[i]!).no),vI ((s.done[i]!).kind),vI ((s.done[i]!).copy),vI ((s.done[i]!).to),vI ((s.done[i]!).token)]]) enter_23 (c_add (O:=dH++O) p2 (EU s.done i) [vI ((s.done[i]!).device),vI ((s.done[i]!).no),vI ((s.done[i]!).kind),vI ((s.done[i]!).copy),vI ((s.done[i]!).to),vI ((s.done[i]!).token)] (s.done[i]!) np l1 rfl mz.lt) rfl mz fun sk sl mB Y6 mC mD=>(?_))
  obtain ⟨Q0,rfl,dJ⟩:=mD
  have:=dJ.len_le
  have e0:=e0.mv Y6
  have e3:=e3.mv Y6
  have e4:=e4.mv Y6
  have e5:=e5.mv Y6
  have a0:=a0.keep mC (by simp)
  refine AC (AF (vT #[Q0,vI ((CQ (EU s.done i) (s.done[i]!)).2)]) rfl (AC (BD (Q0) rfl rfl (AC (BD (vI ((CQ (EU s.done i) (s.done[i]!)).2)) rfl rfl (AC (AH (Q0) rfl (AC (AH (vI ((CQ (EU s.done i) (s.done[i]!)).2)) rfl (AE (AB (AG (AG (AD kR (AC (AF (vI ((CQ (EU s.done i) (s.done[i]!)).2)) rfl (AC (DX .i64 ((CQ (EU s.done i) (s.done[i]!)).2) (0:Int) rfl rfl (AE (AB (?_)))))))))))))))))))))
  have iG:(((CQ (EU s.done i) (s.done[i]!)).2) != (0:Int))=false:=(by rw [all_add hI bd oM];rfl)
  rw [iG]
  refine AK false rfl rfl (fun h=>by cases h) (fun _=>AT (AB (AD kR (AC (AF (Q0) rfl (AC (AH (Q0) rfl (AE (AW (AB (AD kR (AC (AF (vI ((i:Nat):Int)) rfl (AC (CE .i64 ((i:Nat):Int) (1:Int) (((i+1:Nat):Int)) rfl rfl (EP oM oM) (AC (AH (vI ((i+1:Nat):Int)) rfl (AE (AB (?_))))))))))))))))))))
  exact ⟨_,oM,(i+1),Q0,dH,oM,rfl,⟨_,AL _ ⟨rfl,rfl,(by rfl),rfl,trivial⟩⟩,mB,(by rw [show EU s.done (i+1)=(CQ (EU s.done i) (s.done[i]!)).1 from rfl];exact dJ),e3,e4,e0,e5,a0,aS⟩
 have ps:(s.done.length:Int)≤((i:Nat):Int):=by simpa using aY
 obtain rfl:i=s.done.length:=by omega
 refine EF (CG (CG (DJ (AB (AG (AD kR (AC (AF (p2) rfl (AC (BI (vs:=[p2,vI 4,vI 0]) IU (KQ (O:=mx++O) p2 (EU s.done s.done.length) (4:Int) (0:Int) rZ l1 my.lt) rfl my fun sm sn mE Y7 mF mG=>(?_)))))))))))
 obtain ⟨I5,rfl,j3⟩:=mG
 have:=j3.len_le
 have e0:=e0.mv Y7
 have e3:=e3.mv Y7
 have e4:=e4.mv Y7
 have e5:=e5.mv Y7
 have a0:=a0.keep mF (by simp)
 refine AC (AF (vT #[I5,vI ((AI (EU s.done s.done.length) (4:Int) (0:Int)).2)]) rfl (AC (BD (I5) rfl rfl (AC (BD (vI ((AI (EU s.done s.done.length) (4:Int) (0:Int)).2)) rfl rfl (AC (AH (I5) rfl (AC (AH (vI ((AI (EU s.done s.done.length) (4:Int) (0:Int)).2)) rfl (AE (AB (AG (AG (AD kR (AC (AF (vI ((AI (EU s.done s.done.length) (4:Int) (0:Int)).2)) rfl (AC (DX .i64 ((AI (EU s.done s.done.length) (4:Int) (0:Int)).2) (0:Int) rfl rfl (AC (AF (vO (((AI (EU s.done s.done.length) (4:Int) (0:Int)).2) != (0:Int))) rfl (?_)))))))))))))))))))))
 have iH:(((AI (EU s.done s.done.length) (4:Int) (0:Int)).2) != (0:Int))=false:=(by rw [KP hI bd];rfl)
 rw [iH]
 refine BH rfl (AF (I5) rfl (BH rfl (DS U43_ rfl j3 (BH rfl (DX .i64 (((AI (EU s.done s.done.length) (4:Int) (0:Int)).1).length:Int) (4:Int) rfl rfl (AC (BM (vO ((((AI (EU s.done s.done.length) (4:Int) (0:Int)).1).length:Int) != (4:Int))) rfl rfl (AE (AB (?_))))))))))
 have iI:((((AI (EU s.done s.done.length) (4:Int) (0:Int)).1).length:Int) != (4:Int))=false:=(by rw [FB (KP hI bd)];rfl)
 rw [iI]
 refine AK false rfl rfl (fun h=>by cases h) (fun _=>AT (AB (AG (AG (AD kR (AC (AH (vI 0) rfl (AE (AB (BN (ED (fun mI FI wI=>∃ (c:Nat) (B:List Nat),c≤4∧mI=4 - c∧(∃ F1,FI=GM F1 [(5,vP (some ⟨b8,0,none⟩)),(16,I5),(18,vI ((c:Nat):Int)),(160,undef)])∧St w O wI B∧CI Enc.holding wI (B++O) (I5) ((AI (EU s.done s.done.length) (4:Int) (0:Int)).1)∧CI Enc.device wI (B++O) (b3) (s.d)∧CI Enc.val wI (B++O) (a1) (L)∧CI Enc.devop wI (B++O) (a3) (s.done)∧CI Enc.int wI (B++O) (a2) (s.shown)∧EN wI b8 29 [b3,a1,a3,a2]∧b8∈B) (4 - (0)) ?_ ?_)))))))))))
 ·exact ⟨(0),mx,oM,rfl,⟨_,AL _ ⟨rfl,rfl,(by rfl),rfl,trivial⟩⟩,mE,j3,e3,e4,e0,e5,a0,aS⟩
 intro tg F so hI
 clear j3 e3 e4 e0 e5 a0
 obtain ⟨c,fa,hr5_0,th,⟨ti,rfl⟩,nq,j3,e3,e4,e0,e5,a0,e9⟩:=hI
 refine AG (AG (AD kR (AC (AF (vI ((c:Nat):Int)) rfl (AC (DR .i64 ((c:Nat):Int) (4:Int) rfl rfl (AE (AB (AK (decide (((c:Nat):Int)<(4:Int))) rfl rfl (fun ba=>?_) (fun ba=>?_))))))))))
 ·have pt:((c:Nat):Int)<(4:Int):=by simpa using ba
  refine AT (AB (AG (BN (AG (ET [] [] [[(0,1),(1,1),(2,1),(3,1),(4,1),(5,1),(6,1),(7,1),(8,2),(9,4)]] (by intro c F d v w hd;simp only [FQ,EZ];exact GW c F d v w hd) kR kR kR fun eW bK=>?_)))))
  have eX:=nq.call bK
  have U0:Mv fa so fa eW:=Mv.of_keep bK
  have j3:=j3.mv U0
  have e3:=e3.mv U0
  have e4:=e4.mv U0
  have e0:=e0.mv U0
  have e5:=e5.mv U0
  have a0:=a0.keep bK (by simp)
  refine ⟨?_,trivial⟩
  refine AO (AF (I5) rfl (CD (AO (AF (vI ((c:Nat):Int)) rfl (CD (AO (BZ U43_ LI .i64 ((c:Nat):Int) c rfl rfl rfl j3 (by rw [FB (KP hI bd)];show c<4;omega) fun sp iJ=>(CD (AO (AP 3 f_47_3 ((((AI (EU s.done s.done.length) (4:Int) (0:Int)).1)[c]!).shown) rfl iJ (fun _ _ _ h=>JX h) fun sq iK=>(CD (AO (LV U4_ rfl rfl iK (CD (AO (AM 3 GO rfl (CD (AO (AR U27_ rfl (a2) rfl a0 rfl (CD (AO (AF (vI ((c:Nat):Int)) rfl (CD (DU (BI (vs:=[a2,vI ((c:Nat):Int)]) enter_22 (c_hasT (O:=fa++O) a2 s.shown ((c:Nat):Int) eW e5 eX.lt) rfl eX fun sr ss mH U1 eY mJ=>(?_))))))))))))))))))))))))))
  obtain rfl:=mJ
  have j3:=j3.mv U1
  have e5:=e5.mv U1
  have e3:=e3.mv U1
  have e4:=e4.mv U1
  have e0:=e0.mv U1
  have a0:=a0.keep eY (by simp)
  refine ⟨eY,?_⟩
  refine DA rfl (fun w4_ k4_=>o_neqB ((((AI (EU s.done s.done.length) (4:Int) (0:Int)).1)[c]!).shown) (s.shown.contains ((c:Nat):Int)) U4_ rfl rfl (⟨rfl,rfl⟩)) (EW (AB (?_)))
  have iL:(((((AI (EU s.done s.done.length) (4:Int) (0:Int)).1)[c]!).shown) != (s.shown.contains ((c:Nat):Int)))=false:=(by rw [all_shown hI bd oM];exact bne_self_eq_false _)
  rw [iL]
  refine AK false rfl rfl (fun h=>by cases h) (fun _=>AT (AW (AB (AD kR (AC (AF (vI ((c:Nat):Int)) rfl (AC (CE .i64 ((c:Nat):Int) (1:Int) (((c+1:Nat):Int)) rfl rfl (EP oM oM) (AC (AH (vI ((c+1:Nat):Int)) rfl (AE (AB (?_)))))))))))))
  exact ⟨_,oM,(c+1),fa,oM,rfl,⟨_,AL _ ⟨rfl,rfl,(by rfl),rfl,trivial⟩⟩,mH,j3,e3,e4,e0,e5,a0,aS⟩
 have pu:(4:Int)≤((c:Nat):Int):=by simpa using ba
 refine EF (CG (CG (DJ (AB (AG (AD kR (AC (AH (vO true) rfl (AE (AB (AS (AZ rfl (CX rfl rfl rfl) (?_)))))))))))))
 exact ⟨_,rfl,nq.keep,rfl⟩
end Go.Proofs.Ytjpniibleelgiaa
