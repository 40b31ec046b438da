/- What the laws of this part rest on: lemmas, and the walks of the functions. No conditions. -/
import Derived.WalkKit
import Derived.WalkSpells
import Derived.WalkLawsBesides
import Derived.RangeFuncLeaves
import Derived.Maps.AppendAt
import Derived.Deep.AppendLies
import Derived.Deep.Slices
import Derived.OpenShut
import Derived.ProofKit
import Derived.Below
import Derived.ChangeSame
import Derived.Carry
import Derived.RangeFuncRecord
import Derived.Laws.Tables
import Derived.Recover
import Derived.DefersIn
import Derived.Lib.AppendZerosOnto
import Derived.Lib.Overlaps
import Derived.Laws.CopyRow
import Derived.Laws.StructEq
import Derived.ChangeKeysEq
import Derived.OrdersIn
import Derived.Test.YtjpniibleelgiaaRows
import Derived.Test.YtjpniibleelgiaaPT12
set_option linter.unusedSimpArgs false
set_option linter.unusedVariables false
namespace Go.Proofs.Ytjpniibleelgiaa
open Go.Fw Go.RowKit
set_option maxHeartbeats 4000000 in
set_option maxRecDepth 100000 in
theorem c_merge {O:List Nat} (a_v:Value) (a:List DeviceOp) (b_v:Value) (b:List DeviceOp) (w:World) (b0:CI Enc.devop w O a_v a) (b1:CI Enc.devop w O b_v b) (hO:∀ b∈O,b<w.heap.size):CF Try.prog 31 [a_v,b_v] w (fun v w'=>∃ (x0:Value),v = .tuple #[x0,vI ((BW a b).2)]∧CI Enc.devop w' (O) x0 ((BW a b).1)):= by
 have K6:=b0.len_le
 have b0:CI Enc.devop w ([]++O) a_v a:=b0
 have K7:=b1.len_le
 have b1:CI Enc.devop w ([]++O) b_v b:=b1
 have s0:St w O w []:=St.start hO
 refine BS 25 Try.func31 rfl rfl oT (fun F0=>AG (AD kR (AC (AH (nS) rfl (AC (AH (vI 0) rfl (AE (AB (AG (AG (AD kR (AC (AF (a_v) rfl (AC (BI (vs:=[a_v]) KG (IV (O:=[]++O) a_v a w b0 s0.lt) rfl s0 fun O5 E2 s7 v2 O6 E3=>(?_))))))))))))))))
 obtain rfl:=E3
 have b0:=b0.mv v2
 have b1:=b1.mv v2
 refine AC (DX .i64 (BR a) (0:Int) rfl rfl (AC (AF (vO ((BR a) != (0:Int))) rfl (?_))))
 cases t3:((BR a) != (0:Int))
 ·have y8:BR a=(0:Int):=by simpa using t3
  have hcka:BR a=0:=y8
  have hcka_1:=(IZ hcka).1
  refine BH rfl (AF (b_v) rfl (BH rfl (BI (vs:=[b_v]) KG (IV (O:=[]++O) b_v b E2 b1 s7.lt) rfl s7 fun O7 O8 v3 v4 O9 E4=>(?_))))
  obtain rfl:=E4
  have b0:=b0.mv v4
  have b1:=b1.mv v4
  refine BH rfl (DX .i64 (BR b) (0:Int) rfl rfl (AC (BM (vO ((BR b) != (0:Int))) rfl rfl (AE (AB (AK ((BR b) != (0:Int)) rfl rfl (fun q1=>?_) (fun q1=>?_)))))))
  ·have K8:BR b≠(0:Int):=by simpa using q1
   refine AG (AD kR (AC (AH (nS) rfl (AC (AH (vI 420) rfl (AE (AB (AS (AN (AZ rfl (HT rfl rfl rfl rfl) (?_)))))))))))
   have E5:((BW a b).1)=([]):=by exact congrArg (fun p=>p.1) (show BW a b=_ from merge_2 aS)
   have E6:((BW a b).2)=(420:Int):=by exact congrArg (fun p=>p.2) (show BW a b=_ from merge_2 aS)
   exact ⟨_,rfl,v3.keep,by rw [E5,E6];exact ⟨.slice none 0 0,rfl,CI.nil _ _ _⟩⟩
  have y9:BR b=(0:Int):=by simpa using q1
  have hckb:BR b=0:=y9
  have hckb_1:=(IZ hckb).1
  refine AT (AB (AG (AD kR (AC (AF (a_v) rfl (AC (AF (b_v) rfl (AC (LO [a_v,b_v] _ enter_73 rfl (EJ 6 Try.func73 rfl rfl oT (fun P0=>AG (AD kR (AC (o_box (a_v) [a_v] rfl (HG b0.oneCell) v3 fun b7 P1 E7 E8 v5 P2 d3=>(?_)))))) (fun _ _ h=>h))))))))))
  clear E7
  have b0:=b0.mv v5
  have b1:=b1.mv v5
  refine AC (o_box (b_v) [b_v] rfl (HG b1.oneCell) E8 fun b8 P3 E9 F3 v6 F4 g1=>(?_))
  have i1:DB b7 b8:=by show b7≠b8;have:=d3.lt;omega
  clear E9
  have b0:=b0.mv v6
  have b1:=b1.mv v6
  have d3:=d3.keep F4 (by simp)
  refine AC (AH (Value.nilFunc) rfl (AE (AB (AG (AD kR (AC (EX (first:=[]) (captured:=[.tmp 2, .tmp 3]) [] [vP (some ⟨b7,0,none⟩),vP (some ⟨b8,0,none⟩)] rfl rfl (AC (AH (vN (.func 101) #[] #[vP (some ⟨b7,0,none⟩),vP (some ⟨b8,0,none⟩)]) rfl (AE (AB (AS (AZ rfl (CX rfl rfl rfl) (Exists.intro _ (And.intro rfl (AC (LO [vN (.func 101) #[] #[vP (some ⟨b7,0,none⟩),vP (some ⟨b8,0,none⟩)]] _ enter_72 rfl (EJ 5 Try.func72 rfl rfl oT (fun P4=>AG (AD kR (AC (AH (nS) rfl (AE (AB (AG (AD kR (AC (AF (vN (.func 101) #[] #[vP (some ⟨b7,0,none⟩),vP (some ⟨b8,0,none⟩)]) rfl (AC (LO [nS,vN (.func 101) #[] #[vP (some ⟨b7,0,none⟩),vP (some ⟨b8,0,none⟩)]] _ enter_100 rfl (ME 13 Try.func100 rfl rfl oT (fun P5=>AG (AD kR (AC (o_box (nS) [nS] rfl rfl F3 fun c8 F5 F6 F7 v7 v8 m9=>(?_)))))) (fun _ _ h=>h)))))))))))))) (fun _ _ h=>h))))))))))))))))))
  have n0:DB b7 c8:=by show b7≠c8;have:=d3.lt;omega
  have n1:DB b8 c8:=by show b8≠c8;have:=g1.lt;omega
  clear F6
  have b0:=b0.mv v7
  have b1:=b1.mv v7
  have d3:=d3.keep v8 (by simp)
  have g1:=g1.keep v8 (by simp)
  refine AC (AH (nS) rfl (AE (AB (AG (AG (AD kR (AC (AF (vN (.func 101) #[] #[vP (some ⟨b7,0,none⟩),vP (some ⟨b8,0,none⟩)]) rfl (AE (AB (BN (cw_range (fs:=[]) (lb:=[vP (some ⟨b7,0,none⟩),vP (some ⟨b8,0,none⟩)]) rfl rfl enter_101 rfl (fun b3 c2 F8 j5 _ v1 t4 z0 n9 a3 a6=>?_)))))))))))))
  have f2:DB b7 c2∧DB b7 b3:=by show b7≠c2∧b7≠b3;have:=d3.lt;omega
  have f3:DB b8 c2∧DB b8 b3:=by show b8≠c2∧b8≠b3;have:=g1.lt;omega
  have j6:DB c8 c2∧DB c8 b3:=by show c8≠c2∧c8≠b3;have:=m9.lt;omega
  have F9:=F7.adopt2 n9 t4 oM a3.lt a6.lt
  have v9:Mv (c8 :: (b8 :: (b7 :: []))) F5 (b3 :: c2 :: (c8 :: (b8 :: (b7 :: [])))) F8:=Mv.adopt2 n9 t4 oM
  have b0:=b0.mv v9
  have b1:=b1.mv v9
  have d3:=d3.keep n9 (by simp)
  have g1:=g1.keep n9 (by simp)
  have m9:=m9.keep n9 (by simp)
  have q3:DB c2 b3:=by show c2≠b3;omega
  clear z0
  refine EJ 47 Try.func101 rfl rfl oT (fun P6=>BN (ED (fun mI FI wI=>∃ (p:Nat) (q:Nat) (x:List DeviceOp) (a8:Value) (c5:Value) (b9:Value) (B:List Nat),p≤a.length∧q≤b.length∧x++BO (a.drop p) (b.drop q)=BO a b∧x.length≤p+q∧mI=(a.length - p)+(b.length - q)∧(∃ F1,FI=GM F1 [(0,vN (.yield b3) #[] #[]),(1,vP (some ⟨b7,0,none⟩)),(2,vP (some ⟨b8,0,none⟩)),(47,undef)])∧St w O wI B∧DM Enc.devop 40 w.heap.size (B++O) wI a8 (x)∧(∀ b,a8.ownBlock=some b→b∈B)∧CI Enc.devop wI (B++O) c5 (a.drop p)∧CI Enc.devop wI (B++O) b9 (b.drop q)∧CI Enc.devop wI (B++O) (a_v) (a)∧CI Enc.devop wI (B++O) (b_v) (b)∧Ob wI c2 (.deferred (some []))∧c2∈B∧EN wI b7 26 [c5]∧b7∈B∧EN wI b8 26 [b9]∧b8∈B∧EN wI c8 26 [a8]∧c8∈B∧Ob wI b3 (j5 .ready none)∧b3∈B∧(∀ b,a8.ownBlock=some b→b≠c2)∧(∀ b,a8.ownBlock=some b→b≠b7)∧(∀ b,a8.ownBlock=some b→b≠b8)∧(∀ b,a8.ownBlock=some b→b≠c8)∧(∀ b,a8.ownBlock=some b→b≠b3)) ((a.length - (0))+(b.length - (0))) ?_ ?_))
  ·exact ⟨(0),(0),([]),(.slice none 0 0),a_v,b_v,(b3 :: c2 :: (c8 :: (b8 :: (b7 :: [])))),oM,oM,(by rfl),(by simp),rfl,⟨_,AL _ ⟨rfl,rfl,rfl,rfl,trivial⟩⟩,F9,(by rw [show ([])=[] from by simp];exact (DM.nil Enc.devop 40 _ _ _)),(by intro b hb;simp [Value.ownBlock] at hb),(by rw [show a.drop (0)=a from by rfl];exact b0),(by rw [show b.drop (0)=b from by rfl];exact b1),b0,b1,a3,(by (repeat (first|exact List.mem_cons_self|apply List.mem_cons_of_mem))),d3,(by (repeat (first|exact List.mem_cons_self|apply List.mem_cons_of_mem))),g1,(by (repeat (first|exact List.mem_cons_self|apply List.mem_cons_of_mem))),m9,(by (repeat (first|exact List.mem_cons_self|apply List.mem_cons_of_mem))),a6,(by (repeat (exact List.mem_cons_self))),(fun b hb=>by (simp [Value.ownBlock] at hb;done)),(fun b hb=>by (simp [Value.ownBlock] at hb;done)),(fun b hb=>by (simp [Value.ownBlock] at hb;done)),(fun b hb=>by (simp [Value.ownBlock] at hb;done)),(fun b hb=>by (simp [Value.ownBlock] at hb;done))⟩
  intro P7 F s8 hI
  clear b0 b1 a3 a6
  obtain ⟨p,q,x,a8,c5,b9,f5,hrm0_0,hrm0_1,hrm0_2,hrm0_3,P8,⟨P9,rfl⟩,q4,hom0_b860_0,b2,a9,a2,b0,b1,a3,d7,a7,g2,a1,g3,a0,g4,a6,d8,nbm0_b860_0_D_r869,nbm0_b860_0_b843,nbm0_b860_0_b850,nbm0_b860_0_b860,nbm0_b860_0_l_r869⟩:=hI
  have:=a9.len_le
  have:=a2.len_le
  have hlp:=List.length_drop (i:=p) (l:=a)
  have hlq:=List.length_drop (i:=q) (l:=b)
  refine JW (fun FI wI=>(p<a.length∨q<b.length)∧True∧(∃ F1,FI=GM F1 [(0,vN (.yield b3) #[] #[]),(1,vP (some ⟨b7,0,none⟩)),(2,vP (some ⟨b8,0,none⟩)),(47,undef)])∧s8=wI) ?_ ?_
  ·refine AG (AD kR (AC (AR U26_ rfl (c5) rfl a7 rfl (AC (DS U26_ rfl a9 (AC (IF .i64 ((a.drop p).length:Int) (0:Int) rfl rfl (AC (AF (vO (decide ((0:Int)<((a.drop p).length:Int)))) rfl (?_))))))))))
   cases t5:(decide ((0:Int)<((a.drop p).length:Int)))
   ·have K9:((a.drop p).length:Int)≤(0:Int):=by simpa using t5
    refine BH rfl (AR U26_ rfl (b9) rfl a1 rfl (BH rfl (DS U26_ rfl a2 (BH rfl (IF .i64 ((b.drop q).length:Int) (0:Int) rfl rfl (AC (BM (vO (decide ((0:Int)<((b.drop q).length:Int)))) rfl rfl (AE (AB (AK (decide ((0:Int)<((b.drop q).length:Int))) rfl rfl (fun q5=>?_) (fun q5=>?_)))))))))))
    ·have L0:(0:Int)<((b.drop q).length:Int):=by simpa using q5
     refine AT (AB (?_))
     exact ⟨oM,trivial,⟨_,AL _ ⟨rfl,rfl,rfl,rfl,trivial⟩⟩,rfl⟩
    have L1:((b.drop q).length:Int)≤(0:Int):=by simpa using q5
    obtain rfl:x=BO a b:=by rw [← hrm0_2,show a.drop p=[] from List.eq_nil_of_length_eq_zero oM,show b.drop q=[] from List.eq_nil_of_length_eq_zero oM,BO,List.append_nil]
    refine EF (CG (CG (DJ (end_n rfl (res0 rfl) (⟨⟨_,rfl⟩,?_⟩)))))
    refine ⟨.ready,none,by simp,a6,fun w0 o0=>?_⟩
    have G0:=q4.keepB o0 (by repeat (assumption))
    have G1:Mv f5 s8 f5 w0:=Mv.keepB o0 (by repeat (assumption))
    have a3:=a3.keep o0 (AJ q3)
    have hom0_b860_0:=hom0_b860_0.mv G1 o0 (fun b hb=>AJ (nbm0_b860_0_l_r869 b hb))
    have a0:=a0.keep o0 (AJ j6.2)
    refine AW (AB (AG (AD kR (AC (AR U26_ rfl (a8) rfl a0 rfl (AC (AH (a8) rfl (AE (AB (AS (endM_rm rfl a3 (fun w2 s9=>?_))))))))))))
    have G2:=G0.keepB s9 (by repeat (assumption))
    have G3:Mv f5 w0 f5 w2:=Mv.keepB s9 (by repeat (assumption))
    have hom0_b860_0:=hom0_b860_0.mv G3 s9 (fun b hb=>AJ (nbm0_b860_0_D_r869 b hb))
    refine ⟨_,CX rfl rfl rfl,?_⟩
    refine Exists.intro _ (And.intro rfl (AC (AH (a8) rfl (AE (AB (AS (AZ rfl (CX rfl rfl rfl) (Exists.intro _ (And.intro rfl (AC (AH (a8) rfl (AE (AB (AG (AG (AD kR (AC (AF (a8) rfl (AC (BI (vs:=[a8]) enter_70 (OX (O:=[]) a8 (BO a b) w2 hom0_b860_0.rd0 JA) rfl G2 fun Q0 Q1 q6 G4 G5 G6=>(?_)))))))))))))))))))))
    obtain rfl:=G6
    have hom0_b860_0:=hom0_b860_0.mv G4 G5 (by simp)
    refine AC (EI (CO (BO a b)) rfl (AE (AB (AK (!(CO (BO a b))) rfl rfl (fun q7=>?_) (fun q7=>?_)))))
    ·have L2:(CO (BO a b))=false:=by simpa using q7
     refine AG (AD kR (AC (AH (nS) rfl (AC (AH (vI 420) rfl (AE (AB (AS (AN (AZ rfl (HT rfl rfl rfl rfl) (?_)))))))))))
     have G7:((BW a b).1)=([]):=by exact congrArg (fun p=>p.1) (show BW a b=_ from merge_3 aS aS aS)
     have G8:((BW a b).2)=(420:Int):=by exact congrArg (fun p=>p.2) (show BW a b=_ from merge_3 aS aS aS)
     exact ⟨_,rfl,q6.keep,by rw [G7,G8];exact ⟨.slice none 0 0,rfl,CI.nil _ _ _⟩⟩
    have L3:(CO (BO a b))=true:=by simpa using q7
    refine AT (AB (AG (AG (AD kR (AC (AF (a8) rfl (AC (JG U26_ rfl hom0_b860_0 (AC (IF .i64 ((BO a b).length:Int) (256:Int) rfl rfl (AE (AB (AK (decide ((256:Int)<((BO a b).length:Int))) rfl rfl (fun q8=>?_) (fun q8=>?_))))))))))))))
    ·have L4:(256:Int)<((BO a b).length:Int):=by simpa using q8
     refine AG (AD kR (AC (AH (nS) rfl (AC (AH (vI 2) rfl (AE (AB (AS (AN (AZ rfl (HT rfl rfl rfl rfl) (?_)))))))))))
     have G9:((BW a b).1)=([]):=by exact congrArg (fun p=>p.1) (show BW a b=_ from merge_4 aS aS aS aS)
     have H0:((BW a b).2)=(2:Int):=by exact congrArg (fun p=>p.2) (show BW a b=_ from merge_4 aS aS aS aS)
     exact ⟨_,rfl,q6.keep,by rw [G9,H0];exact ⟨.slice none 0 0,rfl,CI.nil _ _ _⟩⟩
    have L5:((BO a b).length:Int)≤(256:Int):=by simpa using q8
    refine AT (AB (AG (AD kR (AC (AF (a8) rfl (AC (AH (a8) rfl (AC (AH (vI 0) rfl (AE (AB (AS (AZ rfl (HT rfl rfl rfl rfl) (?_))))))))))))))
    have H1:((BW a b).1)=(BO a b):=by exact congrArg (fun p=>p.1) (show BW a b=_ from merge_5 aS aS aS aS)
    have H2:((BW a b).2)=(0:Int):=by exact congrArg (fun p=>p.2) (show BW a b=_ from merge_5 aS aS aS aS)
    exact ⟨_,rfl,q6.keep,by rw [H1,H2];exact ⟨a8,rfl,hom0_b860_0.pub q6⟩⟩
   have L6:(0:Int)<((a.drop p).length:Int):=by simpa using t5
   refine AX rfl (AX rfl (AX rfl (AC (BA (vO true) rfl rfl (AE (AB (AK true rfl rfl (fun _=>AT (AB (?_))) (fun h=>by cases h))))))))
   exact ⟨oM,trivial,⟨_,AL _ ⟨rfl,rfl,rfl,rfl,trivial⟩⟩,rfl⟩
  rintro F L7 ⟨hrcm4_0,L8,⟨L9,rfl⟩,rfl⟩
  refine BN (AG (AD kR (AC (AH (vI 0) rfl (AE (AB (JW (fun FI wI=>∃ (n:Int) (B:List Nat),((p=a.length∧q<b.length∧n=1)∨(p<a.length∧q=b.length∧n = -1)∨(p<a.length∧q<b.length∧n=DE (a.drop p)[0]! (b.drop q)[0]!))∧True∧(∃ F1,FI=GM F1 [(0,vN (.yield b3) #[] #[]),(1,vP (some ⟨b7,0,none⟩)),(2,vP (some ⟨b8,0,none⟩)),(4,vI n),(47,undef)])∧St w O wI B∧CI Enc.devop wI (B++O) (a_v) (a)∧CI Enc.devop wI (B++O) (b_v) (b)∧Ob wI c2 (.deferred (some []))∧c2∈B∧CI Enc.devop wI (B++O) (c5) (a.drop p)∧EN wI b7 26 [c5]∧b7∈B∧CI Enc.devop wI (B++O) (b9) (b.drop q)∧EN wI b8 26 [b9]∧b8∈B∧DM Enc.devop 40 w.heap.size (B++O) wI a8 (x)∧(∀ b,a8.ownBlock=some b→b∈B)∧EN wI c8 26 [a8]∧c8∈B∧Ob wI b3 (j5 .ready none)∧b3∈B) ?_ ?_)))))))
  ·refine BN (AG (AD kR (AC (AR U26_ rfl (c5) rfl a7 rfl (AC (DS U26_ rfl a9 (AC (DC .i64 ((a.drop p).length:Int) (0:Int) rfl rfl (AC (AH (vO (((a.drop p).length:Int) == (0:Int))) rfl (AE (AB (AK (((a.drop p).length:Int) == (0:Int)) rfl rfl (fun q9=>?_) (fun q9=>?_))))))))))))))
   ·have M0:((a.drop p).length:Int)=(0:Int):=by simpa using q9
    refine AD kR (AC (AH (vI 1) rfl (AE (AW (AB (?_))))))
    exact ⟨((1:Int)),f5,(by exact .inl ⟨by omega,by omega,rfl⟩),trivial,⟨_,AL _ ⟨rfl,rfl,rfl,(by rfl),rfl,trivial⟩⟩,q4,b0,b1,a3,aS,a9,a7,aS,a2,a1,aS,hom0_b860_0,b2,a0,aS,a6,aS⟩
   have M1:((a.drop p).length:Int)≠(0:Int):=by simpa using q9
   refine AG (AD kR (AC (AR U26_ rfl (b9) rfl a1 rfl (AC (DS U26_ rfl a2 (AC (DC .i64 ((b.drop q).length:Int) (0:Int) rfl rfl (AC (AH (vO (((b.drop q).length:Int) == (0:Int))) rfl (AE (AB (AK (((b.drop q).length:Int) == (0:Int)) rfl rfl (fun r0=>?_) (fun r0=>?_)))))))))))))
   ·have M2:((b.drop q).length:Int)=(0:Int):=by simpa using r0
    refine AD kR (AC (AH (vI (-1:Int)) rfl (AE (AW (AB (?_))))))
    exact ⟨((-1:Int)),f5,(by exact .inr (.inl ⟨by omega,by omega,rfl⟩)),trivial,⟨_,AL _ ⟨rfl,rfl,rfl,(by rfl),rfl,trivial⟩⟩,q4,b0,b1,a3,aS,a9,a7,aS,a2,a1,aS,hom0_b860_0,b2,a0,aS,a6,aS⟩
   have M3:((b.drop q).length:Int)≠(0:Int):=by simpa using r0
   refine FV 6 _ _ kR kR kR kR kR rfl rfl fun w3 h6=>?_
   have w4:=q4.call h6
   have o1:Mv f5 s8 f5 w3:=Mv.of_keep h6
   have a9:=a9.mv o1
   have a2:=a2.mv o1
   have b0:=b0.mv o1
   have b1:=b1.mv o1
   have a3:=a3.keep h6 (by simp)
   have a7:=a7.keep h6 (by simp)
   have a1:=a1.keep h6 (by simp)
   have hom0_b860_0:=hom0_b860_0.mv o1 h6 (by simp)
   have a0:=a0.keep h6 (by simp)
   have a6:=a6.keep h6 (by simp)
   refine CA (AR U26_ rfl (c5) rfl a7 rfl (CA (BZ U26_ BX .i64 (0:Int) 0 rfl rfl rfl a9 oM fun Q2 z1=>(CA (BT U40_ rfl BX rfl z1 fun M4 z2=>(?_))))))
   obtain rfl:=z2
   refine CA (AR U26_ rfl (b9) rfl a1 rfl (CA (BZ U26_ BX .i64 (0:Int) 0 rfl rfl rfl a2 oM fun Q3 z3=>(CA (BT U40_ rfl BX rfl z3 fun M5 z4=>(?_))))))
   obtain rfl:=z4
   refine HN (AC (BI (vs:=[vA #[vI (((a.drop p)[0]!).device),vI (((a.drop p)[0]!).no),vI (((a.drop p)[0]!).kind),vI (((a.drop p)[0]!).copy),vI (((a.drop p)[0]!).to),vI (((a.drop p)[0]!).token)],vA #[vI (((b.drop q)[0]!).device),vI (((b.drop q)[0]!).no),vI (((b.drop q)[0]!).kind),vI (((b.drop q)[0]!).copy),vI (((b.drop q)[0]!).to),vI (((b.drop q)[0]!).token)]]) OW (NG (O:=f5++O) [vI (((a.drop p)[0]!).device),vI (((a.drop p)[0]!).no),vI (((a.drop p)[0]!).kind),vI (((a.drop p)[0]!).copy),vI (((a.drop p)[0]!).to),vI (((a.drop p)[0]!).token)] ((a.drop p)[0]!) [vI (((b.drop q)[0]!).device),vI (((b.drop q)[0]!).no),vI (((b.drop q)[0]!).kind),vI (((b.drop q)[0]!).copy),vI (((b.drop q)[0]!).to),vI (((b.drop q)[0]!).token)] ((b.drop q)[0]!) w3 rfl rfl w4.lt) rfl w4 fun Q4 Q5 H3 o3 m5 H4=>(?_)))
   obtain rfl:=H4
   have a9:=a9.mv o3
   have a2:=a2.mv o3
   have b0:=b0.mv o3
   have b1:=b1.mv o3
   have a3:=a3.keep m5 (by simp)
   have a7:=a7.keep m5 (by simp)
   have a1:=a1.keep m5 (by simp)
   have hom0_b860_0:=hom0_b860_0.mv o3 m5 (by simp)
   have a0:=a0.keep m5 (by simp)
   have a6:=a6.keep m5 (by simp)
   refine AC (AH (vI (DE ((a.drop p)[0]!) ((b.drop q)[0]!))) rfl (AE (AW (AB (?_)))))
   exact ⟨(DE ((a.drop p)[0]!) ((b.drop q)[0]!)),f5,(by exact .inr (.inr ⟨by omega,by omega,rfl⟩)),trivial,⟨_,AL _ ⟨rfl,rfl,rfl,rfl,rfl,trivial⟩⟩,H3,b0,b1,a3,aS,a9,a7,aS,a2,a1,aS,hom0_b860_0,b2,a0,aS,a6,aS⟩
  intro F M6 hI
  clear b0 b1 a3 a9 a7 a2 a1 hom0_b860_0 b2 a0 a6
  obtain ⟨n,c7,hrcm5_0,M7,⟨M8,rfl⟩,z5,b0,b1,a3,d7,a9,a7,g2,a2,a1,g3,hom0_b860_0,b2,a0,g4,a6,d8⟩:=hI
  refine AG (AD kR (AC (CC [vI 0,vI 0,vI 0,vI 0,vI 0,vI 0] HC rfl z5 fun b6 j4 H5 r1 o4 m6 d4=>(?_))))
  have i2:DB c2 b6:=by show c2≠b6;have:=a3.lt;omega
  have d9:DB b7 b6:=by show b7≠b6;have:=a7.lt;omega
  have e0:DB b8 b6:=by show b8≠b6;have:=a1.lt;omega
  have i3:DB c8 b6:=by show c8≠b6;have:=a0.lt;omega
  have g5:DB b3 b6:=by show b3≠b6;have:=a6.lt;omega
  have g6:∀ b,a8.ownBlock=some b→b≠b6:=fun b hb=>by have:=(hom0_b860_0.lt b hb).2;omega
  have b2:∀ b,a8.ownBlock=some b→b∈(b6 :: c7):=fun b hb=>List.mem_cons_of_mem _ (b2 b hb)
  clear H5
  have b0:=b0.mv o4
  have b1:=b1.mv o4
  have a3:=a3.keep m6 (by simp)
  have a9:=a9.mv o4
  have a7:=a7.keep m6 (by simp)
  have a2:=a2.mv o4
  have a1:=a1.keep m6 (by simp)
  have hom0_b860_0:=hom0_b860_0.mv o4 m6 (by simp)
  have a0:=a0.keep m6 (by simp)
  have a6:=a6.keep m6 (by simp)
  refine AE (AB (JW (fun FI wI=>∃ (p2:Nat) (o:DeviceOp) (d0:Value) (B:List Nat),((n≤0∧p<a.length∧p2=p+1∧o=(a.drop p)[0]!)∨(0<n∧q<b.length∧p2=p))∧True∧(∃ F1,FI=GM F1 [(0,vN (.yield b3) #[] #[]),(1,vP (some ⟨b7,0,none⟩)),(2,vP (some ⟨b8,0,none⟩)),(4,vI n),(5,vP (some ⟨b6,0,none⟩)),(47,undef)])∧St w O wI B∧CI Enc.devop wI (B++O) d0 (a.drop p2)∧CI Enc.devop wI (B++O) (a_v) (a)∧CI Enc.devop wI (B++O) (b_v) (b)∧Ob wI c2 (.deferred (some []))∧c2∈B∧EN wI b7 26 [d0]∧b7∈B∧CI Enc.devop wI (B++O) (b9) (b.drop q)∧EN wI b8 26 [b9]∧b8∈B∧DM Enc.devop 40 w.heap.size (B++O) wI a8 (x)∧(∀ b,a8.ownBlock=some b→b∈B)∧EN wI c8 26 [a8]∧c8∈B∧EN wI b6 40 [vI o.device,vI o.no,vI o.kind,vI o.copy,vI o.to,vI o.token]∧b6∈B∧Ob wI b3 (j5 .ready none)∧b3∈B) ?_ ?_))
  ·refine AG (AD kR (AC (AF (vI n) rfl (AC (o_leq .i64 n (0:Int) rfl rfl (AE (AB (AK (decide (n≤(0:Int))) rfl rfl (fun r2=>?_) (fun r2=>?_)))))))))
   ·have M9:n≤(0:Int):=by simpa using r2
    refine IH 5 [3,4] _ _ _ [fun (vT:Value) (wT:World)=>CI Enc.devop wT ((b6 :: c7)++O) vT (a.drop p),fun (vT:Value) (wT:World)=>∃ aT,vT = .pointer (some aT)∧PT Enc.devop wT ((b6 :: c7)++O) (.pointer (some aT)) ((a.drop p)[0]!),EK (vA #[vI (((a.drop p)[0]!).device),vI (((a.drop p)[0]!).no),vI (((a.drop p)[0]!).kind),vI (((a.drop p)[0]!).copy),vI (((a.drop p)[0]!).to),vI (((a.drop p)[0]!).token)]),fun (vT:Value) (wT:World)=>CI Enc.devop wT ((b6 :: c7)++O) vT (a.drop p),fun (vT:Value) (wT:World)=>CI Enc.devop wT ((b6 :: c7)++O) vT (((a.drop p).drop 1))] kR kR kR kR (by decide) rfl rfl rfl ⟨fun _ _ _ h k=>h.mv (Mv.of_keep k),fun _ _ _ ⟨a,e,h⟩ k=>⟨a,e,h.mv (Mv.of_keep k)⟩,kI,fun _ _ _ h k=>h.mv (Mv.of_keep k),fun _ _ _ h k=>h.mv (Mv.of_keep k),trivial⟩ ⟨?_,?_,?_,?_,?_,trivial⟩ ?_ ?_
    ·intro F1 w1 k1 hf hd
     have k0:=(Keep.drew [] j4).trans k1
     have m1:Mv (b6 :: c7) j4 (b6 :: c7) w1:=Mv.of_keep k0
     have a7:=a7.keep k0 (by simp)
     have a9:=a9.mv m1
     obtain ⟨F2,rfl⟩:=AY (F:=F1) [(1,vP (some ⟨b7,0,none⟩))] ⟨hf 1 kR,trivial⟩
     exact BB rfl ((AR U26_ rfl (c5) rfl a7 rfl (⟨(Keep.refl _ _),a9⟩)))
    ·intro F1 w1 k1 hf hd
     obtain ⟨H6,H7,t6⟩:∃ v,F1 31=v∧CI Enc.devop w1 ((b6 :: c7)++O) v (a.drop p):=⟨_,rfl,hd 0 31 kR⟩
     have:=t6.len_le
     obtain ⟨F2,rfl⟩:=AY (F:=F1) [(31,H6)] ⟨H7,trivial⟩
     exact BB rfl ((BZ U26_ BX .i64 (0:Int) 0 rfl rfl rfl t6 oM fun H8 z6=>(⟨(Keep.refl _ _),⟨H8,rfl,z6⟩⟩)))
    ·intro F1 w1 k1 hf hd
     obtain ⟨H9,I0,z7⟩:∃ aX_,F1 32 = .pointer (some aX_)∧PT Enc.devop w1 ((b6 :: c7)++O) (.pointer (some aX_)) ((a.drop p)[0]!):=hd 1 32 kR
     obtain ⟨F2,rfl⟩:=AY (F:=F1) [(32,vP (some H9))] ⟨I0,trivial⟩
     refine BB rfl ((BT U40_ rfl BX rfl z7 fun N0 z8=>(?_)))
     obtain rfl:=z8
     exact ⟨(Keep.refl _ _),rfl⟩
    ·intro F1 w1 k1 hf hd
     have k0:=(Keep.drew [] j4).trans k1
     have m1:Mv (b6 :: c7) j4 (b6 :: c7) w1:=Mv.of_keep k0
     have a7:=a7.keep k0 (by simp)
     have a9:=a9.mv m1
     obtain ⟨F2,rfl⟩:=AY (F:=F1) [(1,vP (some ⟨b7,0,none⟩))] ⟨hf 1 kR,trivial⟩
     exact BB rfl ((AR U26_ rfl (c5) rfl a7 rfl (⟨(Keep.refl _ _),a9⟩)))
    ·intro F1 w1 k1 hf hd
     obtain ⟨I1,I2,t7⟩:∃ v,F1 34=v∧CI Enc.devop w1 ((b6 :: c7)++O) v (a.drop p):=⟨_,rfl,hd 3 34 kR⟩
     have:=t7.len_le
     obtain ⟨F2,rfl⟩:=AY (F:=F1) [(34,I1)] ⟨I2,trivial⟩
     refine BB rfl ((ID U26_ BX 1 ((a.drop p).length) rfl (.inr ⟨.const (vI 1), .i64,(1:Int),rfl,rfl,rfl⟩) (.inl ⟨rfl,rfl⟩) oM oM t7 fun Q6 t8=>(?_)))
     rw [List.take_length] at t8
     exact ⟨(Keep.refl _ _),t8⟩
    ·intro w5 w6 g7 r3 g8
     have I3:=r1.call g7
     have r4:Mv (b6 :: c7) j4 (b6 :: c7) w6:=Mv.of_keep g7
     have b0:=b0.mv r4
     have b1:=b1.mv r4
     have a3:=a3.keep g7 (by simp)
     have a7:=a7.keep g7 (by simp)
     have a2:=a2.mv r4
     have a1:=a1.keep g7 (by simp)
     have hom0_b860_0:=hom0_b860_0.mv r4 g7 (by simp)
     have a0:=a0.keep g7 (by simp)
     have a6:=a6.keep g7 (by simp)
     have d4:=d4.keep g7 (by simp)
     obtain ⟨t0,I4,g9⟩:∃ v,w5 35=v∧CI Enc.devop w6 ((b6 :: c7)++O) v (((a.drop p).drop 1)):=⟨_,rfl,r3 4 35 kR (by decide)⟩
     have:=g9.len_le
     obtain ⟨F2,rfl⟩:=AY (F:=w5) [(0,vN (.yield b3) #[] #[]),(1,vP (some ⟨b7,0,none⟩)),(2,vP (some ⟨b8,0,none⟩)),(4,vI n),(5,vP (some ⟨b6,0,none⟩)),(47,undef),(33,vA #[vI (((a.drop p)[0]!).device),vI (((a.drop p)[0]!).no),vI (((a.drop p)[0]!).kind),vI (((a.drop p)[0]!).copy),vI (((a.drop p)[0]!).to),vI (((a.drop p)[0]!).token)]),(35,t0)] ⟨g8 0 kR,g8 1 kR,g8 2 kR,g8 4 kR,g8 5 kR,g8 47 kR,r3 2 33 kR (by decide),I4,trivial⟩
     clear r3 g8
     refine BK (AU (vs:=[vI (((a.drop p)[0]!).device),vI (((a.drop p)[0]!).no),vI (((a.drop p)[0]!).kind),vI (((a.drop p)[0]!).copy),vI (((a.drop p)[0]!).to),vI (((a.drop p)[0]!).token)]) (.agg #[vI (((a.drop p)[0]!).device),vI (((a.drop p)[0]!).no),vI (((a.drop p)[0]!).kind),vI (((a.drop p)[0]!).copy),vI (((a.drop p)[0]!).to),vI (((a.drop p)[0]!).token)]) rfl rfl rfl BX (fun u hu=>by simp only [List.mem_cons,List.not_mem_nil,or_false] at hu;rcases hu with rfl|rfl|rfl|rfl|rfl|rfl <;> rfl) (by repeat (constructor)) d4 oT I3 fun Q7 I5 o5 m7 r5=>(?_))
     have g9:=g9.mv o5
     have b0:=b0.mv o5
     have b1:=b1.mv o5
     have a3:=a3.keep m7 (AJ i2)
     have a7:=a7.keep m7 (AJ d9)
     have a2:=a2.mv o5
     have a1:=a1.keep m7 (AJ e0)
     have hom0_b860_0:=hom0_b860_0.mv o5 m7 (fun b hb=>AJ (g6 b hb))
     have a0:=a0.keep m7 (AJ i3)
     have a6:=a6.keep m7 (AJ g5)
     refine BK (BP (t0) rfl rfl g9.oneCell HR rC a7 oT I5 fun Q8 I6 o6 m8 z9=>(?_))
     have g9:=g9.mv o6
     have b0:=b0.mv o6
     have b1:=b1.mv o6
     have a3:=a3.keep m8 (AJ (Ne.symm f2.1))
     have a2:=a2.mv o6
     have a1:=a1.keep m8 (AJ (Ne.symm i1))
     have hom0_b860_0:=hom0_b860_0.mv o6 m8 (fun b hb=>AJ (nbm0_b860_0_b843 b hb))
     have a0:=a0.keep m8 (AJ (Ne.symm n0))
     have a6:=a6.keep m8 (AJ (Ne.symm f2.2))
     have r5:=r5.keep m8 (AJ (Ne.symm d9))
     refine AE (AB (?_))
     exact ⟨(p+1),((a.drop p)[0]!),t0,(b6 :: c7),(by exact .inl ⟨by omega,by omega,rfl,rfl⟩),trivial,⟨_,AL _ ⟨rfl,rfl,rfl,rfl,rfl,rfl,trivial⟩⟩,I6,(by rw [show a.drop (p+1)=((a.drop p).drop 1) from (by rw [List.drop_drop])];exact g9),b0,b1,a3,(by (repeat (first|assumption|apply List.mem_cons_of_mem))),z9,(by (repeat (first|assumption|apply List.mem_cons_of_mem))),a2,a1,(by (repeat (first|assumption|apply List.mem_cons_of_mem))),hom0_b860_0,b2,a0,(by (repeat (first|assumption|apply List.mem_cons_of_mem))),r5,(by (repeat (exact List.mem_cons_self))),a6,(by (repeat (first|assumption|apply List.mem_cons_of_mem)))⟩
    intro cx_ hcx_
    match cx_,hcx_ with
    | 0,_=>
     intro I7 I8 h0 t9 h1
     have I9:=r1.call h0
     have o7:Mv (b6 :: c7) j4 (b6 :: c7) I8:=Mv.of_keep h0
     have b0:=b0.mv o7
     have b1:=b1.mv o7
     have a3:=a3.keep h0 (by simp)
     have a9:=a9.mv o7
     have a7:=a7.keep h0 (by simp)
     have a2:=a2.mv o7
     have a1:=a1.keep h0 (by simp)
     have hom0_b860_0:=hom0_b860_0.mv o7 h0 (by simp)
     have a0:=a0.keep h0 (by simp)
     have a6:=a6.keep h0 (by simp)
     have d4:=d4.keep h0 (by simp)
     obtain ⟨F2,rfl⟩:=AY (F:=I7) [(0,vN (.yield b3) #[] #[]),(1,vP (some ⟨b7,0,none⟩)),(2,vP (some ⟨b8,0,none⟩)),(4,vI n),(5,vP (some ⟨b6,0,none⟩)),(47,undef),(33,vA #[vI (((a.drop p)[0]!).device),vI (((a.drop p)[0]!).no),vI (((a.drop p)[0]!).kind),vI (((a.drop p)[0]!).copy),vI (((a.drop p)[0]!).to),vI (((a.drop p)[0]!).token)])] ⟨h1 0 kR,h1 1 kR,h1 2 kR,h1 4 kR,h1 5 kR,h1 47 kR,t9 2 33 kR (by decide) (by decide),trivial⟩
     clear t9 h1
     refine BK (AU (vs:=[vI (((a.drop p)[0]!).device),vI (((a.drop p)[0]!).no),vI (((a.drop p)[0]!).kind),vI (((a.drop p)[0]!).copy),vI (((a.drop p)[0]!).to),vI (((a.drop p)[0]!).token)]) (.agg #[vI (((a.drop p)[0]!).device),vI (((a.drop p)[0]!).no),vI (((a.drop p)[0]!).kind),vI (((a.drop p)[0]!).copy),vI (((a.drop p)[0]!).to),vI (((a.drop p)[0]!).token)]) rfl rfl rfl BX (fun u hu=>by simp only [List.mem_cons,List.not_mem_nil,or_false] at hu;rcases hu with rfl|rfl|rfl|rfl|rfl|rfl <;> rfl) (by repeat (constructor)) d4 oT I9 fun Q9 J0 j7 i4 o8=>(?_))
     have b0:=b0.mv j7
     have b1:=b1.mv j7
     have a3:=a3.keep i4 (AJ i2)
     have a9:=a9.mv j7
     have a7:=a7.keep i4 (AJ d9)
     have a2:=a2.mv j7
     have a1:=a1.keep i4 (AJ e0)
     have hom0_b860_0:=hom0_b860_0.mv j7 i4 (fun b hb=>AJ (g6 b hb))
     have a0:=a0.keep i4 (AJ i3)
     have a6:=a6.keep i4 (AJ g5)
     refine AC (AR U26_ rfl (c5) rfl a7 rfl (AC (ID U26_ BX 1 ((a.drop p).length) rfl (.inr ⟨.const (vI 1), .i64,(1:Int),rfl,rfl,rfl⟩) (.inl ⟨rfl,rfl⟩) oM oM a9 fun u0 h7=>(?_))))
     rw [List.take_length] at h7
     refine BK (BP (u0) rfl rfl h7.oneCell HR rC a7 oT J0 fun N1 A0 j8 i5 w7=>(?_))
     have h7:=h7.mv j8
     have b0:=b0.mv j8
     have b1:=b1.mv j8
     have a3:=a3.keep i5 (AJ (Ne.symm f2.1))
     have a2:=a2.mv j8
     have a1:=a1.keep i5 (AJ (Ne.symm i1))
     have hom0_b860_0:=hom0_b860_0.mv j8 i5 (fun b hb=>AJ (nbm0_b860_0_b843 b hb))
     have a0:=a0.keep i5 (AJ (Ne.symm n0))
     have a6:=a6.keep i5 (AJ (Ne.symm f2.2))
     have o8:=o8.keep i5 (AJ (Ne.symm d9))
     refine AE (AB (?_))
     exact ⟨(p+1),((a.drop p)[0]!),u0,(b6 :: c7),(by exact .inl ⟨by omega,by omega,rfl,rfl⟩),trivial,⟨_,AL _ ⟨rfl,rfl,rfl,rfl,rfl,rfl,trivial⟩⟩,A0,(by rw [show a.drop (p+1)=((a.drop p).drop 1) from (by rw [List.drop_drop])];exact h7),b0,b1,a3,(by (repeat (first|assumption|apply List.mem_cons_of_mem))),w7,(by (repeat (first|assumption|apply List.mem_cons_of_mem))),a2,a1,(by (repeat (first|assumption|apply List.mem_cons_of_mem))),hom0_b860_0,b2,a0,(by (repeat (first|assumption|apply List.mem_cons_of_mem))),o8,(by (repeat (exact List.mem_cons_self))),a6,(by (repeat (first|assumption|apply List.mem_cons_of_mem)))⟩
    | 1,_=>
     intro u1 u2 e2 o9 e8
     have A1:=r1.call e2
     have n3:Mv (b6 :: c7) j4 (b6 :: c7) u2:=Mv.of_keep e2
     have b0:=b0.mv n3
     have b1:=b1.mv n3
     have a3:=a3.keep e2 (by simp)
     have a7:=a7.keep e2 (by simp)
     have a2:=a2.mv n3
     have a1:=a1.keep e2 (by simp)
     have hom0_b860_0:=hom0_b860_0.mv n3 e2 (by simp)
     have a0:=a0.keep e2 (by simp)
     have a6:=a6.keep e2 (by simp)
     have d4:=d4.keep e2 (by simp)
     obtain ⟨A2,A3,j9⟩:∃ v,u1 34=v∧CI Enc.devop u2 ((b6 :: c7)++O) v (a.drop p):=⟨_,rfl,o9 3 34 kR (by decide) (by decide)⟩
     have:=j9.len_le
     obtain ⟨F2,rfl⟩:=AY (F:=u1) [(0,vN (.yield b3) #[] #[]),(1,vP (some ⟨b7,0,none⟩)),(2,vP (some ⟨b8,0,none⟩)),(4,vI n),(5,vP (some ⟨b6,0,none⟩)),(47,undef),(33,vA #[vI (((a.drop p)[0]!).device),vI (((a.drop p)[0]!).no),vI (((a.drop p)[0]!).kind),vI (((a.drop p)[0]!).copy),vI (((a.drop p)[0]!).to),vI (((a.drop p)[0]!).token)]),(34,A2)] ⟨e8 0 kR,e8 1 kR,e8 2 kR,e8 4 kR,e8 5 kR,e8 47 kR,o9 2 33 kR (by decide) (by decide),A3,trivial⟩
     clear o9 e8
     refine BK (AU (vs:=[vI (((a.drop p)[0]!).device),vI (((a.drop p)[0]!).no),vI (((a.drop p)[0]!).kind),vI (((a.drop p)[0]!).copy),vI (((a.drop p)[0]!).to),vI (((a.drop p)[0]!).token)]) (.agg #[vI (((a.drop p)[0]!).device),vI (((a.drop p)[0]!).no),vI (((a.drop p)[0]!).kind),vI (((a.drop p)[0]!).copy),vI (((a.drop p)[0]!).to),vI (((a.drop p)[0]!).token)]) rfl rfl rfl BX (fun u hu=>by simp only [List.mem_cons,List.not_mem_nil,or_false] at hu;rcases hu with rfl|rfl|rfl|rfl|rfl|rfl <;> rfl) (by repeat (constructor)) d4 oT A1 fun N2 A4 k5 i6 p0=>(?_))
     have j9:=j9.mv k5
     have b0:=b0.mv k5
     have b1:=b1.mv k5
     have a3:=a3.keep i6 (AJ i2)
     have a7:=a7.keep i6 (AJ d9)
     have a2:=a2.mv k5
     have a1:=a1.keep i6 (AJ e0)
     have hom0_b860_0:=hom0_b860_0.mv k5 i6 (fun b hb=>AJ (g6 b hb))
     have a0:=a0.keep i6 (AJ i3)
     have a6:=a6.keep i6 (AJ g5)
     refine AC (ID U26_ BX 1 ((a.drop p).length) rfl (.inr ⟨.const (vI 1), .i64,(1:Int),rfl,rfl,rfl⟩) (.inl ⟨rfl,rfl⟩) oM oM j9 fun u3 h8=>(?_))
     rw [List.take_length] at h8
     refine BK (BP (u3) rfl rfl h8.oneCell HR rC a7 oT A4 fun N3 A5 k6 i7 w8=>(?_))
     have h8:=h8.mv k6
     have b0:=b0.mv k6
     have b1:=b1.mv k6
     have a3:=a3.keep i7 (AJ (Ne.symm f2.1))
     have a2:=a2.mv k6
     have a1:=a1.keep i7 (AJ (Ne.symm i1))
     have hom0_b860_0:=hom0_b860_0.mv k6 i7 (fun b hb=>AJ (nbm0_b860_0_b843 b hb))
     have a0:=a0.keep i7 (AJ (Ne.symm n0))
     have a6:=a6.keep i7 (AJ (Ne.symm f2.2))
     have p0:=p0.keep i7 (AJ (Ne.symm d9))
     refine AE (AB (?_))
     exact ⟨(p+1),((a.drop p)[0]!),u3,(b6 :: c7),(by exact .inl ⟨by omega,by omega,rfl,rfl⟩),trivial,⟨_,AL _ ⟨rfl,rfl,rfl,rfl,rfl,rfl,trivial⟩⟩,A5,(by rw [show a.drop (p+1)=((a.drop p).drop 1) from (by rw [List.drop_drop])];exact h8),b0,b1,a3,(by (repeat (first|assumption|apply List.mem_cons_of_mem))),w8,(by (repeat (first|assumption|apply List.mem_cons_of_mem))),a2,a1,(by (repeat (first|assumption|apply List.mem_cons_of_mem))),hom0_b860_0,b2,a0,(by (repeat (first|assumption|apply List.mem_cons_of_mem))),p0,(by (repeat (exact List.mem_cons_self))),a6,(by (repeat (first|assumption|apply List.mem_cons_of_mem)))⟩
   have J4:(0:Int)<n:=by simpa using r2
   refine AT (AB (?_))
   exact ⟨(p),((⟨(0:Int),(0:Int),(0:Int),(0:Int),(0:Int),(0:Int)⟩:DeviceOp)),c5,(b6 :: c7),(by exact .inr ⟨by omega,by omega,rfl⟩),trivial,⟨_,AL _ ⟨rfl,rfl,rfl,rfl,rfl,rfl,trivial⟩⟩,r1,(by rw [show a.drop (p)=a.drop p from (by rfl)];exact a9),b0,b1,a3,(by (repeat (first|assumption|apply List.mem_cons_of_mem))),a7,(by (repeat (first|assumption|apply List.mem_cons_of_mem))),a2,a1,(by (repeat (first|assumption|apply List.mem_cons_of_mem))),hom0_b860_0,b2,a0,(by (repeat (first|assumption|apply List.mem_cons_of_mem))),(by rw [show ([vI (((⟨(0:Int),(0:Int),(0:Int),(0:Int),(0:Int),(0:Int)⟩:DeviceOp)).device),vI (((⟨(0:Int),(0:Int),(0:Int),(0:Int),(0:Int),(0:Int)⟩:DeviceOp)).no),vI (((⟨(0:Int),(0:Int),(0:Int),(0:Int),(0:Int),(0:Int)⟩:DeviceOp)).kind),vI (((⟨(0:Int),(0:Int),(0:Int),(0:Int),(0:Int),(0:Int)⟩:DeviceOp)).copy),vI (((⟨(0:Int),(0:Int),(0:Int),(0:Int),(0:Int),(0:Int)⟩:DeviceOp)).to),vI (((⟨(0:Int),(0:Int),(0:Int),(0:Int),(0:Int),(0:Int)⟩:DeviceOp)).token)]:List Value)=[vI 0,vI 0,vI 0,vI 0,vI 0,vI 0] from by rfl];exact d4),(by (repeat (exact List.mem_cons_self))),a6,(by (repeat (first|assumption|apply List.mem_cons_of_mem)))⟩
  intro F e9 hI
  clear b0 b1 a3 a2 a1 hom0_b860_0 b2 a0 a6
  obtain ⟨p2,o,d0,c4,h2,J5,⟨J6,rfl⟩,k7,a4,b0,b1,a3,d7,a5,g2,a2,a1,g3,hom0_b860_0,b2,a0,g4,c6,p1,a6,d8⟩:=hI
  have:=a4.len_le
  refine JW (fun FI wI=>∃ (q2:Nat) (o2:DeviceOp) (d1:Value) (B:List Nat),p2≤a.length∧q2≤b.length∧x++[o2]++BO (a.drop p2) (b.drop q2)=BO a b∧(x++[o2]).length≤p2+q2∧p+q<p2+q2∧True∧(∃ F1,FI=GM F1 [(0,vN (.yield b3) #[] #[]),(1,vP (some ⟨b7,0,none⟩)),(2,vP (some ⟨b8,0,none⟩)),(5,vP (some ⟨b6,0,none⟩)),(47,undef)])∧St w O wI B∧CI Enc.devop wI (B++O) d1 (b.drop q2)∧CI Enc.devop wI (B++O) (a_v) (a)∧CI Enc.devop wI (B++O) (b_v) (b)∧Ob wI c2 (.deferred (some []))∧c2∈B∧CI Enc.devop wI (B++O) (d0) (a.drop p2)∧EN wI b7 26 [d0]∧b7∈B∧EN wI b8 26 [d1]∧b8∈B∧DM Enc.devop 40 w.heap.size (B++O) wI a8 (x)∧(∀ b,a8.ownBlock=some b→b∈B)∧EN wI c8 26 [a8]∧c8∈B∧EN wI b6 40 [vI o2.device,vI o2.no,vI o2.kind,vI o2.copy,vI o2.to,vI o2.token]∧b6∈B∧Ob wI b3 (j5 .ready none)∧b3∈B) ?_ ?_
  ·refine AG (AD kR (AC (AF (vI n) rfl (AC (JS .i64 n (0:Int) rfl rfl (AE (AB (AK (decide ((0:Int)≤n)) rfl rfl (fun p3=>?_) (fun p3=>?_)))))))))
   ·have J7:(0:Int)≤n:=by simpa using p3
    refine IH 5 [3,4] _ _ _ [fun (vT:Value) (wT:World)=>CI Enc.devop wT (c4++O) vT (b.drop q),fun (vT:Value) (wT:World)=>∃ aT,vT = .pointer (some aT)∧PT Enc.devop wT (c4++O) (.pointer (some aT)) ((b.drop q)[0]!),EK (vA #[vI (((b.drop q)[0]!).device),vI (((b.drop q)[0]!).no),vI (((b.drop q)[0]!).kind),vI (((b.drop q)[0]!).copy),vI (((b.drop q)[0]!).to),vI (((b.drop q)[0]!).token)]),fun (vT:Value) (wT:World)=>CI Enc.devop wT (c4++O) vT (b.drop q),fun (vT:Value) (wT:World)=>CI Enc.devop wT (c4++O) vT (((b.drop q).drop 1))] kR kR kR kR (by decide) rfl rfl rfl ⟨fun _ _ _ h k=>h.mv (Mv.of_keep k),fun _ _ _ ⟨a,e,h⟩ k=>⟨a,e,h.mv (Mv.of_keep k)⟩,kI,fun _ _ _ h k=>h.mv (Mv.of_keep k),fun _ _ _ h k=>h.mv (Mv.of_keep k),trivial⟩ ⟨?_,?_,?_,?_,?_,trivial⟩ ?_ ?_
    ·intro F1 w1 k1 hf hd
     have k0:=(Keep.drew [] e9).trans k1
     have m1:Mv c4 e9 c4 w1:=Mv.of_keep k0
     have a1:=a1.keep k0 (by simp)
     have a2:=a2.mv m1
     obtain ⟨F2,rfl⟩:=AY (F:=F1) [(2,vP (some ⟨b8,0,none⟩))] ⟨hf 2 kR,trivial⟩
     exact BB rfl ((AR U26_ rfl (b9) rfl a1 rfl (⟨(Keep.refl _ _),a2⟩)))
    ·intro F1 w1 k1 hf hd
     obtain ⟨A6,A7,r7⟩:∃ v,F1 38=v∧CI Enc.devop w1 (c4++O) v (b.drop q):=⟨_,rfl,hd 0 38 kR⟩
     have:=r7.len_le
     obtain ⟨F2,rfl⟩:=AY (F:=F1) [(38,A6)] ⟨A7,trivial⟩
     exact BB rfl ((BZ U26_ BX .i64 (0:Int) 0 rfl rfl rfl r7 oM fun A8 w9=>(⟨(Keep.refl _ _),⟨A8,rfl,w9⟩⟩)))
    ·intro F1 w1 k1 hf hd
     obtain ⟨A9,B0,x1⟩:∃ aX_,F1 39 = .pointer (some aX_)∧PT Enc.devop w1 (c4++O) (.pointer (some aX_)) ((b.drop q)[0]!):=hd 1 39 kR
     obtain ⟨F2,rfl⟩:=AY (F:=F1) [(39,vP (some A9))] ⟨B0,trivial⟩
     refine BB rfl ((BT U40_ rfl BX rfl x1 fun J8 x2=>(?_)))
     obtain rfl:=x2
     exact ⟨(Keep.refl _ _),rfl⟩
    ·intro F1 w1 k1 hf hd
     have k0:=(Keep.drew [] e9).trans k1
     have m1:Mv c4 e9 c4 w1:=Mv.of_keep k0
     have a1:=a1.keep k0 (by simp)
     have a2:=a2.mv m1
     obtain ⟨F2,rfl⟩:=AY (F:=F1) [(2,vP (some ⟨b8,0,none⟩))] ⟨hf 2 kR,trivial⟩
     exact BB rfl ((AR U26_ rfl (b9) rfl a1 rfl (⟨(Keep.refl _ _),a2⟩)))
    ·intro F1 w1 k1 hf hd
     obtain ⟨B1,B2,r8⟩:∃ v,F1 41=v∧CI Enc.devop w1 (c4++O) v (b.drop q):=⟨_,rfl,hd 3 41 kR⟩
     have:=r8.len_le
     obtain ⟨F2,rfl⟩:=AY (F:=F1) [(41,B1)] ⟨B2,trivial⟩
     refine BB rfl ((ID U26_ BX 1 ((b.drop q).length) rfl (.inr ⟨.const (vI 1), .i64,(1:Int),rfl,rfl,rfl⟩) (.inl ⟨rfl,rfl⟩) oM oM r8 fun N4 r9=>(?_)))
     rw [List.take_length] at r9
     exact ⟨(Keep.refl _ _),r9⟩
    ·intro u4 u5 e3 p4 f6
     have B3:=k7.call e3
     have n5:Mv c4 e9 c4 u5:=Mv.of_keep e3
     have b0:=b0.mv n5
     have b1:=b1.mv n5
     have a3:=a3.keep e3 (by simp)
     have a4:=a4.mv n5
     have a5:=a5.keep e3 (by simp)
     have a1:=a1.keep e3 (by simp)
     have hom0_b860_0:=hom0_b860_0.mv n5 e3 (by simp)
     have a0:=a0.keep e3 (by simp)
     have c6:=c6.keep e3 (by simp)
     have a6:=a6.keep e3 (by simp)
     obtain ⟨r6,B4,f0⟩:∃ v,u4 42=v∧CI Enc.devop u5 (c4++O) v (((b.drop q).drop 1)):=⟨_,rfl,p4 4 42 kR (by decide)⟩
     have:=f0.len_le
     obtain ⟨F2,rfl⟩:=AY (F:=u4) [(0,vN (.yield b3) #[] #[]),(1,vP (some ⟨b7,0,none⟩)),(2,vP (some ⟨b8,0,none⟩)),(5,vP (some ⟨b6,0,none⟩)),(47,undef),(40,vA #[vI (((b.drop q)[0]!).device),vI (((b.drop q)[0]!).no),vI (((b.drop q)[0]!).kind),vI (((b.drop q)[0]!).copy),vI (((b.drop q)[0]!).to),vI (((b.drop q)[0]!).token)]),(42,r6)] ⟨f6 0 kR,f6 1 kR,f6 2 kR,f6 5 kR,f6 47 kR,p4 2 40 kR (by decide),B4,trivial⟩
     clear p4 f6
     refine BK (AU (vs:=[vI (((b.drop q)[0]!).device),vI (((b.drop q)[0]!).no),vI (((b.drop q)[0]!).kind),vI (((b.drop q)[0]!).copy),vI (((b.drop q)[0]!).to),vI (((b.drop q)[0]!).token)]) (.agg #[vI (((b.drop q)[0]!).device),vI (((b.drop q)[0]!).no),vI (((b.drop q)[0]!).kind),vI (((b.drop q)[0]!).copy),vI (((b.drop q)[0]!).to),vI (((b.drop q)[0]!).token)]) rfl rfl rfl BX (fun u hu=>by simp only [List.mem_cons,List.not_mem_nil,or_false] at hu;rcases hu with rfl|rfl|rfl|rfl|rfl|rfl <;> rfl) (by repeat (assumption)) c6 oT B3 fun N5 B5 k8 i8 p5=>(?_))
     have f0:=f0.mv k8
     have b0:=b0.mv k8
     have b1:=b1.mv k8
     have a3:=a3.keep i8 (AJ i2)
     have a4:=a4.mv k8
     have a5:=a5.keep i8 (AJ d9)
     have a1:=a1.keep i8 (AJ e0)
     have hom0_b860_0:=hom0_b860_0.mv k8 i8 (fun b hb=>AJ (g6 b hb))
     have a0:=a0.keep i8 (AJ i3)
     have a6:=a6.keep i8 (AJ g5)
     refine BK (BP (r6) rfl rfl f0.oneCell HR (by repeat (assumption)) a1 oT B5 fun N6 B6 k9 i9 x3=>(?_))
     have f0:=f0.mv k9
     have b0:=b0.mv k9
     have b1:=b1.mv k9
     have a3:=a3.keep i9 (AJ (Ne.symm f3.1))
     have a4:=a4.mv k9
     have a5:=a5.keep i9 (AJ i1)
     have hom0_b860_0:=hom0_b860_0.mv k9 i9 (fun b hb=>AJ (nbm0_b860_0_b850 b hb))
     have a0:=a0.keep i9 (AJ (Ne.symm n1))
     have p5:=p5.keep i9 (AJ (Ne.symm e0))
     have a6:=a6.keep i9 (AJ (Ne.symm f3.2))
     refine AE (AB (?_))
     exact ⟨(q+1),((b.drop q)[0]!),r6,c4,oM,oM,(cut_b hrcm5_0 h2 aS hrm0_2),(by simp;omega),oM,trivial,⟨_,AL _ ⟨rfl,rfl,rfl,rfl,rfl,trivial⟩⟩,B6,(by rw [show b.drop (q+1)=((b.drop q).drop 1) from (by rw [List.drop_drop])];exact f0),b0,b1,a3,aS,a4,a5,aS,x3,aS,hom0_b860_0,b2,a0,aS,p5,aS,a6,aS⟩
    intro cx_ hcx_
    match cx_,hcx_ with
    | 0,_=>
     intro B7 B8 e4 s1 f7
     have B9:=k7.call e4
     have l0:Mv c4 e9 c4 B8:=Mv.of_keep e4
     have b0:=b0.mv l0
     have b1:=b1.mv l0
     have a3:=a3.keep e4 (by simp)
     have a4:=a4.mv l0
     have a5:=a5.keep e4 (by simp)
     have a2:=a2.mv l0
     have a1:=a1.keep e4 (by simp)
     have hom0_b860_0:=hom0_b860_0.mv l0 e4 (by simp)
     have a0:=a0.keep e4 (by simp)
     have c6:=c6.keep e4 (by simp)
     have a6:=a6.keep e4 (by simp)
     obtain ⟨F2,rfl⟩:=AY (F:=B7) [(0,vN (.yield b3) #[] #[]),(1,vP (some ⟨b7,0,none⟩)),(2,vP (some ⟨b8,0,none⟩)),(5,vP (some ⟨b6,0,none⟩)),(47,undef),(40,vA #[vI (((b.drop q)[0]!).device),vI (((b.drop q)[0]!).no),vI (((b.drop q)[0]!).kind),vI (((b.drop q)[0]!).copy),vI (((b.drop q)[0]!).to),vI (((b.drop q)[0]!).token)])] ⟨f7 0 kR,f7 1 kR,f7 2 kR,f7 5 kR,f7 47 kR,s1 2 40 kR (by decide) (by decide),trivial⟩
     clear s1 f7
     refine BK (AU (vs:=[vI (((b.drop q)[0]!).device),vI (((b.drop q)[0]!).no),vI (((b.drop q)[0]!).kind),vI (((b.drop q)[0]!).copy),vI (((b.drop q)[0]!).to),vI (((b.drop q)[0]!).token)]) (.agg #[vI (((b.drop q)[0]!).device),vI (((b.drop q)[0]!).no),vI (((b.drop q)[0]!).kind),vI (((b.drop q)[0]!).copy),vI (((b.drop q)[0]!).to),vI (((b.drop q)[0]!).token)]) rfl rfl rfl BX (fun u hu=>by simp only [List.mem_cons,List.not_mem_nil,or_false] at hu;rcases hu with rfl|rfl|rfl|rfl|rfl|rfl <;> rfl) (by repeat (assumption)) c6 oT B9 fun N7 C0 l1 j0 p6=>(?_))
     have b0:=b0.mv l1
     have b1:=b1.mv l1
     have a3:=a3.keep j0 (AJ i2)
     have a4:=a4.mv l1
     have a5:=a5.keep j0 (AJ d9)
     have a2:=a2.mv l1
     have a1:=a1.keep j0 (AJ e0)
     have hom0_b860_0:=hom0_b860_0.mv l1 j0 (fun b hb=>AJ (g6 b hb))
     have a0:=a0.keep j0 (AJ i3)
     have a6:=a6.keep j0 (AJ g5)
     refine AC (AR U26_ rfl (b9) rfl a1 rfl (AC (ID U26_ BX 1 ((b.drop q).length) rfl (.inr ⟨.const (vI 1), .i64,(1:Int),rfl,rfl,rfl⟩) (.inl ⟨rfl,rfl⟩) oM oM a2 fun u6 h9=>(?_))))
     rw [List.take_length] at h9
     refine BK (BP (u6) rfl rfl h9.oneCell HR (by repeat (assumption)) a1 oT C0 fun N8 C1 l2 j1 x4=>(?_))
     have h9:=h9.mv l2
     have b0:=b0.mv l2
     have b1:=b1.mv l2
     have a3:=a3.keep j1 (AJ (Ne.symm f3.1))
     have a4:=a4.mv l2
     have a5:=a5.keep j1 (AJ i1)
     have hom0_b860_0:=hom0_b860_0.mv l2 j1 (fun b hb=>AJ (nbm0_b860_0_b850 b hb))
     have a0:=a0.keep j1 (AJ (Ne.symm n1))
     have p6:=p6.keep j1 (AJ (Ne.symm e0))
     have a6:=a6.keep j1 (AJ (Ne.symm f3.2))
     refine AE (AB (?_))
     exact ⟨(q+1),((b.drop q)[0]!),u6,c4,oM,oM,(cut_b hrcm5_0 h2 aS hrm0_2),(by simp;omega),oM,trivial,⟨_,AL _ ⟨rfl,rfl,rfl,rfl,rfl,trivial⟩⟩,C1,(by rw [show b.drop (q+1)=((b.drop q).drop 1) from (by rw [List.drop_drop])];exact h9),b0,b1,a3,aS,a4,a5,aS,x4,aS,hom0_b860_0,b2,a0,aS,p6,aS,a6,aS⟩
    | 1,_=>
     intro u7 u9 e5 p7 f8
     have C2:=k7.call e5
     have n6:Mv c4 e9 c4 u9:=Mv.of_keep e5
     have b0:=b0.mv n6
     have b1:=b1.mv n6
     have a3:=a3.keep e5 (by simp)
     have a4:=a4.mv n6
     have a5:=a5.keep e5 (by simp)
     have a1:=a1.keep e5 (by simp)
     have hom0_b860_0:=hom0_b860_0.mv n6 e5 (by simp)
     have a0:=a0.keep e5 (by simp)
     have c6:=c6.keep e5 (by simp)
     have a6:=a6.keep e5 (by simp)
     obtain ⟨C3,C4,l3⟩:∃ v,u7 41=v∧CI Enc.devop u9 (c4++O) v (b.drop q):=⟨_,rfl,p7 3 41 kR (by decide) (by decide)⟩
     have:=l3.len_le
     obtain ⟨F2,rfl⟩:=AY (F:=u7) [(0,vN (.yield b3) #[] #[]),(1,vP (some ⟨b7,0,none⟩)),(2,vP (some ⟨b8,0,none⟩)),(5,vP (some ⟨b6,0,none⟩)),(47,undef),(40,vA #[vI (((b.drop q)[0]!).device),vI (((b.drop q)[0]!).no),vI (((b.drop q)[0]!).kind),vI (((b.drop q)[0]!).copy),vI (((b.drop q)[0]!).to),vI (((b.drop q)[0]!).token)]),(41,C3)] ⟨f8 0 kR,f8 1 kR,f8 2 kR,f8 5 kR,f8 47 kR,p7 2 40 kR (by decide) (by decide),C4,trivial⟩
     clear p7 f8
     refine BK (AU (vs:=[vI (((b.drop q)[0]!).device),vI (((b.drop q)[0]!).no),vI (((b.drop q)[0]!).kind),vI (((b.drop q)[0]!).copy),vI (((b.drop q)[0]!).to),vI (((b.drop q)[0]!).token)]) (.agg #[vI (((b.drop q)[0]!).device),vI (((b.drop q)[0]!).no),vI (((b.drop q)[0]!).kind),vI (((b.drop q)[0]!).copy),vI (((b.drop q)[0]!).to),vI (((b.drop q)[0]!).token)]) rfl rfl rfl BX (fun u hu=>by simp only [List.mem_cons,List.not_mem_nil,or_false] at hu;rcases hu with rfl|rfl|rfl|rfl|rfl|rfl <;> rfl) (by repeat (assumption)) c6 oT C2 fun N9 C5 l4 j2 p8=>(?_))
     have l3:=l3.mv l4
     have b0:=b0.mv l4
     have b1:=b1.mv l4
     have a3:=a3.keep j2 (AJ i2)
     have a4:=a4.mv l4
     have a5:=a5.keep j2 (AJ d9)
     have a1:=a1.keep j2 (AJ e0)
     have hom0_b860_0:=hom0_b860_0.mv l4 j2 (fun b hb=>AJ (g6 b hb))
     have a0:=a0.keep j2 (AJ i3)
     have a6:=a6.keep j2 (AJ g5)
     refine AC (ID U26_ BX 1 ((b.drop q).length) rfl (.inr ⟨.const (vI 1), .i64,(1:Int),rfl,rfl,rfl⟩) (.inl ⟨rfl,rfl⟩) oM oM l3 fun v0 i0=>(?_))
     rw [List.take_length] at i0
     refine BK (BP (v0) rfl rfl i0.oneCell HR (by repeat (assumption)) a1 oT C5 fun O0 C6 l5 j3 x5=>(?_))
     have i0:=i0.mv l5
     have b0:=b0.mv l5
     have b1:=b1.mv l5
     have a3:=a3.keep j3 (AJ (Ne.symm f3.1))
     have a4:=a4.mv l5
     have a5:=a5.keep j3 (AJ i1)
     have hom0_b860_0:=hom0_b860_0.mv l5 j3 (fun b hb=>AJ (nbm0_b860_0_b850 b hb))
     have a0:=a0.keep j3 (AJ (Ne.symm n1))
     have p8:=p8.keep j3 (AJ (Ne.symm e0))
     have a6:=a6.keep j3 (AJ (Ne.symm f3.2))
     refine AE (AB (?_))
     exact ⟨(q+1),((b.drop q)[0]!),v0,c4,oM,oM,(cut_b hrcm5_0 h2 aS hrm0_2),(by simp;omega),oM,trivial,⟨_,AL _ ⟨rfl,rfl,rfl,rfl,rfl,trivial⟩⟩,C6,(by rw [show b.drop (q+1)=((b.drop q).drop 1) from (by rw [List.drop_drop])];exact i0),b0,b1,a3,aS,a4,a5,aS,x5,aS,hom0_b860_0,b2,a0,aS,p8,aS,a6,aS⟩
   have J9:n<(0:Int):=by simpa using p3
   refine AT (AB (?_))
   exact ⟨(q),(o),b9,c4,oM,oM,(cut_a hrcm5_0 h2 aS hrm0_2),(by simp;omega),oM,trivial,⟨_,AL _ ⟨rfl,rfl,rfl,rfl,rfl,trivial⟩⟩,k7,(by rw [show b.drop (q)=b.drop q from (by rfl)];exact a2),b0,b1,a3,aS,a4,a5,aS,a1,aS,hom0_b860_0,b2,a0,aS,(by rw [show ([vI ((o).device),vI ((o).no),vI ((o).kind),vI ((o).copy),vI ((o).to),vI ((o).token)]:List Value)=[vI o.device,vI o.no,vI o.kind,vI o.copy,vI o.to,vI o.token] from by rfl];exact c6),aS,a6,aS⟩
  intro F K0 hI
  clear b0 b1 a3 a4 a5 hom0_b860_0 b2 a0 a6
  obtain ⟨q2,o2,d1,p9,J1,J2,t1,t2,J3,K1,⟨K2,rfl⟩,x6,b4,b0,b1,a3,d7,a4,a5,g2,b5,g3,hom0_b860_0,b2,a0,g4,c3,p1,a6,d8⟩:=hI
  have:=b4.len_le
  refine AG (AD kR (AC (AF (vN (.yield b3) #[] #[]) rfl (AC (AQ (vs:=[vI o2.device,vI o2.no,vI o2.kind,vI o2.copy,vI o2.to,vI o2.token]) U40_ rfl BX rfl c3 rfl (wl_y b3 [vA #[vI o2.device,vI o2.no,vI o2.kind,vI o2.copy,vI o2.to,vI o2.token]] rfl rfl ?_))))))
  refine QO v1 a6 rfl (by decide) (AD kR (AC (CC [vI 0,vI 0,vI 0,vI 0,vI 0,vI 0] HC rfl x6 fun c9 O1 C7 C8 l6 h3 x7=>(?_))))
  have x8:DB c2 c9:=by show c2≠c9;have:=a3.lt;omega
  have x9:DB b7 c9:=by show b7≠c9;have:=a5.lt;omega
  have y0:DB b8 c9:=by show b8≠c9;have:=b5.lt;omega
  have y1:DB c8 c9:=by show c8≠c9;have:=a0.lt;omega
  have y2:DB b6 c9:=by show b6≠c9;have:=c3.lt;omega
  have s2:DB b3 c9:=by show b3≠c9;have:=a6.lt;omega
  have s3:∀ b,a8.ownBlock=some b→b≠c9:=fun b hb=>by have:=(hom0_b860_0.lt b hb).2;omega
  have b2:∀ b,a8.ownBlock=some b→b∈(c9 :: p9):=fun b hb=>List.mem_cons_of_mem _ (b2 b hb)
  clear C7
  have b0:=b0.mv l6
  have b1:=b1.mv l6
  have a3:=a3.keep h3 (by simp)
  have a4:=a4.mv l6
  have a5:=a5.keep h3 (by simp)
  have b4:=b4.mv l6
  have b5:=b5.keep h3 (by simp)
  have hom0_b860_0:=hom0_b860_0.mv l6 h3 (by simp)
  have a0:=a0.keep h3 (by simp)
  have c3:=c3.keep h3 (by simp)
  have a6:=a6.keep h3 (by simp)
  refine BK (AU (vs:=[vI o2.device,vI o2.no,vI o2.kind,vI o2.copy,vI o2.to,vI o2.token]) (.agg #[vI o2.device,vI o2.no,vI o2.kind,vI o2.copy,vI o2.to,vI o2.token]) rfl rfl rfl BX (fun u hu=>by simp only [List.mem_cons,List.not_mem_nil,or_false] at hu;rcases hu with rfl|rfl|rfl|rfl|rfl|rfl <;> rfl) (by repeat (constructor)) x7 oT C8 fun C9 D0 l7 h4 f9=>(?_))
  have b0:=b0.mv l7
  have b1:=b1.mv l7
  have a3:=a3.keep h4 (AJ x8)
  have a4:=a4.mv l7
  have a5:=a5.keep h4 (AJ x9)
  have b4:=b4.mv l7
  have b5:=b5.keep h4 (AJ y0)
  have hom0_b860_0:=hom0_b860_0.mv l7 h4 (fun b hb=>AJ (s3 b hb))
  have a0:=a0.keep h4 (AJ y1)
  have c3:=c3.keep h4 (AJ y2)
  have a6:=a6.keep h4 (AJ s2)
  refine AE (AB (⟨a6,fun D1 e6 d6=>?_⟩))
  have D2:=D0.keepB e6 rC
  have l8:Mv (c9 :: p9) C9 (c9 :: p9) D1:=Mv.keepB e6 rC
  have b0:=b0.mv l8
  have b1:=b1.mv l8
  have a3:=a3.keep e6 (AJ q3)
  have a4:=a4.mv l8
  have a5:=a5.keep e6 (AJ f2.2)
  have b4:=b4.mv l8
  have b5:=b5.keep e6 (AJ f3.2)
  have hom0_b860_0:=hom0_b860_0.mv l8 e6 (fun b hb=>AJ (nbm0_b860_0_l_r869 b hb))
  have a0:=a0.keep e6 (AJ j6.2)
  have c3:=c3.keep e6 (AJ (Ne.symm g5))
  have f9:=f9.keep e6 (AJ (Ne.symm s2))
  refine BN (AD kR (AC (AR U26_ rfl (a8) rfl a0 rfl (AC (AQ (vs:=[vI o2.device,vI o2.no,vI o2.kind,vI o2.copy,vI o2.to,vI o2.token]) U40_ rfl BX rfl f9 rfl (AC (EY (E:=Enc.devop) (xs:=[.tmp 9]) U26_ BX HC (by decide) [.agg #[vI o2.device,vI o2.no,vI o2.kind,vI o2.copy,vI o2.to,vI o2.token]] [[vI o2.device,vI o2.no,vI o2.kind,vI o2.copy,vI o2.to,vI o2.token]] [o2] rfl rfl rfl (Parts.cons rfl rfl (Parts.nil _ _ _)) oT D2 fun O2 O3 D3 l9 f4 s4=>(?_))))))))
  have hom0_b860_0:=hom0_b860_0.mv l9 f4 (by simp)
  have b0:=b0.mv l9
  have b1:=b1.mv l9
  have a3:=a3.keep f4 (by simp)
  have a4:=a4.mv l9
  have a5:=a5.keep f4 (by simp)
  have b4:=b4.mv l9
  have b5:=b5.keep f4 (by simp)
  have a0:=a0.keep f4 (by simp)
  have c3:=c3.keep f4 (by simp)
  have d6:=d6.keep f4 (by simp)
  have f9:=f9.keep f4 (by simp)
  have:=s4.len_le
  refine AC (CT (E:=Enc.devop) (l:=x) (m:=[o2]) U26_ OB rfl (by decide) rfl rfl hom0_b860_0 s4 (fun _ hb=>.inl hb) b2 (by simp;omega) (by simp [maxLen];omega) D3 fun e7 O4 d5 y3 f1 d2 D4 n7 m0 g0=>(?_))
  have y4:∀ b,e7.ownBlock=some b→b≠c2:=fun b hb=>by rcases f1 with e1|e1 <;> rw [e1] at hb <;> first|(cases hb;have:=a3.lt;omega)|(exact nbm0_b860_0_D_r869 b hb)
  have y5:∀ b,e7.ownBlock=some b→b≠b7:=fun b hb=>by rcases f1 with e1|e1 <;> rw [e1] at hb <;> first|(cases hb;have:=a5.lt;omega)|(exact nbm0_b860_0_b843 b hb)
  have y6:∀ b,e7.ownBlock=some b→b≠b8:=fun b hb=>by rcases f1 with e1|e1 <;> rw [e1] at hb <;> first|(cases hb;have:=b5.lt;omega)|(exact nbm0_b860_0_b850 b hb)
  have s5:∀ b,e7.ownBlock=some b→b≠c8:=fun b hb=>by rcases f1 with e1|e1 <;> rw [e1] at hb <;> first|(cases hb;have:=a0.lt;omega)|(exact nbm0_b860_0_b860 b hb)
  have K3:∀ b,e7.ownBlock=some b→b≠b6:=fun b hb=>by rcases f1 with e1|e1 <;> rw [e1] at hb <;> first|(cases hb;have:=c3.lt;omega)|(exact g6 b hb)
  have s6:∀ b,e7.ownBlock=some b→b≠b3:=fun b hb=>by rcases f1 with e1|e1 <;> rw [e1] at hb <;> first|(cases hb;have:=d6.lt;omega)|(exact nbm0_b860_0_l_r869 b hb)
  have K4:∀ b,e7.ownBlock=some b→b≠c9:=fun b hb=>by rcases f1 with e1|e1 <;> rw [e1] at hb <;> first|(cases hb;have:=f9.lt;omega)|(exact s3 b hb)
  have d7:c2∈d5:=d2 c2 rC
  have g2:b7∈d5:=d2 b7 rC
  have g3:b8∈d5:=d2 b8 rC
  have g4:c8∈d5:=d2 c8 rC
  have p1:b6∈d5:=d2 b6 rC
  have d8:b3∈d5:=d2 b3 rC
  have E1:c9∈d5:=d2 c9 (by repeat (constructor))
  have b0:=b0.mv n7
  have b1:=b1.mv n7
  have a3:=a3.keep m0 (by simp only [Option.mem_toList];exact fun e=>absurd rfl (nbm0_b860_0_D_r869 _ e))
  have a4:=a4.mv n7
  have a5:=a5.keep m0 (by simp only [Option.mem_toList];exact fun e=>absurd rfl (nbm0_b860_0_b843 _ e))
  have b4:=b4.mv n7
  have b5:=b5.keep m0 (by simp only [Option.mem_toList];exact fun e=>absurd rfl (nbm0_b860_0_b850 _ e))
  have a0:=a0.keep m0 (by simp only [Option.mem_toList];exact fun e=>absurd rfl (nbm0_b860_0_b860 _ e))
  have d6:=d6.keep m0 (by simp only [Option.mem_toList];exact fun e=>absurd rfl (nbm0_b860_0_l_r869 _ e))
  refine BK (BP (e7) rfl rfl g0.oneCell HR (by repeat (assumption)) a0 oT D4 fun D5 D6 m2 m3 q0=>(?_))
  have g0:=g0.mv m2 m3 (fun b hb=>AJ (s5 b hb))
  have b0:=b0.mv m2
  have b1:=b1.mv m2
  have a3:=a3.keep m3 (AJ (Ne.symm j6.1))
  have a4:=a4.mv m2
  have a5:=a5.keep m3 (AJ n0)
  have b4:=b4.mv m2
  have b5:=b5.keep m3 (AJ n1)
  have d6:=d6.keep m3 (AJ (Ne.symm j6.2))
  refine AE (AW (round_n d6 (fun D7 h5 y7=>?_)))
  have D8:=D6.keepB h5 (by repeat (assumption))
  have m4:Mv d5 D5 d5 D7:=Mv.keepB h5 (by repeat (assumption))
  have g0:=g0.mv m4 h5 (fun b hb=>AJ (s6 b hb))
  have b0:=b0.mv m4
  have b1:=b1.mv m4
  have a3:=a3.keep h5 (AJ q3)
  have a4:=a4.mv m4
  have a5:=a5.keep h5 (AJ f2.2)
  have b4:=b4.mv m4
  have b5:=b5.keep h5 (AJ f3.2)
  have q0:=q0.keep h5 (AJ j6.2)
  have a6:=y7
  refine AC (EI true rfl (AE (AB (AK false rfl rfl (fun h=>by cases h) (fun _=>AT (AW (AB (?_))))))))
  exact ⟨_,oM,(p2),(q2),(x++[o2]),e7,d0,d1,d5,oM,oM,t1,t2,rfl,⟨_,AL _ ⟨rfl,rfl,rfl,rfl,trivial⟩⟩,D8,(by rw [show (x++[o2])=x++([o2]) from (by rfl)];exact g0),y3,(by rw [show a.drop (p2)=a.drop p2 from (by rfl)];exact a4),(by rw [show b.drop (q2)=b.drop q2 from (by rfl)];exact b4),b0,b1,a3,aS,a5,aS,b5,aS,q0,aS,a6,aS,y4,y5,y6,s5,s6⟩
 have K5:BR a≠(0:Int):=by simpa using t3
 refine AX rfl (AX rfl (AX rfl (AC (BA (vO true) rfl rfl (AE (AB (AK true rfl rfl (fun _=>AG (AD kR (AC (AH (nS) rfl (AC (AH (vI 420) rfl (AE (AB (AS (AN (AZ rfl (HT rfl rfl rfl rfl) (?_)))))))))))) (fun h=>by cases h))))))))
 have D9:((BW a b).1)=([]):=by exact congrArg (fun p=>p.1) (show BW a b=_ from merge_1 aS)
 have E0:((BW a b).2)=(420:Int):=by exact congrArg (fun p=>p.2) (show BW a b=_ from merge_1 aS)
 exact ⟨_,rfl,s7.keep,by rw [D9,E0];exact ⟨.slice none 0 0,rfl,CI.nil _ _ _⟩⟩
open Go.Fw Go.RowKit
set_option maxHeartbeats 4000000 in
set_option maxRecDepth 100000 in
theorem KQ {O:List Nat} (l_v:Value) (l:List DeviceOp) (copies:Int) (first:Int) (w:World) (a2:CI Enc.devop w O l_v l) (hO:∀ b∈O,b<w.heap.size):CF Try.prog 24 [l_v,vI copies,vI first] w (fun v w'=>∃ (x0:Value),v = .tuple #[x0,vI ((AI l copies first).2)]∧CI Enc.holding w' (O) x0 ((AI l copies first).1)):= by
 have u9:=a2.len_le
 have a2:CI Enc.devop w ([]++O) l_v l:=a2
 have s0:St w O w []:=St.start hO
 refine BS 62 Try.func24 rfl rfl oT (fun F0=>AG (AD kR (AC (DG (E:=Enc.int) (vI first) ([vI first]) first rfl rfl rfl s0 fun b1 m8 h1 m9 v0 a0=>(?_)))))
 have a2:=a2.mv m9
 refine AC (AH (.slice none 0 0) rfl (AC (AH (vI 0) rfl (AE (AB (AG (AG (AD kR (AC (AF (l_v) rfl (AC (BI (vs:=[l_v]) KG (IV (O:=[]++O) l_v l m8 a2 h1.lt) rfl h1 fun v1 n0 c5 h2 v2 n1=>(?_)))))))))))))
 obtain rfl:=n1
 have a2:=a2.mv h2
 have a0:=a0.mv h2
 refine AC (DX .i64 (BR l) (0:Int) rfl rfl (AE (AB (AK ((BR l) != (0:Int)) rfl rfl (fun d4=>?_) (fun d4=>?_)))))
 ·have r9:BR l≠(0:Int):=by simpa using d4
  refine AG (AD kR (AC (AH (.slice none 0 0) rfl (AC (AH (vI 420) rfl (AE (AB (AS (AN (AZ rfl (HT rfl rfl rfl rfl) (?_)))))))))))
  have n3:((AI l copies first).1)=([]):=by exact congrArg (fun p=>p.1) (show AI l copies first=_ from state_1 aS)
  have n5:((AI l copies first).2)=(420:Int):=by exact congrArg (fun p=>p.2) (show AI l copies first=_ from state_1 aS)
  exact ⟨_,rfl,c5.keep,by rw [n3,n5];exact ⟨.slice none 0 0,rfl,CI.nil _ _ _⟩⟩
 have j4:BR l=(0:Int):=by simpa using d4
 have hchk:BR l=0:=j4
 have hchk_1:=(IZ hchk).1
 refine AT (AB (AG (AG (AD kR (AC (AF (vI copies) rfl (AC (DR .i64 copies (0:Int) rfl rfl (AC (AF (vO (decide (copies<(0:Int)))) rfl (?_)))))))))))
 cases f9:(decide (copies<(0:Int)))
 ·have s1:(0:Int)≤copies:=by simpa using f9
  refine BH rfl (AF (vI copies) rfl (BH rfl (IF .i64 copies (1024:Int) rfl rfl (AC (BM (vO (decide ((1024:Int)<copies))) rfl rfl (AC (AF (vO (decide ((1024:Int)<copies))) rfl (?_))))))))
  cases g0:(decide ((1024:Int)<copies))
  ·have s2:copies≤(1024:Int):=by simpa using g0
   refine BH rfl (BJ U3_ rfl rfl a0 (BH rfl (BI (vs:=[vI first]) LX (JI (O:=[]++O) first n0 c5.lt) rfl c5 fun v3 v4 h3 h4 v5 n6=>(?_))))
   obtain rfl:=n6
   have a2:=a2.mv h4
   have a0:=a0.mv h4
   refine BH rfl (EI (CN first) rfl (AC (BM (vO (!(CN first))) rfl rfl (AE (AB (AK (!(CN first)) rfl rfl (fun d5=>?_) (fun d5=>?_)))))))
   ·have s3:(CN first)=false:=by simpa using d5
    refine AG (AD kR (AC (AH (.slice none 0 0) rfl (AC (AH (vI 1) rfl (AE (AB (AS (AN (AZ rfl (HT rfl rfl rfl rfl) (?_)))))))))))
    have n7:((AI l copies first).1)=([]):=by exact congrArg (fun p=>p.1) (show AI l copies first=_ from state_4 aS aS)
    have n9:((AI l copies first).2)=(1:Int):=by exact congrArg (fun p=>p.2) (show AI l copies first=_ from state_4 aS aS)
    exact ⟨_,rfl,h3.keep,by rw [n7,n9];exact ⟨.slice none 0 0,rfl,CI.nil _ _ _⟩⟩
   have s4:(CN first)=true:=by simpa using d5
   refine AT (AB (AG (AD kR (AC (PP vI EH h3 fun a4 v6 o0 o1 h5 v7 b8=>(?_))))))
   clear o0
   have a2:=a2.mv h5
   have a0:=a0.mv h5
   refine AC (CC [.map none] z_97 rfl o1 fun a5 v8 o2 o3 h6 o4 j5=>(?_))
   have d6:DB a4 a5:=by show a4≠a5;have:=b8.lt;omega
   clear o2
   have a2:=a2.mv h6
   have a0:=a0.mv h6
   have b8:=b8.keep o4 (by simp)
   refine BK (BP (Value.map (some a4)) rfl rfl rfl s_97 (by repeat (constructor)) j5 oT o3 fun v9 o5 h7 o6 a1=>(?_))
   have a2:=a2.mv h7
   have a0:=a0.mv h7
   have b8:=b8.keep o6 (AJ d6)
   refine AE (AB (AG (AD kR (AC (EX (first:=[]) (captured:=[.tmp 8, .tmp 5]) [] [vP (some ⟨a5,0,none⟩),vP (some b1)] rfl rfl (AC (AH (vN (.func 64) #[] #[vP (some ⟨a5,0,none⟩),vP (some b1)]) rfl (AE (AB (AG (AG (AD kR (AC (AF (l_v) rfl (AC (DS U26_ rfl a2 (AC (AF (vI 0) rfl (AE (AB (BN (ED (fun mI FI wI=>∃ (k:Nat) (B:List Nat),k≤l.length∧mI=l.length - k∧(∃ F1,FI=GM F1 [(1,vI copies),(5,vP (some b1)),(6,nS),(8,vP (some ⟨a5,0,none⟩)),(9,vN (.func 64) #[] #[vP (some ⟨a5,0,none⟩),vP (some b1)]),(31,l_v),(32,vI (l.length:Int)),(33,vI ((k:Nat):Int)),(62,undef)])∧St w O wI B∧PT Enc.int wI (B++O) (.pointer (some b1)) (first)∧CI Enc.devop wI (B++O) (l_v) (l)∧LB vI EH wI a4 (mapM l first k)∧a4∈B∧EN wI a5 97 [Value.map (some a4)]∧a5∈B) (l.length - (0)) ?_ ?_))))))))))))))))))))))
   ·exact ⟨(0),(a5 :: (a4 :: [])),oM,rfl,⟨_,AL _ ⟨rfl,rfl,rfl,rfl,rfl,rfl,rfl,(by rfl),rfl,trivial⟩⟩,o5,a0,a2,(by rw [show mapM l first (0)=noM from rfl];exact b8),(by (repeat (first|exact List.mem_cons_self|apply List.mem_cons_of_mem))),a1,(by (repeat (exact List.mem_cons_self)))⟩
   intro z3 F z4 hI
   clear a0 a2 a1
   obtain ⟨k,j6,hr0_0,z5,⟨z6,rfl⟩,r4,a0,a2,hbx_0_b1212,b6,a1,b7⟩:=hI
   refine AG (AD kR (AC (DR .i64 ((k:Nat):Int) (l.length:Int) rfl rfl (AE (AB (AG (AK (decide (((k:Nat):Int)<(l.length:Int))) rfl rfl (fun d7=>?_) (fun d7=>?_))))))))
   ·have s5:((k:Nat):Int)<(l.length:Int):=by simpa using d7
    refine AT (AB (AG (BN (AG (AD kR (AC (BZ U26_ BX .i64 ((k:Nat):Int) k rfl rfl rfl a2 oM fun o7 a6=>(AC (BT U40_ rfl BX rfl a6 fun s6 j7=>(?_))))))))))
    obtain rfl:=j7
    refine AC (CC [vI 0,vI 0,vI 0,vI 0,vI 0,vI 0] HC rfl r4 fun b4 w0 o8 o9 e6 h8 j8=>(?_))
    have j9:DB a4 b4:=by show a4≠b4;have:=hbx_0_b1212.lt;omega
    have k0:DB a5 b4:=by show a5≠b4;have:=a1.lt;omega
    clear o8
    have a0:=a0.mv e6
    have a2:=a2.mv e6
    have a6:=a6.mv e6
    have hbx_0_b1212:=hbx_0_b1212.keep h8 (by simp)
    have a1:=a1.keep h8 (by simp)
    refine BK (AU (vs:=[vI ((l[k]!).device),vI ((l[k]!).no),vI ((l[k]!).kind),vI ((l[k]!).copy),vI ((l[k]!).to),vI ((l[k]!).token)]) (.agg #[vI ((l[k]!).device),vI ((l[k]!).no),vI ((l[k]!).kind),vI ((l[k]!).copy),vI ((l[k]!).to),vI ((l[k]!).token)]) rfl rfl rfl BX (fun u hu=>by simp only [List.mem_cons,List.not_mem_nil,or_false] at hu;rcases hu with rfl|rfl|rfl|rfl|rfl|rfl <;> rfl) (by repeat (constructor)) j8 oT o9 fun w1 p0 e7 h9 a7=>(?_))
    have a0:=a0.mv e7
    have a2:=a2.mv e7
    have a6:=a6.mv e7
    have hbx_0_b1212:=hbx_0_b1212.keep h9 (AJ j9)
    have a1:=a1.keep h9 (AJ k0)
    refine AE (AB (AD kR (AC (AF (vN (.func 64) #[] #[vP (some ⟨a5,0,none⟩),vP (some b1)]) rfl (AC (AQ (vs:=[vI ((l[k]!).device),vI ((l[k]!).no),vI ((l[k]!).kind),vI ((l[k]!).copy),vI ((l[k]!).to),vI ((l[k]!).token)]) U40_ rfl BX rfl a7 rfl (AC (o_callv [] [vP (some ⟨a5,0,none⟩),vP (some b1)] [vA #[vI ((l[k]!).device),vI ((l[k]!).no),vI ((l[k]!).kind),vI ((l[k]!).copy),vI ((l[k]!).to),vI ((l[k]!).token)]] _ enter_64 rfl rfl (EJ 50 Try.func64 rfl rfl oT (fun w2=>AG (AD kR (AC (DG (E:=Enc.devop) (vA #[vI ((l[k]!).device),vI ((l[k]!).no),vI ((l[k]!).kind),vI ((l[k]!).copy),vI ((l[k]!).to),vI ((l[k]!).token)]) ([vI ((l[k]!).device),vI ((l[k]!).no),vI ((l[k]!).kind),vI ((l[k]!).copy),vI ((l[k]!).to),vI ((l[k]!).token)]) (l[k]!) rfl rfl rfl p0 fun i0 w3 p1 e8 e9 a3=>(?_)))))) (fun _ _ h=>h)))))))))
    have a0:=a0.mv e8
    have a2:=a2.mv e8
    have a6:=a6.mv e8
    have hbx_0_b1212:=hbx_0_b1212.keep e9 (by simp)
    have a1:=a1.keep e9 (by simp)
    have a7:=a7.keep e9 (by simp)
    refine AE (AB (AG (AD kR (AC (AR U97_ rfl (Value.map (some a4)) rfl a1 rfl (AC (AP 3 II ((l[k]!).copy) rfl a3 (fun _ _ _ h=>DK h) fun w4 k5=>(AC (BJ U3_ rfl rfl k5 (AC (o_lookV2 (enc:=vI) (venc:=EH) (k:=((l[k]!).copy)) (z0:=(⟨(0:Int),(0:Int),(0:Int),false⟩:Holding)) U97_ (ON U3_) kR rfl rfl hbx_0_b1212 (AC (AF (vT #[vA #[vI ((((mapM l first k) ((l[k]!).copy)).getD (⟨(0:Int),(0:Int),(0:Int),false⟩:Holding)).copy),vI ((((mapM l first k) ((l[k]!).copy)).getD (⟨(0:Int),(0:Int),(0:Int),false⟩:Holding)).device),vI ((((mapM l first k) ((l[k]!).copy)).getD (⟨(0:Int),(0:Int),(0:Int),false⟩:Holding)).token),vO ((((mapM l first k) ((l[k]!).copy)).getD (⟨(0:Int),(0:Int),(0:Int),false⟩:Holding)).shown)],vO (((mapM l first k) ((l[k]!).copy)).isSome)]) rfl (AC (BD (vA #[vI ((((mapM l first k) ((l[k]!).copy)).getD (⟨(0:Int),(0:Int),(0:Int),false⟩:Holding)).copy),vI ((((mapM l first k) ((l[k]!).copy)).getD (⟨(0:Int),(0:Int),(0:Int),false⟩:Holding)).device),vI ((((mapM l first k) ((l[k]!).copy)).getD (⟨(0:Int),(0:Int),(0:Int),false⟩:Holding)).token),vO ((((mapM l first k) ((l[k]!).copy)).getD (⟨(0:Int),(0:Int),(0:Int),false⟩:Holding)).shown)]) rfl rfl (AC (BD (vO (((mapM l first k) ((l[k]!).copy)).isSome)) rfl rfl (AC (CC [vI 0,vI 0,vI 0,vO false] z_47 rfl p1 fun b3 w5 p2 p3 c9 f0 k6=>(?_))))))))))))))))))))
    have c2:DB a4 b3:=by show a4≠b3;have:=hbx_0_b1212.lt;omega
    have c3:DB a5 b3:=by show a5≠b3;have:=a1.lt;omega
    have g1:DB b4 b3:=by show b4≠b3;have:=a7.lt;omega
    clear p2
    have a0:=a0.mv c9
    have a3:=a3.mv c9
    have a2:=a2.mv c9
    have a6:=a6.mv c9
    have hbx_0_b1212:=hbx_0_b1212.keep f0 (by simp)
    have a1:=a1.keep f0 (by simp)
    have a7:=a7.keep f0 (by simp)
    refine BK (AU (vs:=[vI ((((mapM l first k) ((l[k]!).copy)).getD (⟨(0:Int),(0:Int),(0:Int),false⟩:Holding)).copy),vI ((((mapM l first k) ((l[k]!).copy)).getD (⟨(0:Int),(0:Int),(0:Int),false⟩:Holding)).device),vI ((((mapM l first k) ((l[k]!).copy)).getD (⟨(0:Int),(0:Int),(0:Int),false⟩:Holding)).token),vO ((((mapM l first k) ((l[k]!).copy)).getD (⟨(0:Int),(0:Int),(0:Int),false⟩:Holding)).shown)]) (.agg #[vI ((((mapM l first k) ((l[k]!).copy)).getD (⟨(0:Int),(0:Int),(0:Int),false⟩:Holding)).copy),vI ((((mapM l first k) ((l[k]!).copy)).getD (⟨(0:Int),(0:Int),(0:Int),false⟩:Holding)).device),vI ((((mapM l first k) ((l[k]!).copy)).getD (⟨(0:Int),(0:Int),(0:Int),false⟩:Holding)).token),vO ((((mapM l first k) ((l[k]!).copy)).getD (⟨(0:Int),(0:Int),(0:Int),false⟩:Holding)).shown)]) rfl rfl rfl LI (fun u hu=>by simp only [List.mem_cons,List.not_mem_nil,or_false] at hu;rcases hu with rfl|rfl|rfl|rfl <;> rfl) (by repeat (constructor)) k6 oT p3 fun w6 i1 d0 f1 g2=>(?_))
    have a0:=a0.mv d0
    have a3:=a3.mv d0
    have a2:=a2.mv d0
    have a6:=a6.mv d0
    have hbx_0_b1212:=hbx_0_b1212.keep f1 (AJ c2)
    have a1:=a1.keep f1 (AJ c3)
    have a7:=a7.keep f1 (AJ g1)
    refine AC (AH (vO (((mapM l first k) ((l[k]!).copy)).isSome)) rfl (AE (AB (JW (fun FI wI=>∃ (h:Holding) (B:List Nat),h=((mapM l first k l[k]!.copy).getD (EM l[k]!.copy first))∧0≤h.token∧h.token≤65536∧True∧(∃ F1,FI=GM F1 [(1,vP (some ⟨a5,0,none⟩)),(3,vP (some i0)),(4,vP (some ⟨b3,0,none⟩)),(50,undef)])∧St w O wI B∧PT Enc.devop wI (B++O) (.pointer (some i0)) ((l[k]!))∧PT Enc.int wI (B++O) (.pointer (some b1)) (first)∧CI Enc.devop wI (B++O) (l_v) (l)∧PT Enc.devop wI (B++O) (.pointer (some o7)) (l[k]!)∧LB vI EH wI a4 (mapM l first k)∧a4∈B∧EN wI a5 97 [Value.map (some a4)]∧a5∈B∧EN wI b4 40 [vI ((l[k]!).device),vI ((l[k]!).no),vI ((l[k]!).kind),vI ((l[k]!).copy),vI ((l[k]!).to),vI ((l[k]!).token)]∧b4∈B∧EN wI b3 47 [vI h.copy,vI h.device,vI h.token,vO h.shown]∧b3∈B) ?_ ?_))))
    ·refine AG (AD kR (AC (AF (vO (((mapM l first k) ((l[k]!).copy)).isSome)) rfl (AC (EI (((mapM l first k) ((l[k]!).copy)).isSome) rfl (AE (AB (AK (!(((mapM l first k) ((l[k]!).copy)).isSome)) rfl rfl (fun d8=>?_) (fun d8=>?_)))))))))
     ·have s7:(((mapM l first k) ((l[k]!).copy)).isSome)=false:=by simpa using d8
      refine AD kR (AC (AP 3 II ((l[k]!).copy) rfl a3 (fun _ _ _ h=>DK h) fun w7 k7=>(AC (BJ U3_ rfl rfl k7 (AC (BJ U3_ rfl rfl a0 (AC (CV (l:=[(0, .tmp 16),(1, .tmp 17)]) pl_47 z_47 rfl [(0,vI ((l[k]!).copy),[vI ((l[k]!).copy)]),(1,vI first,[vI first])] [vI ((l[k]!).copy),vI first,vI 0,vO false] rfl ⟨_,rfl,rfl,oT,⟨_,rfl,rfl,oT,rfl⟩⟩ (BK (AU (vs:=[vI ((l[k]!).copy),vI first,vI 0,vO false]) (.agg #[vI ((l[k]!).copy),vI first,vI 0,vO false]) rfl rfl rfl LI (fun u hu=>by simp only [List.mem_cons,List.not_mem_nil,or_false] at hu;rcases hu with rfl|rfl|rfl|rfl <;> rfl) (by repeat (constructor)) g2 oT i1 fun w8 p4 d1 f2 k8=>(?_)))))))))))
      have a0:=a0.mv d1
      have a3:=a3.mv d1
      have a2:=a2.mv d1
      have a6:=a6.mv d1
      have hbx_0_b1212:=hbx_0_b1212.keep f2 (AJ c2)
      have a1:=a1.keep f2 (AJ c3)
      have a7:=a7.keep f2 (AJ g1)
      refine AE (AB (?_))
      exact ⟨(((mapM l first k l[k]!.copy).getD (EM l[k]!.copy first))),(b3 :: (b4 :: j6)),rfl,(OF ((CZ l).1 hchk) oM rfl).1,(OF ((CZ l).1 hchk) oM rfl).2,trivial,⟨_,AL _ ⟨rfl,rfl,rfl,rfl,trivial⟩⟩,p4,a3,a0,a2,a6,hbx_0_b1212,(by (repeat (first|assumption|apply List.mem_cons_of_mem))),a1,(by (repeat (first|assumption|apply List.mem_cons_of_mem))),a7,(by (repeat (first|exact List.mem_cons_self|apply List.mem_cons_of_mem))),(by rw [show ([vI ((((mapM l first k l[k]!.copy).getD (EM l[k]!.copy first))).copy),vI ((((mapM l first k l[k]!.copy).getD (EM l[k]!.copy first))).device),vI ((((mapM l first k l[k]!.copy).getD (EM l[k]!.copy first))).token),vO ((((mapM l first k l[k]!.copy).getD (EM l[k]!.copy first))).shown)]:List Value)=[vI ((l[k]!).copy),vI first,vI 0,vO false] from by (rw [← RD aS];rfl)];exact k8),(by (repeat (exact List.mem_cons_self)))⟩
     have s8:(((mapM l first k) ((l[k]!).copy)).isSome)=true:=by simpa using d8
     refine AT (AB (?_))
     exact ⟨(((mapM l first k l[k]!.copy).getD (EM l[k]!.copy first))),(b3 :: (b4 :: j6)),rfl,(OF ((CZ l).1 hchk) oM rfl).1,(OF ((CZ l).1 hchk) oM rfl).2,trivial,⟨_,AL _ ⟨rfl,rfl,rfl,rfl,trivial⟩⟩,i1,a3,a0,a2,a6,hbx_0_b1212,(by (repeat (first|assumption|apply List.mem_cons_of_mem))),a1,(by (repeat (first|assumption|apply List.mem_cons_of_mem))),a7,(by (repeat (first|exact List.mem_cons_self|apply List.mem_cons_of_mem))),(by rw [show ([vI ((((mapM l first k l[k]!.copy).getD (EM l[k]!.copy first))).copy),vI ((((mapM l first k l[k]!.copy).getD (EM l[k]!.copy first))).device),vI ((((mapM l first k l[k]!.copy).getD (EM l[k]!.copy first))).token),vO ((((mapM l first k l[k]!.copy).getD (EM l[k]!.copy first))).shown)]:List Value)=[vI ((((mapM l first k) ((l[k]!).copy)).getD (⟨(0:Int),(0:Int),(0:Int),false⟩:Holding)).copy),vI ((((mapM l first k) ((l[k]!).copy)).getD (⟨(0:Int),(0:Int),(0:Int),false⟩:Holding)).device),vI ((((mapM l first k) ((l[k]!).copy)).getD (⟨(0:Int),(0:Int),(0:Int),false⟩:Holding)).token),vO ((((mapM l first k) ((l[k]!).copy)).getD (⟨(0:Int),(0:Int),(0:Int),false⟩:Holding)).shown)] from by (rw [QU (z:=(⟨0,0,0,false⟩:Holding)) (d:=EM l[k]!.copy first) aS])];exact g2),(by (repeat (exact List.mem_cons_self)))⟩
    intro F s9 hI
    clear a3 a0 a2 a6 hbx_0_b1212 a1 a7
    obtain ⟨h,c4,b5,r7,r8,t0,⟨t1,rfl⟩,c6,a3,a0,a2,a6,hbx_0_b1212,b6,a1,b7,a7,r5,b0,r6⟩:=hI
    refine AG (AG (AD kR (AC (AP 5 LE ((l[k]!).token) rfl a3 (fun _ _ _ h=>FE h) fun w9 k9=>(AC (BJ U3_ rfl rfl k9 (AC (AM 2 MX rfl (AC (AR U3_ rfl (vI h.token) rfl b0 rfl (AC (CE .i64 h.token (1:Int) (h.token+1) rfl rfl (EP oM oM) (AC (DX .i64 ((l[k]!).token) (h.token+1) rfl rfl (AC (AF (vO (((l[k]!).token) != (h.token+1))) rfl (?_)))))))))))))))))
    cases g3:(((l[k]!).token) != (h.token+1))
    ·have t2:(l[k]!).token=h.token+1:=by simpa using g3
     refine BH rfl (AP 0 LM ((l[k]!).device) rfl a3 (fun _ _ _ h=>FY h) fun x1 l0=>(BH rfl (BJ U3_ rfl rfl l0 (BH rfl (AM 1 f_47_1 rfl (BH rfl (AR U3_ rfl (vI h.device) rfl b0 rfl (BH rfl (DX .i64 ((l[k]!).device) h.device rfl rfl (AC (BM (vO (((l[k]!).device) != h.device)) rfl rfl (AC (AF (vO (((l[k]!).device) != h.device)) rfl (?_))))))))))))))
     cases g4:(((l[k]!).device) != h.device)
     ·have t3:(l[k]!).device=h.device:=by simpa using g4
      refine BH rfl (AM 3 f_47_3 rfl (BH rfl (AR U4_ rfl (vO h.shown) rfl b0 rfl (AC (BM (vO h.shown) rfl rfl (AE (AB (AK (h.shown) rfl rfl (fun d9=>?_) (fun d9=>?_)))))))))
      ·have t4:h.shown=true:=by simpa using d9
       refine AS (AN (AZ rfl (res0 rfl) (Exists.intro _ (And.intro rfl (AE (AW (AB (AD kR (AC (CE .i64 ((k:Nat):Int) (1:Int) (((k+1:Nat):Int)) rfl rfl (EP oM oM) (AC (AF (vI ((k+1:Nat):Int)) rfl (AE (AB (?_)))))))))))))))
       exact ⟨_,oM,(k+1),c4,oM,rfl,⟨_,AL _ ⟨rfl,rfl,rfl,rfl,rfl,rfl,rfl,(by rfl),rfl,trivial⟩⟩,c6,a0,a2,(by rw [show mapM l first (k+1)=mapM l first k from by exact PD b5 (by exact .inr (.inr aS))];exact hbx_0_b1212),aS,a1,aS⟩
      have t5:h.shown=false:=by simpa using d9
      refine AT (AB (AG (AD kR (AC (AP 5 LE ((l[k]!).token) rfl a3 (fun _ _ _ h=>FE h) fun x2 l1=>(AC (BJ U3_ rfl rfl l1 (AC (AM 2 MX rfl (BK (BP (vI ((l[k]!).token)) rfl rfl rfl s_3 (by repeat (assumption)) b0 oT c6 fun x3 i2 f3 i3 g5=>(?_))))))))))))
      have a3:=a3.mv f3
      have a0:=a0.mv f3
      have a2:=a2.mv f3
      have hbx_0_b1212:=hbx_0_b1212.keep i3 (AJ c2)
      have a1:=a1.keep i3 (AJ c3)
      refine AE (AB (AG (AG (AD kR (AC (AP 2 GB ((l[k]!).kind) rfl a3 (fun _ _ _ h=>FX h) fun x4 l2=>(AC (BJ U3_ rfl rfl l2 (AC (DC .i64 ((l[k]!).kind) (2:Int) rfl rfl (AE (AB (AK (((l[k]!).kind) == (2:Int)) rfl rfl (fun e0=>?_) (fun e0=>?_))))))))))))))
      ·have t6:(l[k]!).kind=(2:Int):=by simpa using e0
       refine AD kR (AC (AM 3 f_47_3 rfl (BK (BP (vO true) rfl rfl rfl s_4 (by repeat (assumption)) g5 oT i2 fun x5 p5 f4 i4 l3=>(?_)))))
       have a3:=a3.mv f4
       have a0:=a0.mv f4
       have a2:=a2.mv f4
       have hbx_0_b1212:=hbx_0_b1212.keep i4 (AJ c2)
       have a1:=a1.keep i4 (AJ c3)
       refine AE (AB (AD kR (AC (AR U97_ rfl (Value.map (some a4)) rfl a1 rfl (AC (AP 3 II ((l[k]!).copy) rfl a3 (fun _ _ _ h=>DK h) fun x6 l4=>(AC (BJ U3_ rfl rfl l4 (AC (AQ (vs:=[vI h.copy,vI h.device,vI ((l[k]!).token),vO true]) U47_ rfl LI rfl l3 rfl (BK (o_updV (enc:=vI) (venc:=EH) (k:=((l[k]!).copy)) (a:=(⟨h.copy,h.device,(l[k]!).token,true⟩:Holding)) U97_ (ON U3_) rfl rfl rfl hbx_0_b1212 (by repeat (assumption)) p5 fun x7 p6 i5 p7 l5=>(?_)))))))))))))
       have a0:=a0.mv i5
       have a2:=a2.mv i5
       have a1:=a1.keep p7 (AJ (Ne.symm d6))
       refine AE (end_n rfl (res0 rfl) (Exists.intro _ (And.intro rfl (AE (AW (AB (AD kR (AC (CE .i64 ((k:Nat):Int) (1:Int) (((k+1:Nat):Int)) rfl rfl (EP oM oM) (AC (AF (vI ((k+1:Nat):Int)) rfl (AE (AB (?_))))))))))))))
       exact ⟨_,oM,(k+1),c4,oM,rfl,⟨_,AL _ ⟨rfl,rfl,rfl,rfl,rfl,rfl,rfl,(by rfl),rfl,trivial⟩⟩,p6,a0,a2,(by rw [show mapM l first (k+1)=upM (mapM l first k) ((l[k]!).copy) (⟨h.copy,h.device,(l[k]!).token,true⟩:Holding) from by exact map_show b5 aS aS aS aS];exact l5),aS,a1,aS⟩
      have t7:(l[k]!).kind≠(2:Int):=by simpa using e0
      refine AD kR (AC (AP 4 LN ((l[k]!).to) rfl a3 (fun _ _ _ h=>GV h) fun x8 l6=>(AC (BJ U3_ rfl rfl l6 (AC (AM 1 f_47_1 rfl (BK (BP (vI ((l[k]!).to)) rfl rfl rfl s_3 (by repeat (assumption)) g5 oT i2 fun x9 p8 f5 i6 l7=>(?_)))))))))
      have a3:=a3.mv f5
      have a0:=a0.mv f5
      have a2:=a2.mv f5
      have hbx_0_b1212:=hbx_0_b1212.keep i6 (AJ c2)
      have a1:=a1.keep i6 (AJ c3)
      refine AE (AB (AD kR (AC (AR U97_ rfl (Value.map (some a4)) rfl a1 rfl (AC (AP 3 II ((l[k]!).copy) rfl a3 (fun _ _ _ h=>DK h) fun y0 l8=>(AC (BJ U3_ rfl rfl l8 (AC (AQ (vs:=[vI h.copy,vI ((l[k]!).to),vI ((l[k]!).token),vO h.shown]) U47_ rfl LI rfl l7 rfl (BK (o_updV (enc:=vI) (venc:=EH) (k:=((l[k]!).copy)) (a:=(⟨h.copy,(l[k]!).to,(l[k]!).token,h.shown⟩:Holding)) U97_ (ON U3_) rfl rfl rfl hbx_0_b1212 (by repeat (assumption)) p8 fun y1 p9 i7 q0 l9=>(?_)))))))))))))
      have a0:=a0.mv i7
      have a2:=a2.mv i7
      have a1:=a1.keep q0 (AJ (Ne.symm d6))
      refine AE (end_n rfl (res0 rfl) (Exists.intro _ (And.intro rfl (AE (AW (AB (AD kR (AC (CE .i64 ((k:Nat):Int) (1:Int) (((k+1:Nat):Int)) rfl rfl (EP oM oM) (AC (AF (vI ((k+1:Nat):Int)) rfl (AE (AB (?_))))))))))))))
      exact ⟨_,oM,(k+1),c4,oM,rfl,⟨_,AL _ ⟨rfl,rfl,rfl,rfl,rfl,rfl,rfl,(by rfl),rfl,trivial⟩⟩,p9,a0,a2,(by rw [show mapM l first (k+1)=upM (mapM l first k) ((l[k]!).copy) (⟨h.copy,(l[k]!).to,(l[k]!).token,h.shown⟩:Holding) from by exact map_give b5 aS aS aS aS];exact l9),aS,a1,aS⟩
     have t8:(l[k]!).device≠h.device:=by simpa using g4
     refine AX rfl (AX rfl (AC (BA (vO true) rfl rfl (AE (AB (AK true rfl rfl (fun _=>AS (AN (AZ rfl (res0 rfl) (Exists.intro _ (And.intro rfl (AE (AW (AB (AD kR (AC (CE .i64 ((k:Nat):Int) (1:Int) (((k+1:Nat):Int)) rfl rfl (EP oM oM) (AC (AF (vI ((k+1:Nat):Int)) rfl (AE (AB (?_)))))))))))))))) (fun h=>by cases h)))))))
     exact ⟨_,oM,(k+1),c4,oM,rfl,⟨_,AL _ ⟨rfl,rfl,rfl,rfl,rfl,rfl,rfl,(by rfl),rfl,trivial⟩⟩,c6,a0,a2,(by rw [show mapM l first (k+1)=mapM l first k from by exact PD b5 (by exact .inr (.inl aS))];exact hbx_0_b1212),aS,a1,aS⟩
    have t9:(l[k]!).token≠h.token+1:=by simpa using g3
    refine AX rfl (AX rfl (AX rfl (AX rfl (AX rfl (AC (BA (vO true) rfl rfl (AC (AF (vO true) rfl (AX rfl (AX rfl (AC (BA (vO true) rfl rfl (AE (AB (AK true rfl rfl (fun _=>AS (AN (AZ rfl (res0 rfl) (Exists.intro _ (And.intro rfl (AE (AW (AB (AD kR (AC (CE .i64 ((k:Nat):Int) (1:Int) (((k+1:Nat):Int)) rfl rfl (EP oM oM) (AC (AF (vI ((k+1:Nat):Int)) rfl (AE (AB (?_)))))))))))))))) (fun h=>by cases h))))))))))))))))
    exact ⟨_,oM,(k+1),c4,oM,rfl,⟨_,AL _ ⟨rfl,rfl,rfl,rfl,rfl,rfl,rfl,(by rfl),rfl,trivial⟩⟩,c6,a0,a2,(by rw [show mapM l first (k+1)=mapM l first k from by exact PD b5 (by exact .inl aS)];exact hbx_0_b1212),aS,a1,aS⟩
   have u0:(l.length:Int)≤((k:Nat):Int):=by simpa using d7
   obtain rfl:k=l.length:=by omega
   refine EF (CG (CG (DJ (AB (AG (AG (AD kR (AC (AF (vI copies) rfl (AC (AF (vI 0) rfl (AE (AB (BN (ED (fun mI FI wI=>∃ (k:Nat) (a8:Value) (B:List Nat),(k:Int)≤copies∧mI=copies.toNat - k∧(∃ F1,FI=GM F1 [(5,vP (some b1)),(6,a8),(8,vP (some ⟨a5,0,none⟩)),(41,vI copies),(42,vI ((k:Nat):Int)),(62,undef)])∧St w O wI B∧DM Enc.holding 47 w.heap.size (B++O) wI a8 (FM l first k)∧(∀ b,a8.ownBlock=some b→b∈B)∧PT Enc.int wI (B++O) (.pointer (some b1)) (first)∧LB vI EH wI a4 (mapM l first l.length)∧a4∈B∧EN wI a5 97 [Value.map (some a4)]∧a5∈B∧(∀ b,a8.ownBlock=some b→b≠a4)∧(∀ b,a8.ownBlock=some b→b≠a5)) (copies.toNat - (0)) ?_ ?_)))))))))))))))
   ·exact ⟨(0),(.slice none 0 0),j6,oM,rfl,⟨_,AL _ ⟨rfl,rfl,rfl,rfl,(by rfl),rfl,trivial⟩⟩,r4,(by rw [show FM l first (0)=[] from rfl];exact (DM.nil Enc.holding 47 _ _ _)),(by intro b hb;simp [Value.ownBlock] at hb),a0,hbx_0_b1212,aS,a1,aS,(fun b hb=>by (simp [Value.ownBlock] at hb;done)),(fun b hb=>by (simp [Value.ownBlock] at hb;done))⟩
   intro z7 F z8 hI
   clear a0 hbx_0_b1212 a1
   obtain ⟨k,a8,m0,hr1_0,z9,⟨A0,rfl⟩,m1,ho1_6,b9,a0,hbx_0_b1212,b6,a1,b7,nb1_6_b1212,nb1_6_b1219⟩:=hI
   refine AG (AD kR (AC (DR .i64 ((k:Nat):Int) copies rfl rfl (AE (AB (AG (AK (decide (((k:Nat):Int)<copies)) rfl rfl (fun e2=>?_) (fun e2=>?_))))))))
   ·have u1:((k:Nat):Int)<copies:=by simpa using e2
    refine AT (AB (AG (BN (AG (AD kR (AC (AF (vI ((k:Nat):Int)) rfl (AC (AH (vI ((k:Nat):Int)) rfl (AE (AB (AG (AD kR (AC (AR U97_ rfl (Value.map (some a4)) rfl a1 rfl (AC (AF (vI ((k:Nat):Int)) rfl (AC (o_lookV2 (enc:=vI) (venc:=EH) (k:=((k:Nat):Int)) (z0:=(⟨(0:Int),(0:Int),(0:Int),false⟩:Holding)) U97_ (ON U3_) kR rfl rfl hbx_0_b1212 (AC (AF (vT #[vA #[vI ((((mapM l first l.length) ((k:Nat):Int)).getD (⟨(0:Int),(0:Int),(0:Int),false⟩:Holding)).copy),vI ((((mapM l first l.length) ((k:Nat):Int)).getD (⟨(0:Int),(0:Int),(0:Int),false⟩:Holding)).device),vI ((((mapM l first l.length) ((k:Nat):Int)).getD (⟨(0:Int),(0:Int),(0:Int),false⟩:Holding)).token),vO ((((mapM l first l.length) ((k:Nat):Int)).getD (⟨(0:Int),(0:Int),(0:Int),false⟩:Holding)).shown)],vO (((mapM l first l.length) ((k:Nat):Int)).isSome)]) rfl (AC (BD (vA #[vI ((((mapM l first l.length) ((k:Nat):Int)).getD (⟨(0:Int),(0:Int),(0:Int),false⟩:Holding)).copy),vI ((((mapM l first l.length) ((k:Nat):Int)).getD (⟨(0:Int),(0:Int),(0:Int),false⟩:Holding)).device),vI ((((mapM l first l.length) ((k:Nat):Int)).getD (⟨(0:Int),(0:Int),(0:Int),false⟩:Holding)).token),vO ((((mapM l first l.length) ((k:Nat):Int)).getD (⟨(0:Int),(0:Int),(0:Int),false⟩:Holding)).shown)]) rfl rfl (AC (BD (vO (((mapM l first l.length) ((k:Nat):Int)).isSome)) rfl rfl (AC (CC [vI 0,vI 0,vI 0,vO false] z_47 rfl m1 fun a9 y2 q1 q2 i8 f6 m2=>(?_))))))))))))))))))))))))))))
    have g6:DB a4 a9:=by show a4≠a9;have:=hbx_0_b1212.lt;omega
    have g7:DB a5 a9:=by show a5≠a9;have:=a1.lt;omega
    have e3:∀ b,a8.ownBlock=some b→b≠a9:=fun b hb=>by have:=(ho1_6.lt b hb).2;omega
    have b9:∀ b,a8.ownBlock=some b→b∈(a9 :: m0):=fun b hb=>List.mem_cons_of_mem _ (b9 b hb)
    clear q1
    have a0:=a0.mv i8
    have ho1_6:=ho1_6.mv i8 f6 (by simp)
    have hbx_0_b1212:=hbx_0_b1212.keep f6 (by simp)
    have a1:=a1.keep f6 (by simp)
    refine BK (AU (vs:=[vI ((((mapM l first l.length) ((k:Nat):Int)).getD (⟨(0:Int),(0:Int),(0:Int),false⟩:Holding)).copy),vI ((((mapM l first l.length) ((k:Nat):Int)).getD (⟨(0:Int),(0:Int),(0:Int),false⟩:Holding)).device),vI ((((mapM l first l.length) ((k:Nat):Int)).getD (⟨(0:Int),(0:Int),(0:Int),false⟩:Holding)).token),vO ((((mapM l first l.length) ((k:Nat):Int)).getD (⟨(0:Int),(0:Int),(0:Int),false⟩:Holding)).shown)]) (.agg #[vI ((((mapM l first l.length) ((k:Nat):Int)).getD (⟨(0:Int),(0:Int),(0:Int),false⟩:Holding)).copy),vI ((((mapM l first l.length) ((k:Nat):Int)).getD (⟨(0:Int),(0:Int),(0:Int),false⟩:Holding)).device),vI ((((mapM l first l.length) ((k:Nat):Int)).getD (⟨(0:Int),(0:Int),(0:Int),false⟩:Holding)).token),vO ((((mapM l first l.length) ((k:Nat):Int)).getD (⟨(0:Int),(0:Int),(0:Int),false⟩:Holding)).shown)]) rfl rfl rfl LI (fun u hu=>by simp only [List.mem_cons,List.not_mem_nil,or_false] at hu;rcases hu with rfl|rfl|rfl|rfl <;> rfl) (by repeat (constructor)) m2 oT q2 fun y3 i9 j0 f7 g8=>(?_))
    have a0:=a0.mv j0
    have ho1_6:=ho1_6.mv j0 f7 (fun b hb=>AJ (e3 b hb))
    have hbx_0_b1212:=hbx_0_b1212.keep f7 (AJ g6)
    have a1:=a1.keep f7 (AJ g7)
    refine AC (AH (vO (((mapM l first l.length) ((k:Nat):Int)).isSome)) rfl (AE (AB (JW (fun FI wI=>∃ (B:List Nat),True∧(∃ F1,FI=GM F1 [(5,vP (some b1)),(6,a8),(8,vP (some ⟨a5,0,none⟩)),(13,vP (some ⟨a9,0,none⟩)),(41,vI copies),(42,vI ((k:Nat):Int)),(62,undef)])∧St w O wI B∧PT Enc.int wI (B++O) (.pointer (some b1)) (first)∧DM Enc.holding 47 w.heap.size (B++O) wI a8 (FM l first k)∧(∀ b,a8.ownBlock=some b→b∈B)∧LB vI EH wI a4 (mapM l first l.length)∧a4∈B∧EN wI a5 97 [Value.map (some a4)]∧a5∈B∧EN wI a9 47 [vI ((DI l first ((k:Nat):Int)).copy),vI ((DI l first ((k:Nat):Int)).device),vI ((DI l first ((k:Nat):Int)).token),vO ((DI l first ((k:Nat):Int)).shown)]∧a9∈B) ?_ ?_))))
    ·refine AG (AD kR (AC (AF (vO (((mapM l first l.length) ((k:Nat):Int)).isSome)) rfl (AC (EI (((mapM l first l.length) ((k:Nat):Int)).isSome) rfl (AE (AB (AK (!(((mapM l first l.length) ((k:Nat):Int)).isSome)) rfl rfl (fun e4=>?_) (fun e4=>?_)))))))))
     ·have u2:(((mapM l first l.length) ((k:Nat):Int)).isSome)=false:=by simpa using e4
      refine AD kR (AC (AF (vI ((k:Nat):Int)) rfl (AC (BJ U3_ rfl rfl a0 (AC (CV (l:=[(0, .tmp 53),(1, .tmp 54)]) pl_47 z_47 rfl [(0,vI ((k:Nat):Int),[vI ((k:Nat):Int)]),(1,vI first,[vI first])] [vI ((k:Nat):Int),vI first,vI 0,vO false] rfl ⟨_,rfl,rfl,oT,⟨_,rfl,rfl,oT,rfl⟩⟩ (BK (AU (vs:=[vI ((k:Nat):Int),vI first,vI 0,vO false]) (.agg #[vI ((k:Nat):Int),vI first,vI 0,vO false]) rfl rfl rfl LI (fun u hu=>by simp only [List.mem_cons,List.not_mem_nil,or_false] at hu;rcases hu with rfl|rfl|rfl|rfl <;> rfl) (by repeat (constructor)) g8 oT i9 fun y4 q3 j1 f8 m3=>(?_)))))))))
      have a0:=a0.mv j1
      have ho1_6:=ho1_6.mv j1 f8 (fun b hb=>AJ (e3 b hb))
      have hbx_0_b1212:=hbx_0_b1212.keep f8 (AJ g6)
      have a1:=a1.keep f8 (AJ g7)
      refine AE (AB (?_))
      exact ⟨(a9 :: m0),trivial,⟨_,AL _ ⟨rfl,rfl,rfl,rfl,rfl,rfl,rfl,trivial⟩⟩,q3,a0,ho1_6,b9,hbx_0_b1212,(by (repeat (first|assumption|apply List.mem_cons_of_mem))),a1,(by (repeat (first|assumption|apply List.mem_cons_of_mem))),(by rw [show ([vI ((DI l first ((k:Nat):Int)).copy),vI ((DI l first ((k:Nat):Int)).device),vI ((DI l first ((k:Nat):Int)).token),vO ((DI l first ((k:Nat):Int)).shown)]:List Value)=[vI ((k:Nat):Int),vI first,vI 0,vO false] from by (show _=_;unfold DI;rw [← RD aS];rfl)];exact m3),(by (repeat (exact List.mem_cons_self)))⟩
     have u3:(((mapM l first l.length) ((k:Nat):Int)).isSome)=true:=by simpa using e4
     refine AT (AB (?_))
     exact ⟨(a9 :: m0),trivial,⟨_,AL _ ⟨rfl,rfl,rfl,rfl,rfl,rfl,rfl,trivial⟩⟩,i9,a0,ho1_6,b9,hbx_0_b1212,(by (repeat (first|assumption|apply List.mem_cons_of_mem))),a1,(by (repeat (first|assumption|apply List.mem_cons_of_mem))),(by rw [show ([vI ((DI l first ((k:Nat):Int)).copy),vI ((DI l first ((k:Nat):Int)).device),vI ((DI l first ((k:Nat):Int)).token),vO ((DI l first ((k:Nat):Int)).shown)]:List Value)=[vI ((((mapM l first l.length) ((k:Nat):Int)).getD (⟨(0:Int),(0:Int),(0:Int),false⟩:Holding)).copy),vI ((((mapM l first l.length) ((k:Nat):Int)).getD (⟨(0:Int),(0:Int),(0:Int),false⟩:Holding)).device),vI ((((mapM l first l.length) ((k:Nat):Int)).getD (⟨(0:Int),(0:Int),(0:Int),false⟩:Holding)).token),vO ((((mapM l first l.length) ((k:Nat):Int)).getD (⟨(0:Int),(0:Int),(0:Int),false⟩:Holding)).shown)] from by (rw [QU (z:=(⟨0,0,0,false⟩:Holding)) (d:=EM ((k:Nat):Int) first) aS];rfl)];exact g8),(by (repeat (exact List.mem_cons_self)))⟩
    intro F y5 hI
    clear a0 ho1_6 b9 hbx_0_b1212 a1
    obtain ⟨y6,y7,⟨y8,rfl⟩,q4,a0,ho1_6,b9,hbx_0_b1212,b6,a1,b7,b2,g9⟩:=hI
    refine AD kR (AC (AF (a8) rfl (AC (AQ (vs:=[vI ((DI l first ((k:Nat):Int)).copy),vI ((DI l first ((k:Nat):Int)).device),vI ((DI l first ((k:Nat):Int)).token),vO ((DI l first ((k:Nat):Int)).shown)]) U47_ rfl LI rfl b2 rfl (AC (EY (E:=Enc.holding) (xs:=[.tmp 57]) U43_ LI z_47 (by decide) [.agg #[vI ((DI l first ((k:Nat):Int)).copy),vI ((DI l first ((k:Nat):Int)).device),vI ((DI l first ((k:Nat):Int)).token),vO ((DI l first ((k:Nat):Int)).shown)]] [[vI ((DI l first ((k:Nat):Int)).copy),vI ((DI l first ((k:Nat):Int)).device),vI ((DI l first ((k:Nat):Int)).token),vO ((DI l first ((k:Nat):Int)).shown)]] [(DI l first ((k:Nat):Int))] rfl rfl rfl (Parts.cons rfl rfl (Parts.nil _ _ _)) oT q4 fun y9 z1 q5 j2 d2 h0=>(?_)))))))
    have a0:=a0.mv j2
    have ho1_6:=ho1_6.mv j2 d2 (by simp)
    have hbx_0_b1212:=hbx_0_b1212.keep d2 (by simp)
    have a1:=a1.keep d2 (by simp)
    have b2:=b2.keep d2 (by simp)
    have:=h0.len_le
    refine AC (CT (E:=Enc.holding) (l:=FM l first k) (m:=[(DI l first ((k:Nat):Int))]) U43_ i_47 rfl (by decide) rfl rfl ho1_6 h0 (fun _ hb=>.inl hb) b9 (by rw [JF];simp;omega) (by rw [JF];simp [maxLen];omega) q5 fun c7 z2 d3 m4 e5 c8 q6 q7 j3 m5=>(?_))
    have m6:∀ b,c7.ownBlock=some b→b≠a4:=fun b hb=>by rcases e5 with e1|e1 <;> rw [e1] at hb <;> first|(cases hb;have:=hbx_0_b1212.lt;omega)|(exact nb1_6_b1212 b hb)
    have m7:∀ b,c7.ownBlock=some b→b≠a5:=fun b hb=>by rcases e5 with e1|e1 <;> rw [e1] at hb <;> first|(cases hb;have:=a1.lt;omega)|(exact nb1_6_b1219 b hb)
    have u4:∀ b,c7.ownBlock=some b→b≠a9:=fun b hb=>by rcases e5 with e1|e1 <;> rw [e1] at hb <;> first|(cases hb;have:=b2.lt;omega)|(exact e3 b hb)
    have b6:a4∈d3:=c8 a4 (by repeat (assumption))
    have b7:a5∈d3:=c8 a5 (by repeat (assumption))
    have g9:a9∈d3:=c8 a9 (by repeat (assumption))
    have a0:=a0.mv q7
    have hbx_0_b1212:=hbx_0_b1212.keep j3 (by simp only [Option.mem_toList];exact fun e=>absurd rfl (nb1_6_b1212 _ e))
    have a1:=a1.keep j3 (by simp only [Option.mem_toList];exact fun e=>absurd rfl (nb1_6_b1219 _ e))
    refine AC (AH (c7) rfl (AE (AW (AB (AD kR (AC (CE .i64 ((k:Nat):Int) (1:Int) (((k+1:Nat):Int)) rfl rfl (EP oM oM) (AC (AF (vI ((k+1:Nat):Int)) rfl (AE (AB (?_))))))))))))
    exact ⟨_,oM,(k+1),c7,d3,oM,rfl,⟨_,AL _ ⟨rfl,rfl,rfl,rfl,(by rfl),rfl,trivial⟩⟩,q6,(by rw [show FM l first (k+1)=(FM l first k)++([(DI l first ((k:Nat):Int))]) from holdsM_succ l first k];exact m5),m4,a0,hbx_0_b1212,aS,a1,aS,m6,m7⟩
   have u5:copies≤((k:Nat):Int):=by simpa using e2
   obtain rfl:k=copies.toNat:=by omega
   refine EF (CG (CG (DJ (AB (AG (AD kR (AC (AF (a8) rfl (AC (AH (a8) rfl (AC (AH (vI 0) rfl (AE (AB (AS (AZ rfl (HT rfl rfl rfl rfl) (?_)))))))))))))))))
   have q8:((AI l copies first).1)=(FM l first copies.toNat):=by exact congrArg (fun p=>p.1) (show AI l copies first=_ from OM aS aS aS aS)
   have q9:((AI l copies first).2)=(0:Int):=by exact congrArg (fun p=>p.2) (show AI l copies first=_ from OM aS aS aS aS)
   exact ⟨_,rfl,m1.keep,by rw [q8,q9];exact ⟨a8,rfl,ho1_6.pub m1⟩⟩
  have u6:(1024:Int)<copies:=by simpa using g0
  refine AX rfl (AX rfl (AX rfl (AC (BA (vO true) rfl rfl (AE (AB (AK true rfl rfl (fun _=>AG (AD kR (AC (AH (.slice none 0 0) rfl (AC (AH (vI 1) rfl (AE (AB (AS (AN (AZ rfl (HT rfl rfl rfl rfl) (?_)))))))))))) (fun h=>by cases h))))))))
  have r0:((AI l copies first).1)=([]):=by exact congrArg (fun p=>p.1) (show AI l copies first=_ from state_3 aS aS)
  have r1:((AI l copies first).2)=(1:Int):=by exact congrArg (fun p=>p.2) (show AI l copies first=_ from state_3 aS aS)
  exact ⟨_,rfl,c5.keep,by rw [r0,r1];exact ⟨.slice none 0 0,rfl,CI.nil _ _ _⟩⟩
 have u7:copies<(0:Int):=by simpa using f9
 refine AX rfl (AX rfl (AC (BA (vO true) rfl rfl (AC (AF (vO true) rfl (AX rfl (AX rfl (AX rfl (AC (BA (vO true) rfl rfl (AE (AB (AK true rfl rfl (fun _=>AG (AD kR (AC (AH (.slice none 0 0) rfl (AC (AH (vI 1) rfl (AE (AB (AS (AN (AZ rfl (HT rfl rfl rfl rfl) (?_)))))))))))) (fun h=>by cases h))))))))))))))
 have r2:((AI l copies first).1)=([]):=by exact congrArg (fun p=>p.1) (show AI l copies first=_ from state_2 aS aS)
 have r3:((AI l copies first).2)=(1:Int):=by exact congrArg (fun p=>p.2) (show AI l copies first=_ from state_2 aS aS)
 exact ⟨_,rfl,c5.keep,by rw [r2,r3];exact ⟨.slice none 0 0,rfl,CI.nil _ _ _⟩⟩
open Go.Fw Go.RowKit
set_option maxHeartbeats 4000000 in
set_option maxRecDepth 100000 in
theorem c_may {O:List Nat} (l_v:Value) (l:List DeviceOp) (copies:Int) (first:Int) (device:Int) (copy:Int) (w:World) (a9:CI Enc.devop w O l_v l) (hO:∀ b∈O,b<w.heap.size):CF Try.prog 34 [l_v,vI copies,vI first,vI device,vI copy] w (fun v _=>v = .tuple #[.bool ((BY l copies first device copy).1),vI ((BY l copies first device copy).2)]):= by
 have e2:=a9.len_le
 have a9:CI Enc.devop w ([]++O) l_v l:=a9
 have s0:St w O w []:=St.start hO
 refine BS 50 Try.func34 rfl rfl oT (fun F0=>AG (AD kR (AC (AH (vO false) rfl (AC (AH (vI 0) rfl (AE (AB (AG (AD kR (AC (AF (l_v) rfl (AC (AF (vI copies) rfl (AC (AF (vI first) rfl (AC (BI (vs:=[l_v,vI copies,vI first]) IU (KQ (O:=[]++O) l_v l copies first w a9 s0.lt) rfl s0 fun e3 b5 a5 e4 e5 b6=>(?_)))))))))))))))))))
 obtain ⟨a1,rfl,a0⟩:=b6
 have:=a0.len_le
 refine AC (AF (vT #[a1,vI ((AI l copies first).2)]) rfl (AC (BD (a1) rfl rfl (AC (BD (vI ((AI l copies first).2)) rfl rfl (AC (AH (a1) rfl (AC (AH (vI ((AI l copies first).2)) rfl (AE (AB (AG (AG (AD kR (AC (AF (vI ((AI l copies first).2)) rfl (AC (DX .i64 ((AI l copies first).2) (0:Int) rfl rfl (AE (AB (AK (((AI l copies first).2) != (0:Int)) rfl rfl (fun a3=>?_) (fun a3=>?_))))))))))))))))))))))
 ·have d3:(AI l copies first).2≠(0:Int):=by simpa using a3
  refine AG (AD kR (AC (AF (vI ((AI l copies first).2)) rfl (AC (AH (vO false) rfl (AC (AH (vI ((AI l copies first).2)) rfl (AE (AB (AS (AN (AZ rfl (HT rfl rfl rfl rfl) (?_)))))))))))))
  have b7:((BY l copies first device copy).1)=false:=by exact congrArg (fun p=>p.1) (show BY l copies first device copy=_ from may_1 aS)
  have b8:((BY l copies first device copy).2)=((AI l copies first).2):=by exact congrArg (fun p=>p.2) (show BY l copies first device copy=_ from may_1 aS)
  exact ⟨_,rfl,a5.keep,by rw [b7,b8];exact rfl⟩
 have b0:(AI l copies first).2=(0:Int):=by simpa using a3
 have hst:(AI l copies first).2=0:=b0
 have hsl:=FB hst
 refine AT (AB (AG (AG (AD kR (AC (AF (vI device) rfl (AC (BI (vs:=[vI device]) LX (JI (O:=[]++O) device b5 a5.lt) rfl a5 fun e6 e7 a2 b9 e8 c2=>(?_)))))))))
 obtain rfl:=c2
 have a0:=a0.mv b9
 refine AC (EI (CN device) rfl (AC (AF (vO (!(CN device))) rfl (?_))))
 cases a6:(!(CN device))
 ·have d4:(CN device)=true:=by simpa using a6
  refine BH rfl (AF (vI copy) rfl (BH rfl (DR .i64 copy (0:Int) rfl rfl (AC (BM (vO (decide (copy<(0:Int)))) rfl rfl (AC (AF (vO (decide (copy<(0:Int)))) rfl (?_))))))))
  cases a7:(decide (copy<(0:Int)))
  ·have d5:(0:Int)≤copy:=by simpa using a7
   refine BH rfl (AF (vI copy) rfl (BH rfl (AF (vI copies) rfl (BH rfl (JS .i64 copy copies rfl rfl (AC (BM (vO (decide (copies≤copy))) rfl rfl (AE (AB (AK (decide (copies≤copy)) rfl rfl (fun a4=>?_) (fun a4=>?_)))))))))))
   ·have d6:copies≤copy:=by simpa using a4
    refine AG (AD kR (AC (AH (vO false) rfl (AC (AH (vI 1) rfl (AE (AB (AS (AN (AZ rfl (HT rfl rfl rfl rfl) (?_)))))))))))
    have c3:((BY l copies first device copy).1)=false:=by exact congrArg (fun p=>p.1) (show BY l copies first device copy=_ from MM aS (.inr (.inr aS)))
    have c4:((BY l copies first device copy).2)=(1:Int):=by exact congrArg (fun p=>p.2) (show BY l copies first device copy=_ from MM aS (.inr (.inr aS)))
    exact ⟨_,rfl,a2.keep,by rw [c3,c4];exact rfl⟩
   have d7:copy<copies:=by simpa using a4
   refine AT (AB (AG (AD kR (AC (AF (a1) rfl (AC (AF (vI copy) rfl (AC (BZ U43_ LI .i64 copy copy.toNat rfl rfl oM a0 oM fun e9 b1=>(AC (AP 1 f_47_1 ((((AI l copies first).1)[copy.toNat]!).device) rfl b1 (fun _ _ _ h=>PQ h) fun f0 b2=>(AC (BJ U3_ rfl rfl b2 (AC (AF (vI device) rfl (AC (DC .i64 ((((AI l copies first).1)[copy.toNat]!).device) device rfl rfl (AC (AF (vO (((((AI l copies first).1)[copy.toNat]!).device) == device)) rfl (?_))))))))))))))))))))
   cases a8:(((((AI l copies first).1)[copy.toNat]!).device) == device)
   ·have d8:(((AI l copies first).1)[copy.toNat]!).device≠device:=by simpa using a8
    refine AX rfl (AX rfl (AX rfl (AX rfl (AX rfl (AX rfl (AC (BM (vO false) rfl rfl (AC (AH (vO false) rfl (AC (AH (vI 0) rfl (AE (AB (AS (AZ rfl (HT rfl rfl rfl rfl) (?_))))))))))))))))
    have c5:((BY l copies first device copy).1)=false:=by exact congrArg (fun p=>p.1) (show BY l copies first device copy=_ from may_3 aS aS aS aS aS)
    have c6:((BY l copies first device copy).2)=(0:Int):=by exact congrArg (fun p=>p.2) (show BY l copies first device copy=_ from may_3 aS aS aS aS aS)
    exact ⟨_,rfl,a2.keep,by rw [c5,c6];exact rfl⟩
   have d9:(((AI l copies first).1)[copy.toNat]!).device=device:=by simpa using a8
   refine BH rfl (AF (a1) rfl (BH rfl (AF (vI copy) rfl (BH rfl (BZ U43_ LI .i64 copy copy.toNat rfl rfl oM a0 oM fun f1 b3=>(BH rfl (AP 3 f_47_3 ((((AI l copies first).1)[copy.toNat]!).shown) rfl b3 (fun _ _ _ h=>JX h) fun f2 b4=>(BH rfl (LV U4_ rfl rfl b4 (BH rfl (EI ((((AI l copies first).1)[copy.toNat]!).shown) rfl (AC (BA (vO (!((((AI l copies first).1)[copy.toNat]!).shown))) rfl rfl (AC (AH (vO (!((((AI l copies first).1)[copy.toNat]!).shown))) rfl (AC (AH (vI 0) rfl (AE (AB (AS (AZ rfl (HT rfl rfl rfl rfl) (?_))))))))))))))))))))))
   have c7:((BY l copies first device copy).1)=(!((((AI l copies first).1)[copy.toNat]!).shown)):=by exact congrArg (fun p=>p.1) (show BY l copies first device copy=_ from may_4 aS aS aS aS aS)
   have c8:((BY l copies first device copy).2)=(0:Int):=by exact congrArg (fun p=>p.2) (show BY l copies first device copy=_ from may_4 aS aS aS aS aS)
   exact ⟨_,rfl,a2.keep,by rw [c7,c8];exact rfl⟩
  have e0:copy<(0:Int):=by simpa using a7
  refine AX rfl (AX rfl (AX rfl (AC (BA (vO true) rfl rfl (AE (AB (AK true rfl rfl (fun _=>AG (AD kR (AC (AH (vO false) rfl (AC (AH (vI 1) rfl (AE (AB (AS (AN (AZ rfl (HT rfl rfl rfl rfl) (?_)))))))))))) (fun h=>by cases h))))))))
  have c9:((BY l copies first device copy).1)=false:=by exact congrArg (fun p=>p.1) (show BY l copies first device copy=_ from MM aS (.inr (.inl aS)))
  have d0:((BY l copies first device copy).2)=(1:Int):=by exact congrArg (fun p=>p.2) (show BY l copies first device copy=_ from MM aS (.inr (.inl aS)))
  exact ⟨_,rfl,a2.keep,by rw [c9,d0];exact rfl⟩
 have e1:(CN device)=false:=by simpa using a6
 refine AX rfl (AX rfl (AC (BA (vO true) rfl rfl (AC (AF (vO true) rfl (AX rfl (AX rfl (AX rfl (AC (BA (vO true) rfl rfl (AE (AB (AK true rfl rfl (fun _=>AG (AD kR (AC (AH (vO false) rfl (AC (AH (vI 1) rfl (AE (AB (AS (AN (AZ rfl (HT rfl rfl rfl rfl) (?_)))))))))))) (fun h=>by cases h))))))))))))))
 have d1:((BY l copies first device copy).1)=false:=by exact congrArg (fun p=>p.1) (show BY l copies first device copy=_ from MM aS (.inl aS))
 have d2:((BY l copies first device copy).2)=(1:Int):=by exact congrArg (fun p=>p.2) (show BY l copies first device copy=_ from MM aS (.inl aS))
 exact ⟨_,rfl,a2.keep,by rw [d1,d2];exact rfl⟩
open Go.Fw Go.RowKit
set_option maxHeartbeats 4000000 in
set_option maxRecDepth 100000 in
theorem MJ {O:List Nat} (l_v:Value) (l:List DeviceOp) (w:World) (a0:CI Enc.devop w O l_v l) (hpre0:l.length≤1000000) (hO:∀ b∈O,b<w.heap.size):CF Try.prog 56 [l_v] w (fun v w'=>∃ (x0:Value),v=x0∧(∀ b,x0.ownBlock=some b→w.heap.size≤b)∧DM Enc.devop 40 w.heap.size (x0.ownBlock.toList++(O)) w' x0 (l)):= by
 have b8:=a0.len_le
 have a0:CI Enc.devop w ([]++O) l_v l:=a0
 have s0:St w O w []:=St.start hO
 refine BS 8 Try.func56 rfl rfl oT (fun F0=>AG (AD kR (AC (AH (nS) rfl (AE (AB (AG (AG (AD kR (AC (AF (l_v) rfl (AC (o_eqlNilR U26_ rfl rfl a0 fun a1 a7=>(AE (AB (AK (a1) rfl rfl (fun a2=>?_) (fun a2=>?_)))))))))))))))))
 ·have b9:a1=true:=by simpa using a2
  refine AG (AD kR (AC (AH (nS) rfl (AE (AB (AS (AN (AZ rfl (CX rfl rfl rfl) (?_)))))))))
  have a3:l=[]:=a7 aS
  have c2:CI Enc.devop w ([]++O) (.slice none 0 0) (l):=by rw [a3];exact CI.nil _ _ _
  exact ⟨_,rfl,s0.keep,⟨.slice none 0 0,rfl,(fun b hb=>by simp [Value.ownBlock] at hb),(by rw [a3];exact DM.nil _ _ _ _ _)⟩⟩
 have c3:a1=false:=by simpa using a2
 refine AT (AB (AG (AD kR (AC (PO (E:=Enc.devop) (xs:=[]) U26_ BX HC (by decide) [] [] [] rfl rfl rfl (Parts.nil _ _ _) oT s0 fun b2 b3 c5 b4 a4 b5 b6 c6 b0=>(?_))))))
 have b1:∀ b,b2.ownBlock=some b→b∈(b3 :: []):=fun b hb=>by rw [a4] at hb;cases hb;simp
 clear b4 a4
 have a0:=a0.mv b6
 refine AC (AF (l_v) rfl (AC (CT (E:=Enc.devop) (l:=[]) (m:=l) U26_ OB rfl (by decide) rfl rfl b0 a0 (fun _ hb=>.inl hb) b1 (by simp;omega) (by simp [maxLen];omega) b5 fun a8 c7 c8 a5 c4 b7 a9 c9 d0 a6=>(?_))))
 rw [List.nil_append] at a6
 refine AC (AH (a8) rfl (AE (AB (AS (AZ rfl (CX rfl rfl rfl) (?_))))))
 exact ⟨_,rfl,a9.keep,⟨a8,rfl,(fun b hb=>(a9.new b (a5 b hb)).1),(a6.sub (fun x hx=>.inl ((List.mem_append.1 hx).elim (fun h=>List.mem_append_left _ (a5 x (by simpa using h))) (fun h=>List.mem_append_right _ h))))⟩⟩
set_option maxHeartbeats 4000000 in
set_option maxRecDepth 100000 in
theorem c_add {O:List Nat} (l_v:Value) (l:List DeviceOp) (o_cs:List Value) (o:DeviceOp) (w:World) (a1:CI Enc.devop w O l_v l) (m2:Enc.devop.rd w O o_cs o) (hO:∀ b∈O,b<w.heap.size):CF Try.prog 23 [l_v, .agg o_cs.toArray] w (fun v w'=>∃ (x0:Value),v = .tuple #[x0,vI ((CQ l o).2)]∧CI Enc.devop w' (O) x0 ((CQ l o).1)):= by
 have m4:=a1.len_le
 have a1:CI Enc.devop w ([]++O) l_v l:=a1
 obtain rfl:=m2
 have s0:St w O w []:=St.start hO
 refine BS 39 Try.func23 rfl rfl oT (fun F0=>AG (AD kR (AC (DG (E:=Enc.devop) (vA #[vI o.device,vI o.no,vI o.kind,vI o.copy,vI o.to,vI o.token]) ([vI o.device,vI o.no,vI o.kind,vI o.copy,vI o.to,vI o.token]) o rfl rfl rfl s0 fun b9 i3 e4 i4 o4 a0=>(?_)))))
 have a1:=a1.mv i4
 refine AC (AH (nS) rfl (AC (AH (vI 0) rfl (AE (AB (AG (AG (AD kR (AC (AF (l_v) rfl (AC (BI (vs:=[l_v]) KG (IV (O:=[]++O) l_v l i3 a1 e4.lt) rfl e4 fun o5 i5 d3 e5 o6 i6=>(?_)))))))))))))
 obtain rfl:=i6
 have a1:=a1.mv e5
 have a0:=a0.mv e5
 refine AC (DX .i64 (BR l) (0:Int) rfl rfl (AC (AF (vO ((BR l) != (0:Int))) rfl (?_))))
 cases d8:((BR l) != (0:Int))
 ·have f7:BR l=(0:Int):=by simpa using d8
  have hchk:BR l=0:=f7
  have hchk_1:=(IZ hchk).1
  refine BH rfl (BT U40_ rfl BX rfl a0 fun m5 f8=>(?_))
  obtain rfl:=f8
  refine BH rfl (BI (vs:=[vA #[vI o.device,vI o.no,vI o.kind,vI o.copy,vI o.to,vI o.token]]) MK (OI (O:=[]++O) [vI o.device,vI o.no,vI o.kind,vI o.copy,vI o.to,vI o.token] o i5 rfl d3.lt) rfl d3 fun o7 i7 d4 e6 o8 i8=>(?_))
  obtain rfl:=i8
  have a1:=a1.mv e6
  have a0:=a0.mv e6
  refine BH rfl (EI (BV o) rfl (AC (BM (vO (!(BV o))) rfl rfl (AE (AB (AK (!(BV o)) rfl rfl (fun c3=>?_) (fun c3=>?_)))))))
  ·have m6:(BV o)=false:=by simpa using c3
   refine AG (AD kR (AC (AH (nS) rfl (AC (AH (vI 420) rfl (AE (AB (AS (AN (AZ rfl (HT rfl rfl rfl rfl) (?_)))))))))))
   have i9:((CQ l o).1)=([]):=by exact congrArg (fun p=>p.1) (show CQ l o=_ from add_2 aS)
   have j0:((CQ l o).2)=(420:Int):=by exact congrArg (fun p=>p.2) (show CQ l o=_ from add_2 aS)
   exact ⟨_,rfl,d4.keep,by rw [i9,j0];exact ⟨.slice none 0 0,rfl,CI.nil _ _ _⟩⟩
  have m7:(BV o)=true:=by simpa using c3
  refine AT (AB (AG (AG (AD kR (AC (AF (l_v) rfl (AC (BT U40_ rfl BX rfl a0 fun m8 f9=>(?_)))))))))
  obtain rfl:=f9
  refine AC (BI (vs:=[l_v,vA #[vI o.device,vI o.no,vI o.kind,vI o.copy,vI o.to,vI o.token]]) enter_55 (c_containsD (O:=[]++O) l_v l [vI o.device,vI o.no,vI o.kind,vI o.copy,vI o.to,vI o.token] o i7 a1 rfl d4.lt) rfl d4 fun o9 e7 c2 e8 p0 j1=>(?_))
  obtain rfl:=j1
  have a1:=a1.mv e8
  have a0:=a0.mv e8
  refine AE (AB (AK (l.contains o) rfl rfl (fun c4=>?_) (fun c4=>?_)))
  ·have m9:(l.contains o)=true:=by simpa using c4
   refine AG (AD kR (AC (AF (l_v) rfl (AC (BI (vs:=[l_v]) LT (MJ (O:=[]++O) l_v l e7 a1 oM c2.lt) rfl c2 fun e9 p1 j2 p2 p3 j3=>(?_))))))
   obtain ⟨_,rfl,g0,b3⟩:=j3
   have b3:=b3.rd (O':=[]++O) (fun x hx=>.inl (List.mem_append_right _ hx)) (fun c hc hx=>by have:=g0 c hc;have:=c2.lt c hx;omega)
   have:=b3.len_le
   refine AC (AH (e9) rfl (AC (AH (vI 0) rfl (AE (AB (AS (AN (AZ rfl (HT rfl rfl rfl rfl) (?_)))))))))
   have j4:((CQ l o).1)=l:=by exact congrArg (fun p=>p.1) (show CQ l o=_ from add_3 aS aS aS)
   have j5:((CQ l o).2)=(0:Int):=by exact congrArg (fun p=>p.2) (show CQ l o=_ from add_3 aS aS aS)
   exact ⟨_,rfl,j2.keep,by rw [j4,j5];exact ⟨e9,rfl,b3.out⟩⟩
  have n0:(l.contains o)=false:=by simpa using c4
  refine AT (AB (AG (AG (AD kR (AC (AF (l_v) rfl (AC (EX (first:=[]) (captured:=[.tmp 3]) [] [vP (some b9)] rfl rfl (AC (BI (vs:=[l_v,vN (.func 58) #[] #[vP (some b9)]]) enter_57 (NW (O:=[]++O) l_v l 58 [vP (some b9)] (fun x_=>DH x_ == DH o) e7 a1 enter_58 (fun w'_ O'_ kk_ hs_ hl_ x__cs x_ hr_x_ =>c_add1 (O:=O'_) x__cs x_ b9 o w'_ hr_x_ (a0.on hs_ kk_) hl_) c2.lt) rfl c2 fun p4 j6 c5 f0 p5 j7=>(?_)))))))))))
  obtain rfl:=j7
  have a1:=a1.mv f0
  have a0:=a0.mv f0
  refine AE (AB (AK (l.any (fun x_=>DH x_ == DH o)) rfl rfl (fun c6=>?_) (fun c6=>?_)))
  ·have n1:(l.any (fun x_=>DH x_ == DH o))=true:=by simpa using c6
   refine AG (AD kR (AC (AH (nS) rfl (AC (AH (vI 420) rfl (AE (AB (AS (AN (AZ rfl (HT rfl rfl rfl rfl) (?_)))))))))))
   have j8:((CQ l o).1)=([]):=by exact congrArg (fun p=>p.1) (show CQ l o=_ from add_4 aS aS aS aS)
   have j9:((CQ l o).2)=(420:Int):=by exact congrArg (fun p=>p.2) (show CQ l o=_ from add_4 aS aS aS aS)
   exact ⟨_,rfl,c5.keep,by rw [j8,j9];exact ⟨.slice none 0 0,rfl,CI.nil _ _ _⟩⟩
  have n3:(l.any (fun x_=>DH x_ == DH o))=false:=by simpa using c6
  refine AT (AB (AG (AG (AD kR (AC (AF (l_v) rfl (AC (DS U26_ rfl a1 (AC (DC .i64 (l.length:Int) (256:Int) rfl rfl (AE (AB (AK ((l.length:Int) == (256:Int)) rfl rfl (fun c7=>?_) (fun c7=>?_))))))))))))))
  ·have n5:(l.length:Int)=(256:Int):=by simpa using c7
   refine AG (AD kR (AC (AH (nS) rfl (AC (AH (vI 2) rfl (AE (AB (AS (AN (AZ rfl (HT rfl rfl rfl rfl) (?_)))))))))))
   have k5:((CQ l o).1)=([]):=by exact congrArg (fun p=>p.1) (show CQ l o=_ from add_5 aS aS aS aS aS)
   have k6:((CQ l o).2)=(2:Int):=by exact congrArg (fun p=>p.2) (show CQ l o=_ from add_5 aS aS aS aS aS)
   exact ⟨_,rfl,c5.keep,by rw [k5,k6];exact ⟨.slice none 0 0,rfl,CI.nil _ _ _⟩⟩
  have n6:(l.length:Int)≠(256:Int):=by simpa using c7
  refine AT (AB (AG (AD kR (AC (AF (l_v) rfl (AC (BT U40_ rfl BX rfl a0 fun n7 g1=>(?_))))))))
  obtain rfl:=g1
  refine AC (BI (vs:=[l_v,vA #[vI o.device,vI o.no,vI o.kind,vI o.copy,vI o.to,vI o.token],vN (.func 61) #[] #[]]) enter_60 (c_bsF (O:=[]++O) l_v l [vI o.device,vI o.no,vI o.kind,vI o.copy,vI o.to,vI o.token] o 61 [] (fun x_ y_=>DE x_ y_) j6 a1 rfl OW (fun w'_ O'_ kk_ hs_ hl_ x__cs x_ y__cs y_ hr_x_ hr_y_ =>NG (O:=O'_) x__cs x_ y__cs y_ w'_ hr_x_ hr_y_ hl_) (check_mono hchk o) oM c5.lt) rfl c5 fun p6 a2 c8 f1 p7 k7=>(?_))
  obtain rfl:=k7
  have a1:=a1.mv f1
  have a0:=a0.mv f1
  refine AC (AF (vT #[vI ((PM l o (fun x_ y_=>DE x_ y_):Nat):Int),vO (bsG l o (fun x_ y_=>DE x_ y_))]) rfl (AC (BD (vI ((PM l o (fun x_ y_=>DE x_ y_):Nat):Int)) rfl rfl (AC (BD (vO (bsG l o (fun x_ y_=>DE x_ y_))) rfl rfl (AC (AH (vI ((PM l o (fun x_ y_=>DE x_ y_):Nat):Int)) rfl (AC (AH (vO (bsG l o (fun x_ y_=>DE x_ y_))) rfl (AE (AB (AG (cw_drawU 5 _ _ [fun _=>fun (vT:Value) (_:World)=>CI Enc.devop a2 ([]++O) vT (l),TOw a2 w.heap.size O Enc.devop 40 (l),fun _=>EK (vI ((PM l o (fun x_ y_=>DE x_ y_):Nat):Int)),fun _=>EK (vA #[vI o.device,vI o.no,vI o.kind,vI o.copy,vI o.to,vI o.token]),TOw a2 w.heap.size O Enc.devop 40 ([o])] [⟨0,[],[],[],false,[]⟩,⟨1,[],[],[],false,[0]⟩,⟨0,[],[],[],false,[]⟩,⟨0,[],[],[],false,[]⟩,⟨2,[],[],[],false,[3]⟩] ([]) kR kR kR kR kR rfl rfl ⟨fun _ _ _ _ _ h=>h,TOw.st,fun _ _ _ _ _ h=>h,fun _ _ _ _ _ h=>h,TOw.st,trivial⟩ ⟨?_,?_,?_,?_,?_,trivial⟩ ?_)))))))))))))
  ·intro F1 w1 B1_ Bs_ k1 hs_ hl_ hr_ hsep_ hf hd
   obtain ⟨F2,rfl⟩:=AY (F:=F1) [(0,l_v)] ⟨hf 0 kR,trivial⟩
   exact BB rfl ((AF (l_v) rfl (⟨[],(Keep.refl _ _),noC,a1⟩)))
  ·intro F1 w1 B1_ Bs_ k1 hs_ hl_ hr_ hsep_ hf hd
   have k0:=(Keep.drew [] a2).trans k1
   have s1:=c8.adoptL k0 hl_
   have m1:Mv ([]) a2 B1_ w1:=Mv.adoptL k0 hl_
   obtain ⟨d5,k8,b4⟩:∃ v,F1 33=v∧CI Enc.devop a2 ([]++O) v (l):=⟨_,rfl,hd 0 33 kR kR⟩
   have:=b4.len_le
   have b4:=b4.mv m1
   obtain ⟨F2,rfl⟩:=AY (F:=F1) [(33,d5)] ⟨k8,trivial⟩
   refine BB rfl ((BI (vs:=[d5]) LT (MJ (O:=B1_++O) d5 l w1 b4 oM s1.lt) rfl s1 fun p8 p9 q0 q1 k9 l0=>(?_)))
   obtain ⟨_,rfl,g2,g3⟩:=l0
   exact ⟨[],k9,noC,TOw.call k0.size (by have:=c8.keep.size;have:=k0.size;omega) (lt_of s1) g2 g3⟩
  ·intro F1 w1 B1_ Bs_ k1 hs_ hl_ hr_ hsep_ hf hd
   obtain ⟨F2,rfl⟩:=AY (F:=F1) [(6,vI ((PM l o (fun x_ y_=>DE x_ y_):Nat):Int))] ⟨hf 6 kR,trivial⟩
   exact BB rfl ((AF (vI ((PM l o (fun x_ y_=>DE x_ y_):Nat):Int)) rfl (⟨[],(Keep.refl _ _),noC,rfl⟩)))
  ·intro F1 w1 B1_ Bs_ k1 hs_ hl_ hr_ hsep_ hf hd
   have k0:=(Keep.drew [] a2).trans k1
   obtain ⟨F2,rfl⟩:=AY (F:=F1) [(3,vP (some b9))] ⟨hf 3 kR,trivial⟩
   refine BB rfl ((o_loadSU U40_ rfl BX rfl a0 k0 fun n9 g4=>(?_)))
   obtain rfl:=g4
   exact ⟨[],(Keep.refl _ _),noC,rfl⟩
  ·intro F1 w1 B1_ Bs_ k1 hs_ hl_ hr_ hsep_ hf hd
   have k0:=(Keep.drew [] a2).trans k1
   have s1:=c8.adoptL k0 hl_
   obtain ⟨F2,rfl⟩:=AY (F:=F1) [(36,vA #[vI o.device,vI o.no,vI o.kind,vI o.copy,vI o.to,vI o.token])] ⟨hd 3 36 kR kR,trivial⟩
   refine BB rfl ((PO (E:=Enc.devop) (xs:=[.tmp 36]) U26_ BX HC (by decide) [.agg #[vI o.device,vI o.no,vI o.kind,vI o.copy,vI o.to,vI o.token]] [[vI o.device,vI o.no,vI o.kind,vI o.copy,vI o.to,vI o.token]] [o] rfl rfl rfl (Parts.cons rfl rfl (Parts.nil _ _ _)) oT s1 fun q2 f2 q3 q4 d9 q5 q6 l1 e0=>(?_)))
   have g5:a2.heap.size≤f2:=by have:=k0.size;omega
   have o0:=(e0.lt f2 d9).2
   exact ⟨[],l1,noC,TOw.one d9 g5 (by intro h;have:=lt_of s1 _ h;omega) e0⟩
  intro d6 a7 a5 l2 c9 g6 b0 b5 b6
  obtain ⟨a3,l3,b7,b8⟩:∃ v,d6 34=v∧(TOw a2 w.heap.size O Enc.devop 40 (l)) (a5 1) v a7:=⟨_,rfl,b5 1 34 kR (by decide) kR kR⟩
  have d0:∀ b,a3.ownBlock=some b→b<a7.heap.size:=fun b hb=>(b8.lt b hb).2
  obtain ⟨a4,l4,d1,b1⟩:∃ v,d6 37=v∧(TOw a2 w.heap.size O Enc.devop 40 ([o])) (a5 2) v a7:=⟨_,rfl,b5 4 37 kR (by decide) kR kR⟩
  have e2:∀ b,a4.ownBlock=some b→b<a7.heap.size:=fun b hb=>(b1.lt b hb).2
  have g7:∀ x∈([]:List Nat),x∈([]:List Nat)∨(a2.heap.size≤x∧x<a7.heap.size):=fun x hx=>.inl hx
  have f3:∀ x∈([]:List Nat),x∈([]:List Nat):=fun x hx=>hx
  have g8:∀ x∈([]:List Nat),x∈a5 1:=fun x hx=>c9 1 x hx
  have g9:∀ x∈([]:List Nat),x∈a5 2:=fun x hx=>c9 2 x hx
  obtain ⟨b2,a8⟩:∃ B_,B_=a3.ownBlock.toList++([]:List Nat):=⟨_,rfl⟩
  have h0:∀ x∈b2,x∈([]:List Nat)∨(a2.heap.size≤x∧x<a7.heap.size):=by rw [a8];exact own_l b7 d0 g7
  have f4:∀ x∈([]:List Nat),x∈b2:=fun x hx=>by rw [a8];exact List.mem_append_right _ (f3 x hx)
  have h4:∀ b,a3.ownBlock=some b→b∈b2:=fun b hb=>by rw [a8];exact List.mem_append_left _ (by simp [hb])
  have h5:∀ x∈b2,x∈a3.ownBlock.toList++a5 1:=by rw [a8];exact fun x hx=>(List.mem_append.1 hx).elim (List.mem_append_left _) (fun h=>List.mem_append_right _ (g8 x h))
  have h6:∀ x∈b2,x∈a5 2:=by rw [a8];exact own_q b7 d0 (fun b h1 h2 h3=>b0 1 2 b (by decide) h1 h2 h3) g9
  obtain ⟨a9,a6⟩:∃ B_,B_=a4.ownBlock.toList++b2:=⟨_,rfl⟩
  have h7:∀ x∈a9,x∈([]:List Nat)∨(a2.heap.size≤x∧x<a7.heap.size):=by rw [a6];exact own_l d1 e2 h0
  have m3:∀ x∈([]:List Nat),x∈a9:=fun x hx=>by rw [a6];exact List.mem_append_right _ (f4 x hx)
  have d2:∀ b,a4.ownBlock=some b→b∈a9:=fun b hb=>by rw [a6];exact List.mem_append_left _ (by simp [hb])
  have h8:∀ b,a3.ownBlock=some b→b∈a9:=fun b hb=>by rw [a6];exact List.mem_append_right _ (h4 b hb)
  have h9:∀ x∈a9,x∈a3.ownBlock.toList++a5 1:=by rw [a6];exact own_q d1 e2 (fun b h1 h2 h3=>List.mem_append_right _ (b0 2 1 b (by decide) h1 h2 h3)) h5
  have i0:∀ x∈a9,x∈a4.ownBlock.toList++a5 2:=by rw [a6];exact fun x hx=>(List.mem_append.1 hx).elim (List.mem_append_left _) (fun h=>List.mem_append_right _ (h6 x h))
  have l5:=c8.adoptL l2 h7
  have e3:∀ b,a3.ownBlock=some b→a4.ownBlock≠some b:=fun b hb e=>(d1 b e).2 (b0 1 2 b (by decide) (b7 b hb).1 (d0 b hb) (b7 b hb).2)
  have b8:DM Enc.devop 40 w.heap.size (a9++O) a7 a3 (l):=b8.sub (fun x hx=>.inl ((List.mem_append.1 hx).elim (fun hx=>List.mem_append_left _ (h9 x hx)) (fun h=>List.mem_append_right _ h)))
  have b1:DM Enc.devop 40 w.heap.size (a9++O) a7 a4 ([o]):=b1.sub (fun x hx=>.inl ((List.mem_append.1 hx).elim (fun hx=>List.mem_append_left _ (i0 x hx)) (fun h=>List.mem_append_right _ h)))
  obtain ⟨F2,rfl⟩:=AY (F:=d6) [(4,nS),(5,vI 0),(39,undef),(34,a3),(35,vI ((PM l o (fun x_ y_=>DE x_ y_):Nat):Int)),(37,a4)] ⟨b6 4 kR,b6 5 kR,b6 39 kR,l3,b5 2 35 kR (by decide) kR kR,l4,trivial⟩
  clear b5 b6 c9 g6 b0
  refine AC (o_callX [a3,vI ((PM l o (fun x_ y_=>DE x_ y_):Nat):Int),a4] enter_62 rfl (Calls.mono (c_insertD a3 a4 l ([o]) (PM l o (fun x_ y_=>DE x_ y_)) l5 b8 b1 h8 d2 e3 (by simp) (tw2_le _ _ _) (by simp only [List.length_cons,List.length_nil];omega) (by simp only [List.length_cons,List.length_nil,maxLen];omega)) (fun e_ q7 hR_=>?_)))
  obtain ⟨d7,l6,rfl,o1,i1,f5,f6,q8,q9,i2⟩:=hR_
  refine both_r ?_
  have o2:∀ b,a4.ownBlock=some b→d7.ownBlock≠some b:=fun b hb e=>(i1 b e).elim (fun e1=>((fun b hb e=>e3 b e hb) b hb e1)) (fun e1=>by have:=(b1.lt b hb).2;omega)
  have d2:∀ b,a4.ownBlock=some b→b∈l6:=fun b hb=>f5 b (d2 b hb)
  refine AC (AH (d7) rfl (AC (AH (vI 0) rfl (AE (AB (AS (AZ rfl (HT rfl rfl rfl rfl) (?_))))))))
  have l7:((CQ l o).1)=(l.take (PM l o (fun x_ y_=>DE x_ y_))++([o])++l.drop (PM l o (fun x_ y_=>DE x_ y_))):=by exact congrArg (fun p=>p.1) (show CQ l o=_ from add_6 aS aS aS aS aS)
  have l8:((CQ l o).2)=(0:Int):=by exact congrArg (fun p=>p.2) (show CQ l o=_ from add_6 aS aS aS aS aS)
  exact ⟨_,rfl,f6.keep,by rw [l7,l8];exact ⟨d7,rfl,i2.pub f6⟩⟩
 have o3:BR l≠(0:Int):=by simpa using d8
 refine AX rfl (AX rfl (AX rfl (AC (BA (vO true) rfl rfl (AE (AB (AK true rfl rfl (fun _=>AG (AD kR (AC (AH (nS) rfl (AC (AH (vI 420) rfl (AE (AB (AS (AN (AZ rfl (HT rfl rfl rfl rfl) (?_)))))))))))) (fun h=>by cases h))))))))
 have l9:((CQ l o).1)=([]):=by exact congrArg (fun p=>p.1) (show CQ l o=_ from add_1 aS)
 have m0:((CQ l o).2)=(420:Int):=by exact congrArg (fun p=>p.2) (show CQ l o=_ from add_1 aS)
 exact ⟨_,rfl,d3.keep,by rw [l9,m0];exact ⟨.slice none 0 0,rfl,CI.nil _ _ _⟩⟩
end Go.Proofs.Ytjpniibleelgiaa
namespace Go.Fw
open Go.RowKit
section
variable {P:Program} {ro:Option Nat} {n:Nat} {Q:Exit→Fr→World→Prop} {F:Fr} {w:World}
def CWr (P:Program) (ro:Option Nat) (n:Nat) (c:Code) (Q:Exit→Fr→World→Prop):Nat→Fr→World→Prop
  | 0,_,_=>False
  | m+1,F,w=>CW P (ro:=ro) n c (FQ (CWr P ro n c Q m) Q) F w
theorem cw_unroll {c:Code} (m:Nat) (h:CWr P ro n c Q m F w):CW P (ro:=ro) n (.loop c) Q F w:=by
  refine ED (fun m F w=>CWr P ro n c Q m F w) m h fun m F w h=>?_
  cases m with
  | zero=>exact h.elim
  | succ m=>exact CW.mono h fun e F w hq=>by cases e <;> first|exact ⟨m,Nat.lt_succ_self m,hq⟩|exact hq
theorem JB {c:Code} {m:Nat} (h:CW P (ro:=ro) n c (FQ (CWr P ro n c Q m) Q) F w):CWr P ro n c Q (m+1) F w:=h
end
section
variable {P:Program}
theorem wl_yT {ops rest:List Oper} {Q:Exit→Fr→World→Prop} {F:Fr} {w:World} {d:Tmp} {ty:TypeId} {pos:String} {af:Array Edge} {xf:Operand} {xs:List Operand} {ats:Array TypeId} {j:Nat} {b:Bool} (hg:BQ ops F j=some b) (l:Nat) (vs:List Value)
    (hf:CK F xf = .func (.yield l) #[] #[]) (hv:xs.map (CK F)=vs) (hy:KN P l vs w (fun v w'=>WL true P ops Q rest (DN F d v) w')) :
    WL true P ops Q (⟨some d, .call { callee:=.value xf,args:=xs.toArray,argTypes:=ats },ty,pos,af,some (j,b)⟩ :: rest) F w:=by
  unfold WL
  rw [if_pos (by simp [Region.wanted,hg])]
  refine .inr ⟨rfl,?_⟩
  unfold RoundW
  obtain ⟨fn,tmps,assign,body,h1,h2⟩:=hy
  have:(execOp (CK F) ⟨none, .call { callee:=.value xf,args:=xs.toArray,argTypes:=ats },ty,"",#[],none⟩).run P w = .ok (.round l fn tmps assign body) w:=by
    simp [execOp,resolve,Deferred.ofValue,invoke,hf,hv,h1]
  rw [this]
  exact h2.mono fun e w' ⟨v,he,hk⟩=>by subst he;exact hk
end
section
variable {P:Program} {t yt ty:TypeId} {x y:Operand} {F:Fr} {w:World} {K:Value→World→Prop} {Z:List PanicEntry→World→Prop}
theorem DY (a b:UInt8) (hb:b.toNat≠0) (hx:CK F x=vB a) (hy:CK F y=vB b) (h:K (vB (a % b)) w):CR P (.binOp .rem t x y yt) ty F w K Z:=
  o_rem .u8 (a.toNat:Int) (b.toNat:Int) ((a % b).toNat:Int) hx hy (by omega) (by rw [UInt8.toNat_mod];exact (Int.ofNat_tmod _ _).symm) h
end
def Enc.cells (n:Nat):Enc (List Value) where
  size:=n
  rd:=fun _ _ cs x=>cs=x∧x.length=n∧∀ u∈x,u.oneCell'=true
  len:=fun h=>h.1 ▸ h.2.1
  one:=fun h u hu=>h.2.2 u (h.1 ▸ hu)
  mv:=fun h _=>h
  sub:=fun h _=>h
end Go.Fw
namespace Go.Proofs.Ytjpniibleelgiaa
open Go.Fw
section
variable {α:Type} [DecidableEq α] {l m:List α}
variable [Inhabited α]
end
open Go.Fw
theorem mem_idx {l:List DeviceOp} {k:Nat} (hk:k<l.length):l[k]!∈l:=by rw [getElem!_pos l k hk];exact List.getElem_mem hk
section
variable {a b c:List DeviceOp}
end
section
variable {l:List DeviceOp} {copies first:Int} {o:DeviceOp} {k:Nat}
theorem st_at (h:(AI l copies first).2=0) (hk:k<copies.toNat):(AI l copies first).1[k]! = DI l first (k:Int):=by rw [(PW h).1,holdsM_at hk]
theorem st_of (hl:MA l) (h1:0≤copies) (h2:copies≤1024) (h3:CN first=true):(AI l copies first).2=0:=by rw [OM ((CZ l).2 hl) h1 h2 h3]
theorem cmp_tok {a b:DeviceOp} (h:a.copy=b.copy) (h2:a.token<b.token):DE a b<0:=by
  rw [JV]
  unfold KF JZ
  rw [if_neg (by omega),if_neg (by omega)]
  unfold JZ
  rw [if_pos h2];decide
theorem nx_tok (h:(AI l copies first).2=0) (hk:k<copies.toNat):0≤(AI l copies first).1[k]!.token∧(AI l copies first).1[k]!.token≤65536:=by
  rw [st_at h hk,LK];exact QH (fun x hx=>(PW h).2.1.2.1 x hx) _ _
section
variable (h:(AI l copies first).2=0) (ha:(CQ l o).2=0) (hc:o.copy<copies) (ht:∀ q,q<l.length→¬ (l[q]!.copy=o.copy∧o.token≤l[q]!.token))
include h ha hc ht
end
end
section
variable {a b:List DeviceOp} {t:Nat}
end
open Go.Fw
def CB (d:Device):Bool:=(((decide (0≤d.id) && decide (d.id<4)) && decide (0≤d.counter)) && decide (d.counter≤65535)) && (BR d.ops == 0)
def GS (l:List DeviceOp) (id:Int) (k:Nat):Nat:=((l.take k).filter (fun o=>o.device == id)).length
def overD (d:Device):Bool:=d.ops.any (fun o=>(o.device == d.id) && decide (d.counter<o.no))
def CS (d:Device):Bool:=(CB d && !overD d) && (((GS d.ops d.id d.ops.length:Nat):Int) == d.counter)
def FT:Device:=⟨0,0,[],false⟩
def CP (id:Int):Device × Int:=if decide (id<0) || decide (4≤id) then (FT,1) else (⟨id,0,[],false⟩,0)
abbrev ES (l:List DeviceOp) (o:DeviceOp):Bool:=l.any (fun p=>(p.kind == 2) && (p.copy == o.copy))
def AV (d:Device) (o:DeviceOp) (crash:Int):Device × Int:=
  if !(decide (0≤crash) && decide (crash≤2)) then (FT,1) else if !CB d then (FT,420) else if d.halted || !CS d then (FT,430)
  else if !((o.device == d.id) && (o.no == d.counter+1)) then (FT,420) else if ES d.ops o then (FT,420)
  else if (CQ d.ops o).2 != 0 then (FT,(CQ d.ops o).2)
  else (⟨d.id,if 1≤crash then d.counter+1 else d.counter,if crash=2 then (CQ d.ops o).1 else d.ops,d.halted⟩,0)
def BE (d:Device):Device × Int:=if !CB d then (FT,420) else if d.halted || !CS d then (⟨d.id,d.counter,d.ops,true⟩,430) else (d,0)
def GH (d:Device) (l:List DeviceOp):Device:=⟨d.id,d.counter,l,d.halted⟩
section
variable {d:Device} {o:DeviceOp} {crash id copies first:Int}
theorem formed_b (h:CB d=true):0≤d.id∧d.id<4∧0≤d.counter∧d.counter≤65535:=by unfold CB at h;simp only [dbs] at h;omega
theorem formed_ok (h:CB d=true):BR d.ops=0:=by unfold CB at h;simp only [dbs] at h;exact h.2
theorem LC:CB d=true↔(0≤d.id∧d.id<4∧0≤d.counter∧d.counter≤65535)∧MA d.ops:=by
  unfold CB
  rw [← CZ]
  simp only [dbs]
  constructor
  · rintro ⟨⟨⟨⟨h1,h2⟩,h3⟩,h4⟩,h5⟩;exact ⟨⟨h1,h2,h3,h4⟩,h5⟩
  · rintro ⟨⟨h1,h2,h3,h4⟩,h5⟩;exact ⟨⟨⟨⟨h1,h2⟩,h3⟩,h4⟩,h5⟩
theorem cnt_zero (l:List DeviceOp) (id:Int):GS l id 0=0:=by simp [GS]
theorem cnt_lek (l:List DeviceOp) (id:Int) (k:Nat):GS l id k≤k:=by
  unfold GS
  exact Nat.le_trans (List.length_filter_le _ _) (by rw [List.length_take];omega)
theorem cnt_y {l:List DeviceOp} {k:Nat} (h:k<l.length) (e:l[k]!.device=id):GS l id (k+1)=GS l id k+1:=by
  unfold GS
  rw [JO h,List.filter_append,List.length_append]
  generalize l[k]! = x at e
  simp [e]
theorem cnt_n {l:List DeviceOp} {k:Nat} (h:k<l.length) (e:l[k]!.device≠id):GS l id (k+1)=GS l id k:=by
  unfold GS
  rw [JO h,List.filter_append,List.length_append]
  generalize l[k]! = x at e
  simp [e]
theorem whole_f (h:CB d=false):CS d=false:=by unfold CS;rw [h];rfl
theorem whole_over {k:Nat} (hk:k<d.ops.length) (e:d.ops[k]!.device=d.id) (h:d.counter<d.ops[k]!.no):CS d=false:=by
  have:overD d=true:=List.any_eq_true.2 ⟨_,mem_idx hk,by simp only [dbs];exact ⟨e,h⟩⟩
  unfold CS;rw [this];simp
theorem over_no (h:∀ q,q<d.ops.length→d.ops[q]!.device=d.id→d.ops[q]!.no≤d.counter):overD d=false:=by
  unfold overD
  rw [List.any_eq_false]
  intro x hx
  obtain ⟨i,hi,rfl⟩:=List.getElem_of_mem hx
  have:=h i hi
  rw [getElem!_pos d.ops i hi] at this
  simp only [dbs]
  rintro ⟨h1,h2⟩
  have:=this h1;omega
theorem whole_end (hf:CB d=true) (h:∀ q,q<d.ops.length→d.ops[q]!.device=d.id→d.ops[q]!.no≤d.counter):CS d=(((GS d.ops d.id d.ops.length:Nat):Int) == d.counter):=by
  unfold CS;rw [hf,over_no h];rfl
theorem own_step {l:List DeviceOp} {c:Int} {k:Nat} (h:∀ q,q<k→l[q]!.device=id→l[q]!.no≤c) (hk:l[k]!.device≠id∨l[k]!.no≤c):∀ q,q<k+1→l[q]!.device=id→l[q]!.no≤c:=by
  intro q hq e
  by_cases e2:q=k
  · subst e2;exact hk.elim (fun h=>absurd e h) (fun h=>h)
  · exact h q (by omega) e
theorem new_1 (h:id<0):CP id=(FT,1):=by unfold CP;rw [if_pos (by simp only [dbs];exact .inl h)]
theorem new_2 (h:4≤id):CP id=(FT,1):=by unfold CP;rw [if_pos (by simp only [dbs];exact .inr h)]
theorem OU (h:0≤id) (h2:id<4):CP id=(⟨id,0,[],false⟩,0):=by unfold CP;rw [if_neg (by simp only [dbs];omega)]
theorem act_1 (h:crash<0):AV d o crash=(FT,1):=by unfold AV;rw [if_pos (by simp;omega)]
theorem act_1' (h:2<crash):AV d o crash=(FT,1):=by unfold AV;rw [if_pos (by simp;omega)]
theorem NL (h:(decide (0≤crash) && decide (crash≤2))=false):AV d o crash=(FT,1):=by
  simp only [dbs] at h
  by_cases h0:0≤crash
  · exact act_1' (by omega)
  · exact act_1 (by omega)
section
variable (h1:0≤crash) (h2:crash≤2)
include h1 h2
theorem QK (h:CB d=false):AV d o crash=(FT,420):=by unfold AV;rw [if_neg (by simp;omega),if_pos (by rw [h];rfl)]
variable (hf:CB d=true)
include hf
theorem act_3a (h:d.halted=true):AV d o crash=(FT,430):=by unfold AV;rw [if_neg (by simp;omega),if_neg (by rw [hf];simp),if_pos (by rw [h];rfl)]
theorem act_3b (h:CS d=false):AV d o crash=(FT,430):=by unfold AV;rw [if_neg (by simp;omega),if_neg (by rw [hf];simp),if_pos (by rw [h];simp)]
theorem NO (h:(!d.halted && CS d)=false):AV d o crash=(FT,430):=by
  cases hh:d.halted with
  | true=>exact act_3a h1 h2 hf hh
  | false=>exact act_3b h1 h2 hf (by rw [hh] at h;exact h)
variable (hh:d.halted=false) (hw:CS d=true)
include hh hw
theorem act_4a (h:o.device≠d.id):AV d o crash=(FT,420):=by unfold AV;rw [if_neg (by simp;omega),if_neg (by rw [hf];simp),if_neg (by rw [hh,hw];simp),if_pos (by simp [h])]
theorem act_4b (h:o.no≠d.counter+1):AV d o crash=(FT,420):=by unfold AV;rw [if_neg (by simp;omega),if_neg (by rw [hf];simp),if_neg (by rw [hh,hw];simp),if_pos (by simp [h])]
theorem MT (h:((o.device == d.id) && (o.no == d.counter+1))=false):AV d o crash=(FT,420):=by
  simp only [dbs] at h
  by_cases hd:o.device=d.id
  · exact act_4b h1 h2 hf hh hw (h.resolve_left (fun h=>h hd))
  · exact act_4a h1 h2 hf hh hw hd
variable (hd:o.device=d.id) (hn:o.no=d.counter+1)
include hd hn
theorem QV (h:ES d.ops o=true):AV d o crash=(FT,420):=by unfold AV;rw [if_neg (by simp;omega),if_neg (by rw [hf];simp),if_neg (by rw [hh,hw];simp),if_neg (by simp [hd,hn]),if_pos h]
variable (hs:ES d.ops o=false)
include hs
theorem act_6 (h:(CQ d.ops o).2≠0):AV d o crash=(FT,(CQ d.ops o).2):=by unfold AV;rw [if_neg (by simp;omega),if_neg (by rw [hf];simp),if_neg (by rw [hh,hw];simp),if_neg (by simp [hd,hn]),if_neg (by rw [hs];simp),if_pos (by simpa using h)]
variable (ha:(CQ d.ops o).2=0)
include ha
theorem act_7:AV d o crash=(⟨d.id,if 1≤crash then d.counter+1 else d.counter,if crash=2 then (CQ d.ops o).1 else d.ops,d.halted⟩,0):=by unfold AV;rw [if_neg (by simp;omega),if_neg (by rw [hf];simp),if_neg (by rw [hh,hw];simp),if_neg (by simp [hd,hn]),if_neg (by rw [hs];simp),if_neg (by simpa using ha)]
theorem act_70 (h:crash<1):AV d o crash=(d,0):=by rw [act_7 h1 h2 hf hh hw hd hn hs ha,if_neg (by omega),if_neg (by omega)]
theorem act_71 (h:1≤crash) (h3:crash≠2):AV d o crash=(⟨d.id,d.counter+1,d.ops,d.halted⟩,0):=by rw [act_7 h1 h2 hf hh hw hd hn hs ha,if_pos h,if_neg h3]
theorem act_72 (h:crash=2):AV d o crash=(⟨d.id,d.counter+1,(CQ d.ops o).1,d.halted⟩,0):=by rw [act_7 h1 h2 hf hh hw hd hn hs ha,if_pos (by omega),if_pos h]
end
theorem start_1 (h:CB d=false):BE d=(FT,420):=by unfold BE;rw [if_pos (by rw [h];rfl)]
theorem KJ (hf:CB d=true) (h:d.halted=true∨CS d=false):BE d=(⟨d.id,d.counter,d.ops,true⟩,430):=by
  unfold BE;rw [if_neg (by rw [hf];simp),if_pos (by rcases h with h|h <;> rw [h] <;> simp)]
theorem start_3 (hf:CB d=true) (hh:d.halted=false) (hw:CS d=true):BE d=(d,0):=by
  unfold BE;rw [if_neg (by rw [hf];simp),if_neg (by rw [hh,hw];simp)]
end
open Go.Fw Go.RowKit
set_option maxHeartbeats 4000000 in
set_option maxRecDepth 100000 in
theorem PE {O:List Nat} (d_cs:List Value) (d:Device) (w:World) (a8:Enc.device.rd w O d_cs d) (hO:∀ b∈O,b<w.heap.size):CF Try.prog 79 [.agg d_cs.toArray] w (fun v _=>v = .bool (CB d)):= by
 have a8:Enc.device.rd w ([]++O) d_cs d:=a8
 have s0:St w O w []:=St.start hO
 refine BS 32 Try.func79 rfl rfl oT (fun F0=>AG (AD kR (AC (DG (E:=Enc.device) (vA d_cs.toArray) (d_cs) d rfl rfl a8 s0 fun c7 b4 a1 c8 c9 a0=>(AC (AH (vO false) rfl (AE (AB (AG (AD kR (AC (FA CY rfl (AC (AP 0 f_31_0 (d.id) rfl a0 (fun _ _ _ h=>HJ h) fun d0 a9=>(AC (BJ U3_ rfl rfl a9 (AC (JS .i64 d.id (0:Int) rfl rfl (AC (AF (vO (decide ((0:Int)≤d.id))) rfl (?_)))))))))))))))))))))
 cases a2:(decide ((0:Int)≤d.id))
 ·have b7:d.id<(0:Int):=by simpa using a2
  refine AX rfl (AX rfl (AX rfl (AX rfl (AC (BM (vO false) rfl rfl (AC (AF (vO false) rfl (AX rfl (AX rfl (AX rfl (AX rfl (AC (BM (vO false) rfl rfl (AC (AF (vO false) rfl (AX rfl (AX rfl (AX rfl (AX rfl (AC (BM (vO false) rfl rfl (AC (AF (vO false) rfl (AX rfl (AX rfl (AX rfl (AX rfl (AX rfl (AC (BM (vO false) rfl rfl (AC (AH (vO false) rfl (AE (AB (AS (AZ rfl (CX rfl rfl rfl) (?_)))))))))))))))))))))))))))))))))))))
  have e:(CB d)=false:=by simp [CB, *]
  exact ⟨_,rfl,a1.keep,(by exact congrArg vO e.symm)⟩
 have b8:(0:Int)≤d.id:=by simpa using a2
 refine BH rfl (FA CY rfl (BH rfl (AP 0 f_31_0 (d.id) rfl a0 (fun _ _ _ h=>HJ h) fun d1 b0=>(BH rfl (BJ U3_ rfl rfl b0 (BH rfl (DR .i64 d.id (4:Int) rfl rfl (AC (BA (vO (decide (d.id<(4:Int)))) rfl rfl (AC (AF (vO (decide (d.id<(4:Int)))) rfl (?_))))))))))))
 cases a3:(decide (d.id<(4:Int)))
 ·have b9:(4:Int)≤d.id:=by simpa using a3
  refine AX rfl (AX rfl (AX rfl (AX rfl (AC (BM (vO false) rfl rfl (AC (AF (vO false) rfl (AX rfl (AX rfl (AX rfl (AX rfl (AC (BM (vO false) rfl rfl (AC (AF (vO false) rfl (AX rfl (AX rfl (AX rfl (AX rfl (AX rfl (AC (BM (vO false) rfl rfl (AC (AH (vO false) rfl (AE (AB (AS (AZ rfl (CX rfl rfl rfl) (?_)))))))))))))))))))))))))))))
  have e:(CB d)=false:=by simp [CB, *]
  exact ⟨_,rfl,a1.keep,(by exact congrArg vO e.symm)⟩
 have c2:d.id<(4:Int):=by simpa using a3
 refine BH rfl (FA CY rfl (BH rfl (AP 1 IG (d.counter) rfl a0 (fun _ _ _ h=>DQ h) fun d2 b1=>(BH rfl (BJ U3_ rfl rfl b1 (BH rfl (JS .i64 d.counter (0:Int) rfl rfl (AC (BA (vO (decide ((0:Int)≤d.counter))) rfl rfl (AC (AF (vO (decide ((0:Int)≤d.counter))) rfl (?_))))))))))))
 cases a4:(decide ((0:Int)≤d.counter))
 ·have c3:d.counter<(0:Int):=by simpa using a4
  refine AX rfl (AX rfl (AX rfl (AX rfl (AC (BM (vO false) rfl rfl (AC (AF (vO false) rfl (AX rfl (AX rfl (AX rfl (AX rfl (AX rfl (AC (BM (vO false) rfl rfl (AC (AH (vO false) rfl (AE (AB (AS (AZ rfl (CX rfl rfl rfl) (?_)))))))))))))))))))))
  have e:(CB d)=false:=by simp [CB, *]
  exact ⟨_,rfl,a1.keep,(by exact congrArg vO e.symm)⟩
 have c4:(0:Int)≤d.counter:=by simpa using a4
 refine BH rfl (FA CY rfl (BH rfl (AP 1 IG (d.counter) rfl a0 (fun _ _ _ h=>DQ h) fun d3 b2=>(BH rfl (BJ U3_ rfl rfl b2 (BH rfl (o_leq .i64 d.counter (65535:Int) rfl rfl (AC (BA (vO (decide (d.counter≤(65535:Int)))) rfl rfl (AC (AF (vO (decide (d.counter≤(65535:Int)))) rfl (?_))))))))))))
 cases a5:(decide (d.counter≤(65535:Int)))
 ·have c5:(65535:Int)<d.counter:=by simpa using a5
  refine AX rfl (AX rfl (AX rfl (AX rfl (AX rfl (AC (BM (vO false) rfl rfl (AC (AH (vO false) rfl (AE (AB (AS (AZ rfl (CX rfl rfl rfl) (?_)))))))))))))
  have e:(CB d)=false:=by simp [CB, *]
  exact ⟨_,rfl,a1.keep,(by exact congrArg vO e.symm)⟩
 have c6:d.counter≤(65535:Int):=by simpa using a5
 refine BH rfl (FA CY rfl (BH rfl (AP 2 EQ (d.ops) rfl a0 (fun _ _ _ h=>BL h) fun d4 b3=>(BH rfl (OD U26_ rfl rfl b3 fun a7 a6=>(?_))))))
 have:=a6.len_le
 refine BH rfl (BI (vs:=[a7]) KG (IV (O:=[]++O) a7 d.ops b4 a6 a1.lt) rfl a1 fun d5 d6 b5 d7 d8 b6=>(?_))
 obtain rfl:=b6
 refine BH rfl (DC .i64 (BR d.ops) (0:Int) rfl rfl (AC (BA (vO ((BR d.ops) == (0:Int))) rfl rfl (AC (AH (vO ((BR d.ops) == (0:Int))) rfl (AE (AB (AS (AZ rfl (CX rfl rfl rfl) (?_))))))))))
 have e:(CB d)=((BR d.ops) == (0:Int)):=by simp [CB, *]
 exact ⟨_,rfl,b5.keep,(by exact congrArg vO e.symm)⟩
set_option maxHeartbeats 4000000 in
set_option maxRecDepth 100000 in
theorem c_whole {O:List Nat} (d_cs:List Value) (d:Device) (w:World) (b6:Enc.device.rd w O d_cs d) (hO:∀ b∈O,b<w.heap.size):CF Try.prog 81 [.agg d_cs.toArray] w (fun v _=>v = .bool (CS d)):= by
 have b6:Enc.device.rd w ([]++O) d_cs d:=b6
 have s0:St w O w []:=St.start hO
 refine callsK_ofM 24 Try.func81 rfl rfl oT (fun F0=>AG (AD kR (AC (DG (E:=Enc.device) (vA d_cs.toArray) (d_cs) d rfl rfl b6 s0 fun l4 l5 l6 l7 q2 a2=>(?_)))))
 have b6:Enc.device.rd l5 ([]++O) d_cs (d):=Enc.mv Enc.device (x:=d) b6 l7
 refine AC (CC [vO false] z_4 rfl l6 fun a8 h2 l8 h3 h4 q3 a1=>(?_))
 clear l8
 have b6:Enc.device.rd h2 ((a8 :: [])++O) d_cs (d):=Enc.mv Enc.device (x:=d) b6 h4
 have a2:=a2.mv h4
 refine AE (AB (AG (AG (AD kR (AC (BT U112_ rfl NX rfl a2 fun b7 a5=>(AC (BI (vs:=[vA b7.toArray]) OP (PE (O:=(a8 :: [])++O) b7 d h2 a5 h3.lt) rfl h3 fun q4 h5 h6 f8 l9 m0=>(?_)))))))))
 obtain rfl:=m0
 have b6:Enc.device.rd h5 ((a8 :: [])++O) d_cs (d):=Enc.mv Enc.device (x:=d) b6 f8
 have a2:=a2.mv f8
 have a5:Enc.device.rd h5 ((a8 :: [])++O) b7 (d):=Enc.mv Enc.device (x:=d) a5 f8
 have a1:=a1.keep l9 (by simp)
 refine AC (EI (CB d) rfl (AE (AB (AK (!(CB d)) rfl rfl (fun f1=>?_) (fun f1=>?_)))))
 ·have p2:(CB d)=false:=by simpa using f1
  refine AG (AD kR (BK (BP (vO false) rfl rfl rfl s_4 (by repeat (constructor)) a1 oT h6 fun q5 m1 q6 q7 i7=>(AE (AB (AS (AN (endM_r rfl (resc rfl rfl U4_ rfl rfl i7 rfl) (?_)))))))))
  have e:(CS d)=false:=by exact whole_f aS
  exact ⟨_,rfl,m1.keep,(by exact congrArg vO e.symm)⟩
 have p3:(CB d)=true:=by simpa using f1
 refine AT (AB (AG (AD kR (AC (CC [vI 0] z_3 rfl h6 fun b3 h7 m2 m3 f9 m4 i8=>(?_))))))
 have g7:DB a8 b3:=by show a8≠b3;have:=a1.lt;omega
 clear m2
 have b6:Enc.device.rd h7 ((b3 :: (a8 :: []))++O) d_cs (d):=Enc.mv Enc.device (x:=d) b6 f9
 have a2:=a2.mv f9
 have a5:Enc.device.rd h7 ((b3 :: (a8 :: []))++O) b7 (d):=Enc.mv Enc.device (x:=d) a5 f9
 have a1:=a1.keep m4 (by simp)
 refine BK (BP (vI 0) rfl rfl rfl s_3 (by repeat (constructor)) i8 oT m3 fun h8 m5 g0 m6 c3=>(?_))
 have b6:Enc.device.rd h8 ((b3 :: (a8 :: []))++O) d_cs (d):=Enc.mv Enc.device (x:=d) b6 g0
 have a2:=a2.mv g0
 have a5:Enc.device.rd h8 ((b3 :: (a8 :: []))++O) b7 (d):=Enc.mv Enc.device (x:=d) a5 g0
 have a1:=a1.keep m6 (AJ g7)
 refine AE (AB (AG (AG (AD kR (AC (BT U112_ rfl NX rfl a2 fun b8 a9=>(AC (LO [vA b8.toArray] _ enter_103 rfl (EJ 4 Try.func103 rfl rfl oT (fun q8=>AG (AD kR (AC (DG (E:=Enc.device) (vA b8.toArray) (b8) d rfl rfl a9 m5 fun d5 d9 m7 e0 h9 b1=>(?_)))))) (fun _ _ h=>h)))))))))
 have a9:Enc.device.rd d9 ((b3 :: (a8 :: []))++O) b8 (d):=Enc.mv Enc.device (x:=d) a9 e0
 have b6:Enc.device.rd d9 ((b3 :: (a8 :: []))++O) d_cs (d):=Enc.mv Enc.device (x:=d) b6 e0
 have a2:=a2.mv e0
 have a5:Enc.device.rd d9 ((b3 :: (a8 :: []))++O) b7 (d):=Enc.mv Enc.device (x:=d) a5 e0
 have a1:=a1.keep h9 (by simp)
 have c3:=c3.keep h9 (by simp)
 refine AC (AH (Value.nilFunc) rfl (AE (AB (AG (AD kR (AC (EX (first:=[]) (captured:=[.tmp 1]) [] [vP (some d5)] rfl rfl (AC (AH (vN (.func 106) #[] #[vP (some d5)]) rfl (AE (AB (AS (AZ rfl (CX rfl rfl rfl) (Exists.intro _ (And.intro rfl (AE (AB (BN (cw_range (fs:=[]) (lb:=[vP (some d5)]) rfl rfl enter_106 rfl (fun b0 b4 e1 i6 _ h1 g8 i9 e2 a0 a6=>?_))))))))))))))))))))
 have b9:DB a8 b4∧DB a8 b0:=by show a8≠b4∧a8≠b0;have:=a1.lt;omega
 have c5:DB b3 b4∧DB b3 b0:=by show b3≠b4∧b3≠b0;have:=c3.lt;omega
 have m8:=m7.adopt2 e2 g8 oM a0.lt a6.lt
 have d6:Mv (b3 :: (a8 :: [])) d9 (b0 :: b4 :: (b3 :: (a8 :: []))) e1:=Mv.adopt2 e2 g8 oM
 have b6:Enc.device.rd e1 ((b0 :: b4 :: (b3 :: (a8 :: [])))++O) d_cs (d):=Enc.mv Enc.device (x:=d) b6 d6
 have a2:=a2.mv d6
 have a5:Enc.device.rd e1 ((b0 :: b4 :: (b3 :: (a8 :: [])))++O) b7 (d):=Enc.mv Enc.device (x:=d) a5 d6
 have a9:Enc.device.rd e1 ((b0 :: b4 :: (b3 :: (a8 :: [])))++O) b8 (d):=Enc.mv Enc.device (x:=d) a9 d6
 have b1:=b1.mv d6
 have a1:=a1.keep e2 (by simp)
 have c3:=c3.keep e2 (by simp)
 have c6:DB b4 b0:=by show b4≠b0;omega
 clear i9
 refine EJ 26 Try.func106 rfl rfl oT (fun q9=>AG (AD kR (AC (FA CY rfl (AC (AP 2 EQ (d.ops) rfl b1 (fun _ _ _ h=>BL h) fun r0 j0=>(AC (OD U26_ rfl rfl j0 fun i0 b2=>(?_)))))))))
 have:=b2.len_le
 refine AC (DS U26_ rfl b2 (AC (AF (vI 0) rfl (AE (AB (BN (ED (fun mI FI wI=>∃ (k:Nat) (B:List Nat),k≤d.ops.length∧(∀ q,q<k→d.ops[q]!.device=d.id→d.ops[q]!.no≤d.counter)∧mI=d.ops.length - k∧(∃ F1,FI=GM F1 [(0,vN (.yield b0) #[] #[]),(1,vP (some d5)),(7,i0),(8,vI (d.ops.length:Int)),(9,vI ((k:Nat):Int)),(26,undef)])∧St w O wI B∧PT Enc.device wI (B++O) (.pointer (some d5)) (d)∧CI Enc.devop wI (B++O) (i0) (d.ops)∧Enc.device.rd wI (B++O) d_cs (d)∧PT Enc.device wI (B++O) (.pointer (some l4)) (d)∧Enc.device.rd wI (B++O) b7 (d)∧Enc.device.rd wI (B++O) b8 (d)∧Ob wI b4 (.deferred (some []))∧b4∈B∧EN wI a8 4 [vO false]∧a8∈B∧EN wI b3 3 [vI ((GS d.ops d.id k:Nat):Int)]∧b3∈B∧Ob wI b0 (i6 .ready none)∧b0∈B) (d.ops.length - (0)) ?_ ?_)))))))
 ·exact ⟨(0),(b0 :: b4 :: (b3 :: (a8 :: []))),oM,(fun q hq=>by omega),rfl,⟨_,AL _ ⟨rfl,rfl,rfl,rfl,(by rfl),rfl,trivial⟩⟩,m8,b1,b2,b6,a2,a5,a9,a0,(by (repeat (first|exact List.mem_cons_self|apply List.mem_cons_of_mem))),a1,(by (repeat (first|exact List.mem_cons_self|apply List.mem_cons_of_mem))),(by rw [show ([vI ((GS d.ops d.id (0):Nat):Int)]:List Value)=[vI 0] from by rw [cnt_zero];rfl];exact c3),(by (repeat (first|exact List.mem_cons_self|apply List.mem_cons_of_mem))),a6,(by (repeat (exact List.mem_cons_self)))⟩
 intro s4 F p1 hI
 clear b1 b2 b6 a2 a5 a9 a0 a1 a6
 obtain ⟨k,b5,hrw0_0,hrw0_1,s5,⟨s6,rfl⟩,j1,b1,b2,b6,a2,a5,a9,a0,l2,a1,o9,a3,p0,a6,l3⟩:=hI
 refine AG (AD kR (AC (DR .i64 ((k:Nat):Int) (d.ops.length:Int) rfl rfl (AE (AB (AG (AK (decide (((k:Nat):Int)<(d.ops.length:Int))) rfl rfl (fun f2=>?_) (fun f2=>?_))))))))
 ·have p4:((k:Nat):Int)<(d.ops.length:Int):=by simpa using f2
  refine AT (AB (AG (BN (AG (AD kR (AC (BZ U26_ BX .i64 ((k:Nat):Int) k rfl rfl rfl b2 oM fun r1 j2=>(AC (BT U40_ rfl BX rfl j2 fun p5 j3=>(?_))))))))))
  obtain rfl:=j3
  refine AC (CC [vI 0,vI 0,vI 0,vI 0,vI 0,vI 0] HC rfl j1 fun a4 g1 m9 n0 c7 e3 j4=>(?_))
  have j5:DB b4 a4:=by show b4≠a4;have:=a0.lt;omega
  have j6:DB a8 a4:=by show a8≠a4;have:=a1.lt;omega
  have j7:DB b3 a4:=by show b3≠a4;have:=a3.lt;omega
  have j8:DB b0 a4:=by show b0≠a4;have:=a6.lt;omega
  clear m9
  have b1:=b1.mv c7
  have b2:=b2.mv c7
  have b6:Enc.device.rd g1 ((a4 :: b5)++O) d_cs (d):=Enc.mv Enc.device (x:=d) b6 c7
  have a2:=a2.mv c7
  have a5:Enc.device.rd g1 ((a4 :: b5)++O) b7 (d):=Enc.mv Enc.device (x:=d) a5 c7
  have a9:Enc.device.rd g1 ((a4 :: b5)++O) b8 (d):=Enc.mv Enc.device (x:=d) a9 c7
  have a0:=a0.keep e3 (by simp)
  have a1:=a1.keep e3 (by simp)
  have a3:=a3.keep e3 (by simp)
  have a6:=a6.keep e3 (by simp)
  refine BK (AU (vs:=[vI ((d.ops[k]!).device),vI ((d.ops[k]!).no),vI ((d.ops[k]!).kind),vI ((d.ops[k]!).copy),vI ((d.ops[k]!).to),vI ((d.ops[k]!).token)]) (.agg #[vI ((d.ops[k]!).device),vI ((d.ops[k]!).no),vI ((d.ops[k]!).kind),vI ((d.ops[k]!).copy),vI ((d.ops[k]!).to),vI ((d.ops[k]!).token)]) rfl rfl rfl BX (fun u hu=>by simp only [List.mem_cons,List.not_mem_nil,or_false] at hu;rcases hu with rfl|rfl|rfl|rfl|rfl|rfl <;> rfl) (by repeat (constructor)) j4 oT n0 fun g2 i1 c8 e4 f3=>(?_))
  have b1:=b1.mv c8
  have b2:=b2.mv c8
  have b6:Enc.device.rd g2 ((a4 :: b5)++O) d_cs (d):=Enc.mv Enc.device (x:=d) b6 c8
  have a2:=a2.mv c8
  have a5:Enc.device.rd g2 ((a4 :: b5)++O) b7 (d):=Enc.mv Enc.device (x:=d) a5 c8
  have a9:Enc.device.rd g2 ((a4 :: b5)++O) b8 (d):=Enc.mv Enc.device (x:=d) a9 c8
  have a0:=a0.keep e4 (AJ j5)
  have a1:=a1.keep e4 (AJ j6)
  have a3:=a3.keep e4 (AJ j7)
  have a6:=a6.keep e4 (AJ j8)
  refine AE (AB (AG (AD kR (AC (AM 0 LM rfl (AC (AR U3_ rfl (vI ((d.ops[k]!).device)) rfl f3 rfl (AC (FA CY rfl (AC (AP 0 f_31_0 (d.id) rfl b1 (fun _ _ _ h=>HJ h) fun r2 j9=>(AC (BJ U3_ rfl rfl j9 (AC (DC .i64 ((d.ops[k]!).device) d.id rfl rfl (AC (AF (vO (((d.ops[k]!).device) == d.id)) rfl (?_))))))))))))))))))
  cases g9:(((d.ops[k]!).device) == d.id)
  ·have p6:(d.ops[k]!).device≠d.id:=by simpa using g9
   refine AX rfl (AX rfl (AX rfl (AX rfl (AC (BM (vO false) rfl rfl (AE (AB (AK false rfl rfl (fun h=>by cases h) (fun _=>AT (AW (AB (AD kR (AC (CE .i64 ((k:Nat):Int) (1:Int) (((k+1:Nat):Int)) rfl rfl (EP oM oM) (AC (AF (vI ((k+1:Nat):Int)) rfl (AE (AB (?_)))))))))))))))))))
   exact ⟨_,oM,(k+1),(a4 :: b5),oM,(own_step hrw0_1 (by exact .inl aS)),rfl,⟨_,AL _ ⟨rfl,rfl,rfl,rfl,(by rfl),rfl,trivial⟩⟩,i1,b1,b2,b6,a2,a5,a9,a0,(by (repeat (first|assumption|apply List.mem_cons_of_mem))),a1,(by (repeat (first|assumption|apply List.mem_cons_of_mem))),(by rw [show ([vI ((GS d.ops d.id (k+1):Nat):Int)]:List Value)=[vI ((GS d.ops d.id k:Nat):Int)] from by rw [cnt_n oM aS]];exact a3),(by (repeat (first|assumption|apply List.mem_cons_of_mem))),a6,(by (repeat (first|assumption|apply List.mem_cons_of_mem)))⟩
  have p7:(d.ops[k]!).device=d.id:=by simpa using g9
  refine BH rfl (AF (vN (.yield b0) #[] #[]) rfl (BH rfl (AQ (vs:=[vI ((d.ops[k]!).device),vI ((d.ops[k]!).no),vI ((d.ops[k]!).kind),vI ((d.ops[k]!).copy),vI ((d.ops[k]!).to),vI ((d.ops[k]!).token)]) U40_ rfl BX rfl f3 rfl (wl_yT rfl b0 [vA #[vI ((d.ops[k]!).device),vI ((d.ops[k]!).no),vI ((d.ops[k]!).kind),vI ((d.ops[k]!).copy),vI ((d.ops[k]!).to),vI ((d.ops[k]!).token)]] rfl rfl ?_))))
  refine QO h1 a6 rfl (by decide) (AD kR (AC (CC [vI 0,vI 0,vI 0,vI 0,vI 0,vI 0] HC rfl i1 fun a7 g3 n1 n3 c9 e5 k0=>(?_))))
  have k5:DB b4 a7:=by show b4≠a7;have:=a0.lt;omega
  have k6:DB a8 a7:=by show a8≠a7;have:=a1.lt;omega
  have k7:DB b3 a7:=by show b3≠a7;have:=a3.lt;omega
  have h0:DB b0 a7:=by show b0≠a7;have:=a6.lt;omega
  have p8:DB a4 a7:=by show a4≠a7;have:=f3.lt;omega
  clear n1
  have b6:Enc.device.rd g3 ((a7 :: (a4 :: b5))++O) d_cs (d):=Enc.mv Enc.device (x:=d) b6 c9
  have a2:=a2.mv c9
  have a5:Enc.device.rd g3 ((a7 :: (a4 :: b5))++O) b7 (d):=Enc.mv Enc.device (x:=d) a5 c9
  have a9:Enc.device.rd g3 ((a7 :: (a4 :: b5))++O) b8 (d):=Enc.mv Enc.device (x:=d) a9 c9
  have b1:=b1.mv c9
  have b2:=b2.mv c9
  have a0:=a0.keep e5 (by simp)
  have a1:=a1.keep e5 (by simp)
  have a3:=a3.keep e5 (by simp)
  have a6:=a6.keep e5 (by simp)
  refine BK (AU (vs:=[vI ((d.ops[k]!).device),vI ((d.ops[k]!).no),vI ((d.ops[k]!).kind),vI ((d.ops[k]!).copy),vI ((d.ops[k]!).to),vI ((d.ops[k]!).token)]) (.agg #[vI ((d.ops[k]!).device),vI ((d.ops[k]!).no),vI ((d.ops[k]!).kind),vI ((d.ops[k]!).copy),vI ((d.ops[k]!).to),vI ((d.ops[k]!).token)]) rfl rfl rfl BX (fun u hu=>by simp only [List.mem_cons,List.not_mem_nil,or_false] at hu;rcases hu with rfl|rfl|rfl|rfl|rfl|rfl <;> rfl) (by repeat (constructor)) k0 oT n3 fun e6 n5 d0 e7 f4=>(?_))
  have b6:Enc.device.rd e6 ((a7 :: (a4 :: b5))++O) d_cs (d):=Enc.mv Enc.device (x:=d) b6 d0
  have a2:=a2.mv d0
  have a5:Enc.device.rd e6 ((a7 :: (a4 :: b5))++O) b7 (d):=Enc.mv Enc.device (x:=d) a5 d0
  have a9:Enc.device.rd e6 ((a7 :: (a4 :: b5))++O) b8 (d):=Enc.mv Enc.device (x:=d) a9 d0
  have b1:=b1.mv d0
  have b2:=b2.mv d0
  have a0:=a0.keep e7 (AJ k5)
  have a1:=a1.keep e7 (AJ k6)
  have a3:=a3.keep e7 (AJ k7)
  have a6:=a6.keep e7 (AJ h0)
  refine AE (AB (⟨a6,fun e8 d1 c4=>?_⟩))
  have i2:=n5.keepB d1 rC
  have d2:Mv (a7 :: (a4 :: b5)) e6 (a7 :: (a4 :: b5)) e8:=Mv.keepB d1 rC
  have b6:Enc.device.rd e8 ((a7 :: (a4 :: b5))++O) d_cs (d):=Enc.mv Enc.device (x:=d) b6 d2
  have a2:=a2.mv d2
  have a5:Enc.device.rd e8 ((a7 :: (a4 :: b5))++O) b7 (d):=Enc.mv Enc.device (x:=d) a5 d2
  have a9:Enc.device.rd e8 ((a7 :: (a4 :: b5))++O) b8 (d):=Enc.mv Enc.device (x:=d) a9 d2
  have b1:=b1.mv d2
  have b2:=b2.mv d2
  have a0:=a0.keep d1 (AJ c6)
  have a1:=a1.keep d1 (AJ b9.2)
  have a3:=a3.keep d1 (AJ c5.2)
  have f4:=f4.keep d1 (AJ (Ne.symm h0))
  refine BN (AG (AG (AD kR (AC (AM 1 MY rfl (AC (AR U3_ rfl (vI ((d.ops[k]!).no)) rfl f4 rfl (AC (FA CY rfl (AC (AP 1 IG (d.counter) rfl a2 (fun _ _ _ h=>DQ h) fun r3 k8=>(AC (BJ U3_ rfl rfl k8 (AC (IF .i64 ((d.ops[k]!).no) d.counter rfl rfl (AE (AB (AK (decide (d.counter<(d.ops[k]!).no)) rfl rfl (fun f5=>?_) (fun f5=>?_)))))))))))))))))))
  ·have p9:d.counter<(d.ops[k]!).no:=by simpa using f5
   refine AG (AD kR (BK (BP (vO false) rfl rfl rfl s_4 rC a1 oT i2 fun r4 n6 r5 i3 c2=>(?_))))
   have a0:=a0.keep i3 (AJ (Ne.symm b9.1))
   have c4:=c4.keep i3 (AJ (Ne.symm b9.2))
   refine AE (AB (AS (AN (BC (round_r c4 (fun r6 g4 k9=>?_))))))
   have n7:=n6.keepB g4 rC
   have a0:=a0.keep g4 (AJ c6)
   have c2:=c2.keep g4 (AJ b9.2)
   have a6:=k9
   refine BH rfl (EI false rfl (AC (BA (vO true) rfl rfl (AE (AB (AK true rfl rfl (fun _=>AS (BC (AN (AN (BC (AZ rfl (res0 rfl) (⟨⟨_,rfl⟩,?_⟩))))))) (fun h=>by cases h)))))))
   refine ⟨.done,(some (.ret)),by simp,a6,fun r7 g5=>?_⟩
   have n9:=n7.keepB g5 rC
   have a0:=a0.keep g5 (AJ c6)
   have c2:=c2.keep g5 (AJ b9.2)
   refine AS (BC (AN (endM_rm rfl a0 (fun r8 i4=>?_))))
   have o0:=n9.keepB i4 rC
   have c2:=c2.keep i4 (AJ b9.1)
   refine ⟨_,resc rfl rfl U4_ rfl rfl c2 rfl,?_⟩
   have e:(CS d)=false:=by exact whole_over (k:=k) oM aS oM
   exact ⟨_,rfl,o0.keep,(by exact congrArg vO e.symm)⟩
  have q0:(d.ops[k]!).no≤d.counter:=by simpa using f5
  refine AT (AB (AD kR (AC (AR U3_ rfl (vI ((GS d.ops d.id k:Nat):Int)) rfl a3 rfl (AC (CE .i64 ((GS d.ops d.id k:Nat):Int) (1:Int) (((GS d.ops d.id k+1:Nat):Int)) rfl rfl (EP (by have:=cnt_lek d.ops d.id k;omega) oM) (BK (BP (vI ((GS d.ops d.id k+1:Nat):Int)) rfl rfl rfl s_3 rC a3 oT i2 fun e9 o1 d3 g6 f6=>(?_)))))))))
  have b6:Enc.device.rd e9 ((a7 :: (a4 :: b5))++O) d_cs (d):=Enc.mv Enc.device (x:=d) b6 d3
  have a2:=a2.mv d3
  have a5:Enc.device.rd e9 ((a7 :: (a4 :: b5))++O) b7 (d):=Enc.mv Enc.device (x:=d) a5 d3
  have a9:Enc.device.rd e9 ((a7 :: (a4 :: b5))++O) b8 (d):=Enc.mv Enc.device (x:=d) a9 d3
  have b1:=b1.mv d3
  have b2:=b2.mv d3
  have a0:=a0.keep g6 (AJ (Ne.symm c5.1))
  have a1:=a1.keep g6 (AJ g7)
  have c4:=c4.keep g6 (AJ (Ne.symm c5.2))
  refine AE (AW (round_n c4 (fun f0 d7 l0=>?_)))
  have o2:=o1.keepB d7 rC
  have d4:Mv (a7 :: (a4 :: b5)) e9 (a7 :: (a4 :: b5)) f0:=Mv.keepB d7 rC
  have b6:Enc.device.rd f0 ((a7 :: (a4 :: b5))++O) d_cs (d):=Enc.mv Enc.device (x:=d) b6 d4
  have a2:=a2.mv d4
  have a5:Enc.device.rd f0 ((a7 :: (a4 :: b5))++O) b7 (d):=Enc.mv Enc.device (x:=d) a5 d4
  have a9:Enc.device.rd f0 ((a7 :: (a4 :: b5))++O) b8 (d):=Enc.mv Enc.device (x:=d) a9 d4
  have b1:=b1.mv d4
  have b2:=b2.mv d4
  have a0:=a0.keep d7 (AJ c6)
  have a1:=a1.keep d7 (AJ b9.2)
  have f6:=f6.keep d7 (AJ c5.2)
  have a6:=l0
  refine BH rfl (EI true rfl (AC (BA (vO false) rfl rfl (AE (AB (AK false rfl rfl (fun h=>by cases h) (fun _=>AT (AW (AB (AD kR (AC (CE .i64 ((k:Nat):Int) (1:Int) (((k+1:Nat):Int)) rfl rfl (EP oM oM) (AC (AF (vI ((k+1:Nat):Int)) rfl (AE (AB (?_)))))))))))))))))
  exact ⟨_,oM,(k+1),(a7 :: (a4 :: b5)),oM,(own_step hrw0_1 (by exact .inr aS)),rfl,⟨_,AL _ ⟨rfl,rfl,rfl,rfl,(by rfl),rfl,trivial⟩⟩,o2,b1,b2,b6,a2,a5,a9,a0,(by (repeat (first|assumption|apply List.mem_cons_of_mem))),a1,(by (repeat (first|assumption|apply List.mem_cons_of_mem))),(by rw [show ([vI ((GS d.ops d.id (k+1):Nat):Int)]:List Value)=[vI ((GS d.ops d.id k+1:Nat):Int)] from by rw [cnt_y oM aS]];exact f6),(by (repeat (first|assumption|apply List.mem_cons_of_mem))),a6,(by (repeat (first|assumption|apply List.mem_cons_of_mem)))⟩
 have q1:(d.ops.length:Int)≤((k:Nat):Int):=by simpa using f2
 obtain rfl:k=d.ops.length:=by omega
 refine EF (CG (CG (DJ (end_n rfl (res0 rfl) (⟨⟨_,rfl⟩,?_⟩)))))
 refine ⟨.ready,none,by simp,a6,fun o3 d8=>?_⟩
 have o4:=j1.keepB d8 (by repeat (assumption))
 have o5:Mv b5 p1 b5 o3:=Mv.keepB d8 (by repeat (assumption))
 have a2:=a2.mv o5
 have a0:=a0.keep d8 (AJ c6)
 have a1:=a1.keep d8 (AJ b9.2)
 have a3:=a3.keep d8 (AJ c5.2)
 refine AW (AB (AG (AD kR (AC (AR U3_ rfl (vI ((GS d.ops d.id d.ops.length:Nat):Int)) rfl a3 rfl (AC (FA CY rfl (AC (AP 1 IG (d.counter) rfl a2 (fun _ _ _ h=>DQ h) fun r9 l1=>(AC (BJ U3_ rfl rfl l1 (AC (DC .i64 ((GS d.ops d.id d.ops.length:Nat):Int) d.counter rfl rfl (BK (BP (vO (((GS d.ops d.id d.ops.length:Nat):Int) == d.counter)) rfl rfl rfl s_4 (by repeat (assumption)) a1 oT o4 fun s1 o6 s2 o7 f7=>(?_))))))))))))))))
 have a0:=a0.keep o7 (AJ (Ne.symm b9.1))
 refine AE (AB (AS (endM_rm rfl a0 (fun s3 i5=>?_))))
 have o8:=o6.keepB i5 (by repeat (assumption))
 have f7:=f7.keep i5 (AJ b9.1)
 refine ⟨_,resc rfl rfl U4_ rfl rfl f7 rfl,?_⟩
 have e:(CS d)=(((GS d.ops d.id d.ops.length:Nat):Int) == d.counter):=by exact whole_end aS hrw0_1
 exact ⟨_,rfl,o8.keep,(by exact congrArg vO e.symm)⟩
set_option maxHeartbeats 4000000 in
set_option maxRecDepth 100000 in
theorem c_new43 {O:List Nat} (id:Int) (w:World) (hO:∀ b∈O,b<w.heap.size):CF Try.prog 20 [vI id] w (fun v w'=>∃ (x0:List Value),v = .tuple #[.agg x0.toArray,vI ((CP id).2)]∧Enc.device.rd w' (O) x0 ((CP id).1)):= by
 have s0:St w O w []:=St.start hO
 refine BS 13 Try.func20 rfl rfl oT (fun F0=>AG (AD kR (AC (CC [vI 0,vI 0,nS,vO false] HO rfl s0 fun a2 c4 a8 a3 c5 c6 a0=>(?_)))))
 clear a8
 refine AC (AH (vI 0) rfl (AE (AB (AG (AG (AD kR (AC (AF (vI id) rfl (AC (DR .i64 id (0:Int) rfl rfl (AC (AF (vO (decide (id<(0:Int)))) rfl (?_)))))))))))))
 cases a4:(decide (id<(0:Int)))
 ·have b8:(0:Int)≤id:=by simpa using a4
  refine BH rfl (AF (vI id) rfl (BH rfl (JS .i64 id (4:Int) rfl rfl (AC (BM (vO (decide ((4:Int)≤id))) rfl rfl (AE (AB (AK (decide ((4:Int)≤id)) rfl rfl (fun a1=>?_) (fun a1=>?_)))))))))
  ·have b9:(4:Int)≤id:=by simpa using a1
   refine AG (AD kR (AC (AQ (vs:=[vI 0,vI 0,nS,vO false]) U31_ rfl BG rfl a0 rfl (BK (AU (vs:=[vI 0,vI 0,nS,vO false]) (.agg #[vI 0,vI 0,nS,vO false]) rfl rfl rfl BG (fun u hu=>by simp only [List.mem_cons,List.not_mem_nil,or_false] at hu;rcases hu with rfl|rfl|rfl|rfl <;> rfl) (by repeat (constructor)) a0 oT a3 fun c7 a9 c8 c9 a5=>(AC (AH (vI 1) rfl (AE (AB (AS (AN (AZ rfl (FC rfl (HD (vs:=[vI 0,vI 0,nS,vO false]) rfl U31_ rfl BG rfl a5 rfl) (HE rfl rfl)) (?_)))))))))))))
   have b0:((CP id).1)=(⟨(0:Int),(0:Int),[],false⟩:Device):=by exact congrArg (fun p=>p.1) (show CP id=_ from new_2 aS)
   have b1:((CP id).2)=(1:Int):=by exact congrArg (fun p=>p.2) (show CP id=_ from new_2 aS)
   exact ⟨_,rfl,a9.keep,by rw [b0,b1];exact ⟨[vI 0,vI 0,nS,vO false],rfl,Enc.out (B:=(a2 :: [])) ⟨.slice none 0 0,rfl,(CI.nil _ _ _)⟩⟩⟩
  have c2:id<(4:Int):=by simpa using a1
  refine AT (AB (AG (AD kR (AC (AF (vI id) rfl (AC (CV (l:=[(0, .tmp 11)]) pl_31 HO rfl [(0,vI id,[vI id])] [vI id,vI 0,nS,vO false] rfl ⟨_,rfl,rfl,oT,rfl⟩ (BK (AU (vs:=[vI id,vI 0,nS,vO false]) (.agg #[vI id,vI 0,nS,vO false]) rfl rfl rfl BG (fun u hu=>by simp only [List.mem_cons,List.not_mem_nil,or_false] at hu;rcases hu with rfl|rfl|rfl|rfl <;> rfl) (by repeat (constructor)) a0 oT a3 fun d0 b2 d1 d2 a6=>(AC (AH (vI 0) rfl (AE (AB (AS (AZ rfl (FC rfl (HD (vs:=[vI id,vI 0,nS,vO false]) rfl U31_ rfl BG rfl a6 rfl) (HE rfl rfl)) (?_))))))))))))))))
  have b3:((CP id).1)=(⟨id,(0:Int),[],false⟩:Device):=by exact congrArg (fun p=>p.1) (show CP id=_ from OU aS aS)
  have b4:((CP id).2)=(0:Int):=by exact congrArg (fun p=>p.2) (show CP id=_ from OU aS aS)
  exact ⟨_,rfl,b2.keep,by rw [b3,b4];exact ⟨[vI id,vI 0,nS,vO false],rfl,Enc.out (B:=(a2 :: [])) ⟨.slice none 0 0,rfl,(CI.nil _ _ _)⟩⟩⟩
 have c3:id<(0:Int):=by simpa using a4
 refine AX rfl (AX rfl (AC (BA (vO true) rfl rfl (AE (AB (AK true rfl rfl (fun _=>AG (AD kR (AC (AQ (vs:=[vI 0,vI 0,nS,vO false]) U31_ rfl BG rfl a0 rfl (BK (AU (vs:=[vI 0,vI 0,nS,vO false]) (.agg #[vI 0,vI 0,nS,vO false]) rfl rfl rfl BG (fun u hu=>by simp only [List.mem_cons,List.not_mem_nil,or_false] at hu;rcases hu with rfl|rfl|rfl|rfl <;> rfl) (by repeat (constructor)) a0 oT a3 fun d3 b5 d4 d5 a7=>(AC (AH (vI 1) rfl (AE (AB (AS (AN (AZ rfl (FC rfl (HD (vs:=[vI 0,vI 0,nS,vO false]) rfl U31_ rfl BG rfl a7 rfl) (HE rfl rfl)) (?_)))))))))))))) (fun h=>by cases h)))))))
 have b6:((CP id).1)=(⟨(0:Int),(0:Int),[],false⟩:Device):=by exact congrArg (fun p=>p.1) (show CP id=_ from new_1 aS)
 have b7:((CP id).2)=(1:Int):=by exact congrArg (fun p=>p.2) (show CP id=_ from new_1 aS)
 exact ⟨_,rfl,b5.keep,by rw [b6,b7];exact ⟨[vI 0,vI 0,nS,vO false],rfl,Enc.out (B:=(a2 :: [])) ⟨.slice none 0 0,rfl,(CI.nil _ _ _)⟩⟩⟩
set_option maxHeartbeats 4000000 in
set_option maxRecDepth 100000 in
theorem c_backup {O:List Nat} (d_cs:List Value) (d:Device) (w:World) (a5:Enc.device.rd w O d_cs d) (hpre0:d.ops.length≤1000000) (hO:∀ b∈O,b<w.heap.size):CF Try.prog 46 [.agg d_cs.toArray] w (fun v w'=>∃ (x0:Value),v=x0∧CI Enc.devop w' (O) x0 (d.ops)):= by
 have a5:Enc.device.rd w ([]++O) d_cs d:=a5
 have s0:St w O w []:=St.start hO
 refine BS 6 Try.func46 rfl rfl oT (fun F0=>AG (AD kR (AC (DG (E:=Enc.device) (vA d_cs.toArray) (d_cs) d rfl rfl a5 s0 fun b2 a9 a1 b3 b4 a6=>(AC (AH (nS) rfl (AE (AB (AG (AD kR (AC (AP 2 EQ (d.ops) rfl a6 (fun _ _ _ h=>BL h) fun b5 a7=>(AC (OD U26_ rfl rfl a7 fun a3 a2=>(?_)))))))))))))))
 have:=a2.len_le
 refine AC (BI (vs:=[a3]) LT (MJ (O:=[]++O) a3 d.ops a9 a2 oM a1.lt) rfl a1 fun a4 b6 b0 b7 b8 b1=>(?_))
 obtain ⟨_,rfl,a8,a0⟩:=b1
 have a0:=a0.rd (O':=[]++O) (fun x hx=>.inl (List.mem_append_right _ hx)) (fun c hc hx=>by have:=a8 c hc;have:=a1.lt c hx;omega)
 have:=a0.len_le
 refine AC (AH (a4) rfl (AE (AB (AS (AZ rfl (CX rfl rfl rfl) (?_))))))
 exact ⟨_,rfl,b0.keep,⟨a4,rfl,a0.out⟩⟩
set_option maxHeartbeats 4000000 in
set_option maxRecDepth 100000 in
theorem QY {O:List Nat} (d_cs:List Value) (d:Device) (l_v:Value) (l:List DeviceOp) (w:World) (b1:Enc.device.rd w O d_cs d) (a2:CI Enc.devop w O l_v l) (hpre0:l.length≤1000000) (hO:∀ b∈O,b<w.heap.size):CF Try.prog 47 [.agg d_cs.toArray,l_v] w (fun v w'=>∃ (x0:List Value),v = .agg x0.toArray∧Enc.device.rd w' (O) x0 (GH d l)):= by
 have b1:Enc.device.rd w ([]++O) d_cs d:=b1
 have d2:=a2.len_le
 have a2:CI Enc.devop w ([]++O) l_v l:=a2
 have s0:St w O w []:=St.start hO
 refine BS 10 Try.func47 rfl rfl oT (fun F0=>AG (AD kR (AC (DG (E:=Enc.device) (vA d_cs.toArray) (d_cs) d rfl rfl b1 s0 fun d3 d4 b6 b7 d5 a3=>(?_)))))
 have a2:=a2.mv b7
 refine AC (CC [vI 0,vI 0,nS,vO false] HO rfl b6 fun a5 d6 b8 b9 a9 d7 b2=>(?_))
 clear b8
 have a2:=a2.mv a9
 have a3:=a3.mv a9
 refine AE (AB (AG (AD kR (AC (BT U31_ rfl BG rfl a3 fun d1 b3=>(?_))))))
 obtain ⟨b0,rfl,a7⟩:=b3
 have:=a7.len_le
 refine BK (AU (vs:=[vI d.id,vI d.counter,b0,vO d.halted]) (.agg #[vI d.id,vI d.counter,b0,vO d.halted]) rfl rfl rfl BG (fun u hu=>by simp only [List.mem_cons,List.not_mem_nil,or_false] at hu;rcases hu with rfl|rfl|rfl|rfl <;> first|rfl|exact a7.oneCell) (by repeat (constructor)) b2 oT b9 fun c2 a6 c3 d8 a4=>(?_))
 have a2:=a2.mv c3
 refine AE (AB (AG (AD kR (AC (AF (l_v) rfl (AC (BI (vs:=[l_v]) LT (MJ (O:=(a5 :: [])++O) l_v l c2 a2 oM a6.lt) rfl a6 fun a1 d9 c4 e0 c5 c6=>(?_))))))))
 obtain ⟨_,rfl,b4,a0⟩:=c6
 have a0:=a0.rd (O':=(a5 :: [])++O) (fun x hx=>.inl (List.mem_append_right _ hx)) (fun c hc hx=>by have:=b4 c hc;have:=a6.lt c hx;omega)
 have:=a0.len_le
 have a4:=a4.keep c5 (by simp)
 refine AC (AM 2 EQ rfl (BK (BP (a1) rfl rfl a0.oneCell HR (by repeat (constructor)) a4 oT c4 fun e1 c7 c8 e2 a8=>(?_))))
 have a0:=a0.mv c8
 refine AE (AB (AG (AD kR (AC (AQ (vs:=[vI d.id,vI d.counter,a1,vO d.halted]) U31_ rfl BG rfl a8 rfl (BK (AU (vs:=[vI d.id,vI d.counter,a1,vO d.halted]) (.agg #[vI d.id,vI d.counter,a1,vO d.halted]) rfl rfl rfl BG (fun u hu=>by simp only [List.mem_cons,List.not_mem_nil,or_false] at hu;rcases hu with rfl|rfl|rfl|rfl <;> first|rfl|exact a0.oneCell) (by repeat (constructor)) a8 oT c7 fun e3 c9 d0 e4 b5=>(?_))))))))
 have a0:=a0.mv d0
 refine AE (AB (AS (AZ rfl (FN (vs:=[vI d.id,vI d.counter,a1,vO d.halted]) rfl rfl U31_ rfl BG rfl b5 rfl) (?_))))
 have e:(GH d l)=(⟨d.id,d.counter,l,d.halted⟩:Device):=rfl
 exact ⟨_,rfl,c9.keep,by rw [e];exact ⟨[vI d.id,vI d.counter,a1,vO d.halted],rfl,Enc.out (B:=(a5 :: [])) ⟨_,rfl,a0⟩⟩⟩
set_option maxHeartbeats 4000000 in
set_option maxRecDepth 100000 in
theorem c_start {O:List Nat} (d_cs:List Value) (d:Device) (w:World) (c4:Enc.device.rd w O d_cs d) (hO:∀ b∈O,b<w.heap.size):CF Try.prog 44 [.agg d_cs.toArray] w (fun v w'=>∃ (x0:List Value),v = .tuple #[.agg x0.toArray,vI ((BE d).2)]∧Enc.device.rd w' (O) x0 ((BE d).1)):= by
 have c4:Enc.device.rd w ([]++O) d_cs d:=c4
 have s0:St w O w []:=St.start hO
 refine BS 24 Try.func44 rfl rfl oT (fun F0=>AG (AD kR (AC (DG (E:=Enc.device) (vA d_cs.toArray) (d_cs) d rfl rfl c4 s0 fun h5 h6 d4 h7 h8 a3=>(AC (CC [vI 0,vI 0,nS,vO false] HO rfl d4 fun a5 h9 d5 d6 d7 i0 a1=>(?_)))))))
 clear d5
 have a3:=a3.mv d7
 refine AC (AH (vI 0) rfl (AE (AB (AG (AD kR (AC (BT U31_ rfl BG rfl a3 fun g7 c5=>(?_))))))))
 obtain ⟨a2,rfl,a0⟩:=c5
 have:=a0.len_le
 refine AC (CV (l:=[(0, .tmp 5)]) pl_112 z_112 rfl [(0,vA #[vI d.id,vI d.counter,a2,vO d.halted],[vI d.id,vI d.counter,a2,vO d.halted])] [vI d.id,vI d.counter,a2,vO d.halted] rfl ⟨_,rfl,rfl,oT,rfl⟩ (AC (CC [vI 0,vI 0,nS,vO false] z_112 rfl d6 fun a6 i1 d8 d9 b4 e0 c6=>(?_))))
 have b0:DB a5 a6:=by show a5≠a6;have:=a1.lt;omega
 clear d8
 have a3:=a3.mv b4
 have a0:=a0.mv b4
 have a1:=a1.keep e0 (by simp)
 refine BK (AU (vs:=[vI d.id,vI d.counter,a2,vO d.halted]) (.agg #[vI d.id,vI d.counter,a2,vO d.halted]) rfl rfl rfl NX (fun u hu=>by simp only [List.mem_cons,List.not_mem_nil,or_false] at hu;rcases hu with rfl|rfl|rfl|rfl <;> first|rfl|exact a0.oneCell) (by repeat (constructor)) c6 oT d9 fun e1 b5 b6 e2 a4=>(?_))
 have a3:=a3.mv b6
 have a0:=a0.mv b6
 have a1:=a1.keep e2 (AJ b0)
 refine AE (AB (AG (AG (AD kR (AC (AQ (vs:=[vI d.id,vI d.counter,a2,vO d.halted]) U112_ rfl NX rfl a4 rfl (AC (BI (vs:=[vA #[vI d.id,vI d.counter,a2,vO d.halted]]) OP (PE (O:=(a6 :: (a5 :: []))++O) [vI d.id,vI d.counter,a2,vO d.halted] d e1 ⟨_,rfl,a0⟩ b5.lt) rfl b5 fun i2 e3 a8 b7 b8 e4=>(?_)))))))))
 obtain rfl:=e4
 have a3:=a3.mv b7
 have a0:=a0.mv b7
 have a1:=a1.keep b8 (by simp)
 have a4:=a4.keep b8 (by simp)
 refine AC (EI (CB d) rfl (AE (AB (AK (!(CB d)) rfl rfl (fun b1=>?_) (fun b1=>?_)))))
 ·have g8:(CB d)=false:=by simpa using b1
  refine AG (AD kR (AC (AQ (vs:=[vI 0,vI 0,nS,vO false]) U31_ rfl BG rfl a1 rfl (BK (AU (vs:=[vI 0,vI 0,nS,vO false]) (.agg #[vI 0,vI 0,nS,vO false]) rfl rfl rfl BG (fun u hu=>by simp only [List.mem_cons,List.not_mem_nil,or_false] at hu;rcases hu with rfl|rfl|rfl|rfl <;> rfl) (by repeat (constructor)) a1 oT a8 fun i3 e5 i4 i5 c7=>(AC (AH (vI 420) rfl (AE (AB (AS (AN (AZ rfl (FC rfl (HD (vs:=[vI 0,vI 0,nS,vO false]) rfl U31_ rfl BG rfl c7 rfl) (HE rfl rfl)) (?_)))))))))))))
  have e6:((BE d).1)=(⟨(0:Int),(0:Int),[],false⟩:Device):=by exact congrArg (fun p=>p.1) (show BE d=_ from start_1 aS)
  have e7:((BE d).2)=(420:Int):=by exact congrArg (fun p=>p.2) (show BE d=_ from start_1 aS)
  exact ⟨_,rfl,e5.keep,by rw [e6,e7];exact ⟨[vI 0,vI 0,nS,vO false],rfl,Enc.out (B:=(a6 :: (a5 :: []))) ⟨.slice none 0 0,rfl,(CI.nil _ _ _)⟩⟩⟩
 have g9:(CB d)=true:=by simpa using b1
 refine AT (AB (AG (AG (AD kR (AC (AM 0 CY rfl (AC (AM 3 NI rfl (AC (AR U4_ rfl (vO d.halted) rfl a4 rfl (AC (AF (vO d.halted) rfl (?_)))))))))))))
 cases b3:(d.halted)
 ·have h0:d.halted=false:=by simpa using b3
  refine BH rfl (AQ (vs:=[vI d.id,vI d.counter,a2,vO d.halted]) U112_ rfl NX rfl a4 rfl (BH rfl (BI (vs:=[vA #[vI d.id,vI d.counter,a2,vO d.halted]]) enter_81 (c_whole (O:=(a6 :: (a5 :: []))++O) [vI d.id,vI d.counter,a2,vO d.halted] d e3 ⟨_,rfl,a0⟩ a8.lt) rfl a8 fun i6 i7 b9 c2 c3 e8=>(?_))))
  obtain rfl:=e8
  have a3:=a3.mv c2
  have a0:=a0.mv c2
  have a1:=a1.keep c3 (by simp)
  have a4:=a4.keep c3 (by simp)
  refine BH rfl (EI (CS d) rfl (AC (BM (vO (!(CS d))) rfl rfl (AE (AB (AK (!(CS d)) rfl rfl (fun b2=>?_) (fun b2=>?_)))))))
  ·have h1:(CS d)=false:=by simpa using b2
   refine AG (AD kR (AC (AM 0 CY rfl (AC (AM 3 NI rfl (BK (BP (vO true) rfl rfl rfl s_4 (by repeat (constructor)) a4 oT b9 fun i8 e9 f0 f1 c8=>(?_))))))))
   have a0:=a0.mv f0
   have a1:=a1.keep f1 (AJ b0)
   refine AE (AB (AG (AD kR (AC (AM 0 CY rfl (AC (AQ (vs:=[vI d.id,vI d.counter,a2,vO true]) U31_ rfl BG rfl c8 rfl (BK (AU (vs:=[vI d.id,vI d.counter,a2,vO true]) (.agg #[vI d.id,vI d.counter,a2,vO true]) rfl rfl rfl BG (fun u hu=>by simp only [List.mem_cons,List.not_mem_nil,or_false] at hu;rcases hu with rfl|rfl|rfl|rfl <;> first|rfl|exact a0.oneCell) (by repeat (constructor)) a1 oT e9 fun i9 f2 f3 j0 c9=>(?_))))))))))
   have a0:=a0.mv f3
   refine AC (AH (vI 430) rfl (AE (AB (AS (AN (AZ rfl (FC rfl (HD (vs:=[vI d.id,vI d.counter,a2,vO true]) rfl U31_ rfl BG rfl c9 rfl) (HE rfl rfl)) (?_)))))))
   have f4:((BE d).1)=(⟨d.id,d.counter,d.ops,true⟩:Device):=by exact congrArg (fun p=>p.1) (show BE d=_ from KJ aS (.inr aS))
   have f5:((BE d).2)=(430:Int):=by exact congrArg (fun p=>p.2) (show BE d=_ from KJ aS (.inr aS))
   exact ⟨_,rfl,f2.keep,by rw [f4,f5];exact ⟨[vI d.id,vI d.counter,a2,vO true],rfl,Enc.out (B:=(a6 :: (a5 :: []))) ⟨_,rfl,a0⟩⟩⟩
  have h2:(CS d)=true:=by simpa using b2
  refine AT (AB (AG (AD kR (AC (BT U31_ rfl BG rfl a3 fun h3 d0=>(?_))))))
  obtain ⟨a9,rfl,a7⟩:=d0
  have:=a7.len_le
  refine BK (AU (vs:=[vI d.id,vI d.counter,a9,vO d.halted]) (.agg #[vI d.id,vI d.counter,a9,vO d.halted]) rfl rfl rfl BG (fun u hu=>by simp only [List.mem_cons,List.not_mem_nil,or_false] at hu;rcases hu with rfl|rfl|rfl|rfl <;> first|rfl|exact a7.oneCell) (by repeat (constructor)) a1 oT b9 fun j1 f6 f7 j2 d1=>(?_))
  have a7:=a7.mv f7
  refine AC (AH (vI 0) rfl (AE (AB (AS (AZ rfl (FC rfl (HD (vs:=[vI d.id,vI d.counter,a9,vO d.halted]) rfl U31_ rfl BG rfl d1 rfl) (HE rfl rfl)) (?_))))))
  have f8:((BE d).1)=d:=by exact congrArg (fun p=>p.1) (show BE d=_ from start_3 aS aS aS)
  have f9:((BE d).2)=(0:Int):=by exact congrArg (fun p=>p.2) (show BE d=_ from start_3 aS aS aS)
  exact ⟨_,rfl,f6.keep,by rw [f8,f9];exact ⟨[vI d.id,vI d.counter,a9,vO d.halted],rfl,Enc.out (B:=(a6 :: (a5 :: []))) ⟨_,rfl,a7⟩⟩⟩
 have h4:d.halted=true:=by simpa using b3
 refine AX rfl (AX rfl (AX rfl (AC (BA (vO true) rfl rfl (AE (AB (AK true rfl rfl (fun _=>AG (AD kR (AC (AM 0 CY rfl (AC (AM 3 NI rfl (BK (BP (vO true) rfl rfl rfl s_4 (by repeat (constructor)) a4 oT a8 fun j3 g0 g1 g2 d2=>(?_))))))))) (fun h=>by cases h))))))))
 have a0:=a0.mv g1
 have a1:=a1.keep g2 (AJ b0)
 refine AE (AB (AG (AD kR (AC (AM 0 CY rfl (AC (AQ (vs:=[vI d.id,vI d.counter,a2,vO true]) U31_ rfl BG rfl d2 rfl (BK (AU (vs:=[vI d.id,vI d.counter,a2,vO true]) (.agg #[vI d.id,vI d.counter,a2,vO true]) rfl rfl rfl BG (fun u hu=>by simp only [List.mem_cons,List.not_mem_nil,or_false] at hu;rcases hu with rfl|rfl|rfl|rfl <;> first|rfl|exact a0.oneCell) (by repeat (constructor)) a1 oT g0 fun j4 g3 g4 j5 d3=>(?_))))))))))
 have a0:=a0.mv g4
 refine AC (AH (vI 430) rfl (AE (AB (AS (AN (AZ rfl (FC rfl (HD (vs:=[vI d.id,vI d.counter,a2,vO true]) rfl U31_ rfl BG rfl d3 rfl) (HE rfl rfl)) (?_)))))))
 have g5:((BE d).1)=(⟨d.id,d.counter,d.ops,true⟩:Device):=by exact congrArg (fun p=>p.1) (show BE d=_ from KJ aS (.inl aS))
 have g6:((BE d).2)=(430:Int):=by exact congrArg (fun p=>p.2) (show BE d=_ from KJ aS (.inl aS))
 exact ⟨_,rfl,g3.keep,by rw [g5,g6];exact ⟨[vI d.id,vI d.counter,a2,vO true],rfl,Enc.out (B:=(a6 :: (a5 :: []))) ⟨_,rfl,a0⟩⟩⟩
open Go.Fw Go.RowKit
set_option maxHeartbeats 4000000 in
set_option maxRecDepth 100000 in
theorem c_act41 {O:List Nat} (p_cs:List Value) (p:DeviceOp) (o_a:Addr) (o:DeviceOp) (w:World) (a8:Enc.devop.rd w O p_cs p) (a0:PT Enc.devop w O (.pointer (some o_a)) o) (hO:∀ b∈O,b<w.heap.size):CF Try.prog 84 [.agg p_cs.toArray, .pointer (some o_a)] w (fun v _=>v = .bool ((p.kind == 2) && (p.copy == o.copy))):= by
 obtain rfl:=a8
 have a0:PT Enc.devop w ([]++O) (.pointer (some o_a)) o:=a0
 have s0:St w O w []:=St.start hO
 refine BS 14 Try.func84 rfl rfl oT (fun F0=>AG (AD kR (AC (DG (E:=Enc.devop) (vA #[vI p.device,vI p.no,vI p.kind,vI p.copy,vI p.to,vI p.token]) ([vI p.device,vI p.no,vI p.kind,vI p.copy,vI p.to,vI p.token]) p rfl rfl rfl s0 fun b1 b2 a3 a7 b3 a1=>(?_)))))
 have a0:=a0.mv a7
 refine AC (AH (vO false) rfl (AE (AB (AG (AD kR (AC (AP 2 GB (p.kind) rfl a1 (fun _ _ _ h=>FX h) fun b4 a4=>(AC (BJ U3_ rfl rfl a4 (AC (DC .i64 p.kind (2:Int) rfl rfl (AC (AF (vO (p.kind == (2:Int))) rfl (?_))))))))))))))
 cases a2:(p.kind == (2:Int))
 ·have a9:p.kind≠(2:Int):=by simpa using a2
  refine AX rfl (AX rfl (AX rfl (AX rfl (AX rfl (AC (BM (vO false) rfl rfl (AC (AH (vO false) rfl (AE (AB (AS (AZ rfl (CX rfl rfl rfl) (?_)))))))))))))
  have e:((p.kind == 2) && (p.copy == o.copy))=false:=by simp [*]
  exact ⟨_,rfl,a3.keep,(by rfl)⟩
 have b0:p.kind=(2:Int):=by simpa using a2
 refine BH rfl (AP 3 II (p.copy) rfl a1 (fun _ _ _ h=>DK h) fun b5 a5=>(BH rfl (BJ U3_ rfl rfl a5 (BH rfl (AP 3 II (o.copy) rfl a0 (fun _ _ _ h=>DK h) fun b6 a6=>(BH rfl (BJ U3_ rfl rfl a6 (BH rfl (DC .i64 p.copy o.copy rfl rfl (AC (BA (vO (p.copy == o.copy)) rfl rfl (AC (AH (vO (p.copy == o.copy)) rfl (AE (AB (AS (AZ rfl (CX rfl rfl rfl) (?_))))))))))))))))))
 have e:((p.kind == 2) && (p.copy == o.copy))=(p.copy == o.copy):=by simp [*]
 exact ⟨_,rfl,a3.keep,(by rfl)⟩
set_option maxHeartbeats 4000000 in
set_option maxRecDepth 100000 in
theorem c_act1 {O:List Nat} (crash_a:Addr) (crash:Int) (w:World) (a0:PT Enc.int w O (.pointer (some crash_a)) crash) (hO:∀ b∈O,b<w.heap.size):CF Try.prog 78 [.pointer (some crash_a)] w (fun v _=>v = .bool (decide (0≤crash) && decide (crash≤2))):= by
 have a0:PT Enc.int w ([]++O) (.pointer (some crash_a)) crash:=a0
 have s0:St w O w []:=St.start hO
 refine BS 8 Try.func78 rfl rfl oT (fun F0=>AG (AD kR (AC (AH (vO false) rfl (AE (AB (AG (AD kR (AC (BJ U3_ rfl rfl a0 (AC (JS .i64 crash (0:Int) rfl rfl (AC (AF (vO (decide ((0:Int)≤crash))) rfl (?_)))))))))))))))
 cases a1:(decide ((0:Int)≤crash))
 ·have a2:crash<(0:Int):=by simpa using a1
  refine AX rfl (AX rfl (AC (BM (vO false) rfl rfl (AC (AH (vO false) rfl (AE (AB (AS (AZ rfl (CX rfl rfl rfl) (?_))))))))))
  have e:(decide (0≤crash) && decide (crash≤2))=false:=by simp [*]
  exact ⟨_,rfl,s0.keep,(by rfl)⟩
 have a3:(0:Int)≤crash:=by simpa using a1
 refine BH rfl (BJ U3_ rfl rfl a0 (BH rfl (o_leq .i64 crash (2:Int) rfl rfl (AC (BA (vO (decide (crash≤(2:Int)))) rfl rfl (AC (AH (vO (decide (crash≤(2:Int)))) rfl (AE (AB (AS (AZ rfl (CX rfl rfl rfl) (?_))))))))))))
 have e:(decide (0≤crash) && decide (crash≤2))=(decide (crash≤(2:Int))):=by simp [*]
 exact ⟨_,rfl,s0.keep,(by rfl)⟩
set_option maxHeartbeats 4000000 in
set_option maxRecDepth 100000 in
theorem c_act2 {O:List Nat} (d_a:Addr) (d:Device) (w:World) (a2:PT Enc.device w O (.pointer (some d_a)) d) (hO:∀ b∈O,b<w.heap.size):CF Try.prog 80 [.pointer (some d_a)] w (fun v _=>v = .bool (!d.halted && CS d)):= by
 have a2:PT Enc.device w ([]++O) (.pointer (some d_a)) d:=a2
 have s0:St w O w []:=St.start hO
 refine BS 10 Try.func80 rfl rfl oT (fun F0=>AG (AD kR (AC (AH (vO false) rfl (AE (AB (AG (AD kR (AC (FA CY rfl (AC (AP 3 NI (d.halted) rfl a2 (fun _ _ _ h=>IQ h) fun a9 a3=>(AC (LV U4_ rfl rfl a3 (AC (EI d.halted rfl (AC (AF (vO (!d.halted)) rfl (?_)))))))))))))))))))
 cases a0:(!d.halted)
 ·have a7:d.halted=true:=by simpa using a0
  refine AX rfl (AX rfl (AC (BM (vO false) rfl rfl (AC (AH (vO false) rfl (AE (AB (AS (AZ rfl (CX rfl rfl rfl) (?_))))))))))
  have e:(!d.halted && CS d)=false:=by simp [*]
  exact ⟨_,rfl,s0.keep,(by rfl)⟩
 have a8:d.halted=false:=by simpa using a0
 refine BH rfl (BT U112_ rfl NX rfl a2 fun a1 a4=>(BH rfl (BI (vs:=[vA a1.toArray]) enter_81 (c_whole (O:=[]++O) a1 d w a4 s0.lt) rfl s0 fun b0 b1 a5 b2 b3 a6=>(?_))))
 obtain rfl:=a6
 refine AC (BA (vO (CS d)) rfl rfl (AC (AH (vO (CS d)) rfl (AE (AB (AS (AZ rfl (CX rfl rfl rfl) (?_))))))))
 have e:(!d.halted && CS d)=(CS d):=by simp [*]
 exact ⟨_,rfl,a5.keep,(by rfl)⟩
set_option maxHeartbeats 4000000 in
set_option maxRecDepth 100000 in
theorem c_act3 {O:List Nat} (o_a:Addr) (o:DeviceOp) (d_a:Addr) (d:Device) (w:World) (a1:PT Enc.devop w O (.pointer (some o_a)) o) (a2:PT Enc.device w O (.pointer (some d_a)) d) (hpre0:0≤d.counter) (hpre1:d.counter≤65535) (hO:∀ b∈O,b<w.heap.size):CF Try.prog 82 [.pointer (some o_a), .pointer (some d_a)] w (fun v _=>v = .bool ((o.device == d.id) && (o.no == d.counter+1))):= by
 have a1:PT Enc.devop w ([]++O) (.pointer (some o_a)) o:=a1
 have a2:PT Enc.device w ([]++O) (.pointer (some d_a)) d:=a2
 have s0:St w O w []:=St.start hO
 refine BS 18 Try.func82 rfl rfl oT (fun F0=>AG (AD kR (AC (AH (vO false) rfl (AE (AB (AG (AD kR (AC (AP 0 LM (o.device) rfl a1 (fun _ _ _ h=>FY h) fun a9 a3=>(AC (BJ U3_ rfl rfl a3 (AC (FA CY rfl (AC (AP 0 f_31_0 (d.id) rfl a2 (fun _ _ _ h=>HJ h) fun b0 a4=>(AC (BJ U3_ rfl rfl a4 (AC (DC .i64 o.device d.id rfl rfl (AC (AF (vO (o.device == d.id)) rfl (?_)))))))))))))))))))))))
 cases a0:(o.device == d.id)
 ·have a7:o.device≠d.id:=by simpa using a0
  refine AX rfl (AX rfl (AX rfl (AX rfl (AX rfl (AX rfl (AX rfl (AC (BM (vO false) rfl rfl (AC (AH (vO false) rfl (AE (AB (AS (AZ rfl (CX rfl rfl rfl) (?_)))))))))))))))
  have e:((o.device == d.id) && (o.no == d.counter+1))=false:=by simp [*]
  exact ⟨_,rfl,s0.keep,(by rfl)⟩
 have a8:o.device=d.id:=by simpa using a0
 refine BH rfl (AP 1 MY (o.no) rfl a1 (fun _ _ _ h=>GQ h) fun b1 a5=>(BH rfl (BJ U3_ rfl rfl a5 (BH rfl (FA CY rfl (BH rfl (AP 1 IG (d.counter) rfl a2 (fun _ _ _ h=>DQ h) fun b2 a6=>(BH rfl (BJ U3_ rfl rfl a6 (BH rfl (CE .i64 d.counter (1:Int) (d.counter+1) rfl rfl (EP oM rfl) (BH rfl (DC .i64 o.no (d.counter+1) rfl rfl (AC (BA (vO (o.no == (d.counter+1))) rfl rfl (AC (AH (vO (o.no == (d.counter+1))) rfl (AE (AB (AS (AZ rfl (CX rfl rfl rfl) (?_))))))))))))))))))))))
 have e:((o.device == d.id) && (o.no == d.counter+1))=(o.no == (d.counter+1)):=by simp [*]
 exact ⟨_,rfl,s0.keep,(by rfl)⟩
set_option maxHeartbeats 4000000 in
set_option maxRecDepth 100000 in
theorem c_act4 {O:List Nat} (d_a:Addr) (d:Device) (o_a:Addr) (o:DeviceOp) (w:World) (a2:PT Enc.device w O (.pointer (some d_a)) d) (a3:PT Enc.devop w O (.pointer (some o_a)) o) (hO:∀ b∈O,b<w.heap.size):CF Try.prog 83 [.pointer (some d_a), .pointer (some o_a)] w (fun v _=>v = .bool (!ES d.ops o)):= by
 have a2:PT Enc.device w ([]++O) (.pointer (some d_a)) d:=a2
 have a3:PT Enc.devop w ([]++O) (.pointer (some o_a)) o:=a3
 have s0:St w O w []:=St.start hO
 refine BS 9 Try.func83 rfl rfl oT (fun F0=>AG (AD kR (AC (AH (vO false) rfl (AE (AB (AG (AD kR (AC (FA CY rfl (AC (AP 2 EQ (d.ops) rfl a2 (fun _ _ _ h=>BL h) fun a7 a4=>(AC (OD U26_ rfl rfl a4 fun a1 a0=>(?_)))))))))))))))
 have:=a0.len_le
 refine AC (EX (first:=[]) (captured:=[.tmp 1]) [] [vP (some o_a)] rfl rfl (AC (BI (vs:=[a1,vN (.func 84) #[] #[vP (some o_a)]]) enter_57 (NW (O:=[]++O) a1 d.ops 84 [vP (some o_a)] (fun x_=>(x_.kind == 2) && (x_.copy == o.copy)) w a0 enter_84 (fun w'_ O'_ kk_ hs_ hl_ x__cs x_ hr_x_ =>c_act41 (O:=O'_) x__cs x_ o_a o w'_ hr_x_ (a3.on hs_ kk_) hl_) s0.lt) rfl s0 fun a8 a9 a5 b0 b1 a6=>(?_))))
 obtain rfl:=a6
 refine AC (EI (d.ops.any (fun x_=>(x_.kind == 2) && (x_.copy == o.copy))) rfl (AC (AH (vO (!(d.ops.any (fun x_=>(x_.kind == 2) && (x_.copy == o.copy))))) rfl (AE (AB (AS (AZ rfl (CX rfl rfl rfl) (?_))))))))
 have e:(!ES d.ops o)=(!(d.ops.any (fun x_=>(x_.kind == 2) && (x_.copy == o.copy)))):=rfl
 exact ⟨_,rfl,a5.keep,(by exact congrArg vO e.symm)⟩
set_option maxHeartbeats 4000000 in
set_option maxRecDepth 100000 in
theorem NP {O:List Nat} (d_cs:List Value) (d:Device) (o_cs:List Value) (o:DeviceOp) (crash:Int) (w:World) (o9:Enc.device.rd w O d_cs d) (K0:Enc.devop.rd w O o_cs o) (hO:∀ b∈O,b<w.heap.size):CF Try.prog 40 [.agg d_cs.toArray, .agg o_cs.toArray,vI crash] w (fun v w'=>∃ (x0:List Value),v = .tuple #[.agg x0.toArray,vI ((AV d o crash).2)]∧Enc.device.rd w' (O) x0 ((AV d o crash).1)):= by
 have o9:Enc.device.rd w ([]++O) d_cs d:=o9
 obtain rfl:=K0
 have s0:St w O w []:=St.start hO
 refine BS 68 Try.func40 rfl rfl oT (fun F0=>AG (AD kR (AC (DG (E:=Enc.device) (vA d_cs.toArray) (d_cs) d rfl rfl o9 s0 fun M5 M6 u7 M7 M8 c5=>(AC (DG (E:=Enc.devop) (vA #[vI o.device,vI o.no,vI o.kind,vI o.copy,vI o.to,vI o.token]) ([vI o.device,vI o.no,vI o.kind,vI o.copy,vI o.to,vI o.token]) o rfl rfl rfl u7 fun b6 M9 u9 v0 N0 a6=>(?_)))))))
 have c5:=c5.mv v0
 refine AC (DG (E:=Enc.int) (vI crash) ([vI crash]) crash rfl rfl rfl u9 fun c4 N1 v1 m5 N2 a4=>(?_))
 have c5:=c5.mv m5
 have a6:=a6.mv m5
 refine AC (CC [vI 0,vI 0,nS,vO false] HO rfl v1 fun a5 N3 v2 v3 j1 N4 a0=>(?_))
 clear v2
 have c5:=c5.mv j1
 have a6:=a6.mv j1
 have a4:=a4.mv j1
 refine AC (AH (vI 0) rfl (AE (AB (AG (AD kR (AC (BT U31_ rfl BG rfl c5 fun K1 p0=>(?_))))))))
 obtain ⟨b2,rfl,a2⟩:=p0
 have:=a2.len_le
 refine AC (CV (l:=[(0, .tmp 13)]) pl_112 z_112 rfl [(0,vA #[vI d.id,vI d.counter,b2,vO d.halted],[vI d.id,vI d.counter,b2,vO d.halted])] [vI d.id,vI d.counter,b2,vO d.halted] rfl ⟨_,rfl,rfl,oT,rfl⟩ (AC (CC [vI 0,vI 0,nS,vO false] z_112 rfl v3 fun a1 N5 v4 v5 j2 v6 p1=>(?_))))
 have d2:DB a5 a1:=by show a5≠a1;have:=a0.lt;omega
 clear v4
 have a6:=a6.mv j2
 have a4:=a4.mv j2
 have a2:=a2.mv j2
 have a0:=a0.keep v6 (by simp)
 refine BK (AU (vs:=[vI d.id,vI d.counter,b2,vO d.halted]) (.agg #[vI d.id,vI d.counter,b2,vO d.halted]) rfl rfl rfl NX (fun u hu=>by simp only [List.mem_cons,List.not_mem_nil,or_false] at hu;rcases hu with rfl|rfl|rfl|rfl <;> first|rfl|exact a2.oneCell) (by repeat (constructor)) p1 oT v5 fun N6 v7 j3 v8 a3=>(?_))
 have a6:=a6.mv j3
 have a4:=a4.mv j3
 have a2:=a2.mv j3
 have a0:=a0.keep v8 (AJ d2)
 refine AE (AB (AG (AD kR (AC (EX (first:=[]) (captured:=[.tmp 5]) [] [vP (some c4)] rfl rfl (AC (CV (l:=[(0, .tmp 15),(1, .const (vI 1))]) PF KE rfl [(0,vN (.func 78) #[] #[vP (some c4)],[vN (.func 78) #[] #[vP (some c4)]]),(1,vI 1,[vI 1])] [vN (.func 78) #[] #[vP (some c4)],vI 1] rfl ⟨_,rfl,rfl,oT,⟨_,rfl,rfl,oT,rfl⟩⟩ (AC (AQ (vs:=[vI d.id,vI d.counter,b2,vO d.halted]) U112_ rfl NX rfl a3 rfl (AC (EX (first:=[.tmp 17]) (captured:=[]) [vA #[vI d.id,vI d.counter,b2,vO d.halted]] [] rfl rfl (AC (CV (l:=[(0, .tmp 18),(1, .const (vI 420))]) PF KE rfl [(0,vN (.func 79) #[vA #[vI d.id,vI d.counter,b2,vO d.halted]] #[],[vN (.func 79) #[vA #[vI d.id,vI d.counter,b2,vO d.halted]] #[]]),(1,vI 420,[vI 420])] [vN (.func 79) #[vA #[vI d.id,vI d.counter,b2,vO d.halted]] #[],vI 420] rfl ⟨_,rfl,rfl,oT,⟨_,rfl,rfl,oT,rfl⟩⟩ (AC (EX (first:=[]) (captured:=[.tmp 8]) [] [vP (some ⟨a1,0,none⟩)] rfl rfl (AC (CV (l:=[(0, .tmp 20),(1, .const (vI 430))]) PF KE rfl [(0,vN (.func 80) #[] #[vP (some ⟨a1,0,none⟩)],[vN (.func 80) #[] #[vP (some ⟨a1,0,none⟩)]]),(1,vI 430,[vI 430])] [vN (.func 80) #[] #[vP (some ⟨a1,0,none⟩)],vI 430] rfl ⟨_,rfl,rfl,oT,⟨_,rfl,rfl,oT,rfl⟩⟩ (AC (EX (first:=[]) (captured:=[.tmp 4, .tmp 8]) [] [vP (some b6),vP (some ⟨a1,0,none⟩)] rfl rfl (AC (CV (l:=[(0, .tmp 22),(1, .const (vI 420))]) PF KE rfl [(0,vN (.func 82) #[] #[vP (some b6),vP (some ⟨a1,0,none⟩)],[vN (.func 82) #[] #[vP (some b6),vP (some ⟨a1,0,none⟩)]]),(1,vI 420,[vI 420])] [vN (.func 82) #[] #[vP (some b6),vP (some ⟨a1,0,none⟩)],vI 420] rfl ⟨_,rfl,rfl,oT,⟨_,rfl,rfl,oT,rfl⟩⟩ (AC (EX (first:=[]) (captured:=[.tmp 8, .tmp 4]) [] [vP (some ⟨a1,0,none⟩),vP (some b6)] rfl rfl (AC (CV (l:=[(0, .tmp 24),(1, .const (vI 420))]) PF KE rfl [(0,vN (.func 83) #[] #[vP (some ⟨a1,0,none⟩),vP (some b6)],[vN (.func 83) #[] #[vP (some ⟨a1,0,none⟩),vP (some b6)]]),(1,vI 420,[vI 420])] [vN (.func 83) #[] #[vP (some ⟨a1,0,none⟩),vP (some b6)],vI 420] rfl ⟨_,rfl,rfl,oT,⟨_,rfl,rfl,oT,rfl⟩⟩ (AC (EY (E:=(Enc.cells 2)) (xs:=[.tmp 16, .tmp 19, .tmp 21, .tmp 23, .tmp 25]) U114_ HQ KE (by decide) [vA #[vN (.func 78) #[] #[vP (some c4)],vI 1],vA #[vN (.func 79) #[vA #[vI d.id,vI d.counter,b2,vO d.halted]] #[],vI 420],vA #[vN (.func 80) #[] #[vP (some ⟨a1,0,none⟩)],vI 430],vA #[vN (.func 82) #[] #[vP (some b6),vP (some ⟨a1,0,none⟩)],vI 420],vA #[vN (.func 83) #[] #[vP (some ⟨a1,0,none⟩),vP (some b6)],vI 420]] [[vN (.func 78) #[] #[vP (some c4)],vI 1],[vN (.func 79) #[vA #[vI d.id,vI d.counter,b2,vO d.halted]] #[],vI 420],[vN (.func 80) #[] #[vP (some ⟨a1,0,none⟩)],vI 430],[vN (.func 82) #[] #[vP (some b6),vP (some ⟨a1,0,none⟩)],vI 420],[vN (.func 83) #[] #[vP (some ⟨a1,0,none⟩),vP (some b6)],vI 420]] [[vN (.func 78) #[] #[vP (some c4)],vI 1],[vN (.func 79) #[vA #[vI d.id,vI d.counter,b2,vO d.halted]] #[],vI 420],[vN (.func 80) #[] #[vP (some ⟨a1,0,none⟩)],vI 430],[vN (.func 82) #[] #[vP (some b6),vP (some ⟨a1,0,none⟩)],vI 420],[vN (.func 83) #[] #[vP (some ⟨a1,0,none⟩),vP (some b6)],vI 420]] rfl rfl rfl (Parts.cons rfl ⟨rfl,rfl,(fun u hu=>by simp only [List.mem_cons,List.not_mem_nil,or_false] at hu;rcases hu with rfl|rfl <;> rfl)⟩ (Parts.cons rfl ⟨rfl,rfl,(fun u hu=>by simp only [List.mem_cons,List.not_mem_nil,or_false] at hu;rcases hu with rfl|rfl <;> rfl)⟩ (Parts.cons rfl ⟨rfl,rfl,(fun u hu=>by simp only [List.mem_cons,List.not_mem_nil,or_false] at hu;rcases hu with rfl|rfl <;> rfl)⟩ (Parts.cons rfl ⟨rfl,rfl,(fun u hu=>by simp only [List.mem_cons,List.not_mem_nil,or_false] at hu;rcases hu with rfl|rfl <;> rfl)⟩ (Parts.cons rfl ⟨rfl,rfl,(fun u hu=>by simp only [List.mem_cons,List.not_mem_nil,or_false] at hu;rcases hu with rfl|rfl <;> rfl)⟩ (Parts.nil _ _ _)))))) oT v7 fun m6 N7 v9 j4 m7 b0=>(?_))))))))))))))))))))))))))))
 have a6:=a6.mv j4
 have a4:=a4.mv j4
 have a2:=a2.mv j4
 have a0:=a0.keep m7 (by simp)
 have a3:=a3.keep m7 (by simp)
 refine AC (AH (m6) rfl (AE (AB (AG (AG (AD kR (AC (AF (m6) rfl (AC (DS U114_ rfl b0 (AC (AF (vI 0) rfl (AE (AB (BN (cw_unroll 6 (JB ?_)))))))))))))))))
 refine AG (AD kR (AC (DR .i64 (0:Int) (5:Int) rfl rfl (AE (AB (AG (AK true rfl rfl (fun _=>AT (AB (AG (BN (AG (AD kR (AC (BZ U114_ HQ .i64 (0:Int) 0 rfl rfl rfl b0 (show 0<5 by decide) fun N8 p2=>(AC (BT U113_ rfl HQ rfl p2 fun p3 p4=>(?_))))))))))) (fun h=>by cases h))))))))
 obtain rfl:p3=[vN (.func 78) #[] #[vP (some c4)],vI 1]:=p4.1
 refine AC (CC [Value.nilFunc,vI 0] KE rfl v9 fun a8 N9 w0 w2 f2 m8 p5=>(?_))
 have h2:DB a5 a8:=by show a5≠a8;have:=a0.lt;omega
 have p6:DB a1 a8:=by show a1≠a8;have:=a3.lt;omega
 clear w0
 have a6:=a6.mv f2
 have a4:=a4.mv f2
 have b0:=b0.mv f2
 have a2:=a2.mv f2
 have a0:=a0.keep m8 (by simp)
 have a3:=a3.keep m8 (by simp)
 refine BK (AU (vs:=[vN (.func 78) #[] #[vP (some c4)],vI 1]) (.agg #[vN (.func 78) #[] #[vP (some c4)],vI 1]) rfl rfl rfl HQ (fun u hu=>by simp only [List.mem_cons,List.not_mem_nil,or_false] at hu;rcases hu with rfl|rfl <;> rfl) (by repeat (constructor)) p5 oT w2 fun w3 m9 f3 n0 a7=>(?_))
 have a6:=a6.mv f3
 have a4:=a4.mv f3
 have b0:=b0.mv f3
 have a2:=a2.mv f3
 have a0:=a0.keep n0 (AJ h2)
 have a3:=a3.keep n0 (AJ p6)
 refine AE (AB (AG (AD kR (AC (AM 0 LW rfl (AC (AR U23_ rfl (vN (.func 78) #[] #[vP (some c4)]) rfl a7 rfl (AC (GI (vs:=[vP (some c4)]) [] [vP (some c4)] [] enter_78 rfl (c_act1 (O:=(a8 :: (a1 :: (a5 :: [])))++O) c4 crash w3 a4 m9.lt) rfl rfl m9 fun O0 n1 f4 f5 j5 w4=>(?_))))))))))
 obtain rfl:=w4
 have a6:=a6.mv f5
 have a4:=a4.mv f5
 have b0:=b0.mv f5
 have a2:=a2.mv f5
 have a0:=a0.keep j5 (by simp)
 have a3:=a3.keep j5 (by simp)
 have a7:=a7.keep j5 (by simp)
 refine AC (EI (decide (0≤crash) && decide (crash≤2)) rfl (AE (AB (AK (!(decide (0≤crash) && decide (crash≤2))) rfl rfl (fun d3=>?_) (fun d3=>?_)))))
 ·have K2:(decide (0≤crash) && decide (crash≤2))=false:=by (have e:=d3;rw [Bool.not_eq_true'] at e;exact e)
  refine AG (IH 3 [1,2] _ _ _ [EK (vA #[vI 0,vI 0,nS,vO false]),EK (vP (some ⟨a8,1,none⟩)),EK (vI 1)] kR kR kR kR (by decide) rfl rfl rfl ⟨kI,kI,kI,trivial⟩ ⟨?_,?_,?_,trivial⟩ ?_ ?_)
  ·intro F1 w1 k1 hf hd
   have k0:=(Keep.drew [] n1).trans k1
   have a0:=a0.keep k0 (by simp)
   obtain ⟨F2,rfl⟩:=AY (F:=F1) [(6,vP (some ⟨a5,0,none⟩))] ⟨hf 6 kR,trivial⟩
   exact BB rfl ((AQ (vs:=[vI 0,vI 0,nS,vO false]) U31_ rfl BG rfl a0 rfl (⟨(Keep.refl _ _),rfl⟩)))
  ·intro F1 w1 k1 hf hd
   obtain ⟨F2,rfl⟩:=AY (F:=F1) [(11,vP (some ⟨a8,0,none⟩))] ⟨hf 11 kR,trivial⟩
   exact BB rfl ((AM 1 HI rfl (⟨(Keep.refl _ _),rfl⟩)))
  ·intro F1 w1 k1 hf hd
   have k0:=(Keep.drew [] n1).trans k1
   have a7:=a7.keep k0 (by simp)
   obtain ⟨F2,rfl⟩:=AY (F:=F1) [(38,vP (some ⟨a8,1,none⟩))] ⟨hd 1 38 kR,trivial⟩
   exact BB rfl ((AR U32_ rfl (vI 1) rfl a7 rfl (⟨(Keep.refl _ _),rfl⟩)))
  ·intro w5 O1 n3 h3 d4
   have w6:=f4.call n3
   have a0:=a0.keep n3 (by simp)
   obtain ⟨F2,rfl⟩:=AY (F:=w5) [(6,vP (some ⟨a5,0,none⟩)),(7,vI 0),(68,undef),(37,vA #[vI 0,vI 0,nS,vO false]),(39,vI 1)] ⟨d4 6 kR,d4 7 kR,d4 68 kR,h3 0 37 kR (by decide),h3 2 39 kR (by decide),trivial⟩
   clear h3 d4
   refine BK (AU (vs:=[vI 0,vI 0,nS,vO false]) (.agg #[vI 0,vI 0,nS,vO false]) rfl rfl rfl BG (fun u hu=>by simp only [List.mem_cons,List.not_mem_nil,or_false] at hu;rcases hu with rfl|rfl|rfl|rfl <;> rfl) (by repeat (constructor)) a0 oT w6 fun O2 w7 O3 O4 p7=>(AC (AH (vI 1) rfl (AE (AB (AS (BC (AN (AN (BC (AN (AZ rfl (FC rfl (HD (vs:=[vI 0,vI 0,nS,vO false]) rfl U31_ rfl BG rfl p7 rfl) (HE rfl rfl)) (?_)))))))))))))
   have w8:((AV d o crash).1)=(⟨(0:Int),(0:Int),[],false⟩:Device):=by exact congrArg (fun p=>p.1) (show AV d o crash=_ from NL aS)
   have w9:((AV d o crash).2)=(1:Int):=by exact congrArg (fun p=>p.2) (show AV d o crash=_ from NL aS)
   exact ⟨_,rfl,w7.keep,by rw [w8,w9];exact ⟨[vI 0,vI 0,nS,vO false],rfl,Enc.out (B:=(a8 :: (a1 :: (a5 :: [])))) ⟨.slice none 0 0,rfl,(CI.nil _ _ _)⟩⟩⟩
  intro cx_ hcx_
  match cx_,hcx_ with
  | 0,_=>
   intro x1 O5 j6 l9 c6
   have x2:=f4.call j6
   have a0:=a0.keep j6 (by simp)
   have a7:=a7.keep j6 (by simp)
   obtain ⟨F2,rfl⟩:=AY (F:=x1) [(6,vP (some ⟨a5,0,none⟩)),(7,vI 0),(11,vP (some ⟨a8,0,none⟩)),(68,undef),(37,vA #[vI 0,vI 0,nS,vO false])] ⟨c6 6 kR,c6 7 kR,c6 11 kR,c6 68 kR,l9 0 37 kR (by decide) (by decide),trivial⟩
   clear l9 c6
   refine BK (AU (vs:=[vI 0,vI 0,nS,vO false]) (.agg #[vI 0,vI 0,nS,vO false]) rfl rfl rfl BG (fun u hu=>by simp only [List.mem_cons,List.not_mem_nil,or_false] at hu;rcases hu with rfl|rfl|rfl|rfl <;> rfl) (by repeat (constructor)) a0 oT x2 fun O6 x3 O7 x4 p8=>(?_))
   have a7:=a7.keep x4 (AJ (Ne.symm h2))
   refine AC (AM 1 HI rfl (AC (AR U32_ rfl (vI 1) rfl a7 rfl (AC (AH (vI 1) rfl (AE (AB (AS (BC (AN (AN (BC (AN (AZ rfl (FC rfl (HD (vs:=[vI 0,vI 0,nS,vO false]) rfl U31_ rfl BG rfl p8 rfl) (HE rfl rfl)) (?_)))))))))))))))
   have x5:((AV d o crash).1)=(⟨(0:Int),(0:Int),[],false⟩:Device):=by exact congrArg (fun p=>p.1) (show AV d o crash=_ from NL aS)
   have x6:((AV d o crash).2)=(1:Int):=by exact congrArg (fun p=>p.2) (show AV d o crash=_ from NL aS)
   exact ⟨_,rfl,x3.keep,by rw [x5,x6];exact ⟨[vI 0,vI 0,nS,vO false],rfl,Enc.out (B:=(a8 :: (a1 :: (a5 :: [])))) ⟨.slice none 0 0,rfl,(CI.nil _ _ _)⟩⟩⟩
  | 1,_=>
   intro x7 O8 j7 h4 d5
   have x8:=f4.call j7
   have a0:=a0.keep j7 (by simp)
   have a7:=a7.keep j7 (by simp)
   obtain ⟨F2,rfl⟩:=AY (F:=x7) [(6,vP (some ⟨a5,0,none⟩)),(7,vI 0),(68,undef),(37,vA #[vI 0,vI 0,nS,vO false]),(38,vP (some ⟨a8,1,none⟩))] ⟨d5 6 kR,d5 7 kR,d5 68 kR,h4 0 37 kR (by decide) (by decide),h4 1 38 kR (by decide) (by decide),trivial⟩
   clear h4 d5
   refine BK (AU (vs:=[vI 0,vI 0,nS,vO false]) (.agg #[vI 0,vI 0,nS,vO false]) rfl rfl rfl BG (fun u hu=>by simp only [List.mem_cons,List.not_mem_nil,or_false] at hu;rcases hu with rfl|rfl|rfl|rfl <;> rfl) (by repeat (constructor)) a0 oT x8 fun O9 x9 P0 y0 p9=>(?_))
   have a7:=a7.keep y0 (AJ (Ne.symm h2))
   refine AC (AR U32_ rfl (vI 1) rfl a7 rfl (AC (AH (vI 1) rfl (AE (AB (AS (BC (AN (AN (BC (AN (AZ rfl (FC rfl (HD (vs:=[vI 0,vI 0,nS,vO false]) rfl U31_ rfl BG rfl p9 rfl) (HE rfl rfl)) (?_)))))))))))))
   have y1:((AV d o crash).1)=(⟨(0:Int),(0:Int),[],false⟩:Device):=by exact congrArg (fun p=>p.1) (show AV d o crash=_ from NL aS)
   have y2:((AV d o crash).2)=(1:Int):=by exact congrArg (fun p=>p.2) (show AV d o crash=_ from NL aS)
   exact ⟨_,rfl,x9.keep,by rw [y1,y2];exact ⟨[vI 0,vI 0,nS,vO false],rfl,Enc.out (B:=(a8 :: (a1 :: (a5 :: [])))) ⟨.slice none 0 0,rfl,(CI.nil _ _ _)⟩⟩⟩
 have K3:(decide (0≤crash) && decide (crash≤2))=true:=by simpa using d3
 have hcr:0≤crash∧crash≤2:=by simpa using d3
 refine AT (AW (AB (AD kR (AC (CE .i64 (0:Int) (1:Int) ((1:Int)) rfl rfl (EP oM oM) (AC (AF (vI 1) rfl (AE (AB (JB ?_))))))))))
 refine AG (AD kR (AC (DR .i64 (1:Int) (5:Int) rfl rfl (AE (AB (AG (AK true rfl rfl (fun _=>AT (AB (AG (BN (AG (AD kR (AC (BZ U114_ HQ .i64 (1:Int) 1 rfl rfl rfl b0 (show 1<5 by decide) fun P1 q0=>(AC (BT U113_ rfl HQ rfl q0 fun q1 q2=>(?_))))))))))) (fun h=>by cases h))))))))
 obtain rfl:q1=[vN (.func 79) #[vA #[vI d.id,vI d.counter,b2,vO d.halted]] #[],vI 420]:=q2.1
 refine AC (CC [Value.nilFunc,vI 0] KE rfl f4 fun b1 P2 y3 y4 f6 j8 q3=>(?_))
 have h5:DB a5 b1:=by show a5≠b1;have:=a0.lt;omega
 have q4:DB a1 b1:=by show a1≠b1;have:=a3.lt;omega
 have q5:DB a8 b1:=by show a8≠b1;have:=a7.lt;omega
 clear y3
 have a6:=a6.mv f6
 have a4:=a4.mv f6
 have b0:=b0.mv f6
 have a2:=a2.mv f6
 have a0:=a0.keep j8 (by simp)
 have a3:=a3.keep j8 (by simp)
 have a7:=a7.keep j8 (by simp)
 refine BK (AU (vs:=[vN (.func 79) #[vA #[vI d.id,vI d.counter,b2,vO d.halted]] #[],vI 420]) (.agg #[vN (.func 79) #[vA #[vI d.id,vI d.counter,b2,vO d.halted]] #[],vI 420]) rfl rfl rfl HQ (fun u hu=>by simp only [List.mem_cons,List.not_mem_nil,or_false] at hu;rcases hu with rfl|rfl <;> rfl) (by repeat (constructor)) q3 oT y4 fun y5 n5 f7 j9 a9=>(?_))
 have a6:=a6.mv f7
 have a4:=a4.mv f7
 have b0:=b0.mv f7
 have a2:=a2.mv f7
 have a0:=a0.keep j9 (AJ h5)
 have a3:=a3.keep j9 (AJ q4)
 have a7:=a7.keep j9 (AJ q5)
 refine AE (AB (AG (AD kR (AC (AM 0 LW rfl (AC (AR U23_ rfl (vN (.func 79) #[vA #[vI d.id,vI d.counter,b2,vO d.halted]] #[]) rfl a9 rfl (AC (GI (vs:=[vA #[vI d.id,vI d.counter,b2,vO d.halted]]) [vA #[vI d.id,vI d.counter,b2,vO d.halted]] [] [] OP rfl (PE (O:=(b1 :: (a8 :: (a1 :: (a5 :: []))))++O) [vI d.id,vI d.counter,b2,vO d.halted] d y5 ⟨_,rfl,a2⟩ n5.lt) rfl rfl n5 fun P3 n6 f8 f9 g0 y6=>(?_))))))))))
 obtain rfl:=y6
 have a6:=a6.mv f9
 have a4:=a4.mv f9
 have b0:=b0.mv f9
 have a2:=a2.mv f9
 have a0:=a0.keep g0 (by simp)
 have a3:=a3.keep g0 (by simp)
 have a7:=a7.keep g0 (by simp)
 have a9:=a9.keep g0 (by simp)
 refine AC (EI (CB d) rfl (AE (AB (AK (!(CB d)) rfl rfl (fun d6=>?_) (fun d6=>?_)))))
 ·have K4:(CB d)=false:=by simpa using d6
  refine AG (IH 3 [1,2] _ _ _ [EK (vA #[vI 0,vI 0,nS,vO false]),EK (vP (some ⟨b1,1,none⟩)),EK (vI 420)] kR kR kR kR (by decide) rfl rfl rfl ⟨kI,kI,kI,trivial⟩ ⟨?_,?_,?_,trivial⟩ ?_ ?_)
  ·intro F1 w1 k1 hf hd
   have k0:=(Keep.drew [] n6).trans k1
   have a0:=a0.keep k0 (by simp)
   obtain ⟨F2,rfl⟩:=AY (F:=F1) [(6,vP (some ⟨a5,0,none⟩))] ⟨hf 6 kR,trivial⟩
   exact BB rfl ((AQ (vs:=[vI 0,vI 0,nS,vO false]) U31_ rfl BG rfl a0 rfl (⟨(Keep.refl _ _),rfl⟩)))
  ·intro F1 w1 k1 hf hd
   obtain ⟨F2,rfl⟩:=AY (F:=F1) [(11,vP (some ⟨b1,0,none⟩))] ⟨hf 11 kR,trivial⟩
   exact BB rfl ((AM 1 HI rfl (⟨(Keep.refl _ _),rfl⟩)))
  ·intro F1 w1 k1 hf hd
   have k0:=(Keep.drew [] n6).trans k1
   have a9:=a9.keep k0 (by simp)
   obtain ⟨F2,rfl⟩:=AY (F:=F1) [(38,vP (some ⟨b1,1,none⟩))] ⟨hd 1 38 kR,trivial⟩
   exact BB rfl ((AR U32_ rfl (vI 420) rfl a9 rfl (⟨(Keep.refl _ _),rfl⟩)))
  ·intro y7 P4 n7 h6 d7
   have y8:=f8.call n7
   have a0:=a0.keep n7 (by simp)
   obtain ⟨F2,rfl⟩:=AY (F:=y7) [(6,vP (some ⟨a5,0,none⟩)),(7,vI 0),(68,undef),(37,vA #[vI 0,vI 0,nS,vO false]),(39,vI 420)] ⟨d7 6 kR,d7 7 kR,d7 68 kR,h6 0 37 kR (by decide),h6 2 39 kR (by decide),trivial⟩
   clear h6 d7
   refine BK (AU (vs:=[vI 0,vI 0,nS,vO false]) (.agg #[vI 0,vI 0,nS,vO false]) rfl rfl rfl BG (fun u hu=>by simp only [List.mem_cons,List.not_mem_nil,or_false] at hu;rcases hu with rfl|rfl|rfl|rfl <;> rfl) (by repeat (constructor)) a0 oT y8 fun P5 y9 P6 P7 q6=>(AC (AH (vI 420) rfl (AE (AB (AS (BC (AN (AN (BC (AN (AZ rfl (FC rfl (HD (vs:=[vI 0,vI 0,nS,vO false]) rfl U31_ rfl BG rfl q6 rfl) (HE rfl rfl)) (?_)))))))))))))
   have z0:((AV d o crash).1)=(⟨(0:Int),(0:Int),[],false⟩:Device):=by exact congrArg (fun p=>p.1) (show AV d o crash=_ from QK hcr.1 hcr.2 aS)
   have z1:((AV d o crash).2)=(420:Int):=by exact congrArg (fun p=>p.2) (show AV d o crash=_ from QK hcr.1 hcr.2 aS)
   exact ⟨_,rfl,y9.keep,by rw [z0,z1];exact ⟨[vI 0,vI 0,nS,vO false],rfl,Enc.out (B:=(b1 :: (a8 :: (a1 :: (a5 :: []))))) ⟨.slice none 0 0,rfl,(CI.nil _ _ _)⟩⟩⟩
  intro cx_ hcx_
  match cx_,hcx_ with
  | 0,_=>
   intro z2 P8 k5 m0 c7
   have z3:=f8.call k5
   have a0:=a0.keep k5 (by simp)
   have a9:=a9.keep k5 (by simp)
   obtain ⟨F2,rfl⟩:=AY (F:=z2) [(6,vP (some ⟨a5,0,none⟩)),(7,vI 0),(11,vP (some ⟨b1,0,none⟩)),(68,undef),(37,vA #[vI 0,vI 0,nS,vO false])] ⟨c7 6 kR,c7 7 kR,c7 11 kR,c7 68 kR,m0 0 37 kR (by decide) (by decide),trivial⟩
   clear m0 c7
   refine BK (AU (vs:=[vI 0,vI 0,nS,vO false]) (.agg #[vI 0,vI 0,nS,vO false]) rfl rfl rfl BG (fun u hu=>by simp only [List.mem_cons,List.not_mem_nil,or_false] at hu;rcases hu with rfl|rfl|rfl|rfl <;> rfl) (by repeat (constructor)) a0 oT z3 fun P9 z4 Q0 z5 q7=>(?_))
   have a9:=a9.keep z5 (AJ (Ne.symm h5))
   refine AC (AM 1 HI rfl (AC (AR U32_ rfl (vI 420) rfl a9 rfl (AC (AH (vI 420) rfl (AE (AB (AS (BC (AN (AN (BC (AN (AZ rfl (FC rfl (HD (vs:=[vI 0,vI 0,nS,vO false]) rfl U31_ rfl BG rfl q7 rfl) (HE rfl rfl)) (?_)))))))))))))))
   have z6:((AV d o crash).1)=(⟨(0:Int),(0:Int),[],false⟩:Device):=by exact congrArg (fun p=>p.1) (show AV d o crash=_ from QK hcr.1 hcr.2 aS)
   have z7:((AV d o crash).2)=(420:Int):=by exact congrArg (fun p=>p.2) (show AV d o crash=_ from QK hcr.1 hcr.2 aS)
   exact ⟨_,rfl,z4.keep,by rw [z6,z7];exact ⟨[vI 0,vI 0,nS,vO false],rfl,Enc.out (B:=(b1 :: (a8 :: (a1 :: (a5 :: []))))) ⟨.slice none 0 0,rfl,(CI.nil _ _ _)⟩⟩⟩
  | 1,_=>
   intro z8 Q1 k6 h7 d8
   have z9:=f8.call k6
   have a0:=a0.keep k6 (by simp)
   have a9:=a9.keep k6 (by simp)
   obtain ⟨F2,rfl⟩:=AY (F:=z8) [(6,vP (some ⟨a5,0,none⟩)),(7,vI 0),(68,undef),(37,vA #[vI 0,vI 0,nS,vO false]),(38,vP (some ⟨b1,1,none⟩))] ⟨d8 6 kR,d8 7 kR,d8 68 kR,h7 0 37 kR (by decide) (by decide),h7 1 38 kR (by decide) (by decide),trivial⟩
   clear h7 d8
   refine BK (AU (vs:=[vI 0,vI 0,nS,vO false]) (.agg #[vI 0,vI 0,nS,vO false]) rfl rfl rfl BG (fun u hu=>by simp only [List.mem_cons,List.not_mem_nil,or_false] at hu;rcases hu with rfl|rfl|rfl|rfl <;> rfl) (by repeat (constructor)) a0 oT z9 fun Q2 A0 Q3 A1 q8=>(?_))
   have a9:=a9.keep A1 (AJ (Ne.symm h5))
   refine AC (AR U32_ rfl (vI 420) rfl a9 rfl (AC (AH (vI 420) rfl (AE (AB (AS (BC (AN (AN (BC (AN (AZ rfl (FC rfl (HD (vs:=[vI 0,vI 0,nS,vO false]) rfl U31_ rfl BG rfl q8 rfl) (HE rfl rfl)) (?_)))))))))))))
   have A2:((AV d o crash).1)=(⟨(0:Int),(0:Int),[],false⟩:Device):=by exact congrArg (fun p=>p.1) (show AV d o crash=_ from QK hcr.1 hcr.2 aS)
   have A3:((AV d o crash).2)=(420:Int):=by exact congrArg (fun p=>p.2) (show AV d o crash=_ from QK hcr.1 hcr.2 aS)
   exact ⟨_,rfl,A0.keep,by rw [A2,A3];exact ⟨[vI 0,vI 0,nS,vO false],rfl,Enc.out (B:=(b1 :: (a8 :: (a1 :: (a5 :: []))))) ⟨.slice none 0 0,rfl,(CI.nil _ _ _)⟩⟩⟩
 have K5:(CB d)=true:=by simpa using d6
 have hfm:CB d=true:=by simpa using d6
 have hfb:=formed_b hfm
 have hchk:=formed_ok hfm
 refine AT (AW (AB (AD kR (AC (CE .i64 (1:Int) (1:Int) ((2:Int)) rfl rfl (EP oM oM) (AC (AF (vI 2) rfl (AE (AB (JB ?_))))))))))
 refine AG (AD kR (AC (DR .i64 (2:Int) (5:Int) rfl rfl (AE (AB (AG (AK true rfl rfl (fun _=>AT (AB (AG (BN (AG (AD kR (AC (BZ U114_ HQ .i64 (2:Int) 2 rfl rfl rfl b0 (show 2<5 by decide) fun Q4 q9=>(AC (BT U113_ rfl HQ rfl q9 fun r0 r1=>(?_))))))))))) (fun h=>by cases h))))))))
 obtain rfl:r0=[vN (.func 80) #[] #[vP (some ⟨a1,0,none⟩)],vI 430]:=r1.1
 refine AC (CC [Value.nilFunc,vI 0] KE rfl f8 fun b3 Q5 A4 A5 g1 g2 r2=>(?_))
 have h8:DB a5 b3:=by show a5≠b3;have:=a0.lt;omega
 have r3:DB a1 b3:=by show a1≠b3;have:=a3.lt;omega
 have r4:DB a8 b3:=by show a8≠b3;have:=a7.lt;omega
 have r5:DB b1 b3:=by show b1≠b3;have:=a9.lt;omega
 clear A4
 have a6:=a6.mv g1
 have a4:=a4.mv g1
 have b0:=b0.mv g1
 have a2:=a2.mv g1
 have a0:=a0.keep g2 (by simp)
 have a3:=a3.keep g2 (by simp)
 have a7:=a7.keep g2 (by simp)
 have a9:=a9.keep g2 (by simp)
 refine BK (AU (vs:=[vN (.func 80) #[] #[vP (some ⟨a1,0,none⟩)],vI 430]) (.agg #[vN (.func 80) #[] #[vP (some ⟨a1,0,none⟩)],vI 430]) rfl rfl rfl HQ (fun u hu=>by simp only [List.mem_cons,List.not_mem_nil,or_false] at hu;rcases hu with rfl|rfl <;> rfl) (by repeat (constructor)) r2 oT A5 fun A6 A7 g3 g4 b4=>(?_))
 have a6:=a6.mv g3
 have a4:=a4.mv g3
 have b0:=b0.mv g3
 have a2:=a2.mv g3
 have a0:=a0.keep g4 (AJ h8)
 have a3:=a3.keep g4 (AJ r3)
 have a7:=a7.keep g4 (AJ r4)
 have a9:=a9.keep g4 (AJ r5)
 refine AE (AB (AG (AD kR (AC (AM 0 LW rfl (AC (AR U23_ rfl (vN (.func 80) #[] #[vP (some ⟨a1,0,none⟩)]) rfl b4 rfl (AC (GI (vs:=[vP (some ⟨a1,0,none⟩)]) [] [vP (some ⟨a1,0,none⟩)] [] enter_80 rfl (c_act2 (O:=[]) ⟨a1,0,none⟩ d A6 (PT.of_box a3 ⟨_,rfl,a2.rd0⟩ (fun h=>by cases h)) JA) rfl rfl A7 fun Q6 n9 g5 g6 d9 A8=>(?_))))))))))
 obtain rfl:=A8
 have a6:=a6.mv g6
 have a4:=a4.mv g6
 have b0:=b0.mv g6
 have a2:=a2.mv g6
 have a0:=a0.keep d9 (by simp)
 have a3:=a3.keep d9 (by simp)
 have a7:=a7.keep d9 (by simp)
 have a9:=a9.keep d9 (by simp)
 have b4:=b4.keep d9 (by simp)
 refine AC (EI (!d.halted && CS d) rfl (AE (AB (AK (!(!d.halted && CS d)) rfl rfl (fun e0=>?_) (fun e0=>?_)))))
 ·have K6:(!d.halted && CS d)=false:=by (have e:=e0;rw [Bool.not_eq_true'] at e;exact e)
  refine AG (IH 3 [1,2] _ _ _ [EK (vA #[vI 0,vI 0,nS,vO false]),EK (vP (some ⟨b3,1,none⟩)),EK (vI 430)] kR kR kR kR (by decide) rfl rfl rfl ⟨kI,kI,kI,trivial⟩ ⟨?_,?_,?_,trivial⟩ ?_ ?_)
  ·intro F1 w1 k1 hf hd
   have k0:=(Keep.drew [] n9).trans k1
   have a0:=a0.keep k0 (by simp)
   obtain ⟨F2,rfl⟩:=AY (F:=F1) [(6,vP (some ⟨a5,0,none⟩))] ⟨hf 6 kR,trivial⟩
   exact BB rfl ((AQ (vs:=[vI 0,vI 0,nS,vO false]) U31_ rfl BG rfl a0 rfl (⟨(Keep.refl _ _),rfl⟩)))
  ·intro F1 w1 k1 hf hd
   obtain ⟨F2,rfl⟩:=AY (F:=F1) [(11,vP (some ⟨b3,0,none⟩))] ⟨hf 11 kR,trivial⟩
   exact BB rfl ((AM 1 HI rfl (⟨(Keep.refl _ _),rfl⟩)))
  ·intro F1 w1 k1 hf hd
   have k0:=(Keep.drew [] n9).trans k1
   have b4:=b4.keep k0 (by simp)
   obtain ⟨F2,rfl⟩:=AY (F:=F1) [(38,vP (some ⟨b3,1,none⟩))] ⟨hd 1 38 kR,trivial⟩
   exact BB rfl ((AR U32_ rfl (vI 430) rfl b4 rfl (⟨(Keep.refl _ _),rfl⟩)))
  ·intro A9 Q7 o0 h9 e1
   have B0:=g5.call o0
   have a0:=a0.keep o0 (by simp)
   obtain ⟨F2,rfl⟩:=AY (F:=A9) [(6,vP (some ⟨a5,0,none⟩)),(7,vI 0),(68,undef),(37,vA #[vI 0,vI 0,nS,vO false]),(39,vI 430)] ⟨e1 6 kR,e1 7 kR,e1 68 kR,h9 0 37 kR (by decide),h9 2 39 kR (by decide),trivial⟩
   clear h9 e1
   refine BK (AU (vs:=[vI 0,vI 0,nS,vO false]) (.agg #[vI 0,vI 0,nS,vO false]) rfl rfl rfl BG (fun u hu=>by simp only [List.mem_cons,List.not_mem_nil,or_false] at hu;rcases hu with rfl|rfl|rfl|rfl <;> rfl) (by repeat (constructor)) a0 oT B0 fun Q8 B1 Q9 R0 r6=>(AC (AH (vI 430) rfl (AE (AB (AS (BC (AN (AN (BC (AN (AZ rfl (FC rfl (HD (vs:=[vI 0,vI 0,nS,vO false]) rfl U31_ rfl BG rfl r6 rfl) (HE rfl rfl)) (?_)))))))))))))
   have B2:((AV d o crash).1)=(⟨(0:Int),(0:Int),[],false⟩:Device):=by exact congrArg (fun p=>p.1) (show AV d o crash=_ from NO hcr.1 hcr.2 hfm aS)
   have B3:((AV d o crash).2)=(430:Int):=by exact congrArg (fun p=>p.2) (show AV d o crash=_ from NO hcr.1 hcr.2 hfm aS)
   exact ⟨_,rfl,B1.keep,by rw [B2,B3];exact ⟨[vI 0,vI 0,nS,vO false],rfl,Enc.out (B:=(b3 :: (b1 :: (a8 :: (a1 :: (a5 :: [])))))) ⟨.slice none 0 0,rfl,(CI.nil _ _ _)⟩⟩⟩
  intro cx_ hcx_
  match cx_,hcx_ with
  | 0,_=>
   intro B4 R1 k7 m1 c8
   have B5:=g5.call k7
   have a0:=a0.keep k7 (by simp)
   have b4:=b4.keep k7 (by simp)
   obtain ⟨F2,rfl⟩:=AY (F:=B4) [(6,vP (some ⟨a5,0,none⟩)),(7,vI 0),(11,vP (some ⟨b3,0,none⟩)),(68,undef),(37,vA #[vI 0,vI 0,nS,vO false])] ⟨c8 6 kR,c8 7 kR,c8 11 kR,c8 68 kR,m1 0 37 kR (by decide) (by decide),trivial⟩
   clear m1 c8
   refine BK (AU (vs:=[vI 0,vI 0,nS,vO false]) (.agg #[vI 0,vI 0,nS,vO false]) rfl rfl rfl BG (fun u hu=>by simp only [List.mem_cons,List.not_mem_nil,or_false] at hu;rcases hu with rfl|rfl|rfl|rfl <;> rfl) (by repeat (constructor)) a0 oT B5 fun R2 B6 R3 B7 r7=>(?_))
   have b4:=b4.keep B7 (AJ (Ne.symm h8))
   refine AC (AM 1 HI rfl (AC (AR U32_ rfl (vI 430) rfl b4 rfl (AC (AH (vI 430) rfl (AE (AB (AS (BC (AN (AN (BC (AN (AZ rfl (FC rfl (HD (vs:=[vI 0,vI 0,nS,vO false]) rfl U31_ rfl BG rfl r7 rfl) (HE rfl rfl)) (?_)))))))))))))))
   have B8:((AV d o crash).1)=(⟨(0:Int),(0:Int),[],false⟩:Device):=by exact congrArg (fun p=>p.1) (show AV d o crash=_ from NO hcr.1 hcr.2 hfm aS)
   have B9:((AV d o crash).2)=(430:Int):=by exact congrArg (fun p=>p.2) (show AV d o crash=_ from NO hcr.1 hcr.2 hfm aS)
   exact ⟨_,rfl,B6.keep,by rw [B8,B9];exact ⟨[vI 0,vI 0,nS,vO false],rfl,Enc.out (B:=(b3 :: (b1 :: (a8 :: (a1 :: (a5 :: [])))))) ⟨.slice none 0 0,rfl,(CI.nil _ _ _)⟩⟩⟩
  | 1,_=>
   intro C0 R4 k8 i0 e2
   have C1:=g5.call k8
   have a0:=a0.keep k8 (by simp)
   have b4:=b4.keep k8 (by simp)
   obtain ⟨F2,rfl⟩:=AY (F:=C0) [(6,vP (some ⟨a5,0,none⟩)),(7,vI 0),(68,undef),(37,vA #[vI 0,vI 0,nS,vO false]),(38,vP (some ⟨b3,1,none⟩))] ⟨e2 6 kR,e2 7 kR,e2 68 kR,i0 0 37 kR (by decide) (by decide),i0 1 38 kR (by decide) (by decide),trivial⟩
   clear i0 e2
   refine BK (AU (vs:=[vI 0,vI 0,nS,vO false]) (.agg #[vI 0,vI 0,nS,vO false]) rfl rfl rfl BG (fun u hu=>by simp only [List.mem_cons,List.not_mem_nil,or_false] at hu;rcases hu with rfl|rfl|rfl|rfl <;> rfl) (by repeat (constructor)) a0 oT C1 fun R5 C2 R6 C3 r8=>(?_))
   have b4:=b4.keep C3 (AJ (Ne.symm h8))
   refine AC (AR U32_ rfl (vI 430) rfl b4 rfl (AC (AH (vI 430) rfl (AE (AB (AS (BC (AN (AN (BC (AN (AZ rfl (FC rfl (HD (vs:=[vI 0,vI 0,nS,vO false]) rfl U31_ rfl BG rfl r8 rfl) (HE rfl rfl)) (?_)))))))))))))
   have C4:((AV d o crash).1)=(⟨(0:Int),(0:Int),[],false⟩:Device):=by exact congrArg (fun p=>p.1) (show AV d o crash=_ from NO hcr.1 hcr.2 hfm aS)
   have C5:((AV d o crash).2)=(430:Int):=by exact congrArg (fun p=>p.2) (show AV d o crash=_ from NO hcr.1 hcr.2 hfm aS)
   exact ⟨_,rfl,C2.keep,by rw [C4,C5];exact ⟨[vI 0,vI 0,nS,vO false],rfl,Enc.out (B:=(b3 :: (b1 :: (a8 :: (a1 :: (a5 :: [])))))) ⟨.slice none 0 0,rfl,(CI.nil _ _ _)⟩⟩⟩
 have K7:(!d.halted && CS d)=true:=by simpa using e0
 have hhw:d.halted=false∧CS d=true:=by simpa using e0
 refine AT (AW (AB (AD kR (AC (CE .i64 (2:Int) (1:Int) ((3:Int)) rfl rfl (EP oM oM) (AC (AF (vI 3) rfl (AE (AB (JB ?_))))))))))
 refine AG (AD kR (AC (DR .i64 (3:Int) (5:Int) rfl rfl (AE (AB (AG (AK true rfl rfl (fun _=>AT (AB (AG (BN (AG (AD kR (AC (BZ U114_ HQ .i64 (3:Int) 3 rfl rfl rfl b0 (show 3<5 by decide) fun R7 r9=>(AC (BT U113_ rfl HQ rfl r9 fun s1 s2=>(?_))))))))))) (fun h=>by cases h))))))))
 obtain rfl:s1=[vN (.func 82) #[] #[vP (some b6),vP (some ⟨a1,0,none⟩)],vI 420]:=s2.1
 refine AC (CC [Value.nilFunc,vI 0] KE rfl g5 fun b5 R8 C6 C7 g7 e3 s3=>(?_))
 have i1:DB a5 b5:=by show a5≠b5;have:=a0.lt;omega
 have s4:DB a1 b5:=by show a1≠b5;have:=a3.lt;omega
 have s5:DB a8 b5:=by show a8≠b5;have:=a7.lt;omega
 have s6:DB b1 b5:=by show b1≠b5;have:=a9.lt;omega
 have s7:DB b3 b5:=by show b3≠b5;have:=b4.lt;omega
 clear C6
 have a6:=a6.mv g7
 have a4:=a4.mv g7
 have b0:=b0.mv g7
 have a2:=a2.mv g7
 have a0:=a0.keep e3 (by simp)
 have a3:=a3.keep e3 (by simp)
 have a7:=a7.keep e3 (by simp)
 have a9:=a9.keep e3 (by simp)
 have b4:=b4.keep e3 (by simp)
 refine BK (AU (vs:=[vN (.func 82) #[] #[vP (some b6),vP (some ⟨a1,0,none⟩)],vI 420]) (.agg #[vN (.func 82) #[] #[vP (some b6),vP (some ⟨a1,0,none⟩)],vI 420]) rfl rfl rfl HQ (fun u hu=>by simp only [List.mem_cons,List.not_mem_nil,or_false] at hu;rcases hu with rfl|rfl <;> rfl) (by repeat (constructor)) s3 oT C7 fun C8 C9 g8 e4 b8=>(?_))
 have a6:=a6.mv g8
 have a4:=a4.mv g8
 have b0:=b0.mv g8
 have a2:=a2.mv g8
 have a0:=a0.keep e4 (AJ i1)
 have a3:=a3.keep e4 (AJ s4)
 have a7:=a7.keep e4 (AJ s5)
 have a9:=a9.keep e4 (AJ s6)
 have b4:=b4.keep e4 (AJ s7)
 refine AE (AB (AG (AD kR (AC (AM 0 LW rfl (AC (AR U23_ rfl (vN (.func 82) #[] #[vP (some b6),vP (some ⟨a1,0,none⟩)]) rfl b8 rfl (AC (GI (vs:=[vP (some b6),vP (some ⟨a1,0,none⟩)]) [] [vP (some b6),vP (some ⟨a1,0,none⟩)] [] enter_82 rfl (c_act3 (O:=[]) b6 o ⟨a1,0,none⟩ d C8 (a6.sub (fun _ h=>by cases h)) (PT.of_box a3 ⟨_,rfl,a2.rd0⟩ (fun h=>by cases h)) oM oM JA) rfl rfl C9 fun R9 o1 g9 h0 d1 D0=>(?_))))))))))
 obtain rfl:=D0
 have a6:=a6.mv h0
 have a4:=a4.mv h0
 have b0:=b0.mv h0
 have a2:=a2.mv h0
 have a0:=a0.keep d1 (by simp)
 have a3:=a3.keep d1 (by simp)
 have a7:=a7.keep d1 (by simp)
 have a9:=a9.keep d1 (by simp)
 have b4:=b4.keep d1 (by simp)
 have b8:=b8.keep d1 (by simp)
 refine AC (EI ((o.device == d.id) && (o.no == d.counter+1)) rfl (AE (AB (AK (!((o.device == d.id) && (o.no == d.counter+1))) rfl rfl (fun e5=>?_) (fun e5=>?_)))))
 ·have K8:((o.device == d.id) && (o.no == d.counter+1))=false:=by (have e:=e5;rw [Bool.not_eq_true'] at e;exact e)
  refine AG (IH 3 [1,2] _ _ _ [EK (vA #[vI 0,vI 0,nS,vO false]),EK (vP (some ⟨b5,1,none⟩)),EK (vI 420)] kR kR kR kR (by decide) rfl rfl rfl ⟨kI,kI,kI,trivial⟩ ⟨?_,?_,?_,trivial⟩ ?_ ?_)
  ·intro F1 w1 k1 hf hd
   have k0:=(Keep.drew [] o1).trans k1
   have a0:=a0.keep k0 (by simp)
   obtain ⟨F2,rfl⟩:=AY (F:=F1) [(6,vP (some ⟨a5,0,none⟩))] ⟨hf 6 kR,trivial⟩
   exact BB rfl ((AQ (vs:=[vI 0,vI 0,nS,vO false]) U31_ rfl BG rfl a0 rfl (⟨(Keep.refl _ _),rfl⟩)))
  ·intro F1 w1 k1 hf hd
   obtain ⟨F2,rfl⟩:=AY (F:=F1) [(11,vP (some ⟨b5,0,none⟩))] ⟨hf 11 kR,trivial⟩
   exact BB rfl ((AM 1 HI rfl (⟨(Keep.refl _ _),rfl⟩)))
  ·intro F1 w1 k1 hf hd
   have k0:=(Keep.drew [] o1).trans k1
   have b8:=b8.keep k0 (by simp)
   obtain ⟨F2,rfl⟩:=AY (F:=F1) [(38,vP (some ⟨b5,1,none⟩))] ⟨hd 1 38 kR,trivial⟩
   exact BB rfl ((AR U32_ rfl (vI 420) rfl b8 rfl (⟨(Keep.refl _ _),rfl⟩)))
  ·intro D1 S0 o2 i2 e6
   have D2:=g9.call o2
   have a0:=a0.keep o2 (by simp)
   obtain ⟨F2,rfl⟩:=AY (F:=D1) [(6,vP (some ⟨a5,0,none⟩)),(7,vI 0),(68,undef),(37,vA #[vI 0,vI 0,nS,vO false]),(39,vI 420)] ⟨e6 6 kR,e6 7 kR,e6 68 kR,i2 0 37 kR (by decide),i2 2 39 kR (by decide),trivial⟩
   clear i2 e6
   refine BK (AU (vs:=[vI 0,vI 0,nS,vO false]) (.agg #[vI 0,vI 0,nS,vO false]) rfl rfl rfl BG (fun u hu=>by simp only [List.mem_cons,List.not_mem_nil,or_false] at hu;rcases hu with rfl|rfl|rfl|rfl <;> rfl) (by repeat (constructor)) a0 oT D2 fun S1 D3 S2 S3 s8=>(AC (AH (vI 420) rfl (AE (AB (AS (BC (AN (AN (BC (AN (AZ rfl (FC rfl (HD (vs:=[vI 0,vI 0,nS,vO false]) rfl U31_ rfl BG rfl s8 rfl) (HE rfl rfl)) (?_)))))))))))))
   have D4:((AV d o crash).1)=(⟨(0:Int),(0:Int),[],false⟩:Device):=by exact congrArg (fun p=>p.1) (show AV d o crash=_ from MT hcr.1 hcr.2 hfm hhw.1 hhw.2 aS)
   have D5:((AV d o crash).2)=(420:Int):=by exact congrArg (fun p=>p.2) (show AV d o crash=_ from MT hcr.1 hcr.2 hfm hhw.1 hhw.2 aS)
   exact ⟨_,rfl,D3.keep,by rw [D4,D5];exact ⟨[vI 0,vI 0,nS,vO false],rfl,Enc.out (B:=(b5 :: (b3 :: (b1 :: (a8 :: (a1 :: (a5 :: []))))))) ⟨.slice none 0 0,rfl,(CI.nil _ _ _)⟩⟩⟩
  intro cx_ hcx_
  match cx_,hcx_ with
  | 0,_=>
   intro D6 S4 k9 m2 c9
   have D7:=g9.call k9
   have a0:=a0.keep k9 (by simp)
   have b8:=b8.keep k9 (by simp)
   obtain ⟨F2,rfl⟩:=AY (F:=D6) [(6,vP (some ⟨a5,0,none⟩)),(7,vI 0),(11,vP (some ⟨b5,0,none⟩)),(68,undef),(37,vA #[vI 0,vI 0,nS,vO false])] ⟨c9 6 kR,c9 7 kR,c9 11 kR,c9 68 kR,m2 0 37 kR (by decide) (by decide),trivial⟩
   clear m2 c9
   refine BK (AU (vs:=[vI 0,vI 0,nS,vO false]) (.agg #[vI 0,vI 0,nS,vO false]) rfl rfl rfl BG (fun u hu=>by simp only [List.mem_cons,List.not_mem_nil,or_false] at hu;rcases hu with rfl|rfl|rfl|rfl <;> rfl) (by repeat (constructor)) a0 oT D7 fun S5 D8 S6 D9 s9=>(?_))
   have b8:=b8.keep D9 (AJ (Ne.symm i1))
   refine AC (AM 1 HI rfl (AC (AR U32_ rfl (vI 420) rfl b8 rfl (AC (AH (vI 420) rfl (AE (AB (AS (BC (AN (AN (BC (AN (AZ rfl (FC rfl (HD (vs:=[vI 0,vI 0,nS,vO false]) rfl U31_ rfl BG rfl s9 rfl) (HE rfl rfl)) (?_)))))))))))))))
   have E0:((AV d o crash).1)=(⟨(0:Int),(0:Int),[],false⟩:Device):=by exact congrArg (fun p=>p.1) (show AV d o crash=_ from MT hcr.1 hcr.2 hfm hhw.1 hhw.2 aS)
   have E1:((AV d o crash).2)=(420:Int):=by exact congrArg (fun p=>p.2) (show AV d o crash=_ from MT hcr.1 hcr.2 hfm hhw.1 hhw.2 aS)
   exact ⟨_,rfl,D8.keep,by rw [E0,E1];exact ⟨[vI 0,vI 0,nS,vO false],rfl,Enc.out (B:=(b5 :: (b3 :: (b1 :: (a8 :: (a1 :: (a5 :: []))))))) ⟨.slice none 0 0,rfl,(CI.nil _ _ _)⟩⟩⟩
  | 1,_=>
   intro E2 S7 l0 i3 e7
   have E3:=g9.call l0
   have a0:=a0.keep l0 (by simp)
   have b8:=b8.keep l0 (by simp)
   obtain ⟨F2,rfl⟩:=AY (F:=E2) [(6,vP (some ⟨a5,0,none⟩)),(7,vI 0),(68,undef),(37,vA #[vI 0,vI 0,nS,vO false]),(38,vP (some ⟨b5,1,none⟩))] ⟨e7 6 kR,e7 7 kR,e7 68 kR,i3 0 37 kR (by decide) (by decide),i3 1 38 kR (by decide) (by decide),trivial⟩
   clear i3 e7
   refine BK (AU (vs:=[vI 0,vI 0,nS,vO false]) (.agg #[vI 0,vI 0,nS,vO false]) rfl rfl rfl BG (fun u hu=>by simp only [List.mem_cons,List.not_mem_nil,or_false] at hu;rcases hu with rfl|rfl|rfl|rfl <;> rfl) (by repeat (constructor)) a0 oT E3 fun S8 E4 S9 E5 t0=>(?_))
   have b8:=b8.keep E5 (AJ (Ne.symm i1))
   refine AC (AR U32_ rfl (vI 420) rfl b8 rfl (AC (AH (vI 420) rfl (AE (AB (AS (BC (AN (AN (BC (AN (AZ rfl (FC rfl (HD (vs:=[vI 0,vI 0,nS,vO false]) rfl U31_ rfl BG rfl t0 rfl) (HE rfl rfl)) (?_)))))))))))))
   have E6:((AV d o crash).1)=(⟨(0:Int),(0:Int),[],false⟩:Device):=by exact congrArg (fun p=>p.1) (show AV d o crash=_ from MT hcr.1 hcr.2 hfm hhw.1 hhw.2 aS)
   have E7:((AV d o crash).2)=(420:Int):=by exact congrArg (fun p=>p.2) (show AV d o crash=_ from MT hcr.1 hcr.2 hfm hhw.1 hhw.2 aS)
   exact ⟨_,rfl,E4.keep,by rw [E6,E7];exact ⟨[vI 0,vI 0,nS,vO false],rfl,Enc.out (B:=(b5 :: (b3 :: (b1 :: (a8 :: (a1 :: (a5 :: []))))))) ⟨.slice none 0 0,rfl,(CI.nil _ _ _)⟩⟩⟩
 have K9:((o.device == d.id) && (o.no == d.counter+1))=true:=by simpa using e5
 have hdn:o.device=d.id∧o.no=d.counter+1:=by simpa using e5
 refine AT (AW (AB (AD kR (AC (CE .i64 (3:Int) (1:Int) ((4:Int)) rfl rfl (EP oM oM) (AC (AF (vI 4) rfl (AE (AB (JB ?_))))))))))
 refine AG (AD kR (AC (DR .i64 (4:Int) (5:Int) rfl rfl (AE (AB (AG (AK true rfl rfl (fun _=>AT (AB (AG (BN (AG (AD kR (AC (BZ U114_ HQ .i64 (4:Int) 4 rfl rfl rfl b0 (show 4<5 by decide) fun T0 t1=>(AC (BT U113_ rfl HQ rfl t1 fun t2 t3=>(?_))))))))))) (fun h=>by cases h))))))))
 obtain rfl:t2=[vN (.func 83) #[] #[vP (some ⟨a1,0,none⟩),vP (some b6)],vI 420]:=t3.1
 refine AC (CC [Value.nilFunc,vI 0] KE rfl g9 fun b7 T1 E8 E9 l1 o3 t4=>(?_))
 have i4:DB a5 b7:=by show a5≠b7;have:=a0.lt;omega
 have t5:DB a1 b7:=by show a1≠b7;have:=a3.lt;omega
 have L0:DB a8 b7:=by show a8≠b7;have:=a7.lt;omega
 have L1:DB b1 b7:=by show b1≠b7;have:=a9.lt;omega
 have L2:DB b3 b7:=by show b3≠b7;have:=b4.lt;omega
 have L3:DB b5 b7:=by show b5≠b7;have:=b8.lt;omega
 clear E8
 have a6:=a6.mv l1
 have a4:=a4.mv l1
 have a2:=a2.mv l1
 have a0:=a0.keep o3 (by simp)
 have a3:=a3.keep o3 (by simp)
 refine BK (AU (vs:=[vN (.func 83) #[] #[vP (some ⟨a1,0,none⟩),vP (some b6)],vI 420]) (.agg #[vN (.func 83) #[] #[vP (some ⟨a1,0,none⟩),vP (some b6)],vI 420]) rfl rfl rfl HQ (fun u hu=>by simp only [List.mem_cons,List.not_mem_nil,or_false] at hu;rcases hu with rfl|rfl <;> rfl) (by repeat (constructor)) t4 oT E9 fun F3 F4 l2 o4 c2=>(?_))
 have a6:=a6.mv l2
 have a4:=a4.mv l2
 have a2:=a2.mv l2
 have a0:=a0.keep o4 (AJ i4)
 have a3:=a3.keep o4 (AJ t5)
 refine AE (AB (AG (AD kR (AC (AM 0 LW rfl (AC (AR U23_ rfl (vN (.func 83) #[] #[vP (some ⟨a1,0,none⟩),vP (some b6)]) rfl c2 rfl (AC (GI (vs:=[vP (some ⟨a1,0,none⟩),vP (some b6)]) [] [vP (some ⟨a1,0,none⟩),vP (some b6)] [] enter_83 rfl (c_act4 (O:=[]) ⟨a1,0,none⟩ d b6 o F3 (PT.of_box a3 ⟨_,rfl,a2.rd0⟩ (fun h=>by cases h)) (a6.sub (fun _ h=>by cases h)) JA) rfl rfl F4 fun T2 l3 e8 l4 l5 F5=>(?_))))))))))
 obtain rfl:=F5
 have a6:=a6.mv l4
 have a4:=a4.mv l4
 have a2:=a2.mv l4
 have a0:=a0.keep l5 (by simp)
 have a3:=a3.keep l5 (by simp)
 have c2:=c2.keep l5 (by simp)
 refine AC (EI (!ES d.ops o) rfl (AE (AB (AK (!(!ES d.ops o)) rfl rfl (fun e9=>?_) (fun e9=>?_)))))
 ·have L4:(!ES d.ops o)=false:=by simpa using e9
  refine AG (IH 3 [1,2] _ _ _ [EK (vA #[vI 0,vI 0,nS,vO false]),EK (vP (some ⟨b7,1,none⟩)),EK (vI 420)] kR kR kR kR (by decide) rfl rfl rfl ⟨kI,kI,kI,trivial⟩ ⟨?_,?_,?_,trivial⟩ ?_ ?_)
  ·intro F1 w1 k1 hf hd
   have k0:=(Keep.drew [] l3).trans k1
   have a0:=a0.keep k0 (by simp)
   obtain ⟨F2,rfl⟩:=AY (F:=F1) [(6,vP (some ⟨a5,0,none⟩))] ⟨hf 6 kR,trivial⟩
   exact BB rfl ((AQ (vs:=[vI 0,vI 0,nS,vO false]) U31_ rfl BG rfl a0 rfl (⟨(Keep.refl _ _),rfl⟩)))
  ·intro F1 w1 k1 hf hd
   obtain ⟨F2,rfl⟩:=AY (F:=F1) [(11,vP (some ⟨b7,0,none⟩))] ⟨hf 11 kR,trivial⟩
   exact BB rfl ((AM 1 HI rfl (⟨(Keep.refl _ _),rfl⟩)))
  ·intro F1 w1 k1 hf hd
   have k0:=(Keep.drew [] l3).trans k1
   have c2:=c2.keep k0 (by simp)
   obtain ⟨F2,rfl⟩:=AY (F:=F1) [(38,vP (some ⟨b7,1,none⟩))] ⟨hd 1 38 kR,trivial⟩
   exact BB rfl ((AR U32_ rfl (vI 420) rfl c2 rfl (⟨(Keep.refl _ _),rfl⟩)))
  ·intro F6 T3 o5 i5 f0
   have F7:=e8.call o5
   have a0:=a0.keep o5 (by simp)
   obtain ⟨F2,rfl⟩:=AY (F:=F6) [(6,vP (some ⟨a5,0,none⟩)),(7,vI 0),(68,undef),(37,vA #[vI 0,vI 0,nS,vO false]),(39,vI 420)] ⟨f0 6 kR,f0 7 kR,f0 68 kR,i5 0 37 kR (by decide),i5 2 39 kR (by decide),trivial⟩
   clear i5 f0
   refine BK (AU (vs:=[vI 0,vI 0,nS,vO false]) (.agg #[vI 0,vI 0,nS,vO false]) rfl rfl rfl BG (fun u hu=>by simp only [List.mem_cons,List.not_mem_nil,or_false] at hu;rcases hu with rfl|rfl|rfl|rfl <;> rfl) (by repeat (constructor)) a0 oT F7 fun T4 F8 T5 T6 t6=>(AC (AH (vI 420) rfl (AE (AB (AS (BC (AN (AN (BC (AN (AZ rfl (FC rfl (HD (vs:=[vI 0,vI 0,nS,vO false]) rfl U31_ rfl BG rfl t6 rfl) (HE rfl rfl)) (?_)))))))))))))
   have F9:((AV d o crash).1)=(⟨(0:Int),(0:Int),[],false⟩:Device):=by exact congrArg (fun p=>p.1) (show AV d o crash=_ from QV hcr.1 hcr.2 hfm hhw.1 hhw.2 hdn.1 hdn.2 (by have h_:(!ES d.ops o)=false:=aS;simpa using h_))
   have G0:((AV d o crash).2)=(420:Int):=by exact congrArg (fun p=>p.2) (show AV d o crash=_ from QV hcr.1 hcr.2 hfm hhw.1 hhw.2 hdn.1 hdn.2 (by have h_:(!ES d.ops o)=false:=aS;simpa using h_))
   exact ⟨_,rfl,F8.keep,by rw [F9,G0];exact ⟨[vI 0,vI 0,nS,vO false],rfl,Enc.out (B:=(b7 :: (b5 :: (b3 :: (b1 :: (a8 :: (a1 :: (a5 :: [])))))))) ⟨.slice none 0 0,rfl,(CI.nil _ _ _)⟩⟩⟩
  intro cx_ hcx_
  match cx_,hcx_ with
  | 0,_=>
   intro G1 T7 l6 m3 d0
   have G2:=e8.call l6
   have a0:=a0.keep l6 (by simp)
   have c2:=c2.keep l6 (by simp)
   obtain ⟨F2,rfl⟩:=AY (F:=G1) [(6,vP (some ⟨a5,0,none⟩)),(7,vI 0),(11,vP (some ⟨b7,0,none⟩)),(68,undef),(37,vA #[vI 0,vI 0,nS,vO false])] ⟨d0 6 kR,d0 7 kR,d0 11 kR,d0 68 kR,m3 0 37 kR (by decide) (by decide),trivial⟩
   clear m3 d0
   refine BK (AU (vs:=[vI 0,vI 0,nS,vO false]) (.agg #[vI 0,vI 0,nS,vO false]) rfl rfl rfl BG (fun u hu=>by simp only [List.mem_cons,List.not_mem_nil,or_false] at hu;rcases hu with rfl|rfl|rfl|rfl <;> rfl) (by repeat (constructor)) a0 oT G2 fun T8 G3 T9 G4 t7=>(?_))
   have c2:=c2.keep G4 (AJ (Ne.symm i4))
   refine AC (AM 1 HI rfl (AC (AR U32_ rfl (vI 420) rfl c2 rfl (AC (AH (vI 420) rfl (AE (AB (AS (BC (AN (AN (BC (AN (AZ rfl (FC rfl (HD (vs:=[vI 0,vI 0,nS,vO false]) rfl U31_ rfl BG rfl t7 rfl) (HE rfl rfl)) (?_)))))))))))))))
   have G5:((AV d o crash).1)=(⟨(0:Int),(0:Int),[],false⟩:Device):=by exact congrArg (fun p=>p.1) (show AV d o crash=_ from QV hcr.1 hcr.2 hfm hhw.1 hhw.2 hdn.1 hdn.2 (by have h_:(!ES d.ops o)=false:=aS;simpa using h_))
   have G6:((AV d o crash).2)=(420:Int):=by exact congrArg (fun p=>p.2) (show AV d o crash=_ from QV hcr.1 hcr.2 hfm hhw.1 hhw.2 hdn.1 hdn.2 (by have h_:(!ES d.ops o)=false:=aS;simpa using h_))
   exact ⟨_,rfl,G3.keep,by rw [G5,G6];exact ⟨[vI 0,vI 0,nS,vO false],rfl,Enc.out (B:=(b7 :: (b5 :: (b3 :: (b1 :: (a8 :: (a1 :: (a5 :: [])))))))) ⟨.slice none 0 0,rfl,(CI.nil _ _ _)⟩⟩⟩
  | 1,_=>
   intro G7 U0 l7 i6 f1
   have G8:=e8.call l7
   have a0:=a0.keep l7 (by simp)
   have c2:=c2.keep l7 (by simp)
   obtain ⟨F2,rfl⟩:=AY (F:=G7) [(6,vP (some ⟨a5,0,none⟩)),(7,vI 0),(68,undef),(37,vA #[vI 0,vI 0,nS,vO false]),(38,vP (some ⟨b7,1,none⟩))] ⟨f1 6 kR,f1 7 kR,f1 68 kR,i6 0 37 kR (by decide) (by decide),i6 1 38 kR (by decide) (by decide),trivial⟩
   clear i6 f1
   refine BK (AU (vs:=[vI 0,vI 0,nS,vO false]) (.agg #[vI 0,vI 0,nS,vO false]) rfl rfl rfl BG (fun u hu=>by simp only [List.mem_cons,List.not_mem_nil,or_false] at hu;rcases hu with rfl|rfl|rfl|rfl <;> rfl) (by repeat (constructor)) a0 oT G8 fun U1 G9 U2 H0 t8=>(?_))
   have c2:=c2.keep H0 (AJ (Ne.symm i4))
   refine AC (AR U32_ rfl (vI 420) rfl c2 rfl (AC (AH (vI 420) rfl (AE (AB (AS (BC (AN (AN (BC (AN (AZ rfl (FC rfl (HD (vs:=[vI 0,vI 0,nS,vO false]) rfl U31_ rfl BG rfl t8 rfl) (HE rfl rfl)) (?_)))))))))))))
   have H1:((AV d o crash).1)=(⟨(0:Int),(0:Int),[],false⟩:Device):=by exact congrArg (fun p=>p.1) (show AV d o crash=_ from QV hcr.1 hcr.2 hfm hhw.1 hhw.2 hdn.1 hdn.2 (by have h_:(!ES d.ops o)=false:=aS;simpa using h_))
   have H2:((AV d o crash).2)=(420:Int):=by exact congrArg (fun p=>p.2) (show AV d o crash=_ from QV hcr.1 hcr.2 hfm hhw.1 hhw.2 hdn.1 hdn.2 (by have h_:(!ES d.ops o)=false:=aS;simpa using h_))
   exact ⟨_,rfl,G9.keep,by rw [H1,H2];exact ⟨[vI 0,vI 0,nS,vO false],rfl,Enc.out (B:=(b7 :: (b5 :: (b3 :: (b1 :: (a8 :: (a1 :: (a5 :: [])))))))) ⟨.slice none 0 0,rfl,(CI.nil _ _ _)⟩⟩⟩
 have L5:(!ES d.ops o)=true:=by simpa using e9
 have hsn:ES d.ops o=false:=by simpa using e9
 refine AT (AW (AB (AD kR (AC (CE .i64 (4:Int) (1:Int) ((5:Int)) rfl rfl (EP oM oM) (AC (AF (vI 5) rfl (AE (AB (JB ?_))))))))))
 refine AG (AD kR (AC (DR .i64 (5:Int) (5:Int) rfl rfl (AE (AB (AG (AK false rfl rfl (fun h=>by cases h) (fun _=>EF (CG (CG (DJ (AB (AG (AD kR (AC (AM 0 CY rfl (AC (AM 2 EQ rfl (AC (AR U26_ rfl (b2) rfl a3 rfl (AC (BT U40_ rfl BX rfl a6 fun L6 t9=>(?_)))))))))))))))))))))))
 obtain rfl:=t9
 refine AC (BI (vs:=[b2,vA #[vI o.device,vI o.no,vI o.kind,vI o.copy,vI o.to,vI o.token]]) enter_23 (c_add (O:=(b7 :: (b5 :: (b3 :: (b1 :: (a8 :: (a1 :: (a5 :: [])))))))++O) b2 d.ops [vI o.device,vI o.no,vI o.kind,vI o.copy,vI o.to,vI o.token] o l3 a2 rfl e8.lt) rfl e8 fun U3 U4 h1 o6 o7 H3=>(?_))
 obtain ⟨c3,rfl,b9⟩:=H3
 have:=b9.len_le
 have a4:=a4.mv o6
 have a2:=a2.mv o6
 have a0:=a0.keep o7 (by simp)
 have a3:=a3.keep o7 (by simp)
 refine AC (AF (vT #[c3,vI ((CQ d.ops o).2)]) rfl (AC (BD (c3) rfl rfl (AC (BD (vI ((CQ d.ops o).2)) rfl rfl (AC (AH (c3) rfl (AC (AH (vI ((CQ d.ops o).2)) rfl (AE (AB (AG (AG (AD kR (AC (AF (vI ((CQ d.ops o).2)) rfl (AC (DX .i64 ((CQ d.ops o).2) (0:Int) rfl rfl (AE (AB (AK (((CQ d.ops o).2) != (0:Int)) rfl rfl (fun i7=>?_) (fun i7=>?_))))))))))))))))))))))
 ·have L7:(CQ d.ops o).2≠(0:Int):=by simpa using i7
  refine AG (AD kR (AC (AQ (vs:=[vI 0,vI 0,nS,vO false]) U31_ rfl BG rfl a0 rfl (AC (AF (vI ((CQ d.ops o).2)) rfl (BK (AU (vs:=[vI 0,vI 0,nS,vO false]) (.agg #[vI 0,vI 0,nS,vO false]) rfl rfl rfl BG (fun u hu=>by simp only [List.mem_cons,List.not_mem_nil,or_false] at hu;rcases hu with rfl|rfl|rfl|rfl <;> rfl) (by repeat (constructor)) a0 oT h1 fun U5 H4 U6 U7 u0=>(AC (AH (vI ((CQ d.ops o).2)) rfl (AE (AB (AS (AN (AZ rfl (FC rfl (HD (vs:=[vI 0,vI 0,nS,vO false]) rfl U31_ rfl BG rfl u0 rfl) (HE rfl rfl)) (?_)))))))))))))))
  have H5:((AV d o crash).1)=(⟨(0:Int),(0:Int),[],false⟩:Device):=by exact congrArg (fun p=>p.1) (show AV d o crash=_ from act_6 hcr.1 hcr.2 hfm hhw.1 hhw.2 hdn.1 hdn.2 hsn aS)
  have H6:((AV d o crash).2)=((CQ d.ops o).2):=by exact congrArg (fun p=>p.2) (show AV d o crash=_ from act_6 hcr.1 hcr.2 hfm hhw.1 hhw.2 hdn.1 hdn.2 hsn aS)
  exact ⟨_,rfl,H4.keep,by rw [H5,H6];exact ⟨[vI 0,vI 0,nS,vO false],rfl,Enc.out (B:=(b7 :: (b5 :: (b3 :: (b1 :: (a8 :: (a1 :: (a5 :: [])))))))) ⟨.slice none 0 0,rfl,(CI.nil _ _ _)⟩⟩⟩
 have L8:(CQ d.ops o).2=(0:Int):=by simpa using i7
 refine AT (AB (AG (AG (AD kR (AC (BJ U3_ rfl rfl a4 (AC (JS .i64 crash (1:Int) rfl rfl (AE (AB (AK (decide ((1:Int)≤crash)) rfl rfl (fun i8=>?_) (fun i8=>?_))))))))))))
 ·have L9:(1:Int)≤crash:=by simpa using i8
  refine AD kR (AC (AM 0 CY rfl (AC (AM 1 IG rfl (AC (AR U3_ rfl (vI d.counter) rfl a3 rfl (AC (CE .i64 d.counter (1:Int) (d.counter+1) rfl rfl (EP oM rfl) (AC (AM 0 CY rfl (AC (AM 1 IG rfl (BK (BP (vI (d.counter+1)) rfl rfl rfl s_3 (by repeat (constructor)) a3 oT h1 fun U8 o8 l8 H7 m4=>(?_)))))))))))))))
  have a4:=a4.mv l8
  have b9:=b9.mv l8
  have a2:=a2.mv l8
  have a0:=a0.keep H7 (AJ d2)
  refine AE (AB (AG (AG (AD kR (AC (BJ U3_ rfl rfl a4 (AC (DC .i64 crash (2:Int) rfl rfl (AE (AB (AK (crash == (2:Int)) rfl rfl (fun i9=>?_) (fun i9=>?_))))))))))))
  ·have M0:crash=(2:Int):=by simpa using i9
   refine AD kR (AC (AF (c3) rfl (AC (AM 0 CY rfl (AC (AM 2 EQ rfl (BK (BP (c3) rfl rfl b9.oneCell HR (by repeat (constructor)) m4 oT o8 fun U9 H8 H9 I0 u1=>(?_)))))))))
   have b9:=b9.mv H9
   have a0:=a0.keep I0 (AJ d2)
   refine AE (AB (AG (AD kR (AC (AM 0 CY rfl (AC (AQ (vs:=[vI d.id,vI (d.counter+1),c3,vO d.halted]) U31_ rfl BG rfl u1 rfl (BK (AU (vs:=[vI d.id,vI (d.counter+1),c3,vO d.halted]) (.agg #[vI d.id,vI (d.counter+1),c3,vO d.halted]) rfl rfl rfl BG (fun u hu=>by simp only [List.mem_cons,List.not_mem_nil,or_false] at hu;rcases hu with rfl|rfl|rfl|rfl <;> first|rfl|exact b9.oneCell) (by repeat (constructor)) a0 oT H8 fun V0 I1 I2 V1 u2=>(?_))))))))))
   have b9:=b9.mv I2
   refine AC (AH (vI 0) rfl (AE (AB (AS (AZ rfl (FC rfl (HD (vs:=[vI d.id,vI (d.counter+1),c3,vO d.halted]) rfl U31_ rfl BG rfl u2 rfl) (HE rfl rfl)) (?_))))))
   have I3:((AV d o crash).1)=(⟨d.id,d.counter+1,(CQ d.ops o).1,d.halted⟩:Device):=by exact congrArg (fun p=>p.1) (show AV d o crash=_ from act_72 hcr.1 hcr.2 hfm hhw.1 hhw.2 hdn.1 hdn.2 hsn aS aS)
   have I4:((AV d o crash).2)=(0:Int):=by exact congrArg (fun p=>p.2) (show AV d o crash=_ from act_72 hcr.1 hcr.2 hfm hhw.1 hhw.2 hdn.1 hdn.2 hsn aS aS)
   exact ⟨_,rfl,I1.keep,by rw [I3,I4];exact ⟨[vI d.id,vI (d.counter+1),c3,vO d.halted],rfl,Enc.out (B:=(b7 :: (b5 :: (b3 :: (b1 :: (a8 :: (a1 :: (a5 :: [])))))))) ⟨_,rfl,b9⟩⟩⟩
  have M1:crash≠(2:Int):=by simpa using i9
  refine AT (AB (AG (AD kR (AC (AM 0 CY rfl (AC (AQ (vs:=[vI d.id,vI (d.counter+1),b2,vO d.halted]) U31_ rfl BG rfl m4 rfl (BK (AU (vs:=[vI d.id,vI (d.counter+1),b2,vO d.halted]) (.agg #[vI d.id,vI (d.counter+1),b2,vO d.halted]) rfl rfl rfl BG (fun u hu=>by simp only [List.mem_cons,List.not_mem_nil,or_false] at hu;rcases hu with rfl|rfl|rfl|rfl <;> first|rfl|exact a2.oneCell) (by repeat (constructor)) a0 oT o8 fun V2 I5 I6 V3 u3=>(?_))))))))))
  have a2:=a2.mv I6
  refine AC (AH (vI 0) rfl (AE (AB (AS (AZ rfl (FC rfl (HD (vs:=[vI d.id,vI (d.counter+1),b2,vO d.halted]) rfl U31_ rfl BG rfl u3 rfl) (HE rfl rfl)) (?_))))))
  have I7:((AV d o crash).1)=(⟨d.id,d.counter+1,d.ops,d.halted⟩:Device):=by exact congrArg (fun p=>p.1) (show AV d o crash=_ from act_71 hcr.1 hcr.2 hfm hhw.1 hhw.2 hdn.1 hdn.2 hsn aS aS aS)
  have I8:((AV d o crash).2)=(0:Int):=by exact congrArg (fun p=>p.2) (show AV d o crash=_ from act_71 hcr.1 hcr.2 hfm hhw.1 hhw.2 hdn.1 hdn.2 hsn aS aS aS)
  exact ⟨_,rfl,I5.keep,by rw [I7,I8];exact ⟨[vI d.id,vI (d.counter+1),b2,vO d.halted],rfl,Enc.out (B:=(b7 :: (b5 :: (b3 :: (b1 :: (a8 :: (a1 :: (a5 :: [])))))))) ⟨_,rfl,a2⟩⟩⟩
 have M2:crash<(1:Int):=by simpa using i8
 refine AT (AB (AG (AG (AD kR (AC (BJ U3_ rfl rfl a4 (AC (DC .i64 crash (2:Int) rfl rfl (AE (AB (AK (crash == (2:Int)) rfl rfl (fun j0=>?_) (fun j0=>?_))))))))))))
 ·have M3:crash=(2:Int):=by simpa using j0
  refine AD kR (AC (AF (c3) rfl (AC (AM 0 CY rfl (AC (AM 2 EQ rfl (BK (BP (c3) rfl rfl b9.oneCell HR (by repeat (constructor)) a3 oT h1 fun V4 I9 J0 J1 u4=>(?_)))))))))
  have b9:=b9.mv J0
  have a0:=a0.keep J1 (AJ d2)
  refine AE (AB (AG (AD kR (AC (AM 0 CY rfl (AC (AQ (vs:=[vI d.id,vI d.counter,c3,vO d.halted]) U31_ rfl BG rfl u4 rfl (BK (AU (vs:=[vI d.id,vI d.counter,c3,vO d.halted]) (.agg #[vI d.id,vI d.counter,c3,vO d.halted]) rfl rfl rfl BG (fun u hu=>by simp only [List.mem_cons,List.not_mem_nil,or_false] at hu;rcases hu with rfl|rfl|rfl|rfl <;> first|rfl|exact b9.oneCell) (by repeat (constructor)) a0 oT I9 fun V5 J2 J3 V6 u5=>(?_))))))))))
  have b9:=b9.mv J3
  refine AC (AH (vI 0) rfl (AE (AB (AS (AZ rfl (FC rfl (HD (vs:=[vI d.id,vI d.counter,c3,vO d.halted]) rfl U31_ rfl BG rfl u5 rfl) (HE rfl rfl)) (?_))))))
  have J4:((AV d o crash).1)=(⟨d.id,d.counter,(CQ d.ops o).1,d.halted⟩:Device):=by (exfalso;omega)
  have J5:((AV d o crash).2)=(0:Int):=by (exfalso;omega)
  exact ⟨_,rfl,J2.keep,by rw [J4,J5];exact ⟨[vI d.id,vI d.counter,c3,vO d.halted],rfl,Enc.out (B:=(b7 :: (b5 :: (b3 :: (b1 :: (a8 :: (a1 :: (a5 :: [])))))))) ⟨_,rfl,b9⟩⟩⟩
 have M4:crash≠(2:Int):=by simpa using j0
 refine AT (AB (AG (AD kR (AC (AM 0 CY rfl (AC (AQ (vs:=[vI d.id,vI d.counter,b2,vO d.halted]) U31_ rfl BG rfl a3 rfl (BK (AU (vs:=[vI d.id,vI d.counter,b2,vO d.halted]) (.agg #[vI d.id,vI d.counter,b2,vO d.halted]) rfl rfl rfl BG (fun u hu=>by simp only [List.mem_cons,List.not_mem_nil,or_false] at hu;rcases hu with rfl|rfl|rfl|rfl <;> first|rfl|exact a2.oneCell) (by repeat (constructor)) a0 oT h1 fun V7 J6 J7 V8 u6=>(?_))))))))))
 have a2:=a2.mv J7
 refine AC (AH (vI 0) rfl (AE (AB (AS (AZ rfl (FC rfl (HD (vs:=[vI d.id,vI d.counter,b2,vO d.halted]) rfl U31_ rfl BG rfl u6 rfl) (HE rfl rfl)) (?_))))))
 have J8:((AV d o crash).1)=d:=by exact congrArg (fun p=>p.1) (show AV d o crash=_ from act_70 hcr.1 hcr.2 hfm hhw.1 hhw.2 hdn.1 hdn.2 hsn aS aS)
 have J9:((AV d o crash).2)=(0:Int):=by exact congrArg (fun p=>p.2) (show AV d o crash=_ from act_70 hcr.1 hcr.2 hfm hhw.1 hhw.2 hdn.1 hdn.2 hsn aS aS)
 exact ⟨_,rfl,J6.keep,by rw [J8,J9];exact ⟨[vI d.id,vI d.counter,b2,vO d.halted],rfl,Enc.out (B:=(b7 :: (b5 :: (b3 :: (b1 :: (a8 :: (a1 :: (a5 :: [])))))))) ⟨_,rfl,a2⟩⟩⟩
end Go.Proofs.Ytjpniibleelgiaa
namespace Go.Fw
open Go.RowKit
section
variable {P:Program} {n:Nat} {Q:Exit→Fr→World→Prop} {ro:Option Nat}
end
section
variable {P:Program} {ty:TypeId} {F:Fr} {w:World} {K:Value→World→Prop} {Z:List PanicEntry→World→Prop} {x y:Operand}
end
open Go.RowKit
theorem DM.base {α:Type} {E:Enc α} {e n m:Nat} {O:List Nat} {w:World} {v:Value} {l:List α} (h:DM E e n O w v l) (hm:m≤n):DM E e m O w v l:=by
  obtain ⟨css,h1,h2,h3⟩:=h
  refine ⟨css,h1,⟨h2.1,?_⟩,h3⟩
  rcases h2.2 with h|⟨g,cap,cur,e1,hg,r⟩
  · exact .inl h
  · exact .inr ⟨g,cap,cur,e1,Nat.le_trans hm hg,r⟩
section
variable {P:Program} {ty:TypeId} {F:Fr} {w w0:World} {O0 B:List Nat} {K:Value→World→Prop} {Z:List PanicEntry→World→Prop} {x y:Operand}
end
open Go.RowKit
def Enc.val:Enc Value where
  size:=1
  rd:=fun _ _ cs v=>cs=[v]∧v.oneCell'=true
  len:=fun h=>by rw [h.1];rfl
  one:=fun h u hu=>by rw [h.1] at hu;simp at hu;subst hu;exact h.2
  mv:=fun h _=>h
  sub:=fun h _=>h
theorem flatten_set {n:Nat} {css:List (List Value)} (hl:∀ cs∈css,cs.length=n) {j off:Nat} (hj:j<css.length) (hoff:off<n) (u:Value):(css.set j (css[j].set off u)).flatten=css.flatten.set (j*n+off) u:=by
  have hl2:∀ cs∈css.set j (css[j].set off u),cs.length=n:=by
    intro cs hcs
    rcases List.mem_or_eq_of_mem_set hcs with h|h
    · exact hl cs h
    · subst h;rw [List.length_set];exact hl _ (List.getElem_mem hj)
  have hfl:css.flatten.length=css.length*n:=EL css hl
  apply List.ext_getElem?
  intro q
  have hn:0<n:=by omega
  have hq:q=q / n*n+q % n:=by rw [Nat.mul_comm];exact (Nat.div_add_mod q n).symm
  have hr:=Nat.mod_lt q hn
  generalize q / n=i at hq
  generalize q % n=r at hq hr
  subst hq
  rw [IT _ i r hl2 hr,List.getElem?_set,List.getElem?_set,IT _ i r hl hr]
  by_cases e:j=i
  · subst e
    rw [if_pos rfl,if_pos hj]
    simp only [Option.bind_some]
    rw [List.getElem?_set]
    by_cases d:off=r
    · subst d
      have h1:j*n+off<css.flatten.length:=by
        rw [hfl]
        have:(j+1)*n≤css.length*n:=Nat.mul_le_mul_right n hj
        rw [Nat.add_mul] at this;omega
      rw [if_pos rfl,if_pos rfl,if_pos h1,if_pos (by rw [hl _ (List.getElem_mem hj)];exact hoff)]
    · rw [if_neg d,if_neg (by omega),List.getElem?_eq_getElem hj];rfl
  · rw [if_neg e,if_neg ?_]
    intro h
    have h2:=congrArg (· / n) h
    simp only [Nat.mul_comm _ n,Nat.mul_add_div hn,Nat.div_eq_of_lt hoff,Nat.div_eq_of_lt hr,Nat.add_zero] at h2
    exact e h2
section
variable {P:Program} {ty:TypeId} {F:Fr} {w w0:World} {O0 B:List Nat} {K:Value→World→Prop} {Z:List PanicEntry→World→Prop} {x y:Operand}
theorem KL {α:Type} [Inhabited α] {E:Enc α} {t e base b j off:Nat} {v:Value} {l:List α} {u:Value} (a:α) (hs:DD P t=some 1) (hx:CK F x = .pointer (some ⟨b,j*E.size+off,none⟩)) (hy:CK F y=u) (ho:DM E e base (B++O0) w v l) (hb:v.ownBlock=some b) (hB:b∈B) (hj:j<l.length) (hoff:off<E.size)
    (hr:∀ cs,E.rd w (B++O0) cs l[j]!→E.rd w (B++O0) (cs.set off u) a) (s:St w0 O0 w B)
    (h:∀ w',St w0 O0 w' B→Mv B w B w'→Keep [b] w w'→DM E e base (B++O0) w' v (l.set j a)→K undef w'):CR P (.store t x y) ty F w K Z:=by
  obtain ⟨css,h1,h2,h3⟩:=ho
  have hlens:=DM.lens h1 h3
  have hjc:j<css.length:=by omega
  have hrj:E.rd w (B++O0) css[j] l[j]!:=by rw [getElem!_pos l j hj];exact h3 j _ l[j] (List.getElem?_eq_getElem hjc) (List.getElem?_eq_getElem hj)
  have hr':=hr _ hrj
  have h1c:u.oneCell'=true:=E.one hr' u (List.mem_iff_getElem?.2 ⟨off,by rw [List.getElem?_set,if_pos rfl,if_pos (by rw [E.len hrj];exact hoff)]⟩)
  rcases h2.2 with ⟨rfl,h0⟩|⟨g,cap,cur,rfl,hbg,hg,hnc,hm,hsz,htk⟩
  · omega
  · have:g=b:=by simpa [Value.ownBlock] using hb
    subst this
    have hfs:=flatten_set hlens hjc hoff u
    have hbound:j*E.size+off<cur.toList.length:=by
      have h4:(j+1)*E.size≤l.length*E.size:=Nat.mul_le_mul_right _ hj
      rw [Nat.add_mul] at h4
      have h5:cap*E.size=cur.size:=by first|exact hsz.symm|exact hsz
      have h6:l.length*E.size≤cap*E.size:=Nat.mul_le_mul_right _ hnc
      simp only [Array.length_toList];omega
    refine BP (T:=e) (cs:=cur.toList) u hx hy h1c hs hB (by simpa [EN] using hg) hbound s fun w' k1 k2 k3 k4=>h w' k1 k2 k3 ?_
    refine ⟨css.set j (css[j].set off u),by simp [h1],⟨?_, .inr ⟨g,cap,(cur.toList.set (j*E.size+off) u).toArray,by simp,hbg,k4,by simpa using hnc,hm,by simpa using hsz,?_⟩⟩,fun q cs y hq hy=>?_⟩
    · rw [hfs];simpa using h2.1
    · rw [hfs];simp only [List.length_set]
      rw [List.take_set,htk]
    · by_cases hjq:j=q
      · subst hjq
        rw [List.getElem?_set,if_pos rfl,if_pos hjc] at hq
        rw [List.getElem?_set,if_pos rfl,if_pos hj] at hy
        cases hq;cases hy
        exact E.mv hr' k2
      · rw [List.getElem?_set,if_neg hjq] at hq hy
        exact E.mv (h3 q cs y hq hy) k2
end
structure Nest {α:Type} (E:Enc α) (e n:Nat) (O:List Nat) (w:World) (NB:List Nat) (vs:List Value) (ls:List (List α)):Prop where
  len:vs.length=ls.length
  own:∀ i,i<vs.length→DM E e n O w vs[i]! ls[i]!
  blk:∀ i b,i<vs.length→vs[i]!.ownBlock=some b→b∈NB
  sep:∀ i j b,i<vs.length→j<vs.length→i≠j→vs[i]!.ownBlock=some b→vs[j]!.ownBlock≠some b
section
variable {α:Type} {E:Enc α} {e n:Nat} {O B B' NB X:List Nat} {w w':World} {vs:List Value} {ls:List (List α)}
theorem Nest.nil:Nest E e n O w NB [] []:=⟨rfl,fun i h=>absurd h (by simp),fun i b h=>absurd h (by simp),fun i j b h=>absurd h (by simp)⟩
theorem Nest.mv (h:Nest E e n (B++O) w B vs ls) (m:Mv B w B' w') (k:Keep X w w') (hx:∀ i b,i<vs.length→vs[i]!.ownBlock=some b→b∉X) (hs:∀ b∈B,b∈B'):Nest E e n (B'++O) w' B' vs ls:=
  ⟨h.len,fun i hi=>(h.own i hi).mv m k (fun b hb=>hx i b hi hb),fun i b hi hb=>hs b (h.blk i b hi hb),h.sep⟩
theorem DM.box {v:Value} {l:List α} {g:Nat} (h:DM E e n O w v l) (hb:v.ownBlock=some g):∃ cs,EN w g e cs:=by
  obtain ⟨css,h1,h2,h3⟩:=h
  rcases h2.2 with ⟨rfl,h0⟩|⟨q,cap,cur,rfl,hbg,hg,hnc,hm,hsz,htk⟩
  · cases hb
  · have:q=g:=by simpa [Value.ownBlock] using hb
    subst this
    exact ⟨cur.toList,by simpa [EN] using hg⟩
theorem EN.type {b T T':Nat} {cs cs':List Value} (h:EN w b T cs) (h':EN w b T' cs'):T=T':=by
  unfold EN at h h';rw [h] at h';cases h';rfl
theorem IY {β:Type} [Inhabited β] {l:List β} {x:β} {i:Nat} (h:i<l.length):(l++[x])[i]! = l[i]!:=by
  rw [getElem!_pos (l++[x]) i (by simp;omega),List.getElem_append_left h,← getElem!_pos l i h]
theorem JC {β:Type} [Inhabited β] {l:List β} {x:β}:(l++[x])[l.length]! = x:=by
  rw [getElem!_pos (l++[x]) l.length (by simp),List.getElem_append_right (Nat.le_refl _)];simp
theorem Nest.push (h:Nest E e n O w NB vs ls):Nest E e n O w NB (vs++[.slice none 0 0]) (ls++[[]]):=by
  refine ⟨by simp [h.len],fun i hi=>?_,fun i b hi hb=>?_,fun i j b hi hj hij hb=>?_⟩
  · by_cases c:i<vs.length
    · rw [IY c,IY (by rw [← h.len];exact c)];exact h.own i c
    · have:i=vs.length:=by simp at hi;omega
      subst this
      rw [JC,h.len,JC];exact DM.nil _ _ _ _ _
  · by_cases c:i<vs.length
    · rw [IY c] at hb;exact h.blk i b c hb
    · have:i=vs.length:=by simp at hi;omega
      subst this
      rw [JC] at hb;simp [Value.ownBlock] at hb
  · by_cases c:i<vs.length
    · rw [IY c] at hb
      by_cases d:j<vs.length
      · rw [IY d];exact h.sep i j b c d hij hb
      · have:j=vs.length:=by simp at hj;omega
        subst this
        rw [JC];simp [Value.ownBlock]
    · have:i=vs.length:=by simp at hi;omega
      subst this
      rw [JC] at hb;simp [Value.ownBlock] at hb
theorem JT {β:Type} [Inhabited β] {l:List β} {x:β} {i j:Nat} (hi:i<l.length) (hj:j<l.length):(l.set i x)[j]! = if i=j then x else l[j]!:=by
  rw [getElem!_pos (l.set i x) j (by simpa using hj),List.getElem_set,← getElem!_pos l j hj]
theorem Nest.app {i:Nat} {v':Value} {l':List α} (h:Nest E e n (B++O) w B vs ls) (hi:i<vs.length) (m:Mv B w B' w') (k:Keep vs[i]!.ownBlock.toList w w')
    (at_:v'.ownBlock=vs[i]!.ownBlock∨v'.ownBlock=some w.heap.size) (ho:DM E e n (B'++O) w' v' l') (hs:∀ b∈B,b∈B') (hv:∀ b,v'.ownBlock=some b→b∈B'):Nest E e n (B'++O) w' B' (vs.set i v') (ls.set i l'):=by
  have hil:i<ls.length:=by rw [← h.len];exact hi
  refine ⟨by simp [h.len],fun j hj=>?_,fun j b hj hb=>?_,fun j q b hj hq hjq hb=>?_⟩
  · have hj:j<vs.length:=by simpa using hj
    rw [JT hi hj,JT hil (by rw [← h.len];exact hj)]
    by_cases c:i=j
    · rw [if_pos c,if_pos c];exact ho
    · rw [if_neg c,if_neg c]
      exact (h.own j hj).mv m k (fun b hb hm=>by simp only [Option.mem_toList] at hm;exact h.sep j i b hj hi (Ne.symm c) hb hm)
  · have hj:j<vs.length:=by simpa using hj
    rw [JT hi hj] at hb
    by_cases c:i=j
    · rw [if_pos c] at hb;exact hv b hb
    · rw [if_neg c] at hb;exact hs b (h.blk j b hj hb)
  · have hj:j<vs.length:=by simpa using hj
    have hq:q<vs.length:=by simpa using hq
    rw [JT hi hj] at hb
    rw [JT hi hq]
    have new:∀ q,q<vs.length→i≠q→∀ b,v'.ownBlock=some b→vs[q]!.ownBlock≠some b:=fun q hq c b hb he=>by
      rcases at_ with e1|e1
      · rw [e1] at hb;exact h.sep i q b hi hq c hb he
      · rw [e1] at hb;cases hb
        have:=((h.own q hq).lt _ he).2
        omega
    by_cases c:i=j
    · rw [if_pos c] at hb
      rw [if_neg (fun d=>hjq (c.symm.trans d))]
      exact new q hq (fun d=>hjq (c.symm.trans d)) b hb
    · rw [if_neg c] at hb
      by_cases d:i=q
      · rw [if_pos d];intro he;exact new j hj c b he hb
      · rw [if_neg d];exact h.sep j q b hj hq hjq hb
end
open Go.RowKit
theorem KM {P:Program} {ty:TypeId} {F:Fr} {w:World} {K:Value→World→Prop} {Z:List PanicEntry→World→Prop} {x:Operand} {O:List Nat} {z:Value} {a:Addr} {t:TypeId} {D:TypeDesc} (ht:P.underlying t=some D) (hD:FR D=true) (hx:CK F x = .pointer (some a)) (hp:PT Enc.val w O (.pointer (some a)) z) (h:K z w):CR P (.load t x) ty F w K Z:=
  JQ ht hD rfl hx hp fun v hv=>by
    have:[v]=[z]:=hv.1
    cases this;exact h
structure Bk {α:Type} (E:Enc α) (e n:Nat) (O B:List Nat) (w:World) (L:List Value) (T:List (List α)):Prop where
  nest:Nest E e n (B++O) w B L T
section
variable {α:Type} {E:Enc α} {e n:Nat} {O B B' X:List Nat} {w w':World} {L:List Value} {T:List (List α)}
theorem Bk.len (h:Bk E e n O B w L T):L.length=T.length:=h.nest.len
theorem Bk.nil:Bk E e n O B w [] []:=⟨Nest.nil⟩
theorem Bk.own (h:Bk E e n O B w L T) {i:Nat} (hi:i<T.length):DM E e n (B++O) w L[i]! T[i]!:=h.nest.own i (by rw [h.len];exact hi)
theorem Bk.blk (h:Bk E e n O B w L T) {i:Nat} (hi:i<T.length):∀ b,L[i]!.ownBlock=some b→b∈B:=fun b hb=>h.nest.blk i b (by rw [h.len];exact hi) hb
theorem Bk.mvX (h:Bk E e n O B w L T) (m:Mv B w B' w') (k:Keep X w w') (hx:∀ i b,i<T.length→L[i]!.ownBlock=some b→b∉X) (hs:∀ b∈B,b∈B'):Bk E e n O B' w' L T:=
  ⟨h.nest.mv m k (fun i b hi hb=>hx i b (by rw [← h.len];exact hi) hb) hs⟩
theorem Bk.mv0 (h:Bk E e n O B w L T) (m:Mv B w B' w') (k:Keep [] w w') (hs:∀ b∈B,b∈B'):Bk E e n O B' w' L T:=h.mvX m k (fun _ _ _ _=>by simp) hs
theorem Bk.mvB (h:Bk E e n O B w L T) {b t:Nat} {cs:List Value} (m:Mv B w B' w') (k:Keep [b] w w') (hb:EN w b t cs) (ht:t≠e) (hs:∀ b∈B,b∈B'):Bk E e n O B' w' L T:=
  h.mvX m k (fun i g hi hg hm=>by
    have:g=b:=by simpa using hm
    subst this
    obtain ⟨cs',h'⟩:=(h.own hi).box hg
    exact ht (hb.type h')) hs
theorem Bk.mvO {β:Type} {E':Enc β} {O':List Nat} {v:Value} {l:List β} {t n':Nat} (h:Bk E e n O B w L T) (m:Mv B w B' w') (k:Keep X w w') (ho:DM E' t n' O' w v l) (hv:∀ b∈X,v.ownBlock=some b) (ht:t≠e) (hs:∀ b∈B,b∈B'):Bk E e n O B' w' L T:=
  h.mvX m k (fun i g hi hg hm=>by
    obtain ⟨cs,h1⟩:=ho.box (hv g hm)
    obtain ⟨cs',h2⟩:=(h.own hi).box hg
    exact ht (h1.type h2)) hs
theorem Bk.neO {β:Type} {E':Enc β} {O':List Nat} {v:Value} {l:List β} {t n' i:Nat} (h:Bk E e n O B w L T) (hi:i<T.length) (ho:DM E' t n' O' w v l) (ht:t≠e):∀ b,v.ownBlock=some b→b∉L[i]!.ownBlock.toList:=fun b hb hm=>by
  obtain ⟨cs,h1⟩:=ho.box hb
  obtain ⟨cs',h2⟩:=(h.own hi).box (by simpa using hm)
  exact ht (h1.type h2)
theorem Bk.neB {b t i:Nat} {cs:List Value} (h:Bk E e n O B w L T) (hi:i<T.length) (hb:EN w b t cs) (ht:t≠e):b∉L[i]!.ownBlock.toList:=fun hm=>by
  obtain ⟨cs',h2⟩:=(h.own hi).box (by simpa using hm)
  exact ht (hb.type h2)
theorem Bk.push (h:Bk E e n O B w L T):Bk E e n O B w (L++[.slice none 0 0]) (T++[[]]):=⟨h.nest.push⟩
theorem Bk.app {i:Nat} {v':Value} {l':List α} (h:Bk E e n O B w L T) (hi:i<T.length) (m:Mv B w B' w') (k:Keep L[i]!.ownBlock.toList w w')
    (at_:v'.ownBlock=L[i]!.ownBlock∨v'.ownBlock=some w.heap.size) (ho:DM E e n (B'++O) w' v' l') (hs:∀ b∈B,b∈B') (hv:∀ b,v'.ownBlock=some b→b∈B'):Bk E e n O B' w' (L.set i v') (T.set i l'):=
  ⟨h.nest.app (by rw [h.len];exact hi) m k at_ ho hs hv⟩
theorem Bk.reps:∀ k:Nat,Bk E e n O B w (List.replicate k (.slice none 0 0)) (List.replicate k [])
  | 0=>Bk.nil
  | k+1=>by rw [List.replicate_succ',List.replicate_succ'];exact (Bk.reps k).push
end
open Go.RowKit
def CJ {α:Type} (P:Program) (s:Sem α):Prop:=∀ w v w',s.run P w = .ok v w'→w'=w∧∀ w2,Keep [] w w2→s.run P w2 = .ok v w2
section
variable {P:Program} {α β:Type}
theorem CJ.pure (a:α):CJ P (Pure.pure a:Sem α):=fun w v w' h=>by
  simp only [Sem.run_pure] at h ⊢;cases h;exact ⟨rfl,fun _ _=>rfl⟩
theorem CJ.halt (h:Halt):CJ P (Sem.halt h:Sem α):=fun w v w' e=>by cases e
theorem CJ.bind {s:Sem α} {f:α→Sem β} (hs:CJ P s) (hf:∀ a,CJ P (f a)):CJ P (s >>= f):=fun w v w' h=>by
  simp only [Sem.run_bind] at h ⊢
  cases hr:s.run P w with
  | halt x w2=>rw [hr] at h;cases h
  | ok x w1=>
    rw [hr] at h;simp only [Result.andThen_ok] at h
    obtain ⟨rfl,k⟩:=hs w x w1 hr
    obtain ⟨rfl,k2⟩:=hf x _ v w' h
    exact ⟨rfl,fun w2 hk=>by rw [k w2 hk];simp only [Result.andThen_ok];exact k2 w2 hk⟩
def Nv {α:Type} (P:Program) (s:Sem α):Prop:=∀ w v w',s.run P w≠.ok v w'
theorem Nv.sta {s:Sem α} (h:Nv P s):CJ P s:=fun w v w' e=>absurd e (h w v w')
theorem Nv.bind {s:Sem α} {f:α→Sem β} (hf:∀ a,Nv P (f a)):Nv P (s >>= f):=fun w v w' h=>by
  simp only [Sem.run_bind] at h
  cases hr:s.run P w with
  | halt x w2=>rw [hr] at h;cases h
  | ok x w1=>rw [hr] at h;simp only [Result.andThen_ok] at h;exact hf x _ _ _ h
theorem nv_rt {x y:Int} {s:Bool} {c:BoundsCode}:Nv P (runtimePanic (.bounds x y s c):Sem α):=by
  unfold runtimePanic
  exact Nv.bind fun p w v w' h=>by cases h
theorem nv_bounds {k:IntKind} {x y:Int} {c:BoundsCode}:Nv P (boundsPanic k x y c:Sem α):=by
  unfold boundsPanic
  split
  · exact Nv.bind fun b=>nv_rt
  · exact Nv.bind fun b=>nv_rt
theorem CJ.program:CJ P program:=fun w v w' h=>by
  change Result.ok P w=Result.ok v w' at h;cases h;exact ⟨rfl,fun _ _=>rfl⟩
theorem CJ.underlying (t:TypeId):CJ P (underlying t):=by
  unfold Go.underlying
  refine CJ.program.bind fun p=>?_
  split
  · exact CJ.pure _
  · exact CJ.halt _
theorem CJ.typeInfo (t:TypeId):CJ P (typeInfo t):=by
  unfold Go.typeInfo
  refine CJ.program.bind fun p=>?_
  split
  · exact CJ.pure _
  · exact CJ.halt _
theorem CJ.sizeOf (t:TypeId):CJ P (sizeOf t):=(CJ.typeInfo t).bind fun _=>CJ.pure _
theorem CJ.isAgg (t:TypeId):CJ P (isAgg t):=by
  unfold Go.isAgg
  refine (CJ.underlying t).bind fun d=>?_
  split <;> exact CJ.pure _
theorem GK {w w2:World} (k:Keep [] w w2) {r:Nat} {o:Obj} (h:w.heap[r]? = some o):w2.heap[r]? = some o:=by
  rw [k.block r (Array.getElem?_eq_some_iff.1 h).1 (by simp)];exact h
theorem cell_keep {w w2:World} (k:Keep [] w w2) {a:Addr} {v:Value} (h:w.cell? a=some v):w2.cell? a=some v:=by
  unfold World.cell? at h ⊢
  cases hb:w.heap[a.block]? with
  | none=>rw [hb] at h;cases h
  | some o=>rw [GK k hb];rw [hb] at h;exact h
theorem CJ.load (a:Addr) (m:Mode):CJ P (load a m):=fun w v w' h=>by
  unfold Go.load at h ⊢
  simp only [Sem.run] at h ⊢
  cases hc:w.cell? a with
  | some x=>
    rw [hc] at h;simp only at h
    change Result.ok x w=Result.ok v w' at h
    cases h
    exact ⟨rfl,fun w2 k=>by simp only [cell_keep k hc];first|done|rfl⟩
  | none=>
    rw [hc] at h;simp only at h
    unfold World.farLoad at h
    cases hb:w.heap[a.block]? with
    | none=>rw [hb] at h;simp only at h;cases h
    | some o=>
      rw [hb] at h
      cases o with
      | view at_ u=>
        simp only at h
        cases hv:w.viewLoad P at_ u a (m == .atomic) with
        | error e=>rw [hv] at h;cases h
        | ok r=>
          rw [hv] at h
          obtain ⟨x,es⟩:=r
          change Result.ok x w=Result.ok v w' at h
          cases h
          refine ⟨rfl,fun w2 k=>?_⟩
          have hc2:w2.cell? a=none:=by unfold World.cell?;rw [GK k hb]
          have hv2:w2.viewLoad P at_ u a (m == .atomic) = .ok (v,es):=by
            cases hb2:w.heap[at_.block]? with
            | some o2=>
              rw [← hv]
              unfold World.viewLoad World.seen
              rw [GK k hb2,hb2]
            | none=>
              exfalso
              unfold World.viewLoad World.seen at hv
              rw [hb2] at hv
              simp only [bind,Except.bind,throw,throwThe,MonadExceptOf.throw] at hv
              repeat' split at hv
              all_goals first|cases hv|skip
              all_goals (rename_i h9;repeat' split at h9)
              all_goals first|cases h9|skip
          rw [hc2];simp only
          unfold World.farLoad
          simp only [GK k hb,hv2]
          first|done|rfl
      | _=>simp only at h;cases h
theorem CJ.loadCellsFrom (a:Addr):∀ (n i:Nat) (acc:Array Value),CJ P (loadCellsFrom a i n acc)
  | 0,i,acc=>CJ.pure _
  | n+1,i,acc=>(CJ.load _ _).bind fun v=>CJ.loadCellsFrom a n (i+1) _
theorem CJ.loadVar (t:TypeId) (a:Addr):CJ P (loadVar t a):=by
  unfold Go.loadVar
  refine (CJ.isAgg t).bind fun b=>?_
  split
  · exact (CJ.sizeOf t).bind fun n=>(CJ.loadCellsFrom _ _ _ _).bind fun _=>CJ.pure _
  · exact CJ.load _ _
theorem CJ.sureAddr (x:Value):CJ P (Instr.sureAddr x):=by
  unfold Instr.sureAddr;split
  · exact CJ.pure _
  · exact CJ.halt _
theorem CJ.asIntOf (x:Value):CJ P (asIntOf x):=by
  unfold Go.asIntOf;split
  · exact CJ.pure _
  · exact CJ.halt _
  · exact CJ.halt _
theorem CJ.asBool (x:Value):CJ P (asBool x):=by
  unfold Go.asBool;split
  · exact CJ.pure _
  · exact CJ.halt _
theorem CJ.asAgg (x:Value):CJ P (asAgg x):=by
  unfold Go.asAgg;split
  · exact CJ.pure _
  · exact CJ.halt _
theorem CJ.indexAt (t:TypeId) (x i:Value):CJ P (Instr.indexAt t x i):=by
  unfold Instr.indexAt
  refine (CJ.asIntOf i).bind fun ki=>(CJ.underlying t).bind fun d=>?_
  simp only
  repeat' first
    | exact CJ.pure _
    | exact CJ.halt _
    | exact nv_bounds.sta
    | exact CJ.underlying _
    | exact CJ.sizeOf _
    | exact CJ.sureAddr _
    | refine CJ.bind ?_ fun _=>?_
    | split
theorem CJ.part (t:TypeId) (cs:Array Value) (off:Nat):CJ P (part t cs off):=by
  unfold Go.part
  refine (CJ.isAgg t).bind fun b=>?_
  split
  · exact (CJ.sizeOf t).bind fun _=>CJ.pure _
  · split
    · exact CJ.pure _
    · exact CJ.halt _
theorem CJ.field (t:TypeId) (x:Value) (k:Nat):CJ P (Instr.field t x k):=by
  unfold Instr.field
  refine (CJ.underlying t).bind fun d=>?_
  split
  · split
    · exact (CJ.asAgg _).bind fun _=>CJ.part _ _ _
    · exact CJ.halt _
  · exact CJ.halt _
theorem CJ.extract (x:Value) (k:Nat):CJ P (Instr.extract x k):=by
  unfold Instr.extract
  split
  · split
    · exact CJ.pure _
    · exact CJ.halt _
  · exact CJ.halt _
theorem CJ.getObj (r:Nat):CJ P (getObj r):=fun w v w' h=>by
  unfold Go.getObj at h ⊢
  simp only [Sem.run] at h ⊢
  cases hb:w.heap[r]? with
  | none=>rw [hb] at h;cases h
  | some o=>
    rw [hb] at h
    cases o <;> first
      | (simp only at h;cases h;done)
      | (change Result.ok _ w=Result.ok v w' at h;cases h;exact ⟨rfl,fun w2 k=>by simp only [GK k hb];first|done|rfl⟩)
theorem st_len (ats:Array TypeId) (t:TypeId) (args:Array Value):CJ P (Builtin.len_ ats t args):=by
  unfold Builtin.len_
  split
  · refine (CJ.underlying _).bind fun d=>?_
    split
    · exact CJ.pure _
    · exact CJ.pure _
    · refine (CJ.underlying _).bind fun d=>?_
      split
      · exact CJ.pure _
      · exact CJ.halt _
    · exact CJ.pure _
    · exact CJ.pure _
    · exact CJ.pure _
    · refine (CJ.getObj _).bind fun o=>?_
      split
      · exact CJ.pure _
      · exact CJ.halt _
    · refine (CJ.getObj _).bind fun o=>?_
      split
      · exact CJ.pure _
      · exact CJ.halt _
    · exact CJ.halt _
  · exact CJ.halt _
theorem CJ.viewAt (r:Nat):CJ P (Go.viewAt r):=fun w v w' h=>by
  have key:∀ (x:World),(Go.viewAt r).run P x=(if (x.shape? r).isSome then Result.ok none x else ((Go.getObj r >>= fun o=>match o with | .view a t=>Pure.pure (some (a,t)) | _=>Pure.pure none:Sem (Option (Addr × TypeId))).run P x)):=fun x=>by
    unfold Go.viewAt
    simp only [Sem.run_bind,run_shape,Result.andThen_ok]
    split
    · simp only [Sem.run_pure]
    · simp only [Sem.run_bind]
      first|done|congr 1
  rw [key] at h
  by_cases c:(w.shape? r).isSome=true
  · rw [if_pos c] at h
    cases h
    refine ⟨rfl,fun w2 k=>?_⟩
    rw [key,if_pos ?_]
    unfold World.shape? at c ⊢
    cases hb:w.heap[r]? with
    | none=>rw [hb] at c;cases c
    | some o=>rw [GK k hb];rw [hb] at c;exact c
  · rw [if_neg c] at h
    have hs:CJ P (Go.getObj r >>= fun o=>match o with | .view a t=>Pure.pure (some (a,t)) | _=>Pure.pure none:Sem (Option (Addr × TypeId))):=(CJ.getObj r).bind fun o=>by
      split
      · exact CJ.pure _
      · exact CJ.pure _
    obtain ⟨e,k⟩:=hs w v w' h
    refine ⟨e,fun w2 hk=>?_⟩
    rw [key,if_neg ?_]
    · exact k w2 hk
    · intro c2
      apply c
      cases hb:w.heap[r]? with
      | some o=>unfold World.shape? at c2 ⊢;rw [GK hk hb] at c2;rw [hb];exact c2
      | none=>
        exfalso
        simp only [Sem.run_bind] at h
        unfold Go.getObj at h
        simp only [Sem.run,hb] at h
        cases h
theorem CJ.noView (a:Addr):CJ P (noView a):=by
  unfold Go.noView
  refine (CJ.viewAt _).bind fun o=>?_
  split
  · exact CJ.halt _
  · exact CJ.pure _
theorem CJ.shapeOr {β:Type} (r:Nat) (f:Option (TypeId × Nat)→Sem β) (hn:Nv P (f none)) (hf:∀ x,CJ P (f (some x))):CJ P (shape r >>= f):=fun w v w' e=>by
  simp only [Sem.run_bind,run_shape,Result.andThen_ok] at e ⊢
  cases hs:w.shape? r with
  | none=>rw [hs] at e;exact absurd e (hn _ _ _)
  | some x=>
    rw [hs] at e
    obtain ⟨e1,k⟩:=hf x w v w' e
    refine ⟨e1,fun w2 hk=>?_⟩
    have:w2.shape? r=some x:=by
      unfold World.shape? at hs ⊢
      cases hb:w.heap[r]? with
      | none=>rw [hb] at hs;cases hs
      | some o=>rw [GK hk hb];rw [hb] at hs;exact hs
    rw [this];exact k w2 hk
theorem CJ.byteOf (a:Addr):CJ P (byteOf a):=by
  unfold Go.byteOf
  split
  · exact CJ.pure _
  · refine CJ.program.bind fun p=>(CJ.noView a).bind fun _=>CJ.shapeOr _ _ (fun w v w' h=>by cases h) fun x=>?_
    simp only
    split
    · exact CJ.pure _
    · split
      · exact CJ.pure _
      · exact CJ.halt _
theorem CJ.fieldAt (t:TypeId) (x:Value) (k:Nat):CJ P (Instr.fieldAt t x k):=by
  unfold Instr.fieldAt
  refine (CJ.underlying t).bind fun d=>?_
  split
  · split
    · refine (CJ.sureAddr x).bind fun a=>CJ.bind ?_ fun _=>CJ.pure _
      unfold Go.fieldPlace
      refine (CJ.sizeOf _).bind fun n=>?_
      split
      · unfold Go.partAt
        exact (CJ.byteOf _).bind fun _=>(CJ.byteOf _).bind fun _=>CJ.pure _
      · exact CJ.pure _
    · exact CJ.halt _
  · exact CJ.halt _
theorem CJ.mapL {f:α→Sem β} (hf:∀ a,CJ P (f a)):∀ l:List α,CJ P (l.mapM f)
  | []=>by rw [List.mapM_nil];exact CJ.pure _
  | a :: l=>by
    rw [List.mapM_cons]
    exact (hf a).bind fun b=>(CJ.mapL hf l).bind fun bs=>CJ.pure _
theorem CJ.mapA {f:α→Sem β} (hf:∀ a,CJ P (f a)) (l:Array α):CJ P (l.mapM f):=by
  rw [Array.mapM_eq_mapM_toList,map_eq_pure_bind]
  exact (CJ.mapL hf l.toList).bind fun _=>CJ.pure _
theorem CJ.zeroValue (t:TypeId):CJ P (zeroValue t):=by
  unfold Go.zeroValue
  refine (CJ.typeInfo t).bind fun i=>?_
  split
  · exact CJ.pure _
  · exact CJ.halt _
theorem CJ.build (t:TypeId) (ps:Array (Nat × Value)):CJ P (Instr.build t ps):=by
  unfold Instr.build
  refine (CJ.zeroValue t).bind fun z=>?_
  simp only
  refine (CJ.underlying t).bind fun d=>?_
  split
  · refine (CJ.mapA (fun f=>(CJ.sizeOf _).bind fun _=>CJ.pure _) _).bind fun places=>?_
    split
    · exact CJ.pure _
    · exact CJ.halt _
  · refine (CJ.sizeOf _).bind fun size=>?_
    split
    · exact CJ.pure _
    · exact CJ.halt _
  · exact CJ.halt _
def rdOp (op:Op):Bool:=
  match op with
  | .build .. | .move _ | .assign _ | .pick .. | .load .. | .field .. | .fieldAddr .. | .indexAddr .. | .extract ..=>true
  | .call c=>(match c.callee with | .builtin .len=>true | _=>false)
  | _=>false
theorem rdOp_sta {op:Op} {ty:TypeId} {ρ:Operand→Value} (h:rdOp op=true):CJ P (execOp ρ ⟨none,op,ty,"",#[],none⟩):=by
  have key:∀ (s:Sem Value),CJ P s→CJ P (do Pure.pure (Next.value (← s)):Sem Next):=fun s hs=>hs.bind fun _=>CJ.pure _
  cases op with
  | move x=>exact CJ.pure _
  | assign x=>exact CJ.pure _
  | pick c a b=>
    refine (CJ.asBool _).bind fun x=>?_
    exact CJ.pure _
  | load t a=>exact key _ ((CJ.sureAddr _).bind fun a=>CJ.loadVar _ _)
  | field t x k=>exact key _ (CJ.field _ _ _)
  | fieldAddr t x k=>exact key _ (CJ.fieldAt _ _ _)
  | indexAddr t x i=>exact key _ (CJ.indexAt _ _ _)
  | extract t k=>exact key _ (CJ.extract _ _)
  | build t ps=>exact key _ (CJ.build _ _)
  | call c=>
    unfold rdOp at h
    simp only at h
    split at h
    · rename_i hc
      have:execOp ρ ⟨none, .call c,ty,"",#[],none⟩ = (do Pure.pure (Next.value (← Builtin.len_ c.argTypes ty (c.args.map ρ))):Sem Next):=by
        simp only [execOp,resolve,hc,pure_bind,invoke,builtin]
      rw [this]
      exact key _ (st_len _ _ _)
    · cases h
  | _=>simp [rdOp] at h
def vOpB (op:Op):Bool:=vOp op || (match op with | .build ..=>true | _=>false)
theorem vOpB_val {o:Oper} (h:vOpB o.op=true) {ρ:Operand→Value} {w w':World} {r:Next} (e:(execOp ρ o).run P w = .ok r w'):∃ v,r = .value v:=by
  unfold vOpB at h
  rw [Bool.or_eq_true] at h
  rcases h with h|h
  · exact OK h e
  · obtain ⟨d,op,ty,pos,af,g⟩:=o
    cases op with
    | build t ps=>
      simp only [execOp,Sem.run_bind] at e
      cases hs:(Instr.build t (ps.map fun (i,x)=>(i,ρ x))).run P w with
      | ok x w2=>rw [hs] at e;simp only [Result.andThen_ok,Sem.run_pure] at e;cases e;exact ⟨_,rfl⟩
      | halt x w2=>rw [hs] at e;cases e
    | _=>simp at h
def mkV (op:Op):Bool:=vOpB op || (match op with | .alloc _ | .buildSlice ..=>true | _=>false)
theorem mkV_val {o:Oper} (h:mkV o.op=true) {ρ:Operand→Value} {w w':World} {r:Next} (e:(execOp ρ o).run P w = .ok r w'):∃ v,r = .value v:=by
  unfold mkV at h
  rw [Bool.or_eq_true] at h
  rcases h with h|h
  · exact vOpB_val h e
  · have key:∀ (s:Sem Value),(do Pure.pure (Next.value (← s)):Sem Next).run P w = .ok r w'→∃ v,r = .value v:=fun s e=>by
      simp only [Sem.run_bind] at e
      cases hs:s.run P w with
      | ok x w2=>rw [hs] at e;simp only [Result.andThen_ok,Sem.run_pure] at e;cases e;exact ⟨_,rfl⟩
      | halt x w2=>rw [hs] at e;cases e
    obtain ⟨d,op,ty,pos,af,g⟩:=o
    cases op with
    | alloc t=>exact key _ e
    | buildSlice t l ps=>exact key _ e
    | _=>simp at h
end
end Go.Fw
