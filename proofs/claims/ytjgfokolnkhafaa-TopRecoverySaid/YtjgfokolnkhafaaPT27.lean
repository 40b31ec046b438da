/- What the laws of this part rest on: lemmas, and the walks of the functions. No conditions. -/
import Derived.WalkKit
import Derived.WalkSpells
import Derived.WalkLawsBesides
import Derived.RangeFuncLeaves
import Derived.Maps.AppendAt
import Derived.Deep.AppendLies
import Derived.Deep.Slices
import Derived.OpenShut
import Derived.ProofKit
import Derived.Below
import Derived.ChangeSame
import Derived.Carry
import Derived.RangeFuncRecord
import Derived.Laws.Tables
import Derived.Recover
import Derived.DefersIn
import Derived.Lib.AppendZerosOnto
import Derived.Lib.Overlaps
import Derived.Laws.CopyRow
import Derived.Laws.StructEq
import Derived.ChangeKeysEq
import Derived.OrdersIn
import Derived.Test.YtjgfokolnkhafaaRows
import Derived.Test.YtjgfokolnkhafaaPT26
set_option linter.unusedSimpArgs false
set_option linter.unusedVariables false
namespace Go.Proofs.Ytjgfokolnkhafaa
open Go.Fw Go.RowKit
set_option maxHeartbeats 4000000 in
set_option maxRecDepth 100000 in
theorem c_mixed {O:List Nat} (la_v:Value) (la:List Share) (lb_v:Value) (lb:List Share) (secret_v:Value) (secret:List UInt8) (w:World) (b0:BL Enc.share w O la_v la) (a9:BL Enc.share w O lb_v lb) (a2:BL Enc.u8 w O secret_v secret) (hO:∀ b∈O,b<w.heap.size):CM Try.prog 18 [la_v,lb_v,secret_v] w (fun v w'=>∃ (x0:Value),v = .tuple #[x0,vI ((AX la lb secret).2)]∧BL Enc.u8 w' (O) x0 ((AX la lb secret).1)):= by
 have bD:=b0.len_le
 have b0:BL Enc.share w ([]++O) la_v la:=b0
 have bE:=a9.len_le
 have a9:BL Enc.share w ([]++O) lb_v lb:=a9
 have S2:=a2.len_le
 have a2:BL Enc.u8 w ([]++O) secret_v secret:=a2
 have s0:St w O w []:=St.start hO
 refine YG 116 Try.func18 rfl rfl oT (fun F0=>AF (AB kR (AA (AE (nS) rfl (AA (AE (vI 0) rfl (AG (AC (AF (AF (AB kR (AA (AD (la_v) rfl (AA (BF (vs:=[la_v]) NT (NP (O:=[]++O) la_v la w b0 s0.lt) rfl s0 fun cn S3 y8 y9 co S4=>(?_))))))))))))))))
 obtain rfl:=S4
 have b0:=b0.mv y9
 have a9:=a9.mv y9
 have a2:=a2.mv y9
 refine AA (AE (vI (BN la)) rfl (AG (AC (AF (AB kR (AA (AD (vI (BN la)) rfl (AA (DQ .i64 (BN la) (0:Int) rfl rfl (AG (AC (AJ ((BN la) != (0:Int)) rfl rfl (fun u3=>?_) (fun u3=>?_)))))))))))))
 ·have bF:BN la≠(0:Int):=by simpa using u3
  refine AF (AB kR (AA (AD (vI (BN la)) rfl (AA (AE (nS) rfl (AA (AE (vI (BN la)) rfl (AG (AC (AM (AP (RT rfl (GE rfl rfl rfl rfl) (?_)))))))))))))
  have S5:((AX la lb secret).1)=([]):=by exact congrArg (fun p=>p.1) (show AX la lb secret=_ from mixed_1 aS)
  have S6:((AX la lb secret).2)=(BN la):=by exact congrArg (fun p=>p.2) (show AX la lb secret=_ from mixed_1 aS)
  exact ⟨_,rfl,y8.keep,by rw [S5,S6];exact ⟨.slice none 0 0,rfl,BL.nil _ _ _⟩⟩
 have J4:BN la=(0:Int):=by simpa using u3
 have hca:BN la=0:=J4
 have hva:=(EM la).1 hca
 have hpa:=hva.pos
 have hepa:=hva.ep1
 have hepa0:=hva.ep0
 refine AT (AC (AF (AF (AB kR (AA (AD (lb_v) rfl (AA (BF (vs:=[lb_v]) NT (NP (O:=[]++O) lb_v lb S3 a9 y8.lt) rfl y8 fun cp b6 j7 z0 cq S7=>(?_)))))))))
 obtain rfl:=S7
 have b0:=b0.mv z0
 have a9:=a9.mv z0
 have a2:=a2.mv z0
 refine AA (AE (vI (BN lb)) rfl (AG (AC (AF (AB kR (AA (AD (vI (BN lb)) rfl (AA (DQ .i64 (BN lb) (0:Int) rfl rfl (AG (AC (AJ ((BN lb) != (0:Int)) rfl rfl (fun u4=>?_) (fun u4=>?_)))))))))))))
 ·have bG:BN lb≠(0:Int):=by simpa using u4
  refine AF (AB kR (AA (AD (vI (BN lb)) rfl (AA (AE (nS) rfl (AA (AE (vI (BN lb)) rfl (AG (AC (AM (AP (RT rfl (GE rfl rfl rfl rfl) (?_)))))))))))))
  have S8:((AX la lb secret).1)=([]):=by exact congrArg (fun p=>p.1) (show AX la lb secret=_ from mixed_2 aS aS)
  have S9:((AX la lb secret).2)=(BN lb):=by exact congrArg (fun p=>p.2) (show AX la lb secret=_ from mixed_2 aS aS)
  exact ⟨_,rfl,j7.keep,by rw [S8,S9];exact ⟨.slice none 0 0,rfl,BL.nil _ _ _⟩⟩
 have J5:BN lb=(0:Int):=by simpa using u4
 have hcb:BN lb=0:=J5
 have hvb:=(EM lb).1 hcb
 have hpb:=hvb.pos
 refine AT (AC (OH (fun FI wI=>∃ (b3:Nat) (b4:Nat) (d5:Value) (d6:Value) (B:List Nat),True∧(∃ F1,FI=GN F1 [(0,la_v),(1,lb_v),(2,secret_v),(10,vP (some ⟨b3,0,none⟩)),(11,vP (some ⟨b4,0,none⟩)),(116,undef)])∧St w O wI B∧BL Enc.share wI (B++O) (la_v) (la)∧BL Enc.share wI (B++O) (lb_v) (lb)∧BL Enc.u8 wI (B++O) (secret_v) (secret)∧FT wI b3 70 [vI (la[0]!.epoch),vI (la[0]!.index),vI (la[0]!.threshold),vI (la[0]!.many),d5]∧BL Enc.u8 wI (B++O) d5 (la[0]!.data)∧b3∈B∧FT wI b4 70 [vI (lb[0]!.epoch),vI (lb[0]!.index),vI (lb[0]!.threshold),vI (lb[0]!.many),d6]∧BL Enc.u8 wI (B++O) d6 (lb[0]!.data)∧b4∈B∧EY b3 b4) ?_ ?_))
 ·refine ZA 8 [3,4,5] _ _ _ [fun _=>fun (vT:Value) (_:World)=>BL Enc.share b6 ([]++O) vT (la),fun _=>fun (vT:Value) (_:World)=>∃ aT,vT = .pointer (some aT)∧PT Enc.share b6 ([]++O) (.pointer (some aT)) (la[0]!),fun _=>fun (vT:Value) (_:World)=>∃ csT:List Value,vT = .agg csT.toArray∧Enc.share.rd b6 ([]++O) csT (la[0]!),fun _=>fun (vT:Value) (_:World)=>BL Enc.share b6 ([]++O) vT (lb),fun _=>fun (vT:Value) (_:World)=>∃ aT,vT = .pointer (some aT)∧PT Enc.share b6 ([]++O) (.pointer (some aT)) (lb[0]!),fun _=>fun (vT:Value) (_:World)=>∃ csT:List Value,vT = .agg csT.toArray∧Enc.share.rd b6 ([]++O) csT (lb[0]!),TBx b6 70 [vI 0,vI 0,vI 0,vI 0,nS],TBx b6 70 [vI 0,vI 0,vI 0,vI 0,nS]] [⟨0,[],[],[],false,[]⟩,⟨0,[],[],[],false,[0]⟩,⟨0,[],[],[],false,[1]⟩,⟨0,[],[],[],false,[]⟩,⟨0,[],[],[],false,[3]⟩,⟨0,[],[],[],false,[4]⟩,⟨1,[],[],[],false,[]⟩,⟨2,[],[],[],false,[]⟩] ([]) kR kR kR kR kR (by decide) rfl rfl rfl ⟨fun _ _ _ _ _ h=>h,fun _ _ _ _ _ h=>h,fun _ _ _ _ _ h=>h,fun _ _ _ _ _ h=>h,fun _ _ _ _ _ h=>h,fun _ _ _ _ _ h=>h,TBx.st,TBx.st,trivial⟩ ⟨?_,?_,?_,?_,?_,?_,?_,?_,trivial⟩ ?_ ?_
  ·intro F1 w1 B1_ Bs_ k1 hs_ hl_ hr_ hsep_ hf hd
   obtain ⟨F2,rfl⟩:=DG (F:=F1) [(0,la_v)] ⟨hf 0 kR,trivial⟩
   exact DC rfl ((AD (la_v) rfl (⟨[],(Keep.refl _ _),VT,b0⟩)))
  ·intro F1 w1 B1_ Bs_ k1 hs_ hl_ hr_ hsep_ hf hd
   obtain ⟨T0,T1,A4⟩:∃ v,F1 28=v∧BL Enc.share b6 ([]++O) v (la):=⟨_,rfl,hd 0 28 kR kR⟩
   have:=A4.len_le
   obtain ⟨F2,rfl⟩:=DG (F:=F1) [(28,T0)] ⟨T1,trivial⟩
   exact DC rfl ((o_idxU U32_ EN .i64 (0:Int) 0 rfl rfl rfl A4 oM fun T2 J6=>(⟨[],(Keep.refl _ _),VT,⟨T2,rfl,J6⟩⟩)))
  ·intro F1 w1 B1_ Bs_ k1 hs_ hl_ hr_ hsep_ hf hd
   have k0:=(Keep.drew [] b6).trans k1
   obtain ⟨T3,T4,J7⟩:∃ aX_,F1 29 = .pointer (some aX_)∧PT Enc.share b6 ([]++O) (.pointer (some aX_)) (la[0]!):=hd 1 29 kR kR
   obtain ⟨F2,rfl⟩:=DG (F:=F1) [(29,vP (some T3))] ⟨T4,trivial⟩
   exact DC rfl ((o_loadSU U70_ rfl EN rfl J7 k0 fun J8 J9=>(⟨[],(Keep.refl _ _),VT,⟨J8,rfl,J9⟩⟩)))
  ·intro F1 w1 B1_ Bs_ k1 hs_ hl_ hr_ hsep_ hf hd
   obtain ⟨F2,rfl⟩:=DG (F:=F1) [(1,lb_v)] ⟨hf 1 kR,trivial⟩
   exact DC rfl ((AD (lb_v) rfl (⟨[],(Keep.refl _ _),VT,a9⟩)))
  ·intro F1 w1 B1_ Bs_ k1 hs_ hl_ hr_ hsep_ hf hd
   obtain ⟨T5,T6,A5⟩:∃ v,F1 31=v∧BL Enc.share b6 ([]++O) v (lb):=⟨_,rfl,hd 3 31 kR kR⟩
   have:=A5.len_le
   obtain ⟨F2,rfl⟩:=DG (F:=F1) [(31,T5)] ⟨T6,trivial⟩
   exact DC rfl ((o_idxU U32_ EN .i64 (0:Int) 0 rfl rfl rfl A5 oM fun T7 K0=>(⟨[],(Keep.refl _ _),VT,⟨T7,rfl,K0⟩⟩)))
  ·intro F1 w1 B1_ Bs_ k1 hs_ hl_ hr_ hsep_ hf hd
   have k0:=(Keep.drew [] b6).trans k1
   obtain ⟨T8,T9,K1⟩:∃ aX_,F1 32 = .pointer (some aX_)∧PT Enc.share b6 ([]++O) (.pointer (some aX_)) (lb[0]!):=hd 4 32 kR kR
   obtain ⟨F2,rfl⟩:=DG (F:=F1) [(32,vP (some T8))] ⟨T9,trivial⟩
   exact DC rfl ((o_loadSU U70_ rfl EN rfl K1 k0 fun K2 K3=>(⟨[],(Keep.refl _ _),VT,⟨K2,rfl,K3⟩⟩)))
  ·intro F1 w1 B1_ Bs_ k1 hs_ hl_ hr_ hsep_ hf hd
   have k0:=(Keep.drew [] b6).trans k1
   have s1:=j7.adoptL k0 hl_
   obtain ⟨F2,rfl⟩:=DG (F:=F1) [] trivial
   refine DC rfl ((CR [vI 0,vI 0,vI 0,vI 0,nS] PG rfl s1 fun U0 cr ct cu cv U1 K4=>(?_)))
   have K5:b6.heap.size≤U0:=by have:=k0.size;omega
   exact ⟨[],U1,VT,⟨_,rfl,K5,(by intro h;have:=lt_of s1 _ h;omega),K4⟩⟩
  ·intro F1 w1 B1_ Bs_ k1 hs_ hl_ hr_ hsep_ hf hd
   have k0:=(Keep.drew [] b6).trans k1
   have s1:=j7.adoptL k0 hl_
   obtain ⟨F2,rfl⟩:=DG (F:=F1) [] trivial
   refine DC rfl ((CR [vI 0,vI 0,vI 0,vI 0,nS] PG rfl s1 fun U2 cw cx cy cz U3 K6=>(?_)))
   have K7:b6.heap.size≤U2:=by have:=k0.size;omega
   exact ⟨[],U3,VT,⟨_,rfl,K7,(by intro h;have:=lt_of s1 _ h;omega),K6⟩⟩
  ·intro o9 i0 p0 G3 u5 K8 y4 l6 l7
   obtain ⟨d7,U4,A6,K9,A7⟩:(TBx b6 70 [vI 0,vI 0,vI 0,vI 0,nS]) (p0 1) (o9 10) i0:=l6 6 10 kR (by decide) kR kR
   have A8:=A7.lt
   obtain ⟨f9,U5,L0,L1,p1⟩:(TBx b6 70 [vI 0,vI 0,vI 0,vI 0,nS]) (p0 2) (o9 11) i0:=l6 7 11 kR (by decide) kR kR
   have L2:=p1.lt
   have L3:∀ x∈([]:List Nat),x∈([]:List Nat)∨(b6.heap.size≤x∧x<i0.heap.size):=fun x hx=>.inl hx
   have I5:∀ x∈([]:List Nat),x∈([]:List Nat):=fun x hx=>hx
   have bH:∀ x∈([]:List Nat),x∈p0 1:=fun x hx=>u5 1 x hx
   have bI:∀ x∈([]:List Nat),x∈p0 2:=fun x hx=>u5 2 x hx
   have L4:∀ x∈(d7 :: ([]:List Nat)),x∈([]:List Nat)∨(b6.heap.size≤x∧x<i0.heap.size):=fun x hx=>by rcases List.mem_cons.1 hx with rfl|hx;exact .inr ⟨A6,A8⟩;exact L3 x hx
   have I6:∀ x∈([]:List Nat),x∈(d7 :: ([]:List Nat)):=fun x hx=>List.mem_cons_of_mem _ (I5 x hx)
   have A9:∀ x∈(f9 :: (d7 :: ([]:List Nat))),x∈([]:List Nat)∨(b6.heap.size≤x∧x<i0.heap.size):=fun x hx=>by rcases List.mem_cons.1 hx with rfl|hx;exact .inr ⟨L0,L2⟩;exact L4 x hx
   have bx:∀ x∈([]:List Nat),x∈(f9 :: (d7 :: ([]:List Nat))):=fun x hx=>List.mem_cons_of_mem _ (I6 x hx)
   have U6:=j7.adoptL G3 A9
   have p2:Mv ([]) b6 (f9 :: (d7 :: ([]:List Nat))) i0:=Mv.adoptL G3 A9
   have u6:EY d7 f9:=fun e=>L1 (e ▸ y4 1 2 d7 (by decide) A6 A8 K9)
   obtain ⟨B0,U7,u7⟩:∃ cs:List Value,o9 30 = .agg cs.toArray∧Enc.share.rd b6 ([]++O) cs (la[0]!):=l6 2 30 kR (by decide) kR kR
   obtain ⟨u9,U8,l8⟩:∃ cs:List Value,o9 33 = .agg cs.toArray∧Enc.share.rd b6 ([]++O) cs (lb[0]!):=l6 5 33 kR (by decide) kR kR
   have b0:=b0.mv p2
   have a9:=a9.mv p2
   have a2:=a2.mv p2
   have u7:Enc.share.rd i0 ((f9 :: (d7 :: ([]:List Nat)))++O) B0 (la[0]!):=Enc.mv Enc.share (x:=la[0]!) u7 p2
   have l8:Enc.share.rd i0 ((f9 :: (d7 :: ([]:List Nat)))++O) u9 (lb[0]!):=Enc.mv Enc.share (x:=lb[0]!) l8 p2
   obtain ⟨F2,rfl⟩:=DG (F:=o9) [(0,la_v),(1,lb_v),(2,secret_v),(116,undef),(10,vP (some ⟨d7,0,none⟩)),(11,vP (some ⟨f9,0,none⟩)),(30,vA B0.toArray),(33,vA u9.toArray)] ⟨l7 0 kR,l7 1 kR,l7 2 kR,l7 116 kR,U4,U5,U7,U8,trivial⟩
   clear l6 l7 u5 K8 y4
   obtain ⟨p3,rfl,h3⟩:=u7
   have:=h3.len_le
   refine BZ (BE (vs:=[vI ((la[0]!).epoch),vI ((la[0]!).index),vI ((la[0]!).threshold),vI ((la[0]!).many),p3]) (.agg #[vI ((la[0]!).epoch),vI ((la[0]!).index),vI ((la[0]!).threshold),vI ((la[0]!).many),p3]) rfl rfl rfl EN (fun u hu=>by simp only [List.mem_cons,List.not_mem_nil,or_false] at hu;rcases hu with rfl|rfl|rfl|rfl|rfl <;> first|rfl|exact h3.oneCell) (by repeat (constructor)) A7 oT U6 fun U9 V0 p4 V1 v0=>(?_))
   have b0:=b0.mv p4
   have a9:=a9.mv p4
   have a2:=a2.mv p4
   have h3:=h3.mv p4
   have l8:Enc.share.rd U9 ((f9 :: (d7 :: ([]:List Nat)))++O) u9 (lb[0]!):=Enc.mv Enc.share (x:=lb[0]!) l8 p4
   have p1:=p1.keep V1 (AS (Ne.symm u6))
   obtain ⟨p5,rfl,l9⟩:=l8
   have:=l9.len_le
   refine BZ (BE (vs:=[vI ((lb[0]!).epoch),vI ((lb[0]!).index),vI ((lb[0]!).threshold),vI ((lb[0]!).many),p5]) (.agg #[vI ((lb[0]!).epoch),vI ((lb[0]!).index),vI ((lb[0]!).threshold),vI ((lb[0]!).many),p5]) rfl rfl rfl EN (fun u hu=>by simp only [List.mem_cons,List.not_mem_nil,or_false] at hu;rcases hu with rfl|rfl|rfl|rfl|rfl <;> first|rfl|exact l9.oneCell) (by repeat (constructor)) p1 oT V0 fun cA V2 p6 V3 L5=>(?_))
   have b0:=b0.mv p6
   have a9:=a9.mv p6
   have a2:=a2.mv p6
   have h3:=h3.mv p6
   have l9:=l9.mv p6
   have v0:=v0.keep V3 (AS u6)
   refine AG (AC (?_))
   exact ⟨d7,f9,p3,p5,(f9 :: (d7 :: ([]:List Nat))),trivial,⟨_,BD _ ⟨rfl,rfl,rfl,rfl,rfl,rfl,trivial⟩⟩,V2,b0,a9,a2,(by rw [show ([vI (la[0]!.epoch),vI (la[0]!.index),vI (la[0]!.threshold),vI (la[0]!.many),p3]:List Value)=[vI ((la[0]!).epoch),vI ((la[0]!).index),vI ((la[0]!).threshold),vI ((la[0]!).many),p3] from by rfl];exact v0),(by rw [show la[0]!.data=(la[0]!).data from by rfl];exact h3),(by repeat (constructor)),(by rw [show ([vI (lb[0]!.epoch),vI (lb[0]!.index),vI (lb[0]!.threshold),vI (lb[0]!.many),p5]:List Value)=[vI ((lb[0]!).epoch),vI ((lb[0]!).index),vI ((lb[0]!).threshold),vI ((lb[0]!).many),p5] from by rfl];exact L5),(by rw [show lb[0]!.data=(lb[0]!).data from by rfl];exact l9),(by repeat (constructor)),u6⟩
  intro cx_ hcx_
  match cx_,hcx_ with
  | 0,_=>
   intro t7 j8 p7 G4 v1 L6 y5 p8 m0
   obtain ⟨f0,V4,B1,L7,B2⟩:(TBx b6 70 [vI 0,vI 0,vI 0,vI 0,nS]) (p7 1) (t7 10) j8:=p8 6 10 kR (by decide) kR kR
   have B3:=B2.lt
   obtain ⟨i1,V5,L8,L9,p9⟩:(TBx b6 70 [vI 0,vI 0,vI 0,vI 0,nS]) (p7 2) (t7 11) j8:=p8 7 11 kR (by decide) kR kR
   have M0:=p9.lt
   have M1:∀ x∈([]:List Nat),x∈([]:List Nat)∨(b6.heap.size≤x∧x<j8.heap.size):=fun x hx=>.inl hx
   have I7:∀ x∈([]:List Nat),x∈([]:List Nat):=fun x hx=>hx
   have bJ:∀ x∈([]:List Nat),x∈p7 1:=fun x hx=>v1 1 x hx
   have bK:∀ x∈([]:List Nat),x∈p7 2:=fun x hx=>v1 2 x hx
   have M2:∀ x∈(f0 :: ([]:List Nat)),x∈([]:List Nat)∨(b6.heap.size≤x∧x<j8.heap.size):=fun x hx=>by rcases List.mem_cons.1 hx with rfl|hx;exact .inr ⟨B1,B3⟩;exact M1 x hx
   have I8:∀ x∈([]:List Nat),x∈(f0 :: ([]:List Nat)):=fun x hx=>List.mem_cons_of_mem _ (I7 x hx)
   have B4:∀ x∈(i1 :: (f0 :: ([]:List Nat))),x∈([]:List Nat)∨(b6.heap.size≤x∧x<j8.heap.size):=fun x hx=>by rcases List.mem_cons.1 hx with rfl|hx;exact .inr ⟨L8,M0⟩;exact M2 x hx
   have bz:∀ x∈([]:List Nat),x∈(i1 :: (f0 :: ([]:List Nat))):=fun x hx=>List.mem_cons_of_mem _ (I8 x hx)
   have V6:=j7.adoptL G4 B4
   have t8:Mv ([]) b6 (i1 :: (f0 :: ([]:List Nat))) j8:=Mv.adoptL G4 B4
   have v2:EY f0 i1:=fun e=>L9 (e ▸ y5 1 2 f0 (by decide) B1 B3 L7)
   obtain ⟨B5,V7,v3⟩:∃ cs:List Value,t7 30 = .agg cs.toArray∧Enc.share.rd b6 ([]++O) cs (la[0]!):=p8 2 30 kR (by decide) kR kR
   have b0:=b0.mv t8
   have a9:=a9.mv t8
   have a2:=a2.mv t8
   have v3:Enc.share.rd j8 ((i1 :: (f0 :: ([]:List Nat)))++O) B5 (la[0]!):=Enc.mv Enc.share (x:=la[0]!) v3 t8
   obtain ⟨F2,rfl⟩:=DG (F:=t7) [(0,la_v),(1,lb_v),(2,secret_v),(116,undef),(10,vP (some ⟨f0,0,none⟩)),(11,vP (some ⟨i1,0,none⟩)),(30,vA B5.toArray)] ⟨m0 0 kR,m0 1 kR,m0 2 kR,m0 116 kR,V4,V5,V7,trivial⟩
   clear p8 m0 v1 L6 y5
   obtain ⟨q0,rfl,h4⟩:=v3
   have:=h4.len_le
   refine BZ (BE (vs:=[vI ((la[0]!).epoch),vI ((la[0]!).index),vI ((la[0]!).threshold),vI ((la[0]!).many),q0]) (.agg #[vI ((la[0]!).epoch),vI ((la[0]!).index),vI ((la[0]!).threshold),vI ((la[0]!).many),q0]) rfl rfl rfl EN (fun u hu=>by simp only [List.mem_cons,List.not_mem_nil,or_false] at hu;rcases hu with rfl|rfl|rfl|rfl|rfl <;> first|rfl|exact h4.oneCell) (by repeat (constructor)) B2 oT V6 fun cB V8 t9 V9 v4=>(?_))
   have b0:=b0.mv t9
   have a9:=a9.mv t9
   have a2:=a2.mv t9
   have h4:=h4.mv t9
   have p9:=p9.keep V9 (AS (Ne.symm v2))
   refine AA (AD (lb_v) rfl (AA (DO U32_ EN .i64 (0:Int) 0 rfl rfl rfl a9 oM fun cC M3=>(AA (CY U70_ rfl EN rfl M3 fun bL M4=>(?_))))))
   obtain ⟨q1,rfl,m2⟩:=M4
   have:=m2.len_le
   refine BZ (BE (vs:=[vI ((lb[0]!).epoch),vI ((lb[0]!).index),vI ((lb[0]!).threshold),vI ((lb[0]!).many),q1]) (.agg #[vI ((lb[0]!).epoch),vI ((lb[0]!).index),vI ((lb[0]!).threshold),vI ((lb[0]!).many),q1]) rfl rfl rfl EN (fun u hu=>by simp only [List.mem_cons,List.not_mem_nil,or_false] at hu;rcases hu with rfl|rfl|rfl|rfl|rfl <;> first|rfl|exact m2.oneCell) (by repeat (constructor)) p9 oT V8 fun cD W0 q2 W1 M5=>(?_))
   have b0:=b0.mv q2
   have a9:=a9.mv q2
   have a2:=a2.mv q2
   have h4:=h4.mv q2
   have m2:=m2.mv q2
   have v4:=v4.keep W1 (AS v2)
   refine AG (AC (?_))
   exact ⟨f0,i1,q0,q1,(i1 :: (f0 :: ([]:List Nat))),trivial,⟨_,BD _ ⟨rfl,rfl,rfl,rfl,rfl,rfl,trivial⟩⟩,W0,b0,a9,a2,(by rw [show ([vI (la[0]!.epoch),vI (la[0]!.index),vI (la[0]!.threshold),vI (la[0]!.many),q0]:List Value)=[vI ((la[0]!).epoch),vI ((la[0]!).index),vI ((la[0]!).threshold),vI ((la[0]!).many),q0] from by rfl];exact v4),(by rw [show la[0]!.data=(la[0]!).data from by rfl];exact h4),(by repeat (constructor)),(by rw [show ([vI (lb[0]!.epoch),vI (lb[0]!.index),vI (lb[0]!.threshold),vI (lb[0]!.many),q1]:List Value)=[vI ((lb[0]!).epoch),vI ((lb[0]!).index),vI ((lb[0]!).threshold),vI ((lb[0]!).many),q1] from by rfl];exact M5),(by rw [show lb[0]!.data=(lb[0]!).data from by rfl];exact m2),(by repeat (constructor)),v2⟩
  | 1,_=>
   intro q3 j9 q4 G5 v5 M6 y6 m3 m4
   obtain ⟨f1,W2,B6,M7,B7⟩:(TBx b6 70 [vI 0,vI 0,vI 0,vI 0,nS]) (q4 1) (q3 10) j9:=m3 6 10 kR (by decide) kR kR
   have B8:=B7.lt
   obtain ⟨i2,W3,M8,M9,q5⟩:(TBx b6 70 [vI 0,vI 0,vI 0,vI 0,nS]) (q4 2) (q3 11) j9:=m3 7 11 kR (by decide) kR kR
   have N0:=q5.lt
   have N1:∀ x∈([]:List Nat),x∈([]:List Nat)∨(b6.heap.size≤x∧x<j9.heap.size):=fun x hx=>.inl hx
   have I9:∀ x∈([]:List Nat),x∈([]:List Nat):=fun x hx=>hx
   have bM:∀ x∈([]:List Nat),x∈q4 1:=fun x hx=>v5 1 x hx
   have bN:∀ x∈([]:List Nat),x∈q4 2:=fun x hx=>v5 2 x hx
   have N2:∀ x∈(f1 :: ([]:List Nat)),x∈([]:List Nat)∨(b6.heap.size≤x∧x<j9.heap.size):=fun x hx=>by rcases List.mem_cons.1 hx with rfl|hx;exact .inr ⟨B6,B8⟩;exact N1 x hx
   have J0:∀ x∈([]:List Nat),x∈(f1 :: ([]:List Nat)):=fun x hx=>List.mem_cons_of_mem _ (I9 x hx)
   have B9:∀ x∈(i2 :: (f1 :: ([]:List Nat))),x∈([]:List Nat)∨(b6.heap.size≤x∧x<j9.heap.size):=fun x hx=>by rcases List.mem_cons.1 hx with rfl|hx;exact .inr ⟨M8,N0⟩;exact N2 x hx
   have bA:∀ x∈([]:List Nat),x∈(i2 :: (f1 :: ([]:List Nat))):=fun x hx=>List.mem_cons_of_mem _ (J0 x hx)
   have W4:=j7.adoptL G5 B9
   have q6:Mv ([]) b6 (i2 :: (f1 :: ([]:List Nat))) j9:=Mv.adoptL G5 B9
   have v6:EY f1 i2:=fun e=>M9 (e ▸ y6 1 2 f1 (by decide) B6 B8 M7)
   obtain ⟨C0,W5,v7⟩:∃ cs:List Value,q3 30 = .agg cs.toArray∧Enc.share.rd b6 ([]++O) cs (la[0]!):=m3 2 30 kR (by decide) kR kR
   obtain ⟨W6,W7,j2⟩:∃ v,q3 31=v∧BL Enc.share b6 ([]++O) v (lb):=⟨_,rfl,m3 3 31 kR (by decide) kR kR⟩
   have:=j2.len_le
   have b0:=b0.mv q6
   have a9:=a9.mv q6
   have a2:=a2.mv q6
   have v7:Enc.share.rd j9 ((i2 :: (f1 :: ([]:List Nat)))++O) C0 (la[0]!):=Enc.mv Enc.share (x:=la[0]!) v7 q6
   have j2:=j2.mv q6
   obtain ⟨F2,rfl⟩:=DG (F:=q3) [(0,la_v),(1,lb_v),(2,secret_v),(116,undef),(10,vP (some ⟨f1,0,none⟩)),(11,vP (some ⟨i2,0,none⟩)),(30,vA C0.toArray),(31,W6)] ⟨m4 0 kR,m4 1 kR,m4 2 kR,m4 116 kR,W2,W3,W5,W7,trivial⟩
   clear m3 m4 v5 M6 y6
   obtain ⟨q7,rfl,h5⟩:=v7
   have:=h5.len_le
   refine BZ (BE (vs:=[vI ((la[0]!).epoch),vI ((la[0]!).index),vI ((la[0]!).threshold),vI ((la[0]!).many),q7]) (.agg #[vI ((la[0]!).epoch),vI ((la[0]!).index),vI ((la[0]!).threshold),vI ((la[0]!).many),q7]) rfl rfl rfl EN (fun u hu=>by simp only [List.mem_cons,List.not_mem_nil,or_false] at hu;rcases hu with rfl|rfl|rfl|rfl|rfl <;> first|rfl|exact h5.oneCell) (by repeat (constructor)) B7 oT W4 fun cE W8 q8 W9 v8=>(?_))
   have b0:=b0.mv q8
   have a9:=a9.mv q8
   have a2:=a2.mv q8
   have h5:=h5.mv q8
   have j2:=j2.mv q8
   have q5:=q5.keep W9 (AS (Ne.symm v6))
   refine AA (DO U32_ EN .i64 (0:Int) 0 rfl rfl rfl j2 oM fun cF N3=>(AA (CY U70_ rfl EN rfl N3 fun bO N4=>(?_))))
   obtain ⟨q9,rfl,m5⟩:=N4
   have:=m5.len_le
   refine BZ (BE (vs:=[vI ((lb[0]!).epoch),vI ((lb[0]!).index),vI ((lb[0]!).threshold),vI ((lb[0]!).many),q9]) (.agg #[vI ((lb[0]!).epoch),vI ((lb[0]!).index),vI ((lb[0]!).threshold),vI ((lb[0]!).many),q9]) rfl rfl rfl EN (fun u hu=>by simp only [List.mem_cons,List.not_mem_nil,or_false] at hu;rcases hu with rfl|rfl|rfl|rfl|rfl <;> first|rfl|exact m5.oneCell) (by repeat (constructor)) q5 oT W8 fun cG X0 r0 X1 N5=>(?_))
   have b0:=b0.mv r0
   have a9:=a9.mv r0
   have a2:=a2.mv r0
   have h5:=h5.mv r0
   have m5:=m5.mv r0
   have v8:=v8.keep X1 (AS v6)
   refine AG (AC (?_))
   exact ⟨f1,i2,q7,q9,(i2 :: (f1 :: ([]:List Nat))),trivial,⟨_,BD _ ⟨rfl,rfl,rfl,rfl,rfl,rfl,trivial⟩⟩,X0,b0,a9,a2,(by rw [show ([vI (la[0]!.epoch),vI (la[0]!.index),vI (la[0]!.threshold),vI (la[0]!.many),q7]:List Value)=[vI ((la[0]!).epoch),vI ((la[0]!).index),vI ((la[0]!).threshold),vI ((la[0]!).many),q7] from by rfl];exact v8),(by rw [show la[0]!.data=(la[0]!).data from by rfl];exact h5),(by repeat (constructor)),(by rw [show ([vI (lb[0]!.epoch),vI (lb[0]!.index),vI (lb[0]!.threshold),vI (lb[0]!.many),q9]:List Value)=[vI ((lb[0]!).epoch),vI ((lb[0]!).index),vI ((lb[0]!).threshold),vI ((lb[0]!).many),q9] from by rfl];exact N5),(by rw [show lb[0]!.data=(lb[0]!).data from by rfl];exact m5),(by repeat (constructor)),v6⟩
  | 2,_=>
   intro r4 k5 r5 G6 v9 N6 y7 m6 m7
   obtain ⟨f2,X2,C1,N7,C2⟩:(TBx b6 70 [vI 0,vI 0,vI 0,vI 0,nS]) (r5 1) (r4 10) k5:=m6 6 10 kR (by decide) kR kR
   have C3:=C2.lt
   obtain ⟨i3,X3,N8,N9,r6⟩:(TBx b6 70 [vI 0,vI 0,vI 0,vI 0,nS]) (r5 2) (r4 11) k5:=m6 7 11 kR (by decide) kR kR
   have O0:=r6.lt
   have O1:∀ x∈([]:List Nat),x∈([]:List Nat)∨(b6.heap.size≤x∧x<k5.heap.size):=fun x hx=>.inl hx
   have J1:∀ x∈([]:List Nat),x∈([]:List Nat):=fun x hx=>hx
   have bP:∀ x∈([]:List Nat),x∈r5 1:=fun x hx=>v9 1 x hx
   have bQ:∀ x∈([]:List Nat),x∈r5 2:=fun x hx=>v9 2 x hx
   have O2:∀ x∈(f2 :: ([]:List Nat)),x∈([]:List Nat)∨(b6.heap.size≤x∧x<k5.heap.size):=fun x hx=>by rcases List.mem_cons.1 hx with rfl|hx;exact .inr ⟨C1,C3⟩;exact O1 x hx
   have J2:∀ x∈([]:List Nat),x∈(f2 :: ([]:List Nat)):=fun x hx=>List.mem_cons_of_mem _ (J1 x hx)
   have C4:∀ x∈(i3 :: (f2 :: ([]:List Nat))),x∈([]:List Nat)∨(b6.heap.size≤x∧x<k5.heap.size):=fun x hx=>by rcases List.mem_cons.1 hx with rfl|hx;exact .inr ⟨N8,O0⟩;exact O2 x hx
   have bB:∀ x∈([]:List Nat),x∈(i3 :: (f2 :: ([]:List Nat))):=fun x hx=>List.mem_cons_of_mem _ (J2 x hx)
   have X4:=j7.adoptL G6 C4
   have r7:Mv ([]) b6 (i3 :: (f2 :: ([]:List Nat))) k5:=Mv.adoptL G6 C4
   have w0:EY f2 i3:=fun e=>N9 (e ▸ y7 1 2 f2 (by decide) C1 C3 N7)
   obtain ⟨C5,X5,w2⟩:∃ cs:List Value,r4 30 = .agg cs.toArray∧Enc.share.rd b6 ([]++O) cs (la[0]!):=m6 2 30 kR (by decide) kR kR
   obtain ⟨X6,X7,m9⟩:∃ aX_,r4 32 = .pointer (some aX_)∧PT Enc.share b6 ([]++O) (.pointer (some aX_)) (lb[0]!):=m6 4 32 kR (by decide) kR kR
   have b0:=b0.mv r7
   have a9:=a9.mv r7
   have a2:=a2.mv r7
   have w2:Enc.share.rd k5 ((i3 :: (f2 :: ([]:List Nat)))++O) C5 (la[0]!):=Enc.mv Enc.share (x:=la[0]!) w2 r7
   have m9:=m9.mv r7
   obtain ⟨F2,rfl⟩:=DG (F:=r4) [(0,la_v),(1,lb_v),(2,secret_v),(116,undef),(10,vP (some ⟨f2,0,none⟩)),(11,vP (some ⟨i3,0,none⟩)),(30,vA C5.toArray),(32,vP (some X6))] ⟨m7 0 kR,m7 1 kR,m7 2 kR,m7 116 kR,X2,X3,X5,X7,trivial⟩
   clear m6 m7 v9 N6 y7
   obtain ⟨r8,rfl,h6⟩:=w2
   have:=h6.len_le
   refine BZ (BE (vs:=[vI ((la[0]!).epoch),vI ((la[0]!).index),vI ((la[0]!).threshold),vI ((la[0]!).many),r8]) (.agg #[vI ((la[0]!).epoch),vI ((la[0]!).index),vI ((la[0]!).threshold),vI ((la[0]!).many),r8]) rfl rfl rfl EN (fun u hu=>by simp only [List.mem_cons,List.not_mem_nil,or_false] at hu;rcases hu with rfl|rfl|rfl|rfl|rfl <;> first|rfl|exact h6.oneCell) (by repeat (constructor)) C2 oT X4 fun cH X8 r9 X9 w3=>(?_))
   have b0:=b0.mv r9
   have a9:=a9.mv r9
   have a2:=a2.mv r9
   have h6:=h6.mv r9
   have m9:=m9.mv r9
   have r6:=r6.keep X9 (AS (Ne.symm w0))
   refine AA (CY U70_ rfl EN rfl m9 fun bR O3=>(?_))
   obtain ⟨s2,rfl,n2⟩:=O3
   have:=n2.len_le
   refine BZ (BE (vs:=[vI ((lb[0]!).epoch),vI ((lb[0]!).index),vI ((lb[0]!).threshold),vI ((lb[0]!).many),s2]) (.agg #[vI ((lb[0]!).epoch),vI ((lb[0]!).index),vI ((lb[0]!).threshold),vI ((lb[0]!).many),s2]) rfl rfl rfl EN (fun u hu=>by simp only [List.mem_cons,List.not_mem_nil,or_false] at hu;rcases hu with rfl|rfl|rfl|rfl|rfl <;> first|rfl|exact n2.oneCell) (by repeat (constructor)) r6 oT X8 fun cI Y0 s3 Y1 O4=>(?_))
   have b0:=b0.mv s3
   have a9:=a9.mv s3
   have a2:=a2.mv s3
   have h6:=h6.mv s3
   have n2:=n2.mv s3
   have w3:=w3.keep Y1 (AS w0)
   refine AG (AC (?_))
   exact ⟨f2,i3,r8,s2,(i3 :: (f2 :: ([]:List Nat))),trivial,⟨_,BD _ ⟨rfl,rfl,rfl,rfl,rfl,rfl,trivial⟩⟩,Y0,b0,a9,a2,(by rw [show ([vI (la[0]!.epoch),vI (la[0]!.index),vI (la[0]!.threshold),vI (la[0]!.many),r8]:List Value)=[vI ((la[0]!).epoch),vI ((la[0]!).index),vI ((la[0]!).threshold),vI ((la[0]!).many),r8] from by rfl];exact w3),(by rw [show la[0]!.data=(la[0]!).data from by rfl];exact h6),(by repeat (constructor)),(by rw [show ([vI (lb[0]!.epoch),vI (lb[0]!.index),vI (lb[0]!.threshold),vI (lb[0]!.many),s2]:List Value)=[vI ((lb[0]!).epoch),vI ((lb[0]!).index),vI ((lb[0]!).threshold),vI ((lb[0]!).many),s2] from by rfl];exact O4),(by rw [show lb[0]!.data=(lb[0]!).data from by rfl];exact n2),(by repeat (constructor)),w0⟩
 intro F Y2 hI
 clear b0 a9 a2
 obtain ⟨b3,b4,d5,d6,k6,cJ,⟨cK,rfl⟩,k7,b0,a9,a2,a0,a4,d1,a1,a5,d2,A3⟩:=hI
 have:=a4.len_le
 have:=a5.len_le
 refine AF (AF (AB kR (AA (AH 2 KW rfl (AA (AK U3_ rfl (vI (la[0]!.threshold)) rfl a0 rfl (AA (AH 2 KW rfl (AA (AK U3_ rfl (vI (lb[0]!.threshold)) rfl a1 rfl (AA (DQ .i64 (la[0]!.threshold) (lb[0]!.threshold) rfl rfl (AA (AD (vO ((la[0]!.threshold) != (lb[0]!.threshold))) rfl (?_)))))))))))))))
 cases C6:((la[0]!.threshold) != (lb[0]!.threshold))
 ·have bS:la[0]!.threshold=lb[0]!.threshold:=by simpa using C6
  refine AY rfl (AH 3 KT rfl (AY rfl (AK U3_ rfl (vI (la[0]!.many)) rfl a0 rfl (AY rfl (AH 3 KT rfl (AY rfl (AK U3_ rfl (vI (lb[0]!.many)) rfl a1 rfl (AY rfl (DQ .i64 (la[0]!.many) (lb[0]!.many) rfl rfl (AA (BK (vO ((la[0]!.many) != (lb[0]!.many))) rfl rfl (AA (AD (vO ((la[0]!.many) != (lb[0]!.many))) rfl (?_))))))))))))))
  cases C7:((la[0]!.many) != (lb[0]!.many))
  ·have bT:la[0]!.many=lb[0]!.many:=by simpa using C7
   refine AY rfl (AH 4 HT rfl (AY rfl (AK U23_ rfl (d5) rfl a0 rfl (AY rfl (CK U23_ rfl a4 (AY rfl (AH 4 HT rfl (AY rfl (AK U23_ rfl (d6) rfl a1 rfl (AY rfl (CK U23_ rfl a5 (AY rfl (DQ .i64 ((la[0]!.data).length:Int) ((lb[0]!.data).length:Int) rfl rfl (AA (BK (vO (((la[0]!.data).length:Int) != ((lb[0]!.data).length:Int))) rfl rfl (AA (AD (vO (((la[0]!.data).length:Int) != ((lb[0]!.data).length:Int))) rfl (?_))))))))))))))))))
   cases C8:(((la[0]!.data).length:Int) != ((lb[0]!.data).length:Int))
   ·have bU:((la[0]!.data).length:Int)=((lb[0]!.data).length:Int):=by simpa using C8
    refine AY rfl (AH 0 KC rfl (AY rfl (AK U3_ rfl (vI (lb[0]!.epoch)) rfl a1 rfl (AY rfl (AH 0 KC rfl (AY rfl (AK U3_ rfl (vI (la[0]!.epoch)) rfl a0 rfl (AY rfl (DR .i64 (la[0]!.epoch) (1:Int) ((la[0]!.epoch)+(1:Int)) rfl rfl (GZ oM oM) (AY rfl (DQ .i64 (lb[0]!.epoch) ((la[0]!.epoch)+(1:Int)) rfl rfl (AA (BK (vO ((lb[0]!.epoch) != ((la[0]!.epoch)+(1:Int)))) rfl rfl (AG (AC (AJ ((lb[0]!.epoch) != ((la[0]!.epoch)+(1:Int))) rfl rfl (fun w4=>?_) (fun w4=>?_)))))))))))))))))
    ·have bV:lb[0]!.epoch≠(la[0]!.epoch)+(1:Int):=by simpa using w4
     refine AF (AB kR (AA (AE (nS) rfl (AA (AE (vI 460) rfl (AG (AC (AM (AP (RT rfl (GE rfl rfl rfl rfl) (?_)))))))))))
     have Y3:((AX la lb secret).1)=([]):=by exact congrArg (fun p=>p.1) (show AX la lb secret=_ from NC aS aS (IJ oM))
     have Y4:((AX la lb secret).2)=(460:Int):=by exact congrArg (fun p=>p.2) (show AX la lb secret=_ from NC aS aS (IJ oM))
     exact ⟨_,rfl,k7.keep,by rw [Y3,Y4];exact ⟨.slice none 0 0,rfl,BL.nil _ _ _⟩⟩
    have bW:lb[0]!.epoch=(la[0]!.epoch)+(1:Int):=by simpa using w4
    have w5:MG la[0]! lb[0]! = false:=(SA _ _).2 oM
    refine AT (AC (AF (AB kR (AA (AD (la_v) rfl (AA (AD (secret_v) rfl (AA (BF (vs:=[la_v,secret_v]) XT (UL (O:=k6++O) la_v la secret_v secret Y2 b0 a2 k7.lt) rfl k7 fun cL Y5 z1 s4 G7 Y6=>(?_))))))))))
    obtain ⟨c8,rfl,w6,a8⟩:=Y6
    obtain ⟨a8,O5⟩:=own_lent k7 w6 a8
    have O6:∀ b,c8.ownBlock=some b→b≠b3:=fun b hb=>by have:=a0.lt;have:=w6 b hb;omega
    have O7:∀ b,c8.ownBlock=some b→b≠b4:=fun b hb=>by have:=a1.lt;have:=w6 b hb;omega
    have b0:=b0.mv s4
    have a9:=a9.mv s4
    have a2:=a2.mv s4
    have a4:=a4.mv s4
    have a5:=a5.mv s4
    have a0:=a0.keep G7 (by simp)
    have a1:=a1.keep G7 (by simp)
    refine AA (AD (vT #[c8,vI ((AQ la secret).2)]) rfl (AA (AL (c8) rfl rfl (AA (AL (vI ((AQ la secret).2)) rfl rfl (AA (AE (c8) rfl (AA (AE (vI ((AQ la secret).2)) rfl (AG (AC (AF (AF (AB kR (AA (AD (vI ((AQ la secret).2)) rfl (AA (DQ .i64 ((AQ la secret).2) (0:Int) rfl rfl (AG (AC (AJ (((AQ la secret).2) != (0:Int)) rfl rfl (fun w7=>?_) (fun w7=>?_))))))))))))))))))))))
    ·have bX:(AQ la secret).2≠(0:Int):=by simpa using w7
     refine AF (AB kR (AA (AD (vI ((AQ la secret).2)) rfl (AA (AE (nS) rfl (AA (AE (vI ((AQ la secret).2)) rfl (AG (AC (AM (AP (RT rfl (GE rfl rfl rfl rfl) (?_)))))))))))))
     have Y7:((AX la lb secret).1)=([]):=by exact congrArg (fun p=>p.1) (show AX la lb secret=_ from mixed_4 hca hcb w5 aS)
     have Y8:((AX la lb secret).2)=((AQ la secret).2):=by exact congrArg (fun p=>p.2) (show AX la lb secret=_ from mixed_4 hca hcb w5 aS)
     exact ⟨_,rfl,z1.keep,by rw [Y7,Y8];exact ⟨.slice none 0 0,rfl,BL.nil _ _ _⟩⟩
    have O8:(AQ la secret).2=(0:Int):=by simpa using w7
    have hex:(AQ la secret).2=0:=O8
    have w8:=mx_of hcb hex w5
    have hlb8:=hvb.len8
    have hfe:=PP hex
    refine AT (AC (AF (AB kR (AA (AD (secret_v) rfl (AA (AH 0 KC rfl (AA (AK U3_ rfl (vI (la[0]!.epoch)) rfl a0 rfl (AA (AH 2 KW rfl (AA (AK U3_ rfl (vI (la[0]!.threshold)) rfl a0 rfl (AA (AH 3 KT rfl (AA (AK U3_ rfl (vI (la[0]!.many)) rfl a0 rfl (AA (AD (c8) rfl (AA (BF (vs:=[secret_v,vI (la[0]!.epoch),vI (la[0]!.threshold),vI (la[0]!.many),c8]) QC (TD (O:=k6++O) secret_v secret (la[0]!.epoch) (la[0]!.threshold) (la[0]!.many) c8 ((AQ la secret).1) Y5 a2 (a8.rd (fun x hx=>.inl hx) O5) z1.lt) rfl z1 fun cM Y9 Z0 o0 z2 Z1=>(?_))))))))))))))))))))))
    obtain ⟨i4,rfl,b1⟩:=Z1
    have:=b1.len_le
    have b1:BL Enc.share Y9 (k6++O) i4 (CT la secret):=b1
    have b0:=b0.mv o0
    have a9:=a9.mv o0
    have a2:=a2.mv o0
    have a8:=a8.mv o0 z2 (by simp)
    have a4:=a4.mv o0
    have a5:=a5.mv o0
    have a0:=a0.keep z2 (by simp)
    have a1:=a1.keep z2 (by simp)
    refine AA (AD (vT #[i4,vI ((BB secret (la[0]!.epoch) (la[0]!.threshold) (la[0]!.many) ((AQ la secret).1)).2)]) rfl (AA (AL (i4) rfl rfl (AA (AL (vI ((BB secret (la[0]!.epoch) (la[0]!.threshold) (la[0]!.many) ((AQ la secret).1)).2)) rfl rfl (AA (AE (i4) rfl (AA (AE (vI ((BB secret (la[0]!.epoch) (la[0]!.threshold) (la[0]!.many) ((AQ la secret).1)).2)) rfl (AG (AC (AF (AF (AB kR (AA (AD (vI ((BB secret (la[0]!.epoch) (la[0]!.threshold) (la[0]!.many) ((AQ la secret).1)).2)) rfl (AA (DQ .i64 ((BB secret (la[0]!.epoch) (la[0]!.threshold) (la[0]!.many) ((AQ la secret).1)).2) (0:Int) rfl rfl (AG (AC (?_)))))))))))))))))))))
    have O9:(((BB secret (la[0]!.epoch) (la[0]!.threshold) (la[0]!.many) ((AQ la secret).1)).2) != (0:Int))=false:=(by rw [ZY hex];rfl)
    rw [O9]
    refine AJ false rfl rfl (fun h=>by cases h) (fun _=>AT (AC (AF (AB kR (AA (CR [nS] z_32 rfl Z0 fun c2 Z2 Z3 G8 k8 z3 j3=>(?_)))))))
    have P0:EY b3 c2:=by show b3≠c2;have:=a0.lt;omega
    have P1:EY b4 c2:=by show b4≠c2;have:=a1.lt;omega
    have C9:∀ b,c8.ownBlock=some b→b≠c2:=fun b hb=>by have:=(a8.lt b hb).2;omega
    clear Z3
    have b0:=b0.mv k8
    have a9:=a9.mv k8
    have a2:=a2.mv k8
    have a8:=a8.mv k8 z3 (by simp)
    have b1:=b1.mv k8
    have a4:=a4.mv k8
    have a5:=a5.mv k8
    have a0:=a0.keep z3 (by simp)
    have a1:=a1.keep z3 (by simp)
    refine AG (AC (AF (AF (AB kR (AA (AD (lb_v) rfl (AA (AD (i4) rfl (AA (BF (vs:=[lb_v,i4]) enter_53 (c_pairs (O:=(c2 :: k6)++O) lb_v lb i4 (CT la secret) Z2 a9 b1 G8.lt) rfl G8 fun cN Z4 Z5 k9 u0 Z6=>(?_)))))))))))
    obtain ⟨G9,s5,rfl,b8,b5⟩:=Z6
    have b0:=b0.mv k9
    have a9:=a9.mv k9
    have a2:=a2.mv k9
    have a8:=a8.mv k9 u0 (by simp)
    have b1:=b1.mv k9
    have a4:=a4.mv k9
    have a5:=a5.mv k9
    have a0:=a0.keep u0 (by simp)
    have a1:=a1.keep u0 (by simp)
    have j3:=j3.keep u0 (by simp)
    refine AG (AC (BQ (cw_range (fs:=[]) (lb:=[vP (some G9),vP (some s5)]) rfl rfl enter_95 rfl (fun c0 c1 Z7 J3 _ G2 D0 P2 o1 a7 b7=>?_))))
    have w9:EY b3 c1∧EY b3 c0:=by show b3≠c1∧b3≠c0;have:=a0.lt;omega
    have x1:EY b4 c1∧EY b4 c0:=by show b4≠c1∧b4≠c0;have:=a1.lt;omega
    have n3:EY c2 c1∧EY c2 c0:=by show c2≠c1∧c2≠c0;have:=j3.lt;omega
    have n4:∀ b,c8.ownBlock=some b→b≠c1∧b≠c0:=fun b hb=>by have:=(a8.lt b hb).2;omega
    have Z8:=Z5.adopt2 o1 D0 oM a7.lt b7.lt
    have g6:Mv (c2 :: k6) Z4 (c0 :: c1 :: (c2 :: k6)) Z7:=Mv.adopt2 o1 D0 oM
    have b0:=b0.mv g6
    have a9:=a9.mv g6
    have a2:=a2.mv g6
    have a8:=a8.mv g6 o1 (by simp)
    have b1:=b1.mv g6
    have a4:=a4.mv g6
    have a5:=a5.mv g6
    have b8:=b8.mv g6
    have b5:=b5.mv g6
    have a0:=a0.keep o1 (by simp)
    have a1:=a1.keep o1 (by simp)
    have j3:=j3.keep o1 (by simp)
    have x2:EY c1 c0:=by show c1≠c0;omega
    clear P2
    refine BW 29 Try.func95 rfl rfl oT (fun cO=>AF (AB kR (AA (CI U32_ rfl rfl b8 fun z4 b9=>(?_)))))
    have:=b9.len_le
    refine AA (CK U32_ rfl b9 (AA (AD (vI 0) rfl (AG (AC (BQ (DU (fun mI FI wI=>∃ (k:Nat) (b2:Value) (B:List Nat),k≤lb.length∧mI=lb.length - k∧(∃ F1,FI=GN F1 [(0,vN (.yield c0) #[] #[]),(2,vP (some s5)),(7,z4),(8,vI (lb.length:Int)),(9,vI ((k:Nat):Int)),(29,undef)])∧St w O wI B∧DX Enc.share 70 w.heap.size (B++O) wI b2 (FP lb (CT la secret) k)∧(∀ b,b2.ownBlock=some b→b∈B)∧PT (Enc.slice Enc.share) wI (B++O) (.pointer (some s5)) ((CT la secret))∧BL Enc.share wI (B++O) (z4) (lb)∧BL Enc.share wI (B++O) (la_v) (la)∧BL Enc.share wI (B++O) (lb_v) (lb)∧BL Enc.u8 wI (B++O) (secret_v) (secret)∧DX Enc.u8 5 w.heap.size (B++O) wI c8 ((AQ la secret).1)∧BL Enc.share wI (B++O) (i4) ((CT la secret))∧BL Enc.u8 wI (B++O) (d5) (la[0]!.data)∧BL Enc.u8 wI (B++O) (d6) (lb[0]!.data)∧PT (Enc.slice Enc.share) wI (B++O) (.pointer (some G9)) (lb)∧Ob wI c1 (.deferred (some []))∧c1∈B∧FT wI c2 32 [b2]∧c2∈B∧FT wI b3 70 [vI (la[0]!.epoch),vI (la[0]!.index),vI (la[0]!.threshold),vI (la[0]!.many),d5]∧b3∈B∧FT wI b4 70 [vI (lb[0]!.epoch),vI (lb[0]!.index),vI (lb[0]!.threshold),vI (lb[0]!.many),d6]∧b4∈B∧Ob wI c0 (J3 .ready none)∧c0∈B∧(∀ b,b2.ownBlock=some b→b≠c1)∧(∀ b,b2.ownBlock=some b→b≠c2)∧(∀ b,b2.ownBlock=some b→b≠b3)∧(∀ b,b2.ownBlock=some b→b≠b4)∧(∀ b,b2.ownBlock=some b→b≠c0)∧(∀ b,b2.ownBlock=some b→c8.ownBlock≠some b)∧(∀ b,c8.ownBlock=some b→b2.ownBlock≠some b)) (lb.length - (0)) ?_ ?_)))))))
    ·exact ⟨(0),(.slice none 0 0),(c0 :: c1 :: (c2 :: k6)),oM,rfl,⟨_,BD _ ⟨rfl,rfl,rfl,rfl,(by rfl),rfl,trivial⟩⟩,Z8,(by rw [show FP lb (CT la secret) (0)=[] from rfl];exact (DX.nil Enc.share 70 _ _ _)),(by intro b hb;simp [Value.ownBlock] at hb),b5,b9,b0,a9,a2,a8,b1,a4,a5,b8,a7,(by (repeat (first|exact List.mem_cons_self|apply List.mem_cons_of_mem))),j3,(by (repeat (first|exact List.mem_cons_self|apply List.mem_cons_of_mem))),a0,(by (repeat (first|assumption|apply List.mem_cons_of_mem))),a1,(by (repeat (first|assumption|apply List.mem_cons_of_mem))),b7,(by (repeat (exact List.mem_cons_self))),(fun b hb=>by (simp [Value.ownBlock] at hb;done)),(fun b hb=>by (simp [Value.ownBlock] at hb;done)),(fun b hb=>by (simp [Value.ownBlock] at hb;done)),(fun b hb=>by (simp [Value.ownBlock] at hb;done)),(fun b hb=>by (simp [Value.ownBlock] at hb;done)),(fun b hb=>by (simp [Value.ownBlock] at hb;done)),(fun b hb=>by (simp [Value.ownBlock];done))⟩
    intro cP F Z9 hI
    clear b5 b9 b0 a9 a2 a8 b1 a4 a5 b8 a7 a0 a1 b7
    obtain ⟨k,b2,u1,hrpr0_0,cQ,⟨cR,rfl⟩,H0,a6,c6,b5,b9,b0,a9,a2,a8,b1,a4,a5,b8,a7,g0,a3,i5,a0,d1,a1,d2,b7,o8,nbpr0_b5477_0_D_r5497,nbpr0_b5477_0_b5477,nbpr0_b5477_0_bnc34_10,nbpr0_b5477_0_bnc34_11,nbpr0_b5477_0_l_r5497,nopr0_b5477_0_x5457,nppr0_b5477_0_x5457⟩:=hI
    refine AF (AB kR (AA (EB .i64 ((k:Nat):Int) (lb.length:Int) rfl rfl (AG (AC (AF (AJ (decide (((k:Nat):Int)<(lb.length:Int))) rfl rfl (fun x3=>?_) (fun x3=>?_))))))))
    ·have bY:((k:Nat):Int)<(lb.length:Int):=by simpa using x3
     have hxi:=w8.idx' (k:=k) oM
     refine AT (AC (AF (BQ (AF (AB kR (AA (DO U32_ EN .i64 ((k:Nat):Int) k rfl rfl rfl b9 (by have:=w8.idx' (k:=k) oM;omega) fun cS P3=>(AA (CY U70_ rfl EN rfl P3 fun P4 x4=>(AA (CR [vI 0,vI 0,vI 0,vI 0,nS] PG rfl H0 fun c9 aa ab ac e5 l0 P5=>(?_))))))))))))
     have D1:EY c1 c9:=by show c1≠c9;have:=a7.lt;omega
     have D2:EY c2 c9:=by show c2≠c9;have:=a3.lt;omega
     have D3:EY b3 c9:=by show b3≠c9;have:=a0.lt;omega
     have D4:EY b4 c9:=by show b4≠c9;have:=a1.lt;omega
     have D5:EY c0 c9:=by show c0≠c9;have:=b7.lt;omega
     have P6:∀ b,c8.ownBlock=some b→b≠c9:=fun b hb=>by have:=(a8.lt b hb).2;omega
     have D6:∀ b,b2.ownBlock=some b→b≠c9:=fun b hb=>by have:=(a6.lt b hb).2;omega
     have c6:∀ b,b2.ownBlock=some b→b∈(c9 :: u1):=fun b hb=>List.mem_cons_of_mem _ (c6 b hb)
     clear ab
     have b5:=b5.mv e5
     have b9:=b9.mv e5
     have x4:Enc.share.rd aa ((c9 :: u1)++O) P4 (lb[k]!):=Enc.mv Enc.share (x:=lb[k]!) x4 e5
     have b0:=b0.mv e5
     have a9:=a9.mv e5
     have a2:=a2.mv e5
     have a8:=a8.mv e5 l0 (by simp)
     have b1:=b1.mv e5
     have a4:=a4.mv e5
     have a5:=a5.mv e5
     have b8:=b8.mv e5
     have a7:=a7.keep l0 (by simp)
     have a6:=a6.mv e5 l0 (by simp)
     have a3:=a3.keep l0 (by simp)
     have a0:=a0.keep l0 (by simp)
     have a1:=a1.keep l0 (by simp)
     have b7:=b7.keep l0 (by simp)
     obtain ⟨H1,rfl,n5⟩:=x4
     have:=n5.len_le
     refine BZ (BE (vs:=[vI ((lb[k]!).epoch),vI ((lb[k]!).index),vI ((lb[k]!).threshold),vI ((lb[k]!).many),H1]) (.agg #[vI ((lb[k]!).epoch),vI ((lb[k]!).index),vI ((lb[k]!).threshold),vI ((lb[k]!).many),H1]) rfl rfl rfl EN (fun u hu=>by simp only [List.mem_cons,List.not_mem_nil,or_false] at hu;rcases hu with rfl|rfl|rfl|rfl|rfl <;> first|rfl|exact n5.oneCell) (by repeat (constructor)) P5 oT ac fun ad ae e6 l1 P7=>(?_))
     have b5:=b5.mv e6
     have b9:=b9.mv e6
     have n5:=n5.mv e6
     have b0:=b0.mv e6
     have a9:=a9.mv e6
     have a2:=a2.mv e6
     have a8:=a8.mv e6 l1 (fun b hb=>AS (P6 b hb))
     have b1:=b1.mv e6
     have a4:=a4.mv e6
     have a5:=a5.mv e6
     have b8:=b8.mv e6
     have a7:=a7.keep l1 (AS D1)
     have a6:=a6.mv e6 l1 (fun b hb=>AS (D6 b hb))
     have a3:=a3.keep l1 (AS D2)
     have a0:=a0.keep l1 (AS D3)
     have a1:=a1.keep l1 (AS D4)
     have b7:=b7.keep l1 (AS D5)
     refine AG (AC (AF (AB kR (AA (CI U32_ rfl rfl b5 fun H2 s6=>(?_))))))
     have:=s6.len_le
     obtain ⟨c3,H3,e7,j4,j5⟩:=P7.publish (E:=Enc.share) (u:=(lb[k]!)) ⟨_,rfl,n5⟩ ae (by repeat (constructor))
     have c6:∀ b,b2.ownBlock=some b→b∈c3:=fun b hb=>j5 b (c6 b hb) (D6 b hb)
     have g0:c1∈c3:=j5 c1 rC D1
     have i5:c2∈c3:=j5 c2 rC D2
     have d1:b3∈c3:=j5 b3 rC D3
     have d2:b4∈c3:=j5 b4 rC D4
     have o8:c0∈c3:=j5 c0 rC D5
     have b5:=b5.mv e7
     have b9:=b9.mv e7
     have s6:=s6.mv e7
     have b0:=b0.mv e7
     have a9:=a9.mv e7
     have a2:=a2.mv e7
     have a8:=a8.mv e7 (Keep.refl [] _) (by simp)
     have b1:=b1.mv e7
     have a4:=a4.mv e7
     have a5:=a5.mv e7
     have b8:=b8.mv e7
     have a7:=a7.keep (Keep.refl [] _) (by simp)
     have a6:=a6.mv e7 (Keep.refl [] _) (by simp)
     have a3:=a3.keep (Keep.refl [] _) (by simp)
     have a0:=a0.keep (Keep.refl [] _) (by simp)
     have a1:=a1.keep (Keep.refl [] _) (by simp)
     have b7:=b7.keep (Keep.refl [] _) (by simp)
     refine AA (DF (first:=[]) (captured:=[.tmp 5]) [] [vP (some ⟨c9,0,none⟩)] rfl rfl (AA (BF (vs:=[H2,vN (.func 97) #[] #[vP (some ⟨c9,0,none⟩)]]) enter_96 (c_idxS (O:=c3++O) H2 (CT la secret) 97 [vP (some ⟨c9,0,none⟩)] (fun x_=>x_.index == (lb[k]!).index) ad s6 enter_97 (fun w'_ O'_ kk_ hs_ hl_ x__cs x_ hr_x_ =>c_pairs11 (O:=O'_) x__cs x_ (⟨c9,0,none⟩) (lb[k]!) w'_ hr_x_ (j4.on hs_ kk_) hl_) H3.lt) rfl H3 fun cT s7 af e8 l2 ag=>(?_))))
     obtain rfl:=ag
     have b5:=b5.mv e8
     have j4:=j4.mv e8
     have b9:=b9.mv e8
     have b0:=b0.mv e8
     have a9:=a9.mv e8
     have a2:=a2.mv e8
     have a8:=a8.mv e8 l2 (by simp)
     have b1:=b1.mv e8
     have a4:=a4.mv e8
     have a5:=a5.mv e8
     have b8:=b8.mv e8
     have a7:=a7.keep l2 (by simp)
     have a6:=a6.mv e8 l2 (by simp)
     have a3:=a3.keep l2 (by simp)
     have a0:=a0.keep l2 (by simp)
     have a1:=a1.keep l2 (by simp)
     have b7:=b7.keep l2 (by simp)
     refine AA (AE (vI (FZ (CT la secret) (fun x_=>x_.index == (lb[k]!).index))) rfl (AG (AC (AF (?_)))))
     have D7:(decide ((0:Int)≤FZ (CT la secret) (fun x_=>x_.index == (lb[k]!).index)))=true:=(decide_eq_true (w8.idx' (k:=k) oM).1)
     try rw [D7]
     refine cw_drawY 9 _ _ [isV (vI (FZ (CT la secret) (fun x_=>x_.index == (lb[k]!).index))),isV (vO true),isV (vO true),isV (vN (.yield c0) #[] #[]),fun (vT:Value) (wT:World)=>∃ csT:List Value,vT = .agg csT.toArray∧Enc.share.rd wT (c3++O) csT ((lb[k]!)),fun (vT:Value) (wT:World)=>BL Enc.share wT (c3++O) vT ((CT la secret)),isV (vI (FZ (CT la secret) (fun x_=>x_.index == (lb[k]!).index))),fun (vT:Value) (wT:World)=>∃ aT,vT = .pointer (some aT)∧PT Enc.share wT (c3++O) (.pointer (some aT)) ((CT la secret)[(FZ (CT la secret) (fun x_=>x_.index == (lb[k]!).index)).toNat]!),fun (vT:Value) (wT:World)=>∃ csT:List Value,vT = .agg csT.toArray∧Enc.share.rd wT (c3++O) csT ((CT la secret)[(FZ (CT la secret) (fun x_=>x_.index == (lb[k]!).index)).toNat]!)] kR kR kR kR rfl rfl ⟨kI,kI,kI,kI,fun _ _ _ ⟨a,e,h⟩ k=>⟨a,e,Enc.mv _ h (Mv.of_keep k)⟩,fun _ _ _ h k=>h.mv (Mv.of_keep k),kI,fun _ _ _ ⟨a,e,h⟩ k=>⟨a,e,h.mv (Mv.of_keep k)⟩,fun _ _ _ ⟨a,e,h⟩ k=>⟨a,e,Enc.mv _ h (Mv.of_keep k)⟩,trivial⟩ ⟨?_,?_,?_,?_,?_,?_,?_,?_,?_,trivial⟩ ?_
     ·intro F1 w1 k1 hf hd
      obtain ⟨F2,rfl⟩:=DG (F:=F1) [(6,vI (FZ (CT la secret) (fun x_=>x_.index == (lb[k]!).index)))] ⟨hf 6 kR,trivial⟩
      exact DC rfl ((AD (vI (FZ (CT la secret) (fun x_=>x_.index == (lb[k]!).index))) rfl (⟨(Keep.refl _ _),rfl⟩)))
     ·intro F1 w1 k1 hf hd
      obtain ⟨F2,rfl⟩:=DG (F:=F1) [(16,vI (FZ (CT la secret) (fun x_=>x_.index == (lb[k]!).index)))] ⟨hd 0 16 kR,trivial⟩
      refine DC rfl ((ID .i64 (FZ (CT la secret) (fun x_=>x_.index == (lb[k]!).index)) (0:Int) rfl rfl (?_)))
      exact ⟨(Keep.refl _ _),congrArg vO (D7)⟩
     ·intro F1 w1 k1 hf hd
      obtain ⟨F2,rfl⟩:=DG (F:=F1) [(17,vO true)] ⟨hd 1 17 kR,trivial⟩
      exact DC rfl ((AD (vO true) rfl (⟨(Keep.refl _ _),rfl⟩)))
     ·intro F1 w1 k1 hf hd
      obtain ⟨F2,rfl⟩:=DG (F:=F1) [(0,vN (.yield c0) #[] #[]),(18,vO true)] ⟨hf 0 kR,hd 2 18 kR,trivial⟩
      exact QP rfl rfl ((AD (vN (.yield c0) #[] #[]) rfl (⟨(Keep.refl _ _),rfl⟩)))
     ·intro F1 w1 k1 hf hd
      have k0:=(Keep.drew [] s7).trans k1
      have m1:Mv c3 s7 c3 w1:=Mv.of_keep k0
      have j4:=j4.mv m1
      obtain ⟨F2,rfl⟩:=DG (F:=F1) [(5,vP (some ⟨c9,0,none⟩)),(18,vO true)] ⟨hf 5 kR,hd 2 18 kR,trivial⟩
      exact QP rfl rfl ((CY U70_ rfl EN rfl j4 fun P8 P9=>(⟨(Keep.refl _ _),⟨P8,rfl,P9⟩⟩)))
     ·intro F1 w1 k1 hf hd
      have k0:=(Keep.drew [] s7).trans k1
      have m1:Mv c3 s7 c3 w1:=Mv.of_keep k0
      have b5:=b5.mv m1
      obtain ⟨F2,rfl⟩:=DG (F:=F1) [(2,vP (some s5)),(18,vO true)] ⟨hf 2 kR,hd 2 18 kR,trivial⟩
      refine QP rfl rfl ((CI U32_ rfl rfl b5 fun cU D8=>(?_)))
      have:=D8.len_le
      exact ⟨(Keep.refl _ _),D8⟩
     ·intro F1 w1 k1 hf hd
      obtain ⟨F2,rfl⟩:=DG (F:=F1) [(6,vI (FZ (CT la secret) (fun x_=>x_.index == (lb[k]!).index))),(18,vO true)] ⟨hf 6 kR,hd 2 18 kR,trivial⟩
      exact QP rfl rfl ((AD (vI (FZ (CT la secret) (fun x_=>x_.index == (lb[k]!).index))) rfl (⟨(Keep.refl _ _),rfl⟩)))
     ·intro F1 w1 k1 hf hd
      obtain ⟨ah,ai,D9⟩:∃ v,F1 21=v∧BL Enc.share w1 (c3++O) v ((CT la secret)):=⟨_,rfl,hd 5 21 kR⟩
      have:=D9.len_le
      obtain ⟨F2,rfl⟩:=DG (F:=F1) [(18,vO true),(21,ah),(22,vI (FZ (CT la secret) (fun x_=>x_.index == (lb[k]!).index)))] ⟨hd 2 18 kR,ai,hd 6 22 kR,trivial⟩
      exact QP rfl rfl ((DO U32_ EN .i64 (FZ (CT la secret) (fun x_=>x_.index == (lb[k]!).index)) ((FZ (CT la secret) (fun x_=>x_.index == (lb[k]!).index)).toNat) rfl rfl oM D9 (by have:=w8.idx' (k:=k) oM;omega) fun aj Q0=>(⟨(Keep.refl _ _),⟨aj,rfl,Q0⟩⟩)))
     ·intro F1 w1 k1 hf hd
      obtain ⟨ak,al,Q1⟩:∃ aX_,F1 23 = .pointer (some aX_)∧PT Enc.share w1 (c3++O) (.pointer (some aX_)) ((CT la secret)[(FZ (CT la secret) (fun x_=>x_.index == (lb[k]!).index)).toNat]!):=hd 7 23 kR
      obtain ⟨F2,rfl⟩:=DG (F:=F1) [(18,vO true),(23,vP (some ak))] ⟨hd 2 18 kR,al,trivial⟩
      exact QP rfl rfl ((CY U70_ rfl EN rfl Q1 fun Q2 Q3=>(⟨(Keep.refl _ _),⟨Q2,rfl,Q3⟩⟩)))
     intro z5 z6 g7 n6 h7
     have am:=af.call g7
     have f3:Mv c3 s7 c3 z6:=Mv.of_keep g7
     have b5:=b5.mv f3
     have b9:=b9.mv f3
     have b0:=b0.mv f3
     have a9:=a9.mv f3
     have a2:=a2.mv f3
     have a8:=a8.mv f3 g7 (by simp)
     have b1:=b1.mv f3
     have a4:=a4.mv f3
     have a5:=a5.mv f3
     have b8:=b8.mv f3
     have a7:=a7.keep g7 (by simp)
     have a6:=a6.mv f3 g7 (by simp)
     have a3:=a3.keep g7 (by simp)
     have a0:=a0.keep g7 (by simp)
     have a1:=a1.keep g7 (by simp)
     have b7:=b7.keep g7 (by simp)
     obtain ⟨x5,an,x6⟩:∃ cs:List Value,z5 20 = .agg cs.toArray∧Enc.share.rd z6 (c3++O) cs ((lb[k]!)):=n6 4 20 kR (by decide)
     obtain ⟨n7,ao,h8⟩:∃ cs:List Value,z5 24 = .agg cs.toArray∧Enc.share.rd z6 (c3++O) cs ((CT la secret)[(FZ (CT la secret) (fun x_=>x_.index == (lb[k]!).index)).toNat]!):=n6 8 24 kR (by decide)
     obtain ⟨F2,rfl⟩:=DG (F:=z5) [(0,vN (.yield c0) #[] #[]),(2,vP (some s5)),(7,z4),(8,vI (lb.length:Int)),(9,vI ((k:Nat):Int)),(29,undef),(18,vO true),(19,vN (.yield c0) #[] #[]),(20,vA x5.toArray),(24,vA n7.toArray)] ⟨h7 0 kR,h7 2 kR,h7 7 kR,h7 8 kR,h7 9 kR,h7 29 kR,n6 2 18 kR (by decide),n6 3 19 kR (by decide),an,ao,trivial⟩
     clear n6 h7
     refine wl_yT rfl c0 [vA x5.toArray,vA n7.toArray] rfl rfl (AAp G2 b7 rfl (by decide) ?_)
     refine AF (AB kR (AA (CR [vI 0,vI 0,vI 0,vI 0,nS] PG rfl am fun c5 H4 ap aq d8 l3 Q4=>(?_))))
     have E0:EY c1 c5:=by show c1≠c5;have:=a7.lt;omega
     have E1:EY c2 c5:=by show c2≠c5;have:=a3.lt;omega
     have E2:EY b3 c5:=by show b3≠c5;have:=a0.lt;omega
     have E3:EY b4 c5:=by show b4≠c5;have:=a1.lt;omega
     have x7:EY c0 c5:=by show c0≠c5;have:=b7.lt;omega
     have E4:∀ b,c8.ownBlock=some b→b≠c5:=fun b hb=>by have:=(a8.lt b hb).2;omega
     have x8:∀ b,b2.ownBlock=some b→b≠c5:=fun b hb=>by have:=(a6.lt b hb).2;omega
     have c6:∀ b,b2.ownBlock=some b→b∈(c5 :: c3):=fun b hb=>List.mem_cons_of_mem _ (c6 b hb)
     clear ap
     have b0:=b0.mv d8
     have a9:=a9.mv d8
     have a2:=a2.mv d8
     have a8:=a8.mv d8 l3 (by simp)
     have b1:=b1.mv d8
     have a4:=a4.mv d8
     have a5:=a5.mv d8
     have b8:=b8.mv d8
     have b5:=b5.mv d8
     have x6:Enc.share.rd H4 ((c5 :: c3)++O) x5 ((lb[k]!)):=Enc.mv Enc.share (x:=(lb[k]!)) x6 d8
     have h8:Enc.share.rd H4 ((c5 :: c3)++O) n7 ((CT la secret)[(FZ (CT la secret) (fun x_=>x_.index == (lb[k]!).index)).toNat]!):=Enc.mv Enc.share (x:=(CT la secret)[(FZ (CT la secret) (fun x_=>x_.index == (lb[k]!).index)).toNat]!) h8 d8
     have b9:=b9.mv d8
     have a7:=a7.keep l3 (by simp)
     have a6:=a6.mv d8 l3 (by simp)
     have a3:=a3.keep l3 (by simp)
     have a0:=a0.keep l3 (by simp)
     have a1:=a1.keep l3 (by simp)
     have b7:=b7.keep l3 (by simp)
     obtain ⟨s8,rfl,d3⟩:=x6
     have:=d3.len_le
     refine BZ (BE (vs:=[vI (((lb[k]!)).epoch),vI (((lb[k]!)).index),vI (((lb[k]!)).threshold),vI (((lb[k]!)).many),s8]) (.agg #[vI (((lb[k]!)).epoch),vI (((lb[k]!)).index),vI (((lb[k]!)).threshold),vI (((lb[k]!)).many),s8]) rfl rfl rfl EN (fun u hu=>by simp only [List.mem_cons,List.not_mem_nil,or_false] at hu;rcases hu with rfl|rfl|rfl|rfl|rfl <;> first|rfl|exact d3.oneCell) (by repeat (constructor)) Q4 oT aq fun ar au d9 l4 d4=>(?_))
     have b0:=b0.mv d9
     have a9:=a9.mv d9
     have a2:=a2.mv d9
     have a8:=a8.mv d9 l4 (fun b hb=>AS (E4 b hb))
     have b1:=b1.mv d9
     have a4:=a4.mv d9
     have a5:=a5.mv d9
     have b8:=b8.mv d9
     have b5:=b5.mv d9
     have d3:=d3.mv d9
     have h8:Enc.share.rd ar ((c5 :: c3)++O) n7 ((CT la secret)[(FZ (CT la secret) (fun x_=>x_.index == (lb[k]!).index)).toNat]!):=Enc.mv Enc.share (x:=(CT la secret)[(FZ (CT la secret) (fun x_=>x_.index == (lb[k]!).index)).toNat]!) h8 d9
     have b9:=b9.mv d9
     have a7:=a7.keep l4 (AS E0)
     have a6:=a6.mv d9 l4 (fun b hb=>AS (x8 b hb))
     have a3:=a3.keep l4 (AS E1)
     have a0:=a0.keep l4 (AS E2)
     have a1:=a1.keep l4 (AS E3)
     have b7:=b7.keep l4 (AS x7)
     refine AG (AC (AB kR (AA (CR [vI 0,vI 0,vI 0,vI 0,nS] PG rfl au fun c7 av aw ax e0 i6 Q5=>(?_)))))
     have Q6:EY c1 c7:=by show c1≠c7;have:=a7.lt;omega
     have Q7:EY c2 c7:=by show c2≠c7;have:=a3.lt;omega
     have Q8:EY b3 c7:=by show b3≠c7;have:=a0.lt;omega
     have Q9:EY b4 c7:=by show b4≠c7;have:=a1.lt;omega
     have E5:EY c0 c7:=by show c0≠c7;have:=b7.lt;omega
     have E6:EY c5 c7:=by show c5≠c7;have:=d4.lt;omega
     have R0:∀ b,c8.ownBlock=some b→b≠c7:=fun b hb=>by have:=(a8.lt b hb).2;omega
     have E7:∀ b,b2.ownBlock=some b→b≠c7:=fun b hb=>by have:=(a6.lt b hb).2;omega
     have c6:∀ b,b2.ownBlock=some b→b∈(c7 :: (c5 :: c3)):=fun b hb=>List.mem_cons_of_mem _ (c6 b hb)
     clear aw
     have b0:=b0.mv e0
     have a9:=a9.mv e0
     have a2:=a2.mv e0
     have a8:=a8.mv e0 i6 (by simp)
     have b1:=b1.mv e0
     have a4:=a4.mv e0
     have a5:=a5.mv e0
     have b8:=b8.mv e0
     have b5:=b5.mv e0
     have d3:=d3.mv e0
     have h8:Enc.share.rd av ((c7 :: (c5 :: c3))++O) n7 ((CT la secret)[(FZ (CT la secret) (fun x_=>x_.index == (lb[k]!).index)).toNat]!):=Enc.mv Enc.share (x:=(CT la secret)[(FZ (CT la secret) (fun x_=>x_.index == (lb[k]!).index)).toNat]!) h8 e0
     have b9:=b9.mv e0
     have a7:=a7.keep i6 (by simp)
     have a6:=a6.mv e0 i6 (by simp)
     have a3:=a3.keep i6 (by simp)
     have a0:=a0.keep i6 (by simp)
     have a1:=a1.keep i6 (by simp)
     have b7:=b7.keep i6 (by simp)
     have d4:=d4.keep i6 (by simp)
     obtain ⟨s9,rfl,h9⟩:=h8
     have:=h9.len_le
     refine BZ (BE (vs:=[vI (((CT la secret)[(FZ (CT la secret) (fun x_=>x_.index == (lb[k]!).index)).toNat]!).epoch),vI (((CT la secret)[(FZ (CT la secret) (fun x_=>x_.index == (lb[k]!).index)).toNat]!).index),vI (((CT la secret)[(FZ (CT la secret) (fun x_=>x_.index == (lb[k]!).index)).toNat]!).threshold),vI (((CT la secret)[(FZ (CT la secret) (fun x_=>x_.index == (lb[k]!).index)).toNat]!).many),s9]) (.agg #[vI (((CT la secret)[(FZ (CT la secret) (fun x_=>x_.index == (lb[k]!).index)).toNat]!).epoch),vI (((CT la secret)[(FZ (CT la secret) (fun x_=>x_.index == (lb[k]!).index)).toNat]!).index),vI (((CT la secret)[(FZ (CT la secret) (fun x_=>x_.index == (lb[k]!).index)).toNat]!).threshold),vI (((CT la secret)[(FZ (CT la secret) (fun x_=>x_.index == (lb[k]!).index)).toNat]!).many),s9]) rfl rfl rfl EN (fun u hu=>by simp only [List.mem_cons,List.not_mem_nil,or_false] at hu;rcases hu with rfl|rfl|rfl|rfl|rfl <;> first|rfl|exact h9.oneCell) (by repeat (constructor)) Q5 oT ax fun ay az e2 i7 e4=>(?_))
     have b0:=b0.mv e2
     have a9:=a9.mv e2
     have a2:=a2.mv e2
     have a8:=a8.mv e2 i7 (fun b hb=>AS (R0 b hb))
     have b1:=b1.mv e2
     have a4:=a4.mv e2
     have a5:=a5.mv e2
     have b8:=b8.mv e2
     have b5:=b5.mv e2
     have d3:=d3.mv e2
     have h9:=h9.mv e2
     have b9:=b9.mv e2
     have a7:=a7.keep i7 (AS Q6)
     have a6:=a6.mv e2 i7 (fun b hb=>AS (E7 b hb))
     have a3:=a3.keep i7 (AS Q7)
     have a0:=a0.keep i7 (AS Q8)
     have a1:=a1.keep i7 (AS Q9)
     have b7:=b7.keep i7 (AS E5)
     have d4:=d4.keep i7 (AS E6)
     refine AG (AC (⟨b7,fun H5 g1 d0=>?_⟩))
     have H6:=az.keepB g1 rC
     have e3:Mv (c7 :: (c5 :: c3)) ay (c7 :: (c5 :: c3)) H5:=Mv.keepB g1 rC
     have b0:=b0.mv e3
     have a9:=a9.mv e3
     have a2:=a2.mv e3
     have a8:=a8.mv e3 g1 (fun b hb=>AS ((fun b hb=>(n4 b hb).2) b hb))
     have b1:=b1.mv e3
     have a4:=a4.mv e3
     have a5:=a5.mv e3
     have b8:=b8.mv e3
     have b5:=b5.mv e3
     have d3:=d3.mv e3
     have h9:=h9.mv e3
     have b9:=b9.mv e3
     have a7:=a7.keep g1 (AS x2)
     have a6:=a6.mv e3 g1 (fun b hb=>AS (nbpr0_b5477_0_l_r5497 b hb))
     have a3:=a3.keep g1 (AS n3.2)
     have a0:=a0.keep g1 (AS w9.2)
     have a1:=a1.keep g1 (AS x1.2)
     have d4:=d4.keep g1 (AS (Ne.symm x7))
     have e4:=e4.keep g1 (AS (Ne.symm E5))
     refine BQ (AF (AB kR (AA (AH 4 HT rfl (AA (AK U23_ rfl (s8) rfl d4 rfl (AA (AH 4 HT rfl (AA (AK U23_ rfl (s9) rfl e4 rfl (AA (BF (vs:=[s8,s9]) enter_54 (c_xor (O:=(c7 :: (c5 :: c3))++O) s8 (((lb[k]!)).data) s9 (((CT la secret)[(FZ (CT la secret) (fun x_=>x_.index == (lb[k]!).index)).toNat]!).data) H5 d3 h9 (by have:=w8.bl (k:=k) oM;omega) (by have h1:=w8.bl (k:=k) oM;have h2:=w8.dl' (k:=k) oM;omega) H6.lt) rfl H6 fun u2 cV aA f4 g8 aC=>(?_)))))))))))))
     obtain ⟨_,rfl,n9⟩:=aC
     have:=n9.len_le
     have b0:=b0.mv f4
     have a9:=a9.mv f4
     have a2:=a2.mv f4
     have a8:=a8.mv f4 g8 (by simp)
     have b1:=b1.mv f4
     have a4:=a4.mv f4
     have a5:=a5.mv f4
     have b8:=b8.mv f4
     have b5:=b5.mv f4
     have b9:=b9.mv f4
     have a7:=a7.keep g8 (by simp)
     have a6:=a6.mv f4 g8 (by simp)
     have a3:=a3.keep g8 (by simp)
     have a0:=a0.keep g8 (by simp)
     have a1:=a1.keep g8 (by simp)
     have d0:=d0.keep g8 (by simp)
     have d4:=d4.keep g8 (by simp)
     have e4:=e4.keep g8 (by simp)
     refine AA (AH 4 HT rfl (BZ (BY (u2) rfl rfl n9.oneCell s_23 (by repeat (constructor)) d4 oT aA fun cW aD e9 i8 t0=>(?_))))
     have b0:=b0.mv e9
     have a9:=a9.mv e9
     have a2:=a2.mv e9
     have a8:=a8.mv e9 i8 (fun b hb=>AS (E4 b hb))
     have b1:=b1.mv e9
     have a4:=a4.mv e9
     have a5:=a5.mv e9
     have b8:=b8.mv e9
     have b5:=b5.mv e9
     have n9:=n9.mv e9
     have b9:=b9.mv e9
     have a7:=a7.keep i8 (AS E0)
     have a6:=a6.mv e9 i8 (fun b hb=>AS (x8 b hb))
     have a3:=a3.keep i8 (AS E1)
     have a0:=a0.keep i8 (AS E2)
     have a1:=a1.keep i8 (AS E3)
     have d0:=d0.keep i8 (AS x7)
     have e4:=e4.keep i8 (AS (Ne.symm E6))
     refine AG (AC (AB kR (AA (AK U32_ rfl (b2) rfl a3 rfl (AA (BI (vs:=[vI (((lb[k]!)).epoch),vI (((lb[k]!)).index),vI (((lb[k]!)).threshold),vI (((lb[k]!)).many),u2]) U70_ rfl EN rfl t0 rfl (AA (KH (E:=Enc.share) (xs:=[.tmp 99]) U32_ EN PG (by decide) [.agg #[vI (((lb[k]!)).epoch),vI (((lb[k]!)).index),vI (((lb[k]!)).threshold),vI (((lb[k]!)).many),u2]] [[vI (((lb[k]!)).epoch),vI (((lb[k]!)).index),vI (((lb[k]!)).threshold),vI (((lb[k]!)).many),u2]] [(⟨((lb[k]!)).epoch,((lb[k]!)).index,((lb[k]!)).threshold,((lb[k]!)).many,xorM (((lb[k]!)).data) (((CT la secret)[(FZ (CT la secret) (fun x_=>x_.index == (lb[k]!).index)).toNat]!).data)⟩:Share)] rfl rfl rfl (Parts.cons rfl ⟨_,rfl,n9⟩ (Parts.nil _ _ _)) oT aD fun cX cY aE f5 g9 E8=>(?_)))))))))
     have b0:=b0.mv f5
     have a9:=a9.mv f5
     have a2:=a2.mv f5
     have a8:=a8.mv f5 g9 (by simp)
     have b1:=b1.mv f5
     have a4:=a4.mv f5
     have a5:=a5.mv f5
     have b8:=b8.mv f5
     have b5:=b5.mv f5
     have a6:=a6.mv f5 g9 (by simp)
     have b9:=b9.mv f5
     have a7:=a7.keep g9 (by simp)
     have a3:=a3.keep g9 (by simp)
     have a0:=a0.keep g9 (by simp)
     have a1:=a1.keep g9 (by simp)
     have d0:=d0.keep g9 (by simp)
     have t0:=t0.keep g9 (by simp)
     have e4:=e4.keep g9 (by simp)
     have:=E8.len_le
     refine AA (DI (E:=Enc.share) (l:=FP lb (CT la secret) k) (m:=[(⟨((lb[k]!)).epoch,((lb[k]!)).index,((lb[k]!)).threshold,((lb[k]!)).many,xorM (((lb[k]!)).data) (((CT la secret)[(FZ (CT la secret) (fun x_=>x_.index == (lb[k]!).index)).toNat]!).data)⟩:Share)]) U32_ i_70 rfl (by decide) rfl rfl a6 E8 (fun _ hb=>.inl hb) c6 (by have:=mixD_len lb (CT la secret) k;simp only [List.length_cons,List.length_nil];omega) (by have:=mixD_len lb (CT la secret) k;simp only [List.length_cons,List.length_nil,maxLen];omega) aE fun g2 cZ g3 R1 g5 f8 aF g4 o2 j6=>(?_))
     have E9:∀ b,c8.ownBlock=some b→g2.ownBlock≠some b:=fun b hb e=>by rcases g5 with e1|e1 <;> rw [e1] at e <;> first|(cases e;have:=(a8.lt _ hb).2;omega)|(exact absurd e (nppr0_b5477_0_x5457 b hb))
     have R2:∀ b,g2.ownBlock=some b→b≠c1:=fun b hb=>by rcases g5 with e1|e1 <;> rw [e1] at hb <;> first|(cases hb;have:=a7.lt;omega)|(exact nbpr0_b5477_0_D_r5497 b hb)
     have F3:∀ b,g2.ownBlock=some b→b≠c2:=fun b hb=>by rcases g5 with e1|e1 <;> rw [e1] at hb <;> first|(cases hb;have:=a3.lt;omega)|(exact nbpr0_b5477_0_b5477 b hb)
     have R3:∀ b,g2.ownBlock=some b→b≠b3:=fun b hb=>by rcases g5 with e1|e1 <;> rw [e1] at hb <;> first|(cases hb;have:=a0.lt;omega)|(exact nbpr0_b5477_0_bnc34_10 b hb)
     have R4:∀ b,g2.ownBlock=some b→b≠b4:=fun b hb=>by rcases g5 with e1|e1 <;> rw [e1] at hb <;> first|(cases hb;have:=a1.lt;omega)|(exact nbpr0_b5477_0_bnc34_11 b hb)
     have F4:∀ b,g2.ownBlock=some b→b≠c0:=fun b hb=>by rcases g5 with e1|e1 <;> rw [e1] at hb <;> first|(cases hb;have:=d0.lt;omega)|(exact nbpr0_b5477_0_l_r5497 b hb)
     have bZ:∀ b,g2.ownBlock=some b→b≠c5:=fun b hb=>by rcases g5 with e1|e1 <;> rw [e1] at hb <;> first|(cases hb;have:=t0.lt;omega)|(exact x8 b hb)
     have ca:∀ b,g2.ownBlock=some b→b≠c7:=fun b hb=>by rcases g5 with e1|e1 <;> rw [e1] at hb <;> first|(cases hb;have:=e4.lt;omega)|(exact E7 b hb)
     have g0:c1∈g3:=f8 c1 rC
     have i5:c2∈g3:=f8 c2 rC
     have d1:b3∈g3:=f8 b3 rC
     have d2:b4∈g3:=f8 b4 rC
     have o8:c0∈g3:=f8 c0 rC
     have bv:c5∈g3:=f8 c5 (by repeat (constructor))
     have bw:c7∈g3:=f8 c7 (by repeat (constructor))
     have b0:=b0.mv g4
     have a9:=a9.mv g4
     have a2:=a2.mv g4
     have a8:=a8.mv g4 o2 (fun b hb=>by simp only [Option.mem_toList];exact nppr0_b5477_0_x5457 b hb)
     have b1:=b1.mv g4
     have a4:=a4.mv g4
     have a5:=a5.mv g4
     have b8:=b8.mv g4
     have b5:=b5.mv g4
     have b9:=b9.mv g4
     have a7:=a7.keep o2 (by simp only [Option.mem_toList];exact fun e=>absurd rfl (nbpr0_b5477_0_D_r5497 _ e))
     have a3:=a3.keep o2 (by simp only [Option.mem_toList];exact fun e=>absurd rfl (nbpr0_b5477_0_b5477 _ e))
     have a0:=a0.keep o2 (by simp only [Option.mem_toList];exact fun e=>absurd rfl (nbpr0_b5477_0_bnc34_10 _ e))
     have a1:=a1.keep o2 (by simp only [Option.mem_toList];exact fun e=>absurd rfl (nbpr0_b5477_0_bnc34_11 _ e))
     have d0:=d0.keep o2 (by simp only [Option.mem_toList];exact fun e=>absurd rfl (nbpr0_b5477_0_l_r5497 _ e))
     refine BZ (BY (g2) rfl rfl j6.oneCell s_32 (by repeat (assumption)) a3 oT aF fun aG aH f6 o3 x9=>(?_))
     have b0:=b0.mv f6
     have a9:=a9.mv f6
     have a2:=a2.mv f6
     have a8:=a8.mv f6 o3 (fun b hb=>AS (C9 b hb))
     have b1:=b1.mv f6
     have a4:=a4.mv f6
     have a5:=a5.mv f6
     have b8:=b8.mv f6
     have b5:=b5.mv f6
     have j6:=j6.mv f6 o3 (fun b hb=>AS (F3 b hb))
     have b9:=b9.mv f6
     have a7:=a7.keep o3 (AS (Ne.symm n3.1))
     have a0:=a0.keep o3 (AS P0)
     have a1:=a1.keep o3 (AS P1)
     have d0:=d0.keep o3 (AS (Ne.symm n3.2))
     refine AG (CB (round_n d0 (fun aI i9 R5=>?_)))
     have aJ:=aH.keepB i9 (by repeat (assumption))
     have f7:Mv g3 aG g3 aI:=Mv.keepB i9 (by repeat (assumption))
     have b0:=b0.mv f7
     have a9:=a9.mv f7
     have a2:=a2.mv f7
     have a8:=a8.mv f7 i9 (fun b hb=>AS ((fun b hb=>(n4 b hb).2) b hb))
     have b1:=b1.mv f7
     have a4:=a4.mv f7
     have a5:=a5.mv f7
     have b8:=b8.mv f7
     have b5:=b5.mv f7
     have j6:=j6.mv f7 i9 (fun b hb=>AS (F4 b hb))
     have b9:=b9.mv f7
     have a7:=a7.keep i9 (AS x2)
     have x9:=x9.keep i9 (AS n3.2)
     have a0:=a0.keep i9 (AS w9.2)
     have a1:=a1.keep i9 (AS x1.2)
     have b7:=R5
     refine AY rfl (FF true rfl (AA (BH (vO false) rfl rfl (AG (AC (AJ false rfl rfl (fun h=>by cases h) (fun _=>AT (CB (AC (AB kR (AA (DR .i64 ((k:Nat):Int) (1:Int) (((k+1:Nat):Int)) rfl rfl (GZ oM oM) (AA (AD (vI ((k+1:Nat):Int)) rfl (AG (AC (?_)))))))))))))))))
     exact ⟨_,oM,(k+1),g2,g3,oM,rfl,⟨_,BD _ ⟨rfl,rfl,rfl,rfl,(by rfl),rfl,trivial⟩⟩,aJ,(by rw [show FP lb (CT la secret) (k+1)=(FP lb (CT la secret) k)++([(⟨((lb[k]!)).epoch,((lb[k]!)).index,((lb[k]!)).threshold,((lb[k]!)).many,xorM (((lb[k]!)).data) (((CT la secret)[(FZ (CT la secret) (fun x_=>x_.index == (lb[k]!).index)).toNat]!).data)⟩:Share)]) from mixD_succ oM];exact j6),R1,b5,b9,b0,a9,a2,a8,b1,a4,a5,b8,a7,aS,x9,aS,a0,aS,a1,aS,b7,aS,R2,F3,R3,R4,F4,(fun b hb e=>E9 b e hb),E9⟩
    have cb:(lb.length:Int)≤((k:Nat):Int):=by simpa using x3
    obtain rfl:k=lb.length:=by omega
    refine DW (CL (CL (DK (FL rfl (HU rfl) (⟨⟨_,rfl⟩,?_⟩)))))
    refine ⟨.ready,none,by simp,b7,fun j0 j1=>?_⟩
    have aK:=H0.keepB j1 (by repeat (assumption))
    have z7:Mv u1 Z9 u1 j0:=Mv.keepB j1 (by repeat (assumption))
    have a2:=a2.mv z7
    have a8:=a8.mv z7 j1 (fun b hb=>AS ((fun b hb=>(n4 b hb).2) b hb))
    have a7:=a7.keep j1 (AS x2)
    have a6:=a6.mv z7 j1 (fun b hb=>AS (nbpr0_b5477_0_l_r5497 b hb))
    have a3:=a3.keep j1 (AS n3.2)
    have a0:=a0.keep j1 (AS w9.2)
    have a1:=a1.keep j1 (AS x1.2)
    refine CB (AC (AF (?_)))
    obtain ⟨c4,z8,H7,t2,t3⟩:=a6.publish aK
    have g0:c1∈c4:=t3 c1 (by repeat (assumption)) (fun e=>absurd rfl (nbpr0_b5477_0_D_r5497 _ e))
    have i5:c2∈c4:=t3 c2 (by repeat (assumption)) (fun e=>absurd rfl (nbpr0_b5477_0_b5477 _ e))
    have d1:b3∈c4:=t3 b3 (by repeat (assumption)) (fun e=>absurd rfl (nbpr0_b5477_0_bnc34_10 _ e))
    have d2:b4∈c4:=t3 b4 (by repeat (assumption)) (fun e=>absurd rfl (nbpr0_b5477_0_bnc34_11 _ e))
    have bC:=t2.len_le
    have a2:=a2.mv H7
    have a8:=a8.mv H7 (Keep.refl [] _) (by simp)
    have a7:=a7.keep (Keep.refl [] _) (by simp)
    have a3:=a3.keep (Keep.refl [] _) (by simp)
    have a0:=a0.keep (Keep.refl [] _) (by simp)
    have a1:=a1.keep (Keep.refl [] _) (by simp)
    refine cw_draw' 9 _ _ [fun (vT:Value) (wT:World)=>BL Enc.share wT (c4++O) vT (FP lb (CT la secret) lb.length),fun (vT:Value) (wT:World)=>BL Enc.u8 wT (c4++O) vT (secret),isV (vI (secret.length:Int)),fun (vT:Value) (wT:World)=>BL Enc.u8 wT (c4++O) vT (List.replicate secret.length (0:UInt8)),fun (vT:Value) (wT:World)=>∃ (xT0:Value),vT = .tuple #[xT0,vI ((AQ (FP lb (CT la secret) lb.length) (List.replicate secret.length (0:UInt8))).2)]∧BL Enc.u8 wT (c4++O) xT0 ((AQ (FP lb (CT la secret) lb.length) (List.replicate secret.length (0:UInt8))).1),fun (vT:Value) (wT:World)=>∃ (xT0:Value),vT = .tuple #[xT0,vI ((AQ (FP lb (CT la secret) lb.length) (List.replicate secret.length (0:UInt8))).2)]∧BL Enc.u8 wT (c4++O) xT0 ((AQ (FP lb (CT la secret) lb.length) (List.replicate secret.length (0:UInt8))).1),fun (vT:Value) (wT:World)=>BL Enc.u8 wT (c4++O) vT ((AQ (FP lb (CT la secret) lb.length) (List.replicate secret.length (0:UInt8))).1),isV (vI ((AQ (FP lb (CT la secret) lb.length) (List.replicate secret.length (0:UInt8))).2)),fun (vT:Value) (wT:World)=>BL Enc.u8 wT (c4++O) vT ((AQ (FP lb (CT la secret) lb.length) (List.replicate secret.length (0:UInt8))).1)] kR kR kR kR rfl rfl ⟨fun _ _ _ h k=>h.mv (Mv.of_keep k),fun _ _ _ h k=>h.mv (Mv.of_keep k),kI,fun _ _ _ h k=>h.mv (Mv.of_keep k),fun _ _ _ ⟨y0,e,h0⟩ k=>⟨y0,e,h0.mv (Mv.of_keep k)⟩,fun _ _ _ ⟨y0,e,h0⟩ k=>⟨y0,e,h0.mv (Mv.of_keep k)⟩,fun _ _ _ h k=>h.mv (Mv.of_keep k),kI,fun _ _ _ h k=>h.mv (Mv.of_keep k),trivial⟩ ⟨?_,?_,?_,?_,?_,?_,?_,?_,?_,trivial⟩ ?_
    ·intro F1 w1 k1 hf hd
     have k0:=(Keep.drew [] j0).trans k1
     have m1:Mv c4 j0 c4 w1:=Mv.of_keep k0
     have a3:=a3.keep k0 (by simp)
     have t2:=t2.mv m1
     obtain ⟨F2,rfl⟩:=DG (F:=F1) [(14,vP (some ⟨c2,0,none⟩))] ⟨hf 14 kR,trivial⟩
     exact DC rfl ((AK U32_ rfl (b2) rfl a3 rfl (⟨(Keep.refl _ _),t2⟩)))
    ·intro F1 w1 k1 hf hd
     have k0:=(Keep.drew [] j0).trans k1
     have m1:Mv c4 j0 c4 w1:=Mv.of_keep k0
     have a2:=a2.mv m1
     obtain ⟨F2,rfl⟩:=DG (F:=F1) [(2,secret_v)] ⟨hf 2 kR,trivial⟩
     exact DC rfl ((AD (secret_v) rfl (⟨(Keep.refl _ _),a2⟩)))
    ·intro F1 w1 k1 hf hd
     obtain ⟨aL,aM,F5⟩:∃ v,F1 104=v∧BL Enc.u8 w1 (c4++O) v (secret):=⟨_,rfl,hd 1 104 kR⟩
     have:=F5.len_le
     obtain ⟨F2,rfl⟩:=DG (F:=F1) [(104,aL)] ⟨aM,trivial⟩
     exact DC rfl ((CK U23_ rfl F5 (⟨(Keep.refl _ _),rfl⟩)))
    ·intro F1 w1 k1 hf hd
     have k0:=(Keep.drew [] j0).trans k1
     have s1:=z8.call k0
     obtain ⟨F2,rfl⟩:=DG (F:=F1) [(105,vI (secret.length:Int))] ⟨hd 2 105 kR,trivial⟩
     refine DC rfl ((o_makeR (E:=Enc.u8) U23_ i_5 [vB (0:UInt8)] rfl rfl (by decide) (0:UInt8) (fun _ _=>rfl) .i64 .i64 (secret.length:Int) (secret.length:Int) secret.length secret.length rfl rfl rfl rfl oM oM (by simp only [maxLen];omega) s1 fun db dc dd de aN R6=>(?_)))
     exact ⟨aN,R6⟩
    ·intro F1 w1 k1 hf hd
     have k0:=(Keep.drew [] j0).trans k1
     have s1:=z8.call k0
     obtain ⟨z9,aO,F6⟩:∃ v,F1 103=v∧BL Enc.share w1 (c4++O) v (FP lb (CT la secret) lb.length):=⟨_,rfl,hd 0 103 kR⟩
     have:=F6.len_le
     obtain ⟨A0,aP,F7⟩:∃ v,F1 106=v∧BL Enc.u8 w1 (c4++O) v (List.replicate secret.length (0:UInt8)):=⟨_,rfl,hd 3 106 kR⟩
     have:=F7.len_le
     obtain ⟨F2,rfl⟩:=DG (F:=F1) [(103,z9),(106,A0)] ⟨aO,aP,trivial⟩
     refine DC rfl ((BF (vs:=[z9,A0]) XT (UL (O:=c4++O) z9 (FP lb (CT la secret) lb.length) A0 (List.replicate secret.length (0:UInt8)) w1 F6 F7 s1.lt) rfl s1 fun df dg dh di aQ aR=>(?_)))
     obtain ⟨aU,rfl,R7,t4⟩:=aR
     have t4:=t4.rd (O':=c4++O) (fun x hx=>.inl (List.mem_append_right _ hx)) (fun c hc hx=>by have:=R7 c hc;have:=s1.lt c hx;omega)
     have:=t4.len_le
     exact ⟨aQ,⟨aU,rfl,t4⟩⟩
    ·intro F1 w1 k1 hf hd
     obtain ⟨A1,aV,F8⟩:(fun (vT:Value) (wT:World)=>∃ (xT0:Value),vT = .tuple #[xT0,vI ((AQ (FP lb (CT la secret) lb.length) (List.replicate secret.length (0:UInt8))).2)]∧BL Enc.u8 wT (c4++O) xT0 ((AQ (FP lb (CT la secret) lb.length) (List.replicate secret.length (0:UInt8))).1)) (F1 107) w1:=hd 4 107 kR
     have:=F8.len_le
     obtain ⟨F2,rfl⟩:=DG (F:=F1) [(107,vT #[A1,vI ((AQ (FP lb (CT la secret) lb.length) (List.replicate secret.length (0:UInt8))).2)])] ⟨aV,trivial⟩
     exact DC rfl ((AD (vT #[A1,vI ((AQ (FP lb (CT la secret) lb.length) (List.replicate secret.length (0:UInt8))).2)]) rfl (⟨(Keep.refl _ _),⟨A1,rfl,F8⟩⟩)))
    ·intro F1 w1 k1 hf hd
     obtain ⟨H8,aW,F9⟩:(fun (vT:Value) (wT:World)=>∃ (xT0:Value),vT = .tuple #[xT0,vI ((AQ (FP lb (CT la secret) lb.length) (List.replicate secret.length (0:UInt8))).2)]∧BL Enc.u8 wT (c4++O) xT0 ((AQ (FP lb (CT la secret) lb.length) (List.replicate secret.length (0:UInt8))).1)) (F1 102) w1:=hd 5 102 kR
     have:=F9.len_le
     obtain ⟨F2,rfl⟩:=DG (F:=F1) [(102,vT #[H8,vI ((AQ (FP lb (CT la secret) lb.length) (List.replicate secret.length (0:UInt8))).2)])] ⟨aW,trivial⟩
     exact DC rfl ((AL (H8) rfl rfl (⟨(Keep.refl _ _),F9⟩)))
    ·intro F1 w1 k1 hf hd
     obtain ⟨aX,aY,R8⟩:(fun (vT:Value) (wT:World)=>∃ (xT0:Value),vT = .tuple #[xT0,vI ((AQ (FP lb (CT la secret) lb.length) (List.replicate secret.length (0:UInt8))).2)]∧BL Enc.u8 wT (c4++O) xT0 ((AQ (FP lb (CT la secret) lb.length) (List.replicate secret.length (0:UInt8))).1)) (F1 102) w1:=hd 5 102 kR
     have:=R8.len_le
     obtain ⟨F2,rfl⟩:=DG (F:=F1) [(102,vT #[aX,vI ((AQ (FP lb (CT la secret) lb.length) (List.replicate secret.length (0:UInt8))).2)])] ⟨aY,trivial⟩
     exact DC rfl ((AL (vI ((AQ (FP lb (CT la secret) lb.length) (List.replicate secret.length (0:UInt8))).2)) rfl rfl (⟨(Keep.refl _ _),rfl⟩)))
    ·intro F1 w1 k1 hf hd
     obtain ⟨H9,aZ,G0⟩:∃ v,F1 108=v∧BL Enc.u8 w1 (c4++O) v ((AQ (FP lb (CT la secret) lb.length) (List.replicate secret.length (0:UInt8))).1):=⟨_,rfl,hd 6 108 kR⟩
     have:=G0.len_le
     obtain ⟨F2,rfl⟩:=DG (F:=F1) [(108,H9)] ⟨aZ,trivial⟩
     exact DC rfl ((AE (H9) rfl (⟨(Keep.refl _ _),G0⟩)))
    intro I0 I1 l5 y1 t5
    have I2:=z8.call l5
    have ba:Mv c4 j0 c4 I1:=Mv.of_keep l5
    have a8:=a8.mv ba l5 (by simp)
    have a7:=a7.keep l5 (by simp)
    have a3:=a3.keep l5 (by simp)
    have a0:=a0.keep l5 (by simp)
    have a1:=a1.keep l5 (by simp)
    obtain ⟨I3,bb,G1⟩:∃ v,I0 17=v∧BL Enc.u8 I1 (c4++O) v ((AQ (FP lb (CT la secret) lb.length) (List.replicate secret.length (0:UInt8))).1):=⟨_,rfl,y1 8 17 kR (by decide)⟩
    have:=G1.len_le
    obtain ⟨F2,rfl⟩:=DG (F:=I0) [(7,vI ((BB secret (la[0]!.epoch) (la[0]!.threshold) (la[0]!.many) ((AQ la secret).1)).2)),(12,c8),(116,OC c1),(17,I3),(109,vI ((AQ (FP lb (CT la secret) lb.length) (List.replicate secret.length (0:UInt8))).2))] ⟨t5 7 kR,t5 12 kR,t5 116 kR,bb,y1 7 109 kR (by decide),trivial⟩
    clear y1 t5
    refine AA (AE (vI ((AQ (FP lb (CT la secret) lb.length) (List.replicate secret.length (0:UInt8))).2)) rfl (AG (AC (AF (AF (AB kR (AA (AD (vI ((AQ (FP lb (CT la secret) lb.length) (List.replicate secret.length (0:UInt8))).2)) rfl (AA (DQ .i64 ((AQ (FP lb (CT la secret) lb.length) (List.replicate secret.length (0:UInt8))).2) (0:Int) rfl rfl (AG (AC (AJ (((AQ (FP lb (CT la secret) lb.length) (List.replicate secret.length (0:UInt8))).2) != (0:Int)) rfl rfl (fun y2=>?_) (fun y2=>?_))))))))))))))
    ·have cc:(AQ (FP lb (CT la secret) lb.length) (List.replicate secret.length (0:UInt8))).2≠(0:Int):=by simpa using y2
     refine AF (AB kR (AA (AD (vI ((AQ (FP lb (CT la secret) lb.length) (List.replicate secret.length (0:UInt8))).2)) rfl (AA (AE (nS) rfl (AA (AE (vI ((AQ (FP lb (CT la secret) lb.length) (List.replicate secret.length (0:UInt8))).2)) rfl (AG (AC (AM (AP (endM_rm rfl a7 (fun dj bc=>?_)))))))))))))
     have bd:=I2.keepB bc (by repeat (assumption))
     refine ⟨_,GE rfl rfl rfl rfl,?_⟩
     have be:((AX la lb secret).1)=([]):=by exact congrArg (fun p=>p.1) (show AX la lb secret=_ from mixed_5 hca hcb w5 hex aS)
     have bf:((AX la lb secret).2)=((AQ (FP lb (CT la secret) lb.length) (List.replicate secret.length (0:UInt8))).2):=by exact congrArg (fun p=>p.2) (show AX la lb secret=_ from mixed_5 hca hcb w5 hex aS)
     exact ⟨_,rfl,bd.keep,by rw [be,bf];exact ⟨.slice none 0 0,rfl,BL.nil _ _ _⟩⟩
    have cd:(AQ (FP lb (CT la secret) lb.length) (List.replicate secret.length (0:UInt8))).2=(0:Int):=by simpa using y2
    refine AT (AC (AF (AB kR (AA (AD (c8) rfl (AA (AD (I3) rfl (?_))))))))
    obtain ⟨dk,R9,o4,bg,S0⟩:=own_back I2 a8
    refine AA (o_append8 (l:=(AQ la secret).1) (m:=(AQ (FP lb (CT la secret) lb.length) (List.replicate secret.length (0:UInt8))).1) U23_ i_5 rfl (by decide) rfl rfl S0 G1 R9 (by have:=PP (l:=FP lb (CT la secret) lb.length) aS;omega) (by have:=PP (l:=FP lb (CT la secret) lb.length) aS;simp only [maxLen];omega) bg fun o5 bh o6 ce t6 o7 bi dm bj y3=>(?_))
    have S1:∀ b,o5.ownBlock=some b→b≠c1:=fun b hb=>by have:=a7.lt;rcases t6 with e1|e1 <;> rw [e1] at hb <;> first|exact (fun b hb=>(n4 b hb).1) b hb|(cases hb;omega)
    have a7:=a7.keep bj (by simp only [Option.mem_toList];exact fun e=>absurd rfl ((fun b hb=>(n4 b hb).1) _ e))
    have g0:c1∈o6:=o7 c1 (o4 c1 (by repeat (assumption)))
    have cf:∀ b,o5.ownBlock=some b→b≠c2:=fun b hb=>by have:=a3.lt;rcases t6 with e1|e1 <;> rw [e1] at hb <;> first|exact C9 b hb|(cases hb;omega)
    have i5:c2∈o6:=o7 c2 (o4 c2 (by repeat (assumption)))
    have cg:∀ b,o5.ownBlock=some b→b≠b3:=fun b hb=>by have:=a0.lt;rcases t6 with e1|e1 <;> rw [e1] at hb <;> first|exact O6 b hb|(cases hb;omega)
    have d1:b3∈o6:=o7 b3 (o4 b3 (by repeat (assumption)))
    have ch:∀ b,o5.ownBlock=some b→b≠b4:=fun b hb=>by have:=a1.lt;rcases t6 with e1|e1 <;> rw [e1] at hb <;> first|exact O7 b hb|(cases hb;omega)
    have d2:b4∈o6:=o7 b4 (o4 b4 (by repeat (assumption)))
    refine AA (AE (o5) rfl (AA (AE (vI 0) rfl (AG (AC (AM (endM_rm rfl a7 (fun bk A2=>?_))))))))
    have I4:=bi.keepB A2 (by repeat (assumption))
    have bm:Mv o6 bh o6 bk:=Mv.keepB A2 (by repeat (assumption))
    have y3:=y3.mv bm A2 (fun b hb=>AS (S1 b hb))
    refine ⟨_,GE rfl rfl rfl rfl,?_⟩
    have bn:((AX la lb secret).1)=(((AQ la secret).1)++((AQ (FP lb (CT la secret) lb.length) (List.replicate secret.length (0:UInt8))).1)):=by exact congrArg (fun p=>p.1) (show AX la lb secret=_ from mixed_6 hca hcb w5 hex aS)
    have bo:((AX la lb secret).2)=(0:Int):=by exact congrArg (fun p=>p.2) (show AX la lb secret=_ from mixed_6 hca hcb w5 hex aS)
    exact ⟨_,rfl,I4.keep,by rw [bn,bo];exact ⟨o5,rfl,y3.pub I4⟩⟩
   have ci:((la[0]!.data).length:Int)≠((lb[0]!.data).length:Int):=by simpa using C8
   refine AN rfl (AN rfl (AN rfl (AN rfl (AN rfl (AN rfl (AA (BH (vO true) rfl rfl (AG (AC (AJ true rfl rfl (fun _=>AF (AB kR (AA (AE (nS) rfl (AA (AE (vI 460) rfl (AG (AC (AM (AP (RT rfl (GE rfl rfl rfl rfl) (?_)))))))))))) (fun h=>by cases h)))))))))))
   have bp:((AX la lb secret).1)=([]):=by exact congrArg (fun p=>p.1) (show AX la lb secret=_ from NC aS aS (IJ oM))
   have bq:((AX la lb secret).2)=(460:Int):=by exact congrArg (fun p=>p.2) (show AX la lb secret=_ from NC aS aS (IJ oM))
   exact ⟨_,rfl,k7.keep,by rw [bp,bq];exact ⟨.slice none 0 0,rfl,BL.nil _ _ _⟩⟩
  have cj:la[0]!.many≠lb[0]!.many:=by simpa using C7
  refine AN rfl (AN rfl (AN rfl (AN rfl (AN rfl (AN rfl (AN rfl (AA (BH (vO true) rfl rfl (AA (AD (vO true) rfl (AN rfl (AN rfl (AN rfl (AN rfl (AN rfl (AN rfl (AA (BH (vO true) rfl rfl (AG (AC (AJ true rfl rfl (fun _=>AF (AB kR (AA (AE (nS) rfl (AA (AE (vI 460) rfl (AG (AC (AM (AP (RT rfl (GE rfl rfl rfl rfl) (?_)))))))))))) (fun h=>by cases h))))))))))))))))))))))
  have br:((AX la lb secret).1)=([]):=by exact congrArg (fun p=>p.1) (show AX la lb secret=_ from NC aS aS (IJ oM))
  have bs:((AX la lb secret).2)=(460:Int):=by exact congrArg (fun p=>p.2) (show AX la lb secret=_ from NC aS aS (IJ oM))
  exact ⟨_,rfl,k7.keep,by rw [br,bs];exact ⟨.slice none 0 0,rfl,BL.nil _ _ _⟩⟩
 have cm:la[0]!.threshold≠lb[0]!.threshold:=by simpa using C6
 refine AN rfl (AN rfl (AN rfl (AN rfl (AN rfl (AA (BH (vO true) rfl rfl (AA (AD (vO true) rfl (AN rfl (AN rfl (AN rfl (AN rfl (AN rfl (AN rfl (AN rfl (AA (BH (vO true) rfl rfl (AA (AD (vO true) rfl (AN rfl (AN rfl (AN rfl (AN rfl (AN rfl (AN rfl (AA (BH (vO true) rfl rfl (AG (AC (AJ true rfl rfl (fun _=>AF (AB kR (AA (AE (nS) rfl (AA (AE (vI 460) rfl (AG (AC (AM (AP (RT rfl (GE rfl rfl rfl rfl) (?_)))))))))))) (fun h=>by cases h)))))))))))))))))))))))))))))))
 have bt:((AX la lb secret).1)=([]):=by exact congrArg (fun p=>p.1) (show AX la lb secret=_ from NC aS aS (IJ oM))
 have bu:((AX la lb secret).2)=(460:Int):=by exact congrArg (fun p=>p.2) (show AX la lb secret=_ from NC aS aS (IJ oM))
 exact ⟨_,rfl,k7.keep,by rw [bt,bu];exact ⟨.slice none 0 0,rfl,BL.nil _ _ _⟩⟩
open Go.Fw Go.RowKit
set_option maxHeartbeats 4000000 in
set_option maxRecDepth 100000 in
theorem YQ {O:List Nat} (list_v:Value) (list:List Int) (threshold:Int) (wait:Int) (secret_v:Value) (secret:List UInt8) (coins_v:Value) (coins:List UInt8) (moves_v:Value) (moves:List MoveT) (other_v:Value) (other:List UInt8) (pa:UInt8) (pb:UInt8) (w:World) (f2:BL Enc.int w O list_v list) (a4:BL Enc.u8 w O secret_v secret) (c3:BL Enc.u8 w O coins_v coins) (b2:BL Enc.movt w O moves_v moves) (a3:BL Enc.u8 w O other_v other) (hO:∀ b∈O,b<w.heap.size):CM Try.prog 3 [list_v,vI threshold,vI wait,secret_v,coins_v,moves_v,other_v,vB pa,vB pb] w (fun v _=>v = .bool (true)):= by
 have E6:=f2.len_le
 have f2:BL Enc.int w ([]++O) list_v list:=f2
 have x7:=a4.len_le
 have a4:BL Enc.u8 w ([]++O) secret_v secret:=a4
 have D9:=c3.len_le
 have c3:BL Enc.u8 w ([]++O) coins_v coins:=c3
 have E0:=b2.len_le
 have b2:BL Enc.movt w ([]++O) moves_v moves:=b2
 have E1:=a3.len_le
 have a3:BL Enc.u8 w ([]++O) other_v other:=a3
 have s0:St w O w []:=St.start hO
 refine BP 371 Try.func3 rfl rfl oT (fun F0=>AF (AB kR (AA (AE (vO false) rfl (AG (AC (AF (AF (AB kR (AA (BF (vs:=[]) enter_9 (c_saneR (O:=[]++O) w s0.lt) rfl s0 fun L0 x8 g3 i0 L1 x9=>(?_))))))))))))
 obtain rfl:=x9
 have f2:=f2.mv i0
 have a4:=a4.mv i0
 have c3:=c3.mv i0
 have b2:=b2.mv i0
 have a3:=a3.mv i0
 refine AA (FF true rfl (AG (AC (AJ false rfl rfl (fun h=>by cases h) (fun _=>AT (AC (AF (AF (AB kR (AA (AD (list_v) rfl (AA (CK U22_ rfl f2 (AA (HN .i64 (list.length:Int) (10:Int) rfl rfl (AA (AD (vO (decide ((10:Int)<(list.length:Int)))) rfl (?_))))))))))))))))))
 cases n5:(decide ((10:Int)<(list.length:Int)))
 ·have F3:(list.length:Int)≤(10:Int):=by simpa using n5
  refine AY rfl (AD (secret_v) rfl (AY rfl (CK U23_ rfl a4 (AY rfl (HN .i64 (secret.length:Int) (8:Int) rfl rfl (AA (BK (vO (decide ((8:Int)<(secret.length:Int)))) rfl rfl (AA (AD (vO (decide ((8:Int)<(secret.length:Int)))) rfl (?_))))))))))
  cases n6:(decide ((8:Int)<(secret.length:Int)))
  ·have F4:(secret.length:Int)≤(8:Int):=by simpa using n6
   refine AY rfl (AD (coins_v) rfl (AY rfl (CK U23_ rfl c3 (AY rfl (HN .i64 (coins.length:Int) (80:Int) rfl rfl (AA (BK (vO (decide ((80:Int)<(coins.length:Int)))) rfl rfl (AA (AD (vO (decide ((80:Int)<(coins.length:Int)))) rfl (?_))))))))))
   cases n7:(decide ((80:Int)<(coins.length:Int)))
   ·have F5:(coins.length:Int)≤(80:Int):=by simpa using n7
    refine AY rfl (AD (moves_v) rfl (AY rfl (CK U24_ rfl b2 (AY rfl (HN .i64 (moves.length:Int) (14:Int) rfl rfl (AA (BK (vO (decide ((14:Int)<(moves.length:Int)))) rfl rfl (AA (AD (vO (decide ((14:Int)<(moves.length:Int)))) rfl (?_))))))))))
    cases n9:(decide ((14:Int)<(moves.length:Int)))
    ·have F6:(moves.length:Int)≤(14:Int):=by simpa using n9
     refine AY rfl (AD (other_v) rfl (AY rfl (CK U23_ rfl a3 (AY rfl (AD (secret_v) rfl (AY rfl (CK U23_ rfl a4 (AY rfl (DQ .i64 (other.length:Int) (secret.length:Int) rfl rfl (AA (BK (vO ((other.length:Int) != (secret.length:Int))) rfl rfl (AG (AC (AJ ((other.length:Int) != (secret.length:Int)) rfl rfl (fun j5=>?_) (fun j5=>?_)))))))))))))))
     ·have F7:(other.length:Int)≠(secret.length:Int):=by simpa using j5
      refine AF (AB kR (AA (AE (vO true) rfl (AG (AC (AM (AP (AZ rfl (CN rfl rfl rfl) (?_)))))))))
      exact ⟨_,rfl,g3.keep,rfl⟩
     have F8:(other.length:Int)=(secret.length:Int):=by simpa using j5
     refine AT (AC (AF (AB kR (AA (AD (list_v) rfl (AA (AD (vI threshold) rfl (AA (AD (vI wait) rfl (AA (BF (vs:=[list_v,vI threshold,vI wait]) enter_10 (c_new (O:=[]++O) list_v list threshold wait x8 f2 oM g3.lt) rfl g3 fun L2 L3 y0 i8 L4 y1=>(?_))))))))))))
     obtain ⟨j6,rfl,j7⟩:=y1
     have a4:=a4.mv i8
     have c3:=c3.mv i8
     have b2:=b2.mv i8
     have a3:=a3.mv i8
     refine AA (AD (vT #[vA j6.toArray,vI ((DL list threshold wait).2)]) rfl (AA (AL (vA j6.toArray) rfl rfl (AA (AL (vI ((DL list threshold wait).2)) rfl rfl (AA (CR [vI 0,vI 0,vI 0,nS,nS] IO rfl y0 fun i1 y2 y3 y4 i2 L5 t7=>(?_))))))))
     clear y3
     have a4:=a4.mv i2
     have c3:=c3.mv i2
     have b2:=b2.mv i2
     have a3:=a3.mv i2
     have j7:Enc.circle.rd y2 ((i1 :: [])++O) j6 ((DL list threshold wait).1):=Enc.mv Enc.circle (x:=(DL list threshold wait).1) j7 i2
     obtain ⟨d4,d5,rfl,d1,d2⟩:=j7
     have:=d1.len_le
     have:=d2.len_le
     refine BZ (BE (vs:=[vI (((DL list threshold wait).1).epoch),vI (((DL list threshold wait).1).threshold),vI (((DL list threshold wait).1).wait),d4,d5]) (.agg #[vI (((DL list threshold wait).1).epoch),vI (((DL list threshold wait).1).threshold),vI (((DL list threshold wait).1).wait),d4,d5]) rfl rfl rfl BJ (fun u hu=>by simp only [List.mem_cons,List.not_mem_nil,or_false] at hu;rcases hu with rfl|rfl|rfl|rfl|rfl <;> first|rfl|exact d1.oneCell|exact d2.oneCell) (by repeat (constructor)) t7 oT y4 fun y5 l8 h0 L6 g5=>(?_))
     have a4:=a4.mv h0
     have c3:=c3.mv h0
     have b2:=b2.mv h0
     have a3:=a3.mv h0
     have d1:=d1.mv h0
     have d2:=d2.mv h0
     refine AA (AE (vI ((DL list threshold wait).2)) rfl (AG (AC (AF (AF (AB kR (AA (AD (vI ((DL list threshold wait).2)) rfl (AA (DQ .i64 ((DL list threshold wait).2) (0:Int) rfl rfl (AG (AC (AJ (((DL list threshold wait).2) != (0:Int)) rfl rfl (fun j8=>?_) (fun j8=>?_))))))))))))))
     ·have F9:(DL list threshold wait).2≠(0:Int):=by simpa using j8
      refine AF (AB kR (AA (AD (vI ((DL list threshold wait).2)) rfl (AA (EZ .i64 ((DL list threshold wait).2) (450:Int) rfl rfl (AA (AE (vO (((DL list threshold wait).2) == (450:Int))) rfl (AG (AC (AM (AP (AZ rfl (CN rfl rfl rfl) (?_)))))))))))))
      have e:true=(((DL list threshold wait).2) == (450:Int)):=by exact (beq_iff_eq.2 (gnew_bad aS).1).symm
      exact ⟨_,rfl,l8.keep,(by exact congrArg vO e.symm)⟩
     have t8:(DL list threshold wait).2=(0:Int):=by simpa using j8
     have hnw:(DL list threshold wait).2=0:=t8
     refine AT (AC (AF (AB kR (AA (BI (vs:=[vI (((DL list threshold wait).1).epoch),vI (((DL list threshold wait).1).threshold),vI (((DL list threshold wait).1).wait),d4,d5]) U28_ rfl BJ rfl g5 rfl (AA (AD (secret_v) rfl (AA (AD (coins_v) rfl (AA (BF (vs:=[vA #[vI (((DL list threshold wait).1).epoch),vI (((DL list threshold wait).1).threshold),vI (((DL list threshold wait).1).wait),d4,d5],secret_v,coins_v]) SF (c_deal (O:=(i1 :: [])++O) [vI (((DL list threshold wait).1).epoch),vI (((DL list threshold wait).1).threshold),vI (((DL list threshold wait).1).wait),d4,d5] ((DL list threshold wait).1) secret_v secret coins_v coins y5 ⟨_,_,rfl,d1,d2⟩ a4 c3 l8.lt) rfl l8 fun L7 L8 q6 i3 y6 y7=>(?_))))))))))))
     obtain ⟨d7,rfl,f6⟩:=y7
     have:=f6.len_le
     have a4:=a4.mv i3
     have b2:=b2.mv i3
     have a3:=a3.mv i3
     have d1:=d1.mv i3
     have d2:=d2.mv i3
     have g5:=g5.keep y6 (by simp)
     refine AA (AD (vT #[d7,vI ((CU ((DL list threshold wait).1) secret coins).2)]) rfl (AA (AL (d7) rfl rfl (AA (AL (vI ((CU ((DL list threshold wait).1) secret coins).2)) rfl rfl (AA (AE (d7) rfl (AA (AE (vI ((CU ((DL list threshold wait).1) secret coins).2)) rfl (AG (AC (AF (AF (AB kR (AA (AD (vI ((CU ((DL list threshold wait).1) secret coins).2)) rfl (AA (DQ .i64 ((CU ((DL list threshold wait).1) secret coins).2) (0:Int) rfl rfl (AG (AC (AJ (((CU ((DL list threshold wait).1) secret coins).2) != (0:Int)) rfl rfl (fun j9=>?_) (fun j9=>?_))))))))))))))))))))))
     ·have G0:(CU ((DL list threshold wait).1) secret coins).2≠(0:Int):=by simpa using j9
      refine AF (AB kR (AA (AD (d7) rfl (AA (CK U32_ rfl f6 (AA (EZ .i64 (((CU ((DL list threshold wait).1) secret coins).1).length:Int) (0:Int) rfl rfl (AA (AE (vO ((((CU ((DL list threshold wait).1) secret coins).1).length:Int) == (0:Int))) rfl (AG (AC (AM (AP (AZ rfl (CN rfl rfl rfl) (?_)))))))))))))))
      have e:true=((((CU ((DL list threshold wait).1) secret coins).1).length:Int) == (0:Int)):=by (rw [deal_none aS];rfl)
      exact ⟨_,rfl,q6.keep,(by exact congrArg vO e.symm)⟩
     have t9:(CU ((DL list threshold wait).1) secret coins).2=(0:Int):=by simpa using j9
     have hdl:(CU (DL list threshold wait).1 secret coins).2=0:=t9
     refine AT (AC (AF (AB kR (AA (BI (vs:=[vI (((DL list threshold wait).1).epoch),vI (((DL list threshold wait).1).threshold),vI (((DL list threshold wait).1).wait),d4,d5]) U28_ rfl BJ rfl g5 rfl (AA (AD (d7) rfl (AA (DN (l:=[(0, .tmp 95),(1, .tmp 96)]) pl_39 z_39 rfl [(0,vA #[vI (((DL list threshold wait).1).epoch),vI (((DL list threshold wait).1).threshold),vI (((DL list threshold wait).1).wait),d4,d5],[vI (((DL list threshold wait).1).epoch),vI (((DL list threshold wait).1).threshold),vI (((DL list threshold wait).1).wait),d4,d5]),(1,d7,[d7])] [vI (((DL list threshold wait).1).epoch),vI (((DL list threshold wait).1).threshold),vI (((DL list threshold wait).1).wait),d4,d5,d7,nS,vO false,nS,nS,nS,nS] rfl ⟨_,rfl,rfl,oT,⟨_,rfl,(FB f6.oneCell),oT,rfl⟩⟩ (AA (RL (vA #[vI (((DL list threshold wait).1).epoch),vI (((DL list threshold wait).1).threshold),vI (((DL list threshold wait).1).wait),d4,d5,d7,nS,vO false,nS,nS,nS,nS]) [vI (((DL list threshold wait).1).epoch),vI (((DL list threshold wait).1).threshold),vI (((DL list threshold wait).1).wait),d4,d5,d7,nS,vO false,nS,nS,nS,nS] rfl rfl q6 fun a5 L9 y8 y9 h1 M0 u0=>(?_))))))))))))
     have G1:EY i1 a5:=by show i1≠a5;have:=g5.lt;omega
     clear y8
     have a4:=a4.mv h1
     have b2:=b2.mv h1
     have a3:=a3.mv h1
     have f6:=f6.mv h1
     have d1:=d1.mv h1
     have d2:=d2.mv h1
     refine AA (AE (vP (some ⟨a5,0,none⟩)) rfl (AG (AC (AF (AF (AB kR (AA (AD (moves_v) rfl (AA (CK U24_ rfl b2 (AA (AD (vI 0) rfl (AG (AC (BQ (DU (fun mI FI wI=>∃ (k:Nat) (s:MovR) (L:List Value) (b0:Value) (a9:Value) (b3:Value) (b1:Value) (b4:Value) (b6:Value) (c1:Value) (b5:Value) (B:List Nat),k≤moves.length∧InvM secret s∧Mk B wI L s.appr∧mI=moves.length - k∧(∃ F1,FI=GN F1 [(3,secret_v),(6,other_v),(7,vB pa),(8,vB pb),(23,vP (some ⟨a5,0,none⟩)),(99,moves_v),(100,vI (moves.length:Int)),(101,vI ((k:Nat):Int)),(371,undef)])∧St w O wI B∧DX Enc.bool 4 w.heap.size (B++O) wI b0 (s.vetoed)∧(∀ b,b0.ownBlock=some b→b∈B)∧DX Enc.bool 4 w.heap.size (B++O) wI a9 (s.done)∧(∀ b,a9.ownBlock=some b→b∈B)∧DX Enc.val 75 w.heap.size (B++O) wI b3 (L)∧(∀ b,b3.ownBlock=some b→b∈B)∧DX Enc.int 3 w.heap.size (B++O) wI b1 (s.asked)∧(∀ b,b1.ownBlock=some b→b∈B)∧BL Enc.int wI (B++O) b4 (s.c.guardians)∧BL Enc.recovery wI (B++O) b6 (s.c.recs)∧BL Enc.share wI (B++O) c1 (s.l)∧BL Enc.share wI (B++O) b5 (s.old)∧BL Enc.u8 wI (B++O) (secret_v) (secret)∧BL Enc.u8 wI (B++O) (other_v) (other)∧BL Enc.movt wI (B++O) (moves_v) (moves)∧FT wI a5 39 [vI s.c.epoch,vI s.c.threshold,vI s.c.wait,b4,b6,c1,b5,vO s.renewed,b3,b1,b0,a9]∧a5∈B∧(∀ b,b3.ownBlock=some b→b≠a5)∧(∀ b,b1.ownBlock=some b→b≠a5)∧(∀ b,b0.ownBlock=some b→b≠a5)∧(∀ b,a9.ownBlock=some b→b≠a5)∧(∀ b,b0.ownBlock=some b→a9.ownBlock≠some b)∧(∀ b,b0.ownBlock=some b→b3.ownBlock≠some b)∧(∀ b,b0.ownBlock=some b→b1.ownBlock≠some b)∧(∀ b,a9.ownBlock=some b→b0.ownBlock≠some b)∧(∀ b,a9.ownBlock=some b→b3.ownBlock≠some b)∧(∀ b,a9.ownBlock=some b→b1.ownBlock≠some b)∧(∀ b,b3.ownBlock=some b→b0.ownBlock≠some b)∧(∀ b,b3.ownBlock=some b→a9.ownBlock≠some b)∧(∀ b,b3.ownBlock=some b→b1.ownBlock≠some b)∧(∀ b,b1.ownBlock=some b→b0.ownBlock≠some b)∧(∀ b,b1.ownBlock=some b→a9.ownBlock≠some b)∧(∀ b,b1.ownBlock=some b→b3.ownBlock≠some b)) (moves.length - (0)) ?_ ?_))))))))))))))))
     ·exact ⟨(0),((⟨(DL list threshold wait).1,(CU (DL list threshold wait).1 secret coins).1,[],false,[],[],[],[]⟩:MovR)),([]),(.slice none 0 0),(.slice none 0 0),(.slice none 0 0),(.slice none 0 0),d4,d5,d7,(.slice none 0 0),(a5 :: (i1 :: [])),oM,(inv_new hnw hdl),Mk.nil,rfl,⟨_,BD _ ⟨rfl,rfl,rfl,rfl,rfl,rfl,rfl,(by rfl),rfl,trivial⟩⟩,y9,(DX.nil Enc.bool 4 _ _ _),(by intro b hb;simp [Value.ownBlock] at hb),(DX.nil Enc.bool 4 _ _ _),(by intro b hb;simp [Value.ownBlock] at hb),(DX.nil Enc.val 75 _ _ _),(by intro b hb;simp [Value.ownBlock] at hb),(DX.nil Enc.int 3 _ _ _),(by intro b hb;simp [Value.ownBlock] at hb),d1,d2,f6,(BL.nil _ _ _),a4,a3,b2,u0,(by (repeat (exact List.mem_cons_self))),(fun b hb=>by (simp [Value.ownBlock] at hb;done)),(fun b hb=>by (simp [Value.ownBlock] at hb;done)),(fun b hb=>by (simp [Value.ownBlock] at hb;done)),(fun b hb=>by (simp [Value.ownBlock] at hb;done)),(fun b hb=>by (simp [Value.ownBlock] at hb;done)),(fun b hb=>by (simp [Value.ownBlock] at hb;done)),(fun b hb=>by (simp [Value.ownBlock] at hb;done)),(fun b hb=>by (simp [Value.ownBlock] at hb;done)),(fun b hb=>by (simp [Value.ownBlock] at hb;done)),(fun b hb=>by (simp [Value.ownBlock] at hb;done)),(fun b hb=>by (simp [Value.ownBlock] at hb;done)),(fun b hb=>by (simp [Value.ownBlock] at hb;done)),(fun b hb=>by (simp [Value.ownBlock] at hb;done)),(fun b hb=>by (simp [Value.ownBlock] at hb;done)),(fun b hb=>by (simp [Value.ownBlock] at hb;done)),(fun b hb=>by (simp [Value.ownBlock] at hb;done))⟩
     intro O5 F G2 hI
     clear a4 a3 b2
     obtain ⟨k,s,L,b0,a9,b3,b1,b4,b6,c1,b5,o0,hr0_0,hr0_1,hr0_2,O6,⟨O7,rfl⟩,E2,ho0_b9341_10,c4,ho0_b9341_11,b9,ho0_b9341_8,f5,ho0_b9341_9,d3,a1,a6,a7,a2,a4,a3,b2,a0,d6,nb0_b9341_8_b9341,nb0_b9341_9_b9341,nb0_b9341_10_b9341,nb0_b9341_11_b9341,nn0_b9341_10_b9341_11,nn0_b9341_10_b9341_8,nn0_b9341_10_b9341_9,nn0_b9341_11_b9341_10,nn0_b9341_11_b9341_8,nn0_b9341_11_b9341_9,nn0_b9341_8_b9341_10,nn0_b9341_8_b9341_11,nn0_b9341_8_b9341_9,nn0_b9341_9_b9341_10,nn0_b9341_9_b9341_11,nn0_b9341_9_b9341_8⟩:=hI
     have:=a1.len_le
     have:=a6.len_le
     have:=a7.len_le
     have:=a2.len_le
     have hT:=hr0_2
     have hI:=hr0_1
     refine AF (AB kR (AA (EB .i64 ((k:Nat):Int) (moves.length:Int) rfl rfl (AG (AC (AF (AJ (decide (((k:Nat):Int)<(moves.length:Int))) rfl rfl (fun k0=>?_) (fun k0=>?_))))))))
     ·have G3:((k:Nat):Int)<(moves.length:Int):=by simpa using k0
      refine AT (AC (AF (BQ (AF (AB kR (AA (DO U24_ s_41 .i64 ((k:Nat):Int) k rfl rfl rfl b2 oM fun M1 u1=>(AA (CY U41_ rfl s_41 rfl u1 fun u2 k5=>(AA (CR [vB (0:UInt8),vI 0,vI 0,vI 0,nS,nS,vI 0] z_41 rfl E2 fun c7 z0 z1 z2 d0 h2 u3=>(?_))))))))))))
      have u4:EY a5 c7:=by show a5≠c7;have:=a0.lt;omega
      have u5:∀ b,b3.ownBlock=some b→b≠c7:=fun b hb=>by have:=(ho0_b9341_8.lt b hb).2;omega
      have u6:∀ b,b1.ownBlock=some b→b≠c7:=fun b hb=>by have:=(ho0_b9341_9.lt b hb).2;omega
      have u7:∀ b,b0.ownBlock=some b→b≠c7:=fun b hb=>by have:=(ho0_b9341_10.lt b hb).2;omega
      have u9:∀ b,a9.ownBlock=some b→b≠c7:=fun b hb=>by have:=(ho0_b9341_11.lt b hb).2;omega
      have f5:∀ b,b3.ownBlock=some b→b∈(c7 :: o0):=fun b hb=>List.mem_cons_of_mem _ (f5 b hb)
      have d3:∀ b,b1.ownBlock=some b→b∈(c7 :: o0):=fun b hb=>List.mem_cons_of_mem _ (d3 b hb)
      have c4:∀ b,b0.ownBlock=some b→b∈(c7 :: o0):=fun b hb=>List.mem_cons_of_mem _ (c4 b hb)
      have b9:∀ b,a9.ownBlock=some b→b∈(c7 :: o0):=fun b hb=>List.mem_cons_of_mem _ (b9 b hb)
      clear z1
      have a4:=a4.mv d0
      have a3:=a3.mv d0
      have b2:=b2.mv d0
      have k5:Enc.movt.rd z0 ((c7 :: o0)++O) u2 (moves[k]!):=Enc.mv Enc.movt (x:=moves[k]!) k5 d0
      have a1:=a1.mv d0
      have a6:=a6.mv d0
      have a7:=a7.mv d0
      have a2:=a2.mv d0
      have ho0_b9341_8:=ho0_b9341_8.mv d0 h2 (by simp)
      have ho0_b9341_9:=ho0_b9341_9.mv d0 h2 (by simp)
      have ho0_b9341_10:=ho0_b9341_10.mv d0 h2 (by simp)
      have ho0_b9341_11:=ho0_b9341_11.mv d0 h2 (by simp)
      have a0:=a0.keep h2 (by simp)
      have hT:=by exact hT.mv0 d0 h2 (fun x hx=>by exact List.mem_cons_of_mem _ hx)
      obtain ⟨h3,h4,rfl,f7,f8⟩:=k5
      have:=f7.len_le
      have:=f8.len_le
      refine BZ (BE (vs:=[vB ((moves[k]!).kind),vI ((moves[k]!).no),vI ((moves[k]!).guardian),vI ((moves[k]!).day),h3,h4,vI ((moves[k]!).threshold)]) (.agg #[vB ((moves[k]!).kind),vI ((moves[k]!).no),vI ((moves[k]!).guardian),vI ((moves[k]!).day),h3,h4,vI ((moves[k]!).threshold)]) rfl rfl rfl s_41 (fun u hu=>by simp only [List.mem_cons,List.not_mem_nil,or_false] at hu;rcases hu with rfl|rfl|rfl|rfl|rfl|rfl|rfl <;> first|rfl|exact f7.oneCell|exact f8.oneCell) (by repeat (constructor)) u3 oT z2 fun M2 l9 c8 h5 d8=>(?_))
      have a4:=a4.mv c8
      have a3:=a3.mv c8
      have b2:=b2.mv c8
      have f7:=f7.mv c8
      have f8:=f8.mv c8
      have a1:=a1.mv c8
      have a6:=a6.mv c8
      have a7:=a7.mv c8
      have a2:=a2.mv c8
      have ho0_b9341_8:=ho0_b9341_8.mv c8 h5 (fun b hb=>AS (u5 b hb))
      have ho0_b9341_9:=ho0_b9341_9.mv c8 h5 (fun b hb=>AS (u6 b hb))
      have ho0_b9341_10:=ho0_b9341_10.mv c8 h5 (fun b hb=>AS (u7 b hb))
      have ho0_b9341_11:=ho0_b9341_11.mv c8 h5 (fun b hb=>AS (u9 b hb))
      have a0:=a0.keep h5 (AS u4)
      have hT:=by exact hT.mvB c8 h5 aS (by decide) (fun x hx=>by exact hx)
      refine AG (AC (AF (AF (AB kR (AA (AH 5 f_41_5 rfl (AA (AK U22_ rfl (h4) rfl d8 rfl (AA (CK U22_ rfl f8 (AA (HN .i64 (((moves[k]!).guardians).length:Int) (10:Int) rfl rfl (AA (AD (vO (decide ((10:Int)<(((moves[k]!).guardians).length:Int)))) rfl (?_)))))))))))))))
      cases o1:(decide ((10:Int)<(((moves[k]!).guardians).length:Int)))
      ·have G4:(((moves[k]!).guardians).length:Int)≤(10:Int):=by simpa using o1
       refine AY rfl (AH 4 WH rfl (AY rfl (AK U23_ rfl (h3) rfl d8 rfl (AY rfl (CK U23_ rfl f7 (AY rfl (HN .i64 (((moves[k]!).coins).length:Int) (80:Int) rfl rfl (AA (BK (vO (decide ((80:Int)<(((moves[k]!).coins).length:Int)))) rfl rfl (AG (AC (AJ (decide ((80:Int)<(((moves[k]!).coins).length:Int))) rfl rfl (fun k6=>?_) (fun k6=>?_)))))))))))))
       ·have G5:(80:Int)<(((moves[k]!).coins).length:Int):=by simpa using k6
        refine AF (AB kR (AA (AE (vO true) rfl (AG (AC (AM (AP (CE (AP (AP (CE (AP (AZ rfl (CN rfl rfl rfl) (?_))))))))))))))
        exact ⟨_,rfl,l9.keep,rfl⟩
       have G6:(((moves[k]!).coins).length:Int)≤(80:Int):=by simpa using k6
       refine AT (AC (AF (AB kR (AA (AD (vP (some ⟨a5,0,none⟩)) rfl (AA (BI (vs:=[vB ((moves[k]!).kind),vI ((moves[k]!).no),vI ((moves[k]!).guardian),vI ((moves[k]!).day),h3,h4,vI ((moves[k]!).threshold)]) U41_ rfl s_41 rfl d8 rfl (AA (ES [vP (some ⟨a5,0,none⟩),vA #[vB ((moves[k]!).kind),vI ((moves[k]!).no),vI ((moves[k]!).guardian),vI ((moves[k]!).day),h3,h4,vI ((moves[k]!).threshold)]] LJ rfl (Calls.mono (c_do a5 b4 b6 c1 b5 L b3 b1 b0 a9 s [vB ((moves[k]!).kind),vI ((moves[k]!).no),vI ((moves[k]!).guardian),vI ((moves[k]!).day),h3,h4,vI ((moves[k]!).threshold)] (moves[k]!) l9 (MovS.mk a0 rC a1 a6 a7 a2 ho0_b9341_8 f5 ho0_b9341_9 d3 ho0_b9341_10 c4 ho0_b9341_11 b9 nn0_b9341_10_b9341_11 hT) ⟨_,_,rfl,f7,f8⟩ hI.g oM) (fun e_ M3 hR_=>?_)))))))))))
       obtain ⟨rfl,q7,v0,v1,v2,v3,z3,f9,g0,g6,g7,z4,m0,t6,v4,v5⟩:=hR_
       refine CZ ?_
       obtain ⟨g8,d6,k7,k8,k9,l0,e3,o2,e4,o3,f3,o4,f4,o5,o6,v6⟩:=v5
       have d8:=v4.box _ _ _ d8 (by decide)
       have E3:c7∈q7:=t6 c7 (by repeat (constructor))
       have a4:=a4.mv m0
       have a3:=a3.mv m0
       have b2:=b2.mv m0
       have G7:∀ b,f9.ownBlock=some b→b≠c7:=e3.neB d8 (by decide)
       have v7:∀ b,f9.ownBlock=some b→b≠a5:=e3.neB g8 (by decide)
       have o7:∀ b,f9.ownBlock=some b→g6.ownBlock≠some b:=e3.neT f3 (by decide)
       have G8:∀ b,g0.ownBlock=some b→b≠c7:=e4.neB d8 (by decide)
       have v8:∀ b,g0.ownBlock=some b→b≠a5:=e4.neB g8 (by decide)
       have o8:∀ b,g0.ownBlock=some b→f9.ownBlock≠some b:=e4.neT e3 (by decide)
       have o9:∀ b,g0.ownBlock=some b→g6.ownBlock≠some b:=e4.neT f3 (by decide)
       have p0:∀ b,g0.ownBlock=some b→g7.ownBlock≠some b:=e4.neT f4 (by decide)
       have G9:∀ b,g6.ownBlock=some b→b≠c7:=f3.neB d8 (by decide)
       have v9:∀ b,g6.ownBlock=some b→b≠a5:=f3.neB g8 (by decide)
       have H0:∀ b,g7.ownBlock=some b→b≠c7:=f4.neB d8 (by decide)
       have w0:∀ b,g7.ownBlock=some b→b≠a5:=f4.neB g8 (by decide)
       have p1:∀ b,g7.ownBlock=some b→f9.ownBlock≠some b:=f4.neT e3 (by decide)
       have hT:=v6
       have:=k7.len_le
       have:=k8.len_le
       have:=k9.len_le
       have:=l0.len_le
       refine AA (FF true rfl (AG (AC (AJ false rfl rfl (fun h=>by cases h) (fun _=>AT (CB (AC (AB kR (AA (DR .i64 ((k:Nat):Int) (1:Int) (((k+1:Nat):Int)) rfl rfl (GZ oM oM) (AA (AD (vI ((k+1:Nat):Int)) rfl (AG (AC (?_)))))))))))))))
       exact ⟨_,oM,(k+1),((NG s (moves[k]!))),(z3),g6,g7,f9,g0,v0,v1,v2,v3,q7,oM,(inv_do hI _),hT,rfl,⟨_,BD _ ⟨rfl,rfl,rfl,rfl,rfl,rfl,rfl,(by rfl),rfl,trivial⟩⟩,z4,f3,o4,f4,o5,e3,o2,e4,o3,k7,k8,k9,l0,a4,a3,b2,g8,aS,v7,v8,v9,w0,o6,(fun b hb e=>o7 b e hb),(fun b hb e=>o9 b e hb),(fun b hb e=>o6 b e hb),p1,(fun b hb e=>p0 b e hb),o7,(fun b hb e=>p1 b e hb),(fun b hb e=>o8 b e hb),o9,p0,o8⟩
      have H1:(10:Int)<(((moves[k]!).guardians).length:Int):=by simpa using o1
      refine AN rfl (AN rfl (AN rfl (AN rfl (AA (BH (vO true) rfl rfl (AG (AC (AJ true rfl rfl (fun _=>AF (AB kR (AA (AE (vO true) rfl (AG (AC (AM (AP (CE (AP (AP (CE (AP (AZ rfl (CN rfl rfl rfl) (?_))))))))))))))) (fun h=>by cases h)))))))))
      exact ⟨_,rfl,l9.keep,rfl⟩
     have H2:(moves.length:Int)≤((k:Nat):Int):=by simpa using k0
     obtain rfl:k=moves.length:=by omega
     obtain ⟨hlm1,hlm2,hlm3,hlm4⟩:=ZV hI.g
     refine DW (CL (CL (DK (AC (AF (?_))))))
     obtain ⟨i9,z5,e6,b7,i4⟩:=ho0_b9341_8.publish E2
     have d3:∀ b,b1.ownBlock=some b→b∈i9:=fun b hb=>i4 b (d3 b hb) (nn0_b9341_9_b9341_8 b hb)
     have c4:∀ b,b0.ownBlock=some b→b∈i9:=fun b hb=>i4 b (c4 b hb) (nn0_b9341_10_b9341_8 b hb)
     have b9:∀ b,a9.ownBlock=some b→b∈i9:=fun b hb=>i4 b (b9 b hb) (nn0_b9341_11_b9341_8 b hb)
     have d6:a5∈i9:=i4 a5 (by repeat (assumption)) (fun e=>absurd rfl (nb0_b9341_8_b9341 _ e))
     have E7:=b7.len_le
     have a4:=a4.mv e6
     have a3:=a3.mv e6
     have a1:=a1.mv e6
     have a6:=a6.mv e6
     have a7:=a7.mv e6
     have a2:=a2.mv e6
     have ho0_b9341_9:=ho0_b9341_9.mv e6 (Keep.refl [] _) (by simp)
     have ho0_b9341_10:=ho0_b9341_10.mv e6 (Keep.refl [] _) (by simp)
     have ho0_b9341_11:=ho0_b9341_11.mv e6 (Keep.refl [] _) (by simp)
     have a0:=a0.keep (Keep.refl [] _) (by simp)
     obtain ⟨m1,z6,e7,b8,l1⟩:=ho0_b9341_9.publish z5
     have c4:∀ b,b0.ownBlock=some b→b∈m1:=fun b hb=>l1 b (c4 b hb) (nn0_b9341_10_b9341_9 b hb)
     have b9:∀ b,a9.ownBlock=some b→b∈m1:=fun b hb=>l1 b (b9 b hb) (nn0_b9341_11_b9341_9 b hb)
     have d6:a5∈m1:=l1 a5 (by repeat (assumption)) (fun e=>absurd rfl (nb0_b9341_9_b9341 _ e))
     have E8:=b8.len_le
     have a4:=a4.mv e7
     have a3:=a3.mv e7
     have a1:=a1.mv e7
     have a6:=a6.mv e7
     have a7:=a7.mv e7
     have a2:=a2.mv e7
     have b7:=b7.mv e7
     have ho0_b9341_10:=ho0_b9341_10.mv e7 (Keep.refl [] _) (by simp)
     have ho0_b9341_11:=ho0_b9341_11.mv e7 (Keep.refl [] _) (by simp)
     have a0:=a0.keep (Keep.refl [] _) (by simp)
     obtain ⟨q8,z7,e8,c2,p2⟩:=ho0_b9341_10.publish z6
     have b9:∀ b,a9.ownBlock=some b→b∈q8:=fun b hb=>p2 b (b9 b hb) (nn0_b9341_11_b9341_10 b hb)
     have d6:a5∈q8:=p2 a5 (by repeat (assumption)) (fun e=>absurd rfl (nb0_b9341_10_b9341 _ e))
     have E9:=c2.len_le
     have a4:=a4.mv e8
     have a3:=a3.mv e8
     have a1:=a1.mv e8
     have a6:=a6.mv e8
     have a7:=a7.mv e8
     have a2:=a2.mv e8
     have b7:=b7.mv e8
     have b8:=b8.mv e8
     have ho0_b9341_11:=ho0_b9341_11.mv e8 (Keep.refl [] _) (by simp)
     have a0:=a0.keep (Keep.refl [] _) (by simp)
     obtain ⟨m2,q9,e9,c5,w1⟩:=ho0_b9341_11.publish z7
     have d6:a5∈m2:=w1 a5 (by repeat (assumption)) (fun e=>absurd rfl (nb0_b9341_11_b9341 _ e))
     have F2:=c5.len_le
     have a4:=a4.mv e9
     have a3:=a3.mv e9
     have a1:=a1.mv e9
     have a6:=a6.mv e9
     have a7:=a7.mv e9
     have a2:=a2.mv e9
     have b7:=b7.mv e9
     have b8:=b8.mv e9
     have c2:=c2.mv e9
     have a0:=a0.keep (Keep.refl [] _) (by simp)
     refine AB kR (AA (AD (vP (some ⟨a5,0,none⟩)) rfl (AA (AR ⟨a5,0,none⟩ rfl (AA (AH 5 ML rfl (AA (AK U32_ rfl (c1) rfl a0 rfl (AA (AD (vB pa) rfl (AA (BF (vs:=[c1,vB pa]) PM (PK (O:=m2++O) c1 s.l pa G2 a7 q9.lt) rfl q9 fun c0 M4 z8 e5 z9 A0=>(?_)))))))))))))
     obtain ⟨_,rfl,a8⟩:=A0
     have:=a8.len_le
     have a4:=a4.mv e5
     have a3:=a3.mv e5
     have a7:=a7.mv e5
     have a1:=a1.mv e5
     have a6:=a6.mv e5
     have a2:=a2.mv e5
     have b7:=b7.mv e5
     have b8:=b8.mv e5
     have c2:=c2.mv e5
     have c5:=c5.mv e5
     have a0:=a0.keep z9 (by simp)
     refine AA (AE (c0) rfl (AG (AC (AF (AF (AB kR (AA (AE (vI (-1:Int)) rfl (AG (AC (BQ (DU (fun mI FI wI=>∃ (q:Nat) (B:List Nat),q≤s.asked.length+2∧mI=s.asked.length+2 - q∧(∃ F1,FI=GN F1 [(3,secret_v),(6,other_v),(7,vB pa),(8,vB pb),(23,vP (some ⟨a5,0,none⟩)),(26,c0),(27,vI (((q:Nat):Int) - 1)),(371,undef)])∧St w O wI B∧BL Enc.u8 wI (B++O) (secret_v) (secret)∧BL Enc.u8 wI (B++O) (other_v) (other)∧BL Enc.share wI (B++O) (c0) (AI s.l pa s.l.length)∧BL Enc.int wI (B++O) (b4) (s.c.guardians)∧BL Enc.recovery wI (B++O) (b6) (s.c.recs)∧BL Enc.share wI (B++O) (c1) (s.l)∧BL Enc.share wI (B++O) (b5) (s.old)∧BL Enc.val wI (B++O) (b3) (L)∧BL Enc.int wI (B++O) (b1) (s.asked)∧BL Enc.bool wI (B++O) (b0) (s.vetoed)∧BL Enc.bool wI (B++O) (a9) (s.done)∧FT wI a5 39 [vI s.c.epoch,vI s.c.threshold,vI s.c.wait,b4,b6,c1,b5,vO s.renewed,b3,b1,b0,a9]∧a5∈B) (s.asked.length+2 - (0)) ?_ ?_))))))))))))
     ·exact ⟨(0),m2,oM,rfl,⟨_,BD _ ⟨rfl,rfl,rfl,rfl,rfl,rfl,(by rfl),rfl,trivial⟩⟩,z8,a4,a3,a8,a1,a6,a7,a2,b7,b8,c2,c5,a0,aS⟩
     intro O8 F E4 hI
     clear a4 a3 a8 a1 a6 a7 a2 b7 b8 c2 c5 a0
     obtain ⟨q,c9,hr1_0,E5,⟨O9,rfl⟩,l2,a4,a3,a8,a1,a6,a7,a2,b7,b8,c2,c5,a0,d6⟩:=hI
     refine AF (AF (AB kR (AA (AD (vI (((q:Nat):Int) - 1)) rfl (AA (AD (vP (some ⟨a5,0,none⟩)) rfl (AA (AR ⟨a5,0,none⟩ rfl (AA (AH 9 OD rfl (AA (AK U22_ rfl (b1) rfl a0 rfl (AA (CK U22_ rfl b8 (AA (o_leq .i64 (((q:Nat):Int) - 1) (s.asked.length:Int) rfl rfl (AG (AC (AJ (decide (((q:Nat):Int) - 1≤(s.asked.length:Int))) rfl rfl (fun l3=>?_) (fun l3=>?_))))))))))))))))))))
     ·have H3:((q:Nat):Int) - 1≤(s.asked.length:Int):=by simpa using l3
      refine AT (AC (AF (BQ (AF (AB kR (AA (AD (vP (some ⟨a5,0,none⟩)) rfl (AA (AR ⟨a5,0,none⟩ rfl (AA (AH 0 ED rfl (AA (BI (vs:=[vI s.c.epoch,vI s.c.threshold,vI s.c.wait,b4,b6]) U28_ rfl BJ rfl a0 rfl (AA (AD (vI (((q:Nat):Int) - 1)) rfl (AA (AD (c0) rfl (AA (BF (vs:=[vA #[vI s.c.epoch,vI s.c.threshold,vI s.c.wait,b4,b6],vI (((q:Nat):Int) - 1),c0]) PV (WY (O:=c9++O) [vI s.c.epoch,vI s.c.threshold,vI s.c.wait,b4,b6] s.c (((q:Nat):Int) - 1) c0 (AI s.l pa s.l.length) E4 ⟨_,_,rfl,a1,a6⟩ a8 l2.lt) rfl l2 fun M5 m3 r0 d9 A1 A2=>(?_))))))))))))))))))))
      obtain ⟨h6,rfl,l4⟩:=A2
      have:=l4.len_le
      have a4:=a4.mv d9
      have a3:=a3.mv d9
      have a8:=a8.mv d9
      have b8:=b8.mv d9
      have a1:=a1.mv d9
      have a6:=a6.mv d9
      have a7:=a7.mv d9
      have a2:=a2.mv d9
      have b7:=b7.mv d9
      have c2:=c2.mv d9
      have c5:=c5.mv d9
      have a0:=a0.keep A1 (by simp)
      refine AA (AD (vT #[h6,vI ((BX s.c (((q:Nat):Int) - 1) (AI s.l pa s.l.length)).2)]) rfl (AA (AL (h6) rfl rfl (AA (AL (vI ((BX s.c (((q:Nat):Int) - 1) (AI s.l pa s.l.length)).2)) rfl rfl (AA (AE (h6) rfl (AA (AE (vI ((BX s.c (((q:Nat):Int) - 1) (AI s.l pa s.l.length)).2)) rfl (AG (AC (OH (fun FI wI=>True∧(∃ F1,FI=GN F1 [(3,secret_v),(6,other_v),(7,vB pa),(8,vB pb),(23,vP (some ⟨a5,0,none⟩)),(26,c0),(27,vI (((q:Nat):Int) - 1)),(28,h6),(29,vI ((BX s.c (((q:Nat):Int) - 1) (AI s.l pa s.l.length)).2)),(30,vO (((BX s.c (((q:Nat):Int) - 1) (AI s.l pa s.l.length)).2) == (0:Int))),(371,undef)])∧m3=wI) ?_ ?_))))))))))))
      ·refine AB kR (AA (AD (vI (((q:Nat):Int) - 1)) rfl (AA (ID .i64 (((q:Nat):Int) - 1) (0:Int) rfl rfl (AA (AD (vO (decide ((0:Int)≤((q:Nat):Int) - 1))) rfl (?_)))))))
       cases p3:(decide ((0:Int)≤((q:Nat):Int) - 1))
       ·have H4:((q:Nat):Int) - 1<(0:Int):=by (have e:=p3;simp at e;omega)
        refine AN rfl (AN rfl (AN rfl (AN rfl (AN rfl (AN rfl (AN rfl (AA (BK (vO false) rfl rfl (AA (AD (vO false) rfl (AN rfl (AN rfl (AN rfl (AN rfl (AN rfl (AN rfl (AN rfl (AA (BK (vO false) rfl rfl (AA (AD (vO false) rfl (AN rfl (AN rfl (AN rfl (AN rfl (AN rfl (AN rfl (AN rfl (AN rfl (AA (BK (vO false) rfl rfl (AA (AE (vO false) rfl (AG (AC (?_))))))))))))))))))))))))))))))))))))
        exact ⟨trivial,⟨_,BD _ ⟨rfl,rfl,rfl,rfl,rfl,rfl,rfl,rfl,rfl,(congrArg vO (by exact (can_1 hI _ pa (by rintro ⟨h1_,h2_,h3_,h4_⟩;omega)).1.symm)),rfl,trivial⟩⟩,rfl⟩
       have H5:(0:Int)≤((q:Nat):Int) - 1:=by simpa using p3
       refine AY rfl (AD (vI (((q:Nat):Int) - 1)) rfl (AY rfl (AD (vP (some ⟨a5,0,none⟩)) rfl (AY rfl (AR ⟨a5,0,none⟩ rfl (AY rfl (AH 9 OD rfl (AY rfl (AK U22_ rfl (b1) rfl a0 rfl (AY rfl (CK U22_ rfl b8 (AY rfl (EB .i64 (((q:Nat):Int) - 1) (s.asked.length:Int) rfl rfl (AA (BH (vO (decide (((q:Nat):Int) - 1<(s.asked.length:Int)))) rfl rfl (AA (AD (vO (decide (((q:Nat):Int) - 1<(s.asked.length:Int)))) rfl (?_))))))))))))))))))
       cases p4:(decide (((q:Nat):Int) - 1<(s.asked.length:Int)))
       ·have H6:(s.asked.length:Int)≤((q:Nat):Int) - 1:=by simpa using p4
        refine AN rfl (AN rfl (AN rfl (AN rfl (AN rfl (AN rfl (AN rfl (AA (BK (vO false) rfl rfl (AA (AD (vO false) rfl (AN rfl (AN rfl (AN rfl (AN rfl (AN rfl (AN rfl (AN rfl (AN rfl (AA (BK (vO false) rfl rfl (AA (AE (vO false) rfl (AG (AC (?_)))))))))))))))))))))))))
        exact ⟨trivial,⟨_,BD _ ⟨rfl,rfl,rfl,rfl,rfl,rfl,rfl,rfl,rfl,(congrArg vO (by exact (can_1 hI _ pa (by rintro ⟨h1_,h2_,h3_,h4_⟩;omega)).1.symm)),rfl,trivial⟩⟩,rfl⟩
       have H7:((q:Nat):Int) - 1<(s.asked.length:Int):=by simpa using p4
       refine AY rfl (AD (vP (some ⟨a5,0,none⟩)) rfl (AY rfl (AR ⟨a5,0,none⟩ rfl (AY rfl (AH 11 NL rfl (AY rfl (AK U37_ rfl (a9) rfl a0 rfl (AY rfl (AD (vI (((q:Nat):Int) - 1)) rfl (AY rfl (DO U37_ s_4 .i64 (((q:Nat):Int) - 1) ((((q:Nat):Int) - 1).toNat) rfl rfl oM c5 oM fun M6 w2=>(AY rfl (OP U4_ rfl rfl w2 (AA (BH (vO (s.done[(((q:Nat):Int) - 1).toNat]!)) rfl rfl (AA (AD (vO (s.done[(((q:Nat):Int) - 1).toNat]!)) rfl (?_))))))))))))))))))
       cases p5:(s.done[(((q:Nat):Int) - 1).toNat]!)
       ·have H8:(s.done[(((q:Nat):Int) - 1).toNat]!)=false:=by simpa using p5
        refine AN rfl (AN rfl (AN rfl (AN rfl (AN rfl (AN rfl (AN rfl (AN rfl (AA (BK (vO false) rfl rfl (AA (AE (vO false) rfl (AG (AC (?_))))))))))))))
        exact ⟨trivial,⟨_,BD _ ⟨rfl,rfl,rfl,rfl,rfl,rfl,rfl,rfl,rfl,(congrArg vO (by exact (can_1 hI _ pa (by rintro ⟨h1_,h2_,h3_,h4_⟩;simp_all)).1.symm)),rfl,trivial⟩⟩,rfl⟩
       have H9:(s.done[(((q:Nat):Int) - 1).toNat]!)=true:=by simpa using p5
       refine AY rfl (AD (c0) rfl (AY rfl (CK U32_ rfl a8 (AY rfl (AD (vP (some ⟨a5,0,none⟩)) rfl (AY rfl (AR ⟨a5,0,none⟩ rfl (AY rfl (AH 0 ED rfl (AY rfl (AH 1 KK rfl (AY rfl (AK U3_ rfl (vI s.c.threshold) rfl a0 rfl (AY rfl (ID .i64 ((AI s.l pa s.l.length).length:Int) s.c.threshold rfl rfl (AA (BH (vO (decide (s.c.threshold≤((AI s.l pa s.l.length).length:Int)))) rfl rfl (AA (AE (vO (decide (s.c.threshold≤((AI s.l pa s.l.length).length:Int)))) rfl (AG (AC (?_))))))))))))))))))))))
       exact ⟨trivial,⟨_,BD _ ⟨rfl,rfl,rfl,rfl,rfl,rfl,rfl,rfl,rfl,(congrArg vO (by exact (can_2 hI _ pa oM oM aS).symm)),rfl,trivial⟩⟩,rfl⟩
      rintro F I0 ⟨I1,⟨I2,rfl⟩,rfl⟩
      refine OH (fun FI wI=>True∧(∃ F1,FI=GN F1 [(3,secret_v),(6,other_v),(7,vB pa),(8,vB pb),(23,vP (some ⟨a5,0,none⟩)),(26,c0),(27,vI (((q:Nat):Int) - 1)),(371,undef)])∧m3=wI) ?_ ?_
      ·refine AF (AB kR (AA (AD (vO (((BX s.c (((q:Nat):Int) - 1) (AI s.l pa s.l.length)).2) == (0:Int))) rfl (AA (AD (vI ((BX s.c (((q:Nat):Int) - 1) (AI s.l pa s.l.length)).2)) rfl (AA (EZ .i64 ((BX s.c (((q:Nat):Int) - 1) (AI s.l pa s.l.length)).2) (0:Int) rfl rfl (AA (o_neqB (((BX s.c (((q:Nat):Int) - 1) (AI s.l pa s.l.length)).2) == (0:Int)) (((BX s.c (((q:Nat):Int) - 1) (AI s.l pa s.l.length)).2) == (0:Int)) U4_ rfl rfl (AA (AD (vO ((((BX s.c (((q:Nat):Int) - 1) (AI s.l pa s.l.length)).2) == (0:Int)) != (((BX s.c (((q:Nat):Int) - 1) (AI s.l pa s.l.length)).2) == (0:Int)))) rfl (?_))))))))))))
       have w3:((((BX s.c (((q:Nat):Int) - 1) (AI s.l pa s.l.length)).2) == (0:Int)) != (((BX s.c (((q:Nat):Int) - 1) (AI s.l pa s.l.length)).2) == (0:Int)))=false:=(bne_self_eq_false _)
       rw [w3]
       refine AY rfl (AD (vO (((BX s.c (((q:Nat):Int) - 1) (AI s.l pa s.l.length)).2) == (0:Int))) rfl (AY rfl (AD (vO (((BX s.c (((q:Nat):Int) - 1) (AI s.l pa s.l.length)).2) == (0:Int))) rfl (?_))))
       cases p6:(((BX s.c (((q:Nat):Int) - 1) (AI s.l pa s.l.length)).2) == (0:Int))
       ·have I3:(((BX s.c (((q:Nat):Int) - 1) (AI s.l pa s.l.length)).2) == (0:Int))=false:=by simpa using p6
        refine AN rfl (AN rfl (AN rfl (AN rfl (AN rfl (AY rfl (BK (vO false) rfl rfl (AA (BK (vO false) rfl rfl (AA (AD (vO false) rfl (AY rfl (AD (vO false) rfl (AY rfl (FF false rfl (AY rfl (AD (vO true) rfl (AY rfl (AD (h6) rfl (AY rfl (CK U23_ rfl l4 (AY rfl (HN .i64 (((BX s.c (((q:Nat):Int) - 1) (AI s.l pa s.l.length)).1).length:Int) (0:Int) rfl rfl (AY rfl (BH (vO (decide ((0:Int)<(((BX s.c (((q:Nat):Int) - 1) (AI s.l pa s.l.length)).1).length:Int)))) rfl rfl (AA (BK (vO (decide ((0:Int)<(((BX s.c (((q:Nat):Int) - 1) (AI s.l pa s.l.length)).1).length:Int)))) rfl rfl (AG (AC (?_)))))))))))))))))))))))))))))
        have w4:(decide ((0:Int)<(((BX s.c (((q:Nat):Int) - 1) (AI s.l pa s.l.length)).1).length:Int)))=false:=(by rw [can_n hI aS];rfl)
        rw [w4]
        refine AJ false rfl rfl (fun h=>by cases h) (fun _=>AT (AC (?_)))
        exact ⟨trivial,⟨_,BD _ ⟨rfl,rfl,rfl,rfl,rfl,rfl,rfl,rfl,trivial⟩⟩,rfl⟩
       have I4:(((BX s.c (((q:Nat):Int) - 1) (AI s.l pa s.l.length)).2) == (0:Int))=true:=by simpa using p6
       refine AY rfl (AD (h6) rfl (AY rfl (SV U23_ U5_ U9_ rfl l4 (AY rfl (AD (secret_v) rfl (AY rfl (SV U23_ U5_ U9_ rfl a4 (AY rfl (o_neqS ((BX s.c (((q:Nat):Int) - 1) (AI s.l pa s.l.length)).1) secret rfl rfl (AY rfl (BH (vO (((BX s.c (((q:Nat):Int) - 1) (AI s.l pa s.l.length)).1) != secret)) rfl rfl (AA (BK (vO (((BX s.c (((q:Nat):Int) - 1) (AI s.l pa s.l.length)).1) != secret)) rfl rfl (AA (AD (vO (((BX s.c (((q:Nat):Int) - 1) (AI s.l pa s.l.length)).1) != secret)) rfl (?_))))))))))))))))
       have w5:(((BX s.c (((q:Nat):Int) - 1) (AI s.l pa s.l.length)).1) != secret)=false:=(by rw [can_y hI aS];exact bne_self_eq_false _)
       rw [w5]
       refine AY rfl (AD (vO true) rfl (AY rfl (FF true rfl (AY rfl (AD (vO false) rfl (AN rfl (AN rfl (AN rfl (AY rfl (BK (vO false) rfl rfl (AA (BK (vO false) rfl rfl (AG (AC (AJ false rfl rfl (fun h=>by cases h) (fun _=>AT (AC (?_))))))))))))))))))
       exact ⟨trivial,⟨_,BD _ ⟨rfl,rfl,rfl,rfl,rfl,rfl,rfl,rfl,trivial⟩⟩,rfl⟩
      rintro F I5 ⟨I6,⟨I7,rfl⟩,rfl⟩
      refine AF (AB kR (AA (AD (vP (some ⟨a5,0,none⟩)) rfl (AA (AR ⟨a5,0,none⟩ rfl (AA (AH 6 UA rfl (AA (AK U32_ rfl (b5) rfl a0 rfl (AA (CK U32_ rfl a2 (AA (HN .i64 (s.old.length:Int) (0:Int) rfl rfl (AG (AC (AJ (decide ((0:Int)<(s.old.length:Int))) rfl rfl (fun l5=>?_) (fun l5=>?_)))))))))))))))))
      ·have I8:(0:Int)<(s.old.length:Int):=by simpa using l5
       refine AF (DP 9 _ _ kR kR kR kR kR rfl rfl fun r4 m4=>?_)
       have r5:=r0.call m4
       have e0:Mv c9 m3 c9 r4:=Mv.of_keep m4
       have a4:=a4.mv e0
       have a3:=a3.mv e0
       have a8:=a8.mv e0
       have a2:=a2.mv e0
       have a1:=a1.mv e0
       have a6:=a6.mv e0
       have a7:=a7.mv e0
       have b7:=b7.mv e0
       have b8:=b8.mv e0
       have c2:=c2.mv e0
       have c5:=c5.mv e0
       have a0:=a0.keep m4 (by simp)
       refine BG (AD (vP (some ⟨a5,0,none⟩)) rfl (BG (AR ⟨a5,0,none⟩ rfl (BG (AH 0 ED rfl (BG (BI (vs:=[vI s.c.epoch,vI s.c.threshold,vI s.c.wait,b4,b6]) U28_ rfl BJ rfl a0 rfl (BG (AD (vI (((q:Nat):Int) - 1)) rfl (BG (AD (vP (some ⟨a5,0,none⟩)) rfl (BG (AR ⟨a5,0,none⟩ rfl (BG (AH 6 UA rfl (BG (AK U32_ rfl (b5) rfl a0 rfl (EQ (AA (BF (vs:=[vA #[vI s.c.epoch,vI s.c.threshold,vI s.c.wait,b4,b6],vI (((q:Nat):Int) - 1),b5]) PV (WY (O:=c9++O) [vI s.c.epoch,vI s.c.threshold,vI s.c.wait,b4,b6] s.c (((q:Nat):Int) - 1) b5 s.old r4 ⟨_,_,rfl,a1,a6⟩ a2 r5.lt) rfl r5 fun M7 M8 A3 e1 A4 A5=>(?_)))))))))))))))))))))
       obtain ⟨m5,rfl,w6⟩:=A5
       have:=w6.len_le
       have a4:=a4.mv e1
       have a3:=a3.mv e1
       have a8:=a8.mv e1
       have a2:=a2.mv e1
       have a1:=a1.mv e1
       have a6:=a6.mv e1
       have a7:=a7.mv e1
       have b7:=b7.mv e1
       have b8:=b8.mv e1
       have c2:=c2.mv e1
       have c5:=c5.mv e1
       have a0:=a0.keep A4 (by simp)
       refine AA (AD (vT #[m5,vI ((BX s.c (((q:Nat):Int) - 1) s.old).2)]) rfl (AA (AL (m5) rfl rfl (AA (AL (vI ((BX s.c (((q:Nat):Int) - 1) s.old).2)) rfl rfl (AA (AE (m5) rfl (AA (AE (vI ((BX s.c (((q:Nat):Int) - 1) s.old).2)) rfl (AG (AC (AF (AB kR (AA (AD (vI ((BX s.c (((q:Nat):Int) - 1) s.old).2)) rfl (AA (EZ .i64 ((BX s.c (((q:Nat):Int) - 1) s.old).2) (0:Int) rfl rfl (AG (AC (?_))))))))))))))))))))
       have w7:(((BX s.c (((q:Nat):Int) - 1) s.old).2) == (0:Int))=false:=(beq_false_of_ne (rest_old hI.h oM _))
       rw [w7]
       refine AJ false rfl rfl (fun h=>by cases h) (fun _=>AT (CB (AC (AB kR (AA (AD (vI (((q:Nat):Int) - 1)) rfl (AA (DR .i64 (((q:Nat):Int) - 1) (1:Int) (((q:Nat):Int)) rfl rfl (GZ oM oM) (AA (AE (vI ((q:Nat):Int)) rfl (AG (AC (?_)))))))))))))
       exact ⟨_,oM,(q+1),c9,oM,rfl,⟨_,BD _ ⟨rfl,rfl,rfl,rfl,rfl,rfl,(by exact congrArg (Value.int _) oM),rfl,trivial⟩⟩,A3,a4,a3,a8,a1,a6,a7,a2,b7,b8,c2,c5,a0,aS⟩
      have I9:(s.old.length:Int)≤(0:Int):=by simpa using l5
      refine AT (CB (AC (AB kR (AA (AD (vI (((q:Nat):Int) - 1)) rfl (AA (DR .i64 (((q:Nat):Int) - 1) (1:Int) (((q:Nat):Int)) rfl rfl (GZ oM oM) (AA (AE (vI ((q:Nat):Int)) rfl (AG (AC (?_))))))))))))
      exact ⟨_,oM,(q+1),c9,oM,rfl,⟨_,BD _ ⟨rfl,rfl,rfl,rfl,rfl,rfl,(by exact congrArg (Value.int _) oM),rfl,trivial⟩⟩,r0,a4,a3,a8,a1,a6,a7,a2,b7,b8,c2,c5,a0,aS⟩
     have J0:(s.asked.length:Int)<((q:Nat):Int) - 1:=by simpa using l3
     refine DW (CL (CL (DK (AC (AF (AF (AB kR (AA (AD (c0) rfl (AA (CK U32_ rfl a8 (AA (EZ .i64 ((AI s.l pa s.l.length).length:Int) (0:Int) rfl rfl (AA (AD (vO (((AI s.l pa s.l.length).length:Int) == (0:Int))) rfl (?_))))))))))))))))
     cases p7:(((AI s.l pa s.l.length).length:Int) == (0:Int))
     ·have J1:((AI s.l pa s.l.length).length:Int)≠(0:Int):=by simpa using p7
      refine AY rfl (AD (c0) rfl (AY rfl (CK U32_ rfl a8 (AY rfl (AD (vP (some ⟨a5,0,none⟩)) rfl (AY rfl (AR ⟨a5,0,none⟩ rfl (AY rfl (AH 0 ED rfl (AY rfl (AH 1 KK rfl (AY rfl (AK U3_ rfl (vI s.c.threshold) rfl a0 rfl (AY rfl (ID .i64 ((AI s.l pa s.l.length).length:Int) s.c.threshold rfl rfl (AA (BK (vO (decide (s.c.threshold≤((AI s.l pa s.l.length).length:Int)))) rfl rfl (AG (AC (AJ (decide (s.c.threshold≤((AI s.l pa s.l.length).length:Int))) rfl rfl (fun l6=>?_) (fun l6=>?_)))))))))))))))))))))
      ·have J2:s.c.threshold≤((AI s.l pa s.l.length).length:Int):=by simpa using l6
       refine AF (AB kR (AA (AE (vO true) rfl (AG (AC (AM (AP (AZ rfl (CN rfl rfl rfl) (?_)))))))))
       exact ⟨_,rfl,l2.keep,rfl⟩
      have J3:((AI s.l pa s.l.length).length:Int)<s.c.threshold:=by simpa using l6
      refine AT (AC (AF (AB kR (AA (AD (c0) rfl (AA (AD (other_v) rfl (AA (BF (vs:=[c0,other_v]) XT (UL (O:=c9++O) c0 (AI s.l pa s.l.length) other_v other E4 a8 a3 l2.lt) rfl l2 fun M9 A6 A7 j0 A8 A9=>(?_))))))))))
      obtain ⟨h7,rfl,w8,g1⟩:=A9
      have g1:=g1.rd (O':=c9++O) (fun x hx=>.inl (List.mem_append_right _ hx)) (fun c hc hx=>by have:=w8 c hc;have:=l2.lt c hx;omega)
      have:=g1.len_le
      have a3:=a3.mv j0
      have a8:=a8.mv j0
      have a1:=a1.mv j0
      have a2:=a2.mv j0
      have a0:=a0.keep A8 (by simp)
      refine AA (AD (vT #[h7,vI ((AQ (AI s.l pa s.l.length) other).2)]) rfl (AA (AL (h7) rfl rfl (AA (AL (vI ((AQ (AI s.l pa s.l.length) other).2)) rfl rfl (AA (AE (h7) rfl (AA (AE (vI ((AQ (AI s.l pa s.l.length) other).2)) rfl (AG (AC (AF (DP 18 _ _ kR kR kR kR kR rfl rfl fun r6 m6=>?_)))))))))))))
      have r7:=A7.call m6
      have i5:Mv c9 A6 c9 r6:=Mv.of_keep m6
      have a3:=a3.mv i5
      have a8:=a8.mv i5
      have g1:=g1.mv i5
      have a1:=a1.mv i5
      have a2:=a2.mv i5
      have a0:=a0.keep m6 (by simp)
      refine BG (AD (other_v) rfl (BG (AD (vP (some ⟨a5,0,none⟩)) rfl (BG (AR ⟨a5,0,none⟩ rfl (BG (AH 0 ED rfl (BG (AH 0 MF rfl (BG (AK U3_ rfl (vI s.c.epoch) rfl a0 rfl (BG (AD (vP (some ⟨a5,0,none⟩)) rfl (BG (AR ⟨a5,0,none⟩ rfl (BG (AH 0 ED rfl (BG (AH 1 KK rfl (BG (AK U3_ rfl (vI s.c.threshold) rfl a0 rfl (BG (AD (vP (some ⟨a5,0,none⟩)) rfl (BG (AR ⟨a5,0,none⟩ rfl (BG (AH 0 ED rfl (BG (AH 3 LK rfl (BG (AK U22_ rfl (b4) rfl a0 rfl (BG (CK U22_ rfl a1 (BG (AD (h7) rfl (EQ (AA (BF (vs:=[other_v,vI s.c.epoch,vI s.c.threshold,vI (s.c.guardians.length:Int),h7]) QC (TD (O:=c9++O) other_v other s.c.epoch s.c.threshold (s.c.guardians.length:Int) h7 ((AQ (AI s.l pa s.l.length) other).1) r6 a3 g1 r7.lt) rfl r7 fun N0 B0 r8 j1 B1 B2=>(?_)))))))))))))))))))))))))))))))))))))))
      obtain ⟨h8,rfl,p8⟩:=B2
      have:=p8.len_le
      have a3:=a3.mv j1
      have a8:=a8.mv j1
      have a1:=a1.mv j1
      have a2:=a2.mv j1
      have a0:=a0.keep B1 (by simp)
      refine AA (AD (vT #[h8,vI ((BB other s.c.epoch s.c.threshold (s.c.guardians.length:Int) ((AQ (AI s.l pa s.l.length) other).1)).2)]) rfl (AA (AL (h8) rfl rfl (AA (AL (vI ((BB other s.c.epoch s.c.threshold (s.c.guardians.length:Int) ((AQ (AI s.l pa s.l.length) other).1)).2)) rfl rfl (AA (AE (h8) rfl (AA (AE (vI ((BB other s.c.epoch s.c.threshold (s.c.guardians.length:Int) ((AQ (AI s.l pa s.l.length) other).1)).2)) rfl (AG (AC (AF (AF (AB kR (AA (AD (vI ((AQ (AI s.l pa s.l.length) other).2)) rfl (AA (DQ .i64 ((AQ (AI s.l pa s.l.length) other).2) (0:Int) rfl rfl (AA (AD (vO (((AQ (AI s.l pa s.l.length) other).2) != (0:Int))) rfl (?_)))))))))))))))))))))
      have w9:(((AQ (AI s.l pa s.l.length) other).2) != (0:Int))=false:=(by rw [(PZ hI.h oM oM oM).1];rfl)
      rw [w9]
      refine AY rfl (AD (vI ((BB other s.c.epoch s.c.threshold (s.c.guardians.length:Int) ((AQ (AI s.l pa s.l.length) other).1)).2)) rfl (AY rfl (DQ .i64 ((BB other s.c.epoch s.c.threshold (s.c.guardians.length:Int) ((AQ (AI s.l pa s.l.length) other).1)).2) (0:Int) rfl rfl (AA (BK (vO (((BB other s.c.epoch s.c.threshold (s.c.guardians.length:Int) ((AQ (AI s.l pa s.l.length) other).1)).2) != (0:Int))) rfl rfl (AA (AD (vO (((BB other s.c.epoch s.c.threshold (s.c.guardians.length:Int) ((AQ (AI s.l pa s.l.length) other).1)).2) != (0:Int))) rfl (?_))))))))
      have x0:(((BB other s.c.epoch s.c.threshold (s.c.guardians.length:Int) ((AQ (AI s.l pa s.l.length) other).1)).2) != (0:Int))=false:=(by rw [(PZ hI.h oM oM oM).2.1];rfl)
      rw [x0]
      refine AY rfl (AD (h8) rfl (AY rfl (AD (vB pa) rfl (AY rfl (BF (vs:=[h8,vB pa]) PM (PK (O:=c9++O) h8 ((BB other s.c.epoch s.c.threshold (s.c.guardians.length:Int) ((AQ (AI s.l pa s.l.length) other).1)).1) pa B0 p8 r8.lt) rfl r8 fun r9 B3 s1 j2 B4 B5=>(?_))))))
      obtain ⟨_,rfl,p9⟩:=B5
      have:=p9.len_le
      have a3:=a3.mv j2
      have a8:=a8.mv j2
      have a1:=a1.mv j2
      have a2:=a2.mv j2
      have a0:=a0.keep B4 (by simp)
      refine AY rfl (AD (c0) rfl (AY rfl (BF (vs:=[r9,c0]) XH (c_same8 (O:=c9++O) r9 (AI ((BB other s.c.epoch s.c.threshold (s.c.guardians.length:Int) ((AQ (AI s.l pa s.l.length) other).1)).1) pa ((BB other s.c.epoch s.c.threshold (s.c.guardians.length:Int) ((AQ (AI s.l pa s.l.length) other).1)).1).length) c0 (AI s.l pa s.l.length) B3 p9 a8 s1.lt) rfl s1 fun N1 B6 s2 j3 B7 B8=>(?_))))
      obtain rfl:=B8
      have a3:=a3.mv j3
      have a8:=a8.mv j3
      have a1:=a1.mv j3
      have a2:=a2.mv j3
      have a0:=a0.keep B7 (by simp)
      refine AY rfl (FF (JO (AI ((BB other s.c.epoch s.c.threshold (s.c.guardians.length:Int) ((AQ (AI s.l pa s.l.length) other).1)).1) pa ((BB other s.c.epoch s.c.threshold (s.c.guardians.length:Int) ((AQ (AI s.l pa s.l.length) other).1)).1).length) (AI s.l pa s.l.length)) rfl (AA (BK (vO (!(JO (AI ((BB other s.c.epoch s.c.threshold (s.c.guardians.length:Int) ((AQ (AI s.l pa s.l.length) other).1)).1) pa ((BB other s.c.epoch s.c.threshold (s.c.guardians.length:Int) ((AQ (AI s.l pa s.l.length) other).1)).1).length) (AI s.l pa s.l.length)))) rfl rfl (AG (AC (?_))))))
      have x1:(!(JO (AI ((BB other s.c.epoch s.c.threshold (s.c.guardians.length:Int) ((AQ (AI s.l pa s.l.length) other).1)).1) pa ((BB other s.c.epoch s.c.threshold (s.c.guardians.length:Int) ((AQ (AI s.l pa s.l.length) other).1)).1).length) (AI s.l pa s.l.length)))=false:=(by rw [show (JO (AI ((BB other s.c.epoch s.c.threshold (s.c.guardians.length:Int) ((AQ (AI s.l pa s.l.length) other).1)).1) pa ((BB other s.c.epoch s.c.threshold (s.c.guardians.length:Int) ((AQ (AI s.l pa s.l.length) other).1)).1).length) (AI s.l pa s.l.length))=true from ((WW _ _).2 (PZ hI.h oM oM oM).2.2)];rfl)
      rw [x1]
      refine AJ false rfl rfl (fun h=>by cases h) (fun _=>AT (AC (AF (AB kR (AA (AD (vP (some ⟨a5,0,none⟩)) rfl (AA (AR ⟨a5,0,none⟩ rfl (AA (AH 6 UA rfl (AA (AK U32_ rfl (b5) rfl a0 rfl (AA (AD (vB pb) rfl (AA (BF (vs:=[b5,vB pb]) PM (PK (O:=c9++O) b5 s.old pb B6 a2 s2.lt) rfl s2 fun f0 B9 i6 m7 C0 C1=>(?_)))))))))))))))))
      obtain ⟨_,rfl,c6⟩:=C1
      have:=c6.len_le
      have a3:=a3.mv m7
      have a8:=a8.mv m7
      have a1:=a1.mv m7
      have a0:=a0.keep C0 (by simp)
      refine AA (AE (f0) rfl (AG (AC (AF (AF (AB kR (AA (AD (vP (some ⟨a5,0,none⟩)) rfl (AA (AR ⟨a5,0,none⟩ rfl (AA (AH 7 f_39_3 rfl (AA (AK U4_ rfl (vO s.renewed) rfl a0 rfl (AA (FF s.renewed rfl (AA (AD (vO (!s.renewed)) rfl (?_)))))))))))))))))))
      cases q0:(!s.renewed)
      ·have J4:s.renewed=true:=by simpa using q0
       refine AY rfl (AD (f0) rfl (AY rfl (CK U32_ rfl c6 (AY rfl (EZ .i64 ((AI s.old pb s.old.length).length:Int) (0:Int) rfl rfl (AA (BK (vO (((AI s.old pb s.old.length).length:Int) == (0:Int))) rfl rfl (AA (AD (vO (((AI s.old pb s.old.length).length:Int) == (0:Int))) rfl (?_))))))))))
       cases q1:(((AI s.old pb s.old.length).length:Int) == (0:Int))
       ·have J5:((AI s.old pb s.old.length).length:Int)≠(0:Int):=by simpa using q1
        refine AY rfl (AD (f0) rfl (AY rfl (CK U32_ rfl c6 (AY rfl (AD (vP (some ⟨a5,0,none⟩)) rfl (AY rfl (AR ⟨a5,0,none⟩ rfl (AY rfl (AH 0 ED rfl (AY rfl (AH 1 KK rfl (AY rfl (AK U3_ rfl (vI s.c.threshold) rfl a0 rfl (AY rfl (ID .i64 ((AI s.old pb s.old.length).length:Int) s.c.threshold rfl rfl (AA (BK (vO (decide (s.c.threshold≤((AI s.old pb s.old.length).length:Int)))) rfl rfl (AG (AC (AJ (decide (s.c.threshold≤((AI s.old pb s.old.length).length:Int))) rfl rfl (fun l7=>?_) (fun l7=>?_)))))))))))))))))))))
        ·have J6:s.c.threshold≤((AI s.old pb s.old.length).length:Int):=by simpa using l7
         refine AF (AB kR (AA (AE (vO true) rfl (AG (AC (AM (AP (AZ rfl (CN rfl rfl rfl) (?_)))))))))
         exact ⟨_,rfl,i6.keep,rfl⟩
        have J7:((AI s.old pb s.old.length).length:Int)<s.c.threshold:=by simpa using l7
        have hr_:ShareI secret s.c s.l s.old true:=by have h_:=hI.h;rw [show s.renewed=true from by assumption] at h_;exact h_
        obtain ⟨E5,J8,J9,K0,K1,K2⟩:=few_mixed (other:=other) (a:=pa) (b:=pb) hr_ oM oM oM oM oM
        refine AT (AC (AF (AB kR (AA (AD (f0) rfl (AA (AD (c0) rfl (AA (AD (other_v) rfl (AA (BF (vs:=[f0,c0,other_v]) enter_18 (c_mixed (O:=c9++O) f0 (AI s.old pb s.old.length) c0 (AI s.l pa s.l.length) other_v other B9 c6 a8 a3 i6.lt) rfl i6 fun N2 C2 C3 j4 C4 C5=>(?_))))))))))))
        obtain ⟨g4,rfl,e2⟩:=C5
        have:=e2.len_le
        have a3:=a3.mv j4
        have a8:=a8.mv j4
        have c6:=c6.mv j4
        have a1:=a1.mv j4
        have a0:=a0.keep C4 (by simp)
        refine AA (AD (vT #[g4,vI ((AX (AI s.old pb s.old.length) (AI s.l pa s.l.length) other).2)]) rfl (AA (AL (g4) rfl rfl (AA (AL (vI ((AX (AI s.old pb s.old.length) (AI s.l pa s.l.length) other).2)) rfl rfl (AA (AE (g4) rfl (AA (AE (vI ((AX (AI s.old pb s.old.length) (AI s.l pa s.l.length) other).2)) rfl (AG (AC (AF (AF (AB kR (AA (AD (vI ((AX (AI s.old pb s.old.length) (AI s.l pa s.l.length) other).2)) rfl (AA (DQ .i64 ((AX (AI s.old pb s.old.length) (AI s.l pa s.l.length) other).2) (0:Int) rfl rfl (AA (AD (vO (((AX (AI s.old pb s.old.length) (AI s.l pa s.l.length) other).2) != (0:Int))) rfl (?_)))))))))))))))))))))
        have x2:(((AX (AI s.old pb s.old.length) (AI s.l pa s.l.length) other).2) != (0:Int))=false:=(by rw [E5];rfl)
        rw [x2]
        refine AY rfl (AD (g4) rfl (AY rfl (CK U23_ rfl e2 (AY rfl (o_remN (((AX (AI s.old pb s.old.length) (AI s.l pa s.l.length) other).1).length) 2 oM rfl rfl (AY rfl (DQ .i64 (((((AX (AI s.old pb s.old.length) (AI s.l pa s.l.length) other).1).length) % 2:Nat):Int) (0:Int) rfl rfl (AA (BK (vO ((((((AX (AI s.old pb s.old.length) (AI s.l pa s.l.length) other).1).length) % 2:Nat):Int) != (0:Int))) rfl rfl (AG (AC (?_))))))))))))
        have x3:((((((AX (AI s.old pb s.old.length) (AI s.l pa s.l.length) other).1).length) % 2:Nat):Int) != (0:Int))=false:=(by rw [J8];rfl)
        rw [x3]
        refine AJ false rfl rfl (fun h=>by cases h) (fun _=>AT (AC (AF (AB kR (AA (AD (g4) rfl (AA (CK U23_ rfl e2 (AA (o_half (((AX (AI s.old pb s.old.length) (AI s.l pa s.l.length) other).1).length) rfl rfl oM (AA (AE (vI (((((AX (AI s.old pb s.old.length) (AI s.l pa s.l.length) other).1).length) / 2:Nat):Int)) rfl (AG (AC (AF (DP 21 _ _ kR kR kR kR kR rfl rfl fun s3 m9=>?_))))))))))))))))
        have s4:=C3.call m9
        have i7:Mv c9 C2 c9 s3:=Mv.of_keep m9
        have a3:=a3.mv i7
        have a8:=a8.mv i7
        have c6:=c6.mv i7
        have e2:=e2.mv i7
        have a1:=a1.mv i7
        have a0:=a0.keep m9 (by simp)
        refine BG (AD (other_v) rfl (BG (AD (vP (some ⟨a5,0,none⟩)) rfl (BG (AR ⟨a5,0,none⟩ rfl (BG (AH 0 ED rfl (BG (AH 0 MF rfl (BG (AK U3_ rfl (vI s.c.epoch) rfl a0 rfl (BG (KI .i64 s.c.epoch (1:Int) (s.c.epoch - 1) rfl rfl (GZ (by have:=circ_ep hI.h.held.ok;omega) rfl) (BG (AD (vP (some ⟨a5,0,none⟩)) rfl (BG (AR ⟨a5,0,none⟩ rfl (BG (AH 0 ED rfl (BG (AH 1 KK rfl (BG (AK U3_ rfl (vI s.c.threshold) rfl a0 rfl (BG (AD (vP (some ⟨a5,0,none⟩)) rfl (BG (AR ⟨a5,0,none⟩ rfl (BG (AH 0 ED rfl (BG (AH 3 LK rfl (BG (AK U22_ rfl (b4) rfl a0 rfl (BG (CK U22_ rfl a1 (BG (AD (g4) rfl (BG (AD (vI (((((AX (AI s.old pb s.old.length) (AI s.l pa s.l.length) other).1).length) / 2:Nat):Int)) rfl (BG (ST U23_ JD 0 ((((AX (AI s.old pb s.old.length) (AI s.l pa s.l.length) other).1).length) / 2) rfl (.inl ⟨rfl,rfl⟩) (.inr ⟨.tmp 338, .i64,(((((AX (AI s.old pb s.old.length) (AI s.l pa s.l.length) other).1).length) / 2:Nat):Int),rfl,rfl,rfl⟩) oM oM e2 fun s5 q2=>(?_))))))))))))))))))))))))))))))))))))))))))
        rw [List.drop_zero] at q2
        refine EQ (AA (BF (vs:=[other_v,vI (s.c.epoch - 1),vI s.c.threshold,vI (s.c.guardians.length:Int),s5]) QC (TD (O:=c9++O) other_v other (s.c.epoch - 1) s.c.threshold (s.c.guardians.length:Int) s5 (((AX (AI s.old pb s.old.length) (AI s.l pa s.l.length) other).1).take ((((AX (AI s.old pb s.old.length) (AI s.l pa s.l.length) other).1).length) / 2)) s3 a3 q2 s4.lt) rfl s4 fun N3 C6 s6 n2 N4 C7=>(?_)))
        obtain ⟨f1,rfl,g9⟩:=C7
        have:=g9.len_le
        have a8:=a8.mv n2
        have c6:=c6.mv n2
        have e2:=e2.mv n2
        refine AA (AD (vT #[f1,vI ((BB other (s.c.epoch - 1) s.c.threshold (s.c.guardians.length:Int) (((AX (AI s.old pb s.old.length) (AI s.l pa s.l.length) other).1).take ((((AX (AI s.old pb s.old.length) (AI s.l pa s.l.length) other).1).length) / 2))).2)]) rfl (AA (AL (f1) rfl rfl (AA (AL (vI ((BB other (s.c.epoch - 1) s.c.threshold (s.c.guardians.length:Int) (((AX (AI s.old pb s.old.length) (AI s.l pa s.l.length) other).1).take ((((AX (AI s.old pb s.old.length) (AI s.l pa s.l.length) other).1).length) / 2))).2)) rfl rfl (AA (AE (f1) rfl (AA (AE (vI ((BB other (s.c.epoch - 1) s.c.threshold (s.c.guardians.length:Int) (((AX (AI s.old pb s.old.length) (AI s.l pa s.l.length) other).1).take ((((AX (AI s.old pb s.old.length) (AI s.l pa s.l.length) other).1).length) / 2))).2)) rfl (AG (AC (AF (AB kR (AA (AD (f1) rfl (AA (AD (g4) rfl (AA (AD (vI (((((AX (AI s.old pb s.old.length) (AI s.l pa s.l.length) other).1).length) / 2:Nat):Int)) rfl (AA (ST U23_ JD ((((AX (AI s.old pb s.old.length) (AI s.l pa s.l.length) other).1).length) / 2) (((AX (AI s.old pb s.old.length) (AI s.l pa s.l.length) other).1).length) rfl (.inr ⟨.tmp 346, .i64,(((((AX (AI s.old pb s.old.length) (AI s.l pa s.l.length) other).1).length) / 2:Nat):Int),rfl,rfl,rfl⟩) (.inl ⟨rfl,rfl⟩) oM oM e2 fun s7 q3=>(?_))))))))))))))))))))))
        rw [List.take_length] at q3
        refine AA (BF (vs:=[f1,s7]) enter_19 (ZI (O:=c9++O) f1 ((BB other (s.c.epoch - 1) s.c.threshold (s.c.guardians.length:Int) (((AX (AI s.old pb s.old.length) (AI s.l pa s.l.length) other).1).take ((((AX (AI s.old pb s.old.length) (AI s.l pa s.l.length) other).1).length) / 2))).1) s7 (((AX (AI s.old pb s.old.length) (AI s.l pa s.l.length) other).1).drop ((((AX (AI s.old pb s.old.length) (AI s.l pa s.l.length) other).1).length) / 2)) C6 g9 q3 s6.lt) rfl s6 fun N5 C8 s8 n3 N6 C9=>(?_))
        obtain ⟨h9,rfl,g2⟩:=C9
        have:=g2.len_le
        have a8:=a8.mv n3
        have c6:=c6.mv n3
        have g9:=g9.mv n3
        refine AA (AD (vT #[h9,vI ((BR ((BB other (s.c.epoch - 1) s.c.threshold (s.c.guardians.length:Int) (((AX (AI s.old pb s.old.length) (AI s.l pa s.l.length) other).1).take ((((AX (AI s.old pb s.old.length) (AI s.l pa s.l.length) other).1).length) / 2))).1) (((AX (AI s.old pb s.old.length) (AI s.l pa s.l.length) other).1).drop ((((AX (AI s.old pb s.old.length) (AI s.l pa s.l.length) other).1).length) / 2))).2)]) rfl (AA (AL (h9) rfl rfl (AA (AL (vI ((BR ((BB other (s.c.epoch - 1) s.c.threshold (s.c.guardians.length:Int) (((AX (AI s.old pb s.old.length) (AI s.l pa s.l.length) other).1).take ((((AX (AI s.old pb s.old.length) (AI s.l pa s.l.length) other).1).length) / 2))).1) (((AX (AI s.old pb s.old.length) (AI s.l pa s.l.length) other).1).drop ((((AX (AI s.old pb s.old.length) (AI s.l pa s.l.length) other).1).length) / 2))).2)) rfl rfl (AA (AE (h9) rfl (AA (AE (vI ((BR ((BB other (s.c.epoch - 1) s.c.threshold (s.c.guardians.length:Int) (((AX (AI s.old pb s.old.length) (AI s.l pa s.l.length) other).1).take ((((AX (AI s.old pb s.old.length) (AI s.l pa s.l.length) other).1).length) / 2))).1) (((AX (AI s.old pb s.old.length) (AI s.l pa s.l.length) other).1).drop ((((AX (AI s.old pb s.old.length) (AI s.l pa s.l.length) other).1).length) / 2))).2)) rfl (AG (AC (AF (AB kR (AA (AD (vI ((BB other (s.c.epoch - 1) s.c.threshold (s.c.guardians.length:Int) (((AX (AI s.old pb s.old.length) (AI s.l pa s.l.length) other).1).take ((((AX (AI s.old pb s.old.length) (AI s.l pa s.l.length) other).1).length) / 2))).2)) rfl (AA (EZ .i64 ((BB other (s.c.epoch - 1) s.c.threshold (s.c.guardians.length:Int) (((AX (AI s.old pb s.old.length) (AI s.l pa s.l.length) other).1).take ((((AX (AI s.old pb s.old.length) (AI s.l pa s.l.length) other).1).length) / 2))).2) (0:Int) rfl rfl (AA (AD (vO (((BB other (s.c.epoch - 1) s.c.threshold (s.c.guardians.length:Int) (((AX (AI s.old pb s.old.length) (AI s.l pa s.l.length) other).1).take ((((AX (AI s.old pb s.old.length) (AI s.l pa s.l.length) other).1).length) / 2))).2) == (0:Int))) rfl (?_))))))))))))))))))))
        have x4:(((BB other (s.c.epoch - 1) s.c.threshold (s.c.guardians.length:Int) (((AX (AI s.old pb s.old.length) (AI s.l pa s.l.length) other).1).take ((((AX (AI s.old pb s.old.length) (AI s.l pa s.l.length) other).1).length) / 2))).2) == (0:Int))=true:=(by rw [J9];rfl)
        rw [x4]
        refine AY rfl (AD (vI ((BR ((BB other (s.c.epoch - 1) s.c.threshold (s.c.guardians.length:Int) (((AX (AI s.old pb s.old.length) (AI s.l pa s.l.length) other).1).take ((((AX (AI s.old pb s.old.length) (AI s.l pa s.l.length) other).1).length) / 2))).1) (((AX (AI s.old pb s.old.length) (AI s.l pa s.l.length) other).1).drop ((((AX (AI s.old pb s.old.length) (AI s.l pa s.l.length) other).1).length) / 2))).2)) rfl (AY rfl (EZ .i64 ((BR ((BB other (s.c.epoch - 1) s.c.threshold (s.c.guardians.length:Int) (((AX (AI s.old pb s.old.length) (AI s.l pa s.l.length) other).1).take ((((AX (AI s.old pb s.old.length) (AI s.l pa s.l.length) other).1).length) / 2))).1) (((AX (AI s.old pb s.old.length) (AI s.l pa s.l.length) other).1).drop ((((AX (AI s.old pb s.old.length) (AI s.l pa s.l.length) other).1).length) / 2))).2) (0:Int) rfl rfl (AA (BH (vO (((BR ((BB other (s.c.epoch - 1) s.c.threshold (s.c.guardians.length:Int) (((AX (AI s.old pb s.old.length) (AI s.l pa s.l.length) other).1).take ((((AX (AI s.old pb s.old.length) (AI s.l pa s.l.length) other).1).length) / 2))).1) (((AX (AI s.old pb s.old.length) (AI s.l pa s.l.length) other).1).drop ((((AX (AI s.old pb s.old.length) (AI s.l pa s.l.length) other).1).length) / 2))).2) == (0:Int))) rfl rfl (AA (AD (vO (((BR ((BB other (s.c.epoch - 1) s.c.threshold (s.c.guardians.length:Int) (((AX (AI s.old pb s.old.length) (AI s.l pa s.l.length) other).1).take ((((AX (AI s.old pb s.old.length) (AI s.l pa s.l.length) other).1).length) / 2))).1) (((AX (AI s.old pb s.old.length) (AI s.l pa s.l.length) other).1).drop ((((AX (AI s.old pb s.old.length) (AI s.l pa s.l.length) other).1).length) / 2))).2) == (0:Int))) rfl (?_))))))))
        have x5:(((BR ((BB other (s.c.epoch - 1) s.c.threshold (s.c.guardians.length:Int) (((AX (AI s.old pb s.old.length) (AI s.l pa s.l.length) other).1).take ((((AX (AI s.old pb s.old.length) (AI s.l pa s.l.length) other).1).length) / 2))).1) (((AX (AI s.old pb s.old.length) (AI s.l pa s.l.length) other).1).drop ((((AX (AI s.old pb s.old.length) (AI s.l pa s.l.length) other).1).length) / 2))).2) == (0:Int))=true:=(by rw [K1];rfl)
        rw [x5]
        refine AY rfl (AD (f1) rfl (AY rfl (AD (vB pb) rfl (AY rfl (BF (vs:=[f1,vB pb]) PM (PK (O:=c9++O) f1 ((BB other (s.c.epoch - 1) s.c.threshold (s.c.guardians.length:Int) (((AX (AI s.old pb s.old.length) (AI s.l pa s.l.length) other).1).take ((((AX (AI s.old pb s.old.length) (AI s.l pa s.l.length) other).1).length) / 2))).1) pb C8 g9 s8.lt) rfl s8 fun s9 D0 t0 n4 N7 D1=>(?_))))))
        obtain ⟨_,rfl,q4⟩:=D1
        have:=q4.len_le
        have a8:=a8.mv n4
        have c6:=c6.mv n4
        have g2:=g2.mv n4
        refine AY rfl (AD (f0) rfl (AY rfl (BF (vs:=[s9,f0]) XH (c_same8 (O:=c9++O) s9 (AI ((BB other (s.c.epoch - 1) s.c.threshold (s.c.guardians.length:Int) (((AX (AI s.old pb s.old.length) (AI s.l pa s.l.length) other).1).take ((((AX (AI s.old pb s.old.length) (AI s.l pa s.l.length) other).1).length) / 2))).1) pb ((BB other (s.c.epoch - 1) s.c.threshold (s.c.guardians.length:Int) (((AX (AI s.old pb s.old.length) (AI s.l pa s.l.length) other).1).take ((((AX (AI s.old pb s.old.length) (AI s.l pa s.l.length) other).1).length) / 2))).1).length) f0 (AI s.old pb s.old.length) D0 q4 c6 t0.lt) rfl t0 fun N8 D2 t2 t3 N9 D3=>(?_))))
        obtain rfl:=D3
        have a8:=a8.mv t3
        have g2:=g2.mv t3
        refine AA (BH (vO (JO (AI ((BB other (s.c.epoch - 1) s.c.threshold (s.c.guardians.length:Int) (((AX (AI s.old pb s.old.length) (AI s.l pa s.l.length) other).1).take ((((AX (AI s.old pb s.old.length) (AI s.l pa s.l.length) other).1).length) / 2))).1) pb ((BB other (s.c.epoch - 1) s.c.threshold (s.c.guardians.length:Int) (((AX (AI s.old pb s.old.length) (AI s.l pa s.l.length) other).1).take ((((AX (AI s.old pb s.old.length) (AI s.l pa s.l.length) other).1).length) / 2))).1).length) (AI s.old pb s.old.length))) rfl rfl (AA (AD (vO (JO (AI ((BB other (s.c.epoch - 1) s.c.threshold (s.c.guardians.length:Int) (((AX (AI s.old pb s.old.length) (AI s.l pa s.l.length) other).1).take ((((AX (AI s.old pb s.old.length) (AI s.l pa s.l.length) other).1).length) / 2))).1) pb ((BB other (s.c.epoch - 1) s.c.threshold (s.c.guardians.length:Int) (((AX (AI s.old pb s.old.length) (AI s.l pa s.l.length) other).1).take ((((AX (AI s.old pb s.old.length) (AI s.l pa s.l.length) other).1).length) / 2))).1).length) (AI s.old pb s.old.length))) rfl (?_))))
        have x6:(JO (AI ((BB other (s.c.epoch - 1) s.c.threshold (s.c.guardians.length:Int) (((AX (AI s.old pb s.old.length) (AI s.l pa s.l.length) other).1).take ((((AX (AI s.old pb s.old.length) (AI s.l pa s.l.length) other).1).length) / 2))).1) pb ((BB other (s.c.epoch - 1) s.c.threshold (s.c.guardians.length:Int) (((AX (AI s.old pb s.old.length) (AI s.l pa s.l.length) other).1).take ((((AX (AI s.old pb s.old.length) (AI s.l pa s.l.length) other).1).length) / 2))).1).length) (AI s.old pb s.old.length))=true:=((WW _ _).2 K0)
        rw [x6]
        refine AY rfl (AD (h9) rfl (AY rfl (AD (vB pa) rfl (AY rfl (BF (vs:=[h9,vB pa]) PM (PK (O:=c9++O) h9 ((BR ((BB other (s.c.epoch - 1) s.c.threshold (s.c.guardians.length:Int) (((AX (AI s.old pb s.old.length) (AI s.l pa s.l.length) other).1).take ((((AX (AI s.old pb s.old.length) (AI s.l pa s.l.length) other).1).length) / 2))).1) (((AX (AI s.old pb s.old.length) (AI s.l pa s.l.length) other).1).drop ((((AX (AI s.old pb s.old.length) (AI s.l pa s.l.length) other).1).length) / 2))).1) pa D2 g2 t2.lt) rfl t2 fun t4 D4 t5 D5 O0 D6=>(?_))))))
        obtain ⟨_,rfl,q5⟩:=D6
        have:=q5.len_le
        have a8:=a8.mv D5
        refine AY rfl (AD (c0) rfl (AY rfl (BF (vs:=[t4,c0]) XH (c_same8 (O:=c9++O) t4 (AI ((BR ((BB other (s.c.epoch - 1) s.c.threshold (s.c.guardians.length:Int) (((AX (AI s.old pb s.old.length) (AI s.l pa s.l.length) other).1).take ((((AX (AI s.old pb s.old.length) (AI s.l pa s.l.length) other).1).length) / 2))).1) (((AX (AI s.old pb s.old.length) (AI s.l pa s.l.length) other).1).drop ((((AX (AI s.old pb s.old.length) (AI s.l pa s.l.length) other).1).length) / 2))).1) pa ((BR ((BB other (s.c.epoch - 1) s.c.threshold (s.c.guardians.length:Int) (((AX (AI s.old pb s.old.length) (AI s.l pa s.l.length) other).1).take ((((AX (AI s.old pb s.old.length) (AI s.l pa s.l.length) other).1).length) / 2))).1) (((AX (AI s.old pb s.old.length) (AI s.l pa s.l.length) other).1).drop ((((AX (AI s.old pb s.old.length) (AI s.l pa s.l.length) other).1).length) / 2))).1).length) c0 (AI s.l pa s.l.length) D4 q5 a8 t5.lt) rfl t5 fun O1 O2 D7 O3 O4 D8=>(?_))))
        obtain rfl:=D8
        refine AA (BH (vO (JO (AI ((BR ((BB other (s.c.epoch - 1) s.c.threshold (s.c.guardians.length:Int) (((AX (AI s.old pb s.old.length) (AI s.l pa s.l.length) other).1).take ((((AX (AI s.old pb s.old.length) (AI s.l pa s.l.length) other).1).length) / 2))).1) (((AX (AI s.old pb s.old.length) (AI s.l pa s.l.length) other).1).drop ((((AX (AI s.old pb s.old.length) (AI s.l pa s.l.length) other).1).length) / 2))).1) pa ((BR ((BB other (s.c.epoch - 1) s.c.threshold (s.c.guardians.length:Int) (((AX (AI s.old pb s.old.length) (AI s.l pa s.l.length) other).1).take ((((AX (AI s.old pb s.old.length) (AI s.l pa s.l.length) other).1).length) / 2))).1) (((AX (AI s.old pb s.old.length) (AI s.l pa s.l.length) other).1).drop ((((AX (AI s.old pb s.old.length) (AI s.l pa s.l.length) other).1).length) / 2))).1).length) (AI s.l pa s.l.length))) rfl rfl (AA (AE (vO (JO (AI ((BR ((BB other (s.c.epoch - 1) s.c.threshold (s.c.guardians.length:Int) (((AX (AI s.old pb s.old.length) (AI s.l pa s.l.length) other).1).take ((((AX (AI s.old pb s.old.length) (AI s.l pa s.l.length) other).1).length) / 2))).1) (((AX (AI s.old pb s.old.length) (AI s.l pa s.l.length) other).1).drop ((((AX (AI s.old pb s.old.length) (AI s.l pa s.l.length) other).1).length) / 2))).1) pa ((BR ((BB other (s.c.epoch - 1) s.c.threshold (s.c.guardians.length:Int) (((AX (AI s.old pb s.old.length) (AI s.l pa s.l.length) other).1).take ((((AX (AI s.old pb s.old.length) (AI s.l pa s.l.length) other).1).length) / 2))).1) (((AX (AI s.old pb s.old.length) (AI s.l pa s.l.length) other).1).drop ((((AX (AI s.old pb s.old.length) (AI s.l pa s.l.length) other).1).length) / 2))).1).length) (AI s.l pa s.l.length))) rfl (AG (AC (AM (AZ rfl (CN rfl rfl rfl) (?_))))))))
        have e:true=(JO (AI ((BR ((BB other (s.c.epoch - 1) s.c.threshold (s.c.guardians.length:Int) (((AX (AI s.old pb s.old.length) (AI s.l pa s.l.length) other).1).take ((((AX (AI s.old pb s.old.length) (AI s.l pa s.l.length) other).1).length) / 2))).1) (((AX (AI s.old pb s.old.length) (AI s.l pa s.l.length) other).1).drop ((((AX (AI s.old pb s.old.length) (AI s.l pa s.l.length) other).1).length) / 2))).1) pa ((BR ((BB other (s.c.epoch - 1) s.c.threshold (s.c.guardians.length:Int) (((AX (AI s.old pb s.old.length) (AI s.l pa s.l.length) other).1).take ((((AX (AI s.old pb s.old.length) (AI s.l pa s.l.length) other).1).length) / 2))).1) (((AX (AI s.old pb s.old.length) (AI s.l pa s.l.length) other).1).drop ((((AX (AI s.old pb s.old.length) (AI s.l pa s.l.length) other).1).length) / 2))).1).length) (AI s.l pa s.l.length)):=by exact ((WW _ _).2 K2).symm
        exact ⟨_,rfl,D7.keep,(by exact congrArg vO e.symm)⟩
       have K3:((AI s.old pb s.old.length).length:Int)=(0:Int):=by simpa using q1
       refine AN rfl (AN rfl (AN rfl (AN rfl (AN rfl (AN rfl (AN rfl (AN rfl (AA (BH (vO true) rfl rfl (AG (AC (AJ true rfl rfl (fun _=>AF (AB kR (AA (AE (vO true) rfl (AG (AC (AM (AP (AZ rfl (CN rfl rfl rfl) (?_)))))))))) (fun h=>by cases h)))))))))))))
       exact ⟨_,rfl,i6.keep,rfl⟩
      have K4:s.renewed=false:=by simpa using q0
      refine AN rfl (AN rfl (AN rfl (AA (BH (vO true) rfl rfl (AA (AD (vO true) rfl (AN rfl (AN rfl (AN rfl (AN rfl (AN rfl (AN rfl (AN rfl (AN rfl (AA (BH (vO true) rfl rfl (AG (AC (AJ true rfl rfl (fun _=>AF (AB kR (AA (AE (vO true) rfl (AG (AC (AM (AP (AZ rfl (CN rfl rfl rfl) (?_)))))))))) (fun h=>by cases h))))))))))))))))))))
      exact ⟨_,rfl,i6.keep,rfl⟩
     have K5:((AI s.l pa s.l.length).length:Int)=(0:Int):=by simpa using p7
     refine AN rfl (AN rfl (AN rfl (AN rfl (AN rfl (AN rfl (AN rfl (AN rfl (AA (BH (vO true) rfl rfl (AG (AC (AJ true rfl rfl (fun _=>AF (AB kR (AA (AE (vO true) rfl (AG (AC (AM (AP (AZ rfl (CN rfl rfl rfl) (?_)))))))))) (fun h=>by cases h)))))))))))))
     exact ⟨_,rfl,l2.keep,rfl⟩
    have K6:(14:Int)<(moves.length:Int):=by simpa using n9
    refine AN rfl (AN rfl (AN rfl (AN rfl (AN rfl (AA (BH (vO true) rfl rfl (AG (AC (AJ true rfl rfl (fun _=>AF (AB kR (AA (AE (vO true) rfl (AG (AC (AM (AP (AZ rfl (CN rfl rfl rfl) (?_)))))))))) (fun h=>by cases h))))))))))
    exact ⟨_,rfl,g3.keep,rfl⟩
   have K7:(80:Int)<(coins.length:Int):=by simpa using n7
   refine AN rfl (AN rfl (AN rfl (AA (BH (vO true) rfl rfl (AA (AD (vO true) rfl (AN rfl (AN rfl (AN rfl (AN rfl (AN rfl (AA (BH (vO true) rfl rfl (AG (AC (AJ true rfl rfl (fun _=>AF (AB kR (AA (AE (vO true) rfl (AG (AC (AM (AP (AZ rfl (CN rfl rfl rfl) (?_)))))))))) (fun h=>by cases h)))))))))))))))))
   exact ⟨_,rfl,g3.keep,rfl⟩
  have K8:(8:Int)<(secret.length:Int):=by simpa using n6
  refine AN rfl (AN rfl (AN rfl (AA (BH (vO true) rfl rfl (AA (AD (vO true) rfl (AN rfl (AN rfl (AN rfl (AA (BH (vO true) rfl rfl (AA (AD (vO true) rfl (AN rfl (AN rfl (AN rfl (AN rfl (AN rfl (AA (BH (vO true) rfl rfl (AG (AC (AJ true rfl rfl (fun _=>AF (AB kR (AA (AE (vO true) rfl (AG (AC (AM (AP (AZ rfl (CN rfl rfl rfl) (?_)))))))))) (fun h=>by cases h))))))))))))))))))))))))
  exact ⟨_,rfl,g3.keep,rfl⟩
 have K9:(10:Int)<(list.length:Int):=by simpa using n5
 refine AN rfl (AN rfl (AN rfl (AA (BH (vO true) rfl rfl (AA (AD (vO true) rfl (AN rfl (AN rfl (AN rfl (AA (BH (vO true) rfl rfl (AA (AD (vO true) rfl (AN rfl (AN rfl (AN rfl (AA (BH (vO true) rfl rfl (AA (AD (vO true) rfl (AN rfl (AN rfl (AN rfl (AN rfl (AN rfl (AA (BH (vO true) rfl rfl (AG (AC (AJ true rfl rfl (fun _=>AF (AB kR (AA (AE (vO true) rfl (AG (AC (AM (AP (AZ rfl (CN rfl rfl rfl) (?_)))))))))) (fun h=>by cases h)))))))))))))))))))))))))))))))
 exact ⟨_,rfl,g3.keep,rfl⟩
end Go.Proofs.Ytjgfokolnkhafaa
