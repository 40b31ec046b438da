/- What the laws of this part rest on: lemmas, and the walks of the functions. No conditions. -/
import Derived.WalkKit
import Derived.WalkSpells
import Derived.WalkLawsBesides
import Derived.RangeFuncLeaves
import Derived.Maps.AppendAt
import Derived.Deep.AppendLies
import Derived.Deep.Slices
import Derived.OpenShut
import Derived.ProofKit
import Derived.Below
import Derived.ChangeSame
import Derived.Carry
import Derived.RangeFuncRecord
import Derived.Laws.Tables
import Derived.Recover
import Derived.DefersIn
import Derived.Lib.AppendZerosOnto
import Derived.Lib.Overlaps
import Derived.Laws.CopyRow
import Derived.Laws.StructEq
import Derived.ChangeKeysEq
import Derived.OrdersIn
import Derived.Test.YtjgfokolnkhafaaGreatRows
import Derived.Test.YtjgfokolnkhafaaGreatPD24
set_option linter.unusedSimpArgs false
set_option linter.unusedVariables false
namespace Go.Proofs.YtjgfokolnkhafaaGreat
open Go.Fw Go.RowKit
set_option maxHeartbeats 4000000 in
set_option maxRecDepth 100000 in
theorem c_mixed {O:List Nat} (la_v:Value) (la:List Share) (lb_v:Value) (lb:List Share) (secret_v:Value) (secret:List UInt8) (w:World) (b0:BB Enc.share w O la_v la) (a9:BB Enc.share w O lb_v lb) (a2:BB Enc.u8 w O secret_v secret) (hO:∀ b∈O,b<w.heap.size):CA Tryz.prog 21 [la_v,lb_v,secret_v] w (fun v w'=>∃ (x0:Value),v = .tuple #[x0,vI ((CD la lb secret).2)]∧BB Enc.u8 w' (O) x0 ((CD la lb secret).1)):= by
 have bz:=b0.len_le
 have b0:BB Enc.share w ([]++O) la_v la:=b0
 have bA:=a9.len_le
 have a9:BB Enc.share w ([]++O) lb_v lb:=a9
 have R9:=a2.len_le
 have a2:BB Enc.u8 w ([]++O) secret_v secret:=a2
 have s0:St w O w []:=St.start hO
 refine UW 116 Tryz.func21 rfl rfl oT (fun F0=>AF (AC kR (AA (AD (nS) rfl (AA (AD (vI 0) rfl (AG (AB (AF (AF (AC kR (AA (AE (la_v) rfl (AA (AZ (vs:=[la_v]) NG (NE (O:=[]++O) la_v la w b0 s0.lt) rfl s0 fun ch S0 y5 y6 ci S1=>(?_))))))))))))))))
 obtain rfl:=S1
 have b0:=b0.mv y6
 have a9:=a9.mv y6
 have a2:=a2.mv y6
 refine AA (AD (vI (BQ la)) rfl (AG (AB (AF (AC kR (AA (AE (vI (BQ la)) rfl (AA (CM .i64 (BQ la) (0:Int) rfl rfl (AG (AB (AJ ((BQ la) != (0:Int)) rfl rfl (fun u0=>?_) (fun u0=>?_)))))))))))))
 ·have bB:BQ la≠(0:Int):=by simpa using u0
  refine AF (AC kR (AA (AE (vI (BQ la)) rfl (AA (AD (nS) rfl (AA (AD (vI (BQ la)) rfl (AG (AB (AM (AI (QY rfl (EJ rfl rfl rfl rfl) (?_)))))))))))))
  have S2:((CD la lb secret).1)=([]):=by exact congrArg (fun p=>p.1) (show CD la lb secret=_ from mixed_1 aS)
  have S3:((CD la lb secret).2)=(BQ la):=by exact congrArg (fun p=>p.2) (show CD la lb secret=_ from mixed_1 aS)
  exact ⟨_,rfl,y5.keep,by rw [S2,S3];exact ⟨.slice none 0 0,rfl,BB.nil _ _ _⟩⟩
 have J1:BQ la=(0:Int):=by simpa using u0
 have hca:BQ la=0:=J1
 have hva:=(FW la).1 hca
 have hpa:=hva.pos
 have hepa:=hva.ep1
 have hepa0:=hva.ep0
 refine AR (AB (AF (AF (AC kR (AA (AE (lb_v) rfl (AA (AZ (vs:=[lb_v]) NG (NE (O:=[]++O) lb_v lb S0 a9 y5.lt) rfl y5 fun cj b6 j7 y7 cm S4=>(?_)))))))))
 obtain rfl:=S4
 have b0:=b0.mv y7
 have a9:=a9.mv y7
 have a2:=a2.mv y7
 refine AA (AD (vI (BQ lb)) rfl (AG (AB (AF (AC kR (AA (AE (vI (BQ lb)) rfl (AA (CM .i64 (BQ lb) (0:Int) rfl rfl (AG (AB (AJ ((BQ lb) != (0:Int)) rfl rfl (fun u1=>?_) (fun u1=>?_)))))))))))))
 ·have bC:BQ lb≠(0:Int):=by simpa using u1
  refine AF (AC kR (AA (AE (vI (BQ lb)) rfl (AA (AD (nS) rfl (AA (AD (vI (BQ lb)) rfl (AG (AB (AM (AI (QY rfl (EJ rfl rfl rfl rfl) (?_)))))))))))))
  have S5:((CD la lb secret).1)=([]):=by exact congrArg (fun p=>p.1) (show CD la lb secret=_ from mixed_2 aS aS)
  have S6:((CD la lb secret).2)=(BQ lb):=by exact congrArg (fun p=>p.2) (show CD la lb secret=_ from mixed_2 aS aS)
  exact ⟨_,rfl,j7.keep,by rw [S5,S6];exact ⟨.slice none 0 0,rfl,BB.nil _ _ _⟩⟩
 have J2:BQ lb=(0:Int):=by simpa using u1
 have hcb:BQ lb=0:=J2
 have hvb:=(FW lb).1 hcb
 have hpb:=hvb.pos
 refine AR (AB (cw_cut (fun FI wI=>∃ (b3:Nat) (b4:Nat) (d5:Value) (d6:Value) (B:List Nat),True∧(∃ F1,FI=GD F1 [(0,la_v),(1,lb_v),(2,secret_v),(10,vP (some ⟨b3,0,none⟩)),(11,vP (some ⟨b4,0,none⟩)),(116,undef)])∧St w O wI B∧BB Enc.share wI (B++O) (la_v) (la)∧BB Enc.share wI (B++O) (lb_v) (lb)∧BB Enc.u8 wI (B++O) (secret_v) (secret)∧IX wI b3 49 [vI (la[0]!.epoch),vI (la[0]!.index),vI (la[0]!.threshold),vI (la[0]!.many),d5]∧BB Enc.u8 wI (B++O) d5 (la[0]!.data)∧b3∈B∧IX wI b4 49 [vI (lb[0]!.epoch),vI (lb[0]!.index),vI (lb[0]!.threshold),vI (lb[0]!.many),d6]∧BB Enc.u8 wI (B++O) d6 (lb[0]!.data)∧b4∈B∧HD b3 b4) ?_ ?_))
 ·refine YE 8 [3,4,5] _ _ _ [fun _=>fun (vT:Value) (_:World)=>BB Enc.share b6 ([]++O) vT (la),fun _=>fun (vT:Value) (_:World)=>∃ aT,vT = .pointer (some aT)∧PT Enc.share b6 ([]++O) (.pointer (some aT)) (la[0]!),fun _=>fun (vT:Value) (_:World)=>∃ csT:List Value,vT = .agg csT.toArray∧Enc.share.rd b6 ([]++O) csT (la[0]!),fun _=>fun (vT:Value) (_:World)=>BB Enc.share b6 ([]++O) vT (lb),fun _=>fun (vT:Value) (_:World)=>∃ aT,vT = .pointer (some aT)∧PT Enc.share b6 ([]++O) (.pointer (some aT)) (lb[0]!),fun _=>fun (vT:Value) (_:World)=>∃ csT:List Value,vT = .agg csT.toArray∧Enc.share.rd b6 ([]++O) csT (lb[0]!),UE b6 49 [vI 0,vI 0,vI 0,vI 0,nS],UE b6 49 [vI 0,vI 0,vI 0,vI 0,nS]] [⟨0,[],[],[],false,[]⟩,⟨0,[],[],[],false,[0]⟩,⟨0,[],[],[],false,[1]⟩,⟨0,[],[],[],false,[]⟩,⟨0,[],[],[],false,[3]⟩,⟨0,[],[],[],false,[4]⟩,⟨1,[],[],[],false,[]⟩,⟨2,[],[],[],false,[]⟩] ([]) kR kR kR kR kR (by decide) rfl rfl rfl ⟨fun _ _ _ _ _ h=>h,fun _ _ _ _ _ h=>h,fun _ _ _ _ _ h=>h,fun _ _ _ _ _ h=>h,fun _ _ _ _ _ h=>h,fun _ _ _ _ _ h=>h,UE.st,UE.st,trivial⟩ ⟨?_,?_,?_,?_,?_,?_,?_,?_,trivial⟩ ?_ ?_
  ·intro F1 w1 B1_ Bs_ k1 hs_ hl_ hr_ hsep_ hf hd
   obtain ⟨F2,rfl⟩:=AK (F:=F1) [(0,la_v)] ⟨hf 0 kR,trivial⟩
   exact AH rfl ((AE (la_v) rfl (⟨[],(Keep.refl _ _),QG,b0⟩)))
  ·intro F1 w1 B1_ Bs_ k1 hs_ hl_ hr_ hsep_ hf hd
   obtain ⟨S7,S8,A1⟩:∃ v,F1 28=v∧BB Enc.share b6 ([]++O) v (la):=⟨_,rfl,hd 0 28 kR kR⟩
   have:=A1.len_le
   obtain ⟨F2,rfl⟩:=AK (F:=F1) [(28,S7)] ⟨S8,trivial⟩
   exact AH rfl ((o_idxU U27_ DO .i64 (0:Int) 0 rfl rfl rfl A1 oM fun S9 J3=>(⟨[],(Keep.refl _ _),QG,⟨S9,rfl,J3⟩⟩)))
  ·intro F1 w1 B1_ Bs_ k1 hs_ hl_ hr_ hsep_ hf hd
   have k0:=(Keep.drew [] b6).trans k1
   obtain ⟨T0,T1,J4⟩:∃ aX_,F1 29 = .pointer (some aX_)∧PT Enc.share b6 ([]++O) (.pointer (some aX_)) (la[0]!):=hd 1 29 kR kR
   obtain ⟨F2,rfl⟩:=AK (F:=F1) [(29,vP (some T0))] ⟨T1,trivial⟩
   exact AH rfl ((o_loadSU U49_ rfl DO rfl J4 k0 fun J5 J6=>(⟨[],(Keep.refl _ _),QG,⟨J5,rfl,J6⟩⟩)))
  ·intro F1 w1 B1_ Bs_ k1 hs_ hl_ hr_ hsep_ hf hd
   obtain ⟨F2,rfl⟩:=AK (F:=F1) [(1,lb_v)] ⟨hf 1 kR,trivial⟩
   exact AH rfl ((AE (lb_v) rfl (⟨[],(Keep.refl _ _),QG,a9⟩)))
  ·intro F1 w1 B1_ Bs_ k1 hs_ hl_ hr_ hsep_ hf hd
   obtain ⟨T2,T3,A2⟩:∃ v,F1 31=v∧BB Enc.share b6 ([]++O) v (lb):=⟨_,rfl,hd 3 31 kR kR⟩
   have:=A2.len_le
   obtain ⟨F2,rfl⟩:=AK (F:=F1) [(31,T2)] ⟨T3,trivial⟩
   exact AH rfl ((o_idxU U27_ DO .i64 (0:Int) 0 rfl rfl rfl A2 oM fun T4 J7=>(⟨[],(Keep.refl _ _),QG,⟨T4,rfl,J7⟩⟩)))
  ·intro F1 w1 B1_ Bs_ k1 hs_ hl_ hr_ hsep_ hf hd
   have k0:=(Keep.drew [] b6).trans k1
   obtain ⟨T5,T6,J8⟩:∃ aX_,F1 32 = .pointer (some aX_)∧PT Enc.share b6 ([]++O) (.pointer (some aX_)) (lb[0]!):=hd 4 32 kR kR
   obtain ⟨F2,rfl⟩:=AK (F:=F1) [(32,vP (some T5))] ⟨T6,trivial⟩
   exact AH rfl ((o_loadSU U49_ rfl DO rfl J8 k0 fun J9 K0=>(⟨[],(Keep.refl _ _),QG,⟨J9,rfl,K0⟩⟩)))
  ·intro F1 w1 B1_ Bs_ k1 hs_ hl_ hr_ hsep_ hf hd
   have k0:=(Keep.drew [] b6).trans k1
   have s1:=j7.adoptL k0 hl_
   obtain ⟨F2,rfl⟩:=AK (F:=F1) [] trivial
   refine AH rfl ((CZ [vI 0,vI 0,vI 0,vI 0,nS] NH rfl s1 fun T7 cn co cp cq T8 K1=>(?_)))
   have K2:b6.heap.size≤T7:=by have:=k0.size;omega
   exact ⟨[],T8,QG,⟨_,rfl,K2,(by intro h;have:=lt_of s1 _ h;omega),K1⟩⟩
  ·intro F1 w1 B1_ Bs_ k1 hs_ hl_ hr_ hsep_ hf hd
   have k0:=(Keep.drew [] b6).trans k1
   have s1:=j7.adoptL k0 hl_
   obtain ⟨F2,rfl⟩:=AK (F:=F1) [] trivial
   refine AH rfl ((CZ [vI 0,vI 0,vI 0,vI 0,nS] NH rfl s1 fun T9 cr ct cu cv U0 K3=>(?_)))
   have K4:b6.heap.size≤T9:=by have:=k0.size;omega
   exact ⟨[],U0,QG,⟨_,rfl,K4,(by intro h;have:=lt_of s1 _ h;omega),K3⟩⟩
  ·intro o6 i0 o7 G0 u2 K5 y1 l3 l4
   obtain ⟨d7,U1,A3,K6,A4⟩:(UE b6 49 [vI 0,vI 0,vI 0,vI 0,nS]) (o7 1) (o6 10) i0:=l3 6 10 kR (by decide) kR kR
   have A5:=A4.lt
   obtain ⟨f9,U2,K7,K8,o8⟩:(UE b6 49 [vI 0,vI 0,vI 0,vI 0,nS]) (o7 2) (o6 11) i0:=l3 7 11 kR (by decide) kR kR
   have K9:=o8.lt
   have L0:∀ x∈([]:List Nat),x∈([]:List Nat)∨(b6.heap.size≤x∧x<i0.heap.size):=fun x hx=>.inl hx
   have I2:∀ x∈([]:List Nat),x∈([]:List Nat):=fun x hx=>hx
   have bD:∀ x∈([]:List Nat),x∈o7 1:=fun x hx=>u2 1 x hx
   have bE:∀ x∈([]:List Nat),x∈o7 2:=fun x hx=>u2 2 x hx
   have L1:∀ x∈(d7 :: ([]:List Nat)),x∈([]:List Nat)∨(b6.heap.size≤x∧x<i0.heap.size):=fun x hx=>by rcases List.mem_cons.1 hx with rfl|hx;exact .inr ⟨A3,A5⟩;exact L0 x hx
   have I3:∀ x∈([]:List Nat),x∈(d7 :: ([]:List Nat)):=fun x hx=>List.mem_cons_of_mem _ (I2 x hx)
   have A6:∀ x∈(f9 :: (d7 :: ([]:List Nat))),x∈([]:List Nat)∨(b6.heap.size≤x∧x<i0.heap.size):=fun x hx=>by rcases List.mem_cons.1 hx with rfl|hx;exact .inr ⟨K7,K9⟩;exact L1 x hx
   have bt:∀ x∈([]:List Nat),x∈(f9 :: (d7 :: ([]:List Nat))):=fun x hx=>List.mem_cons_of_mem _ (I3 x hx)
   have U3:=j7.adoptL G0 A6
   have o9:Mv ([]) b6 (f9 :: (d7 :: ([]:List Nat))) i0:=Mv.adoptL G0 A6
   have u3:HD d7 f9:=fun e=>K8 (e ▸ y1 1 2 d7 (by decide) A3 A5 K6)
   obtain ⟨A7,U4,u4⟩:∃ cs:List Value,o6 30 = .agg cs.toArray∧Enc.share.rd b6 ([]++O) cs (la[0]!):=l3 2 30 kR (by decide) kR kR
   obtain ⟨u5,U5,l5⟩:∃ cs:List Value,o6 33 = .agg cs.toArray∧Enc.share.rd b6 ([]++O) cs (lb[0]!):=l3 5 33 kR (by decide) kR kR
   have b0:=b0.mv o9
   have a9:=a9.mv o9
   have a2:=a2.mv o9
   have u4:Enc.share.rd i0 ((f9 :: (d7 :: ([]:List Nat)))++O) A7 (la[0]!):=Enc.mv Enc.share (x:=la[0]!) u4 o9
   have l5:Enc.share.rd i0 ((f9 :: (d7 :: ([]:List Nat)))++O) u5 (lb[0]!):=Enc.mv Enc.share (x:=lb[0]!) l5 o9
   obtain ⟨F2,rfl⟩:=AK (F:=o6) [(0,la_v),(1,lb_v),(2,secret_v),(116,undef),(10,vP (some ⟨d7,0,none⟩)),(11,vP (some ⟨f9,0,none⟩)),(30,vA A7.toArray),(33,vA u5.toArray)] ⟨l4 0 kR,l4 1 kR,l4 2 kR,l4 116 kR,U1,U2,U4,U5,trivial⟩
   clear l3 l4 u2 K5 y1
   obtain ⟨p0,rfl,h3⟩:=u4
   have:=h3.len_le
   refine CC (BF (vs:=[vI ((la[0]!).epoch),vI ((la[0]!).index),vI ((la[0]!).threshold),vI ((la[0]!).many),p0]) (.agg #[vI ((la[0]!).epoch),vI ((la[0]!).index),vI ((la[0]!).threshold),vI ((la[0]!).many),p0]) rfl rfl rfl DO (fun u hu=>by simp only [List.mem_cons,List.not_mem_nil,or_false] at hu;rcases hu with rfl|rfl|rfl|rfl|rfl <;> first|rfl|exact h3.oneCell) (by repeat (constructor)) A4 oT U3 fun U6 U7 p1 U8 u6=>(?_))
   have b0:=b0.mv p1
   have a9:=a9.mv p1
   have a2:=a2.mv p1
   have h3:=h3.mv p1
   have l5:Enc.share.rd U6 ((f9 :: (d7 :: ([]:List Nat)))++O) u5 (lb[0]!):=Enc.mv Enc.share (x:=lb[0]!) l5 p1
   have o8:=o8.keep U8 (BH (Ne.symm u3))
   obtain ⟨p2,rfl,l6⟩:=l5
   have:=l6.len_le
   refine CC (BF (vs:=[vI ((lb[0]!).epoch),vI ((lb[0]!).index),vI ((lb[0]!).threshold),vI ((lb[0]!).many),p2]) (.agg #[vI ((lb[0]!).epoch),vI ((lb[0]!).index),vI ((lb[0]!).threshold),vI ((lb[0]!).many),p2]) rfl rfl rfl DO (fun u hu=>by simp only [List.mem_cons,List.not_mem_nil,or_false] at hu;rcases hu with rfl|rfl|rfl|rfl|rfl <;> first|rfl|exact l6.oneCell) (by repeat (constructor)) o8 oT U7 fun cw U9 p3 V0 L2=>(?_))
   have b0:=b0.mv p3
   have a9:=a9.mv p3
   have a2:=a2.mv p3
   have h3:=h3.mv p3
   have l6:=l6.mv p3
   have u6:=u6.keep V0 (BH u3)
   refine AG (AB (?_))
   exact ⟨d7,f9,p0,p2,(f9 :: (d7 :: ([]:List Nat))),trivial,⟨_,AX _ ⟨rfl,rfl,rfl,rfl,rfl,rfl,trivial⟩⟩,U9,b0,a9,a2,(by rw [show ([vI (la[0]!.epoch),vI (la[0]!.index),vI (la[0]!.threshold),vI (la[0]!.many),p0]:List Value)=[vI ((la[0]!).epoch),vI ((la[0]!).index),vI ((la[0]!).threshold),vI ((la[0]!).many),p0] from by rfl];exact u6),(by rw [show la[0]!.data=(la[0]!).data from by rfl];exact h3),(by repeat (constructor)),(by rw [show ([vI (lb[0]!.epoch),vI (lb[0]!.index),vI (lb[0]!.threshold),vI (lb[0]!.many),p2]:List Value)=[vI ((lb[0]!).epoch),vI ((lb[0]!).index),vI ((lb[0]!).threshold),vI ((lb[0]!).many),p2] from by rfl];exact L2),(by rw [show lb[0]!.data=(lb[0]!).data from by rfl];exact l6),(by repeat (constructor)),u3⟩
  intro cx_ hcx_
  match cx_,hcx_ with
  | 0,_=>
   intro t4 j8 p4 G1 u7 L3 y2 p5 l7
   obtain ⟨f0,V1,A8,L4,A9⟩:(UE b6 49 [vI 0,vI 0,vI 0,vI 0,nS]) (p4 1) (t4 10) j8:=p5 6 10 kR (by decide) kR kR
   have B0:=A9.lt
   obtain ⟨i1,V2,L5,L6,p6⟩:(UE b6 49 [vI 0,vI 0,vI 0,vI 0,nS]) (p4 2) (t4 11) j8:=p5 7 11 kR (by decide) kR kR
   have L7:=p6.lt
   have L8:∀ x∈([]:List Nat),x∈([]:List Nat)∨(b6.heap.size≤x∧x<j8.heap.size):=fun x hx=>.inl hx
   have I4:∀ x∈([]:List Nat),x∈([]:List Nat):=fun x hx=>hx
   have bF:∀ x∈([]:List Nat),x∈p4 1:=fun x hx=>u7 1 x hx
   have bG:∀ x∈([]:List Nat),x∈p4 2:=fun x hx=>u7 2 x hx
   have L9:∀ x∈(f0 :: ([]:List Nat)),x∈([]:List Nat)∨(b6.heap.size≤x∧x<j8.heap.size):=fun x hx=>by rcases List.mem_cons.1 hx with rfl|hx;exact .inr ⟨A8,B0⟩;exact L8 x hx
   have I5:∀ x∈([]:List Nat),x∈(f0 :: ([]:List Nat)):=fun x hx=>List.mem_cons_of_mem _ (I4 x hx)
   have B1:∀ x∈(i1 :: (f0 :: ([]:List Nat))),x∈([]:List Nat)∨(b6.heap.size≤x∧x<j8.heap.size):=fun x hx=>by rcases List.mem_cons.1 hx with rfl|hx;exact .inr ⟨L5,L7⟩;exact L9 x hx
   have bu:∀ x∈([]:List Nat),x∈(i1 :: (f0 :: ([]:List Nat))):=fun x hx=>List.mem_cons_of_mem _ (I5 x hx)
   have V3:=j7.adoptL G1 B1
   have t5:Mv ([]) b6 (i1 :: (f0 :: ([]:List Nat))) j8:=Mv.adoptL G1 B1
   have u9:HD f0 i1:=fun e=>L6 (e ▸ y2 1 2 f0 (by decide) A8 B0 L4)
   obtain ⟨B2,V4,v0⟩:∃ cs:List Value,t4 30 = .agg cs.toArray∧Enc.share.rd b6 ([]++O) cs (la[0]!):=p5 2 30 kR (by decide) kR kR
   have b0:=b0.mv t5
   have a9:=a9.mv t5
   have a2:=a2.mv t5
   have v0:Enc.share.rd j8 ((i1 :: (f0 :: ([]:List Nat)))++O) B2 (la[0]!):=Enc.mv Enc.share (x:=la[0]!) v0 t5
   obtain ⟨F2,rfl⟩:=AK (F:=t4) [(0,la_v),(1,lb_v),(2,secret_v),(116,undef),(10,vP (some ⟨f0,0,none⟩)),(11,vP (some ⟨i1,0,none⟩)),(30,vA B2.toArray)] ⟨l7 0 kR,l7 1 kR,l7 2 kR,l7 116 kR,V1,V2,V4,trivial⟩
   clear p5 l7 u7 L3 y2
   obtain ⟨p7,rfl,h4⟩:=v0
   have:=h4.len_le
   refine CC (BF (vs:=[vI ((la[0]!).epoch),vI ((la[0]!).index),vI ((la[0]!).threshold),vI ((la[0]!).many),p7]) (.agg #[vI ((la[0]!).epoch),vI ((la[0]!).index),vI ((la[0]!).threshold),vI ((la[0]!).many),p7]) rfl rfl rfl DO (fun u hu=>by simp only [List.mem_cons,List.not_mem_nil,or_false] at hu;rcases hu with rfl|rfl|rfl|rfl|rfl <;> first|rfl|exact h4.oneCell) (by repeat (constructor)) A9 oT V3 fun cx V5 t6 V6 v1=>(?_))
   have b0:=b0.mv t6
   have a9:=a9.mv t6
   have a2:=a2.mv t6
   have h4:=h4.mv t6
   have p6:=p6.keep V6 (BH (Ne.symm u9))
   refine AA (AE (lb_v) rfl (AA (CR U27_ DO .i64 (0:Int) 0 rfl rfl rfl a9 oM fun cy M0=>(AA (CJ U49_ rfl DO rfl M0 fun bH M1=>(?_))))))
   obtain ⟨p8,rfl,l8⟩:=M1
   have:=l8.len_le
   refine CC (BF (vs:=[vI ((lb[0]!).epoch),vI ((lb[0]!).index),vI ((lb[0]!).threshold),vI ((lb[0]!).many),p8]) (.agg #[vI ((lb[0]!).epoch),vI ((lb[0]!).index),vI ((lb[0]!).threshold),vI ((lb[0]!).many),p8]) rfl rfl rfl DO (fun u hu=>by simp only [List.mem_cons,List.not_mem_nil,or_false] at hu;rcases hu with rfl|rfl|rfl|rfl|rfl <;> first|rfl|exact l8.oneCell) (by repeat (constructor)) p6 oT V5 fun cz V7 p9 V8 M2=>(?_))
   have b0:=b0.mv p9
   have a9:=a9.mv p9
   have a2:=a2.mv p9
   have h4:=h4.mv p9
   have l8:=l8.mv p9
   have v1:=v1.keep V8 (BH u9)
   refine AG (AB (?_))
   exact ⟨f0,i1,p7,p8,(i1 :: (f0 :: ([]:List Nat))),trivial,⟨_,AX _ ⟨rfl,rfl,rfl,rfl,rfl,rfl,trivial⟩⟩,V7,b0,a9,a2,(by rw [show ([vI (la[0]!.epoch),vI (la[0]!.index),vI (la[0]!.threshold),vI (la[0]!.many),p7]:List Value)=[vI ((la[0]!).epoch),vI ((la[0]!).index),vI ((la[0]!).threshold),vI ((la[0]!).many),p7] from by rfl];exact v1),(by rw [show la[0]!.data=(la[0]!).data from by rfl];exact h4),(by repeat (constructor)),(by rw [show ([vI (lb[0]!.epoch),vI (lb[0]!.index),vI (lb[0]!.threshold),vI (lb[0]!.many),p8]:List Value)=[vI ((lb[0]!).epoch),vI ((lb[0]!).index),vI ((lb[0]!).threshold),vI ((lb[0]!).many),p8] from by rfl];exact M2),(by rw [show lb[0]!.data=(lb[0]!).data from by rfl];exact l8),(by repeat (constructor)),u9⟩
  | 1,_=>
   intro q0 j9 q1 G2 v2 M3 y3 l9 m0
   obtain ⟨f1,V9,B3,M4,B4⟩:(UE b6 49 [vI 0,vI 0,vI 0,vI 0,nS]) (q1 1) (q0 10) j9:=l9 6 10 kR (by decide) kR kR
   have B5:=B4.lt
   obtain ⟨i2,W0,M5,M6,q2⟩:(UE b6 49 [vI 0,vI 0,vI 0,vI 0,nS]) (q1 2) (q0 11) j9:=l9 7 11 kR (by decide) kR kR
   have M7:=q2.lt
   have M8:∀ x∈([]:List Nat),x∈([]:List Nat)∨(b6.heap.size≤x∧x<j9.heap.size):=fun x hx=>.inl hx
   have I6:∀ x∈([]:List Nat),x∈([]:List Nat):=fun x hx=>hx
   have bI:∀ x∈([]:List Nat),x∈q1 1:=fun x hx=>v2 1 x hx
   have bJ:∀ x∈([]:List Nat),x∈q1 2:=fun x hx=>v2 2 x hx
   have M9:∀ x∈(f1 :: ([]:List Nat)),x∈([]:List Nat)∨(b6.heap.size≤x∧x<j9.heap.size):=fun x hx=>by rcases List.mem_cons.1 hx with rfl|hx;exact .inr ⟨B3,B5⟩;exact M8 x hx
   have I7:∀ x∈([]:List Nat),x∈(f1 :: ([]:List Nat)):=fun x hx=>List.mem_cons_of_mem _ (I6 x hx)
   have B6:∀ x∈(i2 :: (f1 :: ([]:List Nat))),x∈([]:List Nat)∨(b6.heap.size≤x∧x<j9.heap.size):=fun x hx=>by rcases List.mem_cons.1 hx with rfl|hx;exact .inr ⟨M5,M7⟩;exact M9 x hx
   have bv:∀ x∈([]:List Nat),x∈(i2 :: (f1 :: ([]:List Nat))):=fun x hx=>List.mem_cons_of_mem _ (I7 x hx)
   have W1:=j7.adoptL G2 B6
   have q3:Mv ([]) b6 (i2 :: (f1 :: ([]:List Nat))) j9:=Mv.adoptL G2 B6
   have v3:HD f1 i2:=fun e=>M6 (e ▸ y3 1 2 f1 (by decide) B3 B5 M4)
   obtain ⟨B7,W2,v4⟩:∃ cs:List Value,q0 30 = .agg cs.toArray∧Enc.share.rd b6 ([]++O) cs (la[0]!):=l9 2 30 kR (by decide) kR kR
   obtain ⟨W3,W4,j2⟩:∃ v,q0 31=v∧BB Enc.share b6 ([]++O) v (lb):=⟨_,rfl,l9 3 31 kR (by decide) kR kR⟩
   have:=j2.len_le
   have b0:=b0.mv q3
   have a9:=a9.mv q3
   have a2:=a2.mv q3
   have v4:Enc.share.rd j9 ((i2 :: (f1 :: ([]:List Nat)))++O) B7 (la[0]!):=Enc.mv Enc.share (x:=la[0]!) v4 q3
   have j2:=j2.mv q3
   obtain ⟨F2,rfl⟩:=AK (F:=q0) [(0,la_v),(1,lb_v),(2,secret_v),(116,undef),(10,vP (some ⟨f1,0,none⟩)),(11,vP (some ⟨i2,0,none⟩)),(30,vA B7.toArray),(31,W3)] ⟨m0 0 kR,m0 1 kR,m0 2 kR,m0 116 kR,V9,W0,W2,W4,trivial⟩
   clear l9 m0 v2 M3 y3
   obtain ⟨q4,rfl,h5⟩:=v4
   have:=h5.len_le
   refine CC (BF (vs:=[vI ((la[0]!).epoch),vI ((la[0]!).index),vI ((la[0]!).threshold),vI ((la[0]!).many),q4]) (.agg #[vI ((la[0]!).epoch),vI ((la[0]!).index),vI ((la[0]!).threshold),vI ((la[0]!).many),q4]) rfl rfl rfl DO (fun u hu=>by simp only [List.mem_cons,List.not_mem_nil,or_false] at hu;rcases hu with rfl|rfl|rfl|rfl|rfl <;> first|rfl|exact h5.oneCell) (by repeat (constructor)) B4 oT W1 fun cA W5 q5 W6 v5=>(?_))
   have b0:=b0.mv q5
   have a9:=a9.mv q5
   have a2:=a2.mv q5
   have h5:=h5.mv q5
   have j2:=j2.mv q5
   have q2:=q2.keep W6 (BH (Ne.symm v3))
   refine AA (CR U27_ DO .i64 (0:Int) 0 rfl rfl rfl j2 oM fun cB N0=>(AA (CJ U49_ rfl DO rfl N0 fun bK N1=>(?_))))
   obtain ⟨q6,rfl,m2⟩:=N1
   have:=m2.len_le
   refine CC (BF (vs:=[vI ((lb[0]!).epoch),vI ((lb[0]!).index),vI ((lb[0]!).threshold),vI ((lb[0]!).many),q6]) (.agg #[vI ((lb[0]!).epoch),vI ((lb[0]!).index),vI ((lb[0]!).threshold),vI ((lb[0]!).many),q6]) rfl rfl rfl DO (fun u hu=>by simp only [List.mem_cons,List.not_mem_nil,or_false] at hu;rcases hu with rfl|rfl|rfl|rfl|rfl <;> first|rfl|exact m2.oneCell) (by repeat (constructor)) q2 oT W5 fun cC W7 q7 W8 N2=>(?_))
   have b0:=b0.mv q7
   have a9:=a9.mv q7
   have a2:=a2.mv q7
   have h5:=h5.mv q7
   have m2:=m2.mv q7
   have v5:=v5.keep W8 (BH v3)
   refine AG (AB (?_))
   exact ⟨f1,i2,q4,q6,(i2 :: (f1 :: ([]:List Nat))),trivial,⟨_,AX _ ⟨rfl,rfl,rfl,rfl,rfl,rfl,trivial⟩⟩,W7,b0,a9,a2,(by rw [show ([vI (la[0]!.epoch),vI (la[0]!.index),vI (la[0]!.threshold),vI (la[0]!.many),q4]:List Value)=[vI ((la[0]!).epoch),vI ((la[0]!).index),vI ((la[0]!).threshold),vI ((la[0]!).many),q4] from by rfl];exact v5),(by rw [show la[0]!.data=(la[0]!).data from by rfl];exact h5),(by repeat (constructor)),(by rw [show ([vI (lb[0]!.epoch),vI (lb[0]!.index),vI (lb[0]!.threshold),vI (lb[0]!.many),q6]:List Value)=[vI ((lb[0]!).epoch),vI ((lb[0]!).index),vI ((lb[0]!).threshold),vI ((lb[0]!).many),q6] from by rfl];exact N2),(by rw [show lb[0]!.data=(lb[0]!).data from by rfl];exact m2),(by repeat (constructor)),v3⟩
  | 2,_=>
   intro q8 k2 q9 G3 v6 N3 y4 m3 m4
   obtain ⟨f2,W9,B8,N4,B9⟩:(UE b6 49 [vI 0,vI 0,vI 0,vI 0,nS]) (q9 1) (q8 10) k2:=m3 6 10 kR (by decide) kR kR
   have C0:=B9.lt
   obtain ⟨i3,X0,N5,N6,r0⟩:(UE b6 49 [vI 0,vI 0,vI 0,vI 0,nS]) (q9 2) (q8 11) k2:=m3 7 11 kR (by decide) kR kR
   have N7:=r0.lt
   have N8:∀ x∈([]:List Nat),x∈([]:List Nat)∨(b6.heap.size≤x∧x<k2.heap.size):=fun x hx=>.inl hx
   have I8:∀ x∈([]:List Nat),x∈([]:List Nat):=fun x hx=>hx
   have bL:∀ x∈([]:List Nat),x∈q9 1:=fun x hx=>v6 1 x hx
   have bM:∀ x∈([]:List Nat),x∈q9 2:=fun x hx=>v6 2 x hx
   have N9:∀ x∈(f2 :: ([]:List Nat)),x∈([]:List Nat)∨(b6.heap.size≤x∧x<k2.heap.size):=fun x hx=>by rcases List.mem_cons.1 hx with rfl|hx;exact .inr ⟨B8,C0⟩;exact N8 x hx
   have I9:∀ x∈([]:List Nat),x∈(f2 :: ([]:List Nat)):=fun x hx=>List.mem_cons_of_mem _ (I8 x hx)
   have C1:∀ x∈(i3 :: (f2 :: ([]:List Nat))),x∈([]:List Nat)∨(b6.heap.size≤x∧x<k2.heap.size):=fun x hx=>by rcases List.mem_cons.1 hx with rfl|hx;exact .inr ⟨N5,N7⟩;exact N9 x hx
   have bw:∀ x∈([]:List Nat),x∈(i3 :: (f2 :: ([]:List Nat))):=fun x hx=>List.mem_cons_of_mem _ (I9 x hx)
   have X1:=j7.adoptL G3 C1
   have r4:Mv ([]) b6 (i3 :: (f2 :: ([]:List Nat))) k2:=Mv.adoptL G3 C1
   have v7:HD f2 i3:=fun e=>N6 (e ▸ y4 1 2 f2 (by decide) B8 C0 N4)
   obtain ⟨C2,X2,v8⟩:∃ cs:List Value,q8 30 = .agg cs.toArray∧Enc.share.rd b6 ([]++O) cs (la[0]!):=m3 2 30 kR (by decide) kR kR
   obtain ⟨X3,X4,m5⟩:∃ aX_,q8 32 = .pointer (some aX_)∧PT Enc.share b6 ([]++O) (.pointer (some aX_)) (lb[0]!):=m3 4 32 kR (by decide) kR kR
   have b0:=b0.mv r4
   have a9:=a9.mv r4
   have a2:=a2.mv r4
   have v8:Enc.share.rd k2 ((i3 :: (f2 :: ([]:List Nat)))++O) C2 (la[0]!):=Enc.mv Enc.share (x:=la[0]!) v8 r4
   have m5:=m5.mv r4
   obtain ⟨F2,rfl⟩:=AK (F:=q8) [(0,la_v),(1,lb_v),(2,secret_v),(116,undef),(10,vP (some ⟨f2,0,none⟩)),(11,vP (some ⟨i3,0,none⟩)),(30,vA C2.toArray),(32,vP (some X3))] ⟨m4 0 kR,m4 1 kR,m4 2 kR,m4 116 kR,W9,X0,X2,X4,trivial⟩
   clear m3 m4 v6 N3 y4
   obtain ⟨r5,rfl,h6⟩:=v8
   have:=h6.len_le
   refine CC (BF (vs:=[vI ((la[0]!).epoch),vI ((la[0]!).index),vI ((la[0]!).threshold),vI ((la[0]!).many),r5]) (.agg #[vI ((la[0]!).epoch),vI ((la[0]!).index),vI ((la[0]!).threshold),vI ((la[0]!).many),r5]) rfl rfl rfl DO (fun u hu=>by simp only [List.mem_cons,List.not_mem_nil,or_false] at hu;rcases hu with rfl|rfl|rfl|rfl|rfl <;> first|rfl|exact h6.oneCell) (by repeat (constructor)) B9 oT X1 fun cD X5 r6 X6 v9=>(?_))
   have b0:=b0.mv r6
   have a9:=a9.mv r6
   have a2:=a2.mv r6
   have h6:=h6.mv r6
   have m5:=m5.mv r6
   have r0:=r0.keep X6 (BH (Ne.symm v7))
   refine AA (CJ U49_ rfl DO rfl m5 fun bN O0=>(?_))
   obtain ⟨r7,rfl,m6⟩:=O0
   have:=m6.len_le
   refine CC (BF (vs:=[vI ((lb[0]!).epoch),vI ((lb[0]!).index),vI ((lb[0]!).threshold),vI ((lb[0]!).many),r7]) (.agg #[vI ((lb[0]!).epoch),vI ((lb[0]!).index),vI ((lb[0]!).threshold),vI ((lb[0]!).many),r7]) rfl rfl rfl DO (fun u hu=>by simp only [List.mem_cons,List.not_mem_nil,or_false] at hu;rcases hu with rfl|rfl|rfl|rfl|rfl <;> first|rfl|exact m6.oneCell) (by repeat (constructor)) r0 oT X5 fun cE X7 r8 X8 O1=>(?_))
   have b0:=b0.mv r8
   have a9:=a9.mv r8
   have a2:=a2.mv r8
   have h6:=h6.mv r8
   have m6:=m6.mv r8
   have v9:=v9.keep X8 (BH v7)
   refine AG (AB (?_))
   exact ⟨f2,i3,r5,r7,(i3 :: (f2 :: ([]:List Nat))),trivial,⟨_,AX _ ⟨rfl,rfl,rfl,rfl,rfl,rfl,trivial⟩⟩,X7,b0,a9,a2,(by rw [show ([vI (la[0]!.epoch),vI (la[0]!.index),vI (la[0]!.threshold),vI (la[0]!.many),r5]:List Value)=[vI ((la[0]!).epoch),vI ((la[0]!).index),vI ((la[0]!).threshold),vI ((la[0]!).many),r5] from by rfl];exact v9),(by rw [show la[0]!.data=(la[0]!).data from by rfl];exact h6),(by repeat (constructor)),(by rw [show ([vI (lb[0]!.epoch),vI (lb[0]!.index),vI (lb[0]!.threshold),vI (lb[0]!.many),r7]:List Value)=[vI ((lb[0]!).epoch),vI ((lb[0]!).index),vI ((lb[0]!).threshold),vI ((lb[0]!).many),r7] from by rfl];exact O1),(by rw [show lb[0]!.data=(lb[0]!).data from by rfl];exact m6),(by repeat (constructor)),v7⟩
 intro F X9 hI
 clear b0 a9 a2
 obtain ⟨b3,b4,d5,d6,k3,cF,⟨cG,rfl⟩,k4,b0,a9,a2,a0,a4,d1,a1,a5,d2,A0⟩:=hI
 have:=a4.len_le
 have:=a5.len_le
 refine AF (AF (AC kR (AA (AT 2 HP rfl (AA (AU U3_ rfl (vI (la[0]!.threshold)) rfl a0 rfl (AA (AT 2 HP rfl (AA (AU U3_ rfl (vI (lb[0]!.threshold)) rfl a1 rfl (AA (CM .i64 (la[0]!.threshold) (lb[0]!.threshold) rfl rfl (AA (AE (vO ((la[0]!.threshold) != (lb[0]!.threshold))) rfl (?_)))))))))))))))
 cases C3:((la[0]!.threshold) != (lb[0]!.threshold))
 ·have bO:la[0]!.threshold=lb[0]!.threshold:=by simpa using C3
  refine AW rfl (AT 3 HW rfl (AW rfl (AU U3_ rfl (vI (la[0]!.many)) rfl a0 rfl (AW rfl (AT 3 HW rfl (AW rfl (AU U3_ rfl (vI (lb[0]!.many)) rfl a1 rfl (AW rfl (CM .i64 (la[0]!.many) (lb[0]!.many) rfl rfl (AA (BA (vO ((la[0]!.many) != (lb[0]!.many))) rfl rfl (AA (AE (vO ((la[0]!.many) != (lb[0]!.many))) rfl (?_))))))))))))))
  cases C4:((la[0]!.many) != (lb[0]!.many))
  ·have bP:la[0]!.many=lb[0]!.many:=by simpa using C4
   refine AW rfl (AT 4 FX rfl (AW rfl (AU U26_ rfl (d5) rfl a0 rfl (AW rfl (BP U26_ rfl a4 (AW rfl (AT 4 FX rfl (AW rfl (AU U26_ rfl (d6) rfl a1 rfl (AW rfl (BP U26_ rfl a5 (AW rfl (CM .i64 ((la[0]!.data).length:Int) ((lb[0]!.data).length:Int) rfl rfl (AA (BA (vO (((la[0]!.data).length:Int) != ((lb[0]!.data).length:Int))) rfl rfl (AA (AE (vO (((la[0]!.data).length:Int) != ((lb[0]!.data).length:Int))) rfl (?_))))))))))))))))))
   cases C5:(((la[0]!.data).length:Int) != ((lb[0]!.data).length:Int))
   ·have bQ:((la[0]!.data).length:Int)=((lb[0]!.data).length:Int):=by simpa using C5
    refine AW rfl (AT 0 HO rfl (AW rfl (AU U3_ rfl (vI (lb[0]!.epoch)) rfl a1 rfl (AW rfl (AT 0 HO rfl (AW rfl (AU U3_ rfl (vI (la[0]!.epoch)) rfl a0 rfl (AW rfl (DF .i64 (la[0]!.epoch) (1:Int) ((la[0]!.epoch)+(1:Int)) rfl rfl (GA oM oM) (AW rfl (CM .i64 (lb[0]!.epoch) ((la[0]!.epoch)+(1:Int)) rfl rfl (AA (BA (vO ((lb[0]!.epoch) != ((la[0]!.epoch)+(1:Int)))) rfl rfl (AG (AB (AJ ((lb[0]!.epoch) != ((la[0]!.epoch)+(1:Int))) rfl rfl (fun w0=>?_) (fun w0=>?_)))))))))))))))))
    ·have bR:lb[0]!.epoch≠(la[0]!.epoch)+(1:Int):=by simpa using w0
     refine AF (AC kR (AA (AD (nS) rfl (AA (AD (vI 460) rfl (AG (AB (AM (AI (QY rfl (EJ rfl rfl rfl rfl) (?_)))))))))))
     have Y0:((CD la lb secret).1)=([]):=by exact congrArg (fun p=>p.1) (show CD la lb secret=_ from MM aS aS (IT oM))
     have Y1:((CD la lb secret).2)=(460:Int):=by exact congrArg (fun p=>p.2) (show CD la lb secret=_ from MM aS aS (IT oM))
     exact ⟨_,rfl,k4.keep,by rw [Y0,Y1];exact ⟨.slice none 0 0,rfl,BB.nil _ _ _⟩⟩
    have bS:lb[0]!.epoch=(la[0]!.epoch)+(1:Int):=by simpa using w0
    have w2:NX la[0]! lb[0]! = false:=(RG _ _).2 oM
    refine AR (AB (AF (AC kR (AA (AE (la_v) rfl (AA (AE (secret_v) rfl (AA (AZ (vs:=[la_v,secret_v]) enter_55 (XT (O:=k3++O) la_v la secret_v secret X9 b0 a2 k4.lt) rfl k4 fun cH Y2 y8 r9 G4 Y3=>(?_))))))))))
    obtain ⟨c8,rfl,w3,a8⟩:=Y3
    obtain ⟨a8,O2⟩:=own_lent k4 w3 a8
    have O3:∀ b,c8.ownBlock=some b→b≠b3:=fun b hb=>by have:=a0.lt;have:=w3 b hb;omega
    have O4:∀ b,c8.ownBlock=some b→b≠b4:=fun b hb=>by have:=a1.lt;have:=w3 b hb;omega
    have b0:=b0.mv r9
    have a9:=a9.mv r9
    have a2:=a2.mv r9
    have a4:=a4.mv r9
    have a5:=a5.mv r9
    have a0:=a0.keep G4 (by simp)
    have a1:=a1.keep G4 (by simp)
    refine AA (AE (vT #[c8,vI ((BJ la secret).2)]) rfl (AA (AO (c8) rfl rfl (AA (AO (vI ((BJ la secret).2)) rfl rfl (AA (AD (c8) rfl (AA (AD (vI ((BJ la secret).2)) rfl (AG (AB (AF (AF (AC kR (AA (AE (vI ((BJ la secret).2)) rfl (AA (CM .i64 ((BJ la secret).2) (0:Int) rfl rfl (AG (AB (AJ (((BJ la secret).2) != (0:Int)) rfl rfl (fun w4=>?_) (fun w4=>?_))))))))))))))))))))))
    ·have bT:(BJ la secret).2≠(0:Int):=by simpa using w4
     refine AF (AC kR (AA (AE (vI ((BJ la secret).2)) rfl (AA (AD (nS) rfl (AA (AD (vI ((BJ la secret).2)) rfl (AG (AB (AM (AI (QY rfl (EJ rfl rfl rfl rfl) (?_)))))))))))))
     have Y4:((CD la lb secret).1)=([]):=by exact congrArg (fun p=>p.1) (show CD la lb secret=_ from mixed_4 hca hcb w2 aS)
     have Y5:((CD la lb secret).2)=((BJ la secret).2):=by exact congrArg (fun p=>p.2) (show CD la lb secret=_ from mixed_4 hca hcb w2 aS)
     exact ⟨_,rfl,y8.keep,by rw [Y4,Y5];exact ⟨.slice none 0 0,rfl,BB.nil _ _ _⟩⟩
    have O5:(BJ la secret).2=(0:Int):=by simpa using w4
    have hex:(BJ la secret).2=0:=O5
    have w5:=mx_of hcb hex w2
    have hlb8:=hvb.len8
    have hfe:=PE hex
    refine AR (AB (AF (AC kR (AA (AE (secret_v) rfl (AA (AT 0 HO rfl (AA (AU U3_ rfl (vI (la[0]!.epoch)) rfl a0 rfl (AA (AT 2 HP rfl (AA (AU U3_ rfl (vI (la[0]!.threshold)) rfl a0 rfl (AA (AT 3 HW rfl (AA (AU U3_ rfl (vI (la[0]!.many)) rfl a0 rfl (AA (AE (c8) rfl (AA (AZ (vs:=[secret_v,vI (la[0]!.epoch),vI (la[0]!.threshold),vI (la[0]!.many),c8]) VX (c_split (O:=k3++O) secret_v secret (la[0]!.epoch) (la[0]!.threshold) (la[0]!.many) c8 ((BJ la secret).1) Y2 a2 (a8.rd (fun x hx=>.inl hx) O2) y8.lt) rfl y8 fun cI Y6 Y7 n6 y9 Y8=>(?_))))))))))))))))))))))
    obtain ⟨i4,rfl,b1⟩:=Y8
    have:=b1.len_le
    have b1:BB Enc.share Y6 (k3++O) i4 (CV la secret):=b1
    have b0:=b0.mv n6
    have a9:=a9.mv n6
    have a2:=a2.mv n6
    have a8:=a8.mv n6 y9 (by simp)
    have a4:=a4.mv n6
    have a5:=a5.mv n6
    have a0:=a0.keep y9 (by simp)
    have a1:=a1.keep y9 (by simp)
    refine AA (AE (vT #[i4,vI ((BY secret (la[0]!.epoch) (la[0]!.threshold) (la[0]!.many) ((BJ la secret).1)).2)]) rfl (AA (AO (i4) rfl rfl (AA (AO (vI ((BY secret (la[0]!.epoch) (la[0]!.threshold) (la[0]!.many) ((BJ la secret).1)).2)) rfl rfl (AA (AD (i4) rfl (AA (AD (vI ((BY secret (la[0]!.epoch) (la[0]!.threshold) (la[0]!.many) ((BJ la secret).1)).2)) rfl (AG (AB (AF (AF (AC kR (AA (AE (vI ((BY secret (la[0]!.epoch) (la[0]!.threshold) (la[0]!.many) ((BJ la secret).1)).2)) rfl (AA (CM .i64 ((BY secret (la[0]!.epoch) (la[0]!.threshold) (la[0]!.many) ((BJ la secret).1)).2) (0:Int) rfl rfl (AG (AB (?_)))))))))))))))))))))
    have O6:(((BY secret (la[0]!.epoch) (la[0]!.threshold) (la[0]!.many) ((BJ la secret).1)).2) != (0:Int))=false:=(by rw [YQ hex];rfl)
    rw [O6]
    refine AJ false rfl rfl (fun h=>by cases h) (fun _=>AR (AB (AF (AC kR (AA (CZ [nS] z_27 rfl Y7 fun c2 Y9 Z0 G5 k5 z0 j3=>(?_)))))))
    have O7:HD b3 c2:=by show b3≠c2;have:=a0.lt;omega
    have O8:HD b4 c2:=by show b4≠c2;have:=a1.lt;omega
    have C6:∀ b,c8.ownBlock=some b→b≠c2:=fun b hb=>by have:=(a8.lt b hb).2;omega
    clear Z0
    have b0:=b0.mv k5
    have a9:=a9.mv k5
    have a2:=a2.mv k5
    have a8:=a8.mv k5 z0 (by simp)
    have b1:=b1.mv k5
    have a4:=a4.mv k5
    have a5:=a5.mv k5
    have a0:=a0.keep z0 (by simp)
    have a1:=a1.keep z0 (by simp)
    refine AG (AB (AF (AF (AC kR (AA (AE (lb_v) rfl (AA (AE (i4) rfl (AA (AZ (vs:=[lb_v,i4]) enter_56 (c_pairs (O:=(c2 :: k3)++O) lb_v lb i4 (CV la secret) Y9 a9 b1 G5.lt) rfl G5 fun cJ Z1 Z2 k6 t7 Z3=>(?_)))))))))))
    obtain ⟨G6,s2,rfl,b8,b5⟩:=Z3
    have b0:=b0.mv k6
    have a9:=a9.mv k6
    have a2:=a2.mv k6
    have a8:=a8.mv k6 t7 (by simp)
    have b1:=b1.mv k6
    have a4:=a4.mv k6
    have a5:=a5.mv k6
    have a0:=a0.keep t7 (by simp)
    have a1:=a1.keep t7 (by simp)
    have j3:=j3.keep t7 (by simp)
    refine AG (AB (BD (cw_range (fs:=[]) (lb:=[vP (some G6),vP (some s2)]) rfl rfl enter_90 rfl (fun c0 c1 Z4 J0 _ F9 C7 O9 n7 a7 b7=>?_))))
    have w6:HD b3 c1∧HD b3 c0:=by show b3≠c1∧b3≠c0;have:=a0.lt;omega
    have w7:HD b4 c1∧HD b4 c0:=by show b4≠c1∧b4≠c0;have:=a1.lt;omega
    have m7:HD c2 c1∧HD c2 c0:=by show c2≠c1∧c2≠c0;have:=j3.lt;omega
    have m9:∀ b,c8.ownBlock=some b→b≠c1∧b≠c0:=fun b hb=>by have:=(a8.lt b hb).2;omega
    have Z5:=Z2.adopt2 n7 C7 oM a7.lt b7.lt
    have g6:Mv (c2 :: k3) Z1 (c0 :: c1 :: (c2 :: k3)) Z4:=Mv.adopt2 n7 C7 oM
    have b0:=b0.mv g6
    have a9:=a9.mv g6
    have a2:=a2.mv g6
    have a8:=a8.mv g6 n7 (by simp)
    have b1:=b1.mv g6
    have a4:=a4.mv g6
    have a5:=a5.mv g6
    have b8:=b8.mv g6
    have b5:=b5.mv g6
    have a0:=a0.keep n7 (by simp)
    have a1:=a1.keep n7 (by simp)
    have j3:=j3.keep n7 (by simp)
    have w8:HD c1 c0:=by show c1≠c0;omega
    clear O9
    refine CE 29 Tryz.func90 rfl rfl oT (fun cK=>AF (AC kR (AA (BL U27_ rfl rfl b8 fun z1 b9=>(?_)))))
    have:=b9.len_le
    refine AA (BP U27_ rfl b9 (AA (AE (vI 0) rfl (AG (AB (BD (DB (fun mI FI wI=>∃ (k:Nat) (b2:Value) (B:List Nat),k≤lb.length∧mI=lb.length - k∧(∃ F1,FI=GD F1 [(0,vN (.yield c0) #[] #[]),(2,vP (some s2)),(7,z1),(8,vI (lb.length:Int)),(9,vI ((k:Nat):Int)),(29,undef)])∧St w O wI B∧EX Enc.share 49 w.heap.size (B++O) wI b2 (GP lb (CV la secret) k)∧(∀ b,b2.ownBlock=some b→b∈B)∧PT (Enc.slice Enc.share) wI (B++O) (.pointer (some s2)) ((CV la secret))∧BB Enc.share wI (B++O) (z1) (lb)∧BB Enc.share wI (B++O) (la_v) (la)∧BB Enc.share wI (B++O) (lb_v) (lb)∧BB Enc.u8 wI (B++O) (secret_v) (secret)∧EX Enc.u8 5 w.heap.size (B++O) wI c8 ((BJ la secret).1)∧BB Enc.share wI (B++O) (i4) ((CV la secret))∧BB Enc.u8 wI (B++O) (d5) (la[0]!.data)∧BB Enc.u8 wI (B++O) (d6) (lb[0]!.data)∧PT (Enc.slice Enc.share) wI (B++O) (.pointer (some G6)) (lb)∧Ob wI c1 (.deferred (some []))∧c1∈B∧IX wI c2 27 [b2]∧c2∈B∧IX wI b3 49 [vI (la[0]!.epoch),vI (la[0]!.index),vI (la[0]!.threshold),vI (la[0]!.many),d5]∧b3∈B∧IX wI b4 49 [vI (lb[0]!.epoch),vI (lb[0]!.index),vI (lb[0]!.threshold),vI (lb[0]!.many),d6]∧b4∈B∧Ob wI c0 (J0 .ready none)∧c0∈B∧(∀ b,b2.ownBlock=some b→b≠c1)∧(∀ b,b2.ownBlock=some b→b≠c2)∧(∀ b,b2.ownBlock=some b→b≠b3)∧(∀ b,b2.ownBlock=some b→b≠b4)∧(∀ b,b2.ownBlock=some b→b≠c0)∧(∀ b,b2.ownBlock=some b→c8.ownBlock≠some b)∧(∀ b,c8.ownBlock=some b→b2.ownBlock≠some b)) (lb.length - (0)) ?_ ?_)))))))
    ·exact ⟨(0),(.slice none 0 0),(c0 :: c1 :: (c2 :: k3)),oM,rfl,⟨_,AX _ ⟨rfl,rfl,rfl,rfl,(by rfl),rfl,trivial⟩⟩,Z5,(by rw [show GP lb (CV la secret) (0)=[] from rfl];exact (EX.nil Enc.share 49 _ _ _)),(by intro b hb;simp [Value.ownBlock] at hb),b5,b9,b0,a9,a2,a8,b1,a4,a5,b8,a7,(by (repeat (first|exact List.mem_cons_self|apply List.mem_cons_of_mem))),j3,(by (repeat (first|exact List.mem_cons_self|apply List.mem_cons_of_mem))),a0,(by (repeat (first|assumption|apply List.mem_cons_of_mem))),a1,(by (repeat (first|assumption|apply List.mem_cons_of_mem))),b7,(by (repeat (exact List.mem_cons_self))),(fun b hb=>by (simp [Value.ownBlock] at hb;done)),(fun b hb=>by (simp [Value.ownBlock] at hb;done)),(fun b hb=>by (simp [Value.ownBlock] at hb;done)),(fun b hb=>by (simp [Value.ownBlock] at hb;done)),(fun b hb=>by (simp [Value.ownBlock] at hb;done)),(fun b hb=>by (simp [Value.ownBlock] at hb;done)),(fun b hb=>by (simp [Value.ownBlock];done))⟩
    intro cL F Z6 hI
    clear b5 b9 b0 a9 a2 a8 b1 a4 a5 b8 a7 a0 a1 b7
    obtain ⟨k,b2,t8,hrpr0_0,cM,⟨cN,rfl⟩,G7,a6,c6,b5,b9,b0,a9,a2,a8,b1,a4,a5,b8,a7,g0,a3,i5,a0,d1,a1,d2,b7,o5,nbpr0_b5696_0_D_r5716,nbpr0_b5696_0_b5696,nbpr0_b5696_0_bnc34_10,nbpr0_b5696_0_bnc34_11,nbpr0_b5696_0_l_r5716,nopr0_b5696_0_x5676,nppr0_b5696_0_x5676⟩:=hI
    refine AF (AC kR (AA (DQ .i64 ((k:Nat):Int) (lb.length:Int) rfl rfl (AG (AB (AF (AJ (decide (((k:Nat):Int)<(lb.length:Int))) rfl rfl (fun w9=>?_) (fun w9=>?_))))))))
    ·have bU:((k:Nat):Int)<(lb.length:Int):=by simpa using w9
     have hxi:=w5.idx' (k:=k) oM
     refine AR (AB (AF (BD (AF (AC kR (AA (CR U27_ DO .i64 ((k:Nat):Int) k rfl rfl rfl b9 (by have:=w5.idx' (k:=k) oM;omega) fun cO P0=>(AA (CJ U49_ rfl DO rfl P0 fun P1 x1=>(AA (CZ [vI 0,vI 0,vI 0,vI 0,nS] NH rfl G7 fun c9 Z7 Z8 Z9 e5 k7 P2=>(?_))))))))))))
     have C8:HD c1 c9:=by show c1≠c9;have:=a7.lt;omega
     have C9:HD c2 c9:=by show c2≠c9;have:=a3.lt;omega
     have D0:HD b3 c9:=by show b3≠c9;have:=a0.lt;omega
     have D1:HD b4 c9:=by show b4≠c9;have:=a1.lt;omega
     have D2:HD c0 c9:=by show c0≠c9;have:=b7.lt;omega
     have P3:∀ b,c8.ownBlock=some b→b≠c9:=fun b hb=>by have:=(a8.lt b hb).2;omega
     have D3:∀ b,b2.ownBlock=some b→b≠c9:=fun b hb=>by have:=(a6.lt b hb).2;omega
     have c6:∀ b,b2.ownBlock=some b→b∈(c9 :: t8):=fun b hb=>List.mem_cons_of_mem _ (c6 b hb)
     clear Z8
     have b5:=b5.mv e5
     have b9:=b9.mv e5
     have x1:Enc.share.rd Z7 ((c9 :: t8)++O) P1 (lb[k]!):=Enc.mv Enc.share (x:=lb[k]!) x1 e5
     have b0:=b0.mv e5
     have a9:=a9.mv e5
     have a2:=a2.mv e5
     have a8:=a8.mv e5 k7 (by simp)
     have b1:=b1.mv e5
     have a4:=a4.mv e5
     have a5:=a5.mv e5
     have b8:=b8.mv e5
     have a7:=a7.keep k7 (by simp)
     have a6:=a6.mv e5 k7 (by simp)
     have a3:=a3.keep k7 (by simp)
     have a0:=a0.keep k7 (by simp)
     have a1:=a1.keep k7 (by simp)
     have b7:=b7.keep k7 (by simp)
     obtain ⟨G8,rfl,n2⟩:=x1
     have:=n2.len_le
     refine CC (BF (vs:=[vI ((lb[k]!).epoch),vI ((lb[k]!).index),vI ((lb[k]!).threshold),vI ((lb[k]!).many),G8]) (.agg #[vI ((lb[k]!).epoch),vI ((lb[k]!).index),vI ((lb[k]!).threshold),vI ((lb[k]!).many),G8]) rfl rfl rfl DO (fun u hu=>by simp only [List.mem_cons,List.not_mem_nil,or_false] at hu;rcases hu with rfl|rfl|rfl|rfl|rfl <;> first|rfl|exact n2.oneCell) (by repeat (constructor)) P2 oT Z9 fun aa ab e6 k8 P4=>(?_))
     have b5:=b5.mv e6
     have b9:=b9.mv e6
     have n2:=n2.mv e6
     have b0:=b0.mv e6
     have a9:=a9.mv e6
     have a2:=a2.mv e6
     have a8:=a8.mv e6 k8 (fun b hb=>BH (P3 b hb))
     have b1:=b1.mv e6
     have a4:=a4.mv e6
     have a5:=a5.mv e6
     have b8:=b8.mv e6
     have a7:=a7.keep k8 (BH C8)
     have a6:=a6.mv e6 k8 (fun b hb=>BH (D3 b hb))
     have a3:=a3.keep k8 (BH C9)
     have a0:=a0.keep k8 (BH D0)
     have a1:=a1.keep k8 (BH D1)
     have b7:=b7.keep k8 (BH D2)
     refine AG (AB (AF (AC kR (AA (BL U27_ rfl rfl b5 fun G9 s3=>(?_))))))
     have:=s3.len_le
     obtain ⟨c3,H0,e7,j4,j5⟩:=P4.publish (E:=Enc.share) (u:=(lb[k]!)) ⟨_,rfl,n2⟩ ab (by repeat (constructor))
     have c6:∀ b,b2.ownBlock=some b→b∈c3:=fun b hb=>j5 b (c6 b hb) (D3 b hb)
     have g0:c1∈c3:=j5 c1 rC C8
     have i5:c2∈c3:=j5 c2 rC C9
     have d1:b3∈c3:=j5 b3 rC D0
     have d2:b4∈c3:=j5 b4 rC D1
     have o5:c0∈c3:=j5 c0 rC D2
     have b5:=b5.mv e7
     have b9:=b9.mv e7
     have s3:=s3.mv e7
     have b0:=b0.mv e7
     have a9:=a9.mv e7
     have a2:=a2.mv e7
     have a8:=a8.mv e7 (Keep.refl [] _) (by simp)
     have b1:=b1.mv e7
     have a4:=a4.mv e7
     have a5:=a5.mv e7
     have b8:=b8.mv e7
     have a7:=a7.keep (Keep.refl [] _) (by simp)
     have a6:=a6.mv e7 (Keep.refl [] _) (by simp)
     have a3:=a3.keep (Keep.refl [] _) (by simp)
     have a0:=a0.keep (Keep.refl [] _) (by simp)
     have a1:=a1.keep (Keep.refl [] _) (by simp)
     have b7:=b7.keep (Keep.refl [] _) (by simp)
     refine AA (DV (first:=[]) (captured:=[.tmp 5]) [] [vP (some ⟨c9,0,none⟩)] rfl rfl (AA (AZ (vs:=[G9,vN (.func 92) #[] #[vP (some ⟨c9,0,none⟩)]]) enter_91 (c_idxS (O:=c3++O) G9 (CV la secret) 92 [vP (some ⟨c9,0,none⟩)] (fun x_=>x_.index == (lb[k]!).index) aa s3 enter_92 (fun w'_ O'_ kk_ hs_ hl_ x__cs x_ hr_x_ =>c_pairs11 (O:=O'_) x__cs x_ (⟨c9,0,none⟩) (lb[k]!) w'_ hr_x_ (j4.on hs_ kk_) hl_) H0.lt) rfl H0 fun cP s4 ac e8 k9 ad=>(?_))))
     obtain rfl:=ad
     have b5:=b5.mv e8
     have j4:=j4.mv e8
     have b9:=b9.mv e8
     have b0:=b0.mv e8
     have a9:=a9.mv e8
     have a2:=a2.mv e8
     have a8:=a8.mv e8 k9 (by simp)
     have b1:=b1.mv e8
     have a4:=a4.mv e8
     have a5:=a5.mv e8
     have b8:=b8.mv e8
     have a7:=a7.keep k9 (by simp)
     have a6:=a6.mv e8 k9 (by simp)
     have a3:=a3.keep k9 (by simp)
     have a0:=a0.keep k9 (by simp)
     have a1:=a1.keep k9 (by simp)
     have b7:=b7.keep k9 (by simp)
     refine AA (AD (vI (GH (CV la secret) (fun x_=>x_.index == (lb[k]!).index))) rfl (AG (AB (AF (?_)))))
     have D4:(decide ((0:Int)≤GH (CV la secret) (fun x_=>x_.index == (lb[k]!).index)))=true:=(decide_eq_true (w5.idx' (k:=k) oM).1)
     try rw [D4]
     refine cw_drawY 9 _ _ [CQ (vI (GH (CV la secret) (fun x_=>x_.index == (lb[k]!).index))),CQ (vO true),CQ (vO true),CQ (vN (.yield c0) #[] #[]),fun (vT:Value) (wT:World)=>∃ csT:List Value,vT = .agg csT.toArray∧Enc.share.rd wT (c3++O) csT ((lb[k]!)),fun (vT:Value) (wT:World)=>BB Enc.share wT (c3++O) vT ((CV la secret)),CQ (vI (GH (CV la secret) (fun x_=>x_.index == (lb[k]!).index))),fun (vT:Value) (wT:World)=>∃ aT,vT = .pointer (some aT)∧PT Enc.share wT (c3++O) (.pointer (some aT)) ((CV la secret)[(GH (CV la secret) (fun x_=>x_.index == (lb[k]!).index)).toNat]!),fun (vT:Value) (wT:World)=>∃ csT:List Value,vT = .agg csT.toArray∧Enc.share.rd wT (c3++O) csT ((CV la secret)[(GH (CV la secret) (fun x_=>x_.index == (lb[k]!).index)).toNat]!)] kR kR kR kR rfl rfl ⟨kI,kI,kI,kI,fun _ _ _ ⟨a,e,h⟩ k=>⟨a,e,Enc.mv _ h (Mv.of_keep k)⟩,fun _ _ _ h k=>h.mv (Mv.of_keep k),kI,fun _ _ _ ⟨a,e,h⟩ k=>⟨a,e,h.mv (Mv.of_keep k)⟩,fun _ _ _ ⟨a,e,h⟩ k=>⟨a,e,Enc.mv _ h (Mv.of_keep k)⟩,trivial⟩ ⟨?_,?_,?_,?_,?_,?_,?_,?_,?_,trivial⟩ ?_
     ·intro F1 w1 k1 hf hd
      obtain ⟨F2,rfl⟩:=AK (F:=F1) [(6,vI (GH (CV la secret) (fun x_=>x_.index == (lb[k]!).index)))] ⟨hf 6 kR,trivial⟩
      exact AH rfl ((AE (vI (GH (CV la secret) (fun x_=>x_.index == (lb[k]!).index))) rfl (⟨(Keep.refl _ _),rfl⟩)))
     ·intro F1 w1 k1 hf hd
      obtain ⟨F2,rfl⟩:=AK (F:=F1) [(16,vI (GH (CV la secret) (fun x_=>x_.index == (lb[k]!).index)))] ⟨hd 0 16 kR,trivial⟩
      refine AH rfl ((JZ .i64 (GH (CV la secret) (fun x_=>x_.index == (lb[k]!).index)) (0:Int) rfl rfl (?_)))
      exact ⟨(Keep.refl _ _),congrArg vO (D4)⟩
     ·intro F1 w1 k1 hf hd
      obtain ⟨F2,rfl⟩:=AK (F:=F1) [(17,vO true)] ⟨hd 1 17 kR,trivial⟩
      exact AH rfl ((AE (vO true) rfl (⟨(Keep.refl _ _),rfl⟩)))
     ·intro F1 w1 k1 hf hd
      obtain ⟨F2,rfl⟩:=AK (F:=F1) [(0,vN (.yield c0) #[] #[]),(18,vO true)] ⟨hf 0 kR,hd 2 18 kR,trivial⟩
      exact CX rfl rfl ((AE (vN (.yield c0) #[] #[]) rfl (⟨(Keep.refl _ _),rfl⟩)))
     ·intro F1 w1 k1 hf hd
      have k0:=(Keep.drew [] s4).trans k1
      have m1:Mv c3 s4 c3 w1:=Mv.of_keep k0
      have j4:=j4.mv m1
      obtain ⟨F2,rfl⟩:=AK (F:=F1) [(5,vP (some ⟨c9,0,none⟩)),(18,vO true)] ⟨hf 5 kR,hd 2 18 kR,trivial⟩
      exact CX rfl rfl ((CJ U49_ rfl DO rfl j4 fun P5 P6=>(⟨(Keep.refl _ _),⟨P5,rfl,P6⟩⟩)))
     ·intro F1 w1 k1 hf hd
      have k0:=(Keep.drew [] s4).trans k1
      have m1:Mv c3 s4 c3 w1:=Mv.of_keep k0
      have b5:=b5.mv m1
      obtain ⟨F2,rfl⟩:=AK (F:=F1) [(2,vP (some s2)),(18,vO true)] ⟨hf 2 kR,hd 2 18 kR,trivial⟩
      refine CX rfl rfl ((BL U27_ rfl rfl b5 fun cQ D5=>(?_)))
      have:=D5.len_le
      exact ⟨(Keep.refl _ _),D5⟩
     ·intro F1 w1 k1 hf hd
      obtain ⟨F2,rfl⟩:=AK (F:=F1) [(6,vI (GH (CV la secret) (fun x_=>x_.index == (lb[k]!).index))),(18,vO true)] ⟨hf 6 kR,hd 2 18 kR,trivial⟩
      exact CX rfl rfl ((AE (vI (GH (CV la secret) (fun x_=>x_.index == (lb[k]!).index))) rfl (⟨(Keep.refl _ _),rfl⟩)))
     ·intro F1 w1 k1 hf hd
      obtain ⟨ae,af,D6⟩:∃ v,F1 21=v∧BB Enc.share w1 (c3++O) v ((CV la secret)):=⟨_,rfl,hd 5 21 kR⟩
      have:=D6.len_le
      obtain ⟨F2,rfl⟩:=AK (F:=F1) [(18,vO true),(21,ae),(22,vI (GH (CV la secret) (fun x_=>x_.index == (lb[k]!).index)))] ⟨hd 2 18 kR,af,hd 6 22 kR,trivial⟩
      exact CX rfl rfl ((CR U27_ DO .i64 (GH (CV la secret) (fun x_=>x_.index == (lb[k]!).index)) ((GH (CV la secret) (fun x_=>x_.index == (lb[k]!).index)).toNat) rfl rfl oM D6 (by have:=w5.idx' (k:=k) oM;omega) fun ag P7=>(⟨(Keep.refl _ _),⟨ag,rfl,P7⟩⟩)))
     ·intro F1 w1 k1 hf hd
      obtain ⟨ah,ai,P8⟩:∃ aX_,F1 23 = .pointer (some aX_)∧PT Enc.share w1 (c3++O) (.pointer (some aX_)) ((CV la secret)[(GH (CV la secret) (fun x_=>x_.index == (lb[k]!).index)).toNat]!):=hd 7 23 kR
      obtain ⟨F2,rfl⟩:=AK (F:=F1) [(18,vO true),(23,vP (some ah))] ⟨hd 2 18 kR,ai,trivial⟩
      exact CX rfl rfl ((CJ U49_ rfl DO rfl P8 fun P9 Q0=>(⟨(Keep.refl _ _),⟨P9,rfl,Q0⟩⟩)))
     intro z2 z3 g7 n3 h7
     have aj:=ac.call g7
     have f3:Mv c3 s4 c3 z3:=Mv.of_keep g7
     have b5:=b5.mv f3
     have b9:=b9.mv f3
     have b0:=b0.mv f3
     have a9:=a9.mv f3
     have a2:=a2.mv f3
     have a8:=a8.mv f3 g7 (by simp)
     have b1:=b1.mv f3
     have a4:=a4.mv f3
     have a5:=a5.mv f3
     have b8:=b8.mv f3
     have a7:=a7.keep g7 (by simp)
     have a6:=a6.mv f3 g7 (by simp)
     have a3:=a3.keep g7 (by simp)
     have a0:=a0.keep g7 (by simp)
     have a1:=a1.keep g7 (by simp)
     have b7:=b7.keep g7 (by simp)
     obtain ⟨x2,ak,x3⟩:∃ cs:List Value,z2 20 = .agg cs.toArray∧Enc.share.rd z3 (c3++O) cs ((lb[k]!)):=n3 4 20 kR (by decide)
     obtain ⟨n4,al,h8⟩:∃ cs:List Value,z2 24 = .agg cs.toArray∧Enc.share.rd z3 (c3++O) cs ((CV la secret)[(GH (CV la secret) (fun x_=>x_.index == (lb[k]!).index)).toNat]!):=n3 8 24 kR (by decide)
     obtain ⟨F2,rfl⟩:=AK (F:=z2) [(0,vN (.yield c0) #[] #[]),(2,vP (some s2)),(7,z1),(8,vI (lb.length:Int)),(9,vI ((k:Nat):Int)),(29,undef),(18,vO true),(19,vN (.yield c0) #[] #[]),(20,vA x2.toArray),(24,vA n4.toArray)] ⟨h7 0 kR,h7 2 kR,h7 7 kR,h7 8 kR,h7 9 kR,h7 29 kR,n3 2 18 kR (by decide),n3 3 19 kR (by decide),ak,al,trivial⟩
     clear n3 h7
     refine wl_yT rfl c0 [vA x2.toArray,vA n4.toArray] rfl rfl (XV F9 b7 rfl (by decide) ?_)
     refine AF (AC kR (AA (CZ [vI 0,vI 0,vI 0,vI 0,nS] NH rfl aj fun c5 H1 am an d8 l0 Q1=>(?_))))
     have D7:HD c1 c5:=by show c1≠c5;have:=a7.lt;omega
     have D8:HD c2 c5:=by show c2≠c5;have:=a3.lt;omega
     have D9:HD b3 c5:=by show b3≠c5;have:=a0.lt;omega
     have E0:HD b4 c5:=by show b4≠c5;have:=a1.lt;omega
     have x4:HD c0 c5:=by show c0≠c5;have:=b7.lt;omega
     have E1:∀ b,c8.ownBlock=some b→b≠c5:=fun b hb=>by have:=(a8.lt b hb).2;omega
     have x5:∀ b,b2.ownBlock=some b→b≠c5:=fun b hb=>by have:=(a6.lt b hb).2;omega
     have c6:∀ b,b2.ownBlock=some b→b∈(c5 :: c3):=fun b hb=>List.mem_cons_of_mem _ (c6 b hb)
     clear am
     have b0:=b0.mv d8
     have a9:=a9.mv d8
     have a2:=a2.mv d8
     have a8:=a8.mv d8 l0 (by simp)
     have b1:=b1.mv d8
     have a4:=a4.mv d8
     have a5:=a5.mv d8
     have b8:=b8.mv d8
     have b5:=b5.mv d8
     have x3:Enc.share.rd H1 ((c5 :: c3)++O) x2 ((lb[k]!)):=Enc.mv Enc.share (x:=(lb[k]!)) x3 d8
     have h8:Enc.share.rd H1 ((c5 :: c3)++O) n4 ((CV la secret)[(GH (CV la secret) (fun x_=>x_.index == (lb[k]!).index)).toNat]!):=Enc.mv Enc.share (x:=(CV la secret)[(GH (CV la secret) (fun x_=>x_.index == (lb[k]!).index)).toNat]!) h8 d8
     have b9:=b9.mv d8
     have a7:=a7.keep l0 (by simp)
     have a6:=a6.mv d8 l0 (by simp)
     have a3:=a3.keep l0 (by simp)
     have a0:=a0.keep l0 (by simp)
     have a1:=a1.keep l0 (by simp)
     have b7:=b7.keep l0 (by simp)
     obtain ⟨s5,rfl,d3⟩:=x3
     have:=d3.len_le
     refine CC (BF (vs:=[vI (((lb[k]!)).epoch),vI (((lb[k]!)).index),vI (((lb[k]!)).threshold),vI (((lb[k]!)).many),s5]) (.agg #[vI (((lb[k]!)).epoch),vI (((lb[k]!)).index),vI (((lb[k]!)).threshold),vI (((lb[k]!)).many),s5]) rfl rfl rfl DO (fun u hu=>by simp only [List.mem_cons,List.not_mem_nil,or_false] at hu;rcases hu with rfl|rfl|rfl|rfl|rfl <;> first|rfl|exact d3.oneCell) (by repeat (constructor)) Q1 oT an fun ao ap d9 l1 d4=>(?_))
     have b0:=b0.mv d9
     have a9:=a9.mv d9
     have a2:=a2.mv d9
     have a8:=a8.mv d9 l1 (fun b hb=>BH (E1 b hb))
     have b1:=b1.mv d9
     have a4:=a4.mv d9
     have a5:=a5.mv d9
     have b8:=b8.mv d9
     have b5:=b5.mv d9
     have d3:=d3.mv d9
     have h8:Enc.share.rd ao ((c5 :: c3)++O) n4 ((CV la secret)[(GH (CV la secret) (fun x_=>x_.index == (lb[k]!).index)).toNat]!):=Enc.mv Enc.share (x:=(CV la secret)[(GH (CV la secret) (fun x_=>x_.index == (lb[k]!).index)).toNat]!) h8 d9
     have b9:=b9.mv d9
     have a7:=a7.keep l1 (BH D7)
     have a6:=a6.mv d9 l1 (fun b hb=>BH (x5 b hb))
     have a3:=a3.keep l1 (BH D8)
     have a0:=a0.keep l1 (BH D9)
     have a1:=a1.keep l1 (BH E0)
     have b7:=b7.keep l1 (BH x4)
     refine AG (AB (AC kR (AA (CZ [vI 0,vI 0,vI 0,vI 0,nS] NH rfl ap fun c7 aq ar au e0 i6 Q2=>(?_)))))
     have Q3:HD c1 c7:=by show c1≠c7;have:=a7.lt;omega
     have Q4:HD c2 c7:=by show c2≠c7;have:=a3.lt;omega
     have Q5:HD b3 c7:=by show b3≠c7;have:=a0.lt;omega
     have Q6:HD b4 c7:=by show b4≠c7;have:=a1.lt;omega
     have E2:HD c0 c7:=by show c0≠c7;have:=b7.lt;omega
     have E3:HD c5 c7:=by show c5≠c7;have:=d4.lt;omega
     have Q7:∀ b,c8.ownBlock=some b→b≠c7:=fun b hb=>by have:=(a8.lt b hb).2;omega
     have E4:∀ b,b2.ownBlock=some b→b≠c7:=fun b hb=>by have:=(a6.lt b hb).2;omega
     have c6:∀ b,b2.ownBlock=some b→b∈(c7 :: (c5 :: c3)):=fun b hb=>List.mem_cons_of_mem _ (c6 b hb)
     clear ar
     have b0:=b0.mv e0
     have a9:=a9.mv e0
     have a2:=a2.mv e0
     have a8:=a8.mv e0 i6 (by simp)
     have b1:=b1.mv e0
     have a4:=a4.mv e0
     have a5:=a5.mv e0
     have b8:=b8.mv e0
     have b5:=b5.mv e0
     have d3:=d3.mv e0
     have h8:Enc.share.rd aq ((c7 :: (c5 :: c3))++O) n4 ((CV la secret)[(GH (CV la secret) (fun x_=>x_.index == (lb[k]!).index)).toNat]!):=Enc.mv Enc.share (x:=(CV la secret)[(GH (CV la secret) (fun x_=>x_.index == (lb[k]!).index)).toNat]!) h8 e0
     have b9:=b9.mv e0
     have a7:=a7.keep i6 (by simp)
     have a6:=a6.mv e0 i6 (by simp)
     have a3:=a3.keep i6 (by simp)
     have a0:=a0.keep i6 (by simp)
     have a1:=a1.keep i6 (by simp)
     have b7:=b7.keep i6 (by simp)
     have d4:=d4.keep i6 (by simp)
     obtain ⟨s6,rfl,h9⟩:=h8
     have:=h9.len_le
     refine CC (BF (vs:=[vI (((CV la secret)[(GH (CV la secret) (fun x_=>x_.index == (lb[k]!).index)).toNat]!).epoch),vI (((CV la secret)[(GH (CV la secret) (fun x_=>x_.index == (lb[k]!).index)).toNat]!).index),vI (((CV la secret)[(GH (CV la secret) (fun x_=>x_.index == (lb[k]!).index)).toNat]!).threshold),vI (((CV la secret)[(GH (CV la secret) (fun x_=>x_.index == (lb[k]!).index)).toNat]!).many),s6]) (.agg #[vI (((CV la secret)[(GH (CV la secret) (fun x_=>x_.index == (lb[k]!).index)).toNat]!).epoch),vI (((CV la secret)[(GH (CV la secret) (fun x_=>x_.index == (lb[k]!).index)).toNat]!).index),vI (((CV la secret)[(GH (CV la secret) (fun x_=>x_.index == (lb[k]!).index)).toNat]!).threshold),vI (((CV la secret)[(GH (CV la secret) (fun x_=>x_.index == (lb[k]!).index)).toNat]!).many),s6]) rfl rfl rfl DO (fun u hu=>by simp only [List.mem_cons,List.not_mem_nil,or_false] at hu;rcases hu with rfl|rfl|rfl|rfl|rfl <;> first|rfl|exact h9.oneCell) (by repeat (constructor)) Q2 oT au fun av aw e2 i7 e4=>(?_))
     have b0:=b0.mv e2
     have a9:=a9.mv e2
     have a2:=a2.mv e2
     have a8:=a8.mv e2 i7 (fun b hb=>BH (Q7 b hb))
     have b1:=b1.mv e2
     have a4:=a4.mv e2
     have a5:=a5.mv e2
     have b8:=b8.mv e2
     have b5:=b5.mv e2
     have d3:=d3.mv e2
     have h9:=h9.mv e2
     have b9:=b9.mv e2
     have a7:=a7.keep i7 (BH Q3)
     have a6:=a6.mv e2 i7 (fun b hb=>BH (E4 b hb))
     have a3:=a3.keep i7 (BH Q4)
     have a0:=a0.keep i7 (BH Q5)
     have a1:=a1.keep i7 (BH Q6)
     have b7:=b7.keep i7 (BH E2)
     have d4:=d4.keep i7 (BH E3)
     refine AG (AB (⟨b7,fun H2 g1 d0=>?_⟩))
     have H3:=aw.keepB g1 rC
     have e3:Mv (c7 :: (c5 :: c3)) av (c7 :: (c5 :: c3)) H2:=Mv.keepB g1 rC
     have b0:=b0.mv e3
     have a9:=a9.mv e3
     have a2:=a2.mv e3
     have a8:=a8.mv e3 g1 (fun b hb=>BH ((fun b hb=>(m9 b hb).2) b hb))
     have b1:=b1.mv e3
     have a4:=a4.mv e3
     have a5:=a5.mv e3
     have b8:=b8.mv e3
     have b5:=b5.mv e3
     have d3:=d3.mv e3
     have h9:=h9.mv e3
     have b9:=b9.mv e3
     have a7:=a7.keep g1 (BH w8)
     have a6:=a6.mv e3 g1 (fun b hb=>BH (nbpr0_b5696_0_l_r5716 b hb))
     have a3:=a3.keep g1 (BH m7.2)
     have a0:=a0.keep g1 (BH w6.2)
     have a1:=a1.keep g1 (BH w7.2)
     have d4:=d4.keep g1 (BH (Ne.symm x4))
     have e4:=e4.keep g1 (BH (Ne.symm E2))
     refine BD (AF (AC kR (AA (AT 4 FX rfl (AA (AU U26_ rfl (s5) rfl d4 rfl (AA (AT 4 FX rfl (AA (AU U26_ rfl (s6) rfl e4 rfl (AA (AZ (vs:=[s5,s6]) enter_57 (c_xor (O:=(c7 :: (c5 :: c3))++O) s5 (((lb[k]!)).data) s6 (((CV la secret)[(GH (CV la secret) (fun x_=>x_.index == (lb[k]!).index)).toNat]!).data) H2 d3 h9 (by have:=w5.bl (k:=k) oM;omega) (by have h1:=w5.bl (k:=k) oM;have h2:=w5.dl' (k:=k) oM;omega) H3.lt) rfl H3 fun t9 cR ax f4 g8 ay=>(?_)))))))))))))
     obtain ⟨_,rfl,n5⟩:=ay
     have:=n5.len_le
     have b0:=b0.mv f4
     have a9:=a9.mv f4
     have a2:=a2.mv f4
     have a8:=a8.mv f4 g8 (by simp)
     have b1:=b1.mv f4
     have a4:=a4.mv f4
     have a5:=a5.mv f4
     have b8:=b8.mv f4
     have b5:=b5.mv f4
     have b9:=b9.mv f4
     have a7:=a7.keep g8 (by simp)
     have a6:=a6.mv f4 g8 (by simp)
     have a3:=a3.keep g8 (by simp)
     have a0:=a0.keep g8 (by simp)
     have a1:=a1.keep g8 (by simp)
     have d0:=d0.keep g8 (by simp)
     have d4:=d4.keep g8 (by simp)
     have e4:=e4.keep g8 (by simp)
     refine AA (AT 4 FX rfl (CC (CN (t9) rfl rfl n5.oneCell s_26 (by repeat (constructor)) d4 oT ax fun cS az e9 i8 s7=>(?_))))
     have b0:=b0.mv e9
     have a9:=a9.mv e9
     have a2:=a2.mv e9
     have a8:=a8.mv e9 i8 (fun b hb=>BH (E1 b hb))
     have b1:=b1.mv e9
     have a4:=a4.mv e9
     have a5:=a5.mv e9
     have b8:=b8.mv e9
     have b5:=b5.mv e9
     have n5:=n5.mv e9
     have b9:=b9.mv e9
     have a7:=a7.keep i8 (BH D7)
     have a6:=a6.mv e9 i8 (fun b hb=>BH (x5 b hb))
     have a3:=a3.keep i8 (BH D8)
     have a0:=a0.keep i8 (BH D9)
     have a1:=a1.keep i8 (BH E0)
     have d0:=d0.keep i8 (BH x4)
     have e4:=e4.keep i8 (BH (Ne.symm E3))
     refine AG (AB (AC kR (AA (AU U27_ rfl (b2) rfl a3 rfl (AA (BS (vs:=[vI (((lb[k]!)).epoch),vI (((lb[k]!)).index),vI (((lb[k]!)).threshold),vI (((lb[k]!)).many),t9]) U49_ rfl DO rfl s7 rfl (AA (JG (E:=Enc.share) (xs:=[.tmp 99]) U27_ DO NH (by decide) [.agg #[vI (((lb[k]!)).epoch),vI (((lb[k]!)).index),vI (((lb[k]!)).threshold),vI (((lb[k]!)).many),t9]] [[vI (((lb[k]!)).epoch),vI (((lb[k]!)).index),vI (((lb[k]!)).threshold),vI (((lb[k]!)).many),t9]] [(⟨((lb[k]!)).epoch,((lb[k]!)).index,((lb[k]!)).threshold,((lb[k]!)).many,xorM (((lb[k]!)).data) (((CV la secret)[(GH (CV la secret) (fun x_=>x_.index == (lb[k]!).index)).toNat]!).data)⟩:Share)] rfl rfl rfl (Parts.cons rfl ⟨_,rfl,n5⟩ (Parts.nil _ _ _)) oT az fun cT cU aA f5 g9 E5=>(?_)))))))))
     have b0:=b0.mv f5
     have a9:=a9.mv f5
     have a2:=a2.mv f5
     have a8:=a8.mv f5 g9 (by simp)
     have b1:=b1.mv f5
     have a4:=a4.mv f5
     have a5:=a5.mv f5
     have b8:=b8.mv f5
     have b5:=b5.mv f5
     have a6:=a6.mv f5 g9 (by simp)
     have b9:=b9.mv f5
     have a7:=a7.keep g9 (by simp)
     have a3:=a3.keep g9 (by simp)
     have a0:=a0.keep g9 (by simp)
     have a1:=a1.keep g9 (by simp)
     have d0:=d0.keep g9 (by simp)
     have s7:=s7.keep g9 (by simp)
     have e4:=e4.keep g9 (by simp)
     have:=E5.len_le
     refine AA (DS (E:=Enc.share) (l:=GP lb (CV la secret) k) (m:=[(⟨((lb[k]!)).epoch,((lb[k]!)).index,((lb[k]!)).threshold,((lb[k]!)).many,xorM (((lb[k]!)).data) (((CV la secret)[(GH (CV la secret) (fun x_=>x_.index == (lb[k]!).index)).toNat]!).data)⟩:Share)]) U27_ i_49 rfl (by decide) rfl rfl a6 E5 (fun _ hb=>.inl hb) c6 (by have:=mixD_len lb (CV la secret) k;simp only [List.length_cons,List.length_nil];omega) (by have:=mixD_len lb (CV la secret) k;simp only [List.length_cons,List.length_nil,maxLen];omega) aA fun g2 cV g3 Q8 g5 f8 aB g4 n9 j6=>(?_))
     have E6:∀ b,c8.ownBlock=some b→g2.ownBlock≠some b:=fun b hb e=>by rcases g5 with e1|e1 <;> rw [e1] at e <;> first|(cases e;have:=(a8.lt _ hb).2;omega)|(exact absurd e (nppr0_b5696_0_x5676 b hb))
     have Q9:∀ b,g2.ownBlock=some b→b≠c1:=fun b hb=>by rcases g5 with e1|e1 <;> rw [e1] at hb <;> first|(cases hb;have:=a7.lt;omega)|(exact nbpr0_b5696_0_D_r5716 b hb)
     have E7:∀ b,g2.ownBlock=some b→b≠c2:=fun b hb=>by rcases g5 with e1|e1 <;> rw [e1] at hb <;> first|(cases hb;have:=a3.lt;omega)|(exact nbpr0_b5696_0_b5696 b hb)
     have R0:∀ b,g2.ownBlock=some b→b≠b3:=fun b hb=>by rcases g5 with e1|e1 <;> rw [e1] at hb <;> first|(cases hb;have:=a0.lt;omega)|(exact nbpr0_b5696_0_bnc34_10 b hb)
     have R1:∀ b,g2.ownBlock=some b→b≠b4:=fun b hb=>by rcases g5 with e1|e1 <;> rw [e1] at hb <;> first|(cases hb;have:=a1.lt;omega)|(exact nbpr0_b5696_0_bnc34_11 b hb)
     have E8:∀ b,g2.ownBlock=some b→b≠c0:=fun b hb=>by rcases g5 with e1|e1 <;> rw [e1] at hb <;> first|(cases hb;have:=d0.lt;omega)|(exact nbpr0_b5696_0_l_r5716 b hb)
     have bV:∀ b,g2.ownBlock=some b→b≠c5:=fun b hb=>by rcases g5 with e1|e1 <;> rw [e1] at hb <;> first|(cases hb;have:=s7.lt;omega)|(exact x5 b hb)
     have bW:∀ b,g2.ownBlock=some b→b≠c7:=fun b hb=>by rcases g5 with e1|e1 <;> rw [e1] at hb <;> first|(cases hb;have:=e4.lt;omega)|(exact E4 b hb)
     have g0:c1∈g3:=f8 c1 rC
     have i5:c2∈g3:=f8 c2 rC
     have d1:b3∈g3:=f8 b3 rC
     have d2:b4∈g3:=f8 b4 rC
     have o5:c0∈g3:=f8 c0 rC
     have br:c5∈g3:=f8 c5 (by repeat (constructor))
     have bs:c7∈g3:=f8 c7 (by repeat (constructor))
     have b0:=b0.mv g4
     have a9:=a9.mv g4
     have a2:=a2.mv g4
     have a8:=a8.mv g4 n9 (fun b hb=>by simp only [Option.mem_toList];exact nppr0_b5696_0_x5676 b hb)
     have b1:=b1.mv g4
     have a4:=a4.mv g4
     have a5:=a5.mv g4
     have b8:=b8.mv g4
     have b5:=b5.mv g4
     have b9:=b9.mv g4
     have a7:=a7.keep n9 (by simp only [Option.mem_toList];exact fun e=>absurd rfl (nbpr0_b5696_0_D_r5716 _ e))
     have a3:=a3.keep n9 (by simp only [Option.mem_toList];exact fun e=>absurd rfl (nbpr0_b5696_0_b5696 _ e))
     have a0:=a0.keep n9 (by simp only [Option.mem_toList];exact fun e=>absurd rfl (nbpr0_b5696_0_bnc34_10 _ e))
     have a1:=a1.keep n9 (by simp only [Option.mem_toList];exact fun e=>absurd rfl (nbpr0_b5696_0_bnc34_11 _ e))
     have d0:=d0.keep n9 (by simp only [Option.mem_toList];exact fun e=>absurd rfl (nbpr0_b5696_0_l_r5716 _ e))
     refine CC (CN (g2) rfl rfl j6.oneCell s_27 (by repeat (assumption)) a3 oT aB fun aC aD f6 o0 x6=>(?_))
     have b0:=b0.mv f6
     have a9:=a9.mv f6
     have a2:=a2.mv f6
     have a8:=a8.mv f6 o0 (fun b hb=>BH (C6 b hb))
     have b1:=b1.mv f6
     have a4:=a4.mv f6
     have a5:=a5.mv f6
     have b8:=b8.mv f6
     have b5:=b5.mv f6
     have j6:=j6.mv f6 o0 (fun b hb=>BH (E7 b hb))
     have b9:=b9.mv f6
     have a7:=a7.keep o0 (BH (Ne.symm m7.1))
     have a0:=a0.keep o0 (BH O7)
     have a1:=a1.keep o0 (BH O8)
     have d0:=d0.keep o0 (BH (Ne.symm m7.2))
     refine AG (CB (round_n d0 (fun aE i9 R2=>?_)))
     have aF:=aD.keepB i9 (by repeat (assumption))
     have f7:Mv g3 aC g3 aE:=Mv.keepB i9 (by repeat (assumption))
     have b0:=b0.mv f7
     have a9:=a9.mv f7
     have a2:=a2.mv f7
     have a8:=a8.mv f7 i9 (fun b hb=>BH ((fun b hb=>(m9 b hb).2) b hb))
     have b1:=b1.mv f7
     have a4:=a4.mv f7
     have a5:=a5.mv f7
     have b8:=b8.mv f7
     have b5:=b5.mv f7
     have j6:=j6.mv f7 i9 (fun b hb=>BH (E8 b hb))
     have b9:=b9.mv f7
     have a7:=a7.keep i9 (BH w8)
     have x6:=x6.keep i9 (BH m7.2)
     have a0:=a0.keep i9 (BH w6.2)
     have a1:=a1.keep i9 (BH w7.2)
     have b7:=R2
     refine AW rfl (EU true rfl (AA (AQ (vO false) rfl rfl (AG (AB (AJ false rfl rfl (fun h=>by cases h) (fun _=>AR (CB (AB (AC kR (AA (DF .i64 ((k:Nat):Int) (1:Int) (((k+1:Nat):Int)) rfl rfl (GA oM oM) (AA (AE (vI ((k+1:Nat):Int)) rfl (AG (AB (?_)))))))))))))))))
     exact ⟨_,oM,(k+1),g2,g3,oM,rfl,⟨_,AX _ ⟨rfl,rfl,rfl,rfl,(by rfl),rfl,trivial⟩⟩,aF,(by rw [show GP lb (CV la secret) (k+1)=(GP lb (CV la secret) k)++([(⟨((lb[k]!)).epoch,((lb[k]!)).index,((lb[k]!)).threshold,((lb[k]!)).many,xorM (((lb[k]!)).data) (((CV la secret)[(GH (CV la secret) (fun x_=>x_.index == (lb[k]!).index)).toNat]!).data)⟩:Share)]) from mixD_succ oM];exact j6),Q8,b5,b9,b0,a9,a2,a8,b1,a4,a5,b8,a7,aS,x6,aS,a0,aS,a1,aS,b7,aS,Q9,E7,R0,R1,E8,(fun b hb e=>E6 b e hb),E6⟩
    have bX:(lb.length:Int)≤((k:Nat):Int):=by simpa using w9
    obtain rfl:k=lb.length:=by omega
    refine DA (BN (BN (CO (HL rfl (KL rfl) (⟨⟨_,rfl⟩,?_⟩)))))
    refine ⟨.ready,none,by simp,b7,fun j0 j1=>?_⟩
    have aG:=G7.keepB j1 (by repeat (assumption))
    have z4:Mv t8 Z6 t8 j0:=Mv.keepB j1 (by repeat (assumption))
    have a2:=a2.mv z4
    have a8:=a8.mv z4 j1 (fun b hb=>BH ((fun b hb=>(m9 b hb).2) b hb))
    have a7:=a7.keep j1 (BH w8)
    have a6:=a6.mv z4 j1 (fun b hb=>BH (nbpr0_b5696_0_l_r5716 b hb))
    have a3:=a3.keep j1 (BH m7.2)
    have a0:=a0.keep j1 (BH w6.2)
    have a1:=a1.keep j1 (BH w7.2)
    refine CB (AB (AF (?_)))
    obtain ⟨c4,z5,H4,s8,s9⟩:=a6.publish aG
    have g0:c1∈c4:=s9 c1 (by repeat (assumption)) (fun e=>absurd rfl (nbpr0_b5696_0_D_r5716 _ e))
    have i5:c2∈c4:=s9 c2 (by repeat (assumption)) (fun e=>absurd rfl (nbpr0_b5696_0_b5696 _ e))
    have d1:b3∈c4:=s9 b3 (by repeat (assumption)) (fun e=>absurd rfl (nbpr0_b5696_0_bnc34_10 _ e))
    have d2:b4∈c4:=s9 b4 (by repeat (assumption)) (fun e=>absurd rfl (nbpr0_b5696_0_bnc34_11 _ e))
    have bx:=s8.len_le
    have a2:=a2.mv H4
    have a8:=a8.mv H4 (Keep.refl [] _) (by simp)
    have a7:=a7.keep (Keep.refl [] _) (by simp)
    have a3:=a3.keep (Keep.refl [] _) (by simp)
    have a0:=a0.keep (Keep.refl [] _) (by simp)
    have a1:=a1.keep (Keep.refl [] _) (by simp)
    refine cw_draw' 9 _ _ [fun (vT:Value) (wT:World)=>BB Enc.share wT (c4++O) vT (GP lb (CV la secret) lb.length),fun (vT:Value) (wT:World)=>BB Enc.u8 wT (c4++O) vT (secret),CQ (vI (secret.length:Int)),fun (vT:Value) (wT:World)=>BB Enc.u8 wT (c4++O) vT (List.replicate secret.length (0:UInt8)),fun (vT:Value) (wT:World)=>∃ (xT0:Value),vT = .tuple #[xT0,vI ((BJ (GP lb (CV la secret) lb.length) (List.replicate secret.length (0:UInt8))).2)]∧BB Enc.u8 wT (c4++O) xT0 ((BJ (GP lb (CV la secret) lb.length) (List.replicate secret.length (0:UInt8))).1),fun (vT:Value) (wT:World)=>∃ (xT0:Value),vT = .tuple #[xT0,vI ((BJ (GP lb (CV la secret) lb.length) (List.replicate secret.length (0:UInt8))).2)]∧BB Enc.u8 wT (c4++O) xT0 ((BJ (GP lb (CV la secret) lb.length) (List.replicate secret.length (0:UInt8))).1),fun (vT:Value) (wT:World)=>BB Enc.u8 wT (c4++O) vT ((BJ (GP lb (CV la secret) lb.length) (List.replicate secret.length (0:UInt8))).1),CQ (vI ((BJ (GP lb (CV la secret) lb.length) (List.replicate secret.length (0:UInt8))).2)),fun (vT:Value) (wT:World)=>BB Enc.u8 wT (c4++O) vT ((BJ (GP lb (CV la secret) lb.length) (List.replicate secret.length (0:UInt8))).1)] kR kR kR kR rfl rfl ⟨fun _ _ _ h k=>h.mv (Mv.of_keep k),fun _ _ _ h k=>h.mv (Mv.of_keep k),kI,fun _ _ _ h k=>h.mv (Mv.of_keep k),fun _ _ _ ⟨y0,e,h0⟩ k=>⟨y0,e,h0.mv (Mv.of_keep k)⟩,fun _ _ _ ⟨y0,e,h0⟩ k=>⟨y0,e,h0.mv (Mv.of_keep k)⟩,fun _ _ _ h k=>h.mv (Mv.of_keep k),kI,fun _ _ _ h k=>h.mv (Mv.of_keep k),trivial⟩ ⟨?_,?_,?_,?_,?_,?_,?_,?_,?_,trivial⟩ ?_
    ·intro F1 w1 k1 hf hd
     have k0:=(Keep.drew [] j0).trans k1
     have m1:Mv c4 j0 c4 w1:=Mv.of_keep k0
     have a3:=a3.keep k0 (by simp)
     have s8:=s8.mv m1
     obtain ⟨F2,rfl⟩:=AK (F:=F1) [(14,vP (some ⟨c2,0,none⟩))] ⟨hf 14 kR,trivial⟩
     exact AH rfl ((AU U27_ rfl (b2) rfl a3 rfl (⟨(Keep.refl _ _),s8⟩)))
    ·intro F1 w1 k1 hf hd
     have k0:=(Keep.drew [] j0).trans k1
     have m1:Mv c4 j0 c4 w1:=Mv.of_keep k0
     have a2:=a2.mv m1
     obtain ⟨F2,rfl⟩:=AK (F:=F1) [(2,secret_v)] ⟨hf 2 kR,trivial⟩
     exact AH rfl ((AE (secret_v) rfl (⟨(Keep.refl _ _),a2⟩)))
    ·intro F1 w1 k1 hf hd
     obtain ⟨aH,aI,E9⟩:∃ v,F1 104=v∧BB Enc.u8 w1 (c4++O) v (secret):=⟨_,rfl,hd 1 104 kR⟩
     have:=E9.len_le
     obtain ⟨F2,rfl⟩:=AK (F:=F1) [(104,aH)] ⟨aI,trivial⟩
     exact AH rfl ((BP U26_ rfl E9 (⟨(Keep.refl _ _),rfl⟩)))
    ·intro F1 w1 k1 hf hd
     have k0:=(Keep.drew [] j0).trans k1
     have s1:=z5.call k0
     obtain ⟨F2,rfl⟩:=AK (F:=F1) [(105,vI (secret.length:Int))] ⟨hd 2 105 kR,trivial⟩
     refine AH rfl ((o_makeR (E:=Enc.u8) U26_ i_5 [vB (0:UInt8)] rfl rfl (by decide) (0:UInt8) (fun _ _=>rfl) .i64 .i64 (secret.length:Int) (secret.length:Int) secret.length secret.length rfl rfl rfl rfl oM oM (by simp only [maxLen];omega) s1 fun cW cX cY cZ aJ R3=>(?_)))
     exact ⟨aJ,R3⟩
    ·intro F1 w1 k1 hf hd
     have k0:=(Keep.drew [] j0).trans k1
     have s1:=z5.call k0
     obtain ⟨z6,aK,F3⟩:∃ v,F1 103=v∧BB Enc.share w1 (c4++O) v (GP lb (CV la secret) lb.length):=⟨_,rfl,hd 0 103 kR⟩
     have:=F3.len_le
     obtain ⟨z7,aL,F4⟩:∃ v,F1 106=v∧BB Enc.u8 w1 (c4++O) v (List.replicate secret.length (0:UInt8)):=⟨_,rfl,hd 3 106 kR⟩
     have:=F4.len_le
     obtain ⟨F2,rfl⟩:=AK (F:=F1) [(103,z6),(106,z7)] ⟨aK,aL,trivial⟩
     refine AH rfl ((AZ (vs:=[z6,z7]) enter_55 (XT (O:=c4++O) z6 (GP lb (CV la secret) lb.length) z7 (List.replicate secret.length (0:UInt8)) w1 F3 F4 s1.lt) rfl s1 fun db dc dd de aM aN=>(?_)))
     obtain ⟨aO,rfl,R4,t0⟩:=aN
     have t0:=t0.rd (O':=c4++O) (fun x hx=>.inl (List.mem_append_right _ hx)) (fun c hc hx=>by have:=R4 c hc;have:=s1.lt c hx;omega)
     have:=t0.len_le
     exact ⟨aM,⟨aO,rfl,t0⟩⟩
    ·intro F1 w1 k1 hf hd
     obtain ⟨z8,aP,F5⟩:(fun (vT:Value) (wT:World)=>∃ (xT0:Value),vT = .tuple #[xT0,vI ((BJ (GP lb (CV la secret) lb.length) (List.replicate secret.length (0:UInt8))).2)]∧BB Enc.u8 wT (c4++O) xT0 ((BJ (GP lb (CV la secret) lb.length) (List.replicate secret.length (0:UInt8))).1)) (F1 107) w1:=hd 4 107 kR
     have:=F5.len_le
     obtain ⟨F2,rfl⟩:=AK (F:=F1) [(107,vT #[z8,vI ((BJ (GP lb (CV la secret) lb.length) (List.replicate secret.length (0:UInt8))).2)])] ⟨aP,trivial⟩
     exact AH rfl ((AE (vT #[z8,vI ((BJ (GP lb (CV la secret) lb.length) (List.replicate secret.length (0:UInt8))).2)]) rfl (⟨(Keep.refl _ _),⟨z8,rfl,F5⟩⟩)))
    ·intro F1 w1 k1 hf hd
     obtain ⟨H5,aQ,F6⟩:(fun (vT:Value) (wT:World)=>∃ (xT0:Value),vT = .tuple #[xT0,vI ((BJ (GP lb (CV la secret) lb.length) (List.replicate secret.length (0:UInt8))).2)]∧BB Enc.u8 wT (c4++O) xT0 ((BJ (GP lb (CV la secret) lb.length) (List.replicate secret.length (0:UInt8))).1)) (F1 102) w1:=hd 5 102 kR
     have:=F6.len_le
     obtain ⟨F2,rfl⟩:=AK (F:=F1) [(102,vT #[H5,vI ((BJ (GP lb (CV la secret) lb.length) (List.replicate secret.length (0:UInt8))).2)])] ⟨aQ,trivial⟩
     exact AH rfl ((AO (H5) rfl rfl (⟨(Keep.refl _ _),F6⟩)))
    ·intro F1 w1 k1 hf hd
     obtain ⟨aR,aU,R5⟩:(fun (vT:Value) (wT:World)=>∃ (xT0:Value),vT = .tuple #[xT0,vI ((BJ (GP lb (CV la secret) lb.length) (List.replicate secret.length (0:UInt8))).2)]∧BB Enc.u8 wT (c4++O) xT0 ((BJ (GP lb (CV la secret) lb.length) (List.replicate secret.length (0:UInt8))).1)) (F1 102) w1:=hd 5 102 kR
     have:=R5.len_le
     obtain ⟨F2,rfl⟩:=AK (F:=F1) [(102,vT #[aR,vI ((BJ (GP lb (CV la secret) lb.length) (List.replicate secret.length (0:UInt8))).2)])] ⟨aU,trivial⟩
     exact AH rfl ((AO (vI ((BJ (GP lb (CV la secret) lb.length) (List.replicate secret.length (0:UInt8))).2)) rfl rfl (⟨(Keep.refl _ _),rfl⟩)))
    ·intro F1 w1 k1 hf hd
     obtain ⟨H6,aV,F7⟩:∃ v,F1 108=v∧BB Enc.u8 w1 (c4++O) v ((BJ (GP lb (CV la secret) lb.length) (List.replicate secret.length (0:UInt8))).1):=⟨_,rfl,hd 6 108 kR⟩
     have:=F7.len_le
     obtain ⟨F2,rfl⟩:=AK (F:=F1) [(108,H6)] ⟨aV,trivial⟩
     exact AH rfl ((AD (H6) rfl (⟨(Keep.refl _ _),F7⟩)))
    intro H7 H8 l2 x7 t2
    have H9:=z5.call l2
    have aW:Mv c4 j0 c4 H8:=Mv.of_keep l2
    have a8:=a8.mv aW l2 (by simp)
    have a7:=a7.keep l2 (by simp)
    have a3:=a3.keep l2 (by simp)
    have a0:=a0.keep l2 (by simp)
    have a1:=a1.keep l2 (by simp)
    obtain ⟨I0,aX,F8⟩:∃ v,H7 17=v∧BB Enc.u8 H8 (c4++O) v ((BJ (GP lb (CV la secret) lb.length) (List.replicate secret.length (0:UInt8))).1):=⟨_,rfl,x7 8 17 kR (by decide)⟩
    have:=F8.len_le
    obtain ⟨F2,rfl⟩:=AK (F:=H7) [(7,vI ((BY secret (la[0]!.epoch) (la[0]!.threshold) (la[0]!.many) ((BJ la secret).1)).2)),(12,c8),(116,OB c1),(17,I0),(109,vI ((BJ (GP lb (CV la secret) lb.length) (List.replicate secret.length (0:UInt8))).2))] ⟨t2 7 kR,t2 12 kR,t2 116 kR,aX,x7 7 109 kR (by decide),trivial⟩
    clear x7 t2
    refine AA (AD (vI ((BJ (GP lb (CV la secret) lb.length) (List.replicate secret.length (0:UInt8))).2)) rfl (AG (AB (AF (AF (AC kR (AA (AE (vI ((BJ (GP lb (CV la secret) lb.length) (List.replicate secret.length (0:UInt8))).2)) rfl (AA (CM .i64 ((BJ (GP lb (CV la secret) lb.length) (List.replicate secret.length (0:UInt8))).2) (0:Int) rfl rfl (AG (AB (AJ (((BJ (GP lb (CV la secret) lb.length) (List.replicate secret.length (0:UInt8))).2) != (0:Int)) rfl rfl (fun x8=>?_) (fun x8=>?_))))))))))))))
    ·have bY:(BJ (GP lb (CV la secret) lb.length) (List.replicate secret.length (0:UInt8))).2≠(0:Int):=by simpa using x8
     refine AF (AC kR (AA (AE (vI ((BJ (GP lb (CV la secret) lb.length) (List.replicate secret.length (0:UInt8))).2)) rfl (AA (AD (nS) rfl (AA (AD (vI ((BJ (GP lb (CV la secret) lb.length) (List.replicate secret.length (0:UInt8))).2)) rfl (AG (AB (AM (AI (endM_rm rfl a7 (fun df aY=>?_)))))))))))))
     have aZ:=H9.keepB aY (by repeat (assumption))
     refine ⟨_,EJ rfl rfl rfl rfl,?_⟩
     have ba:((CD la lb secret).1)=([]):=by exact congrArg (fun p=>p.1) (show CD la lb secret=_ from mixed_5 hca hcb w2 hex aS)
     have bb:((CD la lb secret).2)=((BJ (GP lb (CV la secret) lb.length) (List.replicate secret.length (0:UInt8))).2):=by exact congrArg (fun p=>p.2) (show CD la lb secret=_ from mixed_5 hca hcb w2 hex aS)
     exact ⟨_,rfl,aZ.keep,by rw [ba,bb];exact ⟨.slice none 0 0,rfl,BB.nil _ _ _⟩⟩
    have bZ:(BJ (GP lb (CV la secret) lb.length) (List.replicate secret.length (0:UInt8))).2=(0:Int):=by simpa using x8
    refine AR (AB (AF (AC kR (AA (AE (c8) rfl (AA (AE (I0) rfl (?_))))))))
    obtain ⟨dg,R6,o1,bc,R7⟩:=own_back H9 a8
    refine AA (o_append8 (l:=(BJ la secret).1) (m:=(BJ (GP lb (CV la secret) lb.length) (List.replicate secret.length (0:UInt8))).1) U26_ i_5 rfl (by decide) rfl rfl R7 F8 R6 (by have:=PE (l:=GP lb (CV la secret) lb.length) aS;omega) (by have:=PE (l:=GP lb (CV la secret) lb.length) aS;simp only [maxLen];omega) bc fun o2 bd o3 ca t3 o4 be dh bf x9=>(?_))
    have R8:∀ b,o2.ownBlock=some b→b≠c1:=fun b hb=>by have:=a7.lt;rcases t3 with e1|e1 <;> rw [e1] at hb <;> first|exact (fun b hb=>(m9 b hb).1) b hb|(cases hb;omega)
    have a7:=a7.keep bf (by simp only [Option.mem_toList];exact fun e=>absurd rfl ((fun b hb=>(m9 b hb).1) _ e))
    have g0:c1∈o3:=o4 c1 (o1 c1 (by repeat (assumption)))
    have cb:∀ b,o2.ownBlock=some b→b≠c2:=fun b hb=>by have:=a3.lt;rcases t3 with e1|e1 <;> rw [e1] at hb <;> first|exact C6 b hb|(cases hb;omega)
    have i5:c2∈o3:=o4 c2 (o1 c2 (by repeat (assumption)))
    have cc:∀ b,o2.ownBlock=some b→b≠b3:=fun b hb=>by have:=a0.lt;rcases t3 with e1|e1 <;> rw [e1] at hb <;> first|exact O3 b hb|(cases hb;omega)
    have d1:b3∈o3:=o4 b3 (o1 b3 (by repeat (assumption)))
    have cd:∀ b,o2.ownBlock=some b→b≠b4:=fun b hb=>by have:=a1.lt;rcases t3 with e1|e1 <;> rw [e1] at hb <;> first|exact O4 b hb|(cases hb;omega)
    have d2:b4∈o3:=o4 b4 (o1 b4 (by repeat (assumption)))
    refine AA (AD (o2) rfl (AA (AD (vI 0) rfl (AG (AB (AM (endM_rm rfl a7 (fun bg z9=>?_))))))))
    have I1:=be.keepB z9 (by repeat (assumption))
    have bh:Mv o3 bd o3 bg:=Mv.keepB z9 (by repeat (assumption))
    have x9:=x9.mv bh z9 (fun b hb=>BH (R8 b hb))
    refine ⟨_,EJ rfl rfl rfl rfl,?_⟩
    have bi:((CD la lb secret).1)=(((BJ la secret).1)++((BJ (GP lb (CV la secret) lb.length) (List.replicate secret.length (0:UInt8))).1)):=by exact congrArg (fun p=>p.1) (show CD la lb secret=_ from mixed_6 hca hcb w2 hex aS)
    have bj:((CD la lb secret).2)=(0:Int):=by exact congrArg (fun p=>p.2) (show CD la lb secret=_ from mixed_6 hca hcb w2 hex aS)
    exact ⟨_,rfl,I1.keep,by rw [bi,bj];exact ⟨o2,rfl,x9.pub I1⟩⟩
   have ce:((la[0]!.data).length:Int)≠((lb[0]!.data).length:Int):=by simpa using C5
   refine AL rfl (AL rfl (AL rfl (AL rfl (AL rfl (AL rfl (AA (AQ (vO true) rfl rfl (AG (AB (AJ true rfl rfl (fun _=>AF (AC kR (AA (AD (nS) rfl (AA (AD (vI 460) rfl (AG (AB (AM (AI (QY rfl (EJ rfl rfl rfl rfl) (?_)))))))))))) (fun h=>by cases h)))))))))))
   have bk:((CD la lb secret).1)=([]):=by exact congrArg (fun p=>p.1) (show CD la lb secret=_ from MM aS aS (IT oM))
   have bm:((CD la lb secret).2)=(460:Int):=by exact congrArg (fun p=>p.2) (show CD la lb secret=_ from MM aS aS (IT oM))
   exact ⟨_,rfl,k4.keep,by rw [bk,bm];exact ⟨.slice none 0 0,rfl,BB.nil _ _ _⟩⟩
  have cf:la[0]!.many≠lb[0]!.many:=by simpa using C4
  refine AL rfl (AL rfl (AL rfl (AL rfl (AL rfl (AL rfl (AL rfl (AA (AQ (vO true) rfl rfl (AA (AE (vO true) rfl (AL rfl (AL rfl (AL rfl (AL rfl (AL rfl (AL rfl (AA (AQ (vO true) rfl rfl (AG (AB (AJ true rfl rfl (fun _=>AF (AC kR (AA (AD (nS) rfl (AA (AD (vI 460) rfl (AG (AB (AM (AI (QY rfl (EJ rfl rfl rfl rfl) (?_)))))))))))) (fun h=>by cases h))))))))))))))))))))))
  have bn:((CD la lb secret).1)=([]):=by exact congrArg (fun p=>p.1) (show CD la lb secret=_ from MM aS aS (IT oM))
  have bo:((CD la lb secret).2)=(460:Int):=by exact congrArg (fun p=>p.2) (show CD la lb secret=_ from MM aS aS (IT oM))
  exact ⟨_,rfl,k4.keep,by rw [bn,bo];exact ⟨.slice none 0 0,rfl,BB.nil _ _ _⟩⟩
 have cg:la[0]!.threshold≠lb[0]!.threshold:=by simpa using C3
 refine AL rfl (AL rfl (AL rfl (AL rfl (AL rfl (AA (AQ (vO true) rfl rfl (AA (AE (vO true) rfl (AL rfl (AL rfl (AL rfl (AL rfl (AL rfl (AL rfl (AL rfl (AA (AQ (vO true) rfl rfl (AA (AE (vO true) rfl (AL rfl (AL rfl (AL rfl (AL rfl (AL rfl (AL rfl (AA (AQ (vO true) rfl rfl (AG (AB (AJ true rfl rfl (fun _=>AF (AC kR (AA (AD (nS) rfl (AA (AD (vI 460) rfl (AG (AB (AM (AI (QY rfl (EJ rfl rfl rfl rfl) (?_)))))))))))) (fun h=>by cases h)))))))))))))))))))))))))))))))
 have bp:((CD la lb secret).1)=([]):=by exact congrArg (fun p=>p.1) (show CD la lb secret=_ from MM aS aS (IT oM))
 have bq:((CD la lb secret).2)=(460:Int):=by exact congrArg (fun p=>p.2) (show CD la lb secret=_ from MM aS aS (IT oM))
 exact ⟨_,rfl,k4.keep,by rw [bp,bq];exact ⟨.slice none 0 0,rfl,BB.nil _ _ _⟩⟩
open Go.Fw Go.RowKit
set_option maxHeartbeats 4000000 in
set_option maxRecDepth 100000 in
theorem OY {O B:List Nat} {w0 w:World} (e:Int) (x0 x1:Nat) (s0:St w0 O w B) (h0:IX w x0 25 [vI 0,vI 0,vI 0,nS,nS]) (h1:IX w x1 30 [vI 0]) (f9:x0∈B) (g0:x1∈B) (hne:x0≠x1):CallsD Tryz.prog 84 [vP (some ⟨x0,0,none⟩),vP (some ⟨x1,0,none⟩)].toArray (.panicking [{ v:=.iface 103 (.agg #[vI e]),recovered:=false }]) w (fun e_ u_ w_=>u_=XN (.panicking [{ v:=.iface 103 (.agg #[vI e]),recovered:=false }])∧∃ v,e_ = .returned v∧St w0 O w_ B∧Mv B w B w_∧Keep [x0,x1] w w_∧IX w_ x0 25 [vI 0,vI 0,vI 0,nS,nS]∧IX w_ x1 30 [vI e]):= by
  have ms:Mv B w B w:=Mv.refl _ _
  have ks:Keep [x0,x1] w w:=Keep.refl _ _
  refine US 19 (.panicking [{ v:=.iface 103 (.agg #[vI e]),recovered:=false }]) Tryz.func84 rfl rfl oT rfl rfl (fun F0=>AF (AC kR (AA (AE (Value.iface 103 (vA #[vI e])) rfl (AA (o_neqNil U20_ rfl (AG (AB (AJ true rfl rfl (fun _=>AF (AC kR (AA (AE (Value.iface 103 (vA #[vI e])) rfl (AA (o_assertOk U103_ rfl rfl (AA (AE (vT #[vA #[vI e],vO true]) rfl (AA (AO (vA #[vI e]) rfl rfl (AA (AO (vO true) rfl rfl (AA (CZ [vI 0] RV rfl s0 fun a1 g1 d0 d1 d2 b7 c6=>(?_))))))))))))))) (fun h=>by cases h))))))))))
  have d3:w.heap.size≤a1:=by have:=ks.size;omega
  have a8:x0≠a1:=by have:=h0.lt;omega
  have a9:x1≠a1:=by have:=h1.lt;omega
  clear d0
  have h0:=h0.keep b7 (by simp)
  have h1:=h1.keep b7 (by simp)
  have ms:=ms.trans d2
  have ks:=ks.step0 b7 (fun b hb=>by (simp at hb;done))
  refine CC (BF (vs:=[vI e]) (.agg #[vI e]) rfl rfl rfl s_103 (fun u hu=>by simp only [List.mem_cons,List.not_mem_nil,or_false] at hu;rcases hu with rfl <;> rfl) (by repeat (constructor)) c6 oT d1 fun a2 a4 d4 b8 a0=>(?_))
  have h0:=h0.keep b8 (BH a8)
  have h1:=h1.keep b8 (BH a9)
  have ms:=ms.trans d4
  have ks:=ks.step0 b8 (fun b hb=>by (simp only [List.mem_singleton] at hb;subst hb;(right;omega)))
  refine AA (AD (vO true) rfl (AG (AB (AF (AF (AC kR (AA (AE (vO true) rfl (AA (EU true rfl (AG (AB (AJ false rfl rfl (fun h=>by cases h) (fun _=>AR (AB (cw_drawL 3 [1,2] _ _ _ [CQ (vA #[vI 0,vI 0,vI 0,nS,nS]),CQ (vP (some ⟨a1,0,none⟩)),CQ (vI e)] kR kR kR kR (by decide) rfl rfl rfl ⟨kI,kI,kI,trivial⟩ ⟨?_,?_,?_,trivial⟩ ?_ ?_))))))))))))))))
  · intro F1 w1 k1 hf hd
    have k0:=(Keep.drew [] a2).trans k1
    have s1:=a4.call k0
    have m1:Mv (a1 :: B) a2 (a1 :: B) w1:=Mv.of_keep k0
    obtain ⟨F2,rfl⟩:=AK (F:=F1) [] trivial
    exact AH rfl ((EG (l:=[]) OR KM rfl [] [vI 0,vI 0,vI 0,nS,nS] rfl rfl (⟨(Keep.refl _ _),rfl⟩)))
  · intro F1 w1 k1 hf hd
    have k0:=(Keep.drew [] a2).trans k1
    have s1:=a4.call k0
    have m1:Mv (a1 :: B) a2 (a1 :: B) w1:=Mv.of_keep k0
    have a0:=a0.keep k0 (by simp)
    obtain ⟨F2,rfl⟩:=AK (F:=F1) [(3,vP (some ⟨a1,0,none⟩))] ⟨hf 3 kR,trivial⟩
    exact AH rfl ((AT 0 f_103_0 rfl (⟨(Keep.refl _ _),rfl⟩)))
  · intro F1 w1 k1 hf hd
    have k0:=(Keep.drew [] a2).trans k1
    have s1:=a4.call k0
    have m1:Mv (a1 :: B) a2 (a1 :: B) w1:=Mv.of_keep k0
    have a0:=a0.keep k0 (by simp)
    obtain ⟨F2,rfl⟩:=AK (F:=F1) [(17,vP (some ⟨a1,0,none⟩))] ⟨hd 1 17 kR,trivial⟩
    exact AH rfl ((AU U30_ rfl (vI e) rfl a0 rfl (⟨(Keep.refl _ _),rfl⟩)))
  · intro d5 d6 a5 b2 b0
    have d7:=a4.call a5
    have d8:Mv (a1 :: B) a2 (a1 :: B) d6:=Mv.of_keep a5
    have h0:=h0.keep a5 (by simp)
    have h1:=h1.keep a5 (by simp)
    have a0:=a0.keep a5 (by simp)
    have ms:=ms.trans d8
    have ks:=ks.step0 a5 (fun b hb=>by (simp at hb;done))
    obtain ⟨F2,rfl⟩:=AK (F:=d5) [(0,vP (some ⟨x0,0,none⟩)),(1,vP (some ⟨x1,0,none⟩)),(19,undef),(16,vA #[vI 0,vI 0,vI 0,nS,nS]),(18,vI e)] ⟨b0 0 kR,b0 1 kR,b0 19 kR,b2 0 16 kR (by decide),b2 2 18 kR (by decide),trivial⟩
    clear b2 b0
    refine CC (BF (vs:=[vI 0,vI 0,vI 0,nS,nS]) (.agg #[vI 0,vI 0,vI 0,nS,nS]) rfl rfl rfl BM (fun u hu=>by simp only [List.mem_cons,List.not_mem_nil,or_false] at hu;rcases hu with rfl|rfl|rfl|rfl|rfl <;> rfl) rC h0 oT d7 fun g2 d9 e0 b9 b3=>(?_))
    have h1:=h1.keep b9 (BH (Ne.symm hne))
    have a0:=a0.keep b9 (BH (Ne.symm a8))
    have ms:=ms.trans e0
    have ks:=ks.step0 b9 (fun b hb=>by (simp only [List.mem_singleton] at hb;subst hb;(left;simp [Value.ownBlock];done)))
    refine CC (CN (vI e) rfl rfl rfl TK rC h1 oT d9 fun g3 e1 e2 c0 c7=>(?_))
    have b3:=b3.keep c0 (BH hne)
    have a0:=a0.keep c0 (BH (Ne.symm a9))
    have ms:=ms.trans e2
    have ks:=ks.step0 c0 (fun b hb=>by (simp only [List.mem_singleton] at hb;subst hb;(left;simp [Value.ownBlock];done)))
    refine AG (HL rfl (KL rfl) (?_))
    exact ⟨_,rfl,e1.drop (fun b hb=>rC),ms.trans (Mv.drop (fun b hb=>rC)),ks,b3,c7⟩
  intro cx_ hcx_
  match cx_,hcx_ with
  | 0,_=>
    intro e3 e4 a6 c5 a3
    have e5:=a4.call a6
    have e6:Mv (a1 :: B) a2 (a1 :: B) e4:=Mv.of_keep a6
    have h0:=h0.keep a6 (by simp)
    have h1:=h1.keep a6 (by simp)
    have a0:=a0.keep a6 (by simp)
    have ms:=ms.trans e6
    have ks:=ks.step0 a6 (fun b hb=>by (simp at hb;done))
    obtain ⟨F2,rfl⟩:=AK (F:=e3) [(0,vP (some ⟨x0,0,none⟩)),(1,vP (some ⟨x1,0,none⟩)),(3,vP (some ⟨a1,0,none⟩)),(19,undef),(16,vA #[vI 0,vI 0,vI 0,nS,nS])] ⟨a3 0 kR,a3 1 kR,a3 3 kR,a3 19 kR,c5 0 16 kR (by decide) (by decide),trivial⟩
    clear c5 a3
    refine CC (BF (vs:=[vI 0,vI 0,vI 0,nS,nS]) (.agg #[vI 0,vI 0,vI 0,nS,nS]) rfl rfl rfl BM (fun u hu=>by simp only [List.mem_cons,List.not_mem_nil,or_false] at hu;rcases hu with rfl|rfl|rfl|rfl|rfl <;> rfl) rC h0 oT e5 fun g4 e7 e8 c1 b4=>(?_))
    have h1:=h1.keep c1 (BH (Ne.symm hne))
    have a0:=a0.keep c1 (BH (Ne.symm a8))
    have ms:=ms.trans e8
    have ks:=ks.step0 c1 (fun b hb=>by (simp only [List.mem_singleton] at hb;subst hb;(left;simp [Value.ownBlock];done)))
    refine AA (AT 0 f_103_0 rfl (AA (AU U30_ rfl (vI e) rfl a0 rfl (CC (CN (vI e) rfl rfl rfl TK rC h1 oT e7 fun g5 e9 f0 c2 c8=>(?_))))))
    have b4:=b4.keep c2 (BH hne)
    have a0:=a0.keep c2 (BH (Ne.symm a9))
    have ms:=ms.trans f0
    have ks:=ks.step0 c2 (fun b hb=>by (simp only [List.mem_singleton] at hb;subst hb;(left;simp [Value.ownBlock];done)))
    refine AG (HL rfl (KL rfl) (?_))
    exact ⟨_,rfl,e9.drop (fun b hb=>rC),ms.trans (Mv.drop (fun b hb=>rC)),ks,b4,c8⟩
  | 1,_=>
    intro f1 f2 a7 b5 b1
    have f3:=a4.call a7
    have f4:Mv (a1 :: B) a2 (a1 :: B) f2:=Mv.of_keep a7
    have h0:=h0.keep a7 (by simp)
    have h1:=h1.keep a7 (by simp)
    have a0:=a0.keep a7 (by simp)
    have ms:=ms.trans f4
    have ks:=ks.step0 a7 (fun b hb=>by (simp at hb;done))
    obtain ⟨F2,rfl⟩:=AK (F:=f1) [(0,vP (some ⟨x0,0,none⟩)),(1,vP (some ⟨x1,0,none⟩)),(19,undef),(16,vA #[vI 0,vI 0,vI 0,nS,nS]),(17,vP (some ⟨a1,0,none⟩))] ⟨b1 0 kR,b1 1 kR,b1 19 kR,b5 0 16 kR (by decide) (by decide),b5 1 17 kR (by decide) (by decide),trivial⟩
    clear b5 b1
    refine CC (BF (vs:=[vI 0,vI 0,vI 0,nS,nS]) (.agg #[vI 0,vI 0,vI 0,nS,nS]) rfl rfl rfl BM (fun u hu=>by simp only [List.mem_cons,List.not_mem_nil,or_false] at hu;rcases hu with rfl|rfl|rfl|rfl|rfl <;> rfl) rC h0 oT f3 fun g6 f5 f6 c3 b6=>(?_))
    have h1:=h1.keep c3 (BH (Ne.symm hne))
    have a0:=a0.keep c3 (BH (Ne.symm a8))
    have ms:=ms.trans f6
    have ks:=ks.step0 c3 (fun b hb=>by (simp only [List.mem_singleton] at hb;subst hb;(left;simp [Value.ownBlock];done)))
    refine AA (AU U30_ rfl (vI e) rfl a0 rfl (CC (CN (vI e) rfl rfl rfl TK rC h1 oT f5 fun g7 f7 f8 c4 c9=>(?_))))
    have b6:=b6.keep c4 (BH hne)
    have a0:=a0.keep c4 (BH (Ne.symm a9))
    have ms:=ms.trans f8
    have ks:=ks.step0 c4 (fun b hb=>by (simp only [List.mem_singleton] at hb;subst hb;(left;simp [Value.ownBlock];done)))
    refine AG (HL rfl (KL rfl) (?_))
    exact ⟨_,rfl,f7.drop (fun b hb=>rC),ms.trans (Mv.drop (fun b hb=>rC)),ks,b6,c9⟩
open Go.Fw Go.RowKit
set_option maxHeartbeats 4000000 in
set_option maxRecDepth 100000 in
theorem XQ {O:List Nat} (c_cs:List Value) (c:Circle) (no:Int) (guardian:Int) (w:World) (H1:Enc.circle.rd w O c_cs c) (hO:∀ b∈O,b<w.heap.size):CA Tryz.prog 19 [.agg c_cs.toArray,vI no,vI guardian] w (fun v w'=>∃ (x0:List Value),v = .tuple #[.agg x0.toArray,vI ((CT c no (BV c guardian)).2)]∧Enc.circle.rd w' (O) x0 ((CT c no (BV c guardian)).1)):= by
 have H1:Enc.circle.rd w ([]++O) c_cs c:=H1
 have s0:St w O w []:=St.start hO
 refine BE 14 Tryz.func19 rfl rfl oT (fun F0=>AF (AC kR (AA (DR (E:=Enc.circle) (vA c_cs.toArray) (c_cs) c rfl rfl H1 s0 fun e6 aQ N6 aR aU b5=>(AA (DR (E:=Enc.int) (vI guardian) ([vI guardian]) guardian rfl rfl rfl N6 fun e2 aV N7 N8 aW b6=>(?_)))))))
 have b5:=b5.mv N8
 refine AA (CZ [vI 0,vI 0,vI 0,nS,nS] KM rfl N7 fun b1 aX N9 O0 D4 aY a0=>(?_))
 clear N9
 have b5:=b5.mv D4
 have b6:=b6.mv D4
 refine AA (AD (vI 0) rfl (AG (AB (AF (AC kR (AA (CJ U25_ rfl BM rfl b5 fun r5 H2=>(AA (AE (vI no) rfl (AA (DV (first:=[]) (captured:=[.tmp 3, .tmp 5]) [] [vP (some e6),vP (some e2)] rfl rfl (AA (IS [vA r5.toArray,vI no,vN (.func 41) #[] #[vP (some e6),vP (some e2)]] enter_40 rfl (SJ 51 Tryz.func40 rfl rfl oT (fun aZ=>AF (AC kR (AA (DR (E:=Enc.circle) (vA r5.toArray) (r5) c rfl rfl H2 O0 fun ba bb O1 D5 O2 a9=>(?_)))))))))))))))))))
 have b5:=b5.mv D5
 have b6:=b6.mv D5
 have a0:=a0.keep O2 (by simp)
 refine AA (CZ [vI 0,vI 0,vI 0,nS,nS] KM rfl O1 fun a3 bc O3 O4 v1 O5 a8=>(?_))
 have c6:HD b1 a3:=by show b1≠a3;have:=a0.lt;omega
 clear O3
 have b5:=b5.mv v1
 have b6:=b6.mv v1
 have a9:=a9.mv v1
 have a0:=a0.keep O5 (by simp)
 refine AA (CZ [vI 0] z_30 rfl O4 fun a6 O6 O7 D6 v2 D7 a1=>(?_))
 have e8:HD b1 a6:=by show b1≠a6;have:=a0.lt;omega
 have c0:HD a3 a6:=by show a3≠a6;have:=a8.lt;omega
 clear O7
 have b5:=b5.mv v2
 have b6:=b6.mv v2
 have a9:=a9.mv v2
 have a0:=a0.keep D7 (by simp)
 have a8:=a8.keep D7 (by simp)
 refine AG (AB (AF (AF (AC kR (AA (CJ U25_ rfl BM rfl a9 fun y6 H3=>(AA (AZ (vs:=[vA y6.toArray]) NK (QH (O:=(a6 :: (a3 :: (b1 :: [])))++O) y6 c O6 H3 D6.lt) rfl D6 fun bd be p4 v3 v4 O8=>(?_)))))))))
 obtain rfl:=O8
 have b5:=b5.mv v3
 have b6:=b6.mv v3
 have a9:=a9.mv v3
 have a0:=a0.keep v4 (by simp)
 have a8:=a8.keep v4 (by simp)
 have a1:=a1.keep v4 (by simp)
 refine AA (AD (vI (AP c)) rfl (AG (AB (AF (AC kR (AA (AE (vI (AP c)) rfl (AA (CM .i64 (AP c) (0:Int) rfl rfl (AG (AB (AJ ((AP c) != (0:Int)) rfl rfl (fun r6=>?_) (fun r6=>?_)))))))))))))
 ·have Z9:AP c≠(0:Int):=by simpa using r6
  refine AF (AC kR (AA (BS (vs:=[vI 0,vI 0,vI 0,nS,nS]) U25_ rfl BM rfl a8 rfl (AA (AE (vI (AP c)) rfl (CC (BF (vs:=[vI 0,vI 0,vI 0,nS,nS]) (.agg #[vI 0,vI 0,vI 0,nS,nS]) rfl rfl rfl BM (fun u hu=>by simp only [List.mem_cons,List.not_mem_nil,or_false] at hu;rcases hu with rfl|rfl|rfl|rfl|rfl <;> rfl) (by repeat (constructor)) a8 oT p4 fun bf O9 bg D8 r7=>(?_))))))))
  have a0:=a0.keep D8 (BH c6)
  have a1:=a1.keep D8 (BH (Ne.symm c0))
  refine CC (CN (vI (AP c)) rfl rfl rfl TK (by repeat (constructor)) a1 oT O9 fun bh P0 bi D9 H4=>(?_))
  have a0:=a0.keep D9 (BH e8)
  have r7:=r7.keep D9 (BH c0)
  refine AG (AB (AM (AI (TB rfl (FE rfl (EZ (vs:=[vI 0,vI 0,vI 0,nS,nS]) rfl U25_ rfl BM rfl r7 rfl) (OV rfl U30_ rfl rfl H4 rfl)) (EH (AA (AO (vA #[vI 0,vI 0,vI 0,nS,nS]) rfl rfl (AA (AO (vI (AP c)) rfl rfl (CC (BF (vs:=[vI 0,vI 0,vI 0,nS,nS]) (.agg #[vI 0,vI 0,vI 0,nS,nS]) rfl rfl rfl BM (fun u hu=>by simp only [List.mem_cons,List.not_mem_nil,or_false] at hu;rcases hu with rfl|rfl|rfl|rfl|rfl <;> rfl) (by repeat (constructor)) a0 oT P0 fun bj P1 bk bm H5=>(AA (AD (vI (AP c)) rfl (AG (AB (AM (AS rfl (FE rfl (EZ (vs:=[vI 0,vI 0,vI 0,nS,nS]) rfl U25_ rfl BM rfl H5 rfl) (EI rfl rfl)) (?_))))))))))))))))))
  have P2:((CT c no (BV c guardian)).1)=(⟨(0:Int),(0:Int),(0:Int),[],[]⟩:Circle):=by exact congrArg (fun p=>p.1) (show CT c no (BV c guardian)=_ from app_bad aS)
  have P3:((CT c no (BV c guardian)).2)=(AP c):=by exact congrArg (fun p=>p.2) (show CT c no (BV c guardian)=_ from app_bad aS)
  exact ⟨_,rfl,P1.keep,by rw [P2,P3];exact ⟨[vI 0,vI 0,vI 0,nS,nS],rfl,Enc.out (B:=(a6 :: (a3 :: (b1 :: [])))) ⟨.slice none 0 0, .slice none 0 0,rfl,(BB.nil _ _ _),(BB.nil _ _ _)⟩⟩⟩
 have H6:AP c=(0:Int):=by simpa using r6
 have hok:AP c=0:=H6
 have hrl:=recs_le hok
 refine AR (AB (AF (AF (AC kR (AA (AE (vI no) rfl (AA (DQ .i64 no (0:Int) rfl rfl (AA (AE (vO (decide (no<(0:Int)))) rfl (?_)))))))))))
 cases y7:(decide (no<(0:Int)))
 ·have aa:(0:Int)≤no:=by simpa using y7
  refine AW rfl (AE (vI no) rfl (AW rfl (AY 4 DL (c.recs) rfl a9 (fun _ _ _ h=>BX h) fun bn H7=>(AW rfl (BL U23_ rfl rfl H7 fun bo y8=>(?_))))))
  have:=y8.len_le
  refine AW rfl (BP U23_ rfl y8 (AW rfl (JZ .i64 no (c.recs.length:Int) rfl rfl (AA (BA (vO (decide ((c.recs.length:Int)≤no))) rfl rfl (AG (AB (AJ (decide ((c.recs.length:Int)≤no)) rfl rfl (fun r8=>?_) (fun r8=>?_)))))))))
  ·have ab:(c.recs.length:Int)≤no:=by simpa using r8
   refine AF (AC kR (AA (BS (vs:=[vI 0,vI 0,vI 0,nS,nS]) U25_ rfl BM rfl a8 rfl (CC (BF (vs:=[vI 0,vI 0,vI 0,nS,nS]) (.agg #[vI 0,vI 0,vI 0,nS,nS]) rfl rfl rfl BM (fun u hu=>by simp only [List.mem_cons,List.not_mem_nil,or_false] at hu;rcases hu with rfl|rfl|rfl|rfl|rfl <;> rfl) (by repeat (constructor)) a8 oT p4 fun bp P4 bq E0 r9=>(?_))))))
   have a0:=a0.keep E0 (BH c6)
   have a1:=a1.keep E0 (BH (Ne.symm c0))
   refine CC (CN (vI 1) rfl rfl rfl TK (by repeat (constructor)) a1 oT P4 fun br P5 bs E1 H8=>(?_))
   have a0:=a0.keep E1 (BH e8)
   have r9:=r9.keep E1 (BH c0)
   refine AG (AB (AM (AI (TB rfl (FE rfl (EZ (vs:=[vI 0,vI 0,vI 0,nS,nS]) rfl U25_ rfl BM rfl r9 rfl) (OV rfl U30_ rfl rfl H8 rfl)) (EH (AA (AO (vA #[vI 0,vI 0,vI 0,nS,nS]) rfl rfl (AA (AO (vI 1) rfl rfl (CC (BF (vs:=[vI 0,vI 0,vI 0,nS,nS]) (.agg #[vI 0,vI 0,vI 0,nS,nS]) rfl rfl rfl BM (fun u hu=>by simp only [List.mem_cons,List.not_mem_nil,or_false] at hu;rcases hu with rfl|rfl|rfl|rfl|rfl <;> rfl) (by repeat (constructor)) a0 oT P5 fun bt P6 bu bv H9=>(AA (AD (vI 1) rfl (AG (AB (AM (AS rfl (FE rfl (EZ (vs:=[vI 0,vI 0,vI 0,nS,nS]) rfl U25_ rfl BM rfl H9 rfl) (EI rfl rfl)) (?_))))))))))))))))))
   have P7:((CT c no (BV c guardian)).1)=(⟨(0:Int),(0:Int),(0:Int),[],[]⟩:Circle):=by exact congrArg (fun p=>p.1) (show CT c no (BV c guardian)=_ from app_no hok oM)
   have P8:((CT c no (BV c guardian)).2)=(1:Int):=by exact congrArg (fun p=>p.2) (show CT c no (BV c guardian)=_ from app_no hok oM)
   exact ⟨_,rfl,P6.keep,by rw [P7,P8];exact ⟨[vI 0,vI 0,vI 0,nS,nS],rfl,Enc.out (B:=(a6 :: (a3 :: (b1 :: [])))) ⟨.slice none 0 0, .slice none 0 0,rfl,(BB.nil _ _ _),(BB.nil _ _ _)⟩⟩⟩
  have ac:no<(c.recs.length:Int):=by simpa using r8
  refine AR (AB (AF (cw_defer [vP (some ⟨a3,0,none⟩),vP (some ⟨a6,0,none⟩)] rfl rfl rfl rfl (AB (AF (AC kR (AA (AY 4 DL (c.recs) rfl a9 (fun _ _ _ h=>BX h) fun bw I0=>(AA (BL U23_ rfl rfl I0 fun bx y9=>(?_)))))))))))
  have:=y9.len_le
  refine AA (AE (vI no) rfl (AA (CR U23_ GM .i64 no no.toNat rfl rfl oM y9 oM fun bz I1=>(AA (CJ U59_ rfl GM rfl I1 fun ad I2=>(?_))))))
  obtain ⟨d1,d2,rfl,b4,a4⟩:=I2
  have:=b4.len_le
  have:=a4.len_le
  refine AA (EG (l:=[(0, .tmp 31)]) pl_74 z_74 rfl [(0,vA #[vI ((c.recs[no.toNat]!).no),vI ((c.recs[no.toNat]!).asked),vI ((c.recs[no.toNat]!).state),d1,d2],[vI ((c.recs[no.toNat]!).no),vI ((c.recs[no.toNat]!).asked),vI ((c.recs[no.toNat]!).state),d1,d2])] [vI ((c.recs[no.toNat]!).no),vI ((c.recs[no.toNat]!).asked),vI ((c.recs[no.toNat]!).state),d1,d2] rfl ⟨_,rfl,rfl,oT,rfl⟩ (AA (o_box (vA #[vI ((c.recs[no.toNat]!).no),vI ((c.recs[no.toNat]!).asked),vI ((c.recs[no.toNat]!).state),d1,d2]) [vI ((c.recs[no.toNat]!).no),vI ((c.recs[no.toNat]!).asked),vI ((c.recs[no.toNat]!).state),d1,d2] rfl rfl p4 fun a2 bA P9 Q0 m6 v5 b0=>(?_))))
  have z0:HD b1 a2:=by show b1≠a2;have:=a0.lt;omega
  have g4:HD a3 a2:=by show a3≠a2;have:=a8.lt;omega
  have z1:HD a6 a2:=by show a6≠a2;have:=a1.lt;omega
  clear P9
  have b5:=b5.mv m6
  have b6:=b6.mv m6
  have a9:=a9.mv m6
  have b4:=b4.mv m6
  have a4:=a4.mv m6
  have a0:=a0.keep v5 (by simp)
  have a8:=a8.keep v5 (by simp)
  have a1:=a1.keep v5 (by simp)
  refine AA (AD (vP (some ⟨a2,0,none⟩)) rfl (AG (AB (AF (AC kR (AA (AE (vN (.func 41) #[] #[vP (some e6),vP (some e2)]) rfl (AA (AE (vP (some ⟨a2,0,none⟩)) rfl (AA (LE [] [vP (some e6),vP (some e2)] [vP (some ⟨a2,0,none⟩)] enter_41 rfl rfl (CE 11 Tryz.func41 rfl rfl oT (fun bB=>AF (AC kR (AA (o_box (vP (some ⟨a2,0,none⟩)) [vP (some ⟨a2,0,none⟩)] rfl rfl Q0 fun a5 bC Q1 Q2 m7 p5 a7=>(?_)))))))))))))))))
  have ae:HD b1 a5:=by show b1≠a5;have:=a0.lt;omega
  have s2:HD a3 a5:=by show a3≠a5;have:=a8.lt;omega
  have af:HD a6 a5:=by show a6≠a5;have:=a1.lt;omega
  have z2:HD a2 a5:=by show a2≠a5;have:=b0.lt;omega
  clear Q1
  have b5:=b5.mv m7
  have b6:=b6.mv m7
  have a9:=a9.mv m7
  have b4:=b4.mv m7
  have a4:=a4.mv m7
  have a0:=a0.keep p5 (by simp)
  have a8:=a8.keep p5 (by simp)
  have a1:=a1.keep p5 (by simp)
  have b0:=b0.keep p5 (by simp)
  refine AG (AB (AC kR (AA (AU U65_ rfl (vP (some ⟨a2,0,none⟩)) rfl a7 rfl (AA (VE Q2 fun b2 bD Q3 Q4 m9 n2 I3=>(?_)))))))
  have s3:HD b1 b2:=by show b1≠b2;have:=a0.lt;omega
  have i9:HD a3 b2:=by show a3≠b2;have:=a8.lt;omega
  have s4:HD a6 b2:=by show a6≠b2;have:=a1.lt;omega
  have k4:HD a2 b2:=by show a2≠b2;have:=b0.lt;omega
  have s5:HD a5 b2:=by show a5≠b2;have:=a7.lt;omega
  clear Q3
  have b5:=b5.mv m9
  have b6:=b6.mv m9
  have a9:=a9.mv m9
  have b4:=b4.mv m9
  have a4:=a4.mv m9
  have a0:=a0.keep n2 (by simp)
  have a8:=a8.keep n2 (by simp)
  have a1:=a1.keep n2 (by simp)
  have b0:=b0.keep n2 (by simp)
  have a7:=a7.keep n2 (by simp)
  refine AA (DV (first:=[]) (captured:=[.tmp 3]) [] [vP (some ⟨a5,0,none⟩)] rfl rfl (CC (LU U70_ U3_ rfl rfl rfl I3 (by repeat (constructor)) Q4 rfl fun bE Q5 n3 n4 I4=>(?_))))
  have b5:=b5.mv n3
  have b6:=b6.mv n3
  have a9:=a9.mv n3
  have b4:=b4.mv n3
  have a4:=a4.mv n3
  have a0:=a0.keep n4 (BH s3)
  have a8:=a8.keep n4 (BH i9)
  have a1:=a1.keep n4 (BH s4)
  have b0:=b0.keep n4 (BH k4)
  have a7:=a7.keep n4 (BH s5)
  refine AA (DV (first:=[]) (captured:=[.tmp 3]) [] [vP (some ⟨a5,0,none⟩)] rfl rfl (CC (LU U70_ U3_ rfl rfl rfl I4 (by repeat (constructor)) Q5 rfl fun bF Q6 n5 n6 I5=>(?_))))
  have b5:=b5.mv n5
  have b6:=b6.mv n5
  have a9:=a9.mv n5
  have b4:=b4.mv n5
  have a4:=a4.mv n5
  have a0:=a0.keep n6 (BH s3)
  have a8:=a8.keep n6 (BH i9)
  have a1:=a1.keep n6 (BH s4)
  have b0:=b0.keep n6 (BH k4)
  have a7:=a7.keep n6 (BH s5)
  refine AA (DV (first:=[]) (captured:=[.tmp 3, .tmp 1, .tmp 2]) [] [vP (some ⟨a5,0,none⟩),vP (some e6),vP (some e2)] rfl rfl (CC (LU U70_ U3_ rfl rfl rfl I5 (by repeat (constructor)) Q6 rfl fun j2 p6 n7 n9 b3=>(?_))))
  have b5:=b5.mv n7
  have b6:=b6.mv n7
  have a9:=a9.mv n7
  have b4:=b4.mv n7
  have a4:=a4.mv n7
  have a0:=a0.keep n9 (BH s3)
  have a8:=a8.keep n9 (BH i9)
  have a1:=a1.keep n9 (BH s4)
  have b0:=b0.keep n9 (BH k4)
  have a7:=a7.keep n9 (BH s5)
  refine AA (AE (Value.map (some b2)) rfl (AA (IS [vP (some ⟨a2,0,none⟩),Value.map (some b2)] enter_42 rfl (CE 19 Tryz.func42 rfl rfl oT (fun bG=>AF (AC kR (AA (AE (Value.map (some b2)) rfl (AA (AE (vP (some ⟨a2,0,none⟩)) rfl (AA (FU ⟨a2,0,none⟩ rfl (AA (AT 0 KR rfl (AA (AT 2 HN rfl (AA (AU U3_ rfl (vI ((c.recs[no.toNat]!).state)) rfl b0 rfl (?_)))))))))))))))))))
  rcases (TT hok oM oM:(c.recs[no.toNat]!).state=0∨(c.recs[no.toNat]!).state=1∨(c.recs[no.toNat]!).state=2) with k5|k5|k5
  ·refine AA (LS (k:=0) (vN (.func 46) #[] #[vP (some ⟨a5,0,none⟩),vP (some e6),vP (some e2)]) U70_ U3_ rfl (congrArg vI k5) b3 rfl (AA (AE (vT #[vN (.func 46) #[] #[vP (some ⟨a5,0,none⟩),vP (some e6),vP (some e2)],vO true]) rfl (AA (AO (vN (.func 46) #[] #[vP (some ⟨a5,0,none⟩),vP (some e6),vP (some e2)]) rfl rfl (AA (AO (vO true) rfl rfl (AA (AD (vN (.func 46) #[] #[vP (some ⟨a5,0,none⟩),vP (some e6),vP (some e2)]) rfl (AA (AD (vO true) rfl (AG (AB (AF (AC kR (AA (AE (vO true) rfl (AG (AB (AJ true rfl rfl (fun _=>AC kR (AA (AE (vN (.func 46) #[] #[vP (some ⟨a5,0,none⟩),vP (some e6),vP (some e2)]) rfl (AA (LE [] [vP (some ⟨a5,0,none⟩),vP (some e6),vP (some e2)] [] enter_46 rfl rfl (CE 12 Tryz.func46 rfl rfl oT (fun bH=>AF (cw_draw' 5 _ _ [CQ (vP (some ⟨a2,0,none⟩)),fun (vT:Value) (wT:World)=>∃ aT,vT = .pointer (some aT)∧PT (Enc.slice Enc.int) wT ((b2 :: (a5 :: (a2 :: (a6 :: (a3 :: (b1 :: []))))))++O) (.pointer (some aT)) (c.guardians),fun (vT:Value) (wT:World)=>BB Enc.int wT ((b2 :: (a5 :: (a2 :: (a6 :: (a3 :: (b1 :: []))))))++O) vT (c.guardians),CQ (vI guardian),CQ (vO (c.guardians.contains guardian))] kR kR kR kR rfl rfl ⟨kI,fun _ _ _ ⟨a,e,h⟩ k=>⟨a,e,h.mv (Mv.of_keep k)⟩,fun _ _ _ h k=>h.mv (Mv.of_keep k),kI,kI,trivial⟩ ⟨?_,?_,?_,?_,?_,trivial⟩ ?_)))))))) (fun h=>by cases h)))))))))))))))))))))
   ·intro F1 w1 k1 hf hd
    have k0:=(Keep.drew [] j2).trans k1
    have a7:=a7.keep k0 (by simp)
    obtain ⟨F2,rfl⟩:=AK (F:=F1) [(0,vP (some ⟨a5,0,none⟩))] ⟨hf 0 kR,trivial⟩
    exact AH rfl ((AU U65_ rfl (vP (some ⟨a2,0,none⟩)) rfl a7 rfl (⟨(Keep.refl _ _),rfl⟩)))
   ·intro F1 w1 k1 hf hd
    have k0:=(Keep.drew [] j2).trans k1
    have m1:Mv (b2 :: (a5 :: (a2 :: (a6 :: (a3 :: (b1 :: [])))))) j2 (b2 :: (a5 :: (a2 :: (a6 :: (a3 :: (b1 :: [])))))) w1:=Mv.of_keep k0
    have b5:=b5.mv m1
    obtain ⟨F2,rfl⟩:=AK (F:=F1) [(1,vP (some e6))] ⟨hf 1 kR,trivial⟩
    exact AH rfl ((AY 3 JE (c.guardians) rfl b5 (fun _ _ _ h=>EA h) fun Q7 I6=>(⟨(Keep.refl _ _),⟨Q7,rfl,I6⟩⟩)))
   ·intro F1 w1 k1 hf hd
    obtain ⟨Q8,Q9,I7⟩:∃ aX_,F1 4 = .pointer (some aX_)∧PT (Enc.slice Enc.int) w1 ((b2 :: (a5 :: (a2 :: (a6 :: (a3 :: (b1 :: []))))))++O) (.pointer (some aX_)) (c.guardians):=hd 1 4 kR
    obtain ⟨F2,rfl⟩:=AK (F:=F1) [(4,vP (some Q8))] ⟨Q9,trivial⟩
    refine AH rfl ((BL U22_ rfl rfl I7 fun bI z3=>(?_)))
    have:=z3.len_le
    exact ⟨(Keep.refl _ _),z3⟩
   ·intro F1 w1 k1 hf hd
    have k0:=(Keep.drew [] j2).trans k1
    have m1:Mv (b2 :: (a5 :: (a2 :: (a6 :: (a3 :: (b1 :: [])))))) j2 (b2 :: (a5 :: (a2 :: (a6 :: (a3 :: (b1 :: [])))))) w1:=Mv.of_keep k0
    have b6:=b6.mv m1
    obtain ⟨F2,rfl⟩:=AK (F:=F1) [(2,vP (some e2))] ⟨hf 2 kR,trivial⟩
    exact AH rfl ((BK U3_ rfl rfl b6 (⟨(Keep.refl _ _),rfl⟩)))
   ·intro F1 w1 k1 hf hd
    have k0:=(Keep.drew [] j2).trans k1
    have s1:=p6.call k0
    obtain ⟨v6,R0,z4⟩:∃ v,F1 5=v∧BB Enc.int w1 ((b2 :: (a5 :: (a2 :: (a6 :: (a3 :: (b1 :: []))))))++O) v (c.guardians):=⟨_,rfl,hd 2 5 kR⟩
    have:=z4.len_le
    obtain ⟨F2,rfl⟩:=AK (F:=F1) [(5,v6),(6,vI guardian)] ⟨R0,hd 3 6 kR,trivial⟩
    refine AH rfl ((AZ (vs:=[v6,vI guardian]) enter_47 (UX (O:=(b2 :: (a5 :: (a2 :: (a6 :: (a3 :: (b1 :: []))))))++O) v6 c.guardians guardian w1 z4 s1.lt) rfl s1 fun bJ bK bL bM R1 R2=>(?_)))
    obtain rfl:=R2
    exact ⟨R1,rfl⟩
   intro R3 E2 i6 s6 o0
   have v7:=p6.call i6
   have p7:Mv (b2 :: (a5 :: (a2 :: (a6 :: (a3 :: (b1 :: [])))))) j2 (b2 :: (a5 :: (a2 :: (a6 :: (a3 :: (b1 :: [])))))) E2:=Mv.of_keep i6
   have b6:=b6.mv p7
   have a9:=a9.mv p7
   have b4:=b4.mv p7
   have a4:=a4.mv p7
   have a0:=a0.keep i6 (by simp)
   have a8:=a8.keep i6 (by simp)
   have a1:=a1.keep i6 (by simp)
   have b0:=b0.keep i6 (by simp)
   have a7:=a7.keep i6 (by simp)
   have b3:=b3.keep i6 (by simp)
   obtain ⟨F2,rfl⟩:=AK (F:=R3) [(0,vP (some ⟨a5,0,none⟩)),(2,vP (some e2)),(12,undef),(3,vP (some ⟨a2,0,none⟩)),(7,vO (c.guardians.contains guardian))] ⟨o0 0 kR,o0 2 kR,o0 12 kR,s6 0 3 kR (by decide),s6 4 7 kR (by decide),trivial⟩
   clear s6 o0
   refine AA (IS [vP (some ⟨a2,0,none⟩),vO (c.guardians.contains guardian),vI 450] LB rfl (CE 11 Tryz.func44 rfl rfl oT (fun bN=>AF (AC kR (AA (AE (vO (c.guardians.contains guardian)) rfl (AA (EU (c.guardians.contains guardian) rfl (AG (AB (AJ (!(c.guardians.contains guardian)) rfl rfl (fun s7=>?_) (fun s7=>?_))))))))))))
   ·have ag:(c.guardians.contains guardian)=false:=by simpa using s7
    refine AC kR (AA (AE (vI 450) rfl (AA (EG (l:=[(0, .tmp 8)]) PS RV rfl [(0,vI 450,[vI 450])] [vI 450] rfl ⟨_,rfl,rfl,oT,rfl⟩ (AA (MJ (vA #[vI 450]) U103_ rfl rfl (CC (ML rfl (GO rfl (FA (JI (GO rfl (FA (GO rfl (FA (GO rfl (FA (JI (MO (JR [vP (some ⟨a3,0,none⟩),vP (some ⟨a6,0,none⟩)] (.panicking [{ v:=Value.iface 103 (vA #[vI 450]),recovered:=false }]) rfl (fun h=>by cases h) rfl IG (OY (450:Int) a3 a6 v7 a8 a1 (by repeat (constructor)) (by repeat (constructor)) c0) (fun e_ bO hR_=>?_)))))))))))))))))))))
    obtain ⟨v_,rfl,R4,bP,R5,I8,I9⟩:=hR_
    have a0:=a0.keep R5 (nin2 c6 e8)
    refine Exists.intro _ (And.intro (FE rfl (EZ (vs:=[vI 0,vI 0,vI 0,nS,nS]) rfl U25_ rfl BM rfl I8 rfl) (OV rfl U30_ rfl rfl I9 rfl)) (EH (AA (AO (vA #[vI 0,vI 0,vI 0,nS,nS]) rfl rfl (AA (AO (vI 450) rfl rfl (CC (BF (vs:=[vI 0,vI 0,vI 0,nS,nS]) (.agg #[vI 0,vI 0,vI 0,nS,nS]) rfl rfl rfl BM (fun u hu=>by simp only [List.mem_cons,List.not_mem_nil,or_false] at hu;rcases hu with rfl|rfl|rfl|rfl|rfl <;> rfl) (by repeat (constructor)) a0 oT R4 fun bQ R6 bR bS J0=>(AA (AD (vI 450) rfl (AG (AB (AM (AS rfl (FE rfl (EZ (vs:=[vI 0,vI 0,vI 0,nS,nS]) rfl U25_ rfl BM rfl J0 rfl) (EI rfl rfl)) (?_)))))))))))))))
    have R7:((CT c no (BV c guardian)).1)=(⟨(0:Int),(0:Int),(0:Int),[],[]⟩:Circle):=by exact congrArg (fun p=>p.1) (show CT c no (BV c guardian)=_ from app_not hok oM oM aS aS)
    have R8:((CT c no (BV c guardian)).2)=(450:Int):=by exact congrArg (fun p=>p.2) (show CT c no (BV c guardian)=_ from app_not hok oM oM aS aS)
    exact ⟨_,rfl,R6.keep,by rw [R7,R8];exact ⟨[vI 0,vI 0,vI 0,nS,nS],rfl,Enc.out (B:=(b2 :: (a5 :: (a2 :: (a6 :: (a3 :: (b1 :: []))))))) ⟨.slice none 0 0, .slice none 0 0,rfl,(BB.nil _ _ _),(BB.nil _ _ _)⟩⟩⟩
   have ah:(c.guardians.contains guardian)=true:=by simpa using s7
   refine AR (HL rfl (KL rfl) (EH (AG (AB (AC kR (AA (AU U65_ rfl (vP (some ⟨a2,0,none⟩)) rfl a7 rfl (AA (BK U3_ rfl rfl b6 (AA (LM [vP (some ⟨a2,0,none⟩),vI guardian] _ enter_48 rfl (CE 32 Tryz.func48 rfl rfl oT (fun bT=>AF (AC kR (AA (AE (vP (some ⟨a2,0,none⟩)) rfl (AA (FU ⟨a2,0,none⟩ rfl (AA (AT 0 KR rfl (AA (AT 3 MA rfl (AA (AU U22_ rfl (d1) rfl b0 rfl (AA (AE (vI guardian) rfl (AA (AZ (vs:=[d1,vI guardian]) enter_86 (c_bs (O:=(b2 :: (a5 :: (a2 :: (a6 :: (a3 :: (b1 :: []))))))++O) d1 ((c.recs[no.toNat]!).approved) guardian E2 b4 (UF hok oM oM) (by have:=NW (GN (MU hok (k:=no.toNat) oM)).2.2;omega) v7.lt) rfl v7 fun bU R9 v8 v9 l3 S0=>(?_)))))))))))))))))) (fun _ _ h=>h))))))))))))
   obtain rfl:=S0
   have b4:=b4.mv v9
   have a9:=a9.mv v9
   have a4:=a4.mv v9
   have a0:=a0.keep l3 (by simp)
   have a8:=a8.keep l3 (by simp)
   have a1:=a1.keep l3 (by simp)
   have b0:=b0.keep l3 (by simp)
   have a7:=a7.keep l3 (by simp)
   have b3:=b3.keep l3 (by simp)
   refine AA (AE (vT #[vI ((tw ((c.recs[no.toNat]!).approved) guardian:Nat):Int),vO (XL ((c.recs[no.toNat]!).approved) guardian)]) rfl (AA (AO (vI ((tw ((c.recs[no.toNat]!).approved) guardian:Nat):Int)) rfl rfl (AA (AO (vO (XL ((c.recs[no.toNat]!).approved) guardian)) rfl rfl (AA (AD (vI ((tw ((c.recs[no.toNat]!).approved) guardian:Nat):Int)) rfl (AA (AD (vO (XL ((c.recs[no.toNat]!).approved) guardian)) rfl (AG (AB (AF (AC kR (AA (AE (vO (XL ((c.recs[no.toNat]!).approved) guardian)) rfl (AA (EU (XL ((c.recs[no.toNat]!).approved) guardian) rfl (AG (AB (AJ (!(XL ((c.recs[no.toNat]!).approved) guardian)) rfl rfl (fun s8=>?_) (fun s8=>?_)))))))))))))))))))))
   ·have ai:(XL ((c.recs[no.toNat]!).approved) guardian)=false:=by simpa using s8
    refine AC kR (AA (AE (vP (some ⟨a2,0,none⟩)) rfl (AA (AE (vP (some ⟨a2,0,none⟩)) rfl (AA (FU ⟨a2,0,none⟩ rfl (AA (AT 0 KR rfl (AA (AT 3 MA rfl (AA (AU U22_ rfl (d1) rfl b0 rfl (AA (LM [d1] _ WE rfl (CE 8 Tryz.func35 rfl rfl oT (fun bV=>AF (AC kR (AA (AD (nS) rfl (AG (AB (AF (AF (AC kR (AA (AE (d1) rfl (AA (KW U22_ rfl rfl b4 fun s9 H0=>(AG (AB (AJ (s9) rfl rfl (fun t0=>?_) (fun t0=>?_)))))))))))))))))) (fun _ _ h=>h)))))))))))))))
    ·have aj:s9=true:=by simpa using t0
     refine AF (AC kR (AA (AD (nS) rfl (AG (AB (AM (AI (AS rfl (BZ rfl rfl rfl) (?_)))))))))
     have v0:(c.recs[no.toNat]!).approved=[]:=H0 aS
     have ak:BB Enc.int R9 ((b2 :: (a5 :: (a2 :: (a6 :: (a3 :: (b1 :: []))))))++O) (.slice none 0 0) ((c.recs[no.toNat]!).approved):=by rw [v0];exact BB.nil _ _ _
     refine Exists.intro _ (And.intro rfl (AA (AE (vI ((tw ((c.recs[no.toNat]!).approved) guardian:Nat):Int)) rfl (AA (AE (vI guardian) rfl (AA (JL (E:=Enc.int) (xs:=[.tmp 26]) U22_ MS z_3 (by decide) [vI guardian] [[vI guardian]] [guardian] rfl rfl rfl (Parts.cons rfl rfl (Parts.nil _ _ _)) oT v8 fun e9 S1 bW S2 g5 S3 E3 l4 z5=>(?_))))))))
     have al:∀ b,e9.ownBlock=some b→b≠b1:=fun b hb=>by have:=a0.lt;rw [g5] at hb;cases hb;omega
     have am:∀ b,e9.ownBlock=some b→b≠a3:=fun b hb=>by have:=a8.lt;rw [g5] at hb;cases hb;omega
     have an:∀ b,e9.ownBlock=some b→b≠a6:=fun b hb=>by have:=a1.lt;rw [g5] at hb;cases hb;omega
     have ao:∀ b,e9.ownBlock=some b→b≠a2:=fun b hb=>by have:=b0.lt;rw [g5] at hb;cases hb;omega
     have ap:∀ b,e9.ownBlock=some b→b≠a5:=fun b hb=>by have:=a7.lt;rw [g5] at hb;cases hb;omega
     have aq:∀ b,e9.ownBlock=some b→b≠b2:=fun b hb=>by have:=b3.lt;rw [g5] at hb;cases hb;omega
     have t2:∀ b,e9.ownBlock=some b→b∈(S1 :: (b2 :: (a5 :: (a2 :: (a6 :: (a3 :: (b1 :: []))))))):=fun b hb=>by rw [g5] at hb;cases hb;simp
     clear S2 g5
     have a9:=a9.mv E3
     have a4:=a4.mv E3
     have a0:=a0.keep l4 (by simp)
     have a8:=a8.keep l4 (by simp)
     have a1:=a1.keep l4 (by simp)
     have b0:=b0.keep l4 (by simp)
     have a7:=a7.keep l4 (by simp)
     have b3:=b3.keep l4 (by simp)
     refine AA (IS [nS,vI ((tw ((c.recs[no.toNat]!).approved) guardian:Nat):Int),e9] enter_87 rfl (Calls.mono (YO (.slice none 0 0) e9 ((c.recs[no.toNat]!).approved) ([guardian]) (tw ((c.recs[no.toNat]!).approved) guardian) S3 (by rw [v0];exact EX.nil Enc.int 3 _ _ _) z5 (by intro b hb;simp [Value.ownBlock] at hb) t2 (fun b hb=>by simp [Value.ownBlock] at hb) (by simp) (tw_le _ _) (by have:=NW (GN (MU hok (k:=no.toNat) oM)).2.2;simp only [List.length_cons,List.length_nil];omega) (by have:=NW (GN (MU hok (k:=no.toNat) oM)).2.2;simp only [List.length_cons,List.length_nil,maxLen];omega)) (fun e_ bX hR_=>?_)))
     obtain ⟨c7,g9,rfl,o1,h7,g0,S4,E4,l5,c4⟩:=hR_
     refine EH ?_
     have ar:∀ b,e9.ownBlock=some b→c7.ownBlock≠some b:=fun b hb e=>(h7 b e).elim (fun e1=>(by simp [Value.ownBlock] at e1)) (fun e1=>by have:=(z5.lt b hb).2;omega)
     have J1:∀ b,c7.ownBlock=some b→b≠b1:=fun b hb=>(h7 b hb).elim (fun e1=>(by simp [Value.ownBlock] at e1)) (fun e1=>by have:=a0.lt;omega)
     have t3:∀ b,c7.ownBlock=some b→b≠a3:=fun b hb=>(h7 b hb).elim (fun e1=>(by simp [Value.ownBlock] at e1)) (fun e1=>by have:=a8.lt;omega)
     have J2:∀ b,c7.ownBlock=some b→b≠a6:=fun b hb=>(h7 b hb).elim (fun e1=>(by simp [Value.ownBlock] at e1)) (fun e1=>by have:=a1.lt;omega)
     have z6:∀ b,c7.ownBlock=some b→b≠a2:=fun b hb=>(h7 b hb).elim (fun e1=>(by simp [Value.ownBlock] at e1)) (fun e1=>by have:=b0.lt;omega)
     have J3:∀ b,c7.ownBlock=some b→b≠a5:=fun b hb=>(h7 b hb).elim (fun e1=>(by simp [Value.ownBlock] at e1)) (fun e1=>by have:=a7.lt;omega)
     have J4:∀ b,c7.ownBlock=some b→b≠b2:=fun b hb=>(h7 b hb).elim (fun e1=>(by simp [Value.ownBlock] at e1)) (fun e1=>by have:=b3.lt;omega)
     have t2:∀ b,e9.ownBlock=some b→b∈g9:=fun b hb=>g0 b (t2 b hb)
     have d3:b1∈g9:=g0 b1 (by repeat (constructor))
     have d4:a3∈g9:=g0 a3 (by repeat (constructor))
     have d5:a6∈g9:=g0 a6 (by repeat (constructor))
     have d6:a2∈g9:=g0 a2 (by repeat (constructor))
     have d7:a5∈g9:=g0 a5 (by repeat (constructor))
     have d8:b2∈g9:=g0 b2 (by repeat (constructor))
     have a9:=a9.mv E4
     have a4:=a4.mv E4
     have a0:=a0.keep l5 (by simp [Value.ownBlock])
     have a8:=a8.keep l5 (by simp [Value.ownBlock])
     have a1:=a1.keep l5 (by simp [Value.ownBlock])
     have b0:=b0.keep l5 (by simp [Value.ownBlock])
     have a7:=a7.keep l5 (by simp [Value.ownBlock])
     have b3:=b3.keep l5 (by simp [Value.ownBlock])
     refine AA (FU ⟨a2,0,none⟩ rfl (AA (AT 0 KR rfl (AA (AT 3 MA rfl (CC (CN (c7) rfl rfl c4.oneCell s_22 (by repeat (assumption)) b0 oT S4 fun bY S5 w0 l6 c9=>(?_))))))))
     have c4:=c4.mv w0 l6 (fun b hb=>BH (z6 b hb))
     have a9:=a9.mv w0
     have a4:=a4.mv w0
     have a0:=a0.keep l6 (BH z0)
     have a8:=a8.keep l6 (BH g4)
     have a1:=a1.keep l6 (BH z1)
     have a7:=a7.keep l6 (BH (Ne.symm z2))
     have b3:=b3.keep l6 (BH (Ne.symm k4))
     refine AG (HL rfl (KL rfl) (Exists.intro _ (And.intro rfl (AG (HL rfl (KL rfl) (EH (AG (HL rfl (KL rfl) (EH (AG (HL rfl (KL rfl) (EH (AG (AB (AF (AC kR (AA (CJ U25_ rfl BM rfl a9 fun au J5=>(?_)))))))))))))))))))
     obtain ⟨f0,E5,rfl,b7,z7⟩:=J5
     have:=b7.len_le
     have:=z7.len_le
     refine CC (BF (vs:=[vI c.epoch,vI c.threshold,vI c.wait,f0,E5]) (.agg #[vI c.epoch,vI c.threshold,vI c.wait,f0,E5]) rfl rfl rfl BM (fun u hu=>by simp only [List.mem_cons,List.not_mem_nil,or_false] at hu;rcases hu with rfl|rfl|rfl|rfl|rfl <;> first|rfl|exact b7.oneCell|exact z7.oneCell) (by repeat (assumption)) a8 oT S5 fun bZ S6 p8 l7 h8=>(?_))
     have a9:=a9.mv p8
     have a4:=a4.mv p8
     have b7:=b7.mv p8
     have a0:=a0.keep l7 (BH c6)
     have a1:=a1.keep l7 (BH (Ne.symm c0))
     have c4:=c4.mv p8 l7 (fun b hb=>BH (t3 b hb))
     have c9:=c9.keep l7 (BH (Ne.symm g4))
     have a7:=a7.keep l7 (BH (Ne.symm s2))
     have b3:=b3.keep l7 (BH (Ne.symm i9))
     refine AG (AB (AF (AC kR (AA (AY 4 DL (c.recs) rfl a9 (fun _ _ _ h=>BX h) fun ca J6=>(AA (BL U23_ rfl rfl J6 fun w2 k6=>(?_))))))))
     have:=k6.len_le
     refine AA (LM [w2] _ NL rfl (CE 8 Tryz.func39 rfl rfl oT (fun cb=>AF (AC kR (AA (AD (nS) rfl (AG (AB (AF (AF (AC kR (AA (AE (w2) rfl (AA (QL U23_ rfl rfl k6 oM (AG (AB (AJ false rfl rfl (fun h=>by cases h) (fun _=>AR (AB (AF (AC kR (AA (JL (E:=Enc.recovery) (xs:=[]) U23_ GM NA (by decide) [] [] [] rfl rfl rfl (Parts.nil _ _ _) oT S6 fun h0 E6 cc S7 f1 S8 p9 j3 J7=>(?_)))))))))))))))))))))))) (fun _ _ h=>h))
     have z8:∀ b,h0.ownBlock=some b→b≠b1:=fun b hb=>by have:=a0.lt;rw [f1] at hb;cases hb;omega
     have z9:∀ b,h0.ownBlock=some b→b≠a3:=fun b hb=>by have:=h8.lt;rw [f1] at hb;cases hb;omega
     have A0:∀ b,h0.ownBlock=some b→b≠a6:=fun b hb=>by have:=a1.lt;rw [f1] at hb;cases hb;omega
     have A1:∀ b,h0.ownBlock=some b→b≠a2:=fun b hb=>by have:=c9.lt;rw [f1] at hb;cases hb;omega
     have J8:∀ b,h0.ownBlock=some b→b≠a5:=fun b hb=>by have:=a7.lt;rw [f1] at hb;cases hb;omega
     have J9:∀ b,h0.ownBlock=some b→b≠b2:=fun b hb=>by have:=b3.lt;rw [f1] at hb;cases hb;omega
     have t4:∀ b,c7.ownBlock=some b→h0.ownBlock≠some b:=fun b hb=>by have:=(c4.lt b hb).2;rw [f1];intro e;cases e;omega
     have ne3436':∀ b,h0.ownBlock=some b→c7.ownBlock≠some b:=fun b hb e=>t4 b e hb
     have K0:∀ b,h0.ownBlock=some b→b∈(E6 :: g9):=fun b hb=>by rw [f1] at hb;cases hb;simp
     clear S7 f1
     have o1:∀ b,c7.ownBlock=some b→b∈(E6 :: g9):=fun b hb=>List.mem_cons_of_mem _ (o1 b hb)
     have k6:=k6.mv p9
     have a4:=a4.mv p9
     have b7:=b7.mv p9
     have a0:=a0.keep j3 (by simp)
     have h8:=h8.keep j3 (by simp)
     have a1:=a1.keep j3 (by simp)
     have c4:=c4.mv p9 j3 (by simp)
     have c9:=c9.keep j3 (by simp)
     have a7:=a7.keep j3 (by simp)
     have b3:=b3.keep j3 (by simp)
     refine AA (AE (w2) rfl (AA (DS (E:=Enc.recovery) (l:=[]) (m:=c.recs) U23_ XJ rfl (by decide) rfl rfl J7 k6 (fun _ hb=>.inl hb) K0 (by simp;omega) (by simp [maxLen];omega) S8 fun c1 cd h1 t5 h9 g1 S9 w3 o2 e4=>(?_))))
     rw [List.nil_append] at e4
     have K1:∀ b,c7.ownBlock=some b→c1.ownBlock≠some b:=fun b hb e=>by rcases h9 with e1|e1 <;> rw [e1] at e <;> first|(cases e;have:=(c4.lt _ hb).2;omega)|(exact absurd e (t4 b hb))
     have A2:∀ b,c1.ownBlock=some b→b≠b1:=fun b hb=>by rcases h9 with e1|e1 <;> rw [e1] at hb <;> first|(cases hb;have:=a0.lt;omega)|(exact z8 b hb)
     have t6:∀ b,c1.ownBlock=some b→b≠a3:=fun b hb=>by rcases h9 with e1|e1 <;> rw [e1] at hb <;> first|(cases hb;have:=h8.lt;omega)|(exact z9 b hb)
     have A3:∀ b,c1.ownBlock=some b→b≠a6:=fun b hb=>by rcases h9 with e1|e1 <;> rw [e1] at hb <;> first|(cases hb;have:=a1.lt;omega)|(exact A0 b hb)
     have av:∀ b,c1.ownBlock=some b→b≠a2:=fun b hb=>by rcases h9 with e1|e1 <;> rw [e1] at hb <;> first|(cases hb;have:=c9.lt;omega)|(exact A1 b hb)
     have aw:∀ b,c1.ownBlock=some b→b≠a5:=fun b hb=>by rcases h9 with e1|e1 <;> rw [e1] at hb <;> first|(cases hb;have:=a7.lt;omega)|(exact J8 b hb)
     have ax:∀ b,c1.ownBlock=some b→b≠b2:=fun b hb=>by rcases h9 with e1|e1 <;> rw [e1] at hb <;> first|(cases hb;have:=b3.lt;omega)|(exact J9 b hb)
     have o1:∀ b,c7.ownBlock=some b→b∈h1:=fun b hb=>g1 b (o1 b hb)
     have d3:b1∈h1:=g1 b1 rC
     have d4:a3∈h1:=g1 a3 rC
     have d5:a6∈h1:=g1 a6 rC
     have d6:a2∈h1:=g1 a2 rC
     have d7:a5∈h1:=g1 a5 rC
     have d8:b2∈h1:=g1 b2 rC
     have a4:=a4.mv w3
     have b7:=b7.mv w3
     have a0:=a0.keep o2 (by simp only [Option.mem_toList];exact fun e=>absurd rfl (z8 _ e))
     have h8:=h8.keep o2 (by simp only [Option.mem_toList];exact fun e=>absurd rfl (z9 _ e))
     have a1:=a1.keep o2 (by simp only [Option.mem_toList];exact fun e=>absurd rfl (A0 _ e))
     have c4:=c4.mv w3 o2 (fun b hb=>by simp only [Option.mem_toList];exact t4 b hb)
     have c9:=c9.keep o2 (by simp only [Option.mem_toList];exact fun e=>absurd rfl (A1 _ e))
     refine AA (AD (c1) rfl (AG (AB (AM (AS rfl (BZ rfl rfl rfl) (Exists.intro _ (And.intro rfl (AA (AT 4 DL rfl (CC (CN (c1) rfl rfl e4.oneCell s_23 (by repeat (assumption)) h8 oT S9 fun w4 T0 q0 o3 d9=>(?_))))))))))))
     have a4:=a4.mv q0
     have b7:=b7.mv q0
     have e4:=e4.mv q0 o3 (fun b hb=>BH (t6 b hb))
     have a0:=a0.keep o3 (BH c6)
     have a1:=a1.keep o3 (BH (Ne.symm c0))
     have c4:=c4.mv q0 o3 (fun b hb=>BH (t3 b hb))
     have c9:=c9.keep o3 (BH (Ne.symm g4))
     refine AG (AB (AF (cw_draw' 7 _ _ [CQ (vP (some ⟨a3,4,none⟩)),CQ c1,CQ (vI no),CQ (vP (some ⟨a2,0,none⟩)),CQ (vP (some ⟨a2,0,none⟩)),CQ (vP (some ⟨a2,0,none⟩)),CQ (vA #[vI ((c.recs[no.toNat]!).no),vI ((c.recs[no.toNat]!).asked),vI ((c.recs[no.toNat]!).state),c7,d2])] kR kR kR kR rfl rfl ⟨kI,kI,kI,kI,kI,kI,kI,trivial⟩ ⟨?_,?_,?_,?_,?_,?_,?_,trivial⟩ ?_)))
     ·intro F1 w1 k1 hf hd
      obtain ⟨F2,rfl⟩:=AK (F:=F1) [(6,vP (some ⟨a3,0,none⟩))] ⟨hf 6 kR,trivial⟩
      exact AH rfl ((AT 4 DL rfl (⟨(Keep.refl _ _),rfl⟩)))
     ·intro F1 w1 k1 hf hd
      have k0:=(Keep.drew [] w4).trans k1
      have d9:=d9.keep k0 (by simp)
      obtain ⟨F2,rfl⟩:=AK (F:=F1) [(42,vP (some ⟨a3,4,none⟩))] ⟨hd 0 42 kR,trivial⟩
      exact AH rfl ((AU U23_ rfl (c1) rfl d9 rfl (⟨(Keep.refl _ _),rfl⟩)))
     ·intro F1 w1 k1 hf hd
      obtain ⟨F2,rfl⟩:=AK (F:=F1) [(1,vI no)] ⟨hf 1 kR,trivial⟩
      exact AH rfl ((AE (vI no) rfl (⟨(Keep.refl _ _),rfl⟩)))
     ·intro F1 w1 k1 hf hd
      obtain ⟨F2,rfl⟩:=AK (F:=F1) [(9,vP (some ⟨a2,0,none⟩))] ⟨hf 9 kR,trivial⟩
      exact AH rfl ((AE (vP (some ⟨a2,0,none⟩)) rfl (⟨(Keep.refl _ _),rfl⟩)))
     ·intro F1 w1 k1 hf hd
      obtain ⟨F2,rfl⟩:=AK (F:=F1) [(45,vP (some ⟨a2,0,none⟩))] ⟨hd 3 45 kR,trivial⟩
      exact AH rfl ((FU ⟨a2,0,none⟩ rfl (⟨(Keep.refl _ _),rfl⟩)))
     ·intro F1 w1 k1 hf hd
      obtain ⟨F2,rfl⟩:=AK (F:=F1) [(46,vP (some ⟨a2,0,none⟩))] ⟨hd 4 46 kR,trivial⟩
      exact AH rfl ((AT 0 KR rfl (⟨(Keep.refl _ _),rfl⟩)))
     ·intro F1 w1 k1 hf hd
      have k0:=(Keep.drew [] w4).trans k1
      have c9:=c9.keep k0 (by simp)
      obtain ⟨F2,rfl⟩:=AK (F:=F1) [(47,vP (some ⟨a2,0,none⟩))] ⟨hd 5 47 kR,trivial⟩
      exact AH rfl ((BS (vs:=[vI ((c.recs[no.toNat]!).no),vI ((c.recs[no.toNat]!).asked),vI ((c.recs[no.toNat]!).state),c7,d2]) U59_ rfl GM rfl c9 rfl (⟨(Keep.refl _ _),rfl⟩)))
     intro T1 T2 j4 o4 o5
     have T3:=T0.call j4
     have q1:Mv h1 w4 h1 T2:=Mv.of_keep j4
     have a4:=a4.mv q1
     have b7:=b7.mv q1
     have e4:=e4.mv q1 j4 (by simp)
     have a0:=a0.keep j4 (by simp)
     have d9:=d9.keep j4 (by simp)
     have a1:=a1.keep j4 (by simp)
     have c4:=c4.mv q1 j4 (by simp)
     obtain ⟨F2,rfl⟩:=AK (F:=T1) [(6,vP (some ⟨a3,0,none⟩)),(7,vP (some ⟨a6,0,none⟩)),(51, .tuple #[vN (.func 84) #[] #[vP (some ⟨a3,0,none⟩),vP (some ⟨a6,0,none⟩)]]),(43,c1),(44,vI no),(48,vA #[vI ((c.recs[no.toNat]!).no),vI ((c.recs[no.toNat]!).asked),vI ((c.recs[no.toNat]!).state),c7,d2])] ⟨o5 6 kR,o5 7 kR,o5 51 kR,o4 1 43 kR (by decide),o4 2 44 kR (by decide),o4 6 48 kR (by decide),trivial⟩
     clear o4 o5
     refine AA (GB U23_ GM .i64 no no.toNat rfl rfl oM e4 oM fun ce k7=>(?_))
     obtain ⟨j5,T4,w5,A4,i0⟩:=c4.publish T3
     have t5:∀ b,c1.ownBlock=some b→b∈j5:=fun b hb=>i0 b (t5 b hb) ((fun b hb e=>K1 b e hb) b hb)
     have d3:b1∈j5:=i0 b1 (by repeat (assumption)) (fun e=>absurd rfl (J1 _ e))
     have d4:a3∈j5:=i0 a3 (by repeat (assumption)) (fun e=>absurd rfl (t3 _ e))
     have d5:a6∈j5:=i0 a6 (by repeat (assumption)) (fun e=>absurd rfl (J2 _ e))
     have d6:a2∈j5:=i0 a2 (by repeat (assumption)) (fun e=>absurd rfl (z6 _ e))
     have d7:a5∈j5:=i0 a5 (by repeat (assumption)) (fun e=>absurd rfl (J3 _ e))
     have d8:b2∈j5:=i0 b2 (by repeat (assumption)) (fun e=>absurd rfl (J4 _ e))
     have Z7:=A4.len_le
     have e4:=e4.mv w5 (Keep.refl [] _) (by simp)
     have a4:=a4.mv w5
     have a0:=a0.keep (Keep.refl [] _) (by simp)
     have b7:=b7.mv w5
     have d9:=d9.keep (Keep.refl [] _) (by simp)
     have a1:=a1.keep (Keep.refl [] _) (by simp)
     refine CC (PX (⟨(c.recs[no.toNat]!).no,(c.recs[no.toNat]!).asked,(c.recs[no.toNat]!).state,((c.recs[no.toNat]!).approved).take (tw ((c.recs[no.toNat]!).approved) guardian)++([guardian])++((c.recs[no.toNat]!).approved).drop (tw ((c.recs[no.toNat]!).approved) guardian),(c.recs[no.toNat]!).vetoed⟩:Recovery) (by decide) GM rfl rfl e4 k7 (t5 _ k7) oM ⟨_,_,rfl,A4,a4⟩ T4 fun cf T5 T6 w6 f2=>(?_))
     have a0:=a0.keep w6 (by simp only [List.mem_singleton];exact fun e=>absurd e.symm (A2 _ k7))
     have b7:=b7.mv T6
     have d9:=d9.keep w6 (by simp only [List.mem_singleton];exact fun e=>absurd e.symm (t6 _ k7))
     have a1:=a1.keep w6 (by simp only [List.mem_singleton];exact fun e=>absurd e.symm (A3 _ k7))
     refine AG (AB (AF (AC kR (AA (BS (vs:=[vI c.epoch,vI c.threshold,vI c.wait,f0,c1]) U25_ rfl BM rfl d9 rfl (CC (BF (vs:=[vI c.epoch,vI c.threshold,vI c.wait,f0,c1]) (.agg #[vI c.epoch,vI c.threshold,vI c.wait,f0,c1]) rfl rfl rfl BM (fun u hu=>by simp only [List.mem_cons,List.not_mem_nil,or_false] at hu;rcases hu with rfl|rfl|rfl|rfl|rfl <;> first|rfl|exact b7.oneCell|exact f2.oneCell) (by repeat (assumption)) d9 oT T5 fun cg T7 E7 w7 t7=>(?_))))))))
     have f2:=f2.mv E7 w7 (fun b hb=>BH (t6 b hb))
     have b7:=b7.mv E7
     have a0:=a0.keep w7 (BH c6)
     have a1:=a1.keep w7 (BH (Ne.symm c0))
     refine CC (CN (vI 0) rfl rfl rfl TK (by repeat (assumption)) a1 oT T7 fun ch T8 E8 w8 K2=>(?_))
     have f2:=f2.mv E8 w8 (fun b hb=>BH (A3 b hb))
     have b7:=b7.mv E8
     have a0:=a0.keep w8 (BH e8)
     have t7:=t7.keep w8 (BH c0)
     refine AG (AB (AM (UM (PW [vP (some ⟨a3,0,none⟩),vP (some ⟨a6,0,none⟩)] 19 .returning rfl (fun h=>by cases h) rfl IG Tryz.func84 rfl rfl oT rfl rfl (fun ci=>AF (AC kR (AA (AE (Value.nilIface) rfl (AA (o_neqNil' U20_ rfl (AG (AB (AJ false rfl rfl (fun h=>by cases h) (fun _=>AR (HL rfl (KL rfl) (Exists.intro _ (And.intro (FE rfl (EZ (vs:=[vI c.epoch,vI c.threshold,vI c.wait,f0,c1]) rfl U25_ rfl BM rfl t7 rfl) (OV rfl U30_ rfl rfl K2 rfl)) (EH (AA (AO (vA #[vI c.epoch,vI c.threshold,vI c.wait,f0,c1]) rfl rfl (AA (AO (vI 0) rfl rfl (CC (BF (vs:=[vI c.epoch,vI c.threshold,vI c.wait,f0,c1]) (.agg #[vI c.epoch,vI c.threshold,vI c.wait,f0,c1]) rfl rfl rfl BM (fun u hu=>by simp only [List.mem_cons,List.not_mem_nil,or_false] at hu;rcases hu with rfl|rfl|rfl|rfl|rfl <;> first|rfl|exact b7.oneCell|exact f2.oneCell) (by repeat (assumption)) a0 oT T8 fun cj E9 F3 T9 K3=>(?_)))))))))))))))))))))))))
     have b7:=b7.mv F3
     have f2:=f2.mv F3 T9 (fun b hb=>BH (A2 b hb))
     refine AA (AD (vI 0) rfl (AG (AB (AM (AS rfl (FE rfl (EZ (vs:=[vI c.epoch,vI c.threshold,vI c.wait,f0,c1]) rfl U25_ rfl BM rfl K3 rfl) (EI rfl rfl)) (?_))))))
     have U0:((CT c no (BV c guardian)).1)=(⟨c.epoch,c.threshold,c.wait,c.guardians,c.recs.set no.toNat (⟨(c.recs[no.toNat]!).no,(c.recs[no.toNat]!).asked,(c.recs[no.toNat]!).state,((c.recs[no.toNat]!).approved).take (tw ((c.recs[no.toNat]!).approved) guardian)++([guardian])++((c.recs[no.toNat]!).approved).drop (tw ((c.recs[no.toNat]!).approved) guardian),(c.recs[no.toNat]!).vetoed⟩:Recovery)⟩:Circle):=by exact congrArg (fun p=>p.1) (show CT c no (BV c guardian)=_ from UO hok oM oM aS aS aS)
     have U1:((CT c no (BV c guardian)).2)=(0:Int):=by exact congrArg (fun p=>p.2) (show CT c no (BV c guardian)=_ from UO hok oM oM aS aS aS)
     exact ⟨_,rfl,E9.keep,by rw [U0,U1];exact ⟨[vI c.epoch,vI c.threshold,vI c.wait,f0,c1],rfl,⟨_,_,rfl,b7.out,(f2.pub E9)⟩⟩⟩
    have ay:s9=false:=by simpa using t0
    refine AR (AB (AF (AC kR (AA (JL (E:=Enc.int) (xs:=[]) U22_ MS z_3 (by decide) [] [] [] rfl rfl rfl (Parts.nil _ _ _) oT v8 fun j6 U2 cm U3 g6 U4 w9 l8 K4=>(?_))))))
    have A5:∀ b,j6.ownBlock=some b→b≠b1:=fun b hb=>by have:=a0.lt;rw [g6] at hb;cases hb;omega
    have A6:∀ b,j6.ownBlock=some b→b≠a3:=fun b hb=>by have:=a8.lt;rw [g6] at hb;cases hb;omega
    have A7:∀ b,j6.ownBlock=some b→b≠a6:=fun b hb=>by have:=a1.lt;rw [g6] at hb;cases hb;omega
    have A8:∀ b,j6.ownBlock=some b→b≠a2:=fun b hb=>by have:=b0.lt;rw [g6] at hb;cases hb;omega
    have A9:∀ b,j6.ownBlock=some b→b≠a5:=fun b hb=>by have:=a7.lt;rw [g6] at hb;cases hb;omega
    have B0:∀ b,j6.ownBlock=some b→b≠b2:=fun b hb=>by have:=b3.lt;rw [g6] at hb;cases hb;omega
    have K5:∀ b,j6.ownBlock=some b→b∈(U2 :: (b2 :: (a5 :: (a2 :: (a6 :: (a3 :: (b1 :: []))))))):=fun b hb=>by rw [g6] at hb;cases hb;simp
    clear U3 g6
    have b4:=b4.mv w9
    have a9:=a9.mv w9
    have a4:=a4.mv w9
    have a0:=a0.keep l8 (by simp)
    have a8:=a8.keep l8 (by simp)
    have a1:=a1.keep l8 (by simp)
    have b0:=b0.keep l8 (by simp)
    have a7:=a7.keep l8 (by simp)
    have b3:=b3.keep l8 (by simp)
    refine AA (AE (d1) rfl (AA (DS (E:=Enc.int) (l:=[]) (m:=(c.recs[no.toNat]!).approved) U22_ i_3 rfl (by decide) rfl rfl K4 b4 (fun _ hb=>.inl hb) K5 (by have:=NW (GN (MU hok (k:=no.toNat) oM)).2.2;simp only [List.length_nil];omega) (by have:=NW (GN (MU hok (k:=no.toNat) oM)).2.2;simp only [List.length_nil,maxLen];omega) U4 fun e7 cn i7 t8 j0 h5 U5 F4 l9 k8=>(?_))))
    rw [List.nil_append] at k8
    have B1:∀ b,e7.ownBlock=some b→b≠b1:=fun b hb=>by rcases j0 with e1|e1 <;> rw [e1] at hb <;> first|(cases hb;have:=a0.lt;omega)|(exact A5 b hb)
    have B2:∀ b,e7.ownBlock=some b→b≠a3:=fun b hb=>by rcases j0 with e1|e1 <;> rw [e1] at hb <;> first|(cases hb;have:=a8.lt;omega)|(exact A6 b hb)
    have B3:∀ b,e7.ownBlock=some b→b≠a6:=fun b hb=>by rcases j0 with e1|e1 <;> rw [e1] at hb <;> first|(cases hb;have:=a1.lt;omega)|(exact A7 b hb)
    have B4:∀ b,e7.ownBlock=some b→b≠a2:=fun b hb=>by rcases j0 with e1|e1 <;> rw [e1] at hb <;> first|(cases hb;have:=b0.lt;omega)|(exact A8 b hb)
    have B5:∀ b,e7.ownBlock=some b→b≠a5:=fun b hb=>by rcases j0 with e1|e1 <;> rw [e1] at hb <;> first|(cases hb;have:=a7.lt;omega)|(exact A9 b hb)
    have B6:∀ b,e7.ownBlock=some b→b≠b2:=fun b hb=>by rcases j0 with e1|e1 <;> rw [e1] at hb <;> first|(cases hb;have:=b3.lt;omega)|(exact B0 b hb)
    have d3:b1∈i7:=h5 b1 (by repeat (constructor))
    have d4:a3∈i7:=h5 a3 (by repeat (constructor))
    have d5:a6∈i7:=h5 a6 (by repeat (constructor))
    have d6:a2∈i7:=h5 a2 (by repeat (constructor))
    have d7:a5∈i7:=h5 a5 (by repeat (constructor))
    have d8:b2∈i7:=h5 b2 (by repeat (constructor))
    have a9:=a9.mv F4
    have a4:=a4.mv F4
    have a0:=a0.keep l9 (by simp only [Option.mem_toList];exact fun e=>absurd rfl (A5 _ e))
    have a8:=a8.keep l9 (by simp only [Option.mem_toList];exact fun e=>absurd rfl (A6 _ e))
    have a1:=a1.keep l9 (by simp only [Option.mem_toList];exact fun e=>absurd rfl (A7 _ e))
    have b0:=b0.keep l9 (by simp only [Option.mem_toList];exact fun e=>absurd rfl (A8 _ e))
    have a7:=a7.keep l9 (by simp only [Option.mem_toList];exact fun e=>absurd rfl (A9 _ e))
    have b3:=b3.keep l9 (by simp only [Option.mem_toList];exact fun e=>absurd rfl (B0 _ e))
    refine AA (AD (e7) rfl (AG (AB (AM (AS rfl (BZ rfl rfl rfl) (Exists.intro _ (And.intro rfl (AA (AE (vI ((tw ((c.recs[no.toNat]!).approved) guardian:Nat):Int)) rfl (AA (AE (vI guardian) rfl (AA (JL (E:=Enc.int) (xs:=[.tmp 26]) U22_ MS z_3 (by decide) [vI guardian] [[vI guardian]] [guardian] rfl rfl rfl (Parts.cons rfl rfl (Parts.nil _ _ _)) oT U5 fun e3 F5 co U6 f3 U7 x1 j7 B7=>(?_))))))))))))))
    have az:∀ b,e3.ownBlock=some b→b≠b1:=fun b hb=>by have:=a0.lt;rw [f3] at hb;cases hb;omega
    have aA:∀ b,e3.ownBlock=some b→b≠a3:=fun b hb=>by have:=a8.lt;rw [f3] at hb;cases hb;omega
    have aB:∀ b,e3.ownBlock=some b→b≠a6:=fun b hb=>by have:=a1.lt;rw [f3] at hb;cases hb;omega
    have aC:∀ b,e3.ownBlock=some b→b≠a2:=fun b hb=>by have:=b0.lt;rw [f3] at hb;cases hb;omega
    have aD:∀ b,e3.ownBlock=some b→b≠a5:=fun b hb=>by have:=a7.lt;rw [f3] at hb;cases hb;omega
    have aE:∀ b,e3.ownBlock=some b→b≠b2:=fun b hb=>by have:=b3.lt;rw [f3] at hb;cases hb;omega
    have t9:∀ b,e7.ownBlock=some b→e3.ownBlock≠some b:=fun b hb=>by have:=(k8.lt b hb).2;rw [f3];intro e;cases e;omega
    have ne3548':∀ b,e3.ownBlock=some b→e7.ownBlock≠some b:=fun b hb e=>t9 b e hb
    have u0:∀ b,e3.ownBlock=some b→b∈(F5 :: i7):=fun b hb=>by rw [f3] at hb;cases hb;simp
    clear U6 f3
    have t8:∀ b,e7.ownBlock=some b→b∈(F5 :: i7):=fun b hb=>List.mem_cons_of_mem _ (t8 b hb)
    have k8:=k8.mv x1 j7 (by simp)
    have a9:=a9.mv x1
    have a4:=a4.mv x1
    have a0:=a0.keep j7 (by simp)
    have a8:=a8.keep j7 (by simp)
    have a1:=a1.keep j7 (by simp)
    have b0:=b0.keep j7 (by simp)
    have a7:=a7.keep j7 (by simp)
    have b3:=b3.keep j7 (by simp)
    refine AA (IS [e7,vI ((tw ((c.recs[no.toNat]!).approved) guardian:Nat):Int),e3] enter_87 rfl (Calls.mono (YO e7 e3 ((c.recs[no.toNat]!).approved) ([guardian]) (tw ((c.recs[no.toNat]!).approved) guardian) U7 k8 B7 t8 u0 t9 (by simp) (tw_le _ _) (by have:=NW (GN (MU hok (k:=no.toNat) oM)).2.2;simp only [List.length_cons,List.length_nil];omega) (by have:=NW (GN (MU hok (k:=no.toNat) oM)).2.2;simp only [List.length_cons,List.length_nil,maxLen];omega)) (fun e_ cp hR_=>?_)))
    obtain ⟨c8,h2,rfl,o6,i1,g2,U8,F6,m0,c5⟩:=hR_
    refine EH ?_
    have aF:∀ b,e3.ownBlock=some b→c8.ownBlock≠some b:=fun b hb e=>(i1 b e).elim (fun e1=>((fun b hb e=>t9 b e hb) b hb e1)) (fun e1=>by have:=(B7.lt b hb).2;omega)
    have K6:∀ b,c8.ownBlock=some b→b≠b1:=fun b hb=>(i1 b hb).elim (fun e1=>(B1 b e1)) (fun e1=>by have:=a0.lt;omega)
    have u1:∀ b,c8.ownBlock=some b→b≠a3:=fun b hb=>(i1 b hb).elim (fun e1=>(B2 b e1)) (fun e1=>by have:=a8.lt;omega)
    have K7:∀ b,c8.ownBlock=some b→b≠a6:=fun b hb=>(i1 b hb).elim (fun e1=>(B3 b e1)) (fun e1=>by have:=a1.lt;omega)
    have B8:∀ b,c8.ownBlock=some b→b≠a2:=fun b hb=>(i1 b hb).elim (fun e1=>(B4 b e1)) (fun e1=>by have:=b0.lt;omega)
    have K8:∀ b,c8.ownBlock=some b→b≠a5:=fun b hb=>(i1 b hb).elim (fun e1=>(B5 b e1)) (fun e1=>by have:=a7.lt;omega)
    have K9:∀ b,c8.ownBlock=some b→b≠b2:=fun b hb=>(i1 b hb).elim (fun e1=>(B6 b e1)) (fun e1=>by have:=b3.lt;omega)
    have u0:∀ b,e3.ownBlock=some b→b∈h2:=fun b hb=>g2 b (u0 b hb)
    have d3:b1∈h2:=g2 b1 rC
    have d4:a3∈h2:=g2 a3 rC
    have d5:a6∈h2:=g2 a6 rC
    have d6:a2∈h2:=g2 a2 rC
    have d7:a5∈h2:=g2 a5 rC
    have d8:b2∈h2:=g2 b2 rC
    have a9:=a9.mv F6
    have a4:=a4.mv F6
    have a0:=a0.keep m0 (by simp only [Option.mem_toList];exact fun e=>absurd rfl (B1 _ e))
    have a8:=a8.keep m0 (by simp only [Option.mem_toList];exact fun e=>absurd rfl (B2 _ e))
    have a1:=a1.keep m0 (by simp only [Option.mem_toList];exact fun e=>absurd rfl (B3 _ e))
    have b0:=b0.keep m0 (by simp only [Option.mem_toList];exact fun e=>absurd rfl (B4 _ e))
    have a7:=a7.keep m0 (by simp only [Option.mem_toList];exact fun e=>absurd rfl (B5 _ e))
    have b3:=b3.keep m0 (by simp only [Option.mem_toList];exact fun e=>absurd rfl (B6 _ e))
    refine AA (FU ⟨a2,0,none⟩ rfl (AA (AT 0 KR rfl (AA (AT 3 MA rfl (CC (CN (c8) rfl rfl c5.oneCell s_22 (by repeat (assumption)) b0 oT U8 fun cq U9 x2 m2 d0=>(?_))))))))
    have c5:=c5.mv x2 m2 (fun b hb=>BH (B8 b hb))
    have a9:=a9.mv x2
    have a4:=a4.mv x2
    have a0:=a0.keep m2 (BH z0)
    have a8:=a8.keep m2 (BH g4)
    have a1:=a1.keep m2 (BH z1)
    have a7:=a7.keep m2 (BH (Ne.symm z2))
    have b3:=b3.keep m2 (BH (Ne.symm k4))
    refine AG (HL rfl (KL rfl) (Exists.intro _ (And.intro rfl (AG (HL rfl (KL rfl) (EH (AG (HL rfl (KL rfl) (EH (AG (HL rfl (KL rfl) (EH (AG (AB (AF (AC kR (AA (CJ U25_ rfl BM rfl a9 fun aG L0=>(?_)))))))))))))))))))
    obtain ⟨f4,F7,rfl,b8,B9⟩:=L0
    have:=b8.len_le
    have:=B9.len_le
    refine CC (BF (vs:=[vI c.epoch,vI c.threshold,vI c.wait,f4,F7]) (.agg #[vI c.epoch,vI c.threshold,vI c.wait,f4,F7]) rfl rfl rfl BM (fun u hu=>by simp only [List.mem_cons,List.not_mem_nil,or_false] at hu;rcases hu with rfl|rfl|rfl|rfl|rfl <;> first|rfl|exact b8.oneCell|exact B9.oneCell) (by repeat (assumption)) a8 oT U9 fun cr V0 q2 m3 i2=>(?_))
    have a9:=a9.mv q2
    have a4:=a4.mv q2
    have b8:=b8.mv q2
    have a0:=a0.keep m3 (BH c6)
    have a1:=a1.keep m3 (BH (Ne.symm c0))
    have c5:=c5.mv q2 m3 (fun b hb=>BH (u1 b hb))
    have d0:=d0.keep m3 (BH (Ne.symm g4))
    have a7:=a7.keep m3 (BH (Ne.symm s2))
    have b3:=b3.keep m3 (BH (Ne.symm i9))
    refine AG (AB (AF (AC kR (AA (AY 4 DL (c.recs) rfl a9 (fun _ _ _ h=>BX h) fun cs L1=>(AA (BL U23_ rfl rfl L1 fun x3 k9=>(?_))))))))
    have:=k9.len_le
    refine AA (LM [x3] _ NL rfl (CE 8 Tryz.func39 rfl rfl oT (fun ct=>AF (AC kR (AA (AD (nS) rfl (AG (AB (AF (AF (AC kR (AA (AE (x3) rfl (AA (QL U23_ rfl rfl k9 oM (AG (AB (AJ false rfl rfl (fun h=>by cases h) (fun _=>AR (AB (AF (AC kR (AA (JL (E:=Enc.recovery) (xs:=[]) U23_ GM NA (by decide) [] [] [] rfl rfl rfl (Parts.nil _ _ _) oT V0 fun h3 F8 cu V1 f5 V2 q3 j8 L2=>(?_)))))))))))))))))))))))) (fun _ _ h=>h))
    have C0:∀ b,h3.ownBlock=some b→b≠b1:=fun b hb=>by have:=a0.lt;rw [f5] at hb;cases hb;omega
    have C1:∀ b,h3.ownBlock=some b→b≠a3:=fun b hb=>by have:=i2.lt;rw [f5] at hb;cases hb;omega
    have C2:∀ b,h3.ownBlock=some b→b≠a6:=fun b hb=>by have:=a1.lt;rw [f5] at hb;cases hb;omega
    have C3:∀ b,h3.ownBlock=some b→b≠a2:=fun b hb=>by have:=d0.lt;rw [f5] at hb;cases hb;omega
    have L3:∀ b,h3.ownBlock=some b→b≠a5:=fun b hb=>by have:=a7.lt;rw [f5] at hb;cases hb;omega
    have L4:∀ b,h3.ownBlock=some b→b≠b2:=fun b hb=>by have:=b3.lt;rw [f5] at hb;cases hb;omega
    have u2:∀ b,c8.ownBlock=some b→h3.ownBlock≠some b:=fun b hb=>by have:=(c5.lt b hb).2;rw [f5];intro e;cases e;omega
    have ne3603':∀ b,h3.ownBlock=some b→c8.ownBlock≠some b:=fun b hb e=>u2 b e hb
    have L5:∀ b,h3.ownBlock=some b→b∈(F8 :: h2):=fun b hb=>by rw [f5] at hb;cases hb;simp
    clear V1 f5
    have o6:∀ b,c8.ownBlock=some b→b∈(F8 :: h2):=fun b hb=>List.mem_cons_of_mem _ (o6 b hb)
    have k9:=k9.mv q3
    have a4:=a4.mv q3
    have b8:=b8.mv q3
    have a0:=a0.keep j8 (by simp)
    have i2:=i2.keep j8 (by simp)
    have a1:=a1.keep j8 (by simp)
    have c5:=c5.mv q3 j8 (by simp)
    have d0:=d0.keep j8 (by simp)
    have a7:=a7.keep j8 (by simp)
    have b3:=b3.keep j8 (by simp)
    refine AA (AE (x3) rfl (AA (DS (E:=Enc.recovery) (l:=[]) (m:=c.recs) U23_ XJ rfl (by decide) rfl rfl L2 k9 (fun _ hb=>.inl hb) L5 (by simp;omega) (by simp [maxLen];omega) V2 fun c2 cv h4 u3 i3 g3 V3 x4 o7 e5=>(?_))))
    rw [List.nil_append] at e5
    have L6:∀ b,c8.ownBlock=some b→c2.ownBlock≠some b:=fun b hb e=>by rcases i3 with e1|e1 <;> rw [e1] at e <;> first|(cases e;have:=(c5.lt _ hb).2;omega)|(exact absurd e (u2 b hb))
    have C4:∀ b,c2.ownBlock=some b→b≠b1:=fun b hb=>by rcases i3 with e1|e1 <;> rw [e1] at hb <;> first|(cases hb;have:=a0.lt;omega)|(exact C0 b hb)
    have u4:∀ b,c2.ownBlock=some b→b≠a3:=fun b hb=>by rcases i3 with e1|e1 <;> rw [e1] at hb <;> first|(cases hb;have:=i2.lt;omega)|(exact C1 b hb)
    have C5:∀ b,c2.ownBlock=some b→b≠a6:=fun b hb=>by rcases i3 with e1|e1 <;> rw [e1] at hb <;> first|(cases hb;have:=a1.lt;omega)|(exact C2 b hb)
    have aH:∀ b,c2.ownBlock=some b→b≠a2:=fun b hb=>by rcases i3 with e1|e1 <;> rw [e1] at hb <;> first|(cases hb;have:=d0.lt;omega)|(exact C3 b hb)
    have aI:∀ b,c2.ownBlock=some b→b≠a5:=fun b hb=>by rcases i3 with e1|e1 <;> rw [e1] at hb <;> first|(cases hb;have:=a7.lt;omega)|(exact L3 b hb)
    have aJ:∀ b,c2.ownBlock=some b→b≠b2:=fun b hb=>by rcases i3 with e1|e1 <;> rw [e1] at hb <;> first|(cases hb;have:=b3.lt;omega)|(exact L4 b hb)
    have o6:∀ b,c8.ownBlock=some b→b∈h4:=fun b hb=>g3 b (o6 b hb)
    have d3:b1∈h4:=g3 b1 rC
    have d4:a3∈h4:=g3 a3 rC
    have d5:a6∈h4:=g3 a6 rC
    have d6:a2∈h4:=g3 a2 rC
    have d7:a5∈h4:=g3 a5 rC
    have d8:b2∈h4:=g3 b2 rC
    have a4:=a4.mv x4
    have b8:=b8.mv x4
    have a0:=a0.keep o7 (by simp only [Option.mem_toList];exact fun e=>absurd rfl (C0 _ e))
    have i2:=i2.keep o7 (by simp only [Option.mem_toList];exact fun e=>absurd rfl (C1 _ e))
    have a1:=a1.keep o7 (by simp only [Option.mem_toList];exact fun e=>absurd rfl (C2 _ e))
    have c5:=c5.mv x4 o7 (fun b hb=>by simp only [Option.mem_toList];exact u2 b hb)
    have d0:=d0.keep o7 (by simp only [Option.mem_toList];exact fun e=>absurd rfl (C3 _ e))
    refine AA (AD (c2) rfl (AG (AB (AM (AS rfl (BZ rfl rfl rfl) (Exists.intro _ (And.intro rfl (AA (AT 4 DL rfl (CC (CN (c2) rfl rfl e5.oneCell s_23 (by repeat (assumption)) i2 oT V3 fun x5 V4 q4 o8 e0=>(?_))))))))))))
    have a4:=a4.mv q4
    have b8:=b8.mv q4
    have e5:=e5.mv q4 o8 (fun b hb=>BH (u4 b hb))
    have a0:=a0.keep o8 (BH c6)
    have a1:=a1.keep o8 (BH (Ne.symm c0))
    have c5:=c5.mv q4 o8 (fun b hb=>BH (u1 b hb))
    have d0:=d0.keep o8 (BH (Ne.symm g4))
    refine AG (AB (AF (cw_draw' 7 _ _ [CQ (vP (some ⟨a3,4,none⟩)),CQ c2,CQ (vI no),CQ (vP (some ⟨a2,0,none⟩)),CQ (vP (some ⟨a2,0,none⟩)),CQ (vP (some ⟨a2,0,none⟩)),CQ (vA #[vI ((c.recs[no.toNat]!).no),vI ((c.recs[no.toNat]!).asked),vI ((c.recs[no.toNat]!).state),c8,d2])] kR kR kR kR rfl rfl ⟨kI,kI,kI,kI,kI,kI,kI,trivial⟩ ⟨?_,?_,?_,?_,?_,?_,?_,trivial⟩ ?_)))
    ·intro F1 w1 k1 hf hd
     obtain ⟨F2,rfl⟩:=AK (F:=F1) [(6,vP (some ⟨a3,0,none⟩))] ⟨hf 6 kR,trivial⟩
     exact AH rfl ((AT 4 DL rfl (⟨(Keep.refl _ _),rfl⟩)))
    ·intro F1 w1 k1 hf hd
     have k0:=(Keep.drew [] x5).trans k1
     have e0:=e0.keep k0 (by simp)
     obtain ⟨F2,rfl⟩:=AK (F:=F1) [(42,vP (some ⟨a3,4,none⟩))] ⟨hd 0 42 kR,trivial⟩
     exact AH rfl ((AU U23_ rfl (c2) rfl e0 rfl (⟨(Keep.refl _ _),rfl⟩)))
    ·intro F1 w1 k1 hf hd
     obtain ⟨F2,rfl⟩:=AK (F:=F1) [(1,vI no)] ⟨hf 1 kR,trivial⟩
     exact AH rfl ((AE (vI no) rfl (⟨(Keep.refl _ _),rfl⟩)))
    ·intro F1 w1 k1 hf hd
     obtain ⟨F2,rfl⟩:=AK (F:=F1) [(9,vP (some ⟨a2,0,none⟩))] ⟨hf 9 kR,trivial⟩
     exact AH rfl ((AE (vP (some ⟨a2,0,none⟩)) rfl (⟨(Keep.refl _ _),rfl⟩)))
    ·intro F1 w1 k1 hf hd
     obtain ⟨F2,rfl⟩:=AK (F:=F1) [(45,vP (some ⟨a2,0,none⟩))] ⟨hd 3 45 kR,trivial⟩
     exact AH rfl ((FU ⟨a2,0,none⟩ rfl (⟨(Keep.refl _ _),rfl⟩)))
    ·intro F1 w1 k1 hf hd
     obtain ⟨F2,rfl⟩:=AK (F:=F1) [(46,vP (some ⟨a2,0,none⟩))] ⟨hd 4 46 kR,trivial⟩
     exact AH rfl ((AT 0 KR rfl (⟨(Keep.refl _ _),rfl⟩)))
    ·intro F1 w1 k1 hf hd
     have k0:=(Keep.drew [] x5).trans k1
     have d0:=d0.keep k0 (by simp)
     obtain ⟨F2,rfl⟩:=AK (F:=F1) [(47,vP (some ⟨a2,0,none⟩))] ⟨hd 5 47 kR,trivial⟩
     exact AH rfl ((BS (vs:=[vI ((c.recs[no.toNat]!).no),vI ((c.recs[no.toNat]!).asked),vI ((c.recs[no.toNat]!).state),c8,d2]) U59_ rfl GM rfl d0 rfl (⟨(Keep.refl _ _),rfl⟩)))
    intro V5 V6 j9 o9 p0
    have V7:=V4.call j9
    have q5:Mv h4 x5 h4 V6:=Mv.of_keep j9
    have a4:=a4.mv q5
    have b8:=b8.mv q5
    have e5:=e5.mv q5 j9 (by simp)
    have a0:=a0.keep j9 (by simp)
    have e0:=e0.keep j9 (by simp)
    have a1:=a1.keep j9 (by simp)
    have c5:=c5.mv q5 j9 (by simp)
    obtain ⟨F2,rfl⟩:=AK (F:=V5) [(6,vP (some ⟨a3,0,none⟩)),(7,vP (some ⟨a6,0,none⟩)),(51, .tuple #[vN (.func 84) #[] #[vP (some ⟨a3,0,none⟩),vP (some ⟨a6,0,none⟩)]]),(43,c2),(44,vI no),(48,vA #[vI ((c.recs[no.toNat]!).no),vI ((c.recs[no.toNat]!).asked),vI ((c.recs[no.toNat]!).state),c8,d2])] ⟨p0 6 kR,p0 7 kR,p0 51 kR,o9 1 43 kR (by decide),o9 2 44 kR (by decide),o9 6 48 kR (by decide),trivial⟩
    clear o9 p0
    refine AA (GB U23_ GM .i64 no no.toNat rfl rfl oM e5 oM fun cw l0=>(?_))
    obtain ⟨k2,V8,x6,C6,i4⟩:=c5.publish V7
    have u3:∀ b,c2.ownBlock=some b→b∈k2:=fun b hb=>i4 b (u3 b hb) ((fun b hb e=>L6 b e hb) b hb)
    have d3:b1∈k2:=i4 b1 (by repeat (assumption)) (fun e=>absurd rfl (K6 _ e))
    have d4:a3∈k2:=i4 a3 (by repeat (assumption)) (fun e=>absurd rfl (u1 _ e))
    have d5:a6∈k2:=i4 a6 (by repeat (assumption)) (fun e=>absurd rfl (K7 _ e))
    have d6:a2∈k2:=i4 a2 (by repeat (assumption)) (fun e=>absurd rfl (B8 _ e))
    have d7:a5∈k2:=i4 a5 (by repeat (assumption)) (fun e=>absurd rfl (K8 _ e))
    have d8:b2∈k2:=i4 b2 (by repeat (assumption)) (fun e=>absurd rfl (K9 _ e))
    have Z8:=C6.len_le
    have e5:=e5.mv x6 (Keep.refl [] _) (by simp)
    have a4:=a4.mv x6
    have a0:=a0.keep (Keep.refl [] _) (by simp)
    have b8:=b8.mv x6
    have e0:=e0.keep (Keep.refl [] _) (by simp)
    have a1:=a1.keep (Keep.refl [] _) (by simp)
    refine CC (PX (⟨(c.recs[no.toNat]!).no,(c.recs[no.toNat]!).asked,(c.recs[no.toNat]!).state,((c.recs[no.toNat]!).approved).take (tw ((c.recs[no.toNat]!).approved) guardian)++([guardian])++((c.recs[no.toNat]!).approved).drop (tw ((c.recs[no.toNat]!).approved) guardian),(c.recs[no.toNat]!).vetoed⟩:Recovery) (by decide) GM rfl rfl e5 l0 (u3 _ l0) oM ⟨_,_,rfl,C6,a4⟩ V8 fun cx V9 W0 x7 f6=>(?_))
    have a0:=a0.keep x7 (by simp only [List.mem_singleton];exact fun e=>absurd e.symm (C4 _ l0))
    have b8:=b8.mv W0
    have e0:=e0.keep x7 (by simp only [List.mem_singleton];exact fun e=>absurd e.symm (u4 _ l0))
    have a1:=a1.keep x7 (by simp only [List.mem_singleton];exact fun e=>absurd e.symm (C5 _ l0))
    refine AG (AB (AF (AC kR (AA (BS (vs:=[vI c.epoch,vI c.threshold,vI c.wait,f4,c2]) U25_ rfl BM rfl e0 rfl (CC (BF (vs:=[vI c.epoch,vI c.threshold,vI c.wait,f4,c2]) (.agg #[vI c.epoch,vI c.threshold,vI c.wait,f4,c2]) rfl rfl rfl BM (fun u hu=>by simp only [List.mem_cons,List.not_mem_nil,or_false] at hu;rcases hu with rfl|rfl|rfl|rfl|rfl <;> first|rfl|exact b8.oneCell|exact f6.oneCell) (by repeat (assumption)) e0 oT V9 fun cy W1 F9 x8 u5=>(?_))))))))
    have f6:=f6.mv F9 x8 (fun b hb=>BH (u4 b hb))
    have b8:=b8.mv F9
    have a0:=a0.keep x8 (BH c6)
    have a1:=a1.keep x8 (BH (Ne.symm c0))
    refine CC (CN (vI 0) rfl rfl rfl TK (by repeat (assumption)) a1 oT W1 fun cz W2 G0 x9 L7=>(?_))
    have f6:=f6.mv G0 x9 (fun b hb=>BH (C5 b hb))
    have b8:=b8.mv G0
    have a0:=a0.keep x9 (BH e8)
    have u5:=u5.keep x9 (BH c0)
    refine AG (AB (AM (UM (PW [vP (some ⟨a3,0,none⟩),vP (some ⟨a6,0,none⟩)] 19 .returning rfl (fun h=>by cases h) rfl IG Tryz.func84 rfl rfl oT rfl rfl (fun cA=>AF (AC kR (AA (AE (Value.nilIface) rfl (AA (o_neqNil' U20_ rfl (AG (AB (AJ false rfl rfl (fun h=>by cases h) (fun _=>AR (HL rfl (KL rfl) (Exists.intro _ (And.intro (FE rfl (EZ (vs:=[vI c.epoch,vI c.threshold,vI c.wait,f4,c2]) rfl U25_ rfl BM rfl u5 rfl) (OV rfl U30_ rfl rfl L7 rfl)) (EH (AA (AO (vA #[vI c.epoch,vI c.threshold,vI c.wait,f4,c2]) rfl rfl (AA (AO (vI 0) rfl rfl (CC (BF (vs:=[vI c.epoch,vI c.threshold,vI c.wait,f4,c2]) (.agg #[vI c.epoch,vI c.threshold,vI c.wait,f4,c2]) rfl rfl rfl BM (fun u hu=>by simp only [List.mem_cons,List.not_mem_nil,or_false] at hu;rcases hu with rfl|rfl|rfl|rfl|rfl <;> first|rfl|exact b8.oneCell|exact f6.oneCell) (by repeat (assumption)) a0 oT W2 fun cB G1 G2 W3 L8=>(?_)))))))))))))))))))))))))
    have b8:=b8.mv G2
    have f6:=f6.mv G2 W3 (fun b hb=>BH (C4 b hb))
    refine AA (AD (vI 0) rfl (AG (AB (AM (AS rfl (FE rfl (EZ (vs:=[vI c.epoch,vI c.threshold,vI c.wait,f4,c2]) rfl U25_ rfl BM rfl L8 rfl) (EI rfl rfl)) (?_))))))
    have W4:((CT c no (BV c guardian)).1)=(⟨c.epoch,c.threshold,c.wait,c.guardians,c.recs.set no.toNat (⟨(c.recs[no.toNat]!).no,(c.recs[no.toNat]!).asked,(c.recs[no.toNat]!).state,((c.recs[no.toNat]!).approved).take (tw ((c.recs[no.toNat]!).approved) guardian)++([guardian])++((c.recs[no.toNat]!).approved).drop (tw ((c.recs[no.toNat]!).approved) guardian),(c.recs[no.toNat]!).vetoed⟩:Recovery)⟩:Circle):=by exact congrArg (fun p=>p.1) (show CT c no (BV c guardian)=_ from UO hok oM oM aS aS aS)
    have W5:((CT c no (BV c guardian)).2)=(0:Int):=by exact congrArg (fun p=>p.2) (show CT c no (BV c guardian)=_ from UO hok oM oM aS aS aS)
    exact ⟨_,rfl,G1.keep,by rw [W4,W5];exact ⟨[vI c.epoch,vI c.threshold,vI c.wait,f4,c2],rfl,⟨_,_,rfl,b8.out,(f6.pub G1)⟩⟩⟩
   have aK:(XL ((c.recs[no.toNat]!).approved) guardian)=true:=by simpa using s8
   refine AR (HL rfl (KL rfl) (Exists.intro _ (And.intro rfl (AG (HL rfl (KL rfl) (EH (AG (HL rfl (KL rfl) (EH (AG (HL rfl (KL rfl) (EH (AG (AB (AF (AC kR (AA (CJ U25_ rfl BM rfl a9 fun aL L9=>(?_)))))))))))))))))))
   obtain ⟨f7,G3,rfl,b9,C7⟩:=L9
   have:=b9.len_le
   have:=C7.len_le
   refine CC (BF (vs:=[vI c.epoch,vI c.threshold,vI c.wait,f7,G3]) (.agg #[vI c.epoch,vI c.threshold,vI c.wait,f7,G3]) rfl rfl rfl BM (fun u hu=>by simp only [List.mem_cons,List.not_mem_nil,or_false] at hu;rcases hu with rfl|rfl|rfl|rfl|rfl <;> first|rfl|exact b9.oneCell|exact C7.oneCell) (by repeat (constructor)) a8 oT v8 fun cC W6 q6 p1 i5=>(?_))
   have a9:=a9.mv q6
   have b4:=b4.mv q6
   have a4:=a4.mv q6
   have b9:=b9.mv q6
   have a0:=a0.keep p1 (BH c6)
   have a1:=a1.keep p1 (BH (Ne.symm c0))
   have b0:=b0.keep p1 (BH (Ne.symm g4))
   have a7:=a7.keep p1 (BH (Ne.symm s2))
   have b3:=b3.keep p1 (BH (Ne.symm i9))
   refine AG (AB (AF (AC kR (AA (AY 4 DL (c.recs) rfl a9 (fun _ _ _ h=>BX h) fun cD M0=>(AA (BL U23_ rfl rfl M0 fun y0 l1=>(?_))))))))
   have:=l1.len_le
   refine AA (LM [y0] _ NL rfl (CE 8 Tryz.func39 rfl rfl oT (fun cE=>AF (AC kR (AA (AD (nS) rfl (AG (AB (AF (AF (AC kR (AA (AE (y0) rfl (AA (QL U23_ rfl rfl l1 oM (AG (AB (AJ false rfl rfl (fun h=>by cases h) (fun _=>AR (AB (AF (AC kR (AA (JL (E:=Enc.recovery) (xs:=[]) U23_ GM NA (by decide) [] [] [] rfl rfl rfl (Parts.nil _ _ _) oT W6 fun k3 W7 cF W8 g7 W9 q7 m4 M1=>(?_)))))))))))))))))))))))) (fun _ _ h=>h))
   have C8:∀ b,k3.ownBlock=some b→b≠b1:=fun b hb=>by have:=a0.lt;rw [g7] at hb;cases hb;omega
   have C9:∀ b,k3.ownBlock=some b→b≠a3:=fun b hb=>by have:=i5.lt;rw [g7] at hb;cases hb;omega
   have D0:∀ b,k3.ownBlock=some b→b≠a6:=fun b hb=>by have:=a1.lt;rw [g7] at hb;cases hb;omega
   have D1:∀ b,k3.ownBlock=some b→b≠a2:=fun b hb=>by have:=b0.lt;rw [g7] at hb;cases hb;omega
   have M2:∀ b,k3.ownBlock=some b→b≠a5:=fun b hb=>by have:=a7.lt;rw [g7] at hb;cases hb;omega
   have M3:∀ b,k3.ownBlock=some b→b≠b2:=fun b hb=>by have:=b3.lt;rw [g7] at hb;cases hb;omega
   have M4:∀ b,k3.ownBlock=some b→b∈(W7 :: (b2 :: (a5 :: (a2 :: (a6 :: (a3 :: (b1 :: []))))))):=fun b hb=>by rw [g7] at hb;cases hb;simp
   clear W8 g7
   have l1:=l1.mv q7
   have b4:=b4.mv q7
   have a4:=a4.mv q7
   have b9:=b9.mv q7
   have a0:=a0.keep m4 (by simp)
   have i5:=i5.keep m4 (by simp)
   have a1:=a1.keep m4 (by simp)
   have b0:=b0.keep m4 (by simp)
   have a7:=a7.keep m4 (by simp)
   have b3:=b3.keep m4 (by simp)
   refine AA (AE (y0) rfl (AA (DS (E:=Enc.recovery) (l:=[]) (m:=c.recs) U23_ XJ rfl (by decide) rfl rfl M1 l1 (fun _ hb=>.inl hb) M4 (by simp;omega) (by simp [maxLen];omega) W9 fun c3 cG i8 M5 j1 h6 X0 y1 q8 g8=>(?_))))
   rw [List.nil_append] at g8
   have D2:∀ b,c3.ownBlock=some b→b≠b1:=fun b hb=>by rcases j1 with e1|e1 <;> rw [e1] at hb <;> first|(cases hb;have:=a0.lt;omega)|(exact C8 b hb)
   have u6:∀ b,c3.ownBlock=some b→b≠a3:=fun b hb=>by rcases j1 with e1|e1 <;> rw [e1] at hb <;> first|(cases hb;have:=i5.lt;omega)|(exact C9 b hb)
   have D3:∀ b,c3.ownBlock=some b→b≠a6:=fun b hb=>by rcases j1 with e1|e1 <;> rw [e1] at hb <;> first|(cases hb;have:=a1.lt;omega)|(exact D0 b hb)
   have aM:∀ b,c3.ownBlock=some b→b≠a2:=fun b hb=>by rcases j1 with e1|e1 <;> rw [e1] at hb <;> first|(cases hb;have:=b0.lt;omega)|(exact D1 b hb)
   have aN:∀ b,c3.ownBlock=some b→b≠a5:=fun b hb=>by rcases j1 with e1|e1 <;> rw [e1] at hb <;> first|(cases hb;have:=a7.lt;omega)|(exact M2 b hb)
   have aO:∀ b,c3.ownBlock=some b→b≠b2:=fun b hb=>by rcases j1 with e1|e1 <;> rw [e1] at hb <;> first|(cases hb;have:=b3.lt;omega)|(exact M3 b hb)
   have d3:b1∈i8:=h6 b1 (by repeat (constructor))
   have d4:a3∈i8:=h6 a3 (by repeat (constructor))
   have d5:a6∈i8:=h6 a6 (by repeat (constructor))
   have d6:a2∈i8:=h6 a2 (by repeat (constructor))
   have d7:a5∈i8:=h6 a5 (by repeat (constructor))
   have d8:b2∈i8:=h6 b2 (by repeat (constructor))
   have b4:=b4.mv y1
   have a4:=a4.mv y1
   have b9:=b9.mv y1
   have a0:=a0.keep q8 (by simp only [Option.mem_toList];exact fun e=>absurd rfl (C8 _ e))
   have i5:=i5.keep q8 (by simp only [Option.mem_toList];exact fun e=>absurd rfl (C9 _ e))
   have a1:=a1.keep q8 (by simp only [Option.mem_toList];exact fun e=>absurd rfl (D0 _ e))
   have b0:=b0.keep q8 (by simp only [Option.mem_toList];exact fun e=>absurd rfl (D1 _ e))
   refine AA (AD (c3) rfl (AG (AB (AM (AS rfl (BZ rfl rfl rfl) (Exists.intro _ (And.intro rfl (AA (AT 4 DL rfl (CC (CN (c3) rfl rfl g8.oneCell s_23 (by repeat (assumption)) i5 oT X0 fun y2 X1 q9 r0 f8=>(?_))))))))))))
   have b4:=b4.mv q9
   have a4:=a4.mv q9
   have b9:=b9.mv q9
   have g8:=g8.mv q9 r0 (fun b hb=>BH (u6 b hb))
   have a0:=a0.keep r0 (BH c6)
   have a1:=a1.keep r0 (BH (Ne.symm c0))
   have b0:=b0.keep r0 (BH (Ne.symm g4))
   refine AG (AB (AF (cw_draw' 7 _ _ [CQ (vP (some ⟨a3,4,none⟩)),CQ c3,CQ (vI no),CQ (vP (some ⟨a2,0,none⟩)),CQ (vP (some ⟨a2,0,none⟩)),CQ (vP (some ⟨a2,0,none⟩)),CQ (vA #[vI ((c.recs[no.toNat]!).no),vI ((c.recs[no.toNat]!).asked),vI ((c.recs[no.toNat]!).state),d1,d2])] kR kR kR kR rfl rfl ⟨kI,kI,kI,kI,kI,kI,kI,trivial⟩ ⟨?_,?_,?_,?_,?_,?_,?_,trivial⟩ ?_)))
   ·intro F1 w1 k1 hf hd
    obtain ⟨F2,rfl⟩:=AK (F:=F1) [(6,vP (some ⟨a3,0,none⟩))] ⟨hf 6 kR,trivial⟩
    exact AH rfl ((AT 4 DL rfl (⟨(Keep.refl _ _),rfl⟩)))
   ·intro F1 w1 k1 hf hd
    have k0:=(Keep.drew [] y2).trans k1
    have f8:=f8.keep k0 (by simp)
    obtain ⟨F2,rfl⟩:=AK (F:=F1) [(42,vP (some ⟨a3,4,none⟩))] ⟨hd 0 42 kR,trivial⟩
    exact AH rfl ((AU U23_ rfl (c3) rfl f8 rfl (⟨(Keep.refl _ _),rfl⟩)))
   ·intro F1 w1 k1 hf hd
    obtain ⟨F2,rfl⟩:=AK (F:=F1) [(1,vI no)] ⟨hf 1 kR,trivial⟩
    exact AH rfl ((AE (vI no) rfl (⟨(Keep.refl _ _),rfl⟩)))
   ·intro F1 w1 k1 hf hd
    obtain ⟨F2,rfl⟩:=AK (F:=F1) [(9,vP (some ⟨a2,0,none⟩))] ⟨hf 9 kR,trivial⟩
    exact AH rfl ((AE (vP (some ⟨a2,0,none⟩)) rfl (⟨(Keep.refl _ _),rfl⟩)))
   ·intro F1 w1 k1 hf hd
    obtain ⟨F2,rfl⟩:=AK (F:=F1) [(45,vP (some ⟨a2,0,none⟩))] ⟨hd 3 45 kR,trivial⟩
    exact AH rfl ((FU ⟨a2,0,none⟩ rfl (⟨(Keep.refl _ _),rfl⟩)))
   ·intro F1 w1 k1 hf hd
    obtain ⟨F2,rfl⟩:=AK (F:=F1) [(46,vP (some ⟨a2,0,none⟩))] ⟨hd 4 46 kR,trivial⟩
    exact AH rfl ((AT 0 KR rfl (⟨(Keep.refl _ _),rfl⟩)))
   ·intro F1 w1 k1 hf hd
    have k0:=(Keep.drew [] y2).trans k1
    have b0:=b0.keep k0 (by simp)
    obtain ⟨F2,rfl⟩:=AK (F:=F1) [(47,vP (some ⟨a2,0,none⟩))] ⟨hd 5 47 kR,trivial⟩
    exact AH rfl ((BS (vs:=[vI ((c.recs[no.toNat]!).no),vI ((c.recs[no.toNat]!).asked),vI ((c.recs[no.toNat]!).state),d1,d2]) U59_ rfl GM rfl b0 rfl (⟨(Keep.refl _ _),rfl⟩)))
   intro X2 X3 m5 p2 p3
   have X4:=X1.call m5
   have r4:Mv i8 y2 i8 X3:=Mv.of_keep m5
   have b4:=b4.mv r4
   have a4:=a4.mv r4
   have b9:=b9.mv r4
   have g8:=g8.mv r4 m5 (by simp)
   have a0:=a0.keep m5 (by simp)
   have f8:=f8.keep m5 (by simp)
   have a1:=a1.keep m5 (by simp)
   obtain ⟨F2,rfl⟩:=AK (F:=X2) [(6,vP (some ⟨a3,0,none⟩)),(7,vP (some ⟨a6,0,none⟩)),(51, .tuple #[vN (.func 84) #[] #[vP (some ⟨a3,0,none⟩),vP (some ⟨a6,0,none⟩)]]),(43,c3),(44,vI no),(48,vA #[vI ((c.recs[no.toNat]!).no),vI ((c.recs[no.toNat]!).asked),vI ((c.recs[no.toNat]!).state),d1,d2])] ⟨p3 6 kR,p3 7 kR,p3 51 kR,p2 1 43 kR (by decide),p2 2 44 kR (by decide),p2 6 48 kR (by decide),trivial⟩
   clear p2 p3
   refine AA (GB U23_ GM .i64 no no.toNat rfl rfl oM g8 oM fun cH l2=>(CC (PX (c.recs[no.toNat]!) (by decide) GM rfl rfl g8 l2 (M5 _ l2) oM ⟨_,_,rfl,b4,a4⟩ X4 fun cI X5 X6 y3 f9=>(?_))))
   have a0:=a0.keep y3 (by simp only [List.mem_singleton];exact fun e=>absurd e.symm (D2 _ l2))
   have b9:=b9.mv X6
   have f8:=f8.keep y3 (by simp only [List.mem_singleton];exact fun e=>absurd e.symm (u6 _ l2))
   have a1:=a1.keep y3 (by simp only [List.mem_singleton];exact fun e=>absurd e.symm (D3 _ l2))
   refine AG (AB (AF (AC kR (AA (BS (vs:=[vI c.epoch,vI c.threshold,vI c.wait,f7,c3]) U25_ rfl BM rfl f8 rfl (CC (BF (vs:=[vI c.epoch,vI c.threshold,vI c.wait,f7,c3]) (.agg #[vI c.epoch,vI c.threshold,vI c.wait,f7,c3]) rfl rfl rfl BM (fun u hu=>by simp only [List.mem_cons,List.not_mem_nil,or_false] at hu;rcases hu with rfl|rfl|rfl|rfl|rfl <;> first|rfl|exact b9.oneCell|exact f9.oneCell) (by repeat (assumption)) f8 oT X5 fun cJ X7 G4 y4 u7=>(?_))))))))
   have f9:=f9.mv G4 y4 (fun b hb=>BH (u6 b hb))
   have b9:=b9.mv G4
   have a0:=a0.keep y4 (BH c6)
   have a1:=a1.keep y4 (BH (Ne.symm c0))
   refine CC (CN (vI 0) rfl rfl rfl TK (by repeat (assumption)) a1 oT X7 fun cK X8 G5 y5 M6=>(?_))
   have f9:=f9.mv G5 y5 (fun b hb=>BH (D3 b hb))
   have b9:=b9.mv G5
   have a0:=a0.keep y5 (BH e8)
   have u7:=u7.keep y5 (BH c0)
   refine AG (AB (AM (UM (PW [vP (some ⟨a3,0,none⟩),vP (some ⟨a6,0,none⟩)] 19 .returning rfl (fun h=>by cases h) rfl IG Tryz.func84 rfl rfl oT rfl rfl (fun cL=>AF (AC kR (AA (AE (Value.nilIface) rfl (AA (o_neqNil' U20_ rfl (AG (AB (AJ false rfl rfl (fun h=>by cases h) (fun _=>AR (HL rfl (KL rfl) (Exists.intro _ (And.intro (FE rfl (EZ (vs:=[vI c.epoch,vI c.threshold,vI c.wait,f7,c3]) rfl U25_ rfl BM rfl u7 rfl) (OV rfl U30_ rfl rfl M6 rfl)) (EH (AA (AO (vA #[vI c.epoch,vI c.threshold,vI c.wait,f7,c3]) rfl rfl (AA (AO (vI 0) rfl rfl (CC (BF (vs:=[vI c.epoch,vI c.threshold,vI c.wait,f7,c3]) (.agg #[vI c.epoch,vI c.threshold,vI c.wait,f7,c3]) rfl rfl rfl BM (fun u hu=>by simp only [List.mem_cons,List.not_mem_nil,or_false] at hu;rcases hu with rfl|rfl|rfl|rfl|rfl <;> first|rfl|exact b9.oneCell|exact f9.oneCell) (by repeat (assumption)) a0 oT X8 fun cM G6 G7 X9 M7=>(?_)))))))))))))))))))))))))
   have b9:=b9.mv G7
   have f9:=f9.mv G7 X9 (fun b hb=>BH (D2 b hb))
   refine AA (AD (vI 0) rfl (AG (AB (AM (AS rfl (FE rfl (EZ (vs:=[vI c.epoch,vI c.threshold,vI c.wait,f7,c3]) rfl U25_ rfl BM rfl M7 rfl) (EI rfl rfl)) (?_))))))
   have Y0:((CT c no (BV c guardian)).1)=(⟨c.epoch,c.threshold,c.wait,c.guardians,c.recs.set no.toNat (c.recs[no.toNat]!)⟩:Circle):=by exact congrArg (fun p=>p.1) (show CT c no (BV c guardian)=_ from app_had hok oM oM aS aS aS)
   have Y1:((CT c no (BV c guardian)).2)=(0:Int):=by exact congrArg (fun p=>p.2) (show CT c no (BV c guardian)=_ from app_had hok oM oM aS aS aS)
   exact ⟨_,rfl,G6.keep,by rw [Y0,Y1];exact ⟨[vI c.epoch,vI c.threshold,vI c.wait,f7,c3],rfl,⟨_,_,rfl,b9.out,(f9.pub G6)⟩⟩⟩
  ·refine AA (LS (k:=1) (vN (.func 45) #[] #[vP (some ⟨a5,0,none⟩)]) U70_ U3_ rfl (congrArg vI k5) b3 rfl (AA (AE (vT #[vN (.func 45) #[] #[vP (some ⟨a5,0,none⟩)],vO true]) rfl (AA (AO (vN (.func 45) #[] #[vP (some ⟨a5,0,none⟩)]) rfl rfl (AA (AO (vO true) rfl rfl (AA (AD (vN (.func 45) #[] #[vP (some ⟨a5,0,none⟩)]) rfl (AA (AD (vO true) rfl (AG (AB (AF (AC kR (AA (AE (vO true) rfl (AG (AB (AJ true rfl rfl (fun _=>AC kR (AA (AE (vN (.func 45) #[] #[vP (some ⟨a5,0,none⟩)]) rfl (AA (LE [] [vP (some ⟨a5,0,none⟩)] [] enter_45 rfl rfl (CE 3 Tryz.func45 rfl rfl oT (fun cN=>AC kR (AA (AU U65_ rfl (vP (some ⟨a2,0,none⟩)) rfl a7 rfl (AA (IS [vP (some ⟨a2,0,none⟩),vO false,vI 1] LB rfl (CE 11 Tryz.func44 rfl rfl oT (fun cO=>AF (AC kR (AA (AE (vO false) rfl (AA (EU false rfl (AG (AB (AJ true rfl rfl (fun _=>AC kR (AA (AE (vI 1) rfl (AA (EG (l:=[(0, .tmp 8)]) PS RV rfl [(0,vI 1,[vI 1])] [vI 1] rfl ⟨_,rfl,rfl,oT,rfl⟩ (AA (MJ (vA #[vI 1]) U103_ rfl rfl (CC (ML rfl (GO rfl (FA (GO rfl (FA (GO rfl (FA (GO rfl (FA (JI (MO (JR [vP (some ⟨a3,0,none⟩),vP (some ⟨a6,0,none⟩)] (.panicking [{ v:=Value.iface 103 (vA #[vI 1]),recovered:=false }]) rfl (fun h=>by cases h) rfl IG (OY (1:Int) a3 a6 p6 a8 a1 (by repeat (constructor)) (by repeat (constructor)) c0) (fun e_ cP hR_=>?_))))))))))))))))))))) (fun h=>by cases h)))))))))))))))))))))) (fun h=>by cases h)))))))))))))))))))))
   obtain ⟨v_,rfl,Y2,cQ,Y3,M8,M9⟩:=hR_
   have a0:=a0.keep Y3 (nin2 c6 e8)
   refine Exists.intro _ (And.intro (FE rfl (EZ (vs:=[vI 0,vI 0,vI 0,nS,nS]) rfl U25_ rfl BM rfl M8 rfl) (OV rfl U30_ rfl rfl M9 rfl)) (EH (AA (AO (vA #[vI 0,vI 0,vI 0,nS,nS]) rfl rfl (AA (AO (vI 1) rfl rfl (CC (BF (vs:=[vI 0,vI 0,vI 0,nS,nS]) (.agg #[vI 0,vI 0,vI 0,nS,nS]) rfl rfl rfl BM (fun u hu=>by simp only [List.mem_cons,List.not_mem_nil,or_false] at hu;rcases hu with rfl|rfl|rfl|rfl|rfl <;> rfl) (by repeat (constructor)) a0 oT Y2 fun cR Y4 cS cT N0=>(AA (AD (vI 1) rfl (AG (AB (AM (AS rfl (FE rfl (EZ (vs:=[vI 0,vI 0,vI 0,nS,nS]) rfl U25_ rfl BM rfl N0 rfl) (EI rfl rfl)) (?_)))))))))))))))
   have Y5:((CT c no (BV c guardian)).1)=(⟨(0:Int),(0:Int),(0:Int),[],[]⟩:Circle):=by exact congrArg (fun p=>p.1) (show CT c no (BV c guardian)=_ from app_done hok oM oM aS)
   have Y6:((CT c no (BV c guardian)).2)=(1:Int):=by exact congrArg (fun p=>p.2) (show CT c no (BV c guardian)=_ from app_done hok oM oM aS)
   exact ⟨_,rfl,Y4.keep,by rw [Y5,Y6];exact ⟨[vI 0,vI 0,vI 0,nS,nS],rfl,Enc.out (B:=(b2 :: (a5 :: (a2 :: (a6 :: (a3 :: (b1 :: []))))))) ⟨.slice none 0 0, .slice none 0 0,rfl,(BB.nil _ _ _),(BB.nil _ _ _)⟩⟩⟩
  refine AA (LS (k:=2) (vN (.func 43) #[] #[vP (some ⟨a5,0,none⟩)]) U70_ U3_ rfl (congrArg vI k5) b3 rfl (AA (AE (vT #[vN (.func 43) #[] #[vP (some ⟨a5,0,none⟩)],vO true]) rfl (AA (AO (vN (.func 43) #[] #[vP (some ⟨a5,0,none⟩)]) rfl rfl (AA (AO (vO true) rfl rfl (AA (AD (vN (.func 43) #[] #[vP (some ⟨a5,0,none⟩)]) rfl (AA (AD (vO true) rfl (AG (AB (AF (AC kR (AA (AE (vO true) rfl (AG (AB (AJ true rfl rfl (fun _=>AC kR (AA (AE (vN (.func 43) #[] #[vP (some ⟨a5,0,none⟩)]) rfl (AA (LE [] [vP (some ⟨a5,0,none⟩)] [] enter_43 rfl rfl (CE 3 Tryz.func43 rfl rfl oT (fun cU=>AC kR (AA (AU U65_ rfl (vP (some ⟨a2,0,none⟩)) rfl a7 rfl (AA (IS [vP (some ⟨a2,0,none⟩),vO false,vI 452] LB rfl (CE 11 Tryz.func44 rfl rfl oT (fun cV=>AF (AC kR (AA (AE (vO false) rfl (AA (EU false rfl (AG (AB (AJ true rfl rfl (fun _=>AC kR (AA (AE (vI 452) rfl (AA (EG (l:=[(0, .tmp 8)]) PS RV rfl [(0,vI 452,[vI 452])] [vI 452] rfl ⟨_,rfl,rfl,oT,rfl⟩ (AA (MJ (vA #[vI 452]) U103_ rfl rfl (CC (ML rfl (GO rfl (FA (GO rfl (FA (GO rfl (FA (GO rfl (FA (JI (MO (JR [vP (some ⟨a3,0,none⟩),vP (some ⟨a6,0,none⟩)] (.panicking [{ v:=Value.iface 103 (vA #[vI 452]),recovered:=false }]) rfl (fun h=>by cases h) rfl IG (OY (452:Int) a3 a6 p6 a8 a1 (by repeat (constructor)) (by repeat (constructor)) c0) (fun e_ cW hR_=>?_))))))))))))))))))))) (fun h=>by cases h)))))))))))))))))))))) (fun h=>by cases h)))))))))))))))))))))
  obtain ⟨v_,rfl,Y7,cX,Y8,N1,N2⟩:=hR_
  have a0:=a0.keep Y8 (nin2 c6 e8)
  refine Exists.intro _ (And.intro (FE rfl (EZ (vs:=[vI 0,vI 0,vI 0,nS,nS]) rfl U25_ rfl BM rfl N1 rfl) (OV rfl U30_ rfl rfl N2 rfl)) (EH (AA (AO (vA #[vI 0,vI 0,vI 0,nS,nS]) rfl rfl (AA (AO (vI 452) rfl rfl (CC (BF (vs:=[vI 0,vI 0,vI 0,nS,nS]) (.agg #[vI 0,vI 0,vI 0,nS,nS]) rfl rfl rfl BM (fun u hu=>by simp only [List.mem_cons,List.not_mem_nil,or_false] at hu;rcases hu with rfl|rfl|rfl|rfl|rfl <;> rfl) (by repeat (constructor)) a0 oT Y7 fun cY Y9 cZ db N3=>(AA (AD (vI 452) rfl (AG (AB (AM (AS rfl (FE rfl (EZ (vs:=[vI 0,vI 0,vI 0,nS,nS]) rfl U25_ rfl BM rfl N3 rfl) (EI rfl rfl)) (?_)))))))))))))))
  have Z0:((CT c no (BV c guardian)).1)=(⟨(0:Int),(0:Int),(0:Int),[],[]⟩:Circle):=by exact congrArg (fun p=>p.1) (show CT c no (BV c guardian)=_ from app_dead hok oM oM aS)
  have Z1:((CT c no (BV c guardian)).2)=(452:Int):=by exact congrArg (fun p=>p.2) (show CT c no (BV c guardian)=_ from app_dead hok oM oM aS)
  exact ⟨_,rfl,Y9.keep,by rw [Z0,Z1];exact ⟨[vI 0,vI 0,vI 0,nS,nS],rfl,Enc.out (B:=(b2 :: (a5 :: (a2 :: (a6 :: (a3 :: (b1 :: []))))))) ⟨.slice none 0 0, .slice none 0 0,rfl,(BB.nil _ _ _),(BB.nil _ _ _)⟩⟩⟩
 have aP:no<(0:Int):=by simpa using y7
 refine AL rfl (AL rfl (AL rfl (AL rfl (AL rfl (AA (AQ (vO true) rfl rfl (AG (AB (AJ true rfl rfl (fun _=>AF (AC kR (AA (BS (vs:=[vI 0,vI 0,vI 0,nS,nS]) U25_ rfl BM rfl a8 rfl (CC (BF (vs:=[vI 0,vI 0,vI 0,nS,nS]) (.agg #[vI 0,vI 0,vI 0,nS,nS]) rfl rfl rfl BM (fun u hu=>by simp only [List.mem_cons,List.not_mem_nil,or_false] at hu;rcases hu with rfl|rfl|rfl|rfl|rfl <;> rfl) (by repeat (constructor)) a8 oT p4 fun dc Z2 dd G8 u9=>(?_))))))) (fun h=>by cases h))))))))))
 have a0:=a0.keep G8 (BH c6)
 have a1:=a1.keep G8 (BH (Ne.symm c0))
 refine CC (CN (vI 1) rfl rfl rfl TK (by repeat (constructor)) a1 oT Z2 fun de Z3 df G9 N4=>(?_))
 have a0:=a0.keep G9 (BH e8)
 have u9:=u9.keep G9 (BH c0)
 refine AG (AB (AM (AI (TB rfl (FE rfl (EZ (vs:=[vI 0,vI 0,vI 0,nS,nS]) rfl U25_ rfl BM rfl u9 rfl) (OV rfl U30_ rfl rfl N4 rfl)) (EH (AA (AO (vA #[vI 0,vI 0,vI 0,nS,nS]) rfl rfl (AA (AO (vI 1) rfl rfl (CC (BF (vs:=[vI 0,vI 0,vI 0,nS,nS]) (.agg #[vI 0,vI 0,vI 0,nS,nS]) rfl rfl rfl BM (fun u hu=>by simp only [List.mem_cons,List.not_mem_nil,or_false] at hu;rcases hu with rfl|rfl|rfl|rfl|rfl <;> rfl) (by repeat (constructor)) a0 oT Z3 fun dg Z4 dh di N5=>(AA (AD (vI 1) rfl (AG (AB (AM (AS rfl (FE rfl (EZ (vs:=[vI 0,vI 0,vI 0,nS,nS]) rfl U25_ rfl BM rfl N5 rfl) (EI rfl rfl)) (?_))))))))))))))))))
 have Z5:((CT c no (BV c guardian)).1)=(⟨(0:Int),(0:Int),(0:Int),[],[]⟩:Circle):=by exact congrArg (fun p=>p.1) (show CT c no (BV c guardian)=_ from app_no hok oM)
 have Z6:((CT c no (BV c guardian)).2)=(1:Int):=by exact congrArg (fun p=>p.2) (show CT c no (BV c guardian)=_ from app_no hok oM)
 exact ⟨_,rfl,Z4.keep,by rw [Z5,Z6];exact ⟨[vI 0,vI 0,vI 0,nS,nS],rfl,Enc.out (B:=(a6 :: (a3 :: (b1 :: [])))) ⟨.slice none 0 0, .slice none 0 0,rfl,(BB.nil _ _ _),(BB.nil _ _ _)⟩⟩⟩
open Go.Fw Go.RowKit
set_option maxHeartbeats 4000000 in
set_option maxRecDepth 100000 in
theorem c_finish {O:List Nat} (c_cs:List Value) (c:Circle) (no:Int) (day:Int) (w:World) (o7:Enc.circle.rd w O c_cs c) (hO:∀ b∈O,b<w.heap.size):CA Tryz.prog 20 [.agg c_cs.toArray,vI no,vI day] w (fun v w'=>∃ (x0:List Value),v = .tuple #[.agg x0.toArray,vI ((CT c no (CF c day)).2)]∧Enc.circle.rd w' (O) x0 ((CT c no (CF c day)).1)):= by
 have o7:Enc.circle.rd w ([]++O) c_cs c:=o7
 have s0:St w O w []:=St.start hO
 refine BE 14 Tryz.func20 rfl rfl oT (fun F0=>AF (AC kR (AA (DR (E:=Enc.circle) (vA c_cs.toArray) (c_cs) c rfl rfl o7 s0 fun c1 G3 u3 G4 G5 b0=>(AA (DR (E:=Enc.int) (vI day) ([vI day]) day rfl rfl rfl u3 fun c2 G6 u4 u5 G7 b4=>(?_)))))))
 have b0:=b0.mv u5
 refine AA (CZ [vI 0,vI 0,vI 0,nS,nS] KM rfl u4 fun a8 G8 u6 u7 m6 G9 a0=>(?_))
 clear u6
 have b0:=b0.mv m6
 have b4:=b4.mv m6
 refine AA (AD (vI 0) rfl (AG (AB (AF (AC kR (AA (CJ U25_ rfl BM rfl b0 fun h8 o8=>(AA (AE (vI no) rfl (AA (DV (first:=[]) (captured:=[.tmp 5, .tmp 3]) [] [vP (some c2),vP (some c1)] rfl rfl (AA (IS [vA h8.toArray,vI no,vN (.func 49) #[] #[vP (some c2),vP (some c1)]] enter_40 rfl (SJ 51 Tryz.func40 rfl rfl oT (fun H0=>AF (AC kR (AA (DR (E:=Enc.circle) (vA h8.toArray) (h8) c rfl rfl o8 u7 fun H1 H2 u9 m7 v0 b3=>(?_)))))))))))))))))))
 have b4:=b4.mv m7
 have b0:=b0.mv m7
 have a0:=a0.keep v0 (by simp)
 refine AA (CZ [vI 0,vI 0,vI 0,nS,nS] KM rfl u9 fun a4 H3 v1 v2 j8 v3 a7=>(?_))
 have c3:HD a8 a4:=by show a8≠a4;have:=a0.lt;omega
 clear v1
 have b4:=b4.mv j8
 have b0:=b0.mv j8
 have b3:=b3.mv j8
 have a0:=a0.keep v3 (by simp)
 refine AA (CZ [vI 0] z_30 rfl v2 fun a5 v4 v5 m9 j9 n2 a3=>(?_))
 have c4:HD a8 a5:=by show a8≠a5;have:=a0.lt;omega
 have b9:HD a4 a5:=by show a4≠a5;have:=a7.lt;omega
 clear v5
 have b4:=b4.mv j9
 have b0:=b0.mv j9
 have b3:=b3.mv j9
 have a0:=a0.keep n2 (by simp)
 have a7:=a7.keep n2 (by simp)
 refine AG (AB (AF (AF (AC kR (AA (CJ U25_ rfl BM rfl b3 fun l4 o9=>(AA (AZ (vs:=[vA l4.toArray]) NK (QH (O:=(a5 :: (a4 :: (a8 :: [])))++O) l4 c v4 o9 m9.lt) rfl m9 fun H4 H5 g9 k2 k3 v6=>(?_)))))))))
 obtain rfl:=v6
 have b4:=b4.mv k2
 have b0:=b0.mv k2
 have b3:=b3.mv k2
 have a0:=a0.keep k3 (by simp)
 have a7:=a7.keep k3 (by simp)
 have a3:=a3.keep k3 (by simp)
 refine AA (AD (vI (AP c)) rfl (AG (AB (AF (AC kR (AA (AE (vI (AP c)) rfl (AA (CM .i64 (AP c) (0:Int) rfl rfl (AG (AB (AJ ((AP c) != (0:Int)) rfl rfl (fun h9=>?_) (fun h9=>?_)))))))))))))
 ·have E2:AP c≠(0:Int):=by simpa using h9
  refine AF (AC kR (AA (BS (vs:=[vI 0,vI 0,vI 0,nS,nS]) U25_ rfl BM rfl a7 rfl (AA (AE (vI (AP c)) rfl (CC (BF (vs:=[vI 0,vI 0,vI 0,nS,nS]) (.agg #[vI 0,vI 0,vI 0,nS,nS]) rfl rfl rfl BM (fun u hu=>by simp only [List.mem_cons,List.not_mem_nil,or_false] at hu;rcases hu with rfl|rfl|rfl|rfl|rfl <;> rfl) (by repeat (constructor)) a7 oT g9 fun H6 v7 H7 n3 i0=>(?_))))))))
  have a0:=a0.keep n3 (BH c3)
  have a3:=a3.keep n3 (BH (Ne.symm b9))
  refine CC (CN (vI (AP c)) rfl rfl rfl TK (by repeat (constructor)) a3 oT v7 fun H8 v8 H9 n4 p0=>(?_))
  have a0:=a0.keep n4 (BH c4)
  have i0:=i0.keep n4 (BH b9)
  refine AG (AB (AM (AI (TB rfl (FE rfl (EZ (vs:=[vI 0,vI 0,vI 0,nS,nS]) rfl U25_ rfl BM rfl i0 rfl) (OV rfl U30_ rfl rfl p0 rfl)) (EH (AA (AO (vA #[vI 0,vI 0,vI 0,nS,nS]) rfl rfl (AA (AO (vI (AP c)) rfl rfl (CC (BF (vs:=[vI 0,vI 0,vI 0,nS,nS]) (.agg #[vI 0,vI 0,vI 0,nS,nS]) rfl rfl rfl BM (fun u hu=>by simp only [List.mem_cons,List.not_mem_nil,or_false] at hu;rcases hu with rfl|rfl|rfl|rfl|rfl <;> rfl) (by repeat (constructor)) a0 oT v8 fun I0 v9 I1 I2 p1=>(AA (AD (vI (AP c)) rfl (AG (AB (AM (AS rfl (FE rfl (EZ (vs:=[vI 0,vI 0,vI 0,nS,nS]) rfl U25_ rfl BM rfl p1 rfl) (EI rfl rfl)) (?_))))))))))))))))))
  have w0:((CT c no (CF c day)).1)=(⟨(0:Int),(0:Int),(0:Int),[],[]⟩:Circle):=by exact congrArg (fun p=>p.1) (show CT c no (CF c day)=_ from fin_bad aS)
  have w2:((CT c no (CF c day)).2)=(AP c):=by exact congrArg (fun p=>p.2) (show CT c no (CF c day)=_ from fin_bad aS)
  exact ⟨_,rfl,v9.keep,by rw [w0,w2];exact ⟨[vI 0,vI 0,vI 0,nS,nS],rfl,Enc.out (B:=(a5 :: (a4 :: (a8 :: [])))) ⟨.slice none 0 0, .slice none 0 0,rfl,(BB.nil _ _ _),(BB.nil _ _ _)⟩⟩⟩
 have p2:AP c=(0:Int):=by simpa using h9
 have hok:AP c=0:=p2
 have hrl:=recs_le hok
 refine AR (AB (AF (AF (AC kR (AA (AE (vI no) rfl (AA (DQ .i64 no (0:Int) rfl rfl (AA (AE (vO (decide (no<(0:Int)))) rfl (?_)))))))))))
 cases l5:(decide (no<(0:Int)))
 ·have E3:(0:Int)≤no:=by simpa using l5
  refine AW rfl (AE (vI no) rfl (AW rfl (AY 4 DL (c.recs) rfl b3 (fun _ _ _ h=>BX h) fun I3 p3=>(AW rfl (BL U23_ rfl rfl p3 fun I4 l6=>(?_))))))
  have:=l6.len_le
  refine AW rfl (BP U23_ rfl l6 (AW rfl (JZ .i64 no (c.recs.length:Int) rfl rfl (AA (BA (vO (decide ((c.recs.length:Int)≤no))) rfl rfl (AG (AB (AJ (decide ((c.recs.length:Int)≤no)) rfl rfl (fun i1=>?_) (fun i1=>?_)))))))))
  ·have E4:(c.recs.length:Int)≤no:=by simpa using i1
   refine AF (AC kR (AA (BS (vs:=[vI 0,vI 0,vI 0,nS,nS]) U25_ rfl BM rfl a7 rfl (CC (BF (vs:=[vI 0,vI 0,vI 0,nS,nS]) (.agg #[vI 0,vI 0,vI 0,nS,nS]) rfl rfl rfl BM (fun u hu=>by simp only [List.mem_cons,List.not_mem_nil,or_false] at hu;rcases hu with rfl|rfl|rfl|rfl|rfl <;> rfl) (by repeat (constructor)) a7 oT g9 fun I5 w3 I6 n5 i2=>(?_))))))
   have a0:=a0.keep n5 (BH c3)
   have a3:=a3.keep n5 (BH (Ne.symm b9))
   refine CC (CN (vI 1) rfl rfl rfl TK (by repeat (constructor)) a3 oT w3 fun I7 w4 I8 n6 p4=>(?_))
   have a0:=a0.keep n6 (BH c4)
   have i2:=i2.keep n6 (BH b9)
   refine AG (AB (AM (AI (TB rfl (FE rfl (EZ (vs:=[vI 0,vI 0,vI 0,nS,nS]) rfl U25_ rfl BM rfl i2 rfl) (OV rfl U30_ rfl rfl p4 rfl)) (EH (AA (AO (vA #[vI 0,vI 0,vI 0,nS,nS]) rfl rfl (AA (AO (vI 1) rfl rfl (CC (BF (vs:=[vI 0,vI 0,vI 0,nS,nS]) (.agg #[vI 0,vI 0,vI 0,nS,nS]) rfl rfl rfl BM (fun u hu=>by simp only [List.mem_cons,List.not_mem_nil,or_false] at hu;rcases hu with rfl|rfl|rfl|rfl|rfl <;> rfl) (by repeat (constructor)) a0 oT w4 fun I9 w5 J0 J1 p5=>(AA (AD (vI 1) rfl (AG (AB (AM (AS rfl (FE rfl (EZ (vs:=[vI 0,vI 0,vI 0,nS,nS]) rfl U25_ rfl BM rfl p5 rfl) (EI rfl rfl)) (?_))))))))))))))))))
   have w6:((CT c no (CF c day)).1)=(⟨(0:Int),(0:Int),(0:Int),[],[]⟩:Circle):=by exact congrArg (fun p=>p.1) (show CT c no (CF c day)=_ from fin_no hok oM)
   have w7:((CT c no (CF c day)).2)=(1:Int):=by exact congrArg (fun p=>p.2) (show CT c no (CF c day)=_ from fin_no hok oM)
   exact ⟨_,rfl,w5.keep,by rw [w6,w7];exact ⟨[vI 0,vI 0,vI 0,nS,nS],rfl,Enc.out (B:=(a5 :: (a4 :: (a8 :: [])))) ⟨.slice none 0 0, .slice none 0 0,rfl,(BB.nil _ _ _),(BB.nil _ _ _)⟩⟩⟩
  have E5:no<(c.recs.length:Int):=by simpa using i1
  refine AR (AB (AF (cw_defer [vP (some ⟨a4,0,none⟩),vP (some ⟨a5,0,none⟩)] rfl rfl rfl rfl (AB (AF (AC kR (AA (AY 4 DL (c.recs) rfl b3 (fun _ _ _ h=>BX h) fun J2 p6=>(AA (BL U23_ rfl rfl p6 fun J3 l7=>(?_)))))))))))
  have:=l7.len_le
  refine AA (AE (vI no) rfl (AA (CR U23_ GM .i64 no no.toNat rfl rfl oM l7 oM fun J4 p7=>(AA (CJ U59_ rfl GM rfl p7 fun E6 p8=>(?_))))))
  obtain ⟨d3,d4,rfl,b1,b2⟩:=p8
  have:=b1.len_le
  have:=b2.len_le
  refine AA (EG (l:=[(0, .tmp 31)]) pl_74 z_74 rfl [(0,vA #[vI ((c.recs[no.toNat]!).no),vI ((c.recs[no.toNat]!).asked),vI ((c.recs[no.toNat]!).state),d3,d4],[vI ((c.recs[no.toNat]!).no),vI ((c.recs[no.toNat]!).asked),vI ((c.recs[no.toNat]!).state),d3,d4])] [vI ((c.recs[no.toNat]!).no),vI ((c.recs[no.toNat]!).asked),vI ((c.recs[no.toNat]!).state),d3,d4] rfl ⟨_,rfl,rfl,oT,rfl⟩ (AA (o_box (vA #[vI ((c.recs[no.toNat]!).no),vI ((c.recs[no.toNat]!).asked),vI ((c.recs[no.toNat]!).state),d3,d4]) [vI ((c.recs[no.toNat]!).no),vI ((c.recs[no.toNat]!).asked),vI ((c.recs[no.toNat]!).state),d3,d4] rfl rfl g9 fun a1 J5 w8 w9 f0 k4 b5=>(?_))))
  have p9:HD a8 a1:=by show a8≠a1;have:=a0.lt;omega
  have i3:HD a4 a1:=by show a4≠a1;have:=a7.lt;omega
  have q0:HD a5 a1:=by show a5≠a1;have:=a3.lt;omega
  clear w8
  have b4:=b4.mv f0
  have b0:=b0.mv f0
  have b3:=b3.mv f0
  have b1:=b1.mv f0
  have b2:=b2.mv f0
  have a0:=a0.keep k4 (by simp)
  have a7:=a7.keep k4 (by simp)
  have a3:=a3.keep k4 (by simp)
  refine AA (AD (vP (some ⟨a1,0,none⟩)) rfl (AG (AB (AF (AC kR (AA (AE (vN (.func 49) #[] #[vP (some c2),vP (some c1)]) rfl (AA (AE (vP (some ⟨a1,0,none⟩)) rfl (AA (LE [] [vP (some c2),vP (some c1)] [vP (some ⟨a1,0,none⟩)] enter_49 rfl rfl (CE 11 Tryz.func49 rfl rfl oT (fun J6=>AF (AC kR (AA (o_box (vP (some ⟨a1,0,none⟩)) [vP (some ⟨a1,0,none⟩)] rfl rfl w9 fun a2 J7 x1 x2 f1 h0 a6=>(?_)))))))))))))))))
  have E7:HD a8 a2:=by show a8≠a2;have:=a0.lt;omega
  have q1:HD a4 a2:=by show a4≠a2;have:=a7.lt;omega
  have E8:HD a5 a2:=by show a5≠a2;have:=a3.lt;omega
  have q2:HD a1 a2:=by show a1≠a2;have:=b5.lt;omega
  clear x1
  have b4:=b4.mv f1
  have b0:=b0.mv f1
  have b3:=b3.mv f1
  have b1:=b1.mv f1
  have b2:=b2.mv f1
  have a0:=a0.keep h0 (by simp)
  have a7:=a7.keep h0 (by simp)
  have a3:=a3.keep h0 (by simp)
  have b5:=b5.keep h0 (by simp)
  refine AG (AB (AC kR (AA (AU U65_ rfl (vP (some ⟨a1,0,none⟩)) rfl a6 rfl (AA (VE x2 fun a9 J8 x3 x4 f2 f3 q3=>(?_)))))))
  have i4:HD a8 a9:=by show a8≠a9;have:=a0.lt;omega
  have f4:HD a4 a9:=by show a4≠a9;have:=a7.lt;omega
  have i5:HD a5 a9:=by show a5≠a9;have:=a3.lt;omega
  have f5:HD a1 a9:=by show a1≠a9;have:=b5.lt;omega
  have i6:HD a2 a9:=by show a2≠a9;have:=a6.lt;omega
  clear x3
  have b4:=b4.mv f2
  have b0:=b0.mv f2
  have b3:=b3.mv f2
  have b1:=b1.mv f2
  have b2:=b2.mv f2
  have a0:=a0.keep f3 (by simp)
  have a7:=a7.keep f3 (by simp)
  have a3:=a3.keep f3 (by simp)
  have b5:=b5.keep f3 (by simp)
  have a6:=a6.keep f3 (by simp)
  refine AA (DV (first:=[]) (captured:=[.tmp 3]) [] [vP (some ⟨a2,0,none⟩)] rfl rfl (CC (LU U70_ U3_ rfl rfl rfl q3 (by repeat (constructor)) x4 rfl fun J9 x5 f6 f7 q4=>(?_))))
  have b4:=b4.mv f6
  have b0:=b0.mv f6
  have b3:=b3.mv f6
  have b1:=b1.mv f6
  have b2:=b2.mv f6
  have a0:=a0.keep f7 (BH i4)
  have a7:=a7.keep f7 (BH f4)
  have a3:=a3.keep f7 (BH i5)
  have b5:=b5.keep f7 (BH f5)
  have a6:=a6.keep f7 (BH i6)
  refine AA (DV (first:=[]) (captured:=[.tmp 3]) [] [vP (some ⟨a2,0,none⟩)] rfl rfl (CC (LU U70_ U3_ rfl rfl rfl q4 (by repeat (constructor)) x5 rfl fun K0 x6 f8 f9 q5=>(?_))))
  have b4:=b4.mv f8
  have b0:=b0.mv f8
  have b3:=b3.mv f8
  have b1:=b1.mv f8
  have b2:=b2.mv f8
  have a0:=a0.keep f9 (BH i4)
  have a7:=a7.keep f9 (BH f4)
  have a3:=a3.keep f9 (BH i5)
  have b5:=b5.keep f9 (BH f5)
  have a6:=a6.keep f9 (BH i6)
  refine AA (DV (first:=[]) (captured:=[.tmp 3, .tmp 1, .tmp 2]) [] [vP (some ⟨a2,0,none⟩),vP (some c2),vP (some c1)] rfl rfl (CC (LU U70_ U3_ rfl rfl rfl q5 (by repeat (constructor)) x6 rfl fun g0 h1 g1 g2 b7=>(?_))))
  have b4:=b4.mv g1
  have b0:=b0.mv g1
  have b3:=b3.mv g1
  have b1:=b1.mv g1
  have b2:=b2.mv g1
  have a0:=a0.keep g2 (BH i4)
  have a7:=a7.keep g2 (BH f4)
  have a3:=a3.keep g2 (BH i5)
  have b5:=b5.keep g2 (BH f5)
  have a6:=a6.keep g2 (BH i6)
  refine AA (AE (Value.map (some a9)) rfl (AA (IS [vP (some ⟨a1,0,none⟩),Value.map (some a9)] enter_42 rfl (CE 19 Tryz.func42 rfl rfl oT (fun K1=>AF (AC kR (AA (AE (Value.map (some a9)) rfl (AA (AE (vP (some ⟨a1,0,none⟩)) rfl (AA (FU ⟨a1,0,none⟩ rfl (AA (AT 0 KR rfl (AA (AT 2 HN rfl (AA (AU U3_ rfl (vI ((c.recs[no.toNat]!).state)) rfl b5 rfl (?_)))))))))))))))))))
  rcases (TT hok oM oM:(c.recs[no.toNat]!).state=0∨(c.recs[no.toNat]!).state=1∨(c.recs[no.toNat]!).state=2) with e3|e3|e3
  ·refine AA (LS (k:=0) (vN (.func 52) #[] #[vP (some ⟨a2,0,none⟩),vP (some c2),vP (some c1)]) U70_ U3_ rfl (congrArg vI e3) b7 rfl (AA (AE (vT #[vN (.func 52) #[] #[vP (some ⟨a2,0,none⟩),vP (some c2),vP (some c1)],vO true]) rfl (AA (AO (vN (.func 52) #[] #[vP (some ⟨a2,0,none⟩),vP (some c2),vP (some c1)]) rfl rfl (AA (AO (vO true) rfl rfl (AA (AD (vN (.func 52) #[] #[vP (some ⟨a2,0,none⟩),vP (some c2),vP (some c1)]) rfl (AA (AD (vO true) rfl (AG (AB (AF (AC kR (AA (AE (vO true) rfl (AG (AB (AJ true rfl rfl (fun _=>AC kR (AA (AE (vN (.func 52) #[] #[vP (some ⟨a2,0,none⟩),vP (some c2),vP (some c1)]) rfl (AA (LE [] [vP (some ⟨a2,0,none⟩),vP (some c2),vP (some c1)] [] enter_52 rfl rfl (CE 28 Tryz.func52 rfl rfl oT (fun K2=>AF (cw_draw' 3 _ _ [CQ (vP (some ⟨a1,0,none⟩)),CQ (vI day),CQ (vO (DC day (0:Int)))] kR kR kR kR rfl rfl ⟨kI,kI,kI,trivial⟩ ⟨?_,?_,?_,trivial⟩ ?_)))))))) (fun h=>by cases h)))))))))))))))))))))
   ·intro F1 w1 k1 hf hd
    have k0:=(Keep.drew [] g0).trans k1
    have a6:=a6.keep k0 (by simp)
    obtain ⟨F2,rfl⟩:=AK (F:=F1) [(0,vP (some ⟨a2,0,none⟩))] ⟨hf 0 kR,trivial⟩
    exact AH rfl ((AU U65_ rfl (vP (some ⟨a1,0,none⟩)) rfl a6 rfl (⟨(Keep.refl _ _),rfl⟩)))
   ·intro F1 w1 k1 hf hd
    have k0:=(Keep.drew [] g0).trans k1
    have m1:Mv (a9 :: (a2 :: (a1 :: (a5 :: (a4 :: (a8 :: [])))))) g0 (a9 :: (a2 :: (a1 :: (a5 :: (a4 :: (a8 :: [])))))) w1:=Mv.of_keep k0
    have b4:=b4.mv m1
    obtain ⟨F2,rfl⟩:=AK (F:=F1) [(1,vP (some c2))] ⟨hf 1 kR,trivial⟩
    exact AH rfl ((BK U3_ rfl rfl b4 (⟨(Keep.refl _ _),rfl⟩)))
   ·intro F1 w1 k1 hf hd
    have k0:=(Keep.drew [] g0).trans k1
    have s1:=h1.call k0
    obtain ⟨F2,rfl⟩:=AK (F:=F1) [(4,vI day)] ⟨hd 1 4 kR,trivial⟩
    refine AH rfl ((AZ (vs:=[vI day,vI 0]) NO (QK (O:=(a9 :: (a2 :: (a1 :: (a5 :: (a4 :: (a8 :: []))))))++O) day (0:Int) w1 s1.lt) rfl s1 fun K3 K4 K5 K6 x7 x8=>(?_)))
    obtain rfl:=x8
    exact ⟨x7,rfl⟩
   intro x9 d5 d6 i7 e4
   have k5:=h1.call d6
   have g3:Mv (a9 :: (a2 :: (a1 :: (a5 :: (a4 :: (a8 :: [])))))) g0 (a9 :: (a2 :: (a1 :: (a5 :: (a4 :: (a8 :: [])))))) d5:=Mv.of_keep d6
   have b4:=b4.mv g3
   have b0:=b0.mv g3
   have b3:=b3.mv g3
   have b1:=b1.mv g3
   have b2:=b2.mv g3
   have a0:=a0.keep d6 (by simp)
   have a7:=a7.keep d6 (by simp)
   have a3:=a3.keep d6 (by simp)
   have b5:=b5.keep d6 (by simp)
   have a6:=a6.keep d6 (by simp)
   have b7:=b7.keep d6 (by simp)
   obtain ⟨F2,rfl⟩:=AK (F:=x9) [(0,vP (some ⟨a2,0,none⟩)),(1,vP (some c2)),(2,vP (some c1)),(28,undef),(3,vP (some ⟨a1,0,none⟩)),(5,vO (DC day (0:Int)))] ⟨e4 0 kR,e4 1 kR,e4 2 kR,e4 28 kR,i7 0 3 kR (by decide),i7 2 5 kR (by decide),trivial⟩
   clear i7 e4
   refine AA (IS [vP (some ⟨a1,0,none⟩),vO (DC day (0:Int)),vI 1] LB rfl (CE 11 Tryz.func44 rfl rfl oT (fun K7=>AF (AC kR (AA (AE (vO (DC day (0:Int))) rfl (AA (EU (DC day (0:Int)) rfl (AG (AB (AJ (!(DC day (0:Int))) rfl rfl (fun i8=>?_) (fun i8=>?_))))))))))))
   ·have E9:(DC day (0:Int))=false:=by simpa using i8
    refine AC kR (AA (AE (vI 1) rfl (AA (EG (l:=[(0, .tmp 8)]) PS RV rfl [(0,vI 1,[vI 1])] [vI 1] rfl ⟨_,rfl,rfl,oT,rfl⟩ (AA (MJ (vA #[vI 1]) U103_ rfl rfl (CC (ML rfl (GO rfl (FA (JI (GO rfl (FA (GO rfl (FA (GO rfl (FA (JI (MO (JR [vP (some ⟨a4,0,none⟩),vP (some ⟨a5,0,none⟩)] (.panicking [{ v:=Value.iface 103 (vA #[vI 1]),recovered:=false }]) rfl (fun h=>by cases h) rfl IG (OY (1:Int) a4 a5 k5 a7 a3 (by repeat (constructor)) (by repeat (constructor)) b9) (fun e_ K8 hR_=>?_)))))))))))))))))))))
    obtain ⟨v_,rfl,y0,K9,y1,q6,q7⟩:=hR_
    have a0:=a0.keep y1 (nin2 c3 c4)
    refine Exists.intro _ (And.intro (FE rfl (EZ (vs:=[vI 0,vI 0,vI 0,nS,nS]) rfl U25_ rfl BM rfl q6 rfl) (OV rfl U30_ rfl rfl q7 rfl)) (EH (AA (AO (vA #[vI 0,vI 0,vI 0,nS,nS]) rfl rfl (AA (AO (vI 1) rfl rfl (CC (BF (vs:=[vI 0,vI 0,vI 0,nS,nS]) (.agg #[vI 0,vI 0,vI 0,nS,nS]) rfl rfl rfl BM (fun u hu=>by simp only [List.mem_cons,List.not_mem_nil,or_false] at hu;rcases hu with rfl|rfl|rfl|rfl|rfl <;> rfl) (by repeat (constructor)) a0 oT y0 fun L0 y2 L1 L2 q8=>(AA (AD (vI 1) rfl (AG (AB (AM (AS rfl (FE rfl (EZ (vs:=[vI 0,vI 0,vI 0,nS,nS]) rfl U25_ rfl BM rfl q8 rfl) (EI rfl rfl)) (?_)))))))))))))))
    have y3:((CT c no (CF c day)).1)=(⟨(0:Int),(0:Int),(0:Int),[],[]⟩:Circle):=by exact congrArg (fun p=>p.1) (show CT c no (CF c day)=_ from fin_day hok oM oM aS aS)
    have y4:((CT c no (CF c day)).2)=(1:Int):=by exact congrArg (fun p=>p.2) (show CT c no (CF c day)=_ from fin_day hok oM oM aS aS)
    exact ⟨_,rfl,y2.keep,by rw [y3,y4];exact ⟨[vI 0,vI 0,vI 0,nS,nS],rfl,Enc.out (B:=(a9 :: (a2 :: (a1 :: (a5 :: (a4 :: (a8 :: []))))))) ⟨.slice none 0 0, .slice none 0 0,rfl,(BB.nil _ _ _),(BB.nil _ _ _)⟩⟩⟩
   have F3:(DC day (0:Int))=true:=by simpa using i8
   refine AR (HL rfl (KL rfl) (EH (AG (AB (AF (cw_draw' 4 _ _ [CQ (vP (some ⟨a1,0,none⟩)),fun (vT:Value) (wT:World)=>∃ csT:List Value,vT = .agg csT.toArray∧Enc.circle.rd wT ((a9 :: (a2 :: (a1 :: (a5 :: (a4 :: (a8 :: []))))))++O) csT (c),CQ (vP (some ⟨a1,0,none⟩)),CQ (vO (MK c (c.recs[no.toNat]!)))] kR kR kR kR rfl rfl ⟨kI,fun _ _ _ ⟨a,e,h⟩ k=>⟨a,e,Enc.mv _ h (Mv.of_keep k)⟩,kI,kI,trivial⟩ ⟨?_,?_,?_,?_,trivial⟩ ?_))))))
   ·intro F1 w1 k1 hf hd
    have k0:=(Keep.drew [] d5).trans k1
    have a6:=a6.keep k0 (by simp)
    obtain ⟨F2,rfl⟩:=AK (F:=F1) [(0,vP (some ⟨a2,0,none⟩))] ⟨hf 0 kR,trivial⟩
    exact AH rfl ((AU U65_ rfl (vP (some ⟨a1,0,none⟩)) rfl a6 rfl (⟨(Keep.refl _ _),rfl⟩)))
   ·intro F1 w1 k1 hf hd
    have k0:=(Keep.drew [] d5).trans k1
    have m1:Mv (a9 :: (a2 :: (a1 :: (a5 :: (a4 :: (a8 :: [])))))) d5 (a9 :: (a2 :: (a1 :: (a5 :: (a4 :: (a8 :: [])))))) w1:=Mv.of_keep k0
    have b0:=b0.mv m1
    obtain ⟨F2,rfl⟩:=AK (F:=F1) [(2,vP (some c1))] ⟨hf 2 kR,trivial⟩
    exact AH rfl ((CJ U25_ rfl BM rfl b0 fun q9 r0=>(⟨(Keep.refl _ _),⟨q9,rfl,r0⟩⟩)))
   ·intro F1 w1 k1 hf hd
    have k0:=(Keep.drew [] d5).trans k1
    have a6:=a6.keep k0 (by simp)
    obtain ⟨F2,rfl⟩:=AK (F:=F1) [(0,vP (some ⟨a2,0,none⟩))] ⟨hf 0 kR,trivial⟩
    exact AH rfl ((AU U65_ rfl (vP (some ⟨a1,0,none⟩)) rfl a6 rfl (⟨(Keep.refl _ _),rfl⟩)))
   ·intro F1 w1 k1 hf hd
    have k0:=(Keep.drew [] d5).trans k1
    have s1:=k5.call k0
    have m1:Mv (a9 :: (a2 :: (a1 :: (a5 :: (a4 :: (a8 :: [])))))) d5 (a9 :: (a2 :: (a1 :: (a5 :: (a4 :: (a8 :: [])))))) w1:=Mv.of_keep k0
    obtain ⟨i9,y5,r4⟩:∃ cs:List Value,F1 8 = .agg cs.toArray∧Enc.circle.rd w1 ((a9 :: (a2 :: (a1 :: (a5 :: (a4 :: (a8 :: []))))))++O) cs (c):=hd 1 8 kR
    have b5:=b5.keep k0 (by simp)
    have b1:=b1.mv m1
    have b2:=b2.mv m1
    obtain ⟨F2,rfl⟩:=AK (F:=F1) [(8,vA i9.toArray),(9,vP (some ⟨a1,0,none⟩))] ⟨y5,hd 2 9 kR,trivial⟩
    refine AH rfl ((AZ (vs:=[vA i9.toArray,vP (some ⟨a1,0,none⟩)]) enter_53 (c_approved (O:=[]) i9 c ⟨a1,0,none⟩ (c.recs[no.toNat]!) w1 (Enc.circle.sub r4 (fun _ h=>by cases h)) (PT.of_box b5 ⟨_,_,rfl,b1.rd0,b2.rd0⟩ (fun h=>by cases h)) NS) rfl s1 fun L3 L4 L5 L6 y6 y7=>(?_)))
    obtain rfl:=y7
    exact ⟨y6,rfl⟩
   intro y8 d0 d7 j0 e5
   have n7:=k5.call d7
   have g4:Mv (a9 :: (a2 :: (a1 :: (a5 :: (a4 :: (a8 :: [])))))) d5 (a9 :: (a2 :: (a1 :: (a5 :: (a4 :: (a8 :: [])))))) d0:=Mv.of_keep d7
   have b4:=b4.mv g4
   have b0:=b0.mv g4
   have b3:=b3.mv g4
   have b1:=b1.mv g4
   have b2:=b2.mv g4
   have a0:=a0.keep d7 (by simp)
   have a7:=a7.keep d7 (by simp)
   have a3:=a3.keep d7 (by simp)
   have b5:=b5.keep d7 (by simp)
   have a6:=a6.keep d7 (by simp)
   have b7:=b7.keep d7 (by simp)
   obtain ⟨F2,rfl⟩:=AK (F:=y8) [(0,vP (some ⟨a2,0,none⟩)),(1,vP (some c2)),(2,vP (some c1)),(28,undef),(7,vP (some ⟨a1,0,none⟩)),(10,vO (MK c (c.recs[no.toNat]!)))] ⟨e5 0 kR,e5 1 kR,e5 2 kR,e5 28 kR,j0 0 7 kR (by decide),j0 3 10 kR (by decide),trivial⟩
   clear j0 e5
   refine AA (IS [vP (some ⟨a1,0,none⟩),vO (MK c (c.recs[no.toNat]!)),vI 450] LB rfl (CE 11 Tryz.func44 rfl rfl oT (fun L7=>AF (AC kR (AA (AE (vO (MK c (c.recs[no.toNat]!))) rfl (AA (EU (MK c (c.recs[no.toNat]!)) rfl (AG (AB (AJ (!(MK c (c.recs[no.toNat]!))) rfl rfl (fun j1=>?_) (fun j1=>?_))))))))))))
   ·have F4:(MK c (c.recs[no.toNat]!))=false:=by simpa using j1
    refine AC kR (AA (AE (vI 450) rfl (AA (EG (l:=[(0, .tmp 8)]) PS RV rfl [(0,vI 450,[vI 450])] [vI 450] rfl ⟨_,rfl,rfl,oT,rfl⟩ (AA (MJ (vA #[vI 450]) U103_ rfl rfl (CC (ML rfl (GO rfl (FA (JI (GO rfl (FA (GO rfl (FA (GO rfl (FA (JI (MO (JR [vP (some ⟨a4,0,none⟩),vP (some ⟨a5,0,none⟩)] (.panicking [{ v:=Value.iface 103 (vA #[vI 450]),recovered:=false }]) rfl (fun h=>by cases h) rfl IG (OY (450:Int) a4 a5 n7 a7 a3 (by repeat (constructor)) (by repeat (constructor)) b9) (fun e_ L8 hR_=>?_)))))))))))))))))))))
    obtain ⟨v_,rfl,y9,L9,z0,r5,r6⟩:=hR_
    have a0:=a0.keep z0 (nin2 c3 c4)
    refine Exists.intro _ (And.intro (FE rfl (EZ (vs:=[vI 0,vI 0,vI 0,nS,nS]) rfl U25_ rfl BM rfl r5 rfl) (OV rfl U30_ rfl rfl r6 rfl)) (EH (AA (AO (vA #[vI 0,vI 0,vI 0,nS,nS]) rfl rfl (AA (AO (vI 450) rfl rfl (CC (BF (vs:=[vI 0,vI 0,vI 0,nS,nS]) (.agg #[vI 0,vI 0,vI 0,nS,nS]) rfl rfl rfl BM (fun u hu=>by simp only [List.mem_cons,List.not_mem_nil,or_false] at hu;rcases hu with rfl|rfl|rfl|rfl|rfl <;> rfl) (by repeat (constructor)) a0 oT y9 fun M0 z1 M1 M2 r7=>(AA (AD (vI 450) rfl (AG (AB (AM (AS rfl (FE rfl (EZ (vs:=[vI 0,vI 0,vI 0,nS,nS]) rfl U25_ rfl BM rfl r7 rfl) (EI rfl rfl)) (?_)))))))))))))))
    have z2:((CT c no (CF c day)).1)=(⟨(0:Int),(0:Int),(0:Int),[],[]⟩:Circle):=by exact congrArg (fun p=>p.1) (show CT c no (CF c day)=_ from fin_few hok oM oM aS aS aS)
    have z3:((CT c no (CF c day)).2)=(450:Int):=by exact congrArg (fun p=>p.2) (show CT c no (CF c day)=_ from fin_few hok oM oM aS aS aS)
    exact ⟨_,rfl,z1.keep,by rw [z2,z3];exact ⟨[vI 0,vI 0,vI 0,nS,nS],rfl,Enc.out (B:=(a9 :: (a2 :: (a1 :: (a5 :: (a4 :: (a8 :: []))))))) ⟨.slice none 0 0, .slice none 0 0,rfl,(BB.nil _ _ _),(BB.nil _ _ _)⟩⟩⟩
   have F5:(MK c (c.recs[no.toNat]!))=true:=by simpa using j1
   refine AR (HL rfl (KL rfl) (EH (AG (AB (AF (cw_draw' 11 _ _ [CQ (vP (some ⟨a1,0,none⟩)),CQ (vI day),CQ (vP (some ⟨a1,0,none⟩)),CQ (vP (some ⟨a1,0,none⟩)),CQ (vP (some ⟨a1,0,none⟩)),CQ (vP (some ⟨a1,1,none⟩)),CQ (vI ((c.recs[no.toNat]!).asked)),fun (vT:Value) (wT:World)=>∃ aT,vT = .pointer (some aT)∧PT Enc.int wT ((a9 :: (a2 :: (a1 :: (a5 :: (a4 :: (a8 :: []))))))++O) (.pointer (some aT)) (c.wait),CQ (vI c.wait),CQ (vI ((c.recs[no.toNat]!).asked+c.wait)),CQ (vO (decide ((c.recs[no.toNat]!).asked+c.wait≤day)))] kR kR kR kR rfl rfl ⟨kI,kI,kI,kI,kI,kI,kI,fun _ _ _ ⟨a,e,h⟩ k=>⟨a,e,h.mv (Mv.of_keep k)⟩,kI,kI,kI,trivial⟩ ⟨?_,?_,?_,?_,?_,?_,?_,?_,?_,?_,?_,trivial⟩ ?_))))))
   ·intro F1 w1 k1 hf hd
    have k0:=(Keep.drew [] d0).trans k1
    have a6:=a6.keep k0 (by simp)
    obtain ⟨F2,rfl⟩:=AK (F:=F1) [(0,vP (some ⟨a2,0,none⟩))] ⟨hf 0 kR,trivial⟩
    exact AH rfl ((AU U65_ rfl (vP (some ⟨a1,0,none⟩)) rfl a6 rfl (⟨(Keep.refl _ _),rfl⟩)))
   ·intro F1 w1 k1 hf hd
    have k0:=(Keep.drew [] d0).trans k1
    have m1:Mv (a9 :: (a2 :: (a1 :: (a5 :: (a4 :: (a8 :: [])))))) d0 (a9 :: (a2 :: (a1 :: (a5 :: (a4 :: (a8 :: [])))))) w1:=Mv.of_keep k0
    have b4:=b4.mv m1
    obtain ⟨F2,rfl⟩:=AK (F:=F1) [(1,vP (some c2))] ⟨hf 1 kR,trivial⟩
    exact AH rfl ((BK U3_ rfl rfl b4 (⟨(Keep.refl _ _),rfl⟩)))
   ·intro F1 w1 k1 hf hd
    have k0:=(Keep.drew [] d0).trans k1
    have a6:=a6.keep k0 (by simp)
    obtain ⟨F2,rfl⟩:=AK (F:=F1) [(0,vP (some ⟨a2,0,none⟩))] ⟨hf 0 kR,trivial⟩
    exact AH rfl ((AU U65_ rfl (vP (some ⟨a1,0,none⟩)) rfl a6 rfl (⟨(Keep.refl _ _),rfl⟩)))
   ·intro F1 w1 k1 hf hd
    obtain ⟨F2,rfl⟩:=AK (F:=F1) [(14,vP (some ⟨a1,0,none⟩))] ⟨hd 2 14 kR,trivial⟩
    exact AH rfl ((FU ⟨a1,0,none⟩ rfl (⟨(Keep.refl _ _),rfl⟩)))
   ·intro F1 w1 k1 hf hd
    obtain ⟨F2,rfl⟩:=AK (F:=F1) [(15,vP (some ⟨a1,0,none⟩))] ⟨hd 3 15 kR,trivial⟩
    exact AH rfl ((AT 0 KR rfl (⟨(Keep.refl _ _),rfl⟩)))
   ·intro F1 w1 k1 hf hd
    obtain ⟨F2,rfl⟩:=AK (F:=F1) [(16,vP (some ⟨a1,0,none⟩))] ⟨hd 4 16 kR,trivial⟩
    exact AH rfl ((AT 1 JD rfl (⟨(Keep.refl _ _),rfl⟩)))
   ·intro F1 w1 k1 hf hd
    have k0:=(Keep.drew [] d0).trans k1
    have b5:=b5.keep k0 (by simp)
    obtain ⟨F2,rfl⟩:=AK (F:=F1) [(17,vP (some ⟨a1,1,none⟩))] ⟨hd 5 17 kR,trivial⟩
    exact AH rfl ((AU U3_ rfl (vI ((c.recs[no.toNat]!).asked)) rfl b5 rfl (⟨(Keep.refl _ _),rfl⟩)))
   ·intro F1 w1 k1 hf hd
    have k0:=(Keep.drew [] d0).trans k1
    have m1:Mv (a9 :: (a2 :: (a1 :: (a5 :: (a4 :: (a8 :: [])))))) d0 (a9 :: (a2 :: (a1 :: (a5 :: (a4 :: (a8 :: [])))))) w1:=Mv.of_keep k0
    have b0:=b0.mv m1
    obtain ⟨F2,rfl⟩:=AK (F:=F1) [(2,vP (some c1))] ⟨hf 2 kR,trivial⟩
    exact AH rfl ((AY 2 TA (c.wait) rfl b0 (fun _ _ _ h=>IL h) fun z4 r8=>(⟨(Keep.refl _ _),⟨z4,rfl,r8⟩⟩)))
   ·intro F1 w1 k1 hf hd
    obtain ⟨z5,z6,r9⟩:∃ aX_,F1 19 = .pointer (some aX_)∧PT Enc.int w1 ((a9 :: (a2 :: (a1 :: (a5 :: (a4 :: (a8 :: []))))))++O) (.pointer (some aX_)) (c.wait):=hd 7 19 kR
    obtain ⟨F2,rfl⟩:=AK (F:=F1) [(19,vP (some z5))] ⟨z6,trivial⟩
    exact AH rfl ((BK U3_ rfl rfl r9 (⟨(Keep.refl _ _),rfl⟩)))
   ·intro F1 w1 k1 hf hd
    obtain ⟨F2,rfl⟩:=AK (F:=F1) [(18,vI ((c.recs[no.toNat]!).asked)),(20,vI c.wait)] ⟨hd 6 18 kR,hd 8 20 kR,trivial⟩
    exact AH rfl ((DF .i64 ((c.recs[no.toNat]!).asked) c.wait ((c.recs[no.toNat]!).asked+c.wait) rfl rfl (GA (by have:=act_bounds hok (no:=no) oM oM;omega) rfl) (⟨(Keep.refl _ _),rfl⟩)))
   ·intro F1 w1 k1 hf hd
    obtain ⟨F2,rfl⟩:=AK (F:=F1) [(13,vI day),(21,vI ((c.recs[no.toNat]!).asked+c.wait))] ⟨hd 1 13 kR,hd 9 21 kR,trivial⟩
    exact AH rfl ((JZ .i64 day ((c.recs[no.toNat]!).asked+c.wait) rfl rfl (⟨(Keep.refl _ _),rfl⟩)))
   intro z7 z8 d8 j2 j3
   have n9:=n7.call d8
   have k6:Mv (a9 :: (a2 :: (a1 :: (a5 :: (a4 :: (a8 :: [])))))) d0 (a9 :: (a2 :: (a1 :: (a5 :: (a4 :: (a8 :: [])))))) z8:=Mv.of_keep d8
   have b3:=b3.mv k6
   have b1:=b1.mv k6
   have b2:=b2.mv k6
   have a0:=a0.keep d8 (by simp)
   have a7:=a7.keep d8 (by simp)
   have a3:=a3.keep d8 (by simp)
   have b5:=b5.keep d8 (by simp)
   have a6:=a6.keep d8 (by simp)
   have b7:=b7.keep d8 (by simp)
   obtain ⟨F2,rfl⟩:=AK (F:=z7) [(0,vP (some ⟨a2,0,none⟩)),(28,undef),(12,vP (some ⟨a1,0,none⟩)),(22,vO (decide ((c.recs[no.toNat]!).asked+c.wait≤day)))] ⟨j3 0 kR,j3 28 kR,j2 0 12 kR (by decide),j2 10 22 kR (by decide),trivial⟩
   clear j2 j3
   refine AA (IS [vP (some ⟨a1,0,none⟩),vO (decide ((c.recs[no.toNat]!).asked+c.wait≤day)),vI 451] LB rfl (CE 11 Tryz.func44 rfl rfl oT (fun M3=>AF (AC kR (AA (AE (vO (decide ((c.recs[no.toNat]!).asked+c.wait≤day))) rfl (AA (EU (decide ((c.recs[no.toNat]!).asked+c.wait≤day)) rfl (AG (AB (AJ (!(decide ((c.recs[no.toNat]!).asked+c.wait≤day))) rfl rfl (fun j4=>?_) (fun j4=>?_))))))))))))
   ·have F6:day<(c.recs[no.toNat]!).asked+c.wait:=by simpa using j4
    refine AC kR (AA (AE (vI 451) rfl (AA (EG (l:=[(0, .tmp 8)]) PS RV rfl [(0,vI 451,[vI 451])] [vI 451] rfl ⟨_,rfl,rfl,oT,rfl⟩ (AA (MJ (vA #[vI 451]) U103_ rfl rfl (CC (ML rfl (GO rfl (FA (JI (GO rfl (FA (GO rfl (FA (GO rfl (FA (JI (MO (JR [vP (some ⟨a4,0,none⟩),vP (some ⟨a5,0,none⟩)] (.panicking [{ v:=Value.iface 103 (vA #[vI 451]),recovered:=false }]) rfl (fun h=>by cases h) rfl IG (OY (451:Int) a4 a5 n9 a7 a3 (by repeat (constructor)) (by repeat (constructor)) b9) (fun e_ M4 hR_=>?_)))))))))))))))))))))
    obtain ⟨v_,rfl,z9,M5,A0,s2,s3⟩:=hR_
    have a0:=a0.keep A0 (nin2 c3 c4)
    refine Exists.intro _ (And.intro (FE rfl (EZ (vs:=[vI 0,vI 0,vI 0,nS,nS]) rfl U25_ rfl BM rfl s2 rfl) (OV rfl U30_ rfl rfl s3 rfl)) (EH (AA (AO (vA #[vI 0,vI 0,vI 0,nS,nS]) rfl rfl (AA (AO (vI 451) rfl rfl (CC (BF (vs:=[vI 0,vI 0,vI 0,nS,nS]) (.agg #[vI 0,vI 0,vI 0,nS,nS]) rfl rfl rfl BM (fun u hu=>by simp only [List.mem_cons,List.not_mem_nil,or_false] at hu;rcases hu with rfl|rfl|rfl|rfl|rfl <;> rfl) (by repeat (constructor)) a0 oT z9 fun M6 A1 M7 M8 s4=>(AA (AD (vI 451) rfl (AG (AB (AM (AS rfl (FE rfl (EZ (vs:=[vI 0,vI 0,vI 0,nS,nS]) rfl U25_ rfl BM rfl s4 rfl) (EI rfl rfl)) (?_)))))))))))))))
    have A2:((CT c no (CF c day)).1)=(⟨(0:Int),(0:Int),(0:Int),[],[]⟩:Circle):=by exact congrArg (fun p=>p.1) (show CT c no (CF c day)=_ from fin_wait hok oM oM aS aS aS oM)
    have A3:((CT c no (CF c day)).2)=(451:Int):=by exact congrArg (fun p=>p.2) (show CT c no (CF c day)=_ from fin_wait hok oM oM aS aS aS oM)
    exact ⟨_,rfl,A1.keep,by rw [A2,A3];exact ⟨[vI 0,vI 0,vI 0,nS,nS],rfl,Enc.out (B:=(a9 :: (a2 :: (a1 :: (a5 :: (a4 :: (a8 :: []))))))) ⟨.slice none 0 0, .slice none 0 0,rfl,(BB.nil _ _ _),(BB.nil _ _ _)⟩⟩⟩
   have F7:(c.recs[no.toNat]!).asked+c.wait≤day:=by simpa using j4
   refine AR (HL rfl (KL rfl) (EH (AG (AB (AC kR (AA (AU U65_ rfl (vP (some ⟨a1,0,none⟩)) rfl a6 rfl (AA (FU ⟨a1,0,none⟩ rfl (AA (AT 0 KR rfl (AA (AT 2 HN rfl (CC (CN (vI 1) rfl rfl rfl MS (by repeat (constructor)) b5 oT n9 fun M9 A4 k7 g5 c0=>(?_))))))))))))))))
   have b3:=b3.mv k7
   have b1:=b1.mv k7
   have b2:=b2.mv k7
   have a0:=a0.keep g5 (BH p9)
   have a7:=a7.keep g5 (BH i3)
   have a3:=a3.keep g5 (BH q0)
   have a6:=a6.keep g5 (BH (Ne.symm q2))
   have b7:=b7.keep g5 (BH (Ne.symm f5))
   refine AG (HL rfl (KL rfl) (EH (AG (HL rfl (KL rfl) (EH (AG (HL rfl (KL rfl) (EH (AG (AB (AF (AC kR (AA (CJ U25_ rfl BM rfl b3 fun F8 s5=>(?_)))))))))))))))
   obtain ⟨c5,o0,rfl,b6,l8⟩:=s5
   have:=b6.len_le
   have:=l8.len_le
   refine CC (BF (vs:=[vI c.epoch,vI c.threshold,vI c.wait,c5,o0]) (.agg #[vI c.epoch,vI c.threshold,vI c.wait,c5,o0]) rfl rfl rfl BM (fun u hu=>by simp only [List.mem_cons,List.not_mem_nil,or_false] at hu;rcases hu with rfl|rfl|rfl|rfl|rfl <;> first|rfl|exact b6.oneCell|exact l8.oneCell) (by repeat (constructor)) a7 oT A4 fun N0 A5 h2 g6 d2=>(?_))
   have b3:=b3.mv h2
   have b1:=b1.mv h2
   have b2:=b2.mv h2
   have b6:=b6.mv h2
   have a0:=a0.keep g6 (BH c3)
   have a3:=a3.keep g6 (BH (Ne.symm b9))
   have c0:=c0.keep g6 (BH (Ne.symm i3))
   have a6:=a6.keep g6 (BH (Ne.symm q1))
   have b7:=b7.keep g6 (BH (Ne.symm f4))
   refine AG (AB (AF (AC kR (AA (AY 4 DL (c.recs) rfl b3 (fun _ _ _ h=>BX h) fun N1 s6=>(AA (BL U23_ rfl rfl s6 fun k8 e6=>(?_))))))))
   have:=e6.len_le
   refine AA (LM [k8] _ NL rfl (CE 8 Tryz.func39 rfl rfl oT (fun N2=>AF (AC kR (AA (AD (nS) rfl (AG (AB (AF (AF (AC kR (AA (AE (k8) rfl (AA (QL U23_ rfl rfl e6 oM (AG (AB (AJ false rfl rfl (fun h=>by cases h) (fun _=>AR (AB (AF (AC kR (AA (JL (E:=Enc.recovery) (xs:=[]) U23_ GM NA (by decide) [] [] [] rfl rfl rfl (Parts.nil _ _ _) oT A5 fun e2 A6 N3 A7 c8 A8 h3 e8 s7=>(?_)))))))))))))))))))))))) (fun _ _ h=>h))
   have l9:∀ b,e2.ownBlock=some b→b≠a8:=fun b hb=>by have:=a0.lt;rw [c8] at hb;cases hb;omega
   have m0:∀ b,e2.ownBlock=some b→b≠a4:=fun b hb=>by have:=d2.lt;rw [c8] at hb;cases hb;omega
   have m2:∀ b,e2.ownBlock=some b→b≠a5:=fun b hb=>by have:=a3.lt;rw [c8] at hb;cases hb;omega
   have m3:∀ b,e2.ownBlock=some b→b≠a1:=fun b hb=>by have:=c0.lt;rw [c8] at hb;cases hb;omega
   have s8:∀ b,e2.ownBlock=some b→b≠a2:=fun b hb=>by have:=a6.lt;rw [c8] at hb;cases hb;omega
   have s9:∀ b,e2.ownBlock=some b→b≠a9:=fun b hb=>by have:=b7.lt;rw [c8] at hb;cases hb;omega
   have t0:∀ b,e2.ownBlock=some b→b∈(A6 :: (a9 :: (a2 :: (a1 :: (a5 :: (a4 :: (a8 :: []))))))):=fun b hb=>by rw [c8] at hb;cases hb;simp
   clear A7 c8
   have e6:=e6.mv h3
   have b1:=b1.mv h3
   have b2:=b2.mv h3
   have b6:=b6.mv h3
   have a0:=a0.keep e8 (by simp)
   have d2:=d2.keep e8 (by simp)
   have a3:=a3.keep e8 (by simp)
   have c0:=c0.keep e8 (by simp)
   have a6:=a6.keep e8 (by simp)
   have b7:=b7.keep e8 (by simp)
   refine AA (AE (k8) rfl (AA (DS (E:=Enc.recovery) (l:=[]) (m:=c.recs) U23_ XJ rfl (by decide) rfl rfl s7 e6 (fun _ hb=>.inl hb) t0 (by simp;omega) (by simp [maxLen];omega) A8 fun b8 N4 d9 t2 e0 d1 A9 k9 h4 c9=>(?_))))
   rw [List.nil_append] at c9
   have m4:∀ b,b8.ownBlock=some b→b≠a8:=fun b hb=>by rcases e0 with e1|e1 <;> rw [e1] at hb <;> first|(cases hb;have:=a0.lt;omega)|(exact l9 b hb)
   have j5:∀ b,b8.ownBlock=some b→b≠a4:=fun b hb=>by rcases e0 with e1|e1 <;> rw [e1] at hb <;> first|(cases hb;have:=d2.lt;omega)|(exact m0 b hb)
   have m5:∀ b,b8.ownBlock=some b→b≠a5:=fun b hb=>by rcases e0 with e1|e1 <;> rw [e1] at hb <;> first|(cases hb;have:=a3.lt;omega)|(exact m2 b hb)
   have F9:∀ b,b8.ownBlock=some b→b≠a1:=fun b hb=>by rcases e0 with e1|e1 <;> rw [e1] at hb <;> first|(cases hb;have:=c0.lt;omega)|(exact m3 b hb)
   have G0:∀ b,b8.ownBlock=some b→b≠a2:=fun b hb=>by rcases e0 with e1|e1 <;> rw [e1] at hb <;> first|(cases hb;have:=a6.lt;omega)|(exact s8 b hb)
   have G1:∀ b,b8.ownBlock=some b→b≠a9:=fun b hb=>by rcases e0 with e1|e1 <;> rw [e1] at hb <;> first|(cases hb;have:=b7.lt;omega)|(exact s9 b hb)
   have D6:a8∈d9:=d1 a8 (by repeat (constructor))
   have D7:a4∈d9:=d1 a4 (by repeat (constructor))
   have D8:a5∈d9:=d1 a5 (by repeat (constructor))
   have D9:a1∈d9:=d1 a1 (by repeat (constructor))
   have E0:a2∈d9:=d1 a2 (by repeat (constructor))
   have E1:a9∈d9:=d1 a9 (by repeat (constructor))
   have b1:=b1.mv k9
   have b2:=b2.mv k9
   have b6:=b6.mv k9
   have a0:=a0.keep h4 (by simp only [Option.mem_toList];exact fun e=>absurd rfl (l9 _ e))
   have d2:=d2.keep h4 (by simp only [Option.mem_toList];exact fun e=>absurd rfl (m0 _ e))
   have a3:=a3.keep h4 (by simp only [Option.mem_toList];exact fun e=>absurd rfl (m2 _ e))
   have c0:=c0.keep h4 (by simp only [Option.mem_toList];exact fun e=>absurd rfl (m3 _ e))
   refine AA (AD (b8) rfl (AG (AB (AM (AS rfl (BZ rfl rfl rfl) (Exists.intro _ (And.intro rfl (AA (AT 4 DL rfl (CC (CN (b8) rfl rfl c9.oneCell s_23 (by repeat (assumption)) d2 oT A9 fun l0 B0 h5 h6 c6=>(?_))))))))))))
   have b1:=b1.mv h5
   have b2:=b2.mv h5
   have b6:=b6.mv h5
   have c9:=c9.mv h5 h6 (fun b hb=>BH (j5 b hb))
   have a0:=a0.keep h6 (BH c3)
   have a3:=a3.keep h6 (BH (Ne.symm b9))
   have c0:=c0.keep h6 (BH (Ne.symm i3))
   refine AG (AB (AF (cw_draw' 7 _ _ [CQ (vP (some ⟨a4,4,none⟩)),CQ b8,CQ (vI no),CQ (vP (some ⟨a1,0,none⟩)),CQ (vP (some ⟨a1,0,none⟩)),CQ (vP (some ⟨a1,0,none⟩)),CQ (vA #[vI ((c.recs[no.toNat]!).no),vI ((c.recs[no.toNat]!).asked),vI 1,d3,d4])] kR kR kR kR rfl rfl ⟨kI,kI,kI,kI,kI,kI,kI,trivial⟩ ⟨?_,?_,?_,?_,?_,?_,?_,trivial⟩ ?_)))
   ·intro F1 w1 k1 hf hd
    obtain ⟨F2,rfl⟩:=AK (F:=F1) [(6,vP (some ⟨a4,0,none⟩))] ⟨hf 6 kR,trivial⟩
    exact AH rfl ((AT 4 DL rfl (⟨(Keep.refl _ _),rfl⟩)))
   ·intro F1 w1 k1 hf hd
    have k0:=(Keep.drew [] l0).trans k1
    have c6:=c6.keep k0 (by simp)
    obtain ⟨F2,rfl⟩:=AK (F:=F1) [(42,vP (some ⟨a4,4,none⟩))] ⟨hd 0 42 kR,trivial⟩
    exact AH rfl ((AU U23_ rfl (b8) rfl c6 rfl (⟨(Keep.refl _ _),rfl⟩)))
   ·intro F1 w1 k1 hf hd
    obtain ⟨F2,rfl⟩:=AK (F:=F1) [(1,vI no)] ⟨hf 1 kR,trivial⟩
    exact AH rfl ((AE (vI no) rfl (⟨(Keep.refl _ _),rfl⟩)))
   ·intro F1 w1 k1 hf hd
    obtain ⟨F2,rfl⟩:=AK (F:=F1) [(9,vP (some ⟨a1,0,none⟩))] ⟨hf 9 kR,trivial⟩
    exact AH rfl ((AE (vP (some ⟨a1,0,none⟩)) rfl (⟨(Keep.refl _ _),rfl⟩)))
   ·intro F1 w1 k1 hf hd
    obtain ⟨F2,rfl⟩:=AK (F:=F1) [(45,vP (some ⟨a1,0,none⟩))] ⟨hd 3 45 kR,trivial⟩
    exact AH rfl ((FU ⟨a1,0,none⟩ rfl (⟨(Keep.refl _ _),rfl⟩)))
   ·intro F1 w1 k1 hf hd
    obtain ⟨F2,rfl⟩:=AK (F:=F1) [(46,vP (some ⟨a1,0,none⟩))] ⟨hd 4 46 kR,trivial⟩
    exact AH rfl ((AT 0 KR rfl (⟨(Keep.refl _ _),rfl⟩)))
   ·intro F1 w1 k1 hf hd
    have k0:=(Keep.drew [] l0).trans k1
    have c0:=c0.keep k0 (by simp)
    obtain ⟨F2,rfl⟩:=AK (F:=F1) [(47,vP (some ⟨a1,0,none⟩))] ⟨hd 5 47 kR,trivial⟩
    exact AH rfl ((BS (vs:=[vI ((c.recs[no.toNat]!).no),vI ((c.recs[no.toNat]!).asked),vI 1,d3,d4]) U59_ rfl GM rfl c0 rfl (⟨(Keep.refl _ _),rfl⟩)))
   intro B1 B2 e9 g7 g8
   have B3:=B0.call e9
   have h7:Mv d9 l0 d9 B2:=Mv.of_keep e9
   have b1:=b1.mv h7
   have b2:=b2.mv h7
   have b6:=b6.mv h7
   have c9:=c9.mv h7 e9 (by simp)
   have a0:=a0.keep e9 (by simp)
   have c6:=c6.keep e9 (by simp)
   have a3:=a3.keep e9 (by simp)
   obtain ⟨F2,rfl⟩:=AK (F:=B1) [(6,vP (some ⟨a4,0,none⟩)),(7,vP (some ⟨a5,0,none⟩)),(51, .tuple #[vN (.func 84) #[] #[vP (some ⟨a4,0,none⟩),vP (some ⟨a5,0,none⟩)]]),(43,b8),(44,vI no),(48,vA #[vI ((c.recs[no.toNat]!).no),vI ((c.recs[no.toNat]!).asked),vI 1,d3,d4])] ⟨g8 6 kR,g8 7 kR,g8 51 kR,g7 1 43 kR (by decide),g7 2 44 kR (by decide),g7 6 48 kR (by decide),trivial⟩
   clear g7 g8
   refine AA (GB U23_ GM .i64 no no.toNat rfl rfl oM c9 oM fun N5 e7=>(CC (PX (⟨(c.recs[no.toNat]!).no,(c.recs[no.toNat]!).asked,(1:Int),(c.recs[no.toNat]!).approved,(c.recs[no.toNat]!).vetoed⟩:Recovery) (by decide) GM rfl rfl c9 e7 (t2 _ e7) oM ⟨_,_,rfl,b1,b2⟩ B3 fun N6 B4 B5 l1 c7=>(?_))))
   have a0:=a0.keep l1 (by simp only [List.mem_singleton];exact fun e=>absurd e.symm (m4 _ e7))
   have b6:=b6.mv B5
   have c6:=c6.keep l1 (by simp only [List.mem_singleton];exact fun e=>absurd e.symm (j5 _ e7))
   have a3:=a3.keep l1 (by simp only [List.mem_singleton];exact fun e=>absurd e.symm (m5 _ e7))
   refine AG (AB (AF (AC kR (AA (BS (vs:=[vI c.epoch,vI c.threshold,vI c.wait,c5,b8]) U25_ rfl BM rfl c6 rfl (CC (BF (vs:=[vI c.epoch,vI c.threshold,vI c.wait,c5,b8]) (.agg #[vI c.epoch,vI c.threshold,vI c.wait,c5,b8]) rfl rfl rfl BM (fun u hu=>by simp only [List.mem_cons,List.not_mem_nil,or_false] at hu;rcases hu with rfl|rfl|rfl|rfl|rfl <;> first|rfl|exact b6.oneCell|exact c7.oneCell) (by repeat (assumption)) c6 oT B4 fun N7 B6 o1 l2 j6=>(?_))))))))
   have c7:=c7.mv o1 l2 (fun b hb=>BH (j5 b hb))
   have b6:=b6.mv o1
   have a0:=a0.keep l2 (BH c3)
   have a3:=a3.keep l2 (BH (Ne.symm b9))
   refine CC (CN (vI 0) rfl rfl rfl TK (by repeat (assumption)) a3 oT B6 fun N8 B7 o2 l3 t3=>(?_))
   have c7:=c7.mv o2 l3 (fun b hb=>BH (m5 b hb))
   have b6:=b6.mv o2
   have a0:=a0.keep l3 (BH c4)
   have j6:=j6.keep l3 (BH b9)
   refine AG (AB (AM (UM (PW [vP (some ⟨a4,0,none⟩),vP (some ⟨a5,0,none⟩)] 19 .returning rfl (fun h=>by cases h) rfl IG Tryz.func84 rfl rfl oT rfl rfl (fun N9=>AF (AC kR (AA (AE (Value.nilIface) rfl (AA (o_neqNil' U20_ rfl (AG (AB (AJ false rfl rfl (fun h=>by cases h) (fun _=>AR (HL rfl (KL rfl) (Exists.intro _ (And.intro (FE rfl (EZ (vs:=[vI c.epoch,vI c.threshold,vI c.wait,c5,b8]) rfl U25_ rfl BM rfl j6 rfl) (OV rfl U30_ rfl rfl t3 rfl)) (EH (AA (AO (vA #[vI c.epoch,vI c.threshold,vI c.wait,c5,b8]) rfl rfl (AA (AO (vI 0) rfl rfl (CC (BF (vs:=[vI c.epoch,vI c.threshold,vI c.wait,c5,b8]) (.agg #[vI c.epoch,vI c.threshold,vI c.wait,c5,b8]) rfl rfl rfl BM (fun u hu=>by simp only [List.mem_cons,List.not_mem_nil,or_false] at hu;rcases hu with rfl|rfl|rfl|rfl|rfl <;> first|rfl|exact b6.oneCell|exact c7.oneCell) (by repeat (assumption)) a0 oT B7 fun O0 o3 o4 B8 t4=>(?_)))))))))))))))))))))))))
   have b6:=b6.mv o4
   have c7:=c7.mv o4 B8 (fun b hb=>BH (m4 b hb))
   refine AA (AD (vI 0) rfl (AG (AB (AM (AS rfl (FE rfl (EZ (vs:=[vI c.epoch,vI c.threshold,vI c.wait,c5,b8]) rfl U25_ rfl BM rfl t4 rfl) (EI rfl rfl)) (?_))))))
   have B9:((CT c no (CF c day)).1)=(⟨c.epoch,c.threshold,c.wait,c.guardians,c.recs.set no.toNat (⟨(c.recs[no.toNat]!).no,(c.recs[no.toNat]!).asked,(1:Int),(c.recs[no.toNat]!).approved,(c.recs[no.toNat]!).vetoed⟩:Recovery)⟩:Circle):=by exact congrArg (fun p=>p.1) (show CT c no (CF c day)=_ from fin_open hok oM oM aS aS aS oM)
   have C0:((CT c no (CF c day)).2)=(0:Int):=by exact congrArg (fun p=>p.2) (show CT c no (CF c day)=_ from fin_open hok oM oM aS aS aS oM)
   exact ⟨_,rfl,o3.keep,by rw [B9,C0];exact ⟨[vI c.epoch,vI c.threshold,vI c.wait,c5,b8],rfl,⟨_,_,rfl,b6.out,(c7.pub o3)⟩⟩⟩
  ·refine AA (LS (k:=1) (vN (.func 51) #[] #[vP (some ⟨a2,0,none⟩)]) U70_ U3_ rfl (congrArg vI e3) b7 rfl (AA (AE (vT #[vN (.func 51) #[] #[vP (some ⟨a2,0,none⟩)],vO true]) rfl (AA (AO (vN (.func 51) #[] #[vP (some ⟨a2,0,none⟩)]) rfl rfl (AA (AO (vO true) rfl rfl (AA (AD (vN (.func 51) #[] #[vP (some ⟨a2,0,none⟩)]) rfl (AA (AD (vO true) rfl (AG (AB (AF (AC kR (AA (AE (vO true) rfl (AG (AB (AJ true rfl rfl (fun _=>AC kR (AA (AE (vN (.func 51) #[] #[vP (some ⟨a2,0,none⟩)]) rfl (AA (LE [] [vP (some ⟨a2,0,none⟩)] [] enter_51 rfl rfl (CE 3 Tryz.func51 rfl rfl oT (fun O1=>AC kR (AA (AU U65_ rfl (vP (some ⟨a1,0,none⟩)) rfl a6 rfl (AA (IS [vP (some ⟨a1,0,none⟩),vO false,vI 1] LB rfl (CE 11 Tryz.func44 rfl rfl oT (fun O2=>AF (AC kR (AA (AE (vO false) rfl (AA (EU false rfl (AG (AB (AJ true rfl rfl (fun _=>AC kR (AA (AE (vI 1) rfl (AA (EG (l:=[(0, .tmp 8)]) PS RV rfl [(0,vI 1,[vI 1])] [vI 1] rfl ⟨_,rfl,rfl,oT,rfl⟩ (AA (MJ (vA #[vI 1]) U103_ rfl rfl (CC (ML rfl (GO rfl (FA (GO rfl (FA (GO rfl (FA (GO rfl (FA (JI (MO (JR [vP (some ⟨a4,0,none⟩),vP (some ⟨a5,0,none⟩)] (.panicking [{ v:=Value.iface 103 (vA #[vI 1]),recovered:=false }]) rfl (fun h=>by cases h) rfl IG (OY (1:Int) a4 a5 h1 a7 a3 (by repeat (constructor)) (by repeat (constructor)) b9) (fun e_ O3 hR_=>?_))))))))))))))))))))) (fun h=>by cases h)))))))))))))))))))))) (fun h=>by cases h)))))))))))))))))))))
   obtain ⟨v_,rfl,C1,O4,C2,t5,t6⟩:=hR_
   have a0:=a0.keep C2 (nin2 c3 c4)
   refine Exists.intro _ (And.intro (FE rfl (EZ (vs:=[vI 0,vI 0,vI 0,nS,nS]) rfl U25_ rfl BM rfl t5 rfl) (OV rfl U30_ rfl rfl t6 rfl)) (EH (AA (AO (vA #[vI 0,vI 0,vI 0,nS,nS]) rfl rfl (AA (AO (vI 1) rfl rfl (CC (BF (vs:=[vI 0,vI 0,vI 0,nS,nS]) (.agg #[vI 0,vI 0,vI 0,nS,nS]) rfl rfl rfl BM (fun u hu=>by simp only [List.mem_cons,List.not_mem_nil,or_false] at hu;rcases hu with rfl|rfl|rfl|rfl|rfl <;> rfl) (by repeat (constructor)) a0 oT C1 fun O5 C3 O6 O7 t7=>(AA (AD (vI 1) rfl (AG (AB (AM (AS rfl (FE rfl (EZ (vs:=[vI 0,vI 0,vI 0,nS,nS]) rfl U25_ rfl BM rfl t7 rfl) (EI rfl rfl)) (?_)))))))))))))))
   have C4:((CT c no (CF c day)).1)=(⟨(0:Int),(0:Int),(0:Int),[],[]⟩:Circle):=by exact congrArg (fun p=>p.1) (show CT c no (CF c day)=_ from fin_done hok oM oM aS)
   have C5:((CT c no (CF c day)).2)=(1:Int):=by exact congrArg (fun p=>p.2) (show CT c no (CF c day)=_ from fin_done hok oM oM aS)
   exact ⟨_,rfl,C3.keep,by rw [C4,C5];exact ⟨[vI 0,vI 0,vI 0,nS,nS],rfl,Enc.out (B:=(a9 :: (a2 :: (a1 :: (a5 :: (a4 :: (a8 :: []))))))) ⟨.slice none 0 0, .slice none 0 0,rfl,(BB.nil _ _ _),(BB.nil _ _ _)⟩⟩⟩
  refine AA (LS (k:=2) (vN (.func 50) #[] #[vP (some ⟨a2,0,none⟩)]) U70_ U3_ rfl (congrArg vI e3) b7 rfl (AA (AE (vT #[vN (.func 50) #[] #[vP (some ⟨a2,0,none⟩)],vO true]) rfl (AA (AO (vN (.func 50) #[] #[vP (some ⟨a2,0,none⟩)]) rfl rfl (AA (AO (vO true) rfl rfl (AA (AD (vN (.func 50) #[] #[vP (some ⟨a2,0,none⟩)]) rfl (AA (AD (vO true) rfl (AG (AB (AF (AC kR (AA (AE (vO true) rfl (AG (AB (AJ true rfl rfl (fun _=>AC kR (AA (AE (vN (.func 50) #[] #[vP (some ⟨a2,0,none⟩)]) rfl (AA (LE [] [vP (some ⟨a2,0,none⟩)] [] enter_50 rfl rfl (CE 3 Tryz.func50 rfl rfl oT (fun O8=>AC kR (AA (AU U65_ rfl (vP (some ⟨a1,0,none⟩)) rfl a6 rfl (AA (IS [vP (some ⟨a1,0,none⟩),vO false,vI 452] LB rfl (CE 11 Tryz.func44 rfl rfl oT (fun O9=>AF (AC kR (AA (AE (vO false) rfl (AA (EU false rfl (AG (AB (AJ true rfl rfl (fun _=>AC kR (AA (AE (vI 452) rfl (AA (EG (l:=[(0, .tmp 8)]) PS RV rfl [(0,vI 452,[vI 452])] [vI 452] rfl ⟨_,rfl,rfl,oT,rfl⟩ (AA (MJ (vA #[vI 452]) U103_ rfl rfl (CC (ML rfl (GO rfl (FA (GO rfl (FA (GO rfl (FA (GO rfl (FA (JI (MO (JR [vP (some ⟨a4,0,none⟩),vP (some ⟨a5,0,none⟩)] (.panicking [{ v:=Value.iface 103 (vA #[vI 452]),recovered:=false }]) rfl (fun h=>by cases h) rfl IG (OY (452:Int) a4 a5 h1 a7 a3 (by repeat (constructor)) (by repeat (constructor)) b9) (fun e_ P0 hR_=>?_))))))))))))))))))))) (fun h=>by cases h)))))))))))))))))))))) (fun h=>by cases h)))))))))))))))))))))
  obtain ⟨v_,rfl,C6,P1,C7,t8,t9⟩:=hR_
  have a0:=a0.keep C7 (nin2 c3 c4)
  refine Exists.intro _ (And.intro (FE rfl (EZ (vs:=[vI 0,vI 0,vI 0,nS,nS]) rfl U25_ rfl BM rfl t8 rfl) (OV rfl U30_ rfl rfl t9 rfl)) (EH (AA (AO (vA #[vI 0,vI 0,vI 0,nS,nS]) rfl rfl (AA (AO (vI 452) rfl rfl (CC (BF (vs:=[vI 0,vI 0,vI 0,nS,nS]) (.agg #[vI 0,vI 0,vI 0,nS,nS]) rfl rfl rfl BM (fun u hu=>by simp only [List.mem_cons,List.not_mem_nil,or_false] at hu;rcases hu with rfl|rfl|rfl|rfl|rfl <;> rfl) (by repeat (constructor)) a0 oT C6 fun P2 C8 P3 P4 u0=>(AA (AD (vI 452) rfl (AG (AB (AM (AS rfl (FE rfl (EZ (vs:=[vI 0,vI 0,vI 0,nS,nS]) rfl U25_ rfl BM rfl u0 rfl) (EI rfl rfl)) (?_)))))))))))))))
  have C9:((CT c no (CF c day)).1)=(⟨(0:Int),(0:Int),(0:Int),[],[]⟩:Circle):=by exact congrArg (fun p=>p.1) (show CT c no (CF c day)=_ from fin_dead hok oM oM aS)
  have D0:((CT c no (CF c day)).2)=(452:Int):=by exact congrArg (fun p=>p.2) (show CT c no (CF c day)=_ from fin_dead hok oM oM aS)
  exact ⟨_,rfl,C8.keep,by rw [C9,D0];exact ⟨[vI 0,vI 0,vI 0,nS,nS],rfl,Enc.out (B:=(a9 :: (a2 :: (a1 :: (a5 :: (a4 :: (a8 :: []))))))) ⟨.slice none 0 0, .slice none 0 0,rfl,(BB.nil _ _ _),(BB.nil _ _ _)⟩⟩⟩
 have G2:no<(0:Int):=by simpa using l5
 refine AL rfl (AL rfl (AL rfl (AL rfl (AL rfl (AA (AQ (vO true) rfl rfl (AG (AB (AJ true rfl rfl (fun _=>AF (AC kR (AA (BS (vs:=[vI 0,vI 0,vI 0,nS,nS]) U25_ rfl BM rfl a7 rfl (CC (BF (vs:=[vI 0,vI 0,vI 0,nS,nS]) (.agg #[vI 0,vI 0,vI 0,nS,nS]) rfl rfl rfl BM (fun u hu=>by simp only [List.mem_cons,List.not_mem_nil,or_false] at hu;rcases hu with rfl|rfl|rfl|rfl|rfl <;> rfl) (by repeat (constructor)) a7 oT g9 fun P5 D1 P6 o5 j7=>(?_))))))) (fun h=>by cases h))))))))))
 have a0:=a0.keep o5 (BH c3)
 have a3:=a3.keep o5 (BH (Ne.symm b9))
 refine CC (CN (vI 1) rfl rfl rfl TK (by repeat (constructor)) a3 oT D1 fun P7 D2 P8 o6 u1=>(?_))
 have a0:=a0.keep o6 (BH c4)
 have j7:=j7.keep o6 (BH b9)
 refine AG (AB (AM (AI (TB rfl (FE rfl (EZ (vs:=[vI 0,vI 0,vI 0,nS,nS]) rfl U25_ rfl BM rfl j7 rfl) (OV rfl U30_ rfl rfl u1 rfl)) (EH (AA (AO (vA #[vI 0,vI 0,vI 0,nS,nS]) rfl rfl (AA (AO (vI 1) rfl rfl (CC (BF (vs:=[vI 0,vI 0,vI 0,nS,nS]) (.agg #[vI 0,vI 0,vI 0,nS,nS]) rfl rfl rfl BM (fun u hu=>by simp only [List.mem_cons,List.not_mem_nil,or_false] at hu;rcases hu with rfl|rfl|rfl|rfl|rfl <;> rfl) (by repeat (constructor)) a0 oT D2 fun P9 D3 Q0 Q1 u2=>(AA (AD (vI 1) rfl (AG (AB (AM (AS rfl (FE rfl (EZ (vs:=[vI 0,vI 0,vI 0,nS,nS]) rfl U25_ rfl BM rfl u2 rfl) (EI rfl rfl)) (?_))))))))))))))))))
 have D4:((CT c no (CF c day)).1)=(⟨(0:Int),(0:Int),(0:Int),[],[]⟩:Circle):=by exact congrArg (fun p=>p.1) (show CT c no (CF c day)=_ from fin_no hok oM)
 have D5:((CT c no (CF c day)).2)=(1:Int):=by exact congrArg (fun p=>p.2) (show CT c no (CF c day)=_ from fin_no hok oM)
 exact ⟨_,rfl,D3.keep,by rw [D4,D5];exact ⟨[vI 0,vI 0,vI 0,nS,nS],rfl,Enc.out (B:=(a5 :: (a4 :: (a8 :: [])))) ⟨.slice none 0 0, .slice none 0 0,rfl,(BB.nil _ _ _),(BB.nil _ _ _)⟩⟩⟩
end Go.Proofs.YtjgfokolnkhafaaGreat
