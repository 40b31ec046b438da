/- What the laws of this part rest on: lemmas, and the walks of the functions. No conditions. -/
import Derived.WalkKit
import Derived.WalkSpells
import Derived.WalkLawsBesides
import Derived.RangeFuncLeaves
import Derived.Maps.AppendAt
import Derived.Deep.AppendLies
import Derived.Deep.Slices
import Derived.OpenShut
import Derived.ProofKit
import Derived.Below
import Derived.ChangeSame
import Derived.Carry
import Derived.RangeFuncRecord
import Derived.Laws.Tables
import Derived.Recover
import Derived.DefersIn
import Derived.Lib.AppendZerosOnto
import Derived.Lib.Overlaps
import Derived.Laws.CopyRow
import Derived.Laws.StructEq
import Derived.ChangeKeysEq
import Derived.OrdersIn
import Derived.Test.YtjgfokolnkhafaaRows
import Derived.Test.YtjgfokolnkhafaaPC54
set_option linter.unusedSimpArgs false
set_option linter.unusedVariables false
namespace Go.Proofs.Ytjgfokolnkhafaa
open Go.Fw Go.RowKit
set_option maxHeartbeats 4000000 in
set_option maxRecDepth 100000 in
theorem c_mixed {O:List Nat} (la_v:Value) (la:List Share) (lb_v:Value) (lb:List Share) (secret_v:Value) (secret:List UInt8) (w:World) (b0:BB Enc.share w O la_v la) (a9:BB Enc.share w O lb_v lb) (a2:BB Enc.u8 w O secret_v secret) (hO:∀ b∈O,b<w.heap.size):CE Try.prog 18 [la_v,lb_v,secret_v] w (fun v w'=>∃ (x0:Value),v = .tuple #[x0,vI ((BU la lb secret).2)]∧BB Enc.u8 w' (O) x0 ((BU la lb secret).1)):= by
 have bv:=b0.len_le
 have b0:BB Enc.share w ([]++O) la_v la:=b0
 have bw:=a9.len_le
 have a9:BB Enc.share w ([]++O) lb_v lb:=a9
 have R6:=a2.len_le
 have a2:BB Enc.u8 w ([]++O) secret_v secret:=a2
 have s0:St w O w []:=St.start hO
 refine WI 116 Try.func18 rfl rfl oT (fun F0=>AF (AB kR (AA (AD (nS) rfl (AA (AD (vI 0) rfl (AG (AC (AF (AF (AB kR (AA (AE (la_v) rfl (AA (AZ (vs:=[la_v]) NI (MX (O:=[]++O) la_v la w b0 s0.lt) rfl s0 fun ce R7 y2 y3 cf R8=>(?_))))))))))))))))
 obtain rfl:=R8
 have b0:=b0.mv y3
 have a9:=a9.mv y3
 have a2:=a2.mv y3
 refine AA (AD (vI (BO la)) rfl (AG (AC (AF (AB kR (AA (AE (vI (BO la)) rfl (AA (CT .i64 (BO la) (0:Int) rfl rfl (AG (AC (AJ ((BO la) != (0:Int)) rfl rfl (fun t7=>?_) (fun t7=>?_)))))))))))))
 ·have bx:BO la≠(0:Int):=by simpa using t7
  refine AF (AB kR (AA (AE (vI (BO la)) rfl (AA (AD (nS) rfl (AA (AD (vI (BO la)) rfl (AG (AC (AM (AK (QZ rfl (EA rfl rfl rfl rfl) (?_)))))))))))))
  have R9:((BU la lb secret).1)=([]):=by exact congrArg (fun p=>p.1) (show BU la lb secret=_ from mixed_1 aS)
  have S0:((BU la lb secret).2)=(BO la):=by exact congrArg (fun p=>p.2) (show BU la lb secret=_ from mixed_1 aS)
  exact ⟨_,rfl,y2.keep,by rw [R9,S0];exact ⟨.slice none 0 0,rfl,BB.nil _ _ _⟩⟩
 have I8:BO la=(0:Int):=by simpa using t7
 have hca:BO la=0:=I8
 have hva:=(FS la).1 hca
 have hpa:=hva.pos
 have hepa:=hva.ep1
 have hepa0:=hva.ep0
 refine AO (AC (AF (AF (AB kR (AA (AE (lb_v) rfl (AA (AZ (vs:=[lb_v]) NI (MX (O:=[]++O) lb_v lb R7 a9 y2.lt) rfl y2 fun cg b6 j7 y4 ch S1=>(?_)))))))))
 obtain rfl:=S1
 have b0:=b0.mv y4
 have a9:=a9.mv y4
 have a2:=a2.mv y4
 refine AA (AD (vI (BO lb)) rfl (AG (AC (AF (AB kR (AA (AE (vI (BO lb)) rfl (AA (CT .i64 (BO lb) (0:Int) rfl rfl (AG (AC (AJ ((BO lb) != (0:Int)) rfl rfl (fun t8=>?_) (fun t8=>?_)))))))))))))
 ·have bz:BO lb≠(0:Int):=by simpa using t8
  refine AF (AB kR (AA (AE (vI (BO lb)) rfl (AA (AD (nS) rfl (AA (AD (vI (BO lb)) rfl (AG (AC (AM (AK (QZ rfl (EA rfl rfl rfl rfl) (?_)))))))))))))
  have S2:((BU la lb secret).1)=([]):=by exact congrArg (fun p=>p.1) (show BU la lb secret=_ from mixed_2 aS aS)
  have S3:((BU la lb secret).2)=(BO lb):=by exact congrArg (fun p=>p.2) (show BU la lb secret=_ from mixed_2 aS aS)
  exact ⟨_,rfl,j7.keep,by rw [S2,S3];exact ⟨.slice none 0 0,rfl,BB.nil _ _ _⟩⟩
 have I9:BO lb=(0:Int):=by simpa using t8
 have hcb:BO lb=0:=I9
 have hvb:=(FS lb).1 hcb
 have hpb:=hvb.pos
 refine AO (AC (cw_cut (fun FI wI=>∃ (b3:Nat) (b4:Nat) (d5:Value) (d6:Value) (B:List Nat),True∧(∃ F1,FI=FR F1 [(0,la_v),(1,lb_v),(2,secret_v),(10,vP (some ⟨b3,0,none⟩)),(11,vP (some ⟨b4,0,none⟩)),(116,undef)])∧St w O wI B∧BB Enc.share wI (B++O) (la_v) (la)∧BB Enc.share wI (B++O) (lb_v) (lb)∧BB Enc.u8 wI (B++O) (secret_v) (secret)∧IB wI b3 70 [vI (la[0]!.epoch),vI (la[0]!.index),vI (la[0]!.threshold),vI (la[0]!.many),d5]∧BB Enc.u8 wI (B++O) d5 (la[0]!.data)∧b3∈B∧IB wI b4 70 [vI (lb[0]!.epoch),vI (lb[0]!.index),vI (lb[0]!.threshold),vI (lb[0]!.many),d6]∧BB Enc.u8 wI (B++O) d6 (lb[0]!.data)∧b4∈B∧GV b3 b4) ?_ ?_))
 ·refine YE 8 [3,4,5] _ _ _ [fun _=>fun (vT:Value) (_:World)=>BB Enc.share b6 ([]++O) vT (la),fun _=>fun (vT:Value) (_:World)=>∃ aT,vT = .pointer (some aT)∧PT Enc.share b6 ([]++O) (.pointer (some aT)) (la[0]!),fun _=>fun (vT:Value) (_:World)=>∃ csT:List Value,vT = .agg csT.toArray∧Enc.share.rd b6 ([]++O) csT (la[0]!),fun _=>fun (vT:Value) (_:World)=>BB Enc.share b6 ([]++O) vT (lb),fun _=>fun (vT:Value) (_:World)=>∃ aT,vT = .pointer (some aT)∧PT Enc.share b6 ([]++O) (.pointer (some aT)) (lb[0]!),fun _=>fun (vT:Value) (_:World)=>∃ csT:List Value,vT = .agg csT.toArray∧Enc.share.rd b6 ([]++O) csT (lb[0]!),UA b6 70 [vI 0,vI 0,vI 0,vI 0,nS],UA b6 70 [vI 0,vI 0,vI 0,vI 0,nS]] [⟨0,[],[],[],false,[]⟩,⟨0,[],[],[],false,[0]⟩,⟨0,[],[],[],false,[1]⟩,⟨0,[],[],[],false,[]⟩,⟨0,[],[],[],false,[3]⟩,⟨0,[],[],[],false,[4]⟩,⟨1,[],[],[],false,[]⟩,⟨2,[],[],[],false,[]⟩] ([]) kR kR kR kR kR (by decide) rfl rfl rfl ⟨fun _ _ _ _ _ h=>h,fun _ _ _ _ _ h=>h,fun _ _ _ _ _ h=>h,fun _ _ _ _ _ h=>h,fun _ _ _ _ _ h=>h,fun _ _ _ _ _ h=>h,UA.st,UA.st,trivial⟩ ⟨?_,?_,?_,?_,?_,?_,?_,?_,trivial⟩ ?_ ?_
  ·intro F1 w1 B1_ Bs_ k1 hs_ hl_ hr_ hsep_ hf hd
   obtain ⟨F2,rfl⟩:=AL (F:=F1) [(0,la_v)] ⟨hf 0 kR,trivial⟩
   exact AH rfl ((AE (la_v) rfl (⟨[],(Keep.refl _ _),QB,b0⟩)))
  ·intro F1 w1 B1_ Bs_ k1 hs_ hl_ hr_ hsep_ hf hd
   obtain ⟨S4,S5,z8⟩:∃ v,F1 28=v∧BB Enc.share b6 ([]++O) v (la):=⟨_,rfl,hd 0 28 kR kR⟩
   have:=z8.len_le
   obtain ⟨F2,rfl⟩:=AL (F:=F1) [(28,S4)] ⟨S5,trivial⟩
   exact AH rfl ((o_idxU U32_ CZ .i64 (0:Int) 0 rfl rfl rfl z8 oM fun S6 J0=>(⟨[],(Keep.refl _ _),QB,⟨S6,rfl,J0⟩⟩)))
  ·intro F1 w1 B1_ Bs_ k1 hs_ hl_ hr_ hsep_ hf hd
   have k0:=(Keep.drew [] b6).trans k1
   obtain ⟨S7,S8,J1⟩:∃ aX_,F1 29 = .pointer (some aX_)∧PT Enc.share b6 ([]++O) (.pointer (some aX_)) (la[0]!):=hd 1 29 kR kR
   obtain ⟨F2,rfl⟩:=AL (F:=F1) [(29,vP (some S7))] ⟨S8,trivial⟩
   exact AH rfl ((o_loadSU U70_ rfl CZ rfl J1 k0 fun J2 J3=>(⟨[],(Keep.refl _ _),QB,⟨J2,rfl,J3⟩⟩)))
  ·intro F1 w1 B1_ Bs_ k1 hs_ hl_ hr_ hsep_ hf hd
   obtain ⟨F2,rfl⟩:=AL (F:=F1) [(1,lb_v)] ⟨hf 1 kR,trivial⟩
   exact AH rfl ((AE (lb_v) rfl (⟨[],(Keep.refl _ _),QB,a9⟩)))
  ·intro F1 w1 B1_ Bs_ k1 hs_ hl_ hr_ hsep_ hf hd
   obtain ⟨S9,T0,z9⟩:∃ v,F1 31=v∧BB Enc.share b6 ([]++O) v (lb):=⟨_,rfl,hd 3 31 kR kR⟩
   have:=z9.len_le
   obtain ⟨F2,rfl⟩:=AL (F:=F1) [(31,S9)] ⟨T0,trivial⟩
   exact AH rfl ((o_idxU U32_ CZ .i64 (0:Int) 0 rfl rfl rfl z9 oM fun T1 J4=>(⟨[],(Keep.refl _ _),QB,⟨T1,rfl,J4⟩⟩)))
  ·intro F1 w1 B1_ Bs_ k1 hs_ hl_ hr_ hsep_ hf hd
   have k0:=(Keep.drew [] b6).trans k1
   obtain ⟨T2,T3,J5⟩:∃ aX_,F1 32 = .pointer (some aX_)∧PT Enc.share b6 ([]++O) (.pointer (some aX_)) (lb[0]!):=hd 4 32 kR kR
   obtain ⟨F2,rfl⟩:=AL (F:=F1) [(32,vP (some T2))] ⟨T3,trivial⟩
   exact AH rfl ((o_loadSU U70_ rfl CZ rfl J5 k0 fun J6 J7=>(⟨[],(Keep.refl _ _),QB,⟨J6,rfl,J7⟩⟩)))
  ·intro F1 w1 B1_ Bs_ k1 hs_ hl_ hr_ hsep_ hf hd
   have k0:=(Keep.drew [] b6).trans k1
   have s1:=j7.adoptL k0 hl_
   obtain ⟨F2,rfl⟩:=AL (F:=F1) [] trivial
   refine AH rfl ((DE [vI 0,vI 0,vI 0,vI 0,nS] KU rfl s1 fun T4 ci cj ck cm T5 J8=>(?_)))
   have J9:b6.heap.size≤T4:=by have:=k0.size;omega
   exact ⟨[],T5,QB,⟨_,rfl,J9,(by intro h;have:=lt_of s1 _ h;omega),J8⟩⟩
  ·intro F1 w1 B1_ Bs_ k1 hs_ hl_ hr_ hsep_ hf hd
   have k0:=(Keep.drew [] b6).trans k1
   have s1:=j7.adoptL k0 hl_
   obtain ⟨F2,rfl⟩:=AL (F:=F1) [] trivial
   refine AH rfl ((DE [vI 0,vI 0,vI 0,vI 0,nS] KU rfl s1 fun T6 cn co cp cq T7 K0=>(?_)))
   have K1:b6.heap.size≤T6:=by have:=k0.size;omega
   exact ⟨[],T7,QB,⟨_,rfl,K1,(by intro h;have:=lt_of s1 _ h;omega),K0⟩⟩
  ·intro o6 i0 o7 F7 t9 K2 x7 l3 l4
   obtain ⟨d7,T8,A0,K3,A1⟩:(UA b6 70 [vI 0,vI 0,vI 0,vI 0,nS]) (o7 1) (o6 10) i0:=l3 6 10 kR (by decide) kR kR
   have A2:=A1.lt
   obtain ⟨f9,T9,K4,K5,o8⟩:(UA b6 70 [vI 0,vI 0,vI 0,vI 0,nS]) (o7 2) (o6 11) i0:=l3 7 11 kR (by decide) kR kR
   have K6:=o8.lt
   have K7:∀ x∈([]:List Nat),x∈([]:List Nat)∨(b6.heap.size≤x∧x<i0.heap.size):=fun x hx=>.inl hx
   have H9:∀ x∈([]:List Nat),x∈([]:List Nat):=fun x hx=>hx
   have bA:∀ x∈([]:List Nat),x∈o7 1:=fun x hx=>t9 1 x hx
   have bB:∀ x∈([]:List Nat),x∈o7 2:=fun x hx=>t9 2 x hx
   have K8:∀ x∈(d7 :: ([]:List Nat)),x∈([]:List Nat)∨(b6.heap.size≤x∧x<i0.heap.size):=fun x hx=>by rcases List.mem_cons.1 hx with rfl|hx;exact .inr ⟨A0,A2⟩;exact K7 x hx
   have I0:∀ x∈([]:List Nat),x∈(d7 :: ([]:List Nat)):=fun x hx=>List.mem_cons_of_mem _ (H9 x hx)
   have A3:∀ x∈(f9 :: (d7 :: ([]:List Nat))),x∈([]:List Nat)∨(b6.heap.size≤x∧x<i0.heap.size):=fun x hx=>by rcases List.mem_cons.1 hx with rfl|hx;exact .inr ⟨K4,K6⟩;exact K8 x hx
   have bq:∀ x∈([]:List Nat),x∈(f9 :: (d7 :: ([]:List Nat))):=fun x hx=>List.mem_cons_of_mem _ (I0 x hx)
   have U0:=j7.adoptL F7 A3
   have o9:Mv ([]) b6 (f9 :: (d7 :: ([]:List Nat))) i0:=Mv.adoptL F7 A3
   have u0:GV d7 f9:=fun e=>K5 (e ▸ x7 1 2 d7 (by decide) A0 A2 K3)
   obtain ⟨A4,U1,u1⟩:∃ cs:List Value,o6 30 = .agg cs.toArray∧Enc.share.rd b6 ([]++O) cs (la[0]!):=l3 2 30 kR (by decide) kR kR
   obtain ⟨u2,U2,l5⟩:∃ cs:List Value,o6 33 = .agg cs.toArray∧Enc.share.rd b6 ([]++O) cs (lb[0]!):=l3 5 33 kR (by decide) kR kR
   have b0:=b0.mv o9
   have a9:=a9.mv o9
   have a2:=a2.mv o9
   have u1:Enc.share.rd i0 ((f9 :: (d7 :: ([]:List Nat)))++O) A4 (la[0]!):=Enc.mv Enc.share (x:=la[0]!) u1 o9
   have l5:Enc.share.rd i0 ((f9 :: (d7 :: ([]:List Nat)))++O) u2 (lb[0]!):=Enc.mv Enc.share (x:=lb[0]!) l5 o9
   obtain ⟨F2,rfl⟩:=AL (F:=o6) [(0,la_v),(1,lb_v),(2,secret_v),(116,undef),(10,vP (some ⟨d7,0,none⟩)),(11,vP (some ⟨f9,0,none⟩)),(30,vA A4.toArray),(33,vA u2.toArray)] ⟨l4 0 kR,l4 1 kR,l4 2 kR,l4 116 kR,T8,T9,U1,U2,trivial⟩
   clear l3 l4 t9 K2 x7
   obtain ⟨p0,rfl,h3⟩:=u1
   have:=h3.len_le
   refine CB (BF (vs:=[vI ((la[0]!).epoch),vI ((la[0]!).index),vI ((la[0]!).threshold),vI ((la[0]!).many),p0]) (.agg #[vI ((la[0]!).epoch),vI ((la[0]!).index),vI ((la[0]!).threshold),vI ((la[0]!).many),p0]) rfl rfl rfl CZ (fun u hu=>by simp only [List.mem_cons,List.not_mem_nil,or_false] at hu;rcases hu with rfl|rfl|rfl|rfl|rfl <;> first|rfl|exact h3.oneCell) (by repeat (constructor)) A1 oT U0 fun U3 U4 p1 U5 u3=>(?_))
   have b0:=b0.mv p1
   have a9:=a9.mv p1
   have a2:=a2.mv p1
   have h3:=h3.mv p1
   have l5:Enc.share.rd U3 ((f9 :: (d7 :: ([]:List Nat)))++O) u2 (lb[0]!):=Enc.mv Enc.share (x:=lb[0]!) l5 p1
   have o8:=o8.keep U5 (BC (Ne.symm u0))
   obtain ⟨p2,rfl,l6⟩:=l5
   have:=l6.len_le
   refine CB (BF (vs:=[vI ((lb[0]!).epoch),vI ((lb[0]!).index),vI ((lb[0]!).threshold),vI ((lb[0]!).many),p2]) (.agg #[vI ((lb[0]!).epoch),vI ((lb[0]!).index),vI ((lb[0]!).threshold),vI ((lb[0]!).many),p2]) rfl rfl rfl CZ (fun u hu=>by simp only [List.mem_cons,List.not_mem_nil,or_false] at hu;rcases hu with rfl|rfl|rfl|rfl|rfl <;> first|rfl|exact l6.oneCell) (by repeat (constructor)) o8 oT U4 fun cr U6 p3 U7 K9=>(?_))
   have b0:=b0.mv p3
   have a9:=a9.mv p3
   have a2:=a2.mv p3
   have h3:=h3.mv p3
   have l6:=l6.mv p3
   have u3:=u3.keep U7 (BC u0)
   refine AG (AC (?_))
   exact ⟨d7,f9,p0,p2,(f9 :: (d7 :: ([]:List Nat))),trivial,⟨_,AP _ ⟨rfl,rfl,rfl,rfl,rfl,rfl,trivial⟩⟩,U6,b0,a9,a2,(by rw [show ([vI (la[0]!.epoch),vI (la[0]!.index),vI (la[0]!.threshold),vI (la[0]!.many),p0]:List Value)=[vI ((la[0]!).epoch),vI ((la[0]!).index),vI ((la[0]!).threshold),vI ((la[0]!).many),p0] from by rfl];exact u3),(by rw [show la[0]!.data=(la[0]!).data from by rfl];exact h3),(by repeat (constructor)),(by rw [show ([vI (lb[0]!.epoch),vI (lb[0]!.index),vI (lb[0]!.threshold),vI (lb[0]!.many),p2]:List Value)=[vI ((lb[0]!).epoch),vI ((lb[0]!).index),vI ((lb[0]!).threshold),vI ((lb[0]!).many),p2] from by rfl];exact K9),(by rw [show lb[0]!.data=(lb[0]!).data from by rfl];exact l6),(by repeat (constructor)),u0⟩
  intro cx_ hcx_
  match cx_,hcx_ with
  | 0,_=>
   intro t0 j8 p4 F8 u4 L0 x8 p5 l7
   obtain ⟨f0,U8,A5,L1,A6⟩:(UA b6 70 [vI 0,vI 0,vI 0,vI 0,nS]) (p4 1) (t0 10) j8:=p5 6 10 kR (by decide) kR kR
   have A7:=A6.lt
   obtain ⟨i1,U9,L2,L3,p6⟩:(UA b6 70 [vI 0,vI 0,vI 0,vI 0,nS]) (p4 2) (t0 11) j8:=p5 7 11 kR (by decide) kR kR
   have L4:=p6.lt
   have L5:∀ x∈([]:List Nat),x∈([]:List Nat)∨(b6.heap.size≤x∧x<j8.heap.size):=fun x hx=>.inl hx
   have I1:∀ x∈([]:List Nat),x∈([]:List Nat):=fun x hx=>hx
   have bC:∀ x∈([]:List Nat),x∈p4 1:=fun x hx=>u4 1 x hx
   have bD:∀ x∈([]:List Nat),x∈p4 2:=fun x hx=>u4 2 x hx
   have L6:∀ x∈(f0 :: ([]:List Nat)),x∈([]:List Nat)∨(b6.heap.size≤x∧x<j8.heap.size):=fun x hx=>by rcases List.mem_cons.1 hx with rfl|hx;exact .inr ⟨A5,A7⟩;exact L5 x hx
   have I2:∀ x∈([]:List Nat),x∈(f0 :: ([]:List Nat)):=fun x hx=>List.mem_cons_of_mem _ (I1 x hx)
   have A8:∀ x∈(i1 :: (f0 :: ([]:List Nat))),x∈([]:List Nat)∨(b6.heap.size≤x∧x<j8.heap.size):=fun x hx=>by rcases List.mem_cons.1 hx with rfl|hx;exact .inr ⟨L2,L4⟩;exact L6 x hx
   have br:∀ x∈([]:List Nat),x∈(i1 :: (f0 :: ([]:List Nat))):=fun x hx=>List.mem_cons_of_mem _ (I2 x hx)
   have V0:=j7.adoptL F8 A8
   have t2:Mv ([]) b6 (i1 :: (f0 :: ([]:List Nat))) j8:=Mv.adoptL F8 A8
   have u5:GV f0 i1:=fun e=>L3 (e ▸ x8 1 2 f0 (by decide) A5 A7 L1)
   obtain ⟨A9,V1,u6⟩:∃ cs:List Value,t0 30 = .agg cs.toArray∧Enc.share.rd b6 ([]++O) cs (la[0]!):=p5 2 30 kR (by decide) kR kR
   have b0:=b0.mv t2
   have a9:=a9.mv t2
   have a2:=a2.mv t2
   have u6:Enc.share.rd j8 ((i1 :: (f0 :: ([]:List Nat)))++O) A9 (la[0]!):=Enc.mv Enc.share (x:=la[0]!) u6 t2
   obtain ⟨F2,rfl⟩:=AL (F:=t0) [(0,la_v),(1,lb_v),(2,secret_v),(116,undef),(10,vP (some ⟨f0,0,none⟩)),(11,vP (some ⟨i1,0,none⟩)),(30,vA A9.toArray)] ⟨l7 0 kR,l7 1 kR,l7 2 kR,l7 116 kR,U8,U9,V1,trivial⟩
   clear p5 l7 u4 L0 x8
   obtain ⟨p7,rfl,h4⟩:=u6
   have:=h4.len_le
   refine CB (BF (vs:=[vI ((la[0]!).epoch),vI ((la[0]!).index),vI ((la[0]!).threshold),vI ((la[0]!).many),p7]) (.agg #[vI ((la[0]!).epoch),vI ((la[0]!).index),vI ((la[0]!).threshold),vI ((la[0]!).many),p7]) rfl rfl rfl CZ (fun u hu=>by simp only [List.mem_cons,List.not_mem_nil,or_false] at hu;rcases hu with rfl|rfl|rfl|rfl|rfl <;> first|rfl|exact h4.oneCell) (by repeat (constructor)) A6 oT V0 fun ct V2 t3 V3 u7=>(?_))
   have b0:=b0.mv t3
   have a9:=a9.mv t3
   have a2:=a2.mv t3
   have h4:=h4.mv t3
   have p6:=p6.keep V3 (BC (Ne.symm u5))
   refine AA (AE (lb_v) rfl (AA (CP U32_ CZ .i64 (0:Int) 0 rfl rfl rfl a9 oM fun cu L7=>(AA (DF U70_ rfl CZ rfl L7 fun bE L8=>(?_))))))
   obtain ⟨p8,rfl,l8⟩:=L8
   have:=l8.len_le
   refine CB (BF (vs:=[vI ((lb[0]!).epoch),vI ((lb[0]!).index),vI ((lb[0]!).threshold),vI ((lb[0]!).many),p8]) (.agg #[vI ((lb[0]!).epoch),vI ((lb[0]!).index),vI ((lb[0]!).threshold),vI ((lb[0]!).many),p8]) rfl rfl rfl CZ (fun u hu=>by simp only [List.mem_cons,List.not_mem_nil,or_false] at hu;rcases hu with rfl|rfl|rfl|rfl|rfl <;> first|rfl|exact l8.oneCell) (by repeat (constructor)) p6 oT V2 fun cv V4 p9 V5 L9=>(?_))
   have b0:=b0.mv p9
   have a9:=a9.mv p9
   have a2:=a2.mv p9
   have h4:=h4.mv p9
   have l8:=l8.mv p9
   have u7:=u7.keep V5 (BC u5)
   refine AG (AC (?_))
   exact ⟨f0,i1,p7,p8,(i1 :: (f0 :: ([]:List Nat))),trivial,⟨_,AP _ ⟨rfl,rfl,rfl,rfl,rfl,rfl,trivial⟩⟩,V4,b0,a9,a2,(by rw [show ([vI (la[0]!.epoch),vI (la[0]!.index),vI (la[0]!.threshold),vI (la[0]!.many),p7]:List Value)=[vI ((la[0]!).epoch),vI ((la[0]!).index),vI ((la[0]!).threshold),vI ((la[0]!).many),p7] from by rfl];exact u7),(by rw [show la[0]!.data=(la[0]!).data from by rfl];exact h4),(by repeat (constructor)),(by rw [show ([vI (lb[0]!.epoch),vI (lb[0]!.index),vI (lb[0]!.threshold),vI (lb[0]!.many),p8]:List Value)=[vI ((lb[0]!).epoch),vI ((lb[0]!).index),vI ((lb[0]!).threshold),vI ((lb[0]!).many),p8] from by rfl];exact L9),(by rw [show lb[0]!.data=(lb[0]!).data from by rfl];exact l8),(by repeat (constructor)),u5⟩
  | 1,_=>
   intro q0 j9 q1 F9 u9 M0 x9 l9 m0
   obtain ⟨f1,V6,B0,M1,B1⟩:(UA b6 70 [vI 0,vI 0,vI 0,vI 0,nS]) (q1 1) (q0 10) j9:=l9 6 10 kR (by decide) kR kR
   have B2:=B1.lt
   obtain ⟨i2,V7,M2,M3,q2⟩:(UA b6 70 [vI 0,vI 0,vI 0,vI 0,nS]) (q1 2) (q0 11) j9:=l9 7 11 kR (by decide) kR kR
   have M4:=q2.lt
   have M5:∀ x∈([]:List Nat),x∈([]:List Nat)∨(b6.heap.size≤x∧x<j9.heap.size):=fun x hx=>.inl hx
   have I3:∀ x∈([]:List Nat),x∈([]:List Nat):=fun x hx=>hx
   have bF:∀ x∈([]:List Nat),x∈q1 1:=fun x hx=>u9 1 x hx
   have bG:∀ x∈([]:List Nat),x∈q1 2:=fun x hx=>u9 2 x hx
   have M6:∀ x∈(f1 :: ([]:List Nat)),x∈([]:List Nat)∨(b6.heap.size≤x∧x<j9.heap.size):=fun x hx=>by rcases List.mem_cons.1 hx with rfl|hx;exact .inr ⟨B0,B2⟩;exact M5 x hx
   have I4:∀ x∈([]:List Nat),x∈(f1 :: ([]:List Nat)):=fun x hx=>List.mem_cons_of_mem _ (I3 x hx)
   have B3:∀ x∈(i2 :: (f1 :: ([]:List Nat))),x∈([]:List Nat)∨(b6.heap.size≤x∧x<j9.heap.size):=fun x hx=>by rcases List.mem_cons.1 hx with rfl|hx;exact .inr ⟨M2,M4⟩;exact M6 x hx
   have bs:∀ x∈([]:List Nat),x∈(i2 :: (f1 :: ([]:List Nat))):=fun x hx=>List.mem_cons_of_mem _ (I4 x hx)
   have V8:=j7.adoptL F9 B3
   have q3:Mv ([]) b6 (i2 :: (f1 :: ([]:List Nat))) j9:=Mv.adoptL F9 B3
   have v0:GV f1 i2:=fun e=>M3 (e ▸ x9 1 2 f1 (by decide) B0 B2 M1)
   obtain ⟨B4,V9,v1⟩:∃ cs:List Value,q0 30 = .agg cs.toArray∧Enc.share.rd b6 ([]++O) cs (la[0]!):=l9 2 30 kR (by decide) kR kR
   obtain ⟨W0,W1,j2⟩:∃ v,q0 31=v∧BB Enc.share b6 ([]++O) v (lb):=⟨_,rfl,l9 3 31 kR (by decide) kR kR⟩
   have:=j2.len_le
   have b0:=b0.mv q3
   have a9:=a9.mv q3
   have a2:=a2.mv q3
   have v1:Enc.share.rd j9 ((i2 :: (f1 :: ([]:List Nat)))++O) B4 (la[0]!):=Enc.mv Enc.share (x:=la[0]!) v1 q3
   have j2:=j2.mv q3
   obtain ⟨F2,rfl⟩:=AL (F:=q0) [(0,la_v),(1,lb_v),(2,secret_v),(116,undef),(10,vP (some ⟨f1,0,none⟩)),(11,vP (some ⟨i2,0,none⟩)),(30,vA B4.toArray),(31,W0)] ⟨m0 0 kR,m0 1 kR,m0 2 kR,m0 116 kR,V6,V7,V9,W1,trivial⟩
   clear l9 m0 u9 M0 x9
   obtain ⟨q4,rfl,h5⟩:=v1
   have:=h5.len_le
   refine CB (BF (vs:=[vI ((la[0]!).epoch),vI ((la[0]!).index),vI ((la[0]!).threshold),vI ((la[0]!).many),q4]) (.agg #[vI ((la[0]!).epoch),vI ((la[0]!).index),vI ((la[0]!).threshold),vI ((la[0]!).many),q4]) rfl rfl rfl CZ (fun u hu=>by simp only [List.mem_cons,List.not_mem_nil,or_false] at hu;rcases hu with rfl|rfl|rfl|rfl|rfl <;> first|rfl|exact h5.oneCell) (by repeat (constructor)) B1 oT V8 fun cw W2 q5 W3 v2=>(?_))
   have b0:=b0.mv q5
   have a9:=a9.mv q5
   have a2:=a2.mv q5
   have h5:=h5.mv q5
   have j2:=j2.mv q5
   have q2:=q2.keep W3 (BC (Ne.symm v0))
   refine AA (CP U32_ CZ .i64 (0:Int) 0 rfl rfl rfl j2 oM fun cx M7=>(AA (DF U70_ rfl CZ rfl M7 fun bH M8=>(?_))))
   obtain ⟨q6,rfl,m2⟩:=M8
   have:=m2.len_le
   refine CB (BF (vs:=[vI ((lb[0]!).epoch),vI ((lb[0]!).index),vI ((lb[0]!).threshold),vI ((lb[0]!).many),q6]) (.agg #[vI ((lb[0]!).epoch),vI ((lb[0]!).index),vI ((lb[0]!).threshold),vI ((lb[0]!).many),q6]) rfl rfl rfl CZ (fun u hu=>by simp only [List.mem_cons,List.not_mem_nil,or_false] at hu;rcases hu with rfl|rfl|rfl|rfl|rfl <;> first|rfl|exact m2.oneCell) (by repeat (constructor)) q2 oT W2 fun cy W4 q7 W5 M9=>(?_))
   have b0:=b0.mv q7
   have a9:=a9.mv q7
   have a2:=a2.mv q7
   have h5:=h5.mv q7
   have m2:=m2.mv q7
   have v2:=v2.keep W5 (BC v0)
   refine AG (AC (?_))
   exact ⟨f1,i2,q4,q6,(i2 :: (f1 :: ([]:List Nat))),trivial,⟨_,AP _ ⟨rfl,rfl,rfl,rfl,rfl,rfl,trivial⟩⟩,W4,b0,a9,a2,(by rw [show ([vI (la[0]!.epoch),vI (la[0]!.index),vI (la[0]!.threshold),vI (la[0]!.many),q4]:List Value)=[vI ((la[0]!).epoch),vI ((la[0]!).index),vI ((la[0]!).threshold),vI ((la[0]!).many),q4] from by rfl];exact v2),(by rw [show la[0]!.data=(la[0]!).data from by rfl];exact h5),(by repeat (constructor)),(by rw [show ([vI (lb[0]!.epoch),vI (lb[0]!.index),vI (lb[0]!.threshold),vI (lb[0]!.many),q6]:List Value)=[vI ((lb[0]!).epoch),vI ((lb[0]!).index),vI ((lb[0]!).threshold),vI ((lb[0]!).many),q6] from by rfl];exact M9),(by rw [show lb[0]!.data=(lb[0]!).data from by rfl];exact m2),(by repeat (constructor)),v0⟩
  | 2,_=>
   intro q8 k2 q9 G0 v3 N0 y1 m3 m4
   obtain ⟨f2,W6,B5,N1,B6⟩:(UA b6 70 [vI 0,vI 0,vI 0,vI 0,nS]) (q9 1) (q8 10) k2:=m3 6 10 kR (by decide) kR kR
   have B7:=B6.lt
   obtain ⟨i3,W7,N2,N3,r0⟩:(UA b6 70 [vI 0,vI 0,vI 0,vI 0,nS]) (q9 2) (q8 11) k2:=m3 7 11 kR (by decide) kR kR
   have N4:=r0.lt
   have N5:∀ x∈([]:List Nat),x∈([]:List Nat)∨(b6.heap.size≤x∧x<k2.heap.size):=fun x hx=>.inl hx
   have I5:∀ x∈([]:List Nat),x∈([]:List Nat):=fun x hx=>hx
   have bI:∀ x∈([]:List Nat),x∈q9 1:=fun x hx=>v3 1 x hx
   have bJ:∀ x∈([]:List Nat),x∈q9 2:=fun x hx=>v3 2 x hx
   have N6:∀ x∈(f2 :: ([]:List Nat)),x∈([]:List Nat)∨(b6.heap.size≤x∧x<k2.heap.size):=fun x hx=>by rcases List.mem_cons.1 hx with rfl|hx;exact .inr ⟨B5,B7⟩;exact N5 x hx
   have I6:∀ x∈([]:List Nat),x∈(f2 :: ([]:List Nat)):=fun x hx=>List.mem_cons_of_mem _ (I5 x hx)
   have B8:∀ x∈(i3 :: (f2 :: ([]:List Nat))),x∈([]:List Nat)∨(b6.heap.size≤x∧x<k2.heap.size):=fun x hx=>by rcases List.mem_cons.1 hx with rfl|hx;exact .inr ⟨N2,N4⟩;exact N6 x hx
   have bt:∀ x∈([]:List Nat),x∈(i3 :: (f2 :: ([]:List Nat))):=fun x hx=>List.mem_cons_of_mem _ (I6 x hx)
   have W8:=j7.adoptL G0 B8
   have r1:Mv ([]) b6 (i3 :: (f2 :: ([]:List Nat))) k2:=Mv.adoptL G0 B8
   have v4:GV f2 i3:=fun e=>N3 (e ▸ y1 1 2 f2 (by decide) B5 B7 N1)
   obtain ⟨B9,W9,v5⟩:∃ cs:List Value,q8 30 = .agg cs.toArray∧Enc.share.rd b6 ([]++O) cs (la[0]!):=m3 2 30 kR (by decide) kR kR
   obtain ⟨X0,X1,m5⟩:∃ aX_,q8 32 = .pointer (some aX_)∧PT Enc.share b6 ([]++O) (.pointer (some aX_)) (lb[0]!):=m3 4 32 kR (by decide) kR kR
   have b0:=b0.mv r1
   have a9:=a9.mv r1
   have a2:=a2.mv r1
   have v5:Enc.share.rd k2 ((i3 :: (f2 :: ([]:List Nat)))++O) B9 (la[0]!):=Enc.mv Enc.share (x:=la[0]!) v5 r1
   have m5:=m5.mv r1
   obtain ⟨F2,rfl⟩:=AL (F:=q8) [(0,la_v),(1,lb_v),(2,secret_v),(116,undef),(10,vP (some ⟨f2,0,none⟩)),(11,vP (some ⟨i3,0,none⟩)),(30,vA B9.toArray),(32,vP (some X0))] ⟨m4 0 kR,m4 1 kR,m4 2 kR,m4 116 kR,W6,W7,W9,X1,trivial⟩
   clear m3 m4 v3 N0 y1
   obtain ⟨r2,rfl,h6⟩:=v5
   have:=h6.len_le
   refine CB (BF (vs:=[vI ((la[0]!).epoch),vI ((la[0]!).index),vI ((la[0]!).threshold),vI ((la[0]!).many),r2]) (.agg #[vI ((la[0]!).epoch),vI ((la[0]!).index),vI ((la[0]!).threshold),vI ((la[0]!).many),r2]) rfl rfl rfl CZ (fun u hu=>by simp only [List.mem_cons,List.not_mem_nil,or_false] at hu;rcases hu with rfl|rfl|rfl|rfl|rfl <;> first|rfl|exact h6.oneCell) (by repeat (constructor)) B6 oT W8 fun cz X2 r3 X3 v6=>(?_))
   have b0:=b0.mv r3
   have a9:=a9.mv r3
   have a2:=a2.mv r3
   have h6:=h6.mv r3
   have m5:=m5.mv r3
   have r0:=r0.keep X3 (BC (Ne.symm v4))
   refine AA (DF U70_ rfl CZ rfl m5 fun bK N7=>(?_))
   obtain ⟨r4,rfl,m6⟩:=N7
   have:=m6.len_le
   refine CB (BF (vs:=[vI ((lb[0]!).epoch),vI ((lb[0]!).index),vI ((lb[0]!).threshold),vI ((lb[0]!).many),r4]) (.agg #[vI ((lb[0]!).epoch),vI ((lb[0]!).index),vI ((lb[0]!).threshold),vI ((lb[0]!).many),r4]) rfl rfl rfl CZ (fun u hu=>by simp only [List.mem_cons,List.not_mem_nil,or_false] at hu;rcases hu with rfl|rfl|rfl|rfl|rfl <;> first|rfl|exact m6.oneCell) (by repeat (constructor)) r0 oT X2 fun cA X4 r5 X5 N8=>(?_))
   have b0:=b0.mv r5
   have a9:=a9.mv r5
   have a2:=a2.mv r5
   have h6:=h6.mv r5
   have m6:=m6.mv r5
   have v6:=v6.keep X5 (BC v4)
   refine AG (AC (?_))
   exact ⟨f2,i3,r2,r4,(i3 :: (f2 :: ([]:List Nat))),trivial,⟨_,AP _ ⟨rfl,rfl,rfl,rfl,rfl,rfl,trivial⟩⟩,X4,b0,a9,a2,(by rw [show ([vI (la[0]!.epoch),vI (la[0]!.index),vI (la[0]!.threshold),vI (la[0]!.many),r2]:List Value)=[vI ((la[0]!).epoch),vI ((la[0]!).index),vI ((la[0]!).threshold),vI ((la[0]!).many),r2] from by rfl];exact v6),(by rw [show la[0]!.data=(la[0]!).data from by rfl];exact h6),(by repeat (constructor)),(by rw [show ([vI (lb[0]!.epoch),vI (lb[0]!.index),vI (lb[0]!.threshold),vI (lb[0]!.many),r4]:List Value)=[vI ((lb[0]!).epoch),vI ((lb[0]!).index),vI ((lb[0]!).threshold),vI ((lb[0]!).many),r4] from by rfl];exact N8),(by rw [show lb[0]!.data=(lb[0]!).data from by rfl];exact m6),(by repeat (constructor)),v4⟩
 intro F X6 hI
 clear b0 a9 a2
 obtain ⟨b3,b4,d5,d6,k3,cB,⟨cC,rfl⟩,k4,b0,a9,a2,a0,a4,d1,a1,a5,d2,z7⟩:=hI
 have:=a4.len_le
 have:=a5.len_le
 refine AF (AF (AB kR (AA (AU 2 HK rfl (AA (AW U3_ rfl (vI (la[0]!.threshold)) rfl a0 rfl (AA (AU 2 HK rfl (AA (AW U3_ rfl (vI (lb[0]!.threshold)) rfl a1 rfl (AA (CT .i64 (la[0]!.threshold) (lb[0]!.threshold) rfl rfl (AA (AE (vO ((la[0]!.threshold) != (lb[0]!.threshold))) rfl (?_)))))))))))))))
 cases C0:((la[0]!.threshold) != (lb[0]!.threshold))
 ·have bL:la[0]!.threshold=lb[0]!.threshold:=by simpa using C0
  refine BJ rfl (AU 3 HF rfl (BJ rfl (AW U3_ rfl (vI (la[0]!.many)) rfl a0 rfl (BJ rfl (AU 3 HF rfl (BJ rfl (AW U3_ rfl (vI (lb[0]!.many)) rfl a1 rfl (BJ rfl (CT .i64 (la[0]!.many) (lb[0]!.many) rfl rfl (AA (BX (vO ((la[0]!.many) != (lb[0]!.many))) rfl rfl (AA (AE (vO ((la[0]!.many) != (lb[0]!.many))) rfl (?_))))))))))))))
  cases C1:((la[0]!.many) != (lb[0]!.many))
  ·have bM:la[0]!.many=lb[0]!.many:=by simpa using C1
   refine BJ rfl (AU 4 EP rfl (BJ rfl (AW U23_ rfl (d5) rfl a0 rfl (BJ rfl (CA U23_ rfl a4 (BJ rfl (AU 4 EP rfl (BJ rfl (AW U23_ rfl (d6) rfl a1 rfl (BJ rfl (CA U23_ rfl a5 (BJ rfl (CT .i64 ((la[0]!.data).length:Int) ((lb[0]!.data).length:Int) rfl rfl (AA (BX (vO (((la[0]!.data).length:Int) != ((lb[0]!.data).length:Int))) rfl rfl (AA (AE (vO (((la[0]!.data).length:Int) != ((lb[0]!.data).length:Int))) rfl (?_))))))))))))))))))
   cases C2:(((la[0]!.data).length:Int) != ((lb[0]!.data).length:Int))
   ·have bN:((la[0]!.data).length:Int)=((lb[0]!.data).length:Int):=by simpa using C2
    refine BJ rfl (AU 0 HD rfl (BJ rfl (AW U3_ rfl (vI (lb[0]!.epoch)) rfl a1 rfl (BJ rfl (AU 0 HD rfl (BJ rfl (AW U3_ rfl (vI (la[0]!.epoch)) rfl a0 rfl (BJ rfl (DC .i64 (la[0]!.epoch) (1:Int) ((la[0]!.epoch)+(1:Int)) rfl rfl (FQ oM oM) (BJ rfl (CT .i64 (lb[0]!.epoch) ((la[0]!.epoch)+(1:Int)) rfl rfl (AA (BX (vO ((lb[0]!.epoch) != ((la[0]!.epoch)+(1:Int)))) rfl rfl (AG (AC (AJ ((lb[0]!.epoch) != ((la[0]!.epoch)+(1:Int))) rfl rfl (fun v7=>?_) (fun v7=>?_)))))))))))))))))
    ·have bO:lb[0]!.epoch≠(la[0]!.epoch)+(1:Int):=by simpa using v7
     refine AF (AB kR (AA (AD (nS) rfl (AA (AD (vI 460) rfl (AG (AC (AM (AK (QZ rfl (EA rfl rfl rfl rfl) (?_)))))))))))
     have X7:((BU la lb secret).1)=([]):=by exact congrArg (fun p=>p.1) (show BU la lb secret=_ from MM aS aS (EK oM))
     have X8:((BU la lb secret).2)=(460:Int):=by exact congrArg (fun p=>p.2) (show BU la lb secret=_ from MM aS aS (EK oM))
     exact ⟨_,rfl,k4.keep,by rw [X7,X8];exact ⟨.slice none 0 0,rfl,BB.nil _ _ _⟩⟩
    have bP:lb[0]!.epoch=(la[0]!.epoch)+(1:Int):=by simpa using v7
    have v8:JY la[0]! lb[0]! = false:=(NQ _ _).2 oM
    refine AO (AC (AF (AB kR (AA (AE (la_v) rfl (AA (AE (secret_v) rfl (AA (AZ (vs:=[la_v,secret_v]) enter_15 (YD (O:=k3++O) la_v la secret_v secret X6 b0 a2 k4.lt) rfl k4 fun cD X9 y5 r6 G1 Y0=>(?_))))))))))
    obtain ⟨c8,rfl,v9,a8⟩:=Y0
    obtain ⟨a8,N9⟩:=own_lent k4 v9 a8
    have O0:∀ b,c8.ownBlock=some b→b≠b3:=fun b hb=>by have:=a0.lt;have:=v9 b hb;omega
    have O1:∀ b,c8.ownBlock=some b→b≠b4:=fun b hb=>by have:=a1.lt;have:=v9 b hb;omega
    have b0:=b0.mv r6
    have a9:=a9.mv r6
    have a2:=a2.mv r6
    have a4:=a4.mv r6
    have a5:=a5.mv r6
    have a0:=a0.keep G1 (by simp)
    have a1:=a1.keep G1 (by simp)
    refine AA (AE (vT #[c8,vI ((BE la secret).2)]) rfl (AA (AN (c8) rfl rfl (AA (AN (vI ((BE la secret).2)) rfl rfl (AA (AD (c8) rfl (AA (AD (vI ((BE la secret).2)) rfl (AG (AC (AF (AF (AB kR (AA (AE (vI ((BE la secret).2)) rfl (AA (CT .i64 ((BE la secret).2) (0:Int) rfl rfl (AG (AC (AJ (((BE la secret).2) != (0:Int)) rfl rfl (fun w0=>?_) (fun w0=>?_))))))))))))))))))))))
    ·have bQ:(BE la secret).2≠(0:Int):=by simpa using w0
     refine AF (AB kR (AA (AE (vI ((BE la secret).2)) rfl (AA (AD (nS) rfl (AA (AD (vI ((BE la secret).2)) rfl (AG (AC (AM (AK (QZ rfl (EA rfl rfl rfl rfl) (?_)))))))))))))
     have Y1:((BU la lb secret).1)=([]):=by exact congrArg (fun p=>p.1) (show BU la lb secret=_ from mixed_4 hca hcb v8 aS)
     have Y2:((BU la lb secret).2)=((BE la secret).2):=by exact congrArg (fun p=>p.2) (show BU la lb secret=_ from mixed_4 hca hcb v8 aS)
     exact ⟨_,rfl,y5.keep,by rw [Y1,Y2];exact ⟨.slice none 0 0,rfl,BB.nil _ _ _⟩⟩
    have O2:(BE la secret).2=(0:Int):=by simpa using w0
    have hex:(BE la secret).2=0:=O2
    have w2:=mx_of hcb hex v8
    have hlb8:=hvb.len8
    have hfe:=MK hex
    refine AO (AC (AF (AB kR (AA (AE (secret_v) rfl (AA (AU 0 HD rfl (AA (AW U3_ rfl (vI (la[0]!.epoch)) rfl a0 rfl (AA (AU 2 HK rfl (AA (AW U3_ rfl (vI (la[0]!.threshold)) rfl a0 rfl (AA (AU 3 HF rfl (AA (AW U3_ rfl (vI (la[0]!.many)) rfl a0 rfl (AA (AE (c8) rfl (AA (AZ (vs:=[secret_v,vI (la[0]!.epoch),vI (la[0]!.threshold),vI (la[0]!.many),c8]) VB (c_split (O:=k3++O) secret_v secret (la[0]!.epoch) (la[0]!.threshold) (la[0]!.many) c8 ((BE la secret).1) X9 a2 (a8.rd (fun x hx=>.inl hx) N9) y5.lt) rfl y5 fun cE Y3 Y4 n6 y6 Y5=>(?_))))))))))))))))))))))
    obtain ⟨i4,rfl,b1⟩:=Y5
    have:=b1.len_le
    have b1:BB Enc.share Y3 (k3++O) i4 (CQ la secret):=b1
    have b0:=b0.mv n6
    have a9:=a9.mv n6
    have a2:=a2.mv n6
    have a8:=a8.mv n6 y6 (by simp)
    have a4:=a4.mv n6
    have a5:=a5.mv n6
    have a0:=a0.keep y6 (by simp)
    have a1:=a1.keep y6 (by simp)
    refine AA (AE (vT #[i4,vI ((BY secret (la[0]!.epoch) (la[0]!.threshold) (la[0]!.many) ((BE la secret).1)).2)]) rfl (AA (AN (i4) rfl rfl (AA (AN (vI ((BY secret (la[0]!.epoch) (la[0]!.threshold) (la[0]!.many) ((BE la secret).1)).2)) rfl rfl (AA (AD (i4) rfl (AA (AD (vI ((BY secret (la[0]!.epoch) (la[0]!.threshold) (la[0]!.many) ((BE la secret).1)).2)) rfl (AG (AC (AF (AF (AB kR (AA (AE (vI ((BY secret (la[0]!.epoch) (la[0]!.threshold) (la[0]!.many) ((BE la secret).1)).2)) rfl (AA (CT .i64 ((BY secret (la[0]!.epoch) (la[0]!.threshold) (la[0]!.many) ((BE la secret).1)).2) (0:Int) rfl rfl (AG (AC (?_)))))))))))))))))))))
    have O3:(((BY secret (la[0]!.epoch) (la[0]!.threshold) (la[0]!.many) ((BE la secret).1)).2) != (0:Int))=false:=(by rw [XN hex];rfl)
    rw [O3]
    refine AJ false rfl rfl (fun h=>by cases h) (fun _=>AO (AC (AF (AB kR (AA (DE [nS] z_32 rfl Y4 fun c2 Y6 Y7 G2 k5 y7 j3=>(?_)))))))
    have O4:GV b3 c2:=by show b3≠c2;have:=a0.lt;omega
    have O5:GV b4 c2:=by show b4≠c2;have:=a1.lt;omega
    have C3:∀ b,c8.ownBlock=some b→b≠c2:=fun b hb=>by have:=(a8.lt b hb).2;omega
    clear Y7
    have b0:=b0.mv k5
    have a9:=a9.mv k5
    have a2:=a2.mv k5
    have a8:=a8.mv k5 y7 (by simp)
    have b1:=b1.mv k5
    have a4:=a4.mv k5
    have a5:=a5.mv k5
    have a0:=a0.keep y7 (by simp)
    have a1:=a1.keep y7 (by simp)
    refine AG (AC (AF (AF (AB kR (AA (AE (lb_v) rfl (AA (AE (i4) rfl (AA (AZ (vs:=[lb_v,i4]) enter_53 (c_pairs (O:=(c2 :: k3)++O) lb_v lb i4 (CQ la secret) Y6 a9 b1 G2.lt) rfl G2 fun cF Y8 Y9 k6 t4 Z0=>(?_)))))))))))
    obtain ⟨G3,r7,rfl,b8,b5⟩:=Z0
    have b0:=b0.mv k6
    have a9:=a9.mv k6
    have a2:=a2.mv k6
    have a8:=a8.mv k6 t4 (by simp)
    have b1:=b1.mv k6
    have a4:=a4.mv k6
    have a5:=a5.mv k6
    have a0:=a0.keep t4 (by simp)
    have a1:=a1.keep t4 (by simp)
    have j3:=j3.keep t4 (by simp)
    refine AG (AC (BA (cw_range (fs:=[]) (lb:=[vP (some G3),vP (some r7)]) rfl rfl enter_95 rfl (fun c0 c1 Z1 I7 _ F6 C4 O6 n7 a7 b7=>?_))))
    have w3:GV b3 c1∧GV b3 c0:=by show b3≠c1∧b3≠c0;have:=a0.lt;omega
    have w4:GV b4 c1∧GV b4 c0:=by show b4≠c1∧b4≠c0;have:=a1.lt;omega
    have m7:GV c2 c1∧GV c2 c0:=by show c2≠c1∧c2≠c0;have:=j3.lt;omega
    have m9:∀ b,c8.ownBlock=some b→b≠c1∧b≠c0:=fun b hb=>by have:=(a8.lt b hb).2;omega
    have Z2:=Y9.adopt2 n7 C4 oM a7.lt b7.lt
    have g6:Mv (c2 :: k3) Y8 (c0 :: c1 :: (c2 :: k3)) Z1:=Mv.adopt2 n7 C4 oM
    have b0:=b0.mv g6
    have a9:=a9.mv g6
    have a2:=a2.mv g6
    have a8:=a8.mv g6 n7 (by simp)
    have b1:=b1.mv g6
    have a4:=a4.mv g6
    have a5:=a5.mv g6
    have b8:=b8.mv g6
    have b5:=b5.mv g6
    have a0:=a0.keep n7 (by simp)
    have a1:=a1.keep n7 (by simp)
    have j3:=j3.keep n7 (by simp)
    have w5:GV c1 c0:=by show c1≠c0;omega
    clear O6
    refine CG 29 Try.func95 rfl rfl oT (fun cG=>AF (AB kR (AA (CF U32_ rfl rfl b8 fun y8 b9=>(?_)))))
    have:=b9.len_le
    refine AA (CA U32_ rfl b9 (AA (AE (vI 0) rfl (AG (AC (BA (CX (fun mI FI wI=>∃ (k:Nat) (b2:Value) (B:List Nat),k≤lb.length∧mI=lb.length - k∧(∃ F1,FI=FR F1 [(0,vN (.yield c0) #[] #[]),(2,vP (some r7)),(7,y8),(8,vI (lb.length:Int)),(9,vI ((k:Nat):Int)),(29,undef)])∧St w O wI B∧ED Enc.share 70 w.heap.size (B++O) wI b2 (FX lb (CQ la secret) k)∧(∀ b,b2.ownBlock=some b→b∈B)∧PT (Enc.slice Enc.share) wI (B++O) (.pointer (some r7)) ((CQ la secret))∧BB Enc.share wI (B++O) (y8) (lb)∧BB Enc.share wI (B++O) (la_v) (la)∧BB Enc.share wI (B++O) (lb_v) (lb)∧BB Enc.u8 wI (B++O) (secret_v) (secret)∧ED Enc.u8 5 w.heap.size (B++O) wI c8 ((BE la secret).1)∧BB Enc.share wI (B++O) (i4) ((CQ la secret))∧BB Enc.u8 wI (B++O) (d5) (la[0]!.data)∧BB Enc.u8 wI (B++O) (d6) (lb[0]!.data)∧PT (Enc.slice Enc.share) wI (B++O) (.pointer (some G3)) (lb)∧Ob wI c1 (.deferred (some []))∧c1∈B∧IB wI c2 32 [b2]∧c2∈B∧IB wI b3 70 [vI (la[0]!.epoch),vI (la[0]!.index),vI (la[0]!.threshold),vI (la[0]!.many),d5]∧b3∈B∧IB wI b4 70 [vI (lb[0]!.epoch),vI (lb[0]!.index),vI (lb[0]!.threshold),vI (lb[0]!.many),d6]∧b4∈B∧Ob wI c0 (I7 .ready none)∧c0∈B∧(∀ b,b2.ownBlock=some b→b≠c1)∧(∀ b,b2.ownBlock=some b→b≠c2)∧(∀ b,b2.ownBlock=some b→b≠b3)∧(∀ b,b2.ownBlock=some b→b≠b4)∧(∀ b,b2.ownBlock=some b→b≠c0)∧(∀ b,b2.ownBlock=some b→c8.ownBlock≠some b)∧(∀ b,c8.ownBlock=some b→b2.ownBlock≠some b)) (lb.length - (0)) ?_ ?_)))))))
    ·exact ⟨(0),(.slice none 0 0),(c0 :: c1 :: (c2 :: k3)),oM,rfl,⟨_,AP _ ⟨rfl,rfl,rfl,rfl,(by rfl),rfl,trivial⟩⟩,Z2,(by rw [show FX lb (CQ la secret) (0)=[] from rfl];exact (ED.nil Enc.share 70 _ _ _)),(by intro b hb;simp [Value.ownBlock] at hb),b5,b9,b0,a9,a2,a8,b1,a4,a5,b8,a7,(by (repeat (first|exact List.mem_cons_self|apply List.mem_cons_of_mem))),j3,(by (repeat (first|exact List.mem_cons_self|apply List.mem_cons_of_mem))),a0,(by (repeat (first|assumption|apply List.mem_cons_of_mem))),a1,(by (repeat (first|assumption|apply List.mem_cons_of_mem))),b7,(by (repeat (exact List.mem_cons_self))),(fun b hb=>by (simp [Value.ownBlock] at hb;done)),(fun b hb=>by (simp [Value.ownBlock] at hb;done)),(fun b hb=>by (simp [Value.ownBlock] at hb;done)),(fun b hb=>by (simp [Value.ownBlock] at hb;done)),(fun b hb=>by (simp [Value.ownBlock] at hb;done)),(fun b hb=>by (simp [Value.ownBlock] at hb;done)),(fun b hb=>by (simp [Value.ownBlock];done))⟩
    intro cH F Z3 hI
    clear b5 b9 b0 a9 a2 a8 b1 a4 a5 b8 a7 a0 a1 b7
    obtain ⟨k,b2,t5,hrpr0_0,cI,⟨cJ,rfl⟩,G4,a6,c6,b5,b9,b0,a9,a2,a8,b1,a4,a5,b8,a7,g0,a3,i5,a0,d1,a1,d2,b7,o5,nbpr0_b5616_0_D_r5636,nbpr0_b5616_0_b5616,nbpr0_b5616_0_bnc34_10,nbpr0_b5616_0_bnc34_11,nbpr0_b5616_0_l_r5636,nopr0_b5616_0_x5596,nppr0_b5616_0_x5596⟩:=hI
    refine AF (AB kR (AA (DO .i64 ((k:Nat):Int) (lb.length:Int) rfl rfl (AG (AC (AF (AJ (decide (((k:Nat):Int)<(lb.length:Int))) rfl rfl (fun w6=>?_) (fun w6=>?_))))))))
    ·have bR:((k:Nat):Int)<(lb.length:Int):=by simpa using w6
     have hxi:=w2.idx' (k:=k) oM
     refine AO (AC (AF (BA (AF (AB kR (AA (CP U32_ CZ .i64 ((k:Nat):Int) k rfl rfl rfl b9 (by have:=w2.idx' (k:=k) oM;omega) fun cK O7=>(AA (DF U70_ rfl CZ rfl O7 fun O8 w7=>(AA (DE [vI 0,vI 0,vI 0,vI 0,nS] KU rfl G4 fun c9 Z4 Z5 Z6 e5 k7 O9=>(?_))))))))))))
     have C5:GV c1 c9:=by show c1≠c9;have:=a7.lt;omega
     have C6:GV c2 c9:=by show c2≠c9;have:=a3.lt;omega
     have C7:GV b3 c9:=by show b3≠c9;have:=a0.lt;omega
     have C8:GV b4 c9:=by show b4≠c9;have:=a1.lt;omega
     have C9:GV c0 c9:=by show c0≠c9;have:=b7.lt;omega
     have P0:∀ b,c8.ownBlock=some b→b≠c9:=fun b hb=>by have:=(a8.lt b hb).2;omega
     have D0:∀ b,b2.ownBlock=some b→b≠c9:=fun b hb=>by have:=(a6.lt b hb).2;omega
     have c6:∀ b,b2.ownBlock=some b→b∈(c9 :: t5):=fun b hb=>List.mem_cons_of_mem _ (c6 b hb)
     clear Z5
     have b5:=b5.mv e5
     have b9:=b9.mv e5
     have w7:Enc.share.rd Z4 ((c9 :: t5)++O) O8 (lb[k]!):=Enc.mv Enc.share (x:=lb[k]!) w7 e5
     have b0:=b0.mv e5
     have a9:=a9.mv e5
     have a2:=a2.mv e5
     have a8:=a8.mv e5 k7 (by simp)
     have b1:=b1.mv e5
     have a4:=a4.mv e5
     have a5:=a5.mv e5
     have b8:=b8.mv e5
     have a7:=a7.keep k7 (by simp)
     have a6:=a6.mv e5 k7 (by simp)
     have a3:=a3.keep k7 (by simp)
     have a0:=a0.keep k7 (by simp)
     have a1:=a1.keep k7 (by simp)
     have b7:=b7.keep k7 (by simp)
     obtain ⟨G5,rfl,n2⟩:=w7
     have:=n2.len_le
     refine CB (BF (vs:=[vI ((lb[k]!).epoch),vI ((lb[k]!).index),vI ((lb[k]!).threshold),vI ((lb[k]!).many),G5]) (.agg #[vI ((lb[k]!).epoch),vI ((lb[k]!).index),vI ((lb[k]!).threshold),vI ((lb[k]!).many),G5]) rfl rfl rfl CZ (fun u hu=>by simp only [List.mem_cons,List.not_mem_nil,or_false] at hu;rcases hu with rfl|rfl|rfl|rfl|rfl <;> first|rfl|exact n2.oneCell) (by repeat (constructor)) O9 oT Z6 fun Z7 Z8 e6 k8 P1=>(?_))
     have b5:=b5.mv e6
     have b9:=b9.mv e6
     have n2:=n2.mv e6
     have b0:=b0.mv e6
     have a9:=a9.mv e6
     have a2:=a2.mv e6
     have a8:=a8.mv e6 k8 (fun b hb=>BC (P0 b hb))
     have b1:=b1.mv e6
     have a4:=a4.mv e6
     have a5:=a5.mv e6
     have b8:=b8.mv e6
     have a7:=a7.keep k8 (BC C5)
     have a6:=a6.mv e6 k8 (fun b hb=>BC (D0 b hb))
     have a3:=a3.keep k8 (BC C6)
     have a0:=a0.keep k8 (BC C7)
     have a1:=a1.keep k8 (BC C8)
     have b7:=b7.keep k8 (BC C9)
     refine AG (AC (AF (AB kR (AA (CF U32_ rfl rfl b5 fun G6 r8=>(?_))))))
     have:=r8.len_le
     obtain ⟨c3,G7,e7,j4,j5⟩:=P1.publish (E:=Enc.share) (u:=(lb[k]!)) ⟨_,rfl,n2⟩ Z8 (by repeat (constructor))
     have c6:∀ b,b2.ownBlock=some b→b∈c3:=fun b hb=>j5 b (c6 b hb) (D0 b hb)
     have g0:c1∈c3:=j5 c1 rC C5
     have i5:c2∈c3:=j5 c2 rC C6
     have d1:b3∈c3:=j5 b3 rC C7
     have d2:b4∈c3:=j5 b4 rC C8
     have o5:c0∈c3:=j5 c0 rC C9
     have b5:=b5.mv e7
     have b9:=b9.mv e7
     have r8:=r8.mv e7
     have b0:=b0.mv e7
     have a9:=a9.mv e7
     have a2:=a2.mv e7
     have a8:=a8.mv e7 (Keep.refl [] _) (by simp)
     have b1:=b1.mv e7
     have a4:=a4.mv e7
     have a5:=a5.mv e7
     have b8:=b8.mv e7
     have a7:=a7.keep (Keep.refl [] _) (by simp)
     have a6:=a6.mv e7 (Keep.refl [] _) (by simp)
     have a3:=a3.keep (Keep.refl [] _) (by simp)
     have a0:=a0.keep (Keep.refl [] _) (by simp)
     have a1:=a1.keep (Keep.refl [] _) (by simp)
     have b7:=b7.keep (Keep.refl [] _) (by simp)
     refine AA (DP (first:=[]) (captured:=[.tmp 5]) [] [vP (some ⟨c9,0,none⟩)] rfl rfl (AA (AZ (vs:=[G6,vN (.func 97) #[] #[vP (some ⟨c9,0,none⟩)]]) enter_96 (c_idxS (O:=c3++O) G6 (CQ la secret) 97 [vP (some ⟨c9,0,none⟩)] (fun x_=>x_.index == (lb[k]!).index) Z7 r8 enter_97 (fun w'_ O'_ kk_ hs_ hl_ x__cs x_ hr_x_ =>c_pairs11 (O:=O'_) x__cs x_ (⟨c9,0,none⟩) (lb[k]!) w'_ hr_x_ (j4.on hs_ kk_) hl_) G7.lt) rfl G7 fun cL r9 Z9 e8 k9 aa=>(?_))))
     obtain rfl:=aa
     have b5:=b5.mv e8
     have j4:=j4.mv e8
     have b9:=b9.mv e8
     have b0:=b0.mv e8
     have a9:=a9.mv e8
     have a2:=a2.mv e8
     have a8:=a8.mv e8 k9 (by simp)
     have b1:=b1.mv e8
     have a4:=a4.mv e8
     have a5:=a5.mv e8
     have b8:=b8.mv e8
     have a7:=a7.keep k9 (by simp)
     have a6:=a6.mv e8 k9 (by simp)
     have a3:=a3.keep k9 (by simp)
     have a0:=a0.keep k9 (by simp)
     have a1:=a1.keep k9 (by simp)
     have b7:=b7.keep k9 (by simp)
     refine AA (AD (vI (FV (CQ la secret) (fun x_=>x_.index == (lb[k]!).index))) rfl (AG (AC (AF (?_)))))
     have D1:(decide ((0:Int)≤FV (CQ la secret) (fun x_=>x_.index == (lb[k]!).index)))=true:=(decide_eq_true (w2.idx' (k:=k) oM).1)
     try rw [D1]
     refine cw_drawY 9 _ _ [DZ (vI (FV (CQ la secret) (fun x_=>x_.index == (lb[k]!).index))),DZ (vO true),DZ (vO true),DZ (vN (.yield c0) #[] #[]),fun (vT:Value) (wT:World)=>∃ csT:List Value,vT = .agg csT.toArray∧Enc.share.rd wT (c3++O) csT ((lb[k]!)),fun (vT:Value) (wT:World)=>BB Enc.share wT (c3++O) vT ((CQ la secret)),DZ (vI (FV (CQ la secret) (fun x_=>x_.index == (lb[k]!).index))),fun (vT:Value) (wT:World)=>∃ aT,vT = .pointer (some aT)∧PT Enc.share wT (c3++O) (.pointer (some aT)) ((CQ la secret)[(FV (CQ la secret) (fun x_=>x_.index == (lb[k]!).index)).toNat]!),fun (vT:Value) (wT:World)=>∃ csT:List Value,vT = .agg csT.toArray∧Enc.share.rd wT (c3++O) csT ((CQ la secret)[(FV (CQ la secret) (fun x_=>x_.index == (lb[k]!).index)).toNat]!)] kR kR kR kR rfl rfl ⟨kI,kI,kI,kI,fun _ _ _ ⟨a,e,h⟩ k=>⟨a,e,Enc.mv _ h (Mv.of_keep k)⟩,fun _ _ _ h k=>h.mv (Mv.of_keep k),kI,fun _ _ _ ⟨a,e,h⟩ k=>⟨a,e,h.mv (Mv.of_keep k)⟩,fun _ _ _ ⟨a,e,h⟩ k=>⟨a,e,Enc.mv _ h (Mv.of_keep k)⟩,trivial⟩ ⟨?_,?_,?_,?_,?_,?_,?_,?_,?_,trivial⟩ ?_
     ·intro F1 w1 k1 hf hd
      obtain ⟨F2,rfl⟩:=AL (F:=F1) [(6,vI (FV (CQ la secret) (fun x_=>x_.index == (lb[k]!).index)))] ⟨hf 6 kR,trivial⟩
      exact AH rfl ((AE (vI (FV (CQ la secret) (fun x_=>x_.index == (lb[k]!).index))) rfl (⟨(Keep.refl _ _),rfl⟩)))
     ·intro F1 w1 k1 hf hd
      obtain ⟨F2,rfl⟩:=AL (F:=F1) [(16,vI (FV (CQ la secret) (fun x_=>x_.index == (lb[k]!).index)))] ⟨hd 0 16 kR,trivial⟩
      refine AH rfl ((KR .i64 (FV (CQ la secret) (fun x_=>x_.index == (lb[k]!).index)) (0:Int) rfl rfl (?_)))
      exact ⟨(Keep.refl _ _),congrArg vO (D1)⟩
     ·intro F1 w1 k1 hf hd
      obtain ⟨F2,rfl⟩:=AL (F:=F1) [(17,vO true)] ⟨hd 1 17 kR,trivial⟩
      exact AH rfl ((AE (vO true) rfl (⟨(Keep.refl _ _),rfl⟩)))
     ·intro F1 w1 k1 hf hd
      obtain ⟨F2,rfl⟩:=AL (F:=F1) [(0,vN (.yield c0) #[] #[]),(18,vO true)] ⟨hf 0 kR,hd 2 18 kR,trivial⟩
      exact QE rfl rfl ((AE (vN (.yield c0) #[] #[]) rfl (⟨(Keep.refl _ _),rfl⟩)))
     ·intro F1 w1 k1 hf hd
      have k0:=(Keep.drew [] r9).trans k1
      have m1:Mv c3 r9 c3 w1:=Mv.of_keep k0
      have j4:=j4.mv m1
      obtain ⟨F2,rfl⟩:=AL (F:=F1) [(5,vP (some ⟨c9,0,none⟩)),(18,vO true)] ⟨hf 5 kR,hd 2 18 kR,trivial⟩
      exact QE rfl rfl ((DF U70_ rfl CZ rfl j4 fun P2 P3=>(⟨(Keep.refl _ _),⟨P2,rfl,P3⟩⟩)))
     ·intro F1 w1 k1 hf hd
      have k0:=(Keep.drew [] r9).trans k1
      have m1:Mv c3 r9 c3 w1:=Mv.of_keep k0
      have b5:=b5.mv m1
      obtain ⟨F2,rfl⟩:=AL (F:=F1) [(2,vP (some r7)),(18,vO true)] ⟨hf 2 kR,hd 2 18 kR,trivial⟩
      refine QE rfl rfl ((CF U32_ rfl rfl b5 fun cM D2=>(?_)))
      have:=D2.len_le
      exact ⟨(Keep.refl _ _),D2⟩
     ·intro F1 w1 k1 hf hd
      obtain ⟨F2,rfl⟩:=AL (F:=F1) [(6,vI (FV (CQ la secret) (fun x_=>x_.index == (lb[k]!).index))),(18,vO true)] ⟨hf 6 kR,hd 2 18 kR,trivial⟩
      exact QE rfl rfl ((AE (vI (FV (CQ la secret) (fun x_=>x_.index == (lb[k]!).index))) rfl (⟨(Keep.refl _ _),rfl⟩)))
     ·intro F1 w1 k1 hf hd
      obtain ⟨ab,ac,D3⟩:∃ v,F1 21=v∧BB Enc.share w1 (c3++O) v ((CQ la secret)):=⟨_,rfl,hd 5 21 kR⟩
      have:=D3.len_le
      obtain ⟨F2,rfl⟩:=AL (F:=F1) [(18,vO true),(21,ab),(22,vI (FV (CQ la secret) (fun x_=>x_.index == (lb[k]!).index)))] ⟨hd 2 18 kR,ac,hd 6 22 kR,trivial⟩
      exact QE rfl rfl ((CP U32_ CZ .i64 (FV (CQ la secret) (fun x_=>x_.index == (lb[k]!).index)) ((FV (CQ la secret) (fun x_=>x_.index == (lb[k]!).index)).toNat) rfl rfl oM D3 (by have:=w2.idx' (k:=k) oM;omega) fun ad P4=>(⟨(Keep.refl _ _),⟨ad,rfl,P4⟩⟩)))
     ·intro F1 w1 k1 hf hd
      obtain ⟨ae,af,P5⟩:∃ aX_,F1 23 = .pointer (some aX_)∧PT Enc.share w1 (c3++O) (.pointer (some aX_)) ((CQ la secret)[(FV (CQ la secret) (fun x_=>x_.index == (lb[k]!).index)).toNat]!):=hd 7 23 kR
      obtain ⟨F2,rfl⟩:=AL (F:=F1) [(18,vO true),(23,vP (some ae))] ⟨hd 2 18 kR,af,trivial⟩
      exact QE rfl rfl ((DF U70_ rfl CZ rfl P5 fun P6 P7=>(⟨(Keep.refl _ _),⟨P6,rfl,P7⟩⟩)))
     intro y9 z0 g7 n3 h7
     have ag:=Z9.call g7
     have f3:Mv c3 r9 c3 z0:=Mv.of_keep g7
     have b5:=b5.mv f3
     have b9:=b9.mv f3
     have b0:=b0.mv f3
     have a9:=a9.mv f3
     have a2:=a2.mv f3
     have a8:=a8.mv f3 g7 (by simp)
     have b1:=b1.mv f3
     have a4:=a4.mv f3
     have a5:=a5.mv f3
     have b8:=b8.mv f3
     have a7:=a7.keep g7 (by simp)
     have a6:=a6.mv f3 g7 (by simp)
     have a3:=a3.keep g7 (by simp)
     have a0:=a0.keep g7 (by simp)
     have a1:=a1.keep g7 (by simp)
     have b7:=b7.keep g7 (by simp)
     obtain ⟨w8,ah,w9⟩:∃ cs:List Value,y9 20 = .agg cs.toArray∧Enc.share.rd z0 (c3++O) cs ((lb[k]!)):=n3 4 20 kR (by decide)
     obtain ⟨n4,ai,h8⟩:∃ cs:List Value,y9 24 = .agg cs.toArray∧Enc.share.rd z0 (c3++O) cs ((CQ la secret)[(FV (CQ la secret) (fun x_=>x_.index == (lb[k]!).index)).toNat]!):=n3 8 24 kR (by decide)
     obtain ⟨F2,rfl⟩:=AL (F:=y9) [(0,vN (.yield c0) #[] #[]),(2,vP (some r7)),(7,y8),(8,vI (lb.length:Int)),(9,vI ((k:Nat):Int)),(29,undef),(18,vO true),(19,vN (.yield c0) #[] #[]),(20,vA w8.toArray),(24,vA n4.toArray)] ⟨h7 0 kR,h7 2 kR,h7 7 kR,h7 8 kR,h7 9 kR,h7 29 kR,n3 2 18 kR (by decide),n3 3 19 kR (by decide),ah,ai,trivial⟩
     clear n3 h7
     refine wl_yT rfl c0 [vA w8.toArray,vA n4.toArray] rfl rfl (XP F6 b7 rfl (by decide) ?_)
     refine AF (AB kR (AA (DE [vI 0,vI 0,vI 0,vI 0,nS] KU rfl ag fun c5 G8 aj ak d8 l0 P8=>(?_))))
     have D4:GV c1 c5:=by show c1≠c5;have:=a7.lt;omega
     have D5:GV c2 c5:=by show c2≠c5;have:=a3.lt;omega
     have D6:GV b3 c5:=by show b3≠c5;have:=a0.lt;omega
     have D7:GV b4 c5:=by show b4≠c5;have:=a1.lt;omega
     have x1:GV c0 c5:=by show c0≠c5;have:=b7.lt;omega
     have D8:∀ b,c8.ownBlock=some b→b≠c5:=fun b hb=>by have:=(a8.lt b hb).2;omega
     have x2:∀ b,b2.ownBlock=some b→b≠c5:=fun b hb=>by have:=(a6.lt b hb).2;omega
     have c6:∀ b,b2.ownBlock=some b→b∈(c5 :: c3):=fun b hb=>List.mem_cons_of_mem _ (c6 b hb)
     clear aj
     have b0:=b0.mv d8
     have a9:=a9.mv d8
     have a2:=a2.mv d8
     have a8:=a8.mv d8 l0 (by simp)
     have b1:=b1.mv d8
     have a4:=a4.mv d8
     have a5:=a5.mv d8
     have b8:=b8.mv d8
     have b5:=b5.mv d8
     have w9:Enc.share.rd G8 ((c5 :: c3)++O) w8 ((lb[k]!)):=Enc.mv Enc.share (x:=(lb[k]!)) w9 d8
     have h8:Enc.share.rd G8 ((c5 :: c3)++O) n4 ((CQ la secret)[(FV (CQ la secret) (fun x_=>x_.index == (lb[k]!).index)).toNat]!):=Enc.mv Enc.share (x:=(CQ la secret)[(FV (CQ la secret) (fun x_=>x_.index == (lb[k]!).index)).toNat]!) h8 d8
     have b9:=b9.mv d8
     have a7:=a7.keep l0 (by simp)
     have a6:=a6.mv d8 l0 (by simp)
     have a3:=a3.keep l0 (by simp)
     have a0:=a0.keep l0 (by simp)
     have a1:=a1.keep l0 (by simp)
     have b7:=b7.keep l0 (by simp)
     obtain ⟨s2,rfl,d3⟩:=w9
     have:=d3.len_le
     refine CB (BF (vs:=[vI (((lb[k]!)).epoch),vI (((lb[k]!)).index),vI (((lb[k]!)).threshold),vI (((lb[k]!)).many),s2]) (.agg #[vI (((lb[k]!)).epoch),vI (((lb[k]!)).index),vI (((lb[k]!)).threshold),vI (((lb[k]!)).many),s2]) rfl rfl rfl CZ (fun u hu=>by simp only [List.mem_cons,List.not_mem_nil,or_false] at hu;rcases hu with rfl|rfl|rfl|rfl|rfl <;> first|rfl|exact d3.oneCell) (by repeat (constructor)) P8 oT ak fun al am d9 l1 d4=>(?_))
     have b0:=b0.mv d9
     have a9:=a9.mv d9
     have a2:=a2.mv d9
     have a8:=a8.mv d9 l1 (fun b hb=>BC (D8 b hb))
     have b1:=b1.mv d9
     have a4:=a4.mv d9
     have a5:=a5.mv d9
     have b8:=b8.mv d9
     have b5:=b5.mv d9
     have d3:=d3.mv d9
     have h8:Enc.share.rd al ((c5 :: c3)++O) n4 ((CQ la secret)[(FV (CQ la secret) (fun x_=>x_.index == (lb[k]!).index)).toNat]!):=Enc.mv Enc.share (x:=(CQ la secret)[(FV (CQ la secret) (fun x_=>x_.index == (lb[k]!).index)).toNat]!) h8 d9
     have b9:=b9.mv d9
     have a7:=a7.keep l1 (BC D4)
     have a6:=a6.mv d9 l1 (fun b hb=>BC (x2 b hb))
     have a3:=a3.keep l1 (BC D5)
     have a0:=a0.keep l1 (BC D6)
     have a1:=a1.keep l1 (BC D7)
     have b7:=b7.keep l1 (BC x1)
     refine AG (AC (AB kR (AA (DE [vI 0,vI 0,vI 0,vI 0,nS] KU rfl am fun c7 an ao ap e0 i6 P9=>(?_)))))
     have Q0:GV c1 c7:=by show c1≠c7;have:=a7.lt;omega
     have Q1:GV c2 c7:=by show c2≠c7;have:=a3.lt;omega
     have Q2:GV b3 c7:=by show b3≠c7;have:=a0.lt;omega
     have Q3:GV b4 c7:=by show b4≠c7;have:=a1.lt;omega
     have D9:GV c0 c7:=by show c0≠c7;have:=b7.lt;omega
     have E0:GV c5 c7:=by show c5≠c7;have:=d4.lt;omega
     have Q4:∀ b,c8.ownBlock=some b→b≠c7:=fun b hb=>by have:=(a8.lt b hb).2;omega
     have E1:∀ b,b2.ownBlock=some b→b≠c7:=fun b hb=>by have:=(a6.lt b hb).2;omega
     have c6:∀ b,b2.ownBlock=some b→b∈(c7 :: (c5 :: c3)):=fun b hb=>List.mem_cons_of_mem _ (c6 b hb)
     clear ao
     have b0:=b0.mv e0
     have a9:=a9.mv e0
     have a2:=a2.mv e0
     have a8:=a8.mv e0 i6 (by simp)
     have b1:=b1.mv e0
     have a4:=a4.mv e0
     have a5:=a5.mv e0
     have b8:=b8.mv e0
     have b5:=b5.mv e0
     have d3:=d3.mv e0
     have h8:Enc.share.rd an ((c7 :: (c5 :: c3))++O) n4 ((CQ la secret)[(FV (CQ la secret) (fun x_=>x_.index == (lb[k]!).index)).toNat]!):=Enc.mv Enc.share (x:=(CQ la secret)[(FV (CQ la secret) (fun x_=>x_.index == (lb[k]!).index)).toNat]!) h8 e0
     have b9:=b9.mv e0
     have a7:=a7.keep i6 (by simp)
     have a6:=a6.mv e0 i6 (by simp)
     have a3:=a3.keep i6 (by simp)
     have a0:=a0.keep i6 (by simp)
     have a1:=a1.keep i6 (by simp)
     have b7:=b7.keep i6 (by simp)
     have d4:=d4.keep i6 (by simp)
     obtain ⟨s3,rfl,h9⟩:=h8
     have:=h9.len_le
     refine CB (BF (vs:=[vI (((CQ la secret)[(FV (CQ la secret) (fun x_=>x_.index == (lb[k]!).index)).toNat]!).epoch),vI (((CQ la secret)[(FV (CQ la secret) (fun x_=>x_.index == (lb[k]!).index)).toNat]!).index),vI (((CQ la secret)[(FV (CQ la secret) (fun x_=>x_.index == (lb[k]!).index)).toNat]!).threshold),vI (((CQ la secret)[(FV (CQ la secret) (fun x_=>x_.index == (lb[k]!).index)).toNat]!).many),s3]) (.agg #[vI (((CQ la secret)[(FV (CQ la secret) (fun x_=>x_.index == (lb[k]!).index)).toNat]!).epoch),vI (((CQ la secret)[(FV (CQ la secret) (fun x_=>x_.index == (lb[k]!).index)).toNat]!).index),vI (((CQ la secret)[(FV (CQ la secret) (fun x_=>x_.index == (lb[k]!).index)).toNat]!).threshold),vI (((CQ la secret)[(FV (CQ la secret) (fun x_=>x_.index == (lb[k]!).index)).toNat]!).many),s3]) rfl rfl rfl CZ (fun u hu=>by simp only [List.mem_cons,List.not_mem_nil,or_false] at hu;rcases hu with rfl|rfl|rfl|rfl|rfl <;> first|rfl|exact h9.oneCell) (by repeat (constructor)) P9 oT ap fun aq ar e2 i7 e4=>(?_))
     have b0:=b0.mv e2
     have a9:=a9.mv e2
     have a2:=a2.mv e2
     have a8:=a8.mv e2 i7 (fun b hb=>BC (Q4 b hb))
     have b1:=b1.mv e2
     have a4:=a4.mv e2
     have a5:=a5.mv e2
     have b8:=b8.mv e2
     have b5:=b5.mv e2
     have d3:=d3.mv e2
     have h9:=h9.mv e2
     have b9:=b9.mv e2
     have a7:=a7.keep i7 (BC Q0)
     have a6:=a6.mv e2 i7 (fun b hb=>BC (E1 b hb))
     have a3:=a3.keep i7 (BC Q1)
     have a0:=a0.keep i7 (BC Q2)
     have a1:=a1.keep i7 (BC Q3)
     have b7:=b7.keep i7 (BC D9)
     have d4:=d4.keep i7 (BC E0)
     refine AG (AC (⟨b7,fun G9 g1 d0=>?_⟩))
     have H0:=ar.keepB g1 rC
     have e3:Mv (c7 :: (c5 :: c3)) aq (c7 :: (c5 :: c3)) G9:=Mv.keepB g1 rC
     have b0:=b0.mv e3
     have a9:=a9.mv e3
     have a2:=a2.mv e3
     have a8:=a8.mv e3 g1 (fun b hb=>BC ((fun b hb=>(m9 b hb).2) b hb))
     have b1:=b1.mv e3
     have a4:=a4.mv e3
     have a5:=a5.mv e3
     have b8:=b8.mv e3
     have b5:=b5.mv e3
     have d3:=d3.mv e3
     have h9:=h9.mv e3
     have b9:=b9.mv e3
     have a7:=a7.keep g1 (BC w5)
     have a6:=a6.mv e3 g1 (fun b hb=>BC (nbpr0_b5616_0_l_r5636 b hb))
     have a3:=a3.keep g1 (BC m7.2)
     have a0:=a0.keep g1 (BC w3.2)
     have a1:=a1.keep g1 (BC w4.2)
     have d4:=d4.keep g1 (BC (Ne.symm x1))
     have e4:=e4.keep g1 (BC (Ne.symm D9))
     refine BA (AF (AB kR (AA (AU 4 EP rfl (AA (AW U23_ rfl (s2) rfl d4 rfl (AA (AU 4 EP rfl (AA (AW U23_ rfl (s3) rfl e4 rfl (AA (AZ (vs:=[s2,s3]) enter_54 (c_xor (O:=(c7 :: (c5 :: c3))++O) s2 (((lb[k]!)).data) s3 (((CQ la secret)[(FV (CQ la secret) (fun x_=>x_.index == (lb[k]!).index)).toNat]!).data) G9 d3 h9 (by have:=w2.bl (k:=k) oM;omega) (by have h1:=w2.bl (k:=k) oM;have h2:=w2.dl' (k:=k) oM;omega) H0.lt) rfl H0 fun t6 cN au f4 g8 av=>(?_)))))))))))))
     obtain ⟨_,rfl,n5⟩:=av
     have:=n5.len_le
     have b0:=b0.mv f4
     have a9:=a9.mv f4
     have a2:=a2.mv f4
     have a8:=a8.mv f4 g8 (by simp)
     have b1:=b1.mv f4
     have a4:=a4.mv f4
     have a5:=a5.mv f4
     have b8:=b8.mv f4
     have b5:=b5.mv f4
     have b9:=b9.mv f4
     have a7:=a7.keep g8 (by simp)
     have a6:=a6.mv f4 g8 (by simp)
     have a3:=a3.keep g8 (by simp)
     have a0:=a0.keep g8 (by simp)
     have a1:=a1.keep g8 (by simp)
     have d0:=d0.keep g8 (by simp)
     have d4:=d4.keep g8 (by simp)
     have e4:=e4.keep g8 (by simp)
     refine AA (AU 4 EP rfl (CB (CI (t6) rfl rfl n5.oneCell s_23 (by repeat (constructor)) d4 oT au fun cO aw e9 i8 s4=>(?_))))
     have b0:=b0.mv e9
     have a9:=a9.mv e9
     have a2:=a2.mv e9
     have a8:=a8.mv e9 i8 (fun b hb=>BC (D8 b hb))
     have b1:=b1.mv e9
     have a4:=a4.mv e9
     have a5:=a5.mv e9
     have b8:=b8.mv e9
     have b5:=b5.mv e9
     have n5:=n5.mv e9
     have b9:=b9.mv e9
     have a7:=a7.keep i8 (BC D4)
     have a6:=a6.mv e9 i8 (fun b hb=>BC (x2 b hb))
     have a3:=a3.keep i8 (BC D5)
     have a0:=a0.keep i8 (BC D6)
     have a1:=a1.keep i8 (BC D7)
     have d0:=d0.keep i8 (BC x1)
     have e4:=e4.keep i8 (BC (Ne.symm E0))
     refine AG (AC (AB kR (AA (AW U32_ rfl (b2) rfl a3 rfl (AA (BW (vs:=[vI (((lb[k]!)).epoch),vI (((lb[k]!)).index),vI (((lb[k]!)).threshold),vI (((lb[k]!)).many),t6]) U70_ rfl CZ rfl s4 rfl (AA (GZ (E:=Enc.share) (xs:=[.tmp 99]) U32_ CZ KU (by decide) [.agg #[vI (((lb[k]!)).epoch),vI (((lb[k]!)).index),vI (((lb[k]!)).threshold),vI (((lb[k]!)).many),t6]] [[vI (((lb[k]!)).epoch),vI (((lb[k]!)).index),vI (((lb[k]!)).threshold),vI (((lb[k]!)).many),t6]] [(⟨((lb[k]!)).epoch,((lb[k]!)).index,((lb[k]!)).threshold,((lb[k]!)).many,xorM (((lb[k]!)).data) (((CQ la secret)[(FV (CQ la secret) (fun x_=>x_.index == (lb[k]!).index)).toNat]!).data)⟩:Share)] rfl rfl rfl (Parts.cons rfl ⟨_,rfl,n5⟩ (Parts.nil _ _ _)) oT aw fun cP cQ ax f5 g9 E2=>(?_)))))))))
     have b0:=b0.mv f5
     have a9:=a9.mv f5
     have a2:=a2.mv f5
     have a8:=a8.mv f5 g9 (by simp)
     have b1:=b1.mv f5
     have a4:=a4.mv f5
     have a5:=a5.mv f5
     have b8:=b8.mv f5
     have b5:=b5.mv f5
     have a6:=a6.mv f5 g9 (by simp)
     have b9:=b9.mv f5
     have a7:=a7.keep g9 (by simp)
     have a3:=a3.keep g9 (by simp)
     have a0:=a0.keep g9 (by simp)
     have a1:=a1.keep g9 (by simp)
     have d0:=d0.keep g9 (by simp)
     have s4:=s4.keep g9 (by simp)
     have e4:=e4.keep g9 (by simp)
     have:=E2.len_le
     refine AA (CY (E:=Enc.share) (l:=FX lb (CQ la secret) k) (m:=[(⟨((lb[k]!)).epoch,((lb[k]!)).index,((lb[k]!)).threshold,((lb[k]!)).many,xorM (((lb[k]!)).data) (((CQ la secret)[(FV (CQ la secret) (fun x_=>x_.index == (lb[k]!).index)).toNat]!).data)⟩:Share)]) U32_ i_70 rfl (by decide) rfl rfl a6 E2 (fun _ hb=>.inl hb) c6 (by have:=mixD_len lb (CQ la secret) k;simp only [List.length_cons,List.length_nil];omega) (by have:=mixD_len lb (CQ la secret) k;simp only [List.length_cons,List.length_nil,maxLen];omega) ax fun g2 cR g3 Q5 g5 f8 ay g4 n9 j6=>(?_))
     have E3:∀ b,c8.ownBlock=some b→g2.ownBlock≠some b:=fun b hb e=>by rcases g5 with e1|e1 <;> rw [e1] at e <;> first|(cases e;have:=(a8.lt _ hb).2;omega)|(exact absurd e (nppr0_b5616_0_x5596 b hb))
     have Q6:∀ b,g2.ownBlock=some b→b≠c1:=fun b hb=>by rcases g5 with e1|e1 <;> rw [e1] at hb <;> first|(cases hb;have:=a7.lt;omega)|(exact nbpr0_b5616_0_D_r5636 b hb)
     have E4:∀ b,g2.ownBlock=some b→b≠c2:=fun b hb=>by rcases g5 with e1|e1 <;> rw [e1] at hb <;> first|(cases hb;have:=a3.lt;omega)|(exact nbpr0_b5616_0_b5616 b hb)
     have Q7:∀ b,g2.ownBlock=some b→b≠b3:=fun b hb=>by rcases g5 with e1|e1 <;> rw [e1] at hb <;> first|(cases hb;have:=a0.lt;omega)|(exact nbpr0_b5616_0_bnc34_10 b hb)
     have Q8:∀ b,g2.ownBlock=some b→b≠b4:=fun b hb=>by rcases g5 with e1|e1 <;> rw [e1] at hb <;> first|(cases hb;have:=a1.lt;omega)|(exact nbpr0_b5616_0_bnc34_11 b hb)
     have E5:∀ b,g2.ownBlock=some b→b≠c0:=fun b hb=>by rcases g5 with e1|e1 <;> rw [e1] at hb <;> first|(cases hb;have:=d0.lt;omega)|(exact nbpr0_b5616_0_l_r5636 b hb)
     have bS:∀ b,g2.ownBlock=some b→b≠c5:=fun b hb=>by rcases g5 with e1|e1 <;> rw [e1] at hb <;> first|(cases hb;have:=s4.lt;omega)|(exact x2 b hb)
     have bT:∀ b,g2.ownBlock=some b→b≠c7:=fun b hb=>by rcases g5 with e1|e1 <;> rw [e1] at hb <;> first|(cases hb;have:=e4.lt;omega)|(exact E1 b hb)
     have g0:c1∈g3:=f8 c1 rC
     have i5:c2∈g3:=f8 c2 rC
     have d1:b3∈g3:=f8 b3 rC
     have d2:b4∈g3:=f8 b4 rC
     have o5:c0∈g3:=f8 c0 rC
     have bo:c5∈g3:=f8 c5 (by repeat (constructor))
     have bp:c7∈g3:=f8 c7 (by repeat (constructor))
     have b0:=b0.mv g4
     have a9:=a9.mv g4
     have a2:=a2.mv g4
     have a8:=a8.mv g4 n9 (fun b hb=>by simp only [Option.mem_toList];exact nppr0_b5616_0_x5596 b hb)
     have b1:=b1.mv g4
     have a4:=a4.mv g4
     have a5:=a5.mv g4
     have b8:=b8.mv g4
     have b5:=b5.mv g4
     have b9:=b9.mv g4
     have a7:=a7.keep n9 (by simp only [Option.mem_toList];exact fun e=>absurd rfl (nbpr0_b5616_0_D_r5636 _ e))
     have a3:=a3.keep n9 (by simp only [Option.mem_toList];exact fun e=>absurd rfl (nbpr0_b5616_0_b5616 _ e))
     have a0:=a0.keep n9 (by simp only [Option.mem_toList];exact fun e=>absurd rfl (nbpr0_b5616_0_bnc34_10 _ e))
     have a1:=a1.keep n9 (by simp only [Option.mem_toList];exact fun e=>absurd rfl (nbpr0_b5616_0_bnc34_11 _ e))
     have d0:=d0.keep n9 (by simp only [Option.mem_toList];exact fun e=>absurd rfl (nbpr0_b5616_0_l_r5636 _ e))
     refine CB (CI (g2) rfl rfl j6.oneCell s_32 (by repeat (assumption)) a3 oT ay fun az aA f6 o0 x3=>(?_))
     have b0:=b0.mv f6
     have a9:=a9.mv f6
     have a2:=a2.mv f6
     have a8:=a8.mv f6 o0 (fun b hb=>BC (C3 b hb))
     have b1:=b1.mv f6
     have a4:=a4.mv f6
     have a5:=a5.mv f6
     have b8:=b8.mv f6
     have b5:=b5.mv f6
     have j6:=j6.mv f6 o0 (fun b hb=>BC (E4 b hb))
     have b9:=b9.mv f6
     have a7:=a7.keep o0 (BC (Ne.symm m7.1))
     have a0:=a0.keep o0 (BC O4)
     have a1:=a1.keep o0 (BC O5)
     have d0:=d0.keep o0 (BC (Ne.symm m7.2))
     refine AG (BZ (round_n d0 (fun aB i9 Q9=>?_)))
     have aC:=aA.keepB i9 (by repeat (assumption))
     have f7:Mv g3 az g3 aB:=Mv.keepB i9 (by repeat (assumption))
     have b0:=b0.mv f7
     have a9:=a9.mv f7
     have a2:=a2.mv f7
     have a8:=a8.mv f7 i9 (fun b hb=>BC ((fun b hb=>(m9 b hb).2) b hb))
     have b1:=b1.mv f7
     have a4:=a4.mv f7
     have a5:=a5.mv f7
     have b8:=b8.mv f7
     have b5:=b5.mv f7
     have j6:=j6.mv f7 i9 (fun b hb=>BC (E5 b hb))
     have b9:=b9.mv f7
     have a7:=a7.keep i9 (BC w5)
     have x3:=x3.keep i9 (BC m7.2)
     have a0:=a0.keep i9 (BC w3.2)
     have a1:=a1.keep i9 (BC w4.2)
     have b7:=Q9
     refine BJ rfl (HP true rfl (AA (AX (vO false) rfl rfl (AG (AC (AJ false rfl rfl (fun h=>by cases h) (fun _=>AO (BZ (AC (AB kR (AA (DC .i64 ((k:Nat):Int) (1:Int) (((k+1:Nat):Int)) rfl rfl (FQ oM oM) (AA (AE (vI ((k+1:Nat):Int)) rfl (AG (AC (?_)))))))))))))))))
     exact ⟨_,oM,(k+1),g2,g3,oM,rfl,⟨_,AP _ ⟨rfl,rfl,rfl,rfl,(by rfl),rfl,trivial⟩⟩,aC,(by rw [show FX lb (CQ la secret) (k+1)=(FX lb (CQ la secret) k)++([(⟨((lb[k]!)).epoch,((lb[k]!)).index,((lb[k]!)).threshold,((lb[k]!)).many,xorM (((lb[k]!)).data) (((CQ la secret)[(FV (CQ la secret) (fun x_=>x_.index == (lb[k]!).index)).toNat]!).data)⟩:Share)]) from mixD_succ oM];exact j6),Q5,b5,b9,b0,a9,a2,a8,b1,a4,a5,b8,a7,aS,x3,aS,a0,aS,a1,aS,b7,aS,Q6,E4,Q7,Q8,E5,(fun b hb e=>E3 b e hb),E3⟩
    have bU:(lb.length:Int)≤((k:Nat):Int):=by simpa using w6
    obtain rfl:k=lb.length:=by omega
    refine CV (BL (BL (CL (GW rfl (KE rfl) (⟨⟨_,rfl⟩,?_⟩)))))
    refine ⟨.ready,none,by simp,b7,fun j0 j1=>?_⟩
    have aD:=G4.keepB j1 (by repeat (assumption))
    have z1:Mv t5 Z3 t5 j0:=Mv.keepB j1 (by repeat (assumption))
    have a2:=a2.mv z1
    have a8:=a8.mv z1 j1 (fun b hb=>BC ((fun b hb=>(m9 b hb).2) b hb))
    have a7:=a7.keep j1 (BC w5)
    have a6:=a6.mv z1 j1 (fun b hb=>BC (nbpr0_b5616_0_l_r5636 b hb))
    have a3:=a3.keep j1 (BC m7.2)
    have a0:=a0.keep j1 (BC w3.2)
    have a1:=a1.keep j1 (BC w4.2)
    refine BZ (AC (AF (?_)))
    obtain ⟨c4,z2,H1,s5,s6⟩:=a6.publish aD
    have g0:c1∈c4:=s6 c1 (by repeat (assumption)) (fun e=>absurd rfl (nbpr0_b5616_0_D_r5636 _ e))
    have i5:c2∈c4:=s6 c2 (by repeat (assumption)) (fun e=>absurd rfl (nbpr0_b5616_0_b5616 _ e))
    have d1:b3∈c4:=s6 b3 (by repeat (assumption)) (fun e=>absurd rfl (nbpr0_b5616_0_bnc34_10 _ e))
    have d2:b4∈c4:=s6 b4 (by repeat (assumption)) (fun e=>absurd rfl (nbpr0_b5616_0_bnc34_11 _ e))
    have bu:=s5.len_le
    have a2:=a2.mv H1
    have a8:=a8.mv H1 (Keep.refl [] _) (by simp)
    have a7:=a7.keep (Keep.refl [] _) (by simp)
    have a3:=a3.keep (Keep.refl [] _) (by simp)
    have a0:=a0.keep (Keep.refl [] _) (by simp)
    have a1:=a1.keep (Keep.refl [] _) (by simp)
    refine cw_draw' 9 _ _ [fun (vT:Value) (wT:World)=>BB Enc.share wT (c4++O) vT (FX lb (CQ la secret) lb.length),fun (vT:Value) (wT:World)=>BB Enc.u8 wT (c4++O) vT (secret),DZ (vI (secret.length:Int)),fun (vT:Value) (wT:World)=>BB Enc.u8 wT (c4++O) vT (List.replicate secret.length (0:UInt8)),fun (vT:Value) (wT:World)=>∃ (xT0:Value),vT = .tuple #[xT0,vI ((BE (FX lb (CQ la secret) lb.length) (List.replicate secret.length (0:UInt8))).2)]∧BB Enc.u8 wT (c4++O) xT0 ((BE (FX lb (CQ la secret) lb.length) (List.replicate secret.length (0:UInt8))).1),fun (vT:Value) (wT:World)=>∃ (xT0:Value),vT = .tuple #[xT0,vI ((BE (FX lb (CQ la secret) lb.length) (List.replicate secret.length (0:UInt8))).2)]∧BB Enc.u8 wT (c4++O) xT0 ((BE (FX lb (CQ la secret) lb.length) (List.replicate secret.length (0:UInt8))).1),fun (vT:Value) (wT:World)=>BB Enc.u8 wT (c4++O) vT ((BE (FX lb (CQ la secret) lb.length) (List.replicate secret.length (0:UInt8))).1),DZ (vI ((BE (FX lb (CQ la secret) lb.length) (List.replicate secret.length (0:UInt8))).2)),fun (vT:Value) (wT:World)=>BB Enc.u8 wT (c4++O) vT ((BE (FX lb (CQ la secret) lb.length) (List.replicate secret.length (0:UInt8))).1)] kR kR kR kR rfl rfl ⟨fun _ _ _ h k=>h.mv (Mv.of_keep k),fun _ _ _ h k=>h.mv (Mv.of_keep k),kI,fun _ _ _ h k=>h.mv (Mv.of_keep k),fun _ _ _ ⟨y0,e,h0⟩ k=>⟨y0,e,h0.mv (Mv.of_keep k)⟩,fun _ _ _ ⟨y0,e,h0⟩ k=>⟨y0,e,h0.mv (Mv.of_keep k)⟩,fun _ _ _ h k=>h.mv (Mv.of_keep k),kI,fun _ _ _ h k=>h.mv (Mv.of_keep k),trivial⟩ ⟨?_,?_,?_,?_,?_,?_,?_,?_,?_,trivial⟩ ?_
    ·intro F1 w1 k1 hf hd
     have k0:=(Keep.drew [] j0).trans k1
     have m1:Mv c4 j0 c4 w1:=Mv.of_keep k0
     have a3:=a3.keep k0 (by simp)
     have s5:=s5.mv m1
     obtain ⟨F2,rfl⟩:=AL (F:=F1) [(14,vP (some ⟨c2,0,none⟩))] ⟨hf 14 kR,trivial⟩
     exact AH rfl ((AW U32_ rfl (b2) rfl a3 rfl (⟨(Keep.refl _ _),s5⟩)))
    ·intro F1 w1 k1 hf hd
     have k0:=(Keep.drew [] j0).trans k1
     have m1:Mv c4 j0 c4 w1:=Mv.of_keep k0
     have a2:=a2.mv m1
     obtain ⟨F2,rfl⟩:=AL (F:=F1) [(2,secret_v)] ⟨hf 2 kR,trivial⟩
     exact AH rfl ((AE (secret_v) rfl (⟨(Keep.refl _ _),a2⟩)))
    ·intro F1 w1 k1 hf hd
     obtain ⟨aE,aF,E6⟩:∃ v,F1 104=v∧BB Enc.u8 w1 (c4++O) v (secret):=⟨_,rfl,hd 1 104 kR⟩
     have:=E6.len_le
     obtain ⟨F2,rfl⟩:=AL (F:=F1) [(104,aE)] ⟨aF,trivial⟩
     exact AH rfl ((CA U23_ rfl E6 (⟨(Keep.refl _ _),rfl⟩)))
    ·intro F1 w1 k1 hf hd
     have k0:=(Keep.drew [] j0).trans k1
     have s1:=z2.call k0
     obtain ⟨F2,rfl⟩:=AL (F:=F1) [(105,vI (secret.length:Int))] ⟨hd 2 105 kR,trivial⟩
     refine AH rfl ((o_makeR (E:=Enc.u8) U23_ RI [vB (0:UInt8)] rfl rfl (by decide) (0:UInt8) (fun _ _=>rfl) .i64 .i64 (secret.length:Int) (secret.length:Int) secret.length secret.length rfl rfl rfl rfl oM oM (by simp only [maxLen];omega) s1 fun cS cT cU cV aG R0=>(?_)))
     exact ⟨aG,R0⟩
    ·intro F1 w1 k1 hf hd
     have k0:=(Keep.drew [] j0).trans k1
     have s1:=z2.call k0
     obtain ⟨z3,aH,E7⟩:∃ v,F1 103=v∧BB Enc.share w1 (c4++O) v (FX lb (CQ la secret) lb.length):=⟨_,rfl,hd 0 103 kR⟩
     have:=E7.len_le
     obtain ⟨z4,aI,E8⟩:∃ v,F1 106=v∧BB Enc.u8 w1 (c4++O) v (List.replicate secret.length (0:UInt8)):=⟨_,rfl,hd 3 106 kR⟩
     have:=E8.len_le
     obtain ⟨F2,rfl⟩:=AL (F:=F1) [(103,z3),(106,z4)] ⟨aH,aI,trivial⟩
     refine AH rfl ((AZ (vs:=[z3,z4]) enter_15 (YD (O:=c4++O) z3 (FX lb (CQ la secret) lb.length) z4 (List.replicate secret.length (0:UInt8)) w1 E7 E8 s1.lt) rfl s1 fun cW cX cY cZ aJ aK=>(?_)))
     obtain ⟨aL,rfl,R1,s7⟩:=aK
     have s7:=s7.rd (O':=c4++O) (fun x hx=>.inl (List.mem_append_right _ hx)) (fun c hc hx=>by have:=R1 c hc;have:=s1.lt c hx;omega)
     have:=s7.len_le
     exact ⟨aJ,⟨aL,rfl,s7⟩⟩
    ·intro F1 w1 k1 hf hd
     obtain ⟨z5,aM,E9⟩:(fun (vT:Value) (wT:World)=>∃ (xT0:Value),vT = .tuple #[xT0,vI ((BE (FX lb (CQ la secret) lb.length) (List.replicate secret.length (0:UInt8))).2)]∧BB Enc.u8 wT (c4++O) xT0 ((BE (FX lb (CQ la secret) lb.length) (List.replicate secret.length (0:UInt8))).1)) (F1 107) w1:=hd 4 107 kR
     have:=E9.len_le
     obtain ⟨F2,rfl⟩:=AL (F:=F1) [(107,vT #[z5,vI ((BE (FX lb (CQ la secret) lb.length) (List.replicate secret.length (0:UInt8))).2)])] ⟨aM,trivial⟩
     exact AH rfl ((AE (vT #[z5,vI ((BE (FX lb (CQ la secret) lb.length) (List.replicate secret.length (0:UInt8))).2)]) rfl (⟨(Keep.refl _ _),⟨z5,rfl,E9⟩⟩)))
    ·intro F1 w1 k1 hf hd
     obtain ⟨H2,aN,F3⟩:(fun (vT:Value) (wT:World)=>∃ (xT0:Value),vT = .tuple #[xT0,vI ((BE (FX lb (CQ la secret) lb.length) (List.replicate secret.length (0:UInt8))).2)]∧BB Enc.u8 wT (c4++O) xT0 ((BE (FX lb (CQ la secret) lb.length) (List.replicate secret.length (0:UInt8))).1)) (F1 102) w1:=hd 5 102 kR
     have:=F3.len_le
     obtain ⟨F2,rfl⟩:=AL (F:=F1) [(102,vT #[H2,vI ((BE (FX lb (CQ la secret) lb.length) (List.replicate secret.length (0:UInt8))).2)])] ⟨aN,trivial⟩
     exact AH rfl ((AN (H2) rfl rfl (⟨(Keep.refl _ _),F3⟩)))
    ·intro F1 w1 k1 hf hd
     obtain ⟨aO,aP,R2⟩:(fun (vT:Value) (wT:World)=>∃ (xT0:Value),vT = .tuple #[xT0,vI ((BE (FX lb (CQ la secret) lb.length) (List.replicate secret.length (0:UInt8))).2)]∧BB Enc.u8 wT (c4++O) xT0 ((BE (FX lb (CQ la secret) lb.length) (List.replicate secret.length (0:UInt8))).1)) (F1 102) w1:=hd 5 102 kR
     have:=R2.len_le
     obtain ⟨F2,rfl⟩:=AL (F:=F1) [(102,vT #[aO,vI ((BE (FX lb (CQ la secret) lb.length) (List.replicate secret.length (0:UInt8))).2)])] ⟨aP,trivial⟩
     exact AH rfl ((AN (vI ((BE (FX lb (CQ la secret) lb.length) (List.replicate secret.length (0:UInt8))).2)) rfl rfl (⟨(Keep.refl _ _),rfl⟩)))
    ·intro F1 w1 k1 hf hd
     obtain ⟨H3,aQ,F4⟩:∃ v,F1 108=v∧BB Enc.u8 w1 (c4++O) v ((BE (FX lb (CQ la secret) lb.length) (List.replicate secret.length (0:UInt8))).1):=⟨_,rfl,hd 6 108 kR⟩
     have:=F4.len_le
     obtain ⟨F2,rfl⟩:=AL (F:=F1) [(108,H3)] ⟨aQ,trivial⟩
     exact AH rfl ((AD (H3) rfl (⟨(Keep.refl _ _),F4⟩)))
    intro H4 H5 l2 x4 s8
    have H6:=z2.call l2
    have aR:Mv c4 j0 c4 H5:=Mv.of_keep l2
    have a8:=a8.mv aR l2 (by simp)
    have a7:=a7.keep l2 (by simp)
    have a3:=a3.keep l2 (by simp)
    have a0:=a0.keep l2 (by simp)
    have a1:=a1.keep l2 (by simp)
    obtain ⟨H7,aU,F5⟩:∃ v,H4 17=v∧BB Enc.u8 H5 (c4++O) v ((BE (FX lb (CQ la secret) lb.length) (List.replicate secret.length (0:UInt8))).1):=⟨_,rfl,x4 8 17 kR (by decide)⟩
    have:=F5.len_le
    obtain ⟨F2,rfl⟩:=AL (F:=H4) [(7,vI ((BY secret (la[0]!.epoch) (la[0]!.threshold) (la[0]!.many) ((BE la secret).1)).2)),(12,c8),(116,NZ c1),(17,H7),(109,vI ((BE (FX lb (CQ la secret) lb.length) (List.replicate secret.length (0:UInt8))).2))] ⟨s8 7 kR,s8 12 kR,s8 116 kR,aU,x4 7 109 kR (by decide),trivial⟩
    clear x4 s8
    refine AA (AD (vI ((BE (FX lb (CQ la secret) lb.length) (List.replicate secret.length (0:UInt8))).2)) rfl (AG (AC (AF (AF (AB kR (AA (AE (vI ((BE (FX lb (CQ la secret) lb.length) (List.replicate secret.length (0:UInt8))).2)) rfl (AA (CT .i64 ((BE (FX lb (CQ la secret) lb.length) (List.replicate secret.length (0:UInt8))).2) (0:Int) rfl rfl (AG (AC (AJ (((BE (FX lb (CQ la secret) lb.length) (List.replicate secret.length (0:UInt8))).2) != (0:Int)) rfl rfl (fun x5=>?_) (fun x5=>?_))))))))))))))
    ·have bV:(BE (FX lb (CQ la secret) lb.length) (List.replicate secret.length (0:UInt8))).2≠(0:Int):=by simpa using x5
     refine AF (AB kR (AA (AE (vI ((BE (FX lb (CQ la secret) lb.length) (List.replicate secret.length (0:UInt8))).2)) rfl (AA (AD (nS) rfl (AA (AD (vI ((BE (FX lb (CQ la secret) lb.length) (List.replicate secret.length (0:UInt8))).2)) rfl (AG (AC (AM (AK (endM_rm rfl a7 (fun db aV=>?_)))))))))))))
     have aW:=H6.keepB aV (by repeat (assumption))
     refine ⟨_,EA rfl rfl rfl rfl,?_⟩
     have aX:((BU la lb secret).1)=([]):=by exact congrArg (fun p=>p.1) (show BU la lb secret=_ from mixed_5 hca hcb v8 hex aS)
     have aY:((BU la lb secret).2)=((BE (FX lb (CQ la secret) lb.length) (List.replicate secret.length (0:UInt8))).2):=by exact congrArg (fun p=>p.2) (show BU la lb secret=_ from mixed_5 hca hcb v8 hex aS)
     exact ⟨_,rfl,aW.keep,by rw [aX,aY];exact ⟨.slice none 0 0,rfl,BB.nil _ _ _⟩⟩
    have bW:(BE (FX lb (CQ la secret) lb.length) (List.replicate secret.length (0:UInt8))).2=(0:Int):=by simpa using x5
    refine AO (AC (AF (AB kR (AA (AE (c8) rfl (AA (AE (H7) rfl (?_))))))))
    obtain ⟨dc,R3,o1,aZ,R4⟩:=own_back H6 a8
    refine AA (o_append8 (l:=(BE la secret).1) (m:=(BE (FX lb (CQ la secret) lb.length) (List.replicate secret.length (0:UInt8))).1) U23_ RI rfl (by decide) rfl rfl R4 F5 R3 (by have:=MK (l:=FX lb (CQ la secret) lb.length) aS;omega) (by have:=MK (l:=FX lb (CQ la secret) lb.length) aS;simp only [maxLen];omega) aZ fun o2 ba o3 bX s9 o4 bb dd bc x6=>(?_))
    have R5:∀ b,o2.ownBlock=some b→b≠c1:=fun b hb=>by have:=a7.lt;rcases s9 with e1|e1 <;> rw [e1] at hb <;> first|exact (fun b hb=>(m9 b hb).1) b hb|(cases hb;omega)
    have a7:=a7.keep bc (by simp only [Option.mem_toList];exact fun e=>absurd rfl ((fun b hb=>(m9 b hb).1) _ e))
    have g0:c1∈o3:=o4 c1 (o1 c1 (by repeat (assumption)))
    have bY:∀ b,o2.ownBlock=some b→b≠c2:=fun b hb=>by have:=a3.lt;rcases s9 with e1|e1 <;> rw [e1] at hb <;> first|exact C3 b hb|(cases hb;omega)
    have i5:c2∈o3:=o4 c2 (o1 c2 (by repeat (assumption)))
    have bZ:∀ b,o2.ownBlock=some b→b≠b3:=fun b hb=>by have:=a0.lt;rcases s9 with e1|e1 <;> rw [e1] at hb <;> first|exact O0 b hb|(cases hb;omega)
    have d1:b3∈o3:=o4 b3 (o1 b3 (by repeat (assumption)))
    have ca:∀ b,o2.ownBlock=some b→b≠b4:=fun b hb=>by have:=a1.lt;rcases s9 with e1|e1 <;> rw [e1] at hb <;> first|exact O1 b hb|(cases hb;omega)
    have d2:b4∈o3:=o4 b4 (o1 b4 (by repeat (assumption)))
    refine AA (AD (o2) rfl (AA (AD (vI 0) rfl (AG (AC (AM (endM_rm rfl a7 (fun bd z6=>?_))))))))
    have H8:=bb.keepB z6 (by repeat (assumption))
    have be:Mv o3 ba o3 bd:=Mv.keepB z6 (by repeat (assumption))
    have x6:=x6.mv be z6 (fun b hb=>BC (R5 b hb))
    refine ⟨_,EA rfl rfl rfl rfl,?_⟩
    have bf:((BU la lb secret).1)=(((BE la secret).1)++((BE (FX lb (CQ la secret) lb.length) (List.replicate secret.length (0:UInt8))).1)):=by exact congrArg (fun p=>p.1) (show BU la lb secret=_ from mixed_6 hca hcb v8 hex aS)
    have bg:((BU la lb secret).2)=(0:Int):=by exact congrArg (fun p=>p.2) (show BU la lb secret=_ from mixed_6 hca hcb v8 hex aS)
    exact ⟨_,rfl,H8.keep,by rw [bf,bg];exact ⟨o2,rfl,x6.pub H8⟩⟩
   have cb:((la[0]!.data).length:Int)≠((lb[0]!.data).length:Int):=by simpa using C2
   refine AT rfl (AT rfl (AT rfl (AT rfl (AT rfl (AT rfl (AA (AX (vO true) rfl rfl (AG (AC (AJ true rfl rfl (fun _=>AF (AB kR (AA (AD (nS) rfl (AA (AD (vI 460) rfl (AG (AC (AM (AK (QZ rfl (EA rfl rfl rfl rfl) (?_)))))))))))) (fun h=>by cases h)))))))))))
   have bh:((BU la lb secret).1)=([]):=by exact congrArg (fun p=>p.1) (show BU la lb secret=_ from MM aS aS (EK oM))
   have bi:((BU la lb secret).2)=(460:Int):=by exact congrArg (fun p=>p.2) (show BU la lb secret=_ from MM aS aS (EK oM))
   exact ⟨_,rfl,k4.keep,by rw [bh,bi];exact ⟨.slice none 0 0,rfl,BB.nil _ _ _⟩⟩
  have cc:la[0]!.many≠lb[0]!.many:=by simpa using C1
  refine AT rfl (AT rfl (AT rfl (AT rfl (AT rfl (AT rfl (AT rfl (AA (AX (vO true) rfl rfl (AA (AE (vO true) rfl (AT rfl (AT rfl (AT rfl (AT rfl (AT rfl (AT rfl (AA (AX (vO true) rfl rfl (AG (AC (AJ true rfl rfl (fun _=>AF (AB kR (AA (AD (nS) rfl (AA (AD (vI 460) rfl (AG (AC (AM (AK (QZ rfl (EA rfl rfl rfl rfl) (?_)))))))))))) (fun h=>by cases h))))))))))))))))))))))
  have bj:((BU la lb secret).1)=([]):=by exact congrArg (fun p=>p.1) (show BU la lb secret=_ from MM aS aS (EK oM))
  have bk:((BU la lb secret).2)=(460:Int):=by exact congrArg (fun p=>p.2) (show BU la lb secret=_ from MM aS aS (EK oM))
  exact ⟨_,rfl,k4.keep,by rw [bj,bk];exact ⟨.slice none 0 0,rfl,BB.nil _ _ _⟩⟩
 have cd:la[0]!.threshold≠lb[0]!.threshold:=by simpa using C0
 refine AT rfl (AT rfl (AT rfl (AT rfl (AT rfl (AA (AX (vO true) rfl rfl (AA (AE (vO true) rfl (AT rfl (AT rfl (AT rfl (AT rfl (AT rfl (AT rfl (AT rfl (AA (AX (vO true) rfl rfl (AA (AE (vO true) rfl (AT rfl (AT rfl (AT rfl (AT rfl (AT rfl (AT rfl (AA (AX (vO true) rfl rfl (AG (AC (AJ true rfl rfl (fun _=>AF (AB kR (AA (AD (nS) rfl (AA (AD (vI 460) rfl (AG (AC (AM (AK (QZ rfl (EA rfl rfl rfl rfl) (?_)))))))))))) (fun h=>by cases h)))))))))))))))))))))))))))))))
 have bm:((BU la lb secret).1)=([]):=by exact congrArg (fun p=>p.1) (show BU la lb secret=_ from MM aS aS (EK oM))
 have bn:((BU la lb secret).2)=(460:Int):=by exact congrArg (fun p=>p.2) (show BU la lb secret=_ from MM aS aS (EK oM))
 exact ⟨_,rfl,k4.keep,by rw [bm,bn];exact ⟨.slice none 0 0,rfl,BB.nil _ _ _⟩⟩
open Go.Fw Go.RowKit
set_option maxHeartbeats 4000000 in
set_option maxRecDepth 100000 in
theorem OR {O B:List Nat} {w0 w:World} (e:Int) (x0 x1:Nat) (s0:St w0 O w B) (h0:IB w x0 28 [vI 0,vI 0,vI 0,nS,nS]) (h1:IB w x1 29 [vI 0]) (f9:x0∈B) (g0:x1∈B) (hne:x0≠x1):CallsD Try.prog 103 [vP (some ⟨x0,0,none⟩),vP (some ⟨x1,0,none⟩)].toArray (.panicking [{ v:=.iface 125 (.agg #[vI e]),recovered:=false }]) w (fun e_ u_ w_=>u_=XE (.panicking [{ v:=.iface 125 (.agg #[vI e]),recovered:=false }])∧∃ v,e_ = .returned v∧St w0 O w_ B∧Mv B w B w_∧Keep [x0,x1] w w_∧IB w_ x0 28 [vI 0,vI 0,vI 0,nS,nS]∧IB w_ x1 29 [vI e]):= by
  have ms:Mv B w B w:=Mv.refl _ _
  have ks:Keep [x0,x1] w w:=Keep.refl _ _
  refine US 19 (.panicking [{ v:=.iface 125 (.agg #[vI e]),recovered:=false }]) Try.func103 rfl rfl oT rfl rfl (fun F0=>AF (AB kR (AA (AE (Value.iface 125 (vA #[vI e])) rfl (AA (o_neqNil U20_ rfl (AG (AC (AJ true rfl rfl (fun _=>AF (AB kR (AA (AE (Value.iface 125 (vA #[vI e])) rfl (AA (o_assertOk U125_ rfl rfl (AA (AE (vT #[vA #[vI e],vO true]) rfl (AA (AN (vA #[vI e]) rfl rfl (AA (AN (vO true) rfl rfl (AA (DE [vI 0] SD rfl s0 fun a1 g1 d0 d1 d2 b7 c6=>(?_))))))))))))))) (fun h=>by cases h))))))))))
  have d3:w.heap.size≤a1:=by have:=ks.size;omega
  have a8:x0≠a1:=by have:=h0.lt;omega
  have a9:x1≠a1:=by have:=h1.lt;omega
  clear d0
  have h0:=h0.keep b7 (by simp)
  have h1:=h1.keep b7 (by simp)
  have ms:=ms.trans d2
  have ks:=ks.step0 b7 (fun b hb=>by (simp at hb;done))
  refine CB (BF (vs:=[vI e]) (.agg #[vI e]) rfl rfl rfl s_125 (fun u hu=>by simp only [List.mem_cons,List.not_mem_nil,or_false] at hu;rcases hu with rfl <;> rfl) (by repeat (constructor)) c6 oT d1 fun a2 a4 d4 b8 a0=>(?_))
  have h0:=h0.keep b8 (BC a8)
  have h1:=h1.keep b8 (BC a9)
  have ms:=ms.trans d4
  have ks:=ks.step0 b8 (fun b hb=>by (simp only [List.mem_singleton] at hb;subst hb;(right;omega)))
  refine AA (AD (vO true) rfl (AG (AC (AF (AF (AB kR (AA (AE (vO true) rfl (AA (HP true rfl (AG (AC (AJ false rfl rfl (fun h=>by cases h) (fun _=>AO (AC (cw_drawL 3 [1,2] _ _ _ [DZ (vA #[vI 0,vI 0,vI 0,nS,nS]),DZ (vP (some ⟨a1,0,none⟩)),DZ (vI e)] kR kR kR kR (by decide) rfl rfl rfl ⟨kI,kI,kI,trivial⟩ ⟨?_,?_,?_,trivial⟩ ?_ ?_))))))))))))))))
  · intro F1 w1 k1 hf hd
    have k0:=(Keep.drew [] a2).trans k1
    have s1:=a4.call k0
    have m1:Mv (a1 :: B) a2 (a1 :: B) w1:=Mv.of_keep k0
    obtain ⟨F2,rfl⟩:=AL (F:=F1) [] trivial
    exact AH rfl ((EN (l:=[]) TM NN rfl [] [vI 0,vI 0,vI 0,nS,nS] rfl rfl (⟨(Keep.refl _ _),rfl⟩)))
  · intro F1 w1 k1 hf hd
    have k0:=(Keep.drew [] a2).trans k1
    have s1:=a4.call k0
    have m1:Mv (a1 :: B) a2 (a1 :: B) w1:=Mv.of_keep k0
    have a0:=a0.keep k0 (by simp)
    obtain ⟨F2,rfl⟩:=AL (F:=F1) [(3,vP (some ⟨a1,0,none⟩))] ⟨hf 3 kR,trivial⟩
    exact AH rfl ((AU 0 f_125_0 rfl (⟨(Keep.refl _ _),rfl⟩)))
  · intro F1 w1 k1 hf hd
    have k0:=(Keep.drew [] a2).trans k1
    have s1:=a4.call k0
    have m1:Mv (a1 :: B) a2 (a1 :: B) w1:=Mv.of_keep k0
    have a0:=a0.keep k0 (by simp)
    obtain ⟨F2,rfl⟩:=AL (F:=F1) [(17,vP (some ⟨a1,0,none⟩))] ⟨hd 1 17 kR,trivial⟩
    exact AH rfl ((AW U29_ rfl (vI e) rfl a0 rfl (⟨(Keep.refl _ _),rfl⟩)))
  · intro d5 d6 a5 b2 b0
    have d7:=a4.call a5
    have d8:Mv (a1 :: B) a2 (a1 :: B) d6:=Mv.of_keep a5
    have h0:=h0.keep a5 (by simp)
    have h1:=h1.keep a5 (by simp)
    have a0:=a0.keep a5 (by simp)
    have ms:=ms.trans d8
    have ks:=ks.step0 a5 (fun b hb=>by (simp at hb;done))
    obtain ⟨F2,rfl⟩:=AL (F:=d5) [(0,vP (some ⟨x0,0,none⟩)),(1,vP (some ⟨x1,0,none⟩)),(19,undef),(16,vA #[vI 0,vI 0,vI 0,nS,nS]),(18,vI e)] ⟨b0 0 kR,b0 1 kR,b0 19 kR,b2 0 16 kR (by decide),b2 2 18 kR (by decide),trivial⟩
    clear b2 b0
    refine CB (BF (vs:=[vI 0,vI 0,vI 0,nS,nS]) (.agg #[vI 0,vI 0,vI 0,nS,nS]) rfl rfl rfl BR (fun u hu=>by simp only [List.mem_cons,List.not_mem_nil,or_false] at hu;rcases hu with rfl|rfl|rfl|rfl|rfl <;> rfl) rC h0 oT d7 fun g2 d9 e0 b9 b3=>(?_))
    have h1:=h1.keep b9 (BC (Ne.symm hne))
    have a0:=a0.keep b9 (BC (Ne.symm a8))
    have ms:=ms.trans e0
    have ks:=ks.step0 b9 (fun b hb=>by (simp only [List.mem_singleton] at hb;subst hb;(left;simp [Value.ownBlock];done)))
    refine CB (CI (vI e) rfl rfl rfl TE rC h1 oT d9 fun g3 e1 e2 c0 c7=>(?_))
    have b3:=b3.keep c0 (BC hne)
    have a0:=a0.keep c0 (BC (Ne.symm a9))
    have ms:=ms.trans e2
    have ks:=ks.step0 c0 (fun b hb=>by (simp only [List.mem_singleton] at hb;subst hb;(left;simp [Value.ownBlock];done)))
    refine AG (GW rfl (KE rfl) (?_))
    exact ⟨_,rfl,e1.drop (fun b hb=>rC),ms.trans (Mv.drop (fun b hb=>rC)),ks,b3,c7⟩
  intro cx_ hcx_
  match cx_,hcx_ with
  | 0,_=>
    intro e3 e4 a6 c5 a3
    have e5:=a4.call a6
    have e6:Mv (a1 :: B) a2 (a1 :: B) e4:=Mv.of_keep a6
    have h0:=h0.keep a6 (by simp)
    have h1:=h1.keep a6 (by simp)
    have a0:=a0.keep a6 (by simp)
    have ms:=ms.trans e6
    have ks:=ks.step0 a6 (fun b hb=>by (simp at hb;done))
    obtain ⟨F2,rfl⟩:=AL (F:=e3) [(0,vP (some ⟨x0,0,none⟩)),(1,vP (some ⟨x1,0,none⟩)),(3,vP (some ⟨a1,0,none⟩)),(19,undef),(16,vA #[vI 0,vI 0,vI 0,nS,nS])] ⟨a3 0 kR,a3 1 kR,a3 3 kR,a3 19 kR,c5 0 16 kR (by decide) (by decide),trivial⟩
    clear c5 a3
    refine CB (BF (vs:=[vI 0,vI 0,vI 0,nS,nS]) (.agg #[vI 0,vI 0,vI 0,nS,nS]) rfl rfl rfl BR (fun u hu=>by simp only [List.mem_cons,List.not_mem_nil,or_false] at hu;rcases hu with rfl|rfl|rfl|rfl|rfl <;> rfl) rC h0 oT e5 fun g4 e7 e8 c1 b4=>(?_))
    have h1:=h1.keep c1 (BC (Ne.symm hne))
    have a0:=a0.keep c1 (BC (Ne.symm a8))
    have ms:=ms.trans e8
    have ks:=ks.step0 c1 (fun b hb=>by (simp only [List.mem_singleton] at hb;subst hb;(left;simp [Value.ownBlock];done)))
    refine AA (AU 0 f_125_0 rfl (AA (AW U29_ rfl (vI e) rfl a0 rfl (CB (CI (vI e) rfl rfl rfl TE rC h1 oT e7 fun g5 e9 f0 c2 c8=>(?_))))))
    have b4:=b4.keep c2 (BC hne)
    have a0:=a0.keep c2 (BC (Ne.symm a9))
    have ms:=ms.trans f0
    have ks:=ks.step0 c2 (fun b hb=>by (simp only [List.mem_singleton] at hb;subst hb;(left;simp [Value.ownBlock];done)))
    refine AG (GW rfl (KE rfl) (?_))
    exact ⟨_,rfl,e9.drop (fun b hb=>rC),ms.trans (Mv.drop (fun b hb=>rC)),ks,b4,c8⟩
  | 1,_=>
    intro f1 f2 a7 b5 b1
    have f3:=a4.call a7
    have f4:Mv (a1 :: B) a2 (a1 :: B) f2:=Mv.of_keep a7
    have h0:=h0.keep a7 (by simp)
    have h1:=h1.keep a7 (by simp)
    have a0:=a0.keep a7 (by simp)
    have ms:=ms.trans f4
    have ks:=ks.step0 a7 (fun b hb=>by (simp at hb;done))
    obtain ⟨F2,rfl⟩:=AL (F:=f1) [(0,vP (some ⟨x0,0,none⟩)),(1,vP (some ⟨x1,0,none⟩)),(19,undef),(16,vA #[vI 0,vI 0,vI 0,nS,nS]),(17,vP (some ⟨a1,0,none⟩))] ⟨b1 0 kR,b1 1 kR,b1 19 kR,b5 0 16 kR (by decide) (by decide),b5 1 17 kR (by decide) (by decide),trivial⟩
    clear b5 b1
    refine CB (BF (vs:=[vI 0,vI 0,vI 0,nS,nS]) (.agg #[vI 0,vI 0,vI 0,nS,nS]) rfl rfl rfl BR (fun u hu=>by simp only [List.mem_cons,List.not_mem_nil,or_false] at hu;rcases hu with rfl|rfl|rfl|rfl|rfl <;> rfl) rC h0 oT f3 fun g6 f5 f6 c3 b6=>(?_))
    have h1:=h1.keep c3 (BC (Ne.symm hne))
    have a0:=a0.keep c3 (BC (Ne.symm a8))
    have ms:=ms.trans f6
    have ks:=ks.step0 c3 (fun b hb=>by (simp only [List.mem_singleton] at hb;subst hb;(left;simp [Value.ownBlock];done)))
    refine AA (AW U29_ rfl (vI e) rfl a0 rfl (CB (CI (vI e) rfl rfl rfl TE rC h1 oT f5 fun g7 f7 f8 c4 c9=>(?_))))
    have b6:=b6.keep c4 (BC hne)
    have a0:=a0.keep c4 (BC (Ne.symm a9))
    have ms:=ms.trans f8
    have ks:=ks.step0 c4 (fun b hb=>by (simp only [List.mem_singleton] at hb;subst hb;(left;simp [Value.ownBlock];done)))
    refine AG (GW rfl (KE rfl) (?_))
    exact ⟨_,rfl,f7.drop (fun b hb=>rC),ms.trans (Mv.drop (fun b hb=>rC)),ks,b6,c9⟩
open Go.Fw Go.RowKit
end Go.Proofs.Ytjgfokolnkhafaa
namespace Go.Proofs.Ytjgfokolnkhafaa
open Go.Fw Go.RowKit
set_option maxHeartbeats 4000000 in
set_option maxRecDepth 100000 in
theorem YH {O:List Nat} (c_cs:List Value) (c:Circle) (no:Int) (guardian:Int) (w:World) (G8:Enc.circle.rd w O c_cs c) (hO:∀ b∈O,b<w.heap.size):CE Try.prog 35 [.agg c_cs.toArray,vI no,vI guardian] w (fun v w'=>∃ (x0:List Value),v = .tuple #[.agg x0.toArray,vI ((CR c no (BS c guardian)).2)]∧Enc.circle.rd w' (O) x0 ((CR c no (BS c guardian)).1)):= by
 have G8:Enc.circle.rd w ([]++O) c_cs c:=G8
 have s0:St w O w []:=St.start hO
 refine BI 14 Try.func35 rfl rfl oT (fun F0=>AF (AB kR (AA (ER (E:=Enc.circle) (vA c_cs.toArray) (c_cs) c rfl rfl G8 s0 fun e6 aN N3 aO aP b5=>(AA (ER (E:=Enc.int) (vI guardian) ([vI guardian]) guardian rfl rfl rfl N3 fun e2 aQ N4 N5 aR b6=>(?_)))))))
 have b5:=b5.mv N5
 refine AA (DE [vI 0,vI 0,vI 0,nS,nS] NN rfl N4 fun b1 aU N6 N7 D1 aV a0=>(?_))
 clear N6
 have b5:=b5.mv D1
 have b6:=b6.mv D1
 refine AA (AD (vI 0) rfl (AG (AC (AF (AB kR (AA (DF U28_ rfl BR rfl b5 fun r2 G9=>(AA (AE (vI no) rfl (AA (DP (first:=[]) (captured:=[.tmp 3, .tmp 5]) [] [vP (some e6),vP (some e2)] rfl rfl (AA (HY [vA r2.toArray,vI no,vN (.func 69) #[] #[vP (some e6),vP (some e2)]] enter_68 rfl (SB 51 Try.func68 rfl rfl oT (fun aW=>AF (AB kR (AA (ER (E:=Enc.circle) (vA r2.toArray) (r2) c rfl rfl G9 N7 fun aX aY N8 D2 N9 a9=>(?_)))))))))))))))))))
 have b5:=b5.mv D2
 have b6:=b6.mv D2
 have a0:=a0.keep N9 (by simp)
 refine AA (DE [vI 0,vI 0,vI 0,nS,nS] NN rfl N8 fun a3 aZ O0 O1 u7 O2 a8=>(?_))
 have c6:GV b1 a3:=by show b1≠a3;have:=a0.lt;omega
 clear O0
 have b5:=b5.mv u7
 have b6:=b6.mv u7
 have a9:=a9.mv u7
 have a0:=a0.keep O2 (by simp)
 refine AA (DE [vI 0] z_29 rfl O1 fun a6 O3 O4 D3 u9 D4 a1=>(?_))
 have e8:GV b1 a6:=by show b1≠a6;have:=a0.lt;omega
 have c0:GV a3 a6:=by show a3≠a6;have:=a8.lt;omega
 clear O4
 have b5:=b5.mv u9
 have b6:=b6.mv u9
 have a9:=a9.mv u9
 have a0:=a0.keep D4 (by simp)
 have a8:=a8.keep D4 (by simp)
 refine AG (AC (AF (AF (AB kR (AA (DF U28_ rfl BR rfl a9 fun y3 H0=>(AA (AZ (vs:=[vA y3.toArray]) NC (PO (O:=(a6 :: (a3 :: (b1 :: [])))++O) y3 c O3 H0 D3.lt) rfl D3 fun ba bb p4 v0 v1 O5=>(?_)))))))))
 obtain rfl:=O5
 have b5:=b5.mv v0
 have b6:=b6.mv v0
 have a9:=a9.mv v0
 have a0:=a0.keep v1 (by simp)
 have a8:=a8.keep v1 (by simp)
 have a1:=a1.keep v1 (by simp)
 refine AA (AD (vI (AQ c)) rfl (AG (AC (AF (AB kR (AA (AE (vI (AQ c)) rfl (AA (CT .i64 (AQ c) (0:Int) rfl rfl (AG (AC (AJ ((AQ c) != (0:Int)) rfl rfl (fun r3=>?_) (fun r3=>?_)))))))))))))
 ·have Z6:AQ c≠(0:Int):=by simpa using r3
  refine AF (AB kR (AA (BW (vs:=[vI 0,vI 0,vI 0,nS,nS]) U28_ rfl BR rfl a8 rfl (AA (AE (vI (AQ c)) rfl (CB (BF (vs:=[vI 0,vI 0,vI 0,nS,nS]) (.agg #[vI 0,vI 0,vI 0,nS,nS]) rfl rfl rfl BR (fun u hu=>by simp only [List.mem_cons,List.not_mem_nil,or_false] at hu;rcases hu with rfl|rfl|rfl|rfl|rfl <;> rfl) (by repeat (constructor)) a8 oT p4 fun bc O6 bd D5 r4=>(?_))))))))
  have a0:=a0.keep D5 (BC c6)
  have a1:=a1.keep D5 (BC (Ne.symm c0))
  refine CB (CI (vI (AQ c)) rfl rfl rfl TE (by repeat (constructor)) a1 oT O6 fun be O7 bf D6 H1=>(?_))
  have a0:=a0.keep D6 (BC e8)
  have r4:=r4.keep D6 (BC c0)
  refine AG (AC (AM (AK (SR rfl (FA rfl (EZ (vs:=[vI 0,vI 0,vI 0,nS,nS]) rfl U28_ rfl BR rfl r4 rfl) (OM rfl U29_ rfl rfl H1 rfl)) (EB (AA (AN (vA #[vI 0,vI 0,vI 0,nS,nS]) rfl rfl (AA (AN (vI (AQ c)) rfl rfl (CB (BF (vs:=[vI 0,vI 0,vI 0,nS,nS]) (.agg #[vI 0,vI 0,vI 0,nS,nS]) rfl rfl rfl BR (fun u hu=>by simp only [List.mem_cons,List.not_mem_nil,or_false] at hu;rcases hu with rfl|rfl|rfl|rfl|rfl <;> rfl) (by repeat (constructor)) a0 oT O7 fun bg O8 bh bi H2=>(AA (AD (vI (AQ c)) rfl (AG (AC (AM (AS rfl (FA rfl (EZ (vs:=[vI 0,vI 0,vI 0,nS,nS]) rfl U28_ rfl BR rfl H2 rfl) (ES rfl rfl)) (?_))))))))))))))))))
  have O9:((CR c no (BS c guardian)).1)=(⟨(0:Int),(0:Int),(0:Int),[],[]⟩:Circle):=by exact congrArg (fun p=>p.1) (show CR c no (BS c guardian)=_ from app_bad aS)
  have P0:((CR c no (BS c guardian)).2)=(AQ c):=by exact congrArg (fun p=>p.2) (show CR c no (BS c guardian)=_ from app_bad aS)
  exact ⟨_,rfl,O8.keep,by rw [O9,P0];exact ⟨[vI 0,vI 0,vI 0,nS,nS],rfl,Enc.out (B:=(a6 :: (a3 :: (b1 :: [])))) ⟨.slice none 0 0, .slice none 0 0,rfl,(BB.nil _ _ _),(BB.nil _ _ _)⟩⟩⟩
 have H3:AQ c=(0:Int):=by simpa using r3
 have hok:AQ c=0:=H3
 have hrl:=recs_le hok
 refine AO (AC (AF (AF (AB kR (AA (AE (vI no) rfl (AA (DO .i64 no (0:Int) rfl rfl (AA (AE (vO (decide (no<(0:Int)))) rfl (?_)))))))))))
 cases y4:(decide (no<(0:Int)))
 ·have Z7:(0:Int)≤no:=by simpa using y4
  refine BJ rfl (AE (vI no) rfl (BJ rfl (BH 4 FD (c.recs) rfl a9 (fun _ _ _ h=>DI h) fun bj H4=>(BJ rfl (CF U26_ rfl rfl H4 fun bk y5=>(?_))))))
  have:=y5.len_le
  refine BJ rfl (CA U26_ rfl y5 (BJ rfl (KR .i64 no (c.recs.length:Int) rfl rfl (AA (BX (vO (decide ((c.recs.length:Int)≤no))) rfl rfl (AG (AC (AJ (decide ((c.recs.length:Int)≤no)) rfl rfl (fun r5=>?_) (fun r5=>?_)))))))))
  ·have Z8:(c.recs.length:Int)≤no:=by simpa using r5
   refine AF (AB kR (AA (BW (vs:=[vI 0,vI 0,vI 0,nS,nS]) U28_ rfl BR rfl a8 rfl (CB (BF (vs:=[vI 0,vI 0,vI 0,nS,nS]) (.agg #[vI 0,vI 0,vI 0,nS,nS]) rfl rfl rfl BR (fun u hu=>by simp only [List.mem_cons,List.not_mem_nil,or_false] at hu;rcases hu with rfl|rfl|rfl|rfl|rfl <;> rfl) (by repeat (constructor)) a8 oT p4 fun bm P1 bn D7 r6=>(?_))))))
   have a0:=a0.keep D7 (BC c6)
   have a1:=a1.keep D7 (BC (Ne.symm c0))
   refine CB (CI (vI 1) rfl rfl rfl TE (by repeat (constructor)) a1 oT P1 fun bo P2 bp D8 H5=>(?_))
   have a0:=a0.keep D8 (BC e8)
   have r6:=r6.keep D8 (BC c0)
   refine AG (AC (AM (AK (SR rfl (FA rfl (EZ (vs:=[vI 0,vI 0,vI 0,nS,nS]) rfl U28_ rfl BR rfl r6 rfl) (OM rfl U29_ rfl rfl H5 rfl)) (EB (AA (AN (vA #[vI 0,vI 0,vI 0,nS,nS]) rfl rfl (AA (AN (vI 1) rfl rfl (CB (BF (vs:=[vI 0,vI 0,vI 0,nS,nS]) (.agg #[vI 0,vI 0,vI 0,nS,nS]) rfl rfl rfl BR (fun u hu=>by simp only [List.mem_cons,List.not_mem_nil,or_false] at hu;rcases hu with rfl|rfl|rfl|rfl|rfl <;> rfl) (by repeat (constructor)) a0 oT P2 fun bq P3 br bs H6=>(AA (AD (vI 1) rfl (AG (AC (AM (AS rfl (FA rfl (EZ (vs:=[vI 0,vI 0,vI 0,nS,nS]) rfl U28_ rfl BR rfl H6 rfl) (ES rfl rfl)) (?_))))))))))))))))))
   have P4:((CR c no (BS c guardian)).1)=(⟨(0:Int),(0:Int),(0:Int),[],[]⟩:Circle):=by exact congrArg (fun p=>p.1) (show CR c no (BS c guardian)=_ from app_no hok oM)
   have P5:((CR c no (BS c guardian)).2)=(1:Int):=by exact congrArg (fun p=>p.2) (show CR c no (BS c guardian)=_ from app_no hok oM)
   exact ⟨_,rfl,P3.keep,by rw [P4,P5];exact ⟨[vI 0,vI 0,vI 0,nS,nS],rfl,Enc.out (B:=(a6 :: (a3 :: (b1 :: [])))) ⟨.slice none 0 0, .slice none 0 0,rfl,(BB.nil _ _ _),(BB.nil _ _ _)⟩⟩⟩
  have Z9:no<(c.recs.length:Int):=by simpa using r5
  refine AO (AC (AF (cw_defer [vP (some ⟨a3,0,none⟩),vP (some ⟨a6,0,none⟩)] rfl rfl rfl rfl (AC (AF (AB kR (AA (BH 4 FD (c.recs) rfl a9 (fun _ _ _ h=>DI h) fun bt H7=>(AA (CF U26_ rfl rfl H7 fun bu y6=>(?_)))))))))))
  have:=y6.len_le
  refine AA (AE (vI no) rfl (AA (CP U26_ IE .i64 no no.toNat rfl rfl oM y6 oM fun bv H8=>(AA (DF U68_ rfl IE rfl H8 fun aa H9=>(?_))))))
  obtain ⟨d1,d2,rfl,b4,a4⟩:=H9
  have:=b4.len_le
  have:=a4.len_le
  refine AA (EN (l:=[(0, .tmp 31)]) pl_113 z_113 rfl [(0,vA #[vI ((c.recs[no.toNat]!).no),vI ((c.recs[no.toNat]!).asked),vI ((c.recs[no.toNat]!).state),d1,d2],[vI ((c.recs[no.toNat]!).no),vI ((c.recs[no.toNat]!).asked),vI ((c.recs[no.toNat]!).state),d1,d2])] [vI ((c.recs[no.toNat]!).no),vI ((c.recs[no.toNat]!).asked),vI ((c.recs[no.toNat]!).state),d1,d2] rfl ⟨_,rfl,rfl,oT,rfl⟩ (AA (o_box (vA #[vI ((c.recs[no.toNat]!).no),vI ((c.recs[no.toNat]!).asked),vI ((c.recs[no.toNat]!).state),d1,d2]) [vI ((c.recs[no.toNat]!).no),vI ((c.recs[no.toNat]!).asked),vI ((c.recs[no.toNat]!).state),d1,d2] rfl rfl p4 fun a2 bw P6 P7 m6 v2 b0=>(?_))))
  have y7:GV b1 a2:=by show b1≠a2;have:=a0.lt;omega
  have g4:GV a3 a2:=by show a3≠a2;have:=a8.lt;omega
  have y8:GV a6 a2:=by show a6≠a2;have:=a1.lt;omega
  clear P6
  have b5:=b5.mv m6
  have b6:=b6.mv m6
  have a9:=a9.mv m6
  have b4:=b4.mv m6
  have a4:=a4.mv m6
  have a0:=a0.keep v2 (by simp)
  have a8:=a8.keep v2 (by simp)
  have a1:=a1.keep v2 (by simp)
  refine AA (AD (vP (some ⟨a2,0,none⟩)) rfl (AG (AC (AF (AB kR (AA (AE (vN (.func 69) #[] #[vP (some e6),vP (some e2)]) rfl (AA (AE (vP (some ⟨a2,0,none⟩)) rfl (AA (KZ [] [vP (some e6),vP (some e2)] [vP (some ⟨a2,0,none⟩)] enter_69 rfl rfl (CG 11 Try.func69 rfl rfl oT (fun bx=>AF (AB kR (AA (o_box (vP (some ⟨a2,0,none⟩)) [vP (some ⟨a2,0,none⟩)] rfl rfl P7 fun a5 bz P8 P9 m7 p5 a7=>(?_)))))))))))))))))
  have ab:GV b1 a5:=by show b1≠a5;have:=a0.lt;omega
  have r7:GV a3 a5:=by show a3≠a5;have:=a8.lt;omega
  have ac:GV a6 a5:=by show a6≠a5;have:=a1.lt;omega
  have y9:GV a2 a5:=by show a2≠a5;have:=b0.lt;omega
  clear P8
  have b5:=b5.mv m7
  have b6:=b6.mv m7
  have a9:=a9.mv m7
  have b4:=b4.mv m7
  have a4:=a4.mv m7
  have a0:=a0.keep p5 (by simp)
  have a8:=a8.keep p5 (by simp)
  have a1:=a1.keep p5 (by simp)
  have b0:=b0.keep p5 (by simp)
  refine AG (AC (AB kR (AA (AW U106_ rfl (vP (some ⟨a2,0,none⟩)) rfl a7 rfl (AA (VD P9 fun b2 bA Q0 Q1 m9 n2 I0=>(?_)))))))
  have r8:GV b1 b2:=by show b1≠b2;have:=a0.lt;omega
  have i9:GV a3 b2:=by show a3≠b2;have:=a8.lt;omega
  have r9:GV a6 b2:=by show a6≠b2;have:=a1.lt;omega
  have k4:GV a2 b2:=by show a2≠b2;have:=b0.lt;omega
  have s2:GV a5 b2:=by show a5≠b2;have:=a7.lt;omega
  clear Q0
  have b5:=b5.mv m9
  have b6:=b6.mv m9
  have a9:=a9.mv m9
  have b4:=b4.mv m9
  have a4:=a4.mv m9
  have a0:=a0.keep n2 (by simp)
  have a8:=a8.keep n2 (by simp)
  have a1:=a1.keep n2 (by simp)
  have b0:=b0.keep n2 (by simp)
  have a7:=a7.keep n2 (by simp)
  refine AA (DP (first:=[]) (captured:=[.tmp 3]) [] [vP (some ⟨a5,0,none⟩)] rfl rfl (CB (LJ U110_ U3_ rfl rfl rfl I0 (by repeat (constructor)) Q1 rfl fun bB Q2 n3 n4 I1=>(?_))))
  have b5:=b5.mv n3
  have b6:=b6.mv n3
  have a9:=a9.mv n3
  have b4:=b4.mv n3
  have a4:=a4.mv n3
  have a0:=a0.keep n4 (BC r8)
  have a8:=a8.keep n4 (BC i9)
  have a1:=a1.keep n4 (BC r9)
  have b0:=b0.keep n4 (BC k4)
  have a7:=a7.keep n4 (BC s2)
  refine AA (DP (first:=[]) (captured:=[.tmp 3]) [] [vP (some ⟨a5,0,none⟩)] rfl rfl (CB (LJ U110_ U3_ rfl rfl rfl I1 (by repeat (constructor)) Q2 rfl fun bC Q3 n5 n6 I2=>(?_))))
  have b5:=b5.mv n5
  have b6:=b6.mv n5
  have a9:=a9.mv n5
  have b4:=b4.mv n5
  have a4:=a4.mv n5
  have a0:=a0.keep n6 (BC r8)
  have a8:=a8.keep n6 (BC i9)
  have a1:=a1.keep n6 (BC r9)
  have b0:=b0.keep n6 (BC k4)
  have a7:=a7.keep n6 (BC s2)
  refine AA (DP (first:=[]) (captured:=[.tmp 3, .tmp 1, .tmp 2]) [] [vP (some ⟨a5,0,none⟩),vP (some e6),vP (some e2)] rfl rfl (CB (LJ U110_ U3_ rfl rfl rfl I2 (by repeat (constructor)) Q3 rfl fun j2 p6 n7 n9 b3=>(?_))))
  have b5:=b5.mv n7
  have b6:=b6.mv n7
  have a9:=a9.mv n7
  have b4:=b4.mv n7
  have a4:=a4.mv n7
  have a0:=a0.keep n9 (BC r8)
  have a8:=a8.keep n9 (BC i9)
  have a1:=a1.keep n9 (BC r9)
  have b0:=b0.keep n9 (BC k4)
  have a7:=a7.keep n9 (BC s2)
  refine AA (AE (Value.map (some b2)) rfl (AA (HY [vP (some ⟨a2,0,none⟩),Value.map (some b2)] enter_70 rfl (CG 19 Try.func70 rfl rfl oT (fun bD=>AF (AB kR (AA (AE (Value.map (some b2)) rfl (AA (AE (vP (some ⟨a2,0,none⟩)) rfl (AA (FK ⟨a2,0,none⟩ rfl (AA (AU 0 IK rfl (AA (AU 2 MV rfl (AA (AW U3_ rfl (vI ((c.recs[no.toNat]!).state)) rfl b0 rfl (?_)))))))))))))))))))
  rcases (TS hok oM oM:(c.recs[no.toNat]!).state=0∨(c.recs[no.toNat]!).state=1∨(c.recs[no.toNat]!).state=2) with k5|k5|k5
  ·refine AA (LK (k:=0) (vN (.func 74) #[] #[vP (some ⟨a5,0,none⟩),vP (some e6),vP (some e2)]) U110_ U3_ rfl (congrArg vI k5) b3 rfl (AA (AE (vT #[vN (.func 74) #[] #[vP (some ⟨a5,0,none⟩),vP (some e6),vP (some e2)],vO true]) rfl (AA (AN (vN (.func 74) #[] #[vP (some ⟨a5,0,none⟩),vP (some e6),vP (some e2)]) rfl rfl (AA (AN (vO true) rfl rfl (AA (AD (vN (.func 74) #[] #[vP (some ⟨a5,0,none⟩),vP (some e6),vP (some e2)]) rfl (AA (AD (vO true) rfl (AG (AC (AF (AB kR (AA (AE (vO true) rfl (AG (AC (AJ true rfl rfl (fun _=>AB kR (AA (AE (vN (.func 74) #[] #[vP (some ⟨a5,0,none⟩),vP (some e6),vP (some e2)]) rfl (AA (KZ [] [vP (some ⟨a5,0,none⟩),vP (some e6),vP (some e2)] [] enter_74 rfl rfl (CG 12 Try.func74 rfl rfl oT (fun bE=>AF (cw_draw' 5 _ _ [DZ (vP (some ⟨a2,0,none⟩)),fun (vT:Value) (wT:World)=>∃ aT,vT = .pointer (some aT)∧PT (Enc.slice Enc.int) wT ((b2 :: (a5 :: (a2 :: (a6 :: (a3 :: (b1 :: []))))))++O) (.pointer (some aT)) (c.guardians),fun (vT:Value) (wT:World)=>BB Enc.int wT ((b2 :: (a5 :: (a2 :: (a6 :: (a3 :: (b1 :: []))))))++O) vT (c.guardians),DZ (vI guardian),DZ (vO (c.guardians.contains guardian))] kR kR kR kR rfl rfl ⟨kI,fun _ _ _ ⟨a,e,h⟩ k=>⟨a,e,h.mv (Mv.of_keep k)⟩,fun _ _ _ h k=>h.mv (Mv.of_keep k),kI,kI,trivial⟩ ⟨?_,?_,?_,?_,?_,trivial⟩ ?_)))))))) (fun h=>by cases h)))))))))))))))))))))
   ·intro F1 w1 k1 hf hd
    have k0:=(Keep.drew [] j2).trans k1
    have a7:=a7.keep k0 (by simp)
    obtain ⟨F2,rfl⟩:=AL (F:=F1) [(0,vP (some ⟨a5,0,none⟩))] ⟨hf 0 kR,trivial⟩
    exact AH rfl ((AW U106_ rfl (vP (some ⟨a2,0,none⟩)) rfl a7 rfl (⟨(Keep.refl _ _),rfl⟩)))
   ·intro F1 w1 k1 hf hd
    have k0:=(Keep.drew [] j2).trans k1
    have m1:Mv (b2 :: (a5 :: (a2 :: (a6 :: (a3 :: (b1 :: [])))))) j2 (b2 :: (a5 :: (a2 :: (a6 :: (a3 :: (b1 :: [])))))) w1:=Mv.of_keep k0
    have b5:=b5.mv m1
    obtain ⟨F2,rfl⟩:=AL (F:=F1) [(1,vP (some e6))] ⟨hf 1 kR,trivial⟩
    exact AH rfl ((BH 3 PK (c.guardians) rfl b5 (fun _ _ _ h=>HS h) fun Q4 I3=>(⟨(Keep.refl _ _),⟨Q4,rfl,I3⟩⟩)))
   ·intro F1 w1 k1 hf hd
    obtain ⟨Q5,Q6,I4⟩:∃ aX_,F1 4 = .pointer (some aX_)∧PT (Enc.slice Enc.int) w1 ((b2 :: (a5 :: (a2 :: (a6 :: (a3 :: (b1 :: []))))))++O) (.pointer (some aX_)) (c.guardians):=hd 1 4 kR
    obtain ⟨F2,rfl⟩:=AL (F:=F1) [(4,vP (some Q5))] ⟨Q6,trivial⟩
    refine AH rfl ((CF U22_ rfl rfl I4 fun bF z0=>(?_)))
    have:=z0.len_le
    exact ⟨(Keep.refl _ _),z0⟩
   ·intro F1 w1 k1 hf hd
    have k0:=(Keep.drew [] j2).trans k1
    have m1:Mv (b2 :: (a5 :: (a2 :: (a6 :: (a3 :: (b1 :: [])))))) j2 (b2 :: (a5 :: (a2 :: (a6 :: (a3 :: (b1 :: [])))))) w1:=Mv.of_keep k0
    have b6:=b6.mv m1
    obtain ⟨F2,rfl⟩:=AL (F:=F1) [(2,vP (some e2))] ⟨hf 2 kR,trivial⟩
    exact AH rfl ((CC U3_ rfl rfl b6 (⟨(Keep.refl _ _),rfl⟩)))
   ·intro F1 w1 k1 hf hd
    have k0:=(Keep.drew [] j2).trans k1
    have s1:=p6.call k0
    obtain ⟨v3,Q7,z1⟩:∃ v,F1 5=v∧BB Enc.int w1 ((b2 :: (a5 :: (a2 :: (a6 :: (a3 :: (b1 :: []))))))++O) v (c.guardians):=⟨_,rfl,hd 2 5 kR⟩
    have:=z1.len_le
    obtain ⟨F2,rfl⟩:=AL (F:=F1) [(5,v3),(6,vI guardian)] ⟨Q7,hd 3 6 kR,trivial⟩
    refine AH rfl ((AZ (vs:=[v3,vI guardian]) enter_75 (VN (O:=(b2 :: (a5 :: (a2 :: (a6 :: (a3 :: (b1 :: []))))))++O) v3 c.guardians guardian w1 z1 s1.lt) rfl s1 fun bG bH bI bJ Q8 Q9=>(?_)))
    obtain rfl:=Q9
    exact ⟨Q8,rfl⟩
   intro R0 D9 i6 s3 o0
   have v4:=p6.call i6
   have p7:Mv (b2 :: (a5 :: (a2 :: (a6 :: (a3 :: (b1 :: [])))))) j2 (b2 :: (a5 :: (a2 :: (a6 :: (a3 :: (b1 :: [])))))) D9:=Mv.of_keep i6
   have b6:=b6.mv p7
   have a9:=a9.mv p7
   have b4:=b4.mv p7
   have a4:=a4.mv p7
   have a0:=a0.keep i6 (by simp)
   have a8:=a8.keep i6 (by simp)
   have a1:=a1.keep i6 (by simp)
   have b0:=b0.keep i6 (by simp)
   have a7:=a7.keep i6 (by simp)
   have b3:=b3.keep i6 (by simp)
   obtain ⟨F2,rfl⟩:=AL (F:=R0) [(0,vP (some ⟨a5,0,none⟩)),(2,vP (some e2)),(12,undef),(3,vP (some ⟨a2,0,none⟩)),(7,vO (c.guardians.contains guardian))] ⟨o0 0 kR,o0 2 kR,o0 12 kR,s3 0 3 kR (by decide),s3 4 7 kR (by decide),trivial⟩
   clear s3 o0
   refine AA (HY [vP (some ⟨a2,0,none⟩),vO (c.guardians.contains guardian),vI 450] KV rfl (CG 11 Try.func72 rfl rfl oT (fun bK=>AF (AB kR (AA (AE (vO (c.guardians.contains guardian)) rfl (AA (HP (c.guardians.contains guardian) rfl (AG (AC (AJ (!(c.guardians.contains guardian)) rfl rfl (fun s4=>?_) (fun s4=>?_))))))))))))
   ·have ad:(c.guardians.contains guardian)=false:=by simpa using s4
    refine AB kR (AA (AE (vI 450) rfl (AA (EN (l:=[(0, .tmp 8)]) OZ SD rfl [(0,vI 450,[vI 450])] [vI 450] rfl ⟨_,rfl,rfl,oT,rfl⟩ (AA (MP (vA #[vI 450]) U125_ rfl rfl (CB (MI rfl (GA rfl (EO (IW (GA rfl (EO (GA rfl (EO (GA rfl (EO (IW (MO (JL [vP (some ⟨a3,0,none⟩),vP (some ⟨a6,0,none⟩)] (.panicking [{ v:=Value.iface 125 (vA #[vI 450]),recovered:=false }]) rfl (fun h=>by cases h) rfl GM (OR (450:Int) a3 a6 v4 a8 a1 (by repeat (constructor)) (by repeat (constructor)) c0) (fun e_ bL hR_=>?_)))))))))))))))))))))
    obtain ⟨v_,rfl,R1,bM,R2,I5,I6⟩:=hR_
    have a0:=a0.keep R2 (nin2 c6 e8)
    refine Exists.intro _ (And.intro (FA rfl (EZ (vs:=[vI 0,vI 0,vI 0,nS,nS]) rfl U28_ rfl BR rfl I5 rfl) (OM rfl U29_ rfl rfl I6 rfl)) (EB (AA (AN (vA #[vI 0,vI 0,vI 0,nS,nS]) rfl rfl (AA (AN (vI 450) rfl rfl (CB (BF (vs:=[vI 0,vI 0,vI 0,nS,nS]) (.agg #[vI 0,vI 0,vI 0,nS,nS]) rfl rfl rfl BR (fun u hu=>by simp only [List.mem_cons,List.not_mem_nil,or_false] at hu;rcases hu with rfl|rfl|rfl|rfl|rfl <;> rfl) (by repeat (constructor)) a0 oT R1 fun bN R3 bO bP I7=>(AA (AD (vI 450) rfl (AG (AC (AM (AS rfl (FA rfl (EZ (vs:=[vI 0,vI 0,vI 0,nS,nS]) rfl U28_ rfl BR rfl I7 rfl) (ES rfl rfl)) (?_)))))))))))))))
    have R4:((CR c no (BS c guardian)).1)=(⟨(0:Int),(0:Int),(0:Int),[],[]⟩:Circle):=by exact congrArg (fun p=>p.1) (show CR c no (BS c guardian)=_ from app_not hok oM oM aS aS)
    have R5:((CR c no (BS c guardian)).2)=(450:Int):=by exact congrArg (fun p=>p.2) (show CR c no (BS c guardian)=_ from app_not hok oM oM aS aS)
    exact ⟨_,rfl,R3.keep,by rw [R4,R5];exact ⟨[vI 0,vI 0,vI 0,nS,nS],rfl,Enc.out (B:=(b2 :: (a5 :: (a2 :: (a6 :: (a3 :: (b1 :: []))))))) ⟨.slice none 0 0, .slice none 0 0,rfl,(BB.nil _ _ _),(BB.nil _ _ _)⟩⟩⟩
   have ae:(c.guardians.contains guardian)=true:=by simpa using s4
   refine AO (GW rfl (KE rfl) (EB (AG (AC (AB kR (AA (AW U106_ rfl (vP (some ⟨a2,0,none⟩)) rfl a7 rfl (AA (CC U3_ rfl rfl b6 (AA (LB [vP (some ⟨a2,0,none⟩),vI guardian] _ enter_76 rfl (CG 32 Try.func76 rfl rfl oT (fun bQ=>AF (AB kR (AA (AE (vP (some ⟨a2,0,none⟩)) rfl (AA (FK ⟨a2,0,none⟩ rfl (AA (AU 0 IK rfl (AA (AU 3 SZ rfl (AA (AW U22_ rfl (d1) rfl b0 rfl (AA (AE (vI guardian) rfl (AA (AZ (vs:=[d1,vI guardian]) enter_105 (c_bs (O:=(b2 :: (a5 :: (a2 :: (a6 :: (a3 :: (b1 :: []))))))++O) d1 ((c.recs[no.toNat]!).approved) guardian D9 b4 (UB hok oM oM) (by have:=NX (GS (OE hok (k:=no.toNat) oM)).2.2;omega) v4.lt) rfl v4 fun bR R6 v5 v6 l3 R7=>(?_)))))))))))))))))) (fun _ _ h=>h))))))))))))
   obtain rfl:=R7
   have b4:=b4.mv v6
   have a9:=a9.mv v6
   have a4:=a4.mv v6
   have a0:=a0.keep l3 (by simp)
   have a8:=a8.keep l3 (by simp)
   have a1:=a1.keep l3 (by simp)
   have b0:=b0.keep l3 (by simp)
   have a7:=a7.keep l3 (by simp)
   have b3:=b3.keep l3 (by simp)
   refine AA (AE (vT #[vI ((tw ((c.recs[no.toNat]!).approved) guardian:Nat):Int),vO (WX ((c.recs[no.toNat]!).approved) guardian)]) rfl (AA (AN (vI ((tw ((c.recs[no.toNat]!).approved) guardian:Nat):Int)) rfl rfl (AA (AN (vO (WX ((c.recs[no.toNat]!).approved) guardian)) rfl rfl (AA (AD (vI ((tw ((c.recs[no.toNat]!).approved) guardian:Nat):Int)) rfl (AA (AD (vO (WX ((c.recs[no.toNat]!).approved) guardian)) rfl (AG (AC (AF (AB kR (AA (AE (vO (WX ((c.recs[no.toNat]!).approved) guardian)) rfl (AA (HP (WX ((c.recs[no.toNat]!).approved) guardian) rfl (AG (AC (AJ (!(WX ((c.recs[no.toNat]!).approved) guardian)) rfl rfl (fun s5=>?_) (fun s5=>?_)))))))))))))))))))))
   ·have af:(WX ((c.recs[no.toNat]!).approved) guardian)=false:=by simpa using s5
    refine AB kR (AA (AE (vP (some ⟨a2,0,none⟩)) rfl (AA (AE (vP (some ⟨a2,0,none⟩)) rfl (AA (FK ⟨a2,0,none⟩ rfl (AA (AU 0 IK rfl (AA (AU 3 SZ rfl (AA (AW U22_ rfl (d1) rfl b0 rfl (AA (LB [d1] _ VI rfl (CG 8 Try.func32 rfl rfl oT (fun bS=>AF (AB kR (AA (AD (nS) rfl (AG (AC (AF (AF (AB kR (AA (AE (d1) rfl (AA (KF U22_ rfl rfl b4 fun s6 G7=>(AG (AC (AJ (s6) rfl rfl (fun s7=>?_) (fun s7=>?_)))))))))))))))))) (fun _ _ h=>h)))))))))))))))
    ·have ag:s6=true:=by simpa using s7
     refine AF (AB kR (AA (AD (nS) rfl (AG (AC (AM (AK (AS rfl (CN rfl rfl rfl) (?_)))))))))
     have u6:(c.recs[no.toNat]!).approved=[]:=G7 aS
     have ah:BB Enc.int R6 ((b2 :: (a5 :: (a2 :: (a6 :: (a3 :: (b1 :: []))))))++O) (.slice none 0 0) ((c.recs[no.toNat]!).approved):=by rw [u6];exact BB.nil _ _ _
     refine Exists.intro _ (And.intro rfl (AA (AE (vI ((tw ((c.recs[no.toNat]!).approved) guardian:Nat):Int)) rfl (AA (AE (vI guardian) rfl (AA (HT (E:=Enc.int) (xs:=[.tmp 26]) U22_ OV z_3 (by decide) [vI guardian] [[vI guardian]] [guardian] rfl rfl rfl (Parts.cons rfl rfl (Parts.nil _ _ _)) oT v5 fun e9 R8 bT R9 g5 S0 E0 l4 z2=>(?_))))))))
     have ai:∀ b,e9.ownBlock=some b→b≠b1:=fun b hb=>by have:=a0.lt;rw [g5] at hb;cases hb;omega
     have aj:∀ b,e9.ownBlock=some b→b≠a3:=fun b hb=>by have:=a8.lt;rw [g5] at hb;cases hb;omega
     have ak:∀ b,e9.ownBlock=some b→b≠a6:=fun b hb=>by have:=a1.lt;rw [g5] at hb;cases hb;omega
     have al:∀ b,e9.ownBlock=some b→b≠a2:=fun b hb=>by have:=b0.lt;rw [g5] at hb;cases hb;omega
     have am:∀ b,e9.ownBlock=some b→b≠a5:=fun b hb=>by have:=a7.lt;rw [g5] at hb;cases hb;omega
     have an:∀ b,e9.ownBlock=some b→b≠b2:=fun b hb=>by have:=b3.lt;rw [g5] at hb;cases hb;omega
     have s8:∀ b,e9.ownBlock=some b→b∈(R8 :: (b2 :: (a5 :: (a2 :: (a6 :: (a3 :: (b1 :: []))))))):=fun b hb=>by rw [g5] at hb;cases hb;simp
     clear R9 g5
     have a9:=a9.mv E0
     have a4:=a4.mv E0
     have a0:=a0.keep l4 (by simp)
     have a8:=a8.keep l4 (by simp)
     have a1:=a1.keep l4 (by simp)
     have b0:=b0.keep l4 (by simp)
     have a7:=a7.keep l4 (by simp)
     have b3:=b3.keep l4 (by simp)
     refine AA (HY [nS,vI ((tw ((c.recs[no.toNat]!).approved) guardian:Nat):Int),e9] YA rfl (Calls.mono (YC (.slice none 0 0) e9 ((c.recs[no.toNat]!).approved) ([guardian]) (tw ((c.recs[no.toNat]!).approved) guardian) S0 (by rw [u6];exact ED.nil Enc.int 3 _ _ _) z2 (by intro b hb;simp [Value.ownBlock] at hb) s8 (fun b hb=>by simp [Value.ownBlock] at hb) (by simp) (tw_le _ _) (by have:=NX (GS (OE hok (k:=no.toNat) oM)).2.2;simp only [List.length_cons,List.length_nil];omega) (by have:=NX (GS (OE hok (k:=no.toNat) oM)).2.2;simp only [List.length_cons,List.length_nil,maxLen];omega)) (fun e_ bU hR_=>?_)))
     obtain ⟨c7,g9,rfl,o1,h7,g0,S1,E1,l5,c4⟩:=hR_
     refine EB ?_
     have ao:∀ b,e9.ownBlock=some b→c7.ownBlock≠some b:=fun b hb e=>(h7 b e).elim (fun e1=>(by simp [Value.ownBlock] at e1)) (fun e1=>by have:=(z2.lt b hb).2;omega)
     have I8:∀ b,c7.ownBlock=some b→b≠b1:=fun b hb=>(h7 b hb).elim (fun e1=>(by simp [Value.ownBlock] at e1)) (fun e1=>by have:=a0.lt;omega)
     have s9:∀ b,c7.ownBlock=some b→b≠a3:=fun b hb=>(h7 b hb).elim (fun e1=>(by simp [Value.ownBlock] at e1)) (fun e1=>by have:=a8.lt;omega)
     have I9:∀ b,c7.ownBlock=some b→b≠a6:=fun b hb=>(h7 b hb).elim (fun e1=>(by simp [Value.ownBlock] at e1)) (fun e1=>by have:=a1.lt;omega)
     have z3:∀ b,c7.ownBlock=some b→b≠a2:=fun b hb=>(h7 b hb).elim (fun e1=>(by simp [Value.ownBlock] at e1)) (fun e1=>by have:=b0.lt;omega)
     have J0:∀ b,c7.ownBlock=some b→b≠a5:=fun b hb=>(h7 b hb).elim (fun e1=>(by simp [Value.ownBlock] at e1)) (fun e1=>by have:=a7.lt;omega)
     have J1:∀ b,c7.ownBlock=some b→b≠b2:=fun b hb=>(h7 b hb).elim (fun e1=>(by simp [Value.ownBlock] at e1)) (fun e1=>by have:=b3.lt;omega)
     have s8:∀ b,e9.ownBlock=some b→b∈g9:=fun b hb=>g0 b (s8 b hb)
     have d3:b1∈g9:=g0 b1 (by repeat (constructor))
     have d4:a3∈g9:=g0 a3 (by repeat (constructor))
     have d5:a6∈g9:=g0 a6 (by repeat (constructor))
     have d6:a2∈g9:=g0 a2 (by repeat (constructor))
     have d7:a5∈g9:=g0 a5 (by repeat (constructor))
     have d8:b2∈g9:=g0 b2 (by repeat (constructor))
     have a9:=a9.mv E1
     have a4:=a4.mv E1
     have a0:=a0.keep l5 (by simp [Value.ownBlock])
     have a8:=a8.keep l5 (by simp [Value.ownBlock])
     have a1:=a1.keep l5 (by simp [Value.ownBlock])
     have b0:=b0.keep l5 (by simp [Value.ownBlock])
     have a7:=a7.keep l5 (by simp [Value.ownBlock])
     have b3:=b3.keep l5 (by simp [Value.ownBlock])
     refine AA (FK ⟨a2,0,none⟩ rfl (AA (AU 0 IK rfl (AA (AU 3 SZ rfl (CB (CI (c7) rfl rfl c4.oneCell s_22 (by repeat (assumption)) b0 oT S1 fun bV S2 v7 l6 c9=>(?_))))))))
     have c4:=c4.mv v7 l6 (fun b hb=>BC (z3 b hb))
     have a9:=a9.mv v7
     have a4:=a4.mv v7
     have a0:=a0.keep l6 (BC y7)
     have a8:=a8.keep l6 (BC g4)
     have a1:=a1.keep l6 (BC y8)
     have a7:=a7.keep l6 (BC (Ne.symm y9))
     have b3:=b3.keep l6 (BC (Ne.symm k4))
     refine AG (GW rfl (KE rfl) (Exists.intro _ (And.intro rfl (AG (GW rfl (KE rfl) (EB (AG (GW rfl (KE rfl) (EB (AG (GW rfl (KE rfl) (EB (AG (AC (AF (AB kR (AA (DF U28_ rfl BR rfl a9 fun ap J2=>(?_)))))))))))))))))))
     obtain ⟨f0,E2,rfl,b7,z4⟩:=J2
     have:=b7.len_le
     have:=z4.len_le
     refine CB (BF (vs:=[vI c.epoch,vI c.threshold,vI c.wait,f0,E2]) (.agg #[vI c.epoch,vI c.threshold,vI c.wait,f0,E2]) rfl rfl rfl BR (fun u hu=>by simp only [List.mem_cons,List.not_mem_nil,or_false] at hu;rcases hu with rfl|rfl|rfl|rfl|rfl <;> first|rfl|exact b7.oneCell|exact z4.oneCell) (by repeat (assumption)) a8 oT S2 fun bW S3 p8 l7 h8=>(?_))
     have a9:=a9.mv p8
     have a4:=a4.mv p8
     have b7:=b7.mv p8
     have a0:=a0.keep l7 (BC c6)
     have a1:=a1.keep l7 (BC (Ne.symm c0))
     have c4:=c4.mv p8 l7 (fun b hb=>BC (s9 b hb))
     have c9:=c9.keep l7 (BC (Ne.symm g4))
     have a7:=a7.keep l7 (BC (Ne.symm r7))
     have b3:=b3.keep l7 (BC (Ne.symm i9))
     refine AG (AC (AF (AB kR (AA (BH 4 FD (c.recs) rfl a9 (fun _ _ _ h=>DI h) fun bX J3=>(AA (CF U26_ rfl rfl J3 fun v8 k6=>(?_))))))))
     have:=k6.len_le
     refine AA (LB [v8] _ ND rfl (CG 8 Try.func67 rfl rfl oT (fun bY=>AF (AB kR (AA (AD (nS) rfl (AG (AC (AF (AF (AB kR (AA (AE (v8) rfl (AA (PV U26_ rfl rfl k6 oM (AG (AC (AJ false rfl rfl (fun h=>by cases h) (fun _=>AO (AC (AF (AB kR (AA (HT (E:=Enc.recovery) (xs:=[]) U26_ IE OW (by decide) [] [] [] rfl rfl rfl (Parts.nil _ _ _) oT S3 fun h0 E3 bZ S4 f1 S5 p9 j3 J4=>(?_)))))))))))))))))))))))) (fun _ _ h=>h))
     have z5:∀ b,h0.ownBlock=some b→b≠b1:=fun b hb=>by have:=a0.lt;rw [f1] at hb;cases hb;omega
     have z6:∀ b,h0.ownBlock=some b→b≠a3:=fun b hb=>by have:=h8.lt;rw [f1] at hb;cases hb;omega
     have z7:∀ b,h0.ownBlock=some b→b≠a6:=fun b hb=>by have:=a1.lt;rw [f1] at hb;cases hb;omega
     have z8:∀ b,h0.ownBlock=some b→b≠a2:=fun b hb=>by have:=c9.lt;rw [f1] at hb;cases hb;omega
     have J5:∀ b,h0.ownBlock=some b→b≠a5:=fun b hb=>by have:=a7.lt;rw [f1] at hb;cases hb;omega
     have J6:∀ b,h0.ownBlock=some b→b≠b2:=fun b hb=>by have:=b3.lt;rw [f1] at hb;cases hb;omega
     have t0:∀ b,c7.ownBlock=some b→h0.ownBlock≠some b:=fun b hb=>by have:=(c4.lt b hb).2;rw [f1];intro e;cases e;omega
     have ne3808':∀ b,h0.ownBlock=some b→c7.ownBlock≠some b:=fun b hb e=>t0 b e hb
     have J7:∀ b,h0.ownBlock=some b→b∈(E3 :: g9):=fun b hb=>by rw [f1] at hb;cases hb;simp
     clear S4 f1
     have o1:∀ b,c7.ownBlock=some b→b∈(E3 :: g9):=fun b hb=>List.mem_cons_of_mem _ (o1 b hb)
     have k6:=k6.mv p9
     have a4:=a4.mv p9
     have b7:=b7.mv p9
     have a0:=a0.keep j3 (by simp)
     have h8:=h8.keep j3 (by simp)
     have a1:=a1.keep j3 (by simp)
     have c4:=c4.mv p9 j3 (by simp)
     have c9:=c9.keep j3 (by simp)
     have a7:=a7.keep j3 (by simp)
     have b3:=b3.keep j3 (by simp)
     refine AA (AE (v8) rfl (AA (CY (E:=Enc.recovery) (l:=[]) (m:=c.recs) U26_ XC rfl (by decide) rfl rfl J4 k6 (fun _ hb=>.inl hb) J7 (by simp;omega) (by simp [maxLen];omega) S5 fun c1 ca h1 t2 h9 g1 S6 v9 o2 e4=>(?_))))
     rw [List.nil_append] at e4
     have J8:∀ b,c7.ownBlock=some b→c1.ownBlock≠some b:=fun b hb e=>by rcases h9 with e1|e1 <;> rw [e1] at e <;> first|(cases e;have:=(c4.lt _ hb).2;omega)|(exact absurd e (t0 b hb))
     have z9:∀ b,c1.ownBlock=some b→b≠b1:=fun b hb=>by rcases h9 with e1|e1 <;> rw [e1] at hb <;> first|(cases hb;have:=a0.lt;omega)|(exact z5 b hb)
     have t3:∀ b,c1.ownBlock=some b→b≠a3:=fun b hb=>by rcases h9 with e1|e1 <;> rw [e1] at hb <;> first|(cases hb;have:=h8.lt;omega)|(exact z6 b hb)
     have A0:∀ b,c1.ownBlock=some b→b≠a6:=fun b hb=>by rcases h9 with e1|e1 <;> rw [e1] at hb <;> first|(cases hb;have:=a1.lt;omega)|(exact z7 b hb)
     have aq:∀ b,c1.ownBlock=some b→b≠a2:=fun b hb=>by rcases h9 with e1|e1 <;> rw [e1] at hb <;> first|(cases hb;have:=c9.lt;omega)|(exact z8 b hb)
     have ar:∀ b,c1.ownBlock=some b→b≠a5:=fun b hb=>by rcases h9 with e1|e1 <;> rw [e1] at hb <;> first|(cases hb;have:=a7.lt;omega)|(exact J5 b hb)
     have au:∀ b,c1.ownBlock=some b→b≠b2:=fun b hb=>by rcases h9 with e1|e1 <;> rw [e1] at hb <;> first|(cases hb;have:=b3.lt;omega)|(exact J6 b hb)
     have o1:∀ b,c7.ownBlock=some b→b∈h1:=fun b hb=>g1 b (o1 b hb)
     have d3:b1∈h1:=g1 b1 rC
     have d4:a3∈h1:=g1 a3 rC
     have d5:a6∈h1:=g1 a6 rC
     have d6:a2∈h1:=g1 a2 rC
     have d7:a5∈h1:=g1 a5 rC
     have d8:b2∈h1:=g1 b2 rC
     have a4:=a4.mv v9
     have b7:=b7.mv v9
     have a0:=a0.keep o2 (by simp only [Option.mem_toList];exact fun e=>absurd rfl (z5 _ e))
     have h8:=h8.keep o2 (by simp only [Option.mem_toList];exact fun e=>absurd rfl (z6 _ e))
     have a1:=a1.keep o2 (by simp only [Option.mem_toList];exact fun e=>absurd rfl (z7 _ e))
     have c4:=c4.mv v9 o2 (fun b hb=>by simp only [Option.mem_toList];exact t0 b hb)
     have c9:=c9.keep o2 (by simp only [Option.mem_toList];exact fun e=>absurd rfl (z8 _ e))
     refine AA (AD (c1) rfl (AG (AC (AM (AS rfl (CN rfl rfl rfl) (Exists.intro _ (And.intro rfl (AA (AU 4 FD rfl (CB (CI (c1) rfl rfl e4.oneCell s_26 (by repeat (assumption)) h8 oT S6 fun w0 S7 q0 o3 d9=>(?_))))))))))))
     have a4:=a4.mv q0
     have b7:=b7.mv q0
     have e4:=e4.mv q0 o3 (fun b hb=>BC (t3 b hb))
     have a0:=a0.keep o3 (BC c6)
     have a1:=a1.keep o3 (BC (Ne.symm c0))
     have c4:=c4.mv q0 o3 (fun b hb=>BC (s9 b hb))
     have c9:=c9.keep o3 (BC (Ne.symm g4))
     refine AG (AC (AF (cw_draw' 7 _ _ [DZ (vP (some ⟨a3,4,none⟩)),DZ c1,DZ (vI no),DZ (vP (some ⟨a2,0,none⟩)),DZ (vP (some ⟨a2,0,none⟩)),DZ (vP (some ⟨a2,0,none⟩)),DZ (vA #[vI ((c.recs[no.toNat]!).no),vI ((c.recs[no.toNat]!).asked),vI ((c.recs[no.toNat]!).state),c7,d2])] kR kR kR kR rfl rfl ⟨kI,kI,kI,kI,kI,kI,kI,trivial⟩ ⟨?_,?_,?_,?_,?_,?_,?_,trivial⟩ ?_)))
     ·intro F1 w1 k1 hf hd
      obtain ⟨F2,rfl⟩:=AL (F:=F1) [(6,vP (some ⟨a3,0,none⟩))] ⟨hf 6 kR,trivial⟩
      exact AH rfl ((AU 4 FD rfl (⟨(Keep.refl _ _),rfl⟩)))
     ·intro F1 w1 k1 hf hd
      have k0:=(Keep.drew [] w0).trans k1
      have d9:=d9.keep k0 (by simp)
      obtain ⟨F2,rfl⟩:=AL (F:=F1) [(42,vP (some ⟨a3,4,none⟩))] ⟨hd 0 42 kR,trivial⟩
      exact AH rfl ((AW U26_ rfl (c1) rfl d9 rfl (⟨(Keep.refl _ _),rfl⟩)))
     ·intro F1 w1 k1 hf hd
      obtain ⟨F2,rfl⟩:=AL (F:=F1) [(1,vI no)] ⟨hf 1 kR,trivial⟩
      exact AH rfl ((AE (vI no) rfl (⟨(Keep.refl _ _),rfl⟩)))
     ·intro F1 w1 k1 hf hd
      obtain ⟨F2,rfl⟩:=AL (F:=F1) [(9,vP (some ⟨a2,0,none⟩))] ⟨hf 9 kR,trivial⟩
      exact AH rfl ((AE (vP (some ⟨a2,0,none⟩)) rfl (⟨(Keep.refl _ _),rfl⟩)))
     ·intro F1 w1 k1 hf hd
      obtain ⟨F2,rfl⟩:=AL (F:=F1) [(45,vP (some ⟨a2,0,none⟩))] ⟨hd 3 45 kR,trivial⟩
      exact AH rfl ((FK ⟨a2,0,none⟩ rfl (⟨(Keep.refl _ _),rfl⟩)))
     ·intro F1 w1 k1 hf hd
      obtain ⟨F2,rfl⟩:=AL (F:=F1) [(46,vP (some ⟨a2,0,none⟩))] ⟨hd 4 46 kR,trivial⟩
      exact AH rfl ((AU 0 IK rfl (⟨(Keep.refl _ _),rfl⟩)))
     ·intro F1 w1 k1 hf hd
      have k0:=(Keep.drew [] w0).trans k1
      have c9:=c9.keep k0 (by simp)
      obtain ⟨F2,rfl⟩:=AL (F:=F1) [(47,vP (some ⟨a2,0,none⟩))] ⟨hd 5 47 kR,trivial⟩
      exact AH rfl ((BW (vs:=[vI ((c.recs[no.toNat]!).no),vI ((c.recs[no.toNat]!).asked),vI ((c.recs[no.toNat]!).state),c7,d2]) U68_ rfl IE rfl c9 rfl (⟨(Keep.refl _ _),rfl⟩)))
     intro S8 S9 j4 o4 o5
     have T0:=S7.call j4
     have q1:Mv h1 w0 h1 S9:=Mv.of_keep j4
     have a4:=a4.mv q1
     have b7:=b7.mv q1
     have e4:=e4.mv q1 j4 (by simp)
     have a0:=a0.keep j4 (by simp)
     have d9:=d9.keep j4 (by simp)
     have a1:=a1.keep j4 (by simp)
     have c4:=c4.mv q1 j4 (by simp)
     obtain ⟨F2,rfl⟩:=AL (F:=S8) [(6,vP (some ⟨a3,0,none⟩)),(7,vP (some ⟨a6,0,none⟩)),(51, .tuple #[vN (.func 103) #[] #[vP (some ⟨a3,0,none⟩),vP (some ⟨a6,0,none⟩)]]),(43,c1),(44,vI no),(48,vA #[vI ((c.recs[no.toNat]!).no),vI ((c.recs[no.toNat]!).asked),vI ((c.recs[no.toNat]!).state),c7,d2])] ⟨o5 6 kR,o5 7 kR,o5 51 kR,o4 1 43 kR (by decide),o4 2 44 kR (by decide),o4 6 48 kR (by decide),trivial⟩
     clear o4 o5
     refine AA (EF U26_ IE .i64 no no.toNat rfl rfl oM e4 oM fun cb k7=>(?_))
     obtain ⟨j5,T1,w2,A1,i0⟩:=c4.publish T0
     have t2:∀ b,c1.ownBlock=some b→b∈j5:=fun b hb=>i0 b (t2 b hb) ((fun b hb e=>J8 b e hb) b hb)
     have d3:b1∈j5:=i0 b1 (by repeat (assumption)) (fun e=>absurd rfl (I8 _ e))
     have d4:a3∈j5:=i0 a3 (by repeat (assumption)) (fun e=>absurd rfl (s9 _ e))
     have d5:a6∈j5:=i0 a6 (by repeat (assumption)) (fun e=>absurd rfl (I9 _ e))
     have d6:a2∈j5:=i0 a2 (by repeat (assumption)) (fun e=>absurd rfl (z3 _ e))
     have d7:a5∈j5:=i0 a5 (by repeat (assumption)) (fun e=>absurd rfl (J0 _ e))
     have d8:b2∈j5:=i0 b2 (by repeat (assumption)) (fun e=>absurd rfl (J1 _ e))
     have Z4:=A1.len_le
     have e4:=e4.mv w2 (Keep.refl [] _) (by simp)
     have a4:=a4.mv w2
     have a0:=a0.keep (Keep.refl [] _) (by simp)
     have b7:=b7.mv w2
     have d9:=d9.keep (Keep.refl [] _) (by simp)
     have a1:=a1.keep (Keep.refl [] _) (by simp)
     refine CB (PU (⟨(c.recs[no.toNat]!).no,(c.recs[no.toNat]!).asked,(c.recs[no.toNat]!).state,((c.recs[no.toNat]!).approved).take (tw ((c.recs[no.toNat]!).approved) guardian)++([guardian])++((c.recs[no.toNat]!).approved).drop (tw ((c.recs[no.toNat]!).approved) guardian),(c.recs[no.toNat]!).vetoed⟩:Recovery) (by decide) IE rfl rfl e4 k7 (t2 _ k7) oM ⟨_,_,rfl,A1,a4⟩ T1 fun cc T2 T3 w3 f2=>(?_))
     have a0:=a0.keep w3 (by simp only [List.mem_singleton];exact fun e=>absurd e.symm (z9 _ k7))
     have b7:=b7.mv T3
     have d9:=d9.keep w3 (by simp only [List.mem_singleton];exact fun e=>absurd e.symm (t3 _ k7))
     have a1:=a1.keep w3 (by simp only [List.mem_singleton];exact fun e=>absurd e.symm (A0 _ k7))
     refine AG (AC (AF (AB kR (AA (BW (vs:=[vI c.epoch,vI c.threshold,vI c.wait,f0,c1]) U28_ rfl BR rfl d9 rfl (CB (BF (vs:=[vI c.epoch,vI c.threshold,vI c.wait,f0,c1]) (.agg #[vI c.epoch,vI c.threshold,vI c.wait,f0,c1]) rfl rfl rfl BR (fun u hu=>by simp only [List.mem_cons,List.not_mem_nil,or_false] at hu;rcases hu with rfl|rfl|rfl|rfl|rfl <;> first|rfl|exact b7.oneCell|exact f2.oneCell) (by repeat (assumption)) d9 oT T2 fun cd T4 E4 w4 t4=>(?_))))))))
     have f2:=f2.mv E4 w4 (fun b hb=>BC (t3 b hb))
     have b7:=b7.mv E4
     have a0:=a0.keep w4 (BC c6)
     have a1:=a1.keep w4 (BC (Ne.symm c0))
     refine CB (CI (vI 0) rfl rfl rfl TE (by repeat (assumption)) a1 oT T4 fun ce T5 E5 w5 J9=>(?_))
     have f2:=f2.mv E5 w5 (fun b hb=>BC (A0 b hb))
     have b7:=b7.mv E5
     have a0:=a0.keep w5 (BC e8)
     have t4:=t4.keep w5 (BC c0)
     refine AG (AC (AM (UE (QC [vP (some ⟨a3,0,none⟩),vP (some ⟨a6,0,none⟩)] 19 .returning rfl (fun h=>by cases h) rfl GM Try.func103 rfl rfl oT rfl rfl (fun cf=>AF (AB kR (AA (AE (Value.nilIface) rfl (AA (o_neqNil' U20_ rfl (AG (AC (AJ false rfl rfl (fun h=>by cases h) (fun _=>AO (GW rfl (KE rfl) (Exists.intro _ (And.intro (FA rfl (EZ (vs:=[vI c.epoch,vI c.threshold,vI c.wait,f0,c1]) rfl U28_ rfl BR rfl t4 rfl) (OM rfl U29_ rfl rfl J9 rfl)) (EB (AA (AN (vA #[vI c.epoch,vI c.threshold,vI c.wait,f0,c1]) rfl rfl (AA (AN (vI 0) rfl rfl (CB (BF (vs:=[vI c.epoch,vI c.threshold,vI c.wait,f0,c1]) (.agg #[vI c.epoch,vI c.threshold,vI c.wait,f0,c1]) rfl rfl rfl BR (fun u hu=>by simp only [List.mem_cons,List.not_mem_nil,or_false] at hu;rcases hu with rfl|rfl|rfl|rfl|rfl <;> first|rfl|exact b7.oneCell|exact f2.oneCell) (by repeat (assumption)) a0 oT T5 fun cg E6 E7 T6 K0=>(?_)))))))))))))))))))))))))
     have b7:=b7.mv E7
     have f2:=f2.mv E7 T6 (fun b hb=>BC (z9 b hb))
     refine AA (AD (vI 0) rfl (AG (AC (AM (AS rfl (FA rfl (EZ (vs:=[vI c.epoch,vI c.threshold,vI c.wait,f0,c1]) rfl U28_ rfl BR rfl K0 rfl) (ES rfl rfl)) (?_))))))
     have T7:((CR c no (BS c guardian)).1)=(⟨c.epoch,c.threshold,c.wait,c.guardians,c.recs.set no.toNat (⟨(c.recs[no.toNat]!).no,(c.recs[no.toNat]!).asked,(c.recs[no.toNat]!).state,((c.recs[no.toNat]!).approved).take (tw ((c.recs[no.toNat]!).approved) guardian)++([guardian])++((c.recs[no.toNat]!).approved).drop (tw ((c.recs[no.toNat]!).approved) guardian),(c.recs[no.toNat]!).vetoed⟩:Recovery)⟩:Circle):=by exact congrArg (fun p=>p.1) (show CR c no (BS c guardian)=_ from UL hok oM oM aS aS aS)
     have T8:((CR c no (BS c guardian)).2)=(0:Int):=by exact congrArg (fun p=>p.2) (show CR c no (BS c guardian)=_ from UL hok oM oM aS aS aS)
     exact ⟨_,rfl,E6.keep,by rw [T7,T8];exact ⟨[vI c.epoch,vI c.threshold,vI c.wait,f0,c1],rfl,⟨_,_,rfl,b7.out,(f2.pub E6)⟩⟩⟩
    have av:s6=false:=by simpa using s7
    refine AO (AC (AF (AB kR (AA (HT (E:=Enc.int) (xs:=[]) U22_ OV z_3 (by decide) [] [] [] rfl rfl rfl (Parts.nil _ _ _) oT v5 fun j6 T9 ch U0 g6 U1 w6 l8 K1=>(?_))))))
    have A2:∀ b,j6.ownBlock=some b→b≠b1:=fun b hb=>by have:=a0.lt;rw [g6] at hb;cases hb;omega
    have A3:∀ b,j6.ownBlock=some b→b≠a3:=fun b hb=>by have:=a8.lt;rw [g6] at hb;cases hb;omega
    have A4:∀ b,j6.ownBlock=some b→b≠a6:=fun b hb=>by have:=a1.lt;rw [g6] at hb;cases hb;omega
    have A5:∀ b,j6.ownBlock=some b→b≠a2:=fun b hb=>by have:=b0.lt;rw [g6] at hb;cases hb;omega
    have A6:∀ b,j6.ownBlock=some b→b≠a5:=fun b hb=>by have:=a7.lt;rw [g6] at hb;cases hb;omega
    have A7:∀ b,j6.ownBlock=some b→b≠b2:=fun b hb=>by have:=b3.lt;rw [g6] at hb;cases hb;omega
    have K2:∀ b,j6.ownBlock=some b→b∈(T9 :: (b2 :: (a5 :: (a2 :: (a6 :: (a3 :: (b1 :: []))))))):=fun b hb=>by rw [g6] at hb;cases hb;simp
    clear U0 g6
    have b4:=b4.mv w6
    have a9:=a9.mv w6
    have a4:=a4.mv w6
    have a0:=a0.keep l8 (by simp)
    have a8:=a8.keep l8 (by simp)
    have a1:=a1.keep l8 (by simp)
    have b0:=b0.keep l8 (by simp)
    have a7:=a7.keep l8 (by simp)
    have b3:=b3.keep l8 (by simp)
    refine AA (AE (d1) rfl (AA (CY (E:=Enc.int) (l:=[]) (m:=(c.recs[no.toNat]!).approved) U22_ i_3 rfl (by decide) rfl rfl K1 b4 (fun _ hb=>.inl hb) K2 (by have:=NX (GS (OE hok (k:=no.toNat) oM)).2.2;simp only [List.length_nil];omega) (by have:=NX (GS (OE hok (k:=no.toNat) oM)).2.2;simp only [List.length_nil,maxLen];omega) U1 fun e7 ci i7 t5 j0 h5 U2 E8 l9 k8=>(?_))))
    rw [List.nil_append] at k8
    have A8:∀ b,e7.ownBlock=some b→b≠b1:=fun b hb=>by rcases j0 with e1|e1 <;> rw [e1] at hb <;> first|(cases hb;have:=a0.lt;omega)|(exact A2 b hb)
    have A9:∀ b,e7.ownBlock=some b→b≠a3:=fun b hb=>by rcases j0 with e1|e1 <;> rw [e1] at hb <;> first|(cases hb;have:=a8.lt;omega)|(exact A3 b hb)
    have B0:∀ b,e7.ownBlock=some b→b≠a6:=fun b hb=>by rcases j0 with e1|e1 <;> rw [e1] at hb <;> first|(cases hb;have:=a1.lt;omega)|(exact A4 b hb)
    have B1:∀ b,e7.ownBlock=some b→b≠a2:=fun b hb=>by rcases j0 with e1|e1 <;> rw [e1] at hb <;> first|(cases hb;have:=b0.lt;omega)|(exact A5 b hb)
    have B2:∀ b,e7.ownBlock=some b→b≠a5:=fun b hb=>by rcases j0 with e1|e1 <;> rw [e1] at hb <;> first|(cases hb;have:=a7.lt;omega)|(exact A6 b hb)
    have B3:∀ b,e7.ownBlock=some b→b≠b2:=fun b hb=>by rcases j0 with e1|e1 <;> rw [e1] at hb <;> first|(cases hb;have:=b3.lt;omega)|(exact A7 b hb)
    have d3:b1∈i7:=h5 b1 (by repeat (constructor))
    have d4:a3∈i7:=h5 a3 (by repeat (constructor))
    have d5:a6∈i7:=h5 a6 (by repeat (constructor))
    have d6:a2∈i7:=h5 a2 (by repeat (constructor))
    have d7:a5∈i7:=h5 a5 (by repeat (constructor))
    have d8:b2∈i7:=h5 b2 (by repeat (constructor))
    have a9:=a9.mv E8
    have a4:=a4.mv E8
    have a0:=a0.keep l9 (by simp only [Option.mem_toList];exact fun e=>absurd rfl (A2 _ e))
    have a8:=a8.keep l9 (by simp only [Option.mem_toList];exact fun e=>absurd rfl (A3 _ e))
    have a1:=a1.keep l9 (by simp only [Option.mem_toList];exact fun e=>absurd rfl (A4 _ e))
    have b0:=b0.keep l9 (by simp only [Option.mem_toList];exact fun e=>absurd rfl (A5 _ e))
    have a7:=a7.keep l9 (by simp only [Option.mem_toList];exact fun e=>absurd rfl (A6 _ e))
    have b3:=b3.keep l9 (by simp only [Option.mem_toList];exact fun e=>absurd rfl (A7 _ e))
    refine AA (AD (e7) rfl (AG (AC (AM (AS rfl (CN rfl rfl rfl) (Exists.intro _ (And.intro rfl (AA (AE (vI ((tw ((c.recs[no.toNat]!).approved) guardian:Nat):Int)) rfl (AA (AE (vI guardian) rfl (AA (HT (E:=Enc.int) (xs:=[.tmp 26]) U22_ OV z_3 (by decide) [vI guardian] [[vI guardian]] [guardian] rfl rfl rfl (Parts.cons rfl rfl (Parts.nil _ _ _)) oT U2 fun e3 E9 cj U3 f3 U4 w7 j7 B4=>(?_))))))))))))))
    have aw:∀ b,e3.ownBlock=some b→b≠b1:=fun b hb=>by have:=a0.lt;rw [f3] at hb;cases hb;omega
    have ax:∀ b,e3.ownBlock=some b→b≠a3:=fun b hb=>by have:=a8.lt;rw [f3] at hb;cases hb;omega
    have ay:∀ b,e3.ownBlock=some b→b≠a6:=fun b hb=>by have:=a1.lt;rw [f3] at hb;cases hb;omega
    have az:∀ b,e3.ownBlock=some b→b≠a2:=fun b hb=>by have:=b0.lt;rw [f3] at hb;cases hb;omega
    have aA:∀ b,e3.ownBlock=some b→b≠a5:=fun b hb=>by have:=a7.lt;rw [f3] at hb;cases hb;omega
    have aB:∀ b,e3.ownBlock=some b→b≠b2:=fun b hb=>by have:=b3.lt;rw [f3] at hb;cases hb;omega
    have t6:∀ b,e7.ownBlock=some b→e3.ownBlock≠some b:=fun b hb=>by have:=(k8.lt b hb).2;rw [f3];intro e;cases e;omega
    have ne3920':∀ b,e3.ownBlock=some b→e7.ownBlock≠some b:=fun b hb e=>t6 b e hb
    have t7:∀ b,e3.ownBlock=some b→b∈(E9 :: i7):=fun b hb=>by rw [f3] at hb;cases hb;simp
    clear U3 f3
    have t5:∀ b,e7.ownBlock=some b→b∈(E9 :: i7):=fun b hb=>List.mem_cons_of_mem _ (t5 b hb)
    have k8:=k8.mv w7 j7 (by simp)
    have a9:=a9.mv w7
    have a4:=a4.mv w7
    have a0:=a0.keep j7 (by simp)
    have a8:=a8.keep j7 (by simp)
    have a1:=a1.keep j7 (by simp)
    have b0:=b0.keep j7 (by simp)
    have a7:=a7.keep j7 (by simp)
    have b3:=b3.keep j7 (by simp)
    refine AA (HY [e7,vI ((tw ((c.recs[no.toNat]!).approved) guardian:Nat):Int),e3] YA rfl (Calls.mono (YC e7 e3 ((c.recs[no.toNat]!).approved) ([guardian]) (tw ((c.recs[no.toNat]!).approved) guardian) U4 k8 B4 t5 t7 t6 (by simp) (tw_le _ _) (by have:=NX (GS (OE hok (k:=no.toNat) oM)).2.2;simp only [List.length_cons,List.length_nil];omega) (by have:=NX (GS (OE hok (k:=no.toNat) oM)).2.2;simp only [List.length_cons,List.length_nil,maxLen];omega)) (fun e_ ck hR_=>?_)))
    obtain ⟨c8,h2,rfl,o6,i1,g2,U5,F3,m0,c5⟩:=hR_
    refine EB ?_
    have aC:∀ b,e3.ownBlock=some b→c8.ownBlock≠some b:=fun b hb e=>(i1 b e).elim (fun e1=>((fun b hb e=>t6 b e hb) b hb e1)) (fun e1=>by have:=(B4.lt b hb).2;omega)
    have K3:∀ b,c8.ownBlock=some b→b≠b1:=fun b hb=>(i1 b hb).elim (fun e1=>(A8 b e1)) (fun e1=>by have:=a0.lt;omega)
    have t8:∀ b,c8.ownBlock=some b→b≠a3:=fun b hb=>(i1 b hb).elim (fun e1=>(A9 b e1)) (fun e1=>by have:=a8.lt;omega)
    have K4:∀ b,c8.ownBlock=some b→b≠a6:=fun b hb=>(i1 b hb).elim (fun e1=>(B0 b e1)) (fun e1=>by have:=a1.lt;omega)
    have B5:∀ b,c8.ownBlock=some b→b≠a2:=fun b hb=>(i1 b hb).elim (fun e1=>(B1 b e1)) (fun e1=>by have:=b0.lt;omega)
    have K5:∀ b,c8.ownBlock=some b→b≠a5:=fun b hb=>(i1 b hb).elim (fun e1=>(B2 b e1)) (fun e1=>by have:=a7.lt;omega)
    have K6:∀ b,c8.ownBlock=some b→b≠b2:=fun b hb=>(i1 b hb).elim (fun e1=>(B3 b e1)) (fun e1=>by have:=b3.lt;omega)
    have t7:∀ b,e3.ownBlock=some b→b∈h2:=fun b hb=>g2 b (t7 b hb)
    have d3:b1∈h2:=g2 b1 rC
    have d4:a3∈h2:=g2 a3 rC
    have d5:a6∈h2:=g2 a6 rC
    have d6:a2∈h2:=g2 a2 rC
    have d7:a5∈h2:=g2 a5 rC
    have d8:b2∈h2:=g2 b2 rC
    have a9:=a9.mv F3
    have a4:=a4.mv F3
    have a0:=a0.keep m0 (by simp only [Option.mem_toList];exact fun e=>absurd rfl (A8 _ e))
    have a8:=a8.keep m0 (by simp only [Option.mem_toList];exact fun e=>absurd rfl (A9 _ e))
    have a1:=a1.keep m0 (by simp only [Option.mem_toList];exact fun e=>absurd rfl (B0 _ e))
    have b0:=b0.keep m0 (by simp only [Option.mem_toList];exact fun e=>absurd rfl (B1 _ e))
    have a7:=a7.keep m0 (by simp only [Option.mem_toList];exact fun e=>absurd rfl (B2 _ e))
    have b3:=b3.keep m0 (by simp only [Option.mem_toList];exact fun e=>absurd rfl (B3 _ e))
    refine AA (FK ⟨a2,0,none⟩ rfl (AA (AU 0 IK rfl (AA (AU 3 SZ rfl (CB (CI (c8) rfl rfl c5.oneCell s_22 (by repeat (assumption)) b0 oT U5 fun cm U6 w8 m2 d0=>(?_))))))))
    have c5:=c5.mv w8 m2 (fun b hb=>BC (B5 b hb))
    have a9:=a9.mv w8
    have a4:=a4.mv w8
    have a0:=a0.keep m2 (BC y7)
    have a8:=a8.keep m2 (BC g4)
    have a1:=a1.keep m2 (BC y8)
    have a7:=a7.keep m2 (BC (Ne.symm y9))
    have b3:=b3.keep m2 (BC (Ne.symm k4))
    refine AG (GW rfl (KE rfl) (Exists.intro _ (And.intro rfl (AG (GW rfl (KE rfl) (EB (AG (GW rfl (KE rfl) (EB (AG (GW rfl (KE rfl) (EB (AG (AC (AF (AB kR (AA (DF U28_ rfl BR rfl a9 fun aD K7=>(?_)))))))))))))))))))
    obtain ⟨f4,F4,rfl,b8,B6⟩:=K7
    have:=b8.len_le
    have:=B6.len_le
    refine CB (BF (vs:=[vI c.epoch,vI c.threshold,vI c.wait,f4,F4]) (.agg #[vI c.epoch,vI c.threshold,vI c.wait,f4,F4]) rfl rfl rfl BR (fun u hu=>by simp only [List.mem_cons,List.not_mem_nil,or_false] at hu;rcases hu with rfl|rfl|rfl|rfl|rfl <;> first|rfl|exact b8.oneCell|exact B6.oneCell) (by repeat (assumption)) a8 oT U6 fun cn U7 q2 m3 i2=>(?_))
    have a9:=a9.mv q2
    have a4:=a4.mv q2
    have b8:=b8.mv q2
    have a0:=a0.keep m3 (BC c6)
    have a1:=a1.keep m3 (BC (Ne.symm c0))
    have c5:=c5.mv q2 m3 (fun b hb=>BC (t8 b hb))
    have d0:=d0.keep m3 (BC (Ne.symm g4))
    have a7:=a7.keep m3 (BC (Ne.symm r7))
    have b3:=b3.keep m3 (BC (Ne.symm i9))
    refine AG (AC (AF (AB kR (AA (BH 4 FD (c.recs) rfl a9 (fun _ _ _ h=>DI h) fun co K8=>(AA (CF U26_ rfl rfl K8 fun w9 k9=>(?_))))))))
    have:=k9.len_le
    refine AA (LB [w9] _ ND rfl (CG 8 Try.func67 rfl rfl oT (fun cp=>AF (AB kR (AA (AD (nS) rfl (AG (AC (AF (AF (AB kR (AA (AE (w9) rfl (AA (PV U26_ rfl rfl k9 oM (AG (AC (AJ false rfl rfl (fun h=>by cases h) (fun _=>AO (AC (AF (AB kR (AA (HT (E:=Enc.recovery) (xs:=[]) U26_ IE OW (by decide) [] [] [] rfl rfl rfl (Parts.nil _ _ _) oT U7 fun h3 F5 cq U8 f5 U9 q3 j8 K9=>(?_)))))))))))))))))))))))) (fun _ _ h=>h))
    have B7:∀ b,h3.ownBlock=some b→b≠b1:=fun b hb=>by have:=a0.lt;rw [f5] at hb;cases hb;omega
    have B8:∀ b,h3.ownBlock=some b→b≠a3:=fun b hb=>by have:=i2.lt;rw [f5] at hb;cases hb;omega
    have B9:∀ b,h3.ownBlock=some b→b≠a6:=fun b hb=>by have:=a1.lt;rw [f5] at hb;cases hb;omega
    have C0:∀ b,h3.ownBlock=some b→b≠a2:=fun b hb=>by have:=d0.lt;rw [f5] at hb;cases hb;omega
    have L0:∀ b,h3.ownBlock=some b→b≠a5:=fun b hb=>by have:=a7.lt;rw [f5] at hb;cases hb;omega
    have L1:∀ b,h3.ownBlock=some b→b≠b2:=fun b hb=>by have:=b3.lt;rw [f5] at hb;cases hb;omega
    have t9:∀ b,c8.ownBlock=some b→h3.ownBlock≠some b:=fun b hb=>by have:=(c5.lt b hb).2;rw [f5];intro e;cases e;omega
    have ne3975':∀ b,h3.ownBlock=some b→c8.ownBlock≠some b:=fun b hb e=>t9 b e hb
    have L2:∀ b,h3.ownBlock=some b→b∈(F5 :: h2):=fun b hb=>by rw [f5] at hb;cases hb;simp
    clear U8 f5
    have o6:∀ b,c8.ownBlock=some b→b∈(F5 :: h2):=fun b hb=>List.mem_cons_of_mem _ (o6 b hb)
    have k9:=k9.mv q3
    have a4:=a4.mv q3
    have b8:=b8.mv q3
    have a0:=a0.keep j8 (by simp)
    have i2:=i2.keep j8 (by simp)
    have a1:=a1.keep j8 (by simp)
    have c5:=c5.mv q3 j8 (by simp)
    have d0:=d0.keep j8 (by simp)
    have a7:=a7.keep j8 (by simp)
    have b3:=b3.keep j8 (by simp)
    refine AA (AE (w9) rfl (AA (CY (E:=Enc.recovery) (l:=[]) (m:=c.recs) U26_ XC rfl (by decide) rfl rfl K9 k9 (fun _ hb=>.inl hb) L2 (by simp;omega) (by simp [maxLen];omega) U9 fun c2 cr h4 u0 i3 g3 V0 x1 o7 e5=>(?_))))
    rw [List.nil_append] at e5
    have L3:∀ b,c8.ownBlock=some b→c2.ownBlock≠some b:=fun b hb e=>by rcases i3 with e1|e1 <;> rw [e1] at e <;> first|(cases e;have:=(c5.lt _ hb).2;omega)|(exact absurd e (t9 b hb))
    have C1:∀ b,c2.ownBlock=some b→b≠b1:=fun b hb=>by rcases i3 with e1|e1 <;> rw [e1] at hb <;> first|(cases hb;have:=a0.lt;omega)|(exact B7 b hb)
    have u1:∀ b,c2.ownBlock=some b→b≠a3:=fun b hb=>by rcases i3 with e1|e1 <;> rw [e1] at hb <;> first|(cases hb;have:=i2.lt;omega)|(exact B8 b hb)
    have C2:∀ b,c2.ownBlock=some b→b≠a6:=fun b hb=>by rcases i3 with e1|e1 <;> rw [e1] at hb <;> first|(cases hb;have:=a1.lt;omega)|(exact B9 b hb)
    have aE:∀ b,c2.ownBlock=some b→b≠a2:=fun b hb=>by rcases i3 with e1|e1 <;> rw [e1] at hb <;> first|(cases hb;have:=d0.lt;omega)|(exact C0 b hb)
    have aF:∀ b,c2.ownBlock=some b→b≠a5:=fun b hb=>by rcases i3 with e1|e1 <;> rw [e1] at hb <;> first|(cases hb;have:=a7.lt;omega)|(exact L0 b hb)
    have aG:∀ b,c2.ownBlock=some b→b≠b2:=fun b hb=>by rcases i3 with e1|e1 <;> rw [e1] at hb <;> first|(cases hb;have:=b3.lt;omega)|(exact L1 b hb)
    have o6:∀ b,c8.ownBlock=some b→b∈h4:=fun b hb=>g3 b (o6 b hb)
    have d3:b1∈h4:=g3 b1 rC
    have d4:a3∈h4:=g3 a3 rC
    have d5:a6∈h4:=g3 a6 rC
    have d6:a2∈h4:=g3 a2 rC
    have d7:a5∈h4:=g3 a5 rC
    have d8:b2∈h4:=g3 b2 rC
    have a4:=a4.mv x1
    have b8:=b8.mv x1
    have a0:=a0.keep o7 (by simp only [Option.mem_toList];exact fun e=>absurd rfl (B7 _ e))
    have i2:=i2.keep o7 (by simp only [Option.mem_toList];exact fun e=>absurd rfl (B8 _ e))
    have a1:=a1.keep o7 (by simp only [Option.mem_toList];exact fun e=>absurd rfl (B9 _ e))
    have c5:=c5.mv x1 o7 (fun b hb=>by simp only [Option.mem_toList];exact t9 b hb)
    have d0:=d0.keep o7 (by simp only [Option.mem_toList];exact fun e=>absurd rfl (C0 _ e))
    refine AA (AD (c2) rfl (AG (AC (AM (AS rfl (CN rfl rfl rfl) (Exists.intro _ (And.intro rfl (AA (AU 4 FD rfl (CB (CI (c2) rfl rfl e5.oneCell s_26 (by repeat (assumption)) i2 oT V0 fun x2 V1 q4 o8 e0=>(?_))))))))))))
    have a4:=a4.mv q4
    have b8:=b8.mv q4
    have e5:=e5.mv q4 o8 (fun b hb=>BC (u1 b hb))
    have a0:=a0.keep o8 (BC c6)
    have a1:=a1.keep o8 (BC (Ne.symm c0))
    have c5:=c5.mv q4 o8 (fun b hb=>BC (t8 b hb))
    have d0:=d0.keep o8 (BC (Ne.symm g4))
    refine AG (AC (AF (cw_draw' 7 _ _ [DZ (vP (some ⟨a3,4,none⟩)),DZ c2,DZ (vI no),DZ (vP (some ⟨a2,0,none⟩)),DZ (vP (some ⟨a2,0,none⟩)),DZ (vP (some ⟨a2,0,none⟩)),DZ (vA #[vI ((c.recs[no.toNat]!).no),vI ((c.recs[no.toNat]!).asked),vI ((c.recs[no.toNat]!).state),c8,d2])] kR kR kR kR rfl rfl ⟨kI,kI,kI,kI,kI,kI,kI,trivial⟩ ⟨?_,?_,?_,?_,?_,?_,?_,trivial⟩ ?_)))
    ·intro F1 w1 k1 hf hd
     obtain ⟨F2,rfl⟩:=AL (F:=F1) [(6,vP (some ⟨a3,0,none⟩))] ⟨hf 6 kR,trivial⟩
     exact AH rfl ((AU 4 FD rfl (⟨(Keep.refl _ _),rfl⟩)))
    ·intro F1 w1 k1 hf hd
     have k0:=(Keep.drew [] x2).trans k1
     have e0:=e0.keep k0 (by simp)
     obtain ⟨F2,rfl⟩:=AL (F:=F1) [(42,vP (some ⟨a3,4,none⟩))] ⟨hd 0 42 kR,trivial⟩
     exact AH rfl ((AW U26_ rfl (c2) rfl e0 rfl (⟨(Keep.refl _ _),rfl⟩)))
    ·intro F1 w1 k1 hf hd
     obtain ⟨F2,rfl⟩:=AL (F:=F1) [(1,vI no)] ⟨hf 1 kR,trivial⟩
     exact AH rfl ((AE (vI no) rfl (⟨(Keep.refl _ _),rfl⟩)))
    ·intro F1 w1 k1 hf hd
     obtain ⟨F2,rfl⟩:=AL (F:=F1) [(9,vP (some ⟨a2,0,none⟩))] ⟨hf 9 kR,trivial⟩
     exact AH rfl ((AE (vP (some ⟨a2,0,none⟩)) rfl (⟨(Keep.refl _ _),rfl⟩)))
    ·intro F1 w1 k1 hf hd
     obtain ⟨F2,rfl⟩:=AL (F:=F1) [(45,vP (some ⟨a2,0,none⟩))] ⟨hd 3 45 kR,trivial⟩
     exact AH rfl ((FK ⟨a2,0,none⟩ rfl (⟨(Keep.refl _ _),rfl⟩)))
    ·intro F1 w1 k1 hf hd
     obtain ⟨F2,rfl⟩:=AL (F:=F1) [(46,vP (some ⟨a2,0,none⟩))] ⟨hd 4 46 kR,trivial⟩
     exact AH rfl ((AU 0 IK rfl (⟨(Keep.refl _ _),rfl⟩)))
    ·intro F1 w1 k1 hf hd
     have k0:=(Keep.drew [] x2).trans k1
     have d0:=d0.keep k0 (by simp)
     obtain ⟨F2,rfl⟩:=AL (F:=F1) [(47,vP (some ⟨a2,0,none⟩))] ⟨hd 5 47 kR,trivial⟩
     exact AH rfl ((BW (vs:=[vI ((c.recs[no.toNat]!).no),vI ((c.recs[no.toNat]!).asked),vI ((c.recs[no.toNat]!).state),c8,d2]) U68_ rfl IE rfl d0 rfl (⟨(Keep.refl _ _),rfl⟩)))
    intro V2 V3 j9 o9 p0
    have V4:=V1.call j9
    have q5:Mv h4 x2 h4 V3:=Mv.of_keep j9
    have a4:=a4.mv q5
    have b8:=b8.mv q5
    have e5:=e5.mv q5 j9 (by simp)
    have a0:=a0.keep j9 (by simp)
    have e0:=e0.keep j9 (by simp)
    have a1:=a1.keep j9 (by simp)
    have c5:=c5.mv q5 j9 (by simp)
    obtain ⟨F2,rfl⟩:=AL (F:=V2) [(6,vP (some ⟨a3,0,none⟩)),(7,vP (some ⟨a6,0,none⟩)),(51, .tuple #[vN (.func 103) #[] #[vP (some ⟨a3,0,none⟩),vP (some ⟨a6,0,none⟩)]]),(43,c2),(44,vI no),(48,vA #[vI ((c.recs[no.toNat]!).no),vI ((c.recs[no.toNat]!).asked),vI ((c.recs[no.toNat]!).state),c8,d2])] ⟨p0 6 kR,p0 7 kR,p0 51 kR,o9 1 43 kR (by decide),o9 2 44 kR (by decide),o9 6 48 kR (by decide),trivial⟩
    clear o9 p0
    refine AA (EF U26_ IE .i64 no no.toNat rfl rfl oM e5 oM fun cs l0=>(?_))
    obtain ⟨k2,V5,x3,C3,i4⟩:=c5.publish V4
    have u0:∀ b,c2.ownBlock=some b→b∈k2:=fun b hb=>i4 b (u0 b hb) ((fun b hb e=>L3 b e hb) b hb)
    have d3:b1∈k2:=i4 b1 (by repeat (assumption)) (fun e=>absurd rfl (K3 _ e))
    have d4:a3∈k2:=i4 a3 (by repeat (assumption)) (fun e=>absurd rfl (t8 _ e))
    have d5:a6∈k2:=i4 a6 (by repeat (assumption)) (fun e=>absurd rfl (K4 _ e))
    have d6:a2∈k2:=i4 a2 (by repeat (assumption)) (fun e=>absurd rfl (B5 _ e))
    have d7:a5∈k2:=i4 a5 (by repeat (assumption)) (fun e=>absurd rfl (K5 _ e))
    have d8:b2∈k2:=i4 b2 (by repeat (assumption)) (fun e=>absurd rfl (K6 _ e))
    have Z5:=C3.len_le
    have e5:=e5.mv x3 (Keep.refl [] _) (by simp)
    have a4:=a4.mv x3
    have a0:=a0.keep (Keep.refl [] _) (by simp)
    have b8:=b8.mv x3
    have e0:=e0.keep (Keep.refl [] _) (by simp)
    have a1:=a1.keep (Keep.refl [] _) (by simp)
    refine CB (PU (⟨(c.recs[no.toNat]!).no,(c.recs[no.toNat]!).asked,(c.recs[no.toNat]!).state,((c.recs[no.toNat]!).approved).take (tw ((c.recs[no.toNat]!).approved) guardian)++([guardian])++((c.recs[no.toNat]!).approved).drop (tw ((c.recs[no.toNat]!).approved) guardian),(c.recs[no.toNat]!).vetoed⟩:Recovery) (by decide) IE rfl rfl e5 l0 (u0 _ l0) oM ⟨_,_,rfl,C3,a4⟩ V5 fun ct V6 V7 x4 f6=>(?_))
    have a0:=a0.keep x4 (by simp only [List.mem_singleton];exact fun e=>absurd e.symm (C1 _ l0))
    have b8:=b8.mv V7
    have e0:=e0.keep x4 (by simp only [List.mem_singleton];exact fun e=>absurd e.symm (u1 _ l0))
    have a1:=a1.keep x4 (by simp only [List.mem_singleton];exact fun e=>absurd e.symm (C2 _ l0))
    refine AG (AC (AF (AB kR (AA (BW (vs:=[vI c.epoch,vI c.threshold,vI c.wait,f4,c2]) U28_ rfl BR rfl e0 rfl (CB (BF (vs:=[vI c.epoch,vI c.threshold,vI c.wait,f4,c2]) (.agg #[vI c.epoch,vI c.threshold,vI c.wait,f4,c2]) rfl rfl rfl BR (fun u hu=>by simp only [List.mem_cons,List.not_mem_nil,or_false] at hu;rcases hu with rfl|rfl|rfl|rfl|rfl <;> first|rfl|exact b8.oneCell|exact f6.oneCell) (by repeat (assumption)) e0 oT V6 fun cu V8 F6 x5 u2=>(?_))))))))
    have f6:=f6.mv F6 x5 (fun b hb=>BC (u1 b hb))
    have b8:=b8.mv F6
    have a0:=a0.keep x5 (BC c6)
    have a1:=a1.keep x5 (BC (Ne.symm c0))
    refine CB (CI (vI 0) rfl rfl rfl TE (by repeat (assumption)) a1 oT V8 fun cv V9 F7 x6 L4=>(?_))
    have f6:=f6.mv F7 x6 (fun b hb=>BC (C2 b hb))
    have b8:=b8.mv F7
    have a0:=a0.keep x6 (BC e8)
    have u2:=u2.keep x6 (BC c0)
    refine AG (AC (AM (UE (QC [vP (some ⟨a3,0,none⟩),vP (some ⟨a6,0,none⟩)] 19 .returning rfl (fun h=>by cases h) rfl GM Try.func103 rfl rfl oT rfl rfl (fun cw=>AF (AB kR (AA (AE (Value.nilIface) rfl (AA (o_neqNil' U20_ rfl (AG (AC (AJ false rfl rfl (fun h=>by cases h) (fun _=>AO (GW rfl (KE rfl) (Exists.intro _ (And.intro (FA rfl (EZ (vs:=[vI c.epoch,vI c.threshold,vI c.wait,f4,c2]) rfl U28_ rfl BR rfl u2 rfl) (OM rfl U29_ rfl rfl L4 rfl)) (EB (AA (AN (vA #[vI c.epoch,vI c.threshold,vI c.wait,f4,c2]) rfl rfl (AA (AN (vI 0) rfl rfl (CB (BF (vs:=[vI c.epoch,vI c.threshold,vI c.wait,f4,c2]) (.agg #[vI c.epoch,vI c.threshold,vI c.wait,f4,c2]) rfl rfl rfl BR (fun u hu=>by simp only [List.mem_cons,List.not_mem_nil,or_false] at hu;rcases hu with rfl|rfl|rfl|rfl|rfl <;> first|rfl|exact b8.oneCell|exact f6.oneCell) (by repeat (assumption)) a0 oT V9 fun cx F8 F9 W0 L5=>(?_)))))))))))))))))))))))))
    have b8:=b8.mv F9
    have f6:=f6.mv F9 W0 (fun b hb=>BC (C1 b hb))
    refine AA (AD (vI 0) rfl (AG (AC (AM (AS rfl (FA rfl (EZ (vs:=[vI c.epoch,vI c.threshold,vI c.wait,f4,c2]) rfl U28_ rfl BR rfl L5 rfl) (ES rfl rfl)) (?_))))))
    have W1:((CR c no (BS c guardian)).1)=(⟨c.epoch,c.threshold,c.wait,c.guardians,c.recs.set no.toNat (⟨(c.recs[no.toNat]!).no,(c.recs[no.toNat]!).asked,(c.recs[no.toNat]!).state,((c.recs[no.toNat]!).approved).take (tw ((c.recs[no.toNat]!).approved) guardian)++([guardian])++((c.recs[no.toNat]!).approved).drop (tw ((c.recs[no.toNat]!).approved) guardian),(c.recs[no.toNat]!).vetoed⟩:Recovery)⟩:Circle):=by exact congrArg (fun p=>p.1) (show CR c no (BS c guardian)=_ from UL hok oM oM aS aS aS)
    have W2:((CR c no (BS c guardian)).2)=(0:Int):=by exact congrArg (fun p=>p.2) (show CR c no (BS c guardian)=_ from UL hok oM oM aS aS aS)
    exact ⟨_,rfl,F8.keep,by rw [W1,W2];exact ⟨[vI c.epoch,vI c.threshold,vI c.wait,f4,c2],rfl,⟨_,_,rfl,b8.out,(f6.pub F8)⟩⟩⟩
   have aH:(WX ((c.recs[no.toNat]!).approved) guardian)=true:=by simpa using s5
   refine AO (GW rfl (KE rfl) (Exists.intro _ (And.intro rfl (AG (GW rfl (KE rfl) (EB (AG (GW rfl (KE rfl) (EB (AG (GW rfl (KE rfl) (EB (AG (AC (AF (AB kR (AA (DF U28_ rfl BR rfl a9 fun aI L6=>(?_)))))))))))))))))))
   obtain ⟨f7,G0,rfl,b9,C4⟩:=L6
   have:=b9.len_le
   have:=C4.len_le
   refine CB (BF (vs:=[vI c.epoch,vI c.threshold,vI c.wait,f7,G0]) (.agg #[vI c.epoch,vI c.threshold,vI c.wait,f7,G0]) rfl rfl rfl BR (fun u hu=>by simp only [List.mem_cons,List.not_mem_nil,or_false] at hu;rcases hu with rfl|rfl|rfl|rfl|rfl <;> first|rfl|exact b9.oneCell|exact C4.oneCell) (by repeat (constructor)) a8 oT v5 fun cy W3 q6 p1 i5=>(?_))
   have a9:=a9.mv q6
   have b4:=b4.mv q6
   have a4:=a4.mv q6
   have b9:=b9.mv q6
   have a0:=a0.keep p1 (BC c6)
   have a1:=a1.keep p1 (BC (Ne.symm c0))
   have b0:=b0.keep p1 (BC (Ne.symm g4))
   have a7:=a7.keep p1 (BC (Ne.symm r7))
   have b3:=b3.keep p1 (BC (Ne.symm i9))
   refine AG (AC (AF (AB kR (AA (BH 4 FD (c.recs) rfl a9 (fun _ _ _ h=>DI h) fun cz L7=>(AA (CF U26_ rfl rfl L7 fun x7 l1=>(?_))))))))
   have:=l1.len_le
   refine AA (LB [x7] _ ND rfl (CG 8 Try.func67 rfl rfl oT (fun cA=>AF (AB kR (AA (AD (nS) rfl (AG (AC (AF (AF (AB kR (AA (AE (x7) rfl (AA (PV U26_ rfl rfl l1 oM (AG (AC (AJ false rfl rfl (fun h=>by cases h) (fun _=>AO (AC (AF (AB kR (AA (HT (E:=Enc.recovery) (xs:=[]) U26_ IE OW (by decide) [] [] [] rfl rfl rfl (Parts.nil _ _ _) oT W3 fun k3 W4 cB W5 g7 W6 q7 m4 L8=>(?_)))))))))))))))))))))))) (fun _ _ h=>h))
   have C5:∀ b,k3.ownBlock=some b→b≠b1:=fun b hb=>by have:=a0.lt;rw [g7] at hb;cases hb;omega
   have C6:∀ b,k3.ownBlock=some b→b≠a3:=fun b hb=>by have:=i5.lt;rw [g7] at hb;cases hb;omega
   have C7:∀ b,k3.ownBlock=some b→b≠a6:=fun b hb=>by have:=a1.lt;rw [g7] at hb;cases hb;omega
   have C8:∀ b,k3.ownBlock=some b→b≠a2:=fun b hb=>by have:=b0.lt;rw [g7] at hb;cases hb;omega
   have L9:∀ b,k3.ownBlock=some b→b≠a5:=fun b hb=>by have:=a7.lt;rw [g7] at hb;cases hb;omega
   have M0:∀ b,k3.ownBlock=some b→b≠b2:=fun b hb=>by have:=b3.lt;rw [g7] at hb;cases hb;omega
   have M1:∀ b,k3.ownBlock=some b→b∈(W4 :: (b2 :: (a5 :: (a2 :: (a6 :: (a3 :: (b1 :: []))))))):=fun b hb=>by rw [g7] at hb;cases hb;simp
   clear W5 g7
   have l1:=l1.mv q7
   have b4:=b4.mv q7
   have a4:=a4.mv q7
   have b9:=b9.mv q7
   have a0:=a0.keep m4 (by simp)
   have i5:=i5.keep m4 (by simp)
   have a1:=a1.keep m4 (by simp)
   have b0:=b0.keep m4 (by simp)
   have a7:=a7.keep m4 (by simp)
   have b3:=b3.keep m4 (by simp)
   refine AA (AE (x7) rfl (AA (CY (E:=Enc.recovery) (l:=[]) (m:=c.recs) U26_ XC rfl (by decide) rfl rfl L8 l1 (fun _ hb=>.inl hb) M1 (by simp;omega) (by simp [maxLen];omega) W6 fun c3 cC i8 M2 j1 h6 W7 x8 q8 g8=>(?_))))
   rw [List.nil_append] at g8
   have C9:∀ b,c3.ownBlock=some b→b≠b1:=fun b hb=>by rcases j1 with e1|e1 <;> rw [e1] at hb <;> first|(cases hb;have:=a0.lt;omega)|(exact C5 b hb)
   have u3:∀ b,c3.ownBlock=some b→b≠a3:=fun b hb=>by rcases j1 with e1|e1 <;> rw [e1] at hb <;> first|(cases hb;have:=i5.lt;omega)|(exact C6 b hb)
   have D0:∀ b,c3.ownBlock=some b→b≠a6:=fun b hb=>by rcases j1 with e1|e1 <;> rw [e1] at hb <;> first|(cases hb;have:=a1.lt;omega)|(exact C7 b hb)
   have aJ:∀ b,c3.ownBlock=some b→b≠a2:=fun b hb=>by rcases j1 with e1|e1 <;> rw [e1] at hb <;> first|(cases hb;have:=b0.lt;omega)|(exact C8 b hb)
   have aK:∀ b,c3.ownBlock=some b→b≠a5:=fun b hb=>by rcases j1 with e1|e1 <;> rw [e1] at hb <;> first|(cases hb;have:=a7.lt;omega)|(exact L9 b hb)
   have aL:∀ b,c3.ownBlock=some b→b≠b2:=fun b hb=>by rcases j1 with e1|e1 <;> rw [e1] at hb <;> first|(cases hb;have:=b3.lt;omega)|(exact M0 b hb)
   have d3:b1∈i8:=h6 b1 (by repeat (constructor))
   have d4:a3∈i8:=h6 a3 (by repeat (constructor))
   have d5:a6∈i8:=h6 a6 (by repeat (constructor))
   have d6:a2∈i8:=h6 a2 (by repeat (constructor))
   have d7:a5∈i8:=h6 a5 (by repeat (constructor))
   have d8:b2∈i8:=h6 b2 (by repeat (constructor))
   have b4:=b4.mv x8
   have a4:=a4.mv x8
   have b9:=b9.mv x8
   have a0:=a0.keep q8 (by simp only [Option.mem_toList];exact fun e=>absurd rfl (C5 _ e))
   have i5:=i5.keep q8 (by simp only [Option.mem_toList];exact fun e=>absurd rfl (C6 _ e))
   have a1:=a1.keep q8 (by simp only [Option.mem_toList];exact fun e=>absurd rfl (C7 _ e))
   have b0:=b0.keep q8 (by simp only [Option.mem_toList];exact fun e=>absurd rfl (C8 _ e))
   refine AA (AD (c3) rfl (AG (AC (AM (AS rfl (CN rfl rfl rfl) (Exists.intro _ (And.intro rfl (AA (AU 4 FD rfl (CB (CI (c3) rfl rfl g8.oneCell s_26 (by repeat (assumption)) i5 oT W7 fun x9 W8 q9 r0 f8=>(?_))))))))))))
   have b4:=b4.mv q9
   have a4:=a4.mv q9
   have b9:=b9.mv q9
   have g8:=g8.mv q9 r0 (fun b hb=>BC (u3 b hb))
   have a0:=a0.keep r0 (BC c6)
   have a1:=a1.keep r0 (BC (Ne.symm c0))
   have b0:=b0.keep r0 (BC (Ne.symm g4))
   refine AG (AC (AF (cw_draw' 7 _ _ [DZ (vP (some ⟨a3,4,none⟩)),DZ c3,DZ (vI no),DZ (vP (some ⟨a2,0,none⟩)),DZ (vP (some ⟨a2,0,none⟩)),DZ (vP (some ⟨a2,0,none⟩)),DZ (vA #[vI ((c.recs[no.toNat]!).no),vI ((c.recs[no.toNat]!).asked),vI ((c.recs[no.toNat]!).state),d1,d2])] kR kR kR kR rfl rfl ⟨kI,kI,kI,kI,kI,kI,kI,trivial⟩ ⟨?_,?_,?_,?_,?_,?_,?_,trivial⟩ ?_)))
   ·intro F1 w1 k1 hf hd
    obtain ⟨F2,rfl⟩:=AL (F:=F1) [(6,vP (some ⟨a3,0,none⟩))] ⟨hf 6 kR,trivial⟩
    exact AH rfl ((AU 4 FD rfl (⟨(Keep.refl _ _),rfl⟩)))
   ·intro F1 w1 k1 hf hd
    have k0:=(Keep.drew [] x9).trans k1
    have f8:=f8.keep k0 (by simp)
    obtain ⟨F2,rfl⟩:=AL (F:=F1) [(42,vP (some ⟨a3,4,none⟩))] ⟨hd 0 42 kR,trivial⟩
    exact AH rfl ((AW U26_ rfl (c3) rfl f8 rfl (⟨(Keep.refl _ _),rfl⟩)))
   ·intro F1 w1 k1 hf hd
    obtain ⟨F2,rfl⟩:=AL (F:=F1) [(1,vI no)] ⟨hf 1 kR,trivial⟩
    exact AH rfl ((AE (vI no) rfl (⟨(Keep.refl _ _),rfl⟩)))
   ·intro F1 w1 k1 hf hd
    obtain ⟨F2,rfl⟩:=AL (F:=F1) [(9,vP (some ⟨a2,0,none⟩))] ⟨hf 9 kR,trivial⟩
    exact AH rfl ((AE (vP (some ⟨a2,0,none⟩)) rfl (⟨(Keep.refl _ _),rfl⟩)))
   ·intro F1 w1 k1 hf hd
    obtain ⟨F2,rfl⟩:=AL (F:=F1) [(45,vP (some ⟨a2,0,none⟩))] ⟨hd 3 45 kR,trivial⟩
    exact AH rfl ((FK ⟨a2,0,none⟩ rfl (⟨(Keep.refl _ _),rfl⟩)))
   ·intro F1 w1 k1 hf hd
    obtain ⟨F2,rfl⟩:=AL (F:=F1) [(46,vP (some ⟨a2,0,none⟩))] ⟨hd 4 46 kR,trivial⟩
    exact AH rfl ((AU 0 IK rfl (⟨(Keep.refl _ _),rfl⟩)))
   ·intro F1 w1 k1 hf hd
    have k0:=(Keep.drew [] x9).trans k1
    have b0:=b0.keep k0 (by simp)
    obtain ⟨F2,rfl⟩:=AL (F:=F1) [(47,vP (some ⟨a2,0,none⟩))] ⟨hd 5 47 kR,trivial⟩
    exact AH rfl ((BW (vs:=[vI ((c.recs[no.toNat]!).no),vI ((c.recs[no.toNat]!).asked),vI ((c.recs[no.toNat]!).state),d1,d2]) U68_ rfl IE rfl b0 rfl (⟨(Keep.refl _ _),rfl⟩)))
   intro W9 X0 m5 p2 p3
   have X1:=W8.call m5
   have r1:Mv i8 x9 i8 X0:=Mv.of_keep m5
   have b4:=b4.mv r1
   have a4:=a4.mv r1
   have b9:=b9.mv r1
   have g8:=g8.mv r1 m5 (by simp)
   have a0:=a0.keep m5 (by simp)
   have f8:=f8.keep m5 (by simp)
   have a1:=a1.keep m5 (by simp)
   obtain ⟨F2,rfl⟩:=AL (F:=W9) [(6,vP (some ⟨a3,0,none⟩)),(7,vP (some ⟨a6,0,none⟩)),(51, .tuple #[vN (.func 103) #[] #[vP (some ⟨a3,0,none⟩),vP (some ⟨a6,0,none⟩)]]),(43,c3),(44,vI no),(48,vA #[vI ((c.recs[no.toNat]!).no),vI ((c.recs[no.toNat]!).asked),vI ((c.recs[no.toNat]!).state),d1,d2])] ⟨p3 6 kR,p3 7 kR,p3 51 kR,p2 1 43 kR (by decide),p2 2 44 kR (by decide),p2 6 48 kR (by decide),trivial⟩
   clear p2 p3
   refine AA (EF U26_ IE .i64 no no.toNat rfl rfl oM g8 oM fun cD l2=>(CB (PU (c.recs[no.toNat]!) (by decide) IE rfl rfl g8 l2 (M2 _ l2) oM ⟨_,_,rfl,b4,a4⟩ X1 fun cE X2 X3 y0 f9=>(?_))))
   have a0:=a0.keep y0 (by simp only [List.mem_singleton];exact fun e=>absurd e.symm (C9 _ l2))
   have b9:=b9.mv X3
   have f8:=f8.keep y0 (by simp only [List.mem_singleton];exact fun e=>absurd e.symm (u3 _ l2))
   have a1:=a1.keep y0 (by simp only [List.mem_singleton];exact fun e=>absurd e.symm (D0 _ l2))
   refine AG (AC (AF (AB kR (AA (BW (vs:=[vI c.epoch,vI c.threshold,vI c.wait,f7,c3]) U28_ rfl BR rfl f8 rfl (CB (BF (vs:=[vI c.epoch,vI c.threshold,vI c.wait,f7,c3]) (.agg #[vI c.epoch,vI c.threshold,vI c.wait,f7,c3]) rfl rfl rfl BR (fun u hu=>by simp only [List.mem_cons,List.not_mem_nil,or_false] at hu;rcases hu with rfl|rfl|rfl|rfl|rfl <;> first|rfl|exact b9.oneCell|exact f9.oneCell) (by repeat (assumption)) f8 oT X2 fun cF X4 G1 y1 u4=>(?_))))))))
   have f9:=f9.mv G1 y1 (fun b hb=>BC (u3 b hb))
   have b9:=b9.mv G1
   have a0:=a0.keep y1 (BC c6)
   have a1:=a1.keep y1 (BC (Ne.symm c0))
   refine CB (CI (vI 0) rfl rfl rfl TE (by repeat (assumption)) a1 oT X4 fun cG X5 G2 y2 M3=>(?_))
   have f9:=f9.mv G2 y2 (fun b hb=>BC (D0 b hb))
   have b9:=b9.mv G2
   have a0:=a0.keep y2 (BC e8)
   have u4:=u4.keep y2 (BC c0)
   refine AG (AC (AM (UE (QC [vP (some ⟨a3,0,none⟩),vP (some ⟨a6,0,none⟩)] 19 .returning rfl (fun h=>by cases h) rfl GM Try.func103 rfl rfl oT rfl rfl (fun cH=>AF (AB kR (AA (AE (Value.nilIface) rfl (AA (o_neqNil' U20_ rfl (AG (AC (AJ false rfl rfl (fun h=>by cases h) (fun _=>AO (GW rfl (KE rfl) (Exists.intro _ (And.intro (FA rfl (EZ (vs:=[vI c.epoch,vI c.threshold,vI c.wait,f7,c3]) rfl U28_ rfl BR rfl u4 rfl) (OM rfl U29_ rfl rfl M3 rfl)) (EB (AA (AN (vA #[vI c.epoch,vI c.threshold,vI c.wait,f7,c3]) rfl rfl (AA (AN (vI 0) rfl rfl (CB (BF (vs:=[vI c.epoch,vI c.threshold,vI c.wait,f7,c3]) (.agg #[vI c.epoch,vI c.threshold,vI c.wait,f7,c3]) rfl rfl rfl BR (fun u hu=>by simp only [List.mem_cons,List.not_mem_nil,or_false] at hu;rcases hu with rfl|rfl|rfl|rfl|rfl <;> first|rfl|exact b9.oneCell|exact f9.oneCell) (by repeat (assumption)) a0 oT X5 fun cI G3 G4 X6 M4=>(?_)))))))))))))))))))))))))
   have b9:=b9.mv G4
   have f9:=f9.mv G4 X6 (fun b hb=>BC (C9 b hb))
   refine AA (AD (vI 0) rfl (AG (AC (AM (AS rfl (FA rfl (EZ (vs:=[vI c.epoch,vI c.threshold,vI c.wait,f7,c3]) rfl U28_ rfl BR rfl M4 rfl) (ES rfl rfl)) (?_))))))
   have X7:((CR c no (BS c guardian)).1)=(⟨c.epoch,c.threshold,c.wait,c.guardians,c.recs.set no.toNat (c.recs[no.toNat]!)⟩:Circle):=by exact congrArg (fun p=>p.1) (show CR c no (BS c guardian)=_ from app_had hok oM oM aS aS aS)
   have X8:((CR c no (BS c guardian)).2)=(0:Int):=by exact congrArg (fun p=>p.2) (show CR c no (BS c guardian)=_ from app_had hok oM oM aS aS aS)
   exact ⟨_,rfl,G3.keep,by rw [X7,X8];exact ⟨[vI c.epoch,vI c.threshold,vI c.wait,f7,c3],rfl,⟨_,_,rfl,b9.out,(f9.pub G3)⟩⟩⟩
  ·refine AA (LK (k:=1) (vN (.func 73) #[] #[vP (some ⟨a5,0,none⟩)]) U110_ U3_ rfl (congrArg vI k5) b3 rfl (AA (AE (vT #[vN (.func 73) #[] #[vP (some ⟨a5,0,none⟩)],vO true]) rfl (AA (AN (vN (.func 73) #[] #[vP (some ⟨a5,0,none⟩)]) rfl rfl (AA (AN (vO true) rfl rfl (AA (AD (vN (.func 73) #[] #[vP (some ⟨a5,0,none⟩)]) rfl (AA (AD (vO true) rfl (AG (AC (AF (AB kR (AA (AE (vO true) rfl (AG (AC (AJ true rfl rfl (fun _=>AB kR (AA (AE (vN (.func 73) #[] #[vP (some ⟨a5,0,none⟩)]) rfl (AA (KZ [] [vP (some ⟨a5,0,none⟩)] [] enter_73 rfl rfl (CG 3 Try.func73 rfl rfl oT (fun cJ=>AB kR (AA (AW U106_ rfl (vP (some ⟨a2,0,none⟩)) rfl a7 rfl (AA (HY [vP (some ⟨a2,0,none⟩),vO false,vI 1] KV rfl (CG 11 Try.func72 rfl rfl oT (fun cK=>AF (AB kR (AA (AE (vO false) rfl (AA (HP false rfl (AG (AC (AJ true rfl rfl (fun _=>AB kR (AA (AE (vI 1) rfl (AA (EN (l:=[(0, .tmp 8)]) OZ SD rfl [(0,vI 1,[vI 1])] [vI 1] rfl ⟨_,rfl,rfl,oT,rfl⟩ (AA (MP (vA #[vI 1]) U125_ rfl rfl (CB (MI rfl (GA rfl (EO (GA rfl (EO (GA rfl (EO (GA rfl (EO (IW (MO (JL [vP (some ⟨a3,0,none⟩),vP (some ⟨a6,0,none⟩)] (.panicking [{ v:=Value.iface 125 (vA #[vI 1]),recovered:=false }]) rfl (fun h=>by cases h) rfl GM (OR (1:Int) a3 a6 p6 a8 a1 (by repeat (constructor)) (by repeat (constructor)) c0) (fun e_ cL hR_=>?_))))))))))))))))))))) (fun h=>by cases h)))))))))))))))))))))) (fun h=>by cases h)))))))))))))))))))))
   obtain ⟨v_,rfl,X9,cM,Y0,M5,M6⟩:=hR_
   have a0:=a0.keep Y0 (nin2 c6 e8)
   refine Exists.intro _ (And.intro (FA rfl (EZ (vs:=[vI 0,vI 0,vI 0,nS,nS]) rfl U28_ rfl BR rfl M5 rfl) (OM rfl U29_ rfl rfl M6 rfl)) (EB (AA (AN (vA #[vI 0,vI 0,vI 0,nS,nS]) rfl rfl (AA (AN (vI 1) rfl rfl (CB (BF (vs:=[vI 0,vI 0,vI 0,nS,nS]) (.agg #[vI 0,vI 0,vI 0,nS,nS]) rfl rfl rfl BR (fun u hu=>by simp only [List.mem_cons,List.not_mem_nil,or_false] at hu;rcases hu with rfl|rfl|rfl|rfl|rfl <;> rfl) (by repeat (constructor)) a0 oT X9 fun cN Y1 cO cP M7=>(AA (AD (vI 1) rfl (AG (AC (AM (AS rfl (FA rfl (EZ (vs:=[vI 0,vI 0,vI 0,nS,nS]) rfl U28_ rfl BR rfl M7 rfl) (ES rfl rfl)) (?_)))))))))))))))
   have Y2:((CR c no (BS c guardian)).1)=(⟨(0:Int),(0:Int),(0:Int),[],[]⟩:Circle):=by exact congrArg (fun p=>p.1) (show CR c no (BS c guardian)=_ from app_done hok oM oM aS)
   have Y3:((CR c no (BS c guardian)).2)=(1:Int):=by exact congrArg (fun p=>p.2) (show CR c no (BS c guardian)=_ from app_done hok oM oM aS)
   exact ⟨_,rfl,Y1.keep,by rw [Y2,Y3];exact ⟨[vI 0,vI 0,vI 0,nS,nS],rfl,Enc.out (B:=(b2 :: (a5 :: (a2 :: (a6 :: (a3 :: (b1 :: []))))))) ⟨.slice none 0 0, .slice none 0 0,rfl,(BB.nil _ _ _),(BB.nil _ _ _)⟩⟩⟩
  refine AA (LK (k:=2) (vN (.func 71) #[] #[vP (some ⟨a5,0,none⟩)]) U110_ U3_ rfl (congrArg vI k5) b3 rfl (AA (AE (vT #[vN (.func 71) #[] #[vP (some ⟨a5,0,none⟩)],vO true]) rfl (AA (AN (vN (.func 71) #[] #[vP (some ⟨a5,0,none⟩)]) rfl rfl (AA (AN (vO true) rfl rfl (AA (AD (vN (.func 71) #[] #[vP (some ⟨a5,0,none⟩)]) rfl (AA (AD (vO true) rfl (AG (AC (AF (AB kR (AA (AE (vO true) rfl (AG (AC (AJ true rfl rfl (fun _=>AB kR (AA (AE (vN (.func 71) #[] #[vP (some ⟨a5,0,none⟩)]) rfl (AA (KZ [] [vP (some ⟨a5,0,none⟩)] [] enter_71 rfl rfl (CG 3 Try.func71 rfl rfl oT (fun cQ=>AB kR (AA (AW U106_ rfl (vP (some ⟨a2,0,none⟩)) rfl a7 rfl (AA (HY [vP (some ⟨a2,0,none⟩),vO false,vI 452] KV rfl (CG 11 Try.func72 rfl rfl oT (fun cR=>AF (AB kR (AA (AE (vO false) rfl (AA (HP false rfl (AG (AC (AJ true rfl rfl (fun _=>AB kR (AA (AE (vI 452) rfl (AA (EN (l:=[(0, .tmp 8)]) OZ SD rfl [(0,vI 452,[vI 452])] [vI 452] rfl ⟨_,rfl,rfl,oT,rfl⟩ (AA (MP (vA #[vI 452]) U125_ rfl rfl (CB (MI rfl (GA rfl (EO (GA rfl (EO (GA rfl (EO (GA rfl (EO (IW (MO (JL [vP (some ⟨a3,0,none⟩),vP (some ⟨a6,0,none⟩)] (.panicking [{ v:=Value.iface 125 (vA #[vI 452]),recovered:=false }]) rfl (fun h=>by cases h) rfl GM (OR (452:Int) a3 a6 p6 a8 a1 (by repeat (constructor)) (by repeat (constructor)) c0) (fun e_ cS hR_=>?_))))))))))))))))))))) (fun h=>by cases h)))))))))))))))))))))) (fun h=>by cases h)))))))))))))))))))))
  obtain ⟨v_,rfl,Y4,cT,Y5,M8,M9⟩:=hR_
  have a0:=a0.keep Y5 (nin2 c6 e8)
  refine Exists.intro _ (And.intro (FA rfl (EZ (vs:=[vI 0,vI 0,vI 0,nS,nS]) rfl U28_ rfl BR rfl M8 rfl) (OM rfl U29_ rfl rfl M9 rfl)) (EB (AA (AN (vA #[vI 0,vI 0,vI 0,nS,nS]) rfl rfl (AA (AN (vI 452) rfl rfl (CB (BF (vs:=[vI 0,vI 0,vI 0,nS,nS]) (.agg #[vI 0,vI 0,vI 0,nS,nS]) rfl rfl rfl BR (fun u hu=>by simp only [List.mem_cons,List.not_mem_nil,or_false] at hu;rcases hu with rfl|rfl|rfl|rfl|rfl <;> rfl) (by repeat (constructor)) a0 oT Y4 fun cU Y6 cV cW N0=>(AA (AD (vI 452) rfl (AG (AC (AM (AS rfl (FA rfl (EZ (vs:=[vI 0,vI 0,vI 0,nS,nS]) rfl U28_ rfl BR rfl N0 rfl) (ES rfl rfl)) (?_)))))))))))))))
  have Y7:((CR c no (BS c guardian)).1)=(⟨(0:Int),(0:Int),(0:Int),[],[]⟩:Circle):=by exact congrArg (fun p=>p.1) (show CR c no (BS c guardian)=_ from app_dead hok oM oM aS)
  have Y8:((CR c no (BS c guardian)).2)=(452:Int):=by exact congrArg (fun p=>p.2) (show CR c no (BS c guardian)=_ from app_dead hok oM oM aS)
  exact ⟨_,rfl,Y6.keep,by rw [Y7,Y8];exact ⟨[vI 0,vI 0,vI 0,nS,nS],rfl,Enc.out (B:=(b2 :: (a5 :: (a2 :: (a6 :: (a3 :: (b1 :: []))))))) ⟨.slice none 0 0, .slice none 0 0,rfl,(BB.nil _ _ _),(BB.nil _ _ _)⟩⟩⟩
 have aM:no<(0:Int):=by simpa using y4
 refine AT rfl (AT rfl (AT rfl (AT rfl (AT rfl (AA (AX (vO true) rfl rfl (AG (AC (AJ true rfl rfl (fun _=>AF (AB kR (AA (BW (vs:=[vI 0,vI 0,vI 0,nS,nS]) U28_ rfl BR rfl a8 rfl (CB (BF (vs:=[vI 0,vI 0,vI 0,nS,nS]) (.agg #[vI 0,vI 0,vI 0,nS,nS]) rfl rfl rfl BR (fun u hu=>by simp only [List.mem_cons,List.not_mem_nil,or_false] at hu;rcases hu with rfl|rfl|rfl|rfl|rfl <;> rfl) (by repeat (constructor)) a8 oT p4 fun cX Y9 cY G5 u5=>(?_))))))) (fun h=>by cases h))))))))))
 have a0:=a0.keep G5 (BC c6)
 have a1:=a1.keep G5 (BC (Ne.symm c0))
 refine CB (CI (vI 1) rfl rfl rfl TE (by repeat (constructor)) a1 oT Y9 fun cZ Z0 db G6 N1=>(?_))
 have a0:=a0.keep G6 (BC e8)
 have u5:=u5.keep G6 (BC c0)
 refine AG (AC (AM (AK (SR rfl (FA rfl (EZ (vs:=[vI 0,vI 0,vI 0,nS,nS]) rfl U28_ rfl BR rfl u5 rfl) (OM rfl U29_ rfl rfl N1 rfl)) (EB (AA (AN (vA #[vI 0,vI 0,vI 0,nS,nS]) rfl rfl (AA (AN (vI 1) rfl rfl (CB (BF (vs:=[vI 0,vI 0,vI 0,nS,nS]) (.agg #[vI 0,vI 0,vI 0,nS,nS]) rfl rfl rfl BR (fun u hu=>by simp only [List.mem_cons,List.not_mem_nil,or_false] at hu;rcases hu with rfl|rfl|rfl|rfl|rfl <;> rfl) (by repeat (constructor)) a0 oT Z0 fun dc Z1 dd de N2=>(AA (AD (vI 1) rfl (AG (AC (AM (AS rfl (FA rfl (EZ (vs:=[vI 0,vI 0,vI 0,nS,nS]) rfl U28_ rfl BR rfl N2 rfl) (ES rfl rfl)) (?_))))))))))))))))))
 have Z2:((CR c no (BS c guardian)).1)=(⟨(0:Int),(0:Int),(0:Int),[],[]⟩:Circle):=by exact congrArg (fun p=>p.1) (show CR c no (BS c guardian)=_ from app_no hok oM)
 have Z3:((CR c no (BS c guardian)).2)=(1:Int):=by exact congrArg (fun p=>p.2) (show CR c no (BS c guardian)=_ from app_no hok oM)
 exact ⟨_,rfl,Z1.keep,by rw [Z2,Z3];exact ⟨[vI 0,vI 0,vI 0,nS,nS],rfl,Enc.out (B:=(a6 :: (a3 :: (b1 :: [])))) ⟨.slice none 0 0, .slice none 0 0,rfl,(BB.nil _ _ _),(BB.nil _ _ _)⟩⟩⟩
open Go.Fw Go.RowKit
set_option maxHeartbeats 4000000 in
set_option maxRecDepth 100000 in
theorem c_finish {O:List Nat} (c_cs:List Value) (c:Circle) (no:Int) (day:Int) (w:World) (o7:Enc.circle.rd w O c_cs c) (hO:∀ b∈O,b<w.heap.size):CE Try.prog 38 [.agg c_cs.toArray,vI no,vI day] w (fun v w'=>∃ (x0:List Value),v = .tuple #[.agg x0.toArray,vI ((CR c no (CH c day)).2)]∧Enc.circle.rd w' (O) x0 ((CR c no (CH c day)).1)):= by
 have o7:Enc.circle.rd w ([]++O) c_cs c:=o7
 have s0:St w O w []:=St.start hO
 refine BI 14 Try.func38 rfl rfl oT (fun F0=>AF (AB kR (AA (ER (E:=Enc.circle) (vA c_cs.toArray) (c_cs) c rfl rfl o7 s0 fun c1 G0 u0 G1 G2 b0=>(AA (ER (E:=Enc.int) (vI day) ([vI day]) day rfl rfl rfl u0 fun c2 G3 u1 u2 G4 b4=>(?_)))))))
 have b0:=b0.mv u2
 refine AA (DE [vI 0,vI 0,vI 0,nS,nS] NN rfl u1 fun a8 G5 u3 u4 m6 G6 a0=>(?_))
 clear u3
 have b0:=b0.mv m6
 have b4:=b4.mv m6
 refine AA (AD (vI 0) rfl (AG (AC (AF (AB kR (AA (DF U28_ rfl BR rfl b0 fun h8 o8=>(AA (AE (vI no) rfl (AA (DP (first:=[]) (captured:=[.tmp 5, .tmp 3]) [] [vP (some c2),vP (some c1)] rfl rfl (AA (HY [vA h8.toArray,vI no,vN (.func 81) #[] #[vP (some c2),vP (some c1)]] enter_68 rfl (SB 51 Try.func68 rfl rfl oT (fun G7=>AF (AB kR (AA (ER (E:=Enc.circle) (vA h8.toArray) (h8) c rfl rfl o8 u4 fun G8 G9 u5 m7 u6 b3=>(?_)))))))))))))))))))
 have b4:=b4.mv m7
 have b0:=b0.mv m7
 have a0:=a0.keep u6 (by simp)
 refine AA (DE [vI 0,vI 0,vI 0,nS,nS] NN rfl u5 fun a4 H0 u7 u9 j8 v0 a7=>(?_))
 have c3:GV a8 a4:=by show a8≠a4;have:=a0.lt;omega
 clear u7
 have b4:=b4.mv j8
 have b0:=b0.mv j8
 have b3:=b3.mv j8
 have a0:=a0.keep v0 (by simp)
 refine AA (DE [vI 0] z_29 rfl u9 fun a5 v1 v2 m9 j9 n2 a3=>(?_))
 have c4:GV a8 a5:=by show a8≠a5;have:=a0.lt;omega
 have b9:GV a4 a5:=by show a4≠a5;have:=a7.lt;omega
 clear v2
 have b4:=b4.mv j9
 have b0:=b0.mv j9
 have b3:=b3.mv j9
 have a0:=a0.keep n2 (by simp)
 have a7:=a7.keep n2 (by simp)
 refine AG (AC (AF (AF (AB kR (AA (DF U28_ rfl BR rfl b3 fun l4 o9=>(AA (AZ (vs:=[vA l4.toArray]) NC (PO (O:=(a5 :: (a4 :: (a8 :: [])))++O) l4 c v1 o9 m9.lt) rfl m9 fun H1 H2 g9 k2 k3 v3=>(?_)))))))))
 obtain rfl:=v3
 have b4:=b4.mv k2
 have b0:=b0.mv k2
 have b3:=b3.mv k2
 have a0:=a0.keep k3 (by simp)
 have a7:=a7.keep k3 (by simp)
 have a3:=a3.keep k3 (by simp)
 refine AA (AD (vI (AQ c)) rfl (AG (AC (AF (AB kR (AA (AE (vI (AQ c)) rfl (AA (CT .i64 (AQ c) (0:Int) rfl rfl (AG (AC (AJ ((AQ c) != (0:Int)) rfl rfl (fun h9=>?_) (fun h9=>?_)))))))))))))
 ·have D9:AQ c≠(0:Int):=by simpa using h9
  refine AF (AB kR (AA (BW (vs:=[vI 0,vI 0,vI 0,nS,nS]) U28_ rfl BR rfl a7 rfl (AA (AE (vI (AQ c)) rfl (CB (BF (vs:=[vI 0,vI 0,vI 0,nS,nS]) (.agg #[vI 0,vI 0,vI 0,nS,nS]) rfl rfl rfl BR (fun u hu=>by simp only [List.mem_cons,List.not_mem_nil,or_false] at hu;rcases hu with rfl|rfl|rfl|rfl|rfl <;> rfl) (by repeat (constructor)) a7 oT g9 fun H3 v4 H4 n3 i0=>(?_))))))))
  have a0:=a0.keep n3 (BC c3)
  have a3:=a3.keep n3 (BC (Ne.symm b9))
  refine CB (CI (vI (AQ c)) rfl rfl rfl TE (by repeat (constructor)) a3 oT v4 fun H5 v5 H6 n4 p0=>(?_))
  have a0:=a0.keep n4 (BC c4)
  have i0:=i0.keep n4 (BC b9)
  refine AG (AC (AM (AK (SR rfl (FA rfl (EZ (vs:=[vI 0,vI 0,vI 0,nS,nS]) rfl U28_ rfl BR rfl i0 rfl) (OM rfl U29_ rfl rfl p0 rfl)) (EB (AA (AN (vA #[vI 0,vI 0,vI 0,nS,nS]) rfl rfl (AA (AN (vI (AQ c)) rfl rfl (CB (BF (vs:=[vI 0,vI 0,vI 0,nS,nS]) (.agg #[vI 0,vI 0,vI 0,nS,nS]) rfl rfl rfl BR (fun u hu=>by simp only [List.mem_cons,List.not_mem_nil,or_false] at hu;rcases hu with rfl|rfl|rfl|rfl|rfl <;> rfl) (by repeat (constructor)) a0 oT v5 fun H7 v6 H8 H9 p1=>(AA (AD (vI (AQ c)) rfl (AG (AC (AM (AS rfl (FA rfl (EZ (vs:=[vI 0,vI 0,vI 0,nS,nS]) rfl U28_ rfl BR rfl p1 rfl) (ES rfl rfl)) (?_))))))))))))))))))
  have v7:((CR c no (CH c day)).1)=(⟨(0:Int),(0:Int),(0:Int),[],[]⟩:Circle):=by exact congrArg (fun p=>p.1) (show CR c no (CH c day)=_ from fin_bad aS)
  have v8:((CR c no (CH c day)).2)=(AQ c):=by exact congrArg (fun p=>p.2) (show CR c no (CH c day)=_ from fin_bad aS)
  exact ⟨_,rfl,v6.keep,by rw [v7,v8];exact ⟨[vI 0,vI 0,vI 0,nS,nS],rfl,Enc.out (B:=(a5 :: (a4 :: (a8 :: [])))) ⟨.slice none 0 0, .slice none 0 0,rfl,(BB.nil _ _ _),(BB.nil _ _ _)⟩⟩⟩
 have p2:AQ c=(0:Int):=by simpa using h9
 have hok:AQ c=0:=p2
 have hrl:=recs_le hok
 refine AO (AC (AF (AF (AB kR (AA (AE (vI no) rfl (AA (DO .i64 no (0:Int) rfl rfl (AA (AE (vO (decide (no<(0:Int)))) rfl (?_)))))))))))
 cases l5:(decide (no<(0:Int)))
 ·have E0:(0:Int)≤no:=by simpa using l5
  refine BJ rfl (AE (vI no) rfl (BJ rfl (BH 4 FD (c.recs) rfl b3 (fun _ _ _ h=>DI h) fun I0 p3=>(BJ rfl (CF U26_ rfl rfl p3 fun I1 l6=>(?_))))))
  have:=l6.len_le
  refine BJ rfl (CA U26_ rfl l6 (BJ rfl (KR .i64 no (c.recs.length:Int) rfl rfl (AA (BX (vO (decide ((c.recs.length:Int)≤no))) rfl rfl (AG (AC (AJ (decide ((c.recs.length:Int)≤no)) rfl rfl (fun i1=>?_) (fun i1=>?_)))))))))
  ·have E1:(c.recs.length:Int)≤no:=by simpa using i1
   refine AF (AB kR (AA (BW (vs:=[vI 0,vI 0,vI 0,nS,nS]) U28_ rfl BR rfl a7 rfl (CB (BF (vs:=[vI 0,vI 0,vI 0,nS,nS]) (.agg #[vI 0,vI 0,vI 0,nS,nS]) rfl rfl rfl BR (fun u hu=>by simp only [List.mem_cons,List.not_mem_nil,or_false] at hu;rcases hu with rfl|rfl|rfl|rfl|rfl <;> rfl) (by repeat (constructor)) a7 oT g9 fun I2 v9 I3 n5 i2=>(?_))))))
   have a0:=a0.keep n5 (BC c3)
   have a3:=a3.keep n5 (BC (Ne.symm b9))
   refine CB (CI (vI 1) rfl rfl rfl TE (by repeat (constructor)) a3 oT v9 fun I4 w0 I5 n6 p4=>(?_))
   have a0:=a0.keep n6 (BC c4)
   have i2:=i2.keep n6 (BC b9)
   refine AG (AC (AM (AK (SR rfl (FA rfl (EZ (vs:=[vI 0,vI 0,vI 0,nS,nS]) rfl U28_ rfl BR rfl i2 rfl) (OM rfl U29_ rfl rfl p4 rfl)) (EB (AA (AN (vA #[vI 0,vI 0,vI 0,nS,nS]) rfl rfl (AA (AN (vI 1) rfl rfl (CB (BF (vs:=[vI 0,vI 0,vI 0,nS,nS]) (.agg #[vI 0,vI 0,vI 0,nS,nS]) rfl rfl rfl BR (fun u hu=>by simp only [List.mem_cons,List.not_mem_nil,or_false] at hu;rcases hu with rfl|rfl|rfl|rfl|rfl <;> rfl) (by repeat (constructor)) a0 oT w0 fun I6 w2 I7 I8 p5=>(AA (AD (vI 1) rfl (AG (AC (AM (AS rfl (FA rfl (EZ (vs:=[vI 0,vI 0,vI 0,nS,nS]) rfl U28_ rfl BR rfl p5 rfl) (ES rfl rfl)) (?_))))))))))))))))))
   have w3:((CR c no (CH c day)).1)=(⟨(0:Int),(0:Int),(0:Int),[],[]⟩:Circle):=by exact congrArg (fun p=>p.1) (show CR c no (CH c day)=_ from fin_no hok oM)
   have w4:((CR c no (CH c day)).2)=(1:Int):=by exact congrArg (fun p=>p.2) (show CR c no (CH c day)=_ from fin_no hok oM)
   exact ⟨_,rfl,w2.keep,by rw [w3,w4];exact ⟨[vI 0,vI 0,vI 0,nS,nS],rfl,Enc.out (B:=(a5 :: (a4 :: (a8 :: [])))) ⟨.slice none 0 0, .slice none 0 0,rfl,(BB.nil _ _ _),(BB.nil _ _ _)⟩⟩⟩
  have E2:no<(c.recs.length:Int):=by simpa using i1
  refine AO (AC (AF (cw_defer [vP (some ⟨a4,0,none⟩),vP (some ⟨a5,0,none⟩)] rfl rfl rfl rfl (AC (AF (AB kR (AA (BH 4 FD (c.recs) rfl b3 (fun _ _ _ h=>DI h) fun I9 p6=>(AA (CF U26_ rfl rfl p6 fun J0 l7=>(?_)))))))))))
  have:=l7.len_le
  refine AA (AE (vI no) rfl (AA (CP U26_ IE .i64 no no.toNat rfl rfl oM l7 oM fun J1 p7=>(AA (DF U68_ rfl IE rfl p7 fun E3 p8=>(?_))))))
  obtain ⟨d3,d4,rfl,b1,b2⟩:=p8
  have:=b1.len_le
  have:=b2.len_le
  refine AA (EN (l:=[(0, .tmp 31)]) pl_113 z_113 rfl [(0,vA #[vI ((c.recs[no.toNat]!).no),vI ((c.recs[no.toNat]!).asked),vI ((c.recs[no.toNat]!).state),d3,d4],[vI ((c.recs[no.toNat]!).no),vI ((c.recs[no.toNat]!).asked),vI ((c.recs[no.toNat]!).state),d3,d4])] [vI ((c.recs[no.toNat]!).no),vI ((c.recs[no.toNat]!).asked),vI ((c.recs[no.toNat]!).state),d3,d4] rfl ⟨_,rfl,rfl,oT,rfl⟩ (AA (o_box (vA #[vI ((c.recs[no.toNat]!).no),vI ((c.recs[no.toNat]!).asked),vI ((c.recs[no.toNat]!).state),d3,d4]) [vI ((c.recs[no.toNat]!).no),vI ((c.recs[no.toNat]!).asked),vI ((c.recs[no.toNat]!).state),d3,d4] rfl rfl g9 fun a1 J2 w5 w6 f0 k4 b5=>(?_))))
  have p9:GV a8 a1:=by show a8≠a1;have:=a0.lt;omega
  have i3:GV a4 a1:=by show a4≠a1;have:=a7.lt;omega
  have q0:GV a5 a1:=by show a5≠a1;have:=a3.lt;omega
  clear w5
  have b4:=b4.mv f0
  have b0:=b0.mv f0
  have b3:=b3.mv f0
  have b1:=b1.mv f0
  have b2:=b2.mv f0
  have a0:=a0.keep k4 (by simp)
  have a7:=a7.keep k4 (by simp)
  have a3:=a3.keep k4 (by simp)
  refine AA (AD (vP (some ⟨a1,0,none⟩)) rfl (AG (AC (AF (AB kR (AA (AE (vN (.func 81) #[] #[vP (some c2),vP (some c1)]) rfl (AA (AE (vP (some ⟨a1,0,none⟩)) rfl (AA (KZ [] [vP (some c2),vP (some c1)] [vP (some ⟨a1,0,none⟩)] enter_81 rfl rfl (CG 11 Try.func81 rfl rfl oT (fun J3=>AF (AB kR (AA (o_box (vP (some ⟨a1,0,none⟩)) [vP (some ⟨a1,0,none⟩)] rfl rfl w6 fun a2 J4 w7 w8 f1 h0 a6=>(?_)))))))))))))))))
  have E4:GV a8 a2:=by show a8≠a2;have:=a0.lt;omega
  have q1:GV a4 a2:=by show a4≠a2;have:=a7.lt;omega
  have E5:GV a5 a2:=by show a5≠a2;have:=a3.lt;omega
  have q2:GV a1 a2:=by show a1≠a2;have:=b5.lt;omega
  clear w7
  have b4:=b4.mv f1
  have b0:=b0.mv f1
  have b3:=b3.mv f1
  have b1:=b1.mv f1
  have b2:=b2.mv f1
  have a0:=a0.keep h0 (by simp)
  have a7:=a7.keep h0 (by simp)
  have a3:=a3.keep h0 (by simp)
  have b5:=b5.keep h0 (by simp)
  refine AG (AC (AB kR (AA (AW U106_ rfl (vP (some ⟨a1,0,none⟩)) rfl a6 rfl (AA (VD w8 fun a9 J5 w9 x1 f2 f3 q3=>(?_)))))))
  have i4:GV a8 a9:=by show a8≠a9;have:=a0.lt;omega
  have f4:GV a4 a9:=by show a4≠a9;have:=a7.lt;omega
  have i5:GV a5 a9:=by show a5≠a9;have:=a3.lt;omega
  have f5:GV a1 a9:=by show a1≠a9;have:=b5.lt;omega
  have i6:GV a2 a9:=by show a2≠a9;have:=a6.lt;omega
  clear w9
  have b4:=b4.mv f2
  have b0:=b0.mv f2
  have b3:=b3.mv f2
  have b1:=b1.mv f2
  have b2:=b2.mv f2
  have a0:=a0.keep f3 (by simp)
  have a7:=a7.keep f3 (by simp)
  have a3:=a3.keep f3 (by simp)
  have b5:=b5.keep f3 (by simp)
  have a6:=a6.keep f3 (by simp)
  refine AA (DP (first:=[]) (captured:=[.tmp 3]) [] [vP (some ⟨a2,0,none⟩)] rfl rfl (CB (LJ U110_ U3_ rfl rfl rfl q3 (by repeat (constructor)) x1 rfl fun J6 x2 f6 f7 q4=>(?_))))
  have b4:=b4.mv f6
  have b0:=b0.mv f6
  have b3:=b3.mv f6
  have b1:=b1.mv f6
  have b2:=b2.mv f6
  have a0:=a0.keep f7 (BC i4)
  have a7:=a7.keep f7 (BC f4)
  have a3:=a3.keep f7 (BC i5)
  have b5:=b5.keep f7 (BC f5)
  have a6:=a6.keep f7 (BC i6)
  refine AA (DP (first:=[]) (captured:=[.tmp 3]) [] [vP (some ⟨a2,0,none⟩)] rfl rfl (CB (LJ U110_ U3_ rfl rfl rfl q4 (by repeat (constructor)) x2 rfl fun J7 x3 f8 f9 q5=>(?_))))
  have b4:=b4.mv f8
  have b0:=b0.mv f8
  have b3:=b3.mv f8
  have b1:=b1.mv f8
  have b2:=b2.mv f8
  have a0:=a0.keep f9 (BC i4)
  have a7:=a7.keep f9 (BC f4)
  have a3:=a3.keep f9 (BC i5)
  have b5:=b5.keep f9 (BC f5)
  have a6:=a6.keep f9 (BC i6)
  refine AA (DP (first:=[]) (captured:=[.tmp 3, .tmp 1, .tmp 2]) [] [vP (some ⟨a2,0,none⟩),vP (some c2),vP (some c1)] rfl rfl (CB (LJ U110_ U3_ rfl rfl rfl q5 (by repeat (constructor)) x3 rfl fun g0 h1 g1 g2 b7=>(?_))))
  have b4:=b4.mv g1
  have b0:=b0.mv g1
  have b3:=b3.mv g1
  have b1:=b1.mv g1
  have b2:=b2.mv g1
  have a0:=a0.keep g2 (BC i4)
  have a7:=a7.keep g2 (BC f4)
  have a3:=a3.keep g2 (BC i5)
  have b5:=b5.keep g2 (BC f5)
  have a6:=a6.keep g2 (BC i6)
  refine AA (AE (Value.map (some a9)) rfl (AA (HY [vP (some ⟨a1,0,none⟩),Value.map (some a9)] enter_70 rfl (CG 19 Try.func70 rfl rfl oT (fun J8=>AF (AB kR (AA (AE (Value.map (some a9)) rfl (AA (AE (vP (some ⟨a1,0,none⟩)) rfl (AA (FK ⟨a1,0,none⟩ rfl (AA (AU 0 IK rfl (AA (AU 2 MV rfl (AA (AW U3_ rfl (vI ((c.recs[no.toNat]!).state)) rfl b5 rfl (?_)))))))))))))))))))
  rcases (TS hok oM oM:(c.recs[no.toNat]!).state=0∨(c.recs[no.toNat]!).state=1∨(c.recs[no.toNat]!).state=2) with e3|e3|e3
  ·refine AA (LK (k:=0) (vN (.func 84) #[] #[vP (some ⟨a2,0,none⟩),vP (some c2),vP (some c1)]) U110_ U3_ rfl (congrArg vI e3) b7 rfl (AA (AE (vT #[vN (.func 84) #[] #[vP (some ⟨a2,0,none⟩),vP (some c2),vP (some c1)],vO true]) rfl (AA (AN (vN (.func 84) #[] #[vP (some ⟨a2,0,none⟩),vP (some c2),vP (some c1)]) rfl rfl (AA (AN (vO true) rfl rfl (AA (AD (vN (.func 84) #[] #[vP (some ⟨a2,0,none⟩),vP (some c2),vP (some c1)]) rfl (AA (AD (vO true) rfl (AG (AC (AF (AB kR (AA (AE (vO true) rfl (AG (AC (AJ true rfl rfl (fun _=>AB kR (AA (AE (vN (.func 84) #[] #[vP (some ⟨a2,0,none⟩),vP (some c2),vP (some c1)]) rfl (AA (KZ [] [vP (some ⟨a2,0,none⟩),vP (some c2),vP (some c1)] [] enter_84 rfl rfl (CG 28 Try.func84 rfl rfl oT (fun J9=>AF (cw_draw' 3 _ _ [DZ (vP (some ⟨a1,0,none⟩)),DZ (vI day),DZ (vO (DA day (0:Int)))] kR kR kR kR rfl rfl ⟨kI,kI,kI,trivial⟩ ⟨?_,?_,?_,trivial⟩ ?_)))))))) (fun h=>by cases h)))))))))))))))))))))
   ·intro F1 w1 k1 hf hd
    have k0:=(Keep.drew [] g0).trans k1
    have a6:=a6.keep k0 (by simp)
    obtain ⟨F2,rfl⟩:=AL (F:=F1) [(0,vP (some ⟨a2,0,none⟩))] ⟨hf 0 kR,trivial⟩
    exact AH rfl ((AW U106_ rfl (vP (some ⟨a1,0,none⟩)) rfl a6 rfl (⟨(Keep.refl _ _),rfl⟩)))
   ·intro F1 w1 k1 hf hd
    have k0:=(Keep.drew [] g0).trans k1
    have m1:Mv (a9 :: (a2 :: (a1 :: (a5 :: (a4 :: (a8 :: [])))))) g0 (a9 :: (a2 :: (a1 :: (a5 :: (a4 :: (a8 :: [])))))) w1:=Mv.of_keep k0
    have b4:=b4.mv m1
    obtain ⟨F2,rfl⟩:=AL (F:=F1) [(1,vP (some c2))] ⟨hf 1 kR,trivial⟩
    exact AH rfl ((CC U3_ rfl rfl b4 (⟨(Keep.refl _ _),rfl⟩)))
   ·intro F1 w1 k1 hf hd
    have k0:=(Keep.drew [] g0).trans k1
    have s1:=h1.call k0
    obtain ⟨F2,rfl⟩:=AL (F:=F1) [(4,vI day)] ⟨hd 1 4 kR,trivial⟩
    refine AH rfl ((AZ (vs:=[vI day,vI 0]) NH (PR (O:=(a9 :: (a2 :: (a1 :: (a5 :: (a4 :: (a8 :: []))))))++O) day (0:Int) w1 s1.lt) rfl s1 fun K0 K1 K2 K3 x4 x5=>(?_)))
    obtain rfl:=x5
    exact ⟨x4,rfl⟩
   intro x6 d5 d6 i7 e4
   have k5:=h1.call d6
   have g3:Mv (a9 :: (a2 :: (a1 :: (a5 :: (a4 :: (a8 :: [])))))) g0 (a9 :: (a2 :: (a1 :: (a5 :: (a4 :: (a8 :: [])))))) d5:=Mv.of_keep d6
   have b4:=b4.mv g3
   have b0:=b0.mv g3
   have b3:=b3.mv g3
   have b1:=b1.mv g3
   have b2:=b2.mv g3
   have a0:=a0.keep d6 (by simp)
   have a7:=a7.keep d6 (by simp)
   have a3:=a3.keep d6 (by simp)
   have b5:=b5.keep d6 (by simp)
   have a6:=a6.keep d6 (by simp)
   have b7:=b7.keep d6 (by simp)
   obtain ⟨F2,rfl⟩:=AL (F:=x6) [(0,vP (some ⟨a2,0,none⟩)),(1,vP (some c2)),(2,vP (some c1)),(28,undef),(3,vP (some ⟨a1,0,none⟩)),(5,vO (DA day (0:Int)))] ⟨e4 0 kR,e4 1 kR,e4 2 kR,e4 28 kR,i7 0 3 kR (by decide),i7 2 5 kR (by decide),trivial⟩
   clear i7 e4
   refine AA (HY [vP (some ⟨a1,0,none⟩),vO (DA day (0:Int)),vI 1] KV rfl (CG 11 Try.func72 rfl rfl oT (fun K4=>AF (AB kR (AA (AE (vO (DA day (0:Int))) rfl (AA (HP (DA day (0:Int)) rfl (AG (AC (AJ (!(DA day (0:Int))) rfl rfl (fun i8=>?_) (fun i8=>?_))))))))))))
   ·have E6:(DA day (0:Int))=false:=by simpa using i8
    refine AB kR (AA (AE (vI 1) rfl (AA (EN (l:=[(0, .tmp 8)]) OZ SD rfl [(0,vI 1,[vI 1])] [vI 1] rfl ⟨_,rfl,rfl,oT,rfl⟩ (AA (MP (vA #[vI 1]) U125_ rfl rfl (CB (MI rfl (GA rfl (EO (IW (GA rfl (EO (GA rfl (EO (GA rfl (EO (IW (MO (JL [vP (some ⟨a4,0,none⟩),vP (some ⟨a5,0,none⟩)] (.panicking [{ v:=Value.iface 125 (vA #[vI 1]),recovered:=false }]) rfl (fun h=>by cases h) rfl GM (OR (1:Int) a4 a5 k5 a7 a3 (by repeat (constructor)) (by repeat (constructor)) b9) (fun e_ K5 hR_=>?_)))))))))))))))))))))
    obtain ⟨v_,rfl,x7,K6,x8,q6,q7⟩:=hR_
    have a0:=a0.keep x8 (nin2 c3 c4)
    refine Exists.intro _ (And.intro (FA rfl (EZ (vs:=[vI 0,vI 0,vI 0,nS,nS]) rfl U28_ rfl BR rfl q6 rfl) (OM rfl U29_ rfl rfl q7 rfl)) (EB (AA (AN (vA #[vI 0,vI 0,vI 0,nS,nS]) rfl rfl (AA (AN (vI 1) rfl rfl (CB (BF (vs:=[vI 0,vI 0,vI 0,nS,nS]) (.agg #[vI 0,vI 0,vI 0,nS,nS]) rfl rfl rfl BR (fun u hu=>by simp only [List.mem_cons,List.not_mem_nil,or_false] at hu;rcases hu with rfl|rfl|rfl|rfl|rfl <;> rfl) (by repeat (constructor)) a0 oT x7 fun K7 x9 K8 K9 q8=>(AA (AD (vI 1) rfl (AG (AC (AM (AS rfl (FA rfl (EZ (vs:=[vI 0,vI 0,vI 0,nS,nS]) rfl U28_ rfl BR rfl q8 rfl) (ES rfl rfl)) (?_)))))))))))))))
    have y0:((CR c no (CH c day)).1)=(⟨(0:Int),(0:Int),(0:Int),[],[]⟩:Circle):=by exact congrArg (fun p=>p.1) (show CR c no (CH c day)=_ from fin_day hok oM oM aS aS)
    have y1:((CR c no (CH c day)).2)=(1:Int):=by exact congrArg (fun p=>p.2) (show CR c no (CH c day)=_ from fin_day hok oM oM aS aS)
    exact ⟨_,rfl,x9.keep,by rw [y0,y1];exact ⟨[vI 0,vI 0,vI 0,nS,nS],rfl,Enc.out (B:=(a9 :: (a2 :: (a1 :: (a5 :: (a4 :: (a8 :: []))))))) ⟨.slice none 0 0, .slice none 0 0,rfl,(BB.nil _ _ _),(BB.nil _ _ _)⟩⟩⟩
   have E7:(DA day (0:Int))=true:=by simpa using i8
   refine AO (GW rfl (KE rfl) (EB (AG (AC (AF (cw_draw' 4 _ _ [DZ (vP (some ⟨a1,0,none⟩)),fun (vT:Value) (wT:World)=>∃ csT:List Value,vT = .agg csT.toArray∧Enc.circle.rd wT ((a9 :: (a2 :: (a1 :: (a5 :: (a4 :: (a8 :: []))))))++O) csT (c),DZ (vP (some ⟨a1,0,none⟩)),DZ (vO (MG c (c.recs[no.toNat]!)))] kR kR kR kR rfl rfl ⟨kI,fun _ _ _ ⟨a,e,h⟩ k=>⟨a,e,Enc.mv _ h (Mv.of_keep k)⟩,kI,kI,trivial⟩ ⟨?_,?_,?_,?_,trivial⟩ ?_))))))
   ·intro F1 w1 k1 hf hd
    have k0:=(Keep.drew [] d5).trans k1
    have a6:=a6.keep k0 (by simp)
    obtain ⟨F2,rfl⟩:=AL (F:=F1) [(0,vP (some ⟨a2,0,none⟩))] ⟨hf 0 kR,trivial⟩
    exact AH rfl ((AW U106_ rfl (vP (some ⟨a1,0,none⟩)) rfl a6 rfl (⟨(Keep.refl _ _),rfl⟩)))
   ·intro F1 w1 k1 hf hd
    have k0:=(Keep.drew [] d5).trans k1
    have m1:Mv (a9 :: (a2 :: (a1 :: (a5 :: (a4 :: (a8 :: [])))))) d5 (a9 :: (a2 :: (a1 :: (a5 :: (a4 :: (a8 :: [])))))) w1:=Mv.of_keep k0
    have b0:=b0.mv m1
    obtain ⟨F2,rfl⟩:=AL (F:=F1) [(2,vP (some c1))] ⟨hf 2 kR,trivial⟩
    exact AH rfl ((DF U28_ rfl BR rfl b0 fun q9 r0=>(⟨(Keep.refl _ _),⟨q9,rfl,r0⟩⟩)))
   ·intro F1 w1 k1 hf hd
    have k0:=(Keep.drew [] d5).trans k1
    have a6:=a6.keep k0 (by simp)
    obtain ⟨F2,rfl⟩:=AL (F:=F1) [(0,vP (some ⟨a2,0,none⟩))] ⟨hf 0 kR,trivial⟩
    exact AH rfl ((AW U106_ rfl (vP (some ⟨a1,0,none⟩)) rfl a6 rfl (⟨(Keep.refl _ _),rfl⟩)))
   ·intro F1 w1 k1 hf hd
    have k0:=(Keep.drew [] d5).trans k1
    have s1:=k5.call k0
    have m1:Mv (a9 :: (a2 :: (a1 :: (a5 :: (a4 :: (a8 :: [])))))) d5 (a9 :: (a2 :: (a1 :: (a5 :: (a4 :: (a8 :: [])))))) w1:=Mv.of_keep k0
    obtain ⟨i9,y2,r1⟩:∃ cs:List Value,F1 8 = .agg cs.toArray∧Enc.circle.rd w1 ((a9 :: (a2 :: (a1 :: (a5 :: (a4 :: (a8 :: []))))))++O) cs (c):=hd 1 8 kR
    have b5:=b5.keep k0 (by simp)
    have b1:=b1.mv m1
    have b2:=b2.mv m1
    obtain ⟨F2,rfl⟩:=AL (F:=F1) [(8,vA i9.toArray),(9,vP (some ⟨a1,0,none⟩))] ⟨y2,hd 2 9 kR,trivial⟩
    refine AH rfl ((AZ (vs:=[vA i9.toArray,vP (some ⟨a1,0,none⟩)]) enter_85 (c_approved (O:=[]) i9 c ⟨a1,0,none⟩ (c.recs[no.toNat]!) w1 (Enc.circle.sub r1 (fun _ h=>by cases h)) (PT.of_box b5 ⟨_,_,rfl,b1.rd0,b2.rd0⟩ (fun h=>by cases h)) PQ) rfl s1 fun L0 L1 L2 L3 y3 y4=>(?_)))
    obtain rfl:=y4
    exact ⟨y3,rfl⟩
   intro y5 d0 d7 j0 e5
   have n7:=k5.call d7
   have g4:Mv (a9 :: (a2 :: (a1 :: (a5 :: (a4 :: (a8 :: [])))))) d5 (a9 :: (a2 :: (a1 :: (a5 :: (a4 :: (a8 :: [])))))) d0:=Mv.of_keep d7
   have b4:=b4.mv g4
   have b0:=b0.mv g4
   have b3:=b3.mv g4
   have b1:=b1.mv g4
   have b2:=b2.mv g4
   have a0:=a0.keep d7 (by simp)
   have a7:=a7.keep d7 (by simp)
   have a3:=a3.keep d7 (by simp)
   have b5:=b5.keep d7 (by simp)
   have a6:=a6.keep d7 (by simp)
   have b7:=b7.keep d7 (by simp)
   obtain ⟨F2,rfl⟩:=AL (F:=y5) [(0,vP (some ⟨a2,0,none⟩)),(1,vP (some c2)),(2,vP (some c1)),(28,undef),(7,vP (some ⟨a1,0,none⟩)),(10,vO (MG c (c.recs[no.toNat]!)))] ⟨e5 0 kR,e5 1 kR,e5 2 kR,e5 28 kR,j0 0 7 kR (by decide),j0 3 10 kR (by decide),trivial⟩
   clear j0 e5
   refine AA (HY [vP (some ⟨a1,0,none⟩),vO (MG c (c.recs[no.toNat]!)),vI 450] KV rfl (CG 11 Try.func72 rfl rfl oT (fun L4=>AF (AB kR (AA (AE (vO (MG c (c.recs[no.toNat]!))) rfl (AA (HP (MG c (c.recs[no.toNat]!)) rfl (AG (AC (AJ (!(MG c (c.recs[no.toNat]!))) rfl rfl (fun j1=>?_) (fun j1=>?_))))))))))))
   ·have E8:(MG c (c.recs[no.toNat]!))=false:=by simpa using j1
    refine AB kR (AA (AE (vI 450) rfl (AA (EN (l:=[(0, .tmp 8)]) OZ SD rfl [(0,vI 450,[vI 450])] [vI 450] rfl ⟨_,rfl,rfl,oT,rfl⟩ (AA (MP (vA #[vI 450]) U125_ rfl rfl (CB (MI rfl (GA rfl (EO (IW (GA rfl (EO (GA rfl (EO (GA rfl (EO (IW (MO (JL [vP (some ⟨a4,0,none⟩),vP (some ⟨a5,0,none⟩)] (.panicking [{ v:=Value.iface 125 (vA #[vI 450]),recovered:=false }]) rfl (fun h=>by cases h) rfl GM (OR (450:Int) a4 a5 n7 a7 a3 (by repeat (constructor)) (by repeat (constructor)) b9) (fun e_ L5 hR_=>?_)))))))))))))))))))))
    obtain ⟨v_,rfl,y6,L6,y7,r2,r3⟩:=hR_
    have a0:=a0.keep y7 (nin2 c3 c4)
    refine Exists.intro _ (And.intro (FA rfl (EZ (vs:=[vI 0,vI 0,vI 0,nS,nS]) rfl U28_ rfl BR rfl r2 rfl) (OM rfl U29_ rfl rfl r3 rfl)) (EB (AA (AN (vA #[vI 0,vI 0,vI 0,nS,nS]) rfl rfl (AA (AN (vI 450) rfl rfl (CB (BF (vs:=[vI 0,vI 0,vI 0,nS,nS]) (.agg #[vI 0,vI 0,vI 0,nS,nS]) rfl rfl rfl BR (fun u hu=>by simp only [List.mem_cons,List.not_mem_nil,or_false] at hu;rcases hu with rfl|rfl|rfl|rfl|rfl <;> rfl) (by repeat (constructor)) a0 oT y6 fun L7 y8 L8 L9 r4=>(AA (AD (vI 450) rfl (AG (AC (AM (AS rfl (FA rfl (EZ (vs:=[vI 0,vI 0,vI 0,nS,nS]) rfl U28_ rfl BR rfl r4 rfl) (ES rfl rfl)) (?_)))))))))))))))
    have y9:((CR c no (CH c day)).1)=(⟨(0:Int),(0:Int),(0:Int),[],[]⟩:Circle):=by exact congrArg (fun p=>p.1) (show CR c no (CH c day)=_ from fin_few hok oM oM aS aS aS)
    have z0:((CR c no (CH c day)).2)=(450:Int):=by exact congrArg (fun p=>p.2) (show CR c no (CH c day)=_ from fin_few hok oM oM aS aS aS)
    exact ⟨_,rfl,y8.keep,by rw [y9,z0];exact ⟨[vI 0,vI 0,vI 0,nS,nS],rfl,Enc.out (B:=(a9 :: (a2 :: (a1 :: (a5 :: (a4 :: (a8 :: []))))))) ⟨.slice none 0 0, .slice none 0 0,rfl,(BB.nil _ _ _),(BB.nil _ _ _)⟩⟩⟩
   have E9:(MG c (c.recs[no.toNat]!))=true:=by simpa using j1
   refine AO (GW rfl (KE rfl) (EB (AG (AC (AF (cw_draw' 11 _ _ [DZ (vP (some ⟨a1,0,none⟩)),DZ (vI day),DZ (vP (some ⟨a1,0,none⟩)),DZ (vP (some ⟨a1,0,none⟩)),DZ (vP (some ⟨a1,0,none⟩)),DZ (vP (some ⟨a1,1,none⟩)),DZ (vI ((c.recs[no.toNat]!).asked)),fun (vT:Value) (wT:World)=>∃ aT,vT = .pointer (some aT)∧PT Enc.int wT ((a9 :: (a2 :: (a1 :: (a5 :: (a4 :: (a8 :: []))))))++O) (.pointer (some aT)) (c.wait),DZ (vI c.wait),DZ (vI ((c.recs[no.toNat]!).asked+c.wait)),DZ (vO (decide ((c.recs[no.toNat]!).asked+c.wait≤day)))] kR kR kR kR rfl rfl ⟨kI,kI,kI,kI,kI,kI,kI,fun _ _ _ ⟨a,e,h⟩ k=>⟨a,e,h.mv (Mv.of_keep k)⟩,kI,kI,kI,trivial⟩ ⟨?_,?_,?_,?_,?_,?_,?_,?_,?_,?_,?_,trivial⟩ ?_))))))
   ·intro F1 w1 k1 hf hd
    have k0:=(Keep.drew [] d0).trans k1
    have a6:=a6.keep k0 (by simp)
    obtain ⟨F2,rfl⟩:=AL (F:=F1) [(0,vP (some ⟨a2,0,none⟩))] ⟨hf 0 kR,trivial⟩
    exact AH rfl ((AW U106_ rfl (vP (some ⟨a1,0,none⟩)) rfl a6 rfl (⟨(Keep.refl _ _),rfl⟩)))
   ·intro F1 w1 k1 hf hd
    have k0:=(Keep.drew [] d0).trans k1
    have m1:Mv (a9 :: (a2 :: (a1 :: (a5 :: (a4 :: (a8 :: [])))))) d0 (a9 :: (a2 :: (a1 :: (a5 :: (a4 :: (a8 :: [])))))) w1:=Mv.of_keep k0
    have b4:=b4.mv m1
    obtain ⟨F2,rfl⟩:=AL (F:=F1) [(1,vP (some c2))] ⟨hf 1 kR,trivial⟩
    exact AH rfl ((CC U3_ rfl rfl b4 (⟨(Keep.refl _ _),rfl⟩)))
   ·intro F1 w1 k1 hf hd
    have k0:=(Keep.drew [] d0).trans k1
    have a6:=a6.keep k0 (by simp)
    obtain ⟨F2,rfl⟩:=AL (F:=F1) [(0,vP (some ⟨a2,0,none⟩))] ⟨hf 0 kR,trivial⟩
    exact AH rfl ((AW U106_ rfl (vP (some ⟨a1,0,none⟩)) rfl a6 rfl (⟨(Keep.refl _ _),rfl⟩)))
   ·intro F1 w1 k1 hf hd
    obtain ⟨F2,rfl⟩:=AL (F:=F1) [(14,vP (some ⟨a1,0,none⟩))] ⟨hd 2 14 kR,trivial⟩
    exact AH rfl ((FK ⟨a1,0,none⟩ rfl (⟨(Keep.refl _ _),rfl⟩)))
   ·intro F1 w1 k1 hf hd
    obtain ⟨F2,rfl⟩:=AL (F:=F1) [(15,vP (some ⟨a1,0,none⟩))] ⟨hd 3 15 kR,trivial⟩
    exact AH rfl ((AU 0 IK rfl (⟨(Keep.refl _ _),rfl⟩)))
   ·intro F1 w1 k1 hf hd
    obtain ⟨F2,rfl⟩:=AL (F:=F1) [(16,vP (some ⟨a1,0,none⟩))] ⟨hd 4 16 kR,trivial⟩
    exact AH rfl ((AU 1 QX rfl (⟨(Keep.refl _ _),rfl⟩)))
   ·intro F1 w1 k1 hf hd
    have k0:=(Keep.drew [] d0).trans k1
    have b5:=b5.keep k0 (by simp)
    obtain ⟨F2,rfl⟩:=AL (F:=F1) [(17,vP (some ⟨a1,1,none⟩))] ⟨hd 5 17 kR,trivial⟩
    exact AH rfl ((AW U3_ rfl (vI ((c.recs[no.toNat]!).asked)) rfl b5 rfl (⟨(Keep.refl _ _),rfl⟩)))
   ·intro F1 w1 k1 hf hd
    have k0:=(Keep.drew [] d0).trans k1
    have m1:Mv (a9 :: (a2 :: (a1 :: (a5 :: (a4 :: (a8 :: [])))))) d0 (a9 :: (a2 :: (a1 :: (a5 :: (a4 :: (a8 :: [])))))) w1:=Mv.of_keep k0
    have b0:=b0.mv m1
    obtain ⟨F2,rfl⟩:=AL (F:=F1) [(2,vP (some c1))] ⟨hf 2 kR,trivial⟩
    exact AH rfl ((BH 2 f_28_2 (c.wait) rfl b0 (fun _ _ _ h=>QI h) fun z1 r5=>(⟨(Keep.refl _ _),⟨z1,rfl,r5⟩⟩)))
   ·intro F1 w1 k1 hf hd
    obtain ⟨z2,z3,r6⟩:∃ aX_,F1 19 = .pointer (some aX_)∧PT Enc.int w1 ((a9 :: (a2 :: (a1 :: (a5 :: (a4 :: (a8 :: []))))))++O) (.pointer (some aX_)) (c.wait):=hd 7 19 kR
    obtain ⟨F2,rfl⟩:=AL (F:=F1) [(19,vP (some z2))] ⟨z3,trivial⟩
    exact AH rfl ((CC U3_ rfl rfl r6 (⟨(Keep.refl _ _),rfl⟩)))
   ·intro F1 w1 k1 hf hd
    obtain ⟨F2,rfl⟩:=AL (F:=F1) [(18,vI ((c.recs[no.toNat]!).asked)),(20,vI c.wait)] ⟨hd 6 18 kR,hd 8 20 kR,trivial⟩
    exact AH rfl ((DC .i64 ((c.recs[no.toNat]!).asked) c.wait ((c.recs[no.toNat]!).asked+c.wait) rfl rfl (FQ (by have:=act_bounds hok (no:=no) oM oM;omega) rfl) (⟨(Keep.refl _ _),rfl⟩)))
   ·intro F1 w1 k1 hf hd
    obtain ⟨F2,rfl⟩:=AL (F:=F1) [(13,vI day),(21,vI ((c.recs[no.toNat]!).asked+c.wait))] ⟨hd 1 13 kR,hd 9 21 kR,trivial⟩
    exact AH rfl ((KR .i64 day ((c.recs[no.toNat]!).asked+c.wait) rfl rfl (⟨(Keep.refl _ _),rfl⟩)))
   intro z4 z5 d8 j2 j3
   have n9:=n7.call d8
   have k6:Mv (a9 :: (a2 :: (a1 :: (a5 :: (a4 :: (a8 :: [])))))) d0 (a9 :: (a2 :: (a1 :: (a5 :: (a4 :: (a8 :: [])))))) z5:=Mv.of_keep d8
   have b3:=b3.mv k6
   have b1:=b1.mv k6
   have b2:=b2.mv k6
   have a0:=a0.keep d8 (by simp)
   have a7:=a7.keep d8 (by simp)
   have a3:=a3.keep d8 (by simp)
   have b5:=b5.keep d8 (by simp)
   have a6:=a6.keep d8 (by simp)
   have b7:=b7.keep d8 (by simp)
   obtain ⟨F2,rfl⟩:=AL (F:=z4) [(0,vP (some ⟨a2,0,none⟩)),(28,undef),(12,vP (some ⟨a1,0,none⟩)),(22,vO (decide ((c.recs[no.toNat]!).asked+c.wait≤day)))] ⟨j3 0 kR,j3 28 kR,j2 0 12 kR (by decide),j2 10 22 kR (by decide),trivial⟩
   clear j2 j3
   refine AA (HY [vP (some ⟨a1,0,none⟩),vO (decide ((c.recs[no.toNat]!).asked+c.wait≤day)),vI 451] KV rfl (CG 11 Try.func72 rfl rfl oT (fun M0=>AF (AB kR (AA (AE (vO (decide ((c.recs[no.toNat]!).asked+c.wait≤day))) rfl (AA (HP (decide ((c.recs[no.toNat]!).asked+c.wait≤day)) rfl (AG (AC (AJ (!(decide ((c.recs[no.toNat]!).asked+c.wait≤day))) rfl rfl (fun j4=>?_) (fun j4=>?_))))))))))))
   ·have F3:day<(c.recs[no.toNat]!).asked+c.wait:=by simpa using j4
    refine AB kR (AA (AE (vI 451) rfl (AA (EN (l:=[(0, .tmp 8)]) OZ SD rfl [(0,vI 451,[vI 451])] [vI 451] rfl ⟨_,rfl,rfl,oT,rfl⟩ (AA (MP (vA #[vI 451]) U125_ rfl rfl (CB (MI rfl (GA rfl (EO (IW (GA rfl (EO (GA rfl (EO (GA rfl (EO (IW (MO (JL [vP (some ⟨a4,0,none⟩),vP (some ⟨a5,0,none⟩)] (.panicking [{ v:=Value.iface 125 (vA #[vI 451]),recovered:=false }]) rfl (fun h=>by cases h) rfl GM (OR (451:Int) a4 a5 n9 a7 a3 (by repeat (constructor)) (by repeat (constructor)) b9) (fun e_ M1 hR_=>?_)))))))))))))))))))))
    obtain ⟨v_,rfl,z6,M2,z7,r7,r8⟩:=hR_
    have a0:=a0.keep z7 (nin2 c3 c4)
    refine Exists.intro _ (And.intro (FA rfl (EZ (vs:=[vI 0,vI 0,vI 0,nS,nS]) rfl U28_ rfl BR rfl r7 rfl) (OM rfl U29_ rfl rfl r8 rfl)) (EB (AA (AN (vA #[vI 0,vI 0,vI 0,nS,nS]) rfl rfl (AA (AN (vI 451) rfl rfl (CB (BF (vs:=[vI 0,vI 0,vI 0,nS,nS]) (.agg #[vI 0,vI 0,vI 0,nS,nS]) rfl rfl rfl BR (fun u hu=>by simp only [List.mem_cons,List.not_mem_nil,or_false] at hu;rcases hu with rfl|rfl|rfl|rfl|rfl <;> rfl) (by repeat (constructor)) a0 oT z6 fun M3 z8 M4 M5 r9=>(AA (AD (vI 451) rfl (AG (AC (AM (AS rfl (FA rfl (EZ (vs:=[vI 0,vI 0,vI 0,nS,nS]) rfl U28_ rfl BR rfl r9 rfl) (ES rfl rfl)) (?_)))))))))))))))
    have z9:((CR c no (CH c day)).1)=(⟨(0:Int),(0:Int),(0:Int),[],[]⟩:Circle):=by exact congrArg (fun p=>p.1) (show CR c no (CH c day)=_ from fin_wait hok oM oM aS aS aS oM)
    have A0:((CR c no (CH c day)).2)=(451:Int):=by exact congrArg (fun p=>p.2) (show CR c no (CH c day)=_ from fin_wait hok oM oM aS aS aS oM)
    exact ⟨_,rfl,z8.keep,by rw [z9,A0];exact ⟨[vI 0,vI 0,vI 0,nS,nS],rfl,Enc.out (B:=(a9 :: (a2 :: (a1 :: (a5 :: (a4 :: (a8 :: []))))))) ⟨.slice none 0 0, .slice none 0 0,rfl,(BB.nil _ _ _),(BB.nil _ _ _)⟩⟩⟩
   have F4:(c.recs[no.toNat]!).asked+c.wait≤day:=by simpa using j4
   refine AO (GW rfl (KE rfl) (EB (AG (AC (AB kR (AA (AW U106_ rfl (vP (some ⟨a1,0,none⟩)) rfl a6 rfl (AA (FK ⟨a1,0,none⟩ rfl (AA (AU 0 IK rfl (AA (AU 2 MV rfl (CB (CI (vI 1) rfl rfl rfl OV (by repeat (constructor)) b5 oT n9 fun M6 A1 k7 g5 c0=>(?_))))))))))))))))
   have b3:=b3.mv k7
   have b1:=b1.mv k7
   have b2:=b2.mv k7
   have a0:=a0.keep g5 (BC p9)
   have a7:=a7.keep g5 (BC i3)
   have a3:=a3.keep g5 (BC q0)
   have a6:=a6.keep g5 (BC (Ne.symm q2))
   have b7:=b7.keep g5 (BC (Ne.symm f5))
   refine AG (GW rfl (KE rfl) (EB (AG (GW rfl (KE rfl) (EB (AG (GW rfl (KE rfl) (EB (AG (AC (AF (AB kR (AA (DF U28_ rfl BR rfl b3 fun F5 s2=>(?_)))))))))))))))
   obtain ⟨c5,o0,rfl,b6,l8⟩:=s2
   have:=b6.len_le
   have:=l8.len_le
   refine CB (BF (vs:=[vI c.epoch,vI c.threshold,vI c.wait,c5,o0]) (.agg #[vI c.epoch,vI c.threshold,vI c.wait,c5,o0]) rfl rfl rfl BR (fun u hu=>by simp only [List.mem_cons,List.not_mem_nil,or_false] at hu;rcases hu with rfl|rfl|rfl|rfl|rfl <;> first|rfl|exact b6.oneCell|exact l8.oneCell) (by repeat (constructor)) a7 oT A1 fun M7 A2 h2 g6 d2=>(?_))
   have b3:=b3.mv h2
   have b1:=b1.mv h2
   have b2:=b2.mv h2
   have b6:=b6.mv h2
   have a0:=a0.keep g6 (BC c3)
   have a3:=a3.keep g6 (BC (Ne.symm b9))
   have c0:=c0.keep g6 (BC (Ne.symm i3))
   have a6:=a6.keep g6 (BC (Ne.symm q1))
   have b7:=b7.keep g6 (BC (Ne.symm f4))
   refine AG (AC (AF (AB kR (AA (BH 4 FD (c.recs) rfl b3 (fun _ _ _ h=>DI h) fun M8 s3=>(AA (CF U26_ rfl rfl s3 fun k8 e6=>(?_))))))))
   have:=e6.len_le
   refine AA (LB [k8] _ ND rfl (CG 8 Try.func67 rfl rfl oT (fun M9=>AF (AB kR (AA (AD (nS) rfl (AG (AC (AF (AF (AB kR (AA (AE (k8) rfl (AA (PV U26_ rfl rfl e6 oM (AG (AC (AJ false rfl rfl (fun h=>by cases h) (fun _=>AO (AC (AF (AB kR (AA (HT (E:=Enc.recovery) (xs:=[]) U26_ IE OW (by decide) [] [] [] rfl rfl rfl (Parts.nil _ _ _) oT A2 fun e2 A3 N0 A4 c8 A5 h3 e8 s4=>(?_)))))))))))))))))))))))) (fun _ _ h=>h))
   have l9:∀ b,e2.ownBlock=some b→b≠a8:=fun b hb=>by have:=a0.lt;rw [c8] at hb;cases hb;omega
   have m0:∀ b,e2.ownBlock=some b→b≠a4:=fun b hb=>by have:=d2.lt;rw [c8] at hb;cases hb;omega
   have m2:∀ b,e2.ownBlock=some b→b≠a5:=fun b hb=>by have:=a3.lt;rw [c8] at hb;cases hb;omega
   have m3:∀ b,e2.ownBlock=some b→b≠a1:=fun b hb=>by have:=c0.lt;rw [c8] at hb;cases hb;omega
   have s5:∀ b,e2.ownBlock=some b→b≠a2:=fun b hb=>by have:=a6.lt;rw [c8] at hb;cases hb;omega
   have s6:∀ b,e2.ownBlock=some b→b≠a9:=fun b hb=>by have:=b7.lt;rw [c8] at hb;cases hb;omega
   have s7:∀ b,e2.ownBlock=some b→b∈(A3 :: (a9 :: (a2 :: (a1 :: (a5 :: (a4 :: (a8 :: []))))))):=fun b hb=>by rw [c8] at hb;cases hb;simp
   clear A4 c8
   have e6:=e6.mv h3
   have b1:=b1.mv h3
   have b2:=b2.mv h3
   have b6:=b6.mv h3
   have a0:=a0.keep e8 (by simp)
   have d2:=d2.keep e8 (by simp)
   have a3:=a3.keep e8 (by simp)
   have c0:=c0.keep e8 (by simp)
   have a6:=a6.keep e8 (by simp)
   have b7:=b7.keep e8 (by simp)
   refine AA (AE (k8) rfl (AA (CY (E:=Enc.recovery) (l:=[]) (m:=c.recs) U26_ XC rfl (by decide) rfl rfl s4 e6 (fun _ hb=>.inl hb) s7 (by simp;omega) (by simp [maxLen];omega) A5 fun b8 N1 d9 s8 e0 d1 A6 k9 h4 c9=>(?_))))
   rw [List.nil_append] at c9
   have m4:∀ b,b8.ownBlock=some b→b≠a8:=fun b hb=>by rcases e0 with e1|e1 <;> rw [e1] at hb <;> first|(cases hb;have:=a0.lt;omega)|(exact l9 b hb)
   have j5:∀ b,b8.ownBlock=some b→b≠a4:=fun b hb=>by rcases e0 with e1|e1 <;> rw [e1] at hb <;> first|(cases hb;have:=d2.lt;omega)|(exact m0 b hb)
   have m5:∀ b,b8.ownBlock=some b→b≠a5:=fun b hb=>by rcases e0 with e1|e1 <;> rw [e1] at hb <;> first|(cases hb;have:=a3.lt;omega)|(exact m2 b hb)
   have F6:∀ b,b8.ownBlock=some b→b≠a1:=fun b hb=>by rcases e0 with e1|e1 <;> rw [e1] at hb <;> first|(cases hb;have:=c0.lt;omega)|(exact m3 b hb)
   have F7:∀ b,b8.ownBlock=some b→b≠a2:=fun b hb=>by rcases e0 with e1|e1 <;> rw [e1] at hb <;> first|(cases hb;have:=a6.lt;omega)|(exact s5 b hb)
   have F8:∀ b,b8.ownBlock=some b→b≠a9:=fun b hb=>by rcases e0 with e1|e1 <;> rw [e1] at hb <;> first|(cases hb;have:=b7.lt;omega)|(exact s6 b hb)
   have D3:a8∈d9:=d1 a8 (by repeat (constructor))
   have D4:a4∈d9:=d1 a4 (by repeat (constructor))
   have D5:a5∈d9:=d1 a5 (by repeat (constructor))
   have D6:a1∈d9:=d1 a1 (by repeat (constructor))
   have D7:a2∈d9:=d1 a2 (by repeat (constructor))
   have D8:a9∈d9:=d1 a9 (by repeat (constructor))
   have b1:=b1.mv k9
   have b2:=b2.mv k9
   have b6:=b6.mv k9
   have a0:=a0.keep h4 (by simp only [Option.mem_toList];exact fun e=>absurd rfl (l9 _ e))
   have d2:=d2.keep h4 (by simp only [Option.mem_toList];exact fun e=>absurd rfl (m0 _ e))
   have a3:=a3.keep h4 (by simp only [Option.mem_toList];exact fun e=>absurd rfl (m2 _ e))
   have c0:=c0.keep h4 (by simp only [Option.mem_toList];exact fun e=>absurd rfl (m3 _ e))
   refine AA (AD (b8) rfl (AG (AC (AM (AS rfl (CN rfl rfl rfl) (Exists.intro _ (And.intro rfl (AA (AU 4 FD rfl (CB (CI (b8) rfl rfl c9.oneCell s_26 (by repeat (assumption)) d2 oT A6 fun l0 A7 h5 h6 c6=>(?_))))))))))))
   have b1:=b1.mv h5
   have b2:=b2.mv h5
   have b6:=b6.mv h5
   have c9:=c9.mv h5 h6 (fun b hb=>BC (j5 b hb))
   have a0:=a0.keep h6 (BC c3)
   have a3:=a3.keep h6 (BC (Ne.symm b9))
   have c0:=c0.keep h6 (BC (Ne.symm i3))
   refine AG (AC (AF (cw_draw' 7 _ _ [DZ (vP (some ⟨a4,4,none⟩)),DZ b8,DZ (vI no),DZ (vP (some ⟨a1,0,none⟩)),DZ (vP (some ⟨a1,0,none⟩)),DZ (vP (some ⟨a1,0,none⟩)),DZ (vA #[vI ((c.recs[no.toNat]!).no),vI ((c.recs[no.toNat]!).asked),vI 1,d3,d4])] kR kR kR kR rfl rfl ⟨kI,kI,kI,kI,kI,kI,kI,trivial⟩ ⟨?_,?_,?_,?_,?_,?_,?_,trivial⟩ ?_)))
   ·intro F1 w1 k1 hf hd
    obtain ⟨F2,rfl⟩:=AL (F:=F1) [(6,vP (some ⟨a4,0,none⟩))] ⟨hf 6 kR,trivial⟩
    exact AH rfl ((AU 4 FD rfl (⟨(Keep.refl _ _),rfl⟩)))
   ·intro F1 w1 k1 hf hd
    have k0:=(Keep.drew [] l0).trans k1
    have c6:=c6.keep k0 (by simp)
    obtain ⟨F2,rfl⟩:=AL (F:=F1) [(42,vP (some ⟨a4,4,none⟩))] ⟨hd 0 42 kR,trivial⟩
    exact AH rfl ((AW U26_ rfl (b8) rfl c6 rfl (⟨(Keep.refl _ _),rfl⟩)))
   ·intro F1 w1 k1 hf hd
    obtain ⟨F2,rfl⟩:=AL (F:=F1) [(1,vI no)] ⟨hf 1 kR,trivial⟩
    exact AH rfl ((AE (vI no) rfl (⟨(Keep.refl _ _),rfl⟩)))
   ·intro F1 w1 k1 hf hd
    obtain ⟨F2,rfl⟩:=AL (F:=F1) [(9,vP (some ⟨a1,0,none⟩))] ⟨hf 9 kR,trivial⟩
    exact AH rfl ((AE (vP (some ⟨a1,0,none⟩)) rfl (⟨(Keep.refl _ _),rfl⟩)))
   ·intro F1 w1 k1 hf hd
    obtain ⟨F2,rfl⟩:=AL (F:=F1) [(45,vP (some ⟨a1,0,none⟩))] ⟨hd 3 45 kR,trivial⟩
    exact AH rfl ((FK ⟨a1,0,none⟩ rfl (⟨(Keep.refl _ _),rfl⟩)))
   ·intro F1 w1 k1 hf hd
    obtain ⟨F2,rfl⟩:=AL (F:=F1) [(46,vP (some ⟨a1,0,none⟩))] ⟨hd 4 46 kR,trivial⟩
    exact AH rfl ((AU 0 IK rfl (⟨(Keep.refl _ _),rfl⟩)))
   ·intro F1 w1 k1 hf hd
    have k0:=(Keep.drew [] l0).trans k1
    have c0:=c0.keep k0 (by simp)
    obtain ⟨F2,rfl⟩:=AL (F:=F1) [(47,vP (some ⟨a1,0,none⟩))] ⟨hd 5 47 kR,trivial⟩
    exact AH rfl ((BW (vs:=[vI ((c.recs[no.toNat]!).no),vI ((c.recs[no.toNat]!).asked),vI 1,d3,d4]) U68_ rfl IE rfl c0 rfl (⟨(Keep.refl _ _),rfl⟩)))
   intro A8 A9 e9 g7 g8
   have B0:=A7.call e9
   have h7:Mv d9 l0 d9 A9:=Mv.of_keep e9
   have b1:=b1.mv h7
   have b2:=b2.mv h7
   have b6:=b6.mv h7
   have c9:=c9.mv h7 e9 (by simp)
   have a0:=a0.keep e9 (by simp)
   have c6:=c6.keep e9 (by simp)
   have a3:=a3.keep e9 (by simp)
   obtain ⟨F2,rfl⟩:=AL (F:=A8) [(6,vP (some ⟨a4,0,none⟩)),(7,vP (some ⟨a5,0,none⟩)),(51, .tuple #[vN (.func 103) #[] #[vP (some ⟨a4,0,none⟩),vP (some ⟨a5,0,none⟩)]]),(43,b8),(44,vI no),(48,vA #[vI ((c.recs[no.toNat]!).no),vI ((c.recs[no.toNat]!).asked),vI 1,d3,d4])] ⟨g8 6 kR,g8 7 kR,g8 51 kR,g7 1 43 kR (by decide),g7 2 44 kR (by decide),g7 6 48 kR (by decide),trivial⟩
   clear g7 g8
   refine AA (EF U26_ IE .i64 no no.toNat rfl rfl oM c9 oM fun N2 e7=>(CB (PU (⟨(c.recs[no.toNat]!).no,(c.recs[no.toNat]!).asked,(1:Int),(c.recs[no.toNat]!).approved,(c.recs[no.toNat]!).vetoed⟩:Recovery) (by decide) IE rfl rfl c9 e7 (s8 _ e7) oM ⟨_,_,rfl,b1,b2⟩ B0 fun N3 B1 B2 l1 c7=>(?_))))
   have a0:=a0.keep l1 (by simp only [List.mem_singleton];exact fun e=>absurd e.symm (m4 _ e7))
   have b6:=b6.mv B2
   have c6:=c6.keep l1 (by simp only [List.mem_singleton];exact fun e=>absurd e.symm (j5 _ e7))
   have a3:=a3.keep l1 (by simp only [List.mem_singleton];exact fun e=>absurd e.symm (m5 _ e7))
   refine AG (AC (AF (AB kR (AA (BW (vs:=[vI c.epoch,vI c.threshold,vI c.wait,c5,b8]) U28_ rfl BR rfl c6 rfl (CB (BF (vs:=[vI c.epoch,vI c.threshold,vI c.wait,c5,b8]) (.agg #[vI c.epoch,vI c.threshold,vI c.wait,c5,b8]) rfl rfl rfl BR (fun u hu=>by simp only [List.mem_cons,List.not_mem_nil,or_false] at hu;rcases hu with rfl|rfl|rfl|rfl|rfl <;> first|rfl|exact b6.oneCell|exact c7.oneCell) (by repeat (assumption)) c6 oT B1 fun N4 B3 o1 l2 j6=>(?_))))))))
   have c7:=c7.mv o1 l2 (fun b hb=>BC (j5 b hb))
   have b6:=b6.mv o1
   have a0:=a0.keep l2 (BC c3)
   have a3:=a3.keep l2 (BC (Ne.symm b9))
   refine CB (CI (vI 0) rfl rfl rfl TE (by repeat (assumption)) a3 oT B3 fun N5 B4 o2 l3 s9=>(?_))
   have c7:=c7.mv o2 l3 (fun b hb=>BC (m5 b hb))
   have b6:=b6.mv o2
   have a0:=a0.keep l3 (BC c4)
   have j6:=j6.keep l3 (BC b9)
   refine AG (AC (AM (UE (QC [vP (some ⟨a4,0,none⟩),vP (some ⟨a5,0,none⟩)] 19 .returning rfl (fun h=>by cases h) rfl GM Try.func103 rfl rfl oT rfl rfl (fun N6=>AF (AB kR (AA (AE (Value.nilIface) rfl (AA (o_neqNil' U20_ rfl (AG (AC (AJ false rfl rfl (fun h=>by cases h) (fun _=>AO (GW rfl (KE rfl) (Exists.intro _ (And.intro (FA rfl (EZ (vs:=[vI c.epoch,vI c.threshold,vI c.wait,c5,b8]) rfl U28_ rfl BR rfl j6 rfl) (OM rfl U29_ rfl rfl s9 rfl)) (EB (AA (AN (vA #[vI c.epoch,vI c.threshold,vI c.wait,c5,b8]) rfl rfl (AA (AN (vI 0) rfl rfl (CB (BF (vs:=[vI c.epoch,vI c.threshold,vI c.wait,c5,b8]) (.agg #[vI c.epoch,vI c.threshold,vI c.wait,c5,b8]) rfl rfl rfl BR (fun u hu=>by simp only [List.mem_cons,List.not_mem_nil,or_false] at hu;rcases hu with rfl|rfl|rfl|rfl|rfl <;> first|rfl|exact b6.oneCell|exact c7.oneCell) (by repeat (assumption)) a0 oT B4 fun N7 o3 o4 B5 t0=>(?_)))))))))))))))))))))))))
   have b6:=b6.mv o4
   have c7:=c7.mv o4 B5 (fun b hb=>BC (m4 b hb))
   refine AA (AD (vI 0) rfl (AG (AC (AM (AS rfl (FA rfl (EZ (vs:=[vI c.epoch,vI c.threshold,vI c.wait,c5,b8]) rfl U28_ rfl BR rfl t0 rfl) (ES rfl rfl)) (?_))))))
   have B6:((CR c no (CH c day)).1)=(⟨c.epoch,c.threshold,c.wait,c.guardians,c.recs.set no.toNat (⟨(c.recs[no.toNat]!).no,(c.recs[no.toNat]!).asked,(1:Int),(c.recs[no.toNat]!).approved,(c.recs[no.toNat]!).vetoed⟩:Recovery)⟩:Circle):=by exact congrArg (fun p=>p.1) (show CR c no (CH c day)=_ from fin_open hok oM oM aS aS aS oM)
   have B7:((CR c no (CH c day)).2)=(0:Int):=by exact congrArg (fun p=>p.2) (show CR c no (CH c day)=_ from fin_open hok oM oM aS aS aS oM)
   exact ⟨_,rfl,o3.keep,by rw [B6,B7];exact ⟨[vI c.epoch,vI c.threshold,vI c.wait,c5,b8],rfl,⟨_,_,rfl,b6.out,(c7.pub o3)⟩⟩⟩
  ·refine AA (LK (k:=1) (vN (.func 83) #[] #[vP (some ⟨a2,0,none⟩)]) U110_ U3_ rfl (congrArg vI e3) b7 rfl (AA (AE (vT #[vN (.func 83) #[] #[vP (some ⟨a2,0,none⟩)],vO true]) rfl (AA (AN (vN (.func 83) #[] #[vP (some ⟨a2,0,none⟩)]) rfl rfl (AA (AN (vO true) rfl rfl (AA (AD (vN (.func 83) #[] #[vP (some ⟨a2,0,none⟩)]) rfl (AA (AD (vO true) rfl (AG (AC (AF (AB kR (AA (AE (vO true) rfl (AG (AC (AJ true rfl rfl (fun _=>AB kR (AA (AE (vN (.func 83) #[] #[vP (some ⟨a2,0,none⟩)]) rfl (AA (KZ [] [vP (some ⟨a2,0,none⟩)] [] enter_83 rfl rfl (CG 3 Try.func83 rfl rfl oT (fun N8=>AB kR (AA (AW U106_ rfl (vP (some ⟨a1,0,none⟩)) rfl a6 rfl (AA (HY [vP (some ⟨a1,0,none⟩),vO false,vI 1] KV rfl (CG 11 Try.func72 rfl rfl oT (fun N9=>AF (AB kR (AA (AE (vO false) rfl (AA (HP false rfl (AG (AC (AJ true rfl rfl (fun _=>AB kR (AA (AE (vI 1) rfl (AA (EN (l:=[(0, .tmp 8)]) OZ SD rfl [(0,vI 1,[vI 1])] [vI 1] rfl ⟨_,rfl,rfl,oT,rfl⟩ (AA (MP (vA #[vI 1]) U125_ rfl rfl (CB (MI rfl (GA rfl (EO (GA rfl (EO (GA rfl (EO (GA rfl (EO (IW (MO (JL [vP (some ⟨a4,0,none⟩),vP (some ⟨a5,0,none⟩)] (.panicking [{ v:=Value.iface 125 (vA #[vI 1]),recovered:=false }]) rfl (fun h=>by cases h) rfl GM (OR (1:Int) a4 a5 h1 a7 a3 (by repeat (constructor)) (by repeat (constructor)) b9) (fun e_ O0 hR_=>?_))))))))))))))))))))) (fun h=>by cases h)))))))))))))))))))))) (fun h=>by cases h)))))))))))))))))))))
   obtain ⟨v_,rfl,B8,O1,B9,t2,t3⟩:=hR_
   have a0:=a0.keep B9 (nin2 c3 c4)
   refine Exists.intro _ (And.intro (FA rfl (EZ (vs:=[vI 0,vI 0,vI 0,nS,nS]) rfl U28_ rfl BR rfl t2 rfl) (OM rfl U29_ rfl rfl t3 rfl)) (EB (AA (AN (vA #[vI 0,vI 0,vI 0,nS,nS]) rfl rfl (AA (AN (vI 1) rfl rfl (CB (BF (vs:=[vI 0,vI 0,vI 0,nS,nS]) (.agg #[vI 0,vI 0,vI 0,nS,nS]) rfl rfl rfl BR (fun u hu=>by simp only [List.mem_cons,List.not_mem_nil,or_false] at hu;rcases hu with rfl|rfl|rfl|rfl|rfl <;> rfl) (by repeat (constructor)) a0 oT B8 fun O2 C0 O3 O4 t4=>(AA (AD (vI 1) rfl (AG (AC (AM (AS rfl (FA rfl (EZ (vs:=[vI 0,vI 0,vI 0,nS,nS]) rfl U28_ rfl BR rfl t4 rfl) (ES rfl rfl)) (?_)))))))))))))))
   have C1:((CR c no (CH c day)).1)=(⟨(0:Int),(0:Int),(0:Int),[],[]⟩:Circle):=by exact congrArg (fun p=>p.1) (show CR c no (CH c day)=_ from fin_done hok oM oM aS)
   have C2:((CR c no (CH c day)).2)=(1:Int):=by exact congrArg (fun p=>p.2) (show CR c no (CH c day)=_ from fin_done hok oM oM aS)
   exact ⟨_,rfl,C0.keep,by rw [C1,C2];exact ⟨[vI 0,vI 0,vI 0,nS,nS],rfl,Enc.out (B:=(a9 :: (a2 :: (a1 :: (a5 :: (a4 :: (a8 :: []))))))) ⟨.slice none 0 0, .slice none 0 0,rfl,(BB.nil _ _ _),(BB.nil _ _ _)⟩⟩⟩
  refine AA (LK (k:=2) (vN (.func 82) #[] #[vP (some ⟨a2,0,none⟩)]) U110_ U3_ rfl (congrArg vI e3) b7 rfl (AA (AE (vT #[vN (.func 82) #[] #[vP (some ⟨a2,0,none⟩)],vO true]) rfl (AA (AN (vN (.func 82) #[] #[vP (some ⟨a2,0,none⟩)]) rfl rfl (AA (AN (vO true) rfl rfl (AA (AD (vN (.func 82) #[] #[vP (some ⟨a2,0,none⟩)]) rfl (AA (AD (vO true) rfl (AG (AC (AF (AB kR (AA (AE (vO true) rfl (AG (AC (AJ true rfl rfl (fun _=>AB kR (AA (AE (vN (.func 82) #[] #[vP (some ⟨a2,0,none⟩)]) rfl (AA (KZ [] [vP (some ⟨a2,0,none⟩)] [] enter_82 rfl rfl (CG 3 Try.func82 rfl rfl oT (fun O5=>AB kR (AA (AW U106_ rfl (vP (some ⟨a1,0,none⟩)) rfl a6 rfl (AA (HY [vP (some ⟨a1,0,none⟩),vO false,vI 452] KV rfl (CG 11 Try.func72 rfl rfl oT (fun O6=>AF (AB kR (AA (AE (vO false) rfl (AA (HP false rfl (AG (AC (AJ true rfl rfl (fun _=>AB kR (AA (AE (vI 452) rfl (AA (EN (l:=[(0, .tmp 8)]) OZ SD rfl [(0,vI 452,[vI 452])] [vI 452] rfl ⟨_,rfl,rfl,oT,rfl⟩ (AA (MP (vA #[vI 452]) U125_ rfl rfl (CB (MI rfl (GA rfl (EO (GA rfl (EO (GA rfl (EO (GA rfl (EO (IW (MO (JL [vP (some ⟨a4,0,none⟩),vP (some ⟨a5,0,none⟩)] (.panicking [{ v:=Value.iface 125 (vA #[vI 452]),recovered:=false }]) rfl (fun h=>by cases h) rfl GM (OR (452:Int) a4 a5 h1 a7 a3 (by repeat (constructor)) (by repeat (constructor)) b9) (fun e_ O7 hR_=>?_))))))))))))))))))))) (fun h=>by cases h)))))))))))))))))))))) (fun h=>by cases h)))))))))))))))))))))
  obtain ⟨v_,rfl,C3,O8,C4,t5,t6⟩:=hR_
  have a0:=a0.keep C4 (nin2 c3 c4)
  refine Exists.intro _ (And.intro (FA rfl (EZ (vs:=[vI 0,vI 0,vI 0,nS,nS]) rfl U28_ rfl BR rfl t5 rfl) (OM rfl U29_ rfl rfl t6 rfl)) (EB (AA (AN (vA #[vI 0,vI 0,vI 0,nS,nS]) rfl rfl (AA (AN (vI 452) rfl rfl (CB (BF (vs:=[vI 0,vI 0,vI 0,nS,nS]) (.agg #[vI 0,vI 0,vI 0,nS,nS]) rfl rfl rfl BR (fun u hu=>by simp only [List.mem_cons,List.not_mem_nil,or_false] at hu;rcases hu with rfl|rfl|rfl|rfl|rfl <;> rfl) (by repeat (constructor)) a0 oT C3 fun O9 C5 P0 P1 t7=>(AA (AD (vI 452) rfl (AG (AC (AM (AS rfl (FA rfl (EZ (vs:=[vI 0,vI 0,vI 0,nS,nS]) rfl U28_ rfl BR rfl t7 rfl) (ES rfl rfl)) (?_)))))))))))))))
  have C6:((CR c no (CH c day)).1)=(⟨(0:Int),(0:Int),(0:Int),[],[]⟩:Circle):=by exact congrArg (fun p=>p.1) (show CR c no (CH c day)=_ from fin_dead hok oM oM aS)
  have C7:((CR c no (CH c day)).2)=(452:Int):=by exact congrArg (fun p=>p.2) (show CR c no (CH c day)=_ from fin_dead hok oM oM aS)
  exact ⟨_,rfl,C5.keep,by rw [C6,C7];exact ⟨[vI 0,vI 0,vI 0,nS,nS],rfl,Enc.out (B:=(a9 :: (a2 :: (a1 :: (a5 :: (a4 :: (a8 :: []))))))) ⟨.slice none 0 0, .slice none 0 0,rfl,(BB.nil _ _ _),(BB.nil _ _ _)⟩⟩⟩
 have F9:no<(0:Int):=by simpa using l5
 refine AT rfl (AT rfl (AT rfl (AT rfl (AT rfl (AA (AX (vO true) rfl rfl (AG (AC (AJ true rfl rfl (fun _=>AF (AB kR (AA (BW (vs:=[vI 0,vI 0,vI 0,nS,nS]) U28_ rfl BR rfl a7 rfl (CB (BF (vs:=[vI 0,vI 0,vI 0,nS,nS]) (.agg #[vI 0,vI 0,vI 0,nS,nS]) rfl rfl rfl BR (fun u hu=>by simp only [List.mem_cons,List.not_mem_nil,or_false] at hu;rcases hu with rfl|rfl|rfl|rfl|rfl <;> rfl) (by repeat (constructor)) a7 oT g9 fun P2 C8 P3 o5 j7=>(?_))))))) (fun h=>by cases h))))))))))
 have a0:=a0.keep o5 (BC c3)
 have a3:=a3.keep o5 (BC (Ne.symm b9))
 refine CB (CI (vI 1) rfl rfl rfl TE (by repeat (constructor)) a3 oT C8 fun P4 C9 P5 o6 t8=>(?_))
 have a0:=a0.keep o6 (BC c4)
 have j7:=j7.keep o6 (BC b9)
 refine AG (AC (AM (AK (SR rfl (FA rfl (EZ (vs:=[vI 0,vI 0,vI 0,nS,nS]) rfl U28_ rfl BR rfl j7 rfl) (OM rfl U29_ rfl rfl t8 rfl)) (EB (AA (AN (vA #[vI 0,vI 0,vI 0,nS,nS]) rfl rfl (AA (AN (vI 1) rfl rfl (CB (BF (vs:=[vI 0,vI 0,vI 0,nS,nS]) (.agg #[vI 0,vI 0,vI 0,nS,nS]) rfl rfl rfl BR (fun u hu=>by simp only [List.mem_cons,List.not_mem_nil,or_false] at hu;rcases hu with rfl|rfl|rfl|rfl|rfl <;> rfl) (by repeat (constructor)) a0 oT C9 fun P6 D0 P7 P8 t9=>(AA (AD (vI 1) rfl (AG (AC (AM (AS rfl (FA rfl (EZ (vs:=[vI 0,vI 0,vI 0,nS,nS]) rfl U28_ rfl BR rfl t9 rfl) (ES rfl rfl)) (?_))))))))))))))))))
 have D1:((CR c no (CH c day)).1)=(⟨(0:Int),(0:Int),(0:Int),[],[]⟩:Circle):=by exact congrArg (fun p=>p.1) (show CR c no (CH c day)=_ from fin_no hok oM)
 have D2:((CR c no (CH c day)).2)=(1:Int):=by exact congrArg (fun p=>p.2) (show CR c no (CH c day)=_ from fin_no hok oM)
 exact ⟨_,rfl,D0.keep,by rw [D1,D2];exact ⟨[vI 0,vI 0,vI 0,nS,nS],rfl,Enc.out (B:=(a5 :: (a4 :: (a8 :: [])))) ⟨.slice none 0 0, .slice none 0 0,rfl,(BB.nil _ _ _),(BB.nil _ _ _)⟩⟩⟩
end Go.Proofs.Ytjgfokolnkhafaa
