/- What the laws of this part rest on: lemmas, and the walks of the functions. No conditions. -/
import Derived.WalkKit
import Derived.WalkSpells
import Derived.WalkLawsBesides
import Derived.RangeFuncLeaves
import Derived.Maps.AppendAt
import Derived.Deep.AppendLies
import Derived.Deep.Slices
import Derived.OpenShut
import Derived.ProofKit
import Derived.Below
import Derived.ChangeSame
import Derived.Carry
import Derived.RangeFuncRecord
import Derived.Laws.Tables
import Derived.Recover
import Derived.DefersIn
import Derived.Lib.AppendZerosOnto
import Derived.Lib.Overlaps
import Derived.Laws.CopyRow
import Derived.Laws.StructEq
import Derived.ChangeKeysEq
import Derived.OrdersIn
import Derived.Test.YtjgfokolnkhafaaRows
import Derived.Test.YtjgfokolnkhafaaPT22
set_option linter.unusedSimpArgs false
set_option linter.unusedVariables false
namespace Go.Proofs.Ytjgfokolnkhafaa
open Go.Fw Go.RowKit
set_option maxHeartbeats 4000000 in
set_option maxRecDepth 100000 in
theorem c_new {O:List Nat} (l_v:Value) (l:List Int) (threshold:Int) (wait:Int) (w:World) (a7:BL Enc.int w O l_v l) (hpre0:l.length≤1000000) (hO:∀ b∈O,b<w.heap.size):CM Try.prog 10 [l_v,vI threshold,vI wait] w (fun v w'=>∃ (x0:List Value),v = .tuple #[.agg x0.toArray,vI ((DL l threshold wait).2)]∧Enc.circle.rd w' (O) x0 ((DL l threshold wait).1)):= by
 have i0:=a7.len_le
 have a7:BL Enc.int w ([]++O) l_v l:=a7
 have s0:St w O w []:=St.start hO
 refine BP 21 Try.func10 rfl rfl oT (fun F0=>AF (AB kR (AA (CR [vI 0,vI 0,vI 0,nS,nS] IO rfl s0 fun a3 d5 d6 b7 d7 i1 a2=>(?_)))))
 clear d6
 have a7:=a7.mv d7
 refine AA (AE (vI 0) rfl (AG (AC (AF (AB kR (AA (AD (vI threshold) rfl (AA (AD (vI wait) rfl (AA (AD (l_v) rfl (AA (JV [l_v] _ WD rfl (BW 8 Try.func32 rfl rfl oT (fun i2=>AF (AB kR (AA (AE (nS) rfl (AG (AC (AF (AF (AB kR (AA (AD (l_v) rfl (AA (KU U22_ rfl rfl a7 fun a9 c3=>(AG (AC (AJ (a9) rfl rfl (fun b0=>?_) (fun b0=>?_)))))))))))))))))) (fun _ _ h=>h))))))))))))))
 ·have h3:a9=true:=by simpa using b0
  refine AF (AB kR (AA (AE (nS) rfl (AG (AC (AM (AP (AZ rfl (CN rfl rfl rfl) (?_)))))))))
  have c4:l=[]:=c3 aS
  have a4:BL Enc.int d5 ((a3 :: [])++O) (.slice none 0 0) (l):=by rw [c4];exact BL.nil _ _ _
  refine Exists.intro _ (And.intro rfl (AA (DN (l:=[(1, .tmp 9),(2, .tmp 10),(3, .tmp 12)]) TA IO rfl [(1,vI threshold,[vI threshold]),(2,vI wait,[vI wait]),(3, .slice none 0 0,[.slice none 0 0])] [vI 0,vI threshold,vI wait, .slice none 0 0,nS] rfl ⟨_,rfl,rfl,oT,⟨_,rfl,rfl,oT,⟨_,rfl,(FB a4.oneCell),oT,rfl⟩⟩⟩ (BZ (BE (vs:=[vI 0,vI threshold,vI wait, .slice none 0 0,nS]) (.agg #[vI 0,vI threshold,vI wait, .slice none 0 0,nS]) rfl rfl rfl BJ (fun u hu=>by simp only [List.mem_cons,List.not_mem_nil,or_false] at hu;rcases hu with rfl|rfl|rfl|rfl|rfl <;> rfl) (by repeat (constructor)) a2 oT b7 fun d8 b8 d9 i3 a5=>(?_))))))
  have a4:=a4.mv d9
  refine AG (AC (AF (AF (AB kR (AA (BI (vs:=[vI 0,vI threshold,vI wait, .slice none 0 0,nS]) U28_ rfl BJ rfl a5 rfl (AA (BF (vs:=[vA #[vI 0,vI threshold,vI wait, .slice none 0 0,nS]]) MP (OJ (O:=(a3 :: [])++O) [vI 0,vI threshold,vI wait, .slice none 0 0,nS] (⟨(0:Int),threshold,wait,l,[]⟩:Circle) d8 ⟨_, .slice none 0 0,rfl,a4,(BL.nil _ _ _)⟩ b8.lt) rfl b8 fun i4 i5 b9 e0 e2 e3=>(?_)))))))))
  obtain rfl:=e3
  have a4:=a4.mv e0
  have a5:=a5.keep e2 (by simp)
  refine AA (AE (vI (AO (⟨(0:Int),threshold,wait,l,[]⟩:Circle))) rfl (AG (AC (AF (AB kR (AA (AD (vI (AO (⟨(0:Int),threshold,wait,l,[]⟩:Circle))) rfl (AA (DQ .i64 (AO (⟨(0:Int),threshold,wait,l,[]⟩:Circle)) (0:Int) rfl rfl (AG (AC (AJ ((AO (⟨(0:Int),threshold,wait,l,[]⟩:Circle)) != (0:Int)) rfl rfl (fun b1=>?_) (fun b1=>?_)))))))))))))
  ·have h4:AO (⟨(0:Int),threshold,wait,l,[]⟩:Circle)≠(0:Int):=by simpa using b1
   refine AF (AB kR (AA (DN (l:=[]) TA IO rfl [] [vI 0,vI 0,vI 0,nS,nS] rfl rfl (AA (AD (vI (AO (⟨(0:Int),threshold,wait,l,[]⟩:Circle))) rfl (BZ (BE (vs:=[vI 0,vI 0,vI 0,nS,nS]) (.agg #[vI 0,vI 0,vI 0,nS,nS]) rfl rfl rfl BJ (fun u hu=>by simp only [List.mem_cons,List.not_mem_nil,or_false] at hu;rcases hu with rfl|rfl|rfl|rfl|rfl <;> rfl) (by repeat (constructor)) a5 oT b9 fun i6 e4 i7 i8 c6=>(AA (AE (vI (AO (⟨(0:Int),threshold,wait,l,[]⟩:Circle))) rfl (AG (AC (AM (AP (AZ rfl (DT rfl (EE (vs:=[vI 0,vI 0,vI 0,nS,nS]) rfl U28_ rfl BJ rfl c6 rfl) (EK rfl rfl)) (?_)))))))))))))))
   have e5:((DL l threshold wait).1)=(⟨(0:Int),(0:Int),(0:Int),[],[]⟩:Circle):=by exact congrArg (fun p=>p.1) (PL aS)
   have e6:((DL l threshold wait).2)=(AO (⟨(0:Int),threshold,wait,l,[]⟩:Circle)):=by exact congrArg (fun p=>p.2) (PL aS)
   exact ⟨_,rfl,e4.keep,by rw [e5,e6];exact ⟨[vI 0,vI 0,vI 0,nS,nS],rfl,Enc.out (B:=(a3 :: [])) ⟨.slice none 0 0, .slice none 0 0,rfl,(BL.nil _ _ _),(BL.nil _ _ _)⟩⟩⟩
  have h5:AO (⟨(0:Int),threshold,wait,l,[]⟩:Circle)=(0:Int):=by simpa using b1
  refine AT (AC (AF (AB kR (AA (BI (vs:=[vI 0,vI threshold,vI wait, .slice none 0 0,nS]) U28_ rfl BJ rfl a5 rfl (BZ (BE (vs:=[vI 0,vI threshold,vI wait, .slice none 0 0,nS]) (.agg #[vI 0,vI threshold,vI wait, .slice none 0 0,nS]) rfl rfl rfl BJ (fun u hu=>by simp only [List.mem_cons,List.not_mem_nil,or_false] at hu;rcases hu with rfl|rfl|rfl|rfl|rfl <;> rfl) (by repeat (constructor)) a5 oT b9 fun i9 e7 e8 j0 c7=>(?_))))))))
  have a4:=a4.mv e8
  refine AA (AE (vI 0) rfl (AG (AC (AM (AZ rfl (DT rfl (EE (vs:=[vI 0,vI threshold,vI wait, .slice none 0 0,nS]) rfl U28_ rfl BJ rfl c7 rfl) (EK rfl rfl)) (?_))))))
  have e9:((DL l threshold wait).1)=(⟨(0:Int),threshold,wait,l,[]⟩:Circle):=by exact congrArg (fun p=>p.1) (SY aS)
  have f0:((DL l threshold wait).2)=(0:Int):=by exact congrArg (fun p=>p.2) (SY aS)
  exact ⟨_,rfl,e7.keep,by rw [e9,f0];exact ⟨[vI 0,vI threshold,vI wait, .slice none 0 0,nS],rfl,Enc.out (B:=(a3 :: [])) ⟨_, .slice none 0 0,rfl,a4,(BL.nil _ _ _)⟩⟩⟩
 have h6:a9=false:=by simpa using b0
 refine AT (AC (AF (AB kR (AA (IA (E:=Enc.int) (xs:=[]) U22_ OB z_3 (by decide) [] [] [] rfl rfl rfl (Parts.nil _ _ _) oT b7 fun c0 f1 j1 f2 b2 f3 f4 f5 c8=>(?_))))))
 have b4:∀ b,c0.ownBlock=some b→b≠a3:=fun b hb=>by have:=a2.lt;rw [b2] at hb;cases hb;omega
 have c9:∀ b,c0.ownBlock=some b→b∈(f1 :: (a3 :: [])):=fun b hb=>by rw [b2] at hb;cases hb;simp
 clear f2 b2
 have a7:=a7.mv f4
 have a2:=a2.keep f5 (by simp)
 refine AA (AD (l_v) rfl (AA (DI (E:=Enc.int) (l:=[]) (m:=l) U22_ i_3 rfl (by decide) rfl rfl c8 a7 (fun _ hb=>.inl hb) c9 (by simp;omega) (by simp [maxLen];omega) f3 fun a0 j2 f6 h7 d0 c5 f7 j3 f8 b5=>(?_))))
 rw [List.nil_append] at b5
 have d1:∀ b,a0.ownBlock=some b→b≠a3:=fun b hb=>by rcases d0 with e1|e1 <;> rw [e1] at hb <;> first|(cases hb;have:=a2.lt;omega)|(exact b4 b hb)
 have b6:a3∈f6:=c5 a3 (by repeat (constructor))
 have a2:=a2.keep f8 (by simp only [Option.mem_toList];exact fun e=>absurd rfl (b4 _ e))
 refine AA (AE (a0) rfl (AG (AC (AM (AZ rfl (CN rfl rfl rfl) (Exists.intro _ (And.intro rfl (?_))))))))
 obtain ⟨a8,f9,j4,a1,d2⟩:=b5.publish f7
 have b6:a3∈a8:=d2 a3 (by repeat (assumption)) (fun e=>absurd rfl (d1 _ e))
 have h2:=a1.len_le
 have a2:=a2.keep (Keep.refl [] _) (by simp)
 refine AA (DN (l:=[(1, .tmp 9),(2, .tmp 10),(3, .tmp 12)]) TA IO rfl [(1,vI threshold,[vI threshold]),(2,vI wait,[vI wait]),(3,a0,[a0])] [vI 0,vI threshold,vI wait,a0,nS] rfl ⟨_,rfl,rfl,oT,⟨_,rfl,rfl,oT,⟨_,rfl,(FB a1.oneCell),oT,rfl⟩⟩⟩ (BZ (BE (vs:=[vI 0,vI threshold,vI wait,a0,nS]) (.agg #[vI 0,vI threshold,vI wait,a0,nS]) rfl rfl rfl BJ (fun u hu=>by simp only [List.mem_cons,List.not_mem_nil,or_false] at hu;rcases hu with rfl|rfl|rfl|rfl|rfl <;> first|rfl|exact a1.oneCell) (by repeat (assumption)) a2 oT f9 fun g0 c1 g1 j5 a6=>(?_))))
 have a1:=a1.mv g1
 refine AG (AC (AF (AF (AB kR (AA (BI (vs:=[vI 0,vI threshold,vI wait,a0,nS]) U28_ rfl BJ rfl a6 rfl (AA (BF (vs:=[vA #[vI 0,vI threshold,vI wait,a0,nS]]) MP (OJ (O:=a8++O) [vI 0,vI threshold,vI wait,a0,nS] (⟨(0:Int),threshold,wait,l,[]⟩:Circle) g0 ⟨_, .slice none 0 0,rfl,a1,(BL.nil _ _ _)⟩ c1.lt) rfl c1 fun j6 j7 c2 g2 g3 g4=>(?_)))))))))
 obtain rfl:=g4
 have a1:=a1.mv g2
 have a6:=a6.keep g3 (by simp)
 refine AA (AE (vI (AO (⟨(0:Int),threshold,wait,l,[]⟩:Circle))) rfl (AG (AC (AF (AB kR (AA (AD (vI (AO (⟨(0:Int),threshold,wait,l,[]⟩:Circle))) rfl (AA (DQ .i64 (AO (⟨(0:Int),threshold,wait,l,[]⟩:Circle)) (0:Int) rfl rfl (AG (AC (AJ ((AO (⟨(0:Int),threshold,wait,l,[]⟩:Circle)) != (0:Int)) rfl rfl (fun b3=>?_) (fun b3=>?_)))))))))))))
 ·have h8:AO (⟨(0:Int),threshold,wait,l,[]⟩:Circle)≠(0:Int):=by simpa using b3
  refine AF (AB kR (AA (DN (l:=[]) TA IO rfl [] [vI 0,vI 0,vI 0,nS,nS] rfl rfl (AA (AD (vI (AO (⟨(0:Int),threshold,wait,l,[]⟩:Circle))) rfl (BZ (BE (vs:=[vI 0,vI 0,vI 0,nS,nS]) (.agg #[vI 0,vI 0,vI 0,nS,nS]) rfl rfl rfl BJ (fun u hu=>by simp only [List.mem_cons,List.not_mem_nil,or_false] at hu;rcases hu with rfl|rfl|rfl|rfl|rfl <;> rfl) (by repeat (assumption)) a6 oT c2 fun j8 g5 j9 k0 d3=>(AA (AE (vI (AO (⟨(0:Int),threshold,wait,l,[]⟩:Circle))) rfl (AG (AC (AM (AP (AZ rfl (DT rfl (EE (vs:=[vI 0,vI 0,vI 0,nS,nS]) rfl U28_ rfl BJ rfl d3 rfl) (EK rfl rfl)) (?_)))))))))))))))
  have g6:((DL l threshold wait).1)=(⟨(0:Int),(0:Int),(0:Int),[],[]⟩:Circle):=by exact congrArg (fun p=>p.1) (PL aS)
  have g7:((DL l threshold wait).2)=(AO (⟨(0:Int),threshold,wait,l,[]⟩:Circle)):=by exact congrArg (fun p=>p.2) (PL aS)
  exact ⟨_,rfl,g5.keep,by rw [g6,g7];exact ⟨[vI 0,vI 0,vI 0,nS,nS],rfl,Enc.out (B:=a8) ⟨.slice none 0 0, .slice none 0 0,rfl,(BL.nil _ _ _),(BL.nil _ _ _)⟩⟩⟩
 have h9:AO (⟨(0:Int),threshold,wait,l,[]⟩:Circle)=(0:Int):=by simpa using b3
 refine AT (AC (AF (AB kR (AA (BI (vs:=[vI 0,vI threshold,vI wait,a0,nS]) U28_ rfl BJ rfl a6 rfl (BZ (BE (vs:=[vI 0,vI threshold,vI wait,a0,nS]) (.agg #[vI 0,vI threshold,vI wait,a0,nS]) rfl rfl rfl BJ (fun u hu=>by simp only [List.mem_cons,List.not_mem_nil,or_false] at hu;rcases hu with rfl|rfl|rfl|rfl|rfl <;> first|rfl|exact a1.oneCell) (by repeat (assumption)) a6 oT c2 fun k5 g8 g9 k6 d4=>(?_))))))))
 have a1:=a1.mv g9
 refine AA (AE (vI 0) rfl (AG (AC (AM (AZ rfl (DT rfl (EE (vs:=[vI 0,vI threshold,vI wait,a0,nS]) rfl U28_ rfl BJ rfl d4 rfl) (EK rfl rfl)) (?_))))))
 have h0:((DL l threshold wait).1)=(⟨(0:Int),threshold,wait,l,[]⟩:Circle):=by exact congrArg (fun p=>p.1) (SY aS)
 have h1:((DL l threshold wait).2)=(0:Int):=by exact congrArg (fun p=>p.2) (SY aS)
 exact ⟨_,rfl,g8.keep,by rw [h0,h1];exact ⟨[vI 0,vI threshold,vI wait,a0,nS],rfl,Enc.out (B:=a8) ⟨_, .slice none 0 0,rfl,a1,(BL.nil _ _ _)⟩⟩⟩
set_option maxHeartbeats 4000000 in
set_option maxRecDepth 100000 in
theorem c_ask {O:List Nat} (c_cs:List Value) (c:Circle) (day:Int) (w:World) (o2:Enc.circle.rd w O c_cs c) (hO:∀ b∈O,b<w.heap.size):CM Try.prog 34 [.agg c_cs.toArray,vI day] w (fun v w'=>∃ (x0:List Value),v = .tuple #[.agg x0.toArray,vI ((CQ c day).2.1),vI ((CQ c day).2.2)]∧Enc.circle.rd w' (O) x0 ((CQ c day).1)):= by
 have o2:Enc.circle.rd w ([]++O) c_cs c:=o2
 have s0:St w O w []:=St.start hO
 refine BP 55 Try.func34 rfl rfl oT (fun F0=>AF (AB kR (AA (EC (E:=Enc.circle) (vA c_cs.toArray) (c_cs) c rfl rfl o2 s0 fun F1 F2 r5 F3 F4 a5=>(AA (CR [vI 0,vI 0,vI 0,nS,nS] IO rfl r5 fun a0 r6 r7 j1 r8 F5 a4=>(?_)))))))
 clear r7
 have a5:=a5.mv r8
 refine AA (AE (vI 0) rfl (AA (AE (vI 0) rfl (AG (AC (AF (AF (AB kR (AA (CY U28_ rfl BJ rfl a5 fun g0 o3=>(AA (BF (vs:=[vA g0.toArray]) MP (OJ (O:=(a0 :: [])++O) g0 c r6 o3 j1.lt) rfl j1 fun F6 F7 j2 r9 s1 s2=>(?_)))))))))))))
 obtain rfl:=s2
 have a5:=a5.mv r9
 have a4:=a4.keep s1 (by simp)
 refine AA (AE (vI (AO c)) rfl (AG (AC (AF (AB kR (AA (AD (vI (AO c)) rfl (AA (DQ .i64 (AO c) (0:Int) rfl rfl (AG (AC (AJ ((AO c) != (0:Int)) rfl rfl (fun d0=>?_) (fun d0=>?_)))))))))))))
 ·have C0:AO c≠(0:Int):=by simpa using d0
  refine AF (AB kR (AA (BI (vs:=[vI 0,vI 0,vI 0,nS,nS]) U28_ rfl BJ rfl a4 rfl (AA (AD (vI (AO c)) rfl (BZ (BE (vs:=[vI 0,vI 0,vI 0,nS,nS]) (.agg #[vI 0,vI 0,vI 0,nS,nS]) rfl rfl rfl BJ (fun u hu=>by simp only [List.mem_cons,List.not_mem_nil,or_false] at hu;rcases hu with rfl|rfl|rfl|rfl|rfl <;> rfl) (by repeat (constructor)) a4 oT j2 fun F8 s3 F9 G0 o4=>(AA (AE (vI 0) rfl (AA (AE (vI (AO c)) rfl (AG (AC (AM (AP (AZ rfl (IR rfl (EE (vs:=[vI 0,vI 0,vI 0,nS,nS]) rfl U28_ rfl BJ rfl o4 rfl) (EK rfl rfl) (EK rfl rfl)) (?_)))))))))))))))))
  have s4:((CQ c day).1)=(⟨(0:Int),(0:Int),(0:Int),[],[]⟩:Circle):=by exact congrArg (fun p=>p.1) (SL aS)
  have s5:((CQ c day).2.1)=(0:Int):=by exact congrArg (fun p=>p.2.1) (SL aS)
  have s6:((CQ c day).2.2)=(AO c):=by exact congrArg (fun p=>p.2.2) (SL aS)
  exact ⟨_,rfl,s3.keep,by rw [s4,s5,s6];exact ⟨[vI 0,vI 0,vI 0,nS,nS],rfl,Enc.out (B:=(a0 :: [])) ⟨.slice none 0 0, .slice none 0 0,rfl,(BL.nil _ _ _),(BL.nil _ _ _)⟩⟩⟩
 have o5:AO c=(0:Int):=by simpa using d0
 have hrl:=QU o5
 refine AT (AC (AF (AB kR (AA (BO 4 EF (c.recs) rfl a5 (fun _ _ _ h=>CV h) fun G1 o6=>(AA (CI U26_ rfl rfl o6 fun G2 g1=>(?_))))))))
 have:=g1.len_le
 refine AA (CK U26_ rfl g1 (AA (AE (vI (c.recs.length:Int)) rfl (AG (AC (AF (AB kR (AA (DN (l:=[(2, .const (vI 1))]) pl_68 OZ rfl [(2,vI 1,[vI 1])] [vI 0,vI 0,vI 1,nS,nS] rfl ⟨_,rfl,rfl,oT,rfl⟩ (AA (CR [vI 0,vI 0,vI 0,nS,nS] OZ rfl j2 fun a3 G3 s7 s8 s9 t0 o7=>(?_))))))))))))
 have c4:EY a0 a3:=by show a0≠a3;have:=a4.lt;omega
 clear s7
 have a5:=a5.mv s9
 have a4:=a4.keep t0 (by simp)
 refine BZ (BE (vs:=[vI 0,vI 0,vI 1,nS,nS]) (.agg #[vI 0,vI 0,vI 1,nS,nS]) rfl rfl rfl GK (fun u hu=>by simp only [List.mem_cons,List.not_mem_nil,or_false] at hu;rcases hu with rfl|rfl|rfl|rfl|rfl <;> rfl) (by repeat (constructor)) o7 oT s8 fun t2 f0 t3 t4 a6=>(?_))
 have a5:=a5.mv t3
 have a4:=a4.keep t4 (AS c4)
 refine AG (AC (AF (AF (AB kR (AA (AD (vI (c.recs.length:Int)) rfl (AA (HN .i64 (c.recs.length:Int) (0:Int) rfl rfl (AG (AC (AJ (decide ((0:Int)<(c.recs.length:Int))) rfl rfl (fun d1=>?_) (fun d1=>?_))))))))))))
 ·have C1:(0:Int)<(c.recs.length:Int):=by simpa using d1
  have hlr:KG c=c.recs[c.recs.length - 1]!:=if_pos oM
  refine AB kR (AA (BO 4 EF (c.recs) rfl a5 (fun _ _ _ h=>CV h) fun G4 o8=>(AA (CI U26_ rfl rfl o8 fun G5 g2=>(?_)))))
  have:=g2.len_le
  refine AA (AD (vI (c.recs.length:Int)) rfl (AA (KI .i64 (c.recs.length:Int) (1:Int) (((c.recs.length - 1:Nat):Int)) rfl rfl (GZ oM oM) (AA (DO U26_ GK .i64 ((c.recs.length - 1:Nat):Int) (c.recs.length - 1) rfl rfl rfl g2 oM fun G6 o9=>(AA (CY U68_ rfl GK rfl o9 fun C2 p0=>(?_))))))))
  obtain ⟨j3,j4,rfl,g3,g4⟩:=p0
  have:=g3.len_le
  have:=g4.len_le
  refine BZ (BE (vs:=[vI ((c.recs[c.recs.length - 1]!).no),vI ((c.recs[c.recs.length - 1]!).asked),vI ((c.recs[c.recs.length - 1]!).state),j3,j4]) (.agg #[vI ((c.recs[c.recs.length - 1]!).no),vI ((c.recs[c.recs.length - 1]!).asked),vI ((c.recs[c.recs.length - 1]!).state),j3,j4]) rfl rfl rfl GK (fun u hu=>by simp only [List.mem_cons,List.not_mem_nil,or_false] at hu;rcases hu with rfl|rfl|rfl|rfl|rfl <;> first|rfl|exact g3.oneCell|exact g4.oneCell) (by repeat (constructor)) a6 oT f0 fun t5 j5 t6 t7 a7=>(?_))
  have a5:=a5.mv t6
  have a4:=a4.keep t7 (AS c4)
  refine AG (AC (AF (BQ (AF (AB kR (AA (AD (vI day) rfl (AA (AH 1 QB rfl (AA (AK U3_ rfl (vI ((c.recs[c.recs.length - 1]!).asked)) rfl a7 rfl (AA (BF (vs:=[vI day,vI ((c.recs[c.recs.length - 1]!).asked)]) MT (OI (O:=(a3 :: (a0 :: []))++O) day ((c.recs[c.recs.length - 1]!).asked) t5 j5.lt) rfl j5 fun G7 G8 c9 t8 j6 t9=>(?_))))))))))))))
  obtain rfl:=t9
  have a5:=a5.mv t8
  have a4:=a4.keep j6 (by simp)
  have a7:=a7.keep j6 (by simp)
  refine AA (FF (CO day ((c.recs[c.recs.length - 1]!).asked)) rfl (AA (AE (vO (!(CO day ((c.recs[c.recs.length - 1]!).asked)))) rfl (AG (AC (AJ (!(CO day ((c.recs[c.recs.length - 1]!).asked))) rfl rfl (fun d2=>?_) (fun d2=>?_)))))))
  ·have C3:(CO day ((c.recs[c.recs.length - 1]!).asked))=false:=by simpa using d2
   refine AF (AB kR (AA (BI (vs:=[vI 0,vI 0,vI 0,nS,nS]) U28_ rfl BJ rfl a4 rfl (BZ (BE (vs:=[vI 0,vI 0,vI 0,nS,nS]) (.agg #[vI 0,vI 0,vI 0,nS,nS]) rfl rfl rfl BJ (fun u hu=>by simp only [List.mem_cons,List.not_mem_nil,or_false] at hu;rcases hu with rfl|rfl|rfl|rfl|rfl <;> rfl) (by repeat (constructor)) a4 oT c9 fun G9 u0 H0 H1 p1=>(AA (AE (vI 0) rfl (AA (AE (vI 1) rfl (AG (AC (AM (CE (AP (AZ rfl (IR rfl (EE (vs:=[vI 0,vI 0,vI 0,nS,nS]) rfl U28_ rfl BJ rfl p1 rfl) (EK rfl rfl) (EK rfl rfl)) (?_))))))))))))))))
   have u1:((CQ c day).1)=(⟨(0:Int),(0:Int),(0:Int),[],[]⟩:Circle):=by exact congrArg (fun p=>p.1) (MI aS (by rw [hlr];assumption))
   have u2:((CQ c day).2.1)=(0:Int):=by exact congrArg (fun p=>p.2.1) (MI aS (by rw [hlr];assumption))
   have u3:((CQ c day).2.2)=(1:Int):=by exact congrArg (fun p=>p.2.2) (MI aS (by rw [hlr];assumption))
   exact ⟨_,rfl,u0.keep,by rw [u1,u2,u3];exact ⟨[vI 0,vI 0,vI 0,nS,nS],rfl,Enc.out (B:=(a3 :: (a0 :: []))) ⟨.slice none 0 0, .slice none 0 0,rfl,(BL.nil _ _ _),(BL.nil _ _ _)⟩⟩⟩
  have C4:(CO day ((c.recs[c.recs.length - 1]!).asked))=true:=by simpa using d2
  refine AF (AB kR (AA (AH 2 LO rfl (AA (AK U3_ rfl (vI ((c.recs[c.recs.length - 1]!).state)) rfl a7 rfl (AA (EZ .i64 ((c.recs[c.recs.length - 1]!).state) (0:Int) rfl rfl (AA (AE (vO (((c.recs[c.recs.length - 1]!).state) == (0:Int))) rfl (AG (AC (AJ (((c.recs[c.recs.length - 1]!).state) == (0:Int)) rfl rfl (fun d3=>?_) (fun d3=>?_)))))))))))))
  ·have C5:(c.recs[c.recs.length - 1]!).state=(0:Int):=by simpa using d3
   refine AF (AB kR (AA (BI (vs:=[vI 0,vI 0,vI 0,nS,nS]) U28_ rfl BJ rfl a4 rfl (BZ (BE (vs:=[vI 0,vI 0,vI 0,nS,nS]) (.agg #[vI 0,vI 0,vI 0,nS,nS]) rfl rfl rfl BJ (fun u hu=>by simp only [List.mem_cons,List.not_mem_nil,or_false] at hu;rcases hu with rfl|rfl|rfl|rfl|rfl <;> rfl) (by repeat (constructor)) a4 oT c9 fun H2 u4 H3 H4 p2=>(AA (AE (vI 0) rfl (AA (AE (vI 451) rfl (AG (AC (AM (CE (AP (AZ rfl (IR rfl (EE (vs:=[vI 0,vI 0,vI 0,nS,nS]) rfl U28_ rfl BJ rfl p2 rfl) (EK rfl rfl) (EK rfl rfl)) (?_))))))))))))))))
   have u5:((CQ c day).1)=(⟨(0:Int),(0:Int),(0:Int),[],[]⟩:Circle):=by exact congrArg (fun p=>p.1) (QO aS (by rw [hlr];assumption) (by rw [hlr];assumption))
   have u6:((CQ c day).2.1)=(0:Int):=by exact congrArg (fun p=>p.2.1) (QO aS (by rw [hlr];assumption) (by rw [hlr];assumption))
   have u7:((CQ c day).2.2)=(451:Int):=by exact congrArg (fun p=>p.2.2) (QO aS (by rw [hlr];assumption) (by rw [hlr];assumption))
   exact ⟨_,rfl,u4.keep,by rw [u5,u6,u7];exact ⟨[vI 0,vI 0,vI 0,nS,nS],rfl,Enc.out (B:=(a3 :: (a0 :: []))) ⟨.slice none 0 0, .slice none 0 0,rfl,(BL.nil _ _ _),(BL.nil _ _ _)⟩⟩⟩
  have C6:(c.recs[c.recs.length - 1]!).state≠(0:Int):=by simpa using d3
  refine AF (AB kR (AA (AD (vI (c.recs.length:Int)) rfl (AA (EZ .i64 (c.recs.length:Int) (1024:Int) rfl rfl (AA (AE (vO ((c.recs.length:Int) == (1024:Int))) rfl (AG (AC (AJ ((c.recs.length:Int) == (1024:Int)) rfl rfl (fun d4=>?_) (fun d4=>?_)))))))))))
  ·have C7:(c.recs.length:Int)=(1024:Int):=by simpa using d4
   refine AF (AB kR (AA (BI (vs:=[vI 0,vI 0,vI 0,nS,nS]) U28_ rfl BJ rfl a4 rfl (BZ (BE (vs:=[vI 0,vI 0,vI 0,nS,nS]) (.agg #[vI 0,vI 0,vI 0,nS,nS]) rfl rfl rfl BJ (fun u hu=>by simp only [List.mem_cons,List.not_mem_nil,or_false] at hu;rcases hu with rfl|rfl|rfl|rfl|rfl <;> rfl) (by repeat (constructor)) a4 oT c9 fun H5 u9 H6 H7 p3=>(AA (AE (vI 0) rfl (AA (AE (vI 2) rfl (AG (AC (AM (CE (AP (AZ rfl (IR rfl (EE (vs:=[vI 0,vI 0,vI 0,nS,nS]) rfl U28_ rfl BJ rfl p3 rfl) (EK rfl rfl) (EK rfl rfl)) (?_))))))))))))))))
   have v0:((CQ c day).1)=(⟨(0:Int),(0:Int),(0:Int),[],[]⟩:Circle):=by exact congrArg (fun p=>p.1) (KR aS (by rw [hlr];assumption) (by rw [hlr];assumption) aS)
   have v1:((CQ c day).2.1)=(0:Int):=by exact congrArg (fun p=>p.2.1) (KR aS (by rw [hlr];assumption) (by rw [hlr];assumption) aS)
   have v2:((CQ c day).2.2)=(2:Int):=by exact congrArg (fun p=>p.2.2) (KR aS (by rw [hlr];assumption) (by rw [hlr];assumption) aS)
   exact ⟨_,rfl,u9.keep,by rw [v0,v1,v2];exact ⟨[vI 0,vI 0,vI 0,nS,nS],rfl,Enc.out (B:=(a3 :: (a0 :: []))) ⟨.slice none 0 0, .slice none 0 0,rfl,(BL.nil _ _ _),(BL.nil _ _ _)⟩⟩⟩
  have C8:(c.recs.length:Int)≠(1024:Int):=by simpa using d4
  refine AT (CB (AC (AF (AB kR (AA (CY U28_ rfl BJ rfl a5 fun C9 p4=>(?_)))))))
  obtain ⟨b0,j7,rfl,a1,g5⟩:=p4
  have:=a1.len_le
  have:=g5.len_le
  refine BZ (BE (vs:=[vI c.epoch,vI c.threshold,vI c.wait,b0,j7]) (.agg #[vI c.epoch,vI c.threshold,vI c.wait,b0,j7]) rfl rfl rfl BJ (fun u hu=>by simp only [List.mem_cons,List.not_mem_nil,or_false] at hu;rcases hu with rfl|rfl|rfl|rfl|rfl <;> first|rfl|exact a1.oneCell|exact g5.oneCell) (by repeat (constructor)) a4 oT c9 fun v3 j8 j9 v4 a8=>(?_))
  have a5:=a5.mv j9
  have a1:=a1.mv j9
  have a7:=a7.keep v4 (AS (Ne.symm c4))
  refine AG (AC (AF (AB kR (AA (BO 4 EF (c.recs) rfl a5 (fun _ _ _ h=>CV h) fun H8 p5=>(AA (CI U26_ rfl rfl p5 fun f1 c2=>(?_))))))))
  have:=c2.len_le
  refine AA (JV [f1] _ LG rfl (BW 8 Try.func67 rfl rfl oT (fun H9=>AF (AB kR (AA (AE (nS) rfl (AG (AC (AF (AF (AB kR (AA (AD (f1) rfl (AA (KU U26_ rfl rfl c2 fun d5 o0=>(AG (AC (AJ (d5) rfl rfl (fun d6=>?_) (fun d6=>?_)))))))))))))))))) (fun _ _ h=>h))
  ·have D0:d5=true:=by simpa using d6
   refine AF (AB kR (AA (AE (nS) rfl (AG (AC (AM (AP (AZ rfl (CN rfl rfl rfl) (?_)))))))))
   have e2:c.recs=[]:=o0 aS
   have D1:BL Enc.recovery v3 ((a3 :: (a0 :: []))++O) (.slice none 0 0) (c.recs):=by rw [e2];exact BL.nil _ _ _
   refine Exists.intro _ (And.intro rfl (AA (AD (vI (c.recs.length:Int)) rfl (AA (AD (vI day) rfl (AA (DN (l:=[(0, .tmp 47),(1, .tmp 48),(2, .const (vI 0))]) pl_68 OZ rfl [(0,vI (c.recs.length:Int),[vI (c.recs.length:Int)]),(1,vI day,[vI day]),(2,vI 0,[vI 0])] [vI (c.recs.length:Int),vI day,vI 0,nS,nS] rfl ⟨_,rfl,rfl,oT,⟨_,rfl,rfl,oT,⟨_,rfl,rfl,oT,rfl⟩⟩⟩ (AA (KH (E:=Enc.recovery) (xs:=[.tmp 49]) U26_ GK OZ (by decide) [.agg #[vI (c.recs.length:Int),vI day,vI 0,nS,nS]] [[vI (c.recs.length:Int),vI day,vI 0,nS,nS]] [(⟨(c.recs.length:Int),day,(0:Int),[],[]⟩:Recovery)] rfl rfl rfl (Parts.cons rfl ⟨.slice none 0 0, .slice none 0 0,rfl,(BL.nil _ _ _),(BL.nil _ _ _)⟩ (Parts.nil _ _ _)) oT j8 fun I0 I1 v5 v6 k0 g6=>(?_))))))))))
   have a1:=a1.mv v6
   have a8:=a8.keep k0 (by simp)
   have a7:=a7.keep k0 (by simp)
   have:=g6.len_le
   refine AA (DI (v:=.slice none 0 0) (E:=Enc.recovery) (l:=c.recs) (m:=[(⟨(c.recs.length:Int),day,(0:Int),[],[]⟩:Recovery)]) U26_ VN rfl (by decide) rfl rfl (by rw [e2];exact DX.nil Enc.recovery 68 _ _ _) g6 (fun _ hb=>.inl hb) (by intro b hb;simp [Value.ownBlock] at hb) (by simp;omega) (by simp [maxLen];omega) v5 fun b8 I2 k5 D2 g7 e3 v7 v8 v9 b4=>(?_))
   have g8:∀ b,b8.ownBlock=some b→b≠a0:=fun b hb=>by rcases g7 with e1|e1 <;> rw [e1] at hb <;> first|(simp [Value.ownBlock] at hb;done)|(cases hb;have:=a8.lt;omega)
   have D3:∀ b,b8.ownBlock=some b→b≠a3:=fun b hb=>by rcases g7 with e1|e1 <;> rw [e1] at hb <;> first|(simp [Value.ownBlock] at hb;done)|(cases hb;have:=a7.lt;omega)
   have b2:a0∈k5:=e3 a0 (by repeat (constructor))
   have b3:a3∈k5:=e3 a3 (by repeat (constructor))
   have a1:=a1.mv v8
   have a8:=a8.keep v9 (by simp only [Option.mem_toList];(simp [Value.ownBlock];done))
   refine AA (AH 4 EF rfl (BZ (BY (b8) rfl rfl b4.oneCell YV (by repeat (assumption)) a8 oT v7 fun I3 w0 k6 w1 g9=>(?_))))
   have a1:=a1.mv k6
   have b4:=b4.mv k6 w1 (fun b hb=>AS (g8 b hb))
   refine AG (AC (AF (AB kR (AA (BI (vs:=[vI c.epoch,vI c.threshold,vI c.wait,b0,b8]) U28_ rfl BJ rfl g9 rfl (AA (AD (vI (c.recs.length:Int)) rfl (BZ (BE (vs:=[vI c.epoch,vI c.threshold,vI c.wait,b0,b8]) (.agg #[vI c.epoch,vI c.threshold,vI c.wait,b0,b8]) rfl rfl rfl BJ (fun u hu=>by simp only [List.mem_cons,List.not_mem_nil,or_false] at hu;rcases hu with rfl|rfl|rfl|rfl|rfl <;> first|rfl|exact a1.oneCell|exact b4.oneCell) (by repeat (assumption)) g9 oT w0 fun I4 k7 k8 w2 p6=>(?_))))))))))
   have a1:=a1.mv k8
   have b4:=b4.mv k8 w2 (fun b hb=>AS (g8 b hb))
   refine AA (AE (vI (c.recs.length:Int)) rfl (AA (AE (vI 0) rfl (AG (AC (AM (AZ rfl (IR rfl (EE (vs:=[vI c.epoch,vI c.threshold,vI c.wait,b0,b8]) rfl U28_ rfl BJ rfl p6 rfl) (EK rfl rfl) (EK rfl rfl)) (?_))))))))
   have w3:((CQ c day).1)=(⟨c.epoch,c.threshold,c.wait,c.guardians,c.recs++([(⟨(c.recs.length:Int),day,(0:Int),[],[]⟩:Recovery)])⟩:Circle):=by exact congrArg (fun p=>p.1) (IN aS (by rw [hlr];assumption) (by rw [hlr];assumption) aS)
   have w4:((CQ c day).2.1)=(c.recs.length:Int):=by exact congrArg (fun p=>p.2.1) (IN aS (by rw [hlr];assumption) (by rw [hlr];assumption) aS)
   have w5:((CQ c day).2.2)=(0:Int):=by exact congrArg (fun p=>p.2.2) (IN aS (by rw [hlr];assumption) (by rw [hlr];assumption) aS)
   exact ⟨_,rfl,k7.keep,by rw [w3,w4,w5];exact ⟨[vI c.epoch,vI c.threshold,vI c.wait,b0,b8],rfl,⟨_,_,rfl,a1.out,(b4.pub k7)⟩⟩⟩
  have D4:d5=false:=by simpa using d6
  refine AT (AC (AF (AB kR (AA (IA (E:=Enc.recovery) (xs:=[]) U26_ GK OZ (by decide) [] [] [] rfl rfl rfl (Parts.nil _ _ _) oT j8 fun f2 w6 I5 w7 c5 w8 k9 l0 p7=>(?_))))))
  have h0:∀ b,f2.ownBlock=some b→b≠a0:=fun b hb=>by have:=a8.lt;rw [c5] at hb;cases hb;omega
  have h1:∀ b,f2.ownBlock=some b→b≠a3:=fun b hb=>by have:=a7.lt;rw [c5] at hb;cases hb;omega
  have p8:∀ b,f2.ownBlock=some b→b∈(w6 :: (a3 :: (a0 :: []))):=fun b hb=>by rw [c5] at hb;cases hb;simp
  clear w7 c5
  have c2:=c2.mv k9
  have a1:=a1.mv k9
  have a8:=a8.keep l0 (by simp)
  have a7:=a7.keep l0 (by simp)
  refine AA (AD (f1) rfl (AA (DI (E:=Enc.recovery) (l:=[]) (m:=c.recs) U26_ VN rfl (by decide) rfl rfl p7 c2 (fun _ hb=>.inl hb) p8 (by simp;omega) (by simp [maxLen];omega) w8 fun f3 I6 l1 p9 h2 e4 w9 x1 l2 c6=>(?_))))
  rw [List.nil_append] at c6
  have h3:∀ b,f3.ownBlock=some b→b≠a0:=fun b hb=>by rcases h2 with e1|e1 <;> rw [e1] at hb <;> first|(cases hb;have:=a8.lt;omega)|(exact h0 b hb)
  have q0:∀ b,f3.ownBlock=some b→b≠a3:=fun b hb=>by rcases h2 with e1|e1 <;> rw [e1] at hb <;> first|(cases hb;have:=a7.lt;omega)|(exact h1 b hb)
  have b2:a0∈l1:=e4 a0 (by repeat (constructor))
  have b3:a3∈l1:=e4 a3 (by repeat (constructor))
  have a1:=a1.mv x1
  have a8:=a8.keep l2 (by simp only [Option.mem_toList];exact fun e=>absurd rfl (h0 _ e))
  have a7:=a7.keep l2 (by simp only [Option.mem_toList];exact fun e=>absurd rfl (h1 _ e))
  refine AA (AE (f3) rfl (AG (AC (AM (AZ rfl (CN rfl rfl rfl) (Exists.intro _ (And.intro rfl (AA (AD (vI (c.recs.length:Int)) rfl (AA (AD (vI day) rfl (AA (DN (l:=[(0, .tmp 47),(1, .tmp 48),(2, .const (vI 0))]) pl_68 OZ rfl [(0,vI (c.recs.length:Int),[vI (c.recs.length:Int)]),(1,vI day,[vI day]),(2,vI 0,[vI 0])] [vI (c.recs.length:Int),vI day,vI 0,nS,nS] rfl ⟨_,rfl,rfl,oT,⟨_,rfl,rfl,oT,⟨_,rfl,rfl,oT,rfl⟩⟩⟩ (AA (KH (E:=Enc.recovery) (xs:=[.tmp 49]) U26_ GK OZ (by decide) [.agg #[vI (c.recs.length:Int),vI day,vI 0,nS,nS]] [[vI (c.recs.length:Int),vI day,vI 0,nS,nS]] [(⟨(c.recs.length:Int),day,(0:Int),[],[]⟩:Recovery)] rfl rfl rfl (Parts.cons rfl ⟨.slice none 0 0, .slice none 0 0,rfl,(BL.nil _ _ _),(BL.nil _ _ _)⟩ (Parts.nil _ _ _)) oT w9 fun I7 I8 x2 l3 f4 h4=>(?_))))))))))))))))
  have a1:=a1.mv l3
  have c6:=c6.mv l3 f4 (by simp)
  have a8:=a8.keep f4 (by simp)
  have a7:=a7.keep f4 (by simp)
  have:=h4.len_le
  refine AA (DI (E:=Enc.recovery) (l:=c.recs) (m:=[(⟨(c.recs.length:Int),day,(0:Int),[],[]⟩:Recovery)]) U26_ VN rfl (by decide) rfl rfl c6 h4 (fun _ hb=>.inl hb) p9 (by simp;omega) (by simp [maxLen];omega) x2 fun b9 I9 l4 D5 h5 e5 x3 x4 x5 b5=>(?_))
  have h6:∀ b,b9.ownBlock=some b→b≠a0:=fun b hb=>by rcases h5 with e1|e1 <;> rw [e1] at hb <;> first|(cases hb;have:=a8.lt;omega)|(exact h3 b hb)
  have D6:∀ b,b9.ownBlock=some b→b≠a3:=fun b hb=>by rcases h5 with e1|e1 <;> rw [e1] at hb <;> first|(cases hb;have:=a7.lt;omega)|(exact q0 b hb)
  have b2:a0∈l4:=e5 a0 (by repeat (assumption))
  have b3:a3∈l4:=e5 a3 (by repeat (assumption))
  have a1:=a1.mv x4
  have a8:=a8.keep x5 (by simp only [Option.mem_toList];exact fun e=>absurd rfl (h3 _ e))
  refine AA (AH 4 EF rfl (BZ (BY (b9) rfl rfl b5.oneCell YV (by repeat (assumption)) a8 oT x3 fun J0 x6 l5 x7 h7=>(?_))))
  have a1:=a1.mv l5
  have b5:=b5.mv l5 x7 (fun b hb=>AS (h6 b hb))
  refine AG (AC (AF (AB kR (AA (BI (vs:=[vI c.epoch,vI c.threshold,vI c.wait,b0,b9]) U28_ rfl BJ rfl h7 rfl (AA (AD (vI (c.recs.length:Int)) rfl (BZ (BE (vs:=[vI c.epoch,vI c.threshold,vI c.wait,b0,b9]) (.agg #[vI c.epoch,vI c.threshold,vI c.wait,b0,b9]) rfl rfl rfl BJ (fun u hu=>by simp only [List.mem_cons,List.not_mem_nil,or_false] at hu;rcases hu with rfl|rfl|rfl|rfl|rfl <;> first|rfl|exact a1.oneCell|exact b5.oneCell) (by repeat (assumption)) h7 oT x6 fun J1 l6 l7 x8 q1=>(?_))))))))))
  have a1:=a1.mv l7
  have b5:=b5.mv l7 x8 (fun b hb=>AS (h6 b hb))
  refine AA (AE (vI (c.recs.length:Int)) rfl (AA (AE (vI 0) rfl (AG (AC (AM (AZ rfl (IR rfl (EE (vs:=[vI c.epoch,vI c.threshold,vI c.wait,b0,b9]) rfl U28_ rfl BJ rfl q1 rfl) (EK rfl rfl) (EK rfl rfl)) (?_))))))))
  have x9:((CQ c day).1)=(⟨c.epoch,c.threshold,c.wait,c.guardians,c.recs++([(⟨(c.recs.length:Int),day,(0:Int),[],[]⟩:Recovery)])⟩:Circle):=by exact congrArg (fun p=>p.1) (IN aS (by rw [hlr];assumption) (by rw [hlr];assumption) aS)
  have y0:((CQ c day).2.1)=(c.recs.length:Int):=by exact congrArg (fun p=>p.2.1) (IN aS (by rw [hlr];assumption) (by rw [hlr];assumption) aS)
  have y1:((CQ c day).2.2)=(0:Int):=by exact congrArg (fun p=>p.2.2) (IN aS (by rw [hlr];assumption) (by rw [hlr];assumption) aS)
  exact ⟨_,rfl,l6.keep,by rw [x9,y0,y1];exact ⟨[vI c.epoch,vI c.threshold,vI c.wait,b0,b9],rfl,⟨_,_,rfl,a1.out,(b5.pub l6)⟩⟩⟩
 have D7:(c.recs.length:Int)≤(0:Int):=by simpa using d1
 have hlr:KG c = ⟨0,0,1,[],[]⟩:=if_neg oM
 refine AT (AC (AF (BQ (AF (AB kR (AA (AD (vI day) rfl (AA (AH 1 QB rfl (AA (AK U3_ rfl (vI 0) rfl a6 rfl (AA (BF (vs:=[vI day,vI 0]) MT (OI (O:=(a3 :: (a0 :: []))++O) day (0:Int) t2 f0.lt) rfl f0 fun J2 J3 f5 y2 l8 y3=>(?_))))))))))))))
 obtain rfl:=y3
 have a5:=a5.mv y2
 have a4:=a4.keep l8 (by simp)
 have a6:=a6.keep l8 (by simp)
 refine AA (FF (CO day (0:Int)) rfl (AA (AE (vO (!(CO day (0:Int)))) rfl (AG (AC (AJ (!(CO day (0:Int))) rfl rfl (fun d7=>?_) (fun d7=>?_)))))))
 ·have D8:(CO day (0:Int))=false:=by simpa using d7
  refine AF (AB kR (AA (BI (vs:=[vI 0,vI 0,vI 0,nS,nS]) U28_ rfl BJ rfl a4 rfl (BZ (BE (vs:=[vI 0,vI 0,vI 0,nS,nS]) (.agg #[vI 0,vI 0,vI 0,nS,nS]) rfl rfl rfl BJ (fun u hu=>by simp only [List.mem_cons,List.not_mem_nil,or_false] at hu;rcases hu with rfl|rfl|rfl|rfl|rfl <;> rfl) (by repeat (constructor)) a4 oT f5 fun J4 y4 J5 J6 q2=>(AA (AE (vI 0) rfl (AA (AE (vI 1) rfl (AG (AC (AM (CE (AP (AZ rfl (IR rfl (EE (vs:=[vI 0,vI 0,vI 0,nS,nS]) rfl U28_ rfl BJ rfl q2 rfl) (EK rfl rfl) (EK rfl rfl)) (?_))))))))))))))))
  have y5:((CQ c day).1)=(⟨(0:Int),(0:Int),(0:Int),[],[]⟩:Circle):=by exact congrArg (fun p=>p.1) (MI aS (by rw [hlr];assumption))
  have y6:((CQ c day).2.1)=(0:Int):=by exact congrArg (fun p=>p.2.1) (MI aS (by rw [hlr];assumption))
  have y7:((CQ c day).2.2)=(1:Int):=by exact congrArg (fun p=>p.2.2) (MI aS (by rw [hlr];assumption))
  exact ⟨_,rfl,y4.keep,by rw [y5,y6,y7];exact ⟨[vI 0,vI 0,vI 0,nS,nS],rfl,Enc.out (B:=(a3 :: (a0 :: []))) ⟨.slice none 0 0, .slice none 0 0,rfl,(BL.nil _ _ _),(BL.nil _ _ _)⟩⟩⟩
 have D9:(CO day (0:Int))=true:=by simpa using d7
 refine AF (AB kR (AA (AH 2 LO rfl (AA (AK U3_ rfl (vI 1) rfl a6 rfl (AA (EZ .i64 (1:Int) (0:Int) rfl rfl (AA (AE (vO false) rfl (AG (AC (AJ false rfl rfl (fun h=>by cases h) (fun _=>AF (AB kR (AA (AD (vI (c.recs.length:Int)) rfl (AA (EZ .i64 (c.recs.length:Int) (1024:Int) rfl rfl (AA (AE (vO ((c.recs.length:Int) == (1024:Int))) rfl (AG (AC (AJ ((c.recs.length:Int) == (1024:Int)) rfl rfl (fun d8=>?_) (fun d8=>?_))))))))))))))))))))))))
 ·have E0:(c.recs.length:Int)=(1024:Int):=by simpa using d8
  refine AF (AB kR (AA (BI (vs:=[vI 0,vI 0,vI 0,nS,nS]) U28_ rfl BJ rfl a4 rfl (BZ (BE (vs:=[vI 0,vI 0,vI 0,nS,nS]) (.agg #[vI 0,vI 0,vI 0,nS,nS]) rfl rfl rfl BJ (fun u hu=>by simp only [List.mem_cons,List.not_mem_nil,or_false] at hu;rcases hu with rfl|rfl|rfl|rfl|rfl <;> rfl) (by repeat (constructor)) a4 oT f5 fun J7 y8 J8 J9 q3=>(AA (AE (vI 0) rfl (AA (AE (vI 2) rfl (AG (AC (AM (CE (AP (AZ rfl (IR rfl (EE (vs:=[vI 0,vI 0,vI 0,nS,nS]) rfl U28_ rfl BJ rfl q3 rfl) (EK rfl rfl) (EK rfl rfl)) (?_))))))))))))))))
  have y9:((CQ c day).1)=(⟨(0:Int),(0:Int),(0:Int),[],[]⟩:Circle):=by exact congrArg (fun p=>p.1) (KR aS (by rw [hlr];assumption) (by rw [hlr];decide) aS)
  have z0:((CQ c day).2.1)=(0:Int):=by exact congrArg (fun p=>p.2.1) (KR aS (by rw [hlr];assumption) (by rw [hlr];decide) aS)
  have z1:((CQ c day).2.2)=(2:Int):=by exact congrArg (fun p=>p.2.2) (KR aS (by rw [hlr];assumption) (by rw [hlr];decide) aS)
  exact ⟨_,rfl,y8.keep,by rw [y9,z0,z1];exact ⟨[vI 0,vI 0,vI 0,nS,nS],rfl,Enc.out (B:=(a3 :: (a0 :: []))) ⟨.slice none 0 0, .slice none 0 0,rfl,(BL.nil _ _ _),(BL.nil _ _ _)⟩⟩⟩
 have E1:(c.recs.length:Int)≠(1024:Int):=by simpa using d8
 refine AT (CB (AC (AF (AB kR (AA (CY U28_ rfl BJ rfl a5 fun E2 q4=>(?_)))))))
 obtain ⟨b1,l9,rfl,a2,h8⟩:=q4
 have:=a2.len_le
 have:=h8.len_le
 refine BZ (BE (vs:=[vI c.epoch,vI c.threshold,vI c.wait,b1,l9]) (.agg #[vI c.epoch,vI c.threshold,vI c.wait,b1,l9]) rfl rfl rfl BJ (fun u hu=>by simp only [List.mem_cons,List.not_mem_nil,or_false] at hu;rcases hu with rfl|rfl|rfl|rfl|rfl <;> first|rfl|exact a2.oneCell|exact h8.oneCell) (by repeat (constructor)) a4 oT f5 fun z2 m0 m1 z3 a9=>(?_))
 have a5:=a5.mv m1
 have a2:=a2.mv m1
 have a6:=a6.keep z3 (AS (Ne.symm c4))
 refine AG (AC (AF (AB kR (AA (BO 4 EF (c.recs) rfl a5 (fun _ _ _ h=>CV h) fun K0 q5=>(AA (CI U26_ rfl rfl q5 fun f6 c3=>(?_))))))))
 have:=c3.len_le
 refine AA (JV [f6] _ LG rfl (BW 8 Try.func67 rfl rfl oT (fun K1=>AF (AB kR (AA (AE (nS) rfl (AG (AC (AF (AF (AB kR (AA (AD (f6) rfl (AA (KU U26_ rfl rfl c3 fun d9 o1=>(AG (AC (AJ (d9) rfl rfl (fun e0=>?_) (fun e0=>?_)))))))))))))))))) (fun _ _ h=>h))
 ·have E3:d9=true:=by simpa using e0
  refine AF (AB kR (AA (AE (nS) rfl (AG (AC (AM (AP (AZ rfl (CN rfl rfl rfl) (?_)))))))))
  have e6:c.recs=[]:=o1 aS
  have E4:BL Enc.recovery z2 ((a3 :: (a0 :: []))++O) (.slice none 0 0) (c.recs):=by rw [e6];exact BL.nil _ _ _
  refine Exists.intro _ (And.intro rfl (AA (AD (vI (c.recs.length:Int)) rfl (AA (AD (vI day) rfl (AA (DN (l:=[(0, .tmp 47),(1, .tmp 48),(2, .const (vI 0))]) pl_68 OZ rfl [(0,vI (c.recs.length:Int),[vI (c.recs.length:Int)]),(1,vI day,[vI day]),(2,vI 0,[vI 0])] [vI (c.recs.length:Int),vI day,vI 0,nS,nS] rfl ⟨_,rfl,rfl,oT,⟨_,rfl,rfl,oT,⟨_,rfl,rfl,oT,rfl⟩⟩⟩ (AA (KH (E:=Enc.recovery) (xs:=[.tmp 49]) U26_ GK OZ (by decide) [.agg #[vI (c.recs.length:Int),vI day,vI 0,nS,nS]] [[vI (c.recs.length:Int),vI day,vI 0,nS,nS]] [(⟨(c.recs.length:Int),day,(0:Int),[],[]⟩:Recovery)] rfl rfl rfl (Parts.cons rfl ⟨.slice none 0 0, .slice none 0 0,rfl,(BL.nil _ _ _),(BL.nil _ _ _)⟩ (Parts.nil _ _ _)) oT m0 fun K2 K3 z4 z5 m2 h9=>(?_))))))))))
  have a2:=a2.mv z5
  have a9:=a9.keep m2 (by simp)
  have a6:=a6.keep m2 (by simp)
  have:=h9.len_le
  refine AA (DI (v:=.slice none 0 0) (E:=Enc.recovery) (l:=c.recs) (m:=[(⟨(c.recs.length:Int),day,(0:Int),[],[]⟩:Recovery)]) U26_ VN rfl (by decide) rfl rfl (by rw [e6];exact DX.nil Enc.recovery 68 _ _ _) h9 (fun _ hb=>.inl hb) (by intro b hb;simp [Value.ownBlock] at hb) (by simp;omega) (by simp [maxLen];omega) z4 fun c0 K4 m3 E5 i0 e7 z6 z7 z8 b6=>(?_))
  have i1:∀ b,c0.ownBlock=some b→b≠a0:=fun b hb=>by rcases i0 with e1|e1 <;> rw [e1] at hb <;> first|(simp [Value.ownBlock] at hb;done)|(cases hb;have:=a9.lt;omega)
  have E6:∀ b,c0.ownBlock=some b→b≠a3:=fun b hb=>by rcases i0 with e1|e1 <;> rw [e1] at hb <;> first|(simp [Value.ownBlock] at hb;done)|(cases hb;have:=a6.lt;omega)
  have b2:a0∈m3:=e7 a0 (by repeat (constructor))
  have b3:a3∈m3:=e7 a3 (by repeat (constructor))
  have a2:=a2.mv z7
  have a9:=a9.keep z8 (by simp only [Option.mem_toList];(simp [Value.ownBlock];done))
  refine AA (AH 4 EF rfl (BZ (BY (c0) rfl rfl b6.oneCell YV (by repeat (assumption)) a9 oT z6 fun K5 z9 m4 A0 i2=>(?_))))
  have a2:=a2.mv m4
  have b6:=b6.mv m4 A0 (fun b hb=>AS (i1 b hb))
  refine AG (AC (AF (AB kR (AA (BI (vs:=[vI c.epoch,vI c.threshold,vI c.wait,b1,c0]) U28_ rfl BJ rfl i2 rfl (AA (AD (vI (c.recs.length:Int)) rfl (BZ (BE (vs:=[vI c.epoch,vI c.threshold,vI c.wait,b1,c0]) (.agg #[vI c.epoch,vI c.threshold,vI c.wait,b1,c0]) rfl rfl rfl BJ (fun u hu=>by simp only [List.mem_cons,List.not_mem_nil,or_false] at hu;rcases hu with rfl|rfl|rfl|rfl|rfl <;> first|rfl|exact a2.oneCell|exact b6.oneCell) (by repeat (assumption)) i2 oT z9 fun K6 m5 m6 A1 q6=>(?_))))))))))
  have a2:=a2.mv m6
  have b6:=b6.mv m6 A1 (fun b hb=>AS (i1 b hb))
  refine AA (AE (vI (c.recs.length:Int)) rfl (AA (AE (vI 0) rfl (AG (AC (AM (AZ rfl (IR rfl (EE (vs:=[vI c.epoch,vI c.threshold,vI c.wait,b1,c0]) rfl U28_ rfl BJ rfl q6 rfl) (EK rfl rfl) (EK rfl rfl)) (?_))))))))
  have A2:((CQ c day).1)=(⟨c.epoch,c.threshold,c.wait,c.guardians,c.recs++([(⟨(c.recs.length:Int),day,(0:Int),[],[]⟩:Recovery)])⟩:Circle):=by exact congrArg (fun p=>p.1) (IN aS (by rw [hlr];assumption) (by rw [hlr];decide) aS)
  have A3:((CQ c day).2.1)=(c.recs.length:Int):=by exact congrArg (fun p=>p.2.1) (IN aS (by rw [hlr];assumption) (by rw [hlr];decide) aS)
  have A4:((CQ c day).2.2)=(0:Int):=by exact congrArg (fun p=>p.2.2) (IN aS (by rw [hlr];assumption) (by rw [hlr];decide) aS)
  exact ⟨_,rfl,m5.keep,by rw [A2,A3,A4];exact ⟨[vI c.epoch,vI c.threshold,vI c.wait,b1,c0],rfl,⟨_,_,rfl,a2.out,(b6.pub m5)⟩⟩⟩
 have E7:d9=false:=by simpa using e0
 refine AT (AC (AF (AB kR (AA (IA (E:=Enc.recovery) (xs:=[]) U26_ GK OZ (by decide) [] [] [] rfl rfl rfl (Parts.nil _ _ _) oT m0 fun f7 A5 K7 A6 c7 A7 m7 m9 q7=>(?_))))))
 have i3:∀ b,f7.ownBlock=some b→b≠a0:=fun b hb=>by have:=a9.lt;rw [c7] at hb;cases hb;omega
 have i4:∀ b,f7.ownBlock=some b→b≠a3:=fun b hb=>by have:=a6.lt;rw [c7] at hb;cases hb;omega
 have q8:∀ b,f7.ownBlock=some b→b∈(A5 :: (a3 :: (a0 :: []))):=fun b hb=>by rw [c7] at hb;cases hb;simp
 clear A6 c7
 have c3:=c3.mv m7
 have a2:=a2.mv m7
 have a9:=a9.keep m9 (by simp)
 have a6:=a6.keep m9 (by simp)
 refine AA (AD (f6) rfl (AA (DI (E:=Enc.recovery) (l:=[]) (m:=c.recs) U26_ VN rfl (by decide) rfl rfl q7 c3 (fun _ hb=>.inl hb) q8 (by simp;omega) (by simp [maxLen];omega) A7 fun f8 K8 n2 q9 i5 e8 A8 A9 n3 c8=>(?_))))
 rw [List.nil_append] at c8
 have i6:∀ b,f8.ownBlock=some b→b≠a0:=fun b hb=>by rcases i5 with e1|e1 <;> rw [e1] at hb <;> first|(cases hb;have:=a9.lt;omega)|(exact i3 b hb)
 have r0:∀ b,f8.ownBlock=some b→b≠a3:=fun b hb=>by rcases i5 with e1|e1 <;> rw [e1] at hb <;> first|(cases hb;have:=a6.lt;omega)|(exact i4 b hb)
 have b2:a0∈n2:=e8 a0 (by repeat (constructor))
 have b3:a3∈n2:=e8 a3 (by repeat (constructor))
 have a2:=a2.mv A9
 have a9:=a9.keep n3 (by simp only [Option.mem_toList];exact fun e=>absurd rfl (i3 _ e))
 have a6:=a6.keep n3 (by simp only [Option.mem_toList];exact fun e=>absurd rfl (i4 _ e))
 refine AA (AE (f8) rfl (AG (AC (AM (AZ rfl (CN rfl rfl rfl) (Exists.intro _ (And.intro rfl (AA (AD (vI (c.recs.length:Int)) rfl (AA (AD (vI day) rfl (AA (DN (l:=[(0, .tmp 47),(1, .tmp 48),(2, .const (vI 0))]) pl_68 OZ rfl [(0,vI (c.recs.length:Int),[vI (c.recs.length:Int)]),(1,vI day,[vI day]),(2,vI 0,[vI 0])] [vI (c.recs.length:Int),vI day,vI 0,nS,nS] rfl ⟨_,rfl,rfl,oT,⟨_,rfl,rfl,oT,⟨_,rfl,rfl,oT,rfl⟩⟩⟩ (AA (KH (E:=Enc.recovery) (xs:=[.tmp 49]) U26_ GK OZ (by decide) [.agg #[vI (c.recs.length:Int),vI day,vI 0,nS,nS]] [[vI (c.recs.length:Int),vI day,vI 0,nS,nS]] [(⟨(c.recs.length:Int),day,(0:Int),[],[]⟩:Recovery)] rfl rfl rfl (Parts.cons rfl ⟨.slice none 0 0, .slice none 0 0,rfl,(BL.nil _ _ _),(BL.nil _ _ _)⟩ (Parts.nil _ _ _)) oT A8 fun K9 L0 B0 n4 f9 i7=>(?_))))))))))))))))
 have a2:=a2.mv n4
 have c8:=c8.mv n4 f9 (by simp)
 have a9:=a9.keep f9 (by simp)
 have a6:=a6.keep f9 (by simp)
 have:=i7.len_le
 refine AA (DI (E:=Enc.recovery) (l:=c.recs) (m:=[(⟨(c.recs.length:Int),day,(0:Int),[],[]⟩:Recovery)]) U26_ VN rfl (by decide) rfl rfl c8 i7 (fun _ hb=>.inl hb) q9 (by simp;omega) (by simp [maxLen];omega) B0 fun c1 L1 n5 E8 i8 e9 B1 B2 B3 b7=>(?_))
 have i9:∀ b,c1.ownBlock=some b→b≠a0:=fun b hb=>by rcases i8 with e1|e1 <;> rw [e1] at hb <;> first|(cases hb;have:=a9.lt;omega)|(exact i6 b hb)
 have E9:∀ b,c1.ownBlock=some b→b≠a3:=fun b hb=>by rcases i8 with e1|e1 <;> rw [e1] at hb <;> first|(cases hb;have:=a6.lt;omega)|(exact r0 b hb)
 have b2:a0∈n5:=e9 a0 (by repeat (assumption))
 have b3:a3∈n5:=e9 a3 (by repeat (assumption))
 have a2:=a2.mv B2
 have a9:=a9.keep B3 (by simp only [Option.mem_toList];exact fun e=>absurd rfl (i6 _ e))
 refine AA (AH 4 EF rfl (BZ (BY (c1) rfl rfl b7.oneCell YV (by repeat (assumption)) a9 oT B1 fun L2 B4 n6 B5 j0=>(?_))))
 have a2:=a2.mv n6
 have b7:=b7.mv n6 B5 (fun b hb=>AS (i9 b hb))
 refine AG (AC (AF (AB kR (AA (BI (vs:=[vI c.epoch,vI c.threshold,vI c.wait,b1,c1]) U28_ rfl BJ rfl j0 rfl (AA (AD (vI (c.recs.length:Int)) rfl (BZ (BE (vs:=[vI c.epoch,vI c.threshold,vI c.wait,b1,c1]) (.agg #[vI c.epoch,vI c.threshold,vI c.wait,b1,c1]) rfl rfl rfl BJ (fun u hu=>by simp only [List.mem_cons,List.not_mem_nil,or_false] at hu;rcases hu with rfl|rfl|rfl|rfl|rfl <;> first|rfl|exact a2.oneCell|exact b7.oneCell) (by repeat (assumption)) j0 oT B4 fun L3 n7 n9 B6 r4=>(?_))))))))))
 have a2:=a2.mv n9
 have b7:=b7.mv n9 B6 (fun b hb=>AS (i9 b hb))
 refine AA (AE (vI (c.recs.length:Int)) rfl (AA (AE (vI 0) rfl (AG (AC (AM (AZ rfl (IR rfl (EE (vs:=[vI c.epoch,vI c.threshold,vI c.wait,b1,c1]) rfl U28_ rfl BJ rfl r4 rfl) (EK rfl rfl) (EK rfl rfl)) (?_))))))))
 have B7:((CQ c day).1)=(⟨c.epoch,c.threshold,c.wait,c.guardians,c.recs++([(⟨(c.recs.length:Int),day,(0:Int),[],[]⟩:Recovery)])⟩:Circle):=by exact congrArg (fun p=>p.1) (IN aS (by rw [hlr];assumption) (by rw [hlr];decide) aS)
 have B8:((CQ c day).2.1)=(c.recs.length:Int):=by exact congrArg (fun p=>p.2.1) (IN aS (by rw [hlr];assumption) (by rw [hlr];decide) aS)
 have B9:((CQ c day).2.2)=(0:Int):=by exact congrArg (fun p=>p.2.2) (IN aS (by rw [hlr];assumption) (by rw [hlr];decide) aS)
 exact ⟨_,rfl,n7.keep,by rw [B7,B8,B9];exact ⟨[vI c.epoch,vI c.threshold,vI c.wait,b1,c1],rfl,⟨_,_,rfl,a2.out,(b7.pub n7)⟩⟩⟩
set_option maxHeartbeats 4000000 in
set_option maxRecDepth 100000 in
theorem c_approved {O:List Nat} (c_cs:List Value) (c:Circle) (r_a:Addr) (r:Recovery) (w:World) (b1:Enc.circle.rd w O c_cs c) (a2:PT Enc.recovery w O (.pointer (some r_a)) r) (hO:∀ b∈O,b<w.heap.size):CM Try.prog 85 [.agg c_cs.toArray, .pointer (some r_a)] w (fun v _=>v = .bool (MY c r)):= by
 have b1:Enc.circle.rd w ([]++O) c_cs c:=b1
 have a2:PT Enc.recovery w ([]++O) (.pointer (some r_a)) r:=a2
 have s0:St w O w []:=St.start hO
 refine BP 29 Try.func85 rfl rfl oT (fun F0=>AF (AB kR (AA (EC (E:=Enc.circle) (vA c_cs.toArray) (c_cs) c rfl rfl b1 s0 fun a7 c6 b8 b9 c7 a1=>(?_)))))
 have a2:=a2.mv b9
 refine AA (AE (vO false) rfl (AG (AC (AF (AB kR (AA (AE (vI 0) rfl (AG (AC (AF (AF (AB kR (AA (BO 3 LK (c.guardians) rfl a1 (fun _ _ _ h=>HS h) fun c8 b2=>(AA (CI U22_ rfl rfl b2 fun a8 a0=>(?_)))))))))))))))))
 have:=a0.len_le
 refine AA (CK U22_ rfl a0 (AA (AD (vI 0) rfl (AG (AC (BQ (DU (fun mI FI wI=>∃ (k:Nat) (B:List Nat),k≤c.guardians.length∧mI=c.guardians.length - k∧(∃ F1,FI=GN F1 [(1,vP (some r_a)),(2,vP (some a7)),(5,vI ((HV r.approved c.guardians k:Nat):Int)),(9,a8),(10,vI (c.guardians.length:Int)),(11,vI ((k:Nat):Int)),(29,undef)])∧St w O wI B∧PT Enc.recovery wI (B++O) (.pointer (some r_a)) (r)∧PT Enc.circle wI (B++O) (.pointer (some a7)) (c)∧BL Enc.int wI (B++O) (a8) (c.guardians)) (c.guardians.length - (0)) ?_ ?_)))))))
 ·exact ⟨(0),[],oM,rfl,⟨_,BD _ ⟨rfl,rfl,(by rfl),rfl,rfl,(by rfl),rfl,trivial⟩⟩,b8,a2,a1,a0⟩
 intro d5 F c1 hI
 clear a2 a1 a0
 obtain ⟨k,b3,hr0_0,d6,⟨d7,rfl⟩,b4,a2,a1,a0⟩:=hI
 have hcm:=countM_le r.approved c.guardians k
 refine AF (AB kR (AA (EB .i64 ((k:Nat):Int) (c.guardians.length:Int) rfl rfl (AG (AC (AF (AJ (decide (((k:Nat):Int)<(c.guardians.length:Int))) rfl rfl (fun a3=>?_) (fun a3=>?_))))))))
 ·have c2:((k:Nat):Int)<(c.guardians.length:Int):=by simpa using a3
  refine AT (AC (AF (BQ (AF (AB kR (AA (DO U22_ OB .i64 ((k:Nat):Int) k rfl rfl rfl a0 oM fun c9 b5=>(AA (CG U3_ rfl rfl b5 (AA (AE (vI (c.guardians[k]!)) rfl (AG (AC (AF (AB kR (AA (AD (vP (some r_a)) rfl (AA (AR r_a rfl (AA (o_field0 GC rfl (AA (BO 3 UV (r.approved) rfl a2 (fun _ _ _ h=>PC h) fun d0 b6=>(AA (CI U22_ rfl rfl b6 fun a9 a6=>(?_))))))))))))))))))))))))))
  have:=a6.len_le
  refine AA (AD (vI (c.guardians[k]!)) rfl (AA (BF (vs:=[a9,vI (c.guardians[k]!)]) enter_75 (XQ (O:=b3++O) a9 r.approved (c.guardians[k]!) c1 a6 b4.lt) rfl b4 fun d1 d2 b0 a5 d3 c0=>(?_))))
  obtain rfl:=c0
  have a2:=a2.mv a5
  have a1:=a1.mv a5
  have a0:=a0.mv a5
  refine AG (AC (AJ (r.approved.contains (c.guardians[k]!)) rfl rfl (fun a4=>?_) (fun a4=>?_)))
  ·have c3:(r.approved.contains (c.guardians[k]!))=true:=by simpa using a4
   refine AB kR (AA (AD (vI ((HV r.approved c.guardians k:Nat):Int)) rfl (AA (DR .i64 ((HV r.approved c.guardians k:Nat):Int) (1:Int) (((HV r.approved c.guardians k+1:Nat):Int)) rfl rfl (GZ oM oM) (AA (AE (vI ((HV r.approved c.guardians k+1:Nat):Int)) rfl (AG (CB (AC (AB kR (AA (DR .i64 ((k:Nat):Int) (1:Int) (((k+1:Nat):Int)) rfl rfl (GZ oM oM) (AA (AD (vI ((k+1:Nat):Int)) rfl (AG (AC (?_)))))))))))))))))
   exact ⟨_,oM,(k+1),b3,oM,rfl,⟨_,BD _ ⟨rfl,rfl,(by exact congrArg (Value.int _) (by ((rw [VG oM,if_pos aS])))),rfl,rfl,(by rfl),rfl,trivial⟩⟩,b0,a2,a1,a0⟩
  have c4:(r.approved.contains (c.guardians[k]!))=false:=by simpa using a4
  refine AT (CB (AC (AB kR (AA (DR .i64 ((k:Nat):Int) (1:Int) (((k+1:Nat):Int)) rfl rfl (GZ oM oM) (AA (AD (vI ((k+1:Nat):Int)) rfl (AG (AC (?_))))))))))
  exact ⟨_,oM,(k+1),b3,oM,rfl,⟨_,BD _ ⟨rfl,rfl,(by exact congrArg (Value.int _) (by ((rw [VG oM,if_neg (by rw [Bool.not_eq_true];assumption)];try rfl)))),rfl,rfl,(by rfl),rfl,trivial⟩⟩,b0,a2,a1,a0⟩
 have c5:(c.guardians.length:Int)≤((k:Nat):Int):=by simpa using a3
 obtain rfl:k=c.guardians.length:=by omega
 refine DW (CL (CL (DK (AC (AF (AB kR (AA (AD (vI ((HV r.approved c.guardians c.guardians.length:Nat):Int)) rfl (AA (BO 1 KK (c.threshold) rfl a1 (fun _ _ _ h=>IV h) fun d4 b7=>(AA (CG U3_ rfl rfl b7 (AA (ID .i64 ((HV r.approved c.guardians c.guardians.length:Nat):Int) c.threshold rfl rfl (AA (AE (vO (decide (c.threshold≤((HV r.approved c.guardians c.guardians.length:Nat):Int)))) rfl (AG (AC (AM (AZ rfl (CN rfl rfl rfl) (?_)))))))))))))))))))))
 have e:(MY c r)=(decide (c.threshold≤((HV r.approved c.guardians c.guardians.length:Nat):Int))):=rfl
 exact ⟨_,rfl,b4.keep,(by exact congrArg vO e.symm)⟩
open Go.Fw Go.RowKit
set_option maxHeartbeats 4000000 in
set_option maxRecDepth 100000 in
theorem ZL {O:List Nat} (a:UInt8) (b:UInt8) (w:World) (hO:∀ b∈O,b<w.heap.size):CM Try.prog 93 [vB a,vB b] w (fun v _=>v=vB (CJ a b)):= by
 have s0:St w O w []:=St.start hO
 refine BP 46 Try.func93 rfl rfl oT (fun F0=>AF (AB kR (AA (AE (vB (0:UInt8)) rfl (AG (AC (AF (AB kR (AA (CR [vB (0:UInt8),vB (0:UInt8),vB (0:UInt8),vB (0:UInt8),vB (0:UInt8),vB (0:UInt8),vB (0:UInt8),vB (0:UInt8)] z_134 rfl s0 fun a3 b3 b4 b5 c7 c8 a4=>(?_)))))))))))
 clear b4
 have a4:FT b3 a3 134 ((List.replicate 8 (0:UInt8)).map vB):=a4
 refine AG (AC (AF (AB kR (AA (AD (vB a) rfl (AA (PI U134_ JD .i64 (0:Int) 0 rfl rfl rfl oM (BZ (BY (vB a) rfl rfl rfl JD (by repeat (constructor)) a4 (by rw [List.length_map,show (List.replicate 8 (0:UInt8)).length=8 from by simp [HM]];omega) b5 fun c9 b6 d0 d1 a7=>(?_))))))))))
 rw [arr_set] at a7
 refine AG (AC (AF (AF (AB kR (AA (AE (vI 1) rfl (AG (AC (BQ (DU (fun mI FI wI=>∃ (k:Nat) (B:List Nat),0<k∧k≤8∧mI=8 - k∧(∃ F1,FI=GN F1 [(1,vB b),(4,vB (0:UInt8)),(5,vP (some ⟨a3,0,none⟩)),(6,vI ((k:Nat):Int)),(46,undef)])∧St w O wI B∧FT wI a3 134 ((ER a k).map vB)∧a3∈B) (8 - (1)) ?_ ?_))))))))))
 ·exact ⟨(1),(a3 :: []),oM,oM,rfl,⟨_,BD _ ⟨rfl,rfl,rfl,(by rfl),rfl,trivial⟩⟩,b6,(by rw [show ER a (1)=(List.replicate 8 (0:UInt8)).set 0 a from by rfl];exact a7),(by (repeat (exact List.mem_cons_self)))⟩
 intro d2 F b7 hI
 obtain ⟨k,a9,hr0_0,hr0_1,d3,⟨d4,rfl⟩,b0,hbx_0_b74,b2⟩:=hI
 refine AF (AF (AB kR (AA (AD (vI ((k:Nat):Int)) rfl (AA (EB .i64 ((k:Nat):Int) (8:Int) rfl rfl (AG (AC (AJ (decide (((k:Nat):Int)<(8:Int))) rfl rfl (fun a5=>?_) (fun a5=>?_))))))))))
 ·have c5:((k:Nat):Int)<(8:Int):=by simpa using a5
  refine AT (AC (AF (BQ (AF (AB kR (AA (AD (vI ((k:Nat):Int)) rfl (AA (KI .i64 ((k:Nat):Int) (1:Int) (((k - 1:Nat):Int)) rfl rfl (GZ oM oM) (AA (PI U134_ JD .i64 ((k - 1:Nat):Int) (k - 1) rfl rfl rfl oM (AA (AK U5_ rfl (vB (ER a k)[k - 1]!) rfl hbx_0_b74 (arr_get (by rw [show (ER a k).length=8 from by simp [HM]];omega)) (AA (AE (vB ((ER a k)[k - 1]!)) rfl (AG (AC (AF (AB kR (AA (AD (vI ((k:Nat):Int)) rfl (AA (AD (vB ((ER a k)[k - 1]!)) rfl (AA (o_shl8 .u64 ((ER a k)[k - 1]!) 1 oM rfl rfl (AA (PI U134_ JD .i64 ((k:Nat):Int) k rfl rfl rfl oM (BZ (BY (vB (((ER a k)[k - 1]!) <<< UInt8.ofNat 1)) rfl rfl rfl JD (by repeat (assumption)) hbx_0_b74 (by rw [List.length_map,show (ER a k).length=8 from by simp [HM]];omega) b0 fun d5 b1 d6 d7 a0=>(?_))))))))))))))))))))))))))))))
  rw [arr_set] at a0
  refine AG (AC (AF (AB kR (AA (AD (vB ((ER a k)[k - 1]!)) rfl (AA (ID .u8 (((ER a k)[k - 1]!).toNat:Int) ((128:UInt8).toNat:Int) rfl rfl (AG (AC (AJ (decide (((128:UInt8).toNat:Int)≤(((ER a k)[k - 1]!).toNat:Int))) rfl rfl (fun a6=>?_) (fun a6=>?_)))))))))))
  ·have c6:((128:UInt8).toNat:Int)≤(((ER a k)[k - 1]!).toNat:Int):=by simpa using a6
   refine AB kR (AA (AD (vI ((k:Nat):Int)) rfl (AA (PI U134_ JD .i64 ((k:Nat):Int) k rfl rfl rfl oM (AA (AK U5_ rfl (vB ((ER a k).set k (((ER a k)[k - 1]!) <<< UInt8.ofNat 1))[k]!) rfl a0 (arr_get (by rw [show ((ER a k).set k (((ER a k)[k - 1]!) <<< UInt8.ofNat 1)).length=8 from by simp [HM]];omega)) (AA (PR (((ER a k).set k (((ER a k)[k - 1]!) <<< UInt8.ofNat 1))[k]!) (27:UInt8) rfl rfl (AA (PI U134_ JD .i64 ((k:Nat):Int) k rfl rfl rfl oM (BZ (BY (vB ((((ER a k).set k (((ER a k)[k - 1]!) <<< UInt8.ofNat 1))[k]!) ^^^ (27:UInt8))) rfl rfl rfl JD (by repeat (assumption)) a0 (by rw [List.length_map,show ((ER a k).set k (((ER a k)[k - 1]!) <<< UInt8.ofNat 1)).length=8 from by simp [HM]];omega) b1 fun d8 b8 d9 e0 a8=>(?_)))))))))))))
   rw [arr_set] at a8
   refine AG (CB (AC (AB kR (AA (AD (vI ((k:Nat):Int)) rfl (AA (DR .i64 ((k:Nat):Int) (1:Int) (((k+1:Nat):Int)) rfl rfl (GZ oM oM) (AA (AE (vI ((k+1:Nat):Int)) rfl (AG (AC (?_))))))))))))
   exact ⟨_,oM,(k+1),a9,oM,oM,rfl,⟨_,BD _ ⟨rfl,rfl,rfl,(by rfl),rfl,trivial⟩⟩,b8,(by rw [show ER a (k+1)=((ER a k).set k (((ER a k)[k - 1]!) <<< UInt8.ofNat 1)).set k ((((ER a k).set k (((ER a k)[k - 1]!) <<< UInt8.ofNat 1))[k]!) ^^^ (27:UInt8)) from by symm;exact xrow_hi a k oM oM aS];exact a8),aS⟩
  have b9:(((ER a k)[k - 1]!).toNat:Int)<((128:UInt8).toNat:Int):=by simpa using a6
  refine AT (CB (AC (AB kR (AA (AD (vI ((k:Nat):Int)) rfl (AA (DR .i64 ((k:Nat):Int) (1:Int) (((k+1:Nat):Int)) rfl rfl (GZ oM oM) (AA (AE (vI ((k+1:Nat):Int)) rfl (AG (AC (?_))))))))))))
  exact ⟨_,oM,(k+1),a9,oM,oM,rfl,⟨_,BD _ ⟨rfl,rfl,rfl,(by rfl),rfl,trivial⟩⟩,b1,(by rw [show ER a (k+1)=(ER a k).set k (((ER a k)[k - 1]!) <<< UInt8.ofNat 1) from by symm;exact xrow_lo a k oM oM aS];exact a0),aS⟩
 have c0:(8:Int)≤((k:Nat):Int):=by simpa using a5
 obtain rfl:k=8:=by omega
 refine DW (CL (CL (DK (AC (AF (AF (AB kR (AA (BI (vs:=(ER a 8).map vB) U134_ rfl (by rw [List.length_map,show (ER a 8).length=8 from by simp [HM]];exact s_134) rfl hbx_0_b74 (by rw [List.drop_zero,List.take_length]) (AA (AD (vI 0) rfl (AG (AC (BQ (DU (fun mI FI wI=>∃ (i:Nat),i≤8∧mI=8 - i∧(∃ F1,FI=GN F1 [(1,vB b),(4,vB (gm a b i)),(31,vA ((ER a 8).map vB).toArray),(32,vI ((i:Nat):Int)),(46,undef)])∧b7=wI) (8 - (0)) ?_ ?_)))))))))))))))
 ·exact ⟨(0),oM,rfl,⟨_,BD _ ⟨rfl,(congrArg vB (by rfl)),rfl,(by rfl),rfl,trivial⟩⟩,rfl⟩
 rintro e1 F e2 ⟨i,hr1_0,e3,⟨e4,rfl⟩,rfl⟩
 refine AF (AB kR (AA (EB .i64 ((i:Nat):Int) (8:Int) rfl rfl (AG (AC (AF (AJ (decide (((i:Nat):Int)<(8:Int))) rfl rfl (fun a1=>?_) (fun a1=>?_))))))))
 ·have c1:((i:Nat):Int)<(8:Int):=by simpa using a1
  refine AT (AC (AF (BQ (AF (AB kR (AA (AD (vI ((i:Nat):Int)) rfl (AA (o_indexV (cs:=(ER a 8).map vB) U134_ JD U5_ rfl .i64 ((i:Nat):Int) i (vB (ER a 8)[i]!) rfl rfl rfl oM (arr_at (by rw [show (ER a 8).length=8 from by simp [HM]];omega)) (AA (AE (vI ((i:Nat):Int)) rfl (AA (AE (vB ((ER a 8)[i]!)) rfl (AG (AC (AF (AB kR (AA (AD (vB b) rfl (AA (AD (vI ((i:Nat):Int)) rfl (AA (o_shr8 .i64 b i oM rfl rfl (AA (o_and8 (b >>> UInt8.ofNat i) (1:UInt8) rfl rfl (AA (PN ((b >>> UInt8.ofNat i) &&& (1:UInt8)) (1:UInt8) rfl rfl (AG (AC (AJ (((b >>> UInt8.ofNat i) &&& (1:UInt8)) == (1:UInt8)) rfl rfl (fun a2=>?_) (fun a2=>?_)))))))))))))))))))))))))))))))
  ·have c2:(b >>> UInt8.ofNat i) &&& (1:UInt8)=(1:UInt8):=by simpa using a2
   refine AB kR (AA (AD (vB (gm a b i)) rfl (AA (AD (vB ((ER a 8)[i]!)) rfl (AA (PR (gm a b i) ((ER a 8)[i]!) rfl rfl (AA (AE (vB ((gm a b i) ^^^ ((ER a 8)[i]!))) rfl (AG (CB (AC (AB kR (AA (DR .i64 ((i:Nat):Int) (1:Int) (((i+1:Nat):Int)) rfl rfl (GZ oM oM) (AA (AD (vI ((i+1:Nat):Int)) rfl (AG (AC (?_)))))))))))))))))))
   exact ⟨_,oM,(i+1),oM,rfl,⟨_,BD _ ⟨rfl,(congrArg vB (by (rw [xrow_at a 8 i oM oM];exact (gm_yes a b i aS).symm))),rfl,(by rfl),rfl,trivial⟩⟩,rfl⟩
  have c3:(b >>> UInt8.ofNat i) &&& (1:UInt8)≠(1:UInt8):=by simpa using a2
  refine AT (CB (AC (AB kR (AA (DR .i64 ((i:Nat):Int) (1:Int) (((i+1:Nat):Int)) rfl rfl (GZ oM oM) (AA (AD (vI ((i+1:Nat):Int)) rfl (AG (AC (?_))))))))))
  exact ⟨_,oM,(i+1),oM,rfl,⟨_,BD _ ⟨rfl,(congrArg vB (by exact (gm_no a b i aS).symm)),rfl,(by rfl),rfl,trivial⟩⟩,rfl⟩
 have c4:(8:Int)≤((i:Nat):Int):=by simpa using a1
 obtain rfl:i=8:=by omega
 refine DW (CL (CL (DK (AC (AF (AB kR (AA (AD (vB (gm a b 8)) rfl (AA (AE (vB (gm a b 8)) rfl (AG (AC (AM (AZ rfl (CN rfl rfl rfl) (?_)))))))))))))))
 have e:(CJ a b)=(gm a b 8):=rfl
 exact ⟨_,rfl,b0.keep,by rw [e];exact rfl⟩
open Go.Fw Go.RowKit
set_option maxHeartbeats 4000000 in
set_option maxRecDepth 100000 in
theorem c_eval {O:List Nat} (l_v:Value) (l:List UInt8) (x:UInt8) (w:World) (a0:BL Enc.u8 w O l_v l) (hO:∀ b∈O,b<w.heap.size):CM Try.prog 51 [l_v,vB x] w (fun v _=>v=vB (FU l x)):= by
 have b4:=a0.len_le
 have a0:BL Enc.u8 w ([]++O) l_v l:=a0
 have s0:St w O w []:=St.start hO
 refine BP 22 Try.func51 rfl rfl oT (fun F0=>AF (AB kR (AA (AE (vB (0:UInt8)) rfl (AG (AC (AF (AF (AB kR (AA (AD (l_v) rfl (AA (CK U23_ rfl a0 (AA (KI .i64 (l.length:Int) (1:Int) ((l.length:Int) - (1:Int)) rfl rfl (GZ oM oM) (AA (AE (vI ((l.length:Int) - (1:Int))) rfl (AG (AC (BQ (DU (fun mI FI wI=>∃ (k:Nat) (B:List Nat),k≤l.length∧mI=k∧(∃ F1,FI=GN F1 [(0,l_v),(1,vB x),(4,vB (FU (l.drop k) x)),(5,vI ((k:Int) - 1)),(22,undef)])∧St w O wI B∧BL Enc.u8 wI (B++O) (l_v) (l)) ((l.length)) ?_ ?_)))))))))))))))))))))
 ·exact ⟨(l.length),[],oM,rfl,⟨_,BD _ ⟨rfl,rfl,(congrArg vB (by rw [List.drop_length];rfl)),(by rfl),rfl,trivial⟩⟩,s0,a0⟩
 intro c0 F b3 hI
 clear a0
 obtain ⟨k,a2,hr0_0,c1,⟨c2,rfl⟩,a7,a0⟩:=hI
 refine AF (AF (AB kR (AA (AD (vI ((k:Int) - 1)) rfl (AA (ID .i64 ((k:Int) - 1) (0:Int) rfl rfl (AG (AC (AJ (decide ((0:Int)≤(k:Int) - 1)) rfl rfl (fun a1=>?_) (fun a1=>?_))))))))))
 ·have b5:(0:Int)≤(k:Int) - 1:=by simpa using a1
  obtain ⟨q,rfl⟩:∃ q,k=q+1:=⟨k - 1,by omega⟩
  rw [show ((q+1:Nat):Int) - 1=((q:Nat):Int) from by omega]
  refine AT (AC (AF (BQ (FM [] [] [[(0,1),(1,1),(3,1),(4,1),(5,1),(6,1),(2,2),(7,4),(8,1)]] (by intro c F d v w hd;(try simp only [GI,FG]);exact GJ c F d v w hd) kR kR kR fun a3 a4=>?_))))
  have a5:=a7.call a4
  have a8:Mv a2 b3 a2 a3:=Mv.of_keep a4
  have a0:=a0.mv a8
  refine ⟨?_,trivial⟩
  refine BS (AD (vB (FU (l.drop (q+1)) x)) rfl (EP (BS (AD (vB x) rfl (EP (BS (AD (l_v) rfl (EP (BS (AD (vI ((q:Nat):Int)) rfl (EP (BS (DO U23_ JD .i64 ((q:Nat):Int) q rfl rfl rfl a0 oM fun b7 a6=>(EP (BS (HW U5_ rfl rfl a6 (EP (FA (BF (vs:=[vB (FU (l.drop (q+1)) x),vB x]) NW (ZL (O:=a2++O) (FU (l.drop (q+1)) x) x a3 a5.lt) rfl a5 fun b8 b9 a9 b0 b1 b2=>(?_))))))))))))))))))))
  obtain rfl:=b2
  have a0:=a0.mv b0
  refine ⟨b1,?_⟩
  refine CA rfl (fun w4_ k4_=>PR (CJ (FU (l.drop (q+1)) x) x) (l[q]!) rfl rfl (⟨rfl,rfl⟩)) (BS (AE (vB ((CJ (FU (l.drop (q+1)) x) x) ^^^ (l[q]!))) rfl (EP (FH (CB (AC (AB kR (AA (AD (vI ((q:Nat):Int)) rfl (AA (KI .i64 ((q:Nat):Int) (1:Int) (((q:Nat):Int) - (1:Int)) rfl rfl (GZ oM oM) (AA (AE (vI (((q:Nat):Int) - (1:Int))) rfl (AG (AC (?_))))))))))))))))
  exact ⟨_,oM,(q),a2,oM,rfl,⟨_,BD _ ⟨rfl,rfl,(congrArg vB (by rw [pev_drop (l:=l) (k:=q) oM])),(by rfl),rfl,trivial⟩⟩,a9,a0⟩
 have b6:(k:Int) - 1<(0:Int):=by (have e:=a1;simp at e;omega)
 obtain rfl:k=0:=by omega
 refine DW (CL (CL (DK (AC (AF (AB kR (AA (AD (vB (FU (l.drop 0) x)) rfl (AA (AE (vB (FU (l.drop 0) x)) rfl (AG (AC (AM (AZ rfl (CN rfl rfl rfl) (?_)))))))))))))))
 have e:(FU l x)=(FU (l.drop 0) x):=rfl
 exact ⟨_,rfl,a7.keep,by rw [e];exact rfl⟩
set_option maxHeartbeats 4000000 in
set_option maxRecDepth 100000 in
theorem c_powers {O:List Nat} (a:UInt8) (w:World) (hO:∀ b∈O,b<w.heap.size):CM Try.prog 108 [vB a] w (fun v w'=>∃ (a0_0:Addr),v = .func (.func 117) #[] #[.pointer (some a0_0)]∧PT Enc.u8 w' (O) (.pointer (some a0_0)) (a)):= by
 have s0:St w O w []:=St.start hO
 refine BP 4 Try.func108 rfl rfl oT (fun F0=>AF (AB kR (AA (EC (E:=Enc.u8) (vB a) ([vB a]) a rfl rfl rfl s0 fun a0 a3 a2 a4 a5 a1=>(AA (AE (Value.nilFunc) rfl (AG (AC (AF (AB kR (AA (DF (first:=[]) (captured:=[.tmp 1]) [] [vP (some a0)] rfl rfl (AA (AE (vN (.func 117) #[] #[vP (some a0)]) rfl (AG (AC (AM (AZ rfl (CN rfl rfl rfl) (?_)))))))))))))))))))
 exact ⟨_,rfl,a2.keep,⟨_,rfl,(a1.sub (fun b hb=>.inl (List.mem_append_right _ hb)))⟩⟩
set_option maxHeartbeats 4000000 in
set_option maxRecDepth 100000 in
theorem it_powers (w:World) (L:List Nat) (a_a:Addr) (a:UInt8) (a0:PT Enc.u8 w L (.pointer (some a_a)) a) (hL:∀ b∈L,b<w.heap.size) (l:Nat) (N:Nat) (I:Nat→World→Prop) (J:World→Prop) (hI:∀ i w',I i w'→Keep L w w') (hst:∀ i w1 w2,I i w1→Keep [] w1 w2→I i w2) (hN:∀ i w',I i w'→i≤N) (hNb:N<4611686018427387904) (hR:∀ i w',I i w'→MV Try.prog l [vI ((i:Nat):Int),vB (LH a i)] w' (fun v w2=>(v = .bool true∧I (i+1) w2)∨(v = .bool false∧J w2))) (h0:I 0 w):Calls Try.prog 117 ([]++[vN (.yield l) #[] #[]]++[vP (some a_a)]).toArray w (fun e w'=>(∃ v,e = .returned v)∧(J w'∨∃ i,False∧I i w')):= by
 have a0:PT Enc.u8 w (L++[]) (.pointer (some a_a)) a:=by rw [List.append_nil];exact a0
 refine BW 14 Try.func117 rfl rfl oT (fun F0=>?_)
 have hk_w:=hI _ _ h0
 have a1:PT Enc.u8 w ([]++L) (.pointer (some a_a)) a:=by have h:=a0.mv (Mv.same hk_w);rw [List.append_nil] at h;exact h
 have a5:St w L w []:=St.start (fun b hb=>Nat.lt_of_lt_of_le (hL b hb) hk_w.size)
 refine AF (AB kR (AA (AE (vB (1:UInt8)) rfl (AG (AC (AF (AB kR (AA (AE (vI 0) rfl (AG (AC (BQ (DU (fun mI FI wI=>∃ k:Nat,mI=N+1 - k∧(∃ F1,FI=GN F1 [(0,vN (.yield l) #[] #[]),(1,vP (some a_a)),(3,vB (LH a k)),(4,vI ((k:Nat):Int)),(14,undef)])∧I (k) wI) (N+1 - (0)) ?_ ?_)))))))))))))
 ·exact ⟨(0),rfl,⟨_,BD _ ⟨rfl,rfl,(congrArg vB (by rfl)),(by rfl),rfl,trivial⟩⟩,h0⟩
 rintro ml F wl ⟨k,rfl,⟨Fl,rfl⟩,hIl⟩
 have hk_wl:=hI _ _ hIl
 have a1:PT Enc.u8 wl ([]++L) (.pointer (some a_a)) a:=by have h:=a0.mv (Mv.same hk_wl);rw [List.append_nil] at h;exact h
 have a6:St wl L wl []:=St.start (fun b hb=>Nat.lt_of_lt_of_le (hL b hb) hk_wl.size)
 have hkN:=hN _ _ hIl
 refine AF (AF (AB kR (AA (AD (vN (.yield l) #[] #[]) rfl (AA (AD (vI ((k:Nat):Int)) rfl (AA (AD (vB (LH a k)) rfl (wl_y l [vI ((k:Nat):Int),vB (LH a k)] rfl rfl ?_)))))))))
 refine MV.mono (hR k _ hIl) (fun v w2 h=>?_)
 obtain ⟨rfl,hI2⟩|⟨rfl,hJ⟩:=h
 ·have hk_w2:=hI _ _ hI2
  have a1:PT Enc.u8 w2 ([]++L) (.pointer (some a_a)) a:=by have h:=a0.mv (Mv.same hk_w2);rw [List.append_nil] at h;exact h
  have a2:St w2 L w2 []:=St.start (fun b hb=>Nat.lt_of_lt_of_le (hL b hb) hk_w2.size)
  refine AG (AC (AJ true rfl rfl (fun _=>AT (AC (AF (BQ (AB kR (AA (AD (vB (LH a k)) rfl (AA (HW U5_ rfl rfl a1 (AA (BF (vs:=[vB (LH a k),vB a]) NW (ZL (O:=[]++L) (LH a k) a w2 a2.lt) rfl a2 fun a7 a8 a9 b0 a3 a4=>(?_)))))))))))) (fun h=>by cases h)))
  obtain rfl:=a4
  have hI2:=hst _ _ _ hI2 a3
  refine AA (AE (vB (CJ (LH a k) a)) rfl (AG (CB (AC (AB kR (AA (AD (vI ((k:Nat):Int)) rfl (AA (DR .i64 ((k:Nat):Int) (1:Int) (((k+1:Nat):Int)) rfl rfl (GZ oM oM) (AA (AE (vI ((k+1:Nat):Int)) rfl (AG (AC (?_))))))))))))))
  exact ⟨_,oM,(k+1),rfl,⟨_,BD _ ⟨rfl,rfl,(congrArg vB (by rfl)),(by rfl),rfl,trivial⟩⟩,hI2⟩
 refine AG (AC (AJ false rfl rfl (fun h=>by cases h) (fun _=>DW (CL (CL (DK (FL rfl (HU rfl) (?_))))))))
 exact ⟨⟨_,rfl⟩, .inl hJ⟩
set_option maxHeartbeats 4000000 in
set_option maxRecDepth 100000 in
theorem c_inverse {O:List Nat} (a:UInt8) (w:World) (hO:∀ b∈O,b<w.heap.size):CM Try.prog 94 [vB a] w (fun v _=>v=vB (JW a)):= by
 have s0:St w O w []:=St.start hO
 refine YG 12 Try.func94 rfl rfl oT (fun F0=>AF (AB kR (AA (CR [vB (0:UInt8)] z_5 rfl s0 fun a5 d6 d7 c2 f4 f5 a8=>(?_)))))
 clear d7
 refine AG (AC (AF (AF (AB kR (AA (AD (vB a) rfl (AA (BF (vs:=[vB a]) enter_108 (c_powers (O:=(a5 :: [])++O) a d6 c2.lt) rfl c2 fun f6 d8 d9 f7 e0 e1=>(?_)))))))))
 obtain ⟨b3,rfl,a2⟩:=e1
 have a8:=a8.keep e0 (by simp)
 refine AG (AC (BQ (cw_range (fs:=[]) (lb:=[vP (some b3)]) rfl rfl enter_117 rfl (fun l_0 D_0 b1 R_0 _ hR_0 c1 d2 b9 a3 a4=>?_))))
 have a6:EY a5 D_0∧EY a5 l_0:=by show a5≠D_0∧a5≠l_0;have:=a8.lt;omega
 have c3:=d9.adopt2 b9 c1 oM a3.lt a4.lt
 have e2:Mv (a5 :: []) d8 (l_0 :: D_0 :: (a5 :: [])) b1:=Mv.adopt2 b9 c1 oM
 have a2:=a2.mv e2
 have a8:=a8.keep b9 (by simp)
 have hDl_0:EY D_0 l_0:=by show D_0≠l_0;omega
 clear d2
 have a0:Mv (l_0 :: D_0 :: (a5 :: [])) b1 (l_0 :: D_0 :: (a5 :: [])) b1:=Mv.refl _ _
 have hL_0:=c3.lt
 refine Calls.mono (it_powers b1 ((l_0 :: D_0 :: (a5 :: []))++O) b3 a a2 hL_0 l_0 (254) (fun (i:Nat) wI=>∃ (B:List Nat),i≤254∧St w O wI B∧PT Enc.u8 wI (B++O) (.pointer (some b3)) (a)∧Ob wI D_0 (.deferred (some []))∧Ob wI l_0 (R_0 .ready none)∧a5∈B∧D_0∈B∧l_0∈B∧Mv (l_0 :: D_0 :: (a5 :: [])) b1 B wI∧FT wI a5 5 [vB (0:UInt8)]) (fun wI=>(∃ (i:Nat) (B:List Nat),St w O wI B∧PT Enc.u8 wI (B++O) (.pointer (some b3)) (a)∧Ob wI D_0 (.deferred (some []))∧Ob wI l_0 (R_0 .done (some (.ret)))∧a5∈B∧D_0∈B∧l_0∈B∧Mv (l_0 :: D_0 :: (a5 :: [])) b1 B wI∧FT wI a5 5 [vB (JW a)])) ?_ ?_ ?_ oM ?_ ?_) (fun e w2 hJ=>⟨hJ.1,?_⟩)
 ·intro i w' hI
  clear a2 a3 a4 a0
  obtain ⟨Bl,hq0_0,sl,a2,a3,a4,a7,a9,b0,a0,a1⟩:=hI
  exact Keep.mono a0.keep (fun b hb=>.inl (List.mem_append_left _ hb))
 ·intro i wa wb hI kk
  clear a2 a3 a4 a0
  obtain ⟨Bl,hq0_0,sl,a2,a3,a4,a7,a9,b0,a0,a1⟩:=hI
  have f1:=sl.call kk
  have d5:Mv Bl wa Bl wb:=Mv.of_keep kk
  have a2:=a2.mv d5
  have a1:=a1.keep kk (by simp)
  have a3:=a3.keep kk (by simp)
  have a4:=a4.keep kk (by simp)
  have a0:=a0.trans d5
  exact ⟨Bl,hq0_0,f1,a2,a3,a4,(by repeat (assumption)),(by repeat (assumption)),(by repeat (assumption)),a0,a1⟩
 ·intro i w' hI
  clear a2 a3 a4 a0
  obtain ⟨Bl,hq0_0,sl,a2,a3,a4,a7,a9,b0,a0,a1⟩:=hI
  omega
 ·intro i wr hI
  clear a2 a3 a4 a0
  obtain ⟨Bl,hq0_0,sl,a2,a3,a4,a7,a9,b0,a0,a1⟩:=hI
  refine AAp hR_0 a4 rfl (by decide) (AF (AB kR (AA (AE (vI ((i:Nat):Int)) rfl (AG (AC (AB kR (AA (AE (vB (LH a i)) rfl (AG (AC (⟨a4,fun c4 b4 b2=>?_⟩))))))))))))
  have c5:=sl.keepB b4 (by repeat (assumption))
  have c6:Mv Bl wr Bl c4:=Mv.keepB b4 (by repeat (assumption))
  have a2:=a2.mv c6
  have a1:=a1.keep b4 (AS a6.2)
  have a3:=a3.keep b4 (AS hDl_0)
  have a0:=a0.trans c6
  refine BQ (AF (AB kR (AA (AD (vI ((i:Nat):Int)) rfl (AA (EZ .i64 ((i:Nat):Int) (254:Int) rfl rfl (AG (AC (AJ (((i:Nat):Int) == (254:Int)) rfl rfl (fun b5=>?_) (fun b5=>?_))))))))))
  ·have f2:((i:Nat):Int)=(254:Int):=by simpa using b5
   refine AF (AB kR (AA (AD (vB (LH a i)) rfl (BZ (BY (vB (LH a i)) rfl rfl rfl JD (by repeat (assumption)) a1 oT c5 fun e3 e4 c7 c8 b6=>(?_))))))
   have a2:=a2.mv c7
   have a3:=a3.keep c8 (AS (Ne.symm a6.1))
   have b2:=b2.keep c8 (AS (Ne.symm a6.2))
   have a0:=a0.trans c7
   refine AG (AC (AM (CE (round_r b2 (fun e5 b7 d3=>?_)))))
   have e6:=e4.keepB b7 (by repeat (assumption))
   have c9:Mv Bl e3 Bl e5:=Mv.keepB b7 (by repeat (assumption))
   have a2:=a2.mv c9
   have b6:=b6.keep b7 (AS a6.2)
   have a3:=a3.keep b7 (AS hDl_0)
   have a0:=a0.trans c9
   have a4:=d3
   refine .inr ⟨rfl,?_⟩
   exact ⟨i,Bl,e6,a2,a3,a4,(by repeat (assumption)),(by repeat (assumption)),(by repeat (assumption)),a0,(by rw [show ([vB (JW a)]:List Value)=[vB (LH a i)] from by rw [ginv_at a i oM]];exact b6)⟩
  have f3:((i:Nat):Int)≠(254:Int):=by simpa using b5
  refine AT (CB (round_n b2 (fun e7 b8 d4=>?_)))
  have e8:=c5.keepB b8 (by repeat (assumption))
  have d0:Mv Bl c4 Bl e7:=Mv.keepB b8 (by repeat (assumption))
  have a2:=a2.mv d0
  have a1:=a1.keep b8 (AS a6.2)
  have a3:=a3.keep b8 (AS hDl_0)
  have a0:=a0.trans d0
  have a4:=d4
  refine .inl ⟨rfl,?_⟩
  exact ⟨Bl,oM,e8,a2,a3,a4,(by repeat (assumption)),(by repeat (assumption)),(by repeat (assumption)),a0,a1⟩
 ·exact ⟨(l_0 :: D_0 :: (a5 :: [])),oM,c3,a2,a3,a4,(by repeat (constructor)),(by repeat (constructor)),(by repeat (constructor)),a0,a8⟩
 obtain ⟨_,hJ⟩:=hJ
 clear a2 a3 a4 a0
 rcases hJ with (hJ)|⟨i,hi,hJ⟩
 ·obtain ⟨i,Bl,sl,a2,a3,a4,a7,a9,b0,a0,a1⟩:=hJ
  refine ⟨.done,(some (.ret)),by simp,a4,fun f8 c0=>?_⟩
  have e9:=sl.keepB c0 (by repeat (assumption))
  have a1:=a1.keep c0 (AS a6.2)
  have a3:=a3.keep c0 (AS hDl_0)
  refine AM (CE (AP (endM_rm rfl a3 (fun f9 d1=>?_))))
  have f0:=e9.keepB d1 (by repeat (assumption))
  have a1:=a1.keep d1 (AS a6.1)
  refine ⟨_,resc rfl rfl U5_ rfl rfl a1 rfl,?_⟩
  exact ⟨_,rfl,f0.keep,rfl⟩
 exact hi.elim
open Go.Fw Go.RowKit
set_option maxHeartbeats 4000000 in
set_option maxRecDepth 100000 in
theorem c_wrong {O:List Nat} (xs_v:Value) (xs:List UInt8) (ys_v:Value) (ys:List UInt8) (w:World) (a0:BL Enc.u8 w O xs_v xs) (a2:BL Enc.u8 w O ys_v ys) (hO:∀ b∈O,b<w.heap.size):CM Try.prog 91 [xs_v,ys_v] w (fun v _=>v = .bool (GQ xs ys)):= by
 have c9:=a0.len_le
 have a0:BL Enc.u8 w ([]++O) xs_v xs:=a0
 have d0:=a2.len_le
 have a2:BL Enc.u8 w ([]++O) ys_v ys:=a2
 have s0:St w O w []:=St.start hO
 refine BP 26 Try.func91 rfl rfl oT (fun F0=>AF (AB kR (AA (AE (vO false) rfl (AG (AC (AF (AB kR (AA (AAl s0 fun a4 d8 b8 b9 b0 d9 a5=>(?_)))))))))))
 clear b8
 have a0:=a0.mv b0
 have a2:=a2.mv b0
 refine AA (CR [.map none] z_132 rfl b9 fun a3 e0 c0 c1 b1 c2 b5=>(?_))
 have a9:EY a4 a3:=by show a4≠a3;have:=a5.lt;omega
 clear c0
 have a0:=a0.mv b1
 have a2:=a2.mv b1
 have a5:=a5.keep c2 (by simp)
 refine BZ (BY (Value.map (some a4)) rfl rfl rfl s_132 (by repeat (constructor)) b5 oT c1 fun e1 b2 b3 c3 a1=>(?_))
 have a0:=a0.mv b3
 have a2:=a2.mv b3
 have a5:=a5.keep c3 (AS a9)
 refine AG (AC (AF (AB kR (AA (DF (first:=[]) (captured:=[.tmp 5]) [] [vP (some ⟨a3,0,none⟩)] rfl rfl (AA (AE (vN (.func 107) #[] #[vP (some ⟨a3,0,none⟩)]) rfl (AG (AC (AF (AF (AB kR (AA (AD (xs_v) rfl (AA (CK U23_ rfl a0 (AA (AD (ys_v) rfl (AA (CK U23_ rfl a2 (AA (DQ .i64 (xs.length:Int) (ys.length:Int) rfl rfl (AG (AC (AJ ((xs.length:Int) != (ys.length:Int)) rfl rfl (fun a6=>?_) (fun a6=>?_))))))))))))))))))))))))))
 ·have d2:(xs.length:Int)≠(ys.length:Int):=by simpa using a6
  refine AF (AB kR (AA (AE (vO true) rfl (AG (AC (AM (AP (AZ rfl (CN rfl rfl rfl) (?_)))))))))
  have e:(GQ xs ys)=true:=by simp [GQ, *]
  exact ⟨_,rfl,b2.keep,(by exact congrArg vO e.symm)⟩
 have d3:(xs.length:Int)=(ys.length:Int):=by simpa using a6
 refine AT (AC (AF (AF (AB kR (AA (AD (xs_v) rfl (AA (CK U23_ rfl a0 (AA (AD (vI 0) rfl (AG (AC (BQ (DU (fun mI FI wI=>∃ (k:Nat) (B:List Nat),k≤xs.length∧twice xs xs.length=GM (fun k=>if (xs.take k).contains xs[k]! then some true else none) false k (xs.length - k)∧mI=xs.length - k∧(∃ F1,FI=GN F1 [(6,vN (.func 107) #[] #[vP (some ⟨a3,0,none⟩)]),(16,xs_v),(17,vI (xs.length:Int)),(18,vI ((k:Nat):Int)),(26,undef)])∧St w O wI B∧BL Enc.u8 wI (B++O) (xs_v) (xs)∧YT wI a4 (xs.take k)∧a4∈B∧FT wI a3 132 [Value.map (some a4)]∧a3∈B) (xs.length - (0)) ?_ ?_))))))))))))))
 ·exact ⟨(0),(a3 :: (a4 :: [])),oM,rfl,rfl,⟨_,BD _ ⟨rfl,rfl,rfl,(by rfl),rfl,trivial⟩⟩,b2,a0,(by rw [show xs.take (0)=[] from rfl];exact a5),(by (repeat (first|exact List.mem_cons_self|apply List.mem_cons_of_mem))),a1,(by (repeat (exact List.mem_cons_self)))⟩
 intro e5 F e6 hI
 clear a0 a1
 obtain ⟨k,d1,hr0_0,hr0_1,e7,⟨e8,rfl⟩,b4,a0,hbx_0_b330,c4,a1,c5⟩:=hI
 refine AF (AB kR (AA (EB .i64 ((k:Nat):Int) (xs.length:Int) rfl rfl (AG (AC (AF (AJ (decide (((k:Nat):Int)<(xs.length:Int))) rfl rfl (fun a7=>?_) (fun a7=>?_))))))))
 ·have d4:((k:Nat):Int)<(xs.length:Int):=by simpa using a7
  refine AT (AC (AF (BQ (AF (AB kR (AA (DO U23_ JD .i64 ((k:Nat):Int) k rfl rfl rfl a0 oM fun e2 b6=>(AA (HW U5_ rfl rfl b6 (AA (AE (vB (xs[k]!)) rfl (AG (AC (AF (AB kR (AA (AD (vN (.func 107) #[] #[vP (some ⟨a3,0,none⟩)]) rfl (AA (AD (vB (xs[k]!)) rfl (AA (o_callv [] [vP (some ⟨a3,0,none⟩)] [vB (xs[k]!)] _ enter_107 rfl rfl (BW 9 Try.func107 rfl rfl oT (fun e3=>AF (AB kR (AA (AE (vO false) rfl (AG (AC (AF (AF (AB kR (AA (AK U132_ rfl (Value.map (some a4)) rfl a1 rfl (AA (AD (vB (xs[k]!)) rfl (AA (o_lookupB U132_ U5_ z_4 rfl rfl hbx_0_b330 (AG (AC (AJ ((xs.take k).contains (xs[k]!)) rfl rfl (fun a8=>?_) (fun a8=>?_)))))))))))))))))))) (fun _ _ h=>h))))))))))))))))))))))
  ·have d5:((xs.take k).contains (xs[k]!))=true:=by simpa using a8
   refine AF (AB kR (AA (AE (vO true) rfl (AG (AC (AM (AP (AZ rfl (CN rfl rfl rfl) (Exists.intro _ (And.intro rfl (AG (AC (AJ true rfl rfl (fun _=>AF (AB kR (AA (AE (vO true) rfl (AG (AC (AM (CE (AP (AP (CE (AP (AZ rfl (CN rfl rfl rfl) (?_)))))))))))))) (fun h=>by cases h))))))))))))))
   have e:(GQ xs ys)=true:=by simp only [GQ];rw [if_neg (by simpa using by assumption),hr0_1];exact ET oM (by simp_all)
   exact ⟨_,rfl,b4.keep,(by exact congrArg vO e.symm)⟩
  have d6:((xs.take k).contains (xs[k]!))=false:=by simpa using a8
  refine AT (AC (AF (AB kR (AA (AK U132_ rfl (Value.map (some a4)) rfl a1 rfl (AA (AD (vB (xs[k]!)) rfl (BZ (o_updateB U132_ U5_ rfl rfl rfl aS hbx_0_b330 (by repeat (assumption)) b4 fun e4 c6 c7 c8 b7=>(?_))))))))))
  have a0:=a0.mv c7
  have a1:=a1.keep c8 (AS (Ne.symm a9))
  refine AG (AC (AF (AB kR (AA (AE (vO false) rfl (AG (AC (AM (AZ rfl (CN rfl rfl rfl) (Exists.intro _ (And.intro rfl (AG (AC (AJ false rfl rfl (fun h=>by cases h) (fun _=>AT (CB (AC (AB kR (AA (DR .i64 ((k:Nat):Int) (1:Int) (((k+1:Nat):Int)) rfl rfl (GZ oM oM) (AA (AD (vI ((k+1:Nat):Int)) rfl (AG (AC (?_)))))))))))))))))))))))))
  exact ⟨_,oM,(k+1),d1,oM,(hr0_1.trans (IL oM (by simp_all))),rfl,⟨_,BD _ ⟨rfl,rfl,rfl,(by rfl),rfl,trivial⟩⟩,c6,a0,(by rw [show xs.take (k+1)=(xs.take k)++[xs[k]!] from take_snoc oM];exact b7),aS,a1,aS⟩
 have d7:(xs.length:Int)≤((k:Nat):Int):=by simpa using a7
 refine DW (CL (CL (DK (AC (AF (AB kR (AA (AE (vO false) rfl (AG (AC (AM (AZ rfl (CN rfl rfl rfl) (?_)))))))))))))
 have e:(GQ xs ys)=false:=by simp only [GQ];rw [if_neg (by simpa using by assumption),hr0_1];exact LD oM
 exact ⟨_,rfl,b4.keep,(by exact congrArg vO e.symm)⟩
set_option maxHeartbeats 4000000 in
set_option maxRecDepth 100000 in
theorem c_zeros {O:List Nat} (xs_v:Value) (xs:List UInt8) (w:World) (a0:BL Enc.u8 w O xs_v xs) (hpre0:xs.length<1000000) (hO:∀ b∈O,b<w.heap.size):CM Try.prog 92 [xs_v] w (fun v w'=>∃ (x0:Value),v=x0∧BL Enc.u8 w' (O) x0 (BU xs)):= by
 have f4:=a0.len_le
 have a0:BL Enc.u8 w ([]++O) xs_v xs:=a0
 have s0:St w O w []:=St.start hO
 refine BP 53 Try.func92 rfl rfl oT (fun F0=>AF (AB kR (AA (AE (nS) rfl (AG (AC (AF (AB kR (AA (AD (xs_v) rfl (AA (CK U23_ rfl a0 (AA (DR .i64 (xs.length:Int) (1:Int) (((xs.length+1:Nat):Int)) rfl rfl (GZ oM oM) (AA (XV (E:=Enc.u8) U23_ i_5 [vB (0:UInt8)] rfl rfl (by decide) (0:UInt8) (fun _ _=>rfl) .i64 .i64 (1:Int) ((xs.length+1:Nat):Int) 1 (xs.length+1) rfl rfl rfl rfl oM oM (by simp only [maxLen];omega) s0 fun a6 c0 g4 d5 b2 d6 d7 g5 b3=>(?_)))))))))))))))))
 have b4:∀ b,a6.ownBlock=some b→b∈(c0 :: []):=fun b hb=>by rw [b2] at hb;cases hb;simp
 clear d5 b2
 have a0:=a0.mv d7
 refine AA (AE (a6) rfl (AG (AC (AF (AB kR (AA (AD (a6) rfl (AA (EW U23_ JD .i64 (0:Int) 0 rfl rfl rfl b3 (by (simp only [List.length_set,List.length_append,List.length_cons,List.length_nil,List.length_replicate,HD,FV];omega)) fun g6 b5=>(BZ (JZ (1:UInt8) JD rfl rfl rfl b3 b5 (b4 _ b5) (by (simp only [List.length_set,List.length_append,List.length_cons,List.length_nil,List.length_replicate,HD,FV];omega)) rfl d6 fun g7 d8 d9 g8 c7=>(?_))))))))))))
 have a0:=a0.mv d9
 refine AG (AC (AF (AF (AB kR (AA (AD (xs_v) rfl (AA (CK U23_ rfl a0 (AA (AD (vI 0) rfl (AG (AC (BQ (DU (fun mI FI wI=>∃ (i:Nat) (a3:Value) (B:List Nat),i≤xs.length∧mI=xs.length - i∧(∃ F1,FI=GN F1 [(3,a3),(13,xs_v),(14,vI (xs.length:Int)),(15,vI ((i:Nat):Int)),(53,undef)])∧St w O wI B∧DX Enc.u8 5 w.heap.size (B++O) wI a3 (JH xs i)∧(∀ b,a3.ownBlock=some b→b∈B)∧BL Enc.u8 wI (B++O) (xs_v) (xs)) (xs.length - (0)) ?_ ?_))))))))))))))
 ·exact ⟨(0),a6,(c0 :: []),oM,rfl,⟨_,BD _ ⟨rfl,rfl,rfl,(by rfl),rfl,trivial⟩⟩,d8,(by rw [show JH xs (0)=(List.replicate 1 (0:UInt8)).set 0 (1:UInt8) from rfl];exact c7),b4,a0⟩
 intro i4 F i5 hI
 clear a0
 obtain ⟨i,a3,i6,hr0_0,i7,⟨i8,rfl⟩,c1,ho0_3,c8,a0⟩:=hI
 refine AF (AB kR (AA (EB .i64 ((i:Nat):Int) (xs.length:Int) rfl rfl (AG (AC (AF (AJ (decide (((i:Nat):Int)<(xs.length:Int))) rfl rfl (fun a7=>?_) (fun a7=>?_))))))))
 ·have f7:((i:Nat):Int)<(xs.length:Int):=by simpa using a7
  refine AT (AC (AF (BQ (AF (AB kR (AA (DO U23_ JD .i64 ((i:Nat):Int) i rfl rfl rfl a0 oM fun g9 c9=>(AA (HW U5_ rfl rfl c9 (AA (AE (vB (xs[i]!)) rfl (AG (AC (AF (AB kR (AA (AD (a3) rfl (AA (KH (E:=Enc.u8) (xs:=[.const (vB (0:UInt8))]) U23_ JD z_5 (by decide) [vB (0:UInt8)] [[vB (0:UInt8)]] [(0:UInt8)] rfl rfl rfl (Parts.cons rfl rfl (Parts.nil _ _ _)) oT c1 fun h0 h1 e0 c2 e1 b6=>(?_))))))))))))))))))))
  have ho0_3:=ho0_3.mv c2 e1 (by simp)
  have a0:=a0.mv c2
  have:=b6.len_le
  refine AA (DI (E:=Enc.u8) (l:=JH xs i) (m:=[(0:UInt8)]) U23_ i_5 rfl (by decide) rfl rfl ho0_3 b6 (fun _ hb=>.inl hb) c8 (by simp [FV];omega) (by simp [FV,maxLen];omega) e0 fun b0 h2 e2 d0 f8 f5 e3 e4 h3 b7=>(?_))
  have a0:=a0.mv e4
  refine AA (AE (b0) rfl (AG (AC (AF (AB kR (AA (AD (b0) rfl (AA (NJ U23_ rfl b7 (AA (KI .i64 (((JH xs i)++([(0:UInt8)])).length:Int) (1:Int) (((i+1:Nat):Int)) rfl rfl (GZ oM (by simp [FV])) (AA (AE (vI ((i+1:Nat):Int)) rfl (AG (AC (BQ (?_)))))))))))))))))
  have hzl:(JH xs i++[0]).length=i+2:=by simp [FV]
  refine DU (fun mI FI wI=>∃ (k:Nat) (a1:Value) (B:List Nat),k≤i+2∧mI=k∧(∃ F1,FI=GN F1 [(3,a1),(5,vB (xs[i]!)),(6,vI ((k:Int) - 1)),(13,xs_v),(14,vI (xs.length:Int)),(15,vI ((i:Nat):Int)),(53,undef)])∧St w O wI B∧DX Enc.u8 5 w.heap.size (B++O) wI a1 (MM (JH xs i++[0]) xs[i]! (i+2 - k))∧(∀ b,a1.ownBlock=some b→b∈B)∧BL Enc.u8 wI (B++O) (xs_v) (xs)) ((i+2)) ?_ ?_
  ·exact ⟨(i+2),b0,e2,oM,rfl,⟨_,BD _ ⟨rfl,rfl,(by exact congrArg (Value.int _) oM),rfl,rfl,rfl,rfl,trivial⟩⟩,e3,(by rw [show MM (JH xs i++[0]) xs[i]! (i+2 - (i+2))=(JH xs i)++([(0:UInt8)]) from by rw [Nat.sub_self];rfl];exact b7),d0,a0⟩
  intro i9 F f6 hI
  clear a0
  obtain ⟨k,a1,a5,hr1_0,j0,⟨j1,rfl⟩,c3,ho1_3,a4,a0⟩:=hI
  refine AF (AF (AB kR (AA (AD (vI ((k:Int) - 1)) rfl (AA (ID .i64 ((k:Int) - 1) (0:Int) rfl rfl (AG (AC (AJ (decide ((0:Int)≤(k:Int) - 1)) rfl rfl (fun a8=>?_) (fun a8=>?_))))))))))
  ·have f9:(0:Int)≤(k:Int) - 1:=by simpa using a8
   obtain ⟨q,rfl⟩:∃ q,k=q+1:=⟨k - 1,by omega⟩
   rw [show ((q+1:Nat):Int) - 1=((q:Nat):Int) from by omega]
   refine AT (AC (AF (BQ (AF (AB kR (AA (AD (a1) rfl (AA (AD (vI ((q:Nat):Int)) rfl (AA (AD (a1) rfl (AA (AD (vI ((q:Nat):Int)) rfl (AA (EW U23_ JD .i64 ((q:Nat):Int) q rfl rfl rfl ho1_3 (by (simp only [List.length_set,List.length_append,List.length_cons,List.length_nil,List.length_replicate,HD,FV];omega)) fun h4 d1=>(AA (NX U5_ rfl rfl ho1_3 d1 (by (simp only [List.length_set,List.length_append,List.length_cons,List.length_nil,List.length_replicate,HD,FV];omega)) (AA (AD (vB (xs[i]!)) rfl (AA (BF (vs:=[vB ((MM (JH xs i++[0]) xs[i]! (i+2 - (q+1)))[q]!),vB (xs[i]!)]) NW (ZL (O:=a5++O) ((MM (JH xs i++[0]) xs[i]! (i+2 - (q+1)))[q]!) (xs[i]!) f6 c3.lt) rfl c3 fun h5 h6 e5 c4 e6 e7=>(?_))))))))))))))))))))))
   obtain rfl:=e7
   have ho1_3:=ho1_3.mv c4 e6 (by simp)
   have a0:=a0.mv c4
   refine AA (EW U23_ JD .i64 ((q:Nat):Int) q rfl rfl rfl ho1_3 (by (simp only [List.length_set,List.length_append,List.length_cons,List.length_nil,List.length_replicate,HD,FV];omega)) fun h7 b8=>(BZ (JZ (CJ ((MM (JH xs i++[0]) xs[i]! (i+2 - (q+1)))[q]!) (xs[i]!)) JD rfl rfl rfl ho1_3 b8 (a4 _ b8) (by (simp only [List.length_set,List.length_append,List.length_cons,List.length_nil,List.length_replicate,HD,FV];omega)) rfl e5 fun e8 c5 e9 h8 a2=>(?_))))
   have a0:=a0.mv e9
   refine AG (AC (AF (AB kR (AA (AD (vI ((q:Nat):Int)) rfl (AA (HN .i64 ((q:Nat):Int) (0:Int) rfl rfl (AG (AC (AJ (decide ((0:Int)<((q:Nat):Int))) rfl rfl (fun a9=>?_) (fun a9=>?_)))))))))))
   ·have g0:(0:Int)<((q:Nat):Int):=by simpa using a9
    refine DP 11 _ _ kR kR kR kR kR rfl rfl fun f0 b1=>?_
    have f1:=c5.call b1
    have c6:Mv a5 e8 a5 f0:=Mv.of_keep b1
    have a2:=a2.mv c6 b1 (by simp)
    have a0:=a0.mv c6
    refine BG (AD (a1) rfl (BG (AD (vI ((q:Nat):Int)) rfl (BG (EW U23_ JD .i64 ((q:Nat):Int) q rfl rfl rfl a2 (by (simp only [List.length_set,List.length_append,List.length_cons,List.length_nil,List.length_replicate,HD,FV];omega)) fun h9 d2=>(BG (NX U5_ rfl rfl a2 d2 (by (simp only [List.length_set,List.length_append,List.length_cons,List.length_nil,List.length_replicate,HD,FV];omega)) (BG (AD (a1) rfl (BG (AD (vI ((q:Nat):Int)) rfl (BG (KI .i64 ((q:Nat):Int) (1:Int) (((q - 1:Nat):Int)) rfl rfl (GZ oM oM) (BG (EW U23_ JD .i64 ((q - 1:Nat):Int) (q - 1) rfl rfl rfl a2 (by (simp only [List.length_set,List.length_append,List.length_cons,List.length_nil,List.length_replicate,HD,FV];omega)) fun i0 d3=>(BG (NX U5_ rfl rfl a2 d3 (by (simp only [List.length_set,List.length_append,List.length_cons,List.length_nil,List.length_replicate,HD,FV];omega)) (BG (PR (((MM (JH xs i++[0]) xs[i]! (i+2 - (q+1))).set q (CJ ((MM (JH xs i++[0]) xs[i]! (i+2 - (q+1)))[q]!) (xs[i]!)))[q]!) (((MM (JH xs i++[0]) xs[i]! (i+2 - (q+1))).set q (CJ ((MM (JH xs i++[0]) xs[i]! (i+2 - (q+1)))[q]!) (xs[i]!)))[q - 1]!) rfl rfl (BG (EW U23_ JD .i64 ((q:Nat):Int) q rfl rfl rfl a2 (by (simp only [List.length_set,List.length_append,List.length_cons,List.length_nil,List.length_replicate,HD,FV];omega)) fun i1 b9=>(EQ (BZ (JZ ((((MM (JH xs i++[0]) xs[i]! (i+2 - (q+1))).set q (CJ ((MM (JH xs i++[0]) xs[i]! (i+2 - (q+1)))[q]!) (xs[i]!)))[q]!) ^^^ (((MM (JH xs i++[0]) xs[i]! (i+2 - (q+1))).set q (CJ ((MM (JH xs i++[0]) xs[i]! (i+2 - (q+1)))[q]!) (xs[i]!)))[q - 1]!)) JD rfl rfl rfl a2 b9 (a4 _ b9) (by (simp only [List.length_set,List.length_append,List.length_cons,List.length_nil,List.length_replicate,HD,FV];omega)) rfl f1 fun i2 f2 f3 i3 d4=>(?_)))))))))))))))))))))))))
    have a0:=a0.mv f3
    refine AG (CB (AC (AB kR (AA (AD (vI ((q:Nat):Int)) rfl (AA (KI .i64 ((q:Nat):Int) (1:Int) (((q:Nat):Int) - (1:Int)) rfl rfl (GZ oM oM) (AA (AE (vI (((q:Nat):Int) - (1:Int))) rfl (AG (AC (?_))))))))))))
    exact ⟨_,oM,(q),a1,a5,oM,rfl,⟨_,BD _ ⟨rfl,rfl,(by rfl),rfl,rfl,rfl,rfl,trivial⟩⟩,f2,(by rw [show MM (JH xs i++[0]) xs[i]! (i+2 - (q))=((MM (JH xs i++[0]) xs[i]! (i+2 - (q+1))).set q (CJ ((MM (JH xs i++[0]) xs[i]! (i+2 - (q+1)))[q]!) (xs[i]!))).set q ((((MM (JH xs i++[0]) xs[i]! (i+2 - (q+1))).set q (CJ ((MM (JH xs i++[0]) xs[i]! (i+2 - (q+1)))[q]!) (xs[i]!)))[q]!) ^^^ (((MM (JH xs i++[0]) xs[i]! (i+2 - (q+1))).set q (CJ ((MM (JH xs i++[0]) xs[i]! (i+2 - (q+1)))[q]!) (xs[i]!)))[q - 1]!)) from by exact zrS_pos hzl.symm oM aS];exact d4),a4,a0⟩
   have g1:((q:Nat):Int)≤(0:Int):=by simpa using a9
   refine AT (CB (AC (AB kR (AA (AD (vI ((q:Nat):Int)) rfl (AA (KI .i64 ((q:Nat):Int) (1:Int) (((q:Nat):Int) - (1:Int)) rfl rfl (GZ oM oM) (AA (AE (vI (((q:Nat):Int) - (1:Int))) rfl (AG (AC (?_))))))))))))
   exact ⟨_,oM,(q),a1,a5,oM,rfl,⟨_,BD _ ⟨rfl,rfl,(by rfl),rfl,rfl,rfl,rfl,trivial⟩⟩,c5,(by rw [show MM (JH xs i++[0]) xs[i]! (i+2 - (q))=(MM (JH xs i++[0]) xs[i]! (i+2 - (q+1))).set q (CJ ((MM (JH xs i++[0]) xs[i]! (i+2 - (q+1)))[q]!) (xs[i]!)) from by exact zrS_zero hzl.symm oM aS];exact a2),a4,a0⟩
  have g2:(k:Int) - 1<(0:Int):=by (have e:=a8;simp at e;omega)
  obtain rfl:k=0:=by omega
  refine DW (CL (CL (DK (CB (AC (AB kR (AA (DR .i64 ((i:Nat):Int) (1:Int) (((i+1:Nat):Int)) rfl rfl (GZ oM oM) (AA (AD (vI ((i+1:Nat):Int)) rfl (AG (AC (?_)))))))))))))
  exact ⟨_,oM,(i+1),a1,a5,oM,rfl,⟨_,BD _ ⟨rfl,rfl,rfl,(by rfl),rfl,trivial⟩⟩,c3,(by rw [show JH xs (i+1)=MM (JH xs i++[0]) xs[i]! (i+2 - 0) from by rw [Nat.sub_zero,JH,hzl]];exact ho1_3),a4,a0⟩
 have g3:(xs.length:Int)≤((i:Nat):Int):=by simpa using a7
 obtain rfl:i=xs.length:=by omega
 refine DW (CL (CL (DK (AC (AF (AB kR (AA (AD (a3) rfl (AA (AE (a3) rfl (AG (AC (AM (AZ rfl (CN rfl rfl rfl) (?_)))))))))))))))
 have e:(BU xs)=(JH xs xs.length):=rfl
 exact ⟨_,rfl,c1.keep,by rw [e];exact ⟨a3,rfl,ho0_3.pub c1⟩⟩
open Go.Fw Go.RowKit
set_option maxHeartbeats 4000000 in
set_option maxRecDepth 100000 in
theorem c_coeff {O:List Nat} (xs_v:Value) (xs:List UInt8) (ys_v:Value) (ys:List UInt8) (w:World) (a0:BL Enc.u8 w O xs_v xs) (a2:BL Enc.u8 w O ys_v ys) (hpre0:xs.length<1000000) (hO:∀ b∈O,b<w.heap.size):CM Try.prog 43 [xs_v,ys_v] w (fun v w'=>∃ (x0:Value),v = .tuple #[x0,vI ((EH xs ys).2)]∧BL Enc.u8 w' (O) x0 ((EH xs ys).1)):= by
 have j6:=a0.len_le
 have a0:BL Enc.u8 w ([]++O) xs_v xs:=a0
 have j7:=a2.len_le
 have a2:BL Enc.u8 w ([]++O) ys_v ys:=a2
 have s0:St w O w []:=St.start hO
 have hzl:=GD xs
 refine BP 81 Try.func43 rfl rfl oT (fun F0=>AF (AB kR (AA (AE (.slice none 0 0) rfl (AA (AE (vI 0) rfl (AG (AC (AF (AF (AB kR (AA (AD (xs_v) rfl (AA (AD (ys_v) rfl (AA (BF (vs:=[xs_v,ys_v]) enter_91 (c_wrong (O:=[]++O) xs_v xs ys_v ys w a0 a2 s0.lt) rfl s0 fun l2 h2 e0 e9 l3 h3=>(?_))))))))))))))))))
 obtain rfl:=h3
 have a0:=a0.mv e9
 have a2:=a2.mv e9
 refine AG (AC (AJ (GQ xs ys) rfl rfl (fun b2=>?_) (fun b2=>?_)))
 ·have k0:(GQ xs ys)=true:=by simpa using b2
  refine AF (AB kR (AA (AE (.slice none 0 0) rfl (AA (AE (vI 1) rfl (AG (AC (AM (AP (AZ rfl (GE rfl rfl rfl rfl) (?_)))))))))))
  have e:(EH xs ys)=([],(1:Int)):=by simp [EH, *]
  exact ⟨_,rfl,e0.keep,by rw [e];exact ⟨.slice none 0 0,rfl,BL.nil _ _ _⟩⟩
 have k5:(GQ xs ys)=false:=by simpa using b2
 have hxy:=wrongM_len (by simpa using b2)
 refine AT (AC (AF (AB kR (AA (AD (xs_v) rfl (AA (CK U23_ rfl a0 (AA (AE (vI (xs.length:Int)) rfl (AG (AC (AF (AB kR (AA (AD (xs_v) rfl (AA (BF (vs:=[xs_v]) enter_92 (c_zeros (O:=[]++O) xs_v xs h2 a0 oM e0.lt) rfl e0 fun a8 l4 h4 f0 l5 h5=>(?_))))))))))))))))))
 obtain ⟨_,rfl,a1⟩:=h5
 have:=a1.len_le
 have a0:=a0.mv f0
 have a2:=a2.mv f0
 refine AA (AE (a8) rfl (AG (AC (AF (AB kR (AA (AD (vI (xs.length:Int)) rfl (AA (XV (E:=Enc.u8) U23_ i_5 [vB (0:UInt8)] rfl rfl (by decide) (0:UInt8) (fun _ _=>rfl) .i64 .i64 (xs.length:Int) (xs.length:Int) xs.length xs.length rfl rfl rfl rfl oM oM (by simp only [maxLen];omega) h4 fun b1 c3 l6 h6 e8 h7 e1 l7 b3=>(?_))))))))))
 have c4:∀ b,b1.ownBlock=some b→b∈(c3 :: []):=fun b hb=>by rw [e8] at hb;cases hb;simp
 clear h6 e8
 have a0:=a0.mv e1
 have a2:=a2.mv e1
 have a1:=a1.mv e1
 refine AA (AE (b1) rfl (AG (AC (AF (AB kR (AA (AD (vI (xs.length:Int)) rfl (AA (XV (E:=Enc.u8) U23_ i_5 [vB (0:UInt8)] rfl rfl (by decide) (0:UInt8) (fun _ _=>rfl) .i64 .i64 (xs.length:Int) (xs.length:Int) xs.length xs.length rfl rfl rfl rfl oM oM (by simp only [maxLen];omega) h7 fun b4 e2 l8 h8 c5 h9 c6 i0 f9=>(?_))))))))))
 have c7:∀ b,b1.ownBlock=some b→b4.ownBlock≠some b:=fun b hb=>by have:=(b3.lt b hb).2;rw [c5];intro e;cases e;omega
 have ne476':∀ b,b4.ownBlock=some b→b1.ownBlock≠some b:=fun b hb e=>c7 b e hb
 have g0:∀ b,b4.ownBlock=some b→b∈(e2 :: (c3 :: [])):=fun b hb=>by rw [c5] at hb;cases hb;simp
 clear h8 c5
 have c4:∀ b,b1.ownBlock=some b→b∈(e2 :: (c3 :: [])):=fun b hb=>List.mem_cons_of_mem _ (c4 b hb)
 have a0:=a0.mv c6
 have a2:=a2.mv c6
 have b3:=b3.mv c6 i0 (by simp)
 have a1:=a1.mv c6
 refine AA (AE (b4) rfl (AG (AC (AF (AF (AB kR (AA (AD (xs_v) rfl (AA (CK U23_ rfl a0 (AA (AD (vI 0) rfl (AG (AC (BQ (DU (fun mI FI wI=>∃ (i:Nat) (a4:Value) (a6:Value) (B:List Nat),i≤xs.length∧mI=xs.length - i∧(∃ F1,FI=GN F1 [(1,ys_v),(4,a4),(6,vI (xs.length:Int)),(7,a8),(8,a6),(26,xs_v),(27,vI (xs.length:Int)),(28,vI ((i:Nat):Int)),(81,undef)])∧St w O wI B∧DX Enc.u8 5 w.heap.size (B++O) wI a4 (TC (BU xs) xs ys xs.length i)∧(∀ b,a4.ownBlock=some b→b∈B)∧DX Enc.u8 5 w.heap.size (B++O) wI a6 (KF (BU xs) xs xs.length i)∧(∀ b,a6.ownBlock=some b→b∈B)∧BL Enc.u8 wI (B++O) (ys_v) (ys)∧BL Enc.u8 wI (B++O) (a8) (BU xs)∧BL Enc.u8 wI (B++O) (xs_v) (xs)∧(∀ b,a4.ownBlock=some b→a6.ownBlock≠some b)∧(∀ b,a6.ownBlock=some b→a4.ownBlock≠some b)) (xs.length - (0)) ?_ ?_))))))))))))))))
 ·exact ⟨(0),b1,b4,(e2 :: (c3 :: [])),oM,rfl,⟨_,BD _ ⟨rfl,rfl,rfl,rfl,rfl,rfl,rfl,(by rfl),rfl,trivial⟩⟩,h9,(by rw [show TC (BU xs) xs ys xs.length (0)=List.replicate xs.length (0:UInt8) from rfl];exact b3),c4,(by rw [show KF (BU xs) xs xs.length (0)=List.replicate xs.length (0:UInt8) from rfl];exact f9),g0,a2,a1,a0,c7,(fun b hb e=>c7 b e hb)⟩
 intro o0 F o1 hI
 clear a2 a1 a0
 obtain ⟨i,a4,a6,j8,hr0_0,o2,⟨o3,rfl⟩,f1,ho0_4,a9,ho0_8,g1,a2,a1,a0,nn0_4_8,nn0_8_4⟩:=hI
 refine AF (AB kR (AA (EB .i64 ((i:Nat):Int) (xs.length:Int) rfl rfl (AG (AC (AF (AJ (decide (((i:Nat):Int)<(xs.length:Int))) rfl rfl (fun c8=>?_) (fun c8=>?_))))))))
 ·have k6:((i:Nat):Int)<(xs.length:Int):=by simpa using c8
  refine AT (AC (AF (BQ (AF (AB kR (AA (AD (vI ((i:Nat):Int)) rfl (AA (DO U23_ JD .i64 ((i:Nat):Int) i rfl rfl rfl a0 oM fun l9 g2=>(AA (HW U5_ rfl rfl g2 (AA (AE (vI ((i:Nat):Int)) rfl (AA (AE (vB (xs[i]!)) rfl (AG (AC (AF (AB kR (AA (AE (vB (0:UInt8)) rfl (AG (AC (AF (AF (AB kR (AA (AD (vI (xs.length:Int)) rfl (AA (KI .i64 (xs.length:Int) (1:Int) ((xs.length:Int) - (1:Int)) rfl rfl (GZ oM oM) (AA (AE (vI ((xs.length:Int) - (1:Int))) rfl (AG (AC (BQ (DU (fun mI FI wI=>∃ (k:Nat) (a3:Value) (B:List Nat),k≤xs.length∧mI=k∧(∃ F1,FI=GN F1 [(1,ys_v),(4,a4),(6,vI (xs.length:Int)),(7,a8),(8,a3),(9,vI ((i:Nat):Int)),(10,vB (xs[i]!)),(11,vB (sdC (BU xs) xs[i]! xs.length (xs.length - k))),(12,vI ((k:Int) - 1)),(26,xs_v),(27,vI (xs.length:Int)),(28,vI ((i:Nat):Int)),(81,undef)])∧St w O wI B∧DX Enc.u8 5 w.heap.size (B++O) wI a3 (LL (KF (BU xs) xs xs.length i) (BU xs) xs[i]! xs.length (xs.length - k))∧(∀ b,a3.ownBlock=some b→b∈B)∧BL Enc.u8 wI (B++O) (ys_v) (ys)∧DX Enc.u8 5 w.heap.size (B++O) wI a4 (TC (BU xs) xs ys xs.length i)∧(∀ b,a4.ownBlock=some b→b∈B)∧BL Enc.u8 wI (B++O) (a8) (BU xs)∧BL Enc.u8 wI (B++O) (xs_v) (xs)∧(∀ b,a3.ownBlock=some b→a4.ownBlock≠some b)∧(∀ b,a4.ownBlock=some b→a3.ownBlock≠some b)) ((xs.length)) ?_ ?_))))))))))))))))))))))))))))))))))))
  ·exact ⟨(xs.length),a6,j8,oM,rfl,⟨_,BD _ ⟨rfl,rfl,rfl,rfl,rfl,rfl,rfl,(congrArg vB (by rw [Nat.sub_self];rfl)),(by rfl),rfl,rfl,rfl,rfl,trivial⟩⟩,f1,(by rw [show LL (KF (BU xs) xs xs.length i) (BU xs) xs[i]! xs.length (xs.length - (xs.length))=KF (BU xs) xs xs.length i from by rw [Nat.sub_self];rfl];exact ho0_8),g1,a2,ho0_4,a9,a1,a0,nn0_8_4,nn0_4_8⟩
  intro o4 F g9 hI
  clear a2 ho0_4 a9 a1 a0
  obtain ⟨k,a3,b0,hr1_0,o5,⟨o6,rfl⟩,h0,ho1_8,a7,a2,ho0_4,a9,a1,a0,no1_8_vo0_4,np1_8_vo0_4⟩:=hI
  refine AF (AF (AB kR (AA (AD (vI ((k:Int) - 1)) rfl (AA (ID .i64 ((k:Int) - 1) (0:Int) rfl rfl (AG (AC (AJ (decide ((0:Int)≤(k:Int) - 1)) rfl rfl (fun c9=>?_) (fun c9=>?_))))))))))
  ·have k7:(0:Int)≤(k:Int) - 1:=by simpa using c9
   obtain ⟨q,rfl⟩:∃ q,k=q+1:=⟨k - 1,by omega⟩
   rw [show ((q+1:Nat):Int) - 1=((q:Nat):Int) from by omega]
   refine AT (AC (AF (BQ (AF (FM [] [] [[(0,1),(1,1),(2,4),(3,1),(4,1),(5,1),(6,1),(7,2),(8,4),(9,1)]] (by intro c F d v w hd;(try simp only [GI,FG]);exact GJ c F d v w hd) kR kR kR fun f2 d0=>?_)))))
   have f3:=h0.call d0
   have b5:Mv b0 g9 b0 f2:=Mv.of_keep d0
   have a2:=a2.mv b5
   have ho0_4:=ho0_4.mv b5 d0 (by simp)
   have a1:=a1.mv b5
   have ho1_8:=ho1_8.mv b5 d0 (by simp)
   have a0:=a0.mv b5
   refine ⟨?_,trivial⟩
   refine BS (AD (a8) rfl (EP (BS (AD (vI ((q:Nat):Int)) rfl (EP (CA rfl (fun w4_ k4_=>DR .i64 ((q:Nat):Int) (1:Int) (((q+1:Nat):Int)) rfl rfl (GZ oM oM) (⟨rfl,rfl⟩)) (BS (DO U23_ JD .i64 ((q+1:Nat):Int) (q+1) rfl rfl rfl a1 (by rw [GD];omega) fun m0 g3=>(EP (BS (HW U5_ rfl rfl g3 (EP (BS (AD (vB (sdC (BU xs) xs[i]! xs.length (xs.length - (q+1)))) rfl (EP (BS (AD (vB (xs[i]!)) rfl (EP (FA (BF (vs:=[vB (sdC (BU xs) xs[i]! xs.length (xs.length - (q+1))),vB (xs[i]!)]) NW (ZL (O:=b0++O) (sdC (BU xs) xs[i]! xs.length (xs.length - (q+1))) (xs[i]!) f2 f3.lt) rfl f3 fun m1 m2 i1 b6 e3 i2=>(?_)))))))))))))))))))))
   obtain rfl:=i2
   have a2:=a2.mv b6
   have ho0_4:=ho0_4.mv b6 e3 (by simp)
   have a1:=a1.mv b6
   have ho1_8:=ho1_8.mv b6 e3 (by simp)
   have a0:=a0.mv b6
   refine ⟨e3,?_⟩
   refine CA rfl (fun w4_ k4_=>PR ((BU xs)[q+1]!) (CJ (sdC (BU xs) xs[i]! xs.length (xs.length - (q+1))) (xs[i]!)) rfl rfl (⟨rfl,rfl⟩)) (BS (AE (vB (((BU xs)[q+1]!) ^^^ (CJ (sdC (BU xs) xs[i]! xs.length (xs.length - (q+1))) (xs[i]!)))) rfl (EP (FH (AC (AB kR (AA (AD (a3) rfl (AA (AD (vI ((q:Nat):Int)) rfl (AA (AD (vB (((BU xs)[q+1]!) ^^^ (CJ (sdC (BU xs) xs[i]! xs.length (xs.length - (q+1))) (xs[i]!)))) rfl (AA (EW U23_ JD .i64 ((q:Nat):Int) q rfl rfl rfl ho1_8 (by (simp only [List.length_set,List.length_append,List.length_cons,List.length_nil,List.length_replicate,IY,IK,JT,JL,GD];omega)) fun m3 d1=>(BZ (JZ (((BU xs)[q+1]!) ^^^ (CJ (sdC (BU xs) xs[i]! xs.length (xs.length - (q+1))) (xs[i]!))) JD rfl rfl rfl ho1_8 d1 (a7 _ d1) (by (simp only [List.length_set,List.length_append,List.length_cons,List.length_nil,List.length_replicate,IY,IK,JT,JL,GD];omega)) rfl i1 fun m4 i3 d2 i4 g4=>(?_)))))))))))))))))
   have a2:=a2.mv d2
   have ho0_4:=ho0_4.mv d2 i4 (fun b hb=>by simp only [List.mem_singleton];rintro rfl;exact absurd d1 (np1_8_vo0_4 _ hb))
   have a1:=a1.mv d2
   have a0:=a0.mv d2
   refine AG (CB (AC (AB kR (AA (AD (vI ((q:Nat):Int)) rfl (AA (KI .i64 ((q:Nat):Int) (1:Int) (((q:Nat):Int) - (1:Int)) rfl rfl (GZ oM oM) (AA (AE (vI (((q:Nat):Int) - (1:Int))) rfl (AG (AC (?_))))))))))))
   exact ⟨_,oM,(q),a3,b0,oM,rfl,⟨_,BD _ ⟨rfl,rfl,rfl,rfl,rfl,rfl,rfl,(congrArg vB (by exact (sdC_step oM).symm)),(by rfl),rfl,rfl,rfl,rfl,trivial⟩⟩,i3,(by rw [show LL (KF (BU xs) xs xs.length i) (BU xs) xs[i]! xs.length (xs.length - (q))=(LL (KF (BU xs) xs xs.length i) (BU xs) xs[i]! xs.length (xs.length - (q+1))).set q (((BU xs)[q+1]!) ^^^ (CJ (sdC (BU xs) xs[i]! xs.length (xs.length - (q+1))) (xs[i]!))) from sdQ_step oM];exact g4),a7,a2,ho0_4,a9,a1,a0,no1_8_vo0_4,np1_8_vo0_4⟩
  have k8:(k:Int) - 1<(0:Int):=by (have e:=c9;simp at e;omega)
  obtain rfl:k=0:=by omega
  refine DW (CL (CL (DK (AC (AF (FM [] [] [[(0,1),(1,1),(2,1),(3,1),(4,1),(5,1),(6,2),(7,2),(8,2),(9,1)]] (by intro c F d v w hd;(try simp only [GI,FG]);exact GJ c F d v w hd) kR kR kR fun f4 d3=>?_))))))
  have i5:=h0.call d3
  have b7:Mv b0 g9 b0 f4:=Mv.of_keep d3
  have a2:=a2.mv b7
  have ho0_4:=ho0_4.mv b7 d3 (by simp)
  have a1:=a1.mv b7
  have ho1_8:=ho1_8.mv b7 d3 (by simp)
  have a0:=a0.mv b7
  refine ⟨?_,trivial⟩
  refine BS (AD (ys_v) rfl (EP (BS (AD (vI ((i:Nat):Int)) rfl (EP (BS (DO U23_ JD .i64 ((i:Nat):Int) i rfl rfl rfl a2 oM fun m5 g5=>(EP (BS (HW U5_ rfl rfl g5 (EP (BS (AD (a3) rfl (EP (BS (AD (vB (xs[i]!)) rfl (EP (FA (BF (vs:=[a3,vB (xs[i]!)]) YM (c_eval (O:=[]) a3 (LL (KF (BU xs) xs xs.length i) (BU xs) xs[i]! xs.length (xs.length - 0)) (xs[i]!) f4 ho1_8.rd0 TY) rfl i5 fun m6 i6 f5 b8 e4 i7=>(?_))))))))))))))))))))
  obtain rfl:=i7
  have a2:=a2.mv b8
  have ho0_4:=ho0_4.mv b8 e4 (by simp)
  have a1:=a1.mv b8
  have ho1_8:=ho1_8.mv b8 e4 (by simp)
  have a0:=a0.mv b8
  refine ⟨e4,?_⟩
  refine FA (BF (vs:=[vB (FU (LL (KF (BU xs) xs xs.length i) (BU xs) xs[i]! xs.length (xs.length - 0)) (xs[i]!))]) enter_94 (c_inverse (O:=b0++O) (FU (LL (KF (BU xs) xs xs.length i) (BU xs) xs[i]! xs.length (xs.length - 0)) (xs[i]!)) i6 f5.lt) rfl f5 fun m7 i8 f6 b9 e5 i9=>(?_))
  obtain rfl:=i9
  have a2:=a2.mv b9
  have ho0_4:=ho0_4.mv b9 e5 (by simp)
  have a1:=a1.mv b9
  have ho1_8:=ho1_8.mv b9 e5 (by simp)
  have a0:=a0.mv b9
  refine ⟨e5,?_⟩
  refine FA (BF (vs:=[vB (ys[i]!),vB (JW (FU (LL (KF (BU xs) xs xs.length i) (BU xs) xs[i]! xs.length (xs.length - 0)) (xs[i]!)))]) NW (ZL (O:=b0++O) (ys[i]!) (JW (FU (LL (KF (BU xs) xs xs.length i) (BU xs) xs[i]! xs.length (xs.length - 0)) (xs[i]!))) i8 f6.lt) rfl f6 fun m9 n2 j0 c0 e6 j1=>(?_))
  obtain rfl:=j1
  have a2:=a2.mv c0
  have ho0_4:=ho0_4.mv c0 e6 (by simp)
  have a1:=a1.mv c0
  have ho1_8:=ho1_8.mv c0 e6 (by simp)
  have a0:=a0.mv c0
  refine ⟨e6,?_⟩
  refine BS (AE (vB (CJ (ys[i]!) (JW (FU (LL (KF (BU xs) xs xs.length i) (BU xs) xs[i]! xs.length (xs.length - 0)) (xs[i]!))))) rfl (EP (FH (AC (AF (AB kR (AA (AD (a4) rfl (AA (NJ U23_ rfl ho0_4 (AA (AD (vI 0) rfl (AG (AC (BQ (?_))))))))))))))))
  have hcl:=IY (BU xs) xs ys xs.length i
  refine DU (fun mI FI wI=>∃ (j:Nat) (a5:Value) (B:List Nat),j≤xs.length∧mI=xs.length - j∧(∃ F1,FI=GN F1 [(1,ys_v),(4,a5),(6,vI (xs.length:Int)),(7,a8),(8,a3),(13,vB (CJ (ys[i]!) (JW (FU (LL (KF (BU xs) xs xs.length i) (BU xs) xs[i]! xs.length (xs.length - 0)) (xs[i]!))))),(26,xs_v),(27,vI (xs.length:Int)),(28,vI ((i:Nat):Int)),(62,vI ((TC (BU xs) xs ys xs.length i).length:Int)),(63,vI ((j:Nat):Int)),(81,undef)])∧St w O wI B∧DX Enc.u8 5 w.heap.size (B++O) wI a5 (adF (TC (BU xs) xs ys xs.length i) (LL (KF (BU xs) xs xs.length i) (BU xs) xs[i]! xs.length (xs.length - 0)) (CJ ys[i]! (JW (FU (LL (KF (BU xs) xs xs.length i) (BU xs) xs[i]! xs.length (xs.length - 0)) xs[i]!))) j)∧(∀ b,a5.ownBlock=some b→b∈B)∧BL Enc.u8 wI (B++O) (ys_v) (ys)∧BL Enc.u8 wI (B++O) (a8) (BU xs)∧DX Enc.u8 5 w.heap.size (B++O) wI a3 (LL (KF (BU xs) xs xs.length i) (BU xs) xs[i]! xs.length (xs.length - 0))∧(∀ b,a3.ownBlock=some b→b∈B)∧BL Enc.u8 wI (B++O) (xs_v) (xs)∧(∀ b,a5.ownBlock=some b→a3.ownBlock≠some b)∧(∀ b,a3.ownBlock=some b→a5.ownBlock≠some b)) (xs.length - (0)) ?_ ?_
  ·exact ⟨(0),a4,b0,oM,rfl,⟨_,BD _ ⟨rfl,rfl,rfl,rfl,rfl,rfl,rfl,rfl,rfl,rfl,(by rfl),rfl,trivial⟩⟩,j0,(by rw [show adF (TC (BU xs) xs ys xs.length i) (LL (KF (BU xs) xs xs.length i) (BU xs) xs[i]! xs.length (xs.length - 0)) (CJ ys[i]! (JW (FU (LL (KF (BU xs) xs xs.length i) (BU xs) xs[i]! xs.length (xs.length - 0)) xs[i]!))) (0)=TC (BU xs) xs ys xs.length i from rfl];exact ho0_4),a9,a2,a1,ho1_8,a7,a0,np1_8_vo0_4,no1_8_vo0_4⟩
  intro o7 F j9 hI
  clear a2 a1 ho1_8 a7 a0
  obtain ⟨j,a5,d9,hr2_0,o8,⟨o9,rfl⟩,h1,ho2_4,d4,a2,a1,ho1_8,a7,a0,no2_4_vo1_8,np2_4_vo1_8⟩:=hI
  refine AF (AB kR (AA (EB .i64 ((j:Nat):Int) ((TC (BU xs) xs ys xs.length i).length:Int) rfl rfl (AG (AC (AF (AJ (decide (((j:Nat):Int)<((TC (BU xs) xs ys xs.length i).length:Int))) rfl rfl (fun d5=>?_) (fun d5=>?_))))))))
  ·have k9:((j:Nat):Int)<((TC (BU xs) xs ys xs.length i).length:Int):=by simpa using d5
   refine AT (AC (AF (BQ (AF (AB kR (AA (AD (vI ((j:Nat):Int)) rfl (AA (AE (vI ((j:Nat):Int)) rfl (AG (AC (FM [] [] [[(0,1),(1,1),(2,1),(3,1),(4,1),(5,1),(6,1),(7,1),(8,1),(9,2),(10,4),(11,1),(12,0)]] (by intro c F d v w hd;(try simp only [GI,FG]);exact GJ c F d v w hd) kR kR kR fun f7 d6=>?_))))))))))))
   have f8:=h1.call d6
   have c1:Mv d9 j9 d9 f7:=Mv.of_keep d6
   have a2:=a2.mv c1
   have ho2_4:=ho2_4.mv c1 d6 (by simp)
   have a1:=a1.mv c1
   have ho1_8:=ho1_8.mv c1 d6 (by simp)
   have a0:=a0.mv c1
   refine ⟨?_,trivial⟩
   refine BS (AD (a5) rfl (EP (BS (AD (vI ((j:Nat):Int)) rfl (EP (BS (EW U23_ JD .i64 ((j:Nat):Int) j rfl rfl rfl ho2_4 (by (simp only [List.length_set,List.length_append,List.length_cons,List.length_nil,List.length_replicate,IY,IK,JT,JL,GD];omega)) fun n3 g6=>(EP (BS (NX U5_ rfl rfl ho2_4 g6 (by (simp only [List.length_set,List.length_append,List.length_cons,List.length_nil,List.length_replicate,IY,IK,JT,JL,GD];omega)) (EP (BS (AD (a3) rfl (EP (BS (AD (vI ((j:Nat):Int)) rfl (EP (BS (EW U23_ JD .i64 ((j:Nat):Int) j rfl rfl rfl ho1_8 (by (simp only [List.length_set,List.length_append,List.length_cons,List.length_nil,List.length_replicate,IY,IK,JT,JL,GD];omega)) fun n4 g7=>(EP (BS (NX U5_ rfl rfl ho1_8 g7 (by (simp only [List.length_set,List.length_append,List.length_cons,List.length_nil,List.length_replicate,IY,IK,JT,JL,GD];omega)) (EP (BS (AD (vB (CJ (ys[i]!) (JW (FU (LL (KF (BU xs) xs xs.length i) (BU xs) xs[i]! xs.length (xs.length - 0)) (xs[i]!))))) rfl (EP (FA (BF (vs:=[vB ((LL (KF (BU xs) xs xs.length i) (BU xs) xs[i]! xs.length (xs.length - 0))[j]!),vB (CJ (ys[i]!) (JW (FU (LL (KF (BU xs) xs xs.length i) (BU xs) xs[i]! xs.length (xs.length - 0)) (xs[i]!))))]) NW (ZL (O:=d9++O) ((LL (KF (BU xs) xs xs.length i) (BU xs) xs[i]! xs.length (xs.length - 0))[j]!) (CJ (ys[i]!) (JW (FU (LL (KF (BU xs) xs xs.length i) (BU xs) xs[i]! xs.length (xs.length - 0)) (xs[i]!)))) f7 f8.lt) rfl f8 fun n5 n6 j2 c2 e7 j3=>(?_)))))))))))))))))))))))))))))
   obtain rfl:=j3
   have a2:=a2.mv c2
   have ho2_4:=ho2_4.mv c2 e7 (by simp)
   have a1:=a1.mv c2
   have ho1_8:=ho1_8.mv c2 e7 (by simp)
   have a0:=a0.mv c2
   refine ⟨e7,?_⟩
   refine CA rfl (fun w4_ k4_=>PR ((adF (TC (BU xs) xs ys xs.length i) (LL (KF (BU xs) xs xs.length i) (BU xs) xs[i]! xs.length (xs.length - 0)) (CJ ys[i]! (JW (FU (LL (KF (BU xs) xs xs.length i) (BU xs) xs[i]! xs.length (xs.length - 0)) xs[i]!))) j)[j]!) (CJ ((LL (KF (BU xs) xs xs.length i) (BU xs) xs[i]! xs.length (xs.length - 0))[j]!) (CJ (ys[i]!) (JW (FU (LL (KF (BU xs) xs xs.length i) (BU xs) xs[i]! xs.length (xs.length - 0)) (xs[i]!))))) rfl rfl (⟨rfl,rfl⟩)) (BS (EW U23_ JD .i64 ((j:Nat):Int) j rfl rfl rfl ho2_4 (by (simp only [List.length_set,List.length_append,List.length_cons,List.length_nil,List.length_replicate,IY,IK,JT,JL,GD];omega)) fun n7 d7=>(EP (JM (JZ (((adF (TC (BU xs) xs ys xs.length i) (LL (KF (BU xs) xs xs.length i) (BU xs) xs[i]! xs.length (xs.length - 0)) (CJ ys[i]! (JW (FU (LL (KF (BU xs) xs xs.length i) (BU xs) xs[i]! xs.length (xs.length - 0)) xs[i]!))) j)[j]!) ^^^ (CJ ((LL (KF (BU xs) xs xs.length i) (BU xs) xs[i]! xs.length (xs.length - 0))[j]!) (CJ (ys[i]!) (JW (FU (LL (KF (BU xs) xs xs.length i) (BU xs) xs[i]! xs.length (xs.length - 0)) (xs[i]!)))))) JD rfl rfl rfl ho2_4 d7 (d4 _ d7) (by (simp only [List.length_set,List.length_append,List.length_cons,List.length_nil,List.length_replicate,IY,IK,JT,JL,GD];omega)) rfl j2 fun n9 j4 d8 j5 g8=>(?_))))))
   have a2:=a2.mv d8
   have a1:=a1.mv d8
   have ho1_8:=ho1_8.mv d8 j5 (fun b hb=>by simp only [List.mem_singleton];rintro rfl;exact absurd d7 (np2_4_vo1_8 _ hb))
   have a0:=a0.mv d8
   refine FH (CB (AC (AB kR (AA (DR .i64 ((j:Nat):Int) (1:Int) (((j+1:Nat):Int)) rfl rfl (GZ oM oM) (AA (AD (vI ((j+1:Nat):Int)) rfl (AG (AC (?_))))))))))
   exact ⟨_,oM,(j+1),a5,d9,oM,rfl,⟨_,BD _ ⟨rfl,rfl,rfl,rfl,rfl,rfl,rfl,rfl,rfl,rfl,(by rfl),rfl,trivial⟩⟩,j4,(by rw [show adF (TC (BU xs) xs ys xs.length i) (LL (KF (BU xs) xs xs.length i) (BU xs) xs[i]! xs.length (xs.length - 0)) (CJ ys[i]! (JW (FU (LL (KF (BU xs) xs xs.length i) (BU xs) xs[i]! xs.length (xs.length - 0)) xs[i]!))) (j+1)=(adF (TC (BU xs) xs ys xs.length i) (LL (KF (BU xs) xs xs.length i) (BU xs) xs[i]! xs.length (xs.length - 0)) (CJ ys[i]! (JW (FU (LL (KF (BU xs) xs xs.length i) (BU xs) xs[i]! xs.length (xs.length - 0)) xs[i]!))) j).set j (((adF (TC (BU xs) xs ys xs.length i) (LL (KF (BU xs) xs xs.length i) (BU xs) xs[i]! xs.length (xs.length - 0)) (CJ ys[i]! (JW (FU (LL (KF (BU xs) xs xs.length i) (BU xs) xs[i]! xs.length (xs.length - 0)) xs[i]!))) j)[j]!) ^^^ (CJ ((LL (KF (BU xs) xs xs.length i) (BU xs) xs[i]! xs.length (xs.length - 0))[j]!) (CJ (ys[i]!) (JW (FU (LL (KF (BU xs) xs xs.length i) (BU xs) xs[i]! xs.length (xs.length - 0)) (xs[i]!)))))) from rfl];exact g8),d4,a2,a1,ho1_8,a7,a0,no2_4_vo1_8,np2_4_vo1_8⟩
  have l0:((TC (BU xs) xs ys xs.length i).length:Int)≤((j:Nat):Int):=by simpa using d5
  obtain rfl:j=xs.length:=by omega
  refine DW (CL (CL (DK (CB (AC (AB kR (AA (DR .i64 ((i:Nat):Int) (1:Int) (((i+1:Nat):Int)) rfl rfl (GZ oM oM) (AA (AD (vI ((i+1:Nat):Int)) rfl (AG (AC (?_)))))))))))))
  exact ⟨_,oM,(i+1),a5,a3,d9,oM,rfl,⟨_,BD _ ⟨rfl,rfl,rfl,rfl,rfl,rfl,rfl,(by rfl),rfl,trivial⟩⟩,h1,(by rw [show TC (BU xs) xs ys xs.length (i+1)=adF (TC (BU xs) xs ys xs.length i) (LL (KF (BU xs) xs xs.length i) (BU xs) xs[i]! xs.length (xs.length - 0)) (CJ ys[i]! (JW (FU (LL (KF (BU xs) xs xs.length i) (BU xs) xs[i]! xs.length (xs.length - 0)) xs[i]!))) xs.length from by rw [Nat.sub_zero];simp only [TC,KF]];exact ho2_4),d4,(by rw [show KF (BU xs) xs xs.length (i+1)=LL (KF (BU xs) xs xs.length i) (BU xs) xs[i]! xs.length (xs.length - 0) from by rw [KF,Nat.sub_zero]];exact ho1_8),a7,a2,a1,a0,no2_4_vo1_8,np2_4_vo1_8⟩
 have l1:(xs.length:Int)≤((i:Nat):Int):=by simpa using c8
 obtain rfl:i=xs.length:=by omega
 refine DW (CL (CL (DK (AC (AF (AB kR (AA (AD (a4) rfl (AA (AE (a4) rfl (AA (AE (vI 0) rfl (AG (AC (AM (AZ rfl (GE rfl rfl rfl rfl) (?_)))))))))))))))))
 have e:(EH xs ys)=(TC (BU xs) xs ys xs.length xs.length,(0:Int)):=by simp [EH, *]
 exact ⟨_,rfl,f1.keep,by rw [e];exact ⟨a4,rfl,ho0_4.pub f1⟩⟩
set_option maxHeartbeats 4000000 in
set_option maxRecDepth 100000 in
theorem c_through {O:List Nat} (xs_v:Value) (xs:List UInt8) (ys_v:Value) (ys:List UInt8) (at_:UInt8) (w:World) (a1:BL Enc.u8 w O xs_v xs) (a2:BL Enc.u8 w O ys_v ys) (hpre0:xs.length<1000000) (hO:∀ b∈O,b<w.heap.size):CM Try.prog 63 [xs_v,ys_v,vB at_] w (fun v _=>v = .tuple #[vB ((FJ xs ys at_).1),vI ((FJ xs ys at_).2)]):= by
 have b0:=a1.len_le
 have a1:BL Enc.u8 w ([]++O) xs_v xs:=a1
 have b1:=a2.len_le
 have a2:BL Enc.u8 w ([]++O) ys_v ys:=a2
 have s0:St w O w []:=St.start hO
 refine BP 21 Try.func63 rfl rfl oT (fun F0=>AF (AB kR (AA (AE (vB (0:UInt8)) rfl (AA (AE (vI 0) rfl (AG (AC (AF (AB kR (AA (AD (xs_v) rfl (AA (AD (ys_v) rfl (AA (BF (vs:=[xs_v,ys_v]) WN (c_coeff (O:=[]++O) xs_v xs ys_v ys w a1 a2 oM s0.lt) rfl s0 fun b4 a6 a4 b5 b6 a7=>(?_)))))))))))))))))
 obtain ⟨a0,rfl,a5⟩:=a7
 have:=a5.len_le
 refine AA (AD (vT #[a0,vI ((EH xs ys).2)]) rfl (AA (AL (a0) rfl rfl (AA (AL (vI ((EH xs ys).2)) rfl rfl (AA (AE (a0) rfl (AA (AE (vI ((EH xs ys).2)) rfl (AG (AC (AF (AF (AB kR (AA (AD (vI ((EH xs ys).2)) rfl (AA (DQ .i64 ((EH xs ys).2) (0:Int) rfl rfl (AG (AC (AJ (((EH xs ys).2) != (0:Int)) rfl rfl (fun a3=>?_) (fun a3=>?_))))))))))))))))))))))
 ·have b2:(EH xs ys).2≠(0:Int):=by simpa using a3
  refine AF (AB kR (AA (AD (vI ((EH xs ys).2)) rfl (AA (AE (vB (0:UInt8)) rfl (AA (AE (vI ((EH xs ys).2)) rfl (AG (AC (AM (AP (AZ rfl (GE rfl rfl rfl rfl) (?_)))))))))))))
  have e:(FJ xs ys at_)=((0:UInt8),(EH xs ys).2):=by simp [FJ, *]
  exact ⟨_,rfl,a4.keep,by rw [e];exact rfl⟩
 have b3:(EH xs ys).2=(0:Int):=by simpa using a3
 refine AT (AC (AF (AB kR (AA (AD (a0) rfl (AA (AD (vB at_) rfl (AA (BF (vs:=[a0,vB at_]) YM (c_eval (O:=[]++O) a0 ((EH xs ys).1) at_ a6 a5 a4.lt) rfl a4 fun b7 b8 a8 b9 c0 a9=>(?_))))))))))
 obtain rfl:=a9
 refine AA (AE (vB (FU ((EH xs ys).1) at_)) rfl (AA (AE (vI 0) rfl (AG (AC (AM (AZ rfl (GE rfl rfl rfl rfl) (?_))))))))
 have e:(FJ xs ys at_)=(FU ((EH xs ys).1) at_,(0:Int)):=by simp [FJ, *]
 exact ⟨_,rfl,a8.keep,by rw [e];exact rfl⟩
open Go.Fw
theorem all8 (p:UInt8→Bool) (h:(List.range 256).all (fun n=>p (UInt8.ofNat n))=true) (x:UInt8):p x=true:=by
  have:=List.all_eq_true.1 h x.toNat (List.mem_range.2 x.toNat_lt)
  rwa [UInt8.ofNat_toNat] at this
def YY (f:UInt8→UInt8):Prop:=∀ x y,f (x ^^^ y)=f x ^^^ f y
theorem xor_zero (a:UInt8):a ^^^ 0=a:=UInt8.xor_zero
theorem zero_xor (a:UInt8):0 ^^^ a=a:=UInt8.zero_xor
theorem xor_self (a:UInt8):a ^^^ a=0:=UInt8.xor_self
theorem xor_c (a b:UInt8):a ^^^ b=b ^^^ a:=UInt8.xor_comm a b
theorem VH (a b c:UInt8):a ^^^ b ^^^ c=a ^^^ (b ^^^ c):=UInt8.xor_assoc a b c
theorem xor_lc (a b c:UInt8):a ^^^ (b ^^^ c)=b ^^^ (a ^^^ c):=by rw [← VH,xor_c a b,VH]
theorem xor_cancel (a b:UInt8):a ^^^ (a ^^^ b)=b:=by rw [← VH,xor_self,zero_xor]
theorem NA {a b:UInt8}:a ^^^ b=0↔a=b:=⟨fun h=>by have:=congrArg (a ^^^ ·) h;simp only [xor_cancel,xor_zero] at this;exact this.symm,fun h=>by rw [h,xor_self]⟩
theorem xor4 (a b c d:UInt8):(a ^^^ b) ^^^ (c ^^^ d)=(a ^^^ c) ^^^ (b ^^^ d):=by rw [VH,VH,xor_lc b c d]
theorem YY.zero {f:UInt8→UInt8} (h:YY f):f 0=0:=by
  have h1:=h 0 0
  rw [xor_self] at h1
  rw [h1,xor_self]
theorem YY.comp {f g:UInt8→UInt8} (hf:YY f) (hg:YY g):YY (fun x=>f (g x)):=fun x y=>by show f (g (x ^^^ y))=_;rw [hg x y,hf]
theorem YY.id:YY fun x=>x:=fun _ _=>rfl
theorem bits_of (x:UInt8):x=(x &&& 1) ^^^ ((x &&& 2) ^^^ ((x &&& 4) ^^^ ((x &&& 8) ^^^ ((x &&& 16) ^^^ ((x &&& 32) ^^^ ((x &&& 64) ^^^ (x &&& 128))))))):=
  of_decide_eq_true (all8 (fun x=>decide (x=(x &&& 1) ^^^ ((x &&& 2) ^^^ ((x &&& 4) ^^^ ((x &&& 8) ^^^ ((x &&& 16) ^^^ ((x &&& 32) ^^^ ((x &&& 64) ^^^ (x &&& 128))))))))) (by decide +kernel) x)
theorem bit_or (x:UInt8):(x &&& 1=0∨x &&& 1=1)∧(x &&& 2=0∨x &&& 2=2)∧(x &&& 4=0∨x &&& 4=4)∧(x &&& 8=0∨x &&& 8=8)∧(x &&& 16=0∨x &&& 16=16)∧(x &&& 32=0∨x &&& 32=32)∧(x &&& 64=0∨x &&& 64=64)∧(x &&& 128=0∨x &&& 128=128):=
  of_decide_eq_true (all8 (fun x=>decide ((x &&& 1=0∨x &&& 1=1)∧(x &&& 2=0∨x &&& 2=2)∧(x &&& 4=0∨x &&& 4=4)∧(x &&& 8=0∨x &&& 8=8)∧(x &&& 16=0∨x &&& 16=16)∧(x &&& 32=0∨x &&& 32=32)∧(x &&& 64=0∨x &&& 64=64)∧(x &&& 128=0∨x &&& 128=128))) (by decide +kernel) x)
theorem lin_ext {f g:UInt8→UInt8} (hf:YY f) (hg:YY g) (h1:f 1=g 1) (h2:f 2=g 2) (h4:f 4=g 4) (h8:f 8=g 8) (h16:f 16=g 16) (h32:f 32=g 32) (h64:f 64=g 64) (h128:f 128=g 128) (x:UInt8):f x=g x:=by
  have z:=hf.zero;have z':=hg.zero
  have key:∀ (y b:UInt8),(y=0∨y=b)→f b=g b→f y=g y:=fun y b h e=>by
    rcases h with h|h
    · rw [h,z,z']
    · rw [h,e]
  obtain ⟨a1,a2,a3,a4,a5,a6,a7,a8⟩:=bit_or x
  rw [bits_of x,hf,hf,hf,hf,hf,hf,hf,hg,hg,hg,hg,hg,hg,hg,key _ _ a1 h1,key _ _ a2 h2,key _ _ a3 h4,key _ _ a4 h8,key _ _ a5 h16,key _ _ a6 h32,key _ _ a7 h64,key _ _ a8 h128]
theorem and1_xor (x y:UInt8):(x ^^^ y) &&& 1=(x &&& 1) ^^^ (y &&& 1):=by
  apply UInt8.toBitVec_inj.1
  simp only [UInt8.toBitVec_and,UInt8.toBitVec_xor]
  apply BitVec.eq_of_getElem_eq
  intro i hi
  simp only [BitVec.getElem_and,BitVec.getElem_xor]
  cases (x.toBitVec[i]) <;> cases (y.toBitVec[i]) <;> simp
theorem bit_xor (x y:UInt8) (i:UInt8):(x ^^^ y) >>> i &&& 1=(x >>> i &&& 1) ^^^ (y >>> i &&& 1):=by
  rw [UInt8.shiftRight_xor,and1_xor]
theorem bit01 (x i:UInt8):x >>> i &&& 1=0∨x >>> i &&& 1=1:=(bit_or (x >>> i)).1
def RJ (c v:UInt8):UInt8:=if c=1 then v else 0
theorem AAj {c d:UInt8} (v:UInt8) (hc:c=0∨c=1) (hd:d=0∨d=1):RJ (c ^^^ d) v=RJ c v ^^^ RJ d v:=by
  rcases hc with rfl|rfl <;> rcases hd with rfl|rfl <;> simp [RJ]
theorem pick8_lin (c:UInt8):YY (RJ c):=fun x y=>by unfold RJ;split <;> simp
theorem QY (a b:UInt8) (i:Nat):gm a b (i+1)=gm a b i ^^^ RJ (b >>> UInt8.ofNat i &&& 1) (xtn a i):=by
  unfold RJ
  by_cases h:b >>> UInt8.ofNat i &&& 1=1
  · rw [if_pos h,gm_yes a b i h]
  · rw [if_neg h,gm_no a b i h,xor_zero]
theorem gm_lin (a:UInt8):∀ i,YY fun b=>gm a b i
  | 0=>fun _ _=>by simp [gm]
  | i+1=>fun x y=>by
    show gm a (x ^^^ y) (i+1)=gm a x (i+1) ^^^ gm a y (i+1)
    rw [QY,QY,QY,bit_xor,AAj _ (bit01 _ _) (bit01 _ _),show gm a (x ^^^ y) i=_ from gm_lin a i x y,xor4]
theorem LI (a:UInt8):YY (CJ a):=gm_lin a 8
theorem xt_eq (a:UInt8):xt a=a <<< 1 ^^^ RJ (a >>> 7 &&& 1) 27:=
  of_decide_eq_true (all8 (fun a=>decide (xt a=a <<< 1 ^^^ RJ (a >>> 7 &&& 1) 27)) (by decide +kernel) a)
theorem xt_lin:YY xt:=fun x y=>by
  rw [xt_eq,xt_eq,xt_eq,bit_xor,AAj _ (bit01 _ _) (bit01 _ _),UInt8.shiftLeft_xor,xor4]
theorem xtn_lin:∀ i,YY fun a=>xtn a i
  | 0=>YY.id
  | i+1=>xt_lin.comp (xtn_lin i)
theorem gm_lin2 (b:UInt8):∀ i,YY fun a=>gm a b i
  | 0=>fun _ _=>by simp [gm]
  | i+1=>fun x y=>by
    show gm (x ^^^ y) b (i+1)=gm x b (i+1) ^^^ gm y b (i+1)
    rw [QY,QY,QY,show xtn (x ^^^ y) i=_ from xtn_lin i x y,pick8_lin,show gm (x ^^^ y) b i=_ from gm_lin2 b i x y,xor4]
theorem JG (b:UInt8):YY fun a=>CJ a b:=gm_lin2 b 8
theorem MB (a b:UInt8):CJ a b=CJ b a:=by
  have key:∀ c:UInt8,(CJ c 1=CJ 1 c∧CJ c 2=CJ 2 c∧CJ c 4=CJ 4 c∧CJ c 8=CJ 8 c∧CJ c 16=CJ 16 c∧CJ c 32=CJ 32 c∧CJ c 64=CJ 64 c∧CJ c 128=CJ 128 c):=fun c=>
    of_decide_eq_true (all8 (fun c=>decide (CJ c 1=CJ 1 c∧CJ c 2=CJ 2 c∧CJ c 4=CJ 4 c∧CJ c 8=CJ 8 c∧CJ c 16=CJ 16 c∧CJ c 32=CJ 32 c∧CJ c 64=CJ 64 c∧CJ c 128=CJ 128 c)) (by decide +kernel) c)
  obtain ⟨h1,h2,h3,h4,h5,h6,h7,h8⟩:=key a
  exact lin_ext (LI a) (JG a) h1 h2 h3 h4 h5 h6 h7 h8 b
theorem YA (a:UInt8):CJ a 1=a:=of_decide_eq_true (all8 (fun a=>decide (CJ a 1=a)) (by decide +kernel) a)
theorem one_gmul (a:UInt8):CJ 1 a=a:=by rw [MB,YA]
theorem KM (a:UInt8):CJ a 0=0:=(LI a).zero
theorem FX (a:UInt8):CJ 0 a=0:=(JG a).zero
theorem gmul_add (a b c:UInt8):CJ a (b ^^^ c)=CJ a b ^^^ CJ a c:=LI a b c
theorem SO (a b c:UInt8):CJ (a ^^^ b) c=CJ a c ^^^ CJ b c:=JG c a b
def pw2:List UInt8:=[1,2,4,8,16,32,64,128]
theorem lin_ext' {f g:UInt8→UInt8} (hf:YY f) (hg:YY g) (h:∀ b∈pw2,f b=g b) (x:UInt8):f x=g x:=
  lin_ext hf hg (h _ (by simp [pw2])) (h _ (by simp [pw2])) (h _ (by simp [pw2])) (h _ (by simp [pw2])) (h _ (by simp [pw2])) (h _ (by simp [pw2])) (h _ (by simp [pw2])) (h _ (by simp [pw2])) x
theorem assoc_basis:∀ a∈pw2,∀ b∈pw2,∀ c∈pw2,CJ (CJ a b) c=CJ a (CJ b c):=by decide +kernel
theorem JE (a b c:UInt8):CJ (CJ a b) c=CJ a (CJ b c):=by
  refine lin_ext' (f:=fun a=>CJ (CJ a b) c) (g:=fun a=>CJ a (CJ b c)) ((JG c).comp (JG b)) (JG _) (fun a ha=>?_) a
  refine lin_ext' (f:=fun b=>CJ (CJ a b) c) (g:=fun b=>CJ a (CJ b c)) ((JG c).comp (LI a)) ((LI a).comp (JG c)) (fun b hb=>?_) b
  exact lin_ext' (f:=fun c=>CJ (CJ a b) c) (g:=fun c=>CJ a (CJ b c)) (LI _) ((LI a).comp (LI b)) (fun c hc=>assoc_basis a ha b hb c hc) c
theorem SP (a:UInt8) (m:Nat):∀ n,LH a (m+n)=CJ (LH a m) (LH a n)
  | 0=>by simp [LH,YA]
  | n+1=>by rw [← Nat.add_assoc];simp only [LH];rw [SP a m n,JE]
theorem gpow_one (a:UInt8):LH a 1=a:=by simp [LH,one_gmul]
def fast (a:UInt8):UInt8:=
  let a2:=CJ a a;let a4:=CJ a2 a2;let a8:=CJ a4 a4;let a16:=CJ a8 a8;let a32:=CJ a16 a16;let a64:=CJ a32 a32;let a128:=CJ a64 a64
  CJ a128 (CJ a64 (CJ a32 (CJ a16 (CJ a8 (CJ a4 a2)))))
theorem ginv_fast (a:UInt8):JW a=fast a:=by
  have h2:CJ a a=LH a 2:=by rw [show (2:Nat)=1+1 from rfl,SP,gpow_one]
  have dbl:∀ n,CJ (LH a n) (LH a n)=LH a (n+n):=fun n=>(SP a n n).symm
  unfold fast JW
  simp only [h2,dbl,← SP]
theorem AAk {a:UInt8} (h:a≠0):CJ a (JW a)=1:=by
  have:=all8 (fun a=>decide (a=0∨CJ a (fast a)=1)) (by decide +kernel) a
  rw [ginv_fast];exact (of_decide_eq_true this).resolve_left h
theorem OX {a b:UInt8}:CJ a b=0↔a=0∨b=0:=by
  constructor
  · intro h
    by_cases ha:a=0
    · exact .inl ha
    · right
      have:=congrArg (CJ (JW a)) h
      rwa [KM,← JE,MB (JW a),AAk ha,one_gmul] at this
  · rintro (rfl|rfl)
    · exact FX _
    · exact KM _
theorem u8of_nat (n:Nat):II (n:Int)=UInt8.ofNat n:=by
  unfold II
  rw [show ((n:Int) % 256).toNat=n % 256 by omega]
  exact UInt8.toNat_inj.1 (by simp)
open Go.Fw
theorem gmul_lc (a b c:UInt8):CJ a (CJ b c)=CJ b (CJ a c):=by rw [← JE,MB a b,JE]
theorem TF (x:UInt8):FU [] x=0:=rfl
theorem GT (c:UInt8) (l:List UInt8) (x:UInt8):FU (c :: l) x=CJ (FU l x) x ^^^ c:=rfl
theorem TG (i:Nat):([]:List UInt8)[i]! = 0:=rfl
theorem HK (c:UInt8) (l:List UInt8) (i:Nat):(c :: l)[i+1]! = l[i]!:=by simp
theorem EA {l:List UInt8} {i:Nat} (h:l.length≤i):l[i]! = 0:=by
  rw [getElem!_def,List.getElem?_eq_none h];rfl
theorem MJ:∀ (l:List UInt8),(∀ i:Nat,l[i]! = 0)→∀ x,FU l x=0
  | [],_,_=>rfl
  | c :: l,h,x=>by
    have h0:c=0:=h 0
    rw [GT,MJ l (fun i=>by have:=h (i+1);rwa [HK] at this) x,FX,h0];rfl
theorem MA:∀ (l m:List UInt8),(∀ i:Nat,l[i]! = m[i]!)→∀ x,FU l x=FU m x
  | [],m,h,x=>by rw [MJ m (fun i=>by rw [← h i];rfl) x];rfl
  | c :: l,[],h,x=>by rw [MJ (c :: l) (fun i=>by rw [h i];rfl) x];rfl
  | c :: l,d :: m,h,x=>by
    have h0:c=d:=h 0
    rw [GT,GT,MA l m (fun i=>by have:=h (i+1);rwa [HK,HK] at this) x,h0]
theorem SU:∀ (l m r:List UInt8),(∀ i:Nat,r[i]! = l[i]! ^^^ m[i]!)→∀ x,FU r x=FU l x ^^^ FU m x
  | l,m,[],h,x=>by
    have h1:∀ i:Nat,l[i]! = m[i]!:=fun i=>NA.1 ((h i).symm.trans (TG i))
    rw [MA l m h1 x,xor_self];rfl
  | [],m,r,h,x=>by rw [MA r m (fun i=>by rw [h i,TG,zero_xor]) x,TF,zero_xor]
  | l,[],r,h,x=>by rw [MA r l (fun i=>by rw [h i,TG,xor_zero]) x,TF,xor_zero]
  | a :: l,b :: m,c :: r,h,x=>by
    have h0:c=a ^^^ b:=h 0
    rw [GT,GT,GT,SU l m r (fun i=>by have:=h (i+1);rwa [HK,HK,HK] at this) x,SO,h0,xor4]
theorem pev_mul (k:UInt8):∀ (l r:List UInt8),(∀ i:Nat,r[i]! = CJ l[i]! k)→∀ x,FU r x=CJ (FU l x) k
  | l,[],h,x=>by
    by_cases hk:k=0
    · rw [hk,KM];rfl
    · rw [MJ l (fun i=>by
        have:=(h i).symm.trans (TG i)
        exact (OX.1 this).resolve_right hk) x,FX];rfl
  | [],r,h,x=>by rw [MJ r (fun i=>by rw [h i,TG,FX]) x,TF,FX]
  | a :: l,c :: r,h,x=>by
    have h0:c=CJ a k:=h 0
    rw [GT,GT,pev_mul k l r (fun i=>by have:=h (i+1);rwa [HK,HK] at this) x,SO,h0,JE,MB k x,← JE]
def sd (r:UInt8):List UInt8→List UInt8
  | []=>[]
  | _ :: l=>FU l r :: sd r l
theorem UB (r:UInt8):∀ (l:List UInt8) (i:Nat),(sd r l)[i]! = FU (l.drop (i+1)) r
  | [],i=>by rw [List.drop_nil];rfl
  | c :: l,0=>rfl
  | c :: l,i+1=>by rw [sd,HK,UB r l i];rfl
theorem XU (r x:UInt8):∀ (l:List UInt8),FU l x=CJ (x ^^^ r) (FU (sd r l) x) ^^^ FU l r
  | []=>by simp [sd,FU,KM]
  | c :: l=>by
    have ih:=XU r x l
    have e:CJ (FU l x) x=CJ (x ^^^ r) (FU (sd r (c :: l)) x) ^^^ CJ (FU l r) r:=by
      rw [ih]
      show _=CJ (x ^^^ r) (CJ (FU (sd r l) x) x ^^^ FU l r) ^^^ CJ (FU l r) r
      rw [SO,gmul_add (x ^^^ r),JE,VH,SO x r (FU l r),VH,MB r (FU l r),xor_self,xor_zero,MB x (FU l r)]
    rw [GT,GT,e,VH]
theorem get_drop (l:List UInt8) (i j:Nat):(l.drop i)[j]! = l[i+j]!:=by
  rw [getElem!_def,getElem!_def,List.getElem?_drop]
theorem YF (l:List UInt8) (r:UInt8) (i:Nat):FU (l.drop i) r=CJ (FU (l.drop (i+1)) r) r ^^^ l[i]!:=by
  by_cases h:i<l.length
  · exact pev_drop h
  · rw [List.drop_eq_nil_of_le (by omega),List.drop_eq_nil_of_le (by omega),EA (by omega),TF,FX];rfl
theorem RS:∀ (xs:List UInt8),xs.Nodup→∀ (l:List UInt8),(∀ i:Nat,xs.length≤i→l[i]! = 0)→(∀ x∈xs,FU l x=0)→∀ i:Nat,l[i]! = 0
  | [],_,l,h,_=>fun i=>h i (Nat.zero_le _)
  | r :: xs,hn,l,h,hx=>by
    obtain ⟨hr,hn'⟩:=List.nodup_cons.1 hn
    have hpr:FU l r=0:=hx r (by simp)
    have hq:∀ i:Nat,(sd r l)[i]! = 0:=RS xs hn' (sd r l) (fun i hi=>by
        rw [UB]
        exact MJ _ (fun j=>by rw [get_drop];exact h _ (by simp;omega)) r) (fun x hxs=>by
        have h1:=XU r x l
        rw [hx x (by simp [hxs]),hpr,xor_zero] at h1
        rcases OX.1 h1.symm with h2|h2
        · exact absurd (NA.1 h2) (fun e=>hr (e ▸ hxs))
        · exact h2)
    intro i
    have hi:FU (l.drop i) r=0:=by
      cases i with
      | zero=>exact hpr
      | succ i=>rw [← UB];exact hq i
    have h2:=YF l r i
    rw [hi,← UB,hq i,FX,zero_xor] at h2
    exact h2.symm
theorem YW {xs:List UInt8} (hn:xs.Nodup) {l m:List UInt8} (hl:∀ i:Nat,xs.length≤i→l[i]! = 0) (hm:∀ i:Nat,xs.length≤i→m[i]! = 0) (h:∀ x∈xs,FU l x=FU m x):∀ i:Nat,l[i]! = m[i]!:=by
  intro i
  have hd:∃ d:List UInt8,∀ i:Nat,d[i]! = l[i]! ^^^ m[i]!:=by
    refine ⟨(List.range (max l.length m.length)).map fun i=>l[i]! ^^^ m[i]!,fun i=>?_⟩
    by_cases hi:i<max l.length m.length
    · rw [getElem!_pos _ i (by simpa using hi)];simp
    · rw [EA (by simpa using hi),EA (l:=l) (by omega),EA (l:=m) (by omega)];rfl
  obtain ⟨d,hd⟩:=hd
  have:=RS xs hn d (fun i hi=>by rw [hd,hl i hi,hm i hi];rfl) (fun x hx=>by rw [SU l m d hd,h x hx,xor_self]) i
  rw [hd] at this
  exact NA.1 this
theorem QK {l m:List UInt8} (hlen:l.length=m.length) (h:∀ i:Nat,l[i]! = m[i]!):l=m:=by
  apply List.ext_getElem hlen
  intro i h1 h2
  have:=h i
  rwa [getElem!_pos l i h1,getElem!_pos m i h2] at this
open Go.Fw
theorem LT (l:List UInt8) (i:Nat) (v:UInt8) (j:Nat):(l.set i v)[j]! = if i=j∧i<l.length then v else l[j]!:=by
  rw [getElem!_def,List.getElem?_set,getElem!_def]
  by_cases h:i=j
  · subst h
    by_cases h2:i<l.length
    · simp [h2]
    · rw [if_pos rfl,if_neg h2,if_neg (fun h=>h2 h.2),List.getElem?_eq_none (by omega)]
  · rw [if_neg h,if_neg (fun h'=>h h'.1)]
theorem RO (l m:List UInt8) (i:Nat):(l++m)[i]! = if i<l.length then l[i]! else m[i - l.length]!:=by
  by_cases h:i<l.length
  · rw [if_pos h,getElem!_def,getElem!_def,List.getElem?_append_left h]
  · rw [if_neg h,getElem!_def,getElem!_def,List.getElem?_append_right (by omega)]
theorem RD (n i:Nat):(List.replicate n (0:UInt8))[i]! = 0:=by
  by_cases h:i<n
  · rw [getElem!_pos _ i (by simpa using h)];simp
  · exact EA (by simpa using h)
theorem LW (l:List UInt8) (k:UInt8) (i:Nat):(l.map (CJ · k))[i]! = CJ l[i]! k:=by
  by_cases h:i<l.length
  · rw [getElem!_pos _ i (by simpa using h),getElem!_pos _ i h];simp
  · rw [EA (by simpa using h),EA (by omega),FX]
theorem TE {l:List UInt8} {k:Nat} (x:UInt8):(l.take k).contains x=true↔∃ i,i<k∧i<l.length∧l[i]! = x:=by
  rw [List.contains_iff_mem,List.mem_iff_getElem?]
  constructor
  · rintro ⟨i,h⟩
    rw [List.getElem?_take] at h
    split at h
    · rename_i hk
      obtain ⟨h1,h2⟩:=List.getElem?_eq_some_iff.1 h
      exact ⟨i,hk,h1,by rw [getElem!_pos l i h1,h2]⟩
    · cases h
  · rintro ⟨i,hk,hl,h⟩
    exact ⟨i,by rw [List.getElem?_take,if_pos hk,List.getElem?_eq_getElem hl,← h,getElem!_pos l i hl]⟩
theorem NZ {l:List UInt8}:l.Nodup↔∀ i j,i<j→j<l.length→l[i]!≠l[j]!:=by
  rw [List.nodup_iff_pairwise_ne,List.pairwise_iff_getElem]
  constructor
  · intro h i j hij hj
    rw [getElem!_pos l i (by omega),getElem!_pos l j hj];exact h i j (by omega) hj hij
  · intro h i j hi hj hij
    have:=h i j hij hj
    rwa [getElem!_pos l i hi,getElem!_pos l j hj] at this
theorem scan_false {f:Nat→Option Bool} (m i:Nat) (hf:∀ k,f k=none∨f k=some true):GM f false i m=false↔∀ k,i≤k→k<i+m→f k=none:=by
  induction m generalizing i with
  | zero=>exact ⟨fun _ k h1 h2=>by omega,fun _=>rfl⟩
  | succ m ih=>
    unfold GM
    rcases hf i with h|h
    · rw [h];simp only
      rw [ih (i+1)]
      constructor
      · intro h1 k hk hk2
        rcases Nat.lt_or_eq_of_le hk with h3|h3
        · exact h1 k (by omega) (by omega)
        · exact h3 ▸ h
      · intro h1 k hk hk2;exact h1 k (by omega) (by omega)
    · rw [h];simp only
      constructor
      · intro e;cases e
      · intro h1;rw [h1 i (Nat.le_refl _) (by omega)] at h;cases h
theorem ZW {f:Nat→Option Bool} (m i:Nat) (hf:∀ k,f k=none∨f k=some false):GM f true i m=true↔∀ k,i≤k→k<i+m→f k=none:=by
  induction m generalizing i with
  | zero=>exact ⟨fun _ k h1 h2=>by omega,fun _=>rfl⟩
  | succ m ih=>
    unfold GM
    rcases hf i with h|h
    · rw [h];simp only
      rw [ih (i+1)]
      constructor
      · intro h1 k hk hk2
        rcases Nat.lt_or_eq_of_le hk with h3|h3
        · exact h1 k (by omega) (by omega)
        · exact h3 ▸ h
      · intro h1 k hk hk2;exact h1 k (by omega) (by omega)
    · rw [h];simp only
      constructor
      · intro e;cases e
      · intro h1;rw [h1 i (Nat.le_refl _) (by omega)] at h;cases h
theorem UQ (xs ys:List UInt8):GQ xs ys=false↔xs.length=ys.length∧xs.Nodup:=by
  unfold GQ twice
  by_cases e:xs.length=ys.length
  · rw [if_neg (by simp;omega)]
    rw [scan_false _ _ (fun k=>by split <;> simp),NZ]
    constructor
    · intro h
      refine ⟨e,fun i j hij hj hx=>?_⟩
      have:=h j (Nat.zero_le _) (by omega)
      rw [if_pos ((TE _).2 ⟨i,hij,by omega,hx⟩)] at this;cases this
    · rintro ⟨_,h⟩ k _ hk
      rw [if_neg]
      intro hc
      obtain ⟨i,hi,hl,hx⟩:=(TE _).1 hc
      exact h i k hi (by omega) hx
  · rw [if_pos (by simp;omega)];simp [e]
structure Thr (xs ys l:List UInt8):Prop where
  len:l.length=xs.length
  at_:∀ i,i<xs.length→FU l xs[i]! = ys[i]!
theorem Thr.unique {xs ys l m:List UInt8} (hn:xs.Nodup) (h:Thr xs ys l) (hm:∀ i:Nat,xs.length≤i→m[i]! = 0) (hv:∀ i,i<xs.length→FU m xs[i]! = ys[i]!):∀ i:Nat,l[i]! = m[i]!:=
  YW hn (fun i hi=>EA (by rw [h.len];exact hi)) hm (fun x hx=>by
    obtain ⟨i,hi,rfl⟩:=List.getElem_of_mem hx
    have h1:=h.at_ i hi
    have h2:=hv i hi
    rw [getElem!_pos xs i hi] at h1 h2
    rw [h1,h2])
theorem zrS_get (p:List UInt8) (x:UInt8):∀ j,j≤p.length→∀ i:Nat,(MM p x j)[i]! = if p.length - j≤i∧i<p.length then CJ p[i]! x ^^^ (if 0<i then p[i - 1]! else 0) else p[i]!
  | 0,_,i=>by rw [MM,if_neg (by omega)]
  | j+1,h,i=>by
    have ih:=zrS_get p x j (by omega)
    have hl:=HD p x j
    unfold MM
    simp only
    by_cases h1:p.length - 1 - j=i
    · subst h1
      by_cases h0:0<p.length - 1 - j
      · rw [if_pos h0]
        rw [LT,List.length_set,hl,if_pos ⟨rfl,by omega⟩,LT,hl,if_pos ⟨rfl,by omega⟩,LT,if_neg (by omega),ih,ih,if_neg (by omega),if_neg (by omega),if_pos ⟨by omega,by omega⟩,if_pos h0]
      · rw [if_neg h0]
        rw [LT,hl,if_pos ⟨rfl,by omega⟩,ih,if_neg (by omega),if_pos ⟨by omega,by omega⟩,if_neg h0,xor_zero]
    · have e:∀ v u:UInt8,(if 0<p.length - 1 - j then ((MM p x j).set (p.length - 1 - j) v).set (p.length - 1 - j) u else (MM p x j).set (p.length - 1 - j) v)[i]! = (MM p x j)[i]!:=fun v u=>by
        split
        · rw [LT,if_neg (by omega),LT,if_neg (by omega)]
        · rw [LT,if_neg (by omega)]
      rw [e,ih]
      by_cases h2:p.length - j≤i∧i<p.length
      · rw [if_pos h2,if_pos (show p.length - (j+1)≤i∧i<p.length by omega)]
      · rw [if_neg h2,if_neg (by omega)]
theorem zrO_get (xs:List UInt8) (k i:Nat):(JH xs (k+1))[i]! = CJ (JH xs k)[i]! xs[k]! ^^^ (if 0<i then (JH xs k)[i - 1]! else 0):=by
  have hl:=FV xs k
  have e:∀ i:Nat,(JH xs k++[0])[i]! = (JH xs k)[i]!:=fun i=>by
    rw [RO]
    by_cases h:i<(JH xs k).length
    · rw [if_pos h]
    · rw [if_neg h,EA (l:=JH xs k) (by omega)]
      by_cases h2:i=(JH xs k).length
      · subst h2;rw [Nat.sub_self];rfl
      · exact EA (by simp;omega)
  rw [JH,zrS_get _ _ _ (Nat.le_refl _) i,e,e]
  by_cases h:i<(JH xs k++[0]).length
  · rw [if_pos ⟨by omega,h⟩]
  · rw [if_neg (by omega)]
    simp only [List.length_append,List.length_singleton] at h
    rw [EA (l:=JH xs k) (by omega),FX]
    split
    · rw [EA (l:=JH xs k) (by omega)];rfl
    · rfl
theorem zrO_pev (xs:List UInt8) (k:Nat) (x:UInt8):FU (JH xs (k+1)) x=CJ (FU (JH xs k) x) (x ^^^ xs[k]!):=by
  have h1:FU ((JH xs k).map (CJ · xs[k]!)) x=CJ (FU (JH xs k) x) xs[k]!:=pev_mul _ _ _ (fun i=>LW _ _ i) x
  have h2:FU (0 :: JH xs k) x=CJ (FU (JH xs k) x) x:=by rw [GT,xor_zero]
  rw [SU ((JH xs k).map (CJ · xs[k]!)) (0 :: JH xs k) (JH xs (k+1)) (fun i=>by
    rw [zrO_get,LW]
    congr 1
    cases i with
    | zero=>rfl
    | succ i=>rw [HK,if_pos (by omega)];rfl) x,h1,h2,← gmul_add,xor_c]
theorem zrO_lead (xs:List UInt8):∀ k,(JH xs k)[k]! = 1
  | 0=>rfl
  | k+1=>by
    rw [zrO_get,EA (l:=JH xs k) (by rw [FV];omega),FX,zero_xor,if_pos (by omega)]
    exact zrO_lead xs k
theorem XZ {xs:List UInt8} {j:Nat}:∀ k,j<k→FU (JH xs k) xs[j]! = 0
  | 0,h=>by omega
  | k+1,h=>by
    rw [zrO_pev]
    by_cases hj:j=k
    · subst hj;rw [xor_self,KM]
    · rw [XZ k (by omega),FX]
theorem sdC_eq {p:List UInt8} {x:UInt8} {n:Nat} (hp:p.length=n+1):∀ j,j≤n→sdC p x n j=FU (p.drop (n+1 - j)) x
  | 0,_=>by rw [Nat.sub_zero,← hp,List.drop_length];rfl
  | j+1,h=>by
    unfold sdC
    rw [sdC_eq hp j (by omega),YF p x (n+1 - (j+1)),show n+1 - (j+1)+1=n+1 - j by omega,xor_c,show n - 1 - j+1=n+1 - (j+1) by omega]
theorem sdQ_get {q0 p:List UInt8} {x:UInt8} {n:Nat} (hq:q0.length=n):∀ j,j≤n→∀ i:Nat,(LL q0 p x n j)[i]! = if n - j≤i∧i<n then sdC p x n (n - i) else q0[i]!
  | 0,_,i=>by rw [LL,if_neg (by omega)]
  | j+1,h,i=>by
    unfold LL
    rw [LT,JT,sdQ_get hq j (by omega)]
    by_cases h1:n - 1 - j=i
    · rw [if_pos ⟨h1,by omega⟩,if_pos (by omega)];congr 1;omega
    · rw [if_neg (by omega)]
      by_cases h2:n - j≤i∧i<n
      · rw [if_pos h2,if_pos (by omega)]
      · rw [if_neg h2,if_neg (by omega)]
theorem sdQ_eq {q0 p:List UInt8} {x:UInt8} {n:Nat} (hq:q0.length=n) (hp:p.length=n+1):∀ i:Nat,(LL q0 p x n n)[i]! = (sd x p)[i]!:=by
  intro i
  rw [sdQ_get hq n (Nat.le_refl _),UB]
  by_cases h:i<n
  · rw [if_pos (by omega),sdC_eq hp _ (by omega),show n+1 - (n - i)=i+1 by omega]
  · rw [if_neg (by omega),EA (by omega),List.drop_eq_nil_of_le (by omega)];rfl
theorem adF_get (l q:List UInt8) (f:UInt8):∀ k,k≤l.length→∀ i:Nat,(adF l q f k)[i]! = l[i]! ^^^ (if i<k then CJ q[i]! f else 0)
  | 0,_,i=>by simp [adF]
  | k+1,h,i=>by
    have ih:=adF_get l q f k (by omega)
    simp only [adF,LT,JL,ih]
    by_cases h1:k=i
    · subst h1;rw [if_pos (by simp;omega),if_neg (by omega),if_pos (by omega),xor_zero]
    · rw [if_neg (by omega)]
      congr 1
      by_cases h3:i<k
      · rw [if_pos h3,if_pos (by omega)]
      · rw [if_neg h3,if_neg (by omega)]
theorem pev_adF {l q:List UInt8} {f:UInt8} {n:Nat} (hl:l.length=n) (hq:q.length=n) (x:UInt8):FU (adF l q f n) x=FU l x ^^^ CJ (FU q x) f:=by
  rw [SU l (q.map (CJ · f)) _ (fun i=>by
    rw [adF_get l q f _ (by omega) i,LW]
    by_cases h3:i<n
    · rw [if_pos h3]
    · rw [if_neg h3,EA (l:=q) (by omega),FX]) x,pev_mul f q _ (fun i=>LW q f i) x]
theorem coQ_pev {xs:List UInt8} {i:Nat} (hi:i<xs.length) (x:UInt8):FU (KF (BU xs) xs xs.length (i+1)) x=FU (sd xs[i]! (BU xs)) x:=
  MA _ _ (fun j=>by rw [KF];exact sdQ_eq (IK _ _ _ _) (GD xs) j) x
theorem YZ {xs:List UInt8} (hn:xs.Nodup) {i j:Nat} (hi:i<xs.length) (hj:j<xs.length) (hij:j≠i):FU (KF (BU xs) xs xs.length (i+1)) xs[j]! = 0:=by
  rw [coQ_pev hi]
  have h1:=XU xs[i]! xs[j]! (BU xs)
  rw [show FU (BU xs) xs[j]! = 0 from XZ _ hj,show FU (BU xs) xs[i]! = 0 from XZ _ hi,xor_zero] at h1
  rcases OX.1 h1.symm with h2|h2
  · rw [NA] at h2
    rcases Nat.lt_or_gt_of_ne hij with h3|h3
    · exact absurd h2 (NZ.1 hn j i h3 hi)
    · exact absurd h2.symm (NZ.1 hn i j h3 hj)
  · exact h2
theorem coQ_self {xs:List UInt8} (hn:xs.Nodup) {i:Nat} (hi:i<xs.length):FU (KF (BU xs) xs xs.length (i+1)) xs[i]!≠0:=by
  intro e
  have hz:=RS xs hn (KF (BU xs) xs xs.length (i+1)) (fun j hj=>EA (by rw [IK];exact hj)) (fun x hx=>by
    obtain ⟨j,hj,rfl⟩:=List.getElem_of_mem hx
    by_cases hji:j=i
    · subst hji;rw [getElem!_pos xs j hj] at e;exact e
    · have:=YZ hn hi hj hji
      rwa [getElem!_pos xs j hj] at this) (xs.length - 1)
  rw [KF,sdQ_eq (IK _ _ _ _) (GD xs),UB,show xs.length - 1+1=xs.length by omega,YF,List.drop_eq_nil_of_le (by rw [GD];omega),TF,FX,zero_xor] at hz
  rw [BU,zrO_lead] at hz
  exact absurd hz (by decide)
theorem coL_at {xs ys:List UInt8} (hn:xs.Nodup) {j:Nat} (hj:j<xs.length):∀ i,i≤xs.length→FU (TC (BU xs) xs ys xs.length i) xs[j]! = if j<i then ys[j]! else 0
  | 0,_=>by simp only [TC];rw [MJ _ (RD _)];rfl
  | i+1,h=>by
    unfold TC
    rw [pev_adF (IY _ _ _ _ _) (IK _ _ _ _),coL_at hn hj i (by omega)]
    by_cases hji:j=i
    · subst hji
      rw [if_neg (by omega),if_pos (by omega),zero_xor,gmul_lc,AAk (coQ_self hn hj),YA]
    · rw [YZ hn (by omega) hj hji,FX,xor_zero]
      by_cases h1:j<i
      · rw [if_pos h1,if_pos (by omega)]
      · rw [if_neg h1,if_neg (by omega)]
theorem co_thr {xs ys:List UInt8} (hn:xs.Nodup):Thr xs ys (TC (BU xs) xs ys xs.length xs.length):=
  ⟨IY _ _ _ _ _,fun i hi=>by rw [coL_at hn hi _ (Nat.le_refl _),if_pos hi]⟩
theorem NQ {xs ys:List UInt8} (h:GQ xs ys=false):(EH xs ys).2=0∧Thr xs ys (EH xs ys).1∧xs.length=ys.length∧xs.Nodup:=by
  have h':=(UQ xs ys).1 h
  unfold EH;rw [h]
  exact ⟨rfl,co_thr h'.2,h'⟩
theorem coeff_bad {xs ys:List UInt8} (h:GQ xs ys=true):EH xs ys=([],1):=by unfold EH;rw [h];rfl
theorem through_ok {xs ys:List UInt8} (at_:UInt8) (h:GQ xs ys=false):FJ xs ys at_=(FU (EH xs ys).1 at_,0):=by
  unfold FJ;rw [(NQ h).1];rfl
open Go.Fw
def tab (n:Nat) (f:Nat→UInt8):List UInt8:=(List.range n).map f
theorem JB (n:Nat) (f:Nat→UInt8):(tab n f).length=n:=by simp [tab]
theorem JP (n:Nat) (f:Nat→UInt8) (i:Nat):(tab n f)[i]! = if i<n then f i else 0:=by
  by_cases h:i<n
  · rw [if_pos h,getElem!_pos _ i (by rw [JB];exact h)];simp [tab]
  · rw [if_neg h,EA (by rw [JB];omega)]
open Go.Fw
theorem XY {β:Type} {f:Nat→Option β} {d r:β} (hf:∀ k,f k=none∨f k=some r):∀ (m i:Nat),(GM f d i m=d∧∀ k,i≤k→k<i+m→f k=none)∨(GM f d i m=r∧∃ k,i≤k∧k<i+m∧f k=some r)
  | 0,i=>.inl ⟨rfl,fun k h1 h2=>by omega⟩
  | m+1,i=>by
    unfold GM
    rcases hf i with h|h
    · rw [h]
      rcases XY (d:=d) hf m (i+1) with ⟨h1,h2⟩|⟨h1,k,h2,h3,h4⟩
      · refine .inl ⟨h1,fun k hk hk2=>?_⟩
        rcases Nat.lt_or_eq_of_le hk with h3|h3
        · exact h2 k (by omega) (by omega)
        · exact h3 ▸ h
      · exact .inr ⟨h1,k,by omega,by omega,h4⟩
    · rw [h];exact .inr ⟨rfl,i,Nat.le_refl _,by omega,h⟩
theorem mulb {a b:Int} (ha:0≤a) (ha':a≤1000000) (hb:0≤b) (hb':b≤1000000):-9223372036854775808≤a*b∧a*b≤9223372036854775807:=by
  have h1:a*b≤1000000*1000000:=Int.mul_le_mul ha' hb' hb (by omega)
  have h2:=Int.mul_nonneg ha hb
  omega
theorem mulbN {a b:Nat} (ha:a≤1000000) (hb:b≤1000000):-9223372036854775808≤((a*b:Nat):Int)∧((a*b:Nat):Int)≤9223372036854775807:=by
  have h1:a*b≤1000000*1000000:=Nat.mul_le_mul ha hb
  omega
def UN (f:Share):Bool:=((decide (f.threshold<1) || decide (f.many<f.threshold)) || decide (8<f.many)) || decide (64<(f.data.length:Int))
def QG (f s:Share):Bool:=(s.threshold != f.threshold || s.many != f.many) || ((s.data.length:Int) != (f.data.length:Int))
def JR (l:List Share) (k:Nat):Int:=if k=0 then 0 else l[k - 1]!.index
def alIdx (f s:Share) (last:Int):Bool:=decide (s.index≤last) || decide (f.many<s.index)
def FO (l:List Share):Bool:=if (l.length:Int) == 0 then false else if UN l[0]! then false else
  GM (fun k=>if QG l[0]! l[k]! then some false else if alIdx l[0]! l[k]! (JR l k) then some false else none) true 0 (l.length - 0)
def alRef (l:List Share) (k:Nat):Bool:=((((QG l[0]! l[k]!) || decide (l[k]!.index<1)) || decide (l[0]!.many<l[k]!.index)) || (decide (0<(k:Int)) && decide (l[k]!.index≤l[k - 1]!.index)))
def refAlikeM (l:List Share):Bool:=if (l.length:Int) == 0 then false else if UN l[0]! then false else GM (fun k=>if alRef l k then some false else none) true 0 (l.length - 0)
def ep1 (l:List Share) (k:Nat):Bool:=(l[k]!.epoch != l[0]!.epoch || decide (l[k]!.epoch<0)) || decide (1048576<l[k]!.epoch)
def BN (l:List Share):Int:=if !FO l then 80 else GM (fun k=>if ep1 l k then some 81 else none) 0 0 (l.length - 0)
def AAa (l:List Share):Int:=if !refAlikeM l then 80 else GM (fun k=>if ep1 l k then some 81 else none) 0 0 (l.length - 0)
theorem YR:(∀ a b:Bool,((a || b)=true)=(a=true∨b=true))∧(∀ a b:Bool,((a && b)=true)=(a=true∧b=true))∧(∀ b:Bool,(¬ b=true)=(b=false))
    ∧(∀ a b:Bool,((a || b)=false)=(a=false∧b=false))∧(∀ a b:Bool,((a && b)=false)=(a=false∨b=false))
    ∧(∀ (α:Type) [BEq α] [LawfulBEq α] (a b:α),((a != b)=true)=(a≠b))∧(∀ (α:Type) [BEq α] [LawfulBEq α] (a b:α),((a == b)=true)=(a=b))
    ∧(∀ (α:Type) [BEq α] [LawfulBEq α] (a b:α),((a != b)=false)=(a=b))∧(∀ (α:Type) [BEq α] [LawfulBEq α] (a b:α),((a == b)=false)=(a≠b))
    ∧(∀ (p:Prop) [Decidable p],(decide p=true)=p)∧(∀ (p:Prop) [Decidable p],(decide p=false) = ¬ p)
    ∧(∀ (α:Type) (a b:α),(a≠b) = ¬ a=b)∧(∀ b:Bool,((!b)=true)=(b=false))∧(∀ b:Bool,((!b)=false)=(b=true))∧((!true)=false)∧((!false)=true)
    ∧((false=true)=False)∧((¬ True)=False)∧((¬ False)=True)
    ∧(∀ f:Share,UN f=(((decide (f.threshold<1) || decide (f.many<f.threshold)) || decide (8<f.many)) || decide (64<(f.data.length:Int))))
    ∧(∀ f s:Share,QG f s=((s.threshold != f.threshold || s.many != f.many) || ((s.data.length:Int) != (f.data.length:Int))))
    ∧(∀ (f s:Share) (last:Int),alIdx f s last=(decide (s.index≤last) || decide (f.many<s.index)))
    ∧(∀ (l:List Share) (k:Nat),alRef l k=((((QG l[0]! l[k]!) || decide (l[k]!.index<1)) || decide (l[0]!.many<l[k]!.index)) || (decide (0<(k:Int)) && decide (l[k]!.index≤l[k - 1]!.index))))
    ∧(∀ (l:List Share) (k:Nat),ep1 l k=((l[k]!.epoch != l[0]!.epoch || decide (l[k]!.epoch<0)) || decide (1048576<l[k]!.epoch))):=
  ⟨dbs.1,dbs.2.1,dbs.2.2.1,dbs.2.2.2.1,dbs.2.2.2.2.1,dbs.2.2.2.2.2.1,dbs.2.2.2.2.2.2.1,dbs.2.2.2.2.2.2.2.1,dbs.2.2.2.2.2.2.2.2.1,dbs.2.2.2.2.2.2.2.2.2.1,dbs.2.2.2.2.2.2.2.2.2.2.1,dbs.2.2.2.2.2.2.2.2.2.2.2.1,dbs.2.2.2.2.2.2.2.2.2.2.2.2.1,dbs.2.2.2.2.2.2.2.2.2.2.2.2.2.1,dbs.2.2.2.2.2.2.2.2.2.2.2.2.2.2.1,dbs.2.2.2.2.2.2.2.2.2.2.2.2.2.2.2.1,dbs.2.2.2.2.2.2.2.2.2.2.2.2.2.2.2.2.1,dbs.2.2.2.2.2.2.2.2.2.2.2.2.2.2.2.2.2.1,dbs.2.2.2.2.2.2.2.2.2.2.2.2.2.2.2.2.2.2,fun _=>rfl,fun _ _=>rfl,fun _ _ _=>rfl,fun _ _=>rfl,fun _ _=>rfl⟩
structure Good (l:List Share):Prop where
  pos:0<l.length
  t1:1≤l[0]!.threshold
  tm:l[0]!.threshold≤l[0]!.many
  m8:l[0]!.many≤8
  d64:l[0]!.data.length≤64
  th:∀ k,k<l.length→l[k]!.threshold=l[0]!.threshold
  ma:∀ k,k<l.length→l[k]!.many=l[0]!.many
  da:∀ k,k<l.length→l[k]!.data.length=l[0]!.data.length
  ix:∀ k,k<l.length→1≤l[k]!.index∧l[k]!.index≤l[0]!.many
  inc:∀ k,k+1<l.length→l[k]!.index<l[k+1]!.index
theorem Good.mono {l:List Share} (h:Good l):∀ (j i:Nat),i<j→j<l.length→l[i]!.index<l[j]!.index
  | 0,i,hi,_=>by omega
  | j+1,i,hi,hj=>by
    have:=h.inc j hj
    by_cases hij:i=j
    · subst hij;exact this
    · have:=h.mono j i (by omega) (by omega);omega
theorem XI (f:Share):UN f=false↔1≤f.threshold∧f.threshold≤f.many∧f.many≤8∧f.data.length≤64:=by
  unfold UN;simp only [Bool.or_eq_false_iff,decide_eq_false_iff_not];omega
theorem OU (f s:Share):QG f s=false↔s.threshold=f.threshold∧s.many=f.many∧s.data.length=f.data.length:=by
  unfold QG;simp only [Bool.or_eq_false_iff,bne_eq_false_iff_eq];omega
theorem AAo (l:List Share):FO l=true↔Good l:=by
  unfold FO
  by_cases h0:l.length=0
  · rw [if_pos (by simp;exact List.eq_nil_of_length_eq_zero h0)]
    exact ⟨fun h=>(by cases h),fun h=>by have:=h.pos;omega⟩
  rw [if_neg (by simp;intro h;subst h;simp at h0)]
  cases h1:UN l[0]! with
  | true=>
    simp only [if_true]
    refine ⟨fun h=>by simp at h,fun h=>?_⟩
    have:=(XI l[0]!).2 ⟨h.t1,h.tm,h.m8,h.d64⟩
    rw [this] at h1;cases h1
  | false=>
    simp only [Bool.false_eq_true,if_false]
    obtain ⟨a1,a2,a3,a4⟩:=(XI _).1 h1
    rw [ZW _ _ (fun k=>by split;simp;split <;> simp)]
    constructor
    · intro h
      have key:∀ k,k<l.length→(QG l[0]! l[k]! = false)∧(JR l k<l[k]!.index∧l[k]!.index≤l[0]!.many):=fun k hk=>by
        have:=h k (Nat.zero_le _) (by omega)
        split at this
        · cases this
        · rename_i hd
          split at this
          · cases this
          · rename_i hi
            refine ⟨by simpa using hd,?_⟩
            unfold alIdx at hi;simp only [Bool.or_eq_true,decide_eq_true_eq,not_or] at hi;omega
      have hix:∀ k,k<l.length→1≤l[k]!.index:=fun k=>by
        induction k with
        | zero=>intro hk;have:=(key 0 hk).2.1;unfold JR at this;rw [if_pos rfl] at this;omega
        | succ k ih=>intro hk;have:=(key _ hk).2.1;have h2:=ih (by omega);unfold JR at this;rw [if_neg (by omega)] at this;simp only [Nat.add_sub_cancel] at this;omega
      exact ⟨by omega,a1,a2,a3,a4,fun k hk=>((OU _ _).1 (key k hk).1).1,fun k hk=>((OU _ _).1 (key k hk).1).2.1,fun k hk=>((OU _ _).1 (key k hk).1).2.2,fun k hk=>⟨hix k hk,(key k hk).2.2⟩,fun k hk=>by
        have:=(key _ hk).2.1;unfold JR at this;rw [if_neg (by omega)] at this;simpa using this⟩
    · intro h k _ hk
      rw [if_neg,if_neg]
      · unfold alIdx;simp only [Bool.or_eq_true,decide_eq_true_eq,not_or]
        have h1:=h.ix k (by omega)
        unfold JR
        cases k with
        | zero=>simp only [if_true];omega
        | succ k=>rw [if_neg (by omega)];have:=h.inc k (by omega);simp only [Nat.add_sub_cancel];omega
      · have:=(OU l[0]! l[k]!).2 ⟨h.th k (by omega),h.ma k (by omega),h.da k (by omega)⟩
        rw [this];simp
structure Vd (l:List Share):Prop extends Good l where
  ep:∀ k,k<l.length→l[k]!.epoch=l[0]!.epoch
  ep0:0≤l[0]!.epoch
  ep1:l[0]!.epoch≤1048576
theorem WA (l:List Share) (k:Nat):ep1 l k=false↔l[k]!.epoch=l[0]!.epoch∧0≤l[k]!.epoch∧l[k]!.epoch≤1048576:=by
  unfold ep1;simp only [Bool.or_eq_false_iff,bne_eq_false_iff_eq,decide_eq_false_iff_not];omega
theorem EM (l:List Share):BN l=0↔Vd l:=by
  unfold BN
  cases ha:FO l with
  | false=>
    simp only [Bool.not_false,if_true]
    exact ⟨fun h=>by omega,fun h=>by rw [(AAo l).2 h.toGood] at ha;cases ha⟩
  | true=>
    have hg:=(AAo l).1 ha
    simp only [Bool.not_true,Bool.false_eq_true,if_false]
    rcases XY (f:=fun k=>if ep1 l k then some (81:Int) else none) (d:=(0:Int)) (r:=81) (fun k=>by split <;> simp) (l.length - 0) 0 with ⟨h1,h2⟩|⟨h1,k,h2,h3,h4⟩
    · rw [h1]
      have key:∀ k,k<l.length→ep1 l k=false:=fun k hk=>by
        have:=h2 k (Nat.zero_le _) (by omega)
        split at this
        · cases this
        · rename_i h;simpa using h
      refine ⟨fun _=>⟨hg,fun k hk=>((WA l k).1 (key k hk)).1,((WA l 0).1 (key 0 hg.pos)).2.1,((WA l 0).1 (key 0 hg.pos)).2.2⟩,fun _=>rfl⟩
    · rw [h1]
      refine ⟨fun h=>by omega,fun h=>?_⟩
      have:=(WA l k).2 ⟨h.ep k (by omega),by rw [h.ep k (by omega)];exact h.ep0,by rw [h.ep k (by omega)];exact h.ep1⟩
      simp only [this] at h4;cases h4
def EO (a b:Share):Bool:=(((a.epoch == b.epoch && a.index == b.index) && a.threshold == b.threshold) && a.many == b.many) && a.data == b.data
theorem RM (a b:Share):EO a b=true↔a=b:=by
  unfold EO;simp only [Bool.and_eq_true,beq_iff_eq]
  constructor
  · rintro ⟨⟨⟨⟨h1,h2⟩,h3⟩,h4⟩,h5⟩;exact Share.ext h1 h2 h3 h4 h5
  · rintro rfl;simp
def JO (a b:List Share):Bool:=if (a.length:Int) != (b.length:Int) then false else GM (fun k=>if !EO a[k]! b[k]! then some false else none) true 0 (a.length - 0)
theorem WU {α:Type} [Inhabited α] {l m:List α} (hlen:l.length=m.length) (h:∀ i:Nat,i<l.length→l[i]! = m[i]!):l=m:=by
  apply List.ext_getElem hlen
  intro i h1 h2
  have:=h i h1
  rwa [getElem!_pos l i h1,getElem!_pos m i h2] at this
theorem WW (a b:List Share):JO a b=true↔a=b:=by
  unfold JO
  by_cases h:a.length=b.length
  · rw [if_neg (by simp;omega),ZW _ _ (fun k=>by split <;> simp)]
    constructor
    · intro h1
      refine WU h (fun i hi=>?_)
      have:=h1 i (Nat.zero_le _) (by omega)
      split at this
      · cases this
      · rename_i h2;exact (RM _ _).1 (by simpa using h2)
    · rintro rfl k _ _
      rw [(RM _ _).2 rfl];rfl
  · rw [if_pos (by simp;omega)]
    exact ⟨fun h=>(by cases h),fun e=>absurd (congrArg List.length e) h⟩
open Go.Fw Go.RowKit
set_option maxHeartbeats 4000000 in
set_option maxRecDepth 100000 in
theorem c_alike {O:List Nat} (l_v:Value) (l:List Share) (w:World) (a2:BL Enc.share w O l_v l) (hO:∀ b∈O,b<w.heap.size):CM Try.prog 88 [l_v] w (fun v _=>v = .bool (FO l)):= by
 have e6:=a2.len_le
 have a2:BL Enc.share w ([]++O) l_v l:=a2
 have s0:St w O w []:=St.start hO
 refine BP 75 Try.func88 rfl rfl oT (fun F0=>AF (AB kR (AA (AE (vO false) rfl (AG (AC (AF (AF (AB kR (AA (AD (l_v) rfl (AA (CK U32_ rfl a2 (AA (EZ .i64 (l.length:Int) (0:Int) rfl rfl (AG (AC (AJ ((l.length:Int) == (0:Int)) rfl rfl (fun a9=>?_) (fun a9=>?_)))))))))))))))))))
 ·have e7:(l.length:Int)=(0:Int):=by simpa using a9
  refine AF (AB kR (AA (AE (vO false) rfl (AG (AC (AM (AP (AZ rfl (CN rfl rfl rfl) (?_)))))))))
  have e:(FO l)=false:=by (unfold FO;((repeat ((refine (if_pos ?_).trans ?_;omega)));rfl))
  exact ⟨_,rfl,s0.keep,(by exact congrArg vO e.symm)⟩
 have e8:(l.length:Int)≠(0:Int):=by simpa using a9
 refine AT (AC (AF (AB kR (AA (AD (l_v) rfl (AA (DO U32_ EN .i64 (0:Int) 0 rfl rfl rfl a2 oM fun g9 c8=>(AA (CY U70_ rfl EN rfl c8 fun c9 b0=>(AA (CR [vI 0,vI 0,vI 0,vI 0,nS] PG rfl s0 fun a4 d7 d8 d9 c6 h0 d0=>(?_))))))))))))
 clear d8
 have a2:=a2.mv c6
 have b0:Enc.share.rd d7 ((a4 :: [])++O) c9 (l[0]!):=Enc.mv Enc.share (x:=l[0]!) b0 c6
 obtain ⟨a6,rfl,a1⟩:=b0
 have:=a1.len_le
 refine BZ (BE (vs:=[vI ((l[0]!).epoch),vI ((l[0]!).index),vI ((l[0]!).threshold),vI ((l[0]!).many),a6]) (.agg #[vI ((l[0]!).epoch),vI ((l[0]!).index),vI ((l[0]!).threshold),vI ((l[0]!).many),a6]) rfl rfl rfl EN (fun u hu=>by simp only [List.mem_cons,List.not_mem_nil,or_false] at hu;rcases hu with rfl|rfl|rfl|rfl|rfl <;> first|rfl|exact a1.oneCell) (by repeat (constructor)) d0 oT d9 fun h1 a8 c7 h2 a0=>(?_))
 have a2:=a2.mv c7
 have a1:=a1.mv c7
 refine AA (AE (vI 0) rfl (AG (AC (AF (AF (AB kR (AA (AH 2 KW rfl (AA (AK U3_ rfl (vI ((l[0]!).threshold)) rfl a0 rfl (AA (EB .i64 ((l[0]!).threshold) (1:Int) rfl rfl (AA (AD (vO (decide ((l[0]!).threshold<(1:Int)))) rfl (?_)))))))))))))))
 cases c0:(decide ((l[0]!).threshold<(1:Int)))
 ·have e9:(1:Int)≤(l[0]!).threshold:=by simpa using c0
  refine AY rfl (AH 2 KW rfl (AY rfl (AK U3_ rfl (vI ((l[0]!).threshold)) rfl a0 rfl (AY rfl (AH 3 KT rfl (AY rfl (AK U3_ rfl (vI ((l[0]!).many)) rfl a0 rfl (AY rfl (HN .i64 ((l[0]!).threshold) ((l[0]!).many) rfl rfl (AA (BK (vO (decide ((l[0]!).many<(l[0]!).threshold))) rfl rfl (AA (AD (vO (decide ((l[0]!).many<(l[0]!).threshold))) rfl (?_))))))))))))))
  cases c1:(decide ((l[0]!).many<(l[0]!).threshold))
  ·have f0:(l[0]!).threshold≤(l[0]!).many:=by simpa using c1
   refine AY rfl (AH 3 KT rfl (AY rfl (AK U3_ rfl (vI ((l[0]!).many)) rfl a0 rfl (AY rfl (HN .i64 ((l[0]!).many) (8:Int) rfl rfl (AA (BK (vO (decide ((8:Int)<(l[0]!).many))) rfl rfl (AA (AD (vO (decide ((8:Int)<(l[0]!).many))) rfl (?_))))))))))
   cases c2:(decide ((8:Int)<(l[0]!).many))
   ·have f1:(l[0]!).many≤(8:Int):=by simpa using c2
    refine AY rfl (AH 4 HT rfl (AY rfl (AK U23_ rfl (a6) rfl a0 rfl (AY rfl (CK U23_ rfl a1 (AY rfl (HN .i64 (((l[0]!).data).length:Int) (64:Int) rfl rfl (AA (BK (vO (decide ((64:Int)<(((l[0]!).data).length:Int)))) rfl rfl (AG (AC (AJ (decide ((64:Int)<(((l[0]!).data).length:Int))) rfl rfl (fun b1=>?_) (fun b1=>?_)))))))))))))
    ·have f2:(64:Int)<(((l[0]!).data).length:Int):=by simpa using b1
     refine AF (AB kR (AA (AE (vO false) rfl (AG (AC (AM (AP (AZ rfl (CN rfl rfl rfl) (?_)))))))))
     have e:(FO l)=false:=by (unfold FO;((repeat (first|(refine (if_pos ?_).trans ?_;solve|(simp only [YR];omega))|(refine (if_neg ?_).trans ?_;solve|(simp only [YR];omega))));rfl))
     exact ⟨_,rfl,a8.keep,(by exact congrArg vO e.symm)⟩
    have f3:(((l[0]!).data).length:Int)≤(64:Int):=by simpa using b1
    refine AT (AC (AF (AF (AB kR (AA (AD (l_v) rfl (AA (CK U32_ rfl a2 (AA (AD (vI 0) rfl (AG (AC (BQ (DU (fun mI FI wI=>∃ (k:Nat) (B:List Nat),k≤l.length∧FO l=GM (fun k=>if QG l[0]! l[k]! then some false else if alIdx l[0]! l[k]! (JR l k) then some false else none) true k (l.length - k)∧mI=l.length - k∧(∃ F1,FI=GN F1 [(3,vP (some ⟨a4,0,none⟩)),(4,vI (JR l k)),(34,l_v),(35,vI (l.length:Int)),(36,vI ((k:Nat):Int)),(75,undef)])∧St w O wI B∧BL Enc.share wI (B++O) (l_v) (l)∧BL Enc.u8 wI (B++O) (a6) ((l[0]!).data)∧FT wI a4 70 [vI ((l[0]!).epoch),vI ((l[0]!).index),vI ((l[0]!).threshold),vI ((l[0]!).many),a6]∧a4∈B) (l.length - (0)) ?_ ?_))))))))))))))
    ·exact ⟨(0),(a4 :: []),oM,(by unfold FO;((repeat ((refine (if_neg ?_).trans ?_;solve|(simp only [YR];omega))));rfl)),rfl,⟨_,BD _ ⟨rfl,(by rfl),rfl,rfl,(by rfl),rfl,trivial⟩⟩,a8,a2,a1,a0,(by (repeat (exact List.mem_cons_self)))⟩
    intro h5 F h6 hI
    clear a2 a1 a0
    obtain ⟨k,d5,hr0_0,hr0_1,h7,⟨h8,rfl⟩,d6,a2,a1,a0,e0⟩:=hI
    refine AF (AB kR (AA (EB .i64 ((k:Nat):Int) (l.length:Int) rfl rfl (AG (AC (AF (AJ (decide (((k:Nat):Int)<(l.length:Int))) rfl rfl (fun b2=>?_) (fun b2=>?_))))))))
    ·have f4:((k:Nat):Int)<(l.length:Int):=by simpa using b2
     refine AT (AC (AF (BQ (AF (AB kR (AA (DO U32_ EN .i64 ((k:Nat):Int) k rfl rfl rfl a2 oM fun h3 d1=>(AA (CY U70_ rfl EN rfl d1 fun d2 b3=>(AA (CR [vI 0,vI 0,vI 0,vI 0,nS] PG rfl d6 fun b4 e1 e2 e3 b7 e4 d3=>(?_))))))))))))
     have d4:EY a4 b4:=by show a4≠b4;have:=a0.lt;omega
     clear e2
     have a2:=a2.mv b7
     have b3:Enc.share.rd e1 ((b4 :: d5)++O) d2 (l[k]!):=Enc.mv Enc.share (x:=l[k]!) b3 b7
     have a1:=a1.mv b7
     have a0:=a0.keep e4 (by simp)
     obtain ⟨b8,rfl,a5⟩:=b3
     have:=a5.len_le
     refine BZ (BE (vs:=[vI ((l[k]!).epoch),vI ((l[k]!).index),vI ((l[k]!).threshold),vI ((l[k]!).many),b8]) (.agg #[vI ((l[k]!).epoch),vI ((l[k]!).index),vI ((l[k]!).threshold),vI ((l[k]!).many),b8]) rfl rfl rfl EN (fun u hu=>by simp only [List.mem_cons,List.not_mem_nil,or_false] at hu;rcases hu with rfl|rfl|rfl|rfl|rfl <;> first|rfl|exact a5.oneCell) (by repeat (constructor)) d3 oT e3 fun h4 a7 b9 e5 a3=>(?_))
     have a2:=a2.mv b9
     have a5:=a5.mv b9
     have a1:=a1.mv b9
     have a0:=a0.keep e5 (AS d4)
     refine AG (AC (AF (AF (AB kR (AA (AH 2 KW rfl (AA (AK U3_ rfl (vI ((l[k]!).threshold)) rfl a3 rfl (AA (AH 2 KW rfl (AA (AK U3_ rfl (vI ((l[0]!).threshold)) rfl a0 rfl (AA (DQ .i64 ((l[k]!).threshold) ((l[0]!).threshold) rfl rfl (AA (AD (vO (((l[k]!).threshold) != ((l[0]!).threshold))) rfl (?_)))))))))))))))))
     cases c3:(((l[k]!).threshold) != ((l[0]!).threshold))
     ·have f5:(l[k]!).threshold=(l[0]!).threshold:=by simpa using c3
      refine AY rfl (AH 3 KT rfl (AY rfl (AK U3_ rfl (vI ((l[k]!).many)) rfl a3 rfl (AY rfl (AH 3 KT rfl (AY rfl (AK U3_ rfl (vI ((l[0]!).many)) rfl a0 rfl (AY rfl (DQ .i64 ((l[k]!).many) ((l[0]!).many) rfl rfl (AA (BK (vO (((l[k]!).many) != ((l[0]!).many))) rfl rfl (AA (AD (vO (((l[k]!).many) != ((l[0]!).many))) rfl (?_))))))))))))))
      cases c4:(((l[k]!).many) != ((l[0]!).many))
      ·have f6:(l[k]!).many=(l[0]!).many:=by simpa using c4
       refine AY rfl (AH 4 HT rfl (AY rfl (AK U23_ rfl (b8) rfl a3 rfl (AY rfl (CK U23_ rfl a5 (AY rfl (AH 4 HT rfl (AY rfl (AK U23_ rfl (a6) rfl a0 rfl (AY rfl (CK U23_ rfl a1 (AY rfl (DQ .i64 (((l[k]!).data).length:Int) (((l[0]!).data).length:Int) rfl rfl (AA (BK (vO ((((l[k]!).data).length:Int) != (((l[0]!).data).length:Int))) rfl rfl (AG (AC (AJ ((((l[k]!).data).length:Int) != (((l[0]!).data).length:Int)) rfl rfl (fun b5=>?_) (fun b5=>?_)))))))))))))))))))
       ·have f7:(((l[k]!).data).length:Int)≠(((l[0]!).data).length:Int):=by simpa using b5
        refine AF (AB kR (AA (AE (vO false) rfl (AG (AC (AM (AP (CE (AP (AP (CE (AP (AZ rfl (CN rfl rfl rfl) (?_))))))))))))))
        have e:(FO l)=false:=by (rw [hr0_1];exact ET oM (by ((repeat ((refine (if_pos ?_).trans ?_;solve|(simp only [YR];omega))));rfl)))
        exact ⟨_,rfl,a7.keep,(by exact congrArg vO e.symm)⟩
       have f8:(((l[k]!).data).length:Int)=(((l[0]!).data).length:Int):=by simpa using b5
       refine AT (AC (AF (AF (AB kR (AA (AH 1 QF rfl (AA (AK U3_ rfl (vI ((l[k]!).index)) rfl a3 rfl (AA (AD (vI (JR l k)) rfl (AA (o_leq .i64 ((l[k]!).index) (JR l k) rfl rfl (AA (AD (vO (decide ((l[k]!).index≤JR l k))) rfl (?_)))))))))))))))
       cases c5:(decide ((l[k]!).index≤JR l k))
       ·have f9:JR l k<(l[k]!).index:=by simpa using c5
        refine AY rfl (AH 1 QF rfl (AY rfl (AK U3_ rfl (vI ((l[k]!).index)) rfl a3 rfl (AY rfl (AH 3 KT rfl (AY rfl (AK U3_ rfl (vI ((l[0]!).many)) rfl a0 rfl (AY rfl (HN .i64 ((l[k]!).index) ((l[0]!).many) rfl rfl (AA (BK (vO (decide ((l[0]!).many<(l[k]!).index))) rfl rfl (AG (AC (AJ (decide ((l[0]!).many<(l[k]!).index)) rfl rfl (fun b6=>?_) (fun b6=>?_)))))))))))))))
        ·have g0:(l[0]!).many<(l[k]!).index:=by simpa using b6
         refine AF (AB kR (AA (AE (vO false) rfl (AG (AC (AM (AP (CE (AP (AP (CE (AP (AZ rfl (CN rfl rfl rfl) (?_))))))))))))))
         have e:(FO l)=false:=by (rw [hr0_1];exact ET oM (by ((repeat (first|(refine (if_pos ?_).trans ?_;solve|(simp only [YR];omega))|(refine (if_neg ?_).trans ?_;solve|(simp only [YR];omega))));rfl)))
         exact ⟨_,rfl,a7.keep,(by exact congrArg vO e.symm)⟩
        have g1:(l[k]!).index≤(l[0]!).many:=by simpa using b6
        refine AT (AC (AB kR (AA (AH 1 QF rfl (AA (AK U3_ rfl (vI ((l[k]!).index)) rfl a3 rfl (AA (AE (vI ((l[k]!).index)) rfl (AG (CB (AC (AB kR (AA (DR .i64 ((k:Nat):Int) (1:Int) (((k+1:Nat):Int)) rfl rfl (GZ oM oM) (AA (AD (vI ((k+1:Nat):Int)) rfl (AG (AC (?_)))))))))))))))))))
        exact ⟨_,oM,(k+1),(b4 :: d5),oM,(hr0_1.trans (IL oM (by ((repeat ((refine (if_neg ?_).trans ?_;solve|(simp only [YR];omega))));rfl)))),rfl,⟨_,BD _ ⟨rfl,(by rfl),rfl,rfl,(by rfl),rfl,trivial⟩⟩,a7,a2,a1,a0,(by (repeat (first|assumption|apply List.mem_cons_of_mem)))⟩
       have g2:(l[k]!).index≤JR l k:=by simpa using c5
       refine AN rfl (AN rfl (AN rfl (AN rfl (AN rfl (AA (BH (vO true) rfl rfl (AG (AC (AJ true rfl rfl (fun _=>AF (AB kR (AA (AE (vO false) rfl (AG (AC (AM (AP (CE (AP (AP (CE (AP (AZ rfl (CN rfl rfl rfl) (?_))))))))))))))) (fun h=>by cases h))))))))))
       have e:(FO l)=false:=by (rw [hr0_1];exact ET oM (by ((repeat (first|(refine (if_pos ?_).trans ?_;solve|(simp only [YR];omega))|(refine (if_neg ?_).trans ?_;solve|(simp only [YR];omega))));rfl)))
       exact ⟨_,rfl,a7.keep,(by exact congrArg vO e.symm)⟩
      have g3:(l[k]!).many≠(l[0]!).many:=by simpa using c4
      refine AN rfl (AN rfl (AN rfl (AN rfl (AN rfl (AN rfl (AN rfl (AA (BH (vO true) rfl rfl (AG (AC (AJ true rfl rfl (fun _=>AF (AB kR (AA (AE (vO false) rfl (AG (AC (AM (AP (CE (AP (AP (CE (AP (AZ rfl (CN rfl rfl rfl) (?_))))))))))))))) (fun h=>by cases h))))))))))))
      have e:(FO l)=false:=by (rw [hr0_1];exact ET oM (by ((repeat ((refine (if_pos ?_).trans ?_;solve|(simp only [YR];omega))));rfl)))
      exact ⟨_,rfl,a7.keep,(by exact congrArg vO e.symm)⟩
     have g4:(l[k]!).threshold≠(l[0]!).threshold:=by simpa using c3
     refine AN rfl (AN rfl (AN rfl (AN rfl (AN rfl (AA (BH (vO true) rfl rfl (AA (AD (vO true) rfl (AN rfl (AN rfl (AN rfl (AN rfl (AN rfl (AN rfl (AN rfl (AA (BH (vO true) rfl rfl (AG (AC (AJ true rfl rfl (fun _=>AF (AB kR (AA (AE (vO false) rfl (AG (AC (AM (AP (CE (AP (AP (CE (AP (AZ rfl (CN rfl rfl rfl) (?_))))))))))))))) (fun h=>by cases h)))))))))))))))))))))
     have e:(FO l)=false:=by (rw [hr0_1];exact ET oM (by ((repeat ((refine (if_pos ?_).trans ?_;solve|(simp only [YR];omega))));rfl)))
     exact ⟨_,rfl,a7.keep,(by exact congrArg vO e.symm)⟩
    have g5:(l.length:Int)≤((k:Nat):Int):=by simpa using b2
    refine DW (CL (CL (DK (AC (AF (AB kR (AA (AE (vO true) rfl (AG (AC (AM (AZ rfl (CN rfl rfl rfl) (?_)))))))))))))
    have e:(FO l)=true:=by (rw [hr0_1];exact LD oM)
    exact ⟨_,rfl,d6.keep,(by exact congrArg vO e.symm)⟩
   have g6:(8:Int)<(l[0]!).many:=by simpa using c2
   refine AN rfl (AN rfl (AN rfl (AN rfl (AA (BH (vO true) rfl rfl (AG (AC (AJ true rfl rfl (fun _=>AF (AB kR (AA (AE (vO false) rfl (AG (AC (AM (AP (AZ rfl (CN rfl rfl rfl) (?_)))))))))) (fun h=>by cases h)))))))))
   have e:(FO l)=false:=by (unfold FO;((repeat (first|(refine (if_pos ?_).trans ?_;solve|(simp only [YR];omega))|(refine (if_neg ?_).trans ?_;solve|(simp only [YR];omega))));rfl))
   exact ⟨_,rfl,a8.keep,(by exact congrArg vO e.symm)⟩
  have g7:(l[0]!).many<(l[0]!).threshold:=by simpa using c1
  refine AN rfl (AN rfl (AN rfl (AA (BH (vO true) rfl rfl (AA (AD (vO true) rfl (AN rfl (AN rfl (AN rfl (AN rfl (AA (BH (vO true) rfl rfl (AG (AC (AJ true rfl rfl (fun _=>AF (AB kR (AA (AE (vO false) rfl (AG (AC (AM (AP (AZ rfl (CN rfl rfl rfl) (?_)))))))))) (fun h=>by cases h))))))))))))))))
  have e:(FO l)=false:=by (unfold FO;((repeat (first|(refine (if_pos ?_).trans ?_;solve|(simp only [YR];omega))|(refine (if_neg ?_).trans ?_;solve|(simp only [YR];omega))));rfl))
  exact ⟨_,rfl,a8.keep,(by exact congrArg vO e.symm)⟩
 have g8:(l[0]!).threshold<(1:Int):=by simpa using c0
 refine AN rfl (AN rfl (AN rfl (AN rfl (AN rfl (AA (BH (vO true) rfl rfl (AA (AD (vO true) rfl (AN rfl (AN rfl (AN rfl (AA (BH (vO true) rfl rfl (AA (AD (vO true) rfl (AN rfl (AN rfl (AN rfl (AN rfl (AA (BH (vO true) rfl rfl (AG (AC (AJ true rfl rfl (fun _=>AF (AB kR (AA (AE (vO false) rfl (AG (AC (AM (AP (AZ rfl (CN rfl rfl rfl) (?_)))))))))) (fun h=>by cases h)))))))))))))))))))))))))
 have e:(FO l)=false:=by (unfold FO;((repeat (first|(refine (if_pos ?_).trans ?_;solve|(simp only [YR];omega))|(refine (if_neg ?_).trans ?_;solve|(simp only [YR];omega))));rfl))
 exact ⟨_,rfl,a8.keep,(by exact congrArg vO e.symm)⟩
set_option maxHeartbeats 4000000 in
set_option maxRecDepth 100000 in
theorem NP {O:List Nat} (l_v:Value) (l:List Share) (w:World) (a0:BL Enc.share w O l_v l) (hO:∀ b∈O,b<w.heap.size):CM Try.prog 40 [l_v] w (fun v _=>v=vI (BN l)):= by
 have d2:=a0.len_le
 have a0:BL Enc.share w ([]++O) l_v l:=a0
 have s0:St w O w []:=St.start hO
 refine BP 32 Try.func40 rfl rfl oT (fun F0=>AF (AB kR (AA (AE (vI 0) rfl (AG (AC (AF (AF (AB kR (AA (AD (l_v) rfl (AA (BF (vs:=[l_v]) enter_88 (c_alike (O:=[]++O) l_v l w a0 s0.lt) rfl s0 fun e3 e4 b3 c2 e5 c3=>(?_))))))))))))))
 obtain rfl:=c3
 have a0:=a0.mv c2
 refine AA (FF (FO l) rfl (AG (AC (AJ (!(FO l)) rfl rfl (fun a2=>?_) (fun a2=>?_)))))
 ·have d3:(FO l)=false:=by simpa using a2
  refine AF (AB kR (AA (AE (vI 80) rfl (AG (AC (AM (AP (AZ rfl (CN rfl rfl rfl) (?_)))))))))
  have e:(BN l)=(80:Int):=by (unfold BN;((repeat ((refine (if_pos ?_).trans ?_;omega)));rfl))
  exact ⟨_,rfl,b3.keep,by rw [e];exact rfl⟩
 have d4:(FO l)=true:=by simpa using a2
 refine AT (AC (AF (AF (AB kR (AA (AD (l_v) rfl (AA (CK U32_ rfl a0 (AA (AD (vI 0) rfl (AG (AC (BQ (DU (fun mI FI wI=>∃ (k:Nat) (B:List Nat),k≤l.length∧BN l=GM (fun k=>if ep1 l k then some 81 else none) 0 k (l.length - k)∧mI=l.length - k∧(∃ F1,FI=GN F1 [(0,l_v),(8,l_v),(9,vI (l.length:Int)),(10,vI ((k:Nat):Int)),(32,undef)])∧St w O wI B∧BL Enc.share wI (B++O) (l_v) (l)) (l.length - (0)) ?_ ?_))))))))))))))
 ·exact ⟨(0),[],oM,(by unfold BN;((repeat ((refine (if_neg ?_).trans ?_;solve|(simp only [*,dbs];done))));rfl)),rfl,⟨_,BD _ ⟨rfl,rfl,rfl,(by rfl),rfl,trivial⟩⟩,b3,a0⟩
 intro f1 F f2 hI
 clear a0
 obtain ⟨k,a9,hr0_0,hr0_1,f3,⟨f4,rfl⟩,c1,a0⟩:=hI
 refine AF (AB kR (AA (EB .i64 ((k:Nat):Int) (l.length:Int) rfl rfl (AG (AC (AF (AJ (decide (((k:Nat):Int)<(l.length:Int))) rfl rfl (fun a3=>?_) (fun a3=>?_))))))))
 ·have d5:((k:Nat):Int)<(l.length:Int):=by simpa using a3
  refine AT (AC (AF (BQ (AF (AB kR (AA (DO U32_ EN .i64 ((k:Nat):Int) k rfl rfl rfl a0 oM fun e6 b6=>(AA (CY U70_ rfl EN rfl b6 fun b7 a4=>(AA (CR [vI 0,vI 0,vI 0,vI 0,nS] PG rfl c1 fun a5 c4 c5 c6 b4 e7 b8=>(?_))))))))))))
  clear c5
  have a0:=a0.mv b4
  have a4:Enc.share.rd c4 ((a5 :: a9)++O) b7 (l[k]!):=Enc.mv Enc.share (x:=l[k]!) a4 b4
  obtain ⟨b5,rfl,b0⟩:=a4
  have:=b0.len_le
  refine BZ (BE (vs:=[vI ((l[k]!).epoch),vI ((l[k]!).index),vI ((l[k]!).threshold),vI ((l[k]!).many),b5]) (.agg #[vI ((l[k]!).epoch),vI ((l[k]!).index),vI ((l[k]!).threshold),vI ((l[k]!).many),b5]) rfl rfl rfl EN (fun u hu=>by simp only [List.mem_cons,List.not_mem_nil,or_false] at hu;rcases hu with rfl|rfl|rfl|rfl|rfl <;> first|rfl|exact b0.oneCell) (by repeat (constructor)) b8 oT c6 fun c7 c8 c9 e8 a1=>(?_))
  have a0:=a0.mv c9
  refine AG (AC (AF (DP 17 _ _ kR kR kR kR kR rfl rfl fun d0 a8=>?_)))
  have a6:=c8.call a8
  have d1:Mv (a5 :: a9) c7 (a5 :: a9) d0:=Mv.of_keep a8
  have a0:=a0.mv d1
  have a1:=a1.keep a8 (by simp)
  refine BG (AH 0 KC rfl (BG (AK U3_ rfl (vI ((l[k]!).epoch)) rfl a1 rfl (BG (AD (l_v) rfl (BG (DO U32_ EN .i64 (0:Int) 0 rfl rfl rfl a0 oM fun e9 b9=>(BG (BO 0 KC ((l[0]!).epoch) rfl b9 (fun _ _ _ h=>LX h) fun f0 c0=>(BG (CG U3_ rfl rfl c0 (BG (DQ .i64 ((l[k]!).epoch) ((l[0]!).epoch) rfl rfl (BG (AD (vO (((l[k]!).epoch) != ((l[0]!).epoch))) rfl (?_))))))))))))))))
  cases b1:(((l[k]!).epoch) != ((l[0]!).epoch))
  ·have d6:(l[k]!).epoch=(l[0]!).epoch:=by simpa using b1
   refine DS rfl (AH 0 KC rfl (DS rfl (AK U3_ rfl (vI ((l[k]!).epoch)) rfl a1 rfl (DS rfl (EB .i64 ((l[k]!).epoch) (0:Int) rfl rfl (BG (BK (vO (decide ((l[k]!).epoch<(0:Int)))) rfl rfl (BG (AD (vO (decide ((l[k]!).epoch<(0:Int)))) rfl (?_))))))))))
   cases b2:(decide ((l[k]!).epoch<(0:Int)))
   ·have d7:(0:Int)≤(l[k]!).epoch:=by simpa using b2
    refine DS rfl (AH 0 KC rfl (DS rfl (AK U3_ rfl (vI ((l[k]!).epoch)) rfl a1 rfl (DS rfl (HN .i64 ((l[k]!).epoch) (1048576:Int) rfl rfl (BG (BK (vO (decide ((1048576:Int)<(l[k]!).epoch))) rfl rfl (EQ (AG (AC (AJ (decide ((1048576:Int)<(l[k]!).epoch)) rfl rfl (fun a7=>?_) (fun a7=>?_))))))))))))
    ·have d8:(1048576:Int)<(l[k]!).epoch:=by simpa using a7
     refine AF (AB kR (AA (AE (vI 81) rfl (AG (AC (AM (CE (AP (AP (CE (AP (AZ rfl (CN rfl rfl rfl) (?_)))))))))))))
     have e:(BN l)=(81:Int):=by (rw [hr0_1];exact ET oM (by ((repeat ((refine (if_pos ?_).trans ?_;solve|(simp only [YR];omega))));rfl)))
     exact ⟨_,rfl,a6.keep,by rw [e];exact rfl⟩
    have d9:(l[k]!).epoch≤(1048576:Int):=by simpa using a7
    refine AT (CB (AC (AB kR (AA (DR .i64 ((k:Nat):Int) (1:Int) (((k+1:Nat):Int)) rfl rfl (GZ oM oM) (AA (AD (vI ((k+1:Nat):Int)) rfl (AG (AC (?_))))))))))
    exact ⟨_,oM,(k+1),(a5 :: a9),oM,(hr0_1.trans (IL oM (by ((repeat ((refine (if_neg ?_).trans ?_;solve|(simp only [YR];omega))));rfl)))),rfl,⟨_,BD _ ⟨rfl,rfl,rfl,(by rfl),rfl,trivial⟩⟩,a6,a0⟩
   have e0:(l[k]!).epoch<(0:Int):=by simpa using b2
   refine RU rfl (RU rfl (RU rfl (BG (BH (vO true) rfl rfl (EQ (AG (AC (AJ true rfl rfl (fun _=>AF (AB kR (AA (AE (vI 81) rfl (AG (AC (AM (CE (AP (AP (CE (AP (AZ rfl (CN rfl rfl rfl) (?_)))))))))))))) (fun h=>by cases h)))))))))
   have e:(BN l)=(81:Int):=by (rw [hr0_1];exact ET oM (by ((repeat ((refine (if_pos ?_).trans ?_;solve|(simp only [YR];omega))));rfl)))
   exact ⟨_,rfl,a6.keep,by rw [e];exact rfl⟩
  have e1:(l[k]!).epoch≠(l[0]!).epoch:=by simpa using b1
  refine RU rfl (RU rfl (RU rfl (BG (BH (vO true) rfl rfl (BG (AD (vO true) rfl (RU rfl (RU rfl (RU rfl (BG (BH (vO true) rfl rfl (EQ (AG (AC (AJ true rfl rfl (fun _=>AF (AB kR (AA (AE (vI 81) rfl (AG (AC (AM (CE (AP (AP (CE (AP (AZ rfl (CN rfl rfl rfl) (?_)))))))))))))) (fun h=>by cases h))))))))))))))))
  have e:(BN l)=(81:Int):=by (rw [hr0_1];exact ET oM (by ((repeat ((refine (if_pos ?_).trans ?_;solve|(simp only [YR];omega))));rfl)))
  exact ⟨_,rfl,a6.keep,by rw [e];exact rfl⟩
 have e2:(l.length:Int)≤((k:Nat):Int):=by simpa using a3
 refine DW (CL (CL (DK (AC (AF (AB kR (AA (AE (vI 0) rfl (AG (AC (AM (AZ rfl (CN rfl rfl rfl) (?_)))))))))))))
 have e:(BN l)=(0:Int):=by (rw [hr0_1];exact LD oM)
 exact ⟨_,rfl,c1.keep,by rw [e];exact rfl⟩
set_option maxHeartbeats 4000000 in
set_option maxRecDepth 100000 in
theorem c_sameShare {O:List Nat} (sa_cs:List Value) (sa:Share) (sb_cs:List Value) (sb:Share) (w:World) (a4:Enc.share.rd w O sa_cs sa) (a2:Enc.share.rd w O sb_cs sb) (hO:∀ b∈O,b<w.heap.size):CM Try.prog 52 [.agg sa_cs.toArray, .agg sb_cs.toArray] w (fun v _=>v = .bool (EO sa sb)):= by
 have a4:Enc.share.rd w ([]++O) sa_cs sa:=a4
 have a2:Enc.share.rd w ([]++O) sb_cs sb:=a2
 have s0:St w O w []:=St.start hO
 refine BP 40 Try.func52 rfl rfl oT (fun F0=>AF (AB kR (AA (EC (E:=Enc.share) (vA sa_cs.toArray) (sa_cs) sa rfl rfl a4 s0 fun d3 c1 c2 c3 d4 a0=>(?_)))))
 have a2:Enc.share.rd c1 ([]++O) sb_cs (sb):=Enc.mv Enc.share (x:=sb) a2 c3
 refine AA (EC (E:=Enc.share) (vA sb_cs.toArray) (sb_cs) sb rfl rfl a2 c2 fun d5 d6 a3 c4 d7 a1=>(?_))
 have a0:=a0.mv c4
 refine AA (AE (vO false) rfl (AG (AC (AF (AB kR (AA (BO 0 KC (sa.epoch) rfl a0 (fun _ _ _ h=>LX h) fun d8 b1=>(AA (CG U3_ rfl rfl b1 (AA (BO 0 KC (sb.epoch) rfl a1 (fun _ _ _ h=>LX h) fun d9 b2=>(AA (CG U3_ rfl rfl b2 (AA (EZ .i64 sa.epoch sb.epoch rfl rfl (AA (AD (vO (sa.epoch == sb.epoch)) rfl (?_))))))))))))))))))
 cases a5:(sa.epoch == sb.epoch)
 ·have c5:sa.epoch≠sb.epoch:=by simpa using a5
  refine AN rfl (AN rfl (AN rfl (AN rfl (AN rfl (AA (BK (vO false) rfl rfl (AA (AD (vO false) rfl (AN rfl (AN rfl (AN rfl (AN rfl (AN rfl (AA (BK (vO false) rfl rfl (AA (AD (vO false) rfl (AN rfl (AN rfl (AN rfl (AN rfl (AN rfl (AA (BK (vO false) rfl rfl (AA (AD (vO false) rfl (AN rfl (AN rfl (AN rfl (AN rfl (AN rfl (AN rfl (AN rfl (AA (BK (vO false) rfl rfl (AA (AE (vO false) rfl (AG (AC (AM (AZ rfl (CN rfl rfl rfl) (?_))))))))))))))))))))))))))))))))))))))))))
  have e:(EO sa sb)=false:=by simp [EO, *]
  exact ⟨_,rfl,a3.keep,(by exact congrArg vO e.symm)⟩
 have c6:sa.epoch=sb.epoch:=by simpa using a5
 refine AY rfl (BO 1 QF (sa.index) rfl a0 (fun _ _ _ h=>KE h) fun e0 b3=>(AY rfl (CG U3_ rfl rfl b3 (AY rfl (BO 1 QF (sb.index) rfl a1 (fun _ _ _ h=>KE h) fun e1 b4=>(AY rfl (CG U3_ rfl rfl b4 (AY rfl (EZ .i64 sa.index sb.index rfl rfl (AA (BH (vO (sa.index == sb.index)) rfl rfl (AA (AD (vO (sa.index == sb.index)) rfl (?_))))))))))))))
 cases a6:(sa.index == sb.index)
 ·have c7:sa.index≠sb.index:=by simpa using a6
  refine AN rfl (AN rfl (AN rfl (AN rfl (AN rfl (AA (BK (vO false) rfl rfl (AA (AD (vO false) rfl (AN rfl (AN rfl (AN rfl (AN rfl (AN rfl (AA (BK (vO false) rfl rfl (AA (AD (vO false) rfl (AN rfl (AN rfl (AN rfl (AN rfl (AN rfl (AN rfl (AN rfl (AA (BK (vO false) rfl rfl (AA (AE (vO false) rfl (AG (AC (AM (AZ rfl (CN rfl rfl rfl) (?_)))))))))))))))))))))))))))))))))
  have e:(EO sa sb)=false:=by simp [EO, *]
  exact ⟨_,rfl,a3.keep,(by exact congrArg vO e.symm)⟩
 have c8:sa.index=sb.index:=by simpa using a6
 refine AY rfl (BO 2 KW (sa.threshold) rfl a0 (fun _ _ _ h=>KD h) fun e2 b5=>(AY rfl (CG U3_ rfl rfl b5 (AY rfl (BO 2 KW (sb.threshold) rfl a1 (fun _ _ _ h=>KD h) fun e3 b6=>(AY rfl (CG U3_ rfl rfl b6 (AY rfl (EZ .i64 sa.threshold sb.threshold rfl rfl (AA (BH (vO (sa.threshold == sb.threshold)) rfl rfl (AA (AD (vO (sa.threshold == sb.threshold)) rfl (?_))))))))))))))
 cases a7:(sa.threshold == sb.threshold)
 ·have c9:sa.threshold≠sb.threshold:=by simpa using a7
  refine AN rfl (AN rfl (AN rfl (AN rfl (AN rfl (AA (BK (vO false) rfl rfl (AA (AD (vO false) rfl (AN rfl (AN rfl (AN rfl (AN rfl (AN rfl (AN rfl (AN rfl (AA (BK (vO false) rfl rfl (AA (AE (vO false) rfl (AG (AC (AM (AZ rfl (CN rfl rfl rfl) (?_))))))))))))))))))))))))
  have e:(EO sa sb)=false:=by simp [EO, *]
  exact ⟨_,rfl,a3.keep,(by exact congrArg vO e.symm)⟩
 have d0:sa.threshold=sb.threshold:=by simpa using a7
 refine AY rfl (BO 3 KT (sa.many) rfl a0 (fun _ _ _ h=>OT h) fun e4 b7=>(AY rfl (CG U3_ rfl rfl b7 (AY rfl (BO 3 KT (sb.many) rfl a1 (fun _ _ _ h=>OT h) fun e5 b8=>(AY rfl (CG U3_ rfl rfl b8 (AY rfl (EZ .i64 sa.many sb.many rfl rfl (AA (BH (vO (sa.many == sb.many)) rfl rfl (AA (AD (vO (sa.many == sb.many)) rfl (?_))))))))))))))
 cases a8:(sa.many == sb.many)
 ·have d1:sa.many≠sb.many:=by simpa using a8
  refine AN rfl (AN rfl (AN rfl (AN rfl (AN rfl (AN rfl (AN rfl (AA (BK (vO false) rfl rfl (AA (AE (vO false) rfl (AG (AC (AM (AZ rfl (CN rfl rfl rfl) (?_)))))))))))))))
  have e:(EO sa sb)=false:=by simp [EO, *]
  exact ⟨_,rfl,a3.keep,(by exact congrArg vO e.symm)⟩
 have d2:sa.many=sb.many:=by simpa using a8
 refine AY rfl (BO 4 HT (sa.data) rfl a0 (fun _ _ _ h=>GO h) fun e6 b9=>(AY rfl (CI U23_ rfl rfl b9 fun e7 a9=>(?_))))
 have:=a9.len_le
 refine AY rfl (SV U23_ U5_ U9_ rfl a9 (AY rfl (BO 4 HT (sb.data) rfl a1 (fun _ _ _ h=>GO h) fun e8 c0=>(AY rfl (CI U23_ rfl rfl c0 fun e9 b0=>(?_))))))
 have:=b0.len_le
 refine AY rfl (SV U23_ U5_ U9_ rfl b0 (AY rfl (o_eqlS sa.data sb.data rfl rfl (AA (BH (vO (sa.data == sb.data)) rfl rfl (AA (AE (vO (sa.data == sb.data)) rfl (AG (AC (AM (AZ rfl (CN rfl rfl rfl) (?_))))))))))))
 have e:(EO sa sb)=(sa.data == sb.data):=by simp [EO, *]
 exact ⟨_,rfl,a3.keep,(by exact congrArg vO e.symm)⟩
set_option maxHeartbeats 4000000 in
set_option maxRecDepth 100000 in
theorem c_same8 {O:List Nat} (la_v:Value) (la:List Share) (lb_v:Value) (lb:List Share) (w:World) (a0:BL Enc.share w O la_v la) (a1:BL Enc.share w O lb_v lb) (hO:∀ b∈O,b<w.heap.size):CM Try.prog 17 [la_v,lb_v] w (fun v _=>v = .bool (JO la lb)):= by
 have c0:=a0.len_le
 have a0:BL Enc.share w ([]++O) la_v la:=a0
 have c1:=a1.len_le
 have a1:BL Enc.share w ([]++O) lb_v lb:=a1
 have s0:St w O w []:=St.start hO
 refine BP 27 Try.func17 rfl rfl oT (fun F0=>AF (AB kR (AA (AE (vO false) rfl (AG (AC (AF (AF (AB kR (AA (AD (la_v) rfl (AA (CK U32_ rfl a0 (AA (AD (lb_v) rfl (AA (CK U32_ rfl a1 (AA (DQ .i64 (la.length:Int) (lb.length:Int) rfl rfl (AG (AC (AJ ((la.length:Int) != (lb.length:Int)) rfl rfl (fun a2=>?_) (fun a2=>?_)))))))))))))))))))))))
 ·have c3:(la.length:Int)≠(lb.length:Int):=by simpa using a2
  refine AF (AB kR (AA (AE (vO false) rfl (AG (AC (AM (AP (AZ rfl (CN rfl rfl rfl) (?_)))))))))
  have e:(JO la lb)=false:=by (unfold JO;((repeat ((refine (if_pos ?_).trans ?_;omega)));rfl))
  exact ⟨_,rfl,s0.keep,(by exact congrArg vO e.symm)⟩
 have c4:(la.length:Int)=(lb.length:Int):=by simpa using a2
 refine AT (AC (AF (AF (AB kR (AA (AE (vI 0) rfl (AG (AC (BQ (DU (fun mI FI wI=>∃ (k:Nat) (B:List Nat),k≤la.length∧JO la lb=GM (fun k=>if !EO la[k]! lb[k]! then some false else none) true k (la.length - k)∧mI=la.length - k∧(∃ F1,FI=GN F1 [(0,la_v),(1,lb_v),(5,vI ((k:Nat):Int)),(27,undef)])∧St w O wI B∧BL Enc.share wI (B++O) (la_v) (la)∧BL Enc.share wI (B++O) (lb_v) (lb)) (la.length - (0)) ?_ ?_))))))))))
 ·exact ⟨(0),[],oM,(by unfold JO;((repeat ((refine (if_neg ?_).trans ?_;solve|(simp only [dbs];omega))));rfl)),rfl,⟨_,BD _ ⟨rfl,rfl,(by rfl),rfl,trivial⟩⟩,s0,a0,a1⟩
 intro d4 F c2 hI
 clear a0 a1
 obtain ⟨k,a5,hr0_0,hr0_1,d5,⟨d6,rfl⟩,b8,a0,a1⟩:=hI
 refine AF (AF (AB kR (AA (AD (vI ((k:Nat):Int)) rfl (AA (AD (la_v) rfl (AA (CK U32_ rfl a0 (AA (EB .i64 ((k:Nat):Int) (la.length:Int) rfl rfl (AG (AC (AJ (decide (((k:Nat):Int)<(la.length:Int))) rfl rfl (fun a3=>?_) (fun a3=>?_))))))))))))))
 ·have c5:((k:Nat):Int)<(la.length:Int):=by simpa using a3
  refine AT (AC (AF (BQ (AF (DP 8 _ _ kR kR kR kR kR rfl rfl fun a8 a9=>?_)))))
  have b0:=b8.call a9
  have b1:Mv a5 c2 a5 a8:=Mv.of_keep a9
  have a0:=a0.mv b1
  have a1:=a1.mv b1
  refine BG (AD (la_v) rfl (BG (AD (vI ((k:Nat):Int)) rfl (BG (DO U32_ EN .i64 ((k:Nat):Int) k rfl rfl rfl a0 oM fun c9 b4=>(BG (CY U70_ rfl EN rfl b4 fun a6 b5=>(BG (AD (lb_v) rfl (BG (AD (vI ((k:Nat):Int)) rfl (BG (DO U32_ EN .i64 ((k:Nat):Int) k rfl rfl rfl a1 oM fun d0 b6=>(BG (CY U70_ rfl EN rfl b6 fun a7 b7=>(EQ (AA (BF (vs:=[vA a6.toArray,vA a7.toArray]) enter_52 (c_sameShare (O:=a5++O) a6 (la[k]!) a7 (lb[k]!) a8 b5 b7 b0.lt) rfl b0 fun d1 d2 b2 b3 d3 b9=>(?_)))))))))))))))))))
  obtain rfl:=b9
  have a0:=a0.mv b3
  have a1:=a1.mv b3
  refine AA (FF (EO (la[k]!) (lb[k]!)) rfl (AG (AC (AJ (!(EO (la[k]!) (lb[k]!))) rfl rfl (fun a4=>?_) (fun a4=>?_)))))
  ·have c6:(EO (la[k]!) (lb[k]!))=false:=by simpa using a4
   refine AF (AB kR (AA (AE (vO false) rfl (AG (AC (AM (CE (AP (AP (CE (AP (AZ rfl (CN rfl rfl rfl) (?_)))))))))))))
   have e:(JO la lb)=false:=by (rw [hr0_1];exact ET oM (by ((repeat ((refine (if_pos ?_).trans ?_;omega)));rfl)))
   exact ⟨_,rfl,b2.keep,(by exact congrArg vO e.symm)⟩
  have c7:(EO (la[k]!) (lb[k]!))=true:=by simpa using a4
  refine AT (CB (AC (AB kR (AA (AD (vI ((k:Nat):Int)) rfl (AA (DR .i64 ((k:Nat):Int) (1:Int) (((k+1:Nat):Int)) rfl rfl (GZ oM oM) (AA (AE (vI ((k+1:Nat):Int)) rfl (AG (AC (?_))))))))))))
  exact ⟨_,oM,(k+1),a5,oM,(hr0_1.trans (IL oM (by ((repeat ((refine (if_neg ?_).trans ?_;solve|(simp only [*,dbs];done))));rfl)))),rfl,⟨_,BD _ ⟨rfl,rfl,(by rfl),rfl,trivial⟩⟩,b2,a0,a1⟩
 have c8:(la.length:Int)≤((k:Nat):Int):=by simpa using a3
 refine DW (CL (CL (DK (AC (AF (AB kR (AA (AE (vO true) rfl (AG (AC (AM (AZ rfl (CN rfl rfl rfl) (?_)))))))))))))
 have e:(JO la lb)=true:=by (rw [hr0_1];exact LD oM)
 exact ⟨_,rfl,b8.keep,(by exact congrArg vO e.symm)⟩
open Go.Fw
def MR (secret coins:List UInt8) (threshold:Int) (i:Nat):List UInt8:=secret[i]! :: ((coins.take ((i+1)*(threshold - 1).toNat)).drop (i*(threshold - 1).toNat))
theorem polyB {i n m:Nat} {t:Int} (hi:i<n) (ht:1≤t) (h:(m:Int)=(n:Int)*(t - 1)):(i+1)*(t - 1).toNat≤m:=by
  obtain ⟨T,rfl⟩:∃ T:Nat,t=(T:Int)+1:=⟨(t - 1).toNat,by omega⟩
  have e:((T:Int)+1 - 1)=(T:Int):=by omega
  rw [e] at h ⊢
  have h2:m=n*T:=by exact_mod_cast h
  rw [h2]
  exact Nat.mul_le_mul_right _ hi
theorem polyL {n m:Nat} {t:Int} (hn:n≤1000) (ht:1≤t) (ht8:t≤8) (h:(m:Int)=(n:Int)*(t - 1)):m≤7000:=by
  obtain ⟨T,rfl⟩:∃ T:Nat,t=(T:Int)+1:=⟨(t - 1).toNat,by omega⟩
  have e:((T:Int)+1 - 1)=(T:Int):=by omega
  rw [e] at h
  have h2:m=n*T:=by exact_mod_cast h
  rw [h2]
  calc n*T≤1000*7:=Nat.mul_le_mul hn (by omega)
    _=7000:=rfl
def polysM (secret coins:List UInt8) (threshold:Int):List (List UInt8):=(List.range secret.length).map fun i=>MR secret coins threshold i
def FN (secret:List UInt8) (polys:List (List UInt8)) (epoch threshold many:Int) (k:Nat):Share:=⟨epoch,(k:Int)+1,threshold,many,(List.range secret.length).map fun i=>FU polys[i]! (II ((k:Int)+1))⟩
def GW (secret:List UInt8) (epoch threshold many:Int) (coins:List UInt8):List Share:=(List.range many.toNat).map fun k=>FN secret (polysM secret coins threshold) epoch threshold many k
def EJ (secret:List UInt8) (epoch threshold many:Int) (coins:List UInt8):Int:=
  if 64<(secret.length:Int) then 1 else if (threshold<1∨many<threshold)∨8<many then 80 else if epoch<0∨1048576<epoch then 81 else if (coins.length:Int)≠(secret.length:Int)*(threshold - 1) then 1 else 0
def BB (secret:List UInt8) (epoch threshold many:Int) (coins:List UInt8):List Share × Int:=
  if EJ secret epoch threshold many coins=0 then (GW secret epoch threshold many coins,0) else ([],EJ secret epoch threshold many coins)
theorem splitM_ok {secret:List UInt8} {epoch threshold many:Int} {coins:List UInt8} {x:List Share} (h:EJ secret epoch threshold many coins=0) (hx:GW secret epoch threshold many coins=x):BB secret epoch threshold many coins=(x,0):=by
  unfold BB;rw [if_pos h,hx]
theorem HY {secret:List UInt8} {epoch threshold many:Int} {coins:List UInt8} {e:Int} (h:EJ secret epoch threshold many coins=e) (he:e≠0):BB secret epoch threshold many coins=([],e):=by
  unfold BB;rw [if_neg (by rw [h];exact he),h]
theorem GB {α:Type} [Inhabited α] (n:Nat) (f:Nat→α) (i:Nat) (h:i<n):((List.range n).map f)[i]! = f i:=by
  rw [getElem!_pos _ i (by simpa using h)];simp
theorem ZE {secret coins:List UInt8} {threshold:Int} {i:Nat} (h:i<secret.length):(polysM secret coins threshold)[i]! = MR secret coins threshold i:=GB _ _ _ h
theorem HC (secret:List UInt8) (epoch threshold many:Int) (coins:List UInt8):EJ secret epoch threshold many coins=0↔secret.length≤64∧1≤threshold∧threshold≤many∧many≤8∧0≤epoch∧epoch≤1048576∧(coins.length:Int)=(secret.length:Int)*(threshold - 1):=by
  unfold EJ
  by_cases h1:64<(secret.length:Int)
  · rw [if_pos h1];omega
  rw [if_neg h1]
  by_cases h2:(threshold<1∨many<threshold)∨8<many
  · rw [if_pos h2];omega
  rw [if_neg h2]
  by_cases h3:epoch<0∨1048576<epoch
  · rw [if_pos h3];omega
  rw [if_neg h3]
  by_cases h4:(coins.length:Int)≠(secret.length:Int)*(threshold - 1)
  · rw [if_pos h4];exact ⟨fun h=>(by omega),fun h=>absurd h.2.2.2.2.2.2 h4⟩
  · rw [if_neg h4];exact ⟨fun _=>⟨by omega,by omega,by omega,by omega,by omega,by omega,Classical.not_not.1 h4⟩,fun _=>rfl⟩
def PE (l:List Share):List UInt8:=(List.range l.length).map fun i=>II l[i]!.index
def IG (l:List Share) (p:Nat):List UInt8:=(List.range l.length).map fun i=>l[i]!.data[p]!
theorem JY (l:List Share):(PE l).length=l.length:=by simp [PE]
theorem QD (l:List Share) (p:Nat):(IG l p).length=l.length:=by simp [IG]
def joinL (l:List Share):List UInt8:=(List.range l[0]!.data.length).map fun p=>(FJ (PE l) (IG l p) 0).1
def CS (l:List Share):List UInt8 × Int:=if BN l≠0 then ([],BN l) else if (l.length:Int)<l[0]!.threshold then ([],80) else (joinL (l.take l[0]!.threshold.toNat),0)
theorem YD {l:List Share} {x:List UInt8} (h:BN l=0) (h2:l[0]!.threshold≤(l.length:Int)) (hx:joinL (l.take l[0]!.threshold.toNat)=x):CS l=(x,0):=by
  unfold CS;rw [if_neg (by omega),if_neg (by omega),hx]
theorem ZO {l:List Share} {e:Int} (h:BN l≠0) (he:BN l=e):CS l=([],e):=by
  unfold CS;rw [if_pos h,he]
theorem TQ {l:List Share} {e:Int} (h:BN l=0) (h2:(l.length:Int)<l[0]!.threshold) (he:(80:Int)=e):CS l=([],e):=by
  unfold CS;rw [if_neg (by omega),if_pos (by omega),he]
theorem take0 {α:Type} [Inhabited α] {l:List α} {n:Nat} (h:0<n):(l.take n)[0]! = l[0]!:=by
  rw [getElem!_def,List.getElem?_take,if_pos h,getElem!_def]
theorem takeS {α:Type} [Inhabited α] {l:List α} {n i:Nat} (h:i<n):(l.take n)[i]! = l[i]!:=by
  rw [getElem!_def,List.getElem?_take,if_pos h,getElem!_def]
def HP (l:List Share) (m:Nat):List UInt8:=0 :: PE l++(List.range m).map (fun i:Nat=>II (9+(i:Int)))
theorem IU (l:List Share) (m:Nat):(HP l m).length=1+l.length+m:=by simp [HP,JY];omega
def JK (l:List Share) (b:UInt8) (p m:Nat):List UInt8:=b :: IG l p++List.replicate m 0
theorem expY_len (l:List Share) (b:UInt8) (p m:Nat):(JK l b p m).length=1+l.length+m:=by simp [JK,QD];omega
def JU (l:List Share) (secret:List UInt8) (m:Nat):Nat→List UInt8
  | 0=>[]
  | p+1=>JU l secret m p++(EH (HP l m) (JK l secret[p]! p m)).1.drop 1
def AQ (l:List Share) (secret:List UInt8):List UInt8 × Int:=
  if BN l≠0 then ([],BN l) else if l[0]!.threshold≤(l.length:Int) then ([],80) else if (secret.length:Int)≠(l[0]!.data.length:Int) then ([],1) else (JU l secret (l[0]!.threshold.toNat - 1 - l.length) secret.length,0)
open Go.Fw Go.RowKit
set_option maxHeartbeats 4000000 in
set_option maxRecDepth 100000 in
theorem c_polynomial {O:List Nat} (secret_v:Value) (secret:List UInt8) (coins_v:Value) (coins:List UInt8) (threshold:Int) (i:Nat) (w:World) (a1:BL Enc.u8 w O secret_v secret) (a0:BL Enc.u8 w O coins_v coins) (hpre0:1≤threshold) (hpre1:threshold≤8) (hpre2:i<secret.length) (hpre3:secret.length≤64) (hpre4:(coins.length:Int)=(secret.length:Int)*(threshold - 1)) (hO:∀ b∈O,b<w.heap.size):CM Try.prog 46 [secret_v,coins_v,vI threshold,vI (i:Int)] w (fun v w'=>∃ (x0:Value),v=x0∧BL Enc.u8 w' (O) x0 (MR secret coins threshold i)):= by
 have b2:=a1.len_le
 have a1:BL Enc.u8 w ([]++O) secret_v secret:=a1
 have c2:=a0.len_le
 have a0:BL Enc.u8 w ([]++O) coins_v coins:=a0
 have s0:St w O w []:=St.start hO
 have hpb:=polyB hpre2 hpre0 hpre4
 have hpl:=polyL oM hpre0 hpre1 hpre4
 refine BP 31 Try.func46 rfl rfl oT (fun F0=>AF (AB kR (AA (AE (nS) rfl (AG (AC (AF (AB kR (AA (AD (vI (i:Int)) rfl (AA (AD (vI threshold) rfl (AA (KI .i64 threshold (1:Int) ((((threshold - 1).toNat:Nat):Int)) rfl rfl (GZ oM oM) (AA (o_mul .i64 (i:Int) (((threshold - 1).toNat:Nat):Int) (((i*(threshold - 1).toNat:Nat):Int)) rfl rfl (GZ (mulbN oM oM) (by simp)) (AA (AD (vI (i:Int)) rfl (AA (DR .i64 (i:Int) (1:Int) (((i+1:Nat):Int)) rfl rfl (GZ oM oM) (AA (AD (vI threshold) rfl (AA (KI .i64 threshold (1:Int) ((((threshold - 1).toNat:Nat):Int)) rfl rfl (GZ oM oM) (AA (o_mul .i64 ((i+1:Nat):Int) (((threshold - 1).toNat:Nat):Int) ((((i+1)*(threshold - 1).toNat:Nat):Int)) rfl rfl (GZ (mulbN oM oM) (by simp)) (AA (AE (vI ((i*(threshold - 1).toNat:Nat):Int)) rfl (AA (AE (vI (((i+1)*(threshold - 1).toNat:Nat):Int)) rfl (AG (AC (AF (FM [] [4,9] [[(0,1),(1,1),(2,1),(3,1),(5,1),(6,1),(7,1),(8,1),(4,2),(9,1),(10,0),(11,1)],[(0,1),(1,1),(2,1),(3,1),(5,1),(6,1),(7,1),(8,1),(9,1),(4,2),(10,0),(11,1)]] (by intro c F d v w hd;(try simp only [GI,FG]);exact GJ c F d v w hd) kR kR kR fun c3 a5=>?_))))))))))))))))))))))))))))))))))
 have a6:=s0.call a5
 have a7:Mv ([]) w ([]) c3:=Mv.of_keep a5
 have a1:=a1.mv a7
 have a0:=a0.mv a7
 refine ⟨?_,?_,trivial⟩
 ·refine BS (AD (secret_v) rfl (EP (BS (AD (vI (i:Int)) rfl (EP (BS (DO U23_ JD .i64 (i:Int) i rfl rfl rfl a1 oM fun e2 b3=>(EP (BS (HW U5_ rfl rfl b3 (EP (BS (AD (coins_v) rfl (EP (BS (AD (vI ((i*(threshold - 1).toNat:Nat):Int)) rfl (EP (BS (AD (vI (((i+1)*(threshold - 1).toNat:Nat):Int)) rfl (EP (BS (AD (vI (((i+1)*(threshold - 1).toNat:Nat):Int)) rfl (EP (FA (IA (E:=Enc.u8) (xs:=[.tmp 23]) U23_ JD z_5 (by decide) [vB (secret[i]!)] [[vB (secret[i]!)]] [secret[i]!] rfl rfl rfl (Parts.cons rfl rfl (Parts.nil _ _ _)) oT a6 fun c4 c5 e3 c6 a3 c7 c8 c9 b4=>(?_))))))))))))))))))))))))))
  have b5:∀ b,c4.ownBlock=some b→b∈(c5 :: []):=fun b hb=>by rw [a3] at hb;cases hb;simp
  clear c6 a3
  have a0:=a0.mv c8
  refine ⟨c9,?_⟩
  refine BS (UU U23_ JD (i*(threshold - 1).toNat) ((i+1)*(threshold - 1).toNat) ((i+1)*(threshold - 1).toNat) rfl (.inr ⟨.tmp 26, .i64,((i*(threshold - 1).toNat:Nat):Int),rfl,rfl,oM⟩) .i64 .i64 (((i+1)*(threshold - 1).toNat:Nat):Int) (((i+1)*(threshold - 1).toNat:Nat):Int) rfl oM rfl oM (Nat.mul_le_mul_right _ oM) (Nat.le_refl _) hpb a0 fun e4 b6=>(EP (UZ (DI (E:=Enc.u8) (l:=[secret[i]!]) (m:=((coins.take ((i+1)*(threshold - 1).toNat)).drop (i*(threshold - 1).toNat))) U23_ i_5 rfl (by decide) rfl rfl b4 b6 (fun _ hb=>.inl hb) b5 (by simp only [List.length_cons,List.length_nil,List.length_drop,List.length_take];omega) (by simp only [List.length_cons,List.length_nil,List.length_drop,List.length_take,maxLen];omega) c7 fun a8 e5 e6 d8 d9 d6 a9 e7 e8 b7=>(BS (AE (a8) rfl (EP (FH (AC (AM (AZ rfl (CN rfl rfl rfl) (?_))))))))))))
  have e:(MR secret coins threshold i)=(([secret[i]!])++((coins.take ((i+1)*(threshold - 1).toNat)).drop (i*(threshold - 1).toNat))):=rfl
  exact ⟨_,rfl,a9.keep,by rw [e];exact ⟨a8,rfl,b7.pub a9⟩⟩
 refine BS (AD (secret_v) rfl (EP (BS (AD (vI (i:Int)) rfl (EP (BS (DO U23_ JD .i64 (i:Int) i rfl rfl rfl a1 oM fun e9 b8=>(EP (BS (HW U5_ rfl rfl b8 (EP (BS (AD (coins_v) rfl (EP (BS (AD (vI ((i*(threshold - 1).toNat:Nat):Int)) rfl (EP (BS (AD (vI (((i+1)*(threshold - 1).toNat:Nat):Int)) rfl (EP (BS (AD (vI (((i+1)*(threshold - 1).toNat:Nat):Int)) rfl (EP (BS (UU U23_ JD (i*(threshold - 1).toNat) ((i+1)*(threshold - 1).toNat) ((i+1)*(threshold - 1).toNat) rfl (.inr ⟨.tmp 26, .i64,((i*(threshold - 1).toNat:Nat):Int),rfl,rfl,oM⟩) .i64 .i64 (((i+1)*(threshold - 1).toNat:Nat):Int) (((i+1)*(threshold - 1).toNat:Nat):Int) rfl oM rfl oM (Nat.mul_le_mul_right _ oM) (Nat.le_refl _) hpb a0 fun f0 a2=>(EP (FA (IA (E:=Enc.u8) (xs:=[.tmp 23]) U23_ JD z_5 (by decide) [vB (secret[i]!)] [[vB (secret[i]!)]] [secret[i]!] rfl rfl rfl (Parts.cons rfl rfl (Parts.nil _ _ _)) oT a6 fun d0 d1 f1 d2 a4 d3 d4 d5 b9=>(?_)))))))))))))))))))))))))))))
 have c0:∀ b,d0.ownBlock=some b→b∈(d1 :: []):=fun b hb=>by rw [a4] at hb;cases hb;simp
 clear d2 a4
 have a2:=a2.mv d4
 refine ⟨d5,?_⟩
 refine UZ (DI (E:=Enc.u8) (l:=[secret[i]!]) (m:=((coins.take ((i+1)*(threshold - 1).toNat)).drop (i*(threshold - 1).toNat))) U23_ i_5 rfl (by decide) rfl rfl b9 a2 (fun _ hb=>.inl hb) c0 (by simp only [List.length_cons,List.length_nil,List.length_drop,List.length_take];omega) (by simp only [List.length_cons,List.length_nil,List.length_drop,List.length_take,maxLen];omega) d3 fun b0 f2 f3 e0 e1 d7 b1 f4 f5 c1=>(BS (AE (b0) rfl (EP (FH (AC (AM (AZ rfl (CN rfl rfl rfl) (?_)))))))))
 have e:(MR secret coins threshold i)=(([secret[i]!])++((coins.take ((i+1)*(threshold - 1).toNat)).drop (i*(threshold - 1).toNat))):=rfl
 exact ⟨_,rfl,b1.keep,by rw [e];exact ⟨b0,rfl,c1.pub b1⟩⟩
set_option maxHeartbeats 4000000 in
set_option maxRecDepth 100000 in
theorem c_split1 {O:List Nat} (i:Nat) (secret_a:Addr) (secret:(List UInt8)) (coins_a:Addr) (coins:(List UInt8)) (threshold_a:Addr) (threshold:Int) (w:World) (a1:PT (Enc.slice Enc.u8) w O (.pointer (some secret_a)) secret) (a2:PT (Enc.slice Enc.u8) w O (.pointer (some coins_a)) coins) (a0:PT Enc.int w O (.pointer (some threshold_a)) threshold) (hpre0:1≤threshold) (hpre1:threshold≤8) (hpre2:i<secret.length) (hpre3:secret.length≤64) (hpre4:(coins.length:Int)=(secret.length:Int)*(threshold - 1)) (hO:∀ b∈O,b<w.heap.size):CM Try.prog 45 [vI (i:Int), .pointer (some secret_a), .pointer (some coins_a), .pointer (some threshold_a)] w (fun v w'=>∃ (x0:Value),v=x0∧BL Enc.u8 w' (O) x0 (MR secret coins threshold i)):= by
 have a1:PT (Enc.slice Enc.u8) w ([]++O) (.pointer (some secret_a)) secret:=a1
 have a2:PT (Enc.slice Enc.u8) w ([]++O) (.pointer (some coins_a)) coins:=a2
 have a0:PT Enc.int w ([]++O) (.pointer (some threshold_a)) threshold:=a0
 have s0:St w O w []:=St.start hO
 refine BP 11 Try.func45 rfl rfl oT (fun F0=>AF (AB kR (AA (AE (nS) rfl (AG (AC (AF (AB kR (AA (CI U23_ rfl rfl a1 fun a6 a3=>(?_)))))))))))
 have:=a3.len_le
 refine AA (CI U23_ rfl rfl a2 fun a7 a4=>(?_))
 have:=a4.len_le
 refine AA (CG U3_ rfl rfl a0 (AA (AD (vI (i:Int)) rfl (AA (BF (vs:=[a6,a7,vI threshold,vI (i:Int)]) enter_46 (c_polynomial (O:=[]++O) a6 secret a7 coins threshold i w a3 a4 oM oM oM oM oM s0.lt) rfl s0 fun a8 b1 a9 b2 b3 b0=>(?_))))))
 obtain ⟨_,rfl,a5⟩:=b0
 have:=a5.len_le
 refine AA (AE (a8) rfl (AG (AC (AM (AZ rfl (CN rfl rfl rfl) (?_))))))
 exact ⟨_,rfl,a9.keep,⟨a8,rfl,a5.out⟩⟩
set_option maxHeartbeats 4000000 in
set_option maxRecDepth 100000 in
theorem c_collectL {O:List Nat} (n:Int) (f_v:Nat) (f_caps:List Value) (f:Nat→(List UInt8)) (w:World) (a7:∀ (vs_:Array Value) (w:World),(callFunc f_v vs_).run Try.prog w = .ok (.enter f_v vs_) w) (c0:∀ (w':World) (O':List Nat),Keep [] w w'→(∀ b∈O',b∈O∨w.heap.size≤b)→(∀ b∈O',b<w'.heap.size)→∀ (i:Nat),(i:Int)<n→CM Try.prog f_v ([vI (i:Int)]++f_caps) w' (fun v w2=>∃ (x0:Value),v=x0∧BL Enc.u8 w2 (O') x0 (f i))) (hpre0:n≤1000000) (hO:∀ b∈O,b<w.heap.size):CM Try.prog 44 [vI n, .func (.func f_v) #[] f_caps.toArray] w (fun v w'=>∃ (x0:Value),v=x0∧BL (Enc.slice Enc.u8) w' (O) x0 ((List.range (n).toNat).map f)):= by
 have s0:St w O w []:=St.start hO
 refine BP 18 Try.func44 rfl rfl oT (fun F0=>AF (AB kR (AA (AE (.slice none 0 0) rfl (AG (AC (AF (AF (AB kR (AA (AD (vI n) rfl (AA (AD (vI 0) rfl (AG (AC (BQ (DU (fun mI FI wI=>∃ (k:Nat) (a0:Value) (B:List Nat),k≤n.toNat∧mI=n.toNat - k∧(∃ F1,FI=GN F1 [(1,vN (.func f_v) #[] f_caps.toArray),(4,a0),(6,vI n),(7,vI ((k:Nat):Int)),(18,undef)])∧St w O wI B∧DX (Enc.slice Enc.u8) 23 w.heap.size (B++O) wI a0 (((List.range k).map f))∧(∀ b,a0.ownBlock=some b→b∈B)) (n.toNat - (0)) ?_ ?_)))))))))))))))))
 ·exact ⟨(0),(.slice none 0 0),[],oM,rfl,⟨_,BD _ ⟨rfl,rfl,rfl,(by rfl),rfl,trivial⟩⟩,s0,(by rw [show ((List.range (0)).map f)=[] from rfl];exact (DX.nil (Enc.slice Enc.u8) 23 _ _ _)),(by intro b hb;simp [Value.ownBlock] at hb)⟩
 intro d3 F c1 hI
 obtain ⟨k,a0,c2,hr0_0,d4,⟨d5,rfl⟩,a1,ho0_4,a8⟩:=hI
 refine AF (AB kR (AA (EB .i64 ((k:Nat):Int) n rfl rfl (AG (AC (AF (AJ (decide (((k:Nat):Int)<n)) rfl rfl (fun a2=>?_) (fun a2=>?_))))))))
 ·have c4:((k:Nat):Int)<n:=by simpa using a2
  refine AT (AC (AF (BQ (AF (AB kR (AA (AD (vI ((k:Nat):Int)) rfl (AA (AE (vI ((k:Nat):Int)) rfl (AG (AC (AB kR (AA (AD (a0) rfl (AA (AD (vN (.func f_v) #[] f_caps.toArray) rfl (AA (AD (vI ((k:Nat):Int)) rfl (AA (SD [] f_caps [vI ((k:Nat):Int)] a7 rfl (c0 c1 (c2++O) a1.keep (fun b hb=>(List.mem_append.1 hb).elim (fun h=>.inr (a1.new b h).1) .inl) a1.lt k  oM) rfl rfl a1 fun a5 c7 b1 b2 b3 b4=>(?_)))))))))))))))))))))
  obtain ⟨_,rfl,a3⟩:=b4
  have:=a3.len_le
  have ho0_4:=ho0_4.mv b2 b3 (by simp)
  refine AA (KH (E:=(Enc.slice Enc.u8)) (xs:=[.tmp 13]) U83_ s_23 z_23 (by decide) [a5] [[a5]] [f k] rfl rfl rfl (Parts.cons (FB a3.oneCell) ⟨_,rfl,a3⟩ (Parts.nil _ _ _)) oT b1 fun c8 c9 b5 b6 b7 a4=>(?_))
  have ho0_4:=ho0_4.mv b6 b7 (by simp)
  have:=a4.len_le
  refine AA (DI (E:=(Enc.slice Enc.u8)) (l:=((List.range k).map f)) (m:=[f k]) U83_ i_23 rfl (by decide) rfl rfl ho0_4 a4 (fun _ hb=>.inl hb) a8 (by simp;omega) (by simp [maxLen];omega) b5 fun a6 d0 b8 a9 c5 c3 b9 d1 d2 b0=>(AA (AE (a6) rfl (AG (CB (AC (AB kR (AA (DR .i64 ((k:Nat):Int) (1:Int) (((k+1:Nat):Int)) rfl rfl (GZ oM oM) (AA (AD (vI ((k+1:Nat):Int)) rfl (AG (AC (?_))))))))))))))
  exact ⟨_,oM,(k+1),a6,b8,oM,rfl,⟨_,BD _ ⟨rfl,rfl,rfl,(by rfl),rfl,trivial⟩⟩,b9,(by rw [show ((List.range (k+1)).map f)=((List.range k).map f)++([f k]) from by simp [List.range_succ]];exact b0),a9⟩
 have c6:n≤((k:Nat):Int):=by simpa using a2
 obtain rfl:k=n.toNat:=by omega
 refine DW (CL (CL (DK (AC (AF (AB kR (AA (AD (a0) rfl (AA (AE (a0) rfl (AG (AC (AM (AZ rfl (CN rfl rfl rfl) (?_)))))))))))))))
 have e:((List.range (n).toNat).map f)=((List.range n.toNat).map f):=rfl
 exact ⟨_,rfl,a1.keep,by rw [e];exact ⟨a0,rfl,ho0_4.pub a1⟩⟩
set_option maxHeartbeats 4000000 in
set_option maxRecDepth 100000 in
theorem RQ {O:List Nat} (n:Int) (f_v:Nat) (f_caps:List Value) (f:Nat→Share) (w:World) (a8:∀ (vs_:Array Value) (w:World),(callFunc f_v vs_).run Try.prog w = .ok (.enter f_v vs_) w) (c1:∀ (w':World) (O':List Nat),Keep [] w w'→(∀ b∈O',b∈O∨w.heap.size≤b)→(∀ b∈O',b<w'.heap.size)→∀ (i:Nat),(i:Int)<n→CM Try.prog f_v ([vI (i:Int)]++f_caps) w' (fun v w2=>∃ (x0:List Value),v = .agg x0.toArray∧Enc.share.rd w2 (O') x0 (f i))) (hpre0:n≤1000000) (hO:∀ b∈O,b<w.heap.size):CM Try.prog 47 [vI n, .func (.func f_v) #[] f_caps.toArray] w (fun v w'=>∃ (x0:Value),v=x0∧BL Enc.share w' (O) x0 ((List.range (n).toNat).map f)):= by
 have s0:St w O w []:=St.start hO
 refine BP 18 Try.func47 rfl rfl oT (fun F0=>AF (AB kR (AA (AE (.slice none 0 0) rfl (AG (AC (AF (AF (AB kR (AA (AD (vI n) rfl (AA (AD (vI 0) rfl (AG (AC (BQ (DU (fun mI FI wI=>∃ (k:Nat) (a0:Value) (B:List Nat),k≤n.toNat∧mI=n.toNat - k∧(∃ F1,FI=GN F1 [(1,vN (.func f_v) #[] f_caps.toArray),(4,a0),(6,vI n),(7,vI ((k:Nat):Int)),(18,undef)])∧St w O wI B∧DX Enc.share 70 w.heap.size (B++O) wI a0 (((List.range k).map f))∧(∀ b,a0.ownBlock=some b→b∈B)) (n.toNat - (0)) ?_ ?_)))))))))))))))))
 ·exact ⟨(0),(.slice none 0 0),[],oM,rfl,⟨_,BD _ ⟨rfl,rfl,rfl,(by rfl),rfl,trivial⟩⟩,s0,(by rw [show ((List.range (0)).map f)=[] from rfl];exact (DX.nil Enc.share 70 _ _ _)),(by intro b hb;simp [Value.ownBlock] at hb)⟩
 intro d4 F c2 hI
 obtain ⟨k,a0,c3,hr0_0,d5,⟨d6,rfl⟩,a1,ho0_4,a9⟩:=hI
 refine AF (AB kR (AA (EB .i64 ((k:Nat):Int) n rfl rfl (AG (AC (AF (AJ (decide (((k:Nat):Int)<n)) rfl rfl (fun a2=>?_) (fun a2=>?_))))))))
 ·have c6:((k:Nat):Int)<n:=by simpa using a2
  refine AT (AC (AF (BQ (AF (AB kR (AA (AD (vI ((k:Nat):Int)) rfl (AA (AE (vI ((k:Nat):Int)) rfl (AG (AC (AB kR (AA (AD (a0) rfl (AA (AD (vN (.func f_v) #[] f_caps.toArray) rfl (AA (AD (vI ((k:Nat):Int)) rfl (AA (SD [] f_caps [vI ((k:Nat):Int)] a8 rfl (c1 c2 (c3++O) a1.keep (fun b hb=>(List.mem_append.1 hb).elim (fun h=>.inr (a1.new b h).1) .inl) a1.lt k  oM) rfl rfl a1 fun d1 d2 b5 b6 b7 b8=>(?_)))))))))))))))))))))
  obtain ⟨a4,rfl,b0⟩:=b8
  have ho0_4:=ho0_4.mv b6 b7 (by simp)
  refine AA (KH (E:=Enc.share) (xs:=[.tmp 13]) U32_ EN PG (by decide) [vA a4.toArray] [a4] [f k] rfl rfl rfl (Parts.cons rfl b0 (Parts.nil _ _ _)) oT b5 fun c7 d3 b9 b1 b2 a3=>(?_))
  have ho0_4:=ho0_4.mv b1 b2 (by simp)
  have:=a3.len_le
  refine AA (DI (E:=Enc.share) (l:=((List.range k).map f)) (m:=[f k]) U32_ i_70 rfl (by decide) rfl rfl ho0_4 a3 (fun _ hb=>.inl hb) a9 (by simp;omega) (by simp [maxLen];omega) b9 fun a5 c8 b3 a6 c4 c0 b4 c9 d0 a7=>(AA (AE (a5) rfl (AG (CB (AC (AB kR (AA (DR .i64 ((k:Nat):Int) (1:Int) (((k+1:Nat):Int)) rfl rfl (GZ oM oM) (AA (AD (vI ((k+1:Nat):Int)) rfl (AG (AC (?_))))))))))))))
  exact ⟨_,oM,(k+1),a5,b3,oM,rfl,⟨_,BD _ ⟨rfl,rfl,rfl,(by rfl),rfl,trivial⟩⟩,b4,(by rw [show ((List.range (k+1)).map f)=((List.range k).map f)++([f k]) from by simp [List.range_succ]];exact a7),a6⟩
 have c5:n≤((k:Nat):Int):=by simpa using a2
 obtain rfl:k=n.toNat:=by omega
 refine DW (CL (CL (DK (AC (AF (AB kR (AA (AD (a0) rfl (AA (AE (a0) rfl (AG (AC (AM (AZ rfl (CN rfl rfl rfl) (?_)))))))))))))))
 have e:((List.range (n).toNat).map f)=((List.range n.toNat).map f):=rfl
 exact ⟨_,rfl,a1.keep,by rw [e];exact ⟨a0,rfl,ho0_4.pub a1⟩⟩
set_option maxHeartbeats 4000000 in
set_option maxRecDepth 100000 in
theorem MO {O:List Nat} (n:Int) (f_v:Nat) (f_caps:List Value) (f:Nat→UInt8) (w:World) (a7:∀ (vs_:Array Value) (w:World),(callFunc f_v vs_).run Try.prog w = .ok (.enter f_v vs_) w) (b9:∀ (w':World) (O':List Nat),Keep [] w w'→(∀ b∈O',b∈O∨w.heap.size≤b)→(∀ b∈O',b<w'.heap.size)→∀ (i:Nat),(i:Int)<n→CM Try.prog f_v ([vI (i:Int)]++f_caps) w' (fun v w2=>v=vB (f i))) (hpre0:n≤1000000) (hO:∀ b∈O,b<w.heap.size):CM Try.prog 49 [vI n, .func (.func f_v) #[] f_caps.toArray] w (fun v w'=>∃ (x0:Value),v=x0∧BL Enc.u8 w' (O) x0 ((List.range (n).toNat).map f)):= by
 have s0:St w O w []:=St.start hO
 refine BP 18 Try.func49 rfl rfl oT (fun F0=>AF (AB kR (AA (AE (.slice none 0 0) rfl (AG (AC (AF (AF (AB kR (AA (AD (vI n) rfl (AA (AD (vI 0) rfl (AG (AC (BQ (DU (fun mI FI wI=>∃ (k:Nat) (a0:Value) (B:List Nat),k≤n.toNat∧mI=n.toNat - k∧(∃ F1,FI=GN F1 [(1,vN (.func f_v) #[] f_caps.toArray),(4,a0),(6,vI n),(7,vI ((k:Nat):Int)),(18,undef)])∧St w O wI B∧DX Enc.u8 5 w.heap.size (B++O) wI a0 (((List.range k).map f))∧(∀ b,a0.ownBlock=some b→b∈B)) (n.toNat - (0)) ?_ ?_)))))))))))))))))
 ·exact ⟨(0),(.slice none 0 0),[],oM,rfl,⟨_,BD _ ⟨rfl,rfl,rfl,(by rfl),rfl,trivial⟩⟩,s0,(by rw [show ((List.range (0)).map f)=[] from rfl];exact (DX.nil Enc.u8 5 _ _ _)),(by intro b hb;simp [Value.ownBlock] at hb)⟩
 intro d2 F c0 hI
 obtain ⟨k,a0,c1,hr0_0,d3,⟨d4,rfl⟩,a2,ho0_4,a8⟩:=hI
 refine AF (AB kR (AA (EB .i64 ((k:Nat):Int) n rfl rfl (AG (AC (AF (AJ (decide (((k:Nat):Int)<n)) rfl rfl (fun a1=>?_) (fun a1=>?_))))))))
 ·have c2:((k:Nat):Int)<n:=by simpa using a1
  refine AT (AC (AF (BQ (AF (AB kR (AA (AD (vI ((k:Nat):Int)) rfl (AA (AE (vI ((k:Nat):Int)) rfl (AG (AC (AB kR (AA (AD (a0) rfl (AA (AD (vN (.func f_v) #[] f_caps.toArray) rfl (AA (AD (vI ((k:Nat):Int)) rfl (AA (SD [] f_caps [vI ((k:Nat):Int)] a7 rfl (b9 c0 (c1++O) a2.keep (fun b hb=>(List.mem_append.1 hb).elim (fun h=>.inr (a2.new b h).1) .inl) a2.lt k  oM) rfl rfl a2 fun c5 c6 a9 b0 b1 b2=>(?_)))))))))))))))))))))
  obtain rfl:=b2
  have ho0_4:=ho0_4.mv b0 b1 (by simp)
  refine AA (KH (E:=Enc.u8) (xs:=[.tmp 13]) U23_ JD z_5 (by decide) [vB (f k)] [[vB (f k)]] [f k] rfl rfl rfl (Parts.cons rfl rfl (Parts.nil _ _ _)) oT a9 fun c7 c8 b3 b4 b5 a3=>(?_))
  have ho0_4:=ho0_4.mv b4 b5 (by simp)
  have:=a3.len_le
  refine AA (DI (E:=Enc.u8) (l:=((List.range k).map f)) (m:=[f k]) U23_ i_5 rfl (by decide) rfl rfl ho0_4 a3 (fun _ hb=>.inl hb) a8 (by simp;omega) (by simp [maxLen];omega) b3 fun a4 c9 b6 a5 c3 b8 b7 d0 d1 a6=>(AA (AE (a4) rfl (AG (CB (AC (AB kR (AA (DR .i64 ((k:Nat):Int) (1:Int) (((k+1:Nat):Int)) rfl rfl (GZ oM oM) (AA (AD (vI ((k+1:Nat):Int)) rfl (AG (AC (?_))))))))))))))
  exact ⟨_,oM,(k+1),a4,b6,oM,rfl,⟨_,BD _ ⟨rfl,rfl,rfl,(by rfl),rfl,trivial⟩⟩,b7,(by rw [show ((List.range (k+1)).map f)=((List.range k).map f)++([f k]) from by simp [List.range_succ]];exact a6),a5⟩
 have c4:n≤((k:Nat):Int):=by simpa using a1
 obtain rfl:k=n.toNat:=by omega
 refine DW (CL (CL (DK (AC (AF (AB kR (AA (AD (a0) rfl (AA (AE (a0) rfl (AG (AC (AM (AZ rfl (CN rfl rfl rfl) (?_)))))))))))))))
 have e:((List.range (n).toNat).map f)=((List.range n.toNat).map f):=rfl
 exact ⟨_,rfl,a2.keep,by rw [e];exact ⟨a0,rfl,ho0_4.pub a2⟩⟩
set_option maxHeartbeats 4000000 in
set_option maxRecDepth 100000 in
theorem c_split21 {O:List Nat} (i:Nat) (polys_a:Addr) (polys:(List (List UInt8))) (k_a:Addr) (k:Int) (w:World) (a0:PT (Enc.slice (Enc.slice Enc.u8)) w O (.pointer (some polys_a)) polys) (a1:PT Enc.int w O (.pointer (some k_a)) k) (hpre0:i<polys.length) (hpre1:0≤k) (hpre2:k<1000) (hO:∀ b∈O,b<w.heap.size):CM Try.prog 50 [vI (i:Int), .pointer (some polys_a), .pointer (some k_a)] w (fun v _=>v=vB (FU polys[i]! (II (k+1)))):= by
 have a0:PT (Enc.slice (Enc.slice Enc.u8)) w ([]++O) (.pointer (some polys_a)) polys:=a0
 have a1:PT Enc.int w ([]++O) (.pointer (some k_a)) k:=a1
 have s0:St w O w []:=St.start hO
 refine BP 13 Try.func50 rfl rfl oT (fun F0=>AF (AB kR (AA (AE (vB (0:UInt8)) rfl (AG (AC (AF (DP 7 _ _ kR kR kR kR kR rfl rfl fun a4 a5=>?_))))))))
 have a6:=s0.call a5
 have a7:Mv ([]) w ([]) a4:=Mv.of_keep a5
 have a0:=a0.mv a7
 have a1:=a1.mv a7
 refine BG (CI U83_ rfl rfl a0 fun b2 a2=>(?_))
 have:=a2.len_le
 refine BG (AD (vI (i:Int)) rfl (BG (DO U83_ s_23 .i64 (i:Int) i rfl rfl rfl a2 oM fun b3 a9=>(BG (CI U23_ rfl rfl a9 fun a8 a3=>(?_))))))
 have:=a3.len_le
 refine BG (CG U3_ rfl rfl a1 (BG (DR .i64 k (1:Int) (k+(1:Int)) rfl rfl (GZ oM oM) (BG (o_u8of .i64 U3_ U5_ (k+(1:Int)) rfl (EQ (AA (BF (vs:=[a8,vB (II (k+(1:Int)))]) YM (c_eval (O:=[]++O) a8 (polys[i]!) (II (k+(1:Int))) a4 a3 a6.lt) rfl a6 fun b4 b5 b0 b6 b7 b1=>(?_)))))))))
 obtain rfl:=b1
 refine AA (AE (vB (FU (polys[i]!) (II (k+(1:Int))))) rfl (AG (AC (AM (AZ rfl (CN rfl rfl rfl) (?_))))))
 have e:(FU polys[i]! (II (k+1)))=(FU (polys[i]!) (II (k+(1:Int)))):=rfl
 exact ⟨_,rfl,b0.keep,by rw [e];exact rfl⟩
set_option maxHeartbeats 4000000 in
set_option maxRecDepth 100000 in
theorem c_split2 {O:List Nat} (k:Nat) (secret_a:Addr) (secret:(List UInt8)) (polys_a:Addr) (polys:(List (List UInt8))) (epoch_a:Addr) (epoch:Int) (threshold_a:Addr) (threshold:Int) (many_a:Addr) (many:Int) (w:World) (a2:PT (Enc.slice Enc.u8) w O (.pointer (some secret_a)) secret) (a4:PT (Enc.slice (Enc.slice Enc.u8)) w O (.pointer (some polys_a)) polys) (a1:PT Enc.int w O (.pointer (some epoch_a)) epoch) (a0:PT Enc.int w O (.pointer (some threshold_a)) threshold) (a3:PT Enc.int w O (.pointer (some many_a)) many) (hpre0:polys.length=secret.length) (hpre1:(k:Int)<many) (hpre2:many≤8) (hpre3:secret.length≤64) (hO:∀ b∈O,b<w.heap.size):CM Try.prog 48 [vI (k:Int), .pointer (some secret_a), .pointer (some polys_a), .pointer (some epoch_a), .pointer (some threshold_a), .pointer (some many_a)] w (fun v w'=>∃ (x0:List Value),v = .agg x0.toArray∧Enc.share.rd w' (O) x0 (FN secret polys epoch threshold many k)):= by
 have a2:PT (Enc.slice Enc.u8) w ([]++O) (.pointer (some secret_a)) secret:=a2
 have a4:PT (Enc.slice (Enc.slice Enc.u8)) w ([]++O) (.pointer (some polys_a)) polys:=a4
 have a1:PT Enc.int w ([]++O) (.pointer (some epoch_a)) epoch:=a1
 have a0:PT Enc.int w ([]++O) (.pointer (some threshold_a)) threshold:=a0
 have a3:PT Enc.int w ([]++O) (.pointer (some many_a)) many:=a3
 have s0:St w O w []:=St.start hO
 refine BP 20 Try.func48 rfl rfl oT (fun F0=>AF (AB kR (AA (EC (E:=Enc.int) (vI (k:Int)) ([vI (k:Int)]) (k:Int) rfl rfl rfl s0 fun b0 c5 b7 a9 c6 a6=>(?_)))))
 have a2:=a2.mv a9
 have a4:=a4.mv a9
 have a1:=a1.mv a9
 have a0:=a0.mv a9
 have a3:=a3.mv a9
 refine AA (CR [vI 0,vI 0,vI 0,vI 0,nS] PG rfl b7 fun b4 b8 b9 b5 a8 c7 b2=>(?_))
 clear b9
 have a2:=a2.mv a8
 have a4:=a4.mv a8
 have a1:=a1.mv a8
 have a0:=a0.mv a8
 have a3:=a3.mv a8
 have a6:=a6.mv a8
 refine AG (AC (AF (AB kR (AA (CI U23_ rfl rfl a2 fun c8 b3=>(?_))))))
 have:=b3.len_le
 refine AA (CK U23_ rfl b3 (AA (DF (first:=[]) (captured:=[.tmp 2, .tmp 6]) [] [vP (some polys_a),vP (some b0)] rfl rfl (AA (BF (vs:=[vI (secret.length:Int),vN (.func 50) #[] #[vP (some polys_a),vP (some b0)]]) PW (MO (O:=(b4 :: [])++O) (secret.length:Int) 50 [vP (some polys_a),vP (some b0)] (fun i_=>FU polys[i_]! (II ((k:Int)+1))) b8 enter_50 (fun w'_ O'_ kk_ hs_ hl_ i_  hc_=>c_split21 (O:=O'_) i_ polys_a polys b0 (k:Int) w'_ (a4.on hs_ kk_) (a6.on hs_ kk_) oM oM oM hl_) oM b5.lt) rfl b5 fun a5 c9 c0 b1 c1 c2=>(?_))))))
 obtain ⟨_,rfl,a7⟩:=c2
 have:=a7.len_le
 have a1:=a1.mv b1
 have a0:=a0.mv b1
 have a3:=a3.mv b1
 have a6:=a6.mv b1
 have b2:=b2.keep c1 (by simp)
 refine AA (AE (a5) rfl (AG (AC (AF (AB kR (AA (CG U3_ rfl rfl a1 (AA (CG U3_ rfl rfl a6 (AA (DR .i64 (k:Int) (1:Int) ((k:Int)+(1:Int)) rfl rfl (GZ oM oM) (AA (CG U3_ rfl rfl a0 (AA (CG U3_ rfl rfl a3 (AA (AD (a5) rfl (AA (DN (l:=[(0, .tmp 13),(1, .tmp 15),(2, .tmp 16),(3, .tmp 17),(4, .tmp 18)]) pl_70 PG rfl [(0,vI epoch,[vI epoch]),(1,vI ((k:Int)+(1:Int)),[vI ((k:Int)+(1:Int))]),(2,vI threshold,[vI threshold]),(3,vI many,[vI many]),(4,a5,[a5])] [vI epoch,vI ((k:Int)+(1:Int)),vI threshold,vI many,a5] rfl ⟨_,rfl,rfl,oT,⟨_,rfl,rfl,oT,⟨_,rfl,rfl,oT,⟨_,rfl,rfl,oT,⟨_,rfl,(FB a7.oneCell),oT,rfl⟩⟩⟩⟩⟩ (BZ (BE (vs:=[vI epoch,vI ((k:Int)+(1:Int)),vI threshold,vI many,a5]) (.agg #[vI epoch,vI ((k:Int)+(1:Int)),vI threshold,vI many,a5]) rfl rfl rfl EN (fun u hu=>by simp only [List.mem_cons,List.not_mem_nil,or_false] at hu;rcases hu with rfl|rfl|rfl|rfl|rfl <;> first|rfl|exact a7.oneCell) (by repeat (constructor)) b2 oT c0 fun d0 c3 c4 d1 b6=>(?_))))))))))))))))))))))
 have a7:=a7.mv c4
 refine AG (AC (AM (AZ rfl (rescA (vs:=[vI epoch,vI ((k:Int)+(1:Int)),vI threshold,vI many,a5]) rfl rfl U70_ rfl EN rfl b6 rfl) (?_))))
 have e:(FN secret polys epoch threshold many k)=(⟨epoch,(k:Int)+(1:Int),threshold,many,(List.range ((secret.length:Int)).toNat).map (fun i_=>FU polys[i_]! (II ((k:Int)+1)))⟩:Share):=rfl
 exact ⟨_,rfl,c3.keep,by rw [e];exact ⟨[vI epoch,vI ((k:Int)+(1:Int)),vI threshold,vI many,a5],rfl,Enc.out (B:=(b4 :: [])) ⟨_,rfl,a7⟩⟩⟩
set_option maxHeartbeats 4000000 in
set_option maxRecDepth 100000 in
theorem TD {O:List Nat} (secret_v:Value) (secret:List UInt8) (epoch:Int) (threshold:Int) (many:Int) (coins_v:Value) (coins:List UInt8) (w:World) (a6:BL Enc.u8 w O secret_v secret) (a3:BL Enc.u8 w O coins_v coins) (hO:∀ b∈O,b<w.heap.size):CM Try.prog 16 [secret_v,vI epoch,vI threshold,vI many,coins_v] w (fun v w'=>∃ (x0:Value),v = .tuple #[x0,vI ((BB secret epoch threshold many coins).2)]∧BL Enc.share w' (O) x0 ((BB secret epoch threshold many coins).1)):= by
 have e0:=a6.len_le
 have a6:BL Enc.u8 w ([]++O) secret_v secret:=a6
 have f7:=a3.len_le
 have a3:BL Enc.u8 w ([]++O) coins_v coins:=a3
 have s0:St w O w []:=St.start hO
 refine BP 53 Try.func16 rfl rfl oT (fun F0=>AF (AB kR (AA (EC (E:=(Enc.slice Enc.u8)) (secret_v) ([secret_v]) secret rfl (FB a6.oneCell) ⟨_,rfl,a6⟩ s0 fun a8 h3 e1 e2 h4 a0=>(?_)))))
 have a3:=a3.mv e2
 refine AA (EC (E:=Enc.int) (vI epoch) ([vI epoch]) epoch rfl rfl rfl e1 fun b2 h5 e3 d5 h6 a1=>(?_))
 have a3:=a3.mv d5
 have a0:=a0.mv d5
 refine AA (EC (E:=Enc.int) (vI threshold) ([vI threshold]) threshold rfl rfl rfl e3 fun a9 h7 e4 c5 h8 a2=>(?_))
 have a3:=a3.mv c5
 have a0:=a0.mv c5
 have a1:=a1.mv c5
 refine AA (EC (E:=Enc.int) (vI many) ([vI many]) many rfl rfl rfl e4 fun b3 h9 e5 b4 i0 a4=>(?_))
 have a3:=a3.mv b4
 have a0:=a0.mv b4
 have a1:=a1.mv b4
 have a2:=a2.mv b4
 refine AA (EC (E:=(Enc.slice Enc.u8)) (coins_v) ([coins_v]) coins rfl (FB a3.oneCell) ⟨_,rfl,a3⟩ e5 fun b5 e6 a5 b6 i1 c6=>(?_))
 have a0:=a0.mv b6
 have a1:=a1.mv b6
 have a2:=a2.mv b6
 have a4:=a4.mv b6
 refine AA (AE (nS) rfl (AA (AE (vI 0) rfl (AG (AC (AF (BQ (AF (AB kR (AA (CI U23_ rfl rfl a0 fun i2 c7=>(?_))))))))))))
 have:=c7.len_le
 refine AA (CK U23_ rfl c7 (AA (HN .i64 (secret.length:Int) (64:Int) rfl rfl (AA (AE (vO (decide ((64:Int)<(secret.length:Int)))) rfl (AG (AC (AJ (decide ((64:Int)<(secret.length:Int))) rfl rfl (fun c1=>?_) (fun c1=>?_)))))))))
 ·have f8:(64:Int)<(secret.length:Int):=by simpa using c1
  refine AF (AB kR (AA (AE (nS) rfl (AA (AE (vI 1) rfl (AG (AC (AM (CE (AP (AZ rfl (GE rfl rfl rfl rfl) (?_))))))))))))
  have e:(BB secret epoch threshold many coins)=([],(1:Int)):=by exact HY (by unfold EJ;((repeat ((refine (if_pos ?_).trans ?_;omega)));rfl)) (by decide)
  exact ⟨_,rfl,a5.keep,by rw [e];exact ⟨.slice none 0 0,rfl,BL.nil _ _ _⟩⟩
 have f9:(secret.length:Int)≤(64:Int):=by simpa using c1
 refine AF (AB kR (AA (CG U3_ rfl rfl a2 (AA (EB .i64 threshold (1:Int) rfl rfl (AA (AD (vO (decide (threshold<(1:Int)))) rfl (?_))))))))
 cases c8:(decide (threshold<(1:Int)))
 ·have g0:(1:Int)≤threshold:=by simpa using c8
  refine AY rfl (CG U3_ rfl rfl a2 (AY rfl (CG U3_ rfl rfl a4 (AY rfl (HN .i64 threshold many rfl rfl (AA (BK (vO (decide (many<threshold))) rfl rfl (AA (AD (vO (decide (many<threshold))) rfl (?_))))))))))
  cases c9:(decide (many<threshold))
  ·have g1:threshold≤many:=by simpa using c9
   refine AY rfl (CG U3_ rfl rfl a4 (AY rfl (HN .i64 many (8:Int) rfl rfl (AA (BK (vO (decide ((8:Int)<many))) rfl rfl (AA (AE (vO (decide ((8:Int)<many))) rfl (AG (AC (AJ (decide ((8:Int)<many)) rfl rfl (fun c2=>?_) (fun c2=>?_)))))))))))
   ·have g2:(8:Int)<many:=by simpa using c2
    refine AF (AB kR (AA (AE (nS) rfl (AA (AE (vI 80) rfl (AG (AC (AM (CE (AP (AZ rfl (GE rfl rfl rfl rfl) (?_))))))))))))
    have e:(BB secret epoch threshold many coins)=([],(80:Int)):=by exact HY (by unfold EJ;((repeat (first|(refine (if_pos ?_).trans ?_;omega)|(refine (if_neg ?_).trans ?_;omega)));rfl)) (by decide)
    exact ⟨_,rfl,a5.keep,by rw [e];exact ⟨.slice none 0 0,rfl,BL.nil _ _ _⟩⟩
   have g3:many≤(8:Int):=by simpa using c2
   refine AF (AB kR (AA (CG U3_ rfl rfl a1 (AA (EB .i64 epoch (0:Int) rfl rfl (AA (AD (vO (decide (epoch<(0:Int)))) rfl (?_))))))))
   cases d0:(decide (epoch<(0:Int)))
   ·have g4:(0:Int)≤epoch:=by simpa using d0
    refine AY rfl (CG U3_ rfl rfl a1 (AY rfl (HN .i64 epoch (1048576:Int) rfl rfl (AA (BK (vO (decide ((1048576:Int)<epoch))) rfl rfl (AA (AE (vO (decide ((1048576:Int)<epoch))) rfl (AG (AC (AJ (decide ((1048576:Int)<epoch)) rfl rfl (fun c3=>?_) (fun c3=>?_)))))))))))
    ·have g5:(1048576:Int)<epoch:=by simpa using c3
     refine AF (AB kR (AA (AE (nS) rfl (AA (AE (vI 81) rfl (AG (AC (AM (CE (AP (AZ rfl (GE rfl rfl rfl rfl) (?_))))))))))))
     have e:(BB secret epoch threshold many coins)=([],(81:Int)):=by exact HY (by unfold EJ;((repeat (first|(refine (if_pos ?_).trans ?_;omega)|(refine (if_neg ?_).trans ?_;omega)));rfl)) (by decide)
     exact ⟨_,rfl,a5.keep,by rw [e];exact ⟨.slice none 0 0,rfl,BL.nil _ _ _⟩⟩
    have g6:epoch≤(1048576:Int):=by simpa using c3
    refine AF (AB kR (AA (CI U23_ rfl rfl c6 fun i3 d1=>(?_))))
    have:=d1.len_le
    refine AA (CK U23_ rfl d1 (AA (CI U23_ rfl rfl a0 fun i4 d2=>(?_))))
    have:=d2.len_le
    refine AA (CK U23_ rfl d2 (AA (CG U3_ rfl rfl a2 (AA (KI .i64 threshold (1:Int) (threshold - (1:Int)) rfl rfl (GZ oM oM) (AA (o_mul .i64 (secret.length:Int) (threshold - (1:Int)) ((secret.length:Int)*(threshold - (1:Int))) rfl rfl (GZ (mulb oM oM oM oM) rfl) (AA (DQ .i64 (coins.length:Int) ((secret.length:Int)*(threshold - (1:Int))) rfl rfl (AA (AE (vO ((coins.length:Int) != ((secret.length:Int)*(threshold - (1:Int))))) rfl (AG (AC (AJ ((coins.length:Int) != ((secret.length:Int)*(threshold - (1:Int)))) rfl rfl (fun c4=>?_) (fun c4=>?_)))))))))))))))
    ·have g7:(coins.length:Int)≠(secret.length:Int)*(threshold - (1:Int)):=by simpa using c4
     refine AF (AB kR (AA (AE (nS) rfl (AA (AE (vI 1) rfl (AG (AC (AM (CE (AP (AZ rfl (GE rfl rfl rfl rfl) (?_))))))))))))
     have e:(BB secret epoch threshold many coins)=([],(1:Int)):=by exact HY (by unfold EJ;((repeat (first|(refine (if_pos ?_).trans ?_;omega)|(refine (if_neg ?_).trans ?_;omega)));rfl)) (by decide)
     exact ⟨_,rfl,a5.keep,by rw [e];exact ⟨.slice none 0 0,rfl,BL.nil _ _ _⟩⟩
    have g8:(coins.length:Int)=(secret.length:Int)*(threshold - (1:Int)):=by simpa using c4
    refine AT (CB (AC (AF (AB kR (AA (CI U23_ rfl rfl a0 fun i5 d3=>(?_)))))))
    have:=d3.len_le
    refine AA (CK U23_ rfl d3 (AA (DF (first:=[]) (captured:=[.tmp 5, .tmp 9, .tmp 7]) [] [vP (some a8),vP (some b5),vP (some a9)] rfl rfl (AA (BF (vs:=[vI (secret.length:Int),vN (.func 45) #[] #[vP (some a8),vP (some b5),vP (some a9)]]) enter_44 (c_collectL (O:=[]++O) (secret.length:Int) 45 [vP (some a8),vP (some b5),vP (some a9)] (fun i_=>MR secret coins threshold i_) e6 enter_45 (fun w'_ O'_ kk_ hs_ hl_ i_  hc_=>c_split1 (O:=O'_) i_ a8 secret b5 coins a9 threshold w'_ (a0.on hs_ kk_) (c6.on hs_ kk_) (a2.on hs_ kk_) oM oM oM oM oM hl_) oM a5.lt) rfl a5 fun e7 i6 e8 b7 i7 e9=>(?_))))))
    obtain ⟨_,rfl,a7⟩:=e9
    have:=a7.len_le
    have a0:=a0.mv b7
    have a1:=a1.mv b7
    have a2:=a2.mv b7
    have a4:=a4.mv b7
    refine AA (CR [nS] z_83 rfl e8 fun b8 i8 f0 f1 b0 i9 d7=>(?_))
    clear f0
    have a0:=a0.mv b0
    have a1:=a1.mv b0
    have a2:=a2.mv b0
    have a4:=a4.mv b0
    have a7:=a7.mv b0
    refine BZ (BY (e7) rfl rfl a7.oneCell s_83 (by repeat (constructor)) d7 oT f1 fun f2 f3 b1 j0 d8=>(?_))
    have a0:=a0.mv b1
    have a1:=a1.mv b1
    have a2:=a2.mv b1
    have a4:=a4.mv b1
    have a7:=a7.mv b1
    refine AG (AC (AF (AB kR (AA (CG U3_ rfl rfl a4 (?_))))))
    obtain ⟨f4,d6,b9,d9,g9⟩:=d8.publish (E:=(Enc.slice (Enc.slice Enc.u8))) (u:=(List.range ((secret.length:Int)).toNat).map (fun i_=>MR secret coins threshold i_)) ⟨_,rfl,a7⟩ f3 (by repeat (constructor))
    have a0:=a0.mv b9
    have a1:=a1.mv b9
    have a2:=a2.mv b9
    have a4:=a4.mv b9
    refine AA (DF (first:=[]) (captured:=[.tmp 5, .tmp 12, .tmp 6, .tmp 7, .tmp 8]) [] [vP (some a8),vP (some ⟨b8,0,none⟩),vP (some b2),vP (some a9),vP (some b3)] rfl rfl (AA (BF (vs:=[vI many,vN (.func 48) #[] #[vP (some a8),vP (some ⟨b8,0,none⟩),vP (some b2),vP (some a9),vP (some b3)]]) XW (RQ (O:=f4++O) many 48 [vP (some a8),vP (some ⟨b8,0,none⟩),vP (some b2),vP (some a9),vP (some b3)] (fun i_=>FN secret ((List.range ((secret.length:Int)).toNat).map (fun i_=>MR secret coins threshold i_)) epoch threshold many i_) f2 enter_48 (fun w'_ O'_ kk_ hs_ hl_ i_  hc_=>c_split2 (O:=O'_) i_ a8 secret (⟨b8,0,none⟩) ((List.range ((secret.length:Int)).toNat).map (fun i_=>MR secret coins threshold i_)) b2 epoch a9 threshold b3 many w'_ (a0.on hs_ kk_) (d9.on hs_ kk_) (a1.on hs_ kk_) (a2.on hs_ kk_) (a4.on hs_ kk_) (by simp) oM oM oM hl_) oM d6.lt) rfl d6 fun c0 j1 f5 j2 j3 f6=>(?_))))
    obtain ⟨_,rfl,d4⟩:=f6
    have:=d4.len_le
    refine AA (AE (c0) rfl (AG (AC (AF (AB kR (AA (AD (c0) rfl (AA (AE (c0) rfl (AA (AE (vI 0) rfl (AG (AC (AM (AZ rfl (GE rfl rfl rfl rfl) (?_))))))))))))))))
    have e:(BB secret epoch threshold many coins)=((List.range (many).toNat).map (fun i_=>FN secret ((List.range ((secret.length:Int)).toNat).map (fun i_=>MR secret coins threshold i_)) epoch threshold many i_),(0:Int)):=by exact splitM_ok (by unfold EJ;((repeat ((refine (if_neg ?_).trans ?_;omega)));rfl)) rfl
    exact ⟨_,rfl,f5.keep,by rw [e];exact ⟨c0,rfl,d4.out⟩⟩
   have h0:epoch<(0:Int):=by simpa using d0
   refine AN rfl (AN rfl (AA (BH (vO true) rfl rfl (AA (AE (vO true) rfl (AG (AC (AJ true rfl rfl (fun _=>AF (AB kR (AA (AE (nS) rfl (AA (AE (vI 81) rfl (AG (AC (AM (CE (AP (AZ rfl (GE rfl rfl rfl rfl) (?_))))))))))))) (fun h=>by cases h)))))))))
   have e:(BB secret epoch threshold many coins)=([],(81:Int)):=by exact HY (by unfold EJ;((repeat (first|(refine (if_pos ?_).trans ?_;omega)|(refine (if_neg ?_).trans ?_;omega)));rfl)) (by decide)
   exact ⟨_,rfl,a5.keep,by rw [e];exact ⟨.slice none 0 0,rfl,BL.nil _ _ _⟩⟩
  have h1:many<threshold:=by simpa using c9
  refine AN rfl (AN rfl (AA (BH (vO true) rfl rfl (AA (AE (vO true) rfl (AG (AC (AJ true rfl rfl (fun _=>AF (AB kR (AA (AE (nS) rfl (AA (AE (vI 80) rfl (AG (AC (AM (CE (AP (AZ rfl (GE rfl rfl rfl rfl) (?_))))))))))))) (fun h=>by cases h)))))))))
  have e:(BB secret epoch threshold many coins)=([],(80:Int)):=by exact HY (by unfold EJ;((repeat (first|(refine (if_pos ?_).trans ?_;omega)|(refine (if_neg ?_).trans ?_;omega)));rfl)) (by decide)
  exact ⟨_,rfl,a5.keep,by rw [e];exact ⟨.slice none 0 0,rfl,BL.nil _ _ _⟩⟩
 have h2:threshold<(1:Int):=by simpa using c8
 refine AN rfl (AN rfl (AN rfl (AA (BH (vO true) rfl rfl (AA (AD (vO true) rfl (AN rfl (AN rfl (AA (BH (vO true) rfl rfl (AA (AE (vO true) rfl (AG (AC (AJ true rfl rfl (fun _=>AF (AB kR (AA (AE (nS) rfl (AA (AE (vI 80) rfl (AG (AC (AM (CE (AP (AZ rfl (GE rfl rfl rfl rfl) (?_))))))))))))) (fun h=>by cases h))))))))))))))))
 have e:(BB secret epoch threshold many coins)=([],(80:Int)):=by exact HY (by unfold EJ;((repeat (first|(refine (if_pos ?_).trans ?_;omega)|(refine (if_neg ?_).trans ?_;omega)));rfl)) (by decide)
 exact ⟨_,rfl,a5.keep,by rw [e];exact ⟨.slice none 0 0,rfl,BL.nil _ _ _⟩⟩
open Go.Fw Go.RowKit
set_option maxHeartbeats 4000000 in
set_option maxRecDepth 100000 in
theorem c_indices1 {O:List Nat} (i:Nat) (l_a:Addr) (l:(List Share)) (w:World) (a1:PT (Enc.slice Enc.share) w O (.pointer (some l_a)) l) (hpre0:i<l.length) (hO:∀ b∈O,b<w.heap.size):CM Try.prog 89 [vI (i:Int), .pointer (some l_a)] w (fun v _=>v=vB (II l[i]!.index)):= by
 have a1:PT (Enc.slice Enc.share) w ([]++O) (.pointer (some l_a)) l:=a1
 have s0:St w O w []:=St.start hO
 refine BP 10 Try.func89 rfl rfl oT (fun F0=>AF (AB kR (AA (AE (vB (0:UInt8)) rfl (AG (AC (AF (AB kR (AA (CI U32_ rfl rfl a1 fun a4 a0=>(?_)))))))))))
 have:=a0.len_le
 refine AA (AD (vI (i:Int)) rfl (AA (DO U32_ EN .i64 (i:Int) i rfl rfl rfl a0 oM fun a5 a2=>(AA (BO 1 QF ((l[i]!).index) rfl a2 (fun _ _ _ h=>KE h) fun a6 a3=>(AA (CG U3_ rfl rfl a3 (AA (o_u8of .i64 U3_ U5_ ((l[i]!).index) rfl (AA (AE (vB (II ((l[i]!).index))) rfl (AG (AC (AM (AZ rfl (CN rfl rfl rfl) (?_))))))))))))))))
 have e:(II l[i]!.index)=(II ((l[i]!).index)):=rfl
 exact ⟨_,rfl,s0.keep,by rw [e];exact rfl⟩
set_option maxHeartbeats 4000000 in
set_option maxRecDepth 100000 in
theorem ZB {O:List Nat} (l_v:Value) (l:List Share) (w:World) (a1:BL Enc.share w O l_v l) (hpre0:l.length≤1000000) (hO:∀ b∈O,b<w.heap.size):CM Try.prog 41 [l_v] w (fun v w'=>∃ (x0:Value),v=x0∧BL Enc.u8 w' (O) x0 (PE l)):= by
 have b0:=a1.len_le
 have a1:BL Enc.share w ([]++O) l_v l:=a1
 have s0:St w O w []:=St.start hO
 refine BP 7 Try.func41 rfl rfl oT (fun F0=>AF (AB kR (AA (EC (E:=(Enc.slice Enc.share)) (l_v) ([l_v]) l rfl (FB a1.oneCell) ⟨_,rfl,a1⟩ s0 fun a0 a7 a5 b1 b2 a2=>(AA (AE (nS) rfl (AG (AC (AF (AB kR (AA (CI U32_ rfl rfl a2 fun b3 a3=>(?_)))))))))))))
 have:=a3.len_le
 refine AA (CK U32_ rfl a3 (AA (DF (first:=[]) (captured:=[.tmp 1]) [] [vP (some a0)] rfl rfl (AA (BF (vs:=[vI (l.length:Int),vN (.func 89) #[] #[vP (some a0)]]) PW (MO (O:=[]++O) (l.length:Int) 89 [vP (some a0)] (fun i_=>II l[i_]!.index) a7 enter_89 (fun w'_ O'_ kk_ hs_ hl_ i_  hc_=>c_indices1 (O:=O'_) i_ a0 l w'_ (a2.on hs_ kk_) oM hl_) oM a5.lt) rfl a5 fun a6 b4 a8 b5 b6 a9=>(?_))))))
 obtain ⟨_,rfl,a4⟩:=a9
 have:=a4.len_le
 refine AA (AE (a6) rfl (AG (AC (AM (AZ rfl (CN rfl rfl rfl) (?_))))))
 have e:(PE l)=((List.range ((l.length:Int)).toNat).map (fun i_=>II l[i_]!.index)):=rfl
 exact ⟨_,rfl,a8.keep,by rw [e];exact ⟨a6,rfl,a4.out⟩⟩
set_option maxHeartbeats 4000000 in
set_option maxRecDepth 100000 in
theorem c_column1 {O:List Nat} (i:Nat) (l_a:Addr) (l:(List Share)) (place_a:Addr) (place:Int) (w:World) (a1:PT (Enc.slice Enc.share) w O (.pointer (some l_a)) l) (a0:PT Enc.int w O (.pointer (some place_a)) place) (hpre0:i<l.length) (hpre1:0≤place) (hpre2:(place).toNat<l[i]!.data.length) (hO:∀ b∈O,b<w.heap.size):CM Try.prog 90 [vI (i:Int), .pointer (some l_a), .pointer (some place_a)] w (fun v _=>v=vB (l[i]!.data[(place).toNat]!)):= by
 have a1:PT (Enc.slice Enc.share) w ([]++O) (.pointer (some l_a)) l:=a1
 have a0:PT Enc.int w ([]++O) (.pointer (some place_a)) place:=a0
 have s0:St w O w []:=St.start hO
 refine BP 13 Try.func90 rfl rfl oT (fun F0=>AF (AB kR (AA (AE (vB (0:UInt8)) rfl (AG (AC (AF (DP 9 _ _ kR kR kR kR kR rfl rfl fun a9 a4=>?_))))))))
 have b0:=s0.call a4
 have a5:Mv ([]) w ([]) a9:=Mv.of_keep a4
 have a1:=a1.mv a5
 have a0:=a0.mv a5
 refine BG (CI U32_ rfl rfl a1 fun b1 a2=>(?_))
 have:=a2.len_le
 refine BG (AD (vI (i:Int)) rfl (BG (DO U32_ EN .i64 (i:Int) i rfl rfl rfl a2 oM fun b2 a6=>(BG (BO 4 HT ((l[i]!).data) rfl a6 (fun _ _ _ h=>GO h) fun b3 a7=>(BG (CI U23_ rfl rfl a7 fun b4 a3=>(?_))))))))
 have:=a3.len_le
 refine BG (CG U3_ rfl rfl a0 (BG (DO U23_ JD .i64 place place.toNat rfl rfl oM a3 oM fun b5 a8=>(BG (HW U5_ rfl rfl a8 (BG (AE (vB (((l[i]!).data)[place.toNat]!)) rfl (EQ (AG (AC (AM (AZ rfl (CN rfl rfl rfl) (?_)))))))))))))
 have e:(l[i]!.data[(place).toNat]!)=(((l[i]!).data)[place.toNat]!):=rfl
 exact ⟨_,rfl,b0.keep,by rw [e];exact rfl⟩
set_option maxHeartbeats 4000000 in
set_option maxRecDepth 100000 in
theorem YC {O:List Nat} (l_v:Value) (l:List Share) (place:Nat) (w:World) (a3:BL Enc.share w O l_v l) (hpre0:l.length≤1000000) (hpre1:∀ k,k<l.length→place<l[k]!.data.length) (hO:∀ b∈O,b<w.heap.size):CM Try.prog 42 [l_v,vI (place:Int)] w (fun v w'=>∃ (x0:Value),v=x0∧BL Enc.u8 w' (O) x0 (IG l place)):= by
 have b4:=a3.len_le
 have a3:BL Enc.share w ([]++O) l_v l:=a3
 have s0:St w O w []:=St.start hO
 refine BP 9 Try.func42 rfl rfl oT (fun F0=>AF (AB kR (AA (EC (E:=(Enc.slice Enc.share)) (l_v) ([l_v]) l rfl (FB a3.oneCell) ⟨_,rfl,a3⟩ s0 fun a1 b5 a9 b6 b7 a0=>(AA (EC (E:=Enc.int) (vI (place:Int)) ([vI (place:Int)]) (place:Int) rfl rfl rfl a9 fun a2 b0 a6 b1 b8 a8=>(?_)))))))
 have a0:=a0.mv b1
 refine AA (AE (nS) rfl (AG (AC (AF (AB kR (AA (CI U32_ rfl rfl a0 fun b9 a4=>(?_))))))))
 have:=a4.len_le
 refine AA (CK U32_ rfl a4 (AA (DF (first:=[]) (captured:=[.tmp 2, .tmp 3]) [] [vP (some a1),vP (some a2)] rfl rfl (AA (BF (vs:=[vI (l.length:Int),vN (.func 90) #[] #[vP (some a1),vP (some a2)]]) PW (MO (O:=[]++O) (l.length:Int) 90 [vP (some a1),vP (some a2)] (fun i_=>l[i_]!.data[((place:Int)).toNat]!) b0 enter_90 (fun w'_ O'_ kk_ hs_ hl_ i_  hc_=>c_column1 (O:=O'_) i_ a1 l a2 (place:Int) w'_ (a0.on hs_ kk_) (a8.on hs_ kk_) oM oM (hpre1 i_ oM) hl_) oM a6.lt) rfl a6 fun a7 c0 b2 c1 c2 b3=>(?_))))))
 obtain ⟨_,rfl,a5⟩:=b3
 have:=a5.len_le
 refine AA (AE (a7) rfl (AG (AC (AM (AZ rfl (CN rfl rfl rfl) (?_))))))
 have e:(IG l place)=((List.range ((l.length:Int)).toNat).map (fun i_=>l[i_]!.data[((place:Int)).toNat]!)):=rfl
 exact ⟨_,rfl,b2.keep,by rw [e];exact ⟨a7,rfl,a5.out⟩⟩
set_option maxHeartbeats 4000000 in
set_option maxRecDepth 100000 in
theorem c_join1 {O:List Nat} (p:Nat) (xs_a:Addr) (xs:(List UInt8)) (l_a:Addr) (l:(List Share)) (w:World) (a1:PT (Enc.slice Enc.u8) w O (.pointer (some xs_a)) xs) (a2:PT (Enc.slice Enc.share) w O (.pointer (some l_a)) l) (hpre0:l.length≤1000) (hpre1:xs.length<1000) (hpre2:∀ k,k<l.length→p<l[k]!.data.length) (hO:∀ b∈O,b<w.heap.size):CM Try.prog 62 [vI (p:Int), .pointer (some xs_a), .pointer (some l_a)] w (fun v _=>v=vB ((FJ xs (IG l p) 0).1)):= by
 have a1:PT (Enc.slice Enc.u8) w ([]++O) (.pointer (some xs_a)) xs:=a1
 have a2:PT (Enc.slice Enc.share) w ([]++O) (.pointer (some l_a)) l:=a2
 have s0:St w O w []:=St.start hO
 refine BP 16 Try.func62 rfl rfl oT (fun F0=>AF (AB kR (AA (AE (vB (0:UInt8)) rfl (AG (AC (AF (FM [] [] [[(0,1),(1,1),(2,1),(3,2),(4,2),(5,1),(6,1),(7,1),(8,1),(9,1)]] (by intro c F d v w hd;(try simp only [GI,FG]);exact GJ c F d v w hd) kR kR kR fun a5 a6=>?_))))))))
 have a7:=s0.call a6
 have a8:Mv ([]) w ([]) a5:=Mv.of_keep a6
 have a1:=a1.mv a8
 have a2:=a2.mv a8
 refine ⟨?_,trivial⟩
 refine BS (CI U23_ rfl rfl a1 fun a9 a0=>(?_))
 have:=a0.len_le
 refine EP (BS (CI U32_ rfl rfl a2 fun b0 a3=>(?_)))
 have:=a3.len_le
 refine EP (BS (AD (vI (p:Int)) rfl (EP (FA (BF (vs:=[b0,vI (p:Int)]) XL (YC (O:=[]++O) b0 l p a5 a3 oM hpre2 a7.lt) rfl a7 fun b1 b3 b2 b4 b5 b6=>(?_))))))
 obtain ⟨_,rfl,a4⟩:=b6
 have:=a4.len_le
 have a0:=a0.mv b4
 refine ⟨b5,?_⟩
 refine FA (BF (vs:=[a9,b1,vB (0:UInt8)]) enter_63 (c_through (O:=[]++O) a9 xs b1 (IG l p) (0:UInt8) b3 a0 a4 oM b2.lt) rfl b2 fun c0 c1 b7 c2 b8 b9=>(?_))
 obtain rfl:=b9
 refine ⟨b8,?_⟩
 refine BS (AD (vT #[vB ((FJ xs (IG l p) (0:UInt8)).1),vI ((FJ xs (IG l p) (0:UInt8)).2)]) rfl (EP (BS (AL (vB ((FJ xs (IG l p) (0:UInt8)).1)) rfl rfl (EP (BS (AL (vI ((FJ xs (IG l p) (0:UInt8)).2)) rfl rfl (EP (BS (AE (vB ((FJ xs (IG l p) (0:UInt8)).1)) rfl (EP (BS (AE (vI ((FJ xs (IG l p) (0:UInt8)).2)) rfl (EP (FH (AC (AF (AB kR (AA (AD (vB ((FJ xs (IG l p) (0:UInt8)).1)) rfl (AA (AE (vB ((FJ xs (IG l p) (0:UInt8)).1)) rfl (AG (AC (AM (AZ rfl (CN rfl rfl rfl) (?_)))))))))))))))))))))))))))
 have e:((FJ xs (IG l p) 0).1)=((FJ xs (IG l p) (0:UInt8)).1):=rfl
 exact ⟨_,rfl,b7.keep,by rw [e];exact rfl⟩
set_option maxHeartbeats 4000000 in
set_option maxRecDepth 100000 in
theorem c_join {O:List Nat} (l_v:Value) (l:List Share) (w:World) (a5:BL Enc.share w O l_v l) (hO:∀ b∈O,b<w.heap.size):CM Try.prog 30 [l_v] w (fun v w'=>∃ (x0:Value),v = .tuple #[x0,vI ((CS l).2)]∧BL Enc.u8 w' (O) x0 ((CS l).1)):= by
 have g1:=a5.len_le
 have a5:BL Enc.share w ([]++O) l_v l:=a5
 have s0:St w O w []:=St.start hO
 refine BP 34 Try.func30 rfl rfl oT (fun F0=>AF (AB kR (AA (RL (l_v) [l_v] rfl (FB a5.oneCell) s0 fun a2 d0 d1 b6 d2 g2 a3=>(?_)))))
 clear d1
 have a5:=a5.mv d2
 refine AA (AE (nS) rfl (AA (AE (vI 0) rfl (AG (AC (AF (AF (AB kR (AA (AK U32_ rfl (l_v) rfl a3 rfl (AA (BF (vs:=[l_v]) NT (NP (O:=(a2 :: [])++O) l_v l d0 a5 b6.lt) rfl b6 fun g3 g4 b2 d3 d4 d5=>(?_)))))))))))))
 obtain rfl:=d5
 have a5:=a5.mv d3
 have a3:=a3.keep d4 (by simp)
 refine AA (AE (vI (BN l)) rfl (AG (AC (AF (AB kR (AA (AD (vI (BN l)) rfl (AA (DQ .i64 (BN l) (0:Int) rfl rfl (AG (AC (AJ ((BN l) != (0:Int)) rfl rfl (fun a9=>?_) (fun a9=>?_)))))))))))))
 ·have f7:BN l≠(0:Int):=by simpa using a9
  refine AF (AB kR (AA (AD (vI (BN l)) rfl (AA (AE (nS) rfl (AA (AE (vI (BN l)) rfl (AG (AC (AM (AP (AZ rfl (GE rfl rfl rfl rfl) (?_)))))))))))))
  have e:(CS l)=([],BN l):=by exact ZO oM rfl
  exact ⟨_,rfl,b2.keep,by rw [e];exact ⟨.slice none 0 0,rfl,BL.nil _ _ _⟩⟩
 have c1:BN l=(0:Int):=by simpa using a9
 have hv:=(EM l).1 c1
 have hpos:=hv.pos
 have ht1:=hv.t1
 have htm:=hv.tm
 have h7:=hv.m8
 have h6:=hv.d64
 refine AT (AC (AF (AB kR (AA (AK U32_ rfl (l_v) rfl a3 rfl (AA (DO U32_ EN .i64 (0:Int) 0 rfl rfl rfl a5 oM fun g5 c2=>(AA (BO 2 KW ((l[0]!).threshold) rfl c2 (fun _ _ _ h=>KD h) fun g6 c3=>(AA (CG U3_ rfl rfl c3 (AA (AE (vI ((l[0]!).threshold)) rfl (AG (AC (AF (AF (AB kR (AA (AK U32_ rfl (l_v) rfl a3 rfl (AA (CK U32_ rfl a5 (AA (AD (vI ((l[0]!).threshold)) rfl (AA (EB .i64 (l.length:Int) ((l[0]!).threshold) rfl rfl (AG (AC (AJ (decide ((l.length:Int)<(l[0]!).threshold)) rfl rfl (fun b0=>?_) (fun b0=>?_))))))))))))))))))))))))))))))
 ·have f8:(l.length:Int)<(l[0]!).threshold:=by simpa using b0
  refine AF (AB kR (AA (AE (nS) rfl (AA (AE (vI 80) rfl (AG (AC (AM (AP (AZ rfl (GE rfl rfl rfl rfl) (?_)))))))))))
  have e:(CS l)=([],(80:Int)):=by exact TQ oM oM rfl
  exact ⟨_,rfl,b2.keep,by rw [e];exact ⟨.slice none 0 0,rfl,BL.nil _ _ _⟩⟩
 have f9:(l[0]!).threshold≤(l.length:Int):=by simpa using b0
 have htk:(l.take (l[0]!.threshold).toNat).length=l[0]!.threshold.toNat:=by rw [List.length_take];omega
 refine AT (AC (AF (AB kR (AA (AK U32_ rfl (l_v) rfl a3 rfl (AA (AD (vI ((l[0]!).threshold)) rfl (AA (AD (vI ((l[0]!).threshold)) rfl (AA (UU U32_ EN 0 (((l[0]!).threshold).toNat) (((l[0]!).threshold).toNat) rfl (.inl ⟨rfl,rfl⟩) .i64 .i64 ((l[0]!).threshold) ((l[0]!).threshold) rfl oM rfl oM oM oM oM a5 fun a7 a0=>(?_))))))))))))
 rw [List.drop_zero] at a0
 refine BZ (BY (a7) rfl rfl a0.oneCell s_32 (by repeat (constructor)) a3 oT b2 fun d6 b7 d7 g7 a1=>(?_))
 have a0:=a0.mv d7
 refine AG (AC (AF (AB kR (AA (AK U32_ rfl (a7) rfl a1 rfl (AA (BF (vs:=[a7]) enter_41 (ZB (O:=(a2 :: [])++O) a7 (l.take (((l[0]!).threshold).toNat)) d6 a0 oM b7.lt) rfl b7 fun d8 g8 d9 e0 e1 e2=>(?_))))))))
 obtain ⟨_,rfl,a4⟩:=e2
 have:=a4.len_le
 have a0:=a0.mv e0
 have a1:=a1.keep e1 (by simp)
 refine AA (CR [nS] z_23 rfl d9 fun a6 g9 e3 e4 b8 e5 c4=>(?_))
 have b3:EY a2 a6:=by show a2≠a6;have:=a1.lt;omega
 clear e3
 have a0:=a0.mv b8
 have a4:=a4.mv b8
 have a1:=a1.keep e5 (by simp)
 refine BZ (BY (d8) rfl rfl a4.oneCell s_23 (by repeat (constructor)) c4 oT e4 fun e6 e7 b9 e8 c5=>(?_))
 have a0:=a0.mv b9
 have a4:=a4.mv b9
 have a1:=a1.keep e8 (AS b3)
 refine AG (AC (AF (AB kR (AA (AK U32_ rfl (a7) rfl a1 rfl (AA (DO U32_ EN .i64 (0:Int) 0 rfl rfl rfl a0 oM fun h0 c6=>(AA (BO 4 HT (((l.take (((l[0]!).threshold).toNat))[0]!).data) rfl c6 (fun _ _ _ h=>GO h) fun h1 c7=>(AA (CI U23_ rfl rfl c7 fun h2 b4=>(?_))))))))))))
 have:=b4.len_le
 refine AA (CK U23_ rfl b4 (?_))
 obtain ⟨e9,f0,f1,b1,c8⟩:=c5.publish (E:=(Enc.slice Enc.u8)) (u:=PE (l.take (((l[0]!).threshold).toNat))) ⟨_,rfl,a4⟩ e7 (by repeat (constructor))
 have f6:a2∈e9:=c8 a2 (by repeat (constructor)) b3
 have a0:=a0.mv f1
 have a1:=a1.keep (Keep.refl [] _) (by simp)
 obtain ⟨f2,c0,f3,c9,g0⟩:=a1.publish (E:=(Enc.slice Enc.share)) (u:=(l.take (((l[0]!).threshold).toNat))) ⟨_,rfl,a0⟩ f0 (by repeat (assumption))
 have b1:=b1.mv f3
 refine AA (DF (first:=[]) (captured:=[.tmp 6, .tmp 1]) [] [vP (some ⟨a6,0,none⟩),vP (some ⟨a2,0,none⟩)] rfl rfl (AA (BF (vs:=[vI ((((l.take (((l[0]!).threshold).toNat))[0]!).data).length:Int),vN (.func 62) #[] #[vP (some ⟨a6,0,none⟩),vP (some ⟨a2,0,none⟩)]]) PW (MO (O:=f2++O) ((((l.take (((l[0]!).threshold).toNat))[0]!).data).length:Int) 62 [vP (some ⟨a6,0,none⟩),vP (some ⟨a2,0,none⟩)] (fun i_=>(FJ (PE (l.take (((l[0]!).threshold).toNat))) (IG (l.take (((l[0]!).threshold).toNat)) i_) 0).1) e6 enter_62 (fun w'_ O'_ kk_ hs_ hl_ i_  hc_=>c_join1 (O:=O'_) i_ (⟨a6,0,none⟩) (PE (l.take (((l[0]!).threshold).toNat))) (⟨a2,0,none⟩) (l.take (((l[0]!).threshold).toNat)) w'_ (b1.on hs_ kk_) (c9.on hs_ kk_) oM (by rw [JY];omega) (fun k hk=>by rw [takeS oM,hv.da k oM];rw [take0 oM] at hc_;omega) hl_) (by rw [take0 oM];omega) c0.lt) rfl c0 fun a8 h3 f4 h4 h5 f5=>(?_))))
 obtain ⟨_,rfl,b5⟩:=f5
 have:=b5.len_le
 refine AA (AE (a8) rfl (AG (AC (AF (AB kR (AA (AD (a8) rfl (AA (AE (a8) rfl (AA (AE (vI 0) rfl (AG (AC (AM (AZ rfl (GE rfl rfl rfl rfl) (?_))))))))))))))))
 have e:(CS l)=((List.range (((((l.take (((l[0]!).threshold).toNat))[0]!).data).length:Int)).toNat).map (fun i_=>(FJ (PE (l.take (((l[0]!).threshold).toNat))) (IG (l.take (((l[0]!).threshold).toNat)) i_) 0).1),(0:Int)):=by exact YD oM oM rfl
 exact ⟨_,rfl,f4.keep,by rw [e];exact ⟨a8,rfl,b5.out⟩⟩
open Go.Fw
section
open Go.RowKit
end
theorem expX_zero (l:List Share):HP l 0=[(0:UInt8)]++PE l:=by simp [HP]
theorem expX_succ (l:List Share) (m:Nat):HP l (m+1)=HP l m++[II (9+(m:Int))]:=by simp [HP,List.range_succ]
theorem expY_eq {l:List Share} {b:UInt8} {p T:Nat} (h:l.length<T) :
    ((List.replicate T (0:UInt8)).set 0 b).take 1++(IG l p).take (((List.replicate T (0:UInt8)).set 0 b).length - 1)++((List.replicate T (0:UInt8)).set 0 b).drop (1+(IG l p).length)=JK l b p (T - 1 - l.length):=by
  obtain ⟨S,rfl⟩:∃ S,T=S+1:=⟨T - 1,by omega⟩
  rw [List.replicate_succ,List.set_cons_zero]
  have h1:(IG l p).take S=IG l p:=List.take_of_length_le (by rw [QD];omega)
  simp only [List.take_succ_cons,List.take_zero,List.length_cons,List.length_replicate,Nat.add_sub_cancel,h1,QD]
  rw [show 1+l.length=l.length+1 by omega,List.drop_succ_cons,List.drop_replicate]
  unfold JK
  rfl
theorem coeff_len_le (xs ys:List UInt8):(EH xs ys).1.length≤xs.length:=by
  cases h:GQ xs ys with
  | true=>rw [coeff_bad h];simp
  | false=>rw [(NQ h).2.1.len];exact Nat.le_refl _
theorem expL_len {l:List Share} {secret:List UInt8} {m:Nat} (h:1+l.length+m≤8):∀ p,(JU l secret m p).length≤8*p
  | 0=>by simp [JU]
  | p+1=>by
    unfold JU
    have h1:=expL_len (secret:=secret) h p
    have h2:=coeff_len_le (HP l m) (JK l secret[p]! p m)
    rw [IU] at h2
    simp only [List.length_append,List.length_drop];omega
theorem u8of_nat' (n:Nat) (h:n<256):(II (n:Int)).toNat=n:=by
  rw [u8of_nat,UInt8.toNat_ofNat'];omega
theorem u8of_inj {a b:Int} (ha:0≤a) (ha':a<256) (hb:0≤b) (hb':b<256) (h:II a=II b):a=b:=by
  obtain ⟨x,rfl⟩:∃ x:Nat,a=(x:Int):=⟨a.toNat,by omega⟩
  obtain ⟨y,rfl⟩:∃ y:Nat,b=(y:Int):=⟨b.toNat,by omega⟩
  have:=congrArg UInt8.toNat h
  rw [u8of_nat' x (by omega),u8of_nat' y (by omega)] at this
  omega
def expI (l:List Share) (i:Nat):Int:=if i=0 then 0 else if i≤l.length then l[i - 1]!.index else 9+((i - 1 - l.length:Nat):Int)
theorem XB {l:List Share} {m i:Nat} (h:i<1+l.length+m):(HP l m)[i]! = II (expI l i):=by
  unfold HP expI
  cases i with
  | zero=>rw [if_pos rfl];rfl
  | succ i=>
    rw [if_neg (by omega),List.cons_append,HK,RO,JY]
    by_cases h1:i<l.length
    · rw [if_pos h1,if_pos (by omega)];unfold PE;rw [GB _ _ _ h1,Nat.add_sub_cancel]
    · rw [if_neg h1,if_neg (by omega),GB _ _ _ (by omega)]
      congr 2
theorem expI_mono {l:List Share} (hg:Good l):∀ (j i:Nat),i<j→expI l i<expI l j:=by
  intro j i hij
  unfold expI
  have hm:=hg.m8
  by_cases hj:j≤l.length
  · rw [if_neg (c:=j=0) (by omega),if_pos hj]
    have h1:=hg.ix (j - 1) (by omega)
    by_cases hi:i=0
    · rw [if_pos hi];omega
    · rw [if_neg hi,if_pos (by omega)];exact hg.mono (j - 1) (i - 1) (by omega) (by omega)
  · rw [if_neg (c:=j=0) (by omega),if_neg hj]
    by_cases hi:i=0
    · rw [if_pos hi];omega
    · rw [if_neg hi]
      by_cases hi2:i≤l.length
      · rw [if_pos hi2];have:=hg.ix (i - 1) (by omega);omega
      · rw [if_neg hi2];omega
theorem XS {l:List Share} (hg:Good l) (i:Nat) (h:i≤100):0≤expI l i∧expI l i<256:=by
  unfold expI
  have hm:=hg.m8
  split
  · omega
  · split
    · have:=hg.ix (i - 1) (by omega);omega
    · omega
theorem expX_nodup {l:List Share} (hg:Good l) {m:Nat} (h:1+l.length+m≤100):(HP l m).Nodup:=by
  rw [NZ]
  intro i j hij hj he
  rw [IU] at hj
  rw [XB (by omega),XB hj] at he
  have h1:=XS hg i (by omega)
  have h2:=XS hg j (by omega)
  have:=u8of_inj h1.1 h1.2 h2.1 h2.2 he
  have:=expI_mono hg j i hij
  omega
theorem US {l:List Share} (hg:Good l) {m:Nat} (h:1+l.length+m≤100) (b:UInt8) (p:Nat):GQ (HP l m) (JK l b p m)=false:=
  (UQ _ _).2 ⟨by rw [IU,expY_len],expX_nodup hg h⟩
theorem exp_len {l:List Share} (hg:Good l) {m:Nat} (h:1+l.length+m≤100) (b:UInt8) (p:Nat):(EH (HP l m) (JK l b p m)).1.length=1+l.length+m:=by
  rw [(NQ (US hg h b p)).2.1.len,IU]
theorem SI {l:List Share} {secret:List UInt8} {e:Int} (h:BN l≠0) (he:BN l=e):AQ l secret=([],e):=by
  unfold AQ;rw [if_pos h,he]
theorem NI {l:List Share} {secret:List UInt8} {e:Int} (h:BN l=0) (h2:l[0]!.threshold≤(l.length:Int)) (he:(80:Int)=e):AQ l secret=([],e):=by
  unfold AQ;rw [if_neg (by omega),if_pos h2,he]
theorem SJ {l:List Share} {secret:List UInt8} {e:Int} (h:BN l=0) (h2:(l.length:Int)<l[0]!.threshold) (h3:(secret.length:Int)≠(l[0]!.data.length:Int)) (he:(1:Int)=e):AQ l secret=([],e):=by
  unfold AQ;rw [if_neg (by omega),if_neg (by omega),if_pos h3,he]
theorem QJ {l:List Share} {secret:List UInt8} {x:List UInt8} (h:BN l=0) (h2:(l.length:Int)<l[0]!.threshold) (h3:(secret.length:Int)=(l[0]!.data.length:Int)) (hx:JU l secret (l[0]!.threshold.toNat - 1 - l.length) secret.length=x):AQ l secret=(x,0):=by
  unfold AQ;rw [if_neg (by omega),if_neg (by omega),if_neg (by omega),hx]
theorem expY_get {l:List Share} {b:UInt8} {p m i:Nat}:(JK l b p m)[i]! = if i=0 then b else if i≤l.length then (IG l p)[i - 1]! else 0:=by
  unfold JK
  cases i with
  | zero=>rfl
  | succ i=>
    rw [if_neg (by omega),List.cons_append,HK,RO,QD]
    by_cases h1:i<l.length
    · rw [if_pos h1,if_pos (by omega),Nat.add_sub_cancel]
    · rw [if_neg h1,if_neg (by omega),RD]
def PO (l zero:List Share) (n i:Nat):List UInt8:=(List.range n).map fun k=>l[i]!.data[k]! ^^^ zero[i]!.data[k]!
def GL (l:List Share) (f:Share) (zero:List Share) (i:Nat):Share:=⟨l[i]!.epoch+1,l[i]!.index,l[i]!.threshold,l[i]!.many,PO l zero f.data.length i⟩
def IE (f:Share) (coins:List UInt8):List Share × Int:=BB (List.replicate f.data.length 0) f.epoch f.threshold f.many coins
def EX (l:List Share) (coins:List UInt8):Int:=if BN l≠0 then BN l else if (l.length:Int)≠l[0]!.many then 80 else if l[0]!.epoch=1048576 then 81 else (IE l[0]! coins).2
def HL (l:List Share) (coins:List UInt8):List Share:=(List.range l.length).map fun i=>GL l l[0]! (IE l[0]! coins).1 i
def BR (l:List Share) (coins:List UInt8):List Share × Int:=if EX l coins=0 then (HL l coins,0) else ([],EX l coins)
theorem VA {l:List Share} {coins:List UInt8} {x:List Share} (h:EX l coins=0) (hx:HL l coins=x):BR l coins=(x,0):=by
  unfold BR;rw [if_pos h,hx]
theorem JX {l:List Share} {coins:List UInt8} {e:Int} (h:EX l coins=e) (he:e≠0):BR l coins=([],e):=by
  unfold BR;rw [if_neg (by rw [h];exact he),h]
theorem GR (secret:List UInt8) (epoch threshold many:Int) (coins:List UInt8):(BB secret epoch threshold many coins).2=EJ secret epoch threshold many coins:=by
  unfold BB;split
  · rename_i h;rw [h]
  · rfl
theorem KO (secret:List UInt8) (epoch threshold many:Int) (coins:List UInt8):(GW secret epoch threshold many coins).length=many.toNat:=by simp [GW]
theorem KL {secret:List UInt8} {epoch threshold many:Int} {coins:List UInt8} {k:Nat} (h:k<many.toNat):(GW secret epoch threshold many coins)[k]! = FN secret (polysM secret coins threshold) epoch threshold many k:=GB _ _ _ h
theorem JN (secret:List UInt8) (polys:List (List UInt8)) (epoch threshold many:Int) (k:Nat):(FN secret polys epoch threshold many k).data.length=secret.length:=by simp [FN]
theorem HH {secret:List UInt8} {epoch threshold many:Int} {coins:List UInt8} (h:(BB secret epoch threshold many coins).2=0):EJ secret epoch threshold many coins=0∧(BB secret epoch threshold many coins).1=GW secret epoch threshold many coins:=by
  rw [GR] at h
  exact ⟨h,by unfold BB;rw [if_pos h]⟩
theorem ZH {f:Share} {coins:List UInt8} (h:(IE f coins).2=0):(IE f coins).1.length=f.many.toNat:=by
  unfold IE at *;rw [(HH h).2,KO]
theorem XJ {f:Share} {coins:List UInt8} (h:(IE f coins).2=0) {k:Nat} (hk:k<f.many.toNat):(IE f coins).1[k]!.data.length=f.data.length:=by
  unfold IE at *;rw [(HH h).2,KL hk,JN,List.length_replicate]
open Go.Fw Go.RowKit
set_option maxHeartbeats 4000000 in
set_option maxRecDepth 100000 in
theorem UL {O:List Nat} (l_v:Value) (l:List Share) (secret_v:Value) (secret:List UInt8) (w:World) (a2:BL Enc.share w O l_v l) (a0:BL Enc.u8 w O secret_v secret) (hO:∀ b∈O,b<w.heap.size):CM Try.prog 15 [l_v,secret_v] w (fun v w'=>∃ (x0:Value),v = .tuple #[x0,vI ((AQ l secret).2)]∧(∀ b,x0.ownBlock=some b→w.heap.size≤b)∧DX Enc.u8 5 w.heap.size (x0.ownBlock.toList++(O)) w' x0 ((AQ l secret).1)):= by
 have q6:=a2.len_le
 have a2:BL Enc.share w ([]++O) l_v l:=a2
 have j3:=a0.len_le
 have a0:BL Enc.u8 w ([]++O) secret_v secret:=a0
 have s0:St w O w []:=St.start hO
 refine BP 86 Try.func15 rfl rfl oT (fun F0=>AF (AB kR (AA (AE (.slice none 0 0) rfl (AA (AE (vI 0) rfl (AG (AC (AF (AF (AB kR (AA (AD (l_v) rfl (AA (BF (vs:=[l_v]) NT (NP (O:=[]++O) l_v l w a2 s0.lt) rfl s0 fun q7 q8 b3 f8 q9 j4=>(?_))))))))))))))))
 obtain rfl:=j4
 have a2:=a2.mv f8
 have a0:=a0.mv f8
 refine AA (AE (vI (BN l)) rfl (AG (AC (AF (AB kR (AA (AD (vI (BN l)) rfl (AA (DQ .i64 (BN l) (0:Int) rfl rfl (AG (AC (AJ ((BN l) != (0:Int)) rfl rfl (fun c6=>?_) (fun c6=>?_)))))))))))))
 ·have p2:BN l≠(0:Int):=by simpa using c6
  refine AF (AB kR (AA (AD (vI (BN l)) rfl (AA (AE (.slice none 0 0) rfl (AA (AE (vI (BN l)) rfl (AG (AC (AM (AP (AZ rfl (GE rfl rfl rfl rfl) (?_)))))))))))))
  have e:(AQ l secret)=([],BN l):=by exact SI oM rfl
  exact ⟨_,rfl,b3.keep,by rw [e];exact ⟨.slice none 0 0,rfl,(fun b hb=>by simp [Value.ownBlock] at hb),DX.nil _ _ _ _ _⟩⟩
 have h3:BN l=(0:Int):=by simpa using c6
 have hv:=(EM l).1 h3
 have hpos:=hv.pos
 have ht1:=hv.t1
 have htm:=hv.tm
 have v2:=hv.m8
 have v1:=hv.d64
 refine AT (AC (AF (AB kR (AA (AD (l_v) rfl (AA (DO U32_ EN .i64 (0:Int) 0 rfl rfl rfl a2 oM fun r0 h4=>(AA (BO 2 KW ((l[0]!).threshold) rfl h4 (fun _ _ _ h=>KD h) fun r4 h5=>(AA (CG U3_ rfl rfl h5 (AA (AD (l_v) rfl (AA (CK U32_ rfl a2 (AA (AE (vI ((l[0]!).threshold)) rfl (AA (AE (vI (l.length:Int)) rfl (AG (AC (AF (AF (AB kR (AA (AD (vI (l.length:Int)) rfl (AA (AD (vI ((l[0]!).threshold)) rfl (AA (ID .i64 (l.length:Int) ((l[0]!).threshold) rfl rfl (AG (AC (AJ (decide ((l[0]!).threshold≤(l.length:Int))) rfl rfl (fun c7=>?_) (fun c7=>?_))))))))))))))))))))))))))))))))))
 ·have p3:(l[0]!).threshold≤(l.length:Int):=by simpa using c7
  refine AF (AB kR (AA (AE (.slice none 0 0) rfl (AA (AE (vI 80) rfl (AG (AC (AM (AP (AZ rfl (GE rfl rfl rfl rfl) (?_)))))))))))
  have e:(AQ l secret)=([],(80:Int)):=by exact NI oM oM rfl
  exact ⟨_,rfl,b3.keep,by rw [e];exact ⟨.slice none 0 0,rfl,(fun b hb=>by simp [Value.ownBlock] at hb),DX.nil _ _ _ _ _⟩⟩
 have p4:(l.length:Int)<(l[0]!).threshold:=by simpa using c7
 refine AT (AC (AF (AF (AB kR (AA (AD (secret_v) rfl (AA (CK U23_ rfl a0 (AA (AD (l_v) rfl (AA (DO U32_ EN .i64 (0:Int) 0 rfl rfl rfl a2 oM fun r5 h6=>(AA (BO 4 HT ((l[0]!).data) rfl h6 (fun _ _ _ h=>GO h) fun r6 h7=>(AA (CI U23_ rfl rfl h7 fun r7 e3=>(?_)))))))))))))))))
 have:=e3.len_le
 refine AA (CK U23_ rfl e3 (AA (DQ .i64 (secret.length:Int) (((l[0]!).data).length:Int) rfl rfl (AG (AC (AJ ((secret.length:Int) != (((l[0]!).data).length:Int)) rfl rfl (fun c8=>?_) (fun c8=>?_)))))))
 ·have p5:(secret.length:Int)≠(((l[0]!).data).length:Int):=by simpa using c8
  refine AF (AB kR (AA (AE (.slice none 0 0) rfl (AA (AE (vI 1) rfl (AG (AC (AM (AP (AZ rfl (GE rfl rfl rfl rfl) (?_)))))))))))
  have e:(AQ l secret)=([],(1:Int)):=by exact SJ oM oM oM rfl
  exact ⟨_,rfl,b3.keep,by rw [e];exact ⟨.slice none 0 0,rfl,(fun b hb=>by simp [Value.ownBlock] at hb),DX.nil _ _ _ _ _⟩⟩
 have p6:(secret.length:Int)=(((l[0]!).data).length:Int):=by simpa using c8
 refine AT (AC (AF (AB kR (AA (IA (E:=Enc.u8) (xs:=[.const (vB (0:UInt8))]) U23_ JD z_5 (by decide) [vB (0:UInt8)] [[vB (0:UInt8)]] [(0:UInt8)] rfl rfl rfl (Parts.cons rfl rfl (Parts.nil _ _ _)) oT b3 fun j5 f9 j6 j7 e4 g0 g1 r8 c9=>(?_))))))
 have h8:∀ b,j5.ownBlock=some b→b∈(f9 :: []):=fun b hb=>by rw [e4] at hb;cases hb;simp
 clear j7 e4
 have a2:=a2.mv g1
 have a0:=a0.mv g1
 refine AA (AD (l_v) rfl (AA (BF (vs:=[l_v]) enter_41 (ZB (O:=(f9 :: [])++O) l_v l j6 a2 oM g0.lt) rfl g0 fun r9 s1 j8 d6 j9 k0=>(?_))))
 obtain ⟨_,rfl,e5⟩:=k0
 have:=e5.len_le
 have a2:=a2.mv d6
 have a0:=a0.mv d6
 have c9:=c9.mv d6 j9 (by simp)
 refine AA (DI (E:=Enc.u8) (l:=[(0:UInt8)]) (m:=PE l) U23_ i_5 rfl (by decide) rfl rfl c9 e5 (fun _ hb=>.inl hb) h8 (by rw [JY];simp;omega) (by rw [JY];simp [maxLen];omega) j8 fun g2 s2 k5 h9 p7 o5 k6 g3 s3 i0=>(?_))
 have a2:=a2.mv g3
 have a0:=a0.mv g3
 refine AA (AE (g2) rfl (AG (AC (AF (AF (AB kR (AA (AD (vI ((l[0]!).threshold)) rfl (AA (KI .i64 ((l[0]!).threshold) (1:Int) (((l[0]!.threshold.toNat - 1:Nat):Int)) rfl rfl (GZ oM oM) (AA (AD (vI (l.length:Int)) rfl (AA (KI .i64 ((l[0]!.threshold.toNat - 1:Nat):Int) (l.length:Int) ((((l[0]!.threshold.toNat - 1 - l.length):Nat):Int)) rfl rfl (GZ oM oM) (AA (AD (vI 0) rfl (AG (AC (BQ (DU (fun mI FI wI=>∃ (q:Nat) (a4:Value) (B:List Nat),q≤(l[0]!.threshold.toNat - 1 - l.length)∧mI=(l[0]!.threshold.toNat - 1 - l.length) - q∧(∃ F1,FI=GN F1 [(0,l_v),(1,secret_v),(4,nS),(7,vI ((l[0]!).threshold)),(9,a4),(45,vI (((l[0]!.threshold.toNat - 1 - l.length):Nat):Int)),(46,vI ((q:Nat):Int)),(86,undef)])∧St w O wI B∧DX Enc.u8 5 w.heap.size (B++O) wI a4 ((HP l q))∧(∀ b,a4.ownBlock=some b→b∈B)∧BL Enc.share wI (B++O) (l_v) (l)∧BL Enc.u8 wI (B++O) (secret_v) (secret)) ((l[0]!.threshold.toNat - 1 - l.length) - (0)) ?_ ?_))))))))))))))))))))
 ·exact ⟨(0),g2,k5,oM,rfl,⟨_,BD _ ⟨rfl,rfl,rfl,rfl,rfl,rfl,(by rfl),rfl,trivial⟩⟩,k6,(by rw [show (HP l (0))=([(0:UInt8)])++(PE l) from expX_zero l];exact i0),h9,a2,a0⟩
 intro v3 F v4 hI
 clear a2 a0
 obtain ⟨q,a4,v5,hr0_0,v6,⟨v7,rfl⟩,o4,ho0_9,k7,a2,a0⟩:=hI
 refine AF (AB kR (AA (EB .i64 ((q:Nat):Int) (((l[0]!.threshold.toNat - 1 - l.length):Nat):Int) rfl rfl (AG (AC (AF (AJ (decide (((q:Nat):Int)<(((l[0]!.threshold.toNat - 1 - l.length):Nat):Int))) rfl rfl (fun d0=>?_) (fun d0=>?_))))))))
 ·have p8:((q:Nat):Int)<(((l[0]!.threshold.toNat - 1 - l.length):Nat):Int):=by simpa using d0
  refine AT (AC (AF (BQ (AF (AB kR (AA (AD (vI ((q:Nat):Int)) rfl (AA (AE (vI ((q:Nat):Int)) rfl (AG (AC (AB kR (AA (AD (a4) rfl (AA (AD (vI ((q:Nat):Int)) rfl (AA (DR .i64 (9:Int) ((q:Nat):Int) ((9:Int)+((q:Nat):Int)) rfl rfl (GZ oM oM) (AA (o_u8of .i64 U3_ U5_ ((9:Int)+((q:Nat):Int)) rfl (AA (KH (E:=Enc.u8) (xs:=[.tmp 52]) U23_ JD z_5 (by decide) [vB (II ((9:Int)+((q:Nat):Int)))] [[vB (II ((9:Int)+((q:Nat):Int)))]] [II ((9:Int)+((q:Nat):Int))] rfl rfl rfl (Parts.cons rfl rfl (Parts.nil _ _ _)) oT o4 fun s4 s5 k8 d7 k9 e6=>(?_)))))))))))))))))))))))
  have a2:=a2.mv d7
  have a0:=a0.mv d7
  have ho0_9:=ho0_9.mv d7 k9 (by simp)
  have:=e6.len_le
  refine AA (DI (E:=Enc.u8) (l:=(HP l q)) (m:=[II ((9:Int)+((q:Nat):Int))]) U23_ i_5 rfl (by decide) rfl rfl ho0_9 e6 (fun _ hb=>.inl hb) k7 (by rw [IU];simp;omega) (by rw [IU];simp [maxLen];omega) k8 fun g4 s6 l0 i1 p9 o6 l1 g5 s7 i2=>(?_))
  have a2:=a2.mv g5
  have a0:=a0.mv g5
  refine AA (AE (g4) rfl (AG (CB (AC (AB kR (AA (DR .i64 ((q:Nat):Int) (1:Int) (((q+1:Nat):Int)) rfl rfl (GZ oM oM) (AA (AD (vI ((q+1:Nat):Int)) rfl (AG (AC (?_))))))))))))
  exact ⟨_,oM,(q+1),g4,l0,oM,rfl,⟨_,BD _ ⟨rfl,rfl,rfl,rfl,rfl,rfl,(by rfl),rfl,trivial⟩⟩,l1,(by rw [show (HP l (q+1))=(HP l q)++([II ((9:Int)+((q:Nat):Int))]) from expX_succ _ _];exact i2),i1,a2,a0⟩
 have q0:(((l[0]!.threshold.toNat - 1 - l.length):Nat):Int)≤((q:Nat):Int):=by simpa using d0
 obtain rfl:q=(l[0]!.threshold.toNat - 1 - l.length):=by omega
 refine DW (CL (CL (DK (AC (AF (AF (AB kR (AA (AD (secret_v) rfl (AA (CK U23_ rfl a0 (AA (AD (vI 0) rfl (AG (AC (BQ (?_)))))))))))))))))
 obtain ⟨l2,l3,g6,a1,q1⟩:=ho0_9.publish o4
 have o7:=a1.len_le
 have a2:=a2.mv g6
 have a0:=a0.mv g6
 refine DU (fun mI FI wI=>∃ (k:Nat) (a3:Value) (B:List Nat),k≤secret.length∧mI=secret.length - k∧(∃ F1,FI=GN F1 [(0,l_v),(4,a3),(7,vI ((l[0]!).threshold)),(9,a4),(56,secret_v),(57,vI (secret.length:Int)),(58,vI ((k:Nat):Int)),(86,undef)])∧St w O wI B∧DX Enc.u8 5 w.heap.size (B++O) wI a3 ((JU l secret (l[0]!.threshold.toNat - 1 - l.length) k))∧(∀ b,a3.ownBlock=some b→b∈B)∧BL Enc.share wI (B++O) (l_v) (l)∧BL Enc.u8 wI (B++O) (a4) ((HP l (l[0]!.threshold.toNat - 1 - l.length)))∧BL Enc.u8 wI (B++O) (secret_v) (secret)) (secret.length - (0)) ?_ ?_
 ·exact ⟨(0),(.slice none 0 0),l2,oM,rfl,⟨_,BD _ ⟨rfl,rfl,rfl,rfl,rfl,rfl,(by rfl),rfl,trivial⟩⟩,l3,(by rw [show (JU l secret (l[0]!.threshold.toNat - 1 - l.length) (0))=[] from rfl];exact (DX.nil Enc.u8 5 _ _ _)),(by intro b hb;simp [Value.ownBlock] at hb),a2,a1,a0⟩
 intro v8 F v9 hI
 clear a2 a1 a0
 obtain ⟨k,a3,d5,hr1_0,w0,⟨w1,rfl⟩,i3,ho1_4,a7,a2,a1,a0⟩:=hI
 have hco:=fun b=>exp_len hv.toGood (m:=(l[0]!.threshold.toNat - 1 - l.length)) oM b k
 have hel:=expL_len (l:=l) (secret:=secret) (m:=(l[0]!.threshold.toNat - 1 - l.length)) oM k
 refine AF (AB kR (AA (EB .i64 ((k:Nat):Int) (secret.length:Int) rfl rfl (AG (AC (AF (AJ (decide (((k:Nat):Int)<(secret.length:Int))) rfl rfl (fun d1=>?_) (fun d1=>?_))))))))
 ·have q2:((k:Nat):Int)<(secret.length:Int):=by simpa using d1
  refine AT (AC (AF (BQ (AF (AB kR (AA (AD (vI ((k:Nat):Int)) rfl (AA (DO U23_ JD .i64 ((k:Nat):Int) k rfl rfl rfl a0 oM fun s8 i4=>(AA (HW U5_ rfl rfl i4 (AA (AE (vI ((k:Nat):Int)) rfl (AA (AE (vB (secret[k]!)) rfl (AG (AC (AF (AB kR (AA (AD (vI ((l[0]!).threshold)) rfl (AA (XV (E:=Enc.u8) U23_ i_5 [vB (0:UInt8)] rfl rfl (by decide) (0:UInt8) (fun _ _=>rfl) .i64 .i64 ((l[0]!).threshold) ((l[0]!).threshold) (((l[0]!).threshold).toNat) (((l[0]!).threshold).toNat) rfl rfl oM oM oM oM (by simp only [maxLen];omega) i3 fun a5 a9 s9 l4 d2 l5 b4 l6 e7=>(?_))))))))))))))))))))))))
  have a8:∀ b,a3.ownBlock=some b→a5.ownBlock≠some b:=fun b hb=>by have:=(ho1_4.lt b hb).2;rw [d2];intro e;cases e;omega
  have ne1608':∀ b,a5.ownBlock=some b→a3.ownBlock≠some b:=fun b hb e=>a8 b e hb
  have d3:∀ b,a5.ownBlock=some b→b∈(a9 :: d5):=fun b hb=>by rw [d2] at hb;cases hb;simp
  clear l4 d2
  have a7:∀ b,a3.ownBlock=some b→b∈(a9 :: d5):=fun b hb=>List.mem_cons_of_mem _ (a7 b hb)
  have a2:=a2.mv b4
  have ho1_4:=ho1_4.mv b4 l6 (by simp)
  have a1:=a1.mv b4
  have a0:=a0.mv b4
  refine AA (AE (a5) rfl (AG (AC (AF (AB kR (AA (AD (a5) rfl (AA (AD (vB (secret[k]!)) rfl (AA (EW U23_ JD .i64 (0:Int) 0 rfl rfl rfl e7 (by (simp only [List.length_set,List.length_append,List.length_cons,List.length_nil,List.length_replicate];omega)) fun t0 d4=>(BZ (JZ (secret[k]!) JD rfl rfl rfl e7 d4 (d3 _ d4) (by (simp only [List.length_set,List.length_append,List.length_cons,List.length_nil,List.length_replicate];omega)) rfl l5 fun l7 l8 b5 l9 a6=>(?_))))))))))))))
  have a2:=a2.mv b5
  have ho1_4:=ho1_4.mv b5 l9 (fun b hb=>by simp only [List.mem_singleton];rintro rfl;exact absurd d4 (a8 _ hb))
  have a1:=a1.mv b5
  have a0:=a0.mv b5
  refine AG (AC (AF (FM [] [1,4,5] [[(0,1),(1,1),(2,1),(3,1),(4,2),(5,0)],[(0,1),(2,1),(3,1),(4,2),(1,1),(5,0)]] (by intro c F d v w hd;(try simp only [GI,FG]);exact GJ c F d v w hd) kR kR kR fun d8 b6=>?_)))
  have b7:=l8.call b6
  have b0:Mv (a9 :: d5) l7 (a9 :: d5) d8:=Mv.of_keep b6
  have a2:=a2.mv b0
  have ho1_4:=ho1_4.mv b0 b6 (by simp)
  have a1:=a1.mv b0
  have a6:=a6.mv b0 b6 (by simp)
  have a0:=a0.mv b0
  refine ⟨?_,?_,trivial⟩
  ·refine BS (AD (a5) rfl (EP (BS (RV U23_ JD 1 .i64 (1:Int) rfl rfl rfl (by rw [List.length_set,List.length_replicate];omega) a6 fun t2 i5=>(EP (BS (AD (l_v) rfl (EP (BS (AD (vI ((k:Nat):Int)) rfl (EP (FA (BF (vs:=[l_v,vI ((k:Nat):Int)]) XL (YC (O:=(a9 :: d5)++O) l_v l k d8 a2 oM (fun j hj=>by rw [hv.da j hj];omega) b7.lt) rfl b7 fun t3 t4 m0 b1 d9 m1=>(?_))))))))))))))
   obtain ⟨_,rfl,e8⟩:=m1
   have:=e8.len_le
   have a2:=a2.mv b1
   have ho1_4:=ho1_4.mv b1 d9 (by simp)
   have a1:=a1.mv b1
   have a6:=a6.mv b1 d9 (by simp)
   have a0:=a0.mv b1
   refine ⟨d9,?_⟩
   refine UZ (o_copyO (l:=((List.replicate (((l[0]!).threshold).toNat) (0:UInt8)).set 0 (secret[k]!))) (m:=(IG l k)) U23_ JD rfl rfl i5 a6 d3 e8 (by rw [List.length_set,List.length_replicate];omega) m0 fun t5 m2 m3 b8 m4 e9=>(?_))
   rw [show ((List.replicate (((l[0]!).threshold).toNat) (0:UInt8)).set 0 (secret[k]!)).take 1++(IG l k).take (((List.replicate (((l[0]!).threshold).toNat) (0:UInt8)).set 0 (secret[k]!)).length - 1)++((List.replicate (((l[0]!).threshold).toNat) (0:UInt8)).set 0 (secret[k]!)).drop (1+(IG l k).length)=JK l secret[k]! k (l[0]!.threshold.toNat - 1 - l.length) from expY_eq oM] at e9
   have a2:=a2.mv b8
   have ho1_4:=ho1_4.mv b8 m4 (fun b hb=>by simp only [Option.mem_toList];exact a8 b hb)
   have a1:=a1.mv b8
   have a0:=a0.mv b8
   refine FH (AC (AF (AB kR (AA (AD (a4) rfl (AA (AD (a5) rfl (?_))))))))
   obtain ⟨g7,g8,b9,f0,i6⟩:=e9.publish m3
   have a7:∀ b,a3.ownBlock=some b→b∈g7:=fun b hb=>i6 b (a7 b hb) (a8 b hb)
   have o8:=f0.len_le
   have a2:=a2.mv b9
   have ho1_4:=ho1_4.mv b9 (Keep.refl [] _) (by simp)
   have a1:=a1.mv b9
   have a0:=a0.mv b9
   refine AA (BF (vs:=[a4,a5]) WN (c_coeff (O:=g7++O) a4 (HP l (l[0]!.threshold.toNat - 1 - l.length)) a5 (JK l secret[k]! k (l[0]!.threshold.toNat - 1 - l.length)) m2 a1 f0 (by rw [IU];omega) g8.lt) rfl g8 fun t6 t7 m5 c0 m6 m7=>(?_))
   obtain ⟨c1,rfl,f1⟩:=m7
   have:=f1.len_le
   have a2:=a2.mv c0
   have ho1_4:=ho1_4.mv c0 m6 (by simp)
   have a1:=a1.mv c0
   have a0:=a0.mv c0
   refine AA (AD (vT #[c1,vI ((EH (HP l (l[0]!.threshold.toNat - 1 - l.length)) (JK l secret[k]! k (l[0]!.threshold.toNat - 1 - l.length))).2)]) rfl (AA (AL (c1) rfl rfl (AA (AL (vI ((EH (HP l (l[0]!.threshold.toNat - 1 - l.length)) (JK l secret[k]! k (l[0]!.threshold.toNat - 1 - l.length))).2)) rfl rfl (AA (AE (c1) rfl (AA (AE (vI ((EH (HP l (l[0]!.threshold.toNat - 1 - l.length)) (JK l secret[k]! k (l[0]!.threshold.toNat - 1 - l.length))).2)) rfl (AG (AC (AB kR (AA (AD (a3) rfl (AA (AD (c1) rfl (AA (ST U23_ JD 1 (((EH (HP l (l[0]!.threshold.toNat - 1 - l.length)) (JK l secret[k]! k (l[0]!.threshold.toNat - 1 - l.length))).1).length) rfl (.inr ⟨.const (vI 1), .i64,(1:Int),rfl,rfl,rfl⟩) (.inl ⟨rfl,rfl⟩) (by rw [hco];omega) (Nat.le_refl _) f1 fun t8 f2=>(?_)))))))))))))))))))
   rw [List.take_length] at f2
   refine AA (DI (E:=Enc.u8) (l:=(JU l secret (l[0]!.threshold.toNat - 1 - l.length) k)) (m:=(((EH (HP l (l[0]!.threshold.toNat - 1 - l.length)) (JK l secret[k]! k (l[0]!.threshold.toNat - 1 - l.length))).1).drop 1)) U23_ i_5 rfl (by decide) rfl rfl ho1_4 f2 (fun _ hb=>.inl hb) a7 (by rw [List.length_drop,hco];omega) (by rw [List.length_drop,hco];simp only [maxLen];omega) m5 fun g9 t9 m9 i7 q3 o9 n2 e0 u0 i8=>(?_))
   have a2:=a2.mv e0
   have a1:=a1.mv e0
   have a0:=a0.mv e0
   refine AA (AE (g9) rfl (AG (CB (AC (AB kR (AA (DR .i64 ((k:Nat):Int) (1:Int) (((k+1:Nat):Int)) rfl rfl (GZ oM oM) (AA (AD (vI ((k+1:Nat):Int)) rfl (AG (AC (?_))))))))))))
   exact ⟨_,oM,(k+1),g9,m9,oM,rfl,⟨_,BD _ ⟨rfl,rfl,rfl,rfl,rfl,rfl,(by rfl),rfl,trivial⟩⟩,n2,(by rw [show (JU l secret (l[0]!.threshold.toNat - 1 - l.length) (k+1))=(JU l secret (l[0]!.threshold.toNat - 1 - l.length) k)++(((EH (HP l (l[0]!.threshold.toNat - 1 - l.length)) (JK l secret[k]! k (l[0]!.threshold.toNat - 1 - l.length))).1).drop 1) from rfl];exact i8),i7,a2,a1,a0⟩
  refine BS (AD (a5) rfl (EP (BS (AD (l_v) rfl (EP (BS (AD (vI ((k:Nat):Int)) rfl (EP (FA (BF (vs:=[l_v,vI ((k:Nat):Int)]) XL (YC (O:=(a9 :: d5)++O) l_v l k d8 a2 oM (fun j hj=>by rw [hv.da j hj];omega) b7.lt) rfl b7 fun u1 u2 n3 b2 e1 n4=>(?_)))))))))))
  obtain ⟨_,rfl,f3⟩:=n4
  have:=f3.len_le
  have a2:=a2.mv b2
  have ho1_4:=ho1_4.mv b2 e1 (by simp)
  have a1:=a1.mv b2
  have a6:=a6.mv b2 e1 (by simp)
  have a0:=a0.mv b2
  refine ⟨e1,?_⟩
  refine BS (RV U23_ JD 1 .i64 (1:Int) rfl rfl rfl (by rw [List.length_set,List.length_replicate];omega) a6 fun u3 i9=>(EP (UZ (o_copyO (l:=((List.replicate (((l[0]!).threshold).toNat) (0:UInt8)).set 0 (secret[k]!))) (m:=(IG l k)) U23_ JD rfl rfl i9 a6 d3 f3 (by rw [List.length_set,List.length_replicate];omega) n3 fun u4 n5 n6 c2 n7 f4=>(?_)))))
  rw [show ((List.replicate (((l[0]!).threshold).toNat) (0:UInt8)).set 0 (secret[k]!)).take 1++(IG l k).take (((List.replicate (((l[0]!).threshold).toNat) (0:UInt8)).set 0 (secret[k]!)).length - 1)++((List.replicate (((l[0]!).threshold).toNat) (0:UInt8)).set 0 (secret[k]!)).drop (1+(IG l k).length)=JK l secret[k]! k (l[0]!.threshold.toNat - 1 - l.length) from expY_eq oM] at f4
  have a2:=a2.mv c2
  have ho1_4:=ho1_4.mv c2 n7 (fun b hb=>by simp only [Option.mem_toList];exact a8 b hb)
  have a1:=a1.mv c2
  have a0:=a0.mv c2
  refine FH (AC (AF (AB kR (AA (AD (a4) rfl (AA (AD (a5) rfl (?_))))))))
  obtain ⟨h0,h1,c3,f5,j0⟩:=f4.publish n6
  have a7:∀ b,a3.ownBlock=some b→b∈h0:=fun b hb=>j0 b (a7 b hb) (a8 b hb)
  have p0:=f5.len_le
  have a2:=a2.mv c3
  have ho1_4:=ho1_4.mv c3 (Keep.refl [] _) (by simp)
  have a1:=a1.mv c3
  have a0:=a0.mv c3
  refine AA (BF (vs:=[a4,a5]) WN (c_coeff (O:=h0++O) a4 (HP l (l[0]!.threshold.toNat - 1 - l.length)) a5 (JK l secret[k]! k (l[0]!.threshold.toNat - 1 - l.length)) n5 a1 f5 (by rw [IU];omega) h1.lt) rfl h1 fun u5 u6 n9 c4 o0 o1=>(?_))
  obtain ⟨c5,rfl,f6⟩:=o1
  have:=f6.len_le
  have a2:=a2.mv c4
  have ho1_4:=ho1_4.mv c4 o0 (by simp)
  have a1:=a1.mv c4
  have a0:=a0.mv c4
  refine AA (AD (vT #[c5,vI ((EH (HP l (l[0]!.threshold.toNat - 1 - l.length)) (JK l secret[k]! k (l[0]!.threshold.toNat - 1 - l.length))).2)]) rfl (AA (AL (c5) rfl rfl (AA (AL (vI ((EH (HP l (l[0]!.threshold.toNat - 1 - l.length)) (JK l secret[k]! k (l[0]!.threshold.toNat - 1 - l.length))).2)) rfl rfl (AA (AE (c5) rfl (AA (AE (vI ((EH (HP l (l[0]!.threshold.toNat - 1 - l.length)) (JK l secret[k]! k (l[0]!.threshold.toNat - 1 - l.length))).2)) rfl (AG (AC (AB kR (AA (AD (a3) rfl (AA (AD (c5) rfl (AA (ST U23_ JD 1 (((EH (HP l (l[0]!.threshold.toNat - 1 - l.length)) (JK l secret[k]! k (l[0]!.threshold.toNat - 1 - l.length))).1).length) rfl (.inr ⟨.const (vI 1), .i64,(1:Int),rfl,rfl,rfl⟩) (.inl ⟨rfl,rfl⟩) (by rw [hco];omega) (Nat.le_refl _) f6 fun u7 f7=>(?_)))))))))))))))))))
  rw [List.take_length] at f7
  refine AA (DI (E:=Enc.u8) (l:=(JU l secret (l[0]!.threshold.toNat - 1 - l.length) k)) (m:=(((EH (HP l (l[0]!.threshold.toNat - 1 - l.length)) (JK l secret[k]! k (l[0]!.threshold.toNat - 1 - l.length))).1).drop 1)) U23_ i_5 rfl (by decide) rfl rfl ho1_4 f7 (fun _ hb=>.inl hb) a7 (by rw [List.length_drop,hco];omega) (by rw [List.length_drop,hco];simp only [maxLen];omega) n9 fun h2 u9 o2 j1 q4 p1 o3 e2 v0 j2=>(?_))
  have a2:=a2.mv e2
  have a1:=a1.mv e2
  have a0:=a0.mv e2
  refine AA (AE (h2) rfl (AG (CB (AC (AB kR (AA (DR .i64 ((k:Nat):Int) (1:Int) (((k+1:Nat):Int)) rfl rfl (GZ oM oM) (AA (AD (vI ((k+1:Nat):Int)) rfl (AG (AC (?_))))))))))))
  exact ⟨_,oM,(k+1),h2,o2,oM,rfl,⟨_,BD _ ⟨rfl,rfl,rfl,rfl,rfl,rfl,(by rfl),rfl,trivial⟩⟩,o3,(by rw [show (JU l secret (l[0]!.threshold.toNat - 1 - l.length) (k+1))=(JU l secret (l[0]!.threshold.toNat - 1 - l.length) k)++(((EH (HP l (l[0]!.threshold.toNat - 1 - l.length)) (JK l secret[k]! k (l[0]!.threshold.toNat - 1 - l.length))).1).drop 1) from rfl];exact j2),j1,a2,a1,a0⟩
 have q5:(secret.length:Int)≤((k:Nat):Int):=by simpa using d1
 obtain rfl:k=secret.length:=by omega
 refine DW (CL (CL (DK (AC (AF (AB kR (AA (AD (a3) rfl (AA (AE (a3) rfl (AA (AE (vI 0) rfl (AG (AC (AM (AZ rfl (GE rfl rfl rfl rfl) (?_)))))))))))))))))
 have e:(AQ l secret)=((JU l secret (l[0]!.threshold.toNat - 1 - l.length) secret.length),(0:Int)):=by exact QJ oM oM oM rfl
 exact ⟨_,rfl,i3.keep,by rw [e];exact ⟨a3,rfl,(fun b hb=>(i3.new b (a7 b hb)).1),(ho1_4.sub (fun x hx=>.inl ((List.mem_append.1 hx).elim (fun h=>List.mem_append_left _ (a7 x (by simpa using h))) (fun h=>List.mem_append_right _ h))))⟩⟩
end Go.Proofs.Ytjgfokolnkhafaa
