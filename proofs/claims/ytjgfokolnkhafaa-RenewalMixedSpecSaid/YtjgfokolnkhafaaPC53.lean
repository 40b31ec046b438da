/- What the laws of this part rest on: lemmas, and the walks of the functions. No conditions. -/
import Derived.WalkKit
import Derived.WalkSpells
import Derived.WalkLawsBesides
import Derived.RangeFuncLeaves
import Derived.Maps.AppendAt
import Derived.Deep.AppendLies
import Derived.Deep.Slices
import Derived.OpenShut
import Derived.ProofKit
import Derived.Below
import Derived.ChangeSame
import Derived.Carry
import Derived.RangeFuncRecord
import Derived.Laws.Tables
import Derived.Recover
import Derived.DefersIn
import Derived.Lib.AppendZerosOnto
import Derived.Lib.Overlaps
import Derived.Laws.CopyRow
import Derived.Laws.StructEq
import Derived.ChangeKeysEq
import Derived.OrdersIn
import Derived.Test.YtjgfokolnkhafaaRows
import Derived.Test.YtjgfokolnkhafaaPC52
set_option linter.unusedSimpArgs false
set_option linter.unusedVariables false
namespace Go.Proofs.Ytjgfokolnkhafaa
open Go.Fw Go.RowKit
set_option maxHeartbeats 4000000 in
set_option maxRecDepth 100000 in
theorem c_new {O:List Nat} (l_v:Value) (l:List Int) (threshold:Int) (wait:Int) (w:World) (a7:BB Enc.int w O l_v l) (hpre0:l.length≤1000000) (hO:∀ b∈O,b<w.heap.size):CE Try.prog 10 [l_v,vI threshold,vI wait] w (fun v w'=>∃ (x0:List Value),v = .tuple #[.agg x0.toArray,vI ((MF l threshold wait).2)]∧Enc.circle.rd w' (O) x0 ((MF l threshold wait).1)):= by
 have i0:=a7.len_le
 have a7:BB Enc.int w ([]++O) l_v l:=a7
 have s0:St w O w []:=St.start hO
 refine BI 21 Try.func10 rfl rfl oT (fun F0=>AF (AB kR (AA (DE [vI 0,vI 0,vI 0,nS,nS] NN rfl s0 fun a3 d5 d6 b7 d7 i1 a2=>(?_)))))
 clear d6
 have a7:=a7.mv d7
 refine AA (AD (vI 0) rfl (AG (AC (AF (AB kR (AA (AE (vI threshold) rfl (AA (AE (vI wait) rfl (AA (AE (l_v) rfl (AA (LB [l_v] _ VI rfl (CG 8 Try.func32 rfl rfl oT (fun i2=>AF (AB kR (AA (AD (nS) rfl (AG (AC (AF (AF (AB kR (AA (AE (l_v) rfl (AA (KF U22_ rfl rfl a7 fun a9 c3=>(AG (AC (AJ (a9) rfl rfl (fun b0=>?_) (fun b0=>?_)))))))))))))))))) (fun _ _ h=>h))))))))))))))
 ·have h3:a9=true:=by simpa using b0
  refine AF (AB kR (AA (AD (nS) rfl (AG (AC (AM (AK (AS rfl (CN rfl rfl rfl) (?_)))))))))
  have c4:l=[]:=c3 aS
  have a4:BB Enc.int d5 ((a3 :: [])++O) (.slice none 0 0) (l):=by rw [c4];exact BB.nil _ _ _
  refine Exists.intro _ (And.intro rfl (AA (EN (l:=[(1, .tmp 9),(2, .tmp 10),(3, .tmp 12)]) TM NN rfl [(1,vI threshold,[vI threshold]),(2,vI wait,[vI wait]),(3, .slice none 0 0,[.slice none 0 0])] [vI 0,vI threshold,vI wait, .slice none 0 0,nS] rfl ⟨_,rfl,rfl,oT,⟨_,rfl,rfl,oT,⟨_,rfl,(GC a4.oneCell),oT,rfl⟩⟩⟩ (CB (BF (vs:=[vI 0,vI threshold,vI wait, .slice none 0 0,nS]) (.agg #[vI 0,vI threshold,vI wait, .slice none 0 0,nS]) rfl rfl rfl BR (fun u hu=>by simp only [List.mem_cons,List.not_mem_nil,or_false] at hu;rcases hu with rfl|rfl|rfl|rfl|rfl <;> rfl) (by repeat (constructor)) a2 oT b7 fun d8 b8 d9 i3 a5=>(?_))))))
  have a4:=a4.mv d9
  refine AG (AC (AF (AF (AB kR (AA (BW (vs:=[vI 0,vI threshold,vI wait, .slice none 0 0,nS]) U28_ rfl BR rfl a5 rfl (AA (AZ (vs:=[vA #[vI 0,vI threshold,vI wait, .slice none 0 0,nS]]) NC (PO (O:=(a3 :: [])++O) [vI 0,vI threshold,vI wait, .slice none 0 0,nS] (⟨(0:Int),threshold,wait,l,[]⟩:Circle) d8 ⟨_, .slice none 0 0,rfl,a4,(BB.nil _ _ _)⟩ b8.lt) rfl b8 fun i4 i5 b9 e0 e2 e3=>(?_)))))))))
  obtain rfl:=e3
  have a4:=a4.mv e0
  have a5:=a5.keep e2 (by simp)
  refine AA (AD (vI (AQ (⟨(0:Int),threshold,wait,l,[]⟩:Circle))) rfl (AG (AC (AF (AB kR (AA (AE (vI (AQ (⟨(0:Int),threshold,wait,l,[]⟩:Circle))) rfl (AA (CT .i64 (AQ (⟨(0:Int),threshold,wait,l,[]⟩:Circle)) (0:Int) rfl rfl (AG (AC (AJ ((AQ (⟨(0:Int),threshold,wait,l,[]⟩:Circle)) != (0:Int)) rfl rfl (fun b1=>?_) (fun b1=>?_)))))))))))))
  ·have h4:AQ (⟨(0:Int),threshold,wait,l,[]⟩:Circle)≠(0:Int):=by simpa using b1
   refine AF (AB kR (AA (EN (l:=[]) TM NN rfl [] [vI 0,vI 0,vI 0,nS,nS] rfl rfl (AA (AE (vI (AQ (⟨(0:Int),threshold,wait,l,[]⟩:Circle))) rfl (CB (BF (vs:=[vI 0,vI 0,vI 0,nS,nS]) (.agg #[vI 0,vI 0,vI 0,nS,nS]) rfl rfl rfl BR (fun u hu=>by simp only [List.mem_cons,List.not_mem_nil,or_false] at hu;rcases hu with rfl|rfl|rfl|rfl|rfl <;> rfl) (by repeat (constructor)) a5 oT b9 fun i6 e4 i7 i8 c6=>(AA (AD (vI (AQ (⟨(0:Int),threshold,wait,l,[]⟩:Circle))) rfl (AG (AC (AM (AK (AS rfl (FA rfl (EZ (vs:=[vI 0,vI 0,vI 0,nS,nS]) rfl U28_ rfl BR rfl c6 rfl) (ES rfl rfl)) (?_)))))))))))))))
   have e5:((MF l threshold wait).1)=(⟨(0:Int),(0:Int),(0:Int),[],[]⟩:Circle):=by exact congrArg (fun p=>p.1) (SA aS)
   have e6:((MF l threshold wait).2)=(AQ (⟨(0:Int),threshold,wait,l,[]⟩:Circle)):=by exact congrArg (fun p=>p.2) (SA aS)
   exact ⟨_,rfl,e4.keep,by rw [e5,e6];exact ⟨[vI 0,vI 0,vI 0,nS,nS],rfl,Enc.out (B:=(a3 :: [])) ⟨.slice none 0 0, .slice none 0 0,rfl,(BB.nil _ _ _),(BB.nil _ _ _)⟩⟩⟩
  have h5:AQ (⟨(0:Int),threshold,wait,l,[]⟩:Circle)=(0:Int):=by simpa using b1
  refine AO (AC (AF (AB kR (AA (BW (vs:=[vI 0,vI threshold,vI wait, .slice none 0 0,nS]) U28_ rfl BR rfl a5 rfl (CB (BF (vs:=[vI 0,vI threshold,vI wait, .slice none 0 0,nS]) (.agg #[vI 0,vI threshold,vI wait, .slice none 0 0,nS]) rfl rfl rfl BR (fun u hu=>by simp only [List.mem_cons,List.not_mem_nil,or_false] at hu;rcases hu with rfl|rfl|rfl|rfl|rfl <;> rfl) (by repeat (constructor)) a5 oT b9 fun i9 e7 e8 j0 c7=>(?_))))))))
  have a4:=a4.mv e8
  refine AA (AD (vI 0) rfl (AG (AC (AM (AS rfl (FA rfl (EZ (vs:=[vI 0,vI threshold,vI wait, .slice none 0 0,nS]) rfl U28_ rfl BR rfl c7 rfl) (ES rfl rfl)) (?_))))))
  have e9:((MF l threshold wait).1)=(⟨(0:Int),threshold,wait,l,[]⟩:Circle):=by exact congrArg (fun p=>p.1) (UF aS)
  have f0:((MF l threshold wait).2)=(0:Int):=by exact congrArg (fun p=>p.2) (UF aS)
  exact ⟨_,rfl,e7.keep,by rw [e9,f0];exact ⟨[vI 0,vI threshold,vI wait, .slice none 0 0,nS],rfl,Enc.out (B:=(a3 :: [])) ⟨_, .slice none 0 0,rfl,a4,(BB.nil _ _ _)⟩⟩⟩
 have h6:a9=false:=by simpa using b0
 refine AO (AC (AF (AB kR (AA (HT (E:=Enc.int) (xs:=[]) U22_ OV z_3 (by decide) [] [] [] rfl rfl rfl (Parts.nil _ _ _) oT b7 fun c0 f1 j1 f2 b2 f3 f4 f5 c8=>(?_))))))
 have b4:∀ b,c0.ownBlock=some b→b≠a3:=fun b hb=>by have:=a2.lt;rw [b2] at hb;cases hb;omega
 have c9:∀ b,c0.ownBlock=some b→b∈(f1 :: (a3 :: [])):=fun b hb=>by rw [b2] at hb;cases hb;simp
 clear f2 b2
 have a7:=a7.mv f4
 have a2:=a2.keep f5 (by simp)
 refine AA (AE (l_v) rfl (AA (CY (E:=Enc.int) (l:=[]) (m:=l) U22_ i_3 rfl (by decide) rfl rfl c8 a7 (fun _ hb=>.inl hb) c9 (by simp;omega) (by simp [maxLen];omega) f3 fun a0 j2 f6 h7 d0 c5 f7 j3 f8 b5=>(?_))))
 rw [List.nil_append] at b5
 have d1:∀ b,a0.ownBlock=some b→b≠a3:=fun b hb=>by rcases d0 with e1|e1 <;> rw [e1] at hb <;> first|(cases hb;have:=a2.lt;omega)|(exact b4 b hb)
 have b6:a3∈f6:=c5 a3 (by repeat (constructor))
 have a2:=a2.keep f8 (by simp only [Option.mem_toList];exact fun e=>absurd rfl (b4 _ e))
 refine AA (AD (a0) rfl (AG (AC (AM (AS rfl (CN rfl rfl rfl) (Exists.intro _ (And.intro rfl (?_))))))))
 obtain ⟨a8,f9,j4,a1,d2⟩:=b5.publish f7
 have b6:a3∈a8:=d2 a3 (by repeat (assumption)) (fun e=>absurd rfl (d1 _ e))
 have h2:=a1.len_le
 have a2:=a2.keep (Keep.refl [] _) (by simp)
 refine AA (EN (l:=[(1, .tmp 9),(2, .tmp 10),(3, .tmp 12)]) TM NN rfl [(1,vI threshold,[vI threshold]),(2,vI wait,[vI wait]),(3,a0,[a0])] [vI 0,vI threshold,vI wait,a0,nS] rfl ⟨_,rfl,rfl,oT,⟨_,rfl,rfl,oT,⟨_,rfl,(GC a1.oneCell),oT,rfl⟩⟩⟩ (CB (BF (vs:=[vI 0,vI threshold,vI wait,a0,nS]) (.agg #[vI 0,vI threshold,vI wait,a0,nS]) rfl rfl rfl BR (fun u hu=>by simp only [List.mem_cons,List.not_mem_nil,or_false] at hu;rcases hu with rfl|rfl|rfl|rfl|rfl <;> first|rfl|exact a1.oneCell) (by repeat (assumption)) a2 oT f9 fun g0 c1 g1 j5 a6=>(?_))))
 have a1:=a1.mv g1
 refine AG (AC (AF (AF (AB kR (AA (BW (vs:=[vI 0,vI threshold,vI wait,a0,nS]) U28_ rfl BR rfl a6 rfl (AA (AZ (vs:=[vA #[vI 0,vI threshold,vI wait,a0,nS]]) NC (PO (O:=a8++O) [vI 0,vI threshold,vI wait,a0,nS] (⟨(0:Int),threshold,wait,l,[]⟩:Circle) g0 ⟨_, .slice none 0 0,rfl,a1,(BB.nil _ _ _)⟩ c1.lt) rfl c1 fun j6 j7 c2 g2 g3 g4=>(?_)))))))))
 obtain rfl:=g4
 have a1:=a1.mv g2
 have a6:=a6.keep g3 (by simp)
 refine AA (AD (vI (AQ (⟨(0:Int),threshold,wait,l,[]⟩:Circle))) rfl (AG (AC (AF (AB kR (AA (AE (vI (AQ (⟨(0:Int),threshold,wait,l,[]⟩:Circle))) rfl (AA (CT .i64 (AQ (⟨(0:Int),threshold,wait,l,[]⟩:Circle)) (0:Int) rfl rfl (AG (AC (AJ ((AQ (⟨(0:Int),threshold,wait,l,[]⟩:Circle)) != (0:Int)) rfl rfl (fun b3=>?_) (fun b3=>?_)))))))))))))
 ·have h8:AQ (⟨(0:Int),threshold,wait,l,[]⟩:Circle)≠(0:Int):=by simpa using b3
  refine AF (AB kR (AA (EN (l:=[]) TM NN rfl [] [vI 0,vI 0,vI 0,nS,nS] rfl rfl (AA (AE (vI (AQ (⟨(0:Int),threshold,wait,l,[]⟩:Circle))) rfl (CB (BF (vs:=[vI 0,vI 0,vI 0,nS,nS]) (.agg #[vI 0,vI 0,vI 0,nS,nS]) rfl rfl rfl BR (fun u hu=>by simp only [List.mem_cons,List.not_mem_nil,or_false] at hu;rcases hu with rfl|rfl|rfl|rfl|rfl <;> rfl) (by repeat (assumption)) a6 oT c2 fun j8 g5 j9 k0 d3=>(AA (AD (vI (AQ (⟨(0:Int),threshold,wait,l,[]⟩:Circle))) rfl (AG (AC (AM (AK (AS rfl (FA rfl (EZ (vs:=[vI 0,vI 0,vI 0,nS,nS]) rfl U28_ rfl BR rfl d3 rfl) (ES rfl rfl)) (?_)))))))))))))))
  have g6:((MF l threshold wait).1)=(⟨(0:Int),(0:Int),(0:Int),[],[]⟩:Circle):=by exact congrArg (fun p=>p.1) (SA aS)
  have g7:((MF l threshold wait).2)=(AQ (⟨(0:Int),threshold,wait,l,[]⟩:Circle)):=by exact congrArg (fun p=>p.2) (SA aS)
  exact ⟨_,rfl,g5.keep,by rw [g6,g7];exact ⟨[vI 0,vI 0,vI 0,nS,nS],rfl,Enc.out (B:=a8) ⟨.slice none 0 0, .slice none 0 0,rfl,(BB.nil _ _ _),(BB.nil _ _ _)⟩⟩⟩
 have h9:AQ (⟨(0:Int),threshold,wait,l,[]⟩:Circle)=(0:Int):=by simpa using b3
 refine AO (AC (AF (AB kR (AA (BW (vs:=[vI 0,vI threshold,vI wait,a0,nS]) U28_ rfl BR rfl a6 rfl (CB (BF (vs:=[vI 0,vI threshold,vI wait,a0,nS]) (.agg #[vI 0,vI threshold,vI wait,a0,nS]) rfl rfl rfl BR (fun u hu=>by simp only [List.mem_cons,List.not_mem_nil,or_false] at hu;rcases hu with rfl|rfl|rfl|rfl|rfl <;> first|rfl|exact a1.oneCell) (by repeat (assumption)) a6 oT c2 fun k1 g8 g9 k2 d4=>(?_))))))))
 have a1:=a1.mv g9
 refine AA (AD (vI 0) rfl (AG (AC (AM (AS rfl (FA rfl (EZ (vs:=[vI 0,vI threshold,vI wait,a0,nS]) rfl U28_ rfl BR rfl d4 rfl) (ES rfl rfl)) (?_))))))
 have h0:((MF l threshold wait).1)=(⟨(0:Int),threshold,wait,l,[]⟩:Circle):=by exact congrArg (fun p=>p.1) (UF aS)
 have h1:((MF l threshold wait).2)=(0:Int):=by exact congrArg (fun p=>p.2) (UF aS)
 exact ⟨_,rfl,g8.keep,by rw [h0,h1];exact ⟨[vI 0,vI threshold,vI wait,a0,nS],rfl,Enc.out (B:=a8) ⟨_, .slice none 0 0,rfl,a1,(BB.nil _ _ _)⟩⟩⟩
set_option maxHeartbeats 4000000 in
set_option maxRecDepth 100000 in
theorem c_ask {O:List Nat} (c_cs:List Value) (c:Circle) (day:Int) (w:World) (n7:Enc.circle.rd w O c_cs c) (hO:∀ b∈O,b<w.heap.size):CE Try.prog 34 [.agg c_cs.toArray,vI day] w (fun v w'=>∃ (x0:List Value),v = .tuple #[.agg x0.toArray,vI ((CJ c day).2.1),vI ((CJ c day).2.2)]∧Enc.circle.rd w' (O) x0 ((CJ c day).1)):= by
 have n7:Enc.circle.rd w ([]++O) c_cs c:=n7
 have s0:St w O w []:=St.start hO
 refine BI 55 Try.func34 rfl rfl oT (fun F0=>AF (AB kR (AA (ER (E:=Enc.circle) (vA c_cs.toArray) (c_cs) c rfl rfl n7 s0 fun E3 E4 q8 E5 E6 a5=>(AA (DE [vI 0,vI 0,vI 0,nS,nS] NN rfl q8 fun a0 q9 r0 j1 r1 E7 a4=>(?_)))))))
 clear r0
 have a5:=a5.mv r1
 refine AA (AD (vI 0) rfl (AA (AD (vI 0) rfl (AG (AC (AF (AF (AB kR (AA (DF U28_ rfl BR rfl a5 fun g0 n9=>(AA (AZ (vs:=[vA g0.toArray]) NC (PO (O:=(a0 :: [])++O) g0 c q9 n9 j1.lt) rfl j1 fun E8 E9 j2 r2 r3 r4=>(?_)))))))))))))
 obtain rfl:=r4
 have a5:=a5.mv r2
 have a4:=a4.keep r3 (by simp)
 refine AA (AD (vI (AQ c)) rfl (AG (AC (AF (AB kR (AA (AE (vI (AQ c)) rfl (AA (CT .i64 (AQ c) (0:Int) rfl rfl (AG (AC (AJ ((AQ c) != (0:Int)) rfl rfl (fun d0=>?_) (fun d0=>?_)))))))))))))
 ·have B3:AQ c≠(0:Int):=by simpa using d0
  refine AF (AB kR (AA (BW (vs:=[vI 0,vI 0,vI 0,nS,nS]) U28_ rfl BR rfl a4 rfl (AA (AE (vI (AQ c)) rfl (CB (BF (vs:=[vI 0,vI 0,vI 0,nS,nS]) (.agg #[vI 0,vI 0,vI 0,nS,nS]) rfl rfl rfl BR (fun u hu=>by simp only [List.mem_cons,List.not_mem_nil,or_false] at hu;rcases hu with rfl|rfl|rfl|rfl|rfl <;> rfl) (by repeat (constructor)) a4 oT j2 fun F1 r5 F2 F3 o0=>(AA (AD (vI 0) rfl (AA (AD (vI (AQ c)) rfl (AG (AC (AM (AK (AS rfl (IU rfl (EZ (vs:=[vI 0,vI 0,vI 0,nS,nS]) rfl U28_ rfl BR rfl o0 rfl) (ES rfl rfl) (ES rfl rfl)) (?_)))))))))))))))))
  have r6:((CJ c day).1)=(⟨(0:Int),(0:Int),(0:Int),[],[]⟩:Circle):=by exact congrArg (fun p=>p.1) (VL aS)
  have r7:((CJ c day).2.1)=(0:Int):=by exact congrArg (fun p=>p.2.1) (VL aS)
  have r8:((CJ c day).2.2)=(AQ c):=by exact congrArg (fun p=>p.2.2) (VL aS)
  exact ⟨_,rfl,r5.keep,by rw [r6,r7,r8];exact ⟨[vI 0,vI 0,vI 0,nS,nS],rfl,Enc.out (B:=(a0 :: [])) ⟨.slice none 0 0, .slice none 0 0,rfl,(BB.nil _ _ _),(BB.nil _ _ _)⟩⟩⟩
 have o1:AQ c=(0:Int):=by simpa using d0
 have hrl:=recs_le o1
 refine AO (AC (AF (AB kR (AA (BH 4 FD (c.recs) rfl a5 (fun _ _ _ h=>DI h) fun F4 o2=>(AA (CF U26_ rfl rfl o2 fun F5 g1=>(?_))))))))
 have:=g1.len_le
 refine AA (CA U26_ rfl g1 (AA (AD (vI (c.recs.length:Int)) rfl (AG (AC (AF (AB kR (AA (EN (l:=[(2, .const (vI 1))]) pl_68 OW rfl [(2,vI 1,[vI 1])] [vI 0,vI 0,vI 1,nS,nS] rfl ⟨_,rfl,rfl,oT,rfl⟩ (AA (DE [vI 0,vI 0,vI 0,nS,nS] OW rfl j2 fun a3 F6 r9 s1 s2 s3 o3=>(?_))))))))))))
 have c4:GV a0 a3:=by show a0≠a3;have:=a4.lt;omega
 clear r9
 have a5:=a5.mv s2
 have a4:=a4.keep s3 (by simp)
 refine CB (BF (vs:=[vI 0,vI 0,vI 1,nS,nS]) (.agg #[vI 0,vI 0,vI 1,nS,nS]) rfl rfl rfl IE (fun u hu=>by simp only [List.mem_cons,List.not_mem_nil,or_false] at hu;rcases hu with rfl|rfl|rfl|rfl|rfl <;> rfl) (by repeat (constructor)) o3 oT s1 fun s4 f0 s5 s6 a6=>(?_))
 have a5:=a5.mv s5
 have a4:=a4.keep s6 (BC c4)
 refine AG (AC (AF (AF (AB kR (AA (AE (vI (c.recs.length:Int)) rfl (AA (GQ .i64 (c.recs.length:Int) (0:Int) rfl rfl (AG (AC (AJ (decide ((0:Int)<(c.recs.length:Int))) rfl rfl (fun d1=>?_) (fun d1=>?_))))))))))))
 ·have B4:(0:Int)<(c.recs.length:Int):=by simpa using d1
  have hlr:OS c=c.recs[c.recs.length - 1]!:=if_pos oM
  refine AB kR (AA (BH 4 FD (c.recs) rfl a5 (fun _ _ _ h=>DI h) fun F7 o4=>(AA (CF U26_ rfl rfl o4 fun F8 g2=>(?_)))))
  have:=g2.len_le
  refine AA (AE (vI (c.recs.length:Int)) rfl (AA (IA .i64 (c.recs.length:Int) (1:Int) (((c.recs.length - 1:Nat):Int)) rfl rfl (FQ oM oM) (AA (CP U26_ IE .i64 ((c.recs.length - 1:Nat):Int) (c.recs.length - 1) rfl rfl rfl g2 oM fun F9 o5=>(AA (DF U68_ rfl IE rfl o5 fun B5 o6=>(?_))))))))
  obtain ⟨j3,j4,rfl,g3,g4⟩:=o6
  have:=g3.len_le
  have:=g4.len_le
  refine CB (BF (vs:=[vI ((c.recs[c.recs.length - 1]!).no),vI ((c.recs[c.recs.length - 1]!).asked),vI ((c.recs[c.recs.length - 1]!).state),j3,j4]) (.agg #[vI ((c.recs[c.recs.length - 1]!).no),vI ((c.recs[c.recs.length - 1]!).asked),vI ((c.recs[c.recs.length - 1]!).state),j3,j4]) rfl rfl rfl IE (fun u hu=>by simp only [List.mem_cons,List.not_mem_nil,or_false] at hu;rcases hu with rfl|rfl|rfl|rfl|rfl <;> first|rfl|exact g3.oneCell|exact g4.oneCell) (by repeat (constructor)) a6 oT f0 fun s7 j5 s8 s9 a7=>(?_))
  have a5:=a5.mv s8
  have a4:=a4.keep s9 (BC c4)
  refine AG (AC (AF (BA (AF (AB kR (AA (AE (vI day) rfl (AA (AU 1 QX rfl (AA (AW U3_ rfl (vI ((c.recs[c.recs.length - 1]!).asked)) rfl a7 rfl (AA (AZ (vs:=[vI day,vI ((c.recs[c.recs.length - 1]!).asked)]) NH (PR (O:=(a3 :: (a0 :: []))++O) day ((c.recs[c.recs.length - 1]!).asked) s7 j5.lt) rfl j5 fun G0 G1 c9 t0 j6 t2=>(?_))))))))))))))
  obtain rfl:=t2
  have a5:=a5.mv t0
  have a4:=a4.keep j6 (by simp)
  have a7:=a7.keep j6 (by simp)
  refine AA (HP (DA day ((c.recs[c.recs.length - 1]!).asked)) rfl (AA (AD (vO (!(DA day ((c.recs[c.recs.length - 1]!).asked)))) rfl (AG (AC (AJ (!(DA day ((c.recs[c.recs.length - 1]!).asked))) rfl rfl (fun d2=>?_) (fun d2=>?_)))))))
  ·have B6:(DA day ((c.recs[c.recs.length - 1]!).asked))=false:=by simpa using d2
   refine AF (AB kR (AA (BW (vs:=[vI 0,vI 0,vI 0,nS,nS]) U28_ rfl BR rfl a4 rfl (CB (BF (vs:=[vI 0,vI 0,vI 0,nS,nS]) (.agg #[vI 0,vI 0,vI 0,nS,nS]) rfl rfl rfl BR (fun u hu=>by simp only [List.mem_cons,List.not_mem_nil,or_false] at hu;rcases hu with rfl|rfl|rfl|rfl|rfl <;> rfl) (by repeat (constructor)) a4 oT c9 fun G2 t3 G3 G4 o7=>(AA (AD (vI 0) rfl (AA (AD (vI 1) rfl (AG (AC (AM (BK (AK (AS rfl (IU rfl (EZ (vs:=[vI 0,vI 0,vI 0,nS,nS]) rfl U28_ rfl BR rfl o7 rfl) (ES rfl rfl) (ES rfl rfl)) (?_))))))))))))))))
   have t4:((CJ c day).1)=(⟨(0:Int),(0:Int),(0:Int),[],[]⟩:Circle):=by exact congrArg (fun p=>p.1) (MY aS (by rw [hlr];assumption))
   have t5:((CJ c day).2.1)=(0:Int):=by exact congrArg (fun p=>p.2.1) (MY aS (by rw [hlr];assumption))
   have t6:((CJ c day).2.2)=(1:Int):=by exact congrArg (fun p=>p.2.2) (MY aS (by rw [hlr];assumption))
   exact ⟨_,rfl,t3.keep,by rw [t4,t5,t6];exact ⟨[vI 0,vI 0,vI 0,nS,nS],rfl,Enc.out (B:=(a3 :: (a0 :: []))) ⟨.slice none 0 0, .slice none 0 0,rfl,(BB.nil _ _ _),(BB.nil _ _ _)⟩⟩⟩
  have B7:(DA day ((c.recs[c.recs.length - 1]!).asked))=true:=by simpa using d2
  refine AF (AB kR (AA (AU 2 MV rfl (AA (AW U3_ rfl (vI ((c.recs[c.recs.length - 1]!).state)) rfl a7 rfl (AA (GO .i64 ((c.recs[c.recs.length - 1]!).state) (0:Int) rfl rfl (AA (AD (vO (((c.recs[c.recs.length - 1]!).state) == (0:Int))) rfl (AG (AC (AJ (((c.recs[c.recs.length - 1]!).state) == (0:Int)) rfl rfl (fun d3=>?_) (fun d3=>?_)))))))))))))
  ·have B8:(c.recs[c.recs.length - 1]!).state=(0:Int):=by simpa using d3
   refine AF (AB kR (AA (BW (vs:=[vI 0,vI 0,vI 0,nS,nS]) U28_ rfl BR rfl a4 rfl (CB (BF (vs:=[vI 0,vI 0,vI 0,nS,nS]) (.agg #[vI 0,vI 0,vI 0,nS,nS]) rfl rfl rfl BR (fun u hu=>by simp only [List.mem_cons,List.not_mem_nil,or_false] at hu;rcases hu with rfl|rfl|rfl|rfl|rfl <;> rfl) (by repeat (constructor)) a4 oT c9 fun G5 t7 G6 G7 o8=>(AA (AD (vI 0) rfl (AA (AD (vI 451) rfl (AG (AC (AM (BK (AK (AS rfl (IU rfl (EZ (vs:=[vI 0,vI 0,vI 0,nS,nS]) rfl U28_ rfl BR rfl o8 rfl) (ES rfl rfl) (ES rfl rfl)) (?_))))))))))))))))
   have t8:((CJ c day).1)=(⟨(0:Int),(0:Int),(0:Int),[],[]⟩:Circle):=by exact congrArg (fun p=>p.1) (SQ aS (by rw [hlr];assumption) (by rw [hlr];assumption))
   have t9:((CJ c day).2.1)=(0:Int):=by exact congrArg (fun p=>p.2.1) (SQ aS (by rw [hlr];assumption) (by rw [hlr];assumption))
   have u0:((CJ c day).2.2)=(451:Int):=by exact congrArg (fun p=>p.2.2) (SQ aS (by rw [hlr];assumption) (by rw [hlr];assumption))
   exact ⟨_,rfl,t7.keep,by rw [t8,t9,u0];exact ⟨[vI 0,vI 0,vI 0,nS,nS],rfl,Enc.out (B:=(a3 :: (a0 :: []))) ⟨.slice none 0 0, .slice none 0 0,rfl,(BB.nil _ _ _),(BB.nil _ _ _)⟩⟩⟩
  have B9:(c.recs[c.recs.length - 1]!).state≠(0:Int):=by simpa using d3
  refine AF (AB kR (AA (AE (vI (c.recs.length:Int)) rfl (AA (GO .i64 (c.recs.length:Int) (1024:Int) rfl rfl (AA (AD (vO ((c.recs.length:Int) == (1024:Int))) rfl (AG (AC (AJ ((c.recs.length:Int) == (1024:Int)) rfl rfl (fun d4=>?_) (fun d4=>?_)))))))))))
  ·have C0:(c.recs.length:Int)=(1024:Int):=by simpa using d4
   refine AF (AB kR (AA (BW (vs:=[vI 0,vI 0,vI 0,nS,nS]) U28_ rfl BR rfl a4 rfl (CB (BF (vs:=[vI 0,vI 0,vI 0,nS,nS]) (.agg #[vI 0,vI 0,vI 0,nS,nS]) rfl rfl rfl BR (fun u hu=>by simp only [List.mem_cons,List.not_mem_nil,or_false] at hu;rcases hu with rfl|rfl|rfl|rfl|rfl <;> rfl) (by repeat (constructor)) a4 oT c9 fun G8 u1 G9 H0 o9=>(AA (AD (vI 0) rfl (AA (AD (vI 2) rfl (AG (AC (AM (BK (AK (AS rfl (IU rfl (EZ (vs:=[vI 0,vI 0,vI 0,nS,nS]) rfl U28_ rfl BR rfl o9 rfl) (ES rfl rfl) (ES rfl rfl)) (?_))))))))))))))))
   have u2:((CJ c day).1)=(⟨(0:Int),(0:Int),(0:Int),[],[]⟩:Circle):=by exact congrArg (fun p=>p.1) (LO aS (by rw [hlr];assumption) (by rw [hlr];assumption) aS)
   have u3:((CJ c day).2.1)=(0:Int):=by exact congrArg (fun p=>p.2.1) (LO aS (by rw [hlr];assumption) (by rw [hlr];assumption) aS)
   have u4:((CJ c day).2.2)=(2:Int):=by exact congrArg (fun p=>p.2.2) (LO aS (by rw [hlr];assumption) (by rw [hlr];assumption) aS)
   exact ⟨_,rfl,u1.keep,by rw [u2,u3,u4];exact ⟨[vI 0,vI 0,vI 0,nS,nS],rfl,Enc.out (B:=(a3 :: (a0 :: []))) ⟨.slice none 0 0, .slice none 0 0,rfl,(BB.nil _ _ _),(BB.nil _ _ _)⟩⟩⟩
  have C1:(c.recs.length:Int)≠(1024:Int):=by simpa using d4
  refine AO (BZ (AC (AF (AB kR (AA (DF U28_ rfl BR rfl a5 fun C2 p0=>(?_)))))))
  obtain ⟨b0,j7,rfl,a1,g5⟩:=p0
  have:=a1.len_le
  have:=g5.len_le
  refine CB (BF (vs:=[vI c.epoch,vI c.threshold,vI c.wait,b0,j7]) (.agg #[vI c.epoch,vI c.threshold,vI c.wait,b0,j7]) rfl rfl rfl BR (fun u hu=>by simp only [List.mem_cons,List.not_mem_nil,or_false] at hu;rcases hu with rfl|rfl|rfl|rfl|rfl <;> first|rfl|exact a1.oneCell|exact g5.oneCell) (by repeat (constructor)) a4 oT c9 fun u5 j8 j9 u6 a8=>(?_))
  have a5:=a5.mv j9
  have a1:=a1.mv j9
  have a7:=a7.keep u6 (BC (Ne.symm c4))
  refine AG (AC (AF (AB kR (AA (BH 4 FD (c.recs) rfl a5 (fun _ _ _ h=>DI h) fun H1 p1=>(AA (CF U26_ rfl rfl p1 fun f1 c2=>(?_))))))))
  have:=c2.len_le
  refine AA (LB [f1] _ ND rfl (CG 8 Try.func67 rfl rfl oT (fun H2=>AF (AB kR (AA (AD (nS) rfl (AG (AC (AF (AF (AB kR (AA (AE (f1) rfl (AA (KF U26_ rfl rfl c2 fun d5 n5=>(AG (AC (AJ (d5) rfl rfl (fun d6=>?_) (fun d6=>?_)))))))))))))))))) (fun _ _ h=>h))
  ·have C3:d5=true:=by simpa using d6
   refine AF (AB kR (AA (AD (nS) rfl (AG (AC (AM (AK (AS rfl (CN rfl rfl rfl) (?_)))))))))
   have e2:c.recs=[]:=n5 aS
   have C4:BB Enc.recovery u5 ((a3 :: (a0 :: []))++O) (.slice none 0 0) (c.recs):=by rw [e2];exact BB.nil _ _ _
   refine Exists.intro _ (And.intro rfl (AA (AE (vI (c.recs.length:Int)) rfl (AA (AE (vI day) rfl (AA (EN (l:=[(0, .tmp 47),(1, .tmp 48),(2, .const (vI 0))]) pl_68 OW rfl [(0,vI (c.recs.length:Int),[vI (c.recs.length:Int)]),(1,vI day,[vI day]),(2,vI 0,[vI 0])] [vI (c.recs.length:Int),vI day,vI 0,nS,nS] rfl ⟨_,rfl,rfl,oT,⟨_,rfl,rfl,oT,⟨_,rfl,rfl,oT,rfl⟩⟩⟩ (AA (GZ (E:=Enc.recovery) (xs:=[.tmp 49]) U26_ IE OW (by decide) [.agg #[vI (c.recs.length:Int),vI day,vI 0,nS,nS]] [[vI (c.recs.length:Int),vI day,vI 0,nS,nS]] [(⟨(c.recs.length:Int),day,(0:Int),[],[]⟩:Recovery)] rfl rfl rfl (Parts.cons rfl ⟨.slice none 0 0, .slice none 0 0,rfl,(BB.nil _ _ _),(BB.nil _ _ _)⟩ (Parts.nil _ _ _)) oT j8 fun H3 H4 u7 u9 k0 g6=>(?_))))))))))
   have a1:=a1.mv u9
   have a8:=a8.keep k0 (by simp)
   have a7:=a7.keep k0 (by simp)
   have:=g6.len_le
   refine AA (CY (v:=.slice none 0 0) (E:=Enc.recovery) (l:=c.recs) (m:=[(⟨(c.recs.length:Int),day,(0:Int),[],[]⟩:Recovery)]) U26_ XC rfl (by decide) rfl rfl (by rw [e2];exact ED.nil Enc.recovery 68 _ _ _) g6 (fun _ hb=>.inl hb) (by intro b hb;simp [Value.ownBlock] at hb) (by simp;omega) (by simp [maxLen];omega) u7 fun b8 H5 k1 C5 g7 e3 v0 v1 v2 b4=>(?_))
   have g8:∀ b,b8.ownBlock=some b→b≠a0:=fun b hb=>by rcases g7 with e1|e1 <;> rw [e1] at hb <;> first|(simp [Value.ownBlock] at hb;done)|(cases hb;have:=a8.lt;omega)
   have C6:∀ b,b8.ownBlock=some b→b≠a3:=fun b hb=>by rcases g7 with e1|e1 <;> rw [e1] at hb <;> first|(simp [Value.ownBlock] at hb;done)|(cases hb;have:=a7.lt;omega)
   have b2:a0∈k1:=e3 a0 (by repeat (constructor))
   have b3:a3∈k1:=e3 a3 (by repeat (constructor))
   have a1:=a1.mv v1
   have a8:=a8.keep v2 (by simp only [Option.mem_toList];(simp [Value.ownBlock];done))
   refine AA (AU 4 FD rfl (CB (CI (b8) rfl rfl b4.oneCell s_26 (by repeat (assumption)) a8 oT v0 fun H6 v3 k2 v4 g9=>(?_))))
   have a1:=a1.mv k2
   have b4:=b4.mv k2 v4 (fun b hb=>BC (g8 b hb))
   refine AG (AC (AF (AB kR (AA (BW (vs:=[vI c.epoch,vI c.threshold,vI c.wait,b0,b8]) U28_ rfl BR rfl g9 rfl (AA (AE (vI (c.recs.length:Int)) rfl (CB (BF (vs:=[vI c.epoch,vI c.threshold,vI c.wait,b0,b8]) (.agg #[vI c.epoch,vI c.threshold,vI c.wait,b0,b8]) rfl rfl rfl BR (fun u hu=>by simp only [List.mem_cons,List.not_mem_nil,or_false] at hu;rcases hu with rfl|rfl|rfl|rfl|rfl <;> first|rfl|exact a1.oneCell|exact b4.oneCell) (by repeat (assumption)) g9 oT v3 fun H7 k3 k4 v5 p2=>(?_))))))))))
   have a1:=a1.mv k4
   have b4:=b4.mv k4 v5 (fun b hb=>BC (g8 b hb))
   refine AA (AD (vI (c.recs.length:Int)) rfl (AA (AD (vI 0) rfl (AG (AC (AM (AS rfl (IU rfl (EZ (vs:=[vI c.epoch,vI c.threshold,vI c.wait,b0,b8]) rfl U28_ rfl BR rfl p2 rfl) (ES rfl rfl) (ES rfl rfl)) (?_))))))))
   have v6:((CJ c day).1)=(⟨c.epoch,c.threshold,c.wait,c.guardians,c.recs++([(⟨(c.recs.length:Int),day,(0:Int),[],[]⟩:Recovery)])⟩:Circle):=by exact congrArg (fun p=>p.1) (IX aS (by rw [hlr];assumption) (by rw [hlr];assumption) aS)
   have v7:((CJ c day).2.1)=(c.recs.length:Int):=by exact congrArg (fun p=>p.2.1) (IX aS (by rw [hlr];assumption) (by rw [hlr];assumption) aS)
   have v8:((CJ c day).2.2)=(0:Int):=by exact congrArg (fun p=>p.2.2) (IX aS (by rw [hlr];assumption) (by rw [hlr];assumption) aS)
   exact ⟨_,rfl,k3.keep,by rw [v6,v7,v8];exact ⟨[vI c.epoch,vI c.threshold,vI c.wait,b0,b8],rfl,⟨_,_,rfl,a1.out,(b4.pub k3)⟩⟩⟩
  have C7:d5=false:=by simpa using d6
  refine AO (AC (AF (AB kR (AA (HT (E:=Enc.recovery) (xs:=[]) U26_ IE OW (by decide) [] [] [] rfl rfl rfl (Parts.nil _ _ _) oT j8 fun f2 v9 H8 w0 c5 w1 k5 k6 p3=>(?_))))))
  have h0:∀ b,f2.ownBlock=some b→b≠a0:=fun b hb=>by have:=a8.lt;rw [c5] at hb;cases hb;omega
  have h1:∀ b,f2.ownBlock=some b→b≠a3:=fun b hb=>by have:=a7.lt;rw [c5] at hb;cases hb;omega
  have p4:∀ b,f2.ownBlock=some b→b∈(v9 :: (a3 :: (a0 :: []))):=fun b hb=>by rw [c5] at hb;cases hb;simp
  clear w0 c5
  have c2:=c2.mv k5
  have a1:=a1.mv k5
  have a8:=a8.keep k6 (by simp)
  have a7:=a7.keep k6 (by simp)
  refine AA (AE (f1) rfl (AA (CY (E:=Enc.recovery) (l:=[]) (m:=c.recs) U26_ XC rfl (by decide) rfl rfl p3 c2 (fun _ hb=>.inl hb) p4 (by simp;omega) (by simp [maxLen];omega) w1 fun f3 H9 k7 p5 h2 e4 w2 w3 k8 c6=>(?_))))
  rw [List.nil_append] at c6
  have h3:∀ b,f3.ownBlock=some b→b≠a0:=fun b hb=>by rcases h2 with e1|e1 <;> rw [e1] at hb <;> first|(cases hb;have:=a8.lt;omega)|(exact h0 b hb)
  have p6:∀ b,f3.ownBlock=some b→b≠a3:=fun b hb=>by rcases h2 with e1|e1 <;> rw [e1] at hb <;> first|(cases hb;have:=a7.lt;omega)|(exact h1 b hb)
  have b2:a0∈k7:=e4 a0 (by repeat (constructor))
  have b3:a3∈k7:=e4 a3 (by repeat (constructor))
  have a1:=a1.mv w3
  have a8:=a8.keep k8 (by simp only [Option.mem_toList];exact fun e=>absurd rfl (h0 _ e))
  have a7:=a7.keep k8 (by simp only [Option.mem_toList];exact fun e=>absurd rfl (h1 _ e))
  refine AA (AD (f3) rfl (AG (AC (AM (AS rfl (CN rfl rfl rfl) (Exists.intro _ (And.intro rfl (AA (AE (vI (c.recs.length:Int)) rfl (AA (AE (vI day) rfl (AA (EN (l:=[(0, .tmp 47),(1, .tmp 48),(2, .const (vI 0))]) pl_68 OW rfl [(0,vI (c.recs.length:Int),[vI (c.recs.length:Int)]),(1,vI day,[vI day]),(2,vI 0,[vI 0])] [vI (c.recs.length:Int),vI day,vI 0,nS,nS] rfl ⟨_,rfl,rfl,oT,⟨_,rfl,rfl,oT,⟨_,rfl,rfl,oT,rfl⟩⟩⟩ (AA (GZ (E:=Enc.recovery) (xs:=[.tmp 49]) U26_ IE OW (by decide) [.agg #[vI (c.recs.length:Int),vI day,vI 0,nS,nS]] [[vI (c.recs.length:Int),vI day,vI 0,nS,nS]] [(⟨(c.recs.length:Int),day,(0:Int),[],[]⟩:Recovery)] rfl rfl rfl (Parts.cons rfl ⟨.slice none 0 0, .slice none 0 0,rfl,(BB.nil _ _ _),(BB.nil _ _ _)⟩ (Parts.nil _ _ _)) oT w2 fun I0 I1 w4 k9 f4 h4=>(?_))))))))))))))))
  have a1:=a1.mv k9
  have c6:=c6.mv k9 f4 (by simp)
  have a8:=a8.keep f4 (by simp)
  have a7:=a7.keep f4 (by simp)
  have:=h4.len_le
  refine AA (CY (E:=Enc.recovery) (l:=c.recs) (m:=[(⟨(c.recs.length:Int),day,(0:Int),[],[]⟩:Recovery)]) U26_ XC rfl (by decide) rfl rfl c6 h4 (fun _ hb=>.inl hb) p5 (by simp;omega) (by simp [maxLen];omega) w4 fun b9 I2 l0 C8 h5 e5 w5 w6 w7 b5=>(?_))
  have h6:∀ b,b9.ownBlock=some b→b≠a0:=fun b hb=>by rcases h5 with e1|e1 <;> rw [e1] at hb <;> first|(cases hb;have:=a8.lt;omega)|(exact h3 b hb)
  have C9:∀ b,b9.ownBlock=some b→b≠a3:=fun b hb=>by rcases h5 with e1|e1 <;> rw [e1] at hb <;> first|(cases hb;have:=a7.lt;omega)|(exact p6 b hb)
  have b2:a0∈l0:=e5 a0 (by repeat (assumption))
  have b3:a3∈l0:=e5 a3 (by repeat (assumption))
  have a1:=a1.mv w6
  have a8:=a8.keep w7 (by simp only [Option.mem_toList];exact fun e=>absurd rfl (h3 _ e))
  refine AA (AU 4 FD rfl (CB (CI (b9) rfl rfl b5.oneCell s_26 (by repeat (assumption)) a8 oT w5 fun I3 w8 l1 w9 h7=>(?_))))
  have a1:=a1.mv l1
  have b5:=b5.mv l1 w9 (fun b hb=>BC (h6 b hb))
  refine AG (AC (AF (AB kR (AA (BW (vs:=[vI c.epoch,vI c.threshold,vI c.wait,b0,b9]) U28_ rfl BR rfl h7 rfl (AA (AE (vI (c.recs.length:Int)) rfl (CB (BF (vs:=[vI c.epoch,vI c.threshold,vI c.wait,b0,b9]) (.agg #[vI c.epoch,vI c.threshold,vI c.wait,b0,b9]) rfl rfl rfl BR (fun u hu=>by simp only [List.mem_cons,List.not_mem_nil,or_false] at hu;rcases hu with rfl|rfl|rfl|rfl|rfl <;> first|rfl|exact a1.oneCell|exact b5.oneCell) (by repeat (assumption)) h7 oT w8 fun I4 l2 l3 x1 p7=>(?_))))))))))
  have a1:=a1.mv l3
  have b5:=b5.mv l3 x1 (fun b hb=>BC (h6 b hb))
  refine AA (AD (vI (c.recs.length:Int)) rfl (AA (AD (vI 0) rfl (AG (AC (AM (AS rfl (IU rfl (EZ (vs:=[vI c.epoch,vI c.threshold,vI c.wait,b0,b9]) rfl U28_ rfl BR rfl p7 rfl) (ES rfl rfl) (ES rfl rfl)) (?_))))))))
  have x2:((CJ c day).1)=(⟨c.epoch,c.threshold,c.wait,c.guardians,c.recs++([(⟨(c.recs.length:Int),day,(0:Int),[],[]⟩:Recovery)])⟩:Circle):=by exact congrArg (fun p=>p.1) (IX aS (by rw [hlr];assumption) (by rw [hlr];assumption) aS)
  have x3:((CJ c day).2.1)=(c.recs.length:Int):=by exact congrArg (fun p=>p.2.1) (IX aS (by rw [hlr];assumption) (by rw [hlr];assumption) aS)
  have x4:((CJ c day).2.2)=(0:Int):=by exact congrArg (fun p=>p.2.2) (IX aS (by rw [hlr];assumption) (by rw [hlr];assumption) aS)
  exact ⟨_,rfl,l2.keep,by rw [x2,x3,x4];exact ⟨[vI c.epoch,vI c.threshold,vI c.wait,b0,b9],rfl,⟨_,_,rfl,a1.out,(b5.pub l2)⟩⟩⟩
 have D0:(c.recs.length:Int)≤(0:Int):=by simpa using d1
 have hlr:OS c = ⟨0,0,1,[],[]⟩:=if_neg oM
 refine AO (AC (AF (BA (AF (AB kR (AA (AE (vI day) rfl (AA (AU 1 QX rfl (AA (AW U3_ rfl (vI 0) rfl a6 rfl (AA (AZ (vs:=[vI day,vI 0]) NH (PR (O:=(a3 :: (a0 :: []))++O) day (0:Int) s4 f0.lt) rfl f0 fun I5 I6 f5 x5 l4 x6=>(?_))))))))))))))
 obtain rfl:=x6
 have a5:=a5.mv x5
 have a4:=a4.keep l4 (by simp)
 have a6:=a6.keep l4 (by simp)
 refine AA (HP (DA day (0:Int)) rfl (AA (AD (vO (!(DA day (0:Int)))) rfl (AG (AC (AJ (!(DA day (0:Int))) rfl rfl (fun d7=>?_) (fun d7=>?_)))))))
 ·have D1:(DA day (0:Int))=false:=by simpa using d7
  refine AF (AB kR (AA (BW (vs:=[vI 0,vI 0,vI 0,nS,nS]) U28_ rfl BR rfl a4 rfl (CB (BF (vs:=[vI 0,vI 0,vI 0,nS,nS]) (.agg #[vI 0,vI 0,vI 0,nS,nS]) rfl rfl rfl BR (fun u hu=>by simp only [List.mem_cons,List.not_mem_nil,or_false] at hu;rcases hu with rfl|rfl|rfl|rfl|rfl <;> rfl) (by repeat (constructor)) a4 oT f5 fun I7 x7 I8 I9 p8=>(AA (AD (vI 0) rfl (AA (AD (vI 1) rfl (AG (AC (AM (BK (AK (AS rfl (IU rfl (EZ (vs:=[vI 0,vI 0,vI 0,nS,nS]) rfl U28_ rfl BR rfl p8 rfl) (ES rfl rfl) (ES rfl rfl)) (?_))))))))))))))))
  have x8:((CJ c day).1)=(⟨(0:Int),(0:Int),(0:Int),[],[]⟩:Circle):=by exact congrArg (fun p=>p.1) (MY aS (by rw [hlr];assumption))
  have x9:((CJ c day).2.1)=(0:Int):=by exact congrArg (fun p=>p.2.1) (MY aS (by rw [hlr];assumption))
  have y0:((CJ c day).2.2)=(1:Int):=by exact congrArg (fun p=>p.2.2) (MY aS (by rw [hlr];assumption))
  exact ⟨_,rfl,x7.keep,by rw [x8,x9,y0];exact ⟨[vI 0,vI 0,vI 0,nS,nS],rfl,Enc.out (B:=(a3 :: (a0 :: []))) ⟨.slice none 0 0, .slice none 0 0,rfl,(BB.nil _ _ _),(BB.nil _ _ _)⟩⟩⟩
 have D2:(DA day (0:Int))=true:=by simpa using d7
 refine AF (AB kR (AA (AU 2 MV rfl (AA (AW U3_ rfl (vI 1) rfl a6 rfl (AA (GO .i64 (1:Int) (0:Int) rfl rfl (AA (AD (vO false) rfl (AG (AC (AJ false rfl rfl (fun h=>by cases h) (fun _=>AF (AB kR (AA (AE (vI (c.recs.length:Int)) rfl (AA (GO .i64 (c.recs.length:Int) (1024:Int) rfl rfl (AA (AD (vO ((c.recs.length:Int) == (1024:Int))) rfl (AG (AC (AJ ((c.recs.length:Int) == (1024:Int)) rfl rfl (fun d8=>?_) (fun d8=>?_))))))))))))))))))))))))
 ·have D3:(c.recs.length:Int)=(1024:Int):=by simpa using d8
  refine AF (AB kR (AA (BW (vs:=[vI 0,vI 0,vI 0,nS,nS]) U28_ rfl BR rfl a4 rfl (CB (BF (vs:=[vI 0,vI 0,vI 0,nS,nS]) (.agg #[vI 0,vI 0,vI 0,nS,nS]) rfl rfl rfl BR (fun u hu=>by simp only [List.mem_cons,List.not_mem_nil,or_false] at hu;rcases hu with rfl|rfl|rfl|rfl|rfl <;> rfl) (by repeat (constructor)) a4 oT f5 fun J0 y1 J1 J2 p9=>(AA (AD (vI 0) rfl (AA (AD (vI 2) rfl (AG (AC (AM (BK (AK (AS rfl (IU rfl (EZ (vs:=[vI 0,vI 0,vI 0,nS,nS]) rfl U28_ rfl BR rfl p9 rfl) (ES rfl rfl) (ES rfl rfl)) (?_))))))))))))))))
  have y2:((CJ c day).1)=(⟨(0:Int),(0:Int),(0:Int),[],[]⟩:Circle):=by exact congrArg (fun p=>p.1) (LO aS (by rw [hlr];assumption) (by rw [hlr];decide) aS)
  have y3:((CJ c day).2.1)=(0:Int):=by exact congrArg (fun p=>p.2.1) (LO aS (by rw [hlr];assumption) (by rw [hlr];decide) aS)
  have y4:((CJ c day).2.2)=(2:Int):=by exact congrArg (fun p=>p.2.2) (LO aS (by rw [hlr];assumption) (by rw [hlr];decide) aS)
  exact ⟨_,rfl,y1.keep,by rw [y2,y3,y4];exact ⟨[vI 0,vI 0,vI 0,nS,nS],rfl,Enc.out (B:=(a3 :: (a0 :: []))) ⟨.slice none 0 0, .slice none 0 0,rfl,(BB.nil _ _ _),(BB.nil _ _ _)⟩⟩⟩
 have D4:(c.recs.length:Int)≠(1024:Int):=by simpa using d8
 refine AO (BZ (AC (AF (AB kR (AA (DF U28_ rfl BR rfl a5 fun D5 q0=>(?_)))))))
 obtain ⟨b1,l5,rfl,a2,h8⟩:=q0
 have:=a2.len_le
 have:=h8.len_le
 refine CB (BF (vs:=[vI c.epoch,vI c.threshold,vI c.wait,b1,l5]) (.agg #[vI c.epoch,vI c.threshold,vI c.wait,b1,l5]) rfl rfl rfl BR (fun u hu=>by simp only [List.mem_cons,List.not_mem_nil,or_false] at hu;rcases hu with rfl|rfl|rfl|rfl|rfl <;> first|rfl|exact a2.oneCell|exact h8.oneCell) (by repeat (constructor)) a4 oT f5 fun y5 l6 l7 y6 a9=>(?_))
 have a5:=a5.mv l7
 have a2:=a2.mv l7
 have a6:=a6.keep y6 (BC (Ne.symm c4))
 refine AG (AC (AF (AB kR (AA (BH 4 FD (c.recs) rfl a5 (fun _ _ _ h=>DI h) fun J3 q1=>(AA (CF U26_ rfl rfl q1 fun f6 c3=>(?_))))))))
 have:=c3.len_le
 refine AA (LB [f6] _ ND rfl (CG 8 Try.func67 rfl rfl oT (fun J4=>AF (AB kR (AA (AD (nS) rfl (AG (AC (AF (AF (AB kR (AA (AE (f6) rfl (AA (KF U26_ rfl rfl c3 fun d9 n6=>(AG (AC (AJ (d9) rfl rfl (fun e0=>?_) (fun e0=>?_)))))))))))))))))) (fun _ _ h=>h))
 ·have D6:d9=true:=by simpa using e0
  refine AF (AB kR (AA (AD (nS) rfl (AG (AC (AM (AK (AS rfl (CN rfl rfl rfl) (?_)))))))))
  have e6:c.recs=[]:=n6 aS
  have D7:BB Enc.recovery y5 ((a3 :: (a0 :: []))++O) (.slice none 0 0) (c.recs):=by rw [e6];exact BB.nil _ _ _
  refine Exists.intro _ (And.intro rfl (AA (AE (vI (c.recs.length:Int)) rfl (AA (AE (vI day) rfl (AA (EN (l:=[(0, .tmp 47),(1, .tmp 48),(2, .const (vI 0))]) pl_68 OW rfl [(0,vI (c.recs.length:Int),[vI (c.recs.length:Int)]),(1,vI day,[vI day]),(2,vI 0,[vI 0])] [vI (c.recs.length:Int),vI day,vI 0,nS,nS] rfl ⟨_,rfl,rfl,oT,⟨_,rfl,rfl,oT,⟨_,rfl,rfl,oT,rfl⟩⟩⟩ (AA (GZ (E:=Enc.recovery) (xs:=[.tmp 49]) U26_ IE OW (by decide) [.agg #[vI (c.recs.length:Int),vI day,vI 0,nS,nS]] [[vI (c.recs.length:Int),vI day,vI 0,nS,nS]] [(⟨(c.recs.length:Int),day,(0:Int),[],[]⟩:Recovery)] rfl rfl rfl (Parts.cons rfl ⟨.slice none 0 0, .slice none 0 0,rfl,(BB.nil _ _ _),(BB.nil _ _ _)⟩ (Parts.nil _ _ _)) oT l6 fun J5 J6 y7 y8 l8 h9=>(?_))))))))))
  have a2:=a2.mv y8
  have a9:=a9.keep l8 (by simp)
  have a6:=a6.keep l8 (by simp)
  have:=h9.len_le
  refine AA (CY (v:=.slice none 0 0) (E:=Enc.recovery) (l:=c.recs) (m:=[(⟨(c.recs.length:Int),day,(0:Int),[],[]⟩:Recovery)]) U26_ XC rfl (by decide) rfl rfl (by rw [e6];exact ED.nil Enc.recovery 68 _ _ _) h9 (fun _ hb=>.inl hb) (by intro b hb;simp [Value.ownBlock] at hb) (by simp;omega) (by simp [maxLen];omega) y7 fun c0 J7 l9 D8 i0 e7 y9 z0 z1 b6=>(?_))
  have i1:∀ b,c0.ownBlock=some b→b≠a0:=fun b hb=>by rcases i0 with e1|e1 <;> rw [e1] at hb <;> first|(simp [Value.ownBlock] at hb;done)|(cases hb;have:=a9.lt;omega)
  have D9:∀ b,c0.ownBlock=some b→b≠a3:=fun b hb=>by rcases i0 with e1|e1 <;> rw [e1] at hb <;> first|(simp [Value.ownBlock] at hb;done)|(cases hb;have:=a6.lt;omega)
  have b2:a0∈l9:=e7 a0 (by repeat (constructor))
  have b3:a3∈l9:=e7 a3 (by repeat (constructor))
  have a2:=a2.mv z0
  have a9:=a9.keep z1 (by simp only [Option.mem_toList];(simp [Value.ownBlock];done))
  refine AA (AU 4 FD rfl (CB (CI (c0) rfl rfl b6.oneCell s_26 (by repeat (assumption)) a9 oT y9 fun J8 z2 m0 z3 i2=>(?_))))
  have a2:=a2.mv m0
  have b6:=b6.mv m0 z3 (fun b hb=>BC (i1 b hb))
  refine AG (AC (AF (AB kR (AA (BW (vs:=[vI c.epoch,vI c.threshold,vI c.wait,b1,c0]) U28_ rfl BR rfl i2 rfl (AA (AE (vI (c.recs.length:Int)) rfl (CB (BF (vs:=[vI c.epoch,vI c.threshold,vI c.wait,b1,c0]) (.agg #[vI c.epoch,vI c.threshold,vI c.wait,b1,c0]) rfl rfl rfl BR (fun u hu=>by simp only [List.mem_cons,List.not_mem_nil,or_false] at hu;rcases hu with rfl|rfl|rfl|rfl|rfl <;> first|rfl|exact a2.oneCell|exact b6.oneCell) (by repeat (assumption)) i2 oT z2 fun J9 m1 m2 z4 q2=>(?_))))))))))
  have a2:=a2.mv m2
  have b6:=b6.mv m2 z4 (fun b hb=>BC (i1 b hb))
  refine AA (AD (vI (c.recs.length:Int)) rfl (AA (AD (vI 0) rfl (AG (AC (AM (AS rfl (IU rfl (EZ (vs:=[vI c.epoch,vI c.threshold,vI c.wait,b1,c0]) rfl U28_ rfl BR rfl q2 rfl) (ES rfl rfl) (ES rfl rfl)) (?_))))))))
  have z5:((CJ c day).1)=(⟨c.epoch,c.threshold,c.wait,c.guardians,c.recs++([(⟨(c.recs.length:Int),day,(0:Int),[],[]⟩:Recovery)])⟩:Circle):=by exact congrArg (fun p=>p.1) (IX aS (by rw [hlr];assumption) (by rw [hlr];decide) aS)
  have z6:((CJ c day).2.1)=(c.recs.length:Int):=by exact congrArg (fun p=>p.2.1) (IX aS (by rw [hlr];assumption) (by rw [hlr];decide) aS)
  have z7:((CJ c day).2.2)=(0:Int):=by exact congrArg (fun p=>p.2.2) (IX aS (by rw [hlr];assumption) (by rw [hlr];decide) aS)
  exact ⟨_,rfl,m1.keep,by rw [z5,z6,z7];exact ⟨[vI c.epoch,vI c.threshold,vI c.wait,b1,c0],rfl,⟨_,_,rfl,a2.out,(b6.pub m1)⟩⟩⟩
 have E0:d9=false:=by simpa using e0
 refine AO (AC (AF (AB kR (AA (HT (E:=Enc.recovery) (xs:=[]) U26_ IE OW (by decide) [] [] [] rfl rfl rfl (Parts.nil _ _ _) oT l6 fun f7 z8 K0 z9 c7 A0 m3 m4 q3=>(?_))))))
 have i3:∀ b,f7.ownBlock=some b→b≠a0:=fun b hb=>by have:=a9.lt;rw [c7] at hb;cases hb;omega
 have i4:∀ b,f7.ownBlock=some b→b≠a3:=fun b hb=>by have:=a6.lt;rw [c7] at hb;cases hb;omega
 have q4:∀ b,f7.ownBlock=some b→b∈(z8 :: (a3 :: (a0 :: []))):=fun b hb=>by rw [c7] at hb;cases hb;simp
 clear z9 c7
 have c3:=c3.mv m3
 have a2:=a2.mv m3
 have a9:=a9.keep m4 (by simp)
 have a6:=a6.keep m4 (by simp)
 refine AA (AE (f6) rfl (AA (CY (E:=Enc.recovery) (l:=[]) (m:=c.recs) U26_ XC rfl (by decide) rfl rfl q3 c3 (fun _ hb=>.inl hb) q4 (by simp;omega) (by simp [maxLen];omega) A0 fun f8 K1 m5 q5 i5 e8 A1 A2 m6 c8=>(?_))))
 rw [List.nil_append] at c8
 have i6:∀ b,f8.ownBlock=some b→b≠a0:=fun b hb=>by rcases i5 with e1|e1 <;> rw [e1] at hb <;> first|(cases hb;have:=a9.lt;omega)|(exact i3 b hb)
 have q6:∀ b,f8.ownBlock=some b→b≠a3:=fun b hb=>by rcases i5 with e1|e1 <;> rw [e1] at hb <;> first|(cases hb;have:=a6.lt;omega)|(exact i4 b hb)
 have b2:a0∈m5:=e8 a0 (by repeat (constructor))
 have b3:a3∈m5:=e8 a3 (by repeat (constructor))
 have a2:=a2.mv A2
 have a9:=a9.keep m6 (by simp only [Option.mem_toList];exact fun e=>absurd rfl (i3 _ e))
 have a6:=a6.keep m6 (by simp only [Option.mem_toList];exact fun e=>absurd rfl (i4 _ e))
 refine AA (AD (f8) rfl (AG (AC (AM (AS rfl (CN rfl rfl rfl) (Exists.intro _ (And.intro rfl (AA (AE (vI (c.recs.length:Int)) rfl (AA (AE (vI day) rfl (AA (EN (l:=[(0, .tmp 47),(1, .tmp 48),(2, .const (vI 0))]) pl_68 OW rfl [(0,vI (c.recs.length:Int),[vI (c.recs.length:Int)]),(1,vI day,[vI day]),(2,vI 0,[vI 0])] [vI (c.recs.length:Int),vI day,vI 0,nS,nS] rfl ⟨_,rfl,rfl,oT,⟨_,rfl,rfl,oT,⟨_,rfl,rfl,oT,rfl⟩⟩⟩ (AA (GZ (E:=Enc.recovery) (xs:=[.tmp 49]) U26_ IE OW (by decide) [.agg #[vI (c.recs.length:Int),vI day,vI 0,nS,nS]] [[vI (c.recs.length:Int),vI day,vI 0,nS,nS]] [(⟨(c.recs.length:Int),day,(0:Int),[],[]⟩:Recovery)] rfl rfl rfl (Parts.cons rfl ⟨.slice none 0 0, .slice none 0 0,rfl,(BB.nil _ _ _),(BB.nil _ _ _)⟩ (Parts.nil _ _ _)) oT A1 fun K2 K3 A3 m7 f9 i7=>(?_))))))))))))))))
 have a2:=a2.mv m7
 have c8:=c8.mv m7 f9 (by simp)
 have a9:=a9.keep f9 (by simp)
 have a6:=a6.keep f9 (by simp)
 have:=i7.len_le
 refine AA (CY (E:=Enc.recovery) (l:=c.recs) (m:=[(⟨(c.recs.length:Int),day,(0:Int),[],[]⟩:Recovery)]) U26_ XC rfl (by decide) rfl rfl c8 i7 (fun _ hb=>.inl hb) q5 (by simp;omega) (by simp [maxLen];omega) A3 fun c1 K4 m9 E1 i8 e9 A4 A5 A6 b7=>(?_))
 have i9:∀ b,c1.ownBlock=some b→b≠a0:=fun b hb=>by rcases i8 with e1|e1 <;> rw [e1] at hb <;> first|(cases hb;have:=a9.lt;omega)|(exact i6 b hb)
 have E2:∀ b,c1.ownBlock=some b→b≠a3:=fun b hb=>by rcases i8 with e1|e1 <;> rw [e1] at hb <;> first|(cases hb;have:=a6.lt;omega)|(exact q6 b hb)
 have b2:a0∈m9:=e9 a0 (by repeat (assumption))
 have b3:a3∈m9:=e9 a3 (by repeat (assumption))
 have a2:=a2.mv A5
 have a9:=a9.keep A6 (by simp only [Option.mem_toList];exact fun e=>absurd rfl (i6 _ e))
 refine AA (AU 4 FD rfl (CB (CI (c1) rfl rfl b7.oneCell s_26 (by repeat (assumption)) a9 oT A4 fun K5 A7 n2 A8 j0=>(?_))))
 have a2:=a2.mv n2
 have b7:=b7.mv n2 A8 (fun b hb=>BC (i9 b hb))
 refine AG (AC (AF (AB kR (AA (BW (vs:=[vI c.epoch,vI c.threshold,vI c.wait,b1,c1]) U28_ rfl BR rfl j0 rfl (AA (AE (vI (c.recs.length:Int)) rfl (CB (BF (vs:=[vI c.epoch,vI c.threshold,vI c.wait,b1,c1]) (.agg #[vI c.epoch,vI c.threshold,vI c.wait,b1,c1]) rfl rfl rfl BR (fun u hu=>by simp only [List.mem_cons,List.not_mem_nil,or_false] at hu;rcases hu with rfl|rfl|rfl|rfl|rfl <;> first|rfl|exact a2.oneCell|exact b7.oneCell) (by repeat (assumption)) j0 oT A7 fun K6 n3 n4 A9 q7=>(?_))))))))))
 have a2:=a2.mv n4
 have b7:=b7.mv n4 A9 (fun b hb=>BC (i9 b hb))
 refine AA (AD (vI (c.recs.length:Int)) rfl (AA (AD (vI 0) rfl (AG (AC (AM (AS rfl (IU rfl (EZ (vs:=[vI c.epoch,vI c.threshold,vI c.wait,b1,c1]) rfl U28_ rfl BR rfl q7 rfl) (ES rfl rfl) (ES rfl rfl)) (?_))))))))
 have B0:((CJ c day).1)=(⟨c.epoch,c.threshold,c.wait,c.guardians,c.recs++([(⟨(c.recs.length:Int),day,(0:Int),[],[]⟩:Recovery)])⟩:Circle):=by exact congrArg (fun p=>p.1) (IX aS (by rw [hlr];assumption) (by rw [hlr];decide) aS)
 have B1:((CJ c day).2.1)=(c.recs.length:Int):=by exact congrArg (fun p=>p.2.1) (IX aS (by rw [hlr];assumption) (by rw [hlr];decide) aS)
 have B2:((CJ c day).2.2)=(0:Int):=by exact congrArg (fun p=>p.2.2) (IX aS (by rw [hlr];assumption) (by rw [hlr];decide) aS)
 exact ⟨_,rfl,n3.keep,by rw [B0,B1,B2];exact ⟨[vI c.epoch,vI c.threshold,vI c.wait,b1,c1],rfl,⟨_,_,rfl,a2.out,(b7.pub n3)⟩⟩⟩
set_option maxHeartbeats 4000000 in
set_option maxRecDepth 100000 in
theorem c_approved {O:List Nat} (c_cs:List Value) (c:Circle) (r_a:Addr) (r:Recovery) (w:World) (b1:Enc.circle.rd w O c_cs c) (a2:PT Enc.recovery w O (.pointer (some r_a)) r) (hO:∀ b∈O,b<w.heap.size):CE Try.prog 85 [.agg c_cs.toArray, .pointer (some r_a)] w (fun v _=>v = .bool (MG c r)):= by
 have b1:Enc.circle.rd w ([]++O) c_cs c:=b1
 have a2:PT Enc.recovery w ([]++O) (.pointer (some r_a)) r:=a2
 have s0:St w O w []:=St.start hO
 refine BI 29 Try.func85 rfl rfl oT (fun F0=>AF (AB kR (AA (ER (E:=Enc.circle) (vA c_cs.toArray) (c_cs) c rfl rfl b1 s0 fun a7 c6 b8 b9 c7 a1=>(?_)))))
 have a2:=a2.mv b9
 refine AA (AD (vO false) rfl (AG (AC (AF (AB kR (AA (AD (vI 0) rfl (AG (AC (AF (AF (AB kR (AA (BH 3 PK (c.guardians) rfl a1 (fun _ _ _ h=>HS h) fun c8 b2=>(AA (CF U22_ rfl rfl b2 fun a8 a0=>(?_)))))))))))))))))
 have:=a0.len_le
 refine AA (CA U22_ rfl a0 (AA (AE (vI 0) rfl (AG (AC (BA (CX (fun mI FI wI=>∃ (k:Nat) (B:List Nat),k≤c.guardians.length∧mI=c.guardians.length - k∧(∃ F1,FI=FR F1 [(1,vP (some r_a)),(2,vP (some a7)),(5,vI ((JE r.approved c.guardians k:Nat):Int)),(9,a8),(10,vI (c.guardians.length:Int)),(11,vI ((k:Nat):Int)),(29,undef)])∧St w O wI B∧PT Enc.recovery wI (B++O) (.pointer (some r_a)) (r)∧PT Enc.circle wI (B++O) (.pointer (some a7)) (c)∧BB Enc.int wI (B++O) (a8) (c.guardians)) (c.guardians.length - (0)) ?_ ?_)))))))
 ·exact ⟨(0),[],oM,rfl,⟨_,AP _ ⟨rfl,rfl,(by rfl),rfl,rfl,(by rfl),rfl,trivial⟩⟩,b8,a2,a1,a0⟩
 intro d5 F c1 hI
 clear a2 a1 a0
 obtain ⟨k,b3,hr0_0,d6,⟨d7,rfl⟩,b4,a2,a1,a0⟩:=hI
 have hcm:=countM_le r.approved c.guardians k
 refine AF (AB kR (AA (DO .i64 ((k:Nat):Int) (c.guardians.length:Int) rfl rfl (AG (AC (AF (AJ (decide (((k:Nat):Int)<(c.guardians.length:Int))) rfl rfl (fun a3=>?_) (fun a3=>?_))))))))
 ·have c2:((k:Nat):Int)<(c.guardians.length:Int):=by simpa using a3
  refine AO (AC (AF (BA (AF (AB kR (AA (CP U22_ OV .i64 ((k:Nat):Int) k rfl rfl rfl a0 oM fun c9 b5=>(AA (CC U3_ rfl rfl b5 (AA (AD (vI (c.guardians[k]!)) rfl (AG (AC (AF (AB kR (AA (AE (vP (some r_a)) rfl (AA (FK r_a rfl (AA (o_field0 IK rfl (AA (BH 3 SZ (r.approved) rfl a2 (fun _ _ _ h=>OJ h) fun d0 b6=>(AA (CF U22_ rfl rfl b6 fun a9 a6=>(?_))))))))))))))))))))))))))
  have:=a6.len_le
  refine AA (AE (vI (c.guardians[k]!)) rfl (AA (AZ (vs:=[a9,vI (c.guardians[k]!)]) enter_75 (VN (O:=b3++O) a9 r.approved (c.guardians[k]!) c1 a6 b4.lt) rfl b4 fun d1 d2 b0 a5 d3 c0=>(?_))))
  obtain rfl:=c0
  have a2:=a2.mv a5
  have a1:=a1.mv a5
  have a0:=a0.mv a5
  refine AG (AC (AJ (r.approved.contains (c.guardians[k]!)) rfl rfl (fun a4=>?_) (fun a4=>?_)))
  ·have c3:(r.approved.contains (c.guardians[k]!))=true:=by simpa using a4
   refine AB kR (AA (AE (vI ((JE r.approved c.guardians k:Nat):Int)) rfl (AA (DC .i64 ((JE r.approved c.guardians k:Nat):Int) (1:Int) (((JE r.approved c.guardians k+1:Nat):Int)) rfl rfl (FQ oM oM) (AA (AD (vI ((JE r.approved c.guardians k+1:Nat):Int)) rfl (AG (BZ (AC (AB kR (AA (DC .i64 ((k:Nat):Int) (1:Int) (((k+1:Nat):Int)) rfl rfl (FQ oM oM) (AA (AE (vI ((k+1:Nat):Int)) rfl (AG (AC (?_)))))))))))))))))
   exact ⟨_,oM,(k+1),b3,oM,rfl,⟨_,AP _ ⟨rfl,rfl,(by exact congrArg (Value.int _) (by ((rw [TU oM,if_pos aS])))),rfl,rfl,(by rfl),rfl,trivial⟩⟩,b0,a2,a1,a0⟩
  have c4:(r.approved.contains (c.guardians[k]!))=false:=by simpa using a4
  refine AO (BZ (AC (AB kR (AA (DC .i64 ((k:Nat):Int) (1:Int) (((k+1:Nat):Int)) rfl rfl (FQ oM oM) (AA (AE (vI ((k+1:Nat):Int)) rfl (AG (AC (?_))))))))))
  exact ⟨_,oM,(k+1),b3,oM,rfl,⟨_,AP _ ⟨rfl,rfl,(by exact congrArg (Value.int _) (by ((rw [TU oM,if_neg (by rw [Bool.not_eq_true];assumption)];try rfl)))),rfl,rfl,(by rfl),rfl,trivial⟩⟩,b0,a2,a1,a0⟩
 have c5:(c.guardians.length:Int)≤((k:Nat):Int):=by simpa using a3
 obtain rfl:k=c.guardians.length:=by omega
 refine CV (BL (BL (CL (AC (AF (AB kR (AA (AE (vI ((JE r.approved c.guardians c.guardians.length:Nat):Int)) rfl (AA (BH 1 OQ (c.threshold) rfl a1 (fun _ _ _ h=>IT h) fun d4 b7=>(AA (CC U3_ rfl rfl b7 (AA (KR .i64 ((JE r.approved c.guardians c.guardians.length:Nat):Int) c.threshold rfl rfl (AA (AD (vO (decide (c.threshold≤((JE r.approved c.guardians c.guardians.length:Nat):Int)))) rfl (AG (AC (AM (AS rfl (CN rfl rfl rfl) (?_)))))))))))))))))))))
 have e:(MG c r)=(decide (c.threshold≤((JE r.approved c.guardians c.guardians.length:Nat):Int))):=rfl
 exact ⟨_,rfl,b4.keep,(by exact congrArg vO e.symm)⟩
open Go.Fw Go.RowKit
set_option maxHeartbeats 4000000 in
set_option maxRecDepth 100000 in
theorem LW {O:List Nat} (a:UInt8) (b:UInt8) (w:World) (hO:∀ b∈O,b<w.heap.size):CE Try.prog 112 [vB a,vB b] w (fun v _=>v=vB (CO a b)):= by
 have s0:St w O w []:=St.start hO
 refine BI 40 Try.func112 rfl rfl oT (fun F0=>AF (AB kR (AA (AD (vB (0:UInt8)) rfl (AG (AC (AF (AB kR (AA (AD (vI 0) rfl (AG (AC (AF (AF (AB kR (AA (AD (vI 0) rfl (AG (AC (BA (CX (fun mI FI wI=>∃ (k:Nat),k≤8∧mI=8 - k∧(∃ F1,FI=FR F1 [(0,vB a),(1,vB b),(5,vI ((cl a.toNat b.toNat k:Nat):Int)),(6,vI ((k:Nat):Int)),(40,undef)])∧w=wI) (8 - (0)) ?_ ?_)))))))))))))))))))))
 ·exact ⟨(0),oM,rfl,⟨_,AP _ ⟨rfl,rfl,(by rfl),(by rfl),rfl,trivial⟩⟩,rfl⟩
 rintro a3 F a4 ⟨k,hr0_0,a5,⟨a6,rfl⟩,rfl⟩
 have hcl:=cl_lt a.toNat b.toNat a.toNat_lt k hr0_0
 refine AF (AF (AB kR (AA (AE (vI ((k:Nat):Int)) rfl (AA (DO .i64 ((k:Nat):Int) (8:Int) rfl rfl (AG (AC (AJ (decide (((k:Nat):Int)<(8:Int))) rfl rfl (fun hc1=>?_) (fun hc1=>?_))))))))))
 ·have hp2:((k:Nat):Int)<(8:Int):=by simpa using hc1
  refine AO (AC (AF (BA (AF (AB kR (AA (AE (vB b) rfl (AA (WN .u8 .i64 U5_ U3_ (b.toNat:Int) (b.toNat:Int) rfl (by have:=(b).toNat_lt;exact FQ oM rfl) (AA (AE (vI ((k:Nat):Int)) rfl (AA (o_shrN .i64 b.toNat k oM rfl rfl (AA (o_remN (b.toNat / 2 ^ k) 2 oM rfl rfl (AA (GO .i64 (((b.toNat / 2 ^ k) % 2:Nat):Int) (1:Int) rfl rfl (AG (AC (AJ ((((b.toNat / 2 ^ k) % 2:Nat):Int) == (1:Int)) rfl rfl (fun hc3=>?_) (fun hc3=>?_)))))))))))))))))))))
  ·have hp4:(((b.toNat / 2 ^ k) % 2:Nat):Int)=(1:Int):=by simpa using hc3
   refine AB kR (AA (AE (vI ((cl a.toNat b.toNat k:Nat):Int)) rfl (AA (AE (vB a) rfl (AA (WN .u8 .i64 U5_ U3_ (a.toNat:Int) (a.toNat:Int) rfl (by have:=(a).toNat_lt;exact FQ oM rfl) (AA (AE (vI ((k:Nat):Int)) rfl (AA (o_shlN .i64 a.toNat k oM (by have:=mul_lt a.toNat k a.toNat_lt oM;omega) rfl rfl (AA (o_xorN (cl a.toNat b.toNat k) (a.toNat*2 ^ k) oM (by have:=mul_lt a.toNat k a.toNat_lt oM;omega) rfl rfl (AA (AD (vI (((cl a.toNat b.toNat k) ^^^ (a.toNat*2 ^ k):Nat):Int)) rfl (AG (BZ (AC (AB kR (AA (AE (vI ((k:Nat):Int)) rfl (AA (DC .i64 ((k:Nat):Int) (1:Int) (((k+1:Nat):Int)) rfl rfl (FQ oM oM) (AA (AD (vI ((k+1:Nat):Int)) rfl (AG (AC (?_)))))))))))))))))))))))))))
   exact ⟨_,oM,(k+1),oM,rfl,⟨_,AP _ ⟨rfl,rfl,(by exact congrArg (Value.int _) (by (rw [cl_yes a.toNat b.toNat k oM]))),(by rfl),rfl,trivial⟩⟩,rfl⟩
  have hp5:(((b.toNat / 2 ^ k) % 2:Nat):Int)≠(1:Int):=by simpa using hc3
  refine AO (BZ (AC (AB kR (AA (AE (vI ((k:Nat):Int)) rfl (AA (DC .i64 ((k:Nat):Int) (1:Int) (((k+1:Nat):Int)) rfl rfl (FQ oM oM) (AA (AD (vI ((k+1:Nat):Int)) rfl (AG (AC (?_))))))))))))
  exact ⟨_,oM,(k+1),oM,rfl,⟨_,AP _ ⟨rfl,rfl,(by exact congrArg (Value.int _) (by (rw [cl_no a.toNat b.toNat k oM]))),(by rfl),rfl,trivial⟩⟩,rfl⟩
 have hp6:(8:Int)≤((k:Nat):Int):=by simpa using hc1
 obtain rfl:k=8:=by omega
 refine CV (BL (BL (CL (AC (AF (AF (AB kR (AA (AD (vI 14) rfl (AG (AC (BA (CX (fun mI FI wI=>∃ (j:Nat),j≤7∧mI=7 - j∧(∃ F1,FI=FR F1 [(5,vI ((OO (cl a.toNat b.toNat 8) j:Nat):Int)),(7,vI ((14 - j:Nat):Int)),(40,undef)])∧w=wI) (7 - (0)) ?_ ?_)))))))))))))
 ·exact ⟨(0),oM,rfl,⟨_,AP _ ⟨(by rfl),(by rfl),rfl,trivial⟩⟩,rfl⟩
 rintro a7 F a8 ⟨j,hr1_0,a9,⟨b0,rfl⟩,rfl⟩
 have hrd:=red_lt (cl a.toNat b.toNat 8) (cl_lt a.toNat b.toNat a.toNat_lt 8 oM) j hr1_0
 refine AF (AF (AB kR (AA (AE (vI ((14 - j:Nat):Int)) rfl (AA (KR .i64 ((14 - j:Nat):Int) (8:Int) rfl rfl (AG (AC (AJ (decide ((8:Int)≤((14 - j:Nat):Int))) rfl rfl (fun hc7=>?_) (fun hc7=>?_))))))))))
 ·have hp8:(8:Int)≤((14 - j:Nat):Int):=by simpa using hc7
  refine AO (AC (AF (BA (AF (AB kR (AA (AE (vI ((OO (cl a.toNat b.toNat 8) j:Nat):Int)) rfl (AA (AE (vI ((14 - j:Nat):Int)) rfl (AA (o_shrN .i64 (OO (cl a.toNat b.toNat 8) j) (14 - j) oM rfl rfl (AA (o_remN ((OO (cl a.toNat b.toNat 8) j) / 2 ^ (14 - j)) 2 oM rfl rfl (AA (GO .i64 ((((OO (cl a.toNat b.toNat 8) j) / 2 ^ (14 - j)) % 2:Nat):Int) (1:Int) rfl rfl (AG (AC (AJ (((((OO (cl a.toNat b.toNat 8) j) / 2 ^ (14 - j)) % 2:Nat):Int) == (1:Int)) rfl rfl (fun hc9=>?_) (fun hc9=>?_)))))))))))))))))))
  ·have a0:((((OO (cl a.toNat b.toNat 8) j) / 2 ^ (14 - j)) % 2:Nat):Int)=(1:Int):=by simpa using hc9
   refine AB kR (AA (AE (vI ((OO (cl a.toNat b.toNat 8) j:Nat):Int)) rfl (AA (AE (vI ((14 - j:Nat):Int)) rfl (AA (IA .i64 ((14 - j:Nat):Int) (8:Int) (((14 - j - 8:Nat):Int)) rfl rfl (FQ oM oM) (AA (o_shlN .i64 283 (14 - j - 8) oM (by have:=mul_lt2 (14 - j - 8) oM;omega) rfl rfl (AA (o_xorN (OO (cl a.toNat b.toNat 8) j) (283*2 ^ (14 - j - 8)) oM (by have:=mul_lt2 (14 - j - 8) oM;omega) rfl rfl (AA (AD (vI (((OO (cl a.toNat b.toNat 8) j) ^^^ (283*2 ^ (14 - j - 8)):Nat):Int)) rfl (AG (BZ (AC (AB kR (AA (AE (vI ((14 - j:Nat):Int)) rfl (AA (IA .i64 ((14 - j:Nat):Int) (1:Int) (((14 - j:Nat):Int) - (1:Int)) rfl rfl (FQ oM oM) (AA (AD (vI (((14 - j:Nat):Int) - (1:Int))) rfl (AG (AC (?_)))))))))))))))))))))))))
   exact ⟨_,oM,(j+1),oM,rfl,⟨_,AP _ ⟨(by exact congrArg (Value.int _) (by (rw [red_yes (cl a.toNat b.toNat 8) j oM]))),(by exact congrArg (Value.int _) oM),rfl,trivial⟩⟩,rfl⟩
  have a1:((((OO (cl a.toNat b.toNat 8) j) / 2 ^ (14 - j)) % 2:Nat):Int)≠(1:Int):=by simpa using hc9
  refine AO (BZ (AC (AB kR (AA (AE (vI ((14 - j:Nat):Int)) rfl (AA (IA .i64 ((14 - j:Nat):Int) (1:Int) (((14 - j:Nat):Int) - (1:Int)) rfl rfl (FQ oM oM) (AA (AD (vI (((14 - j:Nat):Int) - (1:Int))) rfl (AG (AC (?_))))))))))))
  exact ⟨_,oM,(j+1),oM,rfl,⟨_,AP _ ⟨(by exact congrArg (Value.int _) (by (rw [red_no (cl a.toNat b.toNat 8) j oM]))),(by exact congrArg (Value.int _) oM),rfl,trivial⟩⟩,rfl⟩
 have a2:((14 - j:Nat):Int)<(8:Int):=by simpa using hc7
 obtain rfl:j=7:=by omega
 refine CV (BL (BL (CL (AC (AF (AB kR (AA (AE (vI ((OO (cl a.toNat b.toNat 8) 7:Nat):Int)) rfl (AA (OU .i64 U3_ U5_ ((OO (cl a.toNat b.toNat 8) 7:Nat):Int) rfl (AA (AD (vB (DL ((OO (cl a.toNat b.toNat 8) 7:Nat):Int))) rfl (AG (AC (AM (AS rfl (CN rfl rfl rfl) (?_)))))))))))))))))
 have e:(CO a b)=(DL ((OO (cl a.toNat b.toNat 8) 7:Nat):Int)):=rfl
 exact ⟨_,rfl,s0.keep,by rw [e];exact rfl⟩
set_option maxHeartbeats 4000000 in
set_option maxRecDepth 100000 in
theorem c_refInv {O:List Nat} (a:UInt8) (w:World) (hO:∀ b∈O,b<w.heap.size):CE Try.prog 118 [vB a] w (fun v _=>v = .tuple #[vB ((HJ a).1),vI ((HJ a).2)]):= by
 have s0:St w O w []:=St.start hO
 refine BI 16 Try.func118 rfl rfl oT (fun F0=>AF (AB kR (AA (AD (vB (0:UInt8)) rfl (AA (AD (vI 0) rfl (AG (AC (AF (AF (AB kR (AA (AD (vI 1) rfl (AG (AC (BA (CX (fun mI FI wI=>∃ (k:Nat) (B:List Nat),1≤k∧k≤256∧HJ a=EX (fun b=>if CO a (DL (b:Int)) == 1 then some (DL (b:Int),0) else none) (0,1) k (256 - k)∧mI=256 - k∧(∃ F1,FI=FR F1 [(0,vB a),(4,vI ((k:Nat):Int)),(16,undef)])∧St w O wI B) (256 - (1)) ?_ ?_)))))))))))))))))
 ·exact ⟨(1),[],oM,oM,rfl,rfl,⟨_,AP _ ⟨rfl,(by rfl),rfl,trivial⟩⟩,s0⟩
 intro b1 F a5 hI
 obtain ⟨k,a3,hr0_0,hr0_1,hr0_2,b2,⟨b3,rfl⟩,a2⟩:=hI
 refine AF (AF (AB kR (AA (AE (vI ((k:Nat):Int)) rfl (AA (DO .i64 ((k:Nat):Int) (256:Int) rfl rfl (AG (AC (AJ (decide (((k:Nat):Int)<(256:Int))) rfl rfl (fun a0=>?_) (fun a0=>?_))))))))))
 ·have a7:((k:Nat):Int)<(256:Int):=by simpa using a0
  refine AO (AC (AF (BA (AF (AB kR (AA (AE (vB a) rfl (AA (AE (vI ((k:Nat):Int)) rfl (AA (OU .i64 U3_ U5_ ((k:Nat):Int) rfl (AA (AZ (vs:=[vB a,vB (DL ((k:Nat):Int))]) KH (LW (O:=a3++O) a (DL ((k:Nat):Int)) a5 a2.lt) rfl a2 fun b4 b5 a4 b6 b7 a6=>(?_))))))))))))))
  obtain rfl:=a6
  refine AA (o_eql8 (CO a (DL ((k:Nat):Int))) (1:UInt8) rfl rfl (AG (AC (AJ ((CO a (DL ((k:Nat):Int))) == (1:UInt8)) rfl rfl (fun a1=>?_) (fun a1=>?_)))))
  ·have a8:CO a (DL ((k:Nat):Int))=(1:UInt8):=by simpa using a1
   refine AF (AB kR (AA (AE (vI ((k:Nat):Int)) rfl (AA (OU .i64 U3_ U5_ ((k:Nat):Int) rfl (AA (AD (vB (DL ((k:Nat):Int))) rfl (AA (AD (vI 0) rfl (AG (AC (AM (BK (AK (AK (BK (AK (AS rfl (EA rfl rfl rfl rfl) (?_)))))))))))))))))))
   have e:(HJ a)=(DL ((k:Nat):Int),(0:Int)):=by rw [hr0_2];exact DB oM (by simp [*])
   exact ⟨_,rfl,a4.keep,by rw [e];exact rfl⟩
  have a9:CO a (DL ((k:Nat):Int))≠(1:UInt8):=by simpa using a1
  refine AO (BZ (AC (AB kR (AA (AE (vI ((k:Nat):Int)) rfl (AA (DC .i64 ((k:Nat):Int) (1:Int) (((k+1:Nat):Int)) rfl rfl (FQ oM oM) (AA (AD (vI ((k+1:Nat):Int)) rfl (AG (AC (?_))))))))))))
  exact ⟨_,oM,(k+1),a3,oM,oM,(hr0_2.trans (FF oM (by simp [*]))),rfl,⟨_,AP _ ⟨rfl,(by rfl),rfl,trivial⟩⟩,a4⟩
 have b0:(256:Int)≤((k:Nat):Int):=by simpa using a0
 refine CV (BL (BL (CL (AC (AF (AB kR (AA (AD (vB (0:UInt8)) rfl (AA (AD (vI 1) rfl (AG (AC (AM (AS rfl (EA rfl rfl rfl rfl) (?_)))))))))))))))
 have e:(HJ a)=((0:UInt8),(1:Int)):=by rw [hr0_2];exact GR oM
 exact ⟨_,rfl,a2.keep,by rw [e];exact rfl⟩
set_option maxHeartbeats 4000000 in
set_option maxRecDepth 100000 in
theorem c_refOver {O:List Nat} (a:UInt8) (b:UInt8) (w:World) (hO:∀ b∈O,b<w.heap.size):CE Try.prog 110 [vB a,vB b] w (fun v _=>v=vB (EY a b)):= by
 have s0:St w O w []:=St.start hO
 refine BI 15 Try.func110 rfl rfl oT (fun F0=>AF (AB kR (AA (AD (vB (0:UInt8)) rfl (AG (AC (AF (AB kR (AA (AE (vB b) rfl (AA (AZ (vs:=[vB b]) enter_118 (c_refInv (O:=[]++O) b w s0.lt) rfl s0 fun a5 a1 a0 a6 a7 a2=>(?_)))))))))))))
 obtain rfl:=a2
 refine AA (AE (vT #[vB ((HJ b).1),vI ((HJ b).2)]) rfl (AA (AN (vB ((HJ b).1)) rfl rfl (AA (AN (vI ((HJ b).2)) rfl rfl (AA (AD (vB ((HJ b).1)) rfl (AA (AD (vI ((HJ b).2)) rfl (AG (AC (AF (AB kR (AA (AE (vB a) rfl (AA (AE (vB ((HJ b).1)) rfl (AA (AZ (vs:=[vB a,vB ((HJ b).1)]) KH (LW (O:=[]++O) a ((HJ b).1) a1 a0.lt) rfl a0 fun a8 a9 a3 b0 b1 a4=>(?_))))))))))))))))))))
 obtain rfl:=a4
 refine AA (AD (vB (CO a ((HJ b).1))) rfl (AG (AC (AM (AS rfl (CN rfl rfl rfl) (?_))))))
 have e:(EY a b)=(CO a ((HJ b).1)):=rfl
 exact ⟨_,rfl,a3.keep,by rw [e];exact rfl⟩
set_option maxHeartbeats 4000000 in
set_option maxRecDepth 100000 in
theorem c_refEval {O:List Nat} (l_v:Value) (l:List UInt8) (x:UInt8) (w:World) (a0:BB Enc.u8 w O l_v l) (hO:∀ b∈O,b<w.heap.size):CE Try.prog 102 [l_v,vB x] w (fun v _=>v=vB (FH l x)):= by
 have b3:=a0.len_le
 have a0:BB Enc.u8 w ([]++O) l_v l:=a0
 have s0:St w O w []:=St.start hO
 refine BI 26 Try.func102 rfl rfl oT (fun F0=>AF (AB kR (AA (AD (vB (0:UInt8)) rfl (AG (AC (AF (AB kR (AA (AD (vB (0:UInt8)) rfl (AG (AC (AF (AB kR (AA (AD (vB (1:UInt8)) rfl (AG (AC (AF (AF (AB kR (AA (AD (vI 0) rfl (AG (AC (BA (CX (fun mI FI wI=>∃ (k:Nat) (B:List Nat),k≤l.length∧mI=l.length - k∧(∃ F1,FI=FR F1 [(0,l_v),(1,vB x),(5,vB ((EC l x k).1)),(6,vB ((EC l x k).2)),(7,vI ((k:Nat):Int)),(26,undef)])∧St w O wI B∧BB Enc.u8 wI (B++O) (l_v) (l)) (l.length - (0)) ?_ ?_)))))))))))))))))))))))))))
 ·exact ⟨(0),[],oM,rfl,⟨_,AP _ ⟨rfl,rfl,(congrArg vB (by rfl)),(congrArg vB (by rfl)),(by rfl),rfl,trivial⟩⟩,s0,a0⟩
 intro b6 F a6 hI
 clear a0
 obtain ⟨k,a2,hr0_0,b7,⟨b8,rfl⟩,a3,a0⟩:=hI
 refine AF (AF (AB kR (AA (AE (vI ((k:Nat):Int)) rfl (AA (AE (l_v) rfl (AA (CA U23_ rfl a0 (AA (DO .i64 ((k:Nat):Int) (l.length:Int) rfl rfl (AG (AC (AJ (decide (((k:Nat):Int)<(l.length:Int))) rfl rfl (fun a1=>?_) (fun a1=>?_))))))))))))))
 ·have b4:((k:Nat):Int)<(l.length:Int):=by simpa using a1
  refine AO (AC (AF (BA (AF (AB kR (AA (AE (vB ((EC l x k).1)) rfl (AA (AE (l_v) rfl (AA (AE (vI ((k:Nat):Int)) rfl (AA (CP U23_ GK .i64 ((k:Nat):Int) k rfl rfl rfl a0 oM fun b9 a5=>(AA (EM U5_ rfl rfl a5 (AA (AE (vB ((EC l x k).2)) rfl (AA (AZ (vs:=[vB (l[k]!),vB ((EC l x k).2)]) KH (LW (O:=a2++O) (l[k]!) ((EC l x k).2) a6 a3.lt) rfl a3 fun c0 a7 a4 a8 c1 a9=>(?_))))))))))))))))))))
  obtain rfl:=a9
  have a0:=a0.mv a8
  refine AA (JT ((EC l x k).1) (CO (l[k]!) ((EC l x k).2)) rfl rfl (AA (AD (vB (((EC l x k).1) ^^^ (CO (l[k]!) ((EC l x k).2)))) rfl (AG (AC (AB kR (AA (AE (vB ((EC l x k).2)) rfl (AA (AE (vB x) rfl (AA (AZ (vs:=[vB ((EC l x k).2),vB x]) KH (LW (O:=a2++O) ((EC l x k).2) x a7 a4.lt) rfl a4 fun c2 c3 b0 b1 c4 b2=>(?_)))))))))))))
  obtain rfl:=b2
  have a0:=a0.mv b1
  refine AA (AD (vB (CO ((EC l x k).2) x)) rfl (AG (BZ (AC (AB kR (AA (AE (vI ((k:Nat):Int)) rfl (AA (DC .i64 ((k:Nat):Int) (1:Int) (((k+1:Nat):Int)) rfl rfl (FQ oM oM) (AA (AD (vI ((k+1:Nat):Int)) rfl (AG (AC (?_))))))))))))))
  exact ⟨_,oM,(k+1),a2,oM,rfl,⟨_,AP _ ⟨rfl,rfl,(congrArg vB (by rfl)),(congrArg vB (by rfl)),(by rfl),rfl,trivial⟩⟩,b0,a0⟩
 have b5:(l.length:Int)≤((k:Nat):Int):=by simpa using a1
 obtain rfl:k=l.length:=by omega
 refine CV (BL (BL (CL (AC (AF (AB kR (AA (AE (vB ((EC l x l.length).1)) rfl (AA (AD (vB ((EC l x l.length).1)) rfl (AG (AC (AM (AS rfl (CN rfl rfl rfl) (?_)))))))))))))))
 have e:(FH l x)=((EC l x l.length).1):=rfl
 exact ⟨_,rfl,a3.keep,by rw [e];exact rfl⟩
set_option maxHeartbeats 4000000 in
set_option maxRecDepth 100000 in
theorem c_refPoints {O:List Nat} (xs_v:Value) (xs:List UInt8) (ys_v:Value) (ys:List UInt8) (w:World) (a0:BB Enc.u8 w O xs_v xs) (a1:BB Enc.u8 w O ys_v ys) (hO:∀ b∈O,b<w.heap.size):CE Try.prog 109 [xs_v,ys_v] w (fun v _=>v = .bool (EW xs ys)):= by
 have b3:=a0.len_le
 have a0:BB Enc.u8 w ([]++O) xs_v xs:=a0
 have b4:=a1.len_le
 have a1:BB Enc.u8 w ([]++O) ys_v ys:=a1
 have s0:St w O w []:=St.start hO
 refine BI 32 Try.func109 rfl rfl oT (fun F0=>AF (AB kR (AA (AD (vO false) rfl (AG (AC (AF (AF (AB kR (AA (AE (xs_v) rfl (AA (CA U23_ rfl a0 (AA (AE (ys_v) rfl (AA (CA U23_ rfl a1 (AA (CT .i64 (xs.length:Int) (ys.length:Int) rfl rfl (AG (AC (AJ ((xs.length:Int) != (ys.length:Int)) rfl rfl (fun a2=>?_) (fun a2=>?_)))))))))))))))))))))))
 ·have b9:(xs.length:Int)≠(ys.length:Int):=by simpa using a2
  refine AF (AB kR (AA (AD (vO false) rfl (AG (AC (AM (AK (AS rfl (CN rfl rfl rfl) (?_)))))))))
  have e:(EW xs ys)=false:=by simp [EW, *]
  exact ⟨_,rfl,s0.keep,(by exact congrArg vO e.symm)⟩
 have c0:(xs.length:Int)=(ys.length:Int):=by simpa using a2
 refine AO (AC (AF (AF (AB kR (AA (AD (vI 0) rfl (AG (AC (BA (CX (fun mI FI wI=>∃ (k:Nat) (B:List Nat),k≤xs.length∧EW xs ys=NT xs k (xs.length - k)∧mI=xs.length - k∧(∃ F1,FI=FR F1 [(0,xs_v),(5,vI ((k:Nat):Int)),(32,undef)])∧St w O wI B∧BB Enc.u8 wI (B++O) (xs_v) (xs)) (xs.length - (0)) ?_ ?_))))))))))
 ·exact ⟨(0),[],oM,(by simp [EW, *]),rfl,⟨_,AP _ ⟨rfl,(by rfl),rfl,trivial⟩⟩,s0,a0⟩
 intro c7 F c8 hI
 clear a0
 obtain ⟨k,b5,hr0_0,hr0_1,c9,⟨d0,rfl⟩,a7,a0⟩:=hI
 refine AF (AF (AB kR (AA (AE (vI ((k:Nat):Int)) rfl (AA (AE (xs_v) rfl (AA (CA U23_ rfl a0 (AA (DO .i64 ((k:Nat):Int) (xs.length:Int) rfl rfl (AG (AC (AJ (decide (((k:Nat):Int)<(xs.length:Int))) rfl rfl (fun a3=>?_) (fun a3=>?_))))))))))))))
 ·have c1:((k:Nat):Int)<(xs.length:Int):=by simpa using a3
  refine AO (AC (AF (BA (AF (AB kR (AA (AD (vI 0) rfl (AG (AC (BA (CX (fun mI FI wI=>∃ (j:Nat) (B:List Nat),j≤k∧MN xs k=EX (fun j=>if xs[j]! == xs[k]! then some false else none) true j (k - j)∧mI=k - j∧(∃ F1,FI=FR F1 [(0,xs_v),(5,vI ((k:Nat):Int)),(6,vI ((j:Nat):Int)),(32,undef)])∧St w O wI B∧BB Enc.u8 wI (B++O) (xs_v) (xs)) (k - (0)) ?_ ?_)))))))))))
  ·exact ⟨(0),b5,oM,rfl,rfl,⟨_,AP _ ⟨rfl,rfl,(by rfl),rfl,trivial⟩⟩,a7,a0⟩
  intro d1 F b6 hI
  clear a0
  obtain ⟨j,a6,hr1_0,hr1_1,d2,⟨d3,rfl⟩,a8,a0⟩:=hI
  refine AF (AF (AB kR (AA (AE (vI ((j:Nat):Int)) rfl (AA (AE (vI ((k:Nat):Int)) rfl (AA (DO .i64 ((j:Nat):Int) ((k:Nat):Int) rfl rfl (AG (AC (AJ (decide (((j:Nat):Int)<((k:Nat):Int))) rfl rfl (fun a4=>?_) (fun a4=>?_))))))))))))
  ·have c2:((j:Nat):Int)<((k:Nat):Int):=by simpa using a4
   refine AO (AC (AF (BA (AF (FJ 9 _ _ kR kR kR kR kR rfl rfl fun b7 a9=>?_)))))
   have b0:=a8.call a9
   have b8:Mv a6 b6 a6 b7:=Mv.of_keep a9
   have a0:=a0.mv b8
   refine BM (AE (xs_v) rfl (BM (AE (vI ((j:Nat):Int)) rfl (BM (CP U23_ GK .i64 ((j:Nat):Int) j rfl rfl rfl a0 oM fun d4 b1=>(BM (EM U5_ rfl rfl b1 (BM (AE (xs_v) rfl (BM (AE (vI ((k:Nat):Int)) rfl (BM (CP U23_ GK .i64 ((k:Nat):Int) k rfl rfl rfl a0 oM fun d5 b2=>(BM (EM U5_ rfl rfl b2 (BM (o_eql8 (xs[j]!) (xs[k]!) rfl rfl (EQ (AG (AC (AJ ((xs[j]!) == (xs[k]!)) rfl rfl (fun a5=>?_) (fun a5=>?_))))))))))))))))))))))
   ·have c3:xs[j]! = xs[k]!:=by simpa using a5
    refine AF (AB kR (AA (AD (vO false) rfl (AG (AC (AM (BK (AK (AK (BK (BK (AK (AK (BK (AK (AS rfl (CN rfl rfl rfl) (?_)))))))))))))))))
    have e:(EW xs ys)=false:=by rw [hr0_1];exact DB oM (by rw [hr1_1,DB oM (by simp only [beq_iff_eq];exact if_pos aS)];rfl)
    exact ⟨_,rfl,b0.keep,(by exact congrArg vO e.symm)⟩
   have c4:xs[j]!≠xs[k]!:=by simpa using a5
   refine AO (BZ (AC (AB kR (AA (AE (vI ((j:Nat):Int)) rfl (AA (DC .i64 ((j:Nat):Int) (1:Int) (((j+1:Nat):Int)) rfl rfl (FQ oM oM) (AA (AD (vI ((j+1:Nat):Int)) rfl (AG (AC (?_))))))))))))
   exact ⟨_,oM,(j+1),a6,oM,(hr1_1.trans (FF oM (by simp only [beq_iff_eq];exact if_neg aS))),rfl,⟨_,AP _ ⟨rfl,rfl,(by rfl),rfl,trivial⟩⟩,b0,a0⟩
  have c5:((k:Nat):Int)≤((j:Nat):Int):=by simpa using a4
  refine CV (BL (BL (CL (BZ (AC (AB kR (AA (AE (vI ((k:Nat):Int)) rfl (AA (DC .i64 ((k:Nat):Int) (1:Int) (((k+1:Nat):Int)) rfl rfl (FQ oM oM) (AA (AD (vI ((k+1:Nat):Int)) rfl (AG (AC (?_)))))))))))))))
  exact ⟨_,oM,(k+1),a6,oM,(hr0_1.trans (FF oM (by rw [hr1_1,GR oM];rfl))),rfl,⟨_,AP _ ⟨rfl,(by rfl),rfl,trivial⟩⟩,a8,a0⟩
 have c6:(xs.length:Int)≤((k:Nat):Int):=by simpa using a3
 refine CV (BL (BL (CL (AC (AF (AB kR (AA (AD (vO true) rfl (AG (AC (AM (AS rfl (CN rfl rfl rfl) (?_)))))))))))))
 have e:(EW xs ys)=true:=by rw [hr0_1];exact GR oM
 exact ⟨_,rfl,a7.keep,(by exact congrArg vO e.symm)⟩
set_option maxHeartbeats 4000000 in
set_option maxRecDepth 100000 in
theorem YI {O:List Nat} (a:UInt8) (b:UInt8) (w:World) (hO:∀ b∈O,b<w.heap.size):CE Try.prog 93 [vB a,vB b] w (fun v _=>v=vB (BQ a b)):= by
 have s0:St w O w []:=St.start hO
 refine BI 46 Try.func93 rfl rfl oT (fun F0=>AF (AB kR (AA (AD (vB (0:UInt8)) rfl (AG (AC (AF (AB kR (AA (DE [vB (0:UInt8),vB (0:UInt8),vB (0:UInt8),vB (0:UInt8),vB (0:UInt8),vB (0:UInt8),vB (0:UInt8),vB (0:UInt8)] z_134 rfl s0 fun a3 b3 b4 b5 c7 c8 a4=>(?_)))))))))))
 clear b4
 have a4:IB b3 a3 134 ((List.replicate 8 (0:UInt8)).map vB):=a4
 refine AG (AC (AF (AB kR (AA (AE (vB a) rfl (AA (PH U134_ GK .i64 (0:Int) 0 rfl rfl rfl oM (CB (CI (vB a) rfl rfl rfl GK (by repeat (constructor)) a4 (by rw [List.length_map,show (List.replicate 8 (0:UInt8)).length=8 from by simp [HN]];omega) b5 fun c9 b6 d0 d1 a7=>(?_))))))))))
 rw [arr_set] at a7
 refine AG (AC (AF (AF (AB kR (AA (AD (vI 1) rfl (AG (AC (BA (CX (fun mI FI wI=>∃ (k:Nat) (B:List Nat),0<k∧k≤8∧mI=8 - k∧(∃ F1,FI=FR F1 [(1,vB b),(4,vB (0:UInt8)),(5,vP (some ⟨a3,0,none⟩)),(6,vI ((k:Nat):Int)),(46,undef)])∧St w O wI B∧IB wI a3 134 ((EL a k).map vB)∧a3∈B) (8 - (1)) ?_ ?_))))))))))
 ·exact ⟨(1),(a3 :: []),oM,oM,rfl,⟨_,AP _ ⟨rfl,rfl,rfl,(by rfl),rfl,trivial⟩⟩,b6,(by rw [show EL a (1)=(List.replicate 8 (0:UInt8)).set 0 a from by rfl];exact a7),(by (repeat (exact List.mem_cons_self)))⟩
 intro d2 F b7 hI
 obtain ⟨k,a9,hr0_0,hr0_1,d3,⟨d4,rfl⟩,b0,hbx_0_b74,b2⟩:=hI
 refine AF (AF (AB kR (AA (AE (vI ((k:Nat):Int)) rfl (AA (DO .i64 ((k:Nat):Int) (8:Int) rfl rfl (AG (AC (AJ (decide (((k:Nat):Int)<(8:Int))) rfl rfl (fun a5=>?_) (fun a5=>?_))))))))))
 ·have c5:((k:Nat):Int)<(8:Int):=by simpa using a5
  refine AO (AC (AF (BA (AF (AB kR (AA (AE (vI ((k:Nat):Int)) rfl (AA (IA .i64 ((k:Nat):Int) (1:Int) (((k - 1:Nat):Int)) rfl rfl (FQ oM oM) (AA (PH U134_ GK .i64 ((k - 1:Nat):Int) (k - 1) rfl rfl rfl oM (AA (AW U5_ rfl (vB (EL a k)[k - 1]!) rfl hbx_0_b74 (arr_get (by rw [show (EL a k).length=8 from by simp [HN]];omega)) (AA (AD (vB ((EL a k)[k - 1]!)) rfl (AG (AC (AF (AB kR (AA (AE (vI ((k:Nat):Int)) rfl (AA (AE (vB ((EL a k)[k - 1]!)) rfl (AA (o_shl8 .u64 ((EL a k)[k - 1]!) 1 oM rfl rfl (AA (PH U134_ GK .i64 ((k:Nat):Int) k rfl rfl rfl oM (CB (CI (vB (((EL a k)[k - 1]!) <<< UInt8.ofNat 1)) rfl rfl rfl GK (by repeat (assumption)) hbx_0_b74 (by rw [List.length_map,show (EL a k).length=8 from by simp [HN]];omega) b0 fun d5 b1 d6 d7 a0=>(?_))))))))))))))))))))))))))))))
  rw [arr_set] at a0
  refine AG (AC (AF (AB kR (AA (AE (vB ((EL a k)[k - 1]!)) rfl (AA (KR .u8 (((EL a k)[k - 1]!).toNat:Int) ((128:UInt8).toNat:Int) rfl rfl (AG (AC (AJ (decide (((128:UInt8).toNat:Int)≤(((EL a k)[k - 1]!).toNat:Int))) rfl rfl (fun a6=>?_) (fun a6=>?_)))))))))))
  ·have c6:((128:UInt8).toNat:Int)≤(((EL a k)[k - 1]!).toNat:Int):=by simpa using a6
   refine AB kR (AA (AE (vI ((k:Nat):Int)) rfl (AA (PH U134_ GK .i64 ((k:Nat):Int) k rfl rfl rfl oM (AA (AW U5_ rfl (vB ((EL a k).set k (((EL a k)[k - 1]!) <<< UInt8.ofNat 1))[k]!) rfl a0 (arr_get (by rw [show ((EL a k).set k (((EL a k)[k - 1]!) <<< UInt8.ofNat 1)).length=8 from by simp [HN]];omega)) (AA (JT (((EL a k).set k (((EL a k)[k - 1]!) <<< UInt8.ofNat 1))[k]!) (27:UInt8) rfl rfl (AA (PH U134_ GK .i64 ((k:Nat):Int) k rfl rfl rfl oM (CB (CI (vB ((((EL a k).set k (((EL a k)[k - 1]!) <<< UInt8.ofNat 1))[k]!) ^^^ (27:UInt8))) rfl rfl rfl GK (by repeat (assumption)) a0 (by rw [List.length_map,show ((EL a k).set k (((EL a k)[k - 1]!) <<< UInt8.ofNat 1)).length=8 from by simp [HN]];omega) b1 fun d8 b8 d9 e0 a8=>(?_)))))))))))))
   rw [arr_set] at a8
   refine AG (BZ (AC (AB kR (AA (AE (vI ((k:Nat):Int)) rfl (AA (DC .i64 ((k:Nat):Int) (1:Int) (((k+1:Nat):Int)) rfl rfl (FQ oM oM) (AA (AD (vI ((k+1:Nat):Int)) rfl (AG (AC (?_))))))))))))
   exact ⟨_,oM,(k+1),a9,oM,oM,rfl,⟨_,AP _ ⟨rfl,rfl,rfl,(by rfl),rfl,trivial⟩⟩,b8,(by rw [show EL a (k+1)=((EL a k).set k (((EL a k)[k - 1]!) <<< UInt8.ofNat 1)).set k ((((EL a k).set k (((EL a k)[k - 1]!) <<< UInt8.ofNat 1))[k]!) ^^^ (27:UInt8)) from by symm;exact xrow_hi a k oM oM aS];exact a8),aS⟩
  have b9:(((EL a k)[k - 1]!).toNat:Int)<((128:UInt8).toNat:Int):=by simpa using a6
  refine AO (BZ (AC (AB kR (AA (AE (vI ((k:Nat):Int)) rfl (AA (DC .i64 ((k:Nat):Int) (1:Int) (((k+1:Nat):Int)) rfl rfl (FQ oM oM) (AA (AD (vI ((k+1:Nat):Int)) rfl (AG (AC (?_))))))))))))
  exact ⟨_,oM,(k+1),a9,oM,oM,rfl,⟨_,AP _ ⟨rfl,rfl,rfl,(by rfl),rfl,trivial⟩⟩,b1,(by rw [show EL a (k+1)=(EL a k).set k (((EL a k)[k - 1]!) <<< UInt8.ofNat 1) from by symm;exact xrow_lo a k oM oM aS];exact a0),aS⟩
 have c0:(8:Int)≤((k:Nat):Int):=by simpa using a5
 obtain rfl:k=8:=by omega
 refine CV (BL (BL (CL (AC (AF (AF (AB kR (AA (BW (vs:=(EL a 8).map vB) U134_ rfl (by rw [List.length_map,show (EL a 8).length=8 from by simp [HN]];exact s_134) rfl hbx_0_b74 (by rw [List.drop_zero,List.take_length]) (AA (AE (vI 0) rfl (AG (AC (BA (CX (fun mI FI wI=>∃ (i:Nat),i≤8∧mI=8 - i∧(∃ F1,FI=FR F1 [(1,vB b),(4,vB (gm a b i)),(31,vA ((EL a 8).map vB).toArray),(32,vI ((i:Nat):Int)),(46,undef)])∧b7=wI) (8 - (0)) ?_ ?_)))))))))))))))
 ·exact ⟨(0),oM,rfl,⟨_,AP _ ⟨rfl,(congrArg vB (by rfl)),rfl,(by rfl),rfl,trivial⟩⟩,rfl⟩
 rintro e1 F e2 ⟨i,hr1_0,e3,⟨e4,rfl⟩,rfl⟩
 refine AF (AB kR (AA (DO .i64 ((i:Nat):Int) (8:Int) rfl rfl (AG (AC (AF (AJ (decide (((i:Nat):Int)<(8:Int))) rfl rfl (fun a1=>?_) (fun a1=>?_))))))))
 ·have c1:((i:Nat):Int)<(8:Int):=by simpa using a1
  refine AO (AC (AF (BA (AF (AB kR (AA (AE (vI ((i:Nat):Int)) rfl (AA (o_indexV (cs:=(EL a 8).map vB) U134_ GK U5_ rfl .i64 ((i:Nat):Int) i (vB (EL a 8)[i]!) rfl rfl rfl oM (arr_at (by rw [show (EL a 8).length=8 from by simp [HN]];omega)) (AA (AD (vI ((i:Nat):Int)) rfl (AA (AD (vB ((EL a 8)[i]!)) rfl (AG (AC (AF (AB kR (AA (AE (vB b) rfl (AA (AE (vI ((i:Nat):Int)) rfl (AA (o_shr8 .i64 b i oM rfl rfl (AA (o_and8 (b >>> UInt8.ofNat i) (1:UInt8) rfl rfl (AA (o_eql8 ((b >>> UInt8.ofNat i) &&& (1:UInt8)) (1:UInt8) rfl rfl (AG (AC (AJ (((b >>> UInt8.ofNat i) &&& (1:UInt8)) == (1:UInt8)) rfl rfl (fun a2=>?_) (fun a2=>?_)))))))))))))))))))))))))))))))
  ·have c2:(b >>> UInt8.ofNat i) &&& (1:UInt8)=(1:UInt8):=by simpa using a2
   refine AB kR (AA (AE (vB (gm a b i)) rfl (AA (AE (vB ((EL a 8)[i]!)) rfl (AA (JT (gm a b i) ((EL a 8)[i]!) rfl rfl (AA (AD (vB ((gm a b i) ^^^ ((EL a 8)[i]!))) rfl (AG (BZ (AC (AB kR (AA (DC .i64 ((i:Nat):Int) (1:Int) (((i+1:Nat):Int)) rfl rfl (FQ oM oM) (AA (AE (vI ((i+1:Nat):Int)) rfl (AG (AC (?_)))))))))))))))))))
   exact ⟨_,oM,(i+1),oM,rfl,⟨_,AP _ ⟨rfl,(congrArg vB (by (rw [xrow_at a 8 i oM oM];exact (gm_yes a b i aS).symm))),rfl,(by rfl),rfl,trivial⟩⟩,rfl⟩
  have c3:(b >>> UInt8.ofNat i) &&& (1:UInt8)≠(1:UInt8):=by simpa using a2
  refine AO (BZ (AC (AB kR (AA (DC .i64 ((i:Nat):Int) (1:Int) (((i+1:Nat):Int)) rfl rfl (FQ oM oM) (AA (AE (vI ((i+1:Nat):Int)) rfl (AG (AC (?_))))))))))
  exact ⟨_,oM,(i+1),oM,rfl,⟨_,AP _ ⟨rfl,(congrArg vB (by exact (gm_no a b i aS).symm)),rfl,(by rfl),rfl,trivial⟩⟩,rfl⟩
 have c4:(8:Int)≤((i:Nat):Int):=by simpa using a1
 obtain rfl:i=8:=by omega
 refine CV (BL (BL (CL (AC (AF (AB kR (AA (AE (vB (gm a b 8)) rfl (AA (AD (vB (gm a b 8)) rfl (AG (AC (AM (AS rfl (CN rfl rfl rfl) (?_)))))))))))))))
 have e:(BQ a b)=(gm a b 8):=rfl
 exact ⟨_,rfl,b0.keep,by rw [e];exact rfl⟩
open Go.Fw Go.RowKit
set_option maxHeartbeats 4000000 in
set_option maxRecDepth 100000 in
theorem c_eval {O:List Nat} (l_v:Value) (l:List UInt8) (x:UInt8) (w:World) (a0:BB Enc.u8 w O l_v l) (hO:∀ b∈O,b<w.heap.size):CE Try.prog 51 [l_v,vB x] w (fun v _=>v=vB (EI l x)):= by
 have c2:=a0.len_le
 have a0:BB Enc.u8 w ([]++O) l_v l:=a0
 have s0:St w O w []:=St.start hO
 refine BI 22 Try.func51 rfl rfl oT (fun F0=>AF (AB kR (AA (AD (vB (0:UInt8)) rfl (AG (AC (AF (AF (AB kR (AA (AE (l_v) rfl (AA (CA U23_ rfl a0 (AA (IA .i64 (l.length:Int) (1:Int) ((l.length:Int) - (1:Int)) rfl rfl (FQ oM oM) (AA (AD (vI ((l.length:Int) - (1:Int))) rfl (AG (AC (BA (CX (fun mI FI wI=>∃ (k:Nat) (B:List Nat),k≤l.length∧mI=k∧(∃ F1,FI=FR F1 [(0,l_v),(1,vB x),(4,vB (EI (l.drop k) x)),(5,vI ((k:Int) - 1)),(22,undef)])∧St w O wI B∧BB Enc.u8 wI (B++O) (l_v) (l)) ((l.length)) ?_ ?_)))))))))))))))))))))
 ·exact ⟨(l.length),[],oM,rfl,⟨_,AP _ ⟨rfl,rfl,(congrArg vB (by rw [List.drop_length];rfl)),(by rfl),rfl,trivial⟩⟩,s0,a0⟩
 intro c9 F a5 hI
 clear a0
 obtain ⟨k,a2,hr0_0,d0,⟨d1,rfl⟩,a7,a0⟩:=hI
 refine AF (AF (AB kR (AA (AE (vI ((k:Int) - 1)) rfl (AA (KR .i64 ((k:Int) - 1) (0:Int) rfl rfl (AG (AC (AJ (decide ((0:Int)≤(k:Int) - 1)) rfl rfl (fun a3=>?_) (fun a3=>?_))))))))))
 ·have c3:(0:Int)≤(k:Int) - 1:=by simpa using a3
  obtain ⟨q,rfl⟩:∃ q,k=q+1:=⟨k - 1,by omega⟩
  rw [show ((q+1:Nat):Int) - 1=((q:Nat):Int) from by omega]
  refine AO (AC (AF (BA (cw_draw' 7 _ _ [DZ (vB (EI (l.drop (q+1)) x)),DZ (vB x),DZ (vB (BQ (EI (l.drop (q+1)) x) x)),fun (vT:Value) (wT:World)=>BB Enc.u8 wT (a2++O) vT (l),DZ (vI ((q:Nat):Int)),fun (vT:Value) (wT:World)=>∃ aT,vT = .pointer (some aT)∧PT Enc.u8 wT (a2++O) (.pointer (some aT)) (l[q]!),DZ (vB (l[q]!))] kR kR kR kR rfl rfl ⟨kI,kI,kI,fun _ _ _ h k=>h.mv (Mv.of_keep k),kI,fun _ _ _ ⟨a,e,h⟩ k=>⟨a,e,h.mv (Mv.of_keep k)⟩,kI,trivial⟩ ⟨?_,?_,?_,?_,?_,?_,?_,trivial⟩ ?_))))
  ·intro F1 w1 k1 hf hd
   obtain ⟨F2,rfl⟩:=AL (F:=F1) [(4,vB (EI (l.drop (q+1)) x))] ⟨hf 4 kR,trivial⟩
   exact AH rfl ((AE (vB (EI (l.drop (q+1)) x)) rfl (⟨(Keep.refl _ _),rfl⟩)))
  ·intro F1 w1 k1 hf hd
   obtain ⟨F2,rfl⟩:=AL (F:=F1) [(1,vB x)] ⟨hf 1 kR,trivial⟩
   exact AH rfl ((AE (vB x) rfl (⟨(Keep.refl _ _),rfl⟩)))
  ·intro F1 w1 k1 hf hd
   have k0:=(Keep.drew [] a5).trans k1
   have s1:=a7.call k0
   obtain ⟨F2,rfl⟩:=AL (F:=F1) [(13,vB (EI (l.drop (q+1)) x)),(14,vB x)] ⟨hd 0 13 kR,hd 1 14 kR,trivial⟩
   refine AH rfl ((AZ (vs:=[vB (EI (l.drop (q+1)) x),vB x]) NF (YI (O:=a2++O) (EI (l.drop (q+1)) x) x w1 s1.lt) rfl s1 fun c5 c6 c7 c8 b1 b2=>(?_)))
   obtain rfl:=b2
   exact ⟨b1,rfl⟩
  ·intro F1 w1 k1 hf hd
   have k0:=(Keep.drew [] a5).trans k1
   have m1:Mv a2 a5 a2 w1:=Mv.of_keep k0
   have a0:=a0.mv m1
   obtain ⟨F2,rfl⟩:=AL (F:=F1) [(0,l_v)] ⟨hf 0 kR,trivial⟩
   exact AH rfl ((AE (l_v) rfl (⟨(Keep.refl _ _),a0⟩)))
  ·intro F1 w1 k1 hf hd
   obtain ⟨F2,rfl⟩:=AL (F:=F1) [(5,vI ((q:Nat):Int))] ⟨hf 5 kR,trivial⟩
   exact AH rfl ((AE (vI ((q:Nat):Int)) rfl (⟨(Keep.refl _ _),rfl⟩)))
  ·intro F1 w1 k1 hf hd
   obtain ⟨b3,b4,a6⟩:∃ v,F1 16=v∧BB Enc.u8 w1 (a2++O) v (l):=⟨_,rfl,hd 3 16 kR⟩
   have:=a6.len_le
   obtain ⟨F2,rfl⟩:=AL (F:=F1) [(16,b3),(17,vI ((q:Nat):Int))] ⟨b4,hd 4 17 kR,trivial⟩
   exact AH rfl ((CP U23_ GK .i64 ((q:Nat):Int) q rfl rfl rfl a6 oM fun b5 a9=>(⟨(Keep.refl _ _),⟨b5,rfl,a9⟩⟩)))
  ·intro F1 w1 k1 hf hd
   obtain ⟨b6,b7,b0⟩:∃ aX_,F1 18 = .pointer (some aX_)∧PT Enc.u8 w1 (a2++O) (.pointer (some aX_)) (l[q]!):=hd 5 18 kR
   obtain ⟨F2,rfl⟩:=AL (F:=F1) [(18,vP (some b6))] ⟨b7,trivial⟩
   exact AH rfl ((EM U5_ rfl rfl b0 (⟨(Keep.refl _ _),rfl⟩)))
  intro b8 b9 a8 a4 a1
  have c0:=a7.call a8
  have c1:Mv a2 a5 a2 b9:=Mv.of_keep a8
  have a0:=a0.mv c1
  obtain ⟨F2,rfl⟩:=AL (F:=b8) [(0,l_v),(1,vB x),(4,vB (EI (l.drop (q+1)) x)),(5,vI ((q:Nat):Int)),(22,undef),(15,vB (BQ (EI (l.drop (q+1)) x) x)),(19,vB (l[q]!))] ⟨a1 0 kR,a1 1 kR,a1 4 kR,a1 5 kR,a1 22 kR,a4 2 15 kR (by decide),a4 6 19 kR (by decide),trivial⟩
  clear a4 a1
  refine AA (JT (BQ (EI (l.drop (q+1)) x) x) (l[q]!) rfl rfl (AA (AD (vB ((BQ (EI (l.drop (q+1)) x) x) ^^^ (l[q]!))) rfl (AG (BZ (AC (AB kR (AA (AE (vI ((q:Nat):Int)) rfl (AA (IA .i64 ((q:Nat):Int) (1:Int) (((q:Nat):Int) - (1:Int)) rfl rfl (FQ oM oM) (AA (AD (vI (((q:Nat):Int) - (1:Int))) rfl (AG (AC (?_))))))))))))))))
  exact ⟨_,oM,(q),a2,oM,rfl,⟨_,AP _ ⟨rfl,rfl,(congrArg vB (by rw [pev_drop (l:=l) (k:=q) oM])),(by rfl),rfl,trivial⟩⟩,c0,a0⟩
 have c4:(k:Int) - 1<(0:Int):=by (have e:=a3;simp at e;omega)
 obtain rfl:k=0:=by omega
 refine CV (BL (BL (CL (AC (AF (AB kR (AA (AE (vB (EI (l.drop 0) x)) rfl (AA (AD (vB (EI (l.drop 0) x)) rfl (AG (AC (AM (AS rfl (CN rfl rfl rfl) (?_)))))))))))))))
 have e:(EI l x)=(EI (l.drop 0) x):=rfl
 exact ⟨_,rfl,a7.keep,by rw [e];exact rfl⟩
set_option maxHeartbeats 4000000 in
set_option maxRecDepth 100000 in
theorem c_powers {O:List Nat} (a:UInt8) (w:World) (hO:∀ b∈O,b<w.heap.size):CE Try.prog 108 [vB a] w (fun v w'=>∃ (a0_0:Addr),v = .func (.func 117) #[] #[.pointer (some a0_0)]∧PT Enc.u8 w' (O) (.pointer (some a0_0)) (a)):= by
 have s0:St w O w []:=St.start hO
 refine BI 4 Try.func108 rfl rfl oT (fun F0=>AF (AB kR (AA (ER (E:=Enc.u8) (vB a) ([vB a]) a rfl rfl rfl s0 fun a0 a3 a2 a4 a5 a1=>(AA (AD (Value.nilFunc) rfl (AG (AC (AF (AB kR (AA (DP (first:=[]) (captured:=[.tmp 1]) [] [vP (some a0)] rfl rfl (AA (AD (vN (.func 117) #[] #[vP (some a0)]) rfl (AG (AC (AM (AS rfl (CN rfl rfl rfl) (?_)))))))))))))))))))
 exact ⟨_,rfl,a2.keep,⟨_,rfl,(a1.sub (fun b hb=>.inl (List.mem_append_right _ hb)))⟩⟩
set_option maxHeartbeats 4000000 in
set_option maxRecDepth 100000 in
theorem it_powers (w:World) (L:List Nat) (a_a:Addr) (a:UInt8) (a0:PT Enc.u8 w L (.pointer (some a_a)) a) (hL:∀ b∈L,b<w.heap.size) (l:Nat) (N:Nat) (I:Nat→World→Prop) (J:World→Prop) (hI:∀ i w',I i w'→Keep L w w') (hst:∀ i w1 w2,I i w1→Keep [] w1 w2→I i w2) (hN:∀ i w',I i w'→i≤N) (hNb:N<4611686018427387904) (hR:∀ i w',I i w'→ML Try.prog l [vI ((i:Nat):Int),vB (JS a i)] w' (fun v w2=>(v = .bool true∧I (i+1) w2)∨(v = .bool false∧J w2))) (h0:I 0 w):Calls Try.prog 117 ([]++[vN (.yield l) #[] #[]]++[vP (some a_a)]).toArray w (fun e w'=>(∃ v,e = .returned v)∧(J w'∨∃ i,False∧I i w')):= by
 have a0:PT Enc.u8 w (L++[]) (.pointer (some a_a)) a:=by rw [List.append_nil];exact a0
 refine CG 14 Try.func117 rfl rfl oT (fun F0=>?_)
 have hk_w:=hI _ _ h0
 have a1:PT Enc.u8 w ([]++L) (.pointer (some a_a)) a:=by have h:=a0.mv (Mv.same hk_w);rw [List.append_nil] at h;exact h
 have a5:St w L w []:=St.start (fun b hb=>Nat.lt_of_lt_of_le (hL b hb) hk_w.size)
 refine AF (AB kR (AA (AD (vB (1:UInt8)) rfl (AG (AC (AF (AB kR (AA (AD (vI 0) rfl (AG (AC (BA (CX (fun mI FI wI=>∃ k:Nat,mI=N+1 - k∧(∃ F1,FI=FR F1 [(0,vN (.yield l) #[] #[]),(1,vP (some a_a)),(3,vB (JS a k)),(4,vI ((k:Nat):Int)),(14,undef)])∧I (k) wI) (N+1 - (0)) ?_ ?_)))))))))))))
 ·exact ⟨(0),rfl,⟨_,AP _ ⟨rfl,rfl,(congrArg vB (by rfl)),(by rfl),rfl,trivial⟩⟩,h0⟩
 rintro ml F wl ⟨k,rfl,⟨Fl,rfl⟩,hIl⟩
 have hk_wl:=hI _ _ hIl
 have a1:PT Enc.u8 wl ([]++L) (.pointer (some a_a)) a:=by have h:=a0.mv (Mv.same hk_wl);rw [List.append_nil] at h;exact h
 have a6:St wl L wl []:=St.start (fun b hb=>Nat.lt_of_lt_of_le (hL b hb) hk_wl.size)
 have hkN:=hN _ _ hIl
 refine AF (AF (AB kR (AA (AE (vN (.yield l) #[] #[]) rfl (AA (AE (vI ((k:Nat):Int)) rfl (AA (AE (vB (JS a k)) rfl (wl_y l [vI ((k:Nat):Int),vB (JS a k)] rfl rfl ?_)))))))))
 refine ML.mono (hR k _ hIl) (fun v w2 h=>?_)
 obtain ⟨rfl,hI2⟩|⟨rfl,hJ⟩:=h
 ·have hk_w2:=hI _ _ hI2
  have a1:PT Enc.u8 w2 ([]++L) (.pointer (some a_a)) a:=by have h:=a0.mv (Mv.same hk_w2);rw [List.append_nil] at h;exact h
  have a2:St w2 L w2 []:=St.start (fun b hb=>Nat.lt_of_lt_of_le (hL b hb) hk_w2.size)
  refine AG (AC (AJ true rfl rfl (fun _=>AO (AC (AF (BA (AB kR (AA (AE (vB (JS a k)) rfl (AA (EM U5_ rfl rfl a1 (AA (AZ (vs:=[vB (JS a k),vB a]) NF (YI (O:=[]++L) (JS a k) a w2 a2.lt) rfl a2 fun a7 a8 a9 b0 a3 a4=>(?_)))))))))))) (fun h=>by cases h)))
  obtain rfl:=a4
  have hI2:=hst _ _ _ hI2 a3
  refine AA (AD (vB (BQ (JS a k) a)) rfl (AG (BZ (AC (AB kR (AA (AE (vI ((k:Nat):Int)) rfl (AA (DC .i64 ((k:Nat):Int) (1:Int) (((k+1:Nat):Int)) rfl rfl (FQ oM oM) (AA (AD (vI ((k+1:Nat):Int)) rfl (AG (AC (?_))))))))))))))
  exact ⟨_,oM,(k+1),rfl,⟨_,AP _ ⟨rfl,rfl,(congrArg vB (by rfl)),(by rfl),rfl,trivial⟩⟩,hI2⟩
 refine AG (AC (AJ false rfl rfl (fun h=>by cases h) (fun _=>CV (BL (BL (CL (GW rfl (KE rfl) (?_))))))))
 exact ⟨⟨_,rfl⟩, .inl hJ⟩
set_option maxHeartbeats 4000000 in
set_option maxRecDepth 100000 in
theorem c_inverse {O:List Nat} (a:UInt8) (w:World) (hO:∀ b∈O,b<w.heap.size):CE Try.prog 94 [vB a] w (fun v _=>v=vB (FU a)):= by
 have s0:St w O w []:=St.start hO
 refine WI 12 Try.func94 rfl rfl oT (fun F0=>AF (AB kR (AA (DE [vB (0:UInt8)] VF rfl s0 fun a5 d6 d7 c2 f4 f5 a8=>(?_)))))
 clear d7
 refine AG (AC (AF (AF (AB kR (AA (AE (vB a) rfl (AA (AZ (vs:=[vB a]) enter_108 (c_powers (O:=(a5 :: [])++O) a d6 c2.lt) rfl c2 fun f6 d8 d9 f7 e0 e1=>(?_)))))))))
 obtain ⟨b3,rfl,a2⟩:=e1
 have a8:=a8.keep e0 (by simp)
 refine AG (AC (BA (cw_range (fs:=[]) (lb:=[vP (some b3)]) rfl rfl enter_117 rfl (fun l_0 D_0 b1 R_0 _ hR_0 c1 d2 b9 a3 a4=>?_))))
 have a6:GV a5 D_0∧GV a5 l_0:=by show a5≠D_0∧a5≠l_0;have:=a8.lt;omega
 have c3:=d9.adopt2 b9 c1 oM a3.lt a4.lt
 have e2:Mv (a5 :: []) d8 (l_0 :: D_0 :: (a5 :: [])) b1:=Mv.adopt2 b9 c1 oM
 have a2:=a2.mv e2
 have a8:=a8.keep b9 (by simp)
 have hDl_0:GV D_0 l_0:=by show D_0≠l_0;omega
 clear d2
 have a0:Mv (l_0 :: D_0 :: (a5 :: [])) b1 (l_0 :: D_0 :: (a5 :: [])) b1:=Mv.refl _ _
 have hL_0:=c3.lt
 refine Calls.mono (it_powers b1 ((l_0 :: D_0 :: (a5 :: []))++O) b3 a a2 hL_0 l_0 (254) (fun (i:Nat) wI=>∃ (B:List Nat),i≤254∧St w O wI B∧PT Enc.u8 wI (B++O) (.pointer (some b3)) (a)∧Ob wI D_0 (.deferred (some []))∧Ob wI l_0 (R_0 .ready none)∧a5∈B∧D_0∈B∧l_0∈B∧Mv (l_0 :: D_0 :: (a5 :: [])) b1 B wI∧IB wI a5 5 [vB (0:UInt8)]) (fun wI=>(∃ (i:Nat) (B:List Nat),St w O wI B∧PT Enc.u8 wI (B++O) (.pointer (some b3)) (a)∧Ob wI D_0 (.deferred (some []))∧Ob wI l_0 (R_0 .done (some (.ret)))∧a5∈B∧D_0∈B∧l_0∈B∧Mv (l_0 :: D_0 :: (a5 :: [])) b1 B wI∧IB wI a5 5 [vB (FU a)])) ?_ ?_ ?_ oM ?_ ?_) (fun e w2 hJ=>⟨hJ.1,?_⟩)
 ·intro i w' hI
  clear a2 a3 a4 a0
  obtain ⟨Bl,hq0_0,sl,a2,a3,a4,a7,a9,b0,a0,a1⟩:=hI
  exact Keep.mono a0.keep (fun b hb=>.inl (List.mem_append_left _ hb))
 ·intro i wa wb hI kk
  clear a2 a3 a4 a0
  obtain ⟨Bl,hq0_0,sl,a2,a3,a4,a7,a9,b0,a0,a1⟩:=hI
  have f1:=sl.call kk
  have d5:Mv Bl wa Bl wb:=Mv.of_keep kk
  have a2:=a2.mv d5
  have a1:=a1.keep kk (by simp)
  have a3:=a3.keep kk (by simp)
  have a4:=a4.keep kk (by simp)
  have a0:=a0.trans d5
  exact ⟨Bl,hq0_0,f1,a2,a3,a4,(by repeat (assumption)),(by repeat (assumption)),(by repeat (assumption)),a0,a1⟩
 ·intro i w' hI
  clear a2 a3 a4 a0
  obtain ⟨Bl,hq0_0,sl,a2,a3,a4,a7,a9,b0,a0,a1⟩:=hI
  omega
 ·intro i wr hI
  clear a2 a3 a4 a0
  obtain ⟨Bl,hq0_0,sl,a2,a3,a4,a7,a9,b0,a0,a1⟩:=hI
  refine XP hR_0 a4 rfl (by decide) (AF (AB kR (AA (AD (vI ((i:Nat):Int)) rfl (AG (AC (AB kR (AA (AD (vB (JS a i)) rfl (AG (AC (⟨a4,fun c4 b4 b2=>?_⟩))))))))))))
  have c5:=sl.keepB b4 (by repeat (assumption))
  have c6:Mv Bl wr Bl c4:=Mv.keepB b4 (by repeat (assumption))
  have a2:=a2.mv c6
  have a1:=a1.keep b4 (BC a6.2)
  have a3:=a3.keep b4 (BC hDl_0)
  have a0:=a0.trans c6
  refine BA (AF (AB kR (AA (AE (vI ((i:Nat):Int)) rfl (AA (GO .i64 ((i:Nat):Int) (254:Int) rfl rfl (AG (AC (AJ (((i:Nat):Int) == (254:Int)) rfl rfl (fun b5=>?_) (fun b5=>?_))))))))))
  ·have f2:((i:Nat):Int)=(254:Int):=by simpa using b5
   refine AF (AB kR (AA (AE (vB (JS a i)) rfl (CB (CI (vB (JS a i)) rfl rfl rfl GK (by repeat (assumption)) a1 oT c5 fun e3 e4 c7 c8 b6=>(?_))))))
   have a2:=a2.mv c7
   have a3:=a3.keep c8 (BC (Ne.symm a6.1))
   have b2:=b2.keep c8 (BC (Ne.symm a6.2))
   have a0:=a0.trans c7
   refine AG (AC (AM (BK (round_r b2 (fun e5 b7 d3=>?_)))))
   have e6:=e4.keepB b7 (by repeat (assumption))
   have c9:Mv Bl e3 Bl e5:=Mv.keepB b7 (by repeat (assumption))
   have a2:=a2.mv c9
   have b6:=b6.keep b7 (BC a6.2)
   have a3:=a3.keep b7 (BC hDl_0)
   have a0:=a0.trans c9
   have a4:=d3
   refine .inr ⟨rfl,?_⟩
   exact ⟨i,Bl,e6,a2,a3,a4,(by repeat (assumption)),(by repeat (assumption)),(by repeat (assumption)),a0,(by rw [show ([vB (FU a)]:List Value)=[vB (JS a i)] from by rw [ginv_at a i oM]];exact b6)⟩
  have f3:((i:Nat):Int)≠(254:Int):=by simpa using b5
  refine AO (BZ (round_n b2 (fun e7 b8 d4=>?_)))
  have e8:=c5.keepB b8 (by repeat (assumption))
  have d0:Mv Bl c4 Bl e7:=Mv.keepB b8 (by repeat (assumption))
  have a2:=a2.mv d0
  have a1:=a1.keep b8 (BC a6.2)
  have a3:=a3.keep b8 (BC hDl_0)
  have a0:=a0.trans d0
  have a4:=d4
  refine .inl ⟨rfl,?_⟩
  exact ⟨Bl,oM,e8,a2,a3,a4,(by repeat (assumption)),(by repeat (assumption)),(by repeat (assumption)),a0,a1⟩
 ·exact ⟨(l_0 :: D_0 :: (a5 :: [])),oM,c3,a2,a3,a4,(by repeat (constructor)),(by repeat (constructor)),(by repeat (constructor)),a0,a8⟩
 obtain ⟨_,hJ⟩:=hJ
 clear a2 a3 a4 a0
 rcases hJ with (hJ)|⟨i,hi,hJ⟩
 ·obtain ⟨i,Bl,sl,a2,a3,a4,a7,a9,b0,a0,a1⟩:=hJ
  refine ⟨.done,(some (.ret)),by simp,a4,fun f8 c0=>?_⟩
  have e9:=sl.keepB c0 (by repeat (assumption))
  have a1:=a1.keep c0 (BC a6.2)
  have a3:=a3.keep c0 (BC hDl_0)
  refine AM (BK (AK (endM_rm rfl a3 (fun f9 d1=>?_))))
  have f0:=e9.keepB d1 (by repeat (assumption))
  have a1:=a1.keep d1 (BC a6.1)
  refine ⟨_,resc rfl rfl U5_ rfl rfl a1 rfl,?_⟩
  exact ⟨_,rfl,f0.keep,rfl⟩
 exact hi.elim
open Go.Fw Go.RowKit
set_option maxHeartbeats 4000000 in
set_option maxRecDepth 100000 in
theorem c_times {O:List Nat} (l_v:Value) (l:List UInt8) (a:UInt8) (b:UInt8) (w:World) (a2:BB Enc.u8 w O l_v l) (hpre0:l.length<1000000) (hO:∀ b∈O,b<w.heap.size):CE Try.prog 111 [l_v,vB a,vB b] w (fun v w'=>∃ (x0:Value),v=x0∧BB Enc.u8 w' (O) x0 (RY l a b)):= by
 have g6:=a2.len_le
 have a2:BB Enc.u8 w ([]++O) l_v l:=a2
 have s0:St w O w []:=St.start hO
 refine BI 50 Try.func111 rfl rfl oT (fun F0=>AF (AB kR (AA (AD (nS) rfl (AG (AC (AF (AB kR (AA (AE (l_v) rfl (AA (CA U23_ rfl a2 (AA (DC .i64 (l.length:Int) (1:Int) (((l.length+1:Nat):Int)) rfl rfl (FQ oM oM) (AA (RE (E:=Enc.u8) U23_ RI [vB (0:UInt8)] rfl rfl (by decide) (0:UInt8) (fun _ _=>rfl) .i64 .i64 ((l.length+1:Nat):Int) ((l.length+1:Nat):Int) (l.length+1) (l.length+1) rfl rfl rfl rfl oM oM (by simp only [maxLen];omega) s0 fun b2 c1 g9 d6 b5 d7 d8 h0 c5=>(?_)))))))))))))))))
 have c6:∀ b,b2.ownBlock=some b→b∈(c1 :: []):=fun b hb=>by rw [b5] at hb;cases hb;simp
 clear d6 b5
 have a2:=a2.mv d8
 refine AA (AD (b2) rfl (AG (AC (AF (AF (AB kR (AA (AD (vI 0) rfl (AG (AC (BA (CX (fun mI FI wI=>∃ (k:Nat) (a0:Value) (B:List Nat),k≤l.length∧mI=l.length - k∧(∃ F1,FI=FR F1 [(0,l_v),(1,vB a),(2,vB b),(7,a0),(8,vI ((k:Nat):Int)),(50,undef)])∧St w O wI B∧ED Enc.u8 5 w.heap.size (B++O) wI a0 (OK l a b k)∧(∀ b,a0.ownBlock=some b→b∈B)∧BB Enc.u8 wI (B++O) (l_v) (l)) (l.length - (0)) ?_ ?_))))))))))))
 ·exact ⟨(0),b2,(c1 :: []),oM,rfl,⟨_,AP _ ⟨rfl,rfl,rfl,rfl,(by rfl),rfl,trivial⟩⟩,d7,(by rw [show OK l a b (0)=List.replicate (l.length+1) (0:UInt8) from rfl];exact c5),c6,a2⟩
 intro i6 F a7 hI
 clear a2
 obtain ⟨k,a0,a1,hr0_0,i7,⟨i8,rfl⟩,b6,ho0_7,b0,a2⟩:=hI
 refine AF (AF (AB kR (AA (AE (vI ((k:Nat):Int)) rfl (AA (AE (l_v) rfl (AA (CA U23_ rfl a2 (AA (DO .i64 ((k:Nat):Int) (l.length:Int) rfl rfl (AG (AC (AJ (decide (((k:Nat):Int)<(l.length:Int))) rfl rfl (fun b1=>?_) (fun b1=>?_))))))))))))))
 ·have g7:((k:Nat):Int)<(l.length:Int):=by simpa using b1
  refine AO (AC (AF (BA (AF (cw_draw' 13 _ _ [DZ a0,DZ (vI ((k:Nat):Int)),DZ a0,DZ (vI ((k:Nat):Int)),fun (vT:Value) (wT:World)=>∃ bT,vT = .pointer (some ⟨bT,k*1,none⟩)∧a0.ownBlock=some bT,DZ (vB ((OK l a b k)[k]!)),fun (vT:Value) (wT:World)=>BB Enc.u8 wT (a1++O) vT (l),DZ (vI ((k:Nat):Int)),fun (vT:Value) (wT:World)=>∃ aT,vT = .pointer (some aT)∧PT Enc.u8 wT (a1++O) (.pointer (some aT)) (l[k]!),DZ (vB (l[k]!)),DZ (vB a),DZ (vB (CO (l[k]!) a)),DZ (vB (((OK l a b k)[k]!) ^^^ (CO (l[k]!) a)))] kR kR kR kR rfl rfl ⟨kI,kI,kI,kI,fun _ _ _ h _=>h,kI,fun _ _ _ h k=>h.mv (Mv.of_keep k),kI,fun _ _ _ ⟨a,e,h⟩ k=>⟨a,e,h.mv (Mv.of_keep k)⟩,kI,kI,kI,kI,trivial⟩ ⟨?_,?_,?_,?_,?_,?_,?_,?_,?_,?_,?_,?_,?_,trivial⟩ ?_)))))
  ·intro F1 w1 k1 hf hd
   obtain ⟨F2,rfl⟩:=AL (F:=F1) [(7,a0)] ⟨hf 7 kR,trivial⟩
   exact AH rfl ((AE (a0) rfl (⟨(Keep.refl _ _),rfl⟩)))
  ·intro F1 w1 k1 hf hd
   obtain ⟨F2,rfl⟩:=AL (F:=F1) [(8,vI ((k:Nat):Int))] ⟨hf 8 kR,trivial⟩
   exact AH rfl ((AE (vI ((k:Nat):Int)) rfl (⟨(Keep.refl _ _),rfl⟩)))
  ·intro F1 w1 k1 hf hd
   obtain ⟨F2,rfl⟩:=AL (F:=F1) [(7,a0)] ⟨hf 7 kR,trivial⟩
   exact AH rfl ((AE (a0) rfl (⟨(Keep.refl _ _),rfl⟩)))
  ·intro F1 w1 k1 hf hd
   obtain ⟨F2,rfl⟩:=AL (F:=F1) [(8,vI ((k:Nat):Int))] ⟨hf 8 kR,trivial⟩
   exact AH rfl ((AE (vI ((k:Nat):Int)) rfl (⟨(Keep.refl _ _),rfl⟩)))
  ·intro F1 w1 k1 hf hd
   have k0:=(Keep.drew [] a7).trans k1
   have m1:Mv a1 a7 a1 w1:=Mv.of_keep k0
   have ho0_7:=ho0_7.mv m1 k0 (by simp)
   obtain ⟨F2,rfl⟩:=AL (F:=F1) [(21,a0),(22,vI ((k:Nat):Int))] ⟨hd 2 21 kR,hd 3 22 kR,trivial⟩
   exact AH rfl ((EF U23_ GK .i64 ((k:Nat):Int) k rfl rfl rfl ho0_7 (by (simp only [List.length_set,List.length_append,List.length_cons,List.length_nil,List.length_replicate,JV];omega)) fun h1 c7=>(⟨(Keep.refl _ _),⟨_,rfl,c7⟩⟩)))
  ·intro F1 w1 k1 hf hd
   have k0:=(Keep.drew [] a7).trans k1
   have m1:Mv a1 a7 a1 w1:=Mv.of_keep k0
   have ho0_7:=ho0_7.mv m1 k0 (by simp)
   obtain ⟨d9,e0,c8⟩:∃ b,F1 23 = .pointer (some ⟨b,k*1,none⟩)∧a0.ownBlock=some b:=hd 4 23 kR
   obtain ⟨F2,rfl⟩:=AL (F:=F1) [(23,vP (some ⟨d9,k*1,none⟩))] ⟨e0,trivial⟩
   exact AH rfl ((JW U5_ rfl rfl ho0_7 c8 (by (simp only [List.length_set,List.length_append,List.length_cons,List.length_nil,List.length_replicate,JV];omega)) (⟨(Keep.refl _ _),rfl⟩)))
  ·intro F1 w1 k1 hf hd
   have k0:=(Keep.drew [] a7).trans k1
   have m1:Mv a1 a7 a1 w1:=Mv.of_keep k0
   have a2:=a2.mv m1
   obtain ⟨F2,rfl⟩:=AL (F:=F1) [(0,l_v)] ⟨hf 0 kR,trivial⟩
   exact AH rfl ((AE (l_v) rfl (⟨(Keep.refl _ _),a2⟩)))
  ·intro F1 w1 k1 hf hd
   obtain ⟨F2,rfl⟩:=AL (F:=F1) [(8,vI ((k:Nat):Int))] ⟨hf 8 kR,trivial⟩
   exact AH rfl ((AE (vI ((k:Nat):Int)) rfl (⟨(Keep.refl _ _),rfl⟩)))
  ·intro F1 w1 k1 hf hd
   obtain ⟨e1,e2,b7⟩:∃ v,F1 25=v∧BB Enc.u8 w1 (a1++O) v (l):=⟨_,rfl,hd 6 25 kR⟩
   have:=b7.len_le
   obtain ⟨F2,rfl⟩:=AL (F:=F1) [(25,e1),(26,vI ((k:Nat):Int))] ⟨e2,hd 7 26 kR,trivial⟩
   exact AH rfl ((CP U23_ GK .i64 ((k:Nat):Int) k rfl rfl rfl b7 oM fun e3 c9=>(⟨(Keep.refl _ _),⟨e3,rfl,c9⟩⟩)))
  ·intro F1 w1 k1 hf hd
   obtain ⟨e4,e5,d0⟩:∃ aX_,F1 27 = .pointer (some aX_)∧PT Enc.u8 w1 (a1++O) (.pointer (some aX_)) (l[k]!):=hd 8 27 kR
   obtain ⟨F2,rfl⟩:=AL (F:=F1) [(27,vP (some e4))] ⟨e5,trivial⟩
   exact AH rfl ((EM U5_ rfl rfl d0 (⟨(Keep.refl _ _),rfl⟩)))
  ·intro F1 w1 k1 hf hd
   obtain ⟨F2,rfl⟩:=AL (F:=F1) [(1,vB a)] ⟨hf 1 kR,trivial⟩
   exact AH rfl ((AE (vB a) rfl (⟨(Keep.refl _ _),rfl⟩)))
  ·intro F1 w1 k1 hf hd
   have k0:=(Keep.drew [] a7).trans k1
   have s1:=b6.call k0
   obtain ⟨F2,rfl⟩:=AL (F:=F1) [(28,vB (l[k]!)),(29,vB a)] ⟨hd 9 28 kR,hd 10 29 kR,trivial⟩
   refine AH rfl ((AZ (vs:=[vB (l[k]!),vB a]) KH (LW (O:=a1++O) (l[k]!) a w1 s1.lt) rfl s1 fun h2 h3 h4 h5 e6 e7=>(?_)))
   obtain rfl:=e7
   exact ⟨e6,rfl⟩
  ·intro F1 w1 k1 hf hd
   obtain ⟨F2,rfl⟩:=AL (F:=F1) [(24,vB ((OK l a b k)[k]!)),(30,vB (CO (l[k]!) a))] ⟨hd 5 24 kR,hd 11 30 kR,trivial⟩
   exact AH rfl ((JT ((OK l a b k)[k]!) (CO (l[k]!) a) rfl rfl (⟨(Keep.refl _ _),rfl⟩)))
  intro e8 e9 b3 a8 a4
  have f0:=b6.call b3
  have c2:Mv a1 a7 a1 e9:=Mv.of_keep b3
  have a2:=a2.mv c2
  have ho0_7:=ho0_7.mv c2 b3 (by simp)
  obtain ⟨F2,rfl⟩:=AL (F:=e8) [(0,l_v),(1,vB a),(2,vB b),(7,a0),(8,vI ((k:Nat):Int)),(50,undef),(19,a0),(20,vI ((k:Nat):Int)),(31,vB (((OK l a b k)[k]!) ^^^ (CO (l[k]!) a)))] ⟨a4 0 kR,a4 1 kR,a4 2 kR,a4 7 kR,a4 8 kR,a4 50 kR,a8 0 19 kR (by decide),a8 1 20 kR (by decide),a8 12 31 kR (by decide),trivial⟩
  clear a8 a4
  refine AA (EF U23_ GK .i64 ((k:Nat):Int) k rfl rfl rfl ho0_7 (by (simp only [List.length_set,List.length_append,List.length_cons,List.length_nil,List.length_replicate,JV];omega)) fun h6 b8=>(CB (IS (((OK l a b k)[k]!) ^^^ (CO (l[k]!) a)) GK rfl rfl rfl ho0_7 b8 (b0 _ b8) (by (simp only [List.length_set,List.length_append,List.length_cons,List.length_nil,List.length_replicate,JV];omega)) rfl f0 fun a6 c3 f1 h7 a3=>(?_))))
  have a2:=a2.mv f1
  refine AG (AC (cw_draw' 15 _ _ [DZ a0,DZ (vI ((k:Nat):Int)),DZ (vI ((k+1:Nat):Int)),DZ a0,DZ (vI ((k:Nat):Int)),DZ (vI ((k+1:Nat):Int)),fun (vT:Value) (wT:World)=>∃ bT,vT = .pointer (some ⟨bT,(k+1)*1,none⟩)∧a0.ownBlock=some bT,DZ (vB (((OK l a b k).set k (((OK l a b k)[k]!) ^^^ (CO (l[k]!) a)))[k+1]!)),fun (vT:Value) (wT:World)=>BB Enc.u8 wT (a1++O) vT (l),DZ (vI ((k:Nat):Int)),fun (vT:Value) (wT:World)=>∃ aT,vT = .pointer (some aT)∧PT Enc.u8 wT (a1++O) (.pointer (some aT)) (l[k]!),DZ (vB (l[k]!)),DZ (vB b),DZ (vB (CO (l[k]!) b)),DZ (vB ((((OK l a b k).set k (((OK l a b k)[k]!) ^^^ (CO (l[k]!) a)))[k+1]!) ^^^ (CO (l[k]!) b)))] kR kR kR kR rfl rfl ⟨kI,kI,kI,kI,kI,kI,fun _ _ _ h _=>h,kI,fun _ _ _ h k=>h.mv (Mv.of_keep k),kI,fun _ _ _ ⟨a,e,h⟩ k=>⟨a,e,h.mv (Mv.of_keep k)⟩,kI,kI,kI,kI,trivial⟩ ⟨?_,?_,?_,?_,?_,?_,?_,?_,?_,?_,?_,?_,?_,?_,?_,trivial⟩ ?_))
  ·intro F1 w1 k1 hf hd
   obtain ⟨F2,rfl⟩:=AL (F:=F1) [(7,a0)] ⟨hf 7 kR,trivial⟩
   exact AH rfl ((AE (a0) rfl (⟨(Keep.refl _ _),rfl⟩)))
  ·intro F1 w1 k1 hf hd
   obtain ⟨F2,rfl⟩:=AL (F:=F1) [(8,vI ((k:Nat):Int))] ⟨hf 8 kR,trivial⟩
   exact AH rfl ((AE (vI ((k:Nat):Int)) rfl (⟨(Keep.refl _ _),rfl⟩)))
  ·intro F1 w1 k1 hf hd
   obtain ⟨F2,rfl⟩:=AL (F:=F1) [(34,vI ((k:Nat):Int))] ⟨hd 1 34 kR,trivial⟩
   exact AH rfl ((DC .i64 ((k:Nat):Int) (1:Int) (((k+1:Nat):Int)) rfl rfl (FQ oM oM) (⟨(Keep.refl _ _),rfl⟩)))
  ·intro F1 w1 k1 hf hd
   obtain ⟨F2,rfl⟩:=AL (F:=F1) [(7,a0)] ⟨hf 7 kR,trivial⟩
   exact AH rfl ((AE (a0) rfl (⟨(Keep.refl _ _),rfl⟩)))
  ·intro F1 w1 k1 hf hd
   obtain ⟨F2,rfl⟩:=AL (F:=F1) [(8,vI ((k:Nat):Int))] ⟨hf 8 kR,trivial⟩
   exact AH rfl ((AE (vI ((k:Nat):Int)) rfl (⟨(Keep.refl _ _),rfl⟩)))
  ·intro F1 w1 k1 hf hd
   obtain ⟨F2,rfl⟩:=AL (F:=F1) [(37,vI ((k:Nat):Int))] ⟨hd 4 37 kR,trivial⟩
   exact AH rfl ((DC .i64 ((k:Nat):Int) (1:Int) (((k+1:Nat):Int)) rfl rfl (FQ oM oM) (⟨(Keep.refl _ _),rfl⟩)))
  ·intro F1 w1 k1 hf hd
   have k0:=(Keep.drew [] a6).trans k1
   have m1:Mv a1 a6 a1 w1:=Mv.of_keep k0
   have a3:=a3.mv m1 k0 (by simp)
   obtain ⟨F2,rfl⟩:=AL (F:=F1) [(36,a0),(38,vI ((k+1:Nat):Int))] ⟨hd 3 36 kR,hd 5 38 kR,trivial⟩
   exact AH rfl ((EF U23_ GK .i64 ((k+1:Nat):Int) (k+1) rfl rfl rfl a3 (by (simp only [List.length_set,List.length_append,List.length_cons,List.length_nil,List.length_replicate,JV];omega)) fun h8 d1=>(⟨(Keep.refl _ _),⟨_,rfl,d1⟩⟩)))
  ·intro F1 w1 k1 hf hd
   have k0:=(Keep.drew [] a6).trans k1
   have m1:Mv a1 a6 a1 w1:=Mv.of_keep k0
   have a3:=a3.mv m1 k0 (by simp)
   obtain ⟨f2,f3,d2⟩:∃ b,F1 39 = .pointer (some ⟨b,(k+1)*1,none⟩)∧a0.ownBlock=some b:=hd 6 39 kR
   obtain ⟨F2,rfl⟩:=AL (F:=F1) [(39,vP (some ⟨f2,(k+1)*1,none⟩))] ⟨f3,trivial⟩
   exact AH rfl ((JW U5_ rfl rfl a3 d2 (by (simp only [List.length_set,List.length_append,List.length_cons,List.length_nil,List.length_replicate,JV];omega)) (⟨(Keep.refl _ _),rfl⟩)))
  ·intro F1 w1 k1 hf hd
   have k0:=(Keep.drew [] a6).trans k1
   have m1:Mv a1 a6 a1 w1:=Mv.of_keep k0
   have a2:=a2.mv m1
   obtain ⟨F2,rfl⟩:=AL (F:=F1) [(0,l_v)] ⟨hf 0 kR,trivial⟩
   exact AH rfl ((AE (l_v) rfl (⟨(Keep.refl _ _),a2⟩)))
  ·intro F1 w1 k1 hf hd
   obtain ⟨F2,rfl⟩:=AL (F:=F1) [(8,vI ((k:Nat):Int))] ⟨hf 8 kR,trivial⟩
   exact AH rfl ((AE (vI ((k:Nat):Int)) rfl (⟨(Keep.refl _ _),rfl⟩)))
  ·intro F1 w1 k1 hf hd
   obtain ⟨f4,f5,b9⟩:∃ v,F1 41=v∧BB Enc.u8 w1 (a1++O) v (l):=⟨_,rfl,hd 8 41 kR⟩
   have:=b9.len_le
   obtain ⟨F2,rfl⟩:=AL (F:=F1) [(41,f4),(42,vI ((k:Nat):Int))] ⟨f5,hd 9 42 kR,trivial⟩
   exact AH rfl ((CP U23_ GK .i64 ((k:Nat):Int) k rfl rfl rfl b9 oM fun f6 d3=>(⟨(Keep.refl _ _),⟨f6,rfl,d3⟩⟩)))
  ·intro F1 w1 k1 hf hd
   obtain ⟨f7,f8,d4⟩:∃ aX_,F1 43 = .pointer (some aX_)∧PT Enc.u8 w1 (a1++O) (.pointer (some aX_)) (l[k]!):=hd 10 43 kR
   obtain ⟨F2,rfl⟩:=AL (F:=F1) [(43,vP (some f7))] ⟨f8,trivial⟩
   exact AH rfl ((EM U5_ rfl rfl d4 (⟨(Keep.refl _ _),rfl⟩)))
  ·intro F1 w1 k1 hf hd
   obtain ⟨F2,rfl⟩:=AL (F:=F1) [(2,vB b)] ⟨hf 2 kR,trivial⟩
   exact AH rfl ((AE (vB b) rfl (⟨(Keep.refl _ _),rfl⟩)))
  ·intro F1 w1 k1 hf hd
   have k0:=(Keep.drew [] a6).trans k1
   have s1:=c3.call k0
   obtain ⟨F2,rfl⟩:=AL (F:=F1) [(44,vB (l[k]!)),(45,vB b)] ⟨hd 11 44 kR,hd 12 45 kR,trivial⟩
   refine AH rfl ((AZ (vs:=[vB (l[k]!),vB b]) KH (LW (O:=a1++O) (l[k]!) b w1 s1.lt) rfl s1 fun h9 i0 i1 i2 f9 g0=>(?_)))
   obtain rfl:=g0
   exact ⟨f9,rfl⟩
  ·intro F1 w1 k1 hf hd
   obtain ⟨F2,rfl⟩:=AL (F:=F1) [(40,vB (((OK l a b k).set k (((OK l a b k)[k]!) ^^^ (CO (l[k]!) a)))[k+1]!)),(46,vB (CO (l[k]!) b))] ⟨hd 7 40 kR,hd 13 46 kR,trivial⟩
   exact AH rfl ((JT (((OK l a b k).set k (((OK l a b k)[k]!) ^^^ (CO (l[k]!) a)))[k+1]!) (CO (l[k]!) b) rfl rfl (⟨(Keep.refl _ _),rfl⟩)))
  intro g1 g2 b4 a9 a5
  have g3:=c3.call b4
  have c4:Mv a1 a6 a1 g2:=Mv.of_keep b4
  have a2:=a2.mv c4
  have a3:=a3.mv c4 b4 (by simp)
  obtain ⟨F2,rfl⟩:=AL (F:=g1) [(0,l_v),(1,vB a),(2,vB b),(7,a0),(8,vI ((k:Nat):Int)),(50,undef),(33,a0),(35,vI ((k+1:Nat):Int)),(47,vB ((((OK l a b k).set k (((OK l a b k)[k]!) ^^^ (CO (l[k]!) a)))[k+1]!) ^^^ (CO (l[k]!) b)))] ⟨a5 0 kR,a5 1 kR,a5 2 kR,a5 7 kR,a5 8 kR,a5 50 kR,a9 0 33 kR (by decide),a9 2 35 kR (by decide),a9 14 47 kR (by decide),trivial⟩
  clear a9 a5
  refine AA (EF U23_ GK .i64 ((k+1:Nat):Int) (k+1) rfl rfl rfl a3 (by (simp only [List.length_set,List.length_append,List.length_cons,List.length_nil,List.length_replicate,JV];omega)) fun i3 c0=>(CB (IS ((((OK l a b k).set k (((OK l a b k)[k]!) ^^^ (CO (l[k]!) a)))[k+1]!) ^^^ (CO (l[k]!) b)) GK rfl rfl rfl a3 c0 (b0 _ c0) (by (simp only [List.length_set,List.length_append,List.length_cons,List.length_nil,List.length_replicate,JV];omega)) rfl g3 fun i4 g4 g5 i5 d5=>(?_))))
  have a2:=a2.mv g5
  refine AG (BZ (AC (AB kR (AA (AE (vI ((k:Nat):Int)) rfl (AA (DC .i64 ((k:Nat):Int) (1:Int) (((k+1:Nat):Int)) rfl rfl (FQ oM oM) (AA (AD (vI ((k+1:Nat):Int)) rfl (AG (AC (?_))))))))))))
  exact ⟨_,oM,(k+1),a0,a1,oM,rfl,⟨_,AP _ ⟨rfl,rfl,rfl,rfl,(by rfl),rfl,trivial⟩⟩,g4,(by rw [show OK l a b (k+1)=((OK l a b k).set k (((OK l a b k)[k]!) ^^^ (CO (l[k]!) a))).set (k+1) ((((OK l a b k).set k (((OK l a b k)[k]!) ^^^ (CO (l[k]!) a)))[k+1]!) ^^^ (CO (l[k]!) b)) from rfl];exact d5),b0,a2⟩
 have g8:(l.length:Int)≤((k:Nat):Int):=by simpa using b1
 obtain rfl:k=l.length:=by omega
 refine CV (BL (BL (CL (AC (AF (AB kR (AA (AE (a0) rfl (AA (AD (a0) rfl (AG (AC (AM (AS rfl (CN rfl rfl rfl) (?_)))))))))))))))
 have e:(RY l a b)=(OK l a b l.length):=rfl
 exact ⟨_,rfl,b6.keep,by rw [e];exact ⟨a0,rfl,ho0_7.pub b6⟩⟩
set_option maxHeartbeats 4000000 in
set_option maxRecDepth 100000 in
theorem c_refCoeff {O:List Nat} (xs_v:Value) (xs:List UInt8) (ys_v:Value) (ys:List UInt8) (w:World) (a0:BB Enc.u8 w O xs_v xs) (a1:BB Enc.u8 w O ys_v ys) (hpre0:xs.length<1000000) (hO:∀ b∈O,b<w.heap.size):CE Try.prog 101 [xs_v,ys_v] w (fun v w'=>∃ (x0:Value),v = .tuple #[x0,vI ((FO xs ys).2)]∧BB Enc.u8 w' (O) x0 ((FO xs ys).1)):= by
 have g8:=a0.len_le
 have a0:BB Enc.u8 w ([]++O) xs_v xs:=a0
 have g9:=a1.len_le
 have a1:BB Enc.u8 w ([]++O) ys_v ys:=a1
 have s0:St w O w []:=St.start hO
 refine BI 77 Try.func101 rfl rfl oT (fun F0=>AF (AB kR (AA (AD (nS) rfl (AA (AD (vI 0) rfl (AG (AC (AF (AF (AB kR (AA (AE (xs_v) rfl (AA (AE (ys_v) rfl (AA (AZ (vs:=[xs_v,ys_v]) enter_109 (c_refPoints (O:=[]++O) xs_v xs ys_v ys w a0 a1 s0.lt) rfl s0 fun i3 i4 c9 d0 i5 f1=>(?_))))))))))))))))))
 obtain rfl:=f1
 have a0:=a0.mv d0
 have a1:=a1.mv d0
 refine AA (HP (EW xs ys) rfl (AG (AC (AJ (!(EW xs ys)) rfl rfl (fun a8=>?_) (fun a8=>?_)))))
 ·have h3:(EW xs ys)=false:=by simpa using a8
  refine AF (AB kR (AA (AD (nS) rfl (AA (AD (vI 1) rfl (AG (AC (AM (AK (AS rfl (EA rfl rfl rfl rfl) (?_)))))))))))
  have e:(FO xs ys)=([],(1:Int)):=by simp [FO, *]
  exact ⟨_,rfl,c9.keep,by rw [e];exact ⟨.slice none 0 0,rfl,BB.nil _ _ _⟩⟩
 have h4:(EW xs ys)=true:=by simpa using a8
 have hxy:=XB (by simpa using a8)
 refine AO (AC (AF (AB kR (AA (AE (xs_v) rfl (AA (CA U23_ rfl a0 (AA (RE (E:=Enc.u8) U23_ RI [vB (0:UInt8)] rfl rfl (by decide) (0:UInt8) (fun _ _=>rfl) .i64 .i64 (xs.length:Int) (xs.length:Int) xs.length xs.length rfl rfl rfl rfl oM oM (by simp only [maxLen];omega) c9 fun b8 d1 i6 f2 c4 f3 d2 i7 e1=>(?_))))))))))
 have e2:∀ b,b8.ownBlock=some b→b∈(d1 :: []):=fun b hb=>by rw [c4] at hb;cases hb;simp
 clear f2 c4
 have a0:=a0.mv d2
 have a1:=a1.mv d2
 refine AA (AD (b8) rfl (AG (AC (AF (AF (AB kR (AA (AD (vI 0) rfl (AG (AC (BA (CX (fun mI FI wI=>∃ (i:Nat) (a3:Value) (B:List Nat),i≤xs.length∧mI=xs.length - i∧(∃ F1,FI=FR F1 [(0,xs_v),(1,ys_v),(6,a3),(7,vI ((i:Nat):Int)),(77,undef)])∧St w O wI B∧ED Enc.u8 5 w.heap.size (B++O) wI a3 (GG xs ys i)∧(∀ b,a3.ownBlock=some b→b∈B)∧BB Enc.u8 wI (B++O) (xs_v) (xs)∧BB Enc.u8 wI (B++O) (ys_v) (ys)) (xs.length - (0)) ?_ ?_))))))))))))
 ·exact ⟨(0),b8,(d1 :: []),oM,rfl,⟨_,AP _ ⟨rfl,rfl,rfl,(by rfl),rfl,trivial⟩⟩,f3,(by rw [show GG xs ys (0)=List.replicate xs.length (0:UInt8) from rfl];exact e1),e2,a0,a1⟩
 intro k1 F k2 hI
 clear a0 a1
 obtain ⟨i,a3,h0,hr0_0,k3,⟨k4,rfl⟩,d3,ho0_6,a6,a0,a1⟩:=hI
 refine AF (AF (AB kR (AA (AE (vI ((i:Nat):Int)) rfl (AA (AE (xs_v) rfl (AA (CA U23_ rfl a0 (AA (DO .i64 ((i:Nat):Int) (xs.length:Int) rfl rfl (AG (AC (AJ (decide (((i:Nat):Int)<(xs.length:Int))) rfl rfl (fun a9=>?_) (fun a9=>?_))))))))))))))
 ·have h5:((i:Nat):Int)<(xs.length:Int):=by simpa using a9
  refine AO (AC (AF (BA (AF (AB kR (AA (AE (ys_v) rfl (AA (AE (vI ((i:Nat):Int)) rfl (AA (CP U23_ GK .i64 ((i:Nat):Int) i rfl rfl rfl a1 oM fun i8 e3=>(AA (EM U5_ rfl rfl e3 (AA (GZ (E:=Enc.u8) (xs:=[.tmp 28]) U23_ GK VF (by decide) [vB (ys[i]!)] [[vB (ys[i]!)]] [ys[i]!] rfl rfl rfl (Parts.cons rfl rfl (Parts.nil _ _ _)) oT d3 fun d4 i9 f4 b9 f5 c5=>(?_))))))))))))))))
  have a0:=a0.mv b9
  have a1:=a1.mv b9
  have ho0_6:=ho0_6.mv b9 f5 (by simp)
  have:=c5.len_le
  refine AA (AD (d4) rfl (AG (AC (AF (AF (AB kR (AA (AD (vI 0) rfl (AG (AC (BA (CX (fun mI FI wI=>∃ (k:Nat) (a4:Value) (B:List Nat),k≤xs.length∧mI=xs.length - k∧(∃ F1,FI=FR F1 [(0,xs_v),(1,ys_v),(6,a3),(7,vI ((i:Nat):Int)),(8,a4),(9,vI ((k:Nat):Int)),(77,undef)])∧St w O wI B∧BB Enc.u8 wI (B++O) a4 (DQ xs ys i k)∧BB Enc.u8 wI (B++O) (xs_v) (xs)∧BB Enc.u8 wI (B++O) (ys_v) (ys)∧ED Enc.u8 5 w.heap.size (B++O) wI a3 (GG xs ys i)∧(∀ b,a3.ownBlock=some b→b∈B)) (xs.length - (0)) ?_ ?_))))))))))))
  ·exact ⟨(0),d4,h0,oM,rfl,⟨_,AP _ ⟨rfl,rfl,rfl,rfl,rfl,(by rfl),rfl,trivial⟩⟩,f4,(by rw [show DQ xs ys i (0)=[ys[i]!] from rfl];exact c5),a0,a1,ho0_6,a6⟩
  intro k5 F h1 hI
  clear a0 a1 ho0_6 a6
  obtain ⟨k,a4,a7,hr1_0,k6,⟨k7,rfl⟩,d5,a2,a0,a1,ho0_6,a6⟩:=hI
  have:=a2.len_le
  refine AF (AF (AB kR (AA (AE (vI ((k:Nat):Int)) rfl (AA (AE (xs_v) rfl (AA (CA U23_ rfl a0 (AA (DO .i64 ((k:Nat):Int) (xs.length:Int) rfl rfl (AG (AC (AJ (decide (((k:Nat):Int)<(xs.length:Int))) rfl rfl (fun b0=>?_) (fun b0=>?_))))))))))))))
  ·have h6:((k:Nat):Int)<(xs.length:Int):=by simpa using b0
   refine AO (AC (AF (BA (AF (AB kR (AA (AE (vI ((k:Nat):Int)) rfl (AA (AE (vI ((i:Nat):Int)) rfl (AA (CT .i64 ((k:Nat):Int) ((i:Nat):Int) rfl rfl (AG (AC (AJ (((k:Nat):Int) != ((i:Nat):Int)) rfl rfl (fun b1=>?_) (fun b1=>?_)))))))))))))))
   ·have h7:((k:Nat):Int)≠((i:Nat):Int):=by simpa using b1
    refine AF (FJ 9 _ _ kR kR kR kR kR rfl rfl fun d6 c0=>?_)
    have d7:=d5.call c0
    have b2:Mv a7 h1 a7 d6:=Mv.of_keep c0
    have a0:=a0.mv b2
    have a1:=a1.mv b2
    have ho0_6:=ho0_6.mv b2 c0 (by simp)
    have a2:=a2.mv b2
    refine BM (AE (xs_v) rfl (BM (AE (vI ((i:Nat):Int)) rfl (BM (CP U23_ GK .i64 ((i:Nat):Int) i rfl rfl rfl a0 oM fun j0 e4=>(BM (EM U5_ rfl rfl e4 (BM (AE (xs_v) rfl (BM (AE (vI ((k:Nat):Int)) rfl (BM (CP U23_ GK .i64 ((k:Nat):Int) k rfl rfl rfl a0 oM fun j1 e5=>(BM (EM U5_ rfl rfl e5 (BM (JT (xs[i]!) (xs[k]!) rfl rfl (EQ (AA (AZ (vs:=[vB (1:UInt8),vB ((xs[i]!) ^^^ (xs[k]!))]) enter_110 (c_refOver (O:=a7++O) (1:UInt8) ((xs[i]!) ^^^ (xs[k]!)) d6 d7.lt) rfl d7 fun j2 f6 d8 b3 f7 f8=>(?_)))))))))))))))))))))
    obtain rfl:=f8
    have a0:=a0.mv b3
    have a1:=a1.mv b3
    have ho0_6:=ho0_6.mv b3 f7 (by simp)
    have a2:=a2.mv b3
    refine AA (AD (vB (EY (1:UInt8) ((xs[i]!) ^^^ (xs[k]!)))) rfl (AG (AC (AB kR (AA (AE (a4) rfl (AA (AE (vB (EY (1:UInt8) ((xs[i]!) ^^^ (xs[k]!)))) rfl (AA (AE (xs_v) rfl (AA (AE (vI ((k:Nat):Int)) rfl (AA (CP U23_ GK .i64 ((k:Nat):Int) k rfl rfl rfl a0 oM fun j3 e6=>(AA (EM U5_ rfl rfl e6 (AA (AZ (vs:=[vB (EY (1:UInt8) ((xs[i]!) ^^^ (xs[k]!))),vB (xs[k]!)]) KH (LW (O:=a7++O) (EY (1:UInt8) ((xs[i]!) ^^^ (xs[k]!))) (xs[k]!) f6 d8.lt) rfl d8 fun j4 f9 d9 b4 g0 g1=>(?_)))))))))))))))))))
    obtain rfl:=g1
    have a0:=a0.mv b4
    have a1:=a1.mv b4
    have ho0_6:=ho0_6.mv b4 g0 (by simp)
    have a2:=a2.mv b4
    refine AA (AE (vB (EY (1:UInt8) ((xs[i]!) ^^^ (xs[k]!)))) rfl (AA (AZ (vs:=[a4,vB (CO (EY (1:UInt8) ((xs[i]!) ^^^ (xs[k]!))) (xs[k]!)),vB (EY (1:UInt8) ((xs[i]!) ^^^ (xs[k]!)))]) enter_111 (c_times (O:=a7++O) a4 (DQ xs ys i k) (CO (EY (1:UInt8) ((xs[i]!) ^^^ (xs[k]!))) (xs[k]!)) (EY (1:UInt8) ((xs[i]!) ^^^ (xs[k]!))) f9 a2 (by rw [NO];split <;> omega) d9.lt) rfl d9 fun e0 j5 g2 c1 g3 g4=>(?_))))
    obtain ⟨_,rfl,c6⟩:=g4
    have:=c6.len_le
    have a0:=a0.mv c1
    have a1:=a1.mv c1
    have ho0_6:=ho0_6.mv c1 g3 (by simp)
    refine AA (AD (e0) rfl (AG (BZ (AC (AB kR (AA (AE (vI ((k:Nat):Int)) rfl (AA (DC .i64 ((k:Nat):Int) (1:Int) (((k+1:Nat):Int)) rfl rfl (FQ oM oM) (AA (AD (vI ((k+1:Nat):Int)) rfl (AG (AC (?_))))))))))))))
    exact ⟨_,oM,(k+1),e0,a7,oM,rfl,⟨_,AP _ ⟨rfl,rfl,rfl,rfl,rfl,(by rfl),rfl,trivial⟩⟩,g2,(by rw [show DQ xs ys i (k+1)=RY (DQ xs ys i k) (CO (EY (1:UInt8) ((xs[i]!) ^^^ (xs[k]!))) (xs[k]!)) (EY (1:UInt8) ((xs[i]!) ^^^ (xs[k]!))) from by exact refOne_yes aS];exact c6),a0,a1,ho0_6,a6⟩
   have h8:((k:Nat):Int)=((i:Nat):Int):=by simpa using b1
   refine AO (BZ (AC (AB kR (AA (AE (vI ((k:Nat):Int)) rfl (AA (DC .i64 ((k:Nat):Int) (1:Int) (((k+1:Nat):Int)) rfl rfl (FQ oM oM) (AA (AD (vI ((k+1:Nat):Int)) rfl (AG (AC (?_))))))))))))
   exact ⟨_,oM,(k+1),a4,a7,oM,rfl,⟨_,AP _ ⟨rfl,rfl,rfl,rfl,rfl,(by rfl),rfl,trivial⟩⟩,d5,(by rw [show DQ xs ys i (k+1)=DQ xs ys i k from by exact refOne_no aS];exact a2),a0,a1,ho0_6,a6⟩
  have h9:(xs.length:Int)≤((k:Nat):Int):=by simpa using b0
  obtain rfl:k=xs.length:=by omega
  refine CV (BL (BL (CL (AC (AF (AB kR (AA (AD (vI 0) rfl (AG (AC (BA (?_))))))))))))
  have hone:(DQ xs ys i xs.length).length=xs.length:=by rw [NO];simp;omega
  refine CX (fun mI FI wI=>∃ (j:Nat) (a5:Value) (B:List Nat),j≤(DQ xs ys i xs.length).length∧mI=(DQ xs ys i xs.length).length - j∧(∃ F1,FI=FR F1 [(0,xs_v),(1,ys_v),(6,a5),(7,vI ((i:Nat):Int)),(8,a4),(11,vI ((j:Nat):Int)),(77,undef)])∧St w O wI B∧ED Enc.u8 5 w.heap.size (B++O) wI a5 (PM (GG xs ys i) (DQ xs ys i xs.length) j)∧(∀ b,a5.ownBlock=some b→b∈B)∧BB Enc.u8 wI (B++O) (xs_v) (xs)∧BB Enc.u8 wI (B++O) (ys_v) (ys)∧BB Enc.u8 wI (B++O) (a4) (DQ xs ys i xs.length)) ((DQ xs ys i xs.length).length - (0)) ?_ ?_
  ·exact ⟨(0),a3,a7,oM,rfl,⟨_,AP _ ⟨rfl,rfl,rfl,rfl,rfl,(by rfl),rfl,trivial⟩⟩,d5,(by rw [show PM (GG xs ys i) (DQ xs ys i xs.length) (0)=GG xs ys i from rfl];exact ho0_6),a6,a0,a1,a2⟩
  intro k8 F h2 hI
  clear a0 a1 a2
  obtain ⟨j,a5,c7,hr2_0,k9,⟨l0,rfl⟩,f0,ho2_6,b5,a0,a1,a2⟩:=hI
  refine AF (AF (AB kR (AA (AE (vI ((j:Nat):Int)) rfl (AA (AE (a4) rfl (AA (CA U23_ rfl a2 (AA (DO .i64 ((j:Nat):Int) ((DQ xs ys i xs.length).length:Int) rfl rfl (AG (AC (AJ (decide (((j:Nat):Int)<((DQ xs ys i xs.length).length:Int))) rfl rfl (fun b6=>?_) (fun b6=>?_))))))))))))))
  ·have i0:((j:Nat):Int)<((DQ xs ys i xs.length).length:Int):=by simpa using b6
   refine AO (AC (AF (BA (FJ 12 _ _ kR kR kR kR kR rfl rfl fun g5 c2=>?_))))
   have g6:=f0.call c2
   have b7:Mv c7 h2 c7 g5:=Mv.of_keep c2
   have a0:=a0.mv b7
   have a1:=a1.mv b7
   have ho2_6:=ho2_6.mv b7 c2 (by simp)
   have a2:=a2.mv b7
   refine BM (AE (a5) rfl (BM (AE (vI ((j:Nat):Int)) rfl (BM (AE (a5) rfl (BM (AE (vI ((j:Nat):Int)) rfl (BM (EF U23_ GK .i64 ((j:Nat):Int) j rfl rfl rfl ho2_6 (by (simp only [List.length_set,List.length_append,List.length_cons,List.length_nil,List.length_replicate,LS,JD];omega)) fun j6 e7=>(BM (JW U5_ rfl rfl ho2_6 e7 (by (simp only [List.length_set,List.length_append,List.length_cons,List.length_nil,List.length_replicate,LS,JD];omega)) (BM (AE (a4) rfl (BM (AE (vI ((j:Nat):Int)) rfl (BM (CP U23_ GK .i64 ((j:Nat):Int) j rfl rfl rfl a2 oM fun j7 e8=>(BM (EM U5_ rfl rfl e8 (BM (JT ((PM (GG xs ys i) (DQ xs ys i xs.length) j)[j]!) ((DQ xs ys i xs.length)[j]!) rfl rfl (BM (EF U23_ GK .i64 ((j:Nat):Int) j rfl rfl rfl ho2_6 (by (simp only [List.length_set,List.length_append,List.length_cons,List.length_nil,List.length_replicate,LS,JD];omega)) fun j8 c8=>(EQ (CB (IS (((PM (GG xs ys i) (DQ xs ys i xs.length) j)[j]!) ^^^ ((DQ xs ys i xs.length)[j]!)) GK rfl rfl rfl ho2_6 c8 (b5 _ c8) (by (simp only [List.length_set,List.length_append,List.length_cons,List.length_nil,List.length_replicate,LS,JD];omega)) rfl g6 fun j9 g7 c3 k0 e9=>(?_)))))))))))))))))))))))))))
   have a0:=a0.mv c3
   have a1:=a1.mv c3
   have a2:=a2.mv c3
   refine AG (BZ (AC (AB kR (AA (AE (vI ((j:Nat):Int)) rfl (AA (DC .i64 ((j:Nat):Int) (1:Int) (((j+1:Nat):Int)) rfl rfl (FQ oM oM) (AA (AD (vI ((j+1:Nat):Int)) rfl (AG (AC (?_))))))))))))
   exact ⟨_,oM,(j+1),a5,c7,oM,rfl,⟨_,AP _ ⟨rfl,rfl,rfl,rfl,rfl,(by rfl),rfl,trivial⟩⟩,g7,(by rw [show PM (GG xs ys i) (DQ xs ys i xs.length) (j+1)=(PM (GG xs ys i) (DQ xs ys i xs.length) j).set j (((PM (GG xs ys i) (DQ xs ys i xs.length) j)[j]!) ^^^ ((DQ xs ys i xs.length)[j]!)) from rfl];exact e9),b5,a0,a1,a2⟩
  have i1:((DQ xs ys i xs.length).length:Int)≤((j:Nat):Int):=by simpa using b6
  obtain rfl:j=(DQ xs ys i xs.length).length:=by omega
  refine CV (BL (BL (CL (BZ (AC (AB kR (AA (AE (vI ((i:Nat):Int)) rfl (AA (DC .i64 ((i:Nat):Int) (1:Int) (((i+1:Nat):Int)) rfl rfl (FQ oM oM) (AA (AD (vI ((i+1:Nat):Int)) rfl (AG (AC (?_)))))))))))))))
  exact ⟨_,oM,(i+1),a5,c7,oM,rfl,⟨_,AP _ ⟨rfl,rfl,rfl,(by rfl),rfl,trivial⟩⟩,f0,(by rw [show GG xs ys (i+1)=PM (GG xs ys i) (DQ xs ys i xs.length) ((DQ xs ys i xs.length).length) from rfl];exact ho2_6),b5,a0,a1⟩
 have i2:(xs.length:Int)≤((i:Nat):Int):=by simpa using a9
 obtain rfl:i=xs.length:=by omega
 refine CV (BL (BL (CL (AC (AF (AB kR (AA (AE (a3) rfl (AA (AD (a3) rfl (AA (AD (vI 0) rfl (AG (AC (AM (AS rfl (EA rfl rfl rfl rfl) (?_)))))))))))))))))
 have e:(FO xs ys)=(GG xs ys xs.length,(0:Int)):=by simp [FO, *]
 exact ⟨_,rfl,d3.keep,by rw [e];exact ⟨a3,rfl,ho0_6.pub d3⟩⟩
set_option maxHeartbeats 4000000 in
set_option maxRecDepth 100000 in
theorem c_wrong {O:List Nat} (xs_v:Value) (xs:List UInt8) (ys_v:Value) (ys:List UInt8) (w:World) (a0:BB Enc.u8 w O xs_v xs) (a2:BB Enc.u8 w O ys_v ys) (hO:∀ b∈O,b<w.heap.size):CE Try.prog 91 [xs_v,ys_v] w (fun v _=>v = .bool (FY xs ys)):= by
 have c9:=a0.len_le
 have a0:BB Enc.u8 w ([]++O) xs_v xs:=a0
 have d0:=a2.len_le
 have a2:BB Enc.u8 w ([]++O) ys_v ys:=a2
 have s0:St w O w []:=St.start hO
 refine BI 26 Try.func91 rfl rfl oT (fun F0=>AF (AB kR (AA (AD (vO false) rfl (AG (AC (AF (AB kR (AA (XG s0 fun a4 d8 b8 b9 b0 d9 a5=>(?_)))))))))))
 clear b8
 have a0:=a0.mv b0
 have a2:=a2.mv b0
 refine AA (DE [.map none] z_132 rfl b9 fun a3 e0 c0 c1 b1 c2 b5=>(?_))
 have a9:GV a4 a3:=by show a4≠a3;have:=a5.lt;omega
 clear c0
 have a0:=a0.mv b1
 have a2:=a2.mv b1
 have a5:=a5.keep c2 (by simp)
 refine CB (CI (Value.map (some a4)) rfl rfl rfl s_132 (by repeat (constructor)) b5 oT c1 fun e1 b2 b3 c3 a1=>(?_))
 have a0:=a0.mv b3
 have a2:=a2.mv b3
 have a5:=a5.keep c3 (BC a9)
 refine AG (AC (AF (AB kR (AA (DP (first:=[]) (captured:=[.tmp 5]) [] [vP (some ⟨a3,0,none⟩)] rfl rfl (AA (AD (vN (.func 107) #[] #[vP (some ⟨a3,0,none⟩)]) rfl (AG (AC (AF (AF (AB kR (AA (AE (xs_v) rfl (AA (CA U23_ rfl a0 (AA (AE (ys_v) rfl (AA (CA U23_ rfl a2 (AA (CT .i64 (xs.length:Int) (ys.length:Int) rfl rfl (AG (AC (AJ ((xs.length:Int) != (ys.length:Int)) rfl rfl (fun a6=>?_) (fun a6=>?_))))))))))))))))))))))))))
 ·have d2:(xs.length:Int)≠(ys.length:Int):=by simpa using a6
  refine AF (AB kR (AA (AD (vO true) rfl (AG (AC (AM (AK (AS rfl (CN rfl rfl rfl) (?_)))))))))
  have e:(FY xs ys)=true:=by simp [FY, *]
  exact ⟨_,rfl,b2.keep,(by exact congrArg vO e.symm)⟩
 have d3:(xs.length:Int)=(ys.length:Int):=by simpa using a6
 refine AO (AC (AF (AF (AB kR (AA (AE (xs_v) rfl (AA (CA U23_ rfl a0 (AA (AE (vI 0) rfl (AG (AC (BA (CX (fun mI FI wI=>∃ (k:Nat) (B:List Nat),k≤xs.length∧twice xs xs.length=EX (fun k=>if (xs.take k).contains xs[k]! then some true else none) false k (xs.length - k)∧mI=xs.length - k∧(∃ F1,FI=FR F1 [(6,vN (.func 107) #[] #[vP (some ⟨a3,0,none⟩)]),(16,xs_v),(17,vI (xs.length:Int)),(18,vI ((k:Nat):Int)),(26,undef)])∧St w O wI B∧BB Enc.u8 wI (B++O) (xs_v) (xs)∧WV wI a4 (xs.take k)∧a4∈B∧IB wI a3 132 [Value.map (some a4)]∧a3∈B) (xs.length - (0)) ?_ ?_))))))))))))))
 ·exact ⟨(0),(a3 :: (a4 :: [])),oM,rfl,rfl,⟨_,AP _ ⟨rfl,rfl,rfl,(by rfl),rfl,trivial⟩⟩,b2,a0,(by rw [show xs.take (0)=[] from rfl];exact a5),(by (repeat (first|exact List.mem_cons_self|apply List.mem_cons_of_mem))),a1,(by (repeat (exact List.mem_cons_self)))⟩
 intro e5 F e6 hI
 clear a0 a1
 obtain ⟨k,d1,hr0_0,hr0_1,e7,⟨e8,rfl⟩,b4,a0,hbx_0_b369,c4,a1,c5⟩:=hI
 refine AF (AB kR (AA (DO .i64 ((k:Nat):Int) (xs.length:Int) rfl rfl (AG (AC (AF (AJ (decide (((k:Nat):Int)<(xs.length:Int))) rfl rfl (fun a7=>?_) (fun a7=>?_))))))))
 ·have d4:((k:Nat):Int)<(xs.length:Int):=by simpa using a7
  refine AO (AC (AF (BA (AF (AB kR (AA (CP U23_ GK .i64 ((k:Nat):Int) k rfl rfl rfl a0 oM fun e2 b6=>(AA (EM U5_ rfl rfl b6 (AA (AD (vB (xs[k]!)) rfl (AG (AC (AF (AB kR (AA (AE (vN (.func 107) #[] #[vP (some ⟨a3,0,none⟩)]) rfl (AA (AE (vB (xs[k]!)) rfl (AA (o_callv [] [vP (some ⟨a3,0,none⟩)] [vB (xs[k]!)] _ enter_107 rfl rfl (CG 9 Try.func107 rfl rfl oT (fun e3=>AF (AB kR (AA (AD (vO false) rfl (AG (AC (AF (AF (AB kR (AA (AW U132_ rfl (Value.map (some a4)) rfl a1 rfl (AA (AE (vB (xs[k]!)) rfl (AA (o_lookupB U132_ U5_ z_4 rfl rfl hbx_0_b369 (AG (AC (AJ ((xs.take k).contains (xs[k]!)) rfl rfl (fun a8=>?_) (fun a8=>?_)))))))))))))))))))) (fun _ _ h=>h))))))))))))))))))))))
  ·have d5:((xs.take k).contains (xs[k]!))=true:=by simpa using a8
   refine AF (AB kR (AA (AD (vO true) rfl (AG (AC (AM (AK (AS rfl (CN rfl rfl rfl) (Exists.intro _ (And.intro rfl (AG (AC (AJ true rfl rfl (fun _=>AF (AB kR (AA (AD (vO true) rfl (AG (AC (AM (BK (AK (AK (BK (AK (AS rfl (CN rfl rfl rfl) (?_)))))))))))))) (fun h=>by cases h))))))))))))))
   have e:(FY xs ys)=true:=by simp only [FY];rw [if_neg (by simpa using by assumption),hr0_1];exact DB oM (by simp_all)
   exact ⟨_,rfl,b4.keep,(by exact congrArg vO e.symm)⟩
  have d6:((xs.take k).contains (xs[k]!))=false:=by simpa using a8
  refine AO (AC (AF (AB kR (AA (AW U132_ rfl (Value.map (some a4)) rfl a1 rfl (AA (AE (vB (xs[k]!)) rfl (CB (o_updateB U132_ U5_ rfl rfl rfl aS hbx_0_b369 (by repeat (assumption)) b4 fun e4 c6 c7 c8 b7=>(?_))))))))))
  have a0:=a0.mv c7
  have a1:=a1.keep c8 (BC (Ne.symm a9))
  refine AG (AC (AF (AB kR (AA (AD (vO false) rfl (AG (AC (AM (AS rfl (CN rfl rfl rfl) (Exists.intro _ (And.intro rfl (AG (AC (AJ false rfl rfl (fun h=>by cases h) (fun _=>AO (BZ (AC (AB kR (AA (DC .i64 ((k:Nat):Int) (1:Int) (((k+1:Nat):Int)) rfl rfl (FQ oM oM) (AA (AE (vI ((k+1:Nat):Int)) rfl (AG (AC (?_)))))))))))))))))))))))))
  exact ⟨_,oM,(k+1),d1,oM,(hr0_1.trans (FF oM (by simp_all))),rfl,⟨_,AP _ ⟨rfl,rfl,rfl,(by rfl),rfl,trivial⟩⟩,c6,a0,(by rw [show xs.take (k+1)=(xs.take k)++[xs[k]!] from XX oM];exact b7),aS,a1,aS⟩
 have d7:(xs.length:Int)≤((k:Nat):Int):=by simpa using a7
 refine CV (BL (BL (CL (AC (AF (AB kR (AA (AD (vO false) rfl (AG (AC (AM (AS rfl (CN rfl rfl rfl) (?_)))))))))))))
 have e:(FY xs ys)=false:=by simp only [FY];rw [if_neg (by simpa using by assumption),hr0_1];exact GR oM
 exact ⟨_,rfl,b4.keep,(by exact congrArg vO e.symm)⟩
set_option maxHeartbeats 4000000 in
set_option maxRecDepth 100000 in
theorem c_zeros {O:List Nat} (xs_v:Value) (xs:List UInt8) (w:World) (a0:BB Enc.u8 w O xs_v xs) (hpre0:xs.length<1000000) (hO:∀ b∈O,b<w.heap.size):CE Try.prog 92 [xs_v] w (fun v w'=>∃ (x0:Value),v=x0∧BB Enc.u8 w' (O) x0 (BD xs)):= by
 have f4:=a0.len_le
 have a0:BB Enc.u8 w ([]++O) xs_v xs:=a0
 have s0:St w O w []:=St.start hO
 refine BI 53 Try.func92 rfl rfl oT (fun F0=>AF (AB kR (AA (AD (nS) rfl (AG (AC (AF (AB kR (AA (AE (xs_v) rfl (AA (CA U23_ rfl a0 (AA (DC .i64 (xs.length:Int) (1:Int) (((xs.length+1:Nat):Int)) rfl rfl (FQ oM oM) (AA (RE (E:=Enc.u8) U23_ RI [vB (0:UInt8)] rfl rfl (by decide) (0:UInt8) (fun _ _=>rfl) .i64 .i64 (1:Int) ((xs.length+1:Nat):Int) 1 (xs.length+1) rfl rfl rfl rfl oM oM (by simp only [maxLen];omega) s0 fun a6 c0 g4 d5 b2 d6 d7 g5 b3=>(?_)))))))))))))))))
 have b4:∀ b,a6.ownBlock=some b→b∈(c0 :: []):=fun b hb=>by rw [b2] at hb;cases hb;simp
 clear d5 b2
 have a0:=a0.mv d7
 refine AA (AD (a6) rfl (AG (AC (AF (AB kR (AA (AE (a6) rfl (AA (EF U23_ GK .i64 (0:Int) 0 rfl rfl rfl b3 (by (simp only [List.length_set,List.length_append,List.length_cons,List.length_nil,List.length_replicate,HL,FT];omega)) fun g6 b5=>(CB (IS (1:UInt8) GK rfl rfl rfl b3 b5 (b4 _ b5) (by (simp only [List.length_set,List.length_append,List.length_cons,List.length_nil,List.length_replicate,HL,FT];omega)) rfl d6 fun g7 d8 d9 g8 c7=>(?_))))))))))))
 have a0:=a0.mv d9
 refine AG (AC (AF (AF (AB kR (AA (AE (xs_v) rfl (AA (CA U23_ rfl a0 (AA (AE (vI 0) rfl (AG (AC (BA (CX (fun mI FI wI=>∃ (i:Nat) (a3:Value) (B:List Nat),i≤xs.length∧mI=xs.length - i∧(∃ F1,FI=FR F1 [(3,a3),(13,xs_v),(14,vI (xs.length:Int)),(15,vI ((i:Nat):Int)),(53,undef)])∧St w O wI B∧ED Enc.u8 5 w.heap.size (B++O) wI a3 (JG xs i)∧(∀ b,a3.ownBlock=some b→b∈B)∧BB Enc.u8 wI (B++O) (xs_v) (xs)) (xs.length - (0)) ?_ ?_))))))))))))))
 ·exact ⟨(0),a6,(c0 :: []),oM,rfl,⟨_,AP _ ⟨rfl,rfl,rfl,(by rfl),rfl,trivial⟩⟩,d8,(by rw [show JG xs (0)=(List.replicate 1 (0:UInt8)).set 0 (1:UInt8) from rfl];exact c7),b4,a0⟩
 intro i4 F i5 hI
 clear a0
 obtain ⟨i,a3,i6,hr0_0,i7,⟨i8,rfl⟩,c1,ho0_3,c8,a0⟩:=hI
 refine AF (AB kR (AA (DO .i64 ((i:Nat):Int) (xs.length:Int) rfl rfl (AG (AC (AF (AJ (decide (((i:Nat):Int)<(xs.length:Int))) rfl rfl (fun a7=>?_) (fun a7=>?_))))))))
 ·have f7:((i:Nat):Int)<(xs.length:Int):=by simpa using a7
  refine AO (AC (AF (BA (AF (AB kR (AA (CP U23_ GK .i64 ((i:Nat):Int) i rfl rfl rfl a0 oM fun g9 c9=>(AA (EM U5_ rfl rfl c9 (AA (AD (vB (xs[i]!)) rfl (AG (AC (AF (AB kR (AA (AE (a3) rfl (AA (GZ (E:=Enc.u8) (xs:=[.const (vB (0:UInt8))]) U23_ GK VF (by decide) [vB (0:UInt8)] [[vB (0:UInt8)]] [(0:UInt8)] rfl rfl rfl (Parts.cons rfl rfl (Parts.nil _ _ _)) oT c1 fun h0 h1 e0 c2 e1 b6=>(?_))))))))))))))))))))
  have ho0_3:=ho0_3.mv c2 e1 (by simp)
  have a0:=a0.mv c2
  have:=b6.len_le
  refine AA (CY (E:=Enc.u8) (l:=JG xs i) (m:=[(0:UInt8)]) U23_ RI rfl (by decide) rfl rfl ho0_3 b6 (fun _ hb=>.inl hb) c8 (by simp [FT];omega) (by simp [FT,maxLen];omega) e0 fun b0 h2 e2 d0 f8 f5 e3 e4 h3 b7=>(?_))
  have a0:=a0.mv e4
  refine AA (AD (b0) rfl (AG (AC (AF (AB kR (AA (AE (b0) rfl (AA (SO U23_ rfl b7 (AA (IA .i64 (((JG xs i)++([(0:UInt8)])).length:Int) (1:Int) (((i+1:Nat):Int)) rfl rfl (FQ oM (by simp [FT])) (AA (AD (vI ((i+1:Nat):Int)) rfl (AG (AC (BA (?_)))))))))))))))))
  have hzl:(JG xs i++[0]).length=i+2:=by simp [FT]
  refine CX (fun mI FI wI=>∃ (k:Nat) (a1:Value) (B:List Nat),k≤i+2∧mI=k∧(∃ F1,FI=FR F1 [(3,a1),(5,vB (xs[i]!)),(6,vI ((k:Int) - 1)),(13,xs_v),(14,vI (xs.length:Int)),(15,vI ((i:Nat):Int)),(53,undef)])∧St w O wI B∧ED Enc.u8 5 w.heap.size (B++O) wI a1 (LT (JG xs i++[0]) xs[i]! (i+2 - k))∧(∀ b,a1.ownBlock=some b→b∈B)∧BB Enc.u8 wI (B++O) (xs_v) (xs)) ((i+2)) ?_ ?_
  ·exact ⟨(i+2),b0,e2,oM,rfl,⟨_,AP _ ⟨rfl,rfl,(by exact congrArg (Value.int _) oM),rfl,rfl,rfl,rfl,trivial⟩⟩,e3,(by rw [show LT (JG xs i++[0]) xs[i]! (i+2 - (i+2))=(JG xs i)++([(0:UInt8)]) from by rw [Nat.sub_self];rfl];exact b7),d0,a0⟩
  intro i9 F f6 hI
  clear a0
  obtain ⟨k,a1,a5,hr1_0,j0,⟨j1,rfl⟩,c3,ho1_3,a4,a0⟩:=hI
  refine AF (AF (AB kR (AA (AE (vI ((k:Int) - 1)) rfl (AA (KR .i64 ((k:Int) - 1) (0:Int) rfl rfl (AG (AC (AJ (decide ((0:Int)≤(k:Int) - 1)) rfl rfl (fun a8=>?_) (fun a8=>?_))))))))))
  ·have f9:(0:Int)≤(k:Int) - 1:=by simpa using a8
   obtain ⟨q,rfl⟩:∃ q,k=q+1:=⟨k - 1,by omega⟩
   rw [show ((q+1:Nat):Int) - 1=((q:Nat):Int) from by omega]
   refine AO (AC (AF (BA (AF (AB kR (AA (AE (a1) rfl (AA (AE (vI ((q:Nat):Int)) rfl (AA (AE (a1) rfl (AA (AE (vI ((q:Nat):Int)) rfl (AA (EF U23_ GK .i64 ((q:Nat):Int) q rfl rfl rfl ho1_3 (by (simp only [List.length_set,List.length_append,List.length_cons,List.length_nil,List.length_replicate,HL,FT];omega)) fun h4 d1=>(AA (JW U5_ rfl rfl ho1_3 d1 (by (simp only [List.length_set,List.length_append,List.length_cons,List.length_nil,List.length_replicate,HL,FT];omega)) (AA (AE (vB (xs[i]!)) rfl (AA (AZ (vs:=[vB ((LT (JG xs i++[0]) xs[i]! (i+2 - (q+1)))[q]!),vB (xs[i]!)]) NF (YI (O:=a5++O) ((LT (JG xs i++[0]) xs[i]! (i+2 - (q+1)))[q]!) (xs[i]!) f6 c3.lt) rfl c3 fun h5 h6 e5 c4 e6 e7=>(?_))))))))))))))))))))))
   obtain rfl:=e7
   have ho1_3:=ho1_3.mv c4 e6 (by simp)
   have a0:=a0.mv c4
   refine AA (EF U23_ GK .i64 ((q:Nat):Int) q rfl rfl rfl ho1_3 (by (simp only [List.length_set,List.length_append,List.length_cons,List.length_nil,List.length_replicate,HL,FT];omega)) fun h7 b8=>(CB (IS (BQ ((LT (JG xs i++[0]) xs[i]! (i+2 - (q+1)))[q]!) (xs[i]!)) GK rfl rfl rfl ho1_3 b8 (a4 _ b8) (by (simp only [List.length_set,List.length_append,List.length_cons,List.length_nil,List.length_replicate,HL,FT];omega)) rfl e5 fun e8 c5 e9 h8 a2=>(?_))))
   have a0:=a0.mv e9
   refine AG (AC (AF (AB kR (AA (AE (vI ((q:Nat):Int)) rfl (AA (GQ .i64 ((q:Nat):Int) (0:Int) rfl rfl (AG (AC (AJ (decide ((0:Int)<((q:Nat):Int))) rfl rfl (fun a9=>?_) (fun a9=>?_)))))))))))
   ·have g0:(0:Int)<((q:Nat):Int):=by simpa using a9
    refine FJ 11 _ _ kR kR kR kR kR rfl rfl fun f0 b1=>?_
    have f1:=c5.call b1
    have c6:Mv a5 e8 a5 f0:=Mv.of_keep b1
    have a2:=a2.mv c6 b1 (by simp)
    have a0:=a0.mv c6
    refine BM (AE (a1) rfl (BM (AE (vI ((q:Nat):Int)) rfl (BM (EF U23_ GK .i64 ((q:Nat):Int) q rfl rfl rfl a2 (by (simp only [List.length_set,List.length_append,List.length_cons,List.length_nil,List.length_replicate,HL,FT];omega)) fun h9 d2=>(BM (JW U5_ rfl rfl a2 d2 (by (simp only [List.length_set,List.length_append,List.length_cons,List.length_nil,List.length_replicate,HL,FT];omega)) (BM (AE (a1) rfl (BM (AE (vI ((q:Nat):Int)) rfl (BM (IA .i64 ((q:Nat):Int) (1:Int) (((q - 1:Nat):Int)) rfl rfl (FQ oM oM) (BM (EF U23_ GK .i64 ((q - 1:Nat):Int) (q - 1) rfl rfl rfl a2 (by (simp only [List.length_set,List.length_append,List.length_cons,List.length_nil,List.length_replicate,HL,FT];omega)) fun i0 d3=>(BM (JW U5_ rfl rfl a2 d3 (by (simp only [List.length_set,List.length_append,List.length_cons,List.length_nil,List.length_replicate,HL,FT];omega)) (BM (JT (((LT (JG xs i++[0]) xs[i]! (i+2 - (q+1))).set q (BQ ((LT (JG xs i++[0]) xs[i]! (i+2 - (q+1)))[q]!) (xs[i]!)))[q]!) (((LT (JG xs i++[0]) xs[i]! (i+2 - (q+1))).set q (BQ ((LT (JG xs i++[0]) xs[i]! (i+2 - (q+1)))[q]!) (xs[i]!)))[q - 1]!) rfl rfl (BM (EF U23_ GK .i64 ((q:Nat):Int) q rfl rfl rfl a2 (by (simp only [List.length_set,List.length_append,List.length_cons,List.length_nil,List.length_replicate,HL,FT];omega)) fun i1 b9=>(EQ (CB (IS ((((LT (JG xs i++[0]) xs[i]! (i+2 - (q+1))).set q (BQ ((LT (JG xs i++[0]) xs[i]! (i+2 - (q+1)))[q]!) (xs[i]!)))[q]!) ^^^ (((LT (JG xs i++[0]) xs[i]! (i+2 - (q+1))).set q (BQ ((LT (JG xs i++[0]) xs[i]! (i+2 - (q+1)))[q]!) (xs[i]!)))[q - 1]!)) GK rfl rfl rfl a2 b9 (a4 _ b9) (by (simp only [List.length_set,List.length_append,List.length_cons,List.length_nil,List.length_replicate,HL,FT];omega)) rfl f1 fun i2 f2 f3 i3 d4=>(?_)))))))))))))))))))))))))
    have a0:=a0.mv f3
    refine AG (BZ (AC (AB kR (AA (AE (vI ((q:Nat):Int)) rfl (AA (IA .i64 ((q:Nat):Int) (1:Int) (((q:Nat):Int) - (1:Int)) rfl rfl (FQ oM oM) (AA (AD (vI (((q:Nat):Int) - (1:Int))) rfl (AG (AC (?_))))))))))))
    exact ⟨_,oM,(q),a1,a5,oM,rfl,⟨_,AP _ ⟨rfl,rfl,(by rfl),rfl,rfl,rfl,rfl,trivial⟩⟩,f2,(by rw [show LT (JG xs i++[0]) xs[i]! (i+2 - (q))=((LT (JG xs i++[0]) xs[i]! (i+2 - (q+1))).set q (BQ ((LT (JG xs i++[0]) xs[i]! (i+2 - (q+1)))[q]!) (xs[i]!))).set q ((((LT (JG xs i++[0]) xs[i]! (i+2 - (q+1))).set q (BQ ((LT (JG xs i++[0]) xs[i]! (i+2 - (q+1)))[q]!) (xs[i]!)))[q]!) ^^^ (((LT (JG xs i++[0]) xs[i]! (i+2 - (q+1))).set q (BQ ((LT (JG xs i++[0]) xs[i]! (i+2 - (q+1)))[q]!) (xs[i]!)))[q - 1]!)) from by exact zrS_pos hzl.symm oM aS];exact d4),a4,a0⟩
   have g1:((q:Nat):Int)≤(0:Int):=by simpa using a9
   refine AO (BZ (AC (AB kR (AA (AE (vI ((q:Nat):Int)) rfl (AA (IA .i64 ((q:Nat):Int) (1:Int) (((q:Nat):Int) - (1:Int)) rfl rfl (FQ oM oM) (AA (AD (vI (((q:Nat):Int) - (1:Int))) rfl (AG (AC (?_))))))))))))
   exact ⟨_,oM,(q),a1,a5,oM,rfl,⟨_,AP _ ⟨rfl,rfl,(by rfl),rfl,rfl,rfl,rfl,trivial⟩⟩,c5,(by rw [show LT (JG xs i++[0]) xs[i]! (i+2 - (q))=(LT (JG xs i++[0]) xs[i]! (i+2 - (q+1))).set q (BQ ((LT (JG xs i++[0]) xs[i]! (i+2 - (q+1)))[q]!) (xs[i]!)) from by exact zrS_zero hzl.symm oM aS];exact a2),a4,a0⟩
  have g2:(k:Int) - 1<(0:Int):=by (have e:=a8;simp at e;omega)
  obtain rfl:k=0:=by omega
  refine CV (BL (BL (CL (BZ (AC (AB kR (AA (DC .i64 ((i:Nat):Int) (1:Int) (((i+1:Nat):Int)) rfl rfl (FQ oM oM) (AA (AE (vI ((i+1:Nat):Int)) rfl (AG (AC (?_)))))))))))))
  exact ⟨_,oM,(i+1),a1,a5,oM,rfl,⟨_,AP _ ⟨rfl,rfl,rfl,(by rfl),rfl,trivial⟩⟩,c3,(by rw [show JG xs (i+1)=LT (JG xs i++[0]) xs[i]! (i+2 - 0) from by rw [Nat.sub_zero,JG,hzl]];exact ho1_3),a4,a0⟩
 have g3:(xs.length:Int)≤((i:Nat):Int):=by simpa using a7
 obtain rfl:i=xs.length:=by omega
 refine CV (BL (BL (CL (AC (AF (AB kR (AA (AE (a3) rfl (AA (AD (a3) rfl (AG (AC (AM (AS rfl (CN rfl rfl rfl) (?_)))))))))))))))
 have e:(BD xs)=(JG xs xs.length):=rfl
 exact ⟨_,rfl,c1.keep,by rw [e];exact ⟨a3,rfl,ho0_3.pub c1⟩⟩
open Go.Fw Go.RowKit
set_option maxHeartbeats 4000000 in
set_option maxRecDepth 100000 in
theorem c_coeff {O:List Nat} (xs_v:Value) (xs:List UInt8) (ys_v:Value) (ys:List UInt8) (w:World) (a1:BB Enc.u8 w O xs_v xs) (a2:BB Enc.u8 w O ys_v ys) (hpre0:xs.length<1000000) (hO:∀ b∈O,b<w.heap.size):CE Try.prog 43 [xs_v,ys_v] w (fun v w'=>∃ (x0:Value),v = .tuple #[x0,vI ((EV xs ys).2)]∧BB Enc.u8 w' (O) x0 ((EV xs ys).1)):= by
 have l8:=a1.len_le
 have a1:BB Enc.u8 w ([]++O) xs_v xs:=a1
 have l9:=a2.len_le
 have a2:BB Enc.u8 w ([]++O) ys_v ys:=a2
 have s0:St w O w []:=St.start hO
 have hzl:=GD xs
 refine BI 81 Try.func43 rfl rfl oT (fun F0=>AF (AB kR (AA (AD (.slice none 0 0) rfl (AA (AD (vI 0) rfl (AG (AC (AF (AF (AB kR (AA (AE (xs_v) rfl (AA (AE (ys_v) rfl (AA (AZ (vs:=[xs_v,ys_v]) enter_91 (c_wrong (O:=[]++O) xs_v xs ys_v ys w a1 a2 s0.lt) rfl s0 fun n3 h2 e5 f1 n4 h3=>(?_))))))))))))))))))
 obtain rfl:=h3
 have a1:=a1.mv f1
 have a2:=a2.mv f1
 refine AG (AC (AJ (FY xs ys) rfl rfl (fun b9=>?_) (fun b9=>?_)))
 ·have m2:(FY xs ys)=true:=by simpa using b9
  refine AF (AB kR (AA (AD (.slice none 0 0) rfl (AA (AD (vI 1) rfl (AG (AC (AM (AK (AS rfl (EA rfl rfl rfl rfl) (?_)))))))))))
  have e:(EV xs ys)=([],(1:Int)):=by simp [EV, *]
  exact ⟨_,rfl,e5.keep,by rw [e];exact ⟨.slice none 0 0,rfl,BB.nil _ _ _⟩⟩
 have m3:(FY xs ys)=false:=by simpa using b9
 have hxy:=wrongM_len (by simpa using b9)
 refine AO (AC (AF (AB kR (AA (AE (xs_v) rfl (AA (CA U23_ rfl a1 (AA (AD (vI (xs.length:Int)) rfl (AG (AC (AF (AB kR (AA (AE (xs_v) rfl (AA (AZ (vs:=[xs_v]) enter_92 (c_zeros (O:=[]++O) xs_v xs h2 a1 oM e5.lt) rfl e5 fun b0 n5 h4 f2 n6 h5=>(?_))))))))))))))))))
 obtain ⟨_,rfl,a0⟩:=h5
 have:=a0.len_le
 have a1:=a1.mv f2
 have a2:=a2.mv f2
 refine AA (AD (b0) rfl (AG (AC (AF (AB kR (AA (AE (vI (xs.length:Int)) rfl (AA (RE (E:=Enc.u8) U23_ RI [vB (0:UInt8)] rfl rfl (by decide) (0:UInt8) (fun _ _=>rfl) .i64 .i64 (xs.length:Int) (xs.length:Int) xs.length xs.length rfl rfl rfl rfl oM oM (by simp only [maxLen];omega) h4 fun b8 c6 n7 h6 e8 h7 e6 n9 c0=>(?_))))))))))
 have c7:∀ b,b8.ownBlock=some b→b∈(c6 :: []):=fun b hb=>by rw [e8] at hb;cases hb;simp
 clear h6 e8
 have a1:=a1.mv e6
 have a2:=a2.mv e6
 have a0:=a0.mv e6
 refine AA (AD (b8) rfl (AG (AC (AF (AB kR (AA (AE (vI (xs.length:Int)) rfl (AA (RE (E:=Enc.u8) U23_ RI [vB (0:UInt8)] rfl rfl (by decide) (0:UInt8) (fun _ _=>rfl) .i64 .i64 (xs.length:Int) (xs.length:Int) xs.length xs.length rfl rfl rfl rfl oM oM (by simp only [maxLen];omega) h7 fun c1 e7 o0 h8 c8 h9 c9 i0 f8=>(?_))))))))))
 have d0:∀ b,b8.ownBlock=some b→c1.ownBlock≠some b:=fun b hb=>by have:=(c0.lt b hb).2;rw [c8];intro e;cases e;omega
 have ne515':∀ b,c1.ownBlock=some b→b8.ownBlock≠some b:=fun b hb e=>d0 b e hb
 have f9:∀ b,c1.ownBlock=some b→b∈(e7 :: (c6 :: [])):=fun b hb=>by rw [c8] at hb;cases hb;simp
 clear h8 c8
 have c7:∀ b,b8.ownBlock=some b→b∈(e7 :: (c6 :: [])):=fun b hb=>List.mem_cons_of_mem _ (c7 b hb)
 have a1:=a1.mv c9
 have a2:=a2.mv c9
 have c0:=c0.mv c9 i0 (by simp)
 have a0:=a0.mv c9
 refine AA (AD (c1) rfl (AG (AC (AF (AF (AB kR (AA (AE (xs_v) rfl (AA (CA U23_ rfl a1 (AA (AE (vI 0) rfl (AG (AC (BA (CX (fun mI FI wI=>∃ (i:Nat) (a4:Value) (b2:Value) (B:List Nat),i≤xs.length∧mI=xs.length - i∧(∃ F1,FI=FR F1 [(1,ys_v),(4,a4),(6,vI (xs.length:Int)),(7,b0),(8,b2),(26,xs_v),(27,vI (xs.length:Int)),(28,vI ((i:Nat):Int)),(81,undef)])∧St w O wI B∧ED Enc.u8 5 w.heap.size (B++O) wI a4 (QH (BD xs) xs ys xs.length i)∧(∀ b,a4.ownBlock=some b→b∈B)∧ED Enc.u8 5 w.heap.size (B++O) wI b2 (HQ (BD xs) xs xs.length i)∧(∀ b,b2.ownBlock=some b→b∈B)∧BB Enc.u8 wI (B++O) (ys_v) (ys)∧BB Enc.u8 wI (B++O) (b0) (BD xs)∧BB Enc.u8 wI (B++O) (xs_v) (xs)∧(∀ b,a4.ownBlock=some b→b2.ownBlock≠some b)∧(∀ b,b2.ownBlock=some b→a4.ownBlock≠some b)) (xs.length - (0)) ?_ ?_))))))))))))))))
 ·exact ⟨(0),b8,c1,(e7 :: (c6 :: [])),oM,rfl,⟨_,AP _ ⟨rfl,rfl,rfl,rfl,rfl,rfl,rfl,(by rfl),rfl,trivial⟩⟩,h9,(by rw [show QH (BD xs) xs ys xs.length (0)=List.replicate xs.length (0:UInt8) from rfl];exact c0),c7,(by rw [show HQ (BD xs) xs xs.length (0)=List.replicate xs.length (0:UInt8) from rfl];exact f8),f9,a2,a0,a1,d0,(fun b hb e=>d0 b e hb)⟩
 intro q6 F q7 hI
 clear a2 a0 a1
 obtain ⟨i,a4,b2,m0,hr0_0,q8,⟨q9,rfl⟩,f3,ho0_4,b6,ho0_8,g0,a2,a0,a1,nn0_4_8,nn0_8_4⟩:=hI
 refine AF (AB kR (AA (DO .i64 ((i:Nat):Int) (xs.length:Int) rfl rfl (AG (AC (AF (AJ (decide (((i:Nat):Int)<(xs.length:Int))) rfl rfl (fun d1=>?_) (fun d1=>?_))))))))
 ·have m4:((i:Nat):Int)<(xs.length:Int):=by simpa using d1
  refine AO (AC (AF (BA (AF (AB kR (AA (AE (vI ((i:Nat):Int)) rfl (AA (CP U23_ GK .i64 ((i:Nat):Int) i rfl rfl rfl a1 oM fun o1 g1=>(AA (EM U5_ rfl rfl g1 (AA (AD (vI ((i:Nat):Int)) rfl (AA (AD (vB (xs[i]!)) rfl (AG (AC (AF (AB kR (AA (AD (vB (0:UInt8)) rfl (AG (AC (AF (AF (AB kR (AA (AE (vI (xs.length:Int)) rfl (AA (IA .i64 (xs.length:Int) (1:Int) ((xs.length:Int) - (1:Int)) rfl rfl (FQ oM oM) (AA (AD (vI ((xs.length:Int) - (1:Int))) rfl (AG (AC (BA (CX (fun mI FI wI=>∃ (k:Nat) (a3:Value) (B:List Nat),k≤xs.length∧mI=k∧(∃ F1,FI=FR F1 [(1,ys_v),(4,a4),(6,vI (xs.length:Int)),(7,b0),(8,a3),(9,vI ((i:Nat):Int)),(10,vB (xs[i]!)),(11,vB (UN (BD xs) xs[i]! xs.length (xs.length - k))),(12,vI ((k:Int) - 1)),(26,xs_v),(27,vI (xs.length:Int)),(28,vI ((i:Nat):Int)),(81,undef)])∧St w O wI B∧ED Enc.u8 5 w.heap.size (B++O) wI a3 (IO (HQ (BD xs) xs xs.length i) (BD xs) xs[i]! xs.length (xs.length - k))∧(∀ b,a3.ownBlock=some b→b∈B)∧BB Enc.u8 wI (B++O) (ys_v) (ys)∧ED Enc.u8 5 w.heap.size (B++O) wI a4 (QH (BD xs) xs ys xs.length i)∧(∀ b,a4.ownBlock=some b→b∈B)∧BB Enc.u8 wI (B++O) (b0) (BD xs)∧BB Enc.u8 wI (B++O) (xs_v) (xs)∧(∀ b,a3.ownBlock=some b→a4.ownBlock≠some b)∧(∀ b,a4.ownBlock=some b→a3.ownBlock≠some b)) ((xs.length)) ?_ ?_))))))))))))))))))))))))))))))))))))
  ·exact ⟨(xs.length),b2,m0,oM,rfl,⟨_,AP _ ⟨rfl,rfl,rfl,rfl,rfl,rfl,rfl,(congrArg vB (by rw [Nat.sub_self];rfl)),(by rfl),rfl,rfl,rfl,rfl,trivial⟩⟩,f3,(by rw [show IO (HQ (BD xs) xs xs.length i) (BD xs) xs[i]! xs.length (xs.length - (xs.length))=HQ (BD xs) xs xs.length i from by rw [Nat.sub_self];rfl];exact ho0_8),g0,a2,ho0_4,b6,a0,a1,nn0_8_4,nn0_4_8⟩
  intro r0 F b4 hI
  clear a2 ho0_4 b6 a0 a1
  obtain ⟨k,a3,a7,hr1_0,r1,⟨r2,rfl⟩,e4,ho1_8,b3,a2,ho0_4,b6,a0,a1,no1_8_vo0_4,np1_8_vo0_4⟩:=hI
  refine AF (AF (AB kR (AA (AE (vI ((k:Int) - 1)) rfl (AA (KR .i64 ((k:Int) - 1) (0:Int) rfl rfl (AG (AC (AJ (decide ((0:Int)≤(k:Int) - 1)) rfl rfl (fun d2=>?_) (fun d2=>?_))))))))))
  ·have m5:(0:Int)≤(k:Int) - 1:=by simpa using d2
   obtain ⟨q,rfl⟩:∃ q,k=q+1:=⟨k - 1,by omega⟩
   rw [show ((q+1:Nat):Int) - 1=((q:Nat):Int) from by omega]
   refine AO (AC (AF (BA (AF (cw_draw' 8 _ _ [fun (vT:Value) (wT:World)=>BB Enc.u8 wT (a7++O) vT (BD xs),DZ (vI ((q:Nat):Int)),DZ (vI ((q+1:Nat):Int)),fun (vT:Value) (wT:World)=>∃ aT,vT = .pointer (some aT)∧PT Enc.u8 wT (a7++O) (.pointer (some aT)) ((BD xs)[q+1]!),DZ (vB ((BD xs)[q+1]!)),DZ (vB (UN (BD xs) xs[i]! xs.length (xs.length - (q+1)))),DZ (vB (xs[i]!)),DZ (vB (BQ (UN (BD xs) xs[i]! xs.length (xs.length - (q+1))) (xs[i]!)))] kR kR kR kR rfl rfl ⟨fun _ _ _ h k=>h.mv (Mv.of_keep k),kI,kI,fun _ _ _ ⟨a,e,h⟩ k=>⟨a,e,h.mv (Mv.of_keep k)⟩,kI,kI,kI,kI,trivial⟩ ⟨?_,?_,?_,?_,?_,?_,?_,?_,trivial⟩ ?_)))))
   ·intro F1 w1 k1 hf hd
    have k0:=(Keep.drew [] b4).trans k1
    have m1:Mv a7 b4 a7 w1:=Mv.of_keep k0
    have a0:=a0.mv m1
    obtain ⟨F2,rfl⟩:=AL (F:=F1) [(7,b0)] ⟨hf 7 kR,trivial⟩
    exact AH rfl ((AE (b0) rfl (⟨(Keep.refl _ _),a0⟩)))
   ·intro F1 w1 k1 hf hd
    obtain ⟨F2,rfl⟩:=AL (F:=F1) [(12,vI ((q:Nat):Int))] ⟨hf 12 kR,trivial⟩
    exact AH rfl ((AE (vI ((q:Nat):Int)) rfl (⟨(Keep.refl _ _),rfl⟩)))
   ·intro F1 w1 k1 hf hd
    obtain ⟨F2,rfl⟩:=AL (F:=F1) [(40,vI ((q:Nat):Int))] ⟨hd 1 40 kR,trivial⟩
    exact AH rfl ((DC .i64 ((q:Nat):Int) (1:Int) (((q+1:Nat):Int)) rfl rfl (FQ oM oM) (⟨(Keep.refl _ _),rfl⟩)))
   ·intro F1 w1 k1 hf hd
    obtain ⟨i1,i2,e9⟩:∃ v,F1 39=v∧BB Enc.u8 w1 (a7++O) v (BD xs):=⟨_,rfl,hd 0 39 kR⟩
    have:=e9.len_le
    obtain ⟨F2,rfl⟩:=AL (F:=F1) [(39,i1),(41,vI ((q+1:Nat):Int))] ⟨i2,hd 2 41 kR,trivial⟩
    exact AH rfl ((CP U23_ GK .i64 ((q+1:Nat):Int) (q+1) rfl rfl rfl e9 (by rw [GD];omega) fun i3 g2=>(⟨(Keep.refl _ _),⟨i3,rfl,g2⟩⟩)))
   ·intro F1 w1 k1 hf hd
    obtain ⟨i4,i5,g3⟩:∃ aX_,F1 42 = .pointer (some aX_)∧PT Enc.u8 w1 (a7++O) (.pointer (some aX_)) ((BD xs)[q+1]!):=hd 3 42 kR
    obtain ⟨F2,rfl⟩:=AL (F:=F1) [(42,vP (some i4))] ⟨i5,trivial⟩
    exact AH rfl ((EM U5_ rfl rfl g3 (⟨(Keep.refl _ _),rfl⟩)))
   ·intro F1 w1 k1 hf hd
    obtain ⟨F2,rfl⟩:=AL (F:=F1) [(11,vB (UN (BD xs) xs[i]! xs.length (xs.length - (q+1))))] ⟨hf 11 kR,trivial⟩
    exact AH rfl ((AE (vB (UN (BD xs) xs[i]! xs.length (xs.length - (q+1)))) rfl (⟨(Keep.refl _ _),rfl⟩)))
   ·intro F1 w1 k1 hf hd
    obtain ⟨F2,rfl⟩:=AL (F:=F1) [(10,vB (xs[i]!))] ⟨hf 10 kR,trivial⟩
    exact AH rfl ((AE (vB (xs[i]!)) rfl (⟨(Keep.refl _ _),rfl⟩)))
   ·intro F1 w1 k1 hf hd
    have k0:=(Keep.drew [] b4).trans k1
    have s1:=e4.call k0
    obtain ⟨F2,rfl⟩:=AL (F:=F1) [(44,vB (UN (BD xs) xs[i]! xs.length (xs.length - (q+1)))),(45,vB (xs[i]!))] ⟨hd 5 44 kR,hd 6 45 kR,trivial⟩
    refine AH rfl ((AZ (vs:=[vB (UN (BD xs) xs[i]! xs.length (xs.length - (q+1))),vB (xs[i]!)]) NF (YI (O:=a7++O) (UN (BD xs) xs[i]! xs.length (xs.length - (q+1))) (xs[i]!) w1 s1.lt) rfl s1 fun o2 o3 o4 o5 i6 i7=>(?_)))
    obtain rfl:=i7
    exact ⟨i6,rfl⟩
   intro i8 i9 d3 d4 a6
   have j0:=e4.call d3
   have c2:Mv a7 b4 a7 i9:=Mv.of_keep d3
   have a2:=a2.mv c2
   have ho0_4:=ho0_4.mv c2 d3 (by simp)
   have a0:=a0.mv c2
   have ho1_8:=ho1_8.mv c2 d3 (by simp)
   have a1:=a1.mv c2
   obtain ⟨F2,rfl⟩:=AL (F:=i8) [(1,ys_v),(4,a4),(6,vI (xs.length:Int)),(7,b0),(8,a3),(9,vI ((i:Nat):Int)),(10,vB (xs[i]!)),(11,vB (UN (BD xs) xs[i]! xs.length (xs.length - (q+1)))),(12,vI ((q:Nat):Int)),(26,xs_v),(27,vI (xs.length:Int)),(28,vI ((i:Nat):Int)),(81,undef),(43,vB ((BD xs)[q+1]!)),(46,vB (BQ (UN (BD xs) xs[i]! xs.length (xs.length - (q+1))) (xs[i]!)))] ⟨a6 1 kR,a6 4 kR,a6 6 kR,a6 7 kR,a6 8 kR,a6 9 kR,a6 10 kR,a6 11 kR,a6 12 kR,a6 26 kR,a6 27 kR,a6 28 kR,a6 81 kR,d4 4 43 kR (by decide),d4 7 46 kR (by decide),trivial⟩
   clear d4 a6
   refine AA (JT ((BD xs)[q+1]!) (BQ (UN (BD xs) xs[i]! xs.length (xs.length - (q+1))) (xs[i]!)) rfl rfl (AA (AD (vB (((BD xs)[q+1]!) ^^^ (BQ (UN (BD xs) xs[i]! xs.length (xs.length - (q+1))) (xs[i]!)))) rfl (AG (AC (AB kR (AA (AE (a3) rfl (AA (AE (vI ((q:Nat):Int)) rfl (AA (AE (vB (((BD xs)[q+1]!) ^^^ (BQ (UN (BD xs) xs[i]! xs.length (xs.length - (q+1))) (xs[i]!)))) rfl (AA (EF U23_ GK .i64 ((q:Nat):Int) q rfl rfl rfl ho1_8 (by (simp only [List.length_set,List.length_append,List.length_cons,List.length_nil,List.length_replicate,JA,IM,JX,JU,GD];omega)) fun o6 d5=>(CB (IS (((BD xs)[q+1]!) ^^^ (BQ (UN (BD xs) xs[i]! xs.length (xs.length - (q+1))) (xs[i]!))) GK rfl rfl rfl ho1_8 d5 (b3 _ d5) (by (simp only [List.length_set,List.length_append,List.length_cons,List.length_nil,List.length_replicate,JA,IM,JX,JU,GD];omega)) rfl j0 fun o7 j1 d6 j2 g4=>(?_)))))))))))))))))
   have a2:=a2.mv d6
   have ho0_4:=ho0_4.mv d6 j2 (fun b hb=>by simp only [List.mem_singleton];rintro rfl;exact absurd d5 (np1_8_vo0_4 _ hb))
   have a0:=a0.mv d6
   have a1:=a1.mv d6
   refine AG (BZ (AC (AB kR (AA (AE (vI ((q:Nat):Int)) rfl (AA (IA .i64 ((q:Nat):Int) (1:Int) (((q:Nat):Int) - (1:Int)) rfl rfl (FQ oM oM) (AA (AD (vI (((q:Nat):Int) - (1:Int))) rfl (AG (AC (?_))))))))))))
   exact ⟨_,oM,(q),a3,a7,oM,rfl,⟨_,AP _ ⟨rfl,rfl,rfl,rfl,rfl,rfl,rfl,(congrArg vB (by exact (sdC_step oM).symm)),(by rfl),rfl,rfl,rfl,rfl,trivial⟩⟩,j1,(by rw [show IO (HQ (BD xs) xs xs.length i) (BD xs) xs[i]! xs.length (xs.length - (q))=(IO (HQ (BD xs) xs xs.length i) (BD xs) xs[i]! xs.length (xs.length - (q+1))).set q (((BD xs)[q+1]!) ^^^ (BQ (UN (BD xs) xs[i]! xs.length (xs.length - (q+1))) (xs[i]!))) from sdQ_step oM];exact g4),b3,a2,ho0_4,b6,a0,a1,no1_8_vo0_4,np1_8_vo0_4⟩
  have m6:(k:Int) - 1<(0:Int):=by (have e:=d2;simp at e;omega)
  obtain rfl:k=0:=by omega
  refine CV (BL (BL (CL (AC (AF (cw_draw' 8 _ _ [fun (vT:Value) (wT:World)=>BB Enc.u8 wT (a7++O) vT (ys),DZ (vI ((i:Nat):Int)),fun (vT:Value) (wT:World)=>∃ aT,vT = .pointer (some aT)∧PT Enc.u8 wT (a7++O) (.pointer (some aT)) (ys[i]!),DZ (vB (ys[i]!)),DZ a3,DZ (vB (xs[i]!)),DZ (vB (EI (IO (HQ (BD xs) xs xs.length i) (BD xs) xs[i]! xs.length (xs.length - 0)) (xs[i]!))),DZ (vB (FU (EI (IO (HQ (BD xs) xs xs.length i) (BD xs) xs[i]! xs.length (xs.length - 0)) (xs[i]!))))] kR kR kR kR rfl rfl ⟨fun _ _ _ h k=>h.mv (Mv.of_keep k),kI,fun _ _ _ ⟨a,e,h⟩ k=>⟨a,e,h.mv (Mv.of_keep k)⟩,kI,kI,kI,kI,kI,trivial⟩ ⟨?_,?_,?_,?_,?_,?_,?_,?_,trivial⟩ ?_))))))
  ·intro F1 w1 k1 hf hd
   have k0:=(Keep.drew [] b4).trans k1
   have m1:Mv a7 b4 a7 w1:=Mv.of_keep k0
   have a2:=a2.mv m1
   obtain ⟨F2,rfl⟩:=AL (F:=F1) [(1,ys_v)] ⟨hf 1 kR,trivial⟩
   exact AH rfl ((AE (ys_v) rfl (⟨(Keep.refl _ _),a2⟩)))
  ·intro F1 w1 k1 hf hd
   obtain ⟨F2,rfl⟩:=AL (F:=F1) [(9,vI ((i:Nat):Int))] ⟨hf 9 kR,trivial⟩
   exact AH rfl ((AE (vI ((i:Nat):Int)) rfl (⟨(Keep.refl _ _),rfl⟩)))
  ·intro F1 w1 k1 hf hd
   obtain ⟨j3,j4,f0⟩:∃ v,F1 52=v∧BB Enc.u8 w1 (a7++O) v (ys):=⟨_,rfl,hd 0 52 kR⟩
   have:=f0.len_le
   obtain ⟨F2,rfl⟩:=AL (F:=F1) [(52,j3),(53,vI ((i:Nat):Int))] ⟨j4,hd 1 53 kR,trivial⟩
   exact AH rfl ((CP U23_ GK .i64 ((i:Nat):Int) i rfl rfl rfl f0 oM fun j5 g5=>(⟨(Keep.refl _ _),⟨j5,rfl,g5⟩⟩)))
  ·intro F1 w1 k1 hf hd
   obtain ⟨j6,j7,g6⟩:∃ aX_,F1 54 = .pointer (some aX_)∧PT Enc.u8 w1 (a7++O) (.pointer (some aX_)) (ys[i]!):=hd 2 54 kR
   obtain ⟨F2,rfl⟩:=AL (F:=F1) [(54,vP (some j6))] ⟨j7,trivial⟩
   exact AH rfl ((EM U5_ rfl rfl g6 (⟨(Keep.refl _ _),rfl⟩)))
  ·intro F1 w1 k1 hf hd
   obtain ⟨F2,rfl⟩:=AL (F:=F1) [(8,a3)] ⟨hf 8 kR,trivial⟩
   exact AH rfl ((AE (a3) rfl (⟨(Keep.refl _ _),rfl⟩)))
  ·intro F1 w1 k1 hf hd
   obtain ⟨F2,rfl⟩:=AL (F:=F1) [(10,vB (xs[i]!))] ⟨hf 10 kR,trivial⟩
   exact AH rfl ((AE (vB (xs[i]!)) rfl (⟨(Keep.refl _ _),rfl⟩)))
  ·intro F1 w1 k1 hf hd
   have k0:=(Keep.drew [] b4).trans k1
   have s1:=e4.call k0
   have m1:Mv a7 b4 a7 w1:=Mv.of_keep k0
   have ho1_8:=ho1_8.mv m1 k0 (by simp)
   obtain ⟨F2,rfl⟩:=AL (F:=F1) [(56,a3),(57,vB (xs[i]!))] ⟨hd 4 56 kR,hd 5 57 kR,trivial⟩
   refine AH rfl ((AZ (vs:=[a3,vB (xs[i]!)]) WC (c_eval (O:=[]) a3 (IO (HQ (BD xs) xs xs.length i) (BD xs) xs[i]! xs.length (xs.length - 0)) (xs[i]!) w1 ho1_8.rd0 PQ) rfl s1 fun o8 o9 p0 p1 j8 j9=>(?_)))
   obtain rfl:=j9
   exact ⟨j8,rfl⟩
  ·intro F1 w1 k1 hf hd
   have k0:=(Keep.drew [] b4).trans k1
   have s1:=e4.call k0
   obtain ⟨F2,rfl⟩:=AL (F:=F1) [(58,vB (EI (IO (HQ (BD xs) xs xs.length i) (BD xs) xs[i]! xs.length (xs.length - 0)) (xs[i]!)))] ⟨hd 6 58 kR,trivial⟩
   refine AH rfl ((AZ (vs:=[vB (EI (IO (HQ (BD xs) xs xs.length i) (BD xs) xs[i]! xs.length (xs.length - 0)) (xs[i]!))]) enter_94 (c_inverse (O:=a7++O) (EI (IO (HQ (BD xs) xs xs.length i) (BD xs) xs[i]! xs.length (xs.length - 0)) (xs[i]!)) w1 s1.lt) rfl s1 fun p2 p3 p4 p5 k2 k3=>(?_)))
   obtain rfl:=k3
   exact ⟨k2,rfl⟩
  intro k4 f4 d7 d8 a9
  have f5:=e4.call d7
  have c3:Mv a7 b4 a7 f4:=Mv.of_keep d7
  have a2:=a2.mv c3
  have ho0_4:=ho0_4.mv c3 d7 (by simp)
  have a0:=a0.mv c3
  have ho1_8:=ho1_8.mv c3 d7 (by simp)
  have a1:=a1.mv c3
  obtain ⟨F2,rfl⟩:=AL (F:=k4) [(1,ys_v),(4,a4),(6,vI (xs.length:Int)),(7,b0),(8,a3),(26,xs_v),(27,vI (xs.length:Int)),(28,vI ((i:Nat):Int)),(81,undef),(55,vB (ys[i]!)),(59,vB (FU (EI (IO (HQ (BD xs) xs xs.length i) (BD xs) xs[i]! xs.length (xs.length - 0)) (xs[i]!))))] ⟨a9 1 kR,a9 4 kR,a9 6 kR,a9 7 kR,a9 8 kR,a9 26 kR,a9 27 kR,a9 28 kR,a9 81 kR,d8 3 55 kR (by decide),d8 7 59 kR (by decide),trivial⟩
  clear d8 a9
  refine AA (AZ (vs:=[vB (ys[i]!),vB (FU (EI (IO (HQ (BD xs) xs xs.length i) (BD xs) xs[i]! xs.length (xs.length - 0)) (xs[i]!)))]) NF (YI (O:=a7++O) (ys[i]!) (FU (EI (IO (HQ (BD xs) xs xs.length i) (BD xs) xs[i]! xs.length (xs.length - 0)) (xs[i]!))) f4 f5.lt) rfl f5 fun p6 p7 k5 c4 f6 k6=>(?_))
  obtain rfl:=k6
  have a2:=a2.mv c4
  have ho0_4:=ho0_4.mv c4 f6 (by simp)
  have a0:=a0.mv c4
  have ho1_8:=ho1_8.mv c4 f6 (by simp)
  have a1:=a1.mv c4
  refine AA (AD (vB (BQ (ys[i]!) (FU (EI (IO (HQ (BD xs) xs xs.length i) (BD xs) xs[i]! xs.length (xs.length - 0)) (xs[i]!))))) rfl (AG (AC (AF (AB kR (AA (AE (a4) rfl (AA (SO U23_ rfl ho0_4 (AA (AE (vI 0) rfl (AG (AC (BA (?_)))))))))))))))
  have hcl:=JA (BD xs) xs ys xs.length i
  refine CX (fun mI FI wI=>∃ (j:Nat) (a5:Value) (B:List Nat),j≤xs.length∧mI=xs.length - j∧(∃ F1,FI=FR F1 [(1,ys_v),(4,a5),(6,vI (xs.length:Int)),(7,b0),(8,a3),(13,vB (BQ (ys[i]!) (FU (EI (IO (HQ (BD xs) xs xs.length i) (BD xs) xs[i]! xs.length (xs.length - 0)) (xs[i]!))))),(26,xs_v),(27,vI (xs.length:Int)),(28,vI ((i:Nat):Int)),(62,vI ((QH (BD xs) xs ys xs.length i).length:Int)),(63,vI ((j:Nat):Int)),(81,undef)])∧St w O wI B∧ED Enc.u8 5 w.heap.size (B++O) wI a5 (adF (QH (BD xs) xs ys xs.length i) (IO (HQ (BD xs) xs xs.length i) (BD xs) xs[i]! xs.length (xs.length - 0)) (BQ ys[i]! (FU (EI (IO (HQ (BD xs) xs xs.length i) (BD xs) xs[i]! xs.length (xs.length - 0)) xs[i]!))) j)∧(∀ b,a5.ownBlock=some b→b∈B)∧BB Enc.u8 wI (B++O) (ys_v) (ys)∧BB Enc.u8 wI (B++O) (b0) (BD xs)∧ED Enc.u8 5 w.heap.size (B++O) wI a3 (IO (HQ (BD xs) xs xs.length i) (BD xs) xs[i]! xs.length (xs.length - 0))∧(∀ b,a3.ownBlock=some b→b∈B)∧BB Enc.u8 wI (B++O) (xs_v) (xs)∧(∀ b,a5.ownBlock=some b→a3.ownBlock≠some b)∧(∀ b,a3.ownBlock=some b→a5.ownBlock≠some b)) (xs.length - (0)) ?_ ?_
  ·exact ⟨(0),a4,a7,oM,rfl,⟨_,AP _ ⟨rfl,rfl,rfl,rfl,rfl,rfl,rfl,rfl,rfl,rfl,(by rfl),rfl,trivial⟩⟩,k5,(by rw [show adF (QH (BD xs) xs ys xs.length i) (IO (HQ (BD xs) xs xs.length i) (BD xs) xs[i]! xs.length (xs.length - 0)) (BQ ys[i]! (FU (EI (IO (HQ (BD xs) xs xs.length i) (BD xs) xs[i]! xs.length (xs.length - 0)) xs[i]!))) (0)=QH (BD xs) xs ys xs.length i from rfl];exact ho0_4),b6,a2,a0,ho1_8,b3,a1,np1_8_vo0_4,no1_8_vo0_4⟩
  intro r3 F b5 hI
  clear a2 a0 ho1_8 b3 a1
  obtain ⟨j,a5,b1,hr2_0,r4,⟨r5,rfl⟩,f7,ho2_4,d9,a2,a0,ho1_8,b3,a1,no2_4_vo1_8,np2_4_vo1_8⟩:=hI
  refine AF (AB kR (AA (DO .i64 ((j:Nat):Int) ((QH (BD xs) xs ys xs.length i).length:Int) rfl rfl (AG (AC (AF (AJ (decide (((j:Nat):Int)<((QH (BD xs) xs ys xs.length i).length:Int))) rfl rfl (fun e0=>?_) (fun e0=>?_))))))))
  ·have m7:((j:Nat):Int)<((QH (BD xs) xs ys xs.length i).length:Int):=by simpa using e0
   refine AO (AC (AF (BA (AF (AB kR (AA (AE (vI ((j:Nat):Int)) rfl (AA (AD (vI ((j:Nat):Int)) rfl (AG (AC (cw_draw' 10 _ _ [DZ a5,DZ (vI ((j:Nat):Int)),fun (vT:Value) (wT:World)=>∃ bT,vT = .pointer (some ⟨bT,j*1,none⟩)∧a5.ownBlock=some bT,DZ (vB ((adF (QH (BD xs) xs ys xs.length i) (IO (HQ (BD xs) xs xs.length i) (BD xs) xs[i]! xs.length (xs.length - 0)) (BQ ys[i]! (FU (EI (IO (HQ (BD xs) xs xs.length i) (BD xs) xs[i]! xs.length (xs.length - 0)) xs[i]!))) j)[j]!)),DZ a3,DZ (vI ((j:Nat):Int)),fun (vT:Value) (wT:World)=>∃ bT,vT = .pointer (some ⟨bT,j*1,none⟩)∧a3.ownBlock=some bT,DZ (vB ((IO (HQ (BD xs) xs xs.length i) (BD xs) xs[i]! xs.length (xs.length - 0))[j]!)),DZ (vB (BQ (ys[i]!) (FU (EI (IO (HQ (BD xs) xs xs.length i) (BD xs) xs[i]! xs.length (xs.length - 0)) (xs[i]!))))),DZ (vB (BQ ((IO (HQ (BD xs) xs xs.length i) (BD xs) xs[i]! xs.length (xs.length - 0))[j]!) (BQ (ys[i]!) (FU (EI (IO (HQ (BD xs) xs xs.length i) (BD xs) xs[i]! xs.length (xs.length - 0)) (xs[i]!))))))] kR kR kR kR rfl rfl ⟨kI,kI,fun _ _ _ h _=>h,kI,kI,kI,fun _ _ _ h _=>h,kI,kI,kI,trivial⟩ ⟨?_,?_,?_,?_,?_,?_,?_,?_,?_,?_,trivial⟩ ?_))))))))))))
   ·intro F1 w1 k1 hf hd
    obtain ⟨F2,rfl⟩:=AL (F:=F1) [(4,a5)] ⟨hf 4 kR,trivial⟩
    exact AH rfl ((AE (a5) rfl (⟨(Keep.refl _ _),rfl⟩)))
   ·intro F1 w1 k1 hf hd
    obtain ⟨F2,rfl⟩:=AL (F:=F1) [(14,vI ((j:Nat):Int))] ⟨hf 14 kR,trivial⟩
    exact AH rfl ((AE (vI ((j:Nat):Int)) rfl (⟨(Keep.refl _ _),rfl⟩)))
   ·intro F1 w1 k1 hf hd
    have k0:=(Keep.drew [] b5).trans k1
    have m1:Mv b1 b5 b1 w1:=Mv.of_keep k0
    have ho2_4:=ho2_4.mv m1 k0 (by simp)
    obtain ⟨F2,rfl⟩:=AL (F:=F1) [(66,a5),(67,vI ((j:Nat):Int))] ⟨hd 0 66 kR,hd 1 67 kR,trivial⟩
    exact AH rfl ((EF U23_ GK .i64 ((j:Nat):Int) j rfl rfl rfl ho2_4 (by (simp only [List.length_set,List.length_append,List.length_cons,List.length_nil,List.length_replicate,JA,IM,JX,JU,GD];omega)) fun p8 g7=>(⟨(Keep.refl _ _),⟨_,rfl,g7⟩⟩)))
   ·intro F1 w1 k1 hf hd
    have k0:=(Keep.drew [] b5).trans k1
    have m1:Mv b1 b5 b1 w1:=Mv.of_keep k0
    have ho2_4:=ho2_4.mv m1 k0 (by simp)
    obtain ⟨k7,k8,g8⟩:∃ b,F1 68 = .pointer (some ⟨b,j*1,none⟩)∧a5.ownBlock=some b:=hd 2 68 kR
    obtain ⟨F2,rfl⟩:=AL (F:=F1) [(68,vP (some ⟨k7,j*1,none⟩))] ⟨k8,trivial⟩
    exact AH rfl ((JW U5_ rfl rfl ho2_4 g8 (by (simp only [List.length_set,List.length_append,List.length_cons,List.length_nil,List.length_replicate,JA,IM,JX,JU,GD];omega)) (⟨(Keep.refl _ _),rfl⟩)))
   ·intro F1 w1 k1 hf hd
    obtain ⟨F2,rfl⟩:=AL (F:=F1) [(8,a3)] ⟨hf 8 kR,trivial⟩
    exact AH rfl ((AE (a3) rfl (⟨(Keep.refl _ _),rfl⟩)))
   ·intro F1 w1 k1 hf hd
    obtain ⟨F2,rfl⟩:=AL (F:=F1) [(14,vI ((j:Nat):Int))] ⟨hf 14 kR,trivial⟩
    exact AH rfl ((AE (vI ((j:Nat):Int)) rfl (⟨(Keep.refl _ _),rfl⟩)))
   ·intro F1 w1 k1 hf hd
    have k0:=(Keep.drew [] b5).trans k1
    have m1:Mv b1 b5 b1 w1:=Mv.of_keep k0
    have ho1_8:=ho1_8.mv m1 k0 (by simp)
    obtain ⟨F2,rfl⟩:=AL (F:=F1) [(70,a3),(71,vI ((j:Nat):Int))] ⟨hd 4 70 kR,hd 5 71 kR,trivial⟩
    exact AH rfl ((EF U23_ GK .i64 ((j:Nat):Int) j rfl rfl rfl ho1_8 (by (simp only [List.length_set,List.length_append,List.length_cons,List.length_nil,List.length_replicate,JA,IM,JX,JU,GD];omega)) fun p9 g9=>(⟨(Keep.refl _ _),⟨_,rfl,g9⟩⟩)))
   ·intro F1 w1 k1 hf hd
    have k0:=(Keep.drew [] b5).trans k1
    have m1:Mv b1 b5 b1 w1:=Mv.of_keep k0
    have ho1_8:=ho1_8.mv m1 k0 (by simp)
    obtain ⟨k9,l0,h0⟩:∃ b,F1 72 = .pointer (some ⟨b,j*1,none⟩)∧a3.ownBlock=some b:=hd 6 72 kR
    obtain ⟨F2,rfl⟩:=AL (F:=F1) [(72,vP (some ⟨k9,j*1,none⟩))] ⟨l0,trivial⟩
    exact AH rfl ((JW U5_ rfl rfl ho1_8 h0 (by (simp only [List.length_set,List.length_append,List.length_cons,List.length_nil,List.length_replicate,JA,IM,JX,JU,GD];omega)) (⟨(Keep.refl _ _),rfl⟩)))
   ·intro F1 w1 k1 hf hd
    obtain ⟨F2,rfl⟩:=AL (F:=F1) [(13,vB (BQ (ys[i]!) (FU (EI (IO (HQ (BD xs) xs xs.length i) (BD xs) xs[i]! xs.length (xs.length - 0)) (xs[i]!)))))] ⟨hf 13 kR,trivial⟩
    exact AH rfl ((AE (vB (BQ (ys[i]!) (FU (EI (IO (HQ (BD xs) xs xs.length i) (BD xs) xs[i]! xs.length (xs.length - 0)) (xs[i]!))))) rfl (⟨(Keep.refl _ _),rfl⟩)))
   ·intro F1 w1 k1 hf hd
    have k0:=(Keep.drew [] b5).trans k1
    have s1:=f7.call k0
    obtain ⟨F2,rfl⟩:=AL (F:=F1) [(73,vB ((IO (HQ (BD xs) xs xs.length i) (BD xs) xs[i]! xs.length (xs.length - 0))[j]!)),(74,vB (BQ (ys[i]!) (FU (EI (IO (HQ (BD xs) xs xs.length i) (BD xs) xs[i]! xs.length (xs.length - 0)) (xs[i]!)))))] ⟨hd 7 73 kR,hd 8 74 kR,trivial⟩
    refine AH rfl ((AZ (vs:=[vB ((IO (HQ (BD xs) xs xs.length i) (BD xs) xs[i]! xs.length (xs.length - 0))[j]!),vB (BQ (ys[i]!) (FU (EI (IO (HQ (BD xs) xs xs.length i) (BD xs) xs[i]! xs.length (xs.length - 0)) (xs[i]!))))]) NF (YI (O:=b1++O) ((IO (HQ (BD xs) xs xs.length i) (BD xs) xs[i]! xs.length (xs.length - 0))[j]!) (BQ (ys[i]!) (FU (EI (IO (HQ (BD xs) xs xs.length i) (BD xs) xs[i]! xs.length (xs.length - 0)) (xs[i]!)))) w1 s1.lt) rfl s1 fun q0 q1 q2 q3 l1 l2=>(?_)))
    obtain rfl:=l2
    exact ⟨l1,rfl⟩
   intro l3 l4 e1 b7 a8
   have l5:=f7.call e1
   have c5:Mv b1 b5 b1 l4:=Mv.of_keep e1
   have a2:=a2.mv c5
   have ho2_4:=ho2_4.mv c5 e1 (by simp)
   have a0:=a0.mv c5
   have ho1_8:=ho1_8.mv c5 e1 (by simp)
   have a1:=a1.mv c5
   obtain ⟨F2,rfl⟩:=AL (F:=l3) [(1,ys_v),(4,a5),(6,vI (xs.length:Int)),(7,b0),(8,a3),(13,vB (BQ (ys[i]!) (FU (EI (IO (HQ (BD xs) xs xs.length i) (BD xs) xs[i]! xs.length (xs.length - 0)) (xs[i]!))))),(26,xs_v),(27,vI (xs.length:Int)),(28,vI ((i:Nat):Int)),(62,vI ((QH (BD xs) xs ys xs.length i).length:Int)),(63,vI ((j:Nat):Int)),(81,undef),(66,a5),(67,vI ((j:Nat):Int)),(69,vB ((adF (QH (BD xs) xs ys xs.length i) (IO (HQ (BD xs) xs xs.length i) (BD xs) xs[i]! xs.length (xs.length - 0)) (BQ ys[i]! (FU (EI (IO (HQ (BD xs) xs xs.length i) (BD xs) xs[i]! xs.length (xs.length - 0)) xs[i]!))) j)[j]!)),(75,vB (BQ ((IO (HQ (BD xs) xs xs.length i) (BD xs) xs[i]! xs.length (xs.length - 0))[j]!) (BQ (ys[i]!) (FU (EI (IO (HQ (BD xs) xs xs.length i) (BD xs) xs[i]! xs.length (xs.length - 0)) (xs[i]!))))))] ⟨a8 1 kR,a8 4 kR,a8 6 kR,a8 7 kR,a8 8 kR,a8 13 kR,a8 26 kR,a8 27 kR,a8 28 kR,a8 62 kR,a8 63 kR,a8 81 kR,b7 0 66 kR (by decide),b7 1 67 kR (by decide),b7 3 69 kR (by decide),b7 9 75 kR (by decide),trivial⟩
   clear b7 a8
   refine AA (JT ((adF (QH (BD xs) xs ys xs.length i) (IO (HQ (BD xs) xs xs.length i) (BD xs) xs[i]! xs.length (xs.length - 0)) (BQ ys[i]! (FU (EI (IO (HQ (BD xs) xs xs.length i) (BD xs) xs[i]! xs.length (xs.length - 0)) xs[i]!))) j)[j]!) (BQ ((IO (HQ (BD xs) xs xs.length i) (BD xs) xs[i]! xs.length (xs.length - 0))[j]!) (BQ (ys[i]!) (FU (EI (IO (HQ (BD xs) xs xs.length i) (BD xs) xs[i]! xs.length (xs.length - 0)) (xs[i]!))))) rfl rfl (AA (EF U23_ GK .i64 ((j:Nat):Int) j rfl rfl rfl ho2_4 (by (simp only [List.length_set,List.length_append,List.length_cons,List.length_nil,List.length_replicate,JA,IM,JX,JU,GD];omega)) fun q4 e2=>(CB (IS (((adF (QH (BD xs) xs ys xs.length i) (IO (HQ (BD xs) xs xs.length i) (BD xs) xs[i]! xs.length (xs.length - 0)) (BQ ys[i]! (FU (EI (IO (HQ (BD xs) xs xs.length i) (BD xs) xs[i]! xs.length (xs.length - 0)) xs[i]!))) j)[j]!) ^^^ (BQ ((IO (HQ (BD xs) xs xs.length i) (BD xs) xs[i]! xs.length (xs.length - 0))[j]!) (BQ (ys[i]!) (FU (EI (IO (HQ (BD xs) xs xs.length i) (BD xs) xs[i]! xs.length (xs.length - 0)) (xs[i]!)))))) GK rfl rfl rfl ho2_4 e2 (d9 _ e2) (by (simp only [List.length_set,List.length_append,List.length_cons,List.length_nil,List.length_replicate,JA,IM,JX,JU,GD];omega)) rfl l5 fun q5 l6 e3 l7 h1=>(?_))))))
   have a2:=a2.mv e3
   have a0:=a0.mv e3
   have ho1_8:=ho1_8.mv e3 l7 (fun b hb=>by simp only [List.mem_singleton];rintro rfl;exact absurd e2 (np2_4_vo1_8 _ hb))
   have a1:=a1.mv e3
   refine AG (BZ (AC (AB kR (AA (DC .i64 ((j:Nat):Int) (1:Int) (((j+1:Nat):Int)) rfl rfl (FQ oM oM) (AA (AE (vI ((j+1:Nat):Int)) rfl (AG (AC (?_))))))))))
   exact ⟨_,oM,(j+1),a5,b1,oM,rfl,⟨_,AP _ ⟨rfl,rfl,rfl,rfl,rfl,rfl,rfl,rfl,rfl,rfl,(by rfl),rfl,trivial⟩⟩,l6,(by rw [show adF (QH (BD xs) xs ys xs.length i) (IO (HQ (BD xs) xs xs.length i) (BD xs) xs[i]! xs.length (xs.length - 0)) (BQ ys[i]! (FU (EI (IO (HQ (BD xs) xs xs.length i) (BD xs) xs[i]! xs.length (xs.length - 0)) xs[i]!))) (j+1)=(adF (QH (BD xs) xs ys xs.length i) (IO (HQ (BD xs) xs xs.length i) (BD xs) xs[i]! xs.length (xs.length - 0)) (BQ ys[i]! (FU (EI (IO (HQ (BD xs) xs xs.length i) (BD xs) xs[i]! xs.length (xs.length - 0)) xs[i]!))) j).set j (((adF (QH (BD xs) xs ys xs.length i) (IO (HQ (BD xs) xs xs.length i) (BD xs) xs[i]! xs.length (xs.length - 0)) (BQ ys[i]! (FU (EI (IO (HQ (BD xs) xs xs.length i) (BD xs) xs[i]! xs.length (xs.length - 0)) xs[i]!))) j)[j]!) ^^^ (BQ ((IO (HQ (BD xs) xs xs.length i) (BD xs) xs[i]! xs.length (xs.length - 0))[j]!) (BQ (ys[i]!) (FU (EI (IO (HQ (BD xs) xs xs.length i) (BD xs) xs[i]! xs.length (xs.length - 0)) (xs[i]!)))))) from rfl];exact h1),d9,a2,a0,ho1_8,b3,a1,no2_4_vo1_8,np2_4_vo1_8⟩
  have m9:((QH (BD xs) xs ys xs.length i).length:Int)≤((j:Nat):Int):=by simpa using e0
  obtain rfl:j=xs.length:=by omega
  refine CV (BL (BL (CL (BZ (AC (AB kR (AA (DC .i64 ((i:Nat):Int) (1:Int) (((i+1:Nat):Int)) rfl rfl (FQ oM oM) (AA (AE (vI ((i+1:Nat):Int)) rfl (AG (AC (?_)))))))))))))
  exact ⟨_,oM,(i+1),a5,a3,b1,oM,rfl,⟨_,AP _ ⟨rfl,rfl,rfl,rfl,rfl,rfl,rfl,(by rfl),rfl,trivial⟩⟩,f7,(by rw [show QH (BD xs) xs ys xs.length (i+1)=adF (QH (BD xs) xs ys xs.length i) (IO (HQ (BD xs) xs xs.length i) (BD xs) xs[i]! xs.length (xs.length - 0)) (BQ ys[i]! (FU (EI (IO (HQ (BD xs) xs xs.length i) (BD xs) xs[i]! xs.length (xs.length - 0)) xs[i]!))) xs.length from by rw [Nat.sub_zero];simp only [QH,HQ]];exact ho2_4),d9,(by rw [show HQ (BD xs) xs xs.length (i+1)=IO (HQ (BD xs) xs xs.length i) (BD xs) xs[i]! xs.length (xs.length - 0) from by rw [HQ,Nat.sub_zero]];exact ho1_8),b3,a2,a0,a1,no2_4_vo1_8,np2_4_vo1_8⟩
 have n2:(xs.length:Int)≤((i:Nat):Int):=by simpa using d1
 obtain rfl:i=xs.length:=by omega
 refine CV (BL (BL (CL (AC (AF (AB kR (AA (AE (a4) rfl (AA (AD (a4) rfl (AA (AD (vI 0) rfl (AG (AC (AM (AS rfl (EA rfl rfl rfl rfl) (?_)))))))))))))))))
 have e:(EV xs ys)=(QH (BD xs) xs ys xs.length xs.length,(0:Int)):=by simp [EV, *]
 exact ⟨_,rfl,f3.keep,by rw [e];exact ⟨a4,rfl,ho0_4.pub f3⟩⟩
set_option maxHeartbeats 4000000 in
set_option maxRecDepth 100000 in
theorem c_through {O:List Nat} (xs_v:Value) (xs:List UInt8) (ys_v:Value) (ys:List UInt8) (at_:UInt8) (w:World) (a1:BB Enc.u8 w O xs_v xs) (a2:BB Enc.u8 w O ys_v ys) (hpre0:xs.length<1000000) (hO:∀ b∈O,b<w.heap.size):CE Try.prog 63 [xs_v,ys_v,vB at_] w (fun v _=>v = .tuple #[vB ((DK xs ys at_).1),vI ((DK xs ys at_).2)]):= by
 have b0:=a1.len_le
 have a1:BB Enc.u8 w ([]++O) xs_v xs:=a1
 have b1:=a2.len_le
 have a2:BB Enc.u8 w ([]++O) ys_v ys:=a2
 have s0:St w O w []:=St.start hO
 refine BI 21 Try.func63 rfl rfl oT (fun F0=>AF (AB kR (AA (AD (vB (0:UInt8)) rfl (AA (AD (vI 0) rfl (AG (AC (AF (AB kR (AA (AE (xs_v) rfl (AA (AE (ys_v) rfl (AA (AZ (vs:=[xs_v,ys_v]) enter_43 (c_coeff (O:=[]++O) xs_v xs ys_v ys w a1 a2 oM s0.lt) rfl s0 fun b4 a6 a4 b5 b6 a7=>(?_)))))))))))))))))
 obtain ⟨a0,rfl,a5⟩:=a7
 have:=a5.len_le
 refine AA (AE (vT #[a0,vI ((EV xs ys).2)]) rfl (AA (AN (a0) rfl rfl (AA (AN (vI ((EV xs ys).2)) rfl rfl (AA (AD (a0) rfl (AA (AD (vI ((EV xs ys).2)) rfl (AG (AC (AF (AF (AB kR (AA (AE (vI ((EV xs ys).2)) rfl (AA (CT .i64 ((EV xs ys).2) (0:Int) rfl rfl (AG (AC (AJ (((EV xs ys).2) != (0:Int)) rfl rfl (fun a3=>?_) (fun a3=>?_))))))))))))))))))))))
 ·have b2:(EV xs ys).2≠(0:Int):=by simpa using a3
  refine AF (AB kR (AA (AE (vI ((EV xs ys).2)) rfl (AA (AD (vB (0:UInt8)) rfl (AA (AD (vI ((EV xs ys).2)) rfl (AG (AC (AM (AK (AS rfl (EA rfl rfl rfl rfl) (?_)))))))))))))
  have e:(DK xs ys at_)=((0:UInt8),(EV xs ys).2):=by simp [DK, *]
  exact ⟨_,rfl,a4.keep,by rw [e];exact rfl⟩
 have b3:(EV xs ys).2=(0:Int):=by simpa using a3
 refine AO (AC (AF (AB kR (AA (AE (a0) rfl (AA (AE (vB at_) rfl (AA (AZ (vs:=[a0,vB at_]) WC (c_eval (O:=[]++O) a0 ((EV xs ys).1) at_ a6 a5 a4.lt) rfl a4 fun b7 b8 a8 b9 c0 a9=>(?_))))))))))
 obtain rfl:=a9
 refine AA (AD (vB (EI ((EV xs ys).1) at_)) rfl (AA (AD (vI 0) rfl (AG (AC (AM (AS rfl (EA rfl rfl rfl rfl) (?_))))))))
 have e:(DK xs ys at_)=(EI ((EV xs ys).1) at_,(0:Int)):=by simp [DK, *]
 exact ⟨_,rfl,a8.keep,by rw [e];exact rfl⟩
open Go.Fw
theorem all8 (p:UInt8→Bool) (h:(List.range 256).all (fun n=>p (UInt8.ofNat n))=true) (x:UInt8):p x=true:=by
  have:=List.all_eq_true.1 h x.toNat (List.mem_range.2 x.toNat_lt)
  rwa [UInt8.ofNat_toNat] at this
def WW (f:UInt8→UInt8):Prop:=∀ x y,f (x ^^^ y)=f x ^^^ f y
theorem xor_zero (a:UInt8):a ^^^ 0=a:=UInt8.xor_zero
theorem zero_xor (a:UInt8):0 ^^^ a=a:=UInt8.zero_xor
theorem xor_self (a:UInt8):a ^^^ a=0:=UInt8.xor_self
theorem UW (a b:UInt8):a ^^^ b=b ^^^ a:=UInt8.xor_comm a b
theorem QN (a b c:UInt8):a ^^^ b ^^^ c=a ^^^ (b ^^^ c):=UInt8.xor_assoc a b c
theorem xor_lc (a b c:UInt8):a ^^^ (b ^^^ c)=b ^^^ (a ^^^ c):=by rw [← QN,UW a b,QN]
theorem xor_cancel (a b:UInt8):a ^^^ (a ^^^ b)=b:=by rw [← QN,xor_self,zero_xor]
theorem JI {a b:UInt8}:a ^^^ b=0↔a=b:=⟨fun h=>by have:=congrArg (a ^^^ ·) h;simp only [xor_cancel,xor_zero] at this;exact this.symm,fun h=>by rw [h,xor_self]⟩
theorem xor4 (a b c d:UInt8):(a ^^^ b) ^^^ (c ^^^ d)=(a ^^^ c) ^^^ (b ^^^ d):=by rw [QN,QN,xor_lc b c d]
theorem WW.zero {f:UInt8→UInt8} (h:WW f):f 0=0:=by
  have h1:=h 0 0
  rw [xor_self] at h1
  rw [h1,xor_self]
theorem WW.comp {f g:UInt8→UInt8} (hf:WW f) (hg:WW g):WW (fun x=>f (g x)):=fun x y=>by show f (g (x ^^^ y))=_;rw [hg x y,hf]
theorem WW.id:WW fun x=>x:=fun _ _=>rfl
theorem bits_of (x:UInt8):x=(x &&& 1) ^^^ ((x &&& 2) ^^^ ((x &&& 4) ^^^ ((x &&& 8) ^^^ ((x &&& 16) ^^^ ((x &&& 32) ^^^ ((x &&& 64) ^^^ (x &&& 128))))))):=
  of_decide_eq_true (all8 (fun x=>decide (x=(x &&& 1) ^^^ ((x &&& 2) ^^^ ((x &&& 4) ^^^ ((x &&& 8) ^^^ ((x &&& 16) ^^^ ((x &&& 32) ^^^ ((x &&& 64) ^^^ (x &&& 128))))))))) (by decide +kernel) x)
theorem bit_or (x:UInt8):(x &&& 1=0∨x &&& 1=1)∧(x &&& 2=0∨x &&& 2=2)∧(x &&& 4=0∨x &&& 4=4)∧(x &&& 8=0∨x &&& 8=8)∧(x &&& 16=0∨x &&& 16=16)∧(x &&& 32=0∨x &&& 32=32)∧(x &&& 64=0∨x &&& 64=64)∧(x &&& 128=0∨x &&& 128=128):=
  of_decide_eq_true (all8 (fun x=>decide ((x &&& 1=0∨x &&& 1=1)∧(x &&& 2=0∨x &&& 2=2)∧(x &&& 4=0∨x &&& 4=4)∧(x &&& 8=0∨x &&& 8=8)∧(x &&& 16=0∨x &&& 16=16)∧(x &&& 32=0∨x &&& 32=32)∧(x &&& 64=0∨x &&& 64=64)∧(x &&& 128=0∨x &&& 128=128))) (by decide +kernel) x)
theorem lin_ext {f g:UInt8→UInt8} (hf:WW f) (hg:WW g) (h1:f 1=g 1) (h2:f 2=g 2) (h4:f 4=g 4) (h8:f 8=g 8) (h16:f 16=g 16) (h32:f 32=g 32) (h64:f 64=g 64) (h128:f 128=g 128) (x:UInt8):f x=g x:=by
  have z:=hf.zero;have z':=hg.zero
  have key:∀ (y b:UInt8),(y=0∨y=b)→f b=g b→f y=g y:=fun y b h e=>by
    rcases h with h|h
    · rw [h,z,z']
    · rw [h,e]
  obtain ⟨a1,a2,a3,a4,a5,a6,a7,a8⟩:=bit_or x
  rw [bits_of x,hf,hf,hf,hf,hf,hf,hf,hg,hg,hg,hg,hg,hg,hg,key _ _ a1 h1,key _ _ a2 h2,key _ _ a3 h4,key _ _ a4 h8,key _ _ a5 h16,key _ _ a6 h32,key _ _ a7 h64,key _ _ a8 h128]
theorem and1_xor (x y:UInt8):(x ^^^ y) &&& 1=(x &&& 1) ^^^ (y &&& 1):=by
  apply UInt8.toBitVec_inj.1
  simp only [UInt8.toBitVec_and,UInt8.toBitVec_xor]
  apply BitVec.eq_of_getElem_eq
  intro i hi
  simp only [BitVec.getElem_and,BitVec.getElem_xor]
  cases (x.toBitVec[i]) <;> cases (y.toBitVec[i]) <;> simp
theorem bit_xor (x y:UInt8) (i:UInt8):(x ^^^ y) >>> i &&& 1=(x >>> i &&& 1) ^^^ (y >>> i &&& 1):=by
  rw [UInt8.shiftRight_xor,and1_xor]
theorem bit01 (x i:UInt8):x >>> i &&& 1=0∨x >>> i &&& 1=1:=(bit_or (x >>> i)).1
def QJ (c v:UInt8):UInt8:=if c=1 then v else 0
theorem YF {c d:UInt8} (v:UInt8) (hc:c=0∨c=1) (hd:d=0∨d=1):QJ (c ^^^ d) v=QJ c v ^^^ QJ d v:=by
  rcases hc with rfl|rfl <;> rcases hd with rfl|rfl <;> simp [QJ]
theorem pick8_lin (c:UInt8):WW (QJ c):=fun x y=>by unfold QJ;split <;> simp
theorem PY (a b:UInt8) (i:Nat):gm a b (i+1)=gm a b i ^^^ QJ (b >>> UInt8.ofNat i &&& 1) (xtn a i):=by
  unfold QJ
  by_cases h:b >>> UInt8.ofNat i &&& 1=1
  · rw [if_pos h,gm_yes a b i h]
  · rw [if_neg h,gm_no a b i h,xor_zero]
theorem gm_lin (a:UInt8):∀ i,WW fun b=>gm a b i
  | 0=>fun _ _=>by simp [gm]
  | i+1=>fun x y=>by
    show gm a (x ^^^ y) (i+1)=gm a x (i+1) ^^^ gm a y (i+1)
    rw [PY,PY,PY,bit_xor,YF _ (bit01 _ _) (bit01 _ _),show gm a (x ^^^ y) i=_ from gm_lin a i x y,xor4]
theorem JQ (a:UInt8):WW (BQ a):=gm_lin a 8
theorem xt_eq (a:UInt8):xt a=a <<< 1 ^^^ QJ (a >>> 7 &&& 1) 27:=
  of_decide_eq_true (all8 (fun a=>decide (xt a=a <<< 1 ^^^ QJ (a >>> 7 &&& 1) 27)) (by decide +kernel) a)
theorem xt_lin:WW xt:=fun x y=>by
  rw [xt_eq,xt_eq,xt_eq,bit_xor,YF _ (bit01 _ _) (bit01 _ _),UInt8.shiftLeft_xor,xor4]
theorem xtn_lin:∀ i,WW fun a=>xtn a i
  | 0=>WW.id
  | i+1=>xt_lin.comp (xtn_lin i)
theorem gm_lin2 (b:UInt8):∀ i,WW fun a=>gm a b i
  | 0=>fun _ _=>by simp [gm]
  | i+1=>fun x y=>by
    show gm (x ^^^ y) b (i+1)=gm x b (i+1) ^^^ gm y b (i+1)
    rw [PY,PY,PY,show xtn (x ^^^ y) i=_ from xtn_lin i x y,pick8_lin,show gm (x ^^^ y) b i=_ from gm_lin2 b i x y,xor4]
theorem JK (b:UInt8):WW fun a=>BQ a b:=gm_lin2 b 8
theorem JN (a b:UInt8):BQ a b=BQ b a:=by
  have key:∀ c:UInt8,(BQ c 1=BQ 1 c∧BQ c 2=BQ 2 c∧BQ c 4=BQ 4 c∧BQ c 8=BQ 8 c∧BQ c 16=BQ 16 c∧BQ c 32=BQ 32 c∧BQ c 64=BQ 64 c∧BQ c 128=BQ 128 c):=fun c=>
    of_decide_eq_true (all8 (fun c=>decide (BQ c 1=BQ 1 c∧BQ c 2=BQ 2 c∧BQ c 4=BQ 4 c∧BQ c 8=BQ 8 c∧BQ c 16=BQ 16 c∧BQ c 32=BQ 32 c∧BQ c 64=BQ 64 c∧BQ c 128=BQ 128 c)) (by decide +kernel) c)
  obtain ⟨h1,h2,h3,h4,h5,h6,h7,h8⟩:=key a
  exact lin_ext (JQ a) (JK a) h1 h2 h3 h4 h5 h6 h7 h8 b
theorem NJ (a:UInt8):BQ a 1=a:=of_decide_eq_true (all8 (fun a=>decide (BQ a 1=a)) (by decide +kernel) a)
theorem RO (a:UInt8):BQ 1 a=a:=by rw [JN,NJ]
theorem JH (a:UInt8):BQ a 0=0:=(JQ a).zero
theorem DX (a:UInt8):BQ 0 a=0:=(JK a).zero
theorem SK (a b c:UInt8):BQ a (b ^^^ c)=BQ a b ^^^ BQ a c:=JQ a b c
theorem PD (a b c:UInt8):BQ (a ^^^ b) c=BQ a c ^^^ BQ b c:=JK c a b
def pw2:List UInt8:=[1,2,4,8,16,32,64,128]
theorem lin_ext' {f g:UInt8→UInt8} (hf:WW f) (hg:WW g) (h:∀ b∈pw2,f b=g b) (x:UInt8):f x=g x:=
  lin_ext hf hg (h _ (by simp [pw2])) (h _ (by simp [pw2])) (h _ (by simp [pw2])) (h _ (by simp [pw2])) (h _ (by simp [pw2])) (h _ (by simp [pw2])) (h _ (by simp [pw2])) (h _ (by simp [pw2])) x
theorem assoc_basis:∀ a∈pw2,∀ b∈pw2,∀ c∈pw2,BQ (BQ a b) c=BQ a (BQ b c):=by decide +kernel
theorem GT (a b c:UInt8):BQ (BQ a b) c=BQ a (BQ b c):=by
  refine lin_ext' (f:=fun a=>BQ (BQ a b) c) (g:=fun a=>BQ a (BQ b c)) ((JK c).comp (JK b)) (JK _) (fun a ha=>?_) a
  refine lin_ext' (f:=fun b=>BQ (BQ a b) c) (g:=fun b=>BQ a (BQ b c)) ((JK c).comp (JQ a)) ((JQ a).comp (JK c)) (fun b hb=>?_) b
  exact lin_ext' (f:=fun c=>BQ (BQ a b) c) (g:=fun c=>BQ a (BQ b c)) (JQ _) ((JQ a).comp (JQ b)) (fun c hc=>assoc_basis a ha b hb c hc) c
theorem SH (a:UInt8) (m:Nat):∀ n,JS a (m+n)=BQ (JS a m) (JS a n)
  | 0=>by simp [JS,NJ]
  | n+1=>by rw [← Nat.add_assoc];simp only [JS];rw [SH a m n,GT]
theorem gpow_one (a:UInt8):JS a 1=a:=by simp [JS,RO]
def fast (a:UInt8):UInt8:=
  let a2:=BQ a a;let a4:=BQ a2 a2;let a8:=BQ a4 a4;let a16:=BQ a8 a8;let a32:=BQ a16 a16;let a64:=BQ a32 a32;let a128:=BQ a64 a64
  BQ a128 (BQ a64 (BQ a32 (BQ a16 (BQ a8 (BQ a4 a2)))))
theorem ginv_fast (a:UInt8):FU a=fast a:=by
  have h2:BQ a a=JS a 2:=by rw [show (2:Nat)=1+1 from rfl,SH,gpow_one]
  have dbl:∀ n,BQ (JS a n) (JS a n)=JS a (n+n):=fun n=>(SH a n n).symm
  unfold fast FU
  simp only [h2,dbl,← SH]
theorem NL {a:UInt8} (h:a≠0):BQ a (FU a)=1:=by
  have:=all8 (fun a=>decide (a=0∨BQ a (fast a)=1)) (by decide +kernel) a
  rw [ginv_fast];exact (of_decide_eq_true this).resolve_left h
theorem NY {a b:UInt8}:BQ a b=0↔a=0∨b=0:=by
  constructor
  · intro h
    by_cases ha:a=0
    · exact .inl ha
    · right
      have:=congrArg (BQ (FU a)) h
      rwa [JH,← GT,JN (FU a),NL ha,RO] at this
  · rintro (rfl|rfl)
    · exact DX _
    · exact JH _
def QL (c:Bool) (v:Nat):Nat:=if c then v else 0
theorem XM (c d:Bool) (v:Nat):QL (c ^^ d) v=QL c v ^^^ QL d v:=by cases c <;> cases d <;> simp [QL]
theorem xorN4 (a b c d:Nat):(a ^^^ b) ^^^ (c ^^^ d)=(a ^^^ c) ^^^ (b ^^^ d):=by
  rw [Nat.xor_assoc,Nat.xor_assoc,← Nat.xor_assoc b c d,Nat.xor_comm b c,Nat.xor_assoc c b d]
theorem cl_succ (a b i:Nat):cl a b (i+1)=cl a b i ^^^ QL (b.testBit i) (a*2 ^ i):=by
  rw [Nat.testBit_eq_decide_div_mod_eq]
  by_cases h:b / 2 ^ i % 2=1
  · rw [cl_yes a b i h];simp [QL,h]
  · rw [cl_no a b i h];simp [QL,h]
theorem VZ (p j:Nat):OO p (j+1)=OO p j ^^^ QL ((OO p j).testBit (14 - j)) (283*2 ^ (14 - j - 8)):=by
  rw [Nat.testBit_eq_decide_div_mod_eq]
  by_cases h:OO p j / 2 ^ (14 - j) % 2=1
  · rw [red_yes p j h];simp [QL,h]
  · rw [red_no p j h];simp [QL,h]
theorem cl_xor (a b c:Nat):∀ i,cl a (b ^^^ c) i=cl a b i ^^^ cl a c i
  | 0=>by simp [cl]
  | i+1=>by rw [cl_succ,cl_succ,cl_succ,cl_xor a b c i,Nat.testBit_xor,XM,xorN4]
theorem red_xor (p q:Nat):∀ j,OO (p ^^^ q) j=OO p j ^^^ OO q j
  | 0=>rfl
  | j+1=>by rw [VZ,VZ,VZ,red_xor p q j,Nat.testBit_xor,XM,xorN4]
theorem MD (n:Nat):DL (n:Int)=UInt8.ofNat n:=by
  unfold DL
  rw [show ((n:Int) % 256).toNat=n % 256 by omega]
  exact UInt8.toNat_inj.1 (by simp)
theorem refMul_lin (a:UInt8):WW (CO a):=fun x y=>by
  show DL _=DL _ ^^^ DL _
  rw [MD,MD,MD,UInt8.toNat_xor,cl_xor,red_xor,UInt8.ofNat_xor]
theorem GB (a b:UInt8):CO a b=BQ a b:=by
  have key:∀ c:UInt8,(CO c 1=BQ c 1∧CO c 2=BQ c 2∧CO c 4=BQ c 4∧CO c 8=BQ c 8∧CO c 16=BQ c 16∧CO c 32=BQ c 32∧CO c 64=BQ c 64∧CO c 128=BQ c 128):=fun c=>
    of_decide_eq_true (all8 (fun c=>decide (CO c 1=BQ c 1∧CO c 2=BQ c 2∧CO c 4=BQ c 4∧CO c 8=BQ c 8∧CO c 16=BQ c 16∧CO c 32=BQ c 32∧CO c 64=BQ c 64∧CO c 128=BQ c 128)) (by decide +kernel) c)
  obtain ⟨h1,h2,h3,h4,h5,h6,h7,h8⟩:=key a
  exact lin_ext (refMul_lin a) (JQ a) h1 h2 h3 h4 h5 h6 h7 h8 b
theorem ginv_unique {a b:UInt8} (h:BQ a b=1):b=FU a:=by
  have ha:a≠0:=fun e=>by rw [e,DX] at h;exact absurd h (by decide)
  calc b=BQ 1 b:=(RO b).symm
    _=BQ (BQ (FU a) a) b:=by rw [JN (FU a),NL ha]
    _=FU a:=by rw [GT,h,NJ]
theorem VK {β:Type} {f:Nat→Option β} {d r:β}:∀ (m i:Nat),(∃ k,i≤k∧k<i+m∧f k≠none)→(∀ k,i≤k→k<i+m→f k=none∨f k=some r)→EX f d i m=r
  | 0,i,⟨k,h1,h2,_⟩,_=>by omega
  | m+1,i,⟨k,h1,h2,h3⟩,h=>by
    unfold EX
    rcases h i (by omega) (by omega) with h4|h4
    · rw [h4]
      refine VK m (i+1) ⟨k,?_,by omega,h3⟩ (fun k' a b=>h k' (by omega) (by omega))
      rcases Nat.lt_or_eq_of_le h1 with h5|h5
      · exact h5
      · subst h5;exact absurd h4 h3
    · rw [h4]
theorem scan_all {β:Type} {f:Nat→Option β} {d:β}:∀ (m i:Nat),(∀ k,i≤k→k<i+m→f k=none)→EX f d i m=d
  | 0,i,_=>rfl
  | m+1,i,h=>by unfold EX;rw [h i (by omega) (by omega)];exact scan_all m (i+1) fun k a b=>h k (by omega) (by omega)
theorem refInv_eq (a:UInt8):HJ a=inv a:=by
  unfold HJ inv
  by_cases h:a=0
  · subst h
    rw [scan_all];rfl
    intro k _ _
    rw [GB,DX];rfl
  · have h1:=NL h
    have hi:FU a≠0:=fun e=>by rw [e,JH] at h1;exact absurd h1 (by decide)
    rw [if_neg (by simpa using h)]
    refine VK _ _ ⟨(FU a).toNat,?_,?_,?_⟩ fun k hk1 hk2=>?_
    · have:(FU a).toNat≠0:=fun e=>hi (UInt8.toNat_inj.1 e)
      omega
    · have:=(FU a).toNat_lt;omega
    · rw [MD,UInt8.ofNat_toNat,GB,h1];simp
    · by_cases hm:CO a (DL (k:Int))=1
      · right;rw [if_pos (by simpa using hm)];rw [GB] at hm;rw [ginv_unique hm]
      · left;rw [if_neg (by simpa using hm)]
theorem QO (a b:UInt8) (h:b≠0):EY a b=BQ a (FU b):=by
  unfold EY;rw [GB,refInv_eq];unfold inv;rw [if_neg (by simpa using h)]
open Go.Fw
theorem gmul_lc (a b c:UInt8):BQ a (BQ b c)=BQ b (BQ a c):=by rw [← GT,JN a b,GT]
theorem RN (x:UInt8):EI [] x=0:=rfl
theorem GJ (c:UInt8) (l:List UInt8) (x:UInt8):EI (c :: l) x=BQ (EI l x) x ^^^ c:=rfl
theorem RJ (i:Nat):([]:List UInt8)[i]! = 0:=rfl
theorem GE (c:UInt8) (l:List UInt8) (i:Nat):(c :: l)[i+1]! = l[i]!:=by simp
theorem EH {l:List UInt8} {i:Nat} (h:l.length≤i):l[i]! = 0:=by
  rw [getElem!_def,List.getElem?_eq_none h];rfl
theorem KQ:∀ (l:List UInt8),(∀ i:Nat,l[i]! = 0)→∀ x,EI l x=0
  | [],_,_=>rfl
  | c :: l,h,x=>by
    have h0:c=0:=h 0
    rw [GJ,KQ l (fun i=>by have:=h (i+1);rwa [GE] at this) x,DX,h0];rfl
theorem LL:∀ (l m:List UInt8),(∀ i:Nat,l[i]! = m[i]!)→∀ x,EI l x=EI m x
  | [],m,h,x=>by rw [KQ m (fun i=>by rw [← h i];rfl) x];rfl
  | c :: l,[],h,x=>by rw [KQ (c :: l) (fun i=>by rw [h i];rfl) x];rfl
  | c :: l,d :: m,h,x=>by
    have h0:c=d:=h 0
    rw [GJ,GJ,LL l m (fun i=>by have:=h (i+1);rwa [GE,GE] at this) x,h0]
theorem PS:∀ (l m r:List UInt8),(∀ i:Nat,r[i]! = l[i]! ^^^ m[i]!)→∀ x,EI r x=EI l x ^^^ EI m x
  | l,m,[],h,x=>by
    have h1:∀ i:Nat,l[i]! = m[i]!:=fun i=>JI.1 ((h i).symm.trans (RJ i))
    rw [LL l m h1 x,xor_self];rfl
  | [],m,r,h,x=>by rw [LL r m (fun i=>by rw [h i,RJ,zero_xor]) x,RN,zero_xor]
  | l,[],r,h,x=>by rw [LL r l (fun i=>by rw [h i,RJ,xor_zero]) x,RN,xor_zero]
  | a :: l,b :: m,c :: r,h,x=>by
    have h0:c=a ^^^ b:=h 0
    rw [GJ,GJ,GJ,PS l m r (fun i=>by have:=h (i+1);rwa [GE,GE,GE] at this) x,PD,h0,xor4]
theorem SF (k:UInt8):∀ (l r:List UInt8),(∀ i:Nat,r[i]! = BQ l[i]! k)→∀ x,EI r x=BQ (EI l x) k
  | l,[],h,x=>by
    by_cases hk:k=0
    · rw [hk,JH];rfl
    · rw [KQ l (fun i=>by
        have:=(h i).symm.trans (RJ i)
        exact (NY.1 this).resolve_right hk) x,DX];rfl
  | [],r,h,x=>by rw [KQ r (fun i=>by rw [h i,RJ,DX]) x,RN,DX]
  | a :: l,c :: r,h,x=>by
    have h0:c=BQ a k:=h 0
    rw [GJ,GJ,SF k l r (fun i=>by have:=h (i+1);rwa [GE,GE] at this) x,PD,h0,GT,JN k x,← GT]
theorem pev_snoc (c x:UInt8):∀ (l:List UInt8),EI (l++[c]) x=EI l x ^^^ BQ c (JS x l.length)
  | []=>by simp [EI,JS,NJ,DX]
  | a :: l=>by
    rw [List.cons_append,GJ,pev_snoc c x l,GJ,PD,GT,QN,QN,UW a]
    rfl
theorem TN (l:List UInt8) (x:UInt8):∀ k,k≤l.length→EC l x k=(EI (l.take k) x,JS x k)
  | 0,_=>rfl
  | k+1,h=>by
    have ih:=TN l x k (by omega)
    unfold EC
    rw [ih,XX (by omega),pev_snoc,List.length_take,Nat.min_eq_left (by omega),GB,GB]
    rfl
theorem refEval_eq (l:List UInt8) (x:UInt8):FH l x=EI l x:=by
  unfold FH;rw [TN l x _ (Nat.le_refl _),List.take_length]
def sd (r:UInt8):List UInt8→List UInt8
  | []=>[]
  | _ :: l=>EI l r :: sd r l
theorem SV (r:UInt8):∀ (l:List UInt8) (i:Nat),(sd r l)[i]! = EI (l.drop (i+1)) r
  | [],i=>by rw [List.drop_nil];rfl
  | c :: l,0=>rfl
  | c :: l,i+1=>by rw [sd,GE,SV r l i];rfl
theorem VY (r x:UInt8):∀ (l:List UInt8),EI l x=BQ (x ^^^ r) (EI (sd r l) x) ^^^ EI l r
  | []=>by simp [sd,EI,JH]
  | c :: l=>by
    have ih:=VY r x l
    have e:BQ (EI l x) x=BQ (x ^^^ r) (EI (sd r (c :: l)) x) ^^^ BQ (EI l r) r:=by
      rw [ih]
      show _=BQ (x ^^^ r) (BQ (EI (sd r l) x) x ^^^ EI l r) ^^^ BQ (EI l r) r
      rw [PD,SK (x ^^^ r),GT,QN,PD x r (EI l r),QN,JN r (EI l r),xor_self,xor_zero,JN x (EI l r)]
    rw [GJ,GJ,e,QN]
theorem get_drop (l:List UInt8) (i j:Nat):(l.drop i)[j]! = l[i+j]!:=by
  rw [getElem!_def,getElem!_def,List.getElem?_drop]
theorem WU (l:List UInt8) (r:UInt8) (i:Nat):EI (l.drop i) r=BQ (EI (l.drop (i+1)) r) r ^^^ l[i]!:=by
  by_cases h:i<l.length
  · exact pev_drop h
  · rw [List.drop_eq_nil_of_le (by omega),List.drop_eq_nil_of_le (by omega),EH (by omega),RN,DX];rfl
theorem QS:∀ (xs:List UInt8),xs.Nodup→∀ (l:List UInt8),(∀ i:Nat,xs.length≤i→l[i]! = 0)→(∀ x∈xs,EI l x=0)→∀ i:Nat,l[i]! = 0
  | [],_,l,h,_=>fun i=>h i (Nat.zero_le _)
  | r :: xs,hn,l,h,hx=>by
    obtain ⟨hr,hn'⟩:=List.nodup_cons.1 hn
    have hpr:EI l r=0:=hx r (by simp)
    have hq:∀ i:Nat,(sd r l)[i]! = 0:=QS xs hn' (sd r l) (fun i hi=>by
        rw [SV]
        exact KQ _ (fun j=>by rw [get_drop];exact h _ (by simp;omega)) r) (fun x hxs=>by
        have h1:=VY r x l
        rw [hx x (by simp [hxs]),hpr,xor_zero] at h1
        rcases NY.1 h1.symm with h2|h2
        · exact absurd (JI.1 h2) (fun e=>hr (e ▸ hxs))
        · exact h2)
    intro i
    have hi:EI (l.drop i) r=0:=by
      cases i with
      | zero=>exact hpr
      | succ i=>rw [← SV];exact hq i
    have h2:=WU l r i
    rw [hi,← SV,hq i,DX,zero_xor] at h2
    exact h2.symm
theorem WY {xs:List UInt8} (hn:xs.Nodup) {l m:List UInt8} (hl:∀ i:Nat,xs.length≤i→l[i]! = 0) (hm:∀ i:Nat,xs.length≤i→m[i]! = 0) (h:∀ x∈xs,EI l x=EI m x):∀ i:Nat,l[i]! = m[i]!:=by
  intro i
  have hd:∃ d:List UInt8,∀ i:Nat,d[i]! = l[i]! ^^^ m[i]!:=by
    refine ⟨(List.range (max l.length m.length)).map fun i=>l[i]! ^^^ m[i]!,fun i=>?_⟩
    by_cases hi:i<max l.length m.length
    · rw [getElem!_pos _ i (by simpa using hi)];simp
    · rw [EH (by simpa using hi),EH (l:=l) (by omega),EH (l:=m) (by omega)];rfl
  obtain ⟨d,hd⟩:=hd
  have:=QS xs hn d (fun i hi=>by rw [hd,hl i hi,hm i hi];rfl) (fun x hx=>by rw [PS l m d hd,h x hx,xor_self]) i
  rw [hd] at this
  exact JI.1 this
theorem SG {l m:List UInt8} (hlen:l.length=m.length) (h:∀ i:Nat,l[i]! = m[i]!):l=m:=by
  apply List.ext_getElem hlen
  intro i h1 h2
  have:=h i
  rwa [getElem!_pos l i h1,getElem!_pos m i h2] at this
open Go.Fw
theorem JZ (l:List UInt8) (i:Nat) (v:UInt8) (j:Nat):(l.set i v)[j]! = if i=j∧i<l.length then v else l[j]!:=by
  rw [getElem!_def,List.getElem?_set,getElem!_def]
  by_cases h:i=j
  · subst h
    by_cases h2:i<l.length
    · simp [h2]
    · rw [if_pos rfl,if_neg h2,if_neg (fun h=>h2 h.2),List.getElem?_eq_none (by omega)]
  · rw [if_neg h,if_neg (fun h'=>h h'.1)]
theorem MB (l m:List UInt8) (i:Nat):(l++m)[i]! = if i<l.length then l[i]! else m[i - l.length]!:=by
  by_cases h:i<l.length
  · rw [if_pos h,getElem!_def,getElem!_def,List.getElem?_append_left h]
  · rw [if_neg h,getElem!_def,getElem!_def,List.getElem?_append_right (by omega)]
theorem IR (n i:Nat):(List.replicate n (0:UInt8))[i]! = 0:=by
  by_cases h:i<n
  · rw [getElem!_pos _ i (by simpa using h)];simp
  · exact EH (by simpa using h)
theorem GP (l:List UInt8) (k:UInt8) (i:Nat):(l.map (BQ · k))[i]! = BQ l[i]! k:=by
  by_cases h:i<l.length
  · rw [getElem!_pos _ i (by simpa using h),getElem!_pos _ i h];simp
  · rw [EH (by simpa using h),EH (by omega),DX]
theorem SJ {l:List UInt8} {k:Nat} (x:UInt8):(l.take k).contains x=true↔∃ i,i<k∧i<l.length∧l[i]! = x:=by
  rw [List.contains_iff_mem,List.mem_iff_getElem?]
  constructor
  · rintro ⟨i,h⟩
    rw [List.getElem?_take] at h
    split at h
    · rename_i hk
      obtain ⟨h1,h2⟩:=List.getElem?_eq_some_iff.1 h
      exact ⟨i,hk,h1,by rw [getElem!_pos l i h1,h2]⟩
    · cases h
  · rintro ⟨i,hk,hl,h⟩
    exact ⟨i,by rw [List.getElem?_take,if_pos hk,List.getElem?_eq_getElem hl,← h,getElem!_pos l i hl]⟩
theorem GN {l:List UInt8}:l.Nodup↔∀ i j,i<j→j<l.length→l[i]!≠l[j]!:=by
  rw [List.nodup_iff_pairwise_ne,List.pairwise_iff_getElem]
  constructor
  · intro h i j hij hj
    rw [getElem!_pos l i (by omega),getElem!_pos l j hj];exact h i j (by omega) hj hij
  · intro h i j hi hj hij
    have:=h i j hij hj
    rwa [getElem!_pos l i hi,getElem!_pos l j hj] at this
theorem scan_false {f:Nat→Option Bool} (m i:Nat) (hf:∀ k,f k=none∨f k=some true):EX f false i m=false↔∀ k,i≤k→k<i+m→f k=none:=by
  induction m generalizing i with
  | zero=>exact ⟨fun _ k h1 h2=>by omega,fun _=>rfl⟩
  | succ m ih=>
    unfold EX
    rcases hf i with h|h
    · rw [h];simp only
      rw [ih (i+1)]
      constructor
      · intro h1 k hk hk2
        rcases Nat.lt_or_eq_of_le hk with h3|h3
        · exact h1 k (by omega) (by omega)
        · exact h3 ▸ h
      · intro h1 k hk hk2;exact h1 k (by omega) (by omega)
    · rw [h];simp only
      constructor
      · intro e;cases e
      · intro h1;rw [h1 i (Nat.le_refl _) (by omega)] at h;cases h
theorem QA {f:Nat→Option Bool} (m i:Nat) (hf:∀ k,f k=none∨f k=some false):EX f true i m=true↔∀ k,i≤k→k<i+m→f k=none:=by
  induction m generalizing i with
  | zero=>exact ⟨fun _ k h1 h2=>by omega,fun _=>rfl⟩
  | succ m ih=>
    unfold EX
    rcases hf i with h|h
    · rw [h];simp only
      rw [ih (i+1)]
      constructor
      · intro h1 k hk hk2
        rcases Nat.lt_or_eq_of_le hk with h3|h3
        · exact h1 k (by omega) (by omega)
        · exact h3 ▸ h
      · intro h1 k hk hk2;exact h1 k (by omega) (by omega)
    · rw [h];simp only
      constructor
      · intro e;cases e
      · intro h1;rw [h1 i (Nat.le_refl _) (by omega)] at h;cases h
theorem LM (xs ys:List UInt8):FY xs ys=false↔xs.length=ys.length∧xs.Nodup:=by
  unfold FY twice
  by_cases e:xs.length=ys.length
  · rw [if_neg (by simp;omega)]
    rw [scan_false _ _ (fun k=>by split <;> simp),GN]
    constructor
    · intro h
      refine ⟨e,fun i j hij hj hx=>?_⟩
      have:=h j (Nat.zero_le _) (by omega)
      rw [if_pos ((SJ _).2 ⟨i,hij,by omega,hx⟩)] at this;cases this
    · rintro ⟨_,h⟩ k _ hk
      rw [if_neg]
      intro hc
      obtain ⟨i,hi,hl,hx⟩:=(SJ _).1 hc
      exact h i k hi (by omega) hx
  · rw [if_pos (by simp;omega)];simp [e]
theorem XD (xs ys:List UInt8):EW xs ys=true↔xs.length=ys.length∧xs.Nodup:=by
  unfold EW NT
  by_cases e:xs.length=ys.length
  · rw [if_neg (by simp;omega)]
    rw [QA _ _ (fun k=>by split <;> simp),GN]
    have key:∀ k,MN xs k=true↔∀ i,i<k→xs[i]!≠xs[k]!:=fun k=>by
      unfold MN
      rw [QA _ _ (fun k=>by split <;> simp)]
      constructor
      · intro h i hi hx
        have:=h i (Nat.zero_le _) (by omega)
        rw [if_pos (by simpa using hx)] at this;cases this
      · intro h i _ hi
        rw [if_neg (by simpa using h i (by omega))]
    constructor
    · intro h
      refine ⟨e,fun i j hij hj=>?_⟩
      have:=h j (Nat.zero_le _) (by omega)
      split at this
      · rename_i h1;exact (key j).1 h1 i hij
      · cases this
    · rintro ⟨_,h⟩ k _ hk
      rw [if_pos ((key k).2 fun i hi=>h i k hi (by omega))]
  · rw [if_pos (by simp;omega)];simp [e]
theorem refPoints_eq (xs ys:List UInt8):EW xs ys = !FY xs ys:=by
  rw [Bool.eq_iff_iff,XD,Bool.not_eq_true',LM]
theorem tmS_get (l:List UInt8) (a b:UInt8):∀ k,k≤l.length→∀ i:Nat,(OK l a b k)[i]! = (if i<k then BQ l[i]! a else 0) ^^^ (if 0<i∧i - 1<k then BQ l[i - 1]! b else 0)
  | 0,_,i=>by rw [OK,IR,if_neg (by omega),if_neg (by omega)];rfl
  | k+1,h,i=>by
    have ih:=tmS_get l a b k (by omega)
    have hl:=JV l a b k
    simp only [OK,JZ,List.length_set,hl,ih,GB]
    by_cases h1:k+1=i
    · subst h1
      simp only [Nat.add_sub_cancel,true_and]
      repeat' split
      all_goals first|omega|(simp;done)|(simp_all;done)
    · by_cases h2:k=i
      · subst h2
        repeat' split
        all_goals first|omega|(simp [UW];done)|(simp_all [UW];done)
      · rw [if_neg (by omega),if_neg (by omega)]
        congr 1
        · by_cases h3:i<k
          · rw [if_pos h3,if_pos (by omega)]
          · rw [if_neg h3,if_neg (by omega)]
        · by_cases h3:0<i∧i - 1<k
          · rw [if_pos h3,if_pos (by omega)]
          · rw [if_neg h3,if_neg (by omega)]
theorem pev_times (l:List UInt8) (a b x:UInt8):EI (RY l a b) x=BQ (EI l x) (a ^^^ BQ b x):=by
  have h1:EI (l.map (BQ · a)) x=BQ (EI l x) a:=SF a l _ (fun i=>GP l a i) x
  have h2:EI (0 :: l.map (BQ · b)) x=BQ (BQ (EI l x) b) x:=by rw [GJ,SF b l _ (fun i=>GP l b i) x,xor_zero]
  rw [PS (l.map (BQ · a)) (0 :: l.map (BQ · b)) (RY l a b) (fun i=>by
    rw [RY,tmS_get l a b _ (Nat.le_refl _) i,GP]
    congr 1
    · by_cases h:i<l.length
      · rw [if_pos h]
      · rw [if_neg h,EH (by omega),DX]
    · cases i with
      | zero=>rfl
      | succ i=>
        rw [GE,GP]
        by_cases h:i<l.length
        · rw [if_pos (by omega)];rfl
        · rw [if_neg (by omega),EH (l:=l) (by omega),DX]) x,h1,h2,GT,SK]
theorem addS_get (l one:List UInt8):∀ k,k≤l.length→∀ i:Nat,(PM l one k)[i]! = l[i]! ^^^ (if i<k then one[i]! else 0)
  | 0,_,i=>by simp [PM]
  | k+1,h,i=>by
    have ih:=addS_get l one k (by omega)
    simp only [PM,JZ,LS,ih]
    by_cases h1:k=i
    · subst h1;rw [if_pos (by simp;omega),if_neg (by omega),if_pos (by omega),xor_zero]
    · rw [if_neg (by omega)]
      congr 1
      by_cases h3:i<k
      · rw [if_pos h3,if_pos (by omega)]
      · rw [if_neg h3,if_neg (by omega)]
theorem pev_addS (l one:List UInt8) (h:one.length≤l.length) (x:UInt8):EI (PM l one one.length) x=EI l x ^^^ EI one x:=
  PS l one _ (fun i=>by
    rw [addS_get l one _ h i]
    by_cases h3:i<one.length
    · rw [if_pos h3]
    · rw [if_neg h3,EH (l:=one) (by omega)]) x
theorem refOver_one {d:UInt8} (h:d≠0):EY 1 d=FU d:=by rw [QO _ _ h,RO]
theorem refOver_zero (d:UInt8):EY 0 d=0:=by unfold EY;rw [GB,DX]
theorem refOver_self {d:UInt8} (h:d≠0):EY d d=1:=by rw [QO _ _ h,NL h]
theorem WJ {xs ys:List UInt8} (hn:xs.Nodup) {i:Nat} (hi:i<xs.length) (x:UInt8):∀ k,k≤xs.length→EI (DQ xs ys i k) x=MT xs x i ys[i]! k
  | 0,_=>by simp [DQ,MT,EI,DX]
  | k+1,h=>by
    have ih:=WJ (ys:=ys) hn hi x k (by omega)
    unfold DQ MT
    by_cases hk:k=i
    · rw [if_neg (by simpa using hk),if_neg (by simpa using hk),ih]
    · have hd:xs[i]! ^^^ xs[k]!≠0:=fun e=>by
        rw [JI] at e
        rcases Nat.lt_or_gt_of_ne hk with h1|h1
        · exact GN.1 hn k i h1 hi e.symm
        · exact GN.1 hn i k h1 (by omega) e
      rw [if_pos hk,if_pos hk,pev_times,ih,GB,GB,refOver_one hd,QO _ _ hd,← SK,JN (FU _),UW]
theorem VU {xs ys:List UInt8} (hn:xs.Nodup) (x:UInt8):∀ i,i≤xs.length→EI (GG xs ys i) x=TF xs ys x i
  | 0,_=>by simp only [GG,TF];exact KQ _ (IR _) x
  | i+1,h=>by
    unfold GG TF
    rw [pev_addS _ _ (by rw [NO,JD];split <;> omega),VU hn x i (by omega),WJ hn (by omega) x _ (Nat.le_refl _)]
theorem OD {xs:List UInt8} {i j:Nat} (n0:UInt8) (hij:j≠i):∀ k,j<k→MT xs xs[j]! i n0 k=0
  | 0,h=>by omega
  | k+1,h=>by
    unfold MT
    by_cases hk:j=k
    · subst hk;rw [if_pos hij,xor_self,refOver_zero,GB,JH]
    · split
      · rw [OD n0 hij k (by omega),GB,DX]
      · exact OD n0 hij k (by omega)
theorem PF {xs:List UInt8} (hn:xs.Nodup) {i:Nat} (hi:i<xs.length) (n0:UInt8):∀ k,k≤xs.length→MT xs xs[i]! i n0 k=n0
  | 0,_=>rfl
  | k+1,h=>by
    unfold MT
    split
    · rename_i hk
      have hd:xs[i]! ^^^ xs[k]!≠0:=fun e=>by
        rw [JI] at e
        rcases Nat.lt_or_gt_of_ne hk with h1|h1
        · exact GN.1 hn k i h1 hi e.symm
        · exact GN.1 hn i k h1 (by omega) e
      rw [PF hn hi n0 k (by omega),refOver_self hd,GB,NJ]
    · exact PF hn hi n0 k (by omega)
theorem XL {xs ys:List UInt8} (hn:xs.Nodup) {j:Nat} (hj:j<xs.length):∀ i,i≤xs.length→TF xs ys xs[j]! i=if j<i then ys[j]! else 0
  | 0,_=>rfl
  | i+1,h=>by
    unfold TF
    rw [XL hn hj i (by omega)]
    by_cases hji:j=i
    · subst hji;rw [if_neg (by omega),if_pos (by omega),PF hn hj _ _ (Nat.le_refl _),zero_xor]
    · rw [OD _ hji _ hj,xor_zero]
      by_cases h1:j<i
      · rw [if_pos h1,if_pos (by omega)]
      · rw [if_neg h1,if_neg (by omega)]
structure Thr (xs ys l:List UInt8):Prop where
  len:l.length=xs.length
  at_:∀ i,i<xs.length→EI l xs[i]! = ys[i]!
theorem Thr.unique {xs ys l m:List UInt8} (hn:xs.Nodup) (h:Thr xs ys l) (hm:∀ i:Nat,xs.length≤i→m[i]! = 0) (hv:∀ i,i<xs.length→EI m xs[i]! = ys[i]!):∀ i:Nat,l[i]! = m[i]!:=
  WY hn (fun i hi=>EH (by rw [h.len];exact hi)) hm (fun x hx=>by
    obtain ⟨i,hi,rfl⟩:=List.getElem_of_mem hx
    have h1:=h.at_ i hi
    have h2:=hv i hi
    rw [getElem!_pos xs i hi] at h1 h2
    rw [h1,h2])
theorem Thr.eq {xs ys l m:List UInt8} (hn:xs.Nodup) (h:Thr xs ys l) (k:Thr xs ys m):l=m:=
  SG (by rw [h.len,k.len]) (h.unique hn (fun i hi=>EH (by rw [k.len];exact hi)) k.at_)
theorem ref_thr {xs ys:List UInt8} (hn:xs.Nodup):Thr xs ys (GG xs ys xs.length):=
  ⟨JD xs ys _,fun i hi=>by rw [VU hn _ _ (Nat.le_refl _),XL hn hi _ (Nat.le_refl _),if_pos hi]⟩
theorem zrS_get (p:List UInt8) (x:UInt8):∀ j,j≤p.length→∀ i:Nat,(LT p x j)[i]! = if p.length - j≤i∧i<p.length then BQ p[i]! x ^^^ (if 0<i then p[i - 1]! else 0) else p[i]!
  | 0,_,i=>by rw [LT,if_neg (by omega)]
  | j+1,h,i=>by
    have ih:=zrS_get p x j (by omega)
    have hl:=HL p x j
    unfold LT
    simp only
    by_cases h1:p.length - 1 - j=i
    · subst h1
      by_cases h0:0<p.length - 1 - j
      · rw [if_pos h0]
        rw [JZ,List.length_set,hl,if_pos ⟨rfl,by omega⟩,JZ,hl,if_pos ⟨rfl,by omega⟩,JZ,if_neg (by omega),ih,ih,if_neg (by omega),if_neg (by omega),if_pos ⟨by omega,by omega⟩,if_pos h0]
      · rw [if_neg h0]
        rw [JZ,hl,if_pos ⟨rfl,by omega⟩,ih,if_neg (by omega),if_pos ⟨by omega,by omega⟩,if_neg h0,xor_zero]
    · have e:∀ v u:UInt8,(if 0<p.length - 1 - j then ((LT p x j).set (p.length - 1 - j) v).set (p.length - 1 - j) u else (LT p x j).set (p.length - 1 - j) v)[i]! = (LT p x j)[i]!:=fun v u=>by
        split
        · rw [JZ,if_neg (by omega),JZ,if_neg (by omega)]
        · rw [JZ,if_neg (by omega)]
      rw [e,ih]
      by_cases h2:p.length - j≤i∧i<p.length
      · rw [if_pos h2,if_pos (show p.length - (j+1)≤i∧i<p.length by omega)]
      · rw [if_neg h2,if_neg (by omega)]
theorem zrO_get (xs:List UInt8) (k i:Nat):(JG xs (k+1))[i]! = BQ (JG xs k)[i]! xs[k]! ^^^ (if 0<i then (JG xs k)[i - 1]! else 0):=by
  have hl:=FT xs k
  have e:∀ i:Nat,(JG xs k++[0])[i]! = (JG xs k)[i]!:=fun i=>by
    rw [MB]
    by_cases h:i<(JG xs k).length
    · rw [if_pos h]
    · rw [if_neg h,EH (l:=JG xs k) (by omega)]
      by_cases h2:i=(JG xs k).length
      · subst h2;rw [Nat.sub_self];rfl
      · exact EH (by simp;omega)
  rw [JG,zrS_get _ _ _ (Nat.le_refl _) i,e,e]
  by_cases h:i<(JG xs k++[0]).length
  · rw [if_pos ⟨by omega,h⟩]
  · rw [if_neg (by omega)]
    simp only [List.length_append,List.length_singleton] at h
    rw [EH (l:=JG xs k) (by omega),DX]
    split
    · rw [EH (l:=JG xs k) (by omega)];rfl
    · rfl
theorem zrO_pev (xs:List UInt8) (k:Nat) (x:UInt8):EI (JG xs (k+1)) x=BQ (EI (JG xs k) x) (x ^^^ xs[k]!):=by
  have h1:EI ((JG xs k).map (BQ · xs[k]!)) x=BQ (EI (JG xs k) x) xs[k]!:=SF _ _ _ (fun i=>GP _ _ i) x
  have h2:EI (0 :: JG xs k) x=BQ (EI (JG xs k) x) x:=by rw [GJ,xor_zero]
  rw [PS ((JG xs k).map (BQ · xs[k]!)) (0 :: JG xs k) (JG xs (k+1)) (fun i=>by
    rw [zrO_get,GP]
    congr 1
    cases i with
    | zero=>rfl
    | succ i=>rw [GE,if_pos (by omega)];rfl) x,h1,h2,← SK,UW]
theorem zrO_lead (xs:List UInt8):∀ k,(JG xs k)[k]! = 1
  | 0=>rfl
  | k+1=>by
    rw [zrO_get,EH (l:=JG xs k) (by rw [FT];omega),DX,zero_xor,if_pos (by omega)]
    exact zrO_lead xs k
theorem VQ {xs:List UInt8} {j:Nat}:∀ k,j<k→EI (JG xs k) xs[j]! = 0
  | 0,h=>by omega
  | k+1,h=>by
    rw [zrO_pev]
    by_cases hj:j=k
    · subst hj;rw [xor_self,JH]
    · rw [VQ k (by omega),DX]
theorem sdC_eq {p:List UInt8} {x:UInt8} {n:Nat} (hp:p.length=n+1):∀ j,j≤n→UN p x n j=EI (p.drop (n+1 - j)) x
  | 0,_=>by rw [Nat.sub_zero,← hp,List.drop_length];rfl
  | j+1,h=>by
    unfold UN
    rw [sdC_eq hp j (by omega),WU p x (n+1 - (j+1)),show n+1 - (j+1)+1=n+1 - j by omega,UW,show n - 1 - j+1=n+1 - (j+1) by omega]
theorem sdQ_get {q0 p:List UInt8} {x:UInt8} {n:Nat} (hq:q0.length=n):∀ j,j≤n→∀ i:Nat,(IO q0 p x n j)[i]! = if n - j≤i∧i<n then UN p x n (n - i) else q0[i]!
  | 0,_,i=>by rw [IO,if_neg (by omega)]
  | j+1,h,i=>by
    unfold IO
    rw [JZ,JX,sdQ_get hq j (by omega)]
    by_cases h1:n - 1 - j=i
    · rw [if_pos ⟨h1,by omega⟩,if_pos (by omega)];congr 1;omega
    · rw [if_neg (by omega)]
      by_cases h2:n - j≤i∧i<n
      · rw [if_pos h2,if_pos (by omega)]
      · rw [if_neg h2,if_neg (by omega)]
theorem sdQ_eq {q0 p:List UInt8} {x:UInt8} {n:Nat} (hq:q0.length=n) (hp:p.length=n+1):∀ i:Nat,(IO q0 p x n n)[i]! = (sd x p)[i]!:=by
  intro i
  rw [sdQ_get hq n (Nat.le_refl _),SV]
  by_cases h:i<n
  · rw [if_pos (by omega),sdC_eq hp _ (by omega),show n+1 - (n - i)=i+1 by omega]
  · rw [if_neg (by omega),EH (by omega),List.drop_eq_nil_of_le (by omega)];rfl
theorem adF_get (l q:List UInt8) (f:UInt8):∀ k,k≤l.length→∀ i:Nat,(adF l q f k)[i]! = l[i]! ^^^ (if i<k then BQ q[i]! f else 0)
  | 0,_,i=>by simp [adF]
  | k+1,h,i=>by
    have ih:=adF_get l q f k (by omega)
    simp only [adF,JZ,JU,ih]
    by_cases h1:k=i
    · subst h1;rw [if_pos (by simp;omega),if_neg (by omega),if_pos (by omega),xor_zero]
    · rw [if_neg (by omega)]
      congr 1
      by_cases h3:i<k
      · rw [if_pos h3,if_pos (by omega)]
      · rw [if_neg h3,if_neg (by omega)]
theorem pev_adF {l q:List UInt8} {f:UInt8} {n:Nat} (hl:l.length=n) (hq:q.length=n) (x:UInt8):EI (adF l q f n) x=EI l x ^^^ BQ (EI q x) f:=by
  rw [PS l (q.map (BQ · f)) _ (fun i=>by
    rw [adF_get l q f _ (by omega) i,GP]
    by_cases h3:i<n
    · rw [if_pos h3]
    · rw [if_neg h3,EH (l:=q) (by omega),DX]) x,SF f q _ (fun i=>GP q f i) x]
theorem coQ_pev {xs:List UInt8} {i:Nat} (hi:i<xs.length) (x:UInt8):EI (HQ (BD xs) xs xs.length (i+1)) x=EI (sd xs[i]! (BD xs)) x:=
  LL _ _ (fun j=>by rw [HQ];exact sdQ_eq (IM _ _ _ _) (GD xs) j) x
theorem YG {xs:List UInt8} (hn:xs.Nodup) {i j:Nat} (hi:i<xs.length) (hj:j<xs.length) (hij:j≠i):EI (HQ (BD xs) xs xs.length (i+1)) xs[j]! = 0:=by
  rw [coQ_pev hi]
  have h1:=VY xs[i]! xs[j]! (BD xs)
  rw [show EI (BD xs) xs[j]! = 0 from VQ _ hj,show EI (BD xs) xs[i]! = 0 from VQ _ hi,xor_zero] at h1
  rcases NY.1 h1.symm with h2|h2
  · rw [JI] at h2
    rcases Nat.lt_or_gt_of_ne hij with h3|h3
    · exact absurd h2 (GN.1 hn j i h3 hi)
    · exact absurd h2.symm (GN.1 hn i j h3 hj)
  · exact h2
theorem coQ_self {xs:List UInt8} (hn:xs.Nodup) {i:Nat} (hi:i<xs.length):EI (HQ (BD xs) xs xs.length (i+1)) xs[i]!≠0:=by
  intro e
  have hz:=QS xs hn (HQ (BD xs) xs xs.length (i+1)) (fun j hj=>EH (by rw [IM];exact hj)) (fun x hx=>by
    obtain ⟨j,hj,rfl⟩:=List.getElem_of_mem hx
    by_cases hji:j=i
    · subst hji;rw [getElem!_pos xs j hj] at e;exact e
    · have:=YG hn hi hj hji
      rwa [getElem!_pos xs j hj] at this) (xs.length - 1)
  rw [HQ,sdQ_eq (IM _ _ _ _) (GD xs),SV,show xs.length - 1+1=xs.length by omega,WU,List.drop_eq_nil_of_le (by rw [GD];omega),RN,DX,zero_xor] at hz
  rw [BD,zrO_lead] at hz
  exact absurd hz (by decide)
theorem coL_at {xs ys:List UInt8} (hn:xs.Nodup) {j:Nat} (hj:j<xs.length):∀ i,i≤xs.length→EI (QH (BD xs) xs ys xs.length i) xs[j]! = if j<i then ys[j]! else 0
  | 0,_=>by simp only [QH];rw [KQ _ (IR _)];rfl
  | i+1,h=>by
    unfold QH
    rw [pev_adF (JA _ _ _ _ _) (IM _ _ _ _),coL_at hn hj i (by omega)]
    by_cases hji:j=i
    · subst hji
      rw [if_neg (by omega),if_pos (by omega),zero_xor,gmul_lc,NL (coQ_self hn hj),NJ]
    · rw [YG hn (by omega) hj hji,DX,xor_zero]
      by_cases h1:j<i
      · rw [if_pos h1,if_pos (by omega)]
      · rw [if_neg h1,if_neg (by omega)]
theorem co_thr {xs ys:List UInt8} (hn:xs.Nodup):Thr xs ys (QH (BD xs) xs ys xs.length xs.length):=
  ⟨JA _ _ _ _ _,fun i hi=>by rw [coL_at hn hi _ (Nat.le_refl _),if_pos hi]⟩
theorem NM {xs ys:List UInt8} (h:FY xs ys=false):(EV xs ys).2=0∧Thr xs ys (EV xs ys).1∧xs.length=ys.length∧xs.Nodup:=by
  have h':=(LM xs ys).1 h
  unfold EV;rw [h]
  exact ⟨rfl,co_thr h'.2,h'⟩
theorem coeff_bad {xs ys:List UInt8} (h:FY xs ys=true):EV xs ys=([],1):=by unfold EV;rw [h];rfl
theorem TO (xs ys:List UInt8):FO xs ys=EV xs ys:=by
  unfold FO EV
  rw [refPoints_eq]
  cases h:FY xs ys with
  | true=>rfl
  | false=>
    have h':=(LM xs ys).1 h
    simp only [Bool.not_false,Bool.not_true]
    exact Prod.ext ((ref_thr h'.2).eq h'.2 (co_thr h'.2)) rfl
theorem through_ok {xs ys:List UInt8} (at_:UInt8) (h:FY xs ys=false):DK xs ys at_=(EI (EV xs ys).1 at_,0):=by
  unfold DK;rw [(NM h).1];rfl
open Go.Fw
def XI (n:Nat) (f:Nat→UInt8):List UInt8:=(List.range n).map f
theorem tab_succ (n:Nat) (f:Nat→UInt8):XI (n+1) f=XI n f++[f n]:=by simp [XI,List.range_succ]
theorem LG (n:Nat) (f:Nat→UInt8):(XI n f).length=n:=by simp [XI]
theorem OC (n:Nat) (f:Nat→UInt8) (i:Nat):(XI n f)[i]! = if i<n then f i else 0:=by
  by_cases h:i<n
  · rw [if_pos h,getElem!_pos _ i (by rw [LG];exact h)];simp [XI]
  · rw [if_neg h,EH (by rw [LG];omega)]
open Go.Fw
theorem VS {β:Type} {f:Nat→Option β} {d r:β} (hf:∀ k,f k=none∨f k=some r):∀ (m i:Nat),(EX f d i m=d∧∀ k,i≤k→k<i+m→f k=none)∨(EX f d i m=r∧∃ k,i≤k∧k<i+m∧f k=some r)
  | 0,i=>.inl ⟨rfl,fun k h1 h2=>by omega⟩
  | m+1,i=>by
    unfold EX
    rcases hf i with h|h
    · rw [h]
      rcases VS (d:=d) hf m (i+1) with ⟨h1,h2⟩|⟨h1,k,h2,h3,h4⟩
      · refine .inl ⟨h1,fun k hk hk2=>?_⟩
        rcases Nat.lt_or_eq_of_le hk with h3|h3
        · exact h2 k (by omega) (by omega)
        · exact h3 ▸ h
      · exact .inr ⟨h1,k,by omega,by omega,h4⟩
    · rw [h];exact .inr ⟨rfl,i,Nat.le_refl _,by omega,h⟩
theorem mulb {a b:Int} (ha:0≤a) (ha':a≤1000000) (hb:0≤b) (hb':b≤1000000):-9223372036854775808≤a*b∧a*b≤9223372036854775807:=by
  have h1:a*b≤1000000*1000000:=Int.mul_le_mul ha' hb' hb (by omega)
  have h2:=Int.mul_nonneg ha hb
  omega
theorem mulbN {a b:Nat} (ha:a≤1000000) (hb:b≤1000000):-9223372036854775808≤((a*b:Nat):Int)∧((a*b:Nat):Int)≤9223372036854775807:=by
  have h1:a*b≤1000000*1000000:=Nat.mul_le_mul ha hb
  omega
def QW (f:Share):Bool:=((decide (f.threshold<1) || decide (f.many<f.threshold)) || decide (8<f.many)) || decide (64<(f.data.length:Int))
def NR (f s:Share):Bool:=(s.threshold != f.threshold || s.many != f.many) || ((s.data.length:Int) != (f.data.length:Int))
def JO (l:List Share) (k:Nat):Int:=if k=0 then 0 else l[k - 1]!.index
def alIdx (f s:Share) (last:Int):Bool:=decide (s.index≤last) || decide (f.many<s.index)
def FG (l:List Share):Bool:=if (l.length:Int) == 0 then false else if QW l[0]! then false else
  EX (fun k=>if NR l[0]! l[k]! then some false else if alIdx l[0]! l[k]! (JO l k) then some false else none) true 0 (l.length - 0)
def XT (l:List Share) (k:Nat):Bool:=((((NR l[0]! l[k]!) || decide (l[k]!.index<1)) || decide (l[0]!.many<l[k]!.index)) || (decide (0<(k:Int)) && decide (l[k]!.index≤l[k - 1]!.index)))
def DH (l:List Share):Bool:=if (l.length:Int) == 0 then false else if QW l[0]! then false else EX (fun k=>if XT l k then some false else none) true 0 (l.length - 0)
def ep1 (l:List Share) (k:Nat):Bool:=(l[k]!.epoch != l[0]!.epoch || decide (l[k]!.epoch<0)) || decide (1048576<l[k]!.epoch)
def BO (l:List Share):Int:=if !FG l then 80 else EX (fun k=>if ep1 l k then some 81 else none) 0 0 (l.length - 0)
def BP (l:List Share):Int:=if !DH l then 80 else EX (fun k=>if ep1 l k then some 81 else none) 0 0 (l.length - 0)
theorem MW:(∀ a b:Bool,((a || b)=true)=(a=true∨b=true))∧(∀ a b:Bool,((a && b)=true)=(a=true∧b=true))∧(∀ b:Bool,(¬ b=true)=(b=false))
    ∧(∀ a b:Bool,((a || b)=false)=(a=false∧b=false))∧(∀ a b:Bool,((a && b)=false)=(a=false∨b=false))
    ∧(∀ (α:Type) [BEq α] [LawfulBEq α] (a b:α),((a != b)=true)=(a≠b))∧(∀ (α:Type) [BEq α] [LawfulBEq α] (a b:α),((a == b)=true)=(a=b))
    ∧(∀ (α:Type) [BEq α] [LawfulBEq α] (a b:α),((a != b)=false)=(a=b))∧(∀ (α:Type) [BEq α] [LawfulBEq α] (a b:α),((a == b)=false)=(a≠b))
    ∧(∀ (p:Prop) [Decidable p],(decide p=true)=p)∧(∀ (p:Prop) [Decidable p],(decide p=false) = ¬ p)
    ∧(∀ (α:Type) (a b:α),(a≠b) = ¬ a=b)∧(∀ b:Bool,((!b)=true)=(b=false))∧(∀ b:Bool,((!b)=false)=(b=true))∧((!true)=false)∧((!false)=true)
    ∧((false=true)=False)∧((¬ True)=False)∧((¬ False)=True)
    ∧(∀ f:Share,QW f=(((decide (f.threshold<1) || decide (f.many<f.threshold)) || decide (8<f.many)) || decide (64<(f.data.length:Int))))
    ∧(∀ f s:Share,NR f s=((s.threshold != f.threshold || s.many != f.many) || ((s.data.length:Int) != (f.data.length:Int))))
    ∧(∀ (f s:Share) (last:Int),alIdx f s last=(decide (s.index≤last) || decide (f.many<s.index)))
    ∧(∀ (l:List Share) (k:Nat),XT l k=((((NR l[0]! l[k]!) || decide (l[k]!.index<1)) || decide (l[0]!.many<l[k]!.index)) || (decide (0<(k:Int)) && decide (l[k]!.index≤l[k - 1]!.index))))
    ∧(∀ (l:List Share) (k:Nat),ep1 l k=((l[k]!.epoch != l[0]!.epoch || decide (l[k]!.epoch<0)) || decide (1048576<l[k]!.epoch))):=
  ⟨dbs.1,dbs.2.1,dbs.2.2.1,dbs.2.2.2.1,dbs.2.2.2.2.1,dbs.2.2.2.2.2.1,dbs.2.2.2.2.2.2.1,dbs.2.2.2.2.2.2.2.1,dbs.2.2.2.2.2.2.2.2.1,dbs.2.2.2.2.2.2.2.2.2.1,dbs.2.2.2.2.2.2.2.2.2.2.1,dbs.2.2.2.2.2.2.2.2.2.2.2.1,dbs.2.2.2.2.2.2.2.2.2.2.2.2.1,dbs.2.2.2.2.2.2.2.2.2.2.2.2.2.1,dbs.2.2.2.2.2.2.2.2.2.2.2.2.2.2.1,dbs.2.2.2.2.2.2.2.2.2.2.2.2.2.2.2.1,dbs.2.2.2.2.2.2.2.2.2.2.2.2.2.2.2.2.1,dbs.2.2.2.2.2.2.2.2.2.2.2.2.2.2.2.2.2.1,dbs.2.2.2.2.2.2.2.2.2.2.2.2.2.2.2.2.2.2,fun _=>rfl,fun _ _=>rfl,fun _ _ _=>rfl,fun _ _=>rfl,fun _ _=>rfl⟩
structure Good (l:List Share):Prop where
  pos:0<l.length
  t1:1≤l[0]!.threshold
  tm:l[0]!.threshold≤l[0]!.many
  m8:l[0]!.many≤8
  d64:l[0]!.data.length≤64
  th:∀ k,k<l.length→l[k]!.threshold=l[0]!.threshold
  ma:∀ k,k<l.length→l[k]!.many=l[0]!.many
  da:∀ k,k<l.length→l[k]!.data.length=l[0]!.data.length
  ix:∀ k,k<l.length→1≤l[k]!.index∧l[k]!.index≤l[0]!.many
  inc:∀ k,k+1<l.length→l[k]!.index<l[k+1]!.index
theorem Good.mono {l:List Share} (h:Good l):∀ (j i:Nat),i<j→j<l.length→l[i]!.index<l[j]!.index
  | 0,i,hi,_=>by omega
  | j+1,i,hi,hj=>by
    have:=h.inc j hj
    by_cases hij:i=j
    · subst hij;exact this
    · have:=h.mono j i (by omega) (by omega);omega
theorem OA (f:Share):QW f=false↔1≤f.threshold∧f.threshold≤f.many∧f.many≤8∧f.data.length≤64:=by
  unfold QW;simp only [Bool.or_eq_false_iff,decide_eq_false_iff_not];omega
theorem IF (f s:Share):NR f s=false↔s.threshold=f.threshold∧s.many=f.many∧s.data.length=f.data.length:=by
  unfold NR;simp only [Bool.or_eq_false_iff,bne_eq_false_iff_eq];omega
theorem TA (l:List Share):FG l=true↔Good l:=by
  unfold FG
  by_cases h0:l.length=0
  · rw [if_pos (by simp;exact List.eq_nil_of_length_eq_zero h0)]
    exact ⟨fun h=>(by cases h),fun h=>by have:=h.pos;omega⟩
  rw [if_neg (by simp;intro h;subst h;simp at h0)]
  cases h1:QW l[0]! with
  | true=>
    simp only [if_true]
    refine ⟨fun h=>by simp at h,fun h=>?_⟩
    have:=(OA l[0]!).2 ⟨h.t1,h.tm,h.m8,h.d64⟩
    rw [this] at h1;cases h1
  | false=>
    simp only [Bool.false_eq_true,if_false]
    obtain ⟨a1,a2,a3,a4⟩:=(OA _).1 h1
    rw [QA _ _ (fun k=>by split;simp;split <;> simp)]
    constructor
    · intro h
      have key:∀ k,k<l.length→(NR l[0]! l[k]! = false)∧(JO l k<l[k]!.index∧l[k]!.index≤l[0]!.many):=fun k hk=>by
        have:=h k (Nat.zero_le _) (by omega)
        split at this
        · cases this
        · rename_i hd
          split at this
          · cases this
          · rename_i hi
            refine ⟨by simpa using hd,?_⟩
            unfold alIdx at hi;simp only [Bool.or_eq_true,decide_eq_true_eq,not_or] at hi;omega
      have hix:∀ k,k<l.length→1≤l[k]!.index:=fun k=>by
        induction k with
        | zero=>intro hk;have:=(key 0 hk).2.1;unfold JO at this;rw [if_pos rfl] at this;omega
        | succ k ih=>intro hk;have:=(key _ hk).2.1;have h2:=ih (by omega);unfold JO at this;rw [if_neg (by omega)] at this;simp only [Nat.add_sub_cancel] at this;omega
      exact ⟨by omega,a1,a2,a3,a4,fun k hk=>((IF _ _).1 (key k hk).1).1,fun k hk=>((IF _ _).1 (key k hk).1).2.1,fun k hk=>((IF _ _).1 (key k hk).1).2.2,fun k hk=>⟨hix k hk,(key k hk).2.2⟩,fun k hk=>by
        have:=(key _ hk).2.1;unfold JO at this;rw [if_neg (by omega)] at this;simpa using this⟩
    · intro h k _ hk
      rw [if_neg,if_neg]
      · unfold alIdx;simp only [Bool.or_eq_true,decide_eq_true_eq,not_or]
        have h1:=h.ix k (by omega)
        unfold JO
        cases k with
        | zero=>simp only [if_true];omega
        | succ k=>rw [if_neg (by omega)];have:=h.inc k (by omega);simp only [Nat.add_sub_cancel];omega
      · have:=(IF l[0]! l[k]!).2 ⟨h.th k (by omega),h.ma k (by omega),h.da k (by omega)⟩
        rw [this];simp
theorem refAlike_iff (l:List Share):DH l=true↔Good l:=by
  unfold DH
  by_cases h0:l.length=0
  · rw [if_pos (by simp;exact List.eq_nil_of_length_eq_zero h0)]
    exact ⟨fun h=>(by cases h),fun h=>by have:=h.pos;omega⟩
  rw [if_neg (by simp;intro h;subst h;simp at h0)]
  cases h1:QW l[0]! with
  | true=>
    simp only [if_true]
    refine ⟨fun h=>by simp at h,fun h=>?_⟩
    have:=(OA l[0]!).2 ⟨h.t1,h.tm,h.m8,h.d64⟩
    rw [this] at h1;cases h1
  | false=>
    simp only [Bool.false_eq_true,if_false]
    obtain ⟨a1,a2,a3,a4⟩:=(OA _).1 h1
    rw [QA _ _ (fun k=>by split <;> simp)]
    have key:∀ k,XT l k=false↔NR l[0]! l[k]! = false∧1≤l[k]!.index∧l[k]!.index≤l[0]!.many∧(0<k→l[k - 1]!.index<l[k]!.index):=fun k=>by
      unfold XT
      simp only [Bool.or_eq_false_iff,decide_eq_false_iff_not,Bool.and_eq_false_iff]
      constructor
      · rintro ⟨⟨⟨h1,h2⟩,h3⟩,h4⟩;exact ⟨h1,by omega,by omega,by omega⟩
      · rintro ⟨h1,h2,h3,h4⟩;exact ⟨⟨⟨h1,by omega⟩,by omega⟩,by omega⟩
    constructor
    · intro h
      have key2:∀ k,k<l.length→XT l k=false:=fun k hk=>by
        have:=h k (Nat.zero_le _) (by omega)
        split at this
        · cases this
        · rename_i hd;simpa using hd
      exact ⟨by omega,a1,a2,a3,a4,fun k hk=>((IF _ _).1 ((key k).1 (key2 k hk)).1).1,fun k hk=>((IF _ _).1 ((key k).1 (key2 k hk)).1).2.1,fun k hk=>((IF _ _).1 ((key k).1 (key2 k hk)).1).2.2,fun k hk=>⟨((key k).1 (key2 k hk)).2.1,((key k).1 (key2 k hk)).2.2.1⟩,fun k hk=>by
        have:=((key _).1 (key2 _ hk)).2.2.2 (by omega);simpa using this⟩
    · intro h k _ hk
      rw [if_neg]
      rw [(key k).2 ⟨(IF _ _).2 ⟨h.th k (by omega),h.ma k (by omega),h.da k (by omega)⟩,(h.ix k (by omega)).1,(h.ix k (by omega)).2,fun hk0=>by
        obtain ⟨q,rfl⟩:∃ q,k=q+1:=⟨k - 1,by omega⟩
        exact h.inc q (by omega)⟩];simp
theorem refAlike_eq (l:List Share):DH l=FG l:=by rw [Bool.eq_iff_iff,refAlike_iff,TA]
theorem IJ (l:List Share):BP l=BO l:=by unfold BP BO;rw [refAlike_eq]
structure Vd (l:List Share):Prop extends Good l where
  ep:∀ k,k<l.length→l[k]!.epoch=l[0]!.epoch
  ep0:0≤l[0]!.epoch
  ep1:l[0]!.epoch≤1048576
theorem UG (l:List Share) (k:Nat):ep1 l k=false↔l[k]!.epoch=l[0]!.epoch∧0≤l[k]!.epoch∧l[k]!.epoch≤1048576:=by
  unfold ep1;simp only [Bool.or_eq_false_iff,bne_eq_false_iff_eq,decide_eq_false_iff_not];omega
theorem FS (l:List Share):BO l=0↔Vd l:=by
  unfold BO
  cases ha:FG l with
  | false=>
    simp only [Bool.not_false,if_true]
    exact ⟨fun h=>by omega,fun h=>by rw [(TA l).2 h.toGood] at ha;cases ha⟩
  | true=>
    have hg:=(TA l).1 ha
    simp only [Bool.not_true,Bool.false_eq_true,if_false]
    rcases VS (f:=fun k=>if ep1 l k then some (81:Int) else none) (d:=(0:Int)) (r:=81) (fun k=>by split <;> simp) (l.length - 0) 0 with ⟨h1,h2⟩|⟨h1,k,h2,h3,h4⟩
    · rw [h1]
      have key:∀ k,k<l.length→ep1 l k=false:=fun k hk=>by
        have:=h2 k (Nat.zero_le _) (by omega)
        split at this
        · cases this
        · rename_i h;simpa using h
      refine ⟨fun _=>⟨hg,fun k hk=>((UG l k).1 (key k hk)).1,((UG l 0).1 (key 0 hg.pos)).2.1,((UG l 0).1 (key 0 hg.pos)).2.2⟩,fun _=>rfl⟩
    · rw [h1]
      refine ⟨fun h=>by omega,fun h=>?_⟩
      have:=(UG l k).2 ⟨h.ep k (by omega),by rw [h.ep k (by omega)];exact h.ep0,by rw [h.ep k (by omega)];exact h.ep1⟩
      simp only [this] at h4;cases h4
theorem ext_getS {α:Type} [Inhabited α] {l m:List α} (hlen:l.length=m.length) (h:∀ i:Nat,i<l.length→l[i]! = m[i]!):l=m:=by
  apply List.ext_getElem hlen
  intro i h1 h2
  have:=h i h1
  rwa [getElem!_pos l i h1,getElem!_pos m i h2] at this
def QU (l:List Share):Bool:=EX (fun k=>if 70<(l[k]!.data.length:Int) then some false else none) (decide ((l.length:Int)≤10)) 0 (l.length - 0)
open Go.Fw Go.RowKit
set_option maxHeartbeats 4000000 in
set_option maxRecDepth 100000 in
theorem c_alike {O:List Nat} (l_v:Value) (l:List Share) (w:World) (a2:BB Enc.share w O l_v l) (hO:∀ b∈O,b<w.heap.size):CE Try.prog 88 [l_v] w (fun v _=>v = .bool (FG l)):= by
 have e6:=a2.len_le
 have a2:BB Enc.share w ([]++O) l_v l:=a2
 have s0:St w O w []:=St.start hO
 refine BI 75 Try.func88 rfl rfl oT (fun F0=>AF (AB kR (AA (AD (vO false) rfl (AG (AC (AF (AF (AB kR (AA (AE (l_v) rfl (AA (CA U32_ rfl a2 (AA (GO .i64 (l.length:Int) (0:Int) rfl rfl (AG (AC (AJ ((l.length:Int) == (0:Int)) rfl rfl (fun a9=>?_) (fun a9=>?_)))))))))))))))))))
 ·have e7:(l.length:Int)=(0:Int):=by simpa using a9
  refine AF (AB kR (AA (AD (vO false) rfl (AG (AC (AM (AK (AS rfl (CN rfl rfl rfl) (?_)))))))))
  have e:(FG l)=false:=by (unfold FG;((repeat ((refine (if_pos ?_).trans ?_;omega)));rfl))
  exact ⟨_,rfl,s0.keep,(by exact congrArg vO e.symm)⟩
 have e8:(l.length:Int)≠(0:Int):=by simpa using a9
 refine AO (AC (AF (AB kR (AA (AE (l_v) rfl (AA (CP U32_ CZ .i64 (0:Int) 0 rfl rfl rfl a2 oM fun g9 c8=>(AA (DF U70_ rfl CZ rfl c8 fun c9 b0=>(AA (DE [vI 0,vI 0,vI 0,vI 0,nS] KU rfl s0 fun a4 d7 d8 d9 c6 h0 d0=>(?_))))))))))))
 clear d8
 have a2:=a2.mv c6
 have b0:Enc.share.rd d7 ((a4 :: [])++O) c9 (l[0]!):=Enc.mv Enc.share (x:=l[0]!) b0 c6
 obtain ⟨a6,rfl,a1⟩:=b0
 have:=a1.len_le
 refine CB (BF (vs:=[vI ((l[0]!).epoch),vI ((l[0]!).index),vI ((l[0]!).threshold),vI ((l[0]!).many),a6]) (.agg #[vI ((l[0]!).epoch),vI ((l[0]!).index),vI ((l[0]!).threshold),vI ((l[0]!).many),a6]) rfl rfl rfl CZ (fun u hu=>by simp only [List.mem_cons,List.not_mem_nil,or_false] at hu;rcases hu with rfl|rfl|rfl|rfl|rfl <;> first|rfl|exact a1.oneCell) (by repeat (constructor)) d0 oT d9 fun h1 a8 c7 h2 a0=>(?_))
 have a2:=a2.mv c7
 have a1:=a1.mv c7
 refine AA (AD (vI 0) rfl (AG (AC (AF (AF (AB kR (AA (AU 2 HK rfl (AA (AW U3_ rfl (vI ((l[0]!).threshold)) rfl a0 rfl (AA (DO .i64 ((l[0]!).threshold) (1:Int) rfl rfl (AA (AE (vO (decide ((l[0]!).threshold<(1:Int)))) rfl (?_)))))))))))))))
 cases c0:(decide ((l[0]!).threshold<(1:Int)))
 ·have e9:(1:Int)≤(l[0]!).threshold:=by simpa using c0
  refine BJ rfl (AU 2 HK rfl (BJ rfl (AW U3_ rfl (vI ((l[0]!).threshold)) rfl a0 rfl (BJ rfl (AU 3 HF rfl (BJ rfl (AW U3_ rfl (vI ((l[0]!).many)) rfl a0 rfl (BJ rfl (GQ .i64 ((l[0]!).threshold) ((l[0]!).many) rfl rfl (AA (BX (vO (decide ((l[0]!).many<(l[0]!).threshold))) rfl rfl (AA (AE (vO (decide ((l[0]!).many<(l[0]!).threshold))) rfl (?_))))))))))))))
  cases c1:(decide ((l[0]!).many<(l[0]!).threshold))
  ·have f0:(l[0]!).threshold≤(l[0]!).many:=by simpa using c1
   refine BJ rfl (AU 3 HF rfl (BJ rfl (AW U3_ rfl (vI ((l[0]!).many)) rfl a0 rfl (BJ rfl (GQ .i64 ((l[0]!).many) (8:Int) rfl rfl (AA (BX (vO (decide ((8:Int)<(l[0]!).many))) rfl rfl (AA (AE (vO (decide ((8:Int)<(l[0]!).many))) rfl (?_))))))))))
   cases c2:(decide ((8:Int)<(l[0]!).many))
   ·have f1:(l[0]!).many≤(8:Int):=by simpa using c2
    refine BJ rfl (AU 4 EP rfl (BJ rfl (AW U23_ rfl (a6) rfl a0 rfl (BJ rfl (CA U23_ rfl a1 (BJ rfl (GQ .i64 (((l[0]!).data).length:Int) (64:Int) rfl rfl (AA (BX (vO (decide ((64:Int)<(((l[0]!).data).length:Int)))) rfl rfl (AG (AC (AJ (decide ((64:Int)<(((l[0]!).data).length:Int))) rfl rfl (fun b1=>?_) (fun b1=>?_)))))))))))))
    ·have f2:(64:Int)<(((l[0]!).data).length:Int):=by simpa using b1
     refine AF (AB kR (AA (AD (vO false) rfl (AG (AC (AM (AK (AS rfl (CN rfl rfl rfl) (?_)))))))))
     have e:(FG l)=false:=by (unfold FG;((repeat (first|(refine (if_pos ?_).trans ?_;solve|(simp only [MW];omega))|(refine (if_neg ?_).trans ?_;solve|(simp only [MW];omega))));rfl))
     exact ⟨_,rfl,a8.keep,(by exact congrArg vO e.symm)⟩
    have f3:(((l[0]!).data).length:Int)≤(64:Int):=by simpa using b1
    refine AO (AC (AF (AF (AB kR (AA (AE (l_v) rfl (AA (CA U32_ rfl a2 (AA (AE (vI 0) rfl (AG (AC (BA (CX (fun mI FI wI=>∃ (k:Nat) (B:List Nat),k≤l.length∧FG l=EX (fun k=>if NR l[0]! l[k]! then some false else if alIdx l[0]! l[k]! (JO l k) then some false else none) true k (l.length - k)∧mI=l.length - k∧(∃ F1,FI=FR F1 [(3,vP (some ⟨a4,0,none⟩)),(4,vI (JO l k)),(34,l_v),(35,vI (l.length:Int)),(36,vI ((k:Nat):Int)),(75,undef)])∧St w O wI B∧BB Enc.share wI (B++O) (l_v) (l)∧BB Enc.u8 wI (B++O) (a6) ((l[0]!).data)∧IB wI a4 70 [vI ((l[0]!).epoch),vI ((l[0]!).index),vI ((l[0]!).threshold),vI ((l[0]!).many),a6]∧a4∈B) (l.length - (0)) ?_ ?_))))))))))))))
    ·exact ⟨(0),(a4 :: []),oM,(by unfold FG;((repeat ((refine (if_neg ?_).trans ?_;solve|(simp only [MW];omega))));rfl)),rfl,⟨_,AP _ ⟨rfl,(by rfl),rfl,rfl,(by rfl),rfl,trivial⟩⟩,a8,a2,a1,a0,(by (repeat (exact List.mem_cons_self)))⟩
    intro h5 F h6 hI
    clear a2 a1 a0
    obtain ⟨k,d5,hr0_0,hr0_1,h7,⟨h8,rfl⟩,d6,a2,a1,a0,e0⟩:=hI
    refine AF (AB kR (AA (DO .i64 ((k:Nat):Int) (l.length:Int) rfl rfl (AG (AC (AF (AJ (decide (((k:Nat):Int)<(l.length:Int))) rfl rfl (fun b2=>?_) (fun b2=>?_))))))))
    ·have f4:((k:Nat):Int)<(l.length:Int):=by simpa using b2
     refine AO (AC (AF (BA (AF (AB kR (AA (CP U32_ CZ .i64 ((k:Nat):Int) k rfl rfl rfl a2 oM fun h3 d1=>(AA (DF U70_ rfl CZ rfl d1 fun d2 b3=>(AA (DE [vI 0,vI 0,vI 0,vI 0,nS] KU rfl d6 fun b4 e1 e2 e3 b7 e4 d3=>(?_))))))))))))
     have d4:GV a4 b4:=by show a4≠b4;have:=a0.lt;omega
     clear e2
     have a2:=a2.mv b7
     have b3:Enc.share.rd e1 ((b4 :: d5)++O) d2 (l[k]!):=Enc.mv Enc.share (x:=l[k]!) b3 b7
     have a1:=a1.mv b7
     have a0:=a0.keep e4 (by simp)
     obtain ⟨b8,rfl,a5⟩:=b3
     have:=a5.len_le
     refine CB (BF (vs:=[vI ((l[k]!).epoch),vI ((l[k]!).index),vI ((l[k]!).threshold),vI ((l[k]!).many),b8]) (.agg #[vI ((l[k]!).epoch),vI ((l[k]!).index),vI ((l[k]!).threshold),vI ((l[k]!).many),b8]) rfl rfl rfl CZ (fun u hu=>by simp only [List.mem_cons,List.not_mem_nil,or_false] at hu;rcases hu with rfl|rfl|rfl|rfl|rfl <;> first|rfl|exact a5.oneCell) (by repeat (constructor)) d3 oT e3 fun h4 a7 b9 e5 a3=>(?_))
     have a2:=a2.mv b9
     have a5:=a5.mv b9
     have a1:=a1.mv b9
     have a0:=a0.keep e5 (BC d4)
     refine AG (AC (AF (AF (AB kR (AA (AU 2 HK rfl (AA (AW U3_ rfl (vI ((l[k]!).threshold)) rfl a3 rfl (AA (AU 2 HK rfl (AA (AW U3_ rfl (vI ((l[0]!).threshold)) rfl a0 rfl (AA (CT .i64 ((l[k]!).threshold) ((l[0]!).threshold) rfl rfl (AA (AE (vO (((l[k]!).threshold) != ((l[0]!).threshold))) rfl (?_)))))))))))))))))
     cases c3:(((l[k]!).threshold) != ((l[0]!).threshold))
     ·have f5:(l[k]!).threshold=(l[0]!).threshold:=by simpa using c3
      refine BJ rfl (AU 3 HF rfl (BJ rfl (AW U3_ rfl (vI ((l[k]!).many)) rfl a3 rfl (BJ rfl (AU 3 HF rfl (BJ rfl (AW U3_ rfl (vI ((l[0]!).many)) rfl a0 rfl (BJ rfl (CT .i64 ((l[k]!).many) ((l[0]!).many) rfl rfl (AA (BX (vO (((l[k]!).many) != ((l[0]!).many))) rfl rfl (AA (AE (vO (((l[k]!).many) != ((l[0]!).many))) rfl (?_))))))))))))))
      cases c4:(((l[k]!).many) != ((l[0]!).many))
      ·have f6:(l[k]!).many=(l[0]!).many:=by simpa using c4
       refine BJ rfl (AU 4 EP rfl (BJ rfl (AW U23_ rfl (b8) rfl a3 rfl (BJ rfl (CA U23_ rfl a5 (BJ rfl (AU 4 EP rfl (BJ rfl (AW U23_ rfl (a6) rfl a0 rfl (BJ rfl (CA U23_ rfl a1 (BJ rfl (CT .i64 (((l[k]!).data).length:Int) (((l[0]!).data).length:Int) rfl rfl (AA (BX (vO ((((l[k]!).data).length:Int) != (((l[0]!).data).length:Int))) rfl rfl (AG (AC (AJ ((((l[k]!).data).length:Int) != (((l[0]!).data).length:Int)) rfl rfl (fun b5=>?_) (fun b5=>?_)))))))))))))))))))
       ·have f7:(((l[k]!).data).length:Int)≠(((l[0]!).data).length:Int):=by simpa using b5
        refine AF (AB kR (AA (AD (vO false) rfl (AG (AC (AM (AK (BK (AK (AK (BK (AK (AS rfl (CN rfl rfl rfl) (?_))))))))))))))
        have e:(FG l)=false:=by (rw [hr0_1];exact DB oM (by ((repeat ((refine (if_pos ?_).trans ?_;solve|(simp only [MW];omega))));rfl)))
        exact ⟨_,rfl,a7.keep,(by exact congrArg vO e.symm)⟩
       have f8:(((l[k]!).data).length:Int)=(((l[0]!).data).length:Int):=by simpa using b5
       refine AO (AC (AF (AF (AB kR (AA (AU 1 KJ rfl (AA (AW U3_ rfl (vI ((l[k]!).index)) rfl a3 rfl (AA (AE (vI (JO l k)) rfl (AA (o_leq .i64 ((l[k]!).index) (JO l k) rfl rfl (AA (AE (vO (decide ((l[k]!).index≤JO l k))) rfl (?_)))))))))))))))
       cases c5:(decide ((l[k]!).index≤JO l k))
       ·have f9:JO l k<(l[k]!).index:=by simpa using c5
        refine BJ rfl (AU 1 KJ rfl (BJ rfl (AW U3_ rfl (vI ((l[k]!).index)) rfl a3 rfl (BJ rfl (AU 3 HF rfl (BJ rfl (AW U3_ rfl (vI ((l[0]!).many)) rfl a0 rfl (BJ rfl (GQ .i64 ((l[k]!).index) ((l[0]!).many) rfl rfl (AA (BX (vO (decide ((l[0]!).many<(l[k]!).index))) rfl rfl (AG (AC (AJ (decide ((l[0]!).many<(l[k]!).index)) rfl rfl (fun b6=>?_) (fun b6=>?_)))))))))))))))
        ·have g0:(l[0]!).many<(l[k]!).index:=by simpa using b6
         refine AF (AB kR (AA (AD (vO false) rfl (AG (AC (AM (AK (BK (AK (AK (BK (AK (AS rfl (CN rfl rfl rfl) (?_))))))))))))))
         have e:(FG l)=false:=by (rw [hr0_1];exact DB oM (by ((repeat (first|(refine (if_pos ?_).trans ?_;solve|(simp only [MW];omega))|(refine (if_neg ?_).trans ?_;solve|(simp only [MW];omega))));rfl)))
         exact ⟨_,rfl,a7.keep,(by exact congrArg vO e.symm)⟩
        have g1:(l[k]!).index≤(l[0]!).many:=by simpa using b6
        refine AO (AC (AB kR (AA (AU 1 KJ rfl (AA (AW U3_ rfl (vI ((l[k]!).index)) rfl a3 rfl (AA (AD (vI ((l[k]!).index)) rfl (AG (BZ (AC (AB kR (AA (DC .i64 ((k:Nat):Int) (1:Int) (((k+1:Nat):Int)) rfl rfl (FQ oM oM) (AA (AE (vI ((k+1:Nat):Int)) rfl (AG (AC (?_)))))))))))))))))))
        exact ⟨_,oM,(k+1),(b4 :: d5),oM,(hr0_1.trans (FF oM (by ((repeat ((refine (if_neg ?_).trans ?_;solve|(simp only [MW];omega))));rfl)))),rfl,⟨_,AP _ ⟨rfl,(by rfl),rfl,rfl,(by rfl),rfl,trivial⟩⟩,a7,a2,a1,a0,(by (repeat (first|assumption|apply List.mem_cons_of_mem)))⟩
       have g2:(l[k]!).index≤JO l k:=by simpa using c5
       refine AT rfl (AT rfl (AT rfl (AT rfl (AT rfl (AA (AX (vO true) rfl rfl (AG (AC (AJ true rfl rfl (fun _=>AF (AB kR (AA (AD (vO false) rfl (AG (AC (AM (AK (BK (AK (AK (BK (AK (AS rfl (CN rfl rfl rfl) (?_))))))))))))))) (fun h=>by cases h))))))))))
       have e:(FG l)=false:=by (rw [hr0_1];exact DB oM (by ((repeat (first|(refine (if_pos ?_).trans ?_;solve|(simp only [MW];omega))|(refine (if_neg ?_).trans ?_;solve|(simp only [MW];omega))));rfl)))
       exact ⟨_,rfl,a7.keep,(by exact congrArg vO e.symm)⟩
      have g3:(l[k]!).many≠(l[0]!).many:=by simpa using c4
      refine AT rfl (AT rfl (AT rfl (AT rfl (AT rfl (AT rfl (AT rfl (AA (AX (vO true) rfl rfl (AG (AC (AJ true rfl rfl (fun _=>AF (AB kR (AA (AD (vO false) rfl (AG (AC (AM (AK (BK (AK (AK (BK (AK (AS rfl (CN rfl rfl rfl) (?_))))))))))))))) (fun h=>by cases h))))))))))))
      have e:(FG l)=false:=by (rw [hr0_1];exact DB oM (by ((repeat ((refine (if_pos ?_).trans ?_;solve|(simp only [MW];omega))));rfl)))
      exact ⟨_,rfl,a7.keep,(by exact congrArg vO e.symm)⟩
     have g4:(l[k]!).threshold≠(l[0]!).threshold:=by simpa using c3
     refine AT rfl (AT rfl (AT rfl (AT rfl (AT rfl (AA (AX (vO true) rfl rfl (AA (AE (vO true) rfl (AT rfl (AT rfl (AT rfl (AT rfl (AT rfl (AT rfl (AT rfl (AA (AX (vO true) rfl rfl (AG (AC (AJ true rfl rfl (fun _=>AF (AB kR (AA (AD (vO false) rfl (AG (AC (AM (AK (BK (AK (AK (BK (AK (AS rfl (CN rfl rfl rfl) (?_))))))))))))))) (fun h=>by cases h)))))))))))))))))))))
     have e:(FG l)=false:=by (rw [hr0_1];exact DB oM (by ((repeat ((refine (if_pos ?_).trans ?_;solve|(simp only [MW];omega))));rfl)))
     exact ⟨_,rfl,a7.keep,(by exact congrArg vO e.symm)⟩
    have g5:(l.length:Int)≤((k:Nat):Int):=by simpa using b2
    refine CV (BL (BL (CL (AC (AF (AB kR (AA (AD (vO true) rfl (AG (AC (AM (AS rfl (CN rfl rfl rfl) (?_)))))))))))))
    have e:(FG l)=true:=by (rw [hr0_1];exact GR oM)
    exact ⟨_,rfl,d6.keep,(by exact congrArg vO e.symm)⟩
   have g6:(8:Int)<(l[0]!).many:=by simpa using c2
   refine AT rfl (AT rfl (AT rfl (AT rfl (AA (AX (vO true) rfl rfl (AG (AC (AJ true rfl rfl (fun _=>AF (AB kR (AA (AD (vO false) rfl (AG (AC (AM (AK (AS rfl (CN rfl rfl rfl) (?_)))))))))) (fun h=>by cases h)))))))))
   have e:(FG l)=false:=by (unfold FG;((repeat (first|(refine (if_pos ?_).trans ?_;solve|(simp only [MW];omega))|(refine (if_neg ?_).trans ?_;solve|(simp only [MW];omega))));rfl))
   exact ⟨_,rfl,a8.keep,(by exact congrArg vO e.symm)⟩
  have g7:(l[0]!).many<(l[0]!).threshold:=by simpa using c1
  refine AT rfl (AT rfl (AT rfl (AA (AX (vO true) rfl rfl (AA (AE (vO true) rfl (AT rfl (AT rfl (AT rfl (AT rfl (AA (AX (vO true) rfl rfl (AG (AC (AJ true rfl rfl (fun _=>AF (AB kR (AA (AD (vO false) rfl (AG (AC (AM (AK (AS rfl (CN rfl rfl rfl) (?_)))))))))) (fun h=>by cases h))))))))))))))))
  have e:(FG l)=false:=by (unfold FG;((repeat (first|(refine (if_pos ?_).trans ?_;solve|(simp only [MW];omega))|(refine (if_neg ?_).trans ?_;solve|(simp only [MW];omega))));rfl))
  exact ⟨_,rfl,a8.keep,(by exact congrArg vO e.symm)⟩
 have g8:(l[0]!).threshold<(1:Int):=by simpa using c0
 refine AT rfl (AT rfl (AT rfl (AT rfl (AT rfl (AA (AX (vO true) rfl rfl (AA (AE (vO true) rfl (AT rfl (AT rfl (AT rfl (AA (AX (vO true) rfl rfl (AA (AE (vO true) rfl (AT rfl (AT rfl (AT rfl (AT rfl (AA (AX (vO true) rfl rfl (AG (AC (AJ true rfl rfl (fun _=>AF (AB kR (AA (AD (vO false) rfl (AG (AC (AM (AK (AS rfl (CN rfl rfl rfl) (?_)))))))))) (fun h=>by cases h)))))))))))))))))))))))))
 have e:(FG l)=false:=by (unfold FG;((repeat (first|(refine (if_pos ?_).trans ?_;solve|(simp only [MW];omega))|(refine (if_neg ?_).trans ?_;solve|(simp only [MW];omega))));rfl))
 exact ⟨_,rfl,a8.keep,(by exact congrArg vO e.symm)⟩
set_option maxHeartbeats 4000000 in
set_option maxRecDepth 100000 in
theorem MX {O:List Nat} (l_v:Value) (l:List Share) (w:World) (a0:BB Enc.share w O l_v l) (hO:∀ b∈O,b<w.heap.size):CE Try.prog 40 [l_v] w (fun v _=>v=vI (BO l)):= by
 have d2:=a0.len_le
 have a0:BB Enc.share w ([]++O) l_v l:=a0
 have s0:St w O w []:=St.start hO
 refine BI 32 Try.func40 rfl rfl oT (fun F0=>AF (AB kR (AA (AD (vI 0) rfl (AG (AC (AF (AF (AB kR (AA (AE (l_v) rfl (AA (AZ (vs:=[l_v]) enter_88 (c_alike (O:=[]++O) l_v l w a0 s0.lt) rfl s0 fun e3 e4 b3 c2 e5 c3=>(?_))))))))))))))
 obtain rfl:=c3
 have a0:=a0.mv c2
 refine AA (HP (FG l) rfl (AG (AC (AJ (!(FG l)) rfl rfl (fun a2=>?_) (fun a2=>?_)))))
 ·have d3:(FG l)=false:=by simpa using a2
  refine AF (AB kR (AA (AD (vI 80) rfl (AG (AC (AM (AK (AS rfl (CN rfl rfl rfl) (?_)))))))))
  have e:(BO l)=(80:Int):=by (unfold BO;((repeat ((refine (if_pos ?_).trans ?_;omega)));rfl))
  exact ⟨_,rfl,b3.keep,by rw [e];exact rfl⟩
 have d4:(FG l)=true:=by simpa using a2
 refine AO (AC (AF (AF (AB kR (AA (AE (l_v) rfl (AA (CA U32_ rfl a0 (AA (AE (vI 0) rfl (AG (AC (BA (CX (fun mI FI wI=>∃ (k:Nat) (B:List Nat),k≤l.length∧BO l=EX (fun k=>if ep1 l k then some 81 else none) 0 k (l.length - k)∧mI=l.length - k∧(∃ F1,FI=FR F1 [(0,l_v),(8,l_v),(9,vI (l.length:Int)),(10,vI ((k:Nat):Int)),(32,undef)])∧St w O wI B∧BB Enc.share wI (B++O) (l_v) (l)) (l.length - (0)) ?_ ?_))))))))))))))
 ·exact ⟨(0),[],oM,(by unfold BO;((repeat ((refine (if_neg ?_).trans ?_;solve|(simp only [*,dbs];done))));rfl)),rfl,⟨_,AP _ ⟨rfl,rfl,rfl,(by rfl),rfl,trivial⟩⟩,b3,a0⟩
 intro f1 F f2 hI
 clear a0
 obtain ⟨k,a9,hr0_0,hr0_1,f3,⟨f4,rfl⟩,c1,a0⟩:=hI
 refine AF (AB kR (AA (DO .i64 ((k:Nat):Int) (l.length:Int) rfl rfl (AG (AC (AF (AJ (decide (((k:Nat):Int)<(l.length:Int))) rfl rfl (fun a3=>?_) (fun a3=>?_))))))))
 ·have d5:((k:Nat):Int)<(l.length:Int):=by simpa using a3
  refine AO (AC (AF (BA (AF (AB kR (AA (CP U32_ CZ .i64 ((k:Nat):Int) k rfl rfl rfl a0 oM fun e6 b6=>(AA (DF U70_ rfl CZ rfl b6 fun b7 a4=>(AA (DE [vI 0,vI 0,vI 0,vI 0,nS] KU rfl c1 fun a5 c4 c5 c6 b4 e7 b8=>(?_))))))))))))
  clear c5
  have a0:=a0.mv b4
  have a4:Enc.share.rd c4 ((a5 :: a9)++O) b7 (l[k]!):=Enc.mv Enc.share (x:=l[k]!) a4 b4
  obtain ⟨b5,rfl,b0⟩:=a4
  have:=b0.len_le
  refine CB (BF (vs:=[vI ((l[k]!).epoch),vI ((l[k]!).index),vI ((l[k]!).threshold),vI ((l[k]!).many),b5]) (.agg #[vI ((l[k]!).epoch),vI ((l[k]!).index),vI ((l[k]!).threshold),vI ((l[k]!).many),b5]) rfl rfl rfl CZ (fun u hu=>by simp only [List.mem_cons,List.not_mem_nil,or_false] at hu;rcases hu with rfl|rfl|rfl|rfl|rfl <;> first|rfl|exact b0.oneCell) (by repeat (constructor)) b8 oT c6 fun c7 c8 c9 e8 a1=>(?_))
  have a0:=a0.mv c9
  refine AG (AC (AF (FJ 17 _ _ kR kR kR kR kR rfl rfl fun d0 a8=>?_)))
  have a6:=c8.call a8
  have d1:Mv (a5 :: a9) c7 (a5 :: a9) d0:=Mv.of_keep a8
  have a0:=a0.mv d1
  have a1:=a1.keep a8 (by simp)
  refine BM (AU 0 HD rfl (BM (AW U3_ rfl (vI ((l[k]!).epoch)) rfl a1 rfl (BM (AE (l_v) rfl (BM (CP U32_ CZ .i64 (0:Int) 0 rfl rfl rfl a0 oM fun e9 b9=>(BM (BH 0 HD ((l[0]!).epoch) rfl b9 (fun _ _ _ h=>FM h) fun f0 c0=>(BM (CC U3_ rfl rfl c0 (BM (CT .i64 ((l[k]!).epoch) ((l[0]!).epoch) rfl rfl (BM (AE (vO (((l[k]!).epoch) != ((l[0]!).epoch))) rfl (?_))))))))))))))))
  cases b1:(((l[k]!).epoch) != ((l[0]!).epoch))
  ·have d6:(l[k]!).epoch=(l[0]!).epoch:=by simpa using b1
   refine DR rfl (AU 0 HD rfl (DR rfl (AW U3_ rfl (vI ((l[k]!).epoch)) rfl a1 rfl (DR rfl (DO .i64 ((l[k]!).epoch) (0:Int) rfl rfl (BM (BX (vO (decide ((l[k]!).epoch<(0:Int)))) rfl rfl (BM (AE (vO (decide ((l[k]!).epoch<(0:Int)))) rfl (?_))))))))))
   cases b2:(decide ((l[k]!).epoch<(0:Int)))
   ·have d7:(0:Int)≤(l[k]!).epoch:=by simpa using b2
    refine DR rfl (AU 0 HD rfl (DR rfl (AW U3_ rfl (vI ((l[k]!).epoch)) rfl a1 rfl (DR rfl (GQ .i64 ((l[k]!).epoch) (1048576:Int) rfl rfl (BM (BX (vO (decide ((1048576:Int)<(l[k]!).epoch))) rfl rfl (EQ (AG (AC (AJ (decide ((1048576:Int)<(l[k]!).epoch)) rfl rfl (fun a7=>?_) (fun a7=>?_))))))))))))
    ·have d8:(1048576:Int)<(l[k]!).epoch:=by simpa using a7
     refine AF (AB kR (AA (AD (vI 81) rfl (AG (AC (AM (BK (AK (AK (BK (AK (AS rfl (CN rfl rfl rfl) (?_)))))))))))))
     have e:(BO l)=(81:Int):=by (rw [hr0_1];exact DB oM (by ((repeat ((refine (if_pos ?_).trans ?_;solve|(simp only [MW];omega))));rfl)))
     exact ⟨_,rfl,a6.keep,by rw [e];exact rfl⟩
    have d9:(l[k]!).epoch≤(1048576:Int):=by simpa using a7
    refine AO (BZ (AC (AB kR (AA (DC .i64 ((k:Nat):Int) (1:Int) (((k+1:Nat):Int)) rfl rfl (FQ oM oM) (AA (AE (vI ((k+1:Nat):Int)) rfl (AG (AC (?_))))))))))
    exact ⟨_,oM,(k+1),(a5 :: a9),oM,(hr0_1.trans (FF oM (by ((repeat ((refine (if_neg ?_).trans ?_;solve|(simp only [MW];omega))));rfl)))),rfl,⟨_,AP _ ⟨rfl,rfl,rfl,(by rfl),rfl,trivial⟩⟩,a6,a0⟩
   have e0:(l[k]!).epoch<(0:Int):=by simpa using b2
   refine CD rfl (CD rfl (CD rfl (BM (AX (vO true) rfl rfl (EQ (AG (AC (AJ true rfl rfl (fun _=>AF (AB kR (AA (AD (vI 81) rfl (AG (AC (AM (BK (AK (AK (BK (AK (AS rfl (CN rfl rfl rfl) (?_)))))))))))))) (fun h=>by cases h)))))))))
   have e:(BO l)=(81:Int):=by (rw [hr0_1];exact DB oM (by ((repeat ((refine (if_pos ?_).trans ?_;solve|(simp only [MW];omega))));rfl)))
   exact ⟨_,rfl,a6.keep,by rw [e];exact rfl⟩
  have e1:(l[k]!).epoch≠(l[0]!).epoch:=by simpa using b1
  refine CD rfl (CD rfl (CD rfl (BM (AX (vO true) rfl rfl (BM (AE (vO true) rfl (CD rfl (CD rfl (CD rfl (BM (AX (vO true) rfl rfl (EQ (AG (AC (AJ true rfl rfl (fun _=>AF (AB kR (AA (AD (vI 81) rfl (AG (AC (AM (BK (AK (AK (BK (AK (AS rfl (CN rfl rfl rfl) (?_)))))))))))))) (fun h=>by cases h))))))))))))))))
  have e:(BO l)=(81:Int):=by (rw [hr0_1];exact DB oM (by ((repeat ((refine (if_pos ?_).trans ?_;solve|(simp only [MW];omega))));rfl)))
  exact ⟨_,rfl,a6.keep,by rw [e];exact rfl⟩
 have e2:(l.length:Int)≤((k:Nat):Int):=by simpa using a3
 refine CV (BL (BL (CL (AC (AF (AB kR (AA (AD (vI 0) rfl (AG (AC (AM (AS rfl (CN rfl rfl rfl) (?_)))))))))))))
 have e:(BO l)=(0:Int):=by (rw [hr0_1];exact GR oM)
 exact ⟨_,rfl,c1.keep,by rw [e];exact rfl⟩
open Go.Fw
def IP (secret coins:List UInt8) (threshold:Int) (i:Nat):List UInt8:=secret[i]! :: ((coins.take ((i+1)*(threshold - 1).toNat)).drop (i*(threshold - 1).toNat))
theorem polyB {i n m:Nat} {t:Int} (hi:i<n) (ht:1≤t) (h:(m:Int)=(n:Int)*(t - 1)):(i+1)*(t - 1).toNat≤m:=by
  obtain ⟨T,rfl⟩:∃ T:Nat,t=(T:Int)+1:=⟨(t - 1).toNat,by omega⟩
  have e:((T:Int)+1 - 1)=(T:Int):=by omega
  rw [e] at h ⊢
  have h2:m=n*T:=by exact_mod_cast h
  rw [h2]
  exact Nat.mul_le_mul_right _ hi
theorem polyL {n m:Nat} {t:Int} (hn:n≤1000) (ht:1≤t) (ht8:t≤8) (h:(m:Int)=(n:Int)*(t - 1)):m≤7000:=by
  obtain ⟨T,rfl⟩:∃ T:Nat,t=(T:Int)+1:=⟨(t - 1).toNat,by omega⟩
  have e:((T:Int)+1 - 1)=(T:Int):=by omega
  rw [e] at h
  have h2:m=n*T:=by exact_mod_cast h
  rw [h2]
  calc n*T≤1000*7:=Nat.mul_le_mul hn (by omega)
    _=7000:=rfl
def WG (secret coins:List UInt8) (threshold:Int):List (List UInt8):=(List.range secret.length).map fun i=>IP secret coins threshold i
def FB (secret:List UInt8) (polys:List (List UInt8)) (epoch threshold many:Int) (k:Nat):Share:=⟨epoch,(k:Int)+1,threshold,many,(List.range secret.length).map fun i=>EI polys[i]! (DL ((k:Int)+1))⟩
def LZ (secret:List UInt8) (epoch threshold many:Int) (coins:List UInt8):List Share:=(List.range many.toNat).map fun k=>FB secret (WG secret coins threshold) epoch threshold many k
def DM (secret:List UInt8) (epoch threshold many:Int) (coins:List UInt8):Int:=
  if 64<(secret.length:Int) then 1 else if (threshold<1∨many<threshold)∨8<many then 80 else if epoch<0∨1048576<epoch then 81 else if (coins.length:Int)≠(secret.length:Int)*(threshold - 1) then 1 else 0
def BY (secret:List UInt8) (epoch threshold many:Int) (coins:List UInt8):List Share × Int:=
  if DM secret epoch threshold many coins=0 then (LZ secret epoch threshold many coins,0) else ([],DM secret epoch threshold many coins)
theorem splitM_ok {secret:List UInt8} {epoch threshold many:Int} {coins:List UInt8} {x:List Share} (h:DM secret epoch threshold many coins=0) (hx:LZ secret epoch threshold many coins=x):BY secret epoch threshold many coins=(x,0):=by
  unfold BY;rw [if_pos h,hx]
theorem JB {secret:List UInt8} {epoch threshold many:Int} {coins:List UInt8} {e:Int} (h:DM secret epoch threshold many coins=e) (he:e≠0):BY secret epoch threshold many coins=([],e):=by
  unfold BY;rw [if_neg (by rw [h];exact he),h]
def RV (secret:List UInt8) (epoch threshold many:Int) (coins:List UInt8) (q:Nat):Share:=⟨epoch,(q:Int),threshold,many,XI secret.length fun p=>FH (IP secret coins threshold p) (DL (q:Int))⟩
def FL (secret:List UInt8) (epoch threshold many:Int) (coins:List UInt8) (n:Nat):List Share:=(List.range n).map fun q=>RV secret epoch threshold many coins (q+1)
theorem QG (secret:List UInt8) (epoch threshold many:Int) (coins:List UInt8) (n:Nat):(FL secret epoch threshold many coins n).length=n:=by simp [FL]
theorem VV (secret:List UInt8) (epoch threshold many:Int) (coins:List UInt8) (n:Nat):FL secret epoch threshold many coins (n+1)=FL secret epoch threshold many coins n++[RV secret epoch threshold many coins (n+1)]:=by simp [FL,List.range_succ]
def AY (secret:List UInt8) (epoch threshold many:Int) (coins:List UInt8):List Share × Int:=
  if DM secret epoch threshold many coins=0 then (FL secret epoch threshold many coins many.toNat,0) else ([],DM secret epoch threshold many coins)
theorem refSplitM_ok {secret:List UInt8} {epoch threshold many:Int} {coins:List UInt8} {x:List Share} (h:DM secret epoch threshold many coins=0) (hx:FL secret epoch threshold many coins many.toNat=x):AY secret epoch threshold many coins=(x,0):=by
  unfold AY;rw [if_pos h,hx]
theorem GU {secret:List UInt8} {epoch threshold many:Int} {coins:List UInt8} {e:Int} (h:DM secret epoch threshold many coins=e) (he:e≠0):AY secret epoch threshold many coins=([],e):=by
  unfold AY;rw [if_neg (by rw [h];exact he),h]
theorem II {α:Type} [Inhabited α] (n:Nat) (f:Nat→α) (i:Nat) (h:i<n):((List.range n).map f)[i]! = f i:=by
  rw [getElem!_pos _ i (by simpa using h)];simp
theorem XF {secret coins:List UInt8} {threshold:Int} {i:Nat} (h:i<secret.length):(WG secret coins threshold)[i]! = IP secret coins threshold i:=II _ _ _ h
theorem WZ (secret:List UInt8) (epoch threshold many:Int) (coins:List UInt8) (k:Nat):FB secret (WG secret coins threshold) epoch threshold many k=RV secret epoch threshold many coins (k+1):=by
  unfold FB RV
  congr 1
  unfold XI
  apply List.map_congr_left
  intro i hi
  rw [XF (by simpa using hi),refEval_eq];rfl
theorem refSplit_eq (secret:List UInt8) (epoch threshold many:Int) (coins:List UInt8):AY secret epoch threshold many coins=BY secret epoch threshold many coins:=by
  unfold AY BY
  split
  · congr 1
    unfold FL LZ
    apply List.map_congr_left
    intro k _
    exact (WZ _ _ _ _ _ _).symm
  · rfl
theorem NS (secret:List UInt8) (epoch threshold many:Int) (coins:List UInt8):DM secret epoch threshold many coins=0↔secret.length≤64∧1≤threshold∧threshold≤many∧many≤8∧0≤epoch∧epoch≤1048576∧(coins.length:Int)=(secret.length:Int)*(threshold - 1):=by
  unfold DM
  by_cases h1:64<(secret.length:Int)
  · rw [if_pos h1];omega
  rw [if_neg h1]
  by_cases h2:(threshold<1∨many<threshold)∨8<many
  · rw [if_pos h2];omega
  rw [if_neg h2]
  by_cases h3:epoch<0∨1048576<epoch
  · rw [if_pos h3];omega
  rw [if_neg h3]
  by_cases h4:(coins.length:Int)≠(secret.length:Int)*(threshold - 1)
  · rw [if_pos h4];exact ⟨fun h=>(by omega),fun h=>absurd h.2.2.2.2.2.2 h4⟩
  · rw [if_neg h4];exact ⟨fun _=>⟨by omega,by omega,by omega,by omega,by omega,by omega,Classical.not_not.1 h4⟩,fun _=>rfl⟩
def ME (l:List Share):List UInt8:=(List.range l.length).map fun i=>DL l[i]!.index
def FN (l:List Share) (p:Nat):List UInt8:=(List.range l.length).map fun i=>l[i]!.data[p]!
theorem IG (l:List Share):(ME l).length=l.length:=by simp [ME]
theorem LV (l:List Share) (p:Nat):(FN l p).length=l.length:=by simp [FN]
def joinL (l:List Share):List UInt8:=(List.range l[0]!.data.length).map fun p=>(DK (ME l) (FN l p) 0).1
def DD (l:List Share):List UInt8 × Int:=if BO l≠0 then ([],BO l) else if (l.length:Int)<l[0]!.threshold then ([],80) else (joinL (l.take l[0]!.threshold.toNat),0)
theorem joinM_ok {l:List Share} {x:List UInt8} (h:BO l=0) (h2:l[0]!.threshold≤(l.length:Int)) (hx:joinL (l.take l[0]!.threshold.toNat)=x):DD l=(x,0):=by
  unfold DD;rw [if_neg (by omega),if_neg (by omega),hx]
theorem joinM_bad {l:List Share} {e:Int} (h:BO l≠0) (he:BO l=e):DD l=([],e):=by
  unfold DD;rw [if_pos h,he]
theorem YJ {l:List Share} {e:Int} (h:BO l=0) (h2:(l.length:Int)<l[0]!.threshold) (he:(80:Int)=e):DD l=([],e):=by
  unfold DD;rw [if_neg (by omega),if_pos (by omega),he]
theorem take0 {α:Type} [Inhabited α] {l:List α} {n:Nat} (h:0<n):(l.take n)[0]! = l[0]!:=by
  rw [getElem!_def,List.getElem?_take,if_pos h,getElem!_def]
theorem takeS {α:Type} [Inhabited α] {l:List α} {n i:Nat} (h:i<n):(l.take n)[i]! = l[i]!:=by
  rw [getElem!_def,List.getElem?_take,if_pos h,getElem!_def]
def ptX (l:List Share) (n:Nat):List UInt8:=(List.range n).map fun i=>DL l[i]!.index
def ptY (l:List Share) (p n:Nat):List UInt8:=(List.range n).map fun i=>l[i]!.data[p]!
def KA (l:List Share) (m:Nat):List UInt8:=0 :: ME l++(List.range m).map (fun i:Nat=>DL (9+(i:Int)))
theorem IH (l:List Share) (m:Nat):(KA l m).length=1+l.length+m:=by simp [KA,IG];omega
def NE (l:List Share) (b:UInt8) (p m:Nat):List UInt8:=b :: FN l p++List.replicate m 0
theorem expY_len (l:List Share) (b:UInt8) (p m:Nat):(NE l b p m).length=1+l.length+m:=by simp [NE,LV];omega
def ON (l:List Share) (secret:List UInt8) (m:Nat):Nat→List UInt8
  | 0=>[]
  | p+1=>ON l secret m p++(EV (KA l m) (NE l secret[p]! p m)).1.drop 1
def BE (l:List Share) (secret:List UInt8):List UInt8 × Int:=
  if BO l≠0 then ([],BO l) else if l[0]!.threshold≤(l.length:Int) then ([],80) else if (secret.length:Int)≠(l[0]!.data.length:Int) then ([],1) else (ON l secret (l[0]!.threshold.toNat - 1 - l.length) secret.length,0)
end Go.Proofs.Ytjgfokolnkhafaa
