/- What the laws of this part rest on: lemmas, and the walks of the functions. No conditions. -/
import Derived.WalkKit
import Derived.WalkSpells
import Derived.WalkLawsBesides
import Derived.RangeFuncLeaves
import Derived.Maps.AppendAt
import Derived.Deep.AppendLies
import Derived.Deep.Slices
import Derived.OpenShut
import Derived.ProofKit
import Derived.Below
import Derived.ChangeSame
import Derived.Carry
import Derived.RangeFuncRecord
import Derived.Laws.Tables
import Derived.Recover
import Derived.DefersIn
import Derived.Lib.AppendZerosOnto
import Derived.Lib.Overlaps
import Derived.Laws.CopyRow
import Derived.Laws.StructEq
import Derived.ChangeKeysEq
import Derived.OrdersIn
import Derived.Test.YtjgfokolnkhafaaGreatRows
import Derived.Test.YtjgfokolnkhafaaGreatPD22
set_option linter.unusedSimpArgs false
set_option linter.unusedVariables false
namespace Go.Proofs.YtjgfokolnkhafaaGreat
open Go.Fw Go.RowKit
set_option maxHeartbeats 4000000 in
set_option maxRecDepth 100000 in
theorem c_new {O:List Nat} (l_v:Value) (l:List Int) (threshold:Int) (wait:Int) (w:World) (a7:BB Enc.int w O l_v l) (hpre0:l.length≤1000000) (hO:∀ b∈O,b<w.heap.size):CA Tryz.prog 17 [l_v,vI threshold,vI wait] w (fun v w'=>∃ (x0:List Value),v = .tuple #[.agg x0.toArray,vI ((MI l threshold wait).2)]∧Enc.circle.rd w' (O) x0 ((MI l threshold wait).1)):= by
 have i0:=a7.len_le
 have a7:BB Enc.int w ([]++O) l_v l:=a7
 have s0:St w O w []:=St.start hO
 refine BE 21 Tryz.func17 rfl rfl oT (fun F0=>AF (AC kR (AA (CZ [vI 0,vI 0,vI 0,nS,nS] KM rfl s0 fun a3 d5 d6 b7 d7 i1 a2=>(?_)))))
 clear d6
 have a7:=a7.mv d7
 refine AA (AD (vI 0) rfl (AG (AB (AF (AC kR (AA (AE (vI threshold) rfl (AA (AE (vI wait) rfl (AA (AE (l_v) rfl (AA (LM [l_v] _ WE rfl (CE 8 Tryz.func35 rfl rfl oT (fun i2=>AF (AC kR (AA (AD (nS) rfl (AG (AB (AF (AF (AC kR (AA (AE (l_v) rfl (AA (KW U22_ rfl rfl a7 fun a9 c3=>(AG (AB (AJ (a9) rfl rfl (fun b0=>?_) (fun b0=>?_)))))))))))))))))) (fun _ _ h=>h))))))))))))))
 ·have h3:a9=true:=by simpa using b0
  refine AF (AC kR (AA (AD (nS) rfl (AG (AB (AM (AI (AS rfl (BZ rfl rfl rfl) (?_)))))))))
  have c4:l=[]:=c3 aS
  have a4:BB Enc.int d5 ((a3 :: [])++O) (.slice none 0 0) (l):=by rw [c4];exact BB.nil _ _ _
  refine Exists.intro _ (And.intro rfl (AA (EG (l:=[(1, .tmp 9),(2, .tmp 10),(3, .tmp 12)]) OR KM rfl [(1,vI threshold,[vI threshold]),(2,vI wait,[vI wait]),(3, .slice none 0 0,[.slice none 0 0])] [vI 0,vI threshold,vI wait, .slice none 0 0,nS] rfl ⟨_,rfl,rfl,oT,⟨_,rfl,rfl,oT,⟨_,rfl,(FV a4.oneCell),oT,rfl⟩⟩⟩ (CC (BF (vs:=[vI 0,vI threshold,vI wait, .slice none 0 0,nS]) (.agg #[vI 0,vI threshold,vI wait, .slice none 0 0,nS]) rfl rfl rfl BM (fun u hu=>by simp only [List.mem_cons,List.not_mem_nil,or_false] at hu;rcases hu with rfl|rfl|rfl|rfl|rfl <;> rfl) (by repeat (constructor)) a2 oT b7 fun d8 b8 d9 i3 a5=>(?_))))))
  have a4:=a4.mv d9
  refine AG (AB (AF (AF (AC kR (AA (BS (vs:=[vI 0,vI threshold,vI wait, .slice none 0 0,nS]) U25_ rfl BM rfl a5 rfl (AA (AZ (vs:=[vA #[vI 0,vI threshold,vI wait, .slice none 0 0,nS]]) NK (QH (O:=(a3 :: [])++O) [vI 0,vI threshold,vI wait, .slice none 0 0,nS] (⟨(0:Int),threshold,wait,l,[]⟩:Circle) d8 ⟨_, .slice none 0 0,rfl,a4,(BB.nil _ _ _)⟩ b8.lt) rfl b8 fun i4 i5 b9 e0 e2 e3=>(?_)))))))))
  obtain rfl:=e3
  have a4:=a4.mv e0
  have a5:=a5.keep e2 (by simp)
  refine AA (AD (vI (AP (⟨(0:Int),threshold,wait,l,[]⟩:Circle))) rfl (AG (AB (AF (AC kR (AA (AE (vI (AP (⟨(0:Int),threshold,wait,l,[]⟩:Circle))) rfl (AA (CM .i64 (AP (⟨(0:Int),threshold,wait,l,[]⟩:Circle)) (0:Int) rfl rfl (AG (AB (AJ ((AP (⟨(0:Int),threshold,wait,l,[]⟩:Circle)) != (0:Int)) rfl rfl (fun b1=>?_) (fun b1=>?_)))))))))))))
  ·have h4:AP (⟨(0:Int),threshold,wait,l,[]⟩:Circle)≠(0:Int):=by simpa using b1
   refine AF (AC kR (AA (EG (l:=[]) OR KM rfl [] [vI 0,vI 0,vI 0,nS,nS] rfl rfl (AA (AE (vI (AP (⟨(0:Int),threshold,wait,l,[]⟩:Circle))) rfl (CC (BF (vs:=[vI 0,vI 0,vI 0,nS,nS]) (.agg #[vI 0,vI 0,vI 0,nS,nS]) rfl rfl rfl BM (fun u hu=>by simp only [List.mem_cons,List.not_mem_nil,or_false] at hu;rcases hu with rfl|rfl|rfl|rfl|rfl <;> rfl) (by repeat (constructor)) a5 oT b9 fun i6 e4 i7 i8 c6=>(AA (AD (vI (AP (⟨(0:Int),threshold,wait,l,[]⟩:Circle))) rfl (AG (AB (AM (AI (AS rfl (FE rfl (EZ (vs:=[vI 0,vI 0,vI 0,nS,nS]) rfl U25_ rfl BM rfl c6 rfl) (EI rfl rfl)) (?_)))))))))))))))
   have e5:((MI l threshold wait).1)=(⟨(0:Int),(0:Int),(0:Int),[],[]⟩:Circle):=by exact congrArg (fun p=>p.1) (SK aS)
   have e6:((MI l threshold wait).2)=(AP (⟨(0:Int),threshold,wait,l,[]⟩:Circle)):=by exact congrArg (fun p=>p.2) (SK aS)
   exact ⟨_,rfl,e4.keep,by rw [e5,e6];exact ⟨[vI 0,vI 0,vI 0,nS,nS],rfl,Enc.out (B:=(a3 :: [])) ⟨.slice none 0 0, .slice none 0 0,rfl,(BB.nil _ _ _),(BB.nil _ _ _)⟩⟩⟩
  have h5:AP (⟨(0:Int),threshold,wait,l,[]⟩:Circle)=(0:Int):=by simpa using b1
  refine AR (AB (AF (AC kR (AA (BS (vs:=[vI 0,vI threshold,vI wait, .slice none 0 0,nS]) U25_ rfl BM rfl a5 rfl (CC (BF (vs:=[vI 0,vI threshold,vI wait, .slice none 0 0,nS]) (.agg #[vI 0,vI threshold,vI wait, .slice none 0 0,nS]) rfl rfl rfl BM (fun u hu=>by simp only [List.mem_cons,List.not_mem_nil,or_false] at hu;rcases hu with rfl|rfl|rfl|rfl|rfl <;> rfl) (by repeat (constructor)) a5 oT b9 fun i9 e7 e8 j0 c7=>(?_))))))))
  have a4:=a4.mv e8
  refine AA (AD (vI 0) rfl (AG (AB (AM (AS rfl (FE rfl (EZ (vs:=[vI 0,vI threshold,vI wait, .slice none 0 0,nS]) rfl U25_ rfl BM rfl c7 rfl) (EI rfl rfl)) (?_))))))
  have e9:((MI l threshold wait).1)=(⟨(0:Int),threshold,wait,l,[]⟩:Circle):=by exact congrArg (fun p=>p.1) (UK aS)
  have f0:((MI l threshold wait).2)=(0:Int):=by exact congrArg (fun p=>p.2) (UK aS)
  exact ⟨_,rfl,e7.keep,by rw [e9,f0];exact ⟨[vI 0,vI threshold,vI wait, .slice none 0 0,nS],rfl,Enc.out (B:=(a3 :: [])) ⟨_, .slice none 0 0,rfl,a4,(BB.nil _ _ _)⟩⟩⟩
 have h6:a9=false:=by simpa using b0
 refine AR (AB (AF (AC kR (AA (JL (E:=Enc.int) (xs:=[]) U22_ MS z_3 (by decide) [] [] [] rfl rfl rfl (Parts.nil _ _ _) oT b7 fun c0 f1 j1 f2 b2 f3 f4 f5 c8=>(?_))))))
 have b4:∀ b,c0.ownBlock=some b→b≠a3:=fun b hb=>by have:=a2.lt;rw [b2] at hb;cases hb;omega
 have c9:∀ b,c0.ownBlock=some b→b∈(f1 :: (a3 :: [])):=fun b hb=>by rw [b2] at hb;cases hb;simp
 clear f2 b2
 have a7:=a7.mv f4
 have a2:=a2.keep f5 (by simp)
 refine AA (AE (l_v) rfl (AA (DS (E:=Enc.int) (l:=[]) (m:=l) U22_ i_3 rfl (by decide) rfl rfl c8 a7 (fun _ hb=>.inl hb) c9 (by simp;omega) (by simp [maxLen];omega) f3 fun a0 j2 f6 h7 d0 c5 f7 j3 f8 b5=>(?_))))
 rw [List.nil_append] at b5
 have d1:∀ b,a0.ownBlock=some b→b≠a3:=fun b hb=>by rcases d0 with e1|e1 <;> rw [e1] at hb <;> first|(cases hb;have:=a2.lt;omega)|(exact b4 b hb)
 have b6:a3∈f6:=c5 a3 (by repeat (constructor))
 have a2:=a2.keep f8 (by simp only [Option.mem_toList];exact fun e=>absurd rfl (b4 _ e))
 refine AA (AD (a0) rfl (AG (AB (AM (AS rfl (BZ rfl rfl rfl) (Exists.intro _ (And.intro rfl (?_))))))))
 obtain ⟨a8,f9,j4,a1,d2⟩:=b5.publish f7
 have b6:a3∈a8:=d2 a3 (by repeat (assumption)) (fun e=>absurd rfl (d1 _ e))
 have h2:=a1.len_le
 have a2:=a2.keep (Keep.refl [] _) (by simp)
 refine AA (EG (l:=[(1, .tmp 9),(2, .tmp 10),(3, .tmp 12)]) OR KM rfl [(1,vI threshold,[vI threshold]),(2,vI wait,[vI wait]),(3,a0,[a0])] [vI 0,vI threshold,vI wait,a0,nS] rfl ⟨_,rfl,rfl,oT,⟨_,rfl,rfl,oT,⟨_,rfl,(FV a1.oneCell),oT,rfl⟩⟩⟩ (CC (BF (vs:=[vI 0,vI threshold,vI wait,a0,nS]) (.agg #[vI 0,vI threshold,vI wait,a0,nS]) rfl rfl rfl BM (fun u hu=>by simp only [List.mem_cons,List.not_mem_nil,or_false] at hu;rcases hu with rfl|rfl|rfl|rfl|rfl <;> first|rfl|exact a1.oneCell) (by repeat (assumption)) a2 oT f9 fun g0 c1 g1 j5 a6=>(?_))))
 have a1:=a1.mv g1
 refine AG (AB (AF (AF (AC kR (AA (BS (vs:=[vI 0,vI threshold,vI wait,a0,nS]) U25_ rfl BM rfl a6 rfl (AA (AZ (vs:=[vA #[vI 0,vI threshold,vI wait,a0,nS]]) NK (QH (O:=a8++O) [vI 0,vI threshold,vI wait,a0,nS] (⟨(0:Int),threshold,wait,l,[]⟩:Circle) g0 ⟨_, .slice none 0 0,rfl,a1,(BB.nil _ _ _)⟩ c1.lt) rfl c1 fun j6 j7 c2 g2 g3 g4=>(?_)))))))))
 obtain rfl:=g4
 have a1:=a1.mv g2
 have a6:=a6.keep g3 (by simp)
 refine AA (AD (vI (AP (⟨(0:Int),threshold,wait,l,[]⟩:Circle))) rfl (AG (AB (AF (AC kR (AA (AE (vI (AP (⟨(0:Int),threshold,wait,l,[]⟩:Circle))) rfl (AA (CM .i64 (AP (⟨(0:Int),threshold,wait,l,[]⟩:Circle)) (0:Int) rfl rfl (AG (AB (AJ ((AP (⟨(0:Int),threshold,wait,l,[]⟩:Circle)) != (0:Int)) rfl rfl (fun b3=>?_) (fun b3=>?_)))))))))))))
 ·have h8:AP (⟨(0:Int),threshold,wait,l,[]⟩:Circle)≠(0:Int):=by simpa using b3
  refine AF (AC kR (AA (EG (l:=[]) OR KM rfl [] [vI 0,vI 0,vI 0,nS,nS] rfl rfl (AA (AE (vI (AP (⟨(0:Int),threshold,wait,l,[]⟩:Circle))) rfl (CC (BF (vs:=[vI 0,vI 0,vI 0,nS,nS]) (.agg #[vI 0,vI 0,vI 0,nS,nS]) rfl rfl rfl BM (fun u hu=>by simp only [List.mem_cons,List.not_mem_nil,or_false] at hu;rcases hu with rfl|rfl|rfl|rfl|rfl <;> rfl) (by repeat (assumption)) a6 oT c2 fun j8 g5 j9 k0 d3=>(AA (AD (vI (AP (⟨(0:Int),threshold,wait,l,[]⟩:Circle))) rfl (AG (AB (AM (AI (AS rfl (FE rfl (EZ (vs:=[vI 0,vI 0,vI 0,nS,nS]) rfl U25_ rfl BM rfl d3 rfl) (EI rfl rfl)) (?_)))))))))))))))
  have g6:((MI l threshold wait).1)=(⟨(0:Int),(0:Int),(0:Int),[],[]⟩:Circle):=by exact congrArg (fun p=>p.1) (SK aS)
  have g7:((MI l threshold wait).2)=(AP (⟨(0:Int),threshold,wait,l,[]⟩:Circle)):=by exact congrArg (fun p=>p.2) (SK aS)
  exact ⟨_,rfl,g5.keep,by rw [g6,g7];exact ⟨[vI 0,vI 0,vI 0,nS,nS],rfl,Enc.out (B:=a8) ⟨.slice none 0 0, .slice none 0 0,rfl,(BB.nil _ _ _),(BB.nil _ _ _)⟩⟩⟩
 have h9:AP (⟨(0:Int),threshold,wait,l,[]⟩:Circle)=(0:Int):=by simpa using b3
 refine AR (AB (AF (AC kR (AA (BS (vs:=[vI 0,vI threshold,vI wait,a0,nS]) U25_ rfl BM rfl a6 rfl (CC (BF (vs:=[vI 0,vI threshold,vI wait,a0,nS]) (.agg #[vI 0,vI threshold,vI wait,a0,nS]) rfl rfl rfl BM (fun u hu=>by simp only [List.mem_cons,List.not_mem_nil,or_false] at hu;rcases hu with rfl|rfl|rfl|rfl|rfl <;> first|rfl|exact a1.oneCell) (by repeat (assumption)) a6 oT c2 fun k1 g8 g9 k2 d4=>(?_))))))))
 have a1:=a1.mv g9
 refine AA (AD (vI 0) rfl (AG (AB (AM (AS rfl (FE rfl (EZ (vs:=[vI 0,vI threshold,vI wait,a0,nS]) rfl U25_ rfl BM rfl d4 rfl) (EI rfl rfl)) (?_))))))
 have h0:((MI l threshold wait).1)=(⟨(0:Int),threshold,wait,l,[]⟩:Circle):=by exact congrArg (fun p=>p.1) (UK aS)
 have h1:((MI l threshold wait).2)=(0:Int):=by exact congrArg (fun p=>p.2) (UK aS)
 exact ⟨_,rfl,g8.keep,by rw [h0,h1];exact ⟨[vI 0,vI threshold,vI wait,a0,nS],rfl,Enc.out (B:=a8) ⟨_, .slice none 0 0,rfl,a1,(BB.nil _ _ _)⟩⟩⟩
set_option maxHeartbeats 4000000 in
set_option maxRecDepth 100000 in
theorem c_ask {O:List Nat} (c_cs:List Value) (c:Circle) (day:Int) (w:World) (n7:Enc.circle.rd w O c_cs c) (hO:∀ b∈O,b<w.heap.size):CA Tryz.prog 18 [.agg c_cs.toArray,vI day] w (fun v w'=>∃ (x0:List Value),v = .tuple #[.agg x0.toArray,vI ((CL c day).2.1),vI ((CL c day).2.2)]∧Enc.circle.rd w' (O) x0 ((CL c day).1)):= by
 have n7:Enc.circle.rd w ([]++O) c_cs c:=n7
 have s0:St w O w []:=St.start hO
 refine BE 55 Tryz.func18 rfl rfl oT (fun F0=>AF (AC kR (AA (DR (E:=Enc.circle) (vA c_cs.toArray) (c_cs) c rfl rfl n7 s0 fun E6 E7 q8 E8 E9 a5=>(AA (CZ [vI 0,vI 0,vI 0,nS,nS] KM rfl q8 fun a0 q9 r0 j1 r4 F1 a4=>(?_)))))))
 clear r0
 have a5:=a5.mv r4
 refine AA (AD (vI 0) rfl (AA (AD (vI 0) rfl (AG (AB (AF (AF (AC kR (AA (CJ U25_ rfl BM rfl a5 fun g0 n9=>(AA (AZ (vs:=[vA g0.toArray]) NK (QH (O:=(a0 :: [])++O) g0 c q9 n9 j1.lt) rfl j1 fun F2 F3 j2 r5 r6 r7=>(?_)))))))))))))
 obtain rfl:=r7
 have a5:=a5.mv r5
 have a4:=a4.keep r6 (by simp)
 refine AA (AD (vI (AP c)) rfl (AG (AB (AF (AC kR (AA (AE (vI (AP c)) rfl (AA (CM .i64 (AP c) (0:Int) rfl rfl (AG (AB (AJ ((AP c) != (0:Int)) rfl rfl (fun d0=>?_) (fun d0=>?_)))))))))))))
 ·have B6:AP c≠(0:Int):=by simpa using d0
  refine AF (AC kR (AA (BS (vs:=[vI 0,vI 0,vI 0,nS,nS]) U25_ rfl BM rfl a4 rfl (AA (AE (vI (AP c)) rfl (CC (BF (vs:=[vI 0,vI 0,vI 0,nS,nS]) (.agg #[vI 0,vI 0,vI 0,nS,nS]) rfl rfl rfl BM (fun u hu=>by simp only [List.mem_cons,List.not_mem_nil,or_false] at hu;rcases hu with rfl|rfl|rfl|rfl|rfl <;> rfl) (by repeat (constructor)) a4 oT j2 fun F4 r8 F5 F6 o0=>(AA (AD (vI 0) rfl (AA (AD (vI (AP c)) rfl (AG (AB (AM (AI (AS rfl (IF rfl (EZ (vs:=[vI 0,vI 0,vI 0,nS,nS]) rfl U25_ rfl BM rfl o0 rfl) (EI rfl rfl) (EI rfl rfl)) (?_)))))))))))))))))
  have r9:((CL c day).1)=(⟨(0:Int),(0:Int),(0:Int),[],[]⟩:Circle):=by exact congrArg (fun p=>p.1) (UY aS)
  have s1:((CL c day).2.1)=(0:Int):=by exact congrArg (fun p=>p.2.1) (UY aS)
  have s2:((CL c day).2.2)=(AP c):=by exact congrArg (fun p=>p.2.2) (UY aS)
  exact ⟨_,rfl,r8.keep,by rw [r9,s1,s2];exact ⟨[vI 0,vI 0,vI 0,nS,nS],rfl,Enc.out (B:=(a0 :: [])) ⟨.slice none 0 0, .slice none 0 0,rfl,(BB.nil _ _ _),(BB.nil _ _ _)⟩⟩⟩
 have o1:AP c=(0:Int):=by simpa using d0
 have hrl:=recs_le o1
 refine AR (AB (AF (AC kR (AA (AY 4 DL (c.recs) rfl a5 (fun _ _ _ h=>BX h) fun F7 o2=>(AA (BL U23_ rfl rfl o2 fun F8 g1=>(?_))))))))
 have:=g1.len_le
 refine AA (BP U23_ rfl g1 (AA (AD (vI (c.recs.length:Int)) rfl (AG (AB (AF (AC kR (AA (EG (l:=[(2, .const (vI 1))]) pl_59 NA rfl [(2,vI 1,[vI 1])] [vI 0,vI 0,vI 1,nS,nS] rfl ⟨_,rfl,rfl,oT,rfl⟩ (AA (CZ [vI 0,vI 0,vI 0,nS,nS] NA rfl j2 fun a3 F9 s3 s4 s5 s6 o3=>(?_))))))))))))
 have c4:HD a0 a3:=by show a0≠a3;have:=a4.lt;omega
 clear s3
 have a5:=a5.mv s5
 have a4:=a4.keep s6 (by simp)
 refine CC (BF (vs:=[vI 0,vI 0,vI 1,nS,nS]) (.agg #[vI 0,vI 0,vI 1,nS,nS]) rfl rfl rfl GM (fun u hu=>by simp only [List.mem_cons,List.not_mem_nil,or_false] at hu;rcases hu with rfl|rfl|rfl|rfl|rfl <;> rfl) (by repeat (constructor)) o3 oT s4 fun s7 f0 s8 s9 a6=>(?_))
 have a5:=a5.mv s8
 have a4:=a4.keep s9 (BH c4)
 refine AG (AB (AF (AF (AC kR (AA (AE (vI (c.recs.length:Int)) rfl (AA (FN .i64 (c.recs.length:Int) (0:Int) rfl rfl (AG (AB (AJ (decide ((0:Int)<(c.recs.length:Int))) rfl rfl (fun d1=>?_) (fun d1=>?_))))))))))))
 ·have B7:(0:Int)<(c.recs.length:Int):=by simpa using d1
  have hlr:PF c=c.recs[c.recs.length - 1]!:=if_pos oM
  refine AC kR (AA (AY 4 DL (c.recs) rfl a5 (fun _ _ _ h=>BX h) fun G0 o4=>(AA (BL U23_ rfl rfl o4 fun G1 g2=>(?_)))))
  have:=g2.len_le
  refine AA (AE (vI (c.recs.length:Int)) rfl (AA (HK .i64 (c.recs.length:Int) (1:Int) (((c.recs.length - 1:Nat):Int)) rfl rfl (GA oM oM) (AA (CR U23_ GM .i64 ((c.recs.length - 1:Nat):Int) (c.recs.length - 1) rfl rfl rfl g2 oM fun G2 o5=>(AA (CJ U59_ rfl GM rfl o5 fun B8 o6=>(?_))))))))
  obtain ⟨j3,j4,rfl,g3,g4⟩:=o6
  have:=g3.len_le
  have:=g4.len_le
  refine CC (BF (vs:=[vI ((c.recs[c.recs.length - 1]!).no),vI ((c.recs[c.recs.length - 1]!).asked),vI ((c.recs[c.recs.length - 1]!).state),j3,j4]) (.agg #[vI ((c.recs[c.recs.length - 1]!).no),vI ((c.recs[c.recs.length - 1]!).asked),vI ((c.recs[c.recs.length - 1]!).state),j3,j4]) rfl rfl rfl GM (fun u hu=>by simp only [List.mem_cons,List.not_mem_nil,or_false] at hu;rcases hu with rfl|rfl|rfl|rfl|rfl <;> first|rfl|exact g3.oneCell|exact g4.oneCell) (by repeat (constructor)) a6 oT f0 fun t0 j5 t2 t3 a7=>(?_))
  have a5:=a5.mv t2
  have a4:=a4.keep t3 (BH c4)
  refine AG (AB (AF (BD (AF (AC kR (AA (AE (vI day) rfl (AA (AT 1 JD rfl (AA (AU U3_ rfl (vI ((c.recs[c.recs.length - 1]!).asked)) rfl a7 rfl (AA (AZ (vs:=[vI day,vI ((c.recs[c.recs.length - 1]!).asked)]) NO (QK (O:=(a3 :: (a0 :: []))++O) day ((c.recs[c.recs.length - 1]!).asked) t0 j5.lt) rfl j5 fun G3 G4 c9 t4 j6 t5=>(?_))))))))))))))
  obtain rfl:=t5
  have a5:=a5.mv t4
  have a4:=a4.keep j6 (by simp)
  have a7:=a7.keep j6 (by simp)
  refine AA (EU (DC day ((c.recs[c.recs.length - 1]!).asked)) rfl (AA (AD (vO (!(DC day ((c.recs[c.recs.length - 1]!).asked)))) rfl (AG (AB (AJ (!(DC day ((c.recs[c.recs.length - 1]!).asked))) rfl rfl (fun d2=>?_) (fun d2=>?_)))))))
  ·have B9:(DC day ((c.recs[c.recs.length - 1]!).asked))=false:=by simpa using d2
   refine AF (AC kR (AA (BS (vs:=[vI 0,vI 0,vI 0,nS,nS]) U25_ rfl BM rfl a4 rfl (CC (BF (vs:=[vI 0,vI 0,vI 0,nS,nS]) (.agg #[vI 0,vI 0,vI 0,nS,nS]) rfl rfl rfl BM (fun u hu=>by simp only [List.mem_cons,List.not_mem_nil,or_false] at hu;rcases hu with rfl|rfl|rfl|rfl|rfl <;> rfl) (by repeat (constructor)) a4 oT c9 fun G5 t6 G6 G7 o7=>(AA (AD (vI 0) rfl (AA (AD (vI 1) rfl (AG (AB (AM (BC (AI (AS rfl (IF rfl (EZ (vs:=[vI 0,vI 0,vI 0,nS,nS]) rfl U25_ rfl BM rfl o7 rfl) (EI rfl rfl) (EI rfl rfl)) (?_))))))))))))))))
   have t7:((CL c day).1)=(⟨(0:Int),(0:Int),(0:Int),[],[]⟩:Circle):=by exact congrArg (fun p=>p.1) (NP aS (by rw [hlr];assumption))
   have t8:((CL c day).2.1)=(0:Int):=by exact congrArg (fun p=>p.2.1) (NP aS (by rw [hlr];assumption))
   have t9:((CL c day).2.2)=(1:Int):=by exact congrArg (fun p=>p.2.2) (NP aS (by rw [hlr];assumption))
   exact ⟨_,rfl,t6.keep,by rw [t7,t8,t9];exact ⟨[vI 0,vI 0,vI 0,nS,nS],rfl,Enc.out (B:=(a3 :: (a0 :: []))) ⟨.slice none 0 0, .slice none 0 0,rfl,(BB.nil _ _ _),(BB.nil _ _ _)⟩⟩⟩
  have C0:(DC day ((c.recs[c.recs.length - 1]!).asked))=true:=by simpa using d2
  refine AF (AC kR (AA (AT 2 HN rfl (AA (AU U3_ rfl (vI ((c.recs[c.recs.length - 1]!).state)) rfl a7 rfl (AA (EK .i64 ((c.recs[c.recs.length - 1]!).state) (0:Int) rfl rfl (AA (AD (vO (((c.recs[c.recs.length - 1]!).state) == (0:Int))) rfl (AG (AB (AJ (((c.recs[c.recs.length - 1]!).state) == (0:Int)) rfl rfl (fun d3=>?_) (fun d3=>?_)))))))))))))
  ·have C1:(c.recs[c.recs.length - 1]!).state=(0:Int):=by simpa using d3
   refine AF (AC kR (AA (BS (vs:=[vI 0,vI 0,vI 0,nS,nS]) U25_ rfl BM rfl a4 rfl (CC (BF (vs:=[vI 0,vI 0,vI 0,nS,nS]) (.agg #[vI 0,vI 0,vI 0,nS,nS]) rfl rfl rfl BM (fun u hu=>by simp only [List.mem_cons,List.not_mem_nil,or_false] at hu;rcases hu with rfl|rfl|rfl|rfl|rfl <;> rfl) (by repeat (constructor)) a4 oT c9 fun G8 u0 G9 H0 o8=>(AA (AD (vI 0) rfl (AA (AD (vI 451) rfl (AG (AB (AM (BC (AI (AS rfl (IF rfl (EZ (vs:=[vI 0,vI 0,vI 0,nS,nS]) rfl U25_ rfl BM rfl o8 rfl) (EI rfl rfl) (EI rfl rfl)) (?_))))))))))))))))
   have u1:((CL c day).1)=(⟨(0:Int),(0:Int),(0:Int),[],[]⟩:Circle):=by exact congrArg (fun p=>p.1) (TO aS (by rw [hlr];assumption) (by rw [hlr];assumption))
   have u2:((CL c day).2.1)=(0:Int):=by exact congrArg (fun p=>p.2.1) (TO aS (by rw [hlr];assumption) (by rw [hlr];assumption))
   have u3:((CL c day).2.2)=(451:Int):=by exact congrArg (fun p=>p.2.2) (TO aS (by rw [hlr];assumption) (by rw [hlr];assumption))
   exact ⟨_,rfl,u0.keep,by rw [u1,u2,u3];exact ⟨[vI 0,vI 0,vI 0,nS,nS],rfl,Enc.out (B:=(a3 :: (a0 :: []))) ⟨.slice none 0 0, .slice none 0 0,rfl,(BB.nil _ _ _),(BB.nil _ _ _)⟩⟩⟩
  have C2:(c.recs[c.recs.length - 1]!).state≠(0:Int):=by simpa using d3
  refine AF (AC kR (AA (AE (vI (c.recs.length:Int)) rfl (AA (EK .i64 (c.recs.length:Int) (1024:Int) rfl rfl (AA (AD (vO ((c.recs.length:Int) == (1024:Int))) rfl (AG (AB (AJ ((c.recs.length:Int) == (1024:Int)) rfl rfl (fun d4=>?_) (fun d4=>?_)))))))))))
  ·have C3:(c.recs.length:Int)=(1024:Int):=by simpa using d4
   refine AF (AC kR (AA (BS (vs:=[vI 0,vI 0,vI 0,nS,nS]) U25_ rfl BM rfl a4 rfl (CC (BF (vs:=[vI 0,vI 0,vI 0,nS,nS]) (.agg #[vI 0,vI 0,vI 0,nS,nS]) rfl rfl rfl BM (fun u hu=>by simp only [List.mem_cons,List.not_mem_nil,or_false] at hu;rcases hu with rfl|rfl|rfl|rfl|rfl <;> rfl) (by repeat (constructor)) a4 oT c9 fun H1 u4 H2 H3 o9=>(AA (AD (vI 0) rfl (AA (AD (vI 2) rfl (AG (AB (AM (BC (AI (AS rfl (IF rfl (EZ (vs:=[vI 0,vI 0,vI 0,nS,nS]) rfl U25_ rfl BM rfl o9 rfl) (EI rfl rfl) (EI rfl rfl)) (?_))))))))))))))))
   have u5:((CL c day).1)=(⟨(0:Int),(0:Int),(0:Int),[],[]⟩:Circle):=by exact congrArg (fun p=>p.1) (LW aS (by rw [hlr];assumption) (by rw [hlr];assumption) aS)
   have u6:((CL c day).2.1)=(0:Int):=by exact congrArg (fun p=>p.2.1) (LW aS (by rw [hlr];assumption) (by rw [hlr];assumption) aS)
   have u7:((CL c day).2.2)=(2:Int):=by exact congrArg (fun p=>p.2.2) (LW aS (by rw [hlr];assumption) (by rw [hlr];assumption) aS)
   exact ⟨_,rfl,u4.keep,by rw [u5,u6,u7];exact ⟨[vI 0,vI 0,vI 0,nS,nS],rfl,Enc.out (B:=(a3 :: (a0 :: []))) ⟨.slice none 0 0, .slice none 0 0,rfl,(BB.nil _ _ _),(BB.nil _ _ _)⟩⟩⟩
  have C4:(c.recs.length:Int)≠(1024:Int):=by simpa using d4
  refine AR (CB (AB (AF (AC kR (AA (CJ U25_ rfl BM rfl a5 fun C5 p0=>(?_)))))))
  obtain ⟨b0,j7,rfl,a1,g5⟩:=p0
  have:=a1.len_le
  have:=g5.len_le
  refine CC (BF (vs:=[vI c.epoch,vI c.threshold,vI c.wait,b0,j7]) (.agg #[vI c.epoch,vI c.threshold,vI c.wait,b0,j7]) rfl rfl rfl BM (fun u hu=>by simp only [List.mem_cons,List.not_mem_nil,or_false] at hu;rcases hu with rfl|rfl|rfl|rfl|rfl <;> first|rfl|exact a1.oneCell|exact g5.oneCell) (by repeat (constructor)) a4 oT c9 fun u9 j8 j9 v0 a8=>(?_))
  have a5:=a5.mv j9
  have a1:=a1.mv j9
  have a7:=a7.keep v0 (BH (Ne.symm c4))
  refine AG (AB (AF (AC kR (AA (AY 4 DL (c.recs) rfl a5 (fun _ _ _ h=>BX h) fun H4 p1=>(AA (BL U23_ rfl rfl p1 fun f1 c2=>(?_))))))))
  have:=c2.len_le
  refine AA (LM [f1] _ NL rfl (CE 8 Tryz.func39 rfl rfl oT (fun H5=>AF (AC kR (AA (AD (nS) rfl (AG (AB (AF (AF (AC kR (AA (AE (f1) rfl (AA (KW U23_ rfl rfl c2 fun d5 n5=>(AG (AB (AJ (d5) rfl rfl (fun d6=>?_) (fun d6=>?_)))))))))))))))))) (fun _ _ h=>h))
  ·have C6:d5=true:=by simpa using d6
   refine AF (AC kR (AA (AD (nS) rfl (AG (AB (AM (AI (AS rfl (BZ rfl rfl rfl) (?_)))))))))
   have e2:c.recs=[]:=n5 aS
   have C7:BB Enc.recovery u9 ((a3 :: (a0 :: []))++O) (.slice none 0 0) (c.recs):=by rw [e2];exact BB.nil _ _ _
   refine Exists.intro _ (And.intro rfl (AA (AE (vI (c.recs.length:Int)) rfl (AA (AE (vI day) rfl (AA (EG (l:=[(0, .tmp 47),(1, .tmp 48),(2, .const (vI 0))]) pl_59 NA rfl [(0,vI (c.recs.length:Int),[vI (c.recs.length:Int)]),(1,vI day,[vI day]),(2,vI 0,[vI 0])] [vI (c.recs.length:Int),vI day,vI 0,nS,nS] rfl ⟨_,rfl,rfl,oT,⟨_,rfl,rfl,oT,⟨_,rfl,rfl,oT,rfl⟩⟩⟩ (AA (JG (E:=Enc.recovery) (xs:=[.tmp 49]) U23_ GM NA (by decide) [.agg #[vI (c.recs.length:Int),vI day,vI 0,nS,nS]] [[vI (c.recs.length:Int),vI day,vI 0,nS,nS]] [(⟨(c.recs.length:Int),day,(0:Int),[],[]⟩:Recovery)] rfl rfl rfl (Parts.cons rfl ⟨.slice none 0 0, .slice none 0 0,rfl,(BB.nil _ _ _),(BB.nil _ _ _)⟩ (Parts.nil _ _ _)) oT j8 fun H6 H7 v1 v2 k0 g6=>(?_))))))))))
   have a1:=a1.mv v2
   have a8:=a8.keep k0 (by simp)
   have a7:=a7.keep k0 (by simp)
   have:=g6.len_le
   refine AA (DS (v:=.slice none 0 0) (E:=Enc.recovery) (l:=c.recs) (m:=[(⟨(c.recs.length:Int),day,(0:Int),[],[]⟩:Recovery)]) U23_ XJ rfl (by decide) rfl rfl (by rw [e2];exact EX.nil Enc.recovery 59 _ _ _) g6 (fun _ hb=>.inl hb) (by intro b hb;simp [Value.ownBlock] at hb) (by simp;omega) (by simp [maxLen];omega) v1 fun b8 H8 k1 C8 g7 e3 v3 v4 v5 b4=>(?_))
   have g8:∀ b,b8.ownBlock=some b→b≠a0:=fun b hb=>by rcases g7 with e1|e1 <;> rw [e1] at hb <;> first|(simp [Value.ownBlock] at hb;done)|(cases hb;have:=a8.lt;omega)
   have C9:∀ b,b8.ownBlock=some b→b≠a3:=fun b hb=>by rcases g7 with e1|e1 <;> rw [e1] at hb <;> first|(simp [Value.ownBlock] at hb;done)|(cases hb;have:=a7.lt;omega)
   have b2:a0∈k1:=e3 a0 (by repeat (constructor))
   have b3:a3∈k1:=e3 a3 (by repeat (constructor))
   have a1:=a1.mv v4
   have a8:=a8.keep v5 (by simp only [Option.mem_toList];(simp [Value.ownBlock];done))
   refine AA (AT 4 DL rfl (CC (CN (b8) rfl rfl b4.oneCell s_23 (by repeat (assumption)) a8 oT v3 fun H9 v6 k2 v7 g9=>(?_))))
   have a1:=a1.mv k2
   have b4:=b4.mv k2 v7 (fun b hb=>BH (g8 b hb))
   refine AG (AB (AF (AC kR (AA (BS (vs:=[vI c.epoch,vI c.threshold,vI c.wait,b0,b8]) U25_ rfl BM rfl g9 rfl (AA (AE (vI (c.recs.length:Int)) rfl (CC (BF (vs:=[vI c.epoch,vI c.threshold,vI c.wait,b0,b8]) (.agg #[vI c.epoch,vI c.threshold,vI c.wait,b0,b8]) rfl rfl rfl BM (fun u hu=>by simp only [List.mem_cons,List.not_mem_nil,or_false] at hu;rcases hu with rfl|rfl|rfl|rfl|rfl <;> first|rfl|exact a1.oneCell|exact b4.oneCell) (by repeat (assumption)) g9 oT v6 fun I0 k3 k4 v8 p2=>(?_))))))))))
   have a1:=a1.mv k4
   have b4:=b4.mv k4 v8 (fun b hb=>BH (g8 b hb))
   refine AA (AD (vI (c.recs.length:Int)) rfl (AA (AD (vI 0) rfl (AG (AB (AM (AS rfl (IF rfl (EZ (vs:=[vI c.epoch,vI c.threshold,vI c.wait,b0,b8]) rfl U25_ rfl BM rfl p2 rfl) (EI rfl rfl) (EI rfl rfl)) (?_))))))))
   have v9:((CL c day).1)=(⟨c.epoch,c.threshold,c.wait,c.guardians,c.recs++([(⟨(c.recs.length:Int),day,(0:Int),[],[]⟩:Recovery)])⟩:Circle):=by exact congrArg (fun p=>p.1) (JK aS (by rw [hlr];assumption) (by rw [hlr];assumption) aS)
   have w0:((CL c day).2.1)=(c.recs.length:Int):=by exact congrArg (fun p=>p.2.1) (JK aS (by rw [hlr];assumption) (by rw [hlr];assumption) aS)
   have w1:((CL c day).2.2)=(0:Int):=by exact congrArg (fun p=>p.2.2) (JK aS (by rw [hlr];assumption) (by rw [hlr];assumption) aS)
   exact ⟨_,rfl,k3.keep,by rw [v9,w0,w1];exact ⟨[vI c.epoch,vI c.threshold,vI c.wait,b0,b8],rfl,⟨_,_,rfl,a1.out,(b4.pub k3)⟩⟩⟩
  have D0:d5=false:=by simpa using d6
  refine AR (AB (AF (AC kR (AA (JL (E:=Enc.recovery) (xs:=[]) U23_ GM NA (by decide) [] [] [] rfl rfl rfl (Parts.nil _ _ _) oT j8 fun f2 w2 I1 w3 c5 w4 k5 k6 p3=>(?_))))))
  have h0:∀ b,f2.ownBlock=some b→b≠a0:=fun b hb=>by have:=a8.lt;rw [c5] at hb;cases hb;omega
  have h1:∀ b,f2.ownBlock=some b→b≠a3:=fun b hb=>by have:=a7.lt;rw [c5] at hb;cases hb;omega
  have p4:∀ b,f2.ownBlock=some b→b∈(w2 :: (a3 :: (a0 :: []))):=fun b hb=>by rw [c5] at hb;cases hb;simp
  clear w3 c5
  have c2:=c2.mv k5
  have a1:=a1.mv k5
  have a8:=a8.keep k6 (by simp)
  have a7:=a7.keep k6 (by simp)
  refine AA (AE (f1) rfl (AA (DS (E:=Enc.recovery) (l:=[]) (m:=c.recs) U23_ XJ rfl (by decide) rfl rfl p3 c2 (fun _ hb=>.inl hb) p4 (by simp;omega) (by simp [maxLen];omega) w4 fun f3 I2 k7 p5 h2 e4 w5 w6 k8 c6=>(?_))))
  rw [List.nil_append] at c6
  have h3:∀ b,f3.ownBlock=some b→b≠a0:=fun b hb=>by rcases h2 with e1|e1 <;> rw [e1] at hb <;> first|(cases hb;have:=a8.lt;omega)|(exact h0 b hb)
  have p6:∀ b,f3.ownBlock=some b→b≠a3:=fun b hb=>by rcases h2 with e1|e1 <;> rw [e1] at hb <;> first|(cases hb;have:=a7.lt;omega)|(exact h1 b hb)
  have b2:a0∈k7:=e4 a0 (by repeat (constructor))
  have b3:a3∈k7:=e4 a3 (by repeat (constructor))
  have a1:=a1.mv w6
  have a8:=a8.keep k8 (by simp only [Option.mem_toList];exact fun e=>absurd rfl (h0 _ e))
  have a7:=a7.keep k8 (by simp only [Option.mem_toList];exact fun e=>absurd rfl (h1 _ e))
  refine AA (AD (f3) rfl (AG (AB (AM (AS rfl (BZ rfl rfl rfl) (Exists.intro _ (And.intro rfl (AA (AE (vI (c.recs.length:Int)) rfl (AA (AE (vI day) rfl (AA (EG (l:=[(0, .tmp 47),(1, .tmp 48),(2, .const (vI 0))]) pl_59 NA rfl [(0,vI (c.recs.length:Int),[vI (c.recs.length:Int)]),(1,vI day,[vI day]),(2,vI 0,[vI 0])] [vI (c.recs.length:Int),vI day,vI 0,nS,nS] rfl ⟨_,rfl,rfl,oT,⟨_,rfl,rfl,oT,⟨_,rfl,rfl,oT,rfl⟩⟩⟩ (AA (JG (E:=Enc.recovery) (xs:=[.tmp 49]) U23_ GM NA (by decide) [.agg #[vI (c.recs.length:Int),vI day,vI 0,nS,nS]] [[vI (c.recs.length:Int),vI day,vI 0,nS,nS]] [(⟨(c.recs.length:Int),day,(0:Int),[],[]⟩:Recovery)] rfl rfl rfl (Parts.cons rfl ⟨.slice none 0 0, .slice none 0 0,rfl,(BB.nil _ _ _),(BB.nil _ _ _)⟩ (Parts.nil _ _ _)) oT w5 fun I3 I4 w7 k9 f4 h4=>(?_))))))))))))))))
  have a1:=a1.mv k9
  have c6:=c6.mv k9 f4 (by simp)
  have a8:=a8.keep f4 (by simp)
  have a7:=a7.keep f4 (by simp)
  have:=h4.len_le
  refine AA (DS (E:=Enc.recovery) (l:=c.recs) (m:=[(⟨(c.recs.length:Int),day,(0:Int),[],[]⟩:Recovery)]) U23_ XJ rfl (by decide) rfl rfl c6 h4 (fun _ hb=>.inl hb) p5 (by simp;omega) (by simp [maxLen];omega) w7 fun b9 I5 l0 D1 h5 e5 w8 w9 x1 b5=>(?_))
  have h6:∀ b,b9.ownBlock=some b→b≠a0:=fun b hb=>by rcases h5 with e1|e1 <;> rw [e1] at hb <;> first|(cases hb;have:=a8.lt;omega)|(exact h3 b hb)
  have D2:∀ b,b9.ownBlock=some b→b≠a3:=fun b hb=>by rcases h5 with e1|e1 <;> rw [e1] at hb <;> first|(cases hb;have:=a7.lt;omega)|(exact p6 b hb)
  have b2:a0∈l0:=e5 a0 (by repeat (assumption))
  have b3:a3∈l0:=e5 a3 (by repeat (assumption))
  have a1:=a1.mv w9
  have a8:=a8.keep x1 (by simp only [Option.mem_toList];exact fun e=>absurd rfl (h3 _ e))
  refine AA (AT 4 DL rfl (CC (CN (b9) rfl rfl b5.oneCell s_23 (by repeat (assumption)) a8 oT w8 fun I6 x2 l1 x3 h7=>(?_))))
  have a1:=a1.mv l1
  have b5:=b5.mv l1 x3 (fun b hb=>BH (h6 b hb))
  refine AG (AB (AF (AC kR (AA (BS (vs:=[vI c.epoch,vI c.threshold,vI c.wait,b0,b9]) U25_ rfl BM rfl h7 rfl (AA (AE (vI (c.recs.length:Int)) rfl (CC (BF (vs:=[vI c.epoch,vI c.threshold,vI c.wait,b0,b9]) (.agg #[vI c.epoch,vI c.threshold,vI c.wait,b0,b9]) rfl rfl rfl BM (fun u hu=>by simp only [List.mem_cons,List.not_mem_nil,or_false] at hu;rcases hu with rfl|rfl|rfl|rfl|rfl <;> first|rfl|exact a1.oneCell|exact b5.oneCell) (by repeat (assumption)) h7 oT x2 fun I7 l2 l3 x4 p7=>(?_))))))))))
  have a1:=a1.mv l3
  have b5:=b5.mv l3 x4 (fun b hb=>BH (h6 b hb))
  refine AA (AD (vI (c.recs.length:Int)) rfl (AA (AD (vI 0) rfl (AG (AB (AM (AS rfl (IF rfl (EZ (vs:=[vI c.epoch,vI c.threshold,vI c.wait,b0,b9]) rfl U25_ rfl BM rfl p7 rfl) (EI rfl rfl) (EI rfl rfl)) (?_))))))))
  have x5:((CL c day).1)=(⟨c.epoch,c.threshold,c.wait,c.guardians,c.recs++([(⟨(c.recs.length:Int),day,(0:Int),[],[]⟩:Recovery)])⟩:Circle):=by exact congrArg (fun p=>p.1) (JK aS (by rw [hlr];assumption) (by rw [hlr];assumption) aS)
  have x6:((CL c day).2.1)=(c.recs.length:Int):=by exact congrArg (fun p=>p.2.1) (JK aS (by rw [hlr];assumption) (by rw [hlr];assumption) aS)
  have x7:((CL c day).2.2)=(0:Int):=by exact congrArg (fun p=>p.2.2) (JK aS (by rw [hlr];assumption) (by rw [hlr];assumption) aS)
  exact ⟨_,rfl,l2.keep,by rw [x5,x6,x7];exact ⟨[vI c.epoch,vI c.threshold,vI c.wait,b0,b9],rfl,⟨_,_,rfl,a1.out,(b5.pub l2)⟩⟩⟩
 have D3:(c.recs.length:Int)≤(0:Int):=by simpa using d1
 have hlr:PF c = ⟨0,0,1,[],[]⟩:=if_neg oM
 refine AR (AB (AF (BD (AF (AC kR (AA (AE (vI day) rfl (AA (AT 1 JD rfl (AA (AU U3_ rfl (vI 0) rfl a6 rfl (AA (AZ (vs:=[vI day,vI 0]) NO (QK (O:=(a3 :: (a0 :: []))++O) day (0:Int) s7 f0.lt) rfl f0 fun I8 I9 f5 x8 l4 x9=>(?_))))))))))))))
 obtain rfl:=x9
 have a5:=a5.mv x8
 have a4:=a4.keep l4 (by simp)
 have a6:=a6.keep l4 (by simp)
 refine AA (EU (DC day (0:Int)) rfl (AA (AD (vO (!(DC day (0:Int)))) rfl (AG (AB (AJ (!(DC day (0:Int))) rfl rfl (fun d7=>?_) (fun d7=>?_)))))))
 ·have D4:(DC day (0:Int))=false:=by simpa using d7
  refine AF (AC kR (AA (BS (vs:=[vI 0,vI 0,vI 0,nS,nS]) U25_ rfl BM rfl a4 rfl (CC (BF (vs:=[vI 0,vI 0,vI 0,nS,nS]) (.agg #[vI 0,vI 0,vI 0,nS,nS]) rfl rfl rfl BM (fun u hu=>by simp only [List.mem_cons,List.not_mem_nil,or_false] at hu;rcases hu with rfl|rfl|rfl|rfl|rfl <;> rfl) (by repeat (constructor)) a4 oT f5 fun J0 y0 J1 J2 p8=>(AA (AD (vI 0) rfl (AA (AD (vI 1) rfl (AG (AB (AM (BC (AI (AS rfl (IF rfl (EZ (vs:=[vI 0,vI 0,vI 0,nS,nS]) rfl U25_ rfl BM rfl p8 rfl) (EI rfl rfl) (EI rfl rfl)) (?_))))))))))))))))
  have y1:((CL c day).1)=(⟨(0:Int),(0:Int),(0:Int),[],[]⟩:Circle):=by exact congrArg (fun p=>p.1) (NP aS (by rw [hlr];assumption))
  have y2:((CL c day).2.1)=(0:Int):=by exact congrArg (fun p=>p.2.1) (NP aS (by rw [hlr];assumption))
  have y3:((CL c day).2.2)=(1:Int):=by exact congrArg (fun p=>p.2.2) (NP aS (by rw [hlr];assumption))
  exact ⟨_,rfl,y0.keep,by rw [y1,y2,y3];exact ⟨[vI 0,vI 0,vI 0,nS,nS],rfl,Enc.out (B:=(a3 :: (a0 :: []))) ⟨.slice none 0 0, .slice none 0 0,rfl,(BB.nil _ _ _),(BB.nil _ _ _)⟩⟩⟩
 have D5:(DC day (0:Int))=true:=by simpa using d7
 refine AF (AC kR (AA (AT 2 HN rfl (AA (AU U3_ rfl (vI 1) rfl a6 rfl (AA (EK .i64 (1:Int) (0:Int) rfl rfl (AA (AD (vO false) rfl (AG (AB (AJ false rfl rfl (fun h=>by cases h) (fun _=>AF (AC kR (AA (AE (vI (c.recs.length:Int)) rfl (AA (EK .i64 (c.recs.length:Int) (1024:Int) rfl rfl (AA (AD (vO ((c.recs.length:Int) == (1024:Int))) rfl (AG (AB (AJ ((c.recs.length:Int) == (1024:Int)) rfl rfl (fun d8=>?_) (fun d8=>?_))))))))))))))))))))))))
 ·have D6:(c.recs.length:Int)=(1024:Int):=by simpa using d8
  refine AF (AC kR (AA (BS (vs:=[vI 0,vI 0,vI 0,nS,nS]) U25_ rfl BM rfl a4 rfl (CC (BF (vs:=[vI 0,vI 0,vI 0,nS,nS]) (.agg #[vI 0,vI 0,vI 0,nS,nS]) rfl rfl rfl BM (fun u hu=>by simp only [List.mem_cons,List.not_mem_nil,or_false] at hu;rcases hu with rfl|rfl|rfl|rfl|rfl <;> rfl) (by repeat (constructor)) a4 oT f5 fun J3 y4 J4 J5 p9=>(AA (AD (vI 0) rfl (AA (AD (vI 2) rfl (AG (AB (AM (BC (AI (AS rfl (IF rfl (EZ (vs:=[vI 0,vI 0,vI 0,nS,nS]) rfl U25_ rfl BM rfl p9 rfl) (EI rfl rfl) (EI rfl rfl)) (?_))))))))))))))))
  have y5:((CL c day).1)=(⟨(0:Int),(0:Int),(0:Int),[],[]⟩:Circle):=by exact congrArg (fun p=>p.1) (LW aS (by rw [hlr];assumption) (by rw [hlr];decide) aS)
  have y6:((CL c day).2.1)=(0:Int):=by exact congrArg (fun p=>p.2.1) (LW aS (by rw [hlr];assumption) (by rw [hlr];decide) aS)
  have y7:((CL c day).2.2)=(2:Int):=by exact congrArg (fun p=>p.2.2) (LW aS (by rw [hlr];assumption) (by rw [hlr];decide) aS)
  exact ⟨_,rfl,y4.keep,by rw [y5,y6,y7];exact ⟨[vI 0,vI 0,vI 0,nS,nS],rfl,Enc.out (B:=(a3 :: (a0 :: []))) ⟨.slice none 0 0, .slice none 0 0,rfl,(BB.nil _ _ _),(BB.nil _ _ _)⟩⟩⟩
 have D7:(c.recs.length:Int)≠(1024:Int):=by simpa using d8
 refine AR (CB (AB (AF (AC kR (AA (CJ U25_ rfl BM rfl a5 fun D8 q0=>(?_)))))))
 obtain ⟨b1,l5,rfl,a2,h8⟩:=q0
 have:=a2.len_le
 have:=h8.len_le
 refine CC (BF (vs:=[vI c.epoch,vI c.threshold,vI c.wait,b1,l5]) (.agg #[vI c.epoch,vI c.threshold,vI c.wait,b1,l5]) rfl rfl rfl BM (fun u hu=>by simp only [List.mem_cons,List.not_mem_nil,or_false] at hu;rcases hu with rfl|rfl|rfl|rfl|rfl <;> first|rfl|exact a2.oneCell|exact h8.oneCell) (by repeat (constructor)) a4 oT f5 fun y8 l6 l7 y9 a9=>(?_))
 have a5:=a5.mv l7
 have a2:=a2.mv l7
 have a6:=a6.keep y9 (BH (Ne.symm c4))
 refine AG (AB (AF (AC kR (AA (AY 4 DL (c.recs) rfl a5 (fun _ _ _ h=>BX h) fun J6 q1=>(AA (BL U23_ rfl rfl q1 fun f6 c3=>(?_))))))))
 have:=c3.len_le
 refine AA (LM [f6] _ NL rfl (CE 8 Tryz.func39 rfl rfl oT (fun J7=>AF (AC kR (AA (AD (nS) rfl (AG (AB (AF (AF (AC kR (AA (AE (f6) rfl (AA (KW U23_ rfl rfl c3 fun d9 n6=>(AG (AB (AJ (d9) rfl rfl (fun e0=>?_) (fun e0=>?_)))))))))))))))))) (fun _ _ h=>h))
 ·have D9:d9=true:=by simpa using e0
  refine AF (AC kR (AA (AD (nS) rfl (AG (AB (AM (AI (AS rfl (BZ rfl rfl rfl) (?_)))))))))
  have e6:c.recs=[]:=n6 aS
  have E0:BB Enc.recovery y8 ((a3 :: (a0 :: []))++O) (.slice none 0 0) (c.recs):=by rw [e6];exact BB.nil _ _ _
  refine Exists.intro _ (And.intro rfl (AA (AE (vI (c.recs.length:Int)) rfl (AA (AE (vI day) rfl (AA (EG (l:=[(0, .tmp 47),(1, .tmp 48),(2, .const (vI 0))]) pl_59 NA rfl [(0,vI (c.recs.length:Int),[vI (c.recs.length:Int)]),(1,vI day,[vI day]),(2,vI 0,[vI 0])] [vI (c.recs.length:Int),vI day,vI 0,nS,nS] rfl ⟨_,rfl,rfl,oT,⟨_,rfl,rfl,oT,⟨_,rfl,rfl,oT,rfl⟩⟩⟩ (AA (JG (E:=Enc.recovery) (xs:=[.tmp 49]) U23_ GM NA (by decide) [.agg #[vI (c.recs.length:Int),vI day,vI 0,nS,nS]] [[vI (c.recs.length:Int),vI day,vI 0,nS,nS]] [(⟨(c.recs.length:Int),day,(0:Int),[],[]⟩:Recovery)] rfl rfl rfl (Parts.cons rfl ⟨.slice none 0 0, .slice none 0 0,rfl,(BB.nil _ _ _),(BB.nil _ _ _)⟩ (Parts.nil _ _ _)) oT l6 fun J8 J9 z0 z1 l8 h9=>(?_))))))))))
  have a2:=a2.mv z1
  have a9:=a9.keep l8 (by simp)
  have a6:=a6.keep l8 (by simp)
  have:=h9.len_le
  refine AA (DS (v:=.slice none 0 0) (E:=Enc.recovery) (l:=c.recs) (m:=[(⟨(c.recs.length:Int),day,(0:Int),[],[]⟩:Recovery)]) U23_ XJ rfl (by decide) rfl rfl (by rw [e6];exact EX.nil Enc.recovery 59 _ _ _) h9 (fun _ hb=>.inl hb) (by intro b hb;simp [Value.ownBlock] at hb) (by simp;omega) (by simp [maxLen];omega) z0 fun c0 K0 l9 E1 i0 e7 z2 z3 z4 b6=>(?_))
  have i1:∀ b,c0.ownBlock=some b→b≠a0:=fun b hb=>by rcases i0 with e1|e1 <;> rw [e1] at hb <;> first|(simp [Value.ownBlock] at hb;done)|(cases hb;have:=a9.lt;omega)
  have E2:∀ b,c0.ownBlock=some b→b≠a3:=fun b hb=>by rcases i0 with e1|e1 <;> rw [e1] at hb <;> first|(simp [Value.ownBlock] at hb;done)|(cases hb;have:=a6.lt;omega)
  have b2:a0∈l9:=e7 a0 (by repeat (constructor))
  have b3:a3∈l9:=e7 a3 (by repeat (constructor))
  have a2:=a2.mv z3
  have a9:=a9.keep z4 (by simp only [Option.mem_toList];(simp [Value.ownBlock];done))
  refine AA (AT 4 DL rfl (CC (CN (c0) rfl rfl b6.oneCell s_23 (by repeat (assumption)) a9 oT z2 fun K1 z5 m0 z6 i2=>(?_))))
  have a2:=a2.mv m0
  have b6:=b6.mv m0 z6 (fun b hb=>BH (i1 b hb))
  refine AG (AB (AF (AC kR (AA (BS (vs:=[vI c.epoch,vI c.threshold,vI c.wait,b1,c0]) U25_ rfl BM rfl i2 rfl (AA (AE (vI (c.recs.length:Int)) rfl (CC (BF (vs:=[vI c.epoch,vI c.threshold,vI c.wait,b1,c0]) (.agg #[vI c.epoch,vI c.threshold,vI c.wait,b1,c0]) rfl rfl rfl BM (fun u hu=>by simp only [List.mem_cons,List.not_mem_nil,or_false] at hu;rcases hu with rfl|rfl|rfl|rfl|rfl <;> first|rfl|exact a2.oneCell|exact b6.oneCell) (by repeat (assumption)) i2 oT z5 fun K2 m1 m2 z7 q2=>(?_))))))))))
  have a2:=a2.mv m2
  have b6:=b6.mv m2 z7 (fun b hb=>BH (i1 b hb))
  refine AA (AD (vI (c.recs.length:Int)) rfl (AA (AD (vI 0) rfl (AG (AB (AM (AS rfl (IF rfl (EZ (vs:=[vI c.epoch,vI c.threshold,vI c.wait,b1,c0]) rfl U25_ rfl BM rfl q2 rfl) (EI rfl rfl) (EI rfl rfl)) (?_))))))))
  have z8:((CL c day).1)=(⟨c.epoch,c.threshold,c.wait,c.guardians,c.recs++([(⟨(c.recs.length:Int),day,(0:Int),[],[]⟩:Recovery)])⟩:Circle):=by exact congrArg (fun p=>p.1) (JK aS (by rw [hlr];assumption) (by rw [hlr];decide) aS)
  have z9:((CL c day).2.1)=(c.recs.length:Int):=by exact congrArg (fun p=>p.2.1) (JK aS (by rw [hlr];assumption) (by rw [hlr];decide) aS)
  have A0:((CL c day).2.2)=(0:Int):=by exact congrArg (fun p=>p.2.2) (JK aS (by rw [hlr];assumption) (by rw [hlr];decide) aS)
  exact ⟨_,rfl,m1.keep,by rw [z8,z9,A0];exact ⟨[vI c.epoch,vI c.threshold,vI c.wait,b1,c0],rfl,⟨_,_,rfl,a2.out,(b6.pub m1)⟩⟩⟩
 have E3:d9=false:=by simpa using e0
 refine AR (AB (AF (AC kR (AA (JL (E:=Enc.recovery) (xs:=[]) U23_ GM NA (by decide) [] [] [] rfl rfl rfl (Parts.nil _ _ _) oT l6 fun f7 A1 K3 A2 c7 A3 m3 m4 q3=>(?_))))))
 have i3:∀ b,f7.ownBlock=some b→b≠a0:=fun b hb=>by have:=a9.lt;rw [c7] at hb;cases hb;omega
 have i4:∀ b,f7.ownBlock=some b→b≠a3:=fun b hb=>by have:=a6.lt;rw [c7] at hb;cases hb;omega
 have q4:∀ b,f7.ownBlock=some b→b∈(A1 :: (a3 :: (a0 :: []))):=fun b hb=>by rw [c7] at hb;cases hb;simp
 clear A2 c7
 have c3:=c3.mv m3
 have a2:=a2.mv m3
 have a9:=a9.keep m4 (by simp)
 have a6:=a6.keep m4 (by simp)
 refine AA (AE (f6) rfl (AA (DS (E:=Enc.recovery) (l:=[]) (m:=c.recs) U23_ XJ rfl (by decide) rfl rfl q3 c3 (fun _ hb=>.inl hb) q4 (by simp;omega) (by simp [maxLen];omega) A3 fun f8 K4 m5 q5 i5 e8 A4 A5 m6 c8=>(?_))))
 rw [List.nil_append] at c8
 have i6:∀ b,f8.ownBlock=some b→b≠a0:=fun b hb=>by rcases i5 with e1|e1 <;> rw [e1] at hb <;> first|(cases hb;have:=a9.lt;omega)|(exact i3 b hb)
 have q6:∀ b,f8.ownBlock=some b→b≠a3:=fun b hb=>by rcases i5 with e1|e1 <;> rw [e1] at hb <;> first|(cases hb;have:=a6.lt;omega)|(exact i4 b hb)
 have b2:a0∈m5:=e8 a0 (by repeat (constructor))
 have b3:a3∈m5:=e8 a3 (by repeat (constructor))
 have a2:=a2.mv A5
 have a9:=a9.keep m6 (by simp only [Option.mem_toList];exact fun e=>absurd rfl (i3 _ e))
 have a6:=a6.keep m6 (by simp only [Option.mem_toList];exact fun e=>absurd rfl (i4 _ e))
 refine AA (AD (f8) rfl (AG (AB (AM (AS rfl (BZ rfl rfl rfl) (Exists.intro _ (And.intro rfl (AA (AE (vI (c.recs.length:Int)) rfl (AA (AE (vI day) rfl (AA (EG (l:=[(0, .tmp 47),(1, .tmp 48),(2, .const (vI 0))]) pl_59 NA rfl [(0,vI (c.recs.length:Int),[vI (c.recs.length:Int)]),(1,vI day,[vI day]),(2,vI 0,[vI 0])] [vI (c.recs.length:Int),vI day,vI 0,nS,nS] rfl ⟨_,rfl,rfl,oT,⟨_,rfl,rfl,oT,⟨_,rfl,rfl,oT,rfl⟩⟩⟩ (AA (JG (E:=Enc.recovery) (xs:=[.tmp 49]) U23_ GM NA (by decide) [.agg #[vI (c.recs.length:Int),vI day,vI 0,nS,nS]] [[vI (c.recs.length:Int),vI day,vI 0,nS,nS]] [(⟨(c.recs.length:Int),day,(0:Int),[],[]⟩:Recovery)] rfl rfl rfl (Parts.cons rfl ⟨.slice none 0 0, .slice none 0 0,rfl,(BB.nil _ _ _),(BB.nil _ _ _)⟩ (Parts.nil _ _ _)) oT A4 fun K5 K6 A6 m7 f9 i7=>(?_))))))))))))))))
 have a2:=a2.mv m7
 have c8:=c8.mv m7 f9 (by simp)
 have a9:=a9.keep f9 (by simp)
 have a6:=a6.keep f9 (by simp)
 have:=i7.len_le
 refine AA (DS (E:=Enc.recovery) (l:=c.recs) (m:=[(⟨(c.recs.length:Int),day,(0:Int),[],[]⟩:Recovery)]) U23_ XJ rfl (by decide) rfl rfl c8 i7 (fun _ hb=>.inl hb) q5 (by simp;omega) (by simp [maxLen];omega) A6 fun c1 K7 m9 E4 i8 e9 A7 A8 A9 b7=>(?_))
 have i9:∀ b,c1.ownBlock=some b→b≠a0:=fun b hb=>by rcases i8 with e1|e1 <;> rw [e1] at hb <;> first|(cases hb;have:=a9.lt;omega)|(exact i6 b hb)
 have E5:∀ b,c1.ownBlock=some b→b≠a3:=fun b hb=>by rcases i8 with e1|e1 <;> rw [e1] at hb <;> first|(cases hb;have:=a6.lt;omega)|(exact q6 b hb)
 have b2:a0∈m9:=e9 a0 (by repeat (assumption))
 have b3:a3∈m9:=e9 a3 (by repeat (assumption))
 have a2:=a2.mv A8
 have a9:=a9.keep A9 (by simp only [Option.mem_toList];exact fun e=>absurd rfl (i6 _ e))
 refine AA (AT 4 DL rfl (CC (CN (c1) rfl rfl b7.oneCell s_23 (by repeat (assumption)) a9 oT A7 fun K8 B0 n2 B1 j0=>(?_))))
 have a2:=a2.mv n2
 have b7:=b7.mv n2 B1 (fun b hb=>BH (i9 b hb))
 refine AG (AB (AF (AC kR (AA (BS (vs:=[vI c.epoch,vI c.threshold,vI c.wait,b1,c1]) U25_ rfl BM rfl j0 rfl (AA (AE (vI (c.recs.length:Int)) rfl (CC (BF (vs:=[vI c.epoch,vI c.threshold,vI c.wait,b1,c1]) (.agg #[vI c.epoch,vI c.threshold,vI c.wait,b1,c1]) rfl rfl rfl BM (fun u hu=>by simp only [List.mem_cons,List.not_mem_nil,or_false] at hu;rcases hu with rfl|rfl|rfl|rfl|rfl <;> first|rfl|exact a2.oneCell|exact b7.oneCell) (by repeat (assumption)) j0 oT B0 fun K9 n3 n4 B2 q7=>(?_))))))))))
 have a2:=a2.mv n4
 have b7:=b7.mv n4 B2 (fun b hb=>BH (i9 b hb))
 refine AA (AD (vI (c.recs.length:Int)) rfl (AA (AD (vI 0) rfl (AG (AB (AM (AS rfl (IF rfl (EZ (vs:=[vI c.epoch,vI c.threshold,vI c.wait,b1,c1]) rfl U25_ rfl BM rfl q7 rfl) (EI rfl rfl) (EI rfl rfl)) (?_))))))))
 have B3:((CL c day).1)=(⟨c.epoch,c.threshold,c.wait,c.guardians,c.recs++([(⟨(c.recs.length:Int),day,(0:Int),[],[]⟩:Recovery)])⟩:Circle):=by exact congrArg (fun p=>p.1) (JK aS (by rw [hlr];assumption) (by rw [hlr];decide) aS)
 have B4:((CL c day).2.1)=(c.recs.length:Int):=by exact congrArg (fun p=>p.2.1) (JK aS (by rw [hlr];assumption) (by rw [hlr];decide) aS)
 have B5:((CL c day).2.2)=(0:Int):=by exact congrArg (fun p=>p.2.2) (JK aS (by rw [hlr];assumption) (by rw [hlr];decide) aS)
 exact ⟨_,rfl,n3.keep,by rw [B3,B4,B5];exact ⟨[vI c.epoch,vI c.threshold,vI c.wait,b1,c1],rfl,⟨_,_,rfl,a2.out,(b7.pub n3)⟩⟩⟩
set_option maxHeartbeats 4000000 in
set_option maxRecDepth 100000 in
theorem c_approved {O:List Nat} (c_cs:List Value) (c:Circle) (r_a:Addr) (r:Recovery) (w:World) (b1:Enc.circle.rd w O c_cs c) (a2:PT Enc.recovery w O (.pointer (some r_a)) r) (hO:∀ b∈O,b<w.heap.size):CA Tryz.prog 53 [.agg c_cs.toArray, .pointer (some r_a)] w (fun v _=>v = .bool (MK c r)):= by
 have b1:Enc.circle.rd w ([]++O) c_cs c:=b1
 have a2:PT Enc.recovery w ([]++O) (.pointer (some r_a)) r:=a2
 have s0:St w O w []:=St.start hO
 refine BE 29 Tryz.func53 rfl rfl oT (fun F0=>AF (AC kR (AA (DR (E:=Enc.circle) (vA c_cs.toArray) (c_cs) c rfl rfl b1 s0 fun a7 c6 b8 b9 c7 a1=>(?_)))))
 have a2:=a2.mv b9
 refine AA (AD (vO false) rfl (AG (AB (AF (AC kR (AA (AD (vI 0) rfl (AG (AB (AF (AF (AC kR (AA (AY 3 JE (c.guardians) rfl a1 (fun _ _ _ h=>EA h) fun c8 b2=>(AA (BL U22_ rfl rfl b2 fun a8 a0=>(?_)))))))))))))))))
 have:=a0.len_le
 refine AA (BP U22_ rfl a0 (AA (AE (vI 0) rfl (AG (AB (BD (DB (fun mI FI wI=>∃ (k:Nat) (B:List Nat),k≤c.guardians.length∧mI=c.guardians.length - k∧(∃ F1,FI=GD F1 [(1,vP (some r_a)),(2,vP (some a7)),(5,vI ((JO r.approved c.guardians k:Nat):Int)),(9,a8),(10,vI (c.guardians.length:Int)),(11,vI ((k:Nat):Int)),(29,undef)])∧St w O wI B∧PT Enc.recovery wI (B++O) (.pointer (some r_a)) (r)∧PT Enc.circle wI (B++O) (.pointer (some a7)) (c)∧BB Enc.int wI (B++O) (a8) (c.guardians)) (c.guardians.length - (0)) ?_ ?_)))))))
 ·exact ⟨(0),[],oM,rfl,⟨_,AX _ ⟨rfl,rfl,(by rfl),rfl,rfl,(by rfl),rfl,trivial⟩⟩,b8,a2,a1,a0⟩
 intro d5 F c1 hI
 clear a2 a1 a0
 obtain ⟨k,b3,hr0_0,d6,⟨d7,rfl⟩,b4,a2,a1,a0⟩:=hI
 have hcm:=countM_le r.approved c.guardians k
 refine AF (AC kR (AA (DQ .i64 ((k:Nat):Int) (c.guardians.length:Int) rfl rfl (AG (AB (AF (AJ (decide (((k:Nat):Int)<(c.guardians.length:Int))) rfl rfl (fun a3=>?_) (fun a3=>?_))))))))
 ·have c2:((k:Nat):Int)<(c.guardians.length:Int):=by simpa using a3
  refine AR (AB (AF (BD (AF (AC kR (AA (CR U22_ MS .i64 ((k:Nat):Int) k rfl rfl rfl a0 oM fun c9 b5=>(AA (BK U3_ rfl rfl b5 (AA (AD (vI (c.guardians[k]!)) rfl (AG (AB (AF (AC kR (AA (AE (vP (some r_a)) rfl (AA (FU r_a rfl (AA (o_field0 KR rfl (AA (AY 3 MA (r.approved) rfl a2 (fun _ _ _ h=>LL h) fun d0 b6=>(AA (BL U22_ rfl rfl b6 fun a9 a6=>(?_))))))))))))))))))))))))))
  have:=a6.len_le
  refine AA (AE (vI (c.guardians[k]!)) rfl (AA (AZ (vs:=[a9,vI (c.guardians[k]!)]) enter_47 (UX (O:=b3++O) a9 r.approved (c.guardians[k]!) c1 a6 b4.lt) rfl b4 fun d1 d2 b0 a5 d3 c0=>(?_))))
  obtain rfl:=c0
  have a2:=a2.mv a5
  have a1:=a1.mv a5
  have a0:=a0.mv a5
  refine AG (AB (AJ (r.approved.contains (c.guardians[k]!)) rfl rfl (fun a4=>?_) (fun a4=>?_)))
  ·have c3:(r.approved.contains (c.guardians[k]!))=true:=by simpa using a4
   refine AC kR (AA (AE (vI ((JO r.approved c.guardians k:Nat):Int)) rfl (AA (DF .i64 ((JO r.approved c.guardians k:Nat):Int) (1:Int) (((JO r.approved c.guardians k+1:Nat):Int)) rfl rfl (GA oM oM) (AA (AD (vI ((JO r.approved c.guardians k+1:Nat):Int)) rfl (AG (CB (AB (AC kR (AA (DF .i64 ((k:Nat):Int) (1:Int) (((k+1:Nat):Int)) rfl rfl (GA oM oM) (AA (AE (vI ((k+1:Nat):Int)) rfl (AG (AB (?_)))))))))))))))))
   exact ⟨_,oM,(k+1),b3,oM,rfl,⟨_,AX _ ⟨rfl,rfl,(by exact congrArg (Value.int _) (by ((rw [TZ oM,if_pos aS])))),rfl,rfl,(by rfl),rfl,trivial⟩⟩,b0,a2,a1,a0⟩
  have c4:(r.approved.contains (c.guardians[k]!))=false:=by simpa using a4
  refine AR (CB (AB (AC kR (AA (DF .i64 ((k:Nat):Int) (1:Int) (((k+1:Nat):Int)) rfl rfl (GA oM oM) (AA (AE (vI ((k+1:Nat):Int)) rfl (AG (AB (?_))))))))))
  exact ⟨_,oM,(k+1),b3,oM,rfl,⟨_,AX _ ⟨rfl,rfl,(by exact congrArg (Value.int _) (by ((rw [TZ oM,if_neg (by rw [Bool.not_eq_true];assumption)];try rfl)))),rfl,rfl,(by rfl),rfl,trivial⟩⟩,b0,a2,a1,a0⟩
 have c5:(c.guardians.length:Int)≤((k:Nat):Int):=by simpa using a3
 obtain rfl:k=c.guardians.length:=by omega
 refine DA (BN (BN (CO (AB (AF (AC kR (AA (AE (vI ((JO r.approved c.guardians c.guardians.length:Nat):Int)) rfl (AA (AY 1 KP (c.threshold) rfl a1 (fun _ _ _ h=>FF h) fun d4 b7=>(AA (BK U3_ rfl rfl b7 (AA (JZ .i64 ((JO r.approved c.guardians c.guardians.length:Nat):Int) c.threshold rfl rfl (AA (AD (vO (decide (c.threshold≤((JO r.approved c.guardians c.guardians.length:Nat):Int)))) rfl (AG (AB (AM (AS rfl (BZ rfl rfl rfl) (?_)))))))))))))))))))))
 have e:(MK c r)=(decide (c.threshold≤((JO r.approved c.guardians c.guardians.length:Nat):Int))):=rfl
 exact ⟨_,rfl,b4.keep,(by exact congrArg vO e.symm)⟩
open Go.Fw Go.RowKit
set_option maxHeartbeats 4000000 in
set_option maxRecDepth 100000 in
theorem PJ {O:List Nat} (a:UInt8) (b:UInt8) (w:World) (hO:∀ b∈O,b<w.heap.size):CA Tryz.prog 95 [vB a,vB b] w (fun v _=>v=vB (DX a b)):= by
 have s0:St w O w []:=St.start hO
 refine BE 40 Tryz.func95 rfl rfl oT (fun F0=>AF (AC kR (AA (AD (vB (0:UInt8)) rfl (AG (AB (AF (AC kR (AA (AD (vI 0) rfl (AG (AB (AF (AF (AC kR (AA (AD (vI 0) rfl (AG (AB (BD (DB (fun mI FI wI=>∃ (k:Nat),k≤8∧mI=8 - k∧(∃ F1,FI=GD F1 [(0,vB a),(1,vB b),(5,vI ((cl a.toNat b.toNat k:Nat):Int)),(6,vI ((k:Nat):Int)),(40,undef)])∧w=wI) (8 - (0)) ?_ ?_)))))))))))))))))))))
 ·exact ⟨(0),oM,rfl,⟨_,AX _ ⟨rfl,rfl,(by rfl),(by rfl),rfl,trivial⟩⟩,rfl⟩
 rintro a3 F a4 ⟨k,hr0_0,a5,⟨a6,rfl⟩,rfl⟩
 have hcl:=cl_lt a.toNat b.toNat a.toNat_lt k hr0_0
 refine AF (AF (AC kR (AA (AE (vI ((k:Nat):Int)) rfl (AA (DQ .i64 ((k:Nat):Int) (8:Int) rfl rfl (AG (AB (AJ (decide (((k:Nat):Int)<(8:Int))) rfl rfl (fun hc1=>?_) (fun hc1=>?_))))))))))
 ·have hp2:((k:Nat):Int)<(8:Int):=by simpa using hc1
  refine AR (AB (AF (BD (AF (AC kR (AA (AE (vB b) rfl (AA (WJ .u8 .i64 U5_ U3_ (b.toNat:Int) (b.toNat:Int) rfl (by have:=(b).toNat_lt;exact GA oM rfl) (AA (AE (vI ((k:Nat):Int)) rfl (AA (o_shrN .i64 b.toNat k oM rfl rfl (AA (o_remN (b.toNat / 2 ^ k) 2 oM rfl rfl (AA (EK .i64 (((b.toNat / 2 ^ k) % 2:Nat):Int) (1:Int) rfl rfl (AG (AB (AJ ((((b.toNat / 2 ^ k) % 2:Nat):Int) == (1:Int)) rfl rfl (fun hc3=>?_) (fun hc3=>?_)))))))))))))))))))))
  ·have hp4:(((b.toNat / 2 ^ k) % 2:Nat):Int)=(1:Int):=by simpa using hc3
   refine AC kR (AA (AE (vI ((cl a.toNat b.toNat k:Nat):Int)) rfl (AA (AE (vB a) rfl (AA (WJ .u8 .i64 U5_ U3_ (a.toNat:Int) (a.toNat:Int) rfl (by have:=(a).toNat_lt;exact GA oM rfl) (AA (AE (vI ((k:Nat):Int)) rfl (AA (o_shlN .i64 a.toNat k oM (by have:=mul_lt a.toNat k a.toNat_lt oM;omega) rfl rfl (AA (o_xorN (cl a.toNat b.toNat k) (a.toNat*2 ^ k) oM (by have:=mul_lt a.toNat k a.toNat_lt oM;omega) rfl rfl (AA (AD (vI (((cl a.toNat b.toNat k) ^^^ (a.toNat*2 ^ k):Nat):Int)) rfl (AG (CB (AB (AC kR (AA (AE (vI ((k:Nat):Int)) rfl (AA (DF .i64 ((k:Nat):Int) (1:Int) (((k+1:Nat):Int)) rfl rfl (GA oM oM) (AA (AD (vI ((k+1:Nat):Int)) rfl (AG (AB (?_)))))))))))))))))))))))))))
   exact ⟨_,oM,(k+1),oM,rfl,⟨_,AX _ ⟨rfl,rfl,(by exact congrArg (Value.int _) (by (rw [cl_yes a.toNat b.toNat k oM]))),(by rfl),rfl,trivial⟩⟩,rfl⟩
  have hp5:(((b.toNat / 2 ^ k) % 2:Nat):Int)≠(1:Int):=by simpa using hc3
  refine AR (CB (AB (AC kR (AA (AE (vI ((k:Nat):Int)) rfl (AA (DF .i64 ((k:Nat):Int) (1:Int) (((k+1:Nat):Int)) rfl rfl (GA oM oM) (AA (AD (vI ((k+1:Nat):Int)) rfl (AG (AB (?_))))))))))))
  exact ⟨_,oM,(k+1),oM,rfl,⟨_,AX _ ⟨rfl,rfl,(by exact congrArg (Value.int _) (by (rw [cl_no a.toNat b.toNat k oM]))),(by rfl),rfl,trivial⟩⟩,rfl⟩
 have hp6:(8:Int)≤((k:Nat):Int):=by simpa using hc1
 obtain rfl:k=8:=by omega
 refine DA (BN (BN (CO (AB (AF (AF (AC kR (AA (AD (vI 14) rfl (AG (AB (BD (DB (fun mI FI wI=>∃ (j:Nat),j≤7∧mI=7 - j∧(∃ F1,FI=GD F1 [(5,vI ((OW (cl a.toNat b.toNat 8) j:Nat):Int)),(7,vI ((14 - j:Nat):Int)),(40,undef)])∧w=wI) (7 - (0)) ?_ ?_)))))))))))))
 ·exact ⟨(0),oM,rfl,⟨_,AX _ ⟨(by rfl),(by rfl),rfl,trivial⟩⟩,rfl⟩
 rintro a7 F a8 ⟨j,hr1_0,a9,⟨b0,rfl⟩,rfl⟩
 have hrd:=red_lt (cl a.toNat b.toNat 8) (cl_lt a.toNat b.toNat a.toNat_lt 8 oM) j hr1_0
 refine AF (AF (AC kR (AA (AE (vI ((14 - j:Nat):Int)) rfl (AA (JZ .i64 ((14 - j:Nat):Int) (8:Int) rfl rfl (AG (AB (AJ (decide ((8:Int)≤((14 - j:Nat):Int))) rfl rfl (fun hc7=>?_) (fun hc7=>?_))))))))))
 ·have hp8:(8:Int)≤((14 - j:Nat):Int):=by simpa using hc7
  refine AR (AB (AF (BD (AF (AC kR (AA (AE (vI ((OW (cl a.toNat b.toNat 8) j:Nat):Int)) rfl (AA (AE (vI ((14 - j:Nat):Int)) rfl (AA (o_shrN .i64 (OW (cl a.toNat b.toNat 8) j) (14 - j) oM rfl rfl (AA (o_remN ((OW (cl a.toNat b.toNat 8) j) / 2 ^ (14 - j)) 2 oM rfl rfl (AA (EK .i64 ((((OW (cl a.toNat b.toNat 8) j) / 2 ^ (14 - j)) % 2:Nat):Int) (1:Int) rfl rfl (AG (AB (AJ (((((OW (cl a.toNat b.toNat 8) j) / 2 ^ (14 - j)) % 2:Nat):Int) == (1:Int)) rfl rfl (fun hc9=>?_) (fun hc9=>?_)))))))))))))))))))
  ·have a0:((((OW (cl a.toNat b.toNat 8) j) / 2 ^ (14 - j)) % 2:Nat):Int)=(1:Int):=by simpa using hc9
   refine AC kR (AA (AE (vI ((OW (cl a.toNat b.toNat 8) j:Nat):Int)) rfl (AA (AE (vI ((14 - j:Nat):Int)) rfl (AA (HK .i64 ((14 - j:Nat):Int) (8:Int) (((14 - j - 8:Nat):Int)) rfl rfl (GA oM oM) (AA (o_shlN .i64 283 (14 - j - 8) oM (by have:=mul_lt2 (14 - j - 8) oM;omega) rfl rfl (AA (o_xorN (OW (cl a.toNat b.toNat 8) j) (283*2 ^ (14 - j - 8)) oM (by have:=mul_lt2 (14 - j - 8) oM;omega) rfl rfl (AA (AD (vI (((OW (cl a.toNat b.toNat 8) j) ^^^ (283*2 ^ (14 - j - 8)):Nat):Int)) rfl (AG (CB (AB (AC kR (AA (AE (vI ((14 - j:Nat):Int)) rfl (AA (HK .i64 ((14 - j:Nat):Int) (1:Int) (((14 - j:Nat):Int) - (1:Int)) rfl rfl (GA oM oM) (AA (AD (vI (((14 - j:Nat):Int) - (1:Int))) rfl (AG (AB (?_)))))))))))))))))))))))))
   exact ⟨_,oM,(j+1),oM,rfl,⟨_,AX _ ⟨(by exact congrArg (Value.int _) (by (rw [red_yes (cl a.toNat b.toNat 8) j oM]))),(by exact congrArg (Value.int _) oM),rfl,trivial⟩⟩,rfl⟩
  have a1:((((OW (cl a.toNat b.toNat 8) j) / 2 ^ (14 - j)) % 2:Nat):Int)≠(1:Int):=by simpa using hc9
  refine AR (CB (AB (AC kR (AA (AE (vI ((14 - j:Nat):Int)) rfl (AA (HK .i64 ((14 - j:Nat):Int) (1:Int) (((14 - j:Nat):Int) - (1:Int)) rfl rfl (GA oM oM) (AA (AD (vI (((14 - j:Nat):Int) - (1:Int))) rfl (AG (AB (?_))))))))))))
  exact ⟨_,oM,(j+1),oM,rfl,⟨_,AX _ ⟨(by exact congrArg (Value.int _) (by (rw [red_no (cl a.toNat b.toNat 8) j oM]))),(by exact congrArg (Value.int _) oM),rfl,trivial⟩⟩,rfl⟩
 have a2:((14 - j:Nat):Int)<(8:Int):=by simpa using hc7
 obtain rfl:j=7:=by omega
 refine DA (BN (BN (CO (AB (AF (AC kR (AA (AE (vI ((OW (cl a.toNat b.toNat 8) 7:Nat):Int)) rfl (AA (PI .i64 U3_ U5_ ((OW (cl a.toNat b.toNat 8) 7:Nat):Int) rfl (AA (AD (vB (DZ ((OW (cl a.toNat b.toNat 8) 7:Nat):Int))) rfl (AG (AB (AM (AS rfl (BZ rfl rfl rfl) (?_)))))))))))))))))
 have e:(DX a b)=(DZ ((OW (cl a.toNat b.toNat 8) 7:Nat):Int)):=rfl
 exact ⟨_,rfl,s0.keep,by rw [e];exact rfl⟩
set_option maxHeartbeats 4000000 in
set_option maxRecDepth 100000 in
theorem c_refInv {O:List Nat} (a:UInt8) (w:World) (hO:∀ b∈O,b<w.heap.size):CA Tryz.prog 108 [vB a] w (fun v _=>v = .tuple #[vB ((IC a).1),vI ((IC a).2)]):= by
 have s0:St w O w []:=St.start hO
 refine BE 16 Tryz.func108 rfl rfl oT (fun F0=>AF (AC kR (AA (AD (vB (0:UInt8)) rfl (AA (AD (vI 0) rfl (AG (AB (AF (AF (AC kR (AA (AD (vI 1) rfl (AG (AB (BD (DB (fun mI FI wI=>∃ (k:Nat) (B:List Nat),1≤k∧k≤256∧IC a=EW (fun b=>if DX a (DZ (b:Int)) == 1 then some (DZ (b:Int),0) else none) (0,1) k (256 - k)∧mI=256 - k∧(∃ F1,FI=GD F1 [(0,vB a),(4,vI ((k:Nat):Int)),(16,undef)])∧St w O wI B) (256 - (1)) ?_ ?_)))))))))))))))))
 ·exact ⟨(1),[],oM,oM,rfl,rfl,⟨_,AX _ ⟨rfl,(by rfl),rfl,trivial⟩⟩,s0⟩
 intro b1 F a5 hI
 obtain ⟨k,a3,hr0_0,hr0_1,hr0_2,b2,⟨b3,rfl⟩,a2⟩:=hI
 refine AF (AF (AC kR (AA (AE (vI ((k:Nat):Int)) rfl (AA (DQ .i64 ((k:Nat):Int) (256:Int) rfl rfl (AG (AB (AJ (decide (((k:Nat):Int)<(256:Int))) rfl rfl (fun a0=>?_) (fun a0=>?_))))))))))
 ·have a7:((k:Nat):Int)<(256:Int):=by simpa using a0
  refine AR (AB (AF (BD (AF (AC kR (AA (AE (vB a) rfl (AA (AE (vI ((k:Nat):Int)) rfl (AA (PI .i64 U3_ U5_ ((k:Nat):Int) rfl (AA (AZ (vs:=[vB a,vB (DZ ((k:Nat):Int))]) PP (PJ (O:=a3++O) a (DZ ((k:Nat):Int)) a5 a2.lt) rfl a2 fun b4 b5 a4 b6 b7 a6=>(?_))))))))))))))
  obtain rfl:=a6
  refine AA (o_eql8 (DX a (DZ ((k:Nat):Int))) (1:UInt8) rfl rfl (AG (AB (AJ ((DX a (DZ ((k:Nat):Int))) == (1:UInt8)) rfl rfl (fun a1=>?_) (fun a1=>?_)))))
  ·have a8:DX a (DZ ((k:Nat):Int))=(1:UInt8):=by simpa using a1
   refine AF (AC kR (AA (AE (vI ((k:Nat):Int)) rfl (AA (PI .i64 U3_ U5_ ((k:Nat):Int) rfl (AA (AD (vB (DZ ((k:Nat):Int))) rfl (AA (AD (vI 0) rfl (AG (AB (AM (BC (AI (AI (BC (AI (AS rfl (EJ rfl rfl rfl rfl) (?_)))))))))))))))))))
   have e:(IC a)=(DZ ((k:Nat):Int),(0:Int)):=by rw [hr0_2];exact CP oM (by simp [*])
   exact ⟨_,rfl,a4.keep,by rw [e];exact rfl⟩
  have a9:DX a (DZ ((k:Nat):Int))≠(1:UInt8):=by simpa using a1
  refine AR (CB (AB (AC kR (AA (AE (vI ((k:Nat):Int)) rfl (AA (DF .i64 ((k:Nat):Int) (1:Int) (((k+1:Nat):Int)) rfl rfl (GA oM oM) (AA (AD (vI ((k+1:Nat):Int)) rfl (AG (AB (?_))))))))))))
  exact ⟨_,oM,(k+1),a3,oM,oM,(hr0_2.trans (EP oM (by simp [*]))),rfl,⟨_,AX _ ⟨rfl,(by rfl),rfl,trivial⟩⟩,a4⟩
 have b0:(256:Int)≤((k:Nat):Int):=by simpa using a0
 refine DA (BN (BN (CO (AB (AF (AC kR (AA (AD (vB (0:UInt8)) rfl (AA (AD (vI 1) rfl (AG (AB (AM (AS rfl (EJ rfl rfl rfl rfl) (?_)))))))))))))))
 have e:(IC a)=((0:UInt8),(1:Int)):=by rw [hr0_2];exact FS oM
 exact ⟨_,rfl,a2.keep,by rw [e];exact rfl⟩
set_option maxHeartbeats 4000000 in
set_option maxRecDepth 100000 in
theorem c_refOver {O:List Nat} (a:UInt8) (b:UInt8) (w:World) (hO:∀ b∈O,b<w.heap.size):CA Tryz.prog 100 [vB a,vB b] w (fun v _=>v=vB (HB a b)):= by
 have s0:St w O w []:=St.start hO
 refine BE 15 Tryz.func100 rfl rfl oT (fun F0=>AF (AC kR (AA (AD (vB (0:UInt8)) rfl (AG (AB (AF (AC kR (AA (AE (vB b) rfl (AA (AZ (vs:=[vB b]) enter_108 (c_refInv (O:=[]++O) b w s0.lt) rfl s0 fun a5 a1 a0 a6 a7 a2=>(?_)))))))))))))
 obtain rfl:=a2
 refine AA (AE (vT #[vB ((IC b).1),vI ((IC b).2)]) rfl (AA (AO (vB ((IC b).1)) rfl rfl (AA (AO (vI ((IC b).2)) rfl rfl (AA (AD (vB ((IC b).1)) rfl (AA (AD (vI ((IC b).2)) rfl (AG (AB (AF (AC kR (AA (AE (vB a) rfl (AA (AE (vB ((IC b).1)) rfl (AA (AZ (vs:=[vB a,vB ((IC b).1)]) PP (PJ (O:=[]++O) a ((IC b).1) a1 a0.lt) rfl a0 fun a8 a9 a3 b0 b1 a4=>(?_))))))))))))))))))))
 obtain rfl:=a4
 refine AA (AD (vB (DX a ((IC b).1))) rfl (AG (AB (AM (AS rfl (BZ rfl rfl rfl) (?_))))))
 have e:(HB a b)=(DX a ((IC b).1)):=rfl
 exact ⟨_,rfl,a3.keep,by rw [e];exact rfl⟩
set_option maxHeartbeats 4000000 in
set_option maxRecDepth 100000 in
theorem c_refEval {O:List Nat} (l_v:Value) (l:List UInt8) (x:UInt8) (w:World) (a0:BB Enc.u8 w O l_v l) (hO:∀ b∈O,b<w.heap.size):CA Tryz.prog 69 [l_v,vB x] w (fun v _=>v=vB (FQ l x)):= by
 have b3:=a0.len_le
 have a0:BB Enc.u8 w ([]++O) l_v l:=a0
 have s0:St w O w []:=St.start hO
 refine BE 26 Tryz.func69 rfl rfl oT (fun F0=>AF (AC kR (AA (AD (vB (0:UInt8)) rfl (AG (AB (AF (AC kR (AA (AD (vB (0:UInt8)) rfl (AG (AB (AF (AC kR (AA (AD (vB (1:UInt8)) rfl (AG (AB (AF (AF (AC kR (AA (AD (vI 0) rfl (AG (AB (BD (DB (fun mI FI wI=>∃ (k:Nat) (B:List Nat),k≤l.length∧mI=l.length - k∧(∃ F1,FI=GD F1 [(0,l_v),(1,vB x),(5,vB ((EM l x k).1)),(6,vB ((EM l x k).2)),(7,vI ((k:Nat):Int)),(26,undef)])∧St w O wI B∧BB Enc.u8 wI (B++O) (l_v) (l)) (l.length - (0)) ?_ ?_)))))))))))))))))))))))))))
 ·exact ⟨(0),[],oM,rfl,⟨_,AX _ ⟨rfl,rfl,(congrArg vB (by rfl)),(congrArg vB (by rfl)),(by rfl),rfl,trivial⟩⟩,s0,a0⟩
 intro b6 F a6 hI
 clear a0
 obtain ⟨k,a2,hr0_0,b7,⟨b8,rfl⟩,a3,a0⟩:=hI
 refine AF (AF (AC kR (AA (AE (vI ((k:Nat):Int)) rfl (AA (AE (l_v) rfl (AA (BP U26_ rfl a0 (AA (DQ .i64 ((k:Nat):Int) (l.length:Int) rfl rfl (AG (AB (AJ (decide (((k:Nat):Int)<(l.length:Int))) rfl rfl (fun a1=>?_) (fun a1=>?_))))))))))))))
 ·have b4:((k:Nat):Int)<(l.length:Int):=by simpa using a1
  refine AR (AB (AF (BD (AF (AC kR (AA (AE (vB ((EM l x k).1)) rfl (AA (AE (l_v) rfl (AA (AE (vI ((k:Nat):Int)) rfl (AA (CR U26_ IZ .i64 ((k:Nat):Int) k rfl rfl rfl a0 oM fun b9 a5=>(AA (GE U5_ rfl rfl a5 (AA (AE (vB ((EM l x k).2)) rfl (AA (AZ (vs:=[vB (l[k]!),vB ((EM l x k).2)]) PP (PJ (O:=a2++O) (l[k]!) ((EM l x k).2) a6 a3.lt) rfl a3 fun c0 a7 a4 a8 c1 a9=>(?_))))))))))))))))))))
  obtain rfl:=a9
  have a0:=a0.mv a8
  refine AA (LJ ((EM l x k).1) (DX (l[k]!) ((EM l x k).2)) rfl rfl (AA (AD (vB (((EM l x k).1) ^^^ (DX (l[k]!) ((EM l x k).2)))) rfl (AG (AB (AC kR (AA (AE (vB ((EM l x k).2)) rfl (AA (AE (vB x) rfl (AA (AZ (vs:=[vB ((EM l x k).2),vB x]) PP (PJ (O:=a2++O) ((EM l x k).2) x a7 a4.lt) rfl a4 fun c2 c3 b0 b1 c4 b2=>(?_)))))))))))))
  obtain rfl:=b2
  have a0:=a0.mv b1
  refine AA (AD (vB (DX ((EM l x k).2) x)) rfl (AG (CB (AB (AC kR (AA (AE (vI ((k:Nat):Int)) rfl (AA (DF .i64 ((k:Nat):Int) (1:Int) (((k+1:Nat):Int)) rfl rfl (GA oM oM) (AA (AD (vI ((k+1:Nat):Int)) rfl (AG (AB (?_))))))))))))))
  exact ⟨_,oM,(k+1),a2,oM,rfl,⟨_,AX _ ⟨rfl,rfl,(congrArg vB (by rfl)),(congrArg vB (by rfl)),(by rfl),rfl,trivial⟩⟩,b0,a0⟩
 have b5:(l.length:Int)≤((k:Nat):Int):=by simpa using a1
 obtain rfl:k=l.length:=by omega
 refine DA (BN (BN (CO (AB (AF (AC kR (AA (AE (vB ((EM l x l.length).1)) rfl (AA (AD (vB ((EM l x l.length).1)) rfl (AG (AB (AM (AS rfl (BZ rfl rfl rfl) (?_)))))))))))))))
 have e:(FQ l x)=((EM l x l.length).1):=rfl
 exact ⟨_,rfl,a3.keep,by rw [e];exact rfl⟩
set_option maxHeartbeats 4000000 in
set_option maxRecDepth 100000 in
theorem c_refPoints {O:List Nat} (xs_v:Value) (xs:List UInt8) (ys_v:Value) (ys:List UInt8) (w:World) (a0:BB Enc.u8 w O xs_v xs) (a1:BB Enc.u8 w O ys_v ys) (hO:∀ b∈O,b<w.heap.size):CA Tryz.prog 99 [xs_v,ys_v] w (fun v _=>v = .bool (EY xs ys)):= by
 have b3:=a0.len_le
 have a0:BB Enc.u8 w ([]++O) xs_v xs:=a0
 have b4:=a1.len_le
 have a1:BB Enc.u8 w ([]++O) ys_v ys:=a1
 have s0:St w O w []:=St.start hO
 refine BE 32 Tryz.func99 rfl rfl oT (fun F0=>AF (AC kR (AA (AD (vO false) rfl (AG (AB (AF (AF (AC kR (AA (AE (xs_v) rfl (AA (BP U26_ rfl a0 (AA (AE (ys_v) rfl (AA (BP U26_ rfl a1 (AA (CM .i64 (xs.length:Int) (ys.length:Int) rfl rfl (AG (AB (AJ ((xs.length:Int) != (ys.length:Int)) rfl rfl (fun a2=>?_) (fun a2=>?_)))))))))))))))))))))))
 ·have b9:(xs.length:Int)≠(ys.length:Int):=by simpa using a2
  refine AF (AC kR (AA (AD (vO false) rfl (AG (AB (AM (AI (AS rfl (BZ rfl rfl rfl) (?_)))))))))
  have e:(EY xs ys)=false:=by simp [EY, *]
  exact ⟨_,rfl,s0.keep,(by exact congrArg vO e.symm)⟩
 have c0:(xs.length:Int)=(ys.length:Int):=by simpa using a2
 refine AR (AB (AF (AF (AC kR (AA (AD (vI 0) rfl (AG (AB (BD (DB (fun mI FI wI=>∃ (k:Nat) (B:List Nat),k≤xs.length∧EY xs ys=OI xs k (xs.length - k)∧mI=xs.length - k∧(∃ F1,FI=GD F1 [(0,xs_v),(5,vI ((k:Nat):Int)),(32,undef)])∧St w O wI B∧BB Enc.u8 wI (B++O) (xs_v) (xs)) (xs.length - (0)) ?_ ?_))))))))))
 ·exact ⟨(0),[],oM,(by simp [EY, *]),rfl,⟨_,AX _ ⟨rfl,(by rfl),rfl,trivial⟩⟩,s0,a0⟩
 intro c7 F c8 hI
 clear a0
 obtain ⟨k,b5,hr0_0,hr0_1,c9,⟨d0,rfl⟩,a7,a0⟩:=hI
 refine AF (AF (AC kR (AA (AE (vI ((k:Nat):Int)) rfl (AA (AE (xs_v) rfl (AA (BP U26_ rfl a0 (AA (DQ .i64 ((k:Nat):Int) (xs.length:Int) rfl rfl (AG (AB (AJ (decide (((k:Nat):Int)<(xs.length:Int))) rfl rfl (fun a3=>?_) (fun a3=>?_))))))))))))))
 ·have c1:((k:Nat):Int)<(xs.length:Int):=by simpa using a3
  refine AR (AB (AF (BD (AF (AC kR (AA (AD (vI 0) rfl (AG (AB (BD (DB (fun mI FI wI=>∃ (j:Nat) (B:List Nat),j≤k∧MP xs k=EW (fun j=>if xs[j]! == xs[k]! then some false else none) true j (k - j)∧mI=k - j∧(∃ F1,FI=GD F1 [(0,xs_v),(5,vI ((k:Nat):Int)),(6,vI ((j:Nat):Int)),(32,undef)])∧St w O wI B∧BB Enc.u8 wI (B++O) (xs_v) (xs)) (k - (0)) ?_ ?_)))))))))))
  ·exact ⟨(0),b5,oM,rfl,rfl,⟨_,AX _ ⟨rfl,rfl,(by rfl),rfl,trivial⟩⟩,a7,a0⟩
  intro d1 F b6 hI
  clear a0
  obtain ⟨j,a6,hr1_0,hr1_1,d2,⟨d3,rfl⟩,a8,a0⟩:=hI
  refine AF (AF (AC kR (AA (AE (vI ((j:Nat):Int)) rfl (AA (AE (vI ((k:Nat):Int)) rfl (AA (DQ .i64 ((j:Nat):Int) ((k:Nat):Int) rfl rfl (AG (AB (AJ (decide (((j:Nat):Int)<((k:Nat):Int))) rfl rfl (fun a4=>?_) (fun a4=>?_))))))))))))
  ·have c2:((j:Nat):Int)<((k:Nat):Int):=by simpa using a4
   refine AR (AB (AF (BD (AF (FK 9 _ _ kR kR kR kR kR rfl rfl fun b7 a9=>?_)))))
   have b0:=a8.call a9
   have b8:Mv a6 b6 a6 b7:=Mv.of_keep a9
   have a0:=a0.mv b8
   refine BU (AE (xs_v) rfl (BU (AE (vI ((j:Nat):Int)) rfl (BU (CR U26_ IZ .i64 ((j:Nat):Int) j rfl rfl rfl a0 oM fun d4 b1=>(BU (GE U5_ rfl rfl b1 (BU (AE (xs_v) rfl (BU (AE (vI ((k:Nat):Int)) rfl (BU (CR U26_ IZ .i64 ((k:Nat):Int) k rfl rfl rfl a0 oM fun d5 b2=>(BU (GE U5_ rfl rfl b2 (BU (o_eql8 (xs[j]!) (xs[k]!) rfl rfl (EO (AG (AB (AJ ((xs[j]!) == (xs[k]!)) rfl rfl (fun a5=>?_) (fun a5=>?_))))))))))))))))))))))
   ·have c3:xs[j]! = xs[k]!:=by simpa using a5
    refine AF (AC kR (AA (AD (vO false) rfl (AG (AB (AM (BC (AI (AI (BC (BC (AI (AI (BC (AI (AS rfl (BZ rfl rfl rfl) (?_)))))))))))))))))
    have e:(EY xs ys)=false:=by rw [hr0_1];exact CP oM (by rw [hr1_1,CP oM (by simp only [beq_iff_eq];exact if_pos aS)];rfl)
    exact ⟨_,rfl,b0.keep,(by exact congrArg vO e.symm)⟩
   have c4:xs[j]!≠xs[k]!:=by simpa using a5
   refine AR (CB (AB (AC kR (AA (AE (vI ((j:Nat):Int)) rfl (AA (DF .i64 ((j:Nat):Int) (1:Int) (((j+1:Nat):Int)) rfl rfl (GA oM oM) (AA (AD (vI ((j+1:Nat):Int)) rfl (AG (AB (?_))))))))))))
   exact ⟨_,oM,(j+1),a6,oM,(hr1_1.trans (EP oM (by simp only [beq_iff_eq];exact if_neg aS))),rfl,⟨_,AX _ ⟨rfl,rfl,(by rfl),rfl,trivial⟩⟩,b0,a0⟩
  have c5:((k:Nat):Int)≤((j:Nat):Int):=by simpa using a4
  refine DA (BN (BN (CO (CB (AB (AC kR (AA (AE (vI ((k:Nat):Int)) rfl (AA (DF .i64 ((k:Nat):Int) (1:Int) (((k+1:Nat):Int)) rfl rfl (GA oM oM) (AA (AD (vI ((k+1:Nat):Int)) rfl (AG (AB (?_)))))))))))))))
  exact ⟨_,oM,(k+1),a6,oM,(hr0_1.trans (EP oM (by rw [hr1_1,FS oM];rfl))),rfl,⟨_,AX _ ⟨rfl,(by rfl),rfl,trivial⟩⟩,a8,a0⟩
 have c6:(xs.length:Int)≤((k:Nat):Int):=by simpa using a3
 refine DA (BN (BN (CO (AB (AF (AC kR (AA (AD (vO true) rfl (AG (AB (AM (AS rfl (BZ rfl rfl rfl) (?_)))))))))))))
 have e:(EY xs ys)=true:=by rw [hr0_1];exact FS oM
 exact ⟨_,rfl,a7.keep,(by exact congrArg vO e.symm)⟩
set_option maxHeartbeats 4000000 in
set_option maxRecDepth 100000 in
theorem XO {O:List Nat} (a:UInt8) (b:UInt8) (w:World) (hO:∀ b∈O,b<w.heap.size):CA Tryz.prog 94 [vB a,vB b] w (fun v _=>v=vB (BR a b)):= by
 have s0:St w O w []:=St.start hO
 refine BE 46 Tryz.func94 rfl rfl oT (fun F0=>AF (AC kR (AA (AD (vB (0:UInt8)) rfl (AG (AB (AF (AC kR (AA (CZ [vB (0:UInt8),vB (0:UInt8),vB (0:UInt8),vB (0:UInt8),vB (0:UInt8),vB (0:UInt8),vB (0:UInt8),vB (0:UInt8)] z_119 rfl s0 fun a3 b3 b4 b5 c7 c8 a4=>(?_)))))))))))
 clear b4
 have a4:IX b3 a3 119 ((List.replicate 8 (0:UInt8)).map vB):=a4
 refine AG (AB (AF (AC kR (AA (AE (vB a) rfl (AA (PU U119_ IZ .i64 (0:Int) 0 rfl rfl rfl oM (CC (CN (vB a) rfl rfl rfl IZ (by repeat (constructor)) a4 (by rw [List.length_map,show (List.replicate 8 (0:UInt8)).length=8 from by simp [IH]];omega) b5 fun c9 b6 d0 d1 a7=>(?_))))))))))
 rw [arr_set] at a7
 refine AG (AB (AF (AF (AC kR (AA (AD (vI 1) rfl (AG (AB (BD (DB (fun mI FI wI=>∃ (k:Nat) (B:List Nat),0<k∧k≤8∧mI=8 - k∧(∃ F1,FI=GD F1 [(1,vB b),(4,vB (0:UInt8)),(5,vP (some ⟨a3,0,none⟩)),(6,vI ((k:Nat):Int)),(46,undef)])∧St w O wI B∧IX wI a3 119 ((EV a k).map vB)∧a3∈B) (8 - (1)) ?_ ?_))))))))))
 ·exact ⟨(1),(a3 :: []),oM,oM,rfl,⟨_,AX _ ⟨rfl,rfl,rfl,(by rfl),rfl,trivial⟩⟩,b6,(by rw [show EV a (1)=(List.replicate 8 (0:UInt8)).set 0 a from by rfl];exact a7),(by (repeat (exact List.mem_cons_self)))⟩
 intro d2 F b7 hI
 obtain ⟨k,a9,hr0_0,hr0_1,d3,⟨d4,rfl⟩,b0,hbx_0_b74,b2⟩:=hI
 refine AF (AF (AC kR (AA (AE (vI ((k:Nat):Int)) rfl (AA (DQ .i64 ((k:Nat):Int) (8:Int) rfl rfl (AG (AB (AJ (decide (((k:Nat):Int)<(8:Int))) rfl rfl (fun a5=>?_) (fun a5=>?_))))))))))
 ·have c5:((k:Nat):Int)<(8:Int):=by simpa using a5
  refine AR (AB (AF (BD (AF (AC kR (AA (AE (vI ((k:Nat):Int)) rfl (AA (HK .i64 ((k:Nat):Int) (1:Int) (((k - 1:Nat):Int)) rfl rfl (GA oM oM) (AA (PU U119_ IZ .i64 ((k - 1:Nat):Int) (k - 1) rfl rfl rfl oM (AA (AU U5_ rfl (vB (EV a k)[k - 1]!) rfl hbx_0_b74 (arr_get (by rw [show (EV a k).length=8 from by simp [IH]];omega)) (AA (AD (vB ((EV a k)[k - 1]!)) rfl (AG (AB (AF (AC kR (AA (AE (vI ((k:Nat):Int)) rfl (AA (AE (vB ((EV a k)[k - 1]!)) rfl (AA (o_shl8 .u64 ((EV a k)[k - 1]!) 1 oM rfl rfl (AA (PU U119_ IZ .i64 ((k:Nat):Int) k rfl rfl rfl oM (CC (CN (vB (((EV a k)[k - 1]!) <<< UInt8.ofNat 1)) rfl rfl rfl IZ (by repeat (assumption)) hbx_0_b74 (by rw [List.length_map,show (EV a k).length=8 from by simp [IH]];omega) b0 fun d5 b1 d6 d7 a0=>(?_))))))))))))))))))))))))))))))
  rw [arr_set] at a0
  refine AG (AB (AF (AC kR (AA (AE (vB ((EV a k)[k - 1]!)) rfl (AA (JZ .u8 (((EV a k)[k - 1]!).toNat:Int) ((128:UInt8).toNat:Int) rfl rfl (AG (AB (AJ (decide (((128:UInt8).toNat:Int)≤(((EV a k)[k - 1]!).toNat:Int))) rfl rfl (fun a6=>?_) (fun a6=>?_)))))))))))
  ·have c6:((128:UInt8).toNat:Int)≤(((EV a k)[k - 1]!).toNat:Int):=by simpa using a6
   refine AC kR (AA (AE (vI ((k:Nat):Int)) rfl (AA (PU U119_ IZ .i64 ((k:Nat):Int) k rfl rfl rfl oM (AA (AU U5_ rfl (vB ((EV a k).set k (((EV a k)[k - 1]!) <<< UInt8.ofNat 1))[k]!) rfl a0 (arr_get (by rw [show ((EV a k).set k (((EV a k)[k - 1]!) <<< UInt8.ofNat 1)).length=8 from by simp [IH]];omega)) (AA (LJ (((EV a k).set k (((EV a k)[k - 1]!) <<< UInt8.ofNat 1))[k]!) (27:UInt8) rfl rfl (AA (PU U119_ IZ .i64 ((k:Nat):Int) k rfl rfl rfl oM (CC (CN (vB ((((EV a k).set k (((EV a k)[k - 1]!) <<< UInt8.ofNat 1))[k]!) ^^^ (27:UInt8))) rfl rfl rfl IZ (by repeat (assumption)) a0 (by rw [List.length_map,show ((EV a k).set k (((EV a k)[k - 1]!) <<< UInt8.ofNat 1)).length=8 from by simp [IH]];omega) b1 fun d8 b8 d9 e0 a8=>(?_)))))))))))))
   rw [arr_set] at a8
   refine AG (CB (AB (AC kR (AA (AE (vI ((k:Nat):Int)) rfl (AA (DF .i64 ((k:Nat):Int) (1:Int) (((k+1:Nat):Int)) rfl rfl (GA oM oM) (AA (AD (vI ((k+1:Nat):Int)) rfl (AG (AB (?_))))))))))))
   exact ⟨_,oM,(k+1),a9,oM,oM,rfl,⟨_,AX _ ⟨rfl,rfl,rfl,(by rfl),rfl,trivial⟩⟩,b8,(by rw [show EV a (k+1)=((EV a k).set k (((EV a k)[k - 1]!) <<< UInt8.ofNat 1)).set k ((((EV a k).set k (((EV a k)[k - 1]!) <<< UInt8.ofNat 1))[k]!) ^^^ (27:UInt8)) from by symm;exact xrow_hi a k oM oM aS];exact a8),aS⟩
  have b9:(((EV a k)[k - 1]!).toNat:Int)<((128:UInt8).toNat:Int):=by simpa using a6
  refine AR (CB (AB (AC kR (AA (AE (vI ((k:Nat):Int)) rfl (AA (DF .i64 ((k:Nat):Int) (1:Int) (((k+1:Nat):Int)) rfl rfl (GA oM oM) (AA (AD (vI ((k+1:Nat):Int)) rfl (AG (AB (?_))))))))))))
  exact ⟨_,oM,(k+1),a9,oM,oM,rfl,⟨_,AX _ ⟨rfl,rfl,rfl,(by rfl),rfl,trivial⟩⟩,b1,(by rw [show EV a (k+1)=(EV a k).set k (((EV a k)[k - 1]!) <<< UInt8.ofNat 1) from by symm;exact xrow_lo a k oM oM aS];exact a0),aS⟩
 have c0:(8:Int)≤((k:Nat):Int):=by simpa using a5
 obtain rfl:k=8:=by omega
 refine DA (BN (BN (CO (AB (AF (AF (AC kR (AA (BS (vs:=(EV a 8).map vB) U119_ rfl (by rw [List.length_map,show (EV a 8).length=8 from by simp [IH]];exact s_119) rfl hbx_0_b74 (by rw [List.drop_zero,List.take_length]) (AA (AE (vI 0) rfl (AG (AB (BD (DB (fun mI FI wI=>∃ (i:Nat),i≤8∧mI=8 - i∧(∃ F1,FI=GD F1 [(1,vB b),(4,vB (gm a b i)),(31,vA ((EV a 8).map vB).toArray),(32,vI ((i:Nat):Int)),(46,undef)])∧b7=wI) (8 - (0)) ?_ ?_)))))))))))))))
 ·exact ⟨(0),oM,rfl,⟨_,AX _ ⟨rfl,(congrArg vB (by rfl)),rfl,(by rfl),rfl,trivial⟩⟩,rfl⟩
 rintro e1 F e2 ⟨i,hr1_0,e3,⟨e4,rfl⟩,rfl⟩
 refine AF (AC kR (AA (DQ .i64 ((i:Nat):Int) (8:Int) rfl rfl (AG (AB (AF (AJ (decide (((i:Nat):Int)<(8:Int))) rfl rfl (fun a1=>?_) (fun a1=>?_))))))))
 ·have c1:((i:Nat):Int)<(8:Int):=by simpa using a1
  refine AR (AB (AF (BD (AF (AC kR (AA (AE (vI ((i:Nat):Int)) rfl (AA (o_indexV (cs:=(EV a 8).map vB) U119_ IZ U5_ rfl .i64 ((i:Nat):Int) i (vB (EV a 8)[i]!) rfl rfl rfl oM (arr_at (by rw [show (EV a 8).length=8 from by simp [IH]];omega)) (AA (AD (vI ((i:Nat):Int)) rfl (AA (AD (vB ((EV a 8)[i]!)) rfl (AG (AB (AF (AC kR (AA (AE (vB b) rfl (AA (AE (vI ((i:Nat):Int)) rfl (AA (o_shr8 .i64 b i oM rfl rfl (AA (o_and8 (b >>> UInt8.ofNat i) (1:UInt8) rfl rfl (AA (o_eql8 ((b >>> UInt8.ofNat i) &&& (1:UInt8)) (1:UInt8) rfl rfl (AG (AB (AJ (((b >>> UInt8.ofNat i) &&& (1:UInt8)) == (1:UInt8)) rfl rfl (fun a2=>?_) (fun a2=>?_)))))))))))))))))))))))))))))))
  ·have c2:(b >>> UInt8.ofNat i) &&& (1:UInt8)=(1:UInt8):=by simpa using a2
   refine AC kR (AA (AE (vB (gm a b i)) rfl (AA (AE (vB ((EV a 8)[i]!)) rfl (AA (LJ (gm a b i) ((EV a 8)[i]!) rfl rfl (AA (AD (vB ((gm a b i) ^^^ ((EV a 8)[i]!))) rfl (AG (CB (AB (AC kR (AA (DF .i64 ((i:Nat):Int) (1:Int) (((i+1:Nat):Int)) rfl rfl (GA oM oM) (AA (AE (vI ((i+1:Nat):Int)) rfl (AG (AB (?_)))))))))))))))))))
   exact ⟨_,oM,(i+1),oM,rfl,⟨_,AX _ ⟨rfl,(congrArg vB (by (rw [xrow_at a 8 i oM oM];exact (gm_yes a b i aS).symm))),rfl,(by rfl),rfl,trivial⟩⟩,rfl⟩
  have c3:(b >>> UInt8.ofNat i) &&& (1:UInt8)≠(1:UInt8):=by simpa using a2
  refine AR (CB (AB (AC kR (AA (DF .i64 ((i:Nat):Int) (1:Int) (((i+1:Nat):Int)) rfl rfl (GA oM oM) (AA (AE (vI ((i+1:Nat):Int)) rfl (AG (AB (?_))))))))))
  exact ⟨_,oM,(i+1),oM,rfl,⟨_,AX _ ⟨rfl,(congrArg vB (by exact (gm_no a b i aS).symm)),rfl,(by rfl),rfl,trivial⟩⟩,rfl⟩
 have c4:(8:Int)≤((i:Nat):Int):=by simpa using a1
 obtain rfl:i=8:=by omega
 refine DA (BN (BN (CO (AB (AF (AC kR (AA (AE (vB (gm a b 8)) rfl (AA (AD (vB (gm a b 8)) rfl (AG (AB (AM (AS rfl (BZ rfl rfl rfl) (?_)))))))))))))))
 have e:(BR a b)=(gm a b 8):=rfl
 exact ⟨_,rfl,b0.keep,by rw [e];exact rfl⟩
open Go.Fw Go.RowKit
set_option maxHeartbeats 4000000 in
set_option maxRecDepth 100000 in
theorem c_eval {O:List Nat} (l_v:Value) (l:List UInt8) (x:UInt8) (w:World) (a0:BB Enc.u8 w O l_v l) (hO:∀ b∈O,b<w.heap.size):CA Tryz.prog 65 [l_v,vB x] w (fun v _=>v=vB (ER l x)):= by
 have c2:=a0.len_le
 have a0:BB Enc.u8 w ([]++O) l_v l:=a0
 have s0:St w O w []:=St.start hO
 refine BE 22 Tryz.func65 rfl rfl oT (fun F0=>AF (AC kR (AA (AD (vB (0:UInt8)) rfl (AG (AB (AF (AF (AC kR (AA (AE (l_v) rfl (AA (BP U26_ rfl a0 (AA (HK .i64 (l.length:Int) (1:Int) ((l.length:Int) - (1:Int)) rfl rfl (GA oM oM) (AA (AD (vI ((l.length:Int) - (1:Int))) rfl (AG (AB (BD (DB (fun mI FI wI=>∃ (k:Nat) (B:List Nat),k≤l.length∧mI=k∧(∃ F1,FI=GD F1 [(0,l_v),(1,vB x),(4,vB (ER (l.drop k) x)),(5,vI ((k:Int) - 1)),(22,undef)])∧St w O wI B∧BB Enc.u8 wI (B++O) (l_v) (l)) ((l.length)) ?_ ?_)))))))))))))))))))))
 ·exact ⟨(l.length),[],oM,rfl,⟨_,AX _ ⟨rfl,rfl,(congrArg vB (by rw [List.drop_length];rfl)),(by rfl),rfl,trivial⟩⟩,s0,a0⟩
 intro c9 F a5 hI
 clear a0
 obtain ⟨k,a2,hr0_0,d0,⟨d1,rfl⟩,a7,a0⟩:=hI
 refine AF (AF (AC kR (AA (AE (vI ((k:Int) - 1)) rfl (AA (JZ .i64 ((k:Int) - 1) (0:Int) rfl rfl (AG (AB (AJ (decide ((0:Int)≤(k:Int) - 1)) rfl rfl (fun a3=>?_) (fun a3=>?_))))))))))
 ·have c3:(0:Int)≤(k:Int) - 1:=by simpa using a3
  obtain ⟨q,rfl⟩:∃ q,k=q+1:=⟨k - 1,by omega⟩
  rw [show ((q+1:Nat):Int) - 1=((q:Nat):Int) from by omega]
  refine AR (AB (AF (BD (cw_draw' 7 _ _ [CQ (vB (ER (l.drop (q+1)) x)),CQ (vB x),CQ (vB (BR (ER (l.drop (q+1)) x) x)),fun (vT:Value) (wT:World)=>BB Enc.u8 wT (a2++O) vT (l),CQ (vI ((q:Nat):Int)),fun (vT:Value) (wT:World)=>∃ aT,vT = .pointer (some aT)∧PT Enc.u8 wT (a2++O) (.pointer (some aT)) (l[q]!),CQ (vB (l[q]!))] kR kR kR kR rfl rfl ⟨kI,kI,kI,fun _ _ _ h k=>h.mv (Mv.of_keep k),kI,fun _ _ _ ⟨a,e,h⟩ k=>⟨a,e,h.mv (Mv.of_keep k)⟩,kI,trivial⟩ ⟨?_,?_,?_,?_,?_,?_,?_,trivial⟩ ?_))))
  ·intro F1 w1 k1 hf hd
   obtain ⟨F2,rfl⟩:=AK (F:=F1) [(4,vB (ER (l.drop (q+1)) x))] ⟨hf 4 kR,trivial⟩
   exact AH rfl ((AE (vB (ER (l.drop (q+1)) x)) rfl (⟨(Keep.refl _ _),rfl⟩)))
  ·intro F1 w1 k1 hf hd
   obtain ⟨F2,rfl⟩:=AK (F:=F1) [(1,vB x)] ⟨hf 1 kR,trivial⟩
   exact AH rfl ((AE (vB x) rfl (⟨(Keep.refl _ _),rfl⟩)))
  ·intro F1 w1 k1 hf hd
   have k0:=(Keep.drew [] a5).trans k1
   have s1:=a7.call k0
   obtain ⟨F2,rfl⟩:=AK (F:=F1) [(13,vB (ER (l.drop (q+1)) x)),(14,vB x)] ⟨hd 0 13 kR,hd 1 14 kR,trivial⟩
   refine AH rfl ((AZ (vs:=[vB (ER (l.drop (q+1)) x),vB x]) NI (XO (O:=a2++O) (ER (l.drop (q+1)) x) x w1 s1.lt) rfl s1 fun c5 c6 c7 c8 b1 b2=>(?_)))
   obtain rfl:=b2
   exact ⟨b1,rfl⟩
  ·intro F1 w1 k1 hf hd
   have k0:=(Keep.drew [] a5).trans k1
   have m1:Mv a2 a5 a2 w1:=Mv.of_keep k0
   have a0:=a0.mv m1
   obtain ⟨F2,rfl⟩:=AK (F:=F1) [(0,l_v)] ⟨hf 0 kR,trivial⟩
   exact AH rfl ((AE (l_v) rfl (⟨(Keep.refl _ _),a0⟩)))
  ·intro F1 w1 k1 hf hd
   obtain ⟨F2,rfl⟩:=AK (F:=F1) [(5,vI ((q:Nat):Int))] ⟨hf 5 kR,trivial⟩
   exact AH rfl ((AE (vI ((q:Nat):Int)) rfl (⟨(Keep.refl _ _),rfl⟩)))
  ·intro F1 w1 k1 hf hd
   obtain ⟨b3,b4,a6⟩:∃ v,F1 16=v∧BB Enc.u8 w1 (a2++O) v (l):=⟨_,rfl,hd 3 16 kR⟩
   have:=a6.len_le
   obtain ⟨F2,rfl⟩:=AK (F:=F1) [(16,b3),(17,vI ((q:Nat):Int))] ⟨b4,hd 4 17 kR,trivial⟩
   exact AH rfl ((CR U26_ IZ .i64 ((q:Nat):Int) q rfl rfl rfl a6 oM fun b5 a9=>(⟨(Keep.refl _ _),⟨b5,rfl,a9⟩⟩)))
  ·intro F1 w1 k1 hf hd
   obtain ⟨b6,b7,b0⟩:∃ aX_,F1 18 = .pointer (some aX_)∧PT Enc.u8 w1 (a2++O) (.pointer (some aX_)) (l[q]!):=hd 5 18 kR
   obtain ⟨F2,rfl⟩:=AK (F:=F1) [(18,vP (some b6))] ⟨b7,trivial⟩
   exact AH rfl ((GE U5_ rfl rfl b0 (⟨(Keep.refl _ _),rfl⟩)))
  intro b8 b9 a8 a4 a1
  have c0:=a7.call a8
  have c1:Mv a2 a5 a2 b9:=Mv.of_keep a8
  have a0:=a0.mv c1
  obtain ⟨F2,rfl⟩:=AK (F:=b8) [(0,l_v),(1,vB x),(4,vB (ER (l.drop (q+1)) x)),(5,vI ((q:Nat):Int)),(22,undef),(15,vB (BR (ER (l.drop (q+1)) x) x)),(19,vB (l[q]!))] ⟨a1 0 kR,a1 1 kR,a1 4 kR,a1 5 kR,a1 22 kR,a4 2 15 kR (by decide),a4 6 19 kR (by decide),trivial⟩
  clear a4 a1
  refine AA (LJ (BR (ER (l.drop (q+1)) x) x) (l[q]!) rfl rfl (AA (AD (vB ((BR (ER (l.drop (q+1)) x) x) ^^^ (l[q]!))) rfl (AG (CB (AB (AC kR (AA (AE (vI ((q:Nat):Int)) rfl (AA (HK .i64 ((q:Nat):Int) (1:Int) (((q:Nat):Int) - (1:Int)) rfl rfl (GA oM oM) (AA (AD (vI (((q:Nat):Int) - (1:Int))) rfl (AG (AB (?_))))))))))))))))
  exact ⟨_,oM,(q),a2,oM,rfl,⟨_,AX _ ⟨rfl,rfl,(congrArg vB (by rw [pev_drop (l:=l) (k:=q) oM])),(by rfl),rfl,trivial⟩⟩,c0,a0⟩
 have c4:(k:Int) - 1<(0:Int):=by (have e:=a3;simp at e;omega)
 obtain rfl:k=0:=by omega
 refine DA (BN (BN (CO (AB (AF (AC kR (AA (AE (vB (ER (l.drop 0) x)) rfl (AA (AD (vB (ER (l.drop 0) x)) rfl (AG (AB (AM (AS rfl (BZ rfl rfl rfl) (?_)))))))))))))))
 have e:(ER l x)=(ER (l.drop 0) x):=rfl
 exact ⟨_,rfl,a7.keep,by rw [e];exact rfl⟩
set_option maxHeartbeats 4000000 in
set_option maxRecDepth 100000 in
theorem c_powers {O:List Nat} (a:UInt8) (w:World) (hO:∀ b∈O,b<w.heap.size):CA Tryz.prog 112 [vB a] w (fun v w'=>∃ (a0_0:Addr),v = .func (.func 114) #[] #[.pointer (some a0_0)]∧PT Enc.u8 w' (O) (.pointer (some a0_0)) (a)):= by
 have s0:St w O w []:=St.start hO
 refine BE 4 Tryz.func112 rfl rfl oT (fun F0=>AF (AC kR (AA (DR (E:=Enc.u8) (vB a) ([vB a]) a rfl rfl rfl s0 fun a0 a3 a2 a4 a5 a1=>(AA (AD (Value.nilFunc) rfl (AG (AB (AF (AC kR (AA (DV (first:=[]) (captured:=[.tmp 1]) [] [vP (some a0)] rfl rfl (AA (AD (vN (.func 114) #[] #[vP (some a0)]) rfl (AG (AB (AM (AS rfl (BZ rfl rfl rfl) (?_)))))))))))))))))))
 exact ⟨_,rfl,a2.keep,⟨_,rfl,(a1.sub (fun b hb=>.inl (List.mem_append_right _ hb)))⟩⟩
set_option maxHeartbeats 4000000 in
set_option maxRecDepth 100000 in
theorem it_powers (w:World) (L:List Nat) (a_a:Addr) (a:UInt8) (a0:PT Enc.u8 w L (.pointer (some a_a)) a) (hL:∀ b∈L,b<w.heap.size) (l:Nat) (N:Nat) (I:Nat→World→Prop) (J:World→Prop) (hI:∀ i w',I i w'→Keep L w w') (hst:∀ i w1 w2,I i w1→Keep [] w1 w2→I i w2) (hN:∀ i w',I i w'→i≤N) (hNb:N<4611686018427387904) (hR:∀ i w',I i w'→MQ Tryz.prog l [vI ((i:Nat):Int),vB (KH a i)] w' (fun v w2=>(v = .bool true∧I (i+1) w2)∨(v = .bool false∧J w2))) (h0:I 0 w):Calls Tryz.prog 114 ([]++[vN (.yield l) #[] #[]]++[vP (some a_a)]).toArray w (fun e w'=>(∃ v,e = .returned v)∧(J w'∨∃ i,False∧I i w')):= by
 have a0:PT Enc.u8 w (L++[]) (.pointer (some a_a)) a:=by rw [List.append_nil];exact a0
 refine CE 14 Tryz.func114 rfl rfl oT (fun F0=>?_)
 have hk_w:=hI _ _ h0
 have a1:PT Enc.u8 w ([]++L) (.pointer (some a_a)) a:=by have h:=a0.mv (Mv.same hk_w);rw [List.append_nil] at h;exact h
 have a5:St w L w []:=St.start (fun b hb=>Nat.lt_of_lt_of_le (hL b hb) hk_w.size)
 refine AF (AC kR (AA (AD (vB (1:UInt8)) rfl (AG (AB (AF (AC kR (AA (AD (vI 0) rfl (AG (AB (BD (DB (fun mI FI wI=>∃ k:Nat,mI=N+1 - k∧(∃ F1,FI=GD F1 [(0,vN (.yield l) #[] #[]),(1,vP (some a_a)),(3,vB (KH a k)),(4,vI ((k:Nat):Int)),(14,undef)])∧I (k) wI) (N+1 - (0)) ?_ ?_)))))))))))))
 ·exact ⟨(0),rfl,⟨_,AX _ ⟨rfl,rfl,(congrArg vB (by rfl)),(by rfl),rfl,trivial⟩⟩,h0⟩
 rintro ml F wl ⟨k,rfl,⟨Fl,rfl⟩,hIl⟩
 have hk_wl:=hI _ _ hIl
 have a1:PT Enc.u8 wl ([]++L) (.pointer (some a_a)) a:=by have h:=a0.mv (Mv.same hk_wl);rw [List.append_nil] at h;exact h
 have a6:St wl L wl []:=St.start (fun b hb=>Nat.lt_of_lt_of_le (hL b hb) hk_wl.size)
 have hkN:=hN _ _ hIl
 refine AF (AF (AC kR (AA (AE (vN (.yield l) #[] #[]) rfl (AA (AE (vI ((k:Nat):Int)) rfl (AA (AE (vB (KH a k)) rfl (wl_y l [vI ((k:Nat):Int),vB (KH a k)] rfl rfl ?_)))))))))
 refine MQ.mono (hR k _ hIl) (fun v w2 h=>?_)
 obtain ⟨rfl,hI2⟩|⟨rfl,hJ⟩:=h
 ·have hk_w2:=hI _ _ hI2
  have a1:PT Enc.u8 w2 ([]++L) (.pointer (some a_a)) a:=by have h:=a0.mv (Mv.same hk_w2);rw [List.append_nil] at h;exact h
  have a2:St w2 L w2 []:=St.start (fun b hb=>Nat.lt_of_lt_of_le (hL b hb) hk_w2.size)
  refine AG (AB (AJ true rfl rfl (fun _=>AR (AB (AF (BD (AC kR (AA (AE (vB (KH a k)) rfl (AA (GE U5_ rfl rfl a1 (AA (AZ (vs:=[vB (KH a k),vB a]) NI (XO (O:=[]++L) (KH a k) a w2 a2.lt) rfl a2 fun a7 a8 a9 b0 a3 a4=>(?_)))))))))))) (fun h=>by cases h)))
  obtain rfl:=a4
  have hI2:=hst _ _ _ hI2 a3
  refine AA (AD (vB (BR (KH a k) a)) rfl (AG (CB (AB (AC kR (AA (AE (vI ((k:Nat):Int)) rfl (AA (DF .i64 ((k:Nat):Int) (1:Int) (((k+1:Nat):Int)) rfl rfl (GA oM oM) (AA (AD (vI ((k+1:Nat):Int)) rfl (AG (AB (?_))))))))))))))
  exact ⟨_,oM,(k+1),rfl,⟨_,AX _ ⟨rfl,rfl,(congrArg vB (by rfl)),(by rfl),rfl,trivial⟩⟩,hI2⟩
 refine AG (AB (AJ false rfl rfl (fun h=>by cases h) (fun _=>DA (BN (BN (CO (HL rfl (KL rfl) (?_))))))))
 exact ⟨⟨_,rfl⟩, .inl hJ⟩
set_option maxHeartbeats 4000000 in
set_option maxRecDepth 100000 in
theorem c_inverse {O:List Nat} (a:UInt8) (w:World) (hO:∀ b∈O,b<w.heap.size):CA Tryz.prog 107 [vB a] w (fun v _=>v=vB (GK a)):= by
 have s0:St w O w []:=St.start hO
 refine UW 12 Tryz.func107 rfl rfl oT (fun F0=>AF (AC kR (AA (CZ [vB (0:UInt8)] z_5 rfl s0 fun a5 d6 d7 c2 f4 f5 a8=>(?_)))))
 clear d7
 refine AG (AB (AF (AF (AC kR (AA (AE (vB a) rfl (AA (AZ (vs:=[vB a]) enter_112 (c_powers (O:=(a5 :: [])++O) a d6 c2.lt) rfl c2 fun f6 d8 d9 f7 e0 e1=>(?_)))))))))
 obtain ⟨b3,rfl,a2⟩:=e1
 have a8:=a8.keep e0 (by simp)
 refine AG (AB (BD (cw_range (fs:=[]) (lb:=[vP (some b3)]) rfl rfl enter_114 rfl (fun l_0 D_0 b1 R_0 _ hR_0 c1 d2 b9 a3 a4=>?_))))
 have a6:HD a5 D_0∧HD a5 l_0:=by show a5≠D_0∧a5≠l_0;have:=a8.lt;omega
 have c3:=d9.adopt2 b9 c1 oM a3.lt a4.lt
 have e2:Mv (a5 :: []) d8 (l_0 :: D_0 :: (a5 :: [])) b1:=Mv.adopt2 b9 c1 oM
 have a2:=a2.mv e2
 have a8:=a8.keep b9 (by simp)
 have hDl_0:HD D_0 l_0:=by show D_0≠l_0;omega
 clear d2
 have a0:Mv (l_0 :: D_0 :: (a5 :: [])) b1 (l_0 :: D_0 :: (a5 :: [])) b1:=Mv.refl _ _
 have hL_0:=c3.lt
 refine Calls.mono (it_powers b1 ((l_0 :: D_0 :: (a5 :: []))++O) b3 a a2 hL_0 l_0 (254) (fun (i:Nat) wI=>∃ (B:List Nat),i≤254∧St w O wI B∧PT Enc.u8 wI (B++O) (.pointer (some b3)) (a)∧Ob wI D_0 (.deferred (some []))∧Ob wI l_0 (R_0 .ready none)∧a5∈B∧D_0∈B∧l_0∈B∧Mv (l_0 :: D_0 :: (a5 :: [])) b1 B wI∧IX wI a5 5 [vB (0:UInt8)]) (fun wI=>(∃ (i:Nat) (B:List Nat),St w O wI B∧PT Enc.u8 wI (B++O) (.pointer (some b3)) (a)∧Ob wI D_0 (.deferred (some []))∧Ob wI l_0 (R_0 .done (some (.ret)))∧a5∈B∧D_0∈B∧l_0∈B∧Mv (l_0 :: D_0 :: (a5 :: [])) b1 B wI∧IX wI a5 5 [vB (GK a)])) ?_ ?_ ?_ oM ?_ ?_) (fun e w2 hJ=>⟨hJ.1,?_⟩)
 ·intro i w' hI
  clear a2 a3 a4 a0
  obtain ⟨Bl,hq0_0,sl,a2,a3,a4,a7,a9,b0,a0,a1⟩:=hI
  exact Keep.mono a0.keep (fun b hb=>.inl (List.mem_append_left _ hb))
 ·intro i wa wb hI kk
  clear a2 a3 a4 a0
  obtain ⟨Bl,hq0_0,sl,a2,a3,a4,a7,a9,b0,a0,a1⟩:=hI
  have f1:=sl.call kk
  have d5:Mv Bl wa Bl wb:=Mv.of_keep kk
  have a2:=a2.mv d5
  have a1:=a1.keep kk (by simp)
  have a3:=a3.keep kk (by simp)
  have a4:=a4.keep kk (by simp)
  have a0:=a0.trans d5
  exact ⟨Bl,hq0_0,f1,a2,a3,a4,(by repeat (assumption)),(by repeat (assumption)),(by repeat (assumption)),a0,a1⟩
 ·intro i w' hI
  clear a2 a3 a4 a0
  obtain ⟨Bl,hq0_0,sl,a2,a3,a4,a7,a9,b0,a0,a1⟩:=hI
  omega
 ·intro i wr hI
  clear a2 a3 a4 a0
  obtain ⟨Bl,hq0_0,sl,a2,a3,a4,a7,a9,b0,a0,a1⟩:=hI
  refine XV hR_0 a4 rfl (by decide) (AF (AC kR (AA (AD (vI ((i:Nat):Int)) rfl (AG (AB (AC kR (AA (AD (vB (KH a i)) rfl (AG (AB (⟨a4,fun c4 b4 b2=>?_⟩))))))))))))
  have c5:=sl.keepB b4 (by repeat (assumption))
  have c6:Mv Bl wr Bl c4:=Mv.keepB b4 (by repeat (assumption))
  have a2:=a2.mv c6
  have a1:=a1.keep b4 (BH a6.2)
  have a3:=a3.keep b4 (BH hDl_0)
  have a0:=a0.trans c6
  refine BD (AF (AC kR (AA (AE (vI ((i:Nat):Int)) rfl (AA (EK .i64 ((i:Nat):Int) (254:Int) rfl rfl (AG (AB (AJ (((i:Nat):Int) == (254:Int)) rfl rfl (fun b5=>?_) (fun b5=>?_))))))))))
  ·have f2:((i:Nat):Int)=(254:Int):=by simpa using b5
   refine AF (AC kR (AA (AE (vB (KH a i)) rfl (CC (CN (vB (KH a i)) rfl rfl rfl IZ (by repeat (assumption)) a1 oT c5 fun e3 e4 c7 c8 b6=>(?_))))))
   have a2:=a2.mv c7
   have a3:=a3.keep c8 (BH (Ne.symm a6.1))
   have b2:=b2.keep c8 (BH (Ne.symm a6.2))
   have a0:=a0.trans c7
   refine AG (AB (AM (BC (round_r b2 (fun e5 b7 d3=>?_)))))
   have e6:=e4.keepB b7 (by repeat (assumption))
   have c9:Mv Bl e3 Bl e5:=Mv.keepB b7 (by repeat (assumption))
   have a2:=a2.mv c9
   have b6:=b6.keep b7 (BH a6.2)
   have a3:=a3.keep b7 (BH hDl_0)
   have a0:=a0.trans c9
   have a4:=d3
   refine .inr ⟨rfl,?_⟩
   exact ⟨i,Bl,e6,a2,a3,a4,(by repeat (assumption)),(by repeat (assumption)),(by repeat (assumption)),a0,(by rw [show ([vB (GK a)]:List Value)=[vB (KH a i)] from by rw [ginv_at a i oM]];exact b6)⟩
  have f3:((i:Nat):Int)≠(254:Int):=by simpa using b5
  refine AR (CB (round_n b2 (fun e7 b8 d4=>?_)))
  have e8:=c5.keepB b8 (by repeat (assumption))
  have d0:Mv Bl c4 Bl e7:=Mv.keepB b8 (by repeat (assumption))
  have a2:=a2.mv d0
  have a1:=a1.keep b8 (BH a6.2)
  have a3:=a3.keep b8 (BH hDl_0)
  have a0:=a0.trans d0
  have a4:=d4
  refine .inl ⟨rfl,?_⟩
  exact ⟨Bl,oM,e8,a2,a3,a4,(by repeat (assumption)),(by repeat (assumption)),(by repeat (assumption)),a0,a1⟩
 ·exact ⟨(l_0 :: D_0 :: (a5 :: [])),oM,c3,a2,a3,a4,(by repeat (constructor)),(by repeat (constructor)),(by repeat (constructor)),a0,a8⟩
 obtain ⟨_,hJ⟩:=hJ
 clear a2 a3 a4 a0
 rcases hJ with (hJ)|⟨i,hi,hJ⟩
 ·obtain ⟨i,Bl,sl,a2,a3,a4,a7,a9,b0,a0,a1⟩:=hJ
  refine ⟨.done,(some (.ret)),by simp,a4,fun f8 c0=>?_⟩
  have e9:=sl.keepB c0 (by repeat (assumption))
  have a1:=a1.keep c0 (BH a6.2)
  have a3:=a3.keep c0 (BH hDl_0)
  refine AM (BC (AI (endM_rm rfl a3 (fun f9 d1=>?_))))
  have f0:=e9.keepB d1 (by repeat (assumption))
  have a1:=a1.keep d1 (BH a6.1)
  refine ⟨_,resc rfl rfl U5_ rfl rfl a1 rfl,?_⟩
  exact ⟨_,rfl,f0.keep,rfl⟩
 exact hi.elim
open Go.Fw Go.RowKit
set_option maxHeartbeats 4000000 in
set_option maxRecDepth 100000 in
theorem c_refThrough {O:List Nat} (xs_v:Value) (xs:List UInt8) (ys_v:Value) (ys:List UInt8) (at_:UInt8) (w:World) (a0:BB Enc.u8 w O xs_v xs) (a1:BB Enc.u8 w O ys_v ys) (hO:∀ b∈O,b<w.heap.size):CA Tryz.prog 81 [xs_v,ys_v,vB at_] w (fun v _=>v = .tuple #[vB ((DU xs ys at_).1),vI ((DU xs ys at_).2)]):= by
 have f0:=a0.len_le
 have a0:BB Enc.u8 w ([]++O) xs_v xs:=a0
 have f1:=a1.len_le
 have a1:BB Enc.u8 w ([]++O) ys_v ys:=a1
 have s0:St w O w []:=St.start hO
 refine BE 57 Tryz.func81 rfl rfl oT (fun F0=>AF (AC kR (AA (AD (vB (0:UInt8)) rfl (AA (AD (vI 0) rfl (AG (AB (AF (AF (AC kR (AA (AE (xs_v) rfl (AA (AE (ys_v) rfl (AA (AZ (vs:=[xs_v,ys_v]) enter_99 (c_refPoints (O:=[]++O) xs_v xs ys_v ys w a0 a1 s0.lt) rfl s0 fun g1 g2 b4 b5 g3 c9=>(?_))))))))))))))))))
 obtain rfl:=c9
 have a0:=a0.mv b5
 have a1:=a1.mv b5
 refine AA (EU (EY xs ys) rfl (AG (AB (AJ (!(EY xs ys)) rfl rfl (fun a5=>?_) (fun a5=>?_)))))
 ·have f3:(EY xs ys)=false:=by simpa using a5
  refine AF (AC kR (AA (AD (vB (0:UInt8)) rfl (AA (AD (vI 1) rfl (AG (AB (AM (AI (AS rfl (EJ rfl rfl rfl rfl) (?_)))))))))))
  have e:(DU xs ys at_)=((0:UInt8),(1:Int)):=by simp [DU, *]
  exact ⟨_,rfl,b4.keep,by rw [e];exact rfl⟩
 have f4:(EY xs ys)=true:=by simpa using a5
 have hxy:=XM (by simpa using a5)
 refine AR (AB (AF (AC kR (AA (AD (vB (0:UInt8)) rfl (AG (AB (AF (AF (AC kR (AA (AD (vI 0) rfl (AG (AB (BD (DB (fun mI FI wI=>∃ (i:Nat) (B:List Nat),i≤xs.length∧mI=xs.length - i∧(∃ F1,FI=GD F1 [(0,xs_v),(1,ys_v),(2,vB at_),(8,vB (IV xs ys at_ i)),(9,vI ((i:Nat):Int)),(57,undef)])∧St w O wI B∧BB Enc.u8 wI (B++O) (xs_v) (xs)∧BB Enc.u8 wI (B++O) (ys_v) (ys)) (xs.length - (0)) ?_ ?_))))))))))))))))
 ·exact ⟨(0),[],oM,rfl,⟨_,AX _ ⟨rfl,rfl,rfl,(congrArg vB (by rfl)),(by rfl),rfl,trivial⟩⟩,b4,a0,a1⟩
 intro h2 F h3 hI
 clear a0 a1
 obtain ⟨i,f2,hr0_0,h4,⟨h5,rfl⟩,c8,a0,a1⟩:=hI
 refine AF (AF (AC kR (AA (AE (vI ((i:Nat):Int)) rfl (AA (AE (xs_v) rfl (AA (BP U26_ rfl a0 (AA (DQ .i64 ((i:Nat):Int) (xs.length:Int) rfl rfl (AG (AB (AJ (decide (((i:Nat):Int)<(xs.length:Int))) rfl rfl (fun a6=>?_) (fun a6=>?_))))))))))))))
 ·have f5:((i:Nat):Int)<(xs.length:Int):=by simpa using a6
  refine AR (AB (AF (BD (AF (AC kR (AA (AE (ys_v) rfl (AA (AE (vI ((i:Nat):Int)) rfl (AA (CR U26_ IZ .i64 ((i:Nat):Int) i rfl rfl rfl a1 oM fun g4 c1=>(AA (GE U5_ rfl rfl c1 (AA (AD (vB (ys[i]!)) rfl (AG (AB (AF (AF (AC kR (AA (AD (vI 0) rfl (AG (AB (BD (DB (fun mI FI wI=>∃ (k:Nat) (B:List Nat),k≤xs.length∧mI=xs.length - k∧(∃ F1,FI=GD F1 [(0,xs_v),(1,ys_v),(2,vB at_),(8,vB (IV xs ys at_ i)),(9,vI ((i:Nat):Int)),(10,vB (FO xs at_ i ys[i]! k)),(11,vI ((k:Nat):Int)),(57,undef)])∧St w O wI B∧BB Enc.u8 wI (B++O) (xs_v) (xs)∧BB Enc.u8 wI (B++O) (ys_v) (ys)) (xs.length - (0)) ?_ ?_))))))))))))))))))))))))))
  ·exact ⟨(0),f2,oM,rfl,⟨_,AX _ ⟨rfl,rfl,rfl,rfl,rfl,(congrArg vB (by rfl)),(by rfl),rfl,trivial⟩⟩,c8,a0,a1⟩
  intro h6 F a4 hI
  clear a0 a1
  obtain ⟨k,a2,hr1_0,h7,⟨h8,rfl⟩,b0,a0,a1⟩:=hI
  refine AF (AF (AC kR (AA (AE (vI ((k:Nat):Int)) rfl (AA (AE (xs_v) rfl (AA (BP U26_ rfl a0 (AA (DQ .i64 ((k:Nat):Int) (xs.length:Int) rfl rfl (AG (AB (AJ (decide (((k:Nat):Int)<(xs.length:Int))) rfl rfl (fun a7=>?_) (fun a7=>?_))))))))))))))
  ·have f6:((k:Nat):Int)<(xs.length:Int):=by simpa using a7
   refine AR (AB (AF (BD (AF (AC kR (AA (AE (vI ((k:Nat):Int)) rfl (AA (AE (vI ((i:Nat):Int)) rfl (AA (CM .i64 ((k:Nat):Int) ((i:Nat):Int) rfl rfl (AG (AB (AJ (((k:Nat):Int) != ((i:Nat):Int)) rfl rfl (fun a8=>?_) (fun a8=>?_)))))))))))))))
   ·have f7:((k:Nat):Int)≠((i:Nat):Int):=by simpa using a8
    refine cw_draw' 17 _ _ [CQ (vB (FO xs at_ i ys[i]! k)),CQ (vB at_),fun (vT:Value) (wT:World)=>BB Enc.u8 wT (a2++O) vT (xs),CQ (vI ((k:Nat):Int)),fun (vT:Value) (wT:World)=>∃ aT,vT = .pointer (some aT)∧PT Enc.u8 wT (a2++O) (.pointer (some aT)) (xs[k]!),CQ (vB (xs[k]!)),CQ (vB (at_ ^^^ (xs[k]!))),fun (vT:Value) (wT:World)=>BB Enc.u8 wT (a2++O) vT (xs),CQ (vI ((i:Nat):Int)),fun (vT:Value) (wT:World)=>∃ aT,vT = .pointer (some aT)∧PT Enc.u8 wT (a2++O) (.pointer (some aT)) (xs[i]!),CQ (vB (xs[i]!)),fun (vT:Value) (wT:World)=>BB Enc.u8 wT (a2++O) vT (xs),CQ (vI ((k:Nat):Int)),fun (vT:Value) (wT:World)=>∃ aT,vT = .pointer (some aT)∧PT Enc.u8 wT (a2++O) (.pointer (some aT)) (xs[k]!),CQ (vB (xs[k]!)),CQ (vB ((xs[i]!) ^^^ (xs[k]!))),CQ (vB (HB (at_ ^^^ (xs[k]!)) ((xs[i]!) ^^^ (xs[k]!))))] kR kR kR kR rfl rfl ⟨kI,kI,fun _ _ _ h k=>h.mv (Mv.of_keep k),kI,fun _ _ _ ⟨a,e,h⟩ k=>⟨a,e,h.mv (Mv.of_keep k)⟩,kI,kI,fun _ _ _ h k=>h.mv (Mv.of_keep k),kI,fun _ _ _ ⟨a,e,h⟩ k=>⟨a,e,h.mv (Mv.of_keep k)⟩,kI,fun _ _ _ h k=>h.mv (Mv.of_keep k),kI,fun _ _ _ ⟨a,e,h⟩ k=>⟨a,e,h.mv (Mv.of_keep k)⟩,kI,kI,kI,trivial⟩ ⟨?_,?_,?_,?_,?_,?_,?_,?_,?_,?_,?_,?_,?_,?_,?_,?_,?_,trivial⟩ ?_
    ·intro F1 w1 k1 hf hd
     obtain ⟨F2,rfl⟩:=AK (F:=F1) [(10,vB (FO xs at_ i ys[i]! k))] ⟨hf 10 kR,trivial⟩
     exact AH rfl ((AE (vB (FO xs at_ i ys[i]! k)) rfl (⟨(Keep.refl _ _),rfl⟩)))
    ·intro F1 w1 k1 hf hd
     obtain ⟨F2,rfl⟩:=AK (F:=F1) [(2,vB at_)] ⟨hf 2 kR,trivial⟩
     exact AH rfl ((AE (vB at_) rfl (⟨(Keep.refl _ _),rfl⟩)))
    ·intro F1 w1 k1 hf hd
     have k0:=(Keep.drew [] a4).trans k1
     have m1:Mv a2 a4 a2 w1:=Mv.of_keep k0
     have a0:=a0.mv m1
     obtain ⟨F2,rfl⟩:=AK (F:=F1) [(0,xs_v)] ⟨hf 0 kR,trivial⟩
     exact AH rfl ((AE (xs_v) rfl (⟨(Keep.refl _ _),a0⟩)))
    ·intro F1 w1 k1 hf hd
     obtain ⟨F2,rfl⟩:=AK (F:=F1) [(11,vI ((k:Nat):Int))] ⟨hf 11 kR,trivial⟩
     exact AH rfl ((AE (vI ((k:Nat):Int)) rfl (⟨(Keep.refl _ _),rfl⟩)))
    ·intro F1 w1 k1 hf hd
     obtain ⟨d0,d1,b1⟩:∃ v,F1 37=v∧BB Enc.u8 w1 (a2++O) v (xs):=⟨_,rfl,hd 2 37 kR⟩
     have:=b1.len_le
     obtain ⟨F2,rfl⟩:=AK (F:=F1) [(37,d0),(38,vI ((k:Nat):Int))] ⟨d1,hd 3 38 kR,trivial⟩
     exact AH rfl ((CR U26_ IZ .i64 ((k:Nat):Int) k rfl rfl rfl b1 oM fun d2 c2=>(⟨(Keep.refl _ _),⟨d2,rfl,c2⟩⟩)))
    ·intro F1 w1 k1 hf hd
     obtain ⟨d3,d4,c3⟩:∃ aX_,F1 39 = .pointer (some aX_)∧PT Enc.u8 w1 (a2++O) (.pointer (some aX_)) (xs[k]!):=hd 4 39 kR
     obtain ⟨F2,rfl⟩:=AK (F:=F1) [(39,vP (some d3))] ⟨d4,trivial⟩
     exact AH rfl ((GE U5_ rfl rfl c3 (⟨(Keep.refl _ _),rfl⟩)))
    ·intro F1 w1 k1 hf hd
     obtain ⟨F2,rfl⟩:=AK (F:=F1) [(36,vB at_),(40,vB (xs[k]!))] ⟨hd 1 36 kR,hd 5 40 kR,trivial⟩
     exact AH rfl ((LJ at_ (xs[k]!) rfl rfl (⟨(Keep.refl _ _),rfl⟩)))
    ·intro F1 w1 k1 hf hd
     have k0:=(Keep.drew [] a4).trans k1
     have m1:Mv a2 a4 a2 w1:=Mv.of_keep k0
     have a0:=a0.mv m1
     obtain ⟨F2,rfl⟩:=AK (F:=F1) [(0,xs_v)] ⟨hf 0 kR,trivial⟩
     exact AH rfl ((AE (xs_v) rfl (⟨(Keep.refl _ _),a0⟩)))
    ·intro F1 w1 k1 hf hd
     obtain ⟨F2,rfl⟩:=AK (F:=F1) [(9,vI ((i:Nat):Int))] ⟨hf 9 kR,trivial⟩
     exact AH rfl ((AE (vI ((i:Nat):Int)) rfl (⟨(Keep.refl _ _),rfl⟩)))
    ·intro F1 w1 k1 hf hd
     obtain ⟨d5,d6,b2⟩:∃ v,F1 42=v∧BB Enc.u8 w1 (a2++O) v (xs):=⟨_,rfl,hd 7 42 kR⟩
     have:=b2.len_le
     obtain ⟨F2,rfl⟩:=AK (F:=F1) [(42,d5),(43,vI ((i:Nat):Int))] ⟨d6,hd 8 43 kR,trivial⟩
     exact AH rfl ((CR U26_ IZ .i64 ((i:Nat):Int) i rfl rfl rfl b2 oM fun d7 c4=>(⟨(Keep.refl _ _),⟨d7,rfl,c4⟩⟩)))
    ·intro F1 w1 k1 hf hd
     obtain ⟨d8,d9,c5⟩:∃ aX_,F1 44 = .pointer (some aX_)∧PT Enc.u8 w1 (a2++O) (.pointer (some aX_)) (xs[i]!):=hd 9 44 kR
     obtain ⟨F2,rfl⟩:=AK (F:=F1) [(44,vP (some d8))] ⟨d9,trivial⟩
     exact AH rfl ((GE U5_ rfl rfl c5 (⟨(Keep.refl _ _),rfl⟩)))
    ·intro F1 w1 k1 hf hd
     have k0:=(Keep.drew [] a4).trans k1
     have m1:Mv a2 a4 a2 w1:=Mv.of_keep k0
     have a0:=a0.mv m1
     obtain ⟨F2,rfl⟩:=AK (F:=F1) [(0,xs_v)] ⟨hf 0 kR,trivial⟩
     exact AH rfl ((AE (xs_v) rfl (⟨(Keep.refl _ _),a0⟩)))
    ·intro F1 w1 k1 hf hd
     obtain ⟨F2,rfl⟩:=AK (F:=F1) [(11,vI ((k:Nat):Int))] ⟨hf 11 kR,trivial⟩
     exact AH rfl ((AE (vI ((k:Nat):Int)) rfl (⟨(Keep.refl _ _),rfl⟩)))
    ·intro F1 w1 k1 hf hd
     obtain ⟨e0,e1,b3⟩:∃ v,F1 46=v∧BB Enc.u8 w1 (a2++O) v (xs):=⟨_,rfl,hd 11 46 kR⟩
     have:=b3.len_le
     obtain ⟨F2,rfl⟩:=AK (F:=F1) [(46,e0),(47,vI ((k:Nat):Int))] ⟨e1,hd 12 47 kR,trivial⟩
     exact AH rfl ((CR U26_ IZ .i64 ((k:Nat):Int) k rfl rfl rfl b3 oM fun e2 c6=>(⟨(Keep.refl _ _),⟨e2,rfl,c6⟩⟩)))
    ·intro F1 w1 k1 hf hd
     obtain ⟨e3,e4,c7⟩:∃ aX_,F1 48 = .pointer (some aX_)∧PT Enc.u8 w1 (a2++O) (.pointer (some aX_)) (xs[k]!):=hd 13 48 kR
     obtain ⟨F2,rfl⟩:=AK (F:=F1) [(48,vP (some e3))] ⟨e4,trivial⟩
     exact AH rfl ((GE U5_ rfl rfl c7 (⟨(Keep.refl _ _),rfl⟩)))
    ·intro F1 w1 k1 hf hd
     obtain ⟨F2,rfl⟩:=AK (F:=F1) [(45,vB (xs[i]!)),(49,vB (xs[k]!))] ⟨hd 10 45 kR,hd 14 49 kR,trivial⟩
     exact AH rfl ((LJ (xs[i]!) (xs[k]!) rfl rfl (⟨(Keep.refl _ _),rfl⟩)))
    ·intro F1 w1 k1 hf hd
     have k0:=(Keep.drew [] a4).trans k1
     have s1:=b0.call k0
     obtain ⟨F2,rfl⟩:=AK (F:=F1) [(41,vB (at_ ^^^ (xs[k]!))),(50,vB ((xs[i]!) ^^^ (xs[k]!)))] ⟨hd 6 41 kR,hd 15 50 kR,trivial⟩
     refine AH rfl ((AZ (vs:=[vB (at_ ^^^ (xs[k]!)),vB ((xs[i]!) ^^^ (xs[k]!))]) enter_100 (c_refOver (O:=a2++O) (at_ ^^^ (xs[k]!)) ((xs[i]!) ^^^ (xs[k]!)) w1 s1.lt) rfl s1 fun g5 g6 g7 g8 e5 e6=>(?_)))
     obtain rfl:=e6
     exact ⟨e5,rfl⟩
    intro e7 b6 b7 a9 a3
    have b8:=b0.call b7
    have b9:Mv a2 a4 a2 b6:=Mv.of_keep b7
    have a0:=a0.mv b9
    have a1:=a1.mv b9
    obtain ⟨F2,rfl⟩:=AK (F:=e7) [(0,xs_v),(1,ys_v),(2,vB at_),(8,vB (IV xs ys at_ i)),(9,vI ((i:Nat):Int)),(10,vB (FO xs at_ i ys[i]! k)),(11,vI ((k:Nat):Int)),(57,undef),(35,vB (FO xs at_ i ys[i]! k)),(51,vB (HB (at_ ^^^ (xs[k]!)) ((xs[i]!) ^^^ (xs[k]!))))] ⟨a3 0 kR,a3 1 kR,a3 2 kR,a3 8 kR,a3 9 kR,a3 10 kR,a3 11 kR,a3 57 kR,a9 0 35 kR (by decide),a9 16 51 kR (by decide),trivial⟩
    clear a9 a3
    refine AA (AZ (vs:=[vB (FO xs at_ i ys[i]! k),vB (HB (at_ ^^^ (xs[k]!)) ((xs[i]!) ^^^ (xs[k]!)))]) PP (PJ (O:=a2++O) (FO xs at_ i ys[i]! k) (HB (at_ ^^^ (xs[k]!)) ((xs[i]!) ^^^ (xs[k]!))) b6 b8.lt) rfl b8 fun g9 h0 e8 c0 h1 e9=>(?_))
    obtain rfl:=e9
    have a0:=a0.mv c0
    have a1:=a1.mv c0
    refine AA (AD (vB (DX (FO xs at_ i ys[i]! k) (HB (at_ ^^^ (xs[k]!)) ((xs[i]!) ^^^ (xs[k]!))))) rfl (AG (CB (AB (AC kR (AA (AE (vI ((k:Nat):Int)) rfl (AA (DF .i64 ((k:Nat):Int) (1:Int) (((k+1:Nat):Int)) rfl rfl (GA oM oM) (AA (AD (vI ((k+1:Nat):Int)) rfl (AG (AB (?_))))))))))))))
    exact ⟨_,oM,(k+1),a2,oM,rfl,⟨_,AX _ ⟨rfl,rfl,rfl,rfl,rfl,(congrArg vB (by exact (refThN_yes aS).symm)),(by rfl),rfl,trivial⟩⟩,e8,a0,a1⟩
   have f8:((k:Nat):Int)=((i:Nat):Int):=by simpa using a8
   refine AR (CB (AB (AC kR (AA (AE (vI ((k:Nat):Int)) rfl (AA (DF .i64 ((k:Nat):Int) (1:Int) (((k+1:Nat):Int)) rfl rfl (GA oM oM) (AA (AD (vI ((k+1:Nat):Int)) rfl (AG (AB (?_))))))))))))
   exact ⟨_,oM,(k+1),a2,oM,rfl,⟨_,AX _ ⟨rfl,rfl,rfl,rfl,rfl,(congrArg vB (by exact (refThN_no aS).symm)),(by rfl),rfl,trivial⟩⟩,b0,a0,a1⟩
  have f9:(xs.length:Int)≤((k:Nat):Int):=by simpa using a7
  obtain rfl:k=xs.length:=by omega
  refine DA (BN (BN (CO (AB (AC kR (AA (AE (vB (IV xs ys at_ i)) rfl (AA (AE (vB (FO xs at_ i ys[i]! xs.length)) rfl (AA (LJ (IV xs ys at_ i) (FO xs at_ i ys[i]! xs.length) rfl rfl (AA (AD (vB ((IV xs ys at_ i) ^^^ (FO xs at_ i ys[i]! xs.length))) rfl (AG (CB (AB (AC kR (AA (AE (vI ((i:Nat):Int)) rfl (AA (DF .i64 ((i:Nat):Int) (1:Int) (((i+1:Nat):Int)) rfl rfl (GA oM oM) (AA (AD (vI ((i+1:Nat):Int)) rfl (AG (AB (?_))))))))))))))))))))))))))
  exact ⟨_,oM,(i+1),a2,oM,rfl,⟨_,AX _ ⟨rfl,rfl,rfl,(congrArg vB (by rfl)),(by rfl),rfl,trivial⟩⟩,b0,a0,a1⟩
 have g0:(xs.length:Int)≤((i:Nat):Int):=by simpa using a6
 obtain rfl:i=xs.length:=by omega
 refine DA (BN (BN (CO (AB (AF (AC kR (AA (AE (vB (IV xs ys at_ xs.length)) rfl (AA (AD (vB (IV xs ys at_ xs.length)) rfl (AA (AD (vI 0) rfl (AG (AB (AM (AS rfl (EJ rfl rfl rfl rfl) (?_)))))))))))))))))
 have e:(DU xs ys at_)=(IV xs ys at_ xs.length,(0:Int)):=by simp [DU, *]
 exact ⟨_,rfl,c8.keep,by rw [e];exact rfl⟩
set_option maxHeartbeats 4000000 in
set_option maxRecDepth 100000 in
theorem c_wrong {O:List Nat} (xs_v:Value) (xs:List UInt8) (ys_v:Value) (ys:List UInt8) (w:World) (a0:BB Enc.u8 w O xs_v xs) (a2:BB Enc.u8 w O ys_v ys) (hO:∀ b∈O,b<w.heap.size):CA Tryz.prog 105 [xs_v,ys_v] w (fun v _=>v = .bool (GJ xs ys)):= by
 have c9:=a0.len_le
 have a0:BB Enc.u8 w ([]++O) xs_v xs:=a0
 have d0:=a2.len_le
 have a2:BB Enc.u8 w ([]++O) ys_v ys:=a2
 have s0:St w O w []:=St.start hO
 refine BE 26 Tryz.func105 rfl rfl oT (fun F0=>AF (AC kR (AA (AD (vO false) rfl (AG (AB (AF (AC kR (AA (YF s0 fun a4 d8 b8 b9 b0 d9 a5=>(?_)))))))))))
 clear b8
 have a0:=a0.mv b0
 have a2:=a2.mv b0
 refine AA (CZ [.map none] z_121 rfl b9 fun a3 e0 c0 c1 b1 c2 b5=>(?_))
 have a9:HD a4 a3:=by show a4≠a3;have:=a5.lt;omega
 clear c0
 have a0:=a0.mv b1
 have a2:=a2.mv b1
 have a5:=a5.keep c2 (by simp)
 refine CC (CN (Value.map (some a4)) rfl rfl rfl s_121 (by repeat (constructor)) b5 oT c1 fun e1 b2 b3 c3 a1=>(?_))
 have a0:=a0.mv b3
 have a2:=a2.mv b3
 have a5:=a5.keep c3 (BH a9)
 refine AG (AB (AF (AC kR (AA (DV (first:=[]) (captured:=[.tmp 5]) [] [vP (some ⟨a3,0,none⟩)] rfl rfl (AA (AD (vN (.func 111) #[] #[vP (some ⟨a3,0,none⟩)]) rfl (AG (AB (AF (AF (AC kR (AA (AE (xs_v) rfl (AA (BP U26_ rfl a0 (AA (AE (ys_v) rfl (AA (BP U26_ rfl a2 (AA (CM .i64 (xs.length:Int) (ys.length:Int) rfl rfl (AG (AB (AJ ((xs.length:Int) != (ys.length:Int)) rfl rfl (fun a6=>?_) (fun a6=>?_))))))))))))))))))))))))))
 ·have d2:(xs.length:Int)≠(ys.length:Int):=by simpa using a6
  refine AF (AC kR (AA (AD (vO true) rfl (AG (AB (AM (AI (AS rfl (BZ rfl rfl rfl) (?_)))))))))
  have e:(GJ xs ys)=true:=by simp [GJ, *]
  exact ⟨_,rfl,b2.keep,(by exact congrArg vO e.symm)⟩
 have d3:(xs.length:Int)=(ys.length:Int):=by simpa using a6
 refine AR (AB (AF (AF (AC kR (AA (AE (xs_v) rfl (AA (BP U26_ rfl a0 (AA (AE (vI 0) rfl (AG (AB (BD (DB (fun mI FI wI=>∃ (k:Nat) (B:List Nat),k≤xs.length∧twice xs xs.length=EW (fun k=>if (xs.take k).contains xs[k]! then some true else none) false k (xs.length - k)∧mI=xs.length - k∧(∃ F1,FI=GD F1 [(6,vN (.func 111) #[] #[vP (some ⟨a3,0,none⟩)]),(16,xs_v),(17,vI (xs.length:Int)),(18,vI ((k:Nat):Int)),(26,undef)])∧St w O wI B∧BB Enc.u8 wI (B++O) (xs_v) (xs)∧XG wI a4 (xs.take k)∧a4∈B∧IX wI a3 121 [Value.map (some a4)]∧a3∈B) (xs.length - (0)) ?_ ?_))))))))))))))
 ·exact ⟨(0),(a3 :: (a4 :: [])),oM,rfl,rfl,⟨_,AX _ ⟨rfl,rfl,rfl,(by rfl),rfl,trivial⟩⟩,b2,a0,(by rw [show xs.take (0)=[] from rfl];exact a5),(by (repeat (first|exact List.mem_cons_self|apply List.mem_cons_of_mem))),a1,(by (repeat (exact List.mem_cons_self)))⟩
 intro e5 F e6 hI
 clear a0 a1
 obtain ⟨k,d1,hr0_0,hr0_1,e7,⟨e8,rfl⟩,b4,a0,hbx_0_b268,c4,a1,c5⟩:=hI
 refine AF (AC kR (AA (DQ .i64 ((k:Nat):Int) (xs.length:Int) rfl rfl (AG (AB (AF (AJ (decide (((k:Nat):Int)<(xs.length:Int))) rfl rfl (fun a7=>?_) (fun a7=>?_))))))))
 ·have d4:((k:Nat):Int)<(xs.length:Int):=by simpa using a7
  refine AR (AB (AF (BD (AF (AC kR (AA (CR U26_ IZ .i64 ((k:Nat):Int) k rfl rfl rfl a0 oM fun e2 b6=>(AA (GE U5_ rfl rfl b6 (AA (AD (vB (xs[k]!)) rfl (AG (AB (AF (AC kR (AA (AE (vN (.func 111) #[] #[vP (some ⟨a3,0,none⟩)]) rfl (AA (AE (vB (xs[k]!)) rfl (AA (o_callv [] [vP (some ⟨a3,0,none⟩)] [vB (xs[k]!)] _ enter_111 rfl rfl (CE 9 Tryz.func111 rfl rfl oT (fun e3=>AF (AC kR (AA (AD (vO false) rfl (AG (AB (AF (AF (AC kR (AA (AU U121_ rfl (Value.map (some a4)) rfl a1 rfl (AA (AE (vB (xs[k]!)) rfl (AA (o_lookupB U121_ U5_ z_4 rfl rfl hbx_0_b268 (AG (AB (AJ ((xs.take k).contains (xs[k]!)) rfl rfl (fun a8=>?_) (fun a8=>?_)))))))))))))))))))) (fun _ _ h=>h))))))))))))))))))))))
  ·have d5:((xs.take k).contains (xs[k]!))=true:=by simpa using a8
   refine AF (AC kR (AA (AD (vO true) rfl (AG (AB (AM (AI (AS rfl (BZ rfl rfl rfl) (Exists.intro _ (And.intro rfl (AG (AB (AJ true rfl rfl (fun _=>AF (AC kR (AA (AD (vO true) rfl (AG (AB (AM (BC (AI (AI (BC (AI (AS rfl (BZ rfl rfl rfl) (?_)))))))))))))) (fun h=>by cases h))))))))))))))
   have e:(GJ xs ys)=true:=by simp only [GJ];rw [if_neg (by simpa using by assumption),hr0_1];exact CP oM (by simp_all)
   exact ⟨_,rfl,b4.keep,(by exact congrArg vO e.symm)⟩
  have d6:((xs.take k).contains (xs[k]!))=false:=by simpa using a8
  refine AR (AB (AF (AC kR (AA (AU U121_ rfl (Value.map (some a4)) rfl a1 rfl (AA (AE (vB (xs[k]!)) rfl (CC (o_updateB U121_ U5_ rfl rfl rfl aS hbx_0_b268 (by repeat (assumption)) b4 fun e4 c6 c7 c8 b7=>(?_))))))))))
  have a0:=a0.mv c7
  have a1:=a1.keep c8 (BH (Ne.symm a9))
  refine AG (AB (AF (AC kR (AA (AD (vO false) rfl (AG (AB (AM (AS rfl (BZ rfl rfl rfl) (Exists.intro _ (And.intro rfl (AG (AB (AJ false rfl rfl (fun h=>by cases h) (fun _=>AR (CB (AB (AC kR (AA (DF .i64 ((k:Nat):Int) (1:Int) (((k+1:Nat):Int)) rfl rfl (GA oM oM) (AA (AE (vI ((k+1:Nat):Int)) rfl (AG (AB (?_)))))))))))))))))))))))))
  exact ⟨_,oM,(k+1),d1,oM,(hr0_1.trans (EP oM (by simp_all))),rfl,⟨_,AX _ ⟨rfl,rfl,rfl,(by rfl),rfl,trivial⟩⟩,c6,a0,(by rw [show xs.take (k+1)=(xs.take k)++[xs[k]!] from YS oM];exact b7),aS,a1,aS⟩
 have d7:(xs.length:Int)≤((k:Nat):Int):=by simpa using a7
 refine DA (BN (BN (CO (AB (AF (AC kR (AA (AD (vO false) rfl (AG (AB (AM (AS rfl (BZ rfl rfl rfl) (?_)))))))))))))
 have e:(GJ xs ys)=false:=by simp only [GJ];rw [if_neg (by simpa using by assumption),hr0_1];exact FS oM
 exact ⟨_,rfl,b4.keep,(by exact congrArg vO e.symm)⟩
set_option maxHeartbeats 4000000 in
set_option maxRecDepth 100000 in
theorem c_zeros {O:List Nat} (xs_v:Value) (xs:List UInt8) (w:World) (a0:BB Enc.u8 w O xs_v xs) (hpre0:xs.length<1000000) (hO:∀ b∈O,b<w.heap.size):CA Tryz.prog 106 [xs_v] w (fun v w'=>∃ (x0:Value),v=x0∧BB Enc.u8 w' (O) x0 (BG xs)):= by
 have f4:=a0.len_le
 have a0:BB Enc.u8 w ([]++O) xs_v xs:=a0
 have s0:St w O w []:=St.start hO
 refine BE 53 Tryz.func106 rfl rfl oT (fun F0=>AF (AC kR (AA (AD (nS) rfl (AG (AB (AF (AC kR (AA (AE (xs_v) rfl (AA (BP U26_ rfl a0 (AA (DF .i64 (xs.length:Int) (1:Int) (((xs.length+1:Nat):Int)) rfl rfl (GA oM oM) (AA (WO (E:=Enc.u8) U26_ i_5 [vB (0:UInt8)] rfl rfl (by decide) (0:UInt8) (fun _ _=>rfl) .i64 .i64 (1:Int) ((xs.length+1:Nat):Int) 1 (xs.length+1) rfl rfl rfl rfl oM oM (by simp only [maxLen];omega) s0 fun a6 c0 g4 d5 b2 d6 d7 g5 b3=>(?_)))))))))))))))))
 have b4:∀ b,a6.ownBlock=some b→b∈(c0 :: []):=fun b hb=>by rw [b2] at hb;cases hb;simp
 clear d5 b2
 have a0:=a0.mv d7
 refine AA (AD (a6) rfl (AG (AB (AF (AC kR (AA (AE (a6) rfl (AA (GB U26_ IZ .i64 (0:Int) 0 rfl rfl rfl b3 (by (simp only [List.length_set,List.length_append,List.length_cons,List.length_nil,List.length_replicate,HY,GG];omega)) fun g6 b5=>(CC (MF (1:UInt8) IZ rfl rfl rfl b3 b5 (b4 _ b5) (by (simp only [List.length_set,List.length_append,List.length_cons,List.length_nil,List.length_replicate,HY,GG];omega)) rfl d6 fun g7 d8 d9 g8 c7=>(?_))))))))))))
 have a0:=a0.mv d9
 refine AG (AB (AF (AF (AC kR (AA (AE (xs_v) rfl (AA (BP U26_ rfl a0 (AA (AE (vI 0) rfl (AG (AB (BD (DB (fun mI FI wI=>∃ (i:Nat) (a3:Value) (B:List Nat),i≤xs.length∧mI=xs.length - i∧(∃ F1,FI=GD F1 [(3,a3),(13,xs_v),(14,vI (xs.length:Int)),(15,vI ((i:Nat):Int)),(53,undef)])∧St w O wI B∧EX Enc.u8 5 w.heap.size (B++O) wI a3 (JP xs i)∧(∀ b,a3.ownBlock=some b→b∈B)∧BB Enc.u8 wI (B++O) (xs_v) (xs)) (xs.length - (0)) ?_ ?_))))))))))))))
 ·exact ⟨(0),a6,(c0 :: []),oM,rfl,⟨_,AX _ ⟨rfl,rfl,rfl,(by rfl),rfl,trivial⟩⟩,d8,(by rw [show JP xs (0)=(List.replicate 1 (0:UInt8)).set 0 (1:UInt8) from rfl];exact c7),b4,a0⟩
 intro i4 F i5 hI
 clear a0
 obtain ⟨i,a3,i6,hr0_0,i7,⟨i8,rfl⟩,c1,ho0_3,c8,a0⟩:=hI
 refine AF (AC kR (AA (DQ .i64 ((i:Nat):Int) (xs.length:Int) rfl rfl (AG (AB (AF (AJ (decide (((i:Nat):Int)<(xs.length:Int))) rfl rfl (fun a7=>?_) (fun a7=>?_))))))))
 ·have f7:((i:Nat):Int)<(xs.length:Int):=by simpa using a7
  refine AR (AB (AF (BD (AF (AC kR (AA (CR U26_ IZ .i64 ((i:Nat):Int) i rfl rfl rfl a0 oM fun g9 c9=>(AA (GE U5_ rfl rfl c9 (AA (AD (vB (xs[i]!)) rfl (AG (AB (AF (AC kR (AA (AE (a3) rfl (AA (JG (E:=Enc.u8) (xs:=[.const (vB (0:UInt8))]) U26_ IZ z_5 (by decide) [vB (0:UInt8)] [[vB (0:UInt8)]] [(0:UInt8)] rfl rfl rfl (Parts.cons rfl rfl (Parts.nil _ _ _)) oT c1 fun h0 h1 e0 c2 e1 b6=>(?_))))))))))))))))))))
  have ho0_3:=ho0_3.mv c2 e1 (by simp)
  have a0:=a0.mv c2
  have:=b6.len_le
  refine AA (DS (E:=Enc.u8) (l:=JP xs i) (m:=[(0:UInt8)]) U26_ i_5 rfl (by decide) rfl rfl ho0_3 b6 (fun _ hb=>.inl hb) c8 (by simp [GG];omega) (by simp [GG,maxLen];omega) e0 fun b0 h2 e2 d0 f8 f5 e3 e4 h3 b7=>(?_))
  have a0:=a0.mv e4
  refine AA (AD (b0) rfl (AG (AB (AF (AC kR (AA (AE (b0) rfl (AA (VH U26_ rfl b7 (AA (HK .i64 (((JP xs i)++([(0:UInt8)])).length:Int) (1:Int) (((i+1:Nat):Int)) rfl rfl (GA oM (by simp [GG])) (AA (AD (vI ((i+1:Nat):Int)) rfl (AG (AB (BD (?_)))))))))))))))))
  have hzl:(JP xs i++[0]).length=i+2:=by simp [GG]
  refine DB (fun mI FI wI=>∃ (k:Nat) (a1:Value) (B:List Nat),k≤i+2∧mI=k∧(∃ F1,FI=GD F1 [(3,a1),(5,vB (xs[i]!)),(6,vI ((k:Int) - 1)),(13,xs_v),(14,vI (xs.length:Int)),(15,vI ((i:Nat):Int)),(53,undef)])∧St w O wI B∧EX Enc.u8 5 w.heap.size (B++O) wI a1 (MB (JP xs i++[0]) xs[i]! (i+2 - k))∧(∀ b,a1.ownBlock=some b→b∈B)∧BB Enc.u8 wI (B++O) (xs_v) (xs)) ((i+2)) ?_ ?_
  ·exact ⟨(i+2),b0,e2,oM,rfl,⟨_,AX _ ⟨rfl,rfl,(by exact congrArg (Value.int _) oM),rfl,rfl,rfl,rfl,trivial⟩⟩,e3,(by rw [show MB (JP xs i++[0]) xs[i]! (i+2 - (i+2))=(JP xs i)++([(0:UInt8)]) from by rw [Nat.sub_self];rfl];exact b7),d0,a0⟩
  intro i9 F f6 hI
  clear a0
  obtain ⟨k,a1,a5,hr1_0,j0,⟨j1,rfl⟩,c3,ho1_3,a4,a0⟩:=hI
  refine AF (AF (AC kR (AA (AE (vI ((k:Int) - 1)) rfl (AA (JZ .i64 ((k:Int) - 1) (0:Int) rfl rfl (AG (AB (AJ (decide ((0:Int)≤(k:Int) - 1)) rfl rfl (fun a8=>?_) (fun a8=>?_))))))))))
  ·have f9:(0:Int)≤(k:Int) - 1:=by simpa using a8
   obtain ⟨q,rfl⟩:∃ q,k=q+1:=⟨k - 1,by omega⟩
   rw [show ((q+1:Nat):Int) - 1=((q:Nat):Int) from by omega]
   refine AR (AB (AF (BD (AF (AC kR (AA (AE (a1) rfl (AA (AE (vI ((q:Nat):Int)) rfl (AA (AE (a1) rfl (AA (AE (vI ((q:Nat):Int)) rfl (AA (GB U26_ IZ .i64 ((q:Nat):Int) q rfl rfl rfl ho1_3 (by (simp only [List.length_set,List.length_append,List.length_cons,List.length_nil,List.length_replicate,HY,GG];omega)) fun h4 d1=>(AA (NT U5_ rfl rfl ho1_3 d1 (by (simp only [List.length_set,List.length_append,List.length_cons,List.length_nil,List.length_replicate,HY,GG];omega)) (AA (AE (vB (xs[i]!)) rfl (AA (AZ (vs:=[vB ((MB (JP xs i++[0]) xs[i]! (i+2 - (q+1)))[q]!),vB (xs[i]!)]) NI (XO (O:=a5++O) ((MB (JP xs i++[0]) xs[i]! (i+2 - (q+1)))[q]!) (xs[i]!) f6 c3.lt) rfl c3 fun h5 h6 e5 c4 e6 e7=>(?_))))))))))))))))))))))
   obtain rfl:=e7
   have ho1_3:=ho1_3.mv c4 e6 (by simp)
   have a0:=a0.mv c4
   refine AA (GB U26_ IZ .i64 ((q:Nat):Int) q rfl rfl rfl ho1_3 (by (simp only [List.length_set,List.length_append,List.length_cons,List.length_nil,List.length_replicate,HY,GG];omega)) fun h7 b8=>(CC (MF (BR ((MB (JP xs i++[0]) xs[i]! (i+2 - (q+1)))[q]!) (xs[i]!)) IZ rfl rfl rfl ho1_3 b8 (a4 _ b8) (by (simp only [List.length_set,List.length_append,List.length_cons,List.length_nil,List.length_replicate,HY,GG];omega)) rfl e5 fun e8 c5 e9 h8 a2=>(?_))))
   have a0:=a0.mv e9
   refine AG (AB (AF (AC kR (AA (AE (vI ((q:Nat):Int)) rfl (AA (FN .i64 ((q:Nat):Int) (0:Int) rfl rfl (AG (AB (AJ (decide ((0:Int)<((q:Nat):Int))) rfl rfl (fun a9=>?_) (fun a9=>?_)))))))))))
   ·have g0:(0:Int)<((q:Nat):Int):=by simpa using a9
    refine FK 11 _ _ kR kR kR kR kR rfl rfl fun f0 b1=>?_
    have f1:=c5.call b1
    have c6:Mv a5 e8 a5 f0:=Mv.of_keep b1
    have a2:=a2.mv c6 b1 (by simp)
    have a0:=a0.mv c6
    refine BU (AE (a1) rfl (BU (AE (vI ((q:Nat):Int)) rfl (BU (GB U26_ IZ .i64 ((q:Nat):Int) q rfl rfl rfl a2 (by (simp only [List.length_set,List.length_append,List.length_cons,List.length_nil,List.length_replicate,HY,GG];omega)) fun h9 d2=>(BU (NT U5_ rfl rfl a2 d2 (by (simp only [List.length_set,List.length_append,List.length_cons,List.length_nil,List.length_replicate,HY,GG];omega)) (BU (AE (a1) rfl (BU (AE (vI ((q:Nat):Int)) rfl (BU (HK .i64 ((q:Nat):Int) (1:Int) (((q - 1:Nat):Int)) rfl rfl (GA oM oM) (BU (GB U26_ IZ .i64 ((q - 1:Nat):Int) (q - 1) rfl rfl rfl a2 (by (simp only [List.length_set,List.length_append,List.length_cons,List.length_nil,List.length_replicate,HY,GG];omega)) fun i0 d3=>(BU (NT U5_ rfl rfl a2 d3 (by (simp only [List.length_set,List.length_append,List.length_cons,List.length_nil,List.length_replicate,HY,GG];omega)) (BU (LJ (((MB (JP xs i++[0]) xs[i]! (i+2 - (q+1))).set q (BR ((MB (JP xs i++[0]) xs[i]! (i+2 - (q+1)))[q]!) (xs[i]!)))[q]!) (((MB (JP xs i++[0]) xs[i]! (i+2 - (q+1))).set q (BR ((MB (JP xs i++[0]) xs[i]! (i+2 - (q+1)))[q]!) (xs[i]!)))[q - 1]!) rfl rfl (BU (GB U26_ IZ .i64 ((q:Nat):Int) q rfl rfl rfl a2 (by (simp only [List.length_set,List.length_append,List.length_cons,List.length_nil,List.length_replicate,HY,GG];omega)) fun i1 b9=>(EO (CC (MF ((((MB (JP xs i++[0]) xs[i]! (i+2 - (q+1))).set q (BR ((MB (JP xs i++[0]) xs[i]! (i+2 - (q+1)))[q]!) (xs[i]!)))[q]!) ^^^ (((MB (JP xs i++[0]) xs[i]! (i+2 - (q+1))).set q (BR ((MB (JP xs i++[0]) xs[i]! (i+2 - (q+1)))[q]!) (xs[i]!)))[q - 1]!)) IZ rfl rfl rfl a2 b9 (a4 _ b9) (by (simp only [List.length_set,List.length_append,List.length_cons,List.length_nil,List.length_replicate,HY,GG];omega)) rfl f1 fun i2 f2 f3 i3 d4=>(?_)))))))))))))))))))))))))
    have a0:=a0.mv f3
    refine AG (CB (AB (AC kR (AA (AE (vI ((q:Nat):Int)) rfl (AA (HK .i64 ((q:Nat):Int) (1:Int) (((q:Nat):Int) - (1:Int)) rfl rfl (GA oM oM) (AA (AD (vI (((q:Nat):Int) - (1:Int))) rfl (AG (AB (?_))))))))))))
    exact ⟨_,oM,(q),a1,a5,oM,rfl,⟨_,AX _ ⟨rfl,rfl,(by rfl),rfl,rfl,rfl,rfl,trivial⟩⟩,f2,(by rw [show MB (JP xs i++[0]) xs[i]! (i+2 - (q))=((MB (JP xs i++[0]) xs[i]! (i+2 - (q+1))).set q (BR ((MB (JP xs i++[0]) xs[i]! (i+2 - (q+1)))[q]!) (xs[i]!))).set q ((((MB (JP xs i++[0]) xs[i]! (i+2 - (q+1))).set q (BR ((MB (JP xs i++[0]) xs[i]! (i+2 - (q+1)))[q]!) (xs[i]!)))[q]!) ^^^ (((MB (JP xs i++[0]) xs[i]! (i+2 - (q+1))).set q (BR ((MB (JP xs i++[0]) xs[i]! (i+2 - (q+1)))[q]!) (xs[i]!)))[q - 1]!)) from by exact zrS_pos hzl.symm oM aS];exact d4),a4,a0⟩
   have g1:((q:Nat):Int)≤(0:Int):=by simpa using a9
   refine AR (CB (AB (AC kR (AA (AE (vI ((q:Nat):Int)) rfl (AA (HK .i64 ((q:Nat):Int) (1:Int) (((q:Nat):Int) - (1:Int)) rfl rfl (GA oM oM) (AA (AD (vI (((q:Nat):Int) - (1:Int))) rfl (AG (AB (?_))))))))))))
   exact ⟨_,oM,(q),a1,a5,oM,rfl,⟨_,AX _ ⟨rfl,rfl,(by rfl),rfl,rfl,rfl,rfl,trivial⟩⟩,c5,(by rw [show MB (JP xs i++[0]) xs[i]! (i+2 - (q))=(MB (JP xs i++[0]) xs[i]! (i+2 - (q+1))).set q (BR ((MB (JP xs i++[0]) xs[i]! (i+2 - (q+1)))[q]!) (xs[i]!)) from by exact zrS_zero hzl.symm oM aS];exact a2),a4,a0⟩
  have g2:(k:Int) - 1<(0:Int):=by (have e:=a8;simp at e;omega)
  obtain rfl:k=0:=by omega
  refine DA (BN (BN (CO (CB (AB (AC kR (AA (DF .i64 ((i:Nat):Int) (1:Int) (((i+1:Nat):Int)) rfl rfl (GA oM oM) (AA (AE (vI ((i+1:Nat):Int)) rfl (AG (AB (?_)))))))))))))
  exact ⟨_,oM,(i+1),a1,a5,oM,rfl,⟨_,AX _ ⟨rfl,rfl,rfl,(by rfl),rfl,trivial⟩⟩,c3,(by rw [show JP xs (i+1)=MB (JP xs i++[0]) xs[i]! (i+2 - 0) from by rw [Nat.sub_zero,JP,hzl]];exact ho1_3),a4,a0⟩
 have g3:(xs.length:Int)≤((i:Nat):Int):=by simpa using a7
 obtain rfl:i=xs.length:=by omega
 refine DA (BN (BN (CO (AB (AF (AC kR (AA (AE (a3) rfl (AA (AD (a3) rfl (AG (AB (AM (AS rfl (BZ rfl rfl rfl) (?_)))))))))))))))
 have e:(BG xs)=(JP xs xs.length):=rfl
 exact ⟨_,rfl,c1.keep,by rw [e];exact ⟨a3,rfl,ho0_3.pub c1⟩⟩
open Go.Fw Go.RowKit
set_option maxHeartbeats 4000000 in
set_option maxRecDepth 100000 in
theorem c_coeff {O:List Nat} (xs_v:Value) (xs:List UInt8) (ys_v:Value) (ys:List UInt8) (w:World) (a1:BB Enc.u8 w O xs_v xs) (a2:BB Enc.u8 w O ys_v ys) (hpre0:xs.length<1000000) (hO:∀ b∈O,b<w.heap.size):CA Tryz.prog 89 [xs_v,ys_v] w (fun v w'=>∃ (x0:Value),v = .tuple #[x0,vI ((FD xs ys).2)]∧BB Enc.u8 w' (O) x0 ((FD xs ys).1)):= by
 have l8:=a1.len_le
 have a1:BB Enc.u8 w ([]++O) xs_v xs:=a1
 have l9:=a2.len_le
 have a2:BB Enc.u8 w ([]++O) ys_v ys:=a2
 have s0:St w O w []:=St.start hO
 have hzl:=GR xs
 refine BE 81 Tryz.func89 rfl rfl oT (fun F0=>AF (AC kR (AA (AD (.slice none 0 0) rfl (AA (AD (vI 0) rfl (AG (AB (AF (AF (AC kR (AA (AE (xs_v) rfl (AA (AE (ys_v) rfl (AA (AZ (vs:=[xs_v,ys_v]) enter_105 (c_wrong (O:=[]++O) xs_v xs ys_v ys w a1 a2 s0.lt) rfl s0 fun n3 h2 e5 f1 n4 h3=>(?_))))))))))))))))))
 obtain rfl:=h3
 have a1:=a1.mv f1
 have a2:=a2.mv f1
 refine AG (AB (AJ (GJ xs ys) rfl rfl (fun b9=>?_) (fun b9=>?_)))
 ·have m2:(GJ xs ys)=true:=by simpa using b9
  refine AF (AC kR (AA (AD (.slice none 0 0) rfl (AA (AD (vI 1) rfl (AG (AB (AM (AI (AS rfl (EJ rfl rfl rfl rfl) (?_)))))))))))
  have e:(FD xs ys)=([],(1:Int)):=by simp [FD, *]
  exact ⟨_,rfl,e5.keep,by rw [e];exact ⟨.slice none 0 0,rfl,BB.nil _ _ _⟩⟩
 have m3:(GJ xs ys)=false:=by simpa using b9
 have hxy:=wrongM_len (by simpa using b9)
 refine AR (AB (AF (AC kR (AA (AE (xs_v) rfl (AA (BP U26_ rfl a1 (AA (AD (vI (xs.length:Int)) rfl (AG (AB (AF (AC kR (AA (AE (xs_v) rfl (AA (AZ (vs:=[xs_v]) enter_106 (c_zeros (O:=[]++O) xs_v xs h2 a1 oM e5.lt) rfl e5 fun b0 n5 h4 f2 n6 h5=>(?_))))))))))))))))))
 obtain ⟨_,rfl,a0⟩:=h5
 have:=a0.len_le
 have a1:=a1.mv f2
 have a2:=a2.mv f2
 refine AA (AD (b0) rfl (AG (AB (AF (AC kR (AA (AE (vI (xs.length:Int)) rfl (AA (WO (E:=Enc.u8) U26_ i_5 [vB (0:UInt8)] rfl rfl (by decide) (0:UInt8) (fun _ _=>rfl) .i64 .i64 (xs.length:Int) (xs.length:Int) xs.length xs.length rfl rfl rfl rfl oM oM (by simp only [maxLen];omega) h4 fun b8 c6 n7 h6 e8 h7 e6 n9 c0=>(?_))))))))))
 have c7:∀ b,b8.ownBlock=some b→b∈(c6 :: []):=fun b hb=>by rw [e8] at hb;cases hb;simp
 clear h6 e8
 have a1:=a1.mv e6
 have a2:=a2.mv e6
 have a0:=a0.mv e6
 refine AA (AD (b8) rfl (AG (AB (AF (AC kR (AA (AE (vI (xs.length:Int)) rfl (AA (WO (E:=Enc.u8) U26_ i_5 [vB (0:UInt8)] rfl rfl (by decide) (0:UInt8) (fun _ _=>rfl) .i64 .i64 (xs.length:Int) (xs.length:Int) xs.length xs.length rfl rfl rfl rfl oM oM (by simp only [maxLen];omega) h7 fun c1 e7 o0 h8 c8 h9 c9 i0 f8=>(?_))))))))))
 have d0:∀ b,b8.ownBlock=some b→c1.ownBlock≠some b:=fun b hb=>by have:=(c0.lt b hb).2;rw [c8];intro e;cases e;omega
 have ne414':∀ b,c1.ownBlock=some b→b8.ownBlock≠some b:=fun b hb e=>d0 b e hb
 have f9:∀ b,c1.ownBlock=some b→b∈(e7 :: (c6 :: [])):=fun b hb=>by rw [c8] at hb;cases hb;simp
 clear h8 c8
 have c7:∀ b,b8.ownBlock=some b→b∈(e7 :: (c6 :: [])):=fun b hb=>List.mem_cons_of_mem _ (c7 b hb)
 have a1:=a1.mv c9
 have a2:=a2.mv c9
 have c0:=c0.mv c9 i0 (by simp)
 have a0:=a0.mv c9
 refine AA (AD (c1) rfl (AG (AB (AF (AF (AC kR (AA (AE (xs_v) rfl (AA (BP U26_ rfl a1 (AA (AE (vI 0) rfl (AG (AB (BD (DB (fun mI FI wI=>∃ (i:Nat) (a4:Value) (b2:Value) (B:List Nat),i≤xs.length∧mI=xs.length - i∧(∃ F1,FI=GD F1 [(1,ys_v),(4,a4),(6,vI (xs.length:Int)),(7,b0),(8,b2),(26,xs_v),(27,vI (xs.length:Int)),(28,vI ((i:Nat):Int)),(81,undef)])∧St w O wI B∧EX Enc.u8 5 w.heap.size (B++O) wI a4 (QQ (BG xs) xs ys xs.length i)∧(∀ b,a4.ownBlock=some b→b∈B)∧EX Enc.u8 5 w.heap.size (B++O) wI b2 (IJ (BG xs) xs xs.length i)∧(∀ b,b2.ownBlock=some b→b∈B)∧BB Enc.u8 wI (B++O) (ys_v) (ys)∧BB Enc.u8 wI (B++O) (b0) (BG xs)∧BB Enc.u8 wI (B++O) (xs_v) (xs)∧(∀ b,a4.ownBlock=some b→b2.ownBlock≠some b)∧(∀ b,b2.ownBlock=some b→a4.ownBlock≠some b)) (xs.length - (0)) ?_ ?_))))))))))))))))
 ·exact ⟨(0),b8,c1,(e7 :: (c6 :: [])),oM,rfl,⟨_,AX _ ⟨rfl,rfl,rfl,rfl,rfl,rfl,rfl,(by rfl),rfl,trivial⟩⟩,h9,(by rw [show QQ (BG xs) xs ys xs.length (0)=List.replicate xs.length (0:UInt8) from rfl];exact c0),c7,(by rw [show IJ (BG xs) xs xs.length (0)=List.replicate xs.length (0:UInt8) from rfl];exact f8),f9,a2,a0,a1,d0,(fun b hb e=>d0 b e hb)⟩
 intro q6 F q7 hI
 clear a2 a0 a1
 obtain ⟨i,a4,b2,m0,hr0_0,q8,⟨q9,rfl⟩,f3,ho0_4,b6,ho0_8,g0,a2,a0,a1,nn0_4_8,nn0_8_4⟩:=hI
 refine AF (AC kR (AA (DQ .i64 ((i:Nat):Int) (xs.length:Int) rfl rfl (AG (AB (AF (AJ (decide (((i:Nat):Int)<(xs.length:Int))) rfl rfl (fun d1=>?_) (fun d1=>?_))))))))
 ·have m4:((i:Nat):Int)<(xs.length:Int):=by simpa using d1
  refine AR (AB (AF (BD (AF (AC kR (AA (AE (vI ((i:Nat):Int)) rfl (AA (CR U26_ IZ .i64 ((i:Nat):Int) i rfl rfl rfl a1 oM fun o1 g1=>(AA (GE U5_ rfl rfl g1 (AA (AD (vI ((i:Nat):Int)) rfl (AA (AD (vB (xs[i]!)) rfl (AG (AB (AF (AC kR (AA (AD (vB (0:UInt8)) rfl (AG (AB (AF (AF (AC kR (AA (AE (vI (xs.length:Int)) rfl (AA (HK .i64 (xs.length:Int) (1:Int) ((xs.length:Int) - (1:Int)) rfl rfl (GA oM oM) (AA (AD (vI ((xs.length:Int) - (1:Int))) rfl (AG (AB (BD (DB (fun mI FI wI=>∃ (k:Nat) (a3:Value) (B:List Nat),k≤xs.length∧mI=k∧(∃ F1,FI=GD F1 [(1,ys_v),(4,a4),(6,vI (xs.length:Int)),(7,b0),(8,a3),(9,vI ((i:Nat):Int)),(10,vB (xs[i]!)),(11,vB (UN (BG xs) xs[i]! xs.length (xs.length - k))),(12,vI ((k:Int) - 1)),(26,xs_v),(27,vI (xs.length:Int)),(28,vI ((i:Nat):Int)),(81,undef)])∧St w O wI B∧EX Enc.u8 5 w.heap.size (B++O) wI a3 (JB (IJ (BG xs) xs xs.length i) (BG xs) xs[i]! xs.length (xs.length - k))∧(∀ b,a3.ownBlock=some b→b∈B)∧BB Enc.u8 wI (B++O) (ys_v) (ys)∧EX Enc.u8 5 w.heap.size (B++O) wI a4 (QQ (BG xs) xs ys xs.length i)∧(∀ b,a4.ownBlock=some b→b∈B)∧BB Enc.u8 wI (B++O) (b0) (BG xs)∧BB Enc.u8 wI (B++O) (xs_v) (xs)∧(∀ b,a3.ownBlock=some b→a4.ownBlock≠some b)∧(∀ b,a4.ownBlock=some b→a3.ownBlock≠some b)) ((xs.length)) ?_ ?_))))))))))))))))))))))))))))))))))))
  ·exact ⟨(xs.length),b2,m0,oM,rfl,⟨_,AX _ ⟨rfl,rfl,rfl,rfl,rfl,rfl,rfl,(congrArg vB (by rw [Nat.sub_self];rfl)),(by rfl),rfl,rfl,rfl,rfl,trivial⟩⟩,f3,(by rw [show JB (IJ (BG xs) xs xs.length i) (BG xs) xs[i]! xs.length (xs.length - (xs.length))=IJ (BG xs) xs xs.length i from by rw [Nat.sub_self];rfl];exact ho0_8),g0,a2,ho0_4,b6,a0,a1,nn0_8_4,nn0_4_8⟩
  intro r0 F b4 hI
  clear a2 ho0_4 b6 a0 a1
  obtain ⟨k,a3,a7,hr1_0,r4,⟨r5,rfl⟩,e4,ho1_8,b3,a2,ho0_4,b6,a0,a1,no1_8_vo0_4,np1_8_vo0_4⟩:=hI
  refine AF (AF (AC kR (AA (AE (vI ((k:Int) - 1)) rfl (AA (JZ .i64 ((k:Int) - 1) (0:Int) rfl rfl (AG (AB (AJ (decide ((0:Int)≤(k:Int) - 1)) rfl rfl (fun d2=>?_) (fun d2=>?_))))))))))
  ·have m5:(0:Int)≤(k:Int) - 1:=by simpa using d2
   obtain ⟨q,rfl⟩:∃ q,k=q+1:=⟨k - 1,by omega⟩
   rw [show ((q+1:Nat):Int) - 1=((q:Nat):Int) from by omega]
   refine AR (AB (AF (BD (AF (cw_draw' 8 _ _ [fun (vT:Value) (wT:World)=>BB Enc.u8 wT (a7++O) vT (BG xs),CQ (vI ((q:Nat):Int)),CQ (vI ((q+1:Nat):Int)),fun (vT:Value) (wT:World)=>∃ aT,vT = .pointer (some aT)∧PT Enc.u8 wT (a7++O) (.pointer (some aT)) ((BG xs)[q+1]!),CQ (vB ((BG xs)[q+1]!)),CQ (vB (UN (BG xs) xs[i]! xs.length (xs.length - (q+1)))),CQ (vB (xs[i]!)),CQ (vB (BR (UN (BG xs) xs[i]! xs.length (xs.length - (q+1))) (xs[i]!)))] kR kR kR kR rfl rfl ⟨fun _ _ _ h k=>h.mv (Mv.of_keep k),kI,kI,fun _ _ _ ⟨a,e,h⟩ k=>⟨a,e,h.mv (Mv.of_keep k)⟩,kI,kI,kI,kI,trivial⟩ ⟨?_,?_,?_,?_,?_,?_,?_,?_,trivial⟩ ?_)))))
   ·intro F1 w1 k1 hf hd
    have k0:=(Keep.drew [] b4).trans k1
    have m1:Mv a7 b4 a7 w1:=Mv.of_keep k0
    have a0:=a0.mv m1
    obtain ⟨F2,rfl⟩:=AK (F:=F1) [(7,b0)] ⟨hf 7 kR,trivial⟩
    exact AH rfl ((AE (b0) rfl (⟨(Keep.refl _ _),a0⟩)))
   ·intro F1 w1 k1 hf hd
    obtain ⟨F2,rfl⟩:=AK (F:=F1) [(12,vI ((q:Nat):Int))] ⟨hf 12 kR,trivial⟩
    exact AH rfl ((AE (vI ((q:Nat):Int)) rfl (⟨(Keep.refl _ _),rfl⟩)))
   ·intro F1 w1 k1 hf hd
    obtain ⟨F2,rfl⟩:=AK (F:=F1) [(40,vI ((q:Nat):Int))] ⟨hd 1 40 kR,trivial⟩
    exact AH rfl ((DF .i64 ((q:Nat):Int) (1:Int) (((q+1:Nat):Int)) rfl rfl (GA oM oM) (⟨(Keep.refl _ _),rfl⟩)))
   ·intro F1 w1 k1 hf hd
    obtain ⟨i1,i2,e9⟩:∃ v,F1 39=v∧BB Enc.u8 w1 (a7++O) v (BG xs):=⟨_,rfl,hd 0 39 kR⟩
    have:=e9.len_le
    obtain ⟨F2,rfl⟩:=AK (F:=F1) [(39,i1),(41,vI ((q+1:Nat):Int))] ⟨i2,hd 2 41 kR,trivial⟩
    exact AH rfl ((CR U26_ IZ .i64 ((q+1:Nat):Int) (q+1) rfl rfl rfl e9 (by rw [GR];omega) fun i3 g2=>(⟨(Keep.refl _ _),⟨i3,rfl,g2⟩⟩)))
   ·intro F1 w1 k1 hf hd
    obtain ⟨i4,i5,g3⟩:∃ aX_,F1 42 = .pointer (some aX_)∧PT Enc.u8 w1 (a7++O) (.pointer (some aX_)) ((BG xs)[q+1]!):=hd 3 42 kR
    obtain ⟨F2,rfl⟩:=AK (F:=F1) [(42,vP (some i4))] ⟨i5,trivial⟩
    exact AH rfl ((GE U5_ rfl rfl g3 (⟨(Keep.refl _ _),rfl⟩)))
   ·intro F1 w1 k1 hf hd
    obtain ⟨F2,rfl⟩:=AK (F:=F1) [(11,vB (UN (BG xs) xs[i]! xs.length (xs.length - (q+1))))] ⟨hf 11 kR,trivial⟩
    exact AH rfl ((AE (vB (UN (BG xs) xs[i]! xs.length (xs.length - (q+1)))) rfl (⟨(Keep.refl _ _),rfl⟩)))
   ·intro F1 w1 k1 hf hd
    obtain ⟨F2,rfl⟩:=AK (F:=F1) [(10,vB (xs[i]!))] ⟨hf 10 kR,trivial⟩
    exact AH rfl ((AE (vB (xs[i]!)) rfl (⟨(Keep.refl _ _),rfl⟩)))
   ·intro F1 w1 k1 hf hd
    have k0:=(Keep.drew [] b4).trans k1
    have s1:=e4.call k0
    obtain ⟨F2,rfl⟩:=AK (F:=F1) [(44,vB (UN (BG xs) xs[i]! xs.length (xs.length - (q+1)))),(45,vB (xs[i]!))] ⟨hd 5 44 kR,hd 6 45 kR,trivial⟩
    refine AH rfl ((AZ (vs:=[vB (UN (BG xs) xs[i]! xs.length (xs.length - (q+1))),vB (xs[i]!)]) NI (XO (O:=a7++O) (UN (BG xs) xs[i]! xs.length (xs.length - (q+1))) (xs[i]!) w1 s1.lt) rfl s1 fun o2 o3 o4 o5 i6 i7=>(?_)))
    obtain rfl:=i7
    exact ⟨i6,rfl⟩
   intro i8 i9 d3 d4 a6
   have j0:=e4.call d3
   have c2:Mv a7 b4 a7 i9:=Mv.of_keep d3
   have a2:=a2.mv c2
   have ho0_4:=ho0_4.mv c2 d3 (by simp)
   have a0:=a0.mv c2
   have ho1_8:=ho1_8.mv c2 d3 (by simp)
   have a1:=a1.mv c2
   obtain ⟨F2,rfl⟩:=AK (F:=i8) [(1,ys_v),(4,a4),(6,vI (xs.length:Int)),(7,b0),(8,a3),(9,vI ((i:Nat):Int)),(10,vB (xs[i]!)),(11,vB (UN (BG xs) xs[i]! xs.length (xs.length - (q+1)))),(12,vI ((q:Nat):Int)),(26,xs_v),(27,vI (xs.length:Int)),(28,vI ((i:Nat):Int)),(81,undef),(43,vB ((BG xs)[q+1]!)),(46,vB (BR (UN (BG xs) xs[i]! xs.length (xs.length - (q+1))) (xs[i]!)))] ⟨a6 1 kR,a6 4 kR,a6 6 kR,a6 7 kR,a6 8 kR,a6 9 kR,a6 10 kR,a6 11 kR,a6 12 kR,a6 26 kR,a6 27 kR,a6 28 kR,a6 81 kR,d4 4 43 kR (by decide),d4 7 46 kR (by decide),trivial⟩
   clear d4 a6
   refine AA (LJ ((BG xs)[q+1]!) (BR (UN (BG xs) xs[i]! xs.length (xs.length - (q+1))) (xs[i]!)) rfl rfl (AA (AD (vB (((BG xs)[q+1]!) ^^^ (BR (UN (BG xs) xs[i]! xs.length (xs.length - (q+1))) (xs[i]!)))) rfl (AG (AB (AC kR (AA (AE (a3) rfl (AA (AE (vI ((q:Nat):Int)) rfl (AA (AE (vB (((BG xs)[q+1]!) ^^^ (BR (UN (BG xs) xs[i]! xs.length (xs.length - (q+1))) (xs[i]!)))) rfl (AA (GB U26_ IZ .i64 ((q:Nat):Int) q rfl rfl rfl ho1_8 (by (simp only [List.length_set,List.length_append,List.length_cons,List.length_nil,List.length_replicate,JH,JA,KJ,KC,GR];omega)) fun o6 d5=>(CC (MF (((BG xs)[q+1]!) ^^^ (BR (UN (BG xs) xs[i]! xs.length (xs.length - (q+1))) (xs[i]!))) IZ rfl rfl rfl ho1_8 d5 (b3 _ d5) (by (simp only [List.length_set,List.length_append,List.length_cons,List.length_nil,List.length_replicate,JH,JA,KJ,KC,GR];omega)) rfl j0 fun o7 j1 d6 j2 g4=>(?_)))))))))))))))))
   have a2:=a2.mv d6
   have ho0_4:=ho0_4.mv d6 j2 (fun b hb=>by simp only [List.mem_singleton];rintro rfl;exact absurd d5 (np1_8_vo0_4 _ hb))
   have a0:=a0.mv d6
   have a1:=a1.mv d6
   refine AG (CB (AB (AC kR (AA (AE (vI ((q:Nat):Int)) rfl (AA (HK .i64 ((q:Nat):Int) (1:Int) (((q:Nat):Int) - (1:Int)) rfl rfl (GA oM oM) (AA (AD (vI (((q:Nat):Int) - (1:Int))) rfl (AG (AB (?_))))))))))))
   exact ⟨_,oM,(q),a3,a7,oM,rfl,⟨_,AX _ ⟨rfl,rfl,rfl,rfl,rfl,rfl,rfl,(congrArg vB (by exact (sdC_step oM).symm)),(by rfl),rfl,rfl,rfl,rfl,trivial⟩⟩,j1,(by rw [show JB (IJ (BG xs) xs xs.length i) (BG xs) xs[i]! xs.length (xs.length - (q))=(JB (IJ (BG xs) xs xs.length i) (BG xs) xs[i]! xs.length (xs.length - (q+1))).set q (((BG xs)[q+1]!) ^^^ (BR (UN (BG xs) xs[i]! xs.length (xs.length - (q+1))) (xs[i]!))) from sdQ_step oM];exact g4),b3,a2,ho0_4,b6,a0,a1,no1_8_vo0_4,np1_8_vo0_4⟩
  have m6:(k:Int) - 1<(0:Int):=by (have e:=d2;simp at e;omega)
  obtain rfl:k=0:=by omega
  refine DA (BN (BN (CO (AB (AF (cw_draw' 8 _ _ [fun (vT:Value) (wT:World)=>BB Enc.u8 wT (a7++O) vT (ys),CQ (vI ((i:Nat):Int)),fun (vT:Value) (wT:World)=>∃ aT,vT = .pointer (some aT)∧PT Enc.u8 wT (a7++O) (.pointer (some aT)) (ys[i]!),CQ (vB (ys[i]!)),CQ a3,CQ (vB (xs[i]!)),CQ (vB (ER (JB (IJ (BG xs) xs xs.length i) (BG xs) xs[i]! xs.length (xs.length - 0)) (xs[i]!))),CQ (vB (GK (ER (JB (IJ (BG xs) xs xs.length i) (BG xs) xs[i]! xs.length (xs.length - 0)) (xs[i]!))))] kR kR kR kR rfl rfl ⟨fun _ _ _ h k=>h.mv (Mv.of_keep k),kI,fun _ _ _ ⟨a,e,h⟩ k=>⟨a,e,h.mv (Mv.of_keep k)⟩,kI,kI,kI,kI,kI,trivial⟩ ⟨?_,?_,?_,?_,?_,?_,?_,?_,trivial⟩ ?_))))))
  ·intro F1 w1 k1 hf hd
   have k0:=(Keep.drew [] b4).trans k1
   have m1:Mv a7 b4 a7 w1:=Mv.of_keep k0
   have a2:=a2.mv m1
   obtain ⟨F2,rfl⟩:=AK (F:=F1) [(1,ys_v)] ⟨hf 1 kR,trivial⟩
   exact AH rfl ((AE (ys_v) rfl (⟨(Keep.refl _ _),a2⟩)))
  ·intro F1 w1 k1 hf hd
   obtain ⟨F2,rfl⟩:=AK (F:=F1) [(9,vI ((i:Nat):Int))] ⟨hf 9 kR,trivial⟩
   exact AH rfl ((AE (vI ((i:Nat):Int)) rfl (⟨(Keep.refl _ _),rfl⟩)))
  ·intro F1 w1 k1 hf hd
   obtain ⟨j3,j4,f0⟩:∃ v,F1 52=v∧BB Enc.u8 w1 (a7++O) v (ys):=⟨_,rfl,hd 0 52 kR⟩
   have:=f0.len_le
   obtain ⟨F2,rfl⟩:=AK (F:=F1) [(52,j3),(53,vI ((i:Nat):Int))] ⟨j4,hd 1 53 kR,trivial⟩
   exact AH rfl ((CR U26_ IZ .i64 ((i:Nat):Int) i rfl rfl rfl f0 oM fun j5 g5=>(⟨(Keep.refl _ _),⟨j5,rfl,g5⟩⟩)))
  ·intro F1 w1 k1 hf hd
   obtain ⟨j6,j7,g6⟩:∃ aX_,F1 54 = .pointer (some aX_)∧PT Enc.u8 w1 (a7++O) (.pointer (some aX_)) (ys[i]!):=hd 2 54 kR
   obtain ⟨F2,rfl⟩:=AK (F:=F1) [(54,vP (some j6))] ⟨j7,trivial⟩
   exact AH rfl ((GE U5_ rfl rfl g6 (⟨(Keep.refl _ _),rfl⟩)))
  ·intro F1 w1 k1 hf hd
   obtain ⟨F2,rfl⟩:=AK (F:=F1) [(8,a3)] ⟨hf 8 kR,trivial⟩
   exact AH rfl ((AE (a3) rfl (⟨(Keep.refl _ _),rfl⟩)))
  ·intro F1 w1 k1 hf hd
   obtain ⟨F2,rfl⟩:=AK (F:=F1) [(10,vB (xs[i]!))] ⟨hf 10 kR,trivial⟩
   exact AH rfl ((AE (vB (xs[i]!)) rfl (⟨(Keep.refl _ _),rfl⟩)))
  ·intro F1 w1 k1 hf hd
   have k0:=(Keep.drew [] b4).trans k1
   have s1:=e4.call k0
   have m1:Mv a7 b4 a7 w1:=Mv.of_keep k0
   have ho1_8:=ho1_8.mv m1 k0 (by simp)
   obtain ⟨F2,rfl⟩:=AK (F:=F1) [(56,a3),(57,vB (xs[i]!))] ⟨hd 4 56 kR,hd 5 57 kR,trivial⟩
   refine AH rfl ((AZ (vs:=[a3,vB (xs[i]!)]) VT (c_eval (O:=[]) a3 (JB (IJ (BG xs) xs xs.length i) (BG xs) xs[i]! xs.length (xs.length - 0)) (xs[i]!) w1 ho1_8.rd0 NS) rfl s1 fun o8 o9 p0 p1 j8 j9=>(?_)))
   obtain rfl:=j9
   exact ⟨j8,rfl⟩
  ·intro F1 w1 k1 hf hd
   have k0:=(Keep.drew [] b4).trans k1
   have s1:=e4.call k0
   obtain ⟨F2,rfl⟩:=AK (F:=F1) [(58,vB (ER (JB (IJ (BG xs) xs xs.length i) (BG xs) xs[i]! xs.length (xs.length - 0)) (xs[i]!)))] ⟨hd 6 58 kR,trivial⟩
   refine AH rfl ((AZ (vs:=[vB (ER (JB (IJ (BG xs) xs xs.length i) (BG xs) xs[i]! xs.length (xs.length - 0)) (xs[i]!))]) enter_107 (c_inverse (O:=a7++O) (ER (JB (IJ (BG xs) xs xs.length i) (BG xs) xs[i]! xs.length (xs.length - 0)) (xs[i]!)) w1 s1.lt) rfl s1 fun p2 p3 p4 p5 k2 k3=>(?_)))
   obtain rfl:=k3
   exact ⟨k2,rfl⟩
  intro k4 f4 d7 d8 a9
  have f5:=e4.call d7
  have c3:Mv a7 b4 a7 f4:=Mv.of_keep d7
  have a2:=a2.mv c3
  have ho0_4:=ho0_4.mv c3 d7 (by simp)
  have a0:=a0.mv c3
  have ho1_8:=ho1_8.mv c3 d7 (by simp)
  have a1:=a1.mv c3
  obtain ⟨F2,rfl⟩:=AK (F:=k4) [(1,ys_v),(4,a4),(6,vI (xs.length:Int)),(7,b0),(8,a3),(26,xs_v),(27,vI (xs.length:Int)),(28,vI ((i:Nat):Int)),(81,undef),(55,vB (ys[i]!)),(59,vB (GK (ER (JB (IJ (BG xs) xs xs.length i) (BG xs) xs[i]! xs.length (xs.length - 0)) (xs[i]!))))] ⟨a9 1 kR,a9 4 kR,a9 6 kR,a9 7 kR,a9 8 kR,a9 26 kR,a9 27 kR,a9 28 kR,a9 81 kR,d8 3 55 kR (by decide),d8 7 59 kR (by decide),trivial⟩
  clear d8 a9
  refine AA (AZ (vs:=[vB (ys[i]!),vB (GK (ER (JB (IJ (BG xs) xs xs.length i) (BG xs) xs[i]! xs.length (xs.length - 0)) (xs[i]!)))]) NI (XO (O:=a7++O) (ys[i]!) (GK (ER (JB (IJ (BG xs) xs xs.length i) (BG xs) xs[i]! xs.length (xs.length - 0)) (xs[i]!))) f4 f5.lt) rfl f5 fun p6 p7 k5 c4 f6 k6=>(?_))
  obtain rfl:=k6
  have a2:=a2.mv c4
  have ho0_4:=ho0_4.mv c4 f6 (by simp)
  have a0:=a0.mv c4
  have ho1_8:=ho1_8.mv c4 f6 (by simp)
  have a1:=a1.mv c4
  refine AA (AD (vB (BR (ys[i]!) (GK (ER (JB (IJ (BG xs) xs xs.length i) (BG xs) xs[i]! xs.length (xs.length - 0)) (xs[i]!))))) rfl (AG (AB (AF (AC kR (AA (AE (a4) rfl (AA (VH U26_ rfl ho0_4 (AA (AE (vI 0) rfl (AG (AB (BD (?_)))))))))))))))
  have hcl:=JH (BG xs) xs ys xs.length i
  refine DB (fun mI FI wI=>∃ (j:Nat) (a5:Value) (B:List Nat),j≤xs.length∧mI=xs.length - j∧(∃ F1,FI=GD F1 [(1,ys_v),(4,a5),(6,vI (xs.length:Int)),(7,b0),(8,a3),(13,vB (BR (ys[i]!) (GK (ER (JB (IJ (BG xs) xs xs.length i) (BG xs) xs[i]! xs.length (xs.length - 0)) (xs[i]!))))),(26,xs_v),(27,vI (xs.length:Int)),(28,vI ((i:Nat):Int)),(62,vI ((QQ (BG xs) xs ys xs.length i).length:Int)),(63,vI ((j:Nat):Int)),(81,undef)])∧St w O wI B∧EX Enc.u8 5 w.heap.size (B++O) wI a5 (adF (QQ (BG xs) xs ys xs.length i) (JB (IJ (BG xs) xs xs.length i) (BG xs) xs[i]! xs.length (xs.length - 0)) (BR ys[i]! (GK (ER (JB (IJ (BG xs) xs xs.length i) (BG xs) xs[i]! xs.length (xs.length - 0)) xs[i]!))) j)∧(∀ b,a5.ownBlock=some b→b∈B)∧BB Enc.u8 wI (B++O) (ys_v) (ys)∧BB Enc.u8 wI (B++O) (b0) (BG xs)∧EX Enc.u8 5 w.heap.size (B++O) wI a3 (JB (IJ (BG xs) xs xs.length i) (BG xs) xs[i]! xs.length (xs.length - 0))∧(∀ b,a3.ownBlock=some b→b∈B)∧BB Enc.u8 wI (B++O) (xs_v) (xs)∧(∀ b,a5.ownBlock=some b→a3.ownBlock≠some b)∧(∀ b,a3.ownBlock=some b→a5.ownBlock≠some b)) (xs.length - (0)) ?_ ?_
  ·exact ⟨(0),a4,a7,oM,rfl,⟨_,AX _ ⟨rfl,rfl,rfl,rfl,rfl,rfl,rfl,rfl,rfl,rfl,(by rfl),rfl,trivial⟩⟩,k5,(by rw [show adF (QQ (BG xs) xs ys xs.length i) (JB (IJ (BG xs) xs xs.length i) (BG xs) xs[i]! xs.length (xs.length - 0)) (BR ys[i]! (GK (ER (JB (IJ (BG xs) xs xs.length i) (BG xs) xs[i]! xs.length (xs.length - 0)) xs[i]!))) (0)=QQ (BG xs) xs ys xs.length i from rfl];exact ho0_4),b6,a2,a0,ho1_8,b3,a1,np1_8_vo0_4,no1_8_vo0_4⟩
  intro r6 F b5 hI
  clear a2 a0 ho1_8 b3 a1
  obtain ⟨j,a5,b1,hr2_0,r7,⟨r8,rfl⟩,f7,ho2_4,d9,a2,a0,ho1_8,b3,a1,no2_4_vo1_8,np2_4_vo1_8⟩:=hI
  refine AF (AC kR (AA (DQ .i64 ((j:Nat):Int) ((QQ (BG xs) xs ys xs.length i).length:Int) rfl rfl (AG (AB (AF (AJ (decide (((j:Nat):Int)<((QQ (BG xs) xs ys xs.length i).length:Int))) rfl rfl (fun e0=>?_) (fun e0=>?_))))))))
  ·have m7:((j:Nat):Int)<((QQ (BG xs) xs ys xs.length i).length:Int):=by simpa using e0
   refine AR (AB (AF (BD (AF (AC kR (AA (AE (vI ((j:Nat):Int)) rfl (AA (AD (vI ((j:Nat):Int)) rfl (AG (AB (cw_draw' 10 _ _ [CQ a5,CQ (vI ((j:Nat):Int)),fun (vT:Value) (wT:World)=>∃ bT,vT = .pointer (some ⟨bT,j*1,none⟩)∧a5.ownBlock=some bT,CQ (vB ((adF (QQ (BG xs) xs ys xs.length i) (JB (IJ (BG xs) xs xs.length i) (BG xs) xs[i]! xs.length (xs.length - 0)) (BR ys[i]! (GK (ER (JB (IJ (BG xs) xs xs.length i) (BG xs) xs[i]! xs.length (xs.length - 0)) xs[i]!))) j)[j]!)),CQ a3,CQ (vI ((j:Nat):Int)),fun (vT:Value) (wT:World)=>∃ bT,vT = .pointer (some ⟨bT,j*1,none⟩)∧a3.ownBlock=some bT,CQ (vB ((JB (IJ (BG xs) xs xs.length i) (BG xs) xs[i]! xs.length (xs.length - 0))[j]!)),CQ (vB (BR (ys[i]!) (GK (ER (JB (IJ (BG xs) xs xs.length i) (BG xs) xs[i]! xs.length (xs.length - 0)) (xs[i]!))))),CQ (vB (BR ((JB (IJ (BG xs) xs xs.length i) (BG xs) xs[i]! xs.length (xs.length - 0))[j]!) (BR (ys[i]!) (GK (ER (JB (IJ (BG xs) xs xs.length i) (BG xs) xs[i]! xs.length (xs.length - 0)) (xs[i]!))))))] kR kR kR kR rfl rfl ⟨kI,kI,fun _ _ _ h _=>h,kI,kI,kI,fun _ _ _ h _=>h,kI,kI,kI,trivial⟩ ⟨?_,?_,?_,?_,?_,?_,?_,?_,?_,?_,trivial⟩ ?_))))))))))))
   ·intro F1 w1 k1 hf hd
    obtain ⟨F2,rfl⟩:=AK (F:=F1) [(4,a5)] ⟨hf 4 kR,trivial⟩
    exact AH rfl ((AE (a5) rfl (⟨(Keep.refl _ _),rfl⟩)))
   ·intro F1 w1 k1 hf hd
    obtain ⟨F2,rfl⟩:=AK (F:=F1) [(14,vI ((j:Nat):Int))] ⟨hf 14 kR,trivial⟩
    exact AH rfl ((AE (vI ((j:Nat):Int)) rfl (⟨(Keep.refl _ _),rfl⟩)))
   ·intro F1 w1 k1 hf hd
    have k0:=(Keep.drew [] b5).trans k1
    have m1:Mv b1 b5 b1 w1:=Mv.of_keep k0
    have ho2_4:=ho2_4.mv m1 k0 (by simp)
    obtain ⟨F2,rfl⟩:=AK (F:=F1) [(66,a5),(67,vI ((j:Nat):Int))] ⟨hd 0 66 kR,hd 1 67 kR,trivial⟩
    exact AH rfl ((GB U26_ IZ .i64 ((j:Nat):Int) j rfl rfl rfl ho2_4 (by (simp only [List.length_set,List.length_append,List.length_cons,List.length_nil,List.length_replicate,JH,JA,KJ,KC,GR];omega)) fun p8 g7=>(⟨(Keep.refl _ _),⟨_,rfl,g7⟩⟩)))
   ·intro F1 w1 k1 hf hd
    have k0:=(Keep.drew [] b5).trans k1
    have m1:Mv b1 b5 b1 w1:=Mv.of_keep k0
    have ho2_4:=ho2_4.mv m1 k0 (by simp)
    obtain ⟨k7,k8,g8⟩:∃ b,F1 68 = .pointer (some ⟨b,j*1,none⟩)∧a5.ownBlock=some b:=hd 2 68 kR
    obtain ⟨F2,rfl⟩:=AK (F:=F1) [(68,vP (some ⟨k7,j*1,none⟩))] ⟨k8,trivial⟩
    exact AH rfl ((NT U5_ rfl rfl ho2_4 g8 (by (simp only [List.length_set,List.length_append,List.length_cons,List.length_nil,List.length_replicate,JH,JA,KJ,KC,GR];omega)) (⟨(Keep.refl _ _),rfl⟩)))
   ·intro F1 w1 k1 hf hd
    obtain ⟨F2,rfl⟩:=AK (F:=F1) [(8,a3)] ⟨hf 8 kR,trivial⟩
    exact AH rfl ((AE (a3) rfl (⟨(Keep.refl _ _),rfl⟩)))
   ·intro F1 w1 k1 hf hd
    obtain ⟨F2,rfl⟩:=AK (F:=F1) [(14,vI ((j:Nat):Int))] ⟨hf 14 kR,trivial⟩
    exact AH rfl ((AE (vI ((j:Nat):Int)) rfl (⟨(Keep.refl _ _),rfl⟩)))
   ·intro F1 w1 k1 hf hd
    have k0:=(Keep.drew [] b5).trans k1
    have m1:Mv b1 b5 b1 w1:=Mv.of_keep k0
    have ho1_8:=ho1_8.mv m1 k0 (by simp)
    obtain ⟨F2,rfl⟩:=AK (F:=F1) [(70,a3),(71,vI ((j:Nat):Int))] ⟨hd 4 70 kR,hd 5 71 kR,trivial⟩
    exact AH rfl ((GB U26_ IZ .i64 ((j:Nat):Int) j rfl rfl rfl ho1_8 (by (simp only [List.length_set,List.length_append,List.length_cons,List.length_nil,List.length_replicate,JH,JA,KJ,KC,GR];omega)) fun p9 g9=>(⟨(Keep.refl _ _),⟨_,rfl,g9⟩⟩)))
   ·intro F1 w1 k1 hf hd
    have k0:=(Keep.drew [] b5).trans k1
    have m1:Mv b1 b5 b1 w1:=Mv.of_keep k0
    have ho1_8:=ho1_8.mv m1 k0 (by simp)
    obtain ⟨k9,l0,h0⟩:∃ b,F1 72 = .pointer (some ⟨b,j*1,none⟩)∧a3.ownBlock=some b:=hd 6 72 kR
    obtain ⟨F2,rfl⟩:=AK (F:=F1) [(72,vP (some ⟨k9,j*1,none⟩))] ⟨l0,trivial⟩
    exact AH rfl ((NT U5_ rfl rfl ho1_8 h0 (by (simp only [List.length_set,List.length_append,List.length_cons,List.length_nil,List.length_replicate,JH,JA,KJ,KC,GR];omega)) (⟨(Keep.refl _ _),rfl⟩)))
   ·intro F1 w1 k1 hf hd
    obtain ⟨F2,rfl⟩:=AK (F:=F1) [(13,vB (BR (ys[i]!) (GK (ER (JB (IJ (BG xs) xs xs.length i) (BG xs) xs[i]! xs.length (xs.length - 0)) (xs[i]!)))))] ⟨hf 13 kR,trivial⟩
    exact AH rfl ((AE (vB (BR (ys[i]!) (GK (ER (JB (IJ (BG xs) xs xs.length i) (BG xs) xs[i]! xs.length (xs.length - 0)) (xs[i]!))))) rfl (⟨(Keep.refl _ _),rfl⟩)))
   ·intro F1 w1 k1 hf hd
    have k0:=(Keep.drew [] b5).trans k1
    have s1:=f7.call k0
    obtain ⟨F2,rfl⟩:=AK (F:=F1) [(73,vB ((JB (IJ (BG xs) xs xs.length i) (BG xs) xs[i]! xs.length (xs.length - 0))[j]!)),(74,vB (BR (ys[i]!) (GK (ER (JB (IJ (BG xs) xs xs.length i) (BG xs) xs[i]! xs.length (xs.length - 0)) (xs[i]!)))))] ⟨hd 7 73 kR,hd 8 74 kR,trivial⟩
    refine AH rfl ((AZ (vs:=[vB ((JB (IJ (BG xs) xs xs.length i) (BG xs) xs[i]! xs.length (xs.length - 0))[j]!),vB (BR (ys[i]!) (GK (ER (JB (IJ (BG xs) xs xs.length i) (BG xs) xs[i]! xs.length (xs.length - 0)) (xs[i]!))))]) NI (XO (O:=b1++O) ((JB (IJ (BG xs) xs xs.length i) (BG xs) xs[i]! xs.length (xs.length - 0))[j]!) (BR (ys[i]!) (GK (ER (JB (IJ (BG xs) xs xs.length i) (BG xs) xs[i]! xs.length (xs.length - 0)) (xs[i]!)))) w1 s1.lt) rfl s1 fun q0 q1 q2 q3 l1 l2=>(?_)))
    obtain rfl:=l2
    exact ⟨l1,rfl⟩
   intro l3 l4 e1 b7 a8
   have l5:=f7.call e1
   have c5:Mv b1 b5 b1 l4:=Mv.of_keep e1
   have a2:=a2.mv c5
   have ho2_4:=ho2_4.mv c5 e1 (by simp)
   have a0:=a0.mv c5
   have ho1_8:=ho1_8.mv c5 e1 (by simp)
   have a1:=a1.mv c5
   obtain ⟨F2,rfl⟩:=AK (F:=l3) [(1,ys_v),(4,a5),(6,vI (xs.length:Int)),(7,b0),(8,a3),(13,vB (BR (ys[i]!) (GK (ER (JB (IJ (BG xs) xs xs.length i) (BG xs) xs[i]! xs.length (xs.length - 0)) (xs[i]!))))),(26,xs_v),(27,vI (xs.length:Int)),(28,vI ((i:Nat):Int)),(62,vI ((QQ (BG xs) xs ys xs.length i).length:Int)),(63,vI ((j:Nat):Int)),(81,undef),(66,a5),(67,vI ((j:Nat):Int)),(69,vB ((adF (QQ (BG xs) xs ys xs.length i) (JB (IJ (BG xs) xs xs.length i) (BG xs) xs[i]! xs.length (xs.length - 0)) (BR ys[i]! (GK (ER (JB (IJ (BG xs) xs xs.length i) (BG xs) xs[i]! xs.length (xs.length - 0)) xs[i]!))) j)[j]!)),(75,vB (BR ((JB (IJ (BG xs) xs xs.length i) (BG xs) xs[i]! xs.length (xs.length - 0))[j]!) (BR (ys[i]!) (GK (ER (JB (IJ (BG xs) xs xs.length i) (BG xs) xs[i]! xs.length (xs.length - 0)) (xs[i]!))))))] ⟨a8 1 kR,a8 4 kR,a8 6 kR,a8 7 kR,a8 8 kR,a8 13 kR,a8 26 kR,a8 27 kR,a8 28 kR,a8 62 kR,a8 63 kR,a8 81 kR,b7 0 66 kR (by decide),b7 1 67 kR (by decide),b7 3 69 kR (by decide),b7 9 75 kR (by decide),trivial⟩
   clear b7 a8
   refine AA (LJ ((adF (QQ (BG xs) xs ys xs.length i) (JB (IJ (BG xs) xs xs.length i) (BG xs) xs[i]! xs.length (xs.length - 0)) (BR ys[i]! (GK (ER (JB (IJ (BG xs) xs xs.length i) (BG xs) xs[i]! xs.length (xs.length - 0)) xs[i]!))) j)[j]!) (BR ((JB (IJ (BG xs) xs xs.length i) (BG xs) xs[i]! xs.length (xs.length - 0))[j]!) (BR (ys[i]!) (GK (ER (JB (IJ (BG xs) xs xs.length i) (BG xs) xs[i]! xs.length (xs.length - 0)) (xs[i]!))))) rfl rfl (AA (GB U26_ IZ .i64 ((j:Nat):Int) j rfl rfl rfl ho2_4 (by (simp only [List.length_set,List.length_append,List.length_cons,List.length_nil,List.length_replicate,JH,JA,KJ,KC,GR];omega)) fun q4 e2=>(CC (MF (((adF (QQ (BG xs) xs ys xs.length i) (JB (IJ (BG xs) xs xs.length i) (BG xs) xs[i]! xs.length (xs.length - 0)) (BR ys[i]! (GK (ER (JB (IJ (BG xs) xs xs.length i) (BG xs) xs[i]! xs.length (xs.length - 0)) xs[i]!))) j)[j]!) ^^^ (BR ((JB (IJ (BG xs) xs xs.length i) (BG xs) xs[i]! xs.length (xs.length - 0))[j]!) (BR (ys[i]!) (GK (ER (JB (IJ (BG xs) xs xs.length i) (BG xs) xs[i]! xs.length (xs.length - 0)) (xs[i]!)))))) IZ rfl rfl rfl ho2_4 e2 (d9 _ e2) (by (simp only [List.length_set,List.length_append,List.length_cons,List.length_nil,List.length_replicate,JH,JA,KJ,KC,GR];omega)) rfl l5 fun q5 l6 e3 l7 h1=>(?_))))))
   have a2:=a2.mv e3
   have a0:=a0.mv e3
   have ho1_8:=ho1_8.mv e3 l7 (fun b hb=>by simp only [List.mem_singleton];rintro rfl;exact absurd e2 (np2_4_vo1_8 _ hb))
   have a1:=a1.mv e3
   refine AG (CB (AB (AC kR (AA (DF .i64 ((j:Nat):Int) (1:Int) (((j+1:Nat):Int)) rfl rfl (GA oM oM) (AA (AE (vI ((j+1:Nat):Int)) rfl (AG (AB (?_))))))))))
   exact ⟨_,oM,(j+1),a5,b1,oM,rfl,⟨_,AX _ ⟨rfl,rfl,rfl,rfl,rfl,rfl,rfl,rfl,rfl,rfl,(by rfl),rfl,trivial⟩⟩,l6,(by rw [show adF (QQ (BG xs) xs ys xs.length i) (JB (IJ (BG xs) xs xs.length i) (BG xs) xs[i]! xs.length (xs.length - 0)) (BR ys[i]! (GK (ER (JB (IJ (BG xs) xs xs.length i) (BG xs) xs[i]! xs.length (xs.length - 0)) xs[i]!))) (j+1)=(adF (QQ (BG xs) xs ys xs.length i) (JB (IJ (BG xs) xs xs.length i) (BG xs) xs[i]! xs.length (xs.length - 0)) (BR ys[i]! (GK (ER (JB (IJ (BG xs) xs xs.length i) (BG xs) xs[i]! xs.length (xs.length - 0)) xs[i]!))) j).set j (((adF (QQ (BG xs) xs ys xs.length i) (JB (IJ (BG xs) xs xs.length i) (BG xs) xs[i]! xs.length (xs.length - 0)) (BR ys[i]! (GK (ER (JB (IJ (BG xs) xs xs.length i) (BG xs) xs[i]! xs.length (xs.length - 0)) xs[i]!))) j)[j]!) ^^^ (BR ((JB (IJ (BG xs) xs xs.length i) (BG xs) xs[i]! xs.length (xs.length - 0))[j]!) (BR (ys[i]!) (GK (ER (JB (IJ (BG xs) xs xs.length i) (BG xs) xs[i]! xs.length (xs.length - 0)) (xs[i]!)))))) from rfl];exact h1),d9,a2,a0,ho1_8,b3,a1,no2_4_vo1_8,np2_4_vo1_8⟩
  have m9:((QQ (BG xs) xs ys xs.length i).length:Int)≤((j:Nat):Int):=by simpa using e0
  obtain rfl:j=xs.length:=by omega
  refine DA (BN (BN (CO (CB (AB (AC kR (AA (DF .i64 ((i:Nat):Int) (1:Int) (((i+1:Nat):Int)) rfl rfl (GA oM oM) (AA (AE (vI ((i+1:Nat):Int)) rfl (AG (AB (?_)))))))))))))
  exact ⟨_,oM,(i+1),a5,a3,b1,oM,rfl,⟨_,AX _ ⟨rfl,rfl,rfl,rfl,rfl,rfl,rfl,(by rfl),rfl,trivial⟩⟩,f7,(by rw [show QQ (BG xs) xs ys xs.length (i+1)=adF (QQ (BG xs) xs ys xs.length i) (JB (IJ (BG xs) xs xs.length i) (BG xs) xs[i]! xs.length (xs.length - 0)) (BR ys[i]! (GK (ER (JB (IJ (BG xs) xs xs.length i) (BG xs) xs[i]! xs.length (xs.length - 0)) xs[i]!))) xs.length from by rw [Nat.sub_zero];simp only [QQ,IJ]];exact ho2_4),d9,(by rw [show IJ (BG xs) xs xs.length (i+1)=JB (IJ (BG xs) xs xs.length i) (BG xs) xs[i]! xs.length (xs.length - 0) from by rw [IJ,Nat.sub_zero]];exact ho1_8),b3,a2,a0,a1,no2_4_vo1_8,np2_4_vo1_8⟩
 have n2:(xs.length:Int)≤((i:Nat):Int):=by simpa using d1
 obtain rfl:i=xs.length:=by omega
 refine DA (BN (BN (CO (AB (AF (AC kR (AA (AE (a4) rfl (AA (AD (a4) rfl (AA (AD (vI 0) rfl (AG (AB (AM (AS rfl (EJ rfl rfl rfl rfl) (?_)))))))))))))))))
 have e:(FD xs ys)=(QQ (BG xs) xs ys xs.length xs.length,(0:Int)):=by simp [FD, *]
 exact ⟨_,rfl,f3.keep,by rw [e];exact ⟨a4,rfl,ho0_4.pub f3⟩⟩
set_option maxHeartbeats 4000000 in
set_option maxRecDepth 100000 in
theorem c_through {O:List Nat} (xs_v:Value) (xs:List UInt8) (ys_v:Value) (ys:List UInt8) (at_:UInt8) (w:World) (a1:BB Enc.u8 w O xs_v xs) (a2:BB Enc.u8 w O ys_v ys) (hpre0:xs.length<1000000) (hO:∀ b∈O,b<w.heap.size):CA Tryz.prog 78 [xs_v,ys_v,vB at_] w (fun v _=>v = .tuple #[vB ((DI xs ys at_).1),vI ((DI xs ys at_).2)]):= by
 have b0:=a1.len_le
 have a1:BB Enc.u8 w ([]++O) xs_v xs:=a1
 have b1:=a2.len_le
 have a2:BB Enc.u8 w ([]++O) ys_v ys:=a2
 have s0:St w O w []:=St.start hO
 refine BE 21 Tryz.func78 rfl rfl oT (fun F0=>AF (AC kR (AA (AD (vB (0:UInt8)) rfl (AA (AD (vI 0) rfl (AG (AB (AF (AC kR (AA (AE (xs_v) rfl (AA (AE (ys_v) rfl (AA (AZ (vs:=[xs_v,ys_v]) enter_89 (c_coeff (O:=[]++O) xs_v xs ys_v ys w a1 a2 oM s0.lt) rfl s0 fun b4 a6 a4 b5 b6 a7=>(?_)))))))))))))))))
 obtain ⟨a0,rfl,a5⟩:=a7
 have:=a5.len_le
 refine AA (AE (vT #[a0,vI ((FD xs ys).2)]) rfl (AA (AO (a0) rfl rfl (AA (AO (vI ((FD xs ys).2)) rfl rfl (AA (AD (a0) rfl (AA (AD (vI ((FD xs ys).2)) rfl (AG (AB (AF (AF (AC kR (AA (AE (vI ((FD xs ys).2)) rfl (AA (CM .i64 ((FD xs ys).2) (0:Int) rfl rfl (AG (AB (AJ (((FD xs ys).2) != (0:Int)) rfl rfl (fun a3=>?_) (fun a3=>?_))))))))))))))))))))))
 ·have b2:(FD xs ys).2≠(0:Int):=by simpa using a3
  refine AF (AC kR (AA (AE (vI ((FD xs ys).2)) rfl (AA (AD (vB (0:UInt8)) rfl (AA (AD (vI ((FD xs ys).2)) rfl (AG (AB (AM (AI (AS rfl (EJ rfl rfl rfl rfl) (?_)))))))))))))
  have e:(DI xs ys at_)=((0:UInt8),(FD xs ys).2):=by simp [DI, *]
  exact ⟨_,rfl,a4.keep,by rw [e];exact rfl⟩
 have b3:(FD xs ys).2=(0:Int):=by simpa using a3
 refine AR (AB (AF (AC kR (AA (AE (a0) rfl (AA (AE (vB at_) rfl (AA (AZ (vs:=[a0,vB at_]) VT (c_eval (O:=[]++O) a0 ((FD xs ys).1) at_ a6 a5 a4.lt) rfl a4 fun b7 b8 a8 b9 c0 a9=>(?_))))))))))
 obtain rfl:=a9
 refine AA (AD (vB (ER ((FD xs ys).1) at_)) rfl (AA (AD (vI 0) rfl (AG (AB (AM (AS rfl (EJ rfl rfl rfl rfl) (?_))))))))
 have e:(DI xs ys at_)=(ER ((FD xs ys).1) at_,(0:Int)):=by simp [DI, *]
 exact ⟨_,rfl,a8.keep,by rw [e];exact rfl⟩
open Go.Fw
theorem all8 (p:UInt8→Bool) (h:(List.range 256).all (fun n=>p (UInt8.ofNat n))=true) (x:UInt8):p x=true:=by
  have:=List.all_eq_true.1 h x.toNat (List.mem_range.2 x.toNat_lt)
  rwa [UInt8.ofNat_toNat] at this
def XK (f:UInt8→UInt8):Prop:=∀ x y,f (x ^^^ y)=f x ^^^ f y
theorem xor_zero (a:UInt8):a ^^^ 0=a:=UInt8.xor_zero
theorem zero_xor (a:UInt8):0 ^^^ a=a:=UInt8.zero_xor
theorem xor_self (a:UInt8):a ^^^ a=0:=UInt8.xor_self
theorem VF (a b:UInt8):a ^^^ b=b ^^^ a:=UInt8.xor_comm a b
theorem QT (a b c:UInt8):a ^^^ b ^^^ c=a ^^^ (b ^^^ c):=UInt8.xor_assoc a b c
theorem xor_lc (a b c:UInt8):a ^^^ (b ^^^ c)=b ^^^ (a ^^^ c):=by rw [← QT,VF a b,QT]
theorem xor_cancel (a b:UInt8):a ^^^ (a ^^^ b)=b:=by rw [← QT,xor_self,zero_xor]
theorem JT {a b:UInt8}:a ^^^ b=0↔a=b:=⟨fun h=>by have:=congrArg (a ^^^ ·) h;simp only [xor_cancel,xor_zero] at this;exact this.symm,fun h=>by rw [h,xor_self]⟩
theorem xor4 (a b c d:UInt8):(a ^^^ b) ^^^ (c ^^^ d)=(a ^^^ c) ^^^ (b ^^^ d):=by rw [QT,QT,xor_lc b c d]
theorem XK.zero {f:UInt8→UInt8} (h:XK f):f 0=0:=by
  have h1:=h 0 0
  rw [xor_self] at h1
  rw [h1,xor_self]
theorem XK.comp {f g:UInt8→UInt8} (hf:XK f) (hg:XK g):XK (fun x=>f (g x)):=fun x y=>by show f (g (x ^^^ y))=_;rw [hg x y,hf]
theorem XK.id:XK fun x=>x:=fun _ _=>rfl
theorem bits_of (x:UInt8):x=(x &&& 1) ^^^ ((x &&& 2) ^^^ ((x &&& 4) ^^^ ((x &&& 8) ^^^ ((x &&& 16) ^^^ ((x &&& 32) ^^^ ((x &&& 64) ^^^ (x &&& 128))))))):=
  of_decide_eq_true (all8 (fun x=>decide (x=(x &&& 1) ^^^ ((x &&& 2) ^^^ ((x &&& 4) ^^^ ((x &&& 8) ^^^ ((x &&& 16) ^^^ ((x &&& 32) ^^^ ((x &&& 64) ^^^ (x &&& 128))))))))) (by decide +kernel) x)
theorem bit_or (x:UInt8):(x &&& 1=0∨x &&& 1=1)∧(x &&& 2=0∨x &&& 2=2)∧(x &&& 4=0∨x &&& 4=4)∧(x &&& 8=0∨x &&& 8=8)∧(x &&& 16=0∨x &&& 16=16)∧(x &&& 32=0∨x &&& 32=32)∧(x &&& 64=0∨x &&& 64=64)∧(x &&& 128=0∨x &&& 128=128):=
  of_decide_eq_true (all8 (fun x=>decide ((x &&& 1=0∨x &&& 1=1)∧(x &&& 2=0∨x &&& 2=2)∧(x &&& 4=0∨x &&& 4=4)∧(x &&& 8=0∨x &&& 8=8)∧(x &&& 16=0∨x &&& 16=16)∧(x &&& 32=0∨x &&& 32=32)∧(x &&& 64=0∨x &&& 64=64)∧(x &&& 128=0∨x &&& 128=128))) (by decide +kernel) x)
theorem lin_ext {f g:UInt8→UInt8} (hf:XK f) (hg:XK g) (h1:f 1=g 1) (h2:f 2=g 2) (h4:f 4=g 4) (h8:f 8=g 8) (h16:f 16=g 16) (h32:f 32=g 32) (h64:f 64=g 64) (h128:f 128=g 128) (x:UInt8):f x=g x:=by
  have z:=hf.zero;have z':=hg.zero
  have key:∀ (y b:UInt8),(y=0∨y=b)→f b=g b→f y=g y:=fun y b h e=>by
    rcases h with h|h
    · rw [h,z,z']
    · rw [h,e]
  obtain ⟨a1,a2,a3,a4,a5,a6,a7,a8⟩:=bit_or x
  rw [bits_of x,hf,hf,hf,hf,hf,hf,hf,hg,hg,hg,hg,hg,hg,hg,key _ _ a1 h1,key _ _ a2 h2,key _ _ a3 h4,key _ _ a4 h8,key _ _ a5 h16,key _ _ a6 h32,key _ _ a7 h64,key _ _ a8 h128]
theorem and1_xor (x y:UInt8):(x ^^^ y) &&& 1=(x &&& 1) ^^^ (y &&& 1):=by
  apply UInt8.toBitVec_inj.1
  simp only [UInt8.toBitVec_and,UInt8.toBitVec_xor]
  apply BitVec.eq_of_getElem_eq
  intro i hi
  simp only [BitVec.getElem_and,BitVec.getElem_xor]
  cases (x.toBitVec[i]) <;> cases (y.toBitVec[i]) <;> simp
theorem bit_xor (x y:UInt8) (i:UInt8):(x ^^^ y) >>> i &&& 1=(x >>> i &&& 1) ^^^ (y >>> i &&& 1):=by
  rw [UInt8.shiftRight_xor,and1_xor]
theorem bit01 (x i:UInt8):x >>> i &&& 1=0∨x >>> i &&& 1=1:=(bit_or (x >>> i)).1
def QX (c v:UInt8):UInt8:=if c=1 then v else 0
theorem YT {c d:UInt8} (v:UInt8) (hc:c=0∨c=1) (hd:d=0∨d=1):QX (c ^^^ d) v=QX c v ^^^ QX d v:=by
  rcases hc with rfl|rfl <;> rcases hd with rfl|rfl <;> simp [QX]
theorem pick8_lin (c:UInt8):XK (QX c):=fun x y=>by unfold QX;split <;> simp
theorem PZ (a b:UInt8) (i:Nat):gm a b (i+1)=gm a b i ^^^ QX (b >>> UInt8.ofNat i &&& 1) (xtn a i):=by
  unfold QX
  by_cases h:b >>> UInt8.ofNat i &&& 1=1
  · rw [if_pos h,gm_yes a b i h]
  · rw [if_neg h,gm_no a b i h,xor_zero]
theorem gm_lin (a:UInt8):∀ i,XK fun b=>gm a b i
  | 0=>fun _ _=>by simp [gm]
  | i+1=>fun x y=>by
    show gm a (x ^^^ y) (i+1)=gm a x (i+1) ^^^ gm a y (i+1)
    rw [PZ,PZ,PZ,bit_xor,YT _ (bit01 _ _) (bit01 _ _),show gm a (x ^^^ y) i=_ from gm_lin a i x y,xor4]
theorem KE (a:UInt8):XK (BR a):=gm_lin a 8
theorem xt_eq (a:UInt8):xt a=a <<< 1 ^^^ QX (a >>> 7 &&& 1) 27:=
  of_decide_eq_true (all8 (fun a=>decide (xt a=a <<< 1 ^^^ QX (a >>> 7 &&& 1) 27)) (by decide +kernel) a)
theorem xt_lin:XK xt:=fun x y=>by
  rw [xt_eq,xt_eq,xt_eq,bit_xor,YT _ (bit01 _ _) (bit01 _ _),UInt8.shiftLeft_xor,xor4]
theorem xtn_lin:∀ i,XK fun a=>xtn a i
  | 0=>XK.id
  | i+1=>xt_lin.comp (xtn_lin i)
theorem gm_lin2 (b:UInt8):∀ i,XK fun a=>gm a b i
  | 0=>fun _ _=>by simp [gm]
  | i+1=>fun x y=>by
    show gm (x ^^^ y) b (i+1)=gm x b (i+1) ^^^ gm y b (i+1)
    rw [PZ,PZ,PZ,show xtn (x ^^^ y) i=_ from xtn_lin i x y,pick8_lin,show gm (x ^^^ y) b i=_ from gm_lin2 b i x y,xor4]
theorem JU (b:UInt8):XK fun a=>BR a b:=gm_lin2 b 8
theorem JS (a b:UInt8):BR a b=BR b a:=by
  have key:∀ c:UInt8,(BR c 1=BR 1 c∧BR c 2=BR 2 c∧BR c 4=BR 4 c∧BR c 8=BR 8 c∧BR c 16=BR 16 c∧BR c 32=BR 32 c∧BR c 64=BR 64 c∧BR c 128=BR 128 c):=fun c=>
    of_decide_eq_true (all8 (fun c=>decide (BR c 1=BR 1 c∧BR c 2=BR 2 c∧BR c 4=BR 4 c∧BR c 8=BR 8 c∧BR c 16=BR 16 c∧BR c 32=BR 32 c∧BR c 64=BR 64 c∧BR c 128=BR 128 c)) (by decide +kernel) c)
  obtain ⟨h1,h2,h3,h4,h5,h6,h7,h8⟩:=key a
  exact lin_ext (KE a) (JU a) h1 h2 h3 h4 h5 h6 h7 h8 b
theorem NQ (a:UInt8):BR a 1=a:=of_decide_eq_true (all8 (fun a=>decide (BR a 1=a)) (by decide +kernel) a)
theorem SH (a:UInt8):BR 1 a=a:=by rw [JS,NQ]
theorem JV (a:UInt8):BR a 0=0:=(KE a).zero
theorem ED (a:UInt8):BR 0 a=0:=(JU a).zero
theorem RW (a b c:UInt8):BR a (b ^^^ c)=BR a b ^^^ BR a c:=KE a b c
theorem PA (a b c:UInt8):BR (a ^^^ b) c=BR a c ^^^ BR b c:=JU c a b
def pw2:List UInt8:=[1,2,4,8,16,32,64,128]
theorem lin_ext' {f g:UInt8→UInt8} (hf:XK f) (hg:XK g) (h:∀ b∈pw2,f b=g b) (x:UInt8):f x=g x:=
  lin_ext hf hg (h _ (by simp [pw2])) (h _ (by simp [pw2])) (h _ (by simp [pw2])) (h _ (by simp [pw2])) (h _ (by simp [pw2])) (h _ (by simp [pw2])) (h _ (by simp [pw2])) (h _ (by simp [pw2])) x
theorem assoc_basis:∀ a∈pw2,∀ b∈pw2,∀ c∈pw2,BR (BR a b) c=BR a (BR b c):=by decide +kernel
theorem HI (a b c:UInt8):BR (BR a b) c=BR a (BR b c):=by
  refine lin_ext' (f:=fun a=>BR (BR a b) c) (g:=fun a=>BR a (BR b c)) ((JU c).comp (JU b)) (JU _) (fun a ha=>?_) a
  refine lin_ext' (f:=fun b=>BR (BR a b) c) (g:=fun b=>BR a (BR b c)) ((JU c).comp (KE a)) ((KE a).comp (JU c)) (fun b hb=>?_) b
  exact lin_ext' (f:=fun c=>BR (BR a b) c) (g:=fun c=>BR a (BR b c)) (KE _) ((KE a).comp (KE b)) (fun c hc=>assoc_basis a ha b hb c hc) c
theorem RX (a:UInt8) (m:Nat):∀ n,KH a (m+n)=BR (KH a m) (KH a n)
  | 0=>by simp [KH,NQ]
  | n+1=>by rw [← Nat.add_assoc];simp only [KH];rw [RX a m n,HI]
theorem gpow_one (a:UInt8):KH a 1=a:=by simp [KH,SH]
def fast (a:UInt8):UInt8:=
  let a2:=BR a a;let a4:=BR a2 a2;let a8:=BR a4 a4;let a16:=BR a8 a8;let a32:=BR a16 a16;let a64:=BR a32 a32;let a128:=BR a64 a64
  BR a128 (BR a64 (BR a32 (BR a16 (BR a8 (BR a4 a2)))))
theorem ginv_fast (a:UInt8):GK a=fast a:=by
  have h2:BR a a=KH a 2:=by rw [show (2:Nat)=1+1 from rfl,RX,gpow_one]
  have dbl:∀ n,BR (KH a n) (KH a n)=KH a (n+n):=fun n=>(RX a n n).symm
  unfold fast GK
  simp only [h2,dbl,← RX]
theorem NF {a:UInt8} (h:a≠0):BR a (GK a)=1:=by
  have:=all8 (fun a=>decide (a=0∨BR a (fast a)=1)) (by decide +kernel) a
  rw [ginv_fast];exact (of_decide_eq_true this).resolve_left h
theorem OH {a b:UInt8}:BR a b=0↔a=0∨b=0:=by
  constructor
  · intro h
    by_cases ha:a=0
    · exact .inl ha
    · right
      have:=congrArg (BR (GK a)) h
      rwa [JV,← HI,JS (GK a),NF ha,SH] at this
  · rintro (rfl|rfl)
    · exact ED _
    · exact JV _
def QU (c:Bool) (v:Nat):Nat:=if c then v else 0
theorem YK (c d:Bool) (v:Nat):QU (c ^^ d) v=QU c v ^^^ QU d v:=by cases c <;> cases d <;> simp [QU]
theorem xorN4 (a b c d:Nat):(a ^^^ b) ^^^ (c ^^^ d)=(a ^^^ c) ^^^ (b ^^^ d):=by
  rw [Nat.xor_assoc,Nat.xor_assoc,← Nat.xor_assoc b c d,Nat.xor_comm b c,Nat.xor_assoc c b d]
theorem cl_succ (a b i:Nat):cl a b (i+1)=cl a b i ^^^ QU (b.testBit i) (a*2 ^ i):=by
  rw [Nat.testBit_eq_decide_div_mod_eq]
  by_cases h:b / 2 ^ i % 2=1
  · rw [cl_yes a b i h];simp [QU,h]
  · rw [cl_no a b i h];simp [QU,h]
theorem VW (p j:Nat):OW p (j+1)=OW p j ^^^ QU ((OW p j).testBit (14 - j)) (283*2 ^ (14 - j - 8)):=by
  rw [Nat.testBit_eq_decide_div_mod_eq]
  by_cases h:OW p j / 2 ^ (14 - j) % 2=1
  · rw [red_yes p j h];simp [QU,h]
  · rw [red_no p j h];simp [QU,h]
theorem cl_xor (a b c:Nat):∀ i,cl a (b ^^^ c) i=cl a b i ^^^ cl a c i
  | 0=>by simp [cl]
  | i+1=>by rw [cl_succ,cl_succ,cl_succ,cl_xor a b c i,Nat.testBit_xor,YK,xorN4]
theorem red_xor (p q:Nat):∀ j,OW (p ^^^ q) j=OW p j ^^^ OW q j
  | 0=>rfl
  | j+1=>by rw [VW,VW,VW,red_xor p q j,Nat.testBit_xor,YK,xorN4]
theorem PD (n:Nat):DZ (n:Int)=UInt8.ofNat n:=by
  unfold DZ
  rw [show ((n:Int) % 256).toNat=n % 256 by omega]
  exact UInt8.toNat_inj.1 (by simp)
theorem refMul_lin (a:UInt8):XK (DX a):=fun x y=>by
  show DZ _=DZ _ ^^^ DZ _
  rw [PD,PD,PD,UInt8.toNat_xor,cl_xor,red_xor,UInt8.ofNat_xor]
theorem GQ (a b:UInt8):DX a b=BR a b:=by
  have key:∀ c:UInt8,(DX c 1=BR c 1∧DX c 2=BR c 2∧DX c 4=BR c 4∧DX c 8=BR c 8∧DX c 16=BR c 16∧DX c 32=BR c 32∧DX c 64=BR c 64∧DX c 128=BR c 128):=fun c=>
    of_decide_eq_true (all8 (fun c=>decide (DX c 1=BR c 1∧DX c 2=BR c 2∧DX c 4=BR c 4∧DX c 8=BR c 8∧DX c 16=BR c 16∧DX c 32=BR c 32∧DX c 64=BR c 64∧DX c 128=BR c 128)) (by decide +kernel) c)
  obtain ⟨h1,h2,h3,h4,h5,h6,h7,h8⟩:=key a
  exact lin_ext (refMul_lin a) (KE a) h1 h2 h3 h4 h5 h6 h7 h8 b
theorem ginv_unique {a b:UInt8} (h:BR a b=1):b=GK a:=by
  have ha:a≠0:=fun e=>by rw [e,ED] at h;exact absurd h (by decide)
  calc b=BR 1 b:=(SH b).symm
    _=BR (BR (GK a) a) b:=by rw [JS (GK a),NF ha]
    _=GK a:=by rw [HI,h,NQ]
theorem WQ {β:Type} {f:Nat→Option β} {d r:β}:∀ (m i:Nat),(∃ k,i≤k∧k<i+m∧f k≠none)→(∀ k,i≤k→k<i+m→f k=none∨f k=some r)→EW f d i m=r
  | 0,i,⟨k,h1,h2,_⟩,_=>by omega
  | m+1,i,⟨k,h1,h2,h3⟩,h=>by
    unfold EW
    rcases h i (by omega) (by omega) with h4|h4
    · rw [h4]
      refine WQ m (i+1) ⟨k,?_,by omega,h3⟩ (fun k' a b=>h k' (by omega) (by omega))
      rcases Nat.lt_or_eq_of_le h1 with h5|h5
      · exact h5
      · subst h5;exact absurd h4 h3
    · rw [h4]
theorem scan_all {β:Type} {f:Nat→Option β} {d:β}:∀ (m i:Nat),(∀ k,i≤k→k<i+m→f k=none)→EW f d i m=d
  | 0,i,_=>rfl
  | m+1,i,h=>by unfold EW;rw [h i (by omega) (by omega)];exact scan_all m (i+1) fun k a b=>h k (by omega) (by omega)
theorem refInv_eq (a:UInt8):IC a=inv a:=by
  unfold IC inv
  by_cases h:a=0
  · subst h
    rw [scan_all];rfl
    intro k _ _
    rw [GQ,ED];rfl
  · have h1:=NF h
    have hi:GK a≠0:=fun e=>by rw [e,JV] at h1;exact absurd h1 (by decide)
    rw [if_neg (by simpa using h)]
    refine WQ _ _ ⟨(GK a).toNat,?_,?_,?_⟩ fun k hk1 hk2=>?_
    · have:(GK a).toNat≠0:=fun e=>hi (UInt8.toNat_inj.1 e)
      omega
    · have:=(GK a).toNat_lt;omega
    · rw [PD,UInt8.ofNat_toNat,GQ,h1];simp
    · by_cases hm:DX a (DZ (k:Int))=1
      · right;rw [if_pos (by simpa using hm)];rw [GQ] at hm;rw [ginv_unique hm]
      · left;rw [if_neg (by simpa using hm)]
theorem RN (a b:UInt8) (h:b≠0):HB a b=BR a (GK b):=by
  unfold HB;rw [GQ,refInv_eq];unfold inv;rw [if_neg (by simpa using h)]
open Go.Fw
theorem gmul_lc (a b c:UInt8):BR a (BR b c)=BR b (BR a c):=by rw [← HI,JS a b,HI]
theorem SE (x:UInt8):ER [] x=0:=rfl
theorem GT (c:UInt8) (l:List UInt8) (x:UInt8):ER (c :: l) x=BR (ER l x) x ^^^ c:=rfl
theorem SS (i:Nat):([]:List UInt8)[i]! = 0:=rfl
theorem IE (c:UInt8) (l:List UInt8) (i:Nat):(c :: l)[i+1]! = l[i]!:=by simp
theorem EQ {l:List UInt8} {i:Nat} (h:l.length≤i):l[i]! = 0:=by
  rw [getElem!_def,List.getElem?_eq_none h];rfl
theorem LD:∀ (l:List UInt8),(∀ i:Nat,l[i]! = 0)→∀ x,ER l x=0
  | [],_,_=>rfl
  | c :: l,h,x=>by
    have h0:c=0:=h 0
    rw [GT,LD l (fun i=>by have:=h (i+1);rwa [IE] at this) x,ED,h0];rfl
theorem LR:∀ (l m:List UInt8),(∀ i:Nat,l[i]! = m[i]!)→∀ x,ER l x=ER m x
  | [],m,h,x=>by rw [LD m (fun i=>by rw [← h i];rfl) x];rfl
  | c :: l,[],h,x=>by rw [LD (c :: l) (fun i=>by rw [h i];rfl) x];rfl
  | c :: l,d :: m,h,x=>by
    have h0:c=d:=h 0
    rw [GT,GT,LR l m (fun i=>by have:=h (i+1);rwa [IE,IE] at this) x,h0]
theorem QF:∀ (l m r:List UInt8),(∀ i:Nat,r[i]! = l[i]! ^^^ m[i]!)→∀ x,ER r x=ER l x ^^^ ER m x
  | l,m,[],h,x=>by
    have h1:∀ i:Nat,l[i]! = m[i]!:=fun i=>JT.1 ((h i).symm.trans (SS i))
    rw [LR l m h1 x,xor_self];rfl
  | [],m,r,h,x=>by rw [LR r m (fun i=>by rw [h i,SS,zero_xor]) x,SE,zero_xor]
  | l,[],r,h,x=>by rw [LR r l (fun i=>by rw [h i,SS,xor_zero]) x,SE,xor_zero]
  | a :: l,b :: m,c :: r,h,x=>by
    have h0:c=a ^^^ b:=h 0
    rw [GT,GT,GT,QF l m r (fun i=>by have:=h (i+1);rwa [IE,IE,IE] at this) x,PA,h0,xor4]
theorem SC (k:UInt8):∀ (l r:List UInt8),(∀ i:Nat,r[i]! = BR l[i]! k)→∀ x,ER r x=BR (ER l x) k
  | l,[],h,x=>by
    by_cases hk:k=0
    · rw [hk,JV];rfl
    · rw [LD l (fun i=>by
        have:=(h i).symm.trans (SS i)
        exact (OH.1 this).resolve_right hk) x,ED];rfl
  | [],r,h,x=>by rw [LD r (fun i=>by rw [h i,SS,ED]) x,SE,ED]
  | a :: l,c :: r,h,x=>by
    have h0:c=BR a k:=h 0
    rw [GT,GT,SC k l r (fun i=>by have:=h (i+1);rwa [IE,IE] at this) x,PA,h0,HI,JS k x,← HI]
theorem pev_snoc (c x:UInt8):∀ (l:List UInt8),ER (l++[c]) x=ER l x ^^^ BR c (KH x l.length)
  | []=>by simp [ER,KH,NQ,ED]
  | a :: l=>by
    rw [List.cons_append,GT,pev_snoc c x l,GT,PA,HI,QT,QT,VF a]
    rfl
theorem UB (l:List UInt8) (x:UInt8):∀ k,k≤l.length→EM l x k=(ER (l.take k) x,KH x k)
  | 0,_=>rfl
  | k+1,h=>by
    have ih:=UB l x k (by omega)
    unfold EM
    rw [ih,YS (by omega),pev_snoc,List.length_take,Nat.min_eq_left (by omega),GQ,GQ]
    rfl
theorem refEval_eq (l:List UInt8) (x:UInt8):FQ l x=ER l x:=by
  unfold FQ;rw [UB l x _ (Nat.le_refl _),List.take_length]
def sd (r:UInt8):List UInt8→List UInt8
  | []=>[]
  | _ :: l=>ER l r :: sd r l
theorem TC (r:UInt8):∀ (l:List UInt8) (i:Nat),(sd r l)[i]! = ER (l.drop (i+1)) r
  | [],i=>by rw [List.drop_nil];rfl
  | c :: l,0=>rfl
  | c :: l,i+1=>by rw [sd,IE,TC r l i];rfl
theorem VV (r x:UInt8):∀ (l:List UInt8),ER l x=BR (x ^^^ r) (ER (sd r l) x) ^^^ ER l r
  | []=>by simp [sd,ER,JV]
  | c :: l=>by
    have ih:=VV r x l
    have e:BR (ER l x) x=BR (x ^^^ r) (ER (sd r (c :: l)) x) ^^^ BR (ER l r) r:=by
      rw [ih]
      show _=BR (x ^^^ r) (BR (ER (sd r l) x) x ^^^ ER l r) ^^^ BR (ER l r) r
      rw [PA,RW (x ^^^ r),HI,QT,PA x r (ER l r),QT,JS r (ER l r),xor_self,xor_zero,JS x (ER l r)]
    rw [GT,GT,e,QT]
theorem get_drop (l:List UInt8) (i j:Nat):(l.drop i)[j]! = l[i+j]!:=by
  rw [getElem!_def,getElem!_def,List.getElem?_drop]
theorem WR (l:List UInt8) (r:UInt8) (i:Nat):ER (l.drop i) r=BR (ER (l.drop (i+1)) r) r ^^^ l[i]!:=by
  by_cases h:i<l.length
  · exact pev_drop h
  · rw [List.drop_eq_nil_of_le (by omega),List.drop_eq_nil_of_le (by omega),EQ (by omega),SE,ED];rfl
theorem RI:∀ (xs:List UInt8),xs.Nodup→∀ (l:List UInt8),(∀ i:Nat,xs.length≤i→l[i]! = 0)→(∀ x∈xs,ER l x=0)→∀ i:Nat,l[i]! = 0
  | [],_,l,h,_=>fun i=>h i (Nat.zero_le _)
  | r :: xs,hn,l,h,hx=>by
    obtain ⟨hr,hn'⟩:=List.nodup_cons.1 hn
    have hpr:ER l r=0:=hx r (by simp)
    have hq:∀ i:Nat,(sd r l)[i]! = 0:=RI xs hn' (sd r l) (fun i hi=>by
        rw [TC]
        exact LD _ (fun j=>by rw [get_drop];exact h _ (by simp;omega)) r) (fun x hxs=>by
        have h1:=VV r x l
        rw [hx x (by simp [hxs]),hpr,xor_zero] at h1
        rcases OH.1 h1.symm with h2|h2
        · exact absurd (JT.1 h2) (fun e=>hr (e ▸ hxs))
        · exact h2)
    intro i
    have hi:ER (l.drop i) r=0:=by
      cases i with
      | zero=>exact hpr
      | succ i=>rw [← TC];exact hq i
    have h2:=WR l r i
    rw [hi,← TC,hq i,ED,zero_xor] at h2
    exact h2.symm
theorem XH {xs:List UInt8} (hn:xs.Nodup) {l m:List UInt8} (hl:∀ i:Nat,xs.length≤i→l[i]! = 0) (hm:∀ i:Nat,xs.length≤i→m[i]! = 0) (h:∀ x∈xs,ER l x=ER m x):∀ i:Nat,l[i]! = m[i]!:=by
  intro i
  have hd:∃ d:List UInt8,∀ i:Nat,d[i]! = l[i]! ^^^ m[i]!:=by
    refine ⟨(List.range (max l.length m.length)).map fun i=>l[i]! ^^^ m[i]!,fun i=>?_⟩
    by_cases hi:i<max l.length m.length
    · rw [getElem!_pos _ i (by simpa using hi)];simp
    · rw [EQ (by simpa using hi),EQ (l:=l) (by omega),EQ (l:=m) (by omega)];rfl
  obtain ⟨d,hd⟩:=hd
  have:=RI xs hn d (fun i hi=>by rw [hd,hl i hi,hm i hi];rfl) (fun x hx=>by rw [QF l m d hd,h x hx,xor_self]) i
  rw [hd] at this
  exact JT.1 this
theorem RR {l m:List UInt8} (hlen:l.length=m.length) (h:∀ i:Nat,l[i]! = m[i]!):l=m:=by
  apply List.ext_getElem hlen
  intro i h1 h2
  have:=h i
  rwa [getElem!_pos l i h1,getElem!_pos m i h2] at this
open Go.Fw
theorem KI (l:List UInt8) (i:Nat) (v:UInt8) (j:Nat):(l.set i v)[j]! = if i=j∧i<l.length then v else l[j]!:=by
  rw [getElem!_def,List.getElem?_set,getElem!_def]
  by_cases h:i=j
  · subst h
    by_cases h2:i<l.length
    · simp [h2]
    · rw [if_pos rfl,if_neg h2,if_neg (fun h=>h2 h.2),List.getElem?_eq_none (by omega)]
  · rw [if_neg h,if_neg (fun h'=>h h'.1)]
theorem WY (l m:List UInt8) (i:Nat):(l++m)[i]! = if i<l.length then l[i]! else m[i - l.length]!:=by
  by_cases h:i<l.length
  · rw [if_pos h,getElem!_def,getElem!_def,List.getElem?_append_left h]
  · rw [if_neg h,getElem!_def,getElem!_def,List.getElem?_append_right (by omega)]
theorem MW (n i:Nat):(List.replicate n (0:UInt8))[i]! = 0:=by
  by_cases h:i<n
  · rw [getElem!_pos _ i (by simpa using h)];simp
  · exact EQ (by simpa using h)
theorem HA (l:List UInt8) (k:UInt8) (i:Nat):(l.map (BR · k))[i]! = BR l[i]! k:=by
  by_cases h:i<l.length
  · rw [getElem!_pos _ i (by simpa using h),getElem!_pos _ i h];simp
  · rw [EQ (by simpa using h),EQ (by omega),ED]
theorem SU {l:List UInt8} {k:Nat} (x:UInt8):(l.take k).contains x=true↔∃ i,i<k∧i<l.length∧l[i]! = x:=by
  rw [List.contains_iff_mem,List.mem_iff_getElem?]
  constructor
  · rintro ⟨i,h⟩
    rw [List.getElem?_take] at h
    split at h
    · rename_i hk
      obtain ⟨h1,h2⟩:=List.getElem?_eq_some_iff.1 h
      exact ⟨i,hk,h1,by rw [getElem!_pos l i h1,h2]⟩
    · cases h
  · rintro ⟨i,hk,hl,h⟩
    exact ⟨i,by rw [List.getElem?_take,if_pos hk,List.getElem?_eq_getElem hl,← h,getElem!_pos l i hl]⟩
theorem IK {l:List UInt8}:l.Nodup↔∀ i j,i<j→j<l.length→l[i]!≠l[j]!:=by
  rw [List.nodup_iff_pairwise_ne,List.pairwise_iff_getElem]
  constructor
  · intro h i j hij hj
    rw [getElem!_pos l i (by omega),getElem!_pos l j hj];exact h i j (by omega) hj hij
  · intro h i j hi hj hij
    have:=h i j hij hj
    rwa [getElem!_pos l i hi,getElem!_pos l j hj] at this
theorem scan_false {f:Nat→Option Bool} (m i:Nat) (hf:∀ k,f k=none∨f k=some true):EW f false i m=false↔∀ k,i≤k→k<i+m→f k=none:=by
  induction m generalizing i with
  | zero=>exact ⟨fun _ k h1 h2=>by omega,fun _=>rfl⟩
  | succ m ih=>
    unfold EW
    rcases hf i with h|h
    · rw [h];simp only
      rw [ih (i+1)]
      constructor
      · intro h1 k hk hk2
        rcases Nat.lt_or_eq_of_le hk with h3|h3
        · exact h1 k (by omega) (by omega)
        · exact h3 ▸ h
      · intro h1 k hk hk2;exact h1 k (by omega) (by omega)
    · rw [h];simp only
      constructor
      · intro e;cases e
      · intro h1;rw [h1 i (Nat.le_refl _) (by omega)] at h;cases h
theorem NR {f:Nat→Option Bool} (m i:Nat) (hf:∀ k,f k=none∨f k=some false):EW f true i m=true↔∀ k,i≤k→k<i+m→f k=none:=by
  induction m generalizing i with
  | zero=>exact ⟨fun _ k h1 h2=>by omega,fun _=>rfl⟩
  | succ m ih=>
    unfold EW
    rcases hf i with h|h
    · rw [h];simp only
      rw [ih (i+1)]
      constructor
      · intro h1 k hk hk2
        rcases Nat.lt_or_eq_of_le hk with h3|h3
        · exact h1 k (by omega) (by omega)
        · exact h3 ▸ h
      · intro h1 k hk hk2;exact h1 k (by omega) (by omega)
    · rw [h];simp only
      constructor
      · intro e;cases e
      · intro h1;rw [h1 i (Nat.le_refl _) (by omega)] at h;cases h
theorem LT (xs ys:List UInt8):GJ xs ys=false↔xs.length=ys.length∧xs.Nodup:=by
  unfold GJ twice
  by_cases e:xs.length=ys.length
  · rw [if_neg (by simp;omega)]
    rw [scan_false _ _ (fun k=>by split <;> simp),IK]
    constructor
    · intro h
      refine ⟨e,fun i j hij hj hx=>?_⟩
      have:=h j (Nat.zero_le _) (by omega)
      rw [if_pos ((SU _).2 ⟨i,hij,by omega,hx⟩)] at this;cases this
    · rintro ⟨_,h⟩ k _ hk
      rw [if_neg]
      intro hc
      obtain ⟨i,hi,hl,hx⟩:=(SU _).1 hc
      exact h i k hi (by omega) hx
  · rw [if_pos (by simp;omega)];simp [e]
theorem XF (xs ys:List UInt8):EY xs ys=true↔xs.length=ys.length∧xs.Nodup:=by
  unfold EY OI
  by_cases e:xs.length=ys.length
  · rw [if_neg (by simp;omega)]
    rw [NR _ _ (fun k=>by split <;> simp),IK]
    have key:∀ k,MP xs k=true↔∀ i,i<k→xs[i]!≠xs[k]!:=fun k=>by
      unfold MP
      rw [NR _ _ (fun k=>by split <;> simp)]
      constructor
      · intro h i hi hx
        have:=h i (Nat.zero_le _) (by omega)
        rw [if_pos (by simpa using hx)] at this;cases this
      · intro h i _ hi
        rw [if_neg (by simpa using h i (by omega))]
    constructor
    · intro h
      refine ⟨e,fun i j hij hj=>?_⟩
      have:=h j (Nat.zero_le _) (by omega)
      split at this
      · rename_i h1;exact (key j).1 h1 i hij
      · cases this
    · rintro ⟨_,h⟩ k _ hk
      rw [if_pos ((key k).2 fun i hi=>h i k hi (by omega))]
  · rw [if_pos (by simp;omega)];simp [e]
theorem OK (xs ys:List UInt8):EY xs ys = !GJ xs ys:=by
  rw [Bool.eq_iff_iff,XF,Bool.not_eq_true',LT]
theorem tmS_get (l:List UInt8) (a b:UInt8):∀ k,k≤l.length→∀ i:Nat,(tmS l a b k)[i]! = (if i<k then BR l[i]! a else 0) ^^^ (if 0<i∧i - 1<k then BR l[i - 1]! b else 0)
  | 0,_,i=>by rw [tmS,MW,if_neg (by omega),if_neg (by omega)];rfl
  | k+1,h,i=>by
    have ih:=tmS_get l a b k (by omega)
    have hl:=tmS_len l a b k
    simp only [tmS,KI,List.length_set,hl,ih,GQ]
    by_cases h1:k+1=i
    · subst h1
      simp only [Nat.add_sub_cancel,true_and]
      repeat' split
      all_goals first|omega|(simp;done)|(simp_all;done)
    · by_cases h2:k=i
      · subst h2
        repeat' split
        all_goals first|omega|(simp [VF];done)|(simp_all [VF];done)
      · rw [if_neg (by omega),if_neg (by omega)]
        congr 1
        · by_cases h3:i<k
          · rw [if_pos h3,if_pos (by omega)]
          · rw [if_neg h3,if_neg (by omega)]
        · by_cases h3:0<i∧i - 1<k
          · rw [if_pos h3,if_pos (by omega)]
          · rw [if_neg h3,if_neg (by omega)]
theorem pev_times (l:List UInt8) (a b x:UInt8):ER (times l a b) x=BR (ER l x) (a ^^^ BR b x):=by
  have h1:ER (l.map (BR · a)) x=BR (ER l x) a:=SC a l _ (fun i=>HA l a i) x
  have h2:ER (0 :: l.map (BR · b)) x=BR (BR (ER l x) b) x:=by rw [GT,SC b l _ (fun i=>HA l b i) x,xor_zero]
  rw [QF (l.map (BR · a)) (0 :: l.map (BR · b)) (times l a b) (fun i=>by
    rw [times,tmS_get l a b _ (Nat.le_refl _) i,HA]
    congr 1
    · by_cases h:i<l.length
      · rw [if_pos h]
      · rw [if_neg h,EQ (by omega),ED]
    · cases i with
      | zero=>rfl
      | succ i=>
        rw [IE,HA]
        by_cases h:i<l.length
        · rw [if_pos (by omega)];rfl
        · rw [if_neg (by omega),EQ (l:=l) (by omega),ED]) x,h1,h2,HI,RW]
theorem addS_get (l one:List UInt8):∀ k,k≤l.length→∀ i:Nat,(addS l one k)[i]! = l[i]! ^^^ (if i<k then one[i]! else 0)
  | 0,_,i=>by simp [addS]
  | k+1,h,i=>by
    have ih:=addS_get l one k (by omega)
    simp only [addS,KI,VU,ih]
    by_cases h1:k=i
    · subst h1;rw [if_pos (by simp;omega),if_neg (by omega),if_pos (by omega),xor_zero]
    · rw [if_neg (by omega)]
      congr 1
      by_cases h3:i<k
      · rw [if_pos h3,if_pos (by omega)]
      · rw [if_neg h3,if_neg (by omega)]
theorem pev_addS (l one:List UInt8) (h:one.length≤l.length) (x:UInt8):ER (addS l one one.length) x=ER l x ^^^ ER one x:=
  QF l one _ (fun i=>by
    rw [addS_get l one _ h i]
    by_cases h3:i<one.length
    · rw [if_pos h3]
    · rw [if_neg h3,EQ (l:=one) (by omega)]) x
theorem refOver_one {d:UInt8} (h:d≠0):HB 1 d=GK d:=by rw [RN _ _ h,SH]
theorem refOver_zero (d:UInt8):HB 0 d=0:=by unfold HB;rw [GQ,ED]
theorem refOver_self {d:UInt8} (h:d≠0):HB d d=1:=by rw [RN _ _ h,NF h]
theorem WC {xs ys:List UInt8} (hn:xs.Nodup) {i:Nat} (hi:i<xs.length) (x:UInt8):∀ k,k≤xs.length→ER (MY xs ys i k) x=FO xs x i ys[i]! k
  | 0,_=>by simp [MY,FO,ER,ED]
  | k+1,h=>by
    have ih:=WC (ys:=ys) hn hi x k (by omega)
    unfold MY FO
    by_cases hk:k=i
    · rw [if_neg (by simpa using hk),if_neg (by simpa using hk),ih]
    · have hd:xs[i]! ^^^ xs[k]!≠0:=fun e=>by
        rw [JT] at e
        rcases Nat.lt_or_gt_of_ne hk with h1|h1
        · exact IK.1 hn k i h1 hi e.symm
        · exact IK.1 hn i k h1 (by omega) e
      rw [if_pos hk,if_pos hk,pev_times,ih,GQ,GQ,refOver_one hd,RN _ _ hd,← RW,JS (GK _),VF]
theorem RB {xs ys:List UInt8} (hn:xs.Nodup) (x:UInt8):∀ i,i≤xs.length→ER (MV xs ys i) x=IV xs ys x i
  | 0,_=>by simp only [MV,IV];exact LD _ (MW _) x
  | i+1,h=>by
    unfold MV IV
    rw [pev_addS _ _ (by rw [VM,RK];split <;> omega),RB hn x i (by omega),WC hn (by omega) x _ (Nat.le_refl _)]
theorem NY {xs:List UInt8} {i j:Nat} (n0:UInt8) (hij:j≠i):∀ k,j<k→FO xs xs[j]! i n0 k=0
  | 0,h=>by omega
  | k+1,h=>by
    unfold FO
    by_cases hk:j=k
    · subst hk;rw [if_pos hij,xor_self,refOver_zero,GQ,JV]
    · split
      · rw [NY n0 hij k (by omega),GQ,ED]
      · exact NY n0 hij k (by omega)
theorem OZ {xs:List UInt8} (hn:xs.Nodup) {i:Nat} (hi:i<xs.length) (n0:UInt8):∀ k,k≤xs.length→FO xs xs[i]! i n0 k=n0
  | 0,_=>rfl
  | k+1,h=>by
    unfold FO
    split
    · rename_i hk
      have hd:xs[i]! ^^^ xs[k]!≠0:=fun e=>by
        rw [JT] at e
        rcases Nat.lt_or_gt_of_ne hk with h1|h1
        · exact IK.1 hn k i h1 hi e.symm
        · exact IK.1 hn i k h1 (by omega) e
      rw [OZ hn hi n0 k (by omega),refOver_self hd,GQ,NQ]
    · exact OZ hn hi n0 k (by omega)
theorem XY {xs ys:List UInt8} (hn:xs.Nodup) {j:Nat} (hj:j<xs.length):∀ i,i≤xs.length→IV xs ys xs[j]! i=if j<i then ys[j]! else 0
  | 0,_=>rfl
  | i+1,h=>by
    unfold IV
    rw [XY hn hj i (by omega)]
    by_cases hji:j=i
    · subst hji;rw [if_neg (by omega),if_pos (by omega),OZ hn hj _ _ (Nat.le_refl _),zero_xor]
    · rw [NY _ hji _ hj,xor_zero]
      by_cases h1:j<i
      · rw [if_pos h1,if_pos (by omega)]
      · rw [if_neg h1,if_neg (by omega)]
structure Thr (xs ys l:List UInt8):Prop where
  len:l.length=xs.length
  at_:∀ i,i<xs.length→ER l xs[i]! = ys[i]!
theorem Thr.unique {xs ys l m:List UInt8} (hn:xs.Nodup) (h:Thr xs ys l) (hm:∀ i:Nat,xs.length≤i→m[i]! = 0) (hv:∀ i,i<xs.length→ER m xs[i]! = ys[i]!):∀ i:Nat,l[i]! = m[i]!:=
  XH hn (fun i hi=>EQ (by rw [h.len];exact hi)) hm (fun x hx=>by
    obtain ⟨i,hi,rfl⟩:=List.getElem_of_mem hx
    have h1:=h.at_ i hi
    have h2:=hv i hi
    rw [getElem!_pos xs i hi] at h1 h2
    rw [h1,h2])
theorem Thr.eq {xs ys l m:List UInt8} (hn:xs.Nodup) (h:Thr xs ys l) (k:Thr xs ys m):l=m:=
  RR (by rw [h.len,k.len]) (h.unique hn (fun i hi=>EQ (by rw [k.len];exact hi)) k.at_)
theorem ref_thr {xs ys:List UInt8} (hn:xs.Nodup):Thr xs ys (MV xs ys xs.length):=
  ⟨RK xs ys _,fun i hi=>by rw [RB hn _ _ (Nat.le_refl _),XY hn hi _ (Nat.le_refl _),if_pos hi]⟩
theorem zrS_get (p:List UInt8) (x:UInt8):∀ j,j≤p.length→∀ i:Nat,(MB p x j)[i]! = if p.length - j≤i∧i<p.length then BR p[i]! x ^^^ (if 0<i then p[i - 1]! else 0) else p[i]!
  | 0,_,i=>by rw [MB,if_neg (by omega)]
  | j+1,h,i=>by
    have ih:=zrS_get p x j (by omega)
    have hl:=HY p x j
    unfold MB
    simp only
    by_cases h1:p.length - 1 - j=i
    · subst h1
      by_cases h0:0<p.length - 1 - j
      · rw [if_pos h0]
        rw [KI,List.length_set,hl,if_pos ⟨rfl,by omega⟩,KI,hl,if_pos ⟨rfl,by omega⟩,KI,if_neg (by omega),ih,ih,if_neg (by omega),if_neg (by omega),if_pos ⟨by omega,by omega⟩,if_pos h0]
      · rw [if_neg h0]
        rw [KI,hl,if_pos ⟨rfl,by omega⟩,ih,if_neg (by omega),if_pos ⟨by omega,by omega⟩,if_neg h0,xor_zero]
    · have e:∀ v u:UInt8,(if 0<p.length - 1 - j then ((MB p x j).set (p.length - 1 - j) v).set (p.length - 1 - j) u else (MB p x j).set (p.length - 1 - j) v)[i]! = (MB p x j)[i]!:=fun v u=>by
        split
        · rw [KI,if_neg (by omega),KI,if_neg (by omega)]
        · rw [KI,if_neg (by omega)]
      rw [e,ih]
      by_cases h2:p.length - j≤i∧i<p.length
      · rw [if_pos h2,if_pos (show p.length - (j+1)≤i∧i<p.length by omega)]
      · rw [if_neg h2,if_neg (by omega)]
theorem zrO_get (xs:List UInt8) (k i:Nat):(JP xs (k+1))[i]! = BR (JP xs k)[i]! xs[k]! ^^^ (if 0<i then (JP xs k)[i - 1]! else 0):=by
  have hl:=GG xs k
  have e:∀ i:Nat,(JP xs k++[0])[i]! = (JP xs k)[i]!:=fun i=>by
    rw [WY]
    by_cases h:i<(JP xs k).length
    · rw [if_pos h]
    · rw [if_neg h,EQ (l:=JP xs k) (by omega)]
      by_cases h2:i=(JP xs k).length
      · subst h2;rw [Nat.sub_self];rfl
      · exact EQ (by simp;omega)
  rw [JP,zrS_get _ _ _ (Nat.le_refl _) i,e,e]
  by_cases h:i<(JP xs k++[0]).length
  · rw [if_pos ⟨by omega,h⟩]
  · rw [if_neg (by omega)]
    simp only [List.length_append,List.length_singleton] at h
    rw [EQ (l:=JP xs k) (by omega),ED]
    split
    · rw [EQ (l:=JP xs k) (by omega)];rfl
    · rfl
theorem zrO_pev (xs:List UInt8) (k:Nat) (x:UInt8):ER (JP xs (k+1)) x=BR (ER (JP xs k) x) (x ^^^ xs[k]!):=by
  have h1:ER ((JP xs k).map (BR · xs[k]!)) x=BR (ER (JP xs k) x) xs[k]!:=SC _ _ _ (fun i=>HA _ _ i) x
  have h2:ER (0 :: JP xs k) x=BR (ER (JP xs k) x) x:=by rw [GT,xor_zero]
  rw [QF ((JP xs k).map (BR · xs[k]!)) (0 :: JP xs k) (JP xs (k+1)) (fun i=>by
    rw [zrO_get,HA]
    congr 1
    cases i with
    | zero=>rfl
    | succ i=>rw [IE,if_pos (by omega)];rfl) x,h1,h2,← RW,VF]
theorem zrO_lead (xs:List UInt8):∀ k,(JP xs k)[k]! = 1
  | 0=>rfl
  | k+1=>by
    rw [zrO_get,EQ (l:=JP xs k) (by rw [GG];omega),ED,zero_xor,if_pos (by omega)]
    exact zrO_lead xs k
theorem WK {xs:List UInt8} {j:Nat}:∀ k,j<k→ER (JP xs k) xs[j]! = 0
  | 0,h=>by omega
  | k+1,h=>by
    rw [zrO_pev]
    by_cases hj:j=k
    · subst hj;rw [xor_self,JV]
    · rw [WK k (by omega),ED]
theorem sdC_eq {p:List UInt8} {x:UInt8} {n:Nat} (hp:p.length=n+1):∀ j,j≤n→UN p x n j=ER (p.drop (n+1 - j)) x
  | 0,_=>by rw [Nat.sub_zero,← hp,List.drop_length];rfl
  | j+1,h=>by
    unfold UN
    rw [sdC_eq hp j (by omega),WR p x (n+1 - (j+1)),show n+1 - (j+1)+1=n+1 - j by omega,VF,show n - 1 - j+1=n+1 - (j+1) by omega]
theorem sdQ_get {q0 p:List UInt8} {x:UInt8} {n:Nat} (hq:q0.length=n):∀ j,j≤n→∀ i:Nat,(JB q0 p x n j)[i]! = if n - j≤i∧i<n then UN p x n (n - i) else q0[i]!
  | 0,_,i=>by rw [JB,if_neg (by omega)]
  | j+1,h,i=>by
    unfold JB
    rw [KI,KJ,sdQ_get hq j (by omega)]
    by_cases h1:n - 1 - j=i
    · rw [if_pos ⟨h1,by omega⟩,if_pos (by omega)];congr 1;omega
    · rw [if_neg (by omega)]
      by_cases h2:n - j≤i∧i<n
      · rw [if_pos h2,if_pos (by omega)]
      · rw [if_neg h2,if_neg (by omega)]
theorem sdQ_eq {q0 p:List UInt8} {x:UInt8} {n:Nat} (hq:q0.length=n) (hp:p.length=n+1):∀ i:Nat,(JB q0 p x n n)[i]! = (sd x p)[i]!:=by
  intro i
  rw [sdQ_get hq n (Nat.le_refl _),TC]
  by_cases h:i<n
  · rw [if_pos (by omega),sdC_eq hp _ (by omega),show n+1 - (n - i)=i+1 by omega]
  · rw [if_neg (by omega),EQ (by omega),List.drop_eq_nil_of_le (by omega)];rfl
theorem adF_get (l q:List UInt8) (f:UInt8):∀ k,k≤l.length→∀ i:Nat,(adF l q f k)[i]! = l[i]! ^^^ (if i<k then BR q[i]! f else 0)
  | 0,_,i=>by simp [adF]
  | k+1,h,i=>by
    have ih:=adF_get l q f k (by omega)
    simp only [adF,KI,KC,ih]
    by_cases h1:k=i
    · subst h1;rw [if_pos (by simp;omega),if_neg (by omega),if_pos (by omega),xor_zero]
    · rw [if_neg (by omega)]
      congr 1
      by_cases h3:i<k
      · rw [if_pos h3,if_pos (by omega)]
      · rw [if_neg h3,if_neg (by omega)]
theorem pev_adF {l q:List UInt8} {f:UInt8} {n:Nat} (hl:l.length=n) (hq:q.length=n) (x:UInt8):ER (adF l q f n) x=ER l x ^^^ BR (ER q x) f:=by
  rw [QF l (q.map (BR · f)) _ (fun i=>by
    rw [adF_get l q f _ (by omega) i,HA]
    by_cases h3:i<n
    · rw [if_pos h3]
    · rw [if_neg h3,EQ (l:=q) (by omega),ED]) x,SC f q _ (fun i=>HA q f i) x]
theorem coQ_pev {xs:List UInt8} {i:Nat} (hi:i<xs.length) (x:UInt8):ER (IJ (BG xs) xs xs.length (i+1)) x=ER (sd xs[i]! (BG xs)) x:=
  LR _ _ (fun j=>by rw [IJ];exact sdQ_eq (JA _ _ _ _) (GR xs) j) x
theorem YP {xs:List UInt8} (hn:xs.Nodup) {i j:Nat} (hi:i<xs.length) (hj:j<xs.length) (hij:j≠i):ER (IJ (BG xs) xs xs.length (i+1)) xs[j]! = 0:=by
  rw [coQ_pev hi]
  have h1:=VV xs[i]! xs[j]! (BG xs)
  rw [show ER (BG xs) xs[j]! = 0 from WK _ hj,show ER (BG xs) xs[i]! = 0 from WK _ hi,xor_zero] at h1
  rcases OH.1 h1.symm with h2|h2
  · rw [JT] at h2
    rcases Nat.lt_or_gt_of_ne hij with h3|h3
    · exact absurd h2 (IK.1 hn j i h3 hi)
    · exact absurd h2.symm (IK.1 hn i j h3 hj)
  · exact h2
theorem coQ_self {xs:List UInt8} (hn:xs.Nodup) {i:Nat} (hi:i<xs.length):ER (IJ (BG xs) xs xs.length (i+1)) xs[i]!≠0:=by
  intro e
  have hz:=RI xs hn (IJ (BG xs) xs xs.length (i+1)) (fun j hj=>EQ (by rw [JA];exact hj)) (fun x hx=>by
    obtain ⟨j,hj,rfl⟩:=List.getElem_of_mem hx
    by_cases hji:j=i
    · subst hji;rw [getElem!_pos xs j hj] at e;exact e
    · have:=YP hn hi hj hji
      rwa [getElem!_pos xs j hj] at this) (xs.length - 1)
  rw [IJ,sdQ_eq (JA _ _ _ _) (GR xs),TC,show xs.length - 1+1=xs.length by omega,WR,List.drop_eq_nil_of_le (by rw [GR];omega),SE,ED,zero_xor] at hz
  rw [BG,zrO_lead] at hz
  exact absurd hz (by decide)
theorem coL_at {xs ys:List UInt8} (hn:xs.Nodup) {j:Nat} (hj:j<xs.length):∀ i,i≤xs.length→ER (QQ (BG xs) xs ys xs.length i) xs[j]! = if j<i then ys[j]! else 0
  | 0,_=>by simp only [QQ];rw [LD _ (MW _)];rfl
  | i+1,h=>by
    unfold QQ
    rw [pev_adF (JH _ _ _ _ _) (JA _ _ _ _),coL_at hn hj i (by omega)]
    by_cases hji:j=i
    · subst hji
      rw [if_neg (by omega),if_pos (by omega),zero_xor,gmul_lc,NF (coQ_self hn hj),NQ]
    · rw [YP hn (by omega) hj hji,ED,xor_zero]
      by_cases h1:j<i
      · rw [if_pos h1,if_pos (by omega)]
      · rw [if_neg h1,if_neg (by omega)]
theorem co_thr {xs ys:List UInt8} (hn:xs.Nodup):Thr xs ys (QQ (BG xs) xs ys xs.length xs.length):=
  ⟨JH _ _ _ _ _,fun i hi=>by rw [coL_at hn hi _ (Nat.le_refl _),if_pos hi]⟩
theorem SM {xs ys:List UInt8} (h:GJ xs ys=false):(FD xs ys).2=0∧Thr xs ys (FD xs ys).1∧xs.length=ys.length∧xs.Nodup:=by
  have h':=(LT xs ys).1 h
  unfold FD;rw [h]
  exact ⟨rfl,co_thr h'.2,h'⟩
theorem YI {xs ys:List UInt8} (h:GJ xs ys=true):FD xs ys=([],1):=by unfold FD;rw [h];rfl
theorem refCoeff_eq (xs ys:List UInt8):UZ xs ys=FD xs ys:=by
  unfold UZ FD
  rw [OK]
  cases h:GJ xs ys with
  | true=>rfl
  | false=>
    have h':=(LT xs ys).1 h
    simp only [Bool.not_false,Bool.not_true]
    exact Prod.ext ((ref_thr h'.2).eq h'.2 (co_thr h'.2)) rfl
theorem UT {xs ys:List UInt8} (at_:UInt8) (h:GJ xs ys=false):DI xs ys at_=(ER (FD xs ys).1 at_,0):=by
  unfold DI;rw [(SM h).1];rfl
theorem through_bad {xs ys:List UInt8} (at_:UInt8) (h:GJ xs ys=true):DI xs ys at_=(0,1):=by
  unfold DI;rw [YI h];rfl
theorem XC (xs ys:List UInt8) (at_:UInt8):DU xs ys at_=DI xs ys at_:=by
  unfold DU
  rw [OK]
  cases h:GJ xs ys with
  | true=>rw [through_bad at_ h];rfl
  | false=>
    have h':=(LT xs ys).1 h
    rw [UT at_ h]
    simp only [Bool.not_false,Bool.not_true]
    rw [← refCoeff_eq]
    unfold UZ
    rw [OK,h]
    show (IV xs ys at_ xs.length,(0:Int))=(ER (MV xs ys xs.length) at_,0)
    rw [RB h'.2 _ _ (Nat.le_refl _)]
open Go.Fw
def XD (n:Nat) (f:Nat→UInt8):List UInt8:=(List.range n).map f
theorem tab_succ (n:Nat) (f:Nat→UInt8):XD (n+1) f=XD n f++[f n]:=by simp [XD,List.range_succ]
theorem LA (n:Nat) (f:Nat→UInt8):(XD n f).length=n:=by simp [XD]
theorem OL (n:Nat) (f:Nat→UInt8) (i:Nat):(XD n f)[i]! = if i<n then f i else 0:=by
  by_cases h:i<n
  · rw [if_pos h,getElem!_pos _ i (by rw [LA];exact h)];simp [XD]
  · rw [if_neg h,EQ (by rw [LA];omega)]
open Go.Fw
theorem VL {β:Type} {f:Nat→Option β} {d r:β} (hf:∀ k,f k=none∨f k=some r):∀ (m i:Nat),(EW f d i m=d∧∀ k,i≤k→k<i+m→f k=none)∨(EW f d i m=r∧∃ k,i≤k∧k<i+m∧f k=some r)
  | 0,i=>.inl ⟨rfl,fun k h1 h2=>by omega⟩
  | m+1,i=>by
    unfold EW
    rcases hf i with h|h
    · rw [h]
      rcases VL (d:=d) hf m (i+1) with ⟨h1,h2⟩|⟨h1,k,h2,h3,h4⟩
      · refine .inl ⟨h1,fun k hk hk2=>?_⟩
        rcases Nat.lt_or_eq_of_le hk with h3|h3
        · exact h2 k (by omega) (by omega)
        · exact h3 ▸ h
      · exact .inr ⟨h1,k,by omega,by omega,h4⟩
    · rw [h];exact .inr ⟨rfl,i,Nat.le_refl _,by omega,h⟩
theorem mulb {a b:Int} (ha:0≤a) (ha':a≤1000000) (hb:0≤b) (hb':b≤1000000):-9223372036854775808≤a*b∧a*b≤9223372036854775807:=by
  have h1:a*b≤1000000*1000000:=Int.mul_le_mul ha' hb' hb (by omega)
  have h2:=Int.mul_nonneg ha hb
  omega
theorem mulbN {a b:Nat} (ha:a≤1000000) (hb:b≤1000000):-9223372036854775808≤((a*b:Nat):Int)∧((a*b:Nat):Int)≤9223372036854775807:=by
  have h1:a*b≤1000000*1000000:=Nat.mul_le_mul ha hb
  omega
def RO (f:Share):Bool:=((decide (f.threshold<1) || decide (f.many<f.threshold)) || decide (8<f.many)) || decide (64<(f.data.length:Int))
def OD (f s:Share):Bool:=(s.threshold != f.threshold || s.many != f.many) || ((s.data.length:Int) != (f.data.length:Int))
def KG (l:List Share) (k:Nat):Int:=if k=0 then 0 else l[k - 1]!.index
def alIdx (f s:Share) (last:Int):Bool:=decide (s.index≤last) || decide (f.many<s.index)
def FP (l:List Share):Bool:=if (l.length:Int) == 0 then false else if RO l[0]! then false else
  EW (fun k=>if OD l[0]! l[k]! then some false else if alIdx l[0]! l[k]! (KG l k) then some false else none) true 0 (l.length - 0)
def YN (l:List Share) (k:Nat):Bool:=((((OD l[0]! l[k]!) || decide (l[k]!.index<1)) || decide (l[0]!.many<l[k]!.index)) || (decide (0<(k:Int)) && decide (l[k]!.index≤l[k - 1]!.index)))
def DJ (l:List Share):Bool:=if (l.length:Int) == 0 then false else if RO l[0]! then false else EW (fun k=>if YN l k then some false else none) true 0 (l.length - 0)
def ep1 (l:List Share) (k:Nat):Bool:=(l[k]!.epoch != l[0]!.epoch || decide (l[k]!.epoch<0)) || decide (1048576<l[k]!.epoch)
def BQ (l:List Share):Int:=if !FP l then 80 else EW (fun k=>if ep1 l k then some 81 else none) 0 0 (l.length - 0)
def CI (l:List Share):Int:=if !DJ l then 80 else EW (fun k=>if ep1 l k then some 81 else none) 0 0 (l.length - 0)
theorem MZ:(∀ a b:Bool,((a || b)=true)=(a=true∨b=true))∧(∀ a b:Bool,((a && b)=true)=(a=true∧b=true))∧(∀ b:Bool,(¬ b=true)=(b=false))
    ∧(∀ a b:Bool,((a || b)=false)=(a=false∧b=false))∧(∀ a b:Bool,((a && b)=false)=(a=false∨b=false))
    ∧(∀ (α:Type) [BEq α] [LawfulBEq α] (a b:α),((a != b)=true)=(a≠b))∧(∀ (α:Type) [BEq α] [LawfulBEq α] (a b:α),((a == b)=true)=(a=b))
    ∧(∀ (α:Type) [BEq α] [LawfulBEq α] (a b:α),((a != b)=false)=(a=b))∧(∀ (α:Type) [BEq α] [LawfulBEq α] (a b:α),((a == b)=false)=(a≠b))
    ∧(∀ (p:Prop) [Decidable p],(decide p=true)=p)∧(∀ (p:Prop) [Decidable p],(decide p=false) = ¬ p)
    ∧(∀ (α:Type) (a b:α),(a≠b) = ¬ a=b)∧(∀ b:Bool,((!b)=true)=(b=false))∧(∀ b:Bool,((!b)=false)=(b=true))∧((!true)=false)∧((!false)=true)
    ∧((false=true)=False)∧((¬ True)=False)∧((¬ False)=True)
    ∧(∀ f:Share,RO f=(((decide (f.threshold<1) || decide (f.many<f.threshold)) || decide (8<f.many)) || decide (64<(f.data.length:Int))))
    ∧(∀ f s:Share,OD f s=((s.threshold != f.threshold || s.many != f.many) || ((s.data.length:Int) != (f.data.length:Int))))
    ∧(∀ (f s:Share) (last:Int),alIdx f s last=(decide (s.index≤last) || decide (f.many<s.index)))
    ∧(∀ (l:List Share) (k:Nat),YN l k=((((OD l[0]! l[k]!) || decide (l[k]!.index<1)) || decide (l[0]!.many<l[k]!.index)) || (decide (0<(k:Int)) && decide (l[k]!.index≤l[k - 1]!.index))))
    ∧(∀ (l:List Share) (k:Nat),ep1 l k=((l[k]!.epoch != l[0]!.epoch || decide (l[k]!.epoch<0)) || decide (1048576<l[k]!.epoch))):=
  ⟨dbs.1,dbs.2.1,dbs.2.2.1,dbs.2.2.2.1,dbs.2.2.2.2.1,dbs.2.2.2.2.2.1,dbs.2.2.2.2.2.2.1,dbs.2.2.2.2.2.2.2.1,dbs.2.2.2.2.2.2.2.2.1,dbs.2.2.2.2.2.2.2.2.2.1,dbs.2.2.2.2.2.2.2.2.2.2.1,dbs.2.2.2.2.2.2.2.2.2.2.2.1,dbs.2.2.2.2.2.2.2.2.2.2.2.2.1,dbs.2.2.2.2.2.2.2.2.2.2.2.2.2.1,dbs.2.2.2.2.2.2.2.2.2.2.2.2.2.2.1,dbs.2.2.2.2.2.2.2.2.2.2.2.2.2.2.2.1,dbs.2.2.2.2.2.2.2.2.2.2.2.2.2.2.2.2.1,dbs.2.2.2.2.2.2.2.2.2.2.2.2.2.2.2.2.2.1,dbs.2.2.2.2.2.2.2.2.2.2.2.2.2.2.2.2.2.2,fun _=>rfl,fun _ _=>rfl,fun _ _ _=>rfl,fun _ _=>rfl,fun _ _=>rfl⟩
structure Good (l:List Share):Prop where
  pos:0<l.length
  t1:1≤l[0]!.threshold
  tm:l[0]!.threshold≤l[0]!.many
  m8:l[0]!.many≤8
  d64:l[0]!.data.length≤64
  th:∀ k,k<l.length→l[k]!.threshold=l[0]!.threshold
  ma:∀ k,k<l.length→l[k]!.many=l[0]!.many
  da:∀ k,k<l.length→l[k]!.data.length=l[0]!.data.length
  ix:∀ k,k<l.length→1≤l[k]!.index∧l[k]!.index≤l[0]!.many
  inc:∀ k,k+1<l.length→l[k]!.index<l[k+1]!.index
theorem Good.mono {l:List Share} (h:Good l):∀ (j i:Nat),i<j→j<l.length→l[i]!.index<l[j]!.index
  | 0,i,hi,_=>by omega
  | j+1,i,hi,hj=>by
    have:=h.inc j hj
    by_cases hij:i=j
    · subst hij;exact this
    · have:=h.mono j i (by omega) (by omega);omega
theorem OE (f:Share):RO f=false↔1≤f.threshold∧f.threshold≤f.many∧f.many≤8∧f.data.length≤64:=by
  unfold RO;simp only [Bool.or_eq_false_iff,decide_eq_false_iff_not];omega
theorem IW (f s:Share):OD f s=false↔s.threshold=f.threshold∧s.many=f.many∧s.data.length=f.data.length:=by
  unfold OD;simp only [Bool.or_eq_false_iff,bne_eq_false_iff_eq];omega
theorem SW (l:List Share):FP l=true↔Good l:=by
  unfold FP
  by_cases h0:l.length=0
  · rw [if_pos (by simp;exact List.eq_nil_of_length_eq_zero h0)]
    exact ⟨fun h=>(by cases h),fun h=>by have:=h.pos;omega⟩
  rw [if_neg (by simp;intro h;subst h;simp at h0)]
  cases h1:RO l[0]! with
  | true=>
    simp only [if_true]
    refine ⟨fun h=>by simp at h,fun h=>?_⟩
    have:=(OE l[0]!).2 ⟨h.t1,h.tm,h.m8,h.d64⟩
    rw [this] at h1;cases h1
  | false=>
    simp only [Bool.false_eq_true,if_false]
    obtain ⟨a1,a2,a3,a4⟩:=(OE _).1 h1
    rw [NR _ _ (fun k=>by split;simp;split <;> simp)]
    constructor
    · intro h
      have key:∀ k,k<l.length→(OD l[0]! l[k]! = false)∧(KG l k<l[k]!.index∧l[k]!.index≤l[0]!.many):=fun k hk=>by
        have:=h k (Nat.zero_le _) (by omega)
        split at this
        · cases this
        · rename_i hd
          split at this
          · cases this
          · rename_i hi
            refine ⟨by simpa using hd,?_⟩
            unfold alIdx at hi;simp only [Bool.or_eq_true,decide_eq_true_eq,not_or] at hi;omega
      have hix:∀ k,k<l.length→1≤l[k]!.index:=fun k=>by
        induction k with
        | zero=>intro hk;have:=(key 0 hk).2.1;unfold KG at this;rw [if_pos rfl] at this;omega
        | succ k ih=>intro hk;have:=(key _ hk).2.1;have h2:=ih (by omega);unfold KG at this;rw [if_neg (by omega)] at this;simp only [Nat.add_sub_cancel] at this;omega
      exact ⟨by omega,a1,a2,a3,a4,fun k hk=>((IW _ _).1 (key k hk).1).1,fun k hk=>((IW _ _).1 (key k hk).1).2.1,fun k hk=>((IW _ _).1 (key k hk).1).2.2,fun k hk=>⟨hix k hk,(key k hk).2.2⟩,fun k hk=>by
        have:=(key _ hk).2.1;unfold KG at this;rw [if_neg (by omega)] at this;simpa using this⟩
    · intro h k _ hk
      rw [if_neg,if_neg]
      · unfold alIdx;simp only [Bool.or_eq_true,decide_eq_true_eq,not_or]
        have h1:=h.ix k (by omega)
        unfold KG
        cases k with
        | zero=>simp only [if_true];omega
        | succ k=>rw [if_neg (by omega)];have:=h.inc k (by omega);simp only [Nat.add_sub_cancel];omega
      · have:=(IW l[0]! l[k]!).2 ⟨h.th k (by omega),h.ma k (by omega),h.da k (by omega)⟩
        rw [this];simp
theorem refAlike_iff (l:List Share):DJ l=true↔Good l:=by
  unfold DJ
  by_cases h0:l.length=0
  · rw [if_pos (by simp;exact List.eq_nil_of_length_eq_zero h0)]
    exact ⟨fun h=>(by cases h),fun h=>by have:=h.pos;omega⟩
  rw [if_neg (by simp;intro h;subst h;simp at h0)]
  cases h1:RO l[0]! with
  | true=>
    simp only [if_true]
    refine ⟨fun h=>by simp at h,fun h=>?_⟩
    have:=(OE l[0]!).2 ⟨h.t1,h.tm,h.m8,h.d64⟩
    rw [this] at h1;cases h1
  | false=>
    simp only [Bool.false_eq_true,if_false]
    obtain ⟨a1,a2,a3,a4⟩:=(OE _).1 h1
    rw [NR _ _ (fun k=>by split <;> simp)]
    have key:∀ k,YN l k=false↔OD l[0]! l[k]! = false∧1≤l[k]!.index∧l[k]!.index≤l[0]!.many∧(0<k→l[k - 1]!.index<l[k]!.index):=fun k=>by
      unfold YN
      simp only [Bool.or_eq_false_iff,decide_eq_false_iff_not,Bool.and_eq_false_iff]
      constructor
      · rintro ⟨⟨⟨h1,h2⟩,h3⟩,h4⟩;exact ⟨h1,by omega,by omega,by omega⟩
      · rintro ⟨h1,h2,h3,h4⟩;exact ⟨⟨⟨h1,by omega⟩,by omega⟩,by omega⟩
    constructor
    · intro h
      have key2:∀ k,k<l.length→YN l k=false:=fun k hk=>by
        have:=h k (Nat.zero_le _) (by omega)
        split at this
        · cases this
        · rename_i hd;simpa using hd
      exact ⟨by omega,a1,a2,a3,a4,fun k hk=>((IW _ _).1 ((key k).1 (key2 k hk)).1).1,fun k hk=>((IW _ _).1 ((key k).1 (key2 k hk)).1).2.1,fun k hk=>((IW _ _).1 ((key k).1 (key2 k hk)).1).2.2,fun k hk=>⟨((key k).1 (key2 k hk)).2.1,((key k).1 (key2 k hk)).2.2.1⟩,fun k hk=>by
        have:=((key _).1 (key2 _ hk)).2.2.2 (by omega);simpa using this⟩
    · intro h k _ hk
      rw [if_neg]
      rw [(key k).2 ⟨(IW _ _).2 ⟨h.th k (by omega),h.ma k (by omega),h.da k (by omega)⟩,(h.ix k (by omega)).1,(h.ix k (by omega)).2,fun hk0=>by
        obtain ⟨q,rfl⟩:∃ q,k=q+1:=⟨k - 1,by omega⟩
        exact h.inc q (by omega)⟩];simp
theorem refAlike_eq (l:List Share):DJ l=FP l:=by rw [Bool.eq_iff_iff,refAlike_iff,SW]
theorem JQ (l:List Share):CI l=BQ l:=by unfold CI BQ;rw [refAlike_eq]
structure Vd (l:List Share):Prop extends Good l where
  ep:∀ k,k<l.length→l[k]!.epoch=l[0]!.epoch
  ep0:0≤l[0]!.epoch
  ep1:l[0]!.epoch≤1048576
theorem UL (l:List Share) (k:Nat):ep1 l k=false↔l[k]!.epoch=l[0]!.epoch∧0≤l[k]!.epoch∧l[k]!.epoch≤1048576:=by
  unfold ep1;simp only [Bool.or_eq_false_iff,bne_eq_false_iff_eq,decide_eq_false_iff_not];omega
theorem FW (l:List Share):BQ l=0↔Vd l:=by
  unfold BQ
  cases ha:FP l with
  | false=>
    simp only [Bool.not_false,if_true]
    exact ⟨fun h=>by omega,fun h=>by rw [(SW l).2 h.toGood] at ha;cases ha⟩
  | true=>
    have hg:=(SW l).1 ha
    simp only [Bool.not_true,Bool.false_eq_true,if_false]
    rcases VL (f:=fun k=>if ep1 l k then some (81:Int) else none) (d:=(0:Int)) (r:=81) (fun k=>by split <;> simp) (l.length - 0) 0 with ⟨h1,h2⟩|⟨h1,k,h2,h3,h4⟩
    · rw [h1]
      have key:∀ k,k<l.length→ep1 l k=false:=fun k hk=>by
        have:=h2 k (Nat.zero_le _) (by omega)
        split at this
        · cases this
        · rename_i h;simpa using h
      refine ⟨fun _=>⟨hg,fun k hk=>((UL l k).1 (key k hk)).1,((UL l 0).1 (key 0 hg.pos)).2.1,((UL l 0).1 (key 0 hg.pos)).2.2⟩,fun _=>rfl⟩
    · rw [h1]
      refine ⟨fun h=>by omega,fun h=>?_⟩
      have:=(UL l k).2 ⟨h.ep k (by omega),by rw [h.ep k (by omega)];exact h.ep0,by rw [h.ep k (by omega)];exact h.ep1⟩
      simp only [this] at h4;cases h4
def EN (a b:Share):Bool:=(((a.epoch == b.epoch && a.index == b.index) && a.threshold == b.threshold) && a.many == b.many) && a.data == b.data
theorem QR (a b:Share):EN a b=true↔a=b:=by
  unfold EN;simp only [Bool.and_eq_true,beq_iff_eq]
  constructor
  · rintro ⟨⟨⟨⟨h1,h2⟩,h3⟩,h4⟩,h5⟩;exact Share.ext h1 h2 h3 h4 h5
  · rintro rfl;simp
def ON (a b:List Share):Bool:=if (a.length:Int) != (b.length:Int) then false else EW (fun k=>if !EN a[k]! b[k]! then some false else none) true 0 (a.length - 0)
theorem ext_getS {α:Type} [Inhabited α] {l m:List α} (hlen:l.length=m.length) (h:∀ i:Nat,i<l.length→l[i]! = m[i]!):l=m:=by
  apply List.ext_getElem hlen
  intro i h1 h2
  have:=h i h1
  rwa [getElem!_pos l i h1,getElem!_pos m i h2] at this
theorem same_iff (a b:List Share):ON a b=true↔a=b:=by
  unfold ON
  by_cases h:a.length=b.length
  · rw [if_neg (by simp;omega),NR _ _ (fun k=>by split <;> simp)]
    constructor
    · intro h1
      refine ext_getS h (fun i hi=>?_)
      have:=h1 i (Nat.zero_le _) (by omega)
      split at this
      · cases this
      · rename_i h2;exact (QR _ _).1 (by simpa using h2)
    · rintro rfl k _ _
      rw [(QR _ _).2 rfl];rfl
  · rw [if_pos (by simp;omega)]
    exact ⟨fun h=>(by cases h),fun e=>absurd (congrArg List.length e) h⟩
def RQ (l:List Share):Bool:=EW (fun k=>if 70<(l[k]!.data.length:Int) then some false else none) (decide ((l.length:Int)≤10)) 0 (l.length - 0)
open Go.Fw Go.RowKit
set_option maxHeartbeats 4000000 in
set_option maxRecDepth 100000 in
theorem c_alike {O:List Nat} (l_v:Value) (l:List Share) (w:World) (a2:BB Enc.share w O l_v l) (hO:∀ b∈O,b<w.heap.size):CA Tryz.prog 88 [l_v] w (fun v _=>v = .bool (FP l)):= by
 have e6:=a2.len_le
 have a2:BB Enc.share w ([]++O) l_v l:=a2
 have s0:St w O w []:=St.start hO
 refine BE 75 Tryz.func88 rfl rfl oT (fun F0=>AF (AC kR (AA (AD (vO false) rfl (AG (AB (AF (AF (AC kR (AA (AE (l_v) rfl (AA (BP U27_ rfl a2 (AA (EK .i64 (l.length:Int) (0:Int) rfl rfl (AG (AB (AJ ((l.length:Int) == (0:Int)) rfl rfl (fun a9=>?_) (fun a9=>?_)))))))))))))))))))
 ·have e7:(l.length:Int)=(0:Int):=by simpa using a9
  refine AF (AC kR (AA (AD (vO false) rfl (AG (AB (AM (AI (AS rfl (BZ rfl rfl rfl) (?_)))))))))
  have e:(FP l)=false:=by (unfold FP;((repeat ((refine (if_pos ?_).trans ?_;omega)));rfl))
  exact ⟨_,rfl,s0.keep,(by exact congrArg vO e.symm)⟩
 have e8:(l.length:Int)≠(0:Int):=by simpa using a9
 refine AR (AB (AF (AC kR (AA (AE (l_v) rfl (AA (CR U27_ DO .i64 (0:Int) 0 rfl rfl rfl a2 oM fun g9 c8=>(AA (CJ U49_ rfl DO rfl c8 fun c9 b0=>(AA (CZ [vI 0,vI 0,vI 0,vI 0,nS] NH rfl s0 fun a4 d7 d8 d9 c6 h0 d0=>(?_))))))))))))
 clear d8
 have a2:=a2.mv c6
 have b0:Enc.share.rd d7 ((a4 :: [])++O) c9 (l[0]!):=Enc.mv Enc.share (x:=l[0]!) b0 c6
 obtain ⟨a6,rfl,a1⟩:=b0
 have:=a1.len_le
 refine CC (BF (vs:=[vI ((l[0]!).epoch),vI ((l[0]!).index),vI ((l[0]!).threshold),vI ((l[0]!).many),a6]) (.agg #[vI ((l[0]!).epoch),vI ((l[0]!).index),vI ((l[0]!).threshold),vI ((l[0]!).many),a6]) rfl rfl rfl DO (fun u hu=>by simp only [List.mem_cons,List.not_mem_nil,or_false] at hu;rcases hu with rfl|rfl|rfl|rfl|rfl <;> first|rfl|exact a1.oneCell) (by repeat (constructor)) d0 oT d9 fun h1 a8 c7 h2 a0=>(?_))
 have a2:=a2.mv c7
 have a1:=a1.mv c7
 refine AA (AD (vI 0) rfl (AG (AB (AF (AF (AC kR (AA (AT 2 HP rfl (AA (AU U3_ rfl (vI ((l[0]!).threshold)) rfl a0 rfl (AA (DQ .i64 ((l[0]!).threshold) (1:Int) rfl rfl (AA (AE (vO (decide ((l[0]!).threshold<(1:Int)))) rfl (?_)))))))))))))))
 cases c0:(decide ((l[0]!).threshold<(1:Int)))
 ·have e9:(1:Int)≤(l[0]!).threshold:=by simpa using c0
  refine AW rfl (AT 2 HP rfl (AW rfl (AU U3_ rfl (vI ((l[0]!).threshold)) rfl a0 rfl (AW rfl (AT 3 HW rfl (AW rfl (AU U3_ rfl (vI ((l[0]!).many)) rfl a0 rfl (AW rfl (FN .i64 ((l[0]!).threshold) ((l[0]!).many) rfl rfl (AA (BA (vO (decide ((l[0]!).many<(l[0]!).threshold))) rfl rfl (AA (AE (vO (decide ((l[0]!).many<(l[0]!).threshold))) rfl (?_))))))))))))))
  cases c1:(decide ((l[0]!).many<(l[0]!).threshold))
  ·have f0:(l[0]!).threshold≤(l[0]!).many:=by simpa using c1
   refine AW rfl (AT 3 HW rfl (AW rfl (AU U3_ rfl (vI ((l[0]!).many)) rfl a0 rfl (AW rfl (FN .i64 ((l[0]!).many) (8:Int) rfl rfl (AA (BA (vO (decide ((8:Int)<(l[0]!).many))) rfl rfl (AA (AE (vO (decide ((8:Int)<(l[0]!).many))) rfl (?_))))))))))
   cases c2:(decide ((8:Int)<(l[0]!).many))
   ·have f1:(l[0]!).many≤(8:Int):=by simpa using c2
    refine AW rfl (AT 4 FX rfl (AW rfl (AU U26_ rfl (a6) rfl a0 rfl (AW rfl (BP U26_ rfl a1 (AW rfl (FN .i64 (((l[0]!).data).length:Int) (64:Int) rfl rfl (AA (BA (vO (decide ((64:Int)<(((l[0]!).data).length:Int)))) rfl rfl (AG (AB (AJ (decide ((64:Int)<(((l[0]!).data).length:Int))) rfl rfl (fun b1=>?_) (fun b1=>?_)))))))))))))
    ·have f2:(64:Int)<(((l[0]!).data).length:Int):=by simpa using b1
     refine AF (AC kR (AA (AD (vO false) rfl (AG (AB (AM (AI (AS rfl (BZ rfl rfl rfl) (?_)))))))))
     have e:(FP l)=false:=by (unfold FP;((repeat (first|(refine (if_pos ?_).trans ?_;solve|(simp only [MZ];omega))|(refine (if_neg ?_).trans ?_;solve|(simp only [MZ];omega))));rfl))
     exact ⟨_,rfl,a8.keep,(by exact congrArg vO e.symm)⟩
    have f3:(((l[0]!).data).length:Int)≤(64:Int):=by simpa using b1
    refine AR (AB (AF (AF (AC kR (AA (AE (l_v) rfl (AA (BP U27_ rfl a2 (AA (AE (vI 0) rfl (AG (AB (BD (DB (fun mI FI wI=>∃ (k:Nat) (B:List Nat),k≤l.length∧FP l=EW (fun k=>if OD l[0]! l[k]! then some false else if alIdx l[0]! l[k]! (KG l k) then some false else none) true k (l.length - k)∧mI=l.length - k∧(∃ F1,FI=GD F1 [(3,vP (some ⟨a4,0,none⟩)),(4,vI (KG l k)),(34,l_v),(35,vI (l.length:Int)),(36,vI ((k:Nat):Int)),(75,undef)])∧St w O wI B∧BB Enc.share wI (B++O) (l_v) (l)∧BB Enc.u8 wI (B++O) (a6) ((l[0]!).data)∧IX wI a4 49 [vI ((l[0]!).epoch),vI ((l[0]!).index),vI ((l[0]!).threshold),vI ((l[0]!).many),a6]∧a4∈B) (l.length - (0)) ?_ ?_))))))))))))))
    ·exact ⟨(0),(a4 :: []),oM,(by unfold FP;((repeat ((refine (if_neg ?_).trans ?_;solve|(simp only [MZ];omega))));rfl)),rfl,⟨_,AX _ ⟨rfl,(by rfl),rfl,rfl,(by rfl),rfl,trivial⟩⟩,a8,a2,a1,a0,(by (repeat (exact List.mem_cons_self)))⟩
    intro h5 F h6 hI
    clear a2 a1 a0
    obtain ⟨k,d5,hr0_0,hr0_1,h7,⟨h8,rfl⟩,d6,a2,a1,a0,e0⟩:=hI
    refine AF (AC kR (AA (DQ .i64 ((k:Nat):Int) (l.length:Int) rfl rfl (AG (AB (AF (AJ (decide (((k:Nat):Int)<(l.length:Int))) rfl rfl (fun b2=>?_) (fun b2=>?_))))))))
    ·have f4:((k:Nat):Int)<(l.length:Int):=by simpa using b2
     refine AR (AB (AF (BD (AF (AC kR (AA (CR U27_ DO .i64 ((k:Nat):Int) k rfl rfl rfl a2 oM fun h3 d1=>(AA (CJ U49_ rfl DO rfl d1 fun d2 b3=>(AA (CZ [vI 0,vI 0,vI 0,vI 0,nS] NH rfl d6 fun b4 e1 e2 e3 b7 e4 d3=>(?_))))))))))))
     have d4:HD a4 b4:=by show a4≠b4;have:=a0.lt;omega
     clear e2
     have a2:=a2.mv b7
     have b3:Enc.share.rd e1 ((b4 :: d5)++O) d2 (l[k]!):=Enc.mv Enc.share (x:=l[k]!) b3 b7
     have a1:=a1.mv b7
     have a0:=a0.keep e4 (by simp)
     obtain ⟨b8,rfl,a5⟩:=b3
     have:=a5.len_le
     refine CC (BF (vs:=[vI ((l[k]!).epoch),vI ((l[k]!).index),vI ((l[k]!).threshold),vI ((l[k]!).many),b8]) (.agg #[vI ((l[k]!).epoch),vI ((l[k]!).index),vI ((l[k]!).threshold),vI ((l[k]!).many),b8]) rfl rfl rfl DO (fun u hu=>by simp only [List.mem_cons,List.not_mem_nil,or_false] at hu;rcases hu with rfl|rfl|rfl|rfl|rfl <;> first|rfl|exact a5.oneCell) (by repeat (constructor)) d3 oT e3 fun h4 a7 b9 e5 a3=>(?_))
     have a2:=a2.mv b9
     have a5:=a5.mv b9
     have a1:=a1.mv b9
     have a0:=a0.keep e5 (BH d4)
     refine AG (AB (AF (AF (AC kR (AA (AT 2 HP rfl (AA (AU U3_ rfl (vI ((l[k]!).threshold)) rfl a3 rfl (AA (AT 2 HP rfl (AA (AU U3_ rfl (vI ((l[0]!).threshold)) rfl a0 rfl (AA (CM .i64 ((l[k]!).threshold) ((l[0]!).threshold) rfl rfl (AA (AE (vO (((l[k]!).threshold) != ((l[0]!).threshold))) rfl (?_)))))))))))))))))
     cases c3:(((l[k]!).threshold) != ((l[0]!).threshold))
     ·have f5:(l[k]!).threshold=(l[0]!).threshold:=by simpa using c3
      refine AW rfl (AT 3 HW rfl (AW rfl (AU U3_ rfl (vI ((l[k]!).many)) rfl a3 rfl (AW rfl (AT 3 HW rfl (AW rfl (AU U3_ rfl (vI ((l[0]!).many)) rfl a0 rfl (AW rfl (CM .i64 ((l[k]!).many) ((l[0]!).many) rfl rfl (AA (BA (vO (((l[k]!).many) != ((l[0]!).many))) rfl rfl (AA (AE (vO (((l[k]!).many) != ((l[0]!).many))) rfl (?_))))))))))))))
      cases c4:(((l[k]!).many) != ((l[0]!).many))
      ·have f6:(l[k]!).many=(l[0]!).many:=by simpa using c4
       refine AW rfl (AT 4 FX rfl (AW rfl (AU U26_ rfl (b8) rfl a3 rfl (AW rfl (BP U26_ rfl a5 (AW rfl (AT 4 FX rfl (AW rfl (AU U26_ rfl (a6) rfl a0 rfl (AW rfl (BP U26_ rfl a1 (AW rfl (CM .i64 (((l[k]!).data).length:Int) (((l[0]!).data).length:Int) rfl rfl (AA (BA (vO ((((l[k]!).data).length:Int) != (((l[0]!).data).length:Int))) rfl rfl (AG (AB (AJ ((((l[k]!).data).length:Int) != (((l[0]!).data).length:Int)) rfl rfl (fun b5=>?_) (fun b5=>?_)))))))))))))))))))
       ·have f7:(((l[k]!).data).length:Int)≠(((l[0]!).data).length:Int):=by simpa using b5
        refine AF (AC kR (AA (AD (vO false) rfl (AG (AB (AM (AI (BC (AI (AI (BC (AI (AS rfl (BZ rfl rfl rfl) (?_))))))))))))))
        have e:(FP l)=false:=by (rw [hr0_1];exact CP oM (by ((repeat ((refine (if_pos ?_).trans ?_;solve|(simp only [MZ];omega))));rfl)))
        exact ⟨_,rfl,a7.keep,(by exact congrArg vO e.symm)⟩
       have f8:(((l[k]!).data).length:Int)=(((l[0]!).data).length:Int):=by simpa using b5
       refine AR (AB (AF (AF (AC kR (AA (AT 1 KX rfl (AA (AU U3_ rfl (vI ((l[k]!).index)) rfl a3 rfl (AA (AE (vI (KG l k)) rfl (AA (UA .i64 ((l[k]!).index) (KG l k) rfl rfl (AA (AE (vO (decide ((l[k]!).index≤KG l k))) rfl (?_)))))))))))))))
       cases c5:(decide ((l[k]!).index≤KG l k))
       ·have f9:KG l k<(l[k]!).index:=by simpa using c5
        refine AW rfl (AT 1 KX rfl (AW rfl (AU U3_ rfl (vI ((l[k]!).index)) rfl a3 rfl (AW rfl (AT 3 HW rfl (AW rfl (AU U3_ rfl (vI ((l[0]!).many)) rfl a0 rfl (AW rfl (FN .i64 ((l[k]!).index) ((l[0]!).many) rfl rfl (AA (BA (vO (decide ((l[0]!).many<(l[k]!).index))) rfl rfl (AG (AB (AJ (decide ((l[0]!).many<(l[k]!).index)) rfl rfl (fun b6=>?_) (fun b6=>?_)))))))))))))))
        ·have g0:(l[0]!).many<(l[k]!).index:=by simpa using b6
         refine AF (AC kR (AA (AD (vO false) rfl (AG (AB (AM (AI (BC (AI (AI (BC (AI (AS rfl (BZ rfl rfl rfl) (?_))))))))))))))
         have e:(FP l)=false:=by (rw [hr0_1];exact CP oM (by ((repeat (first|(refine (if_pos ?_).trans ?_;solve|(simp only [MZ];omega))|(refine (if_neg ?_).trans ?_;solve|(simp only [MZ];omega))));rfl)))
         exact ⟨_,rfl,a7.keep,(by exact congrArg vO e.symm)⟩
        have g1:(l[k]!).index≤(l[0]!).many:=by simpa using b6
        refine AR (AB (AC kR (AA (AT 1 KX rfl (AA (AU U3_ rfl (vI ((l[k]!).index)) rfl a3 rfl (AA (AD (vI ((l[k]!).index)) rfl (AG (CB (AB (AC kR (AA (DF .i64 ((k:Nat):Int) (1:Int) (((k+1:Nat):Int)) rfl rfl (GA oM oM) (AA (AE (vI ((k+1:Nat):Int)) rfl (AG (AB (?_)))))))))))))))))))
        exact ⟨_,oM,(k+1),(b4 :: d5),oM,(hr0_1.trans (EP oM (by ((repeat ((refine (if_neg ?_).trans ?_;solve|(simp only [MZ];omega))));rfl)))),rfl,⟨_,AX _ ⟨rfl,(by rfl),rfl,rfl,(by rfl),rfl,trivial⟩⟩,a7,a2,a1,a0,(by (repeat (first|assumption|apply List.mem_cons_of_mem)))⟩
       have g2:(l[k]!).index≤KG l k:=by simpa using c5
       refine AL rfl (AL rfl (AL rfl (AL rfl (AL rfl (AA (AQ (vO true) rfl rfl (AG (AB (AJ true rfl rfl (fun _=>AF (AC kR (AA (AD (vO false) rfl (AG (AB (AM (AI (BC (AI (AI (BC (AI (AS rfl (BZ rfl rfl rfl) (?_))))))))))))))) (fun h=>by cases h))))))))))
       have e:(FP l)=false:=by (rw [hr0_1];exact CP oM (by ((repeat (first|(refine (if_pos ?_).trans ?_;solve|(simp only [MZ];omega))|(refine (if_neg ?_).trans ?_;solve|(simp only [MZ];omega))));rfl)))
       exact ⟨_,rfl,a7.keep,(by exact congrArg vO e.symm)⟩
      have g3:(l[k]!).many≠(l[0]!).many:=by simpa using c4
      refine AL rfl (AL rfl (AL rfl (AL rfl (AL rfl (AL rfl (AL rfl (AA (AQ (vO true) rfl rfl (AG (AB (AJ true rfl rfl (fun _=>AF (AC kR (AA (AD (vO false) rfl (AG (AB (AM (AI (BC (AI (AI (BC (AI (AS rfl (BZ rfl rfl rfl) (?_))))))))))))))) (fun h=>by cases h))))))))))))
      have e:(FP l)=false:=by (rw [hr0_1];exact CP oM (by ((repeat ((refine (if_pos ?_).trans ?_;solve|(simp only [MZ];omega))));rfl)))
      exact ⟨_,rfl,a7.keep,(by exact congrArg vO e.symm)⟩
     have g4:(l[k]!).threshold≠(l[0]!).threshold:=by simpa using c3
     refine AL rfl (AL rfl (AL rfl (AL rfl (AL rfl (AA (AQ (vO true) rfl rfl (AA (AE (vO true) rfl (AL rfl (AL rfl (AL rfl (AL rfl (AL rfl (AL rfl (AL rfl (AA (AQ (vO true) rfl rfl (AG (AB (AJ true rfl rfl (fun _=>AF (AC kR (AA (AD (vO false) rfl (AG (AB (AM (AI (BC (AI (AI (BC (AI (AS rfl (BZ rfl rfl rfl) (?_))))))))))))))) (fun h=>by cases h)))))))))))))))))))))
     have e:(FP l)=false:=by (rw [hr0_1];exact CP oM (by ((repeat ((refine (if_pos ?_).trans ?_;solve|(simp only [MZ];omega))));rfl)))
     exact ⟨_,rfl,a7.keep,(by exact congrArg vO e.symm)⟩
    have g5:(l.length:Int)≤((k:Nat):Int):=by simpa using b2
    refine DA (BN (BN (CO (AB (AF (AC kR (AA (AD (vO true) rfl (AG (AB (AM (AS rfl (BZ rfl rfl rfl) (?_)))))))))))))
    have e:(FP l)=true:=by (rw [hr0_1];exact FS oM)
    exact ⟨_,rfl,d6.keep,(by exact congrArg vO e.symm)⟩
   have g6:(8:Int)<(l[0]!).many:=by simpa using c2
   refine AL rfl (AL rfl (AL rfl (AL rfl (AA (AQ (vO true) rfl rfl (AG (AB (AJ true rfl rfl (fun _=>AF (AC kR (AA (AD (vO false) rfl (AG (AB (AM (AI (AS rfl (BZ rfl rfl rfl) (?_)))))))))) (fun h=>by cases h)))))))))
   have e:(FP l)=false:=by (unfold FP;((repeat (first|(refine (if_pos ?_).trans ?_;solve|(simp only [MZ];omega))|(refine (if_neg ?_).trans ?_;solve|(simp only [MZ];omega))));rfl))
   exact ⟨_,rfl,a8.keep,(by exact congrArg vO e.symm)⟩
  have g7:(l[0]!).many<(l[0]!).threshold:=by simpa using c1
  refine AL rfl (AL rfl (AL rfl (AA (AQ (vO true) rfl rfl (AA (AE (vO true) rfl (AL rfl (AL rfl (AL rfl (AL rfl (AA (AQ (vO true) rfl rfl (AG (AB (AJ true rfl rfl (fun _=>AF (AC kR (AA (AD (vO false) rfl (AG (AB (AM (AI (AS rfl (BZ rfl rfl rfl) (?_)))))))))) (fun h=>by cases h))))))))))))))))
  have e:(FP l)=false:=by (unfold FP;((repeat (first|(refine (if_pos ?_).trans ?_;solve|(simp only [MZ];omega))|(refine (if_neg ?_).trans ?_;solve|(simp only [MZ];omega))));rfl))
  exact ⟨_,rfl,a8.keep,(by exact congrArg vO e.symm)⟩
 have g8:(l[0]!).threshold<(1:Int):=by simpa using c0
 refine AL rfl (AL rfl (AL rfl (AL rfl (AL rfl (AA (AQ (vO true) rfl rfl (AA (AE (vO true) rfl (AL rfl (AL rfl (AL rfl (AA (AQ (vO true) rfl rfl (AA (AE (vO true) rfl (AL rfl (AL rfl (AL rfl (AL rfl (AA (AQ (vO true) rfl rfl (AG (AB (AJ true rfl rfl (fun _=>AF (AC kR (AA (AD (vO false) rfl (AG (AB (AM (AI (AS rfl (BZ rfl rfl rfl) (?_)))))))))) (fun h=>by cases h)))))))))))))))))))))))))
 have e:(FP l)=false:=by (unfold FP;((repeat (first|(refine (if_pos ?_).trans ?_;solve|(simp only [MZ];omega))|(refine (if_neg ?_).trans ?_;solve|(simp only [MZ];omega))));rfl))
 exact ⟨_,rfl,a8.keep,(by exact congrArg vO e.symm)⟩
set_option maxHeartbeats 4000000 in
set_option maxRecDepth 100000 in
theorem NE {O:List Nat} (l_v:Value) (l:List Share) (w:World) (a0:BB Enc.share w O l_v l) (hO:∀ b∈O,b<w.heap.size):CA Tryz.prog 54 [l_v] w (fun v _=>v=vI (BQ l)):= by
 have d2:=a0.len_le
 have a0:BB Enc.share w ([]++O) l_v l:=a0
 have s0:St w O w []:=St.start hO
 refine BE 32 Tryz.func54 rfl rfl oT (fun F0=>AF (AC kR (AA (AD (vI 0) rfl (AG (AB (AF (AF (AC kR (AA (AE (l_v) rfl (AA (AZ (vs:=[l_v]) enter_88 (c_alike (O:=[]++O) l_v l w a0 s0.lt) rfl s0 fun e3 e4 b3 c2 e5 c3=>(?_))))))))))))))
 obtain rfl:=c3
 have a0:=a0.mv c2
 refine AA (EU (FP l) rfl (AG (AB (AJ (!(FP l)) rfl rfl (fun a2=>?_) (fun a2=>?_)))))
 ·have d3:(FP l)=false:=by simpa using a2
  refine AF (AC kR (AA (AD (vI 80) rfl (AG (AB (AM (AI (AS rfl (BZ rfl rfl rfl) (?_)))))))))
  have e:(BQ l)=(80:Int):=by (unfold BQ;((repeat ((refine (if_pos ?_).trans ?_;omega)));rfl))
  exact ⟨_,rfl,b3.keep,by rw [e];exact rfl⟩
 have d4:(FP l)=true:=by simpa using a2
 refine AR (AB (AF (AF (AC kR (AA (AE (l_v) rfl (AA (BP U27_ rfl a0 (AA (AE (vI 0) rfl (AG (AB (BD (DB (fun mI FI wI=>∃ (k:Nat) (B:List Nat),k≤l.length∧BQ l=EW (fun k=>if ep1 l k then some 81 else none) 0 k (l.length - k)∧mI=l.length - k∧(∃ F1,FI=GD F1 [(0,l_v),(8,l_v),(9,vI (l.length:Int)),(10,vI ((k:Nat):Int)),(32,undef)])∧St w O wI B∧BB Enc.share wI (B++O) (l_v) (l)) (l.length - (0)) ?_ ?_))))))))))))))
 ·exact ⟨(0),[],oM,(by unfold BQ;((repeat ((refine (if_neg ?_).trans ?_;solve|(simp only [*,dbs];done))));rfl)),rfl,⟨_,AX _ ⟨rfl,rfl,rfl,(by rfl),rfl,trivial⟩⟩,b3,a0⟩
 intro f1 F f2 hI
 clear a0
 obtain ⟨k,a9,hr0_0,hr0_1,f3,⟨f4,rfl⟩,c1,a0⟩:=hI
 refine AF (AC kR (AA (DQ .i64 ((k:Nat):Int) (l.length:Int) rfl rfl (AG (AB (AF (AJ (decide (((k:Nat):Int)<(l.length:Int))) rfl rfl (fun a3=>?_) (fun a3=>?_))))))))
 ·have d5:((k:Nat):Int)<(l.length:Int):=by simpa using a3
  refine AR (AB (AF (BD (AF (AC kR (AA (CR U27_ DO .i64 ((k:Nat):Int) k rfl rfl rfl a0 oM fun e6 b6=>(AA (CJ U49_ rfl DO rfl b6 fun b7 a4=>(AA (CZ [vI 0,vI 0,vI 0,vI 0,nS] NH rfl c1 fun a5 c4 c5 c6 b4 e7 b8=>(?_))))))))))))
  clear c5
  have a0:=a0.mv b4
  have a4:Enc.share.rd c4 ((a5 :: a9)++O) b7 (l[k]!):=Enc.mv Enc.share (x:=l[k]!) a4 b4
  obtain ⟨b5,rfl,b0⟩:=a4
  have:=b0.len_le
  refine CC (BF (vs:=[vI ((l[k]!).epoch),vI ((l[k]!).index),vI ((l[k]!).threshold),vI ((l[k]!).many),b5]) (.agg #[vI ((l[k]!).epoch),vI ((l[k]!).index),vI ((l[k]!).threshold),vI ((l[k]!).many),b5]) rfl rfl rfl DO (fun u hu=>by simp only [List.mem_cons,List.not_mem_nil,or_false] at hu;rcases hu with rfl|rfl|rfl|rfl|rfl <;> first|rfl|exact b0.oneCell) (by repeat (constructor)) b8 oT c6 fun c7 c8 c9 e8 a1=>(?_))
  have a0:=a0.mv c9
  refine AG (AB (AF (FK 17 _ _ kR kR kR kR kR rfl rfl fun d0 a8=>?_)))
  have a6:=c8.call a8
  have d1:Mv (a5 :: a9) c7 (a5 :: a9) d0:=Mv.of_keep a8
  have a0:=a0.mv d1
  have a1:=a1.keep a8 (by simp)
  refine BU (AT 0 HO rfl (BU (AU U3_ rfl (vI ((l[k]!).epoch)) rfl a1 rfl (BU (AE (l_v) rfl (BU (CR U27_ DO .i64 (0:Int) 0 rfl rfl rfl a0 oM fun e9 b9=>(BU (AY 0 HO ((l[0]!).epoch) rfl b9 (fun _ _ _ h=>FZ h) fun f0 c0=>(BU (BK U3_ rfl rfl c0 (BU (CM .i64 ((l[k]!).epoch) ((l[0]!).epoch) rfl rfl (BU (AE (vO (((l[k]!).epoch) != ((l[0]!).epoch))) rfl (?_))))))))))))))))
  cases b1:(((l[k]!).epoch) != ((l[0]!).epoch))
  ·have d6:(l[k]!).epoch=(l[0]!).epoch:=by simpa using b1
   refine DW rfl (AT 0 HO rfl (DW rfl (AU U3_ rfl (vI ((l[k]!).epoch)) rfl a1 rfl (DW rfl (DQ .i64 ((l[k]!).epoch) (0:Int) rfl rfl (BU (BA (vO (decide ((l[k]!).epoch<(0:Int)))) rfl rfl (BU (AE (vO (decide ((l[k]!).epoch<(0:Int)))) rfl (?_))))))))))
   cases b2:(decide ((l[k]!).epoch<(0:Int)))
   ·have d7:(0:Int)≤(l[k]!).epoch:=by simpa using b2
    refine DW rfl (AT 0 HO rfl (DW rfl (AU U3_ rfl (vI ((l[k]!).epoch)) rfl a1 rfl (DW rfl (FN .i64 ((l[k]!).epoch) (1048576:Int) rfl rfl (BU (BA (vO (decide ((1048576:Int)<(l[k]!).epoch))) rfl rfl (EO (AG (AB (AJ (decide ((1048576:Int)<(l[k]!).epoch)) rfl rfl (fun a7=>?_) (fun a7=>?_))))))))))))
    ·have d8:(1048576:Int)<(l[k]!).epoch:=by simpa using a7
     refine AF (AC kR (AA (AD (vI 81) rfl (AG (AB (AM (BC (AI (AI (BC (AI (AS rfl (BZ rfl rfl rfl) (?_)))))))))))))
     have e:(BQ l)=(81:Int):=by (rw [hr0_1];exact CP oM (by ((repeat ((refine (if_pos ?_).trans ?_;solve|(simp only [MZ];omega))));rfl)))
     exact ⟨_,rfl,a6.keep,by rw [e];exact rfl⟩
    have d9:(l[k]!).epoch≤(1048576:Int):=by simpa using a7
    refine AR (CB (AB (AC kR (AA (DF .i64 ((k:Nat):Int) (1:Int) (((k+1:Nat):Int)) rfl rfl (GA oM oM) (AA (AE (vI ((k+1:Nat):Int)) rfl (AG (AB (?_))))))))))
    exact ⟨_,oM,(k+1),(a5 :: a9),oM,(hr0_1.trans (EP oM (by ((repeat ((refine (if_neg ?_).trans ?_;solve|(simp only [MZ];omega))));rfl)))),rfl,⟨_,AX _ ⟨rfl,rfl,rfl,(by rfl),rfl,trivial⟩⟩,a6,a0⟩
   have e0:(l[k]!).epoch<(0:Int):=by simpa using b2
   refine CK rfl (CK rfl (CK rfl (BU (AQ (vO true) rfl rfl (EO (AG (AB (AJ true rfl rfl (fun _=>AF (AC kR (AA (AD (vI 81) rfl (AG (AB (AM (BC (AI (AI (BC (AI (AS rfl (BZ rfl rfl rfl) (?_)))))))))))))) (fun h=>by cases h)))))))))
   have e:(BQ l)=(81:Int):=by (rw [hr0_1];exact CP oM (by ((repeat ((refine (if_pos ?_).trans ?_;solve|(simp only [MZ];omega))));rfl)))
   exact ⟨_,rfl,a6.keep,by rw [e];exact rfl⟩
  have e1:(l[k]!).epoch≠(l[0]!).epoch:=by simpa using b1
  refine CK rfl (CK rfl (CK rfl (BU (AQ (vO true) rfl rfl (BU (AE (vO true) rfl (CK rfl (CK rfl (CK rfl (BU (AQ (vO true) rfl rfl (EO (AG (AB (AJ true rfl rfl (fun _=>AF (AC kR (AA (AD (vI 81) rfl (AG (AB (AM (BC (AI (AI (BC (AI (AS rfl (BZ rfl rfl rfl) (?_)))))))))))))) (fun h=>by cases h))))))))))))))))
  have e:(BQ l)=(81:Int):=by (rw [hr0_1];exact CP oM (by ((repeat ((refine (if_pos ?_).trans ?_;solve|(simp only [MZ];omega))));rfl)))
  exact ⟨_,rfl,a6.keep,by rw [e];exact rfl⟩
 have e2:(l.length:Int)≤((k:Nat):Int):=by simpa using a3
 refine DA (BN (BN (CO (AB (AF (AC kR (AA (AD (vI 0) rfl (AG (AB (AM (AS rfl (BZ rfl rfl rfl) (?_)))))))))))))
 have e:(BQ l)=(0:Int):=by (rw [hr0_1];exact FS oM)
 exact ⟨_,rfl,c1.keep,by rw [e];exact rfl⟩
set_option maxHeartbeats 4000000 in
set_option maxRecDepth 100000 in
theorem c_sameShare {O:List Nat} (sa_cs:List Value) (sa:Share) (sb_cs:List Value) (sb:Share) (w:World) (a4:Enc.share.rd w O sa_cs sa) (a2:Enc.share.rd w O sb_cs sb) (hO:∀ b∈O,b<w.heap.size):CA Tryz.prog 32 [.agg sa_cs.toArray, .agg sb_cs.toArray] w (fun v _=>v = .bool (EN sa sb)):= by
 have a4:Enc.share.rd w ([]++O) sa_cs sa:=a4
 have a2:Enc.share.rd w ([]++O) sb_cs sb:=a2
 have s0:St w O w []:=St.start hO
 refine BE 40 Tryz.func32 rfl rfl oT (fun F0=>AF (AC kR (AA (DR (E:=Enc.share) (vA sa_cs.toArray) (sa_cs) sa rfl rfl a4 s0 fun d3 c1 c2 c3 d4 a0=>(?_)))))
 have a2:Enc.share.rd c1 ([]++O) sb_cs (sb):=Enc.mv Enc.share (x:=sb) a2 c3
 refine AA (DR (E:=Enc.share) (vA sb_cs.toArray) (sb_cs) sb rfl rfl a2 c2 fun d5 d6 a3 c4 d7 a1=>(?_))
 have a0:=a0.mv c4
 refine AA (AD (vO false) rfl (AG (AB (AF (AC kR (AA (AY 0 HO (sa.epoch) rfl a0 (fun _ _ _ h=>FZ h) fun d8 b1=>(AA (BK U3_ rfl rfl b1 (AA (AY 0 HO (sb.epoch) rfl a1 (fun _ _ _ h=>FZ h) fun d9 b2=>(AA (BK U3_ rfl rfl b2 (AA (EK .i64 sa.epoch sb.epoch rfl rfl (AA (AE (vO (sa.epoch == sb.epoch)) rfl (?_))))))))))))))))))
 cases a5:(sa.epoch == sb.epoch)
 ·have c5:sa.epoch≠sb.epoch:=by simpa using a5
  refine AL rfl (AL rfl (AL rfl (AL rfl (AL rfl (AA (BA (vO false) rfl rfl (AA (AE (vO false) rfl (AL rfl (AL rfl (AL rfl (AL rfl (AL rfl (AA (BA (vO false) rfl rfl (AA (AE (vO false) rfl (AL rfl (AL rfl (AL rfl (AL rfl (AL rfl (AA (BA (vO false) rfl rfl (AA (AE (vO false) rfl (AL rfl (AL rfl (AL rfl (AL rfl (AL rfl (AL rfl (AL rfl (AA (BA (vO false) rfl rfl (AA (AD (vO false) rfl (AG (AB (AM (AS rfl (BZ rfl rfl rfl) (?_))))))))))))))))))))))))))))))))))))))))))
  have e:(EN sa sb)=false:=by simp [EN, *]
  exact ⟨_,rfl,a3.keep,(by exact congrArg vO e.symm)⟩
 have c6:sa.epoch=sb.epoch:=by simpa using a5
 refine AW rfl (AY 1 KX (sa.index) rfl a0 (fun _ _ _ h=>HV h) fun e0 b3=>(AW rfl (BK U3_ rfl rfl b3 (AW rfl (AY 1 KX (sb.index) rfl a1 (fun _ _ _ h=>HV h) fun e1 b4=>(AW rfl (BK U3_ rfl rfl b4 (AW rfl (EK .i64 sa.index sb.index rfl rfl (AA (AQ (vO (sa.index == sb.index)) rfl rfl (AA (AE (vO (sa.index == sb.index)) rfl (?_))))))))))))))
 cases a6:(sa.index == sb.index)
 ·have c7:sa.index≠sb.index:=by simpa using a6
  refine AL rfl (AL rfl (AL rfl (AL rfl (AL rfl (AA (BA (vO false) rfl rfl (AA (AE (vO false) rfl (AL rfl (AL rfl (AL rfl (AL rfl (AL rfl (AA (BA (vO false) rfl rfl (AA (AE (vO false) rfl (AL rfl (AL rfl (AL rfl (AL rfl (AL rfl (AL rfl (AL rfl (AA (BA (vO false) rfl rfl (AA (AD (vO false) rfl (AG (AB (AM (AS rfl (BZ rfl rfl rfl) (?_)))))))))))))))))))))))))))))))))
  have e:(EN sa sb)=false:=by simp [EN, *]
  exact ⟨_,rfl,a3.keep,(by exact congrArg vO e.symm)⟩
 have c8:sa.index=sb.index:=by simpa using a6
 refine AW rfl (AY 2 HP (sa.threshold) rfl a0 (fun _ _ _ h=>HC h) fun e2 b5=>(AW rfl (BK U3_ rfl rfl b5 (AW rfl (AY 2 HP (sb.threshold) rfl a1 (fun _ _ _ h=>HC h) fun e3 b6=>(AW rfl (BK U3_ rfl rfl b6 (AW rfl (EK .i64 sa.threshold sb.threshold rfl rfl (AA (AQ (vO (sa.threshold == sb.threshold)) rfl rfl (AA (AE (vO (sa.threshold == sb.threshold)) rfl (?_))))))))))))))
 cases a7:(sa.threshold == sb.threshold)
 ·have c9:sa.threshold≠sb.threshold:=by simpa using a7
  refine AL rfl (AL rfl (AL rfl (AL rfl (AL rfl (AA (BA (vO false) rfl rfl (AA (AE (vO false) rfl (AL rfl (AL rfl (AL rfl (AL rfl (AL rfl (AL rfl (AL rfl (AA (BA (vO false) rfl rfl (AA (AD (vO false) rfl (AG (AB (AM (AS rfl (BZ rfl rfl rfl) (?_))))))))))))))))))))))))
  have e:(EN sa sb)=false:=by simp [EN, *]
  exact ⟨_,rfl,a3.keep,(by exact congrArg vO e.symm)⟩
 have d0:sa.threshold=sb.threshold:=by simpa using a7
 refine AW rfl (AY 3 HW (sa.many) rfl a0 (fun _ _ _ h=>LO h) fun e4 b7=>(AW rfl (BK U3_ rfl rfl b7 (AW rfl (AY 3 HW (sb.many) rfl a1 (fun _ _ _ h=>LO h) fun e5 b8=>(AW rfl (BK U3_ rfl rfl b8 (AW rfl (EK .i64 sa.many sb.many rfl rfl (AA (AQ (vO (sa.many == sb.many)) rfl rfl (AA (AE (vO (sa.many == sb.many)) rfl (?_))))))))))))))
 cases a8:(sa.many == sb.many)
 ·have d1:sa.many≠sb.many:=by simpa using a8
  refine AL rfl (AL rfl (AL rfl (AL rfl (AL rfl (AL rfl (AL rfl (AA (BA (vO false) rfl rfl (AA (AD (vO false) rfl (AG (AB (AM (AS rfl (BZ rfl rfl rfl) (?_)))))))))))))))
  have e:(EN sa sb)=false:=by simp [EN, *]
  exact ⟨_,rfl,a3.keep,(by exact congrArg vO e.symm)⟩
 have d2:sa.many=sb.many:=by simpa using a8
 refine AW rfl (AY 4 FX (sa.data) rfl a0 (fun _ _ _ h=>FB h) fun e6 b9=>(AW rfl (BL U26_ rfl rfl b9 fun e7 a9=>(?_))))
 have:=a9.len_le
 refine AW rfl (QI U26_ U5_ U9_ rfl a9 (AW rfl (AY 4 FX (sb.data) rfl a1 (fun _ _ _ h=>FB h) fun e8 c0=>(AW rfl (BL U26_ rfl rfl c0 fun e9 b0=>(?_))))))
 have:=b0.len_le
 refine AW rfl (QI U26_ U5_ U9_ rfl b0 (AW rfl (o_eqlS sa.data sb.data rfl rfl (AA (AQ (vO (sa.data == sb.data)) rfl rfl (AA (AD (vO (sa.data == sb.data)) rfl (AG (AB (AM (AS rfl (BZ rfl rfl rfl) (?_))))))))))))
 have e:(EN sa sb)=(sa.data == sb.data):=by simp [EN, *]
 exact ⟨_,rfl,a3.keep,(by exact congrArg vO e.symm)⟩
set_option maxHeartbeats 4000000 in
set_option maxRecDepth 100000 in
theorem c_same8 {O:List Nat} (la_v:Value) (la:List Share) (lb_v:Value) (lb:List Share) (w:World) (a0:BB Enc.share w O la_v la) (a1:BB Enc.share w O lb_v lb) (hO:∀ b∈O,b<w.heap.size):CA Tryz.prog 11 [la_v,lb_v] w (fun v _=>v = .bool (ON la lb)):= by
 have c0:=a0.len_le
 have a0:BB Enc.share w ([]++O) la_v la:=a0
 have c1:=a1.len_le
 have a1:BB Enc.share w ([]++O) lb_v lb:=a1
 have s0:St w O w []:=St.start hO
 refine BE 27 Tryz.func11 rfl rfl oT (fun F0=>AF (AC kR (AA (AD (vO false) rfl (AG (AB (AF (AF (AC kR (AA (AE (la_v) rfl (AA (BP U27_ rfl a0 (AA (AE (lb_v) rfl (AA (BP U27_ rfl a1 (AA (CM .i64 (la.length:Int) (lb.length:Int) rfl rfl (AG (AB (AJ ((la.length:Int) != (lb.length:Int)) rfl rfl (fun a2=>?_) (fun a2=>?_)))))))))))))))))))))))
 ·have c3:(la.length:Int)≠(lb.length:Int):=by simpa using a2
  refine AF (AC kR (AA (AD (vO false) rfl (AG (AB (AM (AI (AS rfl (BZ rfl rfl rfl) (?_)))))))))
  have e:(ON la lb)=false:=by (unfold ON;((repeat ((refine (if_pos ?_).trans ?_;omega)));rfl))
  exact ⟨_,rfl,s0.keep,(by exact congrArg vO e.symm)⟩
 have c4:(la.length:Int)=(lb.length:Int):=by simpa using a2
 refine AR (AB (AF (AF (AC kR (AA (AD (vI 0) rfl (AG (AB (BD (DB (fun mI FI wI=>∃ (k:Nat) (B:List Nat),k≤la.length∧ON la lb=EW (fun k=>if !EN la[k]! lb[k]! then some false else none) true k (la.length - k)∧mI=la.length - k∧(∃ F1,FI=GD F1 [(0,la_v),(1,lb_v),(5,vI ((k:Nat):Int)),(27,undef)])∧St w O wI B∧BB Enc.share wI (B++O) (la_v) (la)∧BB Enc.share wI (B++O) (lb_v) (lb)) (la.length - (0)) ?_ ?_))))))))))
 ·exact ⟨(0),[],oM,(by unfold ON;((repeat ((refine (if_neg ?_).trans ?_;solve|(simp only [dbs];omega))));rfl)),rfl,⟨_,AX _ ⟨rfl,rfl,(by rfl),rfl,trivial⟩⟩,s0,a0,a1⟩
 intro d4 F c2 hI
 clear a0 a1
 obtain ⟨k,a5,hr0_0,hr0_1,d5,⟨d6,rfl⟩,b8,a0,a1⟩:=hI
 refine AF (AF (AC kR (AA (AE (vI ((k:Nat):Int)) rfl (AA (AE (la_v) rfl (AA (BP U27_ rfl a0 (AA (DQ .i64 ((k:Nat):Int) (la.length:Int) rfl rfl (AG (AB (AJ (decide (((k:Nat):Int)<(la.length:Int))) rfl rfl (fun a3=>?_) (fun a3=>?_))))))))))))))
 ·have c5:((k:Nat):Int)<(la.length:Int):=by simpa using a3
  refine AR (AB (AF (BD (AF (FK 8 _ _ kR kR kR kR kR rfl rfl fun a8 a9=>?_)))))
  have b0:=b8.call a9
  have b1:Mv a5 c2 a5 a8:=Mv.of_keep a9
  have a0:=a0.mv b1
  have a1:=a1.mv b1
  refine BU (AE (la_v) rfl (BU (AE (vI ((k:Nat):Int)) rfl (BU (CR U27_ DO .i64 ((k:Nat):Int) k rfl rfl rfl a0 oM fun c9 b4=>(BU (CJ U49_ rfl DO rfl b4 fun a6 b5=>(BU (AE (lb_v) rfl (BU (AE (vI ((k:Nat):Int)) rfl (BU (CR U27_ DO .i64 ((k:Nat):Int) k rfl rfl rfl a1 oM fun d0 b6=>(BU (CJ U49_ rfl DO rfl b6 fun a7 b7=>(EO (AA (AZ (vs:=[vA a6.toArray,vA a7.toArray]) enter_32 (c_sameShare (O:=a5++O) a6 (la[k]!) a7 (lb[k]!) a8 b5 b7 b0.lt) rfl b0 fun d1 d2 b2 b3 d3 b9=>(?_)))))))))))))))))))
  obtain rfl:=b9
  have a0:=a0.mv b3
  have a1:=a1.mv b3
  refine AA (EU (EN (la[k]!) (lb[k]!)) rfl (AG (AB (AJ (!(EN (la[k]!) (lb[k]!))) rfl rfl (fun a4=>?_) (fun a4=>?_)))))
  ·have c6:(EN (la[k]!) (lb[k]!))=false:=by simpa using a4
   refine AF (AC kR (AA (AD (vO false) rfl (AG (AB (AM (BC (AI (AI (BC (AI (AS rfl (BZ rfl rfl rfl) (?_)))))))))))))
   have e:(ON la lb)=false:=by (rw [hr0_1];exact CP oM (by ((repeat ((refine (if_pos ?_).trans ?_;omega)));rfl)))
   exact ⟨_,rfl,b2.keep,(by exact congrArg vO e.symm)⟩
  have c7:(EN (la[k]!) (lb[k]!))=true:=by simpa using a4
  refine AR (CB (AB (AC kR (AA (AE (vI ((k:Nat):Int)) rfl (AA (DF .i64 ((k:Nat):Int) (1:Int) (((k+1:Nat):Int)) rfl rfl (GA oM oM) (AA (AD (vI ((k+1:Nat):Int)) rfl (AG (AB (?_))))))))))))
  exact ⟨_,oM,(k+1),a5,oM,(hr0_1.trans (EP oM (by ((repeat ((refine (if_neg ?_).trans ?_;solve|(simp only [*,dbs];done))));rfl)))),rfl,⟨_,AX _ ⟨rfl,rfl,(by rfl),rfl,trivial⟩⟩,b2,a0,a1⟩
 have c8:(la.length:Int)≤((k:Nat):Int):=by simpa using a3
 refine DA (BN (BN (CO (AB (AF (AC kR (AA (AD (vO true) rfl (AG (AB (AM (AS rfl (BZ rfl rfl rfl) (?_)))))))))))))
 have e:(ON la lb)=true:=by (rw [hr0_1];exact FS oM)
 exact ⟨_,rfl,b8.keep,(by exact congrArg vO e.symm)⟩
open Go.Fw
def JC (secret coins:List UInt8) (threshold:Int) (i:Nat):List UInt8:=secret[i]! :: ((coins.take ((i+1)*(threshold - 1).toNat)).drop (i*(threshold - 1).toNat))
theorem polyB {i n m:Nat} {t:Int} (hi:i<n) (ht:1≤t) (h:(m:Int)=(n:Int)*(t - 1)):(i+1)*(t - 1).toNat≤m:=by
  obtain ⟨T,rfl⟩:∃ T:Nat,t=(T:Int)+1:=⟨(t - 1).toNat,by omega⟩
  have e:((T:Int)+1 - 1)=(T:Int):=by omega
  rw [e] at h ⊢
  have h2:m=n*T:=by exact_mod_cast h
  rw [h2]
  exact Nat.mul_le_mul_right _ hi
theorem polyL {n m:Nat} {t:Int} (hn:n≤1000) (ht:1≤t) (ht8:t≤8) (h:(m:Int)=(n:Int)*(t - 1)):m≤7000:=by
  obtain ⟨T,rfl⟩:∃ T:Nat,t=(T:Int)+1:=⟨(t - 1).toNat,by omega⟩
  have e:((T:Int)+1 - 1)=(T:Int):=by omega
  rw [e] at h
  have h2:m=n*T:=by exact_mod_cast h
  rw [h2]
  calc n*T≤1000*7:=Nat.mul_le_mul hn (by omega)
    _=7000:=rfl
def WM (secret coins:List UInt8) (threshold:Int):List (List UInt8):=(List.range secret.length).map fun i=>JC secret coins threshold i
def FJ (secret:List UInt8) (polys:List (List UInt8)) (epoch threshold many:Int) (k:Nat):Share:=⟨epoch,(k:Int)+1,threshold,many,(List.range secret.length).map fun i=>ER polys[i]! (DZ ((k:Int)+1))⟩
def MH (secret:List UInt8) (epoch threshold many:Int) (coins:List UInt8):List Share:=(List.range many.toNat).map fun k=>FJ secret (WM secret coins threshold) epoch threshold many k
def DN (secret:List UInt8) (epoch threshold many:Int) (coins:List UInt8):Int:=
  if 64<(secret.length:Int) then 1 else if (threshold<1∨many<threshold)∨8<many then 80 else if epoch<0∨1048576<epoch then 81 else if (coins.length:Int)≠(secret.length:Int)*(threshold - 1) then 1 else 0
def BY (secret:List UInt8) (epoch threshold many:Int) (coins:List UInt8):List Share × Int:=
  if DN secret epoch threshold many coins=0 then (MH secret epoch threshold many coins,0) else ([],DN secret epoch threshold many coins)
theorem splitM_ok {secret:List UInt8} {epoch threshold many:Int} {coins:List UInt8} {x:List Share} (h:DN secret epoch threshold many coins=0) (hx:MH secret epoch threshold many coins=x):BY secret epoch threshold many coins=(x,0):=by
  unfold BY;rw [if_pos h,hx]
theorem JN {secret:List UInt8} {epoch threshold many:Int} {coins:List UInt8} {e:Int} (h:DN secret epoch threshold many coins=e) (he:e≠0):BY secret epoch threshold many coins=([],e):=by
  unfold BY;rw [if_neg (by rw [h];exact he),h]
def RU (secret:List UInt8) (epoch threshold many:Int) (coins:List UInt8) (q:Nat):Share:=⟨epoch,(q:Int),threshold,many,XD secret.length fun p=>FQ (JC secret coins threshold p) (DZ (q:Int))⟩
def FY (secret:List UInt8) (epoch threshold many:Int) (coins:List UInt8) (n:Nat):List Share:=(List.range n).map fun q=>RU secret epoch threshold many coins (q+1)
theorem QW (secret:List UInt8) (epoch threshold many:Int) (coins:List UInt8) (n:Nat):(FY secret epoch threshold many coins n).length=n:=by simp [FY]
theorem XB (secret:List UInt8) (epoch threshold many:Int) (coins:List UInt8) (n:Nat):FY secret epoch threshold many coins (n+1)=FY secret epoch threshold many coins n++[RU secret epoch threshold many coins (n+1)]:=by simp [FY,List.range_succ]
def EF (secret:List UInt8) (epoch threshold many:Int) (coins:List UInt8):List Share × Int:=
  if DN secret epoch threshold many coins=0 then (FY secret epoch threshold many coins many.toNat,0) else ([],DN secret epoch threshold many coins)
theorem refSplitM_ok {secret:List UInt8} {epoch threshold many:Int} {coins:List UInt8} {x:List Share} (h:DN secret epoch threshold many coins=0) (hx:FY secret epoch threshold many coins many.toNat=x):EF secret epoch threshold many coins=(x,0):=by
  unfold EF;rw [if_pos h,hx]
theorem HJ {secret:List UInt8} {epoch threshold many:Int} {coins:List UInt8} {e:Int} (h:DN secret epoch threshold many coins=e) (he:e≠0):EF secret epoch threshold many coins=([],e):=by
  unfold EF;rw [if_neg (by rw [h];exact he),h]
theorem KF {α:Type} [Inhabited α] (n:Nat) (f:Nat→α) (i:Nat) (h:i<n):((List.range n).map f)[i]! = f i:=by
  rw [getElem!_pos _ i (by simpa using h)];simp
theorem YU {secret coins:List UInt8} {threshold:Int} {i:Nat} (h:i<secret.length):(WM secret coins threshold)[i]! = JC secret coins threshold i:=KF _ _ _ h
theorem XI (secret:List UInt8) (epoch threshold many:Int) (coins:List UInt8) (k:Nat):FJ secret (WM secret coins threshold) epoch threshold many k=RU secret epoch threshold many coins (k+1):=by
  unfold FJ RU
  congr 1
  unfold XD
  apply List.map_congr_left
  intro i hi
  rw [YU (by simpa using hi),refEval_eq];rfl
theorem refSplit_eq (secret:List UInt8) (epoch threshold many:Int) (coins:List UInt8):EF secret epoch threshold many coins=BY secret epoch threshold many coins:=by
  unfold EF BY
  split
  · congr 1
    unfold FY MH
    apply List.map_congr_left
    intro k _
    exact (XI _ _ _ _ _ _).symm
  · rfl
theorem OC (secret:List UInt8) (epoch threshold many:Int) (coins:List UInt8):DN secret epoch threshold many coins=0↔secret.length≤64∧1≤threshold∧threshold≤many∧many≤8∧0≤epoch∧epoch≤1048576∧(coins.length:Int)=(secret.length:Int)*(threshold - 1):=by
  unfold DN
  by_cases h1:64<(secret.length:Int)
  · rw [if_pos h1];omega
  rw [if_neg h1]
  by_cases h2:(threshold<1∨many<threshold)∨8<many
  · rw [if_pos h2];omega
  rw [if_neg h2]
  by_cases h3:epoch<0∨1048576<epoch
  · rw [if_pos h3];omega
  rw [if_neg h3]
  by_cases h4:(coins.length:Int)≠(secret.length:Int)*(threshold - 1)
  · rw [if_pos h4];exact ⟨fun h=>(by omega),fun h=>absurd h.2.2.2.2.2.2 h4⟩
  · rw [if_neg h4];exact ⟨fun _=>⟨by omega,by omega,by omega,by omega,by omega,by omega,Classical.not_not.1 h4⟩,fun _=>rfl⟩
def NM (l:List Share):List UInt8:=(List.range l.length).map fun i=>DZ l[i]!.index
def GC (l:List Share) (p:Nat):List UInt8:=(List.range l.length).map fun i=>l[i]!.data[p]!
theorem KD (l:List Share):(NM l).length=l.length:=by simp [NM]
theorem SI (l:List Share) (p:Nat):(GC l p).length=l.length:=by simp [GC]
def joinL (l:List Share):List UInt8:=(List.range l[0]!.data.length).map fun p=>(DI (NM l) (GC l p) 0).1
def DE (l:List Share):List UInt8 × Int:=if BQ l≠0 then ([],BQ l) else if (l.length:Int)<l[0]!.threshold then ([],80) else (joinL (l.take l[0]!.threshold.toNat),0)
theorem joinM_ok {l:List Share} {x:List UInt8} (h:BQ l=0) (h2:l[0]!.threshold≤(l.length:Int)) (hx:joinL (l.take l[0]!.threshold.toNat)=x):DE l=(x,0):=by
  unfold DE;rw [if_neg (by omega),if_neg (by omega),hx]
theorem joinM_bad {l:List Share} {e:Int} (h:BQ l≠0) (he:BQ l=e):DE l=([],e):=by
  unfold DE;rw [if_pos h,he]
theorem XZ {l:List Share} {e:Int} (h:BQ l=0) (h2:(l.length:Int)<l[0]!.threshold) (he:(80:Int)=e):DE l=([],e):=by
  unfold DE;rw [if_neg (by omega),if_pos (by omega),he]
def HE (l:List Share) (n:Nat):List UInt8:=XD n fun p=>(DU (NM (l.take l[0]!.threshold.toNat)) (GC (l.take l[0]!.threshold.toNat) p) 0).1
def CG (l:List Share):List UInt8 × Int:=if CI l≠0 then ([],CI l) else if (l.length:Int)<l[0]!.threshold then ([],80) else (HE l l[0]!.data.length,0)
theorem refJoinM_ok {l:List Share} {x:List UInt8} (h:CI l=0) (h2:l[0]!.threshold≤(l.length:Int)) (hx:HE l l[0]!.data.length=x):CG l=(x,0):=by
  unfold CG;rw [if_neg (by omega),if_neg (by omega),hx]
theorem refJoinM_bad {l:List Share} {e:Int} (h:CI l≠0) (he:CI l=e):CG l=([],e):=by
  unfold CG;rw [if_pos h,he]
theorem refJoinM_few {l:List Share} {e:Int} (h:CI l=0) (h2:(l.length:Int)<l[0]!.threshold) (he:(80:Int)=e):CG l=([],e):=by
  unfold CG;rw [if_neg (by omega),if_pos (by omega),he]
theorem take0 {α:Type} [Inhabited α] {l:List α} {n:Nat} (h:0<n):(l.take n)[0]! = l[0]!:=by
  rw [getElem!_def,List.getElem?_take,if_pos h,getElem!_def]
theorem takeS {α:Type} [Inhabited α] {l:List α} {n i:Nat} (h:i<n):(l.take n)[i]! = l[i]!:=by
  rw [getElem!_def,List.getElem?_take,if_pos h,getElem!_def]
theorem OG (l:List Share):CG l=DE l:=by
  unfold CG DE
  rw [JQ]
  split
  · rfl
  · rename_i h
    have hv:=(FW l).1 (Classical.not_not.1 h)
    split
    · rfl
    · congr 1
      unfold HE joinL XD
      have:=hv.t1
      rw [take0 (by omega)]
      apply List.map_congr_left
      intro p _
      rw [XC]
def UD (l:List Share) (n:Nat):List UInt8:=(List.range n).map fun i=>DZ l[i]!.index
def UG (l:List Share) (p n:Nat):List UInt8:=(List.range n).map fun i=>l[i]!.data[p]!
def KN (l:List Share) (m:Nat):List UInt8:=0 :: NM l++(List.range m).map (fun i:Nat=>DZ (9+(i:Int)))
theorem MG (l:List Share) (m:Nat):(KN l m).length=1+l.length+m:=by simp [KN,KD];omega
def QO (l:List Share) (b:UInt8) (p m:Nat):List UInt8:=b :: GC l p++List.replicate m 0
theorem expY_len (l:List Share) (b:UInt8) (p m:Nat):(QO l b p m).length=1+l.length+m:=by simp [QO,SI];omega
def QP (l:List Share) (secret:List UInt8) (m:Nat):Nat→List UInt8
  | 0=>[]
  | p+1=>QP l secret m p++(FD (KN l m) (QO l secret[p]! p m)).1.drop 1
def BJ (l:List Share) (secret:List UInt8):List UInt8 × Int:=
  if BQ l≠0 then ([],BQ l) else if l[0]!.threshold≤(l.length:Int) then ([],80) else if (secret.length:Int)≠(l[0]!.data.length:Int) then ([],1) else (QP l secret (l[0]!.threshold.toNat - 1 - l.length) secret.length,0)
end Go.Proofs.YtjgfokolnkhafaaGreat
