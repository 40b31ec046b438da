/- What the laws of this part rest on: lemmas, and the walks of the functions. No conditions. -/
import Derived.WalkKit
import Derived.WalkSpells
import Derived.WalkLawsBesides
import Derived.RangeFuncLeaves
import Derived.Maps.AppendAt
import Derived.Deep.AppendLies
import Derived.Deep.Slices
import Derived.OpenShut
import Derived.ProofKit
import Derived.Below
import Derived.ChangeSame
import Derived.Carry
import Derived.RangeFuncRecord
import Derived.Laws.Tables
import Derived.Recover
import Derived.DefersIn
import Derived.Lib.AppendZerosOnto
import Derived.Lib.Overlaps
import Derived.Laws.CopyRow
import Derived.Laws.StructEq
import Derived.ChangeKeysEq
import Derived.OrdersIn
import Derived.Test.YtjgfokolnkhafaaGreatRows
import Derived.Test.YtjgfokolnkhafaaGreatPD12
set_option linter.unusedSimpArgs false
set_option linter.unusedVariables false
namespace Go.Proofs.YtjgfokolnkhafaaGreat
open Go.Fw Go.RowKit
set_option maxHeartbeats 4000000 in
set_option maxRecDepth 100000 in
theorem c_new {O:List Nat} (l_v:Value) (l:List Int) (threshold:Int) (wait:Int) (w:World) (a7:BC Enc.int w O l_v l) (hpre0:l.length≤1000000) (hO:∀ b∈O,b<w.heap.size):CA Tryz.prog 17 [l_v,vI threshold,vI wait] w (fun v w'=>∃ (x0:List Value),v = .tuple #[.agg x0.toArray,vI ((MM l threshold wait).2)]∧Enc.circle.rd w' (O) x0 ((MM l threshold wait).1)):= by
 have i0:=a7.len_le
 have a7:BC Enc.int w ([]++O) l_v l:=a7
 have s0:St w O w []:=St.start hO
 refine BI 21 Tryz.func17 rfl rfl oT (fun F0=>AG (AC kR (AA (DB [vI 0,vI 0,vI 0,nS,nS] LD rfl s0 fun a3 d5 d6 b7 d7 i1 a2=>(?_)))))
 clear d6
 have a7:=a7.mv d7
 refine AA (AD (vI 0) rfl (AF (AB (AG (AC kR (AA (AE (vI threshold) rfl (AA (AE (vI wait) rfl (AA (AE (l_v) rfl (AA (MF [l_v] _ VY rfl (CH 8 Tryz.func35 rfl rfl oT (fun i2=>AG (AC kR (AA (AD (nS) rfl (AF (AB (AG (AG (AC kR (AA (AE (l_v) rfl (AA (KO U22_ rfl rfl a7 fun a9 c3=>(AF (AB (AL (a9) rfl rfl (fun b0=>?_) (fun b0=>?_)))))))))))))))))) (fun _ _ h=>h))))))))))))))
 ·have h3:a9=true:=by simpa using b0
  refine AG (AC kR (AA (AD (nS) rfl (AF (AB (AM (AK (AT rfl (BY rfl rfl rfl) (?_)))))))))
  have c4:l=[]:=c3 aS
  have a4:BC Enc.int d5 ((a3 :: [])++O) (.slice none 0 0) (l):=by rw [c4];exact BC.nil _ _ _
  refine Exists.intro _ (And.intro rfl (AA (EJ (l:=[(1, .tmp 9),(2, .tmp 10),(3, .tmp 12)]) QI LD rfl [(1,vI threshold,[vI threshold]),(2,vI wait,[vI wait]),(3, .slice none 0 0,[.slice none 0 0])] [vI 0,vI threshold,vI wait, .slice none 0 0,nS] rfl ⟨_,rfl,rfl,oT,⟨_,rfl,rfl,oT,⟨_,rfl,(GN a4.oneCell),oT,rfl⟩⟩⟩ (BZ (BE (vs:=[vI 0,vI threshold,vI wait, .slice none 0 0,nS]) (.agg #[vI 0,vI threshold,vI wait, .slice none 0 0,nS]) rfl rfl rfl BM (fun u hu=>by simp only [List.mem_cons,List.not_mem_nil,or_false] at hu;rcases hu with rfl|rfl|rfl|rfl|rfl <;> rfl) (by repeat (constructor)) a2 oT b7 fun d8 b8 d9 i3 a5=>(?_))))))
  have a4:=a4.mv d9
  refine AF (AB (AG (AG (AC kR (AA (BQ (vs:=[vI 0,vI threshold,vI wait, .slice none 0 0,nS]) U25_ rfl BM rfl a5 rfl (AA (AY (vs:=[vA #[vI 0,vI threshold,vI wait, .slice none 0 0,nS]]) NF (PL (O:=(a3 :: [])++O) [vI 0,vI threshold,vI wait, .slice none 0 0,nS] (⟨(0:Int),threshold,wait,l,[]⟩:Circle) d8 ⟨_, .slice none 0 0,rfl,a4,(BC.nil _ _ _)⟩ b8.lt) rfl b8 fun i4 i5 b9 e0 e2 e3=>(?_)))))))))
  obtain rfl:=e3
  have a4:=a4.mv e0
  have a5:=a5.keep e2 (by simp)
  refine AA (AD (vI (AN (⟨(0:Int),threshold,wait,l,[]⟩:Circle))) rfl (AF (AB (AG (AC kR (AA (AE (vI (AN (⟨(0:Int),threshold,wait,l,[]⟩:Circle))) rfl (AA (CO .i64 (AN (⟨(0:Int),threshold,wait,l,[]⟩:Circle)) (0:Int) rfl rfl (AF (AB (AL ((AN (⟨(0:Int),threshold,wait,l,[]⟩:Circle)) != (0:Int)) rfl rfl (fun b1=>?_) (fun b1=>?_)))))))))))))
  ·have h4:AN (⟨(0:Int),threshold,wait,l,[]⟩:Circle)≠(0:Int):=by simpa using b1
   refine AG (AC kR (AA (EJ (l:=[]) QI LD rfl [] [vI 0,vI 0,vI 0,nS,nS] rfl rfl (AA (AE (vI (AN (⟨(0:Int),threshold,wait,l,[]⟩:Circle))) rfl (BZ (BE (vs:=[vI 0,vI 0,vI 0,nS,nS]) (.agg #[vI 0,vI 0,vI 0,nS,nS]) rfl rfl rfl BM (fun u hu=>by simp only [List.mem_cons,List.not_mem_nil,or_false] at hu;rcases hu with rfl|rfl|rfl|rfl|rfl <;> rfl) (by repeat (constructor)) a5 oT b9 fun i6 e4 i7 i8 c6=>(AA (AD (vI (AN (⟨(0:Int),threshold,wait,l,[]⟩:Circle))) rfl (AF (AB (AM (AK (AT rfl (FC rfl (EW (vs:=[vI 0,vI 0,vI 0,nS,nS]) rfl U25_ rfl BM rfl c6 rfl) (EI rfl rfl)) (?_)))))))))))))))
   have e5:((MM l threshold wait).1)=(⟨(0:Int),(0:Int),(0:Int),[],[]⟩:Circle):=by exact congrArg (fun p=>p.1) (RN aS)
   have e6:((MM l threshold wait).2)=(AN (⟨(0:Int),threshold,wait,l,[]⟩:Circle)):=by exact congrArg (fun p=>p.2) (RN aS)
   exact ⟨_,rfl,e4.keep,by rw [e5,e6];exact ⟨[vI 0,vI 0,vI 0,nS,nS],rfl,Enc.out (B:=(a3 :: [])) ⟨.slice none 0 0, .slice none 0 0,rfl,(BC.nil _ _ _),(BC.nil _ _ _)⟩⟩⟩
  have h5:AN (⟨(0:Int),threshold,wait,l,[]⟩:Circle)=(0:Int):=by simpa using b1
  refine AU (AB (AG (AC kR (AA (BQ (vs:=[vI 0,vI threshold,vI wait, .slice none 0 0,nS]) U25_ rfl BM rfl a5 rfl (BZ (BE (vs:=[vI 0,vI threshold,vI wait, .slice none 0 0,nS]) (.agg #[vI 0,vI threshold,vI wait, .slice none 0 0,nS]) rfl rfl rfl BM (fun u hu=>by simp only [List.mem_cons,List.not_mem_nil,or_false] at hu;rcases hu with rfl|rfl|rfl|rfl|rfl <;> rfl) (by repeat (constructor)) a5 oT b9 fun i9 e7 e8 j0 c7=>(?_))))))))
  have a4:=a4.mv e8
  refine AA (AD (vI 0) rfl (AF (AB (AM (AT rfl (FC rfl (EW (vs:=[vI 0,vI threshold,vI wait, .slice none 0 0,nS]) rfl U25_ rfl BM rfl c7 rfl) (EI rfl rfl)) (?_))))))
  have e9:((MM l threshold wait).1)=(⟨(0:Int),threshold,wait,l,[]⟩:Circle):=by exact congrArg (fun p=>p.1) (UA aS)
  have f0:((MM l threshold wait).2)=(0:Int):=by exact congrArg (fun p=>p.2) (UA aS)
  exact ⟨_,rfl,e7.keep,by rw [e9,f0];exact ⟨[vI 0,vI threshold,vI wait, .slice none 0 0,nS],rfl,Enc.out (B:=(a3 :: [])) ⟨_, .slice none 0 0,rfl,a4,(BC.nil _ _ _)⟩⟩⟩
 have h6:a9=false:=by simpa using b0
 refine AU (AB (AG (AC kR (AA (JP (E:=Enc.int) (xs:=[]) U22_ ML z_3 (by decide) [] [] [] rfl rfl rfl (Parts.nil _ _ _) oT b7 fun c0 f1 j1 f2 b2 f3 f4 f5 c8=>(?_))))))
 have b4:∀ b,c0.ownBlock=some b→b≠a3:=fun b hb=>by have:=a2.lt;rw [b2] at hb;cases hb;omega
 have c9:∀ b,c0.ownBlock=some b→b∈(f1 :: (a3 :: [])):=fun b hb=>by rw [b2] at hb;cases hb;simp
 clear f2 b2
 have a7:=a7.mv f4
 have a2:=a2.keep f5 (by simp)
 refine AA (AE (l_v) rfl (AA (DT (E:=Enc.int) (l:=[]) (m:=l) U22_ i_3 rfl (by decide) rfl rfl c8 a7 (fun _ hb=>.inl hb) c9 (by simp;omega) (by simp [maxLen];omega) f3 fun a0 j2 f6 h7 d0 c5 f7 j3 f8 b5=>(?_))))
 rw [List.nil_append] at b5
 have d1:∀ b,a0.ownBlock=some b→b≠a3:=fun b hb=>by rcases d0 with e1|e1 <;> rw [e1] at hb <;> first|(cases hb;have:=a2.lt;omega)|(exact b4 b hb)
 have b6:a3∈f6:=c5 a3 (by repeat (constructor))
 have a2:=a2.keep f8 (by simp only [Option.mem_toList];exact fun e=>absurd rfl (b4 _ e))
 refine AA (AD (a0) rfl (AF (AB (AM (AT rfl (BY rfl rfl rfl) (Exists.intro _ (And.intro rfl (?_))))))))
 obtain ⟨a8,f9,j4,a1,d2⟩:=b5.publish f7
 have b6:a3∈a8:=d2 a3 (by repeat (assumption)) (fun e=>absurd rfl (d1 _ e))
 have h2:=a1.len_le
 have a2:=a2.keep (Keep.refl [] _) (by simp)
 refine AA (EJ (l:=[(1, .tmp 9),(2, .tmp 10),(3, .tmp 12)]) QI LD rfl [(1,vI threshold,[vI threshold]),(2,vI wait,[vI wait]),(3,a0,[a0])] [vI 0,vI threshold,vI wait,a0,nS] rfl ⟨_,rfl,rfl,oT,⟨_,rfl,rfl,oT,⟨_,rfl,(GN a1.oneCell),oT,rfl⟩⟩⟩ (BZ (BE (vs:=[vI 0,vI threshold,vI wait,a0,nS]) (.agg #[vI 0,vI threshold,vI wait,a0,nS]) rfl rfl rfl BM (fun u hu=>by simp only [List.mem_cons,List.not_mem_nil,or_false] at hu;rcases hu with rfl|rfl|rfl|rfl|rfl <;> first|rfl|exact a1.oneCell) (by repeat (assumption)) a2 oT f9 fun g0 c1 g1 j5 a6=>(?_))))
 have a1:=a1.mv g1
 refine AF (AB (AG (AG (AC kR (AA (BQ (vs:=[vI 0,vI threshold,vI wait,a0,nS]) U25_ rfl BM rfl a6 rfl (AA (AY (vs:=[vA #[vI 0,vI threshold,vI wait,a0,nS]]) NF (PL (O:=a8++O) [vI 0,vI threshold,vI wait,a0,nS] (⟨(0:Int),threshold,wait,l,[]⟩:Circle) g0 ⟨_, .slice none 0 0,rfl,a1,(BC.nil _ _ _)⟩ c1.lt) rfl c1 fun j6 j7 c2 g2 g3 g4=>(?_)))))))))
 obtain rfl:=g4
 have a1:=a1.mv g2
 have a6:=a6.keep g3 (by simp)
 refine AA (AD (vI (AN (⟨(0:Int),threshold,wait,l,[]⟩:Circle))) rfl (AF (AB (AG (AC kR (AA (AE (vI (AN (⟨(0:Int),threshold,wait,l,[]⟩:Circle))) rfl (AA (CO .i64 (AN (⟨(0:Int),threshold,wait,l,[]⟩:Circle)) (0:Int) rfl rfl (AF (AB (AL ((AN (⟨(0:Int),threshold,wait,l,[]⟩:Circle)) != (0:Int)) rfl rfl (fun b3=>?_) (fun b3=>?_)))))))))))))
 ·have h8:AN (⟨(0:Int),threshold,wait,l,[]⟩:Circle)≠(0:Int):=by simpa using b3
  refine AG (AC kR (AA (EJ (l:=[]) QI LD rfl [] [vI 0,vI 0,vI 0,nS,nS] rfl rfl (AA (AE (vI (AN (⟨(0:Int),threshold,wait,l,[]⟩:Circle))) rfl (BZ (BE (vs:=[vI 0,vI 0,vI 0,nS,nS]) (.agg #[vI 0,vI 0,vI 0,nS,nS]) rfl rfl rfl BM (fun u hu=>by simp only [List.mem_cons,List.not_mem_nil,or_false] at hu;rcases hu with rfl|rfl|rfl|rfl|rfl <;> rfl) (by repeat (assumption)) a6 oT c2 fun j8 g5 j9 k0 d3=>(AA (AD (vI (AN (⟨(0:Int),threshold,wait,l,[]⟩:Circle))) rfl (AF (AB (AM (AK (AT rfl (FC rfl (EW (vs:=[vI 0,vI 0,vI 0,nS,nS]) rfl U25_ rfl BM rfl d3 rfl) (EI rfl rfl)) (?_)))))))))))))))
  have g6:((MM l threshold wait).1)=(⟨(0:Int),(0:Int),(0:Int),[],[]⟩:Circle):=by exact congrArg (fun p=>p.1) (RN aS)
  have g7:((MM l threshold wait).2)=(AN (⟨(0:Int),threshold,wait,l,[]⟩:Circle)):=by exact congrArg (fun p=>p.2) (RN aS)
  exact ⟨_,rfl,g5.keep,by rw [g6,g7];exact ⟨[vI 0,vI 0,vI 0,nS,nS],rfl,Enc.out (B:=a8) ⟨.slice none 0 0, .slice none 0 0,rfl,(BC.nil _ _ _),(BC.nil _ _ _)⟩⟩⟩
 have h9:AN (⟨(0:Int),threshold,wait,l,[]⟩:Circle)=(0:Int):=by simpa using b3
 refine AU (AB (AG (AC kR (AA (BQ (vs:=[vI 0,vI threshold,vI wait,a0,nS]) U25_ rfl BM rfl a6 rfl (BZ (BE (vs:=[vI 0,vI threshold,vI wait,a0,nS]) (.agg #[vI 0,vI threshold,vI wait,a0,nS]) rfl rfl rfl BM (fun u hu=>by simp only [List.mem_cons,List.not_mem_nil,or_false] at hu;rcases hu with rfl|rfl|rfl|rfl|rfl <;> first|rfl|exact a1.oneCell) (by repeat (assumption)) a6 oT c2 fun k1 g8 g9 k2 d4=>(?_))))))))
 have a1:=a1.mv g9
 refine AA (AD (vI 0) rfl (AF (AB (AM (AT rfl (FC rfl (EW (vs:=[vI 0,vI threshold,vI wait,a0,nS]) rfl U25_ rfl BM rfl d4 rfl) (EI rfl rfl)) (?_))))))
 have h0:((MM l threshold wait).1)=(⟨(0:Int),threshold,wait,l,[]⟩:Circle):=by exact congrArg (fun p=>p.1) (UA aS)
 have h1:((MM l threshold wait).2)=(0:Int):=by exact congrArg (fun p=>p.2) (UA aS)
 exact ⟨_,rfl,g8.keep,by rw [h0,h1];exact ⟨[vI 0,vI threshold,vI wait,a0,nS],rfl,Enc.out (B:=a8) ⟨_, .slice none 0 0,rfl,a1,(BC.nil _ _ _)⟩⟩⟩
set_option maxHeartbeats 4000000 in
set_option maxRecDepth 100000 in
theorem c_ask {O:List Nat} (c_cs:List Value) (c:Circle) (day:Int) (w:World) (n7:Enc.circle.rd w O c_cs c) (hO:∀ b∈O,b<w.heap.size):CA Tryz.prog 18 [.agg c_cs.toArray,vI day] w (fun v w'=>∃ (x0:List Value),v = .tuple #[.agg x0.toArray,vI ((CI c day).2.1),vI ((CI c day).2.2)]∧Enc.circle.rd w' (O) x0 ((CI c day).1)):= by
 have n7:Enc.circle.rd w ([]++O) c_cs c:=n7
 have s0:St w O w []:=St.start hO
 refine BI 55 Tryz.func18 rfl rfl oT (fun F0=>AG (AC kR (AA (DU (E:=Enc.circle) (vA c_cs.toArray) (c_cs) c rfl rfl n7 s0 fun E6 E7 q8 E8 E9 a5=>(AA (DB [vI 0,vI 0,vI 0,nS,nS] LD rfl q8 fun a0 q9 r0 j1 r4 F1 a4=>(?_)))))))
 clear r0
 have a5:=a5.mv r4
 refine AA (AD (vI 0) rfl (AA (AD (vI 0) rfl (AF (AB (AG (AG (AC kR (AA (CL U25_ rfl BM rfl a5 fun g0 n9=>(AA (AY (vs:=[vA g0.toArray]) NF (PL (O:=(a0 :: [])++O) g0 c q9 n9 j1.lt) rfl j1 fun F2 F3 j2 r5 r6 r7=>(?_)))))))))))))
 obtain rfl:=r7
 have a5:=a5.mv r5
 have a4:=a4.keep r6 (by simp)
 refine AA (AD (vI (AN c)) rfl (AF (AB (AG (AC kR (AA (AE (vI (AN c)) rfl (AA (CO .i64 (AN c) (0:Int) rfl rfl (AF (AB (AL ((AN c) != (0:Int)) rfl rfl (fun d0=>?_) (fun d0=>?_)))))))))))))
 ·have B6:AN c≠(0:Int):=by simpa using d0
  refine AG (AC kR (AA (BQ (vs:=[vI 0,vI 0,vI 0,nS,nS]) U25_ rfl BM rfl a4 rfl (AA (AE (vI (AN c)) rfl (BZ (BE (vs:=[vI 0,vI 0,vI 0,nS,nS]) (.agg #[vI 0,vI 0,vI 0,nS,nS]) rfl rfl rfl BM (fun u hu=>by simp only [List.mem_cons,List.not_mem_nil,or_false] at hu;rcases hu with rfl|rfl|rfl|rfl|rfl <;> rfl) (by repeat (constructor)) a4 oT j2 fun F4 r8 F5 F6 o0=>(AA (AD (vI 0) rfl (AA (AD (vI (AN c)) rfl (AF (AB (AM (AK (AT rfl (II rfl (EW (vs:=[vI 0,vI 0,vI 0,nS,nS]) rfl U25_ rfl BM rfl o0 rfl) (EI rfl rfl) (EI rfl rfl)) (?_)))))))))))))))))
  have r9:((CI c day).1)=(⟨(0:Int),(0:Int),(0:Int),[],[]⟩:Circle):=by exact congrArg (fun p=>p.1) (SC aS)
  have s1:((CI c day).2.1)=(0:Int):=by exact congrArg (fun p=>p.2.1) (SC aS)
  have s2:((CI c day).2.2)=(AN c):=by exact congrArg (fun p=>p.2.2) (SC aS)
  exact ⟨_,rfl,r8.keep,by rw [r9,s1,s2];exact ⟨[vI 0,vI 0,vI 0,nS,nS],rfl,Enc.out (B:=(a0 :: [])) ⟨.slice none 0 0, .slice none 0 0,rfl,(BC.nil _ _ _),(BC.nil _ _ _)⟩⟩⟩
 have o1:AN c=(0:Int):=by simpa using d0
 have hrl:=UE o1
 refine AU (AB (AG (AC kR (AA (AX 4 DS (c.recs) rfl a5 (fun _ _ _ h=>CB h) fun F7 o2=>(AA (BN U23_ rfl rfl o2 fun F8 g1=>(?_))))))))
 have:=g1.len_le
 refine AA (BR U23_ rfl g1 (AA (AD (vI (c.recs.length:Int)) rfl (AF (AB (AG (AC kR (AA (EJ (l:=[(2, .const (vI 1))]) pl_59 NQ rfl [(2,vI 1,[vI 1])] [vI 0,vI 0,vI 1,nS,nS] rfl ⟨_,rfl,rfl,oT,rfl⟩ (AA (DB [vI 0,vI 0,vI 0,nS,nS] NQ rfl j2 fun a3 F9 s3 s4 s5 s6 o3=>(?_))))))))))))
 have c4:GX a0 a3:=by show a0≠a3;have:=a4.lt;omega
 clear s3
 have a5:=a5.mv s5
 have a4:=a4.keep s6 (by simp)
 refine BZ (BE (vs:=[vI 0,vI 0,vI 1,nS,nS]) (.agg #[vI 0,vI 0,vI 1,nS,nS]) rfl rfl rfl GO (fun u hu=>by simp only [List.mem_cons,List.not_mem_nil,or_false] at hu;rcases hu with rfl|rfl|rfl|rfl|rfl <;> rfl) (by repeat (constructor)) o3 oT s4 fun s7 f0 s8 s9 a6=>(?_))
 have a5:=a5.mv s8
 have a4:=a4.keep s9 (BD c4)
 refine AF (AB (AG (AG (AC kR (AA (AE (vI (c.recs.length:Int)) rfl (AA (FP .i64 (c.recs.length:Int) (0:Int) rfl rfl (AF (AB (AL (decide ((0:Int)<(c.recs.length:Int))) rfl rfl (fun d1=>?_) (fun d1=>?_))))))))))))
 ·have B7:(0:Int)<(c.recs.length:Int):=by simpa using d1
  have hlr:KJ c=c.recs[c.recs.length - 1]!:=if_pos oM
  refine AC kR (AA (AX 4 DS (c.recs) rfl a5 (fun _ _ _ h=>CB h) fun G0 o4=>(AA (BN U23_ rfl rfl o4 fun G1 g2=>(?_)))))
  have:=g2.len_le
  refine AA (AE (vI (c.recs.length:Int)) rfl (AA (HF .i64 (c.recs.length:Int) (1:Int) (((c.recs.length - 1:Nat):Int)) rfl rfl (GG oM oM) (AA (CZ U23_ GO .i64 ((c.recs.length - 1:Nat):Int) (c.recs.length - 1) rfl rfl rfl g2 oM fun G2 o5=>(AA (CL U59_ rfl GO rfl o5 fun B8 o6=>(?_))))))))
  obtain ⟨j3,j4,rfl,g3,g4⟩:=o6
  have:=g3.len_le
  have:=g4.len_le
  refine BZ (BE (vs:=[vI ((c.recs[c.recs.length - 1]!).no),vI ((c.recs[c.recs.length - 1]!).asked),vI ((c.recs[c.recs.length - 1]!).state),j3,j4]) (.agg #[vI ((c.recs[c.recs.length - 1]!).no),vI ((c.recs[c.recs.length - 1]!).asked),vI ((c.recs[c.recs.length - 1]!).state),j3,j4]) rfl rfl rfl GO (fun u hu=>by simp only [List.mem_cons,List.not_mem_nil,or_false] at hu;rcases hu with rfl|rfl|rfl|rfl|rfl <;> first|rfl|exact g3.oneCell|exact g4.oneCell) (by repeat (constructor)) a6 oT f0 fun t0 j5 t2 t3 a7=>(?_))
  have a5:=a5.mv t2
  have a4:=a4.keep t3 (BD c4)
  refine AF (AB (AG (BJ (AG (AC kR (AA (AE (vI day) rfl (AA (AP 1 JE rfl (AA (AR U3_ rfl (vI ((c.recs[c.recs.length - 1]!).asked)) rfl a7 rfl (AA (AY (vs:=[vI day,vI ((c.recs[c.recs.length - 1]!).asked)]) ND (PD (O:=(a3 :: (a0 :: []))++O) day ((c.recs[c.recs.length - 1]!).asked) t0 j5.lt) rfl j5 fun G3 G4 c9 t4 j6 t5=>(?_))))))))))))))
  obtain rfl:=t5
  have a5:=a5.mv t4
  have a4:=a4.keep j6 (by simp)
  have a7:=a7.keep j6 (by simp)
  refine AA (ER (CV day ((c.recs[c.recs.length - 1]!).asked)) rfl (AA (AD (vO (!(CV day ((c.recs[c.recs.length - 1]!).asked)))) rfl (AF (AB (AL (!(CV day ((c.recs[c.recs.length - 1]!).asked))) rfl rfl (fun d2=>?_) (fun d2=>?_)))))))
  ·have B9:(CV day ((c.recs[c.recs.length - 1]!).asked))=false:=by simpa using d2
   refine AG (AC kR (AA (BQ (vs:=[vI 0,vI 0,vI 0,nS,nS]) U25_ rfl BM rfl a4 rfl (BZ (BE (vs:=[vI 0,vI 0,vI 0,nS,nS]) (.agg #[vI 0,vI 0,vI 0,nS,nS]) rfl rfl rfl BM (fun u hu=>by simp only [List.mem_cons,List.not_mem_nil,or_false] at hu;rcases hu with rfl|rfl|rfl|rfl|rfl <;> rfl) (by repeat (constructor)) a4 oT c9 fun G5 t6 G6 G7 o7=>(AA (AD (vI 0) rfl (AA (AD (vI 1) rfl (AF (AB (AM (BF (AK (AT rfl (II rfl (EW (vs:=[vI 0,vI 0,vI 0,nS,nS]) rfl U25_ rfl BM rfl o7 rfl) (EI rfl rfl) (EI rfl rfl)) (?_))))))))))))))))
   have t7:((CI c day).1)=(⟨(0:Int),(0:Int),(0:Int),[],[]⟩:Circle):=by exact congrArg (fun p=>p.1) (MA aS (by rw [hlr];assumption))
   have t8:((CI c day).2.1)=(0:Int):=by exact congrArg (fun p=>p.2.1) (MA aS (by rw [hlr];assumption))
   have t9:((CI c day).2.2)=(1:Int):=by exact congrArg (fun p=>p.2.2) (MA aS (by rw [hlr];assumption))
   exact ⟨_,rfl,t6.keep,by rw [t7,t8,t9];exact ⟨[vI 0,vI 0,vI 0,nS,nS],rfl,Enc.out (B:=(a3 :: (a0 :: []))) ⟨.slice none 0 0, .slice none 0 0,rfl,(BC.nil _ _ _),(BC.nil _ _ _)⟩⟩⟩
  have C0:(CV day ((c.recs[c.recs.length - 1]!).asked))=true:=by simpa using d2
  refine AG (AC kR (AA (AP 2 IH rfl (AA (AR U3_ rfl (vI ((c.recs[c.recs.length - 1]!).state)) rfl a7 rfl (AA (EH .i64 ((c.recs[c.recs.length - 1]!).state) (0:Int) rfl rfl (AA (AD (vO (((c.recs[c.recs.length - 1]!).state) == (0:Int))) rfl (AF (AB (AL (((c.recs[c.recs.length - 1]!).state) == (0:Int)) rfl rfl (fun d3=>?_) (fun d3=>?_)))))))))))))
  ·have C1:(c.recs[c.recs.length - 1]!).state=(0:Int):=by simpa using d3
   refine AG (AC kR (AA (BQ (vs:=[vI 0,vI 0,vI 0,nS,nS]) U25_ rfl BM rfl a4 rfl (BZ (BE (vs:=[vI 0,vI 0,vI 0,nS,nS]) (.agg #[vI 0,vI 0,vI 0,nS,nS]) rfl rfl rfl BM (fun u hu=>by simp only [List.mem_cons,List.not_mem_nil,or_false] at hu;rcases hu with rfl|rfl|rfl|rfl|rfl <;> rfl) (by repeat (constructor)) a4 oT c9 fun G8 u0 G9 H0 o8=>(AA (AD (vI 0) rfl (AA (AD (vI 451) rfl (AF (AB (AM (BF (AK (AT rfl (II rfl (EW (vs:=[vI 0,vI 0,vI 0,nS,nS]) rfl U25_ rfl BM rfl o8 rfl) (EI rfl rfl) (EI rfl rfl)) (?_))))))))))))))))
   have u1:((CI c day).1)=(⟨(0:Int),(0:Int),(0:Int),[],[]⟩:Circle):=by exact congrArg (fun p=>p.1) (PQ aS (by rw [hlr];assumption) (by rw [hlr];assumption))
   have u2:((CI c day).2.1)=(0:Int):=by exact congrArg (fun p=>p.2.1) (PQ aS (by rw [hlr];assumption) (by rw [hlr];assumption))
   have u3:((CI c day).2.2)=(451:Int):=by exact congrArg (fun p=>p.2.2) (PQ aS (by rw [hlr];assumption) (by rw [hlr];assumption))
   exact ⟨_,rfl,u0.keep,by rw [u1,u2,u3];exact ⟨[vI 0,vI 0,vI 0,nS,nS],rfl,Enc.out (B:=(a3 :: (a0 :: []))) ⟨.slice none 0 0, .slice none 0 0,rfl,(BC.nil _ _ _),(BC.nil _ _ _)⟩⟩⟩
  have C2:(c.recs[c.recs.length - 1]!).state≠(0:Int):=by simpa using d3
  refine AG (AC kR (AA (AE (vI (c.recs.length:Int)) rfl (AA (EH .i64 (c.recs.length:Int) (1024:Int) rfl rfl (AA (AD (vO ((c.recs.length:Int) == (1024:Int))) rfl (AF (AB (AL ((c.recs.length:Int) == (1024:Int)) rfl rfl (fun d4=>?_) (fun d4=>?_)))))))))))
  ·have C3:(c.recs.length:Int)=(1024:Int):=by simpa using d4
   refine AG (AC kR (AA (BQ (vs:=[vI 0,vI 0,vI 0,nS,nS]) U25_ rfl BM rfl a4 rfl (BZ (BE (vs:=[vI 0,vI 0,vI 0,nS,nS]) (.agg #[vI 0,vI 0,vI 0,nS,nS]) rfl rfl rfl BM (fun u hu=>by simp only [List.mem_cons,List.not_mem_nil,or_false] at hu;rcases hu with rfl|rfl|rfl|rfl|rfl <;> rfl) (by repeat (constructor)) a4 oT c9 fun H1 u4 H2 H3 o9=>(AA (AD (vI 0) rfl (AA (AD (vI 2) rfl (AF (AB (AM (BF (AK (AT rfl (II rfl (EW (vs:=[vI 0,vI 0,vI 0,nS,nS]) rfl U25_ rfl BM rfl o9 rfl) (EI rfl rfl) (EI rfl rfl)) (?_))))))))))))))))
   have u5:((CI c day).1)=(⟨(0:Int),(0:Int),(0:Int),[],[]⟩:Circle):=by exact congrArg (fun p=>p.1) (KP aS (by rw [hlr];assumption) (by rw [hlr];assumption) aS)
   have u6:((CI c day).2.1)=(0:Int):=by exact congrArg (fun p=>p.2.1) (KP aS (by rw [hlr];assumption) (by rw [hlr];assumption) aS)
   have u7:((CI c day).2.2)=(2:Int):=by exact congrArg (fun p=>p.2.2) (KP aS (by rw [hlr];assumption) (by rw [hlr];assumption) aS)
   exact ⟨_,rfl,u4.keep,by rw [u5,u6,u7];exact ⟨[vI 0,vI 0,vI 0,nS,nS],rfl,Enc.out (B:=(a3 :: (a0 :: []))) ⟨.slice none 0 0, .slice none 0 0,rfl,(BC.nil _ _ _),(BC.nil _ _ _)⟩⟩⟩
  have C4:(c.recs.length:Int)≠(1024:Int):=by simpa using d4
  refine AU (CD (AB (AG (AC kR (AA (CL U25_ rfl BM rfl a5 fun C5 p0=>(?_)))))))
  obtain ⟨b0,j7,rfl,a1,g5⟩:=p0
  have:=a1.len_le
  have:=g5.len_le
  refine BZ (BE (vs:=[vI c.epoch,vI c.threshold,vI c.wait,b0,j7]) (.agg #[vI c.epoch,vI c.threshold,vI c.wait,b0,j7]) rfl rfl rfl BM (fun u hu=>by simp only [List.mem_cons,List.not_mem_nil,or_false] at hu;rcases hu with rfl|rfl|rfl|rfl|rfl <;> first|rfl|exact a1.oneCell|exact g5.oneCell) (by repeat (constructor)) a4 oT c9 fun u9 j8 j9 v0 a8=>(?_))
  have a5:=a5.mv j9
  have a1:=a1.mv j9
  have a7:=a7.keep v0 (BD (Ne.symm c4))
  refine AF (AB (AG (AC kR (AA (AX 4 DS (c.recs) rfl a5 (fun _ _ _ h=>CB h) fun H4 p1=>(AA (BN U23_ rfl rfl p1 fun f1 c2=>(?_))))))))
  have:=c2.len_le
  refine AA (MF [f1] _ NH rfl (CH 8 Tryz.func39 rfl rfl oT (fun H5=>AG (AC kR (AA (AD (nS) rfl (AF (AB (AG (AG (AC kR (AA (AE (f1) rfl (AA (KO U23_ rfl rfl c2 fun d5 n5=>(AF (AB (AL (d5) rfl rfl (fun d6=>?_) (fun d6=>?_)))))))))))))))))) (fun _ _ h=>h))
  ·have C6:d5=true:=by simpa using d6
   refine AG (AC kR (AA (AD (nS) rfl (AF (AB (AM (AK (AT rfl (BY rfl rfl rfl) (?_)))))))))
   have e2:c.recs=[]:=n5 aS
   have C7:BC Enc.recovery u9 ((a3 :: (a0 :: []))++O) (.slice none 0 0) (c.recs):=by rw [e2];exact BC.nil _ _ _
   refine Exists.intro _ (And.intro rfl (AA (AE (vI (c.recs.length:Int)) rfl (AA (AE (vI day) rfl (AA (EJ (l:=[(0, .tmp 47),(1, .tmp 48),(2, .const (vI 0))]) pl_59 NQ rfl [(0,vI (c.recs.length:Int),[vI (c.recs.length:Int)]),(1,vI day,[vI day]),(2,vI 0,[vI 0])] [vI (c.recs.length:Int),vI day,vI 0,nS,nS] rfl ⟨_,rfl,rfl,oT,⟨_,rfl,rfl,oT,⟨_,rfl,rfl,oT,rfl⟩⟩⟩ (AA (JQ (E:=Enc.recovery) (xs:=[.tmp 49]) U23_ GO NQ (by decide) [.agg #[vI (c.recs.length:Int),vI day,vI 0,nS,nS]] [[vI (c.recs.length:Int),vI day,vI 0,nS,nS]] [(⟨(c.recs.length:Int),day,(0:Int),[],[]⟩:Recovery)] rfl rfl rfl (Parts.cons rfl ⟨.slice none 0 0, .slice none 0 0,rfl,(BC.nil _ _ _),(BC.nil _ _ _)⟩ (Parts.nil _ _ _)) oT j8 fun H6 H7 v1 v2 k0 g6=>(?_))))))))))
   have a1:=a1.mv v2
   have a8:=a8.keep k0 (by simp)
   have a7:=a7.keep k0 (by simp)
   have:=g6.len_le
   refine AA (DT (v:=.slice none 0 0) (E:=Enc.recovery) (l:=c.recs) (m:=[(⟨(c.recs.length:Int),day,(0:Int),[],[]⟩:Recovery)]) U23_ WX rfl (by decide) rfl rfl (by rw [e2];exact EV.nil Enc.recovery 59 _ _ _) g6 (fun _ hb=>.inl hb) (by intro b hb;simp [Value.ownBlock] at hb) (by simp;omega) (by simp [maxLen];omega) v1 fun b8 H8 k1 C8 g7 e3 v3 v4 v5 b4=>(?_))
   have g8:∀ b,b8.ownBlock=some b→b≠a0:=fun b hb=>by rcases g7 with e1|e1 <;> rw [e1] at hb <;> first|(simp [Value.ownBlock] at hb;done)|(cases hb;have:=a8.lt;omega)
   have C9:∀ b,b8.ownBlock=some b→b≠a3:=fun b hb=>by rcases g7 with e1|e1 <;> rw [e1] at hb <;> first|(simp [Value.ownBlock] at hb;done)|(cases hb;have:=a7.lt;omega)
   have b2:a0∈k1:=e3 a0 (by repeat (constructor))
   have b3:a3∈k1:=e3 a3 (by repeat (constructor))
   have a1:=a1.mv v4
   have a8:=a8.keep v5 (by simp only [Option.mem_toList];(simp [Value.ownBlock];done))
   refine AA (AP 4 DS rfl (BZ (CG (b8) rfl rfl b4.oneCell s_23 (by repeat (assumption)) a8 oT v3 fun H9 v6 k2 v7 g9=>(?_))))
   have a1:=a1.mv k2
   have b4:=b4.mv k2 v7 (fun b hb=>BD (g8 b hb))
   refine AF (AB (AG (AC kR (AA (BQ (vs:=[vI c.epoch,vI c.threshold,vI c.wait,b0,b8]) U25_ rfl BM rfl g9 rfl (AA (AE (vI (c.recs.length:Int)) rfl (BZ (BE (vs:=[vI c.epoch,vI c.threshold,vI c.wait,b0,b8]) (.agg #[vI c.epoch,vI c.threshold,vI c.wait,b0,b8]) rfl rfl rfl BM (fun u hu=>by simp only [List.mem_cons,List.not_mem_nil,or_false] at hu;rcases hu with rfl|rfl|rfl|rfl|rfl <;> first|rfl|exact a1.oneCell|exact b4.oneCell) (by repeat (assumption)) g9 oT v6 fun I0 k3 k4 v8 p2=>(?_))))))))))
   have a1:=a1.mv k4
   have b4:=b4.mv k4 v8 (fun b hb=>BD (g8 b hb))
   refine AA (AD (vI (c.recs.length:Int)) rfl (AA (AD (vI 0) rfl (AF (AB (AM (AT rfl (II rfl (EW (vs:=[vI c.epoch,vI c.threshold,vI c.wait,b0,b8]) rfl U25_ rfl BM rfl p2 rfl) (EI rfl rfl) (EI rfl rfl)) (?_))))))))
   have v9:((CI c day).1)=(⟨c.epoch,c.threshold,c.wait,c.guardians,c.recs++([(⟨(c.recs.length:Int),day,(0:Int),[],[]⟩:Recovery)])⟩:Circle):=by exact congrArg (fun p=>p.1) (IY aS (by rw [hlr];assumption) (by rw [hlr];assumption) aS)
   have w0:((CI c day).2.1)=(c.recs.length:Int):=by exact congrArg (fun p=>p.2.1) (IY aS (by rw [hlr];assumption) (by rw [hlr];assumption) aS)
   have w1:((CI c day).2.2)=(0:Int):=by exact congrArg (fun p=>p.2.2) (IY aS (by rw [hlr];assumption) (by rw [hlr];assumption) aS)
   exact ⟨_,rfl,k3.keep,by rw [v9,w0,w1];exact ⟨[vI c.epoch,vI c.threshold,vI c.wait,b0,b8],rfl,⟨_,_,rfl,a1.out,(b4.pub k3)⟩⟩⟩
  have D0:d5=false:=by simpa using d6
  refine AU (AB (AG (AC kR (AA (JP (E:=Enc.recovery) (xs:=[]) U23_ GO NQ (by decide) [] [] [] rfl rfl rfl (Parts.nil _ _ _) oT j8 fun f2 w2 I1 w3 c5 w4 k5 k6 p3=>(?_))))))
  have h0:∀ b,f2.ownBlock=some b→b≠a0:=fun b hb=>by have:=a8.lt;rw [c5] at hb;cases hb;omega
  have h1:∀ b,f2.ownBlock=some b→b≠a3:=fun b hb=>by have:=a7.lt;rw [c5] at hb;cases hb;omega
  have p4:∀ b,f2.ownBlock=some b→b∈(w2 :: (a3 :: (a0 :: []))):=fun b hb=>by rw [c5] at hb;cases hb;simp
  clear w3 c5
  have c2:=c2.mv k5
  have a1:=a1.mv k5
  have a8:=a8.keep k6 (by simp)
  have a7:=a7.keep k6 (by simp)
  refine AA (AE (f1) rfl (AA (DT (E:=Enc.recovery) (l:=[]) (m:=c.recs) U23_ WX rfl (by decide) rfl rfl p3 c2 (fun _ hb=>.inl hb) p4 (by simp;omega) (by simp [maxLen];omega) w4 fun f3 I2 k7 p5 h2 e4 w5 w6 k8 c6=>(?_))))
  rw [List.nil_append] at c6
  have h3:∀ b,f3.ownBlock=some b→b≠a0:=fun b hb=>by rcases h2 with e1|e1 <;> rw [e1] at hb <;> first|(cases hb;have:=a8.lt;omega)|(exact h0 b hb)
  have p6:∀ b,f3.ownBlock=some b→b≠a3:=fun b hb=>by rcases h2 with e1|e1 <;> rw [e1] at hb <;> first|(cases hb;have:=a7.lt;omega)|(exact h1 b hb)
  have b2:a0∈k7:=e4 a0 (by repeat (constructor))
  have b3:a3∈k7:=e4 a3 (by repeat (constructor))
  have a1:=a1.mv w6
  have a8:=a8.keep k8 (by simp only [Option.mem_toList];exact fun e=>absurd rfl (h0 _ e))
  have a7:=a7.keep k8 (by simp only [Option.mem_toList];exact fun e=>absurd rfl (h1 _ e))
  refine AA (AD (f3) rfl (AF (AB (AM (AT rfl (BY rfl rfl rfl) (Exists.intro _ (And.intro rfl (AA (AE (vI (c.recs.length:Int)) rfl (AA (AE (vI day) rfl (AA (EJ (l:=[(0, .tmp 47),(1, .tmp 48),(2, .const (vI 0))]) pl_59 NQ rfl [(0,vI (c.recs.length:Int),[vI (c.recs.length:Int)]),(1,vI day,[vI day]),(2,vI 0,[vI 0])] [vI (c.recs.length:Int),vI day,vI 0,nS,nS] rfl ⟨_,rfl,rfl,oT,⟨_,rfl,rfl,oT,⟨_,rfl,rfl,oT,rfl⟩⟩⟩ (AA (JQ (E:=Enc.recovery) (xs:=[.tmp 49]) U23_ GO NQ (by decide) [.agg #[vI (c.recs.length:Int),vI day,vI 0,nS,nS]] [[vI (c.recs.length:Int),vI day,vI 0,nS,nS]] [(⟨(c.recs.length:Int),day,(0:Int),[],[]⟩:Recovery)] rfl rfl rfl (Parts.cons rfl ⟨.slice none 0 0, .slice none 0 0,rfl,(BC.nil _ _ _),(BC.nil _ _ _)⟩ (Parts.nil _ _ _)) oT w5 fun I3 I4 w7 k9 f4 h4=>(?_))))))))))))))))
  have a1:=a1.mv k9
  have c6:=c6.mv k9 f4 (by simp)
  have a8:=a8.keep f4 (by simp)
  have a7:=a7.keep f4 (by simp)
  have:=h4.len_le
  refine AA (DT (E:=Enc.recovery) (l:=c.recs) (m:=[(⟨(c.recs.length:Int),day,(0:Int),[],[]⟩:Recovery)]) U23_ WX rfl (by decide) rfl rfl c6 h4 (fun _ hb=>.inl hb) p5 (by simp;omega) (by simp [maxLen];omega) w7 fun b9 I5 l0 D1 h5 e5 w8 w9 x1 b5=>(?_))
  have h6:∀ b,b9.ownBlock=some b→b≠a0:=fun b hb=>by rcases h5 with e1|e1 <;> rw [e1] at hb <;> first|(cases hb;have:=a8.lt;omega)|(exact h3 b hb)
  have D2:∀ b,b9.ownBlock=some b→b≠a3:=fun b hb=>by rcases h5 with e1|e1 <;> rw [e1] at hb <;> first|(cases hb;have:=a7.lt;omega)|(exact p6 b hb)
  have b2:a0∈l0:=e5 a0 (by repeat (assumption))
  have b3:a3∈l0:=e5 a3 (by repeat (assumption))
  have a1:=a1.mv w9
  have a8:=a8.keep x1 (by simp only [Option.mem_toList];exact fun e=>absurd rfl (h3 _ e))
  refine AA (AP 4 DS rfl (BZ (CG (b9) rfl rfl b5.oneCell s_23 (by repeat (assumption)) a8 oT w8 fun I6 x2 l1 x3 h7=>(?_))))
  have a1:=a1.mv l1
  have b5:=b5.mv l1 x3 (fun b hb=>BD (h6 b hb))
  refine AF (AB (AG (AC kR (AA (BQ (vs:=[vI c.epoch,vI c.threshold,vI c.wait,b0,b9]) U25_ rfl BM rfl h7 rfl (AA (AE (vI (c.recs.length:Int)) rfl (BZ (BE (vs:=[vI c.epoch,vI c.threshold,vI c.wait,b0,b9]) (.agg #[vI c.epoch,vI c.threshold,vI c.wait,b0,b9]) rfl rfl rfl BM (fun u hu=>by simp only [List.mem_cons,List.not_mem_nil,or_false] at hu;rcases hu with rfl|rfl|rfl|rfl|rfl <;> first|rfl|exact a1.oneCell|exact b5.oneCell) (by repeat (assumption)) h7 oT x2 fun I7 l2 l3 x4 p7=>(?_))))))))))
  have a1:=a1.mv l3
  have b5:=b5.mv l3 x4 (fun b hb=>BD (h6 b hb))
  refine AA (AD (vI (c.recs.length:Int)) rfl (AA (AD (vI 0) rfl (AF (AB (AM (AT rfl (II rfl (EW (vs:=[vI c.epoch,vI c.threshold,vI c.wait,b0,b9]) rfl U25_ rfl BM rfl p7 rfl) (EI rfl rfl) (EI rfl rfl)) (?_))))))))
  have x5:((CI c day).1)=(⟨c.epoch,c.threshold,c.wait,c.guardians,c.recs++([(⟨(c.recs.length:Int),day,(0:Int),[],[]⟩:Recovery)])⟩:Circle):=by exact congrArg (fun p=>p.1) (IY aS (by rw [hlr];assumption) (by rw [hlr];assumption) aS)
  have x6:((CI c day).2.1)=(c.recs.length:Int):=by exact congrArg (fun p=>p.2.1) (IY aS (by rw [hlr];assumption) (by rw [hlr];assumption) aS)
  have x7:((CI c day).2.2)=(0:Int):=by exact congrArg (fun p=>p.2.2) (IY aS (by rw [hlr];assumption) (by rw [hlr];assumption) aS)
  exact ⟨_,rfl,l2.keep,by rw [x5,x6,x7];exact ⟨[vI c.epoch,vI c.threshold,vI c.wait,b0,b9],rfl,⟨_,_,rfl,a1.out,(b5.pub l2)⟩⟩⟩
 have D3:(c.recs.length:Int)≤(0:Int):=by simpa using d1
 have hlr:KJ c = ⟨0,0,1,[],[]⟩:=if_neg oM
 refine AU (AB (AG (BJ (AG (AC kR (AA (AE (vI day) rfl (AA (AP 1 JE rfl (AA (AR U3_ rfl (vI 0) rfl a6 rfl (AA (AY (vs:=[vI day,vI 0]) ND (PD (O:=(a3 :: (a0 :: []))++O) day (0:Int) s7 f0.lt) rfl f0 fun I8 I9 f5 x8 l4 x9=>(?_))))))))))))))
 obtain rfl:=x9
 have a5:=a5.mv x8
 have a4:=a4.keep l4 (by simp)
 have a6:=a6.keep l4 (by simp)
 refine AA (ER (CV day (0:Int)) rfl (AA (AD (vO (!(CV day (0:Int)))) rfl (AF (AB (AL (!(CV day (0:Int))) rfl rfl (fun d7=>?_) (fun d7=>?_)))))))
 ·have D4:(CV day (0:Int))=false:=by simpa using d7
  refine AG (AC kR (AA (BQ (vs:=[vI 0,vI 0,vI 0,nS,nS]) U25_ rfl BM rfl a4 rfl (BZ (BE (vs:=[vI 0,vI 0,vI 0,nS,nS]) (.agg #[vI 0,vI 0,vI 0,nS,nS]) rfl rfl rfl BM (fun u hu=>by simp only [List.mem_cons,List.not_mem_nil,or_false] at hu;rcases hu with rfl|rfl|rfl|rfl|rfl <;> rfl) (by repeat (constructor)) a4 oT f5 fun J0 y0 J1 J2 p8=>(AA (AD (vI 0) rfl (AA (AD (vI 1) rfl (AF (AB (AM (BF (AK (AT rfl (II rfl (EW (vs:=[vI 0,vI 0,vI 0,nS,nS]) rfl U25_ rfl BM rfl p8 rfl) (EI rfl rfl) (EI rfl rfl)) (?_))))))))))))))))
  have y1:((CI c day).1)=(⟨(0:Int),(0:Int),(0:Int),[],[]⟩:Circle):=by exact congrArg (fun p=>p.1) (MA aS (by rw [hlr];assumption))
  have y2:((CI c day).2.1)=(0:Int):=by exact congrArg (fun p=>p.2.1) (MA aS (by rw [hlr];assumption))
  have y3:((CI c day).2.2)=(1:Int):=by exact congrArg (fun p=>p.2.2) (MA aS (by rw [hlr];assumption))
  exact ⟨_,rfl,y0.keep,by rw [y1,y2,y3];exact ⟨[vI 0,vI 0,vI 0,nS,nS],rfl,Enc.out (B:=(a3 :: (a0 :: []))) ⟨.slice none 0 0, .slice none 0 0,rfl,(BC.nil _ _ _),(BC.nil _ _ _)⟩⟩⟩
 have D5:(CV day (0:Int))=true:=by simpa using d7
 refine AG (AC kR (AA (AP 2 IH rfl (AA (AR U3_ rfl (vI 1) rfl a6 rfl (AA (EH .i64 (1:Int) (0:Int) rfl rfl (AA (AD (vO false) rfl (AF (AB (AL false rfl rfl (fun h=>by cases h) (fun _=>AG (AC kR (AA (AE (vI (c.recs.length:Int)) rfl (AA (EH .i64 (c.recs.length:Int) (1024:Int) rfl rfl (AA (AD (vO ((c.recs.length:Int) == (1024:Int))) rfl (AF (AB (AL ((c.recs.length:Int) == (1024:Int)) rfl rfl (fun d8=>?_) (fun d8=>?_))))))))))))))))))))))))
 ·have D6:(c.recs.length:Int)=(1024:Int):=by simpa using d8
  refine AG (AC kR (AA (BQ (vs:=[vI 0,vI 0,vI 0,nS,nS]) U25_ rfl BM rfl a4 rfl (BZ (BE (vs:=[vI 0,vI 0,vI 0,nS,nS]) (.agg #[vI 0,vI 0,vI 0,nS,nS]) rfl rfl rfl BM (fun u hu=>by simp only [List.mem_cons,List.not_mem_nil,or_false] at hu;rcases hu with rfl|rfl|rfl|rfl|rfl <;> rfl) (by repeat (constructor)) a4 oT f5 fun J3 y4 J4 J5 p9=>(AA (AD (vI 0) rfl (AA (AD (vI 2) rfl (AF (AB (AM (BF (AK (AT rfl (II rfl (EW (vs:=[vI 0,vI 0,vI 0,nS,nS]) rfl U25_ rfl BM rfl p9 rfl) (EI rfl rfl) (EI rfl rfl)) (?_))))))))))))))))
  have y5:((CI c day).1)=(⟨(0:Int),(0:Int),(0:Int),[],[]⟩:Circle):=by exact congrArg (fun p=>p.1) (KP aS (by rw [hlr];assumption) (by rw [hlr];decide) aS)
  have y6:((CI c day).2.1)=(0:Int):=by exact congrArg (fun p=>p.2.1) (KP aS (by rw [hlr];assumption) (by rw [hlr];decide) aS)
  have y7:((CI c day).2.2)=(2:Int):=by exact congrArg (fun p=>p.2.2) (KP aS (by rw [hlr];assumption) (by rw [hlr];decide) aS)
  exact ⟨_,rfl,y4.keep,by rw [y5,y6,y7];exact ⟨[vI 0,vI 0,vI 0,nS,nS],rfl,Enc.out (B:=(a3 :: (a0 :: []))) ⟨.slice none 0 0, .slice none 0 0,rfl,(BC.nil _ _ _),(BC.nil _ _ _)⟩⟩⟩
 have D7:(c.recs.length:Int)≠(1024:Int):=by simpa using d8
 refine AU (CD (AB (AG (AC kR (AA (CL U25_ rfl BM rfl a5 fun D8 q0=>(?_)))))))
 obtain ⟨b1,l5,rfl,a2,h8⟩:=q0
 have:=a2.len_le
 have:=h8.len_le
 refine BZ (BE (vs:=[vI c.epoch,vI c.threshold,vI c.wait,b1,l5]) (.agg #[vI c.epoch,vI c.threshold,vI c.wait,b1,l5]) rfl rfl rfl BM (fun u hu=>by simp only [List.mem_cons,List.not_mem_nil,or_false] at hu;rcases hu with rfl|rfl|rfl|rfl|rfl <;> first|rfl|exact a2.oneCell|exact h8.oneCell) (by repeat (constructor)) a4 oT f5 fun y8 l6 l7 y9 a9=>(?_))
 have a5:=a5.mv l7
 have a2:=a2.mv l7
 have a6:=a6.keep y9 (BD (Ne.symm c4))
 refine AF (AB (AG (AC kR (AA (AX 4 DS (c.recs) rfl a5 (fun _ _ _ h=>CB h) fun J6 q1=>(AA (BN U23_ rfl rfl q1 fun f6 c3=>(?_))))))))
 have:=c3.len_le
 refine AA (MF [f6] _ NH rfl (CH 8 Tryz.func39 rfl rfl oT (fun J7=>AG (AC kR (AA (AD (nS) rfl (AF (AB (AG (AG (AC kR (AA (AE (f6) rfl (AA (KO U23_ rfl rfl c3 fun d9 n6=>(AF (AB (AL (d9) rfl rfl (fun e0=>?_) (fun e0=>?_)))))))))))))))))) (fun _ _ h=>h))
 ·have D9:d9=true:=by simpa using e0
  refine AG (AC kR (AA (AD (nS) rfl (AF (AB (AM (AK (AT rfl (BY rfl rfl rfl) (?_)))))))))
  have e6:c.recs=[]:=n6 aS
  have E0:BC Enc.recovery y8 ((a3 :: (a0 :: []))++O) (.slice none 0 0) (c.recs):=by rw [e6];exact BC.nil _ _ _
  refine Exists.intro _ (And.intro rfl (AA (AE (vI (c.recs.length:Int)) rfl (AA (AE (vI day) rfl (AA (EJ (l:=[(0, .tmp 47),(1, .tmp 48),(2, .const (vI 0))]) pl_59 NQ rfl [(0,vI (c.recs.length:Int),[vI (c.recs.length:Int)]),(1,vI day,[vI day]),(2,vI 0,[vI 0])] [vI (c.recs.length:Int),vI day,vI 0,nS,nS] rfl ⟨_,rfl,rfl,oT,⟨_,rfl,rfl,oT,⟨_,rfl,rfl,oT,rfl⟩⟩⟩ (AA (JQ (E:=Enc.recovery) (xs:=[.tmp 49]) U23_ GO NQ (by decide) [.agg #[vI (c.recs.length:Int),vI day,vI 0,nS,nS]] [[vI (c.recs.length:Int),vI day,vI 0,nS,nS]] [(⟨(c.recs.length:Int),day,(0:Int),[],[]⟩:Recovery)] rfl rfl rfl (Parts.cons rfl ⟨.slice none 0 0, .slice none 0 0,rfl,(BC.nil _ _ _),(BC.nil _ _ _)⟩ (Parts.nil _ _ _)) oT l6 fun J8 J9 z0 z1 l8 h9=>(?_))))))))))
  have a2:=a2.mv z1
  have a9:=a9.keep l8 (by simp)
  have a6:=a6.keep l8 (by simp)
  have:=h9.len_le
  refine AA (DT (v:=.slice none 0 0) (E:=Enc.recovery) (l:=c.recs) (m:=[(⟨(c.recs.length:Int),day,(0:Int),[],[]⟩:Recovery)]) U23_ WX rfl (by decide) rfl rfl (by rw [e6];exact EV.nil Enc.recovery 59 _ _ _) h9 (fun _ hb=>.inl hb) (by intro b hb;simp [Value.ownBlock] at hb) (by simp;omega) (by simp [maxLen];omega) z0 fun c0 K0 l9 E1 i0 e7 z2 z3 z4 b6=>(?_))
  have i1:∀ b,c0.ownBlock=some b→b≠a0:=fun b hb=>by rcases i0 with e1|e1 <;> rw [e1] at hb <;> first|(simp [Value.ownBlock] at hb;done)|(cases hb;have:=a9.lt;omega)
  have E2:∀ b,c0.ownBlock=some b→b≠a3:=fun b hb=>by rcases i0 with e1|e1 <;> rw [e1] at hb <;> first|(simp [Value.ownBlock] at hb;done)|(cases hb;have:=a6.lt;omega)
  have b2:a0∈l9:=e7 a0 (by repeat (constructor))
  have b3:a3∈l9:=e7 a3 (by repeat (constructor))
  have a2:=a2.mv z3
  have a9:=a9.keep z4 (by simp only [Option.mem_toList];(simp [Value.ownBlock];done))
  refine AA (AP 4 DS rfl (BZ (CG (c0) rfl rfl b6.oneCell s_23 (by repeat (assumption)) a9 oT z2 fun K1 z5 m0 z6 i2=>(?_))))
  have a2:=a2.mv m0
  have b6:=b6.mv m0 z6 (fun b hb=>BD (i1 b hb))
  refine AF (AB (AG (AC kR (AA (BQ (vs:=[vI c.epoch,vI c.threshold,vI c.wait,b1,c0]) U25_ rfl BM rfl i2 rfl (AA (AE (vI (c.recs.length:Int)) rfl (BZ (BE (vs:=[vI c.epoch,vI c.threshold,vI c.wait,b1,c0]) (.agg #[vI c.epoch,vI c.threshold,vI c.wait,b1,c0]) rfl rfl rfl BM (fun u hu=>by simp only [List.mem_cons,List.not_mem_nil,or_false] at hu;rcases hu with rfl|rfl|rfl|rfl|rfl <;> first|rfl|exact a2.oneCell|exact b6.oneCell) (by repeat (assumption)) i2 oT z5 fun K2 m1 m2 z7 q2=>(?_))))))))))
  have a2:=a2.mv m2
  have b6:=b6.mv m2 z7 (fun b hb=>BD (i1 b hb))
  refine AA (AD (vI (c.recs.length:Int)) rfl (AA (AD (vI 0) rfl (AF (AB (AM (AT rfl (II rfl (EW (vs:=[vI c.epoch,vI c.threshold,vI c.wait,b1,c0]) rfl U25_ rfl BM rfl q2 rfl) (EI rfl rfl) (EI rfl rfl)) (?_))))))))
  have z8:((CI c day).1)=(⟨c.epoch,c.threshold,c.wait,c.guardians,c.recs++([(⟨(c.recs.length:Int),day,(0:Int),[],[]⟩:Recovery)])⟩:Circle):=by exact congrArg (fun p=>p.1) (IY aS (by rw [hlr];assumption) (by rw [hlr];decide) aS)
  have z9:((CI c day).2.1)=(c.recs.length:Int):=by exact congrArg (fun p=>p.2.1) (IY aS (by rw [hlr];assumption) (by rw [hlr];decide) aS)
  have A0:((CI c day).2.2)=(0:Int):=by exact congrArg (fun p=>p.2.2) (IY aS (by rw [hlr];assumption) (by rw [hlr];decide) aS)
  exact ⟨_,rfl,m1.keep,by rw [z8,z9,A0];exact ⟨[vI c.epoch,vI c.threshold,vI c.wait,b1,c0],rfl,⟨_,_,rfl,a2.out,(b6.pub m1)⟩⟩⟩
 have E3:d9=false:=by simpa using e0
 refine AU (AB (AG (AC kR (AA (JP (E:=Enc.recovery) (xs:=[]) U23_ GO NQ (by decide) [] [] [] rfl rfl rfl (Parts.nil _ _ _) oT l6 fun f7 A1 K3 A2 c7 A3 m3 m4 q3=>(?_))))))
 have i3:∀ b,f7.ownBlock=some b→b≠a0:=fun b hb=>by have:=a9.lt;rw [c7] at hb;cases hb;omega
 have i4:∀ b,f7.ownBlock=some b→b≠a3:=fun b hb=>by have:=a6.lt;rw [c7] at hb;cases hb;omega
 have q4:∀ b,f7.ownBlock=some b→b∈(A1 :: (a3 :: (a0 :: []))):=fun b hb=>by rw [c7] at hb;cases hb;simp
 clear A2 c7
 have c3:=c3.mv m3
 have a2:=a2.mv m3
 have a9:=a9.keep m4 (by simp)
 have a6:=a6.keep m4 (by simp)
 refine AA (AE (f6) rfl (AA (DT (E:=Enc.recovery) (l:=[]) (m:=c.recs) U23_ WX rfl (by decide) rfl rfl q3 c3 (fun _ hb=>.inl hb) q4 (by simp;omega) (by simp [maxLen];omega) A3 fun f8 K4 m5 q5 i5 e8 A4 A5 m6 c8=>(?_))))
 rw [List.nil_append] at c8
 have i6:∀ b,f8.ownBlock=some b→b≠a0:=fun b hb=>by rcases i5 with e1|e1 <;> rw [e1] at hb <;> first|(cases hb;have:=a9.lt;omega)|(exact i3 b hb)
 have q6:∀ b,f8.ownBlock=some b→b≠a3:=fun b hb=>by rcases i5 with e1|e1 <;> rw [e1] at hb <;> first|(cases hb;have:=a6.lt;omega)|(exact i4 b hb)
 have b2:a0∈m5:=e8 a0 (by repeat (constructor))
 have b3:a3∈m5:=e8 a3 (by repeat (constructor))
 have a2:=a2.mv A5
 have a9:=a9.keep m6 (by simp only [Option.mem_toList];exact fun e=>absurd rfl (i3 _ e))
 have a6:=a6.keep m6 (by simp only [Option.mem_toList];exact fun e=>absurd rfl (i4 _ e))
 refine AA (AD (f8) rfl (AF (AB (AM (AT rfl (BY rfl rfl rfl) (Exists.intro _ (And.intro rfl (AA (AE (vI (c.recs.length:Int)) rfl (AA (AE (vI day) rfl (AA (EJ (l:=[(0, .tmp 47),(1, .tmp 48),(2, .const (vI 0))]) pl_59 NQ rfl [(0,vI (c.recs.length:Int),[vI (c.recs.length:Int)]),(1,vI day,[vI day]),(2,vI 0,[vI 0])] [vI (c.recs.length:Int),vI day,vI 0,nS,nS] rfl ⟨_,rfl,rfl,oT,⟨_,rfl,rfl,oT,⟨_,rfl,rfl,oT,rfl⟩⟩⟩ (AA (JQ (E:=Enc.recovery) (xs:=[.tmp 49]) U23_ GO NQ (by decide) [.agg #[vI (c.recs.length:Int),vI day,vI 0,nS,nS]] [[vI (c.recs.length:Int),vI day,vI 0,nS,nS]] [(⟨(c.recs.length:Int),day,(0:Int),[],[]⟩:Recovery)] rfl rfl rfl (Parts.cons rfl ⟨.slice none 0 0, .slice none 0 0,rfl,(BC.nil _ _ _),(BC.nil _ _ _)⟩ (Parts.nil _ _ _)) oT A4 fun K5 K6 A6 m7 f9 i7=>(?_))))))))))))))))
 have a2:=a2.mv m7
 have c8:=c8.mv m7 f9 (by simp)
 have a9:=a9.keep f9 (by simp)
 have a6:=a6.keep f9 (by simp)
 have:=i7.len_le
 refine AA (DT (E:=Enc.recovery) (l:=c.recs) (m:=[(⟨(c.recs.length:Int),day,(0:Int),[],[]⟩:Recovery)]) U23_ WX rfl (by decide) rfl rfl c8 i7 (fun _ hb=>.inl hb) q5 (by simp;omega) (by simp [maxLen];omega) A6 fun c1 K7 m9 E4 i8 e9 A7 A8 A9 b7=>(?_))
 have i9:∀ b,c1.ownBlock=some b→b≠a0:=fun b hb=>by rcases i8 with e1|e1 <;> rw [e1] at hb <;> first|(cases hb;have:=a9.lt;omega)|(exact i6 b hb)
 have E5:∀ b,c1.ownBlock=some b→b≠a3:=fun b hb=>by rcases i8 with e1|e1 <;> rw [e1] at hb <;> first|(cases hb;have:=a6.lt;omega)|(exact q6 b hb)
 have b2:a0∈m9:=e9 a0 (by repeat (assumption))
 have b3:a3∈m9:=e9 a3 (by repeat (assumption))
 have a2:=a2.mv A8
 have a9:=a9.keep A9 (by simp only [Option.mem_toList];exact fun e=>absurd rfl (i6 _ e))
 refine AA (AP 4 DS rfl (BZ (CG (c1) rfl rfl b7.oneCell s_23 (by repeat (assumption)) a9 oT A7 fun K8 B0 n2 B1 j0=>(?_))))
 have a2:=a2.mv n2
 have b7:=b7.mv n2 B1 (fun b hb=>BD (i9 b hb))
 refine AF (AB (AG (AC kR (AA (BQ (vs:=[vI c.epoch,vI c.threshold,vI c.wait,b1,c1]) U25_ rfl BM rfl j0 rfl (AA (AE (vI (c.recs.length:Int)) rfl (BZ (BE (vs:=[vI c.epoch,vI c.threshold,vI c.wait,b1,c1]) (.agg #[vI c.epoch,vI c.threshold,vI c.wait,b1,c1]) rfl rfl rfl BM (fun u hu=>by simp only [List.mem_cons,List.not_mem_nil,or_false] at hu;rcases hu with rfl|rfl|rfl|rfl|rfl <;> first|rfl|exact a2.oneCell|exact b7.oneCell) (by repeat (assumption)) j0 oT B0 fun K9 n3 n4 B2 q7=>(?_))))))))))
 have a2:=a2.mv n4
 have b7:=b7.mv n4 B2 (fun b hb=>BD (i9 b hb))
 refine AA (AD (vI (c.recs.length:Int)) rfl (AA (AD (vI 0) rfl (AF (AB (AM (AT rfl (II rfl (EW (vs:=[vI c.epoch,vI c.threshold,vI c.wait,b1,c1]) rfl U25_ rfl BM rfl q7 rfl) (EI rfl rfl) (EI rfl rfl)) (?_))))))))
 have B3:((CI c day).1)=(⟨c.epoch,c.threshold,c.wait,c.guardians,c.recs++([(⟨(c.recs.length:Int),day,(0:Int),[],[]⟩:Recovery)])⟩:Circle):=by exact congrArg (fun p=>p.1) (IY aS (by rw [hlr];assumption) (by rw [hlr];decide) aS)
 have B4:((CI c day).2.1)=(c.recs.length:Int):=by exact congrArg (fun p=>p.2.1) (IY aS (by rw [hlr];assumption) (by rw [hlr];decide) aS)
 have B5:((CI c day).2.2)=(0:Int):=by exact congrArg (fun p=>p.2.2) (IY aS (by rw [hlr];assumption) (by rw [hlr];decide) aS)
 exact ⟨_,rfl,n3.keep,by rw [B3,B4,B5];exact ⟨[vI c.epoch,vI c.threshold,vI c.wait,b1,c1],rfl,⟨_,_,rfl,a2.out,(b7.pub n3)⟩⟩⟩
set_option maxHeartbeats 4000000 in
set_option maxRecDepth 100000 in
theorem c_approved {O:List Nat} (c_cs:List Value) (c:Circle) (r_a:Addr) (r:Recovery) (w:World) (b1:Enc.circle.rd w O c_cs c) (a2:PT Enc.recovery w O (.pointer (some r_a)) r) (hO:∀ b∈O,b<w.heap.size):CA Tryz.prog 53 [.agg c_cs.toArray, .pointer (some r_a)] w (fun v _=>v = .bool (MT c r)):= by
 have b1:Enc.circle.rd w ([]++O) c_cs c:=b1
 have a2:PT Enc.recovery w ([]++O) (.pointer (some r_a)) r:=a2
 have s0:St w O w []:=St.start hO
 refine BI 29 Tryz.func53 rfl rfl oT (fun F0=>AG (AC kR (AA (DU (E:=Enc.circle) (vA c_cs.toArray) (c_cs) c rfl rfl b1 s0 fun a7 c6 b8 b9 c7 a1=>(?_)))))
 have a2:=a2.mv b9
 refine AA (AD (vO false) rfl (AF (AB (AG (AC kR (AA (AD (vI 0) rfl (AF (AB (AG (AG (AC kR (AA (AX 3 JD (c.guardians) rfl a1 (fun _ _ _ h=>DY h) fun c8 b2=>(AA (BN U22_ rfl rfl b2 fun a8 a0=>(?_)))))))))))))))))
 have:=a0.len_le
 refine AA (BR U22_ rfl a0 (AA (AE (vI 0) rfl (AF (AB (BJ (DJ (fun mI FI wI=>∃ (k:Nat) (B:List Nat),k≤c.guardians.length∧mI=c.guardians.length - k∧(∃ F1,FI=GT F1 [(1,vP (some r_a)),(2,vP (some a7)),(5,vI ((JN r.approved c.guardians k:Nat):Int)),(9,a8),(10,vI (c.guardians.length:Int)),(11,vI ((k:Nat):Int)),(29,undef)])∧St w O wI B∧PT Enc.recovery wI (B++O) (.pointer (some r_a)) (r)∧PT Enc.circle wI (B++O) (.pointer (some a7)) (c)∧BC Enc.int wI (B++O) (a8) (c.guardians)) (c.guardians.length - (0)) ?_ ?_)))))))
 ·exact ⟨(0),[],oM,rfl,⟨_,AZ _ ⟨rfl,rfl,(by rfl),rfl,rfl,(by rfl),rfl,trivial⟩⟩,b8,a2,a1,a0⟩
 intro d5 F c1 hI
 clear a2 a1 a0
 obtain ⟨k,b3,hr0_0,d6,⟨d7,rfl⟩,b4,a2,a1,a0⟩:=hI
 have hcm:=countM_le r.approved c.guardians k
 refine AG (AC kR (AA (DW .i64 ((k:Nat):Int) (c.guardians.length:Int) rfl rfl (AF (AB (AG (AL (decide (((k:Nat):Int)<(c.guardians.length:Int))) rfl rfl (fun a3=>?_) (fun a3=>?_))))))))
 ·have c2:((k:Nat):Int)<(c.guardians.length:Int):=by simpa using a3
  refine AU (AB (AG (BJ (AG (AC kR (AA (CZ U22_ ML .i64 ((k:Nat):Int) k rfl rfl rfl a0 oM fun c9 b5=>(AA (BL U3_ rfl rfl b5 (AA (AD (vI (c.guardians[k]!)) rfl (AF (AB (AG (AC kR (AA (AE (vP (some r_a)) rfl (AA (FT r_a rfl (AA (o_field0 KS rfl (AA (AX 3 LV (r.approved) rfl a2 (fun _ _ _ h=>LH h) fun d0 b6=>(AA (BN U22_ rfl rfl b6 fun a9 a6=>(?_))))))))))))))))))))))))))
  have:=a6.len_le
  refine AA (AE (vI (c.guardians[k]!)) rfl (AA (AY (vs:=[a9,vI (c.guardians[k]!)]) enter_47 (WF (O:=b3++O) a9 r.approved (c.guardians[k]!) c1 a6 b4.lt) rfl b4 fun d1 d2 b0 a5 d3 c0=>(?_))))
  obtain rfl:=c0
  have a2:=a2.mv a5
  have a1:=a1.mv a5
  have a0:=a0.mv a5
  refine AF (AB (AL (r.approved.contains (c.guardians[k]!)) rfl rfl (fun a4=>?_) (fun a4=>?_)))
  ·have c3:(r.approved.contains (c.guardians[k]!))=true:=by simpa using a4
   refine AC kR (AA (AE (vI ((JN r.approved c.guardians k:Nat):Int)) rfl (AA (DM .i64 ((JN r.approved c.guardians k:Nat):Int) (1:Int) (((JN r.approved c.guardians k+1:Nat):Int)) rfl rfl (GG oM oM) (AA (AD (vI ((JN r.approved c.guardians k+1:Nat):Int)) rfl (AF (CD (AB (AC kR (AA (DM .i64 ((k:Nat):Int) (1:Int) (((k+1:Nat):Int)) rfl rfl (GG oM oM) (AA (AE (vI ((k+1:Nat):Int)) rfl (AF (AB (?_)))))))))))))))))
   exact ⟨_,oM,(k+1),b3,oM,rfl,⟨_,AZ _ ⟨rfl,rfl,(by exact congrArg (Value.int _) (by ((rw [TN oM,if_pos aS])))),rfl,rfl,(by rfl),rfl,trivial⟩⟩,b0,a2,a1,a0⟩
  have c4:(r.approved.contains (c.guardians[k]!))=false:=by simpa using a4
  refine AU (CD (AB (AC kR (AA (DM .i64 ((k:Nat):Int) (1:Int) (((k+1:Nat):Int)) rfl rfl (GG oM oM) (AA (AE (vI ((k+1:Nat):Int)) rfl (AF (AB (?_))))))))))
  exact ⟨_,oM,(k+1),b3,oM,rfl,⟨_,AZ _ ⟨rfl,rfl,(by exact congrArg (Value.int _) (by ((rw [TN oM,if_neg (by rw [Bool.not_eq_true];assumption)];try rfl)))),rfl,rfl,(by rfl),rfl,trivial⟩⟩,b0,a2,a1,a0⟩
 have c5:(c.guardians.length:Int)≤((k:Nat):Int):=by simpa using a3
 obtain rfl:k=c.guardians.length:=by omega
 refine DG (BS (BS (CT (AB (AG (AC kR (AA (AE (vI ((JN r.approved c.guardians c.guardians.length:Nat):Int)) rfl (AA (AX 1 KQ (c.threshold) rfl a1 (fun _ _ _ h=>FE h) fun d4 b7=>(AA (BL U3_ rfl rfl b7 (AA (KI .i64 ((JN r.approved c.guardians c.guardians.length:Nat):Int) c.threshold rfl rfl (AA (AD (vO (decide (c.threshold≤((JN r.approved c.guardians c.guardians.length:Nat):Int)))) rfl (AF (AB (AM (AT rfl (BY rfl rfl rfl) (?_)))))))))))))))))))))
 have e:(MT c r)=(decide (c.threshold≤((JN r.approved c.guardians c.guardians.length:Nat):Int))):=rfl
 exact ⟨_,rfl,b4.keep,(by exact congrArg vO e.symm)⟩
open Go.Fw Go.RowKit
set_option maxHeartbeats 4000000 in
set_option maxRecDepth 100000 in
theorem c_refMul {O:List Nat} (a:UInt8) (b:UInt8) (w:World) (hO:∀ b∈O,b<w.heap.size):CA Tryz.prog 95 [vB a,vB b] w (fun v _=>v=vB (GE a b)):= by
 have s0:St w O w []:=St.start hO
 refine BI 40 Tryz.func95 rfl rfl oT (fun F0=>AG (AC kR (AA (AD (vB (0:UInt8)) rfl (AF (AB (AG (AC kR (AA (AD (vI 0) rfl (AF (AB (AG (AG (AC kR (AA (AD (vI 0) rfl (AF (AB (BJ (DJ (fun mI FI wI=>∃ (k:Nat),k≤8∧mI=8 - k∧(∃ F1,FI=GT F1 [(0,vB a),(1,vB b),(5,vI ((cl a.toNat b.toNat k:Nat):Int)),(6,vI ((k:Nat):Int)),(40,undef)])∧w=wI) (8 - (0)) ?_ ?_)))))))))))))))))))))
 ·exact ⟨(0),oM,rfl,⟨_,AZ _ ⟨rfl,rfl,(by rfl),(by rfl),rfl,trivial⟩⟩,rfl⟩
 rintro a3 F a4 ⟨k,hr0_0,a5,⟨a6,rfl⟩,rfl⟩
 have hcl:=cl_lt a.toNat b.toNat a.toNat_lt k hr0_0
 refine AG (AG (AC kR (AA (AE (vI ((k:Nat):Int)) rfl (AA (DW .i64 ((k:Nat):Int) (8:Int) rfl rfl (AF (AB (AL (decide (((k:Nat):Int)<(8:Int))) rfl rfl (fun hc1=>?_) (fun hc1=>?_))))))))))
 ·have hp2:((k:Nat):Int)<(8:Int):=by simpa using hc1
  refine AU (AB (AG (BJ (AG (AC kR (AA (AE (vB b) rfl (AA (WN .u8 .i64 U5_ U3_ (b.toNat:Int) (b.toNat:Int) rfl (by have:=(b).toNat_lt;exact GG oM rfl) (AA (AE (vI ((k:Nat):Int)) rfl (AA (o_shrN .i64 b.toNat k oM rfl rfl (AA (o_remN (b.toNat / 2 ^ k) 2 oM rfl rfl (AA (EH .i64 (((b.toNat / 2 ^ k) % 2:Nat):Int) (1:Int) rfl rfl (AF (AB (AL ((((b.toNat / 2 ^ k) % 2:Nat):Int) == (1:Int)) rfl rfl (fun hc3=>?_) (fun hc3=>?_)))))))))))))))))))))
  ·have hp4:(((b.toNat / 2 ^ k) % 2:Nat):Int)=(1:Int):=by simpa using hc3
   refine AC kR (AA (AE (vI ((cl a.toNat b.toNat k:Nat):Int)) rfl (AA (AE (vB a) rfl (AA (WN .u8 .i64 U5_ U3_ (a.toNat:Int) (a.toNat:Int) rfl (by have:=(a).toNat_lt;exact GG oM rfl) (AA (AE (vI ((k:Nat):Int)) rfl (AA (o_shlN .i64 a.toNat k oM (by have:=mul_lt a.toNat k a.toNat_lt oM;omega) rfl rfl (AA (o_xorN (cl a.toNat b.toNat k) (a.toNat*2 ^ k) oM (by have:=mul_lt a.toNat k a.toNat_lt oM;omega) rfl rfl (AA (AD (vI (((cl a.toNat b.toNat k) ^^^ (a.toNat*2 ^ k):Nat):Int)) rfl (AF (CD (AB (AC kR (AA (AE (vI ((k:Nat):Int)) rfl (AA (DM .i64 ((k:Nat):Int) (1:Int) (((k+1:Nat):Int)) rfl rfl (GG oM oM) (AA (AD (vI ((k+1:Nat):Int)) rfl (AF (AB (?_)))))))))))))))))))))))))))
   exact ⟨_,oM,(k+1),oM,rfl,⟨_,AZ _ ⟨rfl,rfl,(by exact congrArg (Value.int _) (by (rw [cl_yes a.toNat b.toNat k oM]))),(by rfl),rfl,trivial⟩⟩,rfl⟩
  have hp5:(((b.toNat / 2 ^ k) % 2:Nat):Int)≠(1:Int):=by simpa using hc3
  refine AU (CD (AB (AC kR (AA (AE (vI ((k:Nat):Int)) rfl (AA (DM .i64 ((k:Nat):Int) (1:Int) (((k+1:Nat):Int)) rfl rfl (GG oM oM) (AA (AD (vI ((k+1:Nat):Int)) rfl (AF (AB (?_))))))))))))
  exact ⟨_,oM,(k+1),oM,rfl,⟨_,AZ _ ⟨rfl,rfl,(by exact congrArg (Value.int _) (by (rw [cl_no a.toNat b.toNat k oM]))),(by rfl),rfl,trivial⟩⟩,rfl⟩
 have hp6:(8:Int)≤((k:Nat):Int):=by simpa using hc1
 obtain rfl:k=8:=by omega
 refine DG (BS (BS (CT (AB (AG (AG (AC kR (AA (AD (vI 14) rfl (AF (AB (BJ (DJ (fun mI FI wI=>∃ (j:Nat),j≤7∧mI=7 - j∧(∃ F1,FI=GT F1 [(5,vI ((OP (cl a.toNat b.toNat 8) j:Nat):Int)),(7,vI ((14 - j:Nat):Int)),(40,undef)])∧w=wI) (7 - (0)) ?_ ?_)))))))))))))
 ·exact ⟨(0),oM,rfl,⟨_,AZ _ ⟨(by rfl),(by rfl),rfl,trivial⟩⟩,rfl⟩
 rintro a7 F a8 ⟨j,hr1_0,a9,⟨b0,rfl⟩,rfl⟩
 have hrd:=red_lt (cl a.toNat b.toNat 8) (cl_lt a.toNat b.toNat a.toNat_lt 8 oM) j hr1_0
 refine AG (AG (AC kR (AA (AE (vI ((14 - j:Nat):Int)) rfl (AA (KI .i64 ((14 - j:Nat):Int) (8:Int) rfl rfl (AF (AB (AL (decide ((8:Int)≤((14 - j:Nat):Int))) rfl rfl (fun hc7=>?_) (fun hc7=>?_))))))))))
 ·have hp8:(8:Int)≤((14 - j:Nat):Int):=by simpa using hc7
  refine AU (AB (AG (BJ (AG (AC kR (AA (AE (vI ((OP (cl a.toNat b.toNat 8) j:Nat):Int)) rfl (AA (AE (vI ((14 - j:Nat):Int)) rfl (AA (o_shrN .i64 (OP (cl a.toNat b.toNat 8) j) (14 - j) oM rfl rfl (AA (o_remN ((OP (cl a.toNat b.toNat 8) j) / 2 ^ (14 - j)) 2 oM rfl rfl (AA (EH .i64 ((((OP (cl a.toNat b.toNat 8) j) / 2 ^ (14 - j)) % 2:Nat):Int) (1:Int) rfl rfl (AF (AB (AL (((((OP (cl a.toNat b.toNat 8) j) / 2 ^ (14 - j)) % 2:Nat):Int) == (1:Int)) rfl rfl (fun hc9=>?_) (fun hc9=>?_)))))))))))))))))))
  ·have a0:((((OP (cl a.toNat b.toNat 8) j) / 2 ^ (14 - j)) % 2:Nat):Int)=(1:Int):=by simpa using hc9
   refine AC kR (AA (AE (vI ((OP (cl a.toNat b.toNat 8) j:Nat):Int)) rfl (AA (AE (vI ((14 - j:Nat):Int)) rfl (AA (HF .i64 ((14 - j:Nat):Int) (8:Int) (((14 - j - 8:Nat):Int)) rfl rfl (GG oM oM) (AA (o_shlN .i64 283 (14 - j - 8) oM (by have:=mul_lt2 (14 - j - 8) oM;omega) rfl rfl (AA (o_xorN (OP (cl a.toNat b.toNat 8) j) (283*2 ^ (14 - j - 8)) oM (by have:=mul_lt2 (14 - j - 8) oM;omega) rfl rfl (AA (AD (vI (((OP (cl a.toNat b.toNat 8) j) ^^^ (283*2 ^ (14 - j - 8)):Nat):Int)) rfl (AF (CD (AB (AC kR (AA (AE (vI ((14 - j:Nat):Int)) rfl (AA (HF .i64 ((14 - j:Nat):Int) (1:Int) (((14 - j:Nat):Int) - (1:Int)) rfl rfl (GG oM oM) (AA (AD (vI (((14 - j:Nat):Int) - (1:Int))) rfl (AF (AB (?_)))))))))))))))))))))))))
   exact ⟨_,oM,(j+1),oM,rfl,⟨_,AZ _ ⟨(by exact congrArg (Value.int _) (by (rw [red_yes (cl a.toNat b.toNat 8) j oM]))),(by exact congrArg (Value.int _) oM),rfl,trivial⟩⟩,rfl⟩
  have a1:((((OP (cl a.toNat b.toNat 8) j) / 2 ^ (14 - j)) % 2:Nat):Int)≠(1:Int):=by simpa using hc9
  refine AU (CD (AB (AC kR (AA (AE (vI ((14 - j:Nat):Int)) rfl (AA (HF .i64 ((14 - j:Nat):Int) (1:Int) (((14 - j:Nat):Int) - (1:Int)) rfl rfl (GG oM oM) (AA (AD (vI (((14 - j:Nat):Int) - (1:Int))) rfl (AF (AB (?_))))))))))))
  exact ⟨_,oM,(j+1),oM,rfl,⟨_,AZ _ ⟨(by exact congrArg (Value.int _) (by (rw [red_no (cl a.toNat b.toNat 8) j oM]))),(by exact congrArg (Value.int _) oM),rfl,trivial⟩⟩,rfl⟩
 have a2:((14 - j:Nat):Int)<(8:Int):=by simpa using hc7
 obtain rfl:j=7:=by omega
 refine DG (BS (BS (CT (AB (AG (AC kR (AA (AE (vI ((OP (cl a.toNat b.toNat 8) 7:Nat):Int)) rfl (AA (VM .i64 U3_ U5_ ((OP (cl a.toNat b.toNat 8) 7:Nat):Int) rfl (AA (AD (vB (EZ ((OP (cl a.toNat b.toNat 8) 7:Nat):Int))) rfl (AF (AB (AM (AT rfl (BY rfl rfl rfl) (?_)))))))))))))))))
 have e:(GE a b)=(EZ ((OP (cl a.toNat b.toNat 8) 7:Nat):Int)):=rfl
 exact ⟨_,rfl,s0.keep,by rw [e];exact rfl⟩
set_option maxHeartbeats 4000000 in
set_option maxRecDepth 100000 in
theorem c_refEval {O:List Nat} (l_v:Value) (l:List UInt8) (x:UInt8) (w:World) (a0:BC Enc.u8 w O l_v l) (hO:∀ b∈O,b<w.heap.size):CA Tryz.prog 69 [l_v,vB x] w (fun v _=>v=vB (FR l x)):= by
 have b3:=a0.len_le
 have a0:BC Enc.u8 w ([]++O) l_v l:=a0
 have s0:St w O w []:=St.start hO
 refine BI 26 Tryz.func69 rfl rfl oT (fun F0=>AG (AC kR (AA (AD (vB (0:UInt8)) rfl (AF (AB (AG (AC kR (AA (AD (vB (0:UInt8)) rfl (AF (AB (AG (AC kR (AA (AD (vB (1:UInt8)) rfl (AF (AB (AG (AG (AC kR (AA (AD (vI 0) rfl (AF (AB (BJ (DJ (fun mI FI wI=>∃ (k:Nat) (B:List Nat),k≤l.length∧mI=l.length - k∧(∃ F1,FI=GT F1 [(0,l_v),(1,vB x),(5,vB ((EE l x k).1)),(6,vB ((EE l x k).2)),(7,vI ((k:Nat):Int)),(26,undef)])∧St w O wI B∧BC Enc.u8 wI (B++O) (l_v) (l)) (l.length - (0)) ?_ ?_)))))))))))))))))))))))))))
 ·exact ⟨(0),[],oM,rfl,⟨_,AZ _ ⟨rfl,rfl,(congrArg vB (by rfl)),(congrArg vB (by rfl)),(by rfl),rfl,trivial⟩⟩,s0,a0⟩
 intro b6 F a6 hI
 clear a0
 obtain ⟨k,a2,hr0_0,b7,⟨b8,rfl⟩,a3,a0⟩:=hI
 refine AG (AG (AC kR (AA (AE (vI ((k:Nat):Int)) rfl (AA (AE (l_v) rfl (AA (BR U26_ rfl a0 (AA (DW .i64 ((k:Nat):Int) (l.length:Int) rfl rfl (AF (AB (AL (decide (((k:Nat):Int)<(l.length:Int))) rfl rfl (fun a1=>?_) (fun a1=>?_))))))))))))))
 ·have b4:((k:Nat):Int)<(l.length:Int):=by simpa using a1
  refine AU (AB (AG (BJ (AG (AC kR (AA (AE (vB ((EE l x k).1)) rfl (AA (AE (l_v) rfl (AA (AE (vI ((k:Nat):Int)) rfl (AA (CZ U26_ JK .i64 ((k:Nat):Int) k rfl rfl rfl a0 oM fun b9 a5=>(AA (HP U5_ rfl rfl a5 (AA (AE (vB ((EE l x k).2)) rfl (AA (AY (vs:=[vB (l[k]!),vB ((EE l x k).2)]) enter_95 (c_refMul (O:=a2++O) (l[k]!) ((EE l x k).2) a6 a3.lt) rfl a3 fun c0 a7 a4 a8 c1 a9=>(?_))))))))))))))))))))
  obtain rfl:=a9
  have a0:=a0.mv a8
  refine AA (NA ((EE l x k).1) (GE (l[k]!) ((EE l x k).2)) rfl rfl (AA (AD (vB (((EE l x k).1) ^^^ (GE (l[k]!) ((EE l x k).2)))) rfl (AF (AB (AC kR (AA (AE (vB ((EE l x k).2)) rfl (AA (AE (vB x) rfl (AA (AY (vs:=[vB ((EE l x k).2),vB x]) enter_95 (c_refMul (O:=a2++O) ((EE l x k).2) x a7 a4.lt) rfl a4 fun c2 c3 b0 b1 c4 b2=>(?_)))))))))))))
  obtain rfl:=b2
  have a0:=a0.mv b1
  refine AA (AD (vB (GE ((EE l x k).2) x)) rfl (AF (CD (AB (AC kR (AA (AE (vI ((k:Nat):Int)) rfl (AA (DM .i64 ((k:Nat):Int) (1:Int) (((k+1:Nat):Int)) rfl rfl (GG oM oM) (AA (AD (vI ((k+1:Nat):Int)) rfl (AF (AB (?_))))))))))))))
  exact ⟨_,oM,(k+1),a2,oM,rfl,⟨_,AZ _ ⟨rfl,rfl,(congrArg vB (by rfl)),(congrArg vB (by rfl)),(by rfl),rfl,trivial⟩⟩,b0,a0⟩
 have b5:(l.length:Int)≤((k:Nat):Int):=by simpa using a1
 obtain rfl:k=l.length:=by omega
 refine DG (BS (BS (CT (AB (AG (AC kR (AA (AE (vB ((EE l x l.length).1)) rfl (AA (AD (vB ((EE l x l.length).1)) rfl (AF (AB (AM (AT rfl (BY rfl rfl rfl) (?_)))))))))))))))
 have e:(FR l x)=((EE l x l.length).1):=rfl
 exact ⟨_,rfl,a3.keep,by rw [e];exact rfl⟩
set_option maxHeartbeats 4000000 in
set_option maxRecDepth 100000 in
theorem YC {O:List Nat} (a:UInt8) (b:UInt8) (w:World) (hO:∀ b∈O,b<w.heap.size):CA Tryz.prog 94 [vB a,vB b] w (fun v _=>v=vB (BX a b)):= by
 have s0:St w O w []:=St.start hO
 refine BI 46 Tryz.func94 rfl rfl oT (fun F0=>AG (AC kR (AA (AD (vB (0:UInt8)) rfl (AF (AB (AG (AC kR (AA (DB [vB (0:UInt8),vB (0:UInt8),vB (0:UInt8),vB (0:UInt8),vB (0:UInt8),vB (0:UInt8),vB (0:UInt8),vB (0:UInt8)] z_119 rfl s0 fun a3 b3 b4 b5 c7 c8 a4=>(?_)))))))))))
 clear b4
 have a4:IN b3 a3 119 ((List.replicate 8 (0:UInt8)).map vB):=a4
 refine AF (AB (AG (AC kR (AA (AE (vB a) rfl (AA (OQ U119_ JK .i64 (0:Int) 0 rfl rfl rfl oM (BZ (CG (vB a) rfl rfl rfl JK (by repeat (constructor)) a4 (by rw [List.length_map,show (List.replicate 8 (0:UInt8)).length=8 from by simp [IA]];omega) b5 fun c9 b6 d0 d1 a7=>(?_))))))))))
 rw [arr_set] at a7
 refine AF (AB (AG (AG (AC kR (AA (AD (vI 1) rfl (AF (AB (BJ (DJ (fun mI FI wI=>∃ (k:Nat) (B:List Nat),0<k∧k≤8∧mI=8 - k∧(∃ F1,FI=GT F1 [(1,vB b),(4,vB (0:UInt8)),(5,vP (some ⟨a3,0,none⟩)),(6,vI ((k:Nat):Int)),(46,undef)])∧St w O wI B∧IN wI a3 119 ((EP a k).map vB)∧a3∈B) (8 - (1)) ?_ ?_))))))))))
 ·exact ⟨(1),(a3 :: []),oM,oM,rfl,⟨_,AZ _ ⟨rfl,rfl,rfl,(by rfl),rfl,trivial⟩⟩,b6,(by rw [show EP a (1)=(List.replicate 8 (0:UInt8)).set 0 a from by rfl];exact a7),(by (repeat (exact List.mem_cons_self)))⟩
 intro d2 F b7 hI
 obtain ⟨k,a9,hr0_0,hr0_1,d3,⟨d4,rfl⟩,b0,hbx_0_b74,b2⟩:=hI
 refine AG (AG (AC kR (AA (AE (vI ((k:Nat):Int)) rfl (AA (DW .i64 ((k:Nat):Int) (8:Int) rfl rfl (AF (AB (AL (decide (((k:Nat):Int)<(8:Int))) rfl rfl (fun a5=>?_) (fun a5=>?_))))))))))
 ·have c5:((k:Nat):Int)<(8:Int):=by simpa using a5
  refine AU (AB (AG (BJ (AG (AC kR (AA (AE (vI ((k:Nat):Int)) rfl (AA (HF .i64 ((k:Nat):Int) (1:Int) (((k - 1:Nat):Int)) rfl rfl (GG oM oM) (AA (OQ U119_ JK .i64 ((k - 1:Nat):Int) (k - 1) rfl rfl rfl oM (AA (AR U5_ rfl (vB (EP a k)[k - 1]!) rfl hbx_0_b74 (arr_get (by rw [show (EP a k).length=8 from by simp [IA]];omega)) (AA (AD (vB ((EP a k)[k - 1]!)) rfl (AF (AB (AG (AC kR (AA (AE (vI ((k:Nat):Int)) rfl (AA (AE (vB ((EP a k)[k - 1]!)) rfl (AA (o_shl8 .u64 ((EP a k)[k - 1]!) 1 oM rfl rfl (AA (OQ U119_ JK .i64 ((k:Nat):Int) k rfl rfl rfl oM (BZ (CG (vB (((EP a k)[k - 1]!) <<< UInt8.ofNat 1)) rfl rfl rfl JK (by repeat (assumption)) hbx_0_b74 (by rw [List.length_map,show (EP a k).length=8 from by simp [IA]];omega) b0 fun d5 b1 d6 d7 a0=>(?_))))))))))))))))))))))))))))))
  rw [arr_set] at a0
  refine AF (AB (AG (AC kR (AA (AE (vB ((EP a k)[k - 1]!)) rfl (AA (KI .u8 (((EP a k)[k - 1]!).toNat:Int) ((128:UInt8).toNat:Int) rfl rfl (AF (AB (AL (decide (((128:UInt8).toNat:Int)≤(((EP a k)[k - 1]!).toNat:Int))) rfl rfl (fun a6=>?_) (fun a6=>?_)))))))))))
  ·have c6:((128:UInt8).toNat:Int)≤(((EP a k)[k - 1]!).toNat:Int):=by simpa using a6
   refine AC kR (AA (AE (vI ((k:Nat):Int)) rfl (AA (OQ U119_ JK .i64 ((k:Nat):Int) k rfl rfl rfl oM (AA (AR U5_ rfl (vB ((EP a k).set k (((EP a k)[k - 1]!) <<< UInt8.ofNat 1))[k]!) rfl a0 (arr_get (by rw [show ((EP a k).set k (((EP a k)[k - 1]!) <<< UInt8.ofNat 1)).length=8 from by simp [IA]];omega)) (AA (NA (((EP a k).set k (((EP a k)[k - 1]!) <<< UInt8.ofNat 1))[k]!) (27:UInt8) rfl rfl (AA (OQ U119_ JK .i64 ((k:Nat):Int) k rfl rfl rfl oM (BZ (CG (vB ((((EP a k).set k (((EP a k)[k - 1]!) <<< UInt8.ofNat 1))[k]!) ^^^ (27:UInt8))) rfl rfl rfl JK (by repeat (assumption)) a0 (by rw [List.length_map,show ((EP a k).set k (((EP a k)[k - 1]!) <<< UInt8.ofNat 1)).length=8 from by simp [IA]];omega) b1 fun d8 b8 d9 e0 a8=>(?_)))))))))))))
   rw [arr_set] at a8
   refine AF (CD (AB (AC kR (AA (AE (vI ((k:Nat):Int)) rfl (AA (DM .i64 ((k:Nat):Int) (1:Int) (((k+1:Nat):Int)) rfl rfl (GG oM oM) (AA (AD (vI ((k+1:Nat):Int)) rfl (AF (AB (?_))))))))))))
   exact ⟨_,oM,(k+1),a9,oM,oM,rfl,⟨_,AZ _ ⟨rfl,rfl,rfl,(by rfl),rfl,trivial⟩⟩,b8,(by rw [show EP a (k+1)=((EP a k).set k (((EP a k)[k - 1]!) <<< UInt8.ofNat 1)).set k ((((EP a k).set k (((EP a k)[k - 1]!) <<< UInt8.ofNat 1))[k]!) ^^^ (27:UInt8)) from by symm;exact xrow_hi a k oM oM aS];exact a8),aS⟩
  have b9:(((EP a k)[k - 1]!).toNat:Int)<((128:UInt8).toNat:Int):=by simpa using a6
  refine AU (CD (AB (AC kR (AA (AE (vI ((k:Nat):Int)) rfl (AA (DM .i64 ((k:Nat):Int) (1:Int) (((k+1:Nat):Int)) rfl rfl (GG oM oM) (AA (AD (vI ((k+1:Nat):Int)) rfl (AF (AB (?_))))))))))))
  exact ⟨_,oM,(k+1),a9,oM,oM,rfl,⟨_,AZ _ ⟨rfl,rfl,rfl,(by rfl),rfl,trivial⟩⟩,b1,(by rw [show EP a (k+1)=(EP a k).set k (((EP a k)[k - 1]!) <<< UInt8.ofNat 1) from by symm;exact xrow_lo a k oM oM aS];exact a0),aS⟩
 have c0:(8:Int)≤((k:Nat):Int):=by simpa using a5
 obtain rfl:k=8:=by omega
 refine DG (BS (BS (CT (AB (AG (AG (AC kR (AA (BQ (vs:=(EP a 8).map vB) U119_ rfl (by rw [List.length_map,show (EP a 8).length=8 from by simp [IA]];exact s_119) rfl hbx_0_b74 (by rw [List.drop_zero,List.take_length]) (AA (AE (vI 0) rfl (AF (AB (BJ (DJ (fun mI FI wI=>∃ (i:Nat),i≤8∧mI=8 - i∧(∃ F1,FI=GT F1 [(1,vB b),(4,vB (gm a b i)),(31,vA ((EP a 8).map vB).toArray),(32,vI ((i:Nat):Int)),(46,undef)])∧b7=wI) (8 - (0)) ?_ ?_)))))))))))))))
 ·exact ⟨(0),oM,rfl,⟨_,AZ _ ⟨rfl,(congrArg vB (by rfl)),rfl,(by rfl),rfl,trivial⟩⟩,rfl⟩
 rintro e1 F e2 ⟨i,hr1_0,e3,⟨e4,rfl⟩,rfl⟩
 refine AG (AC kR (AA (DW .i64 ((i:Nat):Int) (8:Int) rfl rfl (AF (AB (AG (AL (decide (((i:Nat):Int)<(8:Int))) rfl rfl (fun a1=>?_) (fun a1=>?_))))))))
 ·have c1:((i:Nat):Int)<(8:Int):=by simpa using a1
  refine AU (AB (AG (BJ (AG (AC kR (AA (AE (vI ((i:Nat):Int)) rfl (AA (o_indexV (cs:=(EP a 8).map vB) U119_ JK U5_ rfl .i64 ((i:Nat):Int) i (vB (EP a 8)[i]!) rfl rfl rfl oM (arr_at (by rw [show (EP a 8).length=8 from by simp [IA]];omega)) (AA (AD (vI ((i:Nat):Int)) rfl (AA (AD (vB ((EP a 8)[i]!)) rfl (AF (AB (AG (AC kR (AA (AE (vB b) rfl (AA (AE (vI ((i:Nat):Int)) rfl (AA (o_shr8 .i64 b i oM rfl rfl (AA (o_and8 (b >>> UInt8.ofNat i) (1:UInt8) rfl rfl (AA (o_eql8 ((b >>> UInt8.ofNat i) &&& (1:UInt8)) (1:UInt8) rfl rfl (AF (AB (AL (((b >>> UInt8.ofNat i) &&& (1:UInt8)) == (1:UInt8)) rfl rfl (fun a2=>?_) (fun a2=>?_)))))))))))))))))))))))))))))))
  ·have c2:(b >>> UInt8.ofNat i) &&& (1:UInt8)=(1:UInt8):=by simpa using a2
   refine AC kR (AA (AE (vB (gm a b i)) rfl (AA (AE (vB ((EP a 8)[i]!)) rfl (AA (NA (gm a b i) ((EP a 8)[i]!) rfl rfl (AA (AD (vB ((gm a b i) ^^^ ((EP a 8)[i]!))) rfl (AF (CD (AB (AC kR (AA (DM .i64 ((i:Nat):Int) (1:Int) (((i+1:Nat):Int)) rfl rfl (GG oM oM) (AA (AE (vI ((i+1:Nat):Int)) rfl (AF (AB (?_)))))))))))))))))))
   exact ⟨_,oM,(i+1),oM,rfl,⟨_,AZ _ ⟨rfl,(congrArg vB (by (rw [xrow_at a 8 i oM oM];exact (gm_yes a b i aS).symm))),rfl,(by rfl),rfl,trivial⟩⟩,rfl⟩
  have c3:(b >>> UInt8.ofNat i) &&& (1:UInt8)≠(1:UInt8):=by simpa using a2
  refine AU (CD (AB (AC kR (AA (DM .i64 ((i:Nat):Int) (1:Int) (((i+1:Nat):Int)) rfl rfl (GG oM oM) (AA (AE (vI ((i+1:Nat):Int)) rfl (AF (AB (?_))))))))))
  exact ⟨_,oM,(i+1),oM,rfl,⟨_,AZ _ ⟨rfl,(congrArg vB (by exact (gm_no a b i aS).symm)),rfl,(by rfl),rfl,trivial⟩⟩,rfl⟩
 have c4:(8:Int)≤((i:Nat):Int):=by simpa using a1
 obtain rfl:i=8:=by omega
 refine DG (BS (BS (CT (AB (AG (AC kR (AA (AE (vB (gm a b 8)) rfl (AA (AD (vB (gm a b 8)) rfl (AF (AB (AM (AT rfl (BY rfl rfl rfl) (?_)))))))))))))))
 have e:(BX a b)=(gm a b 8):=rfl
 exact ⟨_,rfl,b0.keep,by rw [e];exact rfl⟩
open Go.Fw Go.RowKit
set_option maxHeartbeats 4000000 in
set_option maxRecDepth 100000 in
theorem c_eval {O:List Nat} (l_v:Value) (l:List UInt8) (x:UInt8) (w:World) (a0:BC Enc.u8 w O l_v l) (hO:∀ b∈O,b<w.heap.size):CA Tryz.prog 65 [l_v,vB x] w (fun v _=>v=vB (FB l x)):= by
 have c2:=a0.len_le
 have a0:BC Enc.u8 w ([]++O) l_v l:=a0
 have s0:St w O w []:=St.start hO
 refine BI 22 Tryz.func65 rfl rfl oT (fun F0=>AG (AC kR (AA (AD (vB (0:UInt8)) rfl (AF (AB (AG (AG (AC kR (AA (AE (l_v) rfl (AA (BR U26_ rfl a0 (AA (HF .i64 (l.length:Int) (1:Int) ((l.length:Int) - (1:Int)) rfl rfl (GG oM oM) (AA (AD (vI ((l.length:Int) - (1:Int))) rfl (AF (AB (BJ (DJ (fun mI FI wI=>∃ (k:Nat) (B:List Nat),k≤l.length∧mI=k∧(∃ F1,FI=GT F1 [(0,l_v),(1,vB x),(4,vB (FB (l.drop k) x)),(5,vI ((k:Int) - 1)),(22,undef)])∧St w O wI B∧BC Enc.u8 wI (B++O) (l_v) (l)) ((l.length)) ?_ ?_)))))))))))))))))))))
 ·exact ⟨(l.length),[],oM,rfl,⟨_,AZ _ ⟨rfl,rfl,(congrArg vB (by rw [List.drop_length];rfl)),(by rfl),rfl,trivial⟩⟩,s0,a0⟩
 intro c9 F a5 hI
 clear a0
 obtain ⟨k,a2,hr0_0,d0,⟨d1,rfl⟩,a7,a0⟩:=hI
 refine AG (AG (AC kR (AA (AE (vI ((k:Int) - 1)) rfl (AA (KI .i64 ((k:Int) - 1) (0:Int) rfl rfl (AF (AB (AL (decide ((0:Int)≤(k:Int) - 1)) rfl rfl (fun a3=>?_) (fun a3=>?_))))))))))
 ·have c3:(0:Int)≤(k:Int) - 1:=by simpa using a3
  obtain ⟨q,rfl⟩:∃ q,k=q+1:=⟨k - 1,by omega⟩
  rw [show ((q+1:Nat):Int) - 1=((q:Nat):Int) from by omega]
  refine AU (AB (AG (BJ (cw_draw' 7 _ _ [CP (vB (FB (l.drop (q+1)) x)),CP (vB x),CP (vB (BX (FB (l.drop (q+1)) x) x)),fun (vT:Value) (wT:World)=>BC Enc.u8 wT (a2++O) vT (l),CP (vI ((q:Nat):Int)),fun (vT:Value) (wT:World)=>∃ aT,vT = .pointer (some aT)∧PT Enc.u8 wT (a2++O) (.pointer (some aT)) (l[q]!),CP (vB (l[q]!))] kR kR kR kR rfl rfl ⟨kI,kI,kI,fun _ _ _ h k=>h.mv (Mv.of_keep k),kI,fun _ _ _ ⟨a,e,h⟩ k=>⟨a,e,h.mv (Mv.of_keep k)⟩,kI,trivial⟩ ⟨?_,?_,?_,?_,?_,?_,?_,trivial⟩ ?_))))
  ·intro F1 w1 k1 hf hd
   obtain ⟨F2,rfl⟩:=AI (F:=F1) [(4,vB (FB (l.drop (q+1)) x))] ⟨hf 4 kR,trivial⟩
   exact AH rfl ((AE (vB (FB (l.drop (q+1)) x)) rfl (⟨(Keep.refl _ _),rfl⟩)))
  ·intro F1 w1 k1 hf hd
   obtain ⟨F2,rfl⟩:=AI (F:=F1) [(1,vB x)] ⟨hf 1 kR,trivial⟩
   exact AH rfl ((AE (vB x) rfl (⟨(Keep.refl _ _),rfl⟩)))
  ·intro F1 w1 k1 hf hd
   have k0:=(Keep.drew [] a5).trans k1
   have s1:=a7.call k0
   obtain ⟨F2,rfl⟩:=AI (F:=F1) [(13,vB (FB (l.drop (q+1)) x)),(14,vB x)] ⟨hd 0 13 kR,hd 1 14 kR,trivial⟩
   refine AH rfl ((AY (vs:=[vB (FB (l.drop (q+1)) x),vB x]) NN (YC (O:=a2++O) (FB (l.drop (q+1)) x) x w1 s1.lt) rfl s1 fun c5 c6 c7 c8 b1 b2=>(?_)))
   obtain rfl:=b2
   exact ⟨b1,rfl⟩
  ·intro F1 w1 k1 hf hd
   have k0:=(Keep.drew [] a5).trans k1
   have m1:Mv a2 a5 a2 w1:=Mv.of_keep k0
   have a0:=a0.mv m1
   obtain ⟨F2,rfl⟩:=AI (F:=F1) [(0,l_v)] ⟨hf 0 kR,trivial⟩
   exact AH rfl ((AE (l_v) rfl (⟨(Keep.refl _ _),a0⟩)))
  ·intro F1 w1 k1 hf hd
   obtain ⟨F2,rfl⟩:=AI (F:=F1) [(5,vI ((q:Nat):Int))] ⟨hf 5 kR,trivial⟩
   exact AH rfl ((AE (vI ((q:Nat):Int)) rfl (⟨(Keep.refl _ _),rfl⟩)))
  ·intro F1 w1 k1 hf hd
   obtain ⟨b3,b4,a6⟩:∃ v,F1 16=v∧BC Enc.u8 w1 (a2++O) v (l):=⟨_,rfl,hd 3 16 kR⟩
   have:=a6.len_le
   obtain ⟨F2,rfl⟩:=AI (F:=F1) [(16,b3),(17,vI ((q:Nat):Int))] ⟨b4,hd 4 17 kR,trivial⟩
   exact AH rfl ((CZ U26_ JK .i64 ((q:Nat):Int) q rfl rfl rfl a6 oM fun b5 a9=>(⟨(Keep.refl _ _),⟨b5,rfl,a9⟩⟩)))
  ·intro F1 w1 k1 hf hd
   obtain ⟨b6,b7,b0⟩:∃ aX_,F1 18 = .pointer (some aX_)∧PT Enc.u8 w1 (a2++O) (.pointer (some aX_)) (l[q]!):=hd 5 18 kR
   obtain ⟨F2,rfl⟩:=AI (F:=F1) [(18,vP (some b6))] ⟨b7,trivial⟩
   exact AH rfl ((HP U5_ rfl rfl b0 (⟨(Keep.refl _ _),rfl⟩)))
  intro b8 b9 a8 a4 a1
  have c0:=a7.call a8
  have c1:Mv a2 a5 a2 b9:=Mv.of_keep a8
  have a0:=a0.mv c1
  obtain ⟨F2,rfl⟩:=AI (F:=b8) [(0,l_v),(1,vB x),(4,vB (FB (l.drop (q+1)) x)),(5,vI ((q:Nat):Int)),(22,undef),(15,vB (BX (FB (l.drop (q+1)) x) x)),(19,vB (l[q]!))] ⟨a1 0 kR,a1 1 kR,a1 4 kR,a1 5 kR,a1 22 kR,a4 2 15 kR (by decide),a4 6 19 kR (by decide),trivial⟩
  clear a4 a1
  refine AA (NA (BX (FB (l.drop (q+1)) x) x) (l[q]!) rfl rfl (AA (AD (vB ((BX (FB (l.drop (q+1)) x) x) ^^^ (l[q]!))) rfl (AF (CD (AB (AC kR (AA (AE (vI ((q:Nat):Int)) rfl (AA (HF .i64 ((q:Nat):Int) (1:Int) (((q:Nat):Int) - (1:Int)) rfl rfl (GG oM oM) (AA (AD (vI (((q:Nat):Int) - (1:Int))) rfl (AF (AB (?_))))))))))))))))
  exact ⟨_,oM,(q),a2,oM,rfl,⟨_,AZ _ ⟨rfl,rfl,(congrArg vB (by rw [pev_drop (l:=l) (k:=q) oM])),(by rfl),rfl,trivial⟩⟩,c0,a0⟩
 have c4:(k:Int) - 1<(0:Int):=by (have e:=a3;simp at e;omega)
 obtain rfl:k=0:=by omega
 refine DG (BS (BS (CT (AB (AG (AC kR (AA (AE (vB (FB (l.drop 0) x)) rfl (AA (AD (vB (FB (l.drop 0) x)) rfl (AF (AB (AM (AT rfl (BY rfl rfl rfl) (?_)))))))))))))))
 have e:(FB l x)=(FB (l.drop 0) x):=rfl
 exact ⟨_,rfl,a7.keep,by rw [e];exact rfl⟩
set_option maxHeartbeats 4000000 in
set_option maxRecDepth 100000 in
theorem c_powers {O:List Nat} (a:UInt8) (w:World) (hO:∀ b∈O,b<w.heap.size):CA Tryz.prog 112 [vB a] w (fun v w'=>∃ (a0_0:Addr),v = .func (.func 114) #[] #[.pointer (some a0_0)]∧PT Enc.u8 w' (O) (.pointer (some a0_0)) (a)):= by
 have s0:St w O w []:=St.start hO
 refine BI 4 Tryz.func112 rfl rfl oT (fun F0=>AG (AC kR (AA (DU (E:=Enc.u8) (vB a) ([vB a]) a rfl rfl rfl s0 fun a0 a3 a2 a4 a5 a1=>(AA (AD (Value.nilFunc) rfl (AF (AB (AG (AC kR (AA (DR (first:=[]) (captured:=[.tmp 1]) [] [vP (some a0)] rfl rfl (AA (AD (vN (.func 114) #[] #[vP (some a0)]) rfl (AF (AB (AM (AT rfl (BY rfl rfl rfl) (?_)))))))))))))))))))
 exact ⟨_,rfl,a2.keep,⟨_,rfl,(a1.sub (fun b hb=>.inl (List.mem_append_right _ hb)))⟩⟩
set_option maxHeartbeats 4000000 in
set_option maxRecDepth 100000 in
theorem it_powers (w:World) (L:List Nat) (a_a:Addr) (a:UInt8) (a0:PT Enc.u8 w L (.pointer (some a_a)) a) (hL:∀ b∈L,b<w.heap.size) (l:Nat) (N:Nat) (I:Nat→World→Prop) (J:World→Prop) (hI:∀ i w',I i w'→Keep L w w') (hst:∀ i w1 w2,I i w1→Keep [] w1 w2→I i w2) (hN:∀ i w',I i w'→i≤N) (hNb:N<4611686018427387904) (hR:∀ i w',I i w'→MR Tryz.prog l [vI ((i:Nat):Int),vB (KB a i)] w' (fun v w2=>(v = .bool true∧I (i+1) w2)∨(v = .bool false∧J w2))) (h0:I 0 w):Calls Tryz.prog 114 ([]++[vN (.yield l) #[] #[]]++[vP (some a_a)]).toArray w (fun e w'=>(∃ v,e = .returned v)∧(J w'∨∃ i,False∧I i w')):= by
 have a0:PT Enc.u8 w (L++[]) (.pointer (some a_a)) a:=by rw [List.append_nil];exact a0
 refine CH 14 Tryz.func114 rfl rfl oT (fun F0=>?_)
 have hk_w:=hI _ _ h0
 have a1:PT Enc.u8 w ([]++L) (.pointer (some a_a)) a:=by have h:=a0.mv (Mv.same hk_w);rw [List.append_nil] at h;exact h
 have a5:St w L w []:=St.start (fun b hb=>Nat.lt_of_lt_of_le (hL b hb) hk_w.size)
 refine AG (AC kR (AA (AD (vB (1:UInt8)) rfl (AF (AB (AG (AC kR (AA (AD (vI 0) rfl (AF (AB (BJ (DJ (fun mI FI wI=>∃ k:Nat,mI=N+1 - k∧(∃ F1,FI=GT F1 [(0,vN (.yield l) #[] #[]),(1,vP (some a_a)),(3,vB (KB a k)),(4,vI ((k:Nat):Int)),(14,undef)])∧I (k) wI) (N+1 - (0)) ?_ ?_)))))))))))))
 ·exact ⟨(0),rfl,⟨_,AZ _ ⟨rfl,rfl,(congrArg vB (by rfl)),(by rfl),rfl,trivial⟩⟩,h0⟩
 rintro ml F wl ⟨k,rfl,⟨Fl,rfl⟩,hIl⟩
 have hk_wl:=hI _ _ hIl
 have a1:PT Enc.u8 wl ([]++L) (.pointer (some a_a)) a:=by have h:=a0.mv (Mv.same hk_wl);rw [List.append_nil] at h;exact h
 have a6:St wl L wl []:=St.start (fun b hb=>Nat.lt_of_lt_of_le (hL b hb) hk_wl.size)
 have hkN:=hN _ _ hIl
 refine AG (AG (AC kR (AA (AE (vN (.yield l) #[] #[]) rfl (AA (AE (vI ((k:Nat):Int)) rfl (AA (AE (vB (KB a k)) rfl (wl_y l [vI ((k:Nat):Int),vB (KB a k)] rfl rfl ?_)))))))))
 refine MR.mono (hR k _ hIl) (fun v w2 h=>?_)
 obtain ⟨rfl,hI2⟩|⟨rfl,hJ⟩:=h
 ·have hk_w2:=hI _ _ hI2
  have a1:PT Enc.u8 w2 ([]++L) (.pointer (some a_a)) a:=by have h:=a0.mv (Mv.same hk_w2);rw [List.append_nil] at h;exact h
  have a2:St w2 L w2 []:=St.start (fun b hb=>Nat.lt_of_lt_of_le (hL b hb) hk_w2.size)
  refine AF (AB (AL true rfl rfl (fun _=>AU (AB (AG (BJ (AC kR (AA (AE (vB (KB a k)) rfl (AA (HP U5_ rfl rfl a1 (AA (AY (vs:=[vB (KB a k),vB a]) NN (YC (O:=[]++L) (KB a k) a w2 a2.lt) rfl a2 fun a7 a8 a9 b0 a3 a4=>(?_)))))))))))) (fun h=>by cases h)))
  obtain rfl:=a4
  have hI2:=hst _ _ _ hI2 a3
  refine AA (AD (vB (BX (KB a k) a)) rfl (AF (CD (AB (AC kR (AA (AE (vI ((k:Nat):Int)) rfl (AA (DM .i64 ((k:Nat):Int) (1:Int) (((k+1:Nat):Int)) rfl rfl (GG oM oM) (AA (AD (vI ((k+1:Nat):Int)) rfl (AF (AB (?_))))))))))))))
  exact ⟨_,oM,(k+1),rfl,⟨_,AZ _ ⟨rfl,rfl,(congrArg vB (by rfl)),(by rfl),rfl,trivial⟩⟩,hI2⟩
 refine AF (AB (AL false rfl rfl (fun h=>by cases h) (fun _=>DG (BS (BS (CT (HE rfl (KH rfl) (?_))))))))
 exact ⟨⟨_,rfl⟩, .inl hJ⟩
set_option maxHeartbeats 4000000 in
set_option maxRecDepth 100000 in
theorem c_inverse {O:List Nat} (a:UInt8) (w:World) (hO:∀ b∈O,b<w.heap.size):CA Tryz.prog 107 [vB a] w (fun v _=>v=vB (HN a)):= by
 have s0:St w O w []:=St.start hO
 refine VA 12 Tryz.func107 rfl rfl oT (fun F0=>AG (AC kR (AA (DB [vB (0:UInt8)] z_5 rfl s0 fun a5 d6 d7 c2 f4 f5 a8=>(?_)))))
 clear d7
 refine AF (AB (AG (AG (AC kR (AA (AE (vB a) rfl (AA (AY (vs:=[vB a]) enter_112 (c_powers (O:=(a5 :: [])++O) a d6 c2.lt) rfl c2 fun f6 d8 d9 f7 e0 e1=>(?_)))))))))
 obtain ⟨b3,rfl,a2⟩:=e1
 have a8:=a8.keep e0 (by simp)
 refine AF (AB (BJ (cw_range (fs:=[]) (lb:=[vP (some b3)]) rfl rfl enter_114 rfl (fun l_0 D_0 b1 R_0 _ hR_0 c1 d2 b9 a3 a4=>?_))))
 have a6:GX a5 D_0∧GX a5 l_0:=by show a5≠D_0∧a5≠l_0;have:=a8.lt;omega
 have c3:=d9.adopt2 b9 c1 oM a3.lt a4.lt
 have e2:Mv (a5 :: []) d8 (l_0 :: D_0 :: (a5 :: [])) b1:=Mv.adopt2 b9 c1 oM
 have a2:=a2.mv e2
 have a8:=a8.keep b9 (by simp)
 have hDl_0:GX D_0 l_0:=by show D_0≠l_0;omega
 clear d2
 have a0:Mv (l_0 :: D_0 :: (a5 :: [])) b1 (l_0 :: D_0 :: (a5 :: [])) b1:=Mv.refl _ _
 have hL_0:=c3.lt
 refine Calls.mono (it_powers b1 ((l_0 :: D_0 :: (a5 :: []))++O) b3 a a2 hL_0 l_0 (254) (fun (i:Nat) wI=>∃ (B:List Nat),i≤254∧St w O wI B∧PT Enc.u8 wI (B++O) (.pointer (some b3)) (a)∧Ob wI D_0 (.deferred (some []))∧Ob wI l_0 (R_0 .ready none)∧a5∈B∧D_0∈B∧l_0∈B∧Mv (l_0 :: D_0 :: (a5 :: [])) b1 B wI∧IN wI a5 5 [vB (0:UInt8)]) (fun wI=>(∃ (i:Nat) (B:List Nat),St w O wI B∧PT Enc.u8 wI (B++O) (.pointer (some b3)) (a)∧Ob wI D_0 (.deferred (some []))∧Ob wI l_0 (R_0 .done (some (.ret)))∧a5∈B∧D_0∈B∧l_0∈B∧Mv (l_0 :: D_0 :: (a5 :: [])) b1 B wI∧IN wI a5 5 [vB (HN a)])) ?_ ?_ ?_ oM ?_ ?_) (fun e w2 hJ=>⟨hJ.1,?_⟩)
 ·intro i w' hI
  clear a2 a3 a4 a0
  obtain ⟨Bl,hq0_0,sl,a2,a3,a4,a7,a9,b0,a0,a1⟩:=hI
  exact Keep.mono a0.keep (fun b hb=>.inl (List.mem_append_left _ hb))
 ·intro i wa wb hI kk
  clear a2 a3 a4 a0
  obtain ⟨Bl,hq0_0,sl,a2,a3,a4,a7,a9,b0,a0,a1⟩:=hI
  have f1:=sl.call kk
  have d5:Mv Bl wa Bl wb:=Mv.of_keep kk
  have a2:=a2.mv d5
  have a1:=a1.keep kk (by simp)
  have a3:=a3.keep kk (by simp)
  have a4:=a4.keep kk (by simp)
  have a0:=a0.trans d5
  exact ⟨Bl,hq0_0,f1,a2,a3,a4,(by repeat (assumption)),(by repeat (assumption)),(by repeat (assumption)),a0,a1⟩
 ·intro i w' hI
  clear a2 a3 a4 a0
  obtain ⟨Bl,hq0_0,sl,a2,a3,a4,a7,a9,b0,a0,a1⟩:=hI
  omega
 ·intro i wr hI
  clear a2 a3 a4 a0
  obtain ⟨Bl,hq0_0,sl,a2,a3,a4,a7,a9,b0,a0,a1⟩:=hI
  refine XV hR_0 a4 rfl (by decide) (AG (AC kR (AA (AD (vI ((i:Nat):Int)) rfl (AF (AB (AC kR (AA (AD (vB (KB a i)) rfl (AF (AB (⟨a4,fun c4 b4 b2=>?_⟩))))))))))))
  have c5:=sl.keepB b4 (by repeat (assumption))
  have c6:Mv Bl wr Bl c4:=Mv.keepB b4 (by repeat (assumption))
  have a2:=a2.mv c6
  have a1:=a1.keep b4 (BD a6.2)
  have a3:=a3.keep b4 (BD hDl_0)
  have a0:=a0.trans c6
  refine BJ (AG (AC kR (AA (AE (vI ((i:Nat):Int)) rfl (AA (EH .i64 ((i:Nat):Int) (254:Int) rfl rfl (AF (AB (AL (((i:Nat):Int) == (254:Int)) rfl rfl (fun b5=>?_) (fun b5=>?_))))))))))
  ·have f2:((i:Nat):Int)=(254:Int):=by simpa using b5
   refine AG (AC kR (AA (AE (vB (KB a i)) rfl (BZ (CG (vB (KB a i)) rfl rfl rfl JK (by repeat (assumption)) a1 oT c5 fun e3 e4 c7 c8 b6=>(?_))))))
   have a2:=a2.mv c7
   have a3:=a3.keep c8 (BD (Ne.symm a6.1))
   have b2:=b2.keep c8 (BD (Ne.symm a6.2))
   have a0:=a0.trans c7
   refine AF (AB (AM (BF (round_r b2 (fun e5 b7 d3=>?_)))))
   have e6:=e4.keepB b7 (by repeat (assumption))
   have c9:Mv Bl e3 Bl e5:=Mv.keepB b7 (by repeat (assumption))
   have a2:=a2.mv c9
   have b6:=b6.keep b7 (BD a6.2)
   have a3:=a3.keep b7 (BD hDl_0)
   have a0:=a0.trans c9
   have a4:=d3
   refine .inr ⟨rfl,?_⟩
   exact ⟨i,Bl,e6,a2,a3,a4,(by repeat (assumption)),(by repeat (assumption)),(by repeat (assumption)),a0,(by rw [show ([vB (HN a)]:List Value)=[vB (KB a i)] from by rw [ginv_at a i oM]];exact b6)⟩
  have f3:((i:Nat):Int)≠(254:Int):=by simpa using b5
  refine AU (CD (round_n b2 (fun e7 b8 d4=>?_)))
  have e8:=c5.keepB b8 (by repeat (assumption))
  have d0:Mv Bl c4 Bl e7:=Mv.keepB b8 (by repeat (assumption))
  have a2:=a2.mv d0
  have a1:=a1.keep b8 (BD a6.2)
  have a3:=a3.keep b8 (BD hDl_0)
  have a0:=a0.trans d0
  have a4:=d4
  refine .inl ⟨rfl,?_⟩
  exact ⟨Bl,oM,e8,a2,a3,a4,(by repeat (assumption)),(by repeat (assumption)),(by repeat (assumption)),a0,a1⟩
 ·exact ⟨(l_0 :: D_0 :: (a5 :: [])),oM,c3,a2,a3,a4,(by repeat (constructor)),(by repeat (constructor)),(by repeat (constructor)),a0,a8⟩
 obtain ⟨_,hJ⟩:=hJ
 clear a2 a3 a4 a0
 rcases hJ with (hJ)|⟨i,hi,hJ⟩
 ·obtain ⟨i,Bl,sl,a2,a3,a4,a7,a9,b0,a0,a1⟩:=hJ
  refine ⟨.done,(some (.ret)),by simp,a4,fun f8 c0=>?_⟩
  have e9:=sl.keepB c0 (by repeat (assumption))
  have a1:=a1.keep c0 (BD a6.2)
  have a3:=a3.keep c0 (BD hDl_0)
  refine AM (BF (AK (endM_rm rfl a3 (fun f9 d1=>?_))))
  have f0:=e9.keepB d1 (by repeat (assumption))
  have a1:=a1.keep d1 (BD a6.1)
  refine ⟨_,resc rfl rfl U5_ rfl rfl a1 rfl,?_⟩
  exact ⟨_,rfl,f0.keep,rfl⟩
 exact hi.elim
open Go.Fw Go.RowKit
set_option maxHeartbeats 4000000 in
set_option maxRecDepth 100000 in
theorem c_wrong {O:List Nat} (xs_v:Value) (xs:List UInt8) (ys_v:Value) (ys:List UInt8) (w:World) (a0:BC Enc.u8 w O xs_v xs) (a2:BC Enc.u8 w O ys_v ys) (hO:∀ b∈O,b<w.heap.size):CA Tryz.prog 105 [xs_v,ys_v] w (fun v _=>v = .bool (HB xs ys)):= by
 have c9:=a0.len_le
 have a0:BC Enc.u8 w ([]++O) xs_v xs:=a0
 have d0:=a2.len_le
 have a2:BC Enc.u8 w ([]++O) ys_v ys:=a2
 have s0:St w O w []:=St.start hO
 refine BI 26 Tryz.func105 rfl rfl oT (fun F0=>AG (AC kR (AA (AD (vO false) rfl (AF (AB (AG (AC kR (AA (XK s0 fun a4 d8 b8 b9 b0 d9 a5=>(?_)))))))))))
 clear b8
 have a0:=a0.mv b0
 have a2:=a2.mv b0
 refine AA (DB [.map none] z_121 rfl b9 fun a3 e0 c0 c1 b1 c2 b5=>(?_))
 have a9:GX a4 a3:=by show a4≠a3;have:=a5.lt;omega
 clear c0
 have a0:=a0.mv b1
 have a2:=a2.mv b1
 have a5:=a5.keep c2 (by simp)
 refine BZ (CG (Value.map (some a4)) rfl rfl rfl s_121 (by repeat (constructor)) b5 oT c1 fun e1 b2 b3 c3 a1=>(?_))
 have a0:=a0.mv b3
 have a2:=a2.mv b3
 have a5:=a5.keep c3 (BD a9)
 refine AF (AB (AG (AC kR (AA (DR (first:=[]) (captured:=[.tmp 5]) [] [vP (some ⟨a3,0,none⟩)] rfl rfl (AA (AD (vN (.func 111) #[] #[vP (some ⟨a3,0,none⟩)]) rfl (AF (AB (AG (AG (AC kR (AA (AE (xs_v) rfl (AA (BR U26_ rfl a0 (AA (AE (ys_v) rfl (AA (BR U26_ rfl a2 (AA (CO .i64 (xs.length:Int) (ys.length:Int) rfl rfl (AF (AB (AL ((xs.length:Int) != (ys.length:Int)) rfl rfl (fun a6=>?_) (fun a6=>?_))))))))))))))))))))))))))
 ·have d2:(xs.length:Int)≠(ys.length:Int):=by simpa using a6
  refine AG (AC kR (AA (AD (vO true) rfl (AF (AB (AM (AK (AT rfl (BY rfl rfl rfl) (?_)))))))))
  have e:(HB xs ys)=true:=by simp [HB, *]
  exact ⟨_,rfl,b2.keep,(by exact congrArg vO e.symm)⟩
 have d3:(xs.length:Int)=(ys.length:Int):=by simpa using a6
 refine AU (AB (AG (AG (AC kR (AA (AE (xs_v) rfl (AA (BR U26_ rfl a0 (AA (AE (vI 0) rfl (AF (AB (BJ (DJ (fun mI FI wI=>∃ (k:Nat) (B:List Nat),k≤xs.length∧twice xs xs.length=FN (fun k=>if (xs.take k).contains xs[k]! then some true else none) false k (xs.length - k)∧mI=xs.length - k∧(∃ F1,FI=GT F1 [(6,vN (.func 111) #[] #[vP (some ⟨a3,0,none⟩)]),(16,xs_v),(17,vI (xs.length:Int)),(18,vI ((k:Nat):Int)),(26,undef)])∧St w O wI B∧BC Enc.u8 wI (B++O) (xs_v) (xs)∧WS wI a4 (xs.take k)∧a4∈B∧IN wI a3 121 [Value.map (some a4)]∧a3∈B) (xs.length - (0)) ?_ ?_))))))))))))))
 ·exact ⟨(0),(a3 :: (a4 :: [])),oM,rfl,rfl,⟨_,AZ _ ⟨rfl,rfl,rfl,(by rfl),rfl,trivial⟩⟩,b2,a0,(by rw [show xs.take (0)=[] from rfl];exact a5),(by (repeat (first|exact List.mem_cons_self|apply List.mem_cons_of_mem))),a1,(by (repeat (exact List.mem_cons_self)))⟩
 intro e5 F e6 hI
 clear a0 a1
 obtain ⟨k,d1,hr0_0,hr0_1,e7,⟨e8,rfl⟩,b4,a0,hbx_0_b268,c4,a1,c5⟩:=hI
 refine AG (AC kR (AA (DW .i64 ((k:Nat):Int) (xs.length:Int) rfl rfl (AF (AB (AG (AL (decide (((k:Nat):Int)<(xs.length:Int))) rfl rfl (fun a7=>?_) (fun a7=>?_))))))))
 ·have d4:((k:Nat):Int)<(xs.length:Int):=by simpa using a7
  refine AU (AB (AG (BJ (AG (AC kR (AA (CZ U26_ JK .i64 ((k:Nat):Int) k rfl rfl rfl a0 oM fun e2 b6=>(AA (HP U5_ rfl rfl b6 (AA (AD (vB (xs[k]!)) rfl (AF (AB (AG (AC kR (AA (AE (vN (.func 111) #[] #[vP (some ⟨a3,0,none⟩)]) rfl (AA (AE (vB (xs[k]!)) rfl (AA (o_callv [] [vP (some ⟨a3,0,none⟩)] [vB (xs[k]!)] _ enter_111 rfl rfl (CH 9 Tryz.func111 rfl rfl oT (fun e3=>AG (AC kR (AA (AD (vO false) rfl (AF (AB (AG (AG (AC kR (AA (AR U121_ rfl (Value.map (some a4)) rfl a1 rfl (AA (AE (vB (xs[k]!)) rfl (AA (o_lookupB U121_ U5_ z_4 rfl rfl hbx_0_b268 (AF (AB (AL ((xs.take k).contains (xs[k]!)) rfl rfl (fun a8=>?_) (fun a8=>?_)))))))))))))))))))) (fun _ _ h=>h))))))))))))))))))))))
  ·have d5:((xs.take k).contains (xs[k]!))=true:=by simpa using a8
   refine AG (AC kR (AA (AD (vO true) rfl (AF (AB (AM (AK (AT rfl (BY rfl rfl rfl) (Exists.intro _ (And.intro rfl (AF (AB (AL true rfl rfl (fun _=>AG (AC kR (AA (AD (vO true) rfl (AF (AB (AM (BF (AK (AK (BF (AK (AT rfl (BY rfl rfl rfl) (?_)))))))))))))) (fun h=>by cases h))))))))))))))
   have e:(HB xs ys)=true:=by simp only [HB];rw [if_neg (by simpa using by assumption),hr0_1];exact CS oM (by simp_all)
   exact ⟨_,rfl,b4.keep,(by exact congrArg vO e.symm)⟩
  have d6:((xs.take k).contains (xs[k]!))=false:=by simpa using a8
  refine AU (AB (AG (AC kR (AA (AR U121_ rfl (Value.map (some a4)) rfl a1 rfl (AA (AE (vB (xs[k]!)) rfl (BZ (o_updateB U121_ U5_ rfl rfl rfl aS hbx_0_b268 (by repeat (assumption)) b4 fun e4 c6 c7 c8 b7=>(?_))))))))))
  have a0:=a0.mv c7
  have a1:=a1.keep c8 (BD (Ne.symm a9))
  refine AF (AB (AG (AC kR (AA (AD (vO false) rfl (AF (AB (AM (AT rfl (BY rfl rfl rfl) (Exists.intro _ (And.intro rfl (AF (AB (AL false rfl rfl (fun h=>by cases h) (fun _=>AU (CD (AB (AC kR (AA (DM .i64 ((k:Nat):Int) (1:Int) (((k+1:Nat):Int)) rfl rfl (GG oM oM) (AA (AE (vI ((k+1:Nat):Int)) rfl (AF (AB (?_)))))))))))))))))))))))))
  exact ⟨_,oM,(k+1),d1,oM,(hr0_1.trans (FL oM (by simp_all))),rfl,⟨_,AZ _ ⟨rfl,rfl,rfl,(by rfl),rfl,trivial⟩⟩,c6,a0,(by rw [show xs.take (k+1)=(xs.take k)++[xs[k]!] from XA oM];exact b7),aS,a1,aS⟩
 have d7:(xs.length:Int)≤((k:Nat):Int):=by simpa using a7
 refine DG (BS (BS (CT (AB (AG (AC kR (AA (AD (vO false) rfl (AF (AB (AM (AT rfl (BY rfl rfl rfl) (?_)))))))))))))
 have e:(HB xs ys)=false:=by simp only [HB];rw [if_neg (by simpa using by assumption),hr0_1];exact GS oM
 exact ⟨_,rfl,b4.keep,(by exact congrArg vO e.symm)⟩
set_option maxHeartbeats 4000000 in
set_option maxRecDepth 100000 in
theorem c_zeros {O:List Nat} (xs_v:Value) (xs:List UInt8) (w:World) (a0:BC Enc.u8 w O xs_v xs) (hpre0:xs.length<1000000) (hO:∀ b∈O,b<w.heap.size):CA Tryz.prog 106 [xs_v] w (fun v w'=>∃ (x0:Value),v=x0∧BC Enc.u8 w' (O) x0 (BG xs)):= by
 have f4:=a0.len_le
 have a0:BC Enc.u8 w ([]++O) xs_v xs:=a0
 have s0:St w O w []:=St.start hO
 refine BI 53 Tryz.func106 rfl rfl oT (fun F0=>AG (AC kR (AA (AD (nS) rfl (AF (AB (AG (AC kR (AA (AE (xs_v) rfl (AA (BR U26_ rfl a0 (AA (DM .i64 (xs.length:Int) (1:Int) (((xs.length+1:Nat):Int)) rfl rfl (GG oM oM) (AA (WC (E:=Enc.u8) U26_ i_5 [vB (0:UInt8)] rfl rfl (by decide) (0:UInt8) (fun _ _=>rfl) .i64 .i64 (1:Int) ((xs.length+1:Nat):Int) 1 (xs.length+1) rfl rfl rfl rfl oM oM (by simp only [maxLen];omega) s0 fun a6 c0 g4 d5 b2 d6 d7 g5 b3=>(?_)))))))))))))))))
 have b4:∀ b,a6.ownBlock=some b→b∈(c0 :: []):=fun b hb=>by rw [b2] at hb;cases hb;simp
 clear d5 b2
 have a0:=a0.mv d7
 refine AA (AD (a6) rfl (AF (AB (AG (AC kR (AA (AE (a6) rfl (AA (GA U26_ JK .i64 (0:Int) 0 rfl rfl rfl b3 (by (simp only [List.length_set,List.length_append,List.length_cons,List.length_nil,List.length_replicate,HR,GC];omega)) fun g6 b5=>(BZ (MB (1:UInt8) JK rfl rfl rfl b3 b5 (b4 _ b5) (by (simp only [List.length_set,List.length_append,List.length_cons,List.length_nil,List.length_replicate,HR,GC];omega)) rfl d6 fun g7 d8 d9 g8 c7=>(?_))))))))))))
 have a0:=a0.mv d9
 refine AF (AB (AG (AG (AC kR (AA (AE (xs_v) rfl (AA (BR U26_ rfl a0 (AA (AE (vI 0) rfl (AF (AB (BJ (DJ (fun mI FI wI=>∃ (i:Nat) (a3:Value) (B:List Nat),i≤xs.length∧mI=xs.length - i∧(∃ F1,FI=GT F1 [(3,a3),(13,xs_v),(14,vI (xs.length:Int)),(15,vI ((i:Nat):Int)),(53,undef)])∧St w O wI B∧EV Enc.u8 5 w.heap.size (B++O) wI a3 (JR xs i)∧(∀ b,a3.ownBlock=some b→b∈B)∧BC Enc.u8 wI (B++O) (xs_v) (xs)) (xs.length - (0)) ?_ ?_))))))))))))))
 ·exact ⟨(0),a6,(c0 :: []),oM,rfl,⟨_,AZ _ ⟨rfl,rfl,rfl,(by rfl),rfl,trivial⟩⟩,d8,(by rw [show JR xs (0)=(List.replicate 1 (0:UInt8)).set 0 (1:UInt8) from rfl];exact c7),b4,a0⟩
 intro i4 F i5 hI
 clear a0
 obtain ⟨i,a3,i6,hr0_0,i7,⟨i8,rfl⟩,c1,ho0_3,c8,a0⟩:=hI
 refine AG (AC kR (AA (DW .i64 ((i:Nat):Int) (xs.length:Int) rfl rfl (AF (AB (AG (AL (decide (((i:Nat):Int)<(xs.length:Int))) rfl rfl (fun a7=>?_) (fun a7=>?_))))))))
 ·have f7:((i:Nat):Int)<(xs.length:Int):=by simpa using a7
  refine AU (AB (AG (BJ (AG (AC kR (AA (CZ U26_ JK .i64 ((i:Nat):Int) i rfl rfl rfl a0 oM fun g9 c9=>(AA (HP U5_ rfl rfl c9 (AA (AD (vB (xs[i]!)) rfl (AF (AB (AG (AC kR (AA (AE (a3) rfl (AA (JQ (E:=Enc.u8) (xs:=[.const (vB (0:UInt8))]) U26_ JK z_5 (by decide) [vB (0:UInt8)] [[vB (0:UInt8)]] [(0:UInt8)] rfl rfl rfl (Parts.cons rfl rfl (Parts.nil _ _ _)) oT c1 fun h0 h1 e0 c2 e1 b6=>(?_))))))))))))))))))))
  have ho0_3:=ho0_3.mv c2 e1 (by simp)
  have a0:=a0.mv c2
  have:=b6.len_le
  refine AA (DT (E:=Enc.u8) (l:=JR xs i) (m:=[(0:UInt8)]) U26_ i_5 rfl (by decide) rfl rfl ho0_3 b6 (fun _ hb=>.inl hb) c8 (by simp [GC];omega) (by simp [GC,maxLen];omega) e0 fun b0 h2 e2 d0 f8 f5 e3 e4 h3 b7=>(?_))
  have a0:=a0.mv e4
  refine AA (AD (b0) rfl (AF (AB (AG (AC kR (AA (AE (b0) rfl (AA (VC U26_ rfl b7 (AA (HF .i64 (((JR xs i)++([(0:UInt8)])).length:Int) (1:Int) (((i+1:Nat):Int)) rfl rfl (GG oM (by simp [GC])) (AA (AD (vI ((i+1:Nat):Int)) rfl (AF (AB (BJ (?_)))))))))))))))))
  have hzl:(JR xs i++[0]).length=i+2:=by simp [GC]
  refine DJ (fun mI FI wI=>∃ (k:Nat) (a1:Value) (B:List Nat),k≤i+2∧mI=k∧(∃ F1,FI=GT F1 [(3,a1),(5,vB (xs[i]!)),(6,vI ((k:Int) - 1)),(13,xs_v),(14,vI (xs.length:Int)),(15,vI ((i:Nat):Int)),(53,undef)])∧St w O wI B∧EV Enc.u8 5 w.heap.size (B++O) wI a1 (MG (JR xs i++[0]) xs[i]! (i+2 - k))∧(∀ b,a1.ownBlock=some b→b∈B)∧BC Enc.u8 wI (B++O) (xs_v) (xs)) ((i+2)) ?_ ?_
  ·exact ⟨(i+2),b0,e2,oM,rfl,⟨_,AZ _ ⟨rfl,rfl,(by exact congrArg (Value.int _) oM),rfl,rfl,rfl,rfl,trivial⟩⟩,e3,(by rw [show MG (JR xs i++[0]) xs[i]! (i+2 - (i+2))=(JR xs i)++([(0:UInt8)]) from by rw [Nat.sub_self];rfl];exact b7),d0,a0⟩
  intro i9 F f6 hI
  clear a0
  obtain ⟨k,a1,a5,hr1_0,j0,⟨j1,rfl⟩,c3,ho1_3,a4,a0⟩:=hI
  refine AG (AG (AC kR (AA (AE (vI ((k:Int) - 1)) rfl (AA (KI .i64 ((k:Int) - 1) (0:Int) rfl rfl (AF (AB (AL (decide ((0:Int)≤(k:Int) - 1)) rfl rfl (fun a8=>?_) (fun a8=>?_))))))))))
  ·have f9:(0:Int)≤(k:Int) - 1:=by simpa using a8
   obtain ⟨q,rfl⟩:∃ q,k=q+1:=⟨k - 1,by omega⟩
   rw [show ((q+1:Nat):Int) - 1=((q:Nat):Int) from by omega]
   refine AU (AB (AG (BJ (AG (AC kR (AA (AE (a1) rfl (AA (AE (vI ((q:Nat):Int)) rfl (AA (AE (a1) rfl (AA (AE (vI ((q:Nat):Int)) rfl (AA (GA U26_ JK .i64 ((q:Nat):Int) q rfl rfl rfl ho1_3 (by (simp only [List.length_set,List.length_append,List.length_cons,List.length_nil,List.length_replicate,HR,GC];omega)) fun h4 d1=>(AA (NE U5_ rfl rfl ho1_3 d1 (by (simp only [List.length_set,List.length_append,List.length_cons,List.length_nil,List.length_replicate,HR,GC];omega)) (AA (AE (vB (xs[i]!)) rfl (AA (AY (vs:=[vB ((MG (JR xs i++[0]) xs[i]! (i+2 - (q+1)))[q]!),vB (xs[i]!)]) NN (YC (O:=a5++O) ((MG (JR xs i++[0]) xs[i]! (i+2 - (q+1)))[q]!) (xs[i]!) f6 c3.lt) rfl c3 fun h5 h6 e5 c4 e6 e7=>(?_))))))))))))))))))))))
   obtain rfl:=e7
   have ho1_3:=ho1_3.mv c4 e6 (by simp)
   have a0:=a0.mv c4
   refine AA (GA U26_ JK .i64 ((q:Nat):Int) q rfl rfl rfl ho1_3 (by (simp only [List.length_set,List.length_append,List.length_cons,List.length_nil,List.length_replicate,HR,GC];omega)) fun h7 b8=>(BZ (MB (BX ((MG (JR xs i++[0]) xs[i]! (i+2 - (q+1)))[q]!) (xs[i]!)) JK rfl rfl rfl ho1_3 b8 (a4 _ b8) (by (simp only [List.length_set,List.length_append,List.length_cons,List.length_nil,List.length_replicate,HR,GC];omega)) rfl e5 fun e8 c5 e9 h8 a2=>(?_))))
   have a0:=a0.mv e9
   refine AF (AB (AG (AC kR (AA (AE (vI ((q:Nat):Int)) rfl (AA (FP .i64 ((q:Nat):Int) (0:Int) rfl rfl (AF (AB (AL (decide ((0:Int)<((q:Nat):Int))) rfl rfl (fun a9=>?_) (fun a9=>?_)))))))))))
   ·have g0:(0:Int)<((q:Nat):Int):=by simpa using a9
    refine FS 11 _ _ kR kR kR kR kR rfl rfl fun f0 b1=>?_
    have f1:=c5.call b1
    have c6:Mv a5 e8 a5 f0:=Mv.of_keep b1
    have a2:=a2.mv c6 b1 (by simp)
    have a0:=a0.mv c6
    refine BV (AE (a1) rfl (BV (AE (vI ((q:Nat):Int)) rfl (BV (GA U26_ JK .i64 ((q:Nat):Int) q rfl rfl rfl a2 (by (simp only [List.length_set,List.length_append,List.length_cons,List.length_nil,List.length_replicate,HR,GC];omega)) fun h9 d2=>(BV (NE U5_ rfl rfl a2 d2 (by (simp only [List.length_set,List.length_append,List.length_cons,List.length_nil,List.length_replicate,HR,GC];omega)) (BV (AE (a1) rfl (BV (AE (vI ((q:Nat):Int)) rfl (BV (HF .i64 ((q:Nat):Int) (1:Int) (((q - 1:Nat):Int)) rfl rfl (GG oM oM) (BV (GA U26_ JK .i64 ((q - 1:Nat):Int) (q - 1) rfl rfl rfl a2 (by (simp only [List.length_set,List.length_append,List.length_cons,List.length_nil,List.length_replicate,HR,GC];omega)) fun i0 d3=>(BV (NE U5_ rfl rfl a2 d3 (by (simp only [List.length_set,List.length_append,List.length_cons,List.length_nil,List.length_replicate,HR,GC];omega)) (BV (NA (((MG (JR xs i++[0]) xs[i]! (i+2 - (q+1))).set q (BX ((MG (JR xs i++[0]) xs[i]! (i+2 - (q+1)))[q]!) (xs[i]!)))[q]!) (((MG (JR xs i++[0]) xs[i]! (i+2 - (q+1))).set q (BX ((MG (JR xs i++[0]) xs[i]! (i+2 - (q+1)))[q]!) (xs[i]!)))[q - 1]!) rfl rfl (BV (GA U26_ JK .i64 ((q:Nat):Int) q rfl rfl rfl a2 (by (simp only [List.length_set,List.length_append,List.length_cons,List.length_nil,List.length_replicate,HR,GC];omega)) fun i1 b9=>(EO (BZ (MB ((((MG (JR xs i++[0]) xs[i]! (i+2 - (q+1))).set q (BX ((MG (JR xs i++[0]) xs[i]! (i+2 - (q+1)))[q]!) (xs[i]!)))[q]!) ^^^ (((MG (JR xs i++[0]) xs[i]! (i+2 - (q+1))).set q (BX ((MG (JR xs i++[0]) xs[i]! (i+2 - (q+1)))[q]!) (xs[i]!)))[q - 1]!)) JK rfl rfl rfl a2 b9 (a4 _ b9) (by (simp only [List.length_set,List.length_append,List.length_cons,List.length_nil,List.length_replicate,HR,GC];omega)) rfl f1 fun i2 f2 f3 i3 d4=>(?_)))))))))))))))))))))))))
    have a0:=a0.mv f3
    refine AF (CD (AB (AC kR (AA (AE (vI ((q:Nat):Int)) rfl (AA (HF .i64 ((q:Nat):Int) (1:Int) (((q:Nat):Int) - (1:Int)) rfl rfl (GG oM oM) (AA (AD (vI (((q:Nat):Int) - (1:Int))) rfl (AF (AB (?_))))))))))))
    exact ⟨_,oM,(q),a1,a5,oM,rfl,⟨_,AZ _ ⟨rfl,rfl,(by rfl),rfl,rfl,rfl,rfl,trivial⟩⟩,f2,(by rw [show MG (JR xs i++[0]) xs[i]! (i+2 - (q))=((MG (JR xs i++[0]) xs[i]! (i+2 - (q+1))).set q (BX ((MG (JR xs i++[0]) xs[i]! (i+2 - (q+1)))[q]!) (xs[i]!))).set q ((((MG (JR xs i++[0]) xs[i]! (i+2 - (q+1))).set q (BX ((MG (JR xs i++[0]) xs[i]! (i+2 - (q+1)))[q]!) (xs[i]!)))[q]!) ^^^ (((MG (JR xs i++[0]) xs[i]! (i+2 - (q+1))).set q (BX ((MG (JR xs i++[0]) xs[i]! (i+2 - (q+1)))[q]!) (xs[i]!)))[q - 1]!)) from by exact zrS_pos hzl.symm oM aS];exact d4),a4,a0⟩
   have g1:((q:Nat):Int)≤(0:Int):=by simpa using a9
   refine AU (CD (AB (AC kR (AA (AE (vI ((q:Nat):Int)) rfl (AA (HF .i64 ((q:Nat):Int) (1:Int) (((q:Nat):Int) - (1:Int)) rfl rfl (GG oM oM) (AA (AD (vI (((q:Nat):Int) - (1:Int))) rfl (AF (AB (?_))))))))))))
   exact ⟨_,oM,(q),a1,a5,oM,rfl,⟨_,AZ _ ⟨rfl,rfl,(by rfl),rfl,rfl,rfl,rfl,trivial⟩⟩,c5,(by rw [show MG (JR xs i++[0]) xs[i]! (i+2 - (q))=(MG (JR xs i++[0]) xs[i]! (i+2 - (q+1))).set q (BX ((MG (JR xs i++[0]) xs[i]! (i+2 - (q+1)))[q]!) (xs[i]!)) from by exact zrS_zero hzl.symm oM aS];exact a2),a4,a0⟩
  have g2:(k:Int) - 1<(0:Int):=by (have e:=a8;simp at e;omega)
  obtain rfl:k=0:=by omega
  refine DG (BS (BS (CT (CD (AB (AC kR (AA (DM .i64 ((i:Nat):Int) (1:Int) (((i+1:Nat):Int)) rfl rfl (GG oM oM) (AA (AE (vI ((i+1:Nat):Int)) rfl (AF (AB (?_)))))))))))))
  exact ⟨_,oM,(i+1),a1,a5,oM,rfl,⟨_,AZ _ ⟨rfl,rfl,rfl,(by rfl),rfl,trivial⟩⟩,c3,(by rw [show JR xs (i+1)=MG (JR xs i++[0]) xs[i]! (i+2 - 0) from by rw [Nat.sub_zero,JR,hzl]];exact ho1_3),a4,a0⟩
 have g3:(xs.length:Int)≤((i:Nat):Int):=by simpa using a7
 obtain rfl:i=xs.length:=by omega
 refine DG (BS (BS (CT (AB (AG (AC kR (AA (AE (a3) rfl (AA (AD (a3) rfl (AF (AB (AM (AT rfl (BY rfl rfl rfl) (?_)))))))))))))))
 have e:(BG xs)=(JR xs xs.length):=rfl
 exact ⟨_,rfl,c1.keep,by rw [e];exact ⟨a3,rfl,ho0_3.pub c1⟩⟩
open Go.Fw Go.RowKit
set_option maxHeartbeats 4000000 in
set_option maxRecDepth 100000 in
theorem c_coeff {O:List Nat} (xs_v:Value) (xs:List UInt8) (ys_v:Value) (ys:List UInt8) (w:World) (a1:BC Enc.u8 w O xs_v xs) (a2:BC Enc.u8 w O ys_v ys) (hpre0:xs.length<1000000) (hO:∀ b∈O,b<w.heap.size):CA Tryz.prog 89 [xs_v,ys_v] w (fun v w'=>∃ (x0:Value),v = .tuple #[x0,vI ((FO xs ys).2)]∧BC Enc.u8 w' (O) x0 ((FO xs ys).1)):= by
 have l8:=a1.len_le
 have a1:BC Enc.u8 w ([]++O) xs_v xs:=a1
 have l9:=a2.len_le
 have a2:BC Enc.u8 w ([]++O) ys_v ys:=a2
 have s0:St w O w []:=St.start hO
 have hzl:=GM xs
 refine BI 81 Tryz.func89 rfl rfl oT (fun F0=>AG (AC kR (AA (AD (.slice none 0 0) rfl (AA (AD (vI 0) rfl (AF (AB (AG (AG (AC kR (AA (AE (xs_v) rfl (AA (AE (ys_v) rfl (AA (AY (vs:=[xs_v,ys_v]) enter_105 (c_wrong (O:=[]++O) xs_v xs ys_v ys w a1 a2 s0.lt) rfl s0 fun n3 h2 e5 f1 n4 h3=>(?_))))))))))))))))))
 obtain rfl:=h3
 have a1:=a1.mv f1
 have a2:=a2.mv f1
 refine AF (AB (AL (HB xs ys) rfl rfl (fun b9=>?_) (fun b9=>?_)))
 ·have m2:(HB xs ys)=true:=by simpa using b9
  refine AG (AC kR (AA (AD (.slice none 0 0) rfl (AA (AD (vI 1) rfl (AF (AB (AM (AK (AT rfl (FA rfl rfl rfl rfl) (?_)))))))))))
  have e:(FO xs ys)=([],(1:Int)):=by simp [FO, *]
  exact ⟨_,rfl,e5.keep,by rw [e];exact ⟨.slice none 0 0,rfl,BC.nil _ _ _⟩⟩
 have m3:(HB xs ys)=false:=by simpa using b9
 have hxy:=wrongM_len (by simpa using b9)
 refine AU (AB (AG (AC kR (AA (AE (xs_v) rfl (AA (BR U26_ rfl a1 (AA (AD (vI (xs.length:Int)) rfl (AF (AB (AG (AC kR (AA (AE (xs_v) rfl (AA (AY (vs:=[xs_v]) enter_106 (c_zeros (O:=[]++O) xs_v xs h2 a1 oM e5.lt) rfl e5 fun b0 n5 h4 f2 n6 h5=>(?_))))))))))))))))))
 obtain ⟨_,rfl,a0⟩:=h5
 have:=a0.len_le
 have a1:=a1.mv f2
 have a2:=a2.mv f2
 refine AA (AD (b0) rfl (AF (AB (AG (AC kR (AA (AE (vI (xs.length:Int)) rfl (AA (WC (E:=Enc.u8) U26_ i_5 [vB (0:UInt8)] rfl rfl (by decide) (0:UInt8) (fun _ _=>rfl) .i64 .i64 (xs.length:Int) (xs.length:Int) xs.length xs.length rfl rfl rfl rfl oM oM (by simp only [maxLen];omega) h4 fun b8 c6 n7 h6 e8 h7 e6 n9 c0=>(?_))))))))))
 have c7:∀ b,b8.ownBlock=some b→b∈(c6 :: []):=fun b hb=>by rw [e8] at hb;cases hb;simp
 clear h6 e8
 have a1:=a1.mv e6
 have a2:=a2.mv e6
 have a0:=a0.mv e6
 refine AA (AD (b8) rfl (AF (AB (AG (AC kR (AA (AE (vI (xs.length:Int)) rfl (AA (WC (E:=Enc.u8) U26_ i_5 [vB (0:UInt8)] rfl rfl (by decide) (0:UInt8) (fun _ _=>rfl) .i64 .i64 (xs.length:Int) (xs.length:Int) xs.length xs.length rfl rfl rfl rfl oM oM (by simp only [maxLen];omega) h7 fun c1 e7 o0 h8 c8 h9 c9 i0 f8=>(?_))))))))))
 have d0:∀ b,b8.ownBlock=some b→c1.ownBlock≠some b:=fun b hb=>by have:=(c0.lt b hb).2;rw [c8];intro e;cases e;omega
 have ne414':∀ b,c1.ownBlock=some b→b8.ownBlock≠some b:=fun b hb e=>d0 b e hb
 have f9:∀ b,c1.ownBlock=some b→b∈(e7 :: (c6 :: [])):=fun b hb=>by rw [c8] at hb;cases hb;simp
 clear h8 c8
 have c7:∀ b,b8.ownBlock=some b→b∈(e7 :: (c6 :: [])):=fun b hb=>List.mem_cons_of_mem _ (c7 b hb)
 have a1:=a1.mv c9
 have a2:=a2.mv c9
 have c0:=c0.mv c9 i0 (by simp)
 have a0:=a0.mv c9
 refine AA (AD (c1) rfl (AF (AB (AG (AG (AC kR (AA (AE (xs_v) rfl (AA (BR U26_ rfl a1 (AA (AE (vI 0) rfl (AF (AB (BJ (DJ (fun mI FI wI=>∃ (i:Nat) (a4:Value) (b2:Value) (B:List Nat),i≤xs.length∧mI=xs.length - i∧(∃ F1,FI=GT F1 [(1,ys_v),(4,a4),(6,vI (xs.length:Int)),(7,b0),(8,b2),(26,xs_v),(27,vI (xs.length:Int)),(28,vI ((i:Nat):Int)),(81,undef)])∧St w O wI B∧EV Enc.u8 5 w.heap.size (B++O) wI a4 (PZ (BG xs) xs ys xs.length i)∧(∀ b,a4.ownBlock=some b→b∈B)∧EV Enc.u8 5 w.heap.size (B++O) wI b2 (IB (BG xs) xs xs.length i)∧(∀ b,b2.ownBlock=some b→b∈B)∧BC Enc.u8 wI (B++O) (ys_v) (ys)∧BC Enc.u8 wI (B++O) (b0) (BG xs)∧BC Enc.u8 wI (B++O) (xs_v) (xs)∧(∀ b,a4.ownBlock=some b→b2.ownBlock≠some b)∧(∀ b,b2.ownBlock=some b→a4.ownBlock≠some b)) (xs.length - (0)) ?_ ?_))))))))))))))))
 ·exact ⟨(0),b8,c1,(e7 :: (c6 :: [])),oM,rfl,⟨_,AZ _ ⟨rfl,rfl,rfl,rfl,rfl,rfl,rfl,(by rfl),rfl,trivial⟩⟩,h9,(by rw [show PZ (BG xs) xs ys xs.length (0)=List.replicate xs.length (0:UInt8) from rfl];exact c0),c7,(by rw [show IB (BG xs) xs xs.length (0)=List.replicate xs.length (0:UInt8) from rfl];exact f8),f9,a2,a0,a1,d0,(fun b hb e=>d0 b e hb)⟩
 intro q6 F q7 hI
 clear a2 a0 a1
 obtain ⟨i,a4,b2,m0,hr0_0,q8,⟨q9,rfl⟩,f3,ho0_4,b6,ho0_8,g0,a2,a0,a1,nn0_4_8,nn0_8_4⟩:=hI
 refine AG (AC kR (AA (DW .i64 ((i:Nat):Int) (xs.length:Int) rfl rfl (AF (AB (AG (AL (decide (((i:Nat):Int)<(xs.length:Int))) rfl rfl (fun d1=>?_) (fun d1=>?_))))))))
 ·have m4:((i:Nat):Int)<(xs.length:Int):=by simpa using d1
  refine AU (AB (AG (BJ (AG (AC kR (AA (AE (vI ((i:Nat):Int)) rfl (AA (CZ U26_ JK .i64 ((i:Nat):Int) i rfl rfl rfl a1 oM fun o1 g1=>(AA (HP U5_ rfl rfl g1 (AA (AD (vI ((i:Nat):Int)) rfl (AA (AD (vB (xs[i]!)) rfl (AF (AB (AG (AC kR (AA (AD (vB (0:UInt8)) rfl (AF (AB (AG (AG (AC kR (AA (AE (vI (xs.length:Int)) rfl (AA (HF .i64 (xs.length:Int) (1:Int) ((xs.length:Int) - (1:Int)) rfl rfl (GG oM oM) (AA (AD (vI ((xs.length:Int) - (1:Int))) rfl (AF (AB (BJ (DJ (fun mI FI wI=>∃ (k:Nat) (a3:Value) (B:List Nat),k≤xs.length∧mI=k∧(∃ F1,FI=GT F1 [(1,ys_v),(4,a4),(6,vI (xs.length:Int)),(7,b0),(8,a3),(9,vI ((i:Nat):Int)),(10,vB (xs[i]!)),(11,vB (TV (BG xs) xs[i]! xs.length (xs.length - k))),(12,vI ((k:Int) - 1)),(26,xs_v),(27,vI (xs.length:Int)),(28,vI ((i:Nat):Int)),(81,undef)])∧St w O wI B∧EV Enc.u8 5 w.heap.size (B++O) wI a3 (IW (IB (BG xs) xs xs.length i) (BG xs) xs[i]! xs.length (xs.length - k))∧(∀ b,a3.ownBlock=some b→b∈B)∧BC Enc.u8 wI (B++O) (ys_v) (ys)∧EV Enc.u8 5 w.heap.size (B++O) wI a4 (PZ (BG xs) xs ys xs.length i)∧(∀ b,a4.ownBlock=some b→b∈B)∧BC Enc.u8 wI (B++O) (b0) (BG xs)∧BC Enc.u8 wI (B++O) (xs_v) (xs)∧(∀ b,a3.ownBlock=some b→a4.ownBlock≠some b)∧(∀ b,a4.ownBlock=some b→a3.ownBlock≠some b)) ((xs.length)) ?_ ?_))))))))))))))))))))))))))))))))))))
  ·exact ⟨(xs.length),b2,m0,oM,rfl,⟨_,AZ _ ⟨rfl,rfl,rfl,rfl,rfl,rfl,rfl,(congrArg vB (by rw [Nat.sub_self];rfl)),(by rfl),rfl,rfl,rfl,rfl,trivial⟩⟩,f3,(by rw [show IW (IB (BG xs) xs xs.length i) (BG xs) xs[i]! xs.length (xs.length - (xs.length))=IB (BG xs) xs xs.length i from by rw [Nat.sub_self];rfl];exact ho0_8),g0,a2,ho0_4,b6,a0,a1,nn0_8_4,nn0_4_8⟩
  intro r0 F b4 hI
  clear a2 ho0_4 b6 a0 a1
  obtain ⟨k,a3,a7,hr1_0,r4,⟨r5,rfl⟩,e4,ho1_8,b3,a2,ho0_4,b6,a0,a1,no1_8_vo0_4,np1_8_vo0_4⟩:=hI
  refine AG (AG (AC kR (AA (AE (vI ((k:Int) - 1)) rfl (AA (KI .i64 ((k:Int) - 1) (0:Int) rfl rfl (AF (AB (AL (decide ((0:Int)≤(k:Int) - 1)) rfl rfl (fun d2=>?_) (fun d2=>?_))))))))))
  ·have m5:(0:Int)≤(k:Int) - 1:=by simpa using d2
   obtain ⟨q,rfl⟩:∃ q,k=q+1:=⟨k - 1,by omega⟩
   rw [show ((q+1:Nat):Int) - 1=((q:Nat):Int) from by omega]
   refine AU (AB (AG (BJ (AG (cw_draw' 8 _ _ [fun (vT:Value) (wT:World)=>BC Enc.u8 wT (a7++O) vT (BG xs),CP (vI ((q:Nat):Int)),CP (vI ((q+1:Nat):Int)),fun (vT:Value) (wT:World)=>∃ aT,vT = .pointer (some aT)∧PT Enc.u8 wT (a7++O) (.pointer (some aT)) ((BG xs)[q+1]!),CP (vB ((BG xs)[q+1]!)),CP (vB (TV (BG xs) xs[i]! xs.length (xs.length - (q+1)))),CP (vB (xs[i]!)),CP (vB (BX (TV (BG xs) xs[i]! xs.length (xs.length - (q+1))) (xs[i]!)))] kR kR kR kR rfl rfl ⟨fun _ _ _ h k=>h.mv (Mv.of_keep k),kI,kI,fun _ _ _ ⟨a,e,h⟩ k=>⟨a,e,h.mv (Mv.of_keep k)⟩,kI,kI,kI,kI,trivial⟩ ⟨?_,?_,?_,?_,?_,?_,?_,?_,trivial⟩ ?_)))))
   ·intro F1 w1 k1 hf hd
    have k0:=(Keep.drew [] b4).trans k1
    have m1:Mv a7 b4 a7 w1:=Mv.of_keep k0
    have a0:=a0.mv m1
    obtain ⟨F2,rfl⟩:=AI (F:=F1) [(7,b0)] ⟨hf 7 kR,trivial⟩
    exact AH rfl ((AE (b0) rfl (⟨(Keep.refl _ _),a0⟩)))
   ·intro F1 w1 k1 hf hd
    obtain ⟨F2,rfl⟩:=AI (F:=F1) [(12,vI ((q:Nat):Int))] ⟨hf 12 kR,trivial⟩
    exact AH rfl ((AE (vI ((q:Nat):Int)) rfl (⟨(Keep.refl _ _),rfl⟩)))
   ·intro F1 w1 k1 hf hd
    obtain ⟨F2,rfl⟩:=AI (F:=F1) [(40,vI ((q:Nat):Int))] ⟨hd 1 40 kR,trivial⟩
    exact AH rfl ((DM .i64 ((q:Nat):Int) (1:Int) (((q+1:Nat):Int)) rfl rfl (GG oM oM) (⟨(Keep.refl _ _),rfl⟩)))
   ·intro F1 w1 k1 hf hd
    obtain ⟨i1,i2,e9⟩:∃ v,F1 39=v∧BC Enc.u8 w1 (a7++O) v (BG xs):=⟨_,rfl,hd 0 39 kR⟩
    have:=e9.len_le
    obtain ⟨F2,rfl⟩:=AI (F:=F1) [(39,i1),(41,vI ((q+1:Nat):Int))] ⟨i2,hd 2 41 kR,trivial⟩
    exact AH rfl ((CZ U26_ JK .i64 ((q+1:Nat):Int) (q+1) rfl rfl rfl e9 (by rw [GM];omega) fun i3 g2=>(⟨(Keep.refl _ _),⟨i3,rfl,g2⟩⟩)))
   ·intro F1 w1 k1 hf hd
    obtain ⟨i4,i5,g3⟩:∃ aX_,F1 42 = .pointer (some aX_)∧PT Enc.u8 w1 (a7++O) (.pointer (some aX_)) ((BG xs)[q+1]!):=hd 3 42 kR
    obtain ⟨F2,rfl⟩:=AI (F:=F1) [(42,vP (some i4))] ⟨i5,trivial⟩
    exact AH rfl ((HP U5_ rfl rfl g3 (⟨(Keep.refl _ _),rfl⟩)))
   ·intro F1 w1 k1 hf hd
    obtain ⟨F2,rfl⟩:=AI (F:=F1) [(11,vB (TV (BG xs) xs[i]! xs.length (xs.length - (q+1))))] ⟨hf 11 kR,trivial⟩
    exact AH rfl ((AE (vB (TV (BG xs) xs[i]! xs.length (xs.length - (q+1)))) rfl (⟨(Keep.refl _ _),rfl⟩)))
   ·intro F1 w1 k1 hf hd
    obtain ⟨F2,rfl⟩:=AI (F:=F1) [(10,vB (xs[i]!))] ⟨hf 10 kR,trivial⟩
    exact AH rfl ((AE (vB (xs[i]!)) rfl (⟨(Keep.refl _ _),rfl⟩)))
   ·intro F1 w1 k1 hf hd
    have k0:=(Keep.drew [] b4).trans k1
    have s1:=e4.call k0
    obtain ⟨F2,rfl⟩:=AI (F:=F1) [(44,vB (TV (BG xs) xs[i]! xs.length (xs.length - (q+1)))),(45,vB (xs[i]!))] ⟨hd 5 44 kR,hd 6 45 kR,trivial⟩
    refine AH rfl ((AY (vs:=[vB (TV (BG xs) xs[i]! xs.length (xs.length - (q+1))),vB (xs[i]!)]) NN (YC (O:=a7++O) (TV (BG xs) xs[i]! xs.length (xs.length - (q+1))) (xs[i]!) w1 s1.lt) rfl s1 fun o2 o3 o4 o5 i6 i7=>(?_)))
    obtain rfl:=i7
    exact ⟨i6,rfl⟩
   intro i8 i9 d3 d4 a6
   have j0:=e4.call d3
   have c2:Mv a7 b4 a7 i9:=Mv.of_keep d3
   have a2:=a2.mv c2
   have ho0_4:=ho0_4.mv c2 d3 (by simp)
   have a0:=a0.mv c2
   have ho1_8:=ho1_8.mv c2 d3 (by simp)
   have a1:=a1.mv c2
   obtain ⟨F2,rfl⟩:=AI (F:=i8) [(1,ys_v),(4,a4),(6,vI (xs.length:Int)),(7,b0),(8,a3),(9,vI ((i:Nat):Int)),(10,vB (xs[i]!)),(11,vB (TV (BG xs) xs[i]! xs.length (xs.length - (q+1)))),(12,vI ((q:Nat):Int)),(26,xs_v),(27,vI (xs.length:Int)),(28,vI ((i:Nat):Int)),(81,undef),(43,vB ((BG xs)[q+1]!)),(46,vB (BX (TV (BG xs) xs[i]! xs.length (xs.length - (q+1))) (xs[i]!)))] ⟨a6 1 kR,a6 4 kR,a6 6 kR,a6 7 kR,a6 8 kR,a6 9 kR,a6 10 kR,a6 11 kR,a6 12 kR,a6 26 kR,a6 27 kR,a6 28 kR,a6 81 kR,d4 4 43 kR (by decide),d4 7 46 kR (by decide),trivial⟩
   clear d4 a6
   refine AA (NA ((BG xs)[q+1]!) (BX (TV (BG xs) xs[i]! xs.length (xs.length - (q+1))) (xs[i]!)) rfl rfl (AA (AD (vB (((BG xs)[q+1]!) ^^^ (BX (TV (BG xs) xs[i]! xs.length (xs.length - (q+1))) (xs[i]!)))) rfl (AF (AB (AC kR (AA (AE (a3) rfl (AA (AE (vI ((q:Nat):Int)) rfl (AA (AE (vB (((BG xs)[q+1]!) ^^^ (BX (TV (BG xs) xs[i]! xs.length (xs.length - (q+1))) (xs[i]!)))) rfl (AA (GA U26_ JK .i64 ((q:Nat):Int) q rfl rfl rfl ho1_8 (by (simp only [List.length_set,List.length_append,List.length_cons,List.length_nil,List.length_replicate,JI,IZ,KD,KE,GM];omega)) fun o6 d5=>(BZ (MB (((BG xs)[q+1]!) ^^^ (BX (TV (BG xs) xs[i]! xs.length (xs.length - (q+1))) (xs[i]!))) JK rfl rfl rfl ho1_8 d5 (b3 _ d5) (by (simp only [List.length_set,List.length_append,List.length_cons,List.length_nil,List.length_replicate,JI,IZ,KD,KE,GM];omega)) rfl j0 fun o7 j1 d6 j2 g4=>(?_)))))))))))))))))
   have a2:=a2.mv d6
   have ho0_4:=ho0_4.mv d6 j2 (fun b hb=>by simp only [List.mem_singleton];rintro rfl;exact absurd d5 (np1_8_vo0_4 _ hb))
   have a0:=a0.mv d6
   have a1:=a1.mv d6
   refine AF (CD (AB (AC kR (AA (AE (vI ((q:Nat):Int)) rfl (AA (HF .i64 ((q:Nat):Int) (1:Int) (((q:Nat):Int) - (1:Int)) rfl rfl (GG oM oM) (AA (AD (vI (((q:Nat):Int) - (1:Int))) rfl (AF (AB (?_))))))))))))
   exact ⟨_,oM,(q),a3,a7,oM,rfl,⟨_,AZ _ ⟨rfl,rfl,rfl,rfl,rfl,rfl,rfl,(congrArg vB (by exact (sdC_step oM).symm)),(by rfl),rfl,rfl,rfl,rfl,trivial⟩⟩,j1,(by rw [show IW (IB (BG xs) xs xs.length i) (BG xs) xs[i]! xs.length (xs.length - (q))=(IW (IB (BG xs) xs xs.length i) (BG xs) xs[i]! xs.length (xs.length - (q+1))).set q (((BG xs)[q+1]!) ^^^ (BX (TV (BG xs) xs[i]! xs.length (xs.length - (q+1))) (xs[i]!))) from sdQ_step oM];exact g4),b3,a2,ho0_4,b6,a0,a1,no1_8_vo0_4,np1_8_vo0_4⟩
  have m6:(k:Int) - 1<(0:Int):=by (have e:=d2;simp at e;omega)
  obtain rfl:k=0:=by omega
  refine DG (BS (BS (CT (AB (AG (cw_draw' 8 _ _ [fun (vT:Value) (wT:World)=>BC Enc.u8 wT (a7++O) vT (ys),CP (vI ((i:Nat):Int)),fun (vT:Value) (wT:World)=>∃ aT,vT = .pointer (some aT)∧PT Enc.u8 wT (a7++O) (.pointer (some aT)) (ys[i]!),CP (vB (ys[i]!)),CP a3,CP (vB (xs[i]!)),CP (vB (FB (IW (IB (BG xs) xs xs.length i) (BG xs) xs[i]! xs.length (xs.length - 0)) (xs[i]!))),CP (vB (HN (FB (IW (IB (BG xs) xs xs.length i) (BG xs) xs[i]! xs.length (xs.length - 0)) (xs[i]!))))] kR kR kR kR rfl rfl ⟨fun _ _ _ h k=>h.mv (Mv.of_keep k),kI,fun _ _ _ ⟨a,e,h⟩ k=>⟨a,e,h.mv (Mv.of_keep k)⟩,kI,kI,kI,kI,kI,trivial⟩ ⟨?_,?_,?_,?_,?_,?_,?_,?_,trivial⟩ ?_))))))
  ·intro F1 w1 k1 hf hd
   have k0:=(Keep.drew [] b4).trans k1
   have m1:Mv a7 b4 a7 w1:=Mv.of_keep k0
   have a2:=a2.mv m1
   obtain ⟨F2,rfl⟩:=AI (F:=F1) [(1,ys_v)] ⟨hf 1 kR,trivial⟩
   exact AH rfl ((AE (ys_v) rfl (⟨(Keep.refl _ _),a2⟩)))
  ·intro F1 w1 k1 hf hd
   obtain ⟨F2,rfl⟩:=AI (F:=F1) [(9,vI ((i:Nat):Int))] ⟨hf 9 kR,trivial⟩
   exact AH rfl ((AE (vI ((i:Nat):Int)) rfl (⟨(Keep.refl _ _),rfl⟩)))
  ·intro F1 w1 k1 hf hd
   obtain ⟨j3,j4,f0⟩:∃ v,F1 52=v∧BC Enc.u8 w1 (a7++O) v (ys):=⟨_,rfl,hd 0 52 kR⟩
   have:=f0.len_le
   obtain ⟨F2,rfl⟩:=AI (F:=F1) [(52,j3),(53,vI ((i:Nat):Int))] ⟨j4,hd 1 53 kR,trivial⟩
   exact AH rfl ((CZ U26_ JK .i64 ((i:Nat):Int) i rfl rfl rfl f0 oM fun j5 g5=>(⟨(Keep.refl _ _),⟨j5,rfl,g5⟩⟩)))
  ·intro F1 w1 k1 hf hd
   obtain ⟨j6,j7,g6⟩:∃ aX_,F1 54 = .pointer (some aX_)∧PT Enc.u8 w1 (a7++O) (.pointer (some aX_)) (ys[i]!):=hd 2 54 kR
   obtain ⟨F2,rfl⟩:=AI (F:=F1) [(54,vP (some j6))] ⟨j7,trivial⟩
   exact AH rfl ((HP U5_ rfl rfl g6 (⟨(Keep.refl _ _),rfl⟩)))
  ·intro F1 w1 k1 hf hd
   obtain ⟨F2,rfl⟩:=AI (F:=F1) [(8,a3)] ⟨hf 8 kR,trivial⟩
   exact AH rfl ((AE (a3) rfl (⟨(Keep.refl _ _),rfl⟩)))
  ·intro F1 w1 k1 hf hd
   obtain ⟨F2,rfl⟩:=AI (F:=F1) [(10,vB (xs[i]!))] ⟨hf 10 kR,trivial⟩
   exact AH rfl ((AE (vB (xs[i]!)) rfl (⟨(Keep.refl _ _),rfl⟩)))
  ·intro F1 w1 k1 hf hd
   have k0:=(Keep.drew [] b4).trans k1
   have s1:=e4.call k0
   have m1:Mv a7 b4 a7 w1:=Mv.of_keep k0
   have ho1_8:=ho1_8.mv m1 k0 (by simp)
   obtain ⟨F2,rfl⟩:=AI (F:=F1) [(56,a3),(57,vB (xs[i]!))] ⟨hd 4 56 kR,hd 5 57 kR,trivial⟩
   refine AH rfl ((AY (vs:=[a3,vB (xs[i]!)]) VO (c_eval (O:=[]) a3 (IW (IB (BG xs) xs xs.length i) (BG xs) xs[i]! xs.length (xs.length - 0)) (xs[i]!) w1 ho1_8.rd0 PJ) rfl s1 fun o8 o9 p0 p1 j8 j9=>(?_)))
   obtain rfl:=j9
   exact ⟨j8,rfl⟩
  ·intro F1 w1 k1 hf hd
   have k0:=(Keep.drew [] b4).trans k1
   have s1:=e4.call k0
   obtain ⟨F2,rfl⟩:=AI (F:=F1) [(58,vB (FB (IW (IB (BG xs) xs xs.length i) (BG xs) xs[i]! xs.length (xs.length - 0)) (xs[i]!)))] ⟨hd 6 58 kR,trivial⟩
   refine AH rfl ((AY (vs:=[vB (FB (IW (IB (BG xs) xs xs.length i) (BG xs) xs[i]! xs.length (xs.length - 0)) (xs[i]!))]) enter_107 (c_inverse (O:=a7++O) (FB (IW (IB (BG xs) xs xs.length i) (BG xs) xs[i]! xs.length (xs.length - 0)) (xs[i]!)) w1 s1.lt) rfl s1 fun p2 p3 p4 p5 k2 k3=>(?_)))
   obtain rfl:=k3
   exact ⟨k2,rfl⟩
  intro k4 f4 d7 d8 a9
  have f5:=e4.call d7
  have c3:Mv a7 b4 a7 f4:=Mv.of_keep d7
  have a2:=a2.mv c3
  have ho0_4:=ho0_4.mv c3 d7 (by simp)
  have a0:=a0.mv c3
  have ho1_8:=ho1_8.mv c3 d7 (by simp)
  have a1:=a1.mv c3
  obtain ⟨F2,rfl⟩:=AI (F:=k4) [(1,ys_v),(4,a4),(6,vI (xs.length:Int)),(7,b0),(8,a3),(26,xs_v),(27,vI (xs.length:Int)),(28,vI ((i:Nat):Int)),(81,undef),(55,vB (ys[i]!)),(59,vB (HN (FB (IW (IB (BG xs) xs xs.length i) (BG xs) xs[i]! xs.length (xs.length - 0)) (xs[i]!))))] ⟨a9 1 kR,a9 4 kR,a9 6 kR,a9 7 kR,a9 8 kR,a9 26 kR,a9 27 kR,a9 28 kR,a9 81 kR,d8 3 55 kR (by decide),d8 7 59 kR (by decide),trivial⟩
  clear d8 a9
  refine AA (AY (vs:=[vB (ys[i]!),vB (HN (FB (IW (IB (BG xs) xs xs.length i) (BG xs) xs[i]! xs.length (xs.length - 0)) (xs[i]!)))]) NN (YC (O:=a7++O) (ys[i]!) (HN (FB (IW (IB (BG xs) xs xs.length i) (BG xs) xs[i]! xs.length (xs.length - 0)) (xs[i]!))) f4 f5.lt) rfl f5 fun p6 p7 k5 c4 f6 k6=>(?_))
  obtain rfl:=k6
  have a2:=a2.mv c4
  have ho0_4:=ho0_4.mv c4 f6 (by simp)
  have a0:=a0.mv c4
  have ho1_8:=ho1_8.mv c4 f6 (by simp)
  have a1:=a1.mv c4
  refine AA (AD (vB (BX (ys[i]!) (HN (FB (IW (IB (BG xs) xs xs.length i) (BG xs) xs[i]! xs.length (xs.length - 0)) (xs[i]!))))) rfl (AF (AB (AG (AC kR (AA (AE (a4) rfl (AA (VC U26_ rfl ho0_4 (AA (AE (vI 0) rfl (AF (AB (BJ (?_)))))))))))))))
  have hcl:=JI (BG xs) xs ys xs.length i
  refine DJ (fun mI FI wI=>∃ (j:Nat) (a5:Value) (B:List Nat),j≤xs.length∧mI=xs.length - j∧(∃ F1,FI=GT F1 [(1,ys_v),(4,a5),(6,vI (xs.length:Int)),(7,b0),(8,a3),(13,vB (BX (ys[i]!) (HN (FB (IW (IB (BG xs) xs xs.length i) (BG xs) xs[i]! xs.length (xs.length - 0)) (xs[i]!))))),(26,xs_v),(27,vI (xs.length:Int)),(28,vI ((i:Nat):Int)),(62,vI ((PZ (BG xs) xs ys xs.length i).length:Int)),(63,vI ((j:Nat):Int)),(81,undef)])∧St w O wI B∧EV Enc.u8 5 w.heap.size (B++O) wI a5 (adF (PZ (BG xs) xs ys xs.length i) (IW (IB (BG xs) xs xs.length i) (BG xs) xs[i]! xs.length (xs.length - 0)) (BX ys[i]! (HN (FB (IW (IB (BG xs) xs xs.length i) (BG xs) xs[i]! xs.length (xs.length - 0)) xs[i]!))) j)∧(∀ b,a5.ownBlock=some b→b∈B)∧BC Enc.u8 wI (B++O) (ys_v) (ys)∧BC Enc.u8 wI (B++O) (b0) (BG xs)∧EV Enc.u8 5 w.heap.size (B++O) wI a3 (IW (IB (BG xs) xs xs.length i) (BG xs) xs[i]! xs.length (xs.length - 0))∧(∀ b,a3.ownBlock=some b→b∈B)∧BC Enc.u8 wI (B++O) (xs_v) (xs)∧(∀ b,a5.ownBlock=some b→a3.ownBlock≠some b)∧(∀ b,a3.ownBlock=some b→a5.ownBlock≠some b)) (xs.length - (0)) ?_ ?_
  ·exact ⟨(0),a4,a7,oM,rfl,⟨_,AZ _ ⟨rfl,rfl,rfl,rfl,rfl,rfl,rfl,rfl,rfl,rfl,(by rfl),rfl,trivial⟩⟩,k5,(by rw [show adF (PZ (BG xs) xs ys xs.length i) (IW (IB (BG xs) xs xs.length i) (BG xs) xs[i]! xs.length (xs.length - 0)) (BX ys[i]! (HN (FB (IW (IB (BG xs) xs xs.length i) (BG xs) xs[i]! xs.length (xs.length - 0)) xs[i]!))) (0)=PZ (BG xs) xs ys xs.length i from rfl];exact ho0_4),b6,a2,a0,ho1_8,b3,a1,np1_8_vo0_4,no1_8_vo0_4⟩
  intro r6 F b5 hI
  clear a2 a0 ho1_8 b3 a1
  obtain ⟨j,a5,b1,hr2_0,r7,⟨r8,rfl⟩,f7,ho2_4,d9,a2,a0,ho1_8,b3,a1,no2_4_vo1_8,np2_4_vo1_8⟩:=hI
  refine AG (AC kR (AA (DW .i64 ((j:Nat):Int) ((PZ (BG xs) xs ys xs.length i).length:Int) rfl rfl (AF (AB (AG (AL (decide (((j:Nat):Int)<((PZ (BG xs) xs ys xs.length i).length:Int))) rfl rfl (fun e0=>?_) (fun e0=>?_))))))))
  ·have m7:((j:Nat):Int)<((PZ (BG xs) xs ys xs.length i).length:Int):=by simpa using e0
   refine AU (AB (AG (BJ (AG (AC kR (AA (AE (vI ((j:Nat):Int)) rfl (AA (AD (vI ((j:Nat):Int)) rfl (AF (AB (cw_draw' 10 _ _ [CP a5,CP (vI ((j:Nat):Int)),fun (vT:Value) (wT:World)=>∃ bT,vT = .pointer (some ⟨bT,j*1,none⟩)∧a5.ownBlock=some bT,CP (vB ((adF (PZ (BG xs) xs ys xs.length i) (IW (IB (BG xs) xs xs.length i) (BG xs) xs[i]! xs.length (xs.length - 0)) (BX ys[i]! (HN (FB (IW (IB (BG xs) xs xs.length i) (BG xs) xs[i]! xs.length (xs.length - 0)) xs[i]!))) j)[j]!)),CP a3,CP (vI ((j:Nat):Int)),fun (vT:Value) (wT:World)=>∃ bT,vT = .pointer (some ⟨bT,j*1,none⟩)∧a3.ownBlock=some bT,CP (vB ((IW (IB (BG xs) xs xs.length i) (BG xs) xs[i]! xs.length (xs.length - 0))[j]!)),CP (vB (BX (ys[i]!) (HN (FB (IW (IB (BG xs) xs xs.length i) (BG xs) xs[i]! xs.length (xs.length - 0)) (xs[i]!))))),CP (vB (BX ((IW (IB (BG xs) xs xs.length i) (BG xs) xs[i]! xs.length (xs.length - 0))[j]!) (BX (ys[i]!) (HN (FB (IW (IB (BG xs) xs xs.length i) (BG xs) xs[i]! xs.length (xs.length - 0)) (xs[i]!))))))] kR kR kR kR rfl rfl ⟨kI,kI,fun _ _ _ h _=>h,kI,kI,kI,fun _ _ _ h _=>h,kI,kI,kI,trivial⟩ ⟨?_,?_,?_,?_,?_,?_,?_,?_,?_,?_,trivial⟩ ?_))))))))))))
   ·intro F1 w1 k1 hf hd
    obtain ⟨F2,rfl⟩:=AI (F:=F1) [(4,a5)] ⟨hf 4 kR,trivial⟩
    exact AH rfl ((AE (a5) rfl (⟨(Keep.refl _ _),rfl⟩)))
   ·intro F1 w1 k1 hf hd
    obtain ⟨F2,rfl⟩:=AI (F:=F1) [(14,vI ((j:Nat):Int))] ⟨hf 14 kR,trivial⟩
    exact AH rfl ((AE (vI ((j:Nat):Int)) rfl (⟨(Keep.refl _ _),rfl⟩)))
   ·intro F1 w1 k1 hf hd
    have k0:=(Keep.drew [] b5).trans k1
    have m1:Mv b1 b5 b1 w1:=Mv.of_keep k0
    have ho2_4:=ho2_4.mv m1 k0 (by simp)
    obtain ⟨F2,rfl⟩:=AI (F:=F1) [(66,a5),(67,vI ((j:Nat):Int))] ⟨hd 0 66 kR,hd 1 67 kR,trivial⟩
    exact AH rfl ((GA U26_ JK .i64 ((j:Nat):Int) j rfl rfl rfl ho2_4 (by (simp only [List.length_set,List.length_append,List.length_cons,List.length_nil,List.length_replicate,JI,IZ,KD,KE,GM];omega)) fun p8 g7=>(⟨(Keep.refl _ _),⟨_,rfl,g7⟩⟩)))
   ·intro F1 w1 k1 hf hd
    have k0:=(Keep.drew [] b5).trans k1
    have m1:Mv b1 b5 b1 w1:=Mv.of_keep k0
    have ho2_4:=ho2_4.mv m1 k0 (by simp)
    obtain ⟨k7,k8,g8⟩:∃ b,F1 68 = .pointer (some ⟨b,j*1,none⟩)∧a5.ownBlock=some b:=hd 2 68 kR
    obtain ⟨F2,rfl⟩:=AI (F:=F1) [(68,vP (some ⟨k7,j*1,none⟩))] ⟨k8,trivial⟩
    exact AH rfl ((NE U5_ rfl rfl ho2_4 g8 (by (simp only [List.length_set,List.length_append,List.length_cons,List.length_nil,List.length_replicate,JI,IZ,KD,KE,GM];omega)) (⟨(Keep.refl _ _),rfl⟩)))
   ·intro F1 w1 k1 hf hd
    obtain ⟨F2,rfl⟩:=AI (F:=F1) [(8,a3)] ⟨hf 8 kR,trivial⟩
    exact AH rfl ((AE (a3) rfl (⟨(Keep.refl _ _),rfl⟩)))
   ·intro F1 w1 k1 hf hd
    obtain ⟨F2,rfl⟩:=AI (F:=F1) [(14,vI ((j:Nat):Int))] ⟨hf 14 kR,trivial⟩
    exact AH rfl ((AE (vI ((j:Nat):Int)) rfl (⟨(Keep.refl _ _),rfl⟩)))
   ·intro F1 w1 k1 hf hd
    have k0:=(Keep.drew [] b5).trans k1
    have m1:Mv b1 b5 b1 w1:=Mv.of_keep k0
    have ho1_8:=ho1_8.mv m1 k0 (by simp)
    obtain ⟨F2,rfl⟩:=AI (F:=F1) [(70,a3),(71,vI ((j:Nat):Int))] ⟨hd 4 70 kR,hd 5 71 kR,trivial⟩
    exact AH rfl ((GA U26_ JK .i64 ((j:Nat):Int) j rfl rfl rfl ho1_8 (by (simp only [List.length_set,List.length_append,List.length_cons,List.length_nil,List.length_replicate,JI,IZ,KD,KE,GM];omega)) fun p9 g9=>(⟨(Keep.refl _ _),⟨_,rfl,g9⟩⟩)))
   ·intro F1 w1 k1 hf hd
    have k0:=(Keep.drew [] b5).trans k1
    have m1:Mv b1 b5 b1 w1:=Mv.of_keep k0
    have ho1_8:=ho1_8.mv m1 k0 (by simp)
    obtain ⟨k9,l0,h0⟩:∃ b,F1 72 = .pointer (some ⟨b,j*1,none⟩)∧a3.ownBlock=some b:=hd 6 72 kR
    obtain ⟨F2,rfl⟩:=AI (F:=F1) [(72,vP (some ⟨k9,j*1,none⟩))] ⟨l0,trivial⟩
    exact AH rfl ((NE U5_ rfl rfl ho1_8 h0 (by (simp only [List.length_set,List.length_append,List.length_cons,List.length_nil,List.length_replicate,JI,IZ,KD,KE,GM];omega)) (⟨(Keep.refl _ _),rfl⟩)))
   ·intro F1 w1 k1 hf hd
    obtain ⟨F2,rfl⟩:=AI (F:=F1) [(13,vB (BX (ys[i]!) (HN (FB (IW (IB (BG xs) xs xs.length i) (BG xs) xs[i]! xs.length (xs.length - 0)) (xs[i]!)))))] ⟨hf 13 kR,trivial⟩
    exact AH rfl ((AE (vB (BX (ys[i]!) (HN (FB (IW (IB (BG xs) xs xs.length i) (BG xs) xs[i]! xs.length (xs.length - 0)) (xs[i]!))))) rfl (⟨(Keep.refl _ _),rfl⟩)))
   ·intro F1 w1 k1 hf hd
    have k0:=(Keep.drew [] b5).trans k1
    have s1:=f7.call k0
    obtain ⟨F2,rfl⟩:=AI (F:=F1) [(73,vB ((IW (IB (BG xs) xs xs.length i) (BG xs) xs[i]! xs.length (xs.length - 0))[j]!)),(74,vB (BX (ys[i]!) (HN (FB (IW (IB (BG xs) xs xs.length i) (BG xs) xs[i]! xs.length (xs.length - 0)) (xs[i]!)))))] ⟨hd 7 73 kR,hd 8 74 kR,trivial⟩
    refine AH rfl ((AY (vs:=[vB ((IW (IB (BG xs) xs xs.length i) (BG xs) xs[i]! xs.length (xs.length - 0))[j]!),vB (BX (ys[i]!) (HN (FB (IW (IB (BG xs) xs xs.length i) (BG xs) xs[i]! xs.length (xs.length - 0)) (xs[i]!))))]) NN (YC (O:=b1++O) ((IW (IB (BG xs) xs xs.length i) (BG xs) xs[i]! xs.length (xs.length - 0))[j]!) (BX (ys[i]!) (HN (FB (IW (IB (BG xs) xs xs.length i) (BG xs) xs[i]! xs.length (xs.length - 0)) (xs[i]!)))) w1 s1.lt) rfl s1 fun q0 q1 q2 q3 l1 l2=>(?_)))
    obtain rfl:=l2
    exact ⟨l1,rfl⟩
   intro l3 l4 e1 b7 a8
   have l5:=f7.call e1
   have c5:Mv b1 b5 b1 l4:=Mv.of_keep e1
   have a2:=a2.mv c5
   have ho2_4:=ho2_4.mv c5 e1 (by simp)
   have a0:=a0.mv c5
   have ho1_8:=ho1_8.mv c5 e1 (by simp)
   have a1:=a1.mv c5
   obtain ⟨F2,rfl⟩:=AI (F:=l3) [(1,ys_v),(4,a5),(6,vI (xs.length:Int)),(7,b0),(8,a3),(13,vB (BX (ys[i]!) (HN (FB (IW (IB (BG xs) xs xs.length i) (BG xs) xs[i]! xs.length (xs.length - 0)) (xs[i]!))))),(26,xs_v),(27,vI (xs.length:Int)),(28,vI ((i:Nat):Int)),(62,vI ((PZ (BG xs) xs ys xs.length i).length:Int)),(63,vI ((j:Nat):Int)),(81,undef),(66,a5),(67,vI ((j:Nat):Int)),(69,vB ((adF (PZ (BG xs) xs ys xs.length i) (IW (IB (BG xs) xs xs.length i) (BG xs) xs[i]! xs.length (xs.length - 0)) (BX ys[i]! (HN (FB (IW (IB (BG xs) xs xs.length i) (BG xs) xs[i]! xs.length (xs.length - 0)) xs[i]!))) j)[j]!)),(75,vB (BX ((IW (IB (BG xs) xs xs.length i) (BG xs) xs[i]! xs.length (xs.length - 0))[j]!) (BX (ys[i]!) (HN (FB (IW (IB (BG xs) xs xs.length i) (BG xs) xs[i]! xs.length (xs.length - 0)) (xs[i]!))))))] ⟨a8 1 kR,a8 4 kR,a8 6 kR,a8 7 kR,a8 8 kR,a8 13 kR,a8 26 kR,a8 27 kR,a8 28 kR,a8 62 kR,a8 63 kR,a8 81 kR,b7 0 66 kR (by decide),b7 1 67 kR (by decide),b7 3 69 kR (by decide),b7 9 75 kR (by decide),trivial⟩
   clear b7 a8
   refine AA (NA ((adF (PZ (BG xs) xs ys xs.length i) (IW (IB (BG xs) xs xs.length i) (BG xs) xs[i]! xs.length (xs.length - 0)) (BX ys[i]! (HN (FB (IW (IB (BG xs) xs xs.length i) (BG xs) xs[i]! xs.length (xs.length - 0)) xs[i]!))) j)[j]!) (BX ((IW (IB (BG xs) xs xs.length i) (BG xs) xs[i]! xs.length (xs.length - 0))[j]!) (BX (ys[i]!) (HN (FB (IW (IB (BG xs) xs xs.length i) (BG xs) xs[i]! xs.length (xs.length - 0)) (xs[i]!))))) rfl rfl (AA (GA U26_ JK .i64 ((j:Nat):Int) j rfl rfl rfl ho2_4 (by (simp only [List.length_set,List.length_append,List.length_cons,List.length_nil,List.length_replicate,JI,IZ,KD,KE,GM];omega)) fun q4 e2=>(BZ (MB (((adF (PZ (BG xs) xs ys xs.length i) (IW (IB (BG xs) xs xs.length i) (BG xs) xs[i]! xs.length (xs.length - 0)) (BX ys[i]! (HN (FB (IW (IB (BG xs) xs xs.length i) (BG xs) xs[i]! xs.length (xs.length - 0)) xs[i]!))) j)[j]!) ^^^ (BX ((IW (IB (BG xs) xs xs.length i) (BG xs) xs[i]! xs.length (xs.length - 0))[j]!) (BX (ys[i]!) (HN (FB (IW (IB (BG xs) xs xs.length i) (BG xs) xs[i]! xs.length (xs.length - 0)) (xs[i]!)))))) JK rfl rfl rfl ho2_4 e2 (d9 _ e2) (by (simp only [List.length_set,List.length_append,List.length_cons,List.length_nil,List.length_replicate,JI,IZ,KD,KE,GM];omega)) rfl l5 fun q5 l6 e3 l7 h1=>(?_))))))
   have a2:=a2.mv e3
   have a0:=a0.mv e3
   have ho1_8:=ho1_8.mv e3 l7 (fun b hb=>by simp only [List.mem_singleton];rintro rfl;exact absurd e2 (np2_4_vo1_8 _ hb))
   have a1:=a1.mv e3
   refine AF (CD (AB (AC kR (AA (DM .i64 ((j:Nat):Int) (1:Int) (((j+1:Nat):Int)) rfl rfl (GG oM oM) (AA (AE (vI ((j+1:Nat):Int)) rfl (AF (AB (?_))))))))))
   exact ⟨_,oM,(j+1),a5,b1,oM,rfl,⟨_,AZ _ ⟨rfl,rfl,rfl,rfl,rfl,rfl,rfl,rfl,rfl,rfl,(by rfl),rfl,trivial⟩⟩,l6,(by rw [show adF (PZ (BG xs) xs ys xs.length i) (IW (IB (BG xs) xs xs.length i) (BG xs) xs[i]! xs.length (xs.length - 0)) (BX ys[i]! (HN (FB (IW (IB (BG xs) xs xs.length i) (BG xs) xs[i]! xs.length (xs.length - 0)) xs[i]!))) (j+1)=(adF (PZ (BG xs) xs ys xs.length i) (IW (IB (BG xs) xs xs.length i) (BG xs) xs[i]! xs.length (xs.length - 0)) (BX ys[i]! (HN (FB (IW (IB (BG xs) xs xs.length i) (BG xs) xs[i]! xs.length (xs.length - 0)) xs[i]!))) j).set j (((adF (PZ (BG xs) xs ys xs.length i) (IW (IB (BG xs) xs xs.length i) (BG xs) xs[i]! xs.length (xs.length - 0)) (BX ys[i]! (HN (FB (IW (IB (BG xs) xs xs.length i) (BG xs) xs[i]! xs.length (xs.length - 0)) xs[i]!))) j)[j]!) ^^^ (BX ((IW (IB (BG xs) xs xs.length i) (BG xs) xs[i]! xs.length (xs.length - 0))[j]!) (BX (ys[i]!) (HN (FB (IW (IB (BG xs) xs xs.length i) (BG xs) xs[i]! xs.length (xs.length - 0)) (xs[i]!)))))) from rfl];exact h1),d9,a2,a0,ho1_8,b3,a1,no2_4_vo1_8,np2_4_vo1_8⟩
  have m9:((PZ (BG xs) xs ys xs.length i).length:Int)≤((j:Nat):Int):=by simpa using e0
  obtain rfl:j=xs.length:=by omega
  refine DG (BS (BS (CT (CD (AB (AC kR (AA (DM .i64 ((i:Nat):Int) (1:Int) (((i+1:Nat):Int)) rfl rfl (GG oM oM) (AA (AE (vI ((i+1:Nat):Int)) rfl (AF (AB (?_)))))))))))))
  exact ⟨_,oM,(i+1),a5,a3,b1,oM,rfl,⟨_,AZ _ ⟨rfl,rfl,rfl,rfl,rfl,rfl,rfl,(by rfl),rfl,trivial⟩⟩,f7,(by rw [show PZ (BG xs) xs ys xs.length (i+1)=adF (PZ (BG xs) xs ys xs.length i) (IW (IB (BG xs) xs xs.length i) (BG xs) xs[i]! xs.length (xs.length - 0)) (BX ys[i]! (HN (FB (IW (IB (BG xs) xs xs.length i) (BG xs) xs[i]! xs.length (xs.length - 0)) xs[i]!))) xs.length from by rw [Nat.sub_zero];simp only [PZ,IB]];exact ho2_4),d9,(by rw [show IB (BG xs) xs xs.length (i+1)=IW (IB (BG xs) xs xs.length i) (BG xs) xs[i]! xs.length (xs.length - 0) from by rw [IB,Nat.sub_zero]];exact ho1_8),b3,a2,a0,a1,no2_4_vo1_8,np2_4_vo1_8⟩
 have n2:(xs.length:Int)≤((i:Nat):Int):=by simpa using d1
 obtain rfl:i=xs.length:=by omega
 refine DG (BS (BS (CT (AB (AG (AC kR (AA (AE (a4) rfl (AA (AD (a4) rfl (AA (AD (vI 0) rfl (AF (AB (AM (AT rfl (FA rfl rfl rfl rfl) (?_)))))))))))))))))
 have e:(FO xs ys)=(PZ (BG xs) xs ys xs.length xs.length,(0:Int)):=by simp [FO, *]
 exact ⟨_,rfl,f3.keep,by rw [e];exact ⟨a4,rfl,ho0_4.pub f3⟩⟩
set_option maxHeartbeats 4000000 in
set_option maxRecDepth 100000 in
theorem c_through {O:List Nat} (xs_v:Value) (xs:List UInt8) (ys_v:Value) (ys:List UInt8) (at_:UInt8) (w:World) (a1:BC Enc.u8 w O xs_v xs) (a2:BC Enc.u8 w O ys_v ys) (hpre0:xs.length<1000000) (hO:∀ b∈O,b<w.heap.size):CA Tryz.prog 78 [xs_v,ys_v,vB at_] w (fun v _=>v = .tuple #[vB ((DP xs ys at_).1),vI ((DP xs ys at_).2)]):= by
 have b0:=a1.len_le
 have a1:BC Enc.u8 w ([]++O) xs_v xs:=a1
 have b1:=a2.len_le
 have a2:BC Enc.u8 w ([]++O) ys_v ys:=a2
 have s0:St w O w []:=St.start hO
 refine BI 21 Tryz.func78 rfl rfl oT (fun F0=>AG (AC kR (AA (AD (vB (0:UInt8)) rfl (AA (AD (vI 0) rfl (AF (AB (AG (AC kR (AA (AE (xs_v) rfl (AA (AE (ys_v) rfl (AA (AY (vs:=[xs_v,ys_v]) enter_89 (c_coeff (O:=[]++O) xs_v xs ys_v ys w a1 a2 oM s0.lt) rfl s0 fun b4 a6 a4 b5 b6 a7=>(?_)))))))))))))))))
 obtain ⟨a0,rfl,a5⟩:=a7
 have:=a5.len_le
 refine AA (AE (vT #[a0,vI ((FO xs ys).2)]) rfl (AA (AQ (a0) rfl rfl (AA (AQ (vI ((FO xs ys).2)) rfl rfl (AA (AD (a0) rfl (AA (AD (vI ((FO xs ys).2)) rfl (AF (AB (AG (AG (AC kR (AA (AE (vI ((FO xs ys).2)) rfl (AA (CO .i64 ((FO xs ys).2) (0:Int) rfl rfl (AF (AB (AL (((FO xs ys).2) != (0:Int)) rfl rfl (fun a3=>?_) (fun a3=>?_))))))))))))))))))))))
 ·have b2:(FO xs ys).2≠(0:Int):=by simpa using a3
  refine AG (AC kR (AA (AE (vI ((FO xs ys).2)) rfl (AA (AD (vB (0:UInt8)) rfl (AA (AD (vI ((FO xs ys).2)) rfl (AF (AB (AM (AK (AT rfl (FA rfl rfl rfl rfl) (?_)))))))))))))
  have e:(DP xs ys at_)=((0:UInt8),(FO xs ys).2):=by simp [DP, *]
  exact ⟨_,rfl,a4.keep,by rw [e];exact rfl⟩
 have b3:(FO xs ys).2=(0:Int):=by simpa using a3
 refine AU (AB (AG (AC kR (AA (AE (a0) rfl (AA (AE (vB at_) rfl (AA (AY (vs:=[a0,vB at_]) VO (c_eval (O:=[]++O) a0 ((FO xs ys).1) at_ a6 a5 a4.lt) rfl a4 fun b7 b8 a8 b9 c0 a9=>(?_))))))))))
 obtain rfl:=a9
 refine AA (AD (vB (FB ((FO xs ys).1) at_)) rfl (AA (AD (vI 0) rfl (AF (AB (AM (AT rfl (FA rfl rfl rfl rfl) (?_))))))))
 have e:(DP xs ys at_)=(FB ((FO xs ys).1) at_,(0:Int)):=by simp [DP, *]
 exact ⟨_,rfl,a8.keep,by rw [e];exact rfl⟩
open Go.Fw
theorem all8 (p:UInt8→Bool) (h:(List.range 256).all (fun n=>p (UInt8.ofNat n))=true) (x:UInt8):p x=true:=by
  have:=List.all_eq_true.1 h x.toNat (List.mem_range.2 x.toNat_lt)
  rwa [UInt8.ofNat_toNat] at this
def WW (f:UInt8→UInt8):Prop:=∀ x y,f (x ^^^ y)=f x ^^^ f y
theorem xor_zero (a:UInt8):a ^^^ 0=a:=UInt8.xor_zero
theorem zero_xor (a:UInt8):0 ^^^ a=a:=UInt8.zero_xor
theorem xor_self (a:UInt8):a ^^^ a=0:=UInt8.xor_self
theorem xor_c (a b:UInt8):a ^^^ b=b ^^^ a:=UInt8.xor_comm a b
theorem QG (a b c:UInt8):a ^^^ b ^^^ c=a ^^^ (b ^^^ c):=UInt8.xor_assoc a b c
theorem xor_lc (a b c:UInt8):a ^^^ (b ^^^ c)=b ^^^ (a ^^^ c):=by rw [← QG,xor_c a b,QG]
theorem xor_cancel (a b:UInt8):a ^^^ (a ^^^ b)=b:=by rw [← QG,xor_self,zero_xor]
theorem MX {a b:UInt8}:a ^^^ b=0↔a=b:=⟨fun h=>by have:=congrArg (a ^^^ ·) h;simp only [xor_cancel,xor_zero] at this;exact this.symm,fun h=>by rw [h,xor_self]⟩
theorem xor4 (a b c d:UInt8):(a ^^^ b) ^^^ (c ^^^ d)=(a ^^^ c) ^^^ (b ^^^ d):=by rw [QG,QG,xor_lc b c d]
theorem WW.zero {f:UInt8→UInt8} (h:WW f):f 0=0:=by
  have h1:=h 0 0
  rw [xor_self] at h1
  rw [h1,xor_self]
theorem WW.comp {f g:UInt8→UInt8} (hf:WW f) (hg:WW g):WW (fun x=>f (g x)):=fun x y=>by show f (g (x ^^^ y))=_;rw [hg x y,hf]
theorem WW.id:WW fun x=>x:=fun _ _=>rfl
theorem bits_of (x:UInt8):x=(x &&& 1) ^^^ ((x &&& 2) ^^^ ((x &&& 4) ^^^ ((x &&& 8) ^^^ ((x &&& 16) ^^^ ((x &&& 32) ^^^ ((x &&& 64) ^^^ (x &&& 128))))))):=
  of_decide_eq_true (all8 (fun x=>decide (x=(x &&& 1) ^^^ ((x &&& 2) ^^^ ((x &&& 4) ^^^ ((x &&& 8) ^^^ ((x &&& 16) ^^^ ((x &&& 32) ^^^ ((x &&& 64) ^^^ (x &&& 128))))))))) (by decide +kernel) x)
theorem bit_or (x:UInt8):(x &&& 1=0∨x &&& 1=1)∧(x &&& 2=0∨x &&& 2=2)∧(x &&& 4=0∨x &&& 4=4)∧(x &&& 8=0∨x &&& 8=8)∧(x &&& 16=0∨x &&& 16=16)∧(x &&& 32=0∨x &&& 32=32)∧(x &&& 64=0∨x &&& 64=64)∧(x &&& 128=0∨x &&& 128=128):=
  of_decide_eq_true (all8 (fun x=>decide ((x &&& 1=0∨x &&& 1=1)∧(x &&& 2=0∨x &&& 2=2)∧(x &&& 4=0∨x &&& 4=4)∧(x &&& 8=0∨x &&& 8=8)∧(x &&& 16=0∨x &&& 16=16)∧(x &&& 32=0∨x &&& 32=32)∧(x &&& 64=0∨x &&& 64=64)∧(x &&& 128=0∨x &&& 128=128))) (by decide +kernel) x)
theorem lin_ext {f g:UInt8→UInt8} (hf:WW f) (hg:WW g) (h1:f 1=g 1) (h2:f 2=g 2) (h4:f 4=g 4) (h8:f 8=g 8) (h16:f 16=g 16) (h32:f 32=g 32) (h64:f 64=g 64) (h128:f 128=g 128) (x:UInt8):f x=g x:=by
  have z:=hf.zero;have z':=hg.zero
  have key:∀ (y b:UInt8),(y=0∨y=b)→f b=g b→f y=g y:=fun y b h e=>by
    rcases h with h|h
    · rw [h,z,z']
    · rw [h,e]
  obtain ⟨a1,a2,a3,a4,a5,a6,a7,a8⟩:=bit_or x
  rw [bits_of x,hf,hf,hf,hf,hf,hf,hf,hg,hg,hg,hg,hg,hg,hg,key _ _ a1 h1,key _ _ a2 h2,key _ _ a3 h4,key _ _ a4 h8,key _ _ a5 h16,key _ _ a6 h32,key _ _ a7 h64,key _ _ a8 h128]
theorem and1_xor (x y:UInt8):(x ^^^ y) &&& 1=(x &&& 1) ^^^ (y &&& 1):=by
  apply UInt8.toBitVec_inj.1
  simp only [UInt8.toBitVec_and,UInt8.toBitVec_xor]
  apply BitVec.eq_of_getElem_eq
  intro i hi
  simp only [BitVec.getElem_and,BitVec.getElem_xor]
  cases (x.toBitVec[i]) <;> cases (y.toBitVec[i]) <;> simp
theorem bit_xor (x y:UInt8) (i:UInt8):(x ^^^ y) >>> i &&& 1=(x >>> i &&& 1) ^^^ (y >>> i &&& 1):=by
  rw [UInt8.shiftRight_xor,and1_xor]
theorem bit01 (x i:UInt8):x >>> i &&& 1=0∨x >>> i &&& 1=1:=(bit_or (x >>> i)).1
def QF (c v:UInt8):UInt8:=if c=1 then v else 0
theorem XE {c d:UInt8} (v:UInt8) (hc:c=0∨c=1) (hd:d=0∨d=1):QF (c ^^^ d) v=QF c v ^^^ QF d v:=by
  rcases hc with rfl|rfl <;> rcases hd with rfl|rfl <;> simp [QF]
theorem pick8_lin (c:UInt8):WW (QF c):=fun x y=>by unfold QF;split <;> simp
theorem PS (a b:UInt8) (i:Nat):gm a b (i+1)=gm a b i ^^^ QF (b >>> UInt8.ofNat i &&& 1) (xtn a i):=by
  unfold QF
  by_cases h:b >>> UInt8.ofNat i &&& 1=1
  · rw [if_pos h,gm_yes a b i h]
  · rw [if_neg h,gm_no a b i h,xor_zero]
theorem gm_lin (a:UInt8):∀ i,WW fun b=>gm a b i
  | 0=>fun _ _=>by simp [gm]
  | i+1=>fun x y=>by
    show gm a (x ^^^ y) (i+1)=gm a x (i+1) ^^^ gm a y (i+1)
    rw [PS,PS,PS,bit_xor,XE _ (bit01 _ _) (bit01 _ _),show gm a (x ^^^ y) i=_ from gm_lin a i x y,xor4]
theorem JX (a:UInt8):WW (BX a):=gm_lin a 8
theorem xt_eq (a:UInt8):xt a=a <<< 1 ^^^ QF (a >>> 7 &&& 1) 27:=
  of_decide_eq_true (all8 (fun a=>decide (xt a=a <<< 1 ^^^ QF (a >>> 7 &&& 1) 27)) (by decide +kernel) a)
theorem xt_lin:WW xt:=fun x y=>by
  rw [xt_eq,xt_eq,xt_eq,bit_xor,XE _ (bit01 _ _) (bit01 _ _),UInt8.shiftLeft_xor,xor4]
theorem xtn_lin:∀ i,WW fun a=>xtn a i
  | 0=>WW.id
  | i+1=>xt_lin.comp (xtn_lin i)
theorem gm_lin2 (b:UInt8):∀ i,WW fun a=>gm a b i
  | 0=>fun _ _=>by simp [gm]
  | i+1=>fun x y=>by
    show gm (x ^^^ y) b (i+1)=gm x b (i+1) ^^^ gm y b (i+1)
    rw [PS,PS,PS,show xtn (x ^^^ y) i=_ from xtn_lin i x y,pick8_lin,show gm (x ^^^ y) b i=_ from gm_lin2 b i x y,xor4]
theorem JU (b:UInt8):WW fun a=>BX a b:=gm_lin2 b 8
theorem LR (a b:UInt8):BX a b=BX b a:=by
  have key:∀ c:UInt8,(BX c 1=BX 1 c∧BX c 2=BX 2 c∧BX c 4=BX 4 c∧BX c 8=BX 8 c∧BX c 16=BX 16 c∧BX c 32=BX 32 c∧BX c 64=BX 64 c∧BX c 128=BX 128 c):=fun c=>
    of_decide_eq_true (all8 (fun c=>decide (BX c 1=BX 1 c∧BX c 2=BX 2 c∧BX c 4=BX 4 c∧BX c 8=BX 8 c∧BX c 16=BX 16 c∧BX c 32=BX 32 c∧BX c 64=BX 64 c∧BX c 128=BX 128 c)) (by decide +kernel) c)
  obtain ⟨h1,h2,h3,h4,h5,h6,h7,h8⟩:=key a
  exact lin_ext (JX a) (JU a) h1 h2 h3 h4 h5 h6 h7 h8 b
theorem RY (a:UInt8):BX a 1=a:=of_decide_eq_true (all8 (fun a=>decide (BX a 1=a)) (by decide +kernel) a)
theorem one_gmul (a:UInt8):BX 1 a=a:=by rw [LR,RY]
theorem LP (a:UInt8):BX a 0=0:=(JX a).zero
theorem FV (a:UInt8):BX 0 a=0:=(JU a).zero
theorem gmul_add (a b c:UInt8):BX a (b ^^^ c)=BX a b ^^^ BX a c:=JX a b c
theorem OX (a b c:UInt8):BX (a ^^^ b) c=BX a c ^^^ BX b c:=JU c a b
def pw2:List UInt8:=[1,2,4,8,16,32,64,128]
theorem lin_ext' {f g:UInt8→UInt8} (hf:WW f) (hg:WW g) (h:∀ b∈pw2,f b=g b) (x:UInt8):f x=g x:=
  lin_ext hf hg (h _ (by simp [pw2])) (h _ (by simp [pw2])) (h _ (by simp [pw2])) (h _ (by simp [pw2])) (h _ (by simp [pw2])) (h _ (by simp [pw2])) (h _ (by simp [pw2])) (h _ (by simp [pw2])) x
theorem assoc_basis:∀ a∈pw2,∀ b∈pw2,∀ c∈pw2,BX (BX a b) c=BX a (BX b c):=by decide +kernel
theorem IV (a b c:UInt8):BX (BX a b) c=BX a (BX b c):=by
  refine lin_ext' (f:=fun a=>BX (BX a b) c) (g:=fun a=>BX a (BX b c)) ((JU c).comp (JU b)) (JU _) (fun a ha=>?_) a
  refine lin_ext' (f:=fun b=>BX (BX a b) c) (g:=fun b=>BX a (BX b c)) ((JU c).comp (JX a)) ((JX a).comp (JU c)) (fun b hb=>?_) b
  exact lin_ext' (f:=fun c=>BX (BX a b) c) (g:=fun c=>BX a (BX b c)) (JX _) ((JX a).comp (JX b)) (fun c hc=>assoc_basis a ha b hb c hc) c
theorem RG (a:UInt8) (m:Nat):∀ n,KB a (m+n)=BX (KB a m) (KB a n)
  | 0=>by simp [KB,RY]
  | n+1=>by rw [← Nat.add_assoc];simp only [KB];rw [RG a m n,IV]
theorem gpow_one (a:UInt8):KB a 1=a:=by simp [KB,one_gmul]
def fast (a:UInt8):UInt8:=
  let a2:=BX a a;let a4:=BX a2 a2;let a8:=BX a4 a4;let a16:=BX a8 a8;let a32:=BX a16 a16;let a64:=BX a32 a32;let a128:=BX a64 a64
  BX a128 (BX a64 (BX a32 (BX a16 (BX a8 (BX a4 a2)))))
theorem ginv_fast (a:UInt8):HN a=fast a:=by
  have h2:BX a a=KB a 2:=by rw [show (2:Nat)=1+1 from rfl,RG,gpow_one]
  have dbl:∀ n,BX (KB a n) (KB a n)=KB a (n+n):=fun n=>(RG a n n).symm
  unfold fast HN
  simp only [h2,dbl,← RG]
theorem XD {a:UInt8} (h:a≠0):BX a (HN a)=1:=by
  have:=all8 (fun a=>decide (a=0∨BX a (fast a)=1)) (by decide +kernel) a
  rw [ginv_fast];exact (of_decide_eq_true this).resolve_left h
theorem OB {a b:UInt8}:BX a b=0↔a=0∨b=0:=by
  constructor
  · intro h
    by_cases ha:a=0
    · exact .inl ha
    · right
      have:=congrArg (BX (HN a)) h
      rwa [LP,← IV,LR (HN a),XD ha,one_gmul] at this
  · rintro (rfl|rfl)
    · exact FV _
    · exact LP _
def QA (c:Bool) (v:Nat):Nat:=if c then v else 0
theorem XR (c d:Bool) (v:Nat):QA (c ^^ d) v=QA c v ^^^ QA d v:=by cases c <;> cases d <;> simp [QA]
theorem xorN4 (a b c d:Nat):(a ^^^ b) ^^^ (c ^^^ d)=(a ^^^ c) ^^^ (b ^^^ d):=by
  rw [Nat.xor_assoc,Nat.xor_assoc,← Nat.xor_assoc b c d,Nat.xor_comm b c,Nat.xor_assoc c b d]
theorem cl_succ (a b i:Nat):cl a b (i+1)=cl a b i ^^^ QA (b.testBit i) (a*2 ^ i):=by
  rw [Nat.testBit_eq_decide_div_mod_eq]
  by_cases h:b / 2 ^ i % 2=1
  · rw [cl_yes a b i h];simp [QA,h]
  · rw [cl_no a b i h];simp [QA,h]
theorem VF (p j:Nat):OP p (j+1)=OP p j ^^^ QA ((OP p j).testBit (14 - j)) (283*2 ^ (14 - j - 8)):=by
  rw [Nat.testBit_eq_decide_div_mod_eq]
  by_cases h:OP p j / 2 ^ (14 - j) % 2=1
  · rw [red_yes p j h];simp [QA,h]
  · rw [red_no p j h];simp [QA,h]
theorem cl_xor (a b c:Nat):∀ i,cl a (b ^^^ c) i=cl a b i ^^^ cl a c i
  | 0=>by simp [cl]
  | i+1=>by rw [cl_succ,cl_succ,cl_succ,cl_xor a b c i,Nat.testBit_xor,XR,xorN4]
theorem red_xor (p q:Nat):∀ j,OP (p ^^^ q) j=OP p j ^^^ OP q j
  | 0=>rfl
  | j+1=>by rw [VF,VF,VF,red_xor p q j,Nat.testBit_xor,XR,xorN4]
theorem RJ (n:Nat):EZ (n:Int)=UInt8.ofNat n:=by
  unfold EZ
  rw [show ((n:Int) % 256).toNat=n % 256 by omega]
  exact UInt8.toNat_inj.1 (by simp)
theorem refMul_lin (a:UInt8):WW (GE a):=fun x y=>by
  show EZ _=EZ _ ^^^ EZ _
  rw [RJ,RJ,RJ,UInt8.toNat_xor,cl_xor,red_xor,UInt8.ofNat_xor]
theorem XU (a b:UInt8):GE a b=BX a b:=by
  have key:∀ c:UInt8,(GE c 1=BX c 1∧GE c 2=BX c 2∧GE c 4=BX c 4∧GE c 8=BX c 8∧GE c 16=BX c 16∧GE c 32=BX c 32∧GE c 64=BX c 64∧GE c 128=BX c 128):=fun c=>
    of_decide_eq_true (all8 (fun c=>decide (GE c 1=BX c 1∧GE c 2=BX c 2∧GE c 4=BX c 4∧GE c 8=BX c 8∧GE c 16=BX c 16∧GE c 32=BX c 32∧GE c 64=BX c 64∧GE c 128=BX c 128)) (by decide +kernel) c)
  obtain ⟨h1,h2,h3,h4,h5,h6,h7,h8⟩:=key a
  exact lin_ext (refMul_lin a) (JX a) h1 h2 h3 h4 h5 h6 h7 h8 b
open Go.Fw
theorem gmul_lc (a b c:UInt8):BX a (BX b c)=BX b (BX a c):=by rw [← IV,LR a b,IV]
theorem RE (x:UInt8):FB [] x=0:=rfl
theorem HA (c:UInt8) (l:List UInt8) (x:UInt8):FB (c :: l) x=BX (FB l x) x ^^^ c:=rfl
theorem QX (i:Nat):([]:List UInt8)[i]! = 0:=rfl
theorem IU (c:UInt8) (l:List UInt8) (i:Nat):(c :: l)[i+1]! = l[i]!:=by simp
theorem FG {l:List UInt8} {i:Nat} (h:l.length≤i):l[i]! = 0:=by
  rw [getElem!_def,List.getElem?_eq_none h];rfl
theorem LZ:∀ (l:List UInt8),(∀ i:Nat,l[i]! = 0)→∀ x,FB l x=0
  | [],_,_=>rfl
  | c :: l,h,x=>by
    have h0:c=0:=h 0
    rw [HA,LZ l (fun i=>by have:=h (i+1);rwa [IU] at this) x,FV,h0];rfl
theorem LN:∀ (l m:List UInt8),(∀ i:Nat,l[i]! = m[i]!)→∀ x,FB l x=FB m x
  | [],m,h,x=>by rw [LZ m (fun i=>by rw [← h i];rfl) x];rfl
  | c :: l,[],h,x=>by rw [LZ (c :: l) (fun i=>by rw [h i];rfl) x];rfl
  | c :: l,d :: m,h,x=>by
    have h0:c=d:=h 0
    rw [HA,HA,LN l m (fun i=>by have:=h (i+1);rwa [IU,IU] at this) x,h0]
theorem TX:∀ (l m r:List UInt8),(∀ i:Nat,r[i]! = l[i]! ^^^ m[i]!)→∀ x,FB r x=FB l x ^^^ FB m x
  | l,m,[],h,x=>by
    have h1:∀ i:Nat,l[i]! = m[i]!:=fun i=>MX.1 ((h i).symm.trans (QX i))
    rw [LN l m h1 x,xor_self];rfl
  | [],m,r,h,x=>by rw [LN r m (fun i=>by rw [h i,QX,zero_xor]) x,RE,zero_xor]
  | l,[],r,h,x=>by rw [LN r l (fun i=>by rw [h i,QX,xor_zero]) x,RE,xor_zero]
  | a :: l,b :: m,c :: r,h,x=>by
    have h0:c=a ^^^ b:=h 0
    rw [HA,HA,HA,TX l m r (fun i=>by have:=h (i+1);rwa [IU,IU,IU] at this) x,OX,h0,xor4]
theorem pev_mul (k:UInt8):∀ (l r:List UInt8),(∀ i:Nat,r[i]! = BX l[i]! k)→∀ x,FB r x=BX (FB l x) k
  | l,[],h,x=>by
    by_cases hk:k=0
    · rw [hk,LP];rfl
    · rw [LZ l (fun i=>by
        have:=(h i).symm.trans (QX i)
        exact (OB.1 this).resolve_right hk) x,FV];rfl
  | [],r,h,x=>by rw [LZ r (fun i=>by rw [h i,QX,FV]) x,RE,FV]
  | a :: l,c :: r,h,x=>by
    have h0:c=BX a k:=h 0
    rw [HA,HA,pev_mul k l r (fun i=>by have:=h (i+1);rwa [IU,IU] at this) x,OX,h0,IV,LR k x,← IV]
theorem pev_snoc (c x:UInt8):∀ (l:List UInt8),FB (l++[c]) x=FB l x ^^^ BX c (KB x l.length)
  | []=>by simp [FB,KB,RY,FV]
  | a :: l=>by
    rw [List.cons_append,HA,pev_snoc c x l,HA,OX,IV,QG,QG,xor_c a]
    rfl
theorem TD (l:List UInt8) (x:UInt8):∀ k,k≤l.length→EE l x k=(FB (l.take k) x,KB x k)
  | 0,_=>rfl
  | k+1,h=>by
    have ih:=TD l x k (by omega)
    unfold EE
    rw [ih,XA (by omega),pev_snoc,List.length_take,Nat.min_eq_left (by omega),XU,XU]
    rfl
theorem refEval_eq (l:List UInt8) (x:UInt8):FR l x=FB l x:=by
  unfold FR;rw [TD l x _ (Nat.le_refl _),List.take_length]
def sd (r:UInt8):List UInt8→List UInt8
  | []=>[]
  | _ :: l=>FB l r :: sd r l
theorem SK (r:UInt8):∀ (l:List UInt8) (i:Nat),(sd r l)[i]! = FB (l.drop (i+1)) r
  | [],i=>by rw [List.drop_nil];rfl
  | c :: l,0=>rfl
  | c :: l,i+1=>by rw [sd,IU,SK r l i];rfl
theorem VE (r x:UInt8):∀ (l:List UInt8),FB l x=BX (x ^^^ r) (FB (sd r l) x) ^^^ FB l r
  | []=>by simp [sd,FB,LP]
  | c :: l=>by
    have ih:=VE r x l
    have e:BX (FB l x) x=BX (x ^^^ r) (FB (sd r (c :: l)) x) ^^^ BX (FB l r) r:=by
      rw [ih]
      show _=BX (x ^^^ r) (BX (FB (sd r l) x) x ^^^ FB l r) ^^^ BX (FB l r) r
      rw [OX,gmul_add (x ^^^ r),IV,QG,OX x r (FB l r),QG,LR r (FB l r),xor_self,xor_zero,LR x (FB l r)]
    rw [HA,HA,e,QG]
theorem get_drop (l:List UInt8) (i j:Nat):(l.drop i)[j]! = l[i+j]!:=by
  rw [getElem!_def,getElem!_def,List.getElem?_drop]
theorem WD (l:List UInt8) (r:UInt8) (i:Nat):FB (l.drop i) r=BX (FB (l.drop (i+1)) r) r ^^^ l[i]!:=by
  by_cases h:i<l.length
  · exact pev_drop h
  · rw [List.drop_eq_nil_of_le (by omega),List.drop_eq_nil_of_le (by omega),FG (by omega),RE,FV];rfl
theorem QO:∀ (xs:List UInt8),xs.Nodup→∀ (l:List UInt8),(∀ i:Nat,xs.length≤i→l[i]! = 0)→(∀ x∈xs,FB l x=0)→∀ i:Nat,l[i]! = 0
  | [],_,l,h,_=>fun i=>h i (Nat.zero_le _)
  | r :: xs,hn,l,h,hx=>by
    obtain ⟨hr,hn'⟩:=List.nodup_cons.1 hn
    have hpr:FB l r=0:=hx r (by simp)
    have hq:∀ i:Nat,(sd r l)[i]! = 0:=QO xs hn' (sd r l) (fun i hi=>by
        rw [SK]
        exact LZ _ (fun j=>by rw [get_drop];exact h _ (by simp;omega)) r) (fun x hxs=>by
        have h1:=VE r x l
        rw [hx x (by simp [hxs]),hpr,xor_zero] at h1
        rcases OB.1 h1.symm with h2|h2
        · exact absurd (MX.1 h2) (fun e=>hr (e ▸ hxs))
        · exact h2)
    intro i
    have hi:FB (l.drop i) r=0:=by
      cases i with
      | zero=>exact hpr
      | succ i=>rw [← SK];exact hq i
    have h2:=WD l r i
    rw [hi,← SK,hq i,FV,zero_xor] at h2
    exact h2.symm
theorem WT {xs:List UInt8} (hn:xs.Nodup) {l m:List UInt8} (hl:∀ i:Nat,xs.length≤i→l[i]! = 0) (hm:∀ i:Nat,xs.length≤i→m[i]! = 0) (h:∀ x∈xs,FB l x=FB m x):∀ i:Nat,l[i]! = m[i]!:=by
  intro i
  have hd:∃ d:List UInt8,∀ i:Nat,d[i]! = l[i]! ^^^ m[i]!:=by
    refine ⟨(List.range (max l.length m.length)).map fun i=>l[i]! ^^^ m[i]!,fun i=>?_⟩
    by_cases hi:i<max l.length m.length
    · rw [getElem!_pos _ i (by simpa using hi)];simp
    · rw [FG (by simpa using hi),FG (l:=l) (by omega),FG (l:=m) (by omega)];rfl
  obtain ⟨d,hd⟩:=hd
  have:=QO xs hn d (fun i hi=>by rw [hd,hl i hi,hm i hi];rfl) (fun x hx=>by rw [TX l m d hd,h x hx,xor_self]) i
  rw [hd] at this
  exact MX.1 this
theorem TY {l m:List UInt8} (hlen:l.length=m.length) (h:∀ i:Nat,l[i]! = m[i]!):l=m:=by
  apply List.ext_getElem hlen
  intro i h1 h2
  have:=h i
  rwa [getElem!_pos l i h1,getElem!_pos m i h2] at this
open Go.Fw
theorem LL (l:List UInt8) (i:Nat) (v:UInt8) (j:Nat):(l.set i v)[j]! = if i=j∧i<l.length then v else l[j]!:=by
  rw [getElem!_def,List.getElem?_set,getElem!_def]
  by_cases h:i=j
  · subst h
    by_cases h2:i<l.length
    · simp [h2]
    · rw [if_pos rfl,if_neg h2,if_neg (fun h=>h2 h.2),List.getElem?_eq_none (by omega)]
  · rw [if_neg h,if_neg (fun h'=>h h'.1)]
theorem UO (l m:List UInt8) (i:Nat):(l++m)[i]! = if i<l.length then l[i]! else m[i - l.length]!:=by
  by_cases h:i<l.length
  · rw [if_pos h,getElem!_def,getElem!_def,List.getElem?_append_left h]
  · rw [if_neg h,getElem!_def,getElem!_def,List.getElem?_append_right (by omega)]
theorem WV (n i:Nat):(List.replicate n (0:UInt8))[i]! = 0:=by
  by_cases h:i<n
  · rw [getElem!_pos _ i (by simpa using h)];simp
  · exact FG (by simpa using h)
theorem LK (l:List UInt8) (k:UInt8) (i:Nat):(l.map (BX · k))[i]! = BX l[i]! k:=by
  by_cases h:i<l.length
  · rw [getElem!_pos _ i (by simpa using h),getElem!_pos _ i h];simp
  · rw [FG (by simpa using h),FG (by omega),FV]
theorem RR {l:List UInt8} {k:Nat} (x:UInt8):(l.take k).contains x=true↔∃ i,i<k∧i<l.length∧l[i]! = x:=by
  rw [List.contains_iff_mem,List.mem_iff_getElem?]
  constructor
  · rintro ⟨i,h⟩
    rw [List.getElem?_take] at h
    split at h
    · rename_i hk
      obtain ⟨h1,h2⟩:=List.getElem?_eq_some_iff.1 h
      exact ⟨i,hk,h1,by rw [getElem!_pos l i h1,h2]⟩
    · cases h
  · rintro ⟨i,hk,hl,h⟩
    exact ⟨i,by rw [List.getElem?_take,if_pos hk,List.getElem?_eq_getElem hl,← h,getElem!_pos l i hl]⟩
theorem NJ {l:List UInt8}:l.Nodup↔∀ i j,i<j→j<l.length→l[i]!≠l[j]!:=by
  rw [List.nodup_iff_pairwise_ne,List.pairwise_iff_getElem]
  constructor
  · intro h i j hij hj
    rw [getElem!_pos l i (by omega),getElem!_pos l j hj];exact h i j (by omega) hj hij
  · intro h i j hi hj hij
    have:=h i j hij hj
    rwa [getElem!_pos l i hi,getElem!_pos l j hj] at this
theorem scan_false {f:Nat→Option Bool} (m i:Nat) (hf:∀ k,f k=none∨f k=some true):FN f false i m=false↔∀ k,i≤k→k<i+m→f k=none:=by
  induction m generalizing i with
  | zero=>exact ⟨fun _ k h1 h2=>by omega,fun _=>rfl⟩
  | succ m ih=>
    unfold FN
    rcases hf i with h|h
    · rw [h];simp only
      rw [ih (i+1)]
      constructor
      · intro h1 k hk hk2
        rcases Nat.lt_or_eq_of_le hk with h3|h3
        · exact h1 k (by omega) (by omega)
        · exact h3 ▸ h
      · intro h1 k hk hk2;exact h1 k (by omega) (by omega)
    · rw [h];simp only
      constructor
      · intro e;cases e
      · intro h1;rw [h1 i (Nat.le_refl _) (by omega)] at h;cases h
theorem SW {f:Nat→Option Bool} (m i:Nat) (hf:∀ k,f k=none∨f k=some false):FN f true i m=true↔∀ k,i≤k→k<i+m→f k=none:=by
  induction m generalizing i with
  | zero=>exact ⟨fun _ k h1 h2=>by omega,fun _=>rfl⟩
  | succ m ih=>
    unfold FN
    rcases hf i with h|h
    · rw [h];simp only
      rw [ih (i+1)]
      constructor
      · intro h1 k hk hk2
        rcases Nat.lt_or_eq_of_le hk with h3|h3
        · exact h1 k (by omega) (by omega)
        · exact h3 ▸ h
      · intro h1 k hk hk2;exact h1 k (by omega) (by omega)
    · rw [h];simp only
      constructor
      · intro e;cases e
      · intro h1;rw [h1 i (Nat.le_refl _) (by omega)] at h;cases h
theorem SE (xs ys:List UInt8):HB xs ys=false↔xs.length=ys.length∧xs.Nodup:=by
  unfold HB twice
  by_cases e:xs.length=ys.length
  · rw [if_neg (by simp;omega)]
    rw [scan_false _ _ (fun k=>by split <;> simp),NJ]
    constructor
    · intro h
      refine ⟨e,fun i j hij hj hx=>?_⟩
      have:=h j (Nat.zero_le _) (by omega)
      rw [if_pos ((RR _).2 ⟨i,hij,by omega,hx⟩)] at this;cases this
    · rintro ⟨_,h⟩ k _ hk
      rw [if_neg]
      intro hc
      obtain ⟨i,hi,hl,hx⟩:=(RR _).1 hc
      exact h i k hi (by omega) hx
  · rw [if_pos (by simp;omega)];simp [e]
structure Thr (xs ys l:List UInt8):Prop where
  len:l.length=xs.length
  at_:∀ i,i<xs.length→FB l xs[i]! = ys[i]!
theorem Thr.unique {xs ys l m:List UInt8} (hn:xs.Nodup) (h:Thr xs ys l) (hm:∀ i:Nat,xs.length≤i→m[i]! = 0) (hv:∀ i,i<xs.length→FB m xs[i]! = ys[i]!):∀ i:Nat,l[i]! = m[i]!:=
  WT hn (fun i hi=>FG (by rw [h.len];exact hi)) hm (fun x hx=>by
    obtain ⟨i,hi,rfl⟩:=List.getElem_of_mem hx
    have h1:=h.at_ i hi
    have h2:=hv i hi
    rw [getElem!_pos xs i hi] at h1 h2
    rw [h1,h2])
theorem zrS_get (p:List UInt8) (x:UInt8):∀ j,j≤p.length→∀ i:Nat,(MG p x j)[i]! = if p.length - j≤i∧i<p.length then BX p[i]! x ^^^ (if 0<i then p[i - 1]! else 0) else p[i]!
  | 0,_,i=>by rw [MG,if_neg (by omega)]
  | j+1,h,i=>by
    have ih:=zrS_get p x j (by omega)
    have hl:=HR p x j
    unfold MG
    simp only
    by_cases h1:p.length - 1 - j=i
    · subst h1
      by_cases h0:0<p.length - 1 - j
      · rw [if_pos h0]
        rw [LL,List.length_set,hl,if_pos ⟨rfl,by omega⟩,LL,hl,if_pos ⟨rfl,by omega⟩,LL,if_neg (by omega),ih,ih,if_neg (by omega),if_neg (by omega),if_pos ⟨by omega,by omega⟩,if_pos h0]
      · rw [if_neg h0]
        rw [LL,hl,if_pos ⟨rfl,by omega⟩,ih,if_neg (by omega),if_pos ⟨by omega,by omega⟩,if_neg h0,xor_zero]
    · have e:∀ v u:UInt8,(if 0<p.length - 1 - j then ((MG p x j).set (p.length - 1 - j) v).set (p.length - 1 - j) u else (MG p x j).set (p.length - 1 - j) v)[i]! = (MG p x j)[i]!:=fun v u=>by
        split
        · rw [LL,if_neg (by omega),LL,if_neg (by omega)]
        · rw [LL,if_neg (by omega)]
      rw [e,ih]
      by_cases h2:p.length - j≤i∧i<p.length
      · rw [if_pos h2,if_pos (show p.length - (j+1)≤i∧i<p.length by omega)]
      · rw [if_neg h2,if_neg (by omega)]
theorem zrO_get (xs:List UInt8) (k i:Nat):(JR xs (k+1))[i]! = BX (JR xs k)[i]! xs[k]! ^^^ (if 0<i then (JR xs k)[i - 1]! else 0):=by
  have hl:=GC xs k
  have e:∀ i:Nat,(JR xs k++[0])[i]! = (JR xs k)[i]!:=fun i=>by
    rw [UO]
    by_cases h:i<(JR xs k).length
    · rw [if_pos h]
    · rw [if_neg h,FG (l:=JR xs k) (by omega)]
      by_cases h2:i=(JR xs k).length
      · subst h2;rw [Nat.sub_self];rfl
      · exact FG (by simp;omega)
  rw [JR,zrS_get _ _ _ (Nat.le_refl _) i,e,e]
  by_cases h:i<(JR xs k++[0]).length
  · rw [if_pos ⟨by omega,h⟩]
  · rw [if_neg (by omega)]
    simp only [List.length_append,List.length_singleton] at h
    rw [FG (l:=JR xs k) (by omega),FV]
    split
    · rw [FG (l:=JR xs k) (by omega)];rfl
    · rfl
theorem zrO_pev (xs:List UInt8) (k:Nat) (x:UInt8):FB (JR xs (k+1)) x=BX (FB (JR xs k) x) (x ^^^ xs[k]!):=by
  have h1:FB ((JR xs k).map (BX · xs[k]!)) x=BX (FB (JR xs k) x) xs[k]!:=pev_mul _ _ _ (fun i=>LK _ _ i) x
  have h2:FB (0 :: JR xs k) x=BX (FB (JR xs k) x) x:=by rw [HA,xor_zero]
  rw [TX ((JR xs k).map (BX · xs[k]!)) (0 :: JR xs k) (JR xs (k+1)) (fun i=>by
    rw [zrO_get,LK]
    congr 1
    cases i with
    | zero=>rfl
    | succ i=>rw [IU,if_pos (by omega)];rfl) x,h1,h2,← gmul_add,xor_c]
theorem zrO_lead (xs:List UInt8):∀ k,(JR xs k)[k]! = 1
  | 0=>rfl
  | k+1=>by
    rw [zrO_get,FG (l:=JR xs k) (by rw [GC];omega),FV,zero_xor,if_pos (by omega)]
    exact zrO_lead xs k
theorem VT {xs:List UInt8} {j:Nat}:∀ k,j<k→FB (JR xs k) xs[j]! = 0
  | 0,h=>by omega
  | k+1,h=>by
    rw [zrO_pev]
    by_cases hj:j=k
    · subst hj;rw [xor_self,LP]
    · rw [VT k (by omega),FV]
theorem sdC_eq {p:List UInt8} {x:UInt8} {n:Nat} (hp:p.length=n+1):∀ j,j≤n→TV p x n j=FB (p.drop (n+1 - j)) x
  | 0,_=>by rw [Nat.sub_zero,← hp,List.drop_length];rfl
  | j+1,h=>by
    unfold TV
    rw [sdC_eq hp j (by omega),WD p x (n+1 - (j+1)),show n+1 - (j+1)+1=n+1 - j by omega,xor_c,show n - 1 - j+1=n+1 - (j+1) by omega]
theorem sdQ_get {q0 p:List UInt8} {x:UInt8} {n:Nat} (hq:q0.length=n):∀ j,j≤n→∀ i:Nat,(IW q0 p x n j)[i]! = if n - j≤i∧i<n then TV p x n (n - i) else q0[i]!
  | 0,_,i=>by rw [IW,if_neg (by omega)]
  | j+1,h,i=>by
    unfold IW
    rw [LL,KD,sdQ_get hq j (by omega)]
    by_cases h1:n - 1 - j=i
    · rw [if_pos ⟨h1,by omega⟩,if_pos (by omega)];congr 1;omega
    · rw [if_neg (by omega)]
      by_cases h2:n - j≤i∧i<n
      · rw [if_pos h2,if_pos (by omega)]
      · rw [if_neg h2,if_neg (by omega)]
theorem sdQ_eq {q0 p:List UInt8} {x:UInt8} {n:Nat} (hq:q0.length=n) (hp:p.length=n+1):∀ i:Nat,(IW q0 p x n n)[i]! = (sd x p)[i]!:=by
  intro i
  rw [sdQ_get hq n (Nat.le_refl _),SK]
  by_cases h:i<n
  · rw [if_pos (by omega),sdC_eq hp _ (by omega),show n+1 - (n - i)=i+1 by omega]
  · rw [if_neg (by omega),FG (by omega),List.drop_eq_nil_of_le (by omega)];rfl
theorem adF_get (l q:List UInt8) (f:UInt8):∀ k,k≤l.length→∀ i:Nat,(adF l q f k)[i]! = l[i]! ^^^ (if i<k then BX q[i]! f else 0)
  | 0,_,i=>by simp [adF]
  | k+1,h,i=>by
    have ih:=adF_get l q f k (by omega)
    simp only [adF,LL,KE,ih]
    by_cases h1:k=i
    · subst h1;rw [if_pos (by simp;omega),if_neg (by omega),if_pos (by omega),xor_zero]
    · rw [if_neg (by omega)]
      congr 1
      by_cases h3:i<k
      · rw [if_pos h3,if_pos (by omega)]
      · rw [if_neg h3,if_neg (by omega)]
theorem pev_adF {l q:List UInt8} {f:UInt8} {n:Nat} (hl:l.length=n) (hq:q.length=n) (x:UInt8):FB (adF l q f n) x=FB l x ^^^ BX (FB q x) f:=by
  rw [TX l (q.map (BX · f)) _ (fun i=>by
    rw [adF_get l q f _ (by omega) i,LK]
    by_cases h3:i<n
    · rw [if_pos h3]
    · rw [if_neg h3,FG (l:=q) (by omega),FV]) x,pev_mul f q _ (fun i=>LK q f i) x]
theorem coQ_pev {xs:List UInt8} {i:Nat} (hi:i<xs.length) (x:UInt8):FB (IB (BG xs) xs xs.length (i+1)) x=FB (sd xs[i]! (BG xs)) x:=
  LN _ _ (fun j=>by rw [IB];exact sdQ_eq (IZ _ _ _ _) (GM xs) j) x
theorem XC {xs:List UInt8} (hn:xs.Nodup) {i j:Nat} (hi:i<xs.length) (hj:j<xs.length) (hij:j≠i):FB (IB (BG xs) xs xs.length (i+1)) xs[j]! = 0:=by
  rw [coQ_pev hi]
  have h1:=VE xs[i]! xs[j]! (BG xs)
  rw [show FB (BG xs) xs[j]! = 0 from VT _ hj,show FB (BG xs) xs[i]! = 0 from VT _ hi,xor_zero] at h1
  rcases OB.1 h1.symm with h2|h2
  · rw [MX] at h2
    rcases Nat.lt_or_gt_of_ne hij with h3|h3
    · exact absurd h2 (NJ.1 hn j i h3 hi)
    · exact absurd h2.symm (NJ.1 hn i j h3 hj)
  · exact h2
theorem coQ_self {xs:List UInt8} (hn:xs.Nodup) {i:Nat} (hi:i<xs.length):FB (IB (BG xs) xs xs.length (i+1)) xs[i]!≠0:=by
  intro e
  have hz:=QO xs hn (IB (BG xs) xs xs.length (i+1)) (fun j hj=>FG (by rw [IZ];exact hj)) (fun x hx=>by
    obtain ⟨j,hj,rfl⟩:=List.getElem_of_mem hx
    by_cases hji:j=i
    · subst hji;rw [getElem!_pos xs j hj] at e;exact e
    · have:=XC hn hi hj hji
      rwa [getElem!_pos xs j hj] at this) (xs.length - 1)
  rw [IB,sdQ_eq (IZ _ _ _ _) (GM xs),SK,show xs.length - 1+1=xs.length by omega,WD,List.drop_eq_nil_of_le (by rw [GM];omega),RE,FV,zero_xor] at hz
  rw [BG,zrO_lead] at hz
  exact absurd hz (by decide)
theorem coL_at {xs ys:List UInt8} (hn:xs.Nodup) {j:Nat} (hj:j<xs.length):∀ i,i≤xs.length→FB (PZ (BG xs) xs ys xs.length i) xs[j]! = if j<i then ys[j]! else 0
  | 0,_=>by simp only [PZ];rw [LZ _ (WV _)];rfl
  | i+1,h=>by
    unfold PZ
    rw [pev_adF (JI _ _ _ _ _) (IZ _ _ _ _),coL_at hn hj i (by omega)]
    by_cases hji:j=i
    · subst hji
      rw [if_neg (by omega),if_pos (by omega),zero_xor,gmul_lc,XD (coQ_self hn hj),RY]
    · rw [XC hn (by omega) hj hji,FV,xor_zero]
      by_cases h1:j<i
      · rw [if_pos h1,if_pos (by omega)]
      · rw [if_neg h1,if_neg (by omega)]
theorem co_thr {xs ys:List UInt8} (hn:xs.Nodup):Thr xs ys (PZ (BG xs) xs ys xs.length xs.length):=
  ⟨JI _ _ _ _ _,fun i hi=>by rw [coL_at hn hi _ (Nat.le_refl _),if_pos hi]⟩
theorem RZ {xs ys:List UInt8} (h:HB xs ys=false):(FO xs ys).2=0∧Thr xs ys (FO xs ys).1∧xs.length=ys.length∧xs.Nodup:=by
  have h':=(SE xs ys).1 h
  unfold FO;rw [h]
  exact ⟨rfl,co_thr h'.2,h'⟩
theorem coeff_bad {xs ys:List UInt8} (h:HB xs ys=true):FO xs ys=([],1):=by unfold FO;rw [h];rfl
theorem through_ok {xs ys:List UInt8} (at_:UInt8) (h:HB xs ys=false):DP xs ys at_=(FB (FO xs ys).1 at_,0):=by
  unfold DP;rw [(RZ h).1];rfl
open Go.Fw
def tab (n:Nat) (f:Nat→UInt8):List UInt8:=(List.range n).map f
theorem tab_succ (n:Nat) (f:Nat→UInt8):tab (n+1) f=tab n f++[f n]:=by simp [tab,List.range_succ]
theorem MN (n:Nat) (f:Nat→UInt8):(tab n f).length=n:=by simp [tab]
theorem NS (n:Nat) (f:Nat→UInt8) (i:Nat):(tab n f)[i]! = if i<n then f i else 0:=by
  by_cases h:i<n
  · rw [if_pos h,getElem!_pos _ i (by rw [MN];exact h)];simp [tab]
  · rw [if_neg h,FG (by rw [MN];omega)]
open Go.Fw
theorem WO {β:Type} {f:Nat→Option β} {d r:β} (hf:∀ k,f k=none∨f k=some r):∀ (m i:Nat),(FN f d i m=d∧∀ k,i≤k→k<i+m→f k=none)∨(FN f d i m=r∧∃ k,i≤k∧k<i+m∧f k=some r)
  | 0,i=>.inl ⟨rfl,fun k h1 h2=>by omega⟩
  | m+1,i=>by
    unfold FN
    rcases hf i with h|h
    · rw [h]
      rcases WO (d:=d) hf m (i+1) with ⟨h1,h2⟩|⟨h1,k,h2,h3,h4⟩
      · refine .inl ⟨h1,fun k hk hk2=>?_⟩
        rcases Nat.lt_or_eq_of_le hk with h3|h3
        · exact h2 k (by omega) (by omega)
        · exact h3 ▸ h
      · exact .inr ⟨h1,k,by omega,by omega,h4⟩
    · rw [h];exact .inr ⟨rfl,i,Nat.le_refl _,by omega,h⟩
theorem mulb {a b:Int} (ha:0≤a) (ha':a≤1000000) (hb:0≤b) (hb':b≤1000000):-9223372036854775808≤a*b∧a*b≤9223372036854775807:=by
  have h1:a*b≤1000000*1000000:=Int.mul_le_mul ha' hb' hb (by omega)
  have h2:=Int.mul_nonneg ha hb
  omega
theorem mulbN {a b:Nat} (ha:a≤1000000) (hb:b≤1000000):-9223372036854775808≤((a*b:Nat):Int)∧((a*b:Nat):Int)≤9223372036854775807:=by
  have h1:a*b≤1000000*1000000:=Nat.mul_le_mul ha hb
  omega
def QS (f:Share):Bool:=((decide (f.threshold<1) || decide (f.many<f.threshold)) || decide (8<f.many)) || decide (64<(f.data.length:Int))
def NZ (f s:Share):Bool:=(s.threshold != f.threshold || s.many != f.many) || ((s.data.length:Int) != (f.data.length:Int))
def KA (l:List Share) (k:Nat):Int:=if k=0 then 0 else l[k - 1]!.index
def alIdx (f s:Share) (last:Int):Bool:=decide (s.index≤last) || decide (f.many<s.index)
def FQ (l:List Share):Bool:=if (l.length:Int) == 0 then false else if QS l[0]! then false else
  FN (fun k=>if NZ l[0]! l[k]! then some false else if alIdx l[0]! l[k]! (KA l k) then some false else none) true 0 (l.length - 0)
def YA (l:List Share) (k:Nat):Bool:=((((NZ l[0]! l[k]!) || decide (l[k]!.index<1)) || decide (l[0]!.many<l[k]!.index)) || (decide (0<(k:Int)) && decide (l[k]!.index≤l[k - 1]!.index)))
def DL (l:List Share):Bool:=if (l.length:Int) == 0 then false else if QS l[0]! then false else FN (fun k=>if YA l k then some false else none) true 0 (l.length - 0)
def ep1 (l:List Share) (k:Nat):Bool:=(l[k]!.epoch != l[0]!.epoch || decide (l[k]!.epoch<0)) || decide (1048576<l[k]!.epoch)
def BP (l:List Share):Int:=if !FQ l then 80 else FN (fun k=>if ep1 l k then some 81 else none) 0 0 (l.length - 0)
def CQ (l:List Share):Int:=if !DL l then 80 else FN (fun k=>if ep1 l k then some 81 else none) 0 0 (l.length - 0)
theorem NC:(∀ a b:Bool,((a || b)=true)=(a=true∨b=true))∧(∀ a b:Bool,((a && b)=true)=(a=true∧b=true))∧(∀ b:Bool,(¬ b=true)=(b=false))
    ∧(∀ a b:Bool,((a || b)=false)=(a=false∧b=false))∧(∀ a b:Bool,((a && b)=false)=(a=false∨b=false))
    ∧(∀ (α:Type) [BEq α] [LawfulBEq α] (a b:α),((a != b)=true)=(a≠b))∧(∀ (α:Type) [BEq α] [LawfulBEq α] (a b:α),((a == b)=true)=(a=b))
    ∧(∀ (α:Type) [BEq α] [LawfulBEq α] (a b:α),((a != b)=false)=(a=b))∧(∀ (α:Type) [BEq α] [LawfulBEq α] (a b:α),((a == b)=false)=(a≠b))
    ∧(∀ (p:Prop) [Decidable p],(decide p=true)=p)∧(∀ (p:Prop) [Decidable p],(decide p=false) = ¬ p)
    ∧(∀ (α:Type) (a b:α),(a≠b) = ¬ a=b)∧(∀ b:Bool,((!b)=true)=(b=false))∧(∀ b:Bool,((!b)=false)=(b=true))∧((!true)=false)∧((!false)=true)
    ∧((false=true)=False)∧((¬ True)=False)∧((¬ False)=True)
    ∧(∀ f:Share,QS f=(((decide (f.threshold<1) || decide (f.many<f.threshold)) || decide (8<f.many)) || decide (64<(f.data.length:Int))))
    ∧(∀ f s:Share,NZ f s=((s.threshold != f.threshold || s.many != f.many) || ((s.data.length:Int) != (f.data.length:Int))))
    ∧(∀ (f s:Share) (last:Int),alIdx f s last=(decide (s.index≤last) || decide (f.many<s.index)))
    ∧(∀ (l:List Share) (k:Nat),YA l k=((((NZ l[0]! l[k]!) || decide (l[k]!.index<1)) || decide (l[0]!.many<l[k]!.index)) || (decide (0<(k:Int)) && decide (l[k]!.index≤l[k - 1]!.index))))
    ∧(∀ (l:List Share) (k:Nat),ep1 l k=((l[k]!.epoch != l[0]!.epoch || decide (l[k]!.epoch<0)) || decide (1048576<l[k]!.epoch))):=
  ⟨dbs.1,dbs.2.1,dbs.2.2.1,dbs.2.2.2.1,dbs.2.2.2.2.1,dbs.2.2.2.2.2.1,dbs.2.2.2.2.2.2.1,dbs.2.2.2.2.2.2.2.1,dbs.2.2.2.2.2.2.2.2.1,dbs.2.2.2.2.2.2.2.2.2.1,dbs.2.2.2.2.2.2.2.2.2.2.1,dbs.2.2.2.2.2.2.2.2.2.2.2.1,dbs.2.2.2.2.2.2.2.2.2.2.2.2.1,dbs.2.2.2.2.2.2.2.2.2.2.2.2.2.1,dbs.2.2.2.2.2.2.2.2.2.2.2.2.2.2.1,dbs.2.2.2.2.2.2.2.2.2.2.2.2.2.2.2.1,dbs.2.2.2.2.2.2.2.2.2.2.2.2.2.2.2.2.1,dbs.2.2.2.2.2.2.2.2.2.2.2.2.2.2.2.2.2.1,dbs.2.2.2.2.2.2.2.2.2.2.2.2.2.2.2.2.2.2,fun _=>rfl,fun _ _=>rfl,fun _ _ _=>rfl,fun _ _=>rfl,fun _ _=>rfl⟩
structure Good (l:List Share):Prop where
  pos:0<l.length
  t1:1≤l[0]!.threshold
  tm:l[0]!.threshold≤l[0]!.many
  m8:l[0]!.many≤8
  d64:l[0]!.data.length≤64
  th:∀ k,k<l.length→l[k]!.threshold=l[0]!.threshold
  ma:∀ k,k<l.length→l[k]!.many=l[0]!.many
  da:∀ k,k<l.length→l[k]!.data.length=l[0]!.data.length
  ix:∀ k,k<l.length→1≤l[k]!.index∧l[k]!.index≤l[0]!.many
  inc:∀ k,k+1<l.length→l[k]!.index<l[k+1]!.index
theorem Good.mono {l:List Share} (h:Good l):∀ (j i:Nat),i<j→j<l.length→l[i]!.index<l[j]!.index
  | 0,i,hi,_=>by omega
  | j+1,i,hi,hj=>by
    have:=h.inc j hj
    by_cases hij:i=j
    · subst hij;exact this
    · have:=h.mono j i (by omega) (by omega);omega
theorem NR (f:Share):QS f=false↔1≤f.threshold∧f.threshold≤f.many∧f.many≤8∧f.data.length≤64:=by
  unfold QS;simp only [Bool.or_eq_false_iff,decide_eq_false_iff_not];omega
theorem IP (f s:Share):NZ f s=false↔s.threshold=f.threshold∧s.many=f.many∧s.data.length=f.data.length:=by
  unfold NZ;simp only [Bool.or_eq_false_iff,bne_eq_false_iff_eq];omega
theorem SM (l:List Share):FQ l=true↔Good l:=by
  unfold FQ
  by_cases h0:l.length=0
  · rw [if_pos (by simp;exact List.eq_nil_of_length_eq_zero h0)]
    exact ⟨fun h=>(by cases h),fun h=>by have:=h.pos;omega⟩
  rw [if_neg (by simp;intro h;subst h;simp at h0)]
  cases h1:QS l[0]! with
  | true=>
    simp only [if_true]
    refine ⟨fun h=>by simp at h,fun h=>?_⟩
    have:=(NR l[0]!).2 ⟨h.t1,h.tm,h.m8,h.d64⟩
    rw [this] at h1;cases h1
  | false=>
    simp only [Bool.false_eq_true,if_false]
    obtain ⟨a1,a2,a3,a4⟩:=(NR _).1 h1
    rw [SW _ _ (fun k=>by split;simp;split <;> simp)]
    constructor
    · intro h
      have key:∀ k,k<l.length→(NZ l[0]! l[k]! = false)∧(KA l k<l[k]!.index∧l[k]!.index≤l[0]!.many):=fun k hk=>by
        have:=h k (Nat.zero_le _) (by omega)
        split at this
        · cases this
        · rename_i hd
          split at this
          · cases this
          · rename_i hi
            refine ⟨by simpa using hd,?_⟩
            unfold alIdx at hi;simp only [Bool.or_eq_true,decide_eq_true_eq,not_or] at hi;omega
      have hix:∀ k,k<l.length→1≤l[k]!.index:=fun k=>by
        induction k with
        | zero=>intro hk;have:=(key 0 hk).2.1;unfold KA at this;rw [if_pos rfl] at this;omega
        | succ k ih=>intro hk;have:=(key _ hk).2.1;have h2:=ih (by omega);unfold KA at this;rw [if_neg (by omega)] at this;simp only [Nat.add_sub_cancel] at this;omega
      exact ⟨by omega,a1,a2,a3,a4,fun k hk=>((IP _ _).1 (key k hk).1).1,fun k hk=>((IP _ _).1 (key k hk).1).2.1,fun k hk=>((IP _ _).1 (key k hk).1).2.2,fun k hk=>⟨hix k hk,(key k hk).2.2⟩,fun k hk=>by
        have:=(key _ hk).2.1;unfold KA at this;rw [if_neg (by omega)] at this;simpa using this⟩
    · intro h k _ hk
      rw [if_neg,if_neg]
      · unfold alIdx;simp only [Bool.or_eq_true,decide_eq_true_eq,not_or]
        have h1:=h.ix k (by omega)
        unfold KA
        cases k with
        | zero=>simp only [if_true];omega
        | succ k=>rw [if_neg (by omega)];have:=h.inc k (by omega);simp only [Nat.add_sub_cancel];omega
      · have:=(IP l[0]! l[k]!).2 ⟨h.th k (by omega),h.ma k (by omega),h.da k (by omega)⟩
        rw [this];simp
theorem refAlike_iff (l:List Share):DL l=true↔Good l:=by
  unfold DL
  by_cases h0:l.length=0
  · rw [if_pos (by simp;exact List.eq_nil_of_length_eq_zero h0)]
    exact ⟨fun h=>(by cases h),fun h=>by have:=h.pos;omega⟩
  rw [if_neg (by simp;intro h;subst h;simp at h0)]
  cases h1:QS l[0]! with
  | true=>
    simp only [if_true]
    refine ⟨fun h=>by simp at h,fun h=>?_⟩
    have:=(NR l[0]!).2 ⟨h.t1,h.tm,h.m8,h.d64⟩
    rw [this] at h1;cases h1
  | false=>
    simp only [Bool.false_eq_true,if_false]
    obtain ⟨a1,a2,a3,a4⟩:=(NR _).1 h1
    rw [SW _ _ (fun k=>by split <;> simp)]
    have key:∀ k,YA l k=false↔NZ l[0]! l[k]! = false∧1≤l[k]!.index∧l[k]!.index≤l[0]!.many∧(0<k→l[k - 1]!.index<l[k]!.index):=fun k=>by
      unfold YA
      simp only [Bool.or_eq_false_iff,decide_eq_false_iff_not,Bool.and_eq_false_iff]
      constructor
      · rintro ⟨⟨⟨h1,h2⟩,h3⟩,h4⟩;exact ⟨h1,by omega,by omega,by omega⟩
      · rintro ⟨h1,h2,h3,h4⟩;exact ⟨⟨⟨h1,by omega⟩,by omega⟩,by omega⟩
    constructor
    · intro h
      have key2:∀ k,k<l.length→YA l k=false:=fun k hk=>by
        have:=h k (Nat.zero_le _) (by omega)
        split at this
        · cases this
        · rename_i hd;simpa using hd
      exact ⟨by omega,a1,a2,a3,a4,fun k hk=>((IP _ _).1 ((key k).1 (key2 k hk)).1).1,fun k hk=>((IP _ _).1 ((key k).1 (key2 k hk)).1).2.1,fun k hk=>((IP _ _).1 ((key k).1 (key2 k hk)).1).2.2,fun k hk=>⟨((key k).1 (key2 k hk)).2.1,((key k).1 (key2 k hk)).2.2.1⟩,fun k hk=>by
        have:=((key _).1 (key2 _ hk)).2.2.2 (by omega);simpa using this⟩
    · intro h k _ hk
      rw [if_neg]
      rw [(key k).2 ⟨(IP _ _).2 ⟨h.th k (by omega),h.ma k (by omega),h.da k (by omega)⟩,(h.ix k (by omega)).1,(h.ix k (by omega)).2,fun hk0=>by
        obtain ⟨q,rfl⟩:∃ q,k=q+1:=⟨k - 1,by omega⟩
        exact h.inc q (by omega)⟩];simp
theorem refAlike_eq (l:List Share):DL l=FQ l:=by rw [Bool.eq_iff_iff,refAlike_iff,SM]
theorem IT (l:List Share):CQ l=BP l:=by unfold CQ BP;rw [refAlike_eq]
structure Vd (l:List Share):Prop extends Good l where
  ep:∀ k,k<l.length→l[k]!.epoch=l[0]!.epoch
  ep0:0≤l[0]!.epoch
  ep1:l[0]!.epoch≤1048576
theorem UB (l:List Share) (k:Nat):ep1 l k=false↔l[k]!.epoch=l[0]!.epoch∧0≤l[k]!.epoch∧l[k]!.epoch≤1048576:=by
  unfold ep1;simp only [Bool.or_eq_false_iff,bne_eq_false_iff_eq,decide_eq_false_iff_not];omega
theorem FU (l:List Share):BP l=0↔Vd l:=by
  unfold BP
  cases ha:FQ l with
  | false=>
    simp only [Bool.not_false,if_true]
    exact ⟨fun h=>by omega,fun h=>by rw [(SM l).2 h.toGood] at ha;cases ha⟩
  | true=>
    have hg:=(SM l).1 ha
    simp only [Bool.not_true,Bool.false_eq_true,if_false]
    rcases WO (f:=fun k=>if ep1 l k then some (81:Int) else none) (d:=(0:Int)) (r:=81) (fun k=>by split <;> simp) (l.length - 0) 0 with ⟨h1,h2⟩|⟨h1,k,h2,h3,h4⟩
    · rw [h1]
      have key:∀ k,k<l.length→ep1 l k=false:=fun k hk=>by
        have:=h2 k (Nat.zero_le _) (by omega)
        split at this
        · cases this
        · rename_i h;simpa using h
      refine ⟨fun _=>⟨hg,fun k hk=>((UB l k).1 (key k hk)).1,((UB l 0).1 (key 0 hg.pos)).2.1,((UB l 0).1 (key 0 hg.pos)).2.2⟩,fun _=>rfl⟩
    · rw [h1]
      refine ⟨fun h=>by omega,fun h=>?_⟩
      have:=(UB l k).2 ⟨h.ep k (by omega),by rw [h.ep k (by omega)];exact h.ep0,by rw [h.ep k (by omega)];exact h.ep1⟩
      simp only [this] at h4;cases h4
def EL (a b:Share):Bool:=(((a.epoch == b.epoch && a.index == b.index) && a.threshold == b.threshold) && a.many == b.many) && a.data == b.data
theorem QE (a b:Share):EL a b=true↔a=b:=by
  unfold EL;simp only [Bool.and_eq_true,beq_iff_eq]
  constructor
  · rintro ⟨⟨⟨⟨h1,h2⟩,h3⟩,h4⟩,h5⟩;exact Share.ext h1 h2 h3 h4 h5
  · rintro rfl;simp
def MY (a b:List Share):Bool:=if (a.length:Int) != (b.length:Int) then false else FN (fun k=>if !EL a[k]! b[k]! then some false else none) true 0 (a.length - 0)
theorem ext_getS {α:Type} [Inhabited α] {l m:List α} (hlen:l.length=m.length) (h:∀ i:Nat,i<l.length→l[i]! = m[i]!):l=m:=by
  apply List.ext_getElem hlen
  intro i h1 h2
  have:=h i h1
  rwa [getElem!_pos l i h1,getElem!_pos m i h2] at this
theorem same_iff (a b:List Share):MY a b=true↔a=b:=by
  unfold MY
  by_cases h:a.length=b.length
  · rw [if_neg (by simp;omega),SW _ _ (fun k=>by split <;> simp)]
    constructor
    · intro h1
      refine ext_getS h (fun i hi=>?_)
      have:=h1 i (Nat.zero_le _) (by omega)
      split at this
      · cases this
      · rename_i h2;exact (QE _ _).1 (by simpa using h2)
    · rintro rfl k _ _
      rw [(QE _ _).2 rfl];rfl
  · rw [if_pos (by simp;omega)]
    exact ⟨fun h=>(by cases h),fun e=>absurd (congrArg List.length e) h⟩
def QU (l:List Share):Bool:=FN (fun k=>if 70<(l[k]!.data.length:Int) then some false else none) (decide ((l.length:Int)≤10)) 0 (l.length - 0)
open Go.Fw Go.RowKit
set_option maxHeartbeats 4000000 in
set_option maxRecDepth 100000 in
theorem c_alike {O:List Nat} (l_v:Value) (l:List Share) (w:World) (a2:BC Enc.share w O l_v l) (hO:∀ b∈O,b<w.heap.size):CA Tryz.prog 88 [l_v] w (fun v _=>v = .bool (FQ l)):= by
 have e6:=a2.len_le
 have a2:BC Enc.share w ([]++O) l_v l:=a2
 have s0:St w O w []:=St.start hO
 refine BI 75 Tryz.func88 rfl rfl oT (fun F0=>AG (AC kR (AA (AD (vO false) rfl (AF (AB (AG (AG (AC kR (AA (AE (l_v) rfl (AA (BR U27_ rfl a2 (AA (EH .i64 (l.length:Int) (0:Int) rfl rfl (AF (AB (AL ((l.length:Int) == (0:Int)) rfl rfl (fun a9=>?_) (fun a9=>?_)))))))))))))))))))
 ·have e7:(l.length:Int)=(0:Int):=by simpa using a9
  refine AG (AC kR (AA (AD (vO false) rfl (AF (AB (AM (AK (AT rfl (BY rfl rfl rfl) (?_)))))))))
  have e:(FQ l)=false:=by (unfold FQ;((repeat ((refine (if_pos ?_).trans ?_;omega)));rfl))
  exact ⟨_,rfl,s0.keep,(by exact congrArg vO e.symm)⟩
 have e8:(l.length:Int)≠(0:Int):=by simpa using a9
 refine AU (AB (AG (AC kR (AA (AE (l_v) rfl (AA (CZ U27_ DN .i64 (0:Int) 0 rfl rfl rfl a2 oM fun g9 c8=>(AA (CL U49_ rfl DN rfl c8 fun c9 b0=>(AA (DB [vI 0,vI 0,vI 0,vI 0,nS] MJ rfl s0 fun a4 d7 d8 d9 c6 h0 d0=>(?_))))))))))))
 clear d8
 have a2:=a2.mv c6
 have b0:Enc.share.rd d7 ((a4 :: [])++O) c9 (l[0]!):=Enc.mv Enc.share (x:=l[0]!) b0 c6
 obtain ⟨a6,rfl,a1⟩:=b0
 have:=a1.len_le
 refine BZ (BE (vs:=[vI ((l[0]!).epoch),vI ((l[0]!).index),vI ((l[0]!).threshold),vI ((l[0]!).many),a6]) (.agg #[vI ((l[0]!).epoch),vI ((l[0]!).index),vI ((l[0]!).threshold),vI ((l[0]!).many),a6]) rfl rfl rfl DN (fun u hu=>by simp only [List.mem_cons,List.not_mem_nil,or_false] at hu;rcases hu with rfl|rfl|rfl|rfl|rfl <;> first|rfl|exact a1.oneCell) (by repeat (constructor)) d0 oT d9 fun h1 a8 c7 h2 a0=>(?_))
 have a2:=a2.mv c7
 have a1:=a1.mv c7
 refine AA (AD (vI 0) rfl (AF (AB (AG (AG (AC kR (AA (AP 2 HT rfl (AA (AR U3_ rfl (vI ((l[0]!).threshold)) rfl a0 rfl (AA (DW .i64 ((l[0]!).threshold) (1:Int) rfl rfl (AA (AE (vO (decide ((l[0]!).threshold<(1:Int)))) rfl (?_)))))))))))))))
 cases c0:(decide ((l[0]!).threshold<(1:Int)))
 ·have e9:(1:Int)≤(l[0]!).threshold:=by simpa using c0
  refine AV rfl (AP 2 HT rfl (AV rfl (AR U3_ rfl (vI ((l[0]!).threshold)) rfl a0 rfl (AV rfl (AP 3 HD rfl (AV rfl (AR U3_ rfl (vI ((l[0]!).many)) rfl a0 rfl (AV rfl (FP .i64 ((l[0]!).threshold) ((l[0]!).many) rfl rfl (AA (BB (vO (decide ((l[0]!).many<(l[0]!).threshold))) rfl rfl (AA (AE (vO (decide ((l[0]!).many<(l[0]!).threshold))) rfl (?_))))))))))))))
  cases c1:(decide ((l[0]!).many<(l[0]!).threshold))
  ·have f0:(l[0]!).threshold≤(l[0]!).many:=by simpa using c1
   refine AV rfl (AP 3 HD rfl (AV rfl (AR U3_ rfl (vI ((l[0]!).many)) rfl a0 rfl (AV rfl (FP .i64 ((l[0]!).many) (8:Int) rfl rfl (AA (BB (vO (decide ((8:Int)<(l[0]!).many))) rfl rfl (AA (AE (vO (decide ((8:Int)<(l[0]!).many))) rfl (?_))))))))))
   cases c2:(decide ((8:Int)<(l[0]!).many))
   ·have f1:(l[0]!).many≤(8:Int):=by simpa using c2
    refine AV rfl (AP 4 EU rfl (AV rfl (AR U26_ rfl (a6) rfl a0 rfl (AV rfl (BR U26_ rfl a1 (AV rfl (FP .i64 (((l[0]!).data).length:Int) (64:Int) rfl rfl (AA (BB (vO (decide ((64:Int)<(((l[0]!).data).length:Int)))) rfl rfl (AF (AB (AL (decide ((64:Int)<(((l[0]!).data).length:Int))) rfl rfl (fun b1=>?_) (fun b1=>?_)))))))))))))
    ·have f2:(64:Int)<(((l[0]!).data).length:Int):=by simpa using b1
     refine AG (AC kR (AA (AD (vO false) rfl (AF (AB (AM (AK (AT rfl (BY rfl rfl rfl) (?_)))))))))
     have e:(FQ l)=false:=by (unfold FQ;((repeat (first|(refine (if_pos ?_).trans ?_;solve|(simp only [NC];omega))|(refine (if_neg ?_).trans ?_;solve|(simp only [NC];omega))));rfl))
     exact ⟨_,rfl,a8.keep,(by exact congrArg vO e.symm)⟩
    have f3:(((l[0]!).data).length:Int)≤(64:Int):=by simpa using b1
    refine AU (AB (AG (AG (AC kR (AA (AE (l_v) rfl (AA (BR U27_ rfl a2 (AA (AE (vI 0) rfl (AF (AB (BJ (DJ (fun mI FI wI=>∃ (k:Nat) (B:List Nat),k≤l.length∧FQ l=FN (fun k=>if NZ l[0]! l[k]! then some false else if alIdx l[0]! l[k]! (KA l k) then some false else none) true k (l.length - k)∧mI=l.length - k∧(∃ F1,FI=GT F1 [(3,vP (some ⟨a4,0,none⟩)),(4,vI (KA l k)),(34,l_v),(35,vI (l.length:Int)),(36,vI ((k:Nat):Int)),(75,undef)])∧St w O wI B∧BC Enc.share wI (B++O) (l_v) (l)∧BC Enc.u8 wI (B++O) (a6) ((l[0]!).data)∧IN wI a4 49 [vI ((l[0]!).epoch),vI ((l[0]!).index),vI ((l[0]!).threshold),vI ((l[0]!).many),a6]∧a4∈B) (l.length - (0)) ?_ ?_))))))))))))))
    ·exact ⟨(0),(a4 :: []),oM,(by unfold FQ;((repeat ((refine (if_neg ?_).trans ?_;solve|(simp only [NC];omega))));rfl)),rfl,⟨_,AZ _ ⟨rfl,(by rfl),rfl,rfl,(by rfl),rfl,trivial⟩⟩,a8,a2,a1,a0,(by (repeat (exact List.mem_cons_self)))⟩
    intro h5 F h6 hI
    clear a2 a1 a0
    obtain ⟨k,d5,hr0_0,hr0_1,h7,⟨h8,rfl⟩,d6,a2,a1,a0,e0⟩:=hI
    refine AG (AC kR (AA (DW .i64 ((k:Nat):Int) (l.length:Int) rfl rfl (AF (AB (AG (AL (decide (((k:Nat):Int)<(l.length:Int))) rfl rfl (fun b2=>?_) (fun b2=>?_))))))))
    ·have f4:((k:Nat):Int)<(l.length:Int):=by simpa using b2
     refine AU (AB (AG (BJ (AG (AC kR (AA (CZ U27_ DN .i64 ((k:Nat):Int) k rfl rfl rfl a2 oM fun h3 d1=>(AA (CL U49_ rfl DN rfl d1 fun d2 b3=>(AA (DB [vI 0,vI 0,vI 0,vI 0,nS] MJ rfl d6 fun b4 e1 e2 e3 b7 e4 d3=>(?_))))))))))))
     have d4:GX a4 b4:=by show a4≠b4;have:=a0.lt;omega
     clear e2
     have a2:=a2.mv b7
     have b3:Enc.share.rd e1 ((b4 :: d5)++O) d2 (l[k]!):=Enc.mv Enc.share (x:=l[k]!) b3 b7
     have a1:=a1.mv b7
     have a0:=a0.keep e4 (by simp)
     obtain ⟨b8,rfl,a5⟩:=b3
     have:=a5.len_le
     refine BZ (BE (vs:=[vI ((l[k]!).epoch),vI ((l[k]!).index),vI ((l[k]!).threshold),vI ((l[k]!).many),b8]) (.agg #[vI ((l[k]!).epoch),vI ((l[k]!).index),vI ((l[k]!).threshold),vI ((l[k]!).many),b8]) rfl rfl rfl DN (fun u hu=>by simp only [List.mem_cons,List.not_mem_nil,or_false] at hu;rcases hu with rfl|rfl|rfl|rfl|rfl <;> first|rfl|exact a5.oneCell) (by repeat (constructor)) d3 oT e3 fun h4 a7 b9 e5 a3=>(?_))
     have a2:=a2.mv b9
     have a5:=a5.mv b9
     have a1:=a1.mv b9
     have a0:=a0.keep e5 (BD d4)
     refine AF (AB (AG (AG (AC kR (AA (AP 2 HT rfl (AA (AR U3_ rfl (vI ((l[k]!).threshold)) rfl a3 rfl (AA (AP 2 HT rfl (AA (AR U3_ rfl (vI ((l[0]!).threshold)) rfl a0 rfl (AA (CO .i64 ((l[k]!).threshold) ((l[0]!).threshold) rfl rfl (AA (AE (vO (((l[k]!).threshold) != ((l[0]!).threshold))) rfl (?_)))))))))))))))))
     cases c3:(((l[k]!).threshold) != ((l[0]!).threshold))
     ·have f5:(l[k]!).threshold=(l[0]!).threshold:=by simpa using c3
      refine AV rfl (AP 3 HD rfl (AV rfl (AR U3_ rfl (vI ((l[k]!).many)) rfl a3 rfl (AV rfl (AP 3 HD rfl (AV rfl (AR U3_ rfl (vI ((l[0]!).many)) rfl a0 rfl (AV rfl (CO .i64 ((l[k]!).many) ((l[0]!).many) rfl rfl (AA (BB (vO (((l[k]!).many) != ((l[0]!).many))) rfl rfl (AA (AE (vO (((l[k]!).many) != ((l[0]!).many))) rfl (?_))))))))))))))
      cases c4:(((l[k]!).many) != ((l[0]!).many))
      ·have f6:(l[k]!).many=(l[0]!).many:=by simpa using c4
       refine AV rfl (AP 4 EU rfl (AV rfl (AR U26_ rfl (b8) rfl a3 rfl (AV rfl (BR U26_ rfl a5 (AV rfl (AP 4 EU rfl (AV rfl (AR U26_ rfl (a6) rfl a0 rfl (AV rfl (BR U26_ rfl a1 (AV rfl (CO .i64 (((l[k]!).data).length:Int) (((l[0]!).data).length:Int) rfl rfl (AA (BB (vO ((((l[k]!).data).length:Int) != (((l[0]!).data).length:Int))) rfl rfl (AF (AB (AL ((((l[k]!).data).length:Int) != (((l[0]!).data).length:Int)) rfl rfl (fun b5=>?_) (fun b5=>?_)))))))))))))))))))
       ·have f7:(((l[k]!).data).length:Int)≠(((l[0]!).data).length:Int):=by simpa using b5
        refine AG (AC kR (AA (AD (vO false) rfl (AF (AB (AM (AK (BF (AK (AK (BF (AK (AT rfl (BY rfl rfl rfl) (?_))))))))))))))
        have e:(FQ l)=false:=by (rw [hr0_1];exact CS oM (by ((repeat ((refine (if_pos ?_).trans ?_;solve|(simp only [NC];omega))));rfl)))
        exact ⟨_,rfl,a7.keep,(by exact congrArg vO e.symm)⟩
       have f8:(((l[k]!).data).length:Int)=(((l[0]!).data).length:Int):=by simpa using b5
       refine AU (AB (AG (AG (AC kR (AA (AP 1 LF rfl (AA (AR U3_ rfl (vI ((l[k]!).index)) rfl a3 rfl (AA (AE (vI (KA l k)) rfl (AA (TF .i64 ((l[k]!).index) (KA l k) rfl rfl (AA (AE (vO (decide ((l[k]!).index≤KA l k))) rfl (?_)))))))))))))))
       cases c5:(decide ((l[k]!).index≤KA l k))
       ·have f9:KA l k<(l[k]!).index:=by simpa using c5
        refine AV rfl (AP 1 LF rfl (AV rfl (AR U3_ rfl (vI ((l[k]!).index)) rfl a3 rfl (AV rfl (AP 3 HD rfl (AV rfl (AR U3_ rfl (vI ((l[0]!).many)) rfl a0 rfl (AV rfl (FP .i64 ((l[k]!).index) ((l[0]!).many) rfl rfl (AA (BB (vO (decide ((l[0]!).many<(l[k]!).index))) rfl rfl (AF (AB (AL (decide ((l[0]!).many<(l[k]!).index)) rfl rfl (fun b6=>?_) (fun b6=>?_)))))))))))))))
        ·have g0:(l[0]!).many<(l[k]!).index:=by simpa using b6
         refine AG (AC kR (AA (AD (vO false) rfl (AF (AB (AM (AK (BF (AK (AK (BF (AK (AT rfl (BY rfl rfl rfl) (?_))))))))))))))
         have e:(FQ l)=false:=by (rw [hr0_1];exact CS oM (by ((repeat (first|(refine (if_pos ?_).trans ?_;solve|(simp only [NC];omega))|(refine (if_neg ?_).trans ?_;solve|(simp only [NC];omega))));rfl)))
         exact ⟨_,rfl,a7.keep,(by exact congrArg vO e.symm)⟩
        have g1:(l[k]!).index≤(l[0]!).many:=by simpa using b6
        refine AU (AB (AC kR (AA (AP 1 LF rfl (AA (AR U3_ rfl (vI ((l[k]!).index)) rfl a3 rfl (AA (AD (vI ((l[k]!).index)) rfl (AF (CD (AB (AC kR (AA (DM .i64 ((k:Nat):Int) (1:Int) (((k+1:Nat):Int)) rfl rfl (GG oM oM) (AA (AE (vI ((k+1:Nat):Int)) rfl (AF (AB (?_)))))))))))))))))))
        exact ⟨_,oM,(k+1),(b4 :: d5),oM,(hr0_1.trans (FL oM (by ((repeat ((refine (if_neg ?_).trans ?_;solve|(simp only [NC];omega))));rfl)))),rfl,⟨_,AZ _ ⟨rfl,(by rfl),rfl,rfl,(by rfl),rfl,trivial⟩⟩,a7,a2,a1,a0,(by (repeat (first|assumption|apply List.mem_cons_of_mem)))⟩
       have g2:(l[k]!).index≤KA l k:=by simpa using c5
       refine AJ rfl (AJ rfl (AJ rfl (AJ rfl (AJ rfl (AA (AO (vO true) rfl rfl (AF (AB (AL true rfl rfl (fun _=>AG (AC kR (AA (AD (vO false) rfl (AF (AB (AM (AK (BF (AK (AK (BF (AK (AT rfl (BY rfl rfl rfl) (?_))))))))))))))) (fun h=>by cases h))))))))))
       have e:(FQ l)=false:=by (rw [hr0_1];exact CS oM (by ((repeat (first|(refine (if_pos ?_).trans ?_;solve|(simp only [NC];omega))|(refine (if_neg ?_).trans ?_;solve|(simp only [NC];omega))));rfl)))
       exact ⟨_,rfl,a7.keep,(by exact congrArg vO e.symm)⟩
      have g3:(l[k]!).many≠(l[0]!).many:=by simpa using c4
      refine AJ rfl (AJ rfl (AJ rfl (AJ rfl (AJ rfl (AJ rfl (AJ rfl (AA (AO (vO true) rfl rfl (AF (AB (AL true rfl rfl (fun _=>AG (AC kR (AA (AD (vO false) rfl (AF (AB (AM (AK (BF (AK (AK (BF (AK (AT rfl (BY rfl rfl rfl) (?_))))))))))))))) (fun h=>by cases h))))))))))))
      have e:(FQ l)=false:=by (rw [hr0_1];exact CS oM (by ((repeat ((refine (if_pos ?_).trans ?_;solve|(simp only [NC];omega))));rfl)))
      exact ⟨_,rfl,a7.keep,(by exact congrArg vO e.symm)⟩
     have g4:(l[k]!).threshold≠(l[0]!).threshold:=by simpa using c3
     refine AJ rfl (AJ rfl (AJ rfl (AJ rfl (AJ rfl (AA (AO (vO true) rfl rfl (AA (AE (vO true) rfl (AJ rfl (AJ rfl (AJ rfl (AJ rfl (AJ rfl (AJ rfl (AJ rfl (AA (AO (vO true) rfl rfl (AF (AB (AL true rfl rfl (fun _=>AG (AC kR (AA (AD (vO false) rfl (AF (AB (AM (AK (BF (AK (AK (BF (AK (AT rfl (BY rfl rfl rfl) (?_))))))))))))))) (fun h=>by cases h)))))))))))))))))))))
     have e:(FQ l)=false:=by (rw [hr0_1];exact CS oM (by ((repeat ((refine (if_pos ?_).trans ?_;solve|(simp only [NC];omega))));rfl)))
     exact ⟨_,rfl,a7.keep,(by exact congrArg vO e.symm)⟩
    have g5:(l.length:Int)≤((k:Nat):Int):=by simpa using b2
    refine DG (BS (BS (CT (AB (AG (AC kR (AA (AD (vO true) rfl (AF (AB (AM (AT rfl (BY rfl rfl rfl) (?_)))))))))))))
    have e:(FQ l)=true:=by (rw [hr0_1];exact GS oM)
    exact ⟨_,rfl,d6.keep,(by exact congrArg vO e.symm)⟩
   have g6:(8:Int)<(l[0]!).many:=by simpa using c2
   refine AJ rfl (AJ rfl (AJ rfl (AJ rfl (AA (AO (vO true) rfl rfl (AF (AB (AL true rfl rfl (fun _=>AG (AC kR (AA (AD (vO false) rfl (AF (AB (AM (AK (AT rfl (BY rfl rfl rfl) (?_)))))))))) (fun h=>by cases h)))))))))
   have e:(FQ l)=false:=by (unfold FQ;((repeat (first|(refine (if_pos ?_).trans ?_;solve|(simp only [NC];omega))|(refine (if_neg ?_).trans ?_;solve|(simp only [NC];omega))));rfl))
   exact ⟨_,rfl,a8.keep,(by exact congrArg vO e.symm)⟩
  have g7:(l[0]!).many<(l[0]!).threshold:=by simpa using c1
  refine AJ rfl (AJ rfl (AJ rfl (AA (AO (vO true) rfl rfl (AA (AE (vO true) rfl (AJ rfl (AJ rfl (AJ rfl (AJ rfl (AA (AO (vO true) rfl rfl (AF (AB (AL true rfl rfl (fun _=>AG (AC kR (AA (AD (vO false) rfl (AF (AB (AM (AK (AT rfl (BY rfl rfl rfl) (?_)))))))))) (fun h=>by cases h))))))))))))))))
  have e:(FQ l)=false:=by (unfold FQ;((repeat (first|(refine (if_pos ?_).trans ?_;solve|(simp only [NC];omega))|(refine (if_neg ?_).trans ?_;solve|(simp only [NC];omega))));rfl))
  exact ⟨_,rfl,a8.keep,(by exact congrArg vO e.symm)⟩
 have g8:(l[0]!).threshold<(1:Int):=by simpa using c0
 refine AJ rfl (AJ rfl (AJ rfl (AJ rfl (AJ rfl (AA (AO (vO true) rfl rfl (AA (AE (vO true) rfl (AJ rfl (AJ rfl (AJ rfl (AA (AO (vO true) rfl rfl (AA (AE (vO true) rfl (AJ rfl (AJ rfl (AJ rfl (AJ rfl (AA (AO (vO true) rfl rfl (AF (AB (AL true rfl rfl (fun _=>AG (AC kR (AA (AD (vO false) rfl (AF (AB (AM (AK (AT rfl (BY rfl rfl rfl) (?_)))))))))) (fun h=>by cases h)))))))))))))))))))))))))
 have e:(FQ l)=false:=by (unfold FQ;((repeat (first|(refine (if_pos ?_).trans ?_;solve|(simp only [NC];omega))|(refine (if_neg ?_).trans ?_;solve|(simp only [NC];omega))));rfl))
 exact ⟨_,rfl,a8.keep,(by exact congrArg vO e.symm)⟩
set_option maxHeartbeats 4000000 in
set_option maxRecDepth 100000 in
theorem NI {O:List Nat} (l_v:Value) (l:List Share) (w:World) (a0:BC Enc.share w O l_v l) (hO:∀ b∈O,b<w.heap.size):CA Tryz.prog 54 [l_v] w (fun v _=>v=vI (BP l)):= by
 have d2:=a0.len_le
 have a0:BC Enc.share w ([]++O) l_v l:=a0
 have s0:St w O w []:=St.start hO
 refine BI 32 Tryz.func54 rfl rfl oT (fun F0=>AG (AC kR (AA (AD (vI 0) rfl (AF (AB (AG (AG (AC kR (AA (AE (l_v) rfl (AA (AY (vs:=[l_v]) enter_88 (c_alike (O:=[]++O) l_v l w a0 s0.lt) rfl s0 fun e3 e4 b3 c2 e5 c3=>(?_))))))))))))))
 obtain rfl:=c3
 have a0:=a0.mv c2
 refine AA (ER (FQ l) rfl (AF (AB (AL (!(FQ l)) rfl rfl (fun a2=>?_) (fun a2=>?_)))))
 ·have d3:(FQ l)=false:=by simpa using a2
  refine AG (AC kR (AA (AD (vI 80) rfl (AF (AB (AM (AK (AT rfl (BY rfl rfl rfl) (?_)))))))))
  have e:(BP l)=(80:Int):=by (unfold BP;((repeat ((refine (if_pos ?_).trans ?_;omega)));rfl))
  exact ⟨_,rfl,b3.keep,by rw [e];exact rfl⟩
 have d4:(FQ l)=true:=by simpa using a2
 refine AU (AB (AG (AG (AC kR (AA (AE (l_v) rfl (AA (BR U27_ rfl a0 (AA (AE (vI 0) rfl (AF (AB (BJ (DJ (fun mI FI wI=>∃ (k:Nat) (B:List Nat),k≤l.length∧BP l=FN (fun k=>if ep1 l k then some 81 else none) 0 k (l.length - k)∧mI=l.length - k∧(∃ F1,FI=GT F1 [(0,l_v),(8,l_v),(9,vI (l.length:Int)),(10,vI ((k:Nat):Int)),(32,undef)])∧St w O wI B∧BC Enc.share wI (B++O) (l_v) (l)) (l.length - (0)) ?_ ?_))))))))))))))
 ·exact ⟨(0),[],oM,(by unfold BP;((repeat ((refine (if_neg ?_).trans ?_;solve|(simp only [*,dbs];done))));rfl)),rfl,⟨_,AZ _ ⟨rfl,rfl,rfl,(by rfl),rfl,trivial⟩⟩,b3,a0⟩
 intro f1 F f2 hI
 clear a0
 obtain ⟨k,a9,hr0_0,hr0_1,f3,⟨f4,rfl⟩,c1,a0⟩:=hI
 refine AG (AC kR (AA (DW .i64 ((k:Nat):Int) (l.length:Int) rfl rfl (AF (AB (AG (AL (decide (((k:Nat):Int)<(l.length:Int))) rfl rfl (fun a3=>?_) (fun a3=>?_))))))))
 ·have d5:((k:Nat):Int)<(l.length:Int):=by simpa using a3
  refine AU (AB (AG (BJ (AG (AC kR (AA (CZ U27_ DN .i64 ((k:Nat):Int) k rfl rfl rfl a0 oM fun e6 b6=>(AA (CL U49_ rfl DN rfl b6 fun b7 a4=>(AA (DB [vI 0,vI 0,vI 0,vI 0,nS] MJ rfl c1 fun a5 c4 c5 c6 b4 e7 b8=>(?_))))))))))))
  clear c5
  have a0:=a0.mv b4
  have a4:Enc.share.rd c4 ((a5 :: a9)++O) b7 (l[k]!):=Enc.mv Enc.share (x:=l[k]!) a4 b4
  obtain ⟨b5,rfl,b0⟩:=a4
  have:=b0.len_le
  refine BZ (BE (vs:=[vI ((l[k]!).epoch),vI ((l[k]!).index),vI ((l[k]!).threshold),vI ((l[k]!).many),b5]) (.agg #[vI ((l[k]!).epoch),vI ((l[k]!).index),vI ((l[k]!).threshold),vI ((l[k]!).many),b5]) rfl rfl rfl DN (fun u hu=>by simp only [List.mem_cons,List.not_mem_nil,or_false] at hu;rcases hu with rfl|rfl|rfl|rfl|rfl <;> first|rfl|exact b0.oneCell) (by repeat (constructor)) b8 oT c6 fun c7 c8 c9 e8 a1=>(?_))
  have a0:=a0.mv c9
  refine AF (AB (AG (FS 17 _ _ kR kR kR kR kR rfl rfl fun d0 a8=>?_)))
  have a6:=c8.call a8
  have d1:Mv (a5 :: a9) c7 (a5 :: a9) d0:=Mv.of_keep a8
  have a0:=a0.mv d1
  have a1:=a1.keep a8 (by simp)
  refine BV (AP 0 GP rfl (BV (AR U3_ rfl (vI ((l[k]!).epoch)) rfl a1 rfl (BV (AE (l_v) rfl (BV (CZ U27_ DN .i64 (0:Int) 0 rfl rfl rfl a0 oM fun e9 b9=>(BV (AX 0 GP ((l[0]!).epoch) rfl b9 (fun _ _ _ h=>FY h) fun f0 c0=>(BV (BL U3_ rfl rfl c0 (BV (CO .i64 ((l[k]!).epoch) ((l[0]!).epoch) rfl rfl (BV (AE (vO (((l[k]!).epoch) != ((l[0]!).epoch))) rfl (?_))))))))))))))))
  cases b1:(((l[k]!).epoch) != ((l[0]!).epoch))
  ·have d6:(l[k]!).epoch=(l[0]!).epoch:=by simpa using b1
   refine DV rfl (AP 0 GP rfl (DV rfl (AR U3_ rfl (vI ((l[k]!).epoch)) rfl a1 rfl (DV rfl (DW .i64 ((l[k]!).epoch) (0:Int) rfl rfl (BV (BB (vO (decide ((l[k]!).epoch<(0:Int)))) rfl rfl (BV (AE (vO (decide ((l[k]!).epoch<(0:Int)))) rfl (?_))))))))))
   cases b2:(decide ((l[k]!).epoch<(0:Int)))
   ·have d7:(0:Int)≤(l[k]!).epoch:=by simpa using b2
    refine DV rfl (AP 0 GP rfl (DV rfl (AR U3_ rfl (vI ((l[k]!).epoch)) rfl a1 rfl (DV rfl (FP .i64 ((l[k]!).epoch) (1048576:Int) rfl rfl (BV (BB (vO (decide ((1048576:Int)<(l[k]!).epoch))) rfl rfl (EO (AF (AB (AL (decide ((1048576:Int)<(l[k]!).epoch)) rfl rfl (fun a7=>?_) (fun a7=>?_))))))))))))
    ·have d8:(1048576:Int)<(l[k]!).epoch:=by simpa using a7
     refine AG (AC kR (AA (AD (vI 81) rfl (AF (AB (AM (BF (AK (AK (BF (AK (AT rfl (BY rfl rfl rfl) (?_)))))))))))))
     have e:(BP l)=(81:Int):=by (rw [hr0_1];exact CS oM (by ((repeat ((refine (if_pos ?_).trans ?_;solve|(simp only [NC];omega))));rfl)))
     exact ⟨_,rfl,a6.keep,by rw [e];exact rfl⟩
    have d9:(l[k]!).epoch≤(1048576:Int):=by simpa using a7
    refine AU (CD (AB (AC kR (AA (DM .i64 ((k:Nat):Int) (1:Int) (((k+1:Nat):Int)) rfl rfl (GG oM oM) (AA (AE (vI ((k+1:Nat):Int)) rfl (AF (AB (?_))))))))))
    exact ⟨_,oM,(k+1),(a5 :: a9),oM,(hr0_1.trans (FL oM (by ((repeat ((refine (if_neg ?_).trans ?_;solve|(simp only [NC];omega))));rfl)))),rfl,⟨_,AZ _ ⟨rfl,rfl,rfl,(by rfl),rfl,trivial⟩⟩,a6,a0⟩
   have e0:(l[k]!).epoch<(0:Int):=by simpa using b2
   refine CJ rfl (CJ rfl (CJ rfl (BV (AO (vO true) rfl rfl (EO (AF (AB (AL true rfl rfl (fun _=>AG (AC kR (AA (AD (vI 81) rfl (AF (AB (AM (BF (AK (AK (BF (AK (AT rfl (BY rfl rfl rfl) (?_)))))))))))))) (fun h=>by cases h)))))))))
   have e:(BP l)=(81:Int):=by (rw [hr0_1];exact CS oM (by ((repeat ((refine (if_pos ?_).trans ?_;solve|(simp only [NC];omega))));rfl)))
   exact ⟨_,rfl,a6.keep,by rw [e];exact rfl⟩
  have e1:(l[k]!).epoch≠(l[0]!).epoch:=by simpa using b1
  refine CJ rfl (CJ rfl (CJ rfl (BV (AO (vO true) rfl rfl (BV (AE (vO true) rfl (CJ rfl (CJ rfl (CJ rfl (BV (AO (vO true) rfl rfl (EO (AF (AB (AL true rfl rfl (fun _=>AG (AC kR (AA (AD (vI 81) rfl (AF (AB (AM (BF (AK (AK (BF (AK (AT rfl (BY rfl rfl rfl) (?_)))))))))))))) (fun h=>by cases h))))))))))))))))
  have e:(BP l)=(81:Int):=by (rw [hr0_1];exact CS oM (by ((repeat ((refine (if_pos ?_).trans ?_;solve|(simp only [NC];omega))));rfl)))
  exact ⟨_,rfl,a6.keep,by rw [e];exact rfl⟩
 have e2:(l.length:Int)≤((k:Nat):Int):=by simpa using a3
 refine DG (BS (BS (CT (AB (AG (AC kR (AA (AD (vI 0) rfl (AF (AB (AM (AT rfl (BY rfl rfl rfl) (?_)))))))))))))
 have e:(BP l)=(0:Int):=by (rw [hr0_1];exact GS oM)
 exact ⟨_,rfl,c1.keep,by rw [e];exact rfl⟩
set_option maxHeartbeats 4000000 in
set_option maxRecDepth 100000 in
theorem c_sameShare {O:List Nat} (sa_cs:List Value) (sa:Share) (sb_cs:List Value) (sb:Share) (w:World) (a4:Enc.share.rd w O sa_cs sa) (a2:Enc.share.rd w O sb_cs sb) (hO:∀ b∈O,b<w.heap.size):CA Tryz.prog 32 [.agg sa_cs.toArray, .agg sb_cs.toArray] w (fun v _=>v = .bool (EL sa sb)):= by
 have a4:Enc.share.rd w ([]++O) sa_cs sa:=a4
 have a2:Enc.share.rd w ([]++O) sb_cs sb:=a2
 have s0:St w O w []:=St.start hO
 refine BI 40 Tryz.func32 rfl rfl oT (fun F0=>AG (AC kR (AA (DU (E:=Enc.share) (vA sa_cs.toArray) (sa_cs) sa rfl rfl a4 s0 fun d3 c1 c2 c3 d4 a0=>(?_)))))
 have a2:Enc.share.rd c1 ([]++O) sb_cs (sb):=Enc.mv Enc.share (x:=sb) a2 c3
 refine AA (DU (E:=Enc.share) (vA sb_cs.toArray) (sb_cs) sb rfl rfl a2 c2 fun d5 d6 a3 c4 d7 a1=>(?_))
 have a0:=a0.mv c4
 refine AA (AD (vO false) rfl (AF (AB (AG (AC kR (AA (AX 0 GP (sa.epoch) rfl a0 (fun _ _ _ h=>FY h) fun d8 b1=>(AA (BL U3_ rfl rfl b1 (AA (AX 0 GP (sb.epoch) rfl a1 (fun _ _ _ h=>FY h) fun d9 b2=>(AA (BL U3_ rfl rfl b2 (AA (EH .i64 sa.epoch sb.epoch rfl rfl (AA (AE (vO (sa.epoch == sb.epoch)) rfl (?_))))))))))))))))))
 cases a5:(sa.epoch == sb.epoch)
 ·have c5:sa.epoch≠sb.epoch:=by simpa using a5
  refine AJ rfl (AJ rfl (AJ rfl (AJ rfl (AJ rfl (AA (BB (vO false) rfl rfl (AA (AE (vO false) rfl (AJ rfl (AJ rfl (AJ rfl (AJ rfl (AJ rfl (AA (BB (vO false) rfl rfl (AA (AE (vO false) rfl (AJ rfl (AJ rfl (AJ rfl (AJ rfl (AJ rfl (AA (BB (vO false) rfl rfl (AA (AE (vO false) rfl (AJ rfl (AJ rfl (AJ rfl (AJ rfl (AJ rfl (AJ rfl (AJ rfl (AA (BB (vO false) rfl rfl (AA (AD (vO false) rfl (AF (AB (AM (AT rfl (BY rfl rfl rfl) (?_))))))))))))))))))))))))))))))))))))))))))
  have e:(EL sa sb)=false:=by simp [EL, *]
  exact ⟨_,rfl,a3.keep,(by exact congrArg vO e.symm)⟩
 have c6:sa.epoch=sb.epoch:=by simpa using a5
 refine AV rfl (AX 1 LF (sa.index) rfl a0 (fun _ _ _ h=>IX h) fun e0 b3=>(AV rfl (BL U3_ rfl rfl b3 (AV rfl (AX 1 LF (sb.index) rfl a1 (fun _ _ _ h=>IX h) fun e1 b4=>(AV rfl (BL U3_ rfl rfl b4 (AV rfl (EH .i64 sa.index sb.index rfl rfl (AA (AO (vO (sa.index == sb.index)) rfl rfl (AA (AE (vO (sa.index == sb.index)) rfl (?_))))))))))))))
 cases a6:(sa.index == sb.index)
 ·have c7:sa.index≠sb.index:=by simpa using a6
  refine AJ rfl (AJ rfl (AJ rfl (AJ rfl (AJ rfl (AA (BB (vO false) rfl rfl (AA (AE (vO false) rfl (AJ rfl (AJ rfl (AJ rfl (AJ rfl (AJ rfl (AA (BB (vO false) rfl rfl (AA (AE (vO false) rfl (AJ rfl (AJ rfl (AJ rfl (AJ rfl (AJ rfl (AJ rfl (AJ rfl (AA (BB (vO false) rfl rfl (AA (AD (vO false) rfl (AF (AB (AM (AT rfl (BY rfl rfl rfl) (?_)))))))))))))))))))))))))))))))))
  have e:(EL sa sb)=false:=by simp [EL, *]
  exact ⟨_,rfl,a3.keep,(by exact congrArg vO e.symm)⟩
 have c8:sa.index=sb.index:=by simpa using a6
 refine AV rfl (AX 2 HT (sa.threshold) rfl a0 (fun _ _ _ h=>JA h) fun e2 b5=>(AV rfl (BL U3_ rfl rfl b5 (AV rfl (AX 2 HT (sb.threshold) rfl a1 (fun _ _ _ h=>JA h) fun e3 b6=>(AV rfl (BL U3_ rfl rfl b6 (AV rfl (EH .i64 sa.threshold sb.threshold rfl rfl (AA (AO (vO (sa.threshold == sb.threshold)) rfl rfl (AA (AE (vO (sa.threshold == sb.threshold)) rfl (?_))))))))))))))
 cases a7:(sa.threshold == sb.threshold)
 ·have c9:sa.threshold≠sb.threshold:=by simpa using a7
  refine AJ rfl (AJ rfl (AJ rfl (AJ rfl (AJ rfl (AA (BB (vO false) rfl rfl (AA (AE (vO false) rfl (AJ rfl (AJ rfl (AJ rfl (AJ rfl (AJ rfl (AJ rfl (AJ rfl (AA (BB (vO false) rfl rfl (AA (AD (vO false) rfl (AF (AB (AM (AT rfl (BY rfl rfl rfl) (?_))))))))))))))))))))))))
  have e:(EL sa sb)=false:=by simp [EL, *]
  exact ⟨_,rfl,a3.keep,(by exact congrArg vO e.symm)⟩
 have d0:sa.threshold=sb.threshold:=by simpa using a7
 refine AV rfl (AX 3 HD (sa.many) rfl a0 (fun _ _ _ h=>LI h) fun e4 b7=>(AV rfl (BL U3_ rfl rfl b7 (AV rfl (AX 3 HD (sb.many) rfl a1 (fun _ _ _ h=>LI h) fun e5 b8=>(AV rfl (BL U3_ rfl rfl b8 (AV rfl (EH .i64 sa.many sb.many rfl rfl (AA (AO (vO (sa.many == sb.many)) rfl rfl (AA (AE (vO (sa.many == sb.many)) rfl (?_))))))))))))))
 cases a8:(sa.many == sb.many)
 ·have d1:sa.many≠sb.many:=by simpa using a8
  refine AJ rfl (AJ rfl (AJ rfl (AJ rfl (AJ rfl (AJ rfl (AJ rfl (AA (BB (vO false) rfl rfl (AA (AD (vO false) rfl (AF (AB (AM (AT rfl (BY rfl rfl rfl) (?_)))))))))))))))
  have e:(EL sa sb)=false:=by simp [EL, *]
  exact ⟨_,rfl,a3.keep,(by exact congrArg vO e.symm)⟩
 have d2:sa.many=sb.many:=by simpa using a8
 refine AV rfl (AX 4 EU (sa.data) rfl a0 (fun _ _ _ h=>EX h) fun e6 b9=>(AV rfl (BN U26_ rfl rfl b9 fun e7 a9=>(?_))))
 have:=a9.len_le
 refine AV rfl (TZ U26_ U5_ U9_ rfl a9 (AV rfl (AX 4 EU (sb.data) rfl a1 (fun _ _ _ h=>EX h) fun e8 c0=>(AV rfl (BN U26_ rfl rfl c0 fun e9 b0=>(?_))))))
 have:=b0.len_le
 refine AV rfl (TZ U26_ U5_ U9_ rfl b0 (AV rfl (o_eqlS sa.data sb.data rfl rfl (AA (AO (vO (sa.data == sb.data)) rfl rfl (AA (AD (vO (sa.data == sb.data)) rfl (AF (AB (AM (AT rfl (BY rfl rfl rfl) (?_))))))))))))
 have e:(EL sa sb)=(sa.data == sb.data):=by simp [EL, *]
 exact ⟨_,rfl,a3.keep,(by exact congrArg vO e.symm)⟩
set_option maxHeartbeats 4000000 in
set_option maxRecDepth 100000 in
theorem c_same8 {O:List Nat} (la_v:Value) (la:List Share) (lb_v:Value) (lb:List Share) (w:World) (a0:BC Enc.share w O la_v la) (a1:BC Enc.share w O lb_v lb) (hO:∀ b∈O,b<w.heap.size):CA Tryz.prog 11 [la_v,lb_v] w (fun v _=>v = .bool (MY la lb)):= by
 have c0:=a0.len_le
 have a0:BC Enc.share w ([]++O) la_v la:=a0
 have c1:=a1.len_le
 have a1:BC Enc.share w ([]++O) lb_v lb:=a1
 have s0:St w O w []:=St.start hO
 refine BI 27 Tryz.func11 rfl rfl oT (fun F0=>AG (AC kR (AA (AD (vO false) rfl (AF (AB (AG (AG (AC kR (AA (AE (la_v) rfl (AA (BR U27_ rfl a0 (AA (AE (lb_v) rfl (AA (BR U27_ rfl a1 (AA (CO .i64 (la.length:Int) (lb.length:Int) rfl rfl (AF (AB (AL ((la.length:Int) != (lb.length:Int)) rfl rfl (fun a2=>?_) (fun a2=>?_)))))))))))))))))))))))
 ·have c3:(la.length:Int)≠(lb.length:Int):=by simpa using a2
  refine AG (AC kR (AA (AD (vO false) rfl (AF (AB (AM (AK (AT rfl (BY rfl rfl rfl) (?_)))))))))
  have e:(MY la lb)=false:=by (unfold MY;((repeat ((refine (if_pos ?_).trans ?_;omega)));rfl))
  exact ⟨_,rfl,s0.keep,(by exact congrArg vO e.symm)⟩
 have c4:(la.length:Int)=(lb.length:Int):=by simpa using a2
 refine AU (AB (AG (AG (AC kR (AA (AD (vI 0) rfl (AF (AB (BJ (DJ (fun mI FI wI=>∃ (k:Nat) (B:List Nat),k≤la.length∧MY la lb=FN (fun k=>if !EL la[k]! lb[k]! then some false else none) true k (la.length - k)∧mI=la.length - k∧(∃ F1,FI=GT F1 [(0,la_v),(1,lb_v),(5,vI ((k:Nat):Int)),(27,undef)])∧St w O wI B∧BC Enc.share wI (B++O) (la_v) (la)∧BC Enc.share wI (B++O) (lb_v) (lb)) (la.length - (0)) ?_ ?_))))))))))
 ·exact ⟨(0),[],oM,(by unfold MY;((repeat ((refine (if_neg ?_).trans ?_;solve|(simp only [dbs];omega))));rfl)),rfl,⟨_,AZ _ ⟨rfl,rfl,(by rfl),rfl,trivial⟩⟩,s0,a0,a1⟩
 intro d4 F c2 hI
 clear a0 a1
 obtain ⟨k,a5,hr0_0,hr0_1,d5,⟨d6,rfl⟩,b8,a0,a1⟩:=hI
 refine AG (AG (AC kR (AA (AE (vI ((k:Nat):Int)) rfl (AA (AE (la_v) rfl (AA (BR U27_ rfl a0 (AA (DW .i64 ((k:Nat):Int) (la.length:Int) rfl rfl (AF (AB (AL (decide (((k:Nat):Int)<(la.length:Int))) rfl rfl (fun a3=>?_) (fun a3=>?_))))))))))))))
 ·have c5:((k:Nat):Int)<(la.length:Int):=by simpa using a3
  refine AU (AB (AG (BJ (AG (FS 8 _ _ kR kR kR kR kR rfl rfl fun a8 a9=>?_)))))
  have b0:=b8.call a9
  have b1:Mv a5 c2 a5 a8:=Mv.of_keep a9
  have a0:=a0.mv b1
  have a1:=a1.mv b1
  refine BV (AE (la_v) rfl (BV (AE (vI ((k:Nat):Int)) rfl (BV (CZ U27_ DN .i64 ((k:Nat):Int) k rfl rfl rfl a0 oM fun c9 b4=>(BV (CL U49_ rfl DN rfl b4 fun a6 b5=>(BV (AE (lb_v) rfl (BV (AE (vI ((k:Nat):Int)) rfl (BV (CZ U27_ DN .i64 ((k:Nat):Int) k rfl rfl rfl a1 oM fun d0 b6=>(BV (CL U49_ rfl DN rfl b6 fun a7 b7=>(EO (AA (AY (vs:=[vA a6.toArray,vA a7.toArray]) enter_32 (c_sameShare (O:=a5++O) a6 (la[k]!) a7 (lb[k]!) a8 b5 b7 b0.lt) rfl b0 fun d1 d2 b2 b3 d3 b9=>(?_)))))))))))))))))))
  obtain rfl:=b9
  have a0:=a0.mv b3
  have a1:=a1.mv b3
  refine AA (ER (EL (la[k]!) (lb[k]!)) rfl (AF (AB (AL (!(EL (la[k]!) (lb[k]!))) rfl rfl (fun a4=>?_) (fun a4=>?_)))))
  ·have c6:(EL (la[k]!) (lb[k]!))=false:=by simpa using a4
   refine AG (AC kR (AA (AD (vO false) rfl (AF (AB (AM (BF (AK (AK (BF (AK (AT rfl (BY rfl rfl rfl) (?_)))))))))))))
   have e:(MY la lb)=false:=by (rw [hr0_1];exact CS oM (by ((repeat ((refine (if_pos ?_).trans ?_;omega)));rfl)))
   exact ⟨_,rfl,b2.keep,(by exact congrArg vO e.symm)⟩
  have c7:(EL (la[k]!) (lb[k]!))=true:=by simpa using a4
  refine AU (CD (AB (AC kR (AA (AE (vI ((k:Nat):Int)) rfl (AA (DM .i64 ((k:Nat):Int) (1:Int) (((k+1:Nat):Int)) rfl rfl (GG oM oM) (AA (AD (vI ((k+1:Nat):Int)) rfl (AF (AB (?_))))))))))))
  exact ⟨_,oM,(k+1),a5,oM,(hr0_1.trans (FL oM (by ((repeat ((refine (if_neg ?_).trans ?_;solve|(simp only [*,dbs];done))));rfl)))),rfl,⟨_,AZ _ ⟨rfl,rfl,(by rfl),rfl,trivial⟩⟩,b2,a0,a1⟩
 have c8:(la.length:Int)≤((k:Nat):Int):=by simpa using a3
 refine DG (BS (BS (CT (AB (AG (AC kR (AA (AD (vO true) rfl (AF (AB (AM (AT rfl (BY rfl rfl rfl) (?_)))))))))))))
 have e:(MY la lb)=true:=by (rw [hr0_1];exact GS oM)
 exact ⟨_,rfl,b8.keep,(by exact congrArg vO e.symm)⟩
open Go.Fw
def JC (secret coins:List UInt8) (threshold:Int) (i:Nat):List UInt8:=secret[i]! :: ((coins.take ((i+1)*(threshold - 1).toNat)).drop (i*(threshold - 1).toNat))
theorem polyB {i n m:Nat} {t:Int} (hi:i<n) (ht:1≤t) (h:(m:Int)=(n:Int)*(t - 1)):(i+1)*(t - 1).toNat≤m:=by
  obtain ⟨T,rfl⟩:∃ T:Nat,t=(T:Int)+1:=⟨(t - 1).toNat,by omega⟩
  have e:((T:Int)+1 - 1)=(T:Int):=by omega
  rw [e] at h ⊢
  have h2:m=n*T:=by exact_mod_cast h
  rw [h2]
  exact Nat.mul_le_mul_right _ hi
theorem polyL {n m:Nat} {t:Int} (hn:n≤1000) (ht:1≤t) (ht8:t≤8) (h:(m:Int)=(n:Int)*(t - 1)):m≤7000:=by
  obtain ⟨T,rfl⟩:∃ T:Nat,t=(T:Int)+1:=⟨(t - 1).toNat,by omega⟩
  have e:((T:Int)+1 - 1)=(T:Int):=by omega
  rw [e] at h
  have h2:m=n*T:=by exact_mod_cast h
  rw [h2]
  calc n*T≤1000*7:=Nat.mul_le_mul hn (by omega)
    _=7000:=rfl
def UV (secret coins:List UInt8) (threshold:Int):List (List UInt8):=(List.range secret.length).map fun i=>JC secret coins threshold i
def FJ (secret:List UInt8) (polys:List (List UInt8)) (epoch threshold many:Int) (k:Nat):Share:=⟨epoch,(k:Int)+1,threshold,many,(List.range secret.length).map fun i=>FB polys[i]! (EZ ((k:Int)+1))⟩
def MD (secret:List UInt8) (epoch threshold many:Int) (coins:List UInt8):List Share:=(List.range many.toNat).map fun k=>FJ secret (UV secret coins threshold) epoch threshold many k
def DI (secret:List UInt8) (epoch threshold many:Int) (coins:List UInt8):Int:=
  if 64<(secret.length:Int) then 1 else if (threshold<1∨many<threshold)∨8<many then 80 else if epoch<0∨1048576<epoch then 81 else if (coins.length:Int)≠(secret.length:Int)*(threshold - 1) then 1 else 0
def BW (secret:List UInt8) (epoch threshold many:Int) (coins:List UInt8):List Share × Int:=
  if DI secret epoch threshold many coins=0 then (MD secret epoch threshold many coins,0) else ([],DI secret epoch threshold many coins)
theorem splitM_ok {secret:List UInt8} {epoch threshold many:Int} {coins:List UInt8} {x:List Share} (h:DI secret epoch threshold many coins=0) (hx:MD secret epoch threshold many coins=x):BW secret epoch threshold many coins=(x,0):=by
  unfold BW;rw [if_pos h,hx]
theorem JO {secret:List UInt8} {epoch threshold many:Int} {coins:List UInt8} {e:Int} (h:DI secret epoch threshold many coins=e) (he:e≠0):BW secret epoch threshold many coins=([],e):=by
  unfold BW;rw [if_neg (by rw [h];exact he),h]
def RD (secret:List UInt8) (epoch threshold many:Int) (coins:List UInt8) (q:Nat):Share:=⟨epoch,(q:Int),threshold,many,tab secret.length fun p=>FR (JC secret coins threshold p) (EZ (q:Int))⟩
def FW (secret:List UInt8) (epoch threshold many:Int) (coins:List UInt8) (n:Nat):List Share:=(List.range n).map fun q=>RD secret epoch threshold many coins (q+1)
theorem QB (secret:List UInt8) (epoch threshold many:Int) (coins:List UInt8) (n:Nat):(FW secret epoch threshold many coins n).length=n:=by simp [FW]
theorem WH (secret:List UInt8) (epoch threshold many:Int) (coins:List UInt8) (n:Nat):FW secret epoch threshold many coins (n+1)=FW secret epoch threshold many coins n++[RD secret epoch threshold many coins (n+1)]:=by simp [FW,List.range_succ]
def BH (secret:List UInt8) (epoch threshold many:Int) (coins:List UInt8):List Share × Int:=
  if DI secret epoch threshold many coins=0 then (FW secret epoch threshold many coins many.toNat,0) else ([],DI secret epoch threshold many coins)
theorem refSplitM_ok {secret:List UInt8} {epoch threshold many:Int} {coins:List UInt8} {x:List Share} (h:DI secret epoch threshold many coins=0) (hx:FW secret epoch threshold many coins many.toNat=x):BH secret epoch threshold many coins=(x,0):=by
  unfold BH;rw [if_pos h,hx]
theorem HC {secret:List UInt8} {epoch threshold many:Int} {coins:List UInt8} {e:Int} (h:DI secret epoch threshold many coins=e) (he:e≠0):BH secret epoch threshold many coins=([],e):=by
  unfold BH;rw [if_neg (by rw [h];exact he),h]
theorem JZ {α:Type} [Inhabited α] (n:Nat) (f:Nat→α) (i:Nat) (h:i<n):((List.range n).map f)[i]! = f i:=by
  rw [getElem!_pos _ i (by simpa using h)];simp
theorem XO {secret coins:List UInt8} {threshold:Int} {i:Nat} (h:i<secret.length):(UV secret coins threshold)[i]! = JC secret coins threshold i:=JZ _ _ _ h
theorem WY (secret:List UInt8) (epoch threshold many:Int) (coins:List UInt8) (k:Nat):FJ secret (UV secret coins threshold) epoch threshold many k=RD secret epoch threshold many coins (k+1):=by
  unfold FJ RD
  congr 1
  unfold tab
  apply List.map_congr_left
  intro i hi
  rw [XO (by simpa using hi),refEval_eq];rfl
theorem KZ (secret:List UInt8) (epoch threshold many:Int) (coins:List UInt8):BH secret epoch threshold many coins=BW secret epoch threshold many coins:=by
  unfold BH BW
  split
  · congr 1
    unfold FW MD
    apply List.map_congr_left
    intro k _
    exact (WY _ _ _ _ _ _).symm
  · rfl
theorem OC (secret:List UInt8) (epoch threshold many:Int) (coins:List UInt8):DI secret epoch threshold many coins=0↔secret.length≤64∧1≤threshold∧threshold≤many∧many≤8∧0≤epoch∧epoch≤1048576∧(coins.length:Int)=(secret.length:Int)*(threshold - 1):=by
  unfold DI
  by_cases h1:64<(secret.length:Int)
  · rw [if_pos h1];omega
  rw [if_neg h1]
  by_cases h2:(threshold<1∨many<threshold)∨8<many
  · rw [if_pos h2];omega
  rw [if_neg h2]
  by_cases h3:epoch<0∨1048576<epoch
  · rw [if_pos h3];omega
  rw [if_neg h3]
  by_cases h4:(coins.length:Int)≠(secret.length:Int)*(threshold - 1)
  · rw [if_pos h4];exact ⟨fun h=>(by omega),fun h=>absurd h.2.2.2.2.2.2 h4⟩
  · rw [if_neg h4];exact ⟨fun _=>⟨by omega,by omega,by omega,by omega,by omega,by omega,Classical.not_not.1 h4⟩,fun _=>rfl⟩
def OL (l:List Share):List UInt8:=(List.range l.length).map fun i=>EZ l[i]!.index
def GH (l:List Share) (p:Nat):List UInt8:=(List.range l.length).map fun i=>l[i]!.data[p]!
theorem KC (l:List Share):(OL l).length=l.length:=by simp [OL]
theorem RM (l:List Share) (p:Nat):(GH l p).length=l.length:=by simp [GH]
def joinL (l:List Share):List UInt8:=(List.range l[0]!.data.length).map fun p=>(DP (OL l) (GH l p) 0).1
def DD (l:List Share):List UInt8 × Int:=if BP l≠0 then ([],BP l) else if (l.length:Int)<l[0]!.threshold then ([],80) else (joinL (l.take l[0]!.threshold.toNat),0)
theorem joinM_ok {l:List Share} {x:List UInt8} (h:BP l=0) (h2:l[0]!.threshold≤(l.length:Int)) (hx:joinL (l.take l[0]!.threshold.toNat)=x):DD l=(x,0):=by
  unfold DD;rw [if_neg (by omega),if_neg (by omega),hx]
theorem joinM_bad {l:List Share} {e:Int} (h:BP l≠0) (he:BP l=e):DD l=([],e):=by
  unfold DD;rw [if_pos h,he]
theorem XF {l:List Share} {e:Int} (h:BP l=0) (h2:(l.length:Int)<l[0]!.threshold) (he:(80:Int)=e):DD l=([],e):=by
  unfold DD;rw [if_neg (by omega),if_pos (by omega),he]
theorem take0 {α:Type} [Inhabited α] {l:List α} {n:Nat} (h:0<n):(l.take n)[0]! = l[0]!:=by
  rw [getElem!_def,List.getElem?_take,if_pos h,getElem!_def]
theorem takeS {α:Type} [Inhabited α] {l:List α} {n i:Nat} (h:i<n):(l.take n)[i]! = l[i]!:=by
  rw [getElem!_def,List.getElem?_take,if_pos h,getElem!_def]
def KN (l:List Share) (m:Nat):List UInt8:=0 :: OL l++(List.range m).map (fun i:Nat=>EZ (9+(i:Int)))
theorem MI (l:List Share) (m:Nat):(KN l m).length=1+l.length+m:=by simp [KN,KC];omega
def PX (l:List Share) (b:UInt8) (p m:Nat):List UInt8:=b :: GH l p++List.replicate m 0
theorem expY_len (l:List Share) (b:UInt8) (p m:Nat):(PX l b p m).length=1+l.length+m:=by simp [PX,RM];omega
def PW (l:List Share) (secret:List UInt8) (m:Nat):Nat→List UInt8
  | 0=>[]
  | p+1=>PW l secret m p++(FO (KN l m) (PX l secret[p]! p m)).1.drop 1
def BK (l:List Share) (secret:List UInt8):List UInt8 × Int:=
  if BP l≠0 then ([],BP l) else if l[0]!.threshold≤(l.length:Int) then ([],80) else if (secret.length:Int)≠(l[0]!.data.length:Int) then ([],1) else (PW l secret (l[0]!.threshold.toNat - 1 - l.length) secret.length,0)
open Go.Fw Go.RowKit
set_option maxHeartbeats 4000000 in
set_option maxRecDepth 100000 in
theorem c_polynomial {O:List Nat} (secret_v:Value) (secret:List UInt8) (coins_v:Value) (coins:List UInt8) (threshold:Int) (i:Nat) (w:World) (a0:BC Enc.u8 w O secret_v secret) (a1:BC Enc.u8 w O coins_v coins) (hpre0:1≤threshold) (hpre1:threshold≤8) (hpre2:i<secret.length) (hpre3:secret.length≤64) (hpre4:(coins.length:Int)=(secret.length:Int)*(threshold - 1)) (hO:∀ b∈O,b<w.heap.size):CA Tryz.prog 60 [secret_v,coins_v,vI threshold,vI (i:Int)] w (fun v w'=>∃ (x0:Value),v=x0∧BC Enc.u8 w' (O) x0 (JC secret coins threshold i)):= by
 have b8:=a0.len_le
 have a0:BC Enc.u8 w ([]++O) secret_v secret:=a0
 have d1:=a1.len_le
 have a1:BC Enc.u8 w ([]++O) coins_v coins:=a1
 have s0:St w O w []:=St.start hO
 have hpb:=polyB hpre2 hpre0 hpre4
 have hpl:=polyL oM hpre0 hpre1 hpre4
 refine BI 31 Tryz.func60 rfl rfl oT (fun F0=>AG (AC kR (AA (AD (nS) rfl (AF (AB (AG (AC kR (AA (AE (vI (i:Int)) rfl (AA (AE (vI threshold) rfl (AA (HF .i64 threshold (1:Int) ((((threshold - 1).toNat:Nat):Int)) rfl rfl (GG oM oM) (AA (XB .i64 (i:Int) (((threshold - 1).toNat:Nat):Int) (((i*(threshold - 1).toNat:Nat):Int)) rfl rfl (GG (mulbN oM oM) (by simp)) (AA (AE (vI (i:Int)) rfl (AA (DM .i64 (i:Int) (1:Int) (((i+1:Nat):Int)) rfl rfl (GG oM oM) (AA (AE (vI threshold) rfl (AA (HF .i64 threshold (1:Int) ((((threshold - 1).toNat:Nat):Int)) rfl rfl (GG oM oM) (AA (XB .i64 ((i+1:Nat):Int) (((threshold - 1).toNat:Nat):Int) ((((i+1)*(threshold - 1).toNat:Nat):Int)) rfl rfl (GG (mulbN oM oM) (by simp)) (AA (AD (vI ((i*(threshold - 1).toNat:Nat):Int)) rfl (AA (AD (vI (((i+1)*(threshold - 1).toNat:Nat):Int)) rfl (AF (AB (AG (cw_draw' 10 _ _ [fun (vT:Value) (_:World)=>BC Enc.u8 w ([]++O) vT (secret),CP (vI (i:Int)),fun (vT:Value) (_:World)=>∃ aT,vT = .pointer (some aT)∧PT Enc.u8 w ([]++O) (.pointer (some aT)) (secret[i]!),CP (vB (secret[i]!)),fun (vT:Value) (wT:World)=>∃ bT:Nat,vT.ownBlock=some bT∧w.heap.size≤bT∧bT<wT.heap.size∧EV Enc.u8 5 w.heap.size ((bT :: ([]))++O) wT vT ([secret[i]!]),fun (vT:Value) (_:World)=>BC Enc.u8 w ([]++O) vT (coins),CP (vI ((i*(threshold - 1).toNat:Nat):Int)),CP (vI (((i+1)*(threshold - 1).toNat:Nat):Int)),CP (vI (((i+1)*(threshold - 1).toNat:Nat):Int)),fun (vT:Value) (_:World)=>BC Enc.u8 w ([]++O) vT (((coins.take ((i+1)*(threshold - 1).toNat)).drop (i*(threshold - 1).toNat)))] kR kR kR kR rfl rfl ⟨fun _ _ _ h _=>h,kI,fun _ _ _ h _=>h,kI,fun _ _ _ ⟨b,e,h1,h2,h⟩ k=>⟨b,e,h1,Nat.lt_of_lt_of_le h2 k.size,h.mv (Mv.of_keep k) k (by simp)⟩,fun _ _ _ h _=>h,kI,kI,kI,fun _ _ _ h _=>h,trivial⟩ ⟨?_,?_,?_,?_,?_,?_,?_,?_,?_,?_,trivial⟩ ?_))))))))))))))))))))))))))))))))))
 ·intro F1 w1 k1 hf hd
  obtain ⟨F2,rfl⟩:=AI (F:=F1) [(0,secret_v)] ⟨hf 0 kR,trivial⟩
  exact AH rfl ((AE (secret_v) rfl (⟨(Keep.refl _ _),a0⟩)))
 ·intro F1 w1 k1 hf hd
  obtain ⟨F2,rfl⟩:=AI (F:=F1) [(3,vI (i:Int))] ⟨hf 3 kR,trivial⟩
  exact AH rfl ((AE (vI (i:Int)) rfl (⟨(Keep.refl _ _),rfl⟩)))
 ·intro F1 w1 k1 hf hd
  obtain ⟨d2,d3,a6⟩:∃ v,F1 20=v∧BC Enc.u8 w ([]++O) v (secret):=⟨_,rfl,hd 0 20 kR⟩
  have:=a6.len_le
  obtain ⟨F2,rfl⟩:=AI (F:=F1) [(20,d2),(21,vI (i:Int))] ⟨d3,hd 1 21 kR,trivial⟩
  exact AH rfl ((o_idxU U26_ JK .i64 (i:Int) i rfl rfl rfl a6 oM fun d4 b9=>(⟨(Keep.refl _ _),⟨d4,rfl,b9⟩⟩)))
 ·intro F1 w1 k1 hf hd
  have k0:=(Keep.drew [] w).trans k1
  obtain ⟨d5,d6,c0⟩:∃ aX_,F1 22 = .pointer (some aX_)∧PT Enc.u8 w ([]++O) (.pointer (some aX_)) (secret[i]!):=hd 2 22 kR
  obtain ⟨F2,rfl⟩:=AI (F:=F1) [(22,vP (some d5))] ⟨d6,trivial⟩
  exact AH rfl ((o_loadBU U5_ rfl rfl c0 k0 (⟨(Keep.refl _ _),rfl⟩)))
 ·intro F1 w1 k1 hf hd
  have k0:=(Keep.drew [] w).trans k1
  have s1:=s0.call k0
  obtain ⟨F2,rfl⟩:=AI (F:=F1) [(23,vB (secret[i]!))] ⟨hd 3 23 kR,trivial⟩
  refine AH rfl ((JP (E:=Enc.u8) (xs:=[.tmp 23]) U26_ JK z_5 (by decide) [vB (secret[i]!)] [[vB (secret[i]!)]] [secret[i]!] rfl rfl rfl (Parts.cons rfl rfl (Parts.nil _ _ _)) oT s1 fun f5 b1 f6 f7 a7 f8 f9 d7 a8=>(?_)))
  have c1:w.heap.size≤b1:=by have:=k0.size;omega
  have c2:=(a8.lt b1 a7).2
  exact ⟨d7,⟨_,a7,c1,c2,a8⟩⟩
 ·intro F1 w1 k1 hf hd
  obtain ⟨F2,rfl⟩:=AI (F:=F1) [(1,coins_v)] ⟨hf 1 kR,trivial⟩
  exact AH rfl ((AE (coins_v) rfl (⟨(Keep.refl _ _),a1⟩)))
 ·intro F1 w1 k1 hf hd
  obtain ⟨F2,rfl⟩:=AI (F:=F1) [(9,vI ((i*(threshold - 1).toNat:Nat):Int))] ⟨hf 9 kR,trivial⟩
  exact AH rfl ((AE (vI ((i*(threshold - 1).toNat:Nat):Int)) rfl (⟨(Keep.refl _ _),rfl⟩)))
 ·intro F1 w1 k1 hf hd
  obtain ⟨F2,rfl⟩:=AI (F:=F1) [(10,vI (((i+1)*(threshold - 1).toNat:Nat):Int))] ⟨hf 10 kR,trivial⟩
  exact AH rfl ((AE (vI (((i+1)*(threshold - 1).toNat:Nat):Int)) rfl (⟨(Keep.refl _ _),rfl⟩)))
 ·intro F1 w1 k1 hf hd
  obtain ⟨F2,rfl⟩:=AI (F:=F1) [(10,vI (((i+1)*(threshold - 1).toNat:Nat):Int))] ⟨hf 10 kR,trivial⟩
  exact AH rfl ((AE (vI (((i+1)*(threshold - 1).toNat:Nat):Int)) rfl (⟨(Keep.refl _ _),rfl⟩)))
 ·intro F1 w1 k1 hf hd
  obtain ⟨d8,d9,a9⟩:∃ v,F1 25=v∧BC Enc.u8 w ([]++O) v (coins):=⟨_,rfl,hd 5 25 kR⟩
  have:=a9.len_le
  obtain ⟨F2,rfl⟩:=AI (F:=F1) [(25,d8),(26,vI ((i*(threshold - 1).toNat:Nat):Int)),(27,vI (((i+1)*(threshold - 1).toNat:Nat):Int)),(28,vI (((i+1)*(threshold - 1).toNat:Nat):Int))] ⟨d9,hd 6 26 kR,hd 7 27 kR,hd 8 28 kR,trivial⟩
  refine AH rfl ((o_slice3RU U26_ JK (i*(threshold - 1).toNat) ((i+1)*(threshold - 1).toNat) ((i+1)*(threshold - 1).toNat) rfl (.inr ⟨.tmp 26, .i64,((i*(threshold - 1).toNat:Nat):Int),rfl,rfl,oM⟩) .i64 .i64 (((i+1)*(threshold - 1).toNat:Nat):Int) (((i+1)*(threshold - 1).toNat:Nat):Int) rfl oM rfl oM (Nat.mul_le_mul_right _ oM) (Nat.le_refl _) hpb a9 fun g0 c3=>(?_)))
  exact ⟨(Keep.refl _ _),c3⟩
 intro a3 b2 b3 a2 a5
 obtain ⟨e0,e1,c4⟩:∃ v,a3 20=v∧BC Enc.u8 w ([]++O) v (secret):=⟨_,rfl,a2 0 20 kR (by decide)⟩
 have:=c4.len_le
 obtain ⟨e2,e3,f2⟩:∃ aX_,a3 22 = .pointer (some aX_)∧PT Enc.u8 w ([]++O) (.pointer (some aX_)) (secret[i]!):=a2 2 22 kR (by decide)
 obtain ⟨e4,e5,c5⟩:∃ v,a3 25=v∧BC Enc.u8 w ([]++O) v (coins):=⟨_,rfl,a2 5 25 kR (by decide)⟩
 have:=c5.len_le
 obtain ⟨e6,e7,a4⟩:∃ v,a3 29=v∧BC Enc.u8 w ([]++O) v (((coins.take ((i+1)*(threshold - 1).toNat)).drop (i*(threshold - 1).toNat))):=⟨_,rfl,a2 9 29 kR (by decide)⟩
 have:=a4.len_le
 obtain ⟨b4,e8,b5,c6,b0,c7,c8⟩:∃ v,a3 24=v∧(fun (vT:Value) (wT:World)=>∃ bT:Nat,vT.ownBlock=some bT∧w.heap.size≤bT∧bT<wT.heap.size∧EV Enc.u8 5 w.heap.size ((bT :: ([]))++O) wT vT ([secret[i]!])) v b2:=⟨_,rfl,a2 4 24 kR (by decide)⟩
 have c9:∀ b,b4.ownBlock=some b→b∈(b5 :: []):=fun b hb=>by rw [c6] at hb;cases hb;simp
 have e9:=(s0.call b3).adopt (Nat.le_trans s0.keep.size b0) c7
 have f0:Mv ([]) w (b5 :: []) b2:=Mv.adopt b3 b0
 have a4:=a4.mv f0
 obtain ⟨F2,rfl⟩:=AI (F:=a3) [(8,nS),(31,undef),(20,e0),(22,vP (some e2)),(24,b4),(25,e4),(29,e6)] ⟨a5 8 kR,a5 31 kR,e1,e3,e8,e5,e7,trivial⟩
 clear a2 a5
 refine AA (DT (E:=Enc.u8) (l:=[secret[i]!]) (m:=((coins.take ((i+1)*(threshold - 1).toNat)).drop (i*(threshold - 1).toNat))) U26_ i_5 rfl (by decide) rfl rfl c8 a4 (fun _ hb=>.inl hb) c9 (by simp only [List.length_cons,List.length_nil,List.length_drop,List.length_take];omega) (by simp only [List.length_cons,List.length_nil,List.length_drop,List.length_take,maxLen];omega) e9 fun b6 g1 g2 f3 f4 f1 b7 g3 g4 d0=>(AA (AD (b6) rfl (AF (AB (AM (AT rfl (BY rfl rfl rfl) (?_))))))))
 have e:(JC secret coins threshold i)=(([secret[i]!])++((coins.take ((i+1)*(threshold - 1).toNat)).drop (i*(threshold - 1).toNat))):=rfl
 exact ⟨_,rfl,b7.keep,by rw [e];exact ⟨b6,rfl,d0.pub b7⟩⟩
set_option maxHeartbeats 4000000 in
set_option maxRecDepth 100000 in
theorem c_split1 {O:List Nat} (i:Nat) (secret_a:Addr) (secret:(List UInt8)) (coins_a:Addr) (coins:(List UInt8)) (threshold_a:Addr) (threshold:Int) (w:World) (a1:PT (Enc.slice Enc.u8) w O (.pointer (some secret_a)) secret) (a2:PT (Enc.slice Enc.u8) w O (.pointer (some coins_a)) coins) (a0:PT Enc.int w O (.pointer (some threshold_a)) threshold) (hpre0:1≤threshold) (hpre1:threshold≤8) (hpre2:i<secret.length) (hpre3:secret.length≤64) (hpre4:(coins.length:Int)=(secret.length:Int)*(threshold - 1)) (hO:∀ b∈O,b<w.heap.size):CA Tryz.prog 59 [vI (i:Int), .pointer (some secret_a), .pointer (some coins_a), .pointer (some threshold_a)] w (fun v w'=>∃ (x0:Value),v=x0∧BC Enc.u8 w' (O) x0 (JC secret coins threshold i)):= by
 have a1:PT (Enc.slice Enc.u8) w ([]++O) (.pointer (some secret_a)) secret:=a1
 have a2:PT (Enc.slice Enc.u8) w ([]++O) (.pointer (some coins_a)) coins:=a2
 have a0:PT Enc.int w ([]++O) (.pointer (some threshold_a)) threshold:=a0
 have s0:St w O w []:=St.start hO
 refine BI 11 Tryz.func59 rfl rfl oT (fun F0=>AG (AC kR (AA (AD (nS) rfl (AF (AB (AG (AC kR (AA (BN U26_ rfl rfl a1 fun a6 a3=>(?_)))))))))))
 have:=a3.len_le
 refine AA (BN U26_ rfl rfl a2 fun a7 a4=>(?_))
 have:=a4.len_le
 refine AA (BL U3_ rfl rfl a0 (AA (AE (vI (i:Int)) rfl (AA (AY (vs:=[a6,a7,vI threshold,vI (i:Int)]) enter_60 (c_polynomial (O:=[]++O) a6 secret a7 coins threshold i w a3 a4 oM oM oM oM oM s0.lt) rfl s0 fun a8 b1 a9 b2 b3 b0=>(?_))))))
 obtain ⟨_,rfl,a5⟩:=b0
 have:=a5.len_le
 refine AA (AD (a8) rfl (AF (AB (AM (AT rfl (BY rfl rfl rfl) (?_))))))
 exact ⟨_,rfl,a9.keep,⟨a8,rfl,a5.out⟩⟩
set_option maxHeartbeats 4000000 in
set_option maxRecDepth 100000 in
theorem c_collectL {O:List Nat} (n:Int) (f_v:Nat) (f_caps:List Value) (f:Nat→(List UInt8)) (w:World) (a7:∀ (vs_:Array Value) (w:World),(callFunc f_v vs_).run Tryz.prog w = .ok (.enter f_v vs_) w) (c0:∀ (w':World) (O':List Nat),Keep [] w w'→(∀ b∈O',b∈O∨w.heap.size≤b)→(∀ b∈O',b<w'.heap.size)→∀ (i:Nat),(i:Int)<n→CA Tryz.prog f_v ([vI (i:Int)]++f_caps) w' (fun v w2=>∃ (x0:Value),v=x0∧BC Enc.u8 w2 (O') x0 (f i))) (hpre0:n≤1000000) (hO:∀ b∈O,b<w.heap.size):CA Tryz.prog 58 [vI n, .func (.func f_v) #[] f_caps.toArray] w (fun v w'=>∃ (x0:Value),v=x0∧BC (Enc.slice Enc.u8) w' (O) x0 ((List.range (n).toNat).map f)):= by
 have s0:St w O w []:=St.start hO
 refine BI 18 Tryz.func58 rfl rfl oT (fun F0=>AG (AC kR (AA (AD (.slice none 0 0) rfl (AF (AB (AG (AG (AC kR (AA (AE (vI n) rfl (AA (AE (vI 0) rfl (AF (AB (BJ (DJ (fun mI FI wI=>∃ (k:Nat) (a0:Value) (B:List Nat),k≤n.toNat∧mI=n.toNat - k∧(∃ F1,FI=GT F1 [(1,vN (.func f_v) #[] f_caps.toArray),(4,a0),(6,vI n),(7,vI ((k:Nat):Int)),(18,undef)])∧St w O wI B∧EV (Enc.slice Enc.u8) 26 w.heap.size (B++O) wI a0 (((List.range k).map f))∧(∀ b,a0.ownBlock=some b→b∈B)) (n.toNat - (0)) ?_ ?_)))))))))))))))))
 ·exact ⟨(0),(.slice none 0 0),[],oM,rfl,⟨_,AZ _ ⟨rfl,rfl,rfl,(by rfl),rfl,trivial⟩⟩,s0,(by rw [show ((List.range (0)).map f)=[] from rfl];exact (EV.nil (Enc.slice Enc.u8) 26 _ _ _)),(by intro b hb;simp [Value.ownBlock] at hb)⟩
 intro d3 F c1 hI
 obtain ⟨k,a0,c2,hr0_0,d4,⟨d5,rfl⟩,a1,ho0_4,a8⟩:=hI
 refine AG (AC kR (AA (DW .i64 ((k:Nat):Int) n rfl rfl (AF (AB (AG (AL (decide (((k:Nat):Int)<n)) rfl rfl (fun a2=>?_) (fun a2=>?_))))))))
 ·have c4:((k:Nat):Int)<n:=by simpa using a2
  refine AU (AB (AG (BJ (AG (AC kR (AA (AE (vI ((k:Nat):Int)) rfl (AA (AD (vI ((k:Nat):Int)) rfl (AF (AB (AC kR (AA (AE (a0) rfl (AA (AE (vN (.func f_v) #[] f_caps.toArray) rfl (AA (AE (vI ((k:Nat):Int)) rfl (AA (RL [] f_caps [vI ((k:Nat):Int)] a7 rfl (c0 c1 (c2++O) a1.keep (fun b hb=>(List.mem_append.1 hb).elim (fun h=>.inr (a1.new b h).1) .inl) a1.lt k  oM) rfl rfl a1 fun a5 c7 b1 b2 b3 b4=>(?_)))))))))))))))))))))
  obtain ⟨_,rfl,a3⟩:=b4
  have:=a3.len_le
  have ho0_4:=ho0_4.mv b2 b3 (by simp)
  refine AA (JQ (E:=(Enc.slice Enc.u8)) (xs:=[.tmp 13]) U81_ s_26 z_26 (by decide) [a5] [[a5]] [f k] rfl rfl rfl (Parts.cons (GN a3.oneCell) ⟨_,rfl,a3⟩ (Parts.nil _ _ _)) oT b1 fun c8 c9 b5 b6 b7 a4=>(?_))
  have ho0_4:=ho0_4.mv b6 b7 (by simp)
  have:=a4.len_le
  refine AA (DT (E:=(Enc.slice Enc.u8)) (l:=((List.range k).map f)) (m:=[f k]) U81_ i_26 rfl (by decide) rfl rfl ho0_4 a4 (fun _ hb=>.inl hb) a8 (by simp;omega) (by simp [maxLen];omega) b5 fun a6 d0 b8 a9 c5 c3 b9 d1 d2 b0=>(AA (AD (a6) rfl (AF (CD (AB (AC kR (AA (DM .i64 ((k:Nat):Int) (1:Int) (((k+1:Nat):Int)) rfl rfl (GG oM oM) (AA (AE (vI ((k+1:Nat):Int)) rfl (AF (AB (?_))))))))))))))
  exact ⟨_,oM,(k+1),a6,b8,oM,rfl,⟨_,AZ _ ⟨rfl,rfl,rfl,(by rfl),rfl,trivial⟩⟩,b9,(by rw [show ((List.range (k+1)).map f)=((List.range k).map f)++([f k]) from by simp [List.range_succ]];exact b0),a9⟩
 have c6:n≤((k:Nat):Int):=by simpa using a2
 obtain rfl:k=n.toNat:=by omega
 refine DG (BS (BS (CT (AB (AG (AC kR (AA (AE (a0) rfl (AA (AD (a0) rfl (AF (AB (AM (AT rfl (BY rfl rfl rfl) (?_)))))))))))))))
 have e:((List.range (n).toNat).map f)=((List.range n.toNat).map f):=rfl
 exact ⟨_,rfl,a1.keep,by rw [e];exact ⟨a0,rfl,ho0_4.pub a1⟩⟩
set_option maxHeartbeats 4000000 in
set_option maxRecDepth 100000 in
theorem QK {O:List Nat} (n:Int) (f_v:Nat) (f_caps:List Value) (f:Nat→Share) (w:World) (a6:∀ (vs_:Array Value) (w:World),(callFunc f_v vs_).run Tryz.prog w = .ok (.enter f_v vs_) w) (c0:∀ (w':World) (O':List Nat),Keep [] w w'→(∀ b∈O',b∈O∨w.heap.size≤b)→(∀ b∈O',b<w'.heap.size)→∀ (i:Nat),(i:Int)<n→CA Tryz.prog f_v ([vI (i:Int)]++f_caps) w' (fun v w2=>∃ (x0:List Value),v = .agg x0.toArray∧Enc.share.rd w2 (O') x0 (f i))) (hpre0:n≤1000000) (hO:∀ b∈O,b<w.heap.size):CA Tryz.prog 61 [vI n, .func (.func f_v) #[] f_caps.toArray] w (fun v w'=>∃ (x0:Value),v=x0∧BC Enc.share w' (O) x0 ((List.range (n).toNat).map f)):= by
 have s0:St w O w []:=St.start hO
 refine BI 18 Tryz.func61 rfl rfl oT (fun F0=>AG (AC kR (AA (AD (.slice none 0 0) rfl (AF (AB (AG (AG (AC kR (AA (AE (vI n) rfl (AA (AE (vI 0) rfl (AF (AB (BJ (DJ (fun mI FI wI=>∃ (k:Nat) (a0:Value) (B:List Nat),k≤n.toNat∧mI=n.toNat - k∧(∃ F1,FI=GT F1 [(1,vN (.func f_v) #[] f_caps.toArray),(4,a0),(6,vI n),(7,vI ((k:Nat):Int)),(18,undef)])∧St w O wI B∧EV Enc.share 49 w.heap.size (B++O) wI a0 (((List.range k).map f))∧(∀ b,a0.ownBlock=some b→b∈B)) (n.toNat - (0)) ?_ ?_)))))))))))))))))
 ·exact ⟨(0),(.slice none 0 0),[],oM,rfl,⟨_,AZ _ ⟨rfl,rfl,rfl,(by rfl),rfl,trivial⟩⟩,s0,(by rw [show ((List.range (0)).map f)=[] from rfl];exact (EV.nil Enc.share 49 _ _ _)),(by intro b hb;simp [Value.ownBlock] at hb)⟩
 intro d4 F c1 hI
 obtain ⟨k,a0,c2,hr0_0,d5,⟨d6,rfl⟩,a1,ho0_4,a7⟩:=hI
 refine AG (AC kR (AA (DW .i64 ((k:Nat):Int) n rfl rfl (AF (AB (AG (AL (decide (((k:Nat):Int)<n)) rfl rfl (fun a2=>?_) (fun a2=>?_))))))))
 ·have c4:((k:Nat):Int)<n:=by simpa using a2
  refine AU (AB (AG (BJ (AG (AC kR (AA (AE (vI ((k:Nat):Int)) rfl (AA (AD (vI ((k:Nat):Int)) rfl (AF (AB (AC kR (AA (AE (a0) rfl (AA (AE (vN (.func f_v) #[] f_caps.toArray) rfl (AA (AE (vI ((k:Nat):Int)) rfl (AA (RL [] f_caps [vI ((k:Nat):Int)] a6 rfl (c0 c1 (c2++O) a1.keep (fun b hb=>(List.mem_append.1 hb).elim (fun h=>.inr (a1.new b h).1) .inl) a1.lt k  oM) rfl rfl a1 fun c7 c8 b1 b2 b3 b4=>(?_)))))))))))))))))))))
  obtain ⟨a3,rfl,a8⟩:=b4
  have ho0_4:=ho0_4.mv b2 b3 (by simp)
  refine AA (JQ (E:=Enc.share) (xs:=[.tmp 13]) U27_ DN MJ (by decide) [vA a3.toArray] [a3] [f k] rfl rfl rfl (Parts.cons rfl a8 (Parts.nil _ _ _)) oT b1 fun c9 d0 b5 b6 b7 a4=>(?_))
  have ho0_4:=ho0_4.mv b6 b7 (by simp)
  have:=a4.len_le
  refine AA (DT (E:=Enc.share) (l:=((List.range k).map f)) (m:=[f k]) U27_ i_49 rfl (by decide) rfl rfl ho0_4 a4 (fun _ hb=>.inl hb) a7 (by simp;omega) (by simp [maxLen];omega) b5 fun a5 d1 b8 a9 c5 c3 b9 d2 d3 b0=>(AA (AD (a5) rfl (AF (CD (AB (AC kR (AA (DM .i64 ((k:Nat):Int) (1:Int) (((k+1:Nat):Int)) rfl rfl (GG oM oM) (AA (AE (vI ((k+1:Nat):Int)) rfl (AF (AB (?_))))))))))))))
  exact ⟨_,oM,(k+1),a5,b8,oM,rfl,⟨_,AZ _ ⟨rfl,rfl,rfl,(by rfl),rfl,trivial⟩⟩,b9,(by rw [show ((List.range (k+1)).map f)=((List.range k).map f)++([f k]) from by simp [List.range_succ]];exact b0),a9⟩
 have c6:n≤((k:Nat):Int):=by simpa using a2
 obtain rfl:k=n.toNat:=by omega
 refine DG (BS (BS (CT (AB (AG (AC kR (AA (AE (a0) rfl (AA (AD (a0) rfl (AF (AB (AM (AT rfl (BY rfl rfl rfl) (?_)))))))))))))))
 have e:((List.range (n).toNat).map f)=((List.range n.toNat).map f):=rfl
 exact ⟨_,rfl,a1.keep,by rw [e];exact ⟨a0,rfl,ho0_4.pub a1⟩⟩
set_option maxHeartbeats 4000000 in
set_option maxRecDepth 100000 in
theorem LY {O:List Nat} (n:Int) (f_v:Nat) (f_caps:List Value) (f:Nat→UInt8) (w:World) (a7:∀ (vs_:Array Value) (w:World),(callFunc f_v vs_).run Tryz.prog w = .ok (.enter f_v vs_) w) (b9:∀ (w':World) (O':List Nat),Keep [] w w'→(∀ b∈O',b∈O∨w.heap.size≤b)→(∀ b∈O',b<w'.heap.size)→∀ (i:Nat),(i:Int)<n→CA Tryz.prog f_v ([vI (i:Int)]++f_caps) w' (fun v w2=>v=vB (f i))) (hpre0:n≤1000000) (hO:∀ b∈O,b<w.heap.size):CA Tryz.prog 63 [vI n, .func (.func f_v) #[] f_caps.toArray] w (fun v w'=>∃ (x0:Value),v=x0∧BC Enc.u8 w' (O) x0 ((List.range (n).toNat).map f)):= by
 have s0:St w O w []:=St.start hO
 refine BI 18 Tryz.func63 rfl rfl oT (fun F0=>AG (AC kR (AA (AD (.slice none 0 0) rfl (AF (AB (AG (AG (AC kR (AA (AE (vI n) rfl (AA (AE (vI 0) rfl (AF (AB (BJ (DJ (fun mI FI wI=>∃ (k:Nat) (a0:Value) (B:List Nat),k≤n.toNat∧mI=n.toNat - k∧(∃ F1,FI=GT F1 [(1,vN (.func f_v) #[] f_caps.toArray),(4,a0),(6,vI n),(7,vI ((k:Nat):Int)),(18,undef)])∧St w O wI B∧EV Enc.u8 5 w.heap.size (B++O) wI a0 (((List.range k).map f))∧(∀ b,a0.ownBlock=some b→b∈B)) (n.toNat - (0)) ?_ ?_)))))))))))))))))
 ·exact ⟨(0),(.slice none 0 0),[],oM,rfl,⟨_,AZ _ ⟨rfl,rfl,rfl,(by rfl),rfl,trivial⟩⟩,s0,(by rw [show ((List.range (0)).map f)=[] from rfl];exact (EV.nil Enc.u8 5 _ _ _)),(by intro b hb;simp [Value.ownBlock] at hb)⟩
 intro d2 F c0 hI
 obtain ⟨k,a0,c1,hr0_0,d3,⟨d4,rfl⟩,a1,ho0_4,a8⟩:=hI
 refine AG (AC kR (AA (DW .i64 ((k:Nat):Int) n rfl rfl (AF (AB (AG (AL (decide (((k:Nat):Int)<n)) rfl rfl (fun a2=>?_) (fun a2=>?_))))))))
 ·have c4:((k:Nat):Int)<n:=by simpa using a2
  refine AU (AB (AG (BJ (AG (AC kR (AA (AE (vI ((k:Nat):Int)) rfl (AA (AD (vI ((k:Nat):Int)) rfl (AF (AB (AC kR (AA (AE (a0) rfl (AA (AE (vN (.func f_v) #[] f_caps.toArray) rfl (AA (AE (vI ((k:Nat):Int)) rfl (AA (RL [] f_caps [vI ((k:Nat):Int)] a7 rfl (b9 c0 (c1++O) a1.keep (fun b hb=>(List.mem_append.1 hb).elim (fun h=>.inr (a1.new b h).1) .inl) a1.lt k  oM) rfl rfl a1 fun d1 c5 a9 b0 b1 b2=>(?_)))))))))))))))))))))
  obtain rfl:=b2
  have ho0_4:=ho0_4.mv b0 b1 (by simp)
  refine AA (JQ (E:=Enc.u8) (xs:=[.tmp 13]) U26_ JK z_5 (by decide) [vB (f k)] [[vB (f k)]] [f k] rfl rfl rfl (Parts.cons rfl rfl (Parts.nil _ _ _)) oT a9 fun c6 c7 b3 b4 b5 a3=>(?_))
  have ho0_4:=ho0_4.mv b4 b5 (by simp)
  have:=a3.len_le
  refine AA (DT (E:=Enc.u8) (l:=((List.range k).map f)) (m:=[f k]) U26_ i_5 rfl (by decide) rfl rfl ho0_4 a3 (fun _ hb=>.inl hb) a8 (by simp;omega) (by simp [maxLen];omega) b3 fun a4 c8 b6 a5 c2 b8 b7 c9 d0 a6=>(AA (AD (a4) rfl (AF (CD (AB (AC kR (AA (DM .i64 ((k:Nat):Int) (1:Int) (((k+1:Nat):Int)) rfl rfl (GG oM oM) (AA (AE (vI ((k+1:Nat):Int)) rfl (AF (AB (?_))))))))))))))
  exact ⟨_,oM,(k+1),a4,b6,oM,rfl,⟨_,AZ _ ⟨rfl,rfl,rfl,(by rfl),rfl,trivial⟩⟩,b7,(by rw [show ((List.range (k+1)).map f)=((List.range k).map f)++([f k]) from by simp [List.range_succ]];exact a6),a5⟩
 have c3:n≤((k:Nat):Int):=by simpa using a2
 obtain rfl:k=n.toNat:=by omega
 refine DG (BS (BS (CT (AB (AG (AC kR (AA (AE (a0) rfl (AA (AD (a0) rfl (AF (AB (AM (AT rfl (BY rfl rfl rfl) (?_)))))))))))))))
 have e:((List.range (n).toNat).map f)=((List.range n.toNat).map f):=rfl
 exact ⟨_,rfl,a1.keep,by rw [e];exact ⟨a0,rfl,ho0_4.pub a1⟩⟩
set_option maxHeartbeats 4000000 in
set_option maxRecDepth 100000 in
theorem c_split21 {O:List Nat} (i:Nat) (polys_a:Addr) (polys:(List (List UInt8))) (k_a:Addr) (k:Int) (w:World) (a0:PT (Enc.slice (Enc.slice Enc.u8)) w O (.pointer (some polys_a)) polys) (a1:PT Enc.int w O (.pointer (some k_a)) k) (hpre0:i<polys.length) (hpre1:0≤k) (hpre2:k<1000) (hO:∀ b∈O,b<w.heap.size):CA Tryz.prog 64 [vI (i:Int), .pointer (some polys_a), .pointer (some k_a)] w (fun v _=>v=vB (FB polys[i]! (EZ (k+1)))):= by
 have a0:PT (Enc.slice (Enc.slice Enc.u8)) w ([]++O) (.pointer (some polys_a)) polys:=a0
 have a1:PT Enc.int w ([]++O) (.pointer (some k_a)) k:=a1
 have s0:St w O w []:=St.start hO
 refine BI 13 Tryz.func64 rfl rfl oT (fun F0=>AG (AC kR (AA (AD (vB (0:UInt8)) rfl (AF (AB (AG (FS 7 _ _ kR kR kR kR kR rfl rfl fun a4 a5=>?_))))))))
 have a6:=s0.call a5
 have a7:Mv ([]) w ([]) a4:=Mv.of_keep a5
 have a0:=a0.mv a7
 have a1:=a1.mv a7
 refine BV (BN U81_ rfl rfl a0 fun b2 a2=>(?_))
 have:=a2.len_le
 refine BV (AE (vI (i:Int)) rfl (BV (CZ U81_ s_26 .i64 (i:Int) i rfl rfl rfl a2 oM fun b3 a9=>(BV (BN U26_ rfl rfl a9 fun a8 a3=>(?_))))))
 have:=a3.len_le
 refine BV (BL U3_ rfl rfl a1 (BV (DM .i64 k (1:Int) (k+(1:Int)) rfl rfl (GG oM oM) (BV (VM .i64 U3_ U5_ (k+(1:Int)) rfl (EO (AA (AY (vs:=[a8,vB (EZ (k+(1:Int)))]) VO (c_eval (O:=[]++O) a8 (polys[i]!) (EZ (k+(1:Int))) a4 a3 a6.lt) rfl a6 fun b4 b5 b0 b6 b7 b1=>(?_)))))))))
 obtain rfl:=b1
 refine AA (AD (vB (FB (polys[i]!) (EZ (k+(1:Int))))) rfl (AF (AB (AM (AT rfl (BY rfl rfl rfl) (?_))))))
 have e:(FB polys[i]! (EZ (k+1)))=(FB (polys[i]!) (EZ (k+(1:Int)))):=rfl
 exact ⟨_,rfl,b0.keep,by rw [e];exact rfl⟩
set_option maxHeartbeats 4000000 in
set_option maxRecDepth 100000 in
theorem c_split2 {O:List Nat} (k:Nat) (secret_a:Addr) (secret:(List UInt8)) (polys_a:Addr) (polys:(List (List UInt8))) (epoch_a:Addr) (epoch:Int) (threshold_a:Addr) (threshold:Int) (many_a:Addr) (many:Int) (w:World) (a2:PT (Enc.slice Enc.u8) w O (.pointer (some secret_a)) secret) (a4:PT (Enc.slice (Enc.slice Enc.u8)) w O (.pointer (some polys_a)) polys) (a1:PT Enc.int w O (.pointer (some epoch_a)) epoch) (a0:PT Enc.int w O (.pointer (some threshold_a)) threshold) (a3:PT Enc.int w O (.pointer (some many_a)) many) (hpre0:polys.length=secret.length) (hpre1:(k:Int)<many) (hpre2:many≤8) (hpre3:secret.length≤64) (hO:∀ b∈O,b<w.heap.size):CA Tryz.prog 62 [vI (k:Int), .pointer (some secret_a), .pointer (some polys_a), .pointer (some epoch_a), .pointer (some threshold_a), .pointer (some many_a)] w (fun v w'=>∃ (x0:List Value),v = .agg x0.toArray∧Enc.share.rd w' (O) x0 (FJ secret polys epoch threshold many k)):= by
 have a2:PT (Enc.slice Enc.u8) w ([]++O) (.pointer (some secret_a)) secret:=a2
 have a4:PT (Enc.slice (Enc.slice Enc.u8)) w ([]++O) (.pointer (some polys_a)) polys:=a4
 have a1:PT Enc.int w ([]++O) (.pointer (some epoch_a)) epoch:=a1
 have a0:PT Enc.int w ([]++O) (.pointer (some threshold_a)) threshold:=a0
 have a3:PT Enc.int w ([]++O) (.pointer (some many_a)) many:=a3
 have s0:St w O w []:=St.start hO
 refine BI 20 Tryz.func62 rfl rfl oT (fun F0=>AG (AC kR (AA (DU (E:=Enc.int) (vI (k:Int)) ([vI (k:Int)]) (k:Int) rfl rfl rfl s0 fun b0 c5 b7 a9 c6 a6=>(?_)))))
 have a2:=a2.mv a9
 have a4:=a4.mv a9
 have a1:=a1.mv a9
 have a0:=a0.mv a9
 have a3:=a3.mv a9
 refine AA (DB [vI 0,vI 0,vI 0,vI 0,nS] MJ rfl b7 fun b4 b8 b9 b5 a8 c7 b2=>(?_))
 clear b9
 have a2:=a2.mv a8
 have a4:=a4.mv a8
 have a1:=a1.mv a8
 have a0:=a0.mv a8
 have a3:=a3.mv a8
 have a6:=a6.mv a8
 refine AF (AB (AG (AC kR (AA (BN U26_ rfl rfl a2 fun c8 b3=>(?_))))))
 have:=b3.len_le
 refine AA (BR U26_ rfl b3 (AA (DR (first:=[]) (captured:=[.tmp 2, .tmp 6]) [] [vP (some polys_a),vP (some b0)] rfl rfl (AA (AY (vs:=[vI (secret.length:Int),vN (.func 64) #[] #[vP (some polys_a),vP (some b0)]]) OU (LY (O:=(b4 :: [])++O) (secret.length:Int) 64 [vP (some polys_a),vP (some b0)] (fun i_=>FB polys[i_]! (EZ ((k:Int)+1))) b8 enter_64 (fun w'_ O'_ kk_ hs_ hl_ i_  hc_=>c_split21 (O:=O'_) i_ polys_a polys b0 (k:Int) w'_ (a4.on hs_ kk_) (a6.on hs_ kk_) oM oM oM hl_) oM b5.lt) rfl b5 fun a5 c9 c0 b1 c1 c2=>(?_))))))
 obtain ⟨_,rfl,a7⟩:=c2
 have:=a7.len_le
 have a1:=a1.mv b1
 have a0:=a0.mv b1
 have a3:=a3.mv b1
 have a6:=a6.mv b1
 have b2:=b2.keep c1 (by simp)
 refine AA (AD (a5) rfl (AF (AB (AG (AC kR (AA (BL U3_ rfl rfl a1 (AA (BL U3_ rfl rfl a6 (AA (DM .i64 (k:Int) (1:Int) ((k:Int)+(1:Int)) rfl rfl (GG oM oM) (AA (BL U3_ rfl rfl a0 (AA (BL U3_ rfl rfl a3 (AA (AE (a5) rfl (AA (EJ (l:=[(0, .tmp 13),(1, .tmp 15),(2, .tmp 16),(3, .tmp 17),(4, .tmp 18)]) pl_49 MJ rfl [(0,vI epoch,[vI epoch]),(1,vI ((k:Int)+(1:Int)),[vI ((k:Int)+(1:Int))]),(2,vI threshold,[vI threshold]),(3,vI many,[vI many]),(4,a5,[a5])] [vI epoch,vI ((k:Int)+(1:Int)),vI threshold,vI many,a5] rfl ⟨_,rfl,rfl,oT,⟨_,rfl,rfl,oT,⟨_,rfl,rfl,oT,⟨_,rfl,rfl,oT,⟨_,rfl,(GN a7.oneCell),oT,rfl⟩⟩⟩⟩⟩ (BZ (BE (vs:=[vI epoch,vI ((k:Int)+(1:Int)),vI threshold,vI many,a5]) (.agg #[vI epoch,vI ((k:Int)+(1:Int)),vI threshold,vI many,a5]) rfl rfl rfl DN (fun u hu=>by simp only [List.mem_cons,List.not_mem_nil,or_false] at hu;rcases hu with rfl|rfl|rfl|rfl|rfl <;> first|rfl|exact a7.oneCell) (by repeat (constructor)) b2 oT c0 fun d0 c3 c4 d1 b6=>(?_))))))))))))))))))))))
 have a7:=a7.mv c4
 refine AF (AB (AM (AT rfl (rescA (vs:=[vI epoch,vI ((k:Int)+(1:Int)),vI threshold,vI many,a5]) rfl rfl U49_ rfl DN rfl b6 rfl) (?_))))
 have e:(FJ secret polys epoch threshold many k)=(⟨epoch,(k:Int)+(1:Int),threshold,many,(List.range ((secret.length:Int)).toNat).map (fun i_=>FB polys[i_]! (EZ ((k:Int)+1)))⟩:Share):=rfl
 exact ⟨_,rfl,c3.keep,by rw [e];exact ⟨[vI epoch,vI ((k:Int)+(1:Int)),vI threshold,vI many,a5],rfl,Enc.out (B:=(b4 :: [])) ⟨_,rfl,a7⟩⟩⟩
set_option maxHeartbeats 4000000 in
set_option maxRecDepth 100000 in
theorem c_split {O:List Nat} (secret_v:Value) (secret:List UInt8) (epoch:Int) (threshold:Int) (many:Int) (coins_v:Value) (coins:List UInt8) (w:World) (a6:BC Enc.u8 w O secret_v secret) (a3:BC Enc.u8 w O coins_v coins) (hO:∀ b∈O,b<w.heap.size):CA Tryz.prog 25 [secret_v,vI epoch,vI threshold,vI many,coins_v] w (fun v w'=>∃ (x0:Value),v = .tuple #[x0,vI ((BW secret epoch threshold many coins).2)]∧BC Enc.share w' (O) x0 ((BW secret epoch threshold many coins).1)):= by
 have e0:=a6.len_le
 have a6:BC Enc.u8 w ([]++O) secret_v secret:=a6
 have f7:=a3.len_le
 have a3:BC Enc.u8 w ([]++O) coins_v coins:=a3
 have s0:St w O w []:=St.start hO
 refine BI 53 Tryz.func25 rfl rfl oT (fun F0=>AG (AC kR (AA (DU (E:=(Enc.slice Enc.u8)) (secret_v) ([secret_v]) secret rfl (GN a6.oneCell) ⟨_,rfl,a6⟩ s0 fun a8 h3 e1 e2 h4 a0=>(?_)))))
 have a3:=a3.mv e2
 refine AA (DU (E:=Enc.int) (vI epoch) ([vI epoch]) epoch rfl rfl rfl e1 fun b2 h5 e3 d5 h6 a1=>(?_))
 have a3:=a3.mv d5
 have a0:=a0.mv d5
 refine AA (DU (E:=Enc.int) (vI threshold) ([vI threshold]) threshold rfl rfl rfl e3 fun a9 h7 e4 c5 h8 a2=>(?_))
 have a3:=a3.mv c5
 have a0:=a0.mv c5
 have a1:=a1.mv c5
 refine AA (DU (E:=Enc.int) (vI many) ([vI many]) many rfl rfl rfl e4 fun b3 h9 e5 b4 i0 a4=>(?_))
 have a3:=a3.mv b4
 have a0:=a0.mv b4
 have a1:=a1.mv b4
 have a2:=a2.mv b4
 refine AA (DU (E:=(Enc.slice Enc.u8)) (coins_v) ([coins_v]) coins rfl (GN a3.oneCell) ⟨_,rfl,a3⟩ e5 fun b5 e6 a5 b6 i1 c6=>(?_))
 have a0:=a0.mv b6
 have a1:=a1.mv b6
 have a2:=a2.mv b6
 have a4:=a4.mv b6
 refine AA (AD (nS) rfl (AA (AD (vI 0) rfl (AF (AB (AG (BJ (AG (AC kR (AA (BN U26_ rfl rfl a0 fun i2 c7=>(?_))))))))))))
 have:=c7.len_le
 refine AA (BR U26_ rfl c7 (AA (FP .i64 (secret.length:Int) (64:Int) rfl rfl (AA (AD (vO (decide ((64:Int)<(secret.length:Int)))) rfl (AF (AB (AL (decide ((64:Int)<(secret.length:Int))) rfl rfl (fun c1=>?_) (fun c1=>?_)))))))))
 ·have f8:(64:Int)<(secret.length:Int):=by simpa using c1
  refine AG (AC kR (AA (AD (nS) rfl (AA (AD (vI 1) rfl (AF (AB (AM (BF (AK (AT rfl (FA rfl rfl rfl rfl) (?_))))))))))))
  have e:(BW secret epoch threshold many coins)=([],(1:Int)):=by exact JO (by unfold DI;((repeat ((refine (if_pos ?_).trans ?_;omega)));rfl)) (by decide)
  exact ⟨_,rfl,a5.keep,by rw [e];exact ⟨.slice none 0 0,rfl,BC.nil _ _ _⟩⟩
 have f9:(secret.length:Int)≤(64:Int):=by simpa using c1
 refine AG (AC kR (AA (BL U3_ rfl rfl a2 (AA (DW .i64 threshold (1:Int) rfl rfl (AA (AE (vO (decide (threshold<(1:Int)))) rfl (?_))))))))
 cases c8:(decide (threshold<(1:Int)))
 ·have g0:(1:Int)≤threshold:=by simpa using c8
  refine AV rfl (BL U3_ rfl rfl a2 (AV rfl (BL U3_ rfl rfl a4 (AV rfl (FP .i64 threshold many rfl rfl (AA (BB (vO (decide (many<threshold))) rfl rfl (AA (AE (vO (decide (many<threshold))) rfl (?_))))))))))
  cases c9:(decide (many<threshold))
  ·have g1:threshold≤many:=by simpa using c9
   refine AV rfl (BL U3_ rfl rfl a4 (AV rfl (FP .i64 many (8:Int) rfl rfl (AA (BB (vO (decide ((8:Int)<many))) rfl rfl (AA (AD (vO (decide ((8:Int)<many))) rfl (AF (AB (AL (decide ((8:Int)<many)) rfl rfl (fun c2=>?_) (fun c2=>?_)))))))))))
   ·have g2:(8:Int)<many:=by simpa using c2
    refine AG (AC kR (AA (AD (nS) rfl (AA (AD (vI 80) rfl (AF (AB (AM (BF (AK (AT rfl (FA rfl rfl rfl rfl) (?_))))))))))))
    have e:(BW secret epoch threshold many coins)=([],(80:Int)):=by exact JO (by unfold DI;((repeat (first|(refine (if_pos ?_).trans ?_;omega)|(refine (if_neg ?_).trans ?_;omega)));rfl)) (by decide)
    exact ⟨_,rfl,a5.keep,by rw [e];exact ⟨.slice none 0 0,rfl,BC.nil _ _ _⟩⟩
   have g3:many≤(8:Int):=by simpa using c2
   refine AG (AC kR (AA (BL U3_ rfl rfl a1 (AA (DW .i64 epoch (0:Int) rfl rfl (AA (AE (vO (decide (epoch<(0:Int)))) rfl (?_))))))))
   cases d0:(decide (epoch<(0:Int)))
   ·have g4:(0:Int)≤epoch:=by simpa using d0
    refine AV rfl (BL U3_ rfl rfl a1 (AV rfl (FP .i64 epoch (1048576:Int) rfl rfl (AA (BB (vO (decide ((1048576:Int)<epoch))) rfl rfl (AA (AD (vO (decide ((1048576:Int)<epoch))) rfl (AF (AB (AL (decide ((1048576:Int)<epoch)) rfl rfl (fun c3=>?_) (fun c3=>?_)))))))))))
    ·have g5:(1048576:Int)<epoch:=by simpa using c3
     refine AG (AC kR (AA (AD (nS) rfl (AA (AD (vI 81) rfl (AF (AB (AM (BF (AK (AT rfl (FA rfl rfl rfl rfl) (?_))))))))))))
     have e:(BW secret epoch threshold many coins)=([],(81:Int)):=by exact JO (by unfold DI;((repeat (first|(refine (if_pos ?_).trans ?_;omega)|(refine (if_neg ?_).trans ?_;omega)));rfl)) (by decide)
     exact ⟨_,rfl,a5.keep,by rw [e];exact ⟨.slice none 0 0,rfl,BC.nil _ _ _⟩⟩
    have g6:epoch≤(1048576:Int):=by simpa using c3
    refine AG (AC kR (AA (BN U26_ rfl rfl c6 fun i3 d1=>(?_))))
    have:=d1.len_le
    refine AA (BR U26_ rfl d1 (AA (BN U26_ rfl rfl a0 fun i4 d2=>(?_))))
    have:=d2.len_le
    refine AA (BR U26_ rfl d2 (AA (BL U3_ rfl rfl a2 (AA (HF .i64 threshold (1:Int) (threshold - (1:Int)) rfl rfl (GG oM oM) (AA (XB .i64 (secret.length:Int) (threshold - (1:Int)) ((secret.length:Int)*(threshold - (1:Int))) rfl rfl (GG (mulb oM oM oM oM) rfl) (AA (CO .i64 (coins.length:Int) ((secret.length:Int)*(threshold - (1:Int))) rfl rfl (AA (AD (vO ((coins.length:Int) != ((secret.length:Int)*(threshold - (1:Int))))) rfl (AF (AB (AL ((coins.length:Int) != ((secret.length:Int)*(threshold - (1:Int)))) rfl rfl (fun c4=>?_) (fun c4=>?_)))))))))))))))
    ·have g7:(coins.length:Int)≠(secret.length:Int)*(threshold - (1:Int)):=by simpa using c4
     refine AG (AC kR (AA (AD (nS) rfl (AA (AD (vI 1) rfl (AF (AB (AM (BF (AK (AT rfl (FA rfl rfl rfl rfl) (?_))))))))))))
     have e:(BW secret epoch threshold many coins)=([],(1:Int)):=by exact JO (by unfold DI;((repeat (first|(refine (if_pos ?_).trans ?_;omega)|(refine (if_neg ?_).trans ?_;omega)));rfl)) (by decide)
     exact ⟨_,rfl,a5.keep,by rw [e];exact ⟨.slice none 0 0,rfl,BC.nil _ _ _⟩⟩
    have g8:(coins.length:Int)=(secret.length:Int)*(threshold - (1:Int)):=by simpa using c4
    refine AU (CD (AB (AG (AC kR (AA (BN U26_ rfl rfl a0 fun i5 d3=>(?_)))))))
    have:=d3.len_le
    refine AA (BR U26_ rfl d3 (AA (DR (first:=[]) (captured:=[.tmp 5, .tmp 9, .tmp 7]) [] [vP (some a8),vP (some b5),vP (some a9)] rfl rfl (AA (AY (vs:=[vI (secret.length:Int),vN (.func 59) #[] #[vP (some a8),vP (some b5),vP (some a9)]]) enter_58 (c_collectL (O:=[]++O) (secret.length:Int) 59 [vP (some a8),vP (some b5),vP (some a9)] (fun i_=>JC secret coins threshold i_) e6 enter_59 (fun w'_ O'_ kk_ hs_ hl_ i_  hc_=>c_split1 (O:=O'_) i_ a8 secret b5 coins a9 threshold w'_ (a0.on hs_ kk_) (c6.on hs_ kk_) (a2.on hs_ kk_) oM oM oM oM oM hl_) oM a5.lt) rfl a5 fun e7 i6 e8 b7 i7 e9=>(?_))))))
    obtain ⟨_,rfl,a7⟩:=e9
    have:=a7.len_le
    have a0:=a0.mv b7
    have a1:=a1.mv b7
    have a2:=a2.mv b7
    have a4:=a4.mv b7
    refine AA (DB [nS] z_81 rfl e8 fun b8 i8 f0 f1 b0 i9 d7=>(?_))
    clear f0
    have a0:=a0.mv b0
    have a1:=a1.mv b0
    have a2:=a2.mv b0
    have a4:=a4.mv b0
    have a7:=a7.mv b0
    refine BZ (CG (e7) rfl rfl a7.oneCell s_81 (by repeat (constructor)) d7 oT f1 fun f2 f3 b1 j0 d8=>(?_))
    have a0:=a0.mv b1
    have a1:=a1.mv b1
    have a2:=a2.mv b1
    have a4:=a4.mv b1
    have a7:=a7.mv b1
    refine AF (AB (AG (AC kR (AA (BL U3_ rfl rfl a4 (?_))))))
    obtain ⟨f4,d6,b9,d9,g9⟩:=d8.publish (E:=(Enc.slice (Enc.slice Enc.u8))) (u:=(List.range ((secret.length:Int)).toNat).map (fun i_=>JC secret coins threshold i_)) ⟨_,rfl,a7⟩ f3 (by repeat (constructor))
    have a0:=a0.mv b9
    have a1:=a1.mv b9
    have a2:=a2.mv b9
    have a4:=a4.mv b9
    refine AA (DR (first:=[]) (captured:=[.tmp 5, .tmp 12, .tmp 6, .tmp 7, .tmp 8]) [] [vP (some a8),vP (some ⟨b8,0,none⟩),vP (some b2),vP (some a9),vP (some b3)] rfl rfl (AA (AY (vs:=[vI many,vN (.func 62) #[] #[vP (some a8),vP (some ⟨b8,0,none⟩),vP (some b2),vP (some a9),vP (some b3)]]) VX (QK (O:=f4++O) many 62 [vP (some a8),vP (some ⟨b8,0,none⟩),vP (some b2),vP (some a9),vP (some b3)] (fun i_=>FJ secret ((List.range ((secret.length:Int)).toNat).map (fun i_=>JC secret coins threshold i_)) epoch threshold many i_) f2 enter_62 (fun w'_ O'_ kk_ hs_ hl_ i_  hc_=>c_split2 (O:=O'_) i_ a8 secret (⟨b8,0,none⟩) ((List.range ((secret.length:Int)).toNat).map (fun i_=>JC secret coins threshold i_)) b2 epoch a9 threshold b3 many w'_ (a0.on hs_ kk_) (d9.on hs_ kk_) (a1.on hs_ kk_) (a2.on hs_ kk_) (a4.on hs_ kk_) (by simp) oM oM oM hl_) oM d6.lt) rfl d6 fun c0 j1 f5 j2 j3 f6=>(?_))))
    obtain ⟨_,rfl,d4⟩:=f6
    have:=d4.len_le
    refine AA (AD (c0) rfl (AF (AB (AG (AC kR (AA (AE (c0) rfl (AA (AD (c0) rfl (AA (AD (vI 0) rfl (AF (AB (AM (AT rfl (FA rfl rfl rfl rfl) (?_))))))))))))))))
    have e:(BW secret epoch threshold many coins)=((List.range (many).toNat).map (fun i_=>FJ secret ((List.range ((secret.length:Int)).toNat).map (fun i_=>JC secret coins threshold i_)) epoch threshold many i_),(0:Int)):=by exact splitM_ok (by unfold DI;((repeat ((refine (if_neg ?_).trans ?_;omega)));rfl)) rfl
    exact ⟨_,rfl,f5.keep,by rw [e];exact ⟨c0,rfl,d4.out⟩⟩
   have h0:epoch<(0:Int):=by simpa using d0
   refine AJ rfl (AJ rfl (AA (AO (vO true) rfl rfl (AA (AD (vO true) rfl (AF (AB (AL true rfl rfl (fun _=>AG (AC kR (AA (AD (nS) rfl (AA (AD (vI 81) rfl (AF (AB (AM (BF (AK (AT rfl (FA rfl rfl rfl rfl) (?_))))))))))))) (fun h=>by cases h)))))))))
   have e:(BW secret epoch threshold many coins)=([],(81:Int)):=by exact JO (by unfold DI;((repeat (first|(refine (if_pos ?_).trans ?_;omega)|(refine (if_neg ?_).trans ?_;omega)));rfl)) (by decide)
   exact ⟨_,rfl,a5.keep,by rw [e];exact ⟨.slice none 0 0,rfl,BC.nil _ _ _⟩⟩
  have h1:many<threshold:=by simpa using c9
  refine AJ rfl (AJ rfl (AA (AO (vO true) rfl rfl (AA (AD (vO true) rfl (AF (AB (AL true rfl rfl (fun _=>AG (AC kR (AA (AD (nS) rfl (AA (AD (vI 80) rfl (AF (AB (AM (BF (AK (AT rfl (FA rfl rfl rfl rfl) (?_))))))))))))) (fun h=>by cases h)))))))))
  have e:(BW secret epoch threshold many coins)=([],(80:Int)):=by exact JO (by unfold DI;((repeat (first|(refine (if_pos ?_).trans ?_;omega)|(refine (if_neg ?_).trans ?_;omega)));rfl)) (by decide)
  exact ⟨_,rfl,a5.keep,by rw [e];exact ⟨.slice none 0 0,rfl,BC.nil _ _ _⟩⟩
 have h2:threshold<(1:Int):=by simpa using c8
 refine AJ rfl (AJ rfl (AJ rfl (AA (AO (vO true) rfl rfl (AA (AE (vO true) rfl (AJ rfl (AJ rfl (AA (AO (vO true) rfl rfl (AA (AD (vO true) rfl (AF (AB (AL true rfl rfl (fun _=>AG (AC kR (AA (AD (nS) rfl (AA (AD (vI 80) rfl (AF (AB (AM (BF (AK (AT rfl (FA rfl rfl rfl rfl) (?_))))))))))))) (fun h=>by cases h))))))))))))))))
 have e:(BW secret epoch threshold many coins)=([],(80:Int)):=by exact JO (by unfold DI;((repeat (first|(refine (if_pos ?_).trans ?_;omega)|(refine (if_neg ?_).trans ?_;omega)));rfl)) (by decide)
 exact ⟨_,rfl,a5.keep,by rw [e];exact ⟨.slice none 0 0,rfl,BC.nil _ _ _⟩⟩
open Go.Fw Go.RowKit
set_option maxHeartbeats 4000000 in
set_option maxRecDepth 100000 in
theorem c_indices1 {O:List Nat} (i:Nat) (l_a:Addr) (l:(List Share)) (w:World) (a1:PT (Enc.slice Enc.share) w O (.pointer (some l_a)) l) (hpre0:i<l.length) (hO:∀ b∈O,b<w.heap.size):CA Tryz.prog 97 [vI (i:Int), .pointer (some l_a)] w (fun v _=>v=vB (EZ l[i]!.index)):= by
 have a1:PT (Enc.slice Enc.share) w ([]++O) (.pointer (some l_a)) l:=a1
 have s0:St w O w []:=St.start hO
 refine BI 10 Tryz.func97 rfl rfl oT (fun F0=>AG (AC kR (AA (AD (vB (0:UInt8)) rfl (AF (AB (AG (AC kR (AA (BN U27_ rfl rfl a1 fun a4 a0=>(?_)))))))))))
 have:=a0.len_le
 refine AA (AE (vI (i:Int)) rfl (AA (CZ U27_ DN .i64 (i:Int) i rfl rfl rfl a0 oM fun a5 a2=>(AA (AX 1 LF ((l[i]!).index) rfl a2 (fun _ _ _ h=>IX h) fun a6 a3=>(AA (BL U3_ rfl rfl a3 (AA (VM .i64 U3_ U5_ ((l[i]!).index) rfl (AA (AD (vB (EZ ((l[i]!).index))) rfl (AF (AB (AM (AT rfl (BY rfl rfl rfl) (?_))))))))))))))))
 have e:(EZ l[i]!.index)=(EZ ((l[i]!).index)):=rfl
 exact ⟨_,rfl,s0.keep,by rw [e];exact rfl⟩
set_option maxHeartbeats 4000000 in
set_option maxRecDepth 100000 in
theorem XX {O:List Nat} (l_v:Value) (l:List Share) (w:World) (a1:BC Enc.share w O l_v l) (hpre0:l.length≤1000000) (hO:∀ b∈O,b<w.heap.size):CA Tryz.prog 76 [l_v] w (fun v w'=>∃ (x0:Value),v=x0∧BC Enc.u8 w' (O) x0 (OL l)):= by
 have b0:=a1.len_le
 have a1:BC Enc.share w ([]++O) l_v l:=a1
 have s0:St w O w []:=St.start hO
 refine BI 7 Tryz.func76 rfl rfl oT (fun F0=>AG (AC kR (AA (DU (E:=(Enc.slice Enc.share)) (l_v) ([l_v]) l rfl (GN a1.oneCell) ⟨_,rfl,a1⟩ s0 fun a0 a7 a5 b1 b2 a2=>(AA (AD (nS) rfl (AF (AB (AG (AC kR (AA (BN U27_ rfl rfl a2 fun b3 a3=>(?_)))))))))))))
 have:=a3.len_le
 refine AA (BR U27_ rfl a3 (AA (DR (first:=[]) (captured:=[.tmp 1]) [] [vP (some a0)] rfl rfl (AA (AY (vs:=[vI (l.length:Int),vN (.func 97) #[] #[vP (some a0)]]) OU (LY (O:=[]++O) (l.length:Int) 97 [vP (some a0)] (fun i_=>EZ l[i_]!.index) a7 enter_97 (fun w'_ O'_ kk_ hs_ hl_ i_  hc_=>c_indices1 (O:=O'_) i_ a0 l w'_ (a2.on hs_ kk_) oM hl_) oM a5.lt) rfl a5 fun a6 b4 a8 b5 b6 a9=>(?_))))))
 obtain ⟨_,rfl,a4⟩:=a9
 have:=a4.len_le
 refine AA (AD (a6) rfl (AF (AB (AM (AT rfl (BY rfl rfl rfl) (?_))))))
 have e:(OL l)=((List.range ((l.length:Int)).toNat).map (fun i_=>EZ l[i_]!.index)):=rfl
 exact ⟨_,rfl,a8.keep,by rw [e];exact ⟨a6,rfl,a4.out⟩⟩
set_option maxHeartbeats 4000000 in
set_option maxRecDepth 100000 in
theorem c_column1 {O:List Nat} (i:Nat) (l_a:Addr) (l:(List Share)) (place_a:Addr) (place:Int) (w:World) (a1:PT (Enc.slice Enc.share) w O (.pointer (some l_a)) l) (a0:PT Enc.int w O (.pointer (some place_a)) place) (hpre0:i<l.length) (hpre1:0≤place) (hpre2:(place).toNat<l[i]!.data.length) (hO:∀ b∈O,b<w.heap.size):CA Tryz.prog 98 [vI (i:Int), .pointer (some l_a), .pointer (some place_a)] w (fun v _=>v=vB (l[i]!.data[(place).toNat]!)):= by
 have a1:PT (Enc.slice Enc.share) w ([]++O) (.pointer (some l_a)) l:=a1
 have a0:PT Enc.int w ([]++O) (.pointer (some place_a)) place:=a0
 have s0:St w O w []:=St.start hO
 refine BI 13 Tryz.func98 rfl rfl oT (fun F0=>AG (AC kR (AA (AD (vB (0:UInt8)) rfl (AF (AB (AG (FS 9 _ _ kR kR kR kR kR rfl rfl fun a9 a4=>?_))))))))
 have b0:=s0.call a4
 have a5:Mv ([]) w ([]) a9:=Mv.of_keep a4
 have a1:=a1.mv a5
 have a0:=a0.mv a5
 refine BV (BN U27_ rfl rfl a1 fun b1 a2=>(?_))
 have:=a2.len_le
 refine BV (AE (vI (i:Int)) rfl (BV (CZ U27_ DN .i64 (i:Int) i rfl rfl rfl a2 oM fun b2 a6=>(BV (AX 4 EU ((l[i]!).data) rfl a6 (fun _ _ _ h=>EX h) fun b3 a7=>(BV (BN U26_ rfl rfl a7 fun b4 a3=>(?_))))))))
 have:=a3.len_le
 refine BV (BL U3_ rfl rfl a0 (BV (CZ U26_ JK .i64 place place.toNat rfl rfl oM a3 oM fun b5 a8=>(BV (HP U5_ rfl rfl a8 (BV (AD (vB (((l[i]!).data)[place.toNat]!)) rfl (EO (AF (AB (AM (AT rfl (BY rfl rfl rfl) (?_)))))))))))))
 have e:(l[i]!.data[(place).toNat]!)=(((l[i]!).data)[place.toNat]!):=rfl
 exact ⟨_,rfl,b0.keep,by rw [e];exact rfl⟩
set_option maxHeartbeats 4000000 in
set_option maxRecDepth 100000 in
theorem c_column {O:List Nat} (l_v:Value) (l:List Share) (place:Nat) (w:World) (a3:BC Enc.share w O l_v l) (hpre0:l.length≤1000000) (hpre1:∀ k,k<l.length→place<l[k]!.data.length) (hO:∀ b∈O,b<w.heap.size):CA Tryz.prog 79 [l_v,vI (place:Int)] w (fun v w'=>∃ (x0:Value),v=x0∧BC Enc.u8 w' (O) x0 (GH l place)):= by
 have b4:=a3.len_le
 have a3:BC Enc.share w ([]++O) l_v l:=a3
 have s0:St w O w []:=St.start hO
 refine BI 9 Tryz.func79 rfl rfl oT (fun F0=>AG (AC kR (AA (DU (E:=(Enc.slice Enc.share)) (l_v) ([l_v]) l rfl (GN a3.oneCell) ⟨_,rfl,a3⟩ s0 fun a1 b5 a9 b6 b7 a0=>(AA (DU (E:=Enc.int) (vI (place:Int)) ([vI (place:Int)]) (place:Int) rfl rfl rfl a9 fun a2 b0 a6 b1 b8 a8=>(?_)))))))
 have a0:=a0.mv b1
 refine AA (AD (nS) rfl (AF (AB (AG (AC kR (AA (BN U27_ rfl rfl a0 fun b9 a4=>(?_))))))))
 have:=a4.len_le
 refine AA (BR U27_ rfl a4 (AA (DR (first:=[]) (captured:=[.tmp 2, .tmp 3]) [] [vP (some a1),vP (some a2)] rfl rfl (AA (AY (vs:=[vI (l.length:Int),vN (.func 98) #[] #[vP (some a1),vP (some a2)]]) OU (LY (O:=[]++O) (l.length:Int) 98 [vP (some a1),vP (some a2)] (fun i_=>l[i_]!.data[((place:Int)).toNat]!) b0 enter_98 (fun w'_ O'_ kk_ hs_ hl_ i_  hc_=>c_column1 (O:=O'_) i_ a1 l a2 (place:Int) w'_ (a0.on hs_ kk_) (a8.on hs_ kk_) oM oM (hpre1 i_ oM) hl_) oM a6.lt) rfl a6 fun a7 c0 b2 c1 c2 b3=>(?_))))))
 obtain ⟨_,rfl,a5⟩:=b3
 have:=a5.len_le
 refine AA (AD (a7) rfl (AF (AB (AM (AT rfl (BY rfl rfl rfl) (?_))))))
 have e:(GH l place)=((List.range ((l.length:Int)).toNat).map (fun i_=>l[i_]!.data[((place:Int)).toNat]!)):=rfl
 exact ⟨_,rfl,b2.keep,by rw [e];exact ⟨a7,rfl,a5.out⟩⟩
set_option maxHeartbeats 4000000 in
set_option maxRecDepth 100000 in
theorem c_join1 {O:List Nat} (p:Nat) (xs_a:Addr) (xs:(List UInt8)) (l_a:Addr) (l:(List Share)) (w:World) (a0:PT (Enc.slice Enc.u8) w O (.pointer (some xs_a)) xs) (a5:PT (Enc.slice Enc.share) w O (.pointer (some l_a)) l) (hpre0:l.length≤1000) (hpre1:xs.length<1000) (hpre2:∀ k,k<l.length→p<l[k]!.data.length) (hO:∀ b∈O,b<w.heap.size):CA Tryz.prog 77 [vI (p:Int), .pointer (some xs_a), .pointer (some l_a)] w (fun v _=>v=vB ((DP xs (GH l p) 0).1)):= by
 have a0:PT (Enc.slice Enc.u8) w ([]++O) (.pointer (some xs_a)) xs:=a0
 have a5:PT (Enc.slice Enc.share) w ([]++O) (.pointer (some l_a)) l:=a5
 have s0:St w O w []:=St.start hO
 refine BI 16 Tryz.func77 rfl rfl oT (fun F0=>AG (AC kR (AA (AD (vB (0:UInt8)) rfl (AF (AB (AG (cw_draw' 9 _ _ [fun (vT:Value) (wT:World)=>BC Enc.u8 wT ([]++O) vT (xs),fun (vT:Value) (wT:World)=>BC Enc.share wT ([]++O) vT (l),CP (vI (p:Int)),fun (vT:Value) (wT:World)=>BC Enc.u8 wT ([]++O) vT (GH l p),CP (vT #[vB ((DP xs (GH l p) (0:UInt8)).1),vI ((DP xs (GH l p) (0:UInt8)).2)]),CP (vT #[vB ((DP xs (GH l p) (0:UInt8)).1),vI ((DP xs (GH l p) (0:UInt8)).2)]),CP (vB ((DP xs (GH l p) (0:UInt8)).1)),CP (vI ((DP xs (GH l p) (0:UInt8)).2)),CP (vB ((DP xs (GH l p) (0:UInt8)).1))] kR kR kR kR rfl rfl ⟨fun _ _ _ h k=>h.mv (Mv.of_keep k),fun _ _ _ h k=>h.mv (Mv.of_keep k),kI,fun _ _ _ h k=>h.mv (Mv.of_keep k),kI,kI,kI,kI,kI,trivial⟩ ⟨?_,?_,?_,?_,?_,?_,?_,?_,?_,trivial⟩ ?_))))))))
 ·intro F1 w1 k1 hf hd
  have k0:=(Keep.drew [] w).trans k1
  have m1:Mv ([]) w ([]) w1:=Mv.of_keep k0
  have a0:=a0.mv m1
  obtain ⟨F2,rfl⟩:=AI (F:=F1) [(1,vP (some xs_a))] ⟨hf 1 kR,trivial⟩
  refine AH rfl ((BN U26_ rfl rfl a0 fun c3 a6=>(?_)))
  have:=a6.len_le
  exact ⟨(Keep.refl _ _),a6⟩
 ·intro F1 w1 k1 hf hd
  have k0:=(Keep.drew [] w).trans k1
  have m1:Mv ([]) w ([]) w1:=Mv.of_keep k0
  have a5:=a5.mv m1
  obtain ⟨F2,rfl⟩:=AI (F:=F1) [(2,vP (some l_a))] ⟨hf 2 kR,trivial⟩
  refine AH rfl ((BN U27_ rfl rfl a5 fun c4 a7=>(?_)))
  have:=a7.len_le
  exact ⟨(Keep.refl _ _),a7⟩
 ·intro F1 w1 k1 hf hd
  obtain ⟨F2,rfl⟩:=AI (F:=F1) [(0,vI (p:Int))] ⟨hf 0 kR,trivial⟩
  exact AH rfl ((AE (vI (p:Int)) rfl (⟨(Keep.refl _ _),rfl⟩)))
 ·intro F1 w1 k1 hf hd
  have k0:=(Keep.drew [] w).trans k1
  have s1:=s0.call k0
  obtain ⟨a2,b3,a8⟩:∃ v,F1 9=v∧BC Enc.share w1 ([]++O) v (l):=⟨_,rfl,hd 1 9 kR⟩
  have:=a8.len_le
  obtain ⟨F2,rfl⟩:=AI (F:=F1) [(9,a2),(10,vI (p:Int))] ⟨b3,hd 2 10 kR,trivial⟩
  refine AH rfl ((AY (vs:=[a2,vI (p:Int)]) enter_79 (c_column (O:=[]++O) a2 l p w1 a8 oM hpre2 s1.lt) rfl s1 fun c5 c6 c7 c8 b4 b5=>(?_)))
  obtain ⟨_,rfl,a9⟩:=b5
  have:=a9.len_le
  exact ⟨b4,a9⟩
 ·intro F1 w1 k1 hf hd
  have k0:=(Keep.drew [] w).trans k1
  have s1:=s0.call k0
  obtain ⟨a3,b6,b0⟩:∃ v,F1 8=v∧BC Enc.u8 w1 ([]++O) v (xs):=⟨_,rfl,hd 0 8 kR⟩
  have:=b0.len_le
  obtain ⟨a4,b7,b1⟩:∃ v,F1 11=v∧BC Enc.u8 w1 ([]++O) v (GH l p):=⟨_,rfl,hd 3 11 kR⟩
  have:=b1.len_le
  obtain ⟨F2,rfl⟩:=AI (F:=F1) [(8,a3),(11,a4)] ⟨b6,b7,trivial⟩
  refine AH rfl ((AY (vs:=[a3,a4,vB (0:UInt8)]) enter_78 (c_through (O:=[]++O) a3 xs a4 (GH l p) (0:UInt8) w1 b0 b1 oM s1.lt) rfl s1 fun c9 d0 d1 d2 b8 b9=>(?_)))
  obtain rfl:=b9
  exact ⟨b8,rfl⟩
 ·intro F1 w1 k1 hf hd
  obtain ⟨F2,rfl⟩:=AI (F:=F1) [(12,vT #[vB ((DP xs (GH l p) (0:UInt8)).1),vI ((DP xs (GH l p) (0:UInt8)).2)])] ⟨hd 4 12 kR,trivial⟩
  exact AH rfl ((AE (vT #[vB ((DP xs (GH l p) (0:UInt8)).1),vI ((DP xs (GH l p) (0:UInt8)).2)]) rfl (⟨(Keep.refl _ _),rfl⟩)))
 ·intro F1 w1 k1 hf hd
  obtain ⟨F2,rfl⟩:=AI (F:=F1) [(7,vT #[vB ((DP xs (GH l p) (0:UInt8)).1),vI ((DP xs (GH l p) (0:UInt8)).2)])] ⟨hd 5 7 kR,trivial⟩
  exact AH rfl ((AQ (vB ((DP xs (GH l p) (0:UInt8)).1)) rfl rfl (⟨(Keep.refl _ _),rfl⟩)))
 ·intro F1 w1 k1 hf hd
  obtain ⟨F2,rfl⟩:=AI (F:=F1) [(7,vT #[vB ((DP xs (GH l p) (0:UInt8)).1),vI ((DP xs (GH l p) (0:UInt8)).2)])] ⟨hd 5 7 kR,trivial⟩
  exact AH rfl ((AQ (vI ((DP xs (GH l p) (0:UInt8)).2)) rfl rfl (⟨(Keep.refl _ _),rfl⟩)))
 ·intro F1 w1 k1 hf hd
  obtain ⟨F2,rfl⟩:=AI (F:=F1) [(13,vB ((DP xs (GH l p) (0:UInt8)).1))] ⟨hd 6 13 kR,trivial⟩
  exact AH rfl ((AD (vB ((DP xs (GH l p) (0:UInt8)).1)) rfl (⟨(Keep.refl _ _),rfl⟩)))
 intro c0 d3 c1 a1 b2
 have c2:=s0.call c1
 obtain ⟨F2,rfl⟩:=AI (F:=c0) [(16,undef),(5,vB ((DP xs (GH l p) (0:UInt8)).1)),(14,vI ((DP xs (GH l p) (0:UInt8)).2))] ⟨b2 16 kR,a1 8 5 kR (by decide),a1 7 14 kR (by decide),trivial⟩
 clear a1 b2
 refine AA (AD (vI ((DP xs (GH l p) (0:UInt8)).2)) rfl (AF (AB (AG (AC kR (AA (AE (vB ((DP xs (GH l p) (0:UInt8)).1)) rfl (AA (AD (vB ((DP xs (GH l p) (0:UInt8)).1)) rfl (AF (AB (AM (AT rfl (BY rfl rfl rfl) (?_))))))))))))))
 have e:((DP xs (GH l p) 0).1)=((DP xs (GH l p) (0:UInt8)).1):=rfl
 exact ⟨_,rfl,c2.keep,by rw [e];exact rfl⟩
set_option maxHeartbeats 4000000 in
set_option maxRecDepth 100000 in
theorem c_join {O:List Nat} (l_v:Value) (l:List Share) (w:World) (a5:BC Enc.share w O l_v l) (hO:∀ b∈O,b<w.heap.size):CA Tryz.prog 34 [l_v] w (fun v w'=>∃ (x0:Value),v = .tuple #[x0,vI ((DD l).2)]∧BC Enc.u8 w' (O) x0 ((DD l).1)):= by
 have g1:=a5.len_le
 have a5:BC Enc.share w ([]++O) l_v l:=a5
 have s0:St w O w []:=St.start hO
 refine BI 34 Tryz.func34 rfl rfl oT (fun F0=>AG (AC kR (AA (XN (l_v) [l_v] rfl (GN a5.oneCell) s0 fun a2 d0 d1 b6 d2 g2 a3=>(?_)))))
 clear d1
 have a5:=a5.mv d2
 refine AA (AD (nS) rfl (AA (AD (vI 0) rfl (AF (AB (AG (AG (AC kR (AA (AR U27_ rfl (l_v) rfl a3 rfl (AA (AY (vs:=[l_v]) NK (NI (O:=(a2 :: [])++O) l_v l d0 a5 b6.lt) rfl b6 fun g3 g4 b2 d3 d4 d5=>(?_)))))))))))))
 obtain rfl:=d5
 have a5:=a5.mv d3
 have a3:=a3.keep d4 (by simp)
 refine AA (AD (vI (BP l)) rfl (AF (AB (AG (AC kR (AA (AE (vI (BP l)) rfl (AA (CO .i64 (BP l) (0:Int) rfl rfl (AF (AB (AL ((BP l) != (0:Int)) rfl rfl (fun a9=>?_) (fun a9=>?_)))))))))))))
 ·have f7:BP l≠(0:Int):=by simpa using a9
  refine AG (AC kR (AA (AE (vI (BP l)) rfl (AA (AD (nS) rfl (AA (AD (vI (BP l)) rfl (AF (AB (AM (AK (AT rfl (FA rfl rfl rfl rfl) (?_)))))))))))))
  have e:(DD l)=([],BP l):=by exact joinM_bad oM rfl
  exact ⟨_,rfl,b2.keep,by rw [e];exact ⟨.slice none 0 0,rfl,BC.nil _ _ _⟩⟩
 have c1:BP l=(0:Int):=by simpa using a9
 have hv:=(FU l).1 c1
 have hpos:=hv.pos
 have ht1:=hv.t1
 have htm:=hv.tm
 have h7:=hv.m8
 have h6:=hv.d64
 refine AU (AB (AG (AC kR (AA (AR U27_ rfl (l_v) rfl a3 rfl (AA (CZ U27_ DN .i64 (0:Int) 0 rfl rfl rfl a5 oM fun g5 c2=>(AA (AX 2 HT ((l[0]!).threshold) rfl c2 (fun _ _ _ h=>JA h) fun g6 c3=>(AA (BL U3_ rfl rfl c3 (AA (AD (vI ((l[0]!).threshold)) rfl (AF (AB (AG (AG (AC kR (AA (AR U27_ rfl (l_v) rfl a3 rfl (AA (BR U27_ rfl a5 (AA (AE (vI ((l[0]!).threshold)) rfl (AA (DW .i64 (l.length:Int) ((l[0]!).threshold) rfl rfl (AF (AB (AL (decide ((l.length:Int)<(l[0]!).threshold)) rfl rfl (fun b0=>?_) (fun b0=>?_))))))))))))))))))))))))))))))
 ·have f8:(l.length:Int)<(l[0]!).threshold:=by simpa using b0
  refine AG (AC kR (AA (AD (nS) rfl (AA (AD (vI 80) rfl (AF (AB (AM (AK (AT rfl (FA rfl rfl rfl rfl) (?_)))))))))))
  have e:(DD l)=([],(80:Int)):=by exact XF oM oM rfl
  exact ⟨_,rfl,b2.keep,by rw [e];exact ⟨.slice none 0 0,rfl,BC.nil _ _ _⟩⟩
 have f9:(l[0]!).threshold≤(l.length:Int):=by simpa using b0
 have htk:(l.take (l[0]!.threshold).toNat).length=l[0]!.threshold.toNat:=by rw [List.length_take];omega
 refine AU (AB (AG (AC kR (AA (AR U27_ rfl (l_v) rfl a3 rfl (AA (AE (vI ((l[0]!).threshold)) rfl (AA (AE (vI ((l[0]!).threshold)) rfl (AA (o_slice3R U27_ DN 0 (((l[0]!).threshold).toNat) (((l[0]!).threshold).toNat) rfl (.inl ⟨rfl,rfl⟩) .i64 .i64 ((l[0]!).threshold) ((l[0]!).threshold) rfl oM rfl oM oM oM oM a5 fun a7 a0=>(?_))))))))))))
 rw [List.drop_zero] at a0
 refine BZ (CG (a7) rfl rfl a0.oneCell s_27 (by repeat (constructor)) a3 oT b2 fun d6 b7 d7 g7 a1=>(?_))
 have a0:=a0.mv d7
 refine AF (AB (AG (AC kR (AA (AR U27_ rfl (a7) rfl a1 rfl (AA (AY (vs:=[a7]) enter_76 (XX (O:=(a2 :: [])++O) a7 (l.take (((l[0]!).threshold).toNat)) d6 a0 oM b7.lt) rfl b7 fun d8 g8 d9 e0 e1 e2=>(?_))))))))
 obtain ⟨_,rfl,a4⟩:=e2
 have:=a4.len_le
 have a0:=a0.mv e0
 have a1:=a1.keep e1 (by simp)
 refine AA (DB [nS] z_26 rfl d9 fun a6 g9 e3 e4 b8 e5 c4=>(?_))
 have b3:GX a2 a6:=by show a2≠a6;have:=a1.lt;omega
 clear e3
 have a0:=a0.mv b8
 have a4:=a4.mv b8
 have a1:=a1.keep e5 (by simp)
 refine BZ (CG (d8) rfl rfl a4.oneCell s_26 (by repeat (constructor)) c4 oT e4 fun e6 e7 b9 e8 c5=>(?_))
 have a0:=a0.mv b9
 have a4:=a4.mv b9
 have a1:=a1.keep e8 (BD b3)
 refine AF (AB (AG (AC kR (AA (AR U27_ rfl (a7) rfl a1 rfl (AA (CZ U27_ DN .i64 (0:Int) 0 rfl rfl rfl a0 oM fun h0 c6=>(AA (AX 4 EU (((l.take (((l[0]!).threshold).toNat))[0]!).data) rfl c6 (fun _ _ _ h=>EX h) fun h1 c7=>(AA (BN U26_ rfl rfl c7 fun h2 b4=>(?_))))))))))))
 have:=b4.len_le
 refine AA (BR U26_ rfl b4 (?_))
 obtain ⟨e9,f0,f1,b1,c8⟩:=c5.publish (E:=(Enc.slice Enc.u8)) (u:=OL (l.take (((l[0]!).threshold).toNat))) ⟨_,rfl,a4⟩ e7 (by repeat (constructor))
 have f6:a2∈e9:=c8 a2 (by repeat (constructor)) b3
 have a0:=a0.mv f1
 have a1:=a1.keep (Keep.refl [] _) (by simp)
 obtain ⟨f2,c0,f3,c9,g0⟩:=a1.publish (E:=(Enc.slice Enc.share)) (u:=(l.take (((l[0]!).threshold).toNat))) ⟨_,rfl,a0⟩ f0 (by repeat (assumption))
 have b1:=b1.mv f3
 refine AA (DR (first:=[]) (captured:=[.tmp 6, .tmp 1]) [] [vP (some ⟨a6,0,none⟩),vP (some ⟨a2,0,none⟩)] rfl rfl (AA (AY (vs:=[vI ((((l.take (((l[0]!).threshold).toNat))[0]!).data).length:Int),vN (.func 77) #[] #[vP (some ⟨a6,0,none⟩),vP (some ⟨a2,0,none⟩)]]) OU (LY (O:=f2++O) ((((l.take (((l[0]!).threshold).toNat))[0]!).data).length:Int) 77 [vP (some ⟨a6,0,none⟩),vP (some ⟨a2,0,none⟩)] (fun i_=>(DP (OL (l.take (((l[0]!).threshold).toNat))) (GH (l.take (((l[0]!).threshold).toNat)) i_) 0).1) e6 enter_77 (fun w'_ O'_ kk_ hs_ hl_ i_  hc_=>c_join1 (O:=O'_) i_ (⟨a6,0,none⟩) (OL (l.take (((l[0]!).threshold).toNat))) (⟨a2,0,none⟩) (l.take (((l[0]!).threshold).toNat)) w'_ (b1.on hs_ kk_) (c9.on hs_ kk_) oM (by rw [KC];omega) (fun k hk=>by rw [takeS oM,hv.da k oM];rw [take0 oM] at hc_;omega) hl_) (by rw [take0 oM];omega) c0.lt) rfl c0 fun a8 h3 f4 h4 h5 f5=>(?_))))
 obtain ⟨_,rfl,b5⟩:=f5
 have:=b5.len_le
 refine AA (AD (a8) rfl (AF (AB (AG (AC kR (AA (AE (a8) rfl (AA (AD (a8) rfl (AA (AD (vI 0) rfl (AF (AB (AM (AT rfl (FA rfl rfl rfl rfl) (?_))))))))))))))))
 have e:(DD l)=((List.range (((((l.take (((l[0]!).threshold).toNat))[0]!).data).length:Int)).toNat).map (fun i_=>(DP (OL (l.take (((l[0]!).threshold).toNat))) (GH (l.take (((l[0]!).threshold).toNat)) i_) 0).1),(0:Int)):=by exact joinM_ok oM oM rfl
 exact ⟨_,rfl,f4.keep,by rw [e];exact ⟨a8,rfl,b5.out⟩⟩
end Go.Proofs.YtjgfokolnkhafaaGreat
