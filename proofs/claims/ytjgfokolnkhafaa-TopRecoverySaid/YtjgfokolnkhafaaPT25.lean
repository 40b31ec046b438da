/- What the laws of this part rest on: lemmas, and the walks of the functions. No conditions. -/
import Derived.WalkKit
import Derived.WalkSpells
import Derived.WalkLawsBesides
import Derived.RangeFuncLeaves
import Derived.Maps.AppendAt
import Derived.Deep.AppendLies
import Derived.Deep.Slices
import Derived.OpenShut
import Derived.ProofKit
import Derived.Below
import Derived.ChangeSame
import Derived.Carry
import Derived.RangeFuncRecord
import Derived.Laws.Tables
import Derived.Recover
import Derived.DefersIn
import Derived.Lib.AppendZerosOnto
import Derived.Lib.Overlaps
import Derived.Laws.CopyRow
import Derived.Laws.StructEq
import Derived.ChangeKeysEq
import Derived.OrdersIn
import Derived.Test.YtjgfokolnkhafaaRows
import Derived.Test.YtjgfokolnkhafaaPT24
set_option linter.unusedSimpArgs false
set_option linter.unusedVariables false
namespace Go.Proofs.Ytjgfokolnkhafaa
open Go.Fw Go.RowKit
set_option maxHeartbeats 4000000 in
set_option maxRecDepth 100000 in
theorem c_finish {O:List Nat} (c_cs:List Value) (c:Circle) (no:Int) (day:Int) (w:World) (o3:Enc.circle.rd w O c_cs c) (hO:∀ b∈O,b<w.heap.size):CM Try.prog 38 [.agg c_cs.toArray,vI no,vI day] w (fun v w'=>∃ (x0:List Value),v = .tuple #[.agg x0.toArray,vI ((AW c no (BC c day)).2)]∧Enc.circle.rd w' (O) x0 ((AW c no (BC c day)).1)):= by
 have o3:Enc.circle.rd w ([]++O) c_cs c:=o3
 have s0:St w O w []:=St.start hO
 refine BP 14 Try.func38 rfl rfl oT (fun F0=>AF (AB kR (AA (EC (E:=Enc.circle) (vA c_cs.toArray) (c_cs) c rfl rfl o3 s0 fun c2 E6 t5 E7 E8 a5=>(AA (EC (E:=Enc.int) (vI day) ([vI day]) day rfl rfl rfl t5 fun c3 E9 t6 t7 F1 b2=>(?_)))))))
 have a5:=a5.mv t7
 refine AA (CR [vI 0,vI 0,vI 0,nS,nS] IO rfl t6 fun b4 F2 t8 t9 l8 F3 a0=>(?_))
 clear t8
 have a5:=a5.mv l8
 have b2:=b2.mv l8
 refine AA (AE (vI 0) rfl (AG (AC (AF (AB kR (AA (CY U28_ rfl BJ rfl a5 fun h5 o4=>(AA (AD (vI no) rfl (AA (DF (first:=[]) (captured:=[.tmp 5, .tmp 3]) [] [vP (some c3),vP (some c2)] rfl rfl (AA (ES [vA h5.toArray,vI no,vN (.func 81) #[] #[vP (some c3),vP (some c2)]] WF rfl (OW 51 Try.func68 rfl rfl oT (fun F4=>AF (AB kR (AA (EC (E:=Enc.circle) (vA h5.toArray) (h5) c rfl rfl o4 t9 fun F5 F6 u0 l9 u1 a6=>(?_)))))))))))))))))))
 have b2:=b2.mv l9
 have a5:=a5.mv l9
 have a0:=a0.keep u1 (by simp)
 refine AA (CR [vI 0,vI 0,vI 0,nS,nS] IO rfl u0 fun b0 F7 u2 u3 j0 u4 a3=>(?_))
 have c1:EY b4 b0:=by show b4≠b0;have:=a0.lt;omega
 clear u2
 have b2:=b2.mv j0
 have a5:=a5.mv j0
 have a6:=a6.mv j0
 have a0:=a0.keep u4 (by simp)
 refine AA (CR [vI 0] z_29 rfl u3 fun b1 u5 u6 m0 j1 m1 a1=>(?_))
 have c4:EY b4 b1:=by show b4≠b1;have:=a0.lt;omega
 have b8:EY b0 b1:=by show b0≠b1;have:=a3.lt;omega
 clear u6
 have b2:=b2.mv j1
 have a5:=a5.mv j1
 have a6:=a6.mv j1
 have a0:=a0.keep m1 (by simp)
 have a3:=a3.keep m1 (by simp)
 refine AG (AC (AF (AF (AB kR (AA (CY U28_ rfl BJ rfl a6 fun k6 o5=>(AA (BF (vs:=[vA k6.toArray]) MP (OJ (O:=(b1 :: (b0 :: (b4 :: [])))++O) k6 c u5 o5 m0.lt) rfl m0 fun F8 F9 g7 j2 j3 u7=>(?_)))))))))
 obtain rfl:=u7
 have b2:=b2.mv j2
 have a5:=a5.mv j2
 have a6:=a6.mv j2
 have a0:=a0.keep j3 (by simp)
 have a3:=a3.keep j3 (by simp)
 have a1:=a1.keep j3 (by simp)
 refine AA (AE (vI (AO c)) rfl (AG (AC (AF (AB kR (AA (AD (vI (AO c)) rfl (AA (DQ .i64 (AO c) (0:Int) rfl rfl (AG (AC (AJ ((AO c) != (0:Int)) rfl rfl (fun h6=>?_) (fun h6=>?_)))))))))))))
 ·have C8:AO c≠(0:Int):=by simpa using h6
  refine AF (AB kR (AA (BI (vs:=[vI 0,vI 0,vI 0,nS,nS]) U28_ rfl BJ rfl a3 rfl (AA (AD (vI (AO c)) rfl (BZ (BE (vs:=[vI 0,vI 0,vI 0,nS,nS]) (.agg #[vI 0,vI 0,vI 0,nS,nS]) rfl rfl rfl BJ (fun u hu=>by simp only [List.mem_cons,List.not_mem_nil,or_false] at hu;rcases hu with rfl|rfl|rfl|rfl|rfl <;> rfl) (by repeat (constructor)) a3 oT g7 fun G0 u9 G1 m2 h7=>(?_))))))))
  have a0:=a0.keep m2 (AS c1)
  have a1:=a1.keep m2 (AS (Ne.symm b8))
  refine BZ (BY (vI (AO c)) rfl rfl rfl PF (by repeat (constructor)) a1 oT u9 fun G2 v0 G3 m3 o6=>(?_))
  have a0:=a0.keep m3 (AS c4)
  have h7:=h7.keep m3 (AS b8)
  refine AG (AC (AM (AP (OY rfl (DT rfl (EE (vs:=[vI 0,vI 0,vI 0,nS,nS]) rfl U28_ rfl BJ rfl h7 rfl) (LS rfl U29_ rfl rfl o6 rfl)) (CZ (AA (AL (vA #[vI 0,vI 0,vI 0,nS,nS]) rfl rfl (AA (AL (vI (AO c)) rfl rfl (BZ (BE (vs:=[vI 0,vI 0,vI 0,nS,nS]) (.agg #[vI 0,vI 0,vI 0,nS,nS]) rfl rfl rfl BJ (fun u hu=>by simp only [List.mem_cons,List.not_mem_nil,or_false] at hu;rcases hu with rfl|rfl|rfl|rfl|rfl <;> rfl) (by repeat (constructor)) a0 oT v0 fun G4 v1 G5 G6 o7=>(AA (AE (vI (AO c)) rfl (AG (AC (AM (AZ rfl (DT rfl (EE (vs:=[vI 0,vI 0,vI 0,nS,nS]) rfl U28_ rfl BJ rfl o7 rfl) (EK rfl rfl)) (?_))))))))))))))))))
  have v2:((AW c no (BC c day)).1)=(⟨(0:Int),(0:Int),(0:Int),[],[]⟩:Circle):=by exact congrArg (fun p=>p.1) (show AW c no (BC c day)=_ from fin_bad aS)
  have v3:((AW c no (BC c day)).2)=(AO c):=by exact congrArg (fun p=>p.2) (show AW c no (BC c day)=_ from fin_bad aS)
  exact ⟨_,rfl,v1.keep,by rw [v2,v3];exact ⟨[vI 0,vI 0,vI 0,nS,nS],rfl,Enc.out (B:=(b1 :: (b0 :: (b4 :: [])))) ⟨.slice none 0 0, .slice none 0 0,rfl,(BL.nil _ _ _),(BL.nil _ _ _)⟩⟩⟩
 have o8:AO c=(0:Int):=by simpa using h6
 have hok:AO c=0:=o8
 have hrl:=QU hok
 refine AT (AC (AF (AF (AB kR (AA (AD (vI no) rfl (AA (EB .i64 no (0:Int) rfl rfl (AA (AD (vO (decide (no<(0:Int)))) rfl (?_)))))))))))
 cases k7:(decide (no<(0:Int)))
 ·have C9:(0:Int)≤no:=by simpa using k7
  refine AY rfl (AD (vI no) rfl (AY rfl (BO 4 EF (c.recs) rfl a6 (fun _ _ _ h=>CV h) fun G7 o9=>(AY rfl (CI U26_ rfl rfl o9 fun G8 k8=>(?_))))))
  have:=k8.len_le
  refine AY rfl (CK U26_ rfl k8 (AY rfl (ID .i64 no (c.recs.length:Int) rfl rfl (AA (BK (vO (decide ((c.recs.length:Int)≤no))) rfl rfl (AG (AC (AJ (decide ((c.recs.length:Int)≤no)) rfl rfl (fun h8=>?_) (fun h8=>?_)))))))))
  ·have D0:(c.recs.length:Int)≤no:=by simpa using h8
   refine AF (AB kR (AA (BI (vs:=[vI 0,vI 0,vI 0,nS,nS]) U28_ rfl BJ rfl a3 rfl (BZ (BE (vs:=[vI 0,vI 0,vI 0,nS,nS]) (.agg #[vI 0,vI 0,vI 0,nS,nS]) rfl rfl rfl BJ (fun u hu=>by simp only [List.mem_cons,List.not_mem_nil,or_false] at hu;rcases hu with rfl|rfl|rfl|rfl|rfl <;> rfl) (by repeat (constructor)) a3 oT g7 fun G9 v4 H0 m4 h9=>(?_))))))
   have a0:=a0.keep m4 (AS c1)
   have a1:=a1.keep m4 (AS (Ne.symm b8))
   refine BZ (BY (vI 1) rfl rfl rfl PF (by repeat (constructor)) a1 oT v4 fun H1 v5 H2 m5 p0=>(?_))
   have a0:=a0.keep m5 (AS c4)
   have h9:=h9.keep m5 (AS b8)
   refine AG (AC (AM (AP (OY rfl (DT rfl (EE (vs:=[vI 0,vI 0,vI 0,nS,nS]) rfl U28_ rfl BJ rfl h9 rfl) (LS rfl U29_ rfl rfl p0 rfl)) (CZ (AA (AL (vA #[vI 0,vI 0,vI 0,nS,nS]) rfl rfl (AA (AL (vI 1) rfl rfl (BZ (BE (vs:=[vI 0,vI 0,vI 0,nS,nS]) (.agg #[vI 0,vI 0,vI 0,nS,nS]) rfl rfl rfl BJ (fun u hu=>by simp only [List.mem_cons,List.not_mem_nil,or_false] at hu;rcases hu with rfl|rfl|rfl|rfl|rfl <;> rfl) (by repeat (constructor)) a0 oT v5 fun H3 v6 H4 H5 p1=>(AA (AE (vI 1) rfl (AG (AC (AM (AZ rfl (DT rfl (EE (vs:=[vI 0,vI 0,vI 0,nS,nS]) rfl U28_ rfl BJ rfl p1 rfl) (EK rfl rfl)) (?_))))))))))))))))))
   have v7:((AW c no (BC c day)).1)=(⟨(0:Int),(0:Int),(0:Int),[],[]⟩:Circle):=by exact congrArg (fun p=>p.1) (show AW c no (BC c day)=_ from fin_no hok oM)
   have v8:((AW c no (BC c day)).2)=(1:Int):=by exact congrArg (fun p=>p.2) (show AW c no (BC c day)=_ from fin_no hok oM)
   exact ⟨_,rfl,v6.keep,by rw [v7,v8];exact ⟨[vI 0,vI 0,vI 0,nS,nS],rfl,Enc.out (B:=(b1 :: (b0 :: (b4 :: [])))) ⟨.slice none 0 0, .slice none 0 0,rfl,(BL.nil _ _ _),(BL.nil _ _ _)⟩⟩⟩
  have D1:no<(c.recs.length:Int):=by simpa using h8
  refine AT (AC (AF (YE [vP (some ⟨b0,0,none⟩),vP (some ⟨b1,0,none⟩)] rfl rfl rfl rfl (AC (AF (AB kR (AA (BO 4 EF (c.recs) rfl a6 (fun _ _ _ h=>CV h) fun H6 p2=>(AA (CI U26_ rfl rfl p2 fun H7 k9=>(?_)))))))))))
  have:=k9.len_le
  refine AA (AD (vI no) rfl (AA (DO U26_ GK .i64 no no.toNat rfl rfl oM k9 oM fun H8 p3=>(AA (CY U68_ rfl GK rfl p3 fun D2 p4=>(?_))))))
  obtain ⟨e5,e6,rfl,a7,a8⟩:=p4
  have:=a7.len_le
  have:=a8.len_le
  refine AA (DN (l:=[(0, .tmp 31)]) pl_113 z_113 rfl [(0,vA #[vI ((c.recs[no.toNat]!).no),vI ((c.recs[no.toNat]!).asked),vI ((c.recs[no.toNat]!).state),e5,e6],[vI ((c.recs[no.toNat]!).no),vI ((c.recs[no.toNat]!).asked),vI ((c.recs[no.toNat]!).state),e5,e6])] [vI ((c.recs[no.toNat]!).no),vI ((c.recs[no.toNat]!).asked),vI ((c.recs[no.toNat]!).state),e5,e6] rfl ⟨_,rfl,rfl,oT,rfl⟩ (AA (RL (vA #[vI ((c.recs[no.toNat]!).no),vI ((c.recs[no.toNat]!).asked),vI ((c.recs[no.toNat]!).state),e5,e6]) [vI ((c.recs[no.toNat]!).no),vI ((c.recs[no.toNat]!).asked),vI ((c.recs[no.toNat]!).state),e5,e6] rfl rfl g7 fun a2 H9 v9 w0 e8 j4 b3=>(?_))))
  have p5:EY b4 a2:=by show b4≠a2;have:=a0.lt;omega
  have i0:EY b0 a2:=by show b0≠a2;have:=a3.lt;omega
  have p6:EY b1 a2:=by show b1≠a2;have:=a1.lt;omega
  clear v9
  have b2:=b2.mv e8
  have a5:=a5.mv e8
  have a6:=a6.mv e8
  have a7:=a7.mv e8
  have a8:=a8.mv e8
  have a0:=a0.keep j4 (by simp)
  have a3:=a3.keep j4 (by simp)
  have a1:=a1.keep j4 (by simp)
  refine AA (AE (vP (some ⟨a2,0,none⟩)) rfl (AG (AC (AF (AB kR (AA (AD (vN (.func 81) #[] #[vP (some c3),vP (some c2)]) rfl (AA (AD (vP (some ⟨a2,0,none⟩)) rfl (AA (HX [] [vP (some c3),vP (some c2)] [vP (some ⟨a2,0,none⟩)] enter_81 rfl rfl (BW 11 Try.func81 rfl rfl oT (fun I0=>AF (AB kR (AA (RL (vP (some ⟨a2,0,none⟩)) [vP (some ⟨a2,0,none⟩)] rfl rfl w0 fun a4 I1 w1 w2 e9 g8 a9=>(?_)))))))))))))))))
  have D3:EY b4 a4:=by show b4≠a4;have:=a0.lt;omega
  have p7:EY b0 a4:=by show b0≠a4;have:=a3.lt;omega
  have D4:EY b1 a4:=by show b1≠a4;have:=a1.lt;omega
  have p8:EY a2 a4:=by show a2≠a4;have:=b3.lt;omega
  clear w1
  have b2:=b2.mv e9
  have a5:=a5.mv e9
  have a6:=a6.mv e9
  have a7:=a7.mv e9
  have a8:=a8.mv e9
  have a0:=a0.keep g8 (by simp)
  have a3:=a3.keep g8 (by simp)
  have a1:=a1.keep g8 (by simp)
  have b3:=b3.keep g8 (by simp)
  refine AG (AC (AB kR (AA (AK U106_ rfl (vP (some ⟨a2,0,none⟩)) rfl a9 rfl (AA (OR w2 fun b5 I2 w3 w4 f0 f1 p9=>(?_)))))))
  have i1:EY b4 b5:=by show b4≠b5;have:=a0.lt;omega
  have f2:EY b0 b5:=by show b0≠b5;have:=a3.lt;omega
  have i2:EY b1 b5:=by show b1≠b5;have:=a1.lt;omega
  have f3:EY a2 b5:=by show a2≠b5;have:=b3.lt;omega
  have i3:EY a4 b5:=by show a4≠b5;have:=a9.lt;omega
  clear w3
  have b2:=b2.mv f0
  have a5:=a5.mv f0
  have a6:=a6.mv f0
  have a7:=a7.mv f0
  have a8:=a8.mv f0
  have a0:=a0.keep f1 (by simp)
  have a3:=a3.keep f1 (by simp)
  have a1:=a1.keep f1 (by simp)
  have b3:=b3.keep f1 (by simp)
  have a9:=a9.keep f1 (by simp)
  refine AA (DF (first:=[]) (captured:=[.tmp 3]) [] [vP (some ⟨a4,0,none⟩)] rfl rfl (BZ (JJ U110_ U3_ rfl rfl rfl p9 (by repeat (constructor)) w4 rfl fun I3 w5 f4 f5 q0=>(?_))))
  have b2:=b2.mv f4
  have a5:=a5.mv f4
  have a6:=a6.mv f4
  have a7:=a7.mv f4
  have a8:=a8.mv f4
  have a0:=a0.keep f5 (AS i1)
  have a3:=a3.keep f5 (AS f2)
  have a1:=a1.keep f5 (AS i2)
  have b3:=b3.keep f5 (AS f3)
  have a9:=a9.keep f5 (AS i3)
  refine AA (DF (first:=[]) (captured:=[.tmp 3]) [] [vP (some ⟨a4,0,none⟩)] rfl rfl (BZ (JJ U110_ U3_ rfl rfl rfl q0 (by repeat (constructor)) w5 rfl fun I4 w6 f6 f7 q1=>(?_))))
  have b2:=b2.mv f6
  have a5:=a5.mv f6
  have a6:=a6.mv f6
  have a7:=a7.mv f6
  have a8:=a8.mv f6
  have a0:=a0.keep f7 (AS i1)
  have a3:=a3.keep f7 (AS f2)
  have a1:=a1.keep f7 (AS i2)
  have b3:=b3.keep f7 (AS f3)
  have a9:=a9.keep f7 (AS i3)
  refine AA (DF (first:=[]) (captured:=[.tmp 3, .tmp 1, .tmp 2]) [] [vP (some ⟨a4,0,none⟩),vP (some c3),vP (some c2)] rfl rfl (BZ (JJ U110_ U3_ rfl rfl rfl q1 (by repeat (constructor)) w6 rfl fun w7 j5 f8 f9 b7=>(?_))))
  have b2:=b2.mv f8
  have a5:=a5.mv f8
  have a6:=a6.mv f8
  have a7:=a7.mv f8
  have a8:=a8.mv f8
  have a0:=a0.keep f9 (AS i1)
  have a3:=a3.keep f9 (AS f2)
  have a1:=a1.keep f9 (AS i2)
  have b3:=b3.keep f9 (AS f3)
  have a9:=a9.keep f9 (AS i3)
  refine AA (AD (Value.map (some b5)) rfl (AA (ES [vP (some ⟨a2,0,none⟩),Value.map (some b5)] XE rfl (BW 19 Try.func70 rfl rfl oT (fun I5=>AF (AB kR (AA (AD (Value.map (some b5)) rfl (AA (AD (vP (some ⟨a2,0,none⟩)) rfl (AA (AR ⟨a2,0,none⟩ rfl (AA (AH 0 GC rfl (AA (AH 2 LO rfl (AA (AK U3_ rfl (vI ((c.recs[no.toNat]!).state)) rfl b3 rfl (?_)))))))))))))))))))
  rcases (IF hok oM oM:(c.recs[no.toNat]!).state=0∨(c.recs[no.toNat]!).state=1∨(c.recs[no.toNat]!).state=2) with e2|e2|e2
  ·refine AA (JF (k:=0) (vN (.func 84) #[] #[vP (some ⟨a4,0,none⟩),vP (some c3),vP (some c2)]) U110_ U3_ rfl (congrArg vI e2) b7 rfl (AA (AD (vT #[vN (.func 84) #[] #[vP (some ⟨a4,0,none⟩),vP (some c3),vP (some c2)],vO true]) rfl (AA (AL (vN (.func 84) #[] #[vP (some ⟨a4,0,none⟩),vP (some c3),vP (some c2)]) rfl rfl (AA (AL (vO true) rfl rfl (AA (AE (vN (.func 84) #[] #[vP (some ⟨a4,0,none⟩),vP (some c3),vP (some c2)]) rfl (AA (AE (vO true) rfl (AG (AC (AF (AB kR (AA (AD (vO true) rfl (AG (AC (AJ true rfl rfl (fun _=>AB kR (AA (AD (vN (.func 84) #[] #[vP (some ⟨a4,0,none⟩),vP (some c3),vP (some c2)]) rfl (AA (HX [] [vP (some ⟨a4,0,none⟩),vP (some c3),vP (some c2)] [] enter_84 rfl rfl (BW 28 Try.func84 rfl rfl oT (fun I6=>AF (FM [] [] [[(0,1),(1,1),(2,2),(3,0)]] (by intro c F d v w hd;(try simp only [GI,FG]);exact GJ c F d v w hd) kR kR kR fun m6 d2=>?_)))))))) (fun h=>by cases h)))))))))))))))))))))
   have m7:=j5.call d2
   have g0:Mv (b5 :: (a4 :: (a2 :: (b1 :: (b0 :: (b4 :: [])))))) w7 (b5 :: (a4 :: (a2 :: (b1 :: (b0 :: (b4 :: [])))))) m6:=Mv.of_keep d2
   have b2:=b2.mv g0
   have a5:=a5.mv g0
   have a6:=a6.mv g0
   have a7:=a7.mv g0
   have a8:=a8.mv g0
   have a0:=a0.keep d2 (by simp)
   have a3:=a3.keep d2 (by simp)
   have a1:=a1.keep d2 (by simp)
   have b3:=b3.keep d2 (by simp)
   have a9:=a9.keep d2 (by simp)
   have b7:=b7.keep d2 (by simp)
   refine ⟨?_,trivial⟩
   refine BS (AK U106_ rfl (vP (some ⟨a2,0,none⟩)) rfl a9 rfl (EP (BS (CG U3_ rfl rfl b2 (EP (FA (BF (vs:=[vI day,vI 0]) MT (OI (O:=(b5 :: (a4 :: (a2 :: (b1 :: (b0 :: (b4 :: []))))))++O) day (0:Int) m6 m7.lt) rfl m7 fun I7 w8 m9 g1 d7 w9=>(?_))))))))
   obtain rfl:=w9
   have b2:=b2.mv g1
   have a5:=a5.mv g1
   have a6:=a6.mv g1
   have a7:=a7.mv g1
   have a8:=a8.mv g1
   have a0:=a0.keep d7 (by simp)
   have a3:=a3.keep d7 (by simp)
   have a1:=a1.keep d7 (by simp)
   have b3:=b3.keep d7 (by simp)
   have a9:=a9.keep d7 (by simp)
   have b7:=b7.keep d7 (by simp)
   refine ⟨d7,?_⟩
   refine UZ (ES [vP (some ⟨a2,0,none⟩),vO (CO day (0:Int)),vI 1] IQ rfl (BW 11 Try.func72 rfl rfl oT (fun I8=>AF (AB kR (AA (AD (vO (CO day (0:Int))) rfl (AA (FF (CO day (0:Int)) rfl (AG (AC (AJ (!(CO day (0:Int))) rfl rfl (fun i4=>?_) (fun i4=>?_))))))))))))
   ·have D5:(CO day (0:Int))=false:=by simpa using i4
    refine AB kR (AA (AD (vI 1) rfl (AA (DN (l:=[(0, .tmp 8)]) ND QA rfl [(0,vI 1,[vI 1])] [vI 1] rfl ⟨_,rfl,rfl,oT,rfl⟩ (AA (LC (vA #[vI 1]) U125_ rfl rfl (BZ (KZ rfl (FE rfl (DY (HB (FE rfl (DY (FE rfl (DY (FE rfl (DY (HB (LB (HQ [vP (some ⟨b0,0,none⟩),vP (some ⟨b1,0,none⟩)] (.panicking [{ v:=Value.iface 125 (vA #[vI 1]),recovered:=false }]) rfl (fun h=>by cases h) rfl FD (NF (1:Int) b0 b1 m9 a3 a1 (by repeat (constructor)) (by repeat (constructor)) b8) (fun e_ I9 hR_=>?_)))))))))))))))))))))
    obtain ⟨v_,rfl,x1,J0,x2,q2,q3⟩:=hR_
    have a0:=a0.keep x2 (YS c1 c4)
    refine Exists.intro _ (And.intro (DT rfl (EE (vs:=[vI 0,vI 0,vI 0,nS,nS]) rfl U28_ rfl BJ rfl q2 rfl) (LS rfl U29_ rfl rfl q3 rfl)) (CZ (AA (AL (vA #[vI 0,vI 0,vI 0,nS,nS]) rfl rfl (AA (AL (vI 1) rfl rfl (BZ (BE (vs:=[vI 0,vI 0,vI 0,nS,nS]) (.agg #[vI 0,vI 0,vI 0,nS,nS]) rfl rfl rfl BJ (fun u hu=>by simp only [List.mem_cons,List.not_mem_nil,or_false] at hu;rcases hu with rfl|rfl|rfl|rfl|rfl <;> rfl) (by repeat (constructor)) a0 oT x1 fun J1 x3 J2 J3 q4=>(AA (AE (vI 1) rfl (AG (AC (AM (AZ rfl (DT rfl (EE (vs:=[vI 0,vI 0,vI 0,nS,nS]) rfl U28_ rfl BJ rfl q4 rfl) (EK rfl rfl)) (?_)))))))))))))))
    have x4:((AW c no (BC c day)).1)=(⟨(0:Int),(0:Int),(0:Int),[],[]⟩:Circle):=by exact congrArg (fun p=>p.1) (show AW c no (BC c day)=_ from fin_day hok oM oM aS aS)
    have x5:((AW c no (BC c day)).2)=(1:Int):=by exact congrArg (fun p=>p.2) (show AW c no (BC c day)=_ from fin_day hok oM oM aS aS)
    exact ⟨_,rfl,x3.keep,by rw [x4,x5];exact ⟨[vI 0,vI 0,vI 0,nS,nS],rfl,Enc.out (B:=(b5 :: (a4 :: (a2 :: (b1 :: (b0 :: (b4 :: []))))))) ⟨.slice none 0 0, .slice none 0 0,rfl,(BL.nil _ _ _),(BL.nil _ _ _)⟩⟩⟩
   have D6:(CO day (0:Int))=true:=by simpa using i4
   refine AT (FL rfl (HU rfl) (CZ (FH (AC (AF (FM [] [] [[(0,1),(1,1),(2,1),(3,2),(4,0)]] (by intro c F d v w hd;(try simp only [GI,FG]);exact GJ c F d v w hd) kR kR kR fun n2 d3=>?_))))))
   have x6:=m9.call d3
   have g2:Mv (b5 :: (a4 :: (a2 :: (b1 :: (b0 :: (b4 :: [])))))) w8 (b5 :: (a4 :: (a2 :: (b1 :: (b0 :: (b4 :: [])))))) n2:=Mv.of_keep d3
   have b2:=b2.mv g2
   have a5:=a5.mv g2
   have a6:=a6.mv g2
   have a7:=a7.mv g2
   have a8:=a8.mv g2
   have a0:=a0.keep d3 (by simp)
   have a3:=a3.keep d3 (by simp)
   have a1:=a1.keep d3 (by simp)
   have b3:=b3.keep d3 (by simp)
   have a9:=a9.keep d3 (by simp)
   have b7:=b7.keep d3 (by simp)
   refine ⟨?_,trivial⟩
   refine BS (AK U106_ rfl (vP (some ⟨a2,0,none⟩)) rfl a9 rfl (EP (BS (CY U28_ rfl BJ rfl a5 fun l0 q5=>(EP (BS (AK U106_ rfl (vP (some ⟨a2,0,none⟩)) rfl a9 rfl (EP (FA (BF (vs:=[vA l0.toArray,vP (some ⟨a2,0,none⟩)]) enter_85 (c_approved (O:=[]) l0 c ⟨a2,0,none⟩ (c.recs[no.toNat]!) n2 (Enc.circle.sub q5 (fun _ h=>by cases h)) (PT.of_box b3 ⟨_,_,rfl,a7.rd0,a8.rd0⟩ (fun h=>by cases h)) TY) rfl x6 fun J4 x7 n3 g3 d8 x8=>(?_)))))))))))
   obtain rfl:=x8
   have b2:=b2.mv g3
   have a5:=a5.mv g3
   have a6:=a6.mv g3
   have a7:=a7.mv g3
   have a8:=a8.mv g3
   have a0:=a0.keep d8 (by simp)
   have a3:=a3.keep d8 (by simp)
   have a1:=a1.keep d8 (by simp)
   have b3:=b3.keep d8 (by simp)
   have a9:=a9.keep d8 (by simp)
   have b7:=b7.keep d8 (by simp)
   refine ⟨d8,?_⟩
   refine UZ (ES [vP (some ⟨a2,0,none⟩),vO (MY c (c.recs[no.toNat]!)),vI 450] IQ rfl (BW 11 Try.func72 rfl rfl oT (fun J5=>AF (AB kR (AA (AD (vO (MY c (c.recs[no.toNat]!))) rfl (AA (FF (MY c (c.recs[no.toNat]!)) rfl (AG (AC (AJ (!(MY c (c.recs[no.toNat]!))) rfl rfl (fun i5=>?_) (fun i5=>?_))))))))))))
   ·have D7:(MY c (c.recs[no.toNat]!))=false:=by simpa using i5
    refine AB kR (AA (AD (vI 450) rfl (AA (DN (l:=[(0, .tmp 8)]) ND QA rfl [(0,vI 450,[vI 450])] [vI 450] rfl ⟨_,rfl,rfl,oT,rfl⟩ (AA (LC (vA #[vI 450]) U125_ rfl rfl (BZ (KZ rfl (FE rfl (DY (HB (FE rfl (DY (FE rfl (DY (FE rfl (DY (HB (LB (HQ [vP (some ⟨b0,0,none⟩),vP (some ⟨b1,0,none⟩)] (.panicking [{ v:=Value.iface 125 (vA #[vI 450]),recovered:=false }]) rfl (fun h=>by cases h) rfl FD (NF (450:Int) b0 b1 n3 a3 a1 (by repeat (constructor)) (by repeat (constructor)) b8) (fun e_ J6 hR_=>?_)))))))))))))))))))))
    obtain ⟨v_,rfl,x9,J7,y0,q6,q7⟩:=hR_
    have a0:=a0.keep y0 (YS c1 c4)
    refine Exists.intro _ (And.intro (DT rfl (EE (vs:=[vI 0,vI 0,vI 0,nS,nS]) rfl U28_ rfl BJ rfl q6 rfl) (LS rfl U29_ rfl rfl q7 rfl)) (CZ (AA (AL (vA #[vI 0,vI 0,vI 0,nS,nS]) rfl rfl (AA (AL (vI 450) rfl rfl (BZ (BE (vs:=[vI 0,vI 0,vI 0,nS,nS]) (.agg #[vI 0,vI 0,vI 0,nS,nS]) rfl rfl rfl BJ (fun u hu=>by simp only [List.mem_cons,List.not_mem_nil,or_false] at hu;rcases hu with rfl|rfl|rfl|rfl|rfl <;> rfl) (by repeat (constructor)) a0 oT x9 fun J8 y1 J9 K0 q8=>(AA (AE (vI 450) rfl (AG (AC (AM (AZ rfl (DT rfl (EE (vs:=[vI 0,vI 0,vI 0,nS,nS]) rfl U28_ rfl BJ rfl q8 rfl) (EK rfl rfl)) (?_)))))))))))))))
    have y2:((AW c no (BC c day)).1)=(⟨(0:Int),(0:Int),(0:Int),[],[]⟩:Circle):=by exact congrArg (fun p=>p.1) (show AW c no (BC c day)=_ from fin_few hok oM oM aS aS aS)
    have y3:((AW c no (BC c day)).2)=(450:Int):=by exact congrArg (fun p=>p.2) (show AW c no (BC c day)=_ from fin_few hok oM oM aS aS aS)
    exact ⟨_,rfl,y1.keep,by rw [y2,y3];exact ⟨[vI 0,vI 0,vI 0,nS,nS],rfl,Enc.out (B:=(b5 :: (a4 :: (a2 :: (b1 :: (b0 :: (b4 :: []))))))) ⟨.slice none 0 0, .slice none 0 0,rfl,(BL.nil _ _ _),(BL.nil _ _ _)⟩⟩⟩
   have D8:(MY c (c.recs[no.toNat]!))=true:=by simpa using i5
   refine AT (FL rfl (HU rfl) (CZ (FH (AC (AF (DP 11 _ _ kR kR kR kR kR rfl rfl fun y4 d4=>?_))))))
   have n4:=n3.call d4
   have g4:Mv (b5 :: (a4 :: (a2 :: (b1 :: (b0 :: (b4 :: [])))))) x7 (b5 :: (a4 :: (a2 :: (b1 :: (b0 :: (b4 :: [])))))) y4:=Mv.of_keep d4
   have b2:=b2.mv g4
   have a5:=a5.mv g4
   have a6:=a6.mv g4
   have a7:=a7.mv g4
   have a8:=a8.mv g4
   have a0:=a0.keep d4 (by simp)
   have a3:=a3.keep d4 (by simp)
   have a1:=a1.keep d4 (by simp)
   have b3:=b3.keep d4 (by simp)
   have a9:=a9.keep d4 (by simp)
   have b7:=b7.keep d4 (by simp)
   refine BG (AK U106_ rfl (vP (some ⟨a2,0,none⟩)) rfl a9 rfl (BG (CG U3_ rfl rfl b2 (BG (AK U106_ rfl (vP (some ⟨a2,0,none⟩)) rfl a9 rfl (BG (AR ⟨a2,0,none⟩ rfl (BG (AH 0 GC rfl (BG (AH 1 QB rfl (BG (AK U3_ rfl (vI ((c.recs[no.toNat]!).asked)) rfl b3 rfl (BG (BO 2 f_28_2 (c.wait) rfl a5 (fun _ _ _ h=>RI h) fun K1 q9=>(BG (CG U3_ rfl rfl q9 (BG (DR .i64 ((c.recs[no.toNat]!).asked) c.wait ((c.recs[no.toNat]!).asked+c.wait) rfl rfl (GZ (by have:=RY hok (no:=no) oM oM;omega) rfl) (BG (ID .i64 day ((c.recs[no.toNat]!).asked+c.wait) rfl rfl (EQ (AA (ES [vP (some ⟨a2,0,none⟩),vO (decide ((c.recs[no.toNat]!).asked+c.wait≤day)),vI 451] IQ rfl (BW 11 Try.func72 rfl rfl oT (fun K2=>AF (AB kR (AA (AD (vO (decide ((c.recs[no.toNat]!).asked+c.wait≤day))) rfl (AA (FF (decide ((c.recs[no.toNat]!).asked+c.wait≤day)) rfl (AG (AC (AJ (!(decide ((c.recs[no.toNat]!).asked+c.wait≤day))) rfl rfl (fun i6=>?_) (fun i6=>?_)))))))))))))))))))))))))))))))))))
   ·have D9:day<(c.recs[no.toNat]!).asked+c.wait:=by simpa using i6
    refine AB kR (AA (AD (vI 451) rfl (AA (DN (l:=[(0, .tmp 8)]) ND QA rfl [(0,vI 451,[vI 451])] [vI 451] rfl ⟨_,rfl,rfl,oT,rfl⟩ (AA (LC (vA #[vI 451]) U125_ rfl rfl (BZ (KZ rfl (FE rfl (DY (HB (FE rfl (DY (FE rfl (DY (FE rfl (DY (HB (LB (HQ [vP (some ⟨b0,0,none⟩),vP (some ⟨b1,0,none⟩)] (.panicking [{ v:=Value.iface 125 (vA #[vI 451]),recovered:=false }]) rfl (fun h=>by cases h) rfl FD (NF (451:Int) b0 b1 n4 a3 a1 (by repeat (constructor)) (by repeat (constructor)) b8) (fun e_ K3 hR_=>?_)))))))))))))))))))))
    obtain ⟨v_,rfl,y5,K4,y6,r0,r4⟩:=hR_
    have a0:=a0.keep y6 (YS c1 c4)
    refine Exists.intro _ (And.intro (DT rfl (EE (vs:=[vI 0,vI 0,vI 0,nS,nS]) rfl U28_ rfl BJ rfl r0 rfl) (LS rfl U29_ rfl rfl r4 rfl)) (CZ (AA (AL (vA #[vI 0,vI 0,vI 0,nS,nS]) rfl rfl (AA (AL (vI 451) rfl rfl (BZ (BE (vs:=[vI 0,vI 0,vI 0,nS,nS]) (.agg #[vI 0,vI 0,vI 0,nS,nS]) rfl rfl rfl BJ (fun u hu=>by simp only [List.mem_cons,List.not_mem_nil,or_false] at hu;rcases hu with rfl|rfl|rfl|rfl|rfl <;> rfl) (by repeat (constructor)) a0 oT y5 fun K5 y7 K6 K7 r5=>(AA (AE (vI 451) rfl (AG (AC (AM (AZ rfl (DT rfl (EE (vs:=[vI 0,vI 0,vI 0,nS,nS]) rfl U28_ rfl BJ rfl r5 rfl) (EK rfl rfl)) (?_)))))))))))))))
    have y8:((AW c no (BC c day)).1)=(⟨(0:Int),(0:Int),(0:Int),[],[]⟩:Circle):=by exact congrArg (fun p=>p.1) (show AW c no (BC c day)=_ from fin_wait hok oM oM aS aS aS oM)
    have y9:((AW c no (BC c day)).2)=(451:Int):=by exact congrArg (fun p=>p.2) (show AW c no (BC c day)=_ from fin_wait hok oM oM aS aS aS oM)
    exact ⟨_,rfl,y7.keep,by rw [y8,y9];exact ⟨[vI 0,vI 0,vI 0,nS,nS],rfl,Enc.out (B:=(b5 :: (a4 :: (a2 :: (b1 :: (b0 :: (b4 :: []))))))) ⟨.slice none 0 0, .slice none 0 0,rfl,(BL.nil _ _ _),(BL.nil _ _ _)⟩⟩⟩
   have E0:(c.recs[no.toNat]!).asked+c.wait≤day:=by simpa using i6
   refine AT (FL rfl (HU rfl) (CZ (AG (AC (AB kR (AA (AK U106_ rfl (vP (some ⟨a2,0,none⟩)) rfl a9 rfl (AA (AR ⟨a2,0,none⟩ rfl (AA (AH 0 GC rfl (AA (AH 2 LO rfl (BZ (BY (vI 1) rfl rfl rfl OB (by repeat (constructor)) b3 oT n4 fun K8 z0 j6 g5 c0=>(?_))))))))))))))))
   have a6:=a6.mv j6
   have a7:=a7.mv j6
   have a8:=a8.mv j6
   have a0:=a0.keep g5 (AS p5)
   have a3:=a3.keep g5 (AS i0)
   have a1:=a1.keep g5 (AS p6)
   have a9:=a9.keep g5 (AS (Ne.symm p8))
   have b7:=b7.keep g5 (AS (Ne.symm f3))
   refine AG (FL rfl (HU rfl) (CZ (AG (FL rfl (HU rfl) (CZ (AG (FL rfl (HU rfl) (CZ (AG (AC (AF (AB kR (AA (CY U28_ rfl BJ rfl a6 fun E1 r6=>(?_)))))))))))))))
   obtain ⟨c5,n5,rfl,b6,l1⟩:=r6
   have:=b6.len_le
   have:=l1.len_le
   refine BZ (BE (vs:=[vI c.epoch,vI c.threshold,vI c.wait,c5,n5]) (.agg #[vI c.epoch,vI c.threshold,vI c.wait,c5,n5]) rfl rfl rfl BJ (fun u hu=>by simp only [List.mem_cons,List.not_mem_nil,or_false] at hu;rcases hu with rfl|rfl|rfl|rfl|rfl <;> first|rfl|exact b6.oneCell|exact l1.oneCell) (by repeat (constructor)) a3 oT z0 fun K9 z1 g9 g6 d0=>(?_))
   have a6:=a6.mv g9
   have a7:=a7.mv g9
   have a8:=a8.mv g9
   have b6:=b6.mv g9
   have a0:=a0.keep g6 (AS c1)
   have a1:=a1.keep g6 (AS (Ne.symm b8))
   have c0:=c0.keep g6 (AS (Ne.symm i0))
   have a9:=a9.keep g6 (AS (Ne.symm p7))
   have b7:=b7.keep g6 (AS (Ne.symm f2))
   refine AG (AC (AF (AB kR (AA (BO 4 EF (c.recs) rfl a6 (fun _ _ _ h=>CV h) fun L0 r7=>(AA (CI U26_ rfl rfl r7 fun j7 e3=>(?_))))))))
   have:=e3.len_le
   refine AA (JV [j7] _ LG rfl (BW 8 Try.func67 rfl rfl oT (fun L1=>AF (AB kR (AA (AE (nS) rfl (AG (AC (AF (AF (AB kR (AA (AD (j7) rfl (AA (MD U26_ rfl rfl e3 oM (AG (AC (AJ false rfl rfl (fun h=>by cases h) (fun _=>AT (AC (AF (AB kR (AA (IA (E:=Enc.recovery) (xs:=[]) U26_ GK OZ (by decide) [] [] [] rfl rfl rfl (Parts.nil _ _ _) oT z1 fun d9 z2 L2 z3 c7 z4 h0 e7 r8=>(?_)))))))))))))))))))))))) (fun _ _ h=>h))
   have l2:∀ b,d9.ownBlock=some b→b≠b4:=fun b hb=>by have:=a0.lt;rw [c7] at hb;cases hb;omega
   have l3:∀ b,d9.ownBlock=some b→b≠b0:=fun b hb=>by have:=d0.lt;rw [c7] at hb;cases hb;omega
   have l4:∀ b,d9.ownBlock=some b→b≠b1:=fun b hb=>by have:=a1.lt;rw [c7] at hb;cases hb;omega
   have l5:∀ b,d9.ownBlock=some b→b≠a2:=fun b hb=>by have:=c0.lt;rw [c7] at hb;cases hb;omega
   have r9:∀ b,d9.ownBlock=some b→b≠a4:=fun b hb=>by have:=a9.lt;rw [c7] at hb;cases hb;omega
   have s1:∀ b,d9.ownBlock=some b→b≠b5:=fun b hb=>by have:=b7.lt;rw [c7] at hb;cases hb;omega
   have s2:∀ b,d9.ownBlock=some b→b∈(z2 :: (b5 :: (a4 :: (a2 :: (b1 :: (b0 :: (b4 :: []))))))):=fun b hb=>by rw [c7] at hb;cases hb;simp
   clear z3 c7
   have e3:=e3.mv h0
   have a7:=a7.mv h0
   have a8:=a8.mv h0
   have b6:=b6.mv h0
   have a0:=a0.keep e7 (by simp)
   have d0:=d0.keep e7 (by simp)
   have a1:=a1.keep e7 (by simp)
   have c0:=c0.keep e7 (by simp)
   have a9:=a9.keep e7 (by simp)
   have b7:=b7.keep e7 (by simp)
   refine AA (AD (j7) rfl (AA (DI (E:=Enc.recovery) (l:=[]) (m:=c.recs) U26_ VN rfl (by decide) rfl rfl r8 e3 (fun _ hb=>.inl hb) s2 (by simp;omega) (by simp [maxLen];omega) z4 fun b9 L3 d5 s3 d6 c9 z5 j8 h1 c8=>(?_))))
   rw [List.nil_append] at c8
   have l6:∀ b,b9.ownBlock=some b→b≠b4:=fun b hb=>by rcases d6 with e1|e1 <;> rw [e1] at hb <;> first|(cases hb;have:=a0.lt;omega)|(exact l2 b hb)
   have i7:∀ b,b9.ownBlock=some b→b≠b0:=fun b hb=>by rcases d6 with e1|e1 <;> rw [e1] at hb <;> first|(cases hb;have:=d0.lt;omega)|(exact l3 b hb)
   have l7:∀ b,b9.ownBlock=some b→b≠b1:=fun b hb=>by rcases d6 with e1|e1 <;> rw [e1] at hb <;> first|(cases hb;have:=a1.lt;omega)|(exact l4 b hb)
   have E2:∀ b,b9.ownBlock=some b→b≠a2:=fun b hb=>by rcases d6 with e1|e1 <;> rw [e1] at hb <;> first|(cases hb;have:=c0.lt;omega)|(exact l5 b hb)
   have E3:∀ b,b9.ownBlock=some b→b≠a4:=fun b hb=>by rcases d6 with e1|e1 <;> rw [e1] at hb <;> first|(cases hb;have:=a9.lt;omega)|(exact r9 b hb)
   have E4:∀ b,b9.ownBlock=some b→b≠b5:=fun b hb=>by rcases d6 with e1|e1 <;> rw [e1] at hb <;> first|(cases hb;have:=b7.lt;omega)|(exact s1 b hb)
   have C2:b4∈d5:=c9 b4 (by repeat (constructor))
   have C3:b0∈d5:=c9 b0 (by repeat (constructor))
   have C4:b1∈d5:=c9 b1 (by repeat (constructor))
   have C5:a2∈d5:=c9 a2 (by repeat (constructor))
   have C6:a4∈d5:=c9 a4 (by repeat (constructor))
   have C7:b5∈d5:=c9 b5 (by repeat (constructor))
   have a7:=a7.mv j8
   have a8:=a8.mv j8
   have b6:=b6.mv j8
   have a0:=a0.keep h1 (by simp only [Option.mem_toList];exact fun e=>absurd rfl (l2 _ e))
   have d0:=d0.keep h1 (by simp only [Option.mem_toList];exact fun e=>absurd rfl (l3 _ e))
   have a1:=a1.keep h1 (by simp only [Option.mem_toList];exact fun e=>absurd rfl (l4 _ e))
   have c0:=c0.keep h1 (by simp only [Option.mem_toList];exact fun e=>absurd rfl (l5 _ e))
   refine AA (AE (b9) rfl (AG (AC (AM (AZ rfl (CN rfl rfl rfl) (Exists.intro _ (And.intro rfl (AA (AH 4 EF rfl (BZ (BY (b9) rfl rfl c8.oneCell YV (by repeat (assumption)) d0 oT z5 fun z6 z7 h2 h3 d1=>(?_))))))))))))
   have a7:=a7.mv h2
   have a8:=a8.mv h2
   have b6:=b6.mv h2
   have c8:=c8.mv h2 h3 (fun b hb=>AS (i7 b hb))
   have a0:=a0.keep h3 (AS c1)
   have a1:=a1.keep h3 (AS (Ne.symm b8))
   have c0:=c0.keep h3 (AS (Ne.symm i0))
   refine AG (AC (AF (DP 8 _ _ kR kR kR kR kR rfl rfl fun z8 e0=>?_)))
   have z9:=z7.call e0
   have h4:Mv d5 z6 d5 z8:=Mv.of_keep e0
   have a7:=a7.mv h4
   have a8:=a8.mv h4
   have b6:=b6.mv h4
   have c8:=c8.mv h4 e0 (by simp)
   have a0:=a0.keep e0 (by simp)
   have d1:=d1.keep e0 (by simp)
   have a1:=a1.keep e0 (by simp)
   have c0:=c0.keep e0 (by simp)
   refine BG (AH 4 EF rfl (BG (AK U26_ rfl (b9) rfl d1 rfl (BG (AD (vI no) rfl (BG (AD (vP (some ⟨a2,0,none⟩)) rfl (BG (AR ⟨a2,0,none⟩ rfl (BG (AH 0 GC rfl (BG (BI (vs:=[vI ((c.recs[no.toNat]!).no),vI ((c.recs[no.toNat]!).asked),vI 1,e5,e6]) U68_ rfl GK rfl c0 rfl (BG (EW U26_ GK .i64 no no.toNat rfl rfl oM c8 oM fun L4 e4=>(EQ (BZ (LZ (⟨(c.recs[no.toNat]!).no,(c.recs[no.toNat]!).asked,(1:Int),(c.recs[no.toNat]!).approved,(c.recs[no.toNat]!).vetoed⟩:Recovery) (by decide) GK rfl rfl c8 e4 (s3 _ e4) oM ⟨_,_,rfl,a7,a8⟩ z9 fun L5 A0 A1 j9 c6=>(?_)))))))))))))))))))
   have b6:=b6.mv A1
   have a0:=a0.keep j9 (by simp only [List.mem_singleton];exact fun e=>absurd e.symm (l6 _ e4))
   have d1:=d1.keep j9 (by simp only [List.mem_singleton];exact fun e=>absurd e.symm (i7 _ e4))
   have a1:=a1.keep j9 (by simp only [List.mem_singleton];exact fun e=>absurd e.symm (l7 _ e4))
   refine AG (AC (AF (AB kR (AA (BI (vs:=[vI c.epoch,vI c.threshold,vI c.wait,c5,b9]) U28_ rfl BJ rfl d1 rfl (BZ (BE (vs:=[vI c.epoch,vI c.threshold,vI c.wait,c5,b9]) (.agg #[vI c.epoch,vI c.threshold,vI c.wait,c5,b9]) rfl rfl rfl BJ (fun u hu=>by simp only [List.mem_cons,List.not_mem_nil,or_false] at hu;rcases hu with rfl|rfl|rfl|rfl|rfl <;> first|rfl|exact b6.oneCell|exact c6.oneCell) (by repeat (assumption)) d1 oT A0 fun L6 A2 n6 k0 i8=>(?_))))))))
   have b6:=b6.mv n6
   have c6:=c6.mv n6 k0 (fun b hb=>AS (i7 b hb))
   have a0:=a0.keep k0 (AS c1)
   have a1:=a1.keep k0 (AS (Ne.symm b8))
   refine BZ (BY (vI 0) rfl rfl rfl PF (by repeat (assumption)) a1 oT A2 fun L7 A3 n7 k5 s4=>(?_))
   have b6:=b6.mv n7
   have c6:=c6.mv n7 k5 (fun b hb=>AS (l7 b hb))
   have a0:=a0.keep k5 (AS c4)
   have i8:=i8.keep k5 (AS b8)
   refine AG (AC (AM (QN (LY [vP (some ⟨b0,0,none⟩),vP (some ⟨b1,0,none⟩)] 19 .returning rfl (fun h=>by cases h) rfl FD Try.func103 rfl rfl oT rfl rfl (fun L8=>AF (AB kR (AA (AD (Value.nilIface) rfl (AA (o_neqNil' U20_ rfl (AG (AC (AJ false rfl rfl (fun h=>by cases h) (fun _=>AT (FL rfl (HU rfl) (Exists.intro _ (And.intro (DT rfl (EE (vs:=[vI c.epoch,vI c.threshold,vI c.wait,c5,b9]) rfl U28_ rfl BJ rfl i8 rfl) (LS rfl U29_ rfl rfl s4 rfl)) (CZ (AA (AL (vA #[vI c.epoch,vI c.threshold,vI c.wait,c5,b9]) rfl rfl (AA (AL (vI 0) rfl rfl (BZ (BE (vs:=[vI c.epoch,vI c.threshold,vI c.wait,c5,b9]) (.agg #[vI c.epoch,vI c.threshold,vI c.wait,c5,b9]) rfl rfl rfl BJ (fun u hu=>by simp only [List.mem_cons,List.not_mem_nil,or_false] at hu;rcases hu with rfl|rfl|rfl|rfl|rfl <;> first|rfl|exact b6.oneCell|exact c6.oneCell) (by repeat (assumption)) a0 oT A3 fun L9 n9 o0 A4 s5=>(?_)))))))))))))))))))))))))
   have b6:=b6.mv o0
   have c6:=c6.mv o0 A4 (fun b hb=>AS (l6 b hb))
   refine AA (AE (vI 0) rfl (AG (AC (AM (AZ rfl (DT rfl (EE (vs:=[vI c.epoch,vI c.threshold,vI c.wait,c5,b9]) rfl U28_ rfl BJ rfl s5 rfl) (EK rfl rfl)) (?_))))))
   have A5:((AW c no (BC c day)).1)=(⟨c.epoch,c.threshold,c.wait,c.guardians,c.recs.set no.toNat (⟨(c.recs[no.toNat]!).no,(c.recs[no.toNat]!).asked,(1:Int),(c.recs[no.toNat]!).approved,(c.recs[no.toNat]!).vetoed⟩:Recovery)⟩:Circle):=by exact congrArg (fun p=>p.1) (show AW c no (BC c day)=_ from fin_open hok oM oM aS aS aS oM)
   have A6:((AW c no (BC c day)).2)=(0:Int):=by exact congrArg (fun p=>p.2) (show AW c no (BC c day)=_ from fin_open hok oM oM aS aS aS oM)
   exact ⟨_,rfl,n9.keep,by rw [A5,A6];exact ⟨[vI c.epoch,vI c.threshold,vI c.wait,c5,b9],rfl,⟨_,_,rfl,b6.out,(c6.pub n9)⟩⟩⟩
  ·refine AA (JF (k:=1) (vN (.func 83) #[] #[vP (some ⟨a4,0,none⟩)]) U110_ U3_ rfl (congrArg vI e2) b7 rfl (AA (AD (vT #[vN (.func 83) #[] #[vP (some ⟨a4,0,none⟩)],vO true]) rfl (AA (AL (vN (.func 83) #[] #[vP (some ⟨a4,0,none⟩)]) rfl rfl (AA (AL (vO true) rfl rfl (AA (AE (vN (.func 83) #[] #[vP (some ⟨a4,0,none⟩)]) rfl (AA (AE (vO true) rfl (AG (AC (AF (AB kR (AA (AD (vO true) rfl (AG (AC (AJ true rfl rfl (fun _=>AB kR (AA (AD (vN (.func 83) #[] #[vP (some ⟨a4,0,none⟩)]) rfl (AA (HX [] [vP (some ⟨a4,0,none⟩)] [] enter_83 rfl rfl (BW 3 Try.func83 rfl rfl oT (fun M0=>AB kR (AA (AK U106_ rfl (vP (some ⟨a2,0,none⟩)) rfl a9 rfl (AA (ES [vP (some ⟨a2,0,none⟩),vO false,vI 1] IQ rfl (BW 11 Try.func72 rfl rfl oT (fun M1=>AF (AB kR (AA (AD (vO false) rfl (AA (FF false rfl (AG (AC (AJ true rfl rfl (fun _=>AB kR (AA (AD (vI 1) rfl (AA (DN (l:=[(0, .tmp 8)]) ND QA rfl [(0,vI 1,[vI 1])] [vI 1] rfl ⟨_,rfl,rfl,oT,rfl⟩ (AA (LC (vA #[vI 1]) U125_ rfl rfl (BZ (KZ rfl (FE rfl (DY (FE rfl (DY (FE rfl (DY (FE rfl (DY (HB (LB (HQ [vP (some ⟨b0,0,none⟩),vP (some ⟨b1,0,none⟩)] (.panicking [{ v:=Value.iface 125 (vA #[vI 1]),recovered:=false }]) rfl (fun h=>by cases h) rfl FD (NF (1:Int) b0 b1 j5 a3 a1 (by repeat (constructor)) (by repeat (constructor)) b8) (fun e_ M2 hR_=>?_))))))))))))))))))))) (fun h=>by cases h)))))))))))))))))))))) (fun h=>by cases h)))))))))))))))))))))
   obtain ⟨v_,rfl,A7,M3,A8,s6,s7⟩:=hR_
   have a0:=a0.keep A8 (YS c1 c4)
   refine Exists.intro _ (And.intro (DT rfl (EE (vs:=[vI 0,vI 0,vI 0,nS,nS]) rfl U28_ rfl BJ rfl s6 rfl) (LS rfl U29_ rfl rfl s7 rfl)) (CZ (AA (AL (vA #[vI 0,vI 0,vI 0,nS,nS]) rfl rfl (AA (AL (vI 1) rfl rfl (BZ (BE (vs:=[vI 0,vI 0,vI 0,nS,nS]) (.agg #[vI 0,vI 0,vI 0,nS,nS]) rfl rfl rfl BJ (fun u hu=>by simp only [List.mem_cons,List.not_mem_nil,or_false] at hu;rcases hu with rfl|rfl|rfl|rfl|rfl <;> rfl) (by repeat (constructor)) a0 oT A7 fun M4 A9 M5 M6 s8=>(AA (AE (vI 1) rfl (AG (AC (AM (AZ rfl (DT rfl (EE (vs:=[vI 0,vI 0,vI 0,nS,nS]) rfl U28_ rfl BJ rfl s8 rfl) (EK rfl rfl)) (?_)))))))))))))))
   have B0:((AW c no (BC c day)).1)=(⟨(0:Int),(0:Int),(0:Int),[],[]⟩:Circle):=by exact congrArg (fun p=>p.1) (show AW c no (BC c day)=_ from fin_done hok oM oM aS)
   have B1:((AW c no (BC c day)).2)=(1:Int):=by exact congrArg (fun p=>p.2) (show AW c no (BC c day)=_ from fin_done hok oM oM aS)
   exact ⟨_,rfl,A9.keep,by rw [B0,B1];exact ⟨[vI 0,vI 0,vI 0,nS,nS],rfl,Enc.out (B:=(b5 :: (a4 :: (a2 :: (b1 :: (b0 :: (b4 :: []))))))) ⟨.slice none 0 0, .slice none 0 0,rfl,(BL.nil _ _ _),(BL.nil _ _ _)⟩⟩⟩
  refine AA (JF (k:=2) (vN (.func 82) #[] #[vP (some ⟨a4,0,none⟩)]) U110_ U3_ rfl (congrArg vI e2) b7 rfl (AA (AD (vT #[vN (.func 82) #[] #[vP (some ⟨a4,0,none⟩)],vO true]) rfl (AA (AL (vN (.func 82) #[] #[vP (some ⟨a4,0,none⟩)]) rfl rfl (AA (AL (vO true) rfl rfl (AA (AE (vN (.func 82) #[] #[vP (some ⟨a4,0,none⟩)]) rfl (AA (AE (vO true) rfl (AG (AC (AF (AB kR (AA (AD (vO true) rfl (AG (AC (AJ true rfl rfl (fun _=>AB kR (AA (AD (vN (.func 82) #[] #[vP (some ⟨a4,0,none⟩)]) rfl (AA (HX [] [vP (some ⟨a4,0,none⟩)] [] enter_82 rfl rfl (BW 3 Try.func82 rfl rfl oT (fun M7=>AB kR (AA (AK U106_ rfl (vP (some ⟨a2,0,none⟩)) rfl a9 rfl (AA (ES [vP (some ⟨a2,0,none⟩),vO false,vI 452] IQ rfl (BW 11 Try.func72 rfl rfl oT (fun M8=>AF (AB kR (AA (AD (vO false) rfl (AA (FF false rfl (AG (AC (AJ true rfl rfl (fun _=>AB kR (AA (AD (vI 452) rfl (AA (DN (l:=[(0, .tmp 8)]) ND QA rfl [(0,vI 452,[vI 452])] [vI 452] rfl ⟨_,rfl,rfl,oT,rfl⟩ (AA (LC (vA #[vI 452]) U125_ rfl rfl (BZ (KZ rfl (FE rfl (DY (FE rfl (DY (FE rfl (DY (FE rfl (DY (HB (LB (HQ [vP (some ⟨b0,0,none⟩),vP (some ⟨b1,0,none⟩)] (.panicking [{ v:=Value.iface 125 (vA #[vI 452]),recovered:=false }]) rfl (fun h=>by cases h) rfl FD (NF (452:Int) b0 b1 j5 a3 a1 (by repeat (constructor)) (by repeat (constructor)) b8) (fun e_ M9 hR_=>?_))))))))))))))))))))) (fun h=>by cases h)))))))))))))))))))))) (fun h=>by cases h)))))))))))))))))))))
  obtain ⟨v_,rfl,B2,N0,B3,s9,t0⟩:=hR_
  have a0:=a0.keep B3 (YS c1 c4)
  refine Exists.intro _ (And.intro (DT rfl (EE (vs:=[vI 0,vI 0,vI 0,nS,nS]) rfl U28_ rfl BJ rfl s9 rfl) (LS rfl U29_ rfl rfl t0 rfl)) (CZ (AA (AL (vA #[vI 0,vI 0,vI 0,nS,nS]) rfl rfl (AA (AL (vI 452) rfl rfl (BZ (BE (vs:=[vI 0,vI 0,vI 0,nS,nS]) (.agg #[vI 0,vI 0,vI 0,nS,nS]) rfl rfl rfl BJ (fun u hu=>by simp only [List.mem_cons,List.not_mem_nil,or_false] at hu;rcases hu with rfl|rfl|rfl|rfl|rfl <;> rfl) (by repeat (constructor)) a0 oT B2 fun N1 B4 N2 N3 t2=>(AA (AE (vI 452) rfl (AG (AC (AM (AZ rfl (DT rfl (EE (vs:=[vI 0,vI 0,vI 0,nS,nS]) rfl U28_ rfl BJ rfl t2 rfl) (EK rfl rfl)) (?_)))))))))))))))
  have B5:((AW c no (BC c day)).1)=(⟨(0:Int),(0:Int),(0:Int),[],[]⟩:Circle):=by exact congrArg (fun p=>p.1) (show AW c no (BC c day)=_ from fin_dead hok oM oM aS)
  have B6:((AW c no (BC c day)).2)=(452:Int):=by exact congrArg (fun p=>p.2) (show AW c no (BC c day)=_ from fin_dead hok oM oM aS)
  exact ⟨_,rfl,B4.keep,by rw [B5,B6];exact ⟨[vI 0,vI 0,vI 0,nS,nS],rfl,Enc.out (B:=(b5 :: (a4 :: (a2 :: (b1 :: (b0 :: (b4 :: []))))))) ⟨.slice none 0 0, .slice none 0 0,rfl,(BL.nil _ _ _),(BL.nil _ _ _)⟩⟩⟩
 have E5:no<(0:Int):=by simpa using k7
 refine AN rfl (AN rfl (AN rfl (AN rfl (AN rfl (AA (BH (vO true) rfl rfl (AG (AC (AJ true rfl rfl (fun _=>AF (AB kR (AA (BI (vs:=[vI 0,vI 0,vI 0,nS,nS]) U28_ rfl BJ rfl a3 rfl (BZ (BE (vs:=[vI 0,vI 0,vI 0,nS,nS]) (.agg #[vI 0,vI 0,vI 0,nS,nS]) rfl rfl rfl BJ (fun u hu=>by simp only [List.mem_cons,List.not_mem_nil,or_false] at hu;rcases hu with rfl|rfl|rfl|rfl|rfl <;> rfl) (by repeat (constructor)) a3 oT g7 fun N4 B7 N5 o1 i9=>(?_))))))) (fun h=>by cases h))))))))))
 have a0:=a0.keep o1 (AS c1)
 have a1:=a1.keep o1 (AS (Ne.symm b8))
 refine BZ (BY (vI 1) rfl rfl rfl PF (by repeat (constructor)) a1 oT B7 fun N6 B8 N7 o2 t3=>(?_))
 have a0:=a0.keep o2 (AS c4)
 have i9:=i9.keep o2 (AS b8)
 refine AG (AC (AM (AP (OY rfl (DT rfl (EE (vs:=[vI 0,vI 0,vI 0,nS,nS]) rfl U28_ rfl BJ rfl i9 rfl) (LS rfl U29_ rfl rfl t3 rfl)) (CZ (AA (AL (vA #[vI 0,vI 0,vI 0,nS,nS]) rfl rfl (AA (AL (vI 1) rfl rfl (BZ (BE (vs:=[vI 0,vI 0,vI 0,nS,nS]) (.agg #[vI 0,vI 0,vI 0,nS,nS]) rfl rfl rfl BJ (fun u hu=>by simp only [List.mem_cons,List.not_mem_nil,or_false] at hu;rcases hu with rfl|rfl|rfl|rfl|rfl <;> rfl) (by repeat (constructor)) a0 oT B8 fun N8 B9 N9 O0 t4=>(AA (AE (vI 1) rfl (AG (AC (AM (AZ rfl (DT rfl (EE (vs:=[vI 0,vI 0,vI 0,nS,nS]) rfl U28_ rfl BJ rfl t4 rfl) (EK rfl rfl)) (?_))))))))))))))))))
 have C0:((AW c no (BC c day)).1)=(⟨(0:Int),(0:Int),(0:Int),[],[]⟩:Circle):=by exact congrArg (fun p=>p.1) (show AW c no (BC c day)=_ from fin_no hok oM)
 have C1:((AW c no (BC c day)).2)=(1:Int):=by exact congrArg (fun p=>p.2) (show AW c no (BC c day)=_ from fin_no hok oM)
 exact ⟨_,rfl,B9.keep,by rw [C0,C1];exact ⟨[vI 0,vI 0,vI 0,nS,nS],rfl,Enc.out (B:=(b1 :: (b0 :: (b4 :: [])))) ⟨.slice none 0 0, .slice none 0 0,rfl,(BL.nil _ _ _),(BL.nil _ _ _)⟩⟩⟩
open Go.Fw Go.RowKit
set_option maxHeartbeats 4000000 in
set_option maxRecDepth 100000 in
theorem c_has {O:List Nat} (l_v:Value) (l:List Int) (n:Int) (w:World) (a2:BL Enc.int w O l_v l) (hO:∀ b∈O,b<w.heap.size):CM Try.prog 36 [l_v,vI n] w (fun v _=>v = .bool (l.contains n)):= by
 have a8:=a2.len_le
 have a2:BL Enc.int w ([]++O) l_v l:=a2
 have s0:St w O w []:=St.start hO
 refine BP 18 Try.func36 rfl rfl oT (fun F0=>AF (AB kR (AA (AE (vO false) rfl (AG (AC (AF (AF (AB kR (AA (AE (vI 0) rfl (AG (AC (BQ (DU (fun mI FI wI=>∃ (k:Nat),k≤l.length∧(∀ q,q<k→l[q]!≠n)∧mI=l.length - k∧(∃ F1,FI=GN F1 [(0,l_v),(1,vI n),(5,vI ((k:Nat):Int)),(18,undef)])∧w=wI) (l.length - (0)) ?_ ?_)))))))))))))))
 ·exact ⟨(0),oM,(fun q hq=>by omega),rfl,⟨_,BD _ ⟨rfl,rfl,(by rfl),rfl,trivial⟩⟩,rfl⟩
 rintro b0 F b1 ⟨k,hr0_0,hr0_1,b2,⟨b3,rfl⟩,rfl⟩
 refine AF (AF (AB kR (AA (AD (vI ((k:Nat):Int)) rfl (AA (AD (l_v) rfl (AA (CK U22_ rfl a2 (AA (EB .i64 ((k:Nat):Int) (l.length:Int) rfl rfl (AG (AC (AJ (decide (((k:Nat):Int)<(l.length:Int))) rfl rfl (fun a0=>?_) (fun a0=>?_))))))))))))))
 ·have a4:((k:Nat):Int)<(l.length:Int):=by simpa using a0
  refine AT (AC (AF (BQ (AF (AB kR (AA (AD (l_v) rfl (AA (AD (vI ((k:Nat):Int)) rfl (AA (DO U22_ OB .i64 ((k:Nat):Int) k rfl rfl rfl a2 oM fun a9 a3=>(AA (CG U3_ rfl rfl a3 (AA (AD (vI n) rfl (AA (EZ .i64 (l[k]!) n rfl rfl (AG (AC (AJ ((l[k]!) == n) rfl rfl (fun a1=>?_) (fun a1=>?_)))))))))))))))))))))
  ·have a5:l[k]! = n:=by simpa using a1
   refine AF (AB kR (AA (AE (vO true) rfl (AG (AC (AM (CE (AP (AP (CE (AP (AZ rfl (CN rfl rfl rfl) (?_)))))))))))))
   have e:(l.contains n)=true:=by exact has_yes (k:=k) oM aS
   exact ⟨_,rfl,s0.keep,(by exact congrArg vO e.symm)⟩
  have a6:l[k]!≠n:=by simpa using a1
  refine AT (CB (AC (AB kR (AA (AD (vI ((k:Nat):Int)) rfl (AA (DR .i64 ((k:Nat):Int) (1:Int) (((k+1:Nat):Int)) rfl rfl (GZ oM oM) (AA (AE (vI ((k+1:Nat):Int)) rfl (AG (AC (?_))))))))))))
  exact ⟨_,oM,(k+1),oM,(all_step hr0_1 aS),rfl,⟨_,BD _ ⟨rfl,rfl,(by rfl),rfl,trivial⟩⟩,rfl⟩
 have a7:(l.length:Int)≤((k:Nat):Int):=by simpa using a0
 refine DW (CL (CL (DK (AC (AF (AB kR (AA (AE (vO false) rfl (AG (AC (AM (AZ rfl (CN rfl rfl rfl) (?_)))))))))))))
 have e:(l.contains n)=false:=by exact has_no (fun q hq=>hr0_1 q oM)
 exact ⟨_,rfl,s0.keep,(by exact congrArg vO e.symm)⟩
open Go.Fw
theorem inc_pw {l:List Int}:IS l=true↔l.Pairwise (· < ·)∧∀ x∈l,0≤x∧x<4096:=by
  constructor
  · intro h
    refine ⟨List.pairwise_iff_getElem.2 fun i j hi hj hij=>?_,fun x hx=>?_⟩
    · have:=MQ h i j hij hj
      rwa [getElem!_pos l i hi,getElem!_pos l j hj] at this
    · obtain ⟨i,hi,rfl⟩:=List.getElem_of_mem hx
      have:=TR h i hi
      rwa [getElem!_pos l i hi] at this
  · rintro ⟨h1,h2⟩
    refine (VS l).2 fun k hk=>SR.2 ⟨?_,?_⟩
    · unfold LR
      rw [getElem!_pos l k hk]
      split
      · have:=(h2 _ (List.getElem_mem hk)).1;omega
      · have:=List.pairwise_iff_getElem.1 h1 (k - 1) k (by omega) hk (by omega)
        rwa [getElem!_pos l (k - 1) (by omega)]
    · rw [getElem!_pos l k hk];exact (h2 _ (List.getElem_mem hk)).2
theorem YI (a:Int) (l:List Int) (x:Int):RE (a :: l) x=if a<x then a :: RE l x else x :: a :: l:=by
  unfold RE tw
  by_cases h:a<x
  · simp [h]
  · simp [h]
theorem QV {x y:Int}:∀ {l:List Int},y∈RE l x↔y=x∨y∈l
  | []=>by simp [RE,tw]
  | a :: l=>by
    rw [YI]
    split
    · rw [List.mem_cons,QV,List.mem_cons]
      constructor
      · rintro (h|h|h)
        · exact .inr (.inl h)
        · exact .inl h
        · exact .inr (.inr h)
      · rintro (h|h|h)
        · exact .inr (.inl h)
        · exact .inl h
        · exact .inr (.inr h)
    · simp
theorem putIn_pw {x:Int}:∀ {l:List Int},l.Pairwise (· < ·)→x∉l→(RE l x).Pairwise (· < ·)
  | [],_,_=>by simp [RE,tw]
  | a :: l,h,hx=>by
    obtain ⟨h1,h2⟩:=List.pairwise_cons.1 h
    rw [YI]
    split
    · rename_i ha
      refine List.pairwise_cons.2 ⟨fun y hy=>?_,putIn_pw h2 (fun hm=>hx (List.mem_cons_of_mem _ hm))⟩
      rcases QV.1 hy with rfl|hy
      · exact ha
      · exact h1 y hy
    · rename_i ha
      have hne:x≠a:=fun e=>hx (by rw [e];exact List.mem_cons_self ..)
      refine List.pairwise_cons.2 ⟨fun y hy=>?_,h⟩
      rcases List.mem_cons.1 hy with rfl|hy
      · omega
      · have:=h1 y hy;omega
theorem bsF_cons (a:Int) (l:List Int) (x:Int):VE (a :: l) x=if a<x then VE l x else (a == x):=by
  unfold VE tw
  by_cases h:a<x
  · simp [h]
  · simp [h]
theorem bsF_iff {x:Int}:∀ {l:List Int},l.Pairwise (· < ·)→(VE l x=true↔x∈l)
  | [],_=>by simp [VE,tw]
  | a :: l,h=>by
    obtain ⟨h1,h2⟩:=List.pairwise_cons.1 h
    rw [bsF_cons]
    split
    · rename_i ha
      rw [bsF_iff h2,List.mem_cons]
      exact ⟨.inr,fun hm=>hm.resolve_left (fun e=>by omega)⟩
    · rename_i ha
      rw [List.mem_cons,beq_iff_eq]
      constructor
      · intro e;exact .inl e.symm
      · rintro (e|hm)
        · exact e.symm
        · have:=h1 x hm;omega
section
variable {c:Circle} {no:Int}
theorem guard_range (hok:AO c=0) {x:Int} (hx:c.guardians.contains x=true):0≤x∧x<4096:=by
  have hh:=((GX c).1 hok).1
  simp only [DV,dbs] at hh
  have hi:IS c.guardians=true:=by simp_all
  exact (inc_pw.1 hi).2 x (by simpa using hx)
end
open Go.Fw
theorem any_f {l:List Share} {f:Share→Bool}:l.any f=false↔∀ k,k<l.length→f l[k]! = false:=by
  rw [List.any_eq_false]
  constructor
  · intro h k hk
    have:=h l[k]! (by rw [getElem!_pos l k hk];exact List.getElem_mem _)
    simpa using this
  · intro h x hx
    obtain ⟨i,hi,rfl⟩:=List.getElem_of_mem hx
    have:=h i hi
    rw [getElem!_pos l i hi] at this;simp [this]
theorem TZ {c:Circle} {s:Share}:FW c s=false↔s.epoch=c.epoch∧s.threshold=c.threshold∧s.many=(c.guardians.length:Int):=by
  unfold FW;simp only [Bool.or_eq_false_iff,bne_eq_false_iff_eq];rw [and_assoc]
theorem AAd:BN []=80:=by decide
theorem XO (c:Circle):CD c []=80:=by rw [WS (by rw [AAd];decide),AAd]
theorem belong_ok {c:Circle} {l:List Share} (h:CD c l=0):Vd l∧∀ k,k<l.length→l[k]!.epoch=c.epoch∧l[k]!.threshold=c.threshold∧l[k]!.many=(c.guardians.length:Int):=by
  by_cases hc:BN l=0
  · refine ⟨(EM l).1 hc,fun k hk=>?_⟩
    cases hf:l.any (FW c) with
    | true=>rw [XA hc hf] at h;cases h
    | false=>exact TZ.1 (any_f.1 hf k hk)
  · rw [WS hc] at h;exact absurd h hc
theorem On.belong {P:Nat→List UInt8} {c:Circle} {n:Nat} {x:List Share} (h:On P c.epoch c.threshold (c.guardians.length:Int) n x) (hn:Num c.epoch c.threshold (c.guardians.length:Int) n) (hx:0<x.length):CD c x=0:=
  belong_3 ((EM x).2 (h.vd hn hx)) (any_f.2 fun k hk=>TZ.2 ⟨h.ep k hk,h.th k hk,h.ma k hk⟩)
theorem On.strange {P:Nat→List UInt8} {c:Circle} {ep t m:Int} {n:Nat} {x:List Share} (h:On P ep t m n x) (hn:Num ep t m n) (hx:0<x.length) (he:ep≠c.epoch):CD c x=460:=by
  refine XA ((EM x).2 (h.vd hn hx)) ?_
  rw [← Bool.not_eq_false]
  intro hf
  have:=TZ.1 (any_f.1 hf 0 hx)
  rw [h.ep 0 hx] at this
  exact he this.1
theorem sel255:∀ n,n≤8→LV 255 n=List.range n:=by
  intro n h
  have:∀ n:Fin 9,LV 255 n.1=List.range n.1:=by decide +kernel
  exact this ⟨n,by omega⟩
theorem range_getS (l:List Share):((List.range l.length).map fun p=>l[p]!)=l:=by
  apply WU (by simp)
  intro i hi
  rw [GB _ _ _ (by simpa using hi)]
theorem some255 {l:List Share} (h:l.length≤8):AI l 255 l.length=l:=by
  unfold AI;rw [sel255 _ h];exact range_getS l
theorem Spl.len8 {secret:List UInt8} {ep t m:Int} {l:List Share} (h:Spl secret ep t m l):l.length≤8:=by
  have:=h.len;have:=h.num.m8;omega
theorem Spl.pos {secret:List UInt8} {ep t m:Int} {l:List Share} (h:Spl secret ep t m l):0<l.length:=by
  have:=h.len;have:=h.num.t1;have:=h.num.tm;omega
theorem Spl.all {secret:List UInt8} {ep t m:Int} {l:List Share} (h:Spl secret ep t m l):CS l=(secret,0):=by
  have:=h.join 255 (by rw [some255 h.len8,h.len];exact h.num.tm)
  rwa [some255 h.len8] at this
theorem Spl.bel {secret:List UInt8} {c:Circle} {l:List Share} (h:Spl secret c.epoch c.threshold (c.guardians.length:Int) l) (mask:UInt8) (hp:0<(AI l mask l.length).length):CD c (AI l mask l.length)=0:=by
  obtain ⟨P,h1,_⟩:=h.ex
  exact (h1.some mask).belong h.num hp
theorem Spl.strange {secret:List UInt8} {c:Circle} {ep t m:Int} {l:List Share} (h:Spl secret ep t m l) (he:ep≠c.epoch):CD c l=460:=by
  obtain ⟨P,h1,_⟩:=h.ex
  exact h1.strange h.num h.pos he
section
variable {c:Circle} {l:List Share} {secret coins:List UInt8} {others:List Int} {t no:Int}
theorem deal_ok (h:(CU c secret coins).2=0):AO c=0∧CU c secret coins=BB secret c.epoch c.threshold (c.guardians.length:Int) coins:=by
  by_cases hc:AO c=0
  · exact ⟨hc,deal_2 hc⟩
  · rw [deal_1 hc] at h;exact absurd h hc
theorem deal_spl (h:(CU c secret coins).2=0):Spl secret c.epoch c.threshold (c.guardians.length:Int) (CU c secret coins).1:=by
  have:=deal_ok h
  rw [this.2] at h ⊢
  exact QL h
theorem deal_none (h:(CU c secret coins).2≠0):(CU c secret coins).1=[]:=by
  by_cases hc:AO c=0
  · rw [deal_2 hc] at h ⊢;rw [HY rfl (by rw [← GR];exact h)]
  · rw [deal_1 hc]
theorem YH (h:(BM c l coins).2.2=0):AO c=0∧CD c l=0∧(BR l coins).2=0∧BM c l coins=(⟨c.epoch+1,c.threshold,c.wait,c.guardians,c.recs⟩,(BR l coins).1,0):=by
  by_cases hc:AO c=0
  · by_cases hb:CD c l=0
    · by_cases hr:(BR l coins).2=0
      · exact ⟨hc,hb,hr,VU hc hb hr⟩
      · rw [VR hc hb hr] at h;exact absurd h hr
    · rw [VV hc hb] at h;exact absurd h hb
  · rw [WB hc] at h;exact absurd h hc
theorem SC (h:(AU c l others t coins).2.2=0):AO c=0∧CD c l=0∧(CS l).2=0∧(CU (NE c others t) (CS l).1 coins).2=0∧AU c l others t coins=(NE c others t,(CU (NE c others t) (CS l).1 coins).1,0):=by
  by_cases hc:AO c=0
  · by_cases hb:CD c l=0
    · by_cases hj:(CS l).2=0
      · by_cases hd:(CU (NE c others t) (CS l).1 coins).2=0
        · exact ⟨hc,hb,hj,hd,KJ hc hb hj hd⟩
        · rw [KS hc hb hj hd] at h;exact absurd h hd
      · rw [QR hc hb hj] at h;exact absurd h hj
    · rw [QM hc hb] at h;exact absurd h hb
  · rw [QQ hc] at h;exact absurd h hc
theorem head_epoch {d:Circle} (h:AO c=0) (h1:d.threshold=c.threshold) (h2:d.wait=c.wait) (h3:d.guardians=c.guardians) (h4:d.recs=c.recs) (h5:0≤d.epoch) (h6:d.epoch≤1048576):AO d=0:=by
  have:=(GX c).1 h
  refine (GX d).2 ⟨?_,by rw [h4];exact this.2⟩
  have hh:=this.1
  unfold DV at hh ⊢
  rw [h1,h2,h3,h4]
  simp only [Bool.or_eq_false_iff,decide_eq_false_iff_not] at hh ⊢
  exact ⟨⟨⟨⟨⟨⟨⟨⟨by omega,by omega⟩,hh.1.1.1.1.1.1.2⟩,hh.1.1.1.1.1.2⟩,hh.1.1.1.1.2⟩,hh.1.1.1.2⟩,hh.1.1.2⟩,hh.1.2⟩,hh.2⟩
structure Held (secret:List UInt8) (c:Circle) (l:List Share):Prop where
  ok:AO c=0
  spl:Spl secret c.epoch c.threshold (c.guardians.length:Int) l
theorem ZN (h:(CU c secret coins).2=0):Held secret c (CU c secret coins).1:=⟨(deal_ok h).1,deal_spl h⟩
theorem refresh_ep (hl:Spl secret c.epoch c.threshold (c.guardians.length:Int) l) (h:(BR l coins).2=0):c.epoch<1048576:=by
  have:=hl.num.ep1
  by_cases e:c.epoch=1048576
  · exfalso
    obtain ⟨P,h1,_⟩:=hl.ex
    have hv:=h1.vd hl.num hl.pos
    rw [LF] at h
    unfold EX at h
    rw [if_neg (by rw [(EM l).2 hv];simp),if_neg (by rw [h1.ma 0 hl.pos,hl.len];simp),if_pos (by rw [h1.ep 0 hl.pos];exact e)] at h
    cases h
  · omega
theorem held_renew (hl:Held secret c l) (h:(BM c l coins).2.2=0):Held secret (BM c l coins).1 (BM c l coins).2.1:=by
  obtain ⟨h1,h2,h3,h4⟩:=YH h
  have he:=refresh_ep hl.spl h3
  rw [h4]
  have hs:=spl_refresh hl.spl he h3
  exact ⟨head_epoch h1 rfl rfl rfl rfl (by have:=hs.num.ep0;exact this) (by show c.epoch+1≤_;omega),hs⟩
theorem held_replace (hl:Held secret c l) (h:(AU c l others t coins).2.2=0):Held secret (AU c l others t coins).1 (AU c l others t coins).2.1:=by
  obtain ⟨h1,h2,h3,h4,h5⟩:=SC h
  rw [h5]
  rw [hl.spl.all] at h4 ⊢
  exact ZN h4
theorem held_few (hl:Held secret c l) (mask:UInt8) (hx:((AI l mask l.length).length:Int)<c.threshold) (h0:0≤no) (h1:no<(c.recs.length:Int)) (hs:c.recs[no.toNat]!.state=1):BX c no (AI l mask l.length)=([],80):=by
  by_cases hp:0<(AI l mask l.length).length
  · rw [UF hl.ok h0 h1 (by rw [hs];decide) (by rw [hs];decide) (hl.spl.bel mask hp)];exact hl.spl.few mask hp hx
  · have e:AI l mask l.length=[]:=List.eq_nil_of_length_eq_zero (by omega)
    rw [e,UD hl.ok h0 h1 (by rw [hs];decide) (by rw [hs];decide) (by rw [XO];decide),XO]
theorem ZF (hl:Held secret c l) (mask:UInt8) (hx:c.threshold≤((AI l mask l.length).length:Int)) (h0:0≤no) (h1:no<(c.recs.length:Int)) (hs:c.recs[no.toNat]!.state=1):BX c no (AI l mask l.length)=(secret,0):=by
  have:=hl.spl.num.t1
  rw [UF hl.ok h0 h1 (by rw [hs];decide) (by rw [hs];decide) (hl.spl.bel mask (by omega))];exact hl.spl.join mask hx
end
open Go.Fw
structure Grown (c x:Circle) (no:Int):Prop where
  ok:AO x=0
  ep:x.epoch=c.epoch
  th:x.threshold=c.threshold
  wa:x.wait=c.wait
  gu:x.guardians=c.guardians
  n0:0≤no
  n1:no<(x.recs.length:Int)
theorem TS {c:Circle} {day:Int} (h:(CQ c day).2.2=0):AO c=0∧CO day 0=true∧Grown c (CQ c day).1 (CQ c day).2.1∧(CQ c day).1 = ⟨c.epoch,c.threshold,c.wait,c.guardians,c.recs++[⟨(c.recs.length:Int),day,0,[],[]⟩]⟩∧(CQ c day).2.1=(c.recs.length:Int):=by
  by_cases hc:AO c=0
  · cases hd:CO day (KG c).asked with
    | false=>rw [MI hc hd] at h;cases h
    | true=>
      by_cases hs:(KG c).state=0
      · rw [QO hc hd hs] at h;cases h
      · by_cases hn:(c.recs.length:Int)=1024
        · rw [KR hc hd hs hn] at h;cases h
        · rw [IN hc hd hs hn]
          have h0:=(GX c).1 hc
          have hlast:0≤(KG c).asked:=by
            unfold KG;split
            · rename_i hpos
              exact (RY hc (no:=((c.recs.length - 1:Nat):Int)) (by omega) (by omega)).1
            · simp
          have hd':=KP.1 hd
          refine ⟨hc,KP.2 ⟨by omega,hd'.2⟩,⟨(GX _).2 ⟨?_,fun k hk=>?_⟩,rfl,rfl,rfl,rfl,by simp,by simp;omega⟩,rfl,rfl⟩
          · have hh:=h0.1
            have hr:=QU hc
            unfold DV at hh ⊢
            simp only [Bool.or_eq_false_iff,decide_eq_false_iff_not] at hh ⊢
            exact ⟨hh.1,by simp;omega⟩
          · simp only [List.length_append,List.length_cons,List.length_nil] at hk ⊢
            rw [MH]
            by_cases e:k=c.recs.length
            · subst e
              have hg:(c.recs++[(⟨(c.recs.length:Int),day,0,[],[]⟩:Recovery)])[c.recs.length]! = ⟨(c.recs.length:Int),day,0,[],[]⟩:=by simp
              have ha:FK (c.recs++[(⟨(c.recs.length:Int),day,0,[],[]⟩:Recovery)]) c.recs.length=(KG c).asked:=by
                unfold FK KG
                by_cases z:c.recs.length=0
                · rw [if_pos z,if_neg (by omega)]
                · rw [if_neg z,if_pos (by omega),List.getElem!_eq_getElem?_getD,List.getElem?_append_left (by omega),← List.getElem!_eq_getElem?_getD]
              rw [hg,ha]
              exact ⟨rfl,hd,by simp [EV,IS,GM], .inr (by simp)⟩
            · have hk:k<c.recs.length:=by omega
              have hg:(c.recs++[(⟨(c.recs.length:Int),day,0,[],[]⟩:Recovery)])[k]! = c.recs[k]!:=by rw [List.getElem!_eq_getElem?_getD,List.getElem?_append_left hk,← List.getElem!_eq_getElem?_getD]
              have ha:FK (c.recs++[(⟨(c.recs.length:Int),day,0,[],[]⟩:Recovery)]) k=FK c.recs k:=by
                unfold FK
                by_cases z:k=0
                · rw [if_pos z,if_pos z]
                · rw [if_neg z,if_neg z,List.getElem!_eq_getElem?_getD,List.getElem?_append_left (by omega),← List.getElem!_eq_getElem?_getD]
              have hb:=MH.1 (h0.2 k hk)
              rw [hg,ha]
              refine ⟨hb.1,hb.2.1,hb.2.2.1,?_⟩
              by_cases z:k+1=c.recs.length
              · left
                unfold KG at hs
                rw [if_pos (by omega)] at hs
                rwa [show k=c.recs.length - 1 by omega]
              · rcases hb.2.2.2 with q|q
                · exact .inl q
                · omega
  · rw [SL hc] at h;exact absurd h hc
theorem SW {c:Circle} {no:Int} {f:Recovery→Except Int Recovery} (hf:∀ r e,f r = .error e→e≠0) (h:(AW c no f).2=0):AO c=0∧0≤no∧no<(c.recs.length:Int)∧∃ r,f c.recs[no.toNat]! = .ok r∧AW c no f=(NK c no.toNat r,0):=by
  by_cases hc:AO c=0
  · by_cases hn:no<0∨(c.recs.length:Int)≤no
    · unfold AW at h;rw [if_neg (by simpa using hc),if_pos hn] at h;cases h
    · refine ⟨hc,by omega,by omega,?_⟩
      cases hr:f c.recs[no.toNat]! with
      | error x=>
        have e:AW c no f=(EI,x):=by unfold AW;rw [if_neg (by simpa using hc),if_neg hn];simp only [hr]
        rw [e] at h;exact absurd h (hf _ _ hr)
      | ok r=>
        have e:AW c no f=(NK c no.toNat r,0):=by unfold AW;rw [if_neg (by simpa using hc),if_neg hn];simp only [hr];rfl
        exact ⟨r,rfl,e⟩
  · unfold AW at h;rw [if_pos (by simpa using hc)] at h;exact absurd h hc
theorem UR {c x:Circle} {no:Int} {r:Recovery} (h:Grown c x no) (hno:r.no=x.recs[no.toNat]!.no) (ha:r.asked=x.recs[no.toNat]!.asked) (hr:EV r=true) (hs:r.state≠0∨x.recs[no.toNat]!.state=0):Grown c (NK x no.toNat r) no:=
  ⟨UP h.ok (by have:=h.n0;have:=h.n1;omega) hno ha hr hs,h.ep,h.th,h.wa,h.gu,h.n0,by simp [NK];exact h.n1⟩
theorem RG {c x:Circle} {no g:Int} (h:Grown c x no) (h2:(AW x no (AV x g)).2=0):Grown c (AW x no (AV x g)).1 no:=by
  obtain ⟨_,h0,h1,r,hr,e⟩:=SW (fun r e he=>by
    unfold AV at he
    split at he
    · cases he;decide
    · split at he
      · cases he;decide
      · split at he
        · cases he;decide
        · split at he <;> cases he) h2
  rw [e]
  have hrec:=KB h.ok (k:=no.toNat) (by omega)
  unfold AV at hr
  split at hr
  · cases hr
  · split at hr
    · cases hr
    · split at hr
      · cases hr
      · rename_i hs2 hs1 hg
        have hs:x.recs[no.toNat]!.state=0:=by
          have:=IF h.ok h0 h1
          simp only [beq_iff_eq] at hs2 hs1
          omega
        have hg:x.guardians.contains g=true:=by simpa using hg
        split at hr
        · cases hr;exact UR h rfl rfl hrec (.inr hs)
        · rename_i hb
          cases hr
          refine UR h rfl rfl ?_ (.inr hs)
          have hp:=EL hrec
          have hinc:=inc_pw.1 hp.2.2
          have hgr:=guard_range h.ok hg
          have hnot:g∉x.recs[no.toNat]!.approved:=fun hm=>hb ((bsF_iff hinc.1).2 hm)
          have hi:IS (RE x.recs[no.toNat]!.approved g)=true:=inc_pw.2 ⟨putIn_pw hinc.1 hnot,fun y hy=>by
            rcases QV.1 hy with e|hy
            · rw [e];exact hgr
            · exact hinc.2 y hy⟩
          unfold EV at hrec ⊢
          simp only [hs,hi] at hrec ⊢
          simp only [hp.2.2] at hrec
          exact hrec
theorem TK {c x:Circle} {no day:Int} (h:Grown c x no) (h2:(AW x no (BC x day)).2=0):Grown c (AW x no (BC x day)).1 no∧(AW x no (BC x day)).1.recs[no.toNat]!.state=1:=by
  obtain ⟨_,h0,h1,r,hr,e⟩:=SW (fun r e he=>by
    unfold BC at he
    repeat' split at he
    all_goals cases he
    all_goals decide) h2
  rw [e]
  have hrec:=KB h.ok (k:=no.toNat) (by omega)
  unfold BC at hr
  repeat' split at hr
  all_goals cases hr
  rename_i hs2 hs1 _ _ _
  have hs:x.recs[no.toNat]!.state=0:=by
    have:=IF h.ok h0 h1
    simp only [beq_iff_eq] at hs2 hs1
    omega
  refine ⟨UR h rfl rfl ?_ (.inl (by show (1:Int)≠0;decide)),?_⟩
  · have hp:=EL hrec
    unfold EV at hrec ⊢
    simp only [hs,hp.2.2] at hrec ⊢
    exact hrec
  · show (x.recs.set no.toNat _)[no.toNat]!.state=1
    rw [YK (by omega),if_pos rfl]
open Go.Fw
def SN (c:Circle):Bool:=decide (0<(c.recs.length:Int)) && (c.recs[c.recs.length - 1]!.state == 0)
def dayOf (c:Circle):Int:=if 0<(c.recs.length:Int) then c.recs[c.recs.length - 1]!.asked else 0
abbrev askD (c:Circle):Circle × Int × Int:=CQ c (dayOf c)
def FS (c:Circle):Nat→Circle × Int
  | 0=>((askD c).1,(askD c).2.2)
  | k+1=>if (FS c k).2=0 then AW (FS c k).1 (askD c).2.1 (AV (FS c k).1 c.guardians[k]!) else FS c k
def finD (c:Circle):Circle × Int:=
  if (FS c c.guardians.length).2=0 then AW (FS c c.guardians.length).1 (askD c).2.1 (BC (FS c c.guardians.length).1 (min 1023 (dayOf c+c.wait))) else FS c c.guardians.length
def PB (c:Circle):Circle × Int × Bool:=if SN c then (c,0,false) else ((finD c).1,(askD c).2.1,(finD c).2 == 0)
theorem done_1 {c:Circle} (h:SN c=true):PB c=(c,0,false):=if_pos h
theorem done_2 {c:Circle} (h:SN c=false):PB c=((finD c).1,(askD c).2.1,(finD c).2 == 0):=if_neg (by rw [h];simp)
theorem app_y {c:Circle} {k:Nat} (h:(FS c k).2=0):FS c (k+1)=AW (FS c k).1 (askD c).2.1 (AV (FS c k).1 c.guardians[k]!):=by rw [FS,if_pos h]
theorem app_n {c:Circle} {k:Nat} (h:(FS c k).2≠0):FS c (k+1)=FS c k:=by rw [FS,if_neg h]
theorem fin_y {c:Circle} (h:(FS c c.guardians.length).2=0):finD c=AW (FS c c.guardians.length).1 (askD c).2.1 (BC (FS c c.guardians.length).1 (min 1023 (dayOf c+c.wait))):=if_pos h
theorem fin_n {c:Circle} (h:(FS c c.guardians.length).2≠0):finD c=FS c c.guardians.length:=if_neg h
theorem AAe {c:Circle}:∀ k,(FS c k).2=0→AO c=0∧CO (dayOf c) 0=true∧Grown c (FS c k).1 (askD c).2.1
  | 0,h=>by have:=TS h;exact ⟨this.1,this.2.1,this.2.2.1⟩
  | k+1,h=>by
    by_cases hk:(FS c k).2=0
    · have ih:=AAe k hk
      rw [app_y hk] at h ⊢
      exact ⟨ih.1,ih.2.1,RG ih.2.2 h⟩
    · rw [app_n hk] at h;exact absurd h hk
theorem done_grown {c:Circle} (h:(PB c).2.2=true):AO c=0∧Grown c (PB c).1 (PB c).2.1∧(PB c).1.recs[(PB c).2.1.toNat]!.state=1:=by
  cases hl:SN c with
  | true=>rw [done_1 hl] at h;cases h
  | false=>
    rw [done_2 hl] at h ⊢
    have hf:(finD c).2=0:=by simpa using h
    by_cases ha:(FS c c.guardians.length).2=0
    · have ih:=AAe _ ha
      rw [fin_y ha] at hf ⊢
      exact ⟨ih.1,TK ih.2.2 hf⟩
    · rw [fin_n ha] at hf;exact absurd hf ha
open Go.Fw
theorem Spl.ixd {a b:List UInt8} {ep ep' t m:Int} {l k:List Share} (h:Spl a ep t m l) (h':Spl b ep' t m k) {j:Nat} (hj:j<l.length):k[j]!.index=l[j]!.index:=by
  rw [h.full.2 j hj,h'.full.2 j (by rw [h'.full.1,← h.full.1];exact hj)]
theorem Spl.sum {a b:List UInt8} {ep ep' t m:Int} {l k:List Share} (h:Spl a ep t m l) (h':Spl b ep' t m k) (hab:a.length=b.length):Spl (tab a.length fun i=>a[i]! ^^^ b[i]!) ep t m (sumL l k a.length l.length):=by
  obtain ⟨P,h1,h2,h3⟩:=h.ex
  obtain ⟨Q,k1,k2,k3⟩:=h'.ex
  have hlk:l.length=k.length:=by rw [h.full.1,h'.full.1]
  have hn:=h.num
  refine ⟨⟨hn.t1,hn.tm,hn.m8,by rw [JB];exact hn.n64,hn.ep0,hn.ep1⟩,⟨by rw [NM,h.full.1],fun k hk=>by rw [NM] at hk;rw [IC hk];exact h.full.2 k hk⟩,fun p=>padd (P p) (Q p),?_,fun p hp i hi=>?_,fun p hp=>?_⟩
  · rw [JB]
    refine ⟨fun j hj=>?_,fun j hj=>?_,fun j hj=>?_,fun j hj=>?_,fun j hj=>?_,fun i j hij hj=>?_,fun j hj p hp=>?_⟩ <;> rw [NM] at hj
    · rw [IC hj];exact h1.ep j hj
    · rw [IC hj];exact h1.th j hj
    · rw [IC hj];exact h1.ma j hj
    · rw [IC hj];exact JB _ _
    · rw [IC hj];exact h1.ix j hj
    · rw [IC hj,IC (by omega)];exact h1.inc i j hij hj
    · rw [IC hj];simp only [NV];rw [JP,if_pos hp,SS,h1.val j hj p hp,k1.val j (by omega) p (by omega),h.ixd h' hj]
  · rw [JB] at hp;rw [WJ,h2 p hp i hi,k2 p (by omega) i hi];rfl
  · rw [JB] at hp;rw [SS,h3 p hp,k3 p (by omega),JP,if_pos hp]
theorem ZT {T:List Share} {m:Int} (hT:Full m T) {i:Nat} (hi:i<T.length):FZ T (fun o=>o.index == (i:Int)+1)=(i:Int):=by
  unfold FZ
  rcases TW (fun k=>T[k]!.index == (i:Int)+1) (T.length - 0) 0 with ⟨h1,h2⟩|⟨k,h1,h2,h3,h4,_⟩
  · have:=h2 i (by omega) (by omega)
    rw [hT.2 i hi] at this;simp at this
  · rw [h4]
    rw [hT.2 k (by omega)] at h3
    simp only [beq_iff_eq] at h3
    omega
theorem atS_full {T:List Share} {m:Int} (hT:Full m T) {i:Nat} (hi:i<T.length):atS T ((i:Int)+1)=T[i]!:=by
  unfold atS;rw [ZT hT hi];rfl
section
variable {s other:List UInt8} {ep ep' t m:Int} {y T:List Share}
theorem mix_eq (hy:Spl s ep' t m y) (hT:Spl other ep t m T) {i:Nat} (hi:i<y.length):mixS T y[i]! = NV y T s.length i:=by
  have hTl:T.length=y.length:=by rw [hT.full.1,hy.full.1]
  unfold mixS NV xorM
  rw [show atS T y[i]!.index=T[i]! by rw [hy.full.2 i hi];exact atS_full hT.full (by omega),hy.da hi]
theorem mixD_eq (hy:Spl s ep' t m y) (hT:Spl other ep t m T) (mask:UInt8):FP (AI y mask y.length) T (AI y mask y.length).length=AI (sumL y T s.length y.length) mask (sumL y T s.length y.length).length:=by
  unfold FP
  rw [List.take_length,NM]
  unfold AI
  rw [List.map_map]
  refine List.map_congr_left fun i hi=>?_
  have hi:i<y.length:=by
    unfold LV at hi
    exact List.mem_range.1 (List.mem_filter.1 hi).1
  show mixS T y[i]! = _
  rw [mix_eq hy hT hi,IC hi]
end
theorem some_eq {l k:List Share} {mask:UInt8} (hlk:l.length=k.length) (h:AI l mask l.length=AI k mask k.length) {i:Nat} (hi:i<l.length) (hs:selB mask i=true):l[i]! = k[i]!:=by
  unfold AI at h
  rw [← hlk] at h
  have:=List.map_inj_left.1 h i (by unfold LV;exact List.mem_filter.2 ⟨List.mem_range.2 hi,hs⟩)
  exact this
theorem some_congr {l k:List Share} {mask:UInt8} (hlk:l.length=k.length) (h:∀ i,i<l.length→selB mask i=true→l[i]! = k[i]!):AI l mask l.length=AI k mask k.length:=by
  unfold AI
  rw [← hlk]
  refine List.map_congr_left fun i hi=>?_
  unfold LV at hi
  have:=List.mem_filter.1 hi
  exact h i (List.mem_range.1 this.1) this.2
theorem hide3 {secret s2 other:List UInt8} {ep t m:Int} {l y:List Share} (hl:Spl secret ep t m l) (hy:Spl s2 (ep+1) t m y) (h2:s2.length=secret.length) (ho:other.length=secret.length) {a b:UInt8}
    {old now:List Share} (hold:AI l a l.length=old) (hnow:AI y b y.length=now) (ha:0<old.length) (ha':(old.length:Int)<t) (hb:0<now.length) (hb':(now.length:Int)<t) :
    AX old now other=((AQ old other).1++(JS old now other).1,0)∧(BB other ep t m (AQ old other).1).2=0∧AI (BB other ep t m (AQ old other).1).1 a (BB other ep t m (AQ old other).1).1.length=old
      ∧((AQ old other).1.length:Int)=(secret.length:Int)*(t - 1)∧((JS old now other).1.length:Int)=(secret.length:Int)*(t - 1)
      ∧(BR (BB other ep t m (AQ old other).1).1 (JS old now other).1).2=0∧AI (BR (BB other ep t m (AQ old other).1).1 (JS old now other).1).1 b (BR (BB other ep t m (AQ old other).1).1 (JS old now other).1).1.length=now:=by
  obtain ⟨P,p1,_⟩:=hl.ex
  obtain ⟨Q,q1,_⟩:=hy.ex
  have pold:=p1.some a
  have qnow:=q1.some b
  rw [hold] at pold
  rw [hnow] at qnow
  have e1:=hl.explain a (other:=other) ho (by rw [hold];exact ha) (by rw [hold];exact ha')
  rw [hold] at e1
  obtain ⟨e1,e2,e3⟩:=e1
  have hT:=QL e2
  have hP:((AQ old other).1.length:Int)=(secret.length:Int)*(t - 1):=by
    rw [GR] at e2
    have:=((HC _ _ _ _ _).1 e2).2.2.2.2.2.2
    rw [ho] at this;exact this
  have hmp:CT old other=(BB other ep t m (AQ old other).1).1:=by
    unfold CT;rw [pold.ep 0 ha,pold.th 0 ha,pold.ma 0 ha]
  generalize hTe:(BB other ep t m (AQ old other).1).1=T at *
  have hD:=hy.sum hT (by rw [h2,ho])
  have hd:FP now T now.length=AI (sumL y T s2.length y.length) b (sumL y T s2.length y.length).length:=by
    rw [← hnow];exact mixD_eq hy hT b
  have hzl:(List.replicate other.length (0:UInt8)).length=(tab s2.length fun i=>s2[i]! ^^^ other[i]!).length:=by rw [JB,List.length_replicate,ho,h2]
  have hdl:(FP now T now.length).length=now.length:=by unfold FP;rw [List.take_length,List.length_map]
  have f1:=hD.explain b (other:=List.replicate other.length 0) hzl (by rw [← hd,hdl];exact hb) (by rw [← hd,hdl];exact hb')
  rw [← hd] at f1
  have hQ:JS old now other=AQ (FP now T now.length) (List.replicate other.length 0):=by unfold JS;rw [hmp]
  rw [← hQ] at f1
  obtain ⟨f1,f2,f3⟩:=f1
  have hQl:((JS old now other).1.length:Int)=(secret.length:Int)*(t - 1):=by
    have f2':=f2
    rw [GR] at f2'
    have:=((HC _ _ _ _ _).1 f2').2.2.2.2.2.2
    rw [List.length_replicate,ho] at this;exact this
  have hep:ep<1048576:=by have:=hy.num.ep1;omega
  have hr:(BR T (JS old now other).1).2=0:=(refresh_iff hT hep _).2 (by rw [ho];exact hQl)
  refine ⟨?_,e2,e3,hP,hQl,hr,?_⟩
  · have hb0:MG old[0]! now[0]! = false:=by
      unfold MG
      rw [pold.th 0 ha,pold.ma 0 ha,pold.da 0 ha,pold.ep 0 ha,qnow.th 0 hb,qnow.ma 0 hb,qnow.da 0 hb,qnow.ep 0 hb,h2]
      simp
    have c1:BN old=0:=(EM old).2 (pold.vd hl.num ha)
    have c2:BN now=0:=(EM now).2 (qnow.vd hy.num hb)
    unfold AX
    rw [c1,c2,hb0,e1,f1]
    simp
  · have hTl:T.length=y.length:=by rw [hT.full.1,hy.full.1]
    have hR:(BR T (JS old now other).1).1=HL T (JS old now other).1:=by
      rw [LF] at hr
      unfold BR;rw [if_pos hr]
    have hRl:(HL T (JS old now other).1).length=T.length:=by simp [HL]
    refine Eq.trans ?_ hnow
    rw [hR]
    refine some_congr (by rw [hRl,hTl]) fun i hi hs=>?_
    rw [hRl] at hi
    obtain ⟨PT,t1,_⟩:=hT.ex
    have hpos:=hT.pos
    -- the refreshing's shares are those of the difference
    have hz:=QL f2
    have hzl2:(BB (List.replicate other.length 0) (ep+1) t m (JS old now other).1).1.length=(sumL y T s2.length y.length).length:=by rw [hz.full.1,NM,hy.full.1]
    have hzi:=some_eq hzl2 (f3.trans hd) (i:=i) (by rw [hzl2,NM];omega) hs
    rw [IC (by omega)] at hzi
    have hsp:=HH f2
    rw [hsp.2] at hzi
    have g1:(HL T (JS old now other).1)[i]! = GL T T[0]! (IE T[0]! (JS old now other).1).1 i:=by unfold HL;rw [GB _ _ _ hi]
    have hb2:EJ (List.replicate other.length 0) ep t m (JS old now other).1=0:=by
      have:=hr
      rw [LF,QH hT hep] at this;exact this
    have g2:(IE T[0]! (JS old now other).1).1=GW (List.replicate other.length 0) ep t m (JS old now other).1:=by
      unfold IE
      rw [t1.da 0 hpos,t1.ep 0 hpos,t1.th 0 hpos,t1.ma 0 hpos]
      exact (HH (by rw [GR];exact hb2)).2
    have hml:i<m.toNat:=by rw [← hT.full.1];exact hi
    have g3:(GW (List.replicate other.length 0) ep t m (JS old now other).1)[i]!.data=(GW (List.replicate other.length 0) (ep+1) t m (JS old now other).1)[i]!.data:=by
      rw [KL hml,KL hml];rfl
    rw [g1,g2]
    refine AAi ?_ ?_ ?_ ?_ ?_
    · show T[i]!.epoch+1=_;rw [t1.ep i hi,q1.ep i (by omega)]
    · show T[i]!.index=_;exact (hT.ixd hy hi).symm
    · show T[i]!.threshold=_;rw [t1.th i hi,q1.th i (by omega)]
    · show T[i]!.many=_;rw [t1.ma i hi,q1.ma i (by omega)]
    · show PO T _ T[0]!.data.length i=_
      unfold PO
      rw [g3,hzi]
      refine QK (by rw [List.length_map,List.length_range,t1.da 0 hpos,hy.da (by omega),h2,ho]) fun k=>?_
      by_cases hk:k<T[0]!.data.length
      · rw [GB _ _ _ hk]
        rw [t1.da 0 hpos] at hk
        simp only [NV]
        rw [JP,if_pos (by omega)]
        rw [UInt8.xor_comm y[i]!.data[k]!,← UInt8.xor_assoc,UInt8.xor_self,UInt8.zero_xor]
      · rw [EA (by simpa using hk),EA (by rw [t1.da 0 hpos] at hk;rw [hy.da (by omega)];omega)]
open Go.Fw
theorem Good.count {l:List Share} (h:Good l):∀ k:Nat,k<l.length→(k:Int)+1≤l[k]!.index
  | 0,hk=>by have:=h.ix 0 hk;omega
  | k+1,hk=>by have:=h.count k (by omega);have:=h.inc k hk;omega
theorem Good.len8 {l:List Share} (h:Good l):l.length≤8:=by
  have h1:=h.pos
  have h2:=h.count (l.length - 1) (by omega)
  have h3:=h.ix (l.length - 1) (by omega)
  have:=h.m8
  omega
theorem SB {l:List Share} {secret:List UInt8} (h:(AQ l secret).2=0):Vd l∧(l.length:Int)<l[0]!.threshold∧(secret.length:Int)=(l[0]!.data.length:Int)∧((AQ l secret).1.length:Int)=(secret.length:Int)*(l[0]!.threshold - 1):=by
  have hc:BN l=0:=by
    by_cases c:BN l=0
    · exact c
    · rw [SI c rfl] at h;exact h
  have hv:=(EM l).1 hc
  have h2:(l.length:Int)<l[0]!.threshold:=by
    by_cases c:(l.length:Int)<l[0]!.threshold
    · exact c
    · rw [NI hc (by omega) rfl] at h;cases h
  have h3:(secret.length:Int)=(l[0]!.data.length:Int):=by
    by_cases c:(secret.length:Int)=(l[0]!.data.length:Int)
    · exact c
    · rw [SJ hc h2 c rfl] at h;cases h
  refine ⟨hv,h2,h3,?_⟩
  rw [QJ hc h2 h3 rfl]
  have:=hv.t1;have:=hv.tm;have:=hv.m8
  show ((JU l secret (l[0]!.threshold.toNat - 1 - l.length) secret.length).length:Int)=_
  rw [IB hv.toGood (by omega),show l.length+(l[0]!.threshold.toNat - 1 - l.length)=l[0]!.threshold.toNat - 1 by omega]
  rw [Int.natCast_mul];congr 1;omega
theorem PP {l:List Share} {secret:List UInt8} (h:(AQ l secret).2=0):(AQ l secret).1.length≤1000∧secret.length≤64:=by
  have h1:=SB h
  have h2:=h1.2.2.2
  have h3:=h1.2.2.1
  have:=h1.1.d64;have:=h1.1.t1;have:=h1.1.tm;have:=h1.1.m8
  have hs:secret.length≤64:=by omega
  refine ⟨?_,hs⟩
  have h4:(secret.length:Int)*(l[0]!.threshold - 1)≤64*7:=Int.mul_le_mul (by omega) (by omega) (by omega) (by omega)
  omega
theorem ZY {a:List Share} {secret:List UInt8} (h:(AQ a secret).2=0):(BB secret a[0]!.epoch a[0]!.threshold a[0]!.many (AQ a secret).1).2=0:=by
  obtain ⟨hv,_,h3,h4⟩:=SB h
  have:=hv.t1;have:=hv.tm;have:=hv.m8;have:=hv.d64;have:=hv.ep0;have:=hv.ep1
  rw [GR]
  exact (HC _ _ _ _ _).2 ⟨by omega,by omega,by omega,by omega,by omega,by omega,h4⟩
theorem mix_spl {a:List Share} {secret:List UInt8} (h:(AQ a secret).2=0):Spl secret a[0]!.epoch a[0]!.threshold a[0]!.many (CT a secret):=QL (ZY h)
theorem SA (f g:Share):MG f g=false↔f.threshold=g.threshold∧f.many=g.many∧f.data.length=g.data.length∧g.epoch=f.epoch+1:=by
  unfold MG;simp only [dbs];omega
theorem IJ {f g:Share} (h:f.threshold≠g.threshold∨f.many≠g.many∨(f.data.length:Int)≠(g.data.length:Int)∨g.epoch≠f.epoch+1):MG f g=true:=by
  rw [← Bool.not_eq_false];intro e
  have:=(SA f g).1 e
  omega
def NN (x y:List UInt8) (k:Nat):List UInt8:=tab x.length fun i=>if i<k then x[i]! ^^^ y[i]! else x[i]!
theorem xorP_zero (x y:List UInt8):NN x y 0=x:=by
  unfold NN
  refine QK (by rw [JB]) fun i=>?_
  rw [JP]
  by_cases c:i<x.length
  · rw [if_pos c,if_neg (by omega)]
  · rw [if_neg c,EA (by omega)]
theorem HO (x y:List UInt8) (k:Nat):(NN x y k).length=x.length:=JB _ _
theorem xorP_at {x y:List UInt8} {k:Nat} (h:k<x.length):(NN x y k)[k]! = x[k]!:=by unfold NN;rw [JP,if_pos h,if_neg (by omega)]
theorem xorP_set {x y:List UInt8} {k:Nat} (h:k<x.length):(NN x y k).set k ((NN x y k)[k]! ^^^ y[k]!)=NN x y (k+1):=by
  refine QK (by rw [List.length_set,HO,HO]) fun i=>?_
  rw [xorP_at h]
  by_cases e:i=k
  · subst e
    rw [getElem!_pos _ i (by rw [List.length_set,HO];exact h),List.getElem_set_self]
    unfold NN;rw [JP,if_pos h,if_pos (by omega)]
  · by_cases c:i<x.length
    · rw [getElem!_pos _ i (by rw [List.length_set,HO];exact c),List.getElem_set_ne (by omega),← getElem!_pos _ i (by rw [HO];exact c)]
      unfold NN;rw [JP,JP,if_pos c,if_pos c]
      by_cases d:i<k
      · rw [if_pos d,if_pos (by omega)]
      · rw [if_neg d,if_neg (by omega)]
    · rw [EA (by rw [List.length_set,HO];omega),EA (by rw [HO];omega)]
theorem xorP_all (x y:List UInt8):NN x y x.length=xorM x y:=by
  unfold NN xorM
  refine QK (by rw [JB,JB]) fun i=>?_
  rw [JP,JP]
  by_cases c:i<x.length
  · rw [if_pos c,if_pos c,if_pos c]
  · rw [if_neg c,if_neg c]
structure Mx (a b:List Share) (secret:List UInt8):Prop where
  va:Vd a
  vb:Vd b
  th:a[0]!.threshold=b[0]!.threshold
  ma:a[0]!.many=b[0]!.many
  da:a[0]!.data.length=b[0]!.data.length
  ep:b[0]!.epoch=a[0]!.epoch+1
  len:secret.length=a[0]!.data.length
  sp:Spl secret a[0]!.epoch a[0]!.threshold a[0]!.many (CT a secret)
theorem mx_of {a b:List Share} {secret:List UInt8} (hb:BN b=0) (h:(AQ a secret).2=0) (hm:MG a[0]! b[0]! = false):Mx a b secret:=
  have h1:=SB h
  have h2:=(SA _ _).1 hm
  ⟨h1.1,(EM b).1 hb,h2.1,h2.2.1,h2.2.2.1,h2.2.2.2,by omega,mix_spl h⟩
section
variable {a b:List Share} {secret:List UInt8} (h:Mx a b secret) {k:Nat} (hk:k<b.length)
include h hk
theorem Mx.idx:FZ (CT a secret) (fun o=>o.index == b[k]!.index)=b[k]!.index - 1∧0≤b[k]!.index - 1∧b[k]!.index - 1<((CT a secret).length:Int):=by
  have h1:=h.vb.ix k hk
  have h2:=h.sp.full.1
  have h3:=h.ma
  have hj:(b[k]!.index - 1).toNat<(CT a secret).length:=by rw [h2];omega
  have:=ZT h.sp.full hj
  rw [show (((b[k]!.index - 1).toNat:Nat):Int)+1=b[k]!.index by omega] at this
  rw [this];omega
theorem Mx.at:atS (CT a secret) b[k]!.index=(CT a secret)[(b[k]!.index - 1).toNat]!:=by unfold atS;rw [(h.idx hk).1]
theorem Mx.dl:(atS (CT a secret) b[k]!.index).data.length=secret.length:=by
  have h1:=h.idx hk
  rw [h.at hk];exact h.sp.da (by omega)
theorem Mx.idx':0≤FZ (CT a secret) (fun o=>o.index == b[k]!.index)∧FZ (CT a secret) (fun o=>o.index == b[k]!.index)<((CT a secret).length:Int):=by
  have h1:=h.idx hk
  exact ⟨by rw [h1.1];exact h1.2.1,by rw [h1.1];exact h1.2.2⟩
theorem Mx.dl':((CT a secret)[(FZ (CT a secret) (fun o=>o.index == b[k]!.index)).toNat]!).data.length=secret.length:=h.dl hk
theorem Mx.bl:b[k]!.data.length=secret.length:=by rw [h.vb.da k hk,← h.da,h.len]
end
theorem mixD_succ {b s:List Share} {k:Nat} (hk:k<b.length):FP b s (k+1)=FP b s k++[mixS s b[k]!]:=by
  unfold FP;rw [List.take_add_one,List.map_append,List.getElem?_eq_getElem hk,getElem!_pos b k hk];rfl
theorem mixD_len (b s:List Share) (k:Nat):(FP b s k).length≤k:=by unfold FP;rw [List.length_map,List.length_take];omega
section
variable {a b:List Share} {secret:List UInt8}
theorem mixed_1 (h:BN a≠0):AX a b secret=([],BN a):=if_pos (by simpa using h)
theorem mixed_2 (h:BN a=0) (h2:BN b≠0):AX a b secret=([],BN b):=by unfold AX;rw [if_neg (by simpa using h),if_pos (by simpa using h2)]
theorem NC (h:BN a=0) (h2:BN b=0) (h3:MG a[0]! b[0]! = true):AX a b secret=([],460):=by unfold AX;rw [if_neg (by simpa using h),if_neg (by simpa using h2),if_pos h3]
section
variable (h:BN a=0) (h2:BN b=0) (h3:MG a[0]! b[0]! = false)
include h h2 h3
theorem mixed_4 (h4:(AQ a secret).2≠0):AX a b secret=([],(AQ a secret).2):=by unfold AX;rw [if_neg (by simpa using h),if_neg (by simpa using h2),if_neg (by rw [h3];simp),if_pos (by simpa using h4)]
theorem mixed_5 (h4:(AQ a secret).2=0) (h5:(JS a b secret).2≠0):AX a b secret=([],(JS a b secret).2):=by unfold AX;rw [if_neg (by simpa using h),if_neg (by simpa using h2),if_neg (by rw [h3];simp),if_neg (by simpa using h4),if_pos (by simpa using h5)]
theorem mixed_6 (h4:(AQ a secret).2=0) (h5:(JS a b secret).2=0):AX a b secret=((AQ a secret).1++(JS a b secret).1,0):=by unfold AX;rw [if_neg (by simpa using h),if_neg (by simpa using h2),if_neg (by rw [h3];simp),if_neg (by simpa using h4),if_neg (by simpa using h5)]
end
end
section
variable {a b:List Share} {secret:List UInt8}
section
variable (h:AAa a=0) (h2:AAa b=0) (h3:MG a[0]! b[0]! = false)
include h h2 h3
end
end
open Go.Fw
theorem join_none {l:List Share} (h:(CS l).2≠0):(CS l).1=[]:=by
  unfold CS at h ⊢
  split
  · rfl
  · split
    · rfl
    · rename_i h1 h2;rw [if_neg h1,if_neg h2] at h;exact absurd rfl h
theorem join_ok {l:List Share} (h:(CS l).2=0):BN l=0∧l[0]!.threshold≤(l.length:Int)∧(CS l).1.length=l[0]!.data.length:=by
  have hc:BN l=0:=by
    by_cases c:BN l=0
    · exact c
    · rw [ZO c rfl] at h;exact h
  have ht:l[0]!.threshold≤(l.length:Int):=by
    by_cases c:l[0]!.threshold≤(l.length:Int)
    · exact c
    · rw [TQ hc (by omega) rfl] at h;cases h
  refine ⟨hc,ht,?_⟩
  rw [YD hc ht rfl]
  have:=((EM l).1 hc).t1
  show (joinL (l.take l[0]!.threshold.toNat)).length=_
  unfold joinL
  rw [List.length_map,List.length_range,take0 (by omega)]
section
variable {c x:Circle} {no:Int} {l m:List Share} {secret more next:List UInt8} {others:List Int} {t:Int}
theorem rest_ok (h:(BX c no l).2=0):AO c=0∧0≤no∧no<(c.recs.length:Int)∧c.recs[no.toNat]!.state=1∧CD c l=0∧BX c no l=CS l:=by
  have hc:AO c=0:=by
    by_cases q:AO c=0
    · exact q
    · rw [rest_1 q] at h;exact absurd h q
  have hn:0≤no∧no<(c.recs.length:Int):=by
    by_cases q:no<0∨(c.recs.length:Int)≤no
    · rw [UT hc q] at h;cases h
    · omega
  have h2:c.recs[no.toNat]!.state≠2:=fun q=>by rw [rest_3 hc hn.1 hn.2 q] at h;cases h
  have h0:c.recs[no.toNat]!.state≠0:=fun q=>by rw [rest_4 hc hn.1 hn.2 q] at h;cases h
  have hb:CD c l=0:=by
    by_cases q:CD c l=0
    · exact q
    · rw [UD hc hn.1 hn.2 h2 h0 q] at h;exact absurd h q
  have hs:=EL (KB hc (k:=no.toNat) (by omega))
  exact ⟨hc,hn.1,hn.2,by omega,hb,UF hc hn.1 hn.2 h2 h0 hb⟩
theorem rest_none (h:(BX c no l).2≠0):(BX c no l).1=[]:=by
  by_cases q:AO c=0
  · by_cases q2:no<0∨(c.recs.length:Int)≤no
    · rw [UT q q2]
    · have h0:0≤no:=by omega
      have h1:no<(c.recs.length:Int):=by omega
      by_cases q3:c.recs[no.toNat]!.state=2
      · rw [rest_3 q h0 h1 q3]
      · by_cases q4:c.recs[no.toNat]!.state=0
        · rw [rest_4 q h0 h1 q4]
        · by_cases q5:CD c l=0
          · rw [UF q h0 h1 q3 q4 q5] at h ⊢;exact join_none h
          · rw [UD q h0 h1 q3 q4 q5]
  · rw [rest_1 q]
structure Needs (c:Circle) (no:Int) (l:List Share):Prop where
  ck:AO c=0
  n0:0≤no
  n1:no<(c.recs.length:Int)
  st:c.recs[no.toNat]!.state=1
  few:c.threshold≤(l.length:Int)
  all:∀ k,k<l.length→l[k]!.epoch=c.epoch∧l[k]!.threshold=c.threshold∧l[k]!.many=(c.guardians.length:Int)∧l[k]!.data.length=(BX c no l).1.length
  jn:CS l=((BX c no l).1,0)
theorem needs_of (h:(BX c no l).2=0):Needs c no l:=by
  obtain ⟨h1,h2,h3,h4,h5,h6⟩:=rest_ok h
  have hb:=belong_ok h5
  rw [h6] at h
  have hj:=join_ok h
  have hp:=hb.1.pos
  refine ⟨h1,h2,h3,h4,by rw [← (hb.2 0 hp).2.1];exact hj.2.1,fun k hk=>⟨(hb.2 k hk).1,(hb.2 k hk).2.1,(hb.2 k hk).2.2,by rw [h6,hj.2.2];exact hb.1.da k hk⟩,?_⟩
  rw [h6];exact Prod.ext rfl h
structure KeptI (secret:List UInt8) (no:Int) (x:Circle) (m:List Share):Prop where
  held:Held secret x m
  n0:0≤no
  n1:no<(x.recs.length:Int)
  st:x.recs[no.toNat]!.state=1
theorem KeptI.rest (h:KeptI secret no x m) (mask:UInt8) (hx:x.threshold≤((AI m mask m.length).length:Int)):BX x no (AI m mask m.length)=(secret,0):=ZF h.held mask hx h.n0 h.n1 h.st
theorem KeptI.few (h:KeptI secret no x m) (mask:UInt8) (hx:((AI m mask m.length).length:Int)<x.threshold):BX x no (AI m mask m.length)=([],80):=held_few h.held mask hx h.n0 h.n1 h.st
theorem KeptI.len8 (h:KeptI secret no x m):m.length≤8:=h.held.spl.len8
structure OldC (c:Circle) (l:List Share) (x:Circle):Prop where
  ok:AO x=0
  ep:x.epoch=c.epoch+1
  bel:CD x l=460
theorem OldC.r3 (h:OldC c l x) (hd:(PB x).2.2=true):(BX (PB x).1 (PB x).2.1 l).2=460:=by
  obtain ⟨_,g,hs⟩:=done_grown hd
  have hf:FW (PB x).1=FW x:=by funext s;unfold FW;rw [g.ep,g.th,g.gu]
  have hb:CD (PB x).1 l=460:=by unfold CD;rw [hf];exact h.bel
  rw [UD g.ok g.n0 g.n1 (by rw [hs];decide) (by rw [hs];decide) (by rw [hb];decide),hb]
end
open Go.Fw
structure Tale where
  asked:Int
  done:Int
  approved:List Int
  vetoed:Bool
instance:Inhabited Tale:=⟨⟨0,0,[],false⟩⟩
abbrev noM (c:Circle) (n:UInt8):Int:=(c.recs.length:Int) - 1 - ((n % 4).toNat:Int)
def countL (a l:List Int):Nat:=a.countP (fun x=>l.contains x)
structure RelT (l:List Int) (t w:Int) (r:Recovery) (s:Tale):Prop where
  st1:r.state=1↔0≤s.done
  st2:r.state=2↔s.vetoed=true
  asked:r.asked=s.asked
  mem:∀ x,x∈r.approved↔x∈s.approved
  nd:s.approved.Nodup
  dn:0≤s.done→s.asked+w≤s.done∧t≤(countL s.approved l:Int)
theorem nodup_len {a b:List Int} (ha:a.Nodup) (hb:b.Nodup) (h:∀ x,x∈a↔x∈b):a.length=b.length:=by
  have h1:∀ {a b:List Int},a.Nodup→(∀ x,x∈a→x∈b)→a.length≤b.length:=by
    intro a
    induction a with
    | nil=>intro b _ _;simp
    | cons x r ih=>
      intro b hn hs
      obtain ⟨hx,hr⟩:=List.nodup_cons.1 hn
      have hb:=hs x List.mem_cons_self
      have:=ih (b:=b.erase x) hr (fun y hy=>(List.mem_erase_of_ne (fun e=>by subst e;exact hx hy)).2 (hs y (List.mem_cons_of_mem _ hy)))
      rw [List.length_erase_of_mem hb] at this
      have:=List.length_pos_of_mem hb
      simp only [List.length_cons];omega
  exact Nat.le_antisymm (h1 ha fun x hx=>(h x).1 hx) (h1 hb fun x hx=>(h x).2 hx)
section
variable {l:List Int} {t w:Int} {c:Circle} {T:List Tale} {k n g:UInt8} {day no:Int}
theorem RelT.len {r:Recovery} {s:Tale} (h:RelT l t w r s) (hr:EV r=true):r.approved.length=s.approved.length:=nodup_len (inc_nodup (EL hr).2.2) h.nd h.mem
theorem PH {x:Int} (h:(AW c no (AV c x)).2=0):AO c=0∧0≤no∧no<(c.recs.length:Int)∧c.recs[no.toNat]!.state=0∧AO (AW c no (AV c x)).1=0∧
    ∃ m,AW c no (AV c x)=(NK c no.toNat ⟨c.recs[no.toNat]!.no,c.recs[no.toNat]!.asked,c.recs[no.toNat]!.state,m,c.recs[no.toNat]!.vetoed⟩,0)∧∀ y,y∈m↔y=x∨y∈c.recs[no.toNat]!.approved:=by
  obtain ⟨hc,h0,h1,r,hr,e⟩:=SW (fun r e he=>by
    unfold AV at he
    split at he
    · cases he;decide
    · split at he
      · cases he;decide
      · split at he
        · cases he;decide
        · split at he <;> cases he) h
  have hg:Grown c c no:=⟨hc,rfl,rfl,rfl,rfl,h0,h1⟩
  have hv:=(RG hg h).ok
  refine ⟨hc,h0,h1,?_,hv,?_⟩
  · unfold AV at hr
    split at hr
    · cases hr
    · split at hr
      · cases hr
      · rename_i hs2 hs1
        have:=IF hc h0 h1
        simp only [beq_iff_eq] at hs2 hs1
        omega
  · have hp:=(EL (KB hc (k:=no.toNat) (by omega))).2.2
    unfold AV at hr
    split at hr
    · cases hr
    · split at hr
      · cases hr
      · split at hr
        · cases hr
        · split at hr
          · rename_i hb
            cases hr
            exact ⟨c.recs[no.toNat]!.approved,e,fun y=>⟨fun hy=>.inr hy,fun hy=>by
              rcases hy with rfl|hy
              · exact (bsF_iff (inc_pw.1 hp).1).1 hb
              · exact hy⟩⟩
          · cases hr
            exact ⟨_,e,fun y=>QV⟩
theorem veto_get (h:(AW c no (CF day)).2=0):AO c=0∧0≤no∧no<(c.recs.length:Int)∧AO (AW c no (CF day)).1=0∧c.recs[no.toNat]!.state≠1∧
    ∃ v,AW c no (CF day)=(NK c no.toNat ⟨c.recs[no.toNat]!.no,c.recs[no.toNat]!.asked,2,c.recs[no.toNat]!.approved,v⟩,0):=by
  obtain ⟨hc,h0,h1,r,hr,e⟩:=SW (fun r e he=>by
    unfold CF at he
    repeat' split at he
    all_goals cases he
    all_goals decide) h
  have hrec:=KB hc (k:=no.toNat) (by omega)
  have hp:=EL hrec
  unfold CF at hr
  split at hr
  · cases hr
  · rename_i hd
    split at hr
    · rename_i hs
      have hs:c.recs[no.toNat]!.state=2:=by simpa using hs
      cases hr
      refine ⟨hc,h0,h1,?_,by omega,c.recs[no.toNat]!.vetoed,by rw [e];congr 2;exact (by rw [← hs])⟩
      rw [e]
      exact UP hc (by omega) rfl rfl hrec (.inl (by omega))
    · split at hr
      · cases hr
      · rename_i hs2 hs1
        have hs:c.recs[no.toNat]!.state≠1:=by simpa using hs1
        cases hr
        refine ⟨hc,h0,h1,?_,hs,[day],e⟩
        rw [e]
        refine UP hc (by omega) rfl rfl ?_ (.inl (by show (2:Int)≠0;decide))
        unfold EV
        simp only [hp.2.2]
        simpa using hd
theorem WO (h:(AW c no (BC c day)).2=0):AO c=0∧0≤no∧no<(c.recs.length:Int)∧c.recs[no.toNat]!.state=0∧AO (AW c no (BC c day)).1=0∧0≤day∧c.recs[no.toNat]!.asked+c.wait≤day∧c.threshold≤(HV c.recs[no.toNat]!.approved c.guardians c.guardians.length:Int)∧
    AW c no (BC c day)=(NK c no.toNat ⟨c.recs[no.toNat]!.no,c.recs[no.toNat]!.asked,1,c.recs[no.toNat]!.approved,c.recs[no.toNat]!.vetoed⟩,0):=by
  obtain ⟨hc,h0,h1,r,hr,e⟩:=SW (fun r e he=>by
    unfold BC at he
    repeat' split at he
    all_goals cases he
    all_goals decide) h
  have hv:=(TK ⟨hc,rfl,rfl,rfl,rfl,h0,h1⟩ h).1.ok
  unfold BC at hr
  repeat' split at hr
  all_goals cases hr
  rename_i hs2 hs1 hd ha hw
  have hs:c.recs[no.toNat]!.state=0:=by
    have:=IF hc h0 h1
    simp only [beq_iff_eq] at hs2 hs1
    omega
  refine ⟨hc,h0,h1,hs,hv,?_,?_,?_,e⟩
  · have:CO day 0=true:=by simpa using hd
    exact (KP.1 this).1
  · simp only [decide_eq_true_eq] at hw;omega
  · have:MY c c.recs[no.toNat]! = true:=by simpa using ha
    unfold MY at this
    simpa using this
theorem gnew_bad (h:(DL l t w).2≠0):(DL l t w).2=450∧(DL l t w).1.guardians=[]:=by
  have key:AO ⟨0,t,w,l,[]⟩ = 0∨AO ⟨0,t,w,l,[]⟩ = 450:=by
    unfold AO
    split
    · exact .inr rfl
    · exact .inl rfl
  unfold DL at h ⊢
  by_cases c:(AO ⟨0,t,w,l,[]⟩ != 0)=true
  · rw [if_pos c]
    refine ⟨?_,rfl⟩
    rcases key with k|k
    · rw [k] at c;cases c
    · exact k
  · rw [if_neg c] at h;exact absurd rfl h
end
open Go.Fw
structure RelG (r:Recovery) (a:Int) (p:Int→Bool) (v d:Bool):Prop where
  asked:r.asked=a
  mem:∀ g,g∈r.approved↔p g=true
  st1:r.state=1↔d=true
  st2:r.state=2↔v=true
structure GuardI (c:Circle) (asked:List Int) (appr:List (Int→Bool)) (vetoed done:List Bool):Prop where
  ok:AO c=0
  la:asked.length=c.recs.length
  lp:appr.length=c.recs.length
  lv:vetoed.length=c.recs.length
  ld:done.length=c.recs.length
  rel:∀ i,i<c.recs.length→RelG c.recs[i]! asked[i]! appr[i]! vetoed[i]! done[i]!
def upP (p:Int→Bool) (g:Int):Int→Bool:=fun x=>x == g || p x
section
variable {c:Circle} {asked:List Int} {appr:List (Int→Bool)} {vetoed done:List Bool} {day no:Int} {g:Int}
theorem TB {α:Type} [Inhabited α] {l:List α} {i j:Nat} {x:α} (hj:j<l.length):(l.set i x)[j]! = if i=j then x else l[j]!:=by
  rw [getElem!_pos (l.set i x) j (by rw [List.length_set];exact hj),List.getElem_set,← getElem!_pos l j hj]
theorem PY {α:Type} [Inhabited α] {l:List α} {i:Nat} {x:α} (hi:i<l.length):(l++[x])[i]! = l[i]!:=by
  rw [getElem!_pos (l++[x]) i (by simp;omega),List.getElem_append_left hi,← getElem!_pos l i hi]
theorem PS {α:Type} [Inhabited α] {l:List α} {i:Nat} {x:α} (hi:i=l.length):(l++[x])[i]! = x:=by
  subst hi
  rw [getElem!_pos (l++[x]) l.length (by simp),List.getElem_append_right (Nat.le_refl _)];simp
theorem guard_new (h:AO c=0) (hr:c.recs=[]):GuardI c [] [] [] []:=⟨h,by rw [hr];rfl,by rw [hr];rfl,by rw [hr];rfl,by rw [hr];rfl,fun i hi=>by rw [hr] at hi;cases hi⟩
theorem ZD (h:GuardI c asked appr vetoed done) (he:(CQ c day).2.2=0):(CQ c day).2.1=(asked.length:Int)∧GuardI (CQ c day).1 (asked++[day]) (appr++[fun _=>false]) (vetoed++[false]) (done++[false]):=by
  obtain ⟨_,_,gr,e,e2⟩:=TS he
  have la:=h.la
  have lp:=h.lp
  have lv:=h.lv
  have ld:=h.ld
  refine ⟨by rw [e2,la],⟨gr.ok,by rw [e];simp [la],by rw [e];simp [lp],by rw [e];simp [lv],by rw [e];simp [ld],fun i hi=>?_⟩⟩
  rw [e] at hi ⊢
  have hi:i<c.recs.length+1:=by simpa using hi
  by_cases q:i<c.recs.length
  · show RelG (c.recs++[_])[i]! _ _ _ _
    rw [PY q,PY (by omega),PY (by omega),PY (by omega),PY (by omega)]
    exact h.rel i q
  · have q:i=c.recs.length:=by omega
    show RelG (c.recs++[_])[i]! _ _ _ _
    rw [PS q,PS (by omega),PS (by omega),PS (by omega),PS (by omega)]
    exact ⟨rfl,fun g=>by simp,by simp,by simp⟩
theorem TV (h:GuardI c asked appr vetoed done) (h0:0≤no) (h1:no<(c.recs.length:Int)) {r:Recovery} (hok:AO (NK c no.toNat r)=0) {p:Int→Bool} {v d:Bool} (hr:RelG r asked[no.toNat]! p v d) :
    GuardI (NK c no.toNat r) asked (appr.set no.toNat p) (vetoed.set no.toNat v) (done.set no.toNat d):=by
  have la:=h.la
  have lp:=h.lp
  have lv:=h.lv
  have ld:=h.ld
  refine ⟨hok,by simp [NK,la],by simp [NK,lp],by simp [NK,lv],by simp [NK,ld],fun i hi=>?_⟩
  have hi:i<c.recs.length:=by simpa [NK] using hi
  show RelG (c.recs.set no.toNat r)[i]! _ _ _ _
  rw [TB hi,TB (by omega),TB (by omega),TB (by omega)]
  by_cases q:no.toNat=i
  · rw [if_pos q,if_pos q,if_pos q,if_pos q,← q];exact hr
  · rw [if_neg q,if_neg q,if_neg q,if_neg q];exact h.rel i hi
theorem MC {α:Type} [Inhabited α] {l:List α} {i:Nat} (hi:i<l.length):l.set i l[i]! = l:=by
  rw [getElem!_pos l i hi];exact List.set_getElem_self _
theorem RF (h:GuardI c asked appr vetoed done) (he:(AW c no (AV c g)).2=0):0≤no∧no<(asked.length:Int)∧GuardI (AW c no (AV c g)).1 asked (appr.set no.toNat (upP appr[no.toNat]! g)) vetoed done:=by
  obtain ⟨hc,h0,h1,hs,hok,m,e,hm⟩:=PH he
  have la:=h.la
  have lv:=h.lv
  have ld:=h.ld
  have hr:=h.rel no.toNat (by omega)
  refine ⟨h0,by omega,?_⟩
  rw [e] at hok ⊢
  have:=TV (v:=vetoed[no.toNat]!) (d:=done[no.toNat]!) (p:=upP appr[no.toNat]! g) h h0 h1 hok ⟨hr.asked,fun x=>by rw [hm x,hr.mem x];simp [upP],hr.st1,hr.st2⟩
  rwa [MC (by omega),MC (by omega)] at this
theorem approve_in (he:(AW c no (AV c g)).2=0):c.guardians.contains g=true:=by
  obtain ⟨hc,h0,h1,hs,_⟩:=PH he
  cases hg:c.guardians.contains g with
  | true=>rfl
  | false=>
    exfalso
    unfold AW at he
    rw [if_neg (by rw [hc];decide),if_neg (by omega)] at he
    unfold AV at he
    rw [hs,hg] at he
    simp at he
theorem WG (h:GuardI c asked appr vetoed done) (he:(AW c no (CF day)).2=0):0≤no∧no<(asked.length:Int)∧done[no.toNat]! = false∧GuardI (AW c no (CF day)).1 asked appr (vetoed.set no.toNat true) done:=by
  obtain ⟨hc,h0,h1,hok,hs,v,e⟩:=veto_get he
  have la:=h.la
  have lp:=h.lp
  have ld:=h.ld
  have hr:=h.rel no.toNat (by omega)
  have hd:done[no.toNat]! = false:=by
    cases hd:done[no.toNat]! with
    | false=>rfl
    | true=>exact absurd (hr.st1.2 hd) hs
  refine ⟨h0,by omega,hd,?_⟩
  rw [e] at hok ⊢
  have:=TV (v:=true) (d:=done[no.toNat]!) (p:=appr[no.toNat]!) h h0 h1 hok ⟨hr.asked,hr.mem,⟨fun q=>absurd q (show ¬ (2:Int)=1 by decide),fun q=>by rw [hd] at q;cases q⟩,⟨fun _=>rfl,fun _=>rfl⟩⟩
  rwa [MC (by omega),MC (by omega)] at this
def RB (l:List Int) (p:Int→Bool) (k:Nat):Nat:=(l.take k).countP p
theorem AAg {l:List Int} {p:Int→Bool} {k:Nat} (h:k<l.length):RB l p (k+1)=RB l p k+(if p l[k]! then 1 else 0):=by
  unfold RB
  rw [List.take_add_one,List.countP_append,List.getElem?_eq_getElem h,getElem!_pos l k h]
  simp [List.countP_cons]
theorem cntP_le (l:List Int) (p:Int→Bool) (k:Nat):RB l p k≤k:=by
  unfold RB
  have:=List.countP_le_length (p:=p) (l:=l.take k)
  rw [List.length_take] at this;omega
theorem TJ (h:GuardI c asked appr vetoed done) (he:(AW c no (BC c day)).2=0):0≤no∧no<(asked.length:Int)∧vetoed[no.toNat]! = false∧done[no.toNat]! = false∧asked[no.toNat]! + c.wait≤day∧c.threshold≤(RB c.guardians appr[no.toNat]! c.guardians.length:Int)∧
    GuardI (AW c no (BC c day)).1 asked appr vetoed (done.set no.toNat true):=by
  obtain ⟨hc,h0,h1,hs,hok,hd,hw,ha,e⟩:=WO he
  have la:=h.la
  have lp:=h.lp
  have lv:=h.lv
  have ld:=h.ld
  have hr:=h.rel no.toNat (by omega)
  have hv:vetoed[no.toNat]! = false:=by
    cases q:vetoed[no.toNat]! with
    | false=>rfl
    | true=>have:=hr.st2.2 q;omega
  have hdn:done[no.toNat]! = false:=by
    cases q:done[no.toNat]! with
    | false=>rfl
    | true=>have:=hr.st1.2 q;omega
  refine ⟨h0,by omega,hv,hdn,by rw [← hr.asked];exact hw,?_,?_⟩
  · have:HV c.recs[no.toNat]!.approved c.guardians c.guardians.length=RB c.guardians appr[no.toNat]! c.guardians.length:=by
      unfold HV RB
      rw [← List.countP_eq_length_filter]
      refine List.countP_congr fun x _=>?_
      rw [List.contains_iff_mem];exact hr.mem x
    rw [← this];exact ha
  · rw [e] at hok ⊢
    have:=TV (v:=vetoed[no.toNat]!) (d:=true) (p:=appr[no.toNat]!) h h0 h1 hok ⟨hr.asked,hr.mem,⟨fun _=>rfl,fun _=>rfl⟩,⟨fun q=>absurd q (show ¬ (1:Int)=2 by decide),fun q=>by rw [hv] at q;cases q⟩⟩
    rwa [MC (by omega),MC (by omega)] at this
theorem YL (h:GuardI c asked appr vetoed done) {d:Circle} (hok:AO d=0) (hr:d.recs=c.recs):GuardI d asked appr vetoed done:=
  ⟨hok,by rw [hr];exact h.la,by rw [hr];exact h.lp,by rw [hr];exact h.lv,by rw [hr];exact h.ld,fun i hi=>by rw [hr] at hi ⊢;exact h.rel i hi⟩
end
open Go.Fw
structure ShareI (secret:List UInt8) (c:Circle) (l old:List Share) (renewed:Bool):Prop where
  held:Held secret c l
  prev:old=[]∨∃ ep t m,Spl secret ep t m old∧ep<c.epoch
  ren:renewed=true→Spl secret (c.epoch - 1) c.threshold (c.guardians.length:Int) old
section
variable {secret coins other:List UInt8} {c:Circle} {l old:List Share} {renewed:Bool} {no:Int} {a b:UInt8}
theorem share_deal (h:(CU c secret coins).2=0):ShareI secret c (CU c secret coins).1 [] false:=⟨ZN h, .inl rfl,fun e=>by cases e⟩
theorem share_renew (h:ShareI secret c l old renewed) (he:(BM c l coins).2.2=0):ShareI secret (BM c l coins).1 (BM c l coins).2.1 l true:=by
  have hh:=held_renew h.held he
  obtain ⟨_,_,_,e⟩:=YH he
  rw [e] at hh ⊢
  refine ⟨hh, .inr ⟨_,_,_,h.held.spl,?_⟩,fun _=>?_⟩
  · show c.epoch<c.epoch+1;omega
  · show Spl secret (c.epoch+1 - 1) c.threshold (c.guardians.length:Int) l
    rw [Int.add_sub_cancel];exact h.held.spl
theorem YX {others:List Int} {t:Int} (h:ShareI secret c l old renewed) (he:(AU c l others t coins).2.2=0):ShareI secret (AU c l others t coins).1 (AU c l others t coins).2.1 l false:=by
  have hh:=held_replace h.held he
  obtain ⟨_,_,_,_,e⟩:=SC he
  rw [e] at hh ⊢
  refine ⟨hh, .inr ⟨_,_,_,h.held.spl,?_⟩,fun q=>by cases q⟩
  show c.epoch<c.epoch+1;omega
theorem OM (h:ShareI secret c l old renewed) {d:Circle} (hok:AO d=0) (h1:d.epoch=c.epoch) (h2:d.threshold=c.threshold) (h3:d.guardians=c.guardians):ShareI secret d l old renewed:=
  ⟨⟨hok,by rw [h1,h2,h3];exact h.held.spl⟩,by rw [h1];exact h.prev,fun q=>by rw [h1,h2,h3];exact h.ren q⟩
theorem ShareI.len (h:ShareI secret c l old renewed):l.length≤8:=h.held.spl.len8
theorem SE {asked:List Int} {appr:List (Int→Bool)} {vetoed done:List Bool} (h:ShareI secret c l old renewed) (hg:GuardI c asked appr vetoed done) (no:Int) (a:UInt8) :
    ((BX c no (AI l a l.length)).2=0↔0≤no∧no<(asked.length:Int)∧done[no.toNat]! = true∧c.threshold≤((AI l a l.length).length:Int))∧
    ((BX c no (AI l a l.length)).2=0→(BX c no (AI l a l.length)).1=secret)∧((BX c no (AI l a l.length)).2≠0→(BX c no (AI l a l.length)).1=[]):=by
  have la:=hg.la
  have key:0≤no∧no<(asked.length:Int)∧done[no.toNat]! = true∧c.threshold≤((AI l a l.length).length:Int)→BX c no (AI l a l.length)=(secret,0):=fun ⟨h0,h1,h2,h3⟩=>
    ZF h.held a h3 h0 (by omega) ((hg.rel no.toNat (by omega)).st1.2 h2)
  have bwd:(BX c no (AI l a l.length)).2=0→0≤no∧no<(asked.length:Int)∧done[no.toNat]! = true∧c.threshold≤((AI l a l.length).length:Int):=fun q=>by
    have hn:=needs_of q
    have h1:=hn.n1
    have h0:=hn.n0
    exact ⟨h0,by omega,(hg.rel no.toNat (by omega)).st1.1 hn.st,hn.few⟩
  exact ⟨⟨bwd,fun q=>by rw [key q]⟩,fun q=>by rw [key (bwd q)],fun q=>rest_none q⟩
theorem rest_old (h:ShareI secret c l old renewed) (hp:0<old.length) (no:Int):(BX c no old).2≠0:=by
  intro q
  obtain ⟨_,_,_,_,hb,_⟩:=rest_ok q
  rcases h.prev with e|⟨ep,t,m,hs,he⟩
  · rw [e] at hp;cases hp
  · rw [hs.strange (c:=c) (by omega)] at hb;cases hb
theorem PZ (h:ShareI secret c l old renewed) (ho:other.length=secret.length) (hp:0<(AI l a l.length).length) (hf:((AI l a l.length).length:Int)<c.threshold) :
    (AQ (AI l a l.length) other).2=0∧(BB other c.epoch c.threshold (c.guardians.length:Int) (AQ (AI l a l.length) other).1).2=0∧
      AI (BB other c.epoch c.threshold (c.guardians.length:Int) (AQ (AI l a l.length) other).1).1 a (BB other c.epoch c.threshold (c.guardians.length:Int) (AQ (AI l a l.length) other).1).1.length=AI l a l.length:=
  h.held.spl.explain a ho hp hf
theorem few_mixed (h:ShareI secret c l old true) (ho:other.length=secret.length) (hp:0<(AI l a l.length).length) (hf:((AI l a l.length).length:Int)<c.threshold) (hp':0<(AI old b old.length).length) (hf':((AI old b old.length).length:Int)<c.threshold) :
    let before:=AI old b old.length;let now:=AI l a l.length;let f:=(AX before now other).1
    (AX before now other).2=0∧f.length % 2=0∧(BB other (c.epoch - 1) c.threshold (c.guardians.length:Int) (f.take (f.length / 2))).2=0∧
      AI (BB other (c.epoch - 1) c.threshold (c.guardians.length:Int) (f.take (f.length / 2))).1 b (BB other (c.epoch - 1) c.threshold (c.guardians.length:Int) (f.take (f.length / 2))).1.length=before∧
      (BR (BB other (c.epoch - 1) c.threshold (c.guardians.length:Int) (f.take (f.length / 2))).1 (f.drop (f.length / 2))).2=0∧
      AI (BR (BB other (c.epoch - 1) c.threshold (c.guardians.length:Int) (f.take (f.length / 2))).1 (f.drop (f.length / 2))).1 a (BR (BB other (c.epoch - 1) c.threshold (c.guardians.length:Int) (f.take (f.length / 2))).1 (f.drop (f.length / 2))).1.length=now:=by
  intro before now f
  have hl:=h.ren rfl
  have hy:Spl secret (c.epoch - 1+1) c.threshold (c.guardians.length:Int) l:=by rw [Int.sub_add_cancel];exact h.held.spl
  obtain ⟨m1,m2,m3,m4,m5,m6,m7⟩:=hide3 (old:=before) (now:=now) hl hy rfl ho rfl rfl hp' hf' hp hf
  have hf1:f=(AQ before other).1++(JS before now other).1:=by show (AX before now other).1=_;rw [m1]
  have hlen:f.length=2*(AQ before other).1.length:=by rw [hf1,List.length_append];omega
  have hhalf:f.length / 2=(AQ before other).1.length:=by omega
  have t1:f.take (f.length / 2)=(AQ before other).1:=by rw [hhalf,hf1];exact List.take_left
  have t2:f.drop (f.length / 2)=(JS before now other).1:=by rw [hhalf,hf1];exact List.drop_left
  rw [t1,t2]
  exact ⟨by rw [m1],by omega,m2,m3,m6,m7⟩
end
open Go.Fw
structure MovR where
  c:Circle
  l:List Share
  old:List Share
  renewed:Bool
  asked:List Int
  appr:List (Int→Bool)
  vetoed:List Bool
  done:List Bool
def NG (s:MovR) (x:MoveT):MovR:=
  if x.kind=0 then (if (CQ s.c x.day).2.2=0 then ⟨(CQ s.c x.day).1,s.l,s.old,s.renewed,s.asked++[x.day],s.appr++[fun _=>false],s.vetoed++[false],s.done++[false]⟩ else s)
  else if x.kind=1 then (if (AW s.c x.no (AV s.c x.guardian)).2=0 then ⟨(AW s.c x.no (AV s.c x.guardian)).1,s.l,s.old,s.renewed,s.asked,s.appr.set x.no.toNat (upP s.appr[x.no.toNat]! x.guardian),s.vetoed,s.done⟩ else s)
  else if x.kind=2 then (if (AW s.c x.no (CF x.day)).2=0 then ⟨(AW s.c x.no (CF x.day)).1,s.l,s.old,s.renewed,s.asked,s.appr,s.vetoed.set x.no.toNat true,s.done⟩ else s)
  else if x.kind=3 then (if (AW s.c x.no (BC s.c x.day)).2=0 then ⟨(AW s.c x.no (BC s.c x.day)).1,s.l,s.old,s.renewed,s.asked,s.appr,s.vetoed,s.done.set x.no.toNat true⟩ else s)
  else if x.kind=4 then (if (BM s.c s.l x.coins).2.2=0 then ⟨(BM s.c s.l x.coins).1,(BM s.c s.l x.coins).2.1,s.l,true,s.asked,s.appr,s.vetoed,s.done⟩ else s)
  else if x.kind=5 then (if (AU s.c s.l x.guardians x.threshold x.coins).2.2=0 then ⟨(AU s.c s.l x.guardians x.threshold x.coins).1,(AU s.c s.l x.guardians x.threshold x.coins).2.1,s.l,false,s.asked,s.appr,s.vetoed,s.done⟩ else s)
  else s
section
variable {s:MovR} {x:MoveT} {secret coins other:List UInt8}
theorem do_0y (hk:x.kind=0) (he:(CQ s.c x.day).2.2=0):NG s x = ⟨(CQ s.c x.day).1,s.l,s.old,s.renewed,s.asked++[x.day],s.appr++[fun _=>false],s.vetoed++[false],s.done++[false]⟩:=by
  unfold NG;rw [if_pos hk,if_pos he]
theorem do_0n (hk:x.kind=0) (he:(CQ s.c x.day).2.2≠0):NG s x=s:=by unfold NG;rw [if_pos hk,if_neg he]
theorem do_1y (h:x.kind=1) (he:(AW s.c x.no (AV s.c x.guardian)).2=0):NG s x = ⟨(AW s.c x.no (AV s.c x.guardian)).1,s.l,s.old,s.renewed,s.asked,s.appr.set x.no.toNat (upP s.appr[x.no.toNat]! x.guardian),s.vetoed,s.done⟩:=by
  unfold NG;rw [if_neg (by rw [h];decide),if_pos h,if_pos he]
theorem do_1n (h:x.kind=1) (he:(AW s.c x.no (AV s.c x.guardian)).2≠0):NG s x=s:=by
  unfold NG;rw [if_neg (by rw [h];decide),if_pos h,if_neg he]
theorem do_2y (h:x.kind=2) (he:(AW s.c x.no (CF x.day)).2=0):NG s x = ⟨(AW s.c x.no (CF x.day)).1,s.l,s.old,s.renewed,s.asked,s.appr,s.vetoed.set x.no.toNat true,s.done⟩:=by
  unfold NG;rw [if_neg (by rw [h];decide),if_neg (by rw [h];decide),if_pos h,if_pos he]
theorem do_2n (h:x.kind=2) (he:(AW s.c x.no (CF x.day)).2≠0):NG s x=s:=by
  unfold NG;rw [if_neg (by rw [h];decide),if_neg (by rw [h];decide),if_pos h,if_neg he]
theorem do_3y (h:x.kind=3) (he:(AW s.c x.no (BC s.c x.day)).2=0):NG s x = ⟨(AW s.c x.no (BC s.c x.day)).1,s.l,s.old,s.renewed,s.asked,s.appr,s.vetoed,s.done.set x.no.toNat true⟩:=by
  unfold NG;rw [if_neg (by rw [h];decide),if_neg (by rw [h];decide),if_neg (by rw [h];decide),if_pos h,if_pos he]
theorem do_3n (h:x.kind=3) (he:(AW s.c x.no (BC s.c x.day)).2≠0):NG s x=s:=by
  unfold NG;rw [if_neg (by rw [h];decide),if_neg (by rw [h];decide),if_neg (by rw [h];decide),if_pos h,if_neg he]
theorem do_4y (h:x.kind=4) (he:(BM s.c s.l x.coins).2.2=0):NG s x = ⟨(BM s.c s.l x.coins).1,(BM s.c s.l x.coins).2.1,s.l,true,s.asked,s.appr,s.vetoed,s.done⟩:=by
  unfold NG;rw [if_neg (by rw [h];decide),if_neg (by rw [h];decide),if_neg (by rw [h];decide),if_neg (by rw [h];decide),if_pos h,if_pos he]
theorem do_4n (h:x.kind=4) (he:(BM s.c s.l x.coins).2.2≠0):NG s x=s:=by
  unfold NG;rw [if_neg (by rw [h];decide),if_neg (by rw [h];decide),if_neg (by rw [h];decide),if_neg (by rw [h];decide),if_pos h,if_neg he]
theorem do_5y (h:x.kind=5) (he:(AU s.c s.l x.guardians x.threshold x.coins).2.2=0):NG s x = ⟨(AU s.c s.l x.guardians x.threshold x.coins).1,(AU s.c s.l x.guardians x.threshold x.coins).2.1,s.l,false,s.asked,s.appr,s.vetoed,s.done⟩:=by
  unfold NG;rw [if_neg (by rw [h];decide),if_neg (by rw [h];decide),if_neg (by rw [h];decide),if_neg (by rw [h];decide),if_neg (by rw [h];decide),if_pos h,if_pos he]
theorem do_5n (h:x.kind=5) (he:(AU s.c s.l x.guardians x.threshold x.coins).2.2≠0):NG s x=s:=by
  unfold NG;rw [if_neg (by rw [h];decide),if_neg (by rw [h];decide),if_neg (by rw [h];decide),if_neg (by rw [h];decide),if_neg (by rw [h];decide),if_pos h,if_neg he]
theorem do_6 (h0:x.kind≠0) (h1:x.kind≠1) (h2:x.kind≠2) (h3:x.kind≠3) (h4:x.kind≠4) (h5:x.kind≠5):NG s x=s:=by
  unfold NG;rw [if_neg h0,if_neg h1,if_neg h2,if_neg h3,if_neg h4,if_neg h5]
structure InvM (secret:List UInt8) (s:MovR):Prop where
  g:GuardI s.c s.asked s.appr s.vetoed s.done
  h:ShareI secret s.c s.l s.old s.renewed
theorem WE {c:Circle} (hc:AO c=0) (hr:c.recs=[]) (hd:(CU c secret coins).2=0):InvM secret ⟨c,(CU c secret coins).1,[],false,[],[],[],[]⟩:=⟨guard_new hc hr,share_deal hd⟩
theorem inv_do (h:InvM secret s) (x:MoveT):InvM secret (NG s x):=by
  have hh:=h.h
  have hg:=h.g
  by_cases h0:x.kind=0
  · by_cases he:(CQ s.c x.day).2.2=0
    · rw [do_0y h0 he]
      obtain ⟨_,_,gr,_,_⟩:=TS he
      exact ⟨(ZD hg he).2,OM hh gr.ok gr.ep gr.th gr.gu⟩
    · rw [do_0n h0 he];exact h
  by_cases h1:x.kind=1
  · by_cases he:(AW s.c x.no (AV s.c x.guardian)).2=0
    · rw [do_1y h1 he]
      have q:=(RF hg he).2.2
      obtain ⟨_,_,_,_,_,m,e,_⟩:=PH he
      exact ⟨q,OM hh q.ok (by rw [e];rfl) (by rw [e];rfl) (by rw [e];rfl)⟩
    · rw [do_1n h1 he];exact h
  by_cases h2:x.kind=2
  · by_cases he:(AW s.c x.no (CF x.day)).2=0
    · rw [do_2y h2 he]
      have q:=(WG hg he).2.2.2
      obtain ⟨_,_,_,_,_,v,e⟩:=veto_get he
      exact ⟨q,OM hh q.ok (by rw [e];rfl) (by rw [e];rfl) (by rw [e];rfl)⟩
    · rw [do_2n h2 he];exact h
  by_cases h3:x.kind=3
  · by_cases he:(AW s.c x.no (BC s.c x.day)).2=0
    · rw [do_3y h3 he]
      have q:=(TJ hg he).2.2.2.2.2.2
      obtain ⟨_,_,_,_,_,_,_,_,e⟩:=WO he
      exact ⟨q,OM hh q.ok (by rw [e];rfl) (by rw [e];rfl) (by rw [e];rfl)⟩
    · rw [do_3n h3 he];exact h
  by_cases h4:x.kind=4
  · by_cases he:(BM s.c s.l x.coins).2.2=0
    · rw [do_4y h4 he]
      have q:=share_renew hh he
      obtain ⟨_,_,_,e⟩:=YH he
      exact ⟨YL hg q.held.ok (by rw [e]),q⟩
    · rw [do_4n h4 he];exact h
  by_cases h5:x.kind=5
  · by_cases he:(AU s.c s.l x.guardians x.threshold x.coins).2.2=0
    · rw [do_5y h5 he]
      have q:=YX hh he
      obtain ⟨_,_,_,_,e⟩:=SC he
      exact ⟨YL hg q.held.ok (by rw [e];rfl),q⟩
    · rw [do_5n h5 he];exact h
  rw [do_6 h0 h1 h2 h3 h4 h5];exact h
def CX (s:MovR) (l:List MoveT):Nat→MovR
  | 0=>s
  | k+1=>NG (CX s l k) l[k]!
theorem OV {l:List MoveT} (h:InvM secret s):∀ k,InvM secret (CX s l k)
  | 0=>h
  | k+1=>inv_do (OV h k) _
theorem UO (l:List Share) (m:UInt8):∀ n,(AI l m n).length≤8
  | 0=>by simp [AI,LV]
  | n+1=>by
    by_cases h:n<8
    · have:=someM_le l m (n+1);omega
    · rw [RZ (fun q=>h q.1)];exact UO l m n
theorem ZV (h:GuardI s.c s.asked s.appr s.vetoed s.done):s.appr.length=s.asked.length∧s.vetoed.length=s.asked.length∧s.done.length=s.asked.length∧s.asked.length≤1024:=by
  have:=h.la;have:=h.lp;have:=h.lv;have:=h.ld;have:=QU h.ok
  omega
theorem can_1 (h:InvM secret s) (no:Int) (a:UInt8) (hn:¬ (0≤no∧no<(s.asked.length:Int)∧s.done[no.toNat]! = true∧s.c.threshold≤((AI s.l a s.l.length).length:Int))):((BX s.c no (AI s.l a s.l.length)).2 == 0)=false∧((BX s.c no (AI s.l a s.l.length)).1=[]):=by
  have q:=SE h.h h.g no a
  have h1:(BX s.c no (AI s.l a s.l.length)).2≠0:=fun e=>hn (q.1.1 e)
  exact ⟨beq_false_of_ne h1,q.2.2 h1⟩
theorem can_2 (h:InvM secret s) (no:Int) (a:UInt8) (h0:0≤no) (h1:no<(s.asked.length:Int)) (h2:s.done[no.toNat]! = true):((BX s.c no (AI s.l a s.l.length)).2 == 0)=decide (s.c.threshold≤((AI s.l a s.l.length).length:Int)):=by
  have q:=(SE h.h h.g no a).1
  rw [Bool.eq_iff_iff,beq_iff_eq,decide_eq_true_eq,q]
  exact ⟨fun h=>h.2.2.2,fun h=>⟨h0,h1,h2,h⟩⟩
end
end Go.Proofs.Ytjgfokolnkhafaa
namespace Go.Fw
open Go.RowKit
abbrev El:=Nat × Oper × (Value→World→Prop)
def WZ (P:Program) (ops:List Oper) (Q:Exit→Fr→World→Prop) (X:List Nat) (w0:World):List El→Fr→World→Prop
  | [],F,w=>Q .normal F w
  | (k,o,T) :: rest,F,w=>
    if Region.wanted o (CH ops F)=true then
      (k=5∧Keep X w0 w∧(∀ w1,Keep X w0 w1→DD P o.op o.type F w1 (fun v w'=>Keep [] w1 w'∧T v w') (fun _ _=>False))∧(∀ v w',Keep [] w w'→T v w'→WZ P ops Q X w0 rest (GY F o.dst v) w'))∨
      (k=6∧Keep X w0 w∧∀ w1,Keep [] w w1→DD P o.op o.type F w1 (fun v w'=>Keep X w1 w'∧WZ P ops Q X w0 rest (GY F o.dst v) w') (fun _ _=>False))∨
      (k≠5∧k≠6∧DD P o.op o.type F w (fun v w'=>KdOk P X k o F w v w'∧WZ P ops Q X w0 rest (GY F o.dst v) w') (fun c w'=>k=0∧Q (.panic c) F w'))
    else WZ P ops Q X w0 rest (GY F o.dst undef) w
section
variable {P:Program} {n:Nat} {Q:Exit→Fr→World→Prop} {ops:List Oper} {X:List Nat} {w0:World}
theorem wz_cong {a b:List El} (h:∀ F w,WZ P ops Q X w0 a F w→WZ P ops Q X w0 b F w) {j:El} {F:Fr} {w:World} (hj:WZ P ops Q X w0 (j :: a) F w):WZ P ops Q X w0 (j :: b) F w:=by
  obtain ⟨k,o,T⟩:=j
  unfold WZ at hj ⊢
  by_cases c:Region.wanted o (CH ops F)=true
  · rw [if_pos c] at hj ⊢
    rcases hj with ⟨e,h0,h1,h2⟩|⟨e,h0,h1⟩|⟨e1,e2,h1⟩
    · exact .inl ⟨e,h0,h1,fun v w' k t=>h _ _ (h2 v w' k t)⟩
    · exact .inr (.inl ⟨e,h0,fun w1 k=>DJ (h1 w1 k) (fun v w' hk=>⟨hk.1,h _ _ hk.2⟩) (fun c w' hz=>hz)⟩)
    · exact .inr (.inr ⟨e1,e2,DJ h1 (fun v w' hk=>⟨hk.1,h _ _ hk.2⟩) (fun c w' hz=>hz)⟩)
  · rw [if_neg c] at hj ⊢
    exact h _ _ hj
def StT (X:List Nat) (T:Value→World→Prop):Prop:=∀ v w w',T v w→Keep X w w'→T v w'
def cmM (ops:List Oper) (a b:El):Bool:=
  (match a.2.1.dst,b.2.1.dst with|some da,some db=>!Nat.beq da db && TH ops b.2.1 da && TH ops a.2.1 db | _,_=>false) && IP a.2.1.op && IP b.2.1.op && Nat.beq b.1 5 && ((Nat.beq a.1 5 && mkV a.2.1.op) || (Nat.beq a.1 6 && plR a.2.1.op))
theorem wz_swapM {a b:El} {rest:List El} {F:Fr} {w:World} (hc:cmM ops a b=true) (hst:StT X b.2.2) (h:WZ P ops Q X w0 (a :: b :: rest) F w):WZ P ops Q X w0 (b :: a :: rest) F w:=by
  obtain ⟨k1,o1,T1⟩:=a
  obtain ⟨k2,o2,T2⟩:=b
  unfold cmM at hc
  simp only [Bool.and_eq_true,Bool.or_eq_true] at hc
  obtain ⟨⟨⟨⟨hc1,s1⟩,s2⟩,hk2⟩,hk1⟩:=hc
  have hk2:=Nat.eq_of_beq_eq_true hk2
  subst hk2
  cases hd1:o1.dst with
  | none=>rw [hd1] at hc1;simp at hc1
  | some d1=>
  cases hd2:o2.dst with
  | none=>rw [hd1,hd2] at hc1;simp at hc1
  | some d2=>
  rw [hd1,hd2] at hc1
  simp only [Bool.and_eq_true] at hc1
  obtain ⟨⟨hne,hb⟩,ha⟩:=hc1
  have n1:=MU hne
  have e:∀ (F:Fr) (v x:Value),DE (DE F d2 x) d1 v=DE (DE F d1 v) d2 x:=fun F v x=>(PU (F:=F) (v:=v) (u:=x) n1).symm
  have w1e:∀ v,Region.wanted o1 (CH ops (DE F d2 v))=Region.wanted o1 (CH ops F):=fun v=>HJ (DH ha)
  have w2e:∀ v,Region.wanted o2 (CH ops (DE F d1 v))=Region.wanted o2 (CH ops F):=fun v=>HJ (DH hb)
  -- what the second says behind the first
  have second:∀ v w',Region.wanted o2 (CH ops F)=true→WZ P ops Q X w0 ((5,o2,T2) :: rest) (DE F d1 v) w'→Keep X w0 w'∧(∀ w1,Keep X w0 w1→DD P o2.op o2.type F w1 (fun v w'=>Keep [] w1 w'∧T2 v w') (fun _ _=>False))∧(∀ v2 w2,Keep [] w' w2→T2 v2 w2→WZ P ops Q X w0 rest (DE (DE F d1 v) d2 v2) w2):=fun v w' c2 hh=>by
    unfold WZ at hh
    rw [w2e,if_pos c2,hd2] at hh
    rcases hh with ⟨_,h0,h1,h2⟩|⟨e1,_⟩|⟨e1,_⟩
    · exact ⟨h0,fun w1 k=>DA (F':=F) s2 (offL_upd' hb) (h1 w1 k),h2⟩
    · cases e1
    · exact absurd rfl e1
  unfold WZ at h
  rw [hd1] at h
  unfold WZ
  rw [hd2]
  by_cases c1:Region.wanted o1 (CH ops F)=true
  · rw [if_pos c1] at h
    by_cases c2:Region.wanted o2 (CH ops F)=true
    · rw [if_pos c2]
      rcases hk1 with ⟨hk1,hm⟩|⟨hk1,hm⟩
      · have hk1:=Nat.eq_of_beq_eq_true hk1
        subst hk1
        rcases h with ⟨_,kp,sp1,ct1⟩|⟨e1,_⟩|⟨e1,_⟩
        · -- a world where the first has come
          have ex:∃ v w',Keep [] w w'∧T1 v w':=by
            have:=sp1 w kp
            unfold DD at this
            cases hr:(execOp (CP F) ⟨none,o1.op,o1.type,"",#[],none⟩).run P w with
            | halt x w'=>rw [hr] at this;cases x <;> exact this.elim
            | ok r w'=>
              obtain ⟨v,rfl⟩:=mkV_val (o:=⟨none,o1.op,o1.type,"",#[],none⟩) hm hr
              rw [hr] at this
              exact ⟨v,w',this⟩
          obtain ⟨v0,wx,kx,tx⟩:=ex
          obtain ⟨_,sp2,_⟩:=second v0 wx c2 (ct1 v0 wx kx tx)
          refine .inl ⟨rfl,kp,sp2,fun v2 w' k2 t2=>?_⟩
          show WZ P ops Q X w0 ((5,o1,T1) :: rest) (DE F d2 v2) w'
          unfold WZ
          rw [w1e,if_pos c1,hd1]
          refine .inl ⟨rfl,kp.trans k2.nil,fun w1 k=>DA s1 (DH ha) (sp1 w1 k),fun v1 w'' k1 t1=>?_⟩
          show WZ P ops Q X w0 rest (DE (DE F d2 v2) d1 v1) w''
          rw [e]
          exact (second v1 w'' c2 (ct1 v1 w'' (k2.trans k1) t1)).2.2 v2 w'' (Keep.refl _ _) (hst _ _ _ t2 k1.nil)
        · cases e1
        · exact absurd rfl e1
      · have hk1:=Nat.eq_of_beq_eq_true hk1
        subst hk1
        rcases h with ⟨e1,_⟩|⟨_,kp,f1⟩|⟨_,e1,_⟩
        · cases e1
        · have sp2:∀ w1,Keep X w0 w1→DD P o2.op o2.type F w1 (fun v w'=>Keep [] w1 w'∧T2 v w') (fun _ _=>False):=by
            have:=f1 w (Keep.refl _ _)
            unfold DD at this
            cases hr:(execOp (CP F) ⟨none,o1.op,o1.type,"",#[],none⟩).run P w with
            | halt x w'=>rw [hr] at this;cases x <;> exact this.elim
            | ok r w'=>
              rw [hr] at this
              rcases plR_val (o:=⟨none,o1.op,o1.type,"",#[],none⟩) hm hr with ⟨v,rfl⟩|rfl
              · exact (second v w' c2 this.2).2.1
              · exact (second _ w' c2 this.2).2.1
          refine .inl ⟨rfl,kp,sp2,fun v2 w' k2 t2=>?_⟩
          show WZ P ops Q X w0 ((6,o1,T1) :: rest) (DE F d2 v2) w'
          unfold WZ
          rw [w1e,if_pos c1,hd1]
          refine .inr (.inl ⟨rfl,kp.trans k2.nil,fun w1 k=>DA s1 (DH ha) (DJ (f1 w1 (k2.trans k)) (fun v w'' hk=>⟨hk.1,?_⟩) (fun c w' hz=>hz))⟩)
          show WZ P ops Q X w0 rest (DE (DE F d2 v2) d1 v) w''
          rw [e]
          exact (second v w'' c2 hk.2).2.2 v2 w'' (Keep.refl _ _) (hst _ _ _ t2 (k.nil.trans hk.1))
        · exact absurd rfl e1
    · rw [if_neg c2]
      have skip:∀ v w',WZ P ops Q X w0 ((5,o2,T2) :: rest) (DE F d1 v) w'→WZ P ops Q X w0 rest (DE (DE F d1 v) d2 undef) w':=fun v w' hh=>by
        unfold WZ at hh
        rw [w2e,if_neg c2,hd2] at hh
        exact hh
      show WZ P ops Q X w0 ((k1,o1,T1) :: rest) (DE F d2 undef) w
      unfold WZ
      rw [w1e,if_pos c1,hd1]
      rcases h with ⟨e1,kp,sp1,ct1⟩|⟨e1,kp,f1⟩|⟨e1,e2,_⟩
      · refine .inl ⟨e1,kp,fun w1 k=>DA s1 (DH ha) (sp1 w1 k),fun v w' k t=>?_⟩
        show WZ P ops Q X w0 rest (DE (DE F d2 undef) d1 v) w'
        rw [e];exact skip v w' (ct1 v w' k t)
      · refine .inr (.inl ⟨e1,kp,fun w1 k=>DA s1 (DH ha) (DJ (f1 w1 k) (fun v w' hk=>⟨hk.1,?_⟩) (fun c w' hz=>hz))⟩)
        show WZ P ops Q X w0 rest (DE (DE F d2 undef) d1 v) w'
        rw [e];exact skip v w' hk.2
      · exfalso
        rcases hk1 with ⟨q,_⟩|⟨q,_⟩
        · exact e1 (Nat.eq_of_beq_eq_true q)
        · exact e2 (Nat.eq_of_beq_eq_true q)
  · rw [if_neg c1] at h
    have h:WZ P ops Q X w0 ((5,o2,T2) :: rest) (DE F d1 undef) w:=h
    by_cases c2:Region.wanted o2 (CH ops F)=true
    · rw [if_pos c2]
      obtain ⟨kp,sp2,ct2⟩:=second undef w c2 h
      refine .inl ⟨rfl,kp,sp2,fun v2 w' k2 t2=>?_⟩
      show WZ P ops Q X w0 ((k1,o1,T1) :: rest) (DE F d2 v2) w'
      unfold WZ
      rw [w1e,if_neg c1,hd1]
      show WZ P ops Q X w0 rest (DE (DE F d2 v2) d1 undef) w'
      rw [e];exact ct2 v2 w' k2 t2
    · rw [if_neg c2]
      unfold WZ at h
      rw [w2e,if_neg c2,hd2] at h
      show WZ P ops Q X w0 ((k1,o1,T1) :: rest) (DE F d2 undef) w
      unfold WZ
      rw [w1e,if_neg c1,hd1]
      show WZ P ops Q X w0 rest (DE (DE F d2 undef) d1 undef) w
      rw [e];exact h
def cmR (ops:List Oper) (a b:El):Bool:=
  (match a.2.1.dst,b.2.1.dst with|some da,some db=>!Nat.beq da db && TH ops b.2.1 da && TH ops a.2.1 db | _,_=>false) && IP a.2.1.op && IP b.2.1.op &&
  ((Nat.beq a.1 1 && vOpB a.2.1.op && (Nat.beq b.1 1 || Nat.beq b.1 4 || (Nat.beq b.1 5 && rdOp a.2.1.op))) || (Nat.beq a.1 4 && vOpB a.2.1.op && (Nat.beq b.1 1 || Nat.beq b.1 4 || Nat.beq b.1 5 || Nat.beq b.1 6)) || (!Nat.beq a.1 5 && !Nat.beq a.1 6 && (mvO a.2.1 || frO a.2.1)))
theorem wz_swapR {a b:El} {rest:List El} {F:Fr} {w:World} (hc:cmR ops a b=true) (hda:okD n a.2.1.dst=true) (hq:∀ c F d v w,d<n→(Q (.panic c) (DE F d v) w↔Q (.panic c) F w)) (h:WZ P ops Q X w0 (a :: b :: rest) F w):WZ P ops Q X w0 (b :: a :: rest) F w:=by
  obtain ⟨k1,o1,T1⟩:=a
  obtain ⟨k2,o2,T2⟩:=b
  unfold cmR at hc
  simp only [Bool.and_eq_true,Bool.or_eq_true] at hc hda
  obtain ⟨⟨⟨hc1,s1⟩,s2⟩,hk⟩:=hc
  cases hd1:o1.dst with
  | none=>rw [hd1] at hc1;simp at hc1
  | some d1=>
  cases hd2:o2.dst with
  | none=>rw [hd1,hd2] at hc1;simp at hc1
  | some d2=>
  rw [hd1,hd2] at hc1
  simp only [Bool.and_eq_true] at hc1
  obtain ⟨⟨hne,hb⟩,ha⟩:=hc1
  have n1:=MU hne
  rw [hd1] at hda
  have e:∀ (F:Fr) (v x:Value),DE (DE F d2 x) d1 v=DE (DE F d1 v) d2 x:=fun F v x=>(PU (F:=F) (v:=v) (u:=x) n1).symm
  have w1e:∀ v,Region.wanted o1 (CH ops (DE F d2 v))=Region.wanted o1 (CH ops F):=fun v=>HJ (DH ha)
  have w2e:∀ v,Region.wanted o2 (CH ops (DE F d1 v))=Region.wanted o2 (CH ops F):=fun v=>HJ (DH hb)
  have k5:k1≠5∧k1≠6:=by
    rcases hk with (⟨⟨q,_⟩,_⟩|⟨⟨q,_⟩,_⟩)|⟨⟨q,q2⟩,_⟩
    · have:=Nat.eq_of_beq_eq_true q;subst this;decide
    · have:=Nat.eq_of_beq_eq_true q;subst this;decide
    · exact ⟨MU q,MU q2⟩
  unfold WZ at h
  rw [hd1] at h
  unfold WZ
  rw [hd2]
  by_cases c1:Region.wanted o1 (CH ops F)=true
  · rw [if_pos c1] at h
    rcases h with ⟨q,_⟩|⟨q,_⟩|⟨_,_,h⟩
    · exact absurd q k5.1
    · exact absurd q k5.2
    -- it yields v1,there and where the second has come
    have got:∃ v1,WZ P ops Q X w0 ((k2,o2,T2) :: rest) (DE F d1 v1) w∧∀ w2,((k2≠5∧k2≠6∧∃ v,KdOk P X k2 o2 F w v w2)∨(k2=5∧Keep [] w w2)∨(k2=6∧Keep X w w2)∨w2=w)→(execOp (CP F) ⟨none,o1.op,o1.type,"",#[],none⟩).run P w2 = .ok (.value v1) w2∧KdOk P X k1 o1 F w2 v1 w2:=by
      have reads:vOpB o1.op=true→k1≠0→∃ v1 w1,(execOp (CP F) ⟨none,o1.op,o1.type,"",#[],none⟩).run P w = .ok (.value v1) w1∧KdOk P X k1 o1 F w v1 w1∧WZ P ops Q X w0 ((k2,o2,T2) :: rest) (DE F d1 v1) w1:=fun hv hk0=>by
        unfold DD at h
        cases hr:(execOp (CP F) ⟨none,o1.op,o1.type,"",#[],none⟩).run P w with
        | halt x w'=>rw [hr] at h;cases x <;> simp only [HA] at h <;> first|exact h.elim|exact absurd h.1 hk0
        | ok r w'=>
          obtain ⟨v1,rfl⟩:=XF (o:=⟨none,o1.op,o1.type,"",#[],none⟩) hv hr
          rw [hr] at h
          exact ⟨v1,w',rfl,h⟩
      rcases hk with (⟨⟨q,hv⟩,hb2⟩|⟨⟨q,hv⟩,hb2⟩)|⟨_,hm⟩
      · have q:=Nat.eq_of_beq_eq_true q
        subst q
        obtain ⟨v1,w1,hr,hkd,hz⟩:=reads hv (by decide)
        have ew:=hkd.k1 rfl
        subst ew
        refine ⟨v1,hz,fun w2 hw=>?_⟩
        have hrun:(execOp (CP F) ⟨none,o1.op,o1.type,"",#[],none⟩).run P w2 = .ok (.value v1) w2:=by
          rcases hw with ⟨n5,n6,v,hw⟩|⟨q5,hw⟩|⟨q6,hw⟩|hw
          · rcases hb2 with (hb2|hb2)|hb2
            · rw [hw.k1 (Nat.eq_of_beq_eq_true hb2)];exact hr
            · rw [(hw.k4 (Nat.eq_of_beq_eq_true hb2)).1];exact hr
            · exact absurd (Nat.eq_of_beq_eq_true hb2.1) n5
          · rcases hb2 with (hb2|hb2)|hb2
            · have:=Nat.eq_of_beq_eq_true hb2;omega
            · have:=Nat.eq_of_beq_eq_true hb2;omega
            · exact (rdOp_sta hb2.2 _ _ _ hr).2 _ hw
          · rcases hb2 with (hb2|hb2)|hb2
            · have:=Nat.eq_of_beq_eq_true hb2;omega
            · have:=Nat.eq_of_beq_eq_true hb2;omega
            · have:=Nat.eq_of_beq_eq_true hb2.1;omega
          · rw [hw];exact hr
        exact ⟨hrun,⟨fun _=>rfl,fun e=>(by cases e),fun e=>(by cases e),fun e=>(by cases e)⟩⟩
      · have q:=Nat.eq_of_beq_eq_true q
        subst q
        obtain ⟨v1,w1,hr,hkd,hz⟩:=reads hv (by decide)
        obtain ⟨ew,hst⟩:=hkd.k4 rfl
        subst ew
        refine ⟨v1,hz,fun w2 hw=>?_⟩
        have hkeep:Keep X w1 w2:=by
          rcases hw with ⟨n5,n6,v,hw⟩|⟨q5,hw⟩|⟨q6,hw⟩|hw
          · rcases hb2 with ((hb2|hb2)|hb2)|hb2
            · rw [hw.k1 (Nat.eq_of_beq_eq_true hb2)];exact Keep.refl _ _
            · rw [(hw.k4 (Nat.eq_of_beq_eq_true hb2)).1];exact Keep.refl _ _
            · exact absurd (Nat.eq_of_beq_eq_true hb2) n5
            · exact absurd (Nat.eq_of_beq_eq_true hb2) n6
          · exact hw.nil
          · exact hw
          · rw [hw];exact Keep.refl _ _
        exact ⟨hst w2 hkeep,⟨fun e=>(by cases e),fun e=>(by cases e),fun e=>(by cases e),fun _=>⟨rfl,fun w3 k3=>hst w3 (hkeep.trans k3)⟩⟩⟩
      · obtain ⟨v1,hr⟩:∃ v1,∀ w,(execOp (CP F) ⟨none,o1.op,o1.type,"",#[],none⟩).run P w = .ok (.value v1) w:=hm.elim (fun hm=>QS hm F) (fun hm=>VZ hm h)
        unfold DD at h
        rw [hr] at h
        exact ⟨v1,h.2,fun w2 _=>⟨hr w2,KdOk.move hr⟩⟩
    obtain ⟨v1,hz,hfix⟩:=got
    have first:∀ v2 w2,(execOp (CP F) ⟨none,o1.op,o1.type,"",#[],none⟩).run P w2 = .ok (.value v1) w2∧KdOk P X k1 o1 F w2 v1 w2→WZ P ops Q X w0 rest (DE (DE F d1 v1) d2 v2) w2→WZ P ops Q X w0 ((k1,o1,T1) :: rest) (DE F d2 v2) w2:=fun v2 w2 ⟨hr,hkd⟩ hz=>by
      unfold WZ
      rw [w1e,if_pos c1,hd1]
      refine .inr (.inr ⟨k5.1,k5.2,DA s1 (DH ha) ?_⟩)
      unfold DD
      rw [hr]
      refine ⟨KdOk.agree s1 (DH ha) hkd,?_⟩
      show WZ P ops Q X w0 rest (DE (DE F d2 v2) d1 v1) w2
      rw [e];exact hz
    unfold WZ at hz
    rw [w2e,hd2] at hz
    by_cases c2:Region.wanted o2 (CH ops F)=true
    · rw [if_pos c2] at hz ⊢
      rcases hz with ⟨q,kp,sp,ct⟩|⟨q,kp,f2⟩|⟨q5,q6,f2⟩
      · exact .inl ⟨q,kp,fun w1 k=>DA (F':=F) s2 (offL_upd' hb) (sp w1 k),fun v2 w' k t=>first v2 w' (hfix w' (.inr (.inl ⟨q,k⟩))) (ct v2 w' k t)⟩
      · exact .inr (.inl ⟨q,kp,fun w1 k=>DJ (DA (F':=F) s2 (offL_upd' hb) (f2 w1 k)) (fun v2 w' hk=>⟨hk.1,first v2 w' (hfix w' (.inr (.inr (.inl ⟨q,k.nil.trans hk.1⟩)))) hk.2⟩) (fun c w' hz=>hz)⟩)
      · refine .inr (.inr ⟨q5,q6,DJ (DA (F':=F) s2 (offL_upd' hb) f2) (fun v2 w' hk=>?_) (fun c w' hz=>⟨hz.1,(hq _ _ _ _ _ (blt hda)).1 hz.2⟩)⟩)
        have hkd:=KdOk.agree (F':=F) s2 (offL_upd' hb) hk.1
        exact ⟨hkd,first v2 w' (hfix w' (.inl ⟨q5,q6,v2,hkd⟩)) hk.2⟩
    · rw [if_neg c2] at hz ⊢
      exact first undef w (hfix w (.inr (.inr (.inr rfl)))) hz
  · rw [if_neg c1] at h
    have h:WZ P ops Q X w0 ((k2,o2,T2) :: rest) (DE F d1 undef) w:=h
    have first:∀ v2 w2,WZ P ops Q X w0 rest (DE (DE F d1 undef) d2 v2) w2→WZ P ops Q X w0 ((k1,o1,T1) :: rest) (DE F d2 v2) w2:=fun v2 w2 hz=>by
      unfold WZ
      rw [w1e,if_neg c1,hd1]
      show WZ P ops Q X w0 rest (DE (DE F d2 v2) d1 undef) w2
      rw [e];exact hz
    unfold WZ at h
    rw [w2e,hd2] at h
    by_cases c2:Region.wanted o2 (CH ops F)=true
    · rw [if_pos c2] at h ⊢
      rcases h with ⟨q,kp,sp,ct⟩|⟨q,kp,f2⟩|⟨q5,q6,f2⟩
      · exact .inl ⟨q,kp,fun w1 k=>DA (F':=F) s2 (offL_upd' hb) (sp w1 k),fun v2 w' k t=>first v2 w' (ct v2 w' k t)⟩
      · exact .inr (.inl ⟨q,kp,fun w1 k=>DJ (DA (F':=F) s2 (offL_upd' hb) (f2 w1 k)) (fun v2 w' hk=>⟨hk.1,first v2 w' hk.2⟩) (fun c w' hz=>hz)⟩)
      · exact .inr (.inr ⟨q5,q6,DJ (DA (F':=F) s2 (offL_upd' hb) f2) (fun v2 w' hk=>⟨KdOk.agree (F':=F) s2 (offL_upd' hb) hk.1,first v2 w' hk.2⟩) (fun c w' hz=>⟨hz.1,(hq _ _ _ _ _ (blt hda)).1 hz.2⟩)⟩)
    · rw [if_neg c2] at h ⊢
      exact first undef w h
def cmV (ops:List Oper) (a b:El):Bool:=
  (match a.2.1.dst,b.2.1.dst with|some da,some db=>!Nat.beq da db && TH ops b.2.1 da && TH ops a.2.1 db | _,_=>false) && IP a.2.1.op && IP b.2.1.op && !Nat.beq b.1 5 && !Nat.beq b.1 6 && mvO b.2.1
theorem wz_swapV {a b:El} {rest:List El} {F:Fr} {w:World} (hc:cmV ops a b=true) (hdb:okD n b.2.1.dst=true) (hq:∀ c F d v w,d<n→(Q (.panic c) (DE F d v) w↔Q (.panic c) F w)) (h:WZ P ops Q X w0 (a :: b :: rest) F w):WZ P ops Q X w0 (b :: a :: rest) F w:=by
  obtain ⟨k1,o1,T1⟩:=a
  obtain ⟨k2,o2,T2⟩:=b
  unfold cmV at hc
  simp only [Bool.and_eq_true] at hc hdb
  obtain ⟨⟨⟨⟨⟨hc1,s1⟩,s2⟩,k5⟩,k6⟩,hm⟩:=hc
  have k5:k2≠5:=MU k5
  have k6:k2≠6:=MU k6
  cases hd1:o1.dst with
  | none=>rw [hd1] at hc1;simp at hc1
  | some d1=>
  cases hd2:o2.dst with
  | none=>rw [hd1,hd2] at hc1;simp at hc1
  | some d2=>
  rw [hd1,hd2] at hc1
  simp only [Bool.and_eq_true] at hc1
  obtain ⟨⟨hne,hb⟩,ha⟩:=hc1
  have n1:=MU hne
  rw [hd2] at hdb
  have e:∀ (F:Fr) (v x:Value),DE (DE F d2 x) d1 v=DE (DE F d1 v) d2 x:=fun F v x=>(PU (F:=F) (v:=v) (u:=x) n1).symm
  have w1e:∀ v,Region.wanted o1 (CH ops (DE F d2 v))=Region.wanted o1 (CH ops F):=fun v=>HJ (DH ha)
  obtain ⟨v2,hr⟩:=QS (P:=P) hm F
  have second:∀ v w',WZ P ops Q X w0 ((k2,o2,T2) :: rest) (DE F d1 v) w'→WZ P ops Q X w0 rest (DE (DE F d2 v2) d1 v) w':=fun v w' hh=>by
    unfold WZ at hh
    rw [if_pos (SK hm _),hd2] at hh
    rcases hh with ⟨q,_⟩|⟨q,_⟩|⟨_,_,hh⟩
    · exact absurd q k5
    · exact absurd q k6
    · have hh:=DA (F':=F) s2 (offL_upd' hb) hh
      unfold DD at hh
      rw [hr] at hh
      rw [e];exact hh.2
  unfold WZ at h
  rw [hd1] at h
  unfold WZ
  rw [hd2,if_pos (SK hm _)]
  refine .inr (.inr ⟨k5,k6,?_⟩)
  unfold DD
  rw [hr]
  refine ⟨KdOk.move hr,?_⟩
  show WZ P ops Q X w0 ((k1,o1,T1) :: rest) (DE F d2 v2) w
  unfold WZ
  rw [w1e,hd1]
  by_cases c1:Region.wanted o1 (CH ops F)=true
  · rw [if_pos c1] at h ⊢
    rcases h with ⟨q,kp,sp,ct⟩|⟨q,kp,f1⟩|⟨q5,q6,f1⟩
    · exact .inl ⟨q,kp,fun w1 k=>DA s1 (DH ha) (sp w1 k),fun v w' k t=>second v w' (ct v w' k t)⟩
    · exact .inr (.inl ⟨q,kp,fun w1 k=>DA s1 (DH ha) (DJ (f1 w1 k) (fun v w' hk=>⟨hk.1,second v w' hk.2⟩) (fun c w' hz=>hz))⟩)
    · exact .inr (.inr ⟨q5,q6,DA s1 (DH ha) (DJ f1 (fun v w' hk=>⟨KdOk.agree s1 (DH ha) hk.1,second v w' hk.2⟩) (fun c w' hz=>⟨hz.1,(hq _ _ _ _ _ (blt hdb)).2 hz.2⟩))⟩)
  · rw [if_neg c1] at h ⊢
    exact second undef w h
def cmW (ops:List Oper) (a b:El):Bool:=
  (match a.2.1.dst,b.2.1.dst with|some da,none=>TH ops b.2.1 da | _,_=>false) && IP a.2.1.op && IP b.2.1.op && !Nat.beq a.1 5 && !Nat.beq a.1 6 && Nat.beq b.1 0 && mvO a.2.1
theorem wz_swapW {a b:El} {rest:List El} {F:Fr} {w:World} (hc:cmW ops a b=true) (hda:okD n a.2.1.dst=true) (hq:∀ c F d v w,d<n→(Q (.panic c) (DE F d v) w↔Q (.panic c) F w)) (h:WZ P ops Q X w0 (a :: b :: rest) F w):WZ P ops Q X w0 (b :: a :: rest) F w:=by
  obtain ⟨k1,o1,T1⟩:=a
  obtain ⟨k2,o2,T2⟩:=b
  unfold cmW at hc
  simp only [Bool.and_eq_true] at hc hda
  obtain ⟨⟨⟨⟨⟨⟨hc1,s1⟩,s2⟩,k5⟩,k6⟩,k0⟩,hm⟩:=hc
  have k5:k1≠5:=MU k5
  have k6:k1≠6:=MU k6
  have k0:k2=0:=Nat.eq_of_beq_eq_true k0
  subst k0
  cases hd1:o1.dst with
  | none=>rw [hd1] at hc1;simp at hc1
  | some d1=>
  cases hd2:o2.dst with
  | some d2=>rw [hd1,hd2] at hc1;simp at hc1
  | none=>
  rw [hd1,hd2] at hc1
  have hc1:TH ops o2 d1=true:=hc1
  rw [hd1] at hda
  obtain ⟨v1,hr⟩:=QS (P:=P) hm F
  have first:∀ w',WZ P ops Q X w0 rest (DE F d1 v1) w'→WZ P ops Q X w0 ((k1,o1,T1) :: rest) F w':=fun w' hh=>by
    unfold WZ
    rw [hd1,if_pos (SK hm _)]
    refine .inr (.inr ⟨k5,k6,?_⟩)
    unfold DD
    rw [hr]
    exact ⟨KdOk.move hr,hh⟩
  unfold WZ at h
  rw [hd1,if_pos (SK hm _)] at h
  rcases h with ⟨q,_⟩|⟨q,_⟩|⟨_,_,h⟩
  · exact absurd q k5
  · exact absurd q k6
  unfold DD at h
  rw [hr] at h
  have h:WZ P ops Q X w0 ((0,o2,T2) :: rest) (DE F d1 v1) w:=h.2
  unfold WZ at h ⊢
  rw [HJ (DH hc1),hd2] at h
  rw [hd2]
  by_cases c2:Region.wanted o2 (CH ops F)=true
  · rw [if_pos c2] at h ⊢
    rcases h with ⟨q,_⟩|⟨q,_⟩|⟨q5,q6,f2⟩
    · cases q
    · cases q
    · exact .inr (.inr ⟨q5,q6,DJ (DA (F':=F) s2 (offL_upd' hc1) f2) (fun v2 w' hk=>⟨KdOk.agree (F':=F) s2 (offL_upd' hc1) hk.1,first _ hk.2⟩) (fun c w' hz=>⟨hz.1,(hq _ _ _ _ _ (blt hda)).1 hz.2⟩)⟩)
  · rw [if_neg c2] at h ⊢
    exact first _ h
def cmZ (ops:List Oper) (a b:El):Bool:=cmM ops a b || cmR ops a b || cmV ops a b || cmW ops a b
theorem wz_swap {a b:El} {rest:List El} {F:Fr} {w:World} (hc:cmZ ops a b=true) (hst:StT X b.2.2) (hda:okD n a.2.1.dst=true) (hdb:okD n b.2.1.dst=true) (hq:∀ c F d v w,d<n→(Q (.panic c) (DE F d v) w↔Q (.panic c) F w)) (h:WZ P ops Q X w0 (a :: b :: rest) F w):WZ P ops Q X w0 (b :: a :: rest) F w:=by
  unfold cmZ at hc
  rw [Bool.or_eq_true,Bool.or_eq_true,Bool.or_eq_true] at hc
  rcases hc with ((hc|hc)|hc)|hc
  · exact wz_swapM hc hst h
  · exact wz_swapR hc hda hq h
  · exact wz_swapV hc hdb hq h
  · exact wz_swapW hc hda hq h
theorem wz_front {i:El} {r:List El} (hst:StT X i.2.2) (hi:okD n i.2.1.dst=true) (hq:∀ c F d v w,d<n→(Q (.panic c) (DE F d v) w↔Q (.panic c) F w)):∀ (l:List El),(∀ j∈l,cmZ ops j i=true∧okD n j.2.1.dst=true)→∀ F w,WZ P ops Q X w0 (l++i :: r) F w→WZ P ops Q X w0 (i :: (l++r)) F w
  | [],_,F,w,h=>h
  | j :: l,hl,F,w,h=>wz_swap (hl j List.mem_cons_self).1 hst (hl j List.mem_cons_self).2 hi hq (wz_cong (fun F w h=>wz_front hst hi hq l (fun x hx=>hl x (List.mem_cons_of_mem _ hx)) F w h) h)
theorem wz_step {k:Nat} {o:Oper} {T:Value→World→Prop} {rest:List El} {F:Fr} {w:World} (hw:Region.wanted o (CH ops F)=true) (h:WZ P ops Q X w0 ((k,o,T) :: rest) F w):DD P o.op o.type F w (fun v w'=>WZ P ops Q X w0 rest (GY F o.dst v) w') (fun c w'=>Q (.panic c) F w'):=by
  unfold WZ at h
  rw [if_pos hw] at h
  rcases h with ⟨q,kp,sp,ct⟩|⟨q,kp,f1⟩|⟨q5,q6,f1⟩
  · exact DJ (sp w kp) (fun v w' hk=>ct v w' hk.1 hk.2) (fun c w' hz=>hz.elim)
  · exact DJ (f1 w (Keep.refl _ _)) (fun v w' hk=>hk.2) (fun c w' hz=>hz.elim)
  · exact DJ f1 (fun v w' hk=>hk.2) (fun c w' hz=>hz.2)
abbrev ElI:=Nat × Nat × (Value→World→Prop)
def XR (ops:List Oper) (L:List ElI):List El:=L.filterMap fun p=>(ops[p.1]?).map fun o=>(p.2.1,o,p.2.2)
theorem VD {a b:List ElI}:XR ops (a++b)=XR ops a++XR ops b:=List.filterMap_append
theorem seqZ_cons {i:ElI} {t:List ElI} (hil:i.1<ops.length):XR ops (i :: t)=(i.2.1,ops[i.1],i.2.2) :: XR ops t:=by
  unfold XR;rw [List.filterMap_cons,List.getElem?_eq_getElem hil];rfl
def GH:Value→World→Prop:=fun _ _=>True
def pairZ (ops:List Oper) (a b:Nat × Nat):Bool:=(JC ops b.1).contains a.1 || (match ops[a.1]?,ops[b.1]? with|some oa,some ob=>cmZ ops (a.2,oa,GH) (b.2,ob,GH) | _,_=>false) || EU ops b.1 a.1
def pairsZ (ops:List Oper):List (Nat × Nat)→Bool
  | []=>true
  | a :: t=>(JC ops a.1).all (fun j=>!Nat.beq j a.1 && t.all (fun b=>!Nat.beq b.1 j)) && t.all (fun b=>!Nat.beq a.1 b.1 && pairZ ops a b) && pairsZ ops t
structure OrdZ (ops:List Oper) (a b:Nat × Nat):Prop where
  ne:a.1≠b.1
  pair:pairZ ops a b=true
  top:b.1∉JC ops a.1
theorem AAh:∀ {seq:List (Nat × Nat)},pairsZ ops seq=true→seq.Pairwise (OrdZ ops)∧∀ a∈seq,a.1∉JC ops a.1
  | [],_=>⟨List.Pairwise.nil,by simp⟩
  | a :: t,h=>by
    unfold pairsZ at h
    simp only [Bool.and_eq_true] at h
    obtain ⟨⟨h1,h2⟩,h3⟩:=h
    obtain ⟨i1,i2⟩:=AAh h3
    refine ⟨List.pairwise_cons.2 ⟨fun b hb=>?_,i1⟩,fun x hx=>?_⟩
    · have h4:=List.all_eq_true.1 h2 b hb
      simp only [Bool.and_eq_true] at h4
      refine ⟨MU h4.1,h4.2,fun hm=>?_⟩
      have h5:=List.all_eq_true.1 h1 _ hm
      simp only [Bool.and_eq_true] at h5
      exact MU (List.all_eq_true.1 h5.2 b hb) rfl
    · rcases List.mem_cons.1 hx with rfl|hx
      · intro hm
        have h5:=List.all_eq_true.1 h1 _ hm
        simp only [Bool.and_eq_true] at h5
        exact MU h5.1 rfl
      · exact i2 x hx
def ik (p:ElI):Nat × Nat:=(p.1,p.2.1)
theorem comm_runZ (hok:ops.all (RC n ops)=true) (hq:∀ c F d v w,d<n→(Q (.panic c) (DE F d v) w↔Q (.panic c) F w)) (hin:∀ k,k<ops.length→∀ j∈JC ops k,j<ops.length) :
    ∀ (fuel:Nat) (L:List ElI) (listed:Array Bool) (F1:Fr) (w1:World),listed.size=ops.length→PD ops listed≤fuel→
    (∀ j,j<ops.length→(listed[j]? = some true↔∀ p∈L,p.1≠j))→(∀ p∈L,p.1<ops.length)→L.Pairwise (fun a b=>OrdZ ops (ik a) (ik b))→(∀ a∈L,a.1∉JC ops a.1)→(∀ p∈L,StT X p.2.2)→(∀ i,listed[i]? = some true→∀ j∈JC ops i,listed[j]? = some true)→
    WZ P ops Q X w0 (XR ops L) F1 w1→wpAny P .any ops.toArray (KV n Q) fuel listed (mk n F1) w1:=by
  intro fuel
  have fin:∀ (fuel:Nat) (listed:Array Bool) (F1:Fr) (w1:World),listed.size=ops.length→PD ops listed≤fuel→(∀ j,j<ops.length→(listed[j]? = some true↔∀ p∈([]:List ElI),p.1≠j))→(∀ i,listed[i]? = some true→∀ j∈JC ops i,listed[j]? = some true)→WZ P ops Q X w0 (XR ops []) F1 w1→wpAny P .any ops.toArray (KV n Q) fuel listed (mk n F1) w1:=fun fuel listed F1 w1 hsz hfu hl hdown h=>
    IH hok hin [] fuel listed F1 w1 hsz hfu (fun j hj=>⟨fun _=>by simp,fun _=>(hl j hj).2 (by simp)⟩) (by simp) (by simp) rfl hdown h
  induction fuel with
  | zero=>
    intro L listed F1 w1 hsz hfu hl hlt hp hself hst hdown h
    cases L with
    | nil=>exact fin 0 listed F1 w1 hsz hfu hl hdown h
    | cons a t=>
      exfalso
      have h0:PD ops listed=0:=by omega
      unfold PD at h0
      have ha:=hlt a (by simp)
      have:=List.countP_eq_zero.1 h0 a.1 (by simp;omega)
      exact (hl a.1 ha).1 (by simpa using this) a (by simp) rfl
  | succ fuel ih=>
    intro L listed F1 w1 hsz hfu hl hlt hp hself hst hdown h
    cases L with
    | nil=>exact fin (fuel+1) listed F1 w1 hsz hfu hl hdown h
    | cons a t=>
      have hset:∀ i,i<ops.length→∀ j,(listed.setIfInBounds i true)[j]? = some true↔j=i∨listed[j]? = some true:=fun i hi j=>by
        rw [Array.getElem?_setIfInBounds]
        by_cases hji:i=j
        · subst hji;simp;omega
        · rw [if_neg hji];exact ⟨fun h=>.inr h,fun h=>h.resolve_left (fun e=>hji e.symm)⟩
      have ha:=hlt a (by simp)
      refine ⟨fun h0=>?_,fun i hi=>?_⟩
      · have hnl:listed[a.1]? = some false:=by
          have h1:¬ listed[a.1]? = some true:=fun e=>(hl a.1 ha).1 e a (by simp) rfl
          have:a.1<listed.size:=by omega
          rw [Array.getElem?_eq_getElem this] at h1 ⊢
          simpa using h1
        have:=ready_of' hsz ha hnl (fun j hj=>by
          refine (hl j (hin a.1 ha j hj)).2 fun p hm e=>?_
          subst e
          rcases List.mem_cons.1 hm with rfl|hm
          · exact hself _ (by simp) hj
          · exact (List.rel_of_pairwise_cons hp hm).top hj)
        rw [h0] at this;cases this
      · obtain ⟨hnl,hil⟩:=LQ hi hsz
        have hmem:∃ p∈a :: t,p.1=i:=Classical.byContradiction fun hc=>by have:=(hl i hil).2 (fun p hp e=>hc ⟨p,hp,e⟩);rw [hnl] at this;cases this
        obtain ⟨pi,hmem,rfl⟩:=hmem
        have hready:=IM (List.getElem?_eq_getElem hil) hi hsz (hin _ hil)
        have hwait:∀ q,EU ops pi.1 q=true→listed[q]? = some true:=fun q hq=>by
          unfold EU at hq
          exact IW (D:=fun j=>listed[j]? = some true) hdown _ _ hready q (by simpa using hq)
        have hsti:=hst pi hmem
        obtain ⟨l,r,hlr⟩:=List.append_of_mem hmem
        rw [hlr] at h hp hl hlt hself hst
        obtain ⟨hpl,hpir,hplr⟩:=List.pairwise_append.1 hp
        have hir:=List.pairwise_cons.1 hpir
        have hinl:∀ p∈l,p.1≠pi.1:=fun p hm=>(hplr p hm pi List.mem_cons_self).ne
        have hinr:∀ p∈r,p.1≠pi.1:=fun p hm e=>(hir.1 p hm).ne e.symm
        rw [VD,seqZ_cons hil] at h
        have h:=wz_front (n:=n) hsti (IZ (List.all_eq_true.1 hok _ (List.getElem_mem hil))) hq _ (fun j hj=>by
          unfold XR at hj
          obtain ⟨x,hx,hxj⟩:=List.mem_filterMap.1 hj
          have hxl:=hlt x (List.mem_append_left _ hx)
          rw [List.getElem?_eq_getElem hxl] at hxj
          simp only [Option.map_some,Option.some.injEq] at hxj
          subst hxj
          refine ⟨?_,IZ (List.all_eq_true.1 hok _ (List.getElem_mem hxl))⟩
          have h2:=(hplr x hx pi List.mem_cons_self).pair
          have hxn:¬ listed[x.1]? = some true:=fun e=>(hl x.1 hxl).1 e x (List.mem_append_left _ hx) rfl
          unfold pairZ ik at h2
          simp only [List.getElem?_eq_getElem hxl,List.getElem?_eq_getElem hil,Bool.or_eq_true] at h2
          rcases h2 with (h2|h2)|h2
          · exact absurd (hready x.1 (by simpa using h2)) hxn
          · exact h2
          · exact absurd (hwait x.1 h2) hxn) _ _ h
        rw [← VD] at h
        refine OQ (K:=fun F w=>WZ P ops Q X w0 (XR ops (l++r)) F w) hok (List.getElem?_eq_getElem hil) (fun F w hK=>ih (l++r) _ F w (by simpa using hsz) (by have:=KY hil hsz hnl;omega) (fun j hj=>?_) (fun p hj=>hlt p ?_) ?_ (fun p hj=>hself p ?_) (fun p hj=>hst p ?_) (fun j hj x hx=>?_) hK) (fun hw=>?_) (fun hw=>?_)
        · rw [hset _ hil j,hl j hj]
          constructor
          · rintro (rfl|h1)
            · exact fun p hc=>(List.mem_append.1 hc).elim (hinl p) (hinr p)
            · exact fun p hc=>h1 p ((List.mem_append.1 hc).elim (fun h=>List.mem_append_left _ h) fun h=>List.mem_append_right _ (List.mem_cons_of_mem _ h))
          · intro h1
            by_cases hji:j=pi.1
            · exact .inl hji
            · exact .inr fun p hc=>(List.mem_append.1 hc).elim (fun h=>h1 p (List.mem_append_left _ h)) fun h=>(List.mem_cons.1 h).elim (fun e2 q=>hji (by rw [← q,e2])) (fun h=>h1 p (List.mem_append_right _ h))
        · rcases List.mem_append.1 hj with h1|h1
          · exact List.mem_append_left _ h1
          · exact List.mem_append_right _ (List.mem_cons_of_mem _ h1)
        · exact List.pairwise_append.2 ⟨hpl,hir.2,fun x hx y hy=>hplr x hx y (List.mem_cons_of_mem _ hy)⟩
        · rcases List.mem_append.1 hj with h1|h1
          · exact List.mem_append_left _ h1
          · exact List.mem_append_right _ (List.mem_cons_of_mem _ h1)
        · rcases List.mem_append.1 hj with h1|h1
          · exact List.mem_append_left _ h1
          · exact List.mem_append_right _ (List.mem_cons_of_mem _ h1)
        · rw [hset _ hil x]
          rcases (hset _ hil j).1 hj with h1|h1
          · subst h1;exact .inr (hready x hx)
          · exact .inr (hdown j h1 x hx)
        · exact wz_step hw h
        · unfold WZ at h
          rw [if_neg (by rw [hw];simp)] at h
          exact h
def AllT (X:List Nat):List ElI→Prop
  | []=>True
  | a :: t=>StT X a.2.2∧AllT X t
theorem AllT.all:∀ {l:List ElI},AllT X l→∀ a∈l,StT X a.2.2
  | x :: t,h,a,ha=>by
    rcases List.mem_cons.1 ha with rfl|ha
    · exact h.1
    · exact AllT.all h.2 a ha
def commZ (ops:List Oper) (sk:List (Nat × Nat)):Bool:=
  (List.range ops.length).all (fun i=>sk.any (fun p=>Nat.beq p.1 i) && (JC ops i).all (fun j=>Nat.blt j ops.length)) && sk.all (fun p=>Nat.blt p.1 ops.length) && pairsZ ops sk
theorem SM {id:Nat} {F:Fr} {w:World} (X:List Nat) (sk:List (Nat × Nat)) (hqp:∀ c F d v w,d<n→(Q (.panic c) (DE F d v) w↔Q (.panic c) F w)) (hm:P.follows .mixedOrders=true) (hok:ops.all (RC n ops)=true) (hc:commZ ops sk=true)
    (h:∀ w1,Keep [] w w1→∃ L:List ElI,L.map ik=sk∧AllT X L∧WZ P ops Q X w1 (XR ops L) F w1):CW P (ro:=none) n (.region id ops.toArray true) Q F w:=by
  obtain ⟨L,hL,hst,hz⟩:=h w.drew (Keep.drew [] w)
  subst hL
  unfold commZ at hc
  simp only [Bool.and_eq_true] at hc
  obtain ⟨⟨h1,h2⟩,h3⟩:=hc
  obtain ⟨h4,h5⟩:=AAh h3
  have h6:∀ i,i<ops.length→(∃ p∈L,p.1=i)∧∀ j∈JC ops i,j<ops.length:=fun i hi=>by
    have:=List.all_eq_true.1 h1 i (by simpa using hi)
    simp only [Bool.and_eq_true,List.any_eq_true] at this
    obtain ⟨⟨p,hp,e⟩,h7⟩:=this
    obtain ⟨q,hq,rfl⟩:=List.mem_map.1 hp
    exact ⟨⟨q,hq,Nat.eq_of_beq_eq_true e⟩,fun j hj=>blt (List.all_eq_true.1 h7 j hj)⟩
  refine wpIn_wide.2 (wp_region_any hm ?_)
  rw [show ({ w with drawn:=w.drawn+1 }:World)=w.drew from rfl,List.size_toArray]
  refine comm_runZ hok hqp (fun k hk=>(h6 k hk).2) ops.length L _ F w.drew (by simp) ?_ (fun j hj=>?_) (fun p hp=>blt (List.all_eq_true.1 h2 (ik p) (List.mem_map.2 ⟨p,hp,rfl⟩))) (List.pairwise_map.1 h4) (fun p hp=>h5 (ik p) (List.mem_map.2 ⟨p,hp,rfl⟩)) hst.all (fun i hi=>?_) hz
  · unfold PD;exact Nat.le_trans (List.countP_le_length) (by simp)
  · simp only [Array.getElem?_replicate,hj,if_true]
    constructor
    · intro e;cases e
    · intro e
      obtain ⟨p,hp,rfl⟩:=(h6 j hj).1
      exact absurd rfl (e p hp)
  · exfalso
    rw [Array.getElem?_replicate] at hi
    split at hi <;> simp at hi
end
open Go.RowKit
theorem DX.base {α:Type} {E:Enc α} {e n m:Nat} {O:List Nat} {w:World} {v:Value} {l:List α} (h:DX E e n O w v l) (hm:m≤n):DX E e m O w v l:=by
  obtain ⟨css,h1,h2,h3⟩:=h
  refine ⟨css,h1,⟨h2.1,?_⟩,h3⟩
  rcases h2.2 with h|⟨g,cap,cur,e1,hg,r⟩
  · exact .inl h
  · exact .inr ⟨g,cap,cur,e1,Nat.le_trans hm hg,r⟩
theorem DX.u8O {e n:Nat} {O O':List Nat} {w:World} {v:Value} {l:List UInt8} (h:DX Enc.u8 e n O w v l):DX Enc.u8 e n O' w v l:=by
  obtain ⟨css,h1,h2,h3⟩:=h
  exact ⟨css,h1,h2,fun i cs x a b=>h3 i cs x a b⟩
theorem own_take {α:Type} {E:Enc α} {w0 w1 w:World} {O0 B:List Nat} {e:Nat} {v:Value} {l:List α} (s:St w0 O0 w1 B) (k:Keep [] w1 w) (hn:∀ b,v.ownBlock=some b→w1.heap.size≤b) (h:DX E e w1.heap.size (v.ownBlock.toList++(B++O0)) w v l) :
    ∃ B',(∀ b,v.ownBlock=some b→b∈B')∧(∀ b∈B,b∈B')∧St w0 O0 w B'∧Mv B w1 B' w∧DX E e w0.heap.size (B'++O0) w v l:=by
  refine ⟨v.ownBlock.toList++B,fun b hb=>List.mem_append_left _ (by simp [hb]),fun b hb=>List.mem_append_right _ hb,⟨(s.call k).keep,fun b hb=>?_,s.old⟩,⟨k.nil,fun b hb=>?_⟩,by rw [List.append_assoc];exact h.base s.keep.size⟩
  · rcases List.mem_append.1 hb with hb|hb
    · have h1:=h.lt b (by simpa using hb)
      exact ⟨Nat.le_trans s.keep.size h1.1,h1.2⟩
    · exact (s.call k).new b hb
  · rcases List.mem_append.1 hb with hb|hb
    · exact .inr (hn b (by simpa using hb))
    · exact .inl hb
theorem own_lent {w0 w1 w:World} {O0 B O':List Nat} {e:Nat} {v:Value} {l:List UInt8} (s:St w0 O0 w1 B) (hn:∀ b,v.ownBlock=some b→w1.heap.size≤b) (h:DX Enc.u8 e w1.heap.size O' w v l) :
    DX Enc.u8 e w0.heap.size (B++O0) w v l∧∀ b,v.ownBlock=some b→b∉B++O0:=
  ⟨(h.base s.keep.size).u8O,fun b hb hm=>by have:=hn b hb;have:=s.lt b hm;omega⟩
theorem own_back {w0 w:World} {O0 B:List Nat} {e:Nat} {v:Value} {l:List UInt8} (s:St w0 O0 w B) (h:DX Enc.u8 e w0.heap.size (B++O0) w v l) :
    ∃ B',(∀ b,v.ownBlock=some b→b∈B')∧(∀ b∈B,b∈B')∧St w0 O0 w B'∧DX Enc.u8 e w0.heap.size (B'++O0) w v l:=by
  refine ⟨v.ownBlock.toList++B,fun b hb=>List.mem_append_left _ (by simp [hb]),fun b hb=>List.mem_append_right _ hb,⟨s.keep,fun b hb=>?_,s.old⟩,h.u8O⟩
  rcases List.mem_append.1 hb with hb|hb
  · exact h.lt b (by simpa using hb)
  · exact s.new b hb
theorem flat_ones (m:List UInt8):(m.map fun y=>[vB y]).flatten=m.map vB:=by
  induction m with
  | nil=>rfl
  | cons a r ih=>simp [ih]
theorem BL.n8 {w:World} {O:List Nat} {A:Addr} {c:Nat} {m:List UInt8} (h:BL Enc.u8 w O (.slice (some A) m.length c) m):RdN Enc.u8 w O w (.slice (some A) m.length c) m:=by
  obtain ⟨A',c',h1,h2,h3,h4⟩:=h
  cases h1
  refine ⟨A,c,rfl,h2,h3,m.map fun y=>[vB y],by simp,fun j cs y hj hy=>?_,fun j q hq=>?_⟩
  · rw [List.getElem?_map,hy] at hj;cases hj;rfl
  · rw [flat_ones,List.getElem?_map] at hq
    cases hy:m[j]? with
    | none=>rw [hy] at hq;cases hq
    | some y=>
      rw [hy] at hq;cases hq
      obtain ⟨ad,cs,e1,hc,hr⟩:=h4 j y hy
      cases e1
      have hr:cs=[vB y]:=hr
      subst hr
      have:=hc.2.2 0 (vB y) rfl
      rw [add_add] at this
      rw [show j=j*Enc.u8.size+0 from by show j=j*1+0;omega]
      exact this
section
variable {P:Program} {ty:TypeId} {F:Fr} {w w0:World} {O0 B:List Nat} {K:Value→World→Prop} {Z:List PanicEntry→World→Prop} {x y:Operand}
theorem o_append8 {t e:Nat} {z:Value} {bytes:Nat} {v u:Value} {l m:List UInt8} {O':List Nat} (ht:P.underlying t=some (.slice e)) (hi:(P.info? e).map (fun i=>(i.zero,i.size,i.bytes))=some (some z,Enc.u8.size,bytes)) (hzs:z.cells.size=Enc.u8.size) (hpos:0<Enc.u8.size)
    (hx:CP F x=v) (hy:CP F y=u) (ho:DX Enc.u8 e w0.heap.size (B++O0) w v l) (hu:BL Enc.u8 w O' u m) (hv:∀ b,v.ownBlock=some b→b∈B) (hlen:(l.length+m.length)*bytes≤140737488355328) (hlm:l.length+m.length≤maxLen) (s:St w0 O0 w B)
    (h:∀ v' w' B',(∀ b,v'.ownBlock=some b→b∈B')→(v'.ownBlock=v.ownBlock∨v'.ownBlock=some w.heap.size)→(∀ b∈B,b∈B')→St w0 O0 w' B'→Mv B w B' w'→Keep v.ownBlock.toList w w'→DX Enc.u8 e w0.heap.size (B'++O0) w' v' (l++m)→K v' w') :
    DD P (.call { callee:=.builtin .append,args:=#[x,y],argTypes:=#[t,t] }) ty F w K Z:=by
  have hu0:=hu
  obtain ⟨A,c,e1,h2,h3,h4⟩:=hu
  cases A with
  | none=>
    have hm:m=[]:=by
      cases m with
      | nil=>rfl
      | cons a r=>obtain ⟨ad,_,e2,_⟩:=h4 0 a rfl;cases e2
    subst hm
    exact DI (O':=B++O0) ht hi hzs hpos hx hy ho ⟨none,c,e1,h2,h3,fun i y hi=>by simp at hi⟩ (fun b hb=>.inl hb) hv hlen hlm s h
  | some A=>
    subst e1
    exact UI (uw:=w) (O':=O') ht hi hzs hpos hx hy ho hu0.n8 (fun cs y h=>h) hv hlen hlm s h
end
open Go.RowKit
def Enc.val:Enc Value where
  size:=1
  rd:=fun _ _ cs v=>cs=[v]∧v.oneCell'=true
  len:=fun h=>by rw [h.1];rfl
  one:=fun h u hu=>by rw [h.1] at hu;simp at hu;subst hu;exact h.2
  mv:=fun h _=>h
  sub:=fun h _=>h
section
variable {P:Program} {ty:TypeId} {F:Fr} {w w0:World} {O0 B:List Nat} {K:Value→World→Prop} {Z:List PanicEntry→World→Prop} {x y:Operand}
end
structure Nest {α:Type} (E:Enc α) (e n:Nat) (O:List Nat) (w:World) (NB:List Nat) (vs:List Value) (ls:List (List α)):Prop where
  len:vs.length=ls.length
  own:∀ i,i<vs.length→DX E e n O w vs[i]! ls[i]!
  blk:∀ i b,i<vs.length→vs[i]!.ownBlock=some b→b∈NB
  sep:∀ i j b,i<vs.length→j<vs.length→i≠j→vs[i]!.ownBlock=some b→vs[j]!.ownBlock≠some b
section
variable {α:Type} {E:Enc α} {e n:Nat} {O B B' NB X:List Nat} {w w':World} {vs:List Value} {ls:List (List α)}
theorem Nest.nil:Nest E e n O w NB [] []:=⟨rfl,fun i h=>absurd h (by simp),fun i b h=>absurd h (by simp),fun i j b h=>absurd h (by simp)⟩
theorem Nest.mv (h:Nest E e n (B++O) w B vs ls) (m:Mv B w B' w') (k:Keep X w w') (hx:∀ i b,i<vs.length→vs[i]!.ownBlock=some b→b∉X) (hs:∀ b∈B,b∈B'):Nest E e n (B'++O) w' B' vs ls:=
  ⟨h.len,fun i hi=>(h.own i hi).mv m k (fun b hb=>hx i b hi hb),fun i b hi hb=>hs b (h.blk i b hi hb),h.sep⟩
theorem DX.box {v:Value} {l:List α} {g:Nat} (h:DX E e n O w v l) (hb:v.ownBlock=some g):∃ cs,FT w g e cs:=by
  obtain ⟨css,h1,h2,h3⟩:=h
  rcases h2.2 with ⟨rfl,h0⟩|⟨q,cap,cur,rfl,hbg,hg,hnc,hm,hsz,htk⟩
  · cases hb
  · have:q=g:=by simpa [Value.ownBlock] using hb
    subst this
    exact ⟨cur.toList,by simpa [FT] using hg⟩
theorem FT.type {b T T':Nat} {cs cs':List Value} (h:FT w b T cs) (h':FT w b T' cs'):T=T':=by
  unfold FT at h h';rw [h] at h';cases h';rfl
theorem NS {β:Type} [Inhabited β] {l:List β} {x:β} {i:Nat} (h:i<l.length):(l++[x])[i]! = l[i]!:=by
  rw [getElem!_pos (l++[x]) i (by simp;omega),List.getElem_append_left h,← getElem!_pos l i h]
theorem NO {β:Type} [Inhabited β] {l:List β} {x:β}:(l++[x])[l.length]! = x:=by
  rw [getElem!_pos (l++[x]) l.length (by simp),List.getElem_append_right (Nat.le_refl _)];simp
theorem Nest.push (h:Nest E e n O w NB vs ls):Nest E e n O w NB (vs++[.slice none 0 0]) (ls++[[]]):=by
  refine ⟨by simp [h.len],fun i hi=>?_,fun i b hi hb=>?_,fun i j b hi hj hij hb=>?_⟩
  · by_cases c:i<vs.length
    · rw [NS c,NS (by rw [← h.len];exact c)];exact h.own i c
    · have:i=vs.length:=by simp at hi;omega
      subst this
      rw [NO,h.len,NO];exact DX.nil _ _ _ _ _
  · by_cases c:i<vs.length
    · rw [NS c] at hb;exact h.blk i b c hb
    · have:i=vs.length:=by simp at hi;omega
      subst this
      rw [NO] at hb;simp [Value.ownBlock] at hb
  · by_cases c:i<vs.length
    · rw [NS c] at hb
      by_cases d:j<vs.length
      · rw [NS d];exact h.sep i j b c d hij hb
      · have:j=vs.length:=by simp at hj;omega
        subst this
        rw [NO];simp [Value.ownBlock]
    · have:i=vs.length:=by simp at hi;omega
      subst this
      rw [NO] at hb;simp [Value.ownBlock] at hb
end
open Go.RowKit
theorem o_loadV {P:Program} {ty:TypeId} {F:Fr} {w:World} {K:Value→World→Prop} {Z:List PanicEntry→World→Prop} {x:Operand} {O:List Nat} {z:Value} {a:Addr} {t:TypeId} {D:TypeDesc} (ht:P.underlying t=some D) (hD:GV D=true) (hx:CP F x = .pointer (some a)) (hp:PT Enc.val w O (.pointer (some a)) z) (h:K z w):DD P (.load t x) ty F w K Z:=
  TL ht hD rfl hx hp fun v hv=>by
    have:[v]=[z]:=hv.1
    cases this;exact h
structure Bk {α:Type} (E:Enc α) (e n:Nat) (O B:List Nat) (w:World) (L:List Value) (T:List (List α)):Prop where
  nest:Nest E e n (B++O) w B L T
section
variable {α:Type} {E:Enc α} {e n:Nat} {O B B' X:List Nat} {w w':World} {L:List Value} {T:List (List α)}
theorem Bk.len (h:Bk E e n O B w L T):L.length=T.length:=h.nest.len
theorem Bk.nil:Bk E e n O B w [] []:=⟨Nest.nil⟩
theorem Bk.own (h:Bk E e n O B w L T) {i:Nat} (hi:i<T.length):DX E e n (B++O) w L[i]! T[i]!:=h.nest.own i (by rw [h.len];exact hi)
theorem Bk.mvX (h:Bk E e n O B w L T) (m:Mv B w B' w') (k:Keep X w w') (hx:∀ i b,i<T.length→L[i]!.ownBlock=some b→b∉X) (hs:∀ b∈B,b∈B'):Bk E e n O B' w' L T:=
  ⟨h.nest.mv m k (fun i b hi hb=>hx i b (by rw [← h.len];exact hi) hb) hs⟩
theorem Bk.mv0 (h:Bk E e n O B w L T) (m:Mv B w B' w') (k:Keep [] w w') (hs:∀ b∈B,b∈B'):Bk E e n O B' w' L T:=h.mvX m k (fun _ _ _ _=>by simp) hs
theorem Bk.mvB (h:Bk E e n O B w L T) {b t:Nat} {cs:List Value} (m:Mv B w B' w') (k:Keep [b] w w') (hb:FT w b t cs) (ht:t≠e) (hs:∀ b∈B,b∈B'):Bk E e n O B' w' L T:=
  h.mvX m k (fun i g hi hg hm=>by
    have:g=b:=by simpa using hm
    subst this
    obtain ⟨cs',h'⟩:=(h.own hi).box hg
    exact ht (hb.type h')) hs
theorem Bk.mvO {β:Type} {E':Enc β} {O':List Nat} {v:Value} {l:List β} {t n':Nat} (h:Bk E e n O B w L T) (m:Mv B w B' w') (k:Keep X w w') (ho:DX E' t n' O' w v l) (hv:∀ b∈X,v.ownBlock=some b) (ht:t≠e) (hs:∀ b∈B,b∈B'):Bk E e n O B' w' L T:=
  h.mvX m k (fun i g hi hg hm=>by
    obtain ⟨cs,h1⟩:=ho.box (hv g hm)
    obtain ⟨cs',h2⟩:=(h.own hi).box hg
    exact ht (h1.type h2)) hs
theorem Bk.neO {β:Type} {E':Enc β} {O':List Nat} {v:Value} {l:List β} {t n' i:Nat} (h:Bk E e n O B w L T) (hi:i<T.length) (ho:DX E' t n' O' w v l) (ht:t≠e):∀ b,v.ownBlock=some b→b∉L[i]!.ownBlock.toList:=fun b hb hm=>by
  obtain ⟨cs,h1⟩:=ho.box hb
  obtain ⟨cs',h2⟩:=(h.own hi).box (by simpa using hm)
  exact ht (h1.type h2)
theorem Bk.neB {b t i:Nat} {cs:List Value} (h:Bk E e n O B w L T) (hi:i<T.length) (hb:FT w b t cs) (ht:t≠e):b∉L[i]!.ownBlock.toList:=fun hm=>by
  obtain ⟨cs',h2⟩:=(h.own hi).box (by simpa using hm)
  exact ht (hb.type h2)
theorem Bk.push (h:Bk E e n O B w L T):Bk E e n O B w (L++[.slice none 0 0]) (T++[[]]):=⟨h.nest.push⟩
end
open Go.RowKit
section
variable {P:Program} {Q:Exit→Fr→World→Prop} {ops:List Oper} {X:List Nat} {w0:World} {rest:List El} {F:Fr} {w:World} {d:Tmp} {op:Op} {ty:TypeId} {pos:String} {af:Array Edge} {T:Value→World→Prop}
theorem wz_nil (h:Q .normal F w):WZ P ops Q X w0 [] F w:=h
theorem IX (h:DD P op ty F w (fun v w'=>WZ P ops Q X w0 rest (DE F d v) w') (fun c w'=>Q (.panic c) F w')):WZ P ops Q X w0 ((0,⟨some d,op,ty,pos,af,none⟩,T) :: rest) F w:=by
  unfold WZ
  rw [if_pos NH]
  exact .inr (.inr ⟨by decide,by decide,DJ h (fun v w' hk=>⟨⟨fun e=>(by cases e),fun e=>(by cases e),fun e=>(by cases e),fun e=>(by cases e)⟩,hk⟩) (fun c w' hz=>⟨rfl,hz⟩)⟩)
theorem NY (h:DD P op ty F w (fun v w'=>WZ P ops Q X w0 rest F w') (fun c w'=>Q (.panic c) F w')):WZ P ops Q X w0 ((0,⟨none,op,ty,pos,af,none⟩,T) :: rest) F w:=by
  unfold WZ
  rw [if_pos NH]
  exact .inr (.inr ⟨by decide,by decide,DJ h (fun v w' hk=>⟨⟨fun e=>(by cases e),fun e=>(by cases e),fun e=>(by cases e),fun e=>(by cases e)⟩,hk⟩) (fun c w' hz=>⟨rfl,hz⟩)⟩)
theorem EG {v:Value} (hv:vOp op=true) (hs:∀ w2,Keep X w w2→DD P op ty F w2 (fun v' w'=>v'=v∧w'=w2) (fun _ _=>False)) (h:WZ P ops Q X w0 rest (DE F d v) w):WZ P ops Q X w0 ((4,⟨some d,op,ty,pos,af,none⟩,T) :: rest) F w:=by
  unfold WZ
  rw [if_pos NH]
  refine .inr (.inr ⟨by decide,by decide,?_⟩)
  unfold DD
  rw [VY hv (hs w (Keep.refl _ _))]
  exact ⟨⟨fun e=>(by cases e),fun e=>(by cases e),fun e=>(by cases e),fun _=>⟨rfl,fun w2 k2=>VY hv (hs w2 k2)⟩⟩,h⟩
theorem wz_s5 (h0:Keep X w0 w) (h1:∀ w1,Keep X w0 w1→DD P op ty F w1 (fun v w'=>Keep [] w1 w'∧T v w') (fun _ _=>False)) (h2:∀ v w',Keep [] w w'→T v w'→WZ P ops Q X w0 rest (DE F d v) w'):WZ P ops Q X w0 ((5,⟨some d,op,ty,pos,af,none⟩,T) :: rest) F w:=by
  unfold WZ
  rw [if_pos NH]
  exact .inl ⟨rfl,h0,h1,h2⟩
theorem XM (h0:Keep X w0 w) (h:∀ w1,Keep [] w w1→DD P op ty F w1 (fun v w'=>Keep X w1 w'∧WZ P ops Q X w0 rest (DE F d v) w') (fun _ _=>False)):WZ P ops Q X w0 ((6,⟨some d,op,ty,pos,af,none⟩,T) :: rest) F w:=by
  unfold WZ
  rw [if_pos NH]
  exact .inr (.inl ⟨rfl,h0,h⟩)
theorem CC {X:List Nat}:StT X GH:=fun _ _ _ _ _=>trivial
theorem cell_oldX {O:List Nat} {u w:World} (k:Keep O u w) {a:Addr} {v:Value} (hb:a.block∉O) (h:u.cell? a=some v):w.cell? a=some v:=(World.cell?_of_block (w:=u) (k.block a.block (World.block_lt_of_cell? u _ h) hb)).trans h
def LitX {α:Type} (E:Enc α) (u:World) (O X:List Nat) (l:List α) (v:Value) (w:World):Prop:=RdN E u O w v l∧∀ A n c,v = .slice (some A) n c→A.block∉X
theorem LitX.st {α:Type} {E:Enc α} {u:World} {O X:List Nat} {l:List α}:StT X (LitX E u O X l):=fun v w w' ⟨h,hn⟩ k=>by
  obtain ⟨A,c,h1,h2,h3,css,h4,h5,h6⟩:=h
  refine ⟨⟨A,c,h1,h2,h3,css,h4,h5,fun j q hq=>cell_oldX k ?_ (h6 j q hq)⟩,hn⟩
  rw [KX];exact hn A _ c h1
theorem o_litX {α:Type} {E:Enc α} {u:World} {O X:List Nat} {F:Fr} {w:World} {ty:TypeId} {K:Value→World→Prop} {Z:List PanicEntry→World→Prop} {t e n:Nat} {z:Value} {ps:Array (Nat × Operand)} {xs:List Operand} (hX:∀ b∈X,b<u.heap.size) (k1:Keep X u w) (ht:P.underlying t=some (.slice e)) (hs:DZ P e=some E.size) (hz:GF P e=some z) (hpos:0<E.size)
    (vs:List Value) (css:List (List Value)) (l:List α) (hps:ps=((xs.zipIdx 0).map fun p=>(p.2,p.1)).toArray) (hv:xs.map (CP F)=vs) (hn:n=l.length) (hp:Parts E u O vs css l) (hsmall:l.length*E.size≤16777216)
    (h:∀ v w',Keep [] w w'→LitX E u O X l v w'→K v w'):DD P (.buildSlice t n ps) ty F w K Z:=by
  have hr:=run_lit (P:=P) (w:=w) ht hs hz hpos vs css (by rw [hp.lv,hp.lc]) (fun i v cs h1 h2=>⟨hp.cells i v cs h1 h2,by
    have hi:i<l.length:=by rw [← hp.lc];exact (List.getElem?_eq_some_iff.1 h2).1
    exact E.len (hp.rd i cs l[i] h2 (List.getElem?_eq_getElem hi))⟩) (by rw [hp.lv];exact hsmall)
  rw [hp.lv] at hr
  subst hps;subst hn
  refine BV (v:=.slice (some ⟨w.heap.size,0,none⟩) l.length l.length) (w':=w.alloc (.cells css.flatten.toArray e)) (by simp only [execOp,ZP F xs vs hv];simp [hr]) (h _ _ (Keep.alloc _ _ _) ⟨?_,?_⟩)
  · refine ⟨⟨w.heap.size,0,none⟩,l.length,rfl,Nat.le_refl _,by simp only [maxLen];have:l.length≤l.length*E.size:=Nat.le_mul_of_pos_right _ hpos;omega,css,hp.lc,fun j cs y h1 h2=>hp.rd j cs y h1 h2,fun j q hq=>?_⟩
    rw [VK,Nat.zero_add,(FT.new w e css.flatten).cell];exact hq
  · intro A n c e hA
    cases e
    have:=hX _ hA
    have:=k1.size
    simp only at *
    omega
end
def mblk:Value→Option Nat
  | .map r=>r
  | _=>none
def WM (p:Int→Bool):Int→Option Bool:=fun k=>if p k then some true else none
structure Mk (B:List Nat) (w:World) (L:List Value) (T:List (Int→Bool)):Prop where
  len:L.length=T.length
  at_:∀ i,i<T.length→∃ r,L[i]! = .map (some r)∧r∈B∧TO vI Value.bool w r (WM T[i]!)
  ne:∀ i j r,i<T.length→j<T.length→L[i]! = .map (some r)→L[j]! = .map (some r)→i=j
section
variable {B B' X:List Nat} {w w':World} {L:List Value} {T:List (Int→Bool)}
theorem Mk.nil:Mk B w [] []:=⟨rfl,fun i hi=>(by cases hi),fun i j r hi=>(by cases hi)⟩
theorem Mk.mvX (h:Mk B w L T) (m:Mv B w B' w') (k:Keep X w w') (hx:∀ i r,i<T.length→L[i]! = .map (some r)→r∉X) (hs:∀ b∈B,b∈B'):Mk B' w' L T:=
  ⟨h.len,fun i hi=>by
    obtain ⟨r,e,hb,hm⟩:=h.at_ i hi
    exact ⟨r,e,hs r hb,hm.keep k (hx i r hi e)⟩,h.ne⟩
theorem Mk.mv0 (h:Mk B w L T) (m:Mv B w B' w') (k:Keep [] w w') (hs:∀ b∈B,b∈B'):Mk B' w' L T:=h.mvX m k (fun _ _ _ _=>by simp) hs
theorem TO.notBox {κ α:Type} [BEq κ] {enc:κ→Value} {venc:α→Value} {w:World} {r t:Nat} {M:κ→Option α} {cs:List Value} (h:TO enc venc w r M) (hb:FT w r t cs):False:=by
  obtain ⟨es,c,l,ho,_⟩:=h
  unfold Ob at ho
  unfold FT at hb
  rw [ho] at hb
  cases hb
theorem Mk.neB (h:Mk B w L T) {b t i:Nat} {cs:List Value} (hi:i<T.length) (hb:FT w b t cs):b∉(mblk L[i]!).toList:=fun hm=>by
  obtain ⟨r,e,_,hr⟩:=h.at_ i hi
  rw [e] at hm
  have:b=r:=by simpa [mblk] using hm
  subst this
  exact hr.notBox hb
theorem Mk.neO {β:Type} {E':Enc β} {O':List Nat} {v:Value} {l:List β} {t n' i:Nat} (h:Mk B w L T) (hi:i<T.length) (ho:DX E' t n' O' w v l):∀ b,v.ownBlock=some b→b∉(mblk L[i]!).toList:=fun b hb=>by
  obtain ⟨cs,h1⟩:=ho.box hb
  exact h.neB hi h1
theorem Mk.mvB (h:Mk B w L T) {b t:Nat} {cs:List Value} (m:Mv B w B' w') (k:Keep [b] w w') (hb:FT w b t cs) (ht:0=0) (hs:∀ b∈B,b∈B'):Mk B' w' L T:=
  h.mvX m k (fun i r hi e hm=>by
    have:=h.neB hi hb
    rw [e] at this
    exact this (by
                   have:r=b:=by simpa using hm
                   subst this;simp [mblk])) hs
theorem Mk.mvO {β:Type} {E':Enc β} {O':List Nat} {v:Value} {l:List β} {t n':Nat} (h:Mk B w L T) (m:Mv B w B' w') (k:Keep X w w') (ho:DX E' t n' O' w v l) (hv:∀ b∈X,v.ownBlock=some b) (ht:0=0) (hs:∀ b∈B,b∈B'):Mk B' w' L T:=
  h.mvX m k (fun i r hi e hm=>by
    have:=h.neO hi ho r (hv r hm)
    rw [e] at this
    exact this (by simp [mblk])) hs
theorem Mk.push (h:Mk B w L T) {r:Nat} (hr:TO vI Value.bool w r noM) (hb:r∈B) (hn:∀ i s,i<T.length→L[i]! = .map (some s)→s≠r):Mk B w (L++[.map (some r)]) (T++[fun _=>false]):=by
  have hl:=h.len
  have g1:∀ i,i<T.length→(L++[Value.map (some r)])[i]! = L[i]!:=fun i hi=>by
    rw [getElem!_pos (L++[Value.map (some r)]) i (by simp;omega),List.getElem_append_left (by omega),← getElem!_pos L i (by omega)]
  have g2:∀ i,i=T.length→(L++[Value.map (some r)])[i]! = .map (some r):=fun i hi=>by
    rw [getElem!_pos (L++[Value.map (some r)]) i (by simp;omega),List.getElem_append_right (by omega)];simp
  have t1:∀ i,i<T.length→(T++[fun _=>false])[i]! = T[i]!:=fun i hi=>by
    rw [getElem!_pos (T++[fun _=>false]) i (by simp;omega),List.getElem_append_left (by omega),← getElem!_pos T i (by omega)]
  have t2:∀ i,i=T.length→(T++[fun _=>false])[i]! = fun _=>false:=fun i hi=>by
    rw [getElem!_pos (T++[fun _=>false]) i (by simp;omega),List.getElem_append_right (by omega)];simp
  have e0:WM (fun _=>false)=noM:=by funext k;simp [WM,noM]
  refine ⟨by simp [hl],fun i hi=>?_,fun i j s hi hj ei ej=>?_⟩
  · simp only [List.length_append,List.length_singleton] at hi
    by_cases q:i<T.length
    · rw [g1 i q,t1 i q];exact h.at_ i q
    · rw [g2 i (by omega),t2 i (by omega),e0];exact ⟨r,rfl,hb,hr⟩
  · simp only [List.length_append,List.length_singleton] at hi hj
    by_cases qi:i<T.length
    · rw [g1 i qi] at ei
      by_cases qj:j<T.length
      · rw [g1 j qj] at ej;exact h.ne i j s qi qj ei ej
      · rw [g2 j (by omega)] at ej;cases ej;exact absurd rfl (hn i _ qi ei)
    · rw [g2 i (by omega)] at ei;cases ei
      by_cases qj:j<T.length
      · rw [g1 j qj] at ej;exact absurd rfl (hn j _ qj ej)
      · omega
theorem Mk.old (h:Mk B w L T) {r:Nat} (hr:w.heap.size≤r):∀ i s,i<T.length→L[i]! = .map (some s)→s≠r:=fun i s hi e=>by
  obtain ⟨r',e',_,hm⟩:=h.at_ i hi
  rw [e] at e';cases e'
  have:=hm.lt
  omega
variable {P:Program} {ty:TypeId} {F:Fr} {w0:World} {O0:List Nat} {K:Value→World→Prop} {Z:List PanicEntry→World→Prop} {x y z:Operand}
theorem o_lookT {t kt et i:Nat} {k:Int} (ht:P.underlying t=some (.map kt et)) (hk:P.underlying kt=some (.int .i64)) (hz:GF P et=some (.bool false)) (hx:CP F x=L[i]!) (hy:CP F y=vI k) (hT:Mk B w L T) (hi:i<T.length) (h:K (.bool (T[i]! k)) w):DD P (.lookup t x y false) ty F w K Z:=by
  obtain ⟨r,e,_,hm⟩:=hT.at_ i hi
  refine o_lookV1 (z0:=false) (k:=k) ht (key_int hk) hz (hx.trans e) hy hm ?_
  have:((WM T[i]! k).getD false)=T[i]! k:=by unfold WM;cases T[i]! k <;> rfl
  rw [this];exact h
theorem o_updT {t kt et i:Nat} {k:Int} (ht:P.underlying t=some (.map kt et)) (hk:P.underlying kt=some (.int .i64)) (hx:CP F x=L[i]!) (hy:CP F y=vI k) (hv:CP F z = .bool true) (hT:Mk B w L T) (hi:i<T.length) (s:St w0 O0 w B)
    (h:∀ w',St w0 O0 w' B→Mv B w B w'→Keep (mblk L[i]!).toList w w'→Mk B w' L (T.set i (fun x=>x == k || T[i]! x))→K undef w'):DD P (.mapUpdate t x y z) ty F w K Z:=by
  obtain ⟨r,e,hb,hm⟩:=hT.at_ i hi
  refine o_updV (a:=true) (venc:=Value.bool) ht (key_int hk) (hx.trans e) hy hv hm hb s fun w' s' m' k' hm'=>h w' s' m' (by rw [e];exact k') ?_
  have hset:∀ j,j<T.length→(T.set i (fun x=>x == k || T[i]! x))[j]! = if i=j then (fun x=>x == k || T[i]! x) else T[j]!:=fun j hj=>by
    rw [getElem!_pos (T.set i _) j (by rw [List.length_set];exact hj),List.getElem_set,← getElem!_pos T j hj]
  refine ⟨by rw [List.length_set];exact hT.len,fun j hj=>?_,fun a b s ha hb=>hT.ne a b s (by rwa [List.length_set] at ha) (by rwa [List.length_set] at hb)⟩
  rw [List.length_set] at hj
  rw [hset j hj]
  obtain ⟨rj,ej,hbj,hmj⟩:=hT.at_ j hj
  by_cases q:i=j
  · subst q
    rw [if_pos rfl]
    rw [e] at ej;cases ej
    refine ⟨r,e,hb,?_⟩
    have:WM (fun x=>x == k || T[i]! x)=upM (WM T[i]!) k true:=by
      funext x
      show (if (x == k || T[i]! x)=true then some true else none)=if x == k then some true else (if T[i]! x=true then some true else none)
      cases q:x == k with
      | true=>simp
      | false=>rw [Bool.false_or];simp
    rw [this];exact hm'
  · rw [if_neg q]
    refine ⟨rj,ej,hbj,hmj.keep k' ?_⟩
    intro hq
    have:rj=r:=by simpa using hq
    subst this
    exact q (hT.ne i j _ hi hj e ej)
end
open Go.RowKit
structure FrT (Ts:List Nat) (w w':World):Prop where
  size:w.heap.size≤w'.heap.size
  box:∀ b t cs,FT w b t cs→t∉Ts→FT w' b t cs
section
variable {Ts X:List Nat} {w w1 w2:World}
theorem FrT.refl:FrT Ts w w:=⟨Nat.le_refl _,fun _ _ _ h _=>h⟩
theorem FrT.step (h:FrT Ts w w1) (k:Keep X w1 w2) (ho:∀ g∈X,w.heap.size≤g∨∀ t cs,FT w1 g t cs→t∈Ts):FrT Ts w w2:=
  ⟨Nat.le_trans h.size k.size,fun b t cs hb ht=>(h.box b t cs hb ht).keep k (fun hx=>by
    rcases ho b hx with h1|h1
    · have:=hb.lt;omega
    · exact ht (h1 t cs (h.box b t cs hb ht)))⟩
theorem FrT.step0 (h:FrT Ts w w1) (k:Keep [] w1 w2):FrT Ts w w2:=h.step k (fun g hg=>by cases hg)
theorem FrT.stepB (h:FrT Ts w w1) {b t:Nat} {cs:List Value} (k:Keep [b] w1 w2) (hb:FT w1 b t cs) (ht:t∈Ts):FrT Ts w w2:=h.step k (fun g hg=>by
  have:g=b:=by simpa using hg
  subst this
  exact .inr fun t' cs' h'=>by rw [← hb.type h'];exact ht)
theorem FrT.stepO (h:FrT Ts w w1) {β:Type} {E':Enc β} {O':List Nat} {v:Value} {l:List β} {t n':Nat} (k:Keep X w1 w2) (ho:DX E' t n' O' w1 v l) (hv:∀ b∈X,v.ownBlock=some b) (ht:t∈Ts):FrT Ts w w2:=h.step k (fun g hg=>by
  obtain ⟨cs,h1⟩:=ho.box (hv g hg)
  exact .inr fun t' cs' h'=>by rw [← h1.type h'];exact ht)
theorem FrT.stepM (h:FrT Ts w w1) {B:List Nat} {L:List Value} {T:List (Int→Bool)} {i:Nat} (k:Keep (mblk L[i]!).toList w1 w2) (hT:Mk B w1 L T) (hi:i<T.length):FrT Ts w w2:=h.step k (fun g hg=>.inr fun t cs h'=>absurd hg (hT.neB hi h'))
theorem DX.neT {α β:Type} {E:Enc α} {E':Enc β} {e e' n n':Nat} {O O':List Nat} {w:World} {v v':Value} {l:List α} {l':List β} (h:DX E e n O w v l) (h':DX E' e' n' O' w v' l') (hne:e≠e'):∀ b,v.ownBlock=some b→v'.ownBlock≠some b:=fun b h1 h2=>by
  obtain ⟨cs,c1⟩:=h.box h1
  obtain ⟨cs',c2⟩:=h'.box h2
  exact hne (c1.type c2)
theorem DX.neB {α:Type} {E:Enc α} {e n b1 t:Nat} {O:List Nat} {w:World} {v:Value} {l:List α} {cs:List Value} (h:DX E e n O w v l) (hb:FT w b1 t cs) (hne:e≠t):∀ b,v.ownBlock=some b→b≠b1:=fun b h1 e1=>by
  obtain ⟨cs',c1⟩:=h.box h1
  subst e1
  exact hne (c1.type hb)
theorem DX.ninL {α:Type} {E:Enc α} {e n b1 t:Nat} {O:List Nat} {w:World} {v:Value} {l:List α} {cs:List Value} (h:DX E e n O w v l) (hb:FT w b1 t cs) (hne:e≠t):b1∉v.ownBlock.toList:=fun hm=>h.neB hb hne b1 (Option.mem_toList.1 hm) rfl
theorem DX.ltL {α:Type} {E:Enc α} {e n:Nat} {O:List Nat} {w:World} {v:Value} {l:List α} (h:DX E e n O w v l):∀ b∈v.ownBlock.toList,b<w.heap.size:=fun b hb=>(h.lt b (Option.mem_toList.1 hb)).2
theorem QX {b:Nat} {X Y:List Nat} (h1:b∉X) (h2:b∉Y):b∉X++Y:=fun h=>(List.mem_append.1 h).elim h1 h2
theorem lt_app {n:Nat} {X Y:List Nat} (h1:∀ b∈X,b<n) (h2:∀ b∈Y,b<n):∀ b∈X++Y,b<n:=fun b h=>(List.mem_append.1 h).elim (h1 b) (h2 b)
theorem FT.neT {b b1 t t1:Nat} {w:World} {cs cs1:List Value} (h:FT w b t cs) (h1:FT w b1 t1 cs1) (hne:t≠t1):b≠b1:=fun e=>by
  subst e
  exact hne (h.type h1)
theorem o_half {P:Program} {ty:TypeId} {F:Fr} {w:World} {K:Value→World→Prop} {Z:List PanicEntry→World→Prop} {t yt:TypeId} {x y:Operand} (n:Nat) (hx:CP F x = .int .i64 (n:Int)) (hy:CP F y = .int .i64 2) (hn:n≤9223372036854775807) (h:K (.int .i64 ((n / 2:Nat):Int)) w):DD P (.binOp .quo t x y yt) ty F w K Z:=
  o_quo .i64 (n:Int) 2 ((n / 2:Nat):Int) hx hy (by decide) (GZ (by omega) (Int.ofNat_tdiv n 2).symm) h
end
open Go.RowKit
section
variable {P:Program} {ty:TypeId} {F:Fr} {w w0:World} {K:Value→World→Prop} {Z:List PanicEntry→World→Prop} {x:Operand} {O O0:List Nat}
end
end Go.Fw
