/- What the laws of this part rest on: lemmas, and the walks of the functions. No conditions. -/
import Derived.WalkKit
import Derived.WalkSpells
import Derived.WalkLawsBesides
import Derived.RangeFuncLeaves
import Derived.Maps.AppendAt
import Derived.Deep.AppendLies
import Derived.Deep.Slices
import Derived.OpenShut
import Derived.ProofKit
import Derived.Below
import Derived.ChangeSame
import Derived.Carry
import Derived.RangeFuncRecord
import Derived.Laws.Tables
import Derived.Recover
import Derived.DefersIn
import Derived.Lib.AppendZerosOnto
import Derived.Lib.Overlaps
import Derived.Laws.CopyRow
import Derived.Laws.StructEq
import Derived.ChangeKeysEq
import Derived.Test.YtpdekmknnpkmgaaRows
import Derived.Test.YtpdekmknnpkmgaaPG12
set_option linter.unusedSimpArgs false
set_option linter.unusedVariables false
namespace Go.Proofs.Ytpdekmknnpkmgaa
open Go.Fw Go.RowKit
set_option maxHeartbeats 4000000 in
set_option maxRecDepth 100000 in
theorem IS {O:List Nat} (c_cs:List Value) (c:Circle) (no:Int) (day:Int) (w:World) (o6:Enc.circle.rd w O c_cs c) (hO:∀ b∈O,b<w.heap.size):DA Try.prog 22 [.agg c_cs.toArray,vI no,vI day] w (fun v w'=>∃ (x0:List Value),v = .tuple #[.agg x0.toArray,vI ((AK c no (AN c day)).2)]∧Enc.circle.rd w' (O) x0 ((AK c no (AN c day)).1)):= by
 have o6:Enc.circle.rd w ([]++O) c_cs c:=o6
 have s0:St w O w []:=St.start hO
 refine CA 14 Try.func22 rfl rfl oT (fun F0=>AF (AB kR (AA (EY (E:=Enc.circle) (vA c_cs.toArray) (c_cs) c rfl rfl o6 s0 fun c1 F8 t8 F9 G0 b0=>(AA (EY (E:=Enc.int) (vI day) ([vI day]) day rfl rfl rfl t8 fun c2 G1 t9 u0 G2 b4=>(?_)))))))
 have b0:=b0.mv u0
 refine AA (BS [vI 0,vI 0,vI 0,nS,nS] EZ rfl t9 fun a8 G3 u1 u2 m6 G4 a0=>(?_))
 clear u1
 have b0:=b0.mv m6
 have b4:=b4.mv m6
 refine AA (AG (vI 0) rfl (AE (AC (AF (AB kR (AA (CH U25_ rfl AV rfl b0 fun h8 o7=>(AA (AD (vI no) rfl (AA (DN (first:=[]) (captured:=[.tmp 5, .tmp 3]) [] [vP (some c2),vP (some c1)] rfl rfl (AA (DO [vA h8.toArray,vI no,vN (.func 53) #[] #[vP (some c2),vP (some c1)]] MC rfl (IC 51 Try.func37 rfl rfl oT (fun G5=>AF (AB kR (AA (EY (E:=Enc.circle) (vA h8.toArray) (h8) c rfl rfl o7 u2 fun G6 G7 u3 m7 u4 b3=>(?_)))))))))))))))))))
 have b4:=b4.mv m7
 have b0:=b0.mv m7
 have a0:=a0.keep u4 (by simp)
 refine AA (BS [vI 0,vI 0,vI 0,nS,nS] EZ rfl u3 fun a4 G8 u5 u6 j8 u7 a7=>(?_))
 have c3:CJ a8 a4:=by show a8≠a4;have:=a0.lt;omega
 clear u5
 have b4:=b4.mv j8
 have b0:=b0.mv j8
 have b3:=b3.mv j8
 have a0:=a0.keep u7 (by simp)
 refine AA (BS [vI 0] z_28 rfl u6 fun a5 u9 v0 m8 j9 m9 a3=>(?_))
 have c4:CJ a8 a5:=by show a8≠a5;have:=a0.lt;omega
 have b9:CJ a4 a5:=by show a4≠a5;have:=a7.lt;omega
 clear v0
 have b4:=b4.mv j9
 have b0:=b0.mv j9
 have b3:=b3.mv j9
 have a0:=a0.keep m9 (by simp)
 have a7:=a7.keep m9 (by simp)
 refine AE (AC (AF (AF (AB kR (AA (CH U25_ rfl AV rfl b3 fun l4 o8=>(AA (BJ (vs:=[vA l4.toArray]) ET (GB (O:=(a5 :: (a4 :: (a8 :: [])))++O) l4 c u9 o8 m8.lt) rfl m8 fun G9 H0 g9 k2 k3 v1=>(?_)))))))))
 obtain rfl:=v1
 have b4:=b4.mv k2
 have b0:=b0.mv k2
 have b3:=b3.mv k2
 have a0:=a0.keep k3 (by simp)
 have a7:=a7.keep k3 (by simp)
 have a3:=a3.keep k3 (by simp)
 refine AA (AG (vI (AL c)) rfl (AE (AC (AF (AB kR (AA (AD (vI (AL c)) rfl (AA (DS .i64 (AL c) (0:Int) rfl rfl (AE (AC (AP ((AL c) != (0:Int)) rfl rfl (fun h9=>?_) (fun h9=>?_)))))))))))))
 ·have D7:AL c≠(0:Int):=by simpa using h9
  refine AF (AB kR (AA (AX (vs:=[vI 0,vI 0,vI 0,nS,nS]) U25_ rfl AV rfl a7 rfl (AA (AD (vI (AL c)) rfl (BE (AS (vs:=[vI 0,vI 0,vI 0,nS,nS]) (.agg #[vI 0,vI 0,vI 0,nS,nS]) rfl rfl rfl AV (fun u hu=>by simp only [List.mem_cons,List.not_mem_nil,or_false] at hu;rcases hu with rfl|rfl|rfl|rfl|rfl <;> rfl) (by repeat (constructor)) a7 oT g9 fun H1 v2 H2 n2 i0=>(?_))))))))
  have a0:=a0.keep n2 (AM c3)
  have a3:=a3.keep n2 (AM (Ne.symm b9))
  refine BE (BP (vI (AL c)) rfl rfl rfl IH (by repeat (constructor)) a3 oT v2 fun H3 v3 H4 n3 o9=>(?_))
  have a0:=a0.keep n3 (AM c4)
  have i0:=i0.keep n3 (AM b9)
  refine AE (AC (AT (BA (ID rfl (BY rfl (CN (vs:=[vI 0,vI 0,vI 0,nS,nS]) rfl U25_ rfl AV rfl i0 rfl) (GK rfl U28_ rfl rfl o9 rfl)) (BQ (AA (AJ (vA #[vI 0,vI 0,vI 0,nS,nS]) rfl rfl (AA (AJ (vI (AL c)) rfl rfl (BE (AS (vs:=[vI 0,vI 0,vI 0,nS,nS]) (.agg #[vI 0,vI 0,vI 0,nS,nS]) rfl rfl rfl AV (fun u hu=>by simp only [List.mem_cons,List.not_mem_nil,or_false] at hu;rcases hu with rfl|rfl|rfl|rfl|rfl <;> rfl) (by repeat (constructor)) a0 oT v3 fun H5 v4 H6 H7 p0=>(AA (AG (vI (AL c)) rfl (AE (AC (AT (BF rfl (BY rfl (CN (vs:=[vI 0,vI 0,vI 0,nS,nS]) rfl U25_ rfl AV rfl p0 rfl) (CY rfl rfl)) (?_))))))))))))))))))
  have v5:((AK c no (AN c day)).1)=(⟨(0:Int),(0:Int),(0:Int),[],[]⟩:Circle):=by exact congrArg (fun p=>p.1) (show AK c no (AN c day)=_ from fin_bad aS)
  have v6:((AK c no (AN c day)).2)=(AL c):=by exact congrArg (fun p=>p.2) (show AK c no (AN c day)=_ from fin_bad aS)
  exact ⟨_,rfl,v4.keep,by rw [v5,v6];exact ⟨[vI 0,vI 0,vI 0,nS,nS],rfl,Enc.out (B:=(a5 :: (a4 :: (a8 :: [])))) ⟨.slice none 0 0, .slice none 0 0,rfl,(BV.nil _ _ _),(BV.nil _ _ _)⟩⟩⟩
 have p1:AL c=(0:Int):=by simpa using h9
 have hok:AL c=0:=p1
 have hrl:=JV hok
 refine AZ (AC (AF (AF (AB kR (AA (AD (vI no) rfl (AA (DU .i64 no (0:Int) rfl rfl (AA (AD (vO (decide (no<(0:Int)))) rfl (?_)))))))))))
 cases l5:(decide (no<(0:Int)))
 ·have D8:(0:Int)≤no:=by simpa using l5
  refine AQ rfl (AD (vI no) rfl (AQ rfl (BG 4 BR (c.recs) rfl b3 (fun _ _ _ h=>BO h) fun H8 p2=>(AQ rfl (CD U23_ rfl rfl p2 fun H9 l6=>(?_))))))
  have:=l6.len_le
  refine AQ rfl (CO U23_ rfl l6 (AQ rfl (IE .i64 no (c.recs.length:Int) rfl rfl (AA (BM (vO (decide ((c.recs.length:Int)≤no))) rfl rfl (AE (AC (AP (decide ((c.recs.length:Int)≤no)) rfl rfl (fun i1=>?_) (fun i1=>?_)))))))))
  ·have D9:(c.recs.length:Int)≤no:=by simpa using i1
   refine AF (AB kR (AA (AX (vs:=[vI 0,vI 0,vI 0,nS,nS]) U25_ rfl AV rfl a7 rfl (BE (AS (vs:=[vI 0,vI 0,vI 0,nS,nS]) (.agg #[vI 0,vI 0,vI 0,nS,nS]) rfl rfl rfl AV (fun u hu=>by simp only [List.mem_cons,List.not_mem_nil,or_false] at hu;rcases hu with rfl|rfl|rfl|rfl|rfl <;> rfl) (by repeat (constructor)) a7 oT g9 fun I0 v7 I1 n4 i2=>(?_))))))
   have a0:=a0.keep n4 (AM c3)
   have a3:=a3.keep n4 (AM (Ne.symm b9))
   refine BE (BP (vI 1) rfl rfl rfl IH (by repeat (constructor)) a3 oT v7 fun I2 v8 I3 n5 p3=>(?_))
   have a0:=a0.keep n5 (AM c4)
   have i2:=i2.keep n5 (AM b9)
   refine AE (AC (AT (BA (ID rfl (BY rfl (CN (vs:=[vI 0,vI 0,vI 0,nS,nS]) rfl U25_ rfl AV rfl i2 rfl) (GK rfl U28_ rfl rfl p3 rfl)) (BQ (AA (AJ (vA #[vI 0,vI 0,vI 0,nS,nS]) rfl rfl (AA (AJ (vI 1) rfl rfl (BE (AS (vs:=[vI 0,vI 0,vI 0,nS,nS]) (.agg #[vI 0,vI 0,vI 0,nS,nS]) rfl rfl rfl AV (fun u hu=>by simp only [List.mem_cons,List.not_mem_nil,or_false] at hu;rcases hu with rfl|rfl|rfl|rfl|rfl <;> rfl) (by repeat (constructor)) a0 oT v8 fun I4 v9 I5 I6 p4=>(AA (AG (vI 1) rfl (AE (AC (AT (BF rfl (BY rfl (CN (vs:=[vI 0,vI 0,vI 0,nS,nS]) rfl U25_ rfl AV rfl p4 rfl) (CY rfl rfl)) (?_))))))))))))))))))
   have w0:((AK c no (AN c day)).1)=(⟨(0:Int),(0:Int),(0:Int),[],[]⟩:Circle):=by exact congrArg (fun p=>p.1) (show AK c no (AN c day)=_ from fin_no hok oM)
   have w2:((AK c no (AN c day)).2)=(1:Int):=by exact congrArg (fun p=>p.2) (show AK c no (AN c day)=_ from fin_no hok oM)
   exact ⟨_,rfl,v9.keep,by rw [w0,w2];exact ⟨[vI 0,vI 0,vI 0,nS,nS],rfl,Enc.out (B:=(a5 :: (a4 :: (a8 :: [])))) ⟨.slice none 0 0, .slice none 0 0,rfl,(BV.nil _ _ _),(BV.nil _ _ _)⟩⟩⟩
  have E0:no<(c.recs.length:Int):=by simpa using i1
  refine AZ (AC (AF (LP [vP (some ⟨a4,0,none⟩),vP (some ⟨a5,0,none⟩)] rfl rfl rfl rfl (AC (AF (AB kR (AA (BG 4 BR (c.recs) rfl b3 (fun _ _ _ h=>BO h) fun I7 p5=>(AA (CD U23_ rfl rfl p5 fun I8 l7=>(?_)))))))))))
  have:=l7.len_le
  refine AA (AD (vI no) rfl (AA (DV U23_ DC .i64 no no.toNat rfl rfl oM l7 oM fun I9 p6=>(AA (CH U47_ rfl DC rfl p6 fun E1 p7=>(?_))))))
  obtain ⟨d3,d4,rfl,b1,b2⟩:=p7
  have:=b1.len_le
  have:=b2.len_le
  refine AA (CR (l:=[(0, .tmp 31)]) pl_74 z_74 rfl [(0,vA #[vI ((c.recs[no.toNat]!).no),vI ((c.recs[no.toNat]!).asked),vI ((c.recs[no.toNat]!).state),d3,d4],[vI ((c.recs[no.toNat]!).no),vI ((c.recs[no.toNat]!).asked),vI ((c.recs[no.toNat]!).state),d3,d4])] [vI ((c.recs[no.toNat]!).no),vI ((c.recs[no.toNat]!).asked),vI ((c.recs[no.toNat]!).state),d3,d4] rfl ⟨_,rfl,rfl,oT,rfl⟩ (AA (NG (vA #[vI ((c.recs[no.toNat]!).no),vI ((c.recs[no.toNat]!).asked),vI ((c.recs[no.toNat]!).state),d3,d4]) [vI ((c.recs[no.toNat]!).no),vI ((c.recs[no.toNat]!).asked),vI ((c.recs[no.toNat]!).state),d3,d4] rfl rfl g9 fun a1 J0 w3 w4 f0 k4 b5=>(?_))))
  have p8:CJ a8 a1:=by show a8≠a1;have:=a0.lt;omega
  have i3:CJ a4 a1:=by show a4≠a1;have:=a7.lt;omega
  have p9:CJ a5 a1:=by show a5≠a1;have:=a3.lt;omega
  clear w3
  have b4:=b4.mv f0
  have b0:=b0.mv f0
  have b3:=b3.mv f0
  have b1:=b1.mv f0
  have b2:=b2.mv f0
  have a0:=a0.keep k4 (by simp)
  have a7:=a7.keep k4 (by simp)
  have a3:=a3.keep k4 (by simp)
  refine AA (AG (vP (some ⟨a1,0,none⟩)) rfl (AE (AC (AF (AB kR (AA (AD (vN (.func 53) #[] #[vP (some c2),vP (some c1)]) rfl (AA (AD (vP (some ⟨a1,0,none⟩)) rfl (AA (EO [] [vP (some c2),vP (some c1)] [vP (some ⟨a1,0,none⟩)] enter_53 rfl rfl (BC 11 Try.func53 rfl rfl oT (fun J1=>AF (AB kR (AA (NG (vP (some ⟨a1,0,none⟩)) [vP (some ⟨a1,0,none⟩)] rfl rfl w4 fun a2 J2 w5 w6 f1 h0 a6=>(?_)))))))))))))))))
  have E2:CJ a8 a2:=by show a8≠a2;have:=a0.lt;omega
  have q0:CJ a4 a2:=by show a4≠a2;have:=a7.lt;omega
  have E3:CJ a5 a2:=by show a5≠a2;have:=a3.lt;omega
  have q1:CJ a1 a2:=by show a1≠a2;have:=b5.lt;omega
  clear w5
  have b4:=b4.mv f1
  have b0:=b0.mv f1
  have b3:=b3.mv f1
  have b1:=b1.mv f1
  have b2:=b2.mv f1
  have a0:=a0.keep h0 (by simp)
  have a7:=a7.keep h0 (by simp)
  have a3:=a3.keep h0 (by simp)
  have b5:=b5.keep h0 (by simp)
  refine AE (AC (AB kR (AA (AR U64_ rfl (vP (some ⟨a1,0,none⟩)) rfl a6 rfl (AA (JM w6 fun a9 J3 w7 w8 f2 f3 q2=>(?_)))))))
  have i4:CJ a8 a9:=by show a8≠a9;have:=a0.lt;omega
  have f4:CJ a4 a9:=by show a4≠a9;have:=a7.lt;omega
  have i5:CJ a5 a9:=by show a5≠a9;have:=a3.lt;omega
  have f5:CJ a1 a9:=by show a1≠a9;have:=b5.lt;omega
  have i6:CJ a2 a9:=by show a2≠a9;have:=a6.lt;omega
  clear w7
  have b4:=b4.mv f2
  have b0:=b0.mv f2
  have b3:=b3.mv f2
  have b1:=b1.mv f2
  have b2:=b2.mv f2
  have a0:=a0.keep f3 (by simp)
  have a7:=a7.keep f3 (by simp)
  have a3:=a3.keep f3 (by simp)
  have b5:=b5.keep f3 (by simp)
  have a6:=a6.keep f3 (by simp)
  refine AA (DN (first:=[]) (captured:=[.tmp 3]) [] [vP (some ⟨a2,0,none⟩)] rfl rfl (BE (FF U68_ U3_ rfl rfl rfl q2 (by repeat (constructor)) w8 rfl fun J4 w9 f6 f7 q3=>(?_))))
  have b4:=b4.mv f6
  have b0:=b0.mv f6
  have b3:=b3.mv f6
  have b1:=b1.mv f6
  have b2:=b2.mv f6
  have a0:=a0.keep f7 (AM i4)
  have a7:=a7.keep f7 (AM f4)
  have a3:=a3.keep f7 (AM i5)
  have b5:=b5.keep f7 (AM f5)
  have a6:=a6.keep f7 (AM i6)
  refine AA (DN (first:=[]) (captured:=[.tmp 3]) [] [vP (some ⟨a2,0,none⟩)] rfl rfl (BE (FF U68_ U3_ rfl rfl rfl q3 (by repeat (constructor)) w9 rfl fun J5 x1 f8 f9 q4=>(?_))))
  have b4:=b4.mv f8
  have b0:=b0.mv f8
  have b3:=b3.mv f8
  have b1:=b1.mv f8
  have b2:=b2.mv f8
  have a0:=a0.keep f9 (AM i4)
  have a7:=a7.keep f9 (AM f4)
  have a3:=a3.keep f9 (AM i5)
  have b5:=b5.keep f9 (AM f5)
  have a6:=a6.keep f9 (AM i6)
  refine AA (DN (first:=[]) (captured:=[.tmp 3, .tmp 1, .tmp 2]) [] [vP (some ⟨a2,0,none⟩),vP (some c2),vP (some c1)] rfl rfl (BE (FF U68_ U3_ rfl rfl rfl q4 (by repeat (constructor)) x1 rfl fun g0 h1 g1 g2 b7=>(?_))))
  have b4:=b4.mv g1
  have b0:=b0.mv g1
  have b3:=b3.mv g1
  have b1:=b1.mv g1
  have b2:=b2.mv g1
  have a0:=a0.keep g2 (AM i4)
  have a7:=a7.keep g2 (AM f4)
  have a3:=a3.keep g2 (AM i5)
  have b5:=b5.keep g2 (AM f5)
  have a6:=a6.keep g2 (AM i6)
  refine AA (AD (Value.map (some a9)) rfl (AA (DO [vP (some ⟨a1,0,none⟩),Value.map (some a9)] MF rfl (BC 19 Try.func39 rfl rfl oT (fun J6=>AF (AB kR (AA (AD (Value.map (some a9)) rfl (AA (AD (vP (some ⟨a1,0,none⟩)) rfl (AA (CC ⟨a1,0,none⟩ rfl (AA (AO 0 DY rfl (AA (AO 2 EM rfl (AA (AR U3_ rfl (vI ((c.recs[no.toNat]!).state)) rfl b5 rfl (?_)))))))))))))))))))
  rcases (EJ hok oM oM:(c.recs[no.toNat]!).state=0∨(c.recs[no.toNat]!).state=1∨(c.recs[no.toNat]!).state=2) with e3|e3|e3
  ·refine AA (FB (k:=0) (vN (.func 56) #[] #[vP (some ⟨a2,0,none⟩),vP (some c2),vP (some c1)]) U68_ U3_ rfl (congrArg vI e3) b7 rfl (AA (AD (vT #[vN (.func 56) #[] #[vP (some ⟨a2,0,none⟩),vP (some c2),vP (some c1)],vO true]) rfl (AA (AJ (vN (.func 56) #[] #[vP (some ⟨a2,0,none⟩),vP (some c2),vP (some c1)]) rfl rfl (AA (AJ (vO true) rfl rfl (AA (AG (vN (.func 56) #[] #[vP (some ⟨a2,0,none⟩),vP (some c2),vP (some c1)]) rfl (AA (AG (vO true) rfl (AE (AC (AF (AB kR (AA (AD (vO true) rfl (AE (AC (AP true rfl rfl (fun _=>AB kR (AA (AD (vN (.func 56) #[] #[vP (some ⟨a2,0,none⟩),vP (some c2),vP (some c1)]) rfl (AA (EO [] [vP (some ⟨a2,0,none⟩),vP (some c2),vP (some c1)] [] enter_56 rfl rfl (BC 28 Try.func56 rfl rfl oT (fun J7=>AF (cw_draw' 3 _ _ [EF (vP (some ⟨a1,0,none⟩)),EF (vI day),EF (vO (BI day (0:Int)))] kR kR kR kR rfl rfl ⟨kI,kI,kI,trivial⟩ ⟨?_,?_,?_,trivial⟩ ?_)))))))) (fun h=>by cases h)))))))))))))))))))))
   ·intro F1 w1 k1 hf hd
    have k0:=(Keep.drew [] g0).trans k1
    have a6:=a6.keep k0 (by simp)
    obtain ⟨F2,rfl⟩:=BB (F:=F1) [(0,vP (some ⟨a2,0,none⟩))] ⟨hf 0 kR,trivial⟩
    exact AW rfl ((AR U64_ rfl (vP (some ⟨a1,0,none⟩)) rfl a6 rfl (⟨(Keep.refl _ _),rfl⟩)))
   ·intro F1 w1 k1 hf hd
    have k0:=(Keep.drew [] g0).trans k1
    have m1:Mv (a9 :: (a2 :: (a1 :: (a5 :: (a4 :: (a8 :: [])))))) g0 (a9 :: (a2 :: (a1 :: (a5 :: (a4 :: (a8 :: [])))))) w1:=Mv.of_keep k0
    have b4:=b4.mv m1
    obtain ⟨F2,rfl⟩:=BB (F:=F1) [(1,vP (some c2))] ⟨hf 1 kR,trivial⟩
    exact AW rfl ((BW U3_ rfl rfl b4 (⟨(Keep.refl _ _),rfl⟩)))
   ·intro F1 w1 k1 hf hd
    have k0:=(Keep.drew [] g0).trans k1
    have s1:=h1.call k0
    obtain ⟨F2,rfl⟩:=BB (F:=F1) [(4,vI day)] ⟨hd 1 4 kR,trivial⟩
    refine AW rfl ((BJ (vs:=[vI day,vI 0]) GX (IB (O:=(a9 :: (a2 :: (a1 :: (a5 :: (a4 :: (a8 :: []))))))++O) day (0:Int) w1 s1.lt) rfl s1 fun J8 J9 K0 K1 x2 x3=>(?_)))
    obtain rfl:=x3
    exact ⟨x2,rfl⟩
   intro x4 d5 d6 i7 e4
   have k5:=h1.call d6
   have g3:Mv (a9 :: (a2 :: (a1 :: (a5 :: (a4 :: (a8 :: [])))))) g0 (a9 :: (a2 :: (a1 :: (a5 :: (a4 :: (a8 :: [])))))) d5:=Mv.of_keep d6
   have b4:=b4.mv g3
   have b0:=b0.mv g3
   have b3:=b3.mv g3
   have b1:=b1.mv g3
   have b2:=b2.mv g3
   have a0:=a0.keep d6 (by simp)
   have a7:=a7.keep d6 (by simp)
   have a3:=a3.keep d6 (by simp)
   have b5:=b5.keep d6 (by simp)
   have a6:=a6.keep d6 (by simp)
   have b7:=b7.keep d6 (by simp)
   obtain ⟨F2,rfl⟩:=BB (F:=x4) [(0,vP (some ⟨a2,0,none⟩)),(1,vP (some c2)),(2,vP (some c1)),(28,undef),(3,vP (some ⟨a1,0,none⟩)),(5,vO (BI day (0:Int)))] ⟨e4 0 kR,e4 1 kR,e4 2 kR,e4 28 kR,i7 0 3 kR (by decide),i7 2 5 kR (by decide),trivial⟩
   clear i7 e4
   refine AA (DO [vP (some ⟨a1,0,none⟩),vO (BI day (0:Int)),vI 1] ES rfl (BC 11 Try.func41 rfl rfl oT (fun K2=>AF (AB kR (AA (AD (vO (BI day (0:Int))) rfl (AA (EI (BI day (0:Int)) rfl (AE (AC (AP (!(BI day (0:Int))) rfl rfl (fun i8=>?_) (fun i8=>?_))))))))))))
   ·have E4:(BI day (0:Int))=false:=by simpa using i8
    refine AB kR (AA (AD (vI 1) rfl (AA (CR (l:=[(0, .tmp 8)]) JA LV rfl [(0,vI 1,[vI 1])] [vI 1] rfl ⟨_,rfl,rfl,oT,rfl⟩ (AA (GA (vA #[vI 1]) U78_ rfl rfl (BE (GD rfl (CX rfl (CE (EA (CX rfl (CE (CX rfl (CE (CX rfl (CE (EA (GC (ED [vP (some ⟨a4,0,none⟩),vP (some ⟨a5,0,none⟩)] (.panicking [{ v:=Value.iface 78 (vA #[vI 1]),recovered:=false }]) rfl (fun h=>by cases h) rfl DJ (HJ (1:Int) a4 a5 k5 a7 a3 (by repeat (constructor)) (by repeat (constructor)) b9) (fun e_ K3 hR_=>?_)))))))))))))))))))))
    obtain ⟨v_,rfl,x5,K4,x6,q5,q6⟩:=hR_
    have a0:=a0.keep x6 (MS c3 c4)
    refine Exists.intro _ (And.intro (BY rfl (CN (vs:=[vI 0,vI 0,vI 0,nS,nS]) rfl U25_ rfl AV rfl q5 rfl) (GK rfl U28_ rfl rfl q6 rfl)) (BQ (AA (AJ (vA #[vI 0,vI 0,vI 0,nS,nS]) rfl rfl (AA (AJ (vI 1) rfl rfl (BE (AS (vs:=[vI 0,vI 0,vI 0,nS,nS]) (.agg #[vI 0,vI 0,vI 0,nS,nS]) rfl rfl rfl AV (fun u hu=>by simp only [List.mem_cons,List.not_mem_nil,or_false] at hu;rcases hu with rfl|rfl|rfl|rfl|rfl <;> rfl) (by repeat (constructor)) a0 oT x5 fun K5 x7 K6 K7 q7=>(AA (AG (vI 1) rfl (AE (AC (AT (BF rfl (BY rfl (CN (vs:=[vI 0,vI 0,vI 0,nS,nS]) rfl U25_ rfl AV rfl q7 rfl) (CY rfl rfl)) (?_)))))))))))))))
    have x8:((AK c no (AN c day)).1)=(⟨(0:Int),(0:Int),(0:Int),[],[]⟩:Circle):=by exact congrArg (fun p=>p.1) (show AK c no (AN c day)=_ from fin_day hok oM oM aS aS)
    have x9:((AK c no (AN c day)).2)=(1:Int):=by exact congrArg (fun p=>p.2) (show AK c no (AN c day)=_ from fin_day hok oM oM aS aS)
    exact ⟨_,rfl,x7.keep,by rw [x8,x9];exact ⟨[vI 0,vI 0,vI 0,nS,nS],rfl,Enc.out (B:=(a9 :: (a2 :: (a1 :: (a5 :: (a4 :: (a8 :: []))))))) ⟨.slice none 0 0, .slice none 0 0,rfl,(BV.nil _ _ _),(BV.nil _ _ _)⟩⟩⟩
   have E5:(BI day (0:Int))=true:=by simpa using i8
   refine AZ (DF rfl (EN rfl) (BQ (AE (AC (AF (cw_draw' 4 _ _ [EF (vP (some ⟨a1,0,none⟩)),fun (vT:Value) (wT:World)=>∃ csT:List Value,vT = .agg csT.toArray∧Enc.circle.rd wT ((a9 :: (a2 :: (a1 :: (a5 :: (a4 :: (a8 :: []))))))++O) csT (c),EF (vP (some ⟨a1,0,none⟩)),EF (vO (GM c (c.recs[no.toNat]!)))] kR kR kR kR rfl rfl ⟨kI,fun _ _ _ ⟨a,e,h⟩ k=>⟨a,e,Enc.mv _ h (Mv.of_keep k)⟩,kI,kI,trivial⟩ ⟨?_,?_,?_,?_,trivial⟩ ?_))))))
   ·intro F1 w1 k1 hf hd
    have k0:=(Keep.drew [] d5).trans k1
    have a6:=a6.keep k0 (by simp)
    obtain ⟨F2,rfl⟩:=BB (F:=F1) [(0,vP (some ⟨a2,0,none⟩))] ⟨hf 0 kR,trivial⟩
    exact AW rfl ((AR U64_ rfl (vP (some ⟨a1,0,none⟩)) rfl a6 rfl (⟨(Keep.refl _ _),rfl⟩)))
   ·intro F1 w1 k1 hf hd
    have k0:=(Keep.drew [] d5).trans k1
    have m1:Mv (a9 :: (a2 :: (a1 :: (a5 :: (a4 :: (a8 :: [])))))) d5 (a9 :: (a2 :: (a1 :: (a5 :: (a4 :: (a8 :: [])))))) w1:=Mv.of_keep k0
    have b0:=b0.mv m1
    obtain ⟨F2,rfl⟩:=BB (F:=F1) [(2,vP (some c1))] ⟨hf 2 kR,trivial⟩
    exact AW rfl ((CH U25_ rfl AV rfl b0 fun q8 q9=>(⟨(Keep.refl _ _),⟨q8,rfl,q9⟩⟩)))
   ·intro F1 w1 k1 hf hd
    have k0:=(Keep.drew [] d5).trans k1
    have a6:=a6.keep k0 (by simp)
    obtain ⟨F2,rfl⟩:=BB (F:=F1) [(0,vP (some ⟨a2,0,none⟩))] ⟨hf 0 kR,trivial⟩
    exact AW rfl ((AR U64_ rfl (vP (some ⟨a1,0,none⟩)) rfl a6 rfl (⟨(Keep.refl _ _),rfl⟩)))
   ·intro F1 w1 k1 hf hd
    have k0:=(Keep.drew [] d5).trans k1
    have s1:=k5.call k0
    have m1:Mv (a9 :: (a2 :: (a1 :: (a5 :: (a4 :: (a8 :: [])))))) d5 (a9 :: (a2 :: (a1 :: (a5 :: (a4 :: (a8 :: [])))))) w1:=Mv.of_keep k0
    obtain ⟨i9,y0,r0⟩:∃ cs:List Value,F1 8 = .agg cs.toArray∧Enc.circle.rd w1 ((a9 :: (a2 :: (a1 :: (a5 :: (a4 :: (a8 :: []))))))++O) cs (c):=hd 1 8 kR
    have b5:=b5.keep k0 (by simp)
    have b1:=b1.mv m1
    have b2:=b2.mv m1
    obtain ⟨F2,rfl⟩:=BB (F:=F1) [(8,vA i9.toArray),(9,vP (some ⟨a1,0,none⟩))] ⟨y0,hd 2 9 kR,trivial⟩
    refine AW rfl ((BJ (vs:=[vA i9.toArray,vP (some ⟨a1,0,none⟩)]) enter_57 (c_approved (O:=[]) i9 c ⟨a1,0,none⟩ (c.recs[no.toNat]!) w1 (Enc.circle.sub r0 (fun _ h=>by cases h)) (PT.of_box b5 ⟨_,_,rfl,b1.rd0,b2.rd0⟩ (fun h=>by cases h)) HN) rfl s1 fun K8 K9 L0 L1 y1 y2=>(?_)))
    obtain rfl:=y2
    exact ⟨y1,rfl⟩
   intro y3 d0 d7 j0 e5
   have n6:=k5.call d7
   have g4:Mv (a9 :: (a2 :: (a1 :: (a5 :: (a4 :: (a8 :: [])))))) d5 (a9 :: (a2 :: (a1 :: (a5 :: (a4 :: (a8 :: [])))))) d0:=Mv.of_keep d7
   have b4:=b4.mv g4
   have b0:=b0.mv g4
   have b3:=b3.mv g4
   have b1:=b1.mv g4
   have b2:=b2.mv g4
   have a0:=a0.keep d7 (by simp)
   have a7:=a7.keep d7 (by simp)
   have a3:=a3.keep d7 (by simp)
   have b5:=b5.keep d7 (by simp)
   have a6:=a6.keep d7 (by simp)
   have b7:=b7.keep d7 (by simp)
   obtain ⟨F2,rfl⟩:=BB (F:=y3) [(0,vP (some ⟨a2,0,none⟩)),(1,vP (some c2)),(2,vP (some c1)),(28,undef),(7,vP (some ⟨a1,0,none⟩)),(10,vO (GM c (c.recs[no.toNat]!)))] ⟨e5 0 kR,e5 1 kR,e5 2 kR,e5 28 kR,j0 0 7 kR (by decide),j0 3 10 kR (by decide),trivial⟩
   clear j0 e5
   refine AA (DO [vP (some ⟨a1,0,none⟩),vO (GM c (c.recs[no.toNat]!)),vI 450] ES rfl (BC 11 Try.func41 rfl rfl oT (fun L2=>AF (AB kR (AA (AD (vO (GM c (c.recs[no.toNat]!))) rfl (AA (EI (GM c (c.recs[no.toNat]!)) rfl (AE (AC (AP (!(GM c (c.recs[no.toNat]!))) rfl rfl (fun j1=>?_) (fun j1=>?_))))))))))))
   ·have E6:(GM c (c.recs[no.toNat]!))=false:=by simpa using j1
    refine AB kR (AA (AD (vI 450) rfl (AA (CR (l:=[(0, .tmp 8)]) JA LV rfl [(0,vI 450,[vI 450])] [vI 450] rfl ⟨_,rfl,rfl,oT,rfl⟩ (AA (GA (vA #[vI 450]) U78_ rfl rfl (BE (GD rfl (CX rfl (CE (EA (CX rfl (CE (CX rfl (CE (CX rfl (CE (EA (GC (ED [vP (some ⟨a4,0,none⟩),vP (some ⟨a5,0,none⟩)] (.panicking [{ v:=Value.iface 78 (vA #[vI 450]),recovered:=false }]) rfl (fun h=>by cases h) rfl DJ (HJ (450:Int) a4 a5 n6 a7 a3 (by repeat (constructor)) (by repeat (constructor)) b9) (fun e_ L3 hR_=>?_)))))))))))))))))))))
    obtain ⟨v_,rfl,y4,L4,y5,r1,r2⟩:=hR_
    have a0:=a0.keep y5 (MS c3 c4)
    refine Exists.intro _ (And.intro (BY rfl (CN (vs:=[vI 0,vI 0,vI 0,nS,nS]) rfl U25_ rfl AV rfl r1 rfl) (GK rfl U28_ rfl rfl r2 rfl)) (BQ (AA (AJ (vA #[vI 0,vI 0,vI 0,nS,nS]) rfl rfl (AA (AJ (vI 450) rfl rfl (BE (AS (vs:=[vI 0,vI 0,vI 0,nS,nS]) (.agg #[vI 0,vI 0,vI 0,nS,nS]) rfl rfl rfl AV (fun u hu=>by simp only [List.mem_cons,List.not_mem_nil,or_false] at hu;rcases hu with rfl|rfl|rfl|rfl|rfl <;> rfl) (by repeat (constructor)) a0 oT y4 fun L5 y6 L6 L7 r3=>(AA (AG (vI 450) rfl (AE (AC (AT (BF rfl (BY rfl (CN (vs:=[vI 0,vI 0,vI 0,nS,nS]) rfl U25_ rfl AV rfl r3 rfl) (CY rfl rfl)) (?_)))))))))))))))
    have y7:((AK c no (AN c day)).1)=(⟨(0:Int),(0:Int),(0:Int),[],[]⟩:Circle):=by exact congrArg (fun p=>p.1) (show AK c no (AN c day)=_ from fin_few hok oM oM aS aS aS)
    have y8:((AK c no (AN c day)).2)=(450:Int):=by exact congrArg (fun p=>p.2) (show AK c no (AN c day)=_ from fin_few hok oM oM aS aS aS)
    exact ⟨_,rfl,y6.keep,by rw [y7,y8];exact ⟨[vI 0,vI 0,vI 0,nS,nS],rfl,Enc.out (B:=(a9 :: (a2 :: (a1 :: (a5 :: (a4 :: (a8 :: []))))))) ⟨.slice none 0 0, .slice none 0 0,rfl,(BV.nil _ _ _),(BV.nil _ _ _)⟩⟩⟩
   have E7:(GM c (c.recs[no.toNat]!))=true:=by simpa using j1
   refine AZ (DF rfl (EN rfl) (BQ (AE (AC (AF (cw_draw' 11 _ _ [EF (vP (some ⟨a1,0,none⟩)),EF (vI day),EF (vP (some ⟨a1,0,none⟩)),EF (vP (some ⟨a1,0,none⟩)),EF (vP (some ⟨a1,0,none⟩)),EF (vP (some ⟨a1,1,none⟩)),EF (vI ((c.recs[no.toNat]!).asked)),fun (vT:Value) (wT:World)=>∃ aT,vT = .pointer (some aT)∧PT Enc.int wT ((a9 :: (a2 :: (a1 :: (a5 :: (a4 :: (a8 :: []))))))++O) (.pointer (some aT)) (c.wait),EF (vI c.wait),EF (vI ((c.recs[no.toNat]!).asked+c.wait)),EF (vO (decide ((c.recs[no.toNat]!).asked+c.wait≤day)))] kR kR kR kR rfl rfl ⟨kI,kI,kI,kI,kI,kI,kI,fun _ _ _ ⟨a,e,h⟩ k=>⟨a,e,h.mv (Mv.of_keep k)⟩,kI,kI,kI,trivial⟩ ⟨?_,?_,?_,?_,?_,?_,?_,?_,?_,?_,?_,trivial⟩ ?_))))))
   ·intro F1 w1 k1 hf hd
    have k0:=(Keep.drew [] d0).trans k1
    have a6:=a6.keep k0 (by simp)
    obtain ⟨F2,rfl⟩:=BB (F:=F1) [(0,vP (some ⟨a2,0,none⟩))] ⟨hf 0 kR,trivial⟩
    exact AW rfl ((AR U64_ rfl (vP (some ⟨a1,0,none⟩)) rfl a6 rfl (⟨(Keep.refl _ _),rfl⟩)))
   ·intro F1 w1 k1 hf hd
    have k0:=(Keep.drew [] d0).trans k1
    have m1:Mv (a9 :: (a2 :: (a1 :: (a5 :: (a4 :: (a8 :: [])))))) d0 (a9 :: (a2 :: (a1 :: (a5 :: (a4 :: (a8 :: [])))))) w1:=Mv.of_keep k0
    have b4:=b4.mv m1
    obtain ⟨F2,rfl⟩:=BB (F:=F1) [(1,vP (some c2))] ⟨hf 1 kR,trivial⟩
    exact AW rfl ((BW U3_ rfl rfl b4 (⟨(Keep.refl _ _),rfl⟩)))
   ·intro F1 w1 k1 hf hd
    have k0:=(Keep.drew [] d0).trans k1
    have a6:=a6.keep k0 (by simp)
    obtain ⟨F2,rfl⟩:=BB (F:=F1) [(0,vP (some ⟨a2,0,none⟩))] ⟨hf 0 kR,trivial⟩
    exact AW rfl ((AR U64_ rfl (vP (some ⟨a1,0,none⟩)) rfl a6 rfl (⟨(Keep.refl _ _),rfl⟩)))
   ·intro F1 w1 k1 hf hd
    obtain ⟨F2,rfl⟩:=BB (F:=F1) [(14,vP (some ⟨a1,0,none⟩))] ⟨hd 2 14 kR,trivial⟩
    exact AW rfl ((CC ⟨a1,0,none⟩ rfl (⟨(Keep.refl _ _),rfl⟩)))
   ·intro F1 w1 k1 hf hd
    obtain ⟨F2,rfl⟩:=BB (F:=F1) [(15,vP (some ⟨a1,0,none⟩))] ⟨hd 3 15 kR,trivial⟩
    exact AW rfl ((AO 0 DY rfl (⟨(Keep.refl _ _),rfl⟩)))
   ·intro F1 w1 k1 hf hd
    obtain ⟨F2,rfl⟩:=BB (F:=F1) [(16,vP (some ⟨a1,0,none⟩))] ⟨hd 4 16 kR,trivial⟩
    exact AW rfl ((AO 1 HM rfl (⟨(Keep.refl _ _),rfl⟩)))
   ·intro F1 w1 k1 hf hd
    have k0:=(Keep.drew [] d0).trans k1
    have b5:=b5.keep k0 (by simp)
    obtain ⟨F2,rfl⟩:=BB (F:=F1) [(17,vP (some ⟨a1,1,none⟩))] ⟨hd 5 17 kR,trivial⟩
    exact AW rfl ((AR U3_ rfl (vI ((c.recs[no.toNat]!).asked)) rfl b5 rfl (⟨(Keep.refl _ _),rfl⟩)))
   ·intro F1 w1 k1 hf hd
    have k0:=(Keep.drew [] d0).trans k1
    have m1:Mv (a9 :: (a2 :: (a1 :: (a5 :: (a4 :: (a8 :: [])))))) d0 (a9 :: (a2 :: (a1 :: (a5 :: (a4 :: (a8 :: [])))))) w1:=Mv.of_keep k0
    have b0:=b0.mv m1
    obtain ⟨F2,rfl⟩:=BB (F:=F1) [(2,vP (some c1))] ⟨hf 2 kR,trivial⟩
    exact AW rfl ((BG 2 f_25_2 (c.wait) rfl b0 (fun _ _ _ h=>JB h) fun y9 r4=>(⟨(Keep.refl _ _),⟨y9,rfl,r4⟩⟩)))
   ·intro F1 w1 k1 hf hd
    obtain ⟨z0,z1,r5⟩:∃ aX_,F1 19 = .pointer (some aX_)∧PT Enc.int w1 ((a9 :: (a2 :: (a1 :: (a5 :: (a4 :: (a8 :: []))))))++O) (.pointer (some aX_)) (c.wait):=hd 7 19 kR
    obtain ⟨F2,rfl⟩:=BB (F:=F1) [(19,vP (some z0))] ⟨z1,trivial⟩
    exact AW rfl ((BW U3_ rfl rfl r5 (⟨(Keep.refl _ _),rfl⟩)))
   ·intro F1 w1 k1 hf hd
    obtain ⟨F2,rfl⟩:=BB (F:=F1) [(18,vI ((c.recs[no.toNat]!).asked)),(20,vI c.wait)] ⟨hd 6 18 kR,hd 8 20 kR,trivial⟩
    exact AW rfl ((DQ .i64 ((c.recs[no.toNat]!).asked) c.wait ((c.recs[no.toNat]!).asked+c.wait) rfl rfl (HR (by have:=JH hok (no:=no) oM oM;omega) rfl) (⟨(Keep.refl _ _),rfl⟩)))
   ·intro F1 w1 k1 hf hd
    obtain ⟨F2,rfl⟩:=BB (F:=F1) [(13,vI day),(21,vI ((c.recs[no.toNat]!).asked+c.wait))] ⟨hd 1 13 kR,hd 9 21 kR,trivial⟩
    exact AW rfl ((IE .i64 day ((c.recs[no.toNat]!).asked+c.wait) rfl rfl (⟨(Keep.refl _ _),rfl⟩)))
   intro z2 z3 d8 j2 j3
   have n7:=n6.call d8
   have k6:Mv (a9 :: (a2 :: (a1 :: (a5 :: (a4 :: (a8 :: [])))))) d0 (a9 :: (a2 :: (a1 :: (a5 :: (a4 :: (a8 :: [])))))) z3:=Mv.of_keep d8
   have b3:=b3.mv k6
   have b1:=b1.mv k6
   have b2:=b2.mv k6
   have a0:=a0.keep d8 (by simp)
   have a7:=a7.keep d8 (by simp)
   have a3:=a3.keep d8 (by simp)
   have b5:=b5.keep d8 (by simp)
   have a6:=a6.keep d8 (by simp)
   have b7:=b7.keep d8 (by simp)
   obtain ⟨F2,rfl⟩:=BB (F:=z2) [(0,vP (some ⟨a2,0,none⟩)),(28,undef),(12,vP (some ⟨a1,0,none⟩)),(22,vO (decide ((c.recs[no.toNat]!).asked+c.wait≤day)))] ⟨j3 0 kR,j3 28 kR,j2 0 12 kR (by decide),j2 10 22 kR (by decide),trivial⟩
   clear j2 j3
   refine AA (DO [vP (some ⟨a1,0,none⟩),vO (decide ((c.recs[no.toNat]!).asked+c.wait≤day)),vI 451] ES rfl (BC 11 Try.func41 rfl rfl oT (fun L8=>AF (AB kR (AA (AD (vO (decide ((c.recs[no.toNat]!).asked+c.wait≤day))) rfl (AA (EI (decide ((c.recs[no.toNat]!).asked+c.wait≤day)) rfl (AE (AC (AP (!(decide ((c.recs[no.toNat]!).asked+c.wait≤day))) rfl rfl (fun j4=>?_) (fun j4=>?_))))))))))))
   ·have E8:day<(c.recs[no.toNat]!).asked+c.wait:=by simpa using j4
    refine AB kR (AA (AD (vI 451) rfl (AA (CR (l:=[(0, .tmp 8)]) JA LV rfl [(0,vI 451,[vI 451])] [vI 451] rfl ⟨_,rfl,rfl,oT,rfl⟩ (AA (GA (vA #[vI 451]) U78_ rfl rfl (BE (GD rfl (CX rfl (CE (EA (CX rfl (CE (CX rfl (CE (CX rfl (CE (EA (GC (ED [vP (some ⟨a4,0,none⟩),vP (some ⟨a5,0,none⟩)] (.panicking [{ v:=Value.iface 78 (vA #[vI 451]),recovered:=false }]) rfl (fun h=>by cases h) rfl DJ (HJ (451:Int) a4 a5 n7 a7 a3 (by repeat (constructor)) (by repeat (constructor)) b9) (fun e_ L9 hR_=>?_)))))))))))))))))))))
    obtain ⟨v_,rfl,z4,M0,z5,r6,r7⟩:=hR_
    have a0:=a0.keep z5 (MS c3 c4)
    refine Exists.intro _ (And.intro (BY rfl (CN (vs:=[vI 0,vI 0,vI 0,nS,nS]) rfl U25_ rfl AV rfl r6 rfl) (GK rfl U28_ rfl rfl r7 rfl)) (BQ (AA (AJ (vA #[vI 0,vI 0,vI 0,nS,nS]) rfl rfl (AA (AJ (vI 451) rfl rfl (BE (AS (vs:=[vI 0,vI 0,vI 0,nS,nS]) (.agg #[vI 0,vI 0,vI 0,nS,nS]) rfl rfl rfl AV (fun u hu=>by simp only [List.mem_cons,List.not_mem_nil,or_false] at hu;rcases hu with rfl|rfl|rfl|rfl|rfl <;> rfl) (by repeat (constructor)) a0 oT z4 fun M1 z6 M2 M3 r8=>(AA (AG (vI 451) rfl (AE (AC (AT (BF rfl (BY rfl (CN (vs:=[vI 0,vI 0,vI 0,nS,nS]) rfl U25_ rfl AV rfl r8 rfl) (CY rfl rfl)) (?_)))))))))))))))
    have z7:((AK c no (AN c day)).1)=(⟨(0:Int),(0:Int),(0:Int),[],[]⟩:Circle):=by exact congrArg (fun p=>p.1) (show AK c no (AN c day)=_ from fin_wait hok oM oM aS aS aS oM)
    have z8:((AK c no (AN c day)).2)=(451:Int):=by exact congrArg (fun p=>p.2) (show AK c no (AN c day)=_ from fin_wait hok oM oM aS aS aS oM)
    exact ⟨_,rfl,z6.keep,by rw [z7,z8];exact ⟨[vI 0,vI 0,vI 0,nS,nS],rfl,Enc.out (B:=(a9 :: (a2 :: (a1 :: (a5 :: (a4 :: (a8 :: []))))))) ⟨.slice none 0 0, .slice none 0 0,rfl,(BV.nil _ _ _),(BV.nil _ _ _)⟩⟩⟩
   have E9:(c.recs[no.toNat]!).asked+c.wait≤day:=by simpa using j4
   refine AZ (DF rfl (EN rfl) (BQ (AE (AC (AB kR (AA (AR U64_ rfl (vP (some ⟨a1,0,none⟩)) rfl a6 rfl (AA (CC ⟨a1,0,none⟩ rfl (AA (AO 0 DY rfl (AA (AO 2 EM rfl (BE (BP (vI 1) rfl rfl rfl IA (by repeat (constructor)) b5 oT n7 fun M4 z9 k7 g5 c0=>(?_))))))))))))))))
   have b3:=b3.mv k7
   have b1:=b1.mv k7
   have b2:=b2.mv k7
   have a0:=a0.keep g5 (AM p8)
   have a7:=a7.keep g5 (AM i3)
   have a3:=a3.keep g5 (AM p9)
   have a6:=a6.keep g5 (AM (Ne.symm q1))
   have b7:=b7.keep g5 (AM (Ne.symm f5))
   refine AE (DF rfl (EN rfl) (BQ (AE (DF rfl (EN rfl) (BQ (AE (DF rfl (EN rfl) (BQ (AE (AC (AF (AB kR (AA (CH U25_ rfl AV rfl b3 fun F3 r9=>(?_)))))))))))))))
   obtain ⟨c5,n9,rfl,b6,l8⟩:=r9
   have:=b6.len_le
   have:=l8.len_le
   refine BE (AS (vs:=[vI c.epoch,vI c.threshold,vI c.wait,c5,n9]) (.agg #[vI c.epoch,vI c.threshold,vI c.wait,c5,n9]) rfl rfl rfl AV (fun u hu=>by simp only [List.mem_cons,List.not_mem_nil,or_false] at hu;rcases hu with rfl|rfl|rfl|rfl|rfl <;> first|rfl|exact b6.oneCell|exact l8.oneCell) (by repeat (constructor)) a7 oT z9 fun M5 A0 h2 g6 d2=>(?_))
   have b3:=b3.mv h2
   have b1:=b1.mv h2
   have b2:=b2.mv h2
   have b6:=b6.mv h2
   have a0:=a0.keep g6 (AM c3)
   have a3:=a3.keep g6 (AM (Ne.symm b9))
   have c0:=c0.keep g6 (AM (Ne.symm i3))
   have a6:=a6.keep g6 (AM (Ne.symm q0))
   have b7:=b7.keep g6 (AM (Ne.symm f4))
   refine AE (AC (AF (AB kR (AA (BG 4 BR (c.recs) rfl b3 (fun _ _ _ h=>BO h) fun M6 s2=>(AA (CD U23_ rfl rfl s2 fun k8 e6=>(?_))))))))
   have:=e6.len_le
   refine AA (FY [k8] _ GG rfl (BC 8 Try.func31 rfl rfl oT (fun M7=>AF (AB kR (AA (AG (nS) rfl (AE (AC (AF (AF (AB kR (AA (AD (k8) rfl (AA (GO U23_ rfl rfl e6 oM (AE (AC (AP false rfl rfl (fun h=>by cases h) (fun _=>AZ (AC (AF (AB kR (AA (GJ (E:=Enc.recovery) (xs:=[]) U23_ DC HH (by decide) [] [] [] rfl rfl rfl (Parts.nil _ _ _) oT A0 fun e2 A1 M8 A2 c8 A3 h3 e8 s3=>(?_)))))))))))))))))))))))) (fun _ _ h=>h))
   have l9:∀ b,e2.ownBlock=some b→b≠a8:=fun b hb=>by have:=a0.lt;rw [c8] at hb;cases hb;omega
   have m0:∀ b,e2.ownBlock=some b→b≠a4:=fun b hb=>by have:=d2.lt;rw [c8] at hb;cases hb;omega
   have m2:∀ b,e2.ownBlock=some b→b≠a5:=fun b hb=>by have:=a3.lt;rw [c8] at hb;cases hb;omega
   have m3:∀ b,e2.ownBlock=some b→b≠a1:=fun b hb=>by have:=c0.lt;rw [c8] at hb;cases hb;omega
   have s4:∀ b,e2.ownBlock=some b→b≠a2:=fun b hb=>by have:=a6.lt;rw [c8] at hb;cases hb;omega
   have s5:∀ b,e2.ownBlock=some b→b≠a9:=fun b hb=>by have:=b7.lt;rw [c8] at hb;cases hb;omega
   have s6:∀ b,e2.ownBlock=some b→b∈(A1 :: (a9 :: (a2 :: (a1 :: (a5 :: (a4 :: (a8 :: []))))))):=fun b hb=>by rw [c8] at hb;cases hb;simp
   clear A2 c8
   have e6:=e6.mv h3
   have b1:=b1.mv h3
   have b2:=b2.mv h3
   have b6:=b6.mv h3
   have a0:=a0.keep e8 (by simp)
   have d2:=d2.keep e8 (by simp)
   have a3:=a3.keep e8 (by simp)
   have c0:=c0.keep e8 (by simp)
   have a6:=a6.keep e8 (by simp)
   have b7:=b7.keep e8 (by simp)
   refine AA (AD (k8) rfl (AA (DK (E:=Enc.recovery) (l:=[]) (m:=c.recs) U23_ LE rfl (by decide) rfl rfl s3 e6 (fun _ hb=>.inl hb) s6 (by simp;omega) (by simp [maxLen];omega) A3 fun b8 M9 d9 s7 e0 d1 A4 k9 h4 c9=>(?_))))
   rw [List.nil_append] at c9
   have m4:∀ b,b8.ownBlock=some b→b≠a8:=fun b hb=>by rcases e0 with e1|e1 <;> rw [e1] at hb <;> first|(cases hb;have:=a0.lt;omega)|(exact l9 b hb)
   have j5:∀ b,b8.ownBlock=some b→b≠a4:=fun b hb=>by rcases e0 with e1|e1 <;> rw [e1] at hb <;> first|(cases hb;have:=d2.lt;omega)|(exact m0 b hb)
   have m5:∀ b,b8.ownBlock=some b→b≠a5:=fun b hb=>by rcases e0 with e1|e1 <;> rw [e1] at hb <;> first|(cases hb;have:=a3.lt;omega)|(exact m2 b hb)
   have F4:∀ b,b8.ownBlock=some b→b≠a1:=fun b hb=>by rcases e0 with e1|e1 <;> rw [e1] at hb <;> first|(cases hb;have:=c0.lt;omega)|(exact m3 b hb)
   have F5:∀ b,b8.ownBlock=some b→b≠a2:=fun b hb=>by rcases e0 with e1|e1 <;> rw [e1] at hb <;> first|(cases hb;have:=a6.lt;omega)|(exact s4 b hb)
   have F6:∀ b,b8.ownBlock=some b→b≠a9:=fun b hb=>by rcases e0 with e1|e1 <;> rw [e1] at hb <;> first|(cases hb;have:=b7.lt;omega)|(exact s5 b hb)
   have D1:a8∈d9:=d1 a8 (by repeat (constructor))
   have D2:a4∈d9:=d1 a4 (by repeat (constructor))
   have D3:a5∈d9:=d1 a5 (by repeat (constructor))
   have D4:a1∈d9:=d1 a1 (by repeat (constructor))
   have D5:a2∈d9:=d1 a2 (by repeat (constructor))
   have D6:a9∈d9:=d1 a9 (by repeat (constructor))
   have b1:=b1.mv k9
   have b2:=b2.mv k9
   have b6:=b6.mv k9
   have a0:=a0.keep h4 (by simp only [Option.mem_toList];exact fun e=>absurd rfl (l9 _ e))
   have d2:=d2.keep h4 (by simp only [Option.mem_toList];exact fun e=>absurd rfl (m0 _ e))
   have a3:=a3.keep h4 (by simp only [Option.mem_toList];exact fun e=>absurd rfl (m2 _ e))
   have c0:=c0.keep h4 (by simp only [Option.mem_toList];exact fun e=>absurd rfl (m3 _ e))
   refine AA (AG (b8) rfl (AE (AC (AT (BF rfl (CU rfl rfl rfl) (Exists.intro _ (And.intro rfl (AA (AO 4 BR rfl (BE (BP (b8) rfl rfl c9.oneCell MQ (by repeat (assumption)) d2 oT A4 fun l0 A5 h5 h6 c6=>(?_))))))))))))
   have b1:=b1.mv h5
   have b2:=b2.mv h5
   have b6:=b6.mv h5
   have c9:=c9.mv h5 h6 (fun b hb=>AM (j5 b hb))
   have a0:=a0.keep h6 (AM c3)
   have a3:=a3.keep h6 (AM (Ne.symm b9))
   have c0:=c0.keep h6 (AM (Ne.symm i3))
   refine AE (AC (AF (cw_draw' 7 _ _ [EF (vP (some ⟨a4,4,none⟩)),EF b8,EF (vI no),EF (vP (some ⟨a1,0,none⟩)),EF (vP (some ⟨a1,0,none⟩)),EF (vP (some ⟨a1,0,none⟩)),EF (vA #[vI ((c.recs[no.toNat]!).no),vI ((c.recs[no.toNat]!).asked),vI 1,d3,d4])] kR kR kR kR rfl rfl ⟨kI,kI,kI,kI,kI,kI,kI,trivial⟩ ⟨?_,?_,?_,?_,?_,?_,?_,trivial⟩ ?_)))
   ·intro F1 w1 k1 hf hd
    obtain ⟨F2,rfl⟩:=BB (F:=F1) [(6,vP (some ⟨a4,0,none⟩))] ⟨hf 6 kR,trivial⟩
    exact AW rfl ((AO 4 BR rfl (⟨(Keep.refl _ _),rfl⟩)))
   ·intro F1 w1 k1 hf hd
    have k0:=(Keep.drew [] l0).trans k1
    have c6:=c6.keep k0 (by simp)
    obtain ⟨F2,rfl⟩:=BB (F:=F1) [(42,vP (some ⟨a4,4,none⟩))] ⟨hd 0 42 kR,trivial⟩
    exact AW rfl ((AR U23_ rfl (b8) rfl c6 rfl (⟨(Keep.refl _ _),rfl⟩)))
   ·intro F1 w1 k1 hf hd
    obtain ⟨F2,rfl⟩:=BB (F:=F1) [(1,vI no)] ⟨hf 1 kR,trivial⟩
    exact AW rfl ((AD (vI no) rfl (⟨(Keep.refl _ _),rfl⟩)))
   ·intro F1 w1 k1 hf hd
    obtain ⟨F2,rfl⟩:=BB (F:=F1) [(9,vP (some ⟨a1,0,none⟩))] ⟨hf 9 kR,trivial⟩
    exact AW rfl ((AD (vP (some ⟨a1,0,none⟩)) rfl (⟨(Keep.refl _ _),rfl⟩)))
   ·intro F1 w1 k1 hf hd
    obtain ⟨F2,rfl⟩:=BB (F:=F1) [(45,vP (some ⟨a1,0,none⟩))] ⟨hd 3 45 kR,trivial⟩
    exact AW rfl ((CC ⟨a1,0,none⟩ rfl (⟨(Keep.refl _ _),rfl⟩)))
   ·intro F1 w1 k1 hf hd
    obtain ⟨F2,rfl⟩:=BB (F:=F1) [(46,vP (some ⟨a1,0,none⟩))] ⟨hd 4 46 kR,trivial⟩
    exact AW rfl ((AO 0 DY rfl (⟨(Keep.refl _ _),rfl⟩)))
   ·intro F1 w1 k1 hf hd
    have k0:=(Keep.drew [] l0).trans k1
    have c0:=c0.keep k0 (by simp)
    obtain ⟨F2,rfl⟩:=BB (F:=F1) [(47,vP (some ⟨a1,0,none⟩))] ⟨hd 5 47 kR,trivial⟩
    exact AW rfl ((AX (vs:=[vI ((c.recs[no.toNat]!).no),vI ((c.recs[no.toNat]!).asked),vI 1,d3,d4]) U47_ rfl DC rfl c0 rfl (⟨(Keep.refl _ _),rfl⟩)))
   intro A6 A7 e9 g7 g8
   have A8:=A5.call e9
   have h7:Mv d9 l0 d9 A7:=Mv.of_keep e9
   have b1:=b1.mv h7
   have b2:=b2.mv h7
   have b6:=b6.mv h7
   have c9:=c9.mv h7 e9 (by simp)
   have a0:=a0.keep e9 (by simp)
   have c6:=c6.keep e9 (by simp)
   have a3:=a3.keep e9 (by simp)
   obtain ⟨F2,rfl⟩:=BB (F:=A6) [(6,vP (some ⟨a4,0,none⟩)),(7,vP (some ⟨a5,0,none⟩)),(51, .tuple #[vN (.func 59) #[] #[vP (some ⟨a4,0,none⟩),vP (some ⟨a5,0,none⟩)]]),(43,b8),(44,vI no),(48,vA #[vI ((c.recs[no.toNat]!).no),vI ((c.recs[no.toNat]!).asked),vI 1,d3,d4])] ⟨g8 6 kR,g8 7 kR,g8 51 kR,g7 1 43 kR (by decide),g7 2 44 kR (by decide),g7 6 48 kR (by decide),trivial⟩
   clear g7 g8
   refine AA (FK U23_ DC .i64 no no.toNat rfl rfl oM c9 oM fun N0 e7=>(BE (GN (⟨(c.recs[no.toNat]!).no,(c.recs[no.toNat]!).asked,(1:Int),(c.recs[no.toNat]!).approved,(c.recs[no.toNat]!).vetoed⟩:Recovery) (by decide) DC rfl rfl c9 e7 (s7 _ e7) oM ⟨_,_,rfl,b1,b2⟩ A8 fun N1 A9 B0 l1 c7=>(?_))))
   have a0:=a0.keep l1 (by simp only [List.mem_singleton];exact fun e=>absurd e.symm (m4 _ e7))
   have b6:=b6.mv B0
   have c6:=c6.keep l1 (by simp only [List.mem_singleton];exact fun e=>absurd e.symm (j5 _ e7))
   have a3:=a3.keep l1 (by simp only [List.mem_singleton];exact fun e=>absurd e.symm (m5 _ e7))
   refine AE (AC (AF (AB kR (AA (AX (vs:=[vI c.epoch,vI c.threshold,vI c.wait,c5,b8]) U25_ rfl AV rfl c6 rfl (BE (AS (vs:=[vI c.epoch,vI c.threshold,vI c.wait,c5,b8]) (.agg #[vI c.epoch,vI c.threshold,vI c.wait,c5,b8]) rfl rfl rfl AV (fun u hu=>by simp only [List.mem_cons,List.not_mem_nil,or_false] at hu;rcases hu with rfl|rfl|rfl|rfl|rfl <;> first|rfl|exact b6.oneCell|exact c7.oneCell) (by repeat (assumption)) c6 oT A9 fun N2 B1 o0 l2 j6=>(?_))))))))
   have c7:=c7.mv o0 l2 (fun b hb=>AM (j5 b hb))
   have b6:=b6.mv o0
   have a0:=a0.keep l2 (AM c3)
   have a3:=a3.keep l2 (AM (Ne.symm b9))
   refine BE (BP (vI 0) rfl rfl rfl IH (by repeat (assumption)) a3 oT B1 fun N3 B2 o1 l3 s8=>(?_))
   have c7:=c7.mv o1 l3 (fun b hb=>AM (m5 b hb))
   have b6:=b6.mv o1
   have a0:=a0.keep l3 (AM c4)
   have j6:=j6.keep l3 (AM b9)
   refine AE (AC (AT (IV (GQ [vP (some ⟨a4,0,none⟩),vP (some ⟨a5,0,none⟩)] 19 .returning rfl (fun h=>by cases h) rfl DJ Try.func59 rfl rfl oT rfl rfl (fun N4=>AF (AB kR (AA (AD (Value.nilIface) rfl (AA (o_neqNil' U20_ rfl (AE (AC (AP false rfl rfl (fun h=>by cases h) (fun _=>AZ (DF rfl (EN rfl) (Exists.intro _ (And.intro (BY rfl (CN (vs:=[vI c.epoch,vI c.threshold,vI c.wait,c5,b8]) rfl U25_ rfl AV rfl j6 rfl) (GK rfl U28_ rfl rfl s8 rfl)) (BQ (AA (AJ (vA #[vI c.epoch,vI c.threshold,vI c.wait,c5,b8]) rfl rfl (AA (AJ (vI 0) rfl rfl (BE (AS (vs:=[vI c.epoch,vI c.threshold,vI c.wait,c5,b8]) (.agg #[vI c.epoch,vI c.threshold,vI c.wait,c5,b8]) rfl rfl rfl AV (fun u hu=>by simp only [List.mem_cons,List.not_mem_nil,or_false] at hu;rcases hu with rfl|rfl|rfl|rfl|rfl <;> first|rfl|exact b6.oneCell|exact c7.oneCell) (by repeat (assumption)) a0 oT B2 fun N5 o2 o3 B3 s9=>(?_)))))))))))))))))))))))))
   have b6:=b6.mv o3
   have c7:=c7.mv o3 B3 (fun b hb=>AM (m4 b hb))
   refine AA (AG (vI 0) rfl (AE (AC (AT (BF rfl (BY rfl (CN (vs:=[vI c.epoch,vI c.threshold,vI c.wait,c5,b8]) rfl U25_ rfl AV rfl s9 rfl) (CY rfl rfl)) (?_))))))
   have B4:((AK c no (AN c day)).1)=(⟨c.epoch,c.threshold,c.wait,c.guardians,c.recs.set no.toNat (⟨(c.recs[no.toNat]!).no,(c.recs[no.toNat]!).asked,(1:Int),(c.recs[no.toNat]!).approved,(c.recs[no.toNat]!).vetoed⟩:Recovery)⟩:Circle):=by exact congrArg (fun p=>p.1) (show AK c no (AN c day)=_ from fin_open hok oM oM aS aS aS oM)
   have B5:((AK c no (AN c day)).2)=(0:Int):=by exact congrArg (fun p=>p.2) (show AK c no (AN c day)=_ from fin_open hok oM oM aS aS aS oM)
   exact ⟨_,rfl,o2.keep,by rw [B4,B5];exact ⟨[vI c.epoch,vI c.threshold,vI c.wait,c5,b8],rfl,⟨_,_,rfl,b6.out,(c7.pub o2)⟩⟩⟩
  ·refine AA (FB (k:=1) (vN (.func 55) #[] #[vP (some ⟨a2,0,none⟩)]) U68_ U3_ rfl (congrArg vI e3) b7 rfl (AA (AD (vT #[vN (.func 55) #[] #[vP (some ⟨a2,0,none⟩)],vO true]) rfl (AA (AJ (vN (.func 55) #[] #[vP (some ⟨a2,0,none⟩)]) rfl rfl (AA (AJ (vO true) rfl rfl (AA (AG (vN (.func 55) #[] #[vP (some ⟨a2,0,none⟩)]) rfl (AA (AG (vO true) rfl (AE (AC (AF (AB kR (AA (AD (vO true) rfl (AE (AC (AP true rfl rfl (fun _=>AB kR (AA (AD (vN (.func 55) #[] #[vP (some ⟨a2,0,none⟩)]) rfl (AA (EO [] [vP (some ⟨a2,0,none⟩)] [] enter_55 rfl rfl (BC 3 Try.func55 rfl rfl oT (fun N6=>AB kR (AA (AR U64_ rfl (vP (some ⟨a1,0,none⟩)) rfl a6 rfl (AA (DO [vP (some ⟨a1,0,none⟩),vO false,vI 1] ES rfl (BC 11 Try.func41 rfl rfl oT (fun N7=>AF (AB kR (AA (AD (vO false) rfl (AA (EI false rfl (AE (AC (AP true rfl rfl (fun _=>AB kR (AA (AD (vI 1) rfl (AA (CR (l:=[(0, .tmp 8)]) JA LV rfl [(0,vI 1,[vI 1])] [vI 1] rfl ⟨_,rfl,rfl,oT,rfl⟩ (AA (GA (vA #[vI 1]) U78_ rfl rfl (BE (GD rfl (CX rfl (CE (CX rfl (CE (CX rfl (CE (CX rfl (CE (EA (GC (ED [vP (some ⟨a4,0,none⟩),vP (some ⟨a5,0,none⟩)] (.panicking [{ v:=Value.iface 78 (vA #[vI 1]),recovered:=false }]) rfl (fun h=>by cases h) rfl DJ (HJ (1:Int) a4 a5 h1 a7 a3 (by repeat (constructor)) (by repeat (constructor)) b9) (fun e_ N8 hR_=>?_))))))))))))))))))))) (fun h=>by cases h)))))))))))))))))))))) (fun h=>by cases h)))))))))))))))))))))
   obtain ⟨v_,rfl,B6,N9,B7,t0,t1⟩:=hR_
   have a0:=a0.keep B7 (MS c3 c4)
   refine Exists.intro _ (And.intro (BY rfl (CN (vs:=[vI 0,vI 0,vI 0,nS,nS]) rfl U25_ rfl AV rfl t0 rfl) (GK rfl U28_ rfl rfl t1 rfl)) (BQ (AA (AJ (vA #[vI 0,vI 0,vI 0,nS,nS]) rfl rfl (AA (AJ (vI 1) rfl rfl (BE (AS (vs:=[vI 0,vI 0,vI 0,nS,nS]) (.agg #[vI 0,vI 0,vI 0,nS,nS]) rfl rfl rfl AV (fun u hu=>by simp only [List.mem_cons,List.not_mem_nil,or_false] at hu;rcases hu with rfl|rfl|rfl|rfl|rfl <;> rfl) (by repeat (constructor)) a0 oT B6 fun O0 B8 O1 O2 t2=>(AA (AG (vI 1) rfl (AE (AC (AT (BF rfl (BY rfl (CN (vs:=[vI 0,vI 0,vI 0,nS,nS]) rfl U25_ rfl AV rfl t2 rfl) (CY rfl rfl)) (?_)))))))))))))))
   have B9:((AK c no (AN c day)).1)=(⟨(0:Int),(0:Int),(0:Int),[],[]⟩:Circle):=by exact congrArg (fun p=>p.1) (show AK c no (AN c day)=_ from fin_done hok oM oM aS)
   have C0:((AK c no (AN c day)).2)=(1:Int):=by exact congrArg (fun p=>p.2) (show AK c no (AN c day)=_ from fin_done hok oM oM aS)
   exact ⟨_,rfl,B8.keep,by rw [B9,C0];exact ⟨[vI 0,vI 0,vI 0,nS,nS],rfl,Enc.out (B:=(a9 :: (a2 :: (a1 :: (a5 :: (a4 :: (a8 :: []))))))) ⟨.slice none 0 0, .slice none 0 0,rfl,(BV.nil _ _ _),(BV.nil _ _ _)⟩⟩⟩
  refine AA (FB (k:=2) (vN (.func 54) #[] #[vP (some ⟨a2,0,none⟩)]) U68_ U3_ rfl (congrArg vI e3) b7 rfl (AA (AD (vT #[vN (.func 54) #[] #[vP (some ⟨a2,0,none⟩)],vO true]) rfl (AA (AJ (vN (.func 54) #[] #[vP (some ⟨a2,0,none⟩)]) rfl rfl (AA (AJ (vO true) rfl rfl (AA (AG (vN (.func 54) #[] #[vP (some ⟨a2,0,none⟩)]) rfl (AA (AG (vO true) rfl (AE (AC (AF (AB kR (AA (AD (vO true) rfl (AE (AC (AP true rfl rfl (fun _=>AB kR (AA (AD (vN (.func 54) #[] #[vP (some ⟨a2,0,none⟩)]) rfl (AA (EO [] [vP (some ⟨a2,0,none⟩)] [] enter_54 rfl rfl (BC 3 Try.func54 rfl rfl oT (fun O3=>AB kR (AA (AR U64_ rfl (vP (some ⟨a1,0,none⟩)) rfl a6 rfl (AA (DO [vP (some ⟨a1,0,none⟩),vO false,vI 452] ES rfl (BC 11 Try.func41 rfl rfl oT (fun O4=>AF (AB kR (AA (AD (vO false) rfl (AA (EI false rfl (AE (AC (AP true rfl rfl (fun _=>AB kR (AA (AD (vI 452) rfl (AA (CR (l:=[(0, .tmp 8)]) JA LV rfl [(0,vI 452,[vI 452])] [vI 452] rfl ⟨_,rfl,rfl,oT,rfl⟩ (AA (GA (vA #[vI 452]) U78_ rfl rfl (BE (GD rfl (CX rfl (CE (CX rfl (CE (CX rfl (CE (CX rfl (CE (EA (GC (ED [vP (some ⟨a4,0,none⟩),vP (some ⟨a5,0,none⟩)] (.panicking [{ v:=Value.iface 78 (vA #[vI 452]),recovered:=false }]) rfl (fun h=>by cases h) rfl DJ (HJ (452:Int) a4 a5 h1 a7 a3 (by repeat (constructor)) (by repeat (constructor)) b9) (fun e_ O5 hR_=>?_))))))))))))))))))))) (fun h=>by cases h)))))))))))))))))))))) (fun h=>by cases h)))))))))))))))))))))
  obtain ⟨v_,rfl,C1,O6,C2,t3,t4⟩:=hR_
  have a0:=a0.keep C2 (MS c3 c4)
  refine Exists.intro _ (And.intro (BY rfl (CN (vs:=[vI 0,vI 0,vI 0,nS,nS]) rfl U25_ rfl AV rfl t3 rfl) (GK rfl U28_ rfl rfl t4 rfl)) (BQ (AA (AJ (vA #[vI 0,vI 0,vI 0,nS,nS]) rfl rfl (AA (AJ (vI 452) rfl rfl (BE (AS (vs:=[vI 0,vI 0,vI 0,nS,nS]) (.agg #[vI 0,vI 0,vI 0,nS,nS]) rfl rfl rfl AV (fun u hu=>by simp only [List.mem_cons,List.not_mem_nil,or_false] at hu;rcases hu with rfl|rfl|rfl|rfl|rfl <;> rfl) (by repeat (constructor)) a0 oT C1 fun O7 C3 O8 O9 t5=>(AA (AG (vI 452) rfl (AE (AC (AT (BF rfl (BY rfl (CN (vs:=[vI 0,vI 0,vI 0,nS,nS]) rfl U25_ rfl AV rfl t5 rfl) (CY rfl rfl)) (?_)))))))))))))))
  have C4:((AK c no (AN c day)).1)=(⟨(0:Int),(0:Int),(0:Int),[],[]⟩:Circle):=by exact congrArg (fun p=>p.1) (show AK c no (AN c day)=_ from fin_dead hok oM oM aS)
  have C5:((AK c no (AN c day)).2)=(452:Int):=by exact congrArg (fun p=>p.2) (show AK c no (AN c day)=_ from fin_dead hok oM oM aS)
  exact ⟨_,rfl,C3.keep,by rw [C4,C5];exact ⟨[vI 0,vI 0,vI 0,nS,nS],rfl,Enc.out (B:=(a9 :: (a2 :: (a1 :: (a5 :: (a4 :: (a8 :: []))))))) ⟨.slice none 0 0, .slice none 0 0,rfl,(BV.nil _ _ _),(BV.nil _ _ _)⟩⟩⟩
 have F7:no<(0:Int):=by simpa using l5
 refine AU rfl (AU rfl (AU rfl (AU rfl (AU rfl (AA (AY (vO true) rfl rfl (AE (AC (AP true rfl rfl (fun _=>AF (AB kR (AA (AX (vs:=[vI 0,vI 0,vI 0,nS,nS]) U25_ rfl AV rfl a7 rfl (BE (AS (vs:=[vI 0,vI 0,vI 0,nS,nS]) (.agg #[vI 0,vI 0,vI 0,nS,nS]) rfl rfl rfl AV (fun u hu=>by simp only [List.mem_cons,List.not_mem_nil,or_false] at hu;rcases hu with rfl|rfl|rfl|rfl|rfl <;> rfl) (by repeat (constructor)) a7 oT g9 fun P0 C6 P1 o4 j7=>(?_))))))) (fun h=>by cases h))))))))))
 have a0:=a0.keep o4 (AM c3)
 have a3:=a3.keep o4 (AM (Ne.symm b9))
 refine BE (BP (vI 1) rfl rfl rfl IH (by repeat (constructor)) a3 oT C6 fun P2 C7 P3 o5 t6=>(?_))
 have a0:=a0.keep o5 (AM c4)
 have j7:=j7.keep o5 (AM b9)
 refine AE (AC (AT (BA (ID rfl (BY rfl (CN (vs:=[vI 0,vI 0,vI 0,nS,nS]) rfl U25_ rfl AV rfl j7 rfl) (GK rfl U28_ rfl rfl t6 rfl)) (BQ (AA (AJ (vA #[vI 0,vI 0,vI 0,nS,nS]) rfl rfl (AA (AJ (vI 1) rfl rfl (BE (AS (vs:=[vI 0,vI 0,vI 0,nS,nS]) (.agg #[vI 0,vI 0,vI 0,nS,nS]) rfl rfl rfl AV (fun u hu=>by simp only [List.mem_cons,List.not_mem_nil,or_false] at hu;rcases hu with rfl|rfl|rfl|rfl|rfl <;> rfl) (by repeat (constructor)) a0 oT C7 fun P4 C8 P5 P6 t7=>(AA (AG (vI 1) rfl (AE (AC (AT (BF rfl (BY rfl (CN (vs:=[vI 0,vI 0,vI 0,nS,nS]) rfl U25_ rfl AV rfl t7 rfl) (CY rfl rfl)) (?_))))))))))))))))))
 have C9:((AK c no (AN c day)).1)=(⟨(0:Int),(0:Int),(0:Int),[],[]⟩:Circle):=by exact congrArg (fun p=>p.1) (show AK c no (AN c day)=_ from fin_no hok oM)
 have D0:((AK c no (AN c day)).2)=(1:Int):=by exact congrArg (fun p=>p.2) (show AK c no (AN c day)=_ from fin_no hok oM)
 exact ⟨_,rfl,C8.keep,by rw [C9,D0];exact ⟨[vI 0,vI 0,vI 0,nS,nS],rfl,Enc.out (B:=(a5 :: (a4 :: (a8 :: [])))) ⟨.slice none 0 0, .slice none 0 0,rfl,(BV.nil _ _ _),(BV.nil _ _ _)⟩⟩⟩
open Go.Fw
section
variable {c:Circle}
end
theorem has_yes {l:List Int} {n:Int} {k:Nat} (hk:k<l.length) (h:l[k]! = n):l.contains n=true:=by
  rw [List.contains_iff_mem,← h,getElem!_pos l k hk];exact List.getElem_mem hk
theorem has_no {l:List Int} {n:Int} (h:∀ q,q<l.length→l[q]!≠n):l.contains n=false:=by
  rw [← Bool.not_eq_true,List.contains_iff_mem]
  intro hm
  obtain ⟨i,hi,e⟩:=List.getElem_of_mem hm
  exact h i hi (by rw [getElem!_pos l i hi];exact e)
def FS (a b:List Int):Bool:=if (a.length:Int) != (b.length:Int) then false else HI (fun k=>if a[k]! != b[k]! then some false else none) true 0 (a.length - 0)
theorem NL {l:List Int} (h:ER l=true):l.Nodup:=by
  rw [List.nodup_iff_pairwise_ne]
  rw [List.pairwise_iff_getElem]
  intro i j hi hj hij
  have:=GS h i j hij hj
  rw [getElem!_pos l i hi,getElem!_pos l j hj] at this
  omega
section
variable {c:Circle} {day no g:Int}
end
open Go.Fw Go.RowKit
set_option maxHeartbeats 4000000 in
set_option maxRecDepth 100000 in
theorem c_sameI {O:List Nat} (la_v:Value) (la:List Int) (lb_v:Value) (lb:List Int) (w:World) (a0:BV Enc.int w O la_v la) (a1:BV Enc.int w O lb_v lb) (hO:∀ b∈O,b<w.heap.size):DA Try.prog 28 [la_v,lb_v] w (fun v _=>v = .bool (FS la lb)):= by
 have b3:=a0.len_le
 have a0:BV Enc.int w ([]++O) la_v la:=a0
 have b4:=a1.len_le
 have a1:BV Enc.int w ([]++O) lb_v lb:=a1
 have s0:St w O w []:=St.start hO
 refine CA 26 Try.func28 rfl rfl oT (fun F0=>AF (AB kR (AA (AG (vO false) rfl (AE (AC (AF (AF (AB kR (AA (AD (la_v) rfl (AA (CO U22_ rfl a0 (AA (AD (lb_v) rfl (AA (CO U22_ rfl a1 (AA (DS .i64 (la.length:Int) (lb.length:Int) rfl rfl (AE (AC (AP ((la.length:Int) != (lb.length:Int)) rfl rfl (fun a2=>?_) (fun a2=>?_)))))))))))))))))))))))
 ·have b5:(la.length:Int)≠(lb.length:Int):=by simpa using a2
  refine AF (AB kR (AA (AG (vO false) rfl (AE (AC (AT (BA (BF rfl (CU rfl rfl rfl) (?_)))))))))
  have e:(FS la lb)=false:=by (unfold FS;((repeat ((refine (if_pos ?_).trans ?_;omega)));rfl))
  exact ⟨_,rfl,s0.keep,(by exact congrArg vO e.symm)⟩
 have b6:(la.length:Int)=(lb.length:Int):=by simpa using a2
 refine AZ (AC (AF (AF (AB kR (AA (AG (vI 0) rfl (AE (AC (BX (FH (fun mI FI wI=>∃ (k:Nat) (B:List Nat),k≤la.length∧FS la lb=HI (fun k=>if la[k]! != lb[k]! then some false else none) true k (la.length - k)∧mI=la.length - k∧(∃ F1,FI=II F1 [(0,la_v),(1,lb_v),(5,vI ((k:Nat):Int)),(26,undef)])∧St w O wI B∧BV Enc.int wI (B++O) (la_v) (la)∧BV Enc.int wI (B++O) (lb_v) (lb)) (la.length - (0)) ?_ ?_))))))))))
 ·exact ⟨(0),[],oM,(by unfold FS;((repeat ((refine (if_neg ?_).trans ?_;solve|(simp only [dbs];(repeat (omega))))));rfl)),rfl,⟨_,BL _ ⟨rfl,rfl,(by rfl),rfl,trivial⟩⟩,s0,a0,a1⟩
 intro c4 F b7 hI
 clear a0 a1
 obtain ⟨k,a8,hr0_0,hr0_1,c5,⟨c6,rfl⟩,b2,a0,a1⟩:=hI
 refine AF (AF (AB kR (AA (AD (vI ((k:Nat):Int)) rfl (AA (AD (la_v) rfl (AA (CO U22_ rfl a0 (AA (DU .i64 ((k:Nat):Int) (la.length:Int) rfl rfl (AE (AC (AP (decide (((k:Nat):Int)<(la.length:Int))) rfl rfl (fun a3=>?_) (fun a3=>?_))))))))))))))
 ·have b8:((k:Nat):Int)<(la.length:Int):=by simpa using a3
  refine AZ (AC (AF (BX (AF (IP 9 _ _ kR kR kR kR kR rfl rfl fun b1 a5=>?_)))))
  have a6:=b2.call a5
  have a7:Mv a8 b7 a8 b1:=Mv.of_keep a5
  have a0:=a0.mv a7
  have a1:=a1.mv a7
  refine DM (AD (la_v) rfl (DM (AD (vI ((k:Nat):Int)) rfl (DM (DV U22_ IA .i64 ((k:Nat):Int) k rfl rfl rfl a0 oM fun c2 a9=>(DM (BW U3_ rfl rfl a9 (DM (AD (lb_v) rfl (DM (AD (vI ((k:Nat):Int)) rfl (DM (DV U22_ IA .i64 ((k:Nat):Int) k rfl rfl rfl a1 oM fun c3 b0=>(DM (BW U3_ rfl rfl b0 (DM (DS .i64 (la[k]!) (lb[k]!) rfl rfl (JJ (AE (AC (AP ((la[k]!) != (lb[k]!)) rfl rfl (fun a4=>?_) (fun a4=>?_))))))))))))))))))))))
  ·have b9:la[k]!≠lb[k]!:=by simpa using a4
   refine AF (AB kR (AA (AG (vO false) rfl (AE (AC (AT (CK (BA (BA (CK (BA (BF rfl (CU rfl rfl rfl) (?_)))))))))))))
   have e:(FS la lb)=false:=by (rw [hr0_1];exact FD oM (by ((repeat ((refine (if_pos ?_).trans ?_;omega)));rfl)))
   exact ⟨_,rfl,a6.keep,(by exact congrArg vO e.symm)⟩
  have c0:la[k]! = lb[k]!:=by simpa using a4
  refine AZ (BU (AC (AB kR (AA (AD (vI ((k:Nat):Int)) rfl (AA (DQ .i64 ((k:Nat):Int) (1:Int) (((k+1:Nat):Int)) rfl rfl (HR oM oM) (AA (AG (vI ((k+1:Nat):Int)) rfl (AE (AC (?_))))))))))))
  exact ⟨_,oM,(k+1),a8,oM,(hr0_1.trans (HP oM (by ((repeat ((refine (if_neg ?_).trans ?_;solve|(simp only [dbs];(repeat (omega))))));rfl)))),rfl,⟨_,BL _ ⟨rfl,rfl,(by rfl),rfl,trivial⟩⟩,a6,a0,a1⟩
 have c1:(la.length:Int)≤((k:Nat):Int):=by simpa using a3
 refine EX (CV (CV (EB (AC (AF (AB kR (AA (AG (vO true) rfl (AE (AC (AT (BF rfl (CU rfl rfl rfl) (?_)))))))))))))
 have e:(FS la lb)=true:=by (rw [hr0_1];exact JQ oM)
 exact ⟨_,rfl,b2.keep,(by exact congrArg vO e.symm)⟩
open Go.Fw Go.RowKit
def sC:Circle:=(CQ [3,5,8] 2 7).1
def sC2:Circle:=(CQ [3,5] 3 7).1
def sA0:Circle:=(AK sC 0 (AI sC 3)).1
def sX:Circle:=(BN sC 10).1
def sY:Circle:=(AK sX 0 (AI sX 5)).1
def EG:Circle:=(AK sY 0 (AI sY 5)).1
def sF1:Circle:=(AK EG 0 (AN EG 17)).1
def sZ:Circle:=(AK EG 0 (AI EG 3)).1
def sF2:Circle:=(AK sZ 0 (AN sZ 16)).1
def CF:Circle:=(AK sZ 0 (AN sZ 17)).1
def sF3:Circle:=(AK CF 0 (BH 18)).1
def CM:Circle:=(AK sZ 0 (BH 12)).1
def sF4:Circle:=(AK CM 0 (AN CM 99)).1
def sF5:Circle:=(AK sX 0 (AI sX 4)).1
def sF6:Circle:=(BN sX 11).1
set_option maxHeartbeats 4000000 in
set_option maxRecDepth 100000 in
theorem c_sane45 {O:List Nat} (w:World) (hO:∀ b∈O,b<w.heap.size):DA Try.prog 9 [] w (fun v _=>v = .bool (true)):= by
 have s0:St w O w []:=St.start hO
 refine CA 240 Try.func9 rfl rfl oT (fun F0=>AF (AB kR (AA (AG (vO false) rfl (AE (AC (AF (AB kR (AA (IL (E:=Enc.int) (xs:=[.const (vI 3), .const (vI 5), .const (vI 8)]) U22_ IA z_3 (by decide) [vI 3,vI 5,vI 8] [[vI 3],[vI 5],[vI 8]] [(3:Int),(5:Int),(8:Int)] rfl rfl rfl (Parts.cons rfl rfl (Parts.cons rfl rfl (Parts.cons rfl rfl (Parts.nil _ _ _)))) oT s0 fun s9 L2 t0 Y3 Y4 q4=>(?_)))))))))))
 have:=q4.len_le
 refine AA (BJ (vs:=[s9,vI 2,vI 7]) ME (c_new (O:=[]++O) s9 ([(3:Int),(5:Int),(8:Int)]) (2:Int) (7:Int) L2 q4 (by (simp;done)) t0.lt) rfl t0 fun Y5 L3 L4 Y6 Y7 L5=>(?_))
 obtain ⟨k3,rfl,h9⟩:=L5
 have h9:Enc.circle.rd L3 ([]++O) k3 sC:=h9
 refine AA (AD (vT #[vA k3.toArray,vI ((CQ ([(3:Int),(5:Int),(8:Int)]) (2:Int) (7:Int)).2)]) rfl (AA (AJ (vA k3.toArray) rfl rfl (AA (AJ (vI ((CQ ([(3:Int),(5:Int),(8:Int)]) (2:Int) (7:Int)).2)) rfl rfl (AA (BS [vI 0,vI 0,vI 0,nS,nS] EZ rfl L4 fun a8 L6 L7 L8 L9 Y8 y6=>(?_))))))))
 clear L7
 have h9:Enc.circle.rd L6 ((a8 :: [])++O) k3 (sC):=Enc.mv Enc.circle (x:=sC) h9 L9
 obtain ⟨f6,f7,rfl,d3,d4⟩:=h9
 have:=d3.len_le
 have:=d4.len_le
 refine BE (AS (vs:=[vI sC.epoch,vI sC.threshold,vI sC.wait,f6,f7]) (.agg #[vI sC.epoch,vI sC.threshold,vI sC.wait,f6,f7]) rfl rfl rfl AV (fun u hu=>by simp only [List.mem_cons,List.not_mem_nil,or_false] at hu;rcases hu with rfl|rfl|rfl|rfl|rfl <;> first|rfl|exact d3.oneCell|exact d4.oneCell) (by repeat (constructor)) y6 oT L8 fun Y9 M0 t1 Z0 a0=>(?_))
 have d3:=d3.mv t1
 have d4:=d4.mv t1
 refine AA (AG (vI ((CQ ([(3:Int),(5:Int),(8:Int)]) (2:Int) (7:Int)).2)) rfl (AE (AC (AF (AB kR (AA (IL (E:=Enc.int) (xs:=[.const (vI 3), .const (vI 5)]) U22_ IA z_3 (by decide) [vI 3,vI 5] [[vI 3],[vI 5]] [(3:Int),(5:Int)] rfl rfl rfl (Parts.cons rfl rfl (Parts.cons rfl rfl (Parts.nil _ _ _))) oT M0 fun t2 M1 t3 t4 M2 q5=>(?_))))))))
 have d3:=d3.mv t4
 have d4:=d4.mv t4
 have a0:=a0.keep M2 (by simp)
 have:=q5.len_le
 refine AA (BJ (vs:=[t2,vI 3,vI 7]) ME (c_new (O:=(a8 :: [])++O) t2 ([(3:Int),(5:Int)]) (3:Int) (7:Int) M1 q5 (by (simp;done)) t3.lt) rfl t3 fun Z1 M3 M4 t5 M5 M6=>(?_))
 obtain ⟨k4,rfl,i0⟩:=M6
 have i0:Enc.circle.rd M3 ((a8 :: [])++O) k4 sC2:=i0
 have d3:=d3.mv t5
 have d4:=d4.mv t5
 have a0:=a0.keep M5 (by simp)
 refine AA (AD (vT #[vA k4.toArray,vI ((CQ ([(3:Int),(5:Int)]) (3:Int) (7:Int)).2)]) rfl (AA (AJ (vA k4.toArray) rfl rfl (AA (AJ (vI ((CQ ([(3:Int),(5:Int)]) (3:Int) (7:Int)).2)) rfl rfl (AA (BS [vI 0,vI 0,vI 0,nS,nS] EZ rfl M4 fun b0 M7 M8 M9 p4 N0 y7=>(?_))))))))
 have y8:CJ a8 b0:=by show a8≠b0;have:=a0.lt;omega
 clear M8
 have d3:=d3.mv p4
 have d4:=d4.mv p4
 have i0:Enc.circle.rd M7 ((b0 :: (a8 :: []))++O) k4 (sC2):=Enc.mv Enc.circle (x:=sC2) i0 p4
 have a0:=a0.keep N0 (by simp)
 obtain ⟨t6,t7,rfl,q6,q7⟩:=i0
 have:=q6.len_le
 have:=q7.len_le
 refine BE (AS (vs:=[vI sC2.epoch,vI sC2.threshold,vI sC2.wait,t6,t7]) (.agg #[vI sC2.epoch,vI sC2.threshold,vI sC2.wait,t6,t7]) rfl rfl rfl AV (fun u hu=>by simp only [List.mem_cons,List.not_mem_nil,or_false] at hu;rcases hu with rfl|rfl|rfl|rfl|rfl <;> first|rfl|exact q6.oneCell|exact q7.oneCell) (by repeat (constructor)) y7 oT M9 fun N1 t8 t9 N2 a1=>(?_))
 have d3:=d3.mv t9
 have d4:=d4.mv t9
 have a0:=a0.keep N2 (AM y8)
 refine AA (AG (vI ((CQ ([(3:Int),(5:Int)]) (3:Int) (7:Int)).2)) rfl (AE (AC (AF (AB kR (AA (AX (vs:=[vI sC.epoch,vI sC.threshold,vI sC.wait,f6,f7]) U25_ rfl AV rfl a0 rfl (AA (BJ (vs:=[vA #[vI sC.epoch,vI sC.threshold,vI sC.wait,f6,f7],vI 0,vI 3]) HO (GR (O:=(b0 :: (a8 :: []))++O) [vI sC.epoch,vI sC.threshold,vI sC.wait,f6,f7] sC (0:Int) (3:Int) N1 ⟨_,_,rfl,d3,d4⟩ t8.lt) rfl t8 fun Z2 N3 N4 u0 u1 N5=>(?_))))))))))
 obtain ⟨k5,rfl,i1⟩:=N5
 have i1:Enc.circle.rd N3 ((b0 :: (a8 :: []))++O) k5 sA0:=i1
 have d3:=d3.mv u0
 have d4:=d4.mv u0
 have a0:=a0.keep u1 (by simp)
 have a1:=a1.keep u1 (by simp)
 refine AA (AD (vT #[vA k5.toArray,vI ((AK sC (0:Int) (AI sC (3:Int))).2)]) rfl (AA (AJ (vA k5.toArray) rfl rfl (AA (AJ (vI ((AK sC (0:Int) (AI sC (3:Int))).2)) rfl rfl (AA (BS [vI 0,vI 0,vI 0,nS,nS] EZ rfl N4 fun b2 N6 N7 N8 p5 u2 y9=>(?_))))))))
 have z0:CJ a8 b2:=by show a8≠b2;have:=a0.lt;omega
 have z1:CJ b0 b2:=by show b0≠b2;have:=a1.lt;omega
 clear N7
 have d3:=d3.mv p5
 have d4:=d4.mv p5
 have i1:Enc.circle.rd N6 ((b2 :: (b0 :: (a8 :: [])))++O) k5 (sA0):=Enc.mv Enc.circle (x:=sA0) i1 p5
 have a0:=a0.keep u2 (by simp)
 have a1:=a1.keep u2 (by simp)
 obtain ⟨u3,u4,rfl,q8,q9⟩:=i1
 have:=q8.len_le
 have:=q9.len_le
 refine BE (AS (vs:=[vI sA0.epoch,vI sA0.threshold,vI sA0.wait,u3,u4]) (.agg #[vI sA0.epoch,vI sA0.threshold,vI sA0.wait,u3,u4]) rfl rfl rfl AV (fun u hu=>by simp only [List.mem_cons,List.not_mem_nil,or_false] at hu;rcases hu with rfl|rfl|rfl|rfl|rfl <;> first|rfl|exact q8.oneCell|exact q9.oneCell) (by repeat (constructor)) y9 oT N8 fun N9 u5 u6 u7 a2=>(?_))
 have d3:=d3.mv u6
 have d4:=d4.mv u6
 have a0:=a0.keep u7 (AM z0)
 have a1:=a1.keep u7 (AM z1)
 refine AA (AG (vI ((AK sC (0:Int) (AI sC (3:Int))).2)) rfl (AE (AC (AF (AB kR (AA (AX (vs:=[vI sC.epoch,vI sC.threshold,vI sC.wait,f6,f7]) U25_ rfl AV rfl a0 rfl (AA (BJ (vs:=[vA #[vI sC.epoch,vI sC.threshold,vI sC.wait,f6,f7],vI 10]) LQ (c_ask (O:=(b2 :: (b0 :: (a8 :: [])))++O) [vI sC.epoch,vI sC.threshold,vI sC.wait,f6,f7] sC (10:Int) N9 ⟨_,_,rfl,d3,d4⟩ u5.lt) rfl u5 fun Z3 O0 O1 Z4 p6 O2=>(?_))))))))))
 obtain ⟨k6,rfl,i2⟩:=O2
 have i2:Enc.circle.rd O0 ((b2 :: (b0 :: (a8 :: [])))++O) k6 sX:=i2
 have a0:=a0.keep p6 (by simp)
 have a1:=a1.keep p6 (by simp)
 have a2:=a2.keep p6 (by simp)
 refine AA (AD (vT #[vA k6.toArray,vI ((BN sC (10:Int)).2.1),vI ((BN sC (10:Int)).2.2)]) rfl (AA (AJ (vA k6.toArray) rfl rfl (AA (AJ (vI ((BN sC (10:Int)).2.1)) rfl rfl (AA (AJ (vI ((BN sC (10:Int)).2.2)) rfl rfl (AA (BS [vI 0,vI 0,vI 0,nS,nS] EZ rfl O1 fun b3 O3 O4 O5 O6 p7 z2=>(?_))))))))))
 have z3:CJ a8 b3:=by show a8≠b3;have:=a0.lt;omega
 have z4:CJ b0 b3:=by show b0≠b3;have:=a1.lt;omega
 have z5:CJ b2 b3:=by show b2≠b3;have:=a2.lt;omega
 clear O4
 have i2:Enc.circle.rd O3 ((b3 :: (b2 :: (b0 :: (a8 :: []))))++O) k6 (sX):=Enc.mv Enc.circle (x:=sX) i2 O6
 have a0:=a0.keep p7 (by simp)
 have a1:=a1.keep p7 (by simp)
 have a2:=a2.keep p7 (by simp)
 obtain ⟨e2,e3,rfl,a5,a6⟩:=i2
 have:=a5.len_le
 have:=a6.len_le
 refine BE (AS (vs:=[vI sX.epoch,vI sX.threshold,vI sX.wait,e2,e3]) (.agg #[vI sX.epoch,vI sX.threshold,vI sX.wait,e2,e3]) rfl rfl rfl AV (fun u hu=>by simp only [List.mem_cons,List.not_mem_nil,or_false] at hu;rcases hu with rfl|rfl|rfl|rfl|rfl <;> first|rfl|exact a5.oneCell|exact a6.oneCell) (by repeat (constructor)) z2 oT O5 fun O7 u9 v0 p8 a3=>(?_))
 have a5:=a5.mv v0
 have a6:=a6.mv v0
 have a0:=a0.keep p8 (AM z3)
 have a1:=a1.keep p8 (AM z4)
 have a2:=a2.keep p8 (AM z5)
 refine AA (AG (vI ((BN sC (10:Int)).2.1)) rfl (AA (AG (vI ((BN sC (10:Int)).2.2)) rfl (AE (AC (AF (AB kR (AA (AX (vs:=[vI sX.epoch,vI sX.threshold,vI sX.wait,e2,e3]) U25_ rfl AV rfl a3 rfl (AA (BJ (vs:=[vA #[vI sX.epoch,vI sX.threshold,vI sX.wait,e2,e3],vI 0,vI 5]) HO (GR (O:=(b3 :: (b2 :: (b0 :: (a8 :: []))))++O) [vI sX.epoch,vI sX.threshold,vI sX.wait,e2,e3] sX (0:Int) (5:Int) O7 ⟨_,_,rfl,a5,a6⟩ u9.lt) rfl u9 fun Z5 O8 O9 v1 n7 P0=>(?_))))))))))))
 obtain ⟨k7,rfl,i3⟩:=P0
 have i3:Enc.circle.rd O8 ((b3 :: (b2 :: (b0 :: (a8 :: []))))++O) k7 sY:=i3
 have a5:=a5.mv v1
 have a6:=a6.mv v1
 have a0:=a0.keep n7 (by simp)
 have a1:=a1.keep n7 (by simp)
 have a2:=a2.keep n7 (by simp)
 have a3:=a3.keep n7 (by simp)
 refine AA (AD (vT #[vA k7.toArray,vI ((AK sX (0:Int) (AI sX (5:Int))).2)]) rfl (AA (AJ (vA k7.toArray) rfl rfl (AA (AJ (vI ((AK sX (0:Int) (AI sX (5:Int))).2)) rfl rfl (AA (BS [vI 0,vI 0,vI 0,nS,nS] EZ rfl O9 fun b5 P1 P2 P3 p9 n9 z6=>(?_))))))))
 have r0:CJ a8 b5:=by show a8≠b5;have:=a0.lt;omega
 have r1:CJ b0 b5:=by show b0≠b5;have:=a1.lt;omega
 have r2:CJ b2 b5:=by show b2≠b5;have:=a2.lt;omega
 have r3:CJ b3 b5:=by show b3≠b5;have:=a3.lt;omega
 clear P2
 have a5:=a5.mv p9
 have a6:=a6.mv p9
 have i3:Enc.circle.rd P1 ((b5 :: (b3 :: (b2 :: (b0 :: (a8 :: [])))))++O) k7 (sY):=Enc.mv Enc.circle (x:=sY) i3 p9
 have a0:=a0.keep n9 (by simp)
 have a1:=a1.keep n9 (by simp)
 have a2:=a2.keep n9 (by simp)
 have a3:=a3.keep n9 (by simp)
 obtain ⟨k8,k9,rfl,i4,i5⟩:=i3
 have:=i4.len_le
 have:=i5.len_le
 refine BE (AS (vs:=[vI sY.epoch,vI sY.threshold,vI sY.wait,k8,k9]) (.agg #[vI sY.epoch,vI sY.threshold,vI sY.wait,k8,k9]) rfl rfl rfl AV (fun u hu=>by simp only [List.mem_cons,List.not_mem_nil,or_false] at hu;rcases hu with rfl|rfl|rfl|rfl|rfl <;> first|rfl|exact i4.oneCell|exact i5.oneCell) (by repeat (constructor)) z6 oT P3 fun P4 v2 o0 o1 l0=>(?_))
 have a5:=a5.mv o0
 have a6:=a6.mv o0
 have i4:=i4.mv o0
 have i5:=i5.mv o0
 have a0:=a0.keep o1 (AM r0)
 have a1:=a1.keep o1 (AM r1)
 have a2:=a2.keep o1 (AM r2)
 have a3:=a3.keep o1 (AM r3)
 refine AA (AG (vI ((AK sX (0:Int) (AI sX (5:Int))).2)) rfl (AE (AC (AF (AB kR (AA (AX (vs:=[vI sY.epoch,vI sY.threshold,vI sY.wait,k8,k9]) U25_ rfl AV rfl l0 rfl (AA (BJ (vs:=[vA #[vI sY.epoch,vI sY.threshold,vI sY.wait,k8,k9],vI 0,vI 5]) HO (GR (O:=(b5 :: (b3 :: (b2 :: (b0 :: (a8 :: [])))))++O) [vI sY.epoch,vI sY.threshold,vI sY.wait,k8,k9] sY (0:Int) (5:Int) P4 ⟨_,_,rfl,i4,i5⟩ v2.lt) rfl v2 fun Z6 P5 P6 v3 l1 P7=>(?_))))))))))
 obtain ⟨p1,rfl,p2⟩:=P7
 have p2:Enc.circle.rd P5 ((b5 :: (b3 :: (b2 :: (b0 :: (a8 :: [])))))++O) p1 EG:=p2
 have a5:=a5.mv v3
 have a6:=a6.mv v3
 have a0:=a0.keep l1 (by simp)
 have a1:=a1.keep l1 (by simp)
 have a2:=a2.keep l1 (by simp)
 have a3:=a3.keep l1 (by simp)
 have l0:=l0.keep l1 (by simp)
 refine AA (AD (vT #[vA p1.toArray,vI ((AK sY (0:Int) (AI sY (5:Int))).2)]) rfl (AA (AJ (vA p1.toArray) rfl rfl (AA (AJ (vI ((AK sY (0:Int) (AI sY (5:Int))).2)) rfl rfl (?_))))))
 obtain ⟨f8,e8,rfl,d5,a7⟩:=p2
 have:=d5.len_le
 have:=a7.len_le
 refine BE (AS (vs:=[vI EG.epoch,vI EG.threshold,vI EG.wait,f8,e8]) (.agg #[vI EG.epoch,vI EG.threshold,vI EG.wait,f8,e8]) rfl rfl rfl AV (fun u hu=>by simp only [List.mem_cons,List.not_mem_nil,or_false] at hu;rcases hu with rfl|rfl|rfl|rfl|rfl <;> first|rfl|exact d5.oneCell|exact a7.oneCell) (by repeat (constructor)) l0 oT P6 fun P8 v4 o2 o3 a4=>(?_))
 have a5:=a5.mv o2
 have a6:=a6.mv o2
 have d5:=d5.mv o2
 have a7:=a7.mv o2
 have a0:=a0.keep o3 (AM r0)
 have a1:=a1.keep o3 (AM r1)
 have a2:=a2.keep o3 (AM r2)
 have a3:=a3.keep o3 (AM r3)
 refine AA (AG (vI ((AK sY (0:Int) (AI sY (5:Int))).2)) rfl (AE (AC (AF (AB kR (AA (AX (vs:=[vI EG.epoch,vI EG.threshold,vI EG.wait,f8,e8]) U25_ rfl AV rfl a4 rfl (AA (BJ (vs:=[vA #[vI EG.epoch,vI EG.threshold,vI EG.wait,f8,e8],vI 0,vI 17]) IK (IS (O:=(b5 :: (b3 :: (b2 :: (b0 :: (a8 :: [])))))++O) [vI EG.epoch,vI EG.threshold,vI EG.wait,f8,e8] EG (0:Int) (17:Int) P8 ⟨_,_,rfl,d5,a7⟩ v4.lt) rfl v4 fun Z7 P9 Q0 o4 l2 Q1=>(?_))))))))))
 obtain ⟨l3,rfl,i6⟩:=Q1
 have i6:Enc.circle.rd P9 ((b5 :: (b3 :: (b2 :: (b0 :: (a8 :: [])))))++O) l3 sF1:=i6
 have a5:=a5.mv o4
 have a6:=a6.mv o4
 have d5:=d5.mv o4
 have a7:=a7.mv o4
 have a0:=a0.keep l2 (by simp)
 have a1:=a1.keep l2 (by simp)
 have a2:=a2.keep l2 (by simp)
 have a3:=a3.keep l2 (by simp)
 have a4:=a4.keep l2 (by simp)
 refine AA (AD (vT #[vA l3.toArray,vI ((AK EG (0:Int) (AN EG (17:Int))).2)]) rfl (AA (AJ (vA l3.toArray) rfl rfl (AA (AJ (vI ((AK EG (0:Int) (AN EG (17:Int))).2)) rfl rfl (AA (BS [vI 0,vI 0,vI 0,nS,nS] EZ rfl Q0 fun b9 Q2 Q3 Q4 l4 l5 z7=>(?_))))))))
 have z8:CJ a8 b9:=by show a8≠b9;have:=a0.lt;omega
 have z9:CJ b0 b9:=by show b0≠b9;have:=a1.lt;omega
 have A0:CJ b2 b9:=by show b2≠b9;have:=a2.lt;omega
 have A1:CJ b3 b9:=by show b3≠b9;have:=a3.lt;omega
 have A2:CJ b5 b9:=by show b5≠b9;have:=a4.lt;omega
 clear Q3
 have a5:=a5.mv l4
 have a6:=a6.mv l4
 have d5:=d5.mv l4
 have a7:=a7.mv l4
 have i6:Enc.circle.rd Q2 ((b9 :: (b5 :: (b3 :: (b2 :: (b0 :: (a8 :: []))))))++O) l3 (sF1):=Enc.mv Enc.circle (x:=sF1) i6 l4
 have a0:=a0.keep l5 (by simp)
 have a1:=a1.keep l5 (by simp)
 have a2:=a2.keep l5 (by simp)
 have a3:=a3.keep l5 (by simp)
 have a4:=a4.keep l5 (by simp)
 obtain ⟨v5,v6,rfl,r4,r5⟩:=i6
 have:=r4.len_le
 have:=r5.len_le
 refine BE (AS (vs:=[vI sF1.epoch,vI sF1.threshold,vI sF1.wait,v5,v6]) (.agg #[vI sF1.epoch,vI sF1.threshold,vI sF1.wait,v5,v6]) rfl rfl rfl AV (fun u hu=>by simp only [List.mem_cons,List.not_mem_nil,or_false] at hu;rcases hu with rfl|rfl|rfl|rfl|rfl <;> first|rfl|exact r4.oneCell|exact r5.oneCell) (by repeat (constructor)) z7 oT Q4 fun Q5 v7 o5 l6 b4=>(?_))
 have a5:=a5.mv o5
 have a6:=a6.mv o5
 have d5:=d5.mv o5
 have a7:=a7.mv o5
 have a0:=a0.keep l6 (AM z8)
 have a1:=a1.keep l6 (AM z9)
 have a2:=a2.keep l6 (AM A0)
 have a3:=a3.keep l6 (AM A1)
 have a4:=a4.keep l6 (AM A2)
 refine AA (AG (vI ((AK EG (0:Int) (AN EG (17:Int))).2)) rfl (AE (AC (AF (AB kR (AA (AX (vs:=[vI EG.epoch,vI EG.threshold,vI EG.wait,f8,e8]) U25_ rfl AV rfl a4 rfl (AA (BJ (vs:=[vA #[vI EG.epoch,vI EG.threshold,vI EG.wait,f8,e8],vI 0,vI 3]) HO (GR (O:=(b9 :: (b5 :: (b3 :: (b2 :: (b0 :: (a8 :: []))))))++O) [vI EG.epoch,vI EG.threshold,vI EG.wait,f8,e8] EG (0:Int) (3:Int) Q5 ⟨_,_,rfl,d5,a7⟩ v7.lt) rfl v7 fun Z8 Q6 Q7 q0 j6 Q8=>(?_))))))))))
 obtain ⟨l7,rfl,i7⟩:=Q8
 have i7:Enc.circle.rd Q6 ((b9 :: (b5 :: (b3 :: (b2 :: (b0 :: (a8 :: []))))))++O) l7 sZ:=i7
 have a5:=a5.mv q0
 have a6:=a6.mv q0
 have a7:=a7.mv q0
 have a0:=a0.keep j6 (by simp)
 have a1:=a1.keep j6 (by simp)
 have a2:=a2.keep j6 (by simp)
 have a3:=a3.keep j6 (by simp)
 have a4:=a4.keep j6 (by simp)
 have b4:=b4.keep j6 (by simp)
 refine AA (AD (vT #[vA l7.toArray,vI ((AK EG (0:Int) (AI EG (3:Int))).2)]) rfl (AA (AJ (vA l7.toArray) rfl rfl (AA (AJ (vI ((AK EG (0:Int) (AI EG (3:Int))).2)) rfl rfl (AA (BS [vI 0,vI 0,vI 0,nS,nS] EZ rfl Q7 fun c0 Q9 R0 R1 o6 j7 A3=>(?_))))))))
 have A4:CJ a8 c0:=by show a8≠c0;have:=a0.lt;omega
 have A5:CJ b0 c0:=by show b0≠c0;have:=a1.lt;omega
 have A6:CJ b2 c0:=by show b2≠c0;have:=a2.lt;omega
 have A7:CJ b3 c0:=by show b3≠c0;have:=a3.lt;omega
 have A8:CJ b5 c0:=by show b5≠c0;have:=a4.lt;omega
 have A9:CJ b9 c0:=by show b9≠c0;have:=b4.lt;omega
 clear R0
 have a5:=a5.mv o6
 have a6:=a6.mv o6
 have a7:=a7.mv o6
 have i7:Enc.circle.rd Q9 ((c0 :: (b9 :: (b5 :: (b3 :: (b2 :: (b0 :: (a8 :: [])))))))++O) l7 (sZ):=Enc.mv Enc.circle (x:=sZ) i7 o6
 have a0:=a0.keep j7 (by simp)
 have a1:=a1.keep j7 (by simp)
 have a2:=a2.keep j7 (by simp)
 have a3:=a3.keep j7 (by simp)
 have a4:=a4.keep j7 (by simp)
 have b4:=b4.keep j7 (by simp)
 obtain ⟨e4,d6,rfl,d1,b1⟩:=i7
 have:=d1.len_le
 have:=b1.len_le
 refine BE (AS (vs:=[vI sZ.epoch,vI sZ.threshold,vI sZ.wait,e4,d6]) (.agg #[vI sZ.epoch,vI sZ.threshold,vI sZ.wait,e4,d6]) rfl rfl rfl AV (fun u hu=>by simp only [List.mem_cons,List.not_mem_nil,or_false] at hu;rcases hu with rfl|rfl|rfl|rfl|rfl <;> first|rfl|exact d1.oneCell|exact b1.oneCell) (by repeat (constructor)) A3 oT R1 fun R2 v8 l8 j8 a9=>(?_))
 have a5:=a5.mv l8
 have a6:=a6.mv l8
 have a7:=a7.mv l8
 have d1:=d1.mv l8
 have b1:=b1.mv l8
 have a0:=a0.keep j8 (AM A4)
 have a1:=a1.keep j8 (AM A5)
 have a2:=a2.keep j8 (AM A6)
 have a3:=a3.keep j8 (AM A7)
 have a4:=a4.keep j8 (AM A8)
 have b4:=b4.keep j8 (AM A9)
 refine AA (AG (vI ((AK EG (0:Int) (AI EG (3:Int))).2)) rfl (AE (AC (AF (AB kR (AA (AX (vs:=[vI sZ.epoch,vI sZ.threshold,vI sZ.wait,e4,d6]) U25_ rfl AV rfl a9 rfl (AA (BJ (vs:=[vA #[vI sZ.epoch,vI sZ.threshold,vI sZ.wait,e4,d6],vI 0,vI 16]) IK (IS (O:=(c0 :: (b9 :: (b5 :: (b3 :: (b2 :: (b0 :: (a8 :: [])))))))++O) [vI sZ.epoch,vI sZ.threshold,vI sZ.wait,e4,d6] sZ (0:Int) (16:Int) R2 ⟨_,_,rfl,d1,b1⟩ v8.lt) rfl v8 fun Z9 R3 R4 l9 g7 R5=>(?_))))))))))
 obtain ⟨m0,rfl,i8⟩:=R5
 have i8:Enc.circle.rd R3 ((c0 :: (b9 :: (b5 :: (b3 :: (b2 :: (b0 :: (a8 :: [])))))))++O) m0 sF2:=i8
 have a5:=a5.mv l9
 have a6:=a6.mv l9
 have a7:=a7.mv l9
 have d1:=d1.mv l9
 have b1:=b1.mv l9
 have a0:=a0.keep g7 (by simp)
 have a1:=a1.keep g7 (by simp)
 have a2:=a2.keep g7 (by simp)
 have a3:=a3.keep g7 (by simp)
 have a4:=a4.keep g7 (by simp)
 have b4:=b4.keep g7 (by simp)
 have a9:=a9.keep g7 (by simp)
 refine AA (AD (vT #[vA m0.toArray,vI ((AK sZ (0:Int) (AN sZ (16:Int))).2)]) rfl (AA (AJ (vA m0.toArray) rfl rfl (AA (AJ (vI ((AK sZ (0:Int) (AN sZ (16:Int))).2)) rfl rfl (AA (BS [vI 0,vI 0,vI 0,nS,nS] EZ rfl R4 fun c1 R6 R7 R8 j9 g8 B0=>(?_))))))))
 have B1:CJ a8 c1:=by show a8≠c1;have:=a0.lt;omega
 have B2:CJ b0 c1:=by show b0≠c1;have:=a1.lt;omega
 have B3:CJ b2 c1:=by show b2≠c1;have:=a2.lt;omega
 have B4:CJ b3 c1:=by show b3≠c1;have:=a3.lt;omega
 have B5:CJ b5 c1:=by show b5≠c1;have:=a4.lt;omega
 have B6:CJ b9 c1:=by show b9≠c1;have:=b4.lt;omega
 have B7:CJ c0 c1:=by show c0≠c1;have:=a9.lt;omega
 clear R7
 have a5:=a5.mv j9
 have a6:=a6.mv j9
 have a7:=a7.mv j9
 have d1:=d1.mv j9
 have b1:=b1.mv j9
 have i8:Enc.circle.rd R6 ((c1 :: (c0 :: (b9 :: (b5 :: (b3 :: (b2 :: (b0 :: (a8 :: []))))))))++O) m0 (sF2):=Enc.mv Enc.circle (x:=sF2) i8 j9
 have a0:=a0.keep g8 (by simp)
 have a1:=a1.keep g8 (by simp)
 have a2:=a2.keep g8 (by simp)
 have a3:=a3.keep g8 (by simp)
 have a4:=a4.keep g8 (by simp)
 have b4:=b4.keep g8 (by simp)
 have a9:=a9.keep g8 (by simp)
 obtain ⟨v9,w0,rfl,r6,r7⟩:=i8
 have:=r6.len_le
 have:=r7.len_le
 refine BE (AS (vs:=[vI sF2.epoch,vI sF2.threshold,vI sF2.wait,v9,w0]) (.agg #[vI sF2.epoch,vI sF2.threshold,vI sF2.wait,v9,w0]) rfl rfl rfl AV (fun u hu=>by simp only [List.mem_cons,List.not_mem_nil,or_false] at hu;rcases hu with rfl|rfl|rfl|rfl|rfl <;> first|rfl|exact r6.oneCell|exact r7.oneCell) (by repeat (constructor)) B0 oT R8 fun R9 w1 m1 g9 c3=>(?_))
 have a5:=a5.mv m1
 have a6:=a6.mv m1
 have a7:=a7.mv m1
 have d1:=d1.mv m1
 have b1:=b1.mv m1
 have a0:=a0.keep g9 (AM B1)
 have a1:=a1.keep g9 (AM B2)
 have a2:=a2.keep g9 (AM B3)
 have a3:=a3.keep g9 (AM B4)
 have a4:=a4.keep g9 (AM B5)
 have b4:=b4.keep g9 (AM B6)
 have a9:=a9.keep g9 (AM B7)
 refine AA (AG (vI ((AK sZ (0:Int) (AN sZ (16:Int))).2)) rfl (AE (AC (AF (AB kR (AA (AX (vs:=[vI sZ.epoch,vI sZ.threshold,vI sZ.wait,e4,d6]) U25_ rfl AV rfl a9 rfl (AA (BJ (vs:=[vA #[vI sZ.epoch,vI sZ.threshold,vI sZ.wait,e4,d6],vI 0,vI 17]) IK (IS (O:=(c1 :: (c0 :: (b9 :: (b5 :: (b3 :: (b2 :: (b0 :: (a8 :: []))))))))++O) [vI sZ.epoch,vI sZ.threshold,vI sZ.wait,e4,d6] sZ (0:Int) (17:Int) R9 ⟨_,_,rfl,d1,b1⟩ w1.lt) rfl w1 fun aa S0 S1 m2 f9 S2=>(?_))))))))))
 obtain ⟨m3,rfl,i9⟩:=S2
 have i9:Enc.circle.rd S0 ((c1 :: (c0 :: (b9 :: (b5 :: (b3 :: (b2 :: (b0 :: (a8 :: []))))))))++O) m3 CF:=i9
 have a5:=a5.mv m2
 have a6:=a6.mv m2
 have a7:=a7.mv m2
 have d1:=d1.mv m2
 have b1:=b1.mv m2
 have a0:=a0.keep f9 (by simp)
 have a1:=a1.keep f9 (by simp)
 have a2:=a2.keep f9 (by simp)
 have a3:=a3.keep f9 (by simp)
 have a4:=a4.keep f9 (by simp)
 have b4:=b4.keep f9 (by simp)
 have a9:=a9.keep f9 (by simp)
 have c3:=c3.keep f9 (by simp)
 refine AA (AD (vT #[vA m3.toArray,vI ((AK sZ (0:Int) (AN sZ (17:Int))).2)]) rfl (AA (AJ (vA m3.toArray) rfl rfl (AA (AJ (vI ((AK sZ (0:Int) (AN sZ (17:Int))).2)) rfl rfl (AA (BS [vI 0,vI 0,vI 0,nS,nS] EZ rfl S1 fun c2 S3 S4 S5 k0 g0 B8=>(?_))))))))
 have B9:CJ a8 c2:=by show a8≠c2;have:=a0.lt;omega
 have C0:CJ b0 c2:=by show b0≠c2;have:=a1.lt;omega
 have C1:CJ b2 c2:=by show b2≠c2;have:=a2.lt;omega
 have C2:CJ b3 c2:=by show b3≠c2;have:=a3.lt;omega
 have C3:CJ b5 c2:=by show b5≠c2;have:=a4.lt;omega
 have C4:CJ b9 c2:=by show b9≠c2;have:=b4.lt;omega
 have C5:CJ c0 c2:=by show c0≠c2;have:=a9.lt;omega
 have C6:CJ c1 c2:=by show c1≠c2;have:=c3.lt;omega
 clear S4
 have a5:=a5.mv k0
 have a6:=a6.mv k0
 have a7:=a7.mv k0
 have d1:=d1.mv k0
 have b1:=b1.mv k0
 have i9:Enc.circle.rd S3 ((c2 :: (c1 :: (c0 :: (b9 :: (b5 :: (b3 :: (b2 :: (b0 :: (a8 :: [])))))))))++O) m3 (CF):=Enc.mv Enc.circle (x:=CF) i9 k0
 have a0:=a0.keep g0 (by simp)
 have a1:=a1.keep g0 (by simp)
 have a2:=a2.keep g0 (by simp)
 have a3:=a3.keep g0 (by simp)
 have a4:=a4.keep g0 (by simp)
 have b4:=b4.keep g0 (by simp)
 have a9:=a9.keep g0 (by simp)
 have c3:=c3.keep g0 (by simp)
 obtain ⟨g1,e9,rfl,b8,b7⟩:=i9
 have:=b8.len_le
 have:=b7.len_le
 refine BE (AS (vs:=[vI CF.epoch,vI CF.threshold,vI CF.wait,g1,e9]) (.agg #[vI CF.epoch,vI CF.threshold,vI CF.wait,g1,e9]) rfl rfl rfl AV (fun u hu=>by simp only [List.mem_cons,List.not_mem_nil,or_false] at hu;rcases hu with rfl|rfl|rfl|rfl|rfl <;> first|rfl|exact b8.oneCell|exact b7.oneCell) (by repeat (constructor)) B8 oT S5 fun S6 w2 h0 g2 b6=>(?_))
 have a5:=a5.mv h0
 have a6:=a6.mv h0
 have a7:=a7.mv h0
 have d1:=d1.mv h0
 have b1:=b1.mv h0
 have b8:=b8.mv h0
 have b7:=b7.mv h0
 have a0:=a0.keep g2 (AM B9)
 have a1:=a1.keep g2 (AM C0)
 have a2:=a2.keep g2 (AM C1)
 have a3:=a3.keep g2 (AM C2)
 have a4:=a4.keep g2 (AM C3)
 have b4:=b4.keep g2 (AM C4)
 have a9:=a9.keep g2 (AM C5)
 have c3:=c3.keep g2 (AM C6)
 refine AA (AG (vI ((AK sZ (0:Int) (AN sZ (17:Int))).2)) rfl (AE (AC (AF (AB kR (AA (AX (vs:=[vI CF.epoch,vI CF.threshold,vI CF.wait,g1,e9]) U25_ rfl AV rfl b6 rfl (AA (BJ (vs:=[vA #[vI CF.epoch,vI CF.threshold,vI CF.wait,g1,e9],vI 0,vI 18]) LU (c_veto (O:=(c2 :: (c1 :: (c0 :: (b9 :: (b5 :: (b3 :: (b2 :: (b0 :: (a8 :: [])))))))))++O) [vI CF.epoch,vI CF.threshold,vI CF.wait,g1,e9] CF (0:Int) (18:Int) S6 ⟨_,_,rfl,b8,b7⟩ w2.lt) rfl w2 fun ab S7 S8 h1 f3 S9=>(?_))))))))))
 obtain ⟨m4,rfl,j0⟩:=S9
 have j0:Enc.circle.rd S7 ((c2 :: (c1 :: (c0 :: (b9 :: (b5 :: (b3 :: (b2 :: (b0 :: (a8 :: [])))))))))++O) m4 sF3:=j0
 have a5:=a5.mv h1
 have a6:=a6.mv h1
 have a7:=a7.mv h1
 have d1:=d1.mv h1
 have b1:=b1.mv h1
 have b8:=b8.mv h1
 have b7:=b7.mv h1
 have a0:=a0.keep f3 (by simp)
 have a1:=a1.keep f3 (by simp)
 have a2:=a2.keep f3 (by simp)
 have a3:=a3.keep f3 (by simp)
 have a4:=a4.keep f3 (by simp)
 have b4:=b4.keep f3 (by simp)
 have a9:=a9.keep f3 (by simp)
 have c3:=c3.keep f3 (by simp)
 have b6:=b6.keep f3 (by simp)
 refine AA (AD (vT #[vA m4.toArray,vI ((AK CF (0:Int) (BH (18:Int))).2)]) rfl (AA (AJ (vA m4.toArray) rfl rfl (AA (AJ (vI ((AK CF (0:Int) (BH (18:Int))).2)) rfl rfl (AA (BS [vI 0,vI 0,vI 0,nS,nS] EZ rfl S8 fun c4 T0 T1 T2 g3 f4 C7=>(?_))))))))
 have C8:CJ a8 c4:=by show a8≠c4;have:=a0.lt;omega
 have C9:CJ b0 c4:=by show b0≠c4;have:=a1.lt;omega
 have D0:CJ b2 c4:=by show b2≠c4;have:=a2.lt;omega
 have D1:CJ b3 c4:=by show b3≠c4;have:=a3.lt;omega
 have D2:CJ b5 c4:=by show b5≠c4;have:=a4.lt;omega
 have D3:CJ b9 c4:=by show b9≠c4;have:=b4.lt;omega
 have D4:CJ c0 c4:=by show c0≠c4;have:=a9.lt;omega
 have D5:CJ c1 c4:=by show c1≠c4;have:=c3.lt;omega
 have D6:CJ c2 c4:=by show c2≠c4;have:=b6.lt;omega
 clear T1
 have a5:=a5.mv g3
 have a6:=a6.mv g3
 have a7:=a7.mv g3
 have d1:=d1.mv g3
 have b1:=b1.mv g3
 have b8:=b8.mv g3
 have b7:=b7.mv g3
 have j0:Enc.circle.rd T0 ((c4 :: (c2 :: (c1 :: (c0 :: (b9 :: (b5 :: (b3 :: (b2 :: (b0 :: (a8 :: []))))))))))++O) m4 (sF3):=Enc.mv Enc.circle (x:=sF3) j0 g3
 have a0:=a0.keep f4 (by simp)
 have a1:=a1.keep f4 (by simp)
 have a2:=a2.keep f4 (by simp)
 have a3:=a3.keep f4 (by simp)
 have a4:=a4.keep f4 (by simp)
 have b4:=b4.keep f4 (by simp)
 have a9:=a9.keep f4 (by simp)
 have c3:=c3.keep f4 (by simp)
 have b6:=b6.keep f4 (by simp)
 obtain ⟨w3,w4,rfl,r8,r9⟩:=j0
 have:=r8.len_le
 have:=r9.len_le
 refine BE (AS (vs:=[vI sF3.epoch,vI sF3.threshold,vI sF3.wait,w3,w4]) (.agg #[vI sF3.epoch,vI sF3.threshold,vI sF3.wait,w3,w4]) rfl rfl rfl AV (fun u hu=>by simp only [List.mem_cons,List.not_mem_nil,or_false] at hu;rcases hu with rfl|rfl|rfl|rfl|rfl <;> first|rfl|exact r8.oneCell|exact r9.oneCell) (by repeat (constructor)) C7 oT T2 fun T3 w5 h2 f5 d2=>(?_))
 have a5:=a5.mv h2
 have a6:=a6.mv h2
 have a7:=a7.mv h2
 have d1:=d1.mv h2
 have b1:=b1.mv h2
 have b8:=b8.mv h2
 have b7:=b7.mv h2
 have a0:=a0.keep f5 (AM C8)
 have a1:=a1.keep f5 (AM C9)
 have a2:=a2.keep f5 (AM D0)
 have a3:=a3.keep f5 (AM D1)
 have a4:=a4.keep f5 (AM D2)
 have b4:=b4.keep f5 (AM D3)
 have a9:=a9.keep f5 (AM D4)
 have c3:=c3.keep f5 (AM D5)
 have b6:=b6.keep f5 (AM D6)
 refine AA (AG (vI ((AK CF (0:Int) (BH (18:Int))).2)) rfl (AE (AC (AF (AB kR (AA (AX (vs:=[vI sZ.epoch,vI sZ.threshold,vI sZ.wait,e4,d6]) U25_ rfl AV rfl a9 rfl (AA (BJ (vs:=[vA #[vI sZ.epoch,vI sZ.threshold,vI sZ.wait,e4,d6],vI 0,vI 12]) LU (c_veto (O:=(c4 :: (c2 :: (c1 :: (c0 :: (b9 :: (b5 :: (b3 :: (b2 :: (b0 :: (a8 :: []))))))))))++O) [vI sZ.epoch,vI sZ.threshold,vI sZ.wait,e4,d6] sZ (0:Int) (12:Int) T3 ⟨_,_,rfl,d1,b1⟩ w5.lt) rfl w5 fun ac T4 T5 k1 f0 T6=>(?_))))))))))
 obtain ⟨m5,rfl,j1⟩:=T6
 have j1:Enc.circle.rd T4 ((c4 :: (c2 :: (c1 :: (c0 :: (b9 :: (b5 :: (b3 :: (b2 :: (b0 :: (a8 :: []))))))))))++O) m5 CM:=j1
 have a5:=a5.mv k1
 have a6:=a6.mv k1
 have a7:=a7.mv k1
 have b1:=b1.mv k1
 have b8:=b8.mv k1
 have b7:=b7.mv k1
 have a0:=a0.keep f0 (by simp)
 have a1:=a1.keep f0 (by simp)
 have a2:=a2.keep f0 (by simp)
 have a3:=a3.keep f0 (by simp)
 have a4:=a4.keep f0 (by simp)
 have b4:=b4.keep f0 (by simp)
 have a9:=a9.keep f0 (by simp)
 have c3:=c3.keep f0 (by simp)
 have b6:=b6.keep f0 (by simp)
 have d2:=d2.keep f0 (by simp)
 refine AA (AD (vT #[vA m5.toArray,vI ((AK sZ (0:Int) (BH (12:Int))).2)]) rfl (AA (AJ (vA m5.toArray) rfl rfl (AA (AJ (vI ((AK sZ (0:Int) (BH (12:Int))).2)) rfl rfl (AA (BS [vI 0,vI 0,vI 0,nS,nS] EZ rfl T5 fun c5 T7 T8 T9 h3 f1 D7=>(?_))))))))
 have D8:CJ a8 c5:=by show a8≠c5;have:=a0.lt;omega
 have D9:CJ b0 c5:=by show b0≠c5;have:=a1.lt;omega
 have E0:CJ b2 c5:=by show b2≠c5;have:=a2.lt;omega
 have E1:CJ b3 c5:=by show b3≠c5;have:=a3.lt;omega
 have E2:CJ b5 c5:=by show b5≠c5;have:=a4.lt;omega
 have E3:CJ b9 c5:=by show b9≠c5;have:=b4.lt;omega
 have E4:CJ c0 c5:=by show c0≠c5;have:=a9.lt;omega
 have E5:CJ c1 c5:=by show c1≠c5;have:=c3.lt;omega
 have E6:CJ c2 c5:=by show c2≠c5;have:=b6.lt;omega
 have E7:CJ c4 c5:=by show c4≠c5;have:=d2.lt;omega
 clear T8
 have a5:=a5.mv h3
 have a6:=a6.mv h3
 have a7:=a7.mv h3
 have b1:=b1.mv h3
 have b8:=b8.mv h3
 have b7:=b7.mv h3
 have j1:Enc.circle.rd T7 ((c5 :: (c4 :: (c2 :: (c1 :: (c0 :: (b9 :: (b5 :: (b3 :: (b2 :: (b0 :: (a8 :: [])))))))))))++O) m5 (CM):=Enc.mv Enc.circle (x:=CM) j1 h3
 have a0:=a0.keep f1 (by simp)
 have a1:=a1.keep f1 (by simp)
 have a2:=a2.keep f1 (by simp)
 have a3:=a3.keep f1 (by simp)
 have a4:=a4.keep f1 (by simp)
 have b4:=b4.keep f1 (by simp)
 have a9:=a9.keep f1 (by simp)
 have c3:=c3.keep f1 (by simp)
 have b6:=b6.keep f1 (by simp)
 have d2:=d2.keep f1 (by simp)
 obtain ⟨m6,h4,rfl,j2,c6⟩:=j1
 have:=j2.len_le
 have:=c6.len_le
 refine BE (AS (vs:=[vI CM.epoch,vI CM.threshold,vI CM.wait,m6,h4]) (.agg #[vI CM.epoch,vI CM.threshold,vI CM.wait,m6,h4]) rfl rfl rfl AV (fun u hu=>by simp only [List.mem_cons,List.not_mem_nil,or_false] at hu;rcases hu with rfl|rfl|rfl|rfl|rfl <;> first|rfl|exact j2.oneCell|exact c6.oneCell) (by repeat (constructor)) D7 oT T9 fun U0 w6 g4 f2 c7=>(?_))
 have a5:=a5.mv g4
 have a6:=a6.mv g4
 have a7:=a7.mv g4
 have b1:=b1.mv g4
 have b8:=b8.mv g4
 have b7:=b7.mv g4
 have j2:=j2.mv g4
 have c6:=c6.mv g4
 have a0:=a0.keep f2 (AM D8)
 have a1:=a1.keep f2 (AM D9)
 have a2:=a2.keep f2 (AM E0)
 have a3:=a3.keep f2 (AM E1)
 have a4:=a4.keep f2 (AM E2)
 have b4:=b4.keep f2 (AM E3)
 have a9:=a9.keep f2 (AM E4)
 have c3:=c3.keep f2 (AM E5)
 have b6:=b6.keep f2 (AM E6)
 have d2:=d2.keep f2 (AM E7)
 refine AA (AG (vI ((AK sZ (0:Int) (BH (12:Int))).2)) rfl (AE (AC (AF (AB kR (AA (AX (vs:=[vI CM.epoch,vI CM.threshold,vI CM.wait,m6,h4]) U25_ rfl AV rfl c7 rfl (AA (BJ (vs:=[vA #[vI CM.epoch,vI CM.threshold,vI CM.wait,m6,h4],vI 0,vI 99]) IK (IS (O:=(c5 :: (c4 :: (c2 :: (c1 :: (c0 :: (b9 :: (b5 :: (b3 :: (b2 :: (b0 :: (a8 :: [])))))))))))++O) [vI CM.epoch,vI CM.threshold,vI CM.wait,m6,h4] CM (0:Int) (99:Int) U0 ⟨_,_,rfl,j2,c6⟩ w6.lt) rfl w6 fun ad U1 U2 h5 e5 U3=>(?_))))))))))
 obtain ⟨m7,rfl,j3⟩:=U3
 have j3:Enc.circle.rd U1 ((c5 :: (c4 :: (c2 :: (c1 :: (c0 :: (b9 :: (b5 :: (b3 :: (b2 :: (b0 :: (a8 :: [])))))))))))++O) m7 sF4:=j3
 have a5:=a5.mv h5
 have a6:=a6.mv h5
 have a7:=a7.mv h5
 have b1:=b1.mv h5
 have b8:=b8.mv h5
 have b7:=b7.mv h5
 have c6:=c6.mv h5
 have a0:=a0.keep e5 (by simp)
 have a1:=a1.keep e5 (by simp)
 have a2:=a2.keep e5 (by simp)
 have a3:=a3.keep e5 (by simp)
 have a4:=a4.keep e5 (by simp)
 have b4:=b4.keep e5 (by simp)
 have a9:=a9.keep e5 (by simp)
 have c3:=c3.keep e5 (by simp)
 have b6:=b6.keep e5 (by simp)
 have d2:=d2.keep e5 (by simp)
 have c7:=c7.keep e5 (by simp)
 refine AA (AD (vT #[vA m7.toArray,vI ((AK CM (0:Int) (AN CM (99:Int))).2)]) rfl (AA (AJ (vA m7.toArray) rfl rfl (AA (AJ (vI ((AK CM (0:Int) (AN CM (99:Int))).2)) rfl rfl (AA (BS [vI 0,vI 0,vI 0,nS,nS] EZ rfl U2 fun c8 U4 U5 U6 g5 e6 E8=>(?_))))))))
 have E9:CJ a8 c8:=by show a8≠c8;have:=a0.lt;omega
 have F1:CJ b0 c8:=by show b0≠c8;have:=a1.lt;omega
 have F2:CJ b2 c8:=by show b2≠c8;have:=a2.lt;omega
 have F3:CJ b3 c8:=by show b3≠c8;have:=a3.lt;omega
 have F4:CJ b5 c8:=by show b5≠c8;have:=a4.lt;omega
 have F5:CJ b9 c8:=by show b9≠c8;have:=b4.lt;omega
 have F6:CJ c0 c8:=by show c0≠c8;have:=a9.lt;omega
 have F7:CJ c1 c8:=by show c1≠c8;have:=c3.lt;omega
 have F8:CJ c2 c8:=by show c2≠c8;have:=b6.lt;omega
 have F9:CJ c4 c8:=by show c4≠c8;have:=d2.lt;omega
 have G0:CJ c5 c8:=by show c5≠c8;have:=c7.lt;omega
 clear U5
 have a5:=a5.mv g5
 have a6:=a6.mv g5
 have a7:=a7.mv g5
 have b1:=b1.mv g5
 have b8:=b8.mv g5
 have b7:=b7.mv g5
 have c6:=c6.mv g5
 have j3:Enc.circle.rd U4 ((c8 :: (c5 :: (c4 :: (c2 :: (c1 :: (c0 :: (b9 :: (b5 :: (b3 :: (b2 :: (b0 :: (a8 :: []))))))))))))++O) m7 (sF4):=Enc.mv Enc.circle (x:=sF4) j3 g5
 have a0:=a0.keep e6 (by simp)
 have a1:=a1.keep e6 (by simp)
 have a2:=a2.keep e6 (by simp)
 have a3:=a3.keep e6 (by simp)
 have a4:=a4.keep e6 (by simp)
 have b4:=b4.keep e6 (by simp)
 have a9:=a9.keep e6 (by simp)
 have c3:=c3.keep e6 (by simp)
 have b6:=b6.keep e6 (by simp)
 have d2:=d2.keep e6 (by simp)
 have c7:=c7.keep e6 (by simp)
 obtain ⟨w7,w8,rfl,s1,s2⟩:=j3
 have:=s1.len_le
 have:=s2.len_le
 refine BE (AS (vs:=[vI sF4.epoch,vI sF4.threshold,vI sF4.wait,w7,w8]) (.agg #[vI sF4.epoch,vI sF4.threshold,vI sF4.wait,w7,w8]) rfl rfl rfl AV (fun u hu=>by simp only [List.mem_cons,List.not_mem_nil,or_false] at hu;rcases hu with rfl|rfl|rfl|rfl|rfl <;> first|rfl|exact s1.oneCell|exact s2.oneCell) (by repeat (constructor)) E8 oT U6 fun U7 w9 h6 e7 d8=>(?_))
 have a5:=a5.mv h6
 have a6:=a6.mv h6
 have a7:=a7.mv h6
 have b1:=b1.mv h6
 have b8:=b8.mv h6
 have b7:=b7.mv h6
 have c6:=c6.mv h6
 have a0:=a0.keep e7 (AM E9)
 have a1:=a1.keep e7 (AM F1)
 have a2:=a2.keep e7 (AM F2)
 have a3:=a3.keep e7 (AM F3)
 have a4:=a4.keep e7 (AM F4)
 have b4:=b4.keep e7 (AM F5)
 have a9:=a9.keep e7 (AM F6)
 have c3:=c3.keep e7 (AM F7)
 have b6:=b6.keep e7 (AM F8)
 have d2:=d2.keep e7 (AM F9)
 have c7:=c7.keep e7 (AM G0)
 refine AA (AG (vI ((AK CM (0:Int) (AN CM (99:Int))).2)) rfl (AE (AC (AF (AB kR (AA (AX (vs:=[vI sX.epoch,vI sX.threshold,vI sX.wait,e2,e3]) U25_ rfl AV rfl a3 rfl (AA (BJ (vs:=[vA #[vI sX.epoch,vI sX.threshold,vI sX.wait,e2,e3],vI 0,vI 4]) HO (GR (O:=(c8 :: (c5 :: (c4 :: (c2 :: (c1 :: (c0 :: (b9 :: (b5 :: (b3 :: (b2 :: (b0 :: (a8 :: []))))))))))))++O) [vI sX.epoch,vI sX.threshold,vI sX.wait,e2,e3] sX (0:Int) (4:Int) U7 ⟨_,_,rfl,a5,a6⟩ w9.lt) rfl w9 fun ae U8 U9 h7 d9 V0=>(?_))))))))))
 obtain ⟨m8,rfl,j4⟩:=V0
 have j4:Enc.circle.rd U8 ((c8 :: (c5 :: (c4 :: (c2 :: (c1 :: (c0 :: (b9 :: (b5 :: (b3 :: (b2 :: (b0 :: (a8 :: []))))))))))))++O) m8 sF5:=j4
 have a5:=a5.mv h7
 have a6:=a6.mv h7
 have a7:=a7.mv h7
 have b1:=b1.mv h7
 have b8:=b8.mv h7
 have b7:=b7.mv h7
 have c6:=c6.mv h7
 have a0:=a0.keep d9 (by simp)
 have a1:=a1.keep d9 (by simp)
 have a2:=a2.keep d9 (by simp)
 have a3:=a3.keep d9 (by simp)
 have a4:=a4.keep d9 (by simp)
 have b4:=b4.keep d9 (by simp)
 have a9:=a9.keep d9 (by simp)
 have c3:=c3.keep d9 (by simp)
 have b6:=b6.keep d9 (by simp)
 have d2:=d2.keep d9 (by simp)
 have c7:=c7.keep d9 (by simp)
 have d8:=d8.keep d9 (by simp)
 refine AA (AD (vT #[vA m8.toArray,vI ((AK sX (0:Int) (AI sX (4:Int))).2)]) rfl (AA (AJ (vA m8.toArray) rfl rfl (AA (AJ (vI ((AK sX (0:Int) (AI sX (4:Int))).2)) rfl rfl (AA (BS [vI 0,vI 0,vI 0,nS,nS] EZ rfl U9 fun c9 V1 V2 V3 g6 e0 G1=>(?_))))))))
 have G2:CJ a8 c9:=by show a8≠c9;have:=a0.lt;omega
 have G3:CJ b0 c9:=by show b0≠c9;have:=a1.lt;omega
 have G4:CJ b2 c9:=by show b2≠c9;have:=a2.lt;omega
 have G5:CJ b3 c9:=by show b3≠c9;have:=a3.lt;omega
 have G6:CJ b5 c9:=by show b5≠c9;have:=a4.lt;omega
 have G7:CJ b9 c9:=by show b9≠c9;have:=b4.lt;omega
 have G8:CJ c0 c9:=by show c0≠c9;have:=a9.lt;omega
 have G9:CJ c1 c9:=by show c1≠c9;have:=c3.lt;omega
 have H0:CJ c2 c9:=by show c2≠c9;have:=b6.lt;omega
 have H1:CJ c4 c9:=by show c4≠c9;have:=d2.lt;omega
 have H2:CJ c5 c9:=by show c5≠c9;have:=c7.lt;omega
 have H3:CJ c8 c9:=by show c8≠c9;have:=d8.lt;omega
 clear V2
 have a5:=a5.mv g6
 have a6:=a6.mv g6
 have a7:=a7.mv g6
 have b1:=b1.mv g6
 have b8:=b8.mv g6
 have b7:=b7.mv g6
 have c6:=c6.mv g6
 have j4:Enc.circle.rd V1 ((c9 :: (c8 :: (c5 :: (c4 :: (c2 :: (c1 :: (c0 :: (b9 :: (b5 :: (b3 :: (b2 :: (b0 :: (a8 :: [])))))))))))))++O) m8 (sF5):=Enc.mv Enc.circle (x:=sF5) j4 g6
 have a0:=a0.keep e0 (by simp)
 have a1:=a1.keep e0 (by simp)
 have a2:=a2.keep e0 (by simp)
 have a3:=a3.keep e0 (by simp)
 have a4:=a4.keep e0 (by simp)
 have b4:=b4.keep e0 (by simp)
 have a9:=a9.keep e0 (by simp)
 have c3:=c3.keep e0 (by simp)
 have b6:=b6.keep e0 (by simp)
 have d2:=d2.keep e0 (by simp)
 have c7:=c7.keep e0 (by simp)
 have d8:=d8.keep e0 (by simp)
 obtain ⟨x0,x1,rfl,s3,s4⟩:=j4
 have:=s3.len_le
 have:=s4.len_le
 refine BE (AS (vs:=[vI sF5.epoch,vI sF5.threshold,vI sF5.wait,x0,x1]) (.agg #[vI sF5.epoch,vI sF5.threshold,vI sF5.wait,x0,x1]) rfl rfl rfl AV (fun u hu=>by simp only [List.mem_cons,List.not_mem_nil,or_false] at hu;rcases hu with rfl|rfl|rfl|rfl|rfl <;> first|rfl|exact s3.oneCell|exact s4.oneCell) (by repeat (constructor)) G1 oT V3 fun V4 x2 h8 e1 p3=>(?_))
 have a5:=a5.mv h8
 have a6:=a6.mv h8
 have a7:=a7.mv h8
 have b1:=b1.mv h8
 have b8:=b8.mv h8
 have b7:=b7.mv h8
 have c6:=c6.mv h8
 have a0:=a0.keep e1 (AM G2)
 have a1:=a1.keep e1 (AM G3)
 have a2:=a2.keep e1 (AM G4)
 have a3:=a3.keep e1 (AM G5)
 have a4:=a4.keep e1 (AM G6)
 have b4:=b4.keep e1 (AM G7)
 have a9:=a9.keep e1 (AM G8)
 have c3:=c3.keep e1 (AM G9)
 have b6:=b6.keep e1 (AM H0)
 have d2:=d2.keep e1 (AM H1)
 have c7:=c7.keep e1 (AM H2)
 have d8:=d8.keep e1 (AM H3)
 refine AA (AG (vI ((AK sX (0:Int) (AI sX (4:Int))).2)) rfl (AE (AC (AF (AB kR (AA (AX (vs:=[vI sX.epoch,vI sX.threshold,vI sX.wait,e2,e3]) U25_ rfl AV rfl a3 rfl (AA (BJ (vs:=[vA #[vI sX.epoch,vI sX.threshold,vI sX.wait,e2,e3],vI 11]) LQ (c_ask (O:=(c9 :: (c8 :: (c5 :: (c4 :: (c2 :: (c1 :: (c0 :: (b9 :: (b5 :: (b3 :: (b2 :: (b0 :: (a8 :: [])))))))))))))++O) [vI sX.epoch,vI sX.threshold,vI sX.wait,e2,e3] sX (11:Int) V4 ⟨_,_,rfl,a5,a6⟩ x2.lt) rfl x2 fun af V5 V6 m9 d7 V7=>(?_))))))))))
 obtain ⟨n2,rfl,j5⟩:=V7
 have j5:Enc.circle.rd V5 ((c9 :: (c8 :: (c5 :: (c4 :: (c2 :: (c1 :: (c0 :: (b9 :: (b5 :: (b3 :: (b2 :: (b0 :: (a8 :: [])))))))))))))++O) n2 sF6:=j5
 have a7:=a7.mv m9
 have b1:=b1.mv m9
 have b8:=b8.mv m9
 have b7:=b7.mv m9
 have c6:=c6.mv m9
 have a0:=a0.keep d7 (by simp)
 have a1:=a1.keep d7 (by simp)
 have a2:=a2.keep d7 (by simp)
 have a3:=a3.keep d7 (by simp)
 have a4:=a4.keep d7 (by simp)
 have b4:=b4.keep d7 (by simp)
 have a9:=a9.keep d7 (by simp)
 have c3:=c3.keep d7 (by simp)
 have b6:=b6.keep d7 (by simp)
 have d2:=d2.keep d7 (by simp)
 have c7:=c7.keep d7 (by simp)
 have d8:=d8.keep d7 (by simp)
 have p3:=p3.keep d7 (by simp)
 refine AA (AD (vT #[vA n2.toArray,vI ((BN sX (11:Int)).2.1),vI ((BN sX (11:Int)).2.2)]) rfl (AA (AJ (vA n2.toArray) rfl rfl (AA (AJ (vI ((BN sX (11:Int)).2.1)) rfl rfl (AA (AJ (vI ((BN sX (11:Int)).2.2)) rfl rfl (AA (BS [vI 0,vI 0,vI 0,nS,nS] EZ rfl V6 fun d0 V8 V9 W0 k2 o7 H4=>(?_))))))))))
 have X3:CJ a8 d0:=by show a8≠d0;have:=a0.lt;omega
 have X4:CJ b0 d0:=by show b0≠d0;have:=a1.lt;omega
 have X5:CJ b2 d0:=by show b2≠d0;have:=a2.lt;omega
 have X6:CJ b3 d0:=by show b3≠d0;have:=a3.lt;omega
 have H5:CJ b5 d0:=by show b5≠d0;have:=a4.lt;omega
 have X7:CJ b9 d0:=by show b9≠d0;have:=b4.lt;omega
 have H6:CJ c0 d0:=by show c0≠d0;have:=a9.lt;omega
 have X8:CJ c1 d0:=by show c1≠d0;have:=c3.lt;omega
 have H7:CJ c2 d0:=by show c2≠d0;have:=b6.lt;omega
 have X9:CJ c4 d0:=by show c4≠d0;have:=d2.lt;omega
 have H8:CJ c5 d0:=by show c5≠d0;have:=c7.lt;omega
 have Y0:CJ c8 d0:=by show c8≠d0;have:=d8.lt;omega
 have Y1:CJ c9 d0:=by show c9≠d0;have:=p3.lt;omega
 clear V9
 have a7:=a7.mv k2
 have b1:=b1.mv k2
 have b8:=b8.mv k2
 have b7:=b7.mv k2
 have c6:=c6.mv k2
 have j5:Enc.circle.rd V8 ((d0 :: (c9 :: (c8 :: (c5 :: (c4 :: (c2 :: (c1 :: (c0 :: (b9 :: (b5 :: (b3 :: (b2 :: (b0 :: (a8 :: []))))))))))))))++O) n2 (sF6):=Enc.mv Enc.circle (x:=sF6) j5 k2
 have a4:=a4.keep o7 (by simp)
 have a9:=a9.keep o7 (by simp)
 have b6:=b6.keep o7 (by simp)
 have c7:=c7.keep o7 (by simp)
 obtain ⟨x3,x4,rfl,s5,s6⟩:=j5
 have:=s5.len_le
 have:=s6.len_le
 refine BE (AS (vs:=[vI sF6.epoch,vI sF6.threshold,vI sF6.wait,x3,x4]) (.agg #[vI sF6.epoch,vI sF6.threshold,vI sF6.wait,x3,x4]) rfl rfl rfl AV (fun u hu=>by simp only [List.mem_cons,List.not_mem_nil,or_false] at hu;rcases hu with rfl|rfl|rfl|rfl|rfl <;> first|rfl|exact s5.oneCell|exact s6.oneCell) (by repeat (constructor)) H4 oT W0 fun ag W1 n3 o8 Y2=>(?_))
 have a7:=a7.mv n3
 have b1:=b1.mv n3
 have b8:=b8.mv n3
 have b7:=b7.mv n3
 have c6:=c6.mv n3
 have a4:=a4.keep o8 (AM H5)
 have a9:=a9.keep o8 (AM H6)
 have b6:=b6.keep o8 (AM H7)
 have c7:=c7.keep o8 (AM H8)
 refine AA (AG (vI ((BN sX (11:Int)).2.1)) rfl (AA (AG (vI ((BN sX (11:Int)).2.2)) rfl (AE (AC (AF (AB kR (AA (AD (vI ((CQ ([(3:Int),(5:Int),(8:Int)]) (2:Int) (7:Int)).2)) rfl (AA (CS .i64 ((CQ ([(3:Int),(5:Int),(8:Int)]) (2:Int) (7:Int)).2) (0:Int) rfl rfl (AA (AD (vO (((CQ ([(3:Int),(5:Int),(8:Int)]) (2:Int) (7:Int)).2) == (0:Int))) rfl (?_))))))))))))))
 have H9:(((CQ ([(3:Int),(5:Int),(8:Int)]) (2:Int) (7:Int)).2) == (0:Int))=true:=(by decide +kernel)
 rw [H9]
 refine AQ rfl (AD (vI ((CQ ([(3:Int),(5:Int)]) (3:Int) (7:Int)).2)) rfl (AQ rfl (CS .i64 ((CQ ([(3:Int),(5:Int)]) (3:Int) (7:Int)).2) (450:Int) rfl rfl (AA (AY (vO (((CQ ([(3:Int),(5:Int)]) (3:Int) (7:Int)).2) == (450:Int))) rfl rfl (AA (AD (vO (((CQ ([(3:Int),(5:Int)]) (3:Int) (7:Int)).2) == (450:Int))) rfl (?_))))))))
 have I0:(((CQ ([(3:Int),(5:Int)]) (3:Int) (7:Int)).2) == (450:Int))=true:=(by decide +kernel)
 rw [I0]
 refine AQ rfl (AD (vI ((AK sC (0:Int) (AI sC (3:Int))).2)) rfl (AQ rfl (CS .i64 ((AK sC (0:Int) (AI sC (3:Int))).2) (1:Int) rfl rfl (AA (AY (vO (((AK sC (0:Int) (AI sC (3:Int))).2) == (1:Int))) rfl rfl (AA (AD (vO (((AK sC (0:Int) (AI sC (3:Int))).2) == (1:Int))) rfl (?_))))))))
 have I1:(((AK sC (0:Int) (AI sC (3:Int))).2) == (1:Int))=true:=(by decide +kernel)
 rw [I1]
 refine AQ rfl (AD (vI ((BN sC (10:Int)).2.2)) rfl (AQ rfl (CS .i64 ((BN sC (10:Int)).2.2) (0:Int) rfl rfl (AA (AY (vO (((BN sC (10:Int)).2.2) == (0:Int))) rfl rfl (AA (AD (vO (((BN sC (10:Int)).2.2) == (0:Int))) rfl (?_))))))))
 have I2:(((BN sC (10:Int)).2.2) == (0:Int))=true:=(by decide +kernel)
 rw [I2]
 refine AQ rfl (AD (vI ((AK sX (0:Int) (AI sX (5:Int))).2)) rfl (AQ rfl (CS .i64 ((AK sX (0:Int) (AI sX (5:Int))).2) (0:Int) rfl rfl (AA (AY (vO (((AK sX (0:Int) (AI sX (5:Int))).2) == (0:Int))) rfl rfl (AA (AD (vO (((AK sX (0:Int) (AI sX (5:Int))).2) == (0:Int))) rfl (?_))))))))
 have I3:(((AK sX (0:Int) (AI sX (5:Int))).2) == (0:Int))=true:=(by decide +kernel)
 rw [I3]
 refine AQ rfl (AD (vI ((AK sY (0:Int) (AI sY (5:Int))).2)) rfl (AQ rfl (CS .i64 ((AK sY (0:Int) (AI sY (5:Int))).2) (0:Int) rfl rfl (AA (AY (vO (((AK sY (0:Int) (AI sY (5:Int))).2) == (0:Int))) rfl rfl (AA (AD (vO (((AK sY (0:Int) (AI sY (5:Int))).2) == (0:Int))) rfl (?_))))))))
 have I4:(((AK sY (0:Int) (AI sY (5:Int))).2) == (0:Int))=true:=(by decide +kernel)
 rw [I4]
 refine AQ rfl (AD (vI ((AK EG (0:Int) (AN EG (17:Int))).2)) rfl (AQ rfl (CS .i64 ((AK EG (0:Int) (AN EG (17:Int))).2) (450:Int) rfl rfl (AA (AY (vO (((AK EG (0:Int) (AN EG (17:Int))).2) == (450:Int))) rfl rfl (AA (AD (vO (((AK EG (0:Int) (AN EG (17:Int))).2) == (450:Int))) rfl (?_))))))))
 have I5:(((AK EG (0:Int) (AN EG (17:Int))).2) == (450:Int))=true:=(by decide +kernel)
 rw [I5]
 refine AQ rfl (AD (vI ((AK EG (0:Int) (AI EG (3:Int))).2)) rfl (AQ rfl (CS .i64 ((AK EG (0:Int) (AI EG (3:Int))).2) (0:Int) rfl rfl (AA (AY (vO (((AK EG (0:Int) (AI EG (3:Int))).2) == (0:Int))) rfl rfl (AA (AD (vO (((AK EG (0:Int) (AI EG (3:Int))).2) == (0:Int))) rfl (?_))))))))
 have I6:(((AK EG (0:Int) (AI EG (3:Int))).2) == (0:Int))=true:=(by decide +kernel)
 rw [I6]
 refine AQ rfl (AD (vI ((AK sZ (0:Int) (AN sZ (16:Int))).2)) rfl (AQ rfl (CS .i64 ((AK sZ (0:Int) (AN sZ (16:Int))).2) (451:Int) rfl rfl (AA (AY (vO (((AK sZ (0:Int) (AN sZ (16:Int))).2) == (451:Int))) rfl rfl (AA (AD (vO (((AK sZ (0:Int) (AN sZ (16:Int))).2) == (451:Int))) rfl (?_))))))))
 have I7:(((AK sZ (0:Int) (AN sZ (16:Int))).2) == (451:Int))=true:=(by decide +kernel)
 rw [I7]
 refine AQ rfl (AD (vI ((AK sZ (0:Int) (AN sZ (17:Int))).2)) rfl (AQ rfl (CS .i64 ((AK sZ (0:Int) (AN sZ (17:Int))).2) (0:Int) rfl rfl (AA (AY (vO (((AK sZ (0:Int) (AN sZ (17:Int))).2) == (0:Int))) rfl rfl (AA (AD (vO (((AK sZ (0:Int) (AN sZ (17:Int))).2) == (0:Int))) rfl (?_))))))))
 have I8:(((AK sZ (0:Int) (AN sZ (17:Int))).2) == (0:Int))=true:=(by decide +kernel)
 rw [I8]
 refine AQ rfl (AD (vI ((AK CF (0:Int) (BH (18:Int))).2)) rfl (AQ rfl (CS .i64 ((AK CF (0:Int) (BH (18:Int))).2) (1:Int) rfl rfl (AA (AY (vO (((AK CF (0:Int) (BH (18:Int))).2) == (1:Int))) rfl rfl (AA (AD (vO (((AK CF (0:Int) (BH (18:Int))).2) == (1:Int))) rfl (?_))))))))
 have I9:(((AK CF (0:Int) (BH (18:Int))).2) == (1:Int))=true:=(by decide +kernel)
 rw [I9]
 refine AQ rfl (AD (vI ((AK sZ (0:Int) (BH (12:Int))).2)) rfl (AQ rfl (CS .i64 ((AK sZ (0:Int) (BH (12:Int))).2) (0:Int) rfl rfl (AA (AY (vO (((AK sZ (0:Int) (BH (12:Int))).2) == (0:Int))) rfl rfl (AA (AD (vO (((AK sZ (0:Int) (BH (12:Int))).2) == (0:Int))) rfl (?_))))))))
 have J0:(((AK sZ (0:Int) (BH (12:Int))).2) == (0:Int))=true:=(by decide +kernel)
 rw [J0]
 refine AQ rfl (AD (vI ((AK CM (0:Int) (AN CM (99:Int))).2)) rfl (AQ rfl (CS .i64 ((AK CM (0:Int) (AN CM (99:Int))).2) (452:Int) rfl rfl (AA (AY (vO (((AK CM (0:Int) (AN CM (99:Int))).2) == (452:Int))) rfl rfl (AA (AD (vO (((AK CM (0:Int) (AN CM (99:Int))).2) == (452:Int))) rfl (?_))))))))
 have J1:(((AK CM (0:Int) (AN CM (99:Int))).2) == (452:Int))=true:=(by decide +kernel)
 rw [J1]
 refine AQ rfl (AD (vI ((AK sX (0:Int) (AI sX (4:Int))).2)) rfl (AQ rfl (CS .i64 ((AK sX (0:Int) (AI sX (4:Int))).2) (450:Int) rfl rfl (AA (AY (vO (((AK sX (0:Int) (AI sX (4:Int))).2) == (450:Int))) rfl rfl (AA (AD (vO (((AK sX (0:Int) (AI sX (4:Int))).2) == (450:Int))) rfl (?_))))))))
 have J2:(((AK sX (0:Int) (AI sX (4:Int))).2) == (450:Int))=true:=(by decide +kernel)
 rw [J2]
 refine AQ rfl (AD (vI ((BN sX (11:Int)).2.2)) rfl (AQ rfl (CS .i64 ((BN sX (11:Int)).2.2) (451:Int) rfl rfl (AA (AY (vO (((BN sX (11:Int)).2.2) == (451:Int))) rfl rfl (AA (AG (vO (((BN sX (11:Int)).2.2) == (451:Int))) rfl (AE (AC (AF (AF (AB kR (AA (AD (vO (((BN sX (11:Int)).2.2) == (451:Int))) rfl (AA (EI (((BN sX (11:Int)).2.2) == (451:Int)) rfl (AA (AD (vO (!(((BN sX (11:Int)).2.2) == (451:Int)))) rfl (?_)))))))))))))))))))
 have J3:(!(((BN sX (11:Int)).2.2) == (451:Int)))=false:=(by rw [show (((BN sX (11:Int)).2.2) == (451:Int))=true from (by decide +kernel)];rfl)
 rw [J3]
 refine AQ rfl (AO 4 BR rfl (AQ rfl (AR U23_ rfl (e8) rfl a4 rfl (AQ rfl (CO U23_ rfl a7 (AQ rfl (DS .i64 (EG.recs.length:Int) (1:Int) rfl rfl (AA (BM (vO ((EG.recs.length:Int) != (1:Int))) rfl rfl (AA (AD (vO ((EG.recs.length:Int) != (1:Int))) rfl (?_))))))))))))
 have J4:((EG.recs.length:Int) != (1:Int))=false:=(by decide +kernel)
 rw [J4]
 refine AQ rfl (AO 4 BR rfl (AQ rfl (AR U23_ rfl (d6) rfl a9 rfl (AQ rfl (CO U23_ rfl b1 (AQ rfl (DS .i64 (sZ.recs.length:Int) (1:Int) rfl rfl (AA (BM (vO ((sZ.recs.length:Int) != (1:Int))) rfl rfl (AA (AD (vO ((sZ.recs.length:Int) != (1:Int))) rfl (?_))))))))))))
 have J5:((sZ.recs.length:Int) != (1:Int))=false:=(by decide +kernel)
 rw [J5]
 refine AQ rfl (AO 4 BR rfl (AQ rfl (AR U23_ rfl (e9) rfl b6 rfl (AQ rfl (CO U23_ rfl b7 (AQ rfl (DS .i64 (CF.recs.length:Int) (1:Int) rfl rfl (AA (BM (vO ((CF.recs.length:Int) != (1:Int))) rfl rfl (AA (AD (vO ((CF.recs.length:Int) != (1:Int))) rfl (?_))))))))))))
 have J6:((CF.recs.length:Int) != (1:Int))=false:=(by decide +kernel)
 rw [J6]
 refine AQ rfl (AO 4 BR rfl (AQ rfl (AR U23_ rfl (h4) rfl c7 rfl (AQ rfl (CO U23_ rfl c6 (AQ rfl (DS .i64 (CM.recs.length:Int) (1:Int) rfl rfl (AA (BM (vO ((CM.recs.length:Int) != (1:Int))) rfl rfl (AE (AC (?_))))))))))))
 have J7:((CM.recs.length:Int) != (1:Int))=false:=(by decide +kernel)
 rw [J7]
 refine AP false rfl rfl (fun h=>by cases h) (fun _=>AZ (AC (AF (AB kR (AA (AD (vI ((BN sC (10:Int)).2.1)) rfl (AA (CS .i64 ((BN sC (10:Int)).2.1) (0:Int) rfl rfl (AA (AD (vO (((BN sC (10:Int)).2.1) == (0:Int))) rfl (?_)))))))))))
 have J8:(((BN sC (10:Int)).2.1) == (0:Int))=true:=(by decide +kernel)
 rw [J8]
 refine AQ rfl (AO 4 BR rfl (AQ rfl (AR U23_ rfl (e8) rfl a4 rfl (AQ rfl (DV U23_ DC .i64 (0:Int) 0 rfl rfl rfl a7 (by decide +kernel) fun ah J9=>(AQ rfl (BG 3 HF ((EG.recs[0]!).approved) rfl J9 (fun _ _ _ h=>EW h) fun ai K0=>(AQ rfl (CD U22_ rfl rfl K0 fun x5 n4=>(?_))))))))))
 have:=n4.len_le
 refine AQ rfl (IL (E:=Enc.int) (xs:=[.const (vI 5)]) U22_ IA z_3 (by decide) [vI 5] [[vI 5]] [(5:Int)] rfl rfl rfl (Parts.cons rfl rfl (Parts.nil _ _ _)) oT W1 fun x6 W2 x7 n5 q1 s7=>(?_))
 have b1:=b1.mv n5
 have b8:=b8.mv n5
 have b7:=b7.mv n5
 have c6:=c6.mv n5
 have n4:=n4.mv n5
 have a9:=a9.keep q1 (by simp)
 have b6:=b6.keep q1 (by simp)
 have c7:=c7.keep q1 (by simp)
 have:=s7.len_le
 refine AQ rfl (BJ (vs:=[x5,x6]) enter_28 (c_sameI (O:=(d0 :: (c9 :: (c8 :: (c5 :: (c4 :: (c2 :: (c1 :: (c0 :: (b9 :: (b5 :: (b3 :: (b2 :: (b0 :: (a8 :: []))))))))))))))++O) x5 ((EG.recs[0]!).approved) x6 ([(5:Int)]) W2 n4 s7 x7.lt) rfl x7 fun aj ak W3 o9 q2 W4=>(?_))
 obtain rfl:=W4
 have b1:=b1.mv o9
 have b8:=b8.mv o9
 have b7:=b7.mv o9
 have c6:=c6.mv o9
 have a9:=a9.keep q2 (by simp)
 have b6:=b6.keep q2 (by simp)
 have c7:=c7.keep q2 (by simp)
 refine AA (AY (vO (FS ((EG.recs[0]!).approved) ([(5:Int)]))) rfl rfl (AA (AD (vO (FS ((EG.recs[0]!).approved) ([(5:Int)]))) rfl (?_))))
 have K1:(FS ((EG.recs[0]!).approved) ([(5:Int)]))=true:=(by decide +kernel)
 rw [K1]
 refine AQ rfl (AO 4 BR rfl (AQ rfl (AR U23_ rfl (d6) rfl a9 rfl (AQ rfl (DV U23_ DC .i64 (0:Int) 0 rfl rfl rfl b1 (by decide +kernel) fun al K2=>(AQ rfl (BG 3 HF ((sZ.recs[0]!).approved) rfl K2 (fun _ _ _ h=>EW h) fun am K3=>(AQ rfl (CD U22_ rfl rfl K3 fun x8 n6=>(?_))))))))))
 have:=n6.len_le
 refine AQ rfl (IL (E:=Enc.int) (xs:=[.const (vI 3), .const (vI 5)]) U22_ IA z_3 (by decide) [vI 3,vI 5] [[vI 3],[vI 5]] [(3:Int),(5:Int)] rfl rfl rfl (Parts.cons rfl rfl (Parts.cons rfl rfl (Parts.nil _ _ _))) oT W3 fun x9 W5 y0 p0 y1 s8=>(?_))
 have b8:=b8.mv p0
 have b7:=b7.mv p0
 have c6:=c6.mv p0
 have n6:=n6.mv p0
 have b6:=b6.keep y1 (by simp)
 have c7:=c7.keep y1 (by simp)
 have:=s8.len_le
 refine AQ rfl (BJ (vs:=[x8,x9]) enter_28 (c_sameI (O:=(d0 :: (c9 :: (c8 :: (c5 :: (c4 :: (c2 :: (c1 :: (c0 :: (b9 :: (b5 :: (b3 :: (b2 :: (b0 :: (a8 :: []))))))))))))))++O) x8 ((sZ.recs[0]!).approved) x9 ([(3:Int),(5:Int)]) W5 n6 s8 y0.lt) rfl y0 fun an W6 y2 q3 y3 W7=>(?_))
 obtain rfl:=W7
 have b8:=b8.mv q3
 have b7:=b7.mv q3
 have c6:=c6.mv q3
 have b6:=b6.keep y3 (by simp)
 have c7:=c7.keep y3 (by simp)
 refine AA (AY (vO (FS ((sZ.recs[0]!).approved) ([(3:Int),(5:Int)]))) rfl rfl (AA (AD (vO (FS ((sZ.recs[0]!).approved) ([(3:Int),(5:Int)]))) rfl (?_))))
 have K4:(FS ((sZ.recs[0]!).approved) ([(3:Int),(5:Int)]))=true:=(by decide +kernel)
 rw [K4]
 refine AQ rfl (AO 4 BR rfl (AQ rfl (AR U23_ rfl (e9) rfl b6 rfl (AQ rfl (DV U23_ DC .i64 (0:Int) 0 rfl rfl rfl b7 (by decide +kernel) fun ao K5=>(AQ rfl (BG 2 EM ((CF.recs[0]!).state) rfl K5 (fun _ _ _ h=>EC h) fun aq K6=>(AQ rfl (BW U3_ rfl rfl K6 (AQ rfl (CS .i64 ((CF.recs[0]!).state) (1:Int) rfl rfl (AA (AY (vO (((CF.recs[0]!).state) == (1:Int))) rfl rfl (AA (AD (vO (((CF.recs[0]!).state) == (1:Int))) rfl (?_))))))))))))))))
 have K7:(((CF.recs[0]!).state) == (1:Int))=true:=(by decide +kernel)
 rw [K7]
 refine AQ rfl (AO 4 BR rfl (AQ rfl (AR U23_ rfl (h4) rfl c7 rfl (AQ rfl (DV U23_ DC .i64 (0:Int) 0 rfl rfl rfl c6 (by decide +kernel) fun ar K8=>(AQ rfl (BG 2 EM ((CM.recs[0]!).state) rfl K8 (fun _ _ _ h=>EC h) fun au K9=>(AQ rfl (BW U3_ rfl rfl K9 (AQ rfl (CS .i64 ((CM.recs[0]!).state) (2:Int) rfl rfl (AA (AY (vO (((CM.recs[0]!).state) == (2:Int))) rfl rfl (AA (AD (vO (((CM.recs[0]!).state) == (2:Int))) rfl (?_))))))))))))))))
 have L0:(((CM.recs[0]!).state) == (2:Int))=true:=(by decide +kernel)
 rw [L0]
 refine AQ rfl (CR (l:=[]) NC EZ rfl [] [vI 0,vI 0,vI 0,nS,nS] rfl rfl (AQ rfl (BJ (vs:=[vA #[vI 0,vI 0,vI 0,nS,nS]]) ET (GB (O:=(d0 :: (c9 :: (c8 :: (c5 :: (c4 :: (c2 :: (c1 :: (c0 :: (b9 :: (b5 :: (b3 :: (b2 :: (b0 :: (a8 :: []))))))))))))))++O) [vI 0,vI 0,vI 0,nS,nS] (⟨(0:Int),(0:Int),(0:Int),[],[]⟩:Circle) W6 ⟨.slice none 0 0, .slice none 0 0,rfl,(BV.nil _ _ _),(BV.nil _ _ _)⟩ y2.lt) rfl y2 fun av W8 y4 y5 W9 X0=>(?_))))
 obtain rfl:=X0
 have b8:=b8.mv y5
 have b7:=b7.mv y5
 have b6:=b6.keep W9 (by simp)
 refine AQ rfl (CS .i64 (AL (⟨(0:Int),(0:Int),(0:Int),[],[]⟩:Circle)) (450:Int) rfl rfl (AA (AY (vO ((AL (⟨(0:Int),(0:Int),(0:Int),[],[]⟩:Circle)) == (450:Int))) rfl rfl (AA (AD (vO ((AL (⟨(0:Int),(0:Int),(0:Int),[],[]⟩:Circle)) == (450:Int))) rfl (?_))))))
 have L1:((AL (⟨(0:Int),(0:Int),(0:Int),[],[]⟩:Circle)) == (450:Int))=true:=(by decide +kernel)
 rw [L1]
 refine AQ rfl (AX (vs:=[vI CF.epoch,vI CF.threshold,vI CF.wait,g1,e9]) U25_ rfl AV rfl b6 rfl (AQ rfl (BJ (vs:=[vA #[vI CF.epoch,vI CF.threshold,vI CF.wait,g1,e9]]) ET (GB (O:=(d0 :: (c9 :: (c8 :: (c5 :: (c4 :: (c2 :: (c1 :: (c0 :: (b9 :: (b5 :: (b3 :: (b2 :: (b0 :: (a8 :: []))))))))))))))++O) [vI CF.epoch,vI CF.threshold,vI CF.wait,g1,e9] CF W8 ⟨_,_,rfl,b8,b7⟩ y4.lt) rfl y4 fun aw ax X1 ay az X2=>(?_))))
 obtain rfl:=X2
 refine AQ rfl (CS .i64 (AL CF) (0:Int) rfl rfl (AA (AY (vO ((AL CF) == (0:Int))) rfl rfl (AA (AG (vO ((AL CF) == (0:Int))) rfl (AE (AC (AT (BF rfl (CU rfl rfl rfl) (?_))))))))))
 have e:true=((AL CF) == (0:Int)):=rfl
 exact ⟨_,rfl,X1.keep,(by exact congrArg vO e.symm)⟩
open Go.Fw Go.RowKit
set_option maxHeartbeats 4000000 in
set_option maxRecDepth 100000 in
theorem c_has {O:List Nat} (l_v:Value) (l:List Int) (n:Int) (w:World) (a2:BV Enc.int w O l_v l) (hO:∀ b∈O,b<w.heap.size):DA Try.prog 25 [l_v,vI n] w (fun v _=>v = .bool (l.contains n)):= by
 have a8:=a2.len_le
 have a2:BV Enc.int w ([]++O) l_v l:=a2
 have s0:St w O w []:=St.start hO
 refine CA 18 Try.func25 rfl rfl oT (fun F0=>AF (AB kR (AA (AG (vO false) rfl (AE (AC (AF (AF (AB kR (AA (AG (vI 0) rfl (AE (AC (BX (FH (fun mI FI wI=>∃ (k:Nat),k≤l.length∧(∀ q,q<k→l[q]!≠n)∧mI=l.length - k∧(∃ F1,FI=II F1 [(0,l_v),(1,vI n),(5,vI ((k:Nat):Int)),(18,undef)])∧w=wI) (l.length - (0)) ?_ ?_)))))))))))))))
 ·exact ⟨(0),oM,(fun q hq=>by omega),rfl,⟨_,BL _ ⟨rfl,rfl,(by rfl),rfl,trivial⟩⟩,rfl⟩
 rintro b0 F b1 ⟨k,hr0_0,hr0_1,b2,⟨b3,rfl⟩,rfl⟩
 refine AF (AF (AB kR (AA (AD (vI ((k:Nat):Int)) rfl (AA (AD (l_v) rfl (AA (CO U22_ rfl a2 (AA (DU .i64 ((k:Nat):Int) (l.length:Int) rfl rfl (AE (AC (AP (decide (((k:Nat):Int)<(l.length:Int))) rfl rfl (fun a0=>?_) (fun a0=>?_))))))))))))))
 ·have a4:((k:Nat):Int)<(l.length:Int):=by simpa using a0
  refine AZ (AC (AF (BX (AF (AB kR (AA (AD (l_v) rfl (AA (AD (vI ((k:Nat):Int)) rfl (AA (DV U22_ IA .i64 ((k:Nat):Int) k rfl rfl rfl a2 oM fun a9 a3=>(AA (BW U3_ rfl rfl a3 (AA (AD (vI n) rfl (AA (CS .i64 (l[k]!) n rfl rfl (AE (AC (AP ((l[k]!) == n) rfl rfl (fun a1=>?_) (fun a1=>?_)))))))))))))))))))))
  ·have a5:l[k]! = n:=by simpa using a1
   refine AF (AB kR (AA (AG (vO true) rfl (AE (AC (AT (CK (BA (BA (CK (BA (BF rfl (CU rfl rfl rfl) (?_)))))))))))))
   have e:(l.contains n)=true:=by exact has_yes (k:=k) oM aS
   exact ⟨_,rfl,s0.keep,(by exact congrArg vO e.symm)⟩
  have a6:l[k]!≠n:=by simpa using a1
  refine AZ (BU (AC (AB kR (AA (AD (vI ((k:Nat):Int)) rfl (AA (DQ .i64 ((k:Nat):Int) (1:Int) (((k+1:Nat):Int)) rfl rfl (HR oM oM) (AA (AG (vI ((k+1:Nat):Int)) rfl (AE (AC (?_))))))))))))
  exact ⟨_,oM,(k+1),oM,(all_step hr0_1 aS),rfl,⟨_,BL _ ⟨rfl,rfl,(by rfl),rfl,trivial⟩⟩,rfl⟩
 have a7:(l.length:Int)≤((k:Nat):Int):=by simpa using a0
 refine EX (CV (CV (EB (AC (AF (AB kR (AA (AG (vO false) rfl (AE (AC (AT (BF rfl (CU rfl rfl rfl) (?_)))))))))))))
 have e:(l.contains n)=false:=by exact has_no (fun q hq=>hr0_1 q oM)
 exact ⟨_,rfl,s0.keep,(by exact congrArg vO e.symm)⟩
open Go.Fw
theorem MJ {α:Type} [Inhabited α] {l:List α} {i k:Nat} {x:α} (h:i<l.length):(l.set i x)[k]! = if k=i then x else l[k]!:=by
  by_cases hk:k<l.length
  · rw [getElem!_pos _ k (by simpa using hk),List.getElem_set,getElem!_pos l k hk]
    by_cases e:i=k
    · subst e;simp
    · rw [if_neg e,if_neg (fun h=>e h.symm)]
  · rw [if_neg (by omega),getElem!_neg _ k (by simpa using hk),getElem!_neg l k (by simpa using hk)]
def IG (c:Circle) (i:Nat) (r:Recovery):Circle:=⟨c.epoch,c.threshold,c.wait,c.guardians,c.recs.set i r⟩
theorem KH {c:Circle} {i:Nat} {r:Recovery} (h:AL c=0) (hi:i<c.recs.length) (hno:r.no=c.recs[i]!.no) (ha:r.asked=c.recs[i]!.asked) (hr:CP r=true) (hs:r.state≠0∨c.recs[i]!.state=0):AL (IG c i r)=0:=by
  have h0:=(DW c).1 h
  refine (DW _).2 ⟨?_,fun k hk=>?_⟩
  · have e:CI (IG c i r)=CI c:=by unfold CI IG;simp only [List.length_set]
    rw [e];exact h0.1
  · have hk':k<c.recs.length:=by simpa [IG] using hk
    have hk0:=FM.1 (h0.2 k hk')
    have hask:CZ (IG c i r).recs k=CZ c.recs k:=by
      unfold CZ
      by_cases e:k=0
      · rw [if_pos e,if_pos e]
      · rw [if_neg e,if_neg e]
        show (c.recs.set i r)[k - 1]!.asked=_
        rw [MJ hi]
        split
        · rename_i e2;rw [ha,e2]
        · rfl
    rw [FM,hask]
    show (c.recs.set i r)[k]!.no=_∧_
    have hl:(IG c i r).recs.length=c.recs.length:=by simp [IG]
    rw [hl]
    show (c.recs.set i r)[k]!.no=_∧BI (c.recs.set i r)[k]!.asked _=true∧CP (c.recs.set i r)[k]! = true∧((c.recs.set i r)[k]!.state≠0∨_)
    rw [MJ hi]
    split
    · rename_i e
      subst e
      refine ⟨by rw [hno];exact hk0.1,by rw [ha];exact hk0.2.1,hr,?_⟩
      rcases hs with hs|hs
      · exact .inl hs
      · right;rcases hk0.2.2.2 with h1|h1
        · exact absurd hs h1
        · exact h1
    · exact hk0
section
variable {c:Circle} {no day:Int}
end
section
variable {l:List Int} {t w a day:Int} {k:Nat}
end
section
variable {l:List Int} {t w a day:Int} {k:Nat}
theorem new_ok (h:(CQ l t w).2=0):AL ⟨0,t,w,l,[]⟩ = 0∧CQ l t w=(⟨0,t,w,l,[]⟩,0):=by
  by_cases hc:AL ⟨0,t,w,l,[]⟩ = 0
  · exact ⟨hc,JT hc⟩
  · rw [IT hc] at h;exact absurd h hc
end
open Go.Fw
theorem inc_pw {l:List Int}:ER l=true↔l.Pairwise (· < ·)∧∀ x∈l,0≤x∧x<4096:=by
  constructor
  · intro h
    refine ⟨List.pairwise_iff_getElem.2 fun i j hi hj hij=>?_,fun x hx=>?_⟩
    · have:=GS h i j hij hj
      rwa [getElem!_pos l i hi,getElem!_pos l j hj] at this
    · obtain ⟨i,hi,rfl⟩:=List.getElem_of_mem hx
      have:=KD h i hi
      rwa [getElem!_pos l i hi] at this
  · rintro ⟨h1,h2⟩
    refine (LN l).2 fun k hk=>JU.2 ⟨?_,?_⟩
    · unfold GL
      rw [getElem!_pos l k hk]
      split
      · have:=(h2 _ (List.getElem_mem hk)).1;omega
      · have:=List.pairwise_iff_getElem.1 h1 (k - 1) k (by omega) hk (by omega)
        rwa [getElem!_pos l (k - 1) (by omega)]
    · rw [getElem!_pos l k hk];exact (h2 _ (List.getElem_mem hk)).2
theorem LX (a:Int) (l:List Int) (x:Int):JE (a :: l) x=if a<x then a :: JE l x else x :: a :: l:=by
  unfold JE tw
  by_cases h:a<x
  · simp [h]
  · simp [h]
theorem IX {x y:Int}:∀ {l:List Int},y∈JE l x↔y=x∨y∈l
  | []=>by simp [JE,tw]
  | a :: l=>by
    rw [LX]
    split
    · rw [List.mem_cons,IX,List.mem_cons]
      constructor
      · rintro (h|h|h)
        · exact .inr (.inl h)
        · exact .inl h
        · exact .inr (.inr h)
      · rintro (h|h|h)
        · exact .inr (.inl h)
        · exact .inl h
        · exact .inr (.inr h)
    · simp
theorem putIn_pw {x:Int}:∀ {l:List Int},l.Pairwise (· < ·)→x∉l→(JE l x).Pairwise (· < ·)
  | [],_,_=>by simp [JE,tw]
  | a :: l,h,hx=>by
    obtain ⟨h1,h2⟩:=List.pairwise_cons.1 h
    rw [LX]
    split
    · rename_i ha
      refine List.pairwise_cons.2 ⟨fun y hy=>?_,putIn_pw h2 (fun hm=>hx (List.mem_cons_of_mem _ hm))⟩
      rcases IX.1 hy with rfl|hy
      · exact ha
      · exact h1 y hy
    · rename_i ha
      have hne:x≠a:=fun e=>hx (by rw [e];exact List.mem_cons_self ..)
      refine List.pairwise_cons.2 ⟨fun y hy=>?_,h⟩
      rcases List.mem_cons.1 hy with rfl|hy
      · omega
      · have:=h1 y hy;omega
theorem bsF_cons (a:Int) (l:List Int) (x:Int):KW (a :: l) x=if a<x then KW l x else (a == x):=by
  unfold KW tw
  by_cases h:a<x
  · simp [h]
  · simp [h]
theorem bsF_iff {x:Int}:∀ {l:List Int},l.Pairwise (· < ·)→(KW l x=true↔x∈l)
  | [],_=>by simp [KW,tw]
  | a :: l,h=>by
    obtain ⟨h1,h2⟩:=List.pairwise_cons.1 h
    rw [bsF_cons]
    split
    · rename_i ha
      rw [bsF_iff h2,List.mem_cons]
      exact ⟨.inr,fun hm=>hm.resolve_left (fun e=>by omega)⟩
    · rename_i ha
      rw [List.mem_cons,beq_iff_eq]
      constructor
      · intro e;exact .inl e.symm
      · rintro (e|hm)
        · exact e.symm
        · have:=h1 x hm;omega
section
variable {c:Circle} {no:Int}
theorem guard_range (hok:AL c=0) {x:Int} (hx:c.guardians.contains x=true):0≤x∧x<4096:=by
  have hh:=((DW c).1 hok).1
  simp only [CI,dbs] at hh
  have hi:ER c.guardians=true:=by simp_all
  exact (inc_pw.1 hi).2 x (by simpa using hx)
end
open Go.Fw
structure Grown (c x:Circle) (no:Int):Prop where
  ok:AL x=0
  ep:x.epoch=c.epoch
  th:x.threshold=c.threshold
  wa:x.wait=c.wait
  gu:x.guardians=c.guardians
  n0:0≤no
  n1:no<(x.recs.length:Int)
theorem ask_grown {c:Circle} {day:Int} (h:(BN c day).2.2=0):AL c=0∧BI day 0=true∧Grown c (BN c day).1 (BN c day).2.1∧(BN c day).1 = ⟨c.epoch,c.threshold,c.wait,c.guardians,c.recs++[⟨(c.recs.length:Int),day,0,[],[]⟩]⟩∧(BN c day).2.1=(c.recs.length:Int):=by
  by_cases hc:AL c=0
  · cases hd:BI day (FO c).asked with
    | false=>rw [GW hc hd] at h;cases h
    | true=>
      by_cases hs:(FO c).state=0
      · rw [IY hc hd hs] at h;cases h
      · by_cases hn:(c.recs.length:Int)=1024
        · rw [FX hc hd hs hn] at h;cases h
        · rw [EP hc hd hs hn]
          have h0:=(DW c).1 hc
          have hlast:0≤(FO c).asked:=by
            unfold FO;split
            · rename_i hpos
              exact (JH hc (no:=((c.recs.length - 1:Nat):Int)) (by omega) (by omega)).1
            · simp
          have hd':=FT.1 hd
          refine ⟨hc,FT.2 ⟨by omega,hd'.2⟩,⟨(DW _).2 ⟨?_,fun k hk=>?_⟩,rfl,rfl,rfl,rfl,by simp,by simp;omega⟩,rfl,rfl⟩
          · have hh:=h0.1
            have hr:=JV hc
            unfold CI at hh ⊢
            simp only [Bool.or_eq_false_iff,decide_eq_false_iff_not] at hh ⊢
            exact ⟨hh.1,by simp;omega⟩
          · simp only [List.length_append,List.length_cons,List.length_nil] at hk ⊢
            rw [FM]
            by_cases e:k=c.recs.length
            · subst e
              have hg:(c.recs++[(⟨(c.recs.length:Int),day,0,[],[]⟩:Recovery)])[c.recs.length]! = ⟨(c.recs.length:Int),day,0,[],[]⟩:=by simp
              have ha:CZ (c.recs++[(⟨(c.recs.length:Int),day,0,[],[]⟩:Recovery)]) c.recs.length=(FO c).asked:=by
                unfold CZ FO
                by_cases z:c.recs.length=0
                · rw [if_pos z,if_neg (by omega)]
                · rw [if_neg z,if_pos (by omega),List.getElem!_eq_getElem?_getD,List.getElem?_append_left (by omega),← List.getElem!_eq_getElem?_getD]
              rw [hg,ha]
              exact ⟨rfl,hd,by simp [CP,ER,HI], .inr (by simp)⟩
            · have hk:k<c.recs.length:=by omega
              have hg:(c.recs++[(⟨(c.recs.length:Int),day,0,[],[]⟩:Recovery)])[k]! = c.recs[k]!:=by rw [List.getElem!_eq_getElem?_getD,List.getElem?_append_left hk,← List.getElem!_eq_getElem?_getD]
              have ha:CZ (c.recs++[(⟨(c.recs.length:Int),day,0,[],[]⟩:Recovery)]) k=CZ c.recs k:=by
                unfold CZ
                by_cases z:k=0
                · rw [if_pos z,if_pos z]
                · rw [if_neg z,if_neg z,List.getElem!_eq_getElem?_getD,List.getElem?_append_left (by omega),← List.getElem!_eq_getElem?_getD]
              have hb:=FM.1 (h0.2 k hk)
              rw [hg,ha]
              refine ⟨hb.1,hb.2.1,hb.2.2.1,?_⟩
              by_cases z:k+1=c.recs.length
              · left
                unfold FO at hs
                rw [if_pos (by omega)] at hs
                rwa [show k=c.recs.length - 1 by omega]
              · rcases hb.2.2.2 with q|q
                · exact .inl q
                · omega
  · rw [JX hc] at h;exact absurd h hc
theorem JS {c:Circle} {no:Int} {f:Recovery→Except Int Recovery} (hf:∀ r e,f r = .error e→e≠0) (h:(AK c no f).2=0):AL c=0∧0≤no∧no<(c.recs.length:Int)∧∃ r,f c.recs[no.toNat]! = .ok r∧AK c no f=(IG c no.toNat r,0):=by
  by_cases hc:AL c=0
  · by_cases hn:no<0∨(c.recs.length:Int)≤no
    · unfold AK at h;rw [if_neg (by simpa using hc),if_pos hn] at h;cases h
    · refine ⟨hc,by omega,by omega,?_⟩
      cases hr:f c.recs[no.toNat]! with
      | error x=>
        have e:AK c no f=(DD,x):=by unfold AK;rw [if_neg (by simpa using hc),if_neg hn];simp only [hr]
        rw [e] at h;exact absurd h (hf _ _ hr)
      | ok r=>
        have e:AK c no f=(IG c no.toNat r,0):=by unfold AK;rw [if_neg (by simpa using hc),if_neg hn];simp only [hr];rfl
        exact ⟨r,rfl,e⟩
  · unfold AK at h;rw [if_pos (by simpa using hc)] at h;exact absurd h hc
theorem KL {c x:Circle} {no:Int} {r:Recovery} (h:Grown c x no) (hno:r.no=x.recs[no.toNat]!.no) (ha:r.asked=x.recs[no.toNat]!.asked) (hr:CP r=true) (hs:r.state≠0∨x.recs[no.toNat]!.state=0):Grown c (IG x no.toNat r) no:=
  ⟨KH h.ok (by have:=h.n0;have:=h.n1;omega) hno ha hr hs,h.ep,h.th,h.wa,h.gu,h.n0,by simp [IG];exact h.n1⟩
theorem MU {c x:Circle} {no g:Int} (h:Grown c x no) (h2:(AK x no (AI x g)).2=0):Grown c (AK x no (AI x g)).1 no:=by
  obtain ⟨_,h0,h1,r,hr,e⟩:=JS (fun r e he=>by
    unfold AI at he
    split at he
    · cases he;decide
    · split at he
      · cases he;decide
      · split at he
        · cases he;decide
        · split at he <;> cases he) h2
  rw [e]
  have hrec:=FV h.ok (k:=no.toNat) (by omega)
  unfold AI at hr
  split at hr
  · cases hr
  · split at hr
    · cases hr
    · split at hr
      · cases hr
      · rename_i hs2 hs1 hg
        have hs:x.recs[no.toNat]!.state=0:=by
          have:=EJ h.ok h0 h1
          simp only [beq_iff_eq] at hs2 hs1
          omega
        have hg:x.guardians.contains g=true:=by simpa using hg
        split at hr
        · cases hr;exact KL h rfl rfl hrec (.inr hs)
        · rename_i hb
          cases hr
          refine KL h rfl rfl ?_ (.inr hs)
          have hp:=CL hrec
          have hinc:=inc_pw.1 hp.2.2
          have hgr:=guard_range h.ok hg
          have hnot:g∉x.recs[no.toNat]!.approved:=fun hm=>hb ((bsF_iff hinc.1).2 hm)
          have hi:ER (JE x.recs[no.toNat]!.approved g)=true:=inc_pw.2 ⟨putIn_pw hinc.1 hnot,fun y hy=>by
            rcases IX.1 hy with e|hy
            · rw [e];exact hgr
            · exact hinc.2 y hy⟩
          unfold CP at hrec ⊢
          simp only [hs,hi] at hrec ⊢
          simp only [hp.2.2] at hrec
          exact hrec
theorem finish_grown {c x:Circle} {no day:Int} (h:Grown c x no) (h2:(AK x no (AN x day)).2=0):Grown c (AK x no (AN x day)).1 no∧(AK x no (AN x day)).1.recs[no.toNat]!.state=1:=by
  obtain ⟨_,h0,h1,r,hr,e⟩:=JS (fun r e he=>by
    unfold AN at he
    repeat' split at he
    all_goals cases he
    all_goals decide) h2
  rw [e]
  have hrec:=FV h.ok (k:=no.toNat) (by omega)
  unfold AN at hr
  repeat' split at hr
  all_goals cases hr
  rename_i hs2 hs1 _ _ _
  have hs:x.recs[no.toNat]!.state=0:=by
    have:=EJ h.ok h0 h1
    simp only [beq_iff_eq] at hs2 hs1
    omega
  refine ⟨KL h rfl rfl ?_ (.inl (by show (1:Int)≠0;decide)),?_⟩
  · have hp:=CL hrec
    unfold CP at hrec ⊢
    simp only [hs,hp.2.2] at hrec ⊢
    exact hrec
  · show (x.recs.set no.toNat _)[no.toNat]!.state=1
    rw [MJ (by omega),if_pos rfl]
open Go.Fw
structure Tale where
  asked:Int
  done:Int
  approved:List Int
  vetoed:Bool
instance:Inhabited Tale:=⟨⟨0,0,[],false⟩⟩
abbrev noM (c:Circle) (n:UInt8):Int:=(c.recs.length:Int) - 1 - ((n % 4).toNat:Int)
def AH (c:Circle) (k n g:UInt8) (day:Int):Circle × Int × Int:=
  if k % 4=0 then BN c day
  else if k % 4=1 then ((AK c (noM c n) (AI c (g.toNat:Int))).1,noM c n,(AK c (noM c n) (AI c (g.toNat:Int))).2)
  else if k % 4=2 then ((AK c (noM c n) (BH day)).1,noM c n,(AK c (noM c n) (BH day)).2)
  else ((AK c (noM c n) (AN c day)).1,noM c n,(AK c (noM c n) (AN c day)).2)
theorem mod4_ltG (a:UInt8):(a % 4).toNat<4:=by
  rw [UInt8.toNat_mod];exact Nat.mod_lt _ (by decide)
theorem mod4_3 {k:UInt8} (h0:k % 4≠0) (h1:k % 4≠1) (h2:k % 4≠2):k % 4=3:=by
  have h:=mod4_ltG k
  have key:∀ x:UInt8,x.toNat<4→x≠0→x≠1→x≠2→x=3:=by
    intro x hx a b c
    apply UInt8.toNat_inj.1
    have a':x.toNat≠0:=fun e=>a (UInt8.toNat_inj.1 e)
    have b':x.toNat≠1:=fun e=>b (UInt8.toNat_inj.1 e)
    have c':x.toNat≠2:=fun e=>c (UInt8.toNat_inj.1 e)
    show x.toNat=3
    omega
  exact key _ h h0 h1 h2
theorem mv_0 {c:Circle} {k n g:UInt8} {day:Int} (h:k % 4=0):AH c k n g day=BN c day:=if_pos h
theorem mv_1 {c:Circle} {k n g:UInt8} {day:Int} (h:k % 4=1):AH c k n g day=((AK c (noM c n) (AI c (g.toNat:Int))).1,noM c n,(AK c (noM c n) (AI c (g.toNat:Int))).2):=by
  unfold AH;rw [if_neg (by rw [h];decide),if_pos h]
theorem mv_2 {c:Circle} {k n g:UInt8} {day:Int} (h:k % 4=2):AH c k n g day=((AK c (noM c n) (BH day)).1,noM c n,(AK c (noM c n) (BH day)).2):=by
  unfold AH;rw [if_neg (by rw [h];decide),if_neg (by rw [h];decide),if_pos h]
theorem mv_3 {c:Circle} {k n g:UInt8} {day:Int} (h0:k % 4≠0) (h1:k % 4≠1) (h2:k % 4≠2):AH c k n g day=((AK c (noM c n) (AN c day)).1,noM c n,(AK c (noM c n) (AN c day)).2):=by
  unfold AH;rw [if_neg h0,if_neg h1,if_neg h2]
def DL (a l:List Int) (k:Nat):Nat:=(a.take k).countP (fun x=>l.contains x)
theorem KT {a l:List Int} {k:Nat} (h:k<a.length):DL a l (k+1)=DL a l k+(if l.contains a[k]! then 1 else 0):=by
  unfold DL
  rw [List.take_add_one,List.countP_append,List.getElem?_eq_getElem h,getElem!_pos a k h]
  simp [List.countP_cons]
theorem countT_le (a l:List Int) (k:Nat):DL a l k≤k:=by
  unfold DL
  have:=List.countP_le_length (p:=fun x=>l.contains x) (l:=a.take k)
  rw [List.length_take] at this;omega
def LS (a l:List Int):Nat:=a.countP (fun x=>l.contains x)
theorem countT_all (a l:List Int):DL a l a.length=LS a l:=by unfold DL LS;rw [List.take_length]
structure RelT (l:List Int) (t w:Int) (r:Recovery) (s:Tale):Prop where
  st1:r.state=1↔0≤s.done
  st2:r.state=2↔s.vetoed=true
  asked:r.asked=s.asked
  mem:∀ x,x∈r.approved↔x∈s.approved
  nd:s.approved.Nodup
  dn:0≤s.done→s.asked+w≤s.done∧t≤(LS s.approved l:Int)
structure SafeI (l:List Int) (t w:Int) (c:Circle) (T:List Tale):Prop where
  ok:AL c=0
  gu:c.guardians=l
  th:c.threshold=t
  wa:c.wait=w
  len:c.recs.length=T.length
  rel:∀ i,i<T.length→RelT l t w c.recs[i]! T[i]!
theorem NI {a b:List Int} (ha:a.Nodup) (hb:b.Nodup) (h:∀ x,x∈a↔x∈b):a.length=b.length:=by
  have h1:∀ {a b:List Int},a.Nodup→(∀ x,x∈a→x∈b)→a.length≤b.length:=by
    intro a
    induction a with
    | nil=>intro b _ _;simp
    | cons x r ih=>
      intro b hn hs
      obtain ⟨hx,hr⟩:=List.nodup_cons.1 hn
      have hb:=hs x List.mem_cons_self
      have:=ih (b:=b.erase x) hr (fun y hy=>(List.mem_erase_of_ne (fun e=>by subst e;exact hx hy)).2 (hs y (List.mem_cons_of_mem _ hy)))
      rw [List.length_erase_of_mem hb] at this
      have:=List.length_pos_of_mem hb
      simp only [List.length_cons];omega
  exact Nat.le_antisymm (h1 ha fun x hx=>(h x).1 hx) (h1 hb fun x hx=>(h x).2 hx)
theorem count_eq {r s l:List Int} (hs:s.Nodup) (hl:l.Nodup) (h:∀ x,x∈r↔x∈s):EE r l l.length=LS s l:=by
  unfold EE LS
  rw [List.take_length,List.countP_eq_length_filter]
  refine NI (List.Nodup.sublist List.filter_sublist hl) (List.Nodup.sublist List.filter_sublist hs) fun x=>?_
  simp only [List.mem_filter,List.contains_iff_mem]
  rw [h x];exact and_comm
section
variable {l:List Int} {t w:Int} {c:Circle} {T:List Tale} {k n g:UInt8} {day no:Int}
theorem RelT.len {r:Recovery} {s:Tale} (h:RelT l t w r s) (hr:CP r=true):r.approved.length=s.approved.length:=NI (NL (CL hr).2.2) h.nd h.mem
theorem safe_new (h:(CQ l t w).2=0):SafeI l t w (CQ l t w).1 []:=by
  have:=new_ok h
  rw [this.2]
  exact ⟨this.1,rfl,rfl,rfl,rfl,fun i hi=>absurd hi (by simp)⟩
theorem approve_get {x:Int} (h:(AK c no (AI c x)).2=0):AL c=0∧0≤no∧no<(c.recs.length:Int)∧c.recs[no.toNat]!.state=0∧AL (AK c no (AI c x)).1=0∧
    ∃ m,AK c no (AI c x)=(IG c no.toNat ⟨c.recs[no.toNat]!.no,c.recs[no.toNat]!.asked,c.recs[no.toNat]!.state,m,c.recs[no.toNat]!.vetoed⟩,0)∧∀ y,y∈m↔y=x∨y∈c.recs[no.toNat]!.approved:=by
  obtain ⟨hc,h0,h1,r,hr,e⟩:=JS (fun r e he=>by
    unfold AI at he
    split at he
    · cases he;decide
    · split at he
      · cases he;decide
      · split at he
        · cases he;decide
        · split at he <;> cases he) h
  have hg:Grown c c no:=⟨hc,rfl,rfl,rfl,rfl,h0,h1⟩
  have hv:=(MU hg h).ok
  refine ⟨hc,h0,h1,?_,hv,?_⟩
  · unfold AI at hr
    split at hr
    · cases hr
    · split at hr
      · cases hr
      · rename_i hs2 hs1
        have:=EJ hc h0 h1
        simp only [beq_iff_eq] at hs2 hs1
        omega
  · have hp:=(CL (FV hc (k:=no.toNat) (by omega))).2.2
    unfold AI at hr
    split at hr
    · cases hr
    · split at hr
      · cases hr
      · split at hr
        · cases hr
        · split at hr
          · rename_i hb
            cases hr
            exact ⟨c.recs[no.toNat]!.approved,e,fun y=>⟨fun hy=>.inr hy,fun hy=>by
              rcases hy with rfl|hy
              · exact (bsF_iff (inc_pw.1 hp).1).1 hb
              · exact hy⟩⟩
          · cases hr
            exact ⟨_,e,fun y=>IX⟩
theorem veto_get (h:(AK c no (BH day)).2=0):AL c=0∧0≤no∧no<(c.recs.length:Int)∧AL (AK c no (BH day)).1=0∧c.recs[no.toNat]!.state≠1∧
    ∃ v,AK c no (BH day)=(IG c no.toNat ⟨c.recs[no.toNat]!.no,c.recs[no.toNat]!.asked,2,c.recs[no.toNat]!.approved,v⟩,0):=by
  obtain ⟨hc,h0,h1,r,hr,e⟩:=JS (fun r e he=>by
    unfold BH at he
    repeat' split at he
    all_goals cases he
    all_goals decide) h
  have hrec:=FV hc (k:=no.toNat) (by omega)
  have hp:=CL hrec
  unfold BH at hr
  split at hr
  · cases hr
  · rename_i hd
    split at hr
    · rename_i hs
      have hs:c.recs[no.toNat]!.state=2:=by simpa using hs
      cases hr
      refine ⟨hc,h0,h1,?_,by omega,c.recs[no.toNat]!.vetoed,by rw [e];congr 2;exact (by rw [← hs])⟩
      rw [e]
      exact KH hc (by omega) rfl rfl hrec (.inl (by omega))
    · split at hr
      · cases hr
      · rename_i hs2 hs1
        have hs:c.recs[no.toNat]!.state≠1:=by simpa using hs1
        cases hr
        refine ⟨hc,h0,h1,?_,hs,[day],e⟩
        rw [e]
        refine KH hc (by omega) rfl rfl ?_ (.inl (by show (2:Int)≠0;decide))
        unfold CP
        simp only [hp.2.2]
        simpa using hd
theorem finish_get (h:(AK c no (AN c day)).2=0):AL c=0∧0≤no∧no<(c.recs.length:Int)∧c.recs[no.toNat]!.state=0∧AL (AK c no (AN c day)).1=0∧0≤day∧c.recs[no.toNat]!.asked+c.wait≤day∧c.threshold≤(EE c.recs[no.toNat]!.approved c.guardians c.guardians.length:Int)∧
    AK c no (AN c day)=(IG c no.toNat ⟨c.recs[no.toNat]!.no,c.recs[no.toNat]!.asked,1,c.recs[no.toNat]!.approved,c.recs[no.toNat]!.vetoed⟩,0):=by
  obtain ⟨hc,h0,h1,r,hr,e⟩:=JS (fun r e he=>by
    unfold AN at he
    repeat' split at he
    all_goals cases he
    all_goals decide) h
  have hv:=(finish_grown ⟨hc,rfl,rfl,rfl,rfl,h0,h1⟩ h).1.ok
  unfold AN at hr
  repeat' split at hr
  all_goals cases hr
  rename_i hs2 hs1 hd ha hw
  have hs:c.recs[no.toNat]!.state=0:=by
    have:=EJ hc h0 h1
    simp only [beq_iff_eq] at hs2 hs1
    omega
  refine ⟨hc,h0,h1,hs,hv,?_,?_,?_,e⟩
  · have:BI day 0=true:=by simpa using hd
    exact (FT.1 this).1
  · simp only [decide_eq_true_eq] at hw;omega
  · have:GM c c.recs[no.toNat]! = true:=by simpa using ha
    unfold GM at this
    simpa using this
theorem JY {r:Recovery} {s:Tale} (h:SafeI l t w c T) (h0:0≤no) (h1:no<(c.recs.length:Int)) (hok:AL (IG c no.toNat r)=0) (hr:RelT l t w r s):SafeI l t w (IG c no.toNat r) (T.set no.toNat s):=by
  have hlen:=h.len
  refine ⟨hok,h.gu,h.th,h.wa,by simp [IG,h.len],fun i hi=>?_⟩
  have hi:i<T.length:=by simpa using hi
  have e1:(IG c no.toNat r).recs[i]! = if no.toNat=i then r else c.recs[i]!:=by
    show (c.recs.set no.toNat r)[i]! = _
    rw [getElem!_pos _ i (by rw [List.length_set];omega),List.getElem_set,← getElem!_pos c.recs i (by omega)]
  have e2:(T.set no.toNat s)[i]! = if no.toNat=i then s else T[i]!:=by
    rw [getElem!_pos _ i (by rw [List.length_set];omega),List.getElem_set,← getElem!_pos T i hi]
  rw [e1,e2]
  by_cases q:no.toNat=i
  · rw [if_pos q,if_pos q];exact hr
  · rw [if_neg q,if_neg q];exact h.rel i hi
theorem safe_ask (h:SafeI l t w c T) (he:(BN c day).2.2=0):(BN c day).2.1=(T.length:Int)∧SafeI l t w (BN c day).1 (T++[⟨day, -1,[],false⟩]):=by
  obtain ⟨_,_,g,e,e2⟩:=ask_grown he
  refine ⟨by rw [e2,h.len],⟨g.ok,by rw [g.gu,h.gu],by rw [g.th,h.th],by rw [g.wa,h.wa],by rw [e];simp [h.len],fun i hi=>?_⟩⟩
  have hlen:=h.len
  rw [e]
  show RelT l t w (c.recs++[_])[i]! _
  by_cases q:i<T.length
  · rw [getElem!_pos _ i (by simp;omega),List.getElem_append_left (by omega),← getElem!_pos c.recs i (by omega),getElem!_pos (T++[_]) i hi,List.getElem_append_left q,← getElem!_pos T i q]
    exact h.rel i q
  · have q:i=T.length:=by simp at hi;omega
    subst q
    rw [getElem!_pos _ T.length (by simp;omega),List.getElem_append_right (by omega),getElem!_pos (T++[_]) T.length hi,List.getElem_append_right (Nat.le_refl _)]
    simp only [hlen,Nat.sub_self,List.getElem_cons_zero]
    exact ⟨by simp,by simp,rfl,fun x=>Iff.rfl,List.nodup_nil,fun hd=>absurd hd (by show ¬ (0:Int)≤-1;omega)⟩
theorem safe_approve (h:SafeI l t w c T) {x:Int} (he:(AK c no (AI c x)).2=0):0≤no∧no<(T.length:Int)∧
    SafeI l t w (AK c no (AI c x)).1 (if T[no.toNat]!.approved.contains x then T else T.set no.toNat ⟨T[no.toNat]!.asked,T[no.toNat]!.done,T[no.toNat]!.approved++[x],T[no.toNat]!.vetoed⟩):=by
  obtain ⟨hc,h0,h1,hs,hok,m,e,hm⟩:=approve_get he
  have hlen:=h.len
  have hr:=h.rel no.toNat (by omega)
  rw [e] at hok ⊢
  refine ⟨h0,by omega,?_⟩
  have hT:T=T.set no.toNat T[no.toNat]!:=by rw [getElem!_pos T no.toNat (by omega)];exact (List.set_getElem_self _).symm
  split
  · rename_i hb
    rw [List.contains_iff_mem] at hb
    have:=JY h h0 h1 hok (s:=T[no.toNat]!) ⟨hr.st1,hr.st2,hr.asked,fun y=>⟨fun hy=>by rcases (hm y).1 hy with rfl|hy;exact hb;exact (hr.mem y).1 hy,fun hy=>(hm y).2 (.inr ((hr.mem y).2 hy))⟩,hr.nd,hr.dn⟩
    rw [← hT] at this;exact this
  · rename_i hb
    rw [List.contains_iff_mem] at hb
    refine JY h h0 h1 hok ⟨hr.st1,hr.st2,hr.asked,fun y=>?_,?_,fun hd=>?_⟩
    · rw [hm y,hr.mem y];simp only [List.mem_append,List.mem_singleton];exact or_comm
    · refine List.nodup_append.2 ⟨hr.nd,by simp,fun a ha b hb2=>?_⟩
      simp only [List.mem_singleton] at hb2
      intro e2;rw [e2,hb2] at ha;exact hb ha
    · have hd:0≤T[no.toNat]!.done:=hd
      have:=hr.st1.2 hd
      omega
theorem safe_veto (h:SafeI l t w c T) (he:(AK c no (BH day)).2=0):0≤no∧no<(T.length:Int)∧
    SafeI l t w (AK c no (BH day)).1 (T.set no.toNat ⟨T[no.toNat]!.asked,T[no.toNat]!.done,T[no.toNat]!.approved,true⟩):=by
  obtain ⟨hc,h0,h1,hok,hs,v,e⟩:=veto_get he
  have hlen:=h.len
  have hr:=h.rel no.toNat (by omega)
  rw [e] at hok ⊢
  have hd:¬ 0≤T[no.toNat]!.done:=fun hd=>hs (hr.st1.2 hd)
  exact ⟨h0,by omega,JY h h0 h1 hok ⟨⟨fun q=>absurd q (show ¬ (2:Int)=1 by decide),fun q=>absurd q hd⟩,⟨fun _=>rfl,fun _=>rfl⟩,hr.asked,hr.mem,hr.nd,fun q=>absurd q hd⟩⟩
theorem safe_finish (h:SafeI l t w c T) (he:(AK c no (AN c day)).2=0):0≤no∧no<(T.length:Int)∧
    SafeI l t w (AK c no (AN c day)).1 (T.set no.toNat ⟨T[no.toNat]!.asked,day,T[no.toNat]!.approved,T[no.toNat]!.vetoed⟩):=by
  obtain ⟨hc,h0,h1,hs,hok,hd,hw,ha,e⟩:=finish_get he
  have hlen:=h.len
  have hr:=h.rel no.toNat (by omega)
  rw [e] at hok ⊢
  have hv:T[no.toNat]!.vetoed=false:=by
    rw [← Bool.not_eq_true];intro q
    have:=hr.st2.2 q
    omega
  refine ⟨h0,by omega,JY h h0 h1 hok ⟨⟨fun _=>hd,fun _=>rfl⟩,⟨fun q=>absurd q (show ¬ (1:Int)=2 by decide),fun q=>by rw [hv] at q;cases q⟩,hr.asked,hr.mem,hr.nd,fun _=>⟨?_,?_⟩⟩⟩
  · show T[no.toNat]!.asked+w≤day
    rw [← hr.asked,← h.wa];exact hw
  · have hgl:c.guardians.Nodup:=by
      have hh:=((DW c).1 hc).1
      unfold CI at hh
      simp only [Bool.or_eq_false_iff,Bool.not_eq_false'] at hh
      exact NL hh.1.1.1.1.2
    rw [count_eq hr.nd hgl hr.mem,h.gu,h.th] at ha
    exact ha
theorem bad_act {f:Recovery→Except Int Recovery} (he:(AK c no f).2≠0):(AK c no f).1=DD:=by
  unfold AK at he ⊢
  split
  · rfl
  · rename_i h1
    rw [if_neg h1] at he
    split
    · rfl
    · rename_i h2
      rw [if_neg h2] at he
      revert he
      cases f c.recs[no.toNat]! with
      | error e=>intro _;rfl
      | ok r=>intro he;exact absurd rfl he
theorem bad_ask (he:(BN c day).2.2≠0):(BN c day).1=DD:=by
  unfold BN at he ⊢
  repeat' split at he
  all_goals first|(exact absurd rfl he)|skip
  all_goals simp_all
theorem bad_move (he:(AH c k n g day).2.2≠0):(AH c k n g day).1.guardians=[]:=by
  by_cases h0:k % 4=0
  · rw [mv_0 h0] at he ⊢;rw [bad_ask he];rfl
  · by_cases h1:k % 4=1
    · rw [mv_1 h1] at he ⊢;show (AK _ _ _).1.guardians=[];rw [bad_act he];rfl
    · by_cases h2:k % 4=2
      · rw [mv_2 h2] at he ⊢;show (AK _ _ _).1.guardians=[];rw [bad_act he];rfl
      · rw [mv_3 h0 h1 h2] at he ⊢;show (AK _ _ _).1.guardians=[];rw [bad_act he];rfl
theorem safe_k0 (h:SafeI l t w c T) (h0:k % 4=0) (he:(AH c k n g day).2.2=0):(AH c k n g day).2.1=(T.length:Int)∧SafeI l t w (AH c k n g day).1 (T++[⟨day, -1,[],false⟩]):=by
  rw [mv_0 h0] at he ⊢;exact safe_ask h he
theorem safe_k1 (h:SafeI l t w c T) (h1:k % 4=1) (he:(AH c k n g day).2.2=0):0≤(AH c k n g day).2.1∧(AH c k n g day).2.1<(T.length:Int)∧SafeI l t w (AH c k n g day).1 (if T[(AH c k n g day).2.1.toNat]!.approved.contains (g.toNat:Int) then T else T.set (AH c k n g day).2.1.toNat ⟨T[(AH c k n g day).2.1.toNat]!.asked,T[(AH c k n g day).2.1.toNat]!.done,T[(AH c k n g day).2.1.toNat]!.approved++[(g.toNat:Int)],T[(AH c k n g day).2.1.toNat]!.vetoed⟩):=by
  rw [mv_1 h1] at he ⊢;exact safe_approve h he
theorem safe_k2 (h:SafeI l t w c T) (h2:k % 4=2) (he:(AH c k n g day).2.2=0):0≤(AH c k n g day).2.1∧(AH c k n g day).2.1<(T.length:Int)∧SafeI l t w (AH c k n g day).1 (T.set (AH c k n g day).2.1.toNat ⟨T[(AH c k n g day).2.1.toNat]!.asked,T[(AH c k n g day).2.1.toNat]!.done,T[(AH c k n g day).2.1.toNat]!.approved,true⟩):=by
  rw [mv_2 h2] at he ⊢;exact safe_veto h he
theorem safe_k3 (h:SafeI l t w c T) (h0:k % 4≠0) (h1:k % 4≠1) (h2:k % 4≠2) (he:(AH c k n g day).2.2=0):0≤(AH c k n g day).2.1∧(AH c k n g day).2.1<(T.length:Int)∧SafeI l t w (AH c k n g day).1 (T.set (AH c k n g day).2.1.toNat ⟨T[(AH c k n g day).2.1.toNat]!.asked,day,T[(AH c k n g day).2.1.toNat]!.approved,T[(AH c k n g day).2.1.toNat]!.vetoed⟩):=by
  rw [mv_3 h0 h1 h2] at he ⊢;exact safe_finish h he
theorem safe_no (h:SafeI l t w c T) (he:(AH c k n g day).2.2=0):(k % 4=0→(AH c k n g day).2.1=(T.length:Int))∧(k % 4≠0→0≤(AH c k n g day).2.1∧(AH c k n g day).2.1<(T.length:Int))∧0≤(AH c k n g day).2.1∧(AH c k n g day).2.1≤(T.length:Int):=by
  by_cases h0:k % 4=0
  · have:=(safe_k0 h h0 he).1
    exact ⟨fun _=>this,fun q=>absurd h0 q,by omega,by omega⟩
  · have:0≤(AH c k n g day).2.1∧(AH c k n g day).2.1<(T.length:Int):=by
      by_cases h1:k % 4=1
      · have:=safe_k1 h h1 he;exact ⟨this.1,this.2.1⟩
      · by_cases h2:k % 4=2
        · have:=safe_k2 h h2 he;exact ⟨this.1,this.2.1⟩
        · have:=safe_k3 h h0 h1 h2 he;exact ⟨this.1,this.2.1⟩
    exact ⟨fun q=>absurd q h0,fun _=>this,by omega,by omega⟩
theorem safe_len (h:SafeI l t w c T) {i:Nat} (hi:i<T.length):T[i]!.approved.length≤4096:=by
  have hlen:=h.len
  have hrec:=FM.1 (((DW c).1 h.ok).2 i (by omega))
  rw [← (h.rel i hi).len hrec.2.2.1]
  exact HD (CL hrec.2.2.1).2.2
theorem gnew_bad (h:(CQ l t w).2≠0):(CQ l t w).2=450∧(CQ l t w).1.guardians=[]:=by
  have key:AL ⟨0,t,w,l,[]⟩ = 0∨AL ⟨0,t,w,l,[]⟩ = 450:=by
    unfold AL
    split
    · exact .inr rfl
    · exact .inl rfl
  unfold CQ at h ⊢
  by_cases c:(AL ⟨0,t,w,l,[]⟩ != 0)=true
  · rw [if_pos c]
    refine ⟨?_,rfl⟩
    rcases key with k|k
    · rw [k] at c;cases c
    · exact k
  · rw [if_neg c] at h;exact absurd rfl h
theorem safe_see (h:SafeI l t w c T) {i:Nat} (hi:i<T.length) {a d:Int} {v:Bool} (ha:a=T[i]!.asked) (hd:d=T[i]!.done) (hv:v=T[i]!.vetoed) :
    ((c.recs[i]!.state == 1) != decide (0≤d))=false∧((c.recs[i]!.state == 2) != v)=false∧((c.recs[i]!.approved.length:Int) != (T[i]!.approved.length:Int))=false∧(c.recs[i]!.asked != a)=false∧
    (0≤d→v=false∧decide (d<a+w)=false∧decide (((DL T[i]!.approved l T[i]!.approved.length:Nat):Int)<t)=false)∧(0≤a∧a<1024∧0≤w∧w<1024):=by
  have hr:=h.rel i hi
  have hlen:=h.len
  have hrec:=FM.1 (((DW c).1 h.ok).2 i (by omega))
  have hb:=JH h.ok (no:=(i:Int)) (by omega) (by omega)
  rw [h.wa,Int.toNat_natCast,hr.asked,← ha] at hb
  subst ha;subst hd;subst hv
  have e1:(c.recs[i]!.state == 1)=decide (0≤T[i]!.done):=by
    rw [Bool.eq_iff_iff];simp only [beq_iff_eq,decide_eq_true_eq];exact hr.st1
  have e2:(c.recs[i]!.state == 2)=T[i]!.vetoed:=by
    rw [Bool.eq_iff_iff];simp only [beq_iff_eq];exact hr.st2
  refine ⟨by rw [e1];exact bne_self_eq_false _,by rw [e2];exact bne_self_eq_false _,by rw [hr.len hrec.2.2.1];exact bne_self_eq_false _,by rw [hr.asked];exact bne_self_eq_false _,fun q=>?_,hb⟩
  refine ⟨?_,decide_eq_false (by have:=(hr.dn q).1;omega),decide_eq_false (by rw [countT_all];have:=(hr.dn q).2;omega)⟩
  have h1:=hr.st1.2 q
  rw [← e2,h1];rfl
end
end Go.Proofs.Ytpdekmknnpkmgaa
namespace Go.Fw
open Go.RowKit
theorem DX.base {α:Type} {E:Enc α} {e n m:Nat} {O:List Nat} {w:World} {v:Value} {l:List α} (h:DX E e n O w v l) (hm:m≤n):DX E e m O w v l:=by
  obtain ⟨css,h1,h2,h3⟩:=h
  refine ⟨css,h1,⟨h2.1,?_⟩,h3⟩
  rcases h2.2 with h|⟨g,cap,cur,e1,hg,r⟩
  · exact .inl h
  · exact .inr ⟨g,cap,cur,e1,Nat.le_trans hm hg,r⟩
section
variable {P:Program} {ty:TypeId} {F:Fr} {w w0:World} {O0 B:List Nat} {K:Value→World→Prop} {Z:List PanicEntry→World→Prop} {x y:Operand}
end
open Go.RowKit
def Enc.val:Enc Value where
  size:=1
  rd:=fun _ _ cs v=>cs=[v]∧v.oneCell'=true
  len:=fun h=>by rw [h.1];rfl
  one:=fun h u hu=>by rw [h.1] at hu;simp at hu;subst hu;exact h.2
  mv:=fun h _=>h
  sub:=fun h _=>h
theorem flatten_set {n:Nat} {css:List (List Value)} (hl:∀ cs∈css,cs.length=n) {j off:Nat} (hj:j<css.length) (hoff:off<n) (u:Value):(css.set j (css[j].set off u)).flatten=css.flatten.set (j*n+off) u:=by
  have hl2:∀ cs∈css.set j (css[j].set off u),cs.length=n:=by
    intro cs hcs
    rcases List.mem_or_eq_of_mem_set hcs with h|h
    · exact hl cs h
    · subst h;rw [List.length_set];exact hl _ (List.getElem_mem hj)
  have hfl:css.flatten.length=css.length*n:=DT css hl
  apply List.ext_getElem?
  intro q
  have hn:0<n:=by omega
  have hq:q=q / n*n+q % n:=by rw [Nat.mul_comm];exact (Nat.div_add_mod q n).symm
  have hr:=Nat.mod_lt q hn
  generalize q / n=i at hq
  generalize q % n=r at hq hr
  subst hq
  rw [IO _ i r hl2 hr,List.getElem?_set,List.getElem?_set,IO _ i r hl hr]
  by_cases e:j=i
  · subst e
    rw [if_pos rfl,if_pos hj]
    simp only [Option.bind_some]
    rw [List.getElem?_set]
    by_cases d:off=r
    · subst d
      have h1:j*n+off<css.flatten.length:=by
        rw [hfl]
        have:(j+1)*n≤css.length*n:=Nat.mul_le_mul_right n hj
        rw [Nat.add_mul] at this;omega
      rw [if_pos rfl,if_pos rfl,if_pos h1,if_pos (by rw [hl _ (List.getElem_mem hj)];exact hoff)]
    · rw [if_neg d,if_neg (by omega),List.getElem?_eq_getElem hj];rfl
  · rw [if_neg e,if_neg ?_]
    intro h
    have h2:=congrArg (· / n) h
    simp only [Nat.mul_comm _ n,Nat.mul_add_div hn,Nat.div_eq_of_lt hoff,Nat.div_eq_of_lt hr,Nat.add_zero] at h2
    exact e h2
section
variable {P:Program} {ty:TypeId} {F:Fr} {w w0:World} {O0 B:List Nat} {K:Value→World→Prop} {Z:List PanicEntry→World→Prop} {x y:Operand}
theorem KM {α:Type} [Inhabited α] {E:Enc α} {t e base b j off:Nat} {v:Value} {l:List α} {u:Value} (a:α) (hs:DI P t=some 1) (hx:BZ F x = .pointer (some ⟨b,j*E.size+off,none⟩)) (hy:BZ F y=u) (ho:DX E e base (B++O0) w v l) (hb:v.ownBlock=some b) (hB:b∈B) (hj:j<l.length) (hoff:off<E.size)
    (hr:∀ cs,E.rd w (B++O0) cs l[j]!→E.rd w (B++O0) (cs.set off u) a) (s:St w0 O0 w B)
    (h:∀ w',St w0 O0 w' B→Mv B w B w'→Keep [b] w w'→DX E e base (B++O0) w' v (l.set j a)→K undef w'):CT P (.store t x y) ty F w K Z:=by
  obtain ⟨css,h1,h2,h3⟩:=ho
  have hlens:=DX.lens h1 h3
  have hjc:j<css.length:=by omega
  have hrj:E.rd w (B++O0) css[j] l[j]!:=by rw [getElem!_pos l j hj];exact h3 j _ l[j] (List.getElem?_eq_getElem hjc) (List.getElem?_eq_getElem hj)
  have hr':=hr _ hrj
  have h1c:u.oneCell'=true:=E.one hr' u (List.mem_iff_getElem?.2 ⟨off,by rw [List.getElem?_set,if_pos rfl,if_pos (by rw [E.len hrj];exact hoff)]⟩)
  rcases h2.2 with ⟨rfl,h0⟩|⟨g,cap,cur,rfl,hbg,hg,hnc,hm,hsz,htk⟩
  · omega
  · have:g=b:=by simpa [Value.ownBlock] using hb
    subst this
    have hfs:=flatten_set hlens hjc hoff u
    have hbound:j*E.size+off<cur.toList.length:=by
      have h4:(j+1)*E.size≤l.length*E.size:=Nat.mul_le_mul_right _ hj
      rw [Nat.add_mul] at h4
      have h5:cap*E.size=cur.size:=by first|exact hsz.symm|exact hsz
      have h6:l.length*E.size≤cap*E.size:=Nat.mul_le_mul_right _ hnc
      simp only [Array.length_toList];omega
    refine BP (T:=e) (cs:=cur.toList) u hx hy h1c hs hB (by simpa [EQ] using hg) hbound s fun w' k1 k2 k3 k4=>h w' k1 k2 k3 ?_
    refine ⟨css.set j (css[j].set off u),by simp [h1],⟨?_, .inr ⟨g,cap,(cur.toList.set (j*E.size+off) u).toArray,by simp,hbg,k4,by simpa using hnc,hm,by simpa using hsz,?_⟩⟩,fun q cs y hq hy=>?_⟩
    · rw [hfs];simpa using h2.1
    · rw [hfs];simp only [List.length_set]
      rw [List.take_set,htk]
    · by_cases hjq:j=q
      · subst hjq
        rw [List.getElem?_set,if_pos rfl,if_pos hjc] at hq
        rw [List.getElem?_set,if_pos rfl,if_pos hj] at hy
        cases hq;cases hy
        exact E.mv hr' k2
      · rw [List.getElem?_set,if_neg hjq] at hq hy
        exact E.mv (h3 q cs y hq hy) k2
end
structure Nest {α:Type} (E:Enc α) (e n:Nat) (O:List Nat) (w:World) (NB:List Nat) (vs:List Value) (ls:List (List α)):Prop where
  len:vs.length=ls.length
  own:∀ i,i<vs.length→DX E e n O w vs[i]! ls[i]!
  blk:∀ i b,i<vs.length→vs[i]!.ownBlock=some b→b∈NB
  sep:∀ i j b,i<vs.length→j<vs.length→i≠j→vs[i]!.ownBlock=some b→vs[j]!.ownBlock≠some b
section
variable {α:Type} {E:Enc α} {e n:Nat} {O B B' NB X:List Nat} {w w':World} {vs:List Value} {ls:List (List α)}
theorem Nest.nil:Nest E e n O w NB [] []:=⟨rfl,fun i h=>absurd h (by simp),fun i b h=>absurd h (by simp),fun i j b h=>absurd h (by simp)⟩
theorem Nest.mv (h:Nest E e n (B++O) w B vs ls) (m:Mv B w B' w') (k:Keep X w w') (hx:∀ i b,i<vs.length→vs[i]!.ownBlock=some b→b∉X) (hs:∀ b∈B,b∈B'):Nest E e n (B'++O) w' B' vs ls:=
  ⟨h.len,fun i hi=>(h.own i hi).mv m k (fun b hb=>hx i b hi hb),fun i b hi hb=>hs b (h.blk i b hi hb),h.sep⟩
theorem DX.box {v:Value} {l:List α} {g:Nat} (h:DX E e n O w v l) (hb:v.ownBlock=some g):∃ cs,EQ w g e cs:=by
  obtain ⟨css,h1,h2,h3⟩:=h
  rcases h2.2 with ⟨rfl,h0⟩|⟨q,cap,cur,rfl,hbg,hg,hnc,hm,hsz,htk⟩
  · cases hb
  · have:q=g:=by simpa [Value.ownBlock] using hb
    subst this
    exact ⟨cur.toList,by simpa [EQ] using hg⟩
theorem EQ.type {b T T':Nat} {cs cs':List Value} (h:EQ w b T cs) (h':EQ w b T' cs'):T=T':=by
  unfold EQ at h h';rw [h] at h';cases h';rfl
theorem FU {β:Type} [Inhabited β] {l:List β} {x:β} {i:Nat} (h:i<l.length):(l++[x])[i]! = l[i]!:=by
  rw [getElem!_pos (l++[x]) i (by simp;omega),List.getElem_append_left h,← getElem!_pos l i h]
theorem FR {β:Type} [Inhabited β] {l:List β} {x:β}:(l++[x])[l.length]! = x:=by
  rw [getElem!_pos (l++[x]) l.length (by simp),List.getElem_append_right (Nat.le_refl _)];simp
theorem Nest.push (h:Nest E e n O w NB vs ls):Nest E e n O w NB (vs++[.slice none 0 0]) (ls++[[]]):=by
  refine ⟨by simp [h.len],fun i hi=>?_,fun i b hi hb=>?_,fun i j b hi hj hij hb=>?_⟩
  · by_cases c:i<vs.length
    · rw [FU c,FU (by rw [← h.len];exact c)];exact h.own i c
    · have:i=vs.length:=by simp at hi;omega
      subst this
      rw [FR,h.len,FR];exact DX.nil _ _ _ _ _
  · by_cases c:i<vs.length
    · rw [FU c] at hb;exact h.blk i b c hb
    · have:i=vs.length:=by simp at hi;omega
      subst this
      rw [FR] at hb;simp [Value.ownBlock] at hb
  · by_cases c:i<vs.length
    · rw [FU c] at hb
      by_cases d:j<vs.length
      · rw [FU d];exact h.sep i j b c d hij hb
      · have:j=vs.length:=by simp at hj;omega
        subst this
        rw [FR];simp [Value.ownBlock]
    · have:i=vs.length:=by simp at hi;omega
      subst this
      rw [FR] at hb;simp [Value.ownBlock] at hb
theorem FL {β:Type} [Inhabited β] {l:List β} {x:β} {i j:Nat} (hi:i<l.length) (hj:j<l.length):(l.set i x)[j]! = if i=j then x else l[j]!:=by
  rw [getElem!_pos (l.set i x) j (by simpa using hj),List.getElem_set,← getElem!_pos l j hj]
theorem Nest.app {i:Nat} {v':Value} {l':List α} (h:Nest E e n (B++O) w B vs ls) (hi:i<vs.length) (m:Mv B w B' w') (k:Keep vs[i]!.ownBlock.toList w w')
    (at_:v'.ownBlock=vs[i]!.ownBlock∨v'.ownBlock=some w.heap.size) (ho:DX E e n (B'++O) w' v' l') (hs:∀ b∈B,b∈B') (hv:∀ b,v'.ownBlock=some b→b∈B'):Nest E e n (B'++O) w' B' (vs.set i v') (ls.set i l'):=by
  have hil:i<ls.length:=by rw [← h.len];exact hi
  refine ⟨by simp [h.len],fun j hj=>?_,fun j b hj hb=>?_,fun j q b hj hq hjq hb=>?_⟩
  · have hj:j<vs.length:=by simpa using hj
    rw [FL hi hj,FL hil (by rw [← h.len];exact hj)]
    by_cases c:i=j
    · rw [if_pos c,if_pos c];exact ho
    · rw [if_neg c,if_neg c]
      exact (h.own j hj).mv m k (fun b hb hm=>by simp only [Option.mem_toList] at hm;exact h.sep j i b hj hi (Ne.symm c) hb hm)
  · have hj:j<vs.length:=by simpa using hj
    rw [FL hi hj] at hb
    by_cases c:i=j
    · rw [if_pos c] at hb;exact hv b hb
    · rw [if_neg c] at hb;exact hs b (h.blk j b hj hb)
  · have hj:j<vs.length:=by simpa using hj
    have hq:q<vs.length:=by simpa using hq
    rw [FL hi hj] at hb
    rw [FL hi hq]
    have new:∀ q,q<vs.length→i≠q→∀ b,v'.ownBlock=some b→vs[q]!.ownBlock≠some b:=fun q hq c b hb he=>by
      rcases at_ with e1|e1
      · rw [e1] at hb;exact h.sep i q b hi hq c hb he
      · rw [e1] at hb;cases hb
        have:=((h.own q hq).lt _ he).2
        omega
    by_cases c:i=j
    · rw [if_pos c] at hb
      rw [if_neg (fun d=>hjq (c.symm.trans d))]
      exact new q hq (fun d=>hjq (c.symm.trans d)) b hb
    · rw [if_neg c] at hb
      by_cases d:i=q
      · rw [if_pos d];intro he;exact new j hj c b he hb
      · rw [if_neg d];exact h.sep j q b hj hq hjq hb
end
end Go.Fw
namespace Go.Proofs.Ytpdekmknnpkmgaa
open Go.Fw Go.RowKit
structure StoryR where
  asked:Int
  done:Int
  ap:Value
  vetoed:Bool
instance:Inhabited StoryR:=⟨⟨0,0, .slice none 0 0,false⟩⟩
def Enc.story:Enc StoryR where
  size:=4
  rd:=fun _ _ cs x=>cs=[vI x.asked,vI x.done,x.ap, .bool x.vetoed]∧x.ap.oneCell'=true
  len:=fun h=>by rw [h.1];rfl
  one:=fun h u hu=>by
    rw [h.1] at hu
    simp only [List.mem_cons,List.not_mem_nil,or_false] at hu
    rcases hu with rfl|rfl|rfl|rfl
    · rfl
    · rfl
    · exact h.2
    · rfl
  mv:=fun h _=>h
  sub:=fun h _=>h
theorem JR {w:World} {O:List Nat} {cs:List Value} {x:StoryR} (h0:Enc.story.rd w O cs x):Enc.val.rd w O ((cs.drop 2).take Enc.val.size) x.ap:=by obtain ⟨rfl,h⟩:=h0;exact ⟨rfl,h⟩
theorem o_loadV {P:Program} {ty:TypeId} {F:Fr} {w:World} {K:Value→World→Prop} {Z:List PanicEntry→World→Prop} {x:Operand} {O:List Nat} {z:Value} {a:Addr} {t:TypeId} {D:TypeDesc} (ht:P.underlying t=some D) (hD:FW D=true) (hx:BZ F x = .pointer (some a)) (hp:PT Enc.val w O (.pointer (some a)) z) (h:K z w):CT P (.load t x) ty F w K Z:=
  LM ht hD rfl hx hp fun v hv=>by
    have:[v]=[z]:=hv.1
    cases this;exact h
structure Tales (e n:Nat) (O B:List Nat) (w:World) (L:List StoryR) (T:List Tale):Prop where
  len:L.length=T.length
  same:∀ i,i<T.length→L[i]!.asked=T[i]!.asked∧L[i]!.done=T[i]!.done∧L[i]!.vetoed=T[i]!.vetoed
  nest:Nest Enc.int e n (B++O) w B (L.map (·.ap)) (T.map (·.approved))
section
variable {e n:Nat} {O B B' X:List Nat} {w w':World} {L:List StoryR} {T:List Tale}
theorem HY {α β:Type} [Inhabited α] [Inhabited β] {l:List α} {f:α→β} {i:Nat} (h:i<l.length):(l.map f)[i]! = f l[i]!:=by
  rw [getElem!_pos (l.map f) i (by simpa using h),List.getElem_map,← getElem!_pos l i h]
theorem Tales.nil:Tales e n O B w [] []:=⟨rfl,fun i h=>absurd h (by simp),Nest.nil⟩
theorem Tales.own (h:Tales e n O B w L T) {i:Nat} (hi:i<T.length):DX Enc.int e n (B++O) w L[i]!.ap T[i]!.approved:=by
  have:=h.nest.own i (by simp [h.len,hi])
  rwa [HY (by rw [h.len];exact hi),HY hi] at this
theorem Tales.blk (h:Tales e n O B w L T) {i:Nat} (hi:i<T.length):∀ b,L[i]!.ap.ownBlock=some b→b∈B:=fun b hb=>by
  refine h.nest.blk i b (by simp [h.len,hi]) ?_
  rw [HY (by rw [h.len];exact hi)];exact hb
theorem Tales.mvX (h:Tales e n O B w L T) (m:Mv B w B' w') (k:Keep X w w') (hx:∀ i b,i<T.length→L[i]!.ap.ownBlock=some b→b∉X) (hs:∀ b∈B,b∈B'):Tales e n O B' w' L T:=
  ⟨h.len,h.same,h.nest.mv m k (fun i b hi hb=>by
    have hi:i<L.length:=by simpa using hi
    rw [HY hi] at hb
    exact hx i b (by rw [← h.len];exact hi) hb) hs⟩
theorem Tales.mv0 (h:Tales e n O B w L T) (m:Mv B w B' w') (k:Keep [] w w') (hs:∀ b∈B,b∈B'):Tales e n O B' w' L T:=h.mvX m k (fun _ _ _ _=>by simp) hs
theorem Tales.mvB (h:Tales e n O B w L T) {b t:Nat} {cs:List Value} (m:Mv B w B' w') (k:Keep [b] w w') (hb:EQ w b t cs) (ht:t≠e) (hs:∀ b∈B,b∈B'):Tales e n O B' w' L T:=
  h.mvX m k (fun i g hi hg hm=>by
    have:g=b:=by simpa using hm
    subst this
    obtain ⟨cs',h'⟩:=(h.own hi).box hg
    exact ht (hb.type h')) hs
theorem Tales.mvO {α:Type} {E:Enc α} {O':List Nat} {v:Value} {l:List α} {t n':Nat} (h:Tales e n O B w L T) (m:Mv B w B' w') (k:Keep X w w') (ho:DX E t n' O' w v l) (hv:∀ b∈X,v.ownBlock=some b) (ht:t≠e) (hs:∀ b∈B,b∈B'):Tales e n O B' w' L T:=
  h.mvX m k (fun i g hi hg hm=>by
    obtain ⟨cs,h1⟩:=ho.box (hv g hm)
    obtain ⟨cs',h2⟩:=(h.own hi).box hg
    exact ht (h1.type h2)) hs
theorem Tales.neO {α:Type} {E:Enc α} {O':List Nat} {v:Value} {l:List α} {t n' i:Nat} (h:Tales e n O B w L T) (hi:i<T.length) (ho:DX E t n' O' w v l) (ht:t≠e):∀ b,v.ownBlock=some b→b∉L[i]!.ap.ownBlock.toList:=fun b hb hm=>by
  obtain ⟨cs,h1⟩:=ho.box hb
  obtain ⟨cs',h2⟩:=(h.own hi).box (by simpa using hm)
  exact ht (h1.type h2)
theorem Tales.neB {b t i:Nat} {cs:List Value} (h:Tales e n O B w L T) (hi:i<T.length) (hb:EQ w b t cs) (ht:t≠e):b∉L[i]!.ap.ownBlock.toList:=fun hm=>by
  obtain ⟨cs',h2⟩:=(h.own hi).box (by simpa using hm)
  exact ht (hb.type h2)
theorem Tales.push (h:Tales e n O B w L T) (a d:Int) (v:Bool):Tales e n O B w (L++[⟨a,d, .slice none 0 0,v⟩]) (T++[⟨a,d,[],v⟩]):=by
  refine ⟨by simp [h.len],fun i hi=>?_,by rw [List.map_append,List.map_append];exact h.nest.push⟩
  by_cases c:i<T.length
  · rw [FU (by rw [h.len];exact c),FU c];exact h.same i c
  · have:i=T.length:=by simp at hi;omega
    subst this
    rw [FR]
    have:=FR (l:=L) (x:=(⟨a,d, .slice none 0 0,v⟩:StoryR))
    rw [h.len] at this
    rw [this];exact ⟨rfl,rfl,rfl⟩
theorem map_set {α β:Type} {f:α→β} {l:List α} {i:Nat} {x:α}:(l.set i x).map f=(l.map f).set i (f x):=List.map_set
theorem NH {β:Type} [Inhabited β] {l:List β} {i:Nat} (h:i<l.length):l.set i l[i]! = l:=by rw [getElem!_pos l i h];exact List.set_getElem_self _
theorem Tales.put (h:Tales e n O B w L T) {i:Nat} (hi:i<T.length) (a d:Int) (v:Bool):Tales e n O B w (L.set i ⟨a,d,L[i]!.ap,v⟩) (T.set i ⟨a,d,T[i]!.approved,v⟩):=by
  have hl:i<L.length:=by rw [h.len];exact hi
  refine ⟨by simp [h.len],fun j hj=>?_,?_⟩
  · have hj:j<T.length:=by simpa using hj
    rw [FL hl (by rw [h.len];exact hj),FL hi hj]
    by_cases c:i=j
    · rw [if_pos c,if_pos c];exact ⟨rfl,rfl,rfl⟩
    · rw [if_neg c,if_neg c];exact h.same j hj
  · rw [map_set,map_set]
    show Nest _ _ _ _ _ _ ((L.map (·.ap)).set i L[i]!.ap) ((T.map (·.approved)).set i T[i]!.approved)
    rw [← HY (f:=fun x:StoryR=>x.ap) hl,← HY (f:=fun x:Tale=>x.approved) hi,NH (by simpa using hl),NH (by simpa using hi)]
    exact h.nest
theorem Tales.app {i:Nat} {v':Value} {l':List Int} (h:Tales e n O B w L T) (hi:i<T.length) (m:Mv B w B' w') (k:Keep L[i]!.ap.ownBlock.toList w w')
    (at_:v'.ownBlock=L[i]!.ap.ownBlock∨v'.ownBlock=some w.heap.size) (ho:DX Enc.int e n (B'++O) w' v' l') (hs:∀ b∈B,b∈B') (hv:∀ b,v'.ownBlock=some b→b∈B'):Tales e n O B' w' (L.set i ⟨L[i]!.asked,L[i]!.done,v',L[i]!.vetoed⟩) (T.set i ⟨T[i]!.asked,T[i]!.done,l',T[i]!.vetoed⟩):=by
  have hl:i<L.length:=by rw [h.len];exact hi
  refine ⟨by simp [h.len],fun j hj=>?_,?_⟩
  · have hj:j<T.length:=by simpa using hj
    rw [FL hl (by rw [h.len];exact hj),FL hi hj]
    by_cases c:i=j
    · rw [if_pos c,if_pos c];exact h.same i hi
    · rw [if_neg c,if_neg c];exact h.same j hj
  · rw [map_set,map_set]
    have e1:=HY (f:=fun x:StoryR=>x.ap) hl
    refine h.nest.app (i:=i) (by simpa using hl) m ?_ ?_ ho hs hv
    · rw [e1];exact k
    · rw [e1];exact at_
end
end Go.Proofs.Ytpdekmknnpkmgaa
namespace Go.Fw
open Go.RowKit
section
variable {P:Program} {w:World}
variable {ty yt:TypeId} {F:Fr} {K:Value→World→Prop} {Z:List PanicEntry→World→Prop} {x y:Operand}
def mfind {κ:Type} [BEq κ] (l:List (κ × Value)) (k:κ):Option Value:=(l.findIdx? (fun x=>k == x.1)).bind fun j=>(l[j]?).map (·.2)
def MapV {κ α:Type} [BEq κ] (enc:κ→Value) (venc:α→Value) (w:World) (r:Nat) (M:κ→Option α):Prop:=
  ∃ es c,∃ l:List (κ × Value),Ob w r (.map es c)∧es.toList.map (fun e=>(e.key,e.val))=l.map (fun x=>(enc x.1,x.2))∧∀ k,mfind l k=(M k).map venc
section
variable {κ α:Type} [BEq κ] {enc:κ→Value} {venc:α→Value} {r:Nat} {M:κ→Option α}
theorem MapV.lt (h:MapV enc venc w r M):r<w.heap.size:=let ⟨_,_,_,h,_⟩:=h;h.lt
theorem MapV.keep {w':World} {O:List Nat} (h:MapV enc venc w r M) (k:Keep O w w') (hb:r∉O):MapV enc venc w' r M:=let ⟨es,c,l,h1,h2⟩:=h;⟨es,c,l,h1.keep k hb,h2⟩
variable {w0:World} {O0 B:List Nat} {z:Operand}
variable [LawfulBEq κ]
end
section
variable {κ:Type} [BEq κ] [LawfulBEq κ]
end
end
variable {P:Program} {ro:Option Nat} {n:Nat} {Q:Exit→Fr→World→Prop} {F:Fr} {w:World}
theorem cw_cut {x y:Code} (I:Fr→World→Prop) (h1:CW P (ro:=ro) n x (KY I Q) F w) (h2:∀ F w,I F w→CW P (ro:=ro) n y Q F w):CW P (ro:=ro) n (.seq x y) Q F w:=
  AF (wpIn_mono h1 fun e _ _ ⟨F,ha,hQ⟩=>⟨F,ha,by cases e <;> first|exact h2 _ _ hQ|exact hQ⟩)
open Go.RowKit
section
variable {P:Program} {ro:Option Nat} {n:Nat} {Q:Exit→Fr→World→Prop} {F:Fr} {w:World}
end
section
variable {P:Program}
end
section
variable {P:Program} {t yt ty:TypeId} {x y:Operand} {F:Fr} {w:World} {K:Value→World→Prop} {Z:List PanicEntry→World→Prop}
theorem JG (a b:UInt8) (hb:b.toNat≠0) (hx:BZ F x=vB a) (hy:BZ F y=vB b) (h:K (vB (a % b)) w):CT P (.binOp .rem t x y yt) ty F w K Z:=
  o_rem .u8 (a.toNat:Int) (b.toNat:Int) ((a % b).toNat:Int) hx hy (by omega) (by rw [UInt8.toNat_mod];exact (Int.ofNat_tmod _ _).symm) h
end
end Go.Fw
namespace Go.Proofs.Ytpdekmknnpkmgaa
open Go.Fw Go.RowKit
set_option maxHeartbeats 4000000 in
set_option maxRecDepth 100000 in
theorem c_moveG {O:List Nat} (c_cs:List Value) (c:Circle) (m_cs:List Value) (m:MoveG) (w:World) (e8:Enc.circle.rd w O c_cs c) (c5:Enc.movg.rd w O m_cs m) (hO:∀ b∈O,b<w.heap.size):DA Try.prog 24 [.agg c_cs.toArray, .agg m_cs.toArray] w (fun v w'=>∃ (x0:List Value),v = .tuple #[.agg x0.toArray,vI ((AH c m.kind m.no m.guardian m.day).2.1),vI ((AH c m.kind m.no m.guardian m.day).2.2)]∧Enc.circle.rd w' (O) x0 ((AH c m.kind m.no m.guardian m.day).1)):= by
 have e8:Enc.circle.rd w ([]++O) c_cs c:=e8
 have c5:Enc.movg.rd w ([]++O) m_cs m:=c5
 have s0:St w O w []:=St.start hO
 have p8:=mod4_ltG m.no
 refine CA 63 Try.func24 rfl rfl oT (fun F0=>AF (AB kR (AA (EY (E:=Enc.circle) (vA c_cs.toArray) (c_cs) c rfl rfl e8 s0 fun l3 g9 h0 h1 l4 a1=>(?_)))))
 have c5:Enc.movg.rd g9 ([]++O) m_cs (m):=Enc.mv Enc.movg (x:=m) c5 h1
 refine AA (EY (E:=Enc.movg) (vA m_cs.toArray) (m_cs) m rfl rfl c5 h0 fun l5 l6 h2 h3 l7 a2=>(?_))
 have a1:=a1.mv h3
 refine AA (BS [vI 0,vI 0,vI 0,nS,nS] EZ rfl h2 fun b1 c1 h4 b2 d9 l8 a0=>(?_))
 clear h4
 have a1:=a1.mv d9
 have a2:=a2.mv d9
 refine AA (AG (vI 0) rfl (AA (AG (vI 0) rfl (AE (AC (AF (AB kR (AA (BG 4 BR (c.recs) rfl a1 (fun _ _ _ h=>BO h) fun l9 e9=>(AA (CD U23_ rfl rfl e9 fun m0 c6=>(?_))))))))))))
 have:=c6.len_le
 refine AA (CO U23_ rfl c6 (AA (o_sub .i64 (c.recs.length:Int) (1:Int) ((c.recs.length:Int) - (1:Int)) rfl rfl (HR oM oM) (AA (BG 1 f_41_1 (m.no) rfl a2 (fun _ _ _ h=>Enc_movg_f1 h) fun m1 f0=>(AA (o_loadB U5_ rfl rfl f0 (AA (JG m.no (4:UInt8) (by decide) rfl rfl (AA (KE .u8 .i64 U5_ U3_ ((m.no % 4).toNat:Int) ((m.no % 4).toNat:Int) rfl (by have:=(m.no % 4).toNat_lt;exact HR oM rfl) (AA (o_sub .i64 ((c.recs.length:Int) - (1:Int)) ((m.no % 4).toNat:Int) (((c.recs.length:Int) - (1:Int)) - ((m.no % 4).toNat:Int)) rfl rfl (HR oM oM) (AA (AG (vI (((c.recs.length:Int) - (1:Int)) - ((m.no % 4).toNat:Int))) rfl (AE (AC (AF (AF (AB kR (AA (BG 0 KR (m.kind) rfl a2 (fun _ _ _ h=>Enc_movg_f0 h) fun m2 f1=>(AA (o_loadB U5_ rfl rfl f1 (AA (JG m.kind (4:UInt8) (by decide) rfl rfl (AE (AC (BX (AF (AB kR (AA (HL (m.kind % 4) (0:UInt8) rfl rfl (AA (AG (vO ((m.kind % 4) == (0:UInt8))) rfl (AE (AC (AP ((m.kind % 4) == (0:UInt8)) rfl rfl (fun c2=>?_) (fun c2=>?_)))))))))))))))))))))))))))))))))))))))
 ·have k7:m.kind % 4=(0:UInt8):=by simpa using c2
  refine AB kR (AA (CH U25_ rfl AV rfl a1 fun c7 f2=>(AA (BG 3 MA (m.day) rfl a2 (fun _ _ _ h=>IN h) fun m3 f3=>(AA (BW U3_ rfl rfl f3 (AA (BJ (vs:=[vA c7.toArray,vI m.day]) LQ (c_ask (O:=(b1 :: [])++O) c7 c m.day c1 f2 b2.lt) rfl b2 fun m4 m5 h5 m6 h6 h7=>(?_)))))))))
  obtain ⟨c8,rfl,f4⟩:=h7
  have a0:=a0.keep h6 (by simp)
  refine AA (AD (vT #[vA c8.toArray,vI ((BN c m.day).2.1),vI ((BN c m.day).2.2)]) rfl (AA (AJ (vA c8.toArray) rfl rfl (AA (AJ (vI ((BN c m.day).2.1)) rfl rfl (AA (AJ (vI ((BN c m.day).2.2)) rfl rfl (?_))))))))
  obtain ⟨b3,b4,rfl,a3,a4⟩:=f4
  have:=a3.len_le
  have:=a4.len_le
  refine BE (AS (vs:=[vI (((BN c m.day).1).epoch),vI (((BN c m.day).1).threshold),vI (((BN c m.day).1).wait),b3,b4]) (.agg #[vI (((BN c m.day).1).epoch),vI (((BN c m.day).1).threshold),vI (((BN c m.day).1).wait),b3,b4]) rfl rfl rfl AV (fun u hu=>by simp only [List.mem_cons,List.not_mem_nil,or_false] at hu;rcases hu with rfl|rfl|rfl|rfl|rfl <;> first|rfl|exact a3.oneCell|exact a4.oneCell) (by repeat (constructor)) a0 oT h5 fun m7 h8 e0 m8 c9=>(?_))
  have a3:=a3.mv e0
  have a4:=a4.mv e0
  refine AA (AG (vI ((BN c m.day).2.1)) rfl (AA (AG (vI ((BN c m.day).2.2)) rfl (AE (BU (AC (AF (AB kR (AA (AX (vs:=[vI (((BN c m.day).1).epoch),vI (((BN c m.day).1).threshold),vI (((BN c m.day).1).wait),b3,b4]) U25_ rfl AV rfl c9 rfl (AA (AD (vI ((BN c m.day).2.1)) rfl (AA (AD (vI ((BN c m.day).2.2)) rfl (BE (AS (vs:=[vI (((BN c m.day).1).epoch),vI (((BN c m.day).1).threshold),vI (((BN c m.day).1).wait),b3,b4]) (.agg #[vI (((BN c m.day).1).epoch),vI (((BN c m.day).1).threshold),vI (((BN c m.day).1).wait),b3,b4]) rfl rfl rfl AV (fun u hu=>by simp only [List.mem_cons,List.not_mem_nil,or_false] at hu;rcases hu with rfl|rfl|rfl|rfl|rfl <;> first|rfl|exact a3.oneCell|exact a4.oneCell) (by repeat (constructor)) c9 oT h8 fun m9 h9 e1 n2 f5=>(?_)))))))))))))))))
  have a3:=a3.mv e1
  have a4:=a4.mv e1
  refine AA (AG (vI ((BN c m.day).2.1)) rfl (AA (AG (vI ((BN c m.day).2.2)) rfl (AE (AC (AT (BF rfl (GZ rfl (CN (vs:=[vI (((BN c m.day).1).epoch),vI (((BN c m.day).1).threshold),vI (((BN c m.day).1).wait),b3,b4]) rfl U25_ rfl AV rfl f5 rfl) (CY rfl rfl) (CY rfl rfl)) (?_))))))))
  have i0:((AH c m.kind m.no m.guardian m.day).1)=((BN c m.day).1):=by exact congrArg (fun p=>p.1) (show AH c m.kind m.no m.guardian m.day=_ from mv_0 aS)
  have i1:((AH c m.kind m.no m.guardian m.day).2.1)=((BN c m.day).2.1):=by exact congrArg (fun p=>p.2.1) (show AH c m.kind m.no m.guardian m.day=_ from mv_0 aS)
  have i2:((AH c m.kind m.no m.guardian m.day).2.2)=((BN c m.day).2.2):=by exact congrArg (fun p=>p.2.2) (show AH c m.kind m.no m.guardian m.day=_ from mv_0 aS)
  exact ⟨_,rfl,h9.keep,by rw [i0,i1,i2];exact ⟨[vI (((BN c m.day).1).epoch),vI (((BN c m.day).1).threshold),vI (((BN c m.day).1).wait),b3,b4],rfl,Enc.out (B:=(b1 :: [])) ⟨_,_,rfl,a3,a4⟩⟩⟩
 have k8:m.kind % 4≠(0:UInt8):=by simpa using c2
 refine AF (AB kR (AA (HL (m.kind % 4) (1:UInt8) rfl rfl (AA (AG (vO ((m.kind % 4) == (1:UInt8))) rfl (AE (AC (AP ((m.kind % 4) == (1:UInt8)) rfl rfl (fun c3=>?_) (fun c3=>?_)))))))))
 ·have k9:m.kind % 4=(1:UInt8):=by simpa using c3
  refine AB kR (AA (CH U25_ rfl AV rfl a1 fun d0 f6=>(AA (AD (vI (((c.recs.length:Int) - (1:Int)) - ((m.no % 4).toNat:Int))) rfl (AA (BG 2 f_41_2 (m.guardian) rfl a2 (fun _ _ _ h=>Enc_movg_f2 h) fun n3 f7=>(AA (o_loadB U5_ rfl rfl f7 (AA (KE .u8 .i64 U5_ U3_ (m.guardian.toNat:Int) (m.guardian.toNat:Int) rfl (by have:=(m.guardian).toNat_lt;exact HR oM rfl) (AA (BJ (vs:=[vA d0.toArray,vI (((c.recs.length:Int) - (1:Int)) - ((m.no % 4).toNat:Int)),vI (m.guardian.toNat:Int)]) HO (GR (O:=(b1 :: [])++O) d0 c (((c.recs.length:Int) - (1:Int)) - ((m.no % 4).toNat:Int)) (m.guardian.toNat:Int) c1 f6 b2.lt) rfl b2 fun n4 n5 i3 n6 i4 i5=>(?_)))))))))))))
  obtain ⟨d1,rfl,f8⟩:=i5
  have a0:=a0.keep i4 (by simp)
  refine AA (AD (vT #[vA d1.toArray,vI ((AK c (((c.recs.length:Int) - (1:Int)) - ((m.no % 4).toNat:Int)) (AI c (m.guardian.toNat:Int))).2)]) rfl (AA (AJ (vA d1.toArray) rfl rfl (AA (AJ (vI ((AK c (((c.recs.length:Int) - (1:Int)) - ((m.no % 4).toNat:Int)) (AI c (m.guardian.toNat:Int))).2)) rfl rfl (?_))))))
  obtain ⟨b5,b6,rfl,a5,a6⟩:=f8
  have:=a5.len_le
  have:=a6.len_le
  refine BE (AS (vs:=[vI (((AK c (((c.recs.length:Int) - (1:Int)) - ((m.no % 4).toNat:Int)) (AI c (m.guardian.toNat:Int))).1).epoch),vI (((AK c (((c.recs.length:Int) - (1:Int)) - ((m.no % 4).toNat:Int)) (AI c (m.guardian.toNat:Int))).1).threshold),vI (((AK c (((c.recs.length:Int) - (1:Int)) - ((m.no % 4).toNat:Int)) (AI c (m.guardian.toNat:Int))).1).wait),b5,b6]) (.agg #[vI (((AK c (((c.recs.length:Int) - (1:Int)) - ((m.no % 4).toNat:Int)) (AI c (m.guardian.toNat:Int))).1).epoch),vI (((AK c (((c.recs.length:Int) - (1:Int)) - ((m.no % 4).toNat:Int)) (AI c (m.guardian.toNat:Int))).1).threshold),vI (((AK c (((c.recs.length:Int) - (1:Int)) - ((m.no % 4).toNat:Int)) (AI c (m.guardian.toNat:Int))).1).wait),b5,b6]) rfl rfl rfl AV (fun u hu=>by simp only [List.mem_cons,List.not_mem_nil,or_false] at hu;rcases hu with rfl|rfl|rfl|rfl|rfl <;> first|rfl|exact a5.oneCell|exact a6.oneCell) (by repeat (constructor)) a0 oT i3 fun n7 i6 e2 n9 d2=>(?_))
  have a5:=a5.mv e2
  have a6:=a6.mv e2
  refine AA (AG (vI ((AK c (((c.recs.length:Int) - (1:Int)) - ((m.no % 4).toNat:Int)) (AI c (m.guardian.toNat:Int))).2)) rfl (AE (BU (AC (AF (AB kR (AA (AX (vs:=[vI (((AK c (((c.recs.length:Int) - (1:Int)) - ((m.no % 4).toNat:Int)) (AI c (m.guardian.toNat:Int))).1).epoch),vI (((AK c (((c.recs.length:Int) - (1:Int)) - ((m.no % 4).toNat:Int)) (AI c (m.guardian.toNat:Int))).1).threshold),vI (((AK c (((c.recs.length:Int) - (1:Int)) - ((m.no % 4).toNat:Int)) (AI c (m.guardian.toNat:Int))).1).wait),b5,b6]) U25_ rfl AV rfl d2 rfl (AA (AD (vI (((c.recs.length:Int) - (1:Int)) - ((m.no % 4).toNat:Int))) rfl (AA (AD (vI ((AK c (((c.recs.length:Int) - (1:Int)) - ((m.no % 4).toNat:Int)) (AI c (m.guardian.toNat:Int))).2)) rfl (BE (AS (vs:=[vI (((AK c (((c.recs.length:Int) - (1:Int)) - ((m.no % 4).toNat:Int)) (AI c (m.guardian.toNat:Int))).1).epoch),vI (((AK c (((c.recs.length:Int) - (1:Int)) - ((m.no % 4).toNat:Int)) (AI c (m.guardian.toNat:Int))).1).threshold),vI (((AK c (((c.recs.length:Int) - (1:Int)) - ((m.no % 4).toNat:Int)) (AI c (m.guardian.toNat:Int))).1).wait),b5,b6]) (.agg #[vI (((AK c (((c.recs.length:Int) - (1:Int)) - ((m.no % 4).toNat:Int)) (AI c (m.guardian.toNat:Int))).1).epoch),vI (((AK c (((c.recs.length:Int) - (1:Int)) - ((m.no % 4).toNat:Int)) (AI c (m.guardian.toNat:Int))).1).threshold),vI (((AK c (((c.recs.length:Int) - (1:Int)) - ((m.no % 4).toNat:Int)) (AI c (m.guardian.toNat:Int))).1).wait),b5,b6]) rfl rfl rfl AV (fun u hu=>by simp only [List.mem_cons,List.not_mem_nil,or_false] at hu;rcases hu with rfl|rfl|rfl|rfl|rfl <;> first|rfl|exact a5.oneCell|exact a6.oneCell) (by repeat (constructor)) d2 oT i6 fun o0 i7 e3 o1 f9=>(?_)))))))))))))))
  have a5:=a5.mv e3
  have a6:=a6.mv e3
  refine AA (AG (vI (((c.recs.length:Int) - (1:Int)) - ((m.no % 4).toNat:Int))) rfl (AA (AG (vI ((AK c (((c.recs.length:Int) - (1:Int)) - ((m.no % 4).toNat:Int)) (AI c (m.guardian.toNat:Int))).2)) rfl (AE (AC (AT (BF rfl (GZ rfl (CN (vs:=[vI (((AK c (((c.recs.length:Int) - (1:Int)) - ((m.no % 4).toNat:Int)) (AI c (m.guardian.toNat:Int))).1).epoch),vI (((AK c (((c.recs.length:Int) - (1:Int)) - ((m.no % 4).toNat:Int)) (AI c (m.guardian.toNat:Int))).1).threshold),vI (((AK c (((c.recs.length:Int) - (1:Int)) - ((m.no % 4).toNat:Int)) (AI c (m.guardian.toNat:Int))).1).wait),b5,b6]) rfl U25_ rfl AV rfl f9 rfl) (CY rfl rfl) (CY rfl rfl)) (?_))))))))
  have i8:((AH c m.kind m.no m.guardian m.day).1)=((AK c (((c.recs.length:Int) - (1:Int)) - ((m.no % 4).toNat:Int)) (AI c (m.guardian.toNat:Int))).1):=by exact congrArg (fun p=>p.1) (show AH c m.kind m.no m.guardian m.day=_ from mv_1 aS)
  have i9:((AH c m.kind m.no m.guardian m.day).2.1)=(((c.recs.length:Int) - (1:Int)) - ((m.no % 4).toNat:Int)):=by exact congrArg (fun p=>p.2.1) (show AH c m.kind m.no m.guardian m.day=_ from mv_1 aS)
  have j0:((AH c m.kind m.no m.guardian m.day).2.2)=((AK c (((c.recs.length:Int) - (1:Int)) - ((m.no % 4).toNat:Int)) (AI c (m.guardian.toNat:Int))).2):=by exact congrArg (fun p=>p.2.2) (show AH c m.kind m.no m.guardian m.day=_ from mv_1 aS)
  exact ⟨_,rfl,i7.keep,by rw [i8,i9,j0];exact ⟨[vI (((AK c (((c.recs.length:Int) - (1:Int)) - ((m.no % 4).toNat:Int)) (AI c (m.guardian.toNat:Int))).1).epoch),vI (((AK c (((c.recs.length:Int) - (1:Int)) - ((m.no % 4).toNat:Int)) (AI c (m.guardian.toNat:Int))).1).threshold),vI (((AK c (((c.recs.length:Int) - (1:Int)) - ((m.no % 4).toNat:Int)) (AI c (m.guardian.toNat:Int))).1).wait),b5,b6],rfl,Enc.out (B:=(b1 :: [])) ⟨_,_,rfl,a5,a6⟩⟩⟩
 have l0:m.kind % 4≠(1:UInt8):=by simpa using c3
 refine AF (AB kR (AA (HL (m.kind % 4) (2:UInt8) rfl rfl (AA (AG (vO ((m.kind % 4) == (2:UInt8))) rfl (AE (AC (AP ((m.kind % 4) == (2:UInt8)) rfl rfl (fun c4=>?_) (fun c4=>?_)))))))))
 ·have l1:m.kind % 4=(2:UInt8):=by simpa using c4
  refine AB kR (AA (CH U25_ rfl AV rfl a1 fun d3 g0=>(AA (AD (vI (((c.recs.length:Int) - (1:Int)) - ((m.no % 4).toNat:Int))) rfl (AA (BG 3 MA (m.day) rfl a2 (fun _ _ _ h=>IN h) fun o2 g1=>(AA (BW U3_ rfl rfl g1 (AA (BJ (vs:=[vA d3.toArray,vI (((c.recs.length:Int) - (1:Int)) - ((m.no % 4).toNat:Int)),vI m.day]) LU (c_veto (O:=(b1 :: [])++O) d3 c (((c.recs.length:Int) - (1:Int)) - ((m.no % 4).toNat:Int)) m.day c1 g0 b2.lt) rfl b2 fun o3 o4 j1 o5 j2 j3=>(?_)))))))))))
  obtain ⟨d4,rfl,g2⟩:=j3
  have a0:=a0.keep j2 (by simp)
  refine AA (AD (vT #[vA d4.toArray,vI ((AK c (((c.recs.length:Int) - (1:Int)) - ((m.no % 4).toNat:Int)) (BH m.day)).2)]) rfl (AA (AJ (vA d4.toArray) rfl rfl (AA (AJ (vI ((AK c (((c.recs.length:Int) - (1:Int)) - ((m.no % 4).toNat:Int)) (BH m.day)).2)) rfl rfl (?_))))))
  obtain ⟨b7,b8,rfl,a7,a8⟩:=g2
  have:=a7.len_le
  have:=a8.len_le
  refine BE (AS (vs:=[vI (((AK c (((c.recs.length:Int) - (1:Int)) - ((m.no % 4).toNat:Int)) (BH m.day)).1).epoch),vI (((AK c (((c.recs.length:Int) - (1:Int)) - ((m.no % 4).toNat:Int)) (BH m.day)).1).threshold),vI (((AK c (((c.recs.length:Int) - (1:Int)) - ((m.no % 4).toNat:Int)) (BH m.day)).1).wait),b7,b8]) (.agg #[vI (((AK c (((c.recs.length:Int) - (1:Int)) - ((m.no % 4).toNat:Int)) (BH m.day)).1).epoch),vI (((AK c (((c.recs.length:Int) - (1:Int)) - ((m.no % 4).toNat:Int)) (BH m.day)).1).threshold),vI (((AK c (((c.recs.length:Int) - (1:Int)) - ((m.no % 4).toNat:Int)) (BH m.day)).1).wait),b7,b8]) rfl rfl rfl AV (fun u hu=>by simp only [List.mem_cons,List.not_mem_nil,or_false] at hu;rcases hu with rfl|rfl|rfl|rfl|rfl <;> first|rfl|exact a7.oneCell|exact a8.oneCell) (by repeat (constructor)) a0 oT j1 fun o6 j4 e4 o7 d5=>(?_))
  have a7:=a7.mv e4
  have a8:=a8.mv e4
  refine AA (AG (vI ((AK c (((c.recs.length:Int) - (1:Int)) - ((m.no % 4).toNat:Int)) (BH m.day)).2)) rfl (AE (BU (AC (AF (AB kR (AA (AX (vs:=[vI (((AK c (((c.recs.length:Int) - (1:Int)) - ((m.no % 4).toNat:Int)) (BH m.day)).1).epoch),vI (((AK c (((c.recs.length:Int) - (1:Int)) - ((m.no % 4).toNat:Int)) (BH m.day)).1).threshold),vI (((AK c (((c.recs.length:Int) - (1:Int)) - ((m.no % 4).toNat:Int)) (BH m.day)).1).wait),b7,b8]) U25_ rfl AV rfl d5 rfl (AA (AD (vI (((c.recs.length:Int) - (1:Int)) - ((m.no % 4).toNat:Int))) rfl (AA (AD (vI ((AK c (((c.recs.length:Int) - (1:Int)) - ((m.no % 4).toNat:Int)) (BH m.day)).2)) rfl (BE (AS (vs:=[vI (((AK c (((c.recs.length:Int) - (1:Int)) - ((m.no % 4).toNat:Int)) (BH m.day)).1).epoch),vI (((AK c (((c.recs.length:Int) - (1:Int)) - ((m.no % 4).toNat:Int)) (BH m.day)).1).threshold),vI (((AK c (((c.recs.length:Int) - (1:Int)) - ((m.no % 4).toNat:Int)) (BH m.day)).1).wait),b7,b8]) (.agg #[vI (((AK c (((c.recs.length:Int) - (1:Int)) - ((m.no % 4).toNat:Int)) (BH m.day)).1).epoch),vI (((AK c (((c.recs.length:Int) - (1:Int)) - ((m.no % 4).toNat:Int)) (BH m.day)).1).threshold),vI (((AK c (((c.recs.length:Int) - (1:Int)) - ((m.no % 4).toNat:Int)) (BH m.day)).1).wait),b7,b8]) rfl rfl rfl AV (fun u hu=>by simp only [List.mem_cons,List.not_mem_nil,or_false] at hu;rcases hu with rfl|rfl|rfl|rfl|rfl <;> first|rfl|exact a7.oneCell|exact a8.oneCell) (by repeat (constructor)) d5 oT j4 fun o8 j5 e5 o9 g3=>(?_)))))))))))))))
  have a7:=a7.mv e5
  have a8:=a8.mv e5
  refine AA (AG (vI (((c.recs.length:Int) - (1:Int)) - ((m.no % 4).toNat:Int))) rfl (AA (AG (vI ((AK c (((c.recs.length:Int) - (1:Int)) - ((m.no % 4).toNat:Int)) (BH m.day)).2)) rfl (AE (AC (AT (BF rfl (GZ rfl (CN (vs:=[vI (((AK c (((c.recs.length:Int) - (1:Int)) - ((m.no % 4).toNat:Int)) (BH m.day)).1).epoch),vI (((AK c (((c.recs.length:Int) - (1:Int)) - ((m.no % 4).toNat:Int)) (BH m.day)).1).threshold),vI (((AK c (((c.recs.length:Int) - (1:Int)) - ((m.no % 4).toNat:Int)) (BH m.day)).1).wait),b7,b8]) rfl U25_ rfl AV rfl g3 rfl) (CY rfl rfl) (CY rfl rfl)) (?_))))))))
  have j6:((AH c m.kind m.no m.guardian m.day).1)=((AK c (((c.recs.length:Int) - (1:Int)) - ((m.no % 4).toNat:Int)) (BH m.day)).1):=by exact congrArg (fun p=>p.1) (show AH c m.kind m.no m.guardian m.day=_ from mv_2 aS)
  have j7:((AH c m.kind m.no m.guardian m.day).2.1)=(((c.recs.length:Int) - (1:Int)) - ((m.no % 4).toNat:Int)):=by exact congrArg (fun p=>p.2.1) (show AH c m.kind m.no m.guardian m.day=_ from mv_2 aS)
  have j8:((AH c m.kind m.no m.guardian m.day).2.2)=((AK c (((c.recs.length:Int) - (1:Int)) - ((m.no % 4).toNat:Int)) (BH m.day)).2):=by exact congrArg (fun p=>p.2.2) (show AH c m.kind m.no m.guardian m.day=_ from mv_2 aS)
  exact ⟨_,rfl,j5.keep,by rw [j6,j7,j8];exact ⟨[vI (((AK c (((c.recs.length:Int) - (1:Int)) - ((m.no % 4).toNat:Int)) (BH m.day)).1).epoch),vI (((AK c (((c.recs.length:Int) - (1:Int)) - ((m.no % 4).toNat:Int)) (BH m.day)).1).threshold),vI (((AK c (((c.recs.length:Int) - (1:Int)) - ((m.no % 4).toNat:Int)) (BH m.day)).1).wait),b7,b8],rfl,Enc.out (B:=(b1 :: [])) ⟨_,_,rfl,a7,a8⟩⟩⟩
 have l2:m.kind % 4≠(2:UInt8):=by simpa using c4
 refine AF (AB kR (AA (HL (m.kind % 4) (3:UInt8) rfl rfl (AA (AG (vO ((m.kind % 4) == (3:UInt8))) rfl (AE (AC (?_))))))))
 have g4:((m.kind % 4) == (3:UInt8))=true:=(beq_iff_eq.2 (mod4_3 aS aS aS))
 rw [g4]
 refine AP true rfl rfl (fun _=>AB kR (AA (CH U25_ rfl AV rfl a1 fun d6 g5=>(AA (AD (vI (((c.recs.length:Int) - (1:Int)) - ((m.no % 4).toNat:Int))) rfl (AA (BG 3 MA (m.day) rfl a2 (fun _ _ _ h=>IN h) fun p0 g6=>(AA (BW U3_ rfl rfl g6 (AA (BJ (vs:=[vA d6.toArray,vI (((c.recs.length:Int) - (1:Int)) - ((m.no % 4).toNat:Int)),vI m.day]) IK (IS (O:=(b1 :: [])++O) d6 c (((c.recs.length:Int) - (1:Int)) - ((m.no % 4).toNat:Int)) m.day c1 g5 b2.lt) rfl b2 fun p1 p2 j9 p3 k0 k1=>(?_)))))))))))) (fun h=>by cases h)
 obtain ⟨d7,rfl,g7⟩:=k1
 have a0:=a0.keep k0 (by simp)
 refine AA (AD (vT #[vA d7.toArray,vI ((AK c (((c.recs.length:Int) - (1:Int)) - ((m.no % 4).toNat:Int)) (AN c m.day)).2)]) rfl (AA (AJ (vA d7.toArray) rfl rfl (AA (AJ (vI ((AK c (((c.recs.length:Int) - (1:Int)) - ((m.no % 4).toNat:Int)) (AN c m.day)).2)) rfl rfl (?_))))))
 obtain ⟨b9,c0,rfl,a9,b0⟩:=g7
 have:=a9.len_le
 have:=b0.len_le
 refine BE (AS (vs:=[vI (((AK c (((c.recs.length:Int) - (1:Int)) - ((m.no % 4).toNat:Int)) (AN c m.day)).1).epoch),vI (((AK c (((c.recs.length:Int) - (1:Int)) - ((m.no % 4).toNat:Int)) (AN c m.day)).1).threshold),vI (((AK c (((c.recs.length:Int) - (1:Int)) - ((m.no % 4).toNat:Int)) (AN c m.day)).1).wait),b9,c0]) (.agg #[vI (((AK c (((c.recs.length:Int) - (1:Int)) - ((m.no % 4).toNat:Int)) (AN c m.day)).1).epoch),vI (((AK c (((c.recs.length:Int) - (1:Int)) - ((m.no % 4).toNat:Int)) (AN c m.day)).1).threshold),vI (((AK c (((c.recs.length:Int) - (1:Int)) - ((m.no % 4).toNat:Int)) (AN c m.day)).1).wait),b9,c0]) rfl rfl rfl AV (fun u hu=>by simp only [List.mem_cons,List.not_mem_nil,or_false] at hu;rcases hu with rfl|rfl|rfl|rfl|rfl <;> first|rfl|exact a9.oneCell|exact b0.oneCell) (by repeat (constructor)) a0 oT j9 fun p4 k2 e6 p5 d8=>(?_))
 have a9:=a9.mv e6
 have b0:=b0.mv e6
 refine AA (AG (vI ((AK c (((c.recs.length:Int) - (1:Int)) - ((m.no % 4).toNat:Int)) (AN c m.day)).2)) rfl (AE (BU (AC (AF (AB kR (AA (AX (vs:=[vI (((AK c (((c.recs.length:Int) - (1:Int)) - ((m.no % 4).toNat:Int)) (AN c m.day)).1).epoch),vI (((AK c (((c.recs.length:Int) - (1:Int)) - ((m.no % 4).toNat:Int)) (AN c m.day)).1).threshold),vI (((AK c (((c.recs.length:Int) - (1:Int)) - ((m.no % 4).toNat:Int)) (AN c m.day)).1).wait),b9,c0]) U25_ rfl AV rfl d8 rfl (AA (AD (vI (((c.recs.length:Int) - (1:Int)) - ((m.no % 4).toNat:Int))) rfl (AA (AD (vI ((AK c (((c.recs.length:Int) - (1:Int)) - ((m.no % 4).toNat:Int)) (AN c m.day)).2)) rfl (BE (AS (vs:=[vI (((AK c (((c.recs.length:Int) - (1:Int)) - ((m.no % 4).toNat:Int)) (AN c m.day)).1).epoch),vI (((AK c (((c.recs.length:Int) - (1:Int)) - ((m.no % 4).toNat:Int)) (AN c m.day)).1).threshold),vI (((AK c (((c.recs.length:Int) - (1:Int)) - ((m.no % 4).toNat:Int)) (AN c m.day)).1).wait),b9,c0]) (.agg #[vI (((AK c (((c.recs.length:Int) - (1:Int)) - ((m.no % 4).toNat:Int)) (AN c m.day)).1).epoch),vI (((AK c (((c.recs.length:Int) - (1:Int)) - ((m.no % 4).toNat:Int)) (AN c m.day)).1).threshold),vI (((AK c (((c.recs.length:Int) - (1:Int)) - ((m.no % 4).toNat:Int)) (AN c m.day)).1).wait),b9,c0]) rfl rfl rfl AV (fun u hu=>by simp only [List.mem_cons,List.not_mem_nil,or_false] at hu;rcases hu with rfl|rfl|rfl|rfl|rfl <;> first|rfl|exact a9.oneCell|exact b0.oneCell) (by repeat (constructor)) d8 oT k2 fun p6 k3 e7 p7 g8=>(?_)))))))))))))))
 have a9:=a9.mv e7
 have b0:=b0.mv e7
 refine AA (AG (vI (((c.recs.length:Int) - (1:Int)) - ((m.no % 4).toNat:Int))) rfl (AA (AG (vI ((AK c (((c.recs.length:Int) - (1:Int)) - ((m.no % 4).toNat:Int)) (AN c m.day)).2)) rfl (AE (AC (AT (BF rfl (GZ rfl (CN (vs:=[vI (((AK c (((c.recs.length:Int) - (1:Int)) - ((m.no % 4).toNat:Int)) (AN c m.day)).1).epoch),vI (((AK c (((c.recs.length:Int) - (1:Int)) - ((m.no % 4).toNat:Int)) (AN c m.day)).1).threshold),vI (((AK c (((c.recs.length:Int) - (1:Int)) - ((m.no % 4).toNat:Int)) (AN c m.day)).1).wait),b9,c0]) rfl U25_ rfl AV rfl g8 rfl) (CY rfl rfl) (CY rfl rfl)) (?_))))))))
 have k4:((AH c m.kind m.no m.guardian m.day).1)=((AK c (((c.recs.length:Int) - (1:Int)) - ((m.no % 4).toNat:Int)) (AN c m.day)).1):=by exact congrArg (fun p=>p.1) (show AH c m.kind m.no m.guardian m.day=_ from mv_3 aS aS aS)
 have k5:((AH c m.kind m.no m.guardian m.day).2.1)=(((c.recs.length:Int) - (1:Int)) - ((m.no % 4).toNat:Int)):=by exact congrArg (fun p=>p.2.1) (show AH c m.kind m.no m.guardian m.day=_ from mv_3 aS aS aS)
 have k6:((AH c m.kind m.no m.guardian m.day).2.2)=((AK c (((c.recs.length:Int) - (1:Int)) - ((m.no % 4).toNat:Int)) (AN c m.day)).2):=by exact congrArg (fun p=>p.2.2) (show AH c m.kind m.no m.guardian m.day=_ from mv_3 aS aS aS)
 exact ⟨_,rfl,k3.keep,by rw [k4,k5,k6];exact ⟨[vI (((AK c (((c.recs.length:Int) - (1:Int)) - ((m.no % 4).toNat:Int)) (AN c m.day)).1).epoch),vI (((AK c (((c.recs.length:Int) - (1:Int)) - ((m.no % 4).toNat:Int)) (AN c m.day)).1).threshold),vI (((AK c (((c.recs.length:Int) - (1:Int)) - ((m.no % 4).toNat:Int)) (AN c m.day)).1).wait),b9,c0],rfl,Enc.out (B:=(b1 :: [])) ⟨_,_,rfl,a9,b0⟩⟩⟩
set_option maxHeartbeats 4000000 in
set_option maxRecDepth 100000 in
theorem c_countG {O:List Nat} (xs_v:Value) (xs:List Int) (l_v:Value) (l:List Int) (w:World) (a0:BV Enc.int w O xs_v xs) (a1:BV Enc.int w O l_v l) (hO:∀ b∈O,b<w.heap.size):DA Try.prog 26 [xs_v,l_v] w (fun v _=>v=vI ((DL xs l xs.length:Nat):Int)):= by
 have b0:=a0.len_le
 have a0:BV Enc.int w ([]++O) xs_v xs:=a0
 have b6:=a1.len_le
 have a1:BV Enc.int w ([]++O) l_v l:=a1
 have s0:St w O w []:=St.start hO
 refine CA 20 Try.func26 rfl rfl oT (fun F0=>AF (AB kR (AA (AG (vI 0) rfl (AE (AC (AF (AF (AB kR (AA (AD (xs_v) rfl (AA (CO U22_ rfl a0 (AA (AD (vI 0) rfl (AE (AC (BX (FH (fun mI FI wI=>∃ (k:Nat) (B:List Nat),k≤xs.length∧mI=xs.length - k∧(∃ F1,FI=II F1 [(1,l_v),(4,vI ((DL xs l k:Nat):Int)),(7,xs_v),(8,vI (xs.length:Int)),(9,vI ((k:Nat):Int)),(20,undef)])∧St w O wI B∧BV Enc.int wI (B++O) (l_v) (l)∧BV Enc.int wI (B++O) (xs_v) (xs)) (xs.length - (0)) ?_ ?_)))))))))))))))))))
 ·exact ⟨(0),[],oM,rfl,⟨_,BL _ ⟨rfl,(by rfl),rfl,rfl,(by rfl),rfl,trivial⟩⟩,s0,a1,a0⟩
 intro c1 F b1 hI
 clear a1 a0
 obtain ⟨k,a6,hr0_0,c2,⟨c3,rfl⟩,a7,a1,a0⟩:=hI
 have hcl:=countT_le xs l k
 refine AF (AB kR (AA (DU .i64 ((k:Nat):Int) (xs.length:Int) rfl rfl (AE (AC (AF (AP (decide (((k:Nat):Int)<(xs.length:Int))) rfl rfl (fun a2=>?_) (fun a2=>?_))))))))
 ·have b2:((k:Nat):Int)<(xs.length:Int):=by simpa using a2
  refine AZ (AC (AF (BX (AF (AB kR (AA (DV U22_ IA .i64 ((k:Nat):Int) k rfl rfl rfl a0 oM fun b7 a8=>(AA (BW U3_ rfl rfl a8 (AA (AG (vI (xs[k]!)) rfl (AE (AC (AF (AB kR (AA (AD (l_v) rfl (AA (AD (vI (xs[k]!)) rfl (AA (BJ (vs:=[l_v,vI (xs[k]!)]) enter_25 (c_has (O:=a6++O) l_v l (xs[k]!) b1 a1 a7.lt) rfl a7 fun b8 b9 a4 a5 c0 a9=>(?_))))))))))))))))))))))
  obtain rfl:=a9
  have a1:=a1.mv a5
  have a0:=a0.mv a5
  refine AE (AC (AP (l.contains (xs[k]!)) rfl rfl (fun a3=>?_) (fun a3=>?_)))
  ·have b3:(l.contains (xs[k]!))=true:=by simpa using a3
   refine AB kR (AA (AD (vI ((DL xs l k:Nat):Int)) rfl (AA (DQ .i64 ((DL xs l k:Nat):Int) (1:Int) (((DL xs l k+1:Nat):Int)) rfl rfl (HR oM oM) (AA (AG (vI ((DL xs l k+1:Nat):Int)) rfl (AE (BU (AC (AB kR (AA (DQ .i64 ((k:Nat):Int) (1:Int) (((k+1:Nat):Int)) rfl rfl (HR oM oM) (AA (AD (vI ((k+1:Nat):Int)) rfl (AE (AC (?_)))))))))))))))))
   exact ⟨_,oM,(k+1),a6,oM,rfl,⟨_,BL _ ⟨rfl,(by exact congrArg (Value.int _) (by ((rw [KT oM,if_pos aS];done)))),rfl,rfl,(by rfl),rfl,trivial⟩⟩,a4,a1,a0⟩
  have b4:(l.contains (xs[k]!))=false:=by simpa using a3
  refine AZ (BU (AC (AB kR (AA (DQ .i64 ((k:Nat):Int) (1:Int) (((k+1:Nat):Int)) rfl rfl (HR oM oM) (AA (AD (vI ((k+1:Nat):Int)) rfl (AE (AC (?_))))))))))
  exact ⟨_,oM,(k+1),a6,oM,rfl,⟨_,BL _ ⟨rfl,(by exact congrArg (Value.int _) (by ((rw [KT oM,if_neg (by rw [Bool.not_eq_true];assumption)];rfl)))),rfl,rfl,(by rfl),rfl,trivial⟩⟩,a4,a1,a0⟩
 have b5:(xs.length:Int)≤((k:Nat):Int):=by simpa using a2
 obtain rfl:k=xs.length:=by omega
 refine EX (CV (CV (EB (AC (AF (AB kR (AA (AD (vI ((DL xs l xs.length:Nat):Int)) rfl (AA (AG (vI ((DL xs l xs.length:Nat):Int)) rfl (AE (AC (AT (BF rfl (CU rfl rfl rfl) (?_)))))))))))))))
 exact ⟨_,rfl,a7.keep,rfl⟩
end Go.Proofs.Ytpdekmknnpkmgaa
namespace Go.Fw
open Go.RowKit
def CB {α:Type} (P:Program) (s:Sem α):Prop:=∀ w v w',s.run P w = .ok v w'→w'=w∧∀ w2,Keep [] w w2→s.run P w2 = .ok v w2
section
variable {P:Program} {α β:Type}
theorem CB.pure (a:α):CB P (Pure.pure a:Sem α):=fun w v w' h=>by
  simp only [Sem.run_pure] at h ⊢;cases h;exact ⟨rfl,fun _ _=>rfl⟩
theorem CB.halt (h:Halt):CB P (Sem.halt h:Sem α):=fun w v w' e=>by cases e
theorem CB.bind {s:Sem α} {f:α→Sem β} (hs:CB P s) (hf:∀ a,CB P (f a)):CB P (s >>= f):=fun w v w' h=>by
  simp only [Sem.run_bind] at h ⊢
  cases hr:s.run P w with
  | halt x w2=>rw [hr] at h;cases h
  | ok x w1=>
    rw [hr] at h;simp only [Result.andThen_ok] at h
    obtain ⟨rfl,k⟩:=hs w x w1 hr
    obtain ⟨rfl,k2⟩:=hf x _ v w' h
    exact ⟨rfl,fun w2 hk=>by rw [k w2 hk];simp only [Result.andThen_ok];exact k2 w2 hk⟩
def Nv {α:Type} (P:Program) (s:Sem α):Prop:=∀ w v w',s.run P w≠.ok v w'
theorem Nv.sta {s:Sem α} (h:Nv P s):CB P s:=fun w v w' e=>absurd e (h w v w')
theorem Nv.bind {s:Sem α} {f:α→Sem β} (hf:∀ a,Nv P (f a)):Nv P (s >>= f):=fun w v w' h=>by
  simp only [Sem.run_bind] at h
  cases hr:s.run P w with
  | halt x w2=>rw [hr] at h;cases h
  | ok x w1=>rw [hr] at h;simp only [Result.andThen_ok] at h;exact hf x _ _ _ h
theorem nv_rt {x y:Int} {s:Bool} {c:BoundsCode}:Nv P (runtimePanic (.bounds x y s c):Sem α):=by
  unfold runtimePanic
  exact Nv.bind fun p w v w' h=>by cases h
theorem nv_bounds {k:IntKind} {x y:Int} {c:BoundsCode}:Nv P (boundsPanic k x y c:Sem α):=by
  unfold boundsPanic
  split
  · exact Nv.bind fun b=>nv_rt
  · exact Nv.bind fun b=>nv_rt
theorem CB.program:CB P program:=fun w v w' h=>by
  change Result.ok P w=Result.ok v w' at h;cases h;exact ⟨rfl,fun _ _=>rfl⟩
theorem CB.underlying (t:TypeId):CB P (underlying t):=by
  unfold Go.underlying
  refine CB.program.bind fun p=>?_
  split
  · exact CB.pure _
  · exact CB.halt _
theorem CB.typeInfo (t:TypeId):CB P (typeInfo t):=by
  unfold Go.typeInfo
  refine CB.program.bind fun p=>?_
  split
  · exact CB.pure _
  · exact CB.halt _
theorem CB.sizeOf (t:TypeId):CB P (sizeOf t):=(CB.typeInfo t).bind fun _=>CB.pure _
theorem CB.isAgg (t:TypeId):CB P (isAgg t):=by
  unfold Go.isAgg
  refine (CB.underlying t).bind fun d=>?_
  split <;> exact CB.pure _
theorem FE {w w2:World} (k:Keep [] w w2) {r:Nat} {o:Obj} (h:w.heap[r]? = some o):w2.heap[r]? = some o:=by
  rw [k.block r (Array.getElem?_eq_some_iff.1 h).1 (by simp)];exact h
theorem cell_keep {w w2:World} (k:Keep [] w w2) {a:Addr} {v:Value} (h:w.cell? a=some v):w2.cell? a=some v:=by
  unfold World.cell? at h ⊢
  cases hb:w.heap[a.block]? with
  | none=>rw [hb] at h;cases h
  | some o=>rw [FE k hb];rw [hb] at h;exact h
theorem CB.load (a:Addr) (m:Mode):CB P (load a m):=fun w v w' h=>by
  unfold Go.load at h ⊢
  simp only [Sem.run] at h ⊢
  cases hc:w.cell? a with
  | some x=>
    rw [hc] at h;simp only at h
    change Result.ok x w=Result.ok v w' at h
    cases h
    exact ⟨rfl,fun w2 k=>by simp only [cell_keep k hc];first|done|rfl⟩
  | none=>
    rw [hc] at h;simp only at h
    unfold World.farLoad at h
    cases hb:w.heap[a.block]? with
    | none=>rw [hb] at h;simp only at h;cases h
    | some o=>
      rw [hb] at h
      cases o with
      | view at_ u=>
        simp only at h
        cases hv:w.viewLoad P at_ u a (m == .atomic) with
        | error e=>rw [hv] at h;cases h
        | ok r=>
          rw [hv] at h
          obtain ⟨x,es⟩:=r
          change Result.ok x w=Result.ok v w' at h
          cases h
          refine ⟨rfl,fun w2 k=>?_⟩
          have hc2:w2.cell? a=none:=by unfold World.cell?;rw [FE k hb]
          have hv2:w2.viewLoad P at_ u a (m == .atomic) = .ok (v,es):=by
            cases hb2:w.heap[at_.block]? with
            | some o2=>
              rw [← hv]
              unfold World.viewLoad World.seen
              rw [FE k hb2,hb2]
            | none=>
              exfalso
              unfold World.viewLoad World.seen at hv
              rw [hb2] at hv
              simp only [bind,Except.bind,throw,throwThe,MonadExceptOf.throw] at hv
              repeat' split at hv
              all_goals first|cases hv|skip
              all_goals (rename_i h9;repeat' split at h9)
              all_goals first|cases h9|skip
          rw [hc2];simp only
          unfold World.farLoad
          simp only [FE k hb,hv2]
          first|done|rfl
      | _=>simp only at h;cases h
theorem CB.loadCellsFrom (a:Addr):∀ (n i:Nat) (acc:Array Value),CB P (loadCellsFrom a i n acc)
  | 0,i,acc=>CB.pure _
  | n+1,i,acc=>(CB.load _ _).bind fun v=>CB.loadCellsFrom a n (i+1) _
theorem CB.loadVar (t:TypeId) (a:Addr):CB P (loadVar t a):=by
  unfold Go.loadVar
  refine (CB.isAgg t).bind fun b=>?_
  split
  · exact (CB.sizeOf t).bind fun n=>(CB.loadCellsFrom _ _ _ _).bind fun _=>CB.pure _
  · exact CB.load _ _
theorem CB.sureAddr (x:Value):CB P (Instr.sureAddr x):=by
  unfold Instr.sureAddr;split
  · exact CB.pure _
  · exact CB.halt _
theorem CB.asIntOf (x:Value):CB P (asIntOf x):=by
  unfold Go.asIntOf;split
  · exact CB.pure _
  · exact CB.halt _
  · exact CB.halt _
theorem CB.asBool (x:Value):CB P (asBool x):=by
  unfold Go.asBool;split
  · exact CB.pure _
  · exact CB.halt _
theorem CB.asAgg (x:Value):CB P (asAgg x):=by
  unfold Go.asAgg;split
  · exact CB.pure _
  · exact CB.halt _
theorem CB.indexAt (t:TypeId) (x i:Value):CB P (Instr.indexAt t x i):=by
  unfold Instr.indexAt
  refine (CB.asIntOf i).bind fun ki=>(CB.underlying t).bind fun d=>?_
  simp only
  repeat' first
    | exact CB.pure _
    | exact CB.halt _
    | exact nv_bounds.sta
    | exact CB.underlying _
    | exact CB.sizeOf _
    | exact CB.sureAddr _
    | refine CB.bind ?_ fun _=>?_
    | split
theorem CB.part (t:TypeId) (cs:Array Value) (off:Nat):CB P (part t cs off):=by
  unfold Go.part
  refine (CB.isAgg t).bind fun b=>?_
  split
  · exact (CB.sizeOf t).bind fun _=>CB.pure _
  · split
    · exact CB.pure _
    · exact CB.halt _
theorem CB.field (t:TypeId) (x:Value) (k:Nat):CB P (Instr.field t x k):=by
  unfold Instr.field
  refine (CB.underlying t).bind fun d=>?_
  split
  · split
    · exact (CB.asAgg _).bind fun _=>CB.part _ _ _
    · exact CB.halt _
  · exact CB.halt _
theorem CB.extract (x:Value) (k:Nat):CB P (Instr.extract x k):=by
  unfold Instr.extract
  split
  · split
    · exact CB.pure _
    · exact CB.halt _
  · exact CB.halt _
theorem CB.getObj (r:Nat):CB P (getObj r):=fun w v w' h=>by
  unfold Go.getObj at h ⊢
  simp only [Sem.run] at h ⊢
  cases hb:w.heap[r]? with
  | none=>rw [hb] at h;cases h
  | some o=>
    rw [hb] at h
    cases o <;> first
      | (simp only at h;cases h;done)
      | (change Result.ok _ w=Result.ok v w' at h;cases h;exact ⟨rfl,fun w2 k=>by simp only [FE k hb];first|done|rfl⟩)
theorem st_len (ats:Array TypeId) (t:TypeId) (args:Array Value):CB P (Builtin.len_ ats t args):=by
  unfold Builtin.len_
  split
  · refine (CB.underlying _).bind fun d=>?_
    split
    · exact CB.pure _
    · exact CB.pure _
    · refine (CB.underlying _).bind fun d=>?_
      split
      · exact CB.pure _
      · exact CB.halt _
    · exact CB.pure _
    · exact CB.pure _
    · exact CB.pure _
    · refine (CB.getObj _).bind fun o=>?_
      split
      · exact CB.pure _
      · exact CB.halt _
    · refine (CB.getObj _).bind fun o=>?_
      split
      · exact CB.pure _
      · exact CB.halt _
    · exact CB.halt _
  · exact CB.halt _
theorem CB.viewAt (r:Nat):CB P (Go.viewAt r):=fun w v w' h=>by
  have key:∀ (x:World),(Go.viewAt r).run P x=(if (x.shape? r).isSome then Result.ok none x else ((Go.getObj r >>= fun o=>match o with | .view a t=>Pure.pure (some (a,t)) | _=>Pure.pure none:Sem (Option (Addr × TypeId))).run P x)):=fun x=>by
    unfold Go.viewAt
    simp only [Sem.run_bind,run_shape,Result.andThen_ok]
    split
    · simp only [Sem.run_pure]
    · simp only [Sem.run_bind]
      first|done|congr 1
  rw [key] at h
  by_cases c:(w.shape? r).isSome=true
  · rw [if_pos c] at h
    cases h
    refine ⟨rfl,fun w2 k=>?_⟩
    rw [key,if_pos ?_]
    unfold World.shape? at c ⊢
    cases hb:w.heap[r]? with
    | none=>rw [hb] at c;cases c
    | some o=>rw [FE k hb];rw [hb] at c;exact c
  · rw [if_neg c] at h
    have hs:CB P (Go.getObj r >>= fun o=>match o with | .view a t=>Pure.pure (some (a,t)) | _=>Pure.pure none:Sem (Option (Addr × TypeId))):=(CB.getObj r).bind fun o=>by
      split
      · exact CB.pure _
      · exact CB.pure _
    obtain ⟨e,k⟩:=hs w v w' h
    refine ⟨e,fun w2 hk=>?_⟩
    rw [key,if_neg ?_]
    · exact k w2 hk
    · intro c2
      apply c
      cases hb:w.heap[r]? with
      | some o=>unfold World.shape? at c2 ⊢;rw [FE hk hb] at c2;rw [hb];exact c2
      | none=>
        exfalso
        simp only [Sem.run_bind] at h
        unfold Go.getObj at h
        simp only [Sem.run,hb] at h
        cases h
theorem CB.noView (a:Addr):CB P (noView a):=by
  unfold Go.noView
  refine (CB.viewAt _).bind fun o=>?_
  split
  · exact CB.halt _
  · exact CB.pure _
theorem CB.shapeOr {β:Type} (r:Nat) (f:Option (TypeId × Nat)→Sem β) (hn:Nv P (f none)) (hf:∀ x,CB P (f (some x))):CB P (shape r >>= f):=fun w v w' e=>by
  simp only [Sem.run_bind,run_shape,Result.andThen_ok] at e ⊢
  cases hs:w.shape? r with
  | none=>rw [hs] at e;exact absurd e (hn _ _ _)
  | some x=>
    rw [hs] at e
    obtain ⟨e1,k⟩:=hf x w v w' e
    refine ⟨e1,fun w2 hk=>?_⟩
    have:w2.shape? r=some x:=by
      unfold World.shape? at hs ⊢
      cases hb:w.heap[r]? with
      | none=>rw [hb] at hs;cases hs
      | some o=>rw [FE hk hb];rw [hb] at hs;exact hs
    rw [this];exact k w2 hk
theorem CB.byteOf (a:Addr):CB P (byteOf a):=by
  unfold Go.byteOf
  split
  · exact CB.pure _
  · refine CB.program.bind fun p=>(CB.noView a).bind fun _=>CB.shapeOr _ _ (fun w v w' h=>by cases h) fun x=>?_
    simp only
    split
    · exact CB.pure _
    · split
      · exact CB.pure _
      · exact CB.halt _
theorem CB.fieldAt (t:TypeId) (x:Value) (k:Nat):CB P (Instr.fieldAt t x k):=by
  unfold Instr.fieldAt
  refine (CB.underlying t).bind fun d=>?_
  split
  · split
    · refine (CB.sureAddr x).bind fun a=>CB.bind ?_ fun _=>CB.pure _
      unfold Go.fieldPlace
      refine (CB.sizeOf _).bind fun n=>?_
      split
      · unfold Go.partAt
        exact (CB.byteOf _).bind fun _=>(CB.byteOf _).bind fun _=>CB.pure _
      · exact CB.pure _
    · exact CB.halt _
  · exact CB.halt _
def rdOp (op:Op):Bool:=
  match op with
  | .move _ | .assign _ | .pick .. | .load .. | .field .. | .fieldAddr .. | .indexAddr .. | .extract ..=>true
  | .call c=>(match c.callee with | .builtin .len=>true | _=>false)
  | _=>false
theorem rdOp_sta {op:Op} {ty:TypeId} {ρ:Operand→Value} (h:rdOp op=true):CB P (execOp ρ ⟨none,op,ty,"",#[],none⟩):=by
  have key:∀ (s:Sem Value),CB P s→CB P (do Pure.pure (Next.value (← s)):Sem Next):=fun s hs=>hs.bind fun _=>CB.pure _
  cases op with
  | move x=>exact CB.pure _
  | assign x=>exact CB.pure _
  | pick c a b=>
    refine (CB.asBool _).bind fun x=>?_
    exact CB.pure _
  | load t a=>exact key _ ((CB.sureAddr _).bind fun a=>CB.loadVar _ _)
  | field t x k=>exact key _ (CB.field _ _ _)
  | fieldAddr t x k=>exact key _ (CB.fieldAt _ _ _)
  | indexAddr t x i=>exact key _ (CB.indexAt _ _ _)
  | extract t k=>exact key _ (CB.extract _ _)
  | call c=>
    unfold rdOp at h
    simp only at h
    split at h
    · rename_i hc
      have:execOp ρ ⟨none, .call c,ty,"",#[],none⟩ = (do Pure.pure (Next.value (← Builtin.len_ c.argTypes ty (c.args.map ρ))):Sem Next):=by
        simp only [execOp,resolve,hc,pure_bind,invoke,builtin]
      rw [this]
      exact key _ (st_len _ _ _)
    · cases h
  | _=>simp [rdOp] at h
end
open Go.RowKit
theorem wp_mono {P:Program} {ops:List Oper} {w0:World} {R R':Fr→Prop} (hR:∀ F,R F→R' F):∀ (l:List Oper) (F:Fr) (w:World),WP P ops w0 R l F w→WP P ops w0 R' l F w
  | [],F,w,h=>⟨h.1,hR _ h.2⟩
  | o :: l,F,w,h=>by
    refine ⟨h.1,?_⟩
    have h:=h.2
    by_cases c:Region.wanted o (BT ops F)=true
    · rw [if_pos c] at h ⊢
      exact EK h (fun v w' hk=>wp_mono hR l _ _ hk) (fun c w' hz=>hz)
    · rw [if_neg c] at h ⊢
      exact wp_mono hR l _ _ h
def WX (P:Program) (ops:List Oper) (Q:Exit→Fr→World→Prop):List (Nat × Oper)→Fr→World→Prop
  | [],F,w=>Q .normal F w
  | (k,o) :: rest,F,w=>
    if Region.wanted o (BT ops F)=true then
      CT P o.op o.type F w (fun v w'=>((k=1→w'=w)∧(k=2→Keep [] w w'))∧WX P ops Q rest (HG F o.dst v) w') (fun c w'=>k=0∧Q (.panic c) F w')
    else WX P ops Q rest (HG F o.dst undef) w
section
variable {P:Program} {n:Nat} {Q:Exit→Fr→World→Prop} {ops:List Oper}
theorem LY:∀ (l:List Oper) (F:Fr) (w:World),WL false P ops Q l F w→WX P ops Q (l.map fun o=>(0,o)) F w
  | [],F,w,h=>h
  | o :: l,F,w,h=>by
    unfold WL at h
    rw [List.map_cons]
    unfold WX
    by_cases c:Region.wanted o (BT ops F)=true
    · rw [if_pos c] at h ⊢
      have h:=h.resolve_right (fun e=>by cases e.1)
      exact EK h (fun v w' hk=>⟨⟨fun e=>(by cases e),fun e=>(by cases e)⟩,LY l _ _ hk⟩) (fun c w' hz=>⟨rfl,hz⟩)
    · rw [if_neg c] at h ⊢
      exact LY l _ _ h
theorem MI {w0:World} {rest:List (Nat × Oper)}:∀ (l:List Oper) (F:Fr) (w:World),WP P ops w0 (fun F1=>WX P ops Q rest F1 w0) l F w→WX P ops Q (l.map (fun o=>(1,o))++rest) F w
  | [],F,w,h=>by obtain ⟨rfl,h⟩:=h;exact h
  | o :: l,F,w,h=>by
    obtain ⟨rfl,h⟩:=h
    rw [List.map_cons,List.cons_append]
    unfold WX
    by_cases c:Region.wanted o (BT ops F)=true
    · rw [if_pos c] at h ⊢
      exact EK h (fun v w' hk=>⟨⟨fun _=>hk.world,fun e=>by cases e⟩,MI l _ _ hk⟩) (fun c w' hz=>hz.elim)
    · rw [if_neg c] at h ⊢
      exact MI l _ _ h
theorem wx_cong {a b:List (Nat × Oper)} (h:∀ F w,WX P ops Q a F w→WX P ops Q b F w) {j:Nat × Oper} {F:Fr} {w:World} (hj:WX P ops Q (j :: a) F w):WX P ops Q (j :: b) F w:=by
  obtain ⟨k,o⟩:=j
  unfold WX at hj ⊢
  by_cases c:Region.wanted o (BT ops F)=true
  · rw [if_pos c] at hj ⊢
    exact EK hj (fun v w' hk=>⟨hk.1,h _ _ hk.2⟩) (fun c w' hz=>hz)
  · rw [if_neg c] at hj ⊢
    exact h _ _ hj
def MM (op:Op):Bool:=match op with | .select ..=>false | _=>true
theorem LR {o:Oper} {F F':Fr} (hl:∀ t∈HA ops o,F' t=F t):Region.wanted o (BT ops F')=Region.wanted o (BT ops F):=by
  unfold Region.wanted
  cases hg:o.guard with
  | none=>rfl
  | some p=>
    obtain ⟨g,b⟩:=p
    simp only
    have:BT ops F' g=BT ops F g:=by
      unfold BT
      cases hd:(ops[g]?).bind (·.dst) with
      | none=>rfl
      | some d=>simp only;rw [hl d (by unfold HA;rw [hg];simp only [hd];simp)]
    rw [this]
theorem exec_agree {o:Oper} {F F':Fr} (hs:MM o.op=true) (hl:∀ t∈HA ops o,F' t=F t):execOp (BZ F') ⟨none,o.op,o.type,"",#[],none⟩ = execOp (BZ F) ⟨none,o.op,o.type,"",#[],none⟩:=by
  refine JW _ (by revert hs;unfold MM;cases o.op <;> intro hs <;> first|rfl|cases hs) fun x hx=>?_
  cases x with
  | tmp t=>exact hl t (by unfold HA;exact List.mem_append_left _ (List.mem_filterMap.2 ⟨.tmp t,hx,rfl⟩))
  | _=>rfl
theorem FA {o:Oper} {F F':Fr} {w:World} {K:Value→World→Prop} {Z:List PanicEntry→World→Prop} (hs:MM o.op=true) (hl:∀ t∈HA ops o,F' t=F t) (h:CT P o.op o.type F w K Z):CT P o.op o.type F' w K Z:=by
  unfold CT at h ⊢
  rw [exec_agree hs hl];exact h
def mvO (o:Oper):Bool:=o.guard.isNone && (match o.op with | .move _ | .assign _=>true | _=>false)
def offL (ops:List Oper) (o:Oper) (d:Tmp):Bool:=(HA ops o).all fun t=>!Nat.beq t d
def cmB (ops:List Oper) (a b:Nat × Oper):Bool:=
  (match a.2.dst,b.2.dst with|some da,some db=>!Nat.beq da db && offL ops b.2 da && offL ops a.2 db | _,_=>false) && MM a.2.op && MM b.2.op &&
  ((Nat.beq a.1 1 && vOp a.2.op && (Nat.beq b.1 1 || (Nat.beq b.1 2 && rdOp a.2.op))) || mvO a.2 || mvO b.2)
theorem GV {o:Oper} {d:Tmp} {F:Fr} {v:Value} (h:offL ops o d=true):∀ t∈HA ops o,DH F d v t=F t:=fun t ht=>FG _ _ _ (nbeq (List.all_eq_true.1 h t ht))
theorem offL_upd' {o:Oper} {d:Tmp} {F:Fr} {v:Value} (h:offL ops o d=true):∀ t∈HA ops o,F t=DH F d v t:=fun t ht=>(GV h t ht).symm
theorem mvO_run {o:Oper} (h:mvO o=true) (F:Fr):∃ v,∀ w,(execOp (BZ F) ⟨none,o.op,o.type,"",#[],none⟩).run P w = .ok (.value v) w:=by
  obtain ⟨d,op,ty,pos,af,g⟩:=o
  unfold mvO at h
  simp only [Bool.and_eq_true] at h
  cases op with
  | move x=>exact ⟨BZ F x,fun w=>by simp only [execOp,Sem.run_pure]⟩
  | assign x=>exact ⟨BZ F x,fun w=>by simp only [execOp,Sem.run_pure]⟩
  | _=>simp at h
theorem wx_swap {a b:Nat × Oper} {rest:List (Nat × Oper)} {F:Fr} {w:World} (hc:cmB ops a b=true) (hda:okD n a.2.dst=true) (hdb:okD n b.2.dst=true) (hq:∀ c F d v w,d<n→(Q (.panic c) (DH F d v) w↔Q (.panic c) F w)) (h:WX P ops Q (a :: b :: rest) F w):WX P ops Q (b :: a :: rest) F w:=by
  obtain ⟨k1,o1⟩:=a
  obtain ⟨k2,o2⟩:=b
  unfold cmB at hc
  simp only [Bool.and_eq_true,Bool.or_eq_true] at hc hda hdb
  obtain ⟨⟨⟨hc1,s1⟩,s2⟩,hc2⟩:=hc
  cases hd1:o1.dst with
  | none=>rw [hd1] at hc1;simp at hc1
  | some d1=>
  cases hd2:o2.dst with
  | none=>rw [hd1,hd2] at hc1;simp at hc1
  | some d2=>
  rw [hd1,hd2] at hc1
  simp only [Bool.and_eq_true] at hc1
  obtain ⟨⟨hne,hb⟩,ha⟩:=hc1
  have n1:=nbeq hne
  rw [hd1] at hda;rw [hd2] at hdb
  have e:∀ (F:Fr) (v x:Value),DH (DH F d2 x) d1 v=DH (DH F d1 v) d2 x:=fun F v x=>(upd_swap (F:=F) (v:=v) (u:=x) n1).symm
  have w1e:∀ v,Region.wanted o1 (BT ops (DH F d2 v))=Region.wanted o1 (BT ops F):=fun v=>LR (GV ha)
  have w2e:∀ v,Region.wanted o2 (BT ops (DH F d1 v))=Region.wanted o2 (BT ops F):=fun v=>LR (GV hb)
  unfold WX at h
  rw [hd1] at h
  unfold WX
  rw [hd2]
  by_cases c1:Region.wanted o1 (BT ops F)=true
  · rw [if_pos c1] at h
    by_cases c2:Region.wanted o2 (BT ops F)=true
    · rw [if_pos c2]
      rcases hc2 with (hc2|hc2)|hc2
      · -- the first reads
        obtain ⟨⟨hk,hv⟩,hc2⟩:=hc2
        have hk1:=Nat.eq_of_beq_eq_true hk
        subst hk1
        unfold CT at h
        cases hr:(execOp (BZ F) ⟨none,o1.op,o1.type,"",#[],none⟩).run P w with
        | halt x w'=>rw [hr] at h;cases x <;> simp only [FC] at h <;> first|exact h.elim|exact absurd h.1 (by decide)
        | ok r w'=>
          obtain ⟨v1,rfl⟩:=vOp_val (o:=⟨none,o1.op,o1.type,"",#[],none⟩) hv hr
          rw [hr] at h
          have h':((1=1→w'=w)∧(1=2→Keep [] w w'))∧WX P ops Q ((k2,o2) :: rest) (DH F d1 v1) w':=h
          clear h
          obtain ⟨⟨hw,_⟩,h⟩:=h'
          have:=hw rfl
          subst this
          unfold WX at h
          rw [w2e,if_pos c2,hd2] at h
          have h:=FA (F':=F) s2 (offL_upd' hb) h
          refine EK h (fun v2 w2 hk2=>⟨hk2.1,?_⟩) (fun c w' hz=>⟨hz.1,(hq _ _ _ _ _ (blt hda)).1 hz.2⟩)
          have hrun:(execOp (BZ F) ⟨none,o1.op,o1.type,"",#[],none⟩).run P w2 = .ok (.value v1) w2:=by
            rcases hc2 with hc2|hc2
            · rw [hk2.1.1 (Nat.eq_of_beq_eq_true hc2)];exact hr
            · exact (rdOp_sta hc2.2 _ _ _ hr).2 _ (hk2.1.2 (Nat.eq_of_beq_eq_true hc2.1))
          show WX P ops Q ((1,o1) :: rest) (DH F d2 v2) w2
          unfold WX
          rw [w1e,if_pos c1,hd1]
          refine FA s1 (GV ha) ?_
          unfold CT
          rw [hrun]
          refine ⟨⟨fun _=>rfl,fun e=>by cases e⟩,?_⟩
          show WX P ops Q rest (DH (DH F d2 v2) d1 v1) w2
          rw [e];exact hk2.2
      · -- the first moves
        obtain ⟨v1,hr⟩:=mvO_run (P:=P) hc2 F
        unfold CT at h
        rw [hr] at h
        have h:((k1=1→w=w)∧(k1=2→Keep [] w w))∧WX P ops Q ((k2,o2) :: rest) (DH F d1 v1) w:=h
        have h:=h.2
        unfold WX at h
        rw [w2e,if_pos c2,hd2] at h
        have h:=FA (F':=F) s2 (offL_upd' hb) h
        refine EK h (fun v2 w2 hk2=>⟨hk2.1,?_⟩) (fun c w' hz=>⟨hz.1,(hq _ _ _ _ _ (blt hda)).1 hz.2⟩)
        show WX P ops Q ((k1,o1) :: rest) (DH F d2 v2) w2
        unfold WX
        rw [w1e,if_pos c1,hd1]
        refine FA s1 (GV ha) ?_
        unfold CT
        rw [hr]
        refine ⟨⟨fun _=>rfl,fun _=>Keep.refl _ _⟩,?_⟩
        show WX P ops Q rest (DH (DH F d2 v2) d1 v1) w2
        rw [e];exact hk2.2
      · -- the second moves
        obtain ⟨v2,hr⟩:=mvO_run (P:=P) hc2 F
        unfold CT
        rw [hr]
        refine ⟨⟨fun _=>rfl,fun _=>Keep.refl _ _⟩,?_⟩
        show WX P ops Q ((k1,o1) :: rest) (DH F d2 v2) w
        unfold WX
        rw [w1e,if_pos c1,hd1]
        refine FA s1 (GV ha) (EK h (fun v1 w1 hk1=>⟨hk1.1,?_⟩) (fun c w' hz=>⟨hz.1,(hq _ _ _ _ _ (blt hdb)).2 hz.2⟩))
        have h:=hk1.2
        have h:WX P ops Q ((k2,o2) :: rest) (DH F d1 v1) w1:=h
        unfold WX at h
        rw [w2e,if_pos c2,hd2] at h
        have h:=FA (F':=F) s2 (offL_upd' hb) h
        unfold CT at h
        rw [hr] at h
        show WX P ops Q rest (DH (DH F d2 v2) d1 v1) w1
        rw [e];exact h.2
    · rw [if_neg c2]
      show WX P ops Q ((k1,o1) :: rest) (DH F d2 undef) w
      unfold WX
      rw [w1e,if_pos c1,hd1]
      refine FA s1 (GV ha) (EK h (fun v1 w1 hk1=>⟨hk1.1,?_⟩) (fun c w' hz=>⟨hz.1,(hq _ _ _ _ _ (blt hdb)).2 hz.2⟩))
      have h:WX P ops Q ((k2,o2) :: rest) (DH F d1 v1) w1:=hk1.2
      unfold WX at h
      rw [w2e,if_neg c2,hd2] at h
      show WX P ops Q rest (DH (DH F d2 undef) d1 v1) w1
      rw [e];exact h
  · rw [if_neg c1] at h
    have h:WX P ops Q ((k2,o2) :: rest) (DH F d1 undef) w:=h
    unfold WX at h
    rw [w2e,hd2] at h
    by_cases c2:Region.wanted o2 (BT ops F)=true
    · rw [if_pos c2] at h ⊢
      have h:=FA (F':=F) s2 (offL_upd' hb) h
      refine EK h (fun v2 w2 hk2=>⟨hk2.1,?_⟩) (fun c w' hz=>⟨hz.1,(hq _ _ _ _ _ (blt hda)).1 hz.2⟩)
      show WX P ops Q ((k1,o1) :: rest) (DH F d2 v2) w2
      unfold WX
      rw [w1e,if_neg c1,hd1]
      show WX P ops Q rest (DH (DH F d2 v2) d1 undef) w2
      rw [e];exact hk2.2
    · rw [if_neg c2] at h ⊢
      show WX P ops Q ((k1,o1) :: rest) (DH F d2 undef) w
      unfold WX
      rw [w1e,if_neg c1,hd1]
      show WX P ops Q rest (DH (DH F d2 undef) d1 undef) w
      rw [e];exact h
theorem wx_front {i:Nat × Oper} {r:List (Nat × Oper)} (hi:okD n i.2.dst=true) (hq:∀ c F d v w,d<n→(Q (.panic c) (DH F d v) w↔Q (.panic c) F w)):∀ (l:List (Nat × Oper)),(∀ j∈l,cmB ops j i=true∧okD n j.2.dst=true)→∀ F w,WX P ops Q (l++i :: r) F w→WX P ops Q (i :: (l++r)) F w
  | [],_,F,w,h=>h
  | j :: l,hl,F,w,h=>wx_swap (hl j List.mem_cons_self).1 (hl j List.mem_cons_self).2 hi hq (wx_cong (fun F w h=>wx_front hi hq l (fun x hx=>hl x (List.mem_cons_of_mem _ hx)) F w h) h)
def LG (ops:List Oper) (kd:Nat→Nat) (seq:List Nat):List (Nat × Oper):=seq.filterMap fun i=>(ops[i]?).map fun o=>(kd i,o)
theorem KV {kd:Nat→Nat} {a b:List Nat}:LG ops kd (a++b)=LG ops kd a++LG ops kd b:=List.filterMap_append
theorem NE {kd:Nat→Nat} {i:Nat} {t:List Nat} (hil:i<ops.length):LG ops kd (i :: t)=(kd i,ops[i]) :: LG ops kd t:=by
  unfold LG;rw [List.filterMap_cons,List.getElem?_eq_getElem hil];rfl
def pairB (ops:List Oper) (kd:Nat→Nat) (a b:Nat):Bool:=DR ops b a || (match ops[a]?,ops[b]? with|some oa,some ob=>cmB ops (kd a,oa) (kd b,ob) | _,_=>false)
theorem comm_run {kd:Nat→Nat} (hok:ops.all (LC n ops)=true) (hq:∀ c F d v w,d<n→(Q (.panic c) (DH F d v) w↔Q (.panic c) F w)) (hin:∀ k,k<ops.length→∀ j∈HE ops k,j<k) :
    ∀ (fuel:Nat) (seq:List Nat) (listed:Array Bool) (F1:Fr) (w1:World),listed.size=ops.length→LB ops listed≤fuel→
    (∀ j,j<ops.length→(listed[j]? = some true↔j∉seq))→(∀ j∈seq,j<ops.length)→seq.Pairwise (fun a b=>a<b∧pairB ops kd a b=true)→(∀ i,listed[i]? = some true→∀ j∈HE ops i,listed[j]? = some true)→
    WX P ops Q (LG ops kd seq) F1 w1→wpAny P .any ops.toArray (HT n Q) fuel listed (mk n F1) w1:=by
  have hin':∀ k,k<ops.length→∀ j∈HE ops k,j<ops.length:=fun k hk j hj=>Nat.lt_trans (hin k hk j hj) hk
  intro fuel
  induction fuel with
  | zero=>
    intro seq listed F1 w1 hsz hfu hl hlt hp hdown h
    cases seq with
    | nil=>exact EH hok hin' [] 0 listed F1 w1 hsz hfu hl (by simp) (by simp) rfl hdown h
    | cons a t=>
      exfalso
      have h0:LB ops listed=0:=by omega
      unfold LB at h0
      have ha:=hlt a (by simp)
      have:=List.countP_eq_zero.1 h0 a (by simp;omega)
      exact ((hl a ha).1 (by simpa using this)) (by simp)
  | succ fuel ih=>
    intro seq listed F1 w1 hsz hfu hl hlt hp hdown h
    cases seq with
    | nil=>exact EH hok hin' [] (fuel+1) listed F1 w1 hsz hfu hl (by simp) (by simp) rfl hdown h
    | cons a t=>
      have hunl:∀ q,q<ops.length→q∈a :: t→listed[q]? = some false:=fun q hq' hm=>by
        have h1:¬ listed[q]? = some true:=fun e=>((hl q hq').1 e) hm
        have:q<listed.size:=by omega
        rw [Array.getElem?_eq_getElem this] at h1 ⊢
        simpa using h1
      have hset:∀ i,i<ops.length→∀ j,(listed.setIfInBounds i true)[j]? = some true↔j=i∨listed[j]? = some true:=fun i hi j=>by
        rw [Array.getElem?_setIfInBounds]
        by_cases hji:i=j
        · subst hji;simp;omega
        · rw [if_neg hji];exact ⟨fun h=>.inr h,fun h=>h.resolve_left (fun e=>hji e.symm)⟩
      have ha:=hlt a (by simp)
      refine ⟨fun h0=>?_,fun i hi=>?_⟩
      · have:=ready_of' hsz ha (hunl a ha (by simp)) (fun j hj=>by
          have hja:=hin a ha j hj
          refine (hl j (by omega)).2 fun hm=>?_
          rcases List.mem_cons.1 hm with rfl|hm
          · omega
          · have:=(List.rel_of_pairwise_cons hp hm).1;omega)
        rw [h0] at this;cases this
      · obtain ⟨hnl,hil⟩:=HX hi hsz
        have hmem:i∈a :: t:=Classical.byContradiction fun hc=>by have:=(hl i hil).2 hc;rw [hnl] at this;cases this
        have hready:=FQ (List.getElem?_eq_getElem hil) hi hsz (hin' i hil)
        have hwait:∀ q,DR ops i q=true→listed[q]? = some true:=fun q hq=>by
          unfold DR at hq
          exact GF (D:=fun j=>listed[j]? = some true) hdown _ _ hready q (by simpa using hq)
        obtain ⟨l,r,hlr⟩:=List.append_of_mem hmem
        rw [hlr] at h hp hl hlt
        obtain ⟨hpl,hpir,hplr⟩:=List.pairwise_append.1 hp
        have hir:=List.pairwise_cons.1 hpir
        have hinl:i∉l:=fun hm=>by have:=(hplr i hm i List.mem_cons_self).1;omega
        have hinr:i∉r:=fun hm=>by have:=(hir.1 i hm).1;omega
        rw [KV,NE hil] at h
        have h:=wx_front (n:=n) (HZ (List.all_eq_true.1 hok _ (List.getElem_mem hil))) hq _ (fun j hj=>by
          unfold LG at hj
          obtain ⟨x,hx,hxj⟩:=List.mem_filterMap.1 hj
          have hxl:=hlt x (List.mem_append_left _ hx)
          rw [List.getElem?_eq_getElem hxl] at hxj
          simp only [Option.map_some,Option.some.injEq] at hxj
          subst hxj
          refine ⟨?_,HZ (List.all_eq_true.1 hok _ (List.getElem_mem hxl))⟩
          have h2:=(hplr x hx i List.mem_cons_self).2
          unfold pairB at h2
          rw [List.getElem?_eq_getElem hxl,List.getElem?_eq_getElem hil] at h2
          simp only [Bool.or_eq_true] at h2
          rcases h2 with h2|h2
          · exact absurd ((hl x hxl).1 (hwait x h2)) (fun hc=>hc (List.mem_append_left _ hx))
          · exact h2) _ _ h
        rw [← KV] at h
        refine IU (K:=fun F w=>WX P ops Q (LG ops kd (l++r)) F w) hok (List.getElem?_eq_getElem hil) (fun F w hK=>ih (l++r) _ F w (by simpa using hsz) (by have:=HB hil hsz hnl;omega) (fun j hj=>?_) (fun j hj=>hlt j ?_) ?_ (fun j hj x hx=>?_) hK) (fun hw=>?_) (fun hw=>?_)
        · rw [hset i hil j,hl j hj]
          simp only [List.mem_append,List.mem_cons]
          constructor
          · rintro (rfl|h1)
            · exact fun hc=>hc.elim hinl hinr
            · exact fun hc=>h1 (hc.elim .inl fun h=>.inr (.inr h))
          · intro h1
            by_cases hji:j=i
            · exact .inl hji
            · exact .inr fun hc=>h1 (hc.elim .inl fun h=>h.elim (fun e=>absurd e hji) .inr)
        · rcases List.mem_append.1 hj with h1|h1
          · exact List.mem_append_left _ h1
          · exact List.mem_append_right _ (List.mem_cons_of_mem _ h1)
        · exact List.pairwise_append.2 ⟨hpl,hir.2,fun x hx y hy=>hplr x hx y (List.mem_cons_of_mem _ hy)⟩
        · rw [hset i hil x]
          rcases (hset i hil j).1 hj with h1|h1
          · subst h1;exact .inr (hready x hx)
          · exact .inr (hdown j h1 x hx)
        · unfold WX at h
          rw [if_pos hw] at h
          exact EK h (fun v w' hk=>hk.2) (fun c w' hz=>hz.2)
        · unfold WX at h
          rw [if_neg (by rw [hw];simp)] at h
          exact h
def kdA (m i:Nat):Nat:=bif Nat.blt i m then 1 else bif Nat.beq i m then 2 else 0
def commB (ops:List Oper) (m:Nat):Bool:=(List.range ops.length).all fun b=>(HE ops b).all (fun j=>Nat.blt j b) && (List.range b).all fun a=>pairB ops (kdA m) a b
theorem cw_drawA {id:Nat} {F:Fr} {w:World} (m:Nat) (hqp:∀ c F d v w,d<n→(Q (.panic c) (DH F d v) w↔Q (.panic c) F w)) (pre:List Oper) (ob:Oper) (tl:List Oper) (hm:P.follows .mixedOrders=true) (hok:ops.all (LC n ops)=true) (hc:commB ops m=true) (hlt:Nat.blt m ops.length=true) (hpre:ops.take m=pre) (hob:ops[m]? = some ob) (htl:ops.drop (m+1)=tl) (hg:ob.guard=none)
    (h:∀ w1,Keep [] w w1→WP P ops w1 (fun F1=>CT P ob.op ob.type F1 w1 (fun v w'=>Keep [] w1 w'∧WL false P ops Q tl (HG F1 ob.dst v) w') (fun _ _=>False)) pre F w1):CW P (ro:=none) n (.region id ops.toArray true) Q F w:=by
  have hml:m<ops.length:=blt hlt
  have hlen:pre.length=m:=by rw [← hpre,List.length_take];omega
  have hall:ops=pre++ob :: tl:=by
    rw [List.getElem?_eq_getElem hml] at hob
    cases hob
    rw [← hpre,← htl,← List.drop_eq_getElem_cons hml,List.take_append_drop]
  have hseq:∀ (kd:Nat→Nat) (l:List Nat),(∀ x∈l,x<ops.length)→LG ops kd l=l.map fun i=>(kd i,ops[i]?.getD ob):=fun kd l=>by
    induction l with
    | nil=>intro _;rfl
    | cons a l ih=>
      intro h
      rw [NE (h a List.mem_cons_self),ih fun x hx=>h x (List.mem_cons_of_mem _ hx),List.map_cons,List.getElem?_eq_getElem (h a List.mem_cons_self)]
      rfl
  have hk1:∀ i,i<m→kdA m i=1:=fun i hi=>by unfold kdA;rw [show Nat.blt i m=true from Nat.ble_eq_true_of_le hi];rfl
  have hk2:kdA m m=2:=by
    unfold kdA
    have h1:Nat.blt m m=false:=by
      cases hb:Nat.blt m m with
      | false=>rfl
      | true=>have:=blt hb;omega
    rw [h1,show Nat.beq m m=true from by simp];rfl
  have hk3:∀ i,m<i→kdA m i=0:=fun i hi=>by
    unfold kdA
    have h1:Nat.blt i m=false:=by
      cases hb:Nat.blt i m with
      | false=>rfl
      | true=>have:=blt hb;omega
    have h2:Nat.beq i m=false:=by
      cases hb:Nat.beq i m with
      | false=>rfl
      | true=>have:=Nat.eq_of_beq_eq_true hb;omega
    rw [h1,h2];rfl
  have hX:∀ F w,WX P ops Q (pre.map (fun o=>(1,o))++(2,ob) :: tl.map (fun o=>(0,o))) F w→WX P ops Q (LG ops (kdA m) (List.range ops.length)) F w:=fun F w h=>by
    have:LG ops (kdA m) (List.range ops.length)=pre.map (fun o=>(1,o))++(2,ob) :: tl.map (fun o=>(0,o)):=by
      rw [hseq _ _ (fun x hx=>by simpa using hx)]
      refine List.ext_getElem? fun i=>?_
      rw [List.getElem?_map]
      have hl:ops.length=m+1+tl.length:=by rw [hall,← hlen];simp;omega
      by_cases hil:i<ops.length
      · rw [List.getElem?_range hil,Option.map_some]
        rcases Nat.lt_trichotomy i m with hi|hi|hi
        · rw [List.getElem?_append_left (by simp;omega),List.getElem?_map,hk1 i hi,hall,List.getElem?_append_left (by omega),List.getElem?_eq_getElem (by omega:i<pre.length)]
          rfl
        · subst hi
          rw [List.getElem?_append_right (by simp;omega),hk2,hall,List.getElem?_append_right (by omega)]
          simp [hlen]
        · obtain ⟨q,rfl⟩:∃ q,i=m+1+q:=⟨i - m - 1,by omega⟩
          rw [List.getElem?_append_right (by simp;omega),hk3 _ hi,hall,List.getElem?_append_right (by omega)]
          simp only [List.length_map,hlen,show m+1+q - m=q+1 by omega,List.getElem?_cons_succ,List.getElem?_map]
          rw [List.getElem?_eq_getElem (by omega:q<tl.length)]
          rfl
      · rw [List.getElem?_eq_none (by simp;omega),List.getElem?_eq_none (by simp;omega)];rfl
    rw [this];exact h
  have hbk:∀ k,k<ops.length→∀ j∈HE ops k,j<k:=fun k hk j hj=>by
    have:=List.all_eq_true.1 hc k (by simpa using hk)
    simp only [Bool.and_eq_true] at this
    exact blt (List.all_eq_true.1 this.1 j hj)
  refine wpIn_wide.2 (wp_region_any hm ?_)
  rw [show ({ w with drawn:=w.drawn+1 }:World)=w.drew from rfl,List.size_toArray]
  have h:=h w.drew (Keep.drew [] w)
  have h:WP P ops w.drew (fun F1=>WX P ops Q ((2,ob) :: tl.map (fun o=>(0,o))) F1 w.drew) pre F w.drew:=by
    refine wp_mono (fun F1 h1=>?_) _ _ _ h
    unfold WX
    rw [if_pos (by unfold Region.wanted;rw [hg])]
    exact EK h1 (fun v w' hk=>⟨⟨fun e=>(by cases e),fun _=>hk.1⟩,LY _ _ _ hk.2⟩) (fun c w' hz=>hz.elim)
  have h:=hX _ _ (MI _ _ _ h)
  refine comm_run hok hqp hbk ops.length _ _ F w.drew (by simp) ?_ (fun j hj=>?_) (fun j hj=>by simpa using hj) ?_ (fun i hi=>?_) h
  · unfold LB;exact Nat.le_trans (List.countP_le_length) (by simp)
  · simp [Array.getElem?_replicate,hj]
  · refine List.pairwise_iff_getElem.2 fun i j hi hj hij=>?_
    simp only [List.getElem_range]
    refine ⟨hij,?_⟩
    have:=List.all_eq_true.1 hc j (by simpa using hj)
    simp only [Bool.and_eq_true] at this
    exact List.all_eq_true.1 this.2 i (by simpa using hij)
  · exfalso
    rw [Array.getElem?_replicate] at hi
    split at hi <;> simp at hi
end
end Go.Fw
