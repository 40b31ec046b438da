/- What the laws of this part rest on: lemmas, and the walks of the functions. No conditions. -/
import Derived.WalkKit
import Derived.WalkSpells
import Derived.WalkLawsBesides
import Derived.RangeFuncLeaves
import Derived.Maps.AppendAt
import Derived.Deep.AppendLies
import Derived.Deep.Slices
import Derived.OpenShut
import Derived.ProofKit
import Derived.Below
import Derived.ChangeSame
import Derived.Carry
import Derived.RangeFuncRecord
import Derived.Laws.Tables
import Derived.Recover
import Derived.DefersIn
import Derived.Lib.AppendZerosOnto
import Derived.Lib.Overlaps
import Derived.Laws.CopyRow
import Derived.Laws.StructEq
import Derived.ChangeKeysEq
import Derived.Test.YtpdekmknnpkmgaaRows
import Derived.Test.YtpdekmknnpkmgaaPG13
set_option linter.unusedSimpArgs false
set_option linter.unusedVariables false
namespace Go.Proofs.Ytpdekmknnpkmgaa
open Go.Fw Go.RowKit
set_option maxHeartbeats 4000000 in
set_option maxRecDepth 100000 in
theorem LD {O:List Nat} (l_v:Value) (l:List Int) (threshold:Int) (wait:Int) (moves_v:Value) (moves:List MoveG) (w:World) (a8:BV Enc.int w O l_v l) (a0:BV Enc.movg w O moves_v moves) (hO:∀ b∈O,b<w.heap.size):DA Try.prog 5 [l_v,vI threshold,vI wait,moves_v] w (fun v _=>v = .bool (true)):= by
 have I7:=a8.len_le
 have a8:BV Enc.int w ([]++O) l_v l:=a8
 have E9:=a0.len_le
 have a0:BV Enc.movg w ([]++O) moves_v moves:=a0
 have s0:St w O w []:=St.start hO
 refine CA 230 Try.func5 rfl rfl oT (fun F0=>AF (AB kR (AA (AG (vO false) rfl (AE (AC (AF (AF (AB kR (AA (BJ (vs:=[]) enter_9 (c_sane45 (O:=[]++O) w s0.lt) rfl s0 fun I8 z4 j1 q0 I9 z5=>(?_))))))))))))
 obtain rfl:=z5
 have a8:=a8.mv q0
 have a0:=a0.mv q0
 refine AA (EI true rfl (AE (AC (AP false rfl rfl (fun h=>by cases h) (fun _=>AZ (AC (AF (AF (AB kR (AA (AD (l_v) rfl (AA (CO U22_ rfl a8 (AA (JD .i64 (l.length:Int) (20:Int) rfl rfl (AA (AD (vO (decide ((20:Int)<(l.length:Int)))) rfl (?_))))))))))))))))))
 cases o4:(decide ((20:Int)<(l.length:Int)))
 ·have F3:(l.length:Int)≤(20:Int):=by simpa using o4
  refine AQ rfl (AD (moves_v) rfl (AQ rfl (CO U38_ rfl a0 (AQ rfl (JD .i64 (moves.length:Int) (30:Int) rfl rfl (AA (BM (vO (decide ((30:Int)<(moves.length:Int)))) rfl rfl (AE (AC (AP (decide ((30:Int)<(moves.length:Int))) rfl rfl (fun k3=>?_) (fun k3=>?_)))))))))))
  ·have F4:(30:Int)<(moves.length:Int):=by simpa using k3
   refine AF (AB kR (AA (AG (vO true) rfl (AE (AC (AT (BA (BF rfl (CU rfl rfl rfl) (?_)))))))))
   exact ⟨_,rfl,j1.keep,rfl⟩
  have F5:(moves.length:Int)≤(30:Int):=by simpa using k3
  refine AZ (AC (AF (AB kR (AA (AD (l_v) rfl (AA (AD (vI threshold) rfl (AA (AD (vI wait) rfl (AA (BJ (vs:=[l_v,vI threshold,vI wait]) ME (c_new (O:=[]++O) l_v l threshold wait z4 a8 oM j1.lt) rfl j1 fun J0 J1 z6 q1 J2 z7=>(?_))))))))))))
  obtain ⟨k4,rfl,k5⟩:=z7
  have a8:=a8.mv q1
  have a0:=a0.mv q1
  refine AA (AD (vT #[vA k4.toArray,vI ((CQ l threshold wait).2)]) rfl (AA (AJ (vA k4.toArray) rfl rfl (AA (AJ (vI ((CQ l threshold wait).2)) rfl rfl (AA (BS [vI 0,vI 0,vI 0,nS,nS] EZ rfl z6 fun b0 z8 z9 A0 m3 J3 r4=>(?_))))))))
  clear z9
  have a8:=a8.mv m3
  have a0:=a0.mv m3
  have k5:Enc.circle.rd z8 ((b0 :: [])++O) k4 ((CQ l threshold wait).1):=Enc.mv Enc.circle (x:=(CQ l threshold wait).1) k5 m3
  obtain ⟨j2,m4,rfl,e3,g1⟩:=k5
  have:=e3.len_le
  have:=g1.len_le
  refine BE (AS (vs:=[vI (((CQ l threshold wait).1).epoch),vI (((CQ l threshold wait).1).threshold),vI (((CQ l threshold wait).1).wait),j2,m4]) (.agg #[vI (((CQ l threshold wait).1).epoch),vI (((CQ l threshold wait).1).threshold),vI (((CQ l threshold wait).1).wait),j2,m4]) rfl rfl rfl AV (fun u hu=>by simp only [List.mem_cons,List.not_mem_nil,or_false] at hu;rcases hu with rfl|rfl|rfl|rfl|rfl <;> first|rfl|exact e3.oneCell|exact g1.oneCell) (by repeat (constructor)) r4 oT A0 fun J4 q2 j3 J5 o5=>(?_))
  have a8:=a8.mv j3
  have a0:=a0.mv j3
  have e3:=e3.mv j3
  have g1:=g1.mv j3
  refine AA (AG (vI ((CQ l threshold wait).2)) rfl (AE (AC (AF (AF (AB kR (AA (AD (vI ((CQ l threshold wait).2)) rfl (AA (DS .i64 ((CQ l threshold wait).2) (0:Int) rfl rfl (AE (AC (AP (((CQ l threshold wait).2) != (0:Int)) rfl rfl (fun k6=>?_) (fun k6=>?_))))))))))))))
  ·have F6:(CQ l threshold wait).2≠(0:Int):=by simpa using k6
   refine AF (AB kR (AA (AD (vI ((CQ l threshold wait).2)) rfl (AA (CS .i64 ((CQ l threshold wait).2) (450:Int) rfl rfl (AA (AD (vO (((CQ l threshold wait).2) == (450:Int))) rfl (?_))))))))
   have r5:(((CQ l threshold wait).2) == (450:Int))=true:=(beq_iff_eq.2 (gnew_bad aS).1)
   rw [r5]
   refine AQ rfl (AO 3 KG rfl (AQ rfl (AR U22_ rfl (j2) rfl o5 rfl (AQ rfl (CO U22_ rfl e3 (AQ rfl (CS .i64 ((((CQ l threshold wait).1).guardians).length:Int) (0:Int) rfl rfl (AA (AY (vO (((((CQ l threshold wait).1).guardians).length:Int) == (0:Int))) rfl rfl (AA (AG (vO (((((CQ l threshold wait).1).guardians).length:Int) == (0:Int))) rfl (AE (AC (AT (BA (BF rfl (CU rfl rfl rfl) (?_)))))))))))))))))
   have e:true=(((((CQ l threshold wait).1).guardians).length:Int) == (0:Int)):=by (rw [(gnew_bad aS).2];rfl)
   exact ⟨_,rfl,q2.keep,(by exact congrArg vO e.symm)⟩
  have r6:(CQ l threshold wait).2=(0:Int):=by simpa using k6
  have hnew0:(CQ l threshold wait).2=0:=r6
  refine AZ (AC (AF (AB kR (AA (AG (.slice none 0 0) rfl (AE (AC (AF (AF (AB kR (AA (AD (moves_v) rfl (AA (CO U38_ rfl a0 (AA (AD (vI 0) rfl (AE (AC (BX (FH (fun mI FI wI=>∃ (k:Nat) (c:Circle) (L:List StoryR) (T:List Tale) (b4:Value) (b6:Value) (b7:Value) (B:List Nat),k≤moves.length∧SafeI l threshold wait c T∧T.length≤k∧Tales 3 w.heap.size O B wI L T∧mI=moves.length - k∧(∃ F1,FI=II F1 [(0,l_v),(1,vI threshold),(2,vI wait),(9,vP (some ⟨b0,0,none⟩)),(11,b4),(47,moves_v),(48,vI (moves.length:Int)),(49,vI ((k:Nat):Int)),(230,undef)])∧St w O wI B∧DX Enc.story 44 w.heap.size (B++O) wI b4 (L)∧(∀ b,b4.ownBlock=some b→b∈B)∧BV Enc.int wI (B++O) b6 (c.guardians)∧BV Enc.recovery wI (B++O) b7 (c.recs)∧BV Enc.int wI (B++O) (l_v) (l)∧BV Enc.movg wI (B++O) (moves_v) (moves)∧EQ wI b0 25 [vI c.epoch,vI c.threshold,vI c.wait,b6,b7]∧b0∈B∧(∀ b,b4.ownBlock=some b→b≠b0)) (moves.length - (0)) ?_ ?_))))))))))))))))))))
  ·exact ⟨(0),((CQ l threshold wait).1),([]),([]),(.slice none 0 0),j2,m4,(b0 :: []),oM,(safe_new hnew0),(by simp),Tales.nil,rfl,⟨_,BL _ ⟨rfl,rfl,rfl,rfl,rfl,rfl,rfl,(by rfl),rfl,trivial⟩⟩,q2,(by rw [show ([])=[] from rfl];exact (DX.nil Enc.story 44 _ _ _)),(by intro b hb;simp [Value.ownBlock] at hb),e3,g1,a8,a0,o5,(by (repeat (exact List.mem_cons_self))),(fun b hb=>by (simp [Value.ownBlock] at hb;done))⟩
  intro N1 F N2 hI
  clear a8 a0
  obtain ⟨k,c,L,T,b4,b6,b7,e4,hr0_0,hr0_1,hr0_2,hr0_3,N3,⟨N4,rfl⟩,F2,ho0_11,c2,a2,a3,a8,a0,a1,c8,nb0_11_b6546⟩:=hI
  have:=a2.len_le
  have:=a3.len_le
  have hT:=hr0_3
  refine AF (AB kR (AA (DU .i64 ((k:Nat):Int) (moves.length:Int) rfl rfl (AE (AC (AF (AP (decide (((k:Nat):Int)<(moves.length:Int))) rfl rfl (fun k7=>?_) (fun k7=>?_))))))))
  ·have F7:((k:Nat):Int)<(moves.length:Int):=by simpa using k7
   refine AZ (AC (AF (BX (AF (AB kR (AA (DV U38_ s_41 .i64 ((k:Nat):Int) k rfl rfl rfl a0 oM fun J6 r7=>(AA (CH U41_ rfl s_41 rfl r7 fun r8 k8=>(AA (BS [vB (0:UInt8),vB (0:UInt8),vB (0:UInt8),vI 0] z_41 rfl F2 fun c1 A1 A2 A3 e7 m5 r9=>(?_))))))))))))
   have s1:CJ b0 c1:=by show b0≠c1;have:=a1.lt;omega
   have o6:∀ b,b4.ownBlock=some b→b≠c1:=fun b hb=>by have:=(ho0_11.lt b hb).2;omega
   have c2:∀ b,b4.ownBlock=some b→b∈(c1 :: e4):=fun b hb=>List.mem_cons_of_mem _ (c2 b hb)
   clear A2
   have a8:=a8.mv e7
   have ho0_11:=ho0_11.mv e7 m5 (by simp)
   have a0:=a0.mv e7
   have k8:Enc.movg.rd A1 ((c1 :: e4)++O) r8 (moves[k]!):=Enc.mv Enc.movg (x:=moves[k]!) k8 e7
   have a2:=a2.mv e7
   have a3:=a3.mv e7
   have a1:=a1.keep m5 (by simp)
   have hT:=by exact hT.mv0 e7 m5 (fun x hx=>by exact List.mem_cons_of_mem _ hx)
   obtain rfl:=k8
   refine BE (AS (vs:=[vB ((moves[k]!).kind),vB ((moves[k]!).no),vB ((moves[k]!).guardian),vI ((moves[k]!).day)]) (.agg #[vB ((moves[k]!).kind),vB ((moves[k]!).no),vB ((moves[k]!).guardian),vI ((moves[k]!).day)]) rfl rfl rfl s_41 (fun u hu=>by simp only [List.mem_cons,List.not_mem_nil,or_false] at hu;rcases hu with rfl|rfl|rfl|rfl <;> rfl) (by repeat (constructor)) r9 oT A3 fun A4 q3 h0 m6 b2=>(?_))
   have a8:=a8.mv h0
   have ho0_11:=ho0_11.mv h0 m6 (fun b hb=>AM (o6 b hb))
   have a0:=a0.mv h0
   have a2:=a2.mv h0
   have a3:=a3.mv h0
   have a1:=a1.keep m6 (AM s1)
   have hT:=by exact hT.mvB h0 m6 aS (by decide) (fun x hx=>by exact hx)
   refine AE (AC (AF (AB kR (AA (AX (vs:=[vI c.epoch,vI c.threshold,vI c.wait,b6,b7]) U25_ rfl AV rfl a1 rfl (AA (AX (vs:=[vB ((moves[k]!).kind),vB ((moves[k]!).no),vB ((moves[k]!).guardian),vI ((moves[k]!).day)]) U41_ rfl s_41 rfl b2 rfl (AA (BJ (vs:=[vA #[vI c.epoch,vI c.threshold,vI c.wait,b6,b7],vA #[vB ((moves[k]!).kind),vB ((moves[k]!).no),vB ((moves[k]!).guardian),vI ((moves[k]!).day)]]) enter_24 (c_moveG (O:=(c1 :: e4)++O) [vI c.epoch,vI c.threshold,vI c.wait,b6,b7] c [vB ((moves[k]!).kind),vB ((moves[k]!).no),vB ((moves[k]!).guardian),vI ((moves[k]!).day)] (moves[k]!) A4 ⟨_,_,rfl,a2,a3⟩ rfl q3.lt) rfl q3 fun J7 J8 A5 h1 j4 A6=>(?_))))))))))
   obtain ⟨k9,rfl,l0⟩:=A6
   have a8:=a8.mv h1
   have ho0_11:=ho0_11.mv h1 j4 (by simp)
   have a0:=a0.mv h1
   have a2:=a2.mv h1
   have a3:=a3.mv h1
   have a1:=a1.keep j4 (by simp)
   have b2:=b2.keep j4 (by simp)
   have hT:=by exact hT.mv0 h1 j4 (fun x hx=>by exact hx)
   refine AA (AD (vT #[vA k9.toArray,vI ((AH c (moves[k]!).kind (moves[k]!).no (moves[k]!).guardian (moves[k]!).day).2.1),vI ((AH c (moves[k]!).kind (moves[k]!).no (moves[k]!).guardian (moves[k]!).day).2.2)]) rfl (AA (AJ (vA k9.toArray) rfl rfl (AA (AJ (vI ((AH c (moves[k]!).kind (moves[k]!).no (moves[k]!).guardian (moves[k]!).day).2.1)) rfl rfl (AA (AJ (vI ((AH c (moves[k]!).kind (moves[k]!).no (moves[k]!).guardian (moves[k]!).day).2.2)) rfl rfl (AA (BS [vI 0,vI 0,vI 0,nS,nS] EZ rfl A5 fun b5 A7 A8 A9 e8 j5 s2=>(?_))))))))))
   have s3:CJ b0 b5:=by show b0≠b5;have:=a1.lt;omega
   have s4:CJ c1 b5:=by show c1≠b5;have:=b2.lt;omega
   have c7:∀ b,b4.ownBlock=some b→b≠b5:=fun b hb=>by have:=(ho0_11.lt b hb).2;omega
   have c2:∀ b,b4.ownBlock=some b→b∈(b5 :: (c1 :: e4)):=fun b hb=>List.mem_cons_of_mem _ (c2 b hb)
   clear A8
   have a8:=a8.mv e8
   have ho0_11:=ho0_11.mv e8 j5 (by simp)
   have a0:=a0.mv e8
   have l0:Enc.circle.rd A7 ((b5 :: (c1 :: e4))++O) k9 ((AH c (moves[k]!).kind (moves[k]!).no (moves[k]!).guardian (moves[k]!).day).1):=Enc.mv Enc.circle (x:=(AH c (moves[k]!).kind (moves[k]!).no (moves[k]!).guardian (moves[k]!).day).1) l0 e8
   have a2:=a2.mv e8
   have a3:=a3.mv e8
   have a1:=a1.keep j5 (by simp)
   have b2:=b2.keep j5 (by simp)
   have hT:=by exact hT.mv0 e8 j5 (fun x hx=>by exact List.mem_cons_of_mem _ hx)
   obtain ⟨b8,b3,rfl,a5,a4⟩:=l0
   have:=a5.len_le
   have:=a4.len_le
   refine BE (AS (vs:=[vI (((AH c (moves[k]!).kind (moves[k]!).no (moves[k]!).guardian (moves[k]!).day).1).epoch),vI (((AH c (moves[k]!).kind (moves[k]!).no (moves[k]!).guardian (moves[k]!).day).1).threshold),vI (((AH c (moves[k]!).kind (moves[k]!).no (moves[k]!).guardian (moves[k]!).day).1).wait),b8,b3]) (.agg #[vI (((AH c (moves[k]!).kind (moves[k]!).no (moves[k]!).guardian (moves[k]!).day).1).epoch),vI (((AH c (moves[k]!).kind (moves[k]!).no (moves[k]!).guardian (moves[k]!).day).1).threshold),vI (((AH c (moves[k]!).kind (moves[k]!).no (moves[k]!).guardian (moves[k]!).day).1).wait),b8,b3]) rfl rfl rfl AV (fun u hu=>by simp only [List.mem_cons,List.not_mem_nil,or_false] at hu;rcases hu with rfl|rfl|rfl|rfl|rfl <;> first|rfl|exact a5.oneCell|exact a4.oneCell) (by repeat (constructor)) s2 oT A9 fun B0 i3 d4 j6 a9=>(?_))
   have a8:=a8.mv d4
   have ho0_11:=ho0_11.mv d4 j6 (fun b hb=>AM (c7 b hb))
   have a0:=a0.mv d4
   have a2:=a2.mv d4
   have a3:=a3.mv d4
   have a5:=a5.mv d4
   have a4:=a4.mv d4
   have a1:=a1.keep j6 (AM s3)
   have b2:=b2.keep j6 (AM s4)
   have hT:=by exact hT.mvB d4 j6 aS (by decide) (fun x hx=>by exact hx)
   refine AA (AG (vI ((AH c (moves[k]!).kind (moves[k]!).no (moves[k]!).guardian (moves[k]!).day).2.1)) rfl (AA (AG (vI ((AH c (moves[k]!).kind (moves[k]!).no (moves[k]!).guardian (moves[k]!).day).2.2)) rfl (AE (AC (AF (AF (AB kR (AA (AD (vI ((AH c (moves[k]!).kind (moves[k]!).no (moves[k]!).guardian (moves[k]!).day).2.2)) rfl (AA (DS .i64 ((AH c (moves[k]!).kind (moves[k]!).no (moves[k]!).guardian (moves[k]!).day).2.2) (0:Int) rfl rfl (AE (AC (AP (((AH c (moves[k]!).kind (moves[k]!).no (moves[k]!).guardian (moves[k]!).day).2.2) != (0:Int)) rfl rfl (fun l1=>?_) (fun l1=>?_))))))))))))))))
   ·have F8:(AH c (moves[k]!).kind (moves[k]!).no (moves[k]!).guardian (moves[k]!).day).2.2≠(0:Int):=by simpa using l1
    refine AF (AF (AB kR (AA (AO 3 KG rfl (AA (AR U22_ rfl (b8) rfl a9 rfl (AA (CO U22_ rfl a5 (AA (DS .i64 ((((AH c (moves[k]!).kind (moves[k]!).no (moves[k]!).guardian (moves[k]!).day).1).guardians).length:Int) (0:Int) rfl rfl (AE (AC (?_)))))))))))))
    have s5:(((((AH c (moves[k]!).kind (moves[k]!).no (moves[k]!).guardian (moves[k]!).day).1).guardians).length:Int) != (0:Int))=false:=(by rw [bad_move aS];rfl)
    rw [s5]
    refine AP false rfl rfl (fun h=>by cases h) (fun _=>AZ (AC (EX (CV (EB (AC (AB kR (AA (DQ .i64 ((k:Nat):Int) (1:Int) (((k+1:Nat):Int)) rfl rfl (HR oM oM) (AA (AD (vI ((k+1:Nat):Int)) rfl (AE (AC (?_))))))))))))))
    exact ⟨_,oM,(k+1),(c),(L),(T),b4,b6,b7,(b5 :: (c1 :: e4)),oM,(by exact hr0_1),oM,hT,rfl,⟨_,BL _ ⟨rfl,rfl,rfl,rfl,rfl,rfl,rfl,(by rfl),rfl,trivial⟩⟩,i3,(by rw [show (L)=L from rfl];exact ho0_11),c2,(by rw [show (c).guardians=c.guardians from rfl];exact a2),(by rw [show (c).recs=c.recs from rfl];exact a3),a8,a0,(by rw [show ([vI ((c).epoch),vI ((c).threshold),vI ((c).wait),b6,b7]:List Value)=[vI c.epoch,vI c.threshold,vI c.wait,b6,b7] from rfl];exact a1),(by (repeat (first|assumption|apply List.mem_cons_of_mem))),nb0_11_b6546⟩
   have s6:(AH c (moves[k]!).kind (moves[k]!).no (moves[k]!).guardian (moves[k]!).day).2.2=(0:Int):=by simpa using l1
   have he:(AH c moves[k]!.kind moves[k]!.no moves[k]!.guardian moves[k]!.day).2.2=0:=s6
   have hno:=safe_no hr0_1 he
   have hLT:=hT.len
   have hn0:=hno.2.2.1
   have hn1:=hno.2.2.2
   refine AZ (AC (AF (AF (AB kR (AA (AD (vI ((AH c (moves[k]!).kind (moves[k]!).no (moves[k]!).guardian (moves[k]!).day).2.1)) rfl (AA (DU .i64 ((AH c (moves[k]!).kind (moves[k]!).no (moves[k]!).guardian (moves[k]!).day).2.1) (0:Int) rfl rfl (AA (AD (vO (decide ((AH c (moves[k]!).kind (moves[k]!).no (moves[k]!).guardian (moves[k]!).day).2.1<(0:Int)))) rfl (?_)))))))))))
   have s7:(decide ((AH c (moves[k]!).kind (moves[k]!).no (moves[k]!).guardian (moves[k]!).day).2.1<(0:Int)))=false:=(decide_eq_false oM)
   rw [s7]
   refine AQ rfl (AD (vI ((AH c (moves[k]!).kind (moves[k]!).no (moves[k]!).guardian (moves[k]!).day).2.1)) rfl (AQ rfl (AD (b4) rfl (AQ rfl (GU U39_ rfl ho0_11 (AQ rfl (JD .i64 ((AH c (moves[k]!).kind (moves[k]!).no (moves[k]!).guardian (moves[k]!).day).2.1) (L.length:Int) rfl rfl (AA (BM (vO (decide ((L.length:Int)<(AH c (moves[k]!).kind (moves[k]!).no (moves[k]!).guardian (moves[k]!).day).2.1))) rfl rfl (AA (AD (vO (decide ((L.length:Int)<(AH c (moves[k]!).kind (moves[k]!).no (moves[k]!).guardian (moves[k]!).day).2.1))) rfl (?_))))))))))))
   have s8:(decide ((L.length:Int)<(AH c (moves[k]!).kind (moves[k]!).no (moves[k]!).guardian (moves[k]!).day).2.1))=false:=(decide_eq_false oM)
   rw [s8]
   refine AQ rfl (AO 0 KR rfl (AQ rfl (AR U5_ rfl (vB ((moves[k]!).kind)) rfl b2 rfl (AQ rfl (JG ((moves[k]!).kind) (4:UInt8) (by decide) rfl rfl (AQ rfl (HL (((moves[k]!).kind) % 4) (0:UInt8) rfl rfl (AQ rfl (AD (vO ((((moves[k]!).kind) % 4) == (0:UInt8))) rfl (?_))))))))))
   cases e5:((((moves[k]!).kind) % 4) == (0:UInt8))
   ·have s9:((moves[k]!).kind) % 4≠(0:UInt8):=by simpa using e5
    have hn2:=hno.2.1 s9
    have hsm:=hT.same ((AH c moves[k]!.kind moves[k]!.no moves[k]!.guardian moves[k]!.day).2.1).toNat oM
    have hal:=safe_len hr0_1 (i:=((AH c moves[k]!.kind moves[k]!.no moves[k]!.guardian moves[k]!.day).2.1).toNat) oM
    refine AU rfl (AU rfl (AU rfl (AU rfl (AQ rfl (BM (vO false) rfl rfl (AA (BM (vO false) rfl rfl (AA (AD (vO false) rfl (AQ rfl (AO 0 KR rfl (AQ rfl (AR U5_ rfl (vB ((moves[k]!).kind)) rfl b2 rfl (AQ rfl (JG ((moves[k]!).kind) (4:UInt8) (by decide) rfl rfl (AQ rfl (o_neq8 (((moves[k]!).kind) % 4) (0:UInt8) rfl rfl (AQ rfl (AD (vO ((((moves[k]!).kind) % 4) != (0:UInt8))) rfl (?_))))))))))))))))))))
    have t0:((((moves[k]!).kind) % 4) != (0:UInt8))=true:=(by have q_:=e5;show (!((((moves[k]!).kind) % 4) == (0:UInt8)))=_;rw [q_];rfl)
    rw [t0]
    refine AQ rfl (AD (vI ((AH c (moves[k]!).kind (moves[k]!).no (moves[k]!).guardian (moves[k]!).day).2.1)) rfl (AQ rfl (AD (b4) rfl (AQ rfl (GU U39_ rfl ho0_11 (AQ rfl (CS .i64 ((AH c (moves[k]!).kind (moves[k]!).no (moves[k]!).guardian (moves[k]!).day).2.1) (L.length:Int) rfl rfl (AQ rfl (AY (vO (((AH c (moves[k]!).kind (moves[k]!).no (moves[k]!).guardian (moves[k]!).day).2.1) == (L.length:Int))) rfl rfl (AA (BM (vO (((AH c (moves[k]!).kind (moves[k]!).no (moves[k]!).guardian (moves[k]!).day).2.1) == (L.length:Int))) rfl rfl (AE (AC (?_))))))))))))))
    have t1:(((AH c (moves[k]!).kind (moves[k]!).no (moves[k]!).guardian (moves[k]!).day).2.1) == (L.length:Int))=false:=(beq_false_of_ne (by have:=hno.2.1 aS;omega))
    rw [t1]
    refine AP false rfl rfl (fun h=>by cases h) (fun _=>AZ (AC (cw_cut (fun FI wI=>∃ (L2:List StoryR) (T2:List Tale) (a7:Value) (B:List Nat),SafeI l threshold wait (AH c moves[k]!.kind moves[k]!.no moves[k]!.guardian moves[k]!.day).1 T2∧T2.length≤k+1∧Tales 3 w.heap.size O B wI L2 T2∧True∧(∃ F1,FI=II F1 [(0,l_v),(1,vI threshold),(2,vI wait),(9,vP (some ⟨b0,0,none⟩)),(11,a7),(14,vP (some ⟨b5,0,none⟩)),(47,moves_v),(48,vI (moves.length:Int)),(49,vI ((k:Nat):Int)),(230,undef)])∧St w O wI B∧DX Enc.story 44 w.heap.size (B++O) wI a7 (L2)∧(∀ b,a7.ownBlock=some b→b∈B)∧BV Enc.int wI (B++O) (l_v) (l)∧BV Enc.movg wI (B++O) (moves_v) (moves)∧BV Enc.int wI (B++O) (b6) (c.guardians)∧BV Enc.recovery wI (B++O) (b7) (c.recs)∧EQ wI b0 25 [vI c.epoch,vI c.threshold,vI c.wait,b6,b7]∧b0∈B∧BV Enc.int wI (B++O) (b8) (((AH c (moves[k]!).kind (moves[k]!).no (moves[k]!).guardian (moves[k]!).day).1).guardians)∧BV Enc.recovery wI (B++O) (b3) (((AH c (moves[k]!).kind (moves[k]!).no (moves[k]!).guardian (moves[k]!).day).1).recs)∧EQ wI b5 25 [vI (((AH c (moves[k]!).kind (moves[k]!).no (moves[k]!).guardian (moves[k]!).day).1).epoch),vI (((AH c (moves[k]!).kind (moves[k]!).no (moves[k]!).guardian (moves[k]!).day).1).threshold),vI (((AH c (moves[k]!).kind (moves[k]!).no (moves[k]!).guardian (moves[k]!).day).1).wait),b8,b3]∧b5∈B∧(∀ b,a7.ownBlock=some b→b≠b0)∧(∀ b,a7.ownBlock=some b→b≠b5)) ?_ ?_)))
    ·refine AF (AB kR (AA (AO 0 KR rfl (AA (AR U5_ rfl (vB ((moves[k]!).kind)) rfl b2 rfl (AA (JG ((moves[k]!).kind) (4:UInt8) (by decide) rfl rfl (AE (AC (BX (AF (AB kR (AA (HL (((moves[k]!).kind) % 4) (0:UInt8) rfl rfl (AA (AG (vO ((((moves[k]!).kind) % 4) == (0:UInt8))) rfl (AE (AC (?_)))))))))))))))))))
     have t2:((((moves[k]!).kind) % 4) == (0:UInt8))=false:=e5
     rw [t2]
     refine AP false rfl rfl (fun h=>by cases h) (fun _=>AF (AB kR (AA (HL (((moves[k]!).kind) % 4) (1:UInt8) rfl rfl (AA (AG (vO ((((moves[k]!).kind) % 4) == (1:UInt8))) rfl (AE (AC (AP ((((moves[k]!).kind) % 4) == (1:UInt8)) rfl rfl (fun l2=>?_) (fun l2=>?_))))))))))
     ·have F9:((moves[k]!).kind) % 4=(1:UInt8):=by simpa using l2
      refine AF (IP 8 _ _ kR kR kR kR kR rfl rfl fun q4 e9=>?_)
      have B1:=i3.call e9
      have d5:Mv (b5 :: (c1 :: e4)) B0 (b5 :: (c1 :: e4)) q4:=Mv.of_keep e9
      have a8:=a8.mv d5
      have ho0_11:=ho0_11.mv d5 e9 (by simp)
      have a0:=a0.mv d5
      have a2:=a2.mv d5
      have a3:=a3.mv d5
      have a5:=a5.mv d5
      have a4:=a4.mv d5
      have a1:=a1.keep e9 (by simp)
      have b2:=b2.keep e9 (by simp)
      have a9:=a9.keep e9 (by simp)
      have hT:=by exact hT.mv0 d5 e9 (fun x hx=>by exact hx)
      refine DM (AD (b4) rfl (DM (AD (vI ((AH c (moves[k]!).kind (moves[k]!).no (moves[k]!).guardian (moves[k]!).day).2.1)) rfl (DM (DV U39_ LH .i64 ((AH c (moves[k]!).kind (moves[k]!).no (moves[k]!).guardian (moves[k]!).day).2.1) (((AH c (moves[k]!).kind (moves[k]!).no (moves[k]!).guardian (moves[k]!).day).2.1).toNat) rfl rfl oM ho0_11.rd0 oM fun J9 t3=>(DM (BG 2 JI ((L[((AH c (moves[k]!).kind (moves[k]!).no (moves[k]!).guardian (moves[k]!).day).2.1).toNat]!).ap) rfl t3 (fun _ _ _ h=>JR h) fun K0 t4=>(DM (o_loadV U22_ rfl rfl t4 (DM (AO 2 f_41_2 rfl (DM (AR U5_ rfl (vB ((moves[k]!).guardian)) rfl b2 rfl (DM (KE .u8 .i64 U5_ U3_ (((moves[k]!).guardian).toNat:Int) (((moves[k]!).guardian).toNat:Int) rfl (by have:=((moves[k]!).guardian).toNat_lt;exact HR oM rfl) (JJ (AA (BJ (vs:=[(L[((AH c (moves[k]!).kind (moves[k]!).no (moves[k]!).guardian (moves[k]!).day).2.1).toNat]!).ap,vI (((moves[k]!).guardian).toNat:Int)]) enter_25 (c_has (O:=[]) ((L[((AH c (moves[k]!).kind (moves[k]!).no (moves[k]!).guardian (moves[k]!).day).2.1).toNat]!).ap) (T[((AH c (moves[k]!).kind (moves[k]!).no (moves[k]!).guardian (moves[k]!).day).2.1).toNat]!.approved) (((moves[k]!).guardian).toNat:Int) q4 ((hT.own (i:=((AH c (moves[k]!).kind (moves[k]!).no (moves[k]!).guardian (moves[k]!).day).2.1).toNat) oM).rd0) HN) rfl B1 fun K1 B2 q5 d6 i4 B3=>(?_)))))))))))))))))))
      obtain rfl:=B3
      have a8:=a8.mv d6
      have ho0_11:=ho0_11.mv d6 i4 (by simp)
      have a0:=a0.mv d6
      have a2:=a2.mv d6
      have a3:=a3.mv d6
      have a5:=a5.mv d6
      have a4:=a4.mv d6
      have a1:=a1.keep i4 (by simp)
      have b2:=b2.keep i4 (by simp)
      have a9:=a9.keep i4 (by simp)
      have hT:=by exact hT.mv0 d6 i4 (fun x hx=>by exact hx)
      refine AA (EI ((T[((AH c (moves[k]!).kind (moves[k]!).no (moves[k]!).guardian (moves[k]!).day).2.1).toNat]!.approved).contains (((moves[k]!).guardian).toNat:Int)) rfl (AE (AC (AP (!((T[((AH c (moves[k]!).kind (moves[k]!).no (moves[k]!).guardian (moves[k]!).day).2.1).toNat]!.approved).contains (((moves[k]!).guardian).toNat:Int))) rfl rfl (fun l3=>?_) (fun l3=>?_)))))
      ·have G0:((T[((AH c (moves[k]!).kind (moves[k]!).no (moves[k]!).guardian (moves[k]!).day).2.1).toNat]!.approved).contains (((moves[k]!).guardian).toNat:Int))=false:=by simpa using l3
       refine cw_drawA 10 (by intro c F d v w hd;simp only [KY,JL];exact qp_end c F d v w hd) _ _ _ kR kR kR kR rfl rfl rfl rfl fun B4 f0=>?_
       have B5:=q5.call f0
       have d7:Mv (b5 :: (c1 :: e4)) B2 (b5 :: (c1 :: e4)) B4:=Mv.of_keep f0
       have a8:=a8.mv d7
       have ho0_11:=ho0_11.mv d7 f0 (by simp)
       have a0:=a0.mv d7
       have a2:=a2.mv d7
       have a3:=a3.mv d7
       have a5:=a5.mv d7
       have a4:=a4.mv d7
       have a1:=a1.keep f0 (by simp)
       have b2:=b2.keep f0 (by simp)
       have a9:=a9.keep f0 (by simp)
       have hT:=by exact hT.mv0 d7 f0 (fun x hx=>by exact hx)
       refine DM (AD (b4) rfl (DM (AD (vI ((AH c (moves[k]!).kind (moves[k]!).no (moves[k]!).guardian (moves[k]!).day).2.1)) rfl (DM (AD (b4) rfl (DM (AD (vI ((AH c (moves[k]!).kind (moves[k]!).no (moves[k]!).guardian (moves[k]!).day).2.1)) rfl (DM (DV U39_ LH .i64 ((AH c (moves[k]!).kind (moves[k]!).no (moves[k]!).guardian (moves[k]!).day).2.1) (((AH c (moves[k]!).kind (moves[k]!).no (moves[k]!).guardian (moves[k]!).day).2.1).toNat) rfl rfl oM ho0_11.rd0 oM fun K2 t5=>(DM (BG 2 JI ((L[((AH c (moves[k]!).kind (moves[k]!).no (moves[k]!).guardian (moves[k]!).day).2.1).toNat]!).ap) rfl t5 (fun _ _ _ h=>JR h) fun K3 t6=>(DM (o_loadV U22_ rfl rfl t6 (DM (AO 2 f_41_2 rfl (DM (AR U5_ rfl (vB ((moves[k]!).guardian)) rfl b2 rfl (DM (KE .u8 .i64 U5_ U3_ (((moves[k]!).guardian).toNat:Int) (((moves[k]!).guardian).toNat:Int) rfl (by have:=((moves[k]!).guardian).toNat_lt;exact HR oM rfl) (JJ ((IL (E:=Enc.int) (xs:=[.tmp 130]) U22_ IA z_3 (by decide) [vI (((moves[k]!).guardian).toNat:Int)] [[vI (((moves[k]!).guardian).toNat:Int)]] [(((moves[k]!).guardian).toNat:Int)] rfl rfl rfl (Parts.cons rfl rfl (Parts.nil _ _ _)) oT B5 fun K4 K5 B6 d8 h2 o7=>(?_)))))))))))))))))))))))
       have a8:=a8.mv d8
       have ho0_11:=ho0_11.mv d8 h2 (by simp)
       have a0:=a0.mv d8
       have a2:=a2.mv d8
       have a3:=a3.mv d8
       have a5:=a5.mv d8
       have a4:=a4.mv d8
       have a1:=a1.keep h2 (by simp)
       have b2:=b2.keep h2 (by simp)
       have a9:=a9.keep h2 (by simp)
       have hT:=by exact hT.mv0 d8 h2 (fun x hx=>by exact hx)
       have:=o7.len_le
       refine ⟨h2,?_⟩
       have o8:∀ b,b4.ownBlock=some b→((L[((AH c (moves[k]!).kind (moves[k]!).no (moves[k]!).guardian (moves[k]!).day).2.1).toNat]!).ap).ownBlock≠some b:=fun b hb he=>hT.neO (i:=((AH c (moves[k]!).kind (moves[k]!).no (moves[k]!).guardian (moves[k]!).day).2.1).toNat) oM ho0_11 (by decide) b hb (by rw [he];simp)
       have o9:∀ b,((L[((AH c (moves[k]!).kind (moves[k]!).no (moves[k]!).guardian (moves[k]!).day).2.1).toNat]!).ap).ownBlock=some b→b≠b0:=fun b hb e=>hT.neB (i:=((AH c (moves[k]!).kind (moves[k]!).no (moves[k]!).guardian (moves[k]!).day).2.1).toNat) oM a1 (by decide) (by rw [hb,e];simp)
       have t7:∀ b,((L[((AH c (moves[k]!).kind (moves[k]!).no (moves[k]!).guardian (moves[k]!).day).2.1).toNat]!).ap).ownBlock=some b→b≠c1:=fun b hb e=>hT.neB (i:=((AH c (moves[k]!).kind (moves[k]!).no (moves[k]!).guardian (moves[k]!).day).2.1).toNat) oM b2 (by decide) (by rw [hb,e];simp)
       have p0:∀ b,((L[((AH c (moves[k]!).kind (moves[k]!).no (moves[k]!).guardian (moves[k]!).day).2.1).toNat]!).ap).ownBlock=some b→b≠b5:=fun b hb e=>hT.neB (i:=((AH c (moves[k]!).kind (moves[k]!).no (moves[k]!).guardian (moves[k]!).day).2.1).toNat) oM a9 (by decide) (by rw [hb,e];simp)
       refine AA (DK (E:=Enc.int) (l:=T[((AH c (moves[k]!).kind (moves[k]!).no (moves[k]!).guardian (moves[k]!).day).2.1).toNat]!.approved) (m:=[(((moves[k]!).guardian).toNat:Int)]) U22_ i_3 rfl (by decide) rfl rfl (hT.own (i:=((AH c (moves[k]!).kind (moves[k]!).no (moves[k]!).guardian (moves[k]!).day).2.1).toNat) oM) o7 (fun _ hb=>.inl hb) (hT.blk (i:=((AH c (moves[k]!).kind (moves[k]!).no (moves[k]!).guardian (moves[k]!).day).2.1).toNat) oM) (by simp only [List.length_singleton];omega) (by simp only [maxLen,List.length_singleton];omega) B6 fun d9 K6 i5 t8 g2 e6 B7 e0 j7 p1=>(?_))
       have G1:∀ b,b4.ownBlock=some b→d9.ownBlock≠some b:=fun b hb e=>by rcases g2 with e1|e1 <;> rw [e1] at e <;> first|(cases e;have:=(ho0_11.lt _ hb).2;omega)|(exact absurd e (o8 b hb))
       have G2:∀ b,d9.ownBlock=some b→b≠b0:=fun b hb=>by rcases g2 with e1|e1 <;> rw [e1] at hb <;> first|(cases hb;have:=a1.lt;omega)|(exact o9 b hb)
       have G3:∀ b,d9.ownBlock=some b→b≠c1:=fun b hb=>by rcases g2 with e1|e1 <;> rw [e1] at hb <;> first|(cases hb;have:=b2.lt;omega)|(exact t7 b hb)
       have G4:∀ b,d9.ownBlock=some b→b≠b5:=fun b hb=>by rcases g2 with e1|e1 <;> rw [e1] at hb <;> first|(cases hb;have:=a9.lt;omega)|(exact p0 b hb)
       have c2:∀ b,b4.ownBlock=some b→b∈i5:=fun b hb=>e6 b (c2 b hb)
       have c8:b0∈i5:=e6 b0 rC
       have p2:c1∈i5:=e6 c1 (by repeat (constructor))
       have g3:b5∈i5:=e6 b5 (by repeat (constructor))
       have a8:=a8.mv e0
       have ho0_11:=ho0_11.mv e0 j7 (fun b hb=>by simp only [Option.mem_toList];exact o8 b hb)
       have a0:=a0.mv e0
       have a2:=a2.mv e0
       have a3:=a3.mv e0
       have a5:=a5.mv e0
       have a4:=a4.mv e0
       have a1:=a1.keep j7 (by simp only [Option.mem_toList];exact fun e=>absurd rfl (o9 _ e))
       have a9:=a9.keep j7 (by simp only [Option.mem_toList];exact fun e=>absurd rfl (p0 _ e))
       have hT:=hT.app (i:=((AH c (moves[k]!).kind (moves[k]!).no (moves[k]!).guardian (moves[k]!).day).2.1).toNat) oM e0 j7 g2 p1 e6 t8
       refine AA (FK U39_ LH .i64 ((AH c (moves[k]!).kind (moves[k]!).no (moves[k]!).guardian (moves[k]!).day).2.1) (((AH c (moves[k]!).kind (moves[k]!).no (moves[k]!).guardian (moves[k]!).day).2.1).toNat) rfl rfl oM ho0_11 oM fun K7 g4=>(AA (AO 2 JI rfl (BE (KM (off:=2) ⟨L[((AH c (moves[k]!).kind (moves[k]!).no (moves[k]!).guardian (moves[k]!).day).2.1).toNat]!.asked,L[((AH c (moves[k]!).kind (moves[k]!).no (moves[k]!).guardian (moves[k]!).day).2.1).toNat]!.done,d9,L[((AH c (moves[k]!).kind (moves[k]!).no (moves[k]!).guardian (moves[k]!).day).2.1).toNat]!.vetoed⟩ s_22 rfl rfl ho0_11 g4 (c2 _ g4) oM (by decide) (fun cs hc=>by obtain ⟨rfl,h1_⟩:=hc;exact ⟨rfl,p1.oneCell⟩) B7 fun K8 B8 f1 m7 t9=>(?_))))))
       have a8:=a8.mv f1
       have a0:=a0.mv f1
       have a2:=a2.mv f1
       have a3:=a3.mv f1
       have a5:=a5.mv f1
       have a4:=a4.mv f1
       have a1:=a1.keep m7 (by simp only [List.mem_singleton];exact fun e=>absurd e.symm (nb0_11_b6546 _ g4))
       have a9:=a9.keep m7 (by simp only [List.mem_singleton];exact fun e=>absurd e.symm (c7 _ g4))
       have hT:=hT.mvO f1 m7 ho0_11 (fun b hq=>by have hq:=List.mem_singleton.1 hq;subst hq;exact g4) (by decide) (fun x hx=>by exact hx)
       refine AE (BU (AC (?_)))
       exact ⟨(L.set (((AH c (moves[k]!).kind (moves[k]!).no (moves[k]!).guardian (moves[k]!).day).2.1).toNat) ⟨L[((AH c (moves[k]!).kind (moves[k]!).no (moves[k]!).guardian (moves[k]!).day).2.1).toNat]!.asked,L[((AH c (moves[k]!).kind (moves[k]!).no (moves[k]!).guardian (moves[k]!).day).2.1).toNat]!.done,d9,L[((AH c (moves[k]!).kind (moves[k]!).no (moves[k]!).guardian (moves[k]!).day).2.1).toNat]!.vetoed⟩),(T.set (((AH c (moves[k]!).kind (moves[k]!).no (moves[k]!).guardian (moves[k]!).day).2.1).toNat) ⟨T[((AH c (moves[k]!).kind (moves[k]!).no (moves[k]!).guardian (moves[k]!).day).2.1).toNat]!.asked,T[((AH c (moves[k]!).kind (moves[k]!).no (moves[k]!).guardian (moves[k]!).day).2.1).toNat]!.done,(T[((AH c (moves[k]!).kind (moves[k]!).no (moves[k]!).guardian (moves[k]!).day).2.1).toNat]!.approved)++([(((moves[k]!).guardian).toNat:Int)]),T[((AH c (moves[k]!).kind (moves[k]!).no (moves[k]!).guardian (moves[k]!).day).2.1).toNat]!.vetoed⟩),b4,i5,(by (have q:=(safe_k1 hr0_1 aS he).2.2;rw [if_neg (by rw [Bool.not_eq_true];assumption)] at q;exact q)),(by (simp;omega)),hT,trivial,⟨_,BL _ ⟨rfl,rfl,rfl,rfl,rfl,rfl,rfl,rfl,rfl,rfl,trivial⟩⟩,B8,(by rw [show (L.set (((AH c (moves[k]!).kind (moves[k]!).no (moves[k]!).guardian (moves[k]!).day).2.1).toNat) ⟨L[((AH c (moves[k]!).kind (moves[k]!).no (moves[k]!).guardian (moves[k]!).day).2.1).toNat]!.asked,L[((AH c (moves[k]!).kind (moves[k]!).no (moves[k]!).guardian (moves[k]!).day).2.1).toNat]!.done,d9,L[((AH c (moves[k]!).kind (moves[k]!).no (moves[k]!).guardian (moves[k]!).day).2.1).toNat]!.vetoed⟩)=L.set (((AH c (moves[k]!).kind (moves[k]!).no (moves[k]!).guardian (moves[k]!).day).2.1).toNat) ⟨L[((AH c (moves[k]!).kind (moves[k]!).no (moves[k]!).guardian (moves[k]!).day).2.1).toNat]!.asked,L[((AH c (moves[k]!).kind (moves[k]!).no (moves[k]!).guardian (moves[k]!).day).2.1).toNat]!.done,d9,L[((AH c (moves[k]!).kind (moves[k]!).no (moves[k]!).guardian (moves[k]!).day).2.1).toNat]!.vetoed⟩ from rfl];exact t9),c2,a8,a0,a2,a3,a1,aS,a5,a4,a9,aS,nb0_11_b6546,c7⟩
      have G5:((T[((AH c (moves[k]!).kind (moves[k]!).no (moves[k]!).guardian (moves[k]!).day).2.1).toNat]!.approved).contains (((moves[k]!).guardian).toNat:Int))=true:=by simpa using l3
      refine AZ (BU (AC (?_)))
      exact ⟨(L),(T),b4,(b5 :: (c1 :: e4)),(by (have q:=(safe_k1 hr0_1 aS he).2.2;rw [if_pos aS] at q;exact q)),oM,hT,trivial,⟨_,BL _ ⟨rfl,rfl,rfl,rfl,rfl,rfl,rfl,rfl,rfl,rfl,trivial⟩⟩,q5,(by rw [show (L)=L from rfl];exact ho0_11),c2,a8,a0,a2,a3,a1,(by (repeat (first|assumption|apply List.mem_cons_of_mem))),a5,a4,a9,(by (repeat (exact List.mem_cons_self))),nb0_11_b6546,c7⟩
     have G6:((moves[k]!).kind) % 4≠(1:UInt8):=by simpa using l2
     refine AF (AB kR (AA (HL (((moves[k]!).kind) % 4) (2:UInt8) rfl rfl (AA (AG (vO ((((moves[k]!).kind) % 4) == (2:UInt8))) rfl (AE (AC (AP ((((moves[k]!).kind) % 4) == (2:UInt8)) rfl rfl (fun l4=>?_) (fun l4=>?_)))))))))
     ·have G7:((moves[k]!).kind) % 4=(2:UInt8):=by simpa using l4
      refine AB kR (AA (AD (b4) rfl (AA (AD (vI ((AH c (moves[k]!).kind (moves[k]!).no (moves[k]!).guardian (moves[k]!).day).2.1)) rfl (AA (FK U39_ LH .i64 ((AH c (moves[k]!).kind (moves[k]!).no (moves[k]!).guardian (moves[k]!).day).2.1) (((AH c (moves[k]!).kind (moves[k]!).no (moves[k]!).guardian (moves[k]!).day).2.1).toNat) rfl rfl oM ho0_11 oM fun K9 g5=>(AA (AO 3 MB rfl (BE (KM (off:=3) ⟨L[((AH c (moves[k]!).kind (moves[k]!).no (moves[k]!).guardian (moves[k]!).day).2.1).toNat]!.asked,L[((AH c (moves[k]!).kind (moves[k]!).no (moves[k]!).guardian (moves[k]!).day).2.1).toNat]!.done,L[((AH c (moves[k]!).kind (moves[k]!).no (moves[k]!).guardian (moves[k]!).day).2.1).toNat]!.ap,true⟩ s_4 rfl rfl ho0_11 g5 (c2 _ g5) oM (by decide) (fun cs hc=>by obtain ⟨rfl,h1_⟩:=hc;exact ⟨rfl,h1_⟩) i3 fun L0 B9 f2 m8 u0=>(?_)))))))))))
      have a8:=a8.mv f2
      have a0:=a0.mv f2
      have a2:=a2.mv f2
      have a3:=a3.mv f2
      have a5:=a5.mv f2
      have a4:=a4.mv f2
      have a1:=a1.keep m8 (by simp only [List.mem_singleton];exact fun e=>absurd e.symm (nb0_11_b6546 _ g5))
      have a9:=a9.keep m8 (by simp only [List.mem_singleton];exact fun e=>absurd e.symm (c7 _ g5))
      have hT:=hT.mvO f2 m8 ho0_11 (fun b hq=>by have hq:=List.mem_singleton.1 hq;subst hq;exact g5) (by decide) (fun x hx=>by exact hx)
      have hT:=hT.put (i:=((AH c (moves[k]!).kind (moves[k]!).no (moves[k]!).guardian (moves[k]!).day).2.1).toNat) oM (L[((AH c (moves[k]!).kind (moves[k]!).no (moves[k]!).guardian (moves[k]!).day).2.1).toNat]!.asked) (L[((AH c (moves[k]!).kind (moves[k]!).no (moves[k]!).guardian (moves[k]!).day).2.1).toNat]!.done) true
      refine AE (BU (AC (?_)))
      exact ⟨(L.set (((AH c (moves[k]!).kind (moves[k]!).no (moves[k]!).guardian (moves[k]!).day).2.1).toNat) ⟨L[((AH c (moves[k]!).kind (moves[k]!).no (moves[k]!).guardian (moves[k]!).day).2.1).toNat]!.asked,L[((AH c (moves[k]!).kind (moves[k]!).no (moves[k]!).guardian (moves[k]!).day).2.1).toNat]!.done,L[((AH c (moves[k]!).kind (moves[k]!).no (moves[k]!).guardian (moves[k]!).day).2.1).toNat]!.ap,true⟩),(T.set (((AH c (moves[k]!).kind (moves[k]!).no (moves[k]!).guardian (moves[k]!).day).2.1).toNat) ⟨L[((AH c (moves[k]!).kind (moves[k]!).no (moves[k]!).guardian (moves[k]!).day).2.1).toNat]!.asked,L[((AH c (moves[k]!).kind (moves[k]!).no (moves[k]!).guardian (moves[k]!).day).2.1).toNat]!.done,T[((AH c (moves[k]!).kind (moves[k]!).no (moves[k]!).guardian (moves[k]!).day).2.1).toNat]!.approved,true⟩),b4,(b5 :: (c1 :: e4)),(by (rw [hsm.1,hsm.2.1];exact (safe_k2 hr0_1 aS he).2.2)),(by (simp;omega)),hT,trivial,⟨_,BL _ ⟨rfl,rfl,rfl,rfl,rfl,rfl,rfl,rfl,rfl,rfl,trivial⟩⟩,B9,(by rw [show (L.set (((AH c (moves[k]!).kind (moves[k]!).no (moves[k]!).guardian (moves[k]!).day).2.1).toNat) ⟨L[((AH c (moves[k]!).kind (moves[k]!).no (moves[k]!).guardian (moves[k]!).day).2.1).toNat]!.asked,L[((AH c (moves[k]!).kind (moves[k]!).no (moves[k]!).guardian (moves[k]!).day).2.1).toNat]!.done,L[((AH c (moves[k]!).kind (moves[k]!).no (moves[k]!).guardian (moves[k]!).day).2.1).toNat]!.ap,true⟩)=L.set (((AH c (moves[k]!).kind (moves[k]!).no (moves[k]!).guardian (moves[k]!).day).2.1).toNat) ⟨L[((AH c (moves[k]!).kind (moves[k]!).no (moves[k]!).guardian (moves[k]!).day).2.1).toNat]!.asked,L[((AH c (moves[k]!).kind (moves[k]!).no (moves[k]!).guardian (moves[k]!).day).2.1).toNat]!.done,L[((AH c (moves[k]!).kind (moves[k]!).no (moves[k]!).guardian (moves[k]!).day).2.1).toNat]!.ap,true⟩ from rfl];exact u0),c2,a8,a0,a2,a3,a1,(by (repeat (first|assumption|apply List.mem_cons_of_mem))),a5,a4,a9,(by (repeat (exact List.mem_cons_self))),nb0_11_b6546,c7⟩
     have G8:((moves[k]!).kind) % 4≠(2:UInt8):=by simpa using l4
     refine AF (AB kR (AA (HL (((moves[k]!).kind) % 4) (3:UInt8) rfl rfl (AA (AG (vO ((((moves[k]!).kind) % 4) == (3:UInt8))) rfl (AE (AC (?_))))))))
     have u1:((((moves[k]!).kind) % 4) == (3:UInt8))=true:=(beq_iff_eq.2 (mod4_3 aS aS aS))
     rw [u1]
     refine AP true rfl rfl (fun _=>AB kR (AA (AD (b4) rfl (AA (AD (vI ((AH c (moves[k]!).kind (moves[k]!).no (moves[k]!).guardian (moves[k]!).day).2.1)) rfl (AA (AO 3 MA rfl (AA (AR U3_ rfl (vI ((moves[k]!).day)) rfl b2 rfl (AA (FK U39_ LH .i64 ((AH c (moves[k]!).kind (moves[k]!).no (moves[k]!).guardian (moves[k]!).day).2.1) (((AH c (moves[k]!).kind (moves[k]!).no (moves[k]!).guardian (moves[k]!).day).2.1).toNat) rfl rfl oM ho0_11 oM fun L1 g6=>(AA (AO 1 JK rfl (BE (KM (off:=1) ⟨L[((AH c (moves[k]!).kind (moves[k]!).no (moves[k]!).guardian (moves[k]!).day).2.1).toNat]!.asked,(moves[k]!).day,L[((AH c (moves[k]!).kind (moves[k]!).no (moves[k]!).guardian (moves[k]!).day).2.1).toNat]!.ap,L[((AH c (moves[k]!).kind (moves[k]!).no (moves[k]!).guardian (moves[k]!).day).2.1).toNat]!.vetoed⟩ IA rfl rfl ho0_11 g6 (c2 _ g6) oM (by decide) (fun cs hc=>by obtain ⟨rfl,h1_⟩:=hc;exact ⟨rfl,h1_⟩) i3 fun L3 C0 f3 m9 u2=>(?_)))))))))))))))) (fun h=>by cases h)
     have a8:=a8.mv f3
     have a0:=a0.mv f3
     have a2:=a2.mv f3
     have a3:=a3.mv f3
     have a5:=a5.mv f3
     have a4:=a4.mv f3
     have a1:=a1.keep m9 (by simp only [List.mem_singleton];exact fun e=>absurd e.symm (nb0_11_b6546 _ g6))
     have a9:=a9.keep m9 (by simp only [List.mem_singleton];exact fun e=>absurd e.symm (c7 _ g6))
     have hT:=hT.mvO f3 m9 ho0_11 (fun b hq=>by have hq:=List.mem_singleton.1 hq;subst hq;exact g6) (by decide) (fun x hx=>by exact hx)
     have hT:=hT.put (i:=((AH c (moves[k]!).kind (moves[k]!).no (moves[k]!).guardian (moves[k]!).day).2.1).toNat) oM (L[((AH c (moves[k]!).kind (moves[k]!).no (moves[k]!).guardian (moves[k]!).day).2.1).toNat]!.asked) ((moves[k]!).day) (L[((AH c (moves[k]!).kind (moves[k]!).no (moves[k]!).guardian (moves[k]!).day).2.1).toNat]!.vetoed)
     refine AE (BU (AC (?_)))
     exact ⟨(L.set (((AH c (moves[k]!).kind (moves[k]!).no (moves[k]!).guardian (moves[k]!).day).2.1).toNat) ⟨L[((AH c (moves[k]!).kind (moves[k]!).no (moves[k]!).guardian (moves[k]!).day).2.1).toNat]!.asked,(moves[k]!).day,L[((AH c (moves[k]!).kind (moves[k]!).no (moves[k]!).guardian (moves[k]!).day).2.1).toNat]!.ap,L[((AH c (moves[k]!).kind (moves[k]!).no (moves[k]!).guardian (moves[k]!).day).2.1).toNat]!.vetoed⟩),(T.set (((AH c (moves[k]!).kind (moves[k]!).no (moves[k]!).guardian (moves[k]!).day).2.1).toNat) ⟨L[((AH c (moves[k]!).kind (moves[k]!).no (moves[k]!).guardian (moves[k]!).day).2.1).toNat]!.asked,(moves[k]!).day,T[((AH c (moves[k]!).kind (moves[k]!).no (moves[k]!).guardian (moves[k]!).day).2.1).toNat]!.approved,L[((AH c (moves[k]!).kind (moves[k]!).no (moves[k]!).guardian (moves[k]!).day).2.1).toNat]!.vetoed⟩),b4,(b5 :: (c1 :: e4)),(by (rw [hsm.1,hsm.2.2];exact (safe_k3 hr0_1 aS aS aS he).2.2)),(by (simp;omega)),hT,trivial,⟨_,BL _ ⟨rfl,rfl,rfl,rfl,rfl,rfl,rfl,rfl,rfl,rfl,trivial⟩⟩,C0,(by rw [show (L.set (((AH c (moves[k]!).kind (moves[k]!).no (moves[k]!).guardian (moves[k]!).day).2.1).toNat) ⟨L[((AH c (moves[k]!).kind (moves[k]!).no (moves[k]!).guardian (moves[k]!).day).2.1).toNat]!.asked,(moves[k]!).day,L[((AH c (moves[k]!).kind (moves[k]!).no (moves[k]!).guardian (moves[k]!).day).2.1).toNat]!.ap,L[((AH c (moves[k]!).kind (moves[k]!).no (moves[k]!).guardian (moves[k]!).day).2.1).toNat]!.vetoed⟩)=L.set (((AH c (moves[k]!).kind (moves[k]!).no (moves[k]!).guardian (moves[k]!).day).2.1).toNat) ⟨L[((AH c (moves[k]!).kind (moves[k]!).no (moves[k]!).guardian (moves[k]!).day).2.1).toNat]!.asked,(moves[k]!).day,L[((AH c (moves[k]!).kind (moves[k]!).no (moves[k]!).guardian (moves[k]!).day).2.1).toNat]!.ap,L[((AH c (moves[k]!).kind (moves[k]!).no (moves[k]!).guardian (moves[k]!).day).2.1).toNat]!.vetoed⟩ from rfl];exact u2),c2,a8,a0,a2,a3,a1,(by (repeat (first|assumption|apply List.mem_cons_of_mem))),a5,a4,a9,(by (repeat (exact List.mem_cons_self))),nb0_11_b6546,c7⟩
    intro F u3 hI
    clear a8 a0 a2 a3 a1 a5 a4 a9
    obtain ⟨L2,T2,a7,g7,c3,p9,i2,u4,⟨u5,rfl⟩,l5,a6,b1,a8,a0,a2,a3,a1,c8,a5,a4,a9,g3,c4,i6⟩:=hI
    have hT:=i2
    refine AF (AB kR (AA (AX (vs:=[vI (((AH c (moves[k]!).kind (moves[k]!).no (moves[k]!).guardian (moves[k]!).day).1).epoch),vI (((AH c (moves[k]!).kind (moves[k]!).no (moves[k]!).guardian (moves[k]!).day).1).threshold),vI (((AH c (moves[k]!).kind (moves[k]!).no (moves[k]!).guardian (moves[k]!).day).1).wait),b8,b3]) U25_ rfl AV rfl a9 rfl (BE (AS (vs:=[vI (((AH c (moves[k]!).kind (moves[k]!).no (moves[k]!).guardian (moves[k]!).day).1).epoch),vI (((AH c (moves[k]!).kind (moves[k]!).no (moves[k]!).guardian (moves[k]!).day).1).threshold),vI (((AH c (moves[k]!).kind (moves[k]!).no (moves[k]!).guardian (moves[k]!).day).1).wait),b8,b3]) (.agg #[vI (((AH c (moves[k]!).kind (moves[k]!).no (moves[k]!).guardian (moves[k]!).day).1).epoch),vI (((AH c (moves[k]!).kind (moves[k]!).no (moves[k]!).guardian (moves[k]!).day).1).threshold),vI (((AH c (moves[k]!).kind (moves[k]!).no (moves[k]!).guardian (moves[k]!).day).1).wait),b8,b3]) rfl rfl rfl AV (fun u hu=>by simp only [List.mem_cons,List.not_mem_nil,or_false] at hu;rcases hu with rfl|rfl|rfl|rfl|rfl <;> first|rfl|exact a5.oneCell|exact a4.oneCell) (by repeat (assumption)) a1 oT l5 fun C1 q6 h3 q7 b9=>(?_))))))
    have a8:=a8.mv h3
    have a6:=a6.mv h3 q7 (fun b hb=>AM (c4 b hb))
    have a0:=a0.mv h3
    have a5:=a5.mv h3
    have a4:=a4.mv h3
    have hT:=by exact hT.mvB h3 q7 aS (by decide) (fun x hx=>by exact hx)
    refine AE (AC (AF (AF (AB kR (AA (AX (vs:=[vI (((AH c (moves[k]!).kind (moves[k]!).no (moves[k]!).guardian (moves[k]!).day).1).epoch),vI (((AH c (moves[k]!).kind (moves[k]!).no (moves[k]!).guardian (moves[k]!).day).1).threshold),vI (((AH c (moves[k]!).kind (moves[k]!).no (moves[k]!).guardian (moves[k]!).day).1).wait),b8,b3]) U25_ rfl AV rfl b9 rfl (AA (BJ (vs:=[vA #[vI (((AH c (moves[k]!).kind (moves[k]!).no (moves[k]!).guardian (moves[k]!).day).1).epoch),vI (((AH c (moves[k]!).kind (moves[k]!).no (moves[k]!).guardian (moves[k]!).day).1).threshold),vI (((AH c (moves[k]!).kind (moves[k]!).no (moves[k]!).guardian (moves[k]!).day).1).wait),b8,b3]]) ET (GB (O:=g7++O) [vI (((AH c (moves[k]!).kind (moves[k]!).no (moves[k]!).guardian (moves[k]!).day).1).epoch),vI (((AH c (moves[k]!).kind (moves[k]!).no (moves[k]!).guardian (moves[k]!).day).1).threshold),vI (((AH c (moves[k]!).kind (moves[k]!).no (moves[k]!).guardian (moves[k]!).day).1).wait),b8,b3] ((AH c (moves[k]!).kind (moves[k]!).no (moves[k]!).guardian (moves[k]!).day).1) C1 ⟨_,_,rfl,a5,a4⟩ q6.lt) rfl q6 fun L4 L5 C2 h4 n2 C3=>(?_)))))))))
    obtain rfl:=C3
    have a8:=a8.mv h4
    have a6:=a6.mv h4 n2 (by simp)
    have a0:=a0.mv h4
    have a5:=a5.mv h4
    have a4:=a4.mv h4
    have b9:=b9.keep n2 (by simp)
    have hT:=by exact hT.mv0 h4 n2 (fun x hx=>by exact hx)
    refine AA (DS .i64 (AL ((AH c (moves[k]!).kind (moves[k]!).no (moves[k]!).guardian (moves[k]!).day).1)) (0:Int) rfl rfl (AA (AD (vO ((AL ((AH c (moves[k]!).kind (moves[k]!).no (moves[k]!).guardian (moves[k]!).day).1)) != (0:Int))) rfl (?_))))
    have u6:((AL ((AH c (moves[k]!).kind (moves[k]!).no (moves[k]!).guardian (moves[k]!).day).1)) != (0:Int))=false:=(by rw [c3.ok];rfl)
    rw [u6]
    refine AQ rfl (AO 4 BR rfl (AQ rfl (AR U23_ rfl (b3) rfl b9 rfl (AQ rfl (CO U23_ rfl a4 (AQ rfl (AD (a7) rfl (AQ rfl (GU U39_ rfl a6 (AQ rfl (DS .i64 ((((AH c (moves[k]!).kind (moves[k]!).no (moves[k]!).guardian (moves[k]!).day).1).recs).length:Int) (L2.length:Int) rfl rfl (AA (BM (vO (((((AH c (moves[k]!).kind (moves[k]!).no (moves[k]!).guardian (moves[k]!).day).1).recs).length:Int) != (L2.length:Int))) rfl rfl (AE (AC (?_))))))))))))))))
    have u7:(((((AH c (moves[k]!).kind (moves[k]!).no (moves[k]!).guardian (moves[k]!).day).1).recs).length:Int) != (L2.length:Int))=false:=(by rw [c3.len,hT.len];exact bne_self_eq_false _)
    rw [u7]
    refine AP false rfl rfl (fun h=>by cases h) (fun _=>AZ (AC (AF (AB kR (AA (AD (a7) rfl (AA (GU U39_ rfl a6 (AA (AD (vI 0) rfl (AE (AC (BX (FH (fun mI FI wI=>∃ (i:Nat) (B:List Nat),i≤T2.length∧Tales 3 w.heap.size O B wI L2 T2∧mI=T2.length - i∧(∃ F1,FI=II F1 [(0,l_v),(1,vI threshold),(2,vI wait),(9,vP (some ⟨b0,0,none⟩)),(11,a7),(47,moves_v),(48,vI (moves.length:Int)),(49,vI ((k:Nat):Int)),(161,a7),(162,vI (L2.length:Int)),(163,vI ((i:Nat):Int)),(230,undef)])∧St w O wI B∧BV Enc.int wI (B++O) (l_v) (l)∧DX Enc.story 44 w.heap.size (B++O) wI a7 (L2)∧(∀ b,a7.ownBlock=some b→b∈B)∧BV Enc.movg wI (B++O) (moves_v) (moves)∧BV Enc.int wI (B++O) (b8) (((AH c (moves[k]!).kind (moves[k]!).no (moves[k]!).guardian (moves[k]!).day).1).guardians)∧BV Enc.recovery wI (B++O) (b3) (((AH c (moves[k]!).kind (moves[k]!).no (moves[k]!).guardian (moves[k]!).day).1).recs)∧EQ wI b0 25 [vI (((AH c (moves[k]!).kind (moves[k]!).no (moves[k]!).guardian (moves[k]!).day).1).epoch),vI (((AH c (moves[k]!).kind (moves[k]!).no (moves[k]!).guardian (moves[k]!).day).1).threshold),vI (((AH c (moves[k]!).kind (moves[k]!).no (moves[k]!).guardian (moves[k]!).day).1).wait),b8,b3]∧b0∈B) (T2.length - (0)) ?_ ?_))))))))))))))
    ·exact ⟨(0),g7,oM,hT,rfl,⟨_,BL _ ⟨rfl,rfl,rfl,rfl,rfl,rfl,rfl,rfl,rfl,rfl,(by rfl),rfl,trivial⟩⟩,C2,a8,a6,b1,a0,a5,a4,b9,aS⟩
    intro G9 F H0 hI
    clear a8 a6 b1 a0 a5 a4 b9
    obtain ⟨i,d3,hr1_0,hr1_1,H1,⟨H2,rfl⟩,p3,a8,a6,b1,a0,a5,a4,b9,c8⟩:=hI
    have hT:=hr1_1
    refine AF (AB kR (AA (DU .i64 ((i:Nat):Int) (L2.length:Int) rfl rfl (AE (AC (AF (AP (decide (((i:Nat):Int)<(L2.length:Int))) rfl rfl (fun l6=>?_) (fun l6=>?_))))))))
    ·have H3:((i:Nat):Int)<(L2.length:Int):=by simpa using l6
     have hLT2:=hT.len
     have hsee:=safe_see c3 (i:=i) oM (hT.same i oM).1 (hT.same i oM).2.1 (hT.same i oM).2.2
     refine AZ (AC (AF (BX (AF (AB kR (AA (AD (vI ((i:Nat):Int)) rfl (AA (DV U39_ LH .i64 ((i:Nat):Int) i rfl rfl rfl a6.rd0 oM fun L6 u9=>(AA (CH U44_ rfl LH rfl u9 fun v0 l7=>(AA (BS [vI 0,vI 0,nS,vO false] z_44 rfl p3 fun c9 C4 C5 C6 f4 n3 v1=>(?_))))))))))))))
     have v2:CJ b0 c9:=by show b0≠c9;have:=b9.lt;omega
     have v3:∀ b,a7.ownBlock=some b→b≠c9:=fun b hb=>by have:=(a6.lt b hb).2;omega
     have b1:∀ b,a7.ownBlock=some b→b∈(c9 :: d3):=fun b hb=>List.mem_cons_of_mem _ (b1 b hb)
     clear C5
     have a8:=a8.mv f4
     have a6:=a6.mv f4 n3 (by simp)
     have a0:=a0.mv f4
     have l7:Enc.story.rd C4 ((c9 :: d3)++O) v0 (L2[i]!):=Enc.mv Enc.story (x:=L2[i]!) l7 f4
     have a5:=a5.mv f4
     have a4:=a4.mv f4
     have b9:=b9.keep n3 (by simp)
     have hT:=by exact hT.mv0 f4 n3 (fun x hx=>by exact List.mem_cons_of_mem _ hx)
     refine AA (AG (vI ((i:Nat):Int)) rfl (?_))
     obtain ⟨rfl,H4⟩:=l7
     refine BE (AS (vs:=[vI (L2[i]!.asked),vI (L2[i]!.done),L2[i]!.ap,vO (L2[i]!.vetoed)]) (.agg #[vI (L2[i]!.asked),vI (L2[i]!.done),L2[i]!.ap,vO (L2[i]!.vetoed)]) rfl rfl rfl LH (fun u hu=>by simp only [List.mem_cons,List.not_mem_nil,or_false] at hu;rcases hu with rfl|rfl|rfl|rfl <;> first|rfl|exact (hT.own (i:=i) oM).oneCell) (by repeat (constructor)) v1 oT C6 fun L7 C7 h5 n4 c5=>(?_))
     have a8:=a8.mv h5
     have a6:=a6.mv h5 n4 (fun b hb=>AM (v3 b hb))
     have a0:=a0.mv h5
     have a5:=a5.mv h5
     have a4:=a4.mv h5
     have b9:=b9.keep n4 (AM v2)
     have hT:=by exact hT.mvB h5 n4 aS (by decide) (fun x hx=>by exact hx)
     refine AE (AC (AF (AB kR (AA (AO 4 BR rfl (AA (AR U23_ rfl (b3) rfl b9 rfl (AA (AD (vI ((i:Nat):Int)) rfl (AA (DV U23_ DC .i64 ((i:Nat):Int) i rfl rfl rfl a4 (by rw [c3.len,← hT.len];omega) fun L8 v4=>(AA (CH U47_ rfl DC rfl v4 fun v5 l8=>(AA (BS [vI 0,vI 0,vI 0,nS,nS] HH rfl C7 fun d1 C8 C9 D0 f5 j8 v6=>(?_))))))))))))))))
     have v7:CJ b0 d1:=by show b0≠d1;have:=b9.lt;omega
     have v8:CJ c9 d1:=by show c9≠d1;have:=c5.lt;omega
     have v9:∀ b,a7.ownBlock=some b→b≠d1:=fun b hb=>by have:=(a6.lt b hb).2;omega
     have b1:∀ b,a7.ownBlock=some b→b∈(d1 :: (c9 :: d3)):=fun b hb=>List.mem_cons_of_mem _ (b1 b hb)
     clear C9
     have a8:=a8.mv f5
     have a6:=a6.mv f5 j8 (by simp)
     have a0:=a0.mv f5
     have a4:=a4.mv f5
     have l8:Enc.recovery.rd C8 ((d1 :: (c9 :: d3))++O) v5 ((((AH c (moves[k]!).kind (moves[k]!).no (moves[k]!).guardian (moves[k]!).day).1).recs)[i]!):=Enc.mv Enc.recovery (x:=(((AH c (moves[k]!).kind (moves[k]!).no (moves[k]!).guardian (moves[k]!).day).1).recs)[i]!) l8 f5
     have a5:=a5.mv f5
     have b9:=b9.keep j8 (by simp)
     have c5:=c5.keep j8 (by simp)
     have hT:=by exact hT.mv0 f5 j8 (fun x hx=>by exact List.mem_cons_of_mem _ hx)
     obtain ⟨n5,q8,rfl,g8,p4⟩:=l8
     have:=g8.len_le
     have:=p4.len_le
     refine BE (AS (vs:=[vI (((((AH c (moves[k]!).kind (moves[k]!).no (moves[k]!).guardian (moves[k]!).day).1).recs)[i]!).no),vI (((((AH c (moves[k]!).kind (moves[k]!).no (moves[k]!).guardian (moves[k]!).day).1).recs)[i]!).asked),vI (((((AH c (moves[k]!).kind (moves[k]!).no (moves[k]!).guardian (moves[k]!).day).1).recs)[i]!).state),n5,q8]) (.agg #[vI (((((AH c (moves[k]!).kind (moves[k]!).no (moves[k]!).guardian (moves[k]!).day).1).recs)[i]!).no),vI (((((AH c (moves[k]!).kind (moves[k]!).no (moves[k]!).guardian (moves[k]!).day).1).recs)[i]!).asked),vI (((((AH c (moves[k]!).kind (moves[k]!).no (moves[k]!).guardian (moves[k]!).day).1).recs)[i]!).state),n5,q8]) rfl rfl rfl DC (fun u hu=>by simp only [List.mem_cons,List.not_mem_nil,or_false] at hu;rcases hu with rfl|rfl|rfl|rfl|rfl <;> first|rfl|exact g8.oneCell|exact p4.oneCell) (by repeat (constructor)) v6 oT D0 fun D1 q9 f6 j9 i7=>(?_))
     have a8:=a8.mv f6
     have a6:=a6.mv f6 j9 (fun b hb=>AM (v9 b hb))
     have a0:=a0.mv f6
     have a4:=a4.mv f6
     have g8:=g8.mv f6
     have a5:=a5.mv f6
     have b9:=b9.keep j9 (AM v7)
     have c5:=c5.keep j9 (AM v8)
     have hT:=by exact hT.mvB f6 j9 aS (by decide) (fun x hx=>by exact hx)
     refine AE (AC (AF (AF (AB kR (AA (AO 2 EM rfl (AA (AR U3_ rfl (vI (((((AH c (moves[k]!).kind (moves[k]!).no (moves[k]!).guardian (moves[k]!).day).1).recs)[i]!).state)) rfl i7 rfl (AA (CS .i64 (((((AH c (moves[k]!).kind (moves[k]!).no (moves[k]!).guardian (moves[k]!).day).1).recs)[i]!).state) (1:Int) rfl rfl (AA (AO 1 JK rfl (AA (AR U3_ rfl (vI (L2[i]!.done)) rfl c5 rfl (AA (IE .i64 (L2[i]!.done) (0:Int) rfl rfl (AA (o_neqB ((((((AH c (moves[k]!).kind (moves[k]!).no (moves[k]!).guardian (moves[k]!).day).1).recs)[i]!).state) == (1:Int)) (decide ((0:Int)≤L2[i]!.done)) U4_ rfl rfl (AA (AD (vO (((((((AH c (moves[k]!).kind (moves[k]!).no (moves[k]!).guardian (moves[k]!).day).1).recs)[i]!).state) == (1:Int)) != (decide ((0:Int)≤L2[i]!.done)))) rfl (?_)))))))))))))))))))))
     have w0:(((((((AH c (moves[k]!).kind (moves[k]!).no (moves[k]!).guardian (moves[k]!).day).1).recs)[i]!).state) == (1:Int)) != (decide ((0:Int)≤L2[i]!.done)))=false:=hsee.1
     rw [w0]
     refine AQ rfl (AO 2 EM rfl (AQ rfl (AR U3_ rfl (vI (((((AH c (moves[k]!).kind (moves[k]!).no (moves[k]!).guardian (moves[k]!).day).1).recs)[i]!).state)) rfl i7 rfl (AQ rfl (CS .i64 (((((AH c (moves[k]!).kind (moves[k]!).no (moves[k]!).guardian (moves[k]!).day).1).recs)[i]!).state) (2:Int) rfl rfl (AQ rfl (AO 3 MB rfl (AQ rfl (AR U4_ rfl (vO (L2[i]!.vetoed)) rfl c5 rfl (AQ rfl (o_neqB ((((((AH c (moves[k]!).kind (moves[k]!).no (moves[k]!).guardian (moves[k]!).day).1).recs)[i]!).state) == (2:Int)) (L2[i]!.vetoed) U4_ rfl rfl (AA (BM (vO (((((((AH c (moves[k]!).kind (moves[k]!).no (moves[k]!).guardian (moves[k]!).day).1).recs)[i]!).state) == (2:Int)) != (L2[i]!.vetoed))) rfl rfl (AA (AD (vO (((((((AH c (moves[k]!).kind (moves[k]!).no (moves[k]!).guardian (moves[k]!).day).1).recs)[i]!).state) == (2:Int)) != (L2[i]!.vetoed))) rfl (?_))))))))))))))))
     have w1:(((((((AH c (moves[k]!).kind (moves[k]!).no (moves[k]!).guardian (moves[k]!).day).1).recs)[i]!).state) == (2:Int)) != (L2[i]!.vetoed))=false:=hsee.2.1
     rw [w1]
     refine AQ rfl (AO 3 HF rfl (AQ rfl (AR U22_ rfl (n5) rfl i7 rfl (AQ rfl (CO U22_ rfl g8 (AQ rfl (AO 2 JI rfl (AQ rfl (AR U22_ rfl (L2[i]!.ap) rfl c5 rfl (AQ rfl (GU U22_ rfl (hT.own (i:=i) oM) (AQ rfl (DS .i64 ((((((AH c (moves[k]!).kind (moves[k]!).no (moves[k]!).guardian (moves[k]!).day).1).recs)[i]!).approved).length:Int) (T2[i]!.approved.length:Int) rfl rfl (AA (BM (vO (((((((AH c (moves[k]!).kind (moves[k]!).no (moves[k]!).guardian (moves[k]!).day).1).recs)[i]!).approved).length:Int) != (T2[i]!.approved.length:Int))) rfl rfl (AA (AD (vO (((((((AH c (moves[k]!).kind (moves[k]!).no (moves[k]!).guardian (moves[k]!).day).1).recs)[i]!).approved).length:Int) != (T2[i]!.approved.length:Int))) rfl (?_))))))))))))))))))
     have w2:(((((((AH c (moves[k]!).kind (moves[k]!).no (moves[k]!).guardian (moves[k]!).day).1).recs)[i]!).approved).length:Int) != (T2[i]!.approved.length:Int))=false:=hsee.2.2.1
     rw [w2]
     refine AQ rfl (AO 1 HM rfl (AQ rfl (AR U3_ rfl (vI (((((AH c (moves[k]!).kind (moves[k]!).no (moves[k]!).guardian (moves[k]!).day).1).recs)[i]!).asked)) rfl i7 rfl (AQ rfl (AO 0 f_44_0 rfl (AQ rfl (AR U3_ rfl (vI (L2[i]!.asked)) rfl c5 rfl (AQ rfl (DS .i64 (((((AH c (moves[k]!).kind (moves[k]!).no (moves[k]!).guardian (moves[k]!).day).1).recs)[i]!).asked) (L2[i]!.asked) rfl rfl (AA (BM (vO ((((((AH c (moves[k]!).kind (moves[k]!).no (moves[k]!).guardian (moves[k]!).day).1).recs)[i]!).asked) != (L2[i]!.asked))) rfl rfl (AE (AC (?_))))))))))))))
     have w3:((((((AH c (moves[k]!).kind (moves[k]!).no (moves[k]!).guardian (moves[k]!).day).1).recs)[i]!).asked) != (L2[i]!.asked))=false:=hsee.2.2.2.1
     rw [w3]
     refine AP false rfl rfl (fun h=>by cases h) (fun _=>AZ (AC (AF (AB kR (AA (AO 1 JK rfl (AA (AR U3_ rfl (vI (L2[i]!.done)) rfl c5 rfl (AA (IE .i64 (L2[i]!.done) (0:Int) rfl rfl (AA (AD (vO (decide ((0:Int)≤L2[i]!.done))) rfl (?_)))))))))))))
     cases p5:(decide ((0:Int)≤L2[i]!.done))
     ·have H5:L2[i]!.done<(0:Int):=by simpa using p5
      refine AU rfl (AU rfl (AU rfl (DB rfl (DB rfl (DB rfl (DB rfl (DB rfl (DB rfl (DB rfl (AU rfl (AU rfl (DB rfl (DB rfl (DB rfl (DB rfl (DB rfl (DB rfl (AU rfl (AA (BM (vO false) rfl rfl (AE (AC (AP false rfl rfl (fun h=>by cases h) (fun _=>AZ (BU (AC (AB kR (AA (DQ .i64 ((i:Nat):Int) (1:Int) (((i+1:Nat):Int)) rfl rfl (HR oM oM) (AA (AD (vI ((i+1:Nat):Int)) rfl (AE (AC (?_))))))))))))))))))))))))))))))))))
      exact ⟨_,oM,(i+1),(d1 :: (c9 :: d3)),oM,hT,rfl,⟨_,BL _ ⟨rfl,rfl,rfl,rfl,rfl,rfl,rfl,rfl,rfl,rfl,(by rfl),rfl,trivial⟩⟩,q9,a8,a6,b1,a0,a5,a4,b9,(by (repeat (first|assumption|apply List.mem_cons_of_mem)))⟩
     have H6:(0:Int)≤L2[i]!.done:=by simpa using p5
     refine AQ rfl (AO 3 MB rfl (AQ rfl (AR U4_ rfl (vO (L2[i]!.vetoed)) rfl c5 rfl (AQ rfl (AD (vO (L2[i]!.vetoed)) rfl (?_))))))
     have w4:(L2[i]!.vetoed)=false:=(hsee.2.2.2.2.1 aS).1
     rw [w4]
     refine AQ rfl (AO 1 JK rfl (AQ rfl (AR U3_ rfl (vI (L2[i]!.done)) rfl c5 rfl (AQ rfl (AO 0 f_44_0 rfl (AQ rfl (AR U3_ rfl (vI (L2[i]!.asked)) rfl c5 rfl (AQ rfl (AD (vI wait) rfl (AQ rfl (DQ .i64 (L2[i]!.asked) wait (L2[i]!.asked+wait) rfl rfl (HR (by have:=hsee.2.2.2.2.2;omega) rfl) (AQ rfl (DU .i64 (L2[i]!.done) (L2[i]!.asked+wait) rfl rfl (AQ rfl (BM (vO (decide (L2[i]!.done<L2[i]!.asked+wait))) rfl rfl (AQ rfl (AD (vO (decide (L2[i]!.done<L2[i]!.asked+wait))) rfl (?_))))))))))))))))))
     have w5:(decide (L2[i]!.done<L2[i]!.asked+wait))=false:=(hsee.2.2.2.2.1 aS).2.1
     rw [w5]
     refine AQ rfl (AO 2 JI rfl (AQ rfl (AR U22_ rfl (L2[i]!.ap) rfl c5 rfl (AQ rfl (AD (l_v) rfl (AQ rfl (BJ (vs:=[L2[i]!.ap,l_v]) enter_26 (c_countG (O:=[]) (L2[i]!.ap) (T2[i]!.approved) l_v l D1 ((hT.own (i:=i) oM).rd0) a8.rd0 HN) rfl q9 fun L9 M0 D2 h6 n6 D3=>(?_))))))))
     obtain rfl:=D3
     have a8:=a8.mv h6
     have a6:=a6.mv h6 n6 (by simp)
     have a0:=a0.mv h6
     have a4:=a4.mv h6
     have a5:=a5.mv h6
     have b9:=b9.keep n6 (by simp)
     have hT:=by exact hT.mv0 h6 n6 (fun x hx=>by exact hx)
     refine AQ rfl (AD (vI threshold) rfl (AQ rfl (DU .i64 ((DL (T2[i]!.approved) l (T2[i]!.approved).length:Nat):Int) threshold rfl rfl (AQ rfl (BM (vO (decide (((DL (T2[i]!.approved) l (T2[i]!.approved).length:Nat):Int)<threshold))) rfl rfl (AA (AY (vO (decide (((DL (T2[i]!.approved) l (T2[i]!.approved).length:Nat):Int)<threshold))) rfl rfl (AE (AC (?_))))))))))
     have w6:(decide (((DL (T2[i]!.approved) l (T2[i]!.approved).length:Nat):Int)<threshold))=false:=(hsee.2.2.2.2.1 aS).2.2
     rw [w6]
     refine AP false rfl rfl (fun h=>by cases h) (fun _=>AZ (BU (AC (AB kR (AA (DQ .i64 ((i:Nat):Int) (1:Int) (((i+1:Nat):Int)) rfl rfl (HR oM oM) (AA (AD (vI ((i+1:Nat):Int)) rfl (AE (AC (?_)))))))))))
     exact ⟨_,oM,(i+1),(d1 :: (c9 :: d3)),oM,hT,rfl,⟨_,BL _ ⟨rfl,rfl,rfl,rfl,rfl,rfl,rfl,rfl,rfl,rfl,(by rfl),rfl,trivial⟩⟩,D2,a8,a6,b1,a0,a5,a4,b9,(by (repeat (first|assumption|apply List.mem_cons_of_mem)))⟩
    have H7:(L2.length:Int)≤((i:Nat):Int):=by simpa using l6
    refine EX (CV (CV (EB (BU (AC (AB kR (AA (DQ .i64 ((k:Nat):Int) (1:Int) (((k+1:Nat):Int)) rfl rfl (HR oM oM) (AA (AD (vI ((k+1:Nat):Int)) rfl (AE (AC (?_)))))))))))))
    exact ⟨_,oM,(k+1),((AH c moves[k]!.kind moves[k]!.no moves[k]!.guardian moves[k]!.day).1),(L2),(T2),a7,b8,b3,d3,oM,(by exact c3),oM,hT,rfl,⟨_,BL _ ⟨rfl,rfl,rfl,rfl,rfl,rfl,rfl,(by rfl),rfl,trivial⟩⟩,p3,(by rw [show (L2)=L2 from rfl];exact a6),b1,(by rw [show ((AH c moves[k]!.kind moves[k]!.no moves[k]!.guardian moves[k]!.day).1).guardians=((AH c (moves[k]!).kind (moves[k]!).no (moves[k]!).guardian (moves[k]!).day).1).guardians from rfl];exact a5),(by rw [show ((AH c moves[k]!.kind moves[k]!.no moves[k]!.guardian moves[k]!.day).1).recs=((AH c (moves[k]!).kind (moves[k]!).no (moves[k]!).guardian (moves[k]!).day).1).recs from rfl];exact a4),a8,a0,(by rw [show ([vI (((AH c moves[k]!.kind moves[k]!.no moves[k]!.guardian moves[k]!.day).1).epoch),vI (((AH c moves[k]!.kind moves[k]!.no moves[k]!.guardian moves[k]!.day).1).threshold),vI (((AH c moves[k]!.kind moves[k]!.no moves[k]!.guardian moves[k]!.day).1).wait),b8,b3]:List Value)=[vI (((AH c (moves[k]!).kind (moves[k]!).no (moves[k]!).guardian (moves[k]!).day).1).epoch),vI (((AH c (moves[k]!).kind (moves[k]!).no (moves[k]!).guardian (moves[k]!).day).1).threshold),vI (((AH c (moves[k]!).kind (moves[k]!).no (moves[k]!).guardian (moves[k]!).day).1).wait),b8,b3] from rfl];exact b9),aS,c4⟩
   have H8:((moves[k]!).kind) % 4=(0:UInt8):=by simpa using e5
   refine AQ rfl (AD (vI ((AH c (moves[k]!).kind (moves[k]!).no (moves[k]!).guardian (moves[k]!).day).2.1)) rfl (AQ rfl (AD (b4) rfl (AQ rfl (GU U39_ rfl ho0_11 (AQ rfl (DS .i64 ((AH c (moves[k]!).kind (moves[k]!).no (moves[k]!).guardian (moves[k]!).day).2.1) (L.length:Int) rfl rfl (AQ rfl (AY (vO (((AH c (moves[k]!).kind (moves[k]!).no (moves[k]!).guardian (moves[k]!).day).2.1) != (L.length:Int))) rfl rfl (AA (BM (vO (((AH c (moves[k]!).kind (moves[k]!).no (moves[k]!).guardian (moves[k]!).day).2.1) != (L.length:Int))) rfl rfl (AA (AD (vO (((AH c (moves[k]!).kind (moves[k]!).no (moves[k]!).guardian (moves[k]!).day).2.1) != (L.length:Int))) rfl (?_))))))))))))))
   have w7:(((AH c (moves[k]!).kind (moves[k]!).no (moves[k]!).guardian (moves[k]!).day).2.1) != (L.length:Int))=false:=(by rw [hno.1 aS,hLT];simp)
   rw [w7]
   refine AQ rfl (AO 0 KR rfl (AQ rfl (AR U5_ rfl (vB ((moves[k]!).kind)) rfl b2 rfl (AQ rfl (JG ((moves[k]!).kind) (4:UInt8) (by decide) rfl rfl (AQ rfl (o_neq8 (((moves[k]!).kind) % 4) (0:UInt8) rfl rfl (AQ rfl (AD (vO ((((moves[k]!).kind) % 4) != (0:UInt8))) rfl (?_))))))))))
   have w8:((((moves[k]!).kind) % 4) != (0:UInt8))=false:=(by have q_:=e5;show (!((((moves[k]!).kind) % 4) == (0:UInt8)))=_;rw [q_];rfl)
   rw [w8]
   refine AU rfl (AU rfl (AU rfl (AU rfl (AQ rfl (BM (vO false) rfl rfl (AA (BM (vO false) rfl rfl (AE (AC (AP false rfl rfl (fun h=>by cases h) (fun _=>AZ (AC (cw_cut (fun FI wI=>∃ (L2:List StoryR) (T2:List Tale) (a7:Value) (B:List Nat),SafeI l threshold wait (AH c moves[k]!.kind moves[k]!.no moves[k]!.guardian moves[k]!.day).1 T2∧T2.length≤k+1∧Tales 3 w.heap.size O B wI L2 T2∧True∧(∃ F1,FI=II F1 [(0,l_v),(1,vI threshold),(2,vI wait),(9,vP (some ⟨b0,0,none⟩)),(11,a7),(14,vP (some ⟨b5,0,none⟩)),(47,moves_v),(48,vI (moves.length:Int)),(49,vI ((k:Nat):Int)),(230,undef)])∧St w O wI B∧DX Enc.story 44 w.heap.size (B++O) wI a7 (L2)∧(∀ b,a7.ownBlock=some b→b∈B)∧BV Enc.int wI (B++O) (l_v) (l)∧BV Enc.movg wI (B++O) (moves_v) (moves)∧BV Enc.int wI (B++O) (b6) (c.guardians)∧BV Enc.recovery wI (B++O) (b7) (c.recs)∧EQ wI b0 25 [vI c.epoch,vI c.threshold,vI c.wait,b6,b7]∧b0∈B∧BV Enc.int wI (B++O) (b8) (((AH c (moves[k]!).kind (moves[k]!).no (moves[k]!).guardian (moves[k]!).day).1).guardians)∧BV Enc.recovery wI (B++O) (b3) (((AH c (moves[k]!).kind (moves[k]!).no (moves[k]!).guardian (moves[k]!).day).1).recs)∧EQ wI b5 25 [vI (((AH c (moves[k]!).kind (moves[k]!).no (moves[k]!).guardian (moves[k]!).day).1).epoch),vI (((AH c (moves[k]!).kind (moves[k]!).no (moves[k]!).guardian (moves[k]!).day).1).threshold),vI (((AH c (moves[k]!).kind (moves[k]!).no (moves[k]!).guardian (moves[k]!).day).1).wait),b8,b3]∧b5∈B∧(∀ b,a7.ownBlock=some b→b≠b0)∧(∀ b,a7.ownBlock=some b→b≠b5)) ?_ ?_)))))))))))))
   ·refine AF (AB kR (AA (AO 0 KR rfl (AA (AR U5_ rfl (vB ((moves[k]!).kind)) rfl b2 rfl (AA (JG ((moves[k]!).kind) (4:UInt8) (by decide) rfl rfl (AE (AC (BX (AF (AB kR (AA (HL (((moves[k]!).kind) % 4) (0:UInt8) rfl rfl (AA (AG (vO ((((moves[k]!).kind) % 4) == (0:UInt8))) rfl (AE (AC (?_)))))))))))))))))))
    have w9:((((moves[k]!).kind) % 4) == (0:UInt8))=true:=e5
    rw [w9]
    refine AP true rfl rfl (fun _=>AB kR (AA (AD (b4) rfl (AA (AO 3 MA rfl (AA (AR U3_ rfl (vI ((moves[k]!).day)) rfl b2 rfl (AA (CR (l:=[(0, .tmp 105),(1, .const (vI (-1:Int)))]) pl_44 z_44 rfl [(0,vI ((moves[k]!).day),[vI ((moves[k]!).day)]),(1,vI (-1:Int),[vI (-1:Int)])] [vI ((moves[k]!).day),vI (-1:Int),nS,vO false] rfl ⟨_,rfl,rfl,oT,⟨_,rfl,rfl,oT,rfl⟩⟩ (AA (IL (E:=Enc.story) (xs:=[.tmp 106]) U39_ LH z_44 (by decide) [.agg #[vI ((moves[k]!).day),vI (-1:Int),nS,vO false]] [[vI ((moves[k]!).day),vI (-1:Int),nS,vO false]] [(⟨(moves[k]!).day,(-1:Int), .slice none 0 0,false⟩:StoryR)] rfl rfl rfl (Parts.cons rfl ⟨rfl,rfl⟩ (Parts.nil _ _ _)) oT i3 fun M1 M2 D4 e2 i8 p6=>(?_)))))))))))) (fun h=>by cases h)
    have a8:=a8.mv e2
    have ho0_11:=ho0_11.mv e2 i8 (by simp)
    have a0:=a0.mv e2
    have a2:=a2.mv e2
    have a3:=a3.mv e2
    have a5:=a5.mv e2
    have a4:=a4.mv e2
    have a1:=a1.keep i8 (by simp)
    have b2:=b2.keep i8 (by simp)
    have a9:=a9.keep i8 (by simp)
    have hT:=by exact hT.mv0 e2 i8 (fun x hx=>by exact hx)
    have:=p6.len_le
    refine AA (DK (E:=Enc.story) (l:=L) (m:=[(⟨(moves[k]!).day,(-1:Int), .slice none 0 0,false⟩:StoryR)]) U39_ i_44 rfl (by decide) rfl rfl ho0_11 p6 (fun _ hb=>.inl hb) c2 (by simp;omega) (by simp [maxLen];omega) D4 fun i9 M3 k0 x0 l9 h7 D5 f7 n7 x1=>(?_))
    have x2:∀ b,i9.ownBlock=some b→b≠b0:=fun b hb=>by rcases l9 with e1|e1 <;> rw [e1] at hb <;> first|(cases hb;have:=a1.lt;omega)|(exact nb0_11_b6546 b hb)
    have H9:∀ b,i9.ownBlock=some b→b≠c1:=fun b hb=>by rcases l9 with e1|e1 <;> rw [e1] at hb <;> first|(cases hb;have:=b2.lt;omega)|(exact o6 b hb)
    have x3:∀ b,i9.ownBlock=some b→b≠b5:=fun b hb=>by rcases l9 with e1|e1 <;> rw [e1] at hb <;> first|(cases hb;have:=a9.lt;omega)|(exact c7 b hb)
    have c8:b0∈k0:=h7 b0 rC
    have p2:c1∈k0:=h7 c1 (by repeat (constructor))
    have g3:b5∈k0:=h7 b5 (by repeat (constructor))
    have a8:=a8.mv f7
    have a0:=a0.mv f7
    have a2:=a2.mv f7
    have a3:=a3.mv f7
    have a5:=a5.mv f7
    have a4:=a4.mv f7
    have a1:=a1.keep n7 (by simp only [Option.mem_toList];exact fun e=>absurd rfl (nb0_11_b6546 _ e))
    have a9:=a9.keep n7 (by simp only [Option.mem_toList];exact fun e=>absurd rfl (c7 _ e))
    have hT:=hT.mvO f7 n7 ho0_11 (fun b hb=>Option.mem_toList.1 hb) (by decide) h7
    have hT:=hT.push ((moves[k]!).day) ((-1:Int)) false
    refine AA (AG (i9) rfl (AE (BU (AC (?_)))))
    exact ⟨(L++([(⟨(moves[k]!).day,(-1:Int), .slice none 0 0,false⟩:StoryR)])),(T++[⟨(moves[k]!).day,(-1:Int),[],false⟩]),i9,k0,(by exact (safe_k0 hr0_1 aS he).2),(by (simp;omega)),hT,trivial,⟨_,BL _ ⟨rfl,rfl,rfl,rfl,rfl,rfl,rfl,rfl,rfl,rfl,trivial⟩⟩,D5,(by rw [show (L++([(⟨(moves[k]!).day,(-1:Int), .slice none 0 0,false⟩:StoryR)]))=L++([(⟨(moves[k]!).day,(-1:Int), .slice none 0 0,false⟩:StoryR)]) from rfl];exact x1),x0,a8,a0,a2,a3,a1,aS,a5,a4,a9,aS,x2,x3⟩
   intro F u3 hI
   clear a8 a0 a2 a3 a1 a5 a4 a9
   obtain ⟨L2,T2,a7,g7,c3,p9,i2,u4,⟨u5,rfl⟩,l5,a6,b1,a8,a0,a2,a3,a1,c8,a5,a4,a9,g3,c4,i6⟩:=hI
   have hT:=i2
   refine AF (AB kR (AA (AX (vs:=[vI (((AH c (moves[k]!).kind (moves[k]!).no (moves[k]!).guardian (moves[k]!).day).1).epoch),vI (((AH c (moves[k]!).kind (moves[k]!).no (moves[k]!).guardian (moves[k]!).day).1).threshold),vI (((AH c (moves[k]!).kind (moves[k]!).no (moves[k]!).guardian (moves[k]!).day).1).wait),b8,b3]) U25_ rfl AV rfl a9 rfl (BE (AS (vs:=[vI (((AH c (moves[k]!).kind (moves[k]!).no (moves[k]!).guardian (moves[k]!).day).1).epoch),vI (((AH c (moves[k]!).kind (moves[k]!).no (moves[k]!).guardian (moves[k]!).day).1).threshold),vI (((AH c (moves[k]!).kind (moves[k]!).no (moves[k]!).guardian (moves[k]!).day).1).wait),b8,b3]) (.agg #[vI (((AH c (moves[k]!).kind (moves[k]!).no (moves[k]!).guardian (moves[k]!).day).1).epoch),vI (((AH c (moves[k]!).kind (moves[k]!).no (moves[k]!).guardian (moves[k]!).day).1).threshold),vI (((AH c (moves[k]!).kind (moves[k]!).no (moves[k]!).guardian (moves[k]!).day).1).wait),b8,b3]) rfl rfl rfl AV (fun u hu=>by simp only [List.mem_cons,List.not_mem_nil,or_false] at hu;rcases hu with rfl|rfl|rfl|rfl|rfl <;> first|rfl|exact a5.oneCell|exact a4.oneCell) (by repeat (assumption)) a1 oT l5 fun D6 r0 h8 r1 c0=>(?_))))))
   have a8:=a8.mv h8
   have a6:=a6.mv h8 r1 (fun b hb=>AM (c4 b hb))
   have a0:=a0.mv h8
   have a5:=a5.mv h8
   have a4:=a4.mv h8
   have hT:=by exact hT.mvB h8 r1 aS (by decide) (fun x hx=>by exact hx)
   refine AE (AC (AF (AF (AB kR (AA (AX (vs:=[vI (((AH c (moves[k]!).kind (moves[k]!).no (moves[k]!).guardian (moves[k]!).day).1).epoch),vI (((AH c (moves[k]!).kind (moves[k]!).no (moves[k]!).guardian (moves[k]!).day).1).threshold),vI (((AH c (moves[k]!).kind (moves[k]!).no (moves[k]!).guardian (moves[k]!).day).1).wait),b8,b3]) U25_ rfl AV rfl c0 rfl (AA (BJ (vs:=[vA #[vI (((AH c (moves[k]!).kind (moves[k]!).no (moves[k]!).guardian (moves[k]!).day).1).epoch),vI (((AH c (moves[k]!).kind (moves[k]!).no (moves[k]!).guardian (moves[k]!).day).1).threshold),vI (((AH c (moves[k]!).kind (moves[k]!).no (moves[k]!).guardian (moves[k]!).day).1).wait),b8,b3]]) ET (GB (O:=g7++O) [vI (((AH c (moves[k]!).kind (moves[k]!).no (moves[k]!).guardian (moves[k]!).day).1).epoch),vI (((AH c (moves[k]!).kind (moves[k]!).no (moves[k]!).guardian (moves[k]!).day).1).threshold),vI (((AH c (moves[k]!).kind (moves[k]!).no (moves[k]!).guardian (moves[k]!).day).1).wait),b8,b3] ((AH c (moves[k]!).kind (moves[k]!).no (moves[k]!).guardian (moves[k]!).day).1) D6 ⟨_,_,rfl,a5,a4⟩ r0.lt) rfl r0 fun M4 M5 D7 h9 n9 D8=>(?_)))))))))
   obtain rfl:=D8
   have a8:=a8.mv h9
   have a6:=a6.mv h9 n9 (by simp)
   have a0:=a0.mv h9
   have a5:=a5.mv h9
   have a4:=a4.mv h9
   have c0:=c0.keep n9 (by simp)
   have hT:=by exact hT.mv0 h9 n9 (fun x hx=>by exact hx)
   refine AA (DS .i64 (AL ((AH c (moves[k]!).kind (moves[k]!).no (moves[k]!).guardian (moves[k]!).day).1)) (0:Int) rfl rfl (AA (AD (vO ((AL ((AH c (moves[k]!).kind (moves[k]!).no (moves[k]!).guardian (moves[k]!).day).1)) != (0:Int))) rfl (?_))))
   have x4:((AL ((AH c (moves[k]!).kind (moves[k]!).no (moves[k]!).guardian (moves[k]!).day).1)) != (0:Int))=false:=(by rw [c3.ok];rfl)
   rw [x4]
   refine AQ rfl (AO 4 BR rfl (AQ rfl (AR U23_ rfl (b3) rfl c0 rfl (AQ rfl (CO U23_ rfl a4 (AQ rfl (AD (a7) rfl (AQ rfl (GU U39_ rfl a6 (AQ rfl (DS .i64 ((((AH c (moves[k]!).kind (moves[k]!).no (moves[k]!).guardian (moves[k]!).day).1).recs).length:Int) (L2.length:Int) rfl rfl (AA (BM (vO (((((AH c (moves[k]!).kind (moves[k]!).no (moves[k]!).guardian (moves[k]!).day).1).recs).length:Int) != (L2.length:Int))) rfl rfl (AE (AC (?_))))))))))))))))
   have x5:(((((AH c (moves[k]!).kind (moves[k]!).no (moves[k]!).guardian (moves[k]!).day).1).recs).length:Int) != (L2.length:Int))=false:=(by rw [c3.len,hT.len];exact bne_self_eq_false _)
   rw [x5]
   refine AP false rfl rfl (fun h=>by cases h) (fun _=>AZ (AC (AF (AB kR (AA (AD (a7) rfl (AA (GU U39_ rfl a6 (AA (AD (vI 0) rfl (AE (AC (BX (FH (fun mI FI wI=>∃ (i:Nat) (B:List Nat),i≤T2.length∧Tales 3 w.heap.size O B wI L2 T2∧mI=T2.length - i∧(∃ F1,FI=II F1 [(0,l_v),(1,vI threshold),(2,vI wait),(9,vP (some ⟨b0,0,none⟩)),(11,a7),(47,moves_v),(48,vI (moves.length:Int)),(49,vI ((k:Nat):Int)),(161,a7),(162,vI (L2.length:Int)),(163,vI ((i:Nat):Int)),(230,undef)])∧St w O wI B∧BV Enc.int wI (B++O) (l_v) (l)∧DX Enc.story 44 w.heap.size (B++O) wI a7 (L2)∧(∀ b,a7.ownBlock=some b→b∈B)∧BV Enc.movg wI (B++O) (moves_v) (moves)∧BV Enc.int wI (B++O) (b8) (((AH c (moves[k]!).kind (moves[k]!).no (moves[k]!).guardian (moves[k]!).day).1).guardians)∧BV Enc.recovery wI (B++O) (b3) (((AH c (moves[k]!).kind (moves[k]!).no (moves[k]!).guardian (moves[k]!).day).1).recs)∧EQ wI b0 25 [vI (((AH c (moves[k]!).kind (moves[k]!).no (moves[k]!).guardian (moves[k]!).day).1).epoch),vI (((AH c (moves[k]!).kind (moves[k]!).no (moves[k]!).guardian (moves[k]!).day).1).threshold),vI (((AH c (moves[k]!).kind (moves[k]!).no (moves[k]!).guardian (moves[k]!).day).1).wait),b8,b3]∧b0∈B) (T2.length - (0)) ?_ ?_))))))))))))))
   ·exact ⟨(0),g7,oM,hT,rfl,⟨_,BL _ ⟨rfl,rfl,rfl,rfl,rfl,rfl,rfl,rfl,rfl,rfl,(by rfl),rfl,trivial⟩⟩,D7,a8,a6,b1,a0,a5,a4,c0,aS⟩
   intro G9 F H0 hI
   clear a8 a6 b1 a0 a5 a4 c0
   obtain ⟨i,d3,hr1_0,hr1_1,H1,⟨H2,rfl⟩,p3,a8,a6,b1,a0,a5,a4,c0,c8⟩:=hI
   have hT:=hr1_1
   refine AF (AB kR (AA (DU .i64 ((i:Nat):Int) (L2.length:Int) rfl rfl (AE (AC (AF (AP (decide (((i:Nat):Int)<(L2.length:Int))) rfl rfl (fun m0=>?_) (fun m0=>?_))))))))
   ·have I0:((i:Nat):Int)<(L2.length:Int):=by simpa using m0
    have hLT2:=hT.len
    have hsee:=safe_see c3 (i:=i) oM (hT.same i oM).1 (hT.same i oM).2.1 (hT.same i oM).2.2
    refine AZ (AC (AF (BX (AF (AB kR (AA (AD (vI ((i:Nat):Int)) rfl (AA (DV U39_ LH .i64 ((i:Nat):Int) i rfl rfl rfl a6.rd0 oM fun M6 x6=>(AA (CH U44_ rfl LH rfl x6 fun x7 m1=>(AA (BS [vI 0,vI 0,nS,vO false] z_44 rfl p3 fun d0 D9 E0 E1 f8 o0 x8=>(?_))))))))))))))
    have x9:CJ b0 d0:=by show b0≠d0;have:=c0.lt;omega
    have y0:∀ b,a7.ownBlock=some b→b≠d0:=fun b hb=>by have:=(a6.lt b hb).2;omega
    have b1:∀ b,a7.ownBlock=some b→b∈(d0 :: d3):=fun b hb=>List.mem_cons_of_mem _ (b1 b hb)
    clear E0
    have a8:=a8.mv f8
    have a6:=a6.mv f8 o0 (by simp)
    have a0:=a0.mv f8
    have m1:Enc.story.rd D9 ((d0 :: d3)++O) x7 (L2[i]!):=Enc.mv Enc.story (x:=L2[i]!) m1 f8
    have a5:=a5.mv f8
    have a4:=a4.mv f8
    have c0:=c0.keep o0 (by simp)
    have hT:=by exact hT.mv0 f8 o0 (fun x hx=>by exact List.mem_cons_of_mem _ hx)
    refine AA (AG (vI ((i:Nat):Int)) rfl (?_))
    obtain ⟨rfl,I1⟩:=m1
    refine BE (AS (vs:=[vI (L2[i]!.asked),vI (L2[i]!.done),L2[i]!.ap,vO (L2[i]!.vetoed)]) (.agg #[vI (L2[i]!.asked),vI (L2[i]!.done),L2[i]!.ap,vO (L2[i]!.vetoed)]) rfl rfl rfl LH (fun u hu=>by simp only [List.mem_cons,List.not_mem_nil,or_false] at hu;rcases hu with rfl|rfl|rfl|rfl <;> first|rfl|exact (hT.own (i:=i) oM).oneCell) (by repeat (constructor)) x8 oT E1 fun M7 E2 i0 o1 c6=>(?_))
    have a8:=a8.mv i0
    have a6:=a6.mv i0 o1 (fun b hb=>AM (y0 b hb))
    have a0:=a0.mv i0
    have a5:=a5.mv i0
    have a4:=a4.mv i0
    have c0:=c0.keep o1 (AM x9)
    have hT:=by exact hT.mvB i0 o1 aS (by decide) (fun x hx=>by exact hx)
    refine AE (AC (AF (AB kR (AA (AO 4 BR rfl (AA (AR U23_ rfl (b3) rfl c0 rfl (AA (AD (vI ((i:Nat):Int)) rfl (AA (DV U23_ DC .i64 ((i:Nat):Int) i rfl rfl rfl a4 (by rw [c3.len,← hT.len];omega) fun M8 y1=>(AA (CH U47_ rfl DC rfl y1 fun y2 m2=>(AA (BS [vI 0,vI 0,vI 0,nS,nS] HH rfl E2 fun d2 E3 E4 E5 f9 k1 y3=>(?_))))))))))))))))
    have y4:CJ b0 d2:=by show b0≠d2;have:=c0.lt;omega
    have y5:CJ d0 d2:=by show d0≠d2;have:=c6.lt;omega
    have y6:∀ b,a7.ownBlock=some b→b≠d2:=fun b hb=>by have:=(a6.lt b hb).2;omega
    have b1:∀ b,a7.ownBlock=some b→b∈(d2 :: (d0 :: d3)):=fun b hb=>List.mem_cons_of_mem _ (b1 b hb)
    clear E4
    have a8:=a8.mv f9
    have a6:=a6.mv f9 k1 (by simp)
    have a0:=a0.mv f9
    have a4:=a4.mv f9
    have m2:Enc.recovery.rd E3 ((d2 :: (d0 :: d3))++O) y2 ((((AH c (moves[k]!).kind (moves[k]!).no (moves[k]!).guardian (moves[k]!).day).1).recs)[i]!):=Enc.mv Enc.recovery (x:=(((AH c (moves[k]!).kind (moves[k]!).no (moves[k]!).guardian (moves[k]!).day).1).recs)[i]!) m2 f9
    have a5:=a5.mv f9
    have c0:=c0.keep k1 (by simp)
    have c6:=c6.keep k1 (by simp)
    have hT:=by exact hT.mv0 f9 k1 (fun x hx=>by exact List.mem_cons_of_mem _ hx)
    obtain ⟨o2,r2,rfl,g9,p7⟩:=m2
    have:=g9.len_le
    have:=p7.len_le
    refine BE (AS (vs:=[vI (((((AH c (moves[k]!).kind (moves[k]!).no (moves[k]!).guardian (moves[k]!).day).1).recs)[i]!).no),vI (((((AH c (moves[k]!).kind (moves[k]!).no (moves[k]!).guardian (moves[k]!).day).1).recs)[i]!).asked),vI (((((AH c (moves[k]!).kind (moves[k]!).no (moves[k]!).guardian (moves[k]!).day).1).recs)[i]!).state),o2,r2]) (.agg #[vI (((((AH c (moves[k]!).kind (moves[k]!).no (moves[k]!).guardian (moves[k]!).day).1).recs)[i]!).no),vI (((((AH c (moves[k]!).kind (moves[k]!).no (moves[k]!).guardian (moves[k]!).day).1).recs)[i]!).asked),vI (((((AH c (moves[k]!).kind (moves[k]!).no (moves[k]!).guardian (moves[k]!).day).1).recs)[i]!).state),o2,r2]) rfl rfl rfl DC (fun u hu=>by simp only [List.mem_cons,List.not_mem_nil,or_false] at hu;rcases hu with rfl|rfl|rfl|rfl|rfl <;> first|rfl|exact g9.oneCell|exact p7.oneCell) (by repeat (constructor)) y3 oT E5 fun E6 r3 g0 k2 j0=>(?_))
    have a8:=a8.mv g0
    have a6:=a6.mv g0 k2 (fun b hb=>AM (y6 b hb))
    have a0:=a0.mv g0
    have a4:=a4.mv g0
    have g9:=g9.mv g0
    have a5:=a5.mv g0
    have c0:=c0.keep k2 (AM y4)
    have c6:=c6.keep k2 (AM y5)
    have hT:=by exact hT.mvB g0 k2 aS (by decide) (fun x hx=>by exact hx)
    refine AE (AC (AF (AF (AB kR (AA (AO 2 EM rfl (AA (AR U3_ rfl (vI (((((AH c (moves[k]!).kind (moves[k]!).no (moves[k]!).guardian (moves[k]!).day).1).recs)[i]!).state)) rfl j0 rfl (AA (CS .i64 (((((AH c (moves[k]!).kind (moves[k]!).no (moves[k]!).guardian (moves[k]!).day).1).recs)[i]!).state) (1:Int) rfl rfl (AA (AO 1 JK rfl (AA (AR U3_ rfl (vI (L2[i]!.done)) rfl c6 rfl (AA (IE .i64 (L2[i]!.done) (0:Int) rfl rfl (AA (o_neqB ((((((AH c (moves[k]!).kind (moves[k]!).no (moves[k]!).guardian (moves[k]!).day).1).recs)[i]!).state) == (1:Int)) (decide ((0:Int)≤L2[i]!.done)) U4_ rfl rfl (AA (AD (vO (((((((AH c (moves[k]!).kind (moves[k]!).no (moves[k]!).guardian (moves[k]!).day).1).recs)[i]!).state) == (1:Int)) != (decide ((0:Int)≤L2[i]!.done)))) rfl (?_)))))))))))))))))))))
    have y7:(((((((AH c (moves[k]!).kind (moves[k]!).no (moves[k]!).guardian (moves[k]!).day).1).recs)[i]!).state) == (1:Int)) != (decide ((0:Int)≤L2[i]!.done)))=false:=hsee.1
    rw [y7]
    refine AQ rfl (AO 2 EM rfl (AQ rfl (AR U3_ rfl (vI (((((AH c (moves[k]!).kind (moves[k]!).no (moves[k]!).guardian (moves[k]!).day).1).recs)[i]!).state)) rfl j0 rfl (AQ rfl (CS .i64 (((((AH c (moves[k]!).kind (moves[k]!).no (moves[k]!).guardian (moves[k]!).day).1).recs)[i]!).state) (2:Int) rfl rfl (AQ rfl (AO 3 MB rfl (AQ rfl (AR U4_ rfl (vO (L2[i]!.vetoed)) rfl c6 rfl (AQ rfl (o_neqB ((((((AH c (moves[k]!).kind (moves[k]!).no (moves[k]!).guardian (moves[k]!).day).1).recs)[i]!).state) == (2:Int)) (L2[i]!.vetoed) U4_ rfl rfl (AA (BM (vO (((((((AH c (moves[k]!).kind (moves[k]!).no (moves[k]!).guardian (moves[k]!).day).1).recs)[i]!).state) == (2:Int)) != (L2[i]!.vetoed))) rfl rfl (AA (AD (vO (((((((AH c (moves[k]!).kind (moves[k]!).no (moves[k]!).guardian (moves[k]!).day).1).recs)[i]!).state) == (2:Int)) != (L2[i]!.vetoed))) rfl (?_))))))))))))))))
    have y8:(((((((AH c (moves[k]!).kind (moves[k]!).no (moves[k]!).guardian (moves[k]!).day).1).recs)[i]!).state) == (2:Int)) != (L2[i]!.vetoed))=false:=hsee.2.1
    rw [y8]
    refine AQ rfl (AO 3 HF rfl (AQ rfl (AR U22_ rfl (o2) rfl j0 rfl (AQ rfl (CO U22_ rfl g9 (AQ rfl (AO 2 JI rfl (AQ rfl (AR U22_ rfl (L2[i]!.ap) rfl c6 rfl (AQ rfl (GU U22_ rfl (hT.own (i:=i) oM) (AQ rfl (DS .i64 ((((((AH c (moves[k]!).kind (moves[k]!).no (moves[k]!).guardian (moves[k]!).day).1).recs)[i]!).approved).length:Int) (T2[i]!.approved.length:Int) rfl rfl (AA (BM (vO (((((((AH c (moves[k]!).kind (moves[k]!).no (moves[k]!).guardian (moves[k]!).day).1).recs)[i]!).approved).length:Int) != (T2[i]!.approved.length:Int))) rfl rfl (AA (AD (vO (((((((AH c (moves[k]!).kind (moves[k]!).no (moves[k]!).guardian (moves[k]!).day).1).recs)[i]!).approved).length:Int) != (T2[i]!.approved.length:Int))) rfl (?_))))))))))))))))))
    have y9:(((((((AH c (moves[k]!).kind (moves[k]!).no (moves[k]!).guardian (moves[k]!).day).1).recs)[i]!).approved).length:Int) != (T2[i]!.approved.length:Int))=false:=hsee.2.2.1
    rw [y9]
    refine AQ rfl (AO 1 HM rfl (AQ rfl (AR U3_ rfl (vI (((((AH c (moves[k]!).kind (moves[k]!).no (moves[k]!).guardian (moves[k]!).day).1).recs)[i]!).asked)) rfl j0 rfl (AQ rfl (AO 0 f_44_0 rfl (AQ rfl (AR U3_ rfl (vI (L2[i]!.asked)) rfl c6 rfl (AQ rfl (DS .i64 (((((AH c (moves[k]!).kind (moves[k]!).no (moves[k]!).guardian (moves[k]!).day).1).recs)[i]!).asked) (L2[i]!.asked) rfl rfl (AA (BM (vO ((((((AH c (moves[k]!).kind (moves[k]!).no (moves[k]!).guardian (moves[k]!).day).1).recs)[i]!).asked) != (L2[i]!.asked))) rfl rfl (AE (AC (?_))))))))))))))
    have z0:((((((AH c (moves[k]!).kind (moves[k]!).no (moves[k]!).guardian (moves[k]!).day).1).recs)[i]!).asked) != (L2[i]!.asked))=false:=hsee.2.2.2.1
    rw [z0]
    refine AP false rfl rfl (fun h=>by cases h) (fun _=>AZ (AC (AF (AB kR (AA (AO 1 JK rfl (AA (AR U3_ rfl (vI (L2[i]!.done)) rfl c6 rfl (AA (IE .i64 (L2[i]!.done) (0:Int) rfl rfl (AA (AD (vO (decide ((0:Int)≤L2[i]!.done))) rfl (?_)))))))))))))
    cases p8:(decide ((0:Int)≤L2[i]!.done))
    ·have I2:L2[i]!.done<(0:Int):=by simpa using p8
     refine AU rfl (AU rfl (AU rfl (DB rfl (DB rfl (DB rfl (DB rfl (DB rfl (DB rfl (DB rfl (AU rfl (AU rfl (DB rfl (DB rfl (DB rfl (DB rfl (DB rfl (DB rfl (AU rfl (AA (BM (vO false) rfl rfl (AE (AC (AP false rfl rfl (fun h=>by cases h) (fun _=>AZ (BU (AC (AB kR (AA (DQ .i64 ((i:Nat):Int) (1:Int) (((i+1:Nat):Int)) rfl rfl (HR oM oM) (AA (AD (vI ((i+1:Nat):Int)) rfl (AE (AC (?_))))))))))))))))))))))))))))))))))
     exact ⟨_,oM,(i+1),(d2 :: (d0 :: d3)),oM,hT,rfl,⟨_,BL _ ⟨rfl,rfl,rfl,rfl,rfl,rfl,rfl,rfl,rfl,rfl,(by rfl),rfl,trivial⟩⟩,r3,a8,a6,b1,a0,a5,a4,c0,(by (repeat (first|assumption|apply List.mem_cons_of_mem)))⟩
    have I3:(0:Int)≤L2[i]!.done:=by simpa using p8
    refine AQ rfl (AO 3 MB rfl (AQ rfl (AR U4_ rfl (vO (L2[i]!.vetoed)) rfl c6 rfl (AQ rfl (AD (vO (L2[i]!.vetoed)) rfl (?_))))))
    have z1:(L2[i]!.vetoed)=false:=(hsee.2.2.2.2.1 aS).1
    rw [z1]
    refine AQ rfl (AO 1 JK rfl (AQ rfl (AR U3_ rfl (vI (L2[i]!.done)) rfl c6 rfl (AQ rfl (AO 0 f_44_0 rfl (AQ rfl (AR U3_ rfl (vI (L2[i]!.asked)) rfl c6 rfl (AQ rfl (AD (vI wait) rfl (AQ rfl (DQ .i64 (L2[i]!.asked) wait (L2[i]!.asked+wait) rfl rfl (HR (by have:=hsee.2.2.2.2.2;omega) rfl) (AQ rfl (DU .i64 (L2[i]!.done) (L2[i]!.asked+wait) rfl rfl (AQ rfl (BM (vO (decide (L2[i]!.done<L2[i]!.asked+wait))) rfl rfl (AQ rfl (AD (vO (decide (L2[i]!.done<L2[i]!.asked+wait))) rfl (?_))))))))))))))))))
    have z2:(decide (L2[i]!.done<L2[i]!.asked+wait))=false:=(hsee.2.2.2.2.1 aS).2.1
    rw [z2]
    refine AQ rfl (AO 2 JI rfl (AQ rfl (AR U22_ rfl (L2[i]!.ap) rfl c6 rfl (AQ rfl (AD (l_v) rfl (AQ rfl (BJ (vs:=[L2[i]!.ap,l_v]) enter_26 (c_countG (O:=[]) (L2[i]!.ap) (T2[i]!.approved) l_v l E6 ((hT.own (i:=i) oM).rd0) a8.rd0 HN) rfl r3 fun M9 N0 E7 i1 o3 E8=>(?_))))))))
    obtain rfl:=E8
    have a8:=a8.mv i1
    have a6:=a6.mv i1 o3 (by simp)
    have a0:=a0.mv i1
    have a4:=a4.mv i1
    have a5:=a5.mv i1
    have c0:=c0.keep o3 (by simp)
    have hT:=by exact hT.mv0 i1 o3 (fun x hx=>by exact hx)
    refine AQ rfl (AD (vI threshold) rfl (AQ rfl (DU .i64 ((DL (T2[i]!.approved) l (T2[i]!.approved).length:Nat):Int) threshold rfl rfl (AQ rfl (BM (vO (decide (((DL (T2[i]!.approved) l (T2[i]!.approved).length:Nat):Int)<threshold))) rfl rfl (AA (AY (vO (decide (((DL (T2[i]!.approved) l (T2[i]!.approved).length:Nat):Int)<threshold))) rfl rfl (AE (AC (?_))))))))))
    have z3:(decide (((DL (T2[i]!.approved) l (T2[i]!.approved).length:Nat):Int)<threshold))=false:=(hsee.2.2.2.2.1 aS).2.2
    rw [z3]
    refine AP false rfl rfl (fun h=>by cases h) (fun _=>AZ (BU (AC (AB kR (AA (DQ .i64 ((i:Nat):Int) (1:Int) (((i+1:Nat):Int)) rfl rfl (HR oM oM) (AA (AD (vI ((i+1:Nat):Int)) rfl (AE (AC (?_)))))))))))
    exact ⟨_,oM,(i+1),(d2 :: (d0 :: d3)),oM,hT,rfl,⟨_,BL _ ⟨rfl,rfl,rfl,rfl,rfl,rfl,rfl,rfl,rfl,rfl,(by rfl),rfl,trivial⟩⟩,E7,a8,a6,b1,a0,a5,a4,c0,(by (repeat (first|assumption|apply List.mem_cons_of_mem)))⟩
   have I4:(L2.length:Int)≤((i:Nat):Int):=by simpa using m0
   refine EX (CV (CV (EB (BU (AC (AB kR (AA (DQ .i64 ((k:Nat):Int) (1:Int) (((k+1:Nat):Int)) rfl rfl (HR oM oM) (AA (AD (vI ((k+1:Nat):Int)) rfl (AE (AC (?_)))))))))))))
   exact ⟨_,oM,(k+1),((AH c moves[k]!.kind moves[k]!.no moves[k]!.guardian moves[k]!.day).1),(L2),(T2),a7,b8,b3,d3,oM,(by exact c3),oM,hT,rfl,⟨_,BL _ ⟨rfl,rfl,rfl,rfl,rfl,rfl,rfl,(by rfl),rfl,trivial⟩⟩,p3,(by rw [show (L2)=L2 from rfl];exact a6),b1,(by rw [show ((AH c moves[k]!.kind moves[k]!.no moves[k]!.guardian moves[k]!.day).1).guardians=((AH c (moves[k]!).kind (moves[k]!).no (moves[k]!).guardian (moves[k]!).day).1).guardians from rfl];exact a5),(by rw [show ((AH c moves[k]!.kind moves[k]!.no moves[k]!.guardian moves[k]!.day).1).recs=((AH c (moves[k]!).kind (moves[k]!).no (moves[k]!).guardian (moves[k]!).day).1).recs from rfl];exact a4),a8,a0,(by rw [show ([vI (((AH c moves[k]!.kind moves[k]!.no moves[k]!.guardian moves[k]!.day).1).epoch),vI (((AH c moves[k]!.kind moves[k]!.no moves[k]!.guardian moves[k]!.day).1).threshold),vI (((AH c moves[k]!.kind moves[k]!.no moves[k]!.guardian moves[k]!.day).1).wait),b8,b3]:List Value)=[vI (((AH c (moves[k]!).kind (moves[k]!).no (moves[k]!).guardian (moves[k]!).day).1).epoch),vI (((AH c (moves[k]!).kind (moves[k]!).no (moves[k]!).guardian (moves[k]!).day).1).threshold),vI (((AH c (moves[k]!).kind (moves[k]!).no (moves[k]!).guardian (moves[k]!).day).1).wait),b8,b3] from rfl];exact c0),aS,c4⟩
  have I5:(moves.length:Int)≤((k:Nat):Int):=by simpa using k7
  refine EX (CV (CV (EB (AC (AF (AB kR (AA (AG (vO true) rfl (AE (AC (AT (BF rfl (CU rfl rfl rfl) (?_)))))))))))))
  exact ⟨_,rfl,F2.keep,rfl⟩
 have I6:(20:Int)<(l.length:Int):=by simpa using o4
 refine AU rfl (AU rfl (AU rfl (AA (AY (vO true) rfl rfl (AE (AC (AP true rfl rfl (fun _=>AF (AB kR (AA (AG (vO true) rfl (AE (AC (AT (BA (BF rfl (CU rfl rfl rfl) (?_)))))))))) (fun h=>by cases h))))))))
 exact ⟨_,rfl,j1.keep,rfl⟩
end Go.Proofs.Ytpdekmknnpkmgaa
