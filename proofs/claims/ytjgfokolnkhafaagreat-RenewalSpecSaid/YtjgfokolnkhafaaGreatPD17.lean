/- What the laws of this part rest on: lemmas, and the walks of the functions. No conditions. -/
import Derived.WalkKit
import Derived.WalkSpells
import Derived.WalkLawsBesides
import Derived.RangeFuncLeaves
import Derived.Maps.AppendAt
import Derived.Deep.AppendLies
import Derived.Deep.Slices
import Derived.OpenShut
import Derived.ProofKit
import Derived.Below
import Derived.ChangeSame
import Derived.Carry
import Derived.RangeFuncRecord
import Derived.Laws.Tables
import Derived.Recover
import Derived.DefersIn
import Derived.Lib.AppendZerosOnto
import Derived.Lib.Overlaps
import Derived.Laws.CopyRow
import Derived.Laws.StructEq
import Derived.ChangeKeysEq
import Derived.OrdersIn
import Derived.Test.YtjgfokolnkhafaaGreatRows
import Derived.Test.YtjgfokolnkhafaaGreatPD16
set_option linter.unusedSimpArgs false
set_option linter.unusedVariables false
namespace Go.Proofs.YtjgfokolnkhafaaGreat
open Go.Fw
def JM (c:Circle) (l:List Share):Bool:=(l[0]!.epoch == c.epoch && l[0]!.threshold == c.threshold) && (l[0]!.many == (c.guardians.length:Int))
def IK (c:Circle) (l:List Share):Int:=if AN c != 0 then AN c else CF c l
section
variable {c:Circle} {l:List Share} {secret coins:List UInt8} {others:List Int} {t no:Int}
theorem rdeal_2 (h:AN c=0):CN c secret coins=BH secret c.epoch c.threshold (c.guardians.length:Int) coins:=by rw [KZ,deal_2 h]
theorem chk_1 (h:AN c≠0):IK c l=AN c:=if_pos (by simpa using h)
theorem chk_n (h:AN c=0):IK c l=CF c l:=if_neg (by simpa using h)
theorem chk_2 (h:AN c=0) (h2:CQ l≠0):IK c l=CQ l:=by
  rw [chk_n h];rw [IT] at h2 ⊢;exact belong_1 h2
theorem WG (h2:BP l=0):JM c l=true↔l.any (GD c)=false:=by
  have hv:=(FU l).1 h2
  rw [any_f]
  unfold JM
  simp only [Bool.and_eq_true,beq_iff_eq]
  refine ⟨fun h k hk=>SS.2 ⟨by rw [hv.ep k hk];exact h.1.1,by rw [hv.th k hk];exact h.1.2,by rw [hv.ma k hk];exact h.2⟩,fun h=>?_⟩
  have:=SS.1 (h 0 hv.pos)
  exact ⟨⟨this.1,this.2.1⟩,this.2.2⟩
theorem chk_3 (h:AN c=0) (h2:CQ l=0) (h3:JM c l=false):IK c l=460:=by
  rw [IT] at h2
  rw [chk_n h]
  refine belong_2 h2 ?_
  rw [← Bool.not_eq_false];intro e
  rw [(WG h2).2 e] at h3;cases h3
theorem chk_4 (h:AN c=0) (h2:CQ l=0) (h3:JM c l=true):IK c l=0:=by
  rw [IT] at h2
  rw [chk_n h];exact WK h2 ((WG h2).1 h3)
theorem VG (h:IK c l=0):AN c=0∧CF c l=0:=by
  by_cases g:AN c=0
  · rw [chk_n g] at h;exact ⟨g,h⟩
  · rw [chk_1 g] at h;exact absurd h g
theorem rn_1 (h:IK c l≠0):AS c l coins=(EM,[],IK c l):=by
  by_cases g:AN c=0
  · rw [chk_n g] at h ⊢;exact RC g h
  · rw [chk_1 g];exact TS g
theorem rn_2 (h:IK c l=0) (h2:(CR l coins).2≠0):AS c l coins=(EM,[],(CR l coins).2):=by
  rw [QC] at h2 ⊢;exact TT (VG h).1 (VG h).2 h2
theorem rn_3 (h:IK c l=0) (h2:(CR l coins).2=0):AS c l coins=(⟨c.epoch+1,c.threshold,c.wait,c.guardians,c.recs⟩,(CR l coins).1,0):=by
  rw [QC] at h2 ⊢;exact TR (VG h).1 (VG h).2 h2
section
variable (h:AN c=0) (h0:0≤no) (h1:no<(c.recs.length:Int))
include h h0 h1
end
end
open Go.Fw Go.RowKit
set_option maxHeartbeats 4000000 in
set_option maxRecDepth 100000 in
theorem c_refDeal46 {O:List Nat} (c_cs:List Value) (c:Circle) (secret_v:Value) (secret:List UInt8) (coins_v:Value) (coins:List UInt8) (w:World) (b2:Enc.circle.rd w O c_cs c) (a0:BC Enc.u8 w O secret_v secret) (a1:BC Enc.u8 w O coins_v coins) (hO:∀ b∈O,b<w.heap.size):CA Tryz.prog 8 [.agg c_cs.toArray,secret_v,coins_v] w (fun v w'=>∃ (x0:Value),v = .tuple #[x0,vI ((CN c secret coins).2)]∧BC Enc.share w' (O) x0 ((CN c secret coins).1)):= by
 have b2:Enc.circle.rd w ([]++O) c_cs c:=b2
 have b7:=a0.len_le
 have a0:BC Enc.u8 w ([]++O) secret_v secret:=a0
 have c7:=a1.len_le
 have a1:BC Enc.u8 w ([]++O) coins_v coins:=a1
 have s0:St w O w []:=St.start hO
 refine BI 26 Tryz.func8 rfl rfl oT (fun F0=>AG (AC kR (AA (DU (E:=Enc.circle) (vA c_cs.toArray) (c_cs) c rfl rfl b2 s0 fun d0 b8 b0 b1 d1 a2=>(?_)))))
 have a0:=a0.mv b1
 have a1:=a1.mv b1
 refine AA (AD (nS) rfl (AA (AD (vI 0) rfl (AF (AB (AG (AC kR (AA (CL U25_ rfl BM rfl a2 fun a7 b3=>(AA (AY (vs:=[vA a7.toArray]) enter_26 (UU (O:=[]++O) a7 c b8 b3 b0.lt) rfl b0 fun d2 b9 a4 a5 d3 c0=>(?_))))))))))))
 obtain rfl:=c0
 have a0:=a0.mv a5
 have a1:=a1.mv a5
 have a2:=a2.mv a5
 refine AA (AD (vI (AN c)) rfl (AF (AB (AG (AG (AC kR (AA (AE (vI (AN c)) rfl (AA (CO .i64 (AN c) (0:Int) rfl rfl (AF (AB (AL ((AN c) != (0:Int)) rfl rfl (fun a3=>?_) (fun a3=>?_))))))))))))))
 ·have c8:AN c≠(0:Int):=by simpa using a3
  refine AG (AC kR (AA (AE (vI (AN c)) rfl (AA (AD (nS) rfl (AA (AD (vI (AN c)) rfl (AF (AB (AM (AK (AT rfl (FA rfl rfl rfl rfl) (?_)))))))))))))
  have c1:((CN c secret coins).1)=([]):=by exact congrArg (fun p=>p.1) (show CN c secret coins=_ from deal_1 aS)
  have c2:((CN c secret coins).2)=(AN c):=by exact congrArg (fun p=>p.2) (show CN c secret coins=_ from deal_1 aS)
  exact ⟨_,rfl,a4.keep,by rw [c1,c2];exact ⟨.slice none 0 0,rfl,BC.nil _ _ _⟩⟩
 have c9:AN c=(0:Int):=by simpa using a3
 refine AU (AB (AG (AC kR (AA (AE (secret_v) rfl (AA (AX 0 IS (c.epoch) rfl a2 (fun _ _ _ h=>FX h) fun d4 b4=>(AA (BL U3_ rfl rfl b4 (AA (AX 1 KQ (c.threshold) rfl a2 (fun _ _ _ h=>FE h) fun d5 b5=>(AA (BL U3_ rfl rfl b5 (AA (AX 3 JD (c.guardians) rfl a2 (fun _ _ _ h=>DY h) fun d6 b6=>(AA (BN U22_ rfl rfl b6 fun d7 a8=>(?_))))))))))))))))))
 have:=a8.len_le
 refine AA (BR U22_ rfl a8 (AA (AE (coins_v) rfl (AA (AY (vs:=[secret_v,vI c.epoch,vI c.threshold,vI (c.guardians.length:Int),coins_v]) enter_27 (UN (O:=[]++O) secret_v secret c.epoch c.threshold (c.guardians.length:Int) coins_v coins b9 a0 a1 a4.lt) rfl a4 fun d8 d9 c3 e0 e1 c4=>(?_))))))
 obtain ⟨a6,rfl,a9⟩:=c4
 have:=a9.len_le
 refine AA (AQ (a6) rfl rfl (AA (AQ (vI ((BH secret c.epoch c.threshold (c.guardians.length:Int) coins).2)) rfl rfl (AA (AD (a6) rfl (AA (AD (vI ((BH secret c.epoch c.threshold (c.guardians.length:Int) coins).2)) rfl (AF (AB (AM (AT rfl (FA rfl rfl rfl rfl) (?_))))))))))))
 have c5:((CN c secret coins).1)=((BH secret c.epoch c.threshold (c.guardians.length:Int) coins).1):=by exact congrArg (fun p=>p.1) (show CN c secret coins=_ from rdeal_2 aS)
 have c6:((CN c secret coins).2)=((BH secret c.epoch c.threshold (c.guardians.length:Int) coins).2):=by exact congrArg (fun p=>p.2) (show CN c secret coins=_ from rdeal_2 aS)
 exact ⟨_,rfl,c3.keep,by rw [c5,c6];exact ⟨a6,rfl,a9.out⟩⟩
set_option maxHeartbeats 4000000 in
set_option maxRecDepth 100000 in
theorem c_refBelong {O:List Nat} (c_cs:List Value) (c:Circle) (l_v:Value) (l:List Share) (w:World) (a8:Enc.circle.rd w O c_cs c) (a1:BC Enc.share w O l_v l) (hpre0:0<l.length) (hO:∀ b∈O,b<w.heap.size):CA Tryz.prog 75 [.agg c_cs.toArray,l_v] w (fun v _=>v = .bool (JM c l)):= by
 have a8:Enc.circle.rd w ([]++O) c_cs c:=a8
 have c6:=a1.len_le
 have a1:BC Enc.share w ([]++O) l_v l:=a1
 have s0:St w O w []:=St.start hO
 refine BI 31 Tryz.func75 rfl rfl oT (fun F0=>AG (AC kR (AA (DU (E:=Enc.circle) (vA c_cs.toArray) (c_cs) c rfl rfl a8 s0 fun c7 b8 b9 c0 c8 a0=>(?_)))))
 have a1:=a1.mv c0
 refine AA (AD (vO false) rfl (AF (AB (AG (FS 27 _ _ kR kR kR kR kR rfl rfl fun c1 a6=>?_)))))
 have a2:=b9.call a6
 have a7:Mv ([]) b8 ([]) c1:=Mv.of_keep a6
 have a1:=a1.mv a7
 have a0:=a0.mv a7
 refine BV (AE (l_v) rfl (BV (CZ U27_ DN .i64 (0:Int) 0 rfl rfl rfl a1 oM fun c9 a9=>(BV (AX 0 GP ((l[0]!).epoch) rfl a9 (fun _ _ _ h=>FY h) fun d0 b0=>(BV (BL U3_ rfl rfl b0 (BV (AX 0 IS (c.epoch) rfl a0 (fun _ _ _ h=>FX h) fun d1 b1=>(BV (BL U3_ rfl rfl b1 (BV (EH .i64 ((l[0]!).epoch) c.epoch rfl rfl (BV (AE (vO (((l[0]!).epoch) == c.epoch)) rfl (?_))))))))))))))))
 cases a3:(((l[0]!).epoch) == c.epoch)
 ·have c2:(l[0]!).epoch≠c.epoch:=by simpa using a3
  refine CJ rfl (CJ rfl (CJ rfl (CJ rfl (CJ rfl (CJ rfl (CJ rfl (BV (BB (vO false) rfl rfl (BV (AE (vO false) rfl (CJ rfl (CJ rfl (CJ rfl (CJ rfl (CJ rfl (CJ rfl (CJ rfl (CJ rfl (BV (BB (vO false) rfl rfl (BV (AD (vO false) rfl (EO (AF (AB (AM (AT rfl (BY rfl rfl rfl) (?_))))))))))))))))))))))))))))
  have e:(JM c l)=false:=by (unfold JM;rw [show (l[0]!.epoch == c.epoch)=false from by assumption];rfl)
  exact ⟨_,rfl,a2.keep,(by exact congrArg vO e.symm)⟩
 have c3:(l[0]!).epoch=c.epoch:=by simpa using a3
 refine DV rfl (AE (l_v) rfl (DV rfl (CZ U27_ DN .i64 (0:Int) 0 rfl rfl rfl a1 oM fun d2 b2=>(DV rfl (AX 2 HT ((l[0]!).threshold) rfl b2 (fun _ _ _ h=>JA h) fun d3 b3=>(DV rfl (BL U3_ rfl rfl b3 (DV rfl (AX 1 KQ (c.threshold) rfl a0 (fun _ _ _ h=>FE h) fun d4 b4=>(DV rfl (BL U3_ rfl rfl b4 (DV rfl (EH .i64 ((l[0]!).threshold) c.threshold rfl rfl (BV (AO (vO (((l[0]!).threshold) == c.threshold)) rfl rfl (BV (AE (vO (((l[0]!).threshold) == c.threshold)) rfl (?_))))))))))))))))))
 cases a4:(((l[0]!).threshold) == c.threshold)
 ·have c4:(l[0]!).threshold≠c.threshold:=by simpa using a4
  refine CJ rfl (CJ rfl (CJ rfl (CJ rfl (CJ rfl (CJ rfl (CJ rfl (CJ rfl (BV (BB (vO false) rfl rfl (BV (AD (vO false) rfl (EO (AF (AB (AM (AT rfl (BY rfl rfl rfl) (?_)))))))))))))))))
  have e:(JM c l)=false:=by (unfold JM;rw [show (l[0]!.epoch == c.epoch)=true from by assumption,show (l[0]!.threshold == c.threshold)=false from by assumption];rfl)
  exact ⟨_,rfl,a2.keep,(by exact congrArg vO e.symm)⟩
 have c5:(l[0]!).threshold=c.threshold:=by simpa using a4
 refine DV rfl (AE (l_v) rfl (DV rfl (CZ U27_ DN .i64 (0:Int) 0 rfl rfl rfl a1 oM fun d5 b5=>(DV rfl (AX 3 HD ((l[0]!).many) rfl b5 (fun _ _ _ h=>LI h) fun d6 b6=>(DV rfl (BL U3_ rfl rfl b6 (DV rfl (AX 3 JD (c.guardians) rfl a0 (fun _ _ _ h=>DY h) fun d7 b7=>(DV rfl (BN U22_ rfl rfl b7 fun d8 a5=>(?_))))))))))))
 have:=a5.len_le
 refine DV rfl (BR U22_ rfl a5 (DV rfl (EH .i64 ((l[0]!).many) (c.guardians.length:Int) rfl rfl (BV (AO (vO (((l[0]!).many) == (c.guardians.length:Int))) rfl rfl (BV (AD (vO (((l[0]!).many) == (c.guardians.length:Int))) rfl (EO (AF (AB (AM (AT rfl (BY rfl rfl rfl) (?_)))))))))))))
 have e:(JM c l)=(((l[0]!).many) == (c.guardians.length:Int)):=by (unfold JM;rw [show (l[0]!.epoch == c.epoch)=true from by assumption,show (l[0]!.threshold == c.threshold)=true from by assumption];rfl)
 exact ⟨_,rfl,a2.keep,(by exact congrArg vO e.symm)⟩
set_option maxHeartbeats 4000000 in
set_option maxRecDepth 100000 in
theorem c_refChk46 {O:List Nat} (c_cs:List Value) (c:Circle) (l_v:Value) (l:List Share) (w:World) (b3:Enc.circle.rd w O c_cs c) (a1:BC Enc.share w O l_v l) (hO:∀ b∈O,b<w.heap.size):CA Tryz.prog 30 [.agg c_cs.toArray,l_v] w (fun v _=>v=vI (IK c l)):= by
 have b3:Enc.circle.rd w ([]++O) c_cs c:=b3
 have c9:=a1.len_le
 have a1:BC Enc.share w ([]++O) l_v l:=a1
 have s0:St w O w []:=St.start hO
 refine BI 21 Tryz.func30 rfl rfl oT (fun F0=>AG (AC kR (AA (DU (E:=Enc.circle) (vA c_cs.toArray) (c_cs) c rfl rfl b3 s0 fun d0 b7 a9 b8 d1 a0=>(?_)))))
 have a1:=a1.mv b8
 refine AA (AD (vI 0) rfl (AF (AB (AG (AC kR (AA (CL U25_ rfl BM rfl a0 fun a7 b4=>(AA (AY (vs:=[vA a7.toArray]) enter_26 (UU (O:=[]++O) a7 c b7 b4 a9.lt) rfl a9 fun d2 b9 a5 b0 d3 c0=>(?_))))))))))
 obtain rfl:=c0
 have a1:=a1.mv b0
 have a0:=a0.mv b0
 refine AA (AD (vI (AN c)) rfl (AF (AB (AG (AG (AC kR (AA (AE (vI (AN c)) rfl (AA (CO .i64 (AN c) (0:Int) rfl rfl (AF (AB (AL ((AN c) != (0:Int)) rfl rfl (fun a2=>?_) (fun a2=>?_))))))))))))))
 ·have c4:AN c≠(0:Int):=by simpa using a2
  refine AG (AC kR (AA (AE (vI (AN c)) rfl (AA (AD (vI (AN c)) rfl (AF (AB (AM (AK (AT rfl (BY rfl rfl rfl) (?_)))))))))))
  have e:(IK c l)=(AN c):=by exact chk_1 aS
  exact ⟨_,rfl,a5.keep,by rw [e];exact rfl⟩
 have c5:AN c=(0:Int):=by simpa using a2
 refine AU (AB (AG (AC kR (AA (AE (l_v) rfl (AA (AY (vs:=[l_v]) enter_74 (TE (O:=[]++O) l_v l b9 a1 a5.lt) rfl a5 fun d4 c1 a6 b1 d5 c2=>(?_))))))))
 obtain rfl:=c2
 have a1:=a1.mv b1
 have a0:=a0.mv b1
 refine AA (AD (vI (CQ l)) rfl (AF (AB (AG (AG (AC kR (AA (AE (vI (CQ l)) rfl (AA (CO .i64 (CQ l) (0:Int) rfl rfl (AF (AB (AL ((CQ l) != (0:Int)) rfl rfl (fun a3=>?_) (fun a3=>?_))))))))))))))
 ·have c6:CQ l≠(0:Int):=by simpa using a3
  refine AG (AC kR (AA (AE (vI (CQ l)) rfl (AA (AD (vI (CQ l)) rfl (AF (AB (AM (AK (AT rfl (BY rfl rfl rfl) (?_)))))))))))
  have e:(IK c l)=(CQ l):=by exact chk_2 aS aS
  exact ⟨_,rfl,a6.keep,by rw [e];exact rfl⟩
 have b5:CQ l=(0:Int):=by simpa using a3
 have hcl:CQ l=0:=b5
 have hpl:=((FU l).1 (by rw [← IT];exact hcl)).pos
 refine AU (AB (AG (AG (AC kR (AA (CL U25_ rfl BM rfl a0 fun a8 b6=>(AA (AE (l_v) rfl (AA (AY (vs:=[vA a8.toArray,l_v]) enter_75 (c_refBelong (O:=[]++O) a8 c l_v l c1 b6 a1 oM a6.lt) rfl a6 fun d6 d7 b2 d8 d9 c3=>(?_)))))))))))
 obtain rfl:=c3
 refine AA (ER (JM c l) rfl (AF (AB (AL (!(JM c l)) rfl rfl (fun a4=>?_) (fun a4=>?_)))))
 ·have c7:(JM c l)=false:=by simpa using a4
  refine AG (AC kR (AA (AD (vI 460) rfl (AF (AB (AM (AK (AT rfl (BY rfl rfl rfl) (?_)))))))))
  have e:(IK c l)=(460:Int):=by exact chk_3 aS aS aS
  exact ⟨_,rfl,b2.keep,by rw [e];exact rfl⟩
 have c8:(JM c l)=true:=by simpa using a4
 refine AU (AB (AG (AC kR (AA (AD (vI 0) rfl (AF (AB (AM (AT rfl (BY rfl rfl rfl) (?_))))))))))
 have e:(IK c l)=(0:Int):=by exact chk_4 aS aS aS
 exact ⟨_,rfl,b2.keep,by rw [e];exact rfl⟩
set_option maxHeartbeats 4000000 in
set_option maxRecDepth 100000 in
theorem c_refRenew46 {O:List Nat} (c_cs:List Value) (c:Circle) (l_v:Value) (l:List Share) (coins_v:Value) (coins:List UInt8) (w:World) (c5:Enc.circle.rd w O c_cs c) (b0:BC Enc.share w O l_v l) (a2:BC Enc.u8 w O coins_v coins) (hO:∀ b∈O,b<w.heap.size):CA Tryz.prog 10 [.agg c_cs.toArray,l_v,coins_v] w (fun v w'=>∃ (x0:List Value) (x1:Value),v = .tuple #[.agg x0.toArray,x1,vI ((AS c l coins).2.2)]∧Enc.circle.rd w' (O) x0 ((AS c l coins).1)∧BC Enc.share w' (O) x1 ((AS c l coins).2.1)):= by
 have c5:Enc.circle.rd w ([]++O) c_cs c:=c5
 have f8:=b0.len_le
 have b0:BC Enc.share w ([]++O) l_v l:=b0
 have f4:=a2.len_le
 have a2:BC Enc.u8 w ([]++O) coins_v coins:=a2
 have s0:St w O w []:=St.start hO
 refine BI 35 Tryz.func10 rfl rfl oT (fun F0=>AG (AC kR (?_)))
 obtain ⟨a5,a6,rfl,a0,a1⟩:=c5
 have:=a0.len_le
 have:=a1.len_le
 refine AA (XN (vA #[vI c.epoch,vI c.threshold,vI c.wait,a5,a6]) [vI c.epoch,vI c.threshold,vI c.wait,a5,a6] rfl rfl s0 fun a8 f9 d2 d3 b2 g0 a3=>(?_))
 clear d2
 have a0:=a0.mv b2
 have a1:=a1.mv b2
 have b0:=b0.mv b2
 have a2:=a2.mv b2
 refine AA (DB [vI 0,vI 0,vI 0,nS,nS] LD rfl d3 fun a9 d4 d5 c0 b3 d6 a4=>(?_))
 have c6:GX a8 a9:=by show a8≠a9;have:=a3.lt;omega
 clear d5
 have a0:=a0.mv b3
 have a1:=a1.mv b3
 have b0:=b0.mv b3
 have a2:=a2.mv b3
 have a3:=a3.keep d6 (by simp)
 refine AA (AD (nS) rfl (AA (AD (vI 0) rfl (AF (AB (AG (AC kR (AA (BQ (vs:=[vI c.epoch,vI c.threshold,vI c.wait,a5,a6]) U25_ rfl BM rfl a3 rfl (AA (AE (l_v) rfl (AA (AY (vs:=[vA #[vI c.epoch,vI c.threshold,vI c.wait,a5,a6],l_v]) enter_30 (c_refChk46 (O:=(a9 :: (a8 :: []))++O) [vI c.epoch,vI c.threshold,vI c.wait,a5,a6] c l_v l d4 ⟨_,_,rfl,a0,a1⟩ b0 c0.lt) rfl c0 fun g1 d7 b7 b4 c1 d8=>(?_))))))))))))))
 obtain rfl:=d8
 have a0:=a0.mv b4
 have a1:=a1.mv b4
 have b0:=b0.mv b4
 have a2:=a2.mv b4
 have a3:=a3.keep c1 (by simp)
 have a4:=a4.keep c1 (by simp)
 refine AA (AD (vI (IK c l)) rfl (AF (AB (AG (AG (AC kR (AA (AE (vI (IK c l)) rfl (AA (CO .i64 (IK c l) (0:Int) rfl rfl (AF (AB (AL ((IK c l) != (0:Int)) rfl rfl (fun b5=>?_) (fun b5=>?_))))))))))))))
 ·have f5:IK c l≠(0:Int):=by simpa using b5
  refine AG (AC kR (AA (EJ (l:=[]) QI LD rfl [] [vI 0,vI 0,vI 0,nS,nS] rfl rfl (AA (AE (vI (IK c l)) rfl (BZ (BE (vs:=[vI 0,vI 0,vI 0,nS,nS]) (.agg #[vI 0,vI 0,vI 0,nS,nS]) rfl rfl rfl BM (fun u hu=>by simp only [List.mem_cons,List.not_mem_nil,or_false] at hu;rcases hu with rfl|rfl|rfl|rfl|rfl <;> rfl) (by repeat (constructor)) a4 oT b7 fun g2 d9 g3 g4 c7=>(AA (AD (nS) rfl (AA (AD (vI (IK c l)) rfl (AF (AB (AM (AK (AT rfl (II rfl (EW (vs:=[vI 0,vI 0,vI 0,nS,nS]) rfl U25_ rfl BM rfl c7 rfl) (EI rfl rfl) (EI rfl rfl)) (?_)))))))))))))))))
  have e0:((AS c l coins).1)=(⟨(0:Int),(0:Int),(0:Int),[],[]⟩:Circle):=by exact congrArg (fun p=>p.1) (show AS c l coins=_ from rn_1 aS)
  have e1:((AS c l coins).2.1)=([]):=by exact congrArg (fun p=>p.2.1) (show AS c l coins=_ from rn_1 aS)
  have e2:((AS c l coins).2.2)=(IK c l):=by exact congrArg (fun p=>p.2.2) (show AS c l coins=_ from rn_1 aS)
  exact ⟨_,rfl,d9.keep,by rw [e0,e1,e2];exact ⟨[vI 0,vI 0,vI 0,nS,nS], .slice none 0 0,rfl,Enc.out (B:=(a9 :: (a8 :: []))) ⟨.slice none 0 0, .slice none 0 0,rfl,(BC.nil _ _ _),(BC.nil _ _ _)⟩,BC.nil _ _ _⟩⟩
 have c8:IK c l=(0:Int):=by simpa using b5
 have hck:=VG c8
 have hepb:=circ_ep hck.1
 refine AU (AB (AG (AC kR (AA (AE (l_v) rfl (AA (AE (coins_v) rfl (AA (AY (vs:=[l_v,coins_v]) enter_31 (c_refRefresh (O:=(a9 :: (a8 :: []))++O) l_v l coins_v coins d7 b0 a2 b7.lt) rfl b7 fun g5 g6 c2 c3 c4 e3=>(?_))))))))))
 obtain ⟨b1,rfl,a7⟩:=e3
 have:=a7.len_le
 have a0:=a0.mv c3
 have a1:=a1.mv c3
 have a3:=a3.keep c4 (by simp)
 have a4:=a4.keep c4 (by simp)
 refine AA (AE (vT #[b1,vI ((CR l coins).2)]) rfl (AA (AQ (b1) rfl rfl (AA (AQ (vI ((CR l coins).2)) rfl rfl (AA (AD (b1) rfl (AA (AD (vI ((CR l coins).2)) rfl (AF (AB (AG (AG (AC kR (AA (AE (vI ((CR l coins).2)) rfl (AA (CO .i64 ((CR l coins).2) (0:Int) rfl rfl (AF (AB (AL (((CR l coins).2) != (0:Int)) rfl rfl (fun b6=>?_) (fun b6=>?_))))))))))))))))))))))
 ·have f6:(CR l coins).2≠(0:Int):=by simpa using b6
  refine AG (AC kR (AA (EJ (l:=[]) QI LD rfl [] [vI 0,vI 0,vI 0,nS,nS] rfl rfl (AA (AE (vI ((CR l coins).2)) rfl (BZ (BE (vs:=[vI 0,vI 0,vI 0,nS,nS]) (.agg #[vI 0,vI 0,vI 0,nS,nS]) rfl rfl rfl BM (fun u hu=>by simp only [List.mem_cons,List.not_mem_nil,or_false] at hu;rcases hu with rfl|rfl|rfl|rfl|rfl <;> rfl) (by repeat (constructor)) a4 oT c2 fun g7 e4 g8 g9 c9=>(AA (AD (nS) rfl (AA (AD (vI ((CR l coins).2)) rfl (AF (AB (AM (AK (AT rfl (II rfl (EW (vs:=[vI 0,vI 0,vI 0,nS,nS]) rfl U25_ rfl BM rfl c9 rfl) (EI rfl rfl) (EI rfl rfl)) (?_)))))))))))))))))
  have e5:((AS c l coins).1)=(⟨(0:Int),(0:Int),(0:Int),[],[]⟩:Circle):=by exact congrArg (fun p=>p.1) (show AS c l coins=_ from rn_2 aS aS)
  have e6:((AS c l coins).2.1)=([]):=by exact congrArg (fun p=>p.2.1) (show AS c l coins=_ from rn_2 aS aS)
  have e7:((AS c l coins).2.2)=((CR l coins).2):=by exact congrArg (fun p=>p.2.2) (show AS c l coins=_ from rn_2 aS aS)
  exact ⟨_,rfl,e4.keep,by rw [e5,e6,e7];exact ⟨[vI 0,vI 0,vI 0,nS,nS], .slice none 0 0,rfl,Enc.out (B:=(a9 :: (a8 :: []))) ⟨.slice none 0 0, .slice none 0 0,rfl,(BC.nil _ _ _),(BC.nil _ _ _)⟩,BC.nil _ _ _⟩⟩
 have f7:(CR l coins).2=(0:Int):=by simpa using b6
 refine AU (AB (AG (AC kR (AA (AP 0 IS rfl (AA (AR U3_ rfl (vI c.epoch) rfl a3 rfl (AA (DM .i64 c.epoch (1:Int) (c.epoch+(1:Int)) rfl rfl (GG oM oM) (AA (AP 0 IS rfl (BZ (CG (vI (c.epoch+(1:Int))) rfl rfl rfl ML (by repeat (constructor)) a3 oT c2 fun h0 e8 b8 e9 d0=>(?_))))))))))))))
 have a0:=a0.mv b8
 have a1:=a1.mv b8
 have a7:=a7.mv b8
 have a4:=a4.keep e9 (BD (Ne.symm c6))
 refine AF (AB (AG (AC kR (AA (BQ (vs:=[vI (c.epoch+(1:Int)),vI c.threshold,vI c.wait,a5,a6]) U25_ rfl BM rfl d0 rfl (AA (AE (b1) rfl (BZ (BE (vs:=[vI (c.epoch+(1:Int)),vI c.threshold,vI c.wait,a5,a6]) (.agg #[vI (c.epoch+(1:Int)),vI c.threshold,vI c.wait,a5,a6]) rfl rfl rfl BM (fun u hu=>by simp only [List.mem_cons,List.not_mem_nil,or_false] at hu;rcases hu with rfl|rfl|rfl|rfl|rfl <;> first|rfl|exact a0.oneCell|exact a1.oneCell) (by repeat (constructor)) a4 oT e8 fun h1 f0 b9 h2 d1=>(?_))))))))))
 have a0:=a0.mv b9
 have a1:=a1.mv b9
 have a7:=a7.mv b9
 refine AA (AD (b1) rfl (AA (AD (vI 0) rfl (AF (AB (AM (AT rfl (II rfl (EW (vs:=[vI (c.epoch+(1:Int)),vI c.threshold,vI c.wait,a5,a6]) rfl U25_ rfl BM rfl d1 rfl) (EI rfl rfl) (EI rfl rfl)) (?_))))))))
 have f1:((AS c l coins).1)=(⟨c.epoch+(1:Int),c.threshold,c.wait,c.guardians,c.recs⟩:Circle):=by exact congrArg (fun p=>p.1) (show AS c l coins=_ from rn_3 aS aS)
 have f2:((AS c l coins).2.1)=((CR l coins).1):=by exact congrArg (fun p=>p.2.1) (show AS c l coins=_ from rn_3 aS aS)
 have f3:((AS c l coins).2.2)=(0:Int):=by exact congrArg (fun p=>p.2.2) (show AS c l coins=_ from rn_3 aS aS)
 exact ⟨_,rfl,f0.keep,by rw [f1,f2,f3];exact ⟨[vI (c.epoch+(1:Int)),vI c.threshold,vI c.wait,a5,a6],b1,rfl,Enc.out (B:=(a9 :: (a8 :: []))) ⟨_,_,rfl,a0,a1⟩,a7.out⟩⟩
open Go.Fw Go.RowKit
set_option maxHeartbeats 4000000 in
set_option maxRecDepth 100000 in
theorem WQ {O:List Nat} (c_cs:List Value) (c:Circle) (secret_v:Value) (secret:List UInt8) (coins_v:Value) (coins:List UInt8) (l_v:Value) (l:List Share) (w:World) (f9:Enc.circle.rd w O c_cs c) (a1:BC Enc.u8 w O secret_v secret) (a0:BC Enc.u8 w O coins_v coins) (a8:BC Enc.share w O l_v l) (hO:∀ b∈O,b<w.heap.size):CA Tryz.prog 3 [.agg c_cs.toArray,secret_v,coins_v,l_v] w (fun v _=>v = .bool (true)):= by
 have f9:Enc.circle.rd w ([]++O) c_cs c:=f9
 have h2:=a1.len_le
 have a1:BC Enc.u8 w ([]++O) secret_v secret:=a1
 have k3:=a0.len_le
 have a0:BC Enc.u8 w ([]++O) coins_v coins:=a0
 have l0:=a8.len_le
 have a8:BC Enc.share w ([]++O) l_v l:=a8
 have s0:St w O w []:=St.start hO
 refine BI 88 Tryz.func3 rfl rfl oT (fun F0=>AG (AC kR (AA (DU (E:=Enc.circle) (vA c_cs.toArray) (c_cs) c rfl rfl f9 s0 fun l1 h3 e9 e1 l2 a2=>(?_)))))
 have a1:=a1.mv e1
 have a0:=a0.mv e1
 have a8:=a8.mv e1
 refine AA (AD (vO false) rfl (AF (AB (AG (AG (AC kR (AA (AY (vs:=[]) enter_5 (c_sane46 (O:=[]++O) h3 e9.lt) rfl e9 fun l3 h4 f0 d1 l4 h5=>(?_)))))))))
 obtain rfl:=h5
 have a1:=a1.mv d1
 have a0:=a0.mv d1
 have a8:=a8.mv d1
 have a2:=a2.mv d1
 refine AA (ER true rfl (AF (AB (AL false rfl rfl (fun h=>by cases h) (fun _=>AU (AB (AG (AG (AC kR (AA (CL U25_ rfl BM rfl a2 fun e2 g0=>(AA (AE (l_v) rfl (AA (AY (vs:=[vA e2.toArray,l_v]) enter_6 (c_few46 (O:=[]++O) e2 c l_v l h4 g0 a8 f0.lt) rfl f0 fun l5 h6 c4 d2 l6 h7=>(?_))))))))))))))))
 obtain rfl:=h7
 have a1:=a1.mv d2
 have a0:=a0.mv d2
 have a8:=a8.mv d2
 have a2:=a2.mv d2
 refine AA (ER (ON c && QU l) rfl (AA (AE (vO (!(ON c && QU l))) rfl (?_))))
 cases e3:(!(ON c && QU l))
 ·have k4:(ON c && QU l)=true:=by simpa using e3
  refine AV rfl (AE (secret_v) rfl (AV rfl (BR U26_ rfl a1 (AV rfl (FP .i64 (secret.length:Int) (100:Int) rfl rfl (AA (BB (vO (decide ((100:Int)<(secret.length:Int)))) rfl rfl (AA (AE (vO (decide ((100:Int)<(secret.length:Int)))) rfl (?_))))))))))
  cases e4:(decide ((100:Int)<(secret.length:Int)))
  ·have k5:(secret.length:Int)≤(100:Int):=by simpa using e4
   refine AV rfl (AE (coins_v) rfl (AV rfl (BR U26_ rfl a0 (AV rfl (FP .i64 (coins.length:Int) (1000:Int) rfl rfl (AA (BB (vO (decide ((1000:Int)<(coins.length:Int)))) rfl rfl (AF (AB (AL (decide ((1000:Int)<(coins.length:Int))) rfl rfl (fun d5=>?_) (fun d5=>?_)))))))))))
   ·have k6:(1000:Int)<(coins.length:Int):=by simpa using d5
    refine AG (AC kR (AA (AD (vO true) rfl (AF (AB (AM (AK (AT rfl (BY rfl rfl rfl) (?_)))))))))
    exact ⟨_,rfl,c4.keep,rfl⟩
   have k7:(coins.length:Int)≤(1000:Int):=by simpa using d5
   refine AU (AB (AG (AC kR (AA (CL U25_ rfl BM rfl a2 fun e5 g1=>(AA (AE (secret_v) rfl (AA (AE (coins_v) rfl (AA (AY (vs:=[vA e5.toArray,secret_v,coins_v]) QZ (UR (O:=[]++O) e5 c secret_v secret coins_v coins h6 g1 a1 a0 c4.lt) rfl c4 fun l7 h8 f1 d3 l8 h9=>(?_))))))))))))
   obtain ⟨b8,rfl,a3⟩:=h9
   have:=a3.len_le
   have a1:=a1.mv d3
   have a0:=a0.mv d3
   have a8:=a8.mv d3
   have a2:=a2.mv d3
   refine AA (AE (vT #[b8,vI ((CN c secret coins).2)]) rfl (AA (AQ (b8) rfl rfl (AA (AQ (vI ((CN c secret coins).2)) rfl rfl (AA (AD (b8) rfl (AA (AD (vI ((CN c secret coins).2)) rfl (AF (AB (AG (AC kR (AA (CL U25_ rfl BM rfl a2 fun e6 g2=>(AA (AE (secret_v) rfl (AA (AE (coins_v) rfl (AA (AY (vs:=[vA e6.toArray,secret_v,coins_v]) enter_8 (c_refDeal46 (O:=[]++O) e6 c secret_v secret coins_v coins h8 g2 a1 a0 f1.lt) rfl f1 fun l9 i0 f2 d4 m0 i1=>(?_))))))))))))))))))))))
   obtain ⟨b9,rfl,a5⟩:=i1
   have:=a5.len_le
   have a0:=a0.mv d4
   have a8:=a8.mv d4
   have a2:=a2.mv d4
   have a3:=a3.mv d4
   refine AA (AE (vT #[b9,vI ((CN c secret coins).2)]) rfl (AA (AQ (b9) rfl rfl (AA (AQ (vI ((CN c secret coins).2)) rfl rfl (AA (AD (b9) rfl (AA (AD (vI ((CN c secret coins).2)) rfl (AF (AB (AG (AC kR (AA (CL U25_ rfl BM rfl a2 fun e7 g3=>(AA (AE (l_v) rfl (AA (AE (coins_v) rfl (AA (AY (vs:=[vA e7.toArray,l_v,coins_v]) enter_9 (c_renew (O:=[]++O) e7 c l_v l coins_v coins i0 g3 a8 a0 f2.lt) rfl f2 fun m1 m2 i2 c5 m3 i3=>(?_))))))))))))))))))))))
   obtain ⟨d6,c0,rfl,d7,a4⟩:=i3
   have:=a4.len_le
   have a0:=a0.mv c5
   have a8:=a8.mv c5
   have a2:=a2.mv c5
   have a3:=a3.mv c5
   have a5:=a5.mv c5
   refine AA (AE (vT #[vA d6.toArray,c0,vI ((AS c l coins).2.2)]) rfl (AA (AQ (vA d6.toArray) rfl rfl (AA (AQ (c0) rfl rfl (AA (AQ (vI ((AS c l coins).2.2)) rfl rfl (AA (DB [vI 0,vI 0,vI 0,nS,nS] LD rfl i2 fun b3 i4 i5 i6 b6 m4 g4=>(?_))))))))))
   clear i5
   have a0:=a0.mv b6
   have a8:=a8.mv b6
   have a2:=a2.mv b6
   have a3:=a3.mv b6
   have a5:=a5.mv b6
   have d7:Enc.circle.rd i4 ((b3 :: [])++O) d6 ((AS c l coins).1):=Enc.mv Enc.circle (x:=(AS c l coins).1) d7 b6
   have a4:=a4.mv b6
   obtain ⟨c6,c7,rfl,a6,a7⟩:=d7
   have:=a6.len_le
   have:=a7.len_le
   refine BZ (BE (vs:=[vI (((AS c l coins).1).epoch),vI (((AS c l coins).1).threshold),vI (((AS c l coins).1).wait),c6,c7]) (.agg #[vI (((AS c l coins).1).epoch),vI (((AS c l coins).1).threshold),vI (((AS c l coins).1).wait),c6,c7]) rfl rfl rfl BM (fun u hu=>by simp only [List.mem_cons,List.not_mem_nil,or_false] at hu;rcases hu with rfl|rfl|rfl|rfl|rfl <;> first|rfl|exact a6.oneCell|exact a7.oneCell) (by repeat (constructor)) g4 oT i6 fun i7 f3 b4 m5 a9=>(?_))
   have a0:=a0.mv b4
   have a8:=a8.mv b4
   have a2:=a2.mv b4
   have a3:=a3.mv b4
   have a5:=a5.mv b4
   have a4:=a4.mv b4
   have a6:=a6.mv b4
   have a7:=a7.mv b4
   refine AA (AD (c0) rfl (AA (AD (vI ((AS c l coins).2.2)) rfl (AF (AB (AG (AC kR (AA (CL U25_ rfl BM rfl a2 fun e8 g5=>(AA (AE (l_v) rfl (AA (AE (coins_v) rfl (AA (AY (vs:=[vA e8.toArray,l_v,coins_v]) enter_10 (c_refRenew46 (O:=(b3 :: [])++O) e8 c l_v l coins_v coins i7 g5 a8 a0 f3.lt) rfl f3 fun m6 m7 i8 c8 i9 j0=>(?_))))))))))))))))
   obtain ⟨d8,c1,rfl,d9,b0⟩:=j0
   have:=b0.len_le
   have a3:=a3.mv c8
   have a5:=a5.mv c8
   have a4:=a4.mv c8
   have a6:=a6.mv c8
   have a7:=a7.mv c8
   have a9:=a9.keep i9 (by simp)
   refine AA (AE (vT #[vA d8.toArray,c1,vI ((AS c l coins).2.2)]) rfl (AA (AQ (vA d8.toArray) rfl rfl (AA (AQ (c1) rfl rfl (AA (AQ (vI ((AS c l coins).2.2)) rfl rfl (AA (DB [vI 0,vI 0,vI 0,nS,nS] LD rfl i8 fun c2 j1 j2 j3 b7 j4 g6=>(?_))))))))))
   have g7:GX b3 c2:=by show b3≠c2;have:=a9.lt;omega
   clear j2
   have a3:=a3.mv b7
   have a5:=a5.mv b7
   have a4:=a4.mv b7
   have a6:=a6.mv b7
   have a7:=a7.mv b7
   have d9:Enc.circle.rd j1 ((c2 :: (b3 :: []))++O) d8 ((AS c l coins).1):=Enc.mv Enc.circle (x:=(AS c l coins).1) d9 b7
   have b0:=b0.mv b7
   have a9:=a9.keep j4 (by simp)
   obtain ⟨c9,d0,rfl,b1,b2⟩:=d9
   have:=b1.len_le
   have:=b2.len_le
   refine BZ (BE (vs:=[vI (((AS c l coins).1).epoch),vI (((AS c l coins).1).threshold),vI (((AS c l coins).1).wait),c9,d0]) (.agg #[vI (((AS c l coins).1).epoch),vI (((AS c l coins).1).threshold),vI (((AS c l coins).1).wait),c9,d0]) rfl rfl rfl BM (fun u hu=>by simp only [List.mem_cons,List.not_mem_nil,or_false] at hu;rcases hu with rfl|rfl|rfl|rfl|rfl <;> first|rfl|exact b1.oneCell|exact b2.oneCell) (by repeat (constructor)) g6 oT j3 fun j5 f4 b5 j6 e0=>(?_))
   have a3:=a3.mv b5
   have a5:=a5.mv b5
   have a4:=a4.mv b5
   have a6:=a6.mv b5
   have a7:=a7.mv b5
   have b0:=b0.mv b5
   have b1:=b1.mv b5
   have b2:=b2.mv b5
   have a9:=a9.keep j6 (BD g7)
   refine AA (AD (c1) rfl (AA (AD (vI ((AS c l coins).2.2)) rfl (AF (AB (AG (AC kR (AA (AE (b8) rfl (AA (AE (b9) rfl (AA (AY (vs:=[b8,b9]) enter_11 (c_same8 (O:=(c2 :: (b3 :: []))++O) b8 ((CN c secret coins).1) b9 ((CN c secret coins).1) j5 a3 a5 f4.lt) rfl f4 fun m9 j7 f5 c3 f6 j8=>(?_))))))))))))))
   obtain rfl:=j8
   have a4:=a4.mv c3
   have b0:=b0.mv c3
   have a6:=a6.mv c3
   have a7:=a7.mv c3
   have b1:=b1.mv c3
   have b2:=b2.mv c3
   have a9:=a9.keep f6 (by simp)
   have e0:=e0.keep f6 (by simp)
   refine AA (AE (vO (MY ((CN c secret coins).1) ((CN c secret coins).1))) rfl (?_))
   have g8:(MY ((CN c secret coins).1) ((CN c secret coins).1))=true:=(by exact (same_iff _ _).2 rfl)
   rw [g8]
   refine AV rfl (AE (vI ((CN c secret coins).2)) rfl (AV rfl (AE (vI ((CN c secret coins).2)) rfl (AV rfl (EH .i64 ((CN c secret coins).2) ((CN c secret coins).2) rfl rfl (AA (AO (vO (((CN c secret coins).2) == ((CN c secret coins).2))) rfl rfl (AA (AE (vO (((CN c secret coins).2) == ((CN c secret coins).2))) rfl (?_))))))))))
   have g9:(((CN c secret coins).2) == ((CN c secret coins).2))=true:=(beq_self_eq_true _)
   rw [g9]
   refine AV rfl (BQ (vs:=[vI (((AS c l coins).1).epoch),vI (((AS c l coins).1).threshold),vI (((AS c l coins).1).wait),c6,c7]) U25_ rfl BM rfl a9 rfl (AV rfl (BQ (vs:=[vI (((AS c l coins).1).epoch),vI (((AS c l coins).1).threshold),vI (((AS c l coins).1).wait),c9,d0]) U25_ rfl BM rfl e0 rfl (AV rfl (AY (vs:=[vA #[vI (((AS c l coins).1).epoch),vI (((AS c l coins).1).threshold),vI (((AS c l coins).1).wait),c6,c7],vA #[vI (((AS c l coins).1).epoch),vI (((AS c l coins).1).threshold),vI (((AS c l coins).1).wait),c9,d0]]) enter_12 (c_sameC (O:=(c2 :: (b3 :: []))++O) [vI (((AS c l coins).1).epoch),vI (((AS c l coins).1).threshold),vI (((AS c l coins).1).wait),c6,c7] ((AS c l coins).1) [vI (((AS c l coins).1).epoch),vI (((AS c l coins).1).threshold),vI (((AS c l coins).1).wait),c9,d0] ((AS c l coins).1) j7 ⟨_,_,rfl,a6,a7⟩ ⟨_,_,rfl,b1,b2⟩ f5.lt) rfl f5 fun n2 j9 f7 f8 n3 k0=>(?_))))))
   obtain rfl:=k0
   have a4:=a4.mv f8
   have b0:=b0.mv f8
   refine AA (AO (vO (IM ((AS c l coins).1) ((AS c l coins).1))) rfl rfl (AA (AE (vO (IM ((AS c l coins).1) ((AS c l coins).1))) rfl (?_))))
   have h0:(IM ((AS c l coins).1) ((AS c l coins).1))=true:=(by exact sameC_refl _)
   rw [h0]
   refine AV rfl (AE (c0) rfl (AV rfl (AE (c1) rfl (AV rfl (AY (vs:=[c0,c1]) enter_11 (c_same8 (O:=(c2 :: (b3 :: []))++O) c0 ((AS c l coins).2.1) c1 ((AS c l coins).2.1) j9 a4 b0 f7.lt) rfl f7 fun n4 n5 k1 n6 n7 k2=>(?_))))))
   obtain rfl:=k2
   refine AA (AO (vO (MY ((AS c l coins).2.1) ((AS c l coins).2.1))) rfl rfl (AA (AE (vO (MY ((AS c l coins).2.1) ((AS c l coins).2.1))) rfl (?_))))
   have h1:(MY ((AS c l coins).2.1) ((AS c l coins).2.1))=true:=(by exact (same_iff _ _).2 rfl)
   rw [h1]
   refine AV rfl (AE (vI ((AS c l coins).2.2)) rfl (AV rfl (AE (vI ((AS c l coins).2.2)) rfl (AV rfl (EH .i64 ((AS c l coins).2.2) ((AS c l coins).2.2) rfl rfl (AA (AO (vO (((AS c l coins).2.2) == ((AS c l coins).2.2))) rfl rfl (AA (AD (vO (((AS c l coins).2.2) == ((AS c l coins).2.2))) rfl (AF (AB (AM (AT rfl (BY rfl rfl rfl) (?_))))))))))))))
   have e:true=(((AS c l coins).2.2) == ((AS c l coins).2.2)):=by exact (beq_self_eq_true _).symm
   exact ⟨_,rfl,k1.keep,(by exact congrArg vO e.symm)⟩
  have k8:(100:Int)<(secret.length:Int):=by simpa using e4
  refine AJ rfl (AJ rfl (AJ rfl (AA (AO (vO true) rfl rfl (AF (AB (AL true rfl rfl (fun _=>AG (AC kR (AA (AD (vO true) rfl (AF (AB (AM (AK (AT rfl (BY rfl rfl rfl) (?_)))))))))) (fun h=>by cases h))))))))
  exact ⟨_,rfl,c4.keep,rfl⟩
 have k9:(ON c && QU l)=false:=by (have e:=e3;rw [Bool.not_eq_true'] at e;exact e)
 refine AJ rfl (AJ rfl (AJ rfl (AA (AO (vO true) rfl rfl (AA (AE (vO true) rfl (AJ rfl (AJ rfl (AJ rfl (AA (AO (vO true) rfl rfl (AF (AB (AL true rfl rfl (fun _=>AG (AC kR (AA (AD (vO true) rfl (AF (AB (AM (AK (AT rfl (BY rfl rfl rfl) (?_)))))))))) (fun h=>by cases h)))))))))))))))
 exact ⟨_,rfl,c4.keep,rfl⟩
end Go.Proofs.YtjgfokolnkhafaaGreat
