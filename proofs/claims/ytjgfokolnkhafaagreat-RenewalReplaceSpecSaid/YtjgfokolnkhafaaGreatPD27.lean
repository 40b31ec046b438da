/- What the laws of this part rest on: lemmas, and the walks of the functions. No conditions. -/
import Derived.WalkKit
import Derived.WalkSpells
import Derived.WalkLawsBesides
import Derived.RangeFuncLeaves
import Derived.Maps.AppendAt
import Derived.Deep.AppendLies
import Derived.Deep.Slices
import Derived.OpenShut
import Derived.ProofKit
import Derived.Below
import Derived.ChangeSame
import Derived.Carry
import Derived.RangeFuncRecord
import Derived.Laws.Tables
import Derived.Recover
import Derived.DefersIn
import Derived.Lib.AppendZerosOnto
import Derived.Lib.Overlaps
import Derived.Laws.CopyRow
import Derived.Laws.StructEq
import Derived.ChangeKeysEq
import Derived.OrdersIn
import Derived.Test.YtjgfokolnkhafaaGreatRows
import Derived.Test.YtjgfokolnkhafaaGreatPD26
set_option linter.unusedSimpArgs false
set_option linter.unusedVariables false
namespace Go.Proofs.YtjgfokolnkhafaaGreat
open Go.Fw Go.RowKit
set_option maxHeartbeats 4000000 in
set_option maxRecDepth 100000 in
theorem c_refDeal46 {O:List Nat} (c_cs:List Value) (c:Circle) (secret_v:Value) (secret:List UInt8) (coins_v:Value) (coins:List UInt8) (w:World) (b2:Enc.circle.rd w O c_cs c) (a0:BB Enc.u8 w O secret_v secret) (a1:BB Enc.u8 w O coins_v coins) (hO:∀ b∈O,b<w.heap.size):CA Tryz.prog 8 [.agg c_cs.toArray,secret_v,coins_v] w (fun v w'=>∃ (x0:Value),v = .tuple #[x0,vI ((CS c secret coins).2)]∧BB Enc.share w' (O) x0 ((CS c secret coins).1)):= by
 have b2:Enc.circle.rd w ([]++O) c_cs c:=b2
 have b7:=a0.len_le
 have a0:BB Enc.u8 w ([]++O) secret_v secret:=a0
 have c7:=a1.len_le
 have a1:BB Enc.u8 w ([]++O) coins_v coins:=a1
 have s0:St w O w []:=St.start hO
 refine BE 26 Tryz.func8 rfl rfl oT (fun F0=>AF (AC kR (AA (DR (E:=Enc.circle) (vA c_cs.toArray) (c_cs) c rfl rfl b2 s0 fun d0 b8 b0 b1 d1 a2=>(?_)))))
 have a0:=a0.mv b1
 have a1:=a1.mv b1
 refine AA (AD (nS) rfl (AA (AD (vI 0) rfl (AG (AB (AF (AC kR (AA (CJ U25_ rfl BM rfl a2 fun a7 b3=>(AA (AZ (vs:=[vA a7.toArray]) UV (RE (O:=[]++O) a7 c b8 b3 b0.lt) rfl b0 fun d2 b9 a4 a5 d3 c0=>(?_))))))))))))
 obtain rfl:=c0
 have a0:=a0.mv a5
 have a1:=a1.mv a5
 have a2:=a2.mv a5
 refine AA (AD (vI (AP c)) rfl (AG (AB (AF (AF (AC kR (AA (AE (vI (AP c)) rfl (AA (CM .i64 (AP c) (0:Int) rfl rfl (AG (AB (AJ ((AP c) != (0:Int)) rfl rfl (fun a3=>?_) (fun a3=>?_))))))))))))))
 ·have c8:AP c≠(0:Int):=by simpa using a3
  refine AF (AC kR (AA (AE (vI (AP c)) rfl (AA (AD (nS) rfl (AA (AD (vI (AP c)) rfl (AG (AB (AM (AI (AS rfl (EJ rfl rfl rfl rfl) (?_)))))))))))))
  have c1:((CS c secret coins).1)=([]):=by exact congrArg (fun p=>p.1) (show CS c secret coins=_ from deal_1 aS)
  have c2:((CS c secret coins).2)=(AP c):=by exact congrArg (fun p=>p.2) (show CS c secret coins=_ from deal_1 aS)
  exact ⟨_,rfl,a4.keep,by rw [c1,c2];exact ⟨.slice none 0 0,rfl,BB.nil _ _ _⟩⟩
 have c9:AP c=(0:Int):=by simpa using a3
 refine AR (AB (AF (AC kR (AA (AE (secret_v) rfl (AA (AY 0 JF (c.epoch) rfl a2 (fun _ _ _ h=>FG h) fun d4 b4=>(AA (BK U3_ rfl rfl b4 (AA (AY 1 KP (c.threshold) rfl a2 (fun _ _ _ h=>FF h) fun d5 b5=>(AA (BK U3_ rfl rfl b5 (AA (AY 3 JE (c.guardians) rfl a2 (fun _ _ _ h=>EA h) fun d6 b6=>(AA (BL U22_ rfl rfl b6 fun d7 a8=>(?_))))))))))))))))))
 have:=a8.len_le
 refine AA (BP U22_ rfl a8 (AA (AE (coins_v) rfl (AA (AZ (vs:=[secret_v,vI c.epoch,vI c.threshold,vI (c.guardians.length:Int),coins_v]) enter_27 (c_refSplit (O:=[]++O) secret_v secret c.epoch c.threshold (c.guardians.length:Int) coins_v coins b9 a0 a1 a4.lt) rfl a4 fun d8 d9 c3 e0 e1 c4=>(?_))))))
 obtain ⟨a6,rfl,a9⟩:=c4
 have:=a9.len_le
 refine AA (AO (a6) rfl rfl (AA (AO (vI ((EF secret c.epoch c.threshold (c.guardians.length:Int) coins).2)) rfl rfl (AA (AD (a6) rfl (AA (AD (vI ((EF secret c.epoch c.threshold (c.guardians.length:Int) coins).2)) rfl (AG (AB (AM (AS rfl (EJ rfl rfl rfl rfl) (?_))))))))))))
 have c5:((CS c secret coins).1)=((EF secret c.epoch c.threshold (c.guardians.length:Int) coins).1):=by exact congrArg (fun p=>p.1) (show CS c secret coins=_ from rdeal_2 aS)
 have c6:((CS c secret coins).2)=((EF secret c.epoch c.threshold (c.guardians.length:Int) coins).2):=by exact congrArg (fun p=>p.2) (show CS c secret coins=_ from rdeal_2 aS)
 exact ⟨_,rfl,c3.keep,by rw [c5,c6];exact ⟨a6,rfl,a9.out⟩⟩
set_option maxHeartbeats 4000000 in
set_option maxRecDepth 100000 in
theorem c_refBelong {O:List Nat} (c_cs:List Value) (c:Circle) (l_v:Value) (l:List Share) (w:World) (a8:Enc.circle.rd w O c_cs c) (a1:BB Enc.share w O l_v l) (hpre0:0<l.length) (hO:∀ b∈O,b<w.heap.size):CA Tryz.prog 75 [.agg c_cs.toArray,l_v] w (fun v _=>v = .bool (JM c l)):= by
 have a8:Enc.circle.rd w ([]++O) c_cs c:=a8
 have c6:=a1.len_le
 have a1:BB Enc.share w ([]++O) l_v l:=a1
 have s0:St w O w []:=St.start hO
 refine BE 31 Tryz.func75 rfl rfl oT (fun F0=>AF (AC kR (AA (DR (E:=Enc.circle) (vA c_cs.toArray) (c_cs) c rfl rfl a8 s0 fun c7 b8 b9 c0 c8 a0=>(?_)))))
 have a1:=a1.mv c0
 refine AA (AD (vO false) rfl (AG (AB (AF (FK 27 _ _ kR kR kR kR kR rfl rfl fun c1 a6=>?_)))))
 have a2:=b9.call a6
 have a7:Mv ([]) b8 ([]) c1:=Mv.of_keep a6
 have a1:=a1.mv a7
 have a0:=a0.mv a7
 refine BU (AE (l_v) rfl (BU (CR U27_ DO .i64 (0:Int) 0 rfl rfl rfl a1 oM fun c9 a9=>(BU (AY 0 HO ((l[0]!).epoch) rfl a9 (fun _ _ _ h=>FZ h) fun d0 b0=>(BU (BK U3_ rfl rfl b0 (BU (AY 0 JF (c.epoch) rfl a0 (fun _ _ _ h=>FG h) fun d1 b1=>(BU (BK U3_ rfl rfl b1 (BU (EK .i64 ((l[0]!).epoch) c.epoch rfl rfl (BU (AE (vO (((l[0]!).epoch) == c.epoch)) rfl (?_))))))))))))))))
 cases a3:(((l[0]!).epoch) == c.epoch)
 ·have c2:(l[0]!).epoch≠c.epoch:=by simpa using a3
  refine CK rfl (CK rfl (CK rfl (CK rfl (CK rfl (CK rfl (CK rfl (BU (BA (vO false) rfl rfl (BU (AE (vO false) rfl (CK rfl (CK rfl (CK rfl (CK rfl (CK rfl (CK rfl (CK rfl (CK rfl (BU (BA (vO false) rfl rfl (BU (AD (vO false) rfl (EO (AG (AB (AM (AS rfl (BZ rfl rfl rfl) (?_))))))))))))))))))))))))))))
  have e:(JM c l)=false:=by (unfold JM;rw [show (l[0]!.epoch == c.epoch)=false from by assumption];rfl)
  exact ⟨_,rfl,a2.keep,(by exact congrArg vO e.symm)⟩
 have c3:(l[0]!).epoch=c.epoch:=by simpa using a3
 refine DW rfl (AE (l_v) rfl (DW rfl (CR U27_ DO .i64 (0:Int) 0 rfl rfl rfl a1 oM fun d2 b2=>(DW rfl (AY 2 HP ((l[0]!).threshold) rfl b2 (fun _ _ _ h=>HC h) fun d3 b3=>(DW rfl (BK U3_ rfl rfl b3 (DW rfl (AY 1 KP (c.threshold) rfl a0 (fun _ _ _ h=>FF h) fun d4 b4=>(DW rfl (BK U3_ rfl rfl b4 (DW rfl (EK .i64 ((l[0]!).threshold) c.threshold rfl rfl (BU (AQ (vO (((l[0]!).threshold) == c.threshold)) rfl rfl (BU (AE (vO (((l[0]!).threshold) == c.threshold)) rfl (?_))))))))))))))))))
 cases a4:(((l[0]!).threshold) == c.threshold)
 ·have c4:(l[0]!).threshold≠c.threshold:=by simpa using a4
  refine CK rfl (CK rfl (CK rfl (CK rfl (CK rfl (CK rfl (CK rfl (CK rfl (BU (BA (vO false) rfl rfl (BU (AD (vO false) rfl (EO (AG (AB (AM (AS rfl (BZ rfl rfl rfl) (?_)))))))))))))))))
  have e:(JM c l)=false:=by (unfold JM;rw [show (l[0]!.epoch == c.epoch)=true from by assumption,show (l[0]!.threshold == c.threshold)=false from by assumption];rfl)
  exact ⟨_,rfl,a2.keep,(by exact congrArg vO e.symm)⟩
 have c5:(l[0]!).threshold=c.threshold:=by simpa using a4
 refine DW rfl (AE (l_v) rfl (DW rfl (CR U27_ DO .i64 (0:Int) 0 rfl rfl rfl a1 oM fun d5 b5=>(DW rfl (AY 3 HW ((l[0]!).many) rfl b5 (fun _ _ _ h=>LO h) fun d6 b6=>(DW rfl (BK U3_ rfl rfl b6 (DW rfl (AY 3 JE (c.guardians) rfl a0 (fun _ _ _ h=>EA h) fun d7 b7=>(DW rfl (BL U22_ rfl rfl b7 fun d8 a5=>(?_))))))))))))
 have:=a5.len_le
 refine DW rfl (BP U22_ rfl a5 (DW rfl (EK .i64 ((l[0]!).many) (c.guardians.length:Int) rfl rfl (BU (AQ (vO (((l[0]!).many) == (c.guardians.length:Int))) rfl rfl (BU (AD (vO (((l[0]!).many) == (c.guardians.length:Int))) rfl (EO (AG (AB (AM (AS rfl (BZ rfl rfl rfl) (?_)))))))))))))
 have e:(JM c l)=(((l[0]!).many) == (c.guardians.length:Int)):=by (unfold JM;rw [show (l[0]!.epoch == c.epoch)=true from by assumption,show (l[0]!.threshold == c.threshold)=true from by assumption];rfl)
 exact ⟨_,rfl,a2.keep,(by exact congrArg vO e.symm)⟩
set_option maxHeartbeats 4000000 in
set_option maxRecDepth 100000 in
theorem VB {O:List Nat} (c_cs:List Value) (c:Circle) (l_v:Value) (l:List Share) (w:World) (b3:Enc.circle.rd w O c_cs c) (a1:BB Enc.share w O l_v l) (hO:∀ b∈O,b<w.heap.size):CA Tryz.prog 30 [.agg c_cs.toArray,l_v] w (fun v _=>v=vI (FT c l)):= by
 have b3:Enc.circle.rd w ([]++O) c_cs c:=b3
 have c9:=a1.len_le
 have a1:BB Enc.share w ([]++O) l_v l:=a1
 have s0:St w O w []:=St.start hO
 refine BE 21 Tryz.func30 rfl rfl oT (fun F0=>AF (AC kR (AA (DR (E:=Enc.circle) (vA c_cs.toArray) (c_cs) c rfl rfl b3 s0 fun d0 b7 a9 b8 d1 a0=>(?_)))))
 have a1:=a1.mv b8
 refine AA (AD (vI 0) rfl (AG (AB (AF (AC kR (AA (CJ U25_ rfl BM rfl a0 fun a7 b4=>(AA (AZ (vs:=[vA a7.toArray]) UV (RE (O:=[]++O) a7 c b7 b4 a9.lt) rfl a9 fun d2 b9 a5 b0 d3 c0=>(?_))))))))))
 obtain rfl:=c0
 have a1:=a1.mv b0
 have a0:=a0.mv b0
 refine AA (AD (vI (AP c)) rfl (AG (AB (AF (AF (AC kR (AA (AE (vI (AP c)) rfl (AA (CM .i64 (AP c) (0:Int) rfl rfl (AG (AB (AJ ((AP c) != (0:Int)) rfl rfl (fun a2=>?_) (fun a2=>?_))))))))))))))
 ·have c4:AP c≠(0:Int):=by simpa using a2
  refine AF (AC kR (AA (AE (vI (AP c)) rfl (AA (AD (vI (AP c)) rfl (AG (AB (AM (AI (AS rfl (BZ rfl rfl rfl) (?_)))))))))))
  have e:(FT c l)=(AP c):=by exact chk_1 aS
  exact ⟨_,rfl,a5.keep,by rw [e];exact rfl⟩
 have c5:AP c=(0:Int):=by simpa using a2
 refine AR (AB (AF (AC kR (AA (AE (l_v) rfl (AA (AZ (vs:=[l_v]) enter_74 (TX (O:=[]++O) l_v l b9 a1 a5.lt) rfl a5 fun d4 c1 a6 b1 d5 c2=>(?_))))))))
 obtain rfl:=c2
 have a1:=a1.mv b1
 have a0:=a0.mv b1
 refine AA (AD (vI (CI l)) rfl (AG (AB (AF (AF (AC kR (AA (AE (vI (CI l)) rfl (AA (CM .i64 (CI l) (0:Int) rfl rfl (AG (AB (AJ ((CI l) != (0:Int)) rfl rfl (fun a3=>?_) (fun a3=>?_))))))))))))))
 ·have c6:CI l≠(0:Int):=by simpa using a3
  refine AF (AC kR (AA (AE (vI (CI l)) rfl (AA (AD (vI (CI l)) rfl (AG (AB (AM (AI (AS rfl (BZ rfl rfl rfl) (?_)))))))))))
  have e:(FT c l)=(CI l):=by exact chk_2 aS aS
  exact ⟨_,rfl,a6.keep,by rw [e];exact rfl⟩
 have b5:CI l=(0:Int):=by simpa using a3
 have hcl:CI l=0:=b5
 have hpl:=((FW l).1 (by rw [← JQ];exact hcl)).pos
 refine AR (AB (AF (AF (AC kR (AA (CJ U25_ rfl BM rfl a0 fun a8 b6=>(AA (AE (l_v) rfl (AA (AZ (vs:=[vA a8.toArray,l_v]) enter_75 (c_refBelong (O:=[]++O) a8 c l_v l c1 b6 a1 oM a6.lt) rfl a6 fun d6 d7 b2 d8 d9 c3=>(?_)))))))))))
 obtain rfl:=c3
 refine AA (EU (JM c l) rfl (AG (AB (AJ (!(JM c l)) rfl rfl (fun a4=>?_) (fun a4=>?_)))))
 ·have c7:(JM c l)=false:=by simpa using a4
  refine AF (AC kR (AA (AD (vI 460) rfl (AG (AB (AM (AI (AS rfl (BZ rfl rfl rfl) (?_)))))))))
  have e:(FT c l)=(460:Int):=by exact chk_3 aS aS aS
  exact ⟨_,rfl,b2.keep,by rw [e];exact rfl⟩
 have c8:(JM c l)=true:=by simpa using a4
 refine AR (AB (AF (AC kR (AA (AD (vI 0) rfl (AG (AB (AM (AS rfl (BZ rfl rfl rfl) (?_))))))))))
 have e:(FT c l)=(0:Int):=by exact chk_4 aS aS aS
 exact ⟨_,rfl,b2.keep,by rw [e];exact rfl⟩
set_option maxHeartbeats 4000000 in
set_option maxRecDepth 100000 in
theorem VS {O:List Nat} (c_cs:List Value) (c:Circle) (l_v:Value) (l:List Share) (others_v:Value) (others:List Int) (t:Int) (coins_v:Value) (coins:List UInt8) (w:World) (d2:Enc.circle.rd w O c_cs c) (a8:BB Enc.share w O l_v l) (a0:BB Enc.int w O others_v others) (a1:BB Enc.u8 w O coins_v coins) (hO:∀ b∈O,b<w.heap.size):CA Tryz.prog 14 [.agg c_cs.toArray,l_v,others_v,vI t,coins_v] w (fun v w'=>∃ (x0:List Value) (x1:Value),v = .tuple #[.agg x0.toArray,x1,vI ((AN c l others t coins).2.2)]∧Enc.circle.rd w' (O) x0 ((AN c l others t coins).1)∧BB Enc.share w' (O) x1 ((AN c l others t coins).2.1)):= by
 have d2:Enc.circle.rd w ([]++O) c_cs c:=d2
 have i1:=a8.len_le
 have a8:BB Enc.share w ([]++O) l_v l:=a8
 have e4:=a0.len_le
 have a0:BB Enc.int w ([]++O) others_v others:=a0
 have h5:=a1.len_le
 have a1:BB Enc.u8 w ([]++O) coins_v coins:=a1
 have s0:St w O w []:=St.start hO
 refine BE 58 Tryz.func14 rfl rfl oT (fun F0=>AF (AC kR (AA (DR (E:=Enc.circle) (vA c_cs.toArray) (c_cs) c rfl rfl d2 s0 fun i2 i3 e5 c1 i4 a5=>(?_)))))
 have a8:=a8.mv c1
 have a0:=a0.mv c1
 have a1:=a1.mv c1
 refine AA (CZ [vI 0,vI 0,vI 0,nS,nS] KM rfl e5 fun a6 e6 e7 c6 b4 i5 a2=>(?_))
 clear e7
 have a8:=a8.mv b4
 have a0:=a0.mv b4
 have a1:=a1.mv b4
 have a5:=a5.mv b4
 refine AA (AD (nS) rfl (AA (AD (vI 0) rfl (AG (AB (AF (AC kR (AA (CJ U25_ rfl BM rfl a5 fun c5 d3=>(AA (AE (l_v) rfl (AA (AZ (vs:=[vA c5.toArray,l_v]) enter_30 (VB (O:=(a6 :: [])++O) c5 c l_v l e6 d3 a8 c6.lt) rfl c6 fun i6 e8 c2 b5 e9 f0=>(?_))))))))))))))
 obtain rfl:=f0
 have a8:=a8.mv b5
 have a0:=a0.mv b5
 have a1:=a1.mv b5
 have a5:=a5.mv b5
 have a2:=a2.keep e9 (by simp)
 refine AA (AD (vI (FT c l)) rfl (AG (AB (AF (AF (AC kR (AA (AE (vI (FT c l)) rfl (AA (CM .i64 (FT c l) (0:Int) rfl rfl (AG (AB (AJ ((FT c l) != (0:Int)) rfl rfl (fun b8=>?_) (fun b8=>?_))))))))))))))
 ·have h6:FT c l≠(0:Int):=by simpa using b8
  refine AF (AC kR (AA (EG (l:=[]) OR KM rfl [] [vI 0,vI 0,vI 0,nS,nS] rfl rfl (AA (AE (vI (FT c l)) rfl (CC (BF (vs:=[vI 0,vI 0,vI 0,nS,nS]) (.agg #[vI 0,vI 0,vI 0,nS,nS]) rfl rfl rfl BM (fun u hu=>by simp only [List.mem_cons,List.not_mem_nil,or_false] at hu;rcases hu with rfl|rfl|rfl|rfl|rfl <;> rfl) (by repeat (constructor)) a2 oT c2 fun i7 f1 i8 i9 d4=>(AA (AD (nS) rfl (AA (AD (vI (FT c l)) rfl (AG (AB (AM (AI (AS rfl (IF rfl (EZ (vs:=[vI 0,vI 0,vI 0,nS,nS]) rfl U25_ rfl BM rfl d4 rfl) (EI rfl rfl) (EI rfl rfl)) (?_)))))))))))))))))
  have f2:((AN c l others t coins).1)=(⟨(0:Int),(0:Int),(0:Int),[],[]⟩:Circle):=by exact congrArg (fun p=>p.1) (show AN c l others t coins=_ from rp_1 aS)
  have f3:((AN c l others t coins).2.1)=([]):=by exact congrArg (fun p=>p.2.1) (show AN c l others t coins=_ from rp_1 aS)
  have f4:((AN c l others t coins).2.2)=(FT c l):=by exact congrArg (fun p=>p.2.2) (show AN c l others t coins=_ from rp_1 aS)
  exact ⟨_,rfl,f1.keep,by rw [f2,f3,f4];exact ⟨[vI 0,vI 0,vI 0,nS,nS], .slice none 0 0,rfl,Enc.out (B:=(a6 :: [])) ⟨.slice none 0 0, .slice none 0 0,rfl,(BB.nil _ _ _),(BB.nil _ _ _)⟩,BB.nil _ _ _⟩⟩
 have d5:FT c l=(0:Int):=by simpa using b8
 have hck:=RL d5
 have hepb:=circ_ep hck.1
 refine AR (AB (AF (AC kR (AA (AE (l_v) rfl (AA (AZ (vs:=[l_v]) enter_36 (YR (O:=(a6 :: [])++O) l_v l e8 a8 c2.lt) rfl c2 fun j0 j1 c7 c3 f5 f6=>(?_))))))))
 obtain ⟨a9,rfl,a7⟩:=f6
 have:=a7.len_le
 have a0:=a0.mv c3
 have a1:=a1.mv c3
 have a5:=a5.mv c3
 have a2:=a2.keep f5 (by simp)
 refine AA (AE (vT #[a9,vI ((CG l).2)]) rfl (AA (AO (a9) rfl rfl (AA (AO (vI ((CG l).2)) rfl rfl (AA (AD (a9) rfl (AA (AD (vI ((CG l).2)) rfl (AG (AB (AF (AF (AC kR (AA (AE (vI ((CG l).2)) rfl (AA (CM .i64 ((CG l).2) (0:Int) rfl rfl (AG (AB (AJ (((CG l).2) != (0:Int)) rfl rfl (fun b9=>?_) (fun b9=>?_))))))))))))))))))))))
 ·have h7:(CG l).2≠(0:Int):=by simpa using b9
  refine AF (AC kR (AA (EG (l:=[]) OR KM rfl [] [vI 0,vI 0,vI 0,nS,nS] rfl rfl (AA (AE (vI ((CG l).2)) rfl (CC (BF (vs:=[vI 0,vI 0,vI 0,nS,nS]) (.agg #[vI 0,vI 0,vI 0,nS,nS]) rfl rfl rfl BM (fun u hu=>by simp only [List.mem_cons,List.not_mem_nil,or_false] at hu;rcases hu with rfl|rfl|rfl|rfl|rfl <;> rfl) (by repeat (constructor)) a2 oT c7 fun j2 f7 j3 j4 d6=>(AA (AD (nS) rfl (AA (AD (vI ((CG l).2)) rfl (AG (AB (AM (AI (AS rfl (IF rfl (EZ (vs:=[vI 0,vI 0,vI 0,nS,nS]) rfl U25_ rfl BM rfl d6 rfl) (EI rfl rfl) (EI rfl rfl)) (?_)))))))))))))))))
  have f8:((AN c l others t coins).1)=(⟨(0:Int),(0:Int),(0:Int),[],[]⟩:Circle):=by exact congrArg (fun p=>p.1) (show AN c l others t coins=_ from rp_2 aS aS)
  have f9:((AN c l others t coins).2.1)=([]):=by exact congrArg (fun p=>p.2.1) (show AN c l others t coins=_ from rp_2 aS aS)
  have g0:((AN c l others t coins).2.2)=((CG l).2):=by exact congrArg (fun p=>p.2.2) (show AN c l others t coins=_ from rp_2 aS aS)
  exact ⟨_,rfl,f7.keep,by rw [f8,f9,g0];exact ⟨[vI 0,vI 0,vI 0,nS,nS], .slice none 0 0,rfl,Enc.out (B:=(a6 :: [])) ⟨.slice none 0 0, .slice none 0 0,rfl,(BB.nil _ _ _),(BB.nil _ _ _)⟩,BB.nil _ _ _⟩⟩
 have h8:(CG l).2=(0:Int):=by simpa using b9
 refine AR (AB (AF (AC kR (AA (AY 0 JF (c.epoch) rfl a5 (fun _ _ _ h=>FG h) fun j5 d7=>(AA (BK U3_ rfl rfl d7 (AA (DF .i64 c.epoch (1:Int) (c.epoch+(1:Int)) rfl rfl (GA oM oM) (AA (AE (vI t) rfl (AA (AY 2 TA (c.wait) rfl a5 (fun _ _ _ h=>IL h) fun j6 d8=>(AA (BK U3_ rfl rfl d8 (AA (AE (others_v) rfl (AA (AY 4 DL (c.recs) rfl a5 (fun _ _ _ h=>BX h) fun j7 d9=>(AA (BL U23_ rfl rfl d9 fun a4 a3=>(?_))))))))))))))))))))))
 have:=a3.len_le
 refine AA (EG (l:=[(0, .tmp 37),(1, .tmp 38),(2, .tmp 40),(3, .tmp 41),(4, .tmp 43)]) OR KM rfl [(0,vI (c.epoch+(1:Int)),[vI (c.epoch+(1:Int))]),(1,vI t,[vI t]),(2,vI c.wait,[vI c.wait]),(3,others_v,[others_v]),(4,a4,[a4])] [vI (c.epoch+(1:Int)),vI t,vI c.wait,others_v,a4] rfl ⟨_,rfl,rfl,oT,⟨_,rfl,rfl,oT,⟨_,rfl,rfl,oT,⟨_,rfl,(FV a0.oneCell),oT,⟨_,rfl,(FV a3.oneCell),oT,rfl⟩⟩⟩⟩⟩ (AA (CZ [vI 0,vI 0,vI 0,nS,nS] KM rfl c7 fun b1 j8 g1 g2 b6 g3 e0=>(?_))))
 have e1:HD a6 b1:=by show a6≠b1;have:=a2.lt;omega
 clear g1
 have a0:=a0.mv b6
 have a1:=a1.mv b6
 have a7:=a7.mv b6
 have a3:=a3.mv b6
 have a2:=a2.keep g3 (by simp)
 refine CC (BF (vs:=[vI (c.epoch+(1:Int)),vI t,vI c.wait,others_v,a4]) (.agg #[vI (c.epoch+(1:Int)),vI t,vI c.wait,others_v,a4]) rfl rfl rfl BM (fun u hu=>by simp only [List.mem_cons,List.not_mem_nil,or_false] at hu;rcases hu with rfl|rfl|rfl|rfl|rfl <;> first|rfl|exact a0.oneCell|exact a3.oneCell) (by repeat (constructor)) e0 oT g2 fun g4 c8 b7 g5 b2=>(?_))
 have a0:=a0.mv b7
 have a1:=a1.mv b7
 have a7:=a7.mv b7
 have a3:=a3.mv b7
 have a2:=a2.keep g5 (BH e1)
 refine AG (AB (AF (AC kR (AA (BS (vs:=[vI (c.epoch+(1:Int)),vI t,vI c.wait,others_v,a4]) U25_ rfl BM rfl b2 rfl (AA (AE (a9) rfl (AA (AE (coins_v) rfl (AA (AZ (vs:=[vA #[vI (c.epoch+(1:Int)),vI t,vI c.wait,others_v,a4],a9,coins_v]) enter_8 (c_refDeal46 (O:=(b1 :: (a6 :: []))++O) [vI (c.epoch+(1:Int)),vI t,vI c.wait,others_v,a4] (⟨c.epoch+(1:Int),t,c.wait,others,c.recs⟩:Circle) a9 ((CG l).1) coins_v coins g4 ⟨_,_,rfl,a0,a3⟩ a7 a1 c8.lt) rfl c8 fun j9 k0 c9 d0 d1 g6=>(?_))))))))))))
 obtain ⟨b0,rfl,b3⟩:=g6
 have:=b3.len_le
 have a0:=a0.mv d0
 have a3:=a3.mv d0
 have a2:=a2.keep d1 (by simp)
 have b2:=b2.keep d1 (by simp)
 refine AA (AE (vT #[b0,vI ((CS (⟨c.epoch+(1:Int),t,c.wait,others,c.recs⟩:Circle) ((CG l).1) coins).2)]) rfl (AA (AO (b0) rfl rfl (AA (AO (vI ((CS (⟨c.epoch+(1:Int),t,c.wait,others,c.recs⟩:Circle) ((CG l).1) coins).2)) rfl rfl (AA (AD (b0) rfl (AA (AD (vI ((CS (⟨c.epoch+(1:Int),t,c.wait,others,c.recs⟩:Circle) ((CG l).1) coins).2)) rfl (AG (AB (AF (AF (AC kR (AA (AE (vI ((CS (⟨c.epoch+(1:Int),t,c.wait,others,c.recs⟩:Circle) ((CG l).1) coins).2)) rfl (AA (CM .i64 ((CS (⟨c.epoch+(1:Int),t,c.wait,others,c.recs⟩:Circle) ((CG l).1) coins).2) (0:Int) rfl rfl (AG (AB (AJ (((CS (⟨c.epoch+(1:Int),t,c.wait,others,c.recs⟩:Circle) ((CG l).1) coins).2) != (0:Int)) rfl rfl (fun c0=>?_) (fun c0=>?_))))))))))))))))))))))
 ·have h9:(CS (⟨c.epoch+(1:Int),t,c.wait,others,c.recs⟩:Circle) ((CG l).1) coins).2≠(0:Int):=by simpa using c0
  refine AF (AC kR (AA (EG (l:=[]) OR KM rfl [] [vI 0,vI 0,vI 0,nS,nS] rfl rfl (AA (AE (vI ((CS (⟨c.epoch+(1:Int),t,c.wait,others,c.recs⟩:Circle) ((CG l).1) coins).2)) rfl (CC (BF (vs:=[vI 0,vI 0,vI 0,nS,nS]) (.agg #[vI 0,vI 0,vI 0,nS,nS]) rfl rfl rfl BM (fun u hu=>by simp only [List.mem_cons,List.not_mem_nil,or_false] at hu;rcases hu with rfl|rfl|rfl|rfl|rfl <;> rfl) (by repeat (constructor)) a2 oT c9 fun k1 g7 k2 k3 e2=>(AA (AD (nS) rfl (AA (AD (vI ((CS (⟨c.epoch+(1:Int),t,c.wait,others,c.recs⟩:Circle) ((CG l).1) coins).2)) rfl (AG (AB (AM (AI (AS rfl (IF rfl (EZ (vs:=[vI 0,vI 0,vI 0,nS,nS]) rfl U25_ rfl BM rfl e2 rfl) (EI rfl rfl) (EI rfl rfl)) (?_)))))))))))))))))
  have g8:((AN c l others t coins).1)=(⟨(0:Int),(0:Int),(0:Int),[],[]⟩:Circle):=by exact congrArg (fun p=>p.1) (show AN c l others t coins=_ from rp_3 aS aS aS)
  have g9:((AN c l others t coins).2.1)=([]):=by exact congrArg (fun p=>p.2.1) (show AN c l others t coins=_ from rp_3 aS aS aS)
  have h0:((AN c l others t coins).2.2)=((CS (⟨c.epoch+(1:Int),t,c.wait,others,c.recs⟩:Circle) ((CG l).1) coins).2):=by exact congrArg (fun p=>p.2.2) (show AN c l others t coins=_ from rp_3 aS aS aS)
  exact ⟨_,rfl,g7.keep,by rw [g8,g9,h0];exact ⟨[vI 0,vI 0,vI 0,nS,nS], .slice none 0 0,rfl,Enc.out (B:=(b1 :: (a6 :: []))) ⟨.slice none 0 0, .slice none 0 0,rfl,(BB.nil _ _ _),(BB.nil _ _ _)⟩,BB.nil _ _ _⟩⟩
 have i0:(CS (⟨c.epoch+(1:Int),t,c.wait,others,c.recs⟩:Circle) ((CG l).1) coins).2=(0:Int):=by simpa using c0
 refine AR (AB (AF (AC kR (AA (BS (vs:=[vI (c.epoch+(1:Int)),vI t,vI c.wait,others_v,a4]) U25_ rfl BM rfl b2 rfl (AA (AE (b0) rfl (CC (BF (vs:=[vI (c.epoch+(1:Int)),vI t,vI c.wait,others_v,a4]) (.agg #[vI (c.epoch+(1:Int)),vI t,vI c.wait,others_v,a4]) rfl rfl rfl BM (fun u hu=>by simp only [List.mem_cons,List.not_mem_nil,or_false] at hu;rcases hu with rfl|rfl|rfl|rfl|rfl <;> first|rfl|exact a0.oneCell|exact a3.oneCell) (by repeat (constructor)) a2 oT c9 fun k4 h1 c4 k5 e3=>(?_))))))))))
 have a0:=a0.mv c4
 have b3:=b3.mv c4
 have a3:=a3.mv c4
 refine AA (AD (b0) rfl (AA (AD (vI 0) rfl (AG (AB (AM (AS rfl (IF rfl (EZ (vs:=[vI (c.epoch+(1:Int)),vI t,vI c.wait,others_v,a4]) rfl U25_ rfl BM rfl e3 rfl) (EI rfl rfl) (EI rfl rfl)) (?_))))))))
 have h2:((AN c l others t coins).1)=(⟨c.epoch+(1:Int),t,c.wait,others,c.recs⟩:Circle):=by exact congrArg (fun p=>p.1) (show AN c l others t coins=_ from rp_4 aS aS aS)
 have h3:((AN c l others t coins).2.1)=((CS (⟨c.epoch+(1:Int),t,c.wait,others,c.recs⟩:Circle) ((CG l).1) coins).1):=by exact congrArg (fun p=>p.2.1) (show AN c l others t coins=_ from rp_4 aS aS aS)
 have h4:((AN c l others t coins).2.2)=(0:Int):=by exact congrArg (fun p=>p.2.2) (show AN c l others t coins=_ from rp_4 aS aS aS)
 exact ⟨_,rfl,h1.keep,by rw [h2,h3,h4];exact ⟨[vI (c.epoch+(1:Int)),vI t,vI c.wait,others_v,a4],b0,rfl,Enc.out (B:=(b1 :: (a6 :: []))) ⟨_,_,rfl,a0,a3⟩,b3.out⟩⟩
set_option maxHeartbeats 4000000 in
set_option maxRecDepth 100000 in
theorem c_refRest46 {O:List Nat} (c_cs:List Value) (c:Circle) (no:Int) (l_v:Value) (l:List Share) (w:World) (b9:Enc.circle.rd w O c_cs c) (a2:BB Enc.share w O l_v l) (hO:∀ b∈O,b<w.heap.size):CA Tryz.prog 16 [.agg c_cs.toArray,vI no,l_v] w (fun v w'=>∃ (x0:Value),v = .tuple #[x0,vI ((BO c no l).2)]∧BB Enc.u8 w' (O) x0 ((BO c no l).1)):= by
 have b9:Enc.circle.rd w ([]++O) c_cs c:=b9
 have g4:=a2.len_le
 have a2:BB Enc.share w ([]++O) l_v l:=a2
 have s0:St w O w []:=St.start hO
 refine BE 48 Tryz.func16 rfl rfl oT (fun F0=>AF (AC kR (AA (DR (E:=Enc.circle) (vA c_cs.toArray) (c_cs) c rfl rfl b9 s0 fun g5 c9 b7 d0 g6 a0=>(?_)))))
 have a2:=a2.mv d0
 refine AA (AD (nS) rfl (AA (AD (vI 0) rfl (AG (AB (AF (AC kR (AA (CJ U25_ rfl BM rfl a0 fun b0 c0=>(AA (AZ (vs:=[vA b0.toArray]) UV (RE (O:=[]++O) b0 c c9 c0 b7.lt) rfl b7 fun g7 d1 a1 b8 g8 d2=>(?_))))))))))))
 obtain rfl:=d2
 have a2:=a2.mv b8
 have a0:=a0.mv b8
 refine AA (AD (vI (AP c)) rfl (AG (AB (AF (AF (AC kR (AA (AE (vI (AP c)) rfl (AA (CM .i64 (AP c) (0:Int) rfl rfl (AG (AB (AJ ((AP c) != (0:Int)) rfl rfl (fun a3=>?_) (fun a3=>?_))))))))))))))
 ·have f2:AP c≠(0:Int):=by simpa using a3
  refine AF (AC kR (AA (AE (vI (AP c)) rfl (AA (AD (nS) rfl (AA (AD (vI (AP c)) rfl (AG (AB (AM (AI (AS rfl (EJ rfl rfl rfl rfl) (?_)))))))))))))
  have d3:((BO c no l).1)=([]):=by exact congrArg (fun p=>p.1) (show BO c no l=_ from rest_1 aS)
  have d4:((BO c no l).2)=(AP c):=by exact congrArg (fun p=>p.2) (show BO c no l=_ from rest_1 aS)
  exact ⟨_,rfl,a1.keep,by rw [d3,d4];exact ⟨.slice none 0 0,rfl,BB.nil _ _ _⟩⟩
 have f3:AP c=(0:Int):=by simpa using a3
 refine AR (AB (AF (AF (AC kR (AA (AE (vI no) rfl (AA (DQ .i64 no (0:Int) rfl rfl (AA (AE (vO (decide (no<(0:Int)))) rfl (?_)))))))))))
 cases b1:(decide (no<(0:Int)))
 ·have f4:(0:Int)≤no:=by simpa using b1
  refine AW rfl (AE (vI no) rfl (AW rfl (AY 4 DL (c.recs) rfl a0 (fun _ _ _ h=>BX h) fun g9 c1=>(AW rfl (BL U23_ rfl rfl c1 fun h0 b2=>(?_))))))
  have:=b2.len_le
  refine AW rfl (BP U23_ rfl b2 (AW rfl (JZ .i64 no (c.recs.length:Int) rfl rfl (AA (BA (vO (decide ((c.recs.length:Int)≤no))) rfl rfl (AG (AB (AJ (decide ((c.recs.length:Int)≤no)) rfl rfl (fun a4=>?_) (fun a4=>?_)))))))))
  ·have f5:(c.recs.length:Int)≤no:=by simpa using a4
   refine AF (AC kR (AA (AD (nS) rfl (AA (AD (vI 1) rfl (AG (AB (AM (AI (AS rfl (EJ rfl rfl rfl rfl) (?_)))))))))))
   have d5:((BO c no l).1)=([]):=by exact congrArg (fun p=>p.1) (show BO c no l=_ from PL aS (.inr aS))
   have d6:((BO c no l).2)=(1:Int):=by exact congrArg (fun p=>p.2) (show BO c no l=_ from PL aS (.inr aS))
   exact ⟨_,rfl,a1.keep,by rw [d5,d6];exact ⟨.slice none 0 0,rfl,BB.nil _ _ _⟩⟩
  have f6:no<(c.recs.length:Int):=by simpa using a4
  refine AR (AB (AF (AF (AC kR (AA (AY 4 DL (c.recs) rfl a0 (fun _ _ _ h=>BX h) fun h1 c2=>(AA (BL U23_ rfl rfl c2 fun h2 b3=>(?_)))))))))
  have:=b3.len_le
  refine AA (AE (vI no) rfl (AA (CR U23_ GM .i64 no no.toNat rfl rfl oM b3 oM fun h3 c3=>(AA (AY 2 HN ((c.recs[no.toNat]!).state) rfl c3 (fun _ _ _ h=>GZ h) fun h4 c4=>(AA (BK U3_ rfl rfl c4 (AA (EK .i64 ((c.recs[no.toNat]!).state) (2:Int) rfl rfl (AG (AB (AJ (((c.recs[no.toNat]!).state) == (2:Int)) rfl rfl (fun a5=>?_) (fun a5=>?_)))))))))))))
  ·have f7:(c.recs[no.toNat]!).state=(2:Int):=by simpa using a5
   refine AF (AC kR (AA (AD (nS) rfl (AA (AD (vI 452) rfl (AG (AB (AM (AI (AS rfl (EJ rfl rfl rfl rfl) (?_)))))))))))
   have d7:((BO c no l).1)=([]):=by exact congrArg (fun p=>p.1) (show BO c no l=_ from rest_3 aS oM oM aS)
   have d8:((BO c no l).2)=(452:Int):=by exact congrArg (fun p=>p.2) (show BO c no l=_ from rest_3 aS oM oM aS)
   exact ⟨_,rfl,a1.keep,by rw [d7,d8];exact ⟨.slice none 0 0,rfl,BB.nil _ _ _⟩⟩
  have f8:(c.recs[no.toNat]!).state≠(2:Int):=by simpa using a5
  refine AR (AB (AF (AF (AC kR (AA (AY 4 DL (c.recs) rfl a0 (fun _ _ _ h=>BX h) fun h5 c5=>(AA (BL U23_ rfl rfl c5 fun h6 b4=>(?_)))))))))
  have:=b4.len_le
  refine AA (AE (vI no) rfl (AA (CR U23_ GM .i64 no no.toNat rfl rfl oM b4 oM fun h7 c6=>(AA (AY 2 HN ((c.recs[no.toNat]!).state) rfl c6 (fun _ _ _ h=>GZ h) fun h8 c7=>(AA (BK U3_ rfl rfl c7 (AA (CM .i64 ((c.recs[no.toNat]!).state) (1:Int) rfl rfl (AG (AB (AJ (((c.recs[no.toNat]!).state) != (1:Int)) rfl rfl (fun a6=>?_) (fun a6=>?_)))))))))))))
  ·have f9:(c.recs[no.toNat]!).state≠(1:Int):=by simpa using a6
   refine AF (AC kR (AA (AD (nS) rfl (AA (AD (vI 460) rfl (AG (AB (AM (AI (AS rfl (EJ rfl rfl rfl rfl) (?_)))))))))))
   have d9:((BO c no l).1)=([]):=by exact congrArg (fun p=>p.1) (show BO c no l=_ from rr_4 aS oM oM aS aS)
   have e0:((BO c no l).2)=(460:Int):=by exact congrArg (fun p=>p.2) (show BO c no l=_ from rr_4 aS oM oM aS aS)
   exact ⟨_,rfl,a1.keep,by rw [d9,e0];exact ⟨.slice none 0 0,rfl,BB.nil _ _ _⟩⟩
  have g0:(c.recs[no.toNat]!).state=(1:Int):=by simpa using a6
  refine AR (AB (AF (AC kR (AA (CJ U25_ rfl BM rfl a0 fun b5 c8=>(AA (AE (l_v) rfl (AA (AZ (vs:=[vA b5.toArray,l_v]) enter_30 (VB (O:=[]++O) b5 c l_v l d1 c8 a2 a1.lt) rfl a1 fun h9 e1 a8 e2 i0 e3=>(?_))))))))))
  obtain rfl:=e3
  have a2:=a2.mv e2
  refine AA (AD (vI (FT c l)) rfl (AG (AB (AF (AF (AC kR (AA (AE (vI (FT c l)) rfl (AA (CM .i64 (FT c l) (0:Int) rfl rfl (AG (AB (AJ ((FT c l) != (0:Int)) rfl rfl (fun a7=>?_) (fun a7=>?_))))))))))))))
  ·have g1:FT c l≠(0:Int):=by simpa using a7
   refine AF (AC kR (AA (AE (vI (FT c l)) rfl (AA (AD (nS) rfl (AA (AD (vI (FT c l)) rfl (AG (AB (AM (AI (AS rfl (EJ rfl rfl rfl rfl) (?_)))))))))))))
   have e4:((BO c no l).1)=([]):=by exact congrArg (fun p=>p.1) (show BO c no l=_ from rr_5 aS oM oM aS aS)
   have e5:((BO c no l).2)=(FT c l):=by exact congrArg (fun p=>p.2) (show BO c no l=_ from rr_5 aS oM oM aS aS)
   exact ⟨_,rfl,a8.keep,by rw [e4,e5];exact ⟨.slice none 0 0,rfl,BB.nil _ _ _⟩⟩
  have g2:FT c l=(0:Int):=by simpa using a7
  refine AR (AB (AF (AC kR (AA (AE (l_v) rfl (AA (AZ (vs:=[l_v]) enter_36 (YR (O:=[]++O) l_v l e1 a2 a8.lt) rfl a8 fun i1 i2 e6 i3 i4 e7=>(?_))))))))
  obtain ⟨a9,rfl,b6⟩:=e7
  have:=b6.len_le
  refine AA (AO (a9) rfl rfl (AA (AO (vI ((CG l).2)) rfl rfl (AA (AD (a9) rfl (AA (AD (vI ((CG l).2)) rfl (AG (AB (AM (AS rfl (EJ rfl rfl rfl rfl) (?_))))))))))))
  have e8:((BO c no l).1)=((CG l).1):=by exact congrArg (fun p=>p.1) (show BO c no l=_ from rr_6 aS oM oM aS aS)
  have e9:((BO c no l).2)=((CG l).2):=by exact congrArg (fun p=>p.2) (show BO c no l=_ from rr_6 aS oM oM aS aS)
  exact ⟨_,rfl,e6.keep,by rw [e8,e9];exact ⟨a9,rfl,b6.out⟩⟩
 have g3:no<(0:Int):=by simpa using b1
 refine AL rfl (AL rfl (AL rfl (AL rfl (AL rfl (AA (AQ (vO true) rfl rfl (AG (AB (AJ true rfl rfl (fun _=>AF (AC kR (AA (AD (nS) rfl (AA (AD (vI 1) rfl (AG (AB (AM (AI (AS rfl (EJ rfl rfl rfl rfl) (?_)))))))))))) (fun h=>by cases h))))))))))
 have f0:((BO c no l).1)=([]):=by exact congrArg (fun p=>p.1) (show BO c no l=_ from PL aS (.inl aS))
 have f1:((BO c no l).2)=(1:Int):=by exact congrArg (fun p=>p.2) (show BO c no l=_ from PL aS (.inl aS))
 exact ⟨_,rfl,a1.keep,by rw [f0,f1];exact ⟨.slice none 0 0,rfl,BB.nil _ _ _⟩⟩
open Go.Fw Go.RowKit
set_option maxHeartbeats 4000000 in
set_option maxRecDepth 100000 in
theorem PR {O:List Nat} (c_cs:List Value) (c:Circle) (l_v:Value) (l:List Share) (others_v:Value) (others:List Int) (threshold:Int) (no:Int) (coins_v:Value) (coins:List UInt8) (w:World) (f9:Enc.circle.rd w O c_cs c) (a6:BB Enc.share w O l_v l) (a0:BB Enc.int w O others_v others) (a2:BB Enc.u8 w O coins_v coins) (hO:∀ b∈O,b<w.heap.size):CA Tryz.prog 4 [.agg c_cs.toArray,l_v,others_v,vI threshold,vI no,coins_v] w (fun v _=>v = .bool (true)):= by
 have f9:Enc.circle.rd w ([]++O) c_cs c:=f9
 have k8:=a6.len_le
 have a6:BB Enc.share w ([]++O) l_v l:=a6
 have h2:=a0.len_le
 have a0:BB Enc.int w ([]++O) others_v others:=a0
 have k1:=a2.len_le
 have a2:BB Enc.u8 w ([]++O) coins_v coins:=a2
 have s0:St w O w []:=St.start hO
 refine BE 98 Tryz.func4 rfl rfl oT (fun F0=>AF (AC kR (AA (DR (E:=Enc.circle) (vA c_cs.toArray) (c_cs) c rfl rfl f9 s0 fun k9 h3 e9 e1 l0 a1=>(?_)))))
 have a6:=a6.mv e1
 have a0:=a0.mv e1
 have a2:=a2.mv e1
 refine AA (AD (vO false) rfl (AG (AB (AF (AF (AC kR (AA (AZ (vs:=[]) enter_5 (c_sane46 (O:=[]++O) h3 e9.lt) rfl e9 fun l1 h4 f0 d0 l2 h5=>(?_)))))))))
 obtain rfl:=h5
 have a6:=a6.mv d0
 have a0:=a0.mv d0
 have a2:=a2.mv d0
 have a1:=a1.mv d0
 refine AA (EU true rfl (AG (AB (AJ false rfl rfl (fun h=>by cases h) (fun _=>AR (AB (AF (AF (AC kR (AA (CJ U25_ rfl BM rfl a1 fun e2 g0=>(AA (AE (l_v) rfl (AA (AZ (vs:=[vA e2.toArray,l_v]) enter_6 (c_few46 (O:=[]++O) e2 c l_v l h4 g0 a6 f0.lt) rfl f0 fun l3 h6 c4 d1 l4 h7=>(?_))))))))))))))))
 obtain rfl:=h7
 have a6:=a6.mv d1
 have a0:=a0.mv d1
 have a2:=a2.mv d1
 have a1:=a1.mv d1
 refine AA (EU (OU c && RQ l) rfl (AA (AE (vO (!(OU c && RQ l))) rfl (?_))))
 cases e3:(!(OU c && RQ l))
 ·have k2:(OU c && RQ l)=true:=by simpa using e3
  refine AW rfl (AE (others_v) rfl (AW rfl (BP U22_ rfl a0 (AW rfl (FN .i64 (others.length:Int) (20:Int) rfl rfl (AA (BA (vO (decide ((20:Int)<(others.length:Int)))) rfl rfl (AA (AE (vO (decide ((20:Int)<(others.length:Int)))) rfl (?_))))))))))
  cases e4:(decide ((20:Int)<(others.length:Int)))
  ·have k3:(others.length:Int)≤(20:Int):=by simpa using e4
   refine AW rfl (AE (coins_v) rfl (AW rfl (BP U26_ rfl a2 (AW rfl (FN .i64 (coins.length:Int) (1000:Int) rfl rfl (AA (BA (vO (decide ((1000:Int)<(coins.length:Int)))) rfl rfl (AG (AB (AJ (decide ((1000:Int)<(coins.length:Int))) rfl rfl (fun d6=>?_) (fun d6=>?_)))))))))))
   ·have k4:(1000:Int)<(coins.length:Int):=by simpa using d6
    refine AF (AC kR (AA (AD (vO true) rfl (AG (AB (AM (AI (AS rfl (BZ rfl rfl rfl) (?_)))))))))
    exact ⟨_,rfl,c4.keep,rfl⟩
   have k5:(coins.length:Int)≤(1000:Int):=by simpa using d6
   refine AR (AB (AF (AC kR (AA (CJ U25_ rfl BM rfl a1 fun e5 g1=>(AA (AE (l_v) rfl (AA (AE (others_v) rfl (AA (AE (vI threshold) rfl (AA (AE (coins_v) rfl (AA (AZ (vs:=[vA e5.toArray,l_v,others_v,vI threshold,coins_v]) enter_13 (YA (O:=[]++O) e5 c l_v l others_v others threshold coins_v coins h6 g1 a6 a0 a2 oM c4.lt) rfl c4 fun l5 l6 h8 d2 l7 h9=>(?_))))))))))))))))
   obtain ⟨d7,c1,rfl,d8,a3⟩:=h9
   have:=a3.len_le
   have a6:=a6.mv d2
   have a0:=a0.mv d2
   have a2:=a2.mv d2
   have a1:=a1.mv d2
   refine AA (AE (vT #[vA d7.toArray,c1,vI ((AN c l others threshold coins).2.2)]) rfl (AA (AO (vA d7.toArray) rfl rfl (AA (AO (c1) rfl rfl (AA (AO (vI ((AN c l others threshold coins).2.2)) rfl rfl (AA (CZ [vI 0,vI 0,vI 0,nS,nS] KM rfl h8 fun b2 i0 i1 i2 c2 l8 g2=>(?_))))))))))
   clear i1
   have a6:=a6.mv c2
   have a0:=a0.mv c2
   have a2:=a2.mv c2
   have a1:=a1.mv c2
   have d8:Enc.circle.rd i0 ((b2 :: [])++O) d7 ((AN c l others threshold coins).1):=Enc.mv Enc.circle (x:=(AN c l others threshold coins).1) d8 c2
   have a3:=a3.mv c2
   obtain ⟨c5,c6,rfl,a4,a5⟩:=d8
   have:=a4.len_le
   have:=a5.len_le
   refine CC (BF (vs:=[vI (((AN c l others threshold coins).1).epoch),vI (((AN c l others threshold coins).1).threshold),vI (((AN c l others threshold coins).1).wait),c5,c6]) (.agg #[vI (((AN c l others threshold coins).1).epoch),vI (((AN c l others threshold coins).1).threshold),vI (((AN c l others threshold coins).1).wait),c5,c6]) rfl rfl rfl BM (fun u hu=>by simp only [List.mem_cons,List.not_mem_nil,or_false] at hu;rcases hu with rfl|rfl|rfl|rfl|rfl <;> first|rfl|exact a4.oneCell|exact a5.oneCell) (by repeat (constructor)) g2 oT i2 fun i3 f1 b6 l9 a7=>(?_))
   have a6:=a6.mv b6
   have a0:=a0.mv b6
   have a2:=a2.mv b6
   have a1:=a1.mv b6
   have a3:=a3.mv b6
   have a4:=a4.mv b6
   have a5:=a5.mv b6
   refine AA (AD (c1) rfl (AA (AD (vI ((AN c l others threshold coins).2.2)) rfl (AG (AB (AF (AC kR (AA (CJ U25_ rfl BM rfl a1 fun e6 g3=>(AA (AE (l_v) rfl (AA (AE (others_v) rfl (AA (AE (vI threshold) rfl (AA (AE (coins_v) rfl (AA (AZ (vs:=[vA e6.toArray,l_v,others_v,vI threshold,coins_v]) enter_14 (VS (O:=(b2 :: [])++O) e6 c l_v l others_v others threshold coins_v coins i3 g3 a6 a0 a2 f1.lt) rfl f1 fun m0 m1 i4 c7 i5 i6=>(?_))))))))))))))))))))
   obtain ⟨d9,c3,rfl,e0,a8⟩:=i6
   have:=a8.len_le
   have a6:=a6.mv c7
   have a1:=a1.mv c7
   have a3:=a3.mv c7
   have a4:=a4.mv c7
   have a5:=a5.mv c7
   have a7:=a7.keep i5 (by simp)
   refine AA (AE (vT #[vA d9.toArray,c3,vI ((AN c l others threshold coins).2.2)]) rfl (AA (AO (vA d9.toArray) rfl rfl (AA (AO (c3) rfl rfl (AA (AO (vI ((AN c l others threshold coins).2.2)) rfl rfl (AA (CZ [vI 0,vI 0,vI 0,nS,nS] KM rfl i4 fun b7 i7 i8 i9 b8 j0 g4=>(?_))))))))))
   have g5:HD b2 b7:=by show b2≠b7;have:=a7.lt;omega
   clear i8
   have a6:=a6.mv b8
   have a1:=a1.mv b8
   have a3:=a3.mv b8
   have a4:=a4.mv b8
   have a5:=a5.mv b8
   have e0:Enc.circle.rd i7 ((b7 :: (b2 :: []))++O) d9 ((AN c l others threshold coins).1):=Enc.mv Enc.circle (x:=(AN c l others threshold coins).1) e0 b8
   have a8:=a8.mv b8
   have a7:=a7.keep j0 (by simp)
   obtain ⟨c8,c9,rfl,a9,b0⟩:=e0
   have:=a9.len_le
   have:=b0.len_le
   refine CC (BF (vs:=[vI (((AN c l others threshold coins).1).epoch),vI (((AN c l others threshold coins).1).threshold),vI (((AN c l others threshold coins).1).wait),c8,c9]) (.agg #[vI (((AN c l others threshold coins).1).epoch),vI (((AN c l others threshold coins).1).threshold),vI (((AN c l others threshold coins).1).wait),c8,c9]) rfl rfl rfl BM (fun u hu=>by simp only [List.mem_cons,List.not_mem_nil,or_false] at hu;rcases hu with rfl|rfl|rfl|rfl|rfl <;> first|rfl|exact a9.oneCell|exact b0.oneCell) (by repeat (constructor)) g4 oT i9 fun j1 f2 b3 j2 c0=>(?_))
   have a6:=a6.mv b3
   have a1:=a1.mv b3
   have a3:=a3.mv b3
   have a4:=a4.mv b3
   have a5:=a5.mv b3
   have a8:=a8.mv b3
   have a9:=a9.mv b3
   have b0:=b0.mv b3
   have a7:=a7.keep j2 (BH g5)
   refine AA (AD (c3) rfl (AA (AD (vI ((AN c l others threshold coins).2.2)) rfl (AG (AB (AF (AC kR (AA (CJ U25_ rfl BM rfl a1 fun e7 g6=>(AA (AE (vI no) rfl (AA (AE (l_v) rfl (AA (AZ (vs:=[vA e7.toArray,vI no,l_v]) PN (WA (O:=(b7 :: (b2 :: []))++O) e7 c no l_v l j1 g6 a6 f2.lt) rfl f2 fun m2 j3 f3 b4 f4 j4=>(?_))))))))))))))))
   obtain ⟨d3,rfl,b1⟩:=j4
   have:=b1.len_le
   have a6:=a6.mv b4
   have a1:=a1.mv b4
   have a3:=a3.mv b4
   have a8:=a8.mv b4
   have a4:=a4.mv b4
   have a5:=a5.mv b4
   have a9:=a9.mv b4
   have b0:=b0.mv b4
   have a7:=a7.keep f4 (by simp)
   have c0:=c0.keep f4 (by simp)
   refine AA (AE (vT #[d3,vI ((BO c no l).2)]) rfl (AA (AO (d3) rfl rfl (AA (AO (vI ((BO c no l).2)) rfl rfl (AA (AD (d3) rfl (AA (AD (vI ((BO c no l).2)) rfl (AG (AB (AF (AC kR (AA (CJ U25_ rfl BM rfl a1 fun e8 g7=>(AA (AE (vI no) rfl (AA (AE (l_v) rfl (AA (AZ (vs:=[vA e8.toArray,vI no,l_v]) enter_16 (c_refRest46 (O:=(b7 :: (b2 :: []))++O) e8 c no l_v l j3 g7 a6 f3.lt) rfl f3 fun m3 j5 f5 b9 f6 j6=>(?_))))))))))))))))))))))
   obtain ⟨d4,rfl,b5⟩:=j6
   have:=b5.len_le
   have a3:=a3.mv b9
   have a8:=a8.mv b9
   have b1:=b1.mv b9
   have a4:=a4.mv b9
   have a5:=a5.mv b9
   have a9:=a9.mv b9
   have b0:=b0.mv b9
   have a7:=a7.keep f6 (by simp)
   have c0:=c0.keep f6 (by simp)
   refine AA (AE (vT #[d4,vI ((BO c no l).2)]) rfl (AA (AO (d4) rfl rfl (AA (AO (vI ((BO c no l).2)) rfl rfl (AA (AD (d4) rfl (AA (AD (vI ((BO c no l).2)) rfl (AG (AB (AF (AC kR (AA (BS (vs:=[vI (((AN c l others threshold coins).1).epoch),vI (((AN c l others threshold coins).1).threshold),vI (((AN c l others threshold coins).1).wait),c5,c6]) U25_ rfl BM rfl a7 rfl (AA (BS (vs:=[vI (((AN c l others threshold coins).1).epoch),vI (((AN c l others threshold coins).1).threshold),vI (((AN c l others threshold coins).1).wait),c8,c9]) U25_ rfl BM rfl c0 rfl (AA (AZ (vs:=[vA #[vI (((AN c l others threshold coins).1).epoch),vI (((AN c l others threshold coins).1).threshold),vI (((AN c l others threshold coins).1).wait),c5,c6],vA #[vI (((AN c l others threshold coins).1).epoch),vI (((AN c l others threshold coins).1).threshold),vI (((AN c l others threshold coins).1).wait),c8,c9]]) enter_12 (c_sameC (O:=(b7 :: (b2 :: []))++O) [vI (((AN c l others threshold coins).1).epoch),vI (((AN c l others threshold coins).1).threshold),vI (((AN c l others threshold coins).1).wait),c5,c6] ((AN c l others threshold coins).1) [vI (((AN c l others threshold coins).1).epoch),vI (((AN c l others threshold coins).1).threshold),vI (((AN c l others threshold coins).1).wait),c8,c9] ((AN c l others threshold coins).1) j5 ⟨_,_,rfl,a4,a5⟩ ⟨_,_,rfl,a9,b0⟩ f5.lt) rfl f5 fun m4 j7 f7 d5 m5 j8=>(?_))))))))))))))))))))
   obtain rfl:=j8
   have a3:=a3.mv d5
   have a8:=a8.mv d5
   have b1:=b1.mv d5
   have b5:=b5.mv d5
   refine AA (AE (vO (IY ((AN c l others threshold coins).1) ((AN c l others threshold coins).1))) rfl (?_))
   have g8:(IY ((AN c l others threshold coins).1) ((AN c l others threshold coins).1))=true:=(by exact sameC_refl _)
   rw [g8]
   refine AW rfl (AE (c1) rfl (AW rfl (AE (c3) rfl (AW rfl (AZ (vs:=[c1,c3]) enter_11 (c_same8 (O:=(b7 :: (b2 :: []))++O) c1 ((AN c l others threshold coins).2.1) c3 ((AN c l others threshold coins).2.1) j7 a3 a8 f7.lt) rfl f7 fun m6 m7 j9 f8 m9 k0=>(?_))))))
   obtain rfl:=k0
   have b1:=b1.mv f8
   have b5:=b5.mv f8
   refine AA (AQ (vO (ON ((AN c l others threshold coins).2.1) ((AN c l others threshold coins).2.1))) rfl rfl (AA (AE (vO (ON ((AN c l others threshold coins).2.1) ((AN c l others threshold coins).2.1))) rfl (?_))))
   have g9:(ON ((AN c l others threshold coins).2.1) ((AN c l others threshold coins).2.1))=true:=(by exact (same_iff _ _).2 rfl)
   rw [g9]
   refine AW rfl (AE (vI ((AN c l others threshold coins).2.2)) rfl (AW rfl (AE (vI ((AN c l others threshold coins).2.2)) rfl (AW rfl (EK .i64 ((AN c l others threshold coins).2.2) ((AN c l others threshold coins).2.2) rfl rfl (AA (AQ (vO (((AN c l others threshold coins).2.2) == ((AN c l others threshold coins).2.2))) rfl rfl (AA (AE (vO (((AN c l others threshold coins).2.2) == ((AN c l others threshold coins).2.2))) rfl (?_))))))))))
   have h0:(((AN c l others threshold coins).2.2) == ((AN c l others threshold coins).2.2))=true:=(beq_self_eq_true _)
   rw [h0]
   refine AW rfl (AE (d3) rfl (AW rfl (QI U26_ U5_ U9_ rfl b1 (AW rfl (AE (d4) rfl (AW rfl (QI U26_ U5_ U9_ rfl b5 (AW rfl (o_eqlS ((BO c no l).1) ((BO c no l).1) rfl rfl (AA (AQ (vO (((BO c no l).1) == ((BO c no l).1))) rfl rfl (AA (AE (vO (((BO c no l).1) == ((BO c no l).1))) rfl (?_))))))))))))))
   have h1:(((BO c no l).1) == ((BO c no l).1))=true:=(beq_self_eq_true _)
   rw [h1]
   refine AW rfl (AE (vI ((BO c no l).2)) rfl (AW rfl (AE (vI ((BO c no l).2)) rfl (AW rfl (EK .i64 ((BO c no l).2) ((BO c no l).2) rfl rfl (AA (AQ (vO (((BO c no l).2) == ((BO c no l).2))) rfl rfl (AA (AD (vO (((BO c no l).2) == ((BO c no l).2))) rfl (AG (AB (AM (AS rfl (BZ rfl rfl rfl) (?_))))))))))))))
   have e:true=(((BO c no l).2) == ((BO c no l).2)):=by exact (beq_self_eq_true _).symm
   exact ⟨_,rfl,j9.keep,(by exact congrArg vO e.symm)⟩
  have k6:(20:Int)<(others.length:Int):=by simpa using e4
  refine AL rfl (AL rfl (AL rfl (AA (AQ (vO true) rfl rfl (AG (AB (AJ true rfl rfl (fun _=>AF (AC kR (AA (AD (vO true) rfl (AG (AB (AM (AI (AS rfl (BZ rfl rfl rfl) (?_)))))))))) (fun h=>by cases h))))))))
  exact ⟨_,rfl,c4.keep,rfl⟩
 have k7:(OU c && RQ l)=false:=by (have e:=e3;rw [Bool.not_eq_true'] at e;exact e)
 refine AL rfl (AL rfl (AL rfl (AA (AQ (vO true) rfl rfl (AA (AE (vO true) rfl (AL rfl (AL rfl (AL rfl (AA (AQ (vO true) rfl rfl (AG (AB (AJ true rfl rfl (fun _=>AF (AC kR (AA (AD (vO true) rfl (AG (AB (AM (AI (AS rfl (BZ rfl rfl rfl) (?_)))))))))) (fun h=>by cases h)))))))))))))))
 exact ⟨_,rfl,c4.keep,rfl⟩
end Go.Proofs.YtjgfokolnkhafaaGreat
