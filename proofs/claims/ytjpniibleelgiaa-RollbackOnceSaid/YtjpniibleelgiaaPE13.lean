/- What the laws of this part rest on: lemmas, and the walks of the functions. No conditions. -/
import Derived.WalkKit
import Derived.WalkSpells
import Derived.WalkLawsBesides
import Derived.RangeFuncLeaves
import Derived.Maps.AppendAt
import Derived.Deep.AppendLies
import Derived.Deep.Slices
import Derived.OpenShut
import Derived.ProofKit
import Derived.Below
import Derived.ChangeSame
import Derived.Carry
import Derived.RangeFuncRecord
import Derived.Laws.Tables
import Derived.Recover
import Derived.DefersIn
import Derived.Lib.AppendZerosOnto
import Derived.Lib.Overlaps
import Derived.Laws.CopyRow
import Derived.Laws.StructEq
import Derived.ChangeKeysEq
import Derived.OrdersIn
import Derived.Test.YtjpniibleelgiaaRows
import Derived.Test.YtjpniibleelgiaaPE12
set_option linter.unusedSimpArgs false
set_option linter.unusedVariables false
namespace Go.Proofs.Ytjpniibleelgiaa
open Go.Fw Go.RowKit
set_option maxHeartbeats 4000000 in
set_option maxRecDepth 100000 in
theorem MN {O:List Nat} (d_cs:List Value) (d:Device) (w:World) (a8:Enc.device.rd w O d_cs d) (hO:∀ b∈O,b<w.heap.size):BV Try.prog 79 [.agg d_cs.toArray] w (fun v _=>v = .bool (BX d)):= by
 have a8:Enc.device.rd w ([]++O) d_cs d:=a8
 have s0:St w O w []:=St.start hO
 refine BI 32 Try.func79 rfl rfl oT (fun F0=>AF (AC kR (AB (CQ (E:=Enc.device) (vA d_cs.toArray) (d_cs) d rfl rfl a8 s0 fun c7 b4 a1 c8 c9 a0=>(AB (AG (vO false) rfl (AD (AA (AF (AC kR (AB (DZ CO rfl (AB (AS 0 HN (d.id) rfl a0 (fun _ _ _ h=>DY h) fun d0 a9=>(AB (BB U3_ rfl rfl a9 (AB (IB .i64 d.id (0:Int) rfl rfl (AB (AH (vO (decide ((0:Int)≤d.id))) rfl (?_)))))))))))))))))))))
 cases a2:(decide ((0:Int)≤d.id))
 ·have b7:d.id<(0:Int):=by simpa using a2
  refine AW rfl (AW rfl (AW rfl (AW rfl (AB (BG (vO false) rfl rfl (AB (AH (vO false) rfl (AW rfl (AW rfl (AW rfl (AW rfl (AB (BG (vO false) rfl rfl (AB (AH (vO false) rfl (AW rfl (AW rfl (AW rfl (AW rfl (AB (BG (vO false) rfl rfl (AB (AH (vO false) rfl (AW rfl (AW rfl (AW rfl (AW rfl (AW rfl (AB (BG (vO false) rfl rfl (AB (AG (vO false) rfl (AD (AA (AN (AY rfl (CM rfl rfl rfl) (?_)))))))))))))))))))))))))))))))))))))
  have e:(BX d)=false:=by simp [BX, *]
  exact ⟨_,rfl,a1.keep,(by exact congrArg vO e.symm)⟩
 have b8:(0:Int)≤d.id:=by simpa using a2
 refine BC rfl (DZ CO rfl (BC rfl (AS 0 HN (d.id) rfl a0 (fun _ _ _ h=>DY h) fun d1 b0=>(BC rfl (BB U3_ rfl rfl b0 (BC rfl (DG .i64 d.id (4:Int) rfl rfl (AB (BF (vO (decide (d.id<(4:Int)))) rfl rfl (AB (AH (vO (decide (d.id<(4:Int)))) rfl (?_))))))))))))
 cases a3:(decide (d.id<(4:Int)))
 ·have b9:(4:Int)≤d.id:=by simpa using a3
  refine AW rfl (AW rfl (AW rfl (AW rfl (AB (BG (vO false) rfl rfl (AB (AH (vO false) rfl (AW rfl (AW rfl (AW rfl (AW rfl (AB (BG (vO false) rfl rfl (AB (AH (vO false) rfl (AW rfl (AW rfl (AW rfl (AW rfl (AW rfl (AB (BG (vO false) rfl rfl (AB (AG (vO false) rfl (AD (AA (AN (AY rfl (CM rfl rfl rfl) (?_)))))))))))))))))))))))))))))
  have e:(BX d)=false:=by simp [BX, *]
  exact ⟨_,rfl,a1.keep,(by exact congrArg vO e.symm)⟩
 have c2:d.id<(4:Int):=by simpa using a3
 refine BC rfl (DZ CO rfl (BC rfl (AS 1 FT (d.counter) rfl a0 (fun _ _ _ h=>DN h) fun d2 b1=>(BC rfl (BB U3_ rfl rfl b1 (BC rfl (IB .i64 d.counter (0:Int) rfl rfl (AB (BF (vO (decide ((0:Int)≤d.counter))) rfl rfl (AB (AH (vO (decide ((0:Int)≤d.counter))) rfl (?_))))))))))))
 cases a4:(decide ((0:Int)≤d.counter))
 ·have c3:d.counter<(0:Int):=by simpa using a4
  refine AW rfl (AW rfl (AW rfl (AW rfl (AB (BG (vO false) rfl rfl (AB (AH (vO false) rfl (AW rfl (AW rfl (AW rfl (AW rfl (AW rfl (AB (BG (vO false) rfl rfl (AB (AG (vO false) rfl (AD (AA (AN (AY rfl (CM rfl rfl rfl) (?_)))))))))))))))))))))
  have e:(BX d)=false:=by simp [BX, *]
  exact ⟨_,rfl,a1.keep,(by exact congrArg vO e.symm)⟩
 have c4:(0:Int)≤d.counter:=by simpa using a4
 refine BC rfl (DZ CO rfl (BC rfl (AS 1 FT (d.counter) rfl a0 (fun _ _ _ h=>DN h) fun d3 b2=>(BC rfl (BB U3_ rfl rfl b2 (BC rfl (o_leq .i64 d.counter (65535:Int) rfl rfl (AB (BF (vO (decide (d.counter≤(65535:Int)))) rfl rfl (AB (AH (vO (decide (d.counter≤(65535:Int)))) rfl (?_))))))))))))
 cases a5:(decide (d.counter≤(65535:Int)))
 ·have c5:(65535:Int)<d.counter:=by simpa using a5
  refine AW rfl (AW rfl (AW rfl (AW rfl (AW rfl (AB (BG (vO false) rfl rfl (AB (AG (vO false) rfl (AD (AA (AN (AY rfl (CM rfl rfl rfl) (?_)))))))))))))
  have e:(BX d)=false:=by simp [BX, *]
  exact ⟨_,rfl,a1.keep,(by exact congrArg vO e.symm)⟩
 have c6:d.counter≤(65535:Int):=by simpa using a5
 refine BC rfl (DZ CO rfl (BC rfl (AS 2 FC (d.ops) rfl a0 (fun _ _ _ h=>EH h) fun d4 b3=>(BC rfl (IM U26_ rfl rfl b3 fun a7 a6=>(?_))))))
 have:=a6.len_le
 refine BC rfl (BD (vs:=[a7]) ME (KG (O:=[]++O) a7 d.ops b4 a6 a1.lt) rfl a1 fun d5 d6 b5 d7 d8 b6=>(?_))
 obtain rfl:=b6
 refine BC rfl (DB .i64 (CE d.ops) (0:Int) rfl rfl (AB (BF (vO ((CE d.ops) == (0:Int))) rfl rfl (AB (AG (vO ((CE d.ops) == (0:Int))) rfl (AD (AA (AN (AY rfl (CM rfl rfl rfl) (?_))))))))))
 have e:(BX d)=((CE d.ops) == (0:Int)):=by simp [BX, *]
 exact ⟨_,rfl,b5.keep,(by exact congrArg vO e.symm)⟩
set_option maxHeartbeats 4000000 in
set_option maxRecDepth 100000 in
theorem c_whole {O:List Nat} (d_cs:List Value) (d:Device) (w:World) (b6:Enc.device.rd w O d_cs d) (hO:∀ b∈O,b<w.heap.size):BV Try.prog 81 [.agg d_cs.toArray] w (fun v _=>v = .bool (CF d)):= by
 have b6:Enc.device.rd w ([]++O) d_cs d:=b6
 have s0:St w O w []:=St.start hO
 refine callsK_ofM 24 Try.func81 rfl rfl oT (fun F0=>AF (AC kR (AB (CQ (E:=Enc.device) (vA d_cs.toArray) (d_cs) d rfl rfl b6 s0 fun l0 l1 l2 l3 p5 a2=>(?_)))))
 have b6:Enc.device.rd l1 ([]++O) d_cs (d):=Enc.mv Enc.device (x:=d) b6 l3
 refine AB (BW [vO false] z_4 rfl l2 fun a8 h2 l4 h3 h4 p6 a1=>(?_))
 clear l4
 have b6:Enc.device.rd h2 ((a8 :: [])++O) d_cs (d):=Enc.mv Enc.device (x:=d) b6 h4
 have a2:=a2.mv h4
 refine AD (AA (AF (AF (AC kR (AB (BZ U112_ rfl IS rfl a2 fun b7 a5=>(AB (BD (vs:=[vA b7.toArray]) LQ (MN (O:=(a8 :: [])++O) b7 d h2 a5 h3.lt) rfl h3 fun p7 h5 h6 f8 l5 l6=>(?_)))))))))
 obtain rfl:=l6
 have b6:Enc.device.rd h5 ((a8 :: [])++O) d_cs (d):=Enc.mv Enc.device (x:=d) b6 f8
 have a2:=a2.mv f8
 have a5:Enc.device.rd h5 ((a8 :: [])++O) b7 (d):=Enc.mv Enc.device (x:=d) a5 f8
 have a1:=a1.keep l5 (by simp)
 refine AB (EF (BX d) rfl (AD (AA (AP (!(BX d)) rfl rfl (fun f1=>?_) (fun f1=>?_)))))
 ·have o5:(BX d)=false:=by simpa using f1
  refine AF (AC kR (BU (CS (vO false) rfl rfl rfl s_4 (by repeat (constructor)) a1 oT h6 fun p8 l7 p9 q0 i7=>(AD (AA (AN (AO (endM_r rfl (resc rfl rfl U4_ rfl rfl i7 rfl) (?_)))))))))
  have e:(CF d)=false:=by exact whole_f aS
  exact ⟨_,rfl,l7.keep,(by exact congrArg vO e.symm)⟩
 have o6:(BX d)=true:=by simpa using f1
 refine AV (AA (AF (AC kR (AB (BW [vI 0] z_3 rfl h6 fun b3 h7 l8 l9 f9 m0 i8=>(?_))))))
 have g7:CU a8 b3:=by show a8≠b3;have:=a1.lt;omega
 clear l8
 have b6:Enc.device.rd h7 ((b3 :: (a8 :: []))++O) d_cs (d):=Enc.mv Enc.device (x:=d) b6 f9
 have a2:=a2.mv f9
 have a5:Enc.device.rd h7 ((b3 :: (a8 :: []))++O) b7 (d):=Enc.mv Enc.device (x:=d) a5 f9
 have a1:=a1.keep m0 (by simp)
 refine BU (CS (vI 0) rfl rfl rfl s_3 (by repeat (constructor)) i8 oT l9 fun h8 m1 g0 m2 c3=>(?_))
 have b6:Enc.device.rd h8 ((b3 :: (a8 :: []))++O) d_cs (d):=Enc.mv Enc.device (x:=d) b6 g0
 have a2:=a2.mv g0
 have a5:Enc.device.rd h8 ((b3 :: (a8 :: []))++O) b7 (d):=Enc.mv Enc.device (x:=d) a5 g0
 have a1:=a1.keep m2 (AT g7)
 refine AD (AA (AF (AF (AC kR (AB (BZ U112_ rfl IS rfl a2 fun b8 a9=>(AB (o_call [vA b8.toArray] _ enter_103 rfl (FD 4 Try.func103 rfl rfl oT (fun q1=>AF (AC kR (AB (CQ (E:=Enc.device) (vA b8.toArray) (b8) d rfl rfl a9 m1 fun d5 d9 m3 e0 h9 b1=>(?_)))))) (fun _ _ h=>h)))))))))
 have a9:Enc.device.rd d9 ((b3 :: (a8 :: []))++O) b8 (d):=Enc.mv Enc.device (x:=d) a9 e0
 have b6:Enc.device.rd d9 ((b3 :: (a8 :: []))++O) d_cs (d):=Enc.mv Enc.device (x:=d) b6 e0
 have a2:=a2.mv e0
 have a5:Enc.device.rd d9 ((b3 :: (a8 :: []))++O) b7 (d):=Enc.mv Enc.device (x:=d) a5 e0
 have a1:=a1.keep h9 (by simp)
 have c3:=c3.keep h9 (by simp)
 refine AB (AG (Value.nilFunc) rfl (AD (AA (AF (AC kR (AB (EE (first:=[]) (captured:=[.tmp 1]) [] [vP (some d5)] rfl rfl (AB (AG (vN (.func 106) #[] #[vP (some d5)]) rfl (AD (AA (AN (AY rfl (CM rfl rfl rfl) (Exists.intro _ (And.intro rfl (AD (AA (BP (cw_range (fs:=[]) (lb:=[vP (some d5)]) rfl rfl enter_106 rfl (fun b0 b4 e1 i6 _ h1 g8 i9 e2 a0 a6=>?_))))))))))))))))))))
 have b9:CU a8 b4∧CU a8 b0:=by show a8≠b4∧a8≠b0;have:=a1.lt;omega
 have c5:CU b3 b4∧CU b3 b0:=by show b3≠b4∧b3≠b0;have:=c3.lt;omega
 have m4:=m3.adopt2 e2 g8 oM a0.lt a6.lt
 have d6:Mv (b3 :: (a8 :: [])) d9 (b0 :: b4 :: (b3 :: (a8 :: []))) e1:=Mv.adopt2 e2 g8 oM
 have b6:Enc.device.rd e1 ((b0 :: b4 :: (b3 :: (a8 :: [])))++O) d_cs (d):=Enc.mv Enc.device (x:=d) b6 d6
 have a2:=a2.mv d6
 have a5:Enc.device.rd e1 ((b0 :: b4 :: (b3 :: (a8 :: [])))++O) b7 (d):=Enc.mv Enc.device (x:=d) a5 d6
 have a9:Enc.device.rd e1 ((b0 :: b4 :: (b3 :: (a8 :: [])))++O) b8 (d):=Enc.mv Enc.device (x:=d) a9 d6
 have b1:=b1.mv d6
 have a1:=a1.keep e2 (by simp)
 have c3:=c3.keep e2 (by simp)
 have c6:CU b4 b0:=by show b4≠b0;omega
 clear i9
 refine FD 26 Try.func106 rfl rfl oT (fun q2=>AF (AC kR (AB (DZ CO rfl (AB (AS 2 FC (d.ops) rfl b1 (fun _ _ _ h=>EH h) fun q3 j0=>(AB (IM U26_ rfl rfl j0 fun i0 b2=>(?_)))))))))
 have:=b2.len_le
 refine AB (DI U26_ rfl b2 (AB (AH (vI 0) rfl (AD (AA (BP (DW (fun mI FI wI=>∃ (k:Nat) (B:List Nat),k≤d.ops.length∧(∀ q,q<k→d.ops[q]!.device=d.id→d.ops[q]!.no≤d.counter)∧mI=d.ops.length - k∧(∃ F1,FI=FQ F1 [(0,vN (.yield b0) #[] #[]),(1,vP (some d5)),(7,i0),(8,vI (d.ops.length:Int)),(9,vI ((k:Nat):Int)),(26,undef)])∧St w O wI B∧PT Enc.device wI (B++O) (.pointer (some d5)) (d)∧CG Enc.devop wI (B++O) (i0) (d.ops)∧Enc.device.rd wI (B++O) d_cs (d)∧PT Enc.device wI (B++O) (.pointer (some l0)) (d)∧Enc.device.rd wI (B++O) b7 (d)∧Enc.device.rd wI (B++O) b8 (d)∧Ob wI b4 (.deferred (some []))∧b4∈B∧EA wI a8 4 [vO false]∧a8∈B∧EA wI b3 3 [vI ((FL d.ops d.id k:Nat):Int)]∧b3∈B∧Ob wI b0 (i6 .ready none)∧b0∈B) (d.ops.length - (0)) ?_ ?_)))))))
 ·exact ⟨(0),(b0 :: b4 :: (b3 :: (a8 :: []))),oM,(fun q hq=>by omega),rfl,⟨_,AQ _ ⟨rfl,rfl,rfl,rfl,(by rfl),rfl,trivial⟩⟩,m4,b1,b2,b6,a2,a5,a9,a0,(by (repeat (first|exact List.mem_cons_self|apply List.mem_cons_of_mem))),a1,(by (repeat (first|exact List.mem_cons_self|apply List.mem_cons_of_mem))),(by rw [show ([vI ((FL d.ops d.id (0):Nat):Int)]:List Value)=[vI 0] from by rw [cnt_zero];rfl];exact c3),(by (repeat (first|exact List.mem_cons_self|apply List.mem_cons_of_mem))),a6,(by (repeat (exact List.mem_cons_self)))⟩
 intro r6 F o4 hI
 clear b1 b2 b6 a2 a5 a9 a0 a1 a6
 obtain ⟨k,b5,hrw0_0,hrw0_1,r7,⟨r8,rfl⟩,j1,b1,b2,b6,a2,a5,a9,a0,k8,a1,o2,a3,o3,a6,k9⟩:=hI
 refine AF (AC kR (AB (DG .i64 ((k:Nat):Int) (d.ops.length:Int) rfl rfl (AD (AA (AF (AP (decide (((k:Nat):Int)<(d.ops.length:Int))) rfl rfl (fun f2=>?_) (fun f2=>?_))))))))
 ·have o7:((k:Nat):Int)<(d.ops.length:Int):=by simpa using f2
  refine AV (AA (AF (BP (AF (AC kR (AB (DO U26_ CH .i64 ((k:Nat):Int) k rfl rfl rfl b2 oM fun q4 j2=>(AB (BZ U40_ rfl CH rfl j2 fun o8 j3=>(?_))))))))))
  obtain rfl:=j3
  refine AB (BW [vI 0,vI 0,vI 0,vI 0,vI 0,vI 0] HV rfl j1 fun a4 g1 m5 m6 c7 e3 j4=>(?_))
  have j5:CU b4 a4:=by show b4≠a4;have:=a0.lt;omega
  have j6:CU a8 a4:=by show a8≠a4;have:=a1.lt;omega
  have j7:CU b3 a4:=by show b3≠a4;have:=a3.lt;omega
  have j8:CU b0 a4:=by show b0≠a4;have:=a6.lt;omega
  clear m5
  have b1:=b1.mv c7
  have b2:=b2.mv c7
  have b6:Enc.device.rd g1 ((a4 :: b5)++O) d_cs (d):=Enc.mv Enc.device (x:=d) b6 c7
  have a2:=a2.mv c7
  have a5:Enc.device.rd g1 ((a4 :: b5)++O) b7 (d):=Enc.mv Enc.device (x:=d) a5 c7
  have a9:Enc.device.rd g1 ((a4 :: b5)++O) b8 (d):=Enc.mv Enc.device (x:=d) a9 c7
  have a0:=a0.keep e3 (by simp)
  have a1:=a1.keep e3 (by simp)
  have a3:=a3.keep e3 (by simp)
  have a6:=a6.keep e3 (by simp)
  refine BU (AR (vs:=[vI ((d.ops[k]!).device),vI ((d.ops[k]!).no),vI ((d.ops[k]!).kind),vI ((d.ops[k]!).copy),vI ((d.ops[k]!).to),vI ((d.ops[k]!).token)]) (.agg #[vI ((d.ops[k]!).device),vI ((d.ops[k]!).no),vI ((d.ops[k]!).kind),vI ((d.ops[k]!).copy),vI ((d.ops[k]!).to),vI ((d.ops[k]!).token)]) rfl rfl rfl CH (fun u hu=>by simp only [List.mem_cons,List.not_mem_nil,or_false] at hu;rcases hu with rfl|rfl|rfl|rfl|rfl|rfl <;> rfl) (by repeat (constructor)) j4 oT m6 fun g2 i1 c8 e4 f3=>(?_))
  have b1:=b1.mv c8
  have b2:=b2.mv c8
  have b6:Enc.device.rd g2 ((a4 :: b5)++O) d_cs (d):=Enc.mv Enc.device (x:=d) b6 c8
  have a2:=a2.mv c8
  have a5:Enc.device.rd g2 ((a4 :: b5)++O) b7 (d):=Enc.mv Enc.device (x:=d) a5 c8
  have a9:Enc.device.rd g2 ((a4 :: b5)++O) b8 (d):=Enc.mv Enc.device (x:=d) a9 c8
  have a0:=a0.keep e4 (AT j5)
  have a1:=a1.keep e4 (AT j6)
  have a3:=a3.keep e4 (AT j7)
  have a6:=a6.keep e4 (AT j8)
  refine AD (AA (AF (AC kR (AB (AM 0 KI rfl (AB (BA U3_ rfl (vI ((d.ops[k]!).device)) rfl f3 rfl (AB (DZ CO rfl (AB (AS 0 HN (d.id) rfl b1 (fun _ _ _ h=>DY h) fun q5 j9=>(AB (BB U3_ rfl rfl j9 (AB (DB .i64 ((d.ops[k]!).device) d.id rfl rfl (AB (AH (vO (((d.ops[k]!).device) == d.id)) rfl (?_))))))))))))))))))
  cases g9:(((d.ops[k]!).device) == d.id)
  ·have o9:(d.ops[k]!).device≠d.id:=by simpa using g9
   refine AW rfl (AW rfl (AW rfl (AW rfl (AB (BG (vO false) rfl rfl (AD (AA (AP false rfl rfl (fun h=>by cases h) (fun _=>AV (BE (AA (AC kR (AB (CJ .i64 ((k:Nat):Int) (1:Int) (((k+1:Nat):Int)) rfl rfl (EI oM oM) (AB (AH (vI ((k+1:Nat):Int)) rfl (AD (AA (?_)))))))))))))))))))
   exact ⟨_,oM,(k+1),(a4 :: b5),oM,(own_step hrw0_1 (by exact .inl aS)),rfl,⟨_,AQ _ ⟨rfl,rfl,rfl,rfl,(by rfl),rfl,trivial⟩⟩,i1,b1,b2,b6,a2,a5,a9,a0,(by (repeat (first|assumption|apply List.mem_cons_of_mem))),a1,(by (repeat (first|assumption|apply List.mem_cons_of_mem))),(by rw [show ([vI ((FL d.ops d.id (k+1):Nat):Int)]:List Value)=[vI ((FL d.ops d.id k:Nat):Int)] from by rw [cnt_n oM aS]];exact a3),(by (repeat (first|assumption|apply List.mem_cons_of_mem))),a6,(by (repeat (first|assumption|apply List.mem_cons_of_mem)))⟩
  have p0:(d.ops[k]!).device=d.id:=by simpa using g9
  refine BC rfl (AH (vN (.yield b0) #[] #[]) rfl (BC rfl (AU (vs:=[vI ((d.ops[k]!).device),vI ((d.ops[k]!).no),vI ((d.ops[k]!).kind),vI ((d.ops[k]!).copy),vI ((d.ops[k]!).to),vI ((d.ops[k]!).token)]) U40_ rfl CH rfl f3 rfl (wl_yT rfl b0 [vA #[vI ((d.ops[k]!).device),vI ((d.ops[k]!).no),vI ((d.ops[k]!).kind),vI ((d.ops[k]!).copy),vI ((d.ops[k]!).to),vI ((d.ops[k]!).token)]] rfl rfl ?_))))
  refine yields_of h1 a6 rfl (by decide) (AC kR (AB (BW [vI 0,vI 0,vI 0,vI 0,vI 0,vI 0] HV rfl i1 fun a7 g3 m7 m8 c9 e5 k0=>(?_))))
  have k1:CU b4 a7:=by show b4≠a7;have:=a0.lt;omega
  have k2:CU a8 a7:=by show a8≠a7;have:=a1.lt;omega
  have k3:CU b3 a7:=by show b3≠a7;have:=a3.lt;omega
  have h0:CU b0 a7:=by show b0≠a7;have:=a6.lt;omega
  have p1:CU a4 a7:=by show a4≠a7;have:=f3.lt;omega
  clear m7
  have b6:Enc.device.rd g3 ((a7 :: (a4 :: b5))++O) d_cs (d):=Enc.mv Enc.device (x:=d) b6 c9
  have a2:=a2.mv c9
  have a5:Enc.device.rd g3 ((a7 :: (a4 :: b5))++O) b7 (d):=Enc.mv Enc.device (x:=d) a5 c9
  have a9:Enc.device.rd g3 ((a7 :: (a4 :: b5))++O) b8 (d):=Enc.mv Enc.device (x:=d) a9 c9
  have b1:=b1.mv c9
  have b2:=b2.mv c9
  have a0:=a0.keep e5 (by simp)
  have a1:=a1.keep e5 (by simp)
  have a3:=a3.keep e5 (by simp)
  have a6:=a6.keep e5 (by simp)
  refine BU (AR (vs:=[vI ((d.ops[k]!).device),vI ((d.ops[k]!).no),vI ((d.ops[k]!).kind),vI ((d.ops[k]!).copy),vI ((d.ops[k]!).to),vI ((d.ops[k]!).token)]) (.agg #[vI ((d.ops[k]!).device),vI ((d.ops[k]!).no),vI ((d.ops[k]!).kind),vI ((d.ops[k]!).copy),vI ((d.ops[k]!).to),vI ((d.ops[k]!).token)]) rfl rfl rfl CH (fun u hu=>by simp only [List.mem_cons,List.not_mem_nil,or_false] at hu;rcases hu with rfl|rfl|rfl|rfl|rfl|rfl <;> rfl) (by repeat (constructor)) k0 oT m8 fun e6 m9 d0 e7 f4=>(?_))
  have b6:Enc.device.rd e6 ((a7 :: (a4 :: b5))++O) d_cs (d):=Enc.mv Enc.device (x:=d) b6 d0
  have a2:=a2.mv d0
  have a5:Enc.device.rd e6 ((a7 :: (a4 :: b5))++O) b7 (d):=Enc.mv Enc.device (x:=d) a5 d0
  have a9:Enc.device.rd e6 ((a7 :: (a4 :: b5))++O) b8 (d):=Enc.mv Enc.device (x:=d) a9 d0
  have b1:=b1.mv d0
  have b2:=b2.mv d0
  have a0:=a0.keep e7 (AT k1)
  have a1:=a1.keep e7 (AT k2)
  have a3:=a3.keep e7 (AT k3)
  have a6:=a6.keep e7 (AT h0)
  refine AD (AA (⟨a6,fun e8 d1 c4=>?_⟩))
  have i2:=m9.keepB d1 rC
  have d2:Mv (a7 :: (a4 :: b5)) e6 (a7 :: (a4 :: b5)) e8:=Mv.keepB d1 rC
  have b6:Enc.device.rd e8 ((a7 :: (a4 :: b5))++O) d_cs (d):=Enc.mv Enc.device (x:=d) b6 d2
  have a2:=a2.mv d2
  have a5:Enc.device.rd e8 ((a7 :: (a4 :: b5))++O) b7 (d):=Enc.mv Enc.device (x:=d) a5 d2
  have a9:Enc.device.rd e8 ((a7 :: (a4 :: b5))++O) b8 (d):=Enc.mv Enc.device (x:=d) a9 d2
  have b1:=b1.mv d2
  have b2:=b2.mv d2
  have a0:=a0.keep d1 (AT c6)
  have a1:=a1.keep d1 (AT b9.2)
  have a3:=a3.keep d1 (AT c5.2)
  have f4:=f4.keep d1 (AT (Ne.symm h0))
  refine BP (AF (AF (AC kR (AB (AM 1 GZ rfl (AB (BA U3_ rfl (vI ((d.ops[k]!).no)) rfl f4 rfl (AB (DZ CO rfl (AB (AS 1 FT (d.counter) rfl a2 (fun _ _ _ h=>DN h) fun q6 k4=>(AB (BB U3_ rfl rfl k4 (AB (HC .i64 ((d.ops[k]!).no) d.counter rfl rfl (AD (AA (AP (decide (d.counter<(d.ops[k]!).no)) rfl rfl (fun f5=>?_) (fun f5=>?_)))))))))))))))))))
  ·have p2:d.counter<(d.ops[k]!).no:=by simpa using f5
   refine AF (AC kR (BU (CS (vO false) rfl rfl rfl s_4 rC a1 oT i2 fun q7 n0 q8 i3 c2=>(?_))))
   have a0:=a0.keep i3 (AT (Ne.symm b9.1))
   have c4:=c4.keep i3 (AT (Ne.symm b9.2))
   refine AD (AA (AN (AO (BK (round_r c4 (fun q9 g4 k5=>?_))))))
   have n1:=n0.keepB g4 rC
   have a0:=a0.keep g4 (AT c6)
   have c2:=c2.keep g4 (AT b9.2)
   have a6:=k5
   refine BC rfl (EF false rfl (AB (BF (vO true) rfl rfl (AD (AA (AP true rfl rfl (fun _=>AN (BK (AO (AO (BK (AY rfl (res0 rfl) (⟨⟨_,rfl⟩,?_⟩))))))) (fun h=>by cases h)))))))
   refine ⟨.done,(some (.ret)),by simp,a6,fun r0 g5=>?_⟩
   have n2:=n1.keepB g5 rC
   have a0:=a0.keep g5 (AT c6)
   have c2:=c2.keep g5 (AT b9.2)
   refine AN (BK (AO (endM_rm rfl a0 (fun r1 i4=>?_))))
   have n3:=n2.keepB i4 rC
   have c2:=c2.keep i4 (AT b9.1)
   refine ⟨_,resc rfl rfl U4_ rfl rfl c2 rfl,?_⟩
   have e:(CF d)=false:=by exact whole_over (k:=k) oM aS oM
   exact ⟨_,rfl,n3.keep,(by exact congrArg vO e.symm)⟩
  have p3:(d.ops[k]!).no≤d.counter:=by simpa using f5
  refine AV (AA (AC kR (AB (BA U3_ rfl (vI ((FL d.ops d.id k:Nat):Int)) rfl a3 rfl (AB (CJ .i64 ((FL d.ops d.id k:Nat):Int) (1:Int) (((FL d.ops d.id k+1:Nat):Int)) rfl rfl (EI (by have:=cnt_lek d.ops d.id k;omega) oM) (BU (CS (vI ((FL d.ops d.id k+1:Nat):Int)) rfl rfl rfl s_3 rC a3 oT i2 fun e9 n4 d3 g6 f6=>(?_)))))))))
  have b6:Enc.device.rd e9 ((a7 :: (a4 :: b5))++O) d_cs (d):=Enc.mv Enc.device (x:=d) b6 d3
  have a2:=a2.mv d3
  have a5:Enc.device.rd e9 ((a7 :: (a4 :: b5))++O) b7 (d):=Enc.mv Enc.device (x:=d) a5 d3
  have a9:Enc.device.rd e9 ((a7 :: (a4 :: b5))++O) b8 (d):=Enc.mv Enc.device (x:=d) a9 d3
  have b1:=b1.mv d3
  have b2:=b2.mv d3
  have a0:=a0.keep g6 (AT (Ne.symm c5.1))
  have a1:=a1.keep g6 (AT g7)
  have c4:=c4.keep g6 (AT (Ne.symm c5.2))
  refine AD (BE (round_n c4 (fun f0 d7 k6=>?_)))
  have n5:=n4.keepB d7 rC
  have d4:Mv (a7 :: (a4 :: b5)) e9 (a7 :: (a4 :: b5)) f0:=Mv.keepB d7 rC
  have b6:Enc.device.rd f0 ((a7 :: (a4 :: b5))++O) d_cs (d):=Enc.mv Enc.device (x:=d) b6 d4
  have a2:=a2.mv d4
  have a5:Enc.device.rd f0 ((a7 :: (a4 :: b5))++O) b7 (d):=Enc.mv Enc.device (x:=d) a5 d4
  have a9:Enc.device.rd f0 ((a7 :: (a4 :: b5))++O) b8 (d):=Enc.mv Enc.device (x:=d) a9 d4
  have b1:=b1.mv d4
  have b2:=b2.mv d4
  have a0:=a0.keep d7 (AT c6)
  have a1:=a1.keep d7 (AT b9.2)
  have f6:=f6.keep d7 (AT c5.2)
  have a6:=k6
  refine BC rfl (EF true rfl (AB (BF (vO false) rfl rfl (AD (AA (AP false rfl rfl (fun h=>by cases h) (fun _=>AV (BE (AA (AC kR (AB (CJ .i64 ((k:Nat):Int) (1:Int) (((k+1:Nat):Int)) rfl rfl (EI oM oM) (AB (AH (vI ((k+1:Nat):Int)) rfl (AD (AA (?_)))))))))))))))))
  exact ⟨_,oM,(k+1),(a7 :: (a4 :: b5)),oM,(own_step hrw0_1 (by exact .inr aS)),rfl,⟨_,AQ _ ⟨rfl,rfl,rfl,rfl,(by rfl),rfl,trivial⟩⟩,n5,b1,b2,b6,a2,a5,a9,a0,(by (repeat (first|assumption|apply List.mem_cons_of_mem))),a1,(by (repeat (first|assumption|apply List.mem_cons_of_mem))),(by rw [show ([vI ((FL d.ops d.id (k+1):Nat):Int)]:List Value)=[vI ((FL d.ops d.id k+1:Nat):Int)] from by rw [cnt_y oM aS]];exact f6),(by (repeat (first|assumption|apply List.mem_cons_of_mem))),a6,(by (repeat (first|assumption|apply List.mem_cons_of_mem)))⟩
 have p4:(d.ops.length:Int)≤((k:Nat):Int):=by simpa using f2
 obtain rfl:k=d.ops.length:=by omega
 refine DV (CK (CK (DD (end_n rfl (res0 rfl) (⟨⟨_,rfl⟩,?_⟩)))))
 refine ⟨.ready,none,by simp,a6,fun n6 d8=>?_⟩
 have n7:=j1.keepB d8 (by repeat (assumption))
 have n8:Mv b5 o4 b5 n6:=Mv.keepB d8 (by repeat (assumption))
 have a2:=a2.mv n8
 have a0:=a0.keep d8 (AT c6)
 have a1:=a1.keep d8 (AT b9.2)
 have a3:=a3.keep d8 (AT c5.2)
 refine BE (AA (AF (AC kR (AB (BA U3_ rfl (vI ((FL d.ops d.id d.ops.length:Nat):Int)) rfl a3 rfl (AB (DZ CO rfl (AB (AS 1 FT (d.counter) rfl a2 (fun _ _ _ h=>DN h) fun r2 k7=>(AB (BB U3_ rfl rfl k7 (AB (DB .i64 ((FL d.ops d.id d.ops.length:Nat):Int) d.counter rfl rfl (BU (CS (vO (((FL d.ops d.id d.ops.length:Nat):Int) == d.counter)) rfl rfl rfl s_4 (by repeat (assumption)) a1 oT n7 fun r3 n9 r4 o0 f7=>(?_))))))))))))))))
 have a0:=a0.keep o0 (AT (Ne.symm b9.1))
 refine AD (AA (AN (endM_rm rfl a0 (fun r5 i5=>?_))))
 have o1:=n9.keepB i5 (by repeat (assumption))
 have f7:=f7.keep i5 (AT b9.1)
 refine ⟨_,resc rfl rfl U4_ rfl rfl f7 rfl,?_⟩
 have e:(CF d)=(((FL d.ops d.id d.ops.length:Nat):Int) == d.counter):=by exact whole_end aS hrw0_1
 exact ⟨_,rfl,o1.keep,(by exact congrArg vO e.symm)⟩
set_option maxHeartbeats 4000000 in
set_option maxRecDepth 100000 in
theorem c_new43 {O:List Nat} (id:Int) (w:World) (hO:∀ b∈O,b<w.heap.size):BV Try.prog 20 [vI id] w (fun v w'=>∃ (x0:List Value),v = .tuple #[.agg x0.toArray,vI ((CA id).2)]∧Enc.device.rd w' (O) x0 ((CA id).1)):= by
 have s0:St w O w []:=St.start hO
 refine BI 13 Try.func20 rfl rfl oT (fun F0=>AF (AC kR (AB (BW [vI 0,vI 0,nS,vO false] HJ rfl s0 fun a2 c4 a8 a3 c5 c6 a0=>(?_)))))
 clear a8
 refine AB (AG (vI 0) rfl (AD (AA (AF (AF (AC kR (AB (AH (vI id) rfl (AB (DG .i64 id (0:Int) rfl rfl (AB (AH (vO (decide (id<(0:Int)))) rfl (?_)))))))))))))
 cases a4:(decide (id<(0:Int)))
 ·have b8:(0:Int)≤id:=by simpa using a4
  refine BC rfl (AH (vI id) rfl (BC rfl (IB .i64 id (4:Int) rfl rfl (AB (BG (vO (decide ((4:Int)≤id))) rfl rfl (AD (AA (AP (decide ((4:Int)≤id)) rfl rfl (fun a1=>?_) (fun a1=>?_)))))))))
  ·have b9:(4:Int)≤id:=by simpa using a1
   refine AF (AC kR (AB (AU (vs:=[vI 0,vI 0,nS,vO false]) U31_ rfl BS rfl a0 rfl (BU (AR (vs:=[vI 0,vI 0,nS,vO false]) (.agg #[vI 0,vI 0,nS,vO false]) rfl rfl rfl BS (fun u hu=>by simp only [List.mem_cons,List.not_mem_nil,or_false] at hu;rcases hu with rfl|rfl|rfl|rfl <;> rfl) (by repeat (constructor)) a0 oT a3 fun c7 a9 c8 c9 a5=>(AB (AG (vI 1) rfl (AD (AA (AN (AO (AY rfl (EB rfl (FW (vs:=[vI 0,vI 0,nS,vO false]) rfl U31_ rfl BS rfl a5 rfl) (FX rfl rfl)) (?_)))))))))))))
   have b0:((CA id).1)=(⟨(0:Int),(0:Int),[],false⟩:Device):=by exact congrArg (fun p=>p.1) (show CA id=_ from new_2 aS)
   have b1:((CA id).2)=(1:Int):=by exact congrArg (fun p=>p.2) (show CA id=_ from new_2 aS)
   exact ⟨_,rfl,a9.keep,by rw [b0,b1];exact ⟨[vI 0,vI 0,nS,vO false],rfl,Enc.out (B:=(a2 :: [])) ⟨.slice none 0 0,rfl,(CG.nil _ _ _)⟩⟩⟩
  have c2:id<(4:Int):=by simpa using a1
  refine AV (AA (AF (AC kR (AB (AH (vI id) rfl (AB (DP (l:=[(0, .tmp 11)]) pl_31 HJ rfl [(0,vI id,[vI id])] [vI id,vI 0,nS,vO false] rfl ⟨_,rfl,rfl,oT,rfl⟩ (BU (AR (vs:=[vI id,vI 0,nS,vO false]) (.agg #[vI id,vI 0,nS,vO false]) rfl rfl rfl BS (fun u hu=>by simp only [List.mem_cons,List.not_mem_nil,or_false] at hu;rcases hu with rfl|rfl|rfl|rfl <;> rfl) (by repeat (constructor)) a0 oT a3 fun d0 b2 d1 d2 a6=>(AB (AG (vI 0) rfl (AD (AA (AN (AY rfl (EB rfl (FW (vs:=[vI id,vI 0,nS,vO false]) rfl U31_ rfl BS rfl a6 rfl) (FX rfl rfl)) (?_))))))))))))))))
  have b3:((CA id).1)=(⟨id,(0:Int),[],false⟩:Device):=by exact congrArg (fun p=>p.1) (show CA id=_ from new_3 aS aS)
  have b4:((CA id).2)=(0:Int):=by exact congrArg (fun p=>p.2) (show CA id=_ from new_3 aS aS)
  exact ⟨_,rfl,b2.keep,by rw [b3,b4];exact ⟨[vI id,vI 0,nS,vO false],rfl,Enc.out (B:=(a2 :: [])) ⟨.slice none 0 0,rfl,(CG.nil _ _ _)⟩⟩⟩
 have c3:id<(0:Int):=by simpa using a4
 refine AW rfl (AW rfl (AB (BF (vO true) rfl rfl (AD (AA (AP true rfl rfl (fun _=>AF (AC kR (AB (AU (vs:=[vI 0,vI 0,nS,vO false]) U31_ rfl BS rfl a0 rfl (BU (AR (vs:=[vI 0,vI 0,nS,vO false]) (.agg #[vI 0,vI 0,nS,vO false]) rfl rfl rfl BS (fun u hu=>by simp only [List.mem_cons,List.not_mem_nil,or_false] at hu;rcases hu with rfl|rfl|rfl|rfl <;> rfl) (by repeat (constructor)) a0 oT a3 fun d3 b5 d4 d5 a7=>(AB (AG (vI 1) rfl (AD (AA (AN (AO (AY rfl (EB rfl (FW (vs:=[vI 0,vI 0,nS,vO false]) rfl U31_ rfl BS rfl a7 rfl) (FX rfl rfl)) (?_)))))))))))))) (fun h=>by cases h)))))))
 have b6:((CA id).1)=(⟨(0:Int),(0:Int),[],false⟩:Device):=by exact congrArg (fun p=>p.1) (show CA id=_ from new_1 aS)
 have b7:((CA id).2)=(1:Int):=by exact congrArg (fun p=>p.2) (show CA id=_ from new_1 aS)
 exact ⟨_,rfl,b5.keep,by rw [b6,b7];exact ⟨[vI 0,vI 0,nS,vO false],rfl,Enc.out (B:=(a2 :: [])) ⟨.slice none 0 0,rfl,(CG.nil _ _ _)⟩⟩⟩
set_option maxHeartbeats 4000000 in
set_option maxRecDepth 100000 in
theorem c_backup {O:List Nat} (d_cs:List Value) (d:Device) (w:World) (a5:Enc.device.rd w O d_cs d) (hpre0:d.ops.length≤1000000) (hO:∀ b∈O,b<w.heap.size):BV Try.prog 46 [.agg d_cs.toArray] w (fun v w'=>∃ (x0:Value),v=x0∧CG Enc.devop w' (O) x0 (d.ops)):= by
 have a5:Enc.device.rd w ([]++O) d_cs d:=a5
 have s0:St w O w []:=St.start hO
 refine BI 6 Try.func46 rfl rfl oT (fun F0=>AF (AC kR (AB (CQ (E:=Enc.device) (vA d_cs.toArray) (d_cs) d rfl rfl a5 s0 fun b2 a9 a1 b3 b4 a6=>(AB (AG (nS) rfl (AD (AA (AF (AC kR (AB (AS 2 FC (d.ops) rfl a6 (fun _ _ _ h=>EH h) fun b5 a7=>(AB (IM U26_ rfl rfl a7 fun a3 a2=>(?_)))))))))))))))
 have:=a2.len_le
 refine AB (BD (vs:=[a3]) JY (JR (O:=[]++O) a3 d.ops a9 a2 oM a1.lt) rfl a1 fun a4 b6 b0 b7 b8 b1=>(?_))
 obtain ⟨_,rfl,a8,a0⟩:=b1
 have a0:=a0.rd (O':=[]++O) (fun x hx=>.inl (List.mem_append_right _ hx)) (fun c hc hx=>by have:=a8 c hc;have:=a1.lt c hx;omega)
 have:=a0.len_le
 refine AB (AG (a4) rfl (AD (AA (AN (AY rfl (CM rfl rfl rfl) (?_))))))
 exact ⟨_,rfl,b0.keep,⟨a4,rfl,a0.out⟩⟩
set_option maxHeartbeats 4000000 in
set_option maxRecDepth 100000 in
theorem NE {O:List Nat} (d_cs:List Value) (d:Device) (l_v:Value) (l:List DeviceOp) (w:World) (b1:Enc.device.rd w O d_cs d) (a2:CG Enc.devop w O l_v l) (hpre0:l.length≤1000000) (hO:∀ b∈O,b<w.heap.size):BV Try.prog 47 [.agg d_cs.toArray,l_v] w (fun v w'=>∃ (x0:List Value),v = .agg x0.toArray∧Enc.device.rd w' (O) x0 (BY d l)):= by
 have b1:Enc.device.rd w ([]++O) d_cs d:=b1
 have d2:=a2.len_le
 have a2:CG Enc.devop w ([]++O) l_v l:=a2
 have s0:St w O w []:=St.start hO
 refine BI 10 Try.func47 rfl rfl oT (fun F0=>AF (AC kR (AB (CQ (E:=Enc.device) (vA d_cs.toArray) (d_cs) d rfl rfl b1 s0 fun d3 d4 b6 b7 d5 a3=>(?_)))))
 have a2:=a2.mv b7
 refine AB (BW [vI 0,vI 0,nS,vO false] HJ rfl b6 fun a5 d6 b8 b9 a9 d7 b2=>(?_))
 clear b8
 have a2:=a2.mv a9
 have a3:=a3.mv a9
 refine AD (AA (AF (AC kR (AB (BZ U31_ rfl BS rfl a3 fun d1 b3=>(?_))))))
 obtain ⟨b0,rfl,a7⟩:=b3
 have:=a7.len_le
 refine BU (AR (vs:=[vI d.id,vI d.counter,b0,vO d.halted]) (.agg #[vI d.id,vI d.counter,b0,vO d.halted]) rfl rfl rfl BS (fun u hu=>by simp only [List.mem_cons,List.not_mem_nil,or_false] at hu;rcases hu with rfl|rfl|rfl|rfl <;> first|rfl|exact a7.oneCell) (by repeat (constructor)) b2 oT b9 fun c2 a6 c3 d8 a4=>(?_))
 have a2:=a2.mv c3
 refine AD (AA (AF (AC kR (AB (AH (l_v) rfl (AB (BD (vs:=[l_v]) JY (JR (O:=(a5 :: [])++O) l_v l c2 a2 oM a6.lt) rfl a6 fun a1 d9 c4 e0 c5 c6=>(?_))))))))
 obtain ⟨_,rfl,b4,a0⟩:=c6
 have a0:=a0.rd (O':=(a5 :: [])++O) (fun x hx=>.inl (List.mem_append_right _ hx)) (fun c hc hx=>by have:=b4 c hc;have:=a6.lt c hx;omega)
 have:=a0.len_le
 have a4:=a4.keep c5 (by simp)
 refine AB (AM 2 FC rfl (BU (CS (a1) rfl rfl a0.oneCell s_26 (by repeat (constructor)) a4 oT c4 fun e1 c7 c8 e2 a8=>(?_))))
 have a0:=a0.mv c8
 refine AD (AA (AF (AC kR (AB (AU (vs:=[vI d.id,vI d.counter,a1,vO d.halted]) U31_ rfl BS rfl a8 rfl (BU (AR (vs:=[vI d.id,vI d.counter,a1,vO d.halted]) (.agg #[vI d.id,vI d.counter,a1,vO d.halted]) rfl rfl rfl BS (fun u hu=>by simp only [List.mem_cons,List.not_mem_nil,or_false] at hu;rcases hu with rfl|rfl|rfl|rfl <;> first|rfl|exact a0.oneCell) (by repeat (constructor)) a8 oT c7 fun e3 c9 d0 e4 b5=>(?_))))))))
 have a0:=a0.mv d0
 refine AD (AA (AN (AY rfl (GF (vs:=[vI d.id,vI d.counter,a1,vO d.halted]) rfl rfl U31_ rfl BS rfl b5 rfl) (?_))))
 have e:(BY d l)=(⟨d.id,d.counter,l,d.halted⟩:Device):=rfl
 exact ⟨_,rfl,c9.keep,by rw [e];exact ⟨[vI d.id,vI d.counter,a1,vO d.halted],rfl,Enc.out (B:=(a5 :: [])) ⟨_,rfl,a0⟩⟩⟩
set_option maxHeartbeats 4000000 in
set_option maxRecDepth 100000 in
theorem LJ {O:List Nat} (d_cs:List Value) (d:Device) (w:World) (c4:Enc.device.rd w O d_cs d) (hO:∀ b∈O,b<w.heap.size):BV Try.prog 44 [.agg d_cs.toArray] w (fun v w'=>∃ (x0:List Value),v = .tuple #[.agg x0.toArray,vI ((AI d).2)]∧Enc.device.rd w' (O) x0 ((AI d).1)):= by
 have c4:Enc.device.rd w ([]++O) d_cs d:=c4
 have s0:St w O w []:=St.start hO
 refine BI 24 Try.func44 rfl rfl oT (fun F0=>AF (AC kR (AB (CQ (E:=Enc.device) (vA d_cs.toArray) (d_cs) d rfl rfl c4 s0 fun h5 h6 d4 h7 h8 a3=>(AB (BW [vI 0,vI 0,nS,vO false] HJ rfl d4 fun a5 h9 d5 d6 d7 i0 a1=>(?_)))))))
 clear d5
 have a3:=a3.mv d7
 refine AB (AG (vI 0) rfl (AD (AA (AF (AC kR (AB (BZ U31_ rfl BS rfl a3 fun g7 c5=>(?_))))))))
 obtain ⟨a2,rfl,a0⟩:=c5
 have:=a0.len_le
 refine AB (DP (l:=[(0, .tmp 5)]) pl_112 ND rfl [(0,vA #[vI d.id,vI d.counter,a2,vO d.halted],[vI d.id,vI d.counter,a2,vO d.halted])] [vI d.id,vI d.counter,a2,vO d.halted] rfl ⟨_,rfl,rfl,oT,rfl⟩ (AB (BW [vI 0,vI 0,nS,vO false] ND rfl d6 fun a6 i1 d8 d9 b4 e0 c6=>(?_))))
 have b0:CU a5 a6:=by show a5≠a6;have:=a1.lt;omega
 clear d8
 have a3:=a3.mv b4
 have a0:=a0.mv b4
 have a1:=a1.keep e0 (by simp)
 refine BU (AR (vs:=[vI d.id,vI d.counter,a2,vO d.halted]) (.agg #[vI d.id,vI d.counter,a2,vO d.halted]) rfl rfl rfl IS (fun u hu=>by simp only [List.mem_cons,List.not_mem_nil,or_false] at hu;rcases hu with rfl|rfl|rfl|rfl <;> first|rfl|exact a0.oneCell) (by repeat (constructor)) c6 oT d9 fun e1 b5 b6 e2 a4=>(?_))
 have a3:=a3.mv b6
 have a0:=a0.mv b6
 have a1:=a1.keep e2 (AT b0)
 refine AD (AA (AF (AF (AC kR (AB (AU (vs:=[vI d.id,vI d.counter,a2,vO d.halted]) U112_ rfl IS rfl a4 rfl (AB (BD (vs:=[vA #[vI d.id,vI d.counter,a2,vO d.halted]]) LQ (MN (O:=(a6 :: (a5 :: []))++O) [vI d.id,vI d.counter,a2,vO d.halted] d e1 ⟨_,rfl,a0⟩ b5.lt) rfl b5 fun i2 e3 a8 b7 b8 e4=>(?_)))))))))
 obtain rfl:=e4
 have a3:=a3.mv b7
 have a0:=a0.mv b7
 have a1:=a1.keep b8 (by simp)
 have a4:=a4.keep b8 (by simp)
 refine AB (EF (BX d) rfl (AD (AA (AP (!(BX d)) rfl rfl (fun b1=>?_) (fun b1=>?_)))))
 ·have g8:(BX d)=false:=by simpa using b1
  refine AF (AC kR (AB (AU (vs:=[vI 0,vI 0,nS,vO false]) U31_ rfl BS rfl a1 rfl (BU (AR (vs:=[vI 0,vI 0,nS,vO false]) (.agg #[vI 0,vI 0,nS,vO false]) rfl rfl rfl BS (fun u hu=>by simp only [List.mem_cons,List.not_mem_nil,or_false] at hu;rcases hu with rfl|rfl|rfl|rfl <;> rfl) (by repeat (constructor)) a1 oT a8 fun i3 e5 i4 i5 c7=>(AB (AG (vI 420) rfl (AD (AA (AN (AO (AY rfl (EB rfl (FW (vs:=[vI 0,vI 0,nS,vO false]) rfl U31_ rfl BS rfl c7 rfl) (FX rfl rfl)) (?_)))))))))))))
  have e6:((AI d).1)=(⟨(0:Int),(0:Int),[],false⟩:Device):=by exact congrArg (fun p=>p.1) (show AI d=_ from start_1 aS)
  have e7:((AI d).2)=(420:Int):=by exact congrArg (fun p=>p.2) (show AI d=_ from start_1 aS)
  exact ⟨_,rfl,e5.keep,by rw [e6,e7];exact ⟨[vI 0,vI 0,nS,vO false],rfl,Enc.out (B:=(a6 :: (a5 :: []))) ⟨.slice none 0 0,rfl,(CG.nil _ _ _)⟩⟩⟩
 have g9:(BX d)=true:=by simpa using b1
 refine AV (AA (AF (AF (AC kR (AB (AM 0 CO rfl (AB (AM 3 IG rfl (AB (BA U4_ rfl (vO d.halted) rfl a4 rfl (AB (AH (vO d.halted) rfl (?_)))))))))))))
 cases b3:(d.halted)
 ·have h0:d.halted=false:=by simpa using b3
  refine BC rfl (AU (vs:=[vI d.id,vI d.counter,a2,vO d.halted]) U112_ rfl IS rfl a4 rfl (BC rfl (BD (vs:=[vA #[vI d.id,vI d.counter,a2,vO d.halted]]) MQ (c_whole (O:=(a6 :: (a5 :: []))++O) [vI d.id,vI d.counter,a2,vO d.halted] d e3 ⟨_,rfl,a0⟩ a8.lt) rfl a8 fun i6 i7 b9 c2 c3 e8=>(?_))))
  obtain rfl:=e8
  have a3:=a3.mv c2
  have a0:=a0.mv c2
  have a1:=a1.keep c3 (by simp)
  have a4:=a4.keep c3 (by simp)
  refine BC rfl (EF (CF d) rfl (AB (BG (vO (!(CF d))) rfl rfl (AD (AA (AP (!(CF d)) rfl rfl (fun b2=>?_) (fun b2=>?_)))))))
  ·have h1:(CF d)=false:=by simpa using b2
   refine AF (AC kR (AB (AM 0 CO rfl (AB (AM 3 IG rfl (BU (CS (vO true) rfl rfl rfl s_4 (by repeat (constructor)) a4 oT b9 fun i8 e9 f0 f1 c8=>(?_))))))))
   have a0:=a0.mv f0
   have a1:=a1.keep f1 (AT b0)
   refine AD (AA (AF (AC kR (AB (AM 0 CO rfl (AB (AU (vs:=[vI d.id,vI d.counter,a2,vO true]) U31_ rfl BS rfl c8 rfl (BU (AR (vs:=[vI d.id,vI d.counter,a2,vO true]) (.agg #[vI d.id,vI d.counter,a2,vO true]) rfl rfl rfl BS (fun u hu=>by simp only [List.mem_cons,List.not_mem_nil,or_false] at hu;rcases hu with rfl|rfl|rfl|rfl <;> first|rfl|exact a0.oneCell) (by repeat (constructor)) a1 oT e9 fun i9 f2 f3 j0 c9=>(?_))))))))))
   have a0:=a0.mv f3
   refine AB (AG (vI 430) rfl (AD (AA (AN (AO (AY rfl (EB rfl (FW (vs:=[vI d.id,vI d.counter,a2,vO true]) rfl U31_ rfl BS rfl c9 rfl) (FX rfl rfl)) (?_)))))))
   have f4:((AI d).1)=(⟨d.id,d.counter,d.ops,true⟩:Device):=by exact congrArg (fun p=>p.1) (show AI d=_ from IJ aS (.inr aS))
   have f5:((AI d).2)=(430:Int):=by exact congrArg (fun p=>p.2) (show AI d=_ from IJ aS (.inr aS))
   exact ⟨_,rfl,f2.keep,by rw [f4,f5];exact ⟨[vI d.id,vI d.counter,a2,vO true],rfl,Enc.out (B:=(a6 :: (a5 :: []))) ⟨_,rfl,a0⟩⟩⟩
  have h2:(CF d)=true:=by simpa using b2
  refine AV (AA (AF (AC kR (AB (BZ U31_ rfl BS rfl a3 fun h3 d0=>(?_))))))
  obtain ⟨a9,rfl,a7⟩:=d0
  have:=a7.len_le
  refine BU (AR (vs:=[vI d.id,vI d.counter,a9,vO d.halted]) (.agg #[vI d.id,vI d.counter,a9,vO d.halted]) rfl rfl rfl BS (fun u hu=>by simp only [List.mem_cons,List.not_mem_nil,or_false] at hu;rcases hu with rfl|rfl|rfl|rfl <;> first|rfl|exact a7.oneCell) (by repeat (constructor)) a1 oT b9 fun j1 f6 f7 j2 d1=>(?_))
  have a7:=a7.mv f7
  refine AB (AG (vI 0) rfl (AD (AA (AN (AY rfl (EB rfl (FW (vs:=[vI d.id,vI d.counter,a9,vO d.halted]) rfl U31_ rfl BS rfl d1 rfl) (FX rfl rfl)) (?_))))))
  have f8:((AI d).1)=d:=by exact congrArg (fun p=>p.1) (show AI d=_ from start_3 aS aS aS)
  have f9:((AI d).2)=(0:Int):=by exact congrArg (fun p=>p.2) (show AI d=_ from start_3 aS aS aS)
  exact ⟨_,rfl,f6.keep,by rw [f8,f9];exact ⟨[vI d.id,vI d.counter,a9,vO d.halted],rfl,Enc.out (B:=(a6 :: (a5 :: []))) ⟨_,rfl,a7⟩⟩⟩
 have h4:d.halted=true:=by simpa using b3
 refine AW rfl (AW rfl (AW rfl (AB (BF (vO true) rfl rfl (AD (AA (AP true rfl rfl (fun _=>AF (AC kR (AB (AM 0 CO rfl (AB (AM 3 IG rfl (BU (CS (vO true) rfl rfl rfl s_4 (by repeat (constructor)) a4 oT a8 fun j3 g0 g1 g2 d2=>(?_))))))))) (fun h=>by cases h))))))))
 have a0:=a0.mv g1
 have a1:=a1.keep g2 (AT b0)
 refine AD (AA (AF (AC kR (AB (AM 0 CO rfl (AB (AU (vs:=[vI d.id,vI d.counter,a2,vO true]) U31_ rfl BS rfl d2 rfl (BU (AR (vs:=[vI d.id,vI d.counter,a2,vO true]) (.agg #[vI d.id,vI d.counter,a2,vO true]) rfl rfl rfl BS (fun u hu=>by simp only [List.mem_cons,List.not_mem_nil,or_false] at hu;rcases hu with rfl|rfl|rfl|rfl <;> first|rfl|exact a0.oneCell) (by repeat (constructor)) a1 oT g0 fun j4 g3 g4 j5 d3=>(?_))))))))))
 have a0:=a0.mv g4
 refine AB (AG (vI 430) rfl (AD (AA (AN (AO (AY rfl (EB rfl (FW (vs:=[vI d.id,vI d.counter,a2,vO true]) rfl U31_ rfl BS rfl d3 rfl) (FX rfl rfl)) (?_)))))))
 have g5:((AI d).1)=(⟨d.id,d.counter,d.ops,true⟩:Device):=by exact congrArg (fun p=>p.1) (show AI d=_ from IJ aS (.inl aS))
 have g6:((AI d).2)=(430:Int):=by exact congrArg (fun p=>p.2) (show AI d=_ from IJ aS (.inl aS))
 exact ⟨_,rfl,g3.keep,by rw [g5,g6];exact ⟨[vI d.id,vI d.counter,a2,vO true],rfl,Enc.out (B:=(a6 :: (a5 :: []))) ⟨_,rfl,a0⟩⟩⟩
open Go.Fw Go.RowKit
set_option maxHeartbeats 4000000 in
set_option maxRecDepth 100000 in
theorem c_act41 {O:List Nat} (p_cs:List Value) (p:DeviceOp) (o_a:Addr) (o:DeviceOp) (w:World) (a8:Enc.devop.rd w O p_cs p) (a0:PT Enc.devop w O (.pointer (some o_a)) o) (hO:∀ b∈O,b<w.heap.size):BV Try.prog 84 [.agg p_cs.toArray, .pointer (some o_a)] w (fun v _=>v = .bool ((p.kind == 2) && (p.copy == o.copy))):= by
 obtain rfl:=a8
 have a0:PT Enc.devop w ([]++O) (.pointer (some o_a)) o:=a0
 have s0:St w O w []:=St.start hO
 refine BI 14 Try.func84 rfl rfl oT (fun F0=>AF (AC kR (AB (CQ (E:=Enc.devop) (vA #[vI p.device,vI p.no,vI p.kind,vI p.copy,vI p.to,vI p.token]) ([vI p.device,vI p.no,vI p.kind,vI p.copy,vI p.to,vI p.token]) p rfl rfl rfl s0 fun b1 b2 a3 a7 b3 a1=>(?_)))))
 have a0:=a0.mv a7
 refine AB (AG (vO false) rfl (AD (AA (AF (AC kR (AB (AS 2 HM (p.kind) rfl a1 (fun _ _ _ h=>DU h) fun b4 a4=>(AB (BB U3_ rfl rfl a4 (AB (DB .i64 p.kind (2:Int) rfl rfl (AB (AH (vO (p.kind == (2:Int))) rfl (?_))))))))))))))
 cases a2:(p.kind == (2:Int))
 ·have a9:p.kind≠(2:Int):=by simpa using a2
  refine AW rfl (AW rfl (AW rfl (AW rfl (AW rfl (AB (BG (vO false) rfl rfl (AB (AG (vO false) rfl (AD (AA (AN (AY rfl (CM rfl rfl rfl) (?_)))))))))))))
  have e:((p.kind == 2) && (p.copy == o.copy))=false:=by simp [*]
  exact ⟨_,rfl,a3.keep,(by rfl)⟩
 have b0:p.kind=(2:Int):=by simpa using a2
 refine BC rfl (AS 3 FU (p.copy) rfl a1 (fun _ _ _ h=>CR h) fun b5 a5=>(BC rfl (BB U3_ rfl rfl a5 (BC rfl (AS 3 FU (o.copy) rfl a0 (fun _ _ _ h=>CR h) fun b6 a6=>(BC rfl (BB U3_ rfl rfl a6 (BC rfl (DB .i64 p.copy o.copy rfl rfl (AB (BF (vO (p.copy == o.copy)) rfl rfl (AB (AG (vO (p.copy == o.copy)) rfl (AD (AA (AN (AY rfl (CM rfl rfl rfl) (?_))))))))))))))))))
 have e:((p.kind == 2) && (p.copy == o.copy))=(p.copy == o.copy):=by simp [*]
 exact ⟨_,rfl,a3.keep,(by rfl)⟩
set_option maxHeartbeats 4000000 in
set_option maxRecDepth 100000 in
theorem c_act1 {O:List Nat} (crash_a:Addr) (crash:Int) (w:World) (a0:PT Enc.int w O (.pointer (some crash_a)) crash) (hO:∀ b∈O,b<w.heap.size):BV Try.prog 78 [.pointer (some crash_a)] w (fun v _=>v = .bool (decide (0≤crash) && decide (crash≤2))):= by
 have a0:PT Enc.int w ([]++O) (.pointer (some crash_a)) crash:=a0
 have s0:St w O w []:=St.start hO
 refine BI 8 Try.func78 rfl rfl oT (fun F0=>AF (AC kR (AB (AG (vO false) rfl (AD (AA (AF (AC kR (AB (BB U3_ rfl rfl a0 (AB (IB .i64 crash (0:Int) rfl rfl (AB (AH (vO (decide ((0:Int)≤crash))) rfl (?_)))))))))))))))
 cases a1:(decide ((0:Int)≤crash))
 ·have a2:crash<(0:Int):=by simpa using a1
  refine AW rfl (AW rfl (AB (BG (vO false) rfl rfl (AB (AG (vO false) rfl (AD (AA (AN (AY rfl (CM rfl rfl rfl) (?_))))))))))
  have e:(decide (0≤crash) && decide (crash≤2))=false:=by simp [*]
  exact ⟨_,rfl,s0.keep,(by rfl)⟩
 have a3:(0:Int)≤crash:=by simpa using a1
 refine BC rfl (BB U3_ rfl rfl a0 (BC rfl (o_leq .i64 crash (2:Int) rfl rfl (AB (BF (vO (decide (crash≤(2:Int)))) rfl rfl (AB (AG (vO (decide (crash≤(2:Int)))) rfl (AD (AA (AN (AY rfl (CM rfl rfl rfl) (?_))))))))))))
 have e:(decide (0≤crash) && decide (crash≤2))=(decide (crash≤(2:Int))):=by simp [*]
 exact ⟨_,rfl,s0.keep,(by rfl)⟩
set_option maxHeartbeats 4000000 in
set_option maxRecDepth 100000 in
theorem c_act2 {O:List Nat} (d_a:Addr) (d:Device) (w:World) (a2:PT Enc.device w O (.pointer (some d_a)) d) (hO:∀ b∈O,b<w.heap.size):BV Try.prog 80 [.pointer (some d_a)] w (fun v _=>v = .bool (!d.halted && CF d)):= by
 have a2:PT Enc.device w ([]++O) (.pointer (some d_a)) d:=a2
 have s0:St w O w []:=St.start hO
 refine BI 10 Try.func80 rfl rfl oT (fun F0=>AF (AC kR (AB (AG (vO false) rfl (AD (AA (AF (AC kR (AB (DZ CO rfl (AB (AS 3 IG (d.halted) rfl a2 (fun _ _ _ h=>GY h) fun a9 a3=>(AB (LI U4_ rfl rfl a3 (AB (EF d.halted rfl (AB (AH (vO (!d.halted)) rfl (?_)))))))))))))))))))
 cases a0:(!d.halted)
 ·have a7:d.halted=true:=by simpa using a0
  refine AW rfl (AW rfl (AB (BG (vO false) rfl rfl (AB (AG (vO false) rfl (AD (AA (AN (AY rfl (CM rfl rfl rfl) (?_))))))))))
  have e:(!d.halted && CF d)=false:=by simp [*]
  exact ⟨_,rfl,s0.keep,(by rfl)⟩
 have a8:d.halted=false:=by simpa using a0
 refine BC rfl (BZ U112_ rfl IS rfl a2 fun a1 a4=>(BC rfl (BD (vs:=[vA a1.toArray]) MQ (c_whole (O:=[]++O) a1 d w a4 s0.lt) rfl s0 fun b0 b1 a5 b2 b3 a6=>(?_))))
 obtain rfl:=a6
 refine AB (BF (vO (CF d)) rfl rfl (AB (AG (vO (CF d)) rfl (AD (AA (AN (AY rfl (CM rfl rfl rfl) (?_))))))))
 have e:(!d.halted && CF d)=(CF d):=by simp [*]
 exact ⟨_,rfl,a5.keep,(by rfl)⟩
set_option maxHeartbeats 4000000 in
set_option maxRecDepth 100000 in
theorem c_act3 {O:List Nat} (o_a:Addr) (o:DeviceOp) (d_a:Addr) (d:Device) (w:World) (a1:PT Enc.devop w O (.pointer (some o_a)) o) (a2:PT Enc.device w O (.pointer (some d_a)) d) (hpre0:0≤d.counter) (hpre1:d.counter≤65535) (hO:∀ b∈O,b<w.heap.size):BV Try.prog 82 [.pointer (some o_a), .pointer (some d_a)] w (fun v _=>v = .bool ((o.device == d.id) && (o.no == d.counter+1))):= by
 have a1:PT Enc.devop w ([]++O) (.pointer (some o_a)) o:=a1
 have a2:PT Enc.device w ([]++O) (.pointer (some d_a)) d:=a2
 have s0:St w O w []:=St.start hO
 refine BI 18 Try.func82 rfl rfl oT (fun F0=>AF (AC kR (AB (AG (vO false) rfl (AD (AA (AF (AC kR (AB (AS 0 KI (o.device) rfl a1 (fun _ _ _ h=>FN h) fun a9 a3=>(AB (BB U3_ rfl rfl a3 (AB (DZ CO rfl (AB (AS 0 HN (d.id) rfl a2 (fun _ _ _ h=>DY h) fun b0 a4=>(AB (BB U3_ rfl rfl a4 (AB (DB .i64 o.device d.id rfl rfl (AB (AH (vO (o.device == d.id)) rfl (?_)))))))))))))))))))))))
 cases a0:(o.device == d.id)
 ·have a7:o.device≠d.id:=by simpa using a0
  refine AW rfl (AW rfl (AW rfl (AW rfl (AW rfl (AW rfl (AW rfl (AB (BG (vO false) rfl rfl (AB (AG (vO false) rfl (AD (AA (AN (AY rfl (CM rfl rfl rfl) (?_)))))))))))))))
  have e:((o.device == d.id) && (o.no == d.counter+1))=false:=by simp [*]
  exact ⟨_,rfl,s0.keep,(by rfl)⟩
 have a8:o.device=d.id:=by simpa using a0
 refine BC rfl (AS 1 GZ (o.no) rfl a1 (fun _ _ _ h=>DL h) fun b1 a5=>(BC rfl (BB U3_ rfl rfl a5 (BC rfl (DZ CO rfl (BC rfl (AS 1 FT (d.counter) rfl a2 (fun _ _ _ h=>DN h) fun b2 a6=>(BC rfl (BB U3_ rfl rfl a6 (BC rfl (CJ .i64 d.counter (1:Int) (d.counter+1) rfl rfl (EI oM rfl) (BC rfl (DB .i64 o.no (d.counter+1) rfl rfl (AB (BF (vO (o.no == (d.counter+1))) rfl rfl (AB (AG (vO (o.no == (d.counter+1))) rfl (AD (AA (AN (AY rfl (CM rfl rfl rfl) (?_))))))))))))))))))))))
 have e:((o.device == d.id) && (o.no == d.counter+1))=(o.no == (d.counter+1)):=by simp [*]
 exact ⟨_,rfl,s0.keep,(by rfl)⟩
set_option maxHeartbeats 4000000 in
set_option maxRecDepth 100000 in
theorem c_act4 {O:List Nat} (d_a:Addr) (d:Device) (o_a:Addr) (o:DeviceOp) (w:World) (a2:PT Enc.device w O (.pointer (some d_a)) d) (a3:PT Enc.devop w O (.pointer (some o_a)) o) (hO:∀ b∈O,b<w.heap.size):BV Try.prog 83 [.pointer (some d_a), .pointer (some o_a)] w (fun v _=>v = .bool (!DX d.ops o)):= by
 have a2:PT Enc.device w ([]++O) (.pointer (some d_a)) d:=a2
 have a3:PT Enc.devop w ([]++O) (.pointer (some o_a)) o:=a3
 have s0:St w O w []:=St.start hO
 refine BI 9 Try.func83 rfl rfl oT (fun F0=>AF (AC kR (AB (AG (vO false) rfl (AD (AA (AF (AC kR (AB (DZ CO rfl (AB (AS 2 FC (d.ops) rfl a2 (fun _ _ _ h=>EH h) fun a7 a4=>(AB (IM U26_ rfl rfl a4 fun a1 a0=>(?_)))))))))))))))
 have:=a0.len_le
 refine AB (EE (first:=[]) (captured:=[.tmp 1]) [] [vP (some o_a)] rfl rfl (AB (BD (vs:=[a1,vN (.func 84) #[] #[vP (some o_a)]]) enter_57 (KZ (O:=[]++O) a1 d.ops 84 [vP (some o_a)] (fun x_=>(x_.kind == 2) && (x_.copy == o.copy)) w a0 enter_84 (fun w'_ O'_ kk_ hs_ hl_ x__cs x_ hr_x_ =>c_act41 (O:=O'_) x__cs x_ o_a o w'_ hr_x_ (a3.on hs_ kk_) hl_) s0.lt) rfl s0 fun a8 a9 a5 b0 b1 a6=>(?_))))
 obtain rfl:=a6
 refine AB (EF (d.ops.any (fun x_=>(x_.kind == 2) && (x_.copy == o.copy))) rfl (AB (AG (vO (!(d.ops.any (fun x_=>(x_.kind == 2) && (x_.copy == o.copy))))) rfl (AD (AA (AN (AY rfl (CM rfl rfl rfl) (?_))))))))
 have e:(!DX d.ops o)=(!(d.ops.any (fun x_=>(x_.kind == 2) && (x_.copy == o.copy)))):=rfl
 exact ⟨_,rfl,a5.keep,(by exact congrArg vO e.symm)⟩
set_option maxHeartbeats 4000000 in
set_option maxRecDepth 100000 in
theorem NN {O:List Nat} (d_cs:List Value) (d:Device) (o_cs:List Value) (o:DeviceOp) (crash:Int) (w:World) (o3:Enc.device.rd w O d_cs d) (J4:Enc.devop.rd w O o_cs o) (hO:∀ b∈O,b<w.heap.size):BV Try.prog 40 [.agg d_cs.toArray, .agg o_cs.toArray,vI crash] w (fun v w'=>∃ (x0:List Value),v = .tuple #[.agg x0.toArray,vI ((AK d o crash).2)]∧Enc.device.rd w' (O) x0 ((AK d o crash).1)):= by
 have o3:Enc.device.rd w ([]++O) d_cs d:=o3
 obtain rfl:=J4
 have s0:St w O w []:=St.start hO
 refine BI 68 Try.func40 rfl rfl oT (fun F0=>AF (AC kR (AB (CQ (E:=Enc.device) (vA d_cs.toArray) (d_cs) d rfl rfl o3 s0 fun L9 M0 u1 M1 M2 c5=>(AB (CQ (E:=Enc.devop) (vA #[vI o.device,vI o.no,vI o.kind,vI o.copy,vI o.to,vI o.token]) ([vI o.device,vI o.no,vI o.kind,vI o.copy,vI o.to,vI o.token]) o rfl rfl rfl u1 fun b6 M3 u2 u3 M4 a6=>(?_)))))))
 have c5:=c5.mv u3
 refine AB (CQ (E:=Enc.int) (vI crash) ([vI crash]) crash rfl rfl rfl u2 fun c4 M5 u4 m2 M6 a4=>(?_))
 have c5:=c5.mv m2
 have a6:=a6.mv m2
 refine AB (BW [vI 0,vI 0,nS,vO false] HJ rfl u4 fun a5 M7 u5 u6 j1 M8 a0=>(?_))
 clear u5
 have c5:=c5.mv j1
 have a6:=a6.mv j1
 have a4:=a4.mv j1
 refine AB (AG (vI 0) rfl (AD (AA (AF (AC kR (AB (BZ U31_ rfl BS rfl c5 fun J5 o4=>(?_))))))))
 obtain ⟨b2,rfl,a2⟩:=o4
 have:=a2.len_le
 refine AB (DP (l:=[(0, .tmp 13)]) pl_112 ND rfl [(0,vA #[vI d.id,vI d.counter,b2,vO d.halted],[vI d.id,vI d.counter,b2,vO d.halted])] [vI d.id,vI d.counter,b2,vO d.halted] rfl ⟨_,rfl,rfl,oT,rfl⟩ (AB (BW [vI 0,vI 0,nS,vO false] ND rfl u6 fun a1 M9 u7 u9 j2 v0 o5=>(?_))))
 have d2:CU a5 a1:=by show a5≠a1;have:=a0.lt;omega
 clear u7
 have a6:=a6.mv j2
 have a4:=a4.mv j2
 have a2:=a2.mv j2
 have a0:=a0.keep v0 (by simp)
 refine BU (AR (vs:=[vI d.id,vI d.counter,b2,vO d.halted]) (.agg #[vI d.id,vI d.counter,b2,vO d.halted]) rfl rfl rfl IS (fun u hu=>by simp only [List.mem_cons,List.not_mem_nil,or_false] at hu;rcases hu with rfl|rfl|rfl|rfl <;> first|rfl|exact a2.oneCell) (by repeat (constructor)) o5 oT u9 fun N0 v1 j3 v2 a3=>(?_))
 have a6:=a6.mv j3
 have a4:=a4.mv j3
 have a2:=a2.mv j3
 have a0:=a0.keep v2 (AT d2)
 refine AD (AA (AF (AC kR (AB (EE (first:=[]) (captured:=[.tmp 5]) [] [vP (some c4)] rfl rfl (AB (DP (l:=[(0, .tmp 15),(1, .const (vI 1))]) ML HX rfl [(0,vN (.func 78) #[] #[vP (some c4)],[vN (.func 78) #[] #[vP (some c4)]]),(1,vI 1,[vI 1])] [vN (.func 78) #[] #[vP (some c4)],vI 1] rfl ⟨_,rfl,rfl,oT,⟨_,rfl,rfl,oT,rfl⟩⟩ (AB (AU (vs:=[vI d.id,vI d.counter,b2,vO d.halted]) U112_ rfl IS rfl a3 rfl (AB (EE (first:=[.tmp 17]) (captured:=[]) [vA #[vI d.id,vI d.counter,b2,vO d.halted]] [] rfl rfl (AB (DP (l:=[(0, .tmp 18),(1, .const (vI 420))]) ML HX rfl [(0,vN (.func 79) #[vA #[vI d.id,vI d.counter,b2,vO d.halted]] #[],[vN (.func 79) #[vA #[vI d.id,vI d.counter,b2,vO d.halted]] #[]]),(1,vI 420,[vI 420])] [vN (.func 79) #[vA #[vI d.id,vI d.counter,b2,vO d.halted]] #[],vI 420] rfl ⟨_,rfl,rfl,oT,⟨_,rfl,rfl,oT,rfl⟩⟩ (AB (EE (first:=[]) (captured:=[.tmp 8]) [] [vP (some ⟨a1,0,none⟩)] rfl rfl (AB (DP (l:=[(0, .tmp 20),(1, .const (vI 430))]) ML HX rfl [(0,vN (.func 80) #[] #[vP (some ⟨a1,0,none⟩)],[vN (.func 80) #[] #[vP (some ⟨a1,0,none⟩)]]),(1,vI 430,[vI 430])] [vN (.func 80) #[] #[vP (some ⟨a1,0,none⟩)],vI 430] rfl ⟨_,rfl,rfl,oT,⟨_,rfl,rfl,oT,rfl⟩⟩ (AB (EE (first:=[]) (captured:=[.tmp 4, .tmp 8]) [] [vP (some b6),vP (some ⟨a1,0,none⟩)] rfl rfl (AB (DP (l:=[(0, .tmp 22),(1, .const (vI 420))]) ML HX rfl [(0,vN (.func 82) #[] #[vP (some b6),vP (some ⟨a1,0,none⟩)],[vN (.func 82) #[] #[vP (some b6),vP (some ⟨a1,0,none⟩)]]),(1,vI 420,[vI 420])] [vN (.func 82) #[] #[vP (some b6),vP (some ⟨a1,0,none⟩)],vI 420] rfl ⟨_,rfl,rfl,oT,⟨_,rfl,rfl,oT,rfl⟩⟩ (AB (EE (first:=[]) (captured:=[.tmp 8, .tmp 4]) [] [vP (some ⟨a1,0,none⟩),vP (some b6)] rfl rfl (AB (DP (l:=[(0, .tmp 24),(1, .const (vI 420))]) ML HX rfl [(0,vN (.func 83) #[] #[vP (some ⟨a1,0,none⟩),vP (some b6)],[vN (.func 83) #[] #[vP (some ⟨a1,0,none⟩),vP (some b6)]]),(1,vI 420,[vI 420])] [vN (.func 83) #[] #[vP (some ⟨a1,0,none⟩),vP (some b6)],vI 420] rfl ⟨_,rfl,rfl,oT,⟨_,rfl,rfl,oT,rfl⟩⟩ (AB (MH (E:=(Enc.cells 2)) (xs:=[.tmp 16, .tmp 19, .tmp 21, .tmp 23, .tmp 25]) U114_ GI HX (by decide) [vA #[vN (.func 78) #[] #[vP (some c4)],vI 1],vA #[vN (.func 79) #[vA #[vI d.id,vI d.counter,b2,vO d.halted]] #[],vI 420],vA #[vN (.func 80) #[] #[vP (some ⟨a1,0,none⟩)],vI 430],vA #[vN (.func 82) #[] #[vP (some b6),vP (some ⟨a1,0,none⟩)],vI 420],vA #[vN (.func 83) #[] #[vP (some ⟨a1,0,none⟩),vP (some b6)],vI 420]] [[vN (.func 78) #[] #[vP (some c4)],vI 1],[vN (.func 79) #[vA #[vI d.id,vI d.counter,b2,vO d.halted]] #[],vI 420],[vN (.func 80) #[] #[vP (some ⟨a1,0,none⟩)],vI 430],[vN (.func 82) #[] #[vP (some b6),vP (some ⟨a1,0,none⟩)],vI 420],[vN (.func 83) #[] #[vP (some ⟨a1,0,none⟩),vP (some b6)],vI 420]] [[vN (.func 78) #[] #[vP (some c4)],vI 1],[vN (.func 79) #[vA #[vI d.id,vI d.counter,b2,vO d.halted]] #[],vI 420],[vN (.func 80) #[] #[vP (some ⟨a1,0,none⟩)],vI 430],[vN (.func 82) #[] #[vP (some b6),vP (some ⟨a1,0,none⟩)],vI 420],[vN (.func 83) #[] #[vP (some ⟨a1,0,none⟩),vP (some b6)],vI 420]] rfl rfl rfl (Parts.cons rfl ⟨rfl,rfl,(fun u hu=>by simp only [List.mem_cons,List.not_mem_nil,or_false] at hu;rcases hu with rfl|rfl <;> rfl)⟩ (Parts.cons rfl ⟨rfl,rfl,(fun u hu=>by simp only [List.mem_cons,List.not_mem_nil,or_false] at hu;rcases hu with rfl|rfl <;> rfl)⟩ (Parts.cons rfl ⟨rfl,rfl,(fun u hu=>by simp only [List.mem_cons,List.not_mem_nil,or_false] at hu;rcases hu with rfl|rfl <;> rfl)⟩ (Parts.cons rfl ⟨rfl,rfl,(fun u hu=>by simp only [List.mem_cons,List.not_mem_nil,or_false] at hu;rcases hu with rfl|rfl <;> rfl)⟩ (Parts.cons rfl ⟨rfl,rfl,(fun u hu=>by simp only [List.mem_cons,List.not_mem_nil,or_false] at hu;rcases hu with rfl|rfl <;> rfl)⟩ (Parts.nil _ _ _)))))) oT v1 fun m3 N1 v3 j4 m4 b0=>(?_))))))))))))))))))))))))))))
 have a6:=a6.mv j4
 have a4:=a4.mv j4
 have a2:=a2.mv j4
 have a0:=a0.keep m4 (by simp)
 have a3:=a3.keep m4 (by simp)
 refine AB (AG (m3) rfl (AD (AA (AF (AF (AC kR (AB (AH (m3) rfl (AB (DI U114_ rfl b0 (AB (AH (vI 0) rfl (AD (AA (BP (cw_unroll 6 (HG ?_)))))))))))))))))
 refine AF (AC kR (AB (DG .i64 (0:Int) (5:Int) rfl rfl (AD (AA (AF (AP true rfl rfl (fun _=>AV (AA (AF (BP (AF (AC kR (AB (DO U114_ GI .i64 (0:Int) 0 rfl rfl rfl b0 (show 0<5 by decide) fun N2 o6=>(AB (BZ U113_ rfl GI rfl o6 fun o7 o8=>(?_))))))))))) (fun h=>by cases h))))))))
 obtain rfl:o7=[vN (.func 78) #[] #[vP (some c4)],vI 1]:=o8.1
 refine AB (BW [Value.nilFunc,vI 0] HX rfl v3 fun a8 N3 v4 v5 f2 m5 o9=>(?_))
 have h2:CU a5 a8:=by show a5≠a8;have:=a0.lt;omega
 have p0:CU a1 a8:=by show a1≠a8;have:=a3.lt;omega
 clear v4
 have a6:=a6.mv f2
 have a4:=a4.mv f2
 have b0:=b0.mv f2
 have a2:=a2.mv f2
 have a0:=a0.keep m5 (by simp)
 have a3:=a3.keep m5 (by simp)
 refine BU (AR (vs:=[vN (.func 78) #[] #[vP (some c4)],vI 1]) (.agg #[vN (.func 78) #[] #[vP (some c4)],vI 1]) rfl rfl rfl GI (fun u hu=>by simp only [List.mem_cons,List.not_mem_nil,or_false] at hu;rcases hu with rfl|rfl <;> rfl) (by repeat (constructor)) o9 oT v5 fun v6 m6 f3 m7 a7=>(?_))
 have a6:=a6.mv f3
 have a4:=a4.mv f3
 have b0:=b0.mv f3
 have a2:=a2.mv f3
 have a0:=a0.keep m7 (AT h2)
 have a3:=a3.keep m7 (AT p0)
 refine AD (AA (AF (AC kR (AB (AM 0 JV rfl (AB (BA U23_ rfl (vN (.func 78) #[] #[vP (some c4)]) rfl a7 rfl (AB (EW (vs:=[vP (some c4)]) [] [vP (some c4)] [] enter_78 rfl (c_act1 (O:=(a8 :: (a1 :: (a5 :: [])))++O) c4 crash v6 a4 m6.lt) rfl rfl m6 fun N4 m8 f4 f5 j5 v7=>(?_))))))))))
 obtain rfl:=v7
 have a6:=a6.mv f5
 have a4:=a4.mv f5
 have b0:=b0.mv f5
 have a2:=a2.mv f5
 have a0:=a0.keep j5 (by simp)
 have a3:=a3.keep j5 (by simp)
 have a7:=a7.keep j5 (by simp)
 refine AB (EF (decide (0≤crash) && decide (crash≤2)) rfl (AD (AA (AP (!(decide (0≤crash) && decide (crash≤2))) rfl rfl (fun d3=>?_) (fun d3=>?_)))))
 ·have J6:(decide (0≤crash) && decide (crash≤2))=false:=by (have e:=d3;rw [Bool.not_eq_true'] at e;exact e)
  refine AF (IF 3 [1,2] _ _ _ [CT (vA #[vI 0,vI 0,nS,vO false]),CT (vP (some ⟨a8,1,none⟩)),CT (vI 1)] kR kR kR kR (by decide) rfl rfl rfl ⟨kI,kI,kI,trivial⟩ ⟨?_,?_,?_,trivial⟩ ?_ ?_)
  ·intro F1 w1 k1 hf hd
   have k0:=(Keep.drew [] m8).trans k1
   have a0:=a0.keep k0 (by simp)
   obtain ⟨F2,rfl⟩:=AL (F:=F1) [(6,vP (some ⟨a5,0,none⟩))] ⟨hf 6 kR,trivial⟩
   exact AJ rfl ((AU (vs:=[vI 0,vI 0,nS,vO false]) U31_ rfl BS rfl a0 rfl (⟨(Keep.refl _ _),rfl⟩)))
  ·intro F1 w1 k1 hf hd
   obtain ⟨F2,rfl⟩:=AL (F:=F1) [(11,vP (some ⟨a8,0,none⟩))] ⟨hf 11 kR,trivial⟩
   exact AJ rfl ((AM 1 GC rfl (⟨(Keep.refl _ _),rfl⟩)))
  ·intro F1 w1 k1 hf hd
   have k0:=(Keep.drew [] m8).trans k1
   have a7:=a7.keep k0 (by simp)
   obtain ⟨F2,rfl⟩:=AL (F:=F1) [(38,vP (some ⟨a8,1,none⟩))] ⟨hd 1 38 kR,trivial⟩
   exact AJ rfl ((BA U32_ rfl (vI 1) rfl a7 rfl (⟨(Keep.refl _ _),rfl⟩)))
  ·intro v8 N5 m9 h3 d4
   have v9:=f4.call m9
   have a0:=a0.keep m9 (by simp)
   obtain ⟨F2,rfl⟩:=AL (F:=v8) [(6,vP (some ⟨a5,0,none⟩)),(7,vI 0),(68,undef),(37,vA #[vI 0,vI 0,nS,vO false]),(39,vI 1)] ⟨d4 6 kR,d4 7 kR,d4 68 kR,h3 0 37 kR (by decide),h3 2 39 kR (by decide),trivial⟩
   clear h3 d4
   refine BU (AR (vs:=[vI 0,vI 0,nS,vO false]) (.agg #[vI 0,vI 0,nS,vO false]) rfl rfl rfl BS (fun u hu=>by simp only [List.mem_cons,List.not_mem_nil,or_false] at hu;rcases hu with rfl|rfl|rfl|rfl <;> rfl) (by repeat (constructor)) a0 oT v9 fun N6 w0 N7 N8 p1=>(AB (AG (vI 1) rfl (AD (AA (AN (BK (AO (AO (BK (AO (AY rfl (EB rfl (FW (vs:=[vI 0,vI 0,nS,vO false]) rfl U31_ rfl BS rfl p1 rfl) (FX rfl rfl)) (?_)))))))))))))
   have w2:((AK d o crash).1)=(⟨(0:Int),(0:Int),[],false⟩:Device):=by exact congrArg (fun p=>p.1) (show AK d o crash=_ from KK aS)
   have w3:((AK d o crash).2)=(1:Int):=by exact congrArg (fun p=>p.2) (show AK d o crash=_ from KK aS)
   exact ⟨_,rfl,w0.keep,by rw [w2,w3];exact ⟨[vI 0,vI 0,nS,vO false],rfl,Enc.out (B:=(a8 :: (a1 :: (a5 :: [])))) ⟨.slice none 0 0,rfl,(CG.nil _ _ _)⟩⟩⟩
  intro cx_ hcx_
  match cx_,hcx_ with
  | 0,_=>
   intro w4 N9 j6 l6 c6
   have w5:=f4.call j6
   have a0:=a0.keep j6 (by simp)
   have a7:=a7.keep j6 (by simp)
   obtain ⟨F2,rfl⟩:=AL (F:=w4) [(6,vP (some ⟨a5,0,none⟩)),(7,vI 0),(11,vP (some ⟨a8,0,none⟩)),(68,undef),(37,vA #[vI 0,vI 0,nS,vO false])] ⟨c6 6 kR,c6 7 kR,c6 11 kR,c6 68 kR,l6 0 37 kR (by decide) (by decide),trivial⟩
   clear l6 c6
   refine BU (AR (vs:=[vI 0,vI 0,nS,vO false]) (.agg #[vI 0,vI 0,nS,vO false]) rfl rfl rfl BS (fun u hu=>by simp only [List.mem_cons,List.not_mem_nil,or_false] at hu;rcases hu with rfl|rfl|rfl|rfl <;> rfl) (by repeat (constructor)) a0 oT w5 fun O0 w6 O1 w7 p2=>(?_))
   have a7:=a7.keep w7 (AT (Ne.symm h2))
   refine AB (AM 1 GC rfl (AB (BA U32_ rfl (vI 1) rfl a7 rfl (AB (AG (vI 1) rfl (AD (AA (AN (BK (AO (AO (BK (AO (AY rfl (EB rfl (FW (vs:=[vI 0,vI 0,nS,vO false]) rfl U31_ rfl BS rfl p2 rfl) (FX rfl rfl)) (?_)))))))))))))))
   have w8:((AK d o crash).1)=(⟨(0:Int),(0:Int),[],false⟩:Device):=by exact congrArg (fun p=>p.1) (show AK d o crash=_ from KK aS)
   have w9:((AK d o crash).2)=(1:Int):=by exact congrArg (fun p=>p.2) (show AK d o crash=_ from KK aS)
   exact ⟨_,rfl,w6.keep,by rw [w8,w9];exact ⟨[vI 0,vI 0,nS,vO false],rfl,Enc.out (B:=(a8 :: (a1 :: (a5 :: [])))) ⟨.slice none 0 0,rfl,(CG.nil _ _ _)⟩⟩⟩
  | 1,_=>
   intro x1 O2 j7 h4 d5
   have x2:=f4.call j7
   have a0:=a0.keep j7 (by simp)
   have a7:=a7.keep j7 (by simp)
   obtain ⟨F2,rfl⟩:=AL (F:=x1) [(6,vP (some ⟨a5,0,none⟩)),(7,vI 0),(68,undef),(37,vA #[vI 0,vI 0,nS,vO false]),(38,vP (some ⟨a8,1,none⟩))] ⟨d5 6 kR,d5 7 kR,d5 68 kR,h4 0 37 kR (by decide) (by decide),h4 1 38 kR (by decide) (by decide),trivial⟩
   clear h4 d5
   refine BU (AR (vs:=[vI 0,vI 0,nS,vO false]) (.agg #[vI 0,vI 0,nS,vO false]) rfl rfl rfl BS (fun u hu=>by simp only [List.mem_cons,List.not_mem_nil,or_false] at hu;rcases hu with rfl|rfl|rfl|rfl <;> rfl) (by repeat (constructor)) a0 oT x2 fun O3 x3 O4 x4 p3=>(?_))
   have a7:=a7.keep x4 (AT (Ne.symm h2))
   refine AB (BA U32_ rfl (vI 1) rfl a7 rfl (AB (AG (vI 1) rfl (AD (AA (AN (BK (AO (AO (BK (AO (AY rfl (EB rfl (FW (vs:=[vI 0,vI 0,nS,vO false]) rfl U31_ rfl BS rfl p3 rfl) (FX rfl rfl)) (?_)))))))))))))
   have x5:((AK d o crash).1)=(⟨(0:Int),(0:Int),[],false⟩:Device):=by exact congrArg (fun p=>p.1) (show AK d o crash=_ from KK aS)
   have x6:((AK d o crash).2)=(1:Int):=by exact congrArg (fun p=>p.2) (show AK d o crash=_ from KK aS)
   exact ⟨_,rfl,x3.keep,by rw [x5,x6];exact ⟨[vI 0,vI 0,nS,vO false],rfl,Enc.out (B:=(a8 :: (a1 :: (a5 :: [])))) ⟨.slice none 0 0,rfl,(CG.nil _ _ _)⟩⟩⟩
 have J7:(decide (0≤crash) && decide (crash≤2))=true:=by simpa using d3
 have hcr:0≤crash∧crash≤2:=by simpa using d3
 refine AV (BE (AA (AC kR (AB (CJ .i64 (0:Int) (1:Int) ((1:Int)) rfl rfl (EI oM oM) (AB (AH (vI 1) rfl (AD (AA (HG ?_))))))))))
 refine AF (AC kR (AB (DG .i64 (1:Int) (5:Int) rfl rfl (AD (AA (AF (AP true rfl rfl (fun _=>AV (AA (AF (BP (AF (AC kR (AB (DO U114_ GI .i64 (1:Int) 1 rfl rfl rfl b0 (show 1<5 by decide) fun O5 p4=>(AB (BZ U113_ rfl GI rfl p4 fun p5 p6=>(?_))))))))))) (fun h=>by cases h))))))))
 obtain rfl:p5=[vN (.func 79) #[vA #[vI d.id,vI d.counter,b2,vO d.halted]] #[],vI 420]:=p6.1
 refine AB (BW [Value.nilFunc,vI 0] HX rfl f4 fun b1 O6 x7 x8 f6 j8 p7=>(?_))
 have h5:CU a5 b1:=by show a5≠b1;have:=a0.lt;omega
 have p8:CU a1 b1:=by show a1≠b1;have:=a3.lt;omega
 have p9:CU a8 b1:=by show a8≠b1;have:=a7.lt;omega
 clear x7
 have a6:=a6.mv f6
 have a4:=a4.mv f6
 have b0:=b0.mv f6
 have a2:=a2.mv f6
 have a0:=a0.keep j8 (by simp)
 have a3:=a3.keep j8 (by simp)
 have a7:=a7.keep j8 (by simp)
 refine BU (AR (vs:=[vN (.func 79) #[vA #[vI d.id,vI d.counter,b2,vO d.halted]] #[],vI 420]) (.agg #[vN (.func 79) #[vA #[vI d.id,vI d.counter,b2,vO d.halted]] #[],vI 420]) rfl rfl rfl GI (fun u hu=>by simp only [List.mem_cons,List.not_mem_nil,or_false] at hu;rcases hu with rfl|rfl <;> rfl) (by repeat (constructor)) p7 oT x8 fun x9 n0 f7 j9 a9=>(?_))
 have a6:=a6.mv f7
 have a4:=a4.mv f7
 have b0:=b0.mv f7
 have a2:=a2.mv f7
 have a0:=a0.keep j9 (AT h5)
 have a3:=a3.keep j9 (AT p8)
 have a7:=a7.keep j9 (AT p9)
 refine AD (AA (AF (AC kR (AB (AM 0 JV rfl (AB (BA U23_ rfl (vN (.func 79) #[vA #[vI d.id,vI d.counter,b2,vO d.halted]] #[]) rfl a9 rfl (AB (EW (vs:=[vA #[vI d.id,vI d.counter,b2,vO d.halted]]) [vA #[vI d.id,vI d.counter,b2,vO d.halted]] [] [] LQ rfl (MN (O:=(b1 :: (a8 :: (a1 :: (a5 :: []))))++O) [vI d.id,vI d.counter,b2,vO d.halted] d x9 ⟨_,rfl,a2⟩ n0.lt) rfl rfl n0 fun O7 n1 f8 f9 g0 y0=>(?_))))))))))
 obtain rfl:=y0
 have a6:=a6.mv f9
 have a4:=a4.mv f9
 have b0:=b0.mv f9
 have a2:=a2.mv f9
 have a0:=a0.keep g0 (by simp)
 have a3:=a3.keep g0 (by simp)
 have a7:=a7.keep g0 (by simp)
 have a9:=a9.keep g0 (by simp)
 refine AB (EF (BX d) rfl (AD (AA (AP (!(BX d)) rfl rfl (fun d6=>?_) (fun d6=>?_)))))
 ·have J8:(BX d)=false:=by simpa using d6
  refine AF (IF 3 [1,2] _ _ _ [CT (vA #[vI 0,vI 0,nS,vO false]),CT (vP (some ⟨b1,1,none⟩)),CT (vI 420)] kR kR kR kR (by decide) rfl rfl rfl ⟨kI,kI,kI,trivial⟩ ⟨?_,?_,?_,trivial⟩ ?_ ?_)
  ·intro F1 w1 k1 hf hd
   have k0:=(Keep.drew [] n1).trans k1
   have a0:=a0.keep k0 (by simp)
   obtain ⟨F2,rfl⟩:=AL (F:=F1) [(6,vP (some ⟨a5,0,none⟩))] ⟨hf 6 kR,trivial⟩
   exact AJ rfl ((AU (vs:=[vI 0,vI 0,nS,vO false]) U31_ rfl BS rfl a0 rfl (⟨(Keep.refl _ _),rfl⟩)))
  ·intro F1 w1 k1 hf hd
   obtain ⟨F2,rfl⟩:=AL (F:=F1) [(11,vP (some ⟨b1,0,none⟩))] ⟨hf 11 kR,trivial⟩
   exact AJ rfl ((AM 1 GC rfl (⟨(Keep.refl _ _),rfl⟩)))
  ·intro F1 w1 k1 hf hd
   have k0:=(Keep.drew [] n1).trans k1
   have a9:=a9.keep k0 (by simp)
   obtain ⟨F2,rfl⟩:=AL (F:=F1) [(38,vP (some ⟨b1,1,none⟩))] ⟨hd 1 38 kR,trivial⟩
   exact AJ rfl ((BA U32_ rfl (vI 420) rfl a9 rfl (⟨(Keep.refl _ _),rfl⟩)))
  ·intro y1 O8 n2 h6 d7
   have y2:=f8.call n2
   have a0:=a0.keep n2 (by simp)
   obtain ⟨F2,rfl⟩:=AL (F:=y1) [(6,vP (some ⟨a5,0,none⟩)),(7,vI 0),(68,undef),(37,vA #[vI 0,vI 0,nS,vO false]),(39,vI 420)] ⟨d7 6 kR,d7 7 kR,d7 68 kR,h6 0 37 kR (by decide),h6 2 39 kR (by decide),trivial⟩
   clear h6 d7
   refine BU (AR (vs:=[vI 0,vI 0,nS,vO false]) (.agg #[vI 0,vI 0,nS,vO false]) rfl rfl rfl BS (fun u hu=>by simp only [List.mem_cons,List.not_mem_nil,or_false] at hu;rcases hu with rfl|rfl|rfl|rfl <;> rfl) (by repeat (constructor)) a0 oT y2 fun O9 y3 P0 P1 q0=>(AB (AG (vI 420) rfl (AD (AA (AN (BK (AO (AO (BK (AO (AY rfl (EB rfl (FW (vs:=[vI 0,vI 0,nS,vO false]) rfl U31_ rfl BS rfl q0 rfl) (FX rfl rfl)) (?_)))))))))))))
   have y4:((AK d o crash).1)=(⟨(0:Int),(0:Int),[],false⟩:Device):=by exact congrArg (fun p=>p.1) (show AK d o crash=_ from NJ hcr.1 hcr.2 aS)
   have y5:((AK d o crash).2)=(420:Int):=by exact congrArg (fun p=>p.2) (show AK d o crash=_ from NJ hcr.1 hcr.2 aS)
   exact ⟨_,rfl,y3.keep,by rw [y4,y5];exact ⟨[vI 0,vI 0,nS,vO false],rfl,Enc.out (B:=(b1 :: (a8 :: (a1 :: (a5 :: []))))) ⟨.slice none 0 0,rfl,(CG.nil _ _ _)⟩⟩⟩
  intro cx_ hcx_
  match cx_,hcx_ with
  | 0,_=>
   intro y6 P2 k2 l7 c7
   have y7:=f8.call k2
   have a0:=a0.keep k2 (by simp)
   have a9:=a9.keep k2 (by simp)
   obtain ⟨F2,rfl⟩:=AL (F:=y6) [(6,vP (some ⟨a5,0,none⟩)),(7,vI 0),(11,vP (some ⟨b1,0,none⟩)),(68,undef),(37,vA #[vI 0,vI 0,nS,vO false])] ⟨c7 6 kR,c7 7 kR,c7 11 kR,c7 68 kR,l7 0 37 kR (by decide) (by decide),trivial⟩
   clear l7 c7
   refine BU (AR (vs:=[vI 0,vI 0,nS,vO false]) (.agg #[vI 0,vI 0,nS,vO false]) rfl rfl rfl BS (fun u hu=>by simp only [List.mem_cons,List.not_mem_nil,or_false] at hu;rcases hu with rfl|rfl|rfl|rfl <;> rfl) (by repeat (constructor)) a0 oT y7 fun P3 y8 P4 y9 q1=>(?_))
   have a9:=a9.keep y9 (AT (Ne.symm h5))
   refine AB (AM 1 GC rfl (AB (BA U32_ rfl (vI 420) rfl a9 rfl (AB (AG (vI 420) rfl (AD (AA (AN (BK (AO (AO (BK (AO (AY rfl (EB rfl (FW (vs:=[vI 0,vI 0,nS,vO false]) rfl U31_ rfl BS rfl q1 rfl) (FX rfl rfl)) (?_)))))))))))))))
   have z0:((AK d o crash).1)=(⟨(0:Int),(0:Int),[],false⟩:Device):=by exact congrArg (fun p=>p.1) (show AK d o crash=_ from NJ hcr.1 hcr.2 aS)
   have z1:((AK d o crash).2)=(420:Int):=by exact congrArg (fun p=>p.2) (show AK d o crash=_ from NJ hcr.1 hcr.2 aS)
   exact ⟨_,rfl,y8.keep,by rw [z0,z1];exact ⟨[vI 0,vI 0,nS,vO false],rfl,Enc.out (B:=(b1 :: (a8 :: (a1 :: (a5 :: []))))) ⟨.slice none 0 0,rfl,(CG.nil _ _ _)⟩⟩⟩
  | 1,_=>
   intro z2 P5 k3 h7 d8
   have z3:=f8.call k3
   have a0:=a0.keep k3 (by simp)
   have a9:=a9.keep k3 (by simp)
   obtain ⟨F2,rfl⟩:=AL (F:=z2) [(6,vP (some ⟨a5,0,none⟩)),(7,vI 0),(68,undef),(37,vA #[vI 0,vI 0,nS,vO false]),(38,vP (some ⟨b1,1,none⟩))] ⟨d8 6 kR,d8 7 kR,d8 68 kR,h7 0 37 kR (by decide) (by decide),h7 1 38 kR (by decide) (by decide),trivial⟩
   clear h7 d8
   refine BU (AR (vs:=[vI 0,vI 0,nS,vO false]) (.agg #[vI 0,vI 0,nS,vO false]) rfl rfl rfl BS (fun u hu=>by simp only [List.mem_cons,List.not_mem_nil,or_false] at hu;rcases hu with rfl|rfl|rfl|rfl <;> rfl) (by repeat (constructor)) a0 oT z3 fun P6 z4 P7 z5 q2=>(?_))
   have a9:=a9.keep z5 (AT (Ne.symm h5))
   refine AB (BA U32_ rfl (vI 420) rfl a9 rfl (AB (AG (vI 420) rfl (AD (AA (AN (BK (AO (AO (BK (AO (AY rfl (EB rfl (FW (vs:=[vI 0,vI 0,nS,vO false]) rfl U31_ rfl BS rfl q2 rfl) (FX rfl rfl)) (?_)))))))))))))
   have z6:((AK d o crash).1)=(⟨(0:Int),(0:Int),[],false⟩:Device):=by exact congrArg (fun p=>p.1) (show AK d o crash=_ from NJ hcr.1 hcr.2 aS)
   have z7:((AK d o crash).2)=(420:Int):=by exact congrArg (fun p=>p.2) (show AK d o crash=_ from NJ hcr.1 hcr.2 aS)
   exact ⟨_,rfl,z4.keep,by rw [z6,z7];exact ⟨[vI 0,vI 0,nS,vO false],rfl,Enc.out (B:=(b1 :: (a8 :: (a1 :: (a5 :: []))))) ⟨.slice none 0 0,rfl,(CG.nil _ _ _)⟩⟩⟩
 have J9:(BX d)=true:=by simpa using d6
 have hfm:BX d=true:=by simpa using d6
 have hfb:=formed_b hfm
 have hchk:=formed_ok hfm
 refine AV (BE (AA (AC kR (AB (CJ .i64 (1:Int) (1:Int) ((2:Int)) rfl rfl (EI oM oM) (AB (AH (vI 2) rfl (AD (AA (HG ?_))))))))))
 refine AF (AC kR (AB (DG .i64 (2:Int) (5:Int) rfl rfl (AD (AA (AF (AP true rfl rfl (fun _=>AV (AA (AF (BP (AF (AC kR (AB (DO U114_ GI .i64 (2:Int) 2 rfl rfl rfl b0 (show 2<5 by decide) fun P8 q3=>(AB (BZ U113_ rfl GI rfl q3 fun q4 q5=>(?_))))))))))) (fun h=>by cases h))))))))
 obtain rfl:q4=[vN (.func 80) #[] #[vP (some ⟨a1,0,none⟩)],vI 430]:=q5.1
 refine AB (BW [Value.nilFunc,vI 0] HX rfl f8 fun b3 P9 z8 z9 g1 g2 q6=>(?_))
 have h8:CU a5 b3:=by show a5≠b3;have:=a0.lt;omega
 have q7:CU a1 b3:=by show a1≠b3;have:=a3.lt;omega
 have q8:CU a8 b3:=by show a8≠b3;have:=a7.lt;omega
 have q9:CU b1 b3:=by show b1≠b3;have:=a9.lt;omega
 clear z8
 have a6:=a6.mv g1
 have a4:=a4.mv g1
 have b0:=b0.mv g1
 have a2:=a2.mv g1
 have a0:=a0.keep g2 (by simp)
 have a3:=a3.keep g2 (by simp)
 have a7:=a7.keep g2 (by simp)
 have a9:=a9.keep g2 (by simp)
 refine BU (AR (vs:=[vN (.func 80) #[] #[vP (some ⟨a1,0,none⟩)],vI 430]) (.agg #[vN (.func 80) #[] #[vP (some ⟨a1,0,none⟩)],vI 430]) rfl rfl rfl GI (fun u hu=>by simp only [List.mem_cons,List.not_mem_nil,or_false] at hu;rcases hu with rfl|rfl <;> rfl) (by repeat (constructor)) q6 oT z9 fun A0 A1 g3 g4 b4=>(?_))
 have a6:=a6.mv g3
 have a4:=a4.mv g3
 have b0:=b0.mv g3
 have a2:=a2.mv g3
 have a0:=a0.keep g4 (AT h8)
 have a3:=a3.keep g4 (AT q7)
 have a7:=a7.keep g4 (AT q8)
 have a9:=a9.keep g4 (AT q9)
 refine AD (AA (AF (AC kR (AB (AM 0 JV rfl (AB (BA U23_ rfl (vN (.func 80) #[] #[vP (some ⟨a1,0,none⟩)]) rfl b4 rfl (AB (EW (vs:=[vP (some ⟨a1,0,none⟩)]) [] [vP (some ⟨a1,0,none⟩)] [] enter_80 rfl (c_act2 (O:=[]) ⟨a1,0,none⟩ d A0 (PT.of_box a3 ⟨_,rfl,a2.rd0⟩ (fun h=>by cases h)) II) rfl rfl A1 fun Q0 n3 g5 g6 d9 A2=>(?_))))))))))
 obtain rfl:=A2
 have a6:=a6.mv g6
 have a4:=a4.mv g6
 have b0:=b0.mv g6
 have a2:=a2.mv g6
 have a0:=a0.keep d9 (by simp)
 have a3:=a3.keep d9 (by simp)
 have a7:=a7.keep d9 (by simp)
 have a9:=a9.keep d9 (by simp)
 have b4:=b4.keep d9 (by simp)
 refine AB (EF (!d.halted && CF d) rfl (AD (AA (AP (!(!d.halted && CF d)) rfl rfl (fun e0=>?_) (fun e0=>?_)))))
 ·have K0:(!d.halted && CF d)=false:=by (have e:=e0;rw [Bool.not_eq_true'] at e;exact e)
  refine AF (IF 3 [1,2] _ _ _ [CT (vA #[vI 0,vI 0,nS,vO false]),CT (vP (some ⟨b3,1,none⟩)),CT (vI 430)] kR kR kR kR (by decide) rfl rfl rfl ⟨kI,kI,kI,trivial⟩ ⟨?_,?_,?_,trivial⟩ ?_ ?_)
  ·intro F1 w1 k1 hf hd
   have k0:=(Keep.drew [] n3).trans k1
   have a0:=a0.keep k0 (by simp)
   obtain ⟨F2,rfl⟩:=AL (F:=F1) [(6,vP (some ⟨a5,0,none⟩))] ⟨hf 6 kR,trivial⟩
   exact AJ rfl ((AU (vs:=[vI 0,vI 0,nS,vO false]) U31_ rfl BS rfl a0 rfl (⟨(Keep.refl _ _),rfl⟩)))
  ·intro F1 w1 k1 hf hd
   obtain ⟨F2,rfl⟩:=AL (F:=F1) [(11,vP (some ⟨b3,0,none⟩))] ⟨hf 11 kR,trivial⟩
   exact AJ rfl ((AM 1 GC rfl (⟨(Keep.refl _ _),rfl⟩)))
  ·intro F1 w1 k1 hf hd
   have k0:=(Keep.drew [] n3).trans k1
   have b4:=b4.keep k0 (by simp)
   obtain ⟨F2,rfl⟩:=AL (F:=F1) [(38,vP (some ⟨b3,1,none⟩))] ⟨hd 1 38 kR,trivial⟩
   exact AJ rfl ((BA U32_ rfl (vI 430) rfl b4 rfl (⟨(Keep.refl _ _),rfl⟩)))
  ·intro A3 Q1 n4 h9 e1
   have A4:=g5.call n4
   have a0:=a0.keep n4 (by simp)
   obtain ⟨F2,rfl⟩:=AL (F:=A3) [(6,vP (some ⟨a5,0,none⟩)),(7,vI 0),(68,undef),(37,vA #[vI 0,vI 0,nS,vO false]),(39,vI 430)] ⟨e1 6 kR,e1 7 kR,e1 68 kR,h9 0 37 kR (by decide),h9 2 39 kR (by decide),trivial⟩
   clear h9 e1
   refine BU (AR (vs:=[vI 0,vI 0,nS,vO false]) (.agg #[vI 0,vI 0,nS,vO false]) rfl rfl rfl BS (fun u hu=>by simp only [List.mem_cons,List.not_mem_nil,or_false] at hu;rcases hu with rfl|rfl|rfl|rfl <;> rfl) (by repeat (constructor)) a0 oT A4 fun Q2 A5 Q3 Q4 r0=>(AB (AG (vI 430) rfl (AD (AA (AN (BK (AO (AO (BK (AO (AY rfl (EB rfl (FW (vs:=[vI 0,vI 0,nS,vO false]) rfl U31_ rfl BS rfl r0 rfl) (FX rfl rfl)) (?_)))))))))))))
   have A6:((AK d o crash).1)=(⟨(0:Int),(0:Int),[],false⟩:Device):=by exact congrArg (fun p=>p.1) (show AK d o crash=_ from KR hcr.1 hcr.2 hfm aS)
   have A7:((AK d o crash).2)=(430:Int):=by exact congrArg (fun p=>p.2) (show AK d o crash=_ from KR hcr.1 hcr.2 hfm aS)
   exact ⟨_,rfl,A5.keep,by rw [A6,A7];exact ⟨[vI 0,vI 0,nS,vO false],rfl,Enc.out (B:=(b3 :: (b1 :: (a8 :: (a1 :: (a5 :: [])))))) ⟨.slice none 0 0,rfl,(CG.nil _ _ _)⟩⟩⟩
  intro cx_ hcx_
  match cx_,hcx_ with
  | 0,_=>
   intro A8 Q5 k4 l8 c8
   have A9:=g5.call k4
   have a0:=a0.keep k4 (by simp)
   have b4:=b4.keep k4 (by simp)
   obtain ⟨F2,rfl⟩:=AL (F:=A8) [(6,vP (some ⟨a5,0,none⟩)),(7,vI 0),(11,vP (some ⟨b3,0,none⟩)),(68,undef),(37,vA #[vI 0,vI 0,nS,vO false])] ⟨c8 6 kR,c8 7 kR,c8 11 kR,c8 68 kR,l8 0 37 kR (by decide) (by decide),trivial⟩
   clear l8 c8
   refine BU (AR (vs:=[vI 0,vI 0,nS,vO false]) (.agg #[vI 0,vI 0,nS,vO false]) rfl rfl rfl BS (fun u hu=>by simp only [List.mem_cons,List.not_mem_nil,or_false] at hu;rcases hu with rfl|rfl|rfl|rfl <;> rfl) (by repeat (constructor)) a0 oT A9 fun Q6 B0 Q7 B1 r1=>(?_))
   have b4:=b4.keep B1 (AT (Ne.symm h8))
   refine AB (AM 1 GC rfl (AB (BA U32_ rfl (vI 430) rfl b4 rfl (AB (AG (vI 430) rfl (AD (AA (AN (BK (AO (AO (BK (AO (AY rfl (EB rfl (FW (vs:=[vI 0,vI 0,nS,vO false]) rfl U31_ rfl BS rfl r1 rfl) (FX rfl rfl)) (?_)))))))))))))))
   have B2:((AK d o crash).1)=(⟨(0:Int),(0:Int),[],false⟩:Device):=by exact congrArg (fun p=>p.1) (show AK d o crash=_ from KR hcr.1 hcr.2 hfm aS)
   have B3:((AK d o crash).2)=(430:Int):=by exact congrArg (fun p=>p.2) (show AK d o crash=_ from KR hcr.1 hcr.2 hfm aS)
   exact ⟨_,rfl,B0.keep,by rw [B2,B3];exact ⟨[vI 0,vI 0,nS,vO false],rfl,Enc.out (B:=(b3 :: (b1 :: (a8 :: (a1 :: (a5 :: [])))))) ⟨.slice none 0 0,rfl,(CG.nil _ _ _)⟩⟩⟩
  | 1,_=>
   intro B4 Q8 k5 i0 e2
   have B5:=g5.call k5
   have a0:=a0.keep k5 (by simp)
   have b4:=b4.keep k5 (by simp)
   obtain ⟨F2,rfl⟩:=AL (F:=B4) [(6,vP (some ⟨a5,0,none⟩)),(7,vI 0),(68,undef),(37,vA #[vI 0,vI 0,nS,vO false]),(38,vP (some ⟨b3,1,none⟩))] ⟨e2 6 kR,e2 7 kR,e2 68 kR,i0 0 37 kR (by decide) (by decide),i0 1 38 kR (by decide) (by decide),trivial⟩
   clear i0 e2
   refine BU (AR (vs:=[vI 0,vI 0,nS,vO false]) (.agg #[vI 0,vI 0,nS,vO false]) rfl rfl rfl BS (fun u hu=>by simp only [List.mem_cons,List.not_mem_nil,or_false] at hu;rcases hu with rfl|rfl|rfl|rfl <;> rfl) (by repeat (constructor)) a0 oT B5 fun Q9 B6 R0 B7 r2=>(?_))
   have b4:=b4.keep B7 (AT (Ne.symm h8))
   refine AB (BA U32_ rfl (vI 430) rfl b4 rfl (AB (AG (vI 430) rfl (AD (AA (AN (BK (AO (AO (BK (AO (AY rfl (EB rfl (FW (vs:=[vI 0,vI 0,nS,vO false]) rfl U31_ rfl BS rfl r2 rfl) (FX rfl rfl)) (?_)))))))))))))
   have B8:((AK d o crash).1)=(⟨(0:Int),(0:Int),[],false⟩:Device):=by exact congrArg (fun p=>p.1) (show AK d o crash=_ from KR hcr.1 hcr.2 hfm aS)
   have B9:((AK d o crash).2)=(430:Int):=by exact congrArg (fun p=>p.2) (show AK d o crash=_ from KR hcr.1 hcr.2 hfm aS)
   exact ⟨_,rfl,B6.keep,by rw [B8,B9];exact ⟨[vI 0,vI 0,nS,vO false],rfl,Enc.out (B:=(b3 :: (b1 :: (a8 :: (a1 :: (a5 :: [])))))) ⟨.slice none 0 0,rfl,(CG.nil _ _ _)⟩⟩⟩
 have K1:(!d.halted && CF d)=true:=by simpa using e0
 have hhw:d.halted=false∧CF d=true:=by simpa using e0
 refine AV (BE (AA (AC kR (AB (CJ .i64 (2:Int) (1:Int) ((3:Int)) rfl rfl (EI oM oM) (AB (AH (vI 3) rfl (AD (AA (HG ?_))))))))))
 refine AF (AC kR (AB (DG .i64 (3:Int) (5:Int) rfl rfl (AD (AA (AF (AP true rfl rfl (fun _=>AV (AA (AF (BP (AF (AC kR (AB (DO U114_ GI .i64 (3:Int) 3 rfl rfl rfl b0 (show 3<5 by decide) fun R1 r3=>(AB (BZ U113_ rfl GI rfl r3 fun r4 r5=>(?_))))))))))) (fun h=>by cases h))))))))
 obtain rfl:r4=[vN (.func 82) #[] #[vP (some b6),vP (some ⟨a1,0,none⟩)],vI 420]:=r5.1
 refine AB (BW [Value.nilFunc,vI 0] HX rfl g5 fun b5 R2 C0 C1 g7 e3 r6=>(?_))
 have i1:CU a5 b5:=by show a5≠b5;have:=a0.lt;omega
 have r7:CU a1 b5:=by show a1≠b5;have:=a3.lt;omega
 have r8:CU a8 b5:=by show a8≠b5;have:=a7.lt;omega
 have r9:CU b1 b5:=by show b1≠b5;have:=a9.lt;omega
 have s1:CU b3 b5:=by show b3≠b5;have:=b4.lt;omega
 clear C0
 have a6:=a6.mv g7
 have a4:=a4.mv g7
 have b0:=b0.mv g7
 have a2:=a2.mv g7
 have a0:=a0.keep e3 (by simp)
 have a3:=a3.keep e3 (by simp)
 have a7:=a7.keep e3 (by simp)
 have a9:=a9.keep e3 (by simp)
 have b4:=b4.keep e3 (by simp)
 refine BU (AR (vs:=[vN (.func 82) #[] #[vP (some b6),vP (some ⟨a1,0,none⟩)],vI 420]) (.agg #[vN (.func 82) #[] #[vP (some b6),vP (some ⟨a1,0,none⟩)],vI 420]) rfl rfl rfl GI (fun u hu=>by simp only [List.mem_cons,List.not_mem_nil,or_false] at hu;rcases hu with rfl|rfl <;> rfl) (by repeat (constructor)) r6 oT C1 fun C2 C3 g8 e4 b8=>(?_))
 have a6:=a6.mv g8
 have a4:=a4.mv g8
 have b0:=b0.mv g8
 have a2:=a2.mv g8
 have a0:=a0.keep e4 (AT i1)
 have a3:=a3.keep e4 (AT r7)
 have a7:=a7.keep e4 (AT r8)
 have a9:=a9.keep e4 (AT r9)
 have b4:=b4.keep e4 (AT s1)
 refine AD (AA (AF (AC kR (AB (AM 0 JV rfl (AB (BA U23_ rfl (vN (.func 82) #[] #[vP (some b6),vP (some ⟨a1,0,none⟩)]) rfl b8 rfl (AB (EW (vs:=[vP (some b6),vP (some ⟨a1,0,none⟩)]) [] [vP (some b6),vP (some ⟨a1,0,none⟩)] [] enter_82 rfl (c_act3 (O:=[]) b6 o ⟨a1,0,none⟩ d C2 (a6.sub (fun _ h=>by cases h)) (PT.of_box a3 ⟨_,rfl,a2.rd0⟩ (fun h=>by cases h)) oM oM II) rfl rfl C3 fun R3 n5 g9 h0 d1 C4=>(?_))))))))))
 obtain rfl:=C4
 have a6:=a6.mv h0
 have a4:=a4.mv h0
 have b0:=b0.mv h0
 have a2:=a2.mv h0
 have a0:=a0.keep d1 (by simp)
 have a3:=a3.keep d1 (by simp)
 have a7:=a7.keep d1 (by simp)
 have a9:=a9.keep d1 (by simp)
 have b4:=b4.keep d1 (by simp)
 have b8:=b8.keep d1 (by simp)
 refine AB (EF ((o.device == d.id) && (o.no == d.counter+1)) rfl (AD (AA (AP (!((o.device == d.id) && (o.no == d.counter+1))) rfl rfl (fun e5=>?_) (fun e5=>?_)))))
 ·have K2:((o.device == d.id) && (o.no == d.counter+1))=false:=by (have e:=e5;rw [Bool.not_eq_true'] at e;exact e)
  refine AF (IF 3 [1,2] _ _ _ [CT (vA #[vI 0,vI 0,nS,vO false]),CT (vP (some ⟨b5,1,none⟩)),CT (vI 420)] kR kR kR kR (by decide) rfl rfl rfl ⟨kI,kI,kI,trivial⟩ ⟨?_,?_,?_,trivial⟩ ?_ ?_)
  ·intro F1 w1 k1 hf hd
   have k0:=(Keep.drew [] n5).trans k1
   have a0:=a0.keep k0 (by simp)
   obtain ⟨F2,rfl⟩:=AL (F:=F1) [(6,vP (some ⟨a5,0,none⟩))] ⟨hf 6 kR,trivial⟩
   exact AJ rfl ((AU (vs:=[vI 0,vI 0,nS,vO false]) U31_ rfl BS rfl a0 rfl (⟨(Keep.refl _ _),rfl⟩)))
  ·intro F1 w1 k1 hf hd
   obtain ⟨F2,rfl⟩:=AL (F:=F1) [(11,vP (some ⟨b5,0,none⟩))] ⟨hf 11 kR,trivial⟩
   exact AJ rfl ((AM 1 GC rfl (⟨(Keep.refl _ _),rfl⟩)))
  ·intro F1 w1 k1 hf hd
   have k0:=(Keep.drew [] n5).trans k1
   have b8:=b8.keep k0 (by simp)
   obtain ⟨F2,rfl⟩:=AL (F:=F1) [(38,vP (some ⟨b5,1,none⟩))] ⟨hd 1 38 kR,trivial⟩
   exact AJ rfl ((BA U32_ rfl (vI 420) rfl b8 rfl (⟨(Keep.refl _ _),rfl⟩)))
  ·intro C5 R4 n6 i2 e6
   have C6:=g9.call n6
   have a0:=a0.keep n6 (by simp)
   obtain ⟨F2,rfl⟩:=AL (F:=C5) [(6,vP (some ⟨a5,0,none⟩)),(7,vI 0),(68,undef),(37,vA #[vI 0,vI 0,nS,vO false]),(39,vI 420)] ⟨e6 6 kR,e6 7 kR,e6 68 kR,i2 0 37 kR (by decide),i2 2 39 kR (by decide),trivial⟩
   clear i2 e6
   refine BU (AR (vs:=[vI 0,vI 0,nS,vO false]) (.agg #[vI 0,vI 0,nS,vO false]) rfl rfl rfl BS (fun u hu=>by simp only [List.mem_cons,List.not_mem_nil,or_false] at hu;rcases hu with rfl|rfl|rfl|rfl <;> rfl) (by repeat (constructor)) a0 oT C6 fun R5 C7 R6 R7 s2=>(AB (AG (vI 420) rfl (AD (AA (AN (BK (AO (AO (BK (AO (AY rfl (EB rfl (FW (vs:=[vI 0,vI 0,nS,vO false]) rfl U31_ rfl BS rfl s2 rfl) (FX rfl rfl)) (?_)))))))))))))
   have C8:((AK d o crash).1)=(⟨(0:Int),(0:Int),[],false⟩:Device):=by exact congrArg (fun p=>p.1) (show AK d o crash=_ from KH hcr.1 hcr.2 hfm hhw.1 hhw.2 aS)
   have C9:((AK d o crash).2)=(420:Int):=by exact congrArg (fun p=>p.2) (show AK d o crash=_ from KH hcr.1 hcr.2 hfm hhw.1 hhw.2 aS)
   exact ⟨_,rfl,C7.keep,by rw [C8,C9];exact ⟨[vI 0,vI 0,nS,vO false],rfl,Enc.out (B:=(b5 :: (b3 :: (b1 :: (a8 :: (a1 :: (a5 :: []))))))) ⟨.slice none 0 0,rfl,(CG.nil _ _ _)⟩⟩⟩
  intro cx_ hcx_
  match cx_,hcx_ with
  | 0,_=>
   intro D0 R8 k6 l9 c9
   have D1:=g9.call k6
   have a0:=a0.keep k6 (by simp)
   have b8:=b8.keep k6 (by simp)
   obtain ⟨F2,rfl⟩:=AL (F:=D0) [(6,vP (some ⟨a5,0,none⟩)),(7,vI 0),(11,vP (some ⟨b5,0,none⟩)),(68,undef),(37,vA #[vI 0,vI 0,nS,vO false])] ⟨c9 6 kR,c9 7 kR,c9 11 kR,c9 68 kR,l9 0 37 kR (by decide) (by decide),trivial⟩
   clear l9 c9
   refine BU (AR (vs:=[vI 0,vI 0,nS,vO false]) (.agg #[vI 0,vI 0,nS,vO false]) rfl rfl rfl BS (fun u hu=>by simp only [List.mem_cons,List.not_mem_nil,or_false] at hu;rcases hu with rfl|rfl|rfl|rfl <;> rfl) (by repeat (constructor)) a0 oT D1 fun R9 D2 S0 D3 s3=>(?_))
   have b8:=b8.keep D3 (AT (Ne.symm i1))
   refine AB (AM 1 GC rfl (AB (BA U32_ rfl (vI 420) rfl b8 rfl (AB (AG (vI 420) rfl (AD (AA (AN (BK (AO (AO (BK (AO (AY rfl (EB rfl (FW (vs:=[vI 0,vI 0,nS,vO false]) rfl U31_ rfl BS rfl s3 rfl) (FX rfl rfl)) (?_)))))))))))))))
   have D4:((AK d o crash).1)=(⟨(0:Int),(0:Int),[],false⟩:Device):=by exact congrArg (fun p=>p.1) (show AK d o crash=_ from KH hcr.1 hcr.2 hfm hhw.1 hhw.2 aS)
   have D5:((AK d o crash).2)=(420:Int):=by exact congrArg (fun p=>p.2) (show AK d o crash=_ from KH hcr.1 hcr.2 hfm hhw.1 hhw.2 aS)
   exact ⟨_,rfl,D2.keep,by rw [D4,D5];exact ⟨[vI 0,vI 0,nS,vO false],rfl,Enc.out (B:=(b5 :: (b3 :: (b1 :: (a8 :: (a1 :: (a5 :: []))))))) ⟨.slice none 0 0,rfl,(CG.nil _ _ _)⟩⟩⟩
  | 1,_=>
   intro D6 S1 k7 i3 e7
   have D7:=g9.call k7
   have a0:=a0.keep k7 (by simp)
   have b8:=b8.keep k7 (by simp)
   obtain ⟨F2,rfl⟩:=AL (F:=D6) [(6,vP (some ⟨a5,0,none⟩)),(7,vI 0),(68,undef),(37,vA #[vI 0,vI 0,nS,vO false]),(38,vP (some ⟨b5,1,none⟩))] ⟨e7 6 kR,e7 7 kR,e7 68 kR,i3 0 37 kR (by decide) (by decide),i3 1 38 kR (by decide) (by decide),trivial⟩
   clear i3 e7
   refine BU (AR (vs:=[vI 0,vI 0,nS,vO false]) (.agg #[vI 0,vI 0,nS,vO false]) rfl rfl rfl BS (fun u hu=>by simp only [List.mem_cons,List.not_mem_nil,or_false] at hu;rcases hu with rfl|rfl|rfl|rfl <;> rfl) (by repeat (constructor)) a0 oT D7 fun S2 D8 S3 D9 s4=>(?_))
   have b8:=b8.keep D9 (AT (Ne.symm i1))
   refine AB (BA U32_ rfl (vI 420) rfl b8 rfl (AB (AG (vI 420) rfl (AD (AA (AN (BK (AO (AO (BK (AO (AY rfl (EB rfl (FW (vs:=[vI 0,vI 0,nS,vO false]) rfl U31_ rfl BS rfl s4 rfl) (FX rfl rfl)) (?_)))))))))))))
   have E0:((AK d o crash).1)=(⟨(0:Int),(0:Int),[],false⟩:Device):=by exact congrArg (fun p=>p.1) (show AK d o crash=_ from KH hcr.1 hcr.2 hfm hhw.1 hhw.2 aS)
   have E1:((AK d o crash).2)=(420:Int):=by exact congrArg (fun p=>p.2) (show AK d o crash=_ from KH hcr.1 hcr.2 hfm hhw.1 hhw.2 aS)
   exact ⟨_,rfl,D8.keep,by rw [E0,E1];exact ⟨[vI 0,vI 0,nS,vO false],rfl,Enc.out (B:=(b5 :: (b3 :: (b1 :: (a8 :: (a1 :: (a5 :: []))))))) ⟨.slice none 0 0,rfl,(CG.nil _ _ _)⟩⟩⟩
 have K3:((o.device == d.id) && (o.no == d.counter+1))=true:=by simpa using e5
 have hdn:o.device=d.id∧o.no=d.counter+1:=by simpa using e5
 refine AV (BE (AA (AC kR (AB (CJ .i64 (3:Int) (1:Int) ((4:Int)) rfl rfl (EI oM oM) (AB (AH (vI 4) rfl (AD (AA (HG ?_))))))))))
 refine AF (AC kR (AB (DG .i64 (4:Int) (5:Int) rfl rfl (AD (AA (AF (AP true rfl rfl (fun _=>AV (AA (AF (BP (AF (AC kR (AB (DO U114_ GI .i64 (4:Int) 4 rfl rfl rfl b0 (show 4<5 by decide) fun S4 s5=>(AB (BZ U113_ rfl GI rfl s5 fun s6 s7=>(?_))))))))))) (fun h=>by cases h))))))))
 obtain rfl:s6=[vN (.func 83) #[] #[vP (some ⟨a1,0,none⟩),vP (some b6)],vI 420]:=s7.1
 refine AB (BW [Value.nilFunc,vI 0] HX rfl g9 fun b7 S5 E2 E3 k8 n7 s8=>(?_))
 have i4:CU a5 b7:=by show a5≠b7;have:=a0.lt;omega
 have s9:CU a1 b7:=by show a1≠b7;have:=a3.lt;omega
 have K4:CU a8 b7:=by show a8≠b7;have:=a7.lt;omega
 have K5:CU b1 b7:=by show b1≠b7;have:=a9.lt;omega
 have K6:CU b3 b7:=by show b3≠b7;have:=b4.lt;omega
 have K7:CU b5 b7:=by show b5≠b7;have:=b8.lt;omega
 clear E2
 have a6:=a6.mv k8
 have a4:=a4.mv k8
 have a2:=a2.mv k8
 have a0:=a0.keep n7 (by simp)
 have a3:=a3.keep n7 (by simp)
 refine BU (AR (vs:=[vN (.func 83) #[] #[vP (some ⟨a1,0,none⟩),vP (some b6)],vI 420]) (.agg #[vN (.func 83) #[] #[vP (some ⟨a1,0,none⟩),vP (some b6)],vI 420]) rfl rfl rfl GI (fun u hu=>by simp only [List.mem_cons,List.not_mem_nil,or_false] at hu;rcases hu with rfl|rfl <;> rfl) (by repeat (constructor)) s8 oT E3 fun E4 E5 k9 n8 c2=>(?_))
 have a6:=a6.mv k9
 have a4:=a4.mv k9
 have a2:=a2.mv k9
 have a0:=a0.keep n8 (AT i4)
 have a3:=a3.keep n8 (AT s9)
 refine AD (AA (AF (AC kR (AB (AM 0 JV rfl (AB (BA U23_ rfl (vN (.func 83) #[] #[vP (some ⟨a1,0,none⟩),vP (some b6)]) rfl c2 rfl (AB (EW (vs:=[vP (some ⟨a1,0,none⟩),vP (some b6)]) [] [vP (some ⟨a1,0,none⟩),vP (some b6)] [] enter_83 rfl (c_act4 (O:=[]) ⟨a1,0,none⟩ d b6 o E4 (PT.of_box a3 ⟨_,rfl,a2.rd0⟩ (fun h=>by cases h)) (a6.sub (fun _ h=>by cases h)) II) rfl rfl E5 fun S6 l0 e8 l1 l2 E6=>(?_))))))))))
 obtain rfl:=E6
 have a6:=a6.mv l1
 have a4:=a4.mv l1
 have a2:=a2.mv l1
 have a0:=a0.keep l2 (by simp)
 have a3:=a3.keep l2 (by simp)
 have c2:=c2.keep l2 (by simp)
 refine AB (EF (!DX d.ops o) rfl (AD (AA (AP (!(!DX d.ops o)) rfl rfl (fun e9=>?_) (fun e9=>?_)))))
 ·have K8:(!DX d.ops o)=false:=by simpa using e9
  refine AF (IF 3 [1,2] _ _ _ [CT (vA #[vI 0,vI 0,nS,vO false]),CT (vP (some ⟨b7,1,none⟩)),CT (vI 420)] kR kR kR kR (by decide) rfl rfl rfl ⟨kI,kI,kI,trivial⟩ ⟨?_,?_,?_,trivial⟩ ?_ ?_)
  ·intro F1 w1 k1 hf hd
   have k0:=(Keep.drew [] l0).trans k1
   have a0:=a0.keep k0 (by simp)
   obtain ⟨F2,rfl⟩:=AL (F:=F1) [(6,vP (some ⟨a5,0,none⟩))] ⟨hf 6 kR,trivial⟩
   exact AJ rfl ((AU (vs:=[vI 0,vI 0,nS,vO false]) U31_ rfl BS rfl a0 rfl (⟨(Keep.refl _ _),rfl⟩)))
  ·intro F1 w1 k1 hf hd
   obtain ⟨F2,rfl⟩:=AL (F:=F1) [(11,vP (some ⟨b7,0,none⟩))] ⟨hf 11 kR,trivial⟩
   exact AJ rfl ((AM 1 GC rfl (⟨(Keep.refl _ _),rfl⟩)))
  ·intro F1 w1 k1 hf hd
   have k0:=(Keep.drew [] l0).trans k1
   have c2:=c2.keep k0 (by simp)
   obtain ⟨F2,rfl⟩:=AL (F:=F1) [(38,vP (some ⟨b7,1,none⟩))] ⟨hd 1 38 kR,trivial⟩
   exact AJ rfl ((BA U32_ rfl (vI 420) rfl c2 rfl (⟨(Keep.refl _ _),rfl⟩)))
  ·intro E7 S7 n9 i5 f0
   have E8:=e8.call n9
   have a0:=a0.keep n9 (by simp)
   obtain ⟨F2,rfl⟩:=AL (F:=E7) [(6,vP (some ⟨a5,0,none⟩)),(7,vI 0),(68,undef),(37,vA #[vI 0,vI 0,nS,vO false]),(39,vI 420)] ⟨f0 6 kR,f0 7 kR,f0 68 kR,i5 0 37 kR (by decide),i5 2 39 kR (by decide),trivial⟩
   clear i5 f0
   refine BU (AR (vs:=[vI 0,vI 0,nS,vO false]) (.agg #[vI 0,vI 0,nS,vO false]) rfl rfl rfl BS (fun u hu=>by simp only [List.mem_cons,List.not_mem_nil,or_false] at hu;rcases hu with rfl|rfl|rfl|rfl <;> rfl) (by repeat (constructor)) a0 oT E8 fun S8 E9 S9 T0 t0=>(AB (AG (vI 420) rfl (AD (AA (AN (BK (AO (AO (BK (AO (AY rfl (EB rfl (FW (vs:=[vI 0,vI 0,nS,vO false]) rfl U31_ rfl BS rfl t0 rfl) (FX rfl rfl)) (?_)))))))))))))
   have F3:((AK d o crash).1)=(⟨(0:Int),(0:Int),[],false⟩:Device):=by exact congrArg (fun p=>p.1) (show AK d o crash=_ from OC hcr.1 hcr.2 hfm hhw.1 hhw.2 hdn.1 hdn.2 (by have h_:(!DX d.ops o)=false:=aS;simpa using h_))
   have F4:((AK d o crash).2)=(420:Int):=by exact congrArg (fun p=>p.2) (show AK d o crash=_ from OC hcr.1 hcr.2 hfm hhw.1 hhw.2 hdn.1 hdn.2 (by have h_:(!DX d.ops o)=false:=aS;simpa using h_))
   exact ⟨_,rfl,E9.keep,by rw [F3,F4];exact ⟨[vI 0,vI 0,nS,vO false],rfl,Enc.out (B:=(b7 :: (b5 :: (b3 :: (b1 :: (a8 :: (a1 :: (a5 :: [])))))))) ⟨.slice none 0 0,rfl,(CG.nil _ _ _)⟩⟩⟩
  intro cx_ hcx_
  match cx_,hcx_ with
  | 0,_=>
   intro F5 T1 l3 m0 d0
   have F6:=e8.call l3
   have a0:=a0.keep l3 (by simp)
   have c2:=c2.keep l3 (by simp)
   obtain ⟨F2,rfl⟩:=AL (F:=F5) [(6,vP (some ⟨a5,0,none⟩)),(7,vI 0),(11,vP (some ⟨b7,0,none⟩)),(68,undef),(37,vA #[vI 0,vI 0,nS,vO false])] ⟨d0 6 kR,d0 7 kR,d0 11 kR,d0 68 kR,m0 0 37 kR (by decide) (by decide),trivial⟩
   clear m0 d0
   refine BU (AR (vs:=[vI 0,vI 0,nS,vO false]) (.agg #[vI 0,vI 0,nS,vO false]) rfl rfl rfl BS (fun u hu=>by simp only [List.mem_cons,List.not_mem_nil,or_false] at hu;rcases hu with rfl|rfl|rfl|rfl <;> rfl) (by repeat (constructor)) a0 oT F6 fun T2 F7 T3 F8 t1=>(?_))
   have c2:=c2.keep F8 (AT (Ne.symm i4))
   refine AB (AM 1 GC rfl (AB (BA U32_ rfl (vI 420) rfl c2 rfl (AB (AG (vI 420) rfl (AD (AA (AN (BK (AO (AO (BK (AO (AY rfl (EB rfl (FW (vs:=[vI 0,vI 0,nS,vO false]) rfl U31_ rfl BS rfl t1 rfl) (FX rfl rfl)) (?_)))))))))))))))
   have F9:((AK d o crash).1)=(⟨(0:Int),(0:Int),[],false⟩:Device):=by exact congrArg (fun p=>p.1) (show AK d o crash=_ from OC hcr.1 hcr.2 hfm hhw.1 hhw.2 hdn.1 hdn.2 (by have h_:(!DX d.ops o)=false:=aS;simpa using h_))
   have G0:((AK d o crash).2)=(420:Int):=by exact congrArg (fun p=>p.2) (show AK d o crash=_ from OC hcr.1 hcr.2 hfm hhw.1 hhw.2 hdn.1 hdn.2 (by have h_:(!DX d.ops o)=false:=aS;simpa using h_))
   exact ⟨_,rfl,F7.keep,by rw [F9,G0];exact ⟨[vI 0,vI 0,nS,vO false],rfl,Enc.out (B:=(b7 :: (b5 :: (b3 :: (b1 :: (a8 :: (a1 :: (a5 :: [])))))))) ⟨.slice none 0 0,rfl,(CG.nil _ _ _)⟩⟩⟩
  | 1,_=>
   intro G1 T4 l4 i6 f1
   have G2:=e8.call l4
   have a0:=a0.keep l4 (by simp)
   have c2:=c2.keep l4 (by simp)
   obtain ⟨F2,rfl⟩:=AL (F:=G1) [(6,vP (some ⟨a5,0,none⟩)),(7,vI 0),(68,undef),(37,vA #[vI 0,vI 0,nS,vO false]),(38,vP (some ⟨b7,1,none⟩))] ⟨f1 6 kR,f1 7 kR,f1 68 kR,i6 0 37 kR (by decide) (by decide),i6 1 38 kR (by decide) (by decide),trivial⟩
   clear i6 f1
   refine BU (AR (vs:=[vI 0,vI 0,nS,vO false]) (.agg #[vI 0,vI 0,nS,vO false]) rfl rfl rfl BS (fun u hu=>by simp only [List.mem_cons,List.not_mem_nil,or_false] at hu;rcases hu with rfl|rfl|rfl|rfl <;> rfl) (by repeat (constructor)) a0 oT G2 fun T5 G3 T6 G4 t2=>(?_))
   have c2:=c2.keep G4 (AT (Ne.symm i4))
   refine AB (BA U32_ rfl (vI 420) rfl c2 rfl (AB (AG (vI 420) rfl (AD (AA (AN (BK (AO (AO (BK (AO (AY rfl (EB rfl (FW (vs:=[vI 0,vI 0,nS,vO false]) rfl U31_ rfl BS rfl t2 rfl) (FX rfl rfl)) (?_)))))))))))))
   have G5:((AK d o crash).1)=(⟨(0:Int),(0:Int),[],false⟩:Device):=by exact congrArg (fun p=>p.1) (show AK d o crash=_ from OC hcr.1 hcr.2 hfm hhw.1 hhw.2 hdn.1 hdn.2 (by have h_:(!DX d.ops o)=false:=aS;simpa using h_))
   have G6:((AK d o crash).2)=(420:Int):=by exact congrArg (fun p=>p.2) (show AK d o crash=_ from OC hcr.1 hcr.2 hfm hhw.1 hhw.2 hdn.1 hdn.2 (by have h_:(!DX d.ops o)=false:=aS;simpa using h_))
   exact ⟨_,rfl,G3.keep,by rw [G5,G6];exact ⟨[vI 0,vI 0,nS,vO false],rfl,Enc.out (B:=(b7 :: (b5 :: (b3 :: (b1 :: (a8 :: (a1 :: (a5 :: [])))))))) ⟨.slice none 0 0,rfl,(CG.nil _ _ _)⟩⟩⟩
 have K9:(!DX d.ops o)=true:=by simpa using e9
 have hsn:DX d.ops o=false:=by simpa using e9
 refine AV (BE (AA (AC kR (AB (CJ .i64 (4:Int) (1:Int) ((5:Int)) rfl rfl (EI oM oM) (AB (AH (vI 5) rfl (AD (AA (HG ?_))))))))))
 refine AF (AC kR (AB (DG .i64 (5:Int) (5:Int) rfl rfl (AD (AA (AF (AP false rfl rfl (fun h=>by cases h) (fun _=>DV (CK (CK (DD (AA (AF (AC kR (AB (AM 0 CO rfl (AB (AM 2 FC rfl (AB (BA U26_ rfl (b2) rfl a3 rfl (AB (BZ U40_ rfl CH rfl a6 fun L0 t3=>(?_)))))))))))))))))))))))
 obtain rfl:=t3
 refine AB (BD (vs:=[b2,vA #[vI o.device,vI o.no,vI o.kind,vI o.copy,vI o.to,vI o.token]]) enter_23 (c_add (O:=(b7 :: (b5 :: (b3 :: (b1 :: (a8 :: (a1 :: (a5 :: [])))))))++O) b2 d.ops [vI o.device,vI o.no,vI o.kind,vI o.copy,vI o.to,vI o.token] o l0 a2 rfl e8.lt) rfl e8 fun T7 T8 h1 o0 o1 G7=>(?_))
 obtain ⟨c3,rfl,b9⟩:=G7
 have:=b9.len_le
 have a4:=a4.mv o0
 have a2:=a2.mv o0
 have a0:=a0.keep o1 (by simp)
 have a3:=a3.keep o1 (by simp)
 refine AB (AH (vT #[c3,vI ((CB d.ops o).2)]) rfl (AB (BJ (c3) rfl rfl (AB (BJ (vI ((CB d.ops o).2)) rfl rfl (AB (AG (c3) rfl (AB (AG (vI ((CB d.ops o).2)) rfl (AD (AA (AF (AF (AC kR (AB (AH (vI ((CB d.ops o).2)) rfl (AB (ER .i64 ((CB d.ops o).2) (0:Int) rfl rfl (AD (AA (AP (((CB d.ops o).2) != (0:Int)) rfl rfl (fun i7=>?_) (fun i7=>?_))))))))))))))))))))))
 ·have L1:(CB d.ops o).2≠(0:Int):=by simpa using i7
  refine AF (AC kR (AB (AU (vs:=[vI 0,vI 0,nS,vO false]) U31_ rfl BS rfl a0 rfl (AB (AH (vI ((CB d.ops o).2)) rfl (BU (AR (vs:=[vI 0,vI 0,nS,vO false]) (.agg #[vI 0,vI 0,nS,vO false]) rfl rfl rfl BS (fun u hu=>by simp only [List.mem_cons,List.not_mem_nil,or_false] at hu;rcases hu with rfl|rfl|rfl|rfl <;> rfl) (by repeat (constructor)) a0 oT h1 fun T9 G8 U0 U1 t4=>(AB (AG (vI ((CB d.ops o).2)) rfl (AD (AA (AN (AO (AY rfl (EB rfl (FW (vs:=[vI 0,vI 0,nS,vO false]) rfl U31_ rfl BS rfl t4 rfl) (FX rfl rfl)) (?_)))))))))))))))
  have G9:((AK d o crash).1)=(⟨(0:Int),(0:Int),[],false⟩:Device):=by exact congrArg (fun p=>p.1) (show AK d o crash=_ from act_6 hcr.1 hcr.2 hfm hhw.1 hhw.2 hdn.1 hdn.2 hsn aS)
  have H0:((AK d o crash).2)=((CB d.ops o).2):=by exact congrArg (fun p=>p.2) (show AK d o crash=_ from act_6 hcr.1 hcr.2 hfm hhw.1 hhw.2 hdn.1 hdn.2 hsn aS)
  exact ⟨_,rfl,G8.keep,by rw [G9,H0];exact ⟨[vI 0,vI 0,nS,vO false],rfl,Enc.out (B:=(b7 :: (b5 :: (b3 :: (b1 :: (a8 :: (a1 :: (a5 :: [])))))))) ⟨.slice none 0 0,rfl,(CG.nil _ _ _)⟩⟩⟩
 have L2:(CB d.ops o).2=(0:Int):=by simpa using i7
 refine AV (AA (AF (AF (AC kR (AB (BB U3_ rfl rfl a4 (AB (IB .i64 crash (1:Int) rfl rfl (AD (AA (AP (decide ((1:Int)≤crash)) rfl rfl (fun i8=>?_) (fun i8=>?_))))))))))))
 ·have L3:(1:Int)≤crash:=by simpa using i8
  refine AC kR (AB (AM 0 CO rfl (AB (AM 1 FT rfl (AB (BA U3_ rfl (vI d.counter) rfl a3 rfl (AB (CJ .i64 d.counter (1:Int) (d.counter+1) rfl rfl (EI oM rfl) (AB (AM 0 CO rfl (AB (AM 1 FT rfl (BU (CS (vI (d.counter+1)) rfl rfl rfl s_3 (by repeat (constructor)) a3 oT h1 fun U2 o2 l5 H1 m1=>(?_)))))))))))))))
  have a4:=a4.mv l5
  have b9:=b9.mv l5
  have a2:=a2.mv l5
  have a0:=a0.keep H1 (AT d2)
  refine AD (AA (AF (AF (AC kR (AB (BB U3_ rfl rfl a4 (AB (DB .i64 crash (2:Int) rfl rfl (AD (AA (AP (crash == (2:Int)) rfl rfl (fun i9=>?_) (fun i9=>?_))))))))))))
  ·have L4:crash=(2:Int):=by simpa using i9
   refine AC kR (AB (AH (c3) rfl (AB (AM 0 CO rfl (AB (AM 2 FC rfl (BU (CS (c3) rfl rfl b9.oneCell s_26 (by repeat (constructor)) m1 oT o2 fun U3 H2 H3 H4 t5=>(?_)))))))))
   have b9:=b9.mv H3
   have a0:=a0.keep H4 (AT d2)
   refine AD (AA (AF (AC kR (AB (AM 0 CO rfl (AB (AU (vs:=[vI d.id,vI (d.counter+1),c3,vO d.halted]) U31_ rfl BS rfl t5 rfl (BU (AR (vs:=[vI d.id,vI (d.counter+1),c3,vO d.halted]) (.agg #[vI d.id,vI (d.counter+1),c3,vO d.halted]) rfl rfl rfl BS (fun u hu=>by simp only [List.mem_cons,List.not_mem_nil,or_false] at hu;rcases hu with rfl|rfl|rfl|rfl <;> first|rfl|exact b9.oneCell) (by repeat (constructor)) a0 oT H2 fun U4 H5 H6 U5 t6=>(?_))))))))))
   have b9:=b9.mv H6
   refine AB (AG (vI 0) rfl (AD (AA (AN (AY rfl (EB rfl (FW (vs:=[vI d.id,vI (d.counter+1),c3,vO d.halted]) rfl U31_ rfl BS rfl t6 rfl) (FX rfl rfl)) (?_))))))
   have H7:((AK d o crash).1)=(⟨d.id,d.counter+1,(CB d.ops o).1,d.halted⟩:Device):=by exact congrArg (fun p=>p.1) (show AK d o crash=_ from act_72 hcr.1 hcr.2 hfm hhw.1 hhw.2 hdn.1 hdn.2 hsn aS aS)
   have H8:((AK d o crash).2)=(0:Int):=by exact congrArg (fun p=>p.2) (show AK d o crash=_ from act_72 hcr.1 hcr.2 hfm hhw.1 hhw.2 hdn.1 hdn.2 hsn aS aS)
   exact ⟨_,rfl,H5.keep,by rw [H7,H8];exact ⟨[vI d.id,vI (d.counter+1),c3,vO d.halted],rfl,Enc.out (B:=(b7 :: (b5 :: (b3 :: (b1 :: (a8 :: (a1 :: (a5 :: [])))))))) ⟨_,rfl,b9⟩⟩⟩
  have L5:crash≠(2:Int):=by simpa using i9
  refine AV (AA (AF (AC kR (AB (AM 0 CO rfl (AB (AU (vs:=[vI d.id,vI (d.counter+1),b2,vO d.halted]) U31_ rfl BS rfl m1 rfl (BU (AR (vs:=[vI d.id,vI (d.counter+1),b2,vO d.halted]) (.agg #[vI d.id,vI (d.counter+1),b2,vO d.halted]) rfl rfl rfl BS (fun u hu=>by simp only [List.mem_cons,List.not_mem_nil,or_false] at hu;rcases hu with rfl|rfl|rfl|rfl <;> first|rfl|exact a2.oneCell) (by repeat (constructor)) a0 oT o2 fun U6 H9 I0 U7 t7=>(?_))))))))))
  have a2:=a2.mv I0
  refine AB (AG (vI 0) rfl (AD (AA (AN (AY rfl (EB rfl (FW (vs:=[vI d.id,vI (d.counter+1),b2,vO d.halted]) rfl U31_ rfl BS rfl t7 rfl) (FX rfl rfl)) (?_))))))
  have I1:((AK d o crash).1)=(⟨d.id,d.counter+1,d.ops,d.halted⟩:Device):=by exact congrArg (fun p=>p.1) (show AK d o crash=_ from act_71 hcr.1 hcr.2 hfm hhw.1 hhw.2 hdn.1 hdn.2 hsn aS aS aS)
  have I2:((AK d o crash).2)=(0:Int):=by exact congrArg (fun p=>p.2) (show AK d o crash=_ from act_71 hcr.1 hcr.2 hfm hhw.1 hhw.2 hdn.1 hdn.2 hsn aS aS aS)
  exact ⟨_,rfl,H9.keep,by rw [I1,I2];exact ⟨[vI d.id,vI (d.counter+1),b2,vO d.halted],rfl,Enc.out (B:=(b7 :: (b5 :: (b3 :: (b1 :: (a8 :: (a1 :: (a5 :: [])))))))) ⟨_,rfl,a2⟩⟩⟩
 have L6:crash<(1:Int):=by simpa using i8
 refine AV (AA (AF (AF (AC kR (AB (BB U3_ rfl rfl a4 (AB (DB .i64 crash (2:Int) rfl rfl (AD (AA (AP (crash == (2:Int)) rfl rfl (fun j0=>?_) (fun j0=>?_))))))))))))
 ·have L7:crash=(2:Int):=by simpa using j0
  refine AC kR (AB (AH (c3) rfl (AB (AM 0 CO rfl (AB (AM 2 FC rfl (BU (CS (c3) rfl rfl b9.oneCell s_26 (by repeat (constructor)) a3 oT h1 fun U8 I3 I4 I5 t8=>(?_)))))))))
  have b9:=b9.mv I4
  have a0:=a0.keep I5 (AT d2)
  refine AD (AA (AF (AC kR (AB (AM 0 CO rfl (AB (AU (vs:=[vI d.id,vI d.counter,c3,vO d.halted]) U31_ rfl BS rfl t8 rfl (BU (AR (vs:=[vI d.id,vI d.counter,c3,vO d.halted]) (.agg #[vI d.id,vI d.counter,c3,vO d.halted]) rfl rfl rfl BS (fun u hu=>by simp only [List.mem_cons,List.not_mem_nil,or_false] at hu;rcases hu with rfl|rfl|rfl|rfl <;> first|rfl|exact b9.oneCell) (by repeat (constructor)) a0 oT I3 fun U9 I6 I7 V0 t9=>(?_))))))))))
  have b9:=b9.mv I7
  refine AB (AG (vI 0) rfl (AD (AA (AN (AY rfl (EB rfl (FW (vs:=[vI d.id,vI d.counter,c3,vO d.halted]) rfl U31_ rfl BS rfl t9 rfl) (FX rfl rfl)) (?_))))))
  have I8:((AK d o crash).1)=(⟨d.id,d.counter,(CB d.ops o).1,d.halted⟩:Device):=by (exfalso;omega)
  have I9:((AK d o crash).2)=(0:Int):=by (exfalso;omega)
  exact ⟨_,rfl,I6.keep,by rw [I8,I9];exact ⟨[vI d.id,vI d.counter,c3,vO d.halted],rfl,Enc.out (B:=(b7 :: (b5 :: (b3 :: (b1 :: (a8 :: (a1 :: (a5 :: [])))))))) ⟨_,rfl,b9⟩⟩⟩
 have L8:crash≠(2:Int):=by simpa using j0
 refine AV (AA (AF (AC kR (AB (AM 0 CO rfl (AB (AU (vs:=[vI d.id,vI d.counter,b2,vO d.halted]) U31_ rfl BS rfl a3 rfl (BU (AR (vs:=[vI d.id,vI d.counter,b2,vO d.halted]) (.agg #[vI d.id,vI d.counter,b2,vO d.halted]) rfl rfl rfl BS (fun u hu=>by simp only [List.mem_cons,List.not_mem_nil,or_false] at hu;rcases hu with rfl|rfl|rfl|rfl <;> first|rfl|exact a2.oneCell) (by repeat (constructor)) a0 oT h1 fun V1 J0 J1 V2 u0=>(?_))))))))))
 have a2:=a2.mv J1
 refine AB (AG (vI 0) rfl (AD (AA (AN (AY rfl (EB rfl (FW (vs:=[vI d.id,vI d.counter,b2,vO d.halted]) rfl U31_ rfl BS rfl u0 rfl) (FX rfl rfl)) (?_))))))
 have J2:((AK d o crash).1)=d:=by exact congrArg (fun p=>p.1) (show AK d o crash=_ from act_70 hcr.1 hcr.2 hfm hhw.1 hhw.2 hdn.1 hdn.2 hsn aS aS)
 have J3:((AK d o crash).2)=(0:Int):=by exact congrArg (fun p=>p.2) (show AK d o crash=_ from act_70 hcr.1 hcr.2 hfm hhw.1 hhw.2 hdn.1 hdn.2 hsn aS aS)
 exact ⟨_,rfl,J0.keep,by rw [J2,J3];exact ⟨[vI d.id,vI d.counter,b2,vO d.halted],rfl,Enc.out (B:=(b7 :: (b5 :: (b3 :: (b1 :: (a8 :: (a1 :: (a5 :: [])))))))) ⟨_,rfl,a2⟩⟩⟩
open Go.Fw Go.RowKit
set_option maxHeartbeats 4000000 in
set_option maxRecDepth 100000 in
theorem c_state {O:List Nat} (l_v:Value) (l:List DeviceOp) (copies:Int) (first:Int) (w:World) (a2:CG Enc.devop w O l_v l) (hO:∀ b∈O,b<w.heap.size):BV Try.prog 24 [l_v,vI copies,vI first] w (fun v w'=>∃ (x0:Value),v = .tuple #[x0,vI ((AX l copies first).2)]∧CG Enc.holding w' (O) x0 ((AX l copies first).1)):= by
 have u1:=a2.len_le
 have a2:CG Enc.devop w ([]++O) l_v l:=a2
 have s0:St w O w []:=St.start hO
 refine BI 62 Try.func24 rfl rfl oT (fun F0=>AF (AC kR (AB (CQ (E:=Enc.int) (vI first) ([vI first]) first rfl rfl rfl s0 fun b1 m4 h1 m5 u2 a0=>(?_)))))
 have a2:=a2.mv m5
 refine AB (AG (.slice none 0 0) rfl (AB (AG (vI 0) rfl (AD (AA (AF (AF (AC kR (AB (AH (l_v) rfl (AB (BD (vs:=[l_v]) ME (KG (O:=[]++O) l_v l m4 a2 h1.lt) rfl h1 fun u3 m6 c5 h2 u4 m7=>(?_)))))))))))))
 obtain rfl:=m7
 have a2:=a2.mv h2
 have a0:=a0.mv h2
 refine AB (ER .i64 (CE l) (0:Int) rfl rfl (AD (AA (AP ((CE l) != (0:Int)) rfl rfl (fun d4=>?_) (fun d4=>?_)))))
 ·have r2:CE l≠(0:Int):=by simpa using d4
  refine AF (AC kR (AB (AG (.slice none 0 0) rfl (AB (AG (vI 420) rfl (AD (AA (AN (AO (AY rfl (KL rfl rfl rfl rfl) (?_)))))))))))
  have m8:((AX l copies first).1)=([]):=by exact congrArg (fun p=>p.1) (show AX l copies first=_ from state_1 aS)
  have m9:((AX l copies first).2)=(420:Int):=by exact congrArg (fun p=>p.2) (show AX l copies first=_ from state_1 aS)
  exact ⟨_,rfl,c5.keep,by rw [m8,m9];exact ⟨.slice none 0 0,rfl,CG.nil _ _ _⟩⟩
 have j4:CE l=(0:Int):=by simpa using d4
 have hchk:CE l=0:=j4
 have hchk_1:=(JH hchk).1
 refine AV (AA (AF (AF (AC kR (AB (AH (vI copies) rfl (AB (DG .i64 copies (0:Int) rfl rfl (AB (AH (vO (decide (copies<(0:Int)))) rfl (?_)))))))))))
 cases f9:(decide (copies<(0:Int)))
 ·have r3:(0:Int)≤copies:=by simpa using f9
  refine BC rfl (AH (vI copies) rfl (BC rfl (HC .i64 copies (1024:Int) rfl rfl (AB (BG (vO (decide ((1024:Int)<copies))) rfl rfl (AB (AH (vO (decide ((1024:Int)<copies))) rfl (?_))))))))
  cases g0:(decide ((1024:Int)<copies))
  ·have r4:copies≤(1024:Int):=by simpa using g0
   refine BC rfl (BB U3_ rfl rfl a0 (BC rfl (BD (vs:=[vI first]) MZ (IT (O:=[]++O) first m6 c5.lt) rfl c5 fun u5 u6 h3 h4 u7 n0=>(?_))))
   obtain rfl:=n0
   have a2:=a2.mv h4
   have a0:=a0.mv h4
   refine BC rfl (EF (CY first) rfl (AB (BG (vO (!(CY first))) rfl rfl (AD (AA (AP (!(CY first)) rfl rfl (fun d5=>?_) (fun d5=>?_)))))))
   ·have r5:(CY first)=false:=by simpa using d5
    refine AF (AC kR (AB (AG (.slice none 0 0) rfl (AB (AG (vI 1) rfl (AD (AA (AN (AO (AY rfl (KL rfl rfl rfl rfl) (?_)))))))))))
    have n1:((AX l copies first).1)=([]):=by exact congrArg (fun p=>p.1) (show AX l copies first=_ from state_4 aS aS)
    have n2:((AX l copies first).2)=(1:Int):=by exact congrArg (fun p=>p.2) (show AX l copies first=_ from state_4 aS aS)
    exact ⟨_,rfl,h3.keep,by rw [n1,n2];exact ⟨.slice none 0 0,rfl,CG.nil _ _ _⟩⟩
   have r6:(CY first)=true:=by simpa using d5
   refine AV (AA (AF (AC kR (AB (MB vI DM h3 fun a4 u9 n3 n4 h5 v0 b8=>(?_))))))
   clear n3
   have a2:=a2.mv h5
   have a0:=a0.mv h5
   refine AB (BW [.map none] z_97 rfl n4 fun a5 v1 n5 n6 h6 n7 j5=>(?_))
   have d6:CU a4 a5:=by show a4≠a5;have:=b8.lt;omega
   clear n5
   have a2:=a2.mv h6
   have a0:=a0.mv h6
   have b8:=b8.keep n7 (by simp)
   refine BU (CS (Value.map (some a4)) rfl rfl rfl s_97 (by repeat (constructor)) j5 oT n6 fun v2 n8 h7 n9 a1=>(?_))
   have a2:=a2.mv h7
   have a0:=a0.mv h7
   have b8:=b8.keep n9 (AT d6)
   refine AD (AA (AF (AC kR (AB (EE (first:=[]) (captured:=[.tmp 8, .tmp 5]) [] [vP (some ⟨a5,0,none⟩),vP (some b1)] rfl rfl (AB (AG (vN (.func 64) #[] #[vP (some ⟨a5,0,none⟩),vP (some b1)]) rfl (AD (AA (AF (AF (AC kR (AB (AH (l_v) rfl (AB (DI U26_ rfl a2 (AB (AH (vI 0) rfl (AD (AA (BP (DW (fun mI FI wI=>∃ (k:Nat) (B:List Nat),k≤l.length∧mI=l.length - k∧(∃ F1,FI=FQ F1 [(1,vI copies),(5,vP (some b1)),(6,nS),(8,vP (some ⟨a5,0,none⟩)),(9,vN (.func 64) #[] #[vP (some ⟨a5,0,none⟩),vP (some b1)]),(31,l_v),(32,vI (l.length:Int)),(33,vI ((k:Nat):Int)),(62,undef)])∧St w O wI B∧PT Enc.int wI (B++O) (.pointer (some b1)) (first)∧CG Enc.devop wI (B++O) (l_v) (l)∧JC vI DM wI a4 (mapM l first k)∧a4∈B∧EA wI a5 97 [Value.map (some a4)]∧a5∈B) (l.length - (0)) ?_ ?_))))))))))))))))))))))
   ·exact ⟨(0),(a5 :: (a4 :: [])),oM,rfl,⟨_,AQ _ ⟨rfl,rfl,rfl,rfl,rfl,rfl,rfl,(by rfl),rfl,trivial⟩⟩,n8,a0,a2,(by rw [show mapM l first (0)=noM from rfl];exact b8),(by (repeat (first|exact List.mem_cons_self|apply List.mem_cons_of_mem))),a1,(by (repeat (exact List.mem_cons_self)))⟩
   intro y5 F y6 hI
   clear a0 a2 a1
   obtain ⟨k,j6,hr0_0,y7,⟨y8,rfl⟩,q7,a0,a2,hbx_0_b1212,b6,a1,b7⟩:=hI
   refine AF (AC kR (AB (DG .i64 ((k:Nat):Int) (l.length:Int) rfl rfl (AD (AA (AF (AP (decide (((k:Nat):Int)<(l.length:Int))) rfl rfl (fun d7=>?_) (fun d7=>?_))))))))
   ·have r7:((k:Nat):Int)<(l.length:Int):=by simpa using d7
    refine AV (AA (AF (BP (AF (AC kR (AB (DO U26_ CH .i64 ((k:Nat):Int) k rfl rfl rfl a2 oM fun o0 a6=>(AB (BZ U40_ rfl CH rfl a6 fun r8 j7=>(?_))))))))))
    obtain rfl:=j7
    refine AB (BW [vI 0,vI 0,vI 0,vI 0,vI 0,vI 0] HV rfl q7 fun b4 v3 o1 o2 e6 h8 j8=>(?_))
    have j9:CU a4 b4:=by show a4≠b4;have:=hbx_0_b1212.lt;omega
    have k0:CU a5 b4:=by show a5≠b4;have:=a1.lt;omega
    clear o1
    have a0:=a0.mv e6
    have a2:=a2.mv e6
    have a6:=a6.mv e6
    have hbx_0_b1212:=hbx_0_b1212.keep h8 (by simp)
    have a1:=a1.keep h8 (by simp)
    refine BU (AR (vs:=[vI ((l[k]!).device),vI ((l[k]!).no),vI ((l[k]!).kind),vI ((l[k]!).copy),vI ((l[k]!).to),vI ((l[k]!).token)]) (.agg #[vI ((l[k]!).device),vI ((l[k]!).no),vI ((l[k]!).kind),vI ((l[k]!).copy),vI ((l[k]!).to),vI ((l[k]!).token)]) rfl rfl rfl CH (fun u hu=>by simp only [List.mem_cons,List.not_mem_nil,or_false] at hu;rcases hu with rfl|rfl|rfl|rfl|rfl|rfl <;> rfl) (by repeat (constructor)) j8 oT o2 fun v4 o3 e7 h9 a7=>(?_))
    have a0:=a0.mv e7
    have a2:=a2.mv e7
    have a6:=a6.mv e7
    have hbx_0_b1212:=hbx_0_b1212.keep h9 (AT j9)
    have a1:=a1.keep h9 (AT k0)
    refine AD (AA (AC kR (AB (AH (vN (.func 64) #[] #[vP (some ⟨a5,0,none⟩),vP (some b1)]) rfl (AB (AU (vs:=[vI ((l[k]!).device),vI ((l[k]!).no),vI ((l[k]!).kind),vI ((l[k]!).copy),vI ((l[k]!).to),vI ((l[k]!).token)]) U40_ rfl CH rfl a7 rfl (AB (o_callv [] [vP (some ⟨a5,0,none⟩),vP (some b1)] [vA #[vI ((l[k]!).device),vI ((l[k]!).no),vI ((l[k]!).kind),vI ((l[k]!).copy),vI ((l[k]!).to),vI ((l[k]!).token)]] _ enter_64 rfl rfl (FD 50 Try.func64 rfl rfl oT (fun v5=>AF (AC kR (AB (CQ (E:=Enc.devop) (vA #[vI ((l[k]!).device),vI ((l[k]!).no),vI ((l[k]!).kind),vI ((l[k]!).copy),vI ((l[k]!).to),vI ((l[k]!).token)]) ([vI ((l[k]!).device),vI ((l[k]!).no),vI ((l[k]!).kind),vI ((l[k]!).copy),vI ((l[k]!).to),vI ((l[k]!).token)]) (l[k]!) rfl rfl rfl o3 fun i0 v6 o4 e8 e9 a3=>(?_)))))) (fun _ _ h=>h)))))))))
    have a0:=a0.mv e8
    have a2:=a2.mv e8
    have a6:=a6.mv e8
    have hbx_0_b1212:=hbx_0_b1212.keep e9 (by simp)
    have a1:=a1.keep e9 (by simp)
    have a7:=a7.keep e9 (by simp)
    refine AD (AA (AF (AC kR (AB (BA U97_ rfl (Value.map (some a4)) rfl a1 rfl (AB (AS 3 FU ((l[k]!).copy) rfl a3 (fun _ _ _ h=>CR h) fun v7 k1=>(AB (BB U3_ rfl rfl k1 (AB (o_lookV2 (enc:=vI) (venc:=DM) (k:=((l[k]!).copy)) (z0:=(⟨(0:Int),(0:Int),(0:Int),false⟩:Holding)) U97_ (LH U3_) kR rfl rfl hbx_0_b1212 (AB (AH (vT #[vA #[vI ((((mapM l first k) ((l[k]!).copy)).getD (⟨(0:Int),(0:Int),(0:Int),false⟩:Holding)).copy),vI ((((mapM l first k) ((l[k]!).copy)).getD (⟨(0:Int),(0:Int),(0:Int),false⟩:Holding)).device),vI ((((mapM l first k) ((l[k]!).copy)).getD (⟨(0:Int),(0:Int),(0:Int),false⟩:Holding)).token),vO ((((mapM l first k) ((l[k]!).copy)).getD (⟨(0:Int),(0:Int),(0:Int),false⟩:Holding)).shown)],vO (((mapM l first k) ((l[k]!).copy)).isSome)]) rfl (AB (BJ (vA #[vI ((((mapM l first k) ((l[k]!).copy)).getD (⟨(0:Int),(0:Int),(0:Int),false⟩:Holding)).copy),vI ((((mapM l first k) ((l[k]!).copy)).getD (⟨(0:Int),(0:Int),(0:Int),false⟩:Holding)).device),vI ((((mapM l first k) ((l[k]!).copy)).getD (⟨(0:Int),(0:Int),(0:Int),false⟩:Holding)).token),vO ((((mapM l first k) ((l[k]!).copy)).getD (⟨(0:Int),(0:Int),(0:Int),false⟩:Holding)).shown)]) rfl rfl (AB (BJ (vO (((mapM l first k) ((l[k]!).copy)).isSome)) rfl rfl (AB (BW [vI 0,vI 0,vI 0,vO false] z_47 rfl o4 fun b3 v8 o5 o6 c9 f0 k2=>(?_))))))))))))))))))))
    have c2:CU a4 b3:=by show a4≠b3;have:=hbx_0_b1212.lt;omega
    have c3:CU a5 b3:=by show a5≠b3;have:=a1.lt;omega
    have g1:CU b4 b3:=by show b4≠b3;have:=a7.lt;omega
    clear o5
    have a0:=a0.mv c9
    have a3:=a3.mv c9
    have a2:=a2.mv c9
    have a6:=a6.mv c9
    have hbx_0_b1212:=hbx_0_b1212.keep f0 (by simp)
    have a1:=a1.keep f0 (by simp)
    have a7:=a7.keep f0 (by simp)
    refine BU (AR (vs:=[vI ((((mapM l first k) ((l[k]!).copy)).getD (⟨(0:Int),(0:Int),(0:Int),false⟩:Holding)).copy),vI ((((mapM l first k) ((l[k]!).copy)).getD (⟨(0:Int),(0:Int),(0:Int),false⟩:Holding)).device),vI ((((mapM l first k) ((l[k]!).copy)).getD (⟨(0:Int),(0:Int),(0:Int),false⟩:Holding)).token),vO ((((mapM l first k) ((l[k]!).copy)).getD (⟨(0:Int),(0:Int),(0:Int),false⟩:Holding)).shown)]) (.agg #[vI ((((mapM l first k) ((l[k]!).copy)).getD (⟨(0:Int),(0:Int),(0:Int),false⟩:Holding)).copy),vI ((((mapM l first k) ((l[k]!).copy)).getD (⟨(0:Int),(0:Int),(0:Int),false⟩:Holding)).device),vI ((((mapM l first k) ((l[k]!).copy)).getD (⟨(0:Int),(0:Int),(0:Int),false⟩:Holding)).token),vO ((((mapM l first k) ((l[k]!).copy)).getD (⟨(0:Int),(0:Int),(0:Int),false⟩:Holding)).shown)]) rfl rfl rfl MG (fun u hu=>by simp only [List.mem_cons,List.not_mem_nil,or_false] at hu;rcases hu with rfl|rfl|rfl|rfl <;> rfl) (by repeat (constructor)) k2 oT o6 fun v9 i1 d0 f1 g2=>(?_))
    have a0:=a0.mv d0
    have a3:=a3.mv d0
    have a2:=a2.mv d0
    have a6:=a6.mv d0
    have hbx_0_b1212:=hbx_0_b1212.keep f1 (AT c2)
    have a1:=a1.keep f1 (AT c3)
    have a7:=a7.keep f1 (AT g1)
    refine AB (AG (vO (((mapM l first k) ((l[k]!).copy)).isSome)) rfl (AD (AA (IH (fun FI wI=>∃ (h:Holding) (B:List Nat),h=((mapM l first k l[k]!.copy).getD (EO l[k]!.copy first))∧0≤h.token∧h.token≤65536∧True∧(∃ F1,FI=FQ F1 [(1,vP (some ⟨a5,0,none⟩)),(3,vP (some i0)),(4,vP (some ⟨b3,0,none⟩)),(50,undef)])∧St w O wI B∧PT Enc.devop wI (B++O) (.pointer (some i0)) ((l[k]!))∧PT Enc.int wI (B++O) (.pointer (some b1)) (first)∧CG Enc.devop wI (B++O) (l_v) (l)∧PT Enc.devop wI (B++O) (.pointer (some o0)) (l[k]!)∧JC vI DM wI a4 (mapM l first k)∧a4∈B∧EA wI a5 97 [Value.map (some a4)]∧a5∈B∧EA wI b4 40 [vI ((l[k]!).device),vI ((l[k]!).no),vI ((l[k]!).kind),vI ((l[k]!).copy),vI ((l[k]!).to),vI ((l[k]!).token)]∧b4∈B∧EA wI b3 47 [vI h.copy,vI h.device,vI h.token,vO h.shown]∧b3∈B) ?_ ?_))))
    ·refine AF (AC kR (AB (AH (vO (((mapM l first k) ((l[k]!).copy)).isSome)) rfl (AB (EF (((mapM l first k) ((l[k]!).copy)).isSome) rfl (AD (AA (AP (!(((mapM l first k) ((l[k]!).copy)).isSome)) rfl rfl (fun d8=>?_) (fun d8=>?_)))))))))
     ·have r9:(((mapM l first k) ((l[k]!).copy)).isSome)=false:=by simpa using d8
      refine AC kR (AB (AS 3 FU ((l[k]!).copy) rfl a3 (fun _ _ _ h=>CR h) fun w0 k3=>(AB (BB U3_ rfl rfl k3 (AB (BB U3_ rfl rfl a0 (AB (DP (l:=[(0, .tmp 16),(1, .tmp 17)]) pl_47 z_47 rfl [(0,vI ((l[k]!).copy),[vI ((l[k]!).copy)]),(1,vI first,[vI first])] [vI ((l[k]!).copy),vI first,vI 0,vO false] rfl ⟨_,rfl,rfl,oT,⟨_,rfl,rfl,oT,rfl⟩⟩ (BU (AR (vs:=[vI ((l[k]!).copy),vI first,vI 0,vO false]) (.agg #[vI ((l[k]!).copy),vI first,vI 0,vO false]) rfl rfl rfl MG (fun u hu=>by simp only [List.mem_cons,List.not_mem_nil,or_false] at hu;rcases hu with rfl|rfl|rfl|rfl <;> rfl) (by repeat (constructor)) g2 oT i1 fun w1 o7 d1 f2 k4=>(?_)))))))))))
      have a0:=a0.mv d1
      have a3:=a3.mv d1
      have a2:=a2.mv d1
      have a6:=a6.mv d1
      have hbx_0_b1212:=hbx_0_b1212.keep f2 (AT c2)
      have a1:=a1.keep f2 (AT c3)
      have a7:=a7.keep f2 (AT g1)
      refine AD (AA (?_))
      exact ⟨(((mapM l first k l[k]!.copy).getD (EO l[k]!.copy first))),(b3 :: (b4 :: j6)),rfl,(LK ((DT l).1 hchk) oM rfl).1,(LK ((DT l).1 hchk) oM rfl).2,trivial,⟨_,AQ _ ⟨rfl,rfl,rfl,rfl,trivial⟩⟩,o7,a3,a0,a2,a6,hbx_0_b1212,(by (repeat (first|assumption|apply List.mem_cons_of_mem))),a1,(by (repeat (first|assumption|apply List.mem_cons_of_mem))),a7,(by (repeat (first|exact List.mem_cons_self|apply List.mem_cons_of_mem))),(by rw [show ([vI ((((mapM l first k l[k]!.copy).getD (EO l[k]!.copy first))).copy),vI ((((mapM l first k l[k]!.copy).getD (EO l[k]!.copy first))).device),vI ((((mapM l first k l[k]!.copy).getD (EO l[k]!.copy first))).token),vO ((((mapM l first k l[k]!.copy).getD (EO l[k]!.copy first))).shown)]:List Value)=[vI ((l[k]!).copy),vI first,vI 0,vO false] from by (rw [← NH aS];rfl)];exact k4),(by (repeat (exact List.mem_cons_self)))⟩
     have s1:(((mapM l first k) ((l[k]!).copy)).isSome)=true:=by simpa using d8
     refine AV (AA (?_))
     exact ⟨(((mapM l first k l[k]!.copy).getD (EO l[k]!.copy first))),(b3 :: (b4 :: j6)),rfl,(LK ((DT l).1 hchk) oM rfl).1,(LK ((DT l).1 hchk) oM rfl).2,trivial,⟨_,AQ _ ⟨rfl,rfl,rfl,rfl,trivial⟩⟩,i1,a3,a0,a2,a6,hbx_0_b1212,(by (repeat (first|assumption|apply List.mem_cons_of_mem))),a1,(by (repeat (first|assumption|apply List.mem_cons_of_mem))),a7,(by (repeat (first|exact List.mem_cons_self|apply List.mem_cons_of_mem))),(by rw [show ([vI ((((mapM l first k l[k]!.copy).getD (EO l[k]!.copy first))).copy),vI ((((mapM l first k l[k]!.copy).getD (EO l[k]!.copy first))).device),vI ((((mapM l first k l[k]!.copy).getD (EO l[k]!.copy first))).token),vO ((((mapM l first k l[k]!.copy).getD (EO l[k]!.copy first))).shown)]:List Value)=[vI ((((mapM l first k) ((l[k]!).copy)).getD (⟨(0:Int),(0:Int),(0:Int),false⟩:Holding)).copy),vI ((((mapM l first k) ((l[k]!).copy)).getD (⟨(0:Int),(0:Int),(0:Int),false⟩:Holding)).device),vI ((((mapM l first k) ((l[k]!).copy)).getD (⟨(0:Int),(0:Int),(0:Int),false⟩:Holding)).token),vO ((((mapM l first k) ((l[k]!).copy)).getD (⟨(0:Int),(0:Int),(0:Int),false⟩:Holding)).shown)] from by (rw [NI (z:=(⟨0,0,0,false⟩:Holding)) (d:=EO l[k]!.copy first) aS])];exact g2),(by (repeat (exact List.mem_cons_self)))⟩
    intro F s2 hI
    clear a3 a0 a2 a6 hbx_0_b1212 a1 a7
    obtain ⟨h,c4,b5,r0,r1,s3,⟨s4,rfl⟩,c6,a3,a0,a2,a6,hbx_0_b1212,b6,a1,b7,a7,q8,b0,q9⟩:=hI
    refine AF (AF (AC kR (AB (AS 5 MV ((l[k]!).token) rfl a3 (fun _ _ _ h=>FP h) fun w2 k5=>(AB (BB U3_ rfl rfl k5 (AB (AM 2 f_47_2 rfl (AB (BA U3_ rfl (vI h.token) rfl b0 rfl (AB (CJ .i64 h.token (1:Int) (h.token+1) rfl rfl (EI oM oM) (AB (ER .i64 ((l[k]!).token) (h.token+1) rfl rfl (AB (AH (vO (((l[k]!).token) != (h.token+1))) rfl (?_)))))))))))))))))
    cases g3:(((l[k]!).token) != (h.token+1))
    ·have s5:(l[k]!).token=h.token+1:=by simpa using g3
     refine BC rfl (AS 0 KI ((l[k]!).device) rfl a3 (fun _ _ _ h=>FN h) fun w3 k6=>(BC rfl (BB U3_ rfl rfl k6 (BC rfl (AM 1 f_47_1 rfl (BC rfl (BA U3_ rfl (vI h.device) rfl b0 rfl (BC rfl (ER .i64 ((l[k]!).device) h.device rfl rfl (AB (BG (vO (((l[k]!).device) != h.device)) rfl rfl (AB (AH (vO (((l[k]!).device) != h.device)) rfl (?_))))))))))))))
     cases g4:(((l[k]!).device) != h.device)
     ·have s6:(l[k]!).device=h.device:=by simpa using g4
      refine BC rfl (AM 3 f_47_3 rfl (BC rfl (BA U4_ rfl (vO h.shown) rfl b0 rfl (AB (BG (vO h.shown) rfl rfl (AD (AA (AP (h.shown) rfl rfl (fun d9=>?_) (fun d9=>?_)))))))))
      ·have s7:h.shown=true:=by simpa using d9
       refine AN (AO (AY rfl (res0 rfl) (Exists.intro _ (And.intro rfl (AD (BE (AA (AC kR (AB (CJ .i64 ((k:Nat):Int) (1:Int) (((k+1:Nat):Int)) rfl rfl (EI oM oM) (AB (AH (vI ((k+1:Nat):Int)) rfl (AD (AA (?_)))))))))))))))
       exact ⟨_,oM,(k+1),c4,oM,rfl,⟨_,AQ _ ⟨rfl,rfl,rfl,rfl,rfl,rfl,rfl,(by rfl),rfl,trivial⟩⟩,c6,a0,a2,(by rw [show mapM l first (k+1)=mapM l first k from by exact MX b5 (by exact .inr (.inr aS))];exact hbx_0_b1212),aS,a1,aS⟩
      have s8:h.shown=false:=by simpa using d9
      refine AV (AA (AF (AC kR (AB (AS 5 MV ((l[k]!).token) rfl a3 (fun _ _ _ h=>FP h) fun w4 k7=>(AB (BB U3_ rfl rfl k7 (AB (AM 2 f_47_2 rfl (BU (CS (vI ((l[k]!).token)) rfl rfl rfl s_3 (by repeat (assumption)) b0 oT c6 fun w5 i2 f3 i3 g5=>(?_))))))))))))
      have a3:=a3.mv f3
      have a0:=a0.mv f3
      have a2:=a2.mv f3
      have hbx_0_b1212:=hbx_0_b1212.keep i3 (AT c2)
      have a1:=a1.keep i3 (AT c3)
      refine AD (AA (AF (AF (AC kR (AB (AS 2 HM ((l[k]!).kind) rfl a3 (fun _ _ _ h=>DU h) fun w6 k8=>(AB (BB U3_ rfl rfl k8 (AB (DB .i64 ((l[k]!).kind) (2:Int) rfl rfl (AD (AA (AP (((l[k]!).kind) == (2:Int)) rfl rfl (fun e0=>?_) (fun e0=>?_))))))))))))))
      ·have s9:(l[k]!).kind=(2:Int):=by simpa using e0
       refine AC kR (AB (AM 3 f_47_3 rfl (BU (CS (vO true) rfl rfl rfl s_4 (by repeat (assumption)) g5 oT i2 fun w7 o8 f4 i4 k9=>(?_)))))
       have a3:=a3.mv f4
       have a0:=a0.mv f4
       have a2:=a2.mv f4
       have hbx_0_b1212:=hbx_0_b1212.keep i4 (AT c2)
       have a1:=a1.keep i4 (AT c3)
       refine AD (AA (AC kR (AB (BA U97_ rfl (Value.map (some a4)) rfl a1 rfl (AB (AS 3 FU ((l[k]!).copy) rfl a3 (fun _ _ _ h=>CR h) fun w8 l0=>(AB (BB U3_ rfl rfl l0 (AB (AU (vs:=[vI h.copy,vI h.device,vI ((l[k]!).token),vO true]) U47_ rfl MG rfl k9 rfl (BU (o_updV (enc:=vI) (venc:=DM) (k:=((l[k]!).copy)) (a:=(⟨h.copy,h.device,(l[k]!).token,true⟩:Holding)) U97_ (LH U3_) rfl rfl rfl hbx_0_b1212 (by repeat (assumption)) o8 fun w9 o9 i5 p0 l1=>(?_)))))))))))))
       have a0:=a0.mv i5
       have a2:=a2.mv i5
       have a1:=a1.keep p0 (AT (Ne.symm d6))
       refine AD (end_n rfl (res0 rfl) (Exists.intro _ (And.intro rfl (AD (BE (AA (AC kR (AB (CJ .i64 ((k:Nat):Int) (1:Int) (((k+1:Nat):Int)) rfl rfl (EI oM oM) (AB (AH (vI ((k+1:Nat):Int)) rfl (AD (AA (?_))))))))))))))
       exact ⟨_,oM,(k+1),c4,oM,rfl,⟨_,AQ _ ⟨rfl,rfl,rfl,rfl,rfl,rfl,rfl,(by rfl),rfl,trivial⟩⟩,o9,a0,a2,(by rw [show mapM l first (k+1)=upM (mapM l first k) ((l[k]!).copy) (⟨h.copy,h.device,(l[k]!).token,true⟩:Holding) from by exact map_show b5 aS aS aS aS];exact l1),aS,a1,aS⟩
      have t0:(l[k]!).kind≠(2:Int):=by simpa using e0
      refine AC kR (AB (AS 4 KM ((l[k]!).to) rfl a3 (fun _ _ _ h=>FK h) fun x1 l2=>(AB (BB U3_ rfl rfl l2 (AB (AM 1 f_47_1 rfl (BU (CS (vI ((l[k]!).to)) rfl rfl rfl s_3 (by repeat (assumption)) g5 oT i2 fun x2 p1 f5 i6 l3=>(?_)))))))))
      have a3:=a3.mv f5
      have a0:=a0.mv f5
      have a2:=a2.mv f5
      have hbx_0_b1212:=hbx_0_b1212.keep i6 (AT c2)
      have a1:=a1.keep i6 (AT c3)
      refine AD (AA (AC kR (AB (BA U97_ rfl (Value.map (some a4)) rfl a1 rfl (AB (AS 3 FU ((l[k]!).copy) rfl a3 (fun _ _ _ h=>CR h) fun x3 l4=>(AB (BB U3_ rfl rfl l4 (AB (AU (vs:=[vI h.copy,vI ((l[k]!).to),vI ((l[k]!).token),vO h.shown]) U47_ rfl MG rfl l3 rfl (BU (o_updV (enc:=vI) (venc:=DM) (k:=((l[k]!).copy)) (a:=(⟨h.copy,(l[k]!).to,(l[k]!).token,h.shown⟩:Holding)) U97_ (LH U3_) rfl rfl rfl hbx_0_b1212 (by repeat (assumption)) p1 fun x4 p2 i7 p3 l5=>(?_)))))))))))))
      have a0:=a0.mv i7
      have a2:=a2.mv i7
      have a1:=a1.keep p3 (AT (Ne.symm d6))
      refine AD (end_n rfl (res0 rfl) (Exists.intro _ (And.intro rfl (AD (BE (AA (AC kR (AB (CJ .i64 ((k:Nat):Int) (1:Int) (((k+1:Nat):Int)) rfl rfl (EI oM oM) (AB (AH (vI ((k+1:Nat):Int)) rfl (AD (AA (?_))))))))))))))
      exact ⟨_,oM,(k+1),c4,oM,rfl,⟨_,AQ _ ⟨rfl,rfl,rfl,rfl,rfl,rfl,rfl,(by rfl),rfl,trivial⟩⟩,p2,a0,a2,(by rw [show mapM l first (k+1)=upM (mapM l first k) ((l[k]!).copy) (⟨h.copy,(l[k]!).to,(l[k]!).token,h.shown⟩:Holding) from by exact map_give b5 aS aS aS aS];exact l5),aS,a1,aS⟩
     have t1:(l[k]!).device≠h.device:=by simpa using g4
     refine AW rfl (AW rfl (AB (BF (vO true) rfl rfl (AD (AA (AP true rfl rfl (fun _=>AN (AO (AY rfl (res0 rfl) (Exists.intro _ (And.intro rfl (AD (BE (AA (AC kR (AB (CJ .i64 ((k:Nat):Int) (1:Int) (((k+1:Nat):Int)) rfl rfl (EI oM oM) (AB (AH (vI ((k+1:Nat):Int)) rfl (AD (AA (?_)))))))))))))))) (fun h=>by cases h)))))))
     exact ⟨_,oM,(k+1),c4,oM,rfl,⟨_,AQ _ ⟨rfl,rfl,rfl,rfl,rfl,rfl,rfl,(by rfl),rfl,trivial⟩⟩,c6,a0,a2,(by rw [show mapM l first (k+1)=mapM l first k from by exact MX b5 (by exact .inr (.inl aS))];exact hbx_0_b1212),aS,a1,aS⟩
    have t2:(l[k]!).token≠h.token+1:=by simpa using g3
    refine AW rfl (AW rfl (AW rfl (AW rfl (AW rfl (AB (BF (vO true) rfl rfl (AB (AH (vO true) rfl (AW rfl (AW rfl (AB (BF (vO true) rfl rfl (AD (AA (AP true rfl rfl (fun _=>AN (AO (AY rfl (res0 rfl) (Exists.intro _ (And.intro rfl (AD (BE (AA (AC kR (AB (CJ .i64 ((k:Nat):Int) (1:Int) (((k+1:Nat):Int)) rfl rfl (EI oM oM) (AB (AH (vI ((k+1:Nat):Int)) rfl (AD (AA (?_)))))))))))))))) (fun h=>by cases h))))))))))))))))
    exact ⟨_,oM,(k+1),c4,oM,rfl,⟨_,AQ _ ⟨rfl,rfl,rfl,rfl,rfl,rfl,rfl,(by rfl),rfl,trivial⟩⟩,c6,a0,a2,(by rw [show mapM l first (k+1)=mapM l first k from by exact MX b5 (by exact .inl aS)];exact hbx_0_b1212),aS,a1,aS⟩
   have t3:(l.length:Int)≤((k:Nat):Int):=by simpa using d7
   obtain rfl:k=l.length:=by omega
   refine DV (CK (CK (DD (AA (AF (AF (AC kR (AB (AH (vI copies) rfl (AB (AH (vI 0) rfl (AD (AA (BP (DW (fun mI FI wI=>∃ (k:Nat) (a8:Value) (B:List Nat),(k:Int)≤copies∧mI=copies.toNat - k∧(∃ F1,FI=FQ F1 [(5,vP (some b1)),(6,a8),(8,vP (some ⟨a5,0,none⟩)),(41,vI copies),(42,vI ((k:Nat):Int)),(62,undef)])∧St w O wI B∧EJ Enc.holding 47 w.heap.size (B++O) wI a8 (ET l first k)∧(∀ b,a8.ownBlock=some b→b∈B)∧PT Enc.int wI (B++O) (.pointer (some b1)) (first)∧JC vI DM wI a4 (mapM l first l.length)∧a4∈B∧EA wI a5 97 [Value.map (some a4)]∧a5∈B∧(∀ b,a8.ownBlock=some b→b≠a4)∧(∀ b,a8.ownBlock=some b→b≠a5)) (copies.toNat - (0)) ?_ ?_)))))))))))))))
   ·exact ⟨(0),(.slice none 0 0),j6,oM,rfl,⟨_,AQ _ ⟨rfl,rfl,rfl,rfl,(by rfl),rfl,trivial⟩⟩,q7,(by rw [show ET l first (0)=[] from rfl];exact (EJ.nil Enc.holding 47 _ _ _)),(by intro b hb;simp [Value.ownBlock] at hb),a0,hbx_0_b1212,aS,a1,aS,(fun b hb=>by (simp [Value.ownBlock] at hb;done)),(fun b hb=>by (simp [Value.ownBlock] at hb;done))⟩
   intro y9 F z1 hI
   clear a0 hbx_0_b1212 a1
   obtain ⟨k,a8,l6,hr1_0,z2,⟨z3,rfl⟩,l7,ho1_6,b9,a0,hbx_0_b1212,b6,a1,b7,nb1_6_b1212,nb1_6_b1219⟩:=hI
   refine AF (AC kR (AB (DG .i64 ((k:Nat):Int) copies rfl rfl (AD (AA (AF (AP (decide (((k:Nat):Int)<copies)) rfl rfl (fun e2=>?_) (fun e2=>?_))))))))
   ·have t4:((k:Nat):Int)<copies:=by simpa using e2
    refine AV (AA (AF (BP (AF (AC kR (AB (AH (vI ((k:Nat):Int)) rfl (AB (AG (vI ((k:Nat):Int)) rfl (AD (AA (AF (AC kR (AB (BA U97_ rfl (Value.map (some a4)) rfl a1 rfl (AB (AH (vI ((k:Nat):Int)) rfl (AB (o_lookV2 (enc:=vI) (venc:=DM) (k:=((k:Nat):Int)) (z0:=(⟨(0:Int),(0:Int),(0:Int),false⟩:Holding)) U97_ (LH U3_) kR rfl rfl hbx_0_b1212 (AB (AH (vT #[vA #[vI ((((mapM l first l.length) ((k:Nat):Int)).getD (⟨(0:Int),(0:Int),(0:Int),false⟩:Holding)).copy),vI ((((mapM l first l.length) ((k:Nat):Int)).getD (⟨(0:Int),(0:Int),(0:Int),false⟩:Holding)).device),vI ((((mapM l first l.length) ((k:Nat):Int)).getD (⟨(0:Int),(0:Int),(0:Int),false⟩:Holding)).token),vO ((((mapM l first l.length) ((k:Nat):Int)).getD (⟨(0:Int),(0:Int),(0:Int),false⟩:Holding)).shown)],vO (((mapM l first l.length) ((k:Nat):Int)).isSome)]) rfl (AB (BJ (vA #[vI ((((mapM l first l.length) ((k:Nat):Int)).getD (⟨(0:Int),(0:Int),(0:Int),false⟩:Holding)).copy),vI ((((mapM l first l.length) ((k:Nat):Int)).getD (⟨(0:Int),(0:Int),(0:Int),false⟩:Holding)).device),vI ((((mapM l first l.length) ((k:Nat):Int)).getD (⟨(0:Int),(0:Int),(0:Int),false⟩:Holding)).token),vO ((((mapM l first l.length) ((k:Nat):Int)).getD (⟨(0:Int),(0:Int),(0:Int),false⟩:Holding)).shown)]) rfl rfl (AB (BJ (vO (((mapM l first l.length) ((k:Nat):Int)).isSome)) rfl rfl (AB (BW [vI 0,vI 0,vI 0,vO false] z_47 rfl l7 fun a9 x5 p4 p5 i8 f6 l8=>(?_))))))))))))))))))))))))))))
    have g6:CU a4 a9:=by show a4≠a9;have:=hbx_0_b1212.lt;omega
    have g7:CU a5 a9:=by show a5≠a9;have:=a1.lt;omega
    have e3:∀ b,a8.ownBlock=some b→b≠a9:=fun b hb=>by have:=(ho1_6.lt b hb).2;omega
    have b9:∀ b,a8.ownBlock=some b→b∈(a9 :: l6):=fun b hb=>List.mem_cons_of_mem _ (b9 b hb)
    clear p4
    have a0:=a0.mv i8
    have ho1_6:=ho1_6.mv i8 f6 (by simp)
    have hbx_0_b1212:=hbx_0_b1212.keep f6 (by simp)
    have a1:=a1.keep f6 (by simp)
    refine BU (AR (vs:=[vI ((((mapM l first l.length) ((k:Nat):Int)).getD (⟨(0:Int),(0:Int),(0:Int),false⟩:Holding)).copy),vI ((((mapM l first l.length) ((k:Nat):Int)).getD (⟨(0:Int),(0:Int),(0:Int),false⟩:Holding)).device),vI ((((mapM l first l.length) ((k:Nat):Int)).getD (⟨(0:Int),(0:Int),(0:Int),false⟩:Holding)).token),vO ((((mapM l first l.length) ((k:Nat):Int)).getD (⟨(0:Int),(0:Int),(0:Int),false⟩:Holding)).shown)]) (.agg #[vI ((((mapM l first l.length) ((k:Nat):Int)).getD (⟨(0:Int),(0:Int),(0:Int),false⟩:Holding)).copy),vI ((((mapM l first l.length) ((k:Nat):Int)).getD (⟨(0:Int),(0:Int),(0:Int),false⟩:Holding)).device),vI ((((mapM l first l.length) ((k:Nat):Int)).getD (⟨(0:Int),(0:Int),(0:Int),false⟩:Holding)).token),vO ((((mapM l first l.length) ((k:Nat):Int)).getD (⟨(0:Int),(0:Int),(0:Int),false⟩:Holding)).shown)]) rfl rfl rfl MG (fun u hu=>by simp only [List.mem_cons,List.not_mem_nil,or_false] at hu;rcases hu with rfl|rfl|rfl|rfl <;> rfl) (by repeat (constructor)) l8 oT p5 fun x6 i9 j0 f7 g8=>(?_))
    have a0:=a0.mv j0
    have ho1_6:=ho1_6.mv j0 f7 (fun b hb=>AT (e3 b hb))
    have hbx_0_b1212:=hbx_0_b1212.keep f7 (AT g6)
    have a1:=a1.keep f7 (AT g7)
    refine AB (AG (vO (((mapM l first l.length) ((k:Nat):Int)).isSome)) rfl (AD (AA (IH (fun FI wI=>∃ (B:List Nat),True∧(∃ F1,FI=FQ F1 [(5,vP (some b1)),(6,a8),(8,vP (some ⟨a5,0,none⟩)),(13,vP (some ⟨a9,0,none⟩)),(41,vI copies),(42,vI ((k:Nat):Int)),(62,undef)])∧St w O wI B∧PT Enc.int wI (B++O) (.pointer (some b1)) (first)∧EJ Enc.holding 47 w.heap.size (B++O) wI a8 (ET l first k)∧(∀ b,a8.ownBlock=some b→b∈B)∧JC vI DM wI a4 (mapM l first l.length)∧a4∈B∧EA wI a5 97 [Value.map (some a4)]∧a5∈B∧EA wI a9 47 [vI ((DR l first ((k:Nat):Int)).copy),vI ((DR l first ((k:Nat):Int)).device),vI ((DR l first ((k:Nat):Int)).token),vO ((DR l first ((k:Nat):Int)).shown)]∧a9∈B) ?_ ?_))))
    ·refine AF (AC kR (AB (AH (vO (((mapM l first l.length) ((k:Nat):Int)).isSome)) rfl (AB (EF (((mapM l first l.length) ((k:Nat):Int)).isSome) rfl (AD (AA (AP (!(((mapM l first l.length) ((k:Nat):Int)).isSome)) rfl rfl (fun e4=>?_) (fun e4=>?_)))))))))
     ·have t5:(((mapM l first l.length) ((k:Nat):Int)).isSome)=false:=by simpa using e4
      refine AC kR (AB (AH (vI ((k:Nat):Int)) rfl (AB (BB U3_ rfl rfl a0 (AB (DP (l:=[(0, .tmp 53),(1, .tmp 54)]) pl_47 z_47 rfl [(0,vI ((k:Nat):Int),[vI ((k:Nat):Int)]),(1,vI first,[vI first])] [vI ((k:Nat):Int),vI first,vI 0,vO false] rfl ⟨_,rfl,rfl,oT,⟨_,rfl,rfl,oT,rfl⟩⟩ (BU (AR (vs:=[vI ((k:Nat):Int),vI first,vI 0,vO false]) (.agg #[vI ((k:Nat):Int),vI first,vI 0,vO false]) rfl rfl rfl MG (fun u hu=>by simp only [List.mem_cons,List.not_mem_nil,or_false] at hu;rcases hu with rfl|rfl|rfl|rfl <;> rfl) (by repeat (constructor)) g8 oT i9 fun x7 p6 j1 f8 l9=>(?_)))))))))
      have a0:=a0.mv j1
      have ho1_6:=ho1_6.mv j1 f8 (fun b hb=>AT (e3 b hb))
      have hbx_0_b1212:=hbx_0_b1212.keep f8 (AT g6)
      have a1:=a1.keep f8 (AT g7)
      refine AD (AA (?_))
      exact ⟨(a9 :: l6),trivial,⟨_,AQ _ ⟨rfl,rfl,rfl,rfl,rfl,rfl,rfl,trivial⟩⟩,p6,a0,ho1_6,b9,hbx_0_b1212,(by (repeat (first|assumption|apply List.mem_cons_of_mem))),a1,(by (repeat (first|assumption|apply List.mem_cons_of_mem))),(by rw [show ([vI ((DR l first ((k:Nat):Int)).copy),vI ((DR l first ((k:Nat):Int)).device),vI ((DR l first ((k:Nat):Int)).token),vO ((DR l first ((k:Nat):Int)).shown)]:List Value)=[vI ((k:Nat):Int),vI first,vI 0,vO false] from by (show _=_;unfold DR;rw [← NH aS];rfl)];exact l9),(by (repeat (exact List.mem_cons_self)))⟩
     have t6:(((mapM l first l.length) ((k:Nat):Int)).isSome)=true:=by simpa using e4
     refine AV (AA (?_))
     exact ⟨(a9 :: l6),trivial,⟨_,AQ _ ⟨rfl,rfl,rfl,rfl,rfl,rfl,rfl,trivial⟩⟩,i9,a0,ho1_6,b9,hbx_0_b1212,(by (repeat (first|assumption|apply List.mem_cons_of_mem))),a1,(by (repeat (first|assumption|apply List.mem_cons_of_mem))),(by rw [show ([vI ((DR l first ((k:Nat):Int)).copy),vI ((DR l first ((k:Nat):Int)).device),vI ((DR l first ((k:Nat):Int)).token),vO ((DR l first ((k:Nat):Int)).shown)]:List Value)=[vI ((((mapM l first l.length) ((k:Nat):Int)).getD (⟨(0:Int),(0:Int),(0:Int),false⟩:Holding)).copy),vI ((((mapM l first l.length) ((k:Nat):Int)).getD (⟨(0:Int),(0:Int),(0:Int),false⟩:Holding)).device),vI ((((mapM l first l.length) ((k:Nat):Int)).getD (⟨(0:Int),(0:Int),(0:Int),false⟩:Holding)).token),vO ((((mapM l first l.length) ((k:Nat):Int)).getD (⟨(0:Int),(0:Int),(0:Int),false⟩:Holding)).shown)] from by (rw [NI (z:=(⟨0,0,0,false⟩:Holding)) (d:=EO ((k:Nat):Int) first) aS];rfl)];exact g8),(by (repeat (exact List.mem_cons_self)))⟩
    intro F x8 hI
    clear a0 ho1_6 b9 hbx_0_b1212 a1
    obtain ⟨x9,y0,⟨y1,rfl⟩,p7,a0,ho1_6,b9,hbx_0_b1212,b6,a1,b7,b2,g9⟩:=hI
    refine AC kR (AB (AH (a8) rfl (AB (AU (vs:=[vI ((DR l first ((k:Nat):Int)).copy),vI ((DR l first ((k:Nat):Int)).device),vI ((DR l first ((k:Nat):Int)).token),vO ((DR l first ((k:Nat):Int)).shown)]) U47_ rfl MG rfl b2 rfl (AB (MH (E:=Enc.holding) (xs:=[.tmp 57]) U43_ MG z_47 (by decide) [.agg #[vI ((DR l first ((k:Nat):Int)).copy),vI ((DR l first ((k:Nat):Int)).device),vI ((DR l first ((k:Nat):Int)).token),vO ((DR l first ((k:Nat):Int)).shown)]] [[vI ((DR l first ((k:Nat):Int)).copy),vI ((DR l first ((k:Nat):Int)).device),vI ((DR l first ((k:Nat):Int)).token),vO ((DR l first ((k:Nat):Int)).shown)]] [(DR l first ((k:Nat):Int))] rfl rfl rfl (Parts.cons rfl rfl (Parts.nil _ _ _)) oT p7 fun y2 y3 p8 j2 d2 h0=>(?_)))))))
    have a0:=a0.mv j2
    have ho1_6:=ho1_6.mv j2 d2 (by simp)
    have hbx_0_b1212:=hbx_0_b1212.keep d2 (by simp)
    have a1:=a1.keep d2 (by simp)
    have b2:=b2.keep d2 (by simp)
    have:=h0.len_le
    refine AB (HZ (E:=Enc.holding) (l:=ET l first k) (m:=[(DR l first ((k:Nat):Int))]) U43_ i_47 rfl (by decide) rfl rfl ho1_6 h0 (fun _ hb=>.inl hb) b9 (by rw [IX];simp;omega) (by rw [IX];simp [maxLen];omega) p8 fun c7 y4 d3 m0 e5 c8 p9 q0 j3 m1=>(?_))
    have m2:∀ b,c7.ownBlock=some b→b≠a4:=fun b hb=>by rcases e5 with e1|e1 <;> rw [e1] at hb <;> first|(cases hb;have:=hbx_0_b1212.lt;omega)|(exact nb1_6_b1212 b hb)
    have m3:∀ b,c7.ownBlock=some b→b≠a5:=fun b hb=>by rcases e5 with e1|e1 <;> rw [e1] at hb <;> first|(cases hb;have:=a1.lt;omega)|(exact nb1_6_b1219 b hb)
    have t7:∀ b,c7.ownBlock=some b→b≠a9:=fun b hb=>by rcases e5 with e1|e1 <;> rw [e1] at hb <;> first|(cases hb;have:=b2.lt;omega)|(exact e3 b hb)
    have b6:a4∈d3:=c8 a4 (by repeat (assumption))
    have b7:a5∈d3:=c8 a5 (by repeat (assumption))
    have g9:a9∈d3:=c8 a9 (by repeat (assumption))
    have a0:=a0.mv q0
    have hbx_0_b1212:=hbx_0_b1212.keep j3 (by simp only [Option.mem_toList];exact fun e=>absurd rfl (nb1_6_b1212 _ e))
    have a1:=a1.keep j3 (by simp only [Option.mem_toList];exact fun e=>absurd rfl (nb1_6_b1219 _ e))
    refine AB (AG (c7) rfl (AD (BE (AA (AC kR (AB (CJ .i64 ((k:Nat):Int) (1:Int) (((k+1:Nat):Int)) rfl rfl (EI oM oM) (AB (AH (vI ((k+1:Nat):Int)) rfl (AD (AA (?_))))))))))))
    exact ⟨_,oM,(k+1),c7,d3,oM,rfl,⟨_,AQ _ ⟨rfl,rfl,rfl,rfl,(by rfl),rfl,trivial⟩⟩,p9,(by rw [show ET l first (k+1)=(ET l first k)++([(DR l first ((k:Nat):Int))]) from holdsM_succ l first k];exact m1),m0,a0,hbx_0_b1212,aS,a1,aS,m2,m3⟩
   have t8:copies≤((k:Nat):Int):=by simpa using e2
   obtain rfl:k=copies.toNat:=by omega
   refine DV (CK (CK (DD (AA (AF (AC kR (AB (AH (a8) rfl (AB (AG (a8) rfl (AB (AG (vI 0) rfl (AD (AA (AN (AY rfl (KL rfl rfl rfl rfl) (?_)))))))))))))))))
   have q1:((AX l copies first).1)=(ET l first copies.toNat):=by exact congrArg (fun p=>p.1) (show AX l copies first=_ from state_5 aS aS aS aS)
   have q2:((AX l copies first).2)=(0:Int):=by exact congrArg (fun p=>p.2) (show AX l copies first=_ from state_5 aS aS aS aS)
   exact ⟨_,rfl,l7.keep,by rw [q1,q2];exact ⟨a8,rfl,ho1_6.pub l7⟩⟩
  have t9:(1024:Int)<copies:=by simpa using g0
  refine AW rfl (AW rfl (AW rfl (AB (BF (vO true) rfl rfl (AD (AA (AP true rfl rfl (fun _=>AF (AC kR (AB (AG (.slice none 0 0) rfl (AB (AG (vI 1) rfl (AD (AA (AN (AO (AY rfl (KL rfl rfl rfl rfl) (?_)))))))))))) (fun h=>by cases h))))))))
  have q3:((AX l copies first).1)=([]):=by exact congrArg (fun p=>p.1) (show AX l copies first=_ from state_3 aS aS)
  have q4:((AX l copies first).2)=(1:Int):=by exact congrArg (fun p=>p.2) (show AX l copies first=_ from state_3 aS aS)
  exact ⟨_,rfl,c5.keep,by rw [q3,q4];exact ⟨.slice none 0 0,rfl,CG.nil _ _ _⟩⟩
 have u0:copies<(0:Int):=by simpa using f9
 refine AW rfl (AW rfl (AB (BF (vO true) rfl rfl (AB (AH (vO true) rfl (AW rfl (AW rfl (AW rfl (AB (BF (vO true) rfl rfl (AD (AA (AP true rfl rfl (fun _=>AF (AC kR (AB (AG (.slice none 0 0) rfl (AB (AG (vI 1) rfl (AD (AA (AN (AO (AY rfl (KL rfl rfl rfl rfl) (?_)))))))))))) (fun h=>by cases h))))))))))))))
 have q5:((AX l copies first).1)=([]):=by exact congrArg (fun p=>p.1) (show AX l copies first=_ from state_2 aS aS)
 have q6:((AX l copies first).2)=(1:Int):=by exact congrArg (fun p=>p.2) (show AX l copies first=_ from state_2 aS aS)
 exact ⟨_,rfl,c5.keep,by rw [q5,q6];exact ⟨.slice none 0 0,rfl,CG.nil _ _ _⟩⟩
open Go.Fw Go.RowKit
set_option maxHeartbeats 4000000 in
set_option maxRecDepth 100000 in
theorem c_burnt {O:List Nat} (d_cs:List Value) (d:Device) (copies:Int) (first:Int) (w:World) (d9:Enc.device.rd w O d_cs d) (hO:∀ b∈O,b<w.heap.size):BV Try.prog 50 [.agg d_cs.toArray,vI copies,vI first] w (fun v w'=>∃ (x0:Value),v=x0∧CG Enc.int w' (O) x0 (DS d copies first)):= by
 have d9:Enc.device.rd w ([]++O) d_cs d:=d9
 have s0:St w O w []:=St.start hO
 refine BI 57 Try.func50 rfl rfl oT (fun F0=>AF (AC kR (AB (CQ (E:=Enc.device) (vA d_cs.toArray) (d_cs) d rfl rfl d9 s0 fun i7 i8 f4 i9 j0 e0=>(AB (AG (.slice none 0 0) rfl (AD (AA (AF (AC kR (AB (BZ U31_ rfl BS rfl e0 fun h3 e2=>(?_)))))))))))))
 obtain ⟨a3,rfl,a0⟩:=e2
 have:=a0.len_le
 refine AB (DP (l:=[(0, .tmp 12)]) pl_112 ND rfl [(0,vA #[vI d.id,vI d.counter,a3,vO d.halted],[vI d.id,vI d.counter,a3,vO d.halted])] [vI d.id,vI d.counter,a3,vO d.halted] rfl ⟨_,rfl,rfl,oT,rfl⟩ (AB (BW [vI 0,vI 0,nS,vO false] ND rfl f4 fun a4 j1 f5 f6 f7 j2 e3=>(?_))))
 clear f5
 have a0:=a0.mv f7
 refine BU (AR (vs:=[vI d.id,vI d.counter,a3,vO d.halted]) (.agg #[vI d.id,vI d.counter,a3,vO d.halted]) rfl rfl rfl IS (fun u hu=>by simp only [List.mem_cons,List.not_mem_nil,or_false] at hu;rcases hu with rfl|rfl|rfl|rfl <;> first|rfl|exact a0.oneCell) (by repeat (constructor)) e3 oT f6 fun f8 b8 f9 j3 a1=>(?_))
 have a0:=a0.mv f9
 refine AD (AA (IH (fun FI wI=>∃ (B:List Nat),(d.halted=true∨CF d=false)∧True∧(∃ F1,FI=FQ F1 [(1,vI copies),(2,vI first),(6,nS),(7,vP (some ⟨a4,0,none⟩)),(57,undef)])∧St w O wI B∧CG Enc.devop wI (B++O) (a3) (d.ops)∧EA wI a4 112 [vI d.id,vI d.counter,a3,vO d.halted]∧a4∈B) ?_ ?_))
 ·refine AF (AC kR (AB (AM 0 CO rfl (AB (AM 3 IG rfl (AB (BA U4_ rfl (vO d.halted) rfl a1 rfl (AB (EF d.halted rfl (AB (AH (vO (!d.halted)) rfl (?_))))))))))))
  cases c7:(!d.halted)
  ·have h4:d.halted=true:=by simpa using c7
   refine AW rfl (AW rfl (AB (BG (vO false) rfl rfl (AD (AA (AP false rfl rfl (fun h=>by cases h) (fun _=>AV (AA (?_)))))))))
   exact ⟨(a4 :: []),(by exact .inl aS),trivial,⟨_,AQ _ ⟨rfl,rfl,rfl,rfl,rfl,trivial⟩⟩,b8,a0,a1,(by (repeat (exact List.mem_cons_self)))⟩
  have h5:d.halted=false:=by simpa using c7
  refine BC rfl (AU (vs:=[vI d.id,vI d.counter,a3,vO d.halted]) U112_ rfl IS rfl a1 rfl (BC rfl (BD (vs:=[vA #[vI d.id,vI d.counter,a3,vO d.halted]]) MQ (c_whole (O:=(a4 :: [])++O) [vI d.id,vI d.counter,a3,vO d.halted] d f8 ⟨_,rfl,a0⟩ b8.lt) rfl b8 fun j4 j5 d2 g0 g1 g2=>(?_))))
  obtain rfl:=g2
  have a0:=a0.mv g0
  have a1:=a1.keep g1 (by simp)
  refine AB (BF (vO (CF d)) rfl rfl (AD (AA (AP (CF d) rfl rfl (fun b2=>?_) (fun b2=>?_)))))
  ·have h6:(CF d)=true:=by simpa using b2
   refine AF (AC kR (AB (AG (.slice none 0 0) rfl (AD (AA (AN (AO (AY rfl (CM rfl rfl rfl) (?_)))))))))
   have e:(DS d copies first)=([]):=by exact burnt_1 aS aS
   exact ⟨_,rfl,d2.keep,by rw [e];exact ⟨.slice none 0 0,rfl,CG.nil _ _ _⟩⟩
  have h7:(CF d)=false:=by simpa using b2
  refine AV (AA (?_))
  exact ⟨(a4 :: []),(by exact .inr aS),trivial,⟨_,AQ _ ⟨rfl,rfl,rfl,rfl,rfl,trivial⟩⟩,d2,a0,a1,(by (repeat (exact List.mem_cons_self)))⟩
 intro F g3 hI
 clear a0 a1
 obtain ⟨d3,b6,j6,⟨j7,rfl⟩,d4,a0,a1,b0⟩:=hI
 refine AF (AC kR (AB (AM 0 CO rfl (AB (AM 2 FC rfl (AB (BA U26_ rfl (a3) rfl a1 rfl (AB (AH (vI copies) rfl (AB (AH (vI first) rfl (AB (BD (vs:=[a3,vI copies,vI first]) enter_24 (c_state (O:=d3++O) a3 d.ops copies first g3 a0 d4.lt) rfl d4 fun j8 j9 d5 g4 g5 g6=>(?_))))))))))))))
 obtain ⟨a8,rfl,a2⟩:=g6
 have:=a2.len_le
 have a0:=a0.mv g4
 have a1:=a1.keep g5 (by simp)
 refine AB (AH (vT #[a8,vI ((AX d.ops copies first).2)]) rfl (AB (BJ (a8) rfl rfl (AB (BJ (vI ((AX d.ops copies first).2)) rfl rfl (AB (AG (a8) rfl (AB (AG (vI ((AX d.ops copies first).2)) rfl (AD (AA (AF (AF (AC kR (AB (AH (vI ((AX d.ops copies first).2)) rfl (AB (ER .i64 ((AX d.ops copies first).2) (0:Int) rfl rfl (AD (AA (AP (((AX d.ops copies first).2) != (0:Int)) rfl rfl (fun b3=>?_) (fun b3=>?_))))))))))))))))))))))
 ·have h8:(AX d.ops copies first).2≠(0:Int):=by simpa using b3
  refine AF (AC kR (AB (AG (.slice none 0 0) rfl (AD (AA (AN (AO (AY rfl (CM rfl rfl rfl) (?_)))))))))
  have e:(DS d copies first)=([]):=by exact burnt_2 b6 aS
  exact ⟨_,rfl,d5.keep,by rw [e];exact ⟨.slice none 0 0,rfl,CG.nil _ _ _⟩⟩
 have e4:(AX d.ops copies first).2=(0:Int):=by simpa using b3
 have hst:(AX d.ops copies first).2=0:=e4
 have hsl:=state_len hst
 have hsb:=(state_ok hst).2.2
 refine AV (AA (AF (AF (AC kR (AB (AH (a8) rfl (AB (DI U43_ rfl a2 (AB (AH (vI 0) rfl (AD (AA (BP (DW (fun mI FI wI=>∃ (k:Nat) (a5:Value) (B:List Nat),k≤((AX d.ops copies first).1).length∧mI=((AX d.ops copies first).1).length - k∧(∃ F1,FI=FQ F1 [(6,a5),(7,vP (some ⟨a4,0,none⟩)),(33,a8),(34,vI (((AX d.ops copies first).1).length:Int)),(35,vI ((k:Nat):Int)),(57,undef)])∧St w O wI B∧EJ Enc.int 3 w.heap.size (B++O) wI a5 (ES (AX d.ops copies first).1 d.id k)∧(∀ b,a5.ownBlock=some b→b∈B)∧CG Enc.holding wI (B++O) (a8) ((AX d.ops copies first).1)∧CG Enc.devop wI (B++O) (a3) (d.ops)∧EA wI a4 112 [vI d.id,vI d.counter,a3,vO d.halted]∧a4∈B∧(∀ b,a5.ownBlock=some b→b≠a4)) (((AX d.ops copies first).1).length - (0)) ?_ ?_))))))))))))))
 ·exact ⟨(0),(.slice none 0 0),d3,oM,rfl,⟨_,AQ _ ⟨rfl,rfl,rfl,rfl,(by rfl),rfl,trivial⟩⟩,d5,(by rw [show ES (AX d.ops copies first).1 d.id (0)=[] from burn_zero _ _];exact (EJ.nil Enc.int 3 _ _ _)),(by intro b hb;simp [Value.ownBlock] at hb),a2,a0,a1,aS,(fun b hb=>by (simp [Value.ownBlock] at hb;done))⟩
 intro k6 F k7 hI
 clear a2 a0 a1
 obtain ⟨k,a5,e5,hr0_0,k8,⟨k9,rfl⟩,e6,ho0_6,a9,a2,a0,a1,b0,nb0_6_b5048⟩:=hI
 refine AF (AC kR (AB (DG .i64 ((k:Nat):Int) (((AX d.ops copies first).1).length:Int) rfl rfl (AD (AA (AF (AP (decide (((k:Nat):Int)<(((AX d.ops copies first).1).length:Int))) rfl rfl (fun b4=>?_) (fun b4=>?_))))))))
 ·have h9:((k:Nat):Int)<(((AX d.ops copies first).1).length:Int):=by simpa using b4
  refine AV (AA (AF (BP (AF (AC kR (AB (DO U43_ MG .i64 ((k:Nat):Int) k rfl rfl rfl a2 oM fun k0 e7=>(AB (BZ U47_ rfl MG rfl e7 fun i0 e8=>(?_))))))))))
  obtain rfl:=e8
  refine AB (BW [vI 0,vI 0,vI 0,vO false] z_47 rfl e6 fun a6 k1 g7 g8 b9 d6 e9=>(?_))
  have f0:CU a4 a6:=by show a4≠a6;have:=a1.lt;omega
  have c8:∀ b,a5.ownBlock=some b→b≠a6:=fun b hb=>by have:=(ho0_6.lt b hb).2;omega
  have a9:∀ b,a5.ownBlock=some b→b∈(a6 :: e5):=fun b hb=>List.mem_cons_of_mem _ (a9 b hb)
  clear g7
  have ho0_6:=ho0_6.mv b9 d6 (by simp)
  have a2:=a2.mv b9
  have a0:=a0.mv b9
  have a1:=a1.keep d6 (by simp)
  refine BU (AR (vs:=[vI ((((AX d.ops copies first).1)[k]!).copy),vI ((((AX d.ops copies first).1)[k]!).device),vI ((((AX d.ops copies first).1)[k]!).token),vO ((((AX d.ops copies first).1)[k]!).shown)]) (.agg #[vI ((((AX d.ops copies first).1)[k]!).copy),vI ((((AX d.ops copies first).1)[k]!).device),vI ((((AX d.ops copies first).1)[k]!).token),vO ((((AX d.ops copies first).1)[k]!).shown)]) rfl rfl rfl MG (fun u hu=>by simp only [List.mem_cons,List.not_mem_nil,or_false] at hu;rcases hu with rfl|rfl|rfl|rfl <;> rfl) (by repeat (constructor)) e9 oT g8 fun k2 c2 c3 d7 a7=>(?_))
  have ho0_6:=ho0_6.mv c3 d7 (fun b hb=>AT (c8 b hb))
  have a2:=a2.mv c3
  have a0:=a0.mv c3
  have a1:=a1.keep d7 (AT f0)
  refine AD (AA (AF (AC kR (AB (AM 1 f_47_1 rfl (AB (BA U3_ rfl (vI ((((AX d.ops copies first).1)[k]!).device)) rfl a7 rfl (AB (AM 0 CO rfl (AB (AM 0 HN rfl (AB (BA U3_ rfl (vI d.id) rfl a1 rfl (AB (DB .i64 ((((AX d.ops copies first).1)[k]!).device) d.id rfl rfl (AB (AH (vO (((((AX d.ops copies first).1)[k]!).device) == d.id)) rfl (?_))))))))))))))))))
  cases c9:(((((AX d.ops copies first).1)[k]!).device) == d.id)
  ·have i1:(((AX d.ops copies first).1)[k]!).device≠d.id:=by simpa using c9
   refine AW rfl (AW rfl (AW rfl (AB (BG (vO false) rfl rfl (AD (AA (AP false rfl rfl (fun h=>by cases h) (fun _=>AV (BE (AA (AC kR (AB (CJ .i64 ((k:Nat):Int) (1:Int) (((k+1:Nat):Int)) rfl rfl (EI oM oM) (AB (AH (vI ((k+1:Nat):Int)) rfl (AD (AA (?_))))))))))))))))))
   exact ⟨_,oM,(k+1),a5,(a6 :: e5),oM,rfl,⟨_,AQ _ ⟨rfl,rfl,rfl,rfl,(by rfl),rfl,trivial⟩⟩,c2,(by rw [show ES (AX d.ops copies first).1 d.id (k+1)=ES (AX d.ops copies first).1 d.id k from by exact burn_n oM (.inl aS)];exact ho0_6),a9,a2,a0,a1,(by (repeat (first|assumption|apply List.mem_cons_of_mem))),nb0_6_b5048⟩
  have i2:(((AX d.ops copies first).1)[k]!).device=d.id:=by simpa using c9
  refine BC rfl (AM 3 f_47_3 rfl (BC rfl (BA U4_ rfl (vO ((((AX d.ops copies first).1)[k]!).shown)) rfl a7 rfl (BC rfl (EF ((((AX d.ops copies first).1)[k]!).shown) rfl (AB (BF (vO (!((((AX d.ops copies first).1)[k]!).shown))) rfl rfl (AD (AA (AP (!((((AX d.ops copies first).1)[k]!).shown)) rfl rfl (fun b5=>?_) (fun b5=>?_)))))))))))
  ·have i3:((((AX d.ops copies first).1)[k]!).shown)=false:=by simpa using b5
   refine AC kR (AB (AH (a5) rfl (AB (AM 0 f_47_0 rfl (AB (BA U3_ rfl (vI ((((AX d.ops copies first).1)[k]!).copy)) rfl a7 rfl (AB (MH (E:=Enc.int) (xs:=[.tmp 52]) U27_ s_3 z_3 (by decide) [vI ((((AX d.ops copies first).1)[k]!).copy)] [[vI ((((AX d.ops copies first).1)[k]!).copy)]] [(((AX d.ops copies first).1)[k]!).copy] rfl rfl rfl (Parts.cons rfl rfl (Parts.nil _ _ _)) oT c2 fun k3 k4 g9 c4 c5 d0=>(?_)))))))))
   have ho0_6:=ho0_6.mv c4 c5 (by simp)
   have a2:=a2.mv c4
   have a0:=a0.mv c4
   have a1:=a1.keep c5 (by simp)
   have a7:=a7.keep c5 (by simp)
   have:=d0.len_le
   refine AB (HZ (E:=Enc.int) (l:=ES (AX d.ops copies first).1 d.id k) (m:=[(((AX d.ops copies first).1)[k]!).copy]) U27_ i_3 rfl (by decide) rfl rfl ho0_6 d0 (fun _ hb=>.inl hb) a9 (by have:=burn_len (AX d.ops copies first).1 d.id k;simp;omega) (by have:=burn_len (AX d.ops copies first).1 d.id k;simp [maxLen];omega) g9 fun b1 k5 c6 f1 d1 b7 h0 d8 h1 f2=>(?_))
   have f3:∀ b,b1.ownBlock=some b→b≠a4:=fun b hb=>by rcases d1 with e1|e1 <;> rw [e1] at hb <;> first|(cases hb;have:=a1.lt;omega)|(exact nb0_6_b5048 b hb)
   have i4:∀ b,b1.ownBlock=some b→b≠a6:=fun b hb=>by rcases d1 with e1|e1 <;> rw [e1] at hb <;> first|(cases hb;have:=a7.lt;omega)|(exact c8 b hb)
   have b0:a4∈c6:=b7 a4 rC
   have h2:a6∈c6:=b7 a6 (by repeat (constructor))
   have a2:=a2.mv d8
   have a0:=a0.mv d8
   have a1:=a1.keep h1 (by simp only [Option.mem_toList];exact fun e=>absurd rfl (nb0_6_b5048 _ e))
   refine AB (AG (b1) rfl (AD (BE (AA (AC kR (AB (CJ .i64 ((k:Nat):Int) (1:Int) (((k+1:Nat):Int)) rfl rfl (EI oM oM) (AB (AH (vI ((k+1:Nat):Int)) rfl (AD (AA (?_))))))))))))
   exact ⟨_,oM,(k+1),b1,c6,oM,rfl,⟨_,AQ _ ⟨rfl,rfl,rfl,rfl,(by rfl),rfl,trivial⟩⟩,h0,(by rw [show ES (AX d.ops copies first).1 d.id (k+1)=(ES (AX d.ops copies first).1 d.id k)++([(((AX d.ops copies first).1)[k]!).copy]) from by exact burn_y oM aS aS];exact f2),f1,a2,a0,a1,aS,f3⟩
  have i5:((((AX d.ops copies first).1)[k]!).shown)=true:=by simpa using b5
  refine AV (BE (AA (AC kR (AB (CJ .i64 ((k:Nat):Int) (1:Int) (((k+1:Nat):Int)) rfl rfl (EI oM oM) (AB (AH (vI ((k+1:Nat):Int)) rfl (AD (AA (?_))))))))))
  exact ⟨_,oM,(k+1),a5,(a6 :: e5),oM,rfl,⟨_,AQ _ ⟨rfl,rfl,rfl,rfl,(by rfl),rfl,trivial⟩⟩,c2,(by rw [show ES (AX d.ops copies first).1 d.id (k+1)=ES (AX d.ops copies first).1 d.id k from by exact burn_n oM (.inr aS)];exact ho0_6),a9,a2,a0,a1,(by (repeat (first|assumption|apply List.mem_cons_of_mem))),nb0_6_b5048⟩
 have i6:(((AX d.ops copies first).1).length:Int)≤((k:Nat):Int):=by simpa using b4
 obtain rfl:k=((AX d.ops copies first).1).length:=by omega
 refine DV (CK (CK (DD (AA (AF (AC kR (AB (AH (a5) rfl (AB (AG (a5) rfl (AD (AA (AN (AY rfl (CM rfl rfl rfl) (?_)))))))))))))))
 have e:(DS d copies first)=(ES (AX d.ops copies first).1 d.id (((AX d.ops copies first).1).length)):=by exact burnt_3 b6 aS
 exact ⟨_,rfl,e6.keep,by rw [e];exact ⟨a5,rfl,ho0_6.pub e6⟩⟩
open Go.Fw Go.RowKit
set_option maxHeartbeats 4000000 in
set_option maxRecDepth 100000 in
theorem c_same {O:List Nat} (la_v:Value) (la:List DeviceOp) (lb_v:Value) (lb:List DeviceOp) (w:World) (a0:CG Enc.devop w O la_v la) (a1:CG Enc.devop w O lb_v lb) (hO:∀ b∈O,b<w.heap.size):BV Try.prog 28 [la_v,lb_v] w (fun v _=>v = .bool (la == lb)):= by
 have b5:=a0.len_le
 have a0:CG Enc.devop w ([]++O) la_v la:=a0
 have b6:=a1.len_le
 have a1:CG Enc.devop w ([]++O) lb_v lb:=a1
 have s0:St w O w []:=St.start hO
 refine BI 26 Try.func28 rfl rfl oT (fun F0=>AF (AC kR (AB (AG (vO false) rfl (AD (AA (AF (AF (AC kR (AB (AH (la_v) rfl (AB (DI U26_ rfl a0 (AB (AH (lb_v) rfl (AB (DI U26_ rfl a1 (AB (ER .i64 (la.length:Int) (lb.length:Int) rfl rfl (AD (AA (AP ((la.length:Int) != (lb.length:Int)) rfl rfl (fun a2=>?_) (fun a2=>?_)))))))))))))))))))))))
 ·have b7:(la.length:Int)≠(lb.length:Int):=by simpa using a2
  refine AF (AC kR (AB (AG (vO false) rfl (AD (AA (AN (AO (AY rfl (CM rfl rfl rfl) (?_)))))))))
  have e:(la == lb)=false:=by exact same_len aS
  exact ⟨_,rfl,s0.keep,(by exact congrArg vO e.symm)⟩
 have b8:(la.length:Int)=(lb.length:Int):=by simpa using a2
 refine AV (AA (AF (AF (AC kR (AB (AG (vI 0) rfl (AD (AA (BP (DW (fun mI FI wI=>∃ (k:Nat) (B:List Nat),k≤la.length∧(∀ q,q<k→la[q]! = lb[q]!)∧mI=la.length - k∧(∃ F1,FI=FQ F1 [(0,la_v),(1,lb_v),(5,vI ((k:Nat):Int)),(26,undef)])∧St w O wI B∧CG Enc.devop wI (B++O) (la_v) (la)∧CG Enc.devop wI (B++O) (lb_v) (lb)) (la.length - (0)) ?_ ?_))))))))))
 ·exact ⟨(0),[],oM,(fun q hq=>by omega),rfl,⟨_,AQ _ ⟨rfl,rfl,(by rfl),rfl,trivial⟩⟩,s0,a0,a1⟩
 intro d0 F b9 hI
 clear a0 a1
 obtain ⟨k,a8,hr0_0,hr0_1,d1,⟨d2,rfl⟩,b4,a0,a1⟩:=hI
 refine AF (AF (AC kR (AB (AH (vI ((k:Nat):Int)) rfl (AB (AH (la_v) rfl (AB (DI U26_ rfl a0 (AB (DG .i64 ((k:Nat):Int) (la.length:Int) rfl rfl (AD (AA (AP (decide (((k:Nat):Int)<(la.length:Int))) rfl rfl (fun a3=>?_) (fun a3=>?_))))))))))))))
 ·have c2:((k:Nat):Int)<(la.length:Int):=by simpa using a3
  refine AV (AA (AF (BP (AF (EZ 9 _ _ kR kR kR kR kR rfl rfl fun b3 a5=>?_)))))
  have a6:=b4.call a5
  have a7:Mv a8 b9 a8 b3:=Mv.of_keep a5
  have a0:=a0.mv a7
  have a1:=a1.mv a7
  refine CI (AH (la_v) rfl (CI (AH (vI ((k:Nat):Int)) rfl (CI (DO U26_ CH .i64 ((k:Nat):Int) k rfl rfl rfl a0 oM fun c8 a9=>(CI (BZ U40_ rfl CH rfl a9 fun c3 b0=>(?_))))))))
  obtain rfl:=b0
  refine CI (AH (lb_v) rfl (CI (AH (vI ((k:Nat):Int)) rfl (CI (DO U26_ CH .i64 ((k:Nat):Int) k rfl rfl rfl a1 oM fun c9 b1=>(CI (BZ U40_ rfl CH rfl b1 fun c4 b2=>(?_))))))))
  obtain rfl:=b2
  refine CI (o_neqF (ks:=[true,true,true,true,true,true]) [.inl ((la[k]!).device), .inl ((la[k]!).no), .inl ((la[k]!).kind), .inl ((la[k]!).copy), .inl ((la[k]!).to), .inl ((la[k]!).token)] [.inl ((lb[k]!).device), .inl ((lb[k]!).no), .inl ((lb[k]!).kind), .inl ((lb[k]!).copy), .inl ((lb[k]!).to), .inl ((lb[k]!).token)] NS MS rfl rfl rfl rfl (congrArg not (cs_devop (la[k]!) (lb[k]!))) (GA (AD (AA (AP (!((la[k]!) == (lb[k]!))) rfl rfl (fun a4=>?_) (fun a4=>?_))))))
  ·have c5:(la[k]!)≠(lb[k]!):=by simpa using a4
   refine AF (AC kR (AB (AG (vO false) rfl (AD (AA (AN (BK (AO (AO (BK (AO (AY rfl (CM rfl rfl rfl) (?_)))))))))))))
   have e:(la == lb)=false:=by exact same_at (k:=k) aS
   exact ⟨_,rfl,a6.keep,(by exact congrArg vO e.symm)⟩
  have c6:(la[k]!)=(lb[k]!):=by simpa using a4
  refine AV (BE (AA (AC kR (AB (AH (vI ((k:Nat):Int)) rfl (AB (CJ .i64 ((k:Nat):Int) (1:Int) (((k+1:Nat):Int)) rfl rfl (EI oM oM) (AB (AG (vI ((k+1:Nat):Int)) rfl (AD (AA (?_))))))))))))
  exact ⟨_,oM,(k+1),a8,oM,(eq_step hr0_1 aS),rfl,⟨_,AQ _ ⟨rfl,rfl,(by rfl),rfl,trivial⟩⟩,a6,a0,a1⟩
 have c7:(la.length:Int)≤((k:Nat):Int):=by simpa using a3
 obtain rfl:k=la.length:=by omega
 refine DV (CK (CK (DD (AA (AF (AC kR (AB (AG (vO true) rfl (AD (AA (AN (AY rfl (CM rfl rfl rfl) (?_)))))))))))))
 have e:(la == lb)=true:=by exact same_end aS hr0_1
 exact ⟨_,rfl,b4.keep,(by exact congrArg vO e.symm)⟩
open Go.Fw Go.RowKit
set_option maxHeartbeats 4000000 in
set_option maxRecDepth 100000 in
theorem c_sameD {O:List Nat} (x_cs:List Value) (x:Device) (y_cs:List Value) (y:Device) (w:World) (b1:Enc.device.rd w O x_cs x) (a3:Enc.device.rd w O y_cs y) (hO:∀ b∈O,b<w.heap.size):BV Try.prog 42 [.agg x_cs.toArray, .agg y_cs.toArray] w (fun v _=>v = .bool (x == y)):= by
 have b1:Enc.device.rd w ([]++O) x_cs x:=b1
 have a3:Enc.device.rd w ([]++O) y_cs y:=a3
 have s0:St w O w []:=St.start hO
 refine BI 31 Try.func42 rfl rfl oT (fun F0=>AF (AC kR (AB (CQ (E:=Enc.device) (vA x_cs.toArray) (x_cs) x rfl rfl b1 s0 fun d5 c2 c3 c4 d6 a0=>(?_)))))
 have a3:Enc.device.rd c2 ([]++O) y_cs (y):=Enc.mv Enc.device (x:=y) a3 c4
 refine AB (CQ (E:=Enc.device) (vA y_cs.toArray) (y_cs) y rfl rfl a3 c3 fun d7 c5 a1 c6 d8 a2=>(?_))
 have a0:=a0.mv c6
 refine AB (AG (vO false) rfl (AD (AA (AF (AC kR (AB (AS 0 HN (x.id) rfl a0 (fun _ _ _ h=>DY h) fun d9 b2=>(AB (BB U3_ rfl rfl b2 (AB (AS 0 HN (y.id) rfl a2 (fun _ _ _ h=>DY h) fun e0 b3=>(AB (BB U3_ rfl rfl b3 (AB (DB .i64 x.id y.id rfl rfl (AB (AH (vO (x.id == y.id)) rfl (?_))))))))))))))))))
 cases a4:(x.id == y.id)
 ·have c9:x.id≠y.id:=by simpa using a4
  refine AW rfl (AW rfl (AW rfl (AW rfl (AW rfl (AB (BG (vO false) rfl rfl (AB (AH (vO false) rfl (AW rfl (AW rfl (AW rfl (AW rfl (AW rfl (AB (BG (vO false) rfl rfl (AB (AH (vO false) rfl (AW rfl (AW rfl (AW rfl (AW rfl (AW rfl (AB (BG (vO false) rfl rfl (AB (AG (vO false) rfl (AD (AA (AN (AY rfl (CM rfl rfl rfl) (?_)))))))))))))))))))))))))))))))
  have e:(x == y)=false:=by exact dev_ne1 aS
  exact ⟨_,rfl,a1.keep,(by exact congrArg vO e.symm)⟩
 have d0:x.id=y.id:=by simpa using a4
 refine BC rfl (AS 1 FT (x.counter) rfl a0 (fun _ _ _ h=>DN h) fun e1 b4=>(BC rfl (BB U3_ rfl rfl b4 (BC rfl (AS 1 FT (y.counter) rfl a2 (fun _ _ _ h=>DN h) fun e2 b5=>(BC rfl (BB U3_ rfl rfl b5 (BC rfl (DB .i64 x.counter y.counter rfl rfl (AB (BF (vO (x.counter == y.counter)) rfl rfl (AB (AH (vO (x.counter == y.counter)) rfl (?_))))))))))))))
 cases a5:(x.counter == y.counter)
 ·have d1:x.counter≠y.counter:=by simpa using a5
  refine AW rfl (AW rfl (AW rfl (AW rfl (AW rfl (AB (BG (vO false) rfl rfl (AB (AH (vO false) rfl (AW rfl (AW rfl (AW rfl (AW rfl (AW rfl (AB (BG (vO false) rfl rfl (AB (AG (vO false) rfl (AD (AA (AN (AY rfl (CM rfl rfl rfl) (?_))))))))))))))))))))))
  have e:(x == y)=false:=by exact dev_ne2 aS
  exact ⟨_,rfl,a1.keep,(by exact congrArg vO e.symm)⟩
 have d2:x.counter=y.counter:=by simpa using a5
 refine BC rfl (AS 3 IG (x.halted) rfl a0 (fun _ _ _ h=>GY h) fun e3 b6=>(BC rfl (LI U4_ rfl rfl b6 (BC rfl (AS 3 IG (y.halted) rfl a2 (fun _ _ _ h=>GY h) fun e4 b7=>(BC rfl (LI U4_ rfl rfl b7 (BC rfl (o_eqlB x.halted y.halted U4_ rfl rfl (AB (BF (vO (x.halted == y.halted)) rfl rfl (AB (AH (vO (x.halted == y.halted)) rfl (?_))))))))))))))
 cases a6:(x.halted == y.halted)
 ·have d3:x.halted≠y.halted:=by simpa using a6
  refine AW rfl (AW rfl (AW rfl (AW rfl (AW rfl (AB (BG (vO false) rfl rfl (AB (AG (vO false) rfl (AD (AA (AN (AY rfl (CM rfl rfl rfl) (?_)))))))))))))
  have e:(x == y)=false:=by exact dev_ne3 aS
  exact ⟨_,rfl,a1.keep,(by exact congrArg vO e.symm)⟩
 have d4:x.halted=y.halted:=by simpa using a6
 refine BC rfl (AS 2 FC (x.ops) rfl a0 (fun _ _ _ h=>EH h) fun e5 b8=>(BC rfl (IM U26_ rfl rfl b8 fun a9 a7=>(?_))))
 have:=a7.len_le
 refine BC rfl (AS 2 FC (y.ops) rfl a2 (fun _ _ _ h=>EH h) fun e6 b9=>(BC rfl (IM U26_ rfl rfl b9 fun b0 a8=>(?_))))
 have:=a8.len_le
 refine BC rfl (BD (vs:=[a9,b0]) enter_28 (c_same (O:=[]++O) a9 x.ops b0 y.ops c5 a7 a8 a1.lt) rfl a1 fun e7 e8 c7 e9 f0 c8=>(?_))
 obtain rfl:=c8
 refine AB (BF (vO (x.ops == y.ops)) rfl rfl (AB (AG (vO (x.ops == y.ops)) rfl (AD (AA (AN (AY rfl (CM rfl rfl rfl) (?_))))))))
 have e:(x == y)=(x.ops == y.ops):=by exact dev_eq aS aS aS
 exact ⟨_,rfl,c7.keep,(by exact congrArg vO e.symm)⟩
set_option maxHeartbeats 4000000 in
set_option maxRecDepth 100000 in
theorem c_sameI43 {O:List Nat} (la_v:Value) (la:List Int) (lb_v:Value) (lb:List Int) (w:World) (a0:CG Enc.int w O la_v la) (a1:CG Enc.int w O lb_v lb) (hO:∀ b∈O,b<w.heap.size):BV Try.prog 49 [la_v,lb_v] w (fun v _=>v = .bool (la == lb)):= by
 have b3:=a0.len_le
 have a0:CG Enc.int w ([]++O) la_v la:=a0
 have b4:=a1.len_le
 have a1:CG Enc.int w ([]++O) lb_v lb:=a1
 have s0:St w O w []:=St.start hO
 refine BI 26 Try.func49 rfl rfl oT (fun F0=>AF (AC kR (AB (AG (vO false) rfl (AD (AA (AF (AF (AC kR (AB (AH (la_v) rfl (AB (DI U27_ rfl a0 (AB (AH (lb_v) rfl (AB (DI U27_ rfl a1 (AB (ER .i64 (la.length:Int) (lb.length:Int) rfl rfl (AD (AA (AP ((la.length:Int) != (lb.length:Int)) rfl rfl (fun a2=>?_) (fun a2=>?_)))))))))))))))))))))))
 ·have b5:(la.length:Int)≠(lb.length:Int):=by simpa using a2
  refine AF (AC kR (AB (AG (vO false) rfl (AD (AA (AN (AO (AY rfl (CM rfl rfl rfl) (?_)))))))))
  have e:(la == lb)=false:=by exact same_len aS
  exact ⟨_,rfl,s0.keep,(by exact congrArg vO e.symm)⟩
 have b6:(la.length:Int)=(lb.length:Int):=by simpa using a2
 refine AV (AA (AF (AF (AC kR (AB (AG (vI 0) rfl (AD (AA (BP (DW (fun mI FI wI=>∃ (k:Nat) (B:List Nat),k≤la.length∧(∀ q,q<k→la[q]! = lb[q]!)∧mI=la.length - k∧(∃ F1,FI=FQ F1 [(0,la_v),(1,lb_v),(5,vI ((k:Nat):Int)),(26,undef)])∧St w O wI B∧CG Enc.int wI (B++O) (la_v) (la)∧CG Enc.int wI (B++O) (lb_v) (lb)) (la.length - (0)) ?_ ?_))))))))))
 ·exact ⟨(0),[],oM,(fun q hq=>by omega),rfl,⟨_,AQ _ ⟨rfl,rfl,(by rfl),rfl,trivial⟩⟩,s0,a0,a1⟩
 intro c6 F b7 hI
 clear a0 a1
 obtain ⟨k,a8,hr0_0,hr0_1,c7,⟨c8,rfl⟩,b2,a0,a1⟩:=hI
 refine AF (AF (AC kR (AB (AH (vI ((k:Nat):Int)) rfl (AB (AH (la_v) rfl (AB (DI U27_ rfl a0 (AB (DG .i64 ((k:Nat):Int) (la.length:Int) rfl rfl (AD (AA (AP (decide (((k:Nat):Int)<(la.length:Int))) rfl rfl (fun a3=>?_) (fun a3=>?_))))))))))))))
 ·have b8:((k:Nat):Int)<(la.length:Int):=by simpa using a3
  refine AV (AA (AF (BP (AF (EZ 9 _ _ kR kR kR kR kR rfl rfl fun b1 a5=>?_)))))
  have a6:=b2.call a5
  have a7:Mv a8 b7 a8 b1:=Mv.of_keep a5
  have a0:=a0.mv a7
  have a1:=a1.mv a7
  refine CI (AH (la_v) rfl (CI (AH (vI ((k:Nat):Int)) rfl (CI (DO U27_ s_3 .i64 ((k:Nat):Int) k rfl rfl rfl a0 oM fun c4 a9=>(CI (BB U3_ rfl rfl a9 (CI (AH (lb_v) rfl (CI (AH (vI ((k:Nat):Int)) rfl (CI (DO U27_ s_3 .i64 ((k:Nat):Int) k rfl rfl rfl a1 oM fun c5 b0=>(CI (BB U3_ rfl rfl b0 (CI (ER .i64 (la[k]!) (lb[k]!) rfl rfl (GA (AD (AA (AP ((la[k]!) != (lb[k]!)) rfl rfl (fun a4=>?_) (fun a4=>?_))))))))))))))))))))))
  ·have b9:la[k]!≠lb[k]!:=by simpa using a4
   refine AF (AC kR (AB (AG (vO false) rfl (AD (AA (AN (BK (AO (AO (BK (AO (AY rfl (CM rfl rfl rfl) (?_)))))))))))))
   have e:(la == lb)=false:=by exact same_at (k:=k) aS
   exact ⟨_,rfl,a6.keep,(by exact congrArg vO e.symm)⟩
  have c2:la[k]! = lb[k]!:=by simpa using a4
  refine AV (BE (AA (AC kR (AB (AH (vI ((k:Nat):Int)) rfl (AB (CJ .i64 ((k:Nat):Int) (1:Int) (((k+1:Nat):Int)) rfl rfl (EI oM oM) (AB (AG (vI ((k+1:Nat):Int)) rfl (AD (AA (?_))))))))))))
  exact ⟨_,oM,(k+1),a8,oM,(eq_step hr0_1 aS),rfl,⟨_,AQ _ ⟨rfl,rfl,(by rfl),rfl,trivial⟩⟩,a6,a0,a1⟩
 have c3:(la.length:Int)≤((k:Nat):Int):=by simpa using a3
 obtain rfl:k=la.length:=by omega
 refine DV (CK (CK (DD (AA (AF (AC kR (AB (AG (vO true) rfl (AD (AA (AN (AY rfl (CM rfl rfl rfl) (?_)))))))))))))
 have e:(la == lb)=true:=by exact same_end aS hr0_1
 exact ⟨_,rfl,b2.keep,(by exact congrArg vO e.symm)⟩
open Go.Fw Go.RowKit
set_option maxHeartbeats 4000000 in
set_option maxRecDepth 100000 in
theorem KD {O:List Nat} (no:Int) (copy:Int) (w:World) (hO:∀ b∈O,b<w.heap.size):BV Try.prog 77 [vI no,vI copy] w (fun v w'=>∃ (x0:List Value),v = .agg x0.toArray∧Enc.devop.rd w' (O) x0 ((⟨0,no,2,copy,0,1⟩:DeviceOp))):= by
 have s0:St w O w []:=St.start hO
 refine BI 8 Try.func77 rfl rfl oT (fun F0=>AF (AC kR (AB (BW [vI 0,vI 0,vI 0,vI 0,vI 0,vI 0] HV rfl s0 fun a2 a6 a3 a4 a7 a8 a0=>(?_)))))
 clear a3
 refine AD (AA (AF (AC kR (AB (AH (vI no) rfl (AB (AH (vI copy) rfl (AB (DP (l:=[(1, .tmp 5),(2, .const (vI 2)),(3, .tmp 6),(5, .const (vI 1))]) pl_40 HV rfl [(1,vI no,[vI no]),(2,vI 2,[vI 2]),(3,vI copy,[vI copy]),(5,vI 1,[vI 1])] [vI 0,vI no,vI 2,vI copy,vI 0,vI 1] rfl ⟨_,rfl,rfl,oT,⟨_,rfl,rfl,oT,⟨_,rfl,rfl,oT,⟨_,rfl,rfl,oT,rfl⟩⟩⟩⟩ (BU (AR (vs:=[vI 0,vI no,vI 2,vI copy,vI 0,vI 1]) (.agg #[vI 0,vI no,vI 2,vI copy,vI 0,vI 1]) rfl rfl rfl CH (fun u hu=>by simp only [List.mem_cons,List.not_mem_nil,or_false] at hu;rcases hu with rfl|rfl|rfl|rfl|rfl|rfl <;> rfl) (by repeat (constructor)) a0 oT a4 fun a9 a5 b0 b1 a1=>(AD (AA (AN (AY rfl (GF (vs:=[vI 0,vI no,vI 2,vI copy,vI 0,vI 1]) rfl rfl U40_ rfl CH rfl a1 rfl) (?_))))))))))))))))
 have e:(⟨0,no,2,copy,0,1⟩:DeviceOp)=(⟨(0:Int),no,(2:Int),copy,(0:Int),(1:Int)⟩:DeviceOp):=rfl
 exact ⟨_,rfl,a5.keep,by rw [e];exact ⟨[vI 0,vI no,vI 2,vI copy,vI 0,vI 1],rfl,Enc.out (B:=(a2 :: [])) rfl⟩⟩
def rD:Device:=(CA 0).1
def rE4:Device:=(CA 4).1
def rS:Device:=(AI rD).1
def rE1:Device:=(AK rD ⟨0,0,0,0,0,0⟩ 2).1
def rA:Device:=(AK rD ⟨0,1,2,3,0,1⟩ 2).1
def HS:Device:=(AK rA ⟨0,2,2,3,0,1⟩ 2).1
def BR:Device:=(AK rD ⟨0,1,2,3,0,1⟩ 1).1
def rE3:Device:=(AI BR).1
def rR:Device:=BY rA rD.ops
def BH:Device:=(AI rR).1
def HT:Device:=(AK BH ⟨0,2,2,4,0,1⟩ 2).1
set_option maxHeartbeats 4000000 in
set_option maxRecDepth 100000 in
theorem c_sane43 {O:List Nat} (w:World) (hO:∀ b∈O,b<w.heap.size):BV Try.prog 39 [] w (fun v _=>v = .bool (true)):= by
 have s0:St w O w []:=St.start hO
 refine BI 162 Try.func39 rfl rfl oT (fun F0=>AF (AC kR (AB (AG (vO false) rfl (AD (AA (AF (AC kR (AB (BD (vs:=[vI 0]) MK (c_new43 (O:=[]++O) (0:Int) w s0.lt) rfl s0 fun dZ Z7 Z8 ea eb Z9=>(?_)))))))))))
 obtain ⟨j6,rfl,h1⟩:=Z9
 have h1:Enc.device.rd Z7 ([]++O) j6 rD:=h1
 refine AB (AH (vT #[vA j6.toArray,vI ((CA (0:Int)).2)]) rfl (AB (BJ (vA j6.toArray) rfl rfl (AB (BJ (vI ((CA (0:Int)).2)) rfl rfl (AB (BW [vI 0,vI 0,nS,vO false] HJ rfl Z8 fun a5 aa ab ac ad ec M8=>(?_))))))))
 clear ab
 have h1:Enc.device.rd aa ((a5 :: [])++O) j6 (rD):=Enc.mv Enc.device (x:=rD) h1 ad
 obtain ⟨b8,rfl,a3⟩:=h1
 have:=a3.len_le
 refine BU (AR (vs:=[vI rD.id,vI rD.counter,b8,vO rD.halted]) (.agg #[vI rD.id,vI rD.counter,b8,vO rD.halted]) rfl rfl rfl BS (fun u hu=>by simp only [List.mem_cons,List.not_mem_nil,or_false] at hu;rcases hu with rfl|rfl|rfl|rfl <;> first|rfl|exact a3.oneCell) (by repeat (constructor)) M8 oT ac fun ae I5 af ed a2=>(?_))
 have a3:=a3.mv af
 refine AB (AG (vI ((CA (0:Int)).2)) rfl (AD (AA (AF (AC kR (AB (BD (vs:=[vI 4]) MK (c_new43 (O:=(a5 :: [])++O) (4:Int) ae I5.lt) rfl I5 fun ee ag ah ai aj ak=>(?_))))))))
 obtain ⟨j7,rfl,h2⟩:=ak
 have h2:Enc.device.rd ag ((a5 :: [])++O) j7 rE4:=h2
 have a3:=a3.mv ai
 have a2:=a2.keep aj (by simp)
 refine AB (AH (vT #[vA j7.toArray,vI ((CA (4:Int)).2)]) rfl (AB (BJ (vA j7.toArray) rfl rfl (AB (BJ (vI ((CA (4:Int)).2)) rfl rfl (AB (BW [vI 0,vI 0,nS,vO false] HJ rfl ah fun b2 al am an I6 ao M9=>(?_))))))))
 have N0:CU a5 b2:=by show a5≠b2;have:=a2.lt;omega
 clear am
 have a3:=a3.mv I6
 have h2:Enc.device.rd al ((b2 :: (a5 :: []))++O) j7 (rE4):=Enc.mv Enc.device (x:=rE4) h2 I6
 have a2:=a2.keep ao (by simp)
 obtain ⟨I7,rfl,y8⟩:=h2
 have:=y8.len_le
 refine BU (AR (vs:=[vI rE4.id,vI rE4.counter,I7,vO rE4.halted]) (.agg #[vI rE4.id,vI rE4.counter,I7,vO rE4.halted]) rfl rfl rfl BS (fun u hu=>by simp only [List.mem_cons,List.not_mem_nil,or_false] at hu;rcases hu with rfl|rfl|rfl|rfl <;> first|rfl|exact y8.oneCell) (by repeat (constructor)) M9 oT an fun ap I8 aq ar c8=>(?_))
 have a3:=a3.mv aq
 have a2:=a2.keep ar (AT N0)
 refine AB (AG (vI ((CA (4:Int)).2)) rfl (AD (AA (AF (AC kR (AB (AU (vs:=[vI rD.id,vI rD.counter,b8,vO rD.halted]) U31_ rfl BS rfl a2 rfl (AB (BD (vs:=[vA #[vI rD.id,vI rD.counter,b8,vO rD.halted]]) JQ (LJ (O:=(b2 :: (a5 :: []))++O) [vI rD.id,vI rD.counter,b8,vO rD.halted] rD ap ⟨_,rfl,a3⟩ I8.lt) rfl I8 fun ef au av aw I9 ax=>(?_))))))))))
 obtain ⟨j8,rfl,h3⟩:=ax
 have h3:Enc.device.rd au ((b2 :: (a5 :: []))++O) j8 rS:=h3
 have a3:=a3.mv aw
 have a2:=a2.keep I9 (by simp)
 have c8:=c8.keep I9 (by simp)
 refine AB (AH (vT #[vA j8.toArray,vI ((AI rD).2)]) rfl (AB (BJ (vA j8.toArray) rfl rfl (AB (BJ (vI ((AI rD).2)) rfl rfl (AB (BW [vI 0,vI 0,nS,vO false] HJ rfl av fun a7 ay az aA J0 J1 N1=>(?_))))))))
 have N2:CU a5 a7:=by show a5≠a7;have:=a2.lt;omega
 have N3:CU b2 a7:=by show b2≠a7;have:=c8.lt;omega
 clear az
 have a3:=a3.mv J0
 have h3:Enc.device.rd ay ((a7 :: (b2 :: (a5 :: [])))++O) j8 (rS):=Enc.mv Enc.device (x:=rS) h3 J0
 have a2:=a2.keep J1 (by simp)
 have c8:=c8.keep J1 (by simp)
 obtain ⟨e0,rfl,a8⟩:=h3
 have:=a8.len_le
 refine BU (AR (vs:=[vI rS.id,vI rS.counter,e0,vO rS.halted]) (.agg #[vI rS.id,vI rS.counter,e0,vO rS.halted]) rfl rfl rfl BS (fun u hu=>by simp only [List.mem_cons,List.not_mem_nil,or_false] at hu;rcases hu with rfl|rfl|rfl|rfl <;> first|rfl|exact a8.oneCell) (by repeat (constructor)) N1 oT aA fun aB J2 J3 J4 a4=>(?_))
 have a3:=a3.mv J3
 have a8:=a8.mv J3
 have a2:=a2.keep J4 (AT N2)
 have c8:=c8.keep J4 (AT N3)
 refine AB (AG (vI ((AI rD).2)) rfl (AD (AA (AF (AC kR (AB (AU (vs:=[vI rD.id,vI rD.counter,b8,vO rD.halted]) U31_ rfl BS rfl a2 rfl (AB (DP (l:=[]) pl_40 HV rfl [] [vI 0,vI 0,vI 0,vI 0,vI 0,vI 0] rfl rfl (AB (BD (vs:=[vA #[vI rD.id,vI rD.counter,b8,vO rD.halted],vA #[vI 0,vI 0,vI 0,vI 0,vI 0,vI 0],vI 2]) HF (NN (O:=(a7 :: (b2 :: (a5 :: [])))++O) [vI rD.id,vI rD.counter,b8,vO rD.halted] rD [vI 0,vI 0,vI 0,vI 0,vI 0,vI 0] (⟨(0:Int),(0:Int),(0:Int),(0:Int),(0:Int),(0:Int)⟩:DeviceOp) (2:Int) aB ⟨_,rfl,a3⟩ rfl J2.lt) rfl J2 fun eg aC aD J5 v4 aE=>(?_))))))))))))
 obtain ⟨j9,rfl,h4⟩:=aE
 have h4:Enc.device.rd aC ((a7 :: (b2 :: (a5 :: [])))++O) j9 rE1:=h4
 have a3:=a3.mv J5
 have a8:=a8.mv J5
 have a2:=a2.keep v4 (by simp)
 have c8:=c8.keep v4 (by simp)
 have a4:=a4.keep v4 (by simp)
 refine AB (AH (vT #[vA j9.toArray,vI ((AK rD (⟨(0:Int),(0:Int),(0:Int),(0:Int),(0:Int),(0:Int)⟩:DeviceOp) (2:Int)).2)]) rfl (AB (BJ (vA j9.toArray) rfl rfl (AB (BJ (vI ((AK rD (⟨(0:Int),(0:Int),(0:Int),(0:Int),(0:Int),(0:Int)⟩:DeviceOp) (2:Int)).2)) rfl rfl (AB (BW [vI 0,vI 0,nS,vO false] HJ rfl aD fun b6 aF aG aH v5 v6 N4=>(?_))))))))
 have N5:CU a5 b6:=by show a5≠b6;have:=a2.lt;omega
 have N6:CU b2 b6:=by show b2≠b6;have:=c8.lt;omega
 have N7:CU a7 b6:=by show a7≠b6;have:=a4.lt;omega
 clear aG
 have a3:=a3.mv v5
 have a8:=a8.mv v5
 have h4:Enc.device.rd aF ((b6 :: (a7 :: (b2 :: (a5 :: []))))++O) j9 (rE1):=Enc.mv Enc.device (x:=rE1) h4 v5
 have a2:=a2.keep v6 (by simp)
 have c8:=c8.keep v6 (by simp)
 have a4:=a4.keep v6 (by simp)
 obtain ⟨J6,rfl,y9⟩:=h4
 have:=y9.len_le
 refine BU (AR (vs:=[vI rE1.id,vI rE1.counter,J6,vO rE1.halted]) (.agg #[vI rE1.id,vI rE1.counter,J6,vO rE1.halted]) rfl rfl rfl BS (fun u hu=>by simp only [List.mem_cons,List.not_mem_nil,or_false] at hu;rcases hu with rfl|rfl|rfl|rfl <;> first|rfl|exact y9.oneCell) (by repeat (constructor)) N4 oT aH fun e1 k2 J7 v7 z0=>(?_))
 have a3:=a3.mv J7
 have a8:=a8.mv J7
 have a2:=a2.keep v7 (AT N5)
 have c8:=c8.keep v7 (AT N6)
 have a4:=a4.keep v7 (AT N7)
 refine AB (AG (vI ((AK rD (⟨(0:Int),(0:Int),(0:Int),(0:Int),(0:Int),(0:Int)⟩:DeviceOp) (2:Int)).2)) rfl (AD (AA (IH (fun FI wI=>∃ (b0:Nat) (b4:Value) (B:List Nat),True∧(∃ F1,FI=FQ F1 [(1,vP (some ⟨a5,0,none⟩)),(2,vI ((CA (0:Int)).2)),(4,vI ((CA (4:Int)).2)),(5,vP (some ⟨a7,0,none⟩)),(6,vI ((AI rD).2)),(8,vI ((AK rD (⟨(0:Int),(0:Int),(0:Int),(0:Int),(0:Int),(0:Int)⟩:DeviceOp) (2:Int)).2)),(9,vP (some ⟨b0,0,none⟩)),(10,vI ((AK rD ⟨0,1,2,3,0,1⟩ 2).2)),(162,undef)])∧St w O wI B∧CG Enc.devop wI (B++O) (b8) (rD.ops)∧EA wI a5 31 [vI rD.id,vI rD.counter,b8,vO rD.halted]∧a5∈B∧CG Enc.devop wI (B++O) (e0) (rS.ops)∧EA wI a7 31 [vI rS.id,vI rS.counter,e0,vO rS.halted]∧a7∈B∧EA wI b0 31 [vI rA.id,vI rA.counter,b4,vO rA.halted]∧CG Enc.devop wI (B++O) b4 (rA.ops)∧b0∈B∧CU a5 b0∧CU a7 b0) ?_ ?_))))
 ·refine HE 7 [5] _ _ _ [fun _=>CT (vA #[vI rD.id,vI rD.counter,b8,vO rD.halted]),fun _=>CT (vA #[vI (((⟨0,(1:Int),2,(3:Int),0,1⟩:DeviceOp)).device),vI (((⟨0,(1:Int),2,(3:Int),0,1⟩:DeviceOp)).no),vI (((⟨0,(1:Int),2,(3:Int),0,1⟩:DeviceOp)).kind),vI (((⟨0,(1:Int),2,(3:Int),0,1⟩:DeviceOp)).copy),vI (((⟨0,(1:Int),2,(3:Int),0,1⟩:DeviceOp)).to),vI (((⟨0,(1:Int),2,(3:Int),0,1⟩:DeviceOp)).token)]),fun (BT:List Nat) (vT:Value) (wT:World)=>∃ (xT0:List Value),vT = .tuple #[.agg xT0.toArray,vI ((AK rD ((⟨0,(1:Int),2,(3:Int),0,1⟩:DeviceOp)) (2:Int)).2)]∧Enc.device.rd wT (BT++O) xT0 (rA),fun (BT:List Nat) (vT:Value) (wT:World)=>∃ (xT0:List Value),vT = .tuple #[.agg xT0.toArray,vI ((AK rD ((⟨0,(1:Int),2,(3:Int),0,1⟩:DeviceOp)) (2:Int)).2)]∧Enc.device.rd wT (BT++O) xT0 (rA),fun (BT:List Nat) (vT:Value) (wT:World)=>∃ csT:List Value,vT = .agg csT.toArray∧Enc.device.rd wT (BT++O) csT (rA),fun _=>CT (vI ((AK rD ((⟨0,(1:Int),2,(3:Int),0,1⟩:DeviceOp)) (2:Int)).2)),LN e1 31 [vI 0,vI 0,nS,vO false]] [⟨0,[],[],[],false,[]⟩,⟨0,[],[],[],false,[]⟩,⟨1,[],[],[],false,[0,1]⟩,⟨1,[1],[],[],false,[2]⟩,⟨1,[1],[],[],false,[3]⟩,⟨0,[1],[],[],false,[3]⟩,⟨2,[],[],[],false,[]⟩] (b6 :: (a7 :: (b2 :: (a5 :: [])))) kR kR kR kR kR (by decide) rfl rfl rfl ⟨fun _ _ _ _ _ h=>h,fun _ _ _ _ _ h=>h,(show ∀ B B2 v w w2,(fun (BT:List Nat) (vT:Value) (wT:World)=>∃ (xT0:List Value),vT = .tuple #[.agg xT0.toArray,vI ((AK rD ((⟨0,(1:Int),2,(3:Int),0,1⟩:DeviceOp)) (2:Int)).2)]∧Enc.device.rd wT (BT++O) xT0 (rA)) B v w→Mv B w B2 w2→(fun (BT:List Nat) (vT:Value) (wT:World)=>∃ (xT0:List Value),vT = .tuple #[.agg xT0.toArray,vI ((AK rD ((⟨0,(1:Int),2,(3:Int),0,1⟩:DeviceOp)) (2:Int)).2)]∧Enc.device.rd wT (BT++O) xT0 (rA)) B2 v w2 from fun _ _ _ _ _ ⟨y0,e,h0⟩ m=>⟨y0,e,Enc.mv _ h0 m⟩),(show ∀ B B2 v w w2,(fun (BT:List Nat) (vT:Value) (wT:World)=>∃ (xT0:List Value),vT = .tuple #[.agg xT0.toArray,vI ((AK rD ((⟨0,(1:Int),2,(3:Int),0,1⟩:DeviceOp)) (2:Int)).2)]∧Enc.device.rd wT (BT++O) xT0 (rA)) B v w→Mv B w B2 w2→(fun (BT:List Nat) (vT:Value) (wT:World)=>∃ (xT0:List Value),vT = .tuple #[.agg xT0.toArray,vI ((AK rD ((⟨0,(1:Int),2,(3:Int),0,1⟩:DeviceOp)) (2:Int)).2)]∧Enc.device.rd wT (BT++O) xT0 (rA)) B2 v w2 from fun _ _ _ _ _ ⟨y0,e,h0⟩ m=>⟨y0,e,Enc.mv _ h0 m⟩),(show ∀ B B2 v w w2,(fun (BT:List Nat) (vT:Value) (wT:World)=>∃ csT:List Value,vT = .agg csT.toArray∧Enc.device.rd wT (BT++O) csT (rA)) B v w→Mv B w B2 w2→(fun (BT:List Nat) (vT:Value) (wT:World)=>∃ csT:List Value,vT = .agg csT.toArray∧Enc.device.rd wT (BT++O) csT (rA)) B2 v w2 from fun _ _ _ _ _ ⟨a,e,h⟩ m=>⟨a,e,Enc.mv _ h m⟩),fun _ _ _ _ _ h=>h,LN.st,trivial⟩ ⟨?_,?_,?_,?_,?_,?_,?_,trivial⟩ ?_ ?_
  ·intro F1 w1 B1_ Bs_ k1 hs_ hl_ hr_ hsep_ hf hd
   have k0:=(Keep.drew [] e1).trans k1
   have a2:=a2.keep k0 (by simp)
   obtain ⟨F2,rfl⟩:=AL (F:=F1) [(1,vP (some ⟨a5,0,none⟩))] ⟨hf 1 kR,trivial⟩
   exact AJ rfl ((AU (vs:=[vI rD.id,vI rD.counter,b8,vO rD.halted]) U31_ rfl BS rfl a2 rfl (⟨[],(Keep.refl _ _),HA,rfl⟩)))
  ·intro F1 w1 B1_ Bs_ k1 hs_ hl_ hr_ hsep_ hf hd
   have k0:=(Keep.drew [] e1).trans k1
   have s1:=k2.call k0
   obtain ⟨F2,rfl⟩:=AL (F:=F1) [] trivial
   refine AJ rfl ((BD (vs:=[vI 1,vI 3]) JL (KD (O:=(b6 :: (a7 :: (b2 :: (a5 :: []))))++O) (1:Int) (3:Int) w1 s1.lt) rfl s1 fun eh ei ej ek aI aJ=>(?_)))
   obtain ⟨dr,rfl,N8⟩:=aJ
   obtain rfl:=N8
   exact ⟨[],aI,HA,rfl⟩
  ·intro F1 w1 B1_ Bs_ k1 hs_ hl_ hr_ hsep_ hf hd
   have k0:=(Keep.drew [] e1).trans k1
   have s1:=k2.adoptL k0 hl_
   have m1:Mv (b6 :: (a7 :: (b2 :: (a5 :: [])))) e1 B1_ w1:=Mv.adoptL k0 hl_
   have a3:=a3.mv m1
   obtain ⟨F2,rfl⟩:=AL (F:=F1) [(41,vA #[vI rD.id,vI rD.counter,b8,vO rD.halted]),(42,vA #[vI (((⟨0,(1:Int),2,(3:Int),0,1⟩:DeviceOp)).device),vI (((⟨0,(1:Int),2,(3:Int),0,1⟩:DeviceOp)).no),vI (((⟨0,(1:Int),2,(3:Int),0,1⟩:DeviceOp)).kind),vI (((⟨0,(1:Int),2,(3:Int),0,1⟩:DeviceOp)).copy),vI (((⟨0,(1:Int),2,(3:Int),0,1⟩:DeviceOp)).to),vI (((⟨0,(1:Int),2,(3:Int),0,1⟩:DeviceOp)).token)])] ⟨hd 0 41 kR kR,hd 1 42 kR kR,trivial⟩
   refine AJ rfl ((BD (vs:=[vA #[vI rD.id,vI rD.counter,b8,vO rD.halted],vA #[vI (((⟨0,(1:Int),2,(3:Int),0,1⟩:DeviceOp)).device),vI (((⟨0,(1:Int),2,(3:Int),0,1⟩:DeviceOp)).no),vI (((⟨0,(1:Int),2,(3:Int),0,1⟩:DeviceOp)).kind),vI (((⟨0,(1:Int),2,(3:Int),0,1⟩:DeviceOp)).copy),vI (((⟨0,(1:Int),2,(3:Int),0,1⟩:DeviceOp)).to),vI (((⟨0,(1:Int),2,(3:Int),0,1⟩:DeviceOp)).token)],vI 2]) HF (NN (O:=B1_++O) [vI rD.id,vI rD.counter,b8,vO rD.halted] rD [vI (((⟨0,(1:Int),2,(3:Int),0,1⟩:DeviceOp)).device),vI (((⟨0,(1:Int),2,(3:Int),0,1⟩:DeviceOp)).no),vI (((⟨0,(1:Int),2,(3:Int),0,1⟩:DeviceOp)).kind),vI (((⟨0,(1:Int),2,(3:Int),0,1⟩:DeviceOp)).copy),vI (((⟨0,(1:Int),2,(3:Int),0,1⟩:DeviceOp)).to),vI (((⟨0,(1:Int),2,(3:Int),0,1⟩:DeviceOp)).token)] ((⟨0,(1:Int),2,(3:Int),0,1⟩:DeviceOp)) (2:Int) w1 ⟨_,rfl,a3⟩ rfl s1.lt) rfl s1 fun el aK em en aL aM=>(?_)))
   obtain ⟨z1,rfl,q3⟩:=aM
   have q3:Enc.device.rd aK (B1_++O) z1 rA:=q3
   exact ⟨[],aL,HA,⟨z1,rfl,q3⟩⟩
  ·intro F1 w1 B1_ Bs_ k1 hs_ hl_ hr_ hsep_ hf hd
   obtain ⟨k3,aN,q4⟩:(fun (vT:Value) (wT:World)=>∃ (xT0:List Value),vT = .tuple #[.agg xT0.toArray,vI ((AK rD ((⟨0,(1:Int),2,(3:Int),0,1⟩:DeviceOp)) (2:Int)).2)]∧Enc.device.rd wT ((Bs_ 1)++O) xT0 (rA)) (F1 43) w1:=hd 2 43 kR kR
   have q4:Enc.device.rd w1 (B1_++O) k3 (rA):=Enc.mv Enc.device (x:=rA) q4 (Mv.at_ (hr_ 1 kR))
   obtain ⟨F2,rfl⟩:=AL (F:=F1) [(43,vT #[vA k3.toArray,vI ((AK rD ((⟨0,(1:Int),2,(3:Int),0,1⟩:DeviceOp)) (2:Int)).2)])] ⟨aN,trivial⟩
   exact AJ rfl ((AH (vT #[vA k3.toArray,vI ((AK rD ((⟨0,(1:Int),2,(3:Int),0,1⟩:DeviceOp)) (2:Int)).2)]) rfl (⟨[],(Keep.refl _ _),HA,⟨k3,rfl,q4⟩⟩)))
  ·intro F1 w1 B1_ Bs_ k1 hs_ hl_ hr_ hsep_ hf hd
   obtain ⟨k4,aO,q5⟩:(fun (vT:Value) (wT:World)=>∃ (xT0:List Value),vT = .tuple #[.agg xT0.toArray,vI ((AK rD ((⟨0,(1:Int),2,(3:Int),0,1⟩:DeviceOp)) (2:Int)).2)]∧Enc.device.rd wT ((Bs_ 1)++O) xT0 (rA)) (F1 40) w1:=hd 3 40 kR kR
   have q5:Enc.device.rd w1 (B1_++O) k4 (rA):=Enc.mv Enc.device (x:=rA) q5 (Mv.at_ (hr_ 1 kR))
   obtain ⟨F2,rfl⟩:=AL (F:=F1) [(40,vT #[vA k4.toArray,vI ((AK rD ((⟨0,(1:Int),2,(3:Int),0,1⟩:DeviceOp)) (2:Int)).2)])] ⟨aO,trivial⟩
   exact AJ rfl ((BJ (vA k4.toArray) rfl rfl (⟨[],(Keep.refl _ _),HA,⟨k4,rfl,q5⟩⟩)))
  ·intro F1 w1 B1_ Bs_ k1 hs_ hl_ hr_ hsep_ hf hd
   obtain ⟨N9,aP,ds⟩:(fun (vT:Value) (wT:World)=>∃ (xT0:List Value),vT = .tuple #[.agg xT0.toArray,vI ((AK rD ((⟨0,(1:Int),2,(3:Int),0,1⟩:DeviceOp)) (2:Int)).2)]∧Enc.device.rd wT ((Bs_ 1)++O) xT0 (rA)) (F1 40) w1:=hd 3 40 kR kR
   obtain ⟨F2,rfl⟩:=AL (F:=F1) [(40,vT #[vA N9.toArray,vI ((AK rD ((⟨0,(1:Int),2,(3:Int),0,1⟩:DeviceOp)) (2:Int)).2)])] ⟨aP,trivial⟩
   exact AJ rfl ((BJ (vI ((AK rD ((⟨0,(1:Int),2,(3:Int),0,1⟩:DeviceOp)) (2:Int)).2)) rfl rfl (⟨[],(Keep.refl _ _),HA,rfl⟩)))
  ·intro F1 w1 B1_ Bs_ k1 hs_ hl_ hr_ hsep_ hf hd
   have k0:=(Keep.drew [] e1).trans k1
   have s1:=k2.adoptL k0 hl_
   obtain ⟨F2,rfl⟩:=AL (F:=F1) [] trivial
   refine AJ rfl ((BW [vI 0,vI 0,nS,vO false] HJ rfl s1 fun aQ eo ep eq er aR O0=>(?_)))
   have O1:e1.heap.size≤aQ:=by have:=k0.size;omega
   exact ⟨[],aR,HA,⟨_,rfl,O1,(by intro h;have:=LS s1 _ h;omega),O0⟩⟩
  ·intro v8 i8 h5 o5 q6 O2 u3 k5 f4
   obtain ⟨d8,aT,z2,O3,z3⟩:(LN e1 31 [vI 0,vI 0,nS,vO false]) (h5 2) (v8 9) i8:=k5 6 9 kR (by decide) kR kR
   have z4:=z3.lt
   have O4:∀ x∈(b6 :: (a7 :: (b2 :: (a5 :: [])))),x∈(b6 :: (a7 :: (b2 :: (a5 :: []))))∨(e1.heap.size≤x∧x<i8.heap.size):=fun x hx=>.inl hx
   have L8:∀ x∈(b6 :: (a7 :: (b2 :: (a5 :: [])))),x∈(b6 :: (a7 :: (b2 :: (a5 :: [])))):=fun x hx=>hx
   have O5:∀ x∈(b6 :: (a7 :: (b2 :: (a5 :: [])))),x∈h5 1:=fun x hx=>q6 1 x hx
   have dt:∀ x∈(b6 :: (a7 :: (b2 :: (a5 :: [])))),x∈h5 2:=fun x hx=>q6 2 x hx
   have z5:∀ x∈(d8 :: (b6 :: (a7 :: (b2 :: (a5 :: []))))),x∈(b6 :: (a7 :: (b2 :: (a5 :: []))))∨(e1.heap.size≤x∧x<i8.heap.size):=fun x hx=>by rcases List.mem_cons.1 hx with rfl|hx;exact .inr ⟨z2,z4⟩;exact O4 x hx
   have dg:∀ x∈(b6 :: (a7 :: (b2 :: (a5 :: [])))),x∈(d8 :: (b6 :: (a7 :: (b2 :: (a5 :: []))))):=fun x hx=>List.mem_cons_of_mem _ (L8 x hx)
   have O6:∀ x∈(d8 :: (b6 :: (a7 :: (b2 :: (a5 :: []))))),x∈h5 1:=fun x hx=>by rcases List.mem_cons.1 hx with rfl|hx;exact u3 2 1 _ (by decide) z2 z4 O3;exact O5 x hx
   have aU:=k2.adoptL o5 z5
   have J8:Mv (b6 :: (a7 :: (b2 :: (a5 :: [])))) e1 (d8 :: (b6 :: (a7 :: (b2 :: (a5 :: []))))) i8:=Mv.adoptL o5 z5
   have z6:CU a5 d8:=by show a5≠d8;have:=a2.lt;omega
   have du:CU b2 d8:=by show b2≠d8;have:=c8.lt;omega
   have z7:CU a7 d8:=by show a7≠d8;have:=a4.lt;omega
   have dv:CU b6 d8:=by show b6≠d8;have:=z0.lt;omega
   obtain ⟨z8,aV,q7⟩:∃ cs:List Value,v8 44 = .agg cs.toArray∧Enc.device.rd i8 ((h5 1)++O) cs (rA):=k5 4 44 kR (by decide) kR kR
   have q7:Enc.device.rd i8 ((d8 :: (b6 :: (a7 :: (b2 :: (a5 :: [])))))++O) z8 (rA):=Enc.mv Enc.device (x:=rA) q7 (Mv.at_ O6)
   have a3:=a3.mv J8
   have a8:=a8.mv J8
   have a2:=a2.keep o5 (by simp)
   have a4:=a4.keep o5 (by simp)
   obtain ⟨F2,rfl⟩:=AL (F:=v8) [(1,vP (some ⟨a5,0,none⟩)),(2,vI ((CA (0:Int)).2)),(4,vI ((CA (4:Int)).2)),(5,vP (some ⟨a7,0,none⟩)),(6,vI ((AI rD).2)),(8,vI ((AK rD (⟨(0:Int),(0:Int),(0:Int),(0:Int),(0:Int),(0:Int)⟩:DeviceOp) (2:Int)).2)),(162,undef),(9,vP (some ⟨d8,0,none⟩)),(44,vA z8.toArray),(45,vI ((AK rD ((⟨0,(1:Int),2,(3:Int),0,1⟩:DeviceOp)) (2:Int)).2))] ⟨f4 1 kR,f4 2 kR,f4 4 kR,f4 5 kR,f4 6 kR,f4 8 kR,f4 162 kR,aT,aV,k5 5 45 kR (by decide) kR kR,trivial⟩
   clear k5 f4 q6 O2 u3
   obtain ⟨v9,rfl,h6⟩:=q7
   have:=h6.len_le
   refine BU (AR (vs:=[vI rA.id,vI rA.counter,v9,vO rA.halted]) (.agg #[vI rA.id,vI rA.counter,v9,vO rA.halted]) rfl rfl rfl BS (fun u hu=>by simp only [List.mem_cons,List.not_mem_nil,or_false] at hu;rcases hu with rfl|rfl|rfl|rfl <;> first|rfl|exact h6.oneCell) (by repeat (constructor)) z3 oT aU fun es aW w0 J9 O7=>(?_))
   have h6:=h6.mv w0
   have a3:=a3.mv w0
   have a2:=a2.keep J9 (AT z6)
   have a8:=a8.mv w0
   have a4:=a4.keep J9 (AT z7)
   refine AB (AG (vI ((AK rD ((⟨0,(1:Int),2,(3:Int),0,1⟩:DeviceOp)) (2:Int)).2)) rfl (AD (AA (?_))))
   exact ⟨d8,v9,(d8 :: (b6 :: (a7 :: (b2 :: (a5 :: []))))),trivial,⟨_,AQ _ ⟨rfl,rfl,rfl,rfl,rfl,rfl,rfl,(by rfl),rfl,trivial⟩⟩,aW,a3,a2,(by (repeat (first|exact List.mem_cons_self|apply List.mem_cons_of_mem))),a8,a4,(by (repeat (first|exact List.mem_cons_self|apply List.mem_cons_of_mem))),O7,h6,(by repeat (constructor)),z6,z7⟩
  intro cx_ hcx_
  match cx_,hcx_ with
  | 0,_=>
   intro o6 g3 f8 o7 q8 O8 u4 k6 f5
   obtain ⟨d9,aX,z9,O9,A0⟩:(LN e1 31 [vI 0,vI 0,nS,vO false]) (f8 2) (o6 9) g3:=k6 6 9 kR (by decide) kR kR
   have A1:=A0.lt
   have P0:∀ x∈(b6 :: (a7 :: (b2 :: (a5 :: [])))),x∈(b6 :: (a7 :: (b2 :: (a5 :: []))))∨(e1.heap.size≤x∧x<g3.heap.size):=fun x hx=>.inl hx
   have L9:∀ x∈(b6 :: (a7 :: (b2 :: (a5 :: [])))),x∈(b6 :: (a7 :: (b2 :: (a5 :: [])))):=fun x hx=>hx
   have P1:∀ x∈(b6 :: (a7 :: (b2 :: (a5 :: [])))),x∈f8 1:=fun x hx=>q8 1 x hx
   have dw:∀ x∈(b6 :: (a7 :: (b2 :: (a5 :: [])))),x∈f8 2:=fun x hx=>q8 2 x hx
   have A2:∀ x∈(d9 :: (b6 :: (a7 :: (b2 :: (a5 :: []))))),x∈(b6 :: (a7 :: (b2 :: (a5 :: []))))∨(e1.heap.size≤x∧x<g3.heap.size):=fun x hx=>by rcases List.mem_cons.1 hx with rfl|hx;exact .inr ⟨z9,A1⟩;exact P0 x hx
   have dh:∀ x∈(b6 :: (a7 :: (b2 :: (a5 :: [])))),x∈(d9 :: (b6 :: (a7 :: (b2 :: (a5 :: []))))):=fun x hx=>List.mem_cons_of_mem _ (L9 x hx)
   have P2:∀ x∈(d9 :: (b6 :: (a7 :: (b2 :: (a5 :: []))))),x∈f8 1:=fun x hx=>by rcases List.mem_cons.1 hx with rfl|hx;exact u4 2 1 _ (by decide) z9 A1 O9;exact P1 x hx
   have aY:=k2.adoptL o7 A2
   have K0:Mv (b6 :: (a7 :: (b2 :: (a5 :: [])))) e1 (d9 :: (b6 :: (a7 :: (b2 :: (a5 :: []))))) g3:=Mv.adoptL o7 A2
   have A3:CU a5 d9:=by show a5≠d9;have:=a2.lt;omega
   have dx:CU b2 d9:=by show b2≠d9;have:=c8.lt;omega
   have A4:CU a7 d9:=by show a7≠d9;have:=a4.lt;omega
   have dy:CU b6 d9:=by show b6≠d9;have:=z0.lt;omega
   obtain ⟨P3,aZ,dz⟩:(fun (vT:Value) (wT:World)=>∃ (xT0:List Value),vT = .tuple #[.agg xT0.toArray,vI ((AK rD ((⟨0,(1:Int),2,(3:Int),0,1⟩:DeviceOp)) (2:Int)).2)]∧Enc.device.rd wT ((f8 1)++O) xT0 (rA)) (o6 40) g3:=k6 3 40 kR (by decide) kR kR
   obtain ⟨A5,ba,q9⟩:∃ cs:List Value,o6 44 = .agg cs.toArray∧Enc.device.rd g3 ((f8 1)++O) cs (rA):=k6 4 44 kR (by decide) kR kR
   have q9:Enc.device.rd g3 ((d9 :: (b6 :: (a7 :: (b2 :: (a5 :: [])))))++O) A5 (rA):=Enc.mv Enc.device (x:=rA) q9 (Mv.at_ P2)
   have a3:=a3.mv K0
   have a8:=a8.mv K0
   have a2:=a2.keep o7 (by simp)
   have a4:=a4.keep o7 (by simp)
   obtain ⟨F2,rfl⟩:=AL (F:=o6) [(1,vP (some ⟨a5,0,none⟩)),(2,vI ((CA (0:Int)).2)),(4,vI ((CA (4:Int)).2)),(5,vP (some ⟨a7,0,none⟩)),(6,vI ((AI rD).2)),(8,vI ((AK rD (⟨(0:Int),(0:Int),(0:Int),(0:Int),(0:Int),(0:Int)⟩:DeviceOp) (2:Int)).2)),(162,undef),(9,vP (some ⟨d9,0,none⟩)),(40,vT #[vA P3.toArray,vI ((AK rD ((⟨0,(1:Int),2,(3:Int),0,1⟩:DeviceOp)) (2:Int)).2)]),(44,vA A5.toArray)] ⟨f5 1 kR,f5 2 kR,f5 4 kR,f5 5 kR,f5 6 kR,f5 8 kR,f5 162 kR,aX,aZ,ba,trivial⟩
   clear k6 f5 q8 O8 u4
   obtain ⟨w3,rfl,h7⟩:=q9
   have:=h7.len_le
   refine BU (AR (vs:=[vI rA.id,vI rA.counter,w3,vO rA.halted]) (.agg #[vI rA.id,vI rA.counter,w3,vO rA.halted]) rfl rfl rfl BS (fun u hu=>by simp only [List.mem_cons,List.not_mem_nil,or_false] at hu;rcases hu with rfl|rfl|rfl|rfl <;> first|rfl|exact h7.oneCell) (by repeat (constructor)) A0 oT aY fun et bb w4 K1 P4=>(?_))
   have h7:=h7.mv w4
   have a3:=a3.mv w4
   have a2:=a2.keep K1 (AT A3)
   have a8:=a8.mv w4
   have a4:=a4.keep K1 (AT A4)
   refine AB (BJ (vI ((AK rD ((⟨0,(1:Int),2,(3:Int),0,1⟩:DeviceOp)) (2:Int)).2)) rfl rfl (AB (AG (vI ((AK rD ((⟨0,(1:Int),2,(3:Int),0,1⟩:DeviceOp)) (2:Int)).2)) rfl (AD (AA (?_))))))
   exact ⟨d9,w3,(d9 :: (b6 :: (a7 :: (b2 :: (a5 :: []))))),trivial,⟨_,AQ _ ⟨rfl,rfl,rfl,rfl,rfl,rfl,rfl,(by rfl),rfl,trivial⟩⟩,bb,a3,a2,(by (repeat (first|exact List.mem_cons_self|apply List.mem_cons_of_mem))),a8,a4,(by (repeat (first|exact List.mem_cons_self|apply List.mem_cons_of_mem))),P4,h7,(by repeat (constructor)),A3,A4⟩
 intro F e2 hI
 clear a3 a2 a8 a4
 obtain ⟨b0,b4,c2,eu,⟨ev,rfl⟩,k7,a3,a2,f6,a8,a4,f7,a0,a1,f3,K2,K3⟩:=hI
 have:=a1.len_le
 refine IH (fun FI wI=>∃ (B:List Nat),True∧(∃ F1,FI=FQ F1 [(1,vP (some ⟨a5,0,none⟩)),(2,vI ((CA (0:Int)).2)),(4,vI ((CA (4:Int)).2)),(5,vP (some ⟨a7,0,none⟩)),(6,vI ((AI rD).2)),(8,vI ((AK rD (⟨(0:Int),(0:Int),(0:Int),(0:Int),(0:Int),(0:Int)⟩:DeviceOp) (2:Int)).2)),(9,vP (some ⟨b0,0,none⟩)),(10,vI ((AK rD ⟨0,1,2,3,0,1⟩ 2).2)),(12,vI ((AK rA ⟨0,2,2,3,0,1⟩ 2).2)),(162,undef)])∧St w O wI B∧CG Enc.devop wI (B++O) (b8) (rD.ops)∧EA wI a5 31 [vI rD.id,vI rD.counter,b8,vO rD.halted]∧a5∈B∧CG Enc.devop wI (B++O) (e0) (rS.ops)∧EA wI a7 31 [vI rS.id,vI rS.counter,e0,vO rS.halted]∧a7∈B∧CG Enc.devop wI (B++O) (b4) (rA.ops)∧EA wI b0 31 [vI rA.id,vI rA.counter,b4,vO rA.halted]∧b0∈B) ?_ ?_
 ·refine HE 7 [5] _ _ _ [fun _=>CT (vA #[vI rA.id,vI rA.counter,b4,vO rA.halted]),fun _=>CT (vA #[vI (((⟨0,(2:Int),2,(3:Int),0,1⟩:DeviceOp)).device),vI (((⟨0,(2:Int),2,(3:Int),0,1⟩:DeviceOp)).no),vI (((⟨0,(2:Int),2,(3:Int),0,1⟩:DeviceOp)).kind),vI (((⟨0,(2:Int),2,(3:Int),0,1⟩:DeviceOp)).copy),vI (((⟨0,(2:Int),2,(3:Int),0,1⟩:DeviceOp)).to),vI (((⟨0,(2:Int),2,(3:Int),0,1⟩:DeviceOp)).token)]),fun (BT:List Nat) (vT:Value) (wT:World)=>∃ (xT0:List Value),vT = .tuple #[.agg xT0.toArray,vI ((AK rA ((⟨0,(2:Int),2,(3:Int),0,1⟩:DeviceOp)) (2:Int)).2)]∧Enc.device.rd wT (BT++O) xT0 (HS),fun (BT:List Nat) (vT:Value) (wT:World)=>∃ (xT0:List Value),vT = .tuple #[.agg xT0.toArray,vI ((AK rA ((⟨0,(2:Int),2,(3:Int),0,1⟩:DeviceOp)) (2:Int)).2)]∧Enc.device.rd wT (BT++O) xT0 (HS),fun (BT:List Nat) (vT:Value) (wT:World)=>∃ csT:List Value,vT = .agg csT.toArray∧Enc.device.rd wT (BT++O) csT (HS),fun _=>CT (vI ((AK rA ((⟨0,(2:Int),2,(3:Int),0,1⟩:DeviceOp)) (2:Int)).2)),LN e2 31 [vI 0,vI 0,nS,vO false]] [⟨0,[],[],[],false,[]⟩,⟨0,[],[],[],false,[]⟩,⟨1,[],[],[],false,[0,1]⟩,⟨1,[1],[],[],false,[2]⟩,⟨1,[1],[],[],false,[3]⟩,⟨0,[1],[],[],false,[3]⟩,⟨2,[],[],[],false,[]⟩] c2 kR kR kR kR kR (by decide) rfl rfl rfl ⟨fun _ _ _ _ _ h=>h,fun _ _ _ _ _ h=>h,(show ∀ B B2 v w w2,(fun (BT:List Nat) (vT:Value) (wT:World)=>∃ (xT0:List Value),vT = .tuple #[.agg xT0.toArray,vI ((AK rA ((⟨0,(2:Int),2,(3:Int),0,1⟩:DeviceOp)) (2:Int)).2)]∧Enc.device.rd wT (BT++O) xT0 (HS)) B v w→Mv B w B2 w2→(fun (BT:List Nat) (vT:Value) (wT:World)=>∃ (xT0:List Value),vT = .tuple #[.agg xT0.toArray,vI ((AK rA ((⟨0,(2:Int),2,(3:Int),0,1⟩:DeviceOp)) (2:Int)).2)]∧Enc.device.rd wT (BT++O) xT0 (HS)) B2 v w2 from fun _ _ _ _ _ ⟨y0,e,h0⟩ m=>⟨y0,e,Enc.mv _ h0 m⟩),(show ∀ B B2 v w w2,(fun (BT:List Nat) (vT:Value) (wT:World)=>∃ (xT0:List Value),vT = .tuple #[.agg xT0.toArray,vI ((AK rA ((⟨0,(2:Int),2,(3:Int),0,1⟩:DeviceOp)) (2:Int)).2)]∧Enc.device.rd wT (BT++O) xT0 (HS)) B v w→Mv B w B2 w2→(fun (BT:List Nat) (vT:Value) (wT:World)=>∃ (xT0:List Value),vT = .tuple #[.agg xT0.toArray,vI ((AK rA ((⟨0,(2:Int),2,(3:Int),0,1⟩:DeviceOp)) (2:Int)).2)]∧Enc.device.rd wT (BT++O) xT0 (HS)) B2 v w2 from fun _ _ _ _ _ ⟨y0,e,h0⟩ m=>⟨y0,e,Enc.mv _ h0 m⟩),(show ∀ B B2 v w w2,(fun (BT:List Nat) (vT:Value) (wT:World)=>∃ csT:List Value,vT = .agg csT.toArray∧Enc.device.rd wT (BT++O) csT (HS)) B v w→Mv B w B2 w2→(fun (BT:List Nat) (vT:Value) (wT:World)=>∃ csT:List Value,vT = .agg csT.toArray∧Enc.device.rd wT (BT++O) csT (HS)) B2 v w2 from fun _ _ _ _ _ ⟨a,e,h⟩ m=>⟨a,e,Enc.mv _ h m⟩),fun _ _ _ _ _ h=>h,LN.st,trivial⟩ ⟨?_,?_,?_,?_,?_,?_,?_,trivial⟩ ?_ ?_
  ·intro F1 w1 B1_ Bs_ k1 hs_ hl_ hr_ hsep_ hf hd
   have k0:=(Keep.drew [] e2).trans k1
   have a0:=a0.keep k0 (by simp)
   obtain ⟨F2,rfl⟩:=AL (F:=F1) [(9,vP (some ⟨b0,0,none⟩))] ⟨hf 9 kR,trivial⟩
   exact AJ rfl ((AU (vs:=[vI rA.id,vI rA.counter,b4,vO rA.halted]) U31_ rfl BS rfl a0 rfl (⟨[],(Keep.refl _ _),HA,rfl⟩)))
  ·intro F1 w1 B1_ Bs_ k1 hs_ hl_ hr_ hsep_ hf hd
   have k0:=(Keep.drew [] e2).trans k1
   have s1:=k7.call k0
   obtain ⟨F2,rfl⟩:=AL (F:=F1) [] trivial
   refine AJ rfl ((BD (vs:=[vI 2,vI 3]) JL (KD (O:=c2++O) (2:Int) (3:Int) w1 s1.lt) rfl s1 fun ew ex ey ez bc bd=>(?_)))
   obtain ⟨dA,rfl,P5⟩:=bd
   obtain rfl:=P5
   exact ⟨[],bc,HA,rfl⟩
  ·intro F1 w1 B1_ Bs_ k1 hs_ hl_ hr_ hsep_ hf hd
   have k0:=(Keep.drew [] e2).trans k1
   have s1:=k7.adoptL k0 hl_
   have m1:Mv c2 e2 B1_ w1:=Mv.adoptL k0 hl_
   have a1:=a1.mv m1
   obtain ⟨F2,rfl⟩:=AL (F:=F1) [(47,vA #[vI rA.id,vI rA.counter,b4,vO rA.halted]),(48,vA #[vI (((⟨0,(2:Int),2,(3:Int),0,1⟩:DeviceOp)).device),vI (((⟨0,(2:Int),2,(3:Int),0,1⟩:DeviceOp)).no),vI (((⟨0,(2:Int),2,(3:Int),0,1⟩:DeviceOp)).kind),vI (((⟨0,(2:Int),2,(3:Int),0,1⟩:DeviceOp)).copy),vI (((⟨0,(2:Int),2,(3:Int),0,1⟩:DeviceOp)).to),vI (((⟨0,(2:Int),2,(3:Int),0,1⟩:DeviceOp)).token)])] ⟨hd 0 47 kR kR,hd 1 48 kR kR,trivial⟩
   refine AJ rfl ((BD (vs:=[vA #[vI rA.id,vI rA.counter,b4,vO rA.halted],vA #[vI (((⟨0,(2:Int),2,(3:Int),0,1⟩:DeviceOp)).device),vI (((⟨0,(2:Int),2,(3:Int),0,1⟩:DeviceOp)).no),vI (((⟨0,(2:Int),2,(3:Int),0,1⟩:DeviceOp)).kind),vI (((⟨0,(2:Int),2,(3:Int),0,1⟩:DeviceOp)).copy),vI (((⟨0,(2:Int),2,(3:Int),0,1⟩:DeviceOp)).to),vI (((⟨0,(2:Int),2,(3:Int),0,1⟩:DeviceOp)).token)],vI 2]) HF (NN (O:=B1_++O) [vI rA.id,vI rA.counter,b4,vO rA.halted] rA [vI (((⟨0,(2:Int),2,(3:Int),0,1⟩:DeviceOp)).device),vI (((⟨0,(2:Int),2,(3:Int),0,1⟩:DeviceOp)).no),vI (((⟨0,(2:Int),2,(3:Int),0,1⟩:DeviceOp)).kind),vI (((⟨0,(2:Int),2,(3:Int),0,1⟩:DeviceOp)).copy),vI (((⟨0,(2:Int),2,(3:Int),0,1⟩:DeviceOp)).to),vI (((⟨0,(2:Int),2,(3:Int),0,1⟩:DeviceOp)).token)] ((⟨0,(2:Int),2,(3:Int),0,1⟩:DeviceOp)) (2:Int) w1 ⟨_,rfl,a1⟩ rfl s1.lt) rfl s1 fun eA be eB eC bf bg=>(?_)))
   obtain ⟨A6,rfl,r0⟩:=bg
   have r0:Enc.device.rd be (B1_++O) A6 HS:=r0
   exact ⟨[],bf,HA,⟨A6,rfl,r0⟩⟩
  ·intro F1 w1 B1_ Bs_ k1 hs_ hl_ hr_ hsep_ hf hd
   obtain ⟨k8,bh,r1⟩:(fun (vT:Value) (wT:World)=>∃ (xT0:List Value),vT = .tuple #[.agg xT0.toArray,vI ((AK rA ((⟨0,(2:Int),2,(3:Int),0,1⟩:DeviceOp)) (2:Int)).2)]∧Enc.device.rd wT ((Bs_ 1)++O) xT0 (HS)) (F1 49) w1:=hd 2 49 kR kR
   have r1:Enc.device.rd w1 (B1_++O) k8 (HS):=Enc.mv Enc.device (x:=HS) r1 (Mv.at_ (hr_ 1 kR))
   obtain ⟨F2,rfl⟩:=AL (F:=F1) [(49,vT #[vA k8.toArray,vI ((AK rA ((⟨0,(2:Int),2,(3:Int),0,1⟩:DeviceOp)) (2:Int)).2)])] ⟨bh,trivial⟩
   exact AJ rfl ((AH (vT #[vA k8.toArray,vI ((AK rA ((⟨0,(2:Int),2,(3:Int),0,1⟩:DeviceOp)) (2:Int)).2)]) rfl (⟨[],(Keep.refl _ _),HA,⟨k8,rfl,r1⟩⟩)))
  ·intro F1 w1 B1_ Bs_ k1 hs_ hl_ hr_ hsep_ hf hd
   obtain ⟨k9,bi,r2⟩:(fun (vT:Value) (wT:World)=>∃ (xT0:List Value),vT = .tuple #[.agg xT0.toArray,vI ((AK rA ((⟨0,(2:Int),2,(3:Int),0,1⟩:DeviceOp)) (2:Int)).2)]∧Enc.device.rd wT ((Bs_ 1)++O) xT0 (HS)) (F1 46) w1:=hd 3 46 kR kR
   have r2:Enc.device.rd w1 (B1_++O) k9 (HS):=Enc.mv Enc.device (x:=HS) r2 (Mv.at_ (hr_ 1 kR))
   obtain ⟨F2,rfl⟩:=AL (F:=F1) [(46,vT #[vA k9.toArray,vI ((AK rA ((⟨0,(2:Int),2,(3:Int),0,1⟩:DeviceOp)) (2:Int)).2)])] ⟨bi,trivial⟩
   exact AJ rfl ((BJ (vA k9.toArray) rfl rfl (⟨[],(Keep.refl _ _),HA,⟨k9,rfl,r2⟩⟩)))
  ·intro F1 w1 B1_ Bs_ k1 hs_ hl_ hr_ hsep_ hf hd
   obtain ⟨P6,bj,dB⟩:(fun (vT:Value) (wT:World)=>∃ (xT0:List Value),vT = .tuple #[.agg xT0.toArray,vI ((AK rA ((⟨0,(2:Int),2,(3:Int),0,1⟩:DeviceOp)) (2:Int)).2)]∧Enc.device.rd wT ((Bs_ 1)++O) xT0 (HS)) (F1 46) w1:=hd 3 46 kR kR
   obtain ⟨F2,rfl⟩:=AL (F:=F1) [(46,vT #[vA P6.toArray,vI ((AK rA ((⟨0,(2:Int),2,(3:Int),0,1⟩:DeviceOp)) (2:Int)).2)])] ⟨bj,trivial⟩
   exact AJ rfl ((BJ (vI ((AK rA ((⟨0,(2:Int),2,(3:Int),0,1⟩:DeviceOp)) (2:Int)).2)) rfl rfl (⟨[],(Keep.refl _ _),HA,rfl⟩)))
  ·intro F1 w1 B1_ Bs_ k1 hs_ hl_ hr_ hsep_ hf hd
   have k0:=(Keep.drew [] e2).trans k1
   have s1:=k7.adoptL k0 hl_
   obtain ⟨F2,rfl⟩:=AL (F:=F1) [] trivial
   refine AJ rfl ((BW [vI 0,vI 0,nS,vO false] HJ rfl s1 fun bk eD eE eF eG bl P7=>(?_)))
   have P8:e2.heap.size≤bk:=by have:=k0.size;omega
   exact ⟨[],bl,HA,⟨_,rfl,P8,(by intro h;have:=LS s1 _ h;omega),P7⟩⟩
  ·intro w5 i9 h8 l0 r3 P9 u5 l1 f1
   obtain ⟨e9,bm,A7,Q0,A8⟩:(LN e2 31 [vI 0,vI 0,nS,vO false]) (h8 2) (w5 11) i9:=l1 6 11 kR (by decide) kR kR
   have A9:=A8.lt
   have Q1:∀ x∈c2,x∈c2∨(e2.heap.size≤x∧x<i9.heap.size):=fun x hx=>.inl hx
   have M0:∀ x∈c2,x∈c2:=fun x hx=>hx
   have Q2:∀ x∈c2,x∈h8 1:=fun x hx=>r3 1 x hx
   have dC:∀ x∈c2,x∈h8 2:=fun x hx=>r3 2 x hx
   have B0:∀ x∈(e9 :: c2),x∈c2∨(e2.heap.size≤x∧x<i9.heap.size):=fun x hx=>by rcases List.mem_cons.1 hx with rfl|hx;exact .inr ⟨A7,A9⟩;exact Q1 x hx
   have di:∀ x∈c2,x∈(e9 :: c2):=fun x hx=>List.mem_cons_of_mem _ (M0 x hx)
   have Q3:∀ x∈(e9 :: c2),x∈h8 1:=fun x hx=>by rcases List.mem_cons.1 hx with rfl|hx;exact u5 2 1 _ (by decide) A7 A9 Q0;exact Q2 x hx
   have bn:=k7.adoptL l0 B0
   have w6:Mv c2 e2 (e9 :: c2) i9:=Mv.adoptL l0 B0
   have Q4:CU a5 e9:=by show a5≠e9;have:=a2.lt;omega
   have Q5:CU a7 e9:=by show a7≠e9;have:=a4.lt;omega
   have Q6:CU b0 e9:=by show b0≠e9;have:=a0.lt;omega
   obtain ⟨B1,bo,r4⟩:∃ cs:List Value,w5 50 = .agg cs.toArray∧Enc.device.rd i9 ((h8 1)++O) cs (HS):=l1 4 50 kR (by decide) kR kR
   have r4:Enc.device.rd i9 ((e9 :: c2)++O) B1 (HS):=Enc.mv Enc.device (x:=HS) r4 (Mv.at_ Q3)
   have a3:=a3.mv w6
   have a2:=a2.keep l0 (by simp)
   have a8:=a8.mv w6
   have a4:=a4.keep l0 (by simp)
   have a1:=a1.mv w6
   have a0:=a0.keep l0 (by simp)
   obtain ⟨F2,rfl⟩:=AL (F:=w5) [(1,vP (some ⟨a5,0,none⟩)),(2,vI ((CA (0:Int)).2)),(4,vI ((CA (4:Int)).2)),(5,vP (some ⟨a7,0,none⟩)),(6,vI ((AI rD).2)),(8,vI ((AK rD (⟨(0:Int),(0:Int),(0:Int),(0:Int),(0:Int),(0:Int)⟩:DeviceOp) (2:Int)).2)),(9,vP (some ⟨b0,0,none⟩)),(10,vI ((AK rD ⟨0,1,2,3,0,1⟩ 2).2)),(162,undef),(11,vP (some ⟨e9,0,none⟩)),(50,vA B1.toArray),(51,vI ((AK rA ((⟨0,(2:Int),2,(3:Int),0,1⟩:DeviceOp)) (2:Int)).2))] ⟨f1 1 kR,f1 2 kR,f1 4 kR,f1 5 kR,f1 6 kR,f1 8 kR,f1 9 kR,f1 10 kR,f1 162 kR,bm,bo,l1 5 51 kR (by decide) kR kR,trivial⟩
   clear l1 f1 r3 P9 u5
   obtain ⟨K4,rfl,B3⟩:=r4
   have:=B3.len_le
   refine BU (AR (vs:=[vI HS.id,vI HS.counter,K4,vO HS.halted]) (.agg #[vI HS.id,vI HS.counter,K4,vO HS.halted]) rfl rfl rfl BS (fun u hu=>by simp only [List.mem_cons,List.not_mem_nil,or_false] at hu;rcases hu with rfl|rfl|rfl|rfl <;> first|rfl|exact B3.oneCell) (by repeat (constructor)) A8 oT bn fun eH bp w7 w8 dD=>(?_))
   have a3:=a3.mv w7
   have a2:=a2.keep w8 (AT Q4)
   have a8:=a8.mv w7
   have a4:=a4.keep w8 (AT Q5)
   have a1:=a1.mv w7
   have a0:=a0.keep w8 (AT Q6)
   refine AB (AG (vI ((AK rA ((⟨0,(2:Int),2,(3:Int),0,1⟩:DeviceOp)) (2:Int)).2)) rfl (AD (AA (?_))))
   exact ⟨(e9 :: c2),trivial,⟨_,AQ _ ⟨rfl,rfl,rfl,rfl,rfl,rfl,rfl,rfl,(by rfl),rfl,trivial⟩⟩,bp,a3,a2,(by (repeat (first|assumption|apply List.mem_cons_of_mem))),a8,a4,(by (repeat (first|assumption|apply List.mem_cons_of_mem))),a1,a0,(by (repeat (first|assumption|apply List.mem_cons_of_mem)))⟩
  intro cx_ hcx_
  match cx_,hcx_ with
  | 0,_=>
   intro o8 g4 f9 l2 r5 Q7 u6 l3 f2
   obtain ⟨f0,bq,B4,Q8,B5⟩:(LN e2 31 [vI 0,vI 0,nS,vO false]) (f9 2) (o8 11) g4:=l3 6 11 kR (by decide) kR kR
   have B6:=B5.lt
   have Q9:∀ x∈c2,x∈c2∨(e2.heap.size≤x∧x<g4.heap.size):=fun x hx=>.inl hx
   have M1:∀ x∈c2,x∈c2:=fun x hx=>hx
   have R0:∀ x∈c2,x∈f9 1:=fun x hx=>r5 1 x hx
   have dE:∀ x∈c2,x∈f9 2:=fun x hx=>r5 2 x hx
   have B7:∀ x∈(f0 :: c2),x∈c2∨(e2.heap.size≤x∧x<g4.heap.size):=fun x hx=>by rcases List.mem_cons.1 hx with rfl|hx;exact .inr ⟨B4,B6⟩;exact Q9 x hx
   have dj:∀ x∈c2,x∈(f0 :: c2):=fun x hx=>List.mem_cons_of_mem _ (M1 x hx)
   have R1:∀ x∈(f0 :: c2),x∈f9 1:=fun x hx=>by rcases List.mem_cons.1 hx with rfl|hx;exact u6 2 1 _ (by decide) B4 B6 Q8;exact R0 x hx
   have br:=k7.adoptL l2 B7
   have w9:Mv c2 e2 (f0 :: c2) g4:=Mv.adoptL l2 B7
   have R2:CU a5 f0:=by show a5≠f0;have:=a2.lt;omega
   have R3:CU a7 f0:=by show a7≠f0;have:=a4.lt;omega
   have R4:CU b0 f0:=by show b0≠f0;have:=a0.lt;omega
   obtain ⟨R5,bs,dF⟩:(fun (vT:Value) (wT:World)=>∃ (xT0:List Value),vT = .tuple #[.agg xT0.toArray,vI ((AK rA ((⟨0,(2:Int),2,(3:Int),0,1⟩:DeviceOp)) (2:Int)).2)]∧Enc.device.rd wT ((f9 1)++O) xT0 (HS)) (o8 46) g4:=l3 3 46 kR (by decide) kR kR
   obtain ⟨B8,bt,r6⟩:∃ cs:List Value,o8 50 = .agg cs.toArray∧Enc.device.rd g4 ((f9 1)++O) cs (HS):=l3 4 50 kR (by decide) kR kR
   have r6:Enc.device.rd g4 ((f0 :: c2)++O) B8 (HS):=Enc.mv Enc.device (x:=HS) r6 (Mv.at_ R1)
   have a3:=a3.mv w9
   have a2:=a2.keep l2 (by simp)
   have a8:=a8.mv w9
   have a4:=a4.keep l2 (by simp)
   have a1:=a1.mv w9
   have a0:=a0.keep l2 (by simp)
   obtain ⟨F2,rfl⟩:=AL (F:=o8) [(1,vP (some ⟨a5,0,none⟩)),(2,vI ((CA (0:Int)).2)),(4,vI ((CA (4:Int)).2)),(5,vP (some ⟨a7,0,none⟩)),(6,vI ((AI rD).2)),(8,vI ((AK rD (⟨(0:Int),(0:Int),(0:Int),(0:Int),(0:Int),(0:Int)⟩:DeviceOp) (2:Int)).2)),(9,vP (some ⟨b0,0,none⟩)),(10,vI ((AK rD ⟨0,1,2,3,0,1⟩ 2).2)),(162,undef),(11,vP (some ⟨f0,0,none⟩)),(46,vT #[vA R5.toArray,vI ((AK rA ((⟨0,(2:Int),2,(3:Int),0,1⟩:DeviceOp)) (2:Int)).2)]),(50,vA B8.toArray)] ⟨f2 1 kR,f2 2 kR,f2 4 kR,f2 5 kR,f2 6 kR,f2 8 kR,f2 9 kR,f2 10 kR,f2 162 kR,bq,bs,bt,trivial⟩
   clear l3 f2 r5 Q7 u6
   obtain ⟨K5,rfl,B9⟩:=r6
   have:=B9.len_le
   refine BU (AR (vs:=[vI HS.id,vI HS.counter,K5,vO HS.halted]) (.agg #[vI HS.id,vI HS.counter,K5,vO HS.halted]) rfl rfl rfl BS (fun u hu=>by simp only [List.mem_cons,List.not_mem_nil,or_false] at hu;rcases hu with rfl|rfl|rfl|rfl <;> first|rfl|exact B9.oneCell) (by repeat (constructor)) B5 oT br fun eI bu x0 x1 dG=>(?_))
   have a3:=a3.mv x0
   have a2:=a2.keep x1 (AT R2)
   have a8:=a8.mv x0
   have a4:=a4.keep x1 (AT R3)
   have a1:=a1.mv x0
   have a0:=a0.keep x1 (AT R4)
   refine AB (BJ (vI ((AK rA ((⟨0,(2:Int),2,(3:Int),0,1⟩:DeviceOp)) (2:Int)).2)) rfl rfl (AB (AG (vI ((AK rA ((⟨0,(2:Int),2,(3:Int),0,1⟩:DeviceOp)) (2:Int)).2)) rfl (AD (AA (?_))))))
   exact ⟨(f0 :: c2),trivial,⟨_,AQ _ ⟨rfl,rfl,rfl,rfl,rfl,rfl,rfl,rfl,(by rfl),rfl,trivial⟩⟩,bu,a3,a2,(by (repeat (first|assumption|apply List.mem_cons_of_mem))),a8,a4,(by (repeat (first|assumption|apply List.mem_cons_of_mem))),a1,a0,(by (repeat (first|assumption|apply List.mem_cons_of_mem)))⟩
 intro F e3 hI
 clear a3 a2 a8 a4 a1 a0
 obtain ⟨c3,eJ,⟨eK,rfl⟩,l4,a3,a2,f6,a8,a4,f7,a1,a0,f3⟩:=hI
 refine IH (fun FI wI=>∃ (b5:Nat) (c7:Value) (B:List Nat),True∧(∃ F1,FI=FQ F1 [(1,vP (some ⟨a5,0,none⟩)),(2,vI ((CA (0:Int)).2)),(4,vI ((CA (4:Int)).2)),(5,vP (some ⟨a7,0,none⟩)),(6,vI ((AI rD).2)),(8,vI ((AK rD (⟨(0:Int),(0:Int),(0:Int),(0:Int),(0:Int),(0:Int)⟩:DeviceOp) (2:Int)).2)),(9,vP (some ⟨b0,0,none⟩)),(10,vI ((AK rD ⟨0,1,2,3,0,1⟩ 2).2)),(12,vI ((AK rA ⟨0,2,2,3,0,1⟩ 2).2)),(13,vP (some ⟨b5,0,none⟩)),(14,vI ((AK rD ⟨0,1,2,3,0,1⟩ 1).2)),(162,undef)])∧St w O wI B∧CG Enc.devop wI (B++O) (b8) (rD.ops)∧EA wI a5 31 [vI rD.id,vI rD.counter,b8,vO rD.halted]∧a5∈B∧CG Enc.devop wI (B++O) (e0) (rS.ops)∧EA wI a7 31 [vI rS.id,vI rS.counter,e0,vO rS.halted]∧a7∈B∧CG Enc.devop wI (B++O) (b4) (rA.ops)∧EA wI b0 31 [vI rA.id,vI rA.counter,b4,vO rA.halted]∧b0∈B∧EA wI b5 31 [vI BR.id,vI BR.counter,c7,vO BR.halted]∧CG Enc.devop wI (B++O) c7 (BR.ops)∧b5∈B∧CU a5 b5∧CU a7 b5∧CU b0 b5) ?_ ?_
 ·refine HE 7 [5] _ _ _ [fun _=>CT (vA #[vI rD.id,vI rD.counter,b8,vO rD.halted]),fun _=>CT (vA #[vI (((⟨0,(1:Int),2,(3:Int),0,1⟩:DeviceOp)).device),vI (((⟨0,(1:Int),2,(3:Int),0,1⟩:DeviceOp)).no),vI (((⟨0,(1:Int),2,(3:Int),0,1⟩:DeviceOp)).kind),vI (((⟨0,(1:Int),2,(3:Int),0,1⟩:DeviceOp)).copy),vI (((⟨0,(1:Int),2,(3:Int),0,1⟩:DeviceOp)).to),vI (((⟨0,(1:Int),2,(3:Int),0,1⟩:DeviceOp)).token)]),fun (BT:List Nat) (vT:Value) (wT:World)=>∃ (xT0:List Value),vT = .tuple #[.agg xT0.toArray,vI ((AK rD ((⟨0,(1:Int),2,(3:Int),0,1⟩:DeviceOp)) (1:Int)).2)]∧Enc.device.rd wT (BT++O) xT0 (BR),fun (BT:List Nat) (vT:Value) (wT:World)=>∃ (xT0:List Value),vT = .tuple #[.agg xT0.toArray,vI ((AK rD ((⟨0,(1:Int),2,(3:Int),0,1⟩:DeviceOp)) (1:Int)).2)]∧Enc.device.rd wT (BT++O) xT0 (BR),fun (BT:List Nat) (vT:Value) (wT:World)=>∃ csT:List Value,vT = .agg csT.toArray∧Enc.device.rd wT (BT++O) csT (BR),fun _=>CT (vI ((AK rD ((⟨0,(1:Int),2,(3:Int),0,1⟩:DeviceOp)) (1:Int)).2)),LN e3 31 [vI 0,vI 0,nS,vO false]] [⟨0,[],[],[],false,[]⟩,⟨0,[],[],[],false,[]⟩,⟨1,[],[],[],false,[0,1]⟩,⟨1,[1],[],[],false,[2]⟩,⟨1,[1],[],[],false,[3]⟩,⟨0,[1],[],[],false,[3]⟩,⟨2,[],[],[],false,[]⟩] c3 kR kR kR kR kR (by decide) rfl rfl rfl ⟨fun _ _ _ _ _ h=>h,fun _ _ _ _ _ h=>h,(show ∀ B B2 v w w2,(fun (BT:List Nat) (vT:Value) (wT:World)=>∃ (xT0:List Value),vT = .tuple #[.agg xT0.toArray,vI ((AK rD ((⟨0,(1:Int),2,(3:Int),0,1⟩:DeviceOp)) (1:Int)).2)]∧Enc.device.rd wT (BT++O) xT0 (BR)) B v w→Mv B w B2 w2→(fun (BT:List Nat) (vT:Value) (wT:World)=>∃ (xT0:List Value),vT = .tuple #[.agg xT0.toArray,vI ((AK rD ((⟨0,(1:Int),2,(3:Int),0,1⟩:DeviceOp)) (1:Int)).2)]∧Enc.device.rd wT (BT++O) xT0 (BR)) B2 v w2 from fun _ _ _ _ _ ⟨y0,e,h0⟩ m=>⟨y0,e,Enc.mv _ h0 m⟩),(show ∀ B B2 v w w2,(fun (BT:List Nat) (vT:Value) (wT:World)=>∃ (xT0:List Value),vT = .tuple #[.agg xT0.toArray,vI ((AK rD ((⟨0,(1:Int),2,(3:Int),0,1⟩:DeviceOp)) (1:Int)).2)]∧Enc.device.rd wT (BT++O) xT0 (BR)) B v w→Mv B w B2 w2→(fun (BT:List Nat) (vT:Value) (wT:World)=>∃ (xT0:List Value),vT = .tuple #[.agg xT0.toArray,vI ((AK rD ((⟨0,(1:Int),2,(3:Int),0,1⟩:DeviceOp)) (1:Int)).2)]∧Enc.device.rd wT (BT++O) xT0 (BR)) B2 v w2 from fun _ _ _ _ _ ⟨y0,e,h0⟩ m=>⟨y0,e,Enc.mv _ h0 m⟩),(show ∀ B B2 v w w2,(fun (BT:List Nat) (vT:Value) (wT:World)=>∃ csT:List Value,vT = .agg csT.toArray∧Enc.device.rd wT (BT++O) csT (BR)) B v w→Mv B w B2 w2→(fun (BT:List Nat) (vT:Value) (wT:World)=>∃ csT:List Value,vT = .agg csT.toArray∧Enc.device.rd wT (BT++O) csT (BR)) B2 v w2 from fun _ _ _ _ _ ⟨a,e,h⟩ m=>⟨a,e,Enc.mv _ h m⟩),fun _ _ _ _ _ h=>h,LN.st,trivial⟩ ⟨?_,?_,?_,?_,?_,?_,?_,trivial⟩ ?_ ?_
  ·intro F1 w1 B1_ Bs_ k1 hs_ hl_ hr_ hsep_ hf hd
   have k0:=(Keep.drew [] e3).trans k1
   have a2:=a2.keep k0 (by simp)
   obtain ⟨F2,rfl⟩:=AL (F:=F1) [(1,vP (some ⟨a5,0,none⟩))] ⟨hf 1 kR,trivial⟩
   exact AJ rfl ((AU (vs:=[vI rD.id,vI rD.counter,b8,vO rD.halted]) U31_ rfl BS rfl a2 rfl (⟨[],(Keep.refl _ _),HA,rfl⟩)))
  ·intro F1 w1 B1_ Bs_ k1 hs_ hl_ hr_ hsep_ hf hd
   have k0:=(Keep.drew [] e3).trans k1
   have s1:=l4.call k0
   obtain ⟨F2,rfl⟩:=AL (F:=F1) [] trivial
   refine AJ rfl ((BD (vs:=[vI 1,vI 3]) JL (KD (O:=c3++O) (1:Int) (3:Int) w1 s1.lt) rfl s1 fun eL eM eN eO bv bw=>(?_)))
   obtain ⟨dH,rfl,R6⟩:=bw
   obtain rfl:=R6
   exact ⟨[],bv,HA,rfl⟩
  ·intro F1 w1 B1_ Bs_ k1 hs_ hl_ hr_ hsep_ hf hd
   have k0:=(Keep.drew [] e3).trans k1
   have s1:=l4.adoptL k0 hl_
   have m1:Mv c3 e3 B1_ w1:=Mv.adoptL k0 hl_
   have a3:=a3.mv m1
   obtain ⟨F2,rfl⟩:=AL (F:=F1) [(53,vA #[vI rD.id,vI rD.counter,b8,vO rD.halted]),(54,vA #[vI (((⟨0,(1:Int),2,(3:Int),0,1⟩:DeviceOp)).device),vI (((⟨0,(1:Int),2,(3:Int),0,1⟩:DeviceOp)).no),vI (((⟨0,(1:Int),2,(3:Int),0,1⟩:DeviceOp)).kind),vI (((⟨0,(1:Int),2,(3:Int),0,1⟩:DeviceOp)).copy),vI (((⟨0,(1:Int),2,(3:Int),0,1⟩:DeviceOp)).to),vI (((⟨0,(1:Int),2,(3:Int),0,1⟩:DeviceOp)).token)])] ⟨hd 0 53 kR kR,hd 1 54 kR kR,trivial⟩
   refine AJ rfl ((BD (vs:=[vA #[vI rD.id,vI rD.counter,b8,vO rD.halted],vA #[vI (((⟨0,(1:Int),2,(3:Int),0,1⟩:DeviceOp)).device),vI (((⟨0,(1:Int),2,(3:Int),0,1⟩:DeviceOp)).no),vI (((⟨0,(1:Int),2,(3:Int),0,1⟩:DeviceOp)).kind),vI (((⟨0,(1:Int),2,(3:Int),0,1⟩:DeviceOp)).copy),vI (((⟨0,(1:Int),2,(3:Int),0,1⟩:DeviceOp)).to),vI (((⟨0,(1:Int),2,(3:Int),0,1⟩:DeviceOp)).token)],vI 1]) HF (NN (O:=B1_++O) [vI rD.id,vI rD.counter,b8,vO rD.halted] rD [vI (((⟨0,(1:Int),2,(3:Int),0,1⟩:DeviceOp)).device),vI (((⟨0,(1:Int),2,(3:Int),0,1⟩:DeviceOp)).no),vI (((⟨0,(1:Int),2,(3:Int),0,1⟩:DeviceOp)).kind),vI (((⟨0,(1:Int),2,(3:Int),0,1⟩:DeviceOp)).copy),vI (((⟨0,(1:Int),2,(3:Int),0,1⟩:DeviceOp)).to),vI (((⟨0,(1:Int),2,(3:Int),0,1⟩:DeviceOp)).token)] ((⟨0,(1:Int),2,(3:Int),0,1⟩:DeviceOp)) (1:Int) w1 ⟨_,rfl,a3⟩ rfl s1.lt) rfl s1 fun eP bx eQ eR bz bA=>(?_)))
   obtain ⟨C0,rfl,r7⟩:=bA
   have r7:Enc.device.rd bx (B1_++O) C0 BR:=r7
   exact ⟨[],bz,HA,⟨C0,rfl,r7⟩⟩
  ·intro F1 w1 B1_ Bs_ k1 hs_ hl_ hr_ hsep_ hf hd
   obtain ⟨l5,bB,r8⟩:(fun (vT:Value) (wT:World)=>∃ (xT0:List Value),vT = .tuple #[.agg xT0.toArray,vI ((AK rD ((⟨0,(1:Int),2,(3:Int),0,1⟩:DeviceOp)) (1:Int)).2)]∧Enc.device.rd wT ((Bs_ 1)++O) xT0 (BR)) (F1 55) w1:=hd 2 55 kR kR
   have r8:Enc.device.rd w1 (B1_++O) l5 (BR):=Enc.mv Enc.device (x:=BR) r8 (Mv.at_ (hr_ 1 kR))
   obtain ⟨F2,rfl⟩:=AL (F:=F1) [(55,vT #[vA l5.toArray,vI ((AK rD ((⟨0,(1:Int),2,(3:Int),0,1⟩:DeviceOp)) (1:Int)).2)])] ⟨bB,trivial⟩
   exact AJ rfl ((AH (vT #[vA l5.toArray,vI ((AK rD ((⟨0,(1:Int),2,(3:Int),0,1⟩:DeviceOp)) (1:Int)).2)]) rfl (⟨[],(Keep.refl _ _),HA,⟨l5,rfl,r8⟩⟩)))
  ·intro F1 w1 B1_ Bs_ k1 hs_ hl_ hr_ hsep_ hf hd
   obtain ⟨l6,bC,r9⟩:(fun (vT:Value) (wT:World)=>∃ (xT0:List Value),vT = .tuple #[.agg xT0.toArray,vI ((AK rD ((⟨0,(1:Int),2,(3:Int),0,1⟩:DeviceOp)) (1:Int)).2)]∧Enc.device.rd wT ((Bs_ 1)++O) xT0 (BR)) (F1 52) w1:=hd 3 52 kR kR
   have r9:Enc.device.rd w1 (B1_++O) l6 (BR):=Enc.mv Enc.device (x:=BR) r9 (Mv.at_ (hr_ 1 kR))
   obtain ⟨F2,rfl⟩:=AL (F:=F1) [(52,vT #[vA l6.toArray,vI ((AK rD ((⟨0,(1:Int),2,(3:Int),0,1⟩:DeviceOp)) (1:Int)).2)])] ⟨bC,trivial⟩
   exact AJ rfl ((BJ (vA l6.toArray) rfl rfl (⟨[],(Keep.refl _ _),HA,⟨l6,rfl,r9⟩⟩)))
  ·intro F1 w1 B1_ Bs_ k1 hs_ hl_ hr_ hsep_ hf hd
   obtain ⟨R7,bD,dI⟩:(fun (vT:Value) (wT:World)=>∃ (xT0:List Value),vT = .tuple #[.agg xT0.toArray,vI ((AK rD ((⟨0,(1:Int),2,(3:Int),0,1⟩:DeviceOp)) (1:Int)).2)]∧Enc.device.rd wT ((Bs_ 1)++O) xT0 (BR)) (F1 52) w1:=hd 3 52 kR kR
   obtain ⟨F2,rfl⟩:=AL (F:=F1) [(52,vT #[vA R7.toArray,vI ((AK rD ((⟨0,(1:Int),2,(3:Int),0,1⟩:DeviceOp)) (1:Int)).2)])] ⟨bD,trivial⟩
   exact AJ rfl ((BJ (vI ((AK rD ((⟨0,(1:Int),2,(3:Int),0,1⟩:DeviceOp)) (1:Int)).2)) rfl rfl (⟨[],(Keep.refl _ _),HA,rfl⟩)))
  ·intro F1 w1 B1_ Bs_ k1 hs_ hl_ hr_ hsep_ hf hd
   have k0:=(Keep.drew [] e3).trans k1
   have s1:=l4.adoptL k0 hl_
   obtain ⟨F2,rfl⟩:=AL (F:=F1) [] trivial
   refine AJ rfl ((BW [vI 0,vI 0,nS,vO false] HJ rfl s1 fun bE eS eT eU eV bF R8=>(?_)))
   have R9:e3.heap.size≤bE:=by have:=k0.size;omega
   exact ⟨[],bF,HA,⟨_,rfl,R9,(by intro h;have:=LS s1 _ h;omega),R8⟩⟩
  ·intro x2 j0 h9 l7 s2 S0 u7 l8 e7
   obtain ⟨e5,bG,C1,S1,C2⟩:(LN e3 31 [vI 0,vI 0,nS,vO false]) (h9 2) (x2 13) j0:=l8 6 13 kR (by decide) kR kR
   have C3:=C2.lt
   have S2:∀ x∈c3,x∈c3∨(e3.heap.size≤x∧x<j0.heap.size):=fun x hx=>.inl hx
   have M2:∀ x∈c3,x∈c3:=fun x hx=>hx
   have S3:∀ x∈c3,x∈h9 1:=fun x hx=>s2 1 x hx
   have dJ:∀ x∈c3,x∈h9 2:=fun x hx=>s2 2 x hx
   have C4:∀ x∈(e5 :: c3),x∈c3∨(e3.heap.size≤x∧x<j0.heap.size):=fun x hx=>by rcases List.mem_cons.1 hx with rfl|hx;exact .inr ⟨C1,C3⟩;exact S2 x hx
   have dk:∀ x∈c3,x∈(e5 :: c3):=fun x hx=>List.mem_cons_of_mem _ (M2 x hx)
   have S4:∀ x∈(e5 :: c3),x∈h9 1:=fun x hx=>by rcases List.mem_cons.1 hx with rfl|hx;exact u7 2 1 _ (by decide) C1 C3 S1;exact S3 x hx
   have bH:=l4.adoptL l7 C4
   have x3:Mv c3 e3 (e5 :: c3) j0:=Mv.adoptL l7 C4
   have C5:CU a5 e5:=by show a5≠e5;have:=a2.lt;omega
   have C6:CU a7 e5:=by show a7≠e5;have:=a4.lt;omega
   have C7:CU b0 e5:=by show b0≠e5;have:=a0.lt;omega
   obtain ⟨C8,bI,s3⟩:∃ cs:List Value,x2 56 = .agg cs.toArray∧Enc.device.rd j0 ((h9 1)++O) cs (BR):=l8 4 56 kR (by decide) kR kR
   have s3:Enc.device.rd j0 ((e5 :: c3)++O) C8 (BR):=Enc.mv Enc.device (x:=BR) s3 (Mv.at_ S4)
   have a3:=a3.mv x3
   have a2:=a2.keep l7 (by simp)
   have a8:=a8.mv x3
   have a4:=a4.keep l7 (by simp)
   have a1:=a1.mv x3
   have a0:=a0.keep l7 (by simp)
   obtain ⟨F2,rfl⟩:=AL (F:=x2) [(1,vP (some ⟨a5,0,none⟩)),(2,vI ((CA (0:Int)).2)),(4,vI ((CA (4:Int)).2)),(5,vP (some ⟨a7,0,none⟩)),(6,vI ((AI rD).2)),(8,vI ((AK rD (⟨(0:Int),(0:Int),(0:Int),(0:Int),(0:Int),(0:Int)⟩:DeviceOp) (2:Int)).2)),(9,vP (some ⟨b0,0,none⟩)),(10,vI ((AK rD ⟨0,1,2,3,0,1⟩ 2).2)),(12,vI ((AK rA ⟨0,2,2,3,0,1⟩ 2).2)),(162,undef),(13,vP (some ⟨e5,0,none⟩)),(56,vA C8.toArray),(57,vI ((AK rD ((⟨0,(1:Int),2,(3:Int),0,1⟩:DeviceOp)) (1:Int)).2))] ⟨e7 1 kR,e7 2 kR,e7 4 kR,e7 5 kR,e7 6 kR,e7 8 kR,e7 9 kR,e7 10 kR,e7 12 kR,e7 162 kR,bG,bI,l8 5 57 kR (by decide) kR kR,trivial⟩
   clear l8 e7 s2 S0 u7
   obtain ⟨x4,rfl,i0⟩:=s3
   have:=i0.len_le
   refine BU (AR (vs:=[vI BR.id,vI BR.counter,x4,vO BR.halted]) (.agg #[vI BR.id,vI BR.counter,x4,vO BR.halted]) rfl rfl rfl BS (fun u hu=>by simp only [List.mem_cons,List.not_mem_nil,or_false] at hu;rcases hu with rfl|rfl|rfl|rfl <;> first|rfl|exact i0.oneCell) (by repeat (constructor)) C2 oT bH fun eW bJ o9 x5 S5=>(?_))
   have i0:=i0.mv o9
   have a3:=a3.mv o9
   have a2:=a2.keep x5 (AT C5)
   have a8:=a8.mv o9
   have a4:=a4.keep x5 (AT C6)
   have a1:=a1.mv o9
   have a0:=a0.keep x5 (AT C7)
   refine AB (AG (vI ((AK rD ((⟨0,(1:Int),2,(3:Int),0,1⟩:DeviceOp)) (1:Int)).2)) rfl (AD (AA (?_))))
   exact ⟨e5,x4,(e5 :: c3),trivial,⟨_,AQ _ ⟨rfl,rfl,rfl,rfl,rfl,rfl,rfl,rfl,rfl,rfl,(by rfl),rfl,trivial⟩⟩,bJ,a3,a2,(by (repeat (first|assumption|apply List.mem_cons_of_mem))),a8,a4,(by (repeat (first|assumption|apply List.mem_cons_of_mem))),a1,a0,(by (repeat (first|assumption|apply List.mem_cons_of_mem))),S5,i0,(by repeat (constructor)),C5,C6,C7⟩
  intro cx_ hcx_
  match cx_,hcx_ with
  | 0,_=>
   intro p0 g5 g0 l9 s4 S6 u9 m0 e8
   obtain ⟨e6,bK,C9,S7,D0⟩:(LN e3 31 [vI 0,vI 0,nS,vO false]) (g0 2) (p0 13) g5:=m0 6 13 kR (by decide) kR kR
   have D1:=D0.lt
   have S8:∀ x∈c3,x∈c3∨(e3.heap.size≤x∧x<g5.heap.size):=fun x hx=>.inl hx
   have M3:∀ x∈c3,x∈c3:=fun x hx=>hx
   have S9:∀ x∈c3,x∈g0 1:=fun x hx=>s4 1 x hx
   have dK:∀ x∈c3,x∈g0 2:=fun x hx=>s4 2 x hx
   have D2:∀ x∈(e6 :: c3),x∈c3∨(e3.heap.size≤x∧x<g5.heap.size):=fun x hx=>by rcases List.mem_cons.1 hx with rfl|hx;exact .inr ⟨C9,D1⟩;exact S8 x hx
   have dl:∀ x∈c3,x∈(e6 :: c3):=fun x hx=>List.mem_cons_of_mem _ (M3 x hx)
   have T0:∀ x∈(e6 :: c3),x∈g0 1:=fun x hx=>by rcases List.mem_cons.1 hx with rfl|hx;exact u9 2 1 _ (by decide) C9 D1 S7;exact S9 x hx
   have bL:=l4.adoptL l9 D2
   have x6:Mv c3 e3 (e6 :: c3) g5:=Mv.adoptL l9 D2
   have D3:CU a5 e6:=by show a5≠e6;have:=a2.lt;omega
   have D4:CU a7 e6:=by show a7≠e6;have:=a4.lt;omega
   have D5:CU b0 e6:=by show b0≠e6;have:=a0.lt;omega
   obtain ⟨T1,bM,dL⟩:(fun (vT:Value) (wT:World)=>∃ (xT0:List Value),vT = .tuple #[.agg xT0.toArray,vI ((AK rD ((⟨0,(1:Int),2,(3:Int),0,1⟩:DeviceOp)) (1:Int)).2)]∧Enc.device.rd wT ((g0 1)++O) xT0 (BR)) (p0 52) g5:=m0 3 52 kR (by decide) kR kR
   obtain ⟨D6,bN,s5⟩:∃ cs:List Value,p0 56 = .agg cs.toArray∧Enc.device.rd g5 ((g0 1)++O) cs (BR):=m0 4 56 kR (by decide) kR kR
   have s5:Enc.device.rd g5 ((e6 :: c3)++O) D6 (BR):=Enc.mv Enc.device (x:=BR) s5 (Mv.at_ T0)
   have a3:=a3.mv x6
   have a2:=a2.keep l9 (by simp)
   have a8:=a8.mv x6
   have a4:=a4.keep l9 (by simp)
   have a1:=a1.mv x6
   have a0:=a0.keep l9 (by simp)
   obtain ⟨F2,rfl⟩:=AL (F:=p0) [(1,vP (some ⟨a5,0,none⟩)),(2,vI ((CA (0:Int)).2)),(4,vI ((CA (4:Int)).2)),(5,vP (some ⟨a7,0,none⟩)),(6,vI ((AI rD).2)),(8,vI ((AK rD (⟨(0:Int),(0:Int),(0:Int),(0:Int),(0:Int),(0:Int)⟩:DeviceOp) (2:Int)).2)),(9,vP (some ⟨b0,0,none⟩)),(10,vI ((AK rD ⟨0,1,2,3,0,1⟩ 2).2)),(12,vI ((AK rA ⟨0,2,2,3,0,1⟩ 2).2)),(162,undef),(13,vP (some ⟨e6,0,none⟩)),(52,vT #[vA T1.toArray,vI ((AK rD ((⟨0,(1:Int),2,(3:Int),0,1⟩:DeviceOp)) (1:Int)).2)]),(56,vA D6.toArray)] ⟨e8 1 kR,e8 2 kR,e8 4 kR,e8 5 kR,e8 6 kR,e8 8 kR,e8 9 kR,e8 10 kR,e8 12 kR,e8 162 kR,bK,bM,bN,trivial⟩
   clear m0 e8 s4 S6 u9
   obtain ⟨x7,rfl,i1⟩:=s5
   have:=i1.len_le
   refine BU (AR (vs:=[vI BR.id,vI BR.counter,x7,vO BR.halted]) (.agg #[vI BR.id,vI BR.counter,x7,vO BR.halted]) rfl rfl rfl BS (fun u hu=>by simp only [List.mem_cons,List.not_mem_nil,or_false] at hu;rcases hu with rfl|rfl|rfl|rfl <;> first|rfl|exact i1.oneCell) (by repeat (constructor)) D0 oT bL fun eX bO p1 x8 T2=>(?_))
   have i1:=i1.mv p1
   have a3:=a3.mv p1
   have a2:=a2.keep x8 (AT D3)
   have a8:=a8.mv p1
   have a4:=a4.keep x8 (AT D4)
   have a1:=a1.mv p1
   have a0:=a0.keep x8 (AT D5)
   refine AB (BJ (vI ((AK rD ((⟨0,(1:Int),2,(3:Int),0,1⟩:DeviceOp)) (1:Int)).2)) rfl rfl (AB (AG (vI ((AK rD ((⟨0,(1:Int),2,(3:Int),0,1⟩:DeviceOp)) (1:Int)).2)) rfl (AD (AA (?_))))))
   exact ⟨e6,x7,(e6 :: c3),trivial,⟨_,AQ _ ⟨rfl,rfl,rfl,rfl,rfl,rfl,rfl,rfl,rfl,rfl,(by rfl),rfl,trivial⟩⟩,bO,a3,a2,(by (repeat (first|assumption|apply List.mem_cons_of_mem))),a8,a4,(by (repeat (first|assumption|apply List.mem_cons_of_mem))),a1,a0,(by (repeat (first|assumption|apply List.mem_cons_of_mem))),T2,i1,(by repeat (constructor)),D3,D4,D5⟩
 intro F bP hI
 clear a3 a2 a8 a4 a1 a0
 obtain ⟨b5,c7,b9,eY,⟨eZ,rfl⟩,K6,a3,a2,f6,a8,a4,f7,a1,a0,f3,a6,a9,i2,I1,I2,D7⟩:=hI
 have:=a9.len_le
 refine AF (AC kR (AB (AU (vs:=[vI BR.id,vI BR.counter,c7,vO BR.halted]) U31_ rfl BS rfl a6 rfl (AB (BD (vs:=[vA #[vI BR.id,vI BR.counter,c7,vO BR.halted]]) JQ (LJ (O:=b9++O) [vI BR.id,vI BR.counter,c7,vO BR.halted] BR bP ⟨_,rfl,a9⟩ K6.lt) rfl K6 fun fa bQ bR p2 p3 bS=>(?_))))))
 obtain ⟨m2,rfl,i3⟩:=bS
 have i3:Enc.device.rd bQ (b9++O) m2 rE3:=i3
 have a9:=a9.mv p2
 have a3:=a3.mv p2
 have a2:=a2.keep p3 (by simp)
 have a8:=a8.mv p2
 have a4:=a4.keep p3 (by simp)
 have a1:=a1.mv p2
 have a0:=a0.keep p3 (by simp)
 have a6:=a6.keep p3 (by simp)
 refine AB (AH (vT #[vA m2.toArray,vI ((AI BR).2)]) rfl (AB (BJ (vA m2.toArray) rfl rfl (AB (BJ (vI ((AI BR).2)) rfl rfl (AB (BW [vI 0,vI 0,nS,vO false] HJ rfl bR fun b3 bT bU bV m3 p4 T3=>(?_))))))))
 have T4:CU a5 b3:=by show a5≠b3;have:=a2.lt;omega
 have T5:CU a7 b3:=by show a7≠b3;have:=a4.lt;omega
 have T6:CU b0 b3:=by show b0≠b3;have:=a0.lt;omega
 have T7:CU b5 b3:=by show b5≠b3;have:=a6.lt;omega
 clear bU
 have i3:Enc.device.rd bT ((b3 :: b9)++O) m2 (rE3):=Enc.mv Enc.device (x:=rE3) i3 m3
 have a9:=a9.mv m3
 have a3:=a3.mv m3
 have a2:=a2.keep p4 (by simp)
 have a8:=a8.mv m3
 have a4:=a4.keep p4 (by simp)
 have a1:=a1.mv m3
 have a0:=a0.keep p4 (by simp)
 have a6:=a6.keep p4 (by simp)
 obtain ⟨K7,rfl,D8⟩:=i3
 have:=D8.len_le
 refine BU (AR (vs:=[vI rE3.id,vI rE3.counter,K7,vO rE3.halted]) (.agg #[vI rE3.id,vI rE3.counter,K7,vO rE3.halted]) rfl rfl rfl BS (fun u hu=>by simp only [List.mem_cons,List.not_mem_nil,or_false] at hu;rcases hu with rfl|rfl|rfl|rfl <;> first|rfl|exact D8.oneCell) (by repeat (constructor)) T3 oT bV fun d1 j1 p5 p6 D9=>(?_))
 have a9:=a9.mv p5
 have a3:=a3.mv p5
 have a2:=a2.keep p6 (AT T4)
 have a8:=a8.mv p5
 have a4:=a4.keep p6 (AT T5)
 have a1:=a1.mv p5
 have a0:=a0.keep p6 (AT T6)
 have a6:=a6.keep p6 (AT T7)
 refine AB (AG (vI ((AI BR).2)) rfl (AD (AA (IH (fun FI wI=>∃ (c5:Nat) (c6:Value) (B:List Nat),True∧(∃ F1,FI=FQ F1 [(1,vP (some ⟨a5,0,none⟩)),(2,vI ((CA (0:Int)).2)),(4,vI ((CA (4:Int)).2)),(5,vP (some ⟨a7,0,none⟩)),(6,vI ((AI rD).2)),(8,vI ((AK rD (⟨(0:Int),(0:Int),(0:Int),(0:Int),(0:Int),(0:Int)⟩:DeviceOp) (2:Int)).2)),(9,vP (some ⟨b0,0,none⟩)),(10,vI ((AK rD ⟨0,1,2,3,0,1⟩ 2).2)),(12,vI ((AK rA ⟨0,2,2,3,0,1⟩ 2).2)),(13,vP (some ⟨b5,0,none⟩)),(14,vI ((AK rD ⟨0,1,2,3,0,1⟩ 1).2)),(16,vI ((AI BR).2)),(17,vP (some ⟨c5,0,none⟩)),(18,vI ((AI rR).2)),(162,undef)])∧St w O wI B∧CG Enc.devop wI (B++O) (b8) (rD.ops)∧EA wI a5 31 [vI rD.id,vI rD.counter,b8,vO rD.halted]∧a5∈B∧CG Enc.devop wI (B++O) (e0) (rS.ops)∧EA wI a7 31 [vI rS.id,vI rS.counter,e0,vO rS.halted]∧a7∈B∧CG Enc.devop wI (B++O) (b4) (rA.ops)∧EA wI b0 31 [vI rA.id,vI rA.counter,b4,vO rA.halted]∧b0∈B∧CG Enc.devop wI (B++O) (c7) (BR.ops)∧EA wI b5 31 [vI BR.id,vI BR.counter,c7,vO BR.halted]∧b5∈B∧EA wI c5 31 [vI BH.id,vI BH.counter,c6,vO BH.halted]∧CG Enc.devop wI (B++O) c6 (BH.ops)∧c5∈B∧CU a5 c5∧CU a7 c5∧CU b0 c5∧CU b5 c5) ?_ ?_))))
 ·refine HE 9 [7] _ _ _ [fun _=>CT (vA #[vI rA.id,vI rA.counter,b4,vO rA.halted]),fun _=>CT (vA #[vI rD.id,vI rD.counter,b8,vO rD.halted]),fun (BT:List Nat) (vT:Value) (wT:World)=>CG Enc.devop wT (BT++O) vT (rD.ops),fun (BT:List Nat) (vT:Value) (wT:World)=>∃ csT:List Value,vT = .agg csT.toArray∧Enc.device.rd wT (BT++O) csT (rR),fun (BT:List Nat) (vT:Value) (wT:World)=>∃ (xT0:List Value),vT = .tuple #[.agg xT0.toArray,vI ((AI rR).2)]∧Enc.device.rd wT (BT++O) xT0 (BH),fun (BT:List Nat) (vT:Value) (wT:World)=>∃ (xT0:List Value),vT = .tuple #[.agg xT0.toArray,vI ((AI rR).2)]∧Enc.device.rd wT (BT++O) xT0 (BH),fun (BT:List Nat) (vT:Value) (wT:World)=>∃ csT:List Value,vT = .agg csT.toArray∧Enc.device.rd wT (BT++O) csT (BH),fun _=>CT (vI ((AI rR).2)),LN d1 31 [vI 0,vI 0,nS,vO false]] [⟨0,[],[],[],false,[]⟩,⟨0,[],[],[],false,[]⟩,⟨1,[],[],[],false,[1]⟩,⟨1,[1],[],[],false,[0,2]⟩,⟨1,[1],[],[],false,[3]⟩,⟨1,[1],[],[],false,[4]⟩,⟨1,[1],[],[],false,[5]⟩,⟨0,[1],[],[],false,[5]⟩,⟨2,[],[],[],false,[]⟩] (b3 :: b9) kR kR kR kR kR (by decide) rfl rfl rfl ⟨fun _ _ _ _ _ h=>h,fun _ _ _ _ _ h=>h,(show ∀ B B2 v w w2,(fun (BT:List Nat) (vT:Value) (wT:World)=>CG Enc.devop wT (BT++O) vT (rD.ops)) B v w→Mv B w B2 w2→(fun (BT:List Nat) (vT:Value) (wT:World)=>CG Enc.devop wT (BT++O) vT (rD.ops)) B2 v w2 from fun _ _ _ _ _ h m=>h.mv m),(show ∀ B B2 v w w2,(fun (BT:List Nat) (vT:Value) (wT:World)=>∃ csT:List Value,vT = .agg csT.toArray∧Enc.device.rd wT (BT++O) csT (rR)) B v w→Mv B w B2 w2→(fun (BT:List Nat) (vT:Value) (wT:World)=>∃ csT:List Value,vT = .agg csT.toArray∧Enc.device.rd wT (BT++O) csT (rR)) B2 v w2 from fun _ _ _ _ _ ⟨a,e,h⟩ m=>⟨a,e,Enc.mv _ h m⟩),(show ∀ B B2 v w w2,(fun (BT:List Nat) (vT:Value) (wT:World)=>∃ (xT0:List Value),vT = .tuple #[.agg xT0.toArray,vI ((AI rR).2)]∧Enc.device.rd wT (BT++O) xT0 (BH)) B v w→Mv B w B2 w2→(fun (BT:List Nat) (vT:Value) (wT:World)=>∃ (xT0:List Value),vT = .tuple #[.agg xT0.toArray,vI ((AI rR).2)]∧Enc.device.rd wT (BT++O) xT0 (BH)) B2 v w2 from fun _ _ _ _ _ ⟨y0,e,h0⟩ m=>⟨y0,e,Enc.mv _ h0 m⟩),(show ∀ B B2 v w w2,(fun (BT:List Nat) (vT:Value) (wT:World)=>∃ (xT0:List Value),vT = .tuple #[.agg xT0.toArray,vI ((AI rR).2)]∧Enc.device.rd wT (BT++O) xT0 (BH)) B v w→Mv B w B2 w2→(fun (BT:List Nat) (vT:Value) (wT:World)=>∃ (xT0:List Value),vT = .tuple #[.agg xT0.toArray,vI ((AI rR).2)]∧Enc.device.rd wT (BT++O) xT0 (BH)) B2 v w2 from fun _ _ _ _ _ ⟨y0,e,h0⟩ m=>⟨y0,e,Enc.mv _ h0 m⟩),(show ∀ B B2 v w w2,(fun (BT:List Nat) (vT:Value) (wT:World)=>∃ csT:List Value,vT = .agg csT.toArray∧Enc.device.rd wT (BT++O) csT (BH)) B v w→Mv B w B2 w2→(fun (BT:List Nat) (vT:Value) (wT:World)=>∃ csT:List Value,vT = .agg csT.toArray∧Enc.device.rd wT (BT++O) csT (BH)) B2 v w2 from fun _ _ _ _ _ ⟨a,e,h⟩ m=>⟨a,e,Enc.mv _ h m⟩),fun _ _ _ _ _ h=>h,LN.st,trivial⟩ ⟨?_,?_,?_,?_,?_,?_,?_,?_,?_,trivial⟩ ?_ ?_
  ·intro F1 w1 B1_ Bs_ k1 hs_ hl_ hr_ hsep_ hf hd
   have k0:=(Keep.drew [] d1).trans k1
   have a0:=a0.keep k0 (by simp)
   obtain ⟨F2,rfl⟩:=AL (F:=F1) [(9,vP (some ⟨b0,0,none⟩))] ⟨hf 9 kR,trivial⟩
   exact AJ rfl ((AU (vs:=[vI rA.id,vI rA.counter,b4,vO rA.halted]) U31_ rfl BS rfl a0 rfl (⟨[],(Keep.refl _ _),HA,rfl⟩)))
  ·intro F1 w1 B1_ Bs_ k1 hs_ hl_ hr_ hsep_ hf hd
   have k0:=(Keep.drew [] d1).trans k1
   have a2:=a2.keep k0 (by simp)
   obtain ⟨F2,rfl⟩:=AL (F:=F1) [(1,vP (some ⟨a5,0,none⟩))] ⟨hf 1 kR,trivial⟩
   exact AJ rfl ((AU (vs:=[vI rD.id,vI rD.counter,b8,vO rD.halted]) U31_ rfl BS rfl a2 rfl (⟨[],(Keep.refl _ _),HA,rfl⟩)))
  ·intro F1 w1 B1_ Bs_ k1 hs_ hl_ hr_ hsep_ hf hd
   have k0:=(Keep.drew [] d1).trans k1
   have s1:=j1.adoptL k0 hl_
   have m1:Mv (b3 :: b9) d1 B1_ w1:=Mv.adoptL k0 hl_
   have a3:=a3.mv m1
   obtain ⟨F2,rfl⟩:=AL (F:=F1) [(65,vA #[vI rD.id,vI rD.counter,b8,vO rD.halted])] ⟨hd 1 65 kR kR,trivial⟩
   refine AJ rfl ((BD (vs:=[vA #[vI rD.id,vI rD.counter,b8,vO rD.halted]]) enter_46 (c_backup (O:=B1_++O) [vI rD.id,vI rD.counter,b8,vO rD.halted] rD w1 ⟨_,rfl,a3⟩ (by decide +kernel) s1.lt) rfl s1 fun fb fc fd fe bW bX=>(?_)))
   obtain ⟨_,rfl,E0⟩:=bX
   have:=E0.len_le
   exact ⟨[],bW,HA,E0⟩
  ·intro F1 w1 B1_ Bs_ k1 hs_ hl_ hr_ hsep_ hf hd
   have k0:=(Keep.drew [] d1).trans k1
   have s1:=j1.adoptL k0 hl_
   have m1:Mv (b3 :: b9) d1 B1_ w1:=Mv.adoptL k0 hl_
   have a1:=a1.mv m1
   obtain ⟨x9,bY,m4⟩:∃ v,F1 66=v∧CG Enc.devop w1 ((Bs_ 1)++O) v (rD.ops):=⟨_,rfl,hd 2 66 kR kR⟩
   have:=m4.len_le
   have m4:=m4.mv (Mv.at_ (hr_ 1 kR))
   obtain ⟨F2,rfl⟩:=AL (F:=F1) [(64,vA #[vI rA.id,vI rA.counter,b4,vO rA.halted]),(66,x9)] ⟨hd 0 64 kR kR,bY,trivial⟩
   refine AJ rfl ((BD (vs:=[vA #[vI rA.id,vI rA.counter,b4,vO rA.halted],x9]) enter_47 (NE (O:=B1_++O) [vI rA.id,vI rA.counter,b4,vO rA.halted] rA x9 rD.ops w1 ⟨_,rfl,a1⟩ m4 (by decide +kernel) s1.lt) rfl s1 fun ff bZ fg fh ca cb=>(?_)))
   obtain ⟨E1,rfl,s6⟩:=cb
   have s6:Enc.device.rd bZ (B1_++O) E1 rR:=s6
   exact ⟨[],ca,HA,⟨E1,rfl,s6⟩⟩
  ·intro F1 w1 B1_ Bs_ k1 hs_ hl_ hr_ hsep_ hf hd
   have k0:=(Keep.drew [] d1).trans k1
   have s1:=j1.adoptL k0 hl_
   obtain ⟨m5,cc,s7⟩:∃ cs:List Value,F1 67 = .agg cs.toArray∧Enc.device.rd w1 ((Bs_ 1)++O) cs (rR):=hd 3 67 kR kR
   have s7:Enc.device.rd w1 (B1_++O) m5 (rR):=Enc.mv Enc.device (x:=rR) s7 (Mv.at_ (hr_ 1 kR))
   obtain ⟨F2,rfl⟩:=AL (F:=F1) [(67,vA m5.toArray)] ⟨cc,trivial⟩
   refine AJ rfl ((BD (vs:=[vA m5.toArray]) JQ (LJ (O:=B1_++O) m5 rR w1 s7 s1.lt) rfl s1 fun fi cd fj fk ce cf=>(?_)))
   obtain ⟨E2,rfl,s8⟩:=cf
   have s8:Enc.device.rd cd (B1_++O) E2 BH:=s8
   exact ⟨[],ce,HA,⟨E2,rfl,s8⟩⟩
  ·intro F1 w1 B1_ Bs_ k1 hs_ hl_ hr_ hsep_ hf hd
   obtain ⟨m6,cg,s9⟩:(fun (vT:Value) (wT:World)=>∃ (xT0:List Value),vT = .tuple #[.agg xT0.toArray,vI ((AI rR).2)]∧Enc.device.rd wT ((Bs_ 1)++O) xT0 (BH)) (F1 68) w1:=hd 4 68 kR kR
   have s9:Enc.device.rd w1 (B1_++O) m6 (BH):=Enc.mv Enc.device (x:=BH) s9 (Mv.at_ (hr_ 1 kR))
   obtain ⟨F2,rfl⟩:=AL (F:=F1) [(68,vT #[vA m6.toArray,vI ((AI rR).2)])] ⟨cg,trivial⟩
   exact AJ rfl ((AH (vT #[vA m6.toArray,vI ((AI rR).2)]) rfl (⟨[],(Keep.refl _ _),HA,⟨m6,rfl,s9⟩⟩)))
  ·intro F1 w1 B1_ Bs_ k1 hs_ hl_ hr_ hsep_ hf hd
   obtain ⟨m7,ch,t0⟩:(fun (vT:Value) (wT:World)=>∃ (xT0:List Value),vT = .tuple #[.agg xT0.toArray,vI ((AI rR).2)]∧Enc.device.rd wT ((Bs_ 1)++O) xT0 (BH)) (F1 63) w1:=hd 5 63 kR kR
   have t0:Enc.device.rd w1 (B1_++O) m7 (BH):=Enc.mv Enc.device (x:=BH) t0 (Mv.at_ (hr_ 1 kR))
   obtain ⟨F2,rfl⟩:=AL (F:=F1) [(63,vT #[vA m7.toArray,vI ((AI rR).2)])] ⟨ch,trivial⟩
   exact AJ rfl ((BJ (vA m7.toArray) rfl rfl (⟨[],(Keep.refl _ _),HA,⟨m7,rfl,t0⟩⟩)))
  ·intro F1 w1 B1_ Bs_ k1 hs_ hl_ hr_ hsep_ hf hd
   obtain ⟨T8,ci,dM⟩:(fun (vT:Value) (wT:World)=>∃ (xT0:List Value),vT = .tuple #[.agg xT0.toArray,vI ((AI rR).2)]∧Enc.device.rd wT ((Bs_ 1)++O) xT0 (BH)) (F1 63) w1:=hd 5 63 kR kR
   obtain ⟨F2,rfl⟩:=AL (F:=F1) [(63,vT #[vA T8.toArray,vI ((AI rR).2)])] ⟨ci,trivial⟩
   exact AJ rfl ((BJ (vI ((AI rR).2)) rfl rfl (⟨[],(Keep.refl _ _),HA,rfl⟩)))
  ·intro F1 w1 B1_ Bs_ k1 hs_ hl_ hr_ hsep_ hf hd
   have k0:=(Keep.drew [] d1).trans k1
   have s1:=j1.adoptL k0 hl_
   obtain ⟨F2,rfl⟩:=AL (F:=F1) [] trivial
   refine AJ rfl ((BW [vI 0,vI 0,nS,vO false] HJ rfl s1 fun cj fl fm fn fo ck T9=>(?_)))
   have U0:d1.heap.size≤cj:=by have:=k0.size;omega
   exact ⟨[],ck,HA,⟨_,rfl,U0,(by intro h;have:=LS s1 _ h;omega),T9⟩⟩
  ·intro y1 j2 i4 j3 t1 U1 v0 m8 d4
   obtain ⟨d2,cm,E3,U2,E4⟩:(LN d1 31 [vI 0,vI 0,nS,vO false]) (i4 2) (y1 17) j2:=m8 8 17 kR (by decide) kR kR
   have E5:=E4.lt
   have U3:∀ x∈(b3 :: b9),x∈(b3 :: b9)∨(d1.heap.size≤x∧x<j2.heap.size):=fun x hx=>.inl hx
   have M4:∀ x∈(b3 :: b9),x∈(b3 :: b9):=fun x hx=>hx
   have U4:∀ x∈(b3 :: b9),x∈i4 1:=fun x hx=>t1 1 x hx
   have dN:∀ x∈(b3 :: b9),x∈i4 2:=fun x hx=>t1 2 x hx
   have E6:∀ x∈(d2 :: (b3 :: b9)),x∈(b3 :: b9)∨(d1.heap.size≤x∧x<j2.heap.size):=fun x hx=>by rcases List.mem_cons.1 hx with rfl|hx;exact .inr ⟨E3,E5⟩;exact U3 x hx
   have dm:∀ x∈(b3 :: b9),x∈(d2 :: (b3 :: b9)):=fun x hx=>List.mem_cons_of_mem _ (M4 x hx)
   have U5:∀ x∈(d2 :: (b3 :: b9)),x∈i4 1:=fun x hx=>by rcases List.mem_cons.1 hx with rfl|hx;exact v0 2 1 _ (by decide) E3 E5 U2;exact U4 x hx
   have cn:=j1.adoptL j3 E6
   have p7:Mv (b3 :: b9) d1 (d2 :: (b3 :: b9)) j2:=Mv.adoptL j3 E6
   have E7:CU a5 d2:=by show a5≠d2;have:=a2.lt;omega
   have E8:CU a7 d2:=by show a7≠d2;have:=a4.lt;omega
   have E9:CU b0 d2:=by show b0≠d2;have:=a0.lt;omega
   have F3:CU b5 d2:=by show b5≠d2;have:=a6.lt;omega
   have dO:CU b3 d2:=by show b3≠d2;have:=D9.lt;omega
   obtain ⟨F4,co,t2⟩:∃ cs:List Value,y1 69 = .agg cs.toArray∧Enc.device.rd j2 ((i4 1)++O) cs (BH):=m8 6 69 kR (by decide) kR kR
   have t2:Enc.device.rd j2 ((d2 :: (b3 :: b9))++O) F4 (BH):=Enc.mv Enc.device (x:=BH) t2 (Mv.at_ U5)
   have a9:=a9.mv p7
   have a3:=a3.mv p7
   have a2:=a2.keep j3 (by simp)
   have a8:=a8.mv p7
   have a4:=a4.keep j3 (by simp)
   have a1:=a1.mv p7
   have a0:=a0.keep j3 (by simp)
   have a6:=a6.keep j3 (by simp)
   obtain ⟨F2,rfl⟩:=AL (F:=y1) [(1,vP (some ⟨a5,0,none⟩)),(2,vI ((CA (0:Int)).2)),(4,vI ((CA (4:Int)).2)),(5,vP (some ⟨a7,0,none⟩)),(6,vI ((AI rD).2)),(8,vI ((AK rD (⟨(0:Int),(0:Int),(0:Int),(0:Int),(0:Int),(0:Int)⟩:DeviceOp) (2:Int)).2)),(9,vP (some ⟨b0,0,none⟩)),(10,vI ((AK rD ⟨0,1,2,3,0,1⟩ 2).2)),(12,vI ((AK rA ⟨0,2,2,3,0,1⟩ 2).2)),(13,vP (some ⟨b5,0,none⟩)),(14,vI ((AK rD ⟨0,1,2,3,0,1⟩ 1).2)),(16,vI ((AI BR).2)),(162,undef),(17,vP (some ⟨d2,0,none⟩)),(69,vA F4.toArray),(70,vI ((AI rR).2))] ⟨d4 1 kR,d4 2 kR,d4 4 kR,d4 5 kR,d4 6 kR,d4 8 kR,d4 9 kR,d4 10 kR,d4 12 kR,d4 13 kR,d4 14 kR,d4 16 kR,d4 162 kR,cm,co,m8 7 70 kR (by decide) kR kR,trivial⟩
   clear m8 d4 t1 U1 v0
   obtain ⟨y2,rfl,i5⟩:=t2
   have:=i5.len_le
   refine BU (AR (vs:=[vI BH.id,vI BH.counter,y2,vO BH.halted]) (.agg #[vI BH.id,vI BH.counter,y2,vO BH.halted]) rfl rfl rfl BS (fun u hu=>by simp only [List.mem_cons,List.not_mem_nil,or_false] at hu;rcases hu with rfl|rfl|rfl|rfl <;> first|rfl|exact i5.oneCell) (by repeat (constructor)) E4 oT cn fun fp cp m9 p8 U6=>(?_))
   have i5:=i5.mv m9
   have a3:=a3.mv m9
   have a2:=a2.keep p8 (AT E7)
   have a8:=a8.mv m9
   have a4:=a4.keep p8 (AT E8)
   have a1:=a1.mv m9
   have a0:=a0.keep p8 (AT E9)
   have a9:=a9.mv m9
   have a6:=a6.keep p8 (AT F3)
   refine AB (AG (vI ((AI rR).2)) rfl (AD (AA (?_))))
   exact ⟨d2,y2,(d2 :: (b3 :: b9)),trivial,⟨_,AQ _ ⟨rfl,rfl,rfl,rfl,rfl,rfl,rfl,rfl,rfl,rfl,rfl,rfl,rfl,rfl,rfl,trivial⟩⟩,cp,a3,a2,(by (repeat (first|assumption|apply List.mem_cons_of_mem))),a8,a4,(by (repeat (first|assumption|apply List.mem_cons_of_mem))),a1,a0,(by (repeat (first|assumption|apply List.mem_cons_of_mem))),a9,a6,(by (repeat (first|assumption|apply List.mem_cons_of_mem))),U6,i5,(by repeat (constructor)),E7,E8,E9,F3⟩
  intro cx_ hcx_
  match cx_,hcx_ with
  | 0,_=>
   intro p9 g6 g1 j4 t3 U7 v1 n0 d5
   obtain ⟨d3,cq,F5,U8,F6⟩:(LN d1 31 [vI 0,vI 0,nS,vO false]) (g1 2) (p9 17) g6:=n0 8 17 kR (by decide) kR kR
   have F7:=F6.lt
   have U9:∀ x∈(b3 :: b9),x∈(b3 :: b9)∨(d1.heap.size≤x∧x<g6.heap.size):=fun x hx=>.inl hx
   have M5:∀ x∈(b3 :: b9),x∈(b3 :: b9):=fun x hx=>hx
   have V0:∀ x∈(b3 :: b9),x∈g1 1:=fun x hx=>t3 1 x hx
   have dP:∀ x∈(b3 :: b9),x∈g1 2:=fun x hx=>t3 2 x hx
   have F8:∀ x∈(d3 :: (b3 :: b9)),x∈(b3 :: b9)∨(d1.heap.size≤x∧x<g6.heap.size):=fun x hx=>by rcases List.mem_cons.1 hx with rfl|hx;exact .inr ⟨F5,F7⟩;exact U9 x hx
   have dn:∀ x∈(b3 :: b9),x∈(d3 :: (b3 :: b9)):=fun x hx=>List.mem_cons_of_mem _ (M5 x hx)
   have V1:∀ x∈(d3 :: (b3 :: b9)),x∈g1 1:=fun x hx=>by rcases List.mem_cons.1 hx with rfl|hx;exact v1 2 1 _ (by decide) F5 F7 U8;exact V0 x hx
   have cr:=j1.adoptL j4 F8
   have q0:Mv (b3 :: b9) d1 (d3 :: (b3 :: b9)) g6:=Mv.adoptL j4 F8
   have F9:CU a5 d3:=by show a5≠d3;have:=a2.lt;omega
   have G0:CU a7 d3:=by show a7≠d3;have:=a4.lt;omega
   have G1:CU b0 d3:=by show b0≠d3;have:=a0.lt;omega
   have G2:CU b5 d3:=by show b5≠d3;have:=a6.lt;omega
   have dQ:CU b3 d3:=by show b3≠d3;have:=D9.lt;omega
   obtain ⟨V2,ct,dR⟩:(fun (vT:Value) (wT:World)=>∃ (xT0:List Value),vT = .tuple #[.agg xT0.toArray,vI ((AI rR).2)]∧Enc.device.rd wT ((g1 1)++O) xT0 (BH)) (p9 63) g6:=n0 5 63 kR (by decide) kR kR
   obtain ⟨G3,cu,t4⟩:∃ cs:List Value,p9 69 = .agg cs.toArray∧Enc.device.rd g6 ((g1 1)++O) cs (BH):=n0 6 69 kR (by decide) kR kR
   have t4:Enc.device.rd g6 ((d3 :: (b3 :: b9))++O) G3 (BH):=Enc.mv Enc.device (x:=BH) t4 (Mv.at_ V1)
   have a9:=a9.mv q0
   have a3:=a3.mv q0
   have a2:=a2.keep j4 (by simp)
   have a8:=a8.mv q0
   have a4:=a4.keep j4 (by simp)
   have a1:=a1.mv q0
   have a0:=a0.keep j4 (by simp)
   have a6:=a6.keep j4 (by simp)
   obtain ⟨F2,rfl⟩:=AL (F:=p9) [(1,vP (some ⟨a5,0,none⟩)),(2,vI ((CA (0:Int)).2)),(4,vI ((CA (4:Int)).2)),(5,vP (some ⟨a7,0,none⟩)),(6,vI ((AI rD).2)),(8,vI ((AK rD (⟨(0:Int),(0:Int),(0:Int),(0:Int),(0:Int),(0:Int)⟩:DeviceOp) (2:Int)).2)),(9,vP (some ⟨b0,0,none⟩)),(10,vI ((AK rD ⟨0,1,2,3,0,1⟩ 2).2)),(12,vI ((AK rA ⟨0,2,2,3,0,1⟩ 2).2)),(13,vP (some ⟨b5,0,none⟩)),(14,vI ((AK rD ⟨0,1,2,3,0,1⟩ 1).2)),(16,vI ((AI BR).2)),(162,undef),(17,vP (some ⟨d3,0,none⟩)),(63,vT #[vA V2.toArray,vI ((AI rR).2)]),(69,vA G3.toArray)] ⟨d5 1 kR,d5 2 kR,d5 4 kR,d5 5 kR,d5 6 kR,d5 8 kR,d5 9 kR,d5 10 kR,d5 12 kR,d5 13 kR,d5 14 kR,d5 16 kR,d5 162 kR,cq,ct,cu,trivial⟩
   clear n0 d5 t3 U7 v1
   obtain ⟨y3,rfl,i6⟩:=t4
   have:=i6.len_le
   refine BU (AR (vs:=[vI BH.id,vI BH.counter,y3,vO BH.halted]) (.agg #[vI BH.id,vI BH.counter,y3,vO BH.halted]) rfl rfl rfl BS (fun u hu=>by simp only [List.mem_cons,List.not_mem_nil,or_false] at hu;rcases hu with rfl|rfl|rfl|rfl <;> first|rfl|exact i6.oneCell) (by repeat (constructor)) F6 oT cr fun fq cv n1 q1 V3=>(?_))
   have i6:=i6.mv n1
   have a3:=a3.mv n1
   have a2:=a2.keep q1 (AT F9)
   have a8:=a8.mv n1
   have a4:=a4.keep q1 (AT G0)
   have a1:=a1.mv n1
   have a0:=a0.keep q1 (AT G1)
   have a9:=a9.mv n1
   have a6:=a6.keep q1 (AT G2)
   refine AB (BJ (vI ((AI rR).2)) rfl rfl (AB (AG (vI ((AI rR).2)) rfl (AD (AA (?_))))))
   exact ⟨d3,y3,(d3 :: (b3 :: b9)),trivial,⟨_,AQ _ ⟨rfl,rfl,rfl,rfl,rfl,rfl,rfl,rfl,rfl,rfl,rfl,rfl,rfl,rfl,rfl,trivial⟩⟩,cv,a3,a2,(by (repeat (first|assumption|apply List.mem_cons_of_mem))),a8,a4,(by (repeat (first|assumption|apply List.mem_cons_of_mem))),a1,a0,(by (repeat (first|assumption|apply List.mem_cons_of_mem))),a9,a6,(by (repeat (first|assumption|apply List.mem_cons_of_mem))),V3,i6,(by repeat (constructor)),F9,G0,G1,G2⟩
 intro F e4 hI
 clear a3 a2 a8 a4 a1 a0 a9 a6
 obtain ⟨c5,c6,c4,fr,⟨fs,rfl⟩,n2,a3,a2,f6,a8,a4,f7,a1,a0,f3,a9,a6,i2,b1,b7,t5,I3,I4,G4,y7⟩:=hI
 have:=b7.len_le
 refine IH (fun FI wI=>∃ (B:List Nat),True∧(∃ F1,FI=FQ F1 [(1,vP (some ⟨a5,0,none⟩)),(2,vI ((CA (0:Int)).2)),(4,vI ((CA (4:Int)).2)),(5,vP (some ⟨a7,0,none⟩)),(6,vI ((AI rD).2)),(8,vI ((AK rD (⟨(0:Int),(0:Int),(0:Int),(0:Int),(0:Int),(0:Int)⟩:DeviceOp) (2:Int)).2)),(9,vP (some ⟨b0,0,none⟩)),(10,vI ((AK rD ⟨0,1,2,3,0,1⟩ 2).2)),(12,vI ((AK rA ⟨0,2,2,3,0,1⟩ 2).2)),(13,vP (some ⟨b5,0,none⟩)),(14,vI ((AK rD ⟨0,1,2,3,0,1⟩ 1).2)),(16,vI ((AI BR).2)),(17,vP (some ⟨c5,0,none⟩)),(18,vI ((AI rR).2)),(20,vI ((AK BH ⟨0,2,2,4,0,1⟩ 2).2)),(162,undef)])∧St w O wI B∧CG Enc.devop wI (B++O) (b8) (rD.ops)∧EA wI a5 31 [vI rD.id,vI rD.counter,b8,vO rD.halted]∧a5∈B∧CG Enc.devop wI (B++O) (e0) (rS.ops)∧EA wI a7 31 [vI rS.id,vI rS.counter,e0,vO rS.halted]∧a7∈B∧CG Enc.devop wI (B++O) (b4) (rA.ops)∧EA wI b0 31 [vI rA.id,vI rA.counter,b4,vO rA.halted]∧b0∈B∧CG Enc.devop wI (B++O) (c7) (BR.ops)∧EA wI b5 31 [vI BR.id,vI BR.counter,c7,vO BR.halted]∧b5∈B∧CG Enc.devop wI (B++O) (c6) (BH.ops)∧EA wI c5 31 [vI BH.id,vI BH.counter,c6,vO BH.halted]∧c5∈B) ?_ ?_
 ·refine HE 7 [5] _ _ _ [fun _=>CT (vA #[vI BH.id,vI BH.counter,c6,vO BH.halted]),fun _=>CT (vA #[vI (((⟨0,(2:Int),2,(4:Int),0,1⟩:DeviceOp)).device),vI (((⟨0,(2:Int),2,(4:Int),0,1⟩:DeviceOp)).no),vI (((⟨0,(2:Int),2,(4:Int),0,1⟩:DeviceOp)).kind),vI (((⟨0,(2:Int),2,(4:Int),0,1⟩:DeviceOp)).copy),vI (((⟨0,(2:Int),2,(4:Int),0,1⟩:DeviceOp)).to),vI (((⟨0,(2:Int),2,(4:Int),0,1⟩:DeviceOp)).token)]),fun (BT:List Nat) (vT:Value) (wT:World)=>∃ (xT0:List Value),vT = .tuple #[.agg xT0.toArray,vI ((AK BH ((⟨0,(2:Int),2,(4:Int),0,1⟩:DeviceOp)) (2:Int)).2)]∧Enc.device.rd wT (BT++O) xT0 (HT),fun (BT:List Nat) (vT:Value) (wT:World)=>∃ (xT0:List Value),vT = .tuple #[.agg xT0.toArray,vI ((AK BH ((⟨0,(2:Int),2,(4:Int),0,1⟩:DeviceOp)) (2:Int)).2)]∧Enc.device.rd wT (BT++O) xT0 (HT),fun (BT:List Nat) (vT:Value) (wT:World)=>∃ csT:List Value,vT = .agg csT.toArray∧Enc.device.rd wT (BT++O) csT (HT),fun _=>CT (vI ((AK BH ((⟨0,(2:Int),2,(4:Int),0,1⟩:DeviceOp)) (2:Int)).2)),LN e4 31 [vI 0,vI 0,nS,vO false]] [⟨0,[],[],[],false,[]⟩,⟨0,[],[],[],false,[]⟩,⟨1,[],[],[],false,[0,1]⟩,⟨1,[1],[],[],false,[2]⟩,⟨1,[1],[],[],false,[3]⟩,⟨0,[1],[],[],false,[3]⟩,⟨2,[],[],[],false,[]⟩] c4 kR kR kR kR kR (by decide) rfl rfl rfl ⟨fun _ _ _ _ _ h=>h,fun _ _ _ _ _ h=>h,(show ∀ B B2 v w w2,(fun (BT:List Nat) (vT:Value) (wT:World)=>∃ (xT0:List Value),vT = .tuple #[.agg xT0.toArray,vI ((AK BH ((⟨0,(2:Int),2,(4:Int),0,1⟩:DeviceOp)) (2:Int)).2)]∧Enc.device.rd wT (BT++O) xT0 (HT)) B v w→Mv B w B2 w2→(fun (BT:List Nat) (vT:Value) (wT:World)=>∃ (xT0:List Value),vT = .tuple #[.agg xT0.toArray,vI ((AK BH ((⟨0,(2:Int),2,(4:Int),0,1⟩:DeviceOp)) (2:Int)).2)]∧Enc.device.rd wT (BT++O) xT0 (HT)) B2 v w2 from fun _ _ _ _ _ ⟨y0,e,h0⟩ m=>⟨y0,e,Enc.mv _ h0 m⟩),(show ∀ B B2 v w w2,(fun (BT:List Nat) (vT:Value) (wT:World)=>∃ (xT0:List Value),vT = .tuple #[.agg xT0.toArray,vI ((AK BH ((⟨0,(2:Int),2,(4:Int),0,1⟩:DeviceOp)) (2:Int)).2)]∧Enc.device.rd wT (BT++O) xT0 (HT)) B v w→Mv B w B2 w2→(fun (BT:List Nat) (vT:Value) (wT:World)=>∃ (xT0:List Value),vT = .tuple #[.agg xT0.toArray,vI ((AK BH ((⟨0,(2:Int),2,(4:Int),0,1⟩:DeviceOp)) (2:Int)).2)]∧Enc.device.rd wT (BT++O) xT0 (HT)) B2 v w2 from fun _ _ _ _ _ ⟨y0,e,h0⟩ m=>⟨y0,e,Enc.mv _ h0 m⟩),(show ∀ B B2 v w w2,(fun (BT:List Nat) (vT:Value) (wT:World)=>∃ csT:List Value,vT = .agg csT.toArray∧Enc.device.rd wT (BT++O) csT (HT)) B v w→Mv B w B2 w2→(fun (BT:List Nat) (vT:Value) (wT:World)=>∃ csT:List Value,vT = .agg csT.toArray∧Enc.device.rd wT (BT++O) csT (HT)) B2 v w2 from fun _ _ _ _ _ ⟨a,e,h⟩ m=>⟨a,e,Enc.mv _ h m⟩),fun _ _ _ _ _ h=>h,LN.st,trivial⟩ ⟨?_,?_,?_,?_,?_,?_,?_,trivial⟩ ?_ ?_
  ·intro F1 w1 B1_ Bs_ k1 hs_ hl_ hr_ hsep_ hf hd
   have k0:=(Keep.drew [] e4).trans k1
   have b1:=b1.keep k0 (by simp)
   obtain ⟨F2,rfl⟩:=AL (F:=F1) [(17,vP (some ⟨c5,0,none⟩))] ⟨hf 17 kR,trivial⟩
   exact AJ rfl ((AU (vs:=[vI BH.id,vI BH.counter,c6,vO BH.halted]) U31_ rfl BS rfl b1 rfl (⟨[],(Keep.refl _ _),HA,rfl⟩)))
  ·intro F1 w1 B1_ Bs_ k1 hs_ hl_ hr_ hsep_ hf hd
   have k0:=(Keep.drew [] e4).trans k1
   have s1:=n2.call k0
   obtain ⟨F2,rfl⟩:=AL (F:=F1) [] trivial
   refine AJ rfl ((BD (vs:=[vI 2,vI 4]) JL (KD (O:=c4++O) (2:Int) (4:Int) w1 s1.lt) rfl s1 fun ft fu fv fw cw cx=>(?_)))
   obtain ⟨dS,rfl,V4⟩:=cx
   obtain rfl:=V4
   exact ⟨[],cw,HA,rfl⟩
  ·intro F1 w1 B1_ Bs_ k1 hs_ hl_ hr_ hsep_ hf hd
   have k0:=(Keep.drew [] e4).trans k1
   have s1:=n2.adoptL k0 hl_
   have m1:Mv c4 e4 B1_ w1:=Mv.adoptL k0 hl_
   have b7:=b7.mv m1
   obtain ⟨F2,rfl⟩:=AL (F:=F1) [(72,vA #[vI BH.id,vI BH.counter,c6,vO BH.halted]),(73,vA #[vI (((⟨0,(2:Int),2,(4:Int),0,1⟩:DeviceOp)).device),vI (((⟨0,(2:Int),2,(4:Int),0,1⟩:DeviceOp)).no),vI (((⟨0,(2:Int),2,(4:Int),0,1⟩:DeviceOp)).kind),vI (((⟨0,(2:Int),2,(4:Int),0,1⟩:DeviceOp)).copy),vI (((⟨0,(2:Int),2,(4:Int),0,1⟩:DeviceOp)).to),vI (((⟨0,(2:Int),2,(4:Int),0,1⟩:DeviceOp)).token)])] ⟨hd 0 72 kR kR,hd 1 73 kR kR,trivial⟩
   refine AJ rfl ((BD (vs:=[vA #[vI BH.id,vI BH.counter,c6,vO BH.halted],vA #[vI (((⟨0,(2:Int),2,(4:Int),0,1⟩:DeviceOp)).device),vI (((⟨0,(2:Int),2,(4:Int),0,1⟩:DeviceOp)).no),vI (((⟨0,(2:Int),2,(4:Int),0,1⟩:DeviceOp)).kind),vI (((⟨0,(2:Int),2,(4:Int),0,1⟩:DeviceOp)).copy),vI (((⟨0,(2:Int),2,(4:Int),0,1⟩:DeviceOp)).to),vI (((⟨0,(2:Int),2,(4:Int),0,1⟩:DeviceOp)).token)],vI 2]) HF (NN (O:=B1_++O) [vI BH.id,vI BH.counter,c6,vO BH.halted] BH [vI (((⟨0,(2:Int),2,(4:Int),0,1⟩:DeviceOp)).device),vI (((⟨0,(2:Int),2,(4:Int),0,1⟩:DeviceOp)).no),vI (((⟨0,(2:Int),2,(4:Int),0,1⟩:DeviceOp)).kind),vI (((⟨0,(2:Int),2,(4:Int),0,1⟩:DeviceOp)).copy),vI (((⟨0,(2:Int),2,(4:Int),0,1⟩:DeviceOp)).to),vI (((⟨0,(2:Int),2,(4:Int),0,1⟩:DeviceOp)).token)] ((⟨0,(2:Int),2,(4:Int),0,1⟩:DeviceOp)) (2:Int) w1 ⟨_,rfl,b7⟩ rfl s1.lt) rfl s1 fun fx cy fy fz cz cA=>(?_)))
   obtain ⟨G5,rfl,t6⟩:=cA
   have t6:Enc.device.rd cy (B1_++O) G5 HT:=t6
   exact ⟨[],cz,HA,⟨G5,rfl,t6⟩⟩
  ·intro F1 w1 B1_ Bs_ k1 hs_ hl_ hr_ hsep_ hf hd
   obtain ⟨n3,cB,t7⟩:(fun (vT:Value) (wT:World)=>∃ (xT0:List Value),vT = .tuple #[.agg xT0.toArray,vI ((AK BH ((⟨0,(2:Int),2,(4:Int),0,1⟩:DeviceOp)) (2:Int)).2)]∧Enc.device.rd wT ((Bs_ 1)++O) xT0 (HT)) (F1 74) w1:=hd 2 74 kR kR
   have t7:Enc.device.rd w1 (B1_++O) n3 (HT):=Enc.mv Enc.device (x:=HT) t7 (Mv.at_ (hr_ 1 kR))
   obtain ⟨F2,rfl⟩:=AL (F:=F1) [(74,vT #[vA n3.toArray,vI ((AK BH ((⟨0,(2:Int),2,(4:Int),0,1⟩:DeviceOp)) (2:Int)).2)])] ⟨cB,trivial⟩
   exact AJ rfl ((AH (vT #[vA n3.toArray,vI ((AK BH ((⟨0,(2:Int),2,(4:Int),0,1⟩:DeviceOp)) (2:Int)).2)]) rfl (⟨[],(Keep.refl _ _),HA,⟨n3,rfl,t7⟩⟩)))
  ·intro F1 w1 B1_ Bs_ k1 hs_ hl_ hr_ hsep_ hf hd
   obtain ⟨n4,cC,t8⟩:(fun (vT:Value) (wT:World)=>∃ (xT0:List Value),vT = .tuple #[.agg xT0.toArray,vI ((AK BH ((⟨0,(2:Int),2,(4:Int),0,1⟩:DeviceOp)) (2:Int)).2)]∧Enc.device.rd wT ((Bs_ 1)++O) xT0 (HT)) (F1 71) w1:=hd 3 71 kR kR
   have t8:Enc.device.rd w1 (B1_++O) n4 (HT):=Enc.mv Enc.device (x:=HT) t8 (Mv.at_ (hr_ 1 kR))
   obtain ⟨F2,rfl⟩:=AL (F:=F1) [(71,vT #[vA n4.toArray,vI ((AK BH ((⟨0,(2:Int),2,(4:Int),0,1⟩:DeviceOp)) (2:Int)).2)])] ⟨cC,trivial⟩
   exact AJ rfl ((BJ (vA n4.toArray) rfl rfl (⟨[],(Keep.refl _ _),HA,⟨n4,rfl,t8⟩⟩)))
  ·intro F1 w1 B1_ Bs_ k1 hs_ hl_ hr_ hsep_ hf hd
   obtain ⟨V5,cD,dT⟩:(fun (vT:Value) (wT:World)=>∃ (xT0:List Value),vT = .tuple #[.agg xT0.toArray,vI ((AK BH ((⟨0,(2:Int),2,(4:Int),0,1⟩:DeviceOp)) (2:Int)).2)]∧Enc.device.rd wT ((Bs_ 1)++O) xT0 (HT)) (F1 71) w1:=hd 3 71 kR kR
   obtain ⟨F2,rfl⟩:=AL (F:=F1) [(71,vT #[vA V5.toArray,vI ((AK BH ((⟨0,(2:Int),2,(4:Int),0,1⟩:DeviceOp)) (2:Int)).2)])] ⟨cD,trivial⟩
   exact AJ rfl ((BJ (vI ((AK BH ((⟨0,(2:Int),2,(4:Int),0,1⟩:DeviceOp)) (2:Int)).2)) rfl rfl (⟨[],(Keep.refl _ _),HA,rfl⟩)))
  ·intro F1 w1 B1_ Bs_ k1 hs_ hl_ hr_ hsep_ hf hd
   have k0:=(Keep.drew [] e4).trans k1
   have s1:=n2.adoptL k0 hl_
   obtain ⟨F2,rfl⟩:=AL (F:=F1) [] trivial
   refine AJ rfl ((BW [vI 0,vI 0,nS,vO false] HJ rfl s1 fun cE fA fB fC fD cF V6=>(?_)))
   have V7:e4.heap.size≤cE:=by have:=k0.size;omega
   exact ⟨[],cF,HA,⟨_,rfl,V7,(by intro h;have:=LS s1 _ h;omega),V6⟩⟩
  ·intro y4 j5 i7 g7 t9 V8 v2 n5 c9
   obtain ⟨d6,cG,G6,V9,G7⟩:(LN e4 31 [vI 0,vI 0,nS,vO false]) (i7 2) (y4 19) j5:=n5 6 19 kR (by decide) kR kR
   have G8:=G7.lt
   have W0:∀ x∈c4,x∈c4∨(e4.heap.size≤x∧x<j5.heap.size):=fun x hx=>.inl hx
   have M6:∀ x∈c4,x∈c4:=fun x hx=>hx
   have W1:∀ x∈c4,x∈i7 1:=fun x hx=>t9 1 x hx
   have dU:∀ x∈c4,x∈i7 2:=fun x hx=>t9 2 x hx
   have G9:∀ x∈(d6 :: c4),x∈c4∨(e4.heap.size≤x∧x<j5.heap.size):=fun x hx=>by rcases List.mem_cons.1 hx with rfl|hx;exact .inr ⟨G6,G8⟩;exact W0 x hx
   have dp:∀ x∈c4,x∈(d6 :: c4):=fun x hx=>List.mem_cons_of_mem _ (M6 x hx)
   have W2:∀ x∈(d6 :: c4),x∈i7 1:=fun x hx=>by rcases List.mem_cons.1 hx with rfl|hx;exact v2 2 1 _ (by decide) G6 G8 V9;exact W1 x hx
   have cH:=n2.adoptL g7 G9
   have n6:Mv c4 e4 (d6 :: c4) j5:=Mv.adoptL g7 G9
   have W3:CU a5 d6:=by show a5≠d6;have:=a2.lt;omega
   have W4:CU a7 d6:=by show a7≠d6;have:=a4.lt;omega
   have W5:CU b0 d6:=by show b0≠d6;have:=a0.lt;omega
   have W6:CU b5 d6:=by show b5≠d6;have:=a6.lt;omega
   have W7:CU c5 d6:=by show c5≠d6;have:=b1.lt;omega
   obtain ⟨H0,cI,u0⟩:∃ cs:List Value,y4 75 = .agg cs.toArray∧Enc.device.rd j5 ((i7 1)++O) cs (HT):=n5 4 75 kR (by decide) kR kR
   have u0:Enc.device.rd j5 ((d6 :: c4)++O) H0 (HT):=Enc.mv Enc.device (x:=HT) u0 (Mv.at_ W2)
   have a3:=a3.mv n6
   have a2:=a2.keep g7 (by simp)
   have a8:=a8.mv n6
   have a4:=a4.keep g7 (by simp)
   have a1:=a1.mv n6
   have a0:=a0.keep g7 (by simp)
   have a9:=a9.mv n6
   have a6:=a6.keep g7 (by simp)
   have b7:=b7.mv n6
   have b1:=b1.keep g7 (by simp)
   obtain ⟨F2,rfl⟩:=AL (F:=y4) [(1,vP (some ⟨a5,0,none⟩)),(2,vI ((CA (0:Int)).2)),(4,vI ((CA (4:Int)).2)),(5,vP (some ⟨a7,0,none⟩)),(6,vI ((AI rD).2)),(8,vI ((AK rD (⟨(0:Int),(0:Int),(0:Int),(0:Int),(0:Int),(0:Int)⟩:DeviceOp) (2:Int)).2)),(9,vP (some ⟨b0,0,none⟩)),(10,vI ((AK rD ⟨0,1,2,3,0,1⟩ 2).2)),(12,vI ((AK rA ⟨0,2,2,3,0,1⟩ 2).2)),(13,vP (some ⟨b5,0,none⟩)),(14,vI ((AK rD ⟨0,1,2,3,0,1⟩ 1).2)),(16,vI ((AI BR).2)),(17,vP (some ⟨c5,0,none⟩)),(18,vI ((AI rR).2)),(162,undef),(19,vP (some ⟨d6,0,none⟩)),(75,vA H0.toArray),(76,vI ((AK BH ((⟨0,(2:Int),2,(4:Int),0,1⟩:DeviceOp)) (2:Int)).2))] ⟨c9 1 kR,c9 2 kR,c9 4 kR,c9 5 kR,c9 6 kR,c9 8 kR,c9 9 kR,c9 10 kR,c9 12 kR,c9 13 kR,c9 14 kR,c9 16 kR,c9 17 kR,c9 18 kR,c9 162 kR,cG,cI,n5 5 76 kR (by decide) kR kR,trivial⟩
   clear n5 c9 t9 V8 v2
   obtain ⟨K8,rfl,H1⟩:=u0
   have:=H1.len_le
   refine BU (AR (vs:=[vI HT.id,vI HT.counter,K8,vO HT.halted]) (.agg #[vI HT.id,vI HT.counter,K8,vO HT.halted]) rfl rfl rfl BS (fun u hu=>by simp only [List.mem_cons,List.not_mem_nil,or_false] at hu;rcases hu with rfl|rfl|rfl|rfl <;> first|rfl|exact H1.oneCell) (by repeat (constructor)) G7 oT cH fun fE cJ n7 n8 dV=>(?_))
   have a3:=a3.mv n7
   have a2:=a2.keep n8 (AT W3)
   have a8:=a8.mv n7
   have a4:=a4.keep n8 (AT W4)
   have a1:=a1.mv n7
   have a0:=a0.keep n8 (AT W5)
   have a9:=a9.mv n7
   have a6:=a6.keep n8 (AT W6)
   have b7:=b7.mv n7
   have b1:=b1.keep n8 (AT W7)
   refine AB (AG (vI ((AK BH ((⟨0,(2:Int),2,(4:Int),0,1⟩:DeviceOp)) (2:Int)).2)) rfl (AD (AA (?_))))
   exact ⟨(d6 :: c4),trivial,⟨_,AQ _ ⟨rfl,rfl,rfl,rfl,rfl,rfl,rfl,rfl,rfl,rfl,rfl,rfl,rfl,rfl,(by rfl),rfl,trivial⟩⟩,cJ,a3,a2,(by (repeat (first|assumption|apply List.mem_cons_of_mem))),a8,a4,(by (repeat (first|assumption|apply List.mem_cons_of_mem))),a1,a0,(by (repeat (first|assumption|apply List.mem_cons_of_mem))),a9,a6,(by (repeat (first|assumption|apply List.mem_cons_of_mem))),b7,b1,(by (repeat (first|assumption|apply List.mem_cons_of_mem)))⟩
  intro cx_ hcx_
  match cx_,hcx_ with
  | 0,_=>
   intro q2 g8 g2 g9 u1 W8 v3 n9 d0
   obtain ⟨d7,cK,H2,W9,H3⟩:(LN e4 31 [vI 0,vI 0,nS,vO false]) (g2 2) (q2 19) g8:=n9 6 19 kR (by decide) kR kR
   have H4:=H3.lt
   have X0:∀ x∈c4,x∈c4∨(e4.heap.size≤x∧x<g8.heap.size):=fun x hx=>.inl hx
   have M7:∀ x∈c4,x∈c4:=fun x hx=>hx
   have X1:∀ x∈c4,x∈g2 1:=fun x hx=>u1 1 x hx
   have dW:∀ x∈c4,x∈g2 2:=fun x hx=>u1 2 x hx
   have H5:∀ x∈(d7 :: c4),x∈c4∨(e4.heap.size≤x∧x<g8.heap.size):=fun x hx=>by rcases List.mem_cons.1 hx with rfl|hx;exact .inr ⟨H2,H4⟩;exact X0 x hx
   have dq:∀ x∈c4,x∈(d7 :: c4):=fun x hx=>List.mem_cons_of_mem _ (M7 x hx)
   have X2:∀ x∈(d7 :: c4),x∈g2 1:=fun x hx=>by rcases List.mem_cons.1 hx with rfl|hx;exact v3 2 1 _ (by decide) H2 H4 W9;exact X1 x hx
   have cL:=n2.adoptL g9 H5
   have o0:Mv c4 e4 (d7 :: c4) g8:=Mv.adoptL g9 H5
   have X3:CU a5 d7:=by show a5≠d7;have:=a2.lt;omega
   have X4:CU a7 d7:=by show a7≠d7;have:=a4.lt;omega
   have X5:CU b0 d7:=by show b0≠d7;have:=a0.lt;omega
   have X6:CU b5 d7:=by show b5≠d7;have:=a6.lt;omega
   have X7:CU c5 d7:=by show c5≠d7;have:=b1.lt;omega
   obtain ⟨X8,cM,dX⟩:(fun (vT:Value) (wT:World)=>∃ (xT0:List Value),vT = .tuple #[.agg xT0.toArray,vI ((AK BH ((⟨0,(2:Int),2,(4:Int),0,1⟩:DeviceOp)) (2:Int)).2)]∧Enc.device.rd wT ((g2 1)++O) xT0 (HT)) (q2 71) g8:=n9 3 71 kR (by decide) kR kR
   obtain ⟨H6,cN,u2⟩:∃ cs:List Value,q2 75 = .agg cs.toArray∧Enc.device.rd g8 ((g2 1)++O) cs (HT):=n9 4 75 kR (by decide) kR kR
   have u2:Enc.device.rd g8 ((d7 :: c4)++O) H6 (HT):=Enc.mv Enc.device (x:=HT) u2 (Mv.at_ X2)
   have a3:=a3.mv o0
   have a2:=a2.keep g9 (by simp)
   have a8:=a8.mv o0
   have a4:=a4.keep g9 (by simp)
   have a1:=a1.mv o0
   have a0:=a0.keep g9 (by simp)
   have a9:=a9.mv o0
   have a6:=a6.keep g9 (by simp)
   have b7:=b7.mv o0
   have b1:=b1.keep g9 (by simp)
   obtain ⟨F2,rfl⟩:=AL (F:=q2) [(1,vP (some ⟨a5,0,none⟩)),(2,vI ((CA (0:Int)).2)),(4,vI ((CA (4:Int)).2)),(5,vP (some ⟨a7,0,none⟩)),(6,vI ((AI rD).2)),(8,vI ((AK rD (⟨(0:Int),(0:Int),(0:Int),(0:Int),(0:Int),(0:Int)⟩:DeviceOp) (2:Int)).2)),(9,vP (some ⟨b0,0,none⟩)),(10,vI ((AK rD ⟨0,1,2,3,0,1⟩ 2).2)),(12,vI ((AK rA ⟨0,2,2,3,0,1⟩ 2).2)),(13,vP (some ⟨b5,0,none⟩)),(14,vI ((AK rD ⟨0,1,2,3,0,1⟩ 1).2)),(16,vI ((AI BR).2)),(17,vP (some ⟨c5,0,none⟩)),(18,vI ((AI rR).2)),(162,undef),(19,vP (some ⟨d7,0,none⟩)),(71,vT #[vA X8.toArray,vI ((AK BH ((⟨0,(2:Int),2,(4:Int),0,1⟩:DeviceOp)) (2:Int)).2)]),(75,vA H6.toArray)] ⟨d0 1 kR,d0 2 kR,d0 4 kR,d0 5 kR,d0 6 kR,d0 8 kR,d0 9 kR,d0 10 kR,d0 12 kR,d0 13 kR,d0 14 kR,d0 16 kR,d0 17 kR,d0 18 kR,d0 162 kR,cK,cM,cN,trivial⟩
   clear n9 d0 u1 W8 v3
   obtain ⟨K9,rfl,H7⟩:=u2
   have:=H7.len_le
   refine BU (AR (vs:=[vI HT.id,vI HT.counter,K9,vO HT.halted]) (.agg #[vI HT.id,vI HT.counter,K9,vO HT.halted]) rfl rfl rfl BS (fun u hu=>by simp only [List.mem_cons,List.not_mem_nil,or_false] at hu;rcases hu with rfl|rfl|rfl|rfl <;> first|rfl|exact H7.oneCell) (by repeat (constructor)) H3 oT cL fun fF cO o1 o2 dY=>(?_))
   have a3:=a3.mv o1
   have a2:=a2.keep o2 (AT X3)
   have a8:=a8.mv o1
   have a4:=a4.keep o2 (AT X4)
   have a1:=a1.mv o1
   have a0:=a0.keep o2 (AT X5)
   have a9:=a9.mv o1
   have a6:=a6.keep o2 (AT X6)
   have b7:=b7.mv o1
   have b1:=b1.keep o2 (AT X7)
   refine AB (BJ (vI ((AK BH ((⟨0,(2:Int),2,(4:Int),0,1⟩:DeviceOp)) (2:Int)).2)) rfl rfl (AB (AG (vI ((AK BH ((⟨0,(2:Int),2,(4:Int),0,1⟩:DeviceOp)) (2:Int)).2)) rfl (AD (AA (?_))))))
   exact ⟨(d7 :: c4),trivial,⟨_,AQ _ ⟨rfl,rfl,rfl,rfl,rfl,rfl,rfl,rfl,rfl,rfl,rfl,rfl,rfl,rfl,(by rfl),rfl,trivial⟩⟩,cO,a3,a2,(by (repeat (first|assumption|apply List.mem_cons_of_mem))),a8,a4,(by (repeat (first|assumption|apply List.mem_cons_of_mem))),a1,a0,(by (repeat (first|assumption|apply List.mem_cons_of_mem))),a9,a6,(by (repeat (first|assumption|apply List.mem_cons_of_mem))),b7,b1,(by (repeat (first|assumption|apply List.mem_cons_of_mem)))⟩
 intro F cP hI
 clear a3 a2 a8 a4 a1 a0 a9 a6 b7 b1
 obtain ⟨o3,fG,⟨fH,rfl⟩,L0,a3,a2,f6,a8,a4,f7,a1,a0,f3,a9,a6,i2,b7,b1,t5⟩:=hI
 refine AF (AF (AC kR (AB (AH (vI ((CA (0:Int)).2)) rfl (AB (ER .i64 ((CA (0:Int)).2) (0:Int) rfl rfl (AB (AH (vO (((CA (0:Int)).2) != (0:Int))) rfl (?_)))))))))
 have X9:(((CA (0:Int)).2) != (0:Int))=false:=(by decide +kernel)
 rw [X9]
 refine BC rfl (AH (vI ((CA (4:Int)).2)) rfl (BC rfl (ER .i64 ((CA (4:Int)).2) (1:Int) rfl rfl (AB (BG (vO (((CA (4:Int)).2) != (1:Int))) rfl rfl (AB (AH (vO (((CA (4:Int)).2) != (1:Int))) rfl (?_))))))))
 have Y0:(((CA (4:Int)).2) != (1:Int))=false:=(by decide +kernel)
 rw [Y0]
 refine BC rfl (AH (vI ((AI rD).2)) rfl (BC rfl (ER .i64 ((AI rD).2) (0:Int) rfl rfl (AB (BG (vO (((AI rD).2) != (0:Int))) rfl rfl (AB (AH (vO (((AI rD).2) != (0:Int))) rfl (?_))))))))
 have Y1:(((AI rD).2) != (0:Int))=false:=(by decide +kernel)
 rw [Y1]
 refine BC rfl (AH (vI ((AK rD (⟨(0:Int),(0:Int),(0:Int),(0:Int),(0:Int),(0:Int)⟩:DeviceOp) (2:Int)).2)) rfl (BC rfl (ER .i64 ((AK rD (⟨(0:Int),(0:Int),(0:Int),(0:Int),(0:Int),(0:Int)⟩:DeviceOp) (2:Int)).2) (420:Int) rfl rfl (AB (BG (vO (((AK rD (⟨(0:Int),(0:Int),(0:Int),(0:Int),(0:Int),(0:Int)⟩:DeviceOp) (2:Int)).2) != (420:Int))) rfl rfl (AB (AH (vO (((AK rD (⟨(0:Int),(0:Int),(0:Int),(0:Int),(0:Int),(0:Int)⟩:DeviceOp) (2:Int)).2) != (420:Int))) rfl (?_))))))))
 have Y2:(((AK rD (⟨(0:Int),(0:Int),(0:Int),(0:Int),(0:Int),(0:Int)⟩:DeviceOp) (2:Int)).2) != (420:Int))=false:=(by decide +kernel)
 rw [Y2]
 refine BC rfl (AH (vI ((AK rD ⟨0,1,2,3,0,1⟩ 2).2)) rfl (BC rfl (ER .i64 ((AK rD ⟨0,1,2,3,0,1⟩ 2).2) (0:Int) rfl rfl (AB (BG (vO (((AK rD ⟨0,1,2,3,0,1⟩ 2).2) != (0:Int))) rfl rfl (AB (AH (vO (((AK rD ⟨0,1,2,3,0,1⟩ 2).2) != (0:Int))) rfl (?_))))))))
 have Y3:(((AK rD ⟨0,1,2,3,0,1⟩ 2).2) != (0:Int))=false:=(by decide +kernel)
 rw [Y3]
 refine BC rfl (AH (vI ((AK rA ⟨0,2,2,3,0,1⟩ 2).2)) rfl (BC rfl (ER .i64 ((AK rA ⟨0,2,2,3,0,1⟩ 2).2) (420:Int) rfl rfl (AB (BG (vO (((AK rA ⟨0,2,2,3,0,1⟩ 2).2) != (420:Int))) rfl rfl (AB (AH (vO (((AK rA ⟨0,2,2,3,0,1⟩ 2).2) != (420:Int))) rfl (?_))))))))
 have Y4:(((AK rA ⟨0,2,2,3,0,1⟩ 2).2) != (420:Int))=false:=(by decide +kernel)
 rw [Y4]
 refine BC rfl (AH (vI ((AK rD ⟨0,1,2,3,0,1⟩ 1).2)) rfl (BC rfl (ER .i64 ((AK rD ⟨0,1,2,3,0,1⟩ 1).2) (0:Int) rfl rfl (AB (BG (vO (((AK rD ⟨0,1,2,3,0,1⟩ 1).2) != (0:Int))) rfl rfl (AB (AH (vO (((AK rD ⟨0,1,2,3,0,1⟩ 1).2) != (0:Int))) rfl (?_))))))))
 have Y5:(((AK rD ⟨0,1,2,3,0,1⟩ 1).2) != (0:Int))=false:=(by decide +kernel)
 rw [Y5]
 refine BC rfl (AH (vI ((AI BR).2)) rfl (BC rfl (ER .i64 ((AI BR).2) (430:Int) rfl rfl (AB (BG (vO (((AI BR).2) != (430:Int))) rfl rfl (AB (AH (vO (((AI BR).2) != (430:Int))) rfl (?_))))))))
 have Y6:(((AI BR).2) != (430:Int))=false:=(by decide +kernel)
 rw [Y6]
 refine BC rfl (AH (vI ((AI rR).2)) rfl (BC rfl (ER .i64 ((AI rR).2) (430:Int) rfl rfl (AB (BG (vO (((AI rR).2) != (430:Int))) rfl rfl (AB (AH (vO (((AI rR).2) != (430:Int))) rfl (?_))))))))
 have Y7:(((AI rR).2) != (430:Int))=false:=(by decide +kernel)
 rw [Y7]
 refine BC rfl (AH (vI ((AK BH ⟨0,2,2,4,0,1⟩ 2).2)) rfl (BC rfl (ER .i64 ((AK BH ⟨0,2,2,4,0,1⟩ 2).2) (430:Int) rfl rfl (AB (BG (vO (((AK BH ⟨0,2,2,4,0,1⟩ 2).2) != (430:Int))) rfl rfl (AD (AA (?_))))))))
 have Y8:(((AK BH ⟨0,2,2,4,0,1⟩ 2).2) != (430:Int))=false:=(by decide +kernel)
 rw [Y8]
 refine AP false rfl rfl (fun h=>by cases h) (fun _=>AV (AA (AF (AC kR (AB (AU (vs:=[vI rS.id,vI rS.counter,e0,vO rS.halted]) U31_ rfl BS rfl a4 rfl (AB (AU (vs:=[vI rD.id,vI rD.counter,b8,vO rD.halted]) U31_ rfl BS rfl a2 rfl (AB (BD (vs:=[vA #[vI rS.id,vI rS.counter,e0,vO rS.halted],vA #[vI rD.id,vI rD.counter,b8,vO rD.halted]]) enter_42 (c_sameD (O:=o3++O) [vI rS.id,vI rS.counter,e0,vO rS.halted] rS [vI rD.id,vI rD.counter,b8,vO rD.halted] rD cP ⟨_,rfl,a8⟩ ⟨_,rfl,a3⟩ L0.lt) rfl L0 fun fI cQ L1 y5 y6 cR=>(?_)))))))))))
 obtain rfl:=cR
 have a1:=a1.mv y5
 have a0:=a0.keep y6 (by simp)
 have a9:=a9.mv y5
 have a6:=a6.keep y6 (by simp)
 have b7:=b7.mv y5
 have b1:=b1.keep y6 (by simp)
 refine AB (AH (vO (rS == rD)) rfl (?_))
 have Y9:(rS == rD)=true:=(by decide +kernel)
 rw [Y9]
 refine BC rfl (AM 1 FT rfl (BC rfl (BA U3_ rfl (vI rA.counter) rfl a0 rfl (BC rfl (DB .i64 rA.counter (1:Int) rfl rfl (AB (BF (vO (rA.counter == (1:Int))) rfl rfl (AB (AH (vO (rA.counter == (1:Int))) rfl (?_))))))))))
 have Z0:(rA.counter == (1:Int))=true:=(by decide +kernel)
 rw [Z0]
 refine BC rfl (AM 2 FC rfl (BC rfl (BA U26_ rfl (b4) rfl a0 rfl (BC rfl (DI U26_ rfl a1 (BC rfl (DB .i64 (rA.ops.length:Int) (1:Int) rfl rfl (AB (BF (vO ((rA.ops.length:Int) == (1:Int))) rfl rfl (AB (AH (vO ((rA.ops.length:Int) == (1:Int))) rfl (?_))))))))))))
 have Z1:((rA.ops.length:Int) == (1:Int))=true:=(by decide +kernel)
 rw [Z1]
 refine BC rfl (AM 1 FT rfl (BC rfl (BA U3_ rfl (vI BR.counter) rfl a6 rfl (BC rfl (DB .i64 BR.counter (1:Int) rfl rfl (AB (BF (vO (BR.counter == (1:Int))) rfl rfl (AB (AH (vO (BR.counter == (1:Int))) rfl (?_))))))))))
 have Z2:(BR.counter == (1:Int))=true:=(by decide +kernel)
 rw [Z2]
 refine BC rfl (AM 2 FC rfl (BC rfl (BA U26_ rfl (c7) rfl a6 rfl (BC rfl (DI U26_ rfl a9 (BC rfl (DB .i64 (BR.ops.length:Int) (0:Int) rfl rfl (AB (BF (vO ((BR.ops.length:Int) == (0:Int))) rfl rfl (AB (AH (vO ((BR.ops.length:Int) == (0:Int))) rfl (?_))))))))))))
 have Z3:((BR.ops.length:Int) == (0:Int))=true:=(by decide +kernel)
 rw [Z3]
 refine BC rfl (AM 3 IG rfl (BC rfl (BA U4_ rfl (vO BH.halted) rfl b1 rfl (AB (BF (vO BH.halted) rfl rfl (AB (AH (vO BH.halted) rfl (?_))))))))
 have Z4:(BH.halted)=true:=(by decide +kernel)
 rw [Z4]
 refine BC rfl (AU (vs:=[vI BH.id,vI BH.counter,c6,vO BH.halted]) U31_ rfl BS rfl b1 rfl (BC rfl (BD (vs:=[vA #[vI BH.id,vI BH.counter,c6,vO BH.halted],vI 5,vI 0]) LT (c_burnt (O:=o3++O) [vI BH.id,vI BH.counter,c6,vO BH.halted] BH (5:Int) (0:Int) cQ ⟨_,rfl,b7⟩ L1.lt) rfl L1 fun L2 fJ cS cT cU cV=>(?_))))
 obtain ⟨_,rfl,o4⟩:=cV
 have:=o4.len_le
 have a1:=a1.mv cT
 have a0:=a0.keep cU (by simp)
 refine BC rfl (MH (E:=Enc.int) (xs:=[.const (vI 0), .const (vI 1), .const (vI 2), .const (vI 3), .const (vI 4)]) U27_ s_3 z_3 (by decide) [vI 0,vI 1,vI 2,vI 3,vI 4] [[vI 0],[vI 1],[vI 2],[vI 3],[vI 4]] [(0:Int),(1:Int),(2:Int),(3:Int),(4:Int)] rfl rfl rfl (Parts.cons rfl rfl (Parts.cons rfl rfl (Parts.cons rfl rfl (Parts.cons rfl rfl (Parts.cons rfl rfl (Parts.nil _ _ _)))))) oT cS fun L3 cW L4 L5 cX H8=>(?_))
 have a1:=a1.mv L5
 have o4:=o4.mv L5
 have a0:=a0.keep cX (by simp)
 have:=H8.len_le
 refine BC rfl (BD (vs:=[L2,L3]) enter_49 (c_sameI43 (O:=o3++O) L2 (DS BH (5:Int) (0:Int)) L3 ([(0:Int),(1:Int),(2:Int),(3:Int),(4:Int)]) cW o4 H8 L4.lt) rfl L4 fun fK cY L6 cZ da db=>(?_))
 obtain rfl:=db
 have a1:=a1.mv cZ
 have a0:=a0.keep da (by simp)
 refine AB (BF (vO ((DS BH (5:Int) (0:Int)) == ([(0:Int),(1:Int),(2:Int),(3:Int),(4:Int)]))) rfl rfl (AB (AH (vO ((DS BH (5:Int) (0:Int)) == ([(0:Int),(1:Int),(2:Int),(3:Int),(4:Int)]))) rfl (?_))))
 have Z5:((DS BH (5:Int) (0:Int)) == ([(0:Int),(1:Int),(2:Int),(3:Int),(4:Int)]))=true:=(by decide +kernel)
 rw [Z5]
 refine BC rfl (AU (vs:=[vI rA.id,vI rA.counter,b4,vO rA.halted]) U31_ rfl BS rfl a0 rfl (BC rfl (BD (vs:=[vA #[vI rA.id,vI rA.counter,b4,vO rA.halted],vI 5,vI 0]) LT (c_burnt (O:=o3++O) [vI rA.id,vI rA.counter,b4,vO rA.halted] rA (5:Int) (0:Int) cY ⟨_,rfl,a1⟩ L6.lt) rfl L6 fun fL dc L7 fM fN dd=>(?_))))
 obtain ⟨_,rfl,H9⟩:=dd
 have:=H9.len_le
 refine BC rfl (DI U27_ rfl H9 (BC rfl (DB .i64 ((DS rA (5:Int) (0:Int)).length:Int) (0:Int) rfl rfl (AB (BF (vO (((DS rA (5:Int) (0:Int)).length:Int) == (0:Int))) rfl rfl (AB (AH (vO (((DS rA (5:Int) (0:Int)).length:Int) == (0:Int))) rfl (?_))))))))
 have Z6:(((DS rA (5:Int) (0:Int)).length:Int) == (0:Int))=true:=(by decide +kernel)
 rw [Z6]
 refine BC rfl (DP (l:=[]) pl_31 HJ rfl [] [vI 0,vI 0,nS,vO false] rfl rfl (BC rfl (BD (vs:=[vA #[vI 0,vI 0,nS,vO false],vI 5,vI 0]) LT (c_burnt (O:=o3++O) [vI 0,vI 0,nS,vO false] (⟨(0:Int),(0:Int),[],false⟩:Device) (5:Int) (0:Int) dc ⟨.slice none 0 0,rfl,(CG.nil _ _ _)⟩ L7.lt) rfl L7 fun fO fP de fQ fR df=>(?_))))
 obtain ⟨_,rfl,I0⟩:=df
 have:=I0.len_le
 refine BC rfl (DI U27_ rfl I0 (BC rfl (DB .i64 ((DS (⟨(0:Int),(0:Int),[],false⟩:Device) (5:Int) (0:Int)).length:Int) (0:Int) rfl rfl (AB (BF (vO (((DS (⟨(0:Int),(0:Int),[],false⟩:Device) (5:Int) (0:Int)).length:Int) == (0:Int))) rfl rfl (AB (AG (vO (((DS (⟨(0:Int),(0:Int),[],false⟩:Device) (5:Int) (0:Int)).length:Int) == (0:Int))) rfl (AD (AA (AN (AY rfl (CM rfl rfl rfl) (?_))))))))))))
 have e:true=(((DS (⟨(0:Int),(0:Int),[],false⟩:Device) (5:Int) (0:Int)).length:Int) == (0:Int)):=rfl
 exact ⟨_,rfl,de.keep,(by exact congrArg vO e.symm)⟩
open Go.Fw
def BQ (id:Int) (a:Step):DeviceOp:=⟨(id+1+((a.to % 3).toNat:Int)).tmod 4,1+((a.at_ % 4).toNat:Int),1,((a.copy % 4).toNat:Int),id,1+((a.token % 4).toNat:Int)⟩
section
variable {d:Device} {o n:DeviceOp} {c id copies first:Int} {l:List DeviceOp} {a:Step}
theorem mod3_lt (x:UInt8):(x % 3).toNat<3:=by rw [UInt8.toNat_mod];exact Nat.mod_lt _ (by decide)
theorem HP (x:UInt8):(x % 4).toNat<4:=by rw [UInt8.toNat_mod];exact Nat.mod_lt _ (by decide)
theorem other_dev (h:0≤id) (h2:id<4) (a:Step):(BQ id a).device≠id:=by
  have:=mod3_lt a.to
  unfold BQ
  simp only
  rw [Int.tmod_eq_emod_of_nonneg (by omega)]
  omega
theorem cnt_all (l:List DeviceOp) (id:Int):FL l id l.length=(l.filter (fun o=>o.device == id)).length:=by unfold FL;rw [List.take_length]
theorem act_ok (h:(AK d o c).2=0):0≤c∧c≤2∧BX d=true∧d.halted=false∧CF d=true∧o.device=d.id∧o.no=d.counter+1∧DX d.ops o=false∧(CB d.ops o).2=0:=by
  unfold AK at h
  split at h
  · cases h
  · rename_i h1
    split at h
    · cases h
    · rename_i h2
      split at h
      · cases h
      · rename_i h3
        split at h
        · cases h
        · rename_i h4
          split at h
          · cases h
          · rename_i h5
            split at h
            · rename_i h6;simp at h6;exact absurd h h6
            · rename_i h6
              simp at h1 h2 h3 h4 h6
              exact ⟨h1.1,h1.2,h2,h3.1,h3.2,h4.1,h4.2,Bool.not_eq_true _ ▸ h5,h6⟩
theorem act_fst (h:(AK d o c).2=0):(AK d o c).1 = ⟨d.id,if 1≤c then d.counter+1 else d.counter,if c=2 then (CB d.ops o).1 else d.ops,d.halted⟩:=by
  obtain ⟨h1,h2,h3,h4,h5,h6,h7,h8,h9⟩:=act_ok h
  rw [act_7 h1 h2 h3 h4 h5 h6 h7 h8 h9]
theorem whole_cnt (h:CF d=true):((FL d.ops d.id d.ops.length:Nat):Int)=d.counter:=by unfold CF at h;simp only [dbs] at h;exact h.2
end
open Go.Fw Go.RowKit
set_option maxHeartbeats 4000000 in
set_option maxRecDepth 100000 in
theorem c_other {O:List Nat} (id:Int) (ac_cs:List Value) (ac:Step) (w:World) (a1:Enc.step.rd w O ac_cs ac) (hpre0:0≤id) (hpre1:id<4) (hO:∀ b∈O,b<w.heap.size):BV Try.prog 53 [vI id, .agg ac_cs.toArray] w (fun v w'=>∃ (x0:List Value),v = .agg x0.toArray∧Enc.devop.rd w' (O) x0 (BQ id ac)):= by
 have a1:Enc.step.rd w ([]++O) ac_cs ac:=a1
 have s0:St w O w []:=St.start hO
 have h1_:=mod3_lt ac.to
 have h2_:=HP ac.at_
 have h3_:=HP ac.copy
 have h4_:=HP ac.token
 refine BI 29 Try.func53 rfl rfl oT (fun F0=>AF (AC kR (AB (CQ (E:=Enc.step) (vA ac_cs.toArray) (ac_cs) ac rfl rfl a1 s0 fun b4 b5 a8 b6 b7 a0=>(AB (BW [vI 0,vI 0,vI 0,vI 0,vI 0,vI 0] HV rfl a8 fun a9 b8 b0 b1 b2 b9 a2=>(?_)))))))
 clear b0
 have a0:=a0.mv b2
 refine AD (AA (AF (AC kR (AB (AH (vI id) rfl (AB (CJ .i64 id (1:Int) (id+(1:Int)) rfl rfl (EI oM oM) (AB (AS 2 f_79_2 (ac.to) rfl a0 (fun _ _ _ h=>LG h) fun c2 a3=>(AB (FG U5_ rfl rfl a3 (AB (GP ac.to (3:UInt8) (by decide) rfl rfl (AB (GH .u8 .i64 U5_ U3_ ((ac.to % 3).toNat:Int) ((ac.to % 3).toNat:Int) rfl (by have:=(ac.to % 3).toNat_lt;exact EI oM rfl) (AB (CJ .i64 (id+(1:Int)) ((ac.to % 3).toNat:Int) ((id+(1:Int))+((ac.to % 3).toNat:Int)) rfl rfl (EI oM oM) (AB (o_rem .i64 ((id+(1:Int))+((ac.to % 3).toNat:Int)) (4:Int) (((id+(1:Int))+((ac.to % 3).toNat:Int)).tmod 4) rfl rfl (by decide) rfl (AB (AS 4 f_79_4 (ac.at_) rfl a0 (fun _ _ _ h=>LF h) fun c3 a4=>(AB (FG U5_ rfl rfl a4 (AB (GP ac.at_ (4:UInt8) (by decide) rfl rfl (AB (GH .u8 .i64 U5_ U3_ ((ac.at_ % 4).toNat:Int) ((ac.at_ % 4).toNat:Int) rfl (by have:=(ac.at_ % 4).toNat_lt;exact EI oM rfl) (AB (CJ .i64 (1:Int) ((ac.at_ % 4).toNat:Int) ((1:Int)+((ac.at_ % 4).toNat:Int)) rfl rfl (EI oM oM) (AB (AS 1 f_79_1 (ac.copy) rfl a0 (fun _ _ _ h=>LD h) fun c4 a5=>(AB (FG U5_ rfl rfl a5 (AB (GP ac.copy (4:UInt8) (by decide) rfl rfl (AB (GH .u8 .i64 U5_ U3_ ((ac.copy % 4).toNat:Int) ((ac.copy % 4).toNat:Int) rfl (by have:=(ac.copy % 4).toNat_lt;exact EI oM rfl) (AB (AH (vI id) rfl (AB (AS 3 f_79_3 (ac.token) rfl a0 (fun _ _ _ h=>LC h) fun c5 a6=>(AB (FG U5_ rfl rfl a6 (AB (GP ac.token (4:UInt8) (by decide) rfl rfl (AB (GH .u8 .i64 U5_ U3_ ((ac.token % 4).toNat:Int) ((ac.token % 4).toNat:Int) rfl (by have:=(ac.token % 4).toNat_lt;exact EI oM rfl) (AB (CJ .i64 (1:Int) ((ac.token % 4).toNat:Int) ((1:Int)+((ac.token % 4).toNat:Int)) rfl rfl (EI oM oM) (AB (DP (l:=[(0, .tmp 12),(1, .tmp 17),(2, .const (vI 1)),(3, .tmp 21),(4, .tmp 22),(5, .tmp 27)]) pl_40 HV rfl [(0,vI (((id+(1:Int))+((ac.to % 3).toNat:Int)).tmod 4),[vI (((id+(1:Int))+((ac.to % 3).toNat:Int)).tmod 4)]),(1,vI ((1:Int)+((ac.at_ % 4).toNat:Int)),[vI ((1:Int)+((ac.at_ % 4).toNat:Int))]),(2,vI 1,[vI 1]),(3,vI ((ac.copy % 4).toNat:Int),[vI ((ac.copy % 4).toNat:Int)]),(4,vI id,[vI id]),(5,vI ((1:Int)+((ac.token % 4).toNat:Int)),[vI ((1:Int)+((ac.token % 4).toNat:Int))])] [vI (((id+(1:Int))+((ac.to % 3).toNat:Int)).tmod 4),vI ((1:Int)+((ac.at_ % 4).toNat:Int)),vI 1,vI ((ac.copy % 4).toNat:Int),vI id,vI ((1:Int)+((ac.token % 4).toNat:Int))] rfl ⟨_,rfl,rfl,oT,⟨_,rfl,rfl,oT,⟨_,rfl,rfl,oT,⟨_,rfl,rfl,oT,⟨_,rfl,rfl,oT,⟨_,rfl,rfl,oT,rfl⟩⟩⟩⟩⟩⟩ (BU (AR (vs:=[vI (((id+(1:Int))+((ac.to % 3).toNat:Int)).tmod 4),vI ((1:Int)+((ac.at_ % 4).toNat:Int)),vI 1,vI ((ac.copy % 4).toNat:Int),vI id,vI ((1:Int)+((ac.token % 4).toNat:Int))]) (.agg #[vI (((id+(1:Int))+((ac.to % 3).toNat:Int)).tmod 4),vI ((1:Int)+((ac.at_ % 4).toNat:Int)),vI 1,vI ((ac.copy % 4).toNat:Int),vI id,vI ((1:Int)+((ac.token % 4).toNat:Int))]) rfl rfl rfl CH (fun u hu=>by simp only [List.mem_cons,List.not_mem_nil,or_false] at hu;rcases hu with rfl|rfl|rfl|rfl|rfl|rfl <;> rfl) (by repeat (constructor)) a2 oT b1 fun c6 b3 c7 c8 a7=>(AD (AA (AN (AY rfl (GF (vs:=[vI (((id+(1:Int))+((ac.to % 3).toNat:Int)).tmod 4),vI ((1:Int)+((ac.at_ % 4).toNat:Int)),vI 1,vI ((ac.copy % 4).toNat:Int),vI id,vI ((1:Int)+((ac.token % 4).toNat:Int))]) rfl rfl U40_ rfl CH rfl a7 rfl) (?_))))))))))))))))))))))))))))))))))))))))))))))))))))))))))
 have e:(BQ id ac)=(⟨((id+(1:Int))+((ac.to % 3).toNat:Int)).tmod 4,(1:Int)+((ac.at_ % 4).toNat:Int),(1:Int),((ac.copy % 4).toNat:Int),id,(1:Int)+((ac.token % 4).toNat:Int)⟩:DeviceOp):=rfl
 exact ⟨_,rfl,b3.keep,by rw [e];exact ⟨[vI (((id+(1:Int))+((ac.to % 3).toNat:Int)).tmod 4),vI ((1:Int)+((ac.at_ % 4).toNat:Int)),vI 1,vI ((ac.copy % 4).toNat:Int),vI id,vI ((1:Int)+((ac.token % 4).toNat:Int))],rfl,Enc.out (B:=(a9 :: [])) rfl⟩⟩
end Go.Proofs.Ytjpniibleelgiaa
