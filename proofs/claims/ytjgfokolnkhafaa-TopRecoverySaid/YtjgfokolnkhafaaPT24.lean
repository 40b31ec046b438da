/- What the laws of this part rest on: lemmas, and the walks of the functions. No conditions. -/
import Derived.WalkKit
import Derived.WalkSpells
import Derived.WalkLawsBesides
import Derived.RangeFuncLeaves
import Derived.Maps.AppendAt
import Derived.Deep.AppendLies
import Derived.Deep.Slices
import Derived.OpenShut
import Derived.ProofKit
import Derived.Below
import Derived.ChangeSame
import Derived.Carry
import Derived.RangeFuncRecord
import Derived.Laws.Tables
import Derived.Recover
import Derived.DefersIn
import Derived.Lib.AppendZerosOnto
import Derived.Lib.Overlaps
import Derived.Laws.CopyRow
import Derived.Laws.StructEq
import Derived.ChangeKeysEq
import Derived.OrdersIn
import Derived.Test.YtjgfokolnkhafaaRows
import Derived.Test.YtjgfokolnkhafaaPT23
set_option linter.unusedSimpArgs false
set_option linter.unusedVariables false
namespace Go.Proofs.Ytjgfokolnkhafaa
open Go.Fw Go.RowKit
set_option maxHeartbeats 4000000 in
set_option maxRecDepth 100000 in
theorem c_refresh11 {O:List Nat} (k:Nat) (l_a:Addr) (l:(List Share)) (i_a:Addr) (i:Int) (zero_a:Addr) (zero:(List Share)) (w:World) (a3:PT (Enc.slice Enc.share) w O (.pointer (some l_a)) l) (a1:PT Enc.int w O (.pointer (some i_a)) i) (a0:PT (Enc.slice Enc.share) w O (.pointer (some zero_a)) zero) (hpre0:0≤i) (hpre1:(i).toNat<l.length) (hpre2:(i).toNat<zero.length) (hpre3:k<l[(i).toNat]!.data.length) (hpre4:k<zero[(i).toNat]!.data.length) (hO:∀ b∈O,b<w.heap.size):CM Try.prog 56 [vI (k:Int), .pointer (some l_a), .pointer (some i_a), .pointer (some zero_a)] w (fun v _=>v=vB (l[(i).toNat]!.data[k]! ^^^ zero[(i).toNat]!.data[k]!)):= by
 have a3:PT (Enc.slice Enc.share) w ([]++O) (.pointer (some l_a)) l:=a3
 have a1:PT Enc.int w ([]++O) (.pointer (some i_a)) i:=a1
 have a0:PT (Enc.slice Enc.share) w ([]++O) (.pointer (some zero_a)) zero:=a0
 have s0:St w O w []:=St.start hO
 refine BP 23 Try.func56 rfl rfl oT (fun F0=>AF (AB kR (AA (AE (vB (0:UInt8)) rfl (AG (AC (AF (DP 18 _ _ kR kR kR kR kR rfl rfl fun b5 a8=>?_))))))))
 have b6:=s0.call a8
 have a2:Mv ([]) w ([]) b5:=Mv.of_keep a8
 have a3:=a3.mv a2
 have a1:=a1.mv a2
 have a0:=a0.mv a2
 refine BG (CI U32_ rfl rfl a3 fun b7 a4=>(?_))
 have:=a4.len_le
 refine BG (CG U3_ rfl rfl a1 (BG (DO U32_ EN .i64 i i.toNat rfl rfl oM a4 oM fun b8 a9=>(BG (BO 4 HT ((l[i.toNat]!).data) rfl a9 (fun _ _ _ h=>GO h) fun b9 b0=>(BG (CI U23_ rfl rfl b0 fun c0 a5=>(?_))))))))
 have:=a5.len_le
 refine BG (AD (vI (k:Int)) rfl (BG (DO U23_ JD .i64 (k:Int) k rfl rfl rfl a5 oM fun c1 b1=>(BG (HW U5_ rfl rfl b1 (BG (CI U32_ rfl rfl a0 fun c2 a6=>(?_))))))))
 have:=a6.len_le
 refine BG (CG U3_ rfl rfl a1 (BG (DO U32_ EN .i64 i i.toNat rfl rfl oM a6 oM fun c3 b2=>(BG (BO 4 HT ((zero[i.toNat]!).data) rfl b2 (fun _ _ _ h=>GO h) fun c4 b3=>(BG (CI U23_ rfl rfl b3 fun c5 a7=>(?_))))))))
 have:=a7.len_le
 refine BG (AD (vI (k:Int)) rfl (BG (DO U23_ JD .i64 (k:Int) k rfl rfl rfl a7 oM fun c6 b4=>(BG (HW U5_ rfl rfl b4 (BG (PR (((l[i.toNat]!).data)[k]!) (((zero[i.toNat]!).data)[k]!) rfl rfl (BG (AE (vB ((((l[i.toNat]!).data)[k]!) ^^^ (((zero[i.toNat]!).data)[k]!))) rfl (EQ (AG (AC (AM (AZ rfl (CN rfl rfl rfl) (?_)))))))))))))))
 have e:(l[(i).toNat]!.data[k]! ^^^ zero[(i).toNat]!.data[k]!)=((((l[i.toNat]!).data)[k]!) ^^^ (((zero[i.toNat]!).data)[k]!)):=rfl
 exact ⟨_,rfl,b6.keep,by rw [e];exact rfl⟩
set_option maxHeartbeats 4000000 in
set_option maxRecDepth 100000 in
theorem WT {O:List Nat} (i:Nat) (l_a:Addr) (l:(List Share)) (f_a:Addr) (f:Share) (zero_a:Addr) (zero:(List Share)) (w:World) (a4:PT (Enc.slice Enc.share) w O (.pointer (some l_a)) l) (a5:PT Enc.share w O (.pointer (some f_a)) f) (a0:PT (Enc.slice Enc.share) w O (.pointer (some zero_a)) zero) (hpre0:i<l.length) (hpre1:i<zero.length) (hpre2:l[i]!.data.length=f.data.length) (hpre3:zero[i]!.data.length=f.data.length) (hpre4:0≤l[i]!.epoch) (hpre5:l[i]!.epoch≤1048576) (hpre6:f.data.length≤1000) (hO:∀ b∈O,b<w.heap.size):CM Try.prog 55 [vI (i:Int), .pointer (some l_a), .pointer (some f_a), .pointer (some zero_a)] w (fun v w'=>∃ (x0:List Value),v = .agg x0.toArray∧Enc.share.rd w' (O) x0 (GL l f zero i)):= by
 have a4:PT (Enc.slice Enc.share) w ([]++O) (.pointer (some l_a)) l:=a4
 have a5:PT Enc.share w ([]++O) (.pointer (some f_a)) f:=a5
 have a0:PT (Enc.slice Enc.share) w ([]++O) (.pointer (some zero_a)) zero:=a0
 have s0:St w O w []:=St.start hO
 refine BP 22 Try.func55 rfl rfl oT (fun F0=>AF (AB kR (AA (EC (E:=Enc.int) (vI (i:Int)) ([vI (i:Int)]) (i:Int) rfl rfl rfl s0 fun b0 e9 d1 b7 f0 a2=>(?_)))))
 have a4:=a4.mv b7
 have a5:=a5.mv b7
 have a0:=a0.mv b7
 refine AA (CR [vI 0,vI 0,vI 0,vI 0,nS] PG rfl d1 fun a7 f1 d2 d3 b1 f2 a1=>(?_))
 clear d2
 have a4:=a4.mv b1
 have a5:=a5.mv b1
 have a0:=a0.mv b1
 have a2:=a2.mv b1
 refine AG (AC (AF (AB kR (AA (CI U32_ rfl rfl a4 fun f3 b8=>(?_))))))
 have:=b8.len_le
 refine AA (CG U3_ rfl rfl a2 (AA (DO U32_ EN .i64 (i:Int) i rfl rfl rfl b8 oM fun f4 c5=>(AA (CY U70_ rfl EN rfl c5 fun c6 b4=>(AA (CR [vI 0,vI 0,vI 0,vI 0,nS] PG rfl d3 fun a8 d4 d5 d6 a9 d7 c7=>(?_))))))))
 have b5:EY a7 a8:=by show a7≠a8;have:=a1.lt;omega
 clear d5
 have a4:=a4.mv a9
 have a5:=a5.mv a9
 have a0:=a0.mv a9
 have a2:=a2.mv a9
 have b4:Enc.share.rd d4 ((a8 :: (a7 :: []))++O) c6 (l[i]!):=Enc.mv Enc.share (x:=l[i]!) b4 a9
 have a1:=a1.keep d7 (by simp)
 obtain ⟨c2,rfl,b9⟩:=b4
 have:=b9.len_le
 refine BZ (BE (vs:=[vI ((l[i]!).epoch),vI ((l[i]!).index),vI ((l[i]!).threshold),vI ((l[i]!).many),c2]) (.agg #[vI ((l[i]!).epoch),vI ((l[i]!).index),vI ((l[i]!).threshold),vI ((l[i]!).many),c2]) rfl rfl rfl EN (fun u hu=>by simp only [List.mem_cons,List.not_mem_nil,or_false] at hu;rcases hu with rfl|rfl|rfl|rfl|rfl <;> first|rfl|exact b9.oneCell) (by repeat (constructor)) c7 oT d6 fun f5 d8 b2 d9 c0=>(?_))
 have a4:=a4.mv b2
 have a5:=a5.mv b2
 have a0:=a0.mv b2
 have a2:=a2.mv b2
 have a1:=a1.keep d9 (AS b5)
 refine AG (AC (AF (AB kR (AA (AH 0 KC rfl (AA (AK U3_ rfl (vI ((l[i]!).epoch)) rfl c0 rfl (AA (DR .i64 ((l[i]!).epoch) (1:Int) (((l[i]!).epoch)+(1:Int)) rfl rfl (GZ oM oM) (AA (AH 0 KC rfl (BZ (BY (vI (((l[i]!).epoch)+(1:Int))) rfl rfl rfl OB (by repeat (constructor)) c0 oT d8 fun e0 c3 b3 e1 b6=>(?_))))))))))))))
 have a4:=a4.mv b3
 have a5:=a5.mv b3
 have a0:=a0.mv b3
 have a2:=a2.mv b3
 have a1:=a1.keep e1 (AS b5)
 refine AG (AC (AF (AB kR (AA (BO 4 HT (f.data) rfl a5 (fun _ _ _ h=>GO h) fun f6 c8=>(AA (CI U23_ rfl rfl c8 fun f7 c1=>(?_))))))))
 have:=c1.len_le
 refine AA (CK U23_ rfl c1 (AA (DF (first:=[]) (captured:=[.tmp 1, .tmp 4, .tmp 3]) [] [vP (some l_a),vP (some b0),vP (some zero_a)] rfl rfl (AA (BF (vs:=[vI (f.data.length:Int),vN (.func 56) #[] #[vP (some l_a),vP (some b0),vP (some zero_a)]]) PW (MO (O:=(a8 :: (a7 :: []))++O) (f.data.length:Int) 56 [vP (some l_a),vP (some b0),vP (some zero_a)] (fun i_=>l[((i:Int)).toNat]!.data[i_]! ^^^ zero[((i:Int)).toNat]!.data[i_]!) e0 enter_56 (fun w'_ O'_ kk_ hs_ hl_ i_  hc_=>c_refresh11 (O:=O'_) i_ l_a l b0 (i:Int) zero_a zero w'_ (a4.on hs_ kk_) (a2.on hs_ kk_) (a0.on hs_ kk_) oM oM oM (by rw [Int.toNat_natCast,hpre2];omega) (by rw [Int.toNat_natCast,hpre3];omega) hl_) oM c3.lt) rfl c3 fun a6 f8 e2 f9 c4 e3=>(?_))))))
 obtain ⟨_,rfl,a3⟩:=e3
 have:=a3.len_le
 have a1:=a1.keep c4 (by simp)
 have b6:=b6.keep c4 (by simp)
 refine AA (AH 4 HT rfl (BZ (BY (a6) rfl rfl a3.oneCell s_23 (by repeat (constructor)) b6 oT e2 fun g0 e4 e5 e6 c9=>(?_))))
 have a3:=a3.mv e5
 have a1:=a1.keep e6 (AS b5)
 refine AG (AC (AF (AB kR (AA (BI (vs:=[vI (((l[i]!).epoch)+(1:Int)),vI ((l[i]!).index),vI ((l[i]!).threshold),vI ((l[i]!).many),a6]) U70_ rfl EN rfl c9 rfl (BZ (BE (vs:=[vI (((l[i]!).epoch)+(1:Int)),vI ((l[i]!).index),vI ((l[i]!).threshold),vI ((l[i]!).many),a6]) (.agg #[vI (((l[i]!).epoch)+(1:Int)),vI ((l[i]!).index),vI ((l[i]!).threshold),vI ((l[i]!).many),a6]) rfl rfl rfl EN (fun u hu=>by simp only [List.mem_cons,List.not_mem_nil,or_false] at hu;rcases hu with rfl|rfl|rfl|rfl|rfl <;> first|rfl|exact a3.oneCell) (by repeat (constructor)) a1 oT e4 fun g1 e7 e8 g2 d0=>(?_))))))))
 have a3:=a3.mv e8
 refine AG (AC (AM (AZ rfl (rescA (vs:=[vI (((l[i]!).epoch)+(1:Int)),vI ((l[i]!).index),vI ((l[i]!).threshold),vI ((l[i]!).many),a6]) rfl rfl U70_ rfl EN rfl d0 rfl) (?_))))
 have e:(GL l f zero i)=(⟨((l[i]!).epoch)+(1:Int),(l[i]!).index,(l[i]!).threshold,(l[i]!).many,(List.range ((f.data.length:Int)).toNat).map (fun i_=>l[((i:Int)).toNat]!.data[i_]! ^^^ zero[((i:Int)).toNat]!.data[i_]!)⟩:Share):=rfl
 exact ⟨_,rfl,e7.keep,by rw [e];exact ⟨[vI (((l[i]!).epoch)+(1:Int)),vI ((l[i]!).index),vI ((l[i]!).threshold),vI ((l[i]!).many),a6],rfl,Enc.out (B:=(a8 :: (a7 :: []))) ⟨_,rfl,a3⟩⟩⟩
set_option maxHeartbeats 4000000 in
set_option maxRecDepth 100000 in
theorem ZI {O:List Nat} (l_v:Value) (l:List Share) (coins_v:Value) (coins:List UInt8) (w:World) (f2:BL Enc.share w O l_v l) (a5:BL Enc.u8 w O coins_v coins) (hO:∀ b∈O,b<w.heap.size):CM Try.prog 19 [l_v,coins_v] w (fun v w'=>∃ (x0:Value),v = .tuple #[x0,vI ((BR l coins).2)]∧BL Enc.share w' (O) x0 ((BR l coins).1)):= by
 have t0:=f2.len_le
 have f2:BL Enc.share w ([]++O) l_v l:=f2
 have q9:=a5.len_le
 have a5:BL Enc.u8 w ([]++O) coins_v coins:=a5
 have s0:St w O w []:=St.start hO
 refine BP 48 Try.func19 rfl rfl oT (fun F0=>AF (AB kR (AA (EC (E:=(Enc.slice Enc.share)) (l_v) ([l_v]) l rfl (FB f2.oneCell) ⟨_,rfl,f2⟩ s0 fun b0 m3 h3 m4 t2 a1=>(?_)))))
 have a5:=a5.mv m4
 refine AA (AE (nS) rfl (AA (AE (vI 0) rfl (AG (AC (AF (AF (AB kR (AA (CI U32_ rfl rfl a1 fun h4 f3=>(?_)))))))))))
 have:=f3.len_le
 refine AA (BF (vs:=[h4]) NT (NP (O:=[]++O) h4 l m3 f3 h3.lt) rfl h3 fun t3 t4 h5 h6 t5 m5=>(?_))
 obtain rfl:=m5
 have a5:=a5.mv h6
 have a1:=a1.mv h6
 refine AA (AE (vI (BN l)) rfl (AG (AC (AF (AB kR (AA (AD (vI (BN l)) rfl (AA (DQ .i64 (BN l) (0:Int) rfl rfl (AG (AC (AJ ((BN l) != (0:Int)) rfl rfl (fun c7=>?_) (fun c7=>?_)))))))))))))
 ·have r7:BN l≠(0:Int):=by simpa using c7
  refine AF (AB kR (AA (AD (vI (BN l)) rfl (AA (AE (nS) rfl (AA (AE (vI (BN l)) rfl (AG (AC (AM (AP (AZ rfl (GE rfl rfl rfl rfl) (?_)))))))))))))
  have e:(BR l coins)=([],BN l):=by exact JX (l:=l) (coins:=coins) (by unfold EX IE;((repeat ((refine (if_pos ?_).trans ?_;omega)));rfl)) aS
  exact ⟨_,rfl,h5.keep,by rw [e];exact ⟨.slice none 0 0,rfl,BL.nil _ _ _⟩⟩
 have j2:BN l=(0:Int):=by simpa using c7
 have hv:=(EM l).1 j2
 have hpos:=hv.pos
 have ht1:=hv.t1
 have htm:=hv.tm
 have w5:=hv.m8
 have w4:=hv.d64
 refine AT (AC (AF (AB kR (AA (CI U32_ rfl rfl a1 fun t6 f4=>(?_))))))
 have:=f4.len_le
 refine AA (DO U32_ EN .i64 (0:Int) 0 rfl rfl rfl f4 oM fun t7 j3=>(AA (CY U70_ rfl EN rfl j3 fun j4 c8=>(AA (CR [vI 0,vI 0,vI 0,vI 0,nS] PG rfl h5 fun a0 m6 m7 m9 e1 t8 j5=>(?_))))))
 clear m7
 have a5:=a5.mv e1
 have a1:=a1.mv e1
 have c8:Enc.share.rd m6 ((a0 :: [])++O) j4 (l[0]!):=Enc.mv Enc.share (x:=l[0]!) c8 e1
 obtain ⟨e2,rfl,a4⟩:=c8
 have:=a4.len_le
 refine BZ (BE (vs:=[vI ((l[0]!).epoch),vI ((l[0]!).index),vI ((l[0]!).threshold),vI ((l[0]!).many),e2]) (.agg #[vI ((l[0]!).epoch),vI ((l[0]!).index),vI ((l[0]!).threshold),vI ((l[0]!).many),e2]) rfl rfl rfl EN (fun u hu=>by simp only [List.mem_cons,List.not_mem_nil,or_false] at hu;rcases hu with rfl|rfl|rfl|rfl|rfl <;> first|rfl|exact a4.oneCell) (by repeat (constructor)) j5 oT m9 fun a3 b2 e3 t9 a2=>(?_))
 have a5:=a5.mv e3
 have a1:=a1.mv e3
 have a4:=a4.mv e3
 refine AG (AC (AF (AF (AB kR (AA (CI U32_ rfl rfl a1 fun u0 f5=>(?_)))))))
 have:=f5.len_le
 refine AA (CK U32_ rfl f5 (AA (AH 3 KT rfl (AA (AK U3_ rfl (vI ((l[0]!).many)) rfl a2 rfl (AA (DQ .i64 (l.length:Int) ((l[0]!).many) rfl rfl (AG (AC (AJ ((l.length:Int) != ((l[0]!).many)) rfl rfl (fun c9=>?_) (fun c9=>?_)))))))))))
 ·have r8:(l.length:Int)≠(l[0]!).many:=by simpa using c9
  refine AF (AB kR (AA (AE (nS) rfl (AA (AE (vI 80) rfl (AG (AC (AM (AP (AZ rfl (GE rfl rfl rfl rfl) (?_)))))))))))
  have e:(BR l coins)=([],(80:Int)):=by exact JX (l:=l) (coins:=coins) (by unfold EX IE;((repeat (first|(refine (if_pos ?_).trans ?_;omega)|(refine (if_neg ?_).trans ?_;omega)));rfl)) (by decide)
  exact ⟨_,rfl,b2.keep,by rw [e];exact ⟨.slice none 0 0,rfl,BL.nil _ _ _⟩⟩
 have r9:(l.length:Int)=(l[0]!).many:=by simpa using c9
 refine AT (AC (AF (AF (AB kR (AA (AH 0 KC rfl (AA (AK U3_ rfl (vI ((l[0]!).epoch)) rfl a2 rfl (AA (EZ .i64 ((l[0]!).epoch) (1048576:Int) rfl rfl (AG (AC (AJ (((l[0]!).epoch) == (1048576:Int)) rfl rfl (fun d0=>?_) (fun d0=>?_))))))))))))))
 ·have s2:(l[0]!).epoch=(1048576:Int):=by simpa using d0
  refine AF (AB kR (AA (AE (nS) rfl (AA (AE (vI 81) rfl (AG (AC (AM (AP (AZ rfl (GE rfl rfl rfl rfl) (?_)))))))))))
  have e:(BR l coins)=([],(81:Int)):=by exact JX (l:=l) (coins:=coins) (by unfold EX IE;((repeat (first|(refine (if_pos ?_).trans ?_;omega)|(refine (if_neg ?_).trans ?_;omega)));rfl)) (by decide)
  exact ⟨_,rfl,b2.keep,by rw [e];exact ⟨.slice none 0 0,rfl,BL.nil _ _ _⟩⟩
 have s3:(l[0]!).epoch≠(1048576:Int):=by simpa using d0
 refine AT (AC (AF (ZA 16 [14] _ _ _ [fun _=>isV (vP (some ⟨a0,4,none⟩)),fun _=>fun (vT:Value) (_:World)=>BL Enc.u8 a3 ((a0 :: [])++O) vT ((l[0]!).data),fun _=>isV (vI (((l[0]!).data).length:Int)),fun (BT:List Nat) (vT:Value) (wT:World)=>BL Enc.u8 wT (BT++O) vT (List.replicate (((l[0]!).data).length) (0:UInt8)),fun _=>isV (vP (some ⟨a0,0,none⟩)),fun _=>isV (vI ((l[0]!).epoch)),fun _=>isV (vP (some ⟨a0,2,none⟩)),fun _=>isV (vI ((l[0]!).threshold)),fun _=>isV (vP (some ⟨a0,3,none⟩)),fun _=>isV (vI ((l[0]!).many)),fun _=>fun (vT:Value) (_:World)=>BL Enc.u8 a3 ((a0 :: [])++O) vT (coins),fun (BT:List Nat) (vT:Value) (wT:World)=>∃ (xT0:Value),vT = .tuple #[xT0,vI ((BB (List.replicate (((l[0]!).data).length) (0:UInt8)) ((l[0]!).epoch) ((l[0]!).threshold) ((l[0]!).many) coins).2)]∧BL Enc.share wT (BT++O) xT0 ((BB (List.replicate (((l[0]!).data).length) (0:UInt8)) ((l[0]!).epoch) ((l[0]!).threshold) ((l[0]!).many) coins).1),fun (BT:List Nat) (vT:Value) (wT:World)=>∃ (xT0:Value),vT = .tuple #[xT0,vI ((BB (List.replicate (((l[0]!).data).length) (0:UInt8)) ((l[0]!).epoch) ((l[0]!).threshold) ((l[0]!).many) coins).2)]∧BL Enc.share wT (BT++O) xT0 ((BB (List.replicate (((l[0]!).data).length) (0:UInt8)) ((l[0]!).epoch) ((l[0]!).threshold) ((l[0]!).many) coins).1),fun (BT:List Nat) (vT:Value) (wT:World)=>BL Enc.share wT (BT++O) vT ((BB (List.replicate (((l[0]!).data).length) (0:UInt8)) ((l[0]!).epoch) ((l[0]!).threshold) ((l[0]!).many) coins).1),fun _=>isV (vI ((BB (List.replicate (((l[0]!).data).length) (0:UInt8)) ((l[0]!).epoch) ((l[0]!).threshold) ((l[0]!).many) coins).2)),TBx a3 32 [nS]] [⟨0,[],[],[],false,[]⟩,⟨0,[],[],[],false,[0]⟩,⟨0,[],[],[],false,[1]⟩,⟨1,[],[],[],false,[2]⟩,⟨0,[],[],[],false,[]⟩,⟨0,[],[],[],false,[4]⟩,⟨0,[],[],[],false,[]⟩,⟨0,[],[],[],false,[6]⟩,⟨0,[],[],[],false,[]⟩,⟨0,[],[],[],false,[8]⟩,⟨0,[],[],[],false,[]⟩,⟨1,[1],[],[],false,[3,5,7,9,10]⟩,⟨1,[1],[],[],false,[11]⟩,⟨1,[1],[],[],false,[12]⟩,⟨0,[1],[],[],false,[12]⟩,⟨2,[],[],[],false,[]⟩] (a0 :: []) kR kR kR kR kR (by decide) rfl rfl rfl ⟨fun _ _ _ _ _ h=>h,fun _ _ _ _ _ h=>h,fun _ _ _ _ _ h=>h,(show ∀ B B2 v w w2,(fun (BT:List Nat) (vT:Value) (wT:World)=>BL Enc.u8 wT (BT++O) vT (List.replicate (((l[0]!).data).length) (0:UInt8))) B v w→Mv B w B2 w2→(fun (BT:List Nat) (vT:Value) (wT:World)=>BL Enc.u8 wT (BT++O) vT (List.replicate (((l[0]!).data).length) (0:UInt8))) B2 v w2 from fun _ _ _ _ _ h m=>h.mv m),fun _ _ _ _ _ h=>h,fun _ _ _ _ _ h=>h,fun _ _ _ _ _ h=>h,fun _ _ _ _ _ h=>h,fun _ _ _ _ _ h=>h,fun _ _ _ _ _ h=>h,fun _ _ _ _ _ h=>h,(show ∀ B B2 v w w2,(fun (BT:List Nat) (vT:Value) (wT:World)=>∃ (xT0:Value),vT = .tuple #[xT0,vI ((BB (List.replicate (((l[0]!).data).length) (0:UInt8)) ((l[0]!).epoch) ((l[0]!).threshold) ((l[0]!).many) coins).2)]∧BL Enc.share wT (BT++O) xT0 ((BB (List.replicate (((l[0]!).data).length) (0:UInt8)) ((l[0]!).epoch) ((l[0]!).threshold) ((l[0]!).many) coins).1)) B v w→Mv B w B2 w2→(fun (BT:List Nat) (vT:Value) (wT:World)=>∃ (xT0:Value),vT = .tuple #[xT0,vI ((BB (List.replicate (((l[0]!).data).length) (0:UInt8)) ((l[0]!).epoch) ((l[0]!).threshold) ((l[0]!).many) coins).2)]∧BL Enc.share wT (BT++O) xT0 ((BB (List.replicate (((l[0]!).data).length) (0:UInt8)) ((l[0]!).epoch) ((l[0]!).threshold) ((l[0]!).many) coins).1)) B2 v w2 from fun _ _ _ _ _ ⟨y0,e,h0⟩ m=>⟨y0,e,h0.mv m⟩),(show ∀ B B2 v w w2,(fun (BT:List Nat) (vT:Value) (wT:World)=>∃ (xT0:Value),vT = .tuple #[xT0,vI ((BB (List.replicate (((l[0]!).data).length) (0:UInt8)) ((l[0]!).epoch) ((l[0]!).threshold) ((l[0]!).many) coins).2)]∧BL Enc.share wT (BT++O) xT0 ((BB (List.replicate (((l[0]!).data).length) (0:UInt8)) ((l[0]!).epoch) ((l[0]!).threshold) ((l[0]!).many) coins).1)) B v w→Mv B w B2 w2→(fun (BT:List Nat) (vT:Value) (wT:World)=>∃ (xT0:Value),vT = .tuple #[xT0,vI ((BB (List.replicate (((l[0]!).data).length) (0:UInt8)) ((l[0]!).epoch) ((l[0]!).threshold) ((l[0]!).many) coins).2)]∧BL Enc.share wT (BT++O) xT0 ((BB (List.replicate (((l[0]!).data).length) (0:UInt8)) ((l[0]!).epoch) ((l[0]!).threshold) ((l[0]!).many) coins).1)) B2 v w2 from fun _ _ _ _ _ ⟨y0,e,h0⟩ m=>⟨y0,e,h0.mv m⟩),(show ∀ B B2 v w w2,(fun (BT:List Nat) (vT:Value) (wT:World)=>BL Enc.share wT (BT++O) vT ((BB (List.replicate (((l[0]!).data).length) (0:UInt8)) ((l[0]!).epoch) ((l[0]!).threshold) ((l[0]!).many) coins).1)) B v w→Mv B w B2 w2→(fun (BT:List Nat) (vT:Value) (wT:World)=>BL Enc.share wT (BT++O) vT ((BB (List.replicate (((l[0]!).data).length) (0:UInt8)) ((l[0]!).epoch) ((l[0]!).threshold) ((l[0]!).many) coins).1)) B2 v w2 from fun _ _ _ _ _ h m=>h.mv m),fun _ _ _ _ _ h=>h,TBx.st,trivial⟩ ⟨?_,?_,?_,?_,?_,?_,?_,?_,?_,?_,?_,?_,?_,?_,?_,?_,trivial⟩ ?_ ?_)))
 ·intro F1 w1 B1_ Bs_ k1 hs_ hl_ hr_ hsep_ hf hd
  obtain ⟨F2,rfl⟩:=DG (F:=F1) [(7,vP (some ⟨a0,0,none⟩))] ⟨hf 7 kR,trivial⟩
  exact DC rfl ((AH 4 HT rfl (⟨[],(Keep.refl _ _),VT,rfl⟩)))
 ·intro F1 w1 B1_ Bs_ k1 hs_ hl_ hr_ hsep_ hf hd
  have k0:=(Keep.drew [] a3).trans k1
  have a2:=a2.keep k0 (by simp)
  obtain ⟨F2,rfl⟩:=DG (F:=F1) [(26,vP (some ⟨a0,4,none⟩))] ⟨hd 0 26 kR kR,trivial⟩
  exact DC rfl ((AK U23_ rfl (e2) rfl a2 rfl (⟨[],(Keep.refl _ _),VT,a4⟩)))
 ·intro F1 w1 B1_ Bs_ k1 hs_ hl_ hr_ hsep_ hf hd
  obtain ⟨n2,n3,f6⟩:∃ v,F1 27=v∧BL Enc.u8 a3 ((a0 :: [])++O) v ((l[0]!).data):=⟨_,rfl,hd 1 27 kR kR⟩
  have:=f6.len_le
  obtain ⟨F2,rfl⟩:=DG (F:=F1) [(27,n2)] ⟨n3,trivial⟩
  exact DC rfl ((o_lenRU U23_ rfl f6 (⟨[],(Keep.refl _ _),VT,rfl⟩)))
 ·intro F1 w1 B1_ Bs_ k1 hs_ hl_ hr_ hsep_ hf hd
  have k0:=(Keep.drew [] a3).trans k1
  have s1:=b2.adoptL k0 hl_
  obtain ⟨F2,rfl⟩:=DG (F:=F1) [(28,vI (((l[0]!).data).length:Int))] ⟨hd 2 28 kR kR,trivial⟩
  refine DC rfl ((o_makeR (E:=Enc.u8) U23_ i_5 [vB (0:UInt8)] rfl rfl (by decide) (0:UInt8) (fun _ _=>rfl) .i64 .i64 (((l[0]!).data).length:Int) (((l[0]!).data).length:Int) (((l[0]!).data).length) (((l[0]!).data).length) rfl rfl rfl rfl oM oM (by simp only [maxLen];omega) s1 fun u1 u2 u3 u4 n4 j6=>(?_)))
  exact ⟨[],n4,VT,j6⟩
 ·intro F1 w1 B1_ Bs_ k1 hs_ hl_ hr_ hsep_ hf hd
  obtain ⟨F2,rfl⟩:=DG (F:=F1) [(7,vP (some ⟨a0,0,none⟩))] ⟨hf 7 kR,trivial⟩
  exact DC rfl ((AH 0 KC rfl (⟨[],(Keep.refl _ _),VT,rfl⟩)))
 ·intro F1 w1 B1_ Bs_ k1 hs_ hl_ hr_ hsep_ hf hd
  have k0:=(Keep.drew [] a3).trans k1
  have a2:=a2.keep k0 (by simp)
  obtain ⟨F2,rfl⟩:=DG (F:=F1) [(30,vP (some ⟨a0,0,none⟩))] ⟨hd 4 30 kR kR,trivial⟩
  exact DC rfl ((AK U3_ rfl (vI ((l[0]!).epoch)) rfl a2 rfl (⟨[],(Keep.refl _ _),VT,rfl⟩)))
 ·intro F1 w1 B1_ Bs_ k1 hs_ hl_ hr_ hsep_ hf hd
  obtain ⟨F2,rfl⟩:=DG (F:=F1) [(7,vP (some ⟨a0,0,none⟩))] ⟨hf 7 kR,trivial⟩
  exact DC rfl ((AH 2 KW rfl (⟨[],(Keep.refl _ _),VT,rfl⟩)))
 ·intro F1 w1 B1_ Bs_ k1 hs_ hl_ hr_ hsep_ hf hd
  have k0:=(Keep.drew [] a3).trans k1
  have a2:=a2.keep k0 (by simp)
  obtain ⟨F2,rfl⟩:=DG (F:=F1) [(32,vP (some ⟨a0,2,none⟩))] ⟨hd 6 32 kR kR,trivial⟩
  exact DC rfl ((AK U3_ rfl (vI ((l[0]!).threshold)) rfl a2 rfl (⟨[],(Keep.refl _ _),VT,rfl⟩)))
 ·intro F1 w1 B1_ Bs_ k1 hs_ hl_ hr_ hsep_ hf hd
  obtain ⟨F2,rfl⟩:=DG (F:=F1) [(7,vP (some ⟨a0,0,none⟩))] ⟨hf 7 kR,trivial⟩
  exact DC rfl ((AH 3 KT rfl (⟨[],(Keep.refl _ _),VT,rfl⟩)))
 ·intro F1 w1 B1_ Bs_ k1 hs_ hl_ hr_ hsep_ hf hd
  have k0:=(Keep.drew [] a3).trans k1
  have a2:=a2.keep k0 (by simp)
  obtain ⟨F2,rfl⟩:=DG (F:=F1) [(34,vP (some ⟨a0,3,none⟩))] ⟨hd 8 34 kR kR,trivial⟩
  exact DC rfl ((AK U3_ rfl (vI ((l[0]!).many)) rfl a2 rfl (⟨[],(Keep.refl _ _),VT,rfl⟩)))
 ·intro F1 w1 B1_ Bs_ k1 hs_ hl_ hr_ hsep_ hf hd
  obtain ⟨F2,rfl⟩:=DG (F:=F1) [(1,coins_v)] ⟨hf 1 kR,trivial⟩
  exact DC rfl ((AD (coins_v) rfl (⟨[],(Keep.refl _ _),VT,a5⟩)))
 ·intro F1 w1 B1_ Bs_ k1 hs_ hl_ hr_ hsep_ hf hd
  have k0:=(Keep.drew [] a3).trans k1
  have s1:=b2.adoptL k0 hl_
  have m1:Mv (a0 :: []) a3 B1_ w1:=Mv.adoptL k0 hl_
  obtain ⟨e4,n5,b7⟩:∃ v,F1 29=v∧BL Enc.u8 w1 ((Bs_ 1)++O) v (List.replicate (((l[0]!).data).length) (0:UInt8)):=⟨_,rfl,hd 3 29 kR kR⟩
  have:=b7.len_le
  have b7:=b7.mv (Mv.at_ (hr_ 1 kR))
  obtain ⟨e5,n6,b8⟩:∃ v,F1 36=v∧BL Enc.u8 a3 ((a0 :: [])++O) v (coins):=⟨_,rfl,hd 10 36 kR kR⟩
  have:=b8.len_le
  have b8:=b8.mv m1
  obtain ⟨F2,rfl⟩:=DG (F:=F1) [(29,e4),(31,vI ((l[0]!).epoch)),(33,vI ((l[0]!).threshold)),(35,vI ((l[0]!).many)),(36,e5)] ⟨n5,hd 5 31 kR kR,hd 7 33 kR kR,hd 9 35 kR kR,n6,trivial⟩
  refine DC rfl ((BF (vs:=[e4,vI ((l[0]!).epoch),vI ((l[0]!).threshold),vI ((l[0]!).many),e5]) QC (TD (O:=B1_++O) e4 (List.replicate (((l[0]!).data).length) (0:UInt8)) ((l[0]!).epoch) ((l[0]!).threshold) ((l[0]!).many) e5 coins w1 b7 b8 s1.lt) rfl s1 fun u5 u6 u7 u9 n7 n9=>(?_)))
  obtain ⟨o0,rfl,f7⟩:=n9
  have:=f7.len_le
  exact ⟨[],n7,VT,⟨o0,rfl,f7⟩⟩
 ·intro F1 w1 B1_ Bs_ k1 hs_ hl_ hr_ hsep_ hf hd
  obtain ⟨e6,o1,b9⟩:(fun (vT:Value) (wT:World)=>∃ (xT0:Value),vT = .tuple #[xT0,vI ((BB (List.replicate (((l[0]!).data).length) (0:UInt8)) ((l[0]!).epoch) ((l[0]!).threshold) ((l[0]!).many) coins).2)]∧BL Enc.share wT ((Bs_ 1)++O) xT0 ((BB (List.replicate (((l[0]!).data).length) (0:UInt8)) ((l[0]!).epoch) ((l[0]!).threshold) ((l[0]!).many) coins).1)) (F1 37) w1:=hd 11 37 kR kR
  have:=b9.len_le
  have b9:=b9.mv (Mv.at_ (hr_ 1 kR))
  obtain ⟨F2,rfl⟩:=DG (F:=F1) [(37,vT #[e6,vI ((BB (List.replicate (((l[0]!).data).length) (0:UInt8)) ((l[0]!).epoch) ((l[0]!).threshold) ((l[0]!).many) coins).2)])] ⟨o1,trivial⟩
  exact DC rfl ((AD (vT #[e6,vI ((BB (List.replicate (((l[0]!).data).length) (0:UInt8)) ((l[0]!).epoch) ((l[0]!).threshold) ((l[0]!).many) coins).2)]) rfl (⟨[],(Keep.refl _ _),VT,⟨e6,rfl,b9⟩⟩)))
 ·intro F1 w1 B1_ Bs_ k1 hs_ hl_ hr_ hsep_ hf hd
  obtain ⟨h7,o2,c0⟩:(fun (vT:Value) (wT:World)=>∃ (xT0:Value),vT = .tuple #[xT0,vI ((BB (List.replicate (((l[0]!).data).length) (0:UInt8)) ((l[0]!).epoch) ((l[0]!).threshold) ((l[0]!).many) coins).2)]∧BL Enc.share wT ((Bs_ 1)++O) xT0 ((BB (List.replicate (((l[0]!).data).length) (0:UInt8)) ((l[0]!).epoch) ((l[0]!).threshold) ((l[0]!).many) coins).1)) (F1 25) w1:=hd 12 25 kR kR
  have:=c0.len_le
  have c0:=c0.mv (Mv.at_ (hr_ 1 kR))
  obtain ⟨F2,rfl⟩:=DG (F:=F1) [(25,vT #[h7,vI ((BB (List.replicate (((l[0]!).data).length) (0:UInt8)) ((l[0]!).epoch) ((l[0]!).threshold) ((l[0]!).many) coins).2)])] ⟨o2,trivial⟩
  exact DC rfl ((AL (h7) rfl rfl (⟨[],(Keep.refl _ _),VT,c0⟩)))
 ·intro F1 w1 B1_ Bs_ k1 hs_ hl_ hr_ hsep_ hf hd
  obtain ⟨o3,o4,j7⟩:(fun (vT:Value) (wT:World)=>∃ (xT0:Value),vT = .tuple #[xT0,vI ((BB (List.replicate (((l[0]!).data).length) (0:UInt8)) ((l[0]!).epoch) ((l[0]!).threshold) ((l[0]!).many) coins).2)]∧BL Enc.share wT ((Bs_ 1)++O) xT0 ((BB (List.replicate (((l[0]!).data).length) (0:UInt8)) ((l[0]!).epoch) ((l[0]!).threshold) ((l[0]!).many) coins).1)) (F1 25) w1:=hd 12 25 kR kR
  have:=j7.len_le
  obtain ⟨F2,rfl⟩:=DG (F:=F1) [(25,vT #[o3,vI ((BB (List.replicate (((l[0]!).data).length) (0:UInt8)) ((l[0]!).epoch) ((l[0]!).threshold) ((l[0]!).many) coins).2)])] ⟨o4,trivial⟩
  exact DC rfl ((AL (vI ((BB (List.replicate (((l[0]!).data).length) (0:UInt8)) ((l[0]!).epoch) ((l[0]!).threshold) ((l[0]!).many) coins).2)) rfl rfl (⟨[],(Keep.refl _ _),VT,rfl⟩)))
 ·intro F1 w1 B1_ Bs_ k1 hs_ hl_ hr_ hsep_ hf hd
  have k0:=(Keep.drew [] a3).trans k1
  have s1:=b2.adoptL k0 hl_
  obtain ⟨F2,rfl⟩:=DG (F:=F1) [] trivial
  refine DC rfl ((CR [nS] z_32 rfl s1 fun o5 v0 v1 v2 v3 o6 j8=>(?_)))
  have j9:a3.heap.size≤o5:=by have:=k0.size;omega
  exact ⟨[],o6,VT,⟨_,rfl,j9,(by intro h;have:=lt_of s1 _ h;omega),j8⟩⟩
 ·intro e7 c1 b3 e8 d1 k5 d9 c2 b4
  obtain ⟨a6,o7,f8,k6,f9⟩:(TBx a3 32 [nS]) (b3 2) (e7 8) c1:=c2 15 8 kR (by decide) kR kR
  have g0:=f9.lt
  have k7:∀ x∈(a0 :: []),x∈(a0 :: [])∨(a3.heap.size≤x∧x<c1.heap.size):=fun x hx=>.inl hx
  have j0:∀ x∈(a0 :: []),x∈(a0 :: []):=fun x hx=>hx
  have k8:∀ x∈(a0 :: []),x∈b3 1:=fun x hx=>d1 1 x hx
  have s4:∀ x∈(a0 :: []),x∈b3 2:=fun x hx=>d1 2 x hx
  have g1:∀ x∈(a6 :: (a0 :: [])),x∈(a0 :: [])∨(a3.heap.size≤x∧x<c1.heap.size):=fun x hx=>by rcases List.mem_cons.1 hx with rfl|hx;exact .inr ⟨f8,g0⟩;exact k7 x hx
  have r5:∀ x∈(a0 :: []),x∈(a6 :: (a0 :: [])):=fun x hx=>List.mem_cons_of_mem _ (j0 x hx)
  have k9:∀ x∈(a6 :: (a0 :: [])),x∈b3 1:=fun x hx=>by rcases List.mem_cons.1 hx with rfl|hx;exact d9 2 1 _ (by decide) f8 g0 k6;exact k8 x hx
  have o8:=b2.adoptL e8 g1
  have h8:Mv (a0 :: []) a3 (a6 :: (a0 :: [])) c1:=Mv.adoptL e8 g1
  have g2:EY a0 a6:=by show a0≠a6;have:=a2.lt;omega
  obtain ⟨h9,o9,a8⟩:∃ v,e7 38=v∧BL Enc.share c1 ((b3 1)++O) v ((BB (List.replicate (((l[0]!).data).length) (0:UInt8)) ((l[0]!).epoch) ((l[0]!).threshold) ((l[0]!).many) coins).1):=⟨_,rfl,c2 13 38 kR (by decide) kR kR⟩
  have:=a8.len_le
  have a8:=a8.mv (Mv.at_ k9)
  have a1:=a1.mv h8
  have a4:=a4.mv h8
  have a2:=a2.keep e8 (by simp)
  obtain ⟨F2,rfl⟩:=DG (F:=e7) [(2,vP (some b0)),(5,vI 0),(7,vP (some ⟨a0,0,none⟩)),(48,undef),(8,vP (some ⟨a6,0,none⟩)),(38,h9),(39,vI ((BB (List.replicate (((l[0]!).data).length) (0:UInt8)) ((l[0]!).epoch) ((l[0]!).threshold) ((l[0]!).many) coins).2))] ⟨b4 2 kR,b4 5 kR,b4 7 kR,b4 48 kR,o7,o9,c2 14 39 kR (by decide) kR kR,trivial⟩
  clear c2 b4 d1 k5 d9
  refine BZ (BY (h9) rfl rfl a8.oneCell s_32 (by repeat (constructor)) f9 oT o8 fun p0 i0 e9 p1 d2=>(?_))
  have a1:=a1.mv e9
  have a8:=a8.mv e9
  have a4:=a4.mv e9
  have a2:=a2.keep p1 (AS g2)
  refine AA (AE (vI ((BB (List.replicate (((l[0]!).data).length) (0:UInt8)) ((l[0]!).epoch) ((l[0]!).threshold) ((l[0]!).many) coins).2)) rfl (AG (AC (AF (AF (AB kR (AA (AD (vI ((BB (List.replicate (((l[0]!).data).length) (0:UInt8)) ((l[0]!).epoch) ((l[0]!).threshold) ((l[0]!).many) coins).2)) rfl (AA (DQ .i64 ((BB (List.replicate (((l[0]!).data).length) (0:UInt8)) ((l[0]!).epoch) ((l[0]!).threshold) ((l[0]!).many) coins).2) (0:Int) rfl rfl (AG (AC (AJ (((BB (List.replicate (((l[0]!).data).length) (0:UInt8)) ((l[0]!).epoch) ((l[0]!).threshold) ((l[0]!).many) coins).2) != (0:Int)) rfl rfl (fun d3=>?_) (fun d3=>?_))))))))))))))
  ·have s5:(BB (List.replicate (((l[0]!).data).length) (0:UInt8)) ((l[0]!).epoch) ((l[0]!).threshold) ((l[0]!).many) coins).2≠(0:Int):=by simpa using d3
   refine AF (AB kR (AA (AD (vI ((BB (List.replicate (((l[0]!).data).length) (0:UInt8)) ((l[0]!).epoch) ((l[0]!).threshold) ((l[0]!).many) coins).2)) rfl (AA (AE (nS) rfl (AA (AE (vI ((BB (List.replicate (((l[0]!).data).length) (0:UInt8)) ((l[0]!).epoch) ((l[0]!).threshold) ((l[0]!).many) coins).2)) rfl (AG (AC (AM (AP (AZ rfl (GE rfl rfl rfl rfl) (?_)))))))))))))
   have e:(BR l coins)=([],(BB (List.replicate (((l[0]!).data).length) (0:UInt8)) ((l[0]!).epoch) ((l[0]!).threshold) ((l[0]!).many) coins).2):=by exact JX (l:=l) (coins:=coins) (by unfold EX IE;((repeat ((refine (if_neg ?_).trans ?_;omega)));rfl)) aS
   exact ⟨_,rfl,i0.keep,by rw [e];exact ⟨.slice none 0 0,rfl,BL.nil _ _ _⟩⟩
  have l0:(BB (List.replicate (((l[0]!).data).length) (0:UInt8)) ((l[0]!).epoch) ((l[0]!).threshold) ((l[0]!).many) coins).2=(0:Int):=by simpa using d3
  have hz2:(IE l[0]! coins).2=0:=l0
  have hzl:=ZH hz2
  refine AT (AC (AF (AB kR (AA (CI U32_ rfl rfl a1 fun v4 g3=>(?_))))))
  have:=g3.len_le
  refine AA (CK U32_ rfl g3 (?_))
  obtain ⟨p2,p3,i1,d4,l1⟩:=a2.publish (E:=Enc.share) (u:=(l[0]!)) ⟨_,rfl,a4⟩ i0 (by repeat (constructor))
  have r0:a6∈p2:=l1 a6 (by repeat (constructor)) (Ne.symm g2)
  have a1:=a1.mv i1
  have a8:=a8.mv i1
  have d2:=d2.keep (Keep.refl [] _) (by simp)
  obtain ⟨p4,i2,i3,l2,s6⟩:=d2.publish (E:=(Enc.slice Enc.share)) (u:=(BB (List.replicate (((l[0]!).data).length) (0:UInt8)) ((l[0]!).epoch) ((l[0]!).threshold) ((l[0]!).many) coins).1) ⟨_,rfl,a8⟩ p3 (by repeat (assumption))
  have a1:=a1.mv i3
  have d4:=d4.mv i3
  refine AA (DF (first:=[]) (captured:=[.tmp 2, .tmp 7, .tmp 8]) [] [vP (some b0),vP (some ⟨a0,0,none⟩),vP (some ⟨a6,0,none⟩)] rfl rfl (AA (BF (vs:=[vI (l.length:Int),vN (.func 55) #[] #[vP (some b0),vP (some ⟨a0,0,none⟩),vP (some ⟨a6,0,none⟩)]]) XW (RQ (O:=p4++O) (l.length:Int) 55 [vP (some b0),vP (some ⟨a0,0,none⟩),vP (some ⟨a6,0,none⟩)] (fun i_=>GL l (l[0]!) ((BB (List.replicate (((l[0]!).data).length) (0:UInt8)) ((l[0]!).epoch) ((l[0]!).threshold) ((l[0]!).many) coins).1) i_) p0 enter_55 (fun w'_ O'_ kk_ hs_ hl_ i_  hc_=>WT (O:=O'_) i_ b0 l (⟨a0,0,none⟩) (l[0]!) (⟨a6,0,none⟩) ((BB (List.replicate (((l[0]!).data).length) (0:UInt8)) ((l[0]!).epoch) ((l[0]!).threshold) ((l[0]!).many) coins).1) w'_ (a1.on hs_ kk_) (d4.on hs_ kk_) (l2.on hs_ kk_) oM (show _<(IE l[0]! coins).1.length from by omega) (hv.da _ oM) (XJ hz2 oM) (by have:=hv.ep i_ oM;have:=hv.ep0;omega) (by have:=hv.ep i_ oM;have:=hv.ep1;omega) oM hl_) oM i2.lt) rfl i2 fun c4 v5 p5 v6 v7 p6=>(?_))))
  obtain ⟨_,rfl,g4⟩:=p6
  have:=g4.len_le
  refine AA (AE (c4) rfl (AG (AC (AF (AB kR (AA (AD (c4) rfl (AA (AE (c4) rfl (AA (AE (vI 0) rfl (AG (AC (AM (AZ rfl (GE rfl rfl rfl rfl) (?_))))))))))))))))
  have e:(BR l coins)=((List.range ((l.length:Int)).toNat).map (fun i_=>GL l (l[0]!) ((BB (List.replicate (((l[0]!).data).length) (0:UInt8)) ((l[0]!).epoch) ((l[0]!).threshold) ((l[0]!).many) coins).1) i_),(0:Int)):=by exact VA (l:=l) (coins:=coins) (by unfold EX;((repeat ((refine (if_neg ?_).trans ?_;omega)));exact hz2)) rfl
  exact ⟨_,rfl,p5.keep,by rw [e];exact ⟨c4,rfl,g4.out⟩⟩
 intro cx_ hcx_
 match cx_,hcx_ with
 | 0,_=>
  intro c5 b6 b1 f0 d5 l3 e0 c3 b5
  obtain ⟨a7,p7,g5,l4,g6⟩:(TBx a3 32 [nS]) (b1 2) (c5 8) b6:=c3 15 8 kR (by decide) kR kR
  have g7:=g6.lt
  have l5:∀ x∈(a0 :: []),x∈(a0 :: [])∨(a3.heap.size≤x∧x<b6.heap.size):=fun x hx=>.inl hx
  have j1:∀ x∈(a0 :: []),x∈(a0 :: []):=fun x hx=>hx
  have l6:∀ x∈(a0 :: []),x∈b1 1:=fun x hx=>d5 1 x hx
  have s7:∀ x∈(a0 :: []),x∈b1 2:=fun x hx=>d5 2 x hx
  have g8:∀ x∈(a7 :: (a0 :: [])),x∈(a0 :: [])∨(a3.heap.size≤x∧x<b6.heap.size):=fun x hx=>by rcases List.mem_cons.1 hx with rfl|hx;exact .inr ⟨g5,g7⟩;exact l5 x hx
  have r6:∀ x∈(a0 :: []),x∈(a7 :: (a0 :: [])):=fun x hx=>List.mem_cons_of_mem _ (j1 x hx)
  have l7:∀ x∈(a7 :: (a0 :: [])),x∈b1 1:=fun x hx=>by rcases List.mem_cons.1 hx with rfl|hx;exact e0 2 1 _ (by decide) g5 g7 l4;exact l6 x hx
  have p8:=b2.adoptL f0 g8
  have i4:Mv (a0 :: []) a3 (a7 :: (a0 :: [])) b6:=Mv.adoptL f0 g8
  have g9:EY a0 a7:=by show a0≠a7;have:=a2.lt;omega
  obtain ⟨p9,q0,l8⟩:(fun (vT:Value) (wT:World)=>∃ (xT0:Value),vT = .tuple #[xT0,vI ((BB (List.replicate (((l[0]!).data).length) (0:UInt8)) ((l[0]!).epoch) ((l[0]!).threshold) ((l[0]!).many) coins).2)]∧BL Enc.share wT ((b1 1)++O) xT0 ((BB (List.replicate (((l[0]!).data).length) (0:UInt8)) ((l[0]!).epoch) ((l[0]!).threshold) ((l[0]!).many) coins).1)) (c5 25) b6:=c3 12 25 kR (by decide) kR kR
  have:=l8.len_le
  obtain ⟨i5,q1,a9⟩:∃ v,c5 38=v∧BL Enc.share b6 ((b1 1)++O) v ((BB (List.replicate (((l[0]!).data).length) (0:UInt8)) ((l[0]!).epoch) ((l[0]!).threshold) ((l[0]!).many) coins).1):=⟨_,rfl,c3 13 38 kR (by decide) kR kR⟩
  have:=a9.len_le
  have a9:=a9.mv (Mv.at_ l7)
  have a1:=a1.mv i4
  have a4:=a4.mv i4
  have a2:=a2.keep f0 (by simp)
  obtain ⟨F2,rfl⟩:=DG (F:=c5) [(2,vP (some b0)),(5,vI 0),(7,vP (some ⟨a0,0,none⟩)),(48,undef),(8,vP (some ⟨a7,0,none⟩)),(25,vT #[p9,vI ((BB (List.replicate (((l[0]!).data).length) (0:UInt8)) ((l[0]!).epoch) ((l[0]!).threshold) ((l[0]!).many) coins).2)]),(38,i5)] ⟨b5 2 kR,b5 5 kR,b5 7 kR,b5 48 kR,p7,q0,q1,trivial⟩
  clear c3 b5 d5 l3 e0
  refine BZ (BY (i5) rfl rfl a9.oneCell s_32 (by repeat (constructor)) g6 oT p8 fun q2 i6 f1 q3 d6=>(?_))
  have a1:=a1.mv f1
  have a9:=a9.mv f1
  have a4:=a4.mv f1
  have a2:=a2.keep q3 (AS g9)
  refine AA (AL (vI ((BB (List.replicate (((l[0]!).data).length) (0:UInt8)) ((l[0]!).epoch) ((l[0]!).threshold) ((l[0]!).many) coins).2)) rfl rfl (AA (AE (vI ((BB (List.replicate (((l[0]!).data).length) (0:UInt8)) ((l[0]!).epoch) ((l[0]!).threshold) ((l[0]!).many) coins).2)) rfl (AG (AC (AF (AF (AB kR (AA (AD (vI ((BB (List.replicate (((l[0]!).data).length) (0:UInt8)) ((l[0]!).epoch) ((l[0]!).threshold) ((l[0]!).many) coins).2)) rfl (AA (DQ .i64 ((BB (List.replicate (((l[0]!).data).length) (0:UInt8)) ((l[0]!).epoch) ((l[0]!).threshold) ((l[0]!).many) coins).2) (0:Int) rfl rfl (AG (AC (AJ (((BB (List.replicate (((l[0]!).data).length) (0:UInt8)) ((l[0]!).epoch) ((l[0]!).threshold) ((l[0]!).many) coins).2) != (0:Int)) rfl rfl (fun d7=>?_) (fun d7=>?_))))))))))))))))
  ·have s8:(BB (List.replicate (((l[0]!).data).length) (0:UInt8)) ((l[0]!).epoch) ((l[0]!).threshold) ((l[0]!).many) coins).2≠(0:Int):=by simpa using d7
   refine AF (AB kR (AA (AD (vI ((BB (List.replicate (((l[0]!).data).length) (0:UInt8)) ((l[0]!).epoch) ((l[0]!).threshold) ((l[0]!).many) coins).2)) rfl (AA (AE (nS) rfl (AA (AE (vI ((BB (List.replicate (((l[0]!).data).length) (0:UInt8)) ((l[0]!).epoch) ((l[0]!).threshold) ((l[0]!).many) coins).2)) rfl (AG (AC (AM (AP (AZ rfl (GE rfl rfl rfl rfl) (?_)))))))))))))
   have e:(BR l coins)=([],(BB (List.replicate (((l[0]!).data).length) (0:UInt8)) ((l[0]!).epoch) ((l[0]!).threshold) ((l[0]!).many) coins).2):=by exact JX (l:=l) (coins:=coins) (by unfold EX IE;((repeat ((refine (if_neg ?_).trans ?_;omega)));rfl)) aS
   exact ⟨_,rfl,i6.keep,by rw [e];exact ⟨.slice none 0 0,rfl,BL.nil _ _ _⟩⟩
  have l9:(BB (List.replicate (((l[0]!).data).length) (0:UInt8)) ((l[0]!).epoch) ((l[0]!).threshold) ((l[0]!).many) coins).2=(0:Int):=by simpa using d7
  have hz2:(IE l[0]! coins).2=0:=l9
  have hzl:=ZH hz2
  refine AT (AC (AF (AB kR (AA (CI U32_ rfl rfl a1 fun v8 h1=>(?_))))))
  have:=h1.len_le
  refine AA (CK U32_ rfl h1 (?_))
  obtain ⟨q4,q5,i7,d8,m0⟩:=a2.publish (E:=Enc.share) (u:=(l[0]!)) ⟨_,rfl,a4⟩ i6 (by repeat (constructor))
  have r4:a7∈q4:=m0 a7 (by repeat (constructor)) (Ne.symm g9)
  have a1:=a1.mv i7
  have a9:=a9.mv i7
  have d6:=d6.keep (Keep.refl [] _) (by simp)
  obtain ⟨q6,i8,i9,m2,s9⟩:=d6.publish (E:=(Enc.slice Enc.share)) (u:=(BB (List.replicate (((l[0]!).data).length) (0:UInt8)) ((l[0]!).epoch) ((l[0]!).threshold) ((l[0]!).many) coins).1) ⟨_,rfl,a9⟩ q5 (by repeat (assumption))
  have a1:=a1.mv i9
  have d8:=d8.mv i9
  refine AA (DF (first:=[]) (captured:=[.tmp 2, .tmp 7, .tmp 8]) [] [vP (some b0),vP (some ⟨a0,0,none⟩),vP (some ⟨a7,0,none⟩)] rfl rfl (AA (BF (vs:=[vI (l.length:Int),vN (.func 55) #[] #[vP (some b0),vP (some ⟨a0,0,none⟩),vP (some ⟨a7,0,none⟩)]]) XW (RQ (O:=q6++O) (l.length:Int) 55 [vP (some b0),vP (some ⟨a0,0,none⟩),vP (some ⟨a7,0,none⟩)] (fun i_=>GL l (l[0]!) ((BB (List.replicate (((l[0]!).data).length) (0:UInt8)) ((l[0]!).epoch) ((l[0]!).threshold) ((l[0]!).many) coins).1) i_) q2 enter_55 (fun w'_ O'_ kk_ hs_ hl_ i_  hc_=>WT (O:=O'_) i_ b0 l (⟨a0,0,none⟩) (l[0]!) (⟨a7,0,none⟩) ((BB (List.replicate (((l[0]!).data).length) (0:UInt8)) ((l[0]!).epoch) ((l[0]!).threshold) ((l[0]!).many) coins).1) w'_ (a1.on hs_ kk_) (d8.on hs_ kk_) (m2.on hs_ kk_) oM (show _<(IE l[0]! coins).1.length from by omega) (hv.da _ oM) (XJ hz2 oM) (by have:=hv.ep i_ oM;have:=hv.ep0;omega) (by have:=hv.ep i_ oM;have:=hv.ep1;omega) oM hl_) oM i8.lt) rfl i8 fun c6 v9 q7 w0 w3 q8=>(?_))))
  obtain ⟨_,rfl,h2⟩:=q8
  have:=h2.len_le
  refine AA (AE (c6) rfl (AG (AC (AF (AB kR (AA (AD (c6) rfl (AA (AE (c6) rfl (AA (AE (vI 0) rfl (AG (AC (AM (AZ rfl (GE rfl rfl rfl rfl) (?_))))))))))))))))
  have e:(BR l coins)=((List.range ((l.length:Int)).toNat).map (fun i_=>GL l (l[0]!) ((BB (List.replicate (((l[0]!).data).length) (0:UInt8)) ((l[0]!).epoch) ((l[0]!).threshold) ((l[0]!).many) coins).1) i_),(0:Int)):=by exact VA (l:=l) (coins:=coins) (by unfold EX;((repeat ((refine (if_neg ?_).trans ?_;omega)));exact hz2)) rfl
  exact ⟨_,rfl,q7.keep,by rw [e];exact ⟨c6,rfl,h2.out⟩⟩
open Go.Fw
def selB (mask:UInt8) (i:Nat):Bool:=decide (i<8) && (mask >>> UInt8.ofNat i &&& 1 == 1)
def LV (mask:UInt8) (n:Nat):List Nat:=(List.range n).filter (selB mask)
def AI (l:List Share) (mask:UInt8) (n:Nat):List Share:=(LV mask n).map fun i=>l[i]!
theorem AAm (mask:UInt8) (n:Nat):LV mask (n+1)=LV mask n++if selB mask n then [n] else []:=by
  unfold LV;rw [List.range_succ,List.filter_append];congr 1
  cases h:selB mask n <;> simp [List.filter,h]
theorem someM_hit {l:List Share} {mask:UInt8} {n:Nat} (h:n<8) (h2:mask >>> UInt8.ofNat n &&& 1=1):AI l mask (n+1)=AI l mask n++[l[n]!]:=by
  unfold AI;rw [AAm,if_pos (by simp [selB,h,h2])];simp
theorem RZ {l:List Share} {mask:UInt8} {n:Nat} (h:¬ (n<8∧mask >>> UInt8.ofNat n &&& 1=1)):AI l mask (n+1)=AI l mask n:=by
  unfold AI;rw [AAm,if_neg (by simp only [selB,Bool.and_eq_true,decide_eq_true_eq,beq_iff_eq];exact h)];simp
theorem selL_lt {mask:UInt8} {n j:Nat} (h:j<(LV mask n).length):(LV mask n)[j]! < n:=by
  rw [getElem!_pos _ j h]
  have:=List.getElem_mem h
  unfold LV at this
  exact List.mem_range.1 (List.mem_filter.1 this).1
theorem selL_inc {mask:UInt8} {n i j:Nat} (hij:i<j) (h:j<(LV mask n).length):(LV mask n)[i]! < (LV mask n)[j]!:=by
  rw [getElem!_pos _ j h,getElem!_pos _ i (by omega)]
  have:(LV mask n).Pairwise (· < ·):=List.Pairwise.filter _ List.pairwise_lt_range
  exact List.pairwise_iff_getElem.1 this i j _ _ hij
theorem KN (l:List Share) (mask:UInt8) (n:Nat):(AI l mask n).length=(LV mask n).length:=by simp [AI]
theorem someM_le (l:List Share) (mask:UInt8) (n:Nat):(AI l mask n).length≤n:=by
  rw [KN];unfold LV;exact Nat.le_trans (List.length_filter_le _ _) (by simp)
theorem HR {l:List Share} {mask:UInt8} {n j:Nat} (h:j<(AI l mask n).length):(AI l mask n)[j]! = l[(LV mask n)[j]!]!:=by
  rw [KN] at h
  unfold AI
  rw [getElem!_pos _ j (by simpa using h),getElem!_pos _ j h];simp
structure Num (ep t m:Int) (n:Nat):Prop where
  t1:1≤t
  tm:t≤m
  m8:m≤8
  n64:n≤64
  ep0:0≤ep
  ep1:ep≤1048576
structure On (P:Nat→List UInt8) (ep t m:Int) (n:Nat) (x:List Share):Prop where
  ep:∀ j,j<x.length→x[j]!.epoch=ep
  th:∀ j,j<x.length→x[j]!.threshold=t
  ma:∀ j,j<x.length→x[j]!.many=m
  da:∀ j,j<x.length→x[j]!.data.length=n
  ix:∀ j,j<x.length→1≤x[j]!.index∧x[j]!.index≤m
  inc:∀ i j,i<j→j<x.length→x[i]!.index<x[j]!.index
  val:∀ j,j<x.length→∀ p,p<n→x[j]!.data[p]! = FU (P p) (II x[j]!.index)
theorem On.good {P:Nat→List UInt8} {ep t m:Int} {n:Nat} {x:List Share} (h:On P ep t m n x) (hn:Num ep t m n) (hx:0<x.length):Good x:=
  ⟨hx,by rw [h.th 0 hx];exact hn.t1,by rw [h.th 0 hx,h.ma 0 hx];exact hn.tm,by rw [h.ma 0 hx];exact hn.m8,by rw [h.da 0 hx];exact hn.n64,
   fun k hk=>by rw [h.th k hk,h.th 0 hx],fun k hk=>by rw [h.ma k hk,h.ma 0 hx],fun k hk=>by rw [h.da k hk,h.da 0 hx],fun k hk=>by rw [h.ma 0 hx];exact h.ix k hk,fun k hk=>h.inc k (k+1) (by omega) hk⟩
theorem On.vd {P:Nat→List UInt8} {ep t m:Int} {n:Nat} {x:List Share} (h:On P ep t m n x) (hn:Num ep t m n) (hx:0<x.length):Vd x:=
  ⟨h.good hn hx,fun k hk=>by rw [h.ep k hk,h.ep 0 hx],by rw [h.ep 0 hx];exact hn.ep0,by rw [h.ep 0 hx];exact hn.ep1⟩
theorem On.some {P:Nat→List UInt8} {ep t m:Int} {n:Nat} {l:List Share} (h:On P ep t m n l) (mask:UInt8):On P ep t m n (AI l mask l.length):=by
  have hs:∀ j,j<(AI l mask l.length).length→(LV mask l.length)[j]! < l.length:=fun j hj=>selL_lt (by rw [KN] at hj;exact hj)
  refine ⟨fun j hj=>?_,fun j hj=>?_,fun j hj=>?_,fun j hj=>?_,fun j hj=>?_,fun i j hij hj=>?_,fun j hj=>?_⟩
  · rw [HR hj];exact h.ep _ (hs j hj)
  · rw [HR hj];exact h.th _ (hs j hj)
  · rw [HR hj];exact h.ma _ (hs j hj)
  · rw [HR hj];exact h.da _ (hs j hj)
  · rw [HR hj];exact h.ix _ (hs j hj)
  · rw [HR hj,HR (by omega)];exact h.inc _ _ (selL_inc hij (by rw [KN] at hj;exact hj)) (hs j hj)
  · rw [HR hj];exact h.val _ (hs j hj)
theorem takeLen {α:Type} {l:List α} {n:Nat} (h:n≤l.length):(l.take n).length=n:=by rw [List.length_take];omega
theorem On.join {P:Nat→List UInt8} {ep t m:Int} {n:Nat} {x:List Share} (h:On P ep t m n x) (hn:Num ep t m n) (hx:t≤(x.length:Int)) (hd:∀ p,p<n→∀ i:Nat,t.toNat≤i→(P p)[i]! = 0) :
    CS x=((List.range n).map fun p=>FU (P p) 0,0):=by
  have ht1:=hn.t1
  have hpos:0<x.length:=by omega
  have hv:=h.vd hn hpos
  refine YD ((EM x).2 hv) (by rw [h.th 0 hpos];exact hx) ?_
  rw [h.th 0 hpos]
  have hl:(x.take t.toNat).length=t.toNat:=takeLen (by omega)
  unfold joinL
  rw [take0 (by omega),h.da 0 hpos]
  apply List.map_congr_left
  intro p hp
  have hp:p<n:=by simpa using hp
  have hm8:=hn.m8;have htm:=hn.tm
  have hxg:∀ i,i<t.toNat→(PE (x.take t.toNat))[i]! = II x[i]!.index:=fun i hi=>by
    unfold PE;rw [GB _ _ _ (by rw [hl];exact hi),takeS hi]
  have hyg:∀ i,i<t.toNat→(IG (x.take t.toNat) p)[i]! = x[i]!.data[p]!:=fun i hi=>by
    unfold IG;rw [GB _ _ _ (by rw [hl];exact hi),takeS hi]
  have hnd:(PE (x.take t.toNat)).Nodup:=by
    rw [NZ]
    intro i j hij hj he
    rw [JY,hl] at hj
    rw [hxg i (by omega),hxg j hj] at he
    have h1:=h.ix i (by omega);have h2:=h.ix j (by omega)
    have:=u8of_inj (by omega) (by omega) (by omega) (by omega) he
    have:=h.inc i j hij (by omega)
    omega
  have hw:GQ (PE (x.take t.toNat)) (IG (x.take t.toNat) p)=false:=(UQ _ _).2 ⟨by rw [JY,QD],hnd⟩
  rw [through_ok _ hw]
  refine MA _ _ ((NQ hw).2.1.unique hnd (fun i hi=>hd p hp i (by rw [JY,hl] at hi;exact hi)) fun i hi=>?_) 0
  rw [JY,hl] at hi
  rw [hxg i hi,hyg i hi,h.val i (by omega) p hp]
theorem On.few {P:Nat→List UInt8} {ep t m:Int} {n:Nat} {x:List Share} (h:On P ep t m n x) (hn:Num ep t m n) (hpos:0<x.length) (hx:(x.length:Int)<t):CS x=([],80):=
  TQ ((EM x).2 (h.vd hn hpos)) (by rw [h.th 0 hpos];exact hx) rfl
theorem AAc {secret:List UInt8} {ep t m:Int} {coins:List UInt8} (h:EJ secret ep t m coins=0):Num ep t m secret.length:=by
  have:=(HC _ _ _ _ _).1 h
  exact ⟨by omega,by omega,by omega,by omega,by omega,by omega⟩
def pol (secret coins:List UInt8) (t:Int) (p:Nat):List UInt8:=MR secret coins t p
theorem split_on {secret:List UInt8} {ep t m:Int} {coins:List UInt8} (h:EJ secret ep t m coins=0):On (pol secret coins t) ep t m secret.length (GW secret ep t m coins):=by
  have hn:=AAc h
  have hg:∀ j,j<(GW secret ep t m coins).length→(GW secret ep t m coins)[j]! = FN secret (polysM secret coins t) ep t m j:=fun j hj=>KL (by rw [KO] at hj;exact hj)
  refine ⟨fun j hj=>?_,fun j hj=>?_,fun j hj=>?_,fun j hj=>?_,fun j hj=>?_,fun i j hij hj=>?_,fun j hj p hp=>?_⟩
  · rw [hg j hj];rfl
  · rw [hg j hj];rfl
  · rw [hg j hj];rfl
  · rw [hg j hj,JN]
  · rw [hg j hj];rw [KO] at hj;simp only [FN];omega
  · rw [hg j hj,hg i (by omega)];simp only [FN];omega
  · rw [hg j hj];simp only [FN];rw [GB _ _ _ hp,ZE hp];rfl
theorem pol_len {secret:List UInt8} {t:Int} {coins:List UInt8} (ht:1≤t) (hc:(coins.length:Int)=(secret.length:Int)*(t - 1)) {p:Nat} (hp:p<secret.length):(pol secret coins t p).length=t.toNat:=by
  have hb:=polyB (m:=coins.length) hp ht hc
  unfold pol MR
  rw [List.length_cons,List.length_drop,List.length_take,Nat.min_eq_left hb,Nat.add_mul]
  omega
theorem pol_high {secret:List UInt8} {ep t m:Int} {coins:List UInt8} (h:EJ secret ep t m coins=0):∀ p,p<secret.length→∀ i:Nat,t.toNat≤i→(pol secret coins t p)[i]! = 0:=fun p hp i hi=>by
  have:=(HC _ _ _ _ _).1 h
  exact EA (by rw [pol_len (by omega) this.2.2.2.2.2.2 hp];exact hi)
theorem pol_at0 (secret coins:List UInt8) (t:Int) (p:Nat):FU (pol secret coins t p) 0=secret[p]!:=by
  unfold pol MR;rw [GT,KM,UInt8.zero_xor]
theorem range_get (l:List UInt8):((List.range l.length).map fun p=>l[p]!)=l:=by
  apply QK (by simp)
  intro i
  by_cases hi:i<l.length
  · rw [GB _ _ _ hi]
  · rw [EA (by simp;omega),EA (by omega)]
theorem IB {l:List Share} {secret:List UInt8} {m:Nat} (hg:Good l) (h:1+l.length+m≤100):∀ p,(JU l secret m p).length=p*(l.length+m)
  | 0=>by simp [JU]
  | p+1=>by rw [JU,List.length_append,IB hg h p,List.length_drop,exp_len hg h,Nat.add_mul];omega
theorem ZX {l:List Share} {secret:List UInt8} {m:Nat} (hg:Good l) (h:1+l.length+m≤100) {p:Nat}:∀ n,p≤n→(JU l secret m n).take (p*(l.length+m))=JU l secret m p
  | 0,hp=>by
                obtain rfl:p=0:=by omega
                simp [JU]
  | n+1,hp=>by
    by_cases hpn:p=n+1
    · subst hpn;rw [← IB (secret:=secret) hg h (n+1)];exact List.take_length
    · rw [JU,List.take_append_of_le_length (by rw [IB hg h];exact Nat.mul_le_mul_right _ (by omega))]
      exact ZX hg h n (by omega)
theorem exp_pol {l:List Share} {secret:List UInt8} {m:Nat} {t:Int} (hg:Good l) (h:1+l.length+m≤100) (ht:t.toNat=1+l.length+m) {p:Nat} (hp:p<secret.length) :
    pol secret (JU l secret m secret.length) t p=(EH (HP l m) (JK l secret[p]! p m)).1:=by
  have hk:(t - 1).toNat=l.length+m:=by omega
  have hlen:=exp_len hg h secret[p]! p
  have hthr:=(NQ (US hg h secret[p]! p)).2.1
  unfold pol MR
  rw [hk,ZX hg h _ (by omega),JU,List.drop_append_of_le_length (by rw [IB hg h];exact Nat.le_refl _),List.drop_of_length_le (by rw [IB hg h];exact Nat.le_refl _),List.nil_append]
  have h0:=hthr.at_ 0 (by rw [IU];omega)
  rw [show (HP l m)[0]! = 0 from rfl,show (JK l secret[p]! p m)[0]! = secret[p]! from rfl] at h0
  generalize EH (HP l m) (JK l secret[p]! p m)=c at *
  obtain ⟨c,e⟩:=c
  cases c with
  | nil=>simp at hlen;omega
  | cons a c=>
    simp only [GT,KM,UInt8.zero_xor] at h0
    simp [h0]
theorem exp_at {l:List Share} {b:UInt8} {m:Nat} (hg:Good l) (h:1+l.length+m≤100) (p:Nat) {j:Nat} (hj:j<l.length):FU (EH (HP l m) (JK l b p m)).1 (II l[j]!.index)=l[j]!.data[p]!:=by
  have hthr:=(NQ (US hg h b p)).2.1
  have:=hthr.at_ (j+1) (by rw [IU];omega)
  rw [XB (by omega),expY_get,if_neg (by omega),if_pos (by omega)] at this
  unfold expI at this
  rw [if_neg (by omega),if_pos (by omega)] at this
  simp only [Nat.add_sub_cancel] at this
  rw [this]
  unfold IG;rw [GB _ _ _ hj]
theorem AAi {a b:Share} (h1:a.epoch=b.epoch) (h2:a.index=b.index) (h3:a.threshold=b.threshold) (h4:a.many=b.many) (h5:a.data=b.data):a=b:=by
  cases a;cases b;simp_all
def Full (m:Int) (l:List Share):Prop:=l.length=m.toNat∧∀ k,k<l.length→l[k]!.index=(k:Int)+1
theorem XC (secret:List UInt8) (ep t m:Int) (coins:List UInt8):Full m (GW secret ep t m coins):=
  ⟨KO _ _ _ _ _,fun k hk=>by rw [KL (by rw [KO] at hk;exact hk)];rfl⟩
theorem explain_all {P:Nat→List UInt8} {ep t m:Int} {n:Nat} {l:List Share} (h:On P ep t m n l) (hf:Full m l) (hn:Num ep t m n) (mask:UInt8) {other:List UInt8} (ho:other.length=n)
    (hpos:0<(AI l mask l.length).length) (hx:((AI l mask l.length).length:Int)<t) :
    (AQ (AI l mask l.length) other).2=0∧EJ other ep t m (AQ (AI l mask l.length) other).1=0∧
      AI (GW other ep t m (AQ (AI l mask l.length) other).1) mask (GW other ep t m (AQ (AI l mask l.length) other).1).length=AI l mask l.length:=by
  have hon:=h.some mask
  have hv:=hon.vd hn hpos
  have ht1:=hn.t1;have htm:=hn.tm;have hm8:=hn.m8
  rw [QJ (x:=JU (AI l mask l.length) other (t.toNat - 1 - (AI l mask l.length).length) other.length) ((EM _).2 hv) (by rw [hon.th 0 hpos];exact hx) (by rw [hon.da 0 hpos,ho]) (by rw [hon.th 0 hpos])]
  generalize hxe:AI l mask l.length=x at *
  have hmm:1+x.length+(t.toNat - 1 - x.length)≤100:=by omega
  have htt:t.toNat=1+x.length+(t.toNat - 1 - x.length):=by omega
  generalize t.toNat - 1 - x.length=q at *
  have hcl:=IB (secret:=other) hv.toGood hmm other.length
  have hb:EJ other ep t m (JU x other q other.length)=0:=by
    refine (HC _ _ _ _ _).2 ⟨by rw [ho];exact hn.n64,ht1,htm,hm8,hn.ep0,hn.ep1,?_⟩
    rw [hcl,show t - 1=((x.length+q:Nat):Int) by omega,Int.natCast_mul]
  refine ⟨rfl,hb,?_⟩
  have hl1:(GW other ep t m (JU x other q other.length)).length=l.length:=by rw [KO,hf.1]
  rw [hl1]
  have hlx:(AI (GW other ep t m (JU x other q other.length)) mask l.length).length=x.length:=by rw [← hxe,KN,KN]
  refine WU hlx fun j hj=>?_
  rw [hlx] at hj
  have hj2:j<(AI l mask l.length).length:=by rw [hxe];exact hj
  have hsl:(LV mask l.length)[j]! < l.length:=selL_lt (by rw [KN] at hj2;exact hj2)
  have hxj:x[j]! = l[(LV mask l.length)[j]!]!:=by rw [← hxe,HR hj2]
  rw [HR (by rw [hlx];exact hj),KL (by rw [← hf.1];exact hsl)]
  refine AAi (hon.ep j hj).symm ?_ (hon.th j hj).symm (hon.ma j hj).symm ?_
  · rw [hxj,hf.2 _ hsl];rfl
  · refine QK (by rw [JN,hon.da j hj,ho]) fun p=>?_
    by_cases hp:p<other.length
    · simp only [FN]
      rw [GB _ _ _ hp,ZE hp]
      have hi:(((LV mask l.length)[j]!:Nat):Int)+1=x[j]!.index:=by rw [hxj,hf.2 _ hsl]
      rw [hi]
      have:=exp_pol (t:=t) hv.toGood hmm htt hp
      unfold pol at this
      rw [this,exp_at hv.toGood hmm p hj]
    · rw [EA (by rw [JN];omega),EA (by rw [hon.da j hj];omega)]
open Go.Fw
structure Spl (secret:List UInt8) (ep t m:Int) (l:List Share):Prop where
  num:Num ep t m secret.length
  full:Full m l
  ex:∃ P,On P ep t m secret.length l∧(∀ p,p<secret.length→∀ i:Nat,t.toNat≤i→(P p)[i]! = 0)∧∀ p,p<secret.length→FU (P p) 0=secret[p]!
theorem QL {secret:List UInt8} {ep t m:Int} {coins:List UInt8} (h:(BB secret ep t m coins).2=0):Spl secret ep t m (BB secret ep t m coins).1:=by
  have hr:=HH h
  rw [hr.2]
  exact ⟨AAc hr.1,XC _ _ _ _ _,pol secret coins t,split_on hr.1,pol_high hr.1,fun p _=>pol_at0 _ _ _ _⟩
theorem Spl.len {secret:List UInt8} {ep t m:Int} {l:List Share} (h:Spl secret ep t m l):(l.length:Int)=m:=by
  have:=h.num.tm;have:=h.num.t1;rw [h.full.1];omega
theorem Spl.join {secret:List UInt8} {ep t m:Int} {l:List Share} (h:Spl secret ep t m l) (mask:UInt8) (hx:t≤((AI l mask l.length).length:Int)):CS (AI l mask l.length)=(secret,0):=by
  obtain ⟨P,h1,h2,h3⟩:=h.ex
  rw [(h1.some mask).join h.num hx h2]
  congr 1
  refine Eq.trans (List.map_congr_left fun p hp=>h3 p (by simpa using hp)) (range_get secret)
theorem Spl.few {secret:List UInt8} {ep t m:Int} {l:List Share} (h:Spl secret ep t m l) (mask:UInt8) (hpos:0<(AI l mask l.length).length) (hx:((AI l mask l.length).length:Int)<t):CS (AI l mask l.length)=([],80):=by
  obtain ⟨P,h1,_⟩:=h.ex
  exact (h1.some mask).few h.num hpos hx
theorem Spl.many {secret:List UInt8} {ep t m:Int} {l:List Share} (h:Spl secret ep t m l) (mask:UInt8) (other:List UInt8) (hpos:0<(AI l mask l.length).length) (hx:t≤((AI l mask l.length).length:Int)):AQ (AI l mask l.length) other=([],80):=by
  obtain ⟨P,h1,_⟩:=h.ex
  have h2:=h1.some mask
  exact NI ((EM _).2 (h2.vd h.num hpos)) (by rw [h2.th 0 hpos];exact hx) rfl
theorem Spl.explain {secret:List UInt8} {ep t m:Int} {l:List Share} (h:Spl secret ep t m l) (mask:UInt8) {other:List UInt8} (ho:other.length=secret.length) (hpos:0<(AI l mask l.length).length) (hx:((AI l mask l.length).length:Int)<t) :
    (AQ (AI l mask l.length) other).2=0∧(BB other ep t m (AQ (AI l mask l.length) other).1).2=0∧
      AI (BB other ep t m (AQ (AI l mask l.length) other).1).1 mask (BB other ep t m (AQ (AI l mask l.length) other).1).1.length=AI l mask l.length:=by
  obtain ⟨P,h1,_⟩:=h.ex
  have:=explain_all h1 h.full h.num mask ho hpos hx
  refine ⟨this.1,by rw [GR];exact this.2.1,?_⟩
  have hr:=HH (show (BB other ep t m (AQ (AI l mask l.length) other).1).2=0 by rw [GR];exact this.2.1)
  rw [hr.2]
  exact this.2.2
theorem Spl.da {secret:List UInt8} {ep t m:Int} {l:List Share} (h:Spl secret ep t m l) {i:Nat} (hi:i<l.length):l[i]!.data.length=secret.length:=by
  obtain ⟨P,h1,_⟩:=h.ex
  exact h1.da i hi
def padd (l m:List UInt8):List UInt8:=tab (max l.length m.length) fun i=>l[i]! ^^^ m[i]!
theorem WJ (l m:List UInt8) (i:Nat):(padd l m)[i]! = l[i]! ^^^ m[i]!:=by
  unfold padd;rw [JP]
  split
  · rfl
  · rw [EA (by omega),EA (by omega)];rfl
theorem SS (l m:List UInt8) (x:UInt8):FU (padd l m) x=FU l x ^^^ FU m x:=SU _ _ _ (WJ l m) x
def NV (l m:List Share) (n i:Nat):Share:=⟨l[i]!.epoch,l[i]!.index,l[i]!.threshold,l[i]!.many,tab n fun k=>l[i]!.data[k]! ^^^ m[i]!.data[k]!⟩
def sumL (l m:List Share) (n q:Nat):List Share:=(List.range q).map (NV l m n)
theorem NM (l m:List Share) (n q:Nat):(sumL l m n q).length=q:=by simp [sumL]
theorem IC {l m:List Share} {n q i:Nat} (h:i<q):(sumL l m n q)[i]! = NV l m n i:=GB _ _ _ h
open Go.Fw
theorem Spl.epoch {secret:List UInt8} {ep t m:Int} {l:List Share} (h:Spl secret ep t m l) (mask:UInt8) {j:Nat} (hj:j<(AI l mask l.length).length) :
    (AI l mask l.length)[j]!.epoch=ep∧(AI l mask l.length)[j]!.threshold=t∧(AI l mask l.length)[j]!.many=m:=by
  obtain ⟨P,h1,_⟩:=h.ex
  have:=h1.some mask
  exact ⟨this.ep j hj,this.th j hj,this.ma j hj⟩
theorem QH {secret:List UInt8} {ep t m:Int} {l:List Share} (h:Spl secret ep t m l) (hep:ep<1048576) (coins:List UInt8) :
    EX l coins=EJ (List.replicate secret.length 0) ep t m coins:=by
  obtain ⟨P,h1,_⟩:=h.ex
  have hl:=h.len
  have:=h.num.t1;have:=h.num.tm
  have hpos:0<l.length:=by omega
  have hv:=h1.vd h.num hpos
  unfold EX
  rw [if_neg (by rw [(EM l).2 hv];simp),if_neg (by rw [h1.ma 0 hpos,hl];simp),if_neg (by rw [h1.ep 0 hpos];omega)]
  unfold IE
  rw [GR,h1.da 0 hpos,h1.ep 0 hpos,h1.th 0 hpos,h1.ma 0 hpos]
theorem LF (l:List Share) (coins:List UInt8):(BR l coins).2=EX l coins:=by
  unfold BR;split
  · rename_i h;rw [h]
  · rfl
theorem refresh_iff {secret:List UInt8} {ep t m:Int} {l:List Share} (h:Spl secret ep t m l) (hep:ep<1048576) (coins:List UInt8) :
    (BR l coins).2=0↔(coins.length:Int)=(secret.length:Int)*(t - 1):=by
  rw [LF,QH h hep,HC,List.length_replicate]
  have:=h.num
  exact ⟨fun x=>x.2.2.2.2.2.2,fun x=>⟨this.n64,this.t1,this.tm,this.m8,this.ep0,this.ep1,x⟩⟩
theorem YJ (n p:Nat):(List.replicate n (0:UInt8))[p]! = 0:=by
  by_cases h:p<n
  · rw [getElem!_pos _ p (by simpa using h)];simp
  · rw [EA (by simp;omega)]
theorem spl_refresh {secret:List UInt8} {ep t m:Int} {l:List Share} (h:Spl secret ep t m l) (hep:ep<1048576) {coins:List UInt8} (h0:(BR l coins).2=0):Spl secret (ep+1) t m (BR l coins).1:=by
  have hb:=h0
  rw [LF] at hb
  rw [show (BR l coins).1=HL l coins by unfold BR;rw [if_pos hb]]
  rw [QH h hep] at hb
  have hl:=h.len
  have hn:=h.num
  have:=hn.t1;have:=hn.tm
  have hpos:0<l.length:=by omega
  obtain ⟨P,h1,h2,h3⟩:=h.ex
  have hz:(IE l[0]! coins).1=GW (List.replicate secret.length 0) ep t m coins:=by
    unfold IE
    rw [h1.da 0 hpos,h1.ep 0 hpos,h1.th 0 hpos,h1.ma 0 hpos]
    exact (HH (by rw [GR];exact hb)).2
  have hzo:=split_on hb
  have hzf:=XC (List.replicate secret.length 0) ep t m coins
  have hgl:(HL l coins).length=l.length:=by simp [HL]
  have hg:∀ j,j<l.length→(HL l coins)[j]! = GL l l[0]! (GW (List.replicate secret.length 0) ep t m coins) j:=fun j hj=>by
    unfold HL;rw [GB _ _ _ hj,hz]
  have hzl:(GW (List.replicate secret.length 0) ep t m coins).length=l.length:=by rw [hzf.1,h.full.1]
  refine ⟨⟨hn.t1,hn.tm,hn.m8,hn.n64,by have:=hn.ep0;omega,by omega⟩,⟨by rw [hgl,h.full.1],fun k hk=>by rw [hgl] at hk;rw [hg k hk];exact h.full.2 k hk⟩,fun p=>padd (P p) (pol (List.replicate secret.length 0) coins t p),?_,fun p hp i hi=>?_,fun p hp=>?_⟩
  · refine ⟨fun j hj=>?_,fun j hj=>?_,fun j hj=>?_,fun j hj=>?_,fun j hj=>?_,fun i j hij hj=>?_,fun j hj p hp=>?_⟩ <;> rw [hgl] at hj
    · rw [hg j hj];simp only [GL];rw [h1.ep j hj]
    · rw [hg j hj];exact h1.th j hj
    · rw [hg j hj];exact h1.ma j hj
    · rw [hg j hj];simp only [GL,PO,List.length_map,List.length_range];exact h1.da 0 hpos
    · rw [hg j hj];exact h1.ix j hj
    · rw [hg j hj,hg i (by omega)];exact h1.inc i j hij hj
    · rw [hg j hj];simp only [GL,PO]
      rw [GB _ _ _ (by rw [h1.da 0 hpos];exact hp),SS,h1.val j hj p hp,hzo.val j (by omega) p (by simpa using hp),h.full.2 j hj,hzf.2 j (by omega)]
  · rw [WJ,h2 p hp i hi,pol_high hb p (by simpa using hp) i hi];rfl
  · rw [SS,h3 p hp,pol_at0,YJ];simp
open Go.Fw
section
variable {c:Circle}
end
theorem has_yes {l:List Int} {n:Int} {k:Nat} (hk:k<l.length) (h:l[k]! = n):l.contains n=true:=by
  rw [List.contains_iff_mem,← h,getElem!_pos l k hk];exact List.getElem_mem hk
theorem has_no {l:List Int} {n:Int} (h:∀ q,q<l.length→l[q]!≠n):l.contains n=false:=by
  rw [← Bool.not_eq_true,List.contains_iff_mem]
  intro hm
  obtain ⟨i,hi,e⟩:=List.getElem_of_mem hm
  exact h i hi (by rw [getElem!_pos l i hi];exact e)
theorem inc_nodup {l:List Int} (h:IS l=true):l.Nodup:=by
  rw [List.nodup_iff_pairwise_ne]
  rw [List.pairwise_iff_getElem]
  intro i j hi hj hij
  have:=MQ h i j hij hj
  rw [getElem!_pos l i hi,getElem!_pos l j hj] at this
  omega
section
variable {c:Circle} {day no g:Int}
end
open Go.Fw
theorem YK {α:Type} [Inhabited α] {l:List α} {i k:Nat} {x:α} (h:i<l.length):(l.set i x)[k]! = if k=i then x else l[k]!:=by
  by_cases hk:k<l.length
  · rw [getElem!_pos _ k (by simpa using hk),List.getElem_set,getElem!_pos l k hk]
    by_cases e:i=k
    · subst e;simp
    · rw [if_neg e,if_neg (fun h=>e h.symm)]
  · rw [if_neg (by omega),getElem!_neg _ k (by simpa using hk),getElem!_neg l k (by simpa using hk)]
def NK (c:Circle) (i:Nat) (r:Recovery):Circle:=⟨c.epoch,c.threshold,c.wait,c.guardians,c.recs.set i r⟩
theorem UP {c:Circle} {i:Nat} {r:Recovery} (h:AO c=0) (hi:i<c.recs.length) (hno:r.no=c.recs[i]!.no) (ha:r.asked=c.recs[i]!.asked) (hr:EV r=true) (hs:r.state≠0∨c.recs[i]!.state=0):AO (NK c i r)=0:=by
  have h0:=(GX c).1 h
  refine (GX _).2 ⟨?_,fun k hk=>?_⟩
  · have e:DV (NK c i r)=DV c:=by unfold DV NK;simp only [List.length_set]
    rw [e];exact h0.1
  · have hk':k<c.recs.length:=by simpa [NK] using hk
    have hk0:=MH.1 (h0.2 k hk')
    have hask:FK (NK c i r).recs k=FK c.recs k:=by
      unfold FK
      by_cases e:k=0
      · rw [if_pos e,if_pos e]
      · rw [if_neg e,if_neg e]
        show (c.recs.set i r)[k - 1]!.asked=_
        rw [YK hi]
        split
        · rename_i e2;rw [ha,e2]
        · rfl
    rw [MH,hask]
    show (c.recs.set i r)[k]!.no=_∧_
    have hl:(NK c i r).recs.length=c.recs.length:=by simp [NK]
    rw [hl]
    show (c.recs.set i r)[k]!.no=_∧CO (c.recs.set i r)[k]!.asked _=true∧EV (c.recs.set i r)[k]! = true∧((c.recs.set i r)[k]!.state≠0∨_)
    rw [YK hi]
    split
    · rename_i e
      subst e
      refine ⟨by rw [hno];exact hk0.1,by rw [ha];exact hk0.2.1,hr,?_⟩
      rcases hs with hs|hs
      · exact .inl hs
      · right;rcases hk0.2.2.2 with h1|h1
        · exact absurd hs h1
        · exact h1
    · exact hk0
section
variable {c:Circle} {no day:Int}
end
section
variable {l:List Int} {t w a day:Int} {k:Nat}
end
section
variable {l:List Int} {t w a day:Int} {k:Nat}
theorem new_ok (h:(DL l t w).2=0):AO ⟨0,t,w,l,[]⟩ = 0∧DL l t w=(⟨0,t,w,l,[]⟩,0):=by
  by_cases hc:AO ⟨0,t,w,l,[]⟩ = 0
  · exact ⟨hc,SY hc⟩
  · rw [PL hc] at h;exact absurd h hc
end
open Go.Fw
theorem TW (p:Nat→Bool):∀ (m i:Nat),(GM (fun k=>if p k then some (k:Int) else none) (-1) i m = -1∧∀ k,i≤k→k<i+m→p k=false)∨∃ k,i≤k∧k<i+m∧p k=true∧GM (fun k=>if p k then some (k:Int) else none) (-1) i m=(k:Int)∧∀ q,i≤q→q<k→p q=false
  | 0,i=>.inl ⟨rfl,fun k h1 h2=>by omega⟩
  | m+1,i=>by
    cases h:p i with
    | true=>exact .inr ⟨i,Nat.le_refl _,by omega,h,by simp [GM,h],fun q h1 h2=>by omega⟩
    | false=>
      have e:GM (fun k=>if p k then some (k:Int) else none) (-1) i (m+1)=GM (fun k=>if p k then some (k:Int) else none) (-1) (i+1) m:=by simp [GM,h]
      rw [e]
      rcases TW p m (i+1) with ⟨h1,h2⟩|⟨k,h1,h2,h3,h4,h5⟩
      · refine .inl ⟨h1,fun k hk hk2=>?_⟩
        by_cases e:k=i
        · rw [e];exact h
        · exact h2 k (by omega) (by omega)
      · refine .inr ⟨k,by omega,by omega,h3,h4,fun q hq hq2=>?_⟩
        by_cases e:q=i
        · rw [e];exact h
        · exact h5 q (by omega) hq2
def FZ (l:List Share) (f:Share→Bool):Int:=GM (fun k=>if f l[k]! then some (k:Int) else none) (-1) 0 (l.length - 0)
theorem idxS_any (l:List Share) (f:Share→Bool):decide ((0:Int)≤FZ l f)=l.any f:=by
  unfold FZ
  rcases TW (fun k=>f l[k]!) (l.length - 0) 0 with ⟨h1,h2⟩|⟨k,h1,h2,h3,h4,_⟩
  · rw [h1]
    have:l.any f=false:=by
      rw [List.any_eq_false];intro x hx
      obtain ⟨i,hi,rfl⟩:=List.getElem_of_mem hx
      have:=h2 i (by omega) (by omega)
      rw [getElem!_pos l i hi] at this;simp [this]
    rw [this];rfl
  · rw [h4]
    have:l.any f=true:=List.any_eq_true.2 ⟨l[k]!,by rw [getElem!_pos l k (by omega)];exact List.getElem_mem _,h3⟩
    rw [this];simp
def FW (c:Circle) (s:Share):Bool:=(s.epoch != c.epoch || s.threshold != c.threshold) || (s.many != (c.guardians.length:Int))
def CD (c:Circle) (l:List Share):Int:=if BN l != 0 then BN l else if l.any (FW c) then 460 else 0
def CU (c:Circle) (secret coins:List UInt8):List Share × Int:=if AO c != 0 then ([],AO c) else BB secret c.epoch c.threshold (c.guardians.length:Int) coins
def BM (c:Circle) (l:List Share) (coins:List UInt8):Circle × List Share × Int:=
  if AO c != 0 then (EI,[],AO c) else if CD c l != 0 then (EI,[],CD c l) else if (BR l coins).2 != 0 then (EI,[],(BR l coins).2)
  else (⟨c.epoch+1,c.threshold,c.wait,c.guardians,c.recs⟩,(BR l coins).1,0)
def NE (c:Circle) (others:List Int) (t:Int):Circle:=⟨c.epoch+1,t,c.wait,others,c.recs⟩
def AU (c:Circle) (l:List Share) (others:List Int) (t:Int) (coins:List UInt8):Circle × List Share × Int:=
  if AO c != 0 then (EI,[],AO c) else if CD c l != 0 then (EI,[],CD c l) else if (CS l).2 != 0 then (EI,[],(CS l).2)
  else if (CU (NE c others t) (CS l).1 coins).2 != 0 then (EI,[],(CU (NE c others t) (CS l).1 coins).2)
  else (NE c others t,(CU (NE c others t) (CS l).1 coins).1,0)
def BX (c:Circle) (no:Int) (l:List Share):List UInt8 × Int:=
  if AO c != 0 then ([],AO c) else if decide (no<0) || decide ((c.recs.length:Int)≤no) then ([],1)
  else if c.recs[no.toNat]!.state == 2 then ([],452) else if c.recs[no.toNat]!.state == 0 then ([],460) else if CD c l != 0 then ([],CD c l) else CS l
theorem circ_ep {c:Circle} (h:AO c=0):0≤c.epoch∧c.epoch≤1048576∧1≤(c.guardians.length:Int)∧(c.guardians.length:Int)≤8∧1≤c.threshold∧c.threshold≤(c.guardians.length:Int):=by
  have hh:=((GX c).1 h).1
  unfold DV at hh
  simp only [Bool.or_eq_false_iff,decide_eq_false_iff_not] at hh
  omega
section
variable {c:Circle} {l:List Share} {secret coins:List UInt8} {others:List Int} {t no:Int}
theorem deal_1 (h:AO c≠0):CU c secret coins=([],AO c):=if_pos (by simpa using h)
theorem deal_2 (h:AO c=0):CU c secret coins=BB secret c.epoch c.threshold (c.guardians.length:Int) coins:=if_neg (by simpa using h)
theorem WS (h:BN l≠0):CD c l=BN l:=if_pos (by simpa using h)
theorem XA (h:BN l=0) (h2:l.any (FW c)=true):CD c l=460:=by unfold CD;rw [if_neg (by simpa using h),if_pos h2]
theorem belong_3 (h:BN l=0) (h2:l.any (FW c)=false):CD c l=0:=by unfold CD;rw [if_neg (by simpa using h),if_neg (by rw [h2];simp)]
theorem WB (h:AO c≠0):BM c l coins=(EI,[],AO c):=if_pos (by simpa using h)
theorem VV (h:AO c=0) (h2:CD c l≠0):BM c l coins=(EI,[],CD c l):=by unfold BM;rw [if_neg (by simpa using h),if_pos (by simpa using h2)]
theorem VR (h:AO c=0) (h2:CD c l=0) (h3:(BR l coins).2≠0):BM c l coins=(EI,[],(BR l coins).2):=by unfold BM;rw [if_neg (by simpa using h),if_neg (by simpa using h2),if_pos (by simpa using h3)]
theorem VU (h:AO c=0) (h2:CD c l=0) (h3:(BR l coins).2=0):BM c l coins=(⟨c.epoch+1,c.threshold,c.wait,c.guardians,c.recs⟩,(BR l coins).1,0):=by unfold BM;rw [if_neg (by simpa using h),if_neg (by simpa using h2),if_neg (by simpa using h3)]
theorem QQ (h:AO c≠0):AU c l others t coins=(EI,[],AO c):=if_pos (by simpa using h)
theorem QM (h:AO c=0) (h2:CD c l≠0):AU c l others t coins=(EI,[],CD c l):=by unfold AU;rw [if_neg (by simpa using h),if_pos (by simpa using h2)]
theorem QR (h:AO c=0) (h2:CD c l=0) (h3:(CS l).2≠0):AU c l others t coins=(EI,[],(CS l).2):=by unfold AU;rw [if_neg (by simpa using h),if_neg (by simpa using h2),if_pos (by simpa using h3)]
theorem KS (h:AO c=0) (h2:CD c l=0) (h3:(CS l).2=0) (h4:(CU ⟨c.epoch+1,t,c.wait,others,c.recs⟩ (CS l).1 coins).2≠0):AU c l others t coins=(EI,[],(CU ⟨c.epoch+1,t,c.wait,others,c.recs⟩ (CS l).1 coins).2):=by
  unfold AU NE;rw [if_neg (by simpa using h),if_neg (by simpa using h2),if_neg (by simpa using h3),if_pos (by simpa using h4)]
theorem KJ (h:AO c=0) (h2:CD c l=0) (h3:(CS l).2=0) (h4:(CU ⟨c.epoch+1,t,c.wait,others,c.recs⟩ (CS l).1 coins).2=0):AU c l others t coins=(⟨c.epoch+1,t,c.wait,others,c.recs⟩,(CU ⟨c.epoch+1,t,c.wait,others,c.recs⟩ (CS l).1 coins).1,0):=by
  unfold AU NE;rw [if_neg (by simpa using h),if_neg (by simpa using h2),if_neg (by simpa using h3),if_neg (by simpa using h4)]
theorem rest_1 (h:AO c≠0):BX c no l=([],AO c):=if_pos (by simpa using h)
theorem UT (h:AO c=0) (h2:no<0∨(c.recs.length:Int)≤no):BX c no l=([],1):=by unfold BX;rw [if_neg (by simpa using h),if_pos (by simp only [dbs];exact h2)]
section
variable (h:AO c=0) (h0:0≤no) (h1:no<(c.recs.length:Int))
include h h0 h1
theorem rest_3 (h2:c.recs[no.toNat]!.state=2):BX c no l=([],452):=by unfold BX;rw [if_neg (by simpa using h),if_neg (by simp only [dbs];omega),if_pos (by simpa using h2)]
theorem rest_4 (h3:c.recs[no.toNat]!.state=0):BX c no l=([],460):=by unfold BX;rw [if_neg (by simpa using h),if_neg (by simp only [dbs];omega),if_neg (by rw [h3];decide),if_pos (by simpa using h3)]
theorem UD (h2:c.recs[no.toNat]!.state≠2) (h3:c.recs[no.toNat]!.state≠0) (h4:CD c l≠0):BX c no l=([],CD c l):=by unfold BX;rw [if_neg (by simpa using h),if_neg (by simp only [dbs];omega),if_neg (by simpa using h2),if_neg (by simpa using h3),if_pos (by simpa using h4)]
theorem UF (h2:c.recs[no.toNat]!.state≠2) (h3:c.recs[no.toNat]!.state≠0) (h4:CD c l=0):BX c no l=CS l:=by unfold BX;rw [if_neg (by simpa using h),if_neg (by simp only [dbs];omega),if_neg (by simpa using h2),if_neg (by simpa using h3),if_neg (by simpa using h4)]
end
end
def xorM (a b:List UInt8):List UInt8:=tab a.length fun k=>a[k]! ^^^ b[k]!
def atS (l:List Share) (i:Int):Share:=l[(FZ l fun o=>o.index == i).toNat]!
def mixS (s:List Share) (x:Share):Share:=⟨x.epoch,x.index,x.threshold,x.many,xorM x.data (atS s x.index).data⟩
def FP (b s:List Share) (k:Nat):List Share:=(b.take k).map (mixS s)
abbrev MG (f g:Share):Bool:=((f.threshold != g.threshold || f.many != g.many) || (f.data.length:Int) != (g.data.length:Int)) || (g.epoch != f.epoch+1)
abbrev CT (a:List Share) (secret:List UInt8):List Share:=(BB secret a[0]!.epoch a[0]!.threshold a[0]!.many (AQ a secret).1).1
abbrev JS (a b:List Share) (secret:List UInt8):List UInt8 × Int:=AQ (FP b (CT a secret) b.length) (List.replicate secret.length 0)
def AX (a b:List Share) (secret:List UInt8):List UInt8 × Int:=
  if BN a != 0 then ([],BN a) else if BN b != 0 then ([],BN b) else if MG a[0]! b[0]! then ([],460)
  else if (AQ a secret).2 != 0 then ([],(AQ a secret).2)
  else if (JS a b secret).2 != 0 then ([],(JS a b secret).2) else ((AQ a secret).1++(JS a b secret).1,0)
open Go.Fw Go.RowKit
set_option maxHeartbeats 4000000 in
set_option maxRecDepth 100000 in
theorem c_idxS {O:List Nat} (l_v:Value) (l:List Share) (f_v:Nat) (f_caps:List Value) (f:Share→Bool) (w:World) (a0:BL Enc.share w O l_v l) (a8:∀ (vs_:Array Value) (w:World),(callFunc f_v vs_).run Try.prog w = .ok (.enter f_v vs_) w) (b2:∀ (w':World) (O':List Nat),Keep [] w w'→(∀ b∈O',b∈O∨w.heap.size≤b)→(∀ b∈O',b<w'.heap.size)→∀ (x_cs:List Value) (x:Share),Enc.share.rd w' O' x_cs x→CM Try.prog f_v ([.agg x_cs.toArray]++f_caps) w' (fun v w2=>v = .bool (f x))) (hO:∀ b∈O,b<w.heap.size):CM Try.prog 96 [l_v, .func (.func f_v) #[] f_caps.toArray] w (fun v _=>v=vI (FZ l f)):= by
 have b8:=a0.len_le
 have a0:BL Enc.share w ([]++O) l_v l:=a0
 have s0:St w O w []:=St.start hO
 refine BP 19 Try.func96 rfl rfl oT (fun F0=>AF (AB kR (AA (AE (vI 0) rfl (AG (AC (AF (AF (AB kR (AA (AD (l_v) rfl (AA (CK U32_ rfl a0 (AA (AD (vI 0) rfl (AG (AC (BQ (DU (fun mI FI wI=>∃ (k:Nat) (B:List Nat),k≤l.length∧FZ l f=GM (fun k=>if f l[k]! then some (k:Int) else none) (-1) k (l.length - k)∧mI=l.length - k∧(∃ F1,FI=GN F1 [(0,l_v),(1,vN (.func f_v) #[] f_caps.toArray),(7,vI (l.length:Int)),(8,vI ((k:Nat):Int)),(19,undef)])∧St w O wI B∧BL Enc.share wI (B++O) (l_v) (l)) (l.length - (0)) ?_ ?_)))))))))))))))))))
 ·exact ⟨(0),[],oM,rfl,rfl,⟨_,BD _ ⟨rfl,rfl,rfl,(by rfl),rfl,trivial⟩⟩,s0,a0⟩
 intro c3 F b3 hI
 clear a0
 obtain ⟨k,b1,hr0_0,hr0_1,c4,⟨c5,rfl⟩,a3,a0⟩:=hI
 refine AF (AB kR (AA (EB .i64 ((k:Nat):Int) (l.length:Int) rfl rfl (AG (AC (AF (AJ (decide (((k:Nat):Int)<(l.length:Int))) rfl rfl (fun a1=>?_) (fun a1=>?_))))))))
 ·have b4:((k:Nat):Int)<(l.length:Int):=by simpa using a1
  refine AT (AC (AF (BQ (AF (AB kR (AA (AD (vI ((k:Nat):Int)) rfl (AA (AE (vI ((k:Nat):Int)) rfl (AG (AC (AF (AB kR (AA (AD (vN (.func f_v) #[] f_caps.toArray) rfl (AA (AD (l_v) rfl (AA (AD (vI ((k:Nat):Int)) rfl (AA (DO U32_ EN .i64 ((k:Nat):Int) k rfl rfl rfl a0 oM fun b9 a6=>(AA (CY U70_ rfl EN rfl a6 fun a4 a7=>(AA (SD [] f_caps [vA a4.toArray] a8 rfl (b2 b3 (b1++O) a3.keep (fun b hb=>(List.mem_append.1 hb).elim (fun h=>.inr (a3.new b h).1) .inl) a3.lt a4 (l[k]!) a7) rfl rfl a3 fun c0 c1 a5 a9 c2 b0=>(?_))))))))))))))))))))))))))
  obtain rfl:=b0
  have a0:=a0.mv a9
  refine AG (AC (AJ (f (l[k]!)) rfl rfl (fun a2=>?_) (fun a2=>?_)))
  ·have b5:(f (l[k]!))=true:=by simpa using a2
   refine AF (AB kR (AA (AD (vI ((k:Nat):Int)) rfl (AA (AE (vI ((k:Nat):Int)) rfl (AG (AC (AM (CE (AP (AP (CE (AP (AZ rfl (CN rfl rfl rfl) (?_)))))))))))))))
   have e:(FZ l f)=((k:Nat):Int):=by (rw [hr0_1];exact ET oM (by ((repeat ((refine (if_pos ?_).trans ?_;omega)));rfl)))
   exact ⟨_,rfl,a5.keep,by rw [e];exact rfl⟩
  have b6:(f (l[k]!))=false:=by simpa using a2
  refine AT (CB (AC (AB kR (AA (DR .i64 ((k:Nat):Int) (1:Int) (((k+1:Nat):Int)) rfl rfl (GZ oM oM) (AA (AD (vI ((k+1:Nat):Int)) rfl (AG (AC (?_))))))))))
  exact ⟨_,oM,(k+1),b1,oM,(hr0_1.trans (IL oM (by ((repeat ((refine (if_neg ?_).trans ?_;solve|(simp only [dbs];(repeat (omega))))));rfl)))),rfl,⟨_,BD _ ⟨rfl,rfl,rfl,(by rfl),rfl,trivial⟩⟩,a5,a0⟩
 have b7:(l.length:Int)≤((k:Nat):Int):=by simpa using a1
 refine DW (CL (CL (DK (AC (AF (AB kR (AA (AE (vI (-1:Int)) rfl (AG (AC (AM (AZ rfl (CN rfl rfl rfl) (?_)))))))))))))
 have e:(FZ l f)=(-1:Int):=by (rw [hr0_1];exact LD oM)
 exact ⟨_,rfl,a3.keep,by rw [e];exact rfl⟩
set_option maxHeartbeats 4000000 in
set_option maxRecDepth 100000 in
theorem c_containsS {O:List Nat} (l_v:Value) (l:List Share) (f_v:Nat) (f_caps:List Value) (f:Share→Bool) (w:World) (a0:BL Enc.share w O l_v l) (a1:∀ (vs_:Array Value) (w:World),(callFunc f_v vs_).run Try.prog w = .ok (.enter f_v vs_) w) (a4:∀ (w':World) (O':List Nat),Keep [] w w'→(∀ b∈O',b∈O∨w.heap.size≤b)→(∀ b∈O',b<w'.heap.size)→∀ (x_cs:List Value) (x:Share),Enc.share.rd w' O' x_cs x→CM Try.prog f_v ([.agg x_cs.toArray]++f_caps) w' (fun v w2=>v = .bool (f x))) (hO:∀ b∈O,b<w.heap.size):CM Try.prog 87 [l_v, .func (.func f_v) #[] f_caps.toArray] w (fun v _=>v = .bool (l.any f)):= by
 have a5:=a0.len_le
 have a0:BL Enc.share w ([]++O) l_v l:=a0
 have s0:St w O w []:=St.start hO
 refine BP 9 Try.func87 rfl rfl oT (fun F0=>AF (AB kR (AA (AE (vO false) rfl (AG (AC (AF (AB kR (AA (AD (l_v) rfl (AA (AD (vN (.func f_v) #[] f_caps.toArray) rfl (AA (BF (vs:=[l_v,vN (.func f_v) #[] f_caps.toArray]) enter_96 (c_idxS (O:=[]++O) l_v l f_v f_caps f w a0 a1 (fun w'_ O'_ kk_ hs_ hl_=>a4 w'_ O'_ (s0.keep.trans kk_) (fun b hb=>(hs_ b hb).elim (fun h=>(List.mem_append.1 h).elim (fun h=>.inr (s0.new b h).1) .inl) (fun h=>.inr (Nat.le_trans s0.keep.size h))) hl_) s0.lt) rfl s0 fun a6 a7 a2 a8 a9 a3=>(?_)))))))))))))))
 obtain rfl:=a3
 refine AA (ID .i64 (FZ l f) (0:Int) rfl rfl (AA (AE (vO (decide ((0:Int)≤FZ l f))) rfl (AG (AC (AM (AZ rfl (CN rfl rfl rfl) (?_))))))))
 have e:(l.any f)=(decide ((0:Int)≤FZ l f)):=by exact (idxS_any _ _).symm
 exact ⟨_,rfl,a2.keep,(by exact congrArg vO e.symm)⟩
set_option maxHeartbeats 4000000 in
set_option maxRecDepth 100000 in
theorem c_belong1 {O:List Nat} (x_cs:List Value) (x:Share) (c_a:Addr) (c:Circle) (w:World) (a6:Enc.share.rd w O x_cs x) (a0:PT Enc.circle w O (.pointer (some c_a)) c) (hO:∀ b∈O,b<w.heap.size):CM Try.prog 86 [.agg x_cs.toArray, .pointer (some c_a)] w (fun v _=>v = .bool (FW c x)):= by
 have a6:Enc.share.rd w ([]++O) x_cs x:=a6
 have a0:PT Enc.circle w ([]++O) (.pointer (some c_a)) c:=a0
 have s0:St w O w []:=St.start hO
 refine BP 24 Try.func86 rfl rfl oT (fun F0=>AF (AB kR (AA (EC (E:=Enc.share) (vA x_cs.toArray) (x_cs) x rfl rfl a6 s0 fun b8 b9 a2 b3 c0 a1=>(?_)))))
 have a0:=a0.mv b3
 refine AA (AE (vO false) rfl (AG (AC (AF (AB kR (AA (BO 0 KC (x.epoch) rfl a1 (fun _ _ _ h=>LX h) fun c1 a7=>(AA (CG U3_ rfl rfl a7 (AA (BO 0 MF (c.epoch) rfl a0 (fun _ _ _ h=>LA h) fun c2 a8=>(AA (CG U3_ rfl rfl a8 (AA (DQ .i64 x.epoch c.epoch rfl rfl (AA (AD (vO (x.epoch != c.epoch)) rfl (?_))))))))))))))))))
 cases a3:(x.epoch != c.epoch)
 ·have b4:x.epoch=c.epoch:=by simpa using a3
  refine AY rfl (BO 2 KW (x.threshold) rfl a1 (fun _ _ _ h=>KD h) fun c3 a9=>(AY rfl (CG U3_ rfl rfl a9 (AY rfl (BO 1 KK (c.threshold) rfl a0 (fun _ _ _ h=>IV h) fun c4 b0=>(AY rfl (CG U3_ rfl rfl b0 (AY rfl (DQ .i64 x.threshold c.threshold rfl rfl (AA (BK (vO (x.threshold != c.threshold)) rfl rfl (AA (AD (vO (x.threshold != c.threshold)) rfl (?_))))))))))))))
  cases a4:(x.threshold != c.threshold)
  ·have b5:x.threshold=c.threshold:=by simpa using a4
   refine AY rfl (BO 3 KT (x.many) rfl a1 (fun _ _ _ h=>OT h) fun c5 b1=>(AY rfl (CG U3_ rfl rfl b1 (AY rfl (BO 3 LK (c.guardians) rfl a0 (fun _ _ _ h=>HS h) fun c6 b2=>(AY rfl (CI U22_ rfl rfl b2 fun c7 a5=>(?_))))))))
   have:=a5.len_le
   refine AY rfl (CK U22_ rfl a5 (AY rfl (DQ .i64 x.many (c.guardians.length:Int) rfl rfl (AA (BK (vO (x.many != (c.guardians.length:Int))) rfl rfl (AA (AE (vO (x.many != (c.guardians.length:Int))) rfl (AG (AC (AM (AZ rfl (CN rfl rfl rfl) (?_))))))))))))
   have e:(FW c x)=(x.many != (c.guardians.length:Int)):=by simp [FW, *]
   exact ⟨_,rfl,a2.keep,(by exact congrArg vO e.symm)⟩
  have b6:x.threshold≠c.threshold:=by simpa using a4
  refine AN rfl (AN rfl (AN rfl (AN rfl (AN rfl (AN rfl (AA (BH (vO true) rfl rfl (AA (AE (vO true) rfl (AG (AC (AM (AZ rfl (CN rfl rfl rfl) (?_))))))))))))))
  have e:(FW c x)=true:=by simp [FW, *]
  exact ⟨_,rfl,a2.keep,(by exact congrArg vO e.symm)⟩
 have b7:x.epoch≠c.epoch:=by simpa using a3
 refine AN rfl (AN rfl (AN rfl (AN rfl (AN rfl (AA (BH (vO true) rfl rfl (AA (AD (vO true) rfl (AN rfl (AN rfl (AN rfl (AN rfl (AN rfl (AN rfl (AA (BH (vO true) rfl rfl (AA (AE (vO true) rfl (AG (AC (AM (AZ rfl (CN rfl rfl rfl) (?_)))))))))))))))))))))))
 have e:(FW c x)=true:=by simp [FW, *]
 exact ⟨_,rfl,a2.keep,(by exact congrArg vO e.symm)⟩
set_option maxHeartbeats 4000000 in
set_option maxRecDepth 100000 in
theorem QW {O:List Nat} (c_cs:List Value) (c:Circle) (w:World) (a2:Enc.circle.rd w O c_cs c) (hO:∀ b∈O,b<w.heap.size):CM Try.prog 33 [.agg c_cs.toArray] w (fun v _=>v=vI (AO c)):= by
 have a2:Enc.circle.rd w ([]++O) c_cs c:=a2
 have s0:St w O w []:=St.start hO
 refine BP 5 Try.func33 rfl rfl oT (fun F0=>AF (AB kR (AA (EC (E:=Enc.circle) (vA c_cs.toArray) (c_cs) c rfl rfl a2 s0 fun a8 a5 a1 a9 b0 a3=>(AA (AE (vI 0) rfl (AG (AC (AF (AB kR (AA (CY U28_ rfl BJ rfl a3 fun a0 a4=>(AA (BF (vs:=[vA a0.toArray]) MP (OJ (O:=[]++O) a0 c a5 a4 a1.lt) rfl a1 fun b1 b2 a6 b3 b4 a7=>(?_)))))))))))))))
 obtain rfl:=a7
 refine AA (AE (vI (AO c)) rfl (AG (AC (AM (AZ rfl (CN rfl rfl rfl) (?_))))))
 exact ⟨_,rfl,a6.keep,rfl⟩
set_option maxHeartbeats 4000000 in
set_option maxRecDepth 100000 in
theorem YN {O:List Nat} (c_cs:List Value) (c:Circle) (l_v:Value) (l:List Share) (w:World) (a9:Enc.circle.rd w O c_cs c) (a1:BL Enc.share w O l_v l) (hO:∀ b∈O,b<w.heap.size):CM Try.prog 39 [.agg c_cs.toArray,l_v] w (fun v _=>v=vI (CD c l)):= by
 have a9:Enc.circle.rd w ([]++O) c_cs c:=a9
 have b9:=a1.len_le
 have a1:BL Enc.share w ([]++O) l_v l:=a1
 have s0:St w O w []:=St.start hO
 refine BP 16 Try.func39 rfl rfl oT (fun F0=>AF (AB kR (AA (EC (E:=Enc.circle) (vA c_cs.toArray) (c_cs) c rfl rfl a9 s0 fun a0 b0 a6 b1 c0 a2=>(?_)))))
 have a1:=a1.mv b1
 refine AA (AE (vI 0) rfl (AG (AC (AF (AF (AB kR (AA (AD (l_v) rfl (AA (BF (vs:=[l_v]) NT (NP (O:=[]++O) l_v l b0 a1 a6.lt) rfl a6 fun c1 b2 a5 a7 c2 b3=>(?_)))))))))))
 obtain rfl:=b3
 have a1:=a1.mv a7
 have a2:=a2.mv a7
 refine AA (AE (vI (BN l)) rfl (AG (AC (AF (AB kR (AA (AD (vI (BN l)) rfl (AA (DQ .i64 (BN l) (0:Int) rfl rfl (AG (AC (AJ ((BN l) != (0:Int)) rfl rfl (fun a3=>?_) (fun a3=>?_)))))))))))))
 ·have b5:BN l≠(0:Int):=by simpa using a3
  refine AF (AB kR (AA (AD (vI (BN l)) rfl (AA (AE (vI (BN l)) rfl (AG (AC (AM (AP (AZ rfl (CN rfl rfl rfl) (?_)))))))))))
  have e:(CD c l)=(BN l):=by exact WS aS
  exact ⟨_,rfl,a5.keep,by rw [e];exact rfl⟩
 have b6:BN l=(0:Int):=by simpa using a3
 refine AT (AC (AF (AB kR (AA (DF (first:=[]) (captured:=[.tmp 2]) [] [vP (some a0)] rfl rfl (AA (AE (vN (.func 86) #[] #[vP (some a0)]) rfl (AG (AC (AF (AF (AB kR (AA (AD (l_v) rfl (AA (AD (vN (.func 86) #[] #[vP (some a0)]) rfl (AA (BF (vs:=[l_v,vN (.func 86) #[] #[vP (some a0)]]) enter_87 (c_containsS (O:=[]++O) l_v l 86 [vP (some a0)] (fun x_=>FW c x_) b2 a1 enter_86 (fun w'_ O'_ kk_ hs_ hl_ x__cs x_ hr_x_ =>c_belong1 (O:=O'_) x__cs x_ a0 c w'_ hr_x_ (a2.on hs_ kk_) hl_) a5.lt) rfl a5 fun c3 c4 a8 c5 c6 b4=>(?_)))))))))))))))))))
 obtain rfl:=b4
 refine AG (AC (AJ (l.any (fun x_=>FW c x_)) rfl rfl (fun a4=>?_) (fun a4=>?_)))
 ·have b7:(l.any (fun x_=>FW c x_))=true:=by simpa using a4
  refine AF (AB kR (AA (AE (vI 460) rfl (AG (AC (AM (AP (AZ rfl (CN rfl rfl rfl) (?_)))))))))
  have e:(CD c l)=(460:Int):=by exact XA aS aS
  exact ⟨_,rfl,a8.keep,by rw [e];exact rfl⟩
 have b8:(l.any (fun x_=>FW c x_))=false:=by simpa using a4
 refine AT (AC (AF (AB kR (AA (AE (vI 0) rfl (AG (AC (AM (AZ rfl (CN rfl rfl rfl) (?_))))))))))
 have e:(CD c l)=(0:Int):=by exact belong_3 aS aS
 exact ⟨_,rfl,a8.keep,by rw [e];exact rfl⟩
set_option maxHeartbeats 4000000 in
set_option maxRecDepth 100000 in
theorem c_deal {O:List Nat} (c_cs:List Value) (c:Circle) (secret_v:Value) (secret:List UInt8) (coins_v:Value) (coins:List UInt8) (w:World) (b2:Enc.circle.rd w O c_cs c) (a0:BL Enc.u8 w O secret_v secret) (a1:BL Enc.u8 w O coins_v coins) (hO:∀ b∈O,b<w.heap.size):CM Try.prog 11 [.agg c_cs.toArray,secret_v,coins_v] w (fun v w'=>∃ (x0:Value),v = .tuple #[x0,vI ((CU c secret coins).2)]∧BL Enc.share w' (O) x0 ((CU c secret coins).1)):= by
 have b2:Enc.circle.rd w ([]++O) c_cs c:=b2
 have b7:=a0.len_le
 have a0:BL Enc.u8 w ([]++O) secret_v secret:=a0
 have c7:=a1.len_le
 have a1:BL Enc.u8 w ([]++O) coins_v coins:=a1
 have s0:St w O w []:=St.start hO
 refine BP 26 Try.func11 rfl rfl oT (fun F0=>AF (AB kR (AA (EC (E:=Enc.circle) (vA c_cs.toArray) (c_cs) c rfl rfl b2 s0 fun d0 b8 b0 b1 d1 a2=>(?_)))))
 have a0:=a0.mv b1
 have a1:=a1.mv b1
 refine AA (AE (nS) rfl (AA (AE (vI 0) rfl (AG (AC (AF (AF (AB kR (AA (CY U28_ rfl BJ rfl a2 fun a7 b3=>(AA (BF (vs:=[vA a7.toArray]) SZ (QW (O:=[]++O) a7 c b8 b3 b0.lt) rfl b0 fun d2 b9 a4 a5 d3 c0=>(?_)))))))))))))
 obtain rfl:=c0
 have a0:=a0.mv a5
 have a1:=a1.mv a5
 have a2:=a2.mv a5
 refine AA (AE (vI (AO c)) rfl (AG (AC (AF (AB kR (AA (AD (vI (AO c)) rfl (AA (DQ .i64 (AO c) (0:Int) rfl rfl (AG (AC (AJ ((AO c) != (0:Int)) rfl rfl (fun a3=>?_) (fun a3=>?_)))))))))))))
 ·have c8:AO c≠(0:Int):=by simpa using a3
  refine AF (AB kR (AA (AD (vI (AO c)) rfl (AA (AE (nS) rfl (AA (AE (vI (AO c)) rfl (AG (AC (AM (AP (AZ rfl (GE rfl rfl rfl rfl) (?_)))))))))))))
  have c1:((CU c secret coins).1)=([]):=by exact congrArg (fun p=>p.1) (show CU c secret coins=_ from deal_1 aS)
  have c2:((CU c secret coins).2)=(AO c):=by exact congrArg (fun p=>p.2) (show CU c secret coins=_ from deal_1 aS)
  exact ⟨_,rfl,a4.keep,by rw [c1,c2];exact ⟨.slice none 0 0,rfl,BL.nil _ _ _⟩⟩
 have c9:AO c=(0:Int):=by simpa using a3
 refine AT (AC (AF (AB kR (AA (AD (secret_v) rfl (AA (BO 0 MF (c.epoch) rfl a2 (fun _ _ _ h=>LA h) fun d4 b4=>(AA (CG U3_ rfl rfl b4 (AA (BO 1 KK (c.threshold) rfl a2 (fun _ _ _ h=>IV h) fun d5 b5=>(AA (CG U3_ rfl rfl b5 (AA (BO 3 LK (c.guardians) rfl a2 (fun _ _ _ h=>HS h) fun d6 b6=>(AA (CI U22_ rfl rfl b6 fun d7 a8=>(?_))))))))))))))))))
 have:=a8.len_le
 refine AA (CK U22_ rfl a8 (AA (AD (coins_v) rfl (AA (BF (vs:=[secret_v,vI c.epoch,vI c.threshold,vI (c.guardians.length:Int),coins_v]) QC (TD (O:=[]++O) secret_v secret c.epoch c.threshold (c.guardians.length:Int) coins_v coins b9 a0 a1 a4.lt) rfl a4 fun d8 d9 c3 e0 e1 c4=>(?_))))))
 obtain ⟨a6,rfl,a9⟩:=c4
 have:=a9.len_le
 refine AA (AL (a6) rfl rfl (AA (AL (vI ((BB secret c.epoch c.threshold (c.guardians.length:Int) coins).2)) rfl rfl (AA (AE (a6) rfl (AA (AE (vI ((BB secret c.epoch c.threshold (c.guardians.length:Int) coins).2)) rfl (AG (AC (AM (AZ rfl (GE rfl rfl rfl rfl) (?_))))))))))))
 have c5:((CU c secret coins).1)=((BB secret c.epoch c.threshold (c.guardians.length:Int) coins).1):=by exact congrArg (fun p=>p.1) (show CU c secret coins=_ from deal_2 aS)
 have c6:((CU c secret coins).2)=((BB secret c.epoch c.threshold (c.guardians.length:Int) coins).2):=by exact congrArg (fun p=>p.2) (show CU c secret coins=_ from deal_2 aS)
 exact ⟨_,rfl,c3.keep,by rw [c5,c6];exact ⟨a6,rfl,a9.out⟩⟩
open Go.Fw Go.RowKit
set_option maxHeartbeats 4000000 in
set_option maxRecDepth 100000 in
theorem c_renew {O:List Nat} (c_cs:List Value) (c:Circle) (l_v:Value) (l:List Share) (coins_v:Value) (coins:List UInt8) (w:World) (c9:Enc.circle.rd w O c_cs c) (a6:BL Enc.share w O l_v l) (a0:BL Enc.u8 w O coins_v coins) (hO:∀ b∈O,b<w.heap.size):CM Try.prog 24 [.agg c_cs.toArray,l_v,coins_v] w (fun v w'=>∃ (x0:List Value) (x1:Value),v = .tuple #[.agg x0.toArray,x1,vI ((BM c l coins).2.2)]∧Enc.circle.rd w' (O) x0 ((BM c l coins).1)∧BL Enc.share w' (O) x1 ((BM c l coins).2.1)):= by
 have c9:Enc.circle.rd w ([]++O) c_cs c:=c9
 have h5:=a6.len_le
 have a6:BL Enc.share w ([]++O) l_v l:=a6
 have g8:=a0.len_le
 have a0:BL Enc.u8 w ([]++O) coins_v coins:=a0
 have s0:St w O w []:=St.start hO
 refine BP 41 Try.func24 rfl rfl oT (fun F0=>AF (AB kR (AA (EC (E:=Enc.circle) (vA c_cs.toArray) (c_cs) c rfl rfl c9 s0 fun h6 h7 d8 c6 h8 a2=>(?_)))))
 have a6:=a6.mv c6
 have a0:=a0.mv c6
 refine AA (CR [vI 0,vI 0,vI 0,nS,nS] IO rfl d8 fun a7 d9 e0 c7 b4 h9 a1=>(?_))
 clear e0
 have a6:=a6.mv b4
 have a0:=a0.mv b4
 have a2:=a2.mv b4
 refine AA (AE (nS) rfl (AA (AE (vI 0) rfl (AG (AC (AF (AF (AB kR (AA (CY U28_ rfl BJ rfl a2 fun c2 d0=>(AA (BF (vs:=[vA c2.toArray]) SZ (QW (O:=(a7 :: [])++O) c2 c d9 d0 c7.lt) rfl c7 fun i0 e1 b5 b6 e2 e3=>(?_)))))))))))))
 obtain rfl:=e3
 have a6:=a6.mv b6
 have a0:=a0.mv b6
 have a2:=a2.mv b6
 have a1:=a1.keep e2 (by simp)
 refine AA (AE (vI (AO c)) rfl (AG (AC (AF (AB kR (AA (AD (vI (AO c)) rfl (AA (DQ .i64 (AO c) (0:Int) rfl rfl (AG (AC (AJ ((AO c) != (0:Int)) rfl rfl (fun b1=>?_) (fun b1=>?_)))))))))))))
 ·have g9:AO c≠(0:Int):=by simpa using b1
  refine AF (AB kR (AA (BI (vs:=[vI 0,vI 0,vI 0,nS,nS]) U28_ rfl BJ rfl a1 rfl (AA (AD (vI (AO c)) rfl (BZ (BE (vs:=[vI 0,vI 0,vI 0,nS,nS]) (.agg #[vI 0,vI 0,vI 0,nS,nS]) rfl rfl rfl BJ (fun u hu=>by simp only [List.mem_cons,List.not_mem_nil,or_false] at hu;rcases hu with rfl|rfl|rfl|rfl|rfl <;> rfl) (by repeat (constructor)) a1 oT b5 fun i1 e4 i2 i3 d1=>(AA (AE (nS) rfl (AA (AE (vI (AO c)) rfl (AG (AC (AM (AP (AZ rfl (IR rfl (EE (vs:=[vI 0,vI 0,vI 0,nS,nS]) rfl U28_ rfl BJ rfl d1 rfl) (EK rfl rfl) (EK rfl rfl)) (?_)))))))))))))))))
  have e5:((BM c l coins).1)=(⟨(0:Int),(0:Int),(0:Int),[],[]⟩:Circle):=by exact congrArg (fun p=>p.1) (show BM c l coins=_ from WB aS)
  have e6:((BM c l coins).2.1)=([]):=by exact congrArg (fun p=>p.2.1) (show BM c l coins=_ from WB aS)
  have e7:((BM c l coins).2.2)=(AO c):=by exact congrArg (fun p=>p.2.2) (show BM c l coins=_ from WB aS)
  exact ⟨_,rfl,e4.keep,by rw [e5,e6,e7];exact ⟨[vI 0,vI 0,vI 0,nS,nS], .slice none 0 0,rfl,Enc.out (B:=(a7 :: [])) ⟨.slice none 0 0, .slice none 0 0,rfl,(BL.nil _ _ _),(BL.nil _ _ _)⟩,BL.nil _ _ _⟩⟩
 have d2:AO c=(0:Int):=by simpa using b1
 have hok:AO c=0:=d2
 have hepb:=circ_ep hok
 refine AT (AC (AF (AF (AB kR (AA (CY U28_ rfl BJ rfl a2 fun c3 d3=>(AA (AD (l_v) rfl (AA (BF (vs:=[vA c3.toArray,l_v]) YB (YN (O:=(a7 :: [])++O) c3 c l_v l e1 d3 a6 b5.lt) rfl b5 fun i4 e8 b7 b8 e9 f0=>(?_)))))))))))
 obtain rfl:=f0
 have a6:=a6.mv b8
 have a0:=a0.mv b8
 have a2:=a2.mv b8
 have a1:=a1.keep e9 (by simp)
 refine AA (AE (vI (CD c l)) rfl (AG (AC (AF (AB kR (AA (AD (vI (CD c l)) rfl (AA (DQ .i64 (CD c l) (0:Int) rfl rfl (AG (AC (AJ ((CD c l) != (0:Int)) rfl rfl (fun b2=>?_) (fun b2=>?_)))))))))))))
 ·have h0:CD c l≠(0:Int):=by simpa using b2
  refine AF (AB kR (AA (BI (vs:=[vI 0,vI 0,vI 0,nS,nS]) U28_ rfl BJ rfl a1 rfl (AA (AD (vI (CD c l)) rfl (BZ (BE (vs:=[vI 0,vI 0,vI 0,nS,nS]) (.agg #[vI 0,vI 0,vI 0,nS,nS]) rfl rfl rfl BJ (fun u hu=>by simp only [List.mem_cons,List.not_mem_nil,or_false] at hu;rcases hu with rfl|rfl|rfl|rfl|rfl <;> rfl) (by repeat (constructor)) a1 oT b7 fun i5 f1 i6 i7 d4=>(AA (AE (nS) rfl (AA (AE (vI (CD c l)) rfl (AG (AC (AM (AP (AZ rfl (IR rfl (EE (vs:=[vI 0,vI 0,vI 0,nS,nS]) rfl U28_ rfl BJ rfl d4 rfl) (EK rfl rfl) (EK rfl rfl)) (?_)))))))))))))))))
  have f2:((BM c l coins).1)=(⟨(0:Int),(0:Int),(0:Int),[],[]⟩:Circle):=by exact congrArg (fun p=>p.1) (show BM c l coins=_ from VV aS aS)
  have f3:((BM c l coins).2.1)=([]):=by exact congrArg (fun p=>p.2.1) (show BM c l coins=_ from VV aS aS)
  have f4:((BM c l coins).2.2)=(CD c l):=by exact congrArg (fun p=>p.2.2) (show BM c l coins=_ from VV aS aS)
  exact ⟨_,rfl,f1.keep,by rw [f2,f3,f4];exact ⟨[vI 0,vI 0,vI 0,nS,nS], .slice none 0 0,rfl,Enc.out (B:=(a7 :: [])) ⟨.slice none 0 0, .slice none 0 0,rfl,(BL.nil _ _ _),(BL.nil _ _ _)⟩,BL.nil _ _ _⟩⟩
 have h1:CD c l=(0:Int):=by simpa using b2
 refine AT (AC (AF (AB kR (AA (AD (l_v) rfl (AA (AD (coins_v) rfl (AA (BF (vs:=[l_v,coins_v]) enter_19 (ZI (O:=(a7 :: [])++O) l_v l coins_v coins e8 a6 a0 b7.lt) rfl b7 fun i8 i9 c8 f5 f6 f7=>(?_))))))))))
 obtain ⟨b0,rfl,a5⟩:=f7
 have:=a5.len_le
 have a2:=a2.mv f5
 have a1:=a1.keep f6 (by simp)
 refine AA (AD (vT #[b0,vI ((BR l coins).2)]) rfl (AA (AL (b0) rfl rfl (AA (AL (vI ((BR l coins).2)) rfl rfl (AA (AE (b0) rfl (AA (AE (vI ((BR l coins).2)) rfl (AG (AC (AF (AF (AB kR (AA (AD (vI ((BR l coins).2)) rfl (AA (DQ .i64 ((BR l coins).2) (0:Int) rfl rfl (AG (AC (AJ (((BR l coins).2) != (0:Int)) rfl rfl (fun b3=>?_) (fun b3=>?_))))))))))))))))))))))
 ·have h2:(BR l coins).2≠(0:Int):=by simpa using b3
  refine AF (AB kR (AA (BI (vs:=[vI 0,vI 0,vI 0,nS,nS]) U28_ rfl BJ rfl a1 rfl (AA (AD (vI ((BR l coins).2)) rfl (BZ (BE (vs:=[vI 0,vI 0,vI 0,nS,nS]) (.agg #[vI 0,vI 0,vI 0,nS,nS]) rfl rfl rfl BJ (fun u hu=>by simp only [List.mem_cons,List.not_mem_nil,or_false] at hu;rcases hu with rfl|rfl|rfl|rfl|rfl <;> rfl) (by repeat (constructor)) a1 oT c8 fun j0 f8 j1 j2 d5=>(AA (AE (nS) rfl (AA (AE (vI ((BR l coins).2)) rfl (AG (AC (AM (AP (AZ rfl (IR rfl (EE (vs:=[vI 0,vI 0,vI 0,nS,nS]) rfl U28_ rfl BJ rfl d5 rfl) (EK rfl rfl) (EK rfl rfl)) (?_)))))))))))))))))
  have f9:((BM c l coins).1)=(⟨(0:Int),(0:Int),(0:Int),[],[]⟩:Circle):=by exact congrArg (fun p=>p.1) (show BM c l coins=_ from VR aS aS aS)
  have g0:((BM c l coins).2.1)=([]):=by exact congrArg (fun p=>p.2.1) (show BM c l coins=_ from VR aS aS aS)
  have g1:((BM c l coins).2.2)=((BR l coins).2):=by exact congrArg (fun p=>p.2.2) (show BM c l coins=_ from VR aS aS aS)
  exact ⟨_,rfl,f8.keep,by rw [f9,g0,g1];exact ⟨[vI 0,vI 0,vI 0,nS,nS], .slice none 0 0,rfl,Enc.out (B:=(a7 :: [])) ⟨.slice none 0 0, .slice none 0 0,rfl,(BL.nil _ _ _),(BL.nil _ _ _)⟩,BL.nil _ _ _⟩⟩
 have h3:(BR l coins).2=(0:Int):=by simpa using b3
 refine AT (AC (AF (AB kR (AA (CY U28_ rfl BJ rfl a2 fun h4 d6=>(?_))))))
 obtain ⟨a8,a9,rfl,a3,a4⟩:=d6
 have:=a3.len_le
 have:=a4.len_le
 refine BZ (BE (vs:=[vI c.epoch,vI c.threshold,vI c.wait,a8,a9]) (.agg #[vI c.epoch,vI c.threshold,vI c.wait,a8,a9]) rfl rfl rfl BJ (fun u hu=>by simp only [List.mem_cons,List.not_mem_nil,or_false] at hu;rcases hu with rfl|rfl|rfl|rfl|rfl <;> first|rfl|exact a3.oneCell|exact a4.oneCell) (by repeat (constructor)) a1 oT c8 fun j3 g2 b9 j4 c4=>(?_))
 have a5:=a5.mv b9
 have a3:=a3.mv b9
 have a4:=a4.mv b9
 refine AG (AC (AF (AB kR (AA (AH 0 MF rfl (AA (AK U3_ rfl (vI c.epoch) rfl c4 rfl (AA (DR .i64 c.epoch (1:Int) (c.epoch+(1:Int)) rfl rfl (GZ oM oM) (AA (AH 0 MF rfl (BZ (BY (vI (c.epoch+(1:Int))) rfl rfl rfl OB (by repeat (constructor)) c4 oT g2 fun j5 g3 c0 j6 c5=>(?_))))))))))))))
 have a5:=a5.mv c0
 have a3:=a3.mv c0
 have a4:=a4.mv c0
 refine AG (AC (AF (AB kR (AA (BI (vs:=[vI (c.epoch+(1:Int)),vI c.threshold,vI c.wait,a8,a9]) U28_ rfl BJ rfl c5 rfl (AA (AD (b0) rfl (BZ (BE (vs:=[vI (c.epoch+(1:Int)),vI c.threshold,vI c.wait,a8,a9]) (.agg #[vI (c.epoch+(1:Int)),vI c.threshold,vI c.wait,a8,a9]) rfl rfl rfl BJ (fun u hu=>by simp only [List.mem_cons,List.not_mem_nil,or_false] at hu;rcases hu with rfl|rfl|rfl|rfl|rfl <;> first|rfl|exact a3.oneCell|exact a4.oneCell) (by repeat (constructor)) c5 oT g3 fun j7 g4 c1 j8 d7=>(?_))))))))))
 have a5:=a5.mv c1
 have a3:=a3.mv c1
 have a4:=a4.mv c1
 refine AA (AE (b0) rfl (AA (AE (vI 0) rfl (AG (AC (AM (AZ rfl (IR rfl (EE (vs:=[vI (c.epoch+(1:Int)),vI c.threshold,vI c.wait,a8,a9]) rfl U28_ rfl BJ rfl d7 rfl) (EK rfl rfl) (EK rfl rfl)) (?_))))))))
 have g5:((BM c l coins).1)=(⟨c.epoch+(1:Int),c.threshold,c.wait,c.guardians,c.recs⟩:Circle):=by exact congrArg (fun p=>p.1) (show BM c l coins=_ from VU aS aS aS)
 have g6:((BM c l coins).2.1)=((BR l coins).1):=by exact congrArg (fun p=>p.2.1) (show BM c l coins=_ from VU aS aS aS)
 have g7:((BM c l coins).2.2)=(0:Int):=by exact congrArg (fun p=>p.2.2) (show BM c l coins=_ from VU aS aS aS)
 exact ⟨_,rfl,g4.keep,by rw [g5,g6,g7];exact ⟨[vI (c.epoch+(1:Int)),vI c.threshold,vI c.wait,a8,a9],b0,rfl,Enc.out (B:=(a7 :: [])) ⟨_,_,rfl,a3,a4⟩,a5.out⟩⟩
set_option maxHeartbeats 4000000 in
set_option maxRecDepth 100000 in
theorem WY {O:List Nat} (c_cs:List Value) (c:Circle) (no:Int) (l_v:Value) (l:List Share) (w:World) (b8:Enc.circle.rd w O c_cs c) (a2:BL Enc.share w O l_v l) (hO:∀ b∈O,b<w.heap.size):CM Try.prog 14 [.agg c_cs.toArray,vI no,l_v] w (fun v w'=>∃ (x0:Value),v = .tuple #[x0,vI ((BX c no l).2)]∧BL Enc.u8 w' (O) x0 ((BX c no l).1)):= by
 have b8:Enc.circle.rd w ([]++O) c_cs c:=b8
 have g0:=a2.len_le
 have a2:BL Enc.share w ([]++O) l_v l:=a2
 have s0:St w O w []:=St.start hO
 refine BP 44 Try.func14 rfl rfl oT (fun F0=>AF (AB kR (AA (EC (E:=Enc.circle) (vA c_cs.toArray) (c_cs) c rfl rfl b8 s0 fun g1 c5 b6 c6 g2 a0=>(?_)))))
 have a2:=a2.mv c6
 refine AA (AE (nS) rfl (AA (AE (vI 0) rfl (AG (AC (AF (AF (AB kR (AA (CY U28_ rfl BJ rfl a0 fun b0 b9=>(AA (BF (vs:=[vA b0.toArray]) SZ (QW (O:=[]++O) b0 c c5 b9 b6.lt) rfl b6 fun g3 c7 a1 b7 g4 c8=>(?_)))))))))))))
 obtain rfl:=c8
 have a2:=a2.mv b7
 have a0:=a0.mv b7
 refine AA (AE (vI (AO c)) rfl (AG (AC (AF (AB kR (AA (AD (vI (AO c)) rfl (AA (DQ .i64 (AO c) (0:Int) rfl rfl (AG (AC (AJ ((AO c) != (0:Int)) rfl rfl (fun a3=>?_) (fun a3=>?_)))))))))))))
 ·have e8:AO c≠(0:Int):=by simpa using a3
  refine AF (AB kR (AA (AD (vI (AO c)) rfl (AA (AE (nS) rfl (AA (AE (vI (AO c)) rfl (AG (AC (AM (AP (AZ rfl (GE rfl rfl rfl rfl) (?_)))))))))))))
  have c9:((BX c no l).1)=([]):=by exact congrArg (fun p=>p.1) (show BX c no l=_ from rest_1 aS)
  have d0:((BX c no l).2)=(AO c):=by exact congrArg (fun p=>p.2) (show BX c no l=_ from rest_1 aS)
  exact ⟨_,rfl,a1.keep,by rw [c9,d0];exact ⟨.slice none 0 0,rfl,BL.nil _ _ _⟩⟩
 have e9:AO c=(0:Int):=by simpa using a3
 refine AT (AC (AF (AF (AB kR (AA (AD (vI no) rfl (AA (EB .i64 no (0:Int) rfl rfl (AA (AD (vO (decide (no<(0:Int)))) rfl (?_)))))))))))
 cases b1:(decide (no<(0:Int)))
 ·have f0:(0:Int)≤no:=by simpa using b1
  refine AY rfl (AD (vI no) rfl (AY rfl (BO 4 EF (c.recs) rfl a0 (fun _ _ _ h=>CV h) fun g5 c0=>(AY rfl (CI U26_ rfl rfl c0 fun g6 b2=>(?_))))))
  have:=b2.len_le
  refine AY rfl (CK U26_ rfl b2 (AY rfl (ID .i64 no (c.recs.length:Int) rfl rfl (AA (BK (vO (decide ((c.recs.length:Int)≤no))) rfl rfl (AG (AC (AJ (decide ((c.recs.length:Int)≤no)) rfl rfl (fun a4=>?_) (fun a4=>?_)))))))))
  ·have f1:(c.recs.length:Int)≤no:=by simpa using a4
   refine AF (AB kR (AA (AE (nS) rfl (AA (AE (vI 1) rfl (AG (AC (AM (AP (AZ rfl (GE rfl rfl rfl rfl) (?_)))))))))))
   have d1:((BX c no l).1)=([]):=by exact congrArg (fun p=>p.1) (show BX c no l=_ from UT aS (.inr aS))
   have d2:((BX c no l).2)=(1:Int):=by exact congrArg (fun p=>p.2) (show BX c no l=_ from UT aS (.inr aS))
   exact ⟨_,rfl,a1.keep,by rw [d1,d2];exact ⟨.slice none 0 0,rfl,BL.nil _ _ _⟩⟩
  have f2:no<(c.recs.length:Int):=by simpa using a4
  refine AT (AC (AF (AF (AB kR (AA (BO 4 EF (c.recs) rfl a0 (fun _ _ _ h=>CV h) fun g7 c1=>(AA (CI U26_ rfl rfl c1 fun g8 b3=>(?_)))))))))
  have:=b3.len_le
  refine AA (AD (vI no) rfl (AA (DO U26_ GK .i64 no no.toNat rfl rfl oM b3 oM fun g9 c2=>(AA (BO 2 LO ((c.recs[no.toNat]!).state) rfl c2 (fun _ _ _ h=>JA h) fun h0 c3=>(AA (CG U3_ rfl rfl c3 (AG (AC (BQ (AF (AB kR (AA (EZ .i64 ((c.recs[no.toNat]!).state) (2:Int) rfl rfl (AA (AE (vO (((c.recs[no.toNat]!).state) == (2:Int))) rfl (AG (AC (AJ (((c.recs[no.toNat]!).state) == (2:Int)) rfl rfl (fun a5=>?_) (fun a5=>?_))))))))))))))))))))
  ·have f3:(c.recs[no.toNat]!).state=(2:Int):=by simpa using a5
   refine AF (AB kR (AA (AE (nS) rfl (AA (AE (vI 452) rfl (AG (AC (AM (CE (AP (AZ rfl (GE rfl rfl rfl rfl) (?_))))))))))))
   have d3:((BX c no l).1)=([]):=by exact congrArg (fun p=>p.1) (show BX c no l=_ from rest_3 aS oM oM aS)
   have d4:((BX c no l).2)=(452:Int):=by exact congrArg (fun p=>p.2) (show BX c no l=_ from rest_3 aS oM oM aS)
   exact ⟨_,rfl,a1.keep,by rw [d3,d4];exact ⟨.slice none 0 0,rfl,BL.nil _ _ _⟩⟩
  have f4:(c.recs[no.toNat]!).state≠(2:Int):=by simpa using a5
  refine AF (AB kR (AA (EZ .i64 ((c.recs[no.toNat]!).state) (0:Int) rfl rfl (AA (AE (vO (((c.recs[no.toNat]!).state) == (0:Int))) rfl (AG (AC (AJ (((c.recs[no.toNat]!).state) == (0:Int)) rfl rfl (fun a6=>?_) (fun a6=>?_)))))))))
  ·have f5:(c.recs[no.toNat]!).state=(0:Int):=by simpa using a6
   refine AF (AB kR (AA (AE (nS) rfl (AA (AE (vI 460) rfl (AG (AC (AM (CE (AP (AZ rfl (GE rfl rfl rfl rfl) (?_))))))))))))
   have d5:((BX c no l).1)=([]):=by exact congrArg (fun p=>p.1) (show BX c no l=_ from rest_4 aS oM oM aS)
   have d6:((BX c no l).2)=(460:Int):=by exact congrArg (fun p=>p.2) (show BX c no l=_ from rest_4 aS oM oM aS)
   exact ⟨_,rfl,a1.keep,by rw [d5,d6];exact ⟨.slice none 0 0,rfl,BL.nil _ _ _⟩⟩
  have f6:(c.recs[no.toNat]!).state≠(0:Int):=by simpa using a6
  refine AT (CB (AC (AF (AF (AB kR (AA (CY U28_ rfl BJ rfl a0 fun b4 c4=>(AA (AD (l_v) rfl (AA (BF (vs:=[vA b4.toArray,l_v]) YB (YN (O:=[]++O) b4 c l_v l c7 c4 a2 a1.lt) rfl a1 fun h1 d7 a8 d8 h2 d9=>(?_))))))))))))
  obtain rfl:=d9
  have a2:=a2.mv d8
  refine AA (AE (vI (CD c l)) rfl (AG (AC (AF (AB kR (AA (AD (vI (CD c l)) rfl (AA (DQ .i64 (CD c l) (0:Int) rfl rfl (AG (AC (AJ ((CD c l) != (0:Int)) rfl rfl (fun a7=>?_) (fun a7=>?_)))))))))))))
  ·have f7:CD c l≠(0:Int):=by simpa using a7
   refine AF (AB kR (AA (AD (vI (CD c l)) rfl (AA (AE (nS) rfl (AA (AE (vI (CD c l)) rfl (AG (AC (AM (AP (AZ rfl (GE rfl rfl rfl rfl) (?_)))))))))))))
   have e0:((BX c no l).1)=([]):=by exact congrArg (fun p=>p.1) (show BX c no l=_ from UD aS oM oM aS aS aS)
   have e1:((BX c no l).2)=(CD c l):=by exact congrArg (fun p=>p.2) (show BX c no l=_ from UD aS oM oM aS aS aS)
   exact ⟨_,rfl,a8.keep,by rw [e0,e1];exact ⟨.slice none 0 0,rfl,BL.nil _ _ _⟩⟩
  have f8:CD c l=(0:Int):=by simpa using a7
  refine AT (AC (AF (AB kR (AA (AD (l_v) rfl (AA (BF (vs:=[l_v]) enter_30 (c_join (O:=[]++O) l_v l d7 a2 a8.lt) rfl a8 fun h3 h4 e2 h5 h6 e3=>(?_))))))))
  obtain ⟨a9,rfl,b5⟩:=e3
  have:=b5.len_le
  refine AA (AL (a9) rfl rfl (AA (AL (vI ((CS l).2)) rfl rfl (AA (AE (a9) rfl (AA (AE (vI ((CS l).2)) rfl (AG (AC (AM (AZ rfl (GE rfl rfl rfl rfl) (?_))))))))))))
  have e4:((BX c no l).1)=((CS l).1):=by exact congrArg (fun p=>p.1) (show BX c no l=_ from UF aS oM oM aS aS aS)
  have e5:((BX c no l).2)=((CS l).2):=by exact congrArg (fun p=>p.2) (show BX c no l=_ from UF aS oM oM aS aS aS)
  exact ⟨_,rfl,e2.keep,by rw [e4,e5];exact ⟨a9,rfl,b5.out⟩⟩
 have f9:no<(0:Int):=by simpa using b1
 refine AN rfl (AN rfl (AN rfl (AN rfl (AN rfl (AA (BH (vO true) rfl rfl (AG (AC (AJ true rfl rfl (fun _=>AF (AB kR (AA (AE (nS) rfl (AA (AE (vI 1) rfl (AG (AC (AM (AP (AZ rfl (GE rfl rfl rfl rfl) (?_)))))))))))) (fun h=>by cases h))))))))))
 have e6:((BX c no l).1)=([]):=by exact congrArg (fun p=>p.1) (show BX c no l=_ from UT aS (.inl aS))
 have e7:((BX c no l).2)=(1:Int):=by exact congrArg (fun p=>p.2) (show BX c no l=_ from UT aS (.inl aS))
 exact ⟨_,rfl,a1.keep,by rw [e6,e7];exact ⟨.slice none 0 0,rfl,BL.nil _ _ _⟩⟩
set_option maxHeartbeats 4000000 in
set_option maxRecDepth 100000 in
theorem ZM {O:List Nat} (c_cs:List Value) (c:Circle) (l_v:Value) (l:List Share) (others_v:Value) (others:List Int) (t:Int) (coins_v:Value) (coins:List UInt8) (w:World) (h0:Enc.circle.rd w O c_cs c) (b5:BL Enc.share w O l_v l) (a2:BL Enc.int w O others_v others) (a0:BL Enc.u8 w O coins_v coins) (hpre0:others.length≤1000000) (hO:∀ b∈O,b<w.heap.size):CM Try.prog 28 [.agg c_cs.toArray,l_v,others_v,vI t,coins_v] w (fun v w'=>∃ (x0:List Value) (x1:Value),v = .tuple #[.agg x0.toArray,x1,vI ((AU c l others t coins).2.2)]∧Enc.circle.rd w' (O) x0 ((AU c l others t coins).1)∧BL Enc.share w' (O) x1 ((AU c l others t coins).2.1)):= by
 have h0:Enc.circle.rd w ([]++O) c_cs c:=h0
 have r4:=b5.len_le
 have b5:BL Enc.share w ([]++O) l_v l:=b5
 have i8:=a2.len_le
 have a2:BL Enc.int w ([]++O) others_v others:=a2
 have p6:=a0.len_le
 have a0:BL Enc.u8 w ([]++O) coins_v coins:=a0
 have s0:St w O w []:=St.start hO
 refine BP 61 Try.func28 rfl rfl oT (fun F0=>AF (AB kR (AA (EC (E:=Enc.circle) (vA c_cs.toArray) (c_cs) c rfl rfl h0 s0 fun r5 r6 i9 e2 r7 a7=>(?_)))))
 have b5:=b5.mv e2
 have a2:=a2.mv e2
 have a0:=a0.mv e2
 refine AA (CR [vI 0,vI 0,vI 0,nS,nS] IO rfl i9 fun a5 j0 j1 f6 c1 r8 a6=>(?_))
 clear j1
 have b5:=b5.mv c1
 have a2:=a2.mv c1
 have a0:=a0.mv c1
 have a7:=a7.mv c1
 refine AA (AE (nS) rfl (AA (AE (vI 0) rfl (AG (AC (AF (AF (AB kR (AA (CY U28_ rfl BJ rfl a7 fun f0 h1=>(AA (BF (vs:=[vA f0.toArray]) SZ (QW (O:=(a5 :: [])++O) f0 c j0 h1 f6.lt) rfl f6 fun r9 j2 e3 c2 j3 j4=>(?_)))))))))))))
 obtain rfl:=j4
 have b5:=b5.mv c2
 have a2:=a2.mv c2
 have a0:=a0.mv c2
 have a7:=a7.mv c2
 have a6:=a6.keep j3 (by simp)
 refine AA (AE (vI (AO c)) rfl (AG (AC (AF (AB kR (AA (AD (vI (AO c)) rfl (AA (DQ .i64 (AO c) (0:Int) rfl rfl (AG (AC (AJ ((AO c) != (0:Int)) rfl rfl (fun d2=>?_) (fun d2=>?_)))))))))))))
 ·have p8:AO c≠(0:Int):=by simpa using d2
  refine AF (AB kR (AA (BI (vs:=[vI 0,vI 0,vI 0,nS,nS]) U28_ rfl BJ rfl a6 rfl (AA (AD (vI (AO c)) rfl (BZ (BE (vs:=[vI 0,vI 0,vI 0,nS,nS]) (.agg #[vI 0,vI 0,vI 0,nS,nS]) rfl rfl rfl BJ (fun u hu=>by simp only [List.mem_cons,List.not_mem_nil,or_false] at hu;rcases hu with rfl|rfl|rfl|rfl|rfl <;> rfl) (by repeat (constructor)) a6 oT e3 fun s1 j5 s2 s3 h2=>(AA (AE (nS) rfl (AA (AE (vI (AO c)) rfl (AG (AC (AM (AP (AZ rfl (IR rfl (EE (vs:=[vI 0,vI 0,vI 0,nS,nS]) rfl U28_ rfl BJ rfl h2 rfl) (EK rfl rfl) (EK rfl rfl)) (?_)))))))))))))))))
  have j6:((AU c l others t coins).1)=(⟨(0:Int),(0:Int),(0:Int),[],[]⟩:Circle):=by exact congrArg (fun p=>p.1) (show AU c l others t coins=_ from QQ aS)
  have j7:((AU c l others t coins).2.1)=([]):=by exact congrArg (fun p=>p.2.1) (show AU c l others t coins=_ from QQ aS)
  have j8:((AU c l others t coins).2.2)=(AO c):=by exact congrArg (fun p=>p.2.2) (show AU c l others t coins=_ from QQ aS)
  exact ⟨_,rfl,j5.keep,by rw [j6,j7,j8];exact ⟨[vI 0,vI 0,vI 0,nS,nS], .slice none 0 0,rfl,Enc.out (B:=(a5 :: [])) ⟨.slice none 0 0, .slice none 0 0,rfl,(BL.nil _ _ _),(BL.nil _ _ _)⟩,BL.nil _ _ _⟩⟩
 have h3:AO c=(0:Int):=by simpa using d2
 have hok:AO c=0:=h3
 have hepb:=circ_ep hok
 refine AT (AC (AF (AF (AB kR (AA (CY U28_ rfl BJ rfl a7 fun f1 h4=>(AA (AD (l_v) rfl (AA (BF (vs:=[vA f1.toArray,l_v]) YB (YN (O:=(a5 :: [])++O) f1 c l_v l j2 h4 b5 e3.lt) rfl e3 fun s4 j9 e4 c3 k0 k5=>(?_)))))))))))
 obtain rfl:=k5
 have b5:=b5.mv c3
 have a2:=a2.mv c3
 have a0:=a0.mv c3
 have a7:=a7.mv c3
 have a6:=a6.keep k0 (by simp)
 refine AA (AE (vI (CD c l)) rfl (AG (AC (AF (AB kR (AA (AD (vI (CD c l)) rfl (AA (DQ .i64 (CD c l) (0:Int) rfl rfl (AG (AC (AJ ((CD c l) != (0:Int)) rfl rfl (fun d3=>?_) (fun d3=>?_)))))))))))))
 ·have p9:CD c l≠(0:Int):=by simpa using d3
  refine AF (AB kR (AA (BI (vs:=[vI 0,vI 0,vI 0,nS,nS]) U28_ rfl BJ rfl a6 rfl (AA (AD (vI (CD c l)) rfl (BZ (BE (vs:=[vI 0,vI 0,vI 0,nS,nS]) (.agg #[vI 0,vI 0,vI 0,nS,nS]) rfl rfl rfl BJ (fun u hu=>by simp only [List.mem_cons,List.not_mem_nil,or_false] at hu;rcases hu with rfl|rfl|rfl|rfl|rfl <;> rfl) (by repeat (constructor)) a6 oT e4 fun s5 k6 s6 s7 h5=>(AA (AE (nS) rfl (AA (AE (vI (CD c l)) rfl (AG (AC (AM (AP (AZ rfl (IR rfl (EE (vs:=[vI 0,vI 0,vI 0,nS,nS]) rfl U28_ rfl BJ rfl h5 rfl) (EK rfl rfl) (EK rfl rfl)) (?_)))))))))))))))))
  have k7:((AU c l others t coins).1)=(⟨(0:Int),(0:Int),(0:Int),[],[]⟩:Circle):=by exact congrArg (fun p=>p.1) (show AU c l others t coins=_ from QM aS aS)
  have k8:((AU c l others t coins).2.1)=([]):=by exact congrArg (fun p=>p.2.1) (show AU c l others t coins=_ from QM aS aS)
  have k9:((AU c l others t coins).2.2)=(CD c l):=by exact congrArg (fun p=>p.2.2) (show AU c l others t coins=_ from QM aS aS)
  exact ⟨_,rfl,k6.keep,by rw [k7,k8,k9];exact ⟨[vI 0,vI 0,vI 0,nS,nS], .slice none 0 0,rfl,Enc.out (B:=(a5 :: [])) ⟨.slice none 0 0, .slice none 0 0,rfl,(BL.nil _ _ _),(BL.nil _ _ _)⟩,BL.nil _ _ _⟩⟩
 have q0:CD c l=(0:Int):=by simpa using d3
 refine AT (AC (AF (AB kR (AA (AD (l_v) rfl (AA (BF (vs:=[l_v]) enter_30 (c_join (O:=(a5 :: [])++O) l_v l j9 b5 e4.lt) rfl e4 fun s8 s9 f7 e5 l0 l1=>(?_))))))))
 obtain ⟨b3,rfl,a3⟩:=l1
 have:=a3.len_le
 have a2:=a2.mv e5
 have a0:=a0.mv e5
 have a7:=a7.mv e5
 have a6:=a6.keep l0 (by simp)
 refine AA (AD (vT #[b3,vI ((CS l).2)]) rfl (AA (AL (b3) rfl rfl (AA (AL (vI ((CS l).2)) rfl rfl (AA (AE (b3) rfl (AA (AE (vI ((CS l).2)) rfl (AG (AC (AF (AF (AB kR (AA (AD (vI ((CS l).2)) rfl (AA (DQ .i64 ((CS l).2) (0:Int) rfl rfl (AG (AC (AJ (((CS l).2) != (0:Int)) rfl rfl (fun d4=>?_) (fun d4=>?_))))))))))))))))))))))
 ·have q1:(CS l).2≠(0:Int):=by simpa using d4
  refine AF (AB kR (AA (BI (vs:=[vI 0,vI 0,vI 0,nS,nS]) U28_ rfl BJ rfl a6 rfl (AA (AD (vI ((CS l).2)) rfl (BZ (BE (vs:=[vI 0,vI 0,vI 0,nS,nS]) (.agg #[vI 0,vI 0,vI 0,nS,nS]) rfl rfl rfl BJ (fun u hu=>by simp only [List.mem_cons,List.not_mem_nil,or_false] at hu;rcases hu with rfl|rfl|rfl|rfl|rfl <;> rfl) (by repeat (constructor)) a6 oT f7 fun t0 l2 t2 t3 h6=>(AA (AE (nS) rfl (AA (AE (vI ((CS l).2)) rfl (AG (AC (AM (AP (AZ rfl (IR rfl (EE (vs:=[vI 0,vI 0,vI 0,nS,nS]) rfl U28_ rfl BJ rfl h6 rfl) (EK rfl rfl) (EK rfl rfl)) (?_)))))))))))))))))
  have l3:((AU c l others t coins).1)=(⟨(0:Int),(0:Int),(0:Int),[],[]⟩:Circle):=by exact congrArg (fun p=>p.1) (show AU c l others t coins=_ from QR aS aS aS)
  have l4:((AU c l others t coins).2.1)=([]):=by exact congrArg (fun p=>p.2.1) (show AU c l others t coins=_ from QR aS aS aS)
  have l5:((AU c l others t coins).2.2)=((CS l).2):=by exact congrArg (fun p=>p.2.2) (show AU c l others t coins=_ from QR aS aS aS)
  exact ⟨_,rfl,l2.keep,by rw [l3,l4,l5];exact ⟨[vI 0,vI 0,vI 0,nS,nS], .slice none 0 0,rfl,Enc.out (B:=(a5 :: [])) ⟨.slice none 0 0, .slice none 0 0,rfl,(BL.nil _ _ _),(BL.nil _ _ _)⟩,BL.nil _ _ _⟩⟩
 have q2:(CS l).2=(0:Int):=by simpa using d4
 refine AT (AC (AF (AB kR (AA (CY U28_ rfl BJ rfl a7 fun q3 h7=>(?_))))))
 obtain ⟨f8,a4,rfl,f2,a1⟩:=h7
 have:=f2.len_le
 have:=a1.len_le
 refine BZ (BE (vs:=[vI c.epoch,vI c.threshold,vI c.wait,f8,a4]) (.agg #[vI c.epoch,vI c.threshold,vI c.wait,f8,a4]) rfl rfl rfl BJ (fun u hu=>by simp only [List.mem_cons,List.not_mem_nil,or_false] at hu;rcases hu with rfl|rfl|rfl|rfl|rfl <;> first|rfl|exact f2.oneCell|exact a1.oneCell) (by repeat (constructor)) a6 oT f7 fun t4 l6 c4 t5 f3=>(?_))
 have a2:=a2.mv c4
 have a0:=a0.mv c4
 have a3:=a3.mv c4
 have a1:=a1.mv c4
 refine AG (AC (AF (AB kR (AA (AH 0 MF rfl (AA (AK U3_ rfl (vI c.epoch) rfl f3 rfl (AA (DR .i64 c.epoch (1:Int) (c.epoch+(1:Int)) rfl rfl (GZ oM oM) (AA (AH 0 MF rfl (BZ (BY (vI (c.epoch+(1:Int))) rfl rfl rfl OB (by repeat (constructor)) f3 oT l6 fun l7 f9 c5 t6 b0=>(?_))))))))))))))
 have a2:=a2.mv c5
 have a0:=a0.mv c5
 have a3:=a3.mv c5
 have a1:=a1.mv c5
 refine AG (AC (AF (AB kR (AA (AD (others_v) rfl (AA (JV [others_v] _ WD rfl (BW 8 Try.func32 rfl rfl oT (fun t7=>AF (AB kR (AA (AE (nS) rfl (AG (AC (AF (AF (AB kR (AA (AD (others_v) rfl (AA (KU U22_ rfl rfl a2 fun d5 g7=>(AG (AC (AJ (d5) rfl rfl (fun d6=>?_) (fun d6=>?_)))))))))))))))))) (fun _ _ h=>h))))))))
 ·have q4:d5=true:=by simpa using d6
  refine AF (AB kR (AA (AE (nS) rfl (AG (AC (AM (AP (AZ rfl (CN rfl rfl rfl) (?_)))))))))
  have g8:others=[]:=g7 aS
  have a8:BL Enc.int l7 ((a5 :: [])++O) (.slice none 0 0) (others):=by rw [g8];exact BL.nil _ _ _
  refine Exists.intro _ (And.intro rfl (AA (AD (vI t) rfl (AA (AH 3 LK rfl (BZ (BY (.slice none 0 0) rfl rfl a8.oneCell s_22 (by repeat (constructor)) b0 oT f9 fun t8 l8 c6 t9 h8=>(?_))))))))
  have a0:=a0.mv c6
  have a3:=a3.mv c6
  have a1:=a1.mv c6
  have a8:=a8.mv c6
  refine AA (AH 1 KK rfl (BZ (BY (vI t) rfl rfl rfl OB (by repeat (constructor)) h8 oT l8 fun l9 g0 c7 u0 b6=>(?_))))
  have a0:=a0.mv c7
  have a3:=a3.mv c7
  have a1:=a1.mv c7
  have a8:=a8.mv c7
  refine AG (AC (AF (AB kR (AA (BI (vs:=[vI (c.epoch+(1:Int)),vI t,vI c.wait, .slice none 0 0,a4]) U28_ rfl BJ rfl b6 rfl (AA (AD (b3) rfl (AA (AD (coins_v) rfl (AA (BF (vs:=[vA #[vI (c.epoch+(1:Int)),vI t,vI c.wait, .slice none 0 0,a4],b3,coins_v]) SF (c_deal (O:=(a5 :: [])++O) [vI (c.epoch+(1:Int)),vI t,vI c.wait, .slice none 0 0,a4] (⟨c.epoch+(1:Int),t,c.wait,others,c.recs⟩:Circle) b3 ((CS l).1) coins_v coins l9 ⟨_,_,rfl,a8,a1⟩ a3 a0 g0.lt) rfl g0 fun u1 u2 g1 g2 m0 m1=>(?_))))))))))))
  obtain ⟨b7,rfl,b9⟩:=m1
  have:=b9.len_le
  have a1:=a1.mv g2
  have a8:=a8.mv g2
  have b6:=b6.keep m0 (by simp)
  refine AA (AD (vT #[b7,vI ((CU (⟨c.epoch+(1:Int),t,c.wait,others,c.recs⟩:Circle) ((CS l).1) coins).2)]) rfl (AA (AL (b7) rfl rfl (AA (AL (vI ((CU (⟨c.epoch+(1:Int),t,c.wait,others,c.recs⟩:Circle) ((CS l).1) coins).2)) rfl rfl (AA (AE (b7) rfl (AA (AE (vI ((CU (⟨c.epoch+(1:Int),t,c.wait,others,c.recs⟩:Circle) ((CS l).1) coins).2)) rfl (AG (AC (AF (AF (AB kR (AA (AD (vI ((CU (⟨c.epoch+(1:Int),t,c.wait,others,c.recs⟩:Circle) ((CS l).1) coins).2)) rfl (AA (DQ .i64 ((CU (⟨c.epoch+(1:Int),t,c.wait,others,c.recs⟩:Circle) ((CS l).1) coins).2) (0:Int) rfl rfl (AG (AC (AJ (((CU (⟨c.epoch+(1:Int),t,c.wait,others,c.recs⟩:Circle) ((CS l).1) coins).2) != (0:Int)) rfl rfl (fun d7=>?_) (fun d7=>?_))))))))))))))))))))))
  ·have q5:(CU (⟨c.epoch+(1:Int),t,c.wait,others,c.recs⟩:Circle) ((CS l).1) coins).2≠(0:Int):=by simpa using d7
   refine AF (AB kR (AA (DN (l:=[]) TA IO rfl [] [vI 0,vI 0,vI 0,nS,nS] rfl rfl (AA (AD (vI ((CU (⟨c.epoch+(1:Int),t,c.wait,others,c.recs⟩:Circle) ((CS l).1) coins).2)) rfl (BZ (BE (vs:=[vI 0,vI 0,vI 0,nS,nS]) (.agg #[vI 0,vI 0,vI 0,nS,nS]) rfl rfl rfl BJ (fun u hu=>by simp only [List.mem_cons,List.not_mem_nil,or_false] at hu;rcases hu with rfl|rfl|rfl|rfl|rfl <;> rfl) (by repeat (constructor)) b6 oT g1 fun u3 m2 u4 u5 h9=>(AA (AE (nS) rfl (AA (AE (vI ((CU (⟨c.epoch+(1:Int),t,c.wait,others,c.recs⟩:Circle) ((CS l).1) coins).2)) rfl (AG (AC (AM (AP (AZ rfl (IR rfl (EE (vs:=[vI 0,vI 0,vI 0,nS,nS]) rfl U28_ rfl BJ rfl h9 rfl) (EK rfl rfl) (EK rfl rfl)) (?_)))))))))))))))))
   have m3:((AU c l others t coins).1)=(⟨(0:Int),(0:Int),(0:Int),[],[]⟩:Circle):=by exact congrArg (fun p=>p.1) (show AU c l others t coins=_ from KS aS aS aS aS)
   have m4:((AU c l others t coins).2.1)=([]):=by exact congrArg (fun p=>p.2.1) (show AU c l others t coins=_ from KS aS aS aS aS)
   have m5:((AU c l others t coins).2.2)=((CU (⟨c.epoch+(1:Int),t,c.wait,others,c.recs⟩:Circle) ((CS l).1) coins).2):=by exact congrArg (fun p=>p.2.2) (show AU c l others t coins=_ from KS aS aS aS aS)
   exact ⟨_,rfl,m2.keep,by rw [m3,m4,m5];exact ⟨[vI 0,vI 0,vI 0,nS,nS], .slice none 0 0,rfl,Enc.out (B:=(a5 :: [])) ⟨.slice none 0 0, .slice none 0 0,rfl,(BL.nil _ _ _),(BL.nil _ _ _)⟩,BL.nil _ _ _⟩⟩
  have q6:(CU (⟨c.epoch+(1:Int),t,c.wait,others,c.recs⟩:Circle) ((CS l).1) coins).2=(0:Int):=by simpa using d7
  refine AT (AC (AF (AB kR (AA (BI (vs:=[vI (c.epoch+(1:Int)),vI t,vI c.wait, .slice none 0 0,a4]) U28_ rfl BJ rfl b6 rfl (AA (AD (b7) rfl (BZ (BE (vs:=[vI (c.epoch+(1:Int)),vI t,vI c.wait, .slice none 0 0,a4]) (.agg #[vI (c.epoch+(1:Int)),vI t,vI c.wait, .slice none 0 0,a4]) rfl rfl rfl BJ (fun u hu=>by simp only [List.mem_cons,List.not_mem_nil,or_false] at hu;rcases hu with rfl|rfl|rfl|rfl|rfl <;> first|rfl|exact a1.oneCell) (by repeat (constructor)) b6 oT g1 fun u6 m6 e6 u7 i0=>(?_))))))))))
  have b9:=b9.mv e6
  have a1:=a1.mv e6
  have a8:=a8.mv e6
  refine AA (AE (b7) rfl (AA (AE (vI 0) rfl (AG (AC (AM (AZ rfl (IR rfl (EE (vs:=[vI (c.epoch+(1:Int)),vI t,vI c.wait, .slice none 0 0,a4]) rfl U28_ rfl BJ rfl i0 rfl) (EK rfl rfl) (EK rfl rfl)) (?_))))))))
  have m7:((AU c l others t coins).1)=(⟨c.epoch+(1:Int),t,c.wait,others,c.recs⟩:Circle):=by exact congrArg (fun p=>p.1) (show AU c l others t coins=_ from KJ aS aS aS aS)
  have m9:((AU c l others t coins).2.1)=((CU (⟨c.epoch+(1:Int),t,c.wait,others,c.recs⟩:Circle) ((CS l).1) coins).1):=by exact congrArg (fun p=>p.2.1) (show AU c l others t coins=_ from KJ aS aS aS aS)
  have n2:((AU c l others t coins).2.2)=(0:Int):=by exact congrArg (fun p=>p.2.2) (show AU c l others t coins=_ from KJ aS aS aS aS)
  exact ⟨_,rfl,m6.keep,by rw [m7,m9,n2];exact ⟨[vI (c.epoch+(1:Int)),vI t,vI c.wait, .slice none 0 0,a4],b7,rfl,Enc.out (B:=(a5 :: [])) ⟨_,_,rfl,a8,a1⟩,b9.out⟩⟩
 have q7:d5=false:=by simpa using d6
 refine AT (AC (AF (AB kR (AA (IA (E:=Enc.int) (xs:=[]) U22_ OB z_3 (by decide) [] [] [] rfl rfl rfl (Parts.nil _ _ _) oT f9 fun g3 n3 u9 n4 d8 n5 c8 n6 i1=>(?_))))))
 have f4:∀ b,g3.ownBlock=some b→b≠a5:=fun b hb=>by have:=b0.lt;rw [d8] at hb;cases hb;omega
 have i2:∀ b,g3.ownBlock=some b→b∈(n3 :: (a5 :: [])):=fun b hb=>by rw [d8] at hb;cases hb;simp
 clear n4 d8
 have a2:=a2.mv c8
 have a0:=a0.mv c8
 have a3:=a3.mv c8
 have a1:=a1.mv c8
 have b0:=b0.keep n6 (by simp)
 refine AA (AD (others_v) rfl (AA (DI (E:=Enc.int) (l:=[]) (m:=others) U22_ i_3 rfl (by decide) rfl rfl i1 a2 (fun _ hb=>.inl hb) i2 (by simp;omega) (by simp [maxLen];omega) n5 fun a9 v0 n7 q8 i3 g9 n9 e7 o0 b4=>(?_))))
 rw [List.nil_append] at b4
 have d9:∀ b,a9.ownBlock=some b→b≠a5:=fun b hb=>by rcases i3 with e1|e1 <;> rw [e1] at hb <;> first|(cases hb;have:=b0.lt;omega)|(exact f4 b hb)
 have f5:a5∈n7:=g9 a5 (by repeat (constructor))
 have a0:=a0.mv e7
 have a3:=a3.mv e7
 have a1:=a1.mv e7
 have b0:=b0.keep o0 (by simp only [Option.mem_toList];exact fun e=>absurd rfl (f4 _ e))
 refine AA (AE (a9) rfl (AG (AC (AM (AZ rfl (CN rfl rfl rfl) (Exists.intro _ (And.intro rfl (AA (AD (vI t) rfl (AA (AH 3 LK rfl (BZ (BY (a9) rfl rfl b4.oneCell s_22 (by repeat (assumption)) b0 oT n9 fun v1 o1 c9 o2 i4=>(?_))))))))))))))
 have a0:=a0.mv c9
 have a3:=a3.mv c9
 have a1:=a1.mv c9
 have b4:=b4.mv c9 o2 (fun b hb=>AS (d9 b hb))
 refine AA (AH 1 KK rfl (BZ (BY (vI t) rfl rfl rfl OB (by repeat (assumption)) i4 oT o1 fun o3 o4 d0 o5 b1=>(?_))))
 have a0:=a0.mv d0
 have a3:=a3.mv d0
 have a1:=a1.mv d0
 have b4:=b4.mv d0 o5 (fun b hb=>AS (d9 b hb))
 refine AG (AC (AF (AB kR (AA (BI (vs:=[vI (c.epoch+(1:Int)),vI t,vI c.wait,a9,a4]) U28_ rfl BJ rfl b1 rfl (AA (AD (b3) rfl (AA (AD (coins_v) rfl (?_))))))))))
 obtain ⟨d1,g4,e8,b2,i5⟩:=b4.publish o4
 have f5:a5∈d1:=i5 a5 (by repeat (assumption)) (fun e=>absurd rfl (d9 _ e))
 have p7:=b2.len_le
 have a0:=a0.mv e8
 have a3:=a3.mv e8
 have a1:=a1.mv e8
 have b1:=b1.keep (Keep.refl [] _) (by simp)
 refine AA (BF (vs:=[vA #[vI (c.epoch+(1:Int)),vI t,vI c.wait,a9,a4],b3,coins_v]) SF (c_deal (O:=d1++O) [vI (c.epoch+(1:Int)),vI t,vI c.wait,a9,a4] (⟨c.epoch+(1:Int),t,c.wait,others,c.recs⟩:Circle) b3 ((CS l).1) coins_v coins o3 ⟨_,_,rfl,b2,a1⟩ a3 a0 g4.lt) rfl g4 fun v2 v3 g5 g6 o6 o7=>(?_))
 obtain ⟨b8,rfl,c0⟩:=o7
 have:=c0.len_le
 have a1:=a1.mv g6
 have b2:=b2.mv g6
 have b1:=b1.keep o6 (by simp)
 refine AA (AD (vT #[b8,vI ((CU (⟨c.epoch+(1:Int),t,c.wait,others,c.recs⟩:Circle) ((CS l).1) coins).2)]) rfl (AA (AL (b8) rfl rfl (AA (AL (vI ((CU (⟨c.epoch+(1:Int),t,c.wait,others,c.recs⟩:Circle) ((CS l).1) coins).2)) rfl rfl (AA (AE (b8) rfl (AA (AE (vI ((CU (⟨c.epoch+(1:Int),t,c.wait,others,c.recs⟩:Circle) ((CS l).1) coins).2)) rfl (AG (AC (AF (AF (AB kR (AA (AD (vI ((CU (⟨c.epoch+(1:Int),t,c.wait,others,c.recs⟩:Circle) ((CS l).1) coins).2)) rfl (AA (DQ .i64 ((CU (⟨c.epoch+(1:Int),t,c.wait,others,c.recs⟩:Circle) ((CS l).1) coins).2) (0:Int) rfl rfl (AG (AC (AJ (((CU (⟨c.epoch+(1:Int),t,c.wait,others,c.recs⟩:Circle) ((CS l).1) coins).2) != (0:Int)) rfl rfl (fun e0=>?_) (fun e0=>?_))))))))))))))))))))))
 ·have q9:(CU (⟨c.epoch+(1:Int),t,c.wait,others,c.recs⟩:Circle) ((CS l).1) coins).2≠(0:Int):=by simpa using e0
  refine AF (AB kR (AA (DN (l:=[]) TA IO rfl [] [vI 0,vI 0,vI 0,nS,nS] rfl rfl (AA (AD (vI ((CU (⟨c.epoch+(1:Int),t,c.wait,others,c.recs⟩:Circle) ((CS l).1) coins).2)) rfl (BZ (BE (vs:=[vI 0,vI 0,vI 0,nS,nS]) (.agg #[vI 0,vI 0,vI 0,nS,nS]) rfl rfl rfl BJ (fun u hu=>by simp only [List.mem_cons,List.not_mem_nil,or_false] at hu;rcases hu with rfl|rfl|rfl|rfl|rfl <;> rfl) (by repeat (assumption)) b1 oT g5 fun v4 o8 v5 v6 i6=>(AA (AE (nS) rfl (AA (AE (vI ((CU (⟨c.epoch+(1:Int),t,c.wait,others,c.recs⟩:Circle) ((CS l).1) coins).2)) rfl (AG (AC (AM (AP (AZ rfl (IR rfl (EE (vs:=[vI 0,vI 0,vI 0,nS,nS]) rfl U28_ rfl BJ rfl i6 rfl) (EK rfl rfl) (EK rfl rfl)) (?_)))))))))))))))))
  have o9:((AU c l others t coins).1)=(⟨(0:Int),(0:Int),(0:Int),[],[]⟩:Circle):=by exact congrArg (fun p=>p.1) (show AU c l others t coins=_ from KS aS aS aS aS)
  have p0:((AU c l others t coins).2.1)=([]):=by exact congrArg (fun p=>p.2.1) (show AU c l others t coins=_ from KS aS aS aS aS)
  have p1:((AU c l others t coins).2.2)=((CU (⟨c.epoch+(1:Int),t,c.wait,others,c.recs⟩:Circle) ((CS l).1) coins).2):=by exact congrArg (fun p=>p.2.2) (show AU c l others t coins=_ from KS aS aS aS aS)
  exact ⟨_,rfl,o8.keep,by rw [o9,p0,p1];exact ⟨[vI 0,vI 0,vI 0,nS,nS], .slice none 0 0,rfl,Enc.out (B:=d1) ⟨.slice none 0 0, .slice none 0 0,rfl,(BL.nil _ _ _),(BL.nil _ _ _)⟩,BL.nil _ _ _⟩⟩
 have r0:(CU (⟨c.epoch+(1:Int),t,c.wait,others,c.recs⟩:Circle) ((CS l).1) coins).2=(0:Int):=by simpa using e0
 refine AT (AC (AF (AB kR (AA (BI (vs:=[vI (c.epoch+(1:Int)),vI t,vI c.wait,a9,a4]) U28_ rfl BJ rfl b1 rfl (AA (AD (b8) rfl (BZ (BE (vs:=[vI (c.epoch+(1:Int)),vI t,vI c.wait,a9,a4]) (.agg #[vI (c.epoch+(1:Int)),vI t,vI c.wait,a9,a4]) rfl rfl rfl BJ (fun u hu=>by simp only [List.mem_cons,List.not_mem_nil,or_false] at hu;rcases hu with rfl|rfl|rfl|rfl|rfl <;> first|rfl|exact b2.oneCell|exact a1.oneCell) (by repeat (assumption)) b1 oT g5 fun v7 p2 e9 v8 i7=>(?_))))))))))
 have c0:=c0.mv e9
 have a1:=a1.mv e9
 have b2:=b2.mv e9
 refine AA (AE (b8) rfl (AA (AE (vI 0) rfl (AG (AC (AM (AZ rfl (IR rfl (EE (vs:=[vI (c.epoch+(1:Int)),vI t,vI c.wait,a9,a4]) rfl U28_ rfl BJ rfl i7 rfl) (EK rfl rfl) (EK rfl rfl)) (?_))))))))
 have p3:((AU c l others t coins).1)=(⟨c.epoch+(1:Int),t,c.wait,others,c.recs⟩:Circle):=by exact congrArg (fun p=>p.1) (show AU c l others t coins=_ from KJ aS aS aS aS)
 have p4:((AU c l others t coins).2.1)=((CU (⟨c.epoch+(1:Int),t,c.wait,others,c.recs⟩:Circle) ((CS l).1) coins).1):=by exact congrArg (fun p=>p.2.1) (show AU c l others t coins=_ from KJ aS aS aS aS)
 have p5:((AU c l others t coins).2.2)=(0:Int):=by exact congrArg (fun p=>p.2.2) (show AU c l others t coins=_ from KJ aS aS aS aS)
 exact ⟨_,rfl,p2.keep,by rw [p3,p4,p5];exact ⟨[vI (c.epoch+(1:Int)),vI t,vI c.wait,a9,a4],b8,rfl,Enc.out (B:=d1) ⟨_,_,rfl,b2,a1⟩,c0.out⟩⟩
open Go.Fw Go.RowKit
set_option maxHeartbeats 4000000 in
set_option maxRecDepth 100000 in
theorem NF {O B:List Nat} {w0 w:World} (e:Int) (x0 x1:Nat) (s0:St w0 O w B) (h0:FT w x0 28 [vI 0,vI 0,vI 0,nS,nS]) (h1:FT w x1 29 [vI 0]) (e2:x0∈B) (e3:x1∈B) (hne:x0≠x1):CallsD Try.prog 103 [vP (some ⟨x0,0,none⟩),vP (some ⟨x1,0,none⟩)].toArray (.panicking [{ v:=.iface 125 (.agg #[vI e]),recovered:=false }]) w (fun e_ u_ w_=>u_=YP (.panicking [{ v:=.iface 125 (.agg #[vI e]),recovered:=false }])∧∃ v,e_ = .returned v∧St w0 O w_ B∧Mv B w B w_∧Keep [x0,x1] w w_∧FT w_ x0 28 [vI 0,vI 0,vI 0,nS,nS]∧FT w_ x1 29 [vI e]):= by
  have ms:Mv B w B w:=Mv.refl _ _
  have ks:Keep [x0,x1] w w:=Keep.refl _ _
  refine WQ 19 (.panicking [{ v:=.iface 125 (.agg #[vI e]),recovered:=false }]) Try.func103 rfl rfl oT rfl rfl (fun F0=>AF (AB kR (AA (AD (Value.iface 125 (vA #[vI e])) rfl (AA (o_neqNil U20_ rfl (AG (AC (AJ true rfl rfl (fun _=>AF (AB kR (AA (AD (Value.iface 125 (vA #[vI e])) rfl (AA (o_assertOk U125_ rfl rfl (AA (AD (vT #[vA #[vI e],vO true]) rfl (AA (AL (vA #[vI e]) rfl rfl (AA (AL (vO true) rfl rfl (AA (CR [vI 0] QA rfl s0 fun a2 e4 c1 c2 c3 a8 b7=>(?_))))))))))))))) (fun h=>by cases h))))))))))
  have c4:w.heap.size≤a2:=by have:=ks.size;omega
  have a3:x0≠a2:=by have:=h0.lt;omega
  have a4:x1≠a2:=by have:=h1.lt;omega
  clear c1
  have h0:=h0.keep a8 (by simp)
  have h1:=h1.keep a8 (by simp)
  have ms:=ms.trans c3
  have ks:=ks.step0 a8 (fun b hb=>by (simp at hb;done))
  refine BZ (BE (vs:=[vI e]) (.agg #[vI e]) rfl rfl rfl s_125 (fun u hu=>by simp only [List.mem_cons,List.not_mem_nil,or_false] at hu;rcases hu with rfl <;> rfl) (by repeat (constructor)) b7 oT c2 fun c5 c6 c7 a9 a0=>(?_))
  have h0:=h0.keep a9 (AS a3)
  have h1:=h1.keep a9 (AS a4)
  have ms:=ms.trans c7
  have ks:=ks.step0 a9 (fun b hb=>by (simp only [List.mem_singleton] at hb;subst hb;(right;omega)))
  refine AA (AE (vO true) rfl (AG (AC (AF (AF (AB kR (AA (AD (vO true) rfl (AA (FF true rfl (AG (AC (AJ false rfl rfl (fun h=>by cases h) (fun _=>AT (AC (FM [] [1,2,3] [[(0,1),(1,1),(2,1),(3,0),(4,0)],[(0,1),(1,1),(3,0),(2,1),(4,0)],[(0,1),(3,0),(1,1),(2,1),(4,0)]] (by intro c F d v w hd;(try simp only [GI,FG]);exact GJ c F d v w hd) kR kR kR fun c8 a1=>?_))))))))))))))))
  have b0:=c6.call a1
  have c9:Mv (a2 :: B) c5 (a2 :: B) c8:=Mv.of_keep a1
  have h0:=h0.keep a1 (by simp)
  have h1:=h1.keep a1 (by simp)
  have a0:=a0.keep a1 (by simp)
  have ms:=ms.trans c9
  have ks:=ks.step0 a1 (fun b hb=>by (simp at hb;done))
  refine ⟨?_,?_,?_,trivial⟩
  · refine BS (DN (l:=[]) TA IO rfl [] [vI 0,vI 0,vI 0,nS,nS] rfl rfl (EP (BS (AH 0 f_125_0 rfl (EP (BS (AK U29_ rfl (vI e) rfl a0 rfl (EP (JM (BE (vs:=[vI 0,vI 0,vI 0,nS,nS]) (.agg #[vI 0,vI 0,vI 0,nS,nS]) rfl rfl rfl BJ (fun u hu=>by simp only [List.mem_cons,List.not_mem_nil,or_false] at hu;rcases hu with rfl|rfl|rfl|rfl|rfl <;> rfl) rC h0 oT b0 fun e5 d0 d1 b1 a5=>(?_)))))))))))
    have h1:=h1.keep b1 (AS (Ne.symm hne))
    have a0:=a0.keep b1 (AS (Ne.symm a3))
    have ms:=ms.trans d1
    have ks:=ks.step0 b1 (fun b hb=>by (simp only [List.mem_singleton] at hb;subst hb;(left;simp [Value.ownBlock];done)))
    refine JM (BY (vI e) rfl rfl rfl PF rC h1 oT d0 fun e6 d2 d3 b2 b8=>(?_))
    have a5:=a5.keep b2 (AS hne)
    have a0:=a0.keep b2 (AS (Ne.symm a4))
    have ms:=ms.trans d3
    have ks:=ks.step0 b2 (fun b hb=>by (simp only [List.mem_singleton] at hb;subst hb;(left;simp [Value.ownBlock];done)))
    refine FH (FL rfl (HU rfl) (?_))
    exact ⟨_,rfl,d2.drop (fun b hb=>rC),ms.trans (Mv.drop (fun b hb=>rC)),ks,a5,b8⟩
  · refine BS (DN (l:=[]) TA IO rfl [] [vI 0,vI 0,vI 0,nS,nS] rfl rfl (EP (BS (AH 0 f_125_0 rfl (EP (JM (BE (vs:=[vI 0,vI 0,vI 0,nS,nS]) (.agg #[vI 0,vI 0,vI 0,nS,nS]) rfl rfl rfl BJ (fun u hu=>by simp only [List.mem_cons,List.not_mem_nil,or_false] at hu;rcases hu with rfl|rfl|rfl|rfl|rfl <;> rfl) rC h0 oT b0 fun e7 d4 d5 b3 a6=>(?_))))))))
    have h1:=h1.keep b3 (AS (Ne.symm hne))
    have a0:=a0.keep b3 (AS (Ne.symm a3))
    have ms:=ms.trans d5
    have ks:=ks.step0 b3 (fun b hb=>by (simp only [List.mem_singleton] at hb;subst hb;(left;simp [Value.ownBlock];done)))
    refine BS (AK U29_ rfl (vI e) rfl a0 rfl (EP (JM (BY (vI e) rfl rfl rfl PF rC h1 oT d4 fun e8 d6 d7 b4 b9=>(?_)))))
    have a6:=a6.keep b4 (AS hne)
    have a0:=a0.keep b4 (AS (Ne.symm a4))
    have ms:=ms.trans d7
    have ks:=ks.step0 b4 (fun b hb=>by (simp only [List.mem_singleton] at hb;subst hb;(left;simp [Value.ownBlock];done)))
    refine FH (FL rfl (HU rfl) (?_))
    exact ⟨_,rfl,d6.drop (fun b hb=>rC),ms.trans (Mv.drop (fun b hb=>rC)),ks,a6,b9⟩
  refine BS (DN (l:=[]) TA IO rfl [] [vI 0,vI 0,vI 0,nS,nS] rfl rfl (EP (JM (BE (vs:=[vI 0,vI 0,vI 0,nS,nS]) (.agg #[vI 0,vI 0,vI 0,nS,nS]) rfl rfl rfl BJ (fun u hu=>by simp only [List.mem_cons,List.not_mem_nil,or_false] at hu;rcases hu with rfl|rfl|rfl|rfl|rfl <;> rfl) rC h0 oT b0 fun e9 d8 d9 b5 a7=>(?_)))))
  have h1:=h1.keep b5 (AS (Ne.symm hne))
  have a0:=a0.keep b5 (AS (Ne.symm a3))
  have ms:=ms.trans d9
  have ks:=ks.step0 b5 (fun b hb=>by (simp only [List.mem_singleton] at hb;subst hb;(left;simp [Value.ownBlock];done)))
  refine BS (AH 0 f_125_0 rfl (EP (BS (AK U29_ rfl (vI e) rfl a0 rfl (EP (JM (BY (vI e) rfl rfl rfl PF rC h1 oT d8 fun f0 e0 e1 b6 c0=>(?_))))))))
  have a7:=a7.keep b6 (AS hne)
  have a0:=a0.keep b6 (AS (Ne.symm a4))
  have ms:=ms.trans e1
  have ks:=ks.step0 b6 (fun b hb=>by (simp only [List.mem_singleton] at hb;subst hb;(left;simp [Value.ownBlock];done)))
  refine FH (FL rfl (HU rfl) (?_))
  exact ⟨_,rfl,e0.drop (fun b hb=>rC),ms.trans (Mv.drop (fun b hb=>rC)),ks,a7,c0⟩
open Go.Fw Go.RowKit
set_option maxHeartbeats 4000000 in
set_option maxRecDepth 100000 in
theorem c_veto {O:List Nat} (c_cs:List Value) (c:Circle) (no:Int) (day:Int) (w:World) (s9:Enc.circle.rd w O c_cs c) (hO:∀ b∈O,b<w.heap.size):CM Try.prog 37 [.agg c_cs.toArray,vI no,vI day] w (fun v w'=>∃ (x0:List Value),v = .tuple #[.agg x0.toArray,vI ((AW c no (CF day)).2)]∧Enc.circle.rd w' (O) x0 ((AW c no (CF day)).1)):= by
 have s9:Enc.circle.rd w ([]++O) c_cs c:=s9
 have s0:St w O w []:=St.start hO
 refine BP 14 Try.func37 rfl rfl oT (fun F0=>AF (AB kR (AA (EC (E:=Enc.circle) (vA c_cs.toArray) (c_cs) c rfl rfl s9 s0 fun H5 H6 x3 H7 H8 f2=>(AA (EC (E:=Enc.int) (vI day) ([vI day]) day rfl rfl rfl x3 fun c4 H9 x4 x5 I0 b1=>(?_)))))))
 have f2:=f2.mv x5
 refine AA (CR [vI 0,vI 0,vI 0,nS,nS] IO rfl x4 fun b3 I1 x6 x7 p8 I2 a0=>(?_))
 clear x6
 have f2:=f2.mv p8
 have b1:=b1.mv p8
 refine AA (AE (vI 0) rfl (AG (AC (AF (AB kR (AA (CY U28_ rfl BJ rfl f2 fun j3 t0=>(AA (AD (vI no) rfl (AA (DF (first:=[]) (captured:=[.tmp 5]) [] [vP (some c4)] rfl rfl (AA (ES [vA j3.toArray,vI no,vN (.func 77) #[] #[vP (some c4)]] WF rfl (OW 51 Try.func68 rfl rfl oT (fun I3=>AF (AB kR (AA (EC (E:=Enc.circle) (vA j3.toArray) (j3) c rfl rfl t0 x7 fun I4 I5 x8 x9 y0 a5=>(?_)))))))))))))))))))
 have b1:=b1.mv x9
 have a0:=a0.keep y0 (by simp)
 refine AA (CR [vI 0,vI 0,vI 0,nS,nS] IO rfl x8 fun a9 I6 y1 y2 p9 y3 a4=>(?_))
 have c3:EY b3 a9:=by show b3≠a9;have:=a0.lt;omega
 clear y1
 have b1:=b1.mv p9
 have a5:=a5.mv p9
 have a0:=a0.keep y3 (by simp)
 refine AA (CR [vI 0] z_29 rfl y2 fun b0 y4 y5 q0 q1 q2 a1=>(?_))
 have d5:EY b3 b0:=by show b3≠b0;have:=a0.lt;omega
 have b9:EY a9 b0:=by show a9≠b0;have:=a4.lt;omega
 clear y5
 have b1:=b1.mv q1
 have a5:=a5.mv q1
 have a0:=a0.keep q2 (by simp)
 have a4:=a4.keep q2 (by simp)
 refine AG (AC (AF (AF (AB kR (AA (CY U28_ rfl BJ rfl a5 fun m3 t2=>(AA (BF (vs:=[vA m3.toArray]) MP (OJ (O:=(b0 :: (a9 :: (b3 :: [])))++O) m3 c y4 t2 q0.lt) rfl q0 fun I7 I8 h2 q3 k8 y6=>(?_)))))))))
 obtain rfl:=y6
 have b1:=b1.mv q3
 have a5:=a5.mv q3
 have a0:=a0.keep k8 (by simp)
 have a4:=a4.keep k8 (by simp)
 have a1:=a1.keep k8 (by simp)
 refine AA (AE (vI (AO c)) rfl (AG (AC (AF (AB kR (AA (AD (vI (AO c)) rfl (AA (DQ .i64 (AO c) (0:Int) rfl rfl (AG (AC (AJ ((AO c) != (0:Int)) rfl rfl (fun j4=>?_) (fun j4=>?_)))))))))))))
 ·have F7:AO c≠(0:Int):=by simpa using j4
  refine AF (AB kR (AA (BI (vs:=[vI 0,vI 0,vI 0,nS,nS]) U28_ rfl BJ rfl a4 rfl (AA (AD (vI (AO c)) rfl (BZ (BE (vs:=[vI 0,vI 0,vI 0,nS,nS]) (.agg #[vI 0,vI 0,vI 0,nS,nS]) rfl rfl rfl BJ (fun u hu=>by simp only [List.mem_cons,List.not_mem_nil,or_false] at hu;rcases hu with rfl|rfl|rfl|rfl|rfl <;> rfl) (by repeat (constructor)) a4 oT h2 fun I9 y7 J0 q4 j5=>(?_))))))))
  have a0:=a0.keep q4 (AS c3)
  have a1:=a1.keep q4 (AS (Ne.symm b9))
  refine BZ (BY (vI (AO c)) rfl rfl rfl PF (by repeat (constructor)) a1 oT y7 fun J1 y8 J2 q5 t3=>(?_))
  have a0:=a0.keep q5 (AS d5)
  have j5:=j5.keep q5 (AS b9)
  refine AG (AC (AM (AP (OY rfl (DT rfl (EE (vs:=[vI 0,vI 0,vI 0,nS,nS]) rfl U28_ rfl BJ rfl j5 rfl) (LS rfl U29_ rfl rfl t3 rfl)) (CZ (AA (AL (vA #[vI 0,vI 0,vI 0,nS,nS]) rfl rfl (AA (AL (vI (AO c)) rfl rfl (BZ (BE (vs:=[vI 0,vI 0,vI 0,nS,nS]) (.agg #[vI 0,vI 0,vI 0,nS,nS]) rfl rfl rfl BJ (fun u hu=>by simp only [List.mem_cons,List.not_mem_nil,or_false] at hu;rcases hu with rfl|rfl|rfl|rfl|rfl <;> rfl) (by repeat (constructor)) a0 oT y8 fun J3 y9 J4 J5 t4=>(AA (AE (vI (AO c)) rfl (AG (AC (AM (AZ rfl (DT rfl (EE (vs:=[vI 0,vI 0,vI 0,nS,nS]) rfl U28_ rfl BJ rfl t4 rfl) (EK rfl rfl)) (?_))))))))))))))))))
  have z0:((AW c no (CF day)).1)=(⟨(0:Int),(0:Int),(0:Int),[],[]⟩:Circle):=by exact congrArg (fun p=>p.1) (show AW c no (CF day)=_ from veto_bad aS)
  have z1:((AW c no (CF day)).2)=(AO c):=by exact congrArg (fun p=>p.2) (show AW c no (CF day)=_ from veto_bad aS)
  exact ⟨_,rfl,y9.keep,by rw [z0,z1];exact ⟨[vI 0,vI 0,vI 0,nS,nS],rfl,Enc.out (B:=(b0 :: (a9 :: (b3 :: [])))) ⟨.slice none 0 0, .slice none 0 0,rfl,(BL.nil _ _ _),(BL.nil _ _ _)⟩⟩⟩
 have t5:AO c=(0:Int):=by simpa using j4
 have hok:AO c=0:=t5
 have hrl:=QU hok
 refine AT (AC (AF (AF (AB kR (AA (AD (vI no) rfl (AA (EB .i64 no (0:Int) rfl rfl (AA (AD (vO (decide (no<(0:Int)))) rfl (?_)))))))))))
 cases m4:(decide (no<(0:Int)))
 ·have F8:(0:Int)≤no:=by simpa using m4
  refine AY rfl (AD (vI no) rfl (AY rfl (BO 4 EF (c.recs) rfl a5 (fun _ _ _ h=>CV h) fun J6 t6=>(AY rfl (CI U26_ rfl rfl t6 fun J7 m5=>(?_))))))
  have:=m5.len_le
  refine AY rfl (CK U26_ rfl m5 (AY rfl (ID .i64 no (c.recs.length:Int) rfl rfl (AA (BK (vO (decide ((c.recs.length:Int)≤no))) rfl rfl (AG (AC (AJ (decide ((c.recs.length:Int)≤no)) rfl rfl (fun j6=>?_) (fun j6=>?_)))))))))
  ·have F9:(c.recs.length:Int)≤no:=by simpa using j6
   refine AF (AB kR (AA (BI (vs:=[vI 0,vI 0,vI 0,nS,nS]) U28_ rfl BJ rfl a4 rfl (BZ (BE (vs:=[vI 0,vI 0,vI 0,nS,nS]) (.agg #[vI 0,vI 0,vI 0,nS,nS]) rfl rfl rfl BJ (fun u hu=>by simp only [List.mem_cons,List.not_mem_nil,or_false] at hu;rcases hu with rfl|rfl|rfl|rfl|rfl <;> rfl) (by repeat (constructor)) a4 oT h2 fun J8 z2 J9 q6 j7=>(?_))))))
   have a0:=a0.keep q6 (AS c3)
   have a1:=a1.keep q6 (AS (Ne.symm b9))
   refine BZ (BY (vI 1) rfl rfl rfl PF (by repeat (constructor)) a1 oT z2 fun K0 z3 K1 q7 t7=>(?_))
   have a0:=a0.keep q7 (AS d5)
   have j7:=j7.keep q7 (AS b9)
   refine AG (AC (AM (AP (OY rfl (DT rfl (EE (vs:=[vI 0,vI 0,vI 0,nS,nS]) rfl U28_ rfl BJ rfl j7 rfl) (LS rfl U29_ rfl rfl t7 rfl)) (CZ (AA (AL (vA #[vI 0,vI 0,vI 0,nS,nS]) rfl rfl (AA (AL (vI 1) rfl rfl (BZ (BE (vs:=[vI 0,vI 0,vI 0,nS,nS]) (.agg #[vI 0,vI 0,vI 0,nS,nS]) rfl rfl rfl BJ (fun u hu=>by simp only [List.mem_cons,List.not_mem_nil,or_false] at hu;rcases hu with rfl|rfl|rfl|rfl|rfl <;> rfl) (by repeat (constructor)) a0 oT z3 fun K2 z4 K3 K4 t8=>(AA (AE (vI 1) rfl (AG (AC (AM (AZ rfl (DT rfl (EE (vs:=[vI 0,vI 0,vI 0,nS,nS]) rfl U28_ rfl BJ rfl t8 rfl) (EK rfl rfl)) (?_))))))))))))))))))
   have z5:((AW c no (CF day)).1)=(⟨(0:Int),(0:Int),(0:Int),[],[]⟩:Circle):=by exact congrArg (fun p=>p.1) (show AW c no (CF day)=_ from VP hok oM)
   have z6:((AW c no (CF day)).2)=(1:Int):=by exact congrArg (fun p=>p.2) (show AW c no (CF day)=_ from VP hok oM)
   exact ⟨_,rfl,z4.keep,by rw [z5,z6];exact ⟨[vI 0,vI 0,vI 0,nS,nS],rfl,Enc.out (B:=(b0 :: (a9 :: (b3 :: [])))) ⟨.slice none 0 0, .slice none 0 0,rfl,(BL.nil _ _ _),(BL.nil _ _ _)⟩⟩⟩
  have G0:no<(c.recs.length:Int):=by simpa using j6
  refine AT (AC (AF (YE [vP (some ⟨a9,0,none⟩),vP (some ⟨b0,0,none⟩)] rfl rfl rfl rfl (AC (AF (AB kR (AA (BO 4 EF (c.recs) rfl a5 (fun _ _ _ h=>CV h) fun K5 t9=>(AA (CI U26_ rfl rfl t9 fun K6 m6=>(?_)))))))))))
  have:=m6.len_le
  refine AA (AD (vI no) rfl (AA (DO U26_ GK .i64 no no.toNat rfl rfl oM m6 oM fun K7 u0=>(AA (CY U68_ rfl GK rfl u0 fun G1 u1=>(?_))))))
  obtain ⟨e6,f8,rfl,a2,b2⟩:=u1
  have:=a2.len_le
  have:=b2.len_le
  refine AA (DN (l:=[(0, .tmp 31)]) pl_113 z_113 rfl [(0,vA #[vI ((c.recs[no.toNat]!).no),vI ((c.recs[no.toNat]!).asked),vI ((c.recs[no.toNat]!).state),e6,f8],[vI ((c.recs[no.toNat]!).no),vI ((c.recs[no.toNat]!).asked),vI ((c.recs[no.toNat]!).state),e6,f8])] [vI ((c.recs[no.toNat]!).no),vI ((c.recs[no.toNat]!).asked),vI ((c.recs[no.toNat]!).state),e6,f8] rfl ⟨_,rfl,rfl,oT,rfl⟩ (AA (RL (vA #[vI ((c.recs[no.toNat]!).no),vI ((c.recs[no.toNat]!).asked),vI ((c.recs[no.toNat]!).state),e6,f8]) [vI ((c.recs[no.toNat]!).no),vI ((c.recs[no.toNat]!).asked),vI ((c.recs[no.toNat]!).state),e6,f8] rfl rfl h2 fun a3 K8 z7 z8 h3 k9 a8=>(?_))))
  have m7:EY b3 a3:=by show b3≠a3;have:=a0.lt;omega
  have e3:EY a9 a3:=by show a9≠a3;have:=a4.lt;omega
  have m9:EY b0 a3:=by show b0≠a3;have:=a1.lt;omega
  clear z7
  have b1:=b1.mv h3
  have a5:=a5.mv h3
  have a2:=a2.mv h3
  have b2:=b2.mv h3
  have a0:=a0.keep k9 (by simp)
  have a4:=a4.keep k9 (by simp)
  have a1:=a1.keep k9 (by simp)
  refine AA (AE (vP (some ⟨a3,0,none⟩)) rfl (AG (AC (AF (AB kR (AA (AD (vN (.func 77) #[] #[vP (some c4)]) rfl (AA (AD (vP (some ⟨a3,0,none⟩)) rfl (AA (HX [] [vP (some c4)] [vP (some ⟨a3,0,none⟩)] enter_77 rfl rfl (BW 18 Try.func77 rfl rfl oT (fun K9=>AF (AB kR (AA (RL (vP (some ⟨a3,0,none⟩)) [vP (some ⟨a3,0,none⟩)] rfl rfl z8 fun a7 z9 A0 A1 h4 h5 a6=>(?_)))))))))))))))))
  have G2:EY b3 a7:=by show b3≠a7;have:=a0.lt;omega
  have n2:EY a9 a7:=by show a9≠a7;have:=a4.lt;omega
  have G3:EY b0 a7:=by show b0≠a7;have:=a1.lt;omega
  have n3:EY a3 a7:=by show a3≠a7;have:=a8.lt;omega
  clear A0
  have b1:=b1.mv h4
  have a5:=a5.mv h4
  have a2:=a2.mv h4
  have b2:=b2.mv h4
  have a0:=a0.keep h5 (by simp)
  have a4:=a4.keep h5 (by simp)
  have a1:=a1.keep h5 (by simp)
  have a8:=a8.keep h5 (by simp)
  refine AG (AC (AF (FM [] [] [[(0,1),(1,1),(2,1),(3,1),(4,1),(5,1),(6,1),(7,2),(8,0)]] (by intro c F d v w hd;(try simp only [GI,FG]);exact GJ c F d v w hd) kR kR kR fun q8 e7=>?_)))
  have q9:=A1.call e7
  have h6:Mv (a7 :: (a3 :: (b0 :: (a9 :: (b3 :: []))))) z9 (a7 :: (a3 :: (b0 :: (a9 :: (b3 :: []))))) q8:=Mv.of_keep e7
  have b1:=b1.mv h6
  have a5:=a5.mv h6
  have a2:=a2.mv h6
  have b2:=b2.mv h6
  have a0:=a0.keep e7 (by simp)
  have a4:=a4.keep e7 (by simp)
  have a1:=a1.keep e7 (by simp)
  have a8:=a8.keep e7 (by simp)
  have a6:=a6.keep e7 (by simp)
  refine ⟨?_,trivial⟩
  refine BS (AK U106_ rfl (vP (some ⟨a3,0,none⟩)) rfl a6 rfl (EP (BS (CG U3_ rfl rfl b1 (EP (BS (AK U106_ rfl (vP (some ⟨a3,0,none⟩)) rfl a6 rfl (EP (BS (AR ⟨a3,0,none⟩ rfl (EP (BS (AH 0 GC rfl (EP (BS (AH 1 QB rfl (EP (BS (AK U3_ rfl (vI ((c.recs[no.toNat]!).asked)) rfl a8 rfl (EP (FA (BF (vs:=[vI day,vI ((c.recs[no.toNat]!).asked)]) MT (OI (O:=(a7 :: (a3 :: (b0 :: (a9 :: (b3 :: [])))))++O) day ((c.recs[no.toNat]!).asked) q8 q9.lt) rfl q9 fun L0 L1 r0 h7 f9 A2=>(?_)))))))))))))))))))))))
  obtain rfl:=A2
  have b1:=b1.mv h7
  have a5:=a5.mv h7
  have a2:=a2.mv h7
  have b2:=b2.mv h7
  have a0:=a0.keep f9 (by simp)
  have a4:=a4.keep f9 (by simp)
  have a1:=a1.keep f9 (by simp)
  have a8:=a8.keep f9 (by simp)
  have a6:=a6.keep f9 (by simp)
  refine ⟨f9,?_⟩
  refine UZ (ES [vP (some ⟨a3,0,none⟩),vO (CO day ((c.recs[no.toNat]!).asked)),vI 1] IQ rfl (BW 11 Try.func72 rfl rfl oT (fun L2=>AF (AB kR (AA (AD (vO (CO day ((c.recs[no.toNat]!).asked))) rfl (AA (FF (CO day ((c.recs[no.toNat]!).asked)) rfl (AG (AC (AJ (!(CO day ((c.recs[no.toNat]!).asked))) rfl rfl (fun j8=>?_) (fun j8=>?_))))))))))))
  ·have G4:(CO day ((c.recs[no.toNat]!).asked))=false:=by simpa using j8
   refine AB kR (AA (AD (vI 1) rfl (AA (DN (l:=[(0, .tmp 8)]) ND QA rfl [(0,vI 1,[vI 1])] [vI 1] rfl ⟨_,rfl,rfl,oT,rfl⟩ (AA (LC (vA #[vI 1]) U125_ rfl rfl (BZ (KZ rfl (FE rfl (DY (HB (FE rfl (DY (HB (LB (HQ [vP (some ⟨a9,0,none⟩),vP (some ⟨b0,0,none⟩)] (.panicking [{ v:=Value.iface 125 (vA #[vI 1]),recovered:=false }]) rfl (fun h=>by cases h) rfl FD (NF (1:Int) a9 b0 r0 a4 a1 (by repeat (constructor)) (by repeat (constructor)) b9) (fun e_ L3 hR_=>?_)))))))))))))))))
   obtain ⟨v_,rfl,A3,L4,A4,u2,u3⟩:=hR_
   have a0:=a0.keep A4 (YS c3 d5)
   refine Exists.intro _ (And.intro (DT rfl (EE (vs:=[vI 0,vI 0,vI 0,nS,nS]) rfl U28_ rfl BJ rfl u2 rfl) (LS rfl U29_ rfl rfl u3 rfl)) (CZ (AA (AL (vA #[vI 0,vI 0,vI 0,nS,nS]) rfl rfl (AA (AL (vI 1) rfl rfl (BZ (BE (vs:=[vI 0,vI 0,vI 0,nS,nS]) (.agg #[vI 0,vI 0,vI 0,nS,nS]) rfl rfl rfl BJ (fun u hu=>by simp only [List.mem_cons,List.not_mem_nil,or_false] at hu;rcases hu with rfl|rfl|rfl|rfl|rfl <;> rfl) (by repeat (constructor)) a0 oT A3 fun L5 A5 L6 L7 u4=>(AA (AE (vI 1) rfl (AG (AC (AM (AZ rfl (DT rfl (EE (vs:=[vI 0,vI 0,vI 0,nS,nS]) rfl U28_ rfl BJ rfl u4 rfl) (EK rfl rfl)) (?_)))))))))))))))
   have A6:((AW c no (CF day)).1)=(⟨(0:Int),(0:Int),(0:Int),[],[]⟩:Circle):=by exact congrArg (fun p=>p.1) (show AW c no (CF day)=_ from veto_day hok oM oM aS)
   have A7:((AW c no (CF day)).2)=(1:Int):=by exact congrArg (fun p=>p.2) (show AW c no (CF day)=_ from veto_day hok oM oM aS)
   exact ⟨_,rfl,A5.keep,by rw [A6,A7];exact ⟨[vI 0,vI 0,vI 0,nS,nS],rfl,Enc.out (B:=(a7 :: (a3 :: (b0 :: (a9 :: (b3 :: [])))))) ⟨.slice none 0 0, .slice none 0 0,rfl,(BL.nil _ _ _),(BL.nil _ _ _)⟩⟩⟩
  have G5:(CO day ((c.recs[no.toNat]!).asked))=true:=by simpa using j8
  refine AT (FL rfl (HU rfl) (CZ (FH (AC (AB kR (AA (AK U106_ rfl (vP (some ⟨a3,0,none⟩)) rfl a6 rfl (AA (OR r0 fun b7 L8 A8 A9 h8 g3 u5=>(?_))))))))))
  have n4:EY b3 b7:=by show b3≠b7;have:=a0.lt;omega
  have g4:EY a9 b7:=by show a9≠b7;have:=a4.lt;omega
  have n5:EY b0 b7:=by show b0≠b7;have:=a1.lt;omega
  have g5:EY a3 b7:=by show a3≠b7;have:=a8.lt;omega
  have n6:EY a7 b7:=by show a7≠b7;have:=a6.lt;omega
  clear A8
  have b1:=b1.mv h8
  have a5:=a5.mv h8
  have a2:=a2.mv h8
  have b2:=b2.mv h8
  have a0:=a0.keep g3 (by simp)
  have a4:=a4.keep g3 (by simp)
  have a1:=a1.keep g3 (by simp)
  have a8:=a8.keep g3 (by simp)
  have a6:=a6.keep g3 (by simp)
  refine AA (DF (first:=[]) (captured:=[.tmp 2]) [] [vP (some ⟨a7,0,none⟩)] rfl rfl (BZ (JJ U110_ U3_ rfl rfl rfl u5 (by repeat (constructor)) A9 rfl fun L9 B0 h9 g6 u6=>(?_))))
  have b1:=b1.mv h9
  have a5:=a5.mv h9
  have a2:=a2.mv h9
  have b2:=b2.mv h9
  have a0:=a0.keep g6 (AS n4)
  have a4:=a4.keep g6 (AS g4)
  have a1:=a1.keep g6 (AS n5)
  have a8:=a8.keep g6 (AS g5)
  have a6:=a6.keep g6 (AS n6)
  refine AA (DF (first:=[]) (captured:=[.tmp 2, .tmp 1]) [] [vP (some ⟨a7,0,none⟩),vP (some c4)] rfl rfl (BZ (JJ U110_ U3_ rfl rfl rfl u6 (by repeat (constructor)) B0 rfl fun M0 l0 i0 g7 b6=>(?_))))
  have b1:=b1.mv i0
  have a5:=a5.mv i0
  have a2:=a2.mv i0
  have b2:=b2.mv i0
  have a0:=a0.keep g7 (AS n4)
  have a4:=a4.keep g7 (AS g4)
  have a1:=a1.keep g7 (AS n5)
  have a8:=a8.keep g7 (AS g5)
  have a6:=a6.keep g7 (AS n6)
  refine AA (AD (Value.map (some b7)) rfl (AA (ES [vP (some ⟨a3,0,none⟩),Value.map (some b7)] XE rfl (BW 19 Try.func70 rfl rfl oT (fun M1=>AF (AB kR (AA (AD (Value.map (some b7)) rfl (AA (AD (vP (some ⟨a3,0,none⟩)) rfl (AA (AR ⟨a3,0,none⟩ rfl (AA (AH 0 GC rfl (AA (AH 2 LO rfl (AA (AK U3_ rfl (vI ((c.recs[no.toNat]!).state)) rfl a8 rfl (?_)))))))))))))))))))
  rcases (IF hok oM oM:(c.recs[no.toNat]!).state=0∨(c.recs[no.toNat]!).state=1∨(c.recs[no.toNat]!).state=2) with f3|f3|f3
  ·refine AA (JF (k:=0) (vN (.func 79) #[] #[vP (some ⟨a7,0,none⟩),vP (some c4)]) U110_ U3_ rfl (congrArg vI f3) b6 rfl (AA (AD (vT #[vN (.func 79) #[] #[vP (some ⟨a7,0,none⟩),vP (some c4)],vO true]) rfl (AA (AL (vN (.func 79) #[] #[vP (some ⟨a7,0,none⟩),vP (some c4)]) rfl rfl (AA (AL (vO true) rfl rfl (AA (AE (vN (.func 79) #[] #[vP (some ⟨a7,0,none⟩),vP (some c4)]) rfl (AA (AE (vO true) rfl (AG (AC (AF (AB kR (AA (AD (vO true) rfl (AG (AC (AJ true rfl rfl (fun _=>AB kR (AA (AD (vN (.func 79) #[] #[vP (some ⟨a7,0,none⟩),vP (some c4)]) rfl (AA (HX [] [vP (some ⟨a7,0,none⟩),vP (some c4)] [] enter_79 rfl rfl (BW 5 Try.func79 rfl rfl oT (fun M2=>AB kR (AA (AK U106_ rfl (vP (some ⟨a3,0,none⟩)) rfl a6 rfl (AA (CG U3_ rfl rfl b1 (AA (JV [vP (some ⟨a3,0,none⟩),vI day] _ enter_80 rfl (BW 14 Try.func80 rfl rfl oT (fun M3=>AB kR (AA (AD (vP (some ⟨a3,0,none⟩)) rfl (AA (AD (vP (some ⟨a3,0,none⟩)) rfl (AA (AD (vI day) rfl (AA (KH (E:=Enc.int) (xs:=[.tmp 6]) U22_ OB z_3 (by decide) [vI day] [[vI day]] [day] rfl rfl rfl (Parts.cons rfl rfl (Parts.nil _ _ _)) oT l0 fun r4 M4 B1 r5 g0 b8=>(?_))))))))))) (fun _ _ h=>h)))))))))))))) (fun h=>by cases h)))))))))))))))))))))
   have a5:=a5.mv r5
   have a2:=a2.mv r5
   have a0:=a0.keep g0 (by simp)
   have a4:=a4.keep g0 (by simp)
   have a1:=a1.keep g0 (by simp)
   have a8:=a8.keep g0 (by simp)
   have a6:=a6.keep g0 (by simp)
   have b6:=b6.keep g0 (by simp)
   have:=b8.len_le
   refine AA (AR ⟨a3,0,none⟩ rfl (AA (AH 0 GC rfl (AA (AH 2 LO rfl (BZ (BY (vI 2) rfl rfl rfl OB (by repeat (constructor)) a8 oT B1 fun M5 B2 l1 g8 u7=>(?_))))))))
   have b8:=b8.mv l1
   have a5:=a5.mv l1
   have a2:=a2.mv l1
   have a0:=a0.keep g8 (AS m7)
   have a4:=a4.keep g8 (AS e3)
   have a1:=a1.keep g8 (AS m9)
   have a6:=a6.keep g8 (AS (Ne.symm n3))
   have b6:=b6.keep g8 (AS (Ne.symm g5))
   refine AA (AR ⟨a3,0,none⟩ rfl (AA (AH 0 GC rfl (AA (AH 4 f_68_4 rfl (BZ (BY (r4) rfl rfl b8.oneCell s_22 (by repeat (constructor)) u7 oT B2 fun M6 B3 l2 g9 c2=>(?_))))))))
   have b8:=b8.mv l2
   have a5:=a5.mv l2
   have a2:=a2.mv l2
   have a0:=a0.keep g9 (AS m7)
   have a4:=a4.keep g9 (AS e3)
   have a1:=a1.keep g9 (AS m9)
   have a6:=a6.keep g9 (AS (Ne.symm n3))
   have b6:=b6.keep g9 (AS (Ne.symm g5))
   refine AG (FL rfl (HU rfl) (Exists.intro _ (And.intro rfl (AG (FL rfl (HU rfl) (CZ (AG (FL rfl (HU rfl) (CZ (AG (FL rfl (HU rfl) (CZ (AG (AC (AF (AB kR (AA (CY U28_ rfl BJ rfl a5 fun G6 u9=>(?_)))))))))))))))))))
   obtain ⟨c5,r6,rfl,b4,n7⟩:=u9
   have:=b4.len_le
   have:=n7.len_le
   refine BZ (BE (vs:=[vI c.epoch,vI c.threshold,vI c.wait,c5,r6]) (.agg #[vI c.epoch,vI c.threshold,vI c.wait,c5,r6]) rfl rfl rfl BJ (fun u hu=>by simp only [List.mem_cons,List.not_mem_nil,or_false] at hu;rcases hu with rfl|rfl|rfl|rfl|rfl <;> first|rfl|exact b4.oneCell|exact n7.oneCell) (by repeat (constructor)) a4 oT B3 fun M7 B4 i1 h0 d6=>(?_))
   have a5:=a5.mv i1
   have a2:=a2.mv i1
   have b4:=b4.mv i1
   have a0:=a0.keep h0 (AS c3)
   have a1:=a1.keep h0 (AS (Ne.symm b9))
   have b8:=b8.mv i1
   have c2:=c2.keep h0 (AS (Ne.symm e3))
   have a6:=a6.keep h0 (AS (Ne.symm n2))
   have b6:=b6.keep h0 (AS (Ne.symm g4))
   refine AG (AC (AF (AB kR (AA (BO 4 EF (c.recs) rfl a5 (fun _ _ _ h=>CV h) fun M8 v0=>(AA (CI U26_ rfl rfl v0 fun l3 f4=>(?_))))))))
   have:=f4.len_le
   refine AA (JV [l3] _ LG rfl (BW 8 Try.func67 rfl rfl oT (fun M9=>AF (AB kR (AA (AE (nS) rfl (AG (AC (AF (AF (AB kR (AA (AD (l3) rfl (AA (MD U26_ rfl rfl f4 oM (AG (AC (AJ false rfl rfl (fun h=>by cases h) (fun _=>AT (AC (AF (AB kR (AA (IA (E:=Enc.recovery) (xs:=[]) U26_ GK OZ (by decide) [] [] [] rfl rfl rfl (Parts.nil _ _ _) oT B4 fun e8 B5 N0 B6 c9 B7 i2 g1 v1=>(?_)))))))))))))))))))))))) (fun _ _ h=>h))
   have n9:∀ b,e8.ownBlock=some b→b≠b3:=fun b hb=>by have:=a0.lt;rw [c9] at hb;cases hb;omega
   have o0:∀ b,e8.ownBlock=some b→b≠a9:=fun b hb=>by have:=d6.lt;rw [c9] at hb;cases hb;omega
   have o1:∀ b,e8.ownBlock=some b→b≠b0:=fun b hb=>by have:=a1.lt;rw [c9] at hb;cases hb;omega
   have o2:∀ b,e8.ownBlock=some b→b≠a3:=fun b hb=>by have:=c2.lt;rw [c9] at hb;cases hb;omega
   have v2:∀ b,e8.ownBlock=some b→b≠a7:=fun b hb=>by have:=a6.lt;rw [c9] at hb;cases hb;omega
   have v3:∀ b,e8.ownBlock=some b→b≠b7:=fun b hb=>by have:=b6.lt;rw [c9] at hb;cases hb;omega
   have v4:∀ b,e8.ownBlock=some b→b∈(B5 :: (b7 :: (a7 :: (a3 :: (b0 :: (a9 :: (b3 :: []))))))):=fun b hb=>by rw [c9] at hb;cases hb;simp
   clear B6 c9
   have f4:=f4.mv i2
   have a2:=a2.mv i2
   have b4:=b4.mv i2
   have a0:=a0.keep g1 (by simp)
   have d6:=d6.keep g1 (by simp)
   have a1:=a1.keep g1 (by simp)
   have b8:=b8.mv i2
   have c2:=c2.keep g1 (by simp)
   have a6:=a6.keep g1 (by simp)
   have b6:=b6.keep g1 (by simp)
   refine AA (AD (l3) rfl (AA (DI (E:=Enc.recovery) (l:=[]) (m:=c.recs) U26_ VN rfl (by decide) rfl rfl v1 f4 (fun _ hb=>.inl hb) v4 (by simp;omega) (by simp [maxLen];omega) B7 fun c0 N1 e0 v5 e4 d3 B8 l4 i3 d0=>(?_))))
   rw [List.nil_append] at d0
   have o3:∀ b,c0.ownBlock=some b→b≠b3:=fun b hb=>by rcases e4 with e1|e1 <;> rw [e1] at hb <;> first|(cases hb;have:=a0.lt;omega)|(exact n9 b hb)
   have j9:∀ b,c0.ownBlock=some b→b≠a9:=fun b hb=>by rcases e4 with e1|e1 <;> rw [e1] at hb <;> first|(cases hb;have:=d6.lt;omega)|(exact o0 b hb)
   have o4:∀ b,c0.ownBlock=some b→b≠b0:=fun b hb=>by rcases e4 with e1|e1 <;> rw [e1] at hb <;> first|(cases hb;have:=a1.lt;omega)|(exact o1 b hb)
   have G7:∀ b,c0.ownBlock=some b→b≠a3:=fun b hb=>by rcases e4 with e1|e1 <;> rw [e1] at hb <;> first|(cases hb;have:=c2.lt;omega)|(exact o2 b hb)
   have G8:∀ b,c0.ownBlock=some b→b≠a7:=fun b hb=>by rcases e4 with e1|e1 <;> rw [e1] at hb <;> first|(cases hb;have:=a6.lt;omega)|(exact v2 b hb)
   have G9:∀ b,c0.ownBlock=some b→b≠b7:=fun b hb=>by rcases e4 with e1|e1 <;> rw [e1] at hb <;> first|(cases hb;have:=b6.lt;omega)|(exact v3 b hb)
   have o5:b3∈e0:=d3 b3 (by repeat (constructor))
   have o6:a9∈e0:=d3 a9 (by repeat (constructor))
   have o7:b0∈e0:=d3 b0 (by repeat (constructor))
   have o8:a3∈e0:=d3 a3 (by repeat (constructor))
   have o9:a7∈e0:=d3 a7 (by repeat (constructor))
   have p0:b7∈e0:=d3 b7 (by repeat (constructor))
   have a2:=a2.mv l4
   have b4:=b4.mv l4
   have a0:=a0.keep i3 (by simp only [Option.mem_toList];exact fun e=>absurd rfl (n9 _ e))
   have d6:=d6.keep i3 (by simp only [Option.mem_toList];exact fun e=>absurd rfl (o0 _ e))
   have a1:=a1.keep i3 (by simp only [Option.mem_toList];exact fun e=>absurd rfl (o1 _ e))
   have b8:=b8.mv l4
   have c2:=c2.keep i3 (by simp only [Option.mem_toList];exact fun e=>absurd rfl (o2 _ e))
   refine AA (AE (c0) rfl (AG (AC (AM (AZ rfl (CN rfl rfl rfl) (Exists.intro _ (And.intro rfl (AA (AH 4 EF rfl (BZ (BY (c0) rfl rfl d0.oneCell YV (by repeat (assumption)) d6 oT B8 fun B9 C0 i4 i5 d7=>(?_))))))))))))
   have a2:=a2.mv i4
   have b4:=b4.mv i4
   have d0:=d0.mv i4 i5 (fun b hb=>AS (j9 b hb))
   have a0:=a0.keep i5 (AS c3)
   have a1:=a1.keep i5 (AS (Ne.symm b9))
   have b8:=b8.mv i4
   have c2:=c2.keep i5 (AS (Ne.symm e3))
   refine AG (AC (AF (DP 8 _ _ kR kR kR kR kR rfl rfl fun C1 e9=>?_)))
   have C2:=C0.call e9
   have i6:Mv e0 B9 e0 C1:=Mv.of_keep e9
   have a2:=a2.mv i6
   have b4:=b4.mv i6
   have d0:=d0.mv i6 e9 (by simp)
   have a0:=a0.keep e9 (by simp)
   have d7:=d7.keep e9 (by simp)
   have a1:=a1.keep e9 (by simp)
   have b8:=b8.mv i6
   have c2:=c2.keep e9 (by simp)
   refine BG (AH 4 EF rfl (BG (AK U26_ rfl (c0) rfl d7 rfl (BG (AD (vI no) rfl (BG (AD (vP (some ⟨a3,0,none⟩)) rfl (BG (AR ⟨a3,0,none⟩ rfl (BG (AH 0 GC rfl (BG (BI (vs:=[vI ((c.recs[no.toNat]!).no),vI ((c.recs[no.toNat]!).asked),vI 2,e6,r4]) U68_ rfl GK rfl c2 rfl (BG (EW U26_ GK .i64 no no.toNat rfl rfl oM d0 oM fun N2 f5=>(EQ (BZ (LZ (⟨(c.recs[no.toNat]!).no,(c.recs[no.toNat]!).asked,(2:Int),(c.recs[no.toNat]!).approved,[day]⟩:Recovery) (by decide) GK rfl rfl d0 f5 (v5 _ f5) oM ⟨_,_,rfl,a2,b8⟩ C2 fun N3 C3 C4 l5 c6=>(?_)))))))))))))))))))
   have b4:=b4.mv C4
   have a0:=a0.keep l5 (by simp only [List.mem_singleton];exact fun e=>absurd e.symm (o3 _ f5))
   have d7:=d7.keep l5 (by simp only [List.mem_singleton];exact fun e=>absurd e.symm (j9 _ f5))
   have a1:=a1.keep l5 (by simp only [List.mem_singleton];exact fun e=>absurd e.symm (o4 _ f5))
   refine AG (AC (AF (AB kR (AA (BI (vs:=[vI c.epoch,vI c.threshold,vI c.wait,c5,c0]) U28_ rfl BJ rfl d7 rfl (BZ (BE (vs:=[vI c.epoch,vI c.threshold,vI c.wait,c5,c0]) (.agg #[vI c.epoch,vI c.threshold,vI c.wait,c5,c0]) rfl rfl rfl BJ (fun u hu=>by simp only [List.mem_cons,List.not_mem_nil,or_false] at hu;rcases hu with rfl|rfl|rfl|rfl|rfl <;> first|rfl|exact b4.oneCell|exact c6.oneCell) (by repeat (assumption)) d7 oT C3 fun N4 C5 r7 l6 k0=>(?_))))))))
   have b4:=b4.mv r7
   have c6:=c6.mv r7 l6 (fun b hb=>AS (j9 b hb))
   have a0:=a0.keep l6 (AS c3)
   have a1:=a1.keep l6 (AS (Ne.symm b9))
   refine BZ (BY (vI 0) rfl rfl rfl PF (by repeat (assumption)) a1 oT C5 fun N5 C6 r8 l7 v6=>(?_))
   have b4:=b4.mv r8
   have c6:=c6.mv r8 l7 (fun b hb=>AS (o4 b hb))
   have a0:=a0.keep l7 (AS d5)
   have k0:=k0.keep l7 (AS b9)
   refine AG (AC (AM (QN (LY [vP (some ⟨a9,0,none⟩),vP (some ⟨b0,0,none⟩)] 19 .returning rfl (fun h=>by cases h) rfl FD Try.func103 rfl rfl oT rfl rfl (fun N6=>AF (AB kR (AA (AD (Value.nilIface) rfl (AA (o_neqNil' U20_ rfl (AG (AC (AJ false rfl rfl (fun h=>by cases h) (fun _=>AT (FL rfl (HU rfl) (Exists.intro _ (And.intro (DT rfl (EE (vs:=[vI c.epoch,vI c.threshold,vI c.wait,c5,c0]) rfl U28_ rfl BJ rfl k0 rfl) (LS rfl U29_ rfl rfl v6 rfl)) (CZ (AA (AL (vA #[vI c.epoch,vI c.threshold,vI c.wait,c5,c0]) rfl rfl (AA (AL (vI 0) rfl rfl (BZ (BE (vs:=[vI c.epoch,vI c.threshold,vI c.wait,c5,c0]) (.agg #[vI c.epoch,vI c.threshold,vI c.wait,c5,c0]) rfl rfl rfl BJ (fun u hu=>by simp only [List.mem_cons,List.not_mem_nil,or_false] at hu;rcases hu with rfl|rfl|rfl|rfl|rfl <;> first|rfl|exact b4.oneCell|exact c6.oneCell) (by repeat (assumption)) a0 oT C6 fun N7 r9 s1 C7 v7=>(?_)))))))))))))))))))))))))
   have b4:=b4.mv s1
   have c6:=c6.mv s1 C7 (fun b hb=>AS (o3 b hb))
   refine AA (AE (vI 0) rfl (AG (AC (AM (AZ rfl (DT rfl (EE (vs:=[vI c.epoch,vI c.threshold,vI c.wait,c5,c0]) rfl U28_ rfl BJ rfl v7 rfl) (EK rfl rfl)) (?_))))))
   have C8:((AW c no (CF day)).1)=(⟨c.epoch,c.threshold,c.wait,c.guardians,c.recs.set no.toNat (⟨(c.recs[no.toNat]!).no,(c.recs[no.toNat]!).asked,(2:Int),(c.recs[no.toNat]!).approved,[day]⟩:Recovery)⟩:Circle):=by exact congrArg (fun p=>p.1) (show AW c no (CF day)=_ from AAn hok oM oM aS aS)
   have C9:((AW c no (CF day)).2)=(0:Int):=by exact congrArg (fun p=>p.2) (show AW c no (CF day)=_ from AAn hok oM oM aS aS)
   exact ⟨_,rfl,r9.keep,by rw [C8,C9];exact ⟨[vI c.epoch,vI c.threshold,vI c.wait,c5,c0],rfl,⟨_,_,rfl,b4.out,(c6.pub r9)⟩⟩⟩
  ·refine AA (JF (k:=1) (vN (.func 78) #[] #[vP (some ⟨a7,0,none⟩)]) U110_ U3_ rfl (congrArg vI f3) b6 rfl (AA (AD (vT #[vN (.func 78) #[] #[vP (some ⟨a7,0,none⟩)],vO true]) rfl (AA (AL (vN (.func 78) #[] #[vP (some ⟨a7,0,none⟩)]) rfl rfl (AA (AL (vO true) rfl rfl (AA (AE (vN (.func 78) #[] #[vP (some ⟨a7,0,none⟩)]) rfl (AA (AE (vO true) rfl (AG (AC (AF (AB kR (AA (AD (vO true) rfl (AG (AC (AJ true rfl rfl (fun _=>AB kR (AA (AD (vN (.func 78) #[] #[vP (some ⟨a7,0,none⟩)]) rfl (AA (HX [] [vP (some ⟨a7,0,none⟩)] [] enter_78 rfl rfl (BW 3 Try.func78 rfl rfl oT (fun N8=>AB kR (AA (AK U106_ rfl (vP (some ⟨a3,0,none⟩)) rfl a6 rfl (AA (ES [vP (some ⟨a3,0,none⟩),vO false,vI 1] IQ rfl (BW 11 Try.func72 rfl rfl oT (fun N9=>AF (AB kR (AA (AD (vO false) rfl (AA (FF false rfl (AG (AC (AJ true rfl rfl (fun _=>AB kR (AA (AD (vI 1) rfl (AA (DN (l:=[(0, .tmp 8)]) ND QA rfl [(0,vI 1,[vI 1])] [vI 1] rfl ⟨_,rfl,rfl,oT,rfl⟩ (AA (LC (vA #[vI 1]) U125_ rfl rfl (BZ (KZ rfl (FE rfl (DY (FE rfl (DY (FE rfl (DY (FE rfl (DY (HB (LB (HQ [vP (some ⟨a9,0,none⟩),vP (some ⟨b0,0,none⟩)] (.panicking [{ v:=Value.iface 125 (vA #[vI 1]),recovered:=false }]) rfl (fun h=>by cases h) rfl FD (NF (1:Int) a9 b0 l0 a4 a1 (by repeat (constructor)) (by repeat (constructor)) b9) (fun e_ O0 hR_=>?_))))))))))))))))))))) (fun h=>by cases h)))))))))))))))))))))) (fun h=>by cases h)))))))))))))))))))))
   obtain ⟨v_,rfl,D0,O1,D1,v8,v9⟩:=hR_
   have a0:=a0.keep D1 (YS c3 d5)
   refine Exists.intro _ (And.intro (DT rfl (EE (vs:=[vI 0,vI 0,vI 0,nS,nS]) rfl U28_ rfl BJ rfl v8 rfl) (LS rfl U29_ rfl rfl v9 rfl)) (CZ (AA (AL (vA #[vI 0,vI 0,vI 0,nS,nS]) rfl rfl (AA (AL (vI 1) rfl rfl (BZ (BE (vs:=[vI 0,vI 0,vI 0,nS,nS]) (.agg #[vI 0,vI 0,vI 0,nS,nS]) rfl rfl rfl BJ (fun u hu=>by simp only [List.mem_cons,List.not_mem_nil,or_false] at hu;rcases hu with rfl|rfl|rfl|rfl|rfl <;> rfl) (by repeat (constructor)) a0 oT D0 fun O2 D2 O3 O4 w0=>(AA (AE (vI 1) rfl (AG (AC (AM (AZ rfl (DT rfl (EE (vs:=[vI 0,vI 0,vI 0,nS,nS]) rfl U28_ rfl BJ rfl w0 rfl) (EK rfl rfl)) (?_)))))))))))))))
   have D3:((AW c no (CF day)).1)=(⟨(0:Int),(0:Int),(0:Int),[],[]⟩:Circle):=by exact congrArg (fun p=>p.1) (show AW c no (CF day)=_ from ZU hok oM oM aS aS)
   have D4:((AW c no (CF day)).2)=(1:Int):=by exact congrArg (fun p=>p.2) (show AW c no (CF day)=_ from ZU hok oM oM aS aS)
   exact ⟨_,rfl,D2.keep,by rw [D3,D4];exact ⟨[vI 0,vI 0,vI 0,nS,nS],rfl,Enc.out (B:=(b7 :: (a7 :: (a3 :: (b0 :: (a9 :: (b3 :: []))))))) ⟨.slice none 0 0, .slice none 0 0,rfl,(BL.nil _ _ _),(BL.nil _ _ _)⟩⟩⟩
  refine AA (o_lookupN (k:=2) (z:=.nilFunc) U110_ U3_ kR rfl (congrArg vI f3) b6 rfl (AA (AD (vT #[Value.nilFunc,vO false]) rfl (AA (AL (Value.nilFunc) rfl rfl (AA (AL (vO false) rfl rfl (AA (AE (Value.nilFunc) rfl (AA (AE (vO false) rfl (AG (AC (AF (AB kR (AA (AD (vO false) rfl (AG (AC (AJ false rfl rfl (fun h=>by cases h) (fun _=>AT (FL rfl (HU rfl) (CZ (AG (FL rfl (HU rfl) (CZ (AG (AC (AF (AB kR (AA (CY U28_ rfl BJ rfl a5 fun H0 w1=>(?_)))))))))))))))))))))))))))))))))
  obtain ⟨c7,s2,rfl,b5,p1⟩:=w1
  have:=b5.len_le
  have:=p1.len_le
  refine BZ (BE (vs:=[vI c.epoch,vI c.threshold,vI c.wait,c7,s2]) (.agg #[vI c.epoch,vI c.threshold,vI c.wait,c7,s2]) rfl rfl rfl BJ (fun u hu=>by simp only [List.mem_cons,List.not_mem_nil,or_false] at hu;rcases hu with rfl|rfl|rfl|rfl|rfl <;> first|rfl|exact b5.oneCell|exact p1.oneCell) (by repeat (constructor)) a4 oT l0 fun O5 D5 i7 h1 d8=>(?_))
  have a5:=a5.mv i7
  have a2:=a2.mv i7
  have b2:=b2.mv i7
  have b5:=b5.mv i7
  have a0:=a0.keep h1 (AS c3)
  have a1:=a1.keep h1 (AS (Ne.symm b9))
  have a8:=a8.keep h1 (AS (Ne.symm e3))
  have a6:=a6.keep h1 (AS (Ne.symm n2))
  have b6:=b6.keep h1 (AS (Ne.symm g4))
  refine AG (AC (AF (AB kR (AA (BO 4 EF (c.recs) rfl a5 (fun _ _ _ h=>CV h) fun O6 w2=>(AA (CI U26_ rfl rfl w2 fun l8 f6=>(?_))))))))
  have:=f6.len_le
  refine AA (JV [l8] _ LG rfl (BW 8 Try.func67 rfl rfl oT (fun O7=>AF (AB kR (AA (AE (nS) rfl (AG (AC (AF (AF (AB kR (AA (AD (l8) rfl (AA (MD U26_ rfl rfl f6 oM (AG (AC (AJ false rfl rfl (fun h=>by cases h) (fun _=>AT (AC (AF (AB kR (AA (IA (E:=Enc.recovery) (xs:=[]) U26_ GK OZ (by decide) [] [] [] rfl rfl rfl (Parts.nil _ _ _) oT D5 fun f0 D6 O8 D7 d1 D8 i8 g2 w3=>(?_)))))))))))))))))))))))) (fun _ _ h=>h))
  have p2:∀ b,f0.ownBlock=some b→b≠b3:=fun b hb=>by have:=a0.lt;rw [d1] at hb;cases hb;omega
  have p3:∀ b,f0.ownBlock=some b→b≠a9:=fun b hb=>by have:=d8.lt;rw [d1] at hb;cases hb;omega
  have p4:∀ b,f0.ownBlock=some b→b≠b0:=fun b hb=>by have:=a1.lt;rw [d1] at hb;cases hb;omega
  have p5:∀ b,f0.ownBlock=some b→b≠a3:=fun b hb=>by have:=a8.lt;rw [d1] at hb;cases hb;omega
  have w4:∀ b,f0.ownBlock=some b→b≠a7:=fun b hb=>by have:=a6.lt;rw [d1] at hb;cases hb;omega
  have w5:∀ b,f0.ownBlock=some b→b≠b7:=fun b hb=>by have:=b6.lt;rw [d1] at hb;cases hb;omega
  have w6:∀ b,f0.ownBlock=some b→b∈(D6 :: (b7 :: (a7 :: (a3 :: (b0 :: (a9 :: (b3 :: []))))))):=fun b hb=>by rw [d1] at hb;cases hb;simp
  clear D7 d1
  have f6:=f6.mv i8
  have a2:=a2.mv i8
  have b2:=b2.mv i8
  have b5:=b5.mv i8
  have a0:=a0.keep g2 (by simp)
  have d8:=d8.keep g2 (by simp)
  have a1:=a1.keep g2 (by simp)
  have a8:=a8.keep g2 (by simp)
  have a6:=a6.keep g2 (by simp)
  have b6:=b6.keep g2 (by simp)
  refine AA (AD (l8) rfl (AA (DI (E:=Enc.recovery) (l:=[]) (m:=c.recs) U26_ VN rfl (by decide) rfl rfl w3 f6 (fun _ hb=>.inl hb) w6 (by simp;omega) (by simp [maxLen];omega) D8 fun c1 O9 e2 w7 e5 d4 D9 l9 i9 d2=>(?_))))
  rw [List.nil_append] at d2
  have p6:∀ b,c1.ownBlock=some b→b≠b3:=fun b hb=>by rcases e5 with e1|e1 <;> rw [e1] at hb <;> first|(cases hb;have:=a0.lt;omega)|(exact p2 b hb)
  have k5:∀ b,c1.ownBlock=some b→b≠a9:=fun b hb=>by rcases e5 with e1|e1 <;> rw [e1] at hb <;> first|(cases hb;have:=d8.lt;omega)|(exact p3 b hb)
  have p7:∀ b,c1.ownBlock=some b→b≠b0:=fun b hb=>by rcases e5 with e1|e1 <;> rw [e1] at hb <;> first|(cases hb;have:=a1.lt;omega)|(exact p4 b hb)
  have H1:∀ b,c1.ownBlock=some b→b≠a3:=fun b hb=>by rcases e5 with e1|e1 <;> rw [e1] at hb <;> first|(cases hb;have:=a8.lt;omega)|(exact p5 b hb)
  have H2:∀ b,c1.ownBlock=some b→b≠a7:=fun b hb=>by rcases e5 with e1|e1 <;> rw [e1] at hb <;> first|(cases hb;have:=a6.lt;omega)|(exact w4 b hb)
  have H3:∀ b,c1.ownBlock=some b→b≠b7:=fun b hb=>by rcases e5 with e1|e1 <;> rw [e1] at hb <;> first|(cases hb;have:=b6.lt;omega)|(exact w5 b hb)
  have o5:b3∈e2:=d4 b3 (by repeat (constructor))
  have o6:a9∈e2:=d4 a9 (by repeat (constructor))
  have o7:b0∈e2:=d4 b0 (by repeat (constructor))
  have o8:a3∈e2:=d4 a3 (by repeat (constructor))
  have o9:a7∈e2:=d4 a7 (by repeat (constructor))
  have p0:b7∈e2:=d4 b7 (by repeat (constructor))
  have a2:=a2.mv l9
  have b2:=b2.mv l9
  have b5:=b5.mv l9
  have a0:=a0.keep i9 (by simp only [Option.mem_toList];exact fun e=>absurd rfl (p2 _ e))
  have d8:=d8.keep i9 (by simp only [Option.mem_toList];exact fun e=>absurd rfl (p3 _ e))
  have a1:=a1.keep i9 (by simp only [Option.mem_toList];exact fun e=>absurd rfl (p4 _ e))
  have a8:=a8.keep i9 (by simp only [Option.mem_toList];exact fun e=>absurd rfl (p5 _ e))
  refine AA (AE (c1) rfl (AG (AC (AM (AZ rfl (CN rfl rfl rfl) (Exists.intro _ (And.intro rfl (AA (AH 4 EF rfl (BZ (BY (c1) rfl rfl d2.oneCell YV (by repeat (assumption)) d8 oT D9 fun E0 E1 j0 j1 d9=>(?_))))))))))))
  have a2:=a2.mv j0
  have b2:=b2.mv j0
  have b5:=b5.mv j0
  have d2:=d2.mv j0 j1 (fun b hb=>AS (k5 b hb))
  have a0:=a0.keep j1 (AS c3)
  have a1:=a1.keep j1 (AS (Ne.symm b9))
  have a8:=a8.keep j1 (AS (Ne.symm e3))
  refine AG (AC (AF (DP 8 _ _ kR kR kR kR kR rfl rfl fun E2 f1=>?_)))
  have E3:=E1.call f1
  have j2:Mv e2 E0 e2 E2:=Mv.of_keep f1
  have a2:=a2.mv j2
  have b2:=b2.mv j2
  have b5:=b5.mv j2
  have d2:=d2.mv j2 f1 (by simp)
  have a0:=a0.keep f1 (by simp)
  have d9:=d9.keep f1 (by simp)
  have a1:=a1.keep f1 (by simp)
  have a8:=a8.keep f1 (by simp)
  refine BG (AH 4 EF rfl (BG (AK U26_ rfl (c1) rfl d9 rfl (BG (AD (vI no) rfl (BG (AD (vP (some ⟨a3,0,none⟩)) rfl (BG (AR ⟨a3,0,none⟩ rfl (BG (AH 0 GC rfl (BG (BI (vs:=[vI ((c.recs[no.toNat]!).no),vI ((c.recs[no.toNat]!).asked),vI ((c.recs[no.toNat]!).state),e6,f8]) U68_ rfl GK rfl a8 rfl (BG (EW U26_ GK .i64 no no.toNat rfl rfl oM d2 oM fun P0 f7=>(EQ (BZ (LZ (c.recs[no.toNat]!) (by decide) GK rfl rfl d2 f7 (w7 _ f7) oM ⟨_,_,rfl,a2,b2⟩ E3 fun P1 E4 E5 m0 c8=>(?_)))))))))))))))))))
  have b5:=b5.mv E5
  have a0:=a0.keep m0 (by simp only [List.mem_singleton];exact fun e=>absurd e.symm (p6 _ f7))
  have d9:=d9.keep m0 (by simp only [List.mem_singleton];exact fun e=>absurd e.symm (k5 _ f7))
  have a1:=a1.keep m0 (by simp only [List.mem_singleton];exact fun e=>absurd e.symm (p7 _ f7))
  refine AG (AC (AF (AB kR (AA (BI (vs:=[vI c.epoch,vI c.threshold,vI c.wait,c7,c1]) U28_ rfl BJ rfl d9 rfl (BZ (BE (vs:=[vI c.epoch,vI c.threshold,vI c.wait,c7,c1]) (.agg #[vI c.epoch,vI c.threshold,vI c.wait,c7,c1]) rfl rfl rfl BJ (fun u hu=>by simp only [List.mem_cons,List.not_mem_nil,or_false] at hu;rcases hu with rfl|rfl|rfl|rfl|rfl <;> first|rfl|exact b5.oneCell|exact c8.oneCell) (by repeat (assumption)) d9 oT E4 fun P2 E6 s3 m1 k6=>(?_))))))))
  have b5:=b5.mv s3
  have c8:=c8.mv s3 m1 (fun b hb=>AS (k5 b hb))
  have a0:=a0.keep m1 (AS c3)
  have a1:=a1.keep m1 (AS (Ne.symm b9))
  refine BZ (BY (vI 0) rfl rfl rfl PF (by repeat (assumption)) a1 oT E6 fun P3 E7 s4 m2 w8=>(?_))
  have b5:=b5.mv s4
  have c8:=c8.mv s4 m2 (fun b hb=>AS (p7 b hb))
  have a0:=a0.keep m2 (AS d5)
  have k6:=k6.keep m2 (AS b9)
  refine AG (AC (AM (QN (LY [vP (some ⟨a9,0,none⟩),vP (some ⟨b0,0,none⟩)] 19 .returning rfl (fun h=>by cases h) rfl FD Try.func103 rfl rfl oT rfl rfl (fun P4=>AF (AB kR (AA (AD (Value.nilIface) rfl (AA (o_neqNil' U20_ rfl (AG (AC (AJ false rfl rfl (fun h=>by cases h) (fun _=>AT (FL rfl (HU rfl) (Exists.intro _ (And.intro (DT rfl (EE (vs:=[vI c.epoch,vI c.threshold,vI c.wait,c7,c1]) rfl U28_ rfl BJ rfl k6 rfl) (LS rfl U29_ rfl rfl w8 rfl)) (CZ (AA (AL (vA #[vI c.epoch,vI c.threshold,vI c.wait,c7,c1]) rfl rfl (AA (AL (vI 0) rfl rfl (BZ (BE (vs:=[vI c.epoch,vI c.threshold,vI c.wait,c7,c1]) (.agg #[vI c.epoch,vI c.threshold,vI c.wait,c7,c1]) rfl rfl rfl BJ (fun u hu=>by simp only [List.mem_cons,List.not_mem_nil,or_false] at hu;rcases hu with rfl|rfl|rfl|rfl|rfl <;> first|rfl|exact b5.oneCell|exact c8.oneCell) (by repeat (assumption)) a0 oT E7 fun P5 s5 s6 E8 w9=>(?_)))))))))))))))))))))))))
  have b5:=b5.mv s6
  have c8:=c8.mv s6 E8 (fun b hb=>AS (p6 b hb))
  refine AA (AE (vI 0) rfl (AG (AC (AM (AZ rfl (DT rfl (EE (vs:=[vI c.epoch,vI c.threshold,vI c.wait,c7,c1]) rfl U28_ rfl BJ rfl w9 rfl) (EK rfl rfl)) (?_))))))
  have E9:((AW c no (CF day)).1)=(⟨c.epoch,c.threshold,c.wait,c.guardians,c.recs.set no.toNat (c.recs[no.toNat]!)⟩:Circle):=by exact congrArg (fun p=>p.1) (show AW c no (CF day)=_ from ZR hok oM oM aS aS)
  have F1:((AW c no (CF day)).2)=(0:Int):=by exact congrArg (fun p=>p.2) (show AW c no (CF day)=_ from ZR hok oM oM aS aS)
  exact ⟨_,rfl,s5.keep,by rw [E9,F1];exact ⟨[vI c.epoch,vI c.threshold,vI c.wait,c7,c1],rfl,⟨_,_,rfl,b5.out,(c8.pub s5)⟩⟩⟩
 have H4:no<(0:Int):=by simpa using m4
 refine AN rfl (AN rfl (AN rfl (AN rfl (AN rfl (AA (BH (vO true) rfl rfl (AG (AC (AJ true rfl rfl (fun _=>AF (AB kR (AA (BI (vs:=[vI 0,vI 0,vI 0,nS,nS]) U28_ rfl BJ rfl a4 rfl (BZ (BE (vs:=[vI 0,vI 0,vI 0,nS,nS]) (.agg #[vI 0,vI 0,vI 0,nS,nS]) rfl rfl rfl BJ (fun u hu=>by simp only [List.mem_cons,List.not_mem_nil,or_false] at hu;rcases hu with rfl|rfl|rfl|rfl|rfl <;> rfl) (by repeat (constructor)) a4 oT h2 fun P6 F2 P7 s7 k7=>(?_))))))) (fun h=>by cases h))))))))))
 have a0:=a0.keep s7 (AS c3)
 have a1:=a1.keep s7 (AS (Ne.symm b9))
 refine BZ (BY (vI 1) rfl rfl rfl PF (by repeat (constructor)) a1 oT F2 fun P8 F3 P9 s8 x1=>(?_))
 have a0:=a0.keep s8 (AS d5)
 have k7:=k7.keep s8 (AS b9)
 refine AG (AC (AM (AP (OY rfl (DT rfl (EE (vs:=[vI 0,vI 0,vI 0,nS,nS]) rfl U28_ rfl BJ rfl k7 rfl) (LS rfl U29_ rfl rfl x1 rfl)) (CZ (AA (AL (vA #[vI 0,vI 0,vI 0,nS,nS]) rfl rfl (AA (AL (vI 1) rfl rfl (BZ (BE (vs:=[vI 0,vI 0,vI 0,nS,nS]) (.agg #[vI 0,vI 0,vI 0,nS,nS]) rfl rfl rfl BJ (fun u hu=>by simp only [List.mem_cons,List.not_mem_nil,or_false] at hu;rcases hu with rfl|rfl|rfl|rfl|rfl <;> rfl) (by repeat (constructor)) a0 oT F3 fun Q0 F4 Q1 Q2 x2=>(AA (AE (vI 1) rfl (AG (AC (AM (AZ rfl (DT rfl (EE (vs:=[vI 0,vI 0,vI 0,nS,nS]) rfl U28_ rfl BJ rfl x2 rfl) (EK rfl rfl)) (?_))))))))))))))))))
 have F5:((AW c no (CF day)).1)=(⟨(0:Int),(0:Int),(0:Int),[],[]⟩:Circle):=by exact congrArg (fun p=>p.1) (show AW c no (CF day)=_ from VP hok oM)
 have F6:((AW c no (CF day)).2)=(1:Int):=by exact congrArg (fun p=>p.2) (show AW c no (CF day)=_ from VP hok oM)
 exact ⟨_,rfl,F4.keep,by rw [F5,F6];exact ⟨[vI 0,vI 0,vI 0,nS,nS],rfl,Enc.out (B:=(b0 :: (a9 :: (b3 :: [])))) ⟨.slice none 0 0, .slice none 0 0,rfl,(BL.nil _ _ _),(BL.nil _ _ _)⟩⟩⟩
open Go.Fw Go.RowKit
set_option maxHeartbeats 4000000 in
set_option maxRecDepth 100000 in
theorem ZQ {O:List Nat} (c_cs:List Value) (c:Circle) (no:Int) (guardian:Int) (w:World) (F8:Enc.circle.rd w O c_cs c) (hO:∀ b∈O,b<w.heap.size):CM Try.prog 35 [.agg c_cs.toArray,vI no,vI guardian] w (fun v w'=>∃ (x0:List Value),v = .tuple #[.agg x0.toArray,vI ((AW c no (AV c guardian)).2)]∧Enc.circle.rd w' (O) x0 ((AW c no (AV c guardian)).1)):= by
 have F8:Enc.circle.rd w ([]++O) c_cs c:=F8
 have s0:St w O w []:=St.start hO
 refine BP 14 Try.func35 rfl rfl oT (fun F0=>AF (AB kR (AA (EC (E:=Enc.circle) (vA c_cs.toArray) (c_cs) c rfl rfl F8 s0 fun e3 ay M2 az aA b5=>(AA (EC (E:=Enc.int) (vI guardian) ([vI guardian]) guardian rfl rfl rfl M2 fun e4 aC M3 M4 aD b6=>(?_)))))))
 have b5:=b5.mv M4
 refine AA (CR [vI 0,vI 0,vI 0,nS,nS] IO rfl M3 fun b2 aE M5 M6 C1 aF a0=>(?_))
 clear M5
 have b5:=b5.mv C1
 have b6:=b6.mv C1
 refine AA (AE (vI 0) rfl (AG (AC (AF (AB kR (AA (CY U28_ rfl BJ rfl b5 fun q6 F9=>(AA (AD (vI no) rfl (AA (DF (first:=[]) (captured:=[.tmp 3, .tmp 5]) [] [vP (some e3),vP (some e4)] rfl rfl (AA (ES [vA q6.toArray,vI no,vN (.func 69) #[] #[vP (some e3),vP (some e4)]] WF rfl (OW 51 Try.func68 rfl rfl oT (fun aG=>AF (AB kR (AA (EC (E:=Enc.circle) (vA q6.toArray) (q6) c rfl rfl F9 M6 fun aH aI M7 C2 M8 a7=>(?_)))))))))))))))))))
 have b5:=b5.mv C2
 have b6:=b6.mv C2
 have a0:=a0.keep M8 (by simp)
 refine AA (CR [vI 0,vI 0,vI 0,nS,nS] IO rfl M7 fun a9 aJ M9 N0 u2 N1 a4=>(?_))
 have c5:EY b2 a9:=by show b2≠a9;have:=a0.lt;omega
 clear M9
 have b5:=b5.mv u2
 have b6:=b6.mv u2
 have a7:=a7.mv u2
 have a0:=a0.keep N1 (by simp)
 refine AA (CR [vI 0] z_29 rfl N0 fun b0 N2 N3 C3 u3 C4 a1=>(?_))
 have e5:EY b2 b0:=by show b2≠b0;have:=a0.lt;omega
 have c0:EY a9 b0:=by show a9≠b0;have:=a4.lt;omega
 clear N3
 have b5:=b5.mv u3
 have b6:=b6.mv u3
 have a7:=a7.mv u3
 have a0:=a0.keep C4 (by simp)
 have a4:=a4.keep C4 (by simp)
 refine AG (AC (AF (AF (AB kR (AA (CY U28_ rfl BJ rfl a7 fun x4 G0=>(AA (BF (vs:=[vA x4.toArray]) MP (OJ (O:=(b0 :: (a9 :: (b2 :: [])))++O) x4 c N2 G0 C3.lt) rfl C3 fun aK aL o9 u4 u5 N4=>(?_)))))))))
 obtain rfl:=N4
 have b5:=b5.mv u4
 have b6:=b6.mv u4
 have a7:=a7.mv u4
 have a0:=a0.keep u5 (by simp)
 have a4:=a4.keep u5 (by simp)
 have a1:=a1.keep u5 (by simp)
 refine AA (AE (vI (AO c)) rfl (AG (AC (AF (AB kR (AA (AD (vI (AO c)) rfl (AA (DQ .i64 (AO c) (0:Int) rfl rfl (AG (AC (AJ ((AO c) != (0:Int)) rfl rfl (fun q7=>?_) (fun q7=>?_)))))))))))))
 ·have Y1:AO c≠(0:Int):=by simpa using q7
  refine AF (AB kR (AA (BI (vs:=[vI 0,vI 0,vI 0,nS,nS]) U28_ rfl BJ rfl a4 rfl (AA (AD (vI (AO c)) rfl (BZ (BE (vs:=[vI 0,vI 0,vI 0,nS,nS]) (.agg #[vI 0,vI 0,vI 0,nS,nS]) rfl rfl rfl BJ (fun u hu=>by simp only [List.mem_cons,List.not_mem_nil,or_false] at hu;rcases hu with rfl|rfl|rfl|rfl|rfl <;> rfl) (by repeat (constructor)) a4 oT o9 fun aM N5 aN C5 q8=>(?_))))))))
  have a0:=a0.keep C5 (AS c5)
  have a1:=a1.keep C5 (AS (Ne.symm c0))
  refine BZ (BY (vI (AO c)) rfl rfl rfl PF (by repeat (constructor)) a1 oT N5 fun aO N6 aP C6 G1=>(?_))
  have a0:=a0.keep C6 (AS e5)
  have q8:=q8.keep C6 (AS c0)
  refine AG (AC (AM (AP (OY rfl (DT rfl (EE (vs:=[vI 0,vI 0,vI 0,nS,nS]) rfl U28_ rfl BJ rfl q8 rfl) (LS rfl U29_ rfl rfl G1 rfl)) (CZ (AA (AL (vA #[vI 0,vI 0,vI 0,nS,nS]) rfl rfl (AA (AL (vI (AO c)) rfl rfl (BZ (BE (vs:=[vI 0,vI 0,vI 0,nS,nS]) (.agg #[vI 0,vI 0,vI 0,nS,nS]) rfl rfl rfl BJ (fun u hu=>by simp only [List.mem_cons,List.not_mem_nil,or_false] at hu;rcases hu with rfl|rfl|rfl|rfl|rfl <;> rfl) (by repeat (constructor)) a0 oT N6 fun aQ N7 aR aT G2=>(AA (AE (vI (AO c)) rfl (AG (AC (AM (AZ rfl (DT rfl (EE (vs:=[vI 0,vI 0,vI 0,nS,nS]) rfl U28_ rfl BJ rfl G2 rfl) (EK rfl rfl)) (?_))))))))))))))))))
  have N8:((AW c no (AV c guardian)).1)=(⟨(0:Int),(0:Int),(0:Int),[],[]⟩:Circle):=by exact congrArg (fun p=>p.1) (show AW c no (AV c guardian)=_ from app_bad aS)
  have N9:((AW c no (AV c guardian)).2)=(AO c):=by exact congrArg (fun p=>p.2) (show AW c no (AV c guardian)=_ from app_bad aS)
  exact ⟨_,rfl,N7.keep,by rw [N8,N9];exact ⟨[vI 0,vI 0,vI 0,nS,nS],rfl,Enc.out (B:=(b0 :: (a9 :: (b2 :: [])))) ⟨.slice none 0 0, .slice none 0 0,rfl,(BL.nil _ _ _),(BL.nil _ _ _)⟩⟩⟩
 have G3:AO c=(0:Int):=by simpa using q7
 have hok:AO c=0:=G3
 have hrl:=QU hok
 refine AT (AC (AF (AF (AB kR (AA (AD (vI no) rfl (AA (EB .i64 no (0:Int) rfl rfl (AA (AD (vO (decide (no<(0:Int)))) rfl (?_)))))))))))
 cases x5:(decide (no<(0:Int)))
 ·have Y2:(0:Int)≤no:=by simpa using x5
  refine AY rfl (AD (vI no) rfl (AY rfl (BO 4 EF (c.recs) rfl a7 (fun _ _ _ h=>CV h) fun aU G4=>(AY rfl (CI U26_ rfl rfl G4 fun aV x6=>(?_))))))
  have:=x6.len_le
  refine AY rfl (CK U26_ rfl x6 (AY rfl (ID .i64 no (c.recs.length:Int) rfl rfl (AA (BK (vO (decide ((c.recs.length:Int)≤no))) rfl rfl (AG (AC (AJ (decide ((c.recs.length:Int)≤no)) rfl rfl (fun q9=>?_) (fun q9=>?_)))))))))
  ·have Y3:(c.recs.length:Int)≤no:=by simpa using q9
   refine AF (AB kR (AA (BI (vs:=[vI 0,vI 0,vI 0,nS,nS]) U28_ rfl BJ rfl a4 rfl (BZ (BE (vs:=[vI 0,vI 0,vI 0,nS,nS]) (.agg #[vI 0,vI 0,vI 0,nS,nS]) rfl rfl rfl BJ (fun u hu=>by simp only [List.mem_cons,List.not_mem_nil,or_false] at hu;rcases hu with rfl|rfl|rfl|rfl|rfl <;> rfl) (by repeat (constructor)) a4 oT o9 fun aW O0 aX C7 r0=>(?_))))))
   have a0:=a0.keep C7 (AS c5)
   have a1:=a1.keep C7 (AS (Ne.symm c0))
   refine BZ (BY (vI 1) rfl rfl rfl PF (by repeat (constructor)) a1 oT O0 fun aY O1 aZ C8 G5=>(?_))
   have a0:=a0.keep C8 (AS e5)
   have r0:=r0.keep C8 (AS c0)
   refine AG (AC (AM (AP (OY rfl (DT rfl (EE (vs:=[vI 0,vI 0,vI 0,nS,nS]) rfl U28_ rfl BJ rfl r0 rfl) (LS rfl U29_ rfl rfl G5 rfl)) (CZ (AA (AL (vA #[vI 0,vI 0,vI 0,nS,nS]) rfl rfl (AA (AL (vI 1) rfl rfl (BZ (BE (vs:=[vI 0,vI 0,vI 0,nS,nS]) (.agg #[vI 0,vI 0,vI 0,nS,nS]) rfl rfl rfl BJ (fun u hu=>by simp only [List.mem_cons,List.not_mem_nil,or_false] at hu;rcases hu with rfl|rfl|rfl|rfl|rfl <;> rfl) (by repeat (constructor)) a0 oT O1 fun ba O2 bb bc G6=>(AA (AE (vI 1) rfl (AG (AC (AM (AZ rfl (DT rfl (EE (vs:=[vI 0,vI 0,vI 0,nS,nS]) rfl U28_ rfl BJ rfl G6 rfl) (EK rfl rfl)) (?_))))))))))))))))))
   have O3:((AW c no (AV c guardian)).1)=(⟨(0:Int),(0:Int),(0:Int),[],[]⟩:Circle):=by exact congrArg (fun p=>p.1) (show AW c no (AV c guardian)=_ from app_no hok oM)
   have O4:((AW c no (AV c guardian)).2)=(1:Int):=by exact congrArg (fun p=>p.2) (show AW c no (AV c guardian)=_ from app_no hok oM)
   exact ⟨_,rfl,O2.keep,by rw [O3,O4];exact ⟨[vI 0,vI 0,vI 0,nS,nS],rfl,Enc.out (B:=(b0 :: (a9 :: (b2 :: [])))) ⟨.slice none 0 0, .slice none 0 0,rfl,(BL.nil _ _ _),(BL.nil _ _ _)⟩⟩⟩
  have Y4:no<(c.recs.length:Int):=by simpa using q9
  refine AT (AC (AF (YE [vP (some ⟨a9,0,none⟩),vP (some ⟨b0,0,none⟩)] rfl rfl rfl rfl (AC (AF (AB kR (AA (BO 4 EF (c.recs) rfl a7 (fun _ _ _ h=>CV h) fun bd G7=>(AA (CI U26_ rfl rfl G7 fun be x7=>(?_)))))))))))
  have:=x7.len_le
  refine AA (AD (vI no) rfl (AA (DO U26_ GK .i64 no no.toNat rfl rfl oM x7 oM fun bf G8=>(AA (CY U68_ rfl GK rfl G8 fun Y5 G9=>(?_))))))
  obtain ⟨d7,i5,rfl,b4,a2⟩:=G9
  have:=b4.len_le
  have:=a2.len_le
  refine AA (DN (l:=[(0, .tmp 31)]) pl_113 z_113 rfl [(0,vA #[vI ((c.recs[no.toNat]!).no),vI ((c.recs[no.toNat]!).asked),vI ((c.recs[no.toNat]!).state),d7,i5],[vI ((c.recs[no.toNat]!).no),vI ((c.recs[no.toNat]!).asked),vI ((c.recs[no.toNat]!).state),d7,i5])] [vI ((c.recs[no.toNat]!).no),vI ((c.recs[no.toNat]!).asked),vI ((c.recs[no.toNat]!).state),d7,i5] rfl ⟨_,rfl,rfl,oT,rfl⟩ (AA (RL (vA #[vI ((c.recs[no.toNat]!).no),vI ((c.recs[no.toNat]!).asked),vI ((c.recs[no.toNat]!).state),d7,i5]) [vI ((c.recs[no.toNat]!).no),vI ((c.recs[no.toNat]!).asked),vI ((c.recs[no.toNat]!).state),d7,i5] rfl rfl o9 fun a3 bg O5 O6 m7 u6 a8=>(?_))))
  have x8:EY b2 a3:=by show b2≠a3;have:=a0.lt;omega
  have g2:EY a9 a3:=by show a9≠a3;have:=a4.lt;omega
  have x9:EY b0 a3:=by show b0≠a3;have:=a1.lt;omega
  clear O5
  have b5:=b5.mv m7
  have b6:=b6.mv m7
  have a7:=a7.mv m7
  have b4:=b4.mv m7
  have a2:=a2.mv m7
  have a0:=a0.keep u6 (by simp)
  have a4:=a4.keep u6 (by simp)
  have a1:=a1.keep u6 (by simp)
  refine AA (AE (vP (some ⟨a3,0,none⟩)) rfl (AG (AC (AF (AB kR (AA (AD (vN (.func 69) #[] #[vP (some e3),vP (some e4)]) rfl (AA (AD (vP (some ⟨a3,0,none⟩)) rfl (AA (HX [] [vP (some e3),vP (some e4)] [vP (some ⟨a3,0,none⟩)] enter_69 rfl rfl (BW 11 Try.func69 rfl rfl oT (fun bh=>AF (AB kR (AA (RL (vP (some ⟨a3,0,none⟩)) [vP (some ⟨a3,0,none⟩)] rfl rfl O6 fun a6 bi O7 O8 m9 p0 a5=>(?_)))))))))))))))))
  have Y6:EY b2 a6:=by show b2≠a6;have:=a0.lt;omega
  have r4:EY a9 a6:=by show a9≠a6;have:=a4.lt;omega
  have Y7:EY b0 a6:=by show b0≠a6;have:=a1.lt;omega
  have y0:EY a3 a6:=by show a3≠a6;have:=a8.lt;omega
  clear O7
  have b5:=b5.mv m9
  have b6:=b6.mv m9
  have a7:=a7.mv m9
  have b4:=b4.mv m9
  have a2:=a2.mv m9
  have a0:=a0.keep p0 (by simp)
  have a4:=a4.keep p0 (by simp)
  have a1:=a1.keep p0 (by simp)
  have a8:=a8.keep p0 (by simp)
  refine AG (AC (AB kR (AA (AK U106_ rfl (vP (some ⟨a3,0,none⟩)) rfl a5 rfl (AA (OR O8 fun b3 bj O9 P0 n2 n3 H0=>(?_)))))))
  have r5:EY b2 b3:=by show b2≠b3;have:=a0.lt;omega
  have j1:EY a9 b3:=by show a9≠b3;have:=a4.lt;omega
  have r6:EY b0 b3:=by show b0≠b3;have:=a1.lt;omega
  have k7:EY a3 b3:=by show a3≠b3;have:=a8.lt;omega
  have r7:EY a6 b3:=by show a6≠b3;have:=a5.lt;omega
  clear O9
  have b5:=b5.mv n2
  have b6:=b6.mv n2
  have a7:=a7.mv n2
  have b4:=b4.mv n2
  have a2:=a2.mv n2
  have a0:=a0.keep n3 (by simp)
  have a4:=a4.keep n3 (by simp)
  have a1:=a1.keep n3 (by simp)
  have a8:=a8.keep n3 (by simp)
  have a5:=a5.keep n3 (by simp)
  refine AA (DF (first:=[]) (captured:=[.tmp 3]) [] [vP (some ⟨a6,0,none⟩)] rfl rfl (BZ (JJ U110_ U3_ rfl rfl rfl H0 (by repeat (constructor)) P0 rfl fun bk P1 n4 n5 H1=>(?_))))
  have b5:=b5.mv n4
  have b6:=b6.mv n4
  have a7:=a7.mv n4
  have b4:=b4.mv n4
  have a2:=a2.mv n4
  have a0:=a0.keep n5 (AS r5)
  have a4:=a4.keep n5 (AS j1)
  have a1:=a1.keep n5 (AS r6)
  have a8:=a8.keep n5 (AS k7)
  have a5:=a5.keep n5 (AS r7)
  refine AA (DF (first:=[]) (captured:=[.tmp 3]) [] [vP (some ⟨a6,0,none⟩)] rfl rfl (BZ (JJ U110_ U3_ rfl rfl rfl H1 (by repeat (constructor)) P1 rfl fun bm P2 n6 n7 H2=>(?_))))
  have b5:=b5.mv n6
  have b6:=b6.mv n6
  have a7:=a7.mv n6
  have b4:=b4.mv n6
  have a2:=a2.mv n6
  have a0:=a0.keep n7 (AS r5)
  have a4:=a4.keep n7 (AS j1)
  have a1:=a1.keep n7 (AS r6)
  have a8:=a8.keep n7 (AS k7)
  have a5:=a5.keep n7 (AS r7)
  refine AA (DF (first:=[]) (captured:=[.tmp 3, .tmp 1, .tmp 2]) [] [vP (some ⟨a6,0,none⟩),vP (some e3),vP (some e4)] rfl rfl (BZ (JJ U110_ U3_ rfl rfl rfl H2 (by repeat (constructor)) P2 rfl fun P3 u7 n9 o0 b1=>(?_))))
  have b5:=b5.mv n9
  have b6:=b6.mv n9
  have a7:=a7.mv n9
  have b4:=b4.mv n9
  have a2:=a2.mv n9
  have a0:=a0.keep o0 (AS r5)
  have a4:=a4.keep o0 (AS j1)
  have a1:=a1.keep o0 (AS r6)
  have a8:=a8.keep o0 (AS k7)
  have a5:=a5.keep o0 (AS r7)
  refine AA (AD (Value.map (some b3)) rfl (AA (ES [vP (some ⟨a3,0,none⟩),Value.map (some b3)] XE rfl (BW 19 Try.func70 rfl rfl oT (fun bn=>AF (AB kR (AA (AD (Value.map (some b3)) rfl (AA (AD (vP (some ⟨a3,0,none⟩)) rfl (AA (AR ⟨a3,0,none⟩ rfl (AA (AH 0 GC rfl (AA (AH 2 LO rfl (AA (AK U3_ rfl (vI ((c.recs[no.toNat]!).state)) rfl a8 rfl (?_)))))))))))))))))))
  rcases (IF hok oM oM:(c.recs[no.toNat]!).state=0∨(c.recs[no.toNat]!).state=1∨(c.recs[no.toNat]!).state=2) with k8|k8|k8
  ·refine AA (JF (k:=0) (vN (.func 74) #[] #[vP (some ⟨a6,0,none⟩),vP (some e3),vP (some e4)]) U110_ U3_ rfl (congrArg vI k8) b1 rfl (AA (AD (vT #[vN (.func 74) #[] #[vP (some ⟨a6,0,none⟩),vP (some e3),vP (some e4)],vO true]) rfl (AA (AL (vN (.func 74) #[] #[vP (some ⟨a6,0,none⟩),vP (some e3),vP (some e4)]) rfl rfl (AA (AL (vO true) rfl rfl (AA (AE (vN (.func 74) #[] #[vP (some ⟨a6,0,none⟩),vP (some e3),vP (some e4)]) rfl (AA (AE (vO true) rfl (AG (AC (AF (AB kR (AA (AD (vO true) rfl (AG (AC (AJ true rfl rfl (fun _=>AB kR (AA (AD (vN (.func 74) #[] #[vP (some ⟨a6,0,none⟩),vP (some e3),vP (some e4)]) rfl (AA (HX [] [vP (some ⟨a6,0,none⟩),vP (some e3),vP (some e4)] [] enter_74 rfl rfl (BW 12 Try.func74 rfl rfl oT (fun bo=>AF (FM [] [] [[(0,1),(1,1),(2,1),(3,1),(4,2),(5,0)]] (by intro c F d v w hd;(try simp only [GI,FG]);exact GJ c F d v w hd) kR kR kR fun C9 i6=>?_)))))))) (fun h=>by cases h)))))))))))))))))))))
   have D0:=u7.call i6
   have o1:Mv (b3 :: (a6 :: (a3 :: (b0 :: (a9 :: (b2 :: [])))))) P3 (b3 :: (a6 :: (a3 :: (b0 :: (a9 :: (b2 :: [])))))) C9:=Mv.of_keep i6
   have b5:=b5.mv o1
   have b6:=b6.mv o1
   have a7:=a7.mv o1
   have b4:=b4.mv o1
   have a2:=a2.mv o1
   have a0:=a0.keep i6 (by simp)
   have a4:=a4.keep i6 (by simp)
   have a1:=a1.keep i6 (by simp)
   have a8:=a8.keep i6 (by simp)
   have a5:=a5.keep i6 (by simp)
   have b1:=b1.keep i6 (by simp)
   refine ⟨?_,trivial⟩
   refine BS (AK U106_ rfl (vP (some ⟨a3,0,none⟩)) rfl a5 rfl (EP (BS (BO 3 LK (c.guardians) rfl b5 (fun _ _ _ h=>HS h) fun bp H3=>(EP (BS (CI U22_ rfl rfl H3 fun D1 y1=>(?_))))))))
   have:=y1.len_le
   refine EP (BS (CG U3_ rfl rfl b6 (EP (FA (BF (vs:=[D1,vI guardian]) enter_75 (XQ (O:=(b3 :: (a6 :: (a3 :: (b0 :: (a9 :: (b2 :: []))))))++O) D1 c.guardians guardian C9 y1 D0.lt) rfl D0 fun bq P4 u9 p1 j4 P5=>(?_))))))
   obtain rfl:=P5
   have b6:=b6.mv p1
   have a7:=a7.mv p1
   have b4:=b4.mv p1
   have a2:=a2.mv p1
   have a0:=a0.keep j4 (by simp)
   have a4:=a4.keep j4 (by simp)
   have a1:=a1.keep j4 (by simp)
   have a8:=a8.keep j4 (by simp)
   have a5:=a5.keep j4 (by simp)
   have b1:=b1.keep j4 (by simp)
   refine ⟨j4,?_⟩
   refine UZ (ES [vP (some ⟨a3,0,none⟩),vO (c.guardians.contains guardian),vI 450] IQ rfl (BW 11 Try.func72 rfl rfl oT (fun br=>AF (AB kR (AA (AD (vO (c.guardians.contains guardian)) rfl (AA (FF (c.guardians.contains guardian) rfl (AG (AC (AJ (!(c.guardians.contains guardian)) rfl rfl (fun r8=>?_) (fun r8=>?_))))))))))))
   ·have Y8:(c.guardians.contains guardian)=false:=by simpa using r8
    refine AB kR (AA (AD (vI 450) rfl (AA (DN (l:=[(0, .tmp 8)]) ND QA rfl [(0,vI 450,[vI 450])] [vI 450] rfl ⟨_,rfl,rfl,oT,rfl⟩ (AA (LC (vA #[vI 450]) U125_ rfl rfl (BZ (KZ rfl (FE rfl (DY (HB (FE rfl (DY (FE rfl (DY (FE rfl (DY (HB (LB (HQ [vP (some ⟨a9,0,none⟩),vP (some ⟨b0,0,none⟩)] (.panicking [{ v:=Value.iface 125 (vA #[vI 450]),recovered:=false }]) rfl (fun h=>by cases h) rfl FD (NF (450:Int) a9 b0 u9 a4 a1 (by repeat (constructor)) (by repeat (constructor)) c0) (fun e_ bs hR_=>?_)))))))))))))))))))))
    obtain ⟨v_,rfl,P6,bt,P7,H4,H5⟩:=hR_
    have a0:=a0.keep P7 (YS c5 e5)
    refine Exists.intro _ (And.intro (DT rfl (EE (vs:=[vI 0,vI 0,vI 0,nS,nS]) rfl U28_ rfl BJ rfl H4 rfl) (LS rfl U29_ rfl rfl H5 rfl)) (CZ (AA (AL (vA #[vI 0,vI 0,vI 0,nS,nS]) rfl rfl (AA (AL (vI 450) rfl rfl (BZ (BE (vs:=[vI 0,vI 0,vI 0,nS,nS]) (.agg #[vI 0,vI 0,vI 0,nS,nS]) rfl rfl rfl BJ (fun u hu=>by simp only [List.mem_cons,List.not_mem_nil,or_false] at hu;rcases hu with rfl|rfl|rfl|rfl|rfl <;> rfl) (by repeat (constructor)) a0 oT P6 fun bu P8 bv bw H6=>(AA (AE (vI 450) rfl (AG (AC (AM (AZ rfl (DT rfl (EE (vs:=[vI 0,vI 0,vI 0,nS,nS]) rfl U28_ rfl BJ rfl H6 rfl) (EK rfl rfl)) (?_)))))))))))))))
    have P9:((AW c no (AV c guardian)).1)=(⟨(0:Int),(0:Int),(0:Int),[],[]⟩:Circle):=by exact congrArg (fun p=>p.1) (show AW c no (AV c guardian)=_ from app_not hok oM oM aS aS)
    have Q0:((AW c no (AV c guardian)).2)=(450:Int):=by exact congrArg (fun p=>p.2) (show AW c no (AV c guardian)=_ from app_not hok oM oM aS aS)
    exact ⟨_,rfl,P8.keep,by rw [P9,Q0];exact ⟨[vI 0,vI 0,vI 0,nS,nS],rfl,Enc.out (B:=(b3 :: (a6 :: (a3 :: (b0 :: (a9 :: (b2 :: []))))))) ⟨.slice none 0 0, .slice none 0 0,rfl,(BL.nil _ _ _),(BL.nil _ _ _)⟩⟩⟩
   have Y9:(c.guardians.contains guardian)=true:=by simpa using r8
   refine AT (FL rfl (HU rfl) (CZ (FH (AC (AB kR (AA (AK U106_ rfl (vP (some ⟨a3,0,none⟩)) rfl a5 rfl (AA (CG U3_ rfl rfl b6 (AA (JV [vP (some ⟨a3,0,none⟩),vI guardian] _ enter_76 rfl (BW 32 Try.func76 rfl rfl oT (fun bx=>AF (AB kR (AA (AD (vP (some ⟨a3,0,none⟩)) rfl (AA (AR ⟨a3,0,none⟩ rfl (AA (AH 0 GC rfl (AA (AH 3 UV rfl (AA (AK U22_ rfl (d7) rfl a8 rfl (AA (AD (vI guardian) rfl (AA (BF (vs:=[d7,vI guardian]) enter_105 (c_bs (O:=(b3 :: (a6 :: (a3 :: (b0 :: (a9 :: (b2 :: []))))))++O) d7 ((c.recs[no.toNat]!).approved) guardian P4 b4 (VO hok oM oM) (by have:=OF (EL (KB hok (k:=no.toNat) oM)).2.2;omega) u9.lt) rfl u9 fun bz Q1 v0 v1 l6 Q2=>(?_)))))))))))))))))) (fun _ _ h=>h))))))))))))
   obtain rfl:=Q2
   have b4:=b4.mv v1
   have a7:=a7.mv v1
   have a2:=a2.mv v1
   have a0:=a0.keep l6 (by simp)
   have a4:=a4.keep l6 (by simp)
   have a1:=a1.keep l6 (by simp)
   have a8:=a8.keep l6 (by simp)
   have a5:=a5.keep l6 (by simp)
   have b1:=b1.keep l6 (by simp)
   refine AA (AD (vT #[vI ((tw ((c.recs[no.toNat]!).approved) guardian:Nat):Int),vO (VE ((c.recs[no.toNat]!).approved) guardian)]) rfl (AA (AL (vI ((tw ((c.recs[no.toNat]!).approved) guardian:Nat):Int)) rfl rfl (AA (AL (vO (VE ((c.recs[no.toNat]!).approved) guardian)) rfl rfl (AA (AE (vI ((tw ((c.recs[no.toNat]!).approved) guardian:Nat):Int)) rfl (AA (AE (vO (VE ((c.recs[no.toNat]!).approved) guardian)) rfl (AG (AC (AF (AB kR (AA (AD (vO (VE ((c.recs[no.toNat]!).approved) guardian)) rfl (AA (FF (VE ((c.recs[no.toNat]!).approved) guardian) rfl (AG (AC (AJ (!(VE ((c.recs[no.toNat]!).approved) guardian)) rfl rfl (fun r9=>?_) (fun r9=>?_)))))))))))))))))))))
   ·have Z0:(VE ((c.recs[no.toNat]!).approved) guardian)=false:=by simpa using r9
    refine AB kR (AA (AD (vP (some ⟨a3,0,none⟩)) rfl (AA (AD (vP (some ⟨a3,0,none⟩)) rfl (AA (AR ⟨a3,0,none⟩ rfl (AA (AH 0 GC rfl (AA (AH 3 UV rfl (AA (AK U22_ rfl (d7) rfl a8 rfl (AA (JV [d7] _ WD rfl (BW 8 Try.func32 rfl rfl oT (fun bA=>AF (AB kR (AA (AE (nS) rfl (AG (AC (AF (AF (AB kR (AA (AD (d7) rfl (AA (KU U22_ rfl rfl b4 fun s1 F7=>(AG (AC (AJ (s1) rfl rfl (fun s2=>?_) (fun s2=>?_)))))))))))))))))) (fun _ _ h=>h)))))))))))))))
    ·have Z1:s1=true:=by simpa using s2
     refine AF (AB kR (AA (AE (nS) rfl (AG (AC (AM (AP (AZ rfl (CN rfl rfl rfl) (?_)))))))))
     have u1:(c.recs[no.toNat]!).approved=[]:=F7 aS
     have Z2:BL Enc.int Q1 ((b3 :: (a6 :: (a3 :: (b0 :: (a9 :: (b2 :: []))))))++O) (.slice none 0 0) ((c.recs[no.toNat]!).approved):=by rw [u1];exact BL.nil _ _ _
     refine Exists.intro _ (And.intro rfl (AA (AD (vI ((tw ((c.recs[no.toNat]!).approved) guardian:Nat):Int)) rfl (AA (AD (vI guardian) rfl (AA (IA (E:=Enc.int) (xs:=[.tmp 26]) U22_ OB z_3 (by decide) [vI guardian] [[vI guardian]] [guardian] rfl rfl rfl (Parts.cons rfl rfl (Parts.nil _ _ _)) oT v0 fun e6 Q3 bB Q4 g3 Q5 D2 l7 y2=>(?_))))))))
     have Z3:∀ b,e6.ownBlock=some b→b≠b2:=fun b hb=>by have:=a0.lt;rw [g3] at hb;cases hb;omega
     have Z4:∀ b,e6.ownBlock=some b→b≠a9:=fun b hb=>by have:=a4.lt;rw [g3] at hb;cases hb;omega
     have Z5:∀ b,e6.ownBlock=some b→b≠b0:=fun b hb=>by have:=a1.lt;rw [g3] at hb;cases hb;omega
     have Z6:∀ b,e6.ownBlock=some b→b≠a3:=fun b hb=>by have:=a8.lt;rw [g3] at hb;cases hb;omega
     have Z7:∀ b,e6.ownBlock=some b→b≠a6:=fun b hb=>by have:=a5.lt;rw [g3] at hb;cases hb;omega
     have Z8:∀ b,e6.ownBlock=some b→b≠b3:=fun b hb=>by have:=b1.lt;rw [g3] at hb;cases hb;omega
     have s3:∀ b,e6.ownBlock=some b→b∈(Q3 :: (b3 :: (a6 :: (a3 :: (b0 :: (a9 :: (b2 :: []))))))):=fun b hb=>by rw [g3] at hb;cases hb;simp
     clear Q4 g3
     have a7:=a7.mv D2
     have a2:=a2.mv D2
     have a0:=a0.keep l7 (by simp)
     have a4:=a4.keep l7 (by simp)
     have a1:=a1.keep l7 (by simp)
     have a8:=a8.keep l7 (by simp)
     have a5:=a5.keep l7 (by simp)
     have b1:=b1.keep l7 (by simp)
     refine AA (ES [nS,vI ((tw ((c.recs[no.toNat]!).approved) guardian:Nat):Int),e6] ZS rfl (Calls.mono (ZZ (.slice none 0 0) e6 ((c.recs[no.toNat]!).approved) ([guardian]) (tw ((c.recs[no.toNat]!).approved) guardian) Q5 (by rw [u1];exact DX.nil Enc.int 3 _ _ _) y2 (by intro b hb;simp [Value.ownBlock] at hb) s3 (fun b hb=>by simp [Value.ownBlock] at hb) (by simp) (tw_le _ _) (by have:=OF (EL (KB hok (k:=no.toNat) oM)).2.2;simp only [List.length_cons,List.length_nil];omega) (by have:=OF (EL (KB hok (k:=no.toNat) oM)).2.2;simp only [List.length_cons,List.length_nil,maxLen];omega)) (fun e_ bC hR_=>?_)))
     obtain ⟨c9,g7,rfl,o2,h5,f8,Q6,D3,l8,c3⟩:=hR_
     refine CZ ?_
     have Z9:∀ b,e6.ownBlock=some b→c9.ownBlock≠some b:=fun b hb e=>(h5 b e).elim (fun e1=>(by simp [Value.ownBlock] at e1)) (fun e1=>by have:=(y2.lt b hb).2;omega)
     have H7:∀ b,c9.ownBlock=some b→b≠b2:=fun b hb=>(h5 b hb).elim (fun e1=>(by simp [Value.ownBlock] at e1)) (fun e1=>by have:=a0.lt;omega)
     have s4:∀ b,c9.ownBlock=some b→b≠a9:=fun b hb=>(h5 b hb).elim (fun e1=>(by simp [Value.ownBlock] at e1)) (fun e1=>by have:=a4.lt;omega)
     have H8:∀ b,c9.ownBlock=some b→b≠b0:=fun b hb=>(h5 b hb).elim (fun e1=>(by simp [Value.ownBlock] at e1)) (fun e1=>by have:=a1.lt;omega)
     have y3:∀ b,c9.ownBlock=some b→b≠a3:=fun b hb=>(h5 b hb).elim (fun e1=>(by simp [Value.ownBlock] at e1)) (fun e1=>by have:=a8.lt;omega)
     have H9:∀ b,c9.ownBlock=some b→b≠a6:=fun b hb=>(h5 b hb).elim (fun e1=>(by simp [Value.ownBlock] at e1)) (fun e1=>by have:=a5.lt;omega)
     have I0:∀ b,c9.ownBlock=some b→b≠b3:=fun b hb=>(h5 b hb).elim (fun e1=>(by simp [Value.ownBlock] at e1)) (fun e1=>by have:=b1.lt;omega)
     have s3:∀ b,e6.ownBlock=some b→b∈g7:=fun b hb=>f8 b (s3 b hb)
     have d1:b2∈g7:=f8 b2 (by repeat (constructor))
     have d2:a9∈g7:=f8 a9 (by repeat (constructor))
     have d3:b0∈g7:=f8 b0 (by repeat (constructor))
     have d4:a3∈g7:=f8 a3 (by repeat (constructor))
     have d5:a6∈g7:=f8 a6 (by repeat (constructor))
     have d6:b3∈g7:=f8 b3 (by repeat (constructor))
     have a7:=a7.mv D3
     have a2:=a2.mv D3
     have a0:=a0.keep l8 (by simp [Value.ownBlock])
     have a4:=a4.keep l8 (by simp [Value.ownBlock])
     have a1:=a1.keep l8 (by simp [Value.ownBlock])
     have a8:=a8.keep l8 (by simp [Value.ownBlock])
     have a5:=a5.keep l8 (by simp [Value.ownBlock])
     have b1:=b1.keep l8 (by simp [Value.ownBlock])
     refine AA (AR ⟨a3,0,none⟩ rfl (AA (AH 0 GC rfl (AA (AH 3 UV rfl (BZ (BY (c9) rfl rfl c3.oneCell s_22 (by repeat (assumption)) a8 oT Q6 fun bD Q7 v2 l9 c7=>(?_))))))))
     have c3:=c3.mv v2 l9 (fun b hb=>AS (y3 b hb))
     have a7:=a7.mv v2
     have a2:=a2.mv v2
     have a0:=a0.keep l9 (AS x8)
     have a4:=a4.keep l9 (AS g2)
     have a1:=a1.keep l9 (AS x9)
     have a5:=a5.keep l9 (AS (Ne.symm y0))
     have b1:=b1.keep l9 (AS (Ne.symm k7))
     refine AG (FL rfl (HU rfl) (Exists.intro _ (And.intro rfl (AG (FL rfl (HU rfl) (CZ (AG (FL rfl (HU rfl) (CZ (AG (FL rfl (HU rfl) (CZ (AG (AC (AF (AB kR (AA (CY U28_ rfl BJ rfl a7 fun aa I1=>(?_)))))))))))))))))))
     obtain ⟨e7,D4,rfl,b7,y4⟩:=I1
     have:=b7.len_le
     have:=y4.len_le
     refine BZ (BE (vs:=[vI c.epoch,vI c.threshold,vI c.wait,e7,D4]) (.agg #[vI c.epoch,vI c.threshold,vI c.wait,e7,D4]) rfl rfl rfl BJ (fun u hu=>by simp only [List.mem_cons,List.not_mem_nil,or_false] at hu;rcases hu with rfl|rfl|rfl|rfl|rfl <;> first|rfl|exact b7.oneCell|exact y4.oneCell) (by repeat (assumption)) a4 oT Q7 fun bE Q8 p2 m0 h6=>(?_))
     have a7:=a7.mv p2
     have a2:=a2.mv p2
     have b7:=b7.mv p2
     have a0:=a0.keep m0 (AS c5)
     have a1:=a1.keep m0 (AS (Ne.symm c0))
     have c3:=c3.mv p2 m0 (fun b hb=>AS (s4 b hb))
     have c7:=c7.keep m0 (AS (Ne.symm g2))
     have a5:=a5.keep m0 (AS (Ne.symm r4))
     have b1:=b1.keep m0 (AS (Ne.symm j1))
     refine AG (AC (AF (AB kR (AA (BO 4 EF (c.recs) rfl a7 (fun _ _ _ h=>CV h) fun bF I2=>(AA (CI U26_ rfl rfl I2 fun v3 k9=>(?_))))))))
     have:=k9.len_le
     refine AA (JV [v3] _ LG rfl (BW 8 Try.func67 rfl rfl oT (fun bG=>AF (AB kR (AA (AE (nS) rfl (AG (AC (AF (AF (AB kR (AA (AD (v3) rfl (AA (MD U26_ rfl rfl k9 oM (AG (AC (AJ false rfl rfl (fun h=>by cases h) (fun _=>AT (AC (AF (AB kR (AA (IA (E:=Enc.recovery) (xs:=[]) U26_ GK OZ (by decide) [] [] [] rfl rfl rfl (Parts.nil _ _ _) oT Q8 fun g8 D5 bH Q9 e8 R0 p3 j5 I3=>(?_)))))))))))))))))))))))) (fun _ _ h=>h))
     have y5:∀ b,g8.ownBlock=some b→b≠b2:=fun b hb=>by have:=a0.lt;rw [e8] at hb;cases hb;omega
     have y6:∀ b,g8.ownBlock=some b→b≠a9:=fun b hb=>by have:=h6.lt;rw [e8] at hb;cases hb;omega
     have y7:∀ b,g8.ownBlock=some b→b≠b0:=fun b hb=>by have:=a1.lt;rw [e8] at hb;cases hb;omega
     have y8:∀ b,g8.ownBlock=some b→b≠a3:=fun b hb=>by have:=c7.lt;rw [e8] at hb;cases hb;omega
     have I4:∀ b,g8.ownBlock=some b→b≠a6:=fun b hb=>by have:=a5.lt;rw [e8] at hb;cases hb;omega
     have I5:∀ b,g8.ownBlock=some b→b≠b3:=fun b hb=>by have:=b1.lt;rw [e8] at hb;cases hb;omega
     have s5:∀ b,c9.ownBlock=some b→g8.ownBlock≠some b:=fun b hb=>by have:=(c3.lt b hb).2;rw [e8];intro e;cases e;omega
     have ne3710':∀ b,g8.ownBlock=some b→c9.ownBlock≠some b:=fun b hb e=>s5 b e hb
     have I6:∀ b,g8.ownBlock=some b→b∈(D5 :: g7):=fun b hb=>by rw [e8] at hb;cases hb;simp
     clear Q9 e8
     have o2:∀ b,c9.ownBlock=some b→b∈(D5 :: g7):=fun b hb=>List.mem_cons_of_mem _ (o2 b hb)
     have k9:=k9.mv p3
     have a2:=a2.mv p3
     have b7:=b7.mv p3
     have a0:=a0.keep j5 (by simp)
     have h6:=h6.keep j5 (by simp)
     have a1:=a1.keep j5 (by simp)
     have c3:=c3.mv p3 j5 (by simp)
     have c7:=c7.keep j5 (by simp)
     have a5:=a5.keep j5 (by simp)
     have b1:=b1.keep j5 (by simp)
     refine AA (AD (v3) rfl (AA (DI (E:=Enc.recovery) (l:=[]) (m:=c.recs) U26_ VN rfl (by decide) rfl rfl I3 k9 (fun _ hb=>.inl hb) I6 (by simp;omega) (by simp [maxLen];omega) R0 fun c1 bI g9 s6 h7 f9 R1 v4 o3 d9=>(?_))))
     rw [List.nil_append] at d9
     have I7:∀ b,c9.ownBlock=some b→c1.ownBlock≠some b:=fun b hb e=>by rcases h7 with e1|e1 <;> rw [e1] at e <;> first|(cases e;have:=(c3.lt _ hb).2;omega)|(exact absurd e (s5 b hb))
     have y9:∀ b,c1.ownBlock=some b→b≠b2:=fun b hb=>by rcases h7 with e1|e1 <;> rw [e1] at hb <;> first|(cases hb;have:=a0.lt;omega)|(exact y5 b hb)
     have s7:∀ b,c1.ownBlock=some b→b≠a9:=fun b hb=>by rcases h7 with e1|e1 <;> rw [e1] at hb <;> first|(cases hb;have:=h6.lt;omega)|(exact y6 b hb)
     have z0:∀ b,c1.ownBlock=some b→b≠b0:=fun b hb=>by rcases h7 with e1|e1 <;> rw [e1] at hb <;> first|(cases hb;have:=a1.lt;omega)|(exact y7 b hb)
     have ab:∀ b,c1.ownBlock=some b→b≠a3:=fun b hb=>by rcases h7 with e1|e1 <;> rw [e1] at hb <;> first|(cases hb;have:=c7.lt;omega)|(exact y8 b hb)
     have ac:∀ b,c1.ownBlock=some b→b≠a6:=fun b hb=>by rcases h7 with e1|e1 <;> rw [e1] at hb <;> first|(cases hb;have:=a5.lt;omega)|(exact I4 b hb)
     have ad:∀ b,c1.ownBlock=some b→b≠b3:=fun b hb=>by rcases h7 with e1|e1 <;> rw [e1] at hb <;> first|(cases hb;have:=b1.lt;omega)|(exact I5 b hb)
     have o2:∀ b,c9.ownBlock=some b→b∈g9:=fun b hb=>f9 b (o2 b hb)
     have d1:b2∈g9:=f9 b2 rC
     have d2:a9∈g9:=f9 a9 rC
     have d3:b0∈g9:=f9 b0 rC
     have d4:a3∈g9:=f9 a3 rC
     have d5:a6∈g9:=f9 a6 rC
     have d6:b3∈g9:=f9 b3 rC
     have a2:=a2.mv v4
     have b7:=b7.mv v4
     have a0:=a0.keep o3 (by simp only [Option.mem_toList];exact fun e=>absurd rfl (y5 _ e))
     have h6:=h6.keep o3 (by simp only [Option.mem_toList];exact fun e=>absurd rfl (y6 _ e))
     have a1:=a1.keep o3 (by simp only [Option.mem_toList];exact fun e=>absurd rfl (y7 _ e))
     have c3:=c3.mv v4 o3 (fun b hb=>by simp only [Option.mem_toList];exact s5 b hb)
     have c7:=c7.keep o3 (by simp only [Option.mem_toList];exact fun e=>absurd rfl (y8 _ e))
     refine AA (AE (c1) rfl (AG (AC (AM (AZ rfl (CN rfl rfl rfl) (Exists.intro _ (And.intro rfl (AA (AH 4 EF rfl (BZ (BY (c1) rfl rfl d9.oneCell YV (by repeat (assumption)) h6 oT R1 fun R2 R3 p4 o4 e9=>(?_))))))))))))
     have a2:=a2.mv p4
     have b7:=b7.mv p4
     have d9:=d9.mv p4 o4 (fun b hb=>AS (s7 b hb))
     have a0:=a0.keep o4 (AS c5)
     have a1:=a1.keep o4 (AS (Ne.symm c0))
     have c3:=c3.mv p4 o4 (fun b hb=>AS (s4 b hb))
     have c7:=c7.keep o4 (AS (Ne.symm g2))
     refine AG (AC (AF (DP 8 _ _ kR kR kR kR kR rfl rfl fun R4 i7=>?_)))
     have R5:=R3.call i7
     have p5:Mv g9 R2 g9 R4:=Mv.of_keep i7
     have a2:=a2.mv p5
     have b7:=b7.mv p5
     have d9:=d9.mv p5 i7 (by simp)
     have a0:=a0.keep i7 (by simp)
     have e9:=e9.keep i7 (by simp)
     have a1:=a1.keep i7 (by simp)
     have c3:=c3.mv p5 i7 (by simp)
     have c7:=c7.keep i7 (by simp)
     refine BG (AH 4 EF rfl (BG (AK U26_ rfl (c1) rfl e9 rfl (BG (AD (vI no) rfl (BG (AD (vP (some ⟨a3,0,none⟩)) rfl (BG (AR ⟨a3,0,none⟩ rfl (BG (AH 0 GC rfl (BG (BI (vs:=[vI ((c.recs[no.toNat]!).no),vI ((c.recs[no.toNat]!).asked),vI ((c.recs[no.toNat]!).state),c9,i5]) U68_ rfl GK rfl c7 rfl (BG (EW U26_ GK .i64 no no.toNat rfl rfl oM d9 oM fun bJ l0=>(EQ (?_)))))))))))))))))
     obtain ⟨j6,R6,v5,z1,h8⟩:=c3.publish R5
     have s6:∀ b,c1.ownBlock=some b→b∈j6:=fun b hb=>h8 b (s6 b hb) ((fun b hb e=>I7 b e hb) b hb)
     have d1:b2∈j6:=h8 b2 (by repeat (assumption)) (fun e=>absurd rfl (H7 _ e))
     have d2:a9∈j6:=h8 a9 (by repeat (assumption)) (fun e=>absurd rfl (s4 _ e))
     have d3:b0∈j6:=h8 b0 (by repeat (assumption)) (fun e=>absurd rfl (H8 _ e))
     have d4:a3∈j6:=h8 a3 (by repeat (assumption)) (fun e=>absurd rfl (y3 _ e))
     have d5:a6∈j6:=h8 a6 (by repeat (assumption)) (fun e=>absurd rfl (H9 _ e))
     have d6:b3∈j6:=h8 b3 (by repeat (assumption)) (fun e=>absurd rfl (I0 _ e))
     have X9:=z1.len_le
     have a2:=a2.mv v5
     have b7:=b7.mv v5
     have d9:=d9.mv v5 (Keep.refl [] _) (by simp)
     have a0:=a0.keep (Keep.refl [] _) (by simp)
     have e9:=e9.keep (Keep.refl [] _) (by simp)
     have a1:=a1.keep (Keep.refl [] _) (by simp)
     refine BZ (LZ (⟨(c.recs[no.toNat]!).no,(c.recs[no.toNat]!).asked,(c.recs[no.toNat]!).state,((c.recs[no.toNat]!).approved).take (tw ((c.recs[no.toNat]!).approved) guardian)++([guardian])++((c.recs[no.toNat]!).approved).drop (tw ((c.recs[no.toNat]!).approved) guardian),(c.recs[no.toNat]!).vetoed⟩:Recovery) (by decide) GK rfl rfl d9 l0 (s6 _ l0) oM ⟨_,_,rfl,z1,a2⟩ R6 fun bK R7 R8 v6 f0=>(?_))
     have b7:=b7.mv R8
     have a0:=a0.keep v6 (by simp only [List.mem_singleton];exact fun e=>absurd e.symm (y9 _ l0))
     have e9:=e9.keep v6 (by simp only [List.mem_singleton];exact fun e=>absurd e.symm (s7 _ l0))
     have a1:=a1.keep v6 (by simp only [List.mem_singleton];exact fun e=>absurd e.symm (z0 _ l0))
     refine AG (AC (AF (AB kR (AA (BI (vs:=[vI c.epoch,vI c.threshold,vI c.wait,e7,c1]) U28_ rfl BJ rfl e9 rfl (BZ (BE (vs:=[vI c.epoch,vI c.threshold,vI c.wait,e7,c1]) (.agg #[vI c.epoch,vI c.threshold,vI c.wait,e7,c1]) rfl rfl rfl BJ (fun u hu=>by simp only [List.mem_cons,List.not_mem_nil,or_false] at hu;rcases hu with rfl|rfl|rfl|rfl|rfl <;> first|rfl|exact b7.oneCell|exact f0.oneCell) (by repeat (assumption)) e9 oT R7 fun bL R9 D6 v7 s8=>(?_))))))))
     have b7:=b7.mv D6
     have f0:=f0.mv D6 v7 (fun b hb=>AS (s7 b hb))
     have a0:=a0.keep v7 (AS c5)
     have a1:=a1.keep v7 (AS (Ne.symm c0))
     refine BZ (BY (vI 0) rfl rfl rfl PF (by repeat (assumption)) a1 oT R9 fun bM S0 D7 v8 I8=>(?_))
     have b7:=b7.mv D7
     have f0:=f0.mv D7 v8 (fun b hb=>AS (z0 b hb))
     have a0:=a0.keep v8 (AS e5)
     have s8:=s8.keep v8 (AS c0)
     refine AG (AC (AM (QN (LY [vP (some ⟨a9,0,none⟩),vP (some ⟨b0,0,none⟩)] 19 .returning rfl (fun h=>by cases h) rfl FD Try.func103 rfl rfl oT rfl rfl (fun bN=>AF (AB kR (AA (AD (Value.nilIface) rfl (AA (o_neqNil' U20_ rfl (AG (AC (AJ false rfl rfl (fun h=>by cases h) (fun _=>AT (FL rfl (HU rfl) (Exists.intro _ (And.intro (DT rfl (EE (vs:=[vI c.epoch,vI c.threshold,vI c.wait,e7,c1]) rfl U28_ rfl BJ rfl s8 rfl) (LS rfl U29_ rfl rfl I8 rfl)) (CZ (AA (AL (vA #[vI c.epoch,vI c.threshold,vI c.wait,e7,c1]) rfl rfl (AA (AL (vI 0) rfl rfl (BZ (BE (vs:=[vI c.epoch,vI c.threshold,vI c.wait,e7,c1]) (.agg #[vI c.epoch,vI c.threshold,vI c.wait,e7,c1]) rfl rfl rfl BJ (fun u hu=>by simp only [List.mem_cons,List.not_mem_nil,or_false] at hu;rcases hu with rfl|rfl|rfl|rfl|rfl <;> first|rfl|exact b7.oneCell|exact f0.oneCell) (by repeat (assumption)) a0 oT S0 fun bO D8 D9 S1 I9=>(?_)))))))))))))))))))))))))
     have b7:=b7.mv D9
     have f0:=f0.mv D9 S1 (fun b hb=>AS (y9 b hb))
     refine AA (AE (vI 0) rfl (AG (AC (AM (AZ rfl (DT rfl (EE (vs:=[vI c.epoch,vI c.threshold,vI c.wait,e7,c1]) rfl U28_ rfl BJ rfl I9 rfl) (EK rfl rfl)) (?_))))))
     have S2:((AW c no (AV c guardian)).1)=(⟨c.epoch,c.threshold,c.wait,c.guardians,c.recs.set no.toNat (⟨(c.recs[no.toNat]!).no,(c.recs[no.toNat]!).asked,(c.recs[no.toNat]!).state,((c.recs[no.toNat]!).approved).take (tw ((c.recs[no.toNat]!).approved) guardian)++([guardian])++((c.recs[no.toNat]!).approved).drop (tw ((c.recs[no.toNat]!).approved) guardian),(c.recs[no.toNat]!).vetoed⟩:Recovery)⟩:Circle):=by exact congrArg (fun p=>p.1) (show AW c no (AV c guardian)=_ from VW hok oM oM aS aS aS)
     have S3:((AW c no (AV c guardian)).2)=(0:Int):=by exact congrArg (fun p=>p.2) (show AW c no (AV c guardian)=_ from VW hok oM oM aS aS aS)
     exact ⟨_,rfl,D8.keep,by rw [S2,S3];exact ⟨[vI c.epoch,vI c.threshold,vI c.wait,e7,c1],rfl,⟨_,_,rfl,b7.out,(f0.pub D8)⟩⟩⟩
    have ae:s1=false:=by simpa using s2
    refine AT (AC (AF (AB kR (AA (IA (E:=Enc.int) (xs:=[]) U22_ OB z_3 (by decide) [] [] [] rfl rfl rfl (Parts.nil _ _ _) oT v0 fun j7 S4 bP S5 g4 S6 v9 m1 J0=>(?_))))))
    have z2:∀ b,j7.ownBlock=some b→b≠b2:=fun b hb=>by have:=a0.lt;rw [g4] at hb;cases hb;omega
    have z3:∀ b,j7.ownBlock=some b→b≠a9:=fun b hb=>by have:=a4.lt;rw [g4] at hb;cases hb;omega
    have z4:∀ b,j7.ownBlock=some b→b≠b0:=fun b hb=>by have:=a1.lt;rw [g4] at hb;cases hb;omega
    have z5:∀ b,j7.ownBlock=some b→b≠a3:=fun b hb=>by have:=a8.lt;rw [g4] at hb;cases hb;omega
    have z6:∀ b,j7.ownBlock=some b→b≠a6:=fun b hb=>by have:=a5.lt;rw [g4] at hb;cases hb;omega
    have z7:∀ b,j7.ownBlock=some b→b≠b3:=fun b hb=>by have:=b1.lt;rw [g4] at hb;cases hb;omega
    have J1:∀ b,j7.ownBlock=some b→b∈(S4 :: (b3 :: (a6 :: (a3 :: (b0 :: (a9 :: (b2 :: []))))))):=fun b hb=>by rw [g4] at hb;cases hb;simp
    clear S5 g4
    have b4:=b4.mv v9
    have a7:=a7.mv v9
    have a2:=a2.mv v9
    have a0:=a0.keep m1 (by simp)
    have a4:=a4.keep m1 (by simp)
    have a1:=a1.keep m1 (by simp)
    have a8:=a8.keep m1 (by simp)
    have a5:=a5.keep m1 (by simp)
    have b1:=b1.keep m1 (by simp)
    refine AA (AD (d7) rfl (AA (DI (E:=Enc.int) (l:=[]) (m:=(c.recs[no.toNat]!).approved) U22_ i_3 rfl (by decide) rfl rfl J0 b4 (fun _ hb=>.inl hb) J1 (by have:=OF (EL (KB hok (k:=no.toNat) oM)).2.2;simp only [List.length_nil];omega) (by have:=OF (EL (KB hok (k:=no.toNat) oM)).2.2;simp only [List.length_nil,maxLen];omega) S6 fun e2 bQ i8 s9 j2 h3 S7 E0 m2 l1=>(?_))))
    rw [List.nil_append] at l1
    have z8:∀ b,e2.ownBlock=some b→b≠b2:=fun b hb=>by rcases j2 with e1|e1 <;> rw [e1] at hb <;> first|(cases hb;have:=a0.lt;omega)|(exact z2 b hb)
    have z9:∀ b,e2.ownBlock=some b→b≠a9:=fun b hb=>by rcases j2 with e1|e1 <;> rw [e1] at hb <;> first|(cases hb;have:=a4.lt;omega)|(exact z3 b hb)
    have A0:∀ b,e2.ownBlock=some b→b≠b0:=fun b hb=>by rcases j2 with e1|e1 <;> rw [e1] at hb <;> first|(cases hb;have:=a1.lt;omega)|(exact z4 b hb)
    have A1:∀ b,e2.ownBlock=some b→b≠a3:=fun b hb=>by rcases j2 with e1|e1 <;> rw [e1] at hb <;> first|(cases hb;have:=a8.lt;omega)|(exact z5 b hb)
    have A2:∀ b,e2.ownBlock=some b→b≠a6:=fun b hb=>by rcases j2 with e1|e1 <;> rw [e1] at hb <;> first|(cases hb;have:=a5.lt;omega)|(exact z6 b hb)
    have A3:∀ b,e2.ownBlock=some b→b≠b3:=fun b hb=>by rcases j2 with e1|e1 <;> rw [e1] at hb <;> first|(cases hb;have:=b1.lt;omega)|(exact z7 b hb)
    have d1:b2∈i8:=h3 b2 (by repeat (constructor))
    have d2:a9∈i8:=h3 a9 (by repeat (constructor))
    have d3:b0∈i8:=h3 b0 (by repeat (constructor))
    have d4:a3∈i8:=h3 a3 (by repeat (constructor))
    have d5:a6∈i8:=h3 a6 (by repeat (constructor))
    have d6:b3∈i8:=h3 b3 (by repeat (constructor))
    have a7:=a7.mv E0
    have a2:=a2.mv E0
    have a0:=a0.keep m2 (by simp only [Option.mem_toList];exact fun e=>absurd rfl (z2 _ e))
    have a4:=a4.keep m2 (by simp only [Option.mem_toList];exact fun e=>absurd rfl (z3 _ e))
    have a1:=a1.keep m2 (by simp only [Option.mem_toList];exact fun e=>absurd rfl (z4 _ e))
    have a8:=a8.keep m2 (by simp only [Option.mem_toList];exact fun e=>absurd rfl (z5 _ e))
    have a5:=a5.keep m2 (by simp only [Option.mem_toList];exact fun e=>absurd rfl (z6 _ e))
    have b1:=b1.keep m2 (by simp only [Option.mem_toList];exact fun e=>absurd rfl (z7 _ e))
    refine AA (AE (e2) rfl (AG (AC (AM (AZ rfl (CN rfl rfl rfl) (Exists.intro _ (And.intro rfl (AA (AD (vI ((tw ((c.recs[no.toNat]!).approved) guardian:Nat):Int)) rfl (AA (AD (vI guardian) rfl (AA (IA (E:=Enc.int) (xs:=[.tmp 26]) U22_ OB z_3 (by decide) [vI guardian] [[vI guardian]] [guardian] rfl rfl rfl (Parts.cons rfl rfl (Parts.nil _ _ _)) oT S7 fun d8 E1 bR S8 f1 S9 w0 j8 A4=>(?_))))))))))))))
    have af:∀ b,d8.ownBlock=some b→b≠b2:=fun b hb=>by have:=a0.lt;rw [f1] at hb;cases hb;omega
    have ag:∀ b,d8.ownBlock=some b→b≠a9:=fun b hb=>by have:=a4.lt;rw [f1] at hb;cases hb;omega
    have ah:∀ b,d8.ownBlock=some b→b≠b0:=fun b hb=>by have:=a1.lt;rw [f1] at hb;cases hb;omega
    have ai:∀ b,d8.ownBlock=some b→b≠a3:=fun b hb=>by have:=a8.lt;rw [f1] at hb;cases hb;omega
    have aj:∀ b,d8.ownBlock=some b→b≠a6:=fun b hb=>by have:=a5.lt;rw [f1] at hb;cases hb;omega
    have ak:∀ b,d8.ownBlock=some b→b≠b3:=fun b hb=>by have:=b1.lt;rw [f1] at hb;cases hb;omega
    have t0:∀ b,e2.ownBlock=some b→d8.ownBlock≠some b:=fun b hb=>by have:=(l1.lt b hb).2;rw [f1];intro e;cases e;omega
    have ne3817':∀ b,d8.ownBlock=some b→e2.ownBlock≠some b:=fun b hb e=>t0 b e hb
    have t2:∀ b,d8.ownBlock=some b→b∈(E1 :: i8):=fun b hb=>by rw [f1] at hb;cases hb;simp
    clear S8 f1
    have s9:∀ b,e2.ownBlock=some b→b∈(E1 :: i8):=fun b hb=>List.mem_cons_of_mem _ (s9 b hb)
    have l1:=l1.mv w0 j8 (by simp)
    have a7:=a7.mv w0
    have a2:=a2.mv w0
    have a0:=a0.keep j8 (by simp)
    have a4:=a4.keep j8 (by simp)
    have a1:=a1.keep j8 (by simp)
    have a8:=a8.keep j8 (by simp)
    have a5:=a5.keep j8 (by simp)
    have b1:=b1.keep j8 (by simp)
    refine AA (ES [e2,vI ((tw ((c.recs[no.toNat]!).approved) guardian:Nat):Int),d8] ZS rfl (Calls.mono (ZZ e2 d8 ((c.recs[no.toNat]!).approved) ([guardian]) (tw ((c.recs[no.toNat]!).approved) guardian) S9 l1 A4 s9 t2 t0 (by simp) (tw_le _ _) (by have:=OF (EL (KB hok (k:=no.toNat) oM)).2.2;simp only [List.length_cons,List.length_nil];omega) (by have:=OF (EL (KB hok (k:=no.toNat) oM)).2.2;simp only [List.length_cons,List.length_nil,maxLen];omega)) (fun e_ bS hR_=>?_)))
    obtain ⟨d0,h0,rfl,o5,h9,g0,T0,E2,m3,c4⟩:=hR_
    refine CZ ?_
    have al:∀ b,d8.ownBlock=some b→d0.ownBlock≠some b:=fun b hb e=>(h9 b e).elim (fun e1=>((fun b hb e=>t0 b e hb) b hb e1)) (fun e1=>by have:=(A4.lt b hb).2;omega)
    have J2:∀ b,d0.ownBlock=some b→b≠b2:=fun b hb=>(h9 b hb).elim (fun e1=>(z8 b e1)) (fun e1=>by have:=a0.lt;omega)
    have t3:∀ b,d0.ownBlock=some b→b≠a9:=fun b hb=>(h9 b hb).elim (fun e1=>(z9 b e1)) (fun e1=>by have:=a4.lt;omega)
    have J3:∀ b,d0.ownBlock=some b→b≠b0:=fun b hb=>(h9 b hb).elim (fun e1=>(A0 b e1)) (fun e1=>by have:=a1.lt;omega)
    have A5:∀ b,d0.ownBlock=some b→b≠a3:=fun b hb=>(h9 b hb).elim (fun e1=>(A1 b e1)) (fun e1=>by have:=a8.lt;omega)
    have J4:∀ b,d0.ownBlock=some b→b≠a6:=fun b hb=>(h9 b hb).elim (fun e1=>(A2 b e1)) (fun e1=>by have:=a5.lt;omega)
    have J5:∀ b,d0.ownBlock=some b→b≠b3:=fun b hb=>(h9 b hb).elim (fun e1=>(A3 b e1)) (fun e1=>by have:=b1.lt;omega)
    have t2:∀ b,d8.ownBlock=some b→b∈h0:=fun b hb=>g0 b (t2 b hb)
    have d1:b2∈h0:=g0 b2 rC
    have d2:a9∈h0:=g0 a9 rC
    have d3:b0∈h0:=g0 b0 rC
    have d4:a3∈h0:=g0 a3 rC
    have d5:a6∈h0:=g0 a6 rC
    have d6:b3∈h0:=g0 b3 rC
    have a7:=a7.mv E2
    have a2:=a2.mv E2
    have a0:=a0.keep m3 (by simp only [Option.mem_toList];exact fun e=>absurd rfl (z8 _ e))
    have a4:=a4.keep m3 (by simp only [Option.mem_toList];exact fun e=>absurd rfl (z9 _ e))
    have a1:=a1.keep m3 (by simp only [Option.mem_toList];exact fun e=>absurd rfl (A0 _ e))
    have a8:=a8.keep m3 (by simp only [Option.mem_toList];exact fun e=>absurd rfl (A1 _ e))
    have a5:=a5.keep m3 (by simp only [Option.mem_toList];exact fun e=>absurd rfl (A2 _ e))
    have b1:=b1.keep m3 (by simp only [Option.mem_toList];exact fun e=>absurd rfl (A3 _ e))
    refine AA (AR ⟨a3,0,none⟩ rfl (AA (AH 0 GC rfl (AA (AH 3 UV rfl (BZ (BY (d0) rfl rfl c4.oneCell s_22 (by repeat (assumption)) a8 oT T0 fun bT T1 w1 m4 c8=>(?_))))))))
    have c4:=c4.mv w1 m4 (fun b hb=>AS (A5 b hb))
    have a7:=a7.mv w1
    have a2:=a2.mv w1
    have a0:=a0.keep m4 (AS x8)
    have a4:=a4.keep m4 (AS g2)
    have a1:=a1.keep m4 (AS x9)
    have a5:=a5.keep m4 (AS (Ne.symm y0))
    have b1:=b1.keep m4 (AS (Ne.symm k7))
    refine AG (FL rfl (HU rfl) (Exists.intro _ (And.intro rfl (AG (FL rfl (HU rfl) (CZ (AG (FL rfl (HU rfl) (CZ (AG (FL rfl (HU rfl) (CZ (AG (AC (AF (AB kR (AA (CY U28_ rfl BJ rfl a7 fun am J6=>(?_)))))))))))))))))))
    obtain ⟨f2,E3,rfl,b8,A6⟩:=J6
    have:=b8.len_le
    have:=A6.len_le
    refine BZ (BE (vs:=[vI c.epoch,vI c.threshold,vI c.wait,f2,E3]) (.agg #[vI c.epoch,vI c.threshold,vI c.wait,f2,E3]) rfl rfl rfl BJ (fun u hu=>by simp only [List.mem_cons,List.not_mem_nil,or_false] at hu;rcases hu with rfl|rfl|rfl|rfl|rfl <;> first|rfl|exact b8.oneCell|exact A6.oneCell) (by repeat (assumption)) a4 oT T1 fun bU T2 p6 m5 i0=>(?_))
    have a7:=a7.mv p6
    have a2:=a2.mv p6
    have b8:=b8.mv p6
    have a0:=a0.keep m5 (AS c5)
    have a1:=a1.keep m5 (AS (Ne.symm c0))
    have c4:=c4.mv p6 m5 (fun b hb=>AS (t3 b hb))
    have c8:=c8.keep m5 (AS (Ne.symm g2))
    have a5:=a5.keep m5 (AS (Ne.symm r4))
    have b1:=b1.keep m5 (AS (Ne.symm j1))
    refine AG (AC (AF (AB kR (AA (BO 4 EF (c.recs) rfl a7 (fun _ _ _ h=>CV h) fun bV J7=>(AA (CI U26_ rfl rfl J7 fun w2 l2=>(?_))))))))
    have:=l2.len_le
    refine AA (JV [w2] _ LG rfl (BW 8 Try.func67 rfl rfl oT (fun bW=>AF (AB kR (AA (AE (nS) rfl (AG (AC (AF (AF (AB kR (AA (AD (w2) rfl (AA (MD U26_ rfl rfl l2 oM (AG (AC (AJ false rfl rfl (fun h=>by cases h) (fun _=>AT (AC (AF (AB kR (AA (IA (E:=Enc.recovery) (xs:=[]) U26_ GK OZ (by decide) [] [] [] rfl rfl rfl (Parts.nil _ _ _) oT T2 fun h1 E4 bX T3 f3 T4 p7 j9 J8=>(?_)))))))))))))))))))))))) (fun _ _ h=>h))
    have A7:∀ b,h1.ownBlock=some b→b≠b2:=fun b hb=>by have:=a0.lt;rw [f3] at hb;cases hb;omega
    have A8:∀ b,h1.ownBlock=some b→b≠a9:=fun b hb=>by have:=i0.lt;rw [f3] at hb;cases hb;omega
    have A9:∀ b,h1.ownBlock=some b→b≠b0:=fun b hb=>by have:=a1.lt;rw [f3] at hb;cases hb;omega
    have B0:∀ b,h1.ownBlock=some b→b≠a3:=fun b hb=>by have:=c8.lt;rw [f3] at hb;cases hb;omega
    have J9:∀ b,h1.ownBlock=some b→b≠a6:=fun b hb=>by have:=a5.lt;rw [f3] at hb;cases hb;omega
    have K0:∀ b,h1.ownBlock=some b→b≠b3:=fun b hb=>by have:=b1.lt;rw [f3] at hb;cases hb;omega
    have t4:∀ b,d0.ownBlock=some b→h1.ownBlock≠some b:=fun b hb=>by have:=(c4.lt b hb).2;rw [f3];intro e;cases e;omega
    have ne3872':∀ b,h1.ownBlock=some b→d0.ownBlock≠some b:=fun b hb e=>t4 b e hb
    have K1:∀ b,h1.ownBlock=some b→b∈(E4 :: h0):=fun b hb=>by rw [f3] at hb;cases hb;simp
    clear T3 f3
    have o5:∀ b,d0.ownBlock=some b→b∈(E4 :: h0):=fun b hb=>List.mem_cons_of_mem _ (o5 b hb)
    have l2:=l2.mv p7
    have a2:=a2.mv p7
    have b8:=b8.mv p7
    have a0:=a0.keep j9 (by simp)
    have i0:=i0.keep j9 (by simp)
    have a1:=a1.keep j9 (by simp)
    have c4:=c4.mv p7 j9 (by simp)
    have c8:=c8.keep j9 (by simp)
    have a5:=a5.keep j9 (by simp)
    have b1:=b1.keep j9 (by simp)
    refine AA (AD (w2) rfl (AA (DI (E:=Enc.recovery) (l:=[]) (m:=c.recs) U26_ VN rfl (by decide) rfl rfl J8 l2 (fun _ hb=>.inl hb) K1 (by simp;omega) (by simp [maxLen];omega) T4 fun c2 bY h2 t5 i1 g1 T5 w3 o6 e0=>(?_))))
    rw [List.nil_append] at e0
    have K2:∀ b,d0.ownBlock=some b→c2.ownBlock≠some b:=fun b hb e=>by rcases i1 with e1|e1 <;> rw [e1] at e <;> first|(cases e;have:=(c4.lt _ hb).2;omega)|(exact absurd e (t4 b hb))
    have B1:∀ b,c2.ownBlock=some b→b≠b2:=fun b hb=>by rcases i1 with e1|e1 <;> rw [e1] at hb <;> first|(cases hb;have:=a0.lt;omega)|(exact A7 b hb)
    have t6:∀ b,c2.ownBlock=some b→b≠a9:=fun b hb=>by rcases i1 with e1|e1 <;> rw [e1] at hb <;> first|(cases hb;have:=i0.lt;omega)|(exact A8 b hb)
    have B2:∀ b,c2.ownBlock=some b→b≠b0:=fun b hb=>by rcases i1 with e1|e1 <;> rw [e1] at hb <;> first|(cases hb;have:=a1.lt;omega)|(exact A9 b hb)
    have an:∀ b,c2.ownBlock=some b→b≠a3:=fun b hb=>by rcases i1 with e1|e1 <;> rw [e1] at hb <;> first|(cases hb;have:=c8.lt;omega)|(exact B0 b hb)
    have ao:∀ b,c2.ownBlock=some b→b≠a6:=fun b hb=>by rcases i1 with e1|e1 <;> rw [e1] at hb <;> first|(cases hb;have:=a5.lt;omega)|(exact J9 b hb)
    have ap:∀ b,c2.ownBlock=some b→b≠b3:=fun b hb=>by rcases i1 with e1|e1 <;> rw [e1] at hb <;> first|(cases hb;have:=b1.lt;omega)|(exact K0 b hb)
    have o5:∀ b,d0.ownBlock=some b→b∈h2:=fun b hb=>g1 b (o5 b hb)
    have d1:b2∈h2:=g1 b2 rC
    have d2:a9∈h2:=g1 a9 rC
    have d3:b0∈h2:=g1 b0 rC
    have d4:a3∈h2:=g1 a3 rC
    have d5:a6∈h2:=g1 a6 rC
    have d6:b3∈h2:=g1 b3 rC
    have a2:=a2.mv w3
    have b8:=b8.mv w3
    have a0:=a0.keep o6 (by simp only [Option.mem_toList];exact fun e=>absurd rfl (A7 _ e))
    have i0:=i0.keep o6 (by simp only [Option.mem_toList];exact fun e=>absurd rfl (A8 _ e))
    have a1:=a1.keep o6 (by simp only [Option.mem_toList];exact fun e=>absurd rfl (A9 _ e))
    have c4:=c4.mv w3 o6 (fun b hb=>by simp only [Option.mem_toList];exact t4 b hb)
    have c8:=c8.keep o6 (by simp only [Option.mem_toList];exact fun e=>absurd rfl (B0 _ e))
    refine AA (AE (c2) rfl (AG (AC (AM (AZ rfl (CN rfl rfl rfl) (Exists.intro _ (And.intro rfl (AA (AH 4 EF rfl (BZ (BY (c2) rfl rfl e0.oneCell YV (by repeat (assumption)) i0 oT T5 fun T6 T7 p8 o7 f4=>(?_))))))))))))
    have a2:=a2.mv p8
    have b8:=b8.mv p8
    have e0:=e0.mv p8 o7 (fun b hb=>AS (t6 b hb))
    have a0:=a0.keep o7 (AS c5)
    have a1:=a1.keep o7 (AS (Ne.symm c0))
    have c4:=c4.mv p8 o7 (fun b hb=>AS (t3 b hb))
    have c8:=c8.keep o7 (AS (Ne.symm g2))
    refine AG (AC (AF (DP 8 _ _ kR kR kR kR kR rfl rfl fun T8 i9=>?_)))
    have T9:=T7.call i9
    have p9:Mv h2 T6 h2 T8:=Mv.of_keep i9
    have a2:=a2.mv p9
    have b8:=b8.mv p9
    have e0:=e0.mv p9 i9 (by simp)
    have a0:=a0.keep i9 (by simp)
    have f4:=f4.keep i9 (by simp)
    have a1:=a1.keep i9 (by simp)
    have c4:=c4.mv p9 i9 (by simp)
    have c8:=c8.keep i9 (by simp)
    refine BG (AH 4 EF rfl (BG (AK U26_ rfl (c2) rfl f4 rfl (BG (AD (vI no) rfl (BG (AD (vP (some ⟨a3,0,none⟩)) rfl (BG (AR ⟨a3,0,none⟩ rfl (BG (AH 0 GC rfl (BG (BI (vs:=[vI ((c.recs[no.toNat]!).no),vI ((c.recs[no.toNat]!).asked),vI ((c.recs[no.toNat]!).state),d0,i5]) U68_ rfl GK rfl c8 rfl (BG (EW U26_ GK .i64 no no.toNat rfl rfl oM e0 oM fun bZ l3=>(EQ (?_)))))))))))))))))
    obtain ⟨k0,U0,w4,B3,i2⟩:=c4.publish T9
    have t5:∀ b,c2.ownBlock=some b→b∈k0:=fun b hb=>i2 b (t5 b hb) ((fun b hb e=>K2 b e hb) b hb)
    have d1:b2∈k0:=i2 b2 (by repeat (assumption)) (fun e=>absurd rfl (J2 _ e))
    have d2:a9∈k0:=i2 a9 (by repeat (assumption)) (fun e=>absurd rfl (t3 _ e))
    have d3:b0∈k0:=i2 b0 (by repeat (assumption)) (fun e=>absurd rfl (J3 _ e))
    have d4:a3∈k0:=i2 a3 (by repeat (assumption)) (fun e=>absurd rfl (A5 _ e))
    have d5:a6∈k0:=i2 a6 (by repeat (assumption)) (fun e=>absurd rfl (J4 _ e))
    have d6:b3∈k0:=i2 b3 (by repeat (assumption)) (fun e=>absurd rfl (J5 _ e))
    have Y0:=B3.len_le
    have a2:=a2.mv w4
    have b8:=b8.mv w4
    have e0:=e0.mv w4 (Keep.refl [] _) (by simp)
    have a0:=a0.keep (Keep.refl [] _) (by simp)
    have f4:=f4.keep (Keep.refl [] _) (by simp)
    have a1:=a1.keep (Keep.refl [] _) (by simp)
    refine BZ (LZ (⟨(c.recs[no.toNat]!).no,(c.recs[no.toNat]!).asked,(c.recs[no.toNat]!).state,((c.recs[no.toNat]!).approved).take (tw ((c.recs[no.toNat]!).approved) guardian)++([guardian])++((c.recs[no.toNat]!).approved).drop (tw ((c.recs[no.toNat]!).approved) guardian),(c.recs[no.toNat]!).vetoed⟩:Recovery) (by decide) GK rfl rfl e0 l3 (t5 _ l3) oM ⟨_,_,rfl,B3,a2⟩ U0 fun ca U1 U2 w5 f5=>(?_))
    have b8:=b8.mv U2
    have a0:=a0.keep w5 (by simp only [List.mem_singleton];exact fun e=>absurd e.symm (B1 _ l3))
    have f4:=f4.keep w5 (by simp only [List.mem_singleton];exact fun e=>absurd e.symm (t6 _ l3))
    have a1:=a1.keep w5 (by simp only [List.mem_singleton];exact fun e=>absurd e.symm (B2 _ l3))
    refine AG (AC (AF (AB kR (AA (BI (vs:=[vI c.epoch,vI c.threshold,vI c.wait,f2,c2]) U28_ rfl BJ rfl f4 rfl (BZ (BE (vs:=[vI c.epoch,vI c.threshold,vI c.wait,f2,c2]) (.agg #[vI c.epoch,vI c.threshold,vI c.wait,f2,c2]) rfl rfl rfl BJ (fun u hu=>by simp only [List.mem_cons,List.not_mem_nil,or_false] at hu;rcases hu with rfl|rfl|rfl|rfl|rfl <;> first|rfl|exact b8.oneCell|exact f5.oneCell) (by repeat (assumption)) f4 oT U1 fun cb U3 E5 w6 t7=>(?_))))))))
    have b8:=b8.mv E5
    have f5:=f5.mv E5 w6 (fun b hb=>AS (t6 b hb))
    have a0:=a0.keep w6 (AS c5)
    have a1:=a1.keep w6 (AS (Ne.symm c0))
    refine BZ (BY (vI 0) rfl rfl rfl PF (by repeat (assumption)) a1 oT U3 fun cc U4 E6 w7 K3=>(?_))
    have b8:=b8.mv E6
    have f5:=f5.mv E6 w7 (fun b hb=>AS (B2 b hb))
    have a0:=a0.keep w7 (AS e5)
    have t7:=t7.keep w7 (AS c0)
    refine AG (AC (AM (QN (LY [vP (some ⟨a9,0,none⟩),vP (some ⟨b0,0,none⟩)] 19 .returning rfl (fun h=>by cases h) rfl FD Try.func103 rfl rfl oT rfl rfl (fun cd=>AF (AB kR (AA (AD (Value.nilIface) rfl (AA (o_neqNil' U20_ rfl (AG (AC (AJ false rfl rfl (fun h=>by cases h) (fun _=>AT (FL rfl (HU rfl) (Exists.intro _ (And.intro (DT rfl (EE (vs:=[vI c.epoch,vI c.threshold,vI c.wait,f2,c2]) rfl U28_ rfl BJ rfl t7 rfl) (LS rfl U29_ rfl rfl K3 rfl)) (CZ (AA (AL (vA #[vI c.epoch,vI c.threshold,vI c.wait,f2,c2]) rfl rfl (AA (AL (vI 0) rfl rfl (BZ (BE (vs:=[vI c.epoch,vI c.threshold,vI c.wait,f2,c2]) (.agg #[vI c.epoch,vI c.threshold,vI c.wait,f2,c2]) rfl rfl rfl BJ (fun u hu=>by simp only [List.mem_cons,List.not_mem_nil,or_false] at hu;rcases hu with rfl|rfl|rfl|rfl|rfl <;> first|rfl|exact b8.oneCell|exact f5.oneCell) (by repeat (assumption)) a0 oT U4 fun ce E7 E8 U5 K4=>(?_)))))))))))))))))))))))))
    have b8:=b8.mv E8
    have f5:=f5.mv E8 U5 (fun b hb=>AS (B1 b hb))
    refine AA (AE (vI 0) rfl (AG (AC (AM (AZ rfl (DT rfl (EE (vs:=[vI c.epoch,vI c.threshold,vI c.wait,f2,c2]) rfl U28_ rfl BJ rfl K4 rfl) (EK rfl rfl)) (?_))))))
    have U6:((AW c no (AV c guardian)).1)=(⟨c.epoch,c.threshold,c.wait,c.guardians,c.recs.set no.toNat (⟨(c.recs[no.toNat]!).no,(c.recs[no.toNat]!).asked,(c.recs[no.toNat]!).state,((c.recs[no.toNat]!).approved).take (tw ((c.recs[no.toNat]!).approved) guardian)++([guardian])++((c.recs[no.toNat]!).approved).drop (tw ((c.recs[no.toNat]!).approved) guardian),(c.recs[no.toNat]!).vetoed⟩:Recovery)⟩:Circle):=by exact congrArg (fun p=>p.1) (show AW c no (AV c guardian)=_ from VW hok oM oM aS aS aS)
    have U7:((AW c no (AV c guardian)).2)=(0:Int):=by exact congrArg (fun p=>p.2) (show AW c no (AV c guardian)=_ from VW hok oM oM aS aS aS)
    exact ⟨_,rfl,E7.keep,by rw [U6,U7];exact ⟨[vI c.epoch,vI c.threshold,vI c.wait,f2,c2],rfl,⟨_,_,rfl,b8.out,(f5.pub E7)⟩⟩⟩
   have aq:(VE ((c.recs[no.toNat]!).approved) guardian)=true:=by simpa using r9
   refine AT (FL rfl (HU rfl) (Exists.intro _ (And.intro rfl (AG (FL rfl (HU rfl) (CZ (AG (FL rfl (HU rfl) (CZ (AG (FL rfl (HU rfl) (CZ (AG (AC (AF (AB kR (AA (CY U28_ rfl BJ rfl a7 fun ar K5=>(?_)))))))))))))))))))
   obtain ⟨f6,E9,rfl,b9,B4⟩:=K5
   have:=b9.len_le
   have:=B4.len_le
   refine BZ (BE (vs:=[vI c.epoch,vI c.threshold,vI c.wait,f6,E9]) (.agg #[vI c.epoch,vI c.threshold,vI c.wait,f6,E9]) rfl rfl rfl BJ (fun u hu=>by simp only [List.mem_cons,List.not_mem_nil,or_false] at hu;rcases hu with rfl|rfl|rfl|rfl|rfl <;> first|rfl|exact b9.oneCell|exact B4.oneCell) (by repeat (constructor)) a4 oT v0 fun cf U8 q0 o8 i3=>(?_))
   have a7:=a7.mv q0
   have b4:=b4.mv q0
   have a2:=a2.mv q0
   have b9:=b9.mv q0
   have a0:=a0.keep o8 (AS c5)
   have a1:=a1.keep o8 (AS (Ne.symm c0))
   have a8:=a8.keep o8 (AS (Ne.symm g2))
   have a5:=a5.keep o8 (AS (Ne.symm r4))
   have b1:=b1.keep o8 (AS (Ne.symm j1))
   refine AG (AC (AF (AB kR (AA (BO 4 EF (c.recs) rfl a7 (fun _ _ _ h=>CV h) fun cg K6=>(AA (CI U26_ rfl rfl K6 fun w8 l4=>(?_))))))))
   have:=l4.len_le
   refine AA (JV [w8] _ LG rfl (BW 8 Try.func67 rfl rfl oT (fun ch=>AF (AB kR (AA (AE (nS) rfl (AG (AC (AF (AF (AB kR (AA (AD (w8) rfl (AA (MD U26_ rfl rfl l4 oM (AG (AC (AJ false rfl rfl (fun h=>by cases h) (fun _=>AT (AC (AF (AB kR (AA (IA (E:=Enc.recovery) (xs:=[]) U26_ GK OZ (by decide) [] [] [] rfl rfl rfl (Parts.nil _ _ _) oT U8 fun k5 U9 ci V0 g5 V1 q1 m6 K7=>(?_)))))))))))))))))))))))) (fun _ _ h=>h))
   have B5:∀ b,k5.ownBlock=some b→b≠b2:=fun b hb=>by have:=a0.lt;rw [g5] at hb;cases hb;omega
   have B6:∀ b,k5.ownBlock=some b→b≠a9:=fun b hb=>by have:=i3.lt;rw [g5] at hb;cases hb;omega
   have B7:∀ b,k5.ownBlock=some b→b≠b0:=fun b hb=>by have:=a1.lt;rw [g5] at hb;cases hb;omega
   have B8:∀ b,k5.ownBlock=some b→b≠a3:=fun b hb=>by have:=a8.lt;rw [g5] at hb;cases hb;omega
   have K8:∀ b,k5.ownBlock=some b→b≠a6:=fun b hb=>by have:=a5.lt;rw [g5] at hb;cases hb;omega
   have K9:∀ b,k5.ownBlock=some b→b≠b3:=fun b hb=>by have:=b1.lt;rw [g5] at hb;cases hb;omega
   have L0:∀ b,k5.ownBlock=some b→b∈(U9 :: (b3 :: (a6 :: (a3 :: (b0 :: (a9 :: (b2 :: []))))))):=fun b hb=>by rw [g5] at hb;cases hb;simp
   clear V0 g5
   have l4:=l4.mv q1
   have b4:=b4.mv q1
   have a2:=a2.mv q1
   have b9:=b9.mv q1
   have a0:=a0.keep m6 (by simp)
   have i3:=i3.keep m6 (by simp)
   have a1:=a1.keep m6 (by simp)
   have a8:=a8.keep m6 (by simp)
   have a5:=a5.keep m6 (by simp)
   have b1:=b1.keep m6 (by simp)
   refine AA (AD (w8) rfl (AA (DI (E:=Enc.recovery) (l:=[]) (m:=c.recs) U26_ VN rfl (by decide) rfl rfl K7 l4 (fun _ hb=>.inl hb) L0 (by simp;omega) (by simp [maxLen];omega) V1 fun c6 cj j0 L1 j3 h4 V2 w9 q2 g6=>(?_))))
   rw [List.nil_append] at g6
   have B9:∀ b,c6.ownBlock=some b→b≠b2:=fun b hb=>by rcases j3 with e1|e1 <;> rw [e1] at hb <;> first|(cases hb;have:=a0.lt;omega)|(exact B5 b hb)
   have t8:∀ b,c6.ownBlock=some b→b≠a9:=fun b hb=>by rcases j3 with e1|e1 <;> rw [e1] at hb <;> first|(cases hb;have:=i3.lt;omega)|(exact B6 b hb)
   have C0:∀ b,c6.ownBlock=some b→b≠b0:=fun b hb=>by rcases j3 with e1|e1 <;> rw [e1] at hb <;> first|(cases hb;have:=a1.lt;omega)|(exact B7 b hb)
   have au:∀ b,c6.ownBlock=some b→b≠a3:=fun b hb=>by rcases j3 with e1|e1 <;> rw [e1] at hb <;> first|(cases hb;have:=a8.lt;omega)|(exact B8 b hb)
   have av:∀ b,c6.ownBlock=some b→b≠a6:=fun b hb=>by rcases j3 with e1|e1 <;> rw [e1] at hb <;> first|(cases hb;have:=a5.lt;omega)|(exact K8 b hb)
   have aw:∀ b,c6.ownBlock=some b→b≠b3:=fun b hb=>by rcases j3 with e1|e1 <;> rw [e1] at hb <;> first|(cases hb;have:=b1.lt;omega)|(exact K9 b hb)
   have d1:b2∈j0:=h4 b2 (by repeat (constructor))
   have d2:a9∈j0:=h4 a9 (by repeat (constructor))
   have d3:b0∈j0:=h4 b0 (by repeat (constructor))
   have d4:a3∈j0:=h4 a3 (by repeat (constructor))
   have d5:a6∈j0:=h4 a6 (by repeat (constructor))
   have d6:b3∈j0:=h4 b3 (by repeat (constructor))
   have b4:=b4.mv w9
   have a2:=a2.mv w9
   have b9:=b9.mv w9
   have a0:=a0.keep q2 (by simp only [Option.mem_toList];exact fun e=>absurd rfl (B5 _ e))
   have i3:=i3.keep q2 (by simp only [Option.mem_toList];exact fun e=>absurd rfl (B6 _ e))
   have a1:=a1.keep q2 (by simp only [Option.mem_toList];exact fun e=>absurd rfl (B7 _ e))
   have a8:=a8.keep q2 (by simp only [Option.mem_toList];exact fun e=>absurd rfl (B8 _ e))
   refine AA (AE (c6) rfl (AG (AC (AM (AZ rfl (CN rfl rfl rfl) (Exists.intro _ (And.intro rfl (AA (AH 4 EF rfl (BZ (BY (c6) rfl rfl g6.oneCell YV (by repeat (assumption)) i3 oT V2 fun V3 V4 q3 q4 i4=>(?_))))))))))))
   have b4:=b4.mv q3
   have a2:=a2.mv q3
   have b9:=b9.mv q3
   have g6:=g6.mv q3 q4 (fun b hb=>AS (t8 b hb))
   have a0:=a0.keep q4 (AS c5)
   have a1:=a1.keep q4 (AS (Ne.symm c0))
   have a8:=a8.keep q4 (AS (Ne.symm g2))
   refine AG (AC (AF (DP 8 _ _ kR kR kR kR kR rfl rfl fun V5 k6=>?_)))
   have V6:=V4.call k6
   have q5:Mv j0 V3 j0 V5:=Mv.of_keep k6
   have b4:=b4.mv q5
   have a2:=a2.mv q5
   have b9:=b9.mv q5
   have g6:=g6.mv q5 k6 (by simp)
   have a0:=a0.keep k6 (by simp)
   have i4:=i4.keep k6 (by simp)
   have a1:=a1.keep k6 (by simp)
   have a8:=a8.keep k6 (by simp)
   refine BG (AH 4 EF rfl (BG (AK U26_ rfl (c6) rfl i4 rfl (BG (AD (vI no) rfl (BG (AD (vP (some ⟨a3,0,none⟩)) rfl (BG (AR ⟨a3,0,none⟩ rfl (BG (AH 0 GC rfl (BG (BI (vs:=[vI ((c.recs[no.toNat]!).no),vI ((c.recs[no.toNat]!).asked),vI ((c.recs[no.toNat]!).state),d7,i5]) U68_ rfl GK rfl a8 rfl (BG (EW U26_ GK .i64 no no.toNat rfl rfl oM g6 oM fun cm l5=>(EQ (BZ (LZ (c.recs[no.toNat]!) (by decide) GK rfl rfl g6 l5 (L1 _ l5) oM ⟨_,_,rfl,b4,a2⟩ V6 fun cn V7 V8 x1 f7=>(?_)))))))))))))))))))
   have b9:=b9.mv V8
   have a0:=a0.keep x1 (by simp only [List.mem_singleton];exact fun e=>absurd e.symm (B9 _ l5))
   have i4:=i4.keep x1 (by simp only [List.mem_singleton];exact fun e=>absurd e.symm (t8 _ l5))
   have a1:=a1.keep x1 (by simp only [List.mem_singleton];exact fun e=>absurd e.symm (C0 _ l5))
   refine AG (AC (AF (AB kR (AA (BI (vs:=[vI c.epoch,vI c.threshold,vI c.wait,f6,c6]) U28_ rfl BJ rfl i4 rfl (BZ (BE (vs:=[vI c.epoch,vI c.threshold,vI c.wait,f6,c6]) (.agg #[vI c.epoch,vI c.threshold,vI c.wait,f6,c6]) rfl rfl rfl BJ (fun u hu=>by simp only [List.mem_cons,List.not_mem_nil,or_false] at hu;rcases hu with rfl|rfl|rfl|rfl|rfl <;> first|rfl|exact b9.oneCell|exact f7.oneCell) (by repeat (assumption)) i4 oT V7 fun co V9 F1 x2 t9=>(?_))))))))
   have b9:=b9.mv F1
   have f7:=f7.mv F1 x2 (fun b hb=>AS (t8 b hb))
   have a0:=a0.keep x2 (AS c5)
   have a1:=a1.keep x2 (AS (Ne.symm c0))
   refine BZ (BY (vI 0) rfl rfl rfl PF (by repeat (assumption)) a1 oT V9 fun cp W0 F2 x3 L2=>(?_))
   have b9:=b9.mv F2
   have f7:=f7.mv F2 x3 (fun b hb=>AS (C0 b hb))
   have a0:=a0.keep x3 (AS e5)
   have t9:=t9.keep x3 (AS c0)
   refine AG (AC (AM (QN (LY [vP (some ⟨a9,0,none⟩),vP (some ⟨b0,0,none⟩)] 19 .returning rfl (fun h=>by cases h) rfl FD Try.func103 rfl rfl oT rfl rfl (fun cq=>AF (AB kR (AA (AD (Value.nilIface) rfl (AA (o_neqNil' U20_ rfl (AG (AC (AJ false rfl rfl (fun h=>by cases h) (fun _=>AT (FL rfl (HU rfl) (Exists.intro _ (And.intro (DT rfl (EE (vs:=[vI c.epoch,vI c.threshold,vI c.wait,f6,c6]) rfl U28_ rfl BJ rfl t9 rfl) (LS rfl U29_ rfl rfl L2 rfl)) (CZ (AA (AL (vA #[vI c.epoch,vI c.threshold,vI c.wait,f6,c6]) rfl rfl (AA (AL (vI 0) rfl rfl (BZ (BE (vs:=[vI c.epoch,vI c.threshold,vI c.wait,f6,c6]) (.agg #[vI c.epoch,vI c.threshold,vI c.wait,f6,c6]) rfl rfl rfl BJ (fun u hu=>by simp only [List.mem_cons,List.not_mem_nil,or_false] at hu;rcases hu with rfl|rfl|rfl|rfl|rfl <;> first|rfl|exact b9.oneCell|exact f7.oneCell) (by repeat (assumption)) a0 oT W0 fun cr F3 F4 W1 L3=>(?_)))))))))))))))))))))))))
   have b9:=b9.mv F4
   have f7:=f7.mv F4 W1 (fun b hb=>AS (B9 b hb))
   refine AA (AE (vI 0) rfl (AG (AC (AM (AZ rfl (DT rfl (EE (vs:=[vI c.epoch,vI c.threshold,vI c.wait,f6,c6]) rfl U28_ rfl BJ rfl L3 rfl) (EK rfl rfl)) (?_))))))
   have W2:((AW c no (AV c guardian)).1)=(⟨c.epoch,c.threshold,c.wait,c.guardians,c.recs.set no.toNat (c.recs[no.toNat]!)⟩:Circle):=by exact congrArg (fun p=>p.1) (show AW c no (AV c guardian)=_ from app_had hok oM oM aS aS aS)
   have W3:((AW c no (AV c guardian)).2)=(0:Int):=by exact congrArg (fun p=>p.2) (show AW c no (AV c guardian)=_ from app_had hok oM oM aS aS aS)
   exact ⟨_,rfl,F3.keep,by rw [W2,W3];exact ⟨[vI c.epoch,vI c.threshold,vI c.wait,f6,c6],rfl,⟨_,_,rfl,b9.out,(f7.pub F3)⟩⟩⟩
  ·refine AA (JF (k:=1) (vN (.func 73) #[] #[vP (some ⟨a6,0,none⟩)]) U110_ U3_ rfl (congrArg vI k8) b1 rfl (AA (AD (vT #[vN (.func 73) #[] #[vP (some ⟨a6,0,none⟩)],vO true]) rfl (AA (AL (vN (.func 73) #[] #[vP (some ⟨a6,0,none⟩)]) rfl rfl (AA (AL (vO true) rfl rfl (AA (AE (vN (.func 73) #[] #[vP (some ⟨a6,0,none⟩)]) rfl (AA (AE (vO true) rfl (AG (AC (AF (AB kR (AA (AD (vO true) rfl (AG (AC (AJ true rfl rfl (fun _=>AB kR (AA (AD (vN (.func 73) #[] #[vP (some ⟨a6,0,none⟩)]) rfl (AA (HX [] [vP (some ⟨a6,0,none⟩)] [] enter_73 rfl rfl (BW 3 Try.func73 rfl rfl oT (fun cs=>AB kR (AA (AK U106_ rfl (vP (some ⟨a3,0,none⟩)) rfl a5 rfl (AA (ES [vP (some ⟨a3,0,none⟩),vO false,vI 1] IQ rfl (BW 11 Try.func72 rfl rfl oT (fun ct=>AF (AB kR (AA (AD (vO false) rfl (AA (FF false rfl (AG (AC (AJ true rfl rfl (fun _=>AB kR (AA (AD (vI 1) rfl (AA (DN (l:=[(0, .tmp 8)]) ND QA rfl [(0,vI 1,[vI 1])] [vI 1] rfl ⟨_,rfl,rfl,oT,rfl⟩ (AA (LC (vA #[vI 1]) U125_ rfl rfl (BZ (KZ rfl (FE rfl (DY (FE rfl (DY (FE rfl (DY (FE rfl (DY (HB (LB (HQ [vP (some ⟨a9,0,none⟩),vP (some ⟨b0,0,none⟩)] (.panicking [{ v:=Value.iface 125 (vA #[vI 1]),recovered:=false }]) rfl (fun h=>by cases h) rfl FD (NF (1:Int) a9 b0 u7 a4 a1 (by repeat (constructor)) (by repeat (constructor)) c0) (fun e_ cu hR_=>?_))))))))))))))))))))) (fun h=>by cases h)))))))))))))))))))))) (fun h=>by cases h)))))))))))))))))))))
   obtain ⟨v_,rfl,W4,cv,W5,L4,L5⟩:=hR_
   have a0:=a0.keep W5 (YS c5 e5)
   refine Exists.intro _ (And.intro (DT rfl (EE (vs:=[vI 0,vI 0,vI 0,nS,nS]) rfl U28_ rfl BJ rfl L4 rfl) (LS rfl U29_ rfl rfl L5 rfl)) (CZ (AA (AL (vA #[vI 0,vI 0,vI 0,nS,nS]) rfl rfl (AA (AL (vI 1) rfl rfl (BZ (BE (vs:=[vI 0,vI 0,vI 0,nS,nS]) (.agg #[vI 0,vI 0,vI 0,nS,nS]) rfl rfl rfl BJ (fun u hu=>by simp only [List.mem_cons,List.not_mem_nil,or_false] at hu;rcases hu with rfl|rfl|rfl|rfl|rfl <;> rfl) (by repeat (constructor)) a0 oT W4 fun cw W6 cx cy L6=>(AA (AE (vI 1) rfl (AG (AC (AM (AZ rfl (DT rfl (EE (vs:=[vI 0,vI 0,vI 0,nS,nS]) rfl U28_ rfl BJ rfl L6 rfl) (EK rfl rfl)) (?_)))))))))))))))
   have W7:((AW c no (AV c guardian)).1)=(⟨(0:Int),(0:Int),(0:Int),[],[]⟩:Circle):=by exact congrArg (fun p=>p.1) (show AW c no (AV c guardian)=_ from app_done hok oM oM aS)
   have W8:((AW c no (AV c guardian)).2)=(1:Int):=by exact congrArg (fun p=>p.2) (show AW c no (AV c guardian)=_ from app_done hok oM oM aS)
   exact ⟨_,rfl,W6.keep,by rw [W7,W8];exact ⟨[vI 0,vI 0,vI 0,nS,nS],rfl,Enc.out (B:=(b3 :: (a6 :: (a3 :: (b0 :: (a9 :: (b2 :: []))))))) ⟨.slice none 0 0, .slice none 0 0,rfl,(BL.nil _ _ _),(BL.nil _ _ _)⟩⟩⟩
  refine AA (JF (k:=2) (vN (.func 71) #[] #[vP (some ⟨a6,0,none⟩)]) U110_ U3_ rfl (congrArg vI k8) b1 rfl (AA (AD (vT #[vN (.func 71) #[] #[vP (some ⟨a6,0,none⟩)],vO true]) rfl (AA (AL (vN (.func 71) #[] #[vP (some ⟨a6,0,none⟩)]) rfl rfl (AA (AL (vO true) rfl rfl (AA (AE (vN (.func 71) #[] #[vP (some ⟨a6,0,none⟩)]) rfl (AA (AE (vO true) rfl (AG (AC (AF (AB kR (AA (AD (vO true) rfl (AG (AC (AJ true rfl rfl (fun _=>AB kR (AA (AD (vN (.func 71) #[] #[vP (some ⟨a6,0,none⟩)]) rfl (AA (HX [] [vP (some ⟨a6,0,none⟩)] [] enter_71 rfl rfl (BW 3 Try.func71 rfl rfl oT (fun cz=>AB kR (AA (AK U106_ rfl (vP (some ⟨a3,0,none⟩)) rfl a5 rfl (AA (ES [vP (some ⟨a3,0,none⟩),vO false,vI 452] IQ rfl (BW 11 Try.func72 rfl rfl oT (fun cA=>AF (AB kR (AA (AD (vO false) rfl (AA (FF false rfl (AG (AC (AJ true rfl rfl (fun _=>AB kR (AA (AD (vI 452) rfl (AA (DN (l:=[(0, .tmp 8)]) ND QA rfl [(0,vI 452,[vI 452])] [vI 452] rfl ⟨_,rfl,rfl,oT,rfl⟩ (AA (LC (vA #[vI 452]) U125_ rfl rfl (BZ (KZ rfl (FE rfl (DY (FE rfl (DY (FE rfl (DY (FE rfl (DY (HB (LB (HQ [vP (some ⟨a9,0,none⟩),vP (some ⟨b0,0,none⟩)] (.panicking [{ v:=Value.iface 125 (vA #[vI 452]),recovered:=false }]) rfl (fun h=>by cases h) rfl FD (NF (452:Int) a9 b0 u7 a4 a1 (by repeat (constructor)) (by repeat (constructor)) c0) (fun e_ cB hR_=>?_))))))))))))))))))))) (fun h=>by cases h)))))))))))))))))))))) (fun h=>by cases h)))))))))))))))))))))
  obtain ⟨v_,rfl,W9,cC,X0,L7,L8⟩:=hR_
  have a0:=a0.keep X0 (YS c5 e5)
  refine Exists.intro _ (And.intro (DT rfl (EE (vs:=[vI 0,vI 0,vI 0,nS,nS]) rfl U28_ rfl BJ rfl L7 rfl) (LS rfl U29_ rfl rfl L8 rfl)) (CZ (AA (AL (vA #[vI 0,vI 0,vI 0,nS,nS]) rfl rfl (AA (AL (vI 452) rfl rfl (BZ (BE (vs:=[vI 0,vI 0,vI 0,nS,nS]) (.agg #[vI 0,vI 0,vI 0,nS,nS]) rfl rfl rfl BJ (fun u hu=>by simp only [List.mem_cons,List.not_mem_nil,or_false] at hu;rcases hu with rfl|rfl|rfl|rfl|rfl <;> rfl) (by repeat (constructor)) a0 oT W9 fun cD X1 cE cF L9=>(AA (AE (vI 452) rfl (AG (AC (AM (AZ rfl (DT rfl (EE (vs:=[vI 0,vI 0,vI 0,nS,nS]) rfl U28_ rfl BJ rfl L9 rfl) (EK rfl rfl)) (?_)))))))))))))))
  have X2:((AW c no (AV c guardian)).1)=(⟨(0:Int),(0:Int),(0:Int),[],[]⟩:Circle):=by exact congrArg (fun p=>p.1) (show AW c no (AV c guardian)=_ from app_dead hok oM oM aS)
  have X3:((AW c no (AV c guardian)).2)=(452:Int):=by exact congrArg (fun p=>p.2) (show AW c no (AV c guardian)=_ from app_dead hok oM oM aS)
  exact ⟨_,rfl,X1.keep,by rw [X2,X3];exact ⟨[vI 0,vI 0,vI 0,nS,nS],rfl,Enc.out (B:=(b3 :: (a6 :: (a3 :: (b0 :: (a9 :: (b2 :: []))))))) ⟨.slice none 0 0, .slice none 0 0,rfl,(BL.nil _ _ _),(BL.nil _ _ _)⟩⟩⟩
 have ax:no<(0:Int):=by simpa using x5
 refine AN rfl (AN rfl (AN rfl (AN rfl (AN rfl (AA (BH (vO true) rfl rfl (AG (AC (AJ true rfl rfl (fun _=>AF (AB kR (AA (BI (vs:=[vI 0,vI 0,vI 0,nS,nS]) U28_ rfl BJ rfl a4 rfl (BZ (BE (vs:=[vI 0,vI 0,vI 0,nS,nS]) (.agg #[vI 0,vI 0,vI 0,nS,nS]) rfl rfl rfl BJ (fun u hu=>by simp only [List.mem_cons,List.not_mem_nil,or_false] at hu;rcases hu with rfl|rfl|rfl|rfl|rfl <;> rfl) (by repeat (constructor)) a4 oT o9 fun cG X4 cH F5 u0=>(?_))))))) (fun h=>by cases h))))))))))
 have a0:=a0.keep F5 (AS c5)
 have a1:=a1.keep F5 (AS (Ne.symm c0))
 refine BZ (BY (vI 1) rfl rfl rfl PF (by repeat (constructor)) a1 oT X4 fun cI X5 cJ F6 M0=>(?_))
 have a0:=a0.keep F6 (AS e5)
 have u0:=u0.keep F6 (AS c0)
 refine AG (AC (AM (AP (OY rfl (DT rfl (EE (vs:=[vI 0,vI 0,vI 0,nS,nS]) rfl U28_ rfl BJ rfl u0 rfl) (LS rfl U29_ rfl rfl M0 rfl)) (CZ (AA (AL (vA #[vI 0,vI 0,vI 0,nS,nS]) rfl rfl (AA (AL (vI 1) rfl rfl (BZ (BE (vs:=[vI 0,vI 0,vI 0,nS,nS]) (.agg #[vI 0,vI 0,vI 0,nS,nS]) rfl rfl rfl BJ (fun u hu=>by simp only [List.mem_cons,List.not_mem_nil,or_false] at hu;rcases hu with rfl|rfl|rfl|rfl|rfl <;> rfl) (by repeat (constructor)) a0 oT X5 fun cK X6 cL cM M1=>(AA (AE (vI 1) rfl (AG (AC (AM (AZ rfl (DT rfl (EE (vs:=[vI 0,vI 0,vI 0,nS,nS]) rfl U28_ rfl BJ rfl M1 rfl) (EK rfl rfl)) (?_))))))))))))))))))
 have X7:((AW c no (AV c guardian)).1)=(⟨(0:Int),(0:Int),(0:Int),[],[]⟩:Circle):=by exact congrArg (fun p=>p.1) (show AW c no (AV c guardian)=_ from app_no hok oM)
 have X8:((AW c no (AV c guardian)).2)=(1:Int):=by exact congrArg (fun p=>p.2) (show AW c no (AV c guardian)=_ from app_no hok oM)
 exact ⟨_,rfl,X6.keep,by rw [X7,X8];exact ⟨[vI 0,vI 0,vI 0,nS,nS],rfl,Enc.out (B:=(b0 :: (a9 :: (b2 :: [])))) ⟨.slice none 0 0, .slice none 0 0,rfl,(BL.nil _ _ _),(BL.nil _ _ _)⟩⟩⟩
end Go.Proofs.Ytjgfokolnkhafaa
