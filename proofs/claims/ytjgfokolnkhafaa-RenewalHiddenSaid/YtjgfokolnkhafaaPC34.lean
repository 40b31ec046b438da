/- What the laws of this part rest on: lemmas, and the walks of the functions. No conditions. -/
import Derived.WalkKit
import Derived.WalkSpells
import Derived.WalkLawsBesides
import Derived.RangeFuncLeaves
import Derived.Maps.AppendAt
import Derived.Deep.AppendLies
import Derived.Deep.Slices
import Derived.OpenShut
import Derived.ProofKit
import Derived.Below
import Derived.ChangeSame
import Derived.Carry
import Derived.RangeFuncRecord
import Derived.Laws.Tables
import Derived.Recover
import Derived.DefersIn
import Derived.Lib.AppendZerosOnto
import Derived.Lib.Overlaps
import Derived.Laws.CopyRow
import Derived.Laws.StructEq
import Derived.ChangeKeysEq
import Derived.OrdersIn
import Derived.Test.YtjgfokolnkhafaaRows
import Derived.Test.YtjgfokolnkhafaaPC33
set_option linter.unusedSimpArgs false
set_option linter.unusedVariables false
namespace Go.Proofs.Ytjgfokolnkhafaa
open Go.Fw Go.RowKit
set_option maxHeartbeats 4000000 in
set_option maxRecDepth 100000 in
theorem c_refresh11 {O:List Nat} (k:Nat) (l_a:Addr) (l:(List Share)) (i_a:Addr) (i:Int) (zero_a:Addr) (zero:(List Share)) (w:World) (a4:PT (Enc.slice Enc.share) w O (.pointer (some l_a)) l) (a1:PT Enc.int w O (.pointer (some i_a)) i) (a0:PT (Enc.slice Enc.share) w O (.pointer (some zero_a)) zero) (hpre0:0≤i) (hpre1:(i).toNat<l.length) (hpre2:(i).toNat<zero.length) (hpre3:k<l[(i).toNat]!.data.length) (hpre4:k<zero[(i).toNat]!.data.length) (hO:∀ b∈O,b<w.heap.size):CD Try.prog 56 [vI (k:Int), .pointer (some l_a), .pointer (some i_a), .pointer (some zero_a)] w (fun v _=>v=vB (l[(i).toNat]!.data[k]! ^^^ zero[(i).toNat]!.data[k]!)):= by
 have a4:PT (Enc.slice Enc.share) w ([]++O) (.pointer (some l_a)) l:=a4
 have a1:PT Enc.int w ([]++O) (.pointer (some i_a)) i:=a1
 have a0:PT (Enc.slice Enc.share) w ([]++O) (.pointer (some zero_a)) zero:=a0
 have s0:St w O w []:=St.start hO
 refine BK 23 Try.func56 rfl rfl oT (fun F0=>AI (AC kR (AA (AF (vB (0:UInt8)) rfl (AH (AD (AI (cw_draw' 16 _ _ [fun (vT:Value) (wT:World)=>AZ Enc.share wT ([]++O) vT (l),DB (vI i),fun (vT:Value) (wT:World)=>∃ aT,vT = .pointer (some aT)∧PT Enc.share wT ([]++O) (.pointer (some aT)) (l[i.toNat]!),fun (vT:Value) (wT:World)=>∃ aT,vT = .pointer (some aT)∧PT (Enc.slice Enc.u8) wT ([]++O) (.pointer (some aT)) ((l[i.toNat]!).data),fun (vT:Value) (wT:World)=>AZ Enc.u8 wT ([]++O) vT ((l[i.toNat]!).data),DB (vI (k:Int)),fun (vT:Value) (wT:World)=>∃ aT,vT = .pointer (some aT)∧PT Enc.u8 wT ([]++O) (.pointer (some aT)) (((l[i.toNat]!).data)[k]!),DB (vB (((l[i.toNat]!).data)[k]!)),fun (vT:Value) (wT:World)=>AZ Enc.share wT ([]++O) vT (zero),DB (vI i),fun (vT:Value) (wT:World)=>∃ aT,vT = .pointer (some aT)∧PT Enc.share wT ([]++O) (.pointer (some aT)) (zero[i.toNat]!),fun (vT:Value) (wT:World)=>∃ aT,vT = .pointer (some aT)∧PT (Enc.slice Enc.u8) wT ([]++O) (.pointer (some aT)) ((zero[i.toNat]!).data),fun (vT:Value) (wT:World)=>AZ Enc.u8 wT ([]++O) vT ((zero[i.toNat]!).data),DB (vI (k:Int)),fun (vT:Value) (wT:World)=>∃ aT,vT = .pointer (some aT)∧PT Enc.u8 wT ([]++O) (.pointer (some aT)) (((zero[i.toNat]!).data)[k]!),DB (vB (((zero[i.toNat]!).data)[k]!))] kR kR kR kR rfl rfl ⟨fun _ _ _ h k=>h.mv (Mv.of_keep k),kI,fun _ _ _ ⟨a,e,h⟩ k=>⟨a,e,h.mv (Mv.of_keep k)⟩,fun _ _ _ ⟨a,e,h⟩ k=>⟨a,e,h.mv (Mv.of_keep k)⟩,fun _ _ _ h k=>h.mv (Mv.of_keep k),kI,fun _ _ _ ⟨a,e,h⟩ k=>⟨a,e,h.mv (Mv.of_keep k)⟩,kI,fun _ _ _ h k=>h.mv (Mv.of_keep k),kI,fun _ _ _ ⟨a,e,h⟩ k=>⟨a,e,h.mv (Mv.of_keep k)⟩,fun _ _ _ ⟨a,e,h⟩ k=>⟨a,e,h.mv (Mv.of_keep k)⟩,fun _ _ _ h k=>h.mv (Mv.of_keep k),kI,fun _ _ _ ⟨a,e,h⟩ k=>⟨a,e,h.mv (Mv.of_keep k)⟩,kI,trivial⟩ ⟨?_,?_,?_,?_,?_,?_,?_,?_,?_,?_,?_,?_,?_,?_,?_,?_,trivial⟩ ?_))))))))
 ·intro F1 w1 k1 hf hd
  have k0:=(Keep.drew [] w).trans k1
  have m1:Mv ([]) w ([]) w1:=Mv.of_keep k0
  have a4:=a4.mv m1
  obtain ⟨F2,rfl⟩:=AM (F:=F1) [(1,vP (some l_a))] ⟨hf 1 kR,trivial⟩
  refine AK rfl ((BW U32_ rfl rfl a4 fun f4 a5=>(?_)))
  have:=a5.len_le
  exact ⟨(Keep.refl _ _),a5⟩
 ·intro F1 w1 k1 hf hd
  have k0:=(Keep.drew [] w).trans k1
  have m1:Mv ([]) w ([]) w1:=Mv.of_keep k0
  have a1:=a1.mv m1
  obtain ⟨F2,rfl⟩:=AM (F:=F1) [(2,vP (some i_a))] ⟨hf 2 kR,trivial⟩
  exact AK rfl ((CA U3_ rfl rfl a1 (⟨(Keep.refl _ _),rfl⟩)))
 ·intro F1 w1 k1 hf hd
  obtain ⟨c5,c6,a6⟩:∃ v,F1 6=v∧AZ Enc.share w1 ([]++O) v (l):=⟨_,rfl,hd 0 6 kR⟩
  have:=a6.len_le
  obtain ⟨F2,rfl⟩:=AM (F:=F1) [(6,c5),(7,vI i)] ⟨c6,hd 1 7 kR,trivial⟩
  exact AK rfl ((DF U32_ DC .i64 i i.toNat rfl rfl oM a6 oM fun c7 b3=>(⟨(Keep.refl _ _),⟨c7,rfl,b3⟩⟩)))
 ·intro F1 w1 k1 hf hd
  obtain ⟨c8,c9,b4⟩:∃ aX_,F1 8 = .pointer (some aX_)∧PT Enc.share w1 ([]++O) (.pointer (some aX_)) (l[i.toNat]!):=hd 2 8 kR
  obtain ⟨F2,rfl⟩:=AM (F:=F1) [(8,vP (some c8))] ⟨c9,trivial⟩
  exact AK rfl ((BI 4 FV ((l[i.toNat]!).data) rfl b4 (fun _ _ _ h=>EO h) fun d0 b5=>(⟨(Keep.refl _ _),⟨d0,rfl,b5⟩⟩)))
 ·intro F1 w1 k1 hf hd
  obtain ⟨d1,d2,b6⟩:∃ aX_,F1 9 = .pointer (some aX_)∧PT (Enc.slice Enc.u8) w1 ([]++O) (.pointer (some aX_)) ((l[i.toNat]!).data):=hd 3 9 kR
  obtain ⟨F2,rfl⟩:=AM (F:=F1) [(9,vP (some d1))] ⟨d2,trivial⟩
  refine AK rfl ((BW U23_ rfl rfl b6 fun f5 a7=>(?_)))
  have:=a7.len_le
  exact ⟨(Keep.refl _ _),a7⟩
 ·intro F1 w1 k1 hf hd
  obtain ⟨F2,rfl⟩:=AM (F:=F1) [(0,vI (k:Int))] ⟨hf 0 kR,trivial⟩
  exact AK rfl ((AG (vI (k:Int)) rfl (⟨(Keep.refl _ _),rfl⟩)))
 ·intro F1 w1 k1 hf hd
  obtain ⟨d3,d4,a8⟩:∃ v,F1 10=v∧AZ Enc.u8 w1 ([]++O) v ((l[i.toNat]!).data):=⟨_,rfl,hd 4 10 kR⟩
  have:=a8.len_le
  obtain ⟨F2,rfl⟩:=AM (F:=F1) [(10,d3),(11,vI (k:Int))] ⟨d4,hd 5 11 kR,trivial⟩
  exact AK rfl ((DF U23_ IR .i64 (k:Int) k rfl rfl rfl a8 oM fun d5 b7=>(⟨(Keep.refl _ _),⟨d5,rfl,b7⟩⟩)))
 ·intro F1 w1 k1 hf hd
  obtain ⟨d6,d7,b8⟩:∃ aX_,F1 12 = .pointer (some aX_)∧PT Enc.u8 w1 ([]++O) (.pointer (some aX_)) (((l[i.toNat]!).data)[k]!):=hd 6 12 kR
  obtain ⟨F2,rfl⟩:=AM (F:=F1) [(12,vP (some d6))] ⟨d7,trivial⟩
  exact AK rfl ((HM U5_ rfl rfl b8 (⟨(Keep.refl _ _),rfl⟩)))
 ·intro F1 w1 k1 hf hd
  have k0:=(Keep.drew [] w).trans k1
  have m1:Mv ([]) w ([]) w1:=Mv.of_keep k0
  have a0:=a0.mv m1
  obtain ⟨F2,rfl⟩:=AM (F:=F1) [(3,vP (some zero_a))] ⟨hf 3 kR,trivial⟩
  refine AK rfl ((BW U32_ rfl rfl a0 fun f6 a9=>(?_)))
  have:=a9.len_le
  exact ⟨(Keep.refl _ _),a9⟩
 ·intro F1 w1 k1 hf hd
  have k0:=(Keep.drew [] w).trans k1
  have m1:Mv ([]) w ([]) w1:=Mv.of_keep k0
  have a1:=a1.mv m1
  obtain ⟨F2,rfl⟩:=AM (F:=F1) [(2,vP (some i_a))] ⟨hf 2 kR,trivial⟩
  exact AK rfl ((CA U3_ rfl rfl a1 (⟨(Keep.refl _ _),rfl⟩)))
 ·intro F1 w1 k1 hf hd
  obtain ⟨d8,d9,b0⟩:∃ v,F1 14=v∧AZ Enc.share w1 ([]++O) v (zero):=⟨_,rfl,hd 8 14 kR⟩
  have:=b0.len_le
  obtain ⟨F2,rfl⟩:=AM (F:=F1) [(14,d8),(15,vI i)] ⟨d9,hd 9 15 kR,trivial⟩
  exact AK rfl ((DF U32_ DC .i64 i i.toNat rfl rfl oM b0 oM fun e0 b9=>(⟨(Keep.refl _ _),⟨e0,rfl,b9⟩⟩)))
 ·intro F1 w1 k1 hf hd
  obtain ⟨e1,e2,c0⟩:∃ aX_,F1 16 = .pointer (some aX_)∧PT Enc.share w1 ([]++O) (.pointer (some aX_)) (zero[i.toNat]!):=hd 10 16 kR
  obtain ⟨F2,rfl⟩:=AM (F:=F1) [(16,vP (some e1))] ⟨e2,trivial⟩
  exact AK rfl ((BI 4 FV ((zero[i.toNat]!).data) rfl c0 (fun _ _ _ h=>EO h) fun e3 c1=>(⟨(Keep.refl _ _),⟨e3,rfl,c1⟩⟩)))
 ·intro F1 w1 k1 hf hd
  obtain ⟨e4,e5,c2⟩:∃ aX_,F1 17 = .pointer (some aX_)∧PT (Enc.slice Enc.u8) w1 ([]++O) (.pointer (some aX_)) ((zero[i.toNat]!).data):=hd 11 17 kR
  obtain ⟨F2,rfl⟩:=AM (F:=F1) [(17,vP (some e4))] ⟨e5,trivial⟩
  refine AK rfl ((BW U23_ rfl rfl c2 fun f7 b1=>(?_)))
  have:=b1.len_le
  exact ⟨(Keep.refl _ _),b1⟩
 ·intro F1 w1 k1 hf hd
  obtain ⟨F2,rfl⟩:=AM (F:=F1) [(0,vI (k:Int))] ⟨hf 0 kR,trivial⟩
  exact AK rfl ((AG (vI (k:Int)) rfl (⟨(Keep.refl _ _),rfl⟩)))
 ·intro F1 w1 k1 hf hd
  obtain ⟨e6,e7,b2⟩:∃ v,F1 18=v∧AZ Enc.u8 w1 ([]++O) v ((zero[i.toNat]!).data):=⟨_,rfl,hd 12 18 kR⟩
  have:=b2.len_le
  obtain ⟨F2,rfl⟩:=AM (F:=F1) [(18,e6),(19,vI (k:Int))] ⟨e7,hd 13 19 kR,trivial⟩
  exact AK rfl ((DF U23_ IR .i64 (k:Int) k rfl rfl rfl b2 oM fun e8 c3=>(⟨(Keep.refl _ _),⟨e8,rfl,c3⟩⟩)))
 ·intro F1 w1 k1 hf hd
  obtain ⟨e9,f0,c4⟩:∃ aX_,F1 20 = .pointer (some aX_)∧PT Enc.u8 w1 ([]++O) (.pointer (some aX_)) (((zero[i.toNat]!).data)[k]!):=hd 14 20 kR
  obtain ⟨F2,rfl⟩:=AM (F:=F1) [(20,vP (some e9))] ⟨f0,trivial⟩
  exact AK rfl ((HM U5_ rfl rfl c4 (⟨(Keep.refl _ _),rfl⟩)))
 intro f1 f8 f2 a2 a3
 have f3:=s0.call f2
 obtain ⟨F2,rfl⟩:=AM (F:=f1) [(5,vB (0:UInt8)),(23,undef),(13,vB (((l[i.toNat]!).data)[k]!)),(21,vB (((zero[i.toNat]!).data)[k]!))] ⟨a3 5 kR,a3 23 kR,a2 7 13 kR (by decide),a2 15 21 kR (by decide),trivial⟩
 clear a2 a3
 refine AA (OA (((l[i.toNat]!).data)[k]!) (((zero[i.toNat]!).data)[k]!) rfl rfl (AA (AF (vB ((((l[i.toNat]!).data)[k]!) ^^^ (((zero[i.toNat]!).data)[k]!))) rfl (AH (AD (AQ (AX rfl (CK rfl rfl rfl) (?_))))))))
 have e:(l[(i).toNat]!.data[k]! ^^^ zero[(i).toNat]!.data[k]!)=((((l[i.toNat]!).data)[k]!) ^^^ (((zero[i.toNat]!).data)[k]!)):=rfl
 exact ⟨_,rfl,f3.keep,by rw [e];exact rfl⟩
set_option maxHeartbeats 4000000 in
set_option maxRecDepth 100000 in
theorem SY {O:List Nat} (i:Nat) (l_a:Addr) (l:(List Share)) (f_a:Addr) (f:Share) (zero_a:Addr) (zero:(List Share)) (w:World) (a4:PT (Enc.slice Enc.share) w O (.pointer (some l_a)) l) (a5:PT Enc.share w O (.pointer (some f_a)) f) (a0:PT (Enc.slice Enc.share) w O (.pointer (some zero_a)) zero) (hpre0:i<l.length) (hpre1:i<zero.length) (hpre2:l[i]!.data.length=f.data.length) (hpre3:zero[i]!.data.length=f.data.length) (hpre4:0≤l[i]!.epoch) (hpre5:l[i]!.epoch≤1048576) (hpre6:f.data.length≤1000) (hO:∀ b∈O,b<w.heap.size):CD Try.prog 55 [vI (i:Int), .pointer (some l_a), .pointer (some f_a), .pointer (some zero_a)] w (fun v w'=>∃ (x0:List Value),v = .agg x0.toArray∧Enc.share.rd w' (O) x0 (FJ l f zero i)):= by
 have a4:PT (Enc.slice Enc.share) w ([]++O) (.pointer (some l_a)) l:=a4
 have a5:PT Enc.share w ([]++O) (.pointer (some f_a)) f:=a5
 have a0:PT (Enc.slice Enc.share) w ([]++O) (.pointer (some zero_a)) zero:=a0
 have s0:St w O w []:=St.start hO
 refine BK 22 Try.func55 rfl rfl oT (fun F0=>AI (AC kR (AA (DK (E:=Enc.int) (vI (i:Int)) ([vI (i:Int)]) (i:Int) rfl rfl rfl s0 fun b0 e9 d1 b7 f0 a2=>(?_)))))
 have a4:=a4.mv b7
 have a5:=a5.mv b7
 have a0:=a0.mv b7
 refine AA (CU [vI 0,vI 0,vI 0,vI 0,nS] MO rfl d1 fun a7 f1 d2 d3 b1 f2 a1=>(?_))
 clear d2
 have a4:=a4.mv b1
 have a5:=a5.mv b1
 have a0:=a0.mv b1
 have a2:=a2.mv b1
 refine AH (AD (AI (AC kR (AA (BW U32_ rfl rfl a4 fun f3 b8=>(?_))))))
 have:=b8.len_le
 refine AA (CA U3_ rfl rfl a2 (AA (DF U32_ DC .i64 (i:Int) i rfl rfl rfl b8 oM fun f4 c5=>(AA (CP U70_ rfl DC rfl c5 fun c6 b4=>(AA (CU [vI 0,vI 0,vI 0,vI 0,nS] MO rfl d3 fun a8 d4 d5 d6 a9 d7 c7=>(?_))))))))
 have b5:FM a7 a8:=by show a7≠a8;have:=a1.lt;omega
 clear d5
 have a4:=a4.mv a9
 have a5:=a5.mv a9
 have a0:=a0.mv a9
 have a2:=a2.mv a9
 have b4:Enc.share.rd d4 ((a8 :: (a7 :: []))++O) c6 (l[i]!):=Enc.mv Enc.share (x:=l[i]!) b4 a9
 have a1:=a1.keep d7 (by simp)
 obtain ⟨c2,rfl,b9⟩:=b4
 have:=b9.len_le
 refine BX (BG (vs:=[vI ((l[i]!).epoch),vI ((l[i]!).index),vI ((l[i]!).threshold),vI ((l[i]!).many),c2]) (.agg #[vI ((l[i]!).epoch),vI ((l[i]!).index),vI ((l[i]!).threshold),vI ((l[i]!).many),c2]) rfl rfl rfl DC (fun u hu=>by simp only [List.mem_cons,List.not_mem_nil,or_false] at hu;rcases hu with rfl|rfl|rfl|rfl|rfl <;> first|rfl|exact b9.oneCell) (by repeat (constructor)) c7 oT d6 fun f5 d8 b2 d9 c0=>(?_))
 have a4:=a4.mv b2
 have a5:=a5.mv b2
 have a0:=a0.mv b2
 have a2:=a2.mv b2
 have a1:=a1.keep d9 (BF b5)
 refine AH (AD (AI (AC kR (AA (BC 0 HW rfl (AA (BH U3_ rfl (vI ((l[i]!).epoch)) rfl c0 rfl (AA (DE .i64 ((l[i]!).epoch) (1:Int) (((l[i]!).epoch)+(1:Int)) rfl rfl (GR oM oM) (AA (BC 0 HW rfl (BX (CJ (vI (((l[i]!).epoch)+(1:Int))) rfl rfl rfl NR (by repeat (constructor)) c0 oT d8 fun e0 c3 b3 e1 b6=>(?_))))))))))))))
 have a4:=a4.mv b3
 have a5:=a5.mv b3
 have a0:=a0.mv b3
 have a2:=a2.mv b3
 have a1:=a1.keep e1 (BF b5)
 refine AH (AD (AI (AC kR (AA (BI 4 FV (f.data) rfl a5 (fun _ _ _ h=>EO h) fun f6 c8=>(AA (BW U23_ rfl rfl c8 fun f7 c1=>(?_))))))))
 have:=c1.len_le
 refine AA (CB U23_ rfl c1 (AA (CZ (first:=[]) (captured:=[.tmp 1, .tmp 4, .tmp 3]) [] [vP (some l_a),vP (some b0),vP (some zero_a)] rfl rfl (AA (BD (vs:=[vI (f.data.length:Int),vN (.func 56) #[] #[vP (some l_a),vP (some b0),vP (some zero_a)]]) NO (KO (O:=(a8 :: (a7 :: []))++O) (f.data.length:Int) 56 [vP (some l_a),vP (some b0),vP (some zero_a)] (fun i_=>l[((i:Int)).toNat]!.data[i_]! ^^^ zero[((i:Int)).toNat]!.data[i_]!) e0 enter_56 (fun w'_ O'_ kk_ hs_ hl_ i_  hc_=>c_refresh11 (O:=O'_) i_ l_a l b0 (i:Int) zero_a zero w'_ (a4.on hs_ kk_) (a2.on hs_ kk_) (a0.on hs_ kk_) oM oM oM (by rw [Int.toNat_natCast,hpre2];omega) (by rw [Int.toNat_natCast,hpre3];omega) hl_) oM c3.lt) rfl c3 fun a6 f8 e2 f9 c4 e3=>(?_))))))
 obtain ⟨_,rfl,a3⟩:=e3
 have:=a3.len_le
 have a1:=a1.keep c4 (by simp)
 have b6:=b6.keep c4 (by simp)
 refine AA (BC 4 FV rfl (BX (CJ (a6) rfl rfl a3.oneCell s_23 (by repeat (constructor)) b6 oT e2 fun g0 e4 e5 e6 c9=>(?_))))
 have a3:=a3.mv e5
 have a1:=a1.keep e6 (BF b5)
 refine AH (AD (AI (AC kR (AA (BP (vs:=[vI (((l[i]!).epoch)+(1:Int)),vI ((l[i]!).index),vI ((l[i]!).threshold),vI ((l[i]!).many),a6]) U70_ rfl DC rfl c9 rfl (BX (BG (vs:=[vI (((l[i]!).epoch)+(1:Int)),vI ((l[i]!).index),vI ((l[i]!).threshold),vI ((l[i]!).many),a6]) (.agg #[vI (((l[i]!).epoch)+(1:Int)),vI ((l[i]!).index),vI ((l[i]!).threshold),vI ((l[i]!).many),a6]) rfl rfl rfl DC (fun u hu=>by simp only [List.mem_cons,List.not_mem_nil,or_false] at hu;rcases hu with rfl|rfl|rfl|rfl|rfl <;> first|rfl|exact a3.oneCell) (by repeat (constructor)) a1 oT e4 fun g1 e7 e8 g2 d0=>(?_))))))))
 have a3:=a3.mv e8
 refine AH (AD (AQ (AX rfl (rescA (vs:=[vI (((l[i]!).epoch)+(1:Int)),vI ((l[i]!).index),vI ((l[i]!).threshold),vI ((l[i]!).many),a6]) rfl rfl U70_ rfl DC rfl d0 rfl) (?_))))
 have e:(FJ l f zero i)=(⟨((l[i]!).epoch)+(1:Int),(l[i]!).index,(l[i]!).threshold,(l[i]!).many,(List.range ((f.data.length:Int)).toNat).map (fun i_=>l[((i:Int)).toNat]!.data[i_]! ^^^ zero[((i:Int)).toNat]!.data[i_]!)⟩:Share):=rfl
 exact ⟨_,rfl,e7.keep,by rw [e];exact ⟨[vI (((l[i]!).epoch)+(1:Int)),vI ((l[i]!).index),vI ((l[i]!).threshold),vI ((l[i]!).many),a6],rfl,Enc.out (B:=(a8 :: (a7 :: []))) ⟨_,rfl,a3⟩⟩⟩
set_option maxHeartbeats 4000000 in
set_option maxRecDepth 100000 in
theorem c_refresh {O:List Nat} (l_v:Value) (l:List Share) (coins_v:Value) (coins:List UInt8) (w:World) (f2:AZ Enc.share w O l_v l) (a5:AZ Enc.u8 w O coins_v coins) (hO:∀ b∈O,b<w.heap.size):CD Try.prog 19 [l_v,coins_v] w (fun v w'=>∃ (x0:Value),v = .tuple #[x0,vI ((CG l coins).2)]∧AZ Enc.share w' (O) x0 ((CG l coins).1)):= by
 have s7:=f2.len_le
 have f2:AZ Enc.share w ([]++O) l_v l:=f2
 have q6:=a5.len_le
 have a5:AZ Enc.u8 w ([]++O) coins_v coins:=a5
 have s0:St w O w []:=St.start hO
 refine BK 48 Try.func19 rfl rfl oT (fun F0=>AI (AC kR (AA (DK (E:=(Enc.slice Enc.share)) (l_v) ([l_v]) l rfl (FD f2.oneCell) ⟨_,rfl,f2⟩ s0 fun b0 l9 h3 m0 s8 a1=>(?_)))))
 have a5:=a5.mv m0
 refine AA (AF (nS) rfl (AA (AF (vI 0) rfl (AH (AD (AI (AI (AC kR (AA (BW U32_ rfl rfl a1 fun h4 f3=>(?_)))))))))))
 have:=f3.len_le
 refine AA (BD (vs:=[h4]) MG (ML (O:=[]++O) h4 l l9 f3 h3.lt) rfl h3 fun s9 t0 h5 h6 t2 m2=>(?_))
 obtain rfl:=m2
 have a5:=a5.mv h6
 have a1:=a1.mv h6
 refine AA (AF (vI (BN l)) rfl (AH (AD (AI (AC kR (AA (AG (vI (BN l)) rfl (AA (CS .i64 (BN l) (0:Int) rfl rfl (AH (AD (AN ((BN l) != (0:Int)) rfl rfl (fun c7=>?_) (fun c7=>?_)))))))))))))
 ·have r4:BN l≠(0:Int):=by simpa using c7
  refine AI (AC kR (AA (AG (vI (BN l)) rfl (AA (AF (nS) rfl (AA (AF (vI (BN l)) rfl (AH (AD (AQ (AR (AX rfl (FG rfl rfl rfl rfl) (?_)))))))))))))
  have e:(CG l coins)=([],BN l):=by exact IB (l:=l) (coins:=coins) (by unfold DZ GU;((repeat ((refine (if_pos ?_).trans ?_;omega)));rfl)) aS
  exact ⟨_,rfl,h5.keep,by rw [e];exact ⟨.slice none 0 0,rfl,AZ.nil _ _ _⟩⟩
 have j2:BN l=(0:Int):=by simpa using c7
 have hv:=(EI l).1 j2
 have hpos:=hv.pos
 have ht1:=hv.t1
 have htm:=hv.tm
 have w0:=hv.m8
 have v9:=hv.d64
 refine AW (AD (AI (AC kR (AA (BW U32_ rfl rfl a1 fun t3 f4=>(?_))))))
 have:=f4.len_le
 refine AA (DF U32_ DC .i64 (0:Int) 0 rfl rfl rfl f4 oM fun t4 j3=>(AA (CP U70_ rfl DC rfl j3 fun j4 c8=>(AA (CU [vI 0,vI 0,vI 0,vI 0,nS] MO rfl h5 fun a0 m3 m4 m5 e1 t5 j5=>(?_))))))
 clear m4
 have a5:=a5.mv e1
 have a1:=a1.mv e1
 have c8:Enc.share.rd m3 ((a0 :: [])++O) j4 (l[0]!):=Enc.mv Enc.share (x:=l[0]!) c8 e1
 obtain ⟨e2,rfl,a4⟩:=c8
 have:=a4.len_le
 refine BX (BG (vs:=[vI ((l[0]!).epoch),vI ((l[0]!).index),vI ((l[0]!).threshold),vI ((l[0]!).many),e2]) (.agg #[vI ((l[0]!).epoch),vI ((l[0]!).index),vI ((l[0]!).threshold),vI ((l[0]!).many),e2]) rfl rfl rfl DC (fun u hu=>by simp only [List.mem_cons,List.not_mem_nil,or_false] at hu;rcases hu with rfl|rfl|rfl|rfl|rfl <;> first|rfl|exact a4.oneCell) (by repeat (constructor)) j5 oT m5 fun a3 b2 e3 t6 a2=>(?_))
 have a5:=a5.mv e3
 have a1:=a1.mv e3
 have a4:=a4.mv e3
 refine AH (AD (AI (AI (AC kR (AA (BW U32_ rfl rfl a1 fun t7 f5=>(?_)))))))
 have:=f5.len_le
 refine AA (CB U32_ rfl f5 (AA (BC 3 JE rfl (AA (BH U3_ rfl (vI ((l[0]!).many)) rfl a2 rfl (AA (CS .i64 (l.length:Int) ((l[0]!).many) rfl rfl (AH (AD (AN ((l.length:Int) != ((l[0]!).many)) rfl rfl (fun c9=>?_) (fun c9=>?_)))))))))))
 ·have r5:(l.length:Int)≠(l[0]!).many:=by simpa using c9
  refine AI (AC kR (AA (AF (nS) rfl (AA (AF (vI 80) rfl (AH (AD (AQ (AR (AX rfl (FG rfl rfl rfl rfl) (?_)))))))))))
  have e:(CG l coins)=([],(80:Int)):=by exact IB (l:=l) (coins:=coins) (by unfold DZ GU;((repeat (first|(refine (if_pos ?_).trans ?_;omega)|(refine (if_neg ?_).trans ?_;omega)));rfl)) (by decide)
  exact ⟨_,rfl,b2.keep,by rw [e];exact ⟨.slice none 0 0,rfl,AZ.nil _ _ _⟩⟩
 have r6:(l.length:Int)=(l[0]!).many:=by simpa using c9
 refine AW (AD (AI (AI (AC kR (AA (BC 0 HW rfl (AA (BH U3_ rfl (vI ((l[0]!).epoch)) rfl a2 rfl (AA (EV .i64 ((l[0]!).epoch) (1048576:Int) rfl rfl (AH (AD (AN (((l[0]!).epoch) == (1048576:Int)) rfl rfl (fun d0=>?_) (fun d0=>?_))))))))))))))
 ·have r7:(l[0]!).epoch=(1048576:Int):=by simpa using d0
  refine AI (AC kR (AA (AF (nS) rfl (AA (AF (vI 81) rfl (AH (AD (AQ (AR (AX rfl (FG rfl rfl rfl rfl) (?_)))))))))))
  have e:(CG l coins)=([],(81:Int)):=by exact IB (l:=l) (coins:=coins) (by unfold DZ GU;((repeat (first|(refine (if_pos ?_).trans ?_;omega)|(refine (if_neg ?_).trans ?_;omega)));rfl)) (by decide)
  exact ⟨_,rfl,b2.keep,by rw [e];exact ⟨.slice none 0 0,rfl,AZ.nil _ _ _⟩⟩
 have r8:(l[0]!).epoch≠(1048576:Int):=by simpa using d0
 refine AW (AD (AI (WC 16 [14] _ _ _ [fun _=>DB (vP (some ⟨a0,4,none⟩)),fun _=>fun (vT:Value) (_:World)=>AZ Enc.u8 a3 ((a0 :: [])++O) vT ((l[0]!).data),fun _=>DB (vI (((l[0]!).data).length:Int)),fun (BT:List Nat) (vT:Value) (wT:World)=>AZ Enc.u8 wT (BT++O) vT (List.replicate (((l[0]!).data).length) (0:UInt8)),fun _=>DB (vP (some ⟨a0,0,none⟩)),fun _=>DB (vI ((l[0]!).epoch)),fun _=>DB (vP (some ⟨a0,2,none⟩)),fun _=>DB (vI ((l[0]!).threshold)),fun _=>DB (vP (some ⟨a0,3,none⟩)),fun _=>DB (vI ((l[0]!).many)),fun _=>fun (vT:Value) (_:World)=>AZ Enc.u8 a3 ((a0 :: [])++O) vT (coins),fun (BT:List Nat) (vT:Value) (wT:World)=>∃ (xT0:Value),vT = .tuple #[xT0,vI ((BL (List.replicate (((l[0]!).data).length) (0:UInt8)) ((l[0]!).epoch) ((l[0]!).threshold) ((l[0]!).many) coins).2)]∧AZ Enc.share wT (BT++O) xT0 ((BL (List.replicate (((l[0]!).data).length) (0:UInt8)) ((l[0]!).epoch) ((l[0]!).threshold) ((l[0]!).many) coins).1),fun (BT:List Nat) (vT:Value) (wT:World)=>∃ (xT0:Value),vT = .tuple #[xT0,vI ((BL (List.replicate (((l[0]!).data).length) (0:UInt8)) ((l[0]!).epoch) ((l[0]!).threshold) ((l[0]!).many) coins).2)]∧AZ Enc.share wT (BT++O) xT0 ((BL (List.replicate (((l[0]!).data).length) (0:UInt8)) ((l[0]!).epoch) ((l[0]!).threshold) ((l[0]!).many) coins).1),fun (BT:List Nat) (vT:Value) (wT:World)=>AZ Enc.share wT (BT++O) vT ((BL (List.replicate (((l[0]!).data).length) (0:UInt8)) ((l[0]!).epoch) ((l[0]!).threshold) ((l[0]!).many) coins).1),fun _=>DB (vI ((BL (List.replicate (((l[0]!).data).length) (0:UInt8)) ((l[0]!).epoch) ((l[0]!).threshold) ((l[0]!).many) coins).2)),PE a3 32 [nS]] [⟨0,[],[],[],false,[]⟩,⟨0,[],[],[],false,[0]⟩,⟨0,[],[],[],false,[1]⟩,⟨1,[],[],[],false,[2]⟩,⟨0,[],[],[],false,[]⟩,⟨0,[],[],[],false,[4]⟩,⟨0,[],[],[],false,[]⟩,⟨0,[],[],[],false,[6]⟩,⟨0,[],[],[],false,[]⟩,⟨0,[],[],[],false,[8]⟩,⟨0,[],[],[],false,[]⟩,⟨1,[1],[],[],false,[3,5,7,9,10]⟩,⟨1,[1],[],[],false,[11]⟩,⟨1,[1],[],[],false,[12]⟩,⟨0,[1],[],[],false,[12]⟩,⟨2,[],[],[],false,[]⟩] (a0 :: []) kR kR kR kR kR (by decide) rfl rfl rfl ⟨fun _ _ _ _ _ h=>h,fun _ _ _ _ _ h=>h,fun _ _ _ _ _ h=>h,(show ∀ B B2 v w w2,(fun (BT:List Nat) (vT:Value) (wT:World)=>AZ Enc.u8 wT (BT++O) vT (List.replicate (((l[0]!).data).length) (0:UInt8))) B v w→Mv B w B2 w2→(fun (BT:List Nat) (vT:Value) (wT:World)=>AZ Enc.u8 wT (BT++O) vT (List.replicate (((l[0]!).data).length) (0:UInt8))) B2 v w2 from fun _ _ _ _ _ h m=>h.mv m),fun _ _ _ _ _ h=>h,fun _ _ _ _ _ h=>h,fun _ _ _ _ _ h=>h,fun _ _ _ _ _ h=>h,fun _ _ _ _ _ h=>h,fun _ _ _ _ _ h=>h,fun _ _ _ _ _ h=>h,(show ∀ B B2 v w w2,(fun (BT:List Nat) (vT:Value) (wT:World)=>∃ (xT0:Value),vT = .tuple #[xT0,vI ((BL (List.replicate (((l[0]!).data).length) (0:UInt8)) ((l[0]!).epoch) ((l[0]!).threshold) ((l[0]!).many) coins).2)]∧AZ Enc.share wT (BT++O) xT0 ((BL (List.replicate (((l[0]!).data).length) (0:UInt8)) ((l[0]!).epoch) ((l[0]!).threshold) ((l[0]!).many) coins).1)) B v w→Mv B w B2 w2→(fun (BT:List Nat) (vT:Value) (wT:World)=>∃ (xT0:Value),vT = .tuple #[xT0,vI ((BL (List.replicate (((l[0]!).data).length) (0:UInt8)) ((l[0]!).epoch) ((l[0]!).threshold) ((l[0]!).many) coins).2)]∧AZ Enc.share wT (BT++O) xT0 ((BL (List.replicate (((l[0]!).data).length) (0:UInt8)) ((l[0]!).epoch) ((l[0]!).threshold) ((l[0]!).many) coins).1)) B2 v w2 from fun _ _ _ _ _ ⟨y0,e,h0⟩ m=>⟨y0,e,h0.mv m⟩),(show ∀ B B2 v w w2,(fun (BT:List Nat) (vT:Value) (wT:World)=>∃ (xT0:Value),vT = .tuple #[xT0,vI ((BL (List.replicate (((l[0]!).data).length) (0:UInt8)) ((l[0]!).epoch) ((l[0]!).threshold) ((l[0]!).many) coins).2)]∧AZ Enc.share wT (BT++O) xT0 ((BL (List.replicate (((l[0]!).data).length) (0:UInt8)) ((l[0]!).epoch) ((l[0]!).threshold) ((l[0]!).many) coins).1)) B v w→Mv B w B2 w2→(fun (BT:List Nat) (vT:Value) (wT:World)=>∃ (xT0:Value),vT = .tuple #[xT0,vI ((BL (List.replicate (((l[0]!).data).length) (0:UInt8)) ((l[0]!).epoch) ((l[0]!).threshold) ((l[0]!).many) coins).2)]∧AZ Enc.share wT (BT++O) xT0 ((BL (List.replicate (((l[0]!).data).length) (0:UInt8)) ((l[0]!).epoch) ((l[0]!).threshold) ((l[0]!).many) coins).1)) B2 v w2 from fun _ _ _ _ _ ⟨y0,e,h0⟩ m=>⟨y0,e,h0.mv m⟩),(show ∀ B B2 v w w2,(fun (BT:List Nat) (vT:Value) (wT:World)=>AZ Enc.share wT (BT++O) vT ((BL (List.replicate (((l[0]!).data).length) (0:UInt8)) ((l[0]!).epoch) ((l[0]!).threshold) ((l[0]!).many) coins).1)) B v w→Mv B w B2 w2→(fun (BT:List Nat) (vT:Value) (wT:World)=>AZ Enc.share wT (BT++O) vT ((BL (List.replicate (((l[0]!).data).length) (0:UInt8)) ((l[0]!).epoch) ((l[0]!).threshold) ((l[0]!).many) coins).1)) B2 v w2 from fun _ _ _ _ _ h m=>h.mv m),fun _ _ _ _ _ h=>h,PE.st,trivial⟩ ⟨?_,?_,?_,?_,?_,?_,?_,?_,?_,?_,?_,?_,?_,?_,?_,?_,trivial⟩ ?_ ?_)))
 ·intro F1 w1 B1_ Bs_ k1 hs_ hl_ hr_ hsep_ hf hd
  obtain ⟨F2,rfl⟩:=AM (F:=F1) [(7,vP (some ⟨a0,0,none⟩))] ⟨hf 7 kR,trivial⟩
  exact AK rfl ((BC 4 FV rfl (⟨[],(Keep.refl _ _),KY,rfl⟩)))
 ·intro F1 w1 B1_ Bs_ k1 hs_ hl_ hr_ hsep_ hf hd
  have k0:=(Keep.drew [] a3).trans k1
  have a2:=a2.keep k0 (by simp)
  obtain ⟨F2,rfl⟩:=AM (F:=F1) [(26,vP (some ⟨a0,4,none⟩))] ⟨hd 0 26 kR kR,trivial⟩
  exact AK rfl ((BH U23_ rfl (e2) rfl a2 rfl (⟨[],(Keep.refl _ _),KY,a4⟩)))
 ·intro F1 w1 B1_ Bs_ k1 hs_ hl_ hr_ hsep_ hf hd
  obtain ⟨m6,m7,f6⟩:∃ v,F1 27=v∧AZ Enc.u8 a3 ((a0 :: [])++O) v ((l[0]!).data):=⟨_,rfl,hd 1 27 kR kR⟩
  have:=f6.len_le
  obtain ⟨F2,rfl⟩:=AM (F:=F1) [(27,m6)] ⟨m7,trivial⟩
  exact AK rfl ((o_lenRU U23_ rfl f6 (⟨[],(Keep.refl _ _),KY,rfl⟩)))
 ·intro F1 w1 B1_ Bs_ k1 hs_ hl_ hr_ hsep_ hf hd
  have k0:=(Keep.drew [] a3).trans k1
  have s1:=b2.adoptL k0 hl_
  obtain ⟨F2,rfl⟩:=AM (F:=F1) [(28,vI (((l[0]!).data).length:Int))] ⟨hd 2 28 kR kR,trivial⟩
  refine AK rfl ((o_makeR (E:=Enc.u8) U23_ i_5 [vB (0:UInt8)] rfl rfl (by decide) (0:UInt8) (fun _ _=>rfl) .i64 .i64 (((l[0]!).data).length:Int) (((l[0]!).data).length:Int) (((l[0]!).data).length) (((l[0]!).data).length) rfl rfl rfl rfl oM oM (by simp only [maxLen];omega) s1 fun t8 t9 u0 u1 m9 j6=>(?_)))
  exact ⟨[],m9,KY,j6⟩
 ·intro F1 w1 B1_ Bs_ k1 hs_ hl_ hr_ hsep_ hf hd
  obtain ⟨F2,rfl⟩:=AM (F:=F1) [(7,vP (some ⟨a0,0,none⟩))] ⟨hf 7 kR,trivial⟩
  exact AK rfl ((BC 0 HW rfl (⟨[],(Keep.refl _ _),KY,rfl⟩)))
 ·intro F1 w1 B1_ Bs_ k1 hs_ hl_ hr_ hsep_ hf hd
  have k0:=(Keep.drew [] a3).trans k1
  have a2:=a2.keep k0 (by simp)
  obtain ⟨F2,rfl⟩:=AM (F:=F1) [(30,vP (some ⟨a0,0,none⟩))] ⟨hd 4 30 kR kR,trivial⟩
  exact AK rfl ((BH U3_ rfl (vI ((l[0]!).epoch)) rfl a2 rfl (⟨[],(Keep.refl _ _),KY,rfl⟩)))
 ·intro F1 w1 B1_ Bs_ k1 hs_ hl_ hr_ hsep_ hf hd
  obtain ⟨F2,rfl⟩:=AM (F:=F1) [(7,vP (some ⟨a0,0,none⟩))] ⟨hf 7 kR,trivial⟩
  exact AK rfl ((BC 2 JC rfl (⟨[],(Keep.refl _ _),KY,rfl⟩)))
 ·intro F1 w1 B1_ Bs_ k1 hs_ hl_ hr_ hsep_ hf hd
  have k0:=(Keep.drew [] a3).trans k1
  have a2:=a2.keep k0 (by simp)
  obtain ⟨F2,rfl⟩:=AM (F:=F1) [(32,vP (some ⟨a0,2,none⟩))] ⟨hd 6 32 kR kR,trivial⟩
  exact AK rfl ((BH U3_ rfl (vI ((l[0]!).threshold)) rfl a2 rfl (⟨[],(Keep.refl _ _),KY,rfl⟩)))
 ·intro F1 w1 B1_ Bs_ k1 hs_ hl_ hr_ hsep_ hf hd
  obtain ⟨F2,rfl⟩:=AM (F:=F1) [(7,vP (some ⟨a0,0,none⟩))] ⟨hf 7 kR,trivial⟩
  exact AK rfl ((BC 3 JE rfl (⟨[],(Keep.refl _ _),KY,rfl⟩)))
 ·intro F1 w1 B1_ Bs_ k1 hs_ hl_ hr_ hsep_ hf hd
  have k0:=(Keep.drew [] a3).trans k1
  have a2:=a2.keep k0 (by simp)
  obtain ⟨F2,rfl⟩:=AM (F:=F1) [(34,vP (some ⟨a0,3,none⟩))] ⟨hd 8 34 kR kR,trivial⟩
  exact AK rfl ((BH U3_ rfl (vI ((l[0]!).many)) rfl a2 rfl (⟨[],(Keep.refl _ _),KY,rfl⟩)))
 ·intro F1 w1 B1_ Bs_ k1 hs_ hl_ hr_ hsep_ hf hd
  obtain ⟨F2,rfl⟩:=AM (F:=F1) [(1,coins_v)] ⟨hf 1 kR,trivial⟩
  exact AK rfl ((AG (coins_v) rfl (⟨[],(Keep.refl _ _),KY,a5⟩)))
 ·intro F1 w1 B1_ Bs_ k1 hs_ hl_ hr_ hsep_ hf hd
  have k0:=(Keep.drew [] a3).trans k1
  have s1:=b2.adoptL k0 hl_
  have m1:Mv (a0 :: []) a3 B1_ w1:=Mv.adoptL k0 hl_
  obtain ⟨e4,n2,b7⟩:∃ v,F1 29=v∧AZ Enc.u8 w1 ((Bs_ 1)++O) v (List.replicate (((l[0]!).data).length) (0:UInt8)):=⟨_,rfl,hd 3 29 kR kR⟩
  have:=b7.len_le
  have b7:=b7.mv (Mv.at_ (hr_ 1 kR))
  obtain ⟨e5,n3,b8⟩:∃ v,F1 36=v∧AZ Enc.u8 a3 ((a0 :: [])++O) v (coins):=⟨_,rfl,hd 10 36 kR kR⟩
  have:=b8.len_le
  have b8:=b8.mv m1
  obtain ⟨F2,rfl⟩:=AM (F:=F1) [(29,e4),(31,vI ((l[0]!).epoch)),(33,vI ((l[0]!).threshold)),(35,vI ((l[0]!).many)),(36,e5)] ⟨n2,hd 5 31 kR kR,hd 7 33 kR kR,hd 9 35 kR kR,n3,trivial⟩
  refine AK rfl ((BD (vs:=[e4,vI ((l[0]!).epoch),vI ((l[0]!).threshold),vI ((l[0]!).many),e5]) TL (c_split (O:=B1_++O) e4 (List.replicate (((l[0]!).data).length) (0:UInt8)) ((l[0]!).epoch) ((l[0]!).threshold) ((l[0]!).many) e5 coins w1 b7 b8 s1.lt) rfl s1 fun u2 u3 u4 u5 n4 n5=>(?_)))
  obtain ⟨n6,rfl,f7⟩:=n5
  have:=f7.len_le
  exact ⟨[],n4,KY,⟨n6,rfl,f7⟩⟩
 ·intro F1 w1 B1_ Bs_ k1 hs_ hl_ hr_ hsep_ hf hd
  obtain ⟨e6,n7,b9⟩:(fun (vT:Value) (wT:World)=>∃ (xT0:Value),vT = .tuple #[xT0,vI ((BL (List.replicate (((l[0]!).data).length) (0:UInt8)) ((l[0]!).epoch) ((l[0]!).threshold) ((l[0]!).many) coins).2)]∧AZ Enc.share wT ((Bs_ 1)++O) xT0 ((BL (List.replicate (((l[0]!).data).length) (0:UInt8)) ((l[0]!).epoch) ((l[0]!).threshold) ((l[0]!).many) coins).1)) (F1 37) w1:=hd 11 37 kR kR
  have:=b9.len_le
  have b9:=b9.mv (Mv.at_ (hr_ 1 kR))
  obtain ⟨F2,rfl⟩:=AM (F:=F1) [(37,vT #[e6,vI ((BL (List.replicate (((l[0]!).data).length) (0:UInt8)) ((l[0]!).epoch) ((l[0]!).threshold) ((l[0]!).many) coins).2)])] ⟨n7,trivial⟩
  exact AK rfl ((AG (vT #[e6,vI ((BL (List.replicate (((l[0]!).data).length) (0:UInt8)) ((l[0]!).epoch) ((l[0]!).threshold) ((l[0]!).many) coins).2)]) rfl (⟨[],(Keep.refl _ _),KY,⟨e6,rfl,b9⟩⟩)))
 ·intro F1 w1 B1_ Bs_ k1 hs_ hl_ hr_ hsep_ hf hd
  obtain ⟨h7,n9,c0⟩:(fun (vT:Value) (wT:World)=>∃ (xT0:Value),vT = .tuple #[xT0,vI ((BL (List.replicate (((l[0]!).data).length) (0:UInt8)) ((l[0]!).epoch) ((l[0]!).threshold) ((l[0]!).many) coins).2)]∧AZ Enc.share wT ((Bs_ 1)++O) xT0 ((BL (List.replicate (((l[0]!).data).length) (0:UInt8)) ((l[0]!).epoch) ((l[0]!).threshold) ((l[0]!).many) coins).1)) (F1 25) w1:=hd 12 25 kR kR
  have:=c0.len_le
  have c0:=c0.mv (Mv.at_ (hr_ 1 kR))
  obtain ⟨F2,rfl⟩:=AM (F:=F1) [(25,vT #[h7,vI ((BL (List.replicate (((l[0]!).data).length) (0:UInt8)) ((l[0]!).epoch) ((l[0]!).threshold) ((l[0]!).many) coins).2)])] ⟨n9,trivial⟩
  exact AK rfl ((AP (h7) rfl rfl (⟨[],(Keep.refl _ _),KY,c0⟩)))
 ·intro F1 w1 B1_ Bs_ k1 hs_ hl_ hr_ hsep_ hf hd
  obtain ⟨o0,o1,j7⟩:(fun (vT:Value) (wT:World)=>∃ (xT0:Value),vT = .tuple #[xT0,vI ((BL (List.replicate (((l[0]!).data).length) (0:UInt8)) ((l[0]!).epoch) ((l[0]!).threshold) ((l[0]!).many) coins).2)]∧AZ Enc.share wT ((Bs_ 1)++O) xT0 ((BL (List.replicate (((l[0]!).data).length) (0:UInt8)) ((l[0]!).epoch) ((l[0]!).threshold) ((l[0]!).many) coins).1)) (F1 25) w1:=hd 12 25 kR kR
  have:=j7.len_le
  obtain ⟨F2,rfl⟩:=AM (F:=F1) [(25,vT #[o0,vI ((BL (List.replicate (((l[0]!).data).length) (0:UInt8)) ((l[0]!).epoch) ((l[0]!).threshold) ((l[0]!).many) coins).2)])] ⟨o1,trivial⟩
  exact AK rfl ((AP (vI ((BL (List.replicate (((l[0]!).data).length) (0:UInt8)) ((l[0]!).epoch) ((l[0]!).threshold) ((l[0]!).many) coins).2)) rfl rfl (⟨[],(Keep.refl _ _),KY,rfl⟩)))
 ·intro F1 w1 B1_ Bs_ k1 hs_ hl_ hr_ hsep_ hf hd
  have k0:=(Keep.drew [] a3).trans k1
  have s1:=b2.adoptL k0 hl_
  obtain ⟨F2,rfl⟩:=AM (F:=F1) [] trivial
  refine AK rfl ((CU [nS] z_32 rfl s1 fun o2 u6 u7 u9 v0 o3 j8=>(?_)))
  have j9:a3.heap.size≤o2:=by have:=k0.size;omega
  exact ⟨[],o3,KY,⟨_,rfl,j9,(by intro h;have:=lt_of s1 _ h;omega),j8⟩⟩
 ·intro e7 c1 b3 e8 d1 k2 d9 c2 b4
  obtain ⟨a6,o4,f8,k3,f9⟩:(PE a3 32 [nS]) (b3 2) (e7 8) c1:=c2 15 8 kR (by decide) kR kR
  have g0:=f9.lt
  have k4:∀ x∈(a0 :: []),x∈(a0 :: [])∨(a3.heap.size≤x∧x<c1.heap.size):=fun x hx=>.inl hx
  have j0:∀ x∈(a0 :: []),x∈(a0 :: []):=fun x hx=>hx
  have k5:∀ x∈(a0 :: []),x∈b3 1:=fun x hx=>d1 1 x hx
  have r9:∀ x∈(a0 :: []),x∈b3 2:=fun x hx=>d1 2 x hx
  have g1:∀ x∈(a6 :: (a0 :: [])),x∈(a0 :: [])∨(a3.heap.size≤x∧x<c1.heap.size):=fun x hx=>by rcases List.mem_cons.1 hx with rfl|hx;exact .inr ⟨f8,g0⟩;exact k4 x hx
  have q9:∀ x∈(a0 :: []),x∈(a6 :: (a0 :: [])):=fun x hx=>List.mem_cons_of_mem _ (j0 x hx)
  have k6:∀ x∈(a6 :: (a0 :: [])),x∈b3 1:=fun x hx=>by rcases List.mem_cons.1 hx with rfl|hx;exact d9 2 1 _ (by decide) f8 g0 k3;exact k5 x hx
  have o5:=b2.adoptL e8 g1
  have h8:Mv (a0 :: []) a3 (a6 :: (a0 :: [])) c1:=Mv.adoptL e8 g1
  have g2:FM a0 a6:=by show a0≠a6;have:=a2.lt;omega
  obtain ⟨h9,o6,a8⟩:∃ v,e7 38=v∧AZ Enc.share c1 ((b3 1)++O) v ((BL (List.replicate (((l[0]!).data).length) (0:UInt8)) ((l[0]!).epoch) ((l[0]!).threshold) ((l[0]!).many) coins).1):=⟨_,rfl,c2 13 38 kR (by decide) kR kR⟩
  have:=a8.len_le
  have a8:=a8.mv (Mv.at_ k6)
  have a1:=a1.mv h8
  have a4:=a4.mv h8
  have a2:=a2.keep e8 (by simp)
  obtain ⟨F2,rfl⟩:=AM (F:=e7) [(2,vP (some b0)),(5,vI 0),(7,vP (some ⟨a0,0,none⟩)),(48,undef),(8,vP (some ⟨a6,0,none⟩)),(38,h9),(39,vI ((BL (List.replicate (((l[0]!).data).length) (0:UInt8)) ((l[0]!).epoch) ((l[0]!).threshold) ((l[0]!).many) coins).2))] ⟨b4 2 kR,b4 5 kR,b4 7 kR,b4 48 kR,o4,o6,c2 14 39 kR (by decide) kR kR,trivial⟩
  clear c2 b4 d1 k2 d9
  refine BX (CJ (h9) rfl rfl a8.oneCell s_32 (by repeat (constructor)) f9 oT o5 fun o7 i0 e9 o8 d2=>(?_))
  have a1:=a1.mv e9
  have a8:=a8.mv e9
  have a4:=a4.mv e9
  have a2:=a2.keep o8 (BF g2)
  refine AA (AF (vI ((BL (List.replicate (((l[0]!).data).length) (0:UInt8)) ((l[0]!).epoch) ((l[0]!).threshold) ((l[0]!).many) coins).2)) rfl (AH (AD (AI (AI (AC kR (AA (AG (vI ((BL (List.replicate (((l[0]!).data).length) (0:UInt8)) ((l[0]!).epoch) ((l[0]!).threshold) ((l[0]!).many) coins).2)) rfl (AA (CS .i64 ((BL (List.replicate (((l[0]!).data).length) (0:UInt8)) ((l[0]!).epoch) ((l[0]!).threshold) ((l[0]!).many) coins).2) (0:Int) rfl rfl (AH (AD (AN (((BL (List.replicate (((l[0]!).data).length) (0:UInt8)) ((l[0]!).epoch) ((l[0]!).threshold) ((l[0]!).many) coins).2) != (0:Int)) rfl rfl (fun d3=>?_) (fun d3=>?_))))))))))))))
  ·have s2:(BL (List.replicate (((l[0]!).data).length) (0:UInt8)) ((l[0]!).epoch) ((l[0]!).threshold) ((l[0]!).many) coins).2≠(0:Int):=by simpa using d3
   refine AI (AC kR (AA (AG (vI ((BL (List.replicate (((l[0]!).data).length) (0:UInt8)) ((l[0]!).epoch) ((l[0]!).threshold) ((l[0]!).many) coins).2)) rfl (AA (AF (nS) rfl (AA (AF (vI ((BL (List.replicate (((l[0]!).data).length) (0:UInt8)) ((l[0]!).epoch) ((l[0]!).threshold) ((l[0]!).many) coins).2)) rfl (AH (AD (AQ (AR (AX rfl (FG rfl rfl rfl rfl) (?_)))))))))))))
   have e:(CG l coins)=([],(BL (List.replicate (((l[0]!).data).length) (0:UInt8)) ((l[0]!).epoch) ((l[0]!).threshold) ((l[0]!).many) coins).2):=by exact IB (l:=l) (coins:=coins) (by unfold DZ GU;((repeat ((refine (if_neg ?_).trans ?_;omega)));rfl)) aS
   exact ⟨_,rfl,i0.keep,by rw [e];exact ⟨.slice none 0 0,rfl,AZ.nil _ _ _⟩⟩
  have k7:(BL (List.replicate (((l[0]!).data).length) (0:UInt8)) ((l[0]!).epoch) ((l[0]!).threshold) ((l[0]!).many) coins).2=(0:Int):=by simpa using d3
  have hz2:(GU l[0]! coins).2=0:=k7
  have hzl:=VR hz2
  refine AW (AD (AI (AC kR (AA (BW U32_ rfl rfl a1 fun v1 g3=>(?_))))))
  have:=g3.len_le
  refine AA (CB U32_ rfl g3 (?_))
  obtain ⟨o9,p0,i1,d4,k8⟩:=a2.publish (E:=Enc.share) (u:=(l[0]!)) ⟨_,rfl,a4⟩ i0 (by repeat (constructor))
  have q7:a6∈o9:=k8 a6 (by repeat (constructor)) (Ne.symm g2)
  have a1:=a1.mv i1
  have a8:=a8.mv i1
  have d2:=d2.keep (Keep.refl [] _) (by simp)
  obtain ⟨p1,i2,i3,k9,s3⟩:=d2.publish (E:=(Enc.slice Enc.share)) (u:=(BL (List.replicate (((l[0]!).data).length) (0:UInt8)) ((l[0]!).epoch) ((l[0]!).threshold) ((l[0]!).many) coins).1) ⟨_,rfl,a8⟩ p0 (by repeat (assumption))
  have a1:=a1.mv i3
  have d4:=d4.mv i3
  refine AA (CZ (first:=[]) (captured:=[.tmp 2, .tmp 7, .tmp 8]) [] [vP (some b0),vP (some ⟨a0,0,none⟩),vP (some ⟨a6,0,none⟩)] rfl rfl (AA (BD (vs:=[vI (l.length:Int),vN (.func 55) #[] #[vP (some b0),vP (some ⟨a0,0,none⟩),vP (some ⟨a6,0,none⟩)]]) SW (PG (O:=p1++O) (l.length:Int) 55 [vP (some b0),vP (some ⟨a0,0,none⟩),vP (some ⟨a6,0,none⟩)] (fun i_=>FJ l (l[0]!) ((BL (List.replicate (((l[0]!).data).length) (0:UInt8)) ((l[0]!).epoch) ((l[0]!).threshold) ((l[0]!).many) coins).1) i_) o7 enter_55 (fun w'_ O'_ kk_ hs_ hl_ i_  hc_=>SY (O:=O'_) i_ b0 l (⟨a0,0,none⟩) (l[0]!) (⟨a6,0,none⟩) ((BL (List.replicate (((l[0]!).data).length) (0:UInt8)) ((l[0]!).epoch) ((l[0]!).threshold) ((l[0]!).many) coins).1) w'_ (a1.on hs_ kk_) (d4.on hs_ kk_) (k9.on hs_ kk_) oM (show _<(GU l[0]! coins).1.length from by omega) (hv.da _ oM) (SV hz2 oM) (by have:=hv.ep i_ oM;have:=hv.ep0;omega) (by have:=hv.ep i_ oM;have:=hv.ep1;omega) oM hl_) oM i2.lt) rfl i2 fun c4 v2 p2 v3 v4 p3=>(?_))))
  obtain ⟨_,rfl,g4⟩:=p3
  have:=g4.len_le
  refine AA (AF (c4) rfl (AH (AD (AI (AC kR (AA (AG (c4) rfl (AA (AF (c4) rfl (AA (AF (vI 0) rfl (AH (AD (AQ (AX rfl (FG rfl rfl rfl rfl) (?_))))))))))))))))
  have e:(CG l coins)=((List.range ((l.length:Int)).toNat).map (fun i_=>FJ l (l[0]!) ((BL (List.replicate (((l[0]!).data).length) (0:UInt8)) ((l[0]!).epoch) ((l[0]!).threshold) ((l[0]!).many) coins).1) i_),(0:Int)):=by exact RT (l:=l) (coins:=coins) (by unfold DZ;((repeat ((refine (if_neg ?_).trans ?_;omega)));exact hz2)) rfl
  exact ⟨_,rfl,p2.keep,by rw [e];exact ⟨c4,rfl,g4.out⟩⟩
 intro cx_ hcx_
 match cx_,hcx_ with
 | 0,_=>
  intro c5 b6 b1 f0 d5 l0 e0 c3 b5
  obtain ⟨a7,p4,g5,l1,g6⟩:(PE a3 32 [nS]) (b1 2) (c5 8) b6:=c3 15 8 kR (by decide) kR kR
  have g7:=g6.lt
  have l2:∀ x∈(a0 :: []),x∈(a0 :: [])∨(a3.heap.size≤x∧x<b6.heap.size):=fun x hx=>.inl hx
  have j1:∀ x∈(a0 :: []),x∈(a0 :: []):=fun x hx=>hx
  have l3:∀ x∈(a0 :: []),x∈b1 1:=fun x hx=>d5 1 x hx
  have s4:∀ x∈(a0 :: []),x∈b1 2:=fun x hx=>d5 2 x hx
  have g8:∀ x∈(a7 :: (a0 :: [])),x∈(a0 :: [])∨(a3.heap.size≤x∧x<b6.heap.size):=fun x hx=>by rcases List.mem_cons.1 hx with rfl|hx;exact .inr ⟨g5,g7⟩;exact l2 x hx
  have r0:∀ x∈(a0 :: []),x∈(a7 :: (a0 :: [])):=fun x hx=>List.mem_cons_of_mem _ (j1 x hx)
  have l4:∀ x∈(a7 :: (a0 :: [])),x∈b1 1:=fun x hx=>by rcases List.mem_cons.1 hx with rfl|hx;exact e0 2 1 _ (by decide) g5 g7 l1;exact l3 x hx
  have p5:=b2.adoptL f0 g8
  have i4:Mv (a0 :: []) a3 (a7 :: (a0 :: [])) b6:=Mv.adoptL f0 g8
  have g9:FM a0 a7:=by show a0≠a7;have:=a2.lt;omega
  obtain ⟨p6,p7,l5⟩:(fun (vT:Value) (wT:World)=>∃ (xT0:Value),vT = .tuple #[xT0,vI ((BL (List.replicate (((l[0]!).data).length) (0:UInt8)) ((l[0]!).epoch) ((l[0]!).threshold) ((l[0]!).many) coins).2)]∧AZ Enc.share wT ((b1 1)++O) xT0 ((BL (List.replicate (((l[0]!).data).length) (0:UInt8)) ((l[0]!).epoch) ((l[0]!).threshold) ((l[0]!).many) coins).1)) (c5 25) b6:=c3 12 25 kR (by decide) kR kR
  have:=l5.len_le
  obtain ⟨i5,p8,a9⟩:∃ v,c5 38=v∧AZ Enc.share b6 ((b1 1)++O) v ((BL (List.replicate (((l[0]!).data).length) (0:UInt8)) ((l[0]!).epoch) ((l[0]!).threshold) ((l[0]!).many) coins).1):=⟨_,rfl,c3 13 38 kR (by decide) kR kR⟩
  have:=a9.len_le
  have a9:=a9.mv (Mv.at_ l4)
  have a1:=a1.mv i4
  have a4:=a4.mv i4
  have a2:=a2.keep f0 (by simp)
  obtain ⟨F2,rfl⟩:=AM (F:=c5) [(2,vP (some b0)),(5,vI 0),(7,vP (some ⟨a0,0,none⟩)),(48,undef),(8,vP (some ⟨a7,0,none⟩)),(25,vT #[p6,vI ((BL (List.replicate (((l[0]!).data).length) (0:UInt8)) ((l[0]!).epoch) ((l[0]!).threshold) ((l[0]!).many) coins).2)]),(38,i5)] ⟨b5 2 kR,b5 5 kR,b5 7 kR,b5 48 kR,p4,p7,p8,trivial⟩
  clear c3 b5 d5 l0 e0
  refine BX (CJ (i5) rfl rfl a9.oneCell s_32 (by repeat (constructor)) g6 oT p5 fun p9 i6 f1 q0 d6=>(?_))
  have a1:=a1.mv f1
  have a9:=a9.mv f1
  have a4:=a4.mv f1
  have a2:=a2.keep q0 (BF g9)
  refine AA (AP (vI ((BL (List.replicate (((l[0]!).data).length) (0:UInt8)) ((l[0]!).epoch) ((l[0]!).threshold) ((l[0]!).many) coins).2)) rfl rfl (AA (AF (vI ((BL (List.replicate (((l[0]!).data).length) (0:UInt8)) ((l[0]!).epoch) ((l[0]!).threshold) ((l[0]!).many) coins).2)) rfl (AH (AD (AI (AI (AC kR (AA (AG (vI ((BL (List.replicate (((l[0]!).data).length) (0:UInt8)) ((l[0]!).epoch) ((l[0]!).threshold) ((l[0]!).many) coins).2)) rfl (AA (CS .i64 ((BL (List.replicate (((l[0]!).data).length) (0:UInt8)) ((l[0]!).epoch) ((l[0]!).threshold) ((l[0]!).many) coins).2) (0:Int) rfl rfl (AH (AD (AN (((BL (List.replicate (((l[0]!).data).length) (0:UInt8)) ((l[0]!).epoch) ((l[0]!).threshold) ((l[0]!).many) coins).2) != (0:Int)) rfl rfl (fun d7=>?_) (fun d7=>?_))))))))))))))))
  ·have s5:(BL (List.replicate (((l[0]!).data).length) (0:UInt8)) ((l[0]!).epoch) ((l[0]!).threshold) ((l[0]!).many) coins).2≠(0:Int):=by simpa using d7
   refine AI (AC kR (AA (AG (vI ((BL (List.replicate (((l[0]!).data).length) (0:UInt8)) ((l[0]!).epoch) ((l[0]!).threshold) ((l[0]!).many) coins).2)) rfl (AA (AF (nS) rfl (AA (AF (vI ((BL (List.replicate (((l[0]!).data).length) (0:UInt8)) ((l[0]!).epoch) ((l[0]!).threshold) ((l[0]!).many) coins).2)) rfl (AH (AD (AQ (AR (AX rfl (FG rfl rfl rfl rfl) (?_)))))))))))))
   have e:(CG l coins)=([],(BL (List.replicate (((l[0]!).data).length) (0:UInt8)) ((l[0]!).epoch) ((l[0]!).threshold) ((l[0]!).many) coins).2):=by exact IB (l:=l) (coins:=coins) (by unfold DZ GU;((repeat ((refine (if_neg ?_).trans ?_;omega)));rfl)) aS
   exact ⟨_,rfl,i6.keep,by rw [e];exact ⟨.slice none 0 0,rfl,AZ.nil _ _ _⟩⟩
  have l6:(BL (List.replicate (((l[0]!).data).length) (0:UInt8)) ((l[0]!).epoch) ((l[0]!).threshold) ((l[0]!).many) coins).2=(0:Int):=by simpa using d7
  have hz2:(GU l[0]! coins).2=0:=l6
  have hzl:=VR hz2
  refine AW (AD (AI (AC kR (AA (BW U32_ rfl rfl a1 fun v5 h1=>(?_))))))
  have:=h1.len_le
  refine AA (CB U32_ rfl h1 (?_))
  obtain ⟨q1,q2,i7,d8,l7⟩:=a2.publish (E:=Enc.share) (u:=(l[0]!)) ⟨_,rfl,a4⟩ i6 (by repeat (constructor))
  have q8:a7∈q1:=l7 a7 (by repeat (constructor)) (Ne.symm g9)
  have a1:=a1.mv i7
  have a9:=a9.mv i7
  have d6:=d6.keep (Keep.refl [] _) (by simp)
  obtain ⟨q3,i8,i9,l8,s6⟩:=d6.publish (E:=(Enc.slice Enc.share)) (u:=(BL (List.replicate (((l[0]!).data).length) (0:UInt8)) ((l[0]!).epoch) ((l[0]!).threshold) ((l[0]!).many) coins).1) ⟨_,rfl,a9⟩ q2 (by repeat (assumption))
  have a1:=a1.mv i9
  have d8:=d8.mv i9
  refine AA (CZ (first:=[]) (captured:=[.tmp 2, .tmp 7, .tmp 8]) [] [vP (some b0),vP (some ⟨a0,0,none⟩),vP (some ⟨a7,0,none⟩)] rfl rfl (AA (BD (vs:=[vI (l.length:Int),vN (.func 55) #[] #[vP (some b0),vP (some ⟨a0,0,none⟩),vP (some ⟨a7,0,none⟩)]]) SW (PG (O:=q3++O) (l.length:Int) 55 [vP (some b0),vP (some ⟨a0,0,none⟩),vP (some ⟨a7,0,none⟩)] (fun i_=>FJ l (l[0]!) ((BL (List.replicate (((l[0]!).data).length) (0:UInt8)) ((l[0]!).epoch) ((l[0]!).threshold) ((l[0]!).many) coins).1) i_) p9 enter_55 (fun w'_ O'_ kk_ hs_ hl_ i_  hc_=>SY (O:=O'_) i_ b0 l (⟨a0,0,none⟩) (l[0]!) (⟨a7,0,none⟩) ((BL (List.replicate (((l[0]!).data).length) (0:UInt8)) ((l[0]!).epoch) ((l[0]!).threshold) ((l[0]!).many) coins).1) w'_ (a1.on hs_ kk_) (d8.on hs_ kk_) (l8.on hs_ kk_) oM (show _<(GU l[0]! coins).1.length from by omega) (hv.da _ oM) (SV hz2 oM) (by have:=hv.ep i_ oM;have:=hv.ep0;omega) (by have:=hv.ep i_ oM;have:=hv.ep1;omega) oM hl_) oM i8.lt) rfl i8 fun c6 v6 q4 v7 v8 q5=>(?_))))
  obtain ⟨_,rfl,h2⟩:=q5
  have:=h2.len_le
  refine AA (AF (c6) rfl (AH (AD (AI (AC kR (AA (AG (c6) rfl (AA (AF (c6) rfl (AA (AF (vI 0) rfl (AH (AD (AQ (AX rfl (FG rfl rfl rfl rfl) (?_))))))))))))))))
  have e:(CG l coins)=((List.range ((l.length:Int)).toNat).map (fun i_=>FJ l (l[0]!) ((BL (List.replicate (((l[0]!).data).length) (0:UInt8)) ((l[0]!).epoch) ((l[0]!).threshold) ((l[0]!).many) coins).1) i_),(0:Int)):=by exact RT (l:=l) (coins:=coins) (by unfold DZ;((repeat ((refine (if_neg ?_).trans ?_;omega)));exact hz2)) rfl
  exact ⟨_,rfl,q4.keep,by rw [e];exact ⟨c6,rfl,h2.out⟩⟩
open Go.Fw
def selB (mask:UInt8) (i:Nat):Bool:=decide (i<8) && (mask >>> UInt8.ofNat i &&& 1 == 1)
def JY (mask:UInt8) (n:Nat):List Nat:=(List.range n).filter (selB mask)
def AJ (l:List Share) (mask:UInt8) (n:Nat):List Share:=(JY mask n).map fun i=>l[i]!
theorem VD (mask:UInt8) (n:Nat):JY mask (n+1)=JY mask n++if selB mask n then [n] else []:=by
  unfold JY;rw [List.range_succ,List.filter_append];congr 1
  cases h:selB mask n <;> simp [List.filter,h]
theorem someM_hit {l:List Share} {mask:UInt8} {n:Nat} (h:n<8) (h2:mask >>> UInt8.ofNat n &&& 1=1):AJ l mask (n+1)=AJ l mask n++[l[n]!]:=by
  unfold AJ;rw [VD,if_pos (by simp [selB,h,h2])];simp
theorem someM_miss {l:List Share} {mask:UInt8} {n:Nat} (h:¬ (n<8∧mask >>> UInt8.ofNat n &&& 1=1)):AJ l mask (n+1)=AJ l mask n:=by
  unfold AJ;rw [VD,if_neg (by simp only [selB,Bool.and_eq_true,decide_eq_true_eq,beq_iff_eq];exact h)];simp
theorem selL_lt {mask:UInt8} {n j:Nat} (h:j<(JY mask n).length):(JY mask n)[j]! < n:=by
  rw [getElem!_pos _ j h]
  have:=List.getElem_mem h
  unfold JY at this
  exact List.mem_range.1 (List.mem_filter.1 this).1
theorem selL_inc {mask:UInt8} {n i j:Nat} (hij:i<j) (h:j<(JY mask n).length):(JY mask n)[i]! < (JY mask n)[j]!:=by
  rw [getElem!_pos _ j h,getElem!_pos _ i (by omega)]
  have:(JY mask n).Pairwise (· < ·):=List.Pairwise.filter _ List.pairwise_lt_range
  exact List.pairwise_iff_getElem.1 this i j _ _ hij
theorem IW (l:List Share) (mask:UInt8) (n:Nat):(AJ l mask n).length=(JY mask n).length:=by simp [AJ]
theorem someM_le (l:List Share) (mask:UInt8) (n:Nat):(AJ l mask n).length≤n:=by
  rw [IW];unfold JY;exact Nat.le_trans (List.length_filter_le _ _) (by simp)
theorem GM {l:List Share} {mask:UInt8} {n j:Nat} (h:j<(AJ l mask n).length):(AJ l mask n)[j]! = l[(JY mask n)[j]!]!:=by
  rw [IW] at h
  unfold AJ
  rw [getElem!_pos _ j (by simpa using h),getElem!_pos _ j h];simp
structure Num (ep t m:Int) (n:Nat):Prop where
  t1:1≤t
  tm:t≤m
  m8:m≤8
  n64:n≤64
  ep0:0≤ep
  ep1:ep≤1048576
structure On (P:Nat→List UInt8) (ep t m:Int) (n:Nat) (x:List Share):Prop where
  ep:∀ j,j<x.length→x[j]!.epoch=ep
  th:∀ j,j<x.length→x[j]!.threshold=t
  ma:∀ j,j<x.length→x[j]!.many=m
  da:∀ j,j<x.length→x[j]!.data.length=n
  ix:∀ j,j<x.length→1≤x[j]!.index∧x[j]!.index≤m
  inc:∀ i j,i<j→j<x.length→x[i]!.index<x[j]!.index
  val:∀ j,j<x.length→∀ p,p<n→x[j]!.data[p]! = EB (P p) (GN x[j]!.index)
theorem On.good {P:Nat→List UInt8} {ep t m:Int} {n:Nat} {x:List Share} (h:On P ep t m n x) (hn:Num ep t m n) (hx:0<x.length):Good x:=
  ⟨hx,by rw [h.th 0 hx];exact hn.t1,by rw [h.th 0 hx,h.ma 0 hx];exact hn.tm,by rw [h.ma 0 hx];exact hn.m8,by rw [h.da 0 hx];exact hn.n64,
   fun k hk=>by rw [h.th k hk,h.th 0 hx],fun k hk=>by rw [h.ma k hk,h.ma 0 hx],fun k hk=>by rw [h.da k hk,h.da 0 hx],fun k hk=>by rw [h.ma 0 hx];exact h.ix k hk,fun k hk=>h.inc k (k+1) (by omega) hk⟩
theorem On.vd {P:Nat→List UInt8} {ep t m:Int} {n:Nat} {x:List Share} (h:On P ep t m n x) (hn:Num ep t m n) (hx:0<x.length):Vd x:=
  ⟨h.good hn hx,fun k hk=>by rw [h.ep k hk,h.ep 0 hx],by rw [h.ep 0 hx];exact hn.ep0,by rw [h.ep 0 hx];exact hn.ep1⟩
theorem On.some {P:Nat→List UInt8} {ep t m:Int} {n:Nat} {l:List Share} (h:On P ep t m n l) (mask:UInt8):On P ep t m n (AJ l mask l.length):=by
  have hs:∀ j,j<(AJ l mask l.length).length→(JY mask l.length)[j]! < l.length:=fun j hj=>selL_lt (by rw [IW] at hj;exact hj)
  refine ⟨fun j hj=>?_,fun j hj=>?_,fun j hj=>?_,fun j hj=>?_,fun j hj=>?_,fun i j hij hj=>?_,fun j hj=>?_⟩
  · rw [GM hj];exact h.ep _ (hs j hj)
  · rw [GM hj];exact h.th _ (hs j hj)
  · rw [GM hj];exact h.ma _ (hs j hj)
  · rw [GM hj];exact h.da _ (hs j hj)
  · rw [GM hj];exact h.ix _ (hs j hj)
  · rw [GM hj,GM (by omega)];exact h.inc _ _ (selL_inc hij (by rw [IW] at hj;exact hj)) (hs j hj)
  · rw [GM hj];exact h.val _ (hs j hj)
theorem takeLen {α:Type} {l:List α} {n:Nat} (h:n≤l.length):(l.take n).length=n:=by rw [List.length_take];omega
theorem On.join {P:Nat→List UInt8} {ep t m:Int} {n:Nat} {x:List Share} (h:On P ep t m n x) (hn:Num ep t m n) (hx:t≤(x.length:Int)) (hd:∀ p,p<n→∀ i:Nat,t.toNat≤i→(P p)[i]! = 0) :
    CR x=((List.range n).map fun p=>EB (P p) 0,0):=by
  have ht1:=hn.t1
  have hpos:0<x.length:=by omega
  have hv:=h.vd hn hpos
  refine joinM_ok ((EI x).2 hv) (by rw [h.th 0 hpos];exact hx) ?_
  rw [h.th 0 hpos]
  have hl:(x.take t.toNat).length=t.toNat:=takeLen (by omega)
  unfold joinL
  rw [take0 (by omega),h.da 0 hpos]
  apply List.map_congr_left
  intro p hp
  have hp:p<n:=by simpa using hp
  have hm8:=hn.m8;have htm:=hn.tm
  have hxg:∀ i,i<t.toNat→(NE (x.take t.toNat))[i]! = GN x[i]!.index:=fun i hi=>by
    unfold NE;rw [EY _ _ _ (by rw [hl];exact hi),takeS hi]
  have hyg:∀ i,i<t.toNat→(ET (x.take t.toNat) p)[i]! = x[i]!.data[p]!:=fun i hi=>by
    unfold ET;rw [EY _ _ _ (by rw [hl];exact hi),takeS hi]
  have hnd:(NE (x.take t.toNat)).Nodup:=by
    rw [LX]
    intro i j hij hj he
    rw [IP,hl] at hj
    rw [hxg i (by omega),hxg j hj] at he
    have h1:=h.ix i (by omega);have h2:=h.ix j (by omega)
    have:=u8of_inj (by omega) (by omega) (by omega) (by omega) he
    have:=h.inc i j hij (by omega)
    omega
  have hw:FP (NE (x.take t.toNat)) (ET (x.take t.toNat) p)=false:=(RO _ _).2 ⟨by rw [IP,NW],hnd⟩
  rw [through_ok _ hw]
  refine KI _ _ ((MF hw).2.1.unique hnd (fun i hi=>hd p hp i (by rw [IP,hl] at hi;exact hi)) fun i hi=>?_) 0
  rw [IP,hl] at hi
  rw [hxg i hi,hyg i hi,h.val i (by omega) p hp]
theorem On.few {P:Nat→List UInt8} {ep t m:Int} {n:Nat} {x:List Share} (h:On P ep t m n x) (hn:Num ep t m n) (hpos:0<x.length) (hx:(x.length:Int)<t):CR x=([],80):=
  VJ ((EI x).2 (h.vd hn hpos)) (by rw [h.th 0 hpos];exact hx) rfl
theorem VL {secret:List UInt8} {ep t m:Int} {coins:List UInt8} (h:DQ secret ep t m coins=0):Num ep t m secret.length:=by
  have:=(FL _ _ _ _ _).1 h
  exact ⟨by omega,by omega,by omega,by omega,by omega,by omega⟩
def pol (secret coins:List UInt8) (t:Int) (p:Nat):List UInt8:=LP secret coins t p
theorem split_on {secret:List UInt8} {ep t m:Int} {coins:List UInt8} (h:DQ secret ep t m coins=0):On (pol secret coins t) ep t m secret.length (FW secret ep t m coins):=by
  have hn:=VL h
  have hg:∀ j,j<(FW secret ep t m coins).length→(FW secret ep t m coins)[j]! = EM secret (polysM secret coins t) ep t m j:=fun j hj=>JB (by rw [JA] at hj;exact hj)
  refine ⟨fun j hj=>?_,fun j hj=>?_,fun j hj=>?_,fun j hj=>?_,fun j hj=>?_,fun i j hij hj=>?_,fun j hj p hp=>?_⟩
  · rw [hg j hj];rfl
  · rw [hg j hj];rfl
  · rw [hg j hj];rfl
  · rw [hg j hj,IG]
  · rw [hg j hj];rw [JA] at hj;simp only [EM];omega
  · rw [hg j hj,hg i (by omega)];simp only [EM];omega
  · rw [hg j hj];simp only [EM];rw [EY _ _ _ hp,VI hp];rfl
theorem pol_len {secret:List UInt8} {t:Int} {coins:List UInt8} (ht:1≤t) (hc:(coins.length:Int)=(secret.length:Int)*(t - 1)) {p:Nat} (hp:p<secret.length):(pol secret coins t p).length=t.toNat:=by
  have hb:=polyB (m:=coins.length) hp ht hc
  unfold pol LP
  rw [List.length_cons,List.length_drop,List.length_take,Nat.min_eq_left hb,Nat.add_mul]
  omega
theorem pol_high {secret:List UInt8} {ep t m:Int} {coins:List UInt8} (h:DQ secret ep t m coins=0):∀ p,p<secret.length→∀ i:Nat,t.toNat≤i→(pol secret coins t p)[i]! = 0:=fun p hp i hi=>by
  have:=(FL _ _ _ _ _).1 h
  exact DH (by rw [pol_len (by omega) this.2.2.2.2.2.2 hp];exact hi)
theorem pol_at0 (secret coins:List UInt8) (t:Int) (p:Nat):EB (pol secret coins t p) 0=secret[p]!:=by
  unfold pol LP;rw [FU,IZ,UInt8.zero_xor]
theorem range_get (l:List UInt8):((List.range l.length).map fun p=>l[p]!)=l:=by
  apply OH (by simp)
  intro i
  by_cases hi:i<l.length
  · rw [EY _ _ _ hi]
  · rw [DH (by simp;omega),DH (by omega)]
theorem GT {l:List Share} {secret:List UInt8} {m:Nat} (hg:Good l) (h:1+l.length+m≤100):∀ p,(JN l secret m p).length=p*(l.length+m)
  | 0=>by simp [JN]
  | p+1=>by rw [JN,List.length_append,GT hg h p,List.length_drop,exp_len hg h,Nat.add_mul];omega
theorem VP {l:List Share} {secret:List UInt8} {m:Nat} (hg:Good l) (h:1+l.length+m≤100) {p:Nat}:∀ n,p≤n→(JN l secret m n).take (p*(l.length+m))=JN l secret m p
  | 0,hp=>by
                obtain rfl:p=0:=by omega
                simp [JN]
  | n+1,hp=>by
    by_cases hpn:p=n+1
    · subst hpn;rw [← GT (secret:=secret) hg h (n+1)];exact List.take_length
    · rw [JN,List.take_append_of_le_length (by rw [GT hg h];exact Nat.mul_le_mul_right _ (by omega))]
      exact VP hg h n (by omega)
theorem exp_pol {l:List Share} {secret:List UInt8} {m:Nat} {t:Int} (hg:Good l) (h:1+l.length+m≤100) (ht:t.toNat=1+l.length+m) {p:Nat} (hp:p<secret.length) :
    pol secret (JN l secret m secret.length) t p=(EA (HV l m) (LB l secret[p]! p m)).1:=by
  have hk:(t - 1).toNat=l.length+m:=by omega
  have hlen:=exp_len hg h secret[p]! p
  have hthr:=(MF (RQ hg h secret[p]! p)).2.1
  unfold pol LP
  rw [hk,VP hg h _ (by omega),JN,List.drop_append_of_le_length (by rw [GT hg h];exact Nat.le_refl _),List.drop_of_length_le (by rw [GT hg h];exact Nat.le_refl _),List.nil_append]
  have h0:=hthr.at_ 0 (by rw [IH];omega)
  rw [show (HV l m)[0]! = 0 from rfl,show (LB l secret[p]! p m)[0]! = secret[p]! from rfl] at h0
  generalize EA (HV l m) (LB l secret[p]! p m)=c at *
  obtain ⟨c,e⟩:=c
  cases c with
  | nil=>simp at hlen;omega
  | cons a c=>
    simp only [FU,IZ,UInt8.zero_xor] at h0
    simp [h0]
theorem exp_at {l:List Share} {b:UInt8} {m:Nat} (hg:Good l) (h:1+l.length+m≤100) (p:Nat) {j:Nat} (hj:j<l.length):EB (EA (HV l m) (LB l b p m)).1 (GN l[j]!.index)=l[j]!.data[p]!:=by
  have hthr:=(MF (RQ hg h b p)).2.1
  have:=hthr.at_ (j+1) (by rw [IH];omega)
  rw [TM (by omega),expY_get,if_neg (by omega),if_pos (by omega)] at this
  unfold expI at this
  rw [if_neg (by omega),if_pos (by omega)] at this
  simp only [Nat.add_sub_cancel] at this
  rw [this]
  unfold ET;rw [EY _ _ _ hj]
theorem VN {a b:Share} (h1:a.epoch=b.epoch) (h2:a.index=b.index) (h3:a.threshold=b.threshold) (h4:a.many=b.many) (h5:a.data=b.data):a=b:=by
  cases a;cases b;simp_all
def Full (m:Int) (l:List Share):Prop:=l.length=m.toNat∧∀ k,k<l.length→l[k]!.index=(k:Int)+1
theorem SS (secret:List UInt8) (ep t m:Int) (coins:List UInt8):Full m (FW secret ep t m coins):=
  ⟨JA _ _ _ _ _,fun k hk=>by rw [JB (by rw [JA] at hk;exact hk)];rfl⟩
theorem explain_all {P:Nat→List UInt8} {ep t m:Int} {n:Nat} {l:List Share} (h:On P ep t m n l) (hf:Full m l) (hn:Num ep t m n) (mask:UInt8) {other:List UInt8} (ho:other.length=n)
    (hpos:0<(AJ l mask l.length).length) (hx:((AJ l mask l.length).length:Int)<t) :
    (AV (AJ l mask l.length) other).2=0∧DQ other ep t m (AV (AJ l mask l.length) other).1=0∧
      AJ (FW other ep t m (AV (AJ l mask l.length) other).1) mask (FW other ep t m (AV (AJ l mask l.length) other).1).length=AJ l mask l.length:=by
  have hon:=h.some mask
  have hv:=hon.vd hn hpos
  have ht1:=hn.t1;have htm:=hn.tm;have hm8:=hn.m8
  rw [OC (x:=JN (AJ l mask l.length) other (t.toNat - 1 - (AJ l mask l.length).length) other.length) ((EI _).2 hv) (by rw [hon.th 0 hpos];exact hx) (by rw [hon.da 0 hpos,ho]) (by rw [hon.th 0 hpos])]
  generalize hxe:AJ l mask l.length=x at *
  have hmm:1+x.length+(t.toNat - 1 - x.length)≤100:=by omega
  have htt:t.toNat=1+x.length+(t.toNat - 1 - x.length):=by omega
  generalize t.toNat - 1 - x.length=q at *
  have hcl:=GT (secret:=other) hv.toGood hmm other.length
  have hb:DQ other ep t m (JN x other q other.length)=0:=by
    refine (FL _ _ _ _ _).2 ⟨by rw [ho];exact hn.n64,ht1,htm,hm8,hn.ep0,hn.ep1,?_⟩
    rw [hcl,show t - 1=((x.length+q:Nat):Int) by omega,Int.natCast_mul]
  refine ⟨rfl,hb,?_⟩
  have hl1:(FW other ep t m (JN x other q other.length)).length=l.length:=by rw [JA,hf.1]
  rw [hl1]
  have hlx:(AJ (FW other ep t m (JN x other q other.length)) mask l.length).length=x.length:=by rw [← hxe,IW,IW]
  refine ext_getS hlx fun j hj=>?_
  rw [hlx] at hj
  have hj2:j<(AJ l mask l.length).length:=by rw [hxe];exact hj
  have hsl:(JY mask l.length)[j]! < l.length:=selL_lt (by rw [IW] at hj2;exact hj2)
  have hxj:x[j]! = l[(JY mask l.length)[j]!]!:=by rw [← hxe,GM hj2]
  rw [GM (by rw [hlx];exact hj),JB (by rw [← hf.1];exact hsl)]
  refine VN (hon.ep j hj).symm ?_ (hon.th j hj).symm (hon.ma j hj).symm ?_
  · rw [hxj,hf.2 _ hsl];rfl
  · refine OH (by rw [IG,hon.da j hj,ho]) fun p=>?_
    by_cases hp:p<other.length
    · simp only [EM]
      rw [EY _ _ _ hp,VI hp]
      have hi:(((JY mask l.length)[j]!:Nat):Int)+1=x[j]!.index:=by rw [hxj,hf.2 _ hsl]
      rw [hi]
      have:=exp_pol (t:=t) hv.toGood hmm htt hp
      unfold pol at this
      rw [this,exp_at hv.toGood hmm p hj]
    · rw [DH (by rw [IG];omega),DH (by rw [hon.da j hj];omega)]
open Go.Fw
structure Spl (secret:List UInt8) (ep t m:Int) (l:List Share):Prop where
  num:Num ep t m secret.length
  full:Full m l
  ex:∃ P,On P ep t m secret.length l∧(∀ p,p<secret.length→∀ i:Nat,t.toNat≤i→(P p)[i]! = 0)∧∀ p,p<secret.length→EB (P p) 0=secret[p]!
theorem MJ {secret:List UInt8} {ep t m:Int} {coins:List UInt8} (h:(BL secret ep t m coins).2=0):Spl secret ep t m (BL secret ep t m coins).1:=by
  have hr:=GE h
  rw [hr.2]
  exact ⟨VL hr.1,SS _ _ _ _ _,pol secret coins t,split_on hr.1,pol_high hr.1,fun p _=>pol_at0 _ _ _ _⟩
theorem Spl.len {secret:List UInt8} {ep t m:Int} {l:List Share} (h:Spl secret ep t m l):(l.length:Int)=m:=by
  have:=h.num.tm;have:=h.num.t1;rw [h.full.1];omega
theorem Spl.join {secret:List UInt8} {ep t m:Int} {l:List Share} (h:Spl secret ep t m l) (mask:UInt8) (hx:t≤((AJ l mask l.length).length:Int)):CR (AJ l mask l.length)=(secret,0):=by
  obtain ⟨P,h1,h2,h3⟩:=h.ex
  rw [(h1.some mask).join h.num hx h2]
  congr 1
  refine Eq.trans (List.map_congr_left fun p hp=>h3 p (by simpa using hp)) (range_get secret)
theorem Spl.few {secret:List UInt8} {ep t m:Int} {l:List Share} (h:Spl secret ep t m l) (mask:UInt8) (hpos:0<(AJ l mask l.length).length) (hx:((AJ l mask l.length).length:Int)<t):CR (AJ l mask l.length)=([],80):=by
  obtain ⟨P,h1,_⟩:=h.ex
  exact (h1.some mask).few h.num hpos hx
theorem Spl.many {secret:List UInt8} {ep t m:Int} {l:List Share} (h:Spl secret ep t m l) (mask:UInt8) (other:List UInt8) (hpos:0<(AJ l mask l.length).length) (hx:t≤((AJ l mask l.length).length:Int)):AV (AJ l mask l.length) other=([],80):=by
  obtain ⟨P,h1,_⟩:=h.ex
  have h2:=h1.some mask
  exact LU ((EI _).2 (h2.vd h.num hpos)) (by rw [h2.th 0 hpos];exact hx) rfl
theorem Spl.explain {secret:List UInt8} {ep t m:Int} {l:List Share} (h:Spl secret ep t m l) (mask:UInt8) {other:List UInt8} (ho:other.length=secret.length) (hpos:0<(AJ l mask l.length).length) (hx:((AJ l mask l.length).length:Int)<t) :
    (AV (AJ l mask l.length) other).2=0∧(BL other ep t m (AV (AJ l mask l.length) other).1).2=0∧
      AJ (BL other ep t m (AV (AJ l mask l.length) other).1).1 mask (BL other ep t m (AV (AJ l mask l.length) other).1).1.length=AJ l mask l.length:=by
  obtain ⟨P,h1,_⟩:=h.ex
  have:=explain_all h1 h.full h.num mask ho hpos hx
  refine ⟨this.1,by rw [FF];exact this.2.1,?_⟩
  have hr:=GE (show (BL other ep t m (AV (AJ l mask l.length) other).1).2=0 by rw [FF];exact this.2.1)
  rw [hr.2]
  exact this.2.2
theorem Spl.da {secret:List UInt8} {ep t m:Int} {l:List Share} (h:Spl secret ep t m l) {i:Nat} (hi:i<l.length):l[i]!.data.length=secret.length:=by
  obtain ⟨P,h1,_⟩:=h.ex
  exact h1.da i hi
def padd (l m:List UInt8):List UInt8:=tab (max l.length m.length) fun i=>l[i]! ^^^ m[i]!
theorem TN (l m:List UInt8) (i:Nat):(padd l m)[i]! = l[i]! ^^^ m[i]!:=by
  unfold padd;rw [IC]
  split
  · rfl
  · rw [DH (by omega),DH (by omega)];rfl
theorem PS (l m:List UInt8) (x:UInt8):EB (padd l m) x=EB l x ^^^ EB m x:=PU _ _ _ (TN l m) x
def MB (l m:List Share) (n i:Nat):Share:=⟨l[i]!.epoch,l[i]!.index,l[i]!.threshold,l[i]!.many,tab n fun k=>l[i]!.data[k]! ^^^ m[i]!.data[k]!⟩
def sumL (l m:List Share) (n q:Nat):List Share:=(List.range q).map (MB l m n)
theorem LZ (l m:List Share) (n q:Nat):(sumL l m n q).length=q:=by simp [sumL]
theorem GY {l m:List Share} {n q i:Nat} (h:i<q):(sumL l m n q)[i]! = MB l m n i:=EY _ _ _ h
open Go.Fw
theorem Spl.epoch {secret:List UInt8} {ep t m:Int} {l:List Share} (h:Spl secret ep t m l) (mask:UInt8) {j:Nat} (hj:j<(AJ l mask l.length).length) :
    (AJ l mask l.length)[j]!.epoch=ep∧(AJ l mask l.length)[j]!.threshold=t∧(AJ l mask l.length)[j]!.many=m:=by
  obtain ⟨P,h1,_⟩:=h.ex
  have:=h1.some mask
  exact ⟨this.ep j hj,this.th j hj,this.ma j hj⟩
theorem NV {secret:List UInt8} {ep t m:Int} {l:List Share} (h:Spl secret ep t m l) (hep:ep<1048576) (coins:List UInt8) :
    DZ l coins=DQ (List.replicate secret.length 0) ep t m coins:=by
  obtain ⟨P,h1,_⟩:=h.ex
  have hl:=h.len
  have:=h.num.t1;have:=h.num.tm
  have hpos:0<l.length:=by omega
  have hv:=h1.vd h.num hpos
  unfold DZ
  rw [if_neg (by rw [(EI l).2 hv];simp),if_neg (by rw [h1.ma 0 hpos,hl];simp),if_neg (by rw [h1.ep 0 hpos];omega)]
  unfold GU
  rw [FF,h1.da 0 hpos,h1.ep 0 hpos,h1.th 0 hpos,h1.ma 0 hpos]
theorem JS (l:List Share) (coins:List UInt8):(CG l coins).2=DZ l coins:=by
  unfold CG;split
  · rename_i h;rw [h]
  · rfl
theorem refresh_iff {secret:List UInt8} {ep t m:Int} {l:List Share} (h:Spl secret ep t m l) (hep:ep<1048576) (coins:List UInt8) :
    (CG l coins).2=0↔(coins.length:Int)=(secret.length:Int)*(t - 1):=by
  rw [JS,NV h hep,FL,List.length_replicate]
  have:=h.num
  exact ⟨fun x=>x.2.2.2.2.2.2,fun x=>⟨this.n64,this.t1,this.tm,this.m8,this.ep0,this.ep1,x⟩⟩
theorem TV (n p:Nat):(List.replicate n (0:UInt8))[p]! = 0:=by
  by_cases h:p<n
  · rw [getElem!_pos _ p (by simpa using h)];simp
  · rw [DH (by simp;omega)]
theorem spl_refresh {secret:List UInt8} {ep t m:Int} {l:List Share} (h:Spl secret ep t m l) (hep:ep<1048576) {coins:List UInt8} (h0:(CG l coins).2=0):Spl secret (ep+1) t m (CG l coins).1:=by
  have hb:=h0
  rw [JS] at hb
  rw [show (CG l coins).1=GF l coins by unfold CG;rw [if_pos hb]]
  rw [NV h hep] at hb
  have hl:=h.len
  have hn:=h.num
  have:=hn.t1;have:=hn.tm
  have hpos:0<l.length:=by omega
  obtain ⟨P,h1,h2,h3⟩:=h.ex
  have hz:(GU l[0]! coins).1=FW (List.replicate secret.length 0) ep t m coins:=by
    unfold GU
    rw [h1.da 0 hpos,h1.ep 0 hpos,h1.th 0 hpos,h1.ma 0 hpos]
    exact (GE (by rw [FF];exact hb)).2
  have hzo:=split_on hb
  have hzf:=SS (List.replicate secret.length 0) ep t m coins
  have hgl:(GF l coins).length=l.length:=by simp [GF]
  have hg:∀ j,j<l.length→(GF l coins)[j]! = FJ l l[0]! (FW (List.replicate secret.length 0) ep t m coins) j:=fun j hj=>by
    unfold GF;rw [EY _ _ _ hj,hz]
  have hzl:(FW (List.replicate secret.length 0) ep t m coins).length=l.length:=by rw [hzf.1,h.full.1]
  refine ⟨⟨hn.t1,hn.tm,hn.m8,hn.n64,by have:=hn.ep0;omega,by omega⟩,⟨by rw [hgl,h.full.1],fun k hk=>by rw [hgl] at hk;rw [hg k hk];exact h.full.2 k hk⟩,fun p=>padd (P p) (pol (List.replicate secret.length 0) coins t p),?_,fun p hp i hi=>?_,fun p hp=>?_⟩
  · refine ⟨fun j hj=>?_,fun j hj=>?_,fun j hj=>?_,fun j hj=>?_,fun j hj=>?_,fun i j hij hj=>?_,fun j hj p hp=>?_⟩ <;> rw [hgl] at hj
    · rw [hg j hj];simp only [FJ];rw [h1.ep j hj]
    · rw [hg j hj];exact h1.th j hj
    · rw [hg j hj];exact h1.ma j hj
    · rw [hg j hj];simp only [FJ,NQ,List.length_map,List.length_range];exact h1.da 0 hpos
    · rw [hg j hj];exact h1.ix j hj
    · rw [hg j hj,hg i (by omega)];exact h1.inc i j hij hj
    · rw [hg j hj];simp only [FJ,NQ]
      rw [EY _ _ _ (by rw [h1.da 0 hpos];exact hp),PS,h1.val j hj p hp,hzo.val j (by omega) p (by simpa using hp),h.full.2 j hj,hzf.2 j (by omega)]
  · rw [TN,h2 p hp i hi,pol_high hb p (by simpa using hp) i hi];rfl
  · rw [PS,h3 p hp,pol_at0,TV];simp
open Go.Fw
section
variable {c:Circle}
end
section
variable {c:Circle} {day no g:Int}
end
def TE (c:Circle) (k:Nat):Bool:=decide (20<(c.recs[k]!.approved.length:Int)) || decide (20<(c.recs[k]!.vetoed.length:Int))
def NF (c:Circle):Bool:=FH (fun k=>if TE c k then some false else none) (decide ((c.guardians.length:Int)≤12) && decide ((c.recs.length:Int)≤20)) 0 (c.recs.length - 0)
open Go.Fw
theorem TT {α:Type} [Inhabited α] {l:List α} {i k:Nat} {x:α} (h:i<l.length):(l.set i x)[k]! = if k=i then x else l[k]!:=by
  by_cases hk:k<l.length
  · rw [getElem!_pos _ k (by simpa using hk),List.getElem_set,getElem!_pos l k hk]
    by_cases e:i=k
    · subst e;simp
    · rw [if_neg e,if_neg (fun h=>e h.symm)]
  · rw [if_neg (by omega),getElem!_neg _ k (by simpa using hk),getElem!_neg l k (by simpa using hk)]
def TG (c:Circle) (i:Nat) (r:Recovery):Circle:=⟨c.epoch,c.threshold,c.wait,c.guardians,c.recs.set i r⟩
theorem check_set {c:Circle} {i:Nat} {r:Recovery} (h:AS c=0) (hi:i<c.recs.length) (hno:r.no=c.recs[i]!.no) (ha:r.asked=c.recs[i]!.asked) (hr:ED r=true) (hs:r.state≠0∨c.recs[i]!.state=0):AS (TG c i r)=0:=by
  have h0:=(FT c).1 h
  refine (FT _).2 ⟨?_,fun k hk=>?_⟩
  · have e:DD (TG c i r)=DD c:=by unfold DD TG;simp only [List.length_set]
    rw [e];exact h0.1
  · have hk':k<c.recs.length:=by simpa [TG] using hk
    have hk0:=KP.1 (h0.2 k hk')
    have hask:EJ (TG c i r).recs k=EJ c.recs k:=by
      unfold EJ
      by_cases e:k=0
      · rw [if_pos e,if_pos e]
      · rw [if_neg e,if_neg e]
        show (c.recs.set i r)[k - 1]!.asked=_
        rw [TT hi]
        split
        · rename_i e2;rw [ha,e2]
        · rfl
    rw [KP,hask]
    show (c.recs.set i r)[k]!.no=_∧_
    have hl:(TG c i r).recs.length=c.recs.length:=by simp [TG]
    rw [hl]
    show (c.recs.set i r)[k]!.no=_∧CO (c.recs.set i r)[k]!.asked _=true∧ED (c.recs.set i r)[k]! = true∧((c.recs.set i r)[k]!.state≠0∨_)
    rw [TT hi]
    split
    · rename_i e
      subst e
      refine ⟨by rw [hno];exact hk0.1,by rw [ha];exact hk0.2.1,hr,?_⟩
      rcases hs with hs|hs
      · exact .inl hs
      · right;rcases hk0.2.2.2 with h1|h1
        · exact absurd hs h1
        · exact h1
    · exact hk0
section
variable {c:Circle} {no day:Int}
end
section
variable {l:List Int} {t w a day:Int} {k:Nat}
end
section
variable {l:List Int} {t w a day:Int} {k:Nat}
end
open Go.Fw
theorem RH (p:Nat→Bool):∀ (m i:Nat),(FH (fun k=>if p k then some (k:Int) else none) (-1) i m = -1∧∀ k,i≤k→k<i+m→p k=false)∨∃ k,i≤k∧k<i+m∧p k=true∧FH (fun k=>if p k then some (k:Int) else none) (-1) i m=(k:Int)∧∀ q,i≤q→q<k→p q=false
  | 0,i=>.inl ⟨rfl,fun k h1 h2=>by omega⟩
  | m+1,i=>by
    cases h:p i with
    | true=>exact .inr ⟨i,Nat.le_refl _,by omega,h,by simp [FH,h],fun q h1 h2=>by omega⟩
    | false=>
      have e:FH (fun k=>if p k then some (k:Int) else none) (-1) i (m+1)=FH (fun k=>if p k then some (k:Int) else none) (-1) (i+1) m:=by simp [FH,h]
      rw [e]
      rcases RH p m (i+1) with ⟨h1,h2⟩|⟨k,h1,h2,h3,h4,h5⟩
      · refine .inl ⟨h1,fun k hk hk2=>?_⟩
        by_cases e:k=i
        · rw [e];exact h
        · exact h2 k (by omega) (by omega)
      · refine .inr ⟨k,by omega,by omega,h3,h4,fun q hq hq2=>?_⟩
        by_cases e:q=i
        · rw [e];exact h
        · exact h5 q (by omega) hq2
def EX (l:List Share) (f:Share→Bool):Int:=FH (fun k=>if f l[k]! then some (k:Int) else none) (-1) 0 (l.length - 0)
theorem idxS_any (l:List Share) (f:Share→Bool):decide ((0:Int)≤EX l f)=l.any f:=by
  unfold EX
  rcases RH (fun k=>f l[k]!) (l.length - 0) 0 with ⟨h1,h2⟩|⟨k,h1,h2,h3,h4,_⟩
  · rw [h1]
    have:l.any f=false:=by
      rw [List.any_eq_false];intro x hx
      obtain ⟨i,hi,rfl⟩:=List.getElem_of_mem hx
      have:=h2 i (by omega) (by omega)
      rw [getElem!_pos l i hi] at this;simp [this]
    rw [this];rfl
  · rw [h4]
    have:l.any f=true:=List.any_eq_true.2 ⟨l[k]!,by rw [getElem!_pos l k (by omega)];exact List.getElem_mem _,h3⟩
    rw [this];simp
def FB (c:Circle) (s:Share):Bool:=(s.epoch != c.epoch || s.threshold != c.threshold) || (s.many != (c.guardians.length:Int))
def CC (c:Circle) (l:List Share):Int:=if BN l != 0 then BN l else if l.any (FB c) then 460 else 0
def AB (c:Circle) (secret coins:List UInt8):List Share × Int:=if AS c != 0 then ([],AS c) else BL secret c.epoch c.threshold (c.guardians.length:Int) coins
def AE (c:Circle) (l:List Share) (coins:List UInt8):Circle × List Share × Int:=
  if AS c != 0 then (DV,[],AS c) else if CC c l != 0 then (DV,[],CC c l) else if (CG l coins).2 != 0 then (DV,[],(CG l coins).2)
  else (⟨c.epoch+1,c.threshold,c.wait,c.guardians,c.recs⟩,(CG l coins).1,0)
def RI (c:Circle) (others:List Int) (t:Int):Circle:=⟨c.epoch+1,t,c.wait,others,c.recs⟩
def AU (c:Circle) (l:List Share) (others:List Int) (t:Int) (coins:List UInt8):Circle × List Share × Int:=
  if AS c != 0 then (DV,[],AS c) else if CC c l != 0 then (DV,[],CC c l) else if (CR l).2 != 0 then (DV,[],(CR l).2)
  else if (AB (RI c others t) (CR l).1 coins).2 != 0 then (DV,[],(AB (RI c others t) (CR l).1 coins).2)
  else (RI c others t,(AB (RI c others t) (CR l).1 coins).1,0)
def BQ (c:Circle) (no:Int) (l:List Share):List UInt8 × Int:=
  if AS c != 0 then ([],AS c) else if decide (no<0) || decide ((c.recs.length:Int)≤no) then ([],1)
  else if c.recs[no.toNat]!.state == 2 then ([],452) else if c.recs[no.toNat]!.state == 0 then ([],460) else if CC c l != 0 then ([],CC c l) else CR l
theorem circ_ep {c:Circle} (h:AS c=0):0≤c.epoch∧c.epoch≤1048576∧1≤(c.guardians.length:Int)∧(c.guardians.length:Int)≤8∧1≤c.threshold∧c.threshold≤(c.guardians.length:Int):=by
  have hh:=((FT c).1 h).1
  unfold DD at hh
  simp only [Bool.or_eq_false_iff,decide_eq_false_iff_not] at hh
  omega
section
variable {c:Circle} {l:List Share} {secret coins:List UInt8} {others:List Int} {t no:Int}
theorem deal_1 (h:AS c≠0):AB c secret coins=([],AS c):=if_pos (by simpa using h)
theorem TB (h:AS c=0):AB c secret coins=BL secret c.epoch c.threshold (c.guardians.length:Int) coins:=if_neg (by simpa using h)
theorem belong_1 (h:BN l≠0):CC c l=BN l:=if_pos (by simpa using h)
theorem belong_2 (h:BN l=0) (h2:l.any (FB c)=true):CC c l=460:=by unfold CC;rw [if_neg (by simpa using h),if_pos h2]
theorem belong_3 (h:BN l=0) (h2:l.any (FB c)=false):CC c l=0:=by unfold CC;rw [if_neg (by simpa using h),if_neg (by rw [h2];simp)]
theorem PR (h:AS c≠0):AE c l coins=(DV,[],AS c):=if_pos (by simpa using h)
theorem OK (h:AS c=0) (h2:CC c l≠0):AE c l coins=(DV,[],CC c l):=by unfold AE;rw [if_neg (by simpa using h),if_pos (by simpa using h2)]
theorem PZ (h:AS c=0) (h2:CC c l=0) (h3:(CG l coins).2≠0):AE c l coins=(DV,[],(CG l coins).2):=by unfold AE;rw [if_neg (by simpa using h),if_neg (by simpa using h2),if_pos (by simpa using h3)]
theorem OJ (h:AS c=0) (h2:CC c l=0) (h3:(CG l coins).2=0):AE c l coins=(⟨c.epoch+1,c.threshold,c.wait,c.guardians,c.recs⟩,(CG l coins).1,0):=by unfold AE;rw [if_neg (by simpa using h),if_neg (by simpa using h2),if_neg (by simpa using h3)]
theorem RN (h:AS c≠0):AU c l others t coins=(DV,[],AS c):=if_pos (by simpa using h)
theorem OD (h:AS c=0) (h2:CC c l≠0):AU c l others t coins=(DV,[],CC c l):=by unfold AU;rw [if_neg (by simpa using h),if_pos (by simpa using h2)]
theorem RB (h:AS c=0) (h2:CC c l=0) (h3:(CR l).2≠0):AU c l others t coins=(DV,[],(CR l).2):=by unfold AU;rw [if_neg (by simpa using h),if_neg (by simpa using h2),if_pos (by simpa using h3)]
theorem KH (h:AS c=0) (h2:CC c l=0) (h3:(CR l).2=0) (h4:(AB ⟨c.epoch+1,t,c.wait,others,c.recs⟩ (CR l).1 coins).2≠0):AU c l others t coins=(DV,[],(AB ⟨c.epoch+1,t,c.wait,others,c.recs⟩ (CR l).1 coins).2):=by
  unfold AU RI;rw [if_neg (by simpa using h),if_neg (by simpa using h2),if_neg (by simpa using h3),if_pos (by simpa using h4)]
theorem KE (h:AS c=0) (h2:CC c l=0) (h3:(CR l).2=0) (h4:(AB ⟨c.epoch+1,t,c.wait,others,c.recs⟩ (CR l).1 coins).2=0):AU c l others t coins=(⟨c.epoch+1,t,c.wait,others,c.recs⟩,(AB ⟨c.epoch+1,t,c.wait,others,c.recs⟩ (CR l).1 coins).1,0):=by
  unfold AU RI;rw [if_neg (by simpa using h),if_neg (by simpa using h2),if_neg (by simpa using h3),if_neg (by simpa using h4)]
theorem rest_1 (h:AS c≠0):BQ c no l=([],AS c):=if_pos (by simpa using h)
theorem rest_2 (h:AS c=0) (h2:no<0∨(c.recs.length:Int)≤no):BQ c no l=([],1):=by unfold BQ;rw [if_neg (by simpa using h),if_pos (by simp only [dbs];exact h2)]
section
variable (h:AS c=0) (h0:0≤no) (h1:no<(c.recs.length:Int))
include h h0 h1
theorem rest_3 (h2:c.recs[no.toNat]!.state=2):BQ c no l=([],452):=by unfold BQ;rw [if_neg (by simpa using h),if_neg (by simp only [dbs];omega),if_pos (by simpa using h2)]
theorem rest_4 (h3:c.recs[no.toNat]!.state=0):BQ c no l=([],460):=by unfold BQ;rw [if_neg (by simpa using h),if_neg (by simp only [dbs];omega),if_neg (by rw [h3];decide),if_pos (by simpa using h3)]
theorem rest_5 (h2:c.recs[no.toNat]!.state≠2) (h3:c.recs[no.toNat]!.state≠0) (h4:CC c l≠0):BQ c no l=([],CC c l):=by unfold BQ;rw [if_neg (by simpa using h),if_neg (by simp only [dbs];omega),if_neg (by simpa using h2),if_neg (by simpa using h3),if_pos (by simpa using h4)]
theorem rest_6 (h2:c.recs[no.toNat]!.state≠2) (h3:c.recs[no.toNat]!.state≠0) (h4:CC c l=0):BQ c no l=CR l:=by unfold BQ;rw [if_neg (by simpa using h),if_neg (by simp only [dbs];omega),if_neg (by simpa using h2),if_neg (by simpa using h3),if_neg (by simpa using h4)]
end
end
def xorM (a b:List UInt8):List UInt8:=tab a.length fun k=>a[k]! ^^^ b[k]!
def atS (l:List Share) (i:Int):Share:=l[(EX l fun o=>o.index == i).toNat]!
def mixS (s:List Share) (x:Share):Share:=⟨x.epoch,x.index,x.threshold,x.many,xorM x.data (atS s x.index).data⟩
def EN (b s:List Share) (k:Nat):List Share:=(b.take k).map (mixS s)
abbrev KU (f g:Share):Bool:=((f.threshold != g.threshold || f.many != g.many) || (f.data.length:Int) != (g.data.length:Int)) || (g.epoch != f.epoch+1)
abbrev CL (a:List Share) (secret:List UInt8):List Share:=(BL secret a[0]!.epoch a[0]!.threshold a[0]!.many (AV a secret).1).1
abbrev IA (a b:List Share) (secret:List UInt8):List UInt8 × Int:=AV (EN b (CL a secret) b.length) (List.replicate secret.length 0)
def AL (a b:List Share) (secret:List UInt8):List UInt8 × Int:=
  if BN a != 0 then ([],BN a) else if BN b != 0 then ([],BN b) else if KU a[0]! b[0]! then ([],460)
  else if (AV a secret).2 != 0 then ([],(AV a secret).2)
  else if (IA a b secret).2 != 0 then ([],(IA a b secret).2) else ((AV a secret).1++(IA a b secret).1,0)
open Go.Fw Go.RowKit
set_option maxHeartbeats 4000000 in
set_option maxRecDepth 100000 in
theorem c_idxS {O:List Nat} (l_v:Value) (l:List Share) (f_v:Nat) (f_caps:List Value) (f:Share→Bool) (w:World) (a0:AZ Enc.share w O l_v l) (a8:∀ (vs_:Array Value) (w:World),(callFunc f_v vs_).run Try.prog w = .ok (.enter f_v vs_) w) (b2:∀ (w':World) (O':List Nat),Keep [] w w'→(∀ b∈O',b∈O∨w.heap.size≤b)→(∀ b∈O',b<w'.heap.size)→∀ (x_cs:List Value) (x:Share),Enc.share.rd w' O' x_cs x→CD Try.prog f_v ([.agg x_cs.toArray]++f_caps) w' (fun v w2=>v = .bool (f x))) (hO:∀ b∈O,b<w.heap.size):CD Try.prog 96 [l_v, .func (.func f_v) #[] f_caps.toArray] w (fun v _=>v=vI (EX l f)):= by
 have b8:=a0.len_le
 have a0:AZ Enc.share w ([]++O) l_v l:=a0
 have s0:St w O w []:=St.start hO
 refine BK 19 Try.func96 rfl rfl oT (fun F0=>AI (AC kR (AA (AF (vI 0) rfl (AH (AD (AI (AI (AC kR (AA (AG (l_v) rfl (AA (CB U32_ rfl a0 (AA (AG (vI 0) rfl (AH (AD (BO (DJ (fun mI FI wI=>∃ (k:Nat) (B:List Nat),k≤l.length∧EX l f=FH (fun k=>if f l[k]! then some (k:Int) else none) (-1) k (l.length - k)∧mI=l.length - k∧(∃ F1,FI=GO F1 [(0,l_v),(1,vN (.func f_v) #[] f_caps.toArray),(7,vI (l.length:Int)),(8,vI ((k:Nat):Int)),(19,undef)])∧St w O wI B∧AZ Enc.share wI (B++O) (l_v) (l)) (l.length - (0)) ?_ ?_)))))))))))))))))))
 ·exact ⟨(0),[],oM,rfl,rfl,⟨_,BB _ ⟨rfl,rfl,rfl,(by rfl),rfl,trivial⟩⟩,s0,a0⟩
 intro c3 F b3 hI
 clear a0
 obtain ⟨k,b1,hr0_0,hr0_1,c4,⟨c5,rfl⟩,a3,a0⟩:=hI
 refine AI (AC kR (AA (DY .i64 ((k:Nat):Int) (l.length:Int) rfl rfl (AH (AD (AI (AN (decide (((k:Nat):Int)<(l.length:Int))) rfl rfl (fun a1=>?_) (fun a1=>?_))))))))
 ·have b4:((k:Nat):Int)<(l.length:Int):=by simpa using a1
  refine AW (AD (AI (BO (AI (AC kR (AA (AG (vI ((k:Nat):Int)) rfl (AA (AF (vI ((k:Nat):Int)) rfl (AH (AD (AI (AC kR (AA (AG (vN (.func f_v) #[] f_caps.toArray) rfl (AA (AG (l_v) rfl (AA (AG (vI ((k:Nat):Int)) rfl (AA (DF U32_ DC .i64 ((k:Nat):Int) k rfl rfl rfl a0 oM fun b9 a6=>(AA (CP U70_ rfl DC rfl a6 fun a4 a7=>(AA (QB [] f_caps [vA a4.toArray] a8 rfl (b2 b3 (b1++O) a3.keep (fun b hb=>(List.mem_append.1 hb).elim (fun h=>.inr (a3.new b h).1) .inl) a3.lt a4 (l[k]!) a7) rfl rfl a3 fun c0 c1 a5 a9 c2 b0=>(?_))))))))))))))))))))))))))
  obtain rfl:=b0
  have a0:=a0.mv a9
  refine AH (AD (AN (f (l[k]!)) rfl rfl (fun a2=>?_) (fun a2=>?_)))
  ·have b5:(f (l[k]!))=true:=by simpa using a2
   refine AI (AC kR (AA (AG (vI ((k:Nat):Int)) rfl (AA (AF (vI ((k:Nat):Int)) rfl (AH (AD (AQ (BY (AR (AR (BY (AR (AX rfl (CK rfl rfl rfl) (?_)))))))))))))))
   have e:(EX l f)=((k:Nat):Int):=by (rw [hr0_1];exact DN oM (by ((repeat ((refine (if_pos ?_).trans ?_;omega)));rfl)))
   exact ⟨_,rfl,a5.keep,by rw [e];exact rfl⟩
  have b6:(f (l[k]!))=false:=by simpa using a2
  refine AW (CI (AD (AC kR (AA (DE .i64 ((k:Nat):Int) (1:Int) (((k+1:Nat):Int)) rfl rfl (GR oM oM) (AA (AG (vI ((k+1:Nat):Int)) rfl (AH (AD (?_))))))))))
  exact ⟨_,oM,(k+1),b1,oM,(hr0_1.trans (GL oM (by ((repeat ((refine (if_neg ?_).trans ?_;solve|(simp only [dbs];(repeat (omega))))));rfl)))),rfl,⟨_,BB _ ⟨rfl,rfl,rfl,(by rfl),rfl,trivial⟩⟩,a5,a0⟩
 have b7:(l.length:Int)≤((k:Nat):Int):=by simpa using a1
 refine DI (CF (CF (CY (AD (AI (AC kR (AA (AF (vI (-1:Int)) rfl (AH (AD (AQ (AX rfl (CK rfl rfl rfl) (?_)))))))))))))
 have e:(EX l f)=(-1:Int):=by (rw [hr0_1];exact HJ oM)
 exact ⟨_,rfl,a3.keep,by rw [e];exact rfl⟩
set_option maxHeartbeats 4000000 in
set_option maxRecDepth 100000 in
theorem c_containsS {O:List Nat} (l_v:Value) (l:List Share) (f_v:Nat) (f_caps:List Value) (f:Share→Bool) (w:World) (a0:AZ Enc.share w O l_v l) (a1:∀ (vs_:Array Value) (w:World),(callFunc f_v vs_).run Try.prog w = .ok (.enter f_v vs_) w) (a4:∀ (w':World) (O':List Nat),Keep [] w w'→(∀ b∈O',b∈O∨w.heap.size≤b)→(∀ b∈O',b<w'.heap.size)→∀ (x_cs:List Value) (x:Share),Enc.share.rd w' O' x_cs x→CD Try.prog f_v ([.agg x_cs.toArray]++f_caps) w' (fun v w2=>v = .bool (f x))) (hO:∀ b∈O,b<w.heap.size):CD Try.prog 87 [l_v, .func (.func f_v) #[] f_caps.toArray] w (fun v _=>v = .bool (l.any f)):= by
 have a5:=a0.len_le
 have a0:AZ Enc.share w ([]++O) l_v l:=a0
 have s0:St w O w []:=St.start hO
 refine BK 9 Try.func87 rfl rfl oT (fun F0=>AI (AC kR (AA (AF (vO false) rfl (AH (AD (AI (AC kR (AA (AG (l_v) rfl (AA (AG (vN (.func f_v) #[] f_caps.toArray) rfl (AA (BD (vs:=[l_v,vN (.func f_v) #[] f_caps.toArray]) enter_96 (c_idxS (O:=[]++O) l_v l f_v f_caps f w a0 a1 (fun w'_ O'_ kk_ hs_ hl_=>a4 w'_ O'_ (s0.keep.trans kk_) (fun b hb=>(hs_ b hb).elim (fun h=>(List.mem_append.1 h).elim (fun h=>.inr (s0.new b h).1) .inl) (fun h=>.inr (Nat.le_trans s0.keep.size h))) hl_) s0.lt) rfl s0 fun a6 a7 a2 a8 a9 a3=>(?_)))))))))))))))
 obtain rfl:=a3
 refine AA (JK .i64 (EX l f) (0:Int) rfl rfl (AA (AF (vO (decide ((0:Int)≤EX l f))) rfl (AH (AD (AQ (AX rfl (CK rfl rfl rfl) (?_))))))))
 have e:(l.any f)=(decide ((0:Int)≤EX l f)):=by exact (idxS_any _ _).symm
 exact ⟨_,rfl,a2.keep,(by exact congrArg vO e.symm)⟩
set_option maxHeartbeats 4000000 in
set_option maxRecDepth 100000 in
theorem c_belong1 {O:List Nat} (x_cs:List Value) (x:Share) (c_a:Addr) (c:Circle) (w:World) (a6:Enc.share.rd w O x_cs x) (a0:PT Enc.circle w O (.pointer (some c_a)) c) (hO:∀ b∈O,b<w.heap.size):CD Try.prog 86 [.agg x_cs.toArray, .pointer (some c_a)] w (fun v _=>v = .bool (FB c x)):= by
 have a6:Enc.share.rd w ([]++O) x_cs x:=a6
 have a0:PT Enc.circle w ([]++O) (.pointer (some c_a)) c:=a0
 have s0:St w O w []:=St.start hO
 refine BK 24 Try.func86 rfl rfl oT (fun F0=>AI (AC kR (AA (DK (E:=Enc.share) (vA x_cs.toArray) (x_cs) x rfl rfl a6 s0 fun b8 b9 a2 b3 c0 a1=>(?_)))))
 have a0:=a0.mv b3
 refine AA (AF (vO false) rfl (AH (AD (AI (AC kR (AA (BI 0 HW (x.epoch) rfl a1 (fun _ _ _ h=>IF h) fun c1 a7=>(AA (CA U3_ rfl rfl a7 (AA (BI 0 LT (c.epoch) rfl a0 (fun _ _ _ h=>JG h) fun c2 a8=>(AA (CA U3_ rfl rfl a8 (AA (CS .i64 x.epoch c.epoch rfl rfl (AA (AG (vO (x.epoch != c.epoch)) rfl (?_))))))))))))))))))
 cases a3:(x.epoch != c.epoch)
 ·have b4:x.epoch=c.epoch:=by simpa using a3
  refine AY rfl (BI 2 JC (x.threshold) rfl a1 (fun _ _ _ h=>IM h) fun c3 a9=>(AY rfl (CA U3_ rfl rfl a9 (AY rfl (BI 1 LV (c.threshold) rfl a0 (fun _ _ _ h=>FN h) fun c4 b0=>(AY rfl (CA U3_ rfl rfl b0 (AY rfl (CS .i64 x.threshold c.threshold rfl rfl (AA (BR (vO (x.threshold != c.threshold)) rfl rfl (AA (AG (vO (x.threshold != c.threshold)) rfl (?_))))))))))))))
  cases a4:(x.threshold != c.threshold)
  ·have b5:x.threshold=c.threshold:=by simpa using a4
   refine AY rfl (BI 3 JE (x.many) rfl a1 (fun _ _ _ h=>MY h) fun c5 b1=>(AY rfl (CA U3_ rfl rfl b1 (AY rfl (BI 3 MZ (c.guardians) rfl a0 (fun _ _ _ h=>FO h) fun c6 b2=>(AY rfl (BW U22_ rfl rfl b2 fun c7 a5=>(?_))))))))
   have:=a5.len_le
   refine AY rfl (CB U22_ rfl a5 (AY rfl (CS .i64 x.many (c.guardians.length:Int) rfl rfl (AA (BR (vO (x.many != (c.guardians.length:Int))) rfl rfl (AA (AF (vO (x.many != (c.guardians.length:Int))) rfl (AH (AD (AQ (AX rfl (CK rfl rfl rfl) (?_))))))))))))
   have e:(FB c x)=(x.many != (c.guardians.length:Int)):=by simp [FB, *]
   exact ⟨_,rfl,a2.keep,(by exact congrArg vO e.symm)⟩
  have b6:x.threshold≠c.threshold:=by simpa using a4
  refine AO rfl (AO rfl (AO rfl (AO rfl (AO rfl (AO rfl (AA (BA (vO true) rfl rfl (AA (AF (vO true) rfl (AH (AD (AQ (AX rfl (CK rfl rfl rfl) (?_))))))))))))))
  have e:(FB c x)=true:=by simp [FB, *]
  exact ⟨_,rfl,a2.keep,(by exact congrArg vO e.symm)⟩
 have b7:x.epoch≠c.epoch:=by simpa using a3
 refine AO rfl (AO rfl (AO rfl (AO rfl (AO rfl (AA (BA (vO true) rfl rfl (AA (AG (vO true) rfl (AO rfl (AO rfl (AO rfl (AO rfl (AO rfl (AO rfl (AA (BA (vO true) rfl rfl (AA (AF (vO true) rfl (AH (AD (AQ (AX rfl (CK rfl rfl rfl) (?_)))))))))))))))))))))))
 have e:(FB c x)=true:=by simp [FB, *]
 exact ⟨_,rfl,a2.keep,(by exact congrArg vO e.symm)⟩
set_option maxHeartbeats 4000000 in
set_option maxRecDepth 100000 in
theorem OG {O:List Nat} (c_cs:List Value) (c:Circle) (w:World) (a2:Enc.circle.rd w O c_cs c) (hO:∀ b∈O,b<w.heap.size):CD Try.prog 33 [.agg c_cs.toArray] w (fun v _=>v=vI (AS c)):= by
 have a2:Enc.circle.rd w ([]++O) c_cs c:=a2
 have s0:St w O w []:=St.start hO
 refine BK 5 Try.func33 rfl rfl oT (fun F0=>AI (AC kR (AA (DK (E:=Enc.circle) (vA c_cs.toArray) (c_cs) c rfl rfl a2 s0 fun a8 a5 a1 a9 b0 a3=>(AA (AF (vI 0) rfl (AH (AD (AI (AC kR (AA (CP U28_ rfl BM rfl a3 fun a0 a4=>(AA (BD (vs:=[vA a0.toArray]) ME (OQ (O:=[]++O) a0 c a5 a4 a1.lt) rfl a1 fun b1 b2 a6 b3 b4 a7=>(?_)))))))))))))))
 obtain rfl:=a7
 refine AA (AF (vI (AS c)) rfl (AH (AD (AQ (AX rfl (CK rfl rfl rfl) (?_))))))
 exact ⟨_,rfl,a6.keep,rfl⟩
set_option maxHeartbeats 4000000 in
set_option maxRecDepth 100000 in
theorem SQ {O:List Nat} (c_cs:List Value) (c:Circle) (l_v:Value) (l:List Share) (w:World) (a9:Enc.circle.rd w O c_cs c) (a1:AZ Enc.share w O l_v l) (hO:∀ b∈O,b<w.heap.size):CD Try.prog 39 [.agg c_cs.toArray,l_v] w (fun v _=>v=vI (CC c l)):= by
 have a9:Enc.circle.rd w ([]++O) c_cs c:=a9
 have b9:=a1.len_le
 have a1:AZ Enc.share w ([]++O) l_v l:=a1
 have s0:St w O w []:=St.start hO
 refine BK 16 Try.func39 rfl rfl oT (fun F0=>AI (AC kR (AA (DK (E:=Enc.circle) (vA c_cs.toArray) (c_cs) c rfl rfl a9 s0 fun a0 b0 a6 b1 c0 a2=>(?_)))))
 have a1:=a1.mv b1
 refine AA (AF (vI 0) rfl (AH (AD (AI (AI (AC kR (AA (AG (l_v) rfl (AA (BD (vs:=[l_v]) MG (ML (O:=[]++O) l_v l b0 a1 a6.lt) rfl a6 fun c1 b2 a5 a7 c2 b3=>(?_)))))))))))
 obtain rfl:=b3
 have a1:=a1.mv a7
 have a2:=a2.mv a7
 refine AA (AF (vI (BN l)) rfl (AH (AD (AI (AC kR (AA (AG (vI (BN l)) rfl (AA (CS .i64 (BN l) (0:Int) rfl rfl (AH (AD (AN ((BN l) != (0:Int)) rfl rfl (fun a3=>?_) (fun a3=>?_)))))))))))))
 ·have b5:BN l≠(0:Int):=by simpa using a3
  refine AI (AC kR (AA (AG (vI (BN l)) rfl (AA (AF (vI (BN l)) rfl (AH (AD (AQ (AR (AX rfl (CK rfl rfl rfl) (?_)))))))))))
  have e:(CC c l)=(BN l):=by exact belong_1 aS
  exact ⟨_,rfl,a5.keep,by rw [e];exact rfl⟩
 have b6:BN l=(0:Int):=by simpa using a3
 refine AW (AD (AI (AC kR (AA (CZ (first:=[]) (captured:=[.tmp 2]) [] [vP (some a0)] rfl rfl (AA (AF (vN (.func 86) #[] #[vP (some a0)]) rfl (AH (AD (AI (AI (AC kR (AA (AG (l_v) rfl (AA (AG (vN (.func 86) #[] #[vP (some a0)]) rfl (AA (BD (vs:=[l_v,vN (.func 86) #[] #[vP (some a0)]]) enter_87 (c_containsS (O:=[]++O) l_v l 86 [vP (some a0)] (fun x_=>FB c x_) b2 a1 enter_86 (fun w'_ O'_ kk_ hs_ hl_ x__cs x_ hr_x_ =>c_belong1 (O:=O'_) x__cs x_ a0 c w'_ hr_x_ (a2.on hs_ kk_) hl_) a5.lt) rfl a5 fun c3 c4 a8 c5 c6 b4=>(?_)))))))))))))))))))
 obtain rfl:=b4
 refine AH (AD (AN (l.any (fun x_=>FB c x_)) rfl rfl (fun a4=>?_) (fun a4=>?_)))
 ·have b7:(l.any (fun x_=>FB c x_))=true:=by simpa using a4
  refine AI (AC kR (AA (AF (vI 460) rfl (AH (AD (AQ (AR (AX rfl (CK rfl rfl rfl) (?_)))))))))
  have e:(CC c l)=(460:Int):=by exact belong_2 aS aS
  exact ⟨_,rfl,a8.keep,by rw [e];exact rfl⟩
 have b8:(l.any (fun x_=>FB c x_))=false:=by simpa using a4
 refine AW (AD (AI (AC kR (AA (AF (vI 0) rfl (AH (AD (AQ (AX rfl (CK rfl rfl rfl) (?_))))))))))
 have e:(CC c l)=(0:Int):=by exact belong_3 aS aS
 exact ⟨_,rfl,a8.keep,by rw [e];exact rfl⟩
set_option maxHeartbeats 4000000 in
set_option maxRecDepth 100000 in
theorem RP {O:List Nat} (c_cs:List Value) (c:Circle) (secret_v:Value) (secret:List UInt8) (coins_v:Value) (coins:List UInt8) (w:World) (b2:Enc.circle.rd w O c_cs c) (a0:AZ Enc.u8 w O secret_v secret) (a1:AZ Enc.u8 w O coins_v coins) (hO:∀ b∈O,b<w.heap.size):CD Try.prog 11 [.agg c_cs.toArray,secret_v,coins_v] w (fun v w'=>∃ (x0:Value),v = .tuple #[x0,vI ((AB c secret coins).2)]∧AZ Enc.share w' (O) x0 ((AB c secret coins).1)):= by
 have b2:Enc.circle.rd w ([]++O) c_cs c:=b2
 have b7:=a0.len_le
 have a0:AZ Enc.u8 w ([]++O) secret_v secret:=a0
 have c7:=a1.len_le
 have a1:AZ Enc.u8 w ([]++O) coins_v coins:=a1
 have s0:St w O w []:=St.start hO
 refine BK 26 Try.func11 rfl rfl oT (fun F0=>AI (AC kR (AA (DK (E:=Enc.circle) (vA c_cs.toArray) (c_cs) c rfl rfl b2 s0 fun d0 b8 b0 b1 d1 a2=>(?_)))))
 have a0:=a0.mv b1
 have a1:=a1.mv b1
 refine AA (AF (nS) rfl (AA (AF (vI 0) rfl (AH (AD (AI (AI (AC kR (AA (CP U28_ rfl BM rfl a2 fun a7 b3=>(AA (BD (vs:=[vA a7.toArray]) QU (OG (O:=[]++O) a7 c b8 b3 b0.lt) rfl b0 fun d2 b9 a4 a5 d3 c0=>(?_)))))))))))))
 obtain rfl:=c0
 have a0:=a0.mv a5
 have a1:=a1.mv a5
 have a2:=a2.mv a5
 refine AA (AF (vI (AS c)) rfl (AH (AD (AI (AC kR (AA (AG (vI (AS c)) rfl (AA (CS .i64 (AS c) (0:Int) rfl rfl (AH (AD (AN ((AS c) != (0:Int)) rfl rfl (fun a3=>?_) (fun a3=>?_)))))))))))))
 ·have c8:AS c≠(0:Int):=by simpa using a3
  refine AI (AC kR (AA (AG (vI (AS c)) rfl (AA (AF (nS) rfl (AA (AF (vI (AS c)) rfl (AH (AD (AQ (AR (AX rfl (FG rfl rfl rfl rfl) (?_)))))))))))))
  have c1:((AB c secret coins).1)=([]):=by exact congrArg (fun p=>p.1) (show AB c secret coins=_ from deal_1 aS)
  have c2:((AB c secret coins).2)=(AS c):=by exact congrArg (fun p=>p.2) (show AB c secret coins=_ from deal_1 aS)
  exact ⟨_,rfl,a4.keep,by rw [c1,c2];exact ⟨.slice none 0 0,rfl,AZ.nil _ _ _⟩⟩
 have c9:AS c=(0:Int):=by simpa using a3
 refine AW (AD (AI (AC kR (AA (AG (secret_v) rfl (AA (BI 0 LT (c.epoch) rfl a2 (fun _ _ _ h=>JG h) fun d4 b4=>(AA (CA U3_ rfl rfl b4 (AA (BI 1 LV (c.threshold) rfl a2 (fun _ _ _ h=>FN h) fun d5 b5=>(AA (CA U3_ rfl rfl b5 (AA (BI 3 MZ (c.guardians) rfl a2 (fun _ _ _ h=>FO h) fun d6 b6=>(AA (BW U22_ rfl rfl b6 fun d7 a8=>(?_))))))))))))))))))
 have:=a8.len_le
 refine AA (CB U22_ rfl a8 (AA (AG (coins_v) rfl (AA (BD (vs:=[secret_v,vI c.epoch,vI c.threshold,vI (c.guardians.length:Int),coins_v]) TL (c_split (O:=[]++O) secret_v secret c.epoch c.threshold (c.guardians.length:Int) coins_v coins b9 a0 a1 a4.lt) rfl a4 fun d8 d9 c3 e0 e1 c4=>(?_))))))
 obtain ⟨a6,rfl,a9⟩:=c4
 have:=a9.len_le
 refine AA (AP (a6) rfl rfl (AA (AP (vI ((BL secret c.epoch c.threshold (c.guardians.length:Int) coins).2)) rfl rfl (AA (AF (a6) rfl (AA (AF (vI ((BL secret c.epoch c.threshold (c.guardians.length:Int) coins).2)) rfl (AH (AD (AQ (AX rfl (FG rfl rfl rfl rfl) (?_))))))))))))
 have c5:((AB c secret coins).1)=((BL secret c.epoch c.threshold (c.guardians.length:Int) coins).1):=by exact congrArg (fun p=>p.1) (show AB c secret coins=_ from TB aS)
 have c6:((AB c secret coins).2)=((BL secret c.epoch c.threshold (c.guardians.length:Int) coins).2):=by exact congrArg (fun p=>p.2) (show AB c secret coins=_ from TB aS)
 exact ⟨_,rfl,c3.keep,by rw [c5,c6];exact ⟨a6,rfl,a9.out⟩⟩
open Go.Fw Go.RowKit
set_option maxHeartbeats 4000000 in
set_option maxRecDepth 100000 in
theorem SN {O:List Nat} (c_cs:List Value) (c:Circle) (l_v:Value) (l:List Share) (coins_v:Value) (coins:List UInt8) (w:World) (c9:Enc.circle.rd w O c_cs c) (a6:AZ Enc.share w O l_v l) (a0:AZ Enc.u8 w O coins_v coins) (hO:∀ b∈O,b<w.heap.size):CD Try.prog 24 [.agg c_cs.toArray,l_v,coins_v] w (fun v w'=>∃ (x0:List Value) (x1:Value),v = .tuple #[.agg x0.toArray,x1,vI ((AE c l coins).2.2)]∧Enc.circle.rd w' (O) x0 ((AE c l coins).1)∧AZ Enc.share w' (O) x1 ((AE c l coins).2.1)):= by
 have c9:Enc.circle.rd w ([]++O) c_cs c:=c9
 have h5:=a6.len_le
 have a6:AZ Enc.share w ([]++O) l_v l:=a6
 have g8:=a0.len_le
 have a0:AZ Enc.u8 w ([]++O) coins_v coins:=a0
 have s0:St w O w []:=St.start hO
 refine BK 41 Try.func24 rfl rfl oT (fun F0=>AI (AC kR (AA (DK (E:=Enc.circle) (vA c_cs.toArray) (c_cs) c rfl rfl c9 s0 fun h6 h7 d8 c6 h8 a2=>(?_)))))
 have a6:=a6.mv c6
 have a0:=a0.mv c6
 refine AA (CU [vI 0,vI 0,vI 0,nS,nS] LC rfl d8 fun a7 d9 e0 c7 b4 h9 a1=>(?_))
 clear e0
 have a6:=a6.mv b4
 have a0:=a0.mv b4
 have a2:=a2.mv b4
 refine AA (AF (nS) rfl (AA (AF (vI 0) rfl (AH (AD (AI (AI (AC kR (AA (CP U28_ rfl BM rfl a2 fun c2 d0=>(AA (BD (vs:=[vA c2.toArray]) QU (OG (O:=(a7 :: [])++O) c2 c d9 d0 c7.lt) rfl c7 fun i0 e1 b5 b6 e2 e3=>(?_)))))))))))))
 obtain rfl:=e3
 have a6:=a6.mv b6
 have a0:=a0.mv b6
 have a2:=a2.mv b6
 have a1:=a1.keep e2 (by simp)
 refine AA (AF (vI (AS c)) rfl (AH (AD (AI (AC kR (AA (AG (vI (AS c)) rfl (AA (CS .i64 (AS c) (0:Int) rfl rfl (AH (AD (AN ((AS c) != (0:Int)) rfl rfl (fun b1=>?_) (fun b1=>?_)))))))))))))
 ·have g9:AS c≠(0:Int):=by simpa using b1
  refine AI (AC kR (AA (BP (vs:=[vI 0,vI 0,vI 0,nS,nS]) U28_ rfl BM rfl a1 rfl (AA (AG (vI (AS c)) rfl (BX (BG (vs:=[vI 0,vI 0,vI 0,nS,nS]) (.agg #[vI 0,vI 0,vI 0,nS,nS]) rfl rfl rfl BM (fun u hu=>by simp only [List.mem_cons,List.not_mem_nil,or_false] at hu;rcases hu with rfl|rfl|rfl|rfl|rfl <;> rfl) (by repeat (constructor)) a1 oT b5 fun i1 e4 i2 i3 d1=>(AA (AF (nS) rfl (AA (AF (vI (AS c)) rfl (AH (AD (AQ (AR (AX rfl (HK rfl (EE (vs:=[vI 0,vI 0,vI 0,nS,nS]) rfl U28_ rfl BM rfl d1 rfl) (DX rfl rfl) (DX rfl rfl)) (?_)))))))))))))))))
  have e5:((AE c l coins).1)=(⟨(0:Int),(0:Int),(0:Int),[],[]⟩:Circle):=by exact congrArg (fun p=>p.1) (show AE c l coins=_ from PR aS)
  have e6:((AE c l coins).2.1)=([]):=by exact congrArg (fun p=>p.2.1) (show AE c l coins=_ from PR aS)
  have e7:((AE c l coins).2.2)=(AS c):=by exact congrArg (fun p=>p.2.2) (show AE c l coins=_ from PR aS)
  exact ⟨_,rfl,e4.keep,by rw [e5,e6,e7];exact ⟨[vI 0,vI 0,vI 0,nS,nS], .slice none 0 0,rfl,Enc.out (B:=(a7 :: [])) ⟨.slice none 0 0, .slice none 0 0,rfl,(AZ.nil _ _ _),(AZ.nil _ _ _)⟩,AZ.nil _ _ _⟩⟩
 have d2:AS c=(0:Int):=by simpa using b1
 have hok:AS c=0:=d2
 have hepb:=circ_ep hok
 refine AW (AD (AI (AI (AC kR (AA (CP U28_ rfl BM rfl a2 fun c3 d3=>(AA (AG (l_v) rfl (AA (BD (vs:=[vA c3.toArray,l_v]) SZ (SQ (O:=(a7 :: [])++O) c3 c l_v l e1 d3 a6 b5.lt) rfl b5 fun i4 e8 b7 b8 e9 f0=>(?_)))))))))))
 obtain rfl:=f0
 have a6:=a6.mv b8
 have a0:=a0.mv b8
 have a2:=a2.mv b8
 have a1:=a1.keep e9 (by simp)
 refine AA (AF (vI (CC c l)) rfl (AH (AD (AI (AC kR (AA (AG (vI (CC c l)) rfl (AA (CS .i64 (CC c l) (0:Int) rfl rfl (AH (AD (AN ((CC c l) != (0:Int)) rfl rfl (fun b2=>?_) (fun b2=>?_)))))))))))))
 ·have h0:CC c l≠(0:Int):=by simpa using b2
  refine AI (AC kR (AA (BP (vs:=[vI 0,vI 0,vI 0,nS,nS]) U28_ rfl BM rfl a1 rfl (AA (AG (vI (CC c l)) rfl (BX (BG (vs:=[vI 0,vI 0,vI 0,nS,nS]) (.agg #[vI 0,vI 0,vI 0,nS,nS]) rfl rfl rfl BM (fun u hu=>by simp only [List.mem_cons,List.not_mem_nil,or_false] at hu;rcases hu with rfl|rfl|rfl|rfl|rfl <;> rfl) (by repeat (constructor)) a1 oT b7 fun i5 f1 i6 i7 d4=>(AA (AF (nS) rfl (AA (AF (vI (CC c l)) rfl (AH (AD (AQ (AR (AX rfl (HK rfl (EE (vs:=[vI 0,vI 0,vI 0,nS,nS]) rfl U28_ rfl BM rfl d4 rfl) (DX rfl rfl) (DX rfl rfl)) (?_)))))))))))))))))
  have f2:((AE c l coins).1)=(⟨(0:Int),(0:Int),(0:Int),[],[]⟩:Circle):=by exact congrArg (fun p=>p.1) (show AE c l coins=_ from OK aS aS)
  have f3:((AE c l coins).2.1)=([]):=by exact congrArg (fun p=>p.2.1) (show AE c l coins=_ from OK aS aS)
  have f4:((AE c l coins).2.2)=(CC c l):=by exact congrArg (fun p=>p.2.2) (show AE c l coins=_ from OK aS aS)
  exact ⟨_,rfl,f1.keep,by rw [f2,f3,f4];exact ⟨[vI 0,vI 0,vI 0,nS,nS], .slice none 0 0,rfl,Enc.out (B:=(a7 :: [])) ⟨.slice none 0 0, .slice none 0 0,rfl,(AZ.nil _ _ _),(AZ.nil _ _ _)⟩,AZ.nil _ _ _⟩⟩
 have h1:CC c l=(0:Int):=by simpa using b2
 refine AW (AD (AI (AC kR (AA (AG (l_v) rfl (AA (AG (coins_v) rfl (AA (BD (vs:=[l_v,coins_v]) enter_19 (c_refresh (O:=(a7 :: [])++O) l_v l coins_v coins e8 a6 a0 b7.lt) rfl b7 fun i8 i9 c8 f5 f6 f7=>(?_))))))))))
 obtain ⟨b0,rfl,a5⟩:=f7
 have:=a5.len_le
 have a2:=a2.mv f5
 have a1:=a1.keep f6 (by simp)
 refine AA (AG (vT #[b0,vI ((CG l coins).2)]) rfl (AA (AP (b0) rfl rfl (AA (AP (vI ((CG l coins).2)) rfl rfl (AA (AF (b0) rfl (AA (AF (vI ((CG l coins).2)) rfl (AH (AD (AI (AI (AC kR (AA (AG (vI ((CG l coins).2)) rfl (AA (CS .i64 ((CG l coins).2) (0:Int) rfl rfl (AH (AD (AN (((CG l coins).2) != (0:Int)) rfl rfl (fun b3=>?_) (fun b3=>?_))))))))))))))))))))))
 ·have h2:(CG l coins).2≠(0:Int):=by simpa using b3
  refine AI (AC kR (AA (BP (vs:=[vI 0,vI 0,vI 0,nS,nS]) U28_ rfl BM rfl a1 rfl (AA (AG (vI ((CG l coins).2)) rfl (BX (BG (vs:=[vI 0,vI 0,vI 0,nS,nS]) (.agg #[vI 0,vI 0,vI 0,nS,nS]) rfl rfl rfl BM (fun u hu=>by simp only [List.mem_cons,List.not_mem_nil,or_false] at hu;rcases hu with rfl|rfl|rfl|rfl|rfl <;> rfl) (by repeat (constructor)) a1 oT c8 fun j0 f8 j1 j2 d5=>(AA (AF (nS) rfl (AA (AF (vI ((CG l coins).2)) rfl (AH (AD (AQ (AR (AX rfl (HK rfl (EE (vs:=[vI 0,vI 0,vI 0,nS,nS]) rfl U28_ rfl BM rfl d5 rfl) (DX rfl rfl) (DX rfl rfl)) (?_)))))))))))))))))
  have f9:((AE c l coins).1)=(⟨(0:Int),(0:Int),(0:Int),[],[]⟩:Circle):=by exact congrArg (fun p=>p.1) (show AE c l coins=_ from PZ aS aS aS)
  have g0:((AE c l coins).2.1)=([]):=by exact congrArg (fun p=>p.2.1) (show AE c l coins=_ from PZ aS aS aS)
  have g1:((AE c l coins).2.2)=((CG l coins).2):=by exact congrArg (fun p=>p.2.2) (show AE c l coins=_ from PZ aS aS aS)
  exact ⟨_,rfl,f8.keep,by rw [f9,g0,g1];exact ⟨[vI 0,vI 0,vI 0,nS,nS], .slice none 0 0,rfl,Enc.out (B:=(a7 :: [])) ⟨.slice none 0 0, .slice none 0 0,rfl,(AZ.nil _ _ _),(AZ.nil _ _ _)⟩,AZ.nil _ _ _⟩⟩
 have h3:(CG l coins).2=(0:Int):=by simpa using b3
 refine AW (AD (AI (AC kR (AA (CP U28_ rfl BM rfl a2 fun h4 d6=>(?_))))))
 obtain ⟨a8,a9,rfl,a3,a4⟩:=d6
 have:=a3.len_le
 have:=a4.len_le
 refine BX (BG (vs:=[vI c.epoch,vI c.threshold,vI c.wait,a8,a9]) (.agg #[vI c.epoch,vI c.threshold,vI c.wait,a8,a9]) rfl rfl rfl BM (fun u hu=>by simp only [List.mem_cons,List.not_mem_nil,or_false] at hu;rcases hu with rfl|rfl|rfl|rfl|rfl <;> first|rfl|exact a3.oneCell|exact a4.oneCell) (by repeat (constructor)) a1 oT c8 fun j3 g2 b9 j4 c4=>(?_))
 have a5:=a5.mv b9
 have a3:=a3.mv b9
 have a4:=a4.mv b9
 refine AH (AD (AI (AC kR (AA (BC 0 LT rfl (AA (BH U3_ rfl (vI c.epoch) rfl c4 rfl (AA (DE .i64 c.epoch (1:Int) (c.epoch+(1:Int)) rfl rfl (GR oM oM) (AA (BC 0 LT rfl (BX (CJ (vI (c.epoch+(1:Int))) rfl rfl rfl NR (by repeat (constructor)) c4 oT g2 fun j5 g3 c0 j6 c5=>(?_))))))))))))))
 have a5:=a5.mv c0
 have a3:=a3.mv c0
 have a4:=a4.mv c0
 refine AH (AD (AI (AC kR (AA (BP (vs:=[vI (c.epoch+(1:Int)),vI c.threshold,vI c.wait,a8,a9]) U28_ rfl BM rfl c5 rfl (AA (AG (b0) rfl (BX (BG (vs:=[vI (c.epoch+(1:Int)),vI c.threshold,vI c.wait,a8,a9]) (.agg #[vI (c.epoch+(1:Int)),vI c.threshold,vI c.wait,a8,a9]) rfl rfl rfl BM (fun u hu=>by simp only [List.mem_cons,List.not_mem_nil,or_false] at hu;rcases hu with rfl|rfl|rfl|rfl|rfl <;> first|rfl|exact a3.oneCell|exact a4.oneCell) (by repeat (constructor)) c5 oT g3 fun j7 g4 c1 j8 d7=>(?_))))))))))
 have a5:=a5.mv c1
 have a3:=a3.mv c1
 have a4:=a4.mv c1
 refine AA (AF (b0) rfl (AA (AF (vI 0) rfl (AH (AD (AQ (AX rfl (HK rfl (EE (vs:=[vI (c.epoch+(1:Int)),vI c.threshold,vI c.wait,a8,a9]) rfl U28_ rfl BM rfl d7 rfl) (DX rfl rfl) (DX rfl rfl)) (?_))))))))
 have g5:((AE c l coins).1)=(⟨c.epoch+(1:Int),c.threshold,c.wait,c.guardians,c.recs⟩:Circle):=by exact congrArg (fun p=>p.1) (show AE c l coins=_ from OJ aS aS aS)
 have g6:((AE c l coins).2.1)=((CG l coins).1):=by exact congrArg (fun p=>p.2.1) (show AE c l coins=_ from OJ aS aS aS)
 have g7:((AE c l coins).2.2)=(0:Int):=by exact congrArg (fun p=>p.2.2) (show AE c l coins=_ from OJ aS aS aS)
 exact ⟨_,rfl,g4.keep,by rw [g5,g6,g7];exact ⟨[vI (c.epoch+(1:Int)),vI c.threshold,vI c.wait,a8,a9],b0,rfl,Enc.out (B:=(a7 :: [])) ⟨_,_,rfl,a3,a4⟩,a5.out⟩⟩
set_option maxHeartbeats 4000000 in
set_option maxRecDepth 100000 in
theorem c_rest {O:List Nat} (c_cs:List Value) (c:Circle) (no:Int) (l_v:Value) (l:List Share) (w:World) (b8:Enc.circle.rd w O c_cs c) (a2:AZ Enc.share w O l_v l) (hO:∀ b∈O,b<w.heap.size):CD Try.prog 14 [.agg c_cs.toArray,vI no,l_v] w (fun v w'=>∃ (x0:Value),v = .tuple #[x0,vI ((BQ c no l).2)]∧AZ Enc.u8 w' (O) x0 ((BQ c no l).1)):= by
 have b8:Enc.circle.rd w ([]++O) c_cs c:=b8
 have g0:=a2.len_le
 have a2:AZ Enc.share w ([]++O) l_v l:=a2
 have s0:St w O w []:=St.start hO
 refine BK 44 Try.func14 rfl rfl oT (fun F0=>AI (AC kR (AA (DK (E:=Enc.circle) (vA c_cs.toArray) (c_cs) c rfl rfl b8 s0 fun g1 c5 b6 c6 g2 a0=>(?_)))))
 have a2:=a2.mv c6
 refine AA (AF (nS) rfl (AA (AF (vI 0) rfl (AH (AD (AI (AI (AC kR (AA (CP U28_ rfl BM rfl a0 fun b0 b9=>(AA (BD (vs:=[vA b0.toArray]) QU (OG (O:=[]++O) b0 c c5 b9 b6.lt) rfl b6 fun g3 c7 a1 b7 g4 c8=>(?_)))))))))))))
 obtain rfl:=c8
 have a2:=a2.mv b7
 have a0:=a0.mv b7
 refine AA (AF (vI (AS c)) rfl (AH (AD (AI (AC kR (AA (AG (vI (AS c)) rfl (AA (CS .i64 (AS c) (0:Int) rfl rfl (AH (AD (AN ((AS c) != (0:Int)) rfl rfl (fun a3=>?_) (fun a3=>?_)))))))))))))
 ·have e8:AS c≠(0:Int):=by simpa using a3
  refine AI (AC kR (AA (AG (vI (AS c)) rfl (AA (AF (nS) rfl (AA (AF (vI (AS c)) rfl (AH (AD (AQ (AR (AX rfl (FG rfl rfl rfl rfl) (?_)))))))))))))
  have c9:((BQ c no l).1)=([]):=by exact congrArg (fun p=>p.1) (show BQ c no l=_ from rest_1 aS)
  have d0:((BQ c no l).2)=(AS c):=by exact congrArg (fun p=>p.2) (show BQ c no l=_ from rest_1 aS)
  exact ⟨_,rfl,a1.keep,by rw [c9,d0];exact ⟨.slice none 0 0,rfl,AZ.nil _ _ _⟩⟩
 have e9:AS c=(0:Int):=by simpa using a3
 refine AW (AD (AI (AI (AC kR (AA (AG (vI no) rfl (AA (DY .i64 no (0:Int) rfl rfl (AA (AG (vO (decide (no<(0:Int)))) rfl (?_)))))))))))
 cases b1:(decide (no<(0:Int)))
 ·have f0:(0:Int)≤no:=by simpa using b1
  refine AY rfl (AG (vI no) rfl (AY rfl (BI 4 DU (c.recs) rfl a0 (fun _ _ _ h=>CN h) fun g5 c0=>(AY rfl (BW U26_ rfl rfl c0 fun g6 b2=>(?_))))))
  have:=b2.len_le
  refine AY rfl (CB U26_ rfl b2 (AY rfl (JK .i64 no (c.recs.length:Int) rfl rfl (AA (BR (vO (decide ((c.recs.length:Int)≤no))) rfl rfl (AH (AD (AN (decide ((c.recs.length:Int)≤no)) rfl rfl (fun a4=>?_) (fun a4=>?_)))))))))
  ·have f1:(c.recs.length:Int)≤no:=by simpa using a4
   refine AI (AC kR (AA (AF (nS) rfl (AA (AF (vI 1) rfl (AH (AD (AQ (AR (AX rfl (FG rfl rfl rfl rfl) (?_)))))))))))
   have d1:((BQ c no l).1)=([]):=by exact congrArg (fun p=>p.1) (show BQ c no l=_ from rest_2 aS (.inr aS))
   have d2:((BQ c no l).2)=(1:Int):=by exact congrArg (fun p=>p.2) (show BQ c no l=_ from rest_2 aS (.inr aS))
   exact ⟨_,rfl,a1.keep,by rw [d1,d2];exact ⟨.slice none 0 0,rfl,AZ.nil _ _ _⟩⟩
  have f2:no<(c.recs.length:Int):=by simpa using a4
  refine AW (AD (AI (AI (AC kR (AA (BI 4 DU (c.recs) rfl a0 (fun _ _ _ h=>CN h) fun g7 c1=>(AA (BW U26_ rfl rfl c1 fun g8 b3=>(?_)))))))))
  have:=b3.len_le
  refine AA (AG (vI no) rfl (AA (DF U26_ GP .i64 no no.toNat rfl rfl oM b3 oM fun g9 c2=>(AA (BI 2 LR ((c.recs[no.toNat]!).state) rfl c2 (fun _ _ _ h=>HP h) fun h0 c3=>(AA (CA U3_ rfl rfl c3 (AH (AD (BO (AI (AC kR (AA (EV .i64 ((c.recs[no.toNat]!).state) (2:Int) rfl rfl (AA (AF (vO (((c.recs[no.toNat]!).state) == (2:Int))) rfl (AH (AD (AN (((c.recs[no.toNat]!).state) == (2:Int)) rfl rfl (fun a5=>?_) (fun a5=>?_))))))))))))))))))))
  ·have f3:(c.recs[no.toNat]!).state=(2:Int):=by simpa using a5
   refine AI (AC kR (AA (AF (nS) rfl (AA (AF (vI 452) rfl (AH (AD (AQ (BY (AR (AX rfl (FG rfl rfl rfl rfl) (?_))))))))))))
   have d3:((BQ c no l).1)=([]):=by exact congrArg (fun p=>p.1) (show BQ c no l=_ from rest_3 aS oM oM aS)
   have d4:((BQ c no l).2)=(452:Int):=by exact congrArg (fun p=>p.2) (show BQ c no l=_ from rest_3 aS oM oM aS)
   exact ⟨_,rfl,a1.keep,by rw [d3,d4];exact ⟨.slice none 0 0,rfl,AZ.nil _ _ _⟩⟩
  have f4:(c.recs[no.toNat]!).state≠(2:Int):=by simpa using a5
  refine AI (AC kR (AA (EV .i64 ((c.recs[no.toNat]!).state) (0:Int) rfl rfl (AA (AF (vO (((c.recs[no.toNat]!).state) == (0:Int))) rfl (AH (AD (AN (((c.recs[no.toNat]!).state) == (0:Int)) rfl rfl (fun a6=>?_) (fun a6=>?_)))))))))
  ·have f5:(c.recs[no.toNat]!).state=(0:Int):=by simpa using a6
   refine AI (AC kR (AA (AF (nS) rfl (AA (AF (vI 460) rfl (AH (AD (AQ (BY (AR (AX rfl (FG rfl rfl rfl rfl) (?_))))))))))))
   have d5:((BQ c no l).1)=([]):=by exact congrArg (fun p=>p.1) (show BQ c no l=_ from rest_4 aS oM oM aS)
   have d6:((BQ c no l).2)=(460:Int):=by exact congrArg (fun p=>p.2) (show BQ c no l=_ from rest_4 aS oM oM aS)
   exact ⟨_,rfl,a1.keep,by rw [d5,d6];exact ⟨.slice none 0 0,rfl,AZ.nil _ _ _⟩⟩
  have f6:(c.recs[no.toNat]!).state≠(0:Int):=by simpa using a6
  refine AW (CI (AD (AI (AI (AC kR (AA (CP U28_ rfl BM rfl a0 fun b4 c4=>(AA (AG (l_v) rfl (AA (BD (vs:=[vA b4.toArray,l_v]) SZ (SQ (O:=[]++O) b4 c l_v l c7 c4 a2 a1.lt) rfl a1 fun h1 d7 a8 d8 h2 d9=>(?_))))))))))))
  obtain rfl:=d9
  have a2:=a2.mv d8
  refine AA (AF (vI (CC c l)) rfl (AH (AD (AI (AC kR (AA (AG (vI (CC c l)) rfl (AA (CS .i64 (CC c l) (0:Int) rfl rfl (AH (AD (AN ((CC c l) != (0:Int)) rfl rfl (fun a7=>?_) (fun a7=>?_)))))))))))))
  ·have f7:CC c l≠(0:Int):=by simpa using a7
   refine AI (AC kR (AA (AG (vI (CC c l)) rfl (AA (AF (nS) rfl (AA (AF (vI (CC c l)) rfl (AH (AD (AQ (AR (AX rfl (FG rfl rfl rfl rfl) (?_)))))))))))))
   have e0:((BQ c no l).1)=([]):=by exact congrArg (fun p=>p.1) (show BQ c no l=_ from rest_5 aS oM oM aS aS aS)
   have e1:((BQ c no l).2)=(CC c l):=by exact congrArg (fun p=>p.2) (show BQ c no l=_ from rest_5 aS oM oM aS aS aS)
   exact ⟨_,rfl,a8.keep,by rw [e0,e1];exact ⟨.slice none 0 0,rfl,AZ.nil _ _ _⟩⟩
  have f8:CC c l=(0:Int):=by simpa using a7
  refine AW (AD (AI (AC kR (AA (AG (l_v) rfl (AA (BD (vs:=[l_v]) enter_30 (c_join (O:=[]++O) l_v l d7 a2 a8.lt) rfl a8 fun h3 h4 e2 h5 h6 e3=>(?_))))))))
  obtain ⟨a9,rfl,b5⟩:=e3
  have:=b5.len_le
  refine AA (AP (a9) rfl rfl (AA (AP (vI ((CR l).2)) rfl rfl (AA (AF (a9) rfl (AA (AF (vI ((CR l).2)) rfl (AH (AD (AQ (AX rfl (FG rfl rfl rfl rfl) (?_))))))))))))
  have e4:((BQ c no l).1)=((CR l).1):=by exact congrArg (fun p=>p.1) (show BQ c no l=_ from rest_6 aS oM oM aS aS aS)
  have e5:((BQ c no l).2)=((CR l).2):=by exact congrArg (fun p=>p.2) (show BQ c no l=_ from rest_6 aS oM oM aS aS aS)
  exact ⟨_,rfl,e2.keep,by rw [e4,e5];exact ⟨a9,rfl,b5.out⟩⟩
 have f9:no<(0:Int):=by simpa using b1
 refine AO rfl (AO rfl (AO rfl (AO rfl (AO rfl (AA (BA (vO true) rfl rfl (AH (AD (AN true rfl rfl (fun _=>AI (AC kR (AA (AF (nS) rfl (AA (AF (vI 1) rfl (AH (AD (AQ (AR (AX rfl (FG rfl rfl rfl rfl) (?_)))))))))))) (fun h=>by cases h))))))))))
 have e6:((BQ c no l).1)=([]):=by exact congrArg (fun p=>p.1) (show BQ c no l=_ from rest_2 aS (.inl aS))
 have e7:((BQ c no l).2)=(1:Int):=by exact congrArg (fun p=>p.2) (show BQ c no l=_ from rest_2 aS (.inl aS))
 exact ⟨_,rfl,a1.keep,by rw [e6,e7];exact ⟨.slice none 0 0,rfl,AZ.nil _ _ _⟩⟩
set_option maxHeartbeats 4000000 in
set_option maxRecDepth 100000 in
theorem c_replace {O:List Nat} (c_cs:List Value) (c:Circle) (l_v:Value) (l:List Share) (others_v:Value) (others:List Int) (t:Int) (coins_v:Value) (coins:List UInt8) (w:World) (h0:Enc.circle.rd w O c_cs c) (b5:AZ Enc.share w O l_v l) (a2:AZ Enc.int w O others_v others) (a0:AZ Enc.u8 w O coins_v coins) (hpre0:others.length≤1000000) (hO:∀ b∈O,b<w.heap.size):CD Try.prog 28 [.agg c_cs.toArray,l_v,others_v,vI t,coins_v] w (fun v w'=>∃ (x0:List Value) (x1:Value),v = .tuple #[.agg x0.toArray,x1,vI ((AU c l others t coins).2.2)]∧Enc.circle.rd w' (O) x0 ((AU c l others t coins).1)∧AZ Enc.share w' (O) x1 ((AU c l others t coins).2.1)):= by
 have h0:Enc.circle.rd w ([]++O) c_cs c:=h0
 have q7:=b5.len_le
 have b5:AZ Enc.share w ([]++O) l_v l:=b5
 have i8:=a2.len_le
 have a2:AZ Enc.int w ([]++O) others_v others:=a2
 have p2:=a0.len_le
 have a0:AZ Enc.u8 w ([]++O) coins_v coins:=a0
 have s0:St w O w []:=St.start hO
 refine BK 61 Try.func28 rfl rfl oT (fun F0=>AI (AC kR (AA (DK (E:=Enc.circle) (vA c_cs.toArray) (c_cs) c rfl rfl h0 s0 fun q8 q9 i9 e2 r0 a7=>(?_)))))
 have b5:=b5.mv e2
 have a2:=a2.mv e2
 have a0:=a0.mv e2
 refine AA (CU [vI 0,vI 0,vI 0,nS,nS] LC rfl i9 fun a5 j0 j1 f6 c1 r4 a6=>(?_))
 clear j1
 have b5:=b5.mv c1
 have a2:=a2.mv c1
 have a0:=a0.mv c1
 have a7:=a7.mv c1
 refine AA (AF (nS) rfl (AA (AF (vI 0) rfl (AH (AD (AI (AI (AC kR (AA (CP U28_ rfl BM rfl a7 fun f0 h1=>(AA (BD (vs:=[vA f0.toArray]) QU (OG (O:=(a5 :: [])++O) f0 c j0 h1 f6.lt) rfl f6 fun r5 j2 e3 c2 j3 j4=>(?_)))))))))))))
 obtain rfl:=j4
 have b5:=b5.mv c2
 have a2:=a2.mv c2
 have a0:=a0.mv c2
 have a7:=a7.mv c2
 have a6:=a6.keep j3 (by simp)
 refine AA (AF (vI (AS c)) rfl (AH (AD (AI (AC kR (AA (AG (vI (AS c)) rfl (AA (CS .i64 (AS c) (0:Int) rfl rfl (AH (AD (AN ((AS c) != (0:Int)) rfl rfl (fun d2=>?_) (fun d2=>?_)))))))))))))
 ·have p4:AS c≠(0:Int):=by simpa using d2
  refine AI (AC kR (AA (BP (vs:=[vI 0,vI 0,vI 0,nS,nS]) U28_ rfl BM rfl a6 rfl (AA (AG (vI (AS c)) rfl (BX (BG (vs:=[vI 0,vI 0,vI 0,nS,nS]) (.agg #[vI 0,vI 0,vI 0,nS,nS]) rfl rfl rfl BM (fun u hu=>by simp only [List.mem_cons,List.not_mem_nil,or_false] at hu;rcases hu with rfl|rfl|rfl|rfl|rfl <;> rfl) (by repeat (constructor)) a6 oT e3 fun r6 j5 r7 r8 h2=>(AA (AF (nS) rfl (AA (AF (vI (AS c)) rfl (AH (AD (AQ (AR (AX rfl (HK rfl (EE (vs:=[vI 0,vI 0,vI 0,nS,nS]) rfl U28_ rfl BM rfl h2 rfl) (DX rfl rfl) (DX rfl rfl)) (?_)))))))))))))))))
  have j6:((AU c l others t coins).1)=(⟨(0:Int),(0:Int),(0:Int),[],[]⟩:Circle):=by exact congrArg (fun p=>p.1) (show AU c l others t coins=_ from RN aS)
  have j7:((AU c l others t coins).2.1)=([]):=by exact congrArg (fun p=>p.2.1) (show AU c l others t coins=_ from RN aS)
  have j8:((AU c l others t coins).2.2)=(AS c):=by exact congrArg (fun p=>p.2.2) (show AU c l others t coins=_ from RN aS)
  exact ⟨_,rfl,j5.keep,by rw [j6,j7,j8];exact ⟨[vI 0,vI 0,vI 0,nS,nS], .slice none 0 0,rfl,Enc.out (B:=(a5 :: [])) ⟨.slice none 0 0, .slice none 0 0,rfl,(AZ.nil _ _ _),(AZ.nil _ _ _)⟩,AZ.nil _ _ _⟩⟩
 have h3:AS c=(0:Int):=by simpa using d2
 have hok:AS c=0:=h3
 have hepb:=circ_ep hok
 refine AW (AD (AI (AI (AC kR (AA (CP U28_ rfl BM rfl a7 fun f1 h4=>(AA (AG (l_v) rfl (AA (BD (vs:=[vA f1.toArray,l_v]) SZ (SQ (O:=(a5 :: [])++O) f1 c l_v l j2 h4 b5 e3.lt) rfl e3 fun r9 j9 e4 c3 k0 k1=>(?_)))))))))))
 obtain rfl:=k1
 have b5:=b5.mv c3
 have a2:=a2.mv c3
 have a0:=a0.mv c3
 have a7:=a7.mv c3
 have a6:=a6.keep k0 (by simp)
 refine AA (AF (vI (CC c l)) rfl (AH (AD (AI (AC kR (AA (AG (vI (CC c l)) rfl (AA (CS .i64 (CC c l) (0:Int) rfl rfl (AH (AD (AN ((CC c l) != (0:Int)) rfl rfl (fun d3=>?_) (fun d3=>?_)))))))))))))
 ·have p5:CC c l≠(0:Int):=by simpa using d3
  refine AI (AC kR (AA (BP (vs:=[vI 0,vI 0,vI 0,nS,nS]) U28_ rfl BM rfl a6 rfl (AA (AG (vI (CC c l)) rfl (BX (BG (vs:=[vI 0,vI 0,vI 0,nS,nS]) (.agg #[vI 0,vI 0,vI 0,nS,nS]) rfl rfl rfl BM (fun u hu=>by simp only [List.mem_cons,List.not_mem_nil,or_false] at hu;rcases hu with rfl|rfl|rfl|rfl|rfl <;> rfl) (by repeat (constructor)) a6 oT e4 fun s1 k2 s2 s3 h5=>(AA (AF (nS) rfl (AA (AF (vI (CC c l)) rfl (AH (AD (AQ (AR (AX rfl (HK rfl (EE (vs:=[vI 0,vI 0,vI 0,nS,nS]) rfl U28_ rfl BM rfl h5 rfl) (DX rfl rfl) (DX rfl rfl)) (?_)))))))))))))))))
  have k3:((AU c l others t coins).1)=(⟨(0:Int),(0:Int),(0:Int),[],[]⟩:Circle):=by exact congrArg (fun p=>p.1) (show AU c l others t coins=_ from OD aS aS)
  have k4:((AU c l others t coins).2.1)=([]):=by exact congrArg (fun p=>p.2.1) (show AU c l others t coins=_ from OD aS aS)
  have k5:((AU c l others t coins).2.2)=(CC c l):=by exact congrArg (fun p=>p.2.2) (show AU c l others t coins=_ from OD aS aS)
  exact ⟨_,rfl,k2.keep,by rw [k3,k4,k5];exact ⟨[vI 0,vI 0,vI 0,nS,nS], .slice none 0 0,rfl,Enc.out (B:=(a5 :: [])) ⟨.slice none 0 0, .slice none 0 0,rfl,(AZ.nil _ _ _),(AZ.nil _ _ _)⟩,AZ.nil _ _ _⟩⟩
 have p6:CC c l=(0:Int):=by simpa using d3
 refine AW (AD (AI (AC kR (AA (AG (l_v) rfl (AA (BD (vs:=[l_v]) enter_30 (c_join (O:=(a5 :: [])++O) l_v l j9 b5 e4.lt) rfl e4 fun s4 s5 f7 e5 k6 k7=>(?_))))))))
 obtain ⟨b3,rfl,a3⟩:=k7
 have:=a3.len_le
 have a2:=a2.mv e5
 have a0:=a0.mv e5
 have a7:=a7.mv e5
 have a6:=a6.keep k6 (by simp)
 refine AA (AG (vT #[b3,vI ((CR l).2)]) rfl (AA (AP (b3) rfl rfl (AA (AP (vI ((CR l).2)) rfl rfl (AA (AF (b3) rfl (AA (AF (vI ((CR l).2)) rfl (AH (AD (AI (AI (AC kR (AA (AG (vI ((CR l).2)) rfl (AA (CS .i64 ((CR l).2) (0:Int) rfl rfl (AH (AD (AN (((CR l).2) != (0:Int)) rfl rfl (fun d4=>?_) (fun d4=>?_))))))))))))))))))))))
 ·have p7:(CR l).2≠(0:Int):=by simpa using d4
  refine AI (AC kR (AA (BP (vs:=[vI 0,vI 0,vI 0,nS,nS]) U28_ rfl BM rfl a6 rfl (AA (AG (vI ((CR l).2)) rfl (BX (BG (vs:=[vI 0,vI 0,vI 0,nS,nS]) (.agg #[vI 0,vI 0,vI 0,nS,nS]) rfl rfl rfl BM (fun u hu=>by simp only [List.mem_cons,List.not_mem_nil,or_false] at hu;rcases hu with rfl|rfl|rfl|rfl|rfl <;> rfl) (by repeat (constructor)) a6 oT f7 fun s6 k8 s7 s8 h6=>(AA (AF (nS) rfl (AA (AF (vI ((CR l).2)) rfl (AH (AD (AQ (AR (AX rfl (HK rfl (EE (vs:=[vI 0,vI 0,vI 0,nS,nS]) rfl U28_ rfl BM rfl h6 rfl) (DX rfl rfl) (DX rfl rfl)) (?_)))))))))))))))))
  have k9:((AU c l others t coins).1)=(⟨(0:Int),(0:Int),(0:Int),[],[]⟩:Circle):=by exact congrArg (fun p=>p.1) (show AU c l others t coins=_ from RB aS aS aS)
  have l0:((AU c l others t coins).2.1)=([]):=by exact congrArg (fun p=>p.2.1) (show AU c l others t coins=_ from RB aS aS aS)
  have l1:((AU c l others t coins).2.2)=((CR l).2):=by exact congrArg (fun p=>p.2.2) (show AU c l others t coins=_ from RB aS aS aS)
  exact ⟨_,rfl,k8.keep,by rw [k9,l0,l1];exact ⟨[vI 0,vI 0,vI 0,nS,nS], .slice none 0 0,rfl,Enc.out (B:=(a5 :: [])) ⟨.slice none 0 0, .slice none 0 0,rfl,(AZ.nil _ _ _),(AZ.nil _ _ _)⟩,AZ.nil _ _ _⟩⟩
 have p8:(CR l).2=(0:Int):=by simpa using d4
 refine AW (AD (AI (AC kR (AA (CP U28_ rfl BM rfl a7 fun p9 h7=>(?_))))))
 obtain ⟨f8,a4,rfl,f2,a1⟩:=h7
 have:=f2.len_le
 have:=a1.len_le
 refine BX (BG (vs:=[vI c.epoch,vI c.threshold,vI c.wait,f8,a4]) (.agg #[vI c.epoch,vI c.threshold,vI c.wait,f8,a4]) rfl rfl rfl BM (fun u hu=>by simp only [List.mem_cons,List.not_mem_nil,or_false] at hu;rcases hu with rfl|rfl|rfl|rfl|rfl <;> first|rfl|exact f2.oneCell|exact a1.oneCell) (by repeat (constructor)) a6 oT f7 fun s9 l2 c4 t0 f3=>(?_))
 have a2:=a2.mv c4
 have a0:=a0.mv c4
 have a3:=a3.mv c4
 have a1:=a1.mv c4
 refine AH (AD (AI (AC kR (AA (BC 0 LT rfl (AA (BH U3_ rfl (vI c.epoch) rfl f3 rfl (AA (DE .i64 c.epoch (1:Int) (c.epoch+(1:Int)) rfl rfl (GR oM oM) (AA (BC 0 LT rfl (BX (CJ (vI (c.epoch+(1:Int))) rfl rfl rfl NR (by repeat (constructor)) f3 oT l2 fun l3 f9 c5 t2 b0=>(?_))))))))))))))
 have a2:=a2.mv c5
 have a0:=a0.mv c5
 have a3:=a3.mv c5
 have a1:=a1.mv c5
 refine AH (AD (AI (AC kR (AA (AG (others_v) rfl (AA (KW [others_v] _ UB rfl (CE 8 Try.func32 rfl rfl oT (fun t3=>AI (AC kR (AA (AF (nS) rfl (AH (AD (AI (AI (AC kR (AA (AG (others_v) rfl (AA (IX U22_ rfl rfl a2 fun d5 g7=>(AH (AD (AN (d5) rfl rfl (fun d6=>?_) (fun d6=>?_)))))))))))))))))) (fun _ _ h=>h))))))))
 ·have q0:d5=true:=by simpa using d6
  refine AI (AC kR (AA (AF (nS) rfl (AH (AD (AQ (AR (AX rfl (CK rfl rfl rfl) (?_)))))))))
  have g8:others=[]:=g7 aS
  have a8:AZ Enc.int l3 ((a5 :: [])++O) (.slice none 0 0) (others):=by rw [g8];exact AZ.nil _ _ _
  refine Exists.intro _ (And.intro rfl (AA (AG (vI t) rfl (AA (BC 3 MZ rfl (BX (CJ (.slice none 0 0) rfl rfl a8.oneCell s_22 (by repeat (constructor)) b0 oT f9 fun t4 l4 c6 t5 h8=>(?_))))))))
  have a0:=a0.mv c6
  have a3:=a3.mv c6
  have a1:=a1.mv c6
  have a8:=a8.mv c6
  refine AA (BC 1 LV rfl (BX (CJ (vI t) rfl rfl rfl NR (by repeat (constructor)) h8 oT l4 fun l5 g0 c7 t6 b6=>(?_))))
  have a0:=a0.mv c7
  have a3:=a3.mv c7
  have a1:=a1.mv c7
  have a8:=a8.mv c7
  refine AH (AD (AI (AC kR (AA (BP (vs:=[vI (c.epoch+(1:Int)),vI t,vI c.wait, .slice none 0 0,a4]) U28_ rfl BM rfl b6 rfl (AA (AG (b3) rfl (AA (AG (coins_v) rfl (AA (BD (vs:=[vA #[vI (c.epoch+(1:Int)),vI t,vI c.wait, .slice none 0 0,a4],b3,coins_v]) MM (RP (O:=(a5 :: [])++O) [vI (c.epoch+(1:Int)),vI t,vI c.wait, .slice none 0 0,a4] (⟨c.epoch+(1:Int),t,c.wait,others,c.recs⟩:Circle) b3 ((CR l).1) coins_v coins l5 ⟨_,_,rfl,a8,a1⟩ a3 a0 g0.lt) rfl g0 fun t7 t8 g1 g2 l6 l7=>(?_))))))))))))
  obtain ⟨b7,rfl,b9⟩:=l7
  have:=b9.len_le
  have a1:=a1.mv g2
  have a8:=a8.mv g2
  have b6:=b6.keep l6 (by simp)
  refine AA (AG (vT #[b7,vI ((AB (⟨c.epoch+(1:Int),t,c.wait,others,c.recs⟩:Circle) ((CR l).1) coins).2)]) rfl (AA (AP (b7) rfl rfl (AA (AP (vI ((AB (⟨c.epoch+(1:Int),t,c.wait,others,c.recs⟩:Circle) ((CR l).1) coins).2)) rfl rfl (AA (AF (b7) rfl (AA (AF (vI ((AB (⟨c.epoch+(1:Int),t,c.wait,others,c.recs⟩:Circle) ((CR l).1) coins).2)) rfl (AH (AD (AI (AI (AC kR (AA (AG (vI ((AB (⟨c.epoch+(1:Int),t,c.wait,others,c.recs⟩:Circle) ((CR l).1) coins).2)) rfl (AA (CS .i64 ((AB (⟨c.epoch+(1:Int),t,c.wait,others,c.recs⟩:Circle) ((CR l).1) coins).2) (0:Int) rfl rfl (AH (AD (AN (((AB (⟨c.epoch+(1:Int),t,c.wait,others,c.recs⟩:Circle) ((CR l).1) coins).2) != (0:Int)) rfl rfl (fun d7=>?_) (fun d7=>?_))))))))))))))))))))))
  ·have q1:(AB (⟨c.epoch+(1:Int),t,c.wait,others,c.recs⟩:Circle) ((CR l).1) coins).2≠(0:Int):=by simpa using d7
   refine AI (AC kR (AA (EC (l:=[]) RW LC rfl [] [vI 0,vI 0,vI 0,nS,nS] rfl rfl (AA (AG (vI ((AB (⟨c.epoch+(1:Int),t,c.wait,others,c.recs⟩:Circle) ((CR l).1) coins).2)) rfl (BX (BG (vs:=[vI 0,vI 0,vI 0,nS,nS]) (.agg #[vI 0,vI 0,vI 0,nS,nS]) rfl rfl rfl BM (fun u hu=>by simp only [List.mem_cons,List.not_mem_nil,or_false] at hu;rcases hu with rfl|rfl|rfl|rfl|rfl <;> rfl) (by repeat (constructor)) b6 oT g1 fun t9 l8 u0 u1 h9=>(AA (AF (nS) rfl (AA (AF (vI ((AB (⟨c.epoch+(1:Int),t,c.wait,others,c.recs⟩:Circle) ((CR l).1) coins).2)) rfl (AH (AD (AQ (AR (AX rfl (HK rfl (EE (vs:=[vI 0,vI 0,vI 0,nS,nS]) rfl U28_ rfl BM rfl h9 rfl) (DX rfl rfl) (DX rfl rfl)) (?_)))))))))))))))))
   have l9:((AU c l others t coins).1)=(⟨(0:Int),(0:Int),(0:Int),[],[]⟩:Circle):=by exact congrArg (fun p=>p.1) (show AU c l others t coins=_ from KH aS aS aS aS)
   have m0:((AU c l others t coins).2.1)=([]):=by exact congrArg (fun p=>p.2.1) (show AU c l others t coins=_ from KH aS aS aS aS)
   have m1:((AU c l others t coins).2.2)=((AB (⟨c.epoch+(1:Int),t,c.wait,others,c.recs⟩:Circle) ((CR l).1) coins).2):=by exact congrArg (fun p=>p.2.2) (show AU c l others t coins=_ from KH aS aS aS aS)
   exact ⟨_,rfl,l8.keep,by rw [l9,m0,m1];exact ⟨[vI 0,vI 0,vI 0,nS,nS], .slice none 0 0,rfl,Enc.out (B:=(a5 :: [])) ⟨.slice none 0 0, .slice none 0 0,rfl,(AZ.nil _ _ _),(AZ.nil _ _ _)⟩,AZ.nil _ _ _⟩⟩
  have q2:(AB (⟨c.epoch+(1:Int),t,c.wait,others,c.recs⟩:Circle) ((CR l).1) coins).2=(0:Int):=by simpa using d7
  refine AW (AD (AI (AC kR (AA (BP (vs:=[vI (c.epoch+(1:Int)),vI t,vI c.wait, .slice none 0 0,a4]) U28_ rfl BM rfl b6 rfl (AA (AG (b7) rfl (BX (BG (vs:=[vI (c.epoch+(1:Int)),vI t,vI c.wait, .slice none 0 0,a4]) (.agg #[vI (c.epoch+(1:Int)),vI t,vI c.wait, .slice none 0 0,a4]) rfl rfl rfl BM (fun u hu=>by simp only [List.mem_cons,List.not_mem_nil,or_false] at hu;rcases hu with rfl|rfl|rfl|rfl|rfl <;> first|rfl|exact a1.oneCell) (by repeat (constructor)) b6 oT g1 fun u2 m2 e6 u3 i0=>(?_))))))))))
  have b9:=b9.mv e6
  have a1:=a1.mv e6
  have a8:=a8.mv e6
  refine AA (AF (b7) rfl (AA (AF (vI 0) rfl (AH (AD (AQ (AX rfl (HK rfl (EE (vs:=[vI (c.epoch+(1:Int)),vI t,vI c.wait, .slice none 0 0,a4]) rfl U28_ rfl BM rfl i0 rfl) (DX rfl rfl) (DX rfl rfl)) (?_))))))))
  have m3:((AU c l others t coins).1)=(⟨c.epoch+(1:Int),t,c.wait,others,c.recs⟩:Circle):=by exact congrArg (fun p=>p.1) (show AU c l others t coins=_ from KE aS aS aS aS)
  have m4:((AU c l others t coins).2.1)=((AB (⟨c.epoch+(1:Int),t,c.wait,others,c.recs⟩:Circle) ((CR l).1) coins).1):=by exact congrArg (fun p=>p.2.1) (show AU c l others t coins=_ from KE aS aS aS aS)
  have m5:((AU c l others t coins).2.2)=(0:Int):=by exact congrArg (fun p=>p.2.2) (show AU c l others t coins=_ from KE aS aS aS aS)
  exact ⟨_,rfl,m2.keep,by rw [m3,m4,m5];exact ⟨[vI (c.epoch+(1:Int)),vI t,vI c.wait, .slice none 0 0,a4],b7,rfl,Enc.out (B:=(a5 :: [])) ⟨_,_,rfl,a8,a1⟩,b9.out⟩⟩
 have q3:d5=false:=by simpa using d6
 refine AW (AD (AI (AC kR (AA (II (E:=Enc.int) (xs:=[]) U22_ NR z_3 (by decide) [] [] [] rfl rfl rfl (Parts.nil _ _ _) oT f9 fun g3 m6 u4 m7 d8 m9 c8 n2 i1=>(?_))))))
 have f4:∀ b,g3.ownBlock=some b→b≠a5:=fun b hb=>by have:=b0.lt;rw [d8] at hb;cases hb;omega
 have i2:∀ b,g3.ownBlock=some b→b∈(m6 :: (a5 :: [])):=fun b hb=>by rw [d8] at hb;cases hb;simp
 clear m7 d8
 have a2:=a2.mv c8
 have a0:=a0.mv c8
 have a3:=a3.mv c8
 have a1:=a1.mv c8
 have b0:=b0.keep n2 (by simp)
 refine AA (AG (others_v) rfl (AA (DG (E:=Enc.int) (l:=[]) (m:=others) U22_ i_3 rfl (by decide) rfl rfl i1 a2 (fun _ hb=>.inl hb) i2 (by simp;omega) (by simp [maxLen];omega) m9 fun a9 u5 n3 q4 i3 g9 n4 e7 n5 b4=>(?_))))
 rw [List.nil_append] at b4
 have d9:∀ b,a9.ownBlock=some b→b≠a5:=fun b hb=>by rcases i3 with e1|e1 <;> rw [e1] at hb <;> first|(cases hb;have:=b0.lt;omega)|(exact f4 b hb)
 have f5:a5∈n3:=g9 a5 (by repeat (constructor))
 have a0:=a0.mv e7
 have a3:=a3.mv e7
 have a1:=a1.mv e7
 have b0:=b0.keep n5 (by simp only [Option.mem_toList];exact fun e=>absurd rfl (f4 _ e))
 refine AA (AF (a9) rfl (AH (AD (AQ (AX rfl (CK rfl rfl rfl) (Exists.intro _ (And.intro rfl (AA (AG (vI t) rfl (AA (BC 3 MZ rfl (BX (CJ (a9) rfl rfl b4.oneCell s_22 (by repeat (assumption)) b0 oT n4 fun u6 n6 c9 n7 i4=>(?_))))))))))))))
 have a0:=a0.mv c9
 have a3:=a3.mv c9
 have a1:=a1.mv c9
 have b4:=b4.mv c9 n7 (fun b hb=>BF (d9 b hb))
 refine AA (BC 1 LV rfl (BX (CJ (vI t) rfl rfl rfl NR (by repeat (assumption)) i4 oT n6 fun n9 o0 d0 o1 b1=>(?_))))
 have a0:=a0.mv d0
 have a3:=a3.mv d0
 have a1:=a1.mv d0
 have b4:=b4.mv d0 o1 (fun b hb=>BF (d9 b hb))
 refine AH (AD (AI (AC kR (AA (BP (vs:=[vI (c.epoch+(1:Int)),vI t,vI c.wait,a9,a4]) U28_ rfl BM rfl b1 rfl (AA (AG (b3) rfl (AA (AG (coins_v) rfl (?_))))))))))
 obtain ⟨d1,g4,e8,b2,i5⟩:=b4.publish o0
 have f5:a5∈d1:=i5 a5 (by repeat (assumption)) (fun e=>absurd rfl (d9 _ e))
 have p3:=b2.len_le
 have a0:=a0.mv e8
 have a3:=a3.mv e8
 have a1:=a1.mv e8
 have b1:=b1.keep (Keep.refl [] _) (by simp)
 refine AA (BD (vs:=[vA #[vI (c.epoch+(1:Int)),vI t,vI c.wait,a9,a4],b3,coins_v]) MM (RP (O:=d1++O) [vI (c.epoch+(1:Int)),vI t,vI c.wait,a9,a4] (⟨c.epoch+(1:Int),t,c.wait,others,c.recs⟩:Circle) b3 ((CR l).1) coins_v coins n9 ⟨_,_,rfl,b2,a1⟩ a3 a0 g4.lt) rfl g4 fun u7 u9 g5 g6 o2 o3=>(?_))
 obtain ⟨b8,rfl,c0⟩:=o3
 have:=c0.len_le
 have a1:=a1.mv g6
 have b2:=b2.mv g6
 have b1:=b1.keep o2 (by simp)
 refine AA (AG (vT #[b8,vI ((AB (⟨c.epoch+(1:Int),t,c.wait,others,c.recs⟩:Circle) ((CR l).1) coins).2)]) rfl (AA (AP (b8) rfl rfl (AA (AP (vI ((AB (⟨c.epoch+(1:Int),t,c.wait,others,c.recs⟩:Circle) ((CR l).1) coins).2)) rfl rfl (AA (AF (b8) rfl (AA (AF (vI ((AB (⟨c.epoch+(1:Int),t,c.wait,others,c.recs⟩:Circle) ((CR l).1) coins).2)) rfl (AH (AD (AI (AI (AC kR (AA (AG (vI ((AB (⟨c.epoch+(1:Int),t,c.wait,others,c.recs⟩:Circle) ((CR l).1) coins).2)) rfl (AA (CS .i64 ((AB (⟨c.epoch+(1:Int),t,c.wait,others,c.recs⟩:Circle) ((CR l).1) coins).2) (0:Int) rfl rfl (AH (AD (AN (((AB (⟨c.epoch+(1:Int),t,c.wait,others,c.recs⟩:Circle) ((CR l).1) coins).2) != (0:Int)) rfl rfl (fun e0=>?_) (fun e0=>?_))))))))))))))))))))))
 ·have q5:(AB (⟨c.epoch+(1:Int),t,c.wait,others,c.recs⟩:Circle) ((CR l).1) coins).2≠(0:Int):=by simpa using e0
  refine AI (AC kR (AA (EC (l:=[]) RW LC rfl [] [vI 0,vI 0,vI 0,nS,nS] rfl rfl (AA (AG (vI ((AB (⟨c.epoch+(1:Int),t,c.wait,others,c.recs⟩:Circle) ((CR l).1) coins).2)) rfl (BX (BG (vs:=[vI 0,vI 0,vI 0,nS,nS]) (.agg #[vI 0,vI 0,vI 0,nS,nS]) rfl rfl rfl BM (fun u hu=>by simp only [List.mem_cons,List.not_mem_nil,or_false] at hu;rcases hu with rfl|rfl|rfl|rfl|rfl <;> rfl) (by repeat (assumption)) b1 oT g5 fun v0 o4 v1 v2 i6=>(AA (AF (nS) rfl (AA (AF (vI ((AB (⟨c.epoch+(1:Int),t,c.wait,others,c.recs⟩:Circle) ((CR l).1) coins).2)) rfl (AH (AD (AQ (AR (AX rfl (HK rfl (EE (vs:=[vI 0,vI 0,vI 0,nS,nS]) rfl U28_ rfl BM rfl i6 rfl) (DX rfl rfl) (DX rfl rfl)) (?_)))))))))))))))))
  have o5:((AU c l others t coins).1)=(⟨(0:Int),(0:Int),(0:Int),[],[]⟩:Circle):=by exact congrArg (fun p=>p.1) (show AU c l others t coins=_ from KH aS aS aS aS)
  have o6:((AU c l others t coins).2.1)=([]):=by exact congrArg (fun p=>p.2.1) (show AU c l others t coins=_ from KH aS aS aS aS)
  have o7:((AU c l others t coins).2.2)=((AB (⟨c.epoch+(1:Int),t,c.wait,others,c.recs⟩:Circle) ((CR l).1) coins).2):=by exact congrArg (fun p=>p.2.2) (show AU c l others t coins=_ from KH aS aS aS aS)
  exact ⟨_,rfl,o4.keep,by rw [o5,o6,o7];exact ⟨[vI 0,vI 0,vI 0,nS,nS], .slice none 0 0,rfl,Enc.out (B:=d1) ⟨.slice none 0 0, .slice none 0 0,rfl,(AZ.nil _ _ _),(AZ.nil _ _ _)⟩,AZ.nil _ _ _⟩⟩
 have q6:(AB (⟨c.epoch+(1:Int),t,c.wait,others,c.recs⟩:Circle) ((CR l).1) coins).2=(0:Int):=by simpa using e0
 refine AW (AD (AI (AC kR (AA (BP (vs:=[vI (c.epoch+(1:Int)),vI t,vI c.wait,a9,a4]) U28_ rfl BM rfl b1 rfl (AA (AG (b8) rfl (BX (BG (vs:=[vI (c.epoch+(1:Int)),vI t,vI c.wait,a9,a4]) (.agg #[vI (c.epoch+(1:Int)),vI t,vI c.wait,a9,a4]) rfl rfl rfl BM (fun u hu=>by simp only [List.mem_cons,List.not_mem_nil,or_false] at hu;rcases hu with rfl|rfl|rfl|rfl|rfl <;> first|rfl|exact b2.oneCell|exact a1.oneCell) (by repeat (assumption)) b1 oT g5 fun v3 o8 e9 v4 i7=>(?_))))))))))
 have c0:=c0.mv e9
 have a1:=a1.mv e9
 have b2:=b2.mv e9
 refine AA (AF (b8) rfl (AA (AF (vI 0) rfl (AH (AD (AQ (AX rfl (HK rfl (EE (vs:=[vI (c.epoch+(1:Int)),vI t,vI c.wait,a9,a4]) rfl U28_ rfl BM rfl i7 rfl) (DX rfl rfl) (DX rfl rfl)) (?_))))))))
 have o9:((AU c l others t coins).1)=(⟨c.epoch+(1:Int),t,c.wait,others,c.recs⟩:Circle):=by exact congrArg (fun p=>p.1) (show AU c l others t coins=_ from KE aS aS aS aS)
 have p0:((AU c l others t coins).2.1)=((AB (⟨c.epoch+(1:Int),t,c.wait,others,c.recs⟩:Circle) ((CR l).1) coins).1):=by exact congrArg (fun p=>p.2.1) (show AU c l others t coins=_ from KE aS aS aS aS)
 have p1:((AU c l others t coins).2.2)=(0:Int):=by exact congrArg (fun p=>p.2.2) (show AU c l others t coins=_ from KE aS aS aS aS)
 exact ⟨_,rfl,o8.keep,by rw [o9,p0,p1];exact ⟨[vI (c.epoch+(1:Int)),vI t,vI c.wait,a9,a4],b8,rfl,Enc.out (B:=d1) ⟨_,_,rfl,b2,a1⟩,c0.out⟩⟩
open Go.Fw
theorem inc_pw {l:List Int}:HU l=true↔l.Pairwise (· < ·)∧∀ x∈l,0≤x∧x<4096:=by
  constructor
  · intro h
    refine ⟨List.pairwise_iff_getElem.2 fun i j hi hj hij=>?_,fun x hx=>?_⟩
    · have:=MR h i j hij hj
      rwa [getElem!_pos l i hi,getElem!_pos l j hj] at this
    · obtain ⟨i,hi,rfl⟩:=List.getElem_of_mem hx
      have:=QZ h i hi
      rwa [getElem!_pos l i hi] at this
  · rintro ⟨h1,h2⟩
    refine (SH l).2 fun k hk=>QT.2 ⟨?_,?_⟩
    · unfold JX
      rw [getElem!_pos l k hk]
      split
      · have:=(h2 _ (List.getElem_mem hk)).1;omega
      · have:=List.pairwise_iff_getElem.1 h1 (k - 1) k (by omega) hk (by omega)
        rwa [getElem!_pos l (k - 1) (by omega)]
    · rw [getElem!_pos l k hk];exact (h2 _ (List.getElem_mem hk)).2
theorem UK (a:Int) (l:List Int) (x:Int):PB (a :: l) x=if a<x then a :: PB l x else x :: a :: l:=by
  unfold PB tw
  by_cases h:a<x
  · simp [h]
  · simp [h]
theorem RM {x y:Int}:∀ {l:List Int},y∈PB l x↔y=x∨y∈l
  | []=>by simp [PB,tw]
  | a :: l=>by
    rw [UK]
    split
    · rw [List.mem_cons,RM,List.mem_cons]
      constructor
      · rintro (h|h|h)
        · exact .inr (.inl h)
        · exact .inl h
        · exact .inr (.inr h)
      · rintro (h|h|h)
        · exact .inr (.inl h)
        · exact .inl h
        · exact .inr (.inr h)
    · simp
theorem putIn_pw {x:Int}:∀ {l:List Int},l.Pairwise (· < ·)→x∉l→(PB l x).Pairwise (· < ·)
  | [],_,_=>by simp [PB,tw]
  | a :: l,h,hx=>by
    obtain ⟨h1,h2⟩:=List.pairwise_cons.1 h
    rw [UK]
    split
    · rename_i ha
      refine List.pairwise_cons.2 ⟨fun y hy=>?_,putIn_pw h2 (fun hm=>hx (List.mem_cons_of_mem _ hm))⟩
      rcases RM.1 hy with rfl|hy
      · exact ha
      · exact h1 y hy
    · rename_i ha
      have hne:x≠a:=fun e=>hx (by rw [e];exact List.mem_cons_self ..)
      refine List.pairwise_cons.2 ⟨fun y hy=>?_,h⟩
      rcases List.mem_cons.1 hy with rfl|hy
      · omega
      · have:=h1 y hy;omega
theorem bsF_cons (a:Int) (l:List Int) (x:Int):RY (a :: l) x=if a<x then RY l x else (a == x):=by
  unfold RY tw
  by_cases h:a<x
  · simp [h]
  · simp [h]
theorem bsF_iff {x:Int}:∀ {l:List Int},l.Pairwise (· < ·)→(RY l x=true↔x∈l)
  | [],_=>by simp [RY,tw]
  | a :: l,h=>by
    obtain ⟨h1,h2⟩:=List.pairwise_cons.1 h
    rw [bsF_cons]
    split
    · rename_i ha
      rw [bsF_iff h2,List.mem_cons]
      exact ⟨.inr,fun hm=>hm.resolve_left (fun e=>by omega)⟩
    · rename_i ha
      rw [List.mem_cons,beq_iff_eq]
      constructor
      · intro e;exact .inl e.symm
      · rintro (e|hm)
        · exact e.symm
        · have:=h1 x hm;omega
section
variable {c:Circle} {no:Int}
theorem guard_range (hok:AS c=0) {x:Int} (hx:c.guardians.contains x=true):0≤x∧x<4096:=by
  have hh:=((FT c).1 hok).1
  simp only [DD,dbs] at hh
  have hi:HU c.guardians=true:=by simp_all
  exact (inc_pw.1 hi).2 x (by simpa using hx)
end
open Go.Fw
theorem any_f {l:List Share} {f:Share→Bool}:l.any f=false↔∀ k,k<l.length→f l[k]! = false:=by
  rw [List.any_eq_false]
  constructor
  · intro h k hk
    have:=h l[k]! (by rw [getElem!_pos l k hk];exact List.getElem_mem _)
    simpa using this
  · intro h x hx
    obtain ⟨i,hi,rfl⟩:=List.getElem_of_mem hx
    have:=h i hi
    rw [getElem!_pos l i hi] at this;simp [this]
theorem foreign_f {c:Circle} {s:Share}:FB c s=false↔s.epoch=c.epoch∧s.threshold=c.threshold∧s.many=(c.guardians.length:Int):=by
  unfold FB;simp only [Bool.or_eq_false_iff,bne_eq_false_iff_eq];rw [and_assoc]
theorem On.belong {P:Nat→List UInt8} {c:Circle} {n:Nat} {x:List Share} (h:On P c.epoch c.threshold (c.guardians.length:Int) n x) (hn:Num c.epoch c.threshold (c.guardians.length:Int) n) (hx:0<x.length):CC c x=0:=
  belong_3 ((EI x).2 (h.vd hn hx)) (any_f.2 fun k hk=>foreign_f.2 ⟨h.ep k hk,h.th k hk,h.ma k hk⟩)
theorem sel255:∀ n,n≤8→JY 255 n=List.range n:=by
  intro n h
  have:∀ n:Fin 9,JY 255 n.1=List.range n.1:=by decide +kernel
  exact this ⟨n,by omega⟩
theorem range_getS (l:List Share):((List.range l.length).map fun p=>l[p]!)=l:=by
  apply ext_getS (by simp)
  intro i hi
  rw [EY _ _ _ (by simpa using hi)]
theorem some255 {l:List Share} (h:l.length≤8):AJ l 255 l.length=l:=by
  unfold AJ;rw [sel255 _ h];exact range_getS l
theorem Spl.len8 {secret:List UInt8} {ep t m:Int} {l:List Share} (h:Spl secret ep t m l):l.length≤8:=by
  have:=h.len;have:=h.num.m8;omega
theorem Spl.pos {secret:List UInt8} {ep t m:Int} {l:List Share} (h:Spl secret ep t m l):0<l.length:=by
  have:=h.len;have:=h.num.t1;have:=h.num.tm;omega
theorem Spl.all {secret:List UInt8} {ep t m:Int} {l:List Share} (h:Spl secret ep t m l):CR l=(secret,0):=by
  have:=h.join 255 (by rw [some255 h.len8,h.len];exact h.num.tm)
  rwa [some255 h.len8] at this
theorem Spl.bel {secret:List UInt8} {c:Circle} {l:List Share} (h:Spl secret c.epoch c.threshold (c.guardians.length:Int) l) (mask:UInt8) (hp:0<(AJ l mask l.length).length):CC c (AJ l mask l.length)=0:=by
  obtain ⟨P,h1,_⟩:=h.ex
  exact (h1.some mask).belong h.num hp
theorem Spl.belA {secret:List UInt8} {c:Circle} {l:List Share} (h:Spl secret c.epoch c.threshold (c.guardians.length:Int) l):CC c l=0:=by
  obtain ⟨P,h1,_⟩:=h.ex
  exact h1.belong h.num h.pos
section
variable {c:Circle} {l:List Share} {secret coins:List UInt8} {others:List Int} {t no:Int}
theorem deal_ok (h:(AB c secret coins).2=0):AS c=0∧AB c secret coins=BL secret c.epoch c.threshold (c.guardians.length:Int) coins:=by
  by_cases hc:AS c=0
  · exact ⟨hc,TB hc⟩
  · rw [deal_1 hc] at h;exact absurd h hc
theorem deal_spl (h:(AB c secret coins).2=0):Spl secret c.epoch c.threshold (c.guardians.length:Int) (AB c secret coins).1:=by
  have:=deal_ok h
  rw [this.2] at h ⊢
  exact MJ h
theorem deal_none (h:(AB c secret coins).2≠0):(AB c secret coins).1=[]:=by
  by_cases hc:AS c=0
  · rw [TB hc] at h ⊢;rw [GV rfl (by rw [← FF];exact h)]
  · rw [deal_1 hc]
theorem deal_coins (h:(AB c secret coins).2=0):(coins.length:Int)=(secret.length:Int)*(c.threshold - 1):=by
  have:=deal_ok h
  rw [this.2,FF] at h
  exact ((FL _ _ _ _ _).1 h).2.2.2.2.2.2
theorem UF (h:(AE c l coins).2.2=0):AS c=0∧CC c l=0∧(CG l coins).2=0∧AE c l coins=(⟨c.epoch+1,c.threshold,c.wait,c.guardians,c.recs⟩,(CG l coins).1,0):=by
  by_cases hc:AS c=0
  · by_cases hb:CC c l=0
    · by_cases hr:(CG l coins).2=0
      · exact ⟨hc,hb,hr,OJ hc hb hr⟩
      · rw [PZ hc hb hr] at h;exact absurd h hr
    · rw [OK hc hb] at h;exact absurd h hb
  · rw [PR hc] at h;exact absurd h hc
theorem head_epoch {d:Circle} (h:AS c=0) (h1:d.threshold=c.threshold) (h2:d.wait=c.wait) (h3:d.guardians=c.guardians) (h4:d.recs=c.recs) (h5:0≤d.epoch) (h6:d.epoch≤1048576):AS d=0:=by
  have:=(FT c).1 h
  refine (FT d).2 ⟨?_,by rw [h4];exact this.2⟩
  have hh:=this.1
  unfold DD at hh ⊢
  rw [h1,h2,h3,h4]
  simp only [Bool.or_eq_false_iff,decide_eq_false_iff_not] at hh ⊢
  exact ⟨⟨⟨⟨⟨⟨⟨⟨by omega,by omega⟩,hh.1.1.1.1.1.1.2⟩,hh.1.1.1.1.1.2⟩,hh.1.1.1.1.2⟩,hh.1.1.1.2⟩,hh.1.1.2⟩,hh.1.2⟩,hh.2⟩
structure Held (secret:List UInt8) (c:Circle) (l:List Share):Prop where
  ok:AS c=0
  spl:Spl secret c.epoch c.threshold (c.guardians.length:Int) l
theorem VH (h:(AB c secret coins).2=0):Held secret c (AB c secret coins).1:=⟨(deal_ok h).1,deal_spl h⟩
theorem refresh_ep (hl:Spl secret c.epoch c.threshold (c.guardians.length:Int) l) (h:(CG l coins).2=0):c.epoch<1048576:=by
  have:=hl.num.ep1
  by_cases e:c.epoch=1048576
  · exfalso
    obtain ⟨P,h1,_⟩:=hl.ex
    have hv:=h1.vd hl.num hl.pos
    rw [JS] at h
    unfold DZ at h
    rw [if_neg (by rw [(EI l).2 hv];simp),if_neg (by rw [h1.ma 0 hl.pos,hl.len];simp),if_pos (by rw [h1.ep 0 hl.pos];exact e)] at h
    cases h
  · omega
theorem UE (hl:Held secret c l) (h:(AE c l coins).2.2=0):Held secret (AE c l coins).1 (AE c l coins).2.1:=by
  obtain ⟨h1,h2,h3,h4⟩:=UF h
  have he:=refresh_ep hl.spl h3
  rw [h4]
  have hs:=spl_refresh hl.spl he h3
  exact ⟨head_epoch h1 rfl rfl rfl rfl (by have:=hs.num.ep0;exact this) (by show c.epoch+1≤_;omega),hs⟩
end
open Go.Fw
def QJ (c:Circle):Bool:=decide (0<(c.recs.length:Int)) && (c.recs[c.recs.length - 1]!.state == 0)
def dayOf (c:Circle):Int:=if 0<(c.recs.length:Int) then c.recs[c.recs.length - 1]!.asked else 0
abbrev askD (c:Circle):Circle × Int × Int:=BS c (dayOf c)
def ES (c:Circle):Nat→Circle × Int
  | 0=>((askD c).1,(askD c).2.2)
  | k+1=>if (ES c k).2=0 then CH (ES c k).1 (askD c).2.1 (BJ (ES c k).1 c.guardians[k]!) else ES c k
def finD (c:Circle):Circle × Int:=
  if (ES c c.guardians.length).2=0 then CH (ES c c.guardians.length).1 (askD c).2.1 (BZ (ES c c.guardians.length).1 (min 1023 (dayOf c+c.wait))) else ES c c.guardians.length
def ND (c:Circle):Circle × Int × Bool:=if QJ c then (c,0,false) else ((finD c).1,(askD c).2.1,(finD c).2 == 0)
theorem done_1 {c:Circle} (h:QJ c=true):ND c=(c,0,false):=if_pos h
theorem done_2 {c:Circle} (h:QJ c=false):ND c=((finD c).1,(askD c).2.1,(finD c).2 == 0):=if_neg (by rw [h];simp)
theorem app_y {c:Circle} {k:Nat} (h:(ES c k).2=0):ES c (k+1)=CH (ES c k).1 (askD c).2.1 (BJ (ES c k).1 c.guardians[k]!):=by rw [ES,if_pos h]
theorem app_n {c:Circle} {k:Nat} (h:(ES c k).2≠0):ES c (k+1)=ES c k:=by rw [ES,if_neg h]
theorem fin_y {c:Circle} (h:(ES c c.guardians.length).2=0):finD c=CH (ES c c.guardians.length).1 (askD c).2.1 (BZ (ES c c.guardians.length).1 (min 1023 (dayOf c+c.wait))):=if_pos h
theorem fin_n {c:Circle} (h:(ES c c.guardians.length).2≠0):finD c=ES c c.guardians.length:=if_neg h
structure Grown (c x:Circle) (no:Int):Prop where
  ok:AS x=0
  ep:x.epoch=c.epoch
  th:x.threshold=c.threshold
  wa:x.wait=c.wait
  gu:x.guardians=c.guardians
  n0:0≤no
  n1:no<(x.recs.length:Int)
theorem ask_grown {c:Circle} {day:Int} (h:(BS c day).2.2=0):AS c=0∧CO day 0=true∧Grown c (BS c day).1 (BS c day).2.1∧(BS c day).1 = ⟨c.epoch,c.threshold,c.wait,c.guardians,c.recs++[⟨(c.recs.length:Int),day,0,[],[]⟩]⟩∧(BS c day).2.1=(c.recs.length:Int):=by
  by_cases hc:AS c=0
  · cases hd:CO day (IU c).asked with
    | false=>rw [KN hc hd] at h;cases h
    | true=>
      by_cases hs:(IU c).state=0
      · rw [OP hc hd hs] at h;cases h
      · by_cases hn:(c.recs.length:Int)=1024
        · rw [JD hc hd hs hn] at h;cases h
        · rw [HD hc hd hs hn]
          have h0:=(FT c).1 hc
          have hlast:0≤(IU c).asked:=by
            unfold IU;split
            · rename_i hpos
              exact (TA hc (no:=((c.recs.length - 1:Nat):Int)) (by omega) (by omega)).1
            · simp
          have hd':=KF.1 hd
          refine ⟨hc,KF.2 ⟨by omega,hd'.2⟩,⟨(FT _).2 ⟨?_,fun k hk=>?_⟩,rfl,rfl,rfl,rfl,by simp,by simp;omega⟩,rfl,rfl⟩
          · have hh:=h0.1
            have hr:=SF hc
            unfold DD at hh ⊢
            simp only [Bool.or_eq_false_iff,decide_eq_false_iff_not] at hh ⊢
            exact ⟨hh.1,by simp;omega⟩
          · simp only [List.length_append,List.length_cons,List.length_nil] at hk ⊢
            rw [KP]
            by_cases e:k=c.recs.length
            · subst e
              have hg:(c.recs++[(⟨(c.recs.length:Int),day,0,[],[]⟩:Recovery)])[c.recs.length]! = ⟨(c.recs.length:Int),day,0,[],[]⟩:=by simp
              have ha:EJ (c.recs++[(⟨(c.recs.length:Int),day,0,[],[]⟩:Recovery)]) c.recs.length=(IU c).asked:=by
                unfold EJ IU
                by_cases z:c.recs.length=0
                · rw [if_pos z,if_neg (by omega)]
                · rw [if_neg z,if_pos (by omega),List.getElem!_eq_getElem?_getD,List.getElem?_append_left (by omega),← List.getElem!_eq_getElem?_getD]
              rw [hg,ha]
              exact ⟨rfl,hd,by simp [ED,HU,FH], .inr (by simp)⟩
            · have hk:k<c.recs.length:=by omega
              have hg:(c.recs++[(⟨(c.recs.length:Int),day,0,[],[]⟩:Recovery)])[k]! = c.recs[k]!:=by rw [List.getElem!_eq_getElem?_getD,List.getElem?_append_left hk,← List.getElem!_eq_getElem?_getD]
              have ha:EJ (c.recs++[(⟨(c.recs.length:Int),day,0,[],[]⟩:Recovery)]) k=EJ c.recs k:=by
                unfold EJ
                by_cases z:k=0
                · rw [if_pos z,if_pos z]
                · rw [if_neg z,if_neg z,List.getElem!_eq_getElem?_getD,List.getElem?_append_left (by omega),← List.getElem!_eq_getElem?_getD]
              have hb:=KP.1 (h0.2 k hk)
              rw [hg,ha]
              refine ⟨hb.1,hb.2.1,hb.2.2.1,?_⟩
              by_cases z:k+1=c.recs.length
              · left
                unfold IU at hs
                rw [if_pos (by omega)] at hs
                rwa [show k=c.recs.length - 1 by omega]
              · rcases hb.2.2.2 with q|q
                · exact .inl q
                · omega
  · rw [QI hc] at h;exact absurd h hc
theorem act_get {c:Circle} {no:Int} {f:Recovery→Except Int Recovery} (hf:∀ r e,f r = .error e→e≠0) (h:(CH c no f).2=0):AS c=0∧0≤no∧no<(c.recs.length:Int)∧∃ r,f c.recs[no.toNat]! = .ok r∧CH c no f=(TG c no.toNat r,0):=by
  by_cases hc:AS c=0
  · by_cases hn:no<0∨(c.recs.length:Int)≤no
    · unfold CH at h;rw [if_neg (by simpa using hc),if_pos hn] at h;cases h
    · refine ⟨hc,by omega,by omega,?_⟩
      cases hr:f c.recs[no.toNat]! with
      | error x=>
        have e:CH c no f=(DV,x):=by unfold CH;rw [if_neg (by simpa using hc),if_neg hn];simp only [hr]
        rw [e] at h;exact absurd h (hf _ _ hr)
      | ok r=>
        have e:CH c no f=(TG c no.toNat r,0):=by unfold CH;rw [if_neg (by simpa using hc),if_neg hn];simp only [hr];rfl
        exact ⟨r,rfl,e⟩
  · unfold CH at h;rw [if_pos (by simpa using hc)] at h;exact absurd h hc
theorem RJ {c x:Circle} {no:Int} {r:Recovery} (h:Grown c x no) (hno:r.no=x.recs[no.toNat]!.no) (ha:r.asked=x.recs[no.toNat]!.asked) (hr:ED r=true) (hs:r.state≠0∨x.recs[no.toNat]!.state=0):Grown c (TG x no.toNat r) no:=
  ⟨check_set h.ok (by have:=h.n0;have:=h.n1;omega) hno ha hr hs,h.ep,h.th,h.wa,h.gu,h.n0,by simp [TG];exact h.n1⟩
theorem UR {c x:Circle} {no g:Int} (h:Grown c x no) (h2:(CH x no (BJ x g)).2=0):Grown c (CH x no (BJ x g)).1 no:=by
  obtain ⟨_,h0,h1,r,hr,e⟩:=act_get (fun r e he=>by
    unfold BJ at he
    split at he
    · cases he;decide
    · split at he
      · cases he;decide
      · split at he
        · cases he;decide
        · split at he <;> cases he) h2
  rw [e]
  have hrec:=KV h.ok (k:=no.toNat) (by omega)
  unfold BJ at hr
  split at hr
  · cases hr
  · split at hr
    · cases hr
    · split at hr
      · cases hr
      · rename_i hs2 hs1 hg
        have hs:x.recs[no.toNat]!.state=0:=by
          have:=LK h.ok h0 h1
          simp only [beq_iff_eq] at hs2 hs1
          omega
        have hg:x.guardians.contains g=true:=by simpa using hg
        split at hr
        · cases hr;exact RJ h rfl rfl hrec (.inr hs)
        · rename_i hb
          cases hr
          refine RJ h rfl rfl ?_ (.inr hs)
          have hp:=EQ hrec
          have hinc:=inc_pw.1 hp.2.2
          have hgr:=guard_range h.ok hg
          have hnot:g∉x.recs[no.toNat]!.approved:=fun hm=>hb ((bsF_iff hinc.1).2 hm)
          have hi:HU (PB x.recs[no.toNat]!.approved g)=true:=inc_pw.2 ⟨putIn_pw hinc.1 hnot,fun y hy=>by
            rcases RM.1 hy with e|hy
            · rw [e];exact hgr
            · exact hinc.2 y hy⟩
          unfold ED at hrec ⊢
          simp only [hs,hi] at hrec ⊢
          simp only [hp.2.2] at hrec
          exact hrec
theorem finish_grown {c x:Circle} {no day:Int} (h:Grown c x no) (h2:(CH x no (BZ x day)).2=0):Grown c (CH x no (BZ x day)).1 no∧(CH x no (BZ x day)).1.recs[no.toNat]!.state=1:=by
  obtain ⟨_,h0,h1,r,hr,e⟩:=act_get (fun r e he=>by
    unfold BZ at he
    repeat' split at he
    all_goals cases he
    all_goals decide) h2
  rw [e]
  have hrec:=KV h.ok (k:=no.toNat) (by omega)
  unfold BZ at hr
  repeat' split at hr
  all_goals cases hr
  rename_i hs2 hs1 _ _ _
  have hs:x.recs[no.toNat]!.state=0:=by
    have:=LK h.ok h0 h1
    simp only [beq_iff_eq] at hs2 hs1
    omega
  refine ⟨RJ h rfl rfl ?_ (.inl (by show (1:Int)≠0;decide)),?_⟩
  · have hp:=EQ hrec
    unfold ED at hrec ⊢
    simp only [hs,hp.2.2] at hrec ⊢
    exact hrec
  · show (x.recs.set no.toNat _)[no.toNat]!.state=1
    rw [TT (by omega),if_pos rfl]
theorem UY {c:Circle}:∀ k,(ES c k).2=0→AS c=0∧CO (dayOf c) 0=true∧Grown c (ES c k).1 (askD c).2.1
  | 0,h=>by have:=ask_grown h;exact ⟨this.1,this.2.1,this.2.2.1⟩
  | k+1,h=>by
    by_cases hk:(ES c k).2=0
    · have ih:=UY k hk
      rw [app_y hk] at h ⊢
      exact ⟨ih.1,ih.2.1,UR ih.2.2 h⟩
    · rw [app_n hk] at h;exact absurd h hk
theorem done_grown {c:Circle} (h:(ND c).2.2=true):AS c=0∧Grown c (ND c).1 (ND c).2.1∧(ND c).1.recs[(ND c).2.1.toNat]!.state=1:=by
  cases hl:QJ c with
  | true=>rw [done_1 hl] at h;cases h
  | false=>
    rw [done_2 hl] at h ⊢
    have hf:(finD c).2=0:=by simpa using h
    by_cases ha:(ES c c.guardians.length).2=0
    · have ih:=UY _ ha
      rw [fin_y ha] at hf ⊢
      exact ⟨ih.1,finish_grown ih.2.2 hf⟩
    · rw [fin_n ha] at hf;exact absurd hf ha
open Go.Fw
def FA (a b:List Share):Bool:=a.all fun s=>b.any fun o=>DA s o
theorem any_step {b:List Share} {p:Share→Bool} {j:Nat} (h:j<b.length):(b.take (j+1)).any p=((b.take j).any p || p b[j]!):=by
  rw [List.take_add_one,List.any_append,List.getElem?_eq_getElem h,getElem!_pos b j h];simp
def MT (b:List Share) (s:Share) (j:Nat):Bool:=(b.take j).any fun o=>DA s o
theorem met_all (b:List Share) (s:Share):MT b s b.length=b.any fun o=>DA s o:=by unfold MT;rw [List.take_length]
theorem met_y {b:List Share} {s:Share} {j:Nat} (hj:j<b.length) (h:MT b s j=true):MT b s (j+1)=true:=by
  unfold MT at h ⊢;rw [any_step hj,h];rfl
theorem met_n {b:List Share} {s:Share} {j:Nat} (hj:j<b.length) (h:MT b s j=false):MT b s (j+1)=DA s b[j]!:=by
  unfold MT at h ⊢;rw [any_step hj,h];rfl
theorem with_step {a b:List Share} {k:Nat} (h:∀ q,q<k→(b.any fun o=>DA a[q]! o)=true) (hk:(b.any fun o=>DA a[k]! o)=true):∀ q,q<k+1→(b.any fun o=>DA a[q]! o)=true:=by
  intro q hq
  by_cases e:q=k
  · subst e;exact hk
  · exact h q (by omega)
theorem with_all {a b:List Share} (h:∀ q,q<a.length→(b.any fun o=>DA a[q]! o)=true):FA a b=true:=by
  unfold FA
  rw [List.all_eq_true]
  intro s hs
  obtain ⟨i,hi,rfl⟩:=List.getElem_of_mem hs
  have:=h i hi
  rwa [getElem!_pos a i hi] at this
theorem with_not {a b:List Share} {k:Nat} (hk:k<a.length) (h:(b.any fun o=>DA a[k]! o)=false):FA a b=false:=by
  unfold FA
  rw [List.all_eq_false]
  exact ⟨a[k]!,by rw [getElem!_pos a k hk];exact List.getElem_mem _,by rw [h];simp⟩
theorem VY {a l:List Share} {mask:UInt8} (h:AJ l mask l.length=a):FA a l=true:=by
  subst h
  unfold FA
  rw [List.all_eq_true]
  intro s hs
  unfold AJ at hs
  obtain ⟨i,hi,rfl⟩:=List.mem_map.1 hs
  have hi:i<l.length:=by
    unfold JY at hi
    exact List.mem_range.1 (List.mem_filter.1 hi).1
  exact List.any_eq_true.2 ⟨l[i]!,by rw [getElem!_pos l i hi];exact List.getElem_mem _,(UT _ _).2 rfl⟩
theorem Spl.ixd {a b:List UInt8} {ep ep' t m:Int} {l k:List Share} (h:Spl a ep t m l) (h':Spl b ep' t m k) {j:Nat} (hj:j<l.length):k[j]!.index=l[j]!.index:=by
  rw [h.full.2 j hj,h'.full.2 j (by rw [h'.full.1,← h.full.1];exact hj)]
theorem Spl.sum {a b:List UInt8} {ep ep' t m:Int} {l k:List Share} (h:Spl a ep t m l) (h':Spl b ep' t m k) (hab:a.length=b.length):Spl (tab a.length fun i=>a[i]! ^^^ b[i]!) ep t m (sumL l k a.length l.length):=by
  obtain ⟨P,h1,h2,h3⟩:=h.ex
  obtain ⟨Q,k1,k2,k3⟩:=h'.ex
  have hlk:l.length=k.length:=by rw [h.full.1,h'.full.1]
  have hn:=h.num
  refine ⟨⟨hn.t1,hn.tm,hn.m8,by rw [HN];exact hn.n64,hn.ep0,hn.ep1⟩,⟨by rw [LZ,h.full.1],fun k hk=>by rw [LZ] at hk;rw [GY hk];exact h.full.2 k hk⟩,fun p=>padd (P p) (Q p),?_,fun p hp i hi=>?_,fun p hp=>?_⟩
  · rw [HN]
    refine ⟨fun j hj=>?_,fun j hj=>?_,fun j hj=>?_,fun j hj=>?_,fun j hj=>?_,fun i j hij hj=>?_,fun j hj p hp=>?_⟩ <;> rw [LZ] at hj
    · rw [GY hj];exact h1.ep j hj
    · rw [GY hj];exact h1.th j hj
    · rw [GY hj];exact h1.ma j hj
    · rw [GY hj];exact HN _ _
    · rw [GY hj];exact h1.ix j hj
    · rw [GY hj,GY (by omega)];exact h1.inc i j hij hj
    · rw [GY hj];simp only [MB];rw [IC,if_pos hp,PS,h1.val j hj p hp,k1.val j (by omega) p (by omega),h.ixd h' hj]
  · rw [HN] at hp;rw [TN,h2 p hp i hi,k2 p (by omega) i hi];rfl
  · rw [HN] at hp;rw [PS,h3 p hp,k3 p (by omega),IC,if_pos hp]
theorem VF {T:List Share} {m:Int} (hT:Full m T) {i:Nat} (hi:i<T.length):EX T (fun o=>o.index == (i:Int)+1)=(i:Int):=by
  unfold EX
  rcases RH (fun k=>T[k]!.index == (i:Int)+1) (T.length - 0) 0 with ⟨h1,h2⟩|⟨k,h1,h2,h3,h4,_⟩
  · have:=h2 i (by omega) (by omega)
    rw [hT.2 i hi] at this;simp at this
  · rw [h4]
    rw [hT.2 k (by omega)] at h3
    simp only [beq_iff_eq] at h3
    omega
theorem atS_full {T:List Share} {m:Int} (hT:Full m T) {i:Nat} (hi:i<T.length):atS T ((i:Int)+1)=T[i]!:=by
  unfold atS;rw [VF hT hi];rfl
section
variable {s other:List UInt8} {ep ep' t m:Int} {y T:List Share}
theorem mix_eq (hy:Spl s ep' t m y) (hT:Spl other ep t m T) {i:Nat} (hi:i<y.length):mixS T y[i]! = MB y T s.length i:=by
  have hTl:T.length=y.length:=by rw [hT.full.1,hy.full.1]
  unfold mixS MB xorM
  rw [show atS T y[i]!.index=T[i]! by rw [hy.full.2 i hi];exact atS_full hT.full (by omega),hy.da hi]
theorem mixD_eq (hy:Spl s ep' t m y) (hT:Spl other ep t m T) (mask:UInt8):EN (AJ y mask y.length) T (AJ y mask y.length).length=AJ (sumL y T s.length y.length) mask (sumL y T s.length y.length).length:=by
  unfold EN
  rw [List.take_length,LZ]
  unfold AJ
  rw [List.map_map]
  refine List.map_congr_left fun i hi=>?_
  have hi:i<y.length:=by
    unfold JY at hi
    exact List.mem_range.1 (List.mem_filter.1 hi).1
  show mixS T y[i]! = _
  rw [mix_eq hy hT hi,GY hi]
end
theorem some_eq {l k:List Share} {mask:UInt8} (hlk:l.length=k.length) (h:AJ l mask l.length=AJ k mask k.length) {i:Nat} (hi:i<l.length) (hs:selB mask i=true):l[i]! = k[i]!:=by
  unfold AJ at h
  rw [← hlk] at h
  have:=List.map_inj_left.1 h i (by unfold JY;exact List.mem_filter.2 ⟨List.mem_range.2 hi,hs⟩)
  exact this
theorem some_congr {l k:List Share} {mask:UInt8} (hlk:l.length=k.length) (h:∀ i,i<l.length→selB mask i=true→l[i]! = k[i]!):AJ l mask l.length=AJ k mask k.length:=by
  unfold AJ
  rw [← hlk]
  refine List.map_congr_left fun i hi=>?_
  unfold JY at hi
  have:=List.mem_filter.1 hi
  exact h i (List.mem_range.1 this.1) this.2
theorem hide2 {secret s2 other:List UInt8} {ep t m:Int} {l y:List Share} (hl:Spl secret ep t m l) (hy:Spl s2 (ep+1) t m y) (h2:s2.length=secret.length) (ho:other.length=secret.length) {a b:UInt8}
    {old now:List Share} (hold:AJ l a l.length=old) (hnow:AJ y b y.length=now) (ha:0<old.length) (ha':(old.length:Int)<t) (hb:0<now.length) (hb':(now.length:Int)<t) :
    AL old now other=((AV old other).1++(IA old now other).1,0)∧(BL other ep t m (AV old other).1).2=0∧FA old (BL other ep t m (AV old other).1).1=true
      ∧((AV old other).1.length:Int)=(secret.length:Int)*(t - 1)∧((IA old now other).1.length:Int)=(secret.length:Int)*(t - 1)
      ∧(CG (BL other ep t m (AV old other).1).1 (IA old now other).1).2=0∧FA now (CG (BL other ep t m (AV old other).1).1 (IA old now other).1).1=true:=by
  obtain ⟨P,p1,_⟩:=hl.ex
  obtain ⟨Q,q1,_⟩:=hy.ex
  have pold:=p1.some a
  have qnow:=q1.some b
  rw [hold] at pold
  rw [hnow] at qnow
  have e1:=hl.explain a (other:=other) ho (by rw [hold];exact ha) (by rw [hold];exact ha')
  rw [hold] at e1
  obtain ⟨e1,e2,e3⟩:=e1
  have hT:=MJ e2
  have hP:((AV old other).1.length:Int)=(secret.length:Int)*(t - 1):=by
    rw [FF] at e2
    have:=((FL _ _ _ _ _).1 e2).2.2.2.2.2.2
    rw [ho] at this;exact this
  have hmp:CL old other=(BL other ep t m (AV old other).1).1:=by
    unfold CL;rw [pold.ep 0 ha,pold.th 0 ha,pold.ma 0 ha]
  generalize hTe:(BL other ep t m (AV old other).1).1=T at *
  have hD:=hy.sum hT (by rw [h2,ho])
  have hd:EN now T now.length=AJ (sumL y T s2.length y.length) b (sumL y T s2.length y.length).length:=by
    rw [← hnow];exact mixD_eq hy hT b
  have hzl:(List.replicate other.length (0:UInt8)).length=(tab s2.length fun i=>s2[i]! ^^^ other[i]!).length:=by rw [HN,List.length_replicate,ho,h2]
  have hdl:(EN now T now.length).length=now.length:=by unfold EN;rw [List.take_length,List.length_map]
  have f1:=hD.explain b (other:=List.replicate other.length 0) hzl (by rw [← hd,hdl];exact hb) (by rw [← hd,hdl];exact hb')
  rw [← hd] at f1
  have hQ:IA old now other=AV (EN now T now.length) (List.replicate other.length 0):=by unfold IA;rw [hmp]
  rw [← hQ] at f1
  obtain ⟨f1,f2,f3⟩:=f1
  have hQl:((IA old now other).1.length:Int)=(secret.length:Int)*(t - 1):=by
    have f2':=f2
    rw [FF] at f2'
    have:=((FL _ _ _ _ _).1 f2').2.2.2.2.2.2
    rw [List.length_replicate,ho] at this;exact this
  have hep:ep<1048576:=by have:=hy.num.ep1;omega
  have hr:(CG T (IA old now other).1).2=0:=(refresh_iff hT hep _).2 (by rw [ho];exact hQl)
  refine ⟨?_,e2,VY e3,hP,hQl,hr,?_⟩
  · have hb0:KU old[0]! now[0]! = false:=by
      unfold KU
      rw [pold.th 0 ha,pold.ma 0 ha,pold.da 0 ha,pold.ep 0 ha,qnow.th 0 hb,qnow.ma 0 hb,qnow.da 0 hb,qnow.ep 0 hb,h2]
      simp
    have c1:BN old=0:=(EI old).2 (pold.vd hl.num ha)
    have c2:BN now=0:=(EI now).2 (qnow.vd hy.num hb)
    unfold AL
    rw [c1,c2,hb0,e1,f1]
    simp
  · have hTl:T.length=y.length:=by rw [hT.full.1,hy.full.1]
    have hR:(CG T (IA old now other).1).1=GF T (IA old now other).1:=by
      rw [JS] at hr
      unfold CG;rw [if_pos hr]
    have hRl:(GF T (IA old now other).1).length=T.length:=by simp [GF]
    refine VY (mask:=b) (Eq.trans ?_ hnow)
    rw [hR]
    refine some_congr (by rw [hRl,hTl]) fun i hi hs=>?_
    rw [hRl] at hi
    obtain ⟨PT,t1,_⟩:=hT.ex
    have hpos:=hT.pos
    -- the refreshing's shares are those of the difference
    have hz:=MJ f2
    have hzl2:(BL (List.replicate other.length 0) (ep+1) t m (IA old now other).1).1.length=(sumL y T s2.length y.length).length:=by rw [hz.full.1,LZ,hy.full.1]
    have hzi:=some_eq hzl2 (f3.trans hd) (i:=i) (by rw [hzl2,LZ];omega) hs
    rw [GY (by omega)] at hzi
    have hsp:=GE f2
    rw [hsp.2] at hzi
    have g1:(GF T (IA old now other).1)[i]! = FJ T T[0]! (GU T[0]! (IA old now other).1).1 i:=by unfold GF;rw [EY _ _ _ hi]
    have hb2:DQ (List.replicate other.length 0) ep t m (IA old now other).1=0:=by
      have:=hr
      rw [JS,NV hT hep] at this;exact this
    have g2:(GU T[0]! (IA old now other).1).1=FW (List.replicate other.length 0) ep t m (IA old now other).1:=by
      unfold GU
      rw [t1.da 0 hpos,t1.ep 0 hpos,t1.th 0 hpos,t1.ma 0 hpos]
      exact (GE (by rw [FF];exact hb2)).2
    have hml:i<m.toNat:=by rw [← hT.full.1];exact hi
    have g3:(FW (List.replicate other.length 0) ep t m (IA old now other).1)[i]!.data=(FW (List.replicate other.length 0) (ep+1) t m (IA old now other).1)[i]!.data:=by
      rw [JB hml,JB hml];rfl
    rw [g1,g2]
    refine VN ?_ ?_ ?_ ?_ ?_
    · show T[i]!.epoch+1=_;rw [t1.ep i hi,q1.ep i (by omega)]
    · show T[i]!.index=_;exact (hT.ixd hy hi).symm
    · show T[i]!.threshold=_;rw [t1.th i hi,q1.th i (by omega)]
    · show T[i]!.many=_;rw [t1.ma i hi,q1.ma i (by omega)]
    · show NQ T _ T[0]!.data.length i=_
      unfold NQ
      rw [g3,hzi]
      refine OH (by rw [List.length_map,List.length_range,t1.da 0 hpos,hy.da (by omega),h2,ho]) fun k=>?_
      by_cases hk:k<T[0]!.data.length
      · rw [EY _ _ _ hk]
        rw [t1.da 0 hpos] at hk
        simp only [MB]
        rw [IC,if_pos (by omega)]
        rw [UInt8.xor_comm y[i]!.data[k]!,← UInt8.xor_assoc,UInt8.xor_self,UInt8.zero_xor]
      · rw [DH (by simpa using hk),DH (by rw [t1.da 0 hpos] at hk;rw [hy.da (by omega)];omega)]
open Go.Fw
theorem Good.count {l:List Share} (h:Good l):∀ k:Nat,k<l.length→(k:Int)+1≤l[k]!.index
  | 0,hk=>by have:=h.ix 0 hk;omega
  | k+1,hk=>by have:=h.count k (by omega);have:=h.inc k hk;omega
theorem Good.len8 {l:List Share} (h:Good l):l.length≤8:=by
  have h1:=h.pos
  have h2:=h.count (l.length - 1) (by omega)
  have h3:=h.ix (l.length - 1) (by omega)
  have:=h.m8
  omega
theorem PJ {l:List Share} {secret:List UInt8} (h:(AV l secret).2=0):Vd l∧(l.length:Int)<l[0]!.threshold∧(secret.length:Int)=(l[0]!.data.length:Int)∧((AV l secret).1.length:Int)=(secret.length:Int)*(l[0]!.threshold - 1):=by
  have hc:BN l=0:=by
    by_cases c:BN l=0
    · exact c
    · rw [PY c rfl] at h;exact h
  have hv:=(EI l).1 hc
  have h2:(l.length:Int)<l[0]!.threshold:=by
    by_cases c:(l.length:Int)<l[0]!.threshold
    · exact c
    · rw [LU hc (by omega) rfl] at h;cases h
  have h3:(secret.length:Int)=(l[0]!.data.length:Int):=by
    by_cases c:(secret.length:Int)=(l[0]!.data.length:Int)
    · exact c
    · rw [PV hc h2 c rfl] at h;cases h
  refine ⟨hv,h2,h3,?_⟩
  rw [OC hc h2 h3 rfl]
  have:=hv.t1;have:=hv.tm;have:=hv.m8
  show ((JN l secret (l[0]!.threshold.toNat - 1 - l.length) secret.length).length:Int)=_
  rw [GT hv.toGood (by omega),show l.length+(l[0]!.threshold.toNat - 1 - l.length)=l[0]!.threshold.toNat - 1 by omega]
  rw [Int.natCast_mul];congr 1;omega
theorem NP {l:List Share} {secret:List UInt8} (h:(AV l secret).2=0):(AV l secret).1.length≤1000∧secret.length≤64:=by
  have h1:=PJ h
  have h2:=h1.2.2.2
  have h3:=h1.2.2.1
  have:=h1.1.d64;have:=h1.1.t1;have:=h1.1.tm;have:=h1.1.m8
  have hs:secret.length≤64:=by omega
  refine ⟨?_,hs⟩
  have h4:(secret.length:Int)*(l[0]!.threshold - 1)≤64*7:=Int.mul_le_mul (by omega) (by omega) (by omega) (by omega)
  omega
theorem VB {a:List Share} {secret:List UInt8} (h:(AV a secret).2=0):(BL secret a[0]!.epoch a[0]!.threshold a[0]!.many (AV a secret).1).2=0:=by
  obtain ⟨hv,_,h3,h4⟩:=PJ h
  have:=hv.t1;have:=hv.tm;have:=hv.m8;have:=hv.d64;have:=hv.ep0;have:=hv.ep1
  rw [FF]
  exact (FL _ _ _ _ _).2 ⟨by omega,by omega,by omega,by omega,by omega,by omega,h4⟩
theorem mix_spl {a:List Share} {secret:List UInt8} (h:(AV a secret).2=0):Spl secret a[0]!.epoch a[0]!.threshold a[0]!.many (CL a secret):=MJ (VB h)
theorem PP (f g:Share):KU f g=false↔f.threshold=g.threshold∧f.many=g.many∧f.data.length=g.data.length∧g.epoch=f.epoch+1:=by
  unfold KU;simp only [dbs];omega
theorem GX {f g:Share} (h:f.threshold≠g.threshold∨f.many≠g.many∨(f.data.length:Int)≠(g.data.length:Int)∨g.epoch≠f.epoch+1):KU f g=true:=by
  rw [← Bool.not_eq_false];intro e
  have:=(PP f g).1 e
  omega
def KZ (x y:List UInt8) (k:Nat):List UInt8:=tab x.length fun i=>if i<k then x[i]! ^^^ y[i]! else x[i]!
theorem xorP_zero (x y:List UInt8):KZ x y 0=x:=by
  unfold KZ
  refine OH (by rw [HN]) fun i=>?_
  rw [IC]
  by_cases c:i<x.length
  · rw [if_pos c,if_neg (by omega)]
  · rw [if_neg c,DH (by omega)]
theorem GH (x y:List UInt8) (k:Nat):(KZ x y k).length=x.length:=HN _ _
theorem xorP_at {x y:List UInt8} {k:Nat} (h:k<x.length):(KZ x y k)[k]! = x[k]!:=by unfold KZ;rw [IC,if_pos h,if_neg (by omega)]
theorem xorP_set {x y:List UInt8} {k:Nat} (h:k<x.length):(KZ x y k).set k ((KZ x y k)[k]! ^^^ y[k]!)=KZ x y (k+1):=by
  refine OH (by rw [List.length_set,GH,GH]) fun i=>?_
  rw [xorP_at h]
  by_cases e:i=k
  · subst e
    rw [getElem!_pos _ i (by rw [List.length_set,GH];exact h),List.getElem_set_self]
    unfold KZ;rw [IC,if_pos h,if_pos (by omega)]
  · by_cases c:i<x.length
    · rw [getElem!_pos _ i (by rw [List.length_set,GH];exact c),List.getElem_set_ne (by omega),← getElem!_pos _ i (by rw [GH];exact c)]
      unfold KZ;rw [IC,IC,if_pos c,if_pos c]
      by_cases d:i<k
      · rw [if_pos d,if_pos (by omega)]
      · rw [if_neg d,if_neg (by omega)]
    · rw [DH (by rw [List.length_set,GH];omega),DH (by rw [GH];omega)]
theorem xorP_all (x y:List UInt8):KZ x y x.length=xorM x y:=by
  unfold KZ xorM
  refine OH (by rw [HN,HN]) fun i=>?_
  rw [IC,IC]
  by_cases c:i<x.length
  · rw [if_pos c,if_pos c,if_pos c]
  · rw [if_neg c,if_neg c]
structure Mx (a b:List Share) (secret:List UInt8):Prop where
  va:Vd a
  vb:Vd b
  th:a[0]!.threshold=b[0]!.threshold
  ma:a[0]!.many=b[0]!.many
  da:a[0]!.data.length=b[0]!.data.length
  ep:b[0]!.epoch=a[0]!.epoch+1
  len:secret.length=a[0]!.data.length
  sp:Spl secret a[0]!.epoch a[0]!.threshold a[0]!.many (CL a secret)
theorem mx_of {a b:List Share} {secret:List UInt8} (hb:BN b=0) (h:(AV a secret).2=0) (hm:KU a[0]! b[0]! = false):Mx a b secret:=
  have h1:=PJ h
  have h2:=(PP _ _).1 hm
  ⟨h1.1,(EI b).1 hb,h2.1,h2.2.1,h2.2.2.1,h2.2.2.2,by omega,mix_spl h⟩
section
variable {a b:List Share} {secret:List UInt8} (h:Mx a b secret) {k:Nat} (hk:k<b.length)
include h hk
theorem Mx.idx:EX (CL a secret) (fun o=>o.index == b[k]!.index)=b[k]!.index - 1∧0≤b[k]!.index - 1∧b[k]!.index - 1<((CL a secret).length:Int):=by
  have h1:=h.vb.ix k hk
  have h2:=h.sp.full.1
  have h3:=h.ma
  have hj:(b[k]!.index - 1).toNat<(CL a secret).length:=by rw [h2];omega
  have:=VF h.sp.full hj
  rw [show (((b[k]!.index - 1).toNat:Nat):Int)+1=b[k]!.index by omega] at this
  rw [this];omega
theorem Mx.at:atS (CL a secret) b[k]!.index=(CL a secret)[(b[k]!.index - 1).toNat]!:=by unfold atS;rw [(h.idx hk).1]
theorem Mx.dl:(atS (CL a secret) b[k]!.index).data.length=secret.length:=by
  have h1:=h.idx hk
  rw [h.at hk];exact h.sp.da (by omega)
theorem Mx.idx':0≤EX (CL a secret) (fun o=>o.index == b[k]!.index)∧EX (CL a secret) (fun o=>o.index == b[k]!.index)<((CL a secret).length:Int):=by
  have h1:=h.idx hk
  exact ⟨by rw [h1.1];exact h1.2.1,by rw [h1.1];exact h1.2.2⟩
theorem Mx.dl':((CL a secret)[(EX (CL a secret) (fun o=>o.index == b[k]!.index)).toNat]!).data.length=secret.length:=h.dl hk
theorem Mx.bl:b[k]!.data.length=secret.length:=by rw [h.vb.da k hk,← h.da,h.len]
end
theorem mixD_succ {b s:List Share} {k:Nat} (hk:k<b.length):EN b s (k+1)=EN b s k++[mixS s b[k]!]:=by
  unfold EN;rw [List.take_add_one,List.map_append,List.getElem?_eq_getElem hk,getElem!_pos b k hk];rfl
theorem mixD_len (b s:List Share) (k:Nat):(EN b s k).length≤k:=by unfold EN;rw [List.length_map,List.length_take];omega
section
variable {a b:List Share} {secret:List UInt8}
theorem mixed_1 (h:BN a≠0):AL a b secret=([],BN a):=if_pos (by simpa using h)
theorem mixed_2 (h:BN a=0) (h2:BN b≠0):AL a b secret=([],BN b):=by unfold AL;rw [if_neg (by simpa using h),if_pos (by simpa using h2)]
theorem LE (h:BN a=0) (h2:BN b=0) (h3:KU a[0]! b[0]! = true):AL a b secret=([],460):=by unfold AL;rw [if_neg (by simpa using h),if_neg (by simpa using h2),if_pos h3]
section
variable (h:BN a=0) (h2:BN b=0) (h3:KU a[0]! b[0]! = false)
include h h2 h3
theorem mixed_4 (h4:(AV a secret).2≠0):AL a b secret=([],(AV a secret).2):=by unfold AL;rw [if_neg (by simpa using h),if_neg (by simpa using h2),if_neg (by rw [h3];simp),if_pos (by simpa using h4)]
theorem mixed_5 (h4:(AV a secret).2=0) (h5:(IA a b secret).2≠0):AL a b secret=([],(IA a b secret).2):=by unfold AL;rw [if_neg (by simpa using h),if_neg (by simpa using h2),if_neg (by rw [h3];simp),if_neg (by simpa using h4),if_pos (by simpa using h5)]
theorem mixed_6 (h4:(AV a secret).2=0) (h5:(IA a b secret).2=0):AL a b secret=((AV a secret).1++(IA a b secret).1,0):=by unfold AL;rw [if_neg (by simpa using h),if_neg (by simpa using h2),if_neg (by rw [h3];simp),if_neg (by simpa using h4),if_neg (by simpa using h5)]
end
end
section
variable {a b:List Share} {secret:List UInt8}
section
variable (h:VT a=0) (h2:VT b=0) (h3:KU a[0]! b[0]! = false)
include h h2 h3
end
end
end Go.Proofs.Ytjgfokolnkhafaa
namespace Go.Fw
open Go.RowKit
theorem EG.base {α:Type} {E:Enc α} {e n m:Nat} {O:List Nat} {w:World} {v:Value} {l:List α} (h:EG E e n O w v l) (hm:m≤n):EG E e m O w v l:=by
  obtain ⟨css,h1,h2,h3⟩:=h
  refine ⟨css,h1,⟨h2.1,?_⟩,h3⟩
  rcases h2.2 with h|⟨g,cap,cur,e1,hg,r⟩
  · exact .inl h
  · exact .inr ⟨g,cap,cur,e1,Nat.le_trans hm hg,r⟩
theorem EG.u8O {e n:Nat} {O O':List Nat} {w:World} {v:Value} {l:List UInt8} (h:EG Enc.u8 e n O w v l):EG Enc.u8 e n O' w v l:=by
  obtain ⟨css,h1,h2,h3⟩:=h
  exact ⟨css,h1,h2,fun i cs x a b=>h3 i cs x a b⟩
theorem own_take {α:Type} {E:Enc α} {w0 w1 w:World} {O0 B:List Nat} {e:Nat} {v:Value} {l:List α} (s:St w0 O0 w1 B) (k:Keep [] w1 w) (hn:∀ b,v.ownBlock=some b→w1.heap.size≤b) (h:EG E e w1.heap.size (v.ownBlock.toList++(B++O0)) w v l) :
    ∃ B',(∀ b,v.ownBlock=some b→b∈B')∧(∀ b∈B,b∈B')∧St w0 O0 w B'∧Mv B w1 B' w∧EG E e w0.heap.size (B'++O0) w v l:=by
  refine ⟨v.ownBlock.toList++B,fun b hb=>List.mem_append_left _ (by simp [hb]),fun b hb=>List.mem_append_right _ hb,⟨(s.call k).keep,fun b hb=>?_,s.old⟩,⟨k.nil,fun b hb=>?_⟩,by rw [List.append_assoc];exact h.base s.keep.size⟩
  · rcases List.mem_append.1 hb with hb|hb
    · have h1:=h.lt b (by simpa using hb)
      exact ⟨Nat.le_trans s.keep.size h1.1,h1.2⟩
    · exact (s.call k).new b hb
  · rcases List.mem_append.1 hb with hb|hb
    · exact .inr (hn b (by simpa using hb))
    · exact .inl hb
theorem own_lent {w0 w1 w:World} {O0 B O':List Nat} {e:Nat} {v:Value} {l:List UInt8} (s:St w0 O0 w1 B) (hn:∀ b,v.ownBlock=some b→w1.heap.size≤b) (h:EG Enc.u8 e w1.heap.size O' w v l) :
    EG Enc.u8 e w0.heap.size (B++O0) w v l∧∀ b,v.ownBlock=some b→b∉B++O0:=
  ⟨(h.base s.keep.size).u8O,fun b hb hm=>by have:=hn b hb;have:=s.lt b hm;omega⟩
theorem own_back {w0 w:World} {O0 B:List Nat} {e:Nat} {v:Value} {l:List UInt8} (s:St w0 O0 w B) (h:EG Enc.u8 e w0.heap.size (B++O0) w v l) :
    ∃ B',(∀ b,v.ownBlock=some b→b∈B')∧(∀ b∈B,b∈B')∧St w0 O0 w B'∧EG Enc.u8 e w0.heap.size (B'++O0) w v l:=by
  refine ⟨v.ownBlock.toList++B,fun b hb=>List.mem_append_left _ (by simp [hb]),fun b hb=>List.mem_append_right _ hb,⟨s.keep,fun b hb=>?_,s.old⟩,h.u8O⟩
  rcases List.mem_append.1 hb with hb|hb
  · exact h.lt b (by simpa using hb)
  · exact s.new b hb
theorem flat_ones (m:List UInt8):(m.map fun y=>[vB y]).flatten=m.map vB:=by
  induction m with
  | nil=>rfl
  | cons a r ih=>simp [ih]
theorem AZ.n8 {w:World} {O:List Nat} {A:Addr} {c:Nat} {m:List UInt8} (h:AZ Enc.u8 w O (.slice (some A) m.length c) m):RdN Enc.u8 w O w (.slice (some A) m.length c) m:=by
  obtain ⟨A',c',h1,h2,h3,h4⟩:=h
  cases h1
  refine ⟨A,c,rfl,h2,h3,m.map fun y=>[vB y],by simp,fun j cs y hj hy=>?_,fun j q hq=>?_⟩
  · rw [List.getElem?_map,hy] at hj;cases hj;rfl
  · rw [flat_ones,List.getElem?_map] at hq
    cases hy:m[j]? with
    | none=>rw [hy] at hq;cases hq
    | some y=>
      rw [hy] at hq;cases hq
      obtain ⟨ad,cs,e1,hc,hr⟩:=h4 j y hy
      cases e1
      have hr:cs=[vB y]:=hr
      subst hr
      have:=hc.2.2 0 (vB y) rfl
      rw [add_add] at this
      rw [show j=j*Enc.u8.size+0 from by show j=j*1+0;omega]
      exact this
section
variable {P:Program} {ty:TypeId} {F:Fr} {w w0:World} {O0 B:List Nat} {K:Value→World→Prop} {Z:List PanicEntry→World→Prop} {x y:Operand}
theorem o_append8 {t e:Nat} {z:Value} {bytes:Nat} {v u:Value} {l m:List UInt8} {O':List Nat} (ht:P.underlying t=some (.slice e)) (hi:(P.info? e).map (fun i=>(i.zero,i.size,i.bytes))=some (some z,Enc.u8.size,bytes)) (hzs:z.cells.size=Enc.u8.size) (hpos:0<Enc.u8.size)
    (hx:CQ F x=v) (hy:CQ F y=u) (ho:EG Enc.u8 e w0.heap.size (B++O0) w v l) (hu:AZ Enc.u8 w O' u m) (hv:∀ b,v.ownBlock=some b→b∈B) (hlen:(l.length+m.length)*bytes≤140737488355328) (hlm:l.length+m.length≤maxLen) (s:St w0 O0 w B)
    (h:∀ v' w' B',(∀ b,v'.ownBlock=some b→b∈B')→(v'.ownBlock=v.ownBlock∨v'.ownBlock=some w.heap.size)→(∀ b∈B,b∈B')→St w0 O0 w' B'→Mv B w B' w'→Keep v.ownBlock.toList w w'→EG Enc.u8 e w0.heap.size (B'++O0) w' v' (l++m)→K v' w') :
    DL P (.call { callee:=.builtin .append,args:=#[x,y],argTypes:=#[t,t] }) ty F w K Z:=by
  have hu0:=hu
  obtain ⟨A,c,e1,h2,h3,h4⟩:=hu
  cases A with
  | none=>
    have hm:m=[]:=by
      cases m with
      | nil=>rfl
      | cons a r=>obtain ⟨ad,_,e2,_⟩:=h4 0 a rfl;cases e2
    subst hm
    exact DG (O':=B++O0) ht hi hzs hpos hx hy ho ⟨none,c,e1,h2,h3,fun i y hi=>by simp at hi⟩ (fun b hb=>.inl hb) hv hlen hlm s h
  | some A=>
    subst e1
    exact o_appendN (uw:=w) (O':=O') ht hi hzs hpos hx hy ho hu0.n8 (fun cs y h=>h) hv hlen hlm s h
end
open Go.RowKit
section
variable {P:Program} {n:Nat} {Q:Exit→Fr→World→Prop} {ro:Option Nat}
theorem wpOpIn_F {ops:List Oper} {i:Nat} {o:Oper} {F1:Fr} {w1:World} {K:Fr→World→Prop} {K':Act→World→Prop} (hok:ops.all (OU n ops)=true) (ho:ops[i]? = some o) (hK:∀ F w,K F w→K' (mk n F) w)
    (h1:Region.wanted o (DO ops F1)=true→DL P o.op o.type F1 w1 (fun v w2=>K (IS F1 o.dst v) w2) (fun c w2=>Q (.panic c) F1 w2)∨(true=true∧RoundW P o.op o.type F1 w1 (fun v w2=>K (IS F1 o.dst v) w2) (fun c w2=>Q (.panic c) F1 w2))) (h2:Region.wanted o (DO ops F1)=false→K (IS F1 o.dst undef) w1) :
    wpOpIn (fen ro) 0 P ops.toArray (KL n Q) i K' (mk n F1) w1:=by
  have hoo:OU n ops o=true:=List.all_eq_true.1 hok o (List.mem_of_getElem? ho)
  unfold wpOpIn
  simp only [List.getElem?_toArray,ho]
  rw [QW hoo]
  split
  · rename_i hw
    refine ⟨fun _ _=>trivial,?_⟩
    rw [Oper.semAt_eq _ _ _ (VA hoo),RK o hoo,RL]
    rcases h1 hw with h|⟨_,h⟩
    · exact PW (fun v w' hk=>by rw [JW _ _ _ _ (JF hoo)];exact hK _ _ hk) (fun c w' hz=>⟨F1,rfl,hz⟩) h
    · exact QP (fun v w' hk=>by rw [JW _ _ _ _ (JF hoo)];exact hK _ _ hk) (fun c w' hz=>⟨F1,rfl,hz⟩) h
  · rename_i hw
    rw [JW _ _ _ _ (JF hoo)]
    exact ⟨fun _ _=>trivial,hK _ _ (h2 (by simpa using hw))⟩
theorem tail_runY {ops:List Oper} {m:Nat} (hd:DOk ops m) (hok:ops.all (OU n ops)=true):∀ (fuel k:Nat) (listed:Array Bool) (F1:Fr) (w1:World),listed.size=ops.length→m≤k→ops.length≤k+fuel→k≤ops.length→(∀ j,j<ops.length→(listed[j]? = some true↔j<k))→
    WL true P ops Q (ops.drop k) F1 w1→wpAnyIn (fen ro) 0 P .any ops.toArray (KL n Q) fuel listed (mk n F1) w1:=by
  have fin:∀ (k:Nat) (listed:Array Bool) (F1:Fr) (w1:World),listed.size=ops.length→k≤ops.length→(∀ j,j<ops.length→(listed[j]? = some true↔j<k))→WL true P ops Q (ops.drop k) F1 w1→Region.ready .any ops.toArray listed=[]→KL n Q .normal (mk n F1) w1:=by
    intro k listed F1 w1 hsz hkn hl h hr
    by_cases hkl:k<ops.length
    · have:=QE hd hsz hkl (fun e=>by have:=(hl k hkl).1 e;omega) (fun j hj=>(hl j (by omega)).2 hj)
      rw [hr] at this;cases this
    · rw [List.drop_eq_nil_of_le (by omega)] at h
      exact ⟨F1,rfl,h⟩
  intro fuel
  induction fuel with
  | zero=>
    intro k listed F1 w1 hsz hmk hfu hkn hl h
    have hr:Region.ready .any ops.toArray listed=[]:=by
      unfold Region.ready
      rw [List.filter_eq_nil_iff]
      intro j hj
      have hjl:j<ops.length:=by simpa using hj
      have h1:=(hl j hjl).2 (by omega)
      have:j<listed.size:=by omega
      rw [Array.getElem?_eq_getElem this] at h1
      simp only [Option.some.injEq] at h1
      simp [this,h1]
    exact ⟨hr,fin k listed F1 w1 hsz hkn hl h hr⟩
  | succ fuel ih=>
    intro k listed F1 w1 hsz hmk hfu hkn hl h
    refine ⟨fin k listed F1 w1 hsz hkn hl h,fun i hi=>?_⟩
    obtain ⟨hnl,hil⟩:=KM hi hsz
    have hki:k≤i:=by
      rcases Nat.lt_or_ge i k with h1|h1
      · have:=(hl i hil).2 h1;rw [hnl] at this;cases this
      · exact h1
    have hdown:∀ i,listed[i]? = some true→∀ j∈KX ops i,listed[j]? = some true:=by
      intro i hi j hj
      have h1:i<ops.length:=by have:=(Array.getElem?_eq_some_iff.1 hi).1;omega
      have h2:=(hl i h1).1 hi
      have h3:=hd.back i h1 j hj
      exact (hl j (by omega)).2 (by omega)
    have hik:i=k:=by
      rcases Nat.eq_or_lt_of_le hki with e|hlt
      · exact e.symm
      · have h1:=MN hd hsz hdown hi (by omega) k hlt
        have:=(hl k (by omega)).1 h1;omega
    subst hik
    have ho:ops[i]? = some ops[i]:=List.getElem?_eq_getElem hil
    rw [List.drop_eq_getElem_cons hil] at h
    have hl':∀ j,j<ops.length→((listed.setIfInBounds i true)[j]? = some true↔j<i+1):=by
      intro j hj
      rw [Array.getElem?_setIfInBounds]
      by_cases hji:i=j
      · subst hji;simp;omega
      · rw [if_neg hji,hl j hj];omega
    refine wpOpIn_F (K:=fun F w=>WL true P ops Q (ops.drop (i+1)) F w) hok ho (fun F w hK=>ih (i+1) _ F w (by simpa using hsz) (by omega) (by omega) (by omega) hl' hK) (fun hw=>?_) (fun hw=>?_)
    · unfold WL at h;rw [if_pos hw] at h;exact h
    · unfold WL at h;rw [if_neg (by rw [hw];simp)] at h;exact h
theorem draw_runY {ops:List Oper} {m:Nat} {Ts:List Pr} {F:Fr} {w:World} (hd:DOk ops m) (hok:ops.all (OU n ops)=true) (hst:∀ i v w w',NH Ts i v w→Keep [] w w'→NH Ts i v w') (hm:m≤ops.length) (hlen:Ts.length=m)
    (hs:NA P ops m Ts F w 0 (ops.take m) Ts)
    (fin:∀ F1 w1,Keep [] w w1→(∀ i o d,i<m→ops[i]? = some o→o.dst=some d→NH Ts i (F1 d) w1)→(∀ t,(∀ j o,j<m→ops[j]? = some o→o.dst≠some t)→F1 t=F t)→WL true P ops Q (ops.drop m) F1 w1) :
    ∀ (fuel:Nat) (listed:Array Bool) (F1:Fr) (w1:World),listed.size=ops.length→PM ops listed≤fuel→(∀ j,m≤j→listed[j]?≠some true)→DInv ops m Ts F w listed F1 w1→wpAnyIn (fen ro) 0 P .any ops.toArray (KL n Q) fuel listed (mk n F1) w1:=by
  intro fuel
  -- all of the first m are listed: on to the tail
  have toTail:∀ (fuel:Nat) (listed:Array Bool) (F1:Fr) (w1:World),listed.size=ops.length→PM ops listed≤fuel→(∀ j,m≤j→listed[j]?≠some true)→DInv ops m Ts F w listed F1 w1→(∀ j,j<m→listed[j]? = some true)→wpAnyIn (fen ro) 0 P .any ops.toArray (KL n Q) fuel listed (mk n F1) w1:=by
    intro fuel listed F1 w1 hsz hfu hno hi hall
    have hfl:ops.length≤m+fuel:=by
      have:ops.length - m≤PM ops listed:=by
        unfold PM
        have e:List.range ops.length=List.range m++(List.range (ops.length - m)).map (m + ·):=by
          rw [← List.range_add];congr 1;omega
        rw [e,List.countP_append]
        have:((List.range (ops.length - m)).map (m + ·)).countP (fun j=>listed[j]? != some true)=ops.length - m:=by
          rw [List.countP_eq_length.2]
          · simp
          · intro j hj
            obtain ⟨q,_,rfl⟩:=List.mem_map.1 hj
            have:=hno (m+q) (by omega)
            simpa using this
        omega
      omega
    refine tail_runY hd hok fuel m listed F1 w1 hsz (Nat.le_refl _) hfl hm (fun j hj=>⟨fun h=>?_,fun h=>hall j h⟩) (fin F1 w1 hi.keep (fun i o d him ho hdst=>hi.fact i o d him (hall i him) ho hdst) (fun t ht=>hi.free t (fun j o hj ho=>?_)))
    · rcases Nat.lt_or_ge j m with h1|h1
      · exact h1
      · exact absurd h (hno j h1)
    · rcases Nat.lt_or_ge j m with h1|h1
      · exact ht j o h1 ho
      · exact absurd hj (hno j h1)
  induction fuel with
  | zero=>
    intro listed F1 w1 hsz hfu hno hi
    refine toTail 0 listed F1 w1 hsz hfu hno hi (fun j hj=>?_)
    have h0:PM ops listed=0:=by omega
    unfold PM at h0
    have:=List.countP_eq_zero.1 h0 j (by simp;omega)
    simpa using this
  | succ fuel ih=>
    intro listed F1 w1 hsz hfu hno hi
    by_cases hall:∀ j,j<m→listed[j]? = some true
    · exact toTail (fuel+1) listed F1 w1 hsz hfu hno hi hall
    · have hex:∃ j,j<m∧listed[j]?≠some true:=by
        refine Classical.byContradiction fun hc=>hall fun j hj=>Classical.byContradiction fun hn=>hc ⟨j,hj,hn⟩
      -- the first that is not listed is ready
      have hmin:∀ q j,q=j→j<m→listed[j]?≠some true→∃ k,k<m∧listed[k]?≠some true∧∀ i,i<k→listed[i]? = some true:=by
        intro q
        induction q using Nat.strongRecOn with
        | _ q ihq=>
          intro j hqj hj hn
          by_cases hb:∀ i,i<j→listed[i]? = some true
          · exact ⟨j,hj,hn,hb⟩
          · have:∃ i,i<j∧listed[i]?≠some true:=Classical.byContradiction fun hc=>hb fun i hi=>Classical.byContradiction fun hn=>hc ⟨i,hi,hn⟩
            obtain ⟨i,hij,hni⟩:=this
            exact ihq i (by omega) i rfl (by omega) hni
      obtain ⟨j0,hj0,hn0⟩:=hex
      obtain ⟨k,hkm,hkn,hkb⟩:=hmin j0 j0 rfl hj0 hn0
      refine ⟨fun h0=>?_,fun i hir=>?_⟩
      · have:=QE hd hsz (by omega) hkn hkb
        rw [h0] at this;cases this
      · obtain ⟨hnl,hil⟩:=KM hir hsz
        have him:i<m:=by
          rcases Nat.lt_or_ge i m with h1|h1
          · exact h1
          · exact absurd (MN hd hsz hi.down hir h1 k (by omega)) hkn
        have ho:ops[i]? = some ops[i]:=List.getElem?_eq_getElem hil
        have haft:=HY ho hir hsz (fun j hj=>Nat.lt_trans (hd.back i hil j hj) hil)
        have hT:Ts[i]? = some Ts[i]:=List.getElem?_eq_getElem (by omega)
        have hsp:=hs.at_ (ops.take m) Ts 0 i ops[i] Ts[i] (by rw [List.getElem?_take,if_pos him];exact ho) hT
        rw [Nat.zero_add] at hsp
        have hTi:NH Ts i=Ts[i]:=by unfold NH;rw [hT];rfl
        have hsp':=hsp F1 w1 hi.keep (fun t ht=>hi.free t (fun j oj hj hoj=>by
          intro e
          unfold NK at ht
          have h1:=List.all_eq_true.1 ht j (by simp;exact (List.getElem?_eq_some_iff.1 hoj).1)
          rw [hoj] at h1
          simp only [e,Bool.or_eq_true,List.contains_iff_mem] at h1
          rcases h1 with h1|h1
          · simp at h1
          · have:=hi.down j hj i h1
            rw [hnl] at this;cases this)) (fun j d hdep=>by
          unfold UI at hdep
          simp only [Bool.and_eq_true] at hdep
          obtain ⟨⟨h1,h2⟩,h3⟩:=hdep
          have hjl:=haft j (by simpa using h2)
          cases hoj:ops[j]? with
          | none=>rw [hoj] at h1;cases h1
          | some oj=>
            rw [hoj] at h1
            simp only [Option.bind_some] at h1
            cases hd':oj.dst with
            | none=>rw [hd'] at h1;cases h1
            | some e=>
              rw [hd'] at h1
              have:=Nat.eq_of_beq_eq_true h1
              subst this
              exact hi.fact j oj e (blt h3) hjl hoj hd')
        have hdist:∀ (j:Nat) (oj:Oper),j<m→j≠i→ops[j]? = some oj→oj.dst≠none→oj.dst≠ops[i].dst:=fun j oj hj hji hoj hne=>hd.dist j i oj ops[i] hj him hji hoj ho hne
        have hno':∀ j,m≤j→(listed.setIfInBounds i true)[j]?≠some true:=fun j hj=>by
          rw [Array.getElem?_setIfInBounds,if_neg (by omega)];exact hno j hj
        refine wpOpIn_F (K:=fun F2 w2=>DInv ops m Ts F w (listed.setIfInBounds i true) F2 w2) hok ho (fun F2 w2 hK=>ih _ F2 w2 (by simpa using hsz) (by have:=IL hil hsz hnl;omega) hno' hK) (fun hw=>.inl ?_) (fun hw=>?_)
        · have h1:=hsp'.1 hw
          unfold DL at h1 ⊢
          generalize (execOp (CQ F1) ⟨none,ops[i].op,ops[i].type,"",#[],none⟩).run P w1=r at h1 ⊢
          have use:∀ v w2,Keep [] w1 w2∧Ts[i] v w2→DInv ops m Ts F w (listed.setIfInBounds i true) (IS F1 ops[i].dst v) w2:=fun v w2 ⟨hk,hv⟩=>hi.step hst hsz hil ho haft hdist hk (fun _ _ _=>by rw [hTi];exact hv)
          cases r with
          | ok x w'=>
            cases x <;> simp only [FS] at h1 ⊢ <;> try exact h1.elim
            case value v=>exact use _ _ h1
            case skip=>exact use _ _ h1
            case enter f args=>
              exact Calls.mono h1 fun e w'' he=>by
                cases e with
                | returned v=>exact use _ _ he
                | panicked c=>exact he.elim
                | outgrown=>exact he.elim
          | halt x w'=>cases x <;> simp only [FS] at h1 ⊢ <;> exact h1.elim
        · have h1:=hsp'.2 hw
          exact hi.step hst hsz hil ho haft hdist (Keep.refl _ _) (fun _ _ _=>by rw [hTi];exact h1)
theorem cw_drawY0 {id:Nat} {ops:List Oper} {F:Fr} {w:World} (m:Nat) (Ts:List Pr) (hm:P.follows .mixedOrders=true) (hok:ops.all (OU n ops)=true) (hd:RF ops m=true) (hlen:(Nat.beq Ts.length m && Nat.ble m ops.length)=true) (hst:∀ T∈Ts,∀ v w w',T v w→Keep [] w w'→T v w')
    (hs:NA P ops m Ts F w.drew 0 (ops.take m) Ts)
    (fin:∀ F1 w1,Keep [] w w1→(∀ i d,depAt' ops i d=true→i<m→NH Ts i (F1 d) w1)→(∀ t,NC ops m t=true→F1 t=F t)→WL true P ops Q (ops.drop m) F1 w1):CW P (ro:=ro) n (.region id ops.toArray true) Q F w:=by
  simp only [Bool.and_eq_true] at hlen
  have hle:m≤ops.length:=Nat.le_of_ble_eq_true hlen.2
  have hdr:({ w with drawn:=w.drawn+1 }:World)=w.drew:=rfl
  refine wpIn_region_any hm ?_
  rw [hdr,List.size_toArray]
  refine draw_runY (DOk.of hd) hok (fun i v w w' h hk=>?_) hle (Nat.eq_of_beq_eq_true hlen.1) hs (fun F1 w1 hk h1 h2=>fin F1 w1 ((Keep.drew [] w).trans hk) (fun i d hdp him=>?_) (fun t ht=>h2 t (fun j o hj ho e=>?_))) ops.length _ F w.drew (by simp) ?_ (fun j _=>?_) ⟨Keep.refl _ _,fun i hi=>?_,fun i o d _ hi=>?_,fun _ _=>rfl⟩
  · unfold NH at h ⊢
    cases hT:Ts[i]? with
    | none=>rw [hT] at h;exact trivial
    | some T=>rw [hT] at h;exact hst T (List.mem_of_getElem? hT) v w w' h hk
  · unfold depAt' at hdp
    cases ho:ops[i]? with
    | none=>rw [ho] at hdp;cases hdp
    | some o=>
      rw [ho] at hdp
      simp only [Option.bind_some] at hdp
      cases hd':o.dst with
      | none=>rw [hd'] at hdp;cases hdp
      | some e=>
        rw [hd'] at hdp
        have:=Nat.eq_of_beq_eq_true hdp
        subst this
        exact h1 i o e him ho hd'
  · unfold NC at ht
    have h3:=List.all_eq_true.1 ht o (List.mem_of_getElem? (by rw [List.getElem?_take,if_pos hj];exact ho))
    rw [e] at h3;simp at h3
  · unfold PM;exact Nat.le_trans (List.countP_le_length) (by simp)
  all_goals simp_all [Array.getElem?_replicate]
theorem cw_drawY {id:Nat} {ops:List Oper} {F:Fr} {w:World} (m:Nat) (pre tl:List Oper) (Ts:List Pr) (hm:P.follows .mixedOrders=true) (hok:ops.all (OU n ops)=true) (hd:RF ops m=true) (hlen:(Nat.beq Ts.length m && Nat.ble m ops.length)=true) (hpre:ops.take m=pre) (htl:ops.drop m=tl) (hst:Stab Ts)
    (hs:NA P ops m Ts F w.drew 0 pre Ts)
    (fin:∀ F1 w1,Keep [] w w1→(∀ i d,depAt' ops i d=true→i<m→NH Ts i (F1 d) w1)→(∀ t,NC ops m t=true→F1 t=F t)→WL true P ops Q tl F1 w1):CW P (ro:=ro) n (.region id ops.toArray true) Q F w:=by
  subst hpre;subst htl
  exact cw_drawY0 m Ts hm hok hd hlen hst.of hs fin
end
section
variable {P:Program} {ty:TypeId} {F:Fr} {w:World} {K:Value→World→Prop} {Z:List PanicEntry→World→Prop} {x y:Operand}
end
end Go.Fw
namespace Go.Proofs.Ytjgfokolnkhafaa
open Go.Fw Go.RowKit
set_option maxHeartbeats 4000000 in
set_option maxRecDepth 100000 in
theorem c_cloneB {O:List Nat} (l_v:Value) (l:List UInt8) (w:World) (a0:AZ Enc.u8 w O l_v l) (hpre0:l.length≤1000000) (hO:∀ b∈O,b<w.heap.size):CD Try.prog 98 [l_v] w (fun v w'=>∃ (x0:Value),v=x0∧(∀ b,x0.ownBlock=some b→w.heap.size≤b)∧EG Enc.u8 5 w.heap.size (x0.ownBlock.toList++(O)) w' x0 (l)):= by
 have c2:=a0.len_le
 have a0:AZ Enc.u8 w ([]++O) l_v l:=a0
 have s0:St w O w []:=St.start hO
 refine BK 8 Try.func98 rfl rfl oT (fun F0=>AI (AC kR (AA (AF (nS) rfl (AH (AD (AI (AI (AC kR (AA (AG (l_v) rfl (AA (IX U23_ rfl rfl a0 fun a1 a9=>(AH (AD (AN (a1) rfl rfl (fun a2=>?_) (fun a2=>?_)))))))))))))))))
 ·have b8:a1=true:=by simpa using a2
  refine AI (AC kR (AA (AF (nS) rfl (AH (AD (AQ (AR (AX rfl (CK rfl rfl rfl) (?_)))))))))
  have a3:l=[]:=a9 aS
  have b9:AZ Enc.u8 w ([]++O) (.slice none 0 0) (l):=by rw [a3];exact AZ.nil _ _ _
  exact ⟨_,rfl,s0.keep,⟨.slice none 0 0,rfl,(fun b hb=>by simp [Value.ownBlock] at hb),(by rw [a3];exact EG.nil _ _ _ _ _)⟩⟩
 have c0:a1=false:=by simpa using a2
 refine AW (AD (AI (AC kR (AA (II (E:=Enc.u8) (xs:=[]) U23_ IR z_5 (by decide) [] [] [] rfl rfl rfl (Parts.nil _ _ _) oT s0 fun b2 b3 c3 b4 a4 b5 b6 c4 b0=>(?_))))))
 have b1:∀ b,b2.ownBlock=some b→b∈(b3 :: []):=fun b hb=>by rw [a4] at hb;cases hb;simp
 clear b4 a4
 have a0:=a0.mv b6
 refine AA (AG (l_v) rfl (AA (DG (E:=Enc.u8) (l:=[]) (m:=l) U23_ i_5 rfl (by decide) rfl rfl b0 a0 (fun _ hb=>.inl hb) b1 (by simp;omega) (by simp [maxLen];omega) b5 fun a7 c5 c6 a5 c1 b7 a8 c7 c8 a6=>(?_))))
 rw [List.nil_append] at a6
 refine AA (AF (a7) rfl (AH (AD (AQ (AX rfl (CK rfl rfl rfl) (?_))))))
 exact ⟨_,rfl,a8.keep,⟨a7,rfl,(fun b hb=>(a8.new b (a5 b hb)).1),(a6.sub (fun x hx=>.inl ((List.mem_append.1 hx).elim (fun h=>List.mem_append_left _ (a5 x (by simpa using h))) (fun h=>List.mem_append_right _ h))))⟩⟩
set_option maxHeartbeats 4000000 in
set_option maxRecDepth 100000 in
theorem c_xor {O:List Nat} (x_v:Value) (x:List UInt8) (y_v:Value) (y:List UInt8) (w:World) (b2:AZ Enc.u8 w O x_v x) (a1:AZ Enc.u8 w O y_v y) (hpre0:x.length≤1000000) (hpre1:x.length≤y.length) (hO:∀ b∈O,b<w.heap.size):CD Try.prog 54 [x_v,y_v] w (fun v w'=>∃ (x0:Value),v=x0∧AZ Enc.u8 w' (O) x0 (xorM x y)):= by
 have e3:=b2.len_le
 have b2:AZ Enc.u8 w ([]++O) x_v x:=b2
 have e4:=a1.len_le
 have a1:AZ Enc.u8 w ([]++O) y_v y:=a1
 have s0:St w O w []:=St.start hO
 refine BK 26 Try.func54 rfl rfl oT (fun F0=>AI (AC kR (AA (AF (nS) rfl (AH (AD (AI (AC kR (AA (AG (x_v) rfl (AA (BD (vs:=[x_v]) enter_98 (c_cloneB (O:=[]++O) x_v x w b2 oM s0.lt) rfl s0 fun a8 e5 e6 e7 c3 c4=>(?_)))))))))))))
 obtain ⟨_,rfl,b5,a5⟩:=c4
 obtain ⟨c5,b6,e0,c6,c7,a5⟩:=own_take s0 c3 b5 a5
 have a1:=a1.mv c7
 refine AA (AF (a8) rfl (AH (AD (AI (AI (AC kR (AA (AG (a8) rfl (AA (SU U23_ rfl a5 (AA (AG (vI 0) rfl (AH (AD (BO (DJ (fun mI FI wI=>∃ (k:Nat) (a0:Value) (B:List Nat),k≤x.length∧mI=x.length - k∧(∃ F1,FI=GO F1 [(1,y_v),(5,a0),(10,vI (x.length:Int)),(11,vI ((k:Nat):Int)),(26,undef)])∧St w O wI B∧EG Enc.u8 5 w.heap.size (B++O) wI a0 (KZ x y k)∧(∀ b,a0.ownBlock=some b→b∈B)∧AZ Enc.u8 wI (B++O) (y_v) (y)) (x.length - (0)) ?_ ?_))))))))))))))))
 ·exact ⟨(0),a8,c5,oM,rfl,⟨_,BB _ ⟨rfl,rfl,rfl,(by rfl),rfl,trivial⟩⟩,c6,(by rw [show KZ x y (0)=x from xorP_zero _ _];exact a5),b6,a1⟩
 intro f2 F a6 hI
 clear a1
 obtain ⟨k,a0,a2,hr0_0,f3,⟨f4,rfl⟩,b7,ho0_5,b3,a1⟩:=hI
 refine AI (AC kR (AA (DY .i64 ((k:Nat):Int) (x.length:Int) rfl rfl (AH (AD (AI (AN (decide (((k:Nat):Int)<(x.length:Int))) rfl rfl (fun a7=>?_) (fun a7=>?_))))))))
 ·have e1:((k:Nat):Int)<(x.length:Int):=by simpa using a7
  refine AW (AD (AI (BO (AI (AC kR (AA (AG (vI ((k:Nat):Int)) rfl (AA (AF (vI ((k:Nat):Int)) rfl (AH (AD (cw_draw' 8 _ _ [DB a0,DB (vI ((k:Nat):Int)),fun (vT:Value) (wT:World)=>∃ bT,vT = .pointer (some ⟨bT,k*1,none⟩)∧a0.ownBlock=some bT,DB (vB ((KZ x y k)[k]!)),fun (vT:Value) (wT:World)=>AZ Enc.u8 wT (a2++O) vT (y),DB (vI ((k:Nat):Int)),fun (vT:Value) (wT:World)=>∃ aT,vT = .pointer (some aT)∧PT Enc.u8 wT (a2++O) (.pointer (some aT)) (y[k]!),DB (vB (y[k]!))] kR kR kR kR rfl rfl ⟨kI,kI,fun _ _ _ h _=>h,kI,fun _ _ _ h k=>h.mv (Mv.of_keep k),kI,fun _ _ _ ⟨a,e,h⟩ k=>⟨a,e,h.mv (Mv.of_keep k)⟩,kI,trivial⟩ ⟨?_,?_,?_,?_,?_,?_,?_,?_,trivial⟩ ?_))))))))))))
  ·intro F1 w1 k1 hf hd
   obtain ⟨F2,rfl⟩:=AM (F:=F1) [(5,a0)] ⟨hf 5 kR,trivial⟩
   exact AK rfl ((AG (a0) rfl (⟨(Keep.refl _ _),rfl⟩)))
  ·intro F1 w1 k1 hf hd
   obtain ⟨F2,rfl⟩:=AM (F:=F1) [(6,vI ((k:Nat):Int))] ⟨hf 6 kR,trivial⟩
   exact AK rfl ((AG (vI ((k:Nat):Int)) rfl (⟨(Keep.refl _ _),rfl⟩)))
  ·intro F1 w1 k1 hf hd
   have k0:=(Keep.drew [] a6).trans k1
   have m1:Mv a2 a6 a2 w1:=Mv.of_keep k0
   have ho0_5:=ho0_5.mv m1 k0 (by simp)
   obtain ⟨F2,rfl⟩:=AM (F:=F1) [(14,a0),(15,vI ((k:Nat):Int))] ⟨hd 0 14 kR,hd 1 15 kR,trivial⟩
   exact AK rfl ((EP U23_ IR .i64 ((k:Nat):Int) k rfl rfl rfl ho0_5 (by have:=GH x y k;omega) fun e8 b8=>(⟨(Keep.refl _ _),⟨_,rfl,b8⟩⟩)))
  ·intro F1 w1 k1 hf hd
   have k0:=(Keep.drew [] a6).trans k1
   have m1:Mv a2 a6 a2 w1:=Mv.of_keep k0
   have ho0_5:=ho0_5.mv m1 k0 (by simp)
   obtain ⟨c8,c9,b9⟩:∃ b,F1 16 = .pointer (some ⟨b,k*1,none⟩)∧a0.ownBlock=some b:=hd 2 16 kR
   obtain ⟨F2,rfl⟩:=AM (F:=F1) [(16,vP (some ⟨c8,k*1,none⟩))] ⟨c9,trivial⟩
   exact AK rfl ((MI U5_ rfl rfl ho0_5 b9 (by have:=GH x y k;omega) (⟨(Keep.refl _ _),rfl⟩)))
  ·intro F1 w1 k1 hf hd
   have k0:=(Keep.drew [] a6).trans k1
   have m1:Mv a2 a6 a2 w1:=Mv.of_keep k0
   have a1:=a1.mv m1
   obtain ⟨F2,rfl⟩:=AM (F:=F1) [(1,y_v)] ⟨hf 1 kR,trivial⟩
   exact AK rfl ((AG (y_v) rfl (⟨(Keep.refl _ _),a1⟩)))
  ·intro F1 w1 k1 hf hd
   obtain ⟨F2,rfl⟩:=AM (F:=F1) [(6,vI ((k:Nat):Int))] ⟨hf 6 kR,trivial⟩
   exact AK rfl ((AG (vI ((k:Nat):Int)) rfl (⟨(Keep.refl _ _),rfl⟩)))
  ·intro F1 w1 k1 hf hd
   obtain ⟨d0,d1,b0⟩:∃ v,F1 18=v∧AZ Enc.u8 w1 (a2++O) v (y):=⟨_,rfl,hd 4 18 kR⟩
   have:=b0.len_le
   obtain ⟨F2,rfl⟩:=AM (F:=F1) [(18,d0),(19,vI ((k:Nat):Int))] ⟨d1,hd 5 19 kR,trivial⟩
   exact AK rfl ((DF U23_ IR .i64 ((k:Nat):Int) k rfl rfl rfl b0 (by have:=GH x y k;omega) fun d2 c0=>(⟨(Keep.refl _ _),⟨d2,rfl,c0⟩⟩)))
  ·intro F1 w1 k1 hf hd
   obtain ⟨d3,d4,c1⟩:∃ aX_,F1 20 = .pointer (some aX_)∧PT Enc.u8 w1 (a2++O) (.pointer (some aX_)) (y[k]!):=hd 6 20 kR
   obtain ⟨F2,rfl⟩:=AM (F:=F1) [(20,vP (some d3))] ⟨d4,trivial⟩
   exact AK rfl ((HM U5_ rfl rfl c1 (⟨(Keep.refl _ _),rfl⟩)))
  intro d5 d6 a9 a4 a3
  have d7:=b7.call a9
  have b4:Mv a2 a6 a2 d6:=Mv.of_keep a9
  have a1:=a1.mv b4
  have ho0_5:=ho0_5.mv b4 a9 (by simp)
  obtain ⟨F2,rfl⟩:=AM (F:=d5) [(1,y_v),(5,a0),(10,vI (x.length:Int)),(11,vI ((k:Nat):Int)),(26,undef),(14,a0),(15,vI ((k:Nat):Int)),(17,vB ((KZ x y k)[k]!)),(21,vB (y[k]!))] ⟨a3 1 kR,a3 5 kR,a3 10 kR,a3 11 kR,a3 26 kR,a4 0 14 kR (by decide),a4 1 15 kR (by decide),a4 3 17 kR (by decide),a4 7 21 kR (by decide),trivial⟩
  clear a4 a3
  refine AA (OA ((KZ x y k)[k]!) (y[k]!) rfl rfl (AA (EP U23_ IR .i64 ((k:Nat):Int) k rfl rfl rfl ho0_5 (by have:=GH x y k;omega) fun e9 b1=>(BX (KQ (((KZ x y k)[k]!) ^^^ (y[k]!)) IR rfl rfl rfl ho0_5 b1 (b3 _ b1) (by have:=GH x y k;omega) rfl d7 fun f0 d8 d9 f1 c2=>(?_))))))
  have a1:=a1.mv d9
  refine AH (CI (AD (AC kR (AA (DE .i64 ((k:Nat):Int) (1:Int) (((k+1:Nat):Int)) rfl rfl (GR oM oM) (AA (AG (vI ((k+1:Nat):Int)) rfl (AH (AD (?_))))))))))
  exact ⟨_,oM,(k+1),a0,a2,oM,rfl,⟨_,BB _ ⟨rfl,rfl,rfl,(by rfl),rfl,trivial⟩⟩,d8,(by rw [show KZ x y (k+1)=(KZ x y k).set k (((KZ x y k)[k]!) ^^^ (y[k]!)) from (xorP_set oM).symm];exact c2),b3,a1⟩
 have e2:(x.length:Int)≤((k:Nat):Int):=by simpa using a7
 obtain rfl:k=x.length:=by omega
 refine DI (CF (CF (CY (AD (AI (AC kR (AA (AG (a0) rfl (AA (AF (a0) rfl (AH (AD (AQ (AX rfl (CK rfl rfl rfl) (?_)))))))))))))))
 have e:(xorM x y)=(KZ x y x.length):=by exact (xorP_all _ _).symm
 exact ⟨_,rfl,b7.keep,by rw [e];exact ⟨a0,rfl,ho0_5.pub b7⟩⟩
set_option maxHeartbeats 4000000 in
set_option maxRecDepth 100000 in
theorem c_pairs11 {O:List Nat} (x_cs:List Value) (x:Share) (s_a:Addr) (s:Share) (w:World) (a1:Enc.share.rd w O x_cs x) (a0:PT Enc.share w O (.pointer (some s_a)) s) (hO:∀ b∈O,b<w.heap.size):CD Try.prog 97 [.agg x_cs.toArray, .pointer (some s_a)] w (fun v _=>v = .bool (x.index == s.index)):= by
 have a1:Enc.share.rd w ([]++O) x_cs x:=a1
 have a0:PT Enc.share w ([]++O) (.pointer (some s_a)) s:=a0
 have s0:St w O w []:=St.start hO
 refine BK 9 Try.func97 rfl rfl oT (fun F0=>AI (AC kR (AA (DK (E:=Enc.share) (vA x_cs.toArray) (x_cs) x rfl rfl a1 s0 fun a7 a8 a5 a6 a9 a2=>(?_)))))
 have a0:=a0.mv a6
 refine AA (AF (vO false) rfl (AH (AD (AI (AC kR (AA (BI 1 OB (x.index) rfl a2 (fun _ _ _ h=>IO h) fun b0 a3=>(AA (CA U3_ rfl rfl a3 (AA (BI 1 OB (s.index) rfl a0 (fun _ _ _ h=>IO h) fun b1 a4=>(AA (CA U3_ rfl rfl a4 (AA (EV .i64 x.index s.index rfl rfl (AA (AF (vO (x.index == s.index)) rfl (AH (AD (AQ (AX rfl (CK rfl rfl rfl) (?_))))))))))))))))))))))
 exact ⟨_,rfl,a5.keep,rfl⟩
set_option maxHeartbeats 4000000 in
set_option maxRecDepth 100000 in
theorem c_pairs {O:List Nat} (l_v:Value) (l:List Share) (others_v:Value) (others:List Share) (w:World) (a2:AZ Enc.share w O l_v l) (a0:AZ Enc.share w O others_v others) (hO:∀ b∈O,b<w.heap.size):CD Try.prog 53 [l_v,others_v] w (fun v w'=>∃ (a0_0:Addr) (a0_1:Addr),v = .func (.func 95) #[] #[.pointer (some a0_0), .pointer (some a0_1)]∧PT (Enc.slice Enc.share) w' (O) (.pointer (some a0_0)) (l)∧PT (Enc.slice Enc.share) w' (O) (.pointer (some a0_1)) (others)):= by
 have b1:=a2.len_le
 have a2:AZ Enc.share w ([]++O) l_v l:=a2
 have a6:=a0.len_le
 have a0:AZ Enc.share w ([]++O) others_v others:=a0
 have s0:St w O w []:=St.start hO
 refine BK 6 Try.func53 rfl rfl oT (fun F0=>AI (AC kR (AA (DK (E:=(Enc.slice Enc.share)) (l_v) ([l_v]) l rfl (FD a2.oneCell) ⟨_,rfl,a2⟩ s0 fun a3 b2 a7 a8 b3 a1=>(?_)))))
 have a0:=a0.mv a8
 refine AA (DK (E:=(Enc.slice Enc.share)) (others_v) ([others_v]) others rfl (FD a0.oneCell) ⟨_,rfl,a0⟩ a7 fun a4 b4 a9 b0 b5 a5=>(?_))
 have a1:=a1.mv b0
 refine AA (AF (Value.nilFunc) rfl (AH (AD (AI (AC kR (AA (CZ (first:=[]) (captured:=[.tmp 2, .tmp 3]) [] [vP (some a3),vP (some a4)] rfl rfl (AA (AF (vN (.func 95) #[] #[vP (some a3),vP (some a4)]) rfl (AH (AD (AQ (AX rfl (CK rfl rfl rfl) (?_))))))))))))))
 exact ⟨_,rfl,a9.keep,⟨_,_,rfl,(a1.sub (fun b hb=>.inl (List.mem_append_right _ hb))),(a5.sub (fun b hb=>.inl (List.mem_append_right _ hb)))⟩⟩
end Go.Proofs.Ytjgfokolnkhafaa
