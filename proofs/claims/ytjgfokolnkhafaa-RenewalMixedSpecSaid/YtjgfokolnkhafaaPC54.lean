/- What the laws of this part rest on: lemmas, and the walks of the functions. No conditions. -/
import Derived.WalkKit
import Derived.WalkSpells
import Derived.WalkLawsBesides
import Derived.RangeFuncLeaves
import Derived.Maps.AppendAt
import Derived.Deep.AppendLies
import Derived.Deep.Slices
import Derived.OpenShut
import Derived.ProofKit
import Derived.Below
import Derived.ChangeSame
import Derived.Carry
import Derived.RangeFuncRecord
import Derived.Laws.Tables
import Derived.Recover
import Derived.DefersIn
import Derived.Lib.AppendZerosOnto
import Derived.Lib.Overlaps
import Derived.Laws.CopyRow
import Derived.Laws.StructEq
import Derived.ChangeKeysEq
import Derived.OrdersIn
import Derived.Test.YtjgfokolnkhafaaRows
import Derived.Test.YtjgfokolnkhafaaPC53
set_option linter.unusedSimpArgs false
set_option linter.unusedVariables false
namespace Go.Proofs.Ytjgfokolnkhafaa
open Go.Fw Go.RowKit
set_option maxHeartbeats 4000000 in
set_option maxRecDepth 100000 in
theorem c_polynomial {O:List Nat} (secret_v:Value) (secret:List UInt8) (coins_v:Value) (coins:List UInt8) (threshold:Int) (i:Nat) (w:World) (a0:BB Enc.u8 w O secret_v secret) (a1:BB Enc.u8 w O coins_v coins) (hpre0:1≤threshold) (hpre1:threshold≤8) (hpre2:i<secret.length) (hpre3:secret.length≤64) (hpre4:(coins.length:Int)=(secret.length:Int)*(threshold - 1)) (hO:∀ b∈O,b<w.heap.size):CE Try.prog 46 [secret_v,coins_v,vI threshold,vI (i:Int)] w (fun v w'=>∃ (x0:Value),v=x0∧BB Enc.u8 w' (O) x0 (IP secret coins threshold i)):= by
 have c5:=a0.len_le
 have a0:BB Enc.u8 w ([]++O) secret_v secret:=a0
 have e2:=a1.len_le
 have a1:BB Enc.u8 w ([]++O) coins_v coins:=a1
 have s0:St w O w []:=St.start hO
 have hpb:=polyB hpre2 hpre0 hpre4
 have hpl:=polyL oM hpre0 hpre1 hpre4
 refine BI 31 Try.func46 rfl rfl oT (fun F0=>AF (AB kR (AA (AD (nS) rfl (AG (AC (AF (AB kR (AA (AE (vI (i:Int)) rfl (AA (AE (vI threshold) rfl (AA (IA .i64 threshold (1:Int) ((((threshold - 1).toNat:Nat):Int)) rfl rfl (FQ oM oM) (AA (YB .i64 (i:Int) (((threshold - 1).toNat:Nat):Int) (((i*(threshold - 1).toNat:Nat):Int)) rfl rfl (FQ (mulbN oM oM) (by simp)) (AA (AE (vI (i:Int)) rfl (AA (DC .i64 (i:Int) (1:Int) (((i+1:Nat):Int)) rfl rfl (FQ oM oM) (AA (AE (vI threshold) rfl (AA (IA .i64 threshold (1:Int) ((((threshold - 1).toNat:Nat):Int)) rfl rfl (FQ oM oM) (AA (YB .i64 ((i+1:Nat):Int) (((threshold - 1).toNat:Nat):Int) ((((i+1)*(threshold - 1).toNat:Nat):Int)) rfl rfl (FQ (mulbN oM oM) (by simp)) (AA (AD (vI ((i*(threshold - 1).toNat:Nat):Int)) rfl (AA (AD (vI (((i+1)*(threshold - 1).toNat:Nat):Int)) rfl (AG (AC (AF (cw_draw' 10 _ _ [fun (vT:Value) (_:World)=>BB Enc.u8 w ([]++O) vT (secret),DZ (vI (i:Int)),fun (vT:Value) (_:World)=>∃ aT,vT = .pointer (some aT)∧PT Enc.u8 w ([]++O) (.pointer (some aT)) (secret[i]!),DZ (vB (secret[i]!)),fun (vT:Value) (wT:World)=>∃ bT:Nat,vT.ownBlock=some bT∧w.heap.size≤bT∧bT<wT.heap.size∧ED Enc.u8 5 w.heap.size ((bT :: ([]))++O) wT vT ([secret[i]!]),fun (vT:Value) (_:World)=>BB Enc.u8 w ([]++O) vT (coins),DZ (vI ((i*(threshold - 1).toNat:Nat):Int)),DZ (vI (((i+1)*(threshold - 1).toNat:Nat):Int)),DZ (vI (((i+1)*(threshold - 1).toNat:Nat):Int)),fun (vT:Value) (_:World)=>BB Enc.u8 w ([]++O) vT (((coins.take ((i+1)*(threshold - 1).toNat)).drop (i*(threshold - 1).toNat)))] kR kR kR kR rfl rfl ⟨fun _ _ _ h _=>h,kI,fun _ _ _ h _=>h,kI,fun _ _ _ ⟨b,e,h1,h2,h⟩ k=>⟨b,e,h1,Nat.lt_of_lt_of_le h2 k.size,h.mv (Mv.of_keep k) k (by simp)⟩,fun _ _ _ h _=>h,kI,kI,kI,fun _ _ _ h _=>h,trivial⟩ ⟨?_,?_,?_,?_,?_,?_,?_,?_,?_,?_,trivial⟩ ?_))))))))))))))))))))))))))))))))))
 ·intro F1 w1 k1 hf hd
  obtain ⟨F2,rfl⟩:=AL (F:=F1) [(0,secret_v)] ⟨hf 0 kR,trivial⟩
  exact AH rfl ((AE (secret_v) rfl (⟨(Keep.refl _ _),a0⟩)))
 ·intro F1 w1 k1 hf hd
  obtain ⟨F2,rfl⟩:=AL (F:=F1) [(3,vI (i:Int))] ⟨hf 3 kR,trivial⟩
  exact AH rfl ((AE (vI (i:Int)) rfl (⟨(Keep.refl _ _),rfl⟩)))
 ·intro F1 w1 k1 hf hd
  obtain ⟨e3,e4,a7⟩:∃ v,F1 20=v∧BB Enc.u8 w ([]++O) v (secret):=⟨_,rfl,hd 0 20 kR⟩
  have:=a7.len_le
  obtain ⟨F2,rfl⟩:=AL (F:=F1) [(20,e3),(21,vI (i:Int))] ⟨e4,hd 1 21 kR,trivial⟩
  exact AH rfl ((o_idxU U23_ GK .i64 (i:Int) i rfl rfl rfl a7 oM fun e5 c6=>(⟨(Keep.refl _ _),⟨e5,rfl,c6⟩⟩)))
 ·intro F1 w1 k1 hf hd
  have k0:=(Keep.drew [] w).trans k1
  obtain ⟨e6,e7,c7⟩:∃ aX_,F1 22 = .pointer (some aX_)∧PT Enc.u8 w ([]++O) (.pointer (some aX_)) (secret[i]!):=hd 2 22 kR
  obtain ⟨F2,rfl⟩:=AL (F:=F1) [(22,vP (some e6))] ⟨e7,trivial⟩
  exact AH rfl ((o_loadBU U5_ rfl rfl c7 k0 (⟨(Keep.refl _ _),rfl⟩)))
 ·intro F1 w1 k1 hf hd
  have k0:=(Keep.drew [] w).trans k1
  have s1:=s0.call k0
  obtain ⟨F2,rfl⟩:=AL (F:=F1) [(23,vB (secret[i]!))] ⟨hd 3 23 kR,trivial⟩
  refine AH rfl ((HT (E:=Enc.u8) (xs:=[.tmp 23]) U23_ GK VF (by decide) [vB (secret[i]!)] [[vB (secret[i]!)]] [secret[i]!] rfl rfl rfl (Parts.cons rfl rfl (Parts.nil _ _ _)) oT s1 fun f9 b5 g0 g1 a8 g2 g3 e8 a9=>(?_)))
  have c8:w.heap.size≤b5:=by have:=k0.size;omega
  have c9:=(a9.lt b5 a8).2
  exact ⟨e8,⟨_,a8,c8,c9,a9⟩⟩
 ·intro F1 w1 k1 hf hd
  obtain ⟨F2,rfl⟩:=AL (F:=F1) [(1,coins_v)] ⟨hf 1 kR,trivial⟩
  exact AH rfl ((AE (coins_v) rfl (⟨(Keep.refl _ _),a1⟩)))
 ·intro F1 w1 k1 hf hd
  obtain ⟨F2,rfl⟩:=AL (F:=F1) [(9,vI ((i*(threshold - 1).toNat:Nat):Int))] ⟨hf 9 kR,trivial⟩
  exact AH rfl ((AE (vI ((i*(threshold - 1).toNat:Nat):Int)) rfl (⟨(Keep.refl _ _),rfl⟩)))
 ·intro F1 w1 k1 hf hd
  obtain ⟨F2,rfl⟩:=AL (F:=F1) [(10,vI (((i+1)*(threshold - 1).toNat:Nat):Int))] ⟨hf 10 kR,trivial⟩
  exact AH rfl ((AE (vI (((i+1)*(threshold - 1).toNat:Nat):Int)) rfl (⟨(Keep.refl _ _),rfl⟩)))
 ·intro F1 w1 k1 hf hd
  obtain ⟨F2,rfl⟩:=AL (F:=F1) [(10,vI (((i+1)*(threshold - 1).toNat:Nat):Int))] ⟨hf 10 kR,trivial⟩
  exact AH rfl ((AE (vI (((i+1)*(threshold - 1).toNat:Nat):Int)) rfl (⟨(Keep.refl _ _),rfl⟩)))
 ·intro F1 w1 k1 hf hd
  obtain ⟨e9,f0,b0⟩:∃ v,F1 25=v∧BB Enc.u8 w ([]++O) v (coins):=⟨_,rfl,hd 5 25 kR⟩
  have:=b0.len_le
  obtain ⟨F2,rfl⟩:=AL (F:=F1) [(25,e9),(26,vI ((i*(threshold - 1).toNat:Nat):Int)),(27,vI (((i+1)*(threshold - 1).toNat:Nat):Int)),(28,vI (((i+1)*(threshold - 1).toNat:Nat):Int))] ⟨f0,hd 6 26 kR,hd 7 27 kR,hd 8 28 kR,trivial⟩
  refine AH rfl ((o_slice3RU U23_ GK (i*(threshold - 1).toNat) ((i+1)*(threshold - 1).toNat) ((i+1)*(threshold - 1).toNat) rfl (.inr ⟨.tmp 26, .i64,((i*(threshold - 1).toNat:Nat):Int),rfl,rfl,oM⟩) .i64 .i64 (((i+1)*(threshold - 1).toNat:Nat):Int) (((i+1)*(threshold - 1).toNat:Nat):Int) rfl oM rfl oM (Nat.mul_le_mul_right _ oM) (Nat.le_refl _) hpb b0 fun g4 d0=>(?_)))
  exact ⟨(Keep.refl _ _),d0⟩
 intro a4 b6 b7 a2 a5
 obtain ⟨d1,d2,b8⟩:∃ v,a4 20=v∧BB Enc.u8 w ([]++O) v (secret):=⟨_,rfl,a2 0 20 kR (by decide)⟩
 have:=b8.len_le
 obtain ⟨d3,d4,f2⟩:∃ aX_,a4 22 = .pointer (some aX_)∧PT Enc.u8 w ([]++O) (.pointer (some aX_)) (secret[i]!):=a2 2 22 kR (by decide)
 obtain ⟨d5,d6,b9⟩:∃ v,a4 25=v∧BB Enc.u8 w ([]++O) v (coins):=⟨_,rfl,a2 5 25 kR (by decide)⟩
 have:=b9.len_le
 obtain ⟨d7,d8,a3⟩:∃ v,a4 29=v∧BB Enc.u8 w ([]++O) v (((coins.take ((i+1)*(threshold - 1).toNat)).drop (i*(threshold - 1).toNat))):=⟨_,rfl,a2 9 29 kR (by decide)⟩
 have:=a3.len_le
 obtain ⟨b1,d9,b2,c0,a6,c1,c2⟩:∃ v,a4 24=v∧(fun (vT:Value) (wT:World)=>∃ bT:Nat,vT.ownBlock=some bT∧w.heap.size≤bT∧bT<wT.heap.size∧ED Enc.u8 5 w.heap.size ((bT :: ([]))++O) wT vT ([secret[i]!])) v b6:=⟨_,rfl,a2 4 24 kR (by decide)⟩
 have c3:∀ b,b1.ownBlock=some b→b∈(b2 :: []):=fun b hb=>by rw [c0] at hb;cases hb;simp
 have e0:=(s0.call b7).adopt (Nat.le_trans s0.keep.size a6) c1
 have e1:Mv ([]) w (b2 :: []) b6:=Mv.adopt b7 a6
 have a3:=a3.mv e1
 obtain ⟨F2,rfl⟩:=AL (F:=a4) [(8,nS),(31,undef),(20,d1),(22,vP (some d3)),(24,b1),(25,d5),(29,d7)] ⟨a5 8 kR,a5 31 kR,d2,d4,d9,d6,d8,trivial⟩
 clear a2 a5
 refine AA (CY (E:=Enc.u8) (l:=[secret[i]!]) (m:=((coins.take ((i+1)*(threshold - 1).toNat)).drop (i*(threshold - 1).toNat))) U23_ RI rfl (by decide) rfl rfl c2 a3 (fun _ hb=>.inl hb) c3 (by simp only [List.length_cons,List.length_nil,List.length_drop,List.length_take];omega) (by simp only [List.length_cons,List.length_nil,List.length_drop,List.length_take,maxLen];omega) e0 fun b3 f5 f6 f3 f4 f1 b4 f7 f8 c4=>(AA (AD (b3) rfl (AG (AC (AM (AS rfl (CN rfl rfl rfl) (?_))))))))
 have e:(IP secret coins threshold i)=(([secret[i]!])++((coins.take ((i+1)*(threshold - 1).toNat)).drop (i*(threshold - 1).toNat))):=rfl
 exact ⟨_,rfl,b4.keep,by rw [e];exact ⟨b3,rfl,c4.pub b4⟩⟩
set_option maxHeartbeats 4000000 in
set_option maxRecDepth 100000 in
theorem c_split1 {O:List Nat} (i:Nat) (secret_a:Addr) (secret:(List UInt8)) (coins_a:Addr) (coins:(List UInt8)) (threshold_a:Addr) (threshold:Int) (w:World) (a1:PT (Enc.slice Enc.u8) w O (.pointer (some secret_a)) secret) (a2:PT (Enc.slice Enc.u8) w O (.pointer (some coins_a)) coins) (a0:PT Enc.int w O (.pointer (some threshold_a)) threshold) (hpre0:1≤threshold) (hpre1:threshold≤8) (hpre2:i<secret.length) (hpre3:secret.length≤64) (hpre4:(coins.length:Int)=(secret.length:Int)*(threshold - 1)) (hO:∀ b∈O,b<w.heap.size):CE Try.prog 45 [vI (i:Int), .pointer (some secret_a), .pointer (some coins_a), .pointer (some threshold_a)] w (fun v w'=>∃ (x0:Value),v=x0∧BB Enc.u8 w' (O) x0 (IP secret coins threshold i)):= by
 have a1:PT (Enc.slice Enc.u8) w ([]++O) (.pointer (some secret_a)) secret:=a1
 have a2:PT (Enc.slice Enc.u8) w ([]++O) (.pointer (some coins_a)) coins:=a2
 have a0:PT Enc.int w ([]++O) (.pointer (some threshold_a)) threshold:=a0
 have s0:St w O w []:=St.start hO
 refine BI 11 Try.func45 rfl rfl oT (fun F0=>AF (AB kR (AA (AD (nS) rfl (AG (AC (AF (AB kR (AA (CF U23_ rfl rfl a1 fun a6 a3=>(?_)))))))))))
 have:=a3.len_le
 refine AA (CF U23_ rfl rfl a2 fun a7 a4=>(?_))
 have:=a4.len_le
 refine AA (CC U3_ rfl rfl a0 (AA (AE (vI (i:Int)) rfl (AA (AZ (vs:=[a6,a7,vI threshold,vI (i:Int)]) enter_46 (c_polynomial (O:=[]++O) a6 secret a7 coins threshold i w a3 a4 oM oM oM oM oM s0.lt) rfl s0 fun a8 b1 a9 b2 b3 b0=>(?_))))))
 obtain ⟨_,rfl,a5⟩:=b0
 have:=a5.len_le
 refine AA (AD (a8) rfl (AG (AC (AM (AS rfl (CN rfl rfl rfl) (?_))))))
 exact ⟨_,rfl,a9.keep,⟨a8,rfl,a5.out⟩⟩
set_option maxHeartbeats 4000000 in
set_option maxRecDepth 100000 in
theorem c_collectL {O:List Nat} (n:Int) (f_v:Nat) (f_caps:List Value) (f:Nat→(List UInt8)) (w:World) (a9:∀ (vs_:Array Value) (w:World),(callFunc f_v vs_).run Try.prog w = .ok (.enter f_v vs_) w) (c1:∀ (w':World) (O':List Nat),Keep [] w w'→(∀ b∈O',b∈O∨w.heap.size≤b)→(∀ b∈O',b<w'.heap.size)→∀ (i:Nat),(i:Int)<n→CE Try.prog f_v ([vI (i:Int)]++f_caps) w' (fun v w2=>∃ (x0:Value),v=x0∧BB Enc.u8 w2 (O') x0 (f i))) (hpre0:n≤1000000) (hO:∀ b∈O,b<w.heap.size):CE Try.prog 44 [vI n, .func (.func f_v) #[] f_caps.toArray] w (fun v w'=>∃ (x0:Value),v=x0∧BB (Enc.slice Enc.u8) w' (O) x0 ((List.range (n).toNat).map f)):= by
 have s0:St w O w []:=St.start hO
 refine BI 18 Try.func44 rfl rfl oT (fun F0=>AF (AB kR (AA (AD (.slice none 0 0) rfl (AG (AC (AF (AF (AB kR (AA (AE (vI n) rfl (AA (AE (vI 0) rfl (AG (AC (BA (CX (fun mI FI wI=>∃ (k:Nat) (a0:Value) (B:List Nat),k≤n.toNat∧mI=n.toNat - k∧(∃ F1,FI=FR F1 [(1,vN (.func f_v) #[] f_caps.toArray),(4,a0),(6,vI n),(7,vI ((k:Nat):Int)),(18,undef)])∧St w O wI B∧ED (Enc.slice Enc.u8) 23 w.heap.size (B++O) wI a0 (((List.range k).map f))∧(∀ b,a0.ownBlock=some b→b∈B)) (n.toNat - (0)) ?_ ?_)))))))))))))))))
 ·exact ⟨(0),(.slice none 0 0),[],oM,rfl,⟨_,AP _ ⟨rfl,rfl,rfl,(by rfl),rfl,trivial⟩⟩,s0,(by rw [show ((List.range (0)).map f)=[] from rfl];exact (ED.nil (Enc.slice Enc.u8) 23 _ _ _)),(by intro b hb;simp [Value.ownBlock] at hb)⟩
 intro d3 F c2 hI
 obtain ⟨k,a0,c3,hr0_0,d4,⟨d5,rfl⟩,a3,ho0_4,b0⟩:=hI
 refine AF (AB kR (AA (DO .i64 ((k:Nat):Int) n rfl rfl (AG (AC (AF (AJ (decide (((k:Nat):Int)<n)) rfl rfl (fun a1=>?_) (fun a1=>?_))))))))
 ·have c4:((k:Nat):Int)<n:=by simpa using a1
  refine AO (AC (AF (BA (AF (AB kR (AA (AE (vI ((k:Nat):Int)) rfl (AA (AD (vI ((k:Nat):Int)) rfl (AG (AC (AB kR (AA (AE (a0) rfl (AA (AE (vN (.func f_v) #[] f_caps.toArray) rfl (AA (AE (vI ((k:Nat):Int)) rfl (AA (RK [] f_caps [vI ((k:Nat):Int)] a9 rfl (c1 c2 (c3++O) a3.keep (fun b hb=>(List.mem_append.1 hb).elim (fun h=>.inr (a3.new b h).1) .inl) a3.lt k  oM) rfl rfl a3 fun a5 c7 b1 b2 b3 b4=>(?_)))))))))))))))))))))
  obtain ⟨_,rfl,a2⟩:=b4
  have:=a2.len_le
  have ho0_4:=ho0_4.mv b2 b3 (by simp)
  refine AA (GZ (E:=(Enc.slice Enc.u8)) (xs:=[.tmp 13]) U83_ s_23 z_23 (by decide) [a5] [[a5]] [f k] rfl rfl rfl (Parts.cons (GC a2.oneCell) ⟨_,rfl,a2⟩ (Parts.nil _ _ _)) oT b1 fun c8 c9 b5 b6 b7 a4=>(?_))
  have ho0_4:=ho0_4.mv b6 b7 (by simp)
  have:=a4.len_le
  refine AA (CY (E:=(Enc.slice Enc.u8)) (l:=((List.range k).map f)) (m:=[f k]) U83_ i_23 rfl (by decide) rfl rfl ho0_4 a4 (fun _ hb=>.inl hb) b0 (by simp;omega) (by simp [maxLen];omega) b5 fun a6 d0 b8 a7 c5 c0 b9 d1 d2 a8=>(AA (AD (a6) rfl (AG (BZ (AC (AB kR (AA (DC .i64 ((k:Nat):Int) (1:Int) (((k+1:Nat):Int)) rfl rfl (FQ oM oM) (AA (AE (vI ((k+1:Nat):Int)) rfl (AG (AC (?_))))))))))))))
  exact ⟨_,oM,(k+1),a6,b8,oM,rfl,⟨_,AP _ ⟨rfl,rfl,rfl,(by rfl),rfl,trivial⟩⟩,b9,(by rw [show ((List.range (k+1)).map f)=((List.range k).map f)++([f k]) from by simp [List.range_succ]];exact a8),a7⟩
 have c6:n≤((k:Nat):Int):=by simpa using a1
 obtain rfl:k=n.toNat:=by omega
 refine CV (BL (BL (CL (AC (AF (AB kR (AA (AE (a0) rfl (AA (AD (a0) rfl (AG (AC (AM (AS rfl (CN rfl rfl rfl) (?_)))))))))))))))
 have e:((List.range (n).toNat).map f)=((List.range n.toNat).map f):=rfl
 exact ⟨_,rfl,a3.keep,by rw [e];exact ⟨a0,rfl,ho0_4.pub a3⟩⟩
set_option maxHeartbeats 4000000 in
set_option maxRecDepth 100000 in
theorem QY {O:List Nat} (n:Int) (f_v:Nat) (f_caps:List Value) (f:Nat→Share) (w:World) (a9:∀ (vs_:Array Value) (w:World),(callFunc f_v vs_).run Try.prog w = .ok (.enter f_v vs_) w) (c1:∀ (w':World) (O':List Nat),Keep [] w w'→(∀ b∈O',b∈O∨w.heap.size≤b)→(∀ b∈O',b<w'.heap.size)→∀ (i:Nat),(i:Int)<n→CE Try.prog f_v ([vI (i:Int)]++f_caps) w' (fun v w2=>∃ (x0:List Value),v = .agg x0.toArray∧Enc.share.rd w2 (O') x0 (f i))) (hpre0:n≤1000000) (hO:∀ b∈O,b<w.heap.size):CE Try.prog 47 [vI n, .func (.func f_v) #[] f_caps.toArray] w (fun v w'=>∃ (x0:Value),v=x0∧BB Enc.share w' (O) x0 ((List.range (n).toNat).map f)):= by
 have s0:St w O w []:=St.start hO
 refine BI 18 Try.func47 rfl rfl oT (fun F0=>AF (AB kR (AA (AD (.slice none 0 0) rfl (AG (AC (AF (AF (AB kR (AA (AE (vI n) rfl (AA (AE (vI 0) rfl (AG (AC (BA (CX (fun mI FI wI=>∃ (k:Nat) (a0:Value) (B:List Nat),k≤n.toNat∧mI=n.toNat - k∧(∃ F1,FI=FR F1 [(1,vN (.func f_v) #[] f_caps.toArray),(4,a0),(6,vI n),(7,vI ((k:Nat):Int)),(18,undef)])∧St w O wI B∧ED Enc.share 70 w.heap.size (B++O) wI a0 (((List.range k).map f))∧(∀ b,a0.ownBlock=some b→b∈B)) (n.toNat - (0)) ?_ ?_)))))))))))))))))
 ·exact ⟨(0),(.slice none 0 0),[],oM,rfl,⟨_,AP _ ⟨rfl,rfl,rfl,(by rfl),rfl,trivial⟩⟩,s0,(by rw [show ((List.range (0)).map f)=[] from rfl];exact (ED.nil Enc.share 70 _ _ _)),(by intro b hb;simp [Value.ownBlock] at hb)⟩
 intro d4 F c2 hI
 obtain ⟨k,a0,c3,hr0_0,d5,⟨d6,rfl⟩,a2,ho0_4,b0⟩:=hI
 refine AF (AB kR (AA (DO .i64 ((k:Nat):Int) n rfl rfl (AG (AC (AF (AJ (decide (((k:Nat):Int)<n)) rfl rfl (fun a1=>?_) (fun a1=>?_))))))))
 ·have c4:((k:Nat):Int)<n:=by simpa using a1
  refine AO (AC (AF (BA (AF (AB kR (AA (AE (vI ((k:Nat):Int)) rfl (AA (AD (vI ((k:Nat):Int)) rfl (AG (AC (AB kR (AA (AE (a0) rfl (AA (AE (vN (.func f_v) #[] f_caps.toArray) rfl (AA (AE (vI ((k:Nat):Int)) rfl (AA (RK [] f_caps [vI ((k:Nat):Int)] a9 rfl (c1 c2 (c3++O) a2.keep (fun b hb=>(List.mem_append.1 hb).elim (fun h=>.inr (a2.new b h).1) .inl) a2.lt k  oM) rfl rfl a2 fun c7 c8 b1 b2 b3 b4=>(?_)))))))))))))))))))))
  obtain ⟨a3,rfl,a6⟩:=b4
  have ho0_4:=ho0_4.mv b2 b3 (by simp)
  refine AA (GZ (E:=Enc.share) (xs:=[.tmp 13]) U32_ CZ KU (by decide) [vA a3.toArray] [a3] [f k] rfl rfl rfl (Parts.cons rfl a6 (Parts.nil _ _ _)) oT b1 fun c9 d0 b5 b6 b7 a4=>(?_))
  have ho0_4:=ho0_4.mv b6 b7 (by simp)
  have:=a4.len_le
  refine AA (CY (E:=Enc.share) (l:=((List.range k).map f)) (m:=[f k]) U32_ i_70 rfl (by decide) rfl rfl ho0_4 a4 (fun _ hb=>.inl hb) b0 (by simp;omega) (by simp [maxLen];omega) b5 fun a5 d1 b8 a7 c5 c0 b9 d2 d3 a8=>(AA (AD (a5) rfl (AG (BZ (AC (AB kR (AA (DC .i64 ((k:Nat):Int) (1:Int) (((k+1:Nat):Int)) rfl rfl (FQ oM oM) (AA (AE (vI ((k+1:Nat):Int)) rfl (AG (AC (?_))))))))))))))
  exact ⟨_,oM,(k+1),a5,b8,oM,rfl,⟨_,AP _ ⟨rfl,rfl,rfl,(by rfl),rfl,trivial⟩⟩,b9,(by rw [show ((List.range (k+1)).map f)=((List.range k).map f)++([f k]) from by simp [List.range_succ]];exact a8),a7⟩
 have c6:n≤((k:Nat):Int):=by simpa using a1
 obtain rfl:k=n.toNat:=by omega
 refine CV (BL (BL (CL (AC (AF (AB kR (AA (AE (a0) rfl (AA (AD (a0) rfl (AG (AC (AM (AS rfl (CN rfl rfl rfl) (?_)))))))))))))))
 have e:((List.range (n).toNat).map f)=((List.range n.toNat).map f):=rfl
 exact ⟨_,rfl,a2.keep,by rw [e];exact ⟨a0,rfl,ho0_4.pub a2⟩⟩
set_option maxHeartbeats 4000000 in
set_option maxRecDepth 100000 in
theorem LQ {O:List Nat} (n:Int) (f_v:Nat) (f_caps:List Value) (f:Nat→UInt8) (w:World) (a7:∀ (vs_:Array Value) (w:World),(callFunc f_v vs_).run Try.prog w = .ok (.enter f_v vs_) w) (b9:∀ (w':World) (O':List Nat),Keep [] w w'→(∀ b∈O',b∈O∨w.heap.size≤b)→(∀ b∈O',b<w'.heap.size)→∀ (i:Nat),(i:Int)<n→CE Try.prog f_v ([vI (i:Int)]++f_caps) w' (fun v w2=>v=vB (f i))) (hpre0:n≤1000000) (hO:∀ b∈O,b<w.heap.size):CE Try.prog 49 [vI n, .func (.func f_v) #[] f_caps.toArray] w (fun v w'=>∃ (x0:Value),v=x0∧BB Enc.u8 w' (O) x0 ((List.range (n).toNat).map f)):= by
 have s0:St w O w []:=St.start hO
 refine BI 18 Try.func49 rfl rfl oT (fun F0=>AF (AB kR (AA (AD (.slice none 0 0) rfl (AG (AC (AF (AF (AB kR (AA (AE (vI n) rfl (AA (AE (vI 0) rfl (AG (AC (BA (CX (fun mI FI wI=>∃ (k:Nat) (a0:Value) (B:List Nat),k≤n.toNat∧mI=n.toNat - k∧(∃ F1,FI=FR F1 [(1,vN (.func f_v) #[] f_caps.toArray),(4,a0),(6,vI n),(7,vI ((k:Nat):Int)),(18,undef)])∧St w O wI B∧ED Enc.u8 5 w.heap.size (B++O) wI a0 (((List.range k).map f))∧(∀ b,a0.ownBlock=some b→b∈B)) (n.toNat - (0)) ?_ ?_)))))))))))))))))
 ·exact ⟨(0),(.slice none 0 0),[],oM,rfl,⟨_,AP _ ⟨rfl,rfl,rfl,(by rfl),rfl,trivial⟩⟩,s0,(by rw [show ((List.range (0)).map f)=[] from rfl];exact (ED.nil Enc.u8 5 _ _ _)),(by intro b hb;simp [Value.ownBlock] at hb)⟩
 intro d2 F c0 hI
 obtain ⟨k,a0,c1,hr0_0,d3,⟨d4,rfl⟩,a2,ho0_4,a8⟩:=hI
 refine AF (AB kR (AA (DO .i64 ((k:Nat):Int) n rfl rfl (AG (AC (AF (AJ (decide (((k:Nat):Int)<n)) rfl rfl (fun a1=>?_) (fun a1=>?_))))))))
 ·have c2:((k:Nat):Int)<n:=by simpa using a1
  refine AO (AC (AF (BA (AF (AB kR (AA (AE (vI ((k:Nat):Int)) rfl (AA (AD (vI ((k:Nat):Int)) rfl (AG (AC (AB kR (AA (AE (a0) rfl (AA (AE (vN (.func f_v) #[] f_caps.toArray) rfl (AA (AE (vI ((k:Nat):Int)) rfl (AA (RK [] f_caps [vI ((k:Nat):Int)] a7 rfl (b9 c0 (c1++O) a2.keep (fun b hb=>(List.mem_append.1 hb).elim (fun h=>.inr (a2.new b h).1) .inl) a2.lt k  oM) rfl rfl a2 fun c5 c6 a9 b0 b1 b2=>(?_)))))))))))))))))))))
  obtain rfl:=b2
  have ho0_4:=ho0_4.mv b0 b1 (by simp)
  refine AA (GZ (E:=Enc.u8) (xs:=[.tmp 13]) U23_ GK VF (by decide) [vB (f k)] [[vB (f k)]] [f k] rfl rfl rfl (Parts.cons rfl rfl (Parts.nil _ _ _)) oT a9 fun c7 c8 b3 b4 b5 a3=>(?_))
  have ho0_4:=ho0_4.mv b4 b5 (by simp)
  have:=a3.len_le
  refine AA (CY (E:=Enc.u8) (l:=((List.range k).map f)) (m:=[f k]) U23_ RI rfl (by decide) rfl rfl ho0_4 a3 (fun _ hb=>.inl hb) a8 (by simp;omega) (by simp [maxLen];omega) b3 fun a4 c9 b6 a5 c3 b8 b7 d0 d1 a6=>(AA (AD (a4) rfl (AG (BZ (AC (AB kR (AA (DC .i64 ((k:Nat):Int) (1:Int) (((k+1:Nat):Int)) rfl rfl (FQ oM oM) (AA (AE (vI ((k+1:Nat):Int)) rfl (AG (AC (?_))))))))))))))
  exact ⟨_,oM,(k+1),a4,b6,oM,rfl,⟨_,AP _ ⟨rfl,rfl,rfl,(by rfl),rfl,trivial⟩⟩,b7,(by rw [show ((List.range (k+1)).map f)=((List.range k).map f)++([f k]) from by simp [List.range_succ]];exact a6),a5⟩
 have c4:n≤((k:Nat):Int):=by simpa using a1
 obtain rfl:k=n.toNat:=by omega
 refine CV (BL (BL (CL (AC (AF (AB kR (AA (AE (a0) rfl (AA (AD (a0) rfl (AG (AC (AM (AS rfl (CN rfl rfl rfl) (?_)))))))))))))))
 have e:((List.range (n).toNat).map f)=((List.range n.toNat).map f):=rfl
 exact ⟨_,rfl,a2.keep,by rw [e];exact ⟨a0,rfl,ho0_4.pub a2⟩⟩
set_option maxHeartbeats 4000000 in
set_option maxRecDepth 100000 in
theorem c_split21 {O:List Nat} (i:Nat) (polys_a:Addr) (polys:(List (List UInt8))) (k_a:Addr) (k:Int) (w:World) (a0:PT (Enc.slice (Enc.slice Enc.u8)) w O (.pointer (some polys_a)) polys) (a1:PT Enc.int w O (.pointer (some k_a)) k) (hpre0:i<polys.length) (hpre1:0≤k) (hpre2:k<1000) (hO:∀ b∈O,b<w.heap.size):CE Try.prog 50 [vI (i:Int), .pointer (some polys_a), .pointer (some k_a)] w (fun v _=>v=vB (EI polys[i]! (DL (k+1)))):= by
 have a0:PT (Enc.slice (Enc.slice Enc.u8)) w ([]++O) (.pointer (some polys_a)) polys:=a0
 have a1:PT Enc.int w ([]++O) (.pointer (some k_a)) k:=a1
 have s0:St w O w []:=St.start hO
 refine BI 13 Try.func50 rfl rfl oT (fun F0=>AF (AB kR (AA (AD (vB (0:UInt8)) rfl (AG (AC (AF (FJ 7 _ _ kR kR kR kR kR rfl rfl fun a4 a5=>?_))))))))
 have a6:=s0.call a5
 have a7:Mv ([]) w ([]) a4:=Mv.of_keep a5
 have a0:=a0.mv a7
 have a1:=a1.mv a7
 refine BM (CF U83_ rfl rfl a0 fun b2 a2=>(?_))
 have:=a2.len_le
 refine BM (AE (vI (i:Int)) rfl (BM (CP U83_ s_23 .i64 (i:Int) i rfl rfl rfl a2 oM fun b3 a9=>(BM (CF U23_ rfl rfl a9 fun a8 a3=>(?_))))))
 have:=a3.len_le
 refine BM (CC U3_ rfl rfl a1 (BM (DC .i64 k (1:Int) (k+(1:Int)) rfl rfl (FQ oM oM) (BM (OU .i64 U3_ U5_ (k+(1:Int)) rfl (EQ (AA (AZ (vs:=[a8,vB (DL (k+(1:Int)))]) WC (c_eval (O:=[]++O) a8 (polys[i]!) (DL (k+(1:Int))) a4 a3 a6.lt) rfl a6 fun b4 b5 b0 b6 b7 b1=>(?_)))))))))
 obtain rfl:=b1
 refine AA (AD (vB (EI (polys[i]!) (DL (k+(1:Int))))) rfl (AG (AC (AM (AS rfl (CN rfl rfl rfl) (?_))))))
 have e:(EI polys[i]! (DL (k+1)))=(EI (polys[i]!) (DL (k+(1:Int)))):=rfl
 exact ⟨_,rfl,b0.keep,by rw [e];exact rfl⟩
set_option maxHeartbeats 4000000 in
set_option maxRecDepth 100000 in
theorem c_split2 {O:List Nat} (k:Nat) (secret_a:Addr) (secret:(List UInt8)) (polys_a:Addr) (polys:(List (List UInt8))) (epoch_a:Addr) (epoch:Int) (threshold_a:Addr) (threshold:Int) (many_a:Addr) (many:Int) (w:World) (a2:PT (Enc.slice Enc.u8) w O (.pointer (some secret_a)) secret) (a4:PT (Enc.slice (Enc.slice Enc.u8)) w O (.pointer (some polys_a)) polys) (a1:PT Enc.int w O (.pointer (some epoch_a)) epoch) (a0:PT Enc.int w O (.pointer (some threshold_a)) threshold) (a3:PT Enc.int w O (.pointer (some many_a)) many) (hpre0:polys.length=secret.length) (hpre1:(k:Int)<many) (hpre2:many≤8) (hpre3:secret.length≤64) (hO:∀ b∈O,b<w.heap.size):CE Try.prog 48 [vI (k:Int), .pointer (some secret_a), .pointer (some polys_a), .pointer (some epoch_a), .pointer (some threshold_a), .pointer (some many_a)] w (fun v w'=>∃ (x0:List Value),v = .agg x0.toArray∧Enc.share.rd w' (O) x0 (FB secret polys epoch threshold many k)):= by
 have a2:PT (Enc.slice Enc.u8) w ([]++O) (.pointer (some secret_a)) secret:=a2
 have a4:PT (Enc.slice (Enc.slice Enc.u8)) w ([]++O) (.pointer (some polys_a)) polys:=a4
 have a1:PT Enc.int w ([]++O) (.pointer (some epoch_a)) epoch:=a1
 have a0:PT Enc.int w ([]++O) (.pointer (some threshold_a)) threshold:=a0
 have a3:PT Enc.int w ([]++O) (.pointer (some many_a)) many:=a3
 have s0:St w O w []:=St.start hO
 refine BI 20 Try.func48 rfl rfl oT (fun F0=>AF (AB kR (AA (ER (E:=Enc.int) (vI (k:Int)) ([vI (k:Int)]) (k:Int) rfl rfl rfl s0 fun b0 c5 b7 a9 c6 a6=>(?_)))))
 have a2:=a2.mv a9
 have a4:=a4.mv a9
 have a1:=a1.mv a9
 have a0:=a0.mv a9
 have a3:=a3.mv a9
 refine AA (DE [vI 0,vI 0,vI 0,vI 0,nS] KU rfl b7 fun b4 b8 b9 b5 a8 c7 b2=>(?_))
 clear b9
 have a2:=a2.mv a8
 have a4:=a4.mv a8
 have a1:=a1.mv a8
 have a0:=a0.mv a8
 have a3:=a3.mv a8
 have a6:=a6.mv a8
 refine AG (AC (AF (AB kR (AA (CF U23_ rfl rfl a2 fun c8 b3=>(?_))))))
 have:=b3.len_le
 refine AA (CA U23_ rfl b3 (AA (DP (first:=[]) (captured:=[.tmp 2, .tmp 6]) [] [vP (some polys_a),vP (some b0)] rfl rfl (AA (AZ (vs:=[vI (secret.length:Int),vN (.func 50) #[] #[vP (some polys_a),vP (some b0)]]) PB (LQ (O:=(b4 :: [])++O) (secret.length:Int) 50 [vP (some polys_a),vP (some b0)] (fun i_=>EI polys[i_]! (DL ((k:Int)+1))) b8 enter_50 (fun w'_ O'_ kk_ hs_ hl_ i_  hc_=>c_split21 (O:=O'_) i_ polys_a polys b0 (k:Int) w'_ (a4.on hs_ kk_) (a6.on hs_ kk_) oM oM oM hl_) oM b5.lt) rfl b5 fun a5 c9 c0 b1 c1 c2=>(?_))))))
 obtain ⟨_,rfl,a7⟩:=c2
 have:=a7.len_le
 have a1:=a1.mv b1
 have a0:=a0.mv b1
 have a3:=a3.mv b1
 have a6:=a6.mv b1
 have b2:=b2.keep c1 (by simp)
 refine AA (AD (a5) rfl (AG (AC (AF (AB kR (AA (CC U3_ rfl rfl a1 (AA (CC U3_ rfl rfl a6 (AA (DC .i64 (k:Int) (1:Int) ((k:Int)+(1:Int)) rfl rfl (FQ oM oM) (AA (CC U3_ rfl rfl a0 (AA (CC U3_ rfl rfl a3 (AA (AE (a5) rfl (AA (EN (l:=[(0, .tmp 13),(1, .tmp 15),(2, .tmp 16),(3, .tmp 17),(4, .tmp 18)]) pl_70 KU rfl [(0,vI epoch,[vI epoch]),(1,vI ((k:Int)+(1:Int)),[vI ((k:Int)+(1:Int))]),(2,vI threshold,[vI threshold]),(3,vI many,[vI many]),(4,a5,[a5])] [vI epoch,vI ((k:Int)+(1:Int)),vI threshold,vI many,a5] rfl ⟨_,rfl,rfl,oT,⟨_,rfl,rfl,oT,⟨_,rfl,rfl,oT,⟨_,rfl,rfl,oT,⟨_,rfl,(GC a7.oneCell),oT,rfl⟩⟩⟩⟩⟩ (CB (BF (vs:=[vI epoch,vI ((k:Int)+(1:Int)),vI threshold,vI many,a5]) (.agg #[vI epoch,vI ((k:Int)+(1:Int)),vI threshold,vI many,a5]) rfl rfl rfl CZ (fun u hu=>by simp only [List.mem_cons,List.not_mem_nil,or_false] at hu;rcases hu with rfl|rfl|rfl|rfl|rfl <;> first|rfl|exact a7.oneCell) (by repeat (constructor)) b2 oT c0 fun d0 c3 c4 d1 b6=>(?_))))))))))))))))))))))
 have a7:=a7.mv c4
 refine AG (AC (AM (AS rfl (rescA (vs:=[vI epoch,vI ((k:Int)+(1:Int)),vI threshold,vI many,a5]) rfl rfl U70_ rfl CZ rfl b6 rfl) (?_))))
 have e:(FB secret polys epoch threshold many k)=(⟨epoch,(k:Int)+(1:Int),threshold,many,(List.range ((secret.length:Int)).toNat).map (fun i_=>EI polys[i_]! (DL ((k:Int)+1)))⟩:Share):=rfl
 exact ⟨_,rfl,c3.keep,by rw [e];exact ⟨[vI epoch,vI ((k:Int)+(1:Int)),vI threshold,vI many,a5],rfl,Enc.out (B:=(b4 :: [])) ⟨_,rfl,a7⟩⟩⟩
set_option maxHeartbeats 4000000 in
set_option maxRecDepth 100000 in
theorem c_split {O:List Nat} (secret_v:Value) (secret:List UInt8) (epoch:Int) (threshold:Int) (many:Int) (coins_v:Value) (coins:List UInt8) (w:World) (a6:BB Enc.u8 w O secret_v secret) (a3:BB Enc.u8 w O coins_v coins) (hO:∀ b∈O,b<w.heap.size):CE Try.prog 16 [secret_v,vI epoch,vI threshold,vI many,coins_v] w (fun v w'=>∃ (x0:Value),v = .tuple #[x0,vI ((BY secret epoch threshold many coins).2)]∧BB Enc.share w' (O) x0 ((BY secret epoch threshold many coins).1)):= by
 have e0:=a6.len_le
 have a6:BB Enc.u8 w ([]++O) secret_v secret:=a6
 have f7:=a3.len_le
 have a3:BB Enc.u8 w ([]++O) coins_v coins:=a3
 have s0:St w O w []:=St.start hO
 refine BI 53 Try.func16 rfl rfl oT (fun F0=>AF (AB kR (AA (ER (E:=(Enc.slice Enc.u8)) (secret_v) ([secret_v]) secret rfl (GC a6.oneCell) ⟨_,rfl,a6⟩ s0 fun a8 h3 e1 e2 h4 a0=>(?_)))))
 have a3:=a3.mv e2
 refine AA (ER (E:=Enc.int) (vI epoch) ([vI epoch]) epoch rfl rfl rfl e1 fun b2 h5 e3 d5 h6 a1=>(?_))
 have a3:=a3.mv d5
 have a0:=a0.mv d5
 refine AA (ER (E:=Enc.int) (vI threshold) ([vI threshold]) threshold rfl rfl rfl e3 fun a9 h7 e4 c5 h8 a2=>(?_))
 have a3:=a3.mv c5
 have a0:=a0.mv c5
 have a1:=a1.mv c5
 refine AA (ER (E:=Enc.int) (vI many) ([vI many]) many rfl rfl rfl e4 fun b3 h9 e5 b4 i0 a4=>(?_))
 have a3:=a3.mv b4
 have a0:=a0.mv b4
 have a1:=a1.mv b4
 have a2:=a2.mv b4
 refine AA (ER (E:=(Enc.slice Enc.u8)) (coins_v) ([coins_v]) coins rfl (GC a3.oneCell) ⟨_,rfl,a3⟩ e5 fun b5 e6 a5 b6 i1 c6=>(?_))
 have a0:=a0.mv b6
 have a1:=a1.mv b6
 have a2:=a2.mv b6
 have a4:=a4.mv b6
 refine AA (AD (nS) rfl (AA (AD (vI 0) rfl (AG (AC (AF (BA (AF (AB kR (AA (CF U23_ rfl rfl a0 fun i2 c7=>(?_))))))))))))
 have:=c7.len_le
 refine AA (CA U23_ rfl c7 (AA (GQ .i64 (secret.length:Int) (64:Int) rfl rfl (AA (AD (vO (decide ((64:Int)<(secret.length:Int)))) rfl (AG (AC (AJ (decide ((64:Int)<(secret.length:Int))) rfl rfl (fun c1=>?_) (fun c1=>?_)))))))))
 ·have f8:(64:Int)<(secret.length:Int):=by simpa using c1
  refine AF (AB kR (AA (AD (nS) rfl (AA (AD (vI 1) rfl (AG (AC (AM (BK (AK (AS rfl (EA rfl rfl rfl rfl) (?_))))))))))))
  have e:(BY secret epoch threshold many coins)=([],(1:Int)):=by exact JB (by unfold DM;((repeat ((refine (if_pos ?_).trans ?_;omega)));rfl)) (by decide)
  exact ⟨_,rfl,a5.keep,by rw [e];exact ⟨.slice none 0 0,rfl,BB.nil _ _ _⟩⟩
 have f9:(secret.length:Int)≤(64:Int):=by simpa using c1
 refine AF (AB kR (AA (CC U3_ rfl rfl a2 (AA (DO .i64 threshold (1:Int) rfl rfl (AA (AE (vO (decide (threshold<(1:Int)))) rfl (?_))))))))
 cases c8:(decide (threshold<(1:Int)))
 ·have g0:(1:Int)≤threshold:=by simpa using c8
  refine BJ rfl (CC U3_ rfl rfl a2 (BJ rfl (CC U3_ rfl rfl a4 (BJ rfl (GQ .i64 threshold many rfl rfl (AA (BX (vO (decide (many<threshold))) rfl rfl (AA (AE (vO (decide (many<threshold))) rfl (?_))))))))))
  cases c9:(decide (many<threshold))
  ·have g1:threshold≤many:=by simpa using c9
   refine BJ rfl (CC U3_ rfl rfl a4 (BJ rfl (GQ .i64 many (8:Int) rfl rfl (AA (BX (vO (decide ((8:Int)<many))) rfl rfl (AA (AD (vO (decide ((8:Int)<many))) rfl (AG (AC (AJ (decide ((8:Int)<many)) rfl rfl (fun c2=>?_) (fun c2=>?_)))))))))))
   ·have g2:(8:Int)<many:=by simpa using c2
    refine AF (AB kR (AA (AD (nS) rfl (AA (AD (vI 80) rfl (AG (AC (AM (BK (AK (AS rfl (EA rfl rfl rfl rfl) (?_))))))))))))
    have e:(BY secret epoch threshold many coins)=([],(80:Int)):=by exact JB (by unfold DM;((repeat (first|(refine (if_pos ?_).trans ?_;omega)|(refine (if_neg ?_).trans ?_;omega)));rfl)) (by decide)
    exact ⟨_,rfl,a5.keep,by rw [e];exact ⟨.slice none 0 0,rfl,BB.nil _ _ _⟩⟩
   have g3:many≤(8:Int):=by simpa using c2
   refine AF (AB kR (AA (CC U3_ rfl rfl a1 (AA (DO .i64 epoch (0:Int) rfl rfl (AA (AE (vO (decide (epoch<(0:Int)))) rfl (?_))))))))
   cases d0:(decide (epoch<(0:Int)))
   ·have g4:(0:Int)≤epoch:=by simpa using d0
    refine BJ rfl (CC U3_ rfl rfl a1 (BJ rfl (GQ .i64 epoch (1048576:Int) rfl rfl (AA (BX (vO (decide ((1048576:Int)<epoch))) rfl rfl (AA (AD (vO (decide ((1048576:Int)<epoch))) rfl (AG (AC (AJ (decide ((1048576:Int)<epoch)) rfl rfl (fun c3=>?_) (fun c3=>?_)))))))))))
    ·have g5:(1048576:Int)<epoch:=by simpa using c3
     refine AF (AB kR (AA (AD (nS) rfl (AA (AD (vI 81) rfl (AG (AC (AM (BK (AK (AS rfl (EA rfl rfl rfl rfl) (?_))))))))))))
     have e:(BY secret epoch threshold many coins)=([],(81:Int)):=by exact JB (by unfold DM;((repeat (first|(refine (if_pos ?_).trans ?_;omega)|(refine (if_neg ?_).trans ?_;omega)));rfl)) (by decide)
     exact ⟨_,rfl,a5.keep,by rw [e];exact ⟨.slice none 0 0,rfl,BB.nil _ _ _⟩⟩
    have g6:epoch≤(1048576:Int):=by simpa using c3
    refine AF (AB kR (AA (CF U23_ rfl rfl c6 fun i3 d1=>(?_))))
    have:=d1.len_le
    refine AA (CA U23_ rfl d1 (AA (CF U23_ rfl rfl a0 fun i4 d2=>(?_))))
    have:=d2.len_le
    refine AA (CA U23_ rfl d2 (AA (CC U3_ rfl rfl a2 (AA (IA .i64 threshold (1:Int) (threshold - (1:Int)) rfl rfl (FQ oM oM) (AA (YB .i64 (secret.length:Int) (threshold - (1:Int)) ((secret.length:Int)*(threshold - (1:Int))) rfl rfl (FQ (mulb oM oM oM oM) rfl) (AA (CT .i64 (coins.length:Int) ((secret.length:Int)*(threshold - (1:Int))) rfl rfl (AA (AD (vO ((coins.length:Int) != ((secret.length:Int)*(threshold - (1:Int))))) rfl (AG (AC (AJ ((coins.length:Int) != ((secret.length:Int)*(threshold - (1:Int)))) rfl rfl (fun c4=>?_) (fun c4=>?_)))))))))))))))
    ·have g7:(coins.length:Int)≠(secret.length:Int)*(threshold - (1:Int)):=by simpa using c4
     refine AF (AB kR (AA (AD (nS) rfl (AA (AD (vI 1) rfl (AG (AC (AM (BK (AK (AS rfl (EA rfl rfl rfl rfl) (?_))))))))))))
     have e:(BY secret epoch threshold many coins)=([],(1:Int)):=by exact JB (by unfold DM;((repeat (first|(refine (if_pos ?_).trans ?_;omega)|(refine (if_neg ?_).trans ?_;omega)));rfl)) (by decide)
     exact ⟨_,rfl,a5.keep,by rw [e];exact ⟨.slice none 0 0,rfl,BB.nil _ _ _⟩⟩
    have g8:(coins.length:Int)=(secret.length:Int)*(threshold - (1:Int)):=by simpa using c4
    refine AO (BZ (AC (AF (AB kR (AA (CF U23_ rfl rfl a0 fun i5 d3=>(?_)))))))
    have:=d3.len_le
    refine AA (CA U23_ rfl d3 (AA (DP (first:=[]) (captured:=[.tmp 5, .tmp 9, .tmp 7]) [] [vP (some a8),vP (some b5),vP (some a9)] rfl rfl (AA (AZ (vs:=[vI (secret.length:Int),vN (.func 45) #[] #[vP (some a8),vP (some b5),vP (some a9)]]) enter_44 (c_collectL (O:=[]++O) (secret.length:Int) 45 [vP (some a8),vP (some b5),vP (some a9)] (fun i_=>IP secret coins threshold i_) e6 enter_45 (fun w'_ O'_ kk_ hs_ hl_ i_  hc_=>c_split1 (O:=O'_) i_ a8 secret b5 coins a9 threshold w'_ (a0.on hs_ kk_) (c6.on hs_ kk_) (a2.on hs_ kk_) oM oM oM oM oM hl_) oM a5.lt) rfl a5 fun e7 i6 e8 b7 i7 e9=>(?_))))))
    obtain ⟨_,rfl,a7⟩:=e9
    have:=a7.len_le
    have a0:=a0.mv b7
    have a1:=a1.mv b7
    have a2:=a2.mv b7
    have a4:=a4.mv b7
    refine AA (DE [nS] z_83 rfl e8 fun b8 i8 f0 f1 b0 i9 d7=>(?_))
    clear f0
    have a0:=a0.mv b0
    have a1:=a1.mv b0
    have a2:=a2.mv b0
    have a4:=a4.mv b0
    have a7:=a7.mv b0
    refine CB (CI (e7) rfl rfl a7.oneCell s_83 (by repeat (constructor)) d7 oT f1 fun f2 f3 b1 j0 d8=>(?_))
    have a0:=a0.mv b1
    have a1:=a1.mv b1
    have a2:=a2.mv b1
    have a4:=a4.mv b1
    have a7:=a7.mv b1
    refine AG (AC (AF (AB kR (AA (CC U3_ rfl rfl a4 (?_))))))
    obtain ⟨f4,d6,b9,d9,g9⟩:=d8.publish (E:=(Enc.slice (Enc.slice Enc.u8))) (u:=(List.range ((secret.length:Int)).toNat).map (fun i_=>IP secret coins threshold i_)) ⟨_,rfl,a7⟩ f3 (by repeat (constructor))
    have a0:=a0.mv b9
    have a1:=a1.mv b9
    have a2:=a2.mv b9
    have a4:=a4.mv b9
    refine AA (DP (first:=[]) (captured:=[.tmp 5, .tmp 12, .tmp 6, .tmp 7, .tmp 8]) [] [vP (some a8),vP (some ⟨b8,0,none⟩),vP (some b2),vP (some a9),vP (some b3)] rfl rfl (AA (AZ (vs:=[vI many,vN (.func 48) #[] #[vP (some a8),vP (some ⟨b8,0,none⟩),vP (some b2),vP (some a9),vP (some b3)]]) WE (QY (O:=f4++O) many 48 [vP (some a8),vP (some ⟨b8,0,none⟩),vP (some b2),vP (some a9),vP (some b3)] (fun i_=>FB secret ((List.range ((secret.length:Int)).toNat).map (fun i_=>IP secret coins threshold i_)) epoch threshold many i_) f2 enter_48 (fun w'_ O'_ kk_ hs_ hl_ i_  hc_=>c_split2 (O:=O'_) i_ a8 secret (⟨b8,0,none⟩) ((List.range ((secret.length:Int)).toNat).map (fun i_=>IP secret coins threshold i_)) b2 epoch a9 threshold b3 many w'_ (a0.on hs_ kk_) (d9.on hs_ kk_) (a1.on hs_ kk_) (a2.on hs_ kk_) (a4.on hs_ kk_) (by simp) oM oM oM hl_) oM d6.lt) rfl d6 fun c0 j1 f5 j2 j3 f6=>(?_))))
    obtain ⟨_,rfl,d4⟩:=f6
    have:=d4.len_le
    refine AA (AD (c0) rfl (AG (AC (AF (AB kR (AA (AE (c0) rfl (AA (AD (c0) rfl (AA (AD (vI 0) rfl (AG (AC (AM (AS rfl (EA rfl rfl rfl rfl) (?_))))))))))))))))
    have e:(BY secret epoch threshold many coins)=((List.range (many).toNat).map (fun i_=>FB secret ((List.range ((secret.length:Int)).toNat).map (fun i_=>IP secret coins threshold i_)) epoch threshold many i_),(0:Int)):=by exact splitM_ok (by unfold DM;((repeat ((refine (if_neg ?_).trans ?_;omega)));rfl)) rfl
    exact ⟨_,rfl,f5.keep,by rw [e];exact ⟨c0,rfl,d4.out⟩⟩
   have h0:epoch<(0:Int):=by simpa using d0
   refine AT rfl (AT rfl (AA (AX (vO true) rfl rfl (AA (AD (vO true) rfl (AG (AC (AJ true rfl rfl (fun _=>AF (AB kR (AA (AD (nS) rfl (AA (AD (vI 81) rfl (AG (AC (AM (BK (AK (AS rfl (EA rfl rfl rfl rfl) (?_))))))))))))) (fun h=>by cases h)))))))))
   have e:(BY secret epoch threshold many coins)=([],(81:Int)):=by exact JB (by unfold DM;((repeat (first|(refine (if_pos ?_).trans ?_;omega)|(refine (if_neg ?_).trans ?_;omega)));rfl)) (by decide)
   exact ⟨_,rfl,a5.keep,by rw [e];exact ⟨.slice none 0 0,rfl,BB.nil _ _ _⟩⟩
  have h1:many<threshold:=by simpa using c9
  refine AT rfl (AT rfl (AA (AX (vO true) rfl rfl (AA (AD (vO true) rfl (AG (AC (AJ true rfl rfl (fun _=>AF (AB kR (AA (AD (nS) rfl (AA (AD (vI 80) rfl (AG (AC (AM (BK (AK (AS rfl (EA rfl rfl rfl rfl) (?_))))))))))))) (fun h=>by cases h)))))))))
  have e:(BY secret epoch threshold many coins)=([],(80:Int)):=by exact JB (by unfold DM;((repeat (first|(refine (if_pos ?_).trans ?_;omega)|(refine (if_neg ?_).trans ?_;omega)));rfl)) (by decide)
  exact ⟨_,rfl,a5.keep,by rw [e];exact ⟨.slice none 0 0,rfl,BB.nil _ _ _⟩⟩
 have h2:threshold<(1:Int):=by simpa using c8
 refine AT rfl (AT rfl (AT rfl (AA (AX (vO true) rfl rfl (AA (AE (vO true) rfl (AT rfl (AT rfl (AA (AX (vO true) rfl rfl (AA (AD (vO true) rfl (AG (AC (AJ true rfl rfl (fun _=>AF (AB kR (AA (AD (nS) rfl (AA (AD (vI 80) rfl (AG (AC (AM (BK (AK (AS rfl (EA rfl rfl rfl rfl) (?_))))))))))))) (fun h=>by cases h))))))))))))))))
 have e:(BY secret epoch threshold many coins)=([],(80:Int)):=by exact JB (by unfold DM;((repeat (first|(refine (if_pos ?_).trans ?_;omega)|(refine (if_neg ?_).trans ?_;omega)));rfl)) (by decide)
 exact ⟨_,rfl,a5.keep,by rw [e];exact ⟨.slice none 0 0,rfl,BB.nil _ _ _⟩⟩
open Go.Fw Go.RowKit
set_option maxHeartbeats 4000000 in
set_option maxRecDepth 100000 in
theorem c_indices1 {O:List Nat} (i:Nat) (l_a:Addr) (l:(List Share)) (w:World) (a1:PT (Enc.slice Enc.share) w O (.pointer (some l_a)) l) (hpre0:i<l.length) (hO:∀ b∈O,b<w.heap.size):CE Try.prog 89 [vI (i:Int), .pointer (some l_a)] w (fun v _=>v=vB (DL l[i]!.index)):= by
 have a1:PT (Enc.slice Enc.share) w ([]++O) (.pointer (some l_a)) l:=a1
 have s0:St w O w []:=St.start hO
 refine BI 10 Try.func89 rfl rfl oT (fun F0=>AF (AB kR (AA (AD (vB (0:UInt8)) rfl (AG (AC (AF (AB kR (AA (CF U32_ rfl rfl a1 fun a4 a0=>(?_)))))))))))
 have:=a0.len_le
 refine AA (AE (vI (i:Int)) rfl (AA (CP U32_ CZ .i64 (i:Int) i rfl rfl rfl a0 oM fun a5 a2=>(AA (BH 1 KJ ((l[i]!).index) rfl a2 (fun _ _ _ h=>IL h) fun a6 a3=>(AA (CC U3_ rfl rfl a3 (AA (OU .i64 U3_ U5_ ((l[i]!).index) rfl (AA (AD (vB (DL ((l[i]!).index))) rfl (AG (AC (AM (AS rfl (CN rfl rfl rfl) (?_))))))))))))))))
 have e:(DL l[i]!.index)=(DL ((l[i]!).index)):=rfl
 exact ⟨_,rfl,s0.keep,by rw [e];exact rfl⟩
set_option maxHeartbeats 4000000 in
set_option maxRecDepth 100000 in
theorem XZ {O:List Nat} (l_v:Value) (l:List Share) (w:World) (a1:BB Enc.share w O l_v l) (hpre0:l.length≤1000000) (hO:∀ b∈O,b<w.heap.size):CE Try.prog 41 [l_v] w (fun v w'=>∃ (x0:Value),v=x0∧BB Enc.u8 w' (O) x0 (ME l)):= by
 have b0:=a1.len_le
 have a1:BB Enc.share w ([]++O) l_v l:=a1
 have s0:St w O w []:=St.start hO
 refine BI 7 Try.func41 rfl rfl oT (fun F0=>AF (AB kR (AA (ER (E:=(Enc.slice Enc.share)) (l_v) ([l_v]) l rfl (GC a1.oneCell) ⟨_,rfl,a1⟩ s0 fun a0 a7 a5 b1 b2 a2=>(AA (AD (nS) rfl (AG (AC (AF (AB kR (AA (CF U32_ rfl rfl a2 fun b3 a3=>(?_)))))))))))))
 have:=a3.len_le
 refine AA (CA U32_ rfl a3 (AA (DP (first:=[]) (captured:=[.tmp 1]) [] [vP (some a0)] rfl rfl (AA (AZ (vs:=[vI (l.length:Int),vN (.func 89) #[] #[vP (some a0)]]) PB (LQ (O:=[]++O) (l.length:Int) 89 [vP (some a0)] (fun i_=>DL l[i_]!.index) a7 enter_89 (fun w'_ O'_ kk_ hs_ hl_ i_  hc_=>c_indices1 (O:=O'_) i_ a0 l w'_ (a2.on hs_ kk_) oM hl_) oM a5.lt) rfl a5 fun a6 b4 a8 b5 b6 a9=>(?_))))))
 obtain ⟨_,rfl,a4⟩:=a9
 have:=a4.len_le
 refine AA (AD (a6) rfl (AG (AC (AM (AS rfl (CN rfl rfl rfl) (?_))))))
 have e:(ME l)=((List.range ((l.length:Int)).toNat).map (fun i_=>DL l[i_]!.index)):=rfl
 exact ⟨_,rfl,a8.keep,by rw [e];exact ⟨a6,rfl,a4.out⟩⟩
set_option maxHeartbeats 4000000 in
set_option maxRecDepth 100000 in
theorem c_column1 {O:List Nat} (i:Nat) (l_a:Addr) (l:(List Share)) (place_a:Addr) (place:Int) (w:World) (a1:PT (Enc.slice Enc.share) w O (.pointer (some l_a)) l) (a0:PT Enc.int w O (.pointer (some place_a)) place) (hpre0:i<l.length) (hpre1:0≤place) (hpre2:(place).toNat<l[i]!.data.length) (hO:∀ b∈O,b<w.heap.size):CE Try.prog 90 [vI (i:Int), .pointer (some l_a), .pointer (some place_a)] w (fun v _=>v=vB (l[i]!.data[(place).toNat]!)):= by
 have a1:PT (Enc.slice Enc.share) w ([]++O) (.pointer (some l_a)) l:=a1
 have a0:PT Enc.int w ([]++O) (.pointer (some place_a)) place:=a0
 have s0:St w O w []:=St.start hO
 refine BI 13 Try.func90 rfl rfl oT (fun F0=>AF (AB kR (AA (AD (vB (0:UInt8)) rfl (AG (AC (AF (FJ 9 _ _ kR kR kR kR kR rfl rfl fun a9 a4=>?_))))))))
 have b0:=s0.call a4
 have a5:Mv ([]) w ([]) a9:=Mv.of_keep a4
 have a1:=a1.mv a5
 have a0:=a0.mv a5
 refine BM (CF U32_ rfl rfl a1 fun b1 a2=>(?_))
 have:=a2.len_le
 refine BM (AE (vI (i:Int)) rfl (BM (CP U32_ CZ .i64 (i:Int) i rfl rfl rfl a2 oM fun b2 a6=>(BM (BH 4 EP ((l[i]!).data) rfl a6 (fun _ _ _ h=>EG h) fun b3 a7=>(BM (CF U23_ rfl rfl a7 fun b4 a3=>(?_))))))))
 have:=a3.len_le
 refine BM (CC U3_ rfl rfl a0 (BM (CP U23_ GK .i64 place place.toNat rfl rfl oM a3 oM fun b5 a8=>(BM (EM U5_ rfl rfl a8 (BM (AD (vB (((l[i]!).data)[place.toNat]!)) rfl (EQ (AG (AC (AM (AS rfl (CN rfl rfl rfl) (?_)))))))))))))
 have e:(l[i]!.data[(place).toNat]!)=(((l[i]!).data)[place.toNat]!):=rfl
 exact ⟨_,rfl,b0.keep,by rw [e];exact rfl⟩
set_option maxHeartbeats 4000000 in
set_option maxRecDepth 100000 in
theorem c_column {O:List Nat} (l_v:Value) (l:List Share) (place:Nat) (w:World) (a3:BB Enc.share w O l_v l) (hpre0:l.length≤1000000) (hpre1:∀ k,k<l.length→place<l[k]!.data.length) (hO:∀ b∈O,b<w.heap.size):CE Try.prog 42 [l_v,vI (place:Int)] w (fun v w'=>∃ (x0:Value),v=x0∧BB Enc.u8 w' (O) x0 (FN l place)):= by
 have b4:=a3.len_le
 have a3:BB Enc.share w ([]++O) l_v l:=a3
 have s0:St w O w []:=St.start hO
 refine BI 9 Try.func42 rfl rfl oT (fun F0=>AF (AB kR (AA (ER (E:=(Enc.slice Enc.share)) (l_v) ([l_v]) l rfl (GC a3.oneCell) ⟨_,rfl,a3⟩ s0 fun a1 b5 a9 b6 b7 a0=>(AA (ER (E:=Enc.int) (vI (place:Int)) ([vI (place:Int)]) (place:Int) rfl rfl rfl a9 fun a2 b0 a6 b1 b8 a8=>(?_)))))))
 have a0:=a0.mv b1
 refine AA (AD (nS) rfl (AG (AC (AF (AB kR (AA (CF U32_ rfl rfl a0 fun b9 a4=>(?_))))))))
 have:=a4.len_le
 refine AA (CA U32_ rfl a4 (AA (DP (first:=[]) (captured:=[.tmp 2, .tmp 3]) [] [vP (some a1),vP (some a2)] rfl rfl (AA (AZ (vs:=[vI (l.length:Int),vN (.func 90) #[] #[vP (some a1),vP (some a2)]]) PB (LQ (O:=[]++O) (l.length:Int) 90 [vP (some a1),vP (some a2)] (fun i_=>l[i_]!.data[((place:Int)).toNat]!) b0 enter_90 (fun w'_ O'_ kk_ hs_ hl_ i_  hc_=>c_column1 (O:=O'_) i_ a1 l a2 (place:Int) w'_ (a0.on hs_ kk_) (a8.on hs_ kk_) oM oM (hpre1 i_ oM) hl_) oM a6.lt) rfl a6 fun a7 c0 b2 c1 c2 b3=>(?_))))))
 obtain ⟨_,rfl,a5⟩:=b3
 have:=a5.len_le
 refine AA (AD (a7) rfl (AG (AC (AM (AS rfl (CN rfl rfl rfl) (?_))))))
 have e:(FN l place)=((List.range ((l.length:Int)).toNat).map (fun i_=>l[i_]!.data[((place:Int)).toNat]!)):=rfl
 exact ⟨_,rfl,b2.keep,by rw [e];exact ⟨a7,rfl,a5.out⟩⟩
set_option maxHeartbeats 4000000 in
set_option maxRecDepth 100000 in
theorem c_join1 {O:List Nat} (p:Nat) (xs_a:Addr) (xs:(List UInt8)) (l_a:Addr) (l:(List Share)) (w:World) (a0:PT (Enc.slice Enc.u8) w O (.pointer (some xs_a)) xs) (a5:PT (Enc.slice Enc.share) w O (.pointer (some l_a)) l) (hpre0:l.length≤1000) (hpre1:xs.length<1000) (hpre2:∀ k,k<l.length→p<l[k]!.data.length) (hO:∀ b∈O,b<w.heap.size):CE Try.prog 62 [vI (p:Int), .pointer (some xs_a), .pointer (some l_a)] w (fun v _=>v=vB ((DK xs (FN l p) 0).1)):= by
 have a0:PT (Enc.slice Enc.u8) w ([]++O) (.pointer (some xs_a)) xs:=a0
 have a5:PT (Enc.slice Enc.share) w ([]++O) (.pointer (some l_a)) l:=a5
 have s0:St w O w []:=St.start hO
 refine BI 16 Try.func62 rfl rfl oT (fun F0=>AF (AB kR (AA (AD (vB (0:UInt8)) rfl (AG (AC (AF (cw_draw' 9 _ _ [fun (vT:Value) (wT:World)=>BB Enc.u8 wT ([]++O) vT (xs),fun (vT:Value) (wT:World)=>BB Enc.share wT ([]++O) vT (l),DZ (vI (p:Int)),fun (vT:Value) (wT:World)=>BB Enc.u8 wT ([]++O) vT (FN l p),DZ (vT #[vB ((DK xs (FN l p) (0:UInt8)).1),vI ((DK xs (FN l p) (0:UInt8)).2)]),DZ (vT #[vB ((DK xs (FN l p) (0:UInt8)).1),vI ((DK xs (FN l p) (0:UInt8)).2)]),DZ (vB ((DK xs (FN l p) (0:UInt8)).1)),DZ (vI ((DK xs (FN l p) (0:UInt8)).2)),DZ (vB ((DK xs (FN l p) (0:UInt8)).1))] kR kR kR kR rfl rfl ⟨fun _ _ _ h k=>h.mv (Mv.of_keep k),fun _ _ _ h k=>h.mv (Mv.of_keep k),kI,fun _ _ _ h k=>h.mv (Mv.of_keep k),kI,kI,kI,kI,kI,trivial⟩ ⟨?_,?_,?_,?_,?_,?_,?_,?_,?_,trivial⟩ ?_))))))))
 ·intro F1 w1 k1 hf hd
  have k0:=(Keep.drew [] w).trans k1
  have m1:Mv ([]) w ([]) w1:=Mv.of_keep k0
  have a0:=a0.mv m1
  obtain ⟨F2,rfl⟩:=AL (F:=F1) [(1,vP (some xs_a))] ⟨hf 1 kR,trivial⟩
  refine AH rfl ((CF U23_ rfl rfl a0 fun c3 a6=>(?_)))
  have:=a6.len_le
  exact ⟨(Keep.refl _ _),a6⟩
 ·intro F1 w1 k1 hf hd
  have k0:=(Keep.drew [] w).trans k1
  have m1:Mv ([]) w ([]) w1:=Mv.of_keep k0
  have a5:=a5.mv m1
  obtain ⟨F2,rfl⟩:=AL (F:=F1) [(2,vP (some l_a))] ⟨hf 2 kR,trivial⟩
  refine AH rfl ((CF U32_ rfl rfl a5 fun c4 a7=>(?_)))
  have:=a7.len_le
  exact ⟨(Keep.refl _ _),a7⟩
 ·intro F1 w1 k1 hf hd
  obtain ⟨F2,rfl⟩:=AL (F:=F1) [(0,vI (p:Int))] ⟨hf 0 kR,trivial⟩
  exact AH rfl ((AE (vI (p:Int)) rfl (⟨(Keep.refl _ _),rfl⟩)))
 ·intro F1 w1 k1 hf hd
  have k0:=(Keep.drew [] w).trans k1
  have s1:=s0.call k0
  obtain ⟨a2,b3,a8⟩:∃ v,F1 9=v∧BB Enc.share w1 ([]++O) v (l):=⟨_,rfl,hd 1 9 kR⟩
  have:=a8.len_le
  obtain ⟨F2,rfl⟩:=AL (F:=F1) [(9,a2),(10,vI (p:Int))] ⟨b3,hd 2 10 kR,trivial⟩
  refine AH rfl ((AZ (vs:=[a2,vI (p:Int)]) enter_42 (c_column (O:=[]++O) a2 l p w1 a8 oM hpre2 s1.lt) rfl s1 fun c5 c6 c7 c8 b4 b5=>(?_)))
  obtain ⟨_,rfl,a9⟩:=b5
  have:=a9.len_le
  exact ⟨b4,a9⟩
 ·intro F1 w1 k1 hf hd
  have k0:=(Keep.drew [] w).trans k1
  have s1:=s0.call k0
  obtain ⟨a3,b6,b0⟩:∃ v,F1 8=v∧BB Enc.u8 w1 ([]++O) v (xs):=⟨_,rfl,hd 0 8 kR⟩
  have:=b0.len_le
  obtain ⟨a4,b7,b1⟩:∃ v,F1 11=v∧BB Enc.u8 w1 ([]++O) v (FN l p):=⟨_,rfl,hd 3 11 kR⟩
  have:=b1.len_le
  obtain ⟨F2,rfl⟩:=AL (F:=F1) [(8,a3),(11,a4)] ⟨b6,b7,trivial⟩
  refine AH rfl ((AZ (vs:=[a3,a4,vB (0:UInt8)]) enter_63 (c_through (O:=[]++O) a3 xs a4 (FN l p) (0:UInt8) w1 b0 b1 oM s1.lt) rfl s1 fun c9 d0 d1 d2 b8 b9=>(?_)))
  obtain rfl:=b9
  exact ⟨b8,rfl⟩
 ·intro F1 w1 k1 hf hd
  obtain ⟨F2,rfl⟩:=AL (F:=F1) [(12,vT #[vB ((DK xs (FN l p) (0:UInt8)).1),vI ((DK xs (FN l p) (0:UInt8)).2)])] ⟨hd 4 12 kR,trivial⟩
  exact AH rfl ((AE (vT #[vB ((DK xs (FN l p) (0:UInt8)).1),vI ((DK xs (FN l p) (0:UInt8)).2)]) rfl (⟨(Keep.refl _ _),rfl⟩)))
 ·intro F1 w1 k1 hf hd
  obtain ⟨F2,rfl⟩:=AL (F:=F1) [(7,vT #[vB ((DK xs (FN l p) (0:UInt8)).1),vI ((DK xs (FN l p) (0:UInt8)).2)])] ⟨hd 5 7 kR,trivial⟩
  exact AH rfl ((AN (vB ((DK xs (FN l p) (0:UInt8)).1)) rfl rfl (⟨(Keep.refl _ _),rfl⟩)))
 ·intro F1 w1 k1 hf hd
  obtain ⟨F2,rfl⟩:=AL (F:=F1) [(7,vT #[vB ((DK xs (FN l p) (0:UInt8)).1),vI ((DK xs (FN l p) (0:UInt8)).2)])] ⟨hd 5 7 kR,trivial⟩
  exact AH rfl ((AN (vI ((DK xs (FN l p) (0:UInt8)).2)) rfl rfl (⟨(Keep.refl _ _),rfl⟩)))
 ·intro F1 w1 k1 hf hd
  obtain ⟨F2,rfl⟩:=AL (F:=F1) [(13,vB ((DK xs (FN l p) (0:UInt8)).1))] ⟨hd 6 13 kR,trivial⟩
  exact AH rfl ((AD (vB ((DK xs (FN l p) (0:UInt8)).1)) rfl (⟨(Keep.refl _ _),rfl⟩)))
 intro c0 d3 c1 a1 b2
 have c2:=s0.call c1
 obtain ⟨F2,rfl⟩:=AL (F:=c0) [(16,undef),(5,vB ((DK xs (FN l p) (0:UInt8)).1)),(14,vI ((DK xs (FN l p) (0:UInt8)).2))] ⟨b2 16 kR,a1 8 5 kR (by decide),a1 7 14 kR (by decide),trivial⟩
 clear a1 b2
 refine AA (AD (vI ((DK xs (FN l p) (0:UInt8)).2)) rfl (AG (AC (AF (AB kR (AA (AE (vB ((DK xs (FN l p) (0:UInt8)).1)) rfl (AA (AD (vB ((DK xs (FN l p) (0:UInt8)).1)) rfl (AG (AC (AM (AS rfl (CN rfl rfl rfl) (?_))))))))))))))
 have e:((DK xs (FN l p) 0).1)=((DK xs (FN l p) (0:UInt8)).1):=rfl
 exact ⟨_,rfl,c2.keep,by rw [e];exact rfl⟩
set_option maxHeartbeats 4000000 in
set_option maxRecDepth 100000 in
theorem c_join {O:List Nat} (l_v:Value) (l:List Share) (w:World) (a5:BB Enc.share w O l_v l) (hO:∀ b∈O,b<w.heap.size):CE Try.prog 30 [l_v] w (fun v w'=>∃ (x0:Value),v = .tuple #[x0,vI ((DD l).2)]∧BB Enc.u8 w' (O) x0 ((DD l).1)):= by
 have g1:=a5.len_le
 have a5:BB Enc.share w ([]++O) l_v l:=a5
 have s0:St w O w []:=St.start hO
 refine BI 34 Try.func30 rfl rfl oT (fun F0=>AF (AB kR (AA (o_box (l_v) [l_v] rfl (GC a5.oneCell) s0 fun a2 d0 d1 b6 d2 g2 a3=>(?_)))))
 clear d1
 have a5:=a5.mv d2
 refine AA (AD (nS) rfl (AA (AD (vI 0) rfl (AG (AC (AF (AF (AB kR (AA (AW U32_ rfl (l_v) rfl a3 rfl (AA (AZ (vs:=[l_v]) NI (MX (O:=(a2 :: [])++O) l_v l d0 a5 b6.lt) rfl b6 fun g3 g4 b2 d3 d4 d5=>(?_)))))))))))))
 obtain rfl:=d5
 have a5:=a5.mv d3
 have a3:=a3.keep d4 (by simp)
 refine AA (AD (vI (BO l)) rfl (AG (AC (AF (AB kR (AA (AE (vI (BO l)) rfl (AA (CT .i64 (BO l) (0:Int) rfl rfl (AG (AC (AJ ((BO l) != (0:Int)) rfl rfl (fun a9=>?_) (fun a9=>?_)))))))))))))
 ·have f7:BO l≠(0:Int):=by simpa using a9
  refine AF (AB kR (AA (AE (vI (BO l)) rfl (AA (AD (nS) rfl (AA (AD (vI (BO l)) rfl (AG (AC (AM (AK (AS rfl (EA rfl rfl rfl rfl) (?_)))))))))))))
  have e:(DD l)=([],BO l):=by exact joinM_bad oM rfl
  exact ⟨_,rfl,b2.keep,by rw [e];exact ⟨.slice none 0 0,rfl,BB.nil _ _ _⟩⟩
 have c1:BO l=(0:Int):=by simpa using a9
 have hv:=(FS l).1 c1
 have hpos:=hv.pos
 have ht1:=hv.t1
 have htm:=hv.tm
 have h7:=hv.m8
 have h6:=hv.d64
 refine AO (AC (AF (AB kR (AA (AW U32_ rfl (l_v) rfl a3 rfl (AA (CP U32_ CZ .i64 (0:Int) 0 rfl rfl rfl a5 oM fun g5 c2=>(AA (BH 2 HK ((l[0]!).threshold) rfl c2 (fun _ _ _ h=>HM h) fun g6 c3=>(AA (CC U3_ rfl rfl c3 (AA (AD (vI ((l[0]!).threshold)) rfl (AG (AC (AF (AF (AB kR (AA (AW U32_ rfl (l_v) rfl a3 rfl (AA (CA U32_ rfl a5 (AA (AE (vI ((l[0]!).threshold)) rfl (AA (DO .i64 (l.length:Int) ((l[0]!).threshold) rfl rfl (AG (AC (AJ (decide ((l.length:Int)<(l[0]!).threshold)) rfl rfl (fun b0=>?_) (fun b0=>?_))))))))))))))))))))))))))))))
 ·have f8:(l.length:Int)<(l[0]!).threshold:=by simpa using b0
  refine AF (AB kR (AA (AD (nS) rfl (AA (AD (vI 80) rfl (AG (AC (AM (AK (AS rfl (EA rfl rfl rfl rfl) (?_)))))))))))
  have e:(DD l)=([],(80:Int)):=by exact YJ oM oM rfl
  exact ⟨_,rfl,b2.keep,by rw [e];exact ⟨.slice none 0 0,rfl,BB.nil _ _ _⟩⟩
 have f9:(l[0]!).threshold≤(l.length:Int):=by simpa using b0
 have htk:(l.take (l[0]!.threshold).toNat).length=l[0]!.threshold.toNat:=by rw [List.length_take];omega
 refine AO (AC (AF (AB kR (AA (AW U32_ rfl (l_v) rfl a3 rfl (AA (AE (vI ((l[0]!).threshold)) rfl (AA (AE (vI ((l[0]!).threshold)) rfl (AA (o_slice3R U32_ CZ 0 (((l[0]!).threshold).toNat) (((l[0]!).threshold).toNat) rfl (.inl ⟨rfl,rfl⟩) .i64 .i64 ((l[0]!).threshold) ((l[0]!).threshold) rfl oM rfl oM oM oM oM a5 fun a7 a0=>(?_))))))))))))
 rw [List.drop_zero] at a0
 refine CB (CI (a7) rfl rfl a0.oneCell s_32 (by repeat (constructor)) a3 oT b2 fun d6 b7 d7 g7 a1=>(?_))
 have a0:=a0.mv d7
 refine AG (AC (AF (AB kR (AA (AW U32_ rfl (a7) rfl a1 rfl (AA (AZ (vs:=[a7]) enter_41 (XZ (O:=(a2 :: [])++O) a7 (l.take (((l[0]!).threshold).toNat)) d6 a0 oM b7.lt) rfl b7 fun d8 g8 d9 e0 e1 e2=>(?_))))))))
 obtain ⟨_,rfl,a4⟩:=e2
 have:=a4.len_le
 have a0:=a0.mv e0
 have a1:=a1.keep e1 (by simp)
 refine AA (DE [nS] z_23 rfl d9 fun a6 g9 e3 e4 b8 e5 c4=>(?_))
 have b3:GV a2 a6:=by show a2≠a6;have:=a1.lt;omega
 clear e3
 have a0:=a0.mv b8
 have a4:=a4.mv b8
 have a1:=a1.keep e5 (by simp)
 refine CB (CI (d8) rfl rfl a4.oneCell s_23 (by repeat (constructor)) c4 oT e4 fun e6 e7 b9 e8 c5=>(?_))
 have a0:=a0.mv b9
 have a4:=a4.mv b9
 have a1:=a1.keep e8 (BC b3)
 refine AG (AC (AF (AB kR (AA (AW U32_ rfl (a7) rfl a1 rfl (AA (CP U32_ CZ .i64 (0:Int) 0 rfl rfl rfl a0 oM fun h0 c6=>(AA (BH 4 EP (((l.take (((l[0]!).threshold).toNat))[0]!).data) rfl c6 (fun _ _ _ h=>EG h) fun h1 c7=>(AA (CF U23_ rfl rfl c7 fun h2 b4=>(?_))))))))))))
 have:=b4.len_le
 refine AA (CA U23_ rfl b4 (?_))
 obtain ⟨e9,f0,f1,b1,c8⟩:=c5.publish (E:=(Enc.slice Enc.u8)) (u:=ME (l.take (((l[0]!).threshold).toNat))) ⟨_,rfl,a4⟩ e7 (by repeat (constructor))
 have f6:a2∈e9:=c8 a2 (by repeat (constructor)) b3
 have a0:=a0.mv f1
 have a1:=a1.keep (Keep.refl [] _) (by simp)
 obtain ⟨f2,c0,f3,c9,g0⟩:=a1.publish (E:=(Enc.slice Enc.share)) (u:=(l.take (((l[0]!).threshold).toNat))) ⟨_,rfl,a0⟩ f0 (by repeat (assumption))
 have b1:=b1.mv f3
 refine AA (DP (first:=[]) (captured:=[.tmp 6, .tmp 1]) [] [vP (some ⟨a6,0,none⟩),vP (some ⟨a2,0,none⟩)] rfl rfl (AA (AZ (vs:=[vI ((((l.take (((l[0]!).threshold).toNat))[0]!).data).length:Int),vN (.func 62) #[] #[vP (some ⟨a6,0,none⟩),vP (some ⟨a2,0,none⟩)]]) PB (LQ (O:=f2++O) ((((l.take (((l[0]!).threshold).toNat))[0]!).data).length:Int) 62 [vP (some ⟨a6,0,none⟩),vP (some ⟨a2,0,none⟩)] (fun i_=>(DK (ME (l.take (((l[0]!).threshold).toNat))) (FN (l.take (((l[0]!).threshold).toNat)) i_) 0).1) e6 enter_62 (fun w'_ O'_ kk_ hs_ hl_ i_  hc_=>c_join1 (O:=O'_) i_ (⟨a6,0,none⟩) (ME (l.take (((l[0]!).threshold).toNat))) (⟨a2,0,none⟩) (l.take (((l[0]!).threshold).toNat)) w'_ (b1.on hs_ kk_) (c9.on hs_ kk_) oM (by rw [IG];omega) (fun k hk=>by rw [takeS oM,hv.da k oM];rw [take0 oM] at hc_;omega) hl_) (by rw [take0 oM];omega) c0.lt) rfl c0 fun a8 h3 f4 h4 h5 f5=>(?_))))
 obtain ⟨_,rfl,b5⟩:=f5
 have:=b5.len_le
 refine AA (AD (a8) rfl (AG (AC (AF (AB kR (AA (AE (a8) rfl (AA (AD (a8) rfl (AA (AD (vI 0) rfl (AG (AC (AM (AS rfl (EA rfl rfl rfl rfl) (?_))))))))))))))))
 have e:(DD l)=((List.range (((((l.take (((l[0]!).threshold).toNat))[0]!).data).length:Int)).toNat).map (fun i_=>(DK (ME (l.take (((l[0]!).threshold).toNat))) (FN (l.take (((l[0]!).threshold).toNat)) i_) 0).1),(0:Int)):=by exact joinM_ok oM oM rfl
 exact ⟨_,rfl,f4.keep,by rw [e];exact ⟨a8,rfl,b5.out⟩⟩
open Go.Fw
section
open Go.RowKit
end
theorem ptX_succ (l:List Share) (n:Nat):ptX l (n+1)=ptX l n++[DL l[n]!.index]:=by simp [ptX,List.range_succ]
theorem ptY_succ (l:List Share) (p n:Nat):ptY l p (n+1)=ptY l p n++[l[n]!.data[p]!]:=by simp [ptY,List.range_succ]
theorem UH (l:List Share) (n:Nat):(ptX l n).length=n:=by simp [ptX]
theorem UK (l:List Share) (p n:Nat):(ptY l p n).length=n:=by simp [ptY]
theorem ptX_all (l:List Share):ptX l l.length=ME l:=rfl
theorem ptY_all (l:List Share) (p:Nat):ptY l p l.length=FN l p:=rfl
theorem expX_zero (l:List Share):KA l 0=[(0:UInt8)]++ME l:=by simp [KA]
theorem expX_succ (l:List Share) (m:Nat):KA l (m+1)=KA l m++[DL (9+(m:Int))]:=by simp [KA,List.range_succ]
theorem expY_eq {l:List Share} {b:UInt8} {p T:Nat} (h:l.length<T) :
    ((List.replicate T (0:UInt8)).set 0 b).take 1++(FN l p).take (((List.replicate T (0:UInt8)).set 0 b).length - 1)++((List.replicate T (0:UInt8)).set 0 b).drop (1+(FN l p).length)=NE l b p (T - 1 - l.length):=by
  obtain ⟨S,rfl⟩:∃ S,T=S+1:=⟨T - 1,by omega⟩
  rw [List.replicate_succ,List.set_cons_zero]
  have h1:(FN l p).take S=FN l p:=List.take_of_length_le (by rw [LV];omega)
  simp only [List.take_succ_cons,List.take_zero,List.length_cons,List.length_replicate,Nat.add_sub_cancel,h1,LV]
  rw [show 1+l.length=l.length+1 by omega,List.drop_succ_cons,List.drop_replicate]
  unfold NE
  rfl
theorem RS (xs ys:List UInt8):(EV xs ys).1.length≤xs.length:=by
  cases h:FY xs ys with
  | true=>rw [coeff_bad h];simp
  | false=>rw [(NM h).2.1.len];exact Nat.le_refl _
theorem expL_len {l:List Share} {secret:List UInt8} {m:Nat} (h:1+l.length+m≤8):∀ p,(ON l secret m p).length≤8*p
  | 0=>by simp [ON]
  | p+1=>by
    unfold ON
    have h1:=expL_len (secret:=secret) h p
    have h2:=RS (KA l m) (NE l secret[p]! p m)
    rw [IH] at h2
    simp only [List.length_append,List.length_drop];omega
theorem u8of_nat' (n:Nat) (h:n<256):(DL (n:Int)).toNat=n:=by
  rw [MD,UInt8.toNat_ofNat'];omega
theorem u8of_inj {a b:Int} (ha:0≤a) (ha':a<256) (hb:0≤b) (hb':b<256) (h:DL a=DL b):a=b:=by
  obtain ⟨x,rfl⟩:∃ x:Nat,a=(x:Int):=⟨a.toNat,by omega⟩
  obtain ⟨y,rfl⟩:∃ y:Nat,b=(y:Int):=⟨b.toNat,by omega⟩
  have:=congrArg UInt8.toNat h
  rw [u8of_nat' x (by omega),u8of_nat' y (by omega)] at this
  omega
def expI (l:List Share) (i:Nat):Int:=if i=0 then 0 else if i≤l.length then l[i - 1]!.index else 9+((i - 1 - l.length:Nat):Int)
theorem WA {l:List Share} {m i:Nat} (h:i<1+l.length+m):(KA l m)[i]! = DL (expI l i):=by
  unfold KA expI
  cases i with
  | zero=>rw [if_pos rfl];rfl
  | succ i=>
    rw [if_neg (by omega),List.cons_append,GE,MB,IG]
    by_cases h1:i<l.length
    · rw [if_pos h1,if_pos (by omega)];unfold ME;rw [II _ _ _ h1,Nat.add_sub_cancel]
    · rw [if_neg h1,if_neg (by omega),II _ _ _ (by omega)]
      congr 2
theorem expI_mono {l:List Share} (hg:Good l):∀ (j i:Nat),i<j→expI l i<expI l j:=by
  intro j i hij
  unfold expI
  have hm:=hg.m8
  by_cases hj:j≤l.length
  · rw [if_neg (c:=j=0) (by omega),if_pos hj]
    have h1:=hg.ix (j - 1) (by omega)
    by_cases hi:i=0
    · rw [if_pos hi];omega
    · rw [if_neg hi,if_pos (by omega)];exact hg.mono (j - 1) (i - 1) (by omega) (by omega)
  · rw [if_neg (c:=j=0) (by omega),if_neg hj]
    by_cases hi:i=0
    · rw [if_pos hi];omega
    · rw [if_neg hi]
      by_cases hi2:i≤l.length
      · rw [if_pos hi2];have:=hg.ix (i - 1) (by omega);omega
      · rw [if_neg hi2];omega
theorem UU {l:List Share} (hg:Good l) (i:Nat) (h:i≤100):0≤expI l i∧expI l i<256:=by
  unfold expI
  have hm:=hg.m8
  split
  · omega
  · split
    · have:=hg.ix (i - 1) (by omega);omega
    · omega
theorem WQ {l:List Share} (hg:Good l) {m:Nat} (h:1+l.length+m≤100):(KA l m).Nodup:=by
  rw [GN]
  intro i j hij hj he
  rw [IH] at hj
  rw [WA (by omega),WA hj] at he
  have h1:=UU hg i (by omega)
  have h2:=UU hg j (by omega)
  have:=u8of_inj h1.1 h1.2 h2.1 h2.2 he
  have:=expI_mono hg j i hij
  omega
theorem XK {l:List Share} (hg:Good l) {m:Nat} (h:1+l.length+m≤100) (b:UInt8) (p:Nat):FY (KA l m) (NE l b p m)=false:=
  (LM _ _).2 ⟨by rw [IH,expY_len],WQ hg h⟩
theorem exp_len {l:List Share} (hg:Good l) {m:Nat} (h:1+l.length+m≤100) (b:UInt8) (p:Nat):(EV (KA l m) (NE l b p m)).1.length=1+l.length+m:=by
  rw [(NM (XK hg h b p)).2.1.len,IH]
theorem RG {l:List Share} {secret:List UInt8} {e:Int} (h:BO l≠0) (he:BO l=e):BE l secret=([],e):=by
  unfold BE;rw [if_pos h,he]
theorem MU {l:List Share} {secret:List UInt8} {e:Int} (h:BO l=0) (h2:l[0]!.threshold≤(l.length:Int)) (he:(80:Int)=e):BE l secret=([],e):=by
  unfold BE;rw [if_neg (by omega),if_pos h2,he]
theorem SE {l:List Share} {secret:List UInt8} {e:Int} (h:BO l=0) (h2:(l.length:Int)<l[0]!.threshold) (h3:(secret.length:Int)≠(l[0]!.data.length:Int)) (he:(1:Int)=e):BE l secret=([],e):=by
  unfold BE;rw [if_neg (by omega),if_neg (by omega),if_pos h3,he]
theorem TP {l:List Share} {secret:List UInt8} {x:List UInt8} (h:BO l=0) (h2:(l.length:Int)<l[0]!.threshold) (h3:(secret.length:Int)=(l[0]!.data.length:Int)) (hx:ON l secret (l[0]!.threshold.toNat - 1 - l.length) secret.length=x):BE l secret=(x,0):=by
  unfold BE;rw [if_neg (by omega),if_neg (by omega),if_neg (by omega),hx]
def JC (l:List Share) (m:Nat):List UInt8:=ME l++[0]++(List.range m).map (fun i:Nat=>DL (9+(i:Int)))
def KT (l:List Share) (b:UInt8) (p m:Nat):List UInt8:=FN l p++[b]++List.replicate m 0
theorem JP (l:List Share) (m:Nat):(JC l m).length=l.length+1+m:=by simp [JC,IG];omega
theorem UO (l:List Share) (b:UInt8) (p m:Nat):(KT l b p m).length=l.length+1+m:=by simp [KT,LV];omega
theorem refX_succ (l:List Share) (m:Nat):JC l (m+1)=JC l m++[DL (9+(m:Int))]:=by simp [JC,List.range_succ]
theorem refY_succ (l:List Share) (b:UInt8) (p m:Nat):KT l b p (m+1)=KT l b p m++[0]:=by
  unfold KT;rw [List.replicate_succ',List.append_assoc,List.append_assoc,List.append_assoc]
theorem refX_zero (l:List Share):JC l 0=ME l++[0]:=by simp [JC]
theorem refY_zero (l:List Share) (b:UInt8) (p:Nat):KT l b p 0=FN l p++[b]:=by simp [KT]
theorem u8of_step (j:Nat):DL (9+(j:Int))+1=DL (9+((j+1:Nat):Int)):=by
  rw [show (9+(j:Int))=((9+j:Nat):Int) by omega,show (9+((j+1:Nat):Int))=((9+j+1:Nat):Int) by omega,MD,MD]
  apply UInt8.toNat_inj.1
  rw [UInt8.toNat_add,UInt8.toNat_ofNat',UInt8.toNat_ofNat']
  show ((9+j) % 256+1) % 256=(9+j+1) % 256
  omega
def GX (l:List Share) (secret:List UInt8) (m:Nat):Nat→List UInt8
  | 0=>[]
  | p+1=>GX l secret m p++(FO (JC l m) (KT l secret[p]! p m)).1.drop 1
def AI (l:List Share) (secret:List UInt8):List UInt8 × Int:=
  if BP l≠0 then ([],BP l) else if l[0]!.threshold≤(l.length:Int) then ([],80) else if (secret.length:Int)≠(l[0]!.data.length:Int) then ([],1) else (GX l secret (l[0]!.threshold.toNat - 1 - l.length) secret.length,0)
def IY (n i:Nat):Nat:=if i<n then i+1 else if i=n then 0 else i
theorem SN {l:List Share} {m i:Nat} (h:i<l.length+1+m):(JC l m)[i]! = (KA l m)[IY l.length i]!:=by
  rw [WA (by unfold IY;split;omega;split <;> omega)]
  unfold JC IY expI
  rw [List.append_assoc,MB,IG]
  by_cases h1:i<l.length
  · rw [if_pos h1,if_pos h1,if_neg (by omega),if_pos (by omega)];unfold ME;rw [II _ _ _ h1,Nat.add_sub_cancel]
  · rw [if_neg h1,if_neg h1]
    by_cases h2:i=l.length
    · rw [if_pos h2,if_pos rfl,h2,Nat.sub_self];rfl
    · rw [if_neg h2,if_neg (by omega),if_neg (by omega)]
      obtain ⟨q,rfl⟩:∃ q,i=l.length+1+q:=⟨i - l.length - 1,by omega⟩
      rw [show l.length+1+q - l.length=q+1 by omega,List.singleton_append,GE,II _ _ _ (by omega)]
      congr 2
      omega
theorem expY_get {l:List Share} {b:UInt8} {p m i:Nat}:(NE l b p m)[i]! = if i=0 then b else if i≤l.length then (FN l p)[i - 1]! else 0:=by
  unfold NE
  cases i with
  | zero=>rfl
  | succ i=>
    rw [if_neg (by omega),List.cons_append,GE,MB,LV]
    by_cases h1:i<l.length
    · rw [if_pos h1,if_pos (by omega),Nat.add_sub_cancel]
    · rw [if_neg h1,if_neg (by omega),IR]
theorem refY_perm {l:List Share} {b:UInt8} {p m i:Nat}:(KT l b p m)[i]! = (NE l b p m)[IY l.length i]!:=by
  rw [expY_get]
  unfold KT IY
  rw [List.append_assoc,MB,LV]
  by_cases h1:i<l.length
  · rw [if_pos h1,if_pos h1,if_neg (by omega),if_pos (by omega),Nat.add_sub_cancel]
  · rw [if_neg h1,if_neg h1]
    by_cases h2:i=l.length
    · rw [if_pos h2,if_pos rfl,h2,Nat.sub_self];rfl
    · rw [if_neg h2,if_neg (by omega),if_neg (by omega)]
      obtain ⟨q,rfl⟩:∃ q,i=l.length+1+q:=⟨i - l.length - 1,by omega⟩
      rw [show l.length+1+q - l.length=q+1 by omega,List.singleton_append,GE,IR]
theorem QQ {n m i:Nat} (h:i<n+1+m):IY n i<1+n+m:=by unfold IY;split;omega;split <;> omega
theorem refPerm_inj {n i j:Nat} (h:IY n i=IY n j):i=j:=by
  unfold IY at h
  split at h <;> split at h <;> (try split at h) <;> (try split at h) <;> omega
theorem PG {l:List Share} (hg:Good l) {m:Nat} (h:1+l.length+m≤100) (b:UInt8) (p:Nat):FO (JC l m) (KT l b p m)=EV (KA l m) (NE l b p m):=by
  rw [TO]
  have hn:(JC l m).Nodup:=by
    rw [GN]
    intro i j hij hj he
    rw [JP] at hj
    rw [SN (by omega),SN hj] at he
    have hne:IY l.length i≠IY l.length j:=fun e=>by have:=refPerm_inj e;omega
    have hx:=GN.1 (WQ hg h)
    have h1:=QQ (n:=l.length) (m:=m) (i:=i) (by omega)
    have h2:=QQ (n:=l.length) (m:=m) (i:=j) (by omega)
    rcases Nat.lt_or_gt_of_ne hne with h3|h3
    · exact hx _ _ h3 (by rw [IH];exact h2) he
    · exact hx _ _ h3 (by rw [IH];exact h1) he.symm
  have hw:FY (JC l m) (KT l b p m)=false:=(LM _ _).2 ⟨by rw [JP,UO],hn⟩
  have hw2:=XK hg h b p
  obtain ⟨a1,a2,a3,a4⟩:=NM hw
  obtain ⟨b1,b2,b3,b4⟩:=NM hw2
  refine Prod.ext (a2.eq a4 ⟨by rw [b2.len,IH,JP];omega,fun i hi=>?_⟩) (by rw [a1,b1])
  rw [JP] at hi
  rw [SN hi,refY_perm]
  exact b2.at_ _ (by rw [IH];exact QQ hi)
theorem IV (l:List Share) (secret:List UInt8):AI l secret=BE l secret:=by
  unfold AI BE
  rw [IJ]
  split
  · rfl
  · rename_i h
    have hv:=(FS l).1 (Classical.not_not.1 h)
    split
    · rfl
    · rename_i h2
      split
      · rfl
      · congr 1
        have hm8:=hv.m8
        have htm:=hv.tm
        have key:∀ p,GX l secret (l[0]!.threshold.toNat - 1 - l.length) p=ON l secret (l[0]!.threshold.toNat - 1 - l.length) p:=fun p=>by
          induction p with
          | zero=>rfl
          | succ p ih=>unfold GX ON;rw [ih,PG hv.toGood (by omega)]
        exact key _
theorem TL {l:List Share} {secret:List UInt8} {m:Nat} (h:1+l.length+m≤8):∀ p,(GX l secret m p).length≤8*p
  | 0=>by simp [GX]
  | p+1=>by
    unfold GX
    have h1:=TL (secret:=secret) h p
    have h2:=RS (JC l m) (KT l secret[p]! p m)
    rw [JP] at h2
    rw [TO]
    simp only [List.length_append,List.length_drop];omega
theorem XA {l:List Share} (hg:Good l) {m:Nat} (h:1+l.length+m≤100) (b:UInt8) (p:Nat):(FO (JC l m) (KT l b p m)).1.length=1+l.length+m:=by
  rw [PG hg h,exp_len hg h]
theorem UD {l:List Share} {secret:List UInt8} {e:Int} (h:BP l≠0) (he:BP l=e):AI l secret=([],e):=by
  unfold AI;rw [if_pos h,he]
theorem TD {l:List Share} {secret:List UInt8} {e:Int} (h:BP l=0) (h2:l[0]!.threshold≤(l.length:Int)) (he:(80:Int)=e):AI l secret=([],e):=by
  unfold AI;rw [if_neg (by omega),if_pos h2,he]
theorem UC {l:List Share} {secret:List UInt8} {e:Int} (h:BP l=0) (h2:(l.length:Int)<l[0]!.threshold) (h3:(secret.length:Int)≠(l[0]!.data.length:Int)) (he:(1:Int)=e):AI l secret=([],e):=by
  unfold AI;rw [if_neg (by omega),if_neg (by omega),if_pos h3,he]
theorem VC {l:List Share} {secret:List UInt8} {x:List UInt8} (h:BP l=0) (h2:(l.length:Int)<l[0]!.threshold) (h3:(secret.length:Int)=(l[0]!.data.length:Int)) (hx:GX l secret (l[0]!.threshold.toNat - 1 - l.length) secret.length=x):AI l secret=(x,0):=by
  unfold AI;rw [if_neg (by omega),if_neg (by omega),if_neg (by omega),hx]
def refrData (l zero:List Share) (n i:Nat):List UInt8:=(List.range n).map fun k=>l[i]!.data[k]! ^^^ zero[i]!.data[k]!
def KK (l:List Share) (f:Share) (zero:List Share) (i:Nat):Share:=⟨l[i]!.epoch+1,l[i]!.index,l[i]!.threshold,l[i]!.many,refrData l zero f.data.length i⟩
def KX (f:Share) (coins:List UInt8):List Share × Int:=BY (List.replicate f.data.length 0) f.epoch f.threshold f.many coins
def GH (l:List Share) (coins:List UInt8):Int:=if BO l≠0 then BO l else if (l.length:Int)≠l[0]!.many then 80 else if l[0]!.epoch=1048576 then 81 else (KX l[0]! coins).2
def refreshL (l:List Share) (coins:List UInt8):List Share:=(List.range l.length).map fun i=>KK l l[0]! (KX l[0]! coins).1 i
def DJ (l:List Share) (coins:List UInt8):List Share × Int:=if GH l coins=0 then (refreshL l coins,0) else ([],GH l coins)
theorem TQ {l:List Share} {coins:List UInt8} {x:List Share} (h:GH l coins=0) (hx:refreshL l coins=x):DJ l coins=(x,0):=by
  unfold DJ;rw [if_pos h,hx]
theorem KB {l:List Share} {coins:List UInt8} {e:Int} (h:GH l coins=e) (he:e≠0):DJ l coins=([],e):=by
  unfold DJ;rw [if_neg (by rw [h];exact he),h]
theorem VJ (secret:List UInt8) (epoch threshold many:Int) (coins:List UInt8):(BY secret epoch threshold many coins).2=DM secret epoch threshold many coins:=by
  unfold BY;split
  · rename_i h;rw [h]
  · rfl
theorem LY (secret:List UInt8) (epoch threshold many:Int) (coins:List UInt8):(LZ secret epoch threshold many coins).length=many.toNat:=by simp [LZ]
theorem QP {secret:List UInt8} {epoch threshold many:Int} {coins:List UInt8} {k:Nat} (h:k<many.toNat):(LZ secret epoch threshold many coins)[k]! = FB secret (WG secret coins threshold) epoch threshold many k:=II _ _ _ h
theorem PE (secret:List UInt8) (polys:List (List UInt8)) (epoch threshold many:Int) (k:Nat):(FB secret polys epoch threshold many k).data.length=secret.length:=by simp [FB]
theorem NU {secret:List UInt8} {epoch threshold many:Int} {coins:List UInt8} (h:(BY secret epoch threshold many coins).2=0):DM secret epoch threshold many coins=0∧(BY secret epoch threshold many coins).1=LZ secret epoch threshold many coins:=by
  rw [VJ] at h
  exact ⟨h,by unfold BY;rw [if_pos h]⟩
theorem XH {f:Share} {coins:List UInt8} (h:(KX f coins).2=0):(KX f coins).1.length=f.many.toNat:=by
  unfold KX at *;rw [(NU h).2,LY]
theorem VT {f:Share} {coins:List UInt8} (h:(KX f coins).2=0) {k:Nat} (hk:k<f.many.toNat):(KX f coins).1[k]!.data.length=f.data.length:=by
  unfold KX at *;rw [(NU h).2,QP hk,PE,List.length_replicate]
open Go.Fw Go.RowKit
set_option maxHeartbeats 4000000 in
set_option maxRecDepth 100000 in
theorem YD {O:List Nat} (l_v:Value) (l:List Share) (secret_v:Value) (secret:List UInt8) (w:World) (a1:BB Enc.share w O l_v l) (a0:BB Enc.u8 w O secret_v secret) (hO:∀ b∈O,b<w.heap.size):CE Try.prog 15 [l_v,secret_v] w (fun v w'=>∃ (x0:Value),v = .tuple #[x0,vI ((BE l secret).2)]∧(∀ b,x0.ownBlock=some b→w.heap.size≤b)∧ED Enc.u8 5 w.heap.size (x0.ownBlock.toList++(O)) w' x0 ((BE l secret).1)):= by
 have o3:=a1.len_le
 have a1:BB Enc.share w ([]++O) l_v l:=a1
 have i0:=a0.len_le
 have a0:BB Enc.u8 w ([]++O) secret_v secret:=a0
 have s0:St w O w []:=St.start hO
 refine BI 86 Try.func15 rfl rfl oT (fun F0=>AF (AB kR (AA (AD (.slice none 0 0) rfl (AA (AD (vI 0) rfl (AG (AC (AF (AF (AB kR (AA (AE (l_v) rfl (AA (AZ (vs:=[l_v]) NI (MX (O:=[]++O) l_v l w a1 s0.lt) rfl s0 fun o4 o5 b4 e9 o6 i1=>(?_))))))))))))))))
 obtain rfl:=i1
 have a1:=a1.mv e9
 have a0:=a0.mv e9
 refine AA (AD (vI (BO l)) rfl (AG (AC (AF (AB kR (AA (AE (vI (BO l)) rfl (AA (CT .i64 (BO l) (0:Int) rfl rfl (AG (AC (AJ ((BO l) != (0:Int)) rfl rfl (fun c2=>?_) (fun c2=>?_)))))))))))))
 ·have m6:BO l≠(0:Int):=by simpa using c2
  refine AF (AB kR (AA (AE (vI (BO l)) rfl (AA (AD (.slice none 0 0) rfl (AA (AD (vI (BO l)) rfl (AG (AC (AM (AK (AS rfl (EA rfl rfl rfl rfl) (?_)))))))))))))
  have e:(BE l secret)=([],BO l):=by exact RG oM rfl
  exact ⟨_,rfl,b4.keep,by rw [e];exact ⟨.slice none 0 0,rfl,(fun b hb=>by simp [Value.ownBlock] at hb),ED.nil _ _ _ _ _⟩⟩
 have g3:BO l=(0:Int):=by simpa using c2
 have hv:=(FS l).1 g3
 have hpos:=hv.pos
 have ht1:=hv.t1
 have htm:=hv.tm
 have r6:=hv.m8
 have r5:=hv.d64
 refine AO (AC (AF (AB kR (AA (AE (l_v) rfl (AA (CP U32_ CZ .i64 (0:Int) 0 rfl rfl rfl a1 oM fun o7 g4=>(AA (BH 2 HK ((l[0]!).threshold) rfl g4 (fun _ _ _ h=>HM h) fun o8 g5=>(AA (CC U3_ rfl rfl g5 (AA (AE (l_v) rfl (AA (CA U32_ rfl a1 (AA (AD (vI ((l[0]!).threshold)) rfl (AA (AD (vI (l.length:Int)) rfl (AG (AC (AF (AF (AB kR (AA (AE (vI (l.length:Int)) rfl (AA (AE (vI ((l[0]!).threshold)) rfl (AA (KR .i64 (l.length:Int) ((l[0]!).threshold) rfl rfl (AG (AC (AJ (decide ((l[0]!).threshold≤(l.length:Int))) rfl rfl (fun c3=>?_) (fun c3=>?_))))))))))))))))))))))))))))))))))
 ·have m7:(l[0]!).threshold≤(l.length:Int):=by simpa using c3
  refine AF (AB kR (AA (AD (.slice none 0 0) rfl (AA (AD (vI 80) rfl (AG (AC (AM (AK (AS rfl (EA rfl rfl rfl rfl) (?_)))))))))))
  have e:(BE l secret)=([],(80:Int)):=by exact MU oM oM rfl
  exact ⟨_,rfl,b4.keep,by rw [e];exact ⟨.slice none 0 0,rfl,(fun b hb=>by simp [Value.ownBlock] at hb),ED.nil _ _ _ _ _⟩⟩
 have m9:(l.length:Int)<(l[0]!).threshold:=by simpa using c3
 refine AO (AC (AF (AF (AB kR (AA (AE (secret_v) rfl (AA (CA U23_ rfl a0 (AA (AE (l_v) rfl (AA (CP U32_ CZ .i64 (0:Int) 0 rfl rfl rfl a1 oM fun o9 g6=>(AA (BH 4 EP ((l[0]!).data) rfl g6 (fun _ _ _ h=>EG h) fun p0 g7=>(AA (CF U23_ rfl rfl g7 fun p1 d6=>(?_)))))))))))))))))
 have:=d6.len_le
 refine AA (CA U23_ rfl d6 (AA (CT .i64 (secret.length:Int) (((l[0]!).data).length:Int) rfl rfl (AG (AC (AJ ((secret.length:Int) != (((l[0]!).data).length:Int)) rfl rfl (fun c4=>?_) (fun c4=>?_)))))))
 ·have n2:(secret.length:Int)≠(((l[0]!).data).length:Int):=by simpa using c4
  refine AF (AB kR (AA (AD (.slice none 0 0) rfl (AA (AD (vI 1) rfl (AG (AC (AM (AK (AS rfl (EA rfl rfl rfl rfl) (?_)))))))))))
  have e:(BE l secret)=([],(1:Int)):=by exact SE oM oM oM rfl
  exact ⟨_,rfl,b4.keep,by rw [e];exact ⟨.slice none 0 0,rfl,(fun b hb=>by simp [Value.ownBlock] at hb),ED.nil _ _ _ _ _⟩⟩
 have n3:(secret.length:Int)=(((l[0]!).data).length:Int):=by simpa using c4
 refine AO (AC (AF (AB kR (AA (HT (E:=Enc.u8) (xs:=[.const (vB (0:UInt8))]) U23_ GK VF (by decide) [vB (0:UInt8)] [[vB (0:UInt8)]] [(0:UInt8)] rfl rfl rfl (Parts.cons rfl rfl (Parts.nil _ _ _)) oT b4 fun i2 f0 i3 i4 d7 f1 f2 p2 c5=>(?_))))))
 have g8:∀ b,i2.ownBlock=some b→b∈(f0 :: []):=fun b hb=>by rw [d7] at hb;cases hb;simp
 clear i4 d7
 have a1:=a1.mv f2
 have a0:=a0.mv f2
 refine AA (AE (l_v) rfl (AA (AZ (vs:=[l_v]) enter_41 (XZ (O:=(f0 :: [])++O) l_v l i3 a1 oM f1.lt) rfl f1 fun p3 p4 i5 d1 i6 i7=>(?_))))
 obtain ⟨_,rfl,d8⟩:=i7
 have:=d8.len_le
 have a1:=a1.mv d1
 have a0:=a0.mv d1
 have c5:=c5.mv d1 i6 (by simp)
 refine AA (CY (E:=Enc.u8) (l:=[(0:UInt8)]) (m:=ME l) U23_ RI rfl (by decide) rfl rfl c5 d8 (fun _ hb=>.inl hb) g8 (by rw [IG];simp;omega) (by rw [IG];simp [maxLen];omega) i5 fun f3 p5 i8 g9 n4 m0 i9 f4 p6 h0=>(?_))
 have a1:=a1.mv f4
 have a0:=a0.mv f4
 refine AA (AD (f3) rfl (AG (AC (AF (AF (AB kR (AA (AE (vI ((l[0]!).threshold)) rfl (AA (IA .i64 ((l[0]!).threshold) (1:Int) (((l[0]!.threshold.toNat - 1:Nat):Int)) rfl rfl (FQ oM oM) (AA (AE (vI (l.length:Int)) rfl (AA (IA .i64 ((l[0]!.threshold.toNat - 1:Nat):Int) (l.length:Int) ((((l[0]!.threshold.toNat - 1 - l.length):Nat):Int)) rfl rfl (FQ oM oM) (AA (AE (vI 0) rfl (AG (AC (BA (CX (fun mI FI wI=>∃ (q:Nat) (a7:Value) (B:List Nat),q≤(l[0]!.threshold.toNat - 1 - l.length)∧mI=(l[0]!.threshold.toNat - 1 - l.length) - q∧(∃ F1,FI=FR F1 [(0,l_v),(1,secret_v),(4,nS),(7,vI ((l[0]!).threshold)),(9,a7),(45,vI (((l[0]!.threshold.toNat - 1 - l.length):Nat):Int)),(46,vI ((q:Nat):Int)),(86,undef)])∧St w O wI B∧ED Enc.u8 5 w.heap.size (B++O) wI a7 ((KA l q))∧(∀ b,a7.ownBlock=some b→b∈B)∧BB Enc.share wI (B++O) (l_v) (l)∧BB Enc.u8 wI (B++O) (secret_v) (secret)) ((l[0]!.threshold.toNat - 1 - l.length) - (0)) ?_ ?_))))))))))))))))))))
 ·exact ⟨(0),f3,i8,oM,rfl,⟨_,AP _ ⟨rfl,rfl,rfl,rfl,rfl,rfl,(by rfl),rfl,trivial⟩⟩,i9,(by rw [show (KA l (0))=([(0:UInt8)])++(ME l) from expX_zero l];exact h0),g9,a1,a0⟩
 intro r7 F r8 hI
 clear a1 a0
 obtain ⟨q,a7,r9,hr0_0,s2,⟨s3,rfl⟩,l9,ho0_9,j0,a1,a0⟩:=hI
 refine AF (AB kR (AA (DO .i64 ((q:Nat):Int) (((l[0]!.threshold.toNat - 1 - l.length):Nat):Int) rfl rfl (AG (AC (AF (AJ (decide (((q:Nat):Int)<(((l[0]!.threshold.toNat - 1 - l.length):Nat):Int))) rfl rfl (fun c6=>?_) (fun c6=>?_))))))))
 ·have n5:((q:Nat):Int)<(((l[0]!.threshold.toNat - 1 - l.length):Nat):Int):=by simpa using c6
  refine AO (AC (AF (BA (AF (AB kR (AA (AE (vI ((q:Nat):Int)) rfl (AA (AD (vI ((q:Nat):Int)) rfl (AG (AC (AB kR (AA (AE (a7) rfl (AA (AE (vI ((q:Nat):Int)) rfl (AA (DC .i64 (9:Int) ((q:Nat):Int) ((9:Int)+((q:Nat):Int)) rfl rfl (FQ oM oM) (AA (OU .i64 U3_ U5_ ((9:Int)+((q:Nat):Int)) rfl (AA (GZ (E:=Enc.u8) (xs:=[.tmp 52]) U23_ GK VF (by decide) [vB (DL ((9:Int)+((q:Nat):Int)))] [[vB (DL ((9:Int)+((q:Nat):Int)))]] [DL ((9:Int)+((q:Nat):Int))] rfl rfl rfl (Parts.cons rfl rfl (Parts.nil _ _ _)) oT l9 fun p7 p8 j1 d2 j2 d9=>(?_)))))))))))))))))))))))
  have a1:=a1.mv d2
  have a0:=a0.mv d2
  have ho0_9:=ho0_9.mv d2 j2 (by simp)
  have:=d9.len_le
  refine AA (CY (E:=Enc.u8) (l:=(KA l q)) (m:=[DL ((9:Int)+((q:Nat):Int))]) U23_ RI rfl (by decide) rfl rfl ho0_9 d9 (fun _ hb=>.inl hb) j0 (by rw [IH];simp;omega) (by rw [IH];simp [maxLen];omega) j1 fun f5 p9 j3 h1 n6 m2 j4 f6 q0 h2=>(?_))
  have a1:=a1.mv f6
  have a0:=a0.mv f6
  refine AA (AD (f5) rfl (AG (BZ (AC (AB kR (AA (DC .i64 ((q:Nat):Int) (1:Int) (((q+1:Nat):Int)) rfl rfl (FQ oM oM) (AA (AE (vI ((q+1:Nat):Int)) rfl (AG (AC (?_))))))))))))
  exact ⟨_,oM,(q+1),f5,j3,oM,rfl,⟨_,AP _ ⟨rfl,rfl,rfl,rfl,rfl,rfl,(by rfl),rfl,trivial⟩⟩,j4,(by rw [show (KA l (q+1))=(KA l q)++([DL ((9:Int)+((q:Nat):Int))]) from expX_succ _ _];exact h2),h1,a1,a0⟩
 have n7:(((l[0]!.threshold.toNat - 1 - l.length):Nat):Int)≤((q:Nat):Int):=by simpa using c6
 obtain rfl:q=(l[0]!.threshold.toNat - 1 - l.length):=by omega
 refine CV (BL (BL (CL (AC (AF (AF (AB kR (AA (AE (secret_v) rfl (AA (CA U23_ rfl a0 (AA (AE (vI 0) rfl (AG (AC (BA (?_)))))))))))))))))
 obtain ⟨j5,j6,f7,a2,n9⟩:=ho0_9.publish l9
 have m3:=a2.len_le
 have a1:=a1.mv f7
 have a0:=a0.mv f7
 refine CX (fun mI FI wI=>∃ (k:Nat) (a4:Value) (B:List Nat),k≤secret.length∧mI=secret.length - k∧(∃ F1,FI=FR F1 [(0,l_v),(4,a4),(7,vI ((l[0]!).threshold)),(9,a7),(56,secret_v),(57,vI (secret.length:Int)),(58,vI ((k:Nat):Int)),(86,undef)])∧St w O wI B∧ED Enc.u8 5 w.heap.size (B++O) wI a4 ((ON l secret (l[0]!.threshold.toNat - 1 - l.length) k))∧(∀ b,a4.ownBlock=some b→b∈B)∧BB Enc.share wI (B++O) (l_v) (l)∧BB Enc.u8 wI (B++O) (a7) ((KA l (l[0]!.threshold.toNat - 1 - l.length)))∧BB Enc.u8 wI (B++O) (secret_v) (secret)) (secret.length - (0)) ?_ ?_
 ·exact ⟨(0),(.slice none 0 0),j5,oM,rfl,⟨_,AP _ ⟨rfl,rfl,rfl,rfl,rfl,rfl,(by rfl),rfl,trivial⟩⟩,j6,(by rw [show (ON l secret (l[0]!.threshold.toNat - 1 - l.length) (0))=[] from rfl];exact (ED.nil Enc.u8 5 _ _ _)),(by intro b hb;simp [Value.ownBlock] at hb),a1,a2,a0⟩
 intro s4 F s5 hI
 clear a1 a2 a0
 obtain ⟨k,a4,a8,hr1_0,s6,⟨s7,rfl⟩,h3,ho1_4,b0,a1,a2,a0⟩:=hI
 have hco:=fun b=>exp_len hv.toGood (m:=(l[0]!.threshold.toNat - 1 - l.length)) oM b k
 have hel:=expL_len (l:=l) (secret:=secret) (m:=(l[0]!.threshold.toNat - 1 - l.length)) oM k
 refine AF (AB kR (AA (DO .i64 ((k:Nat):Int) (secret.length:Int) rfl rfl (AG (AC (AF (AJ (decide (((k:Nat):Int)<(secret.length:Int))) rfl rfl (fun c7=>?_) (fun c7=>?_))))))))
 ·have o0:((k:Nat):Int)<(secret.length:Int):=by simpa using c7
  refine AO (AC (AF (BA (AF (AB kR (AA (AE (vI ((k:Nat):Int)) rfl (AA (CP U23_ GK .i64 ((k:Nat):Int) k rfl rfl rfl a0 oM fun q1 h4=>(AA (EM U5_ rfl rfl h4 (AA (AD (vI ((k:Nat):Int)) rfl (AA (AD (vB (secret[k]!)) rfl (AG (AC (AF (AB kR (AA (AE (vI ((l[0]!).threshold)) rfl (AA (RE (E:=Enc.u8) U23_ RI [vB (0:UInt8)] rfl rfl (by decide) (0:UInt8) (fun _ _=>rfl) .i64 .i64 ((l[0]!).threshold) ((l[0]!).threshold) (((l[0]!).threshold).toNat) (((l[0]!).threshold).toNat) rfl rfl oM oM oM oM (by simp only [maxLen];omega) h3 fun a3 a5 q2 j7 c8 j8 b5 j9 e0=>(?_))))))))))))))))))))))))
  have b2:∀ b,a4.ownBlock=some b→a3.ownBlock≠some b:=fun b hb=>by have:=(ho1_4.lt b hb).2;rw [c8];intro e;cases e;omega
  have ne1684':∀ b,a3.ownBlock=some b→a4.ownBlock≠some b:=fun b hb e=>b2 b e hb
  have e1:∀ b,a3.ownBlock=some b→b∈(a5 :: a8):=fun b hb=>by rw [c8] at hb;cases hb;simp
  clear j7 c8
  have b0:∀ b,a4.ownBlock=some b→b∈(a5 :: a8):=fun b hb=>List.mem_cons_of_mem _ (b0 b hb)
  have a1:=a1.mv b5
  have ho1_4:=ho1_4.mv b5 j9 (by simp)
  have a2:=a2.mv b5
  have a0:=a0.mv b5
  refine AA (AD (a3) rfl (AG (AC (AF (AB kR (AA (AE (a3) rfl (AA (AE (vB (secret[k]!)) rfl (AA (EF U23_ GK .i64 (0:Int) 0 rfl rfl rfl e0 (by (simp only [List.length_set,List.length_append,List.length_cons,List.length_nil,List.length_replicate];omega)) fun q3 c9=>(CB (IS (secret[k]!) GK rfl rfl rfl e0 c9 (e1 _ c9) (by (simp only [List.length_set,List.length_append,List.length_cons,List.length_nil,List.length_replicate];omega)) rfl j8 fun b1 f8 b6 k2 a9=>(?_))))))))))))))
  have a1:=a1.mv b6
  have ho1_4:=ho1_4.mv b6 k2 (fun b hb=>by simp only [List.mem_singleton];rintro rfl;exact absurd c9 (b2 _ hb))
  have a2:=a2.mv b6
  have a0:=a0.mv b6
  refine AG (AC (AF (cw_draw' 5 _ _ [DZ a3,fun (vT:Value) (_:World)=>SubOf a3 1 1 vT,fun (vT:Value) (wT:World)=>BB Enc.share wT ((a5 :: a8)++O) vT (l),DZ (vI ((k:Nat):Int)),fun (vT:Value) (wT:World)=>BB Enc.u8 wT ((a5 :: a8)++O) vT (FN l k)] kR kR kR kR rfl rfl ⟨kI,fun _ _ _ h _=>h,fun _ _ _ h k=>h.mv (Mv.of_keep k),kI,fun _ _ _ h k=>h.mv (Mv.of_keep k),trivial⟩ ⟨?_,?_,?_,?_,?_,trivial⟩ ?_)))
  ·intro F1 w1 k1 hf hd
   obtain ⟨F2,rfl⟩:=AL (F:=F1) [(13,a3)] ⟨hf 13 kR,trivial⟩
   exact AH rfl ((AE (a3) rfl (⟨(Keep.refl _ _),rfl⟩)))
  ·intro F1 w1 k1 hf hd
   have k0:=(Keep.drew [] b1).trans k1
   have m1:Mv (a5 :: a8) b1 (a5 :: a8) w1:=Mv.of_keep k0
   have a9:=a9.mv m1 k0 (by simp)
   obtain ⟨F2,rfl⟩:=AL (F:=F1) [(68,a3)] ⟨hd 0 68 kR,trivial⟩
   exact AH rfl ((VW U23_ GK 1 .i64 (1:Int) rfl rfl rfl (by rw [List.length_set,List.length_replicate];omega) a9 fun q4 h5=>(⟨(Keep.refl _ _),h5⟩)))
  ·intro F1 w1 k1 hf hd
   have k0:=(Keep.drew [] b1).trans k1
   have m1:Mv (a5 :: a8) b1 (a5 :: a8) w1:=Mv.of_keep k0
   have a1:=a1.mv m1
   obtain ⟨F2,rfl⟩:=AL (F:=F1) [(0,l_v)] ⟨hf 0 kR,trivial⟩
   exact AH rfl ((AE (l_v) rfl (⟨(Keep.refl _ _),a1⟩)))
  ·intro F1 w1 k1 hf hd
   obtain ⟨F2,rfl⟩:=AL (F:=F1) [(11,vI ((k:Nat):Int))] ⟨hf 11 kR,trivial⟩
   exact AH rfl ((AE (vI ((k:Nat):Int)) rfl (⟨(Keep.refl _ _),rfl⟩)))
  ·intro F1 w1 k1 hf hd
   have k0:=(Keep.drew [] b1).trans k1
   have s1:=f8.call k0
   obtain ⟨d3,k3,e2⟩:∃ v,F1 70=v∧BB Enc.share w1 ((a5 :: a8)++O) v (l):=⟨_,rfl,hd 2 70 kR⟩
   have:=e2.len_le
   obtain ⟨F2,rfl⟩:=AL (F:=F1) [(70,d3),(71,vI ((k:Nat):Int))] ⟨k3,hd 3 71 kR,trivial⟩
   refine AH rfl ((AZ (vs:=[d3,vI ((k:Nat):Int)]) enter_42 (c_column (O:=(a5 :: a8)++O) d3 l k w1 e2 oM (fun j hj=>by rw [hv.da j hj];omega) s1.lt) rfl s1 fun q5 q6 q7 q8 k4 k5=>(?_)))
   obtain ⟨_,rfl,e3⟩:=k5
   have:=e3.len_le
   exact ⟨k4,e3⟩
  intro d4 f9 b7 d0 a6
  have k6:=f8.call b7
  have b3:Mv (a5 :: a8) b1 (a5 :: a8) f9:=Mv.of_keep b7
  have a1:=a1.mv b3
  have ho1_4:=ho1_4.mv b3 b7 (by simp)
  have a2:=a2.mv b3
  have a9:=a9.mv b3 b7 (by simp)
  have a0:=a0.mv b3
  obtain ⟨k7,k8,h6⟩:∃ v,d4 69=v∧SubOf a3 1 1 v:=⟨_,rfl,d0 1 69 kR (by decide)⟩
  obtain ⟨k9,l0,e4⟩:∃ v,d4 72=v∧BB Enc.u8 f9 ((a5 :: a8)++O) v (FN l k):=⟨_,rfl,d0 4 72 kR (by decide)⟩
  have:=e4.len_le
  obtain ⟨F2,rfl⟩:=AL (F:=d4) [(0,l_v),(4,a4),(7,vI ((l[0]!).threshold)),(9,a7),(13,a3),(56,secret_v),(57,vI (secret.length:Int)),(58,vI ((k:Nat):Int)),(86,undef),(69,k7),(72,k9)] ⟨a6 0 kR,a6 4 kR,a6 7 kR,a6 9 kR,a6 13 kR,a6 56 kR,a6 57 kR,a6 58 kR,a6 86 kR,k8,l0,trivial⟩
  clear d0 a6
  refine AA (o_copyO (l:=((List.replicate (((l[0]!).threshold).toNat) (0:UInt8)).set 0 (secret[k]!))) (m:=(FN l k)) U23_ GK rfl rfl h6 a9 e1 e4 (by rw [List.length_set,List.length_replicate];omega) k6 fun q9 l1 l2 b8 l3 e5=>(?_))
  rw [show ((List.replicate (((l[0]!).threshold).toNat) (0:UInt8)).set 0 (secret[k]!)).take 1++(FN l k).take (((List.replicate (((l[0]!).threshold).toNat) (0:UInt8)).set 0 (secret[k]!)).length - 1)++((List.replicate (((l[0]!).threshold).toNat) (0:UInt8)).set 0 (secret[k]!)).drop (1+(FN l k).length)=NE l secret[k]! k (l[0]!.threshold.toNat - 1 - l.length) from expY_eq oM] at e5
  have a1:=a1.mv b8
  have ho1_4:=ho1_4.mv b8 l3 (fun b hb=>by simp only [Option.mem_toList];exact b2 b hb)
  have a2:=a2.mv b8
  have a0:=a0.mv b8
  refine AG (AC (AF (AB kR (AA (AE (a7) rfl (AA (AE (a3) rfl (?_))))))))
  obtain ⟨g0,g1,b9,e6,h7⟩:=e5.publish l2
  have b0:∀ b,a4.ownBlock=some b→b∈g0:=fun b hb=>h7 b (b0 b hb) (b2 b hb)
  have m4:=e6.len_le
  have a1:=a1.mv b9
  have ho1_4:=ho1_4.mv b9 (Keep.refl [] _) (by simp)
  have a2:=a2.mv b9
  have a0:=a0.mv b9
  refine AA (AZ (vs:=[a7,a3]) enter_43 (c_coeff (O:=g0++O) a7 (KA l (l[0]!.threshold.toNat - 1 - l.length)) a3 (NE l secret[k]! k (l[0]!.threshold.toNat - 1 - l.length)) l1 a2 e6 (by rw [IH];omega) g1.lt) rfl g1 fun r0 r1 l4 c0 l5 l6=>(?_))
  obtain ⟨c1,rfl,e7⟩:=l6
  have:=e7.len_le
  have a1:=a1.mv c0
  have ho1_4:=ho1_4.mv c0 l5 (by simp)
  have a2:=a2.mv c0
  have a0:=a0.mv c0
  refine AA (AE (vT #[c1,vI ((EV (KA l (l[0]!.threshold.toNat - 1 - l.length)) (NE l secret[k]! k (l[0]!.threshold.toNat - 1 - l.length))).2)]) rfl (AA (AN (c1) rfl rfl (AA (AN (vI ((EV (KA l (l[0]!.threshold.toNat - 1 - l.length)) (NE l secret[k]! k (l[0]!.threshold.toNat - 1 - l.length))).2)) rfl rfl (AA (AD (c1) rfl (AA (AD (vI ((EV (KA l (l[0]!.threshold.toNat - 1 - l.length)) (NE l secret[k]! k (l[0]!.threshold.toNat - 1 - l.length))).2)) rfl (AG (AC (AB kR (AA (AE (a4) rfl (AA (AE (c1) rfl (AA (NG U23_ GK 1 (((EV (KA l (l[0]!.threshold.toNat - 1 - l.length)) (NE l secret[k]! k (l[0]!.threshold.toNat - 1 - l.length))).1).length) rfl (.inr ⟨.const (vI 1), .i64,(1:Int),rfl,rfl,rfl⟩) (.inl ⟨rfl,rfl⟩) (by rw [hco];omega) (Nat.le_refl _) e7 fun r2 e8=>(?_)))))))))))))))))))
  rw [List.take_length] at e8
  refine AA (CY (E:=Enc.u8) (l:=(ON l secret (l[0]!.threshold.toNat - 1 - l.length) k)) (m:=(((EV (KA l (l[0]!.threshold.toNat - 1 - l.length)) (NE l secret[k]! k (l[0]!.threshold.toNat - 1 - l.length))).1).drop 1)) U23_ RI rfl (by decide) rfl rfl ho1_4 e8 (fun _ hb=>.inl hb) b0 (by rw [List.length_drop,hco];omega) (by rw [List.length_drop,hco];simp only [maxLen];omega) l4 fun g2 r3 l7 h8 o1 m5 l8 d5 r4 h9=>(?_))
  have a1:=a1.mv d5
  have a2:=a2.mv d5
  have a0:=a0.mv d5
  refine AA (AD (g2) rfl (AG (BZ (AC (AB kR (AA (DC .i64 ((k:Nat):Int) (1:Int) (((k+1:Nat):Int)) rfl rfl (FQ oM oM) (AA (AE (vI ((k+1:Nat):Int)) rfl (AG (AC (?_))))))))))))
  exact ⟨_,oM,(k+1),g2,l7,oM,rfl,⟨_,AP _ ⟨rfl,rfl,rfl,rfl,rfl,rfl,(by rfl),rfl,trivial⟩⟩,l8,(by rw [show (ON l secret (l[0]!.threshold.toNat - 1 - l.length) (k+1))=(ON l secret (l[0]!.threshold.toNat - 1 - l.length) k)++(((EV (KA l (l[0]!.threshold.toNat - 1 - l.length)) (NE l secret[k]! k (l[0]!.threshold.toNat - 1 - l.length))).1).drop 1) from rfl];exact h9),h8,a1,a2,a0⟩
 have o2:(secret.length:Int)≤((k:Nat):Int):=by simpa using c7
 obtain rfl:k=secret.length:=by omega
 refine CV (BL (BL (CL (AC (AF (AB kR (AA (AE (a4) rfl (AA (AD (a4) rfl (AA (AD (vI 0) rfl (AG (AC (AM (AS rfl (EA rfl rfl rfl rfl) (?_)))))))))))))))))
 have e:(BE l secret)=((ON l secret (l[0]!.threshold.toNat - 1 - l.length) secret.length),(0:Int)):=by exact TP oM oM oM rfl
 exact ⟨_,rfl,h3.keep,by rw [e];exact ⟨a4,rfl,(fun b hb=>(h3.new b (b0 b hb)).1),(ho1_4.sub (fun x hx=>.inl ((List.mem_append.1 hx).elim (fun h=>List.mem_append_left _ (b0 x (by simpa using h))) (fun h=>List.mem_append_right _ h))))⟩⟩
open Go.Fw Go.RowKit
set_option maxHeartbeats 4000000 in
set_option maxRecDepth 100000 in
theorem c_refresh11 {O:List Nat} (k:Nat) (l_a:Addr) (l:(List Share)) (i_a:Addr) (i:Int) (zero_a:Addr) (zero:(List Share)) (w:World) (a3:PT (Enc.slice Enc.share) w O (.pointer (some l_a)) l) (a1:PT Enc.int w O (.pointer (some i_a)) i) (a0:PT (Enc.slice Enc.share) w O (.pointer (some zero_a)) zero) (hpre0:0≤i) (hpre1:(i).toNat<l.length) (hpre2:(i).toNat<zero.length) (hpre3:k<l[(i).toNat]!.data.length) (hpre4:k<zero[(i).toNat]!.data.length) (hO:∀ b∈O,b<w.heap.size):CE Try.prog 56 [vI (k:Int), .pointer (some l_a), .pointer (some i_a), .pointer (some zero_a)] w (fun v _=>v=vB (l[(i).toNat]!.data[k]! ^^^ zero[(i).toNat]!.data[k]!)):= by
 have a3:PT (Enc.slice Enc.share) w ([]++O) (.pointer (some l_a)) l:=a3
 have a1:PT Enc.int w ([]++O) (.pointer (some i_a)) i:=a1
 have a0:PT (Enc.slice Enc.share) w ([]++O) (.pointer (some zero_a)) zero:=a0
 have s0:St w O w []:=St.start hO
 refine BI 23 Try.func56 rfl rfl oT (fun F0=>AF (AB kR (AA (AD (vB (0:UInt8)) rfl (AG (AC (AF (FJ 18 _ _ kR kR kR kR kR rfl rfl fun b5 a8=>?_))))))))
 have b6:=s0.call a8
 have a2:Mv ([]) w ([]) b5:=Mv.of_keep a8
 have a3:=a3.mv a2
 have a1:=a1.mv a2
 have a0:=a0.mv a2
 refine BM (CF U32_ rfl rfl a3 fun b7 a4=>(?_))
 have:=a4.len_le
 refine BM (CC U3_ rfl rfl a1 (BM (CP U32_ CZ .i64 i i.toNat rfl rfl oM a4 oM fun b8 a9=>(BM (BH 4 EP ((l[i.toNat]!).data) rfl a9 (fun _ _ _ h=>EG h) fun b9 b0=>(BM (CF U23_ rfl rfl b0 fun c0 a5=>(?_))))))))
 have:=a5.len_le
 refine BM (AE (vI (k:Int)) rfl (BM (CP U23_ GK .i64 (k:Int) k rfl rfl rfl a5 oM fun c1 b1=>(BM (EM U5_ rfl rfl b1 (BM (CF U32_ rfl rfl a0 fun c2 a6=>(?_))))))))
 have:=a6.len_le
 refine BM (CC U3_ rfl rfl a1 (BM (CP U32_ CZ .i64 i i.toNat rfl rfl oM a6 oM fun c3 b2=>(BM (BH 4 EP ((zero[i.toNat]!).data) rfl b2 (fun _ _ _ h=>EG h) fun c4 b3=>(BM (CF U23_ rfl rfl b3 fun c5 a7=>(?_))))))))
 have:=a7.len_le
 refine BM (AE (vI (k:Int)) rfl (BM (CP U23_ GK .i64 (k:Int) k rfl rfl rfl a7 oM fun c6 b4=>(BM (EM U5_ rfl rfl b4 (BM (JT (((l[i.toNat]!).data)[k]!) (((zero[i.toNat]!).data)[k]!) rfl rfl (BM (AD (vB ((((l[i.toNat]!).data)[k]!) ^^^ (((zero[i.toNat]!).data)[k]!))) rfl (EQ (AG (AC (AM (AS rfl (CN rfl rfl rfl) (?_)))))))))))))))
 have e:(l[(i).toNat]!.data[k]! ^^^ zero[(i).toNat]!.data[k]!)=((((l[i.toNat]!).data)[k]!) ^^^ (((zero[i.toNat]!).data)[k]!)):=rfl
 exact ⟨_,rfl,b6.keep,by rw [e];exact rfl⟩
set_option maxHeartbeats 4000000 in
set_option maxRecDepth 100000 in
theorem UT {O:List Nat} (i:Nat) (l_a:Addr) (l:(List Share)) (f_a:Addr) (f:Share) (zero_a:Addr) (zero:(List Share)) (w:World) (a4:PT (Enc.slice Enc.share) w O (.pointer (some l_a)) l) (a5:PT Enc.share w O (.pointer (some f_a)) f) (a0:PT (Enc.slice Enc.share) w O (.pointer (some zero_a)) zero) (hpre0:i<l.length) (hpre1:i<zero.length) (hpre2:l[i]!.data.length=f.data.length) (hpre3:zero[i]!.data.length=f.data.length) (hpre4:0≤l[i]!.epoch) (hpre5:l[i]!.epoch≤1048576) (hpre6:f.data.length≤1000) (hO:∀ b∈O,b<w.heap.size):CE Try.prog 55 [vI (i:Int), .pointer (some l_a), .pointer (some f_a), .pointer (some zero_a)] w (fun v w'=>∃ (x0:List Value),v = .agg x0.toArray∧Enc.share.rd w' (O) x0 (KK l f zero i)):= by
 have a4:PT (Enc.slice Enc.share) w ([]++O) (.pointer (some l_a)) l:=a4
 have a5:PT Enc.share w ([]++O) (.pointer (some f_a)) f:=a5
 have a0:PT (Enc.slice Enc.share) w ([]++O) (.pointer (some zero_a)) zero:=a0
 have s0:St w O w []:=St.start hO
 refine BI 22 Try.func55 rfl rfl oT (fun F0=>AF (AB kR (AA (ER (E:=Enc.int) (vI (i:Int)) ([vI (i:Int)]) (i:Int) rfl rfl rfl s0 fun b0 e9 d1 b7 f0 a2=>(?_)))))
 have a4:=a4.mv b7
 have a5:=a5.mv b7
 have a0:=a0.mv b7
 refine AA (DE [vI 0,vI 0,vI 0,vI 0,nS] KU rfl d1 fun a7 f1 d2 d3 b1 f2 a1=>(?_))
 clear d2
 have a4:=a4.mv b1
 have a5:=a5.mv b1
 have a0:=a0.mv b1
 have a2:=a2.mv b1
 refine AG (AC (AF (AB kR (AA (CF U32_ rfl rfl a4 fun f3 b8=>(?_))))))
 have:=b8.len_le
 refine AA (CC U3_ rfl rfl a2 (AA (CP U32_ CZ .i64 (i:Int) i rfl rfl rfl b8 oM fun f4 c5=>(AA (DF U70_ rfl CZ rfl c5 fun c6 b4=>(AA (DE [vI 0,vI 0,vI 0,vI 0,nS] KU rfl d3 fun a8 d4 d5 d6 a9 d7 c7=>(?_))))))))
 have b5:GV a7 a8:=by show a7≠a8;have:=a1.lt;omega
 clear d5
 have a4:=a4.mv a9
 have a5:=a5.mv a9
 have a0:=a0.mv a9
 have a2:=a2.mv a9
 have b4:Enc.share.rd d4 ((a8 :: (a7 :: []))++O) c6 (l[i]!):=Enc.mv Enc.share (x:=l[i]!) b4 a9
 have a1:=a1.keep d7 (by simp)
 obtain ⟨c2,rfl,b9⟩:=b4
 have:=b9.len_le
 refine CB (BF (vs:=[vI ((l[i]!).epoch),vI ((l[i]!).index),vI ((l[i]!).threshold),vI ((l[i]!).many),c2]) (.agg #[vI ((l[i]!).epoch),vI ((l[i]!).index),vI ((l[i]!).threshold),vI ((l[i]!).many),c2]) rfl rfl rfl CZ (fun u hu=>by simp only [List.mem_cons,List.not_mem_nil,or_false] at hu;rcases hu with rfl|rfl|rfl|rfl|rfl <;> first|rfl|exact b9.oneCell) (by repeat (constructor)) c7 oT d6 fun f5 d8 b2 d9 c0=>(?_))
 have a4:=a4.mv b2
 have a5:=a5.mv b2
 have a0:=a0.mv b2
 have a2:=a2.mv b2
 have a1:=a1.keep d9 (BC b5)
 refine AG (AC (AF (AB kR (AA (AU 0 HD rfl (AA (AW U3_ rfl (vI ((l[i]!).epoch)) rfl c0 rfl (AA (DC .i64 ((l[i]!).epoch) (1:Int) (((l[i]!).epoch)+(1:Int)) rfl rfl (FQ oM oM) (AA (AU 0 HD rfl (CB (CI (vI (((l[i]!).epoch)+(1:Int))) rfl rfl rfl OV (by repeat (constructor)) c0 oT d8 fun e0 c3 b3 e1 b6=>(?_))))))))))))))
 have a4:=a4.mv b3
 have a5:=a5.mv b3
 have a0:=a0.mv b3
 have a2:=a2.mv b3
 have a1:=a1.keep e1 (BC b5)
 refine AG (AC (AF (AB kR (AA (BH 4 EP (f.data) rfl a5 (fun _ _ _ h=>EG h) fun f6 c8=>(AA (CF U23_ rfl rfl c8 fun f7 c1=>(?_))))))))
 have:=c1.len_le
 refine AA (CA U23_ rfl c1 (AA (DP (first:=[]) (captured:=[.tmp 1, .tmp 4, .tmp 3]) [] [vP (some l_a),vP (some b0),vP (some zero_a)] rfl rfl (AA (AZ (vs:=[vI (f.data.length:Int),vN (.func 56) #[] #[vP (some l_a),vP (some b0),vP (some zero_a)]]) PB (LQ (O:=(a8 :: (a7 :: []))++O) (f.data.length:Int) 56 [vP (some l_a),vP (some b0),vP (some zero_a)] (fun i_=>l[((i:Int)).toNat]!.data[i_]! ^^^ zero[((i:Int)).toNat]!.data[i_]!) e0 enter_56 (fun w'_ O'_ kk_ hs_ hl_ i_  hc_=>c_refresh11 (O:=O'_) i_ l_a l b0 (i:Int) zero_a zero w'_ (a4.on hs_ kk_) (a2.on hs_ kk_) (a0.on hs_ kk_) oM oM oM (by rw [Int.toNat_natCast,hpre2];omega) (by rw [Int.toNat_natCast,hpre3];omega) hl_) oM c3.lt) rfl c3 fun a6 f8 e2 f9 c4 e3=>(?_))))))
 obtain ⟨_,rfl,a3⟩:=e3
 have:=a3.len_le
 have a1:=a1.keep c4 (by simp)
 have b6:=b6.keep c4 (by simp)
 refine AA (AU 4 EP rfl (CB (CI (a6) rfl rfl a3.oneCell s_23 (by repeat (constructor)) b6 oT e2 fun g0 e4 e5 e6 c9=>(?_))))
 have a3:=a3.mv e5
 have a1:=a1.keep e6 (BC b5)
 refine AG (AC (AF (AB kR (AA (BW (vs:=[vI (((l[i]!).epoch)+(1:Int)),vI ((l[i]!).index),vI ((l[i]!).threshold),vI ((l[i]!).many),a6]) U70_ rfl CZ rfl c9 rfl (CB (BF (vs:=[vI (((l[i]!).epoch)+(1:Int)),vI ((l[i]!).index),vI ((l[i]!).threshold),vI ((l[i]!).many),a6]) (.agg #[vI (((l[i]!).epoch)+(1:Int)),vI ((l[i]!).index),vI ((l[i]!).threshold),vI ((l[i]!).many),a6]) rfl rfl rfl CZ (fun u hu=>by simp only [List.mem_cons,List.not_mem_nil,or_false] at hu;rcases hu with rfl|rfl|rfl|rfl|rfl <;> first|rfl|exact a3.oneCell) (by repeat (constructor)) a1 oT e4 fun g1 e7 e8 g2 d0=>(?_))))))))
 have a3:=a3.mv e8
 refine AG (AC (AM (AS rfl (rescA (vs:=[vI (((l[i]!).epoch)+(1:Int)),vI ((l[i]!).index),vI ((l[i]!).threshold),vI ((l[i]!).many),a6]) rfl rfl U70_ rfl CZ rfl d0 rfl) (?_))))
 have e:(KK l f zero i)=(⟨((l[i]!).epoch)+(1:Int),(l[i]!).index,(l[i]!).threshold,(l[i]!).many,(List.range ((f.data.length:Int)).toNat).map (fun i_=>l[((i:Int)).toNat]!.data[i_]! ^^^ zero[((i:Int)).toNat]!.data[i_]!)⟩:Share):=rfl
 exact ⟨_,rfl,e7.keep,by rw [e];exact ⟨[vI (((l[i]!).epoch)+(1:Int)),vI ((l[i]!).index),vI ((l[i]!).threshold),vI ((l[i]!).many),a6],rfl,Enc.out (B:=(a8 :: (a7 :: []))) ⟨_,rfl,a3⟩⟩⟩
set_option maxHeartbeats 4000000 in
set_option maxRecDepth 100000 in
theorem c_refresh {O:List Nat} (l_v:Value) (l:List Share) (coins_v:Value) (coins:List UInt8) (w:World) (f2:BB Enc.share w O l_v l) (a5:BB Enc.u8 w O coins_v coins) (hO:∀ b∈O,b<w.heap.size):CE Try.prog 19 [l_v,coins_v] w (fun v w'=>∃ (x0:Value),v = .tuple #[x0,vI ((DJ l coins).2)]∧BB Enc.share w' (O) x0 ((DJ l coins).1)):= by
 have s4:=f2.len_le
 have f2:BB Enc.share w ([]++O) l_v l:=f2
 have q6:=a5.len_le
 have a5:BB Enc.u8 w ([]++O) coins_v coins:=a5
 have s0:St w O w []:=St.start hO
 refine BI 48 Try.func19 rfl rfl oT (fun F0=>AF (AB kR (AA (ER (E:=(Enc.slice Enc.share)) (l_v) ([l_v]) l rfl (GC f2.oneCell) ⟨_,rfl,f2⟩ s0 fun b0 l9 h3 m0 s5 a1=>(?_)))))
 have a5:=a5.mv m0
 refine AA (AD (nS) rfl (AA (AD (vI 0) rfl (AG (AC (AF (AF (AB kR (AA (CF U32_ rfl rfl a1 fun h4 f3=>(?_)))))))))))
 have:=f3.len_le
 refine AA (AZ (vs:=[h4]) NI (MX (O:=[]++O) h4 l l9 f3 h3.lt) rfl h3 fun s6 s7 h5 h6 s8 m2=>(?_))
 obtain rfl:=m2
 have a5:=a5.mv h6
 have a1:=a1.mv h6
 refine AA (AD (vI (BO l)) rfl (AG (AC (AF (AB kR (AA (AE (vI (BO l)) rfl (AA (CT .i64 (BO l) (0:Int) rfl rfl (AG (AC (AJ ((BO l) != (0:Int)) rfl rfl (fun c7=>?_) (fun c7=>?_)))))))))))))
 ·have r1:BO l≠(0:Int):=by simpa using c7
  refine AF (AB kR (AA (AE (vI (BO l)) rfl (AA (AD (nS) rfl (AA (AD (vI (BO l)) rfl (AG (AC (AM (AK (AS rfl (EA rfl rfl rfl rfl) (?_)))))))))))))
  have e:(DJ l coins)=([],BO l):=by exact KB (l:=l) (coins:=coins) (by unfold GH KX;((repeat ((refine (if_pos ?_).trans ?_;omega)));rfl)) aS
  exact ⟨_,rfl,h5.keep,by rw [e];exact ⟨.slice none 0 0,rfl,BB.nil _ _ _⟩⟩
 have j2:BO l=(0:Int):=by simpa using c7
 have hv:=(FS l).1 j2
 have hpos:=hv.pos
 have ht1:=hv.t1
 have htm:=hv.tm
 have v7:=hv.m8
 have v6:=hv.d64
 refine AO (AC (AF (AB kR (AA (CF U32_ rfl rfl a1 fun s9 f4=>(?_))))))
 have:=f4.len_le
 refine AA (CP U32_ CZ .i64 (0:Int) 0 rfl rfl rfl f4 oM fun t0 j3=>(AA (DF U70_ rfl CZ rfl j3 fun j4 c8=>(AA (DE [vI 0,vI 0,vI 0,vI 0,nS] KU rfl h5 fun a0 m3 m4 m5 e1 t2 j5=>(?_))))))
 clear m4
 have a5:=a5.mv e1
 have a1:=a1.mv e1
 have c8:Enc.share.rd m3 ((a0 :: [])++O) j4 (l[0]!):=Enc.mv Enc.share (x:=l[0]!) c8 e1
 obtain ⟨e2,rfl,a4⟩:=c8
 have:=a4.len_le
 refine CB (BF (vs:=[vI ((l[0]!).epoch),vI ((l[0]!).index),vI ((l[0]!).threshold),vI ((l[0]!).many),e2]) (.agg #[vI ((l[0]!).epoch),vI ((l[0]!).index),vI ((l[0]!).threshold),vI ((l[0]!).many),e2]) rfl rfl rfl CZ (fun u hu=>by simp only [List.mem_cons,List.not_mem_nil,or_false] at hu;rcases hu with rfl|rfl|rfl|rfl|rfl <;> first|rfl|exact a4.oneCell) (by repeat (constructor)) j5 oT m5 fun a3 b2 e3 t3 a2=>(?_))
 have a5:=a5.mv e3
 have a1:=a1.mv e3
 have a4:=a4.mv e3
 refine AG (AC (AF (AF (AB kR (AA (CF U32_ rfl rfl a1 fun t4 f5=>(?_)))))))
 have:=f5.len_le
 refine AA (CA U32_ rfl f5 (AA (AU 3 HF rfl (AA (AW U3_ rfl (vI ((l[0]!).many)) rfl a2 rfl (AA (CT .i64 (l.length:Int) ((l[0]!).many) rfl rfl (AG (AC (AJ ((l.length:Int) != ((l[0]!).many)) rfl rfl (fun c9=>?_) (fun c9=>?_)))))))))))
 ·have r2:(l.length:Int)≠(l[0]!).many:=by simpa using c9
  refine AF (AB kR (AA (AD (nS) rfl (AA (AD (vI 80) rfl (AG (AC (AM (AK (AS rfl (EA rfl rfl rfl rfl) (?_)))))))))))
  have e:(DJ l coins)=([],(80:Int)):=by exact KB (l:=l) (coins:=coins) (by unfold GH KX;((repeat (first|(refine (if_pos ?_).trans ?_;omega)|(refine (if_neg ?_).trans ?_;omega)));rfl)) (by decide)
  exact ⟨_,rfl,b2.keep,by rw [e];exact ⟨.slice none 0 0,rfl,BB.nil _ _ _⟩⟩
 have r3:(l.length:Int)=(l[0]!).many:=by simpa using c9
 refine AO (AC (AF (AF (AB kR (AA (AU 0 HD rfl (AA (AW U3_ rfl (vI ((l[0]!).epoch)) rfl a2 rfl (AA (GO .i64 ((l[0]!).epoch) (1048576:Int) rfl rfl (AG (AC (AJ (((l[0]!).epoch) == (1048576:Int)) rfl rfl (fun d0=>?_) (fun d0=>?_))))))))))))))
 ·have r4:(l[0]!).epoch=(1048576:Int):=by simpa using d0
  refine AF (AB kR (AA (AD (nS) rfl (AA (AD (vI 81) rfl (AG (AC (AM (AK (AS rfl (EA rfl rfl rfl rfl) (?_)))))))))))
  have e:(DJ l coins)=([],(81:Int)):=by exact KB (l:=l) (coins:=coins) (by unfold GH KX;((repeat (first|(refine (if_pos ?_).trans ?_;omega)|(refine (if_neg ?_).trans ?_;omega)));rfl)) (by decide)
  exact ⟨_,rfl,b2.keep,by rw [e];exact ⟨.slice none 0 0,rfl,BB.nil _ _ _⟩⟩
 have r5:(l[0]!).epoch≠(1048576:Int):=by simpa using d0
 refine AO (AC (AF (YE 16 [14] _ _ _ [fun _=>DZ (vP (some ⟨a0,4,none⟩)),fun _=>fun (vT:Value) (_:World)=>BB Enc.u8 a3 ((a0 :: [])++O) vT ((l[0]!).data),fun _=>DZ (vI (((l[0]!).data).length:Int)),fun (BT:List Nat) (vT:Value) (wT:World)=>BB Enc.u8 wT (BT++O) vT (List.replicate (((l[0]!).data).length) (0:UInt8)),fun _=>DZ (vP (some ⟨a0,0,none⟩)),fun _=>DZ (vI ((l[0]!).epoch)),fun _=>DZ (vP (some ⟨a0,2,none⟩)),fun _=>DZ (vI ((l[0]!).threshold)),fun _=>DZ (vP (some ⟨a0,3,none⟩)),fun _=>DZ (vI ((l[0]!).many)),fun _=>fun (vT:Value) (_:World)=>BB Enc.u8 a3 ((a0 :: [])++O) vT (coins),fun (BT:List Nat) (vT:Value) (wT:World)=>∃ (xT0:Value),vT = .tuple #[xT0,vI ((BY (List.replicate (((l[0]!).data).length) (0:UInt8)) ((l[0]!).epoch) ((l[0]!).threshold) ((l[0]!).many) coins).2)]∧BB Enc.share wT (BT++O) xT0 ((BY (List.replicate (((l[0]!).data).length) (0:UInt8)) ((l[0]!).epoch) ((l[0]!).threshold) ((l[0]!).many) coins).1),fun (BT:List Nat) (vT:Value) (wT:World)=>∃ (xT0:Value),vT = .tuple #[xT0,vI ((BY (List.replicate (((l[0]!).data).length) (0:UInt8)) ((l[0]!).epoch) ((l[0]!).threshold) ((l[0]!).many) coins).2)]∧BB Enc.share wT (BT++O) xT0 ((BY (List.replicate (((l[0]!).data).length) (0:UInt8)) ((l[0]!).epoch) ((l[0]!).threshold) ((l[0]!).many) coins).1),fun (BT:List Nat) (vT:Value) (wT:World)=>BB Enc.share wT (BT++O) vT ((BY (List.replicate (((l[0]!).data).length) (0:UInt8)) ((l[0]!).epoch) ((l[0]!).threshold) ((l[0]!).many) coins).1),fun _=>DZ (vI ((BY (List.replicate (((l[0]!).data).length) (0:UInt8)) ((l[0]!).epoch) ((l[0]!).threshold) ((l[0]!).many) coins).2)),UA a3 32 [nS]] [⟨0,[],[],[],false,[]⟩,⟨0,[],[],[],false,[0]⟩,⟨0,[],[],[],false,[1]⟩,⟨1,[],[],[],false,[2]⟩,⟨0,[],[],[],false,[]⟩,⟨0,[],[],[],false,[4]⟩,⟨0,[],[],[],false,[]⟩,⟨0,[],[],[],false,[6]⟩,⟨0,[],[],[],false,[]⟩,⟨0,[],[],[],false,[8]⟩,⟨0,[],[],[],false,[]⟩,⟨1,[1],[],[],false,[3,5,7,9,10]⟩,⟨1,[1],[],[],false,[11]⟩,⟨1,[1],[],[],false,[12]⟩,⟨0,[1],[],[],false,[12]⟩,⟨2,[],[],[],false,[]⟩] (a0 :: []) kR kR kR kR kR (by decide) rfl rfl rfl ⟨fun _ _ _ _ _ h=>h,fun _ _ _ _ _ h=>h,fun _ _ _ _ _ h=>h,(show ∀ B B2 v w w2,(fun (BT:List Nat) (vT:Value) (wT:World)=>BB Enc.u8 wT (BT++O) vT (List.replicate (((l[0]!).data).length) (0:UInt8))) B v w→Mv B w B2 w2→(fun (BT:List Nat) (vT:Value) (wT:World)=>BB Enc.u8 wT (BT++O) vT (List.replicate (((l[0]!).data).length) (0:UInt8))) B2 v w2 from fun _ _ _ _ _ h m=>h.mv m),fun _ _ _ _ _ h=>h,fun _ _ _ _ _ h=>h,fun _ _ _ _ _ h=>h,fun _ _ _ _ _ h=>h,fun _ _ _ _ _ h=>h,fun _ _ _ _ _ h=>h,fun _ _ _ _ _ h=>h,(show ∀ B B2 v w w2,(fun (BT:List Nat) (vT:Value) (wT:World)=>∃ (xT0:Value),vT = .tuple #[xT0,vI ((BY (List.replicate (((l[0]!).data).length) (0:UInt8)) ((l[0]!).epoch) ((l[0]!).threshold) ((l[0]!).many) coins).2)]∧BB Enc.share wT (BT++O) xT0 ((BY (List.replicate (((l[0]!).data).length) (0:UInt8)) ((l[0]!).epoch) ((l[0]!).threshold) ((l[0]!).many) coins).1)) B v w→Mv B w B2 w2→(fun (BT:List Nat) (vT:Value) (wT:World)=>∃ (xT0:Value),vT = .tuple #[xT0,vI ((BY (List.replicate (((l[0]!).data).length) (0:UInt8)) ((l[0]!).epoch) ((l[0]!).threshold) ((l[0]!).many) coins).2)]∧BB Enc.share wT (BT++O) xT0 ((BY (List.replicate (((l[0]!).data).length) (0:UInt8)) ((l[0]!).epoch) ((l[0]!).threshold) ((l[0]!).many) coins).1)) B2 v w2 from fun _ _ _ _ _ ⟨y0,e,h0⟩ m=>⟨y0,e,h0.mv m⟩),(show ∀ B B2 v w w2,(fun (BT:List Nat) (vT:Value) (wT:World)=>∃ (xT0:Value),vT = .tuple #[xT0,vI ((BY (List.replicate (((l[0]!).data).length) (0:UInt8)) ((l[0]!).epoch) ((l[0]!).threshold) ((l[0]!).many) coins).2)]∧BB Enc.share wT (BT++O) xT0 ((BY (List.replicate (((l[0]!).data).length) (0:UInt8)) ((l[0]!).epoch) ((l[0]!).threshold) ((l[0]!).many) coins).1)) B v w→Mv B w B2 w2→(fun (BT:List Nat) (vT:Value) (wT:World)=>∃ (xT0:Value),vT = .tuple #[xT0,vI ((BY (List.replicate (((l[0]!).data).length) (0:UInt8)) ((l[0]!).epoch) ((l[0]!).threshold) ((l[0]!).many) coins).2)]∧BB Enc.share wT (BT++O) xT0 ((BY (List.replicate (((l[0]!).data).length) (0:UInt8)) ((l[0]!).epoch) ((l[0]!).threshold) ((l[0]!).many) coins).1)) B2 v w2 from fun _ _ _ _ _ ⟨y0,e,h0⟩ m=>⟨y0,e,h0.mv m⟩),(show ∀ B B2 v w w2,(fun (BT:List Nat) (vT:Value) (wT:World)=>BB Enc.share wT (BT++O) vT ((BY (List.replicate (((l[0]!).data).length) (0:UInt8)) ((l[0]!).epoch) ((l[0]!).threshold) ((l[0]!).many) coins).1)) B v w→Mv B w B2 w2→(fun (BT:List Nat) (vT:Value) (wT:World)=>BB Enc.share wT (BT++O) vT ((BY (List.replicate (((l[0]!).data).length) (0:UInt8)) ((l[0]!).epoch) ((l[0]!).threshold) ((l[0]!).many) coins).1)) B2 v w2 from fun _ _ _ _ _ h m=>h.mv m),fun _ _ _ _ _ h=>h,UA.st,trivial⟩ ⟨?_,?_,?_,?_,?_,?_,?_,?_,?_,?_,?_,?_,?_,?_,?_,?_,trivial⟩ ?_ ?_)))
 ·intro F1 w1 B1_ Bs_ k1 hs_ hl_ hr_ hsep_ hf hd
  obtain ⟨F2,rfl⟩:=AL (F:=F1) [(7,vP (some ⟨a0,0,none⟩))] ⟨hf 7 kR,trivial⟩
  exact AH rfl ((AU 4 EP rfl (⟨[],(Keep.refl _ _),QB,rfl⟩)))
 ·intro F1 w1 B1_ Bs_ k1 hs_ hl_ hr_ hsep_ hf hd
  have k0:=(Keep.drew [] a3).trans k1
  have a2:=a2.keep k0 (by simp)
  obtain ⟨F2,rfl⟩:=AL (F:=F1) [(26,vP (some ⟨a0,4,none⟩))] ⟨hd 0 26 kR kR,trivial⟩
  exact AH rfl ((AW U23_ rfl (e2) rfl a2 rfl (⟨[],(Keep.refl _ _),QB,a4⟩)))
 ·intro F1 w1 B1_ Bs_ k1 hs_ hl_ hr_ hsep_ hf hd
  obtain ⟨m6,m7,f6⟩:∃ v,F1 27=v∧BB Enc.u8 a3 ((a0 :: [])++O) v ((l[0]!).data):=⟨_,rfl,hd 1 27 kR kR⟩
  have:=f6.len_le
  obtain ⟨F2,rfl⟩:=AL (F:=F1) [(27,m6)] ⟨m7,trivial⟩
  exact AH rfl ((o_lenRU U23_ rfl f6 (⟨[],(Keep.refl _ _),QB,rfl⟩)))
 ·intro F1 w1 B1_ Bs_ k1 hs_ hl_ hr_ hsep_ hf hd
  have k0:=(Keep.drew [] a3).trans k1
  have s1:=b2.adoptL k0 hl_
  obtain ⟨F2,rfl⟩:=AL (F:=F1) [(28,vI (((l[0]!).data).length:Int))] ⟨hd 2 28 kR kR,trivial⟩
  refine AH rfl ((o_makeR (E:=Enc.u8) U23_ RI [vB (0:UInt8)] rfl rfl (by decide) (0:UInt8) (fun _ _=>rfl) .i64 .i64 (((l[0]!).data).length:Int) (((l[0]!).data).length:Int) (((l[0]!).data).length) (((l[0]!).data).length) rfl rfl rfl rfl oM oM (by simp only [maxLen];omega) s1 fun t5 t6 t7 t8 m9 j6=>(?_)))
  exact ⟨[],m9,QB,j6⟩
 ·intro F1 w1 B1_ Bs_ k1 hs_ hl_ hr_ hsep_ hf hd
  obtain ⟨F2,rfl⟩:=AL (F:=F1) [(7,vP (some ⟨a0,0,none⟩))] ⟨hf 7 kR,trivial⟩
  exact AH rfl ((AU 0 HD rfl (⟨[],(Keep.refl _ _),QB,rfl⟩)))
 ·intro F1 w1 B1_ Bs_ k1 hs_ hl_ hr_ hsep_ hf hd
  have k0:=(Keep.drew [] a3).trans k1
  have a2:=a2.keep k0 (by simp)
  obtain ⟨F2,rfl⟩:=AL (F:=F1) [(30,vP (some ⟨a0,0,none⟩))] ⟨hd 4 30 kR kR,trivial⟩
  exact AH rfl ((AW U3_ rfl (vI ((l[0]!).epoch)) rfl a2 rfl (⟨[],(Keep.refl _ _),QB,rfl⟩)))
 ·intro F1 w1 B1_ Bs_ k1 hs_ hl_ hr_ hsep_ hf hd
  obtain ⟨F2,rfl⟩:=AL (F:=F1) [(7,vP (some ⟨a0,0,none⟩))] ⟨hf 7 kR,trivial⟩
  exact AH rfl ((AU 2 HK rfl (⟨[],(Keep.refl _ _),QB,rfl⟩)))
 ·intro F1 w1 B1_ Bs_ k1 hs_ hl_ hr_ hsep_ hf hd
  have k0:=(Keep.drew [] a3).trans k1
  have a2:=a2.keep k0 (by simp)
  obtain ⟨F2,rfl⟩:=AL (F:=F1) [(32,vP (some ⟨a0,2,none⟩))] ⟨hd 6 32 kR kR,trivial⟩
  exact AH rfl ((AW U3_ rfl (vI ((l[0]!).threshold)) rfl a2 rfl (⟨[],(Keep.refl _ _),QB,rfl⟩)))
 ·intro F1 w1 B1_ Bs_ k1 hs_ hl_ hr_ hsep_ hf hd
  obtain ⟨F2,rfl⟩:=AL (F:=F1) [(7,vP (some ⟨a0,0,none⟩))] ⟨hf 7 kR,trivial⟩
  exact AH rfl ((AU 3 HF rfl (⟨[],(Keep.refl _ _),QB,rfl⟩)))
 ·intro F1 w1 B1_ Bs_ k1 hs_ hl_ hr_ hsep_ hf hd
  have k0:=(Keep.drew [] a3).trans k1
  have a2:=a2.keep k0 (by simp)
  obtain ⟨F2,rfl⟩:=AL (F:=F1) [(34,vP (some ⟨a0,3,none⟩))] ⟨hd 8 34 kR kR,trivial⟩
  exact AH rfl ((AW U3_ rfl (vI ((l[0]!).many)) rfl a2 rfl (⟨[],(Keep.refl _ _),QB,rfl⟩)))
 ·intro F1 w1 B1_ Bs_ k1 hs_ hl_ hr_ hsep_ hf hd
  obtain ⟨F2,rfl⟩:=AL (F:=F1) [(1,coins_v)] ⟨hf 1 kR,trivial⟩
  exact AH rfl ((AE (coins_v) rfl (⟨[],(Keep.refl _ _),QB,a5⟩)))
 ·intro F1 w1 B1_ Bs_ k1 hs_ hl_ hr_ hsep_ hf hd
  have k0:=(Keep.drew [] a3).trans k1
  have s1:=b2.adoptL k0 hl_
  have m1:Mv (a0 :: []) a3 B1_ w1:=Mv.adoptL k0 hl_
  obtain ⟨e4,n2,b7⟩:∃ v,F1 29=v∧BB Enc.u8 w1 ((Bs_ 1)++O) v (List.replicate (((l[0]!).data).length) (0:UInt8)):=⟨_,rfl,hd 3 29 kR kR⟩
  have:=b7.len_le
  have b7:=b7.mv (Mv.at_ (hr_ 1 kR))
  obtain ⟨e5,n3,b8⟩:∃ v,F1 36=v∧BB Enc.u8 a3 ((a0 :: [])++O) v (coins):=⟨_,rfl,hd 10 36 kR kR⟩
  have:=b8.len_le
  have b8:=b8.mv m1
  obtain ⟨F2,rfl⟩:=AL (F:=F1) [(29,e4),(31,vI ((l[0]!).epoch)),(33,vI ((l[0]!).threshold)),(35,vI ((l[0]!).many)),(36,e5)] ⟨n2,hd 5 31 kR kR,hd 7 33 kR kR,hd 9 35 kR kR,n3,trivial⟩
  refine AH rfl ((AZ (vs:=[e4,vI ((l[0]!).epoch),vI ((l[0]!).threshold),vI ((l[0]!).many),e5]) VB (c_split (O:=B1_++O) e4 (List.replicate (((l[0]!).data).length) (0:UInt8)) ((l[0]!).epoch) ((l[0]!).threshold) ((l[0]!).many) e5 coins w1 b7 b8 s1.lt) rfl s1 fun t9 u0 u1 u2 n4 n5=>(?_)))
  obtain ⟨n6,rfl,f7⟩:=n5
  have:=f7.len_le
  exact ⟨[],n4,QB,⟨n6,rfl,f7⟩⟩
 ·intro F1 w1 B1_ Bs_ k1 hs_ hl_ hr_ hsep_ hf hd
  obtain ⟨e6,n7,b9⟩:(fun (vT:Value) (wT:World)=>∃ (xT0:Value),vT = .tuple #[xT0,vI ((BY (List.replicate (((l[0]!).data).length) (0:UInt8)) ((l[0]!).epoch) ((l[0]!).threshold) ((l[0]!).many) coins).2)]∧BB Enc.share wT ((Bs_ 1)++O) xT0 ((BY (List.replicate (((l[0]!).data).length) (0:UInt8)) ((l[0]!).epoch) ((l[0]!).threshold) ((l[0]!).many) coins).1)) (F1 37) w1:=hd 11 37 kR kR
  have:=b9.len_le
  have b9:=b9.mv (Mv.at_ (hr_ 1 kR))
  obtain ⟨F2,rfl⟩:=AL (F:=F1) [(37,vT #[e6,vI ((BY (List.replicate (((l[0]!).data).length) (0:UInt8)) ((l[0]!).epoch) ((l[0]!).threshold) ((l[0]!).many) coins).2)])] ⟨n7,trivial⟩
  exact AH rfl ((AE (vT #[e6,vI ((BY (List.replicate (((l[0]!).data).length) (0:UInt8)) ((l[0]!).epoch) ((l[0]!).threshold) ((l[0]!).many) coins).2)]) rfl (⟨[],(Keep.refl _ _),QB,⟨e6,rfl,b9⟩⟩)))
 ·intro F1 w1 B1_ Bs_ k1 hs_ hl_ hr_ hsep_ hf hd
  obtain ⟨h7,n9,c0⟩:(fun (vT:Value) (wT:World)=>∃ (xT0:Value),vT = .tuple #[xT0,vI ((BY (List.replicate (((l[0]!).data).length) (0:UInt8)) ((l[0]!).epoch) ((l[0]!).threshold) ((l[0]!).many) coins).2)]∧BB Enc.share wT ((Bs_ 1)++O) xT0 ((BY (List.replicate (((l[0]!).data).length) (0:UInt8)) ((l[0]!).epoch) ((l[0]!).threshold) ((l[0]!).many) coins).1)) (F1 25) w1:=hd 12 25 kR kR
  have:=c0.len_le
  have c0:=c0.mv (Mv.at_ (hr_ 1 kR))
  obtain ⟨F2,rfl⟩:=AL (F:=F1) [(25,vT #[h7,vI ((BY (List.replicate (((l[0]!).data).length) (0:UInt8)) ((l[0]!).epoch) ((l[0]!).threshold) ((l[0]!).many) coins).2)])] ⟨n9,trivial⟩
  exact AH rfl ((AN (h7) rfl rfl (⟨[],(Keep.refl _ _),QB,c0⟩)))
 ·intro F1 w1 B1_ Bs_ k1 hs_ hl_ hr_ hsep_ hf hd
  obtain ⟨o0,o1,j7⟩:(fun (vT:Value) (wT:World)=>∃ (xT0:Value),vT = .tuple #[xT0,vI ((BY (List.replicate (((l[0]!).data).length) (0:UInt8)) ((l[0]!).epoch) ((l[0]!).threshold) ((l[0]!).many) coins).2)]∧BB Enc.share wT ((Bs_ 1)++O) xT0 ((BY (List.replicate (((l[0]!).data).length) (0:UInt8)) ((l[0]!).epoch) ((l[0]!).threshold) ((l[0]!).many) coins).1)) (F1 25) w1:=hd 12 25 kR kR
  have:=j7.len_le
  obtain ⟨F2,rfl⟩:=AL (F:=F1) [(25,vT #[o0,vI ((BY (List.replicate (((l[0]!).data).length) (0:UInt8)) ((l[0]!).epoch) ((l[0]!).threshold) ((l[0]!).many) coins).2)])] ⟨o1,trivial⟩
  exact AH rfl ((AN (vI ((BY (List.replicate (((l[0]!).data).length) (0:UInt8)) ((l[0]!).epoch) ((l[0]!).threshold) ((l[0]!).many) coins).2)) rfl rfl (⟨[],(Keep.refl _ _),QB,rfl⟩)))
 ·intro F1 w1 B1_ Bs_ k1 hs_ hl_ hr_ hsep_ hf hd
  have k0:=(Keep.drew [] a3).trans k1
  have s1:=b2.adoptL k0 hl_
  obtain ⟨F2,rfl⟩:=AL (F:=F1) [] trivial
  refine AH rfl ((DE [nS] z_32 rfl s1 fun o2 u3 u4 u5 u6 o3 j8=>(?_)))
  have j9:a3.heap.size≤o2:=by have:=k0.size;omega
  exact ⟨[],o3,QB,⟨_,rfl,j9,(by intro h;have:=lt_of s1 _ h;omega),j8⟩⟩
 ·intro e7 c1 b3 e8 d1 k2 d9 c2 b4
  obtain ⟨a6,o4,f8,k3,f9⟩:(UA a3 32 [nS]) (b3 2) (e7 8) c1:=c2 15 8 kR (by decide) kR kR
  have g0:=f9.lt
  have k4:∀ x∈(a0 :: []),x∈(a0 :: [])∨(a3.heap.size≤x∧x<c1.heap.size):=fun x hx=>.inl hx
  have j0:∀ x∈(a0 :: []),x∈(a0 :: []):=fun x hx=>hx
  have k5:∀ x∈(a0 :: []),x∈b3 1:=fun x hx=>d1 1 x hx
  have r6:∀ x∈(a0 :: []),x∈b3 2:=fun x hx=>d1 2 x hx
  have g1:∀ x∈(a6 :: (a0 :: [])),x∈(a0 :: [])∨(a3.heap.size≤x∧x<c1.heap.size):=fun x hx=>by rcases List.mem_cons.1 hx with rfl|hx;exact .inr ⟨f8,g0⟩;exact k4 x hx
  have q9:∀ x∈(a0 :: []),x∈(a6 :: (a0 :: [])):=fun x hx=>List.mem_cons_of_mem _ (j0 x hx)
  have k6:∀ x∈(a6 :: (a0 :: [])),x∈b3 1:=fun x hx=>by rcases List.mem_cons.1 hx with rfl|hx;exact d9 2 1 _ (by decide) f8 g0 k3;exact k5 x hx
  have o5:=b2.adoptL e8 g1
  have h8:Mv (a0 :: []) a3 (a6 :: (a0 :: [])) c1:=Mv.adoptL e8 g1
  have g2:GV a0 a6:=by show a0≠a6;have:=a2.lt;omega
  obtain ⟨h9,o6,a8⟩:∃ v,e7 38=v∧BB Enc.share c1 ((b3 1)++O) v ((BY (List.replicate (((l[0]!).data).length) (0:UInt8)) ((l[0]!).epoch) ((l[0]!).threshold) ((l[0]!).many) coins).1):=⟨_,rfl,c2 13 38 kR (by decide) kR kR⟩
  have:=a8.len_le
  have a8:=a8.mv (Mv.at_ k6)
  have a1:=a1.mv h8
  have a4:=a4.mv h8
  have a2:=a2.keep e8 (by simp)
  obtain ⟨F2,rfl⟩:=AL (F:=e7) [(2,vP (some b0)),(5,vI 0),(7,vP (some ⟨a0,0,none⟩)),(48,undef),(8,vP (some ⟨a6,0,none⟩)),(38,h9),(39,vI ((BY (List.replicate (((l[0]!).data).length) (0:UInt8)) ((l[0]!).epoch) ((l[0]!).threshold) ((l[0]!).many) coins).2))] ⟨b4 2 kR,b4 5 kR,b4 7 kR,b4 48 kR,o4,o6,c2 14 39 kR (by decide) kR kR,trivial⟩
  clear c2 b4 d1 k2 d9
  refine CB (CI (h9) rfl rfl a8.oneCell s_32 (by repeat (constructor)) f9 oT o5 fun o7 i0 e9 o8 d2=>(?_))
  have a1:=a1.mv e9
  have a8:=a8.mv e9
  have a4:=a4.mv e9
  have a2:=a2.keep o8 (BC g2)
  refine AA (AD (vI ((BY (List.replicate (((l[0]!).data).length) (0:UInt8)) ((l[0]!).epoch) ((l[0]!).threshold) ((l[0]!).many) coins).2)) rfl (AG (AC (AF (AF (AB kR (AA (AE (vI ((BY (List.replicate (((l[0]!).data).length) (0:UInt8)) ((l[0]!).epoch) ((l[0]!).threshold) ((l[0]!).many) coins).2)) rfl (AA (CT .i64 ((BY (List.replicate (((l[0]!).data).length) (0:UInt8)) ((l[0]!).epoch) ((l[0]!).threshold) ((l[0]!).many) coins).2) (0:Int) rfl rfl (AG (AC (AJ (((BY (List.replicate (((l[0]!).data).length) (0:UInt8)) ((l[0]!).epoch) ((l[0]!).threshold) ((l[0]!).many) coins).2) != (0:Int)) rfl rfl (fun d3=>?_) (fun d3=>?_))))))))))))))
  ·have r7:(BY (List.replicate (((l[0]!).data).length) (0:UInt8)) ((l[0]!).epoch) ((l[0]!).threshold) ((l[0]!).many) coins).2≠(0:Int):=by simpa using d3
   refine AF (AB kR (AA (AE (vI ((BY (List.replicate (((l[0]!).data).length) (0:UInt8)) ((l[0]!).epoch) ((l[0]!).threshold) ((l[0]!).many) coins).2)) rfl (AA (AD (nS) rfl (AA (AD (vI ((BY (List.replicate (((l[0]!).data).length) (0:UInt8)) ((l[0]!).epoch) ((l[0]!).threshold) ((l[0]!).many) coins).2)) rfl (AG (AC (AM (AK (AS rfl (EA rfl rfl rfl rfl) (?_)))))))))))))
   have e:(DJ l coins)=([],(BY (List.replicate (((l[0]!).data).length) (0:UInt8)) ((l[0]!).epoch) ((l[0]!).threshold) ((l[0]!).many) coins).2):=by exact KB (l:=l) (coins:=coins) (by unfold GH KX;((repeat ((refine (if_neg ?_).trans ?_;omega)));rfl)) aS
   exact ⟨_,rfl,i0.keep,by rw [e];exact ⟨.slice none 0 0,rfl,BB.nil _ _ _⟩⟩
  have k7:(BY (List.replicate (((l[0]!).data).length) (0:UInt8)) ((l[0]!).epoch) ((l[0]!).threshold) ((l[0]!).many) coins).2=(0:Int):=by simpa using d3
  have hz2:(KX l[0]! coins).2=0:=k7
  have hzl:=XH hz2
  refine AO (AC (AF (AB kR (AA (CF U32_ rfl rfl a1 fun u7 g3=>(?_))))))
  have:=g3.len_le
  refine AA (CA U32_ rfl g3 (?_))
  obtain ⟨o9,p0,i1,d4,k8⟩:=a2.publish (E:=Enc.share) (u:=(l[0]!)) ⟨_,rfl,a4⟩ i0 (by repeat (constructor))
  have q7:a6∈o9:=k8 a6 (by repeat (constructor)) (Ne.symm g2)
  have a1:=a1.mv i1
  have a8:=a8.mv i1
  have d2:=d2.keep (Keep.refl [] _) (by simp)
  obtain ⟨p1,i2,i3,k9,r8⟩:=d2.publish (E:=(Enc.slice Enc.share)) (u:=(BY (List.replicate (((l[0]!).data).length) (0:UInt8)) ((l[0]!).epoch) ((l[0]!).threshold) ((l[0]!).many) coins).1) ⟨_,rfl,a8⟩ p0 (by repeat (assumption))
  have a1:=a1.mv i3
  have d4:=d4.mv i3
  refine AA (DP (first:=[]) (captured:=[.tmp 2, .tmp 7, .tmp 8]) [] [vP (some b0),vP (some ⟨a0,0,none⟩),vP (some ⟨a6,0,none⟩)] rfl rfl (AA (AZ (vs:=[vI (l.length:Int),vN (.func 55) #[] #[vP (some b0),vP (some ⟨a0,0,none⟩),vP (some ⟨a6,0,none⟩)]]) WE (QY (O:=p1++O) (l.length:Int) 55 [vP (some b0),vP (some ⟨a0,0,none⟩),vP (some ⟨a6,0,none⟩)] (fun i_=>KK l (l[0]!) ((BY (List.replicate (((l[0]!).data).length) (0:UInt8)) ((l[0]!).epoch) ((l[0]!).threshold) ((l[0]!).many) coins).1) i_) o7 enter_55 (fun w'_ O'_ kk_ hs_ hl_ i_  hc_=>UT (O:=O'_) i_ b0 l (⟨a0,0,none⟩) (l[0]!) (⟨a6,0,none⟩) ((BY (List.replicate (((l[0]!).data).length) (0:UInt8)) ((l[0]!).epoch) ((l[0]!).threshold) ((l[0]!).many) coins).1) w'_ (a1.on hs_ kk_) (d4.on hs_ kk_) (k9.on hs_ kk_) oM (show _<(KX l[0]! coins).1.length from by omega) (hv.da _ oM) (VT hz2 oM) (by have:=hv.ep i_ oM;have:=hv.ep0;omega) (by have:=hv.ep i_ oM;have:=hv.ep1;omega) oM hl_) oM i2.lt) rfl i2 fun c4 u9 p2 v0 v1 p3=>(?_))))
  obtain ⟨_,rfl,g4⟩:=p3
  have:=g4.len_le
  refine AA (AD (c4) rfl (AG (AC (AF (AB kR (AA (AE (c4) rfl (AA (AD (c4) rfl (AA (AD (vI 0) rfl (AG (AC (AM (AS rfl (EA rfl rfl rfl rfl) (?_))))))))))))))))
  have e:(DJ l coins)=((List.range ((l.length:Int)).toNat).map (fun i_=>KK l (l[0]!) ((BY (List.replicate (((l[0]!).data).length) (0:UInt8)) ((l[0]!).epoch) ((l[0]!).threshold) ((l[0]!).many) coins).1) i_),(0:Int)):=by exact TQ (l:=l) (coins:=coins) (by unfold GH;((repeat ((refine (if_neg ?_).trans ?_;omega)));exact hz2)) rfl
  exact ⟨_,rfl,p2.keep,by rw [e];exact ⟨c4,rfl,g4.out⟩⟩
 intro cx_ hcx_
 match cx_,hcx_ with
 | 0,_=>
  intro c5 b6 b1 f0 d5 l0 e0 c3 b5
  obtain ⟨a7,p4,g5,l1,g6⟩:(UA a3 32 [nS]) (b1 2) (c5 8) b6:=c3 15 8 kR (by decide) kR kR
  have g7:=g6.lt
  have l2:∀ x∈(a0 :: []),x∈(a0 :: [])∨(a3.heap.size≤x∧x<b6.heap.size):=fun x hx=>.inl hx
  have j1:∀ x∈(a0 :: []),x∈(a0 :: []):=fun x hx=>hx
  have l3:∀ x∈(a0 :: []),x∈b1 1:=fun x hx=>d5 1 x hx
  have r9:∀ x∈(a0 :: []),x∈b1 2:=fun x hx=>d5 2 x hx
  have g8:∀ x∈(a7 :: (a0 :: [])),x∈(a0 :: [])∨(a3.heap.size≤x∧x<b6.heap.size):=fun x hx=>by rcases List.mem_cons.1 hx with rfl|hx;exact .inr ⟨g5,g7⟩;exact l2 x hx
  have r0:∀ x∈(a0 :: []),x∈(a7 :: (a0 :: [])):=fun x hx=>List.mem_cons_of_mem _ (j1 x hx)
  have l4:∀ x∈(a7 :: (a0 :: [])),x∈b1 1:=fun x hx=>by rcases List.mem_cons.1 hx with rfl|hx;exact e0 2 1 _ (by decide) g5 g7 l1;exact l3 x hx
  have p5:=b2.adoptL f0 g8
  have i4:Mv (a0 :: []) a3 (a7 :: (a0 :: [])) b6:=Mv.adoptL f0 g8
  have g9:GV a0 a7:=by show a0≠a7;have:=a2.lt;omega
  obtain ⟨p6,p7,l5⟩:(fun (vT:Value) (wT:World)=>∃ (xT0:Value),vT = .tuple #[xT0,vI ((BY (List.replicate (((l[0]!).data).length) (0:UInt8)) ((l[0]!).epoch) ((l[0]!).threshold) ((l[0]!).many) coins).2)]∧BB Enc.share wT ((b1 1)++O) xT0 ((BY (List.replicate (((l[0]!).data).length) (0:UInt8)) ((l[0]!).epoch) ((l[0]!).threshold) ((l[0]!).many) coins).1)) (c5 25) b6:=c3 12 25 kR (by decide) kR kR
  have:=l5.len_le
  obtain ⟨i5,p8,a9⟩:∃ v,c5 38=v∧BB Enc.share b6 ((b1 1)++O) v ((BY (List.replicate (((l[0]!).data).length) (0:UInt8)) ((l[0]!).epoch) ((l[0]!).threshold) ((l[0]!).many) coins).1):=⟨_,rfl,c3 13 38 kR (by decide) kR kR⟩
  have:=a9.len_le
  have a9:=a9.mv (Mv.at_ l4)
  have a1:=a1.mv i4
  have a4:=a4.mv i4
  have a2:=a2.keep f0 (by simp)
  obtain ⟨F2,rfl⟩:=AL (F:=c5) [(2,vP (some b0)),(5,vI 0),(7,vP (some ⟨a0,0,none⟩)),(48,undef),(8,vP (some ⟨a7,0,none⟩)),(25,vT #[p6,vI ((BY (List.replicate (((l[0]!).data).length) (0:UInt8)) ((l[0]!).epoch) ((l[0]!).threshold) ((l[0]!).many) coins).2)]),(38,i5)] ⟨b5 2 kR,b5 5 kR,b5 7 kR,b5 48 kR,p4,p7,p8,trivial⟩
  clear c3 b5 d5 l0 e0
  refine CB (CI (i5) rfl rfl a9.oneCell s_32 (by repeat (constructor)) g6 oT p5 fun p9 i6 f1 q0 d6=>(?_))
  have a1:=a1.mv f1
  have a9:=a9.mv f1
  have a4:=a4.mv f1
  have a2:=a2.keep q0 (BC g9)
  refine AA (AN (vI ((BY (List.replicate (((l[0]!).data).length) (0:UInt8)) ((l[0]!).epoch) ((l[0]!).threshold) ((l[0]!).many) coins).2)) rfl rfl (AA (AD (vI ((BY (List.replicate (((l[0]!).data).length) (0:UInt8)) ((l[0]!).epoch) ((l[0]!).threshold) ((l[0]!).many) coins).2)) rfl (AG (AC (AF (AF (AB kR (AA (AE (vI ((BY (List.replicate (((l[0]!).data).length) (0:UInt8)) ((l[0]!).epoch) ((l[0]!).threshold) ((l[0]!).many) coins).2)) rfl (AA (CT .i64 ((BY (List.replicate (((l[0]!).data).length) (0:UInt8)) ((l[0]!).epoch) ((l[0]!).threshold) ((l[0]!).many) coins).2) (0:Int) rfl rfl (AG (AC (AJ (((BY (List.replicate (((l[0]!).data).length) (0:UInt8)) ((l[0]!).epoch) ((l[0]!).threshold) ((l[0]!).many) coins).2) != (0:Int)) rfl rfl (fun d7=>?_) (fun d7=>?_))))))))))))))))
  ·have s2:(BY (List.replicate (((l[0]!).data).length) (0:UInt8)) ((l[0]!).epoch) ((l[0]!).threshold) ((l[0]!).many) coins).2≠(0:Int):=by simpa using d7
   refine AF (AB kR (AA (AE (vI ((BY (List.replicate (((l[0]!).data).length) (0:UInt8)) ((l[0]!).epoch) ((l[0]!).threshold) ((l[0]!).many) coins).2)) rfl (AA (AD (nS) rfl (AA (AD (vI ((BY (List.replicate (((l[0]!).data).length) (0:UInt8)) ((l[0]!).epoch) ((l[0]!).threshold) ((l[0]!).many) coins).2)) rfl (AG (AC (AM (AK (AS rfl (EA rfl rfl rfl rfl) (?_)))))))))))))
   have e:(DJ l coins)=([],(BY (List.replicate (((l[0]!).data).length) (0:UInt8)) ((l[0]!).epoch) ((l[0]!).threshold) ((l[0]!).many) coins).2):=by exact KB (l:=l) (coins:=coins) (by unfold GH KX;((repeat ((refine (if_neg ?_).trans ?_;omega)));rfl)) aS
   exact ⟨_,rfl,i6.keep,by rw [e];exact ⟨.slice none 0 0,rfl,BB.nil _ _ _⟩⟩
  have l6:(BY (List.replicate (((l[0]!).data).length) (0:UInt8)) ((l[0]!).epoch) ((l[0]!).threshold) ((l[0]!).many) coins).2=(0:Int):=by simpa using d7
  have hz2:(KX l[0]! coins).2=0:=l6
  have hzl:=XH hz2
  refine AO (AC (AF (AB kR (AA (CF U32_ rfl rfl a1 fun v2 h1=>(?_))))))
  have:=h1.len_le
  refine AA (CA U32_ rfl h1 (?_))
  obtain ⟨q1,q2,i7,d8,l7⟩:=a2.publish (E:=Enc.share) (u:=(l[0]!)) ⟨_,rfl,a4⟩ i6 (by repeat (constructor))
  have q8:a7∈q1:=l7 a7 (by repeat (constructor)) (Ne.symm g9)
  have a1:=a1.mv i7
  have a9:=a9.mv i7
  have d6:=d6.keep (Keep.refl [] _) (by simp)
  obtain ⟨q3,i8,i9,l8,s3⟩:=d6.publish (E:=(Enc.slice Enc.share)) (u:=(BY (List.replicate (((l[0]!).data).length) (0:UInt8)) ((l[0]!).epoch) ((l[0]!).threshold) ((l[0]!).many) coins).1) ⟨_,rfl,a9⟩ q2 (by repeat (assumption))
  have a1:=a1.mv i9
  have d8:=d8.mv i9
  refine AA (DP (first:=[]) (captured:=[.tmp 2, .tmp 7, .tmp 8]) [] [vP (some b0),vP (some ⟨a0,0,none⟩),vP (some ⟨a7,0,none⟩)] rfl rfl (AA (AZ (vs:=[vI (l.length:Int),vN (.func 55) #[] #[vP (some b0),vP (some ⟨a0,0,none⟩),vP (some ⟨a7,0,none⟩)]]) WE (QY (O:=q3++O) (l.length:Int) 55 [vP (some b0),vP (some ⟨a0,0,none⟩),vP (some ⟨a7,0,none⟩)] (fun i_=>KK l (l[0]!) ((BY (List.replicate (((l[0]!).data).length) (0:UInt8)) ((l[0]!).epoch) ((l[0]!).threshold) ((l[0]!).many) coins).1) i_) p9 enter_55 (fun w'_ O'_ kk_ hs_ hl_ i_  hc_=>UT (O:=O'_) i_ b0 l (⟨a0,0,none⟩) (l[0]!) (⟨a7,0,none⟩) ((BY (List.replicate (((l[0]!).data).length) (0:UInt8)) ((l[0]!).epoch) ((l[0]!).threshold) ((l[0]!).many) coins).1) w'_ (a1.on hs_ kk_) (d8.on hs_ kk_) (l8.on hs_ kk_) oM (show _<(KX l[0]! coins).1.length from by omega) (hv.da _ oM) (VT hz2 oM) (by have:=hv.ep i_ oM;have:=hv.ep0;omega) (by have:=hv.ep i_ oM;have:=hv.ep1;omega) oM hl_) oM i8.lt) rfl i8 fun c6 v3 q4 v4 v5 q5=>(?_))))
  obtain ⟨_,rfl,h2⟩:=q5
  have:=h2.len_le
  refine AA (AD (c6) rfl (AG (AC (AF (AB kR (AA (AE (c6) rfl (AA (AD (c6) rfl (AA (AD (vI 0) rfl (AG (AC (AM (AS rfl (EA rfl rfl rfl rfl) (?_))))))))))))))))
  have e:(DJ l coins)=((List.range ((l.length:Int)).toNat).map (fun i_=>KK l (l[0]!) ((BY (List.replicate (((l[0]!).data).length) (0:UInt8)) ((l[0]!).epoch) ((l[0]!).threshold) ((l[0]!).many) coins).1) i_),(0:Int)):=by exact TQ (l:=l) (coins:=coins) (by unfold GH;((repeat ((refine (if_neg ?_).trans ?_;omega)));exact hz2)) rfl
  exact ⟨_,rfl,q4.keep,by rw [e];exact ⟨c6,rfl,h2.out⟩⟩
open Go.Fw
def selB (mask:UInt8) (i:Nat):Bool:=decide (i<8) && (mask >>> UInt8.ofNat i &&& 1 == 1)
def SP (mask:UInt8) (n:Nat):List Nat:=(List.range n).filter (selB mask)
def IQ (l:List Share) (mask:UInt8) (n:Nat):List Share:=(SP mask n).map fun i=>l[i]!
theorem selL_lt {mask:UInt8} {n j:Nat} (h:j<(SP mask n).length):(SP mask n)[j]! < n:=by
  rw [getElem!_pos _ j h]
  have:=List.getElem_mem h
  unfold SP at this
  exact List.mem_range.1 (List.mem_filter.1 this).1
theorem selL_inc {mask:UInt8} {n i j:Nat} (hij:i<j) (h:j<(SP mask n).length):(SP mask n)[i]! < (SP mask n)[j]!:=by
  rw [getElem!_pos _ j h,getElem!_pos _ i (by omega)]
  have:(SP mask n).Pairwise (· < ·):=List.Pairwise.filter _ List.pairwise_lt_range
  exact List.pairwise_iff_getElem.1 this i j _ _ hij
theorem SU (l:List Share) (mask:UInt8) (n:Nat):(IQ l mask n).length=(SP mask n).length:=by simp [IQ]
theorem JF {l:List Share} {mask:UInt8} {n j:Nat} (h:j<(IQ l mask n).length):(IQ l mask n)[j]! = l[(SP mask n)[j]!]!:=by
  rw [SU] at h
  unfold IQ
  rw [getElem!_pos _ j (by simpa using h),getElem!_pos _ j h];simp
structure Num (ep t m:Int) (n:Nat):Prop where
  t1:1≤t
  tm:t≤m
  m8:m≤8
  n64:n≤64
  ep0:0≤ep
  ep1:ep≤1048576
structure On (P:Nat→List UInt8) (ep t m:Int) (n:Nat) (x:List Share):Prop where
  ep:∀ j,j<x.length→x[j]!.epoch=ep
  th:∀ j,j<x.length→x[j]!.threshold=t
  ma:∀ j,j<x.length→x[j]!.many=m
  da:∀ j,j<x.length→x[j]!.data.length=n
  ix:∀ j,j<x.length→1≤x[j]!.index∧x[j]!.index≤m
  inc:∀ i j,i<j→j<x.length→x[i]!.index<x[j]!.index
  val:∀ j,j<x.length→∀ p,p<n→x[j]!.data[p]! = EI (P p) (DL x[j]!.index)
theorem On.good {P:Nat→List UInt8} {ep t m:Int} {n:Nat} {x:List Share} (h:On P ep t m n x) (hn:Num ep t m n) (hx:0<x.length):Good x:=
  ⟨hx,by rw [h.th 0 hx];exact hn.t1,by rw [h.th 0 hx,h.ma 0 hx];exact hn.tm,by rw [h.ma 0 hx];exact hn.m8,by rw [h.da 0 hx];exact hn.n64,
   fun k hk=>by rw [h.th k hk,h.th 0 hx],fun k hk=>by rw [h.ma k hk,h.ma 0 hx],fun k hk=>by rw [h.da k hk,h.da 0 hx],fun k hk=>by rw [h.ma 0 hx];exact h.ix k hk,fun k hk=>h.inc k (k+1) (by omega) hk⟩
theorem On.vd {P:Nat→List UInt8} {ep t m:Int} {n:Nat} {x:List Share} (h:On P ep t m n x) (hn:Num ep t m n) (hx:0<x.length):Vd x:=
  ⟨h.good hn hx,fun k hk=>by rw [h.ep k hk,h.ep 0 hx],by rw [h.ep 0 hx];exact hn.ep0,by rw [h.ep 0 hx];exact hn.ep1⟩
theorem On.some {P:Nat→List UInt8} {ep t m:Int} {n:Nat} {l:List Share} (h:On P ep t m n l) (mask:UInt8):On P ep t m n (IQ l mask l.length):=by
  have hs:∀ j,j<(IQ l mask l.length).length→(SP mask l.length)[j]! < l.length:=fun j hj=>selL_lt (by rw [SU] at hj;exact hj)
  refine ⟨fun j hj=>?_,fun j hj=>?_,fun j hj=>?_,fun j hj=>?_,fun j hj=>?_,fun i j hij hj=>?_,fun j hj=>?_⟩
  · rw [JF hj];exact h.ep _ (hs j hj)
  · rw [JF hj];exact h.th _ (hs j hj)
  · rw [JF hj];exact h.ma _ (hs j hj)
  · rw [JF hj];exact h.da _ (hs j hj)
  · rw [JF hj];exact h.ix _ (hs j hj)
  · rw [JF hj,JF (by omega)];exact h.inc _ _ (selL_inc hij (by rw [SU] at hj;exact hj)) (hs j hj)
  · rw [JF hj];exact h.val _ (hs j hj)
theorem takeLen {α:Type} {l:List α} {n:Nat} (h:n≤l.length):(l.take n).length=n:=by rw [List.length_take];omega
theorem On.join {P:Nat→List UInt8} {ep t m:Int} {n:Nat} {x:List Share} (h:On P ep t m n x) (hn:Num ep t m n) (hx:t≤(x.length:Int)) (hd:∀ p,p<n→∀ i:Nat,t.toNat≤i→(P p)[i]! = 0) :
    DD x=((List.range n).map fun p=>EI (P p) 0,0):=by
  have ht1:=hn.t1
  have hpos:0<x.length:=by omega
  have hv:=h.vd hn hpos
  refine joinM_ok ((FS x).2 hv) (by rw [h.th 0 hpos];exact hx) ?_
  rw [h.th 0 hpos]
  have hl:(x.take t.toNat).length=t.toNat:=takeLen (by omega)
  unfold joinL
  rw [take0 (by omega),h.da 0 hpos]
  apply List.map_congr_left
  intro p hp
  have hp:p<n:=by simpa using hp
  have hm8:=hn.m8;have htm:=hn.tm
  have hxg:∀ i,i<t.toNat→(ME (x.take t.toNat))[i]! = DL x[i]!.index:=fun i hi=>by
    unfold ME;rw [II _ _ _ (by rw [hl];exact hi),takeS hi]
  have hyg:∀ i,i<t.toNat→(FN (x.take t.toNat) p)[i]! = x[i]!.data[p]!:=fun i hi=>by
    unfold FN;rw [II _ _ _ (by rw [hl];exact hi),takeS hi]
  have hnd:(ME (x.take t.toNat)).Nodup:=by
    rw [GN]
    intro i j hij hj he
    rw [IG,hl] at hj
    rw [hxg i (by omega),hxg j hj] at he
    have h1:=h.ix i (by omega);have h2:=h.ix j (by omega)
    have:=u8of_inj (by omega) (by omega) (by omega) (by omega) he
    have:=h.inc i j hij (by omega)
    omega
  have hw:FY (ME (x.take t.toNat)) (FN (x.take t.toNat) p)=false:=(LM _ _).2 ⟨by rw [IG,LV],hnd⟩
  rw [through_ok _ hw]
  refine LL _ _ ((NM hw).2.1.unique hnd (fun i hi=>hd p hp i (by rw [IG,hl] at hi;exact hi)) fun i hi=>?_) 0
  rw [IG,hl] at hi
  rw [hxg i hi,hyg i hi,h.val i (by omega) p hp]
theorem On.few {P:Nat→List UInt8} {ep t m:Int} {n:Nat} {x:List Share} (h:On P ep t m n x) (hn:Num ep t m n) (hpos:0<x.length) (hx:(x.length:Int)<t):DD x=([],80):=
  YJ ((FS x).2 (h.vd hn hpos)) (by rw [h.th 0 hpos];exact hx) rfl
theorem YK {secret:List UInt8} {ep t m:Int} {coins:List UInt8} (h:DM secret ep t m coins=0):Num ep t m secret.length:=by
  have:=(NS _ _ _ _ _).1 h
  exact ⟨by omega,by omega,by omega,by omega,by omega,by omega⟩
def pol (secret coins:List UInt8) (t:Int) (p:Nat):List UInt8:=IP secret coins t p
theorem split_on {secret:List UInt8} {ep t m:Int} {coins:List UInt8} (h:DM secret ep t m coins=0):On (pol secret coins t) ep t m secret.length (LZ secret ep t m coins):=by
  have hn:=YK h
  have hg:∀ j,j<(LZ secret ep t m coins).length→(LZ secret ep t m coins)[j]! = FB secret (WG secret coins t) ep t m j:=fun j hj=>QP (by rw [LY] at hj;exact hj)
  refine ⟨fun j hj=>?_,fun j hj=>?_,fun j hj=>?_,fun j hj=>?_,fun j hj=>?_,fun i j hij hj=>?_,fun j hj p hp=>?_⟩
  · rw [hg j hj];rfl
  · rw [hg j hj];rfl
  · rw [hg j hj];rfl
  · rw [hg j hj,PE]
  · rw [hg j hj];rw [LY] at hj;simp only [FB];omega
  · rw [hg j hj,hg i (by omega)];simp only [FB];omega
  · rw [hg j hj];simp only [FB];rw [II _ _ _ hp,XF hp];rfl
theorem pol_len {secret:List UInt8} {t:Int} {coins:List UInt8} (ht:1≤t) (hc:(coins.length:Int)=(secret.length:Int)*(t - 1)) {p:Nat} (hp:p<secret.length):(pol secret coins t p).length=t.toNat:=by
  have hb:=polyB (m:=coins.length) hp ht hc
  unfold pol IP
  rw [List.length_cons,List.length_drop,List.length_take,Nat.min_eq_left hb,Nat.add_mul]
  omega
theorem pol_high {secret:List UInt8} {ep t m:Int} {coins:List UInt8} (h:DM secret ep t m coins=0):∀ p,p<secret.length→∀ i:Nat,t.toNat≤i→(pol secret coins t p)[i]! = 0:=fun p hp i hi=>by
  have:=(NS _ _ _ _ _).1 h
  exact EH (by rw [pol_len (by omega) this.2.2.2.2.2.2 hp];exact hi)
theorem pol_at0 (secret coins:List UInt8) (t:Int) (p:Nat):EI (pol secret coins t p) 0=secret[p]!:=by
  unfold pol IP;rw [GJ,JH,UInt8.zero_xor]
theorem range_get (l:List UInt8):((List.range l.length).map fun p=>l[p]!)=l:=by
  apply SG (by simp)
  intro i
  by_cases hi:i<l.length
  · rw [II _ _ _ hi]
  · rw [EH (by simp;omega),EH (by omega)]
theorem TY {l:List Share} {secret:List UInt8} {m:Nat} (hg:Good l) (h:1+l.length+m≤100):∀ p,(ON l secret m p).length=p*(l.length+m)
  | 0=>by simp [ON]
  | p+1=>by rw [ON,List.length_append,TY hg h p,List.length_drop,exp_len hg h,Nat.add_mul];omega
def Full (m:Int) (l:List Share):Prop:=l.length=m.toNat∧∀ k,k<l.length→l[k]!.index=(k:Int)+1
theorem split_full (secret:List UInt8) (ep t m:Int) (coins:List UInt8):Full m (LZ secret ep t m coins):=
  ⟨LY _ _ _ _ _,fun k hk=>by rw [QP (by rw [LY] at hk;exact hk)];rfl⟩
open Go.Fw
structure Spl (secret:List UInt8) (ep t m:Int) (l:List Share):Prop where
  num:Num ep t m secret.length
  full:Full m l
  ex:∃ P,On P ep t m secret.length l∧(∀ p,p<secret.length→∀ i:Nat,t.toNat≤i→(P p)[i]! = 0)∧∀ p,p<secret.length→EI (P p) 0=secret[p]!
theorem spl_split {secret:List UInt8} {ep t m:Int} {coins:List UInt8} (h:(BY secret ep t m coins).2=0):Spl secret ep t m (BY secret ep t m coins).1:=by
  have hr:=NU h
  rw [hr.2]
  exact ⟨YK hr.1,split_full _ _ _ _ _,pol secret coins t,split_on hr.1,pol_high hr.1,fun p _=>pol_at0 _ _ _ _⟩
theorem Spl.len {secret:List UInt8} {ep t m:Int} {l:List Share} (h:Spl secret ep t m l):(l.length:Int)=m:=by
  have:=h.num.tm;have:=h.num.t1;rw [h.full.1];omega
theorem Spl.join {secret:List UInt8} {ep t m:Int} {l:List Share} (h:Spl secret ep t m l) (mask:UInt8) (hx:t≤((IQ l mask l.length).length:Int)):DD (IQ l mask l.length)=(secret,0):=by
  obtain ⟨P,h1,h2,h3⟩:=h.ex
  rw [(h1.some mask).join h.num hx h2]
  congr 1
  refine Eq.trans (List.map_congr_left fun p hp=>h3 p (by simpa using hp)) (range_get secret)
theorem Spl.few {secret:List UInt8} {ep t m:Int} {l:List Share} (h:Spl secret ep t m l) (mask:UInt8) (hpos:0<(IQ l mask l.length).length) (hx:((IQ l mask l.length).length:Int)<t):DD (IQ l mask l.length)=([],80):=by
  obtain ⟨P,h1,_⟩:=h.ex
  exact (h1.some mask).few h.num hpos hx
theorem Spl.many {secret:List UInt8} {ep t m:Int} {l:List Share} (h:Spl secret ep t m l) (mask:UInt8) (other:List UInt8) (hpos:0<(IQ l mask l.length).length) (hx:t≤((IQ l mask l.length).length:Int)):BE (IQ l mask l.length) other=([],80):=by
  obtain ⟨P,h1,_⟩:=h.ex
  have h2:=h1.some mask
  exact MU ((FS _).2 (h2.vd h.num hpos)) (by rw [h2.th 0 hpos];exact hx) rfl
theorem Spl.da {secret:List UInt8} {ep t m:Int} {l:List Share} (h:Spl secret ep t m l) {i:Nat} (hi:i<l.length):l[i]!.data.length=secret.length:=by
  obtain ⟨P,h1,_⟩:=h.ex
  exact h1.da i hi
open Go.Fw
theorem Spl.epoch {secret:List UInt8} {ep t m:Int} {l:List Share} (h:Spl secret ep t m l) (mask:UInt8) {j:Nat} (hj:j<(IQ l mask l.length).length) :
    (IQ l mask l.length)[j]!.epoch=ep∧(IQ l mask l.length)[j]!.threshold=t∧(IQ l mask l.length)[j]!.many=m:=by
  obtain ⟨P,h1,_⟩:=h.ex
  have:=h1.some mask
  exact ⟨this.ep j hj,this.th j hj,this.ma j hj⟩
open Go.Fw
section
variable {c:Circle}
end
section
variable {c:Circle} {day no g:Int}
end
open Go.Fw
section
variable {c:Circle} {no day:Int}
end
section
variable {l:List Int} {t w a day:Int} {k:Nat}
end
section
variable {l:List Int} {t w a day:Int} {k:Nat}
end
open Go.Fw
theorem TG (p:Nat→Bool):∀ (m i:Nat),(EX (fun k=>if p k then some (k:Int) else none) (-1) i m = -1∧∀ k,i≤k→k<i+m→p k=false)∨∃ k,i≤k∧k<i+m∧p k=true∧EX (fun k=>if p k then some (k:Int) else none) (-1) i m=(k:Int)∧∀ q,i≤q→q<k→p q=false
  | 0,i=>.inl ⟨rfl,fun k h1 h2=>by omega⟩
  | m+1,i=>by
    cases h:p i with
    | true=>exact .inr ⟨i,Nat.le_refl _,by omega,h,by simp [EX,h],fun q h1 h2=>by omega⟩
    | false=>
      have e:EX (fun k=>if p k then some (k:Int) else none) (-1) i (m+1)=EX (fun k=>if p k then some (k:Int) else none) (-1) (i+1) m:=by simp [EX,h]
      rw [e]
      rcases TG p m (i+1) with ⟨h1,h2⟩|⟨k,h1,h2,h3,h4,h5⟩
      · refine .inl ⟨h1,fun k hk hk2=>?_⟩
        by_cases e:k=i
        · rw [e];exact h
        · exact h2 k (by omega) (by omega)
      · refine .inr ⟨k,by omega,by omega,h3,h4,fun q hq hq2=>?_⟩
        by_cases e:q=i
        · rw [e];exact h
        · exact h5 q (by omega) hq2
def FV (l:List Share) (f:Share→Bool):Int:=EX (fun k=>if f l[k]! then some (k:Int) else none) (-1) 0 (l.length - 0)
theorem idxS_any (l:List Share) (f:Share→Bool):decide ((0:Int)≤FV l f)=l.any f:=by
  unfold FV
  rcases TG (fun k=>f l[k]!) (l.length - 0) 0 with ⟨h1,h2⟩|⟨k,h1,h2,h3,h4,_⟩
  · rw [h1]
    have:l.any f=false:=by
      rw [List.any_eq_false];intro x hx
      obtain ⟨i,hi,rfl⟩:=List.getElem_of_mem hx
      have:=h2 i (by omega) (by omega)
      rw [getElem!_pos l i hi] at this;simp [this]
    rw [this];rfl
  · rw [h4]
    have:l.any f=true:=List.any_eq_true.2 ⟨l[k]!,by rw [getElem!_pos l k (by omega)];exact List.getElem_mem _,h3⟩
    rw [this];simp
def HW (c:Circle) (s:Share):Bool:=(s.epoch != c.epoch || s.threshold != c.threshold) || (s.many != (c.guardians.length:Int))
def CM (c:Circle) (l:List Share):Int:=if BO l != 0 then BO l else if l.any (HW c) then 460 else 0
def DN (c:Circle) (secret coins:List UInt8):List Share × Int:=if AQ c != 0 then ([],AQ c) else BY secret c.epoch c.threshold (c.guardians.length:Int) coins
def BG (c:Circle) (l:List Share) (coins:List UInt8):Circle × List Share × Int:=
  if AQ c != 0 then (EU,[],AQ c) else if CM c l != 0 then (EU,[],CM c l) else if (DJ l coins).2 != 0 then (EU,[],(DJ l coins).2)
  else (⟨c.epoch+1,c.threshold,c.wait,c.guardians,c.recs⟩,(DJ l coins).1,0)
def TJ (c:Circle) (others:List Int) (t:Int):Circle:=⟨c.epoch+1,t,c.wait,others,c.recs⟩
def AV (c:Circle) (l:List Share) (others:List Int) (t:Int) (coins:List UInt8):Circle × List Share × Int:=
  if AQ c != 0 then (EU,[],AQ c) else if CM c l != 0 then (EU,[],CM c l) else if (DD l).2 != 0 then (EU,[],(DD l).2)
  else if (DN (TJ c others t) (DD l).1 coins).2 != 0 then (EU,[],(DN (TJ c others t) (DD l).1 coins).2)
  else (TJ c others t,(DN (TJ c others t) (DD l).1 coins).1,0)
def CK (c:Circle) (no:Int) (l:List Share):List UInt8 × Int:=
  if AQ c != 0 then ([],AQ c) else if decide (no<0) || decide ((c.recs.length:Int)≤no) then ([],1)
  else if c.recs[no.toNat]!.state == 2 then ([],452) else if c.recs[no.toNat]!.state == 0 then ([],460) else if CM c l != 0 then ([],CM c l) else DD l
theorem circ_ep {c:Circle} (h:AQ c=0):0≤c.epoch∧c.epoch≤1048576∧1≤(c.guardians.length:Int)∧(c.guardians.length:Int)≤8∧1≤c.threshold∧c.threshold≤(c.guardians.length:Int):=by
  have hh:=((QF c).1 h).1
  unfold ET at hh
  simp only [Bool.or_eq_false_iff,decide_eq_false_iff_not] at hh
  omega
section
variable {c:Circle} {l:List Share} {secret coins:List UInt8} {others:List Int} {t no:Int}
theorem deal_1 (h:AQ c≠0):DN c secret coins=([],AQ c):=if_pos (by simpa using h)
theorem deal_2 (h:AQ c=0):DN c secret coins=BY secret c.epoch c.threshold (c.guardians.length:Int) coins:=if_neg (by simpa using h)
theorem belong_1 (h:BO l≠0):CM c l=BO l:=if_pos (by simpa using h)
theorem belong_2 (h:BO l=0) (h2:l.any (HW c)=true):CM c l=460:=by unfold CM;rw [if_neg (by simpa using h),if_pos h2]
theorem belong_3 (h:BO l=0) (h2:l.any (HW c)=false):CM c l=0:=by unfold CM;rw [if_neg (by simpa using h),if_neg (by rw [h2];simp)]
theorem renew_1 (h:AQ c≠0):BG c l coins=(EU,[],AQ c):=if_pos (by simpa using h)
theorem renew_2 (h:AQ c=0) (h2:CM c l≠0):BG c l coins=(EU,[],CM c l):=by unfold BG;rw [if_neg (by simpa using h),if_pos (by simpa using h2)]
theorem renew_3 (h:AQ c=0) (h2:CM c l=0) (h3:(DJ l coins).2≠0):BG c l coins=(EU,[],(DJ l coins).2):=by unfold BG;rw [if_neg (by simpa using h),if_neg (by simpa using h2),if_pos (by simpa using h3)]
theorem renew_4 (h:AQ c=0) (h2:CM c l=0) (h3:(DJ l coins).2=0):BG c l coins=(⟨c.epoch+1,c.threshold,c.wait,c.guardians,c.recs⟩,(DJ l coins).1,0):=by unfold BG;rw [if_neg (by simpa using h),if_neg (by simpa using h2),if_neg (by simpa using h3)]
theorem SY (h:AQ c≠0):AV c l others t coins=(EU,[],AQ c):=if_pos (by simpa using h)
theorem ST (h:AQ c=0) (h2:CM c l≠0):AV c l others t coins=(EU,[],CM c l):=by unfold AV;rw [if_neg (by simpa using h),if_pos (by simpa using h2)]
theorem SM (h:AQ c=0) (h2:CM c l=0) (h3:(DD l).2≠0):AV c l others t coins=(EU,[],(DD l).2):=by unfold AV;rw [if_neg (by simpa using h),if_neg (by simpa using h2),if_pos (by simpa using h3)]
theorem LI (h:AQ c=0) (h2:CM c l=0) (h3:(DD l).2=0) (h4:(DN ⟨c.epoch+1,t,c.wait,others,c.recs⟩ (DD l).1 coins).2≠0):AV c l others t coins=(EU,[],(DN ⟨c.epoch+1,t,c.wait,others,c.recs⟩ (DD l).1 coins).2):=by
  unfold AV TJ;rw [if_neg (by simpa using h),if_neg (by simpa using h2),if_neg (by simpa using h3),if_pos (by simpa using h4)]
theorem LN (h:AQ c=0) (h2:CM c l=0) (h3:(DD l).2=0) (h4:(DN ⟨c.epoch+1,t,c.wait,others,c.recs⟩ (DD l).1 coins).2=0):AV c l others t coins=(⟨c.epoch+1,t,c.wait,others,c.recs⟩,(DN ⟨c.epoch+1,t,c.wait,others,c.recs⟩ (DD l).1 coins).1,0):=by
  unfold AV TJ;rw [if_neg (by simpa using h),if_neg (by simpa using h2),if_neg (by simpa using h3),if_neg (by simpa using h4)]
theorem rest_1 (h:AQ c≠0):CK c no l=([],AQ c):=if_pos (by simpa using h)
theorem rest_2 (h:AQ c=0) (h2:no<0∨(c.recs.length:Int)≤no):CK c no l=([],1):=by unfold CK;rw [if_neg (by simpa using h),if_pos (by simp only [dbs];exact h2)]
section
variable (h:AQ c=0) (h0:0≤no) (h1:no<(c.recs.length:Int))
include h h0 h1
theorem rest_3 (h2:c.recs[no.toNat]!.state=2):CK c no l=([],452):=by unfold CK;rw [if_neg (by simpa using h),if_neg (by simp only [dbs];omega),if_pos (by simpa using h2)]
theorem rest_4 (h3:c.recs[no.toNat]!.state=0):CK c no l=([],460):=by unfold CK;rw [if_neg (by simpa using h),if_neg (by simp only [dbs];omega),if_neg (by rw [h3];decide),if_pos (by simpa using h3)]
theorem rest_5 (h2:c.recs[no.toNat]!.state≠2) (h3:c.recs[no.toNat]!.state≠0) (h4:CM c l≠0):CK c no l=([],CM c l):=by unfold CK;rw [if_neg (by simpa using h),if_neg (by simp only [dbs];omega),if_neg (by simpa using h2),if_neg (by simpa using h3),if_pos (by simpa using h4)]
theorem rest_6 (h2:c.recs[no.toNat]!.state≠2) (h3:c.recs[no.toNat]!.state≠0) (h4:CM c l=0):CK c no l=DD l:=by unfold CK;rw [if_neg (by simpa using h),if_neg (by simp only [dbs];omega),if_neg (by simpa using h2),if_neg (by simpa using h3),if_neg (by simpa using h4)]
end
end
def xorM (a b:List UInt8):List UInt8:=XI a.length fun k=>a[k]! ^^^ b[k]!
def atS (l:List Share) (i:Int):Share:=l[(FV l fun o=>o.index == i).toNat]!
def mixS (s:List Share) (x:Share):Share:=⟨x.epoch,x.index,x.threshold,x.many,xorM x.data (atS s x.index).data⟩
def FX (b s:List Share) (k:Nat):List Share:=(b.take k).map (mixS s)
abbrev JY (f g:Share):Bool:=((f.threshold != g.threshold || f.many != g.many) || (f.data.length:Int) != (g.data.length:Int)) || (g.epoch != f.epoch+1)
abbrev CQ (a:List Share) (secret:List UInt8):List Share:=(BY secret a[0]!.epoch a[0]!.threshold a[0]!.many (BE a secret).1).1
abbrev mixQ (a b:List Share) (secret:List UInt8):List UInt8 × Int:=BE (FX b (CQ a secret) b.length) (List.replicate secret.length 0)
def BU (a b:List Share) (secret:List UInt8):List UInt8 × Int:=
  if BO a != 0 then ([],BO a) else if BO b != 0 then ([],BO b) else if JY a[0]! b[0]! then ([],460)
  else if (BE a secret).2 != 0 then ([],(BE a secret).2)
  else if (mixQ a b secret).2 != 0 then ([],(mixQ a b secret).2) else ((BE a secret).1++(mixQ a b secret).1,0)
open Go.Fw Go.RowKit
set_option maxHeartbeats 4000000 in
set_option maxRecDepth 100000 in
theorem c_idxS {O:List Nat} (l_v:Value) (l:List Share) (f_v:Nat) (f_caps:List Value) (f:Share→Bool) (w:World) (a0:BB Enc.share w O l_v l) (a8:∀ (vs_:Array Value) (w:World),(callFunc f_v vs_).run Try.prog w = .ok (.enter f_v vs_) w) (b2:∀ (w':World) (O':List Nat),Keep [] w w'→(∀ b∈O',b∈O∨w.heap.size≤b)→(∀ b∈O',b<w'.heap.size)→∀ (x_cs:List Value) (x:Share),Enc.share.rd w' O' x_cs x→CE Try.prog f_v ([.agg x_cs.toArray]++f_caps) w' (fun v w2=>v = .bool (f x))) (hO:∀ b∈O,b<w.heap.size):CE Try.prog 96 [l_v, .func (.func f_v) #[] f_caps.toArray] w (fun v _=>v=vI (FV l f)):= by
 have b8:=a0.len_le
 have a0:BB Enc.share w ([]++O) l_v l:=a0
 have s0:St w O w []:=St.start hO
 refine BI 19 Try.func96 rfl rfl oT (fun F0=>AF (AB kR (AA (AD (vI 0) rfl (AG (AC (AF (AF (AB kR (AA (AE (l_v) rfl (AA (CA U32_ rfl a0 (AA (AE (vI 0) rfl (AG (AC (BA (CX (fun mI FI wI=>∃ (k:Nat) (B:List Nat),k≤l.length∧FV l f=EX (fun k=>if f l[k]! then some (k:Int) else none) (-1) k (l.length - k)∧mI=l.length - k∧(∃ F1,FI=FR F1 [(0,l_v),(1,vN (.func f_v) #[] f_caps.toArray),(7,vI (l.length:Int)),(8,vI ((k:Nat):Int)),(19,undef)])∧St w O wI B∧BB Enc.share wI (B++O) (l_v) (l)) (l.length - (0)) ?_ ?_)))))))))))))))))))
 ·exact ⟨(0),[],oM,rfl,rfl,⟨_,AP _ ⟨rfl,rfl,rfl,(by rfl),rfl,trivial⟩⟩,s0,a0⟩
 intro c3 F b3 hI
 clear a0
 obtain ⟨k,b1,hr0_0,hr0_1,c4,⟨c5,rfl⟩,a3,a0⟩:=hI
 refine AF (AB kR (AA (DO .i64 ((k:Nat):Int) (l.length:Int) rfl rfl (AG (AC (AF (AJ (decide (((k:Nat):Int)<(l.length:Int))) rfl rfl (fun a1=>?_) (fun a1=>?_))))))))
 ·have b4:((k:Nat):Int)<(l.length:Int):=by simpa using a1
  refine AO (AC (AF (BA (AF (AB kR (AA (AE (vI ((k:Nat):Int)) rfl (AA (AD (vI ((k:Nat):Int)) rfl (AG (AC (AF (AB kR (AA (AE (vN (.func f_v) #[] f_caps.toArray) rfl (AA (AE (l_v) rfl (AA (AE (vI ((k:Nat):Int)) rfl (AA (CP U32_ CZ .i64 ((k:Nat):Int) k rfl rfl rfl a0 oM fun b9 a6=>(AA (DF U70_ rfl CZ rfl a6 fun a4 a7=>(AA (RK [] f_caps [vA a4.toArray] a8 rfl (b2 b3 (b1++O) a3.keep (fun b hb=>(List.mem_append.1 hb).elim (fun h=>.inr (a3.new b h).1) .inl) a3.lt a4 (l[k]!) a7) rfl rfl a3 fun c0 c1 a5 a9 c2 b0=>(?_))))))))))))))))))))))))))
  obtain rfl:=b0
  have a0:=a0.mv a9
  refine AG (AC (AJ (f (l[k]!)) rfl rfl (fun a2=>?_) (fun a2=>?_)))
  ·have b5:(f (l[k]!))=true:=by simpa using a2
   refine AF (AB kR (AA (AE (vI ((k:Nat):Int)) rfl (AA (AD (vI ((k:Nat):Int)) rfl (AG (AC (AM (BK (AK (AK (BK (AK (AS rfl (CN rfl rfl rfl) (?_)))))))))))))))
   have e:(FV l f)=((k:Nat):Int):=by (rw [hr0_1];exact DB oM (by ((repeat ((refine (if_pos ?_).trans ?_;omega)));rfl)))
   exact ⟨_,rfl,a5.keep,by rw [e];exact rfl⟩
  have b6:(f (l[k]!))=false:=by simpa using a2
  refine AO (BZ (AC (AB kR (AA (DC .i64 ((k:Nat):Int) (1:Int) (((k+1:Nat):Int)) rfl rfl (FQ oM oM) (AA (AE (vI ((k+1:Nat):Int)) rfl (AG (AC (?_))))))))))
  exact ⟨_,oM,(k+1),b1,oM,(hr0_1.trans (FF oM (by ((repeat ((refine (if_neg ?_).trans ?_;solve|(simp only [dbs];(repeat (omega))))));rfl)))),rfl,⟨_,AP _ ⟨rfl,rfl,rfl,(by rfl),rfl,trivial⟩⟩,a5,a0⟩
 have b7:(l.length:Int)≤((k:Nat):Int):=by simpa using a1
 refine CV (BL (BL (CL (AC (AF (AB kR (AA (AD (vI (-1:Int)) rfl (AG (AC (AM (AS rfl (CN rfl rfl rfl) (?_)))))))))))))
 have e:(FV l f)=(-1:Int):=by (rw [hr0_1];exact GR oM)
 exact ⟨_,rfl,a3.keep,by rw [e];exact rfl⟩
set_option maxHeartbeats 4000000 in
set_option maxRecDepth 100000 in
theorem c_containsS {O:List Nat} (l_v:Value) (l:List Share) (f_v:Nat) (f_caps:List Value) (f:Share→Bool) (w:World) (a0:BB Enc.share w O l_v l) (a1:∀ (vs_:Array Value) (w:World),(callFunc f_v vs_).run Try.prog w = .ok (.enter f_v vs_) w) (a4:∀ (w':World) (O':List Nat),Keep [] w w'→(∀ b∈O',b∈O∨w.heap.size≤b)→(∀ b∈O',b<w'.heap.size)→∀ (x_cs:List Value) (x:Share),Enc.share.rd w' O' x_cs x→CE Try.prog f_v ([.agg x_cs.toArray]++f_caps) w' (fun v w2=>v = .bool (f x))) (hO:∀ b∈O,b<w.heap.size):CE Try.prog 87 [l_v, .func (.func f_v) #[] f_caps.toArray] w (fun v _=>v = .bool (l.any f)):= by
 have a5:=a0.len_le
 have a0:BB Enc.share w ([]++O) l_v l:=a0
 have s0:St w O w []:=St.start hO
 refine BI 9 Try.func87 rfl rfl oT (fun F0=>AF (AB kR (AA (AD (vO false) rfl (AG (AC (AF (AB kR (AA (AE (l_v) rfl (AA (AE (vN (.func f_v) #[] f_caps.toArray) rfl (AA (AZ (vs:=[l_v,vN (.func f_v) #[] f_caps.toArray]) enter_96 (c_idxS (O:=[]++O) l_v l f_v f_caps f w a0 a1 (fun w'_ O'_ kk_ hs_ hl_=>a4 w'_ O'_ (s0.keep.trans kk_) (fun b hb=>(hs_ b hb).elim (fun h=>(List.mem_append.1 h).elim (fun h=>.inr (s0.new b h).1) .inl) (fun h=>.inr (Nat.le_trans s0.keep.size h))) hl_) s0.lt) rfl s0 fun a6 a7 a2 a8 a9 a3=>(?_)))))))))))))))
 obtain rfl:=a3
 refine AA (KR .i64 (FV l f) (0:Int) rfl rfl (AA (AD (vO (decide ((0:Int)≤FV l f))) rfl (AG (AC (AM (AS rfl (CN rfl rfl rfl) (?_))))))))
 have e:(l.any f)=(decide ((0:Int)≤FV l f)):=by exact (idxS_any _ _).symm
 exact ⟨_,rfl,a2.keep,(by exact congrArg vO e.symm)⟩
set_option maxHeartbeats 4000000 in
set_option maxRecDepth 100000 in
theorem c_belong1 {O:List Nat} (x_cs:List Value) (x:Share) (c_a:Addr) (c:Circle) (w:World) (a6:Enc.share.rd w O x_cs x) (a0:PT Enc.circle w O (.pointer (some c_a)) c) (hO:∀ b∈O,b<w.heap.size):CE Try.prog 86 [.agg x_cs.toArray, .pointer (some c_a)] w (fun v _=>v = .bool (HW c x)):= by
 have a6:Enc.share.rd w ([]++O) x_cs x:=a6
 have a0:PT Enc.circle w ([]++O) (.pointer (some c_a)) c:=a0
 have s0:St w O w []:=St.start hO
 refine BI 24 Try.func86 rfl rfl oT (fun F0=>AF (AB kR (AA (ER (E:=Enc.share) (vA x_cs.toArray) (x_cs) x rfl rfl a6 s0 fun b8 b9 a2 b3 c0 a1=>(?_)))))
 have a0:=a0.mv b3
 refine AA (AD (vO false) rfl (AG (AC (AF (AB kR (AA (BH 0 HD (x.epoch) rfl a1 (fun _ _ _ h=>FM h) fun c1 a7=>(AA (CC U3_ rfl rfl a7 (AA (BH 0 MR (c.epoch) rfl a0 (fun _ _ _ h=>KO h) fun c2 a8=>(AA (CC U3_ rfl rfl a8 (AA (CT .i64 x.epoch c.epoch rfl rfl (AA (AE (vO (x.epoch != c.epoch)) rfl (?_))))))))))))))))))
 cases a3:(x.epoch != c.epoch)
 ·have b4:x.epoch=c.epoch:=by simpa using a3
  refine BJ rfl (BH 2 HK (x.threshold) rfl a1 (fun _ _ _ h=>HM h) fun c3 a9=>(BJ rfl (CC U3_ rfl rfl a9 (BJ rfl (BH 1 OQ (c.threshold) rfl a0 (fun _ _ _ h=>IT h) fun c4 b0=>(BJ rfl (CC U3_ rfl rfl b0 (BJ rfl (CT .i64 x.threshold c.threshold rfl rfl (AA (BX (vO (x.threshold != c.threshold)) rfl rfl (AA (AE (vO (x.threshold != c.threshold)) rfl (?_))))))))))))))
  cases a4:(x.threshold != c.threshold)
  ·have b5:x.threshold=c.threshold:=by simpa using a4
   refine BJ rfl (BH 3 HF (x.many) rfl a1 (fun _ _ _ h=>LF h) fun c5 b1=>(BJ rfl (CC U3_ rfl rfl b1 (BJ rfl (BH 3 PK (c.guardians) rfl a0 (fun _ _ _ h=>HS h) fun c6 b2=>(BJ rfl (CF U22_ rfl rfl b2 fun c7 a5=>(?_))))))))
   have:=a5.len_le
   refine BJ rfl (CA U22_ rfl a5 (BJ rfl (CT .i64 x.many (c.guardians.length:Int) rfl rfl (AA (BX (vO (x.many != (c.guardians.length:Int))) rfl rfl (AA (AD (vO (x.many != (c.guardians.length:Int))) rfl (AG (AC (AM (AS rfl (CN rfl rfl rfl) (?_))))))))))))
   have e:(HW c x)=(x.many != (c.guardians.length:Int)):=by simp [HW, *]
   exact ⟨_,rfl,a2.keep,(by exact congrArg vO e.symm)⟩
  have b6:x.threshold≠c.threshold:=by simpa using a4
  refine AT rfl (AT rfl (AT rfl (AT rfl (AT rfl (AT rfl (AA (AX (vO true) rfl rfl (AA (AD (vO true) rfl (AG (AC (AM (AS rfl (CN rfl rfl rfl) (?_))))))))))))))
  have e:(HW c x)=true:=by simp [HW, *]
  exact ⟨_,rfl,a2.keep,(by exact congrArg vO e.symm)⟩
 have b7:x.epoch≠c.epoch:=by simpa using a3
 refine AT rfl (AT rfl (AT rfl (AT rfl (AT rfl (AA (AX (vO true) rfl rfl (AA (AE (vO true) rfl (AT rfl (AT rfl (AT rfl (AT rfl (AT rfl (AT rfl (AA (AX (vO true) rfl rfl (AA (AD (vO true) rfl (AG (AC (AM (AS rfl (CN rfl rfl rfl) (?_)))))))))))))))))))))))
 have e:(HW c x)=true:=by simp [HW, *]
 exact ⟨_,rfl,a2.keep,(by exact congrArg vO e.symm)⟩
set_option maxHeartbeats 4000000 in
set_option maxRecDepth 100000 in
theorem PZ {O:List Nat} (c_cs:List Value) (c:Circle) (w:World) (a2:Enc.circle.rd w O c_cs c) (hO:∀ b∈O,b<w.heap.size):CE Try.prog 33 [.agg c_cs.toArray] w (fun v _=>v=vI (AQ c)):= by
 have a2:Enc.circle.rd w ([]++O) c_cs c:=a2
 have s0:St w O w []:=St.start hO
 refine BI 5 Try.func33 rfl rfl oT (fun F0=>AF (AB kR (AA (ER (E:=Enc.circle) (vA c_cs.toArray) (c_cs) c rfl rfl a2 s0 fun a8 a5 a1 a9 b0 a3=>(AA (AD (vI 0) rfl (AG (AC (AF (AB kR (AA (DF U28_ rfl BR rfl a3 fun a0 a4=>(AA (AZ (vs:=[vA a0.toArray]) NC (PO (O:=[]++O) a0 c a5 a4 a1.lt) rfl a1 fun b1 b2 a6 b3 b4 a7=>(?_)))))))))))))))
 obtain rfl:=a7
 refine AA (AD (vI (AQ c)) rfl (AG (AC (AM (AS rfl (CN rfl rfl rfl) (?_))))))
 exact ⟨_,rfl,a6.keep,rfl⟩
set_option maxHeartbeats 4000000 in
set_option maxRecDepth 100000 in
theorem UZ {O:List Nat} (c_cs:List Value) (c:Circle) (l_v:Value) (l:List Share) (w:World) (a9:Enc.circle.rd w O c_cs c) (a1:BB Enc.share w O l_v l) (hO:∀ b∈O,b<w.heap.size):CE Try.prog 39 [.agg c_cs.toArray,l_v] w (fun v _=>v=vI (CM c l)):= by
 have a9:Enc.circle.rd w ([]++O) c_cs c:=a9
 have b9:=a1.len_le
 have a1:BB Enc.share w ([]++O) l_v l:=a1
 have s0:St w O w []:=St.start hO
 refine BI 16 Try.func39 rfl rfl oT (fun F0=>AF (AB kR (AA (ER (E:=Enc.circle) (vA c_cs.toArray) (c_cs) c rfl rfl a9 s0 fun a0 b0 a6 b1 c0 a2=>(?_)))))
 have a1:=a1.mv b1
 refine AA (AD (vI 0) rfl (AG (AC (AF (AF (AB kR (AA (AE (l_v) rfl (AA (AZ (vs:=[l_v]) NI (MX (O:=[]++O) l_v l b0 a1 a6.lt) rfl a6 fun c1 b2 a5 a7 c2 b3=>(?_)))))))))))
 obtain rfl:=b3
 have a1:=a1.mv a7
 have a2:=a2.mv a7
 refine AA (AD (vI (BO l)) rfl (AG (AC (AF (AB kR (AA (AE (vI (BO l)) rfl (AA (CT .i64 (BO l) (0:Int) rfl rfl (AG (AC (AJ ((BO l) != (0:Int)) rfl rfl (fun a3=>?_) (fun a3=>?_)))))))))))))
 ·have b5:BO l≠(0:Int):=by simpa using a3
  refine AF (AB kR (AA (AE (vI (BO l)) rfl (AA (AD (vI (BO l)) rfl (AG (AC (AM (AK (AS rfl (CN rfl rfl rfl) (?_)))))))))))
  have e:(CM c l)=(BO l):=by exact belong_1 aS
  exact ⟨_,rfl,a5.keep,by rw [e];exact rfl⟩
 have b6:BO l=(0:Int):=by simpa using a3
 refine AO (AC (AF (AB kR (AA (DP (first:=[]) (captured:=[.tmp 2]) [] [vP (some a0)] rfl rfl (AA (AD (vN (.func 86) #[] #[vP (some a0)]) rfl (AG (AC (AF (AF (AB kR (AA (AE (l_v) rfl (AA (AE (vN (.func 86) #[] #[vP (some a0)]) rfl (AA (AZ (vs:=[l_v,vN (.func 86) #[] #[vP (some a0)]]) enter_87 (c_containsS (O:=[]++O) l_v l 86 [vP (some a0)] (fun x_=>HW c x_) b2 a1 enter_86 (fun w'_ O'_ kk_ hs_ hl_ x__cs x_ hr_x_ =>c_belong1 (O:=O'_) x__cs x_ a0 c w'_ hr_x_ (a2.on hs_ kk_) hl_) a5.lt) rfl a5 fun c3 c4 a8 c5 c6 b4=>(?_)))))))))))))))))))
 obtain rfl:=b4
 refine AG (AC (AJ (l.any (fun x_=>HW c x_)) rfl rfl (fun a4=>?_) (fun a4=>?_)))
 ·have b7:(l.any (fun x_=>HW c x_))=true:=by simpa using a4
  refine AF (AB kR (AA (AD (vI 460) rfl (AG (AC (AM (AK (AS rfl (CN rfl rfl rfl) (?_)))))))))
  have e:(CM c l)=(460:Int):=by exact belong_2 aS aS
  exact ⟨_,rfl,a8.keep,by rw [e];exact rfl⟩
 have b8:(l.any (fun x_=>HW c x_))=false:=by simpa using a4
 refine AO (AC (AF (AB kR (AA (AD (vI 0) rfl (AG (AC (AM (AS rfl (CN rfl rfl rfl) (?_))))))))))
 have e:(CM c l)=(0:Int):=by exact belong_3 aS aS
 exact ⟨_,rfl,a8.keep,by rw [e];exact rfl⟩
set_option maxHeartbeats 4000000 in
set_option maxRecDepth 100000 in
theorem c_deal {O:List Nat} (c_cs:List Value) (c:Circle) (secret_v:Value) (secret:List UInt8) (coins_v:Value) (coins:List UInt8) (w:World) (b2:Enc.circle.rd w O c_cs c) (a0:BB Enc.u8 w O secret_v secret) (a1:BB Enc.u8 w O coins_v coins) (hO:∀ b∈O,b<w.heap.size):CE Try.prog 11 [.agg c_cs.toArray,secret_v,coins_v] w (fun v w'=>∃ (x0:Value),v = .tuple #[x0,vI ((DN c secret coins).2)]∧BB Enc.share w' (O) x0 ((DN c secret coins).1)):= by
 have b2:Enc.circle.rd w ([]++O) c_cs c:=b2
 have b7:=a0.len_le
 have a0:BB Enc.u8 w ([]++O) secret_v secret:=a0
 have c7:=a1.len_le
 have a1:BB Enc.u8 w ([]++O) coins_v coins:=a1
 have s0:St w O w []:=St.start hO
 refine BI 26 Try.func11 rfl rfl oT (fun F0=>AF (AB kR (AA (ER (E:=Enc.circle) (vA c_cs.toArray) (c_cs) c rfl rfl b2 s0 fun d0 b8 b0 b1 d1 a2=>(?_)))))
 have a0:=a0.mv b1
 have a1:=a1.mv b1
 refine AA (AD (nS) rfl (AA (AD (vI 0) rfl (AG (AC (AF (AF (AB kR (AA (DF U28_ rfl BR rfl a2 fun a7 b3=>(AA (AZ (vs:=[vA a7.toArray]) SC (PZ (O:=[]++O) a7 c b8 b3 b0.lt) rfl b0 fun d2 b9 a4 a5 d3 c0=>(?_)))))))))))))
 obtain rfl:=c0
 have a0:=a0.mv a5
 have a1:=a1.mv a5
 have a2:=a2.mv a5
 refine AA (AD (vI (AQ c)) rfl (AG (AC (AF (AB kR (AA (AE (vI (AQ c)) rfl (AA (CT .i64 (AQ c) (0:Int) rfl rfl (AG (AC (AJ ((AQ c) != (0:Int)) rfl rfl (fun a3=>?_) (fun a3=>?_)))))))))))))
 ·have c8:AQ c≠(0:Int):=by simpa using a3
  refine AF (AB kR (AA (AE (vI (AQ c)) rfl (AA (AD (nS) rfl (AA (AD (vI (AQ c)) rfl (AG (AC (AM (AK (AS rfl (EA rfl rfl rfl rfl) (?_)))))))))))))
  have c1:((DN c secret coins).1)=([]):=by exact congrArg (fun p=>p.1) (show DN c secret coins=_ from deal_1 aS)
  have c2:((DN c secret coins).2)=(AQ c):=by exact congrArg (fun p=>p.2) (show DN c secret coins=_ from deal_1 aS)
  exact ⟨_,rfl,a4.keep,by rw [c1,c2];exact ⟨.slice none 0 0,rfl,BB.nil _ _ _⟩⟩
 have c9:AQ c=(0:Int):=by simpa using a3
 refine AO (AC (AF (AB kR (AA (AE (secret_v) rfl (AA (BH 0 MR (c.epoch) rfl a2 (fun _ _ _ h=>KO h) fun d4 b4=>(AA (CC U3_ rfl rfl b4 (AA (BH 1 OQ (c.threshold) rfl a2 (fun _ _ _ h=>IT h) fun d5 b5=>(AA (CC U3_ rfl rfl b5 (AA (BH 3 PK (c.guardians) rfl a2 (fun _ _ _ h=>HS h) fun d6 b6=>(AA (CF U22_ rfl rfl b6 fun d7 a8=>(?_))))))))))))))))))
 have:=a8.len_le
 refine AA (CA U22_ rfl a8 (AA (AE (coins_v) rfl (AA (AZ (vs:=[secret_v,vI c.epoch,vI c.threshold,vI (c.guardians.length:Int),coins_v]) VB (c_split (O:=[]++O) secret_v secret c.epoch c.threshold (c.guardians.length:Int) coins_v coins b9 a0 a1 a4.lt) rfl a4 fun d8 d9 c3 e0 e1 c4=>(?_))))))
 obtain ⟨a6,rfl,a9⟩:=c4
 have:=a9.len_le
 refine AA (AN (a6) rfl rfl (AA (AN (vI ((BY secret c.epoch c.threshold (c.guardians.length:Int) coins).2)) rfl rfl (AA (AD (a6) rfl (AA (AD (vI ((BY secret c.epoch c.threshold (c.guardians.length:Int) coins).2)) rfl (AG (AC (AM (AS rfl (EA rfl rfl rfl rfl) (?_))))))))))))
 have c5:((DN c secret coins).1)=((BY secret c.epoch c.threshold (c.guardians.length:Int) coins).1):=by exact congrArg (fun p=>p.1) (show DN c secret coins=_ from deal_2 aS)
 have c6:((DN c secret coins).2)=((BY secret c.epoch c.threshold (c.guardians.length:Int) coins).2):=by exact congrArg (fun p=>p.2) (show DN c secret coins=_ from deal_2 aS)
 exact ⟨_,rfl,c3.keep,by rw [c5,c6];exact ⟨a6,rfl,a9.out⟩⟩
open Go.Fw Go.RowKit
set_option maxHeartbeats 4000000 in
set_option maxRecDepth 100000 in
theorem c_renew {O:List Nat} (c_cs:List Value) (c:Circle) (l_v:Value) (l:List Share) (coins_v:Value) (coins:List UInt8) (w:World) (c9:Enc.circle.rd w O c_cs c) (a6:BB Enc.share w O l_v l) (a0:BB Enc.u8 w O coins_v coins) (hO:∀ b∈O,b<w.heap.size):CE Try.prog 24 [.agg c_cs.toArray,l_v,coins_v] w (fun v w'=>∃ (x0:List Value) (x1:Value),v = .tuple #[.agg x0.toArray,x1,vI ((BG c l coins).2.2)]∧Enc.circle.rd w' (O) x0 ((BG c l coins).1)∧BB Enc.share w' (O) x1 ((BG c l coins).2.1)):= by
 have c9:Enc.circle.rd w ([]++O) c_cs c:=c9
 have h5:=a6.len_le
 have a6:BB Enc.share w ([]++O) l_v l:=a6
 have g8:=a0.len_le
 have a0:BB Enc.u8 w ([]++O) coins_v coins:=a0
 have s0:St w O w []:=St.start hO
 refine BI 41 Try.func24 rfl rfl oT (fun F0=>AF (AB kR (AA (ER (E:=Enc.circle) (vA c_cs.toArray) (c_cs) c rfl rfl c9 s0 fun h6 h7 d8 c6 h8 a2=>(?_)))))
 have a6:=a6.mv c6
 have a0:=a0.mv c6
 refine AA (DE [vI 0,vI 0,vI 0,nS,nS] NN rfl d8 fun a7 d9 e0 c7 b4 h9 a1=>(?_))
 clear e0
 have a6:=a6.mv b4
 have a0:=a0.mv b4
 have a2:=a2.mv b4
 refine AA (AD (nS) rfl (AA (AD (vI 0) rfl (AG (AC (AF (AF (AB kR (AA (DF U28_ rfl BR rfl a2 fun c2 d0=>(AA (AZ (vs:=[vA c2.toArray]) SC (PZ (O:=(a7 :: [])++O) c2 c d9 d0 c7.lt) rfl c7 fun i0 e1 b5 b6 e2 e3=>(?_)))))))))))))
 obtain rfl:=e3
 have a6:=a6.mv b6
 have a0:=a0.mv b6
 have a2:=a2.mv b6
 have a1:=a1.keep e2 (by simp)
 refine AA (AD (vI (AQ c)) rfl (AG (AC (AF (AB kR (AA (AE (vI (AQ c)) rfl (AA (CT .i64 (AQ c) (0:Int) rfl rfl (AG (AC (AJ ((AQ c) != (0:Int)) rfl rfl (fun b1=>?_) (fun b1=>?_)))))))))))))
 ·have g9:AQ c≠(0:Int):=by simpa using b1
  refine AF (AB kR (AA (BW (vs:=[vI 0,vI 0,vI 0,nS,nS]) U28_ rfl BR rfl a1 rfl (AA (AE (vI (AQ c)) rfl (CB (BF (vs:=[vI 0,vI 0,vI 0,nS,nS]) (.agg #[vI 0,vI 0,vI 0,nS,nS]) rfl rfl rfl BR (fun u hu=>by simp only [List.mem_cons,List.not_mem_nil,or_false] at hu;rcases hu with rfl|rfl|rfl|rfl|rfl <;> rfl) (by repeat (constructor)) a1 oT b5 fun i1 e4 i2 i3 d1=>(AA (AD (nS) rfl (AA (AD (vI (AQ c)) rfl (AG (AC (AM (AK (AS rfl (IU rfl (EZ (vs:=[vI 0,vI 0,vI 0,nS,nS]) rfl U28_ rfl BR rfl d1 rfl) (ES rfl rfl) (ES rfl rfl)) (?_)))))))))))))))))
  have e5:((BG c l coins).1)=(⟨(0:Int),(0:Int),(0:Int),[],[]⟩:Circle):=by exact congrArg (fun p=>p.1) (show BG c l coins=_ from renew_1 aS)
  have e6:((BG c l coins).2.1)=([]):=by exact congrArg (fun p=>p.2.1) (show BG c l coins=_ from renew_1 aS)
  have e7:((BG c l coins).2.2)=(AQ c):=by exact congrArg (fun p=>p.2.2) (show BG c l coins=_ from renew_1 aS)
  exact ⟨_,rfl,e4.keep,by rw [e5,e6,e7];exact ⟨[vI 0,vI 0,vI 0,nS,nS], .slice none 0 0,rfl,Enc.out (B:=(a7 :: [])) ⟨.slice none 0 0, .slice none 0 0,rfl,(BB.nil _ _ _),(BB.nil _ _ _)⟩,BB.nil _ _ _⟩⟩
 have d2:AQ c=(0:Int):=by simpa using b1
 have hok:AQ c=0:=d2
 have hepb:=circ_ep hok
 refine AO (AC (AF (AF (AB kR (AA (DF U28_ rfl BR rfl a2 fun c3 d3=>(AA (AE (l_v) rfl (AA (AZ (vs:=[vA c3.toArray,l_v]) UP (UZ (O:=(a7 :: [])++O) c3 c l_v l e1 d3 a6 b5.lt) rfl b5 fun i4 e8 b7 b8 e9 f0=>(?_)))))))))))
 obtain rfl:=f0
 have a6:=a6.mv b8
 have a0:=a0.mv b8
 have a2:=a2.mv b8
 have a1:=a1.keep e9 (by simp)
 refine AA (AD (vI (CM c l)) rfl (AG (AC (AF (AB kR (AA (AE (vI (CM c l)) rfl (AA (CT .i64 (CM c l) (0:Int) rfl rfl (AG (AC (AJ ((CM c l) != (0:Int)) rfl rfl (fun b2=>?_) (fun b2=>?_)))))))))))))
 ·have h0:CM c l≠(0:Int):=by simpa using b2
  refine AF (AB kR (AA (BW (vs:=[vI 0,vI 0,vI 0,nS,nS]) U28_ rfl BR rfl a1 rfl (AA (AE (vI (CM c l)) rfl (CB (BF (vs:=[vI 0,vI 0,vI 0,nS,nS]) (.agg #[vI 0,vI 0,vI 0,nS,nS]) rfl rfl rfl BR (fun u hu=>by simp only [List.mem_cons,List.not_mem_nil,or_false] at hu;rcases hu with rfl|rfl|rfl|rfl|rfl <;> rfl) (by repeat (constructor)) a1 oT b7 fun i5 f1 i6 i7 d4=>(AA (AD (nS) rfl (AA (AD (vI (CM c l)) rfl (AG (AC (AM (AK (AS rfl (IU rfl (EZ (vs:=[vI 0,vI 0,vI 0,nS,nS]) rfl U28_ rfl BR rfl d4 rfl) (ES rfl rfl) (ES rfl rfl)) (?_)))))))))))))))))
  have f2:((BG c l coins).1)=(⟨(0:Int),(0:Int),(0:Int),[],[]⟩:Circle):=by exact congrArg (fun p=>p.1) (show BG c l coins=_ from renew_2 aS aS)
  have f3:((BG c l coins).2.1)=([]):=by exact congrArg (fun p=>p.2.1) (show BG c l coins=_ from renew_2 aS aS)
  have f4:((BG c l coins).2.2)=(CM c l):=by exact congrArg (fun p=>p.2.2) (show BG c l coins=_ from renew_2 aS aS)
  exact ⟨_,rfl,f1.keep,by rw [f2,f3,f4];exact ⟨[vI 0,vI 0,vI 0,nS,nS], .slice none 0 0,rfl,Enc.out (B:=(a7 :: [])) ⟨.slice none 0 0, .slice none 0 0,rfl,(BB.nil _ _ _),(BB.nil _ _ _)⟩,BB.nil _ _ _⟩⟩
 have h1:CM c l=(0:Int):=by simpa using b2
 refine AO (AC (AF (AB kR (AA (AE (l_v) rfl (AA (AE (coins_v) rfl (AA (AZ (vs:=[l_v,coins_v]) enter_19 (c_refresh (O:=(a7 :: [])++O) l_v l coins_v coins e8 a6 a0 b7.lt) rfl b7 fun i8 i9 c8 f5 f6 f7=>(?_))))))))))
 obtain ⟨b0,rfl,a5⟩:=f7
 have:=a5.len_le
 have a2:=a2.mv f5
 have a1:=a1.keep f6 (by simp)
 refine AA (AE (vT #[b0,vI ((DJ l coins).2)]) rfl (AA (AN (b0) rfl rfl (AA (AN (vI ((DJ l coins).2)) rfl rfl (AA (AD (b0) rfl (AA (AD (vI ((DJ l coins).2)) rfl (AG (AC (AF (AF (AB kR (AA (AE (vI ((DJ l coins).2)) rfl (AA (CT .i64 ((DJ l coins).2) (0:Int) rfl rfl (AG (AC (AJ (((DJ l coins).2) != (0:Int)) rfl rfl (fun b3=>?_) (fun b3=>?_))))))))))))))))))))))
 ·have h2:(DJ l coins).2≠(0:Int):=by simpa using b3
  refine AF (AB kR (AA (BW (vs:=[vI 0,vI 0,vI 0,nS,nS]) U28_ rfl BR rfl a1 rfl (AA (AE (vI ((DJ l coins).2)) rfl (CB (BF (vs:=[vI 0,vI 0,vI 0,nS,nS]) (.agg #[vI 0,vI 0,vI 0,nS,nS]) rfl rfl rfl BR (fun u hu=>by simp only [List.mem_cons,List.not_mem_nil,or_false] at hu;rcases hu with rfl|rfl|rfl|rfl|rfl <;> rfl) (by repeat (constructor)) a1 oT c8 fun j0 f8 j1 j2 d5=>(AA (AD (nS) rfl (AA (AD (vI ((DJ l coins).2)) rfl (AG (AC (AM (AK (AS rfl (IU rfl (EZ (vs:=[vI 0,vI 0,vI 0,nS,nS]) rfl U28_ rfl BR rfl d5 rfl) (ES rfl rfl) (ES rfl rfl)) (?_)))))))))))))))))
  have f9:((BG c l coins).1)=(⟨(0:Int),(0:Int),(0:Int),[],[]⟩:Circle):=by exact congrArg (fun p=>p.1) (show BG c l coins=_ from renew_3 aS aS aS)
  have g0:((BG c l coins).2.1)=([]):=by exact congrArg (fun p=>p.2.1) (show BG c l coins=_ from renew_3 aS aS aS)
  have g1:((BG c l coins).2.2)=((DJ l coins).2):=by exact congrArg (fun p=>p.2.2) (show BG c l coins=_ from renew_3 aS aS aS)
  exact ⟨_,rfl,f8.keep,by rw [f9,g0,g1];exact ⟨[vI 0,vI 0,vI 0,nS,nS], .slice none 0 0,rfl,Enc.out (B:=(a7 :: [])) ⟨.slice none 0 0, .slice none 0 0,rfl,(BB.nil _ _ _),(BB.nil _ _ _)⟩,BB.nil _ _ _⟩⟩
 have h3:(DJ l coins).2=(0:Int):=by simpa using b3
 refine AO (AC (AF (AB kR (AA (DF U28_ rfl BR rfl a2 fun h4 d6=>(?_))))))
 obtain ⟨a8,a9,rfl,a3,a4⟩:=d6
 have:=a3.len_le
 have:=a4.len_le
 refine CB (BF (vs:=[vI c.epoch,vI c.threshold,vI c.wait,a8,a9]) (.agg #[vI c.epoch,vI c.threshold,vI c.wait,a8,a9]) rfl rfl rfl BR (fun u hu=>by simp only [List.mem_cons,List.not_mem_nil,or_false] at hu;rcases hu with rfl|rfl|rfl|rfl|rfl <;> first|rfl|exact a3.oneCell|exact a4.oneCell) (by repeat (constructor)) a1 oT c8 fun j3 g2 b9 j4 c4=>(?_))
 have a5:=a5.mv b9
 have a3:=a3.mv b9
 have a4:=a4.mv b9
 refine AG (AC (AF (AB kR (AA (AU 0 MR rfl (AA (AW U3_ rfl (vI c.epoch) rfl c4 rfl (AA (DC .i64 c.epoch (1:Int) (c.epoch+(1:Int)) rfl rfl (FQ oM oM) (AA (AU 0 MR rfl (CB (CI (vI (c.epoch+(1:Int))) rfl rfl rfl OV (by repeat (constructor)) c4 oT g2 fun j5 g3 c0 j6 c5=>(?_))))))))))))))
 have a5:=a5.mv c0
 have a3:=a3.mv c0
 have a4:=a4.mv c0
 refine AG (AC (AF (AB kR (AA (BW (vs:=[vI (c.epoch+(1:Int)),vI c.threshold,vI c.wait,a8,a9]) U28_ rfl BR rfl c5 rfl (AA (AE (b0) rfl (CB (BF (vs:=[vI (c.epoch+(1:Int)),vI c.threshold,vI c.wait,a8,a9]) (.agg #[vI (c.epoch+(1:Int)),vI c.threshold,vI c.wait,a8,a9]) rfl rfl rfl BR (fun u hu=>by simp only [List.mem_cons,List.not_mem_nil,or_false] at hu;rcases hu with rfl|rfl|rfl|rfl|rfl <;> first|rfl|exact a3.oneCell|exact a4.oneCell) (by repeat (constructor)) c5 oT g3 fun j7 g4 c1 j8 d7=>(?_))))))))))
 have a5:=a5.mv c1
 have a3:=a3.mv c1
 have a4:=a4.mv c1
 refine AA (AD (b0) rfl (AA (AD (vI 0) rfl (AG (AC (AM (AS rfl (IU rfl (EZ (vs:=[vI (c.epoch+(1:Int)),vI c.threshold,vI c.wait,a8,a9]) rfl U28_ rfl BR rfl d7 rfl) (ES rfl rfl) (ES rfl rfl)) (?_))))))))
 have g5:((BG c l coins).1)=(⟨c.epoch+(1:Int),c.threshold,c.wait,c.guardians,c.recs⟩:Circle):=by exact congrArg (fun p=>p.1) (show BG c l coins=_ from renew_4 aS aS aS)
 have g6:((BG c l coins).2.1)=((DJ l coins).1):=by exact congrArg (fun p=>p.2.1) (show BG c l coins=_ from renew_4 aS aS aS)
 have g7:((BG c l coins).2.2)=(0:Int):=by exact congrArg (fun p=>p.2.2) (show BG c l coins=_ from renew_4 aS aS aS)
 exact ⟨_,rfl,g4.keep,by rw [g5,g6,g7];exact ⟨[vI (c.epoch+(1:Int)),vI c.threshold,vI c.wait,a8,a9],b0,rfl,Enc.out (B:=(a7 :: [])) ⟨_,_,rfl,a3,a4⟩,a5.out⟩⟩
set_option maxHeartbeats 4000000 in
set_option maxRecDepth 100000 in
theorem c_rest {O:List Nat} (c_cs:List Value) (c:Circle) (no:Int) (l_v:Value) (l:List Share) (w:World) (b8:Enc.circle.rd w O c_cs c) (a2:BB Enc.share w O l_v l) (hO:∀ b∈O,b<w.heap.size):CE Try.prog 14 [.agg c_cs.toArray,vI no,l_v] w (fun v w'=>∃ (x0:Value),v = .tuple #[x0,vI ((CK c no l).2)]∧BB Enc.u8 w' (O) x0 ((CK c no l).1)):= by
 have b8:Enc.circle.rd w ([]++O) c_cs c:=b8
 have g0:=a2.len_le
 have a2:BB Enc.share w ([]++O) l_v l:=a2
 have s0:St w O w []:=St.start hO
 refine BI 44 Try.func14 rfl rfl oT (fun F0=>AF (AB kR (AA (ER (E:=Enc.circle) (vA c_cs.toArray) (c_cs) c rfl rfl b8 s0 fun g1 c5 b6 c6 g2 a0=>(?_)))))
 have a2:=a2.mv c6
 refine AA (AD (nS) rfl (AA (AD (vI 0) rfl (AG (AC (AF (AF (AB kR (AA (DF U28_ rfl BR rfl a0 fun b0 b9=>(AA (AZ (vs:=[vA b0.toArray]) SC (PZ (O:=[]++O) b0 c c5 b9 b6.lt) rfl b6 fun g3 c7 a1 b7 g4 c8=>(?_)))))))))))))
 obtain rfl:=c8
 have a2:=a2.mv b7
 have a0:=a0.mv b7
 refine AA (AD (vI (AQ c)) rfl (AG (AC (AF (AB kR (AA (AE (vI (AQ c)) rfl (AA (CT .i64 (AQ c) (0:Int) rfl rfl (AG (AC (AJ ((AQ c) != (0:Int)) rfl rfl (fun a3=>?_) (fun a3=>?_)))))))))))))
 ·have e8:AQ c≠(0:Int):=by simpa using a3
  refine AF (AB kR (AA (AE (vI (AQ c)) rfl (AA (AD (nS) rfl (AA (AD (vI (AQ c)) rfl (AG (AC (AM (AK (AS rfl (EA rfl rfl rfl rfl) (?_)))))))))))))
  have c9:((CK c no l).1)=([]):=by exact congrArg (fun p=>p.1) (show CK c no l=_ from rest_1 aS)
  have d0:((CK c no l).2)=(AQ c):=by exact congrArg (fun p=>p.2) (show CK c no l=_ from rest_1 aS)
  exact ⟨_,rfl,a1.keep,by rw [c9,d0];exact ⟨.slice none 0 0,rfl,BB.nil _ _ _⟩⟩
 have e9:AQ c=(0:Int):=by simpa using a3
 refine AO (AC (AF (AF (AB kR (AA (AE (vI no) rfl (AA (DO .i64 no (0:Int) rfl rfl (AA (AE (vO (decide (no<(0:Int)))) rfl (?_)))))))))))
 cases b1:(decide (no<(0:Int)))
 ·have f0:(0:Int)≤no:=by simpa using b1
  refine BJ rfl (AE (vI no) rfl (BJ rfl (BH 4 FD (c.recs) rfl a0 (fun _ _ _ h=>DI h) fun g5 c0=>(BJ rfl (CF U26_ rfl rfl c0 fun g6 b2=>(?_))))))
  have:=b2.len_le
  refine BJ rfl (CA U26_ rfl b2 (BJ rfl (KR .i64 no (c.recs.length:Int) rfl rfl (AA (BX (vO (decide ((c.recs.length:Int)≤no))) rfl rfl (AG (AC (AJ (decide ((c.recs.length:Int)≤no)) rfl rfl (fun a4=>?_) (fun a4=>?_)))))))))
  ·have f1:(c.recs.length:Int)≤no:=by simpa using a4
   refine AF (AB kR (AA (AD (nS) rfl (AA (AD (vI 1) rfl (AG (AC (AM (AK (AS rfl (EA rfl rfl rfl rfl) (?_)))))))))))
   have d1:((CK c no l).1)=([]):=by exact congrArg (fun p=>p.1) (show CK c no l=_ from rest_2 aS (.inr aS))
   have d2:((CK c no l).2)=(1:Int):=by exact congrArg (fun p=>p.2) (show CK c no l=_ from rest_2 aS (.inr aS))
   exact ⟨_,rfl,a1.keep,by rw [d1,d2];exact ⟨.slice none 0 0,rfl,BB.nil _ _ _⟩⟩
  have f2:no<(c.recs.length:Int):=by simpa using a4
  refine AO (AC (AF (AF (AB kR (AA (BH 4 FD (c.recs) rfl a0 (fun _ _ _ h=>DI h) fun g7 c1=>(AA (CF U26_ rfl rfl c1 fun g8 b3=>(?_)))))))))
  have:=b3.len_le
  refine AA (AE (vI no) rfl (AA (CP U26_ IE .i64 no no.toNat rfl rfl oM b3 oM fun g9 c2=>(AA (BH 2 MV ((c.recs[no.toNat]!).state) rfl c2 (fun _ _ _ h=>IZ h) fun h0 c3=>(AA (CC U3_ rfl rfl c3 (AG (AC (BA (AF (AB kR (AA (GO .i64 ((c.recs[no.toNat]!).state) (2:Int) rfl rfl (AA (AD (vO (((c.recs[no.toNat]!).state) == (2:Int))) rfl (AG (AC (AJ (((c.recs[no.toNat]!).state) == (2:Int)) rfl rfl (fun a5=>?_) (fun a5=>?_))))))))))))))))))))
  ·have f3:(c.recs[no.toNat]!).state=(2:Int):=by simpa using a5
   refine AF (AB kR (AA (AD (nS) rfl (AA (AD (vI 452) rfl (AG (AC (AM (BK (AK (AS rfl (EA rfl rfl rfl rfl) (?_))))))))))))
   have d3:((CK c no l).1)=([]):=by exact congrArg (fun p=>p.1) (show CK c no l=_ from rest_3 aS oM oM aS)
   have d4:((CK c no l).2)=(452:Int):=by exact congrArg (fun p=>p.2) (show CK c no l=_ from rest_3 aS oM oM aS)
   exact ⟨_,rfl,a1.keep,by rw [d3,d4];exact ⟨.slice none 0 0,rfl,BB.nil _ _ _⟩⟩
  have f4:(c.recs[no.toNat]!).state≠(2:Int):=by simpa using a5
  refine AF (AB kR (AA (GO .i64 ((c.recs[no.toNat]!).state) (0:Int) rfl rfl (AA (AD (vO (((c.recs[no.toNat]!).state) == (0:Int))) rfl (AG (AC (AJ (((c.recs[no.toNat]!).state) == (0:Int)) rfl rfl (fun a6=>?_) (fun a6=>?_)))))))))
  ·have f5:(c.recs[no.toNat]!).state=(0:Int):=by simpa using a6
   refine AF (AB kR (AA (AD (nS) rfl (AA (AD (vI 460) rfl (AG (AC (AM (BK (AK (AS rfl (EA rfl rfl rfl rfl) (?_))))))))))))
   have d5:((CK c no l).1)=([]):=by exact congrArg (fun p=>p.1) (show CK c no l=_ from rest_4 aS oM oM aS)
   have d6:((CK c no l).2)=(460:Int):=by exact congrArg (fun p=>p.2) (show CK c no l=_ from rest_4 aS oM oM aS)
   exact ⟨_,rfl,a1.keep,by rw [d5,d6];exact ⟨.slice none 0 0,rfl,BB.nil _ _ _⟩⟩
  have f6:(c.recs[no.toNat]!).state≠(0:Int):=by simpa using a6
  refine AO (BZ (AC (AF (AF (AB kR (AA (DF U28_ rfl BR rfl a0 fun b4 c4=>(AA (AE (l_v) rfl (AA (AZ (vs:=[vA b4.toArray,l_v]) UP (UZ (O:=[]++O) b4 c l_v l c7 c4 a2 a1.lt) rfl a1 fun h1 d7 a8 d8 h2 d9=>(?_))))))))))))
  obtain rfl:=d9
  have a2:=a2.mv d8
  refine AA (AD (vI (CM c l)) rfl (AG (AC (AF (AB kR (AA (AE (vI (CM c l)) rfl (AA (CT .i64 (CM c l) (0:Int) rfl rfl (AG (AC (AJ ((CM c l) != (0:Int)) rfl rfl (fun a7=>?_) (fun a7=>?_)))))))))))))
  ·have f7:CM c l≠(0:Int):=by simpa using a7
   refine AF (AB kR (AA (AE (vI (CM c l)) rfl (AA (AD (nS) rfl (AA (AD (vI (CM c l)) rfl (AG (AC (AM (AK (AS rfl (EA rfl rfl rfl rfl) (?_)))))))))))))
   have e0:((CK c no l).1)=([]):=by exact congrArg (fun p=>p.1) (show CK c no l=_ from rest_5 aS oM oM aS aS aS)
   have e1:((CK c no l).2)=(CM c l):=by exact congrArg (fun p=>p.2) (show CK c no l=_ from rest_5 aS oM oM aS aS aS)
   exact ⟨_,rfl,a8.keep,by rw [e0,e1];exact ⟨.slice none 0 0,rfl,BB.nil _ _ _⟩⟩
  have f8:CM c l=(0:Int):=by simpa using a7
  refine AO (AC (AF (AB kR (AA (AE (l_v) rfl (AA (AZ (vs:=[l_v]) enter_30 (c_join (O:=[]++O) l_v l d7 a2 a8.lt) rfl a8 fun h3 h4 e2 h5 h6 e3=>(?_))))))))
  obtain ⟨a9,rfl,b5⟩:=e3
  have:=b5.len_le
  refine AA (AN (a9) rfl rfl (AA (AN (vI ((DD l).2)) rfl rfl (AA (AD (a9) rfl (AA (AD (vI ((DD l).2)) rfl (AG (AC (AM (AS rfl (EA rfl rfl rfl rfl) (?_))))))))))))
  have e4:((CK c no l).1)=((DD l).1):=by exact congrArg (fun p=>p.1) (show CK c no l=_ from rest_6 aS oM oM aS aS aS)
  have e5:((CK c no l).2)=((DD l).2):=by exact congrArg (fun p=>p.2) (show CK c no l=_ from rest_6 aS oM oM aS aS aS)
  exact ⟨_,rfl,e2.keep,by rw [e4,e5];exact ⟨a9,rfl,b5.out⟩⟩
 have f9:no<(0:Int):=by simpa using b1
 refine AT rfl (AT rfl (AT rfl (AT rfl (AT rfl (AA (AX (vO true) rfl rfl (AG (AC (AJ true rfl rfl (fun _=>AF (AB kR (AA (AD (nS) rfl (AA (AD (vI 1) rfl (AG (AC (AM (AK (AS rfl (EA rfl rfl rfl rfl) (?_)))))))))))) (fun h=>by cases h))))))))))
 have e6:((CK c no l).1)=([]):=by exact congrArg (fun p=>p.1) (show CK c no l=_ from rest_2 aS (.inl aS))
 have e7:((CK c no l).2)=(1:Int):=by exact congrArg (fun p=>p.2) (show CK c no l=_ from rest_2 aS (.inl aS))
 exact ⟨_,rfl,a1.keep,by rw [e6,e7];exact ⟨.slice none 0 0,rfl,BB.nil _ _ _⟩⟩
set_option maxHeartbeats 4000000 in
set_option maxRecDepth 100000 in
theorem c_replace {O:List Nat} (c_cs:List Value) (c:Circle) (l_v:Value) (l:List Share) (others_v:Value) (others:List Int) (t:Int) (coins_v:Value) (coins:List UInt8) (w:World) (h0:Enc.circle.rd w O c_cs c) (b5:BB Enc.share w O l_v l) (a2:BB Enc.int w O others_v others) (a0:BB Enc.u8 w O coins_v coins) (hpre0:others.length≤1000000) (hO:∀ b∈O,b<w.heap.size):CE Try.prog 28 [.agg c_cs.toArray,l_v,others_v,vI t,coins_v] w (fun v w'=>∃ (x0:List Value) (x1:Value),v = .tuple #[.agg x0.toArray,x1,vI ((AV c l others t coins).2.2)]∧Enc.circle.rd w' (O) x0 ((AV c l others t coins).1)∧BB Enc.share w' (O) x1 ((AV c l others t coins).2.1)):= by
 have h0:Enc.circle.rd w ([]++O) c_cs c:=h0
 have q7:=b5.len_le
 have b5:BB Enc.share w ([]++O) l_v l:=b5
 have i8:=a2.len_le
 have a2:BB Enc.int w ([]++O) others_v others:=a2
 have p2:=a0.len_le
 have a0:BB Enc.u8 w ([]++O) coins_v coins:=a0
 have s0:St w O w []:=St.start hO
 refine BI 61 Try.func28 rfl rfl oT (fun F0=>AF (AB kR (AA (ER (E:=Enc.circle) (vA c_cs.toArray) (c_cs) c rfl rfl h0 s0 fun q8 q9 i9 e2 r0 a7=>(?_)))))
 have b5:=b5.mv e2
 have a2:=a2.mv e2
 have a0:=a0.mv e2
 refine AA (DE [vI 0,vI 0,vI 0,nS,nS] NN rfl i9 fun a5 j0 j1 f6 c1 r1 a6=>(?_))
 clear j1
 have b5:=b5.mv c1
 have a2:=a2.mv c1
 have a0:=a0.mv c1
 have a7:=a7.mv c1
 refine AA (AD (nS) rfl (AA (AD (vI 0) rfl (AG (AC (AF (AF (AB kR (AA (DF U28_ rfl BR rfl a7 fun f0 h1=>(AA (AZ (vs:=[vA f0.toArray]) SC (PZ (O:=(a5 :: [])++O) f0 c j0 h1 f6.lt) rfl f6 fun r2 j2 e3 c2 j3 j4=>(?_)))))))))))))
 obtain rfl:=j4
 have b5:=b5.mv c2
 have a2:=a2.mv c2
 have a0:=a0.mv c2
 have a7:=a7.mv c2
 have a6:=a6.keep j3 (by simp)
 refine AA (AD (vI (AQ c)) rfl (AG (AC (AF (AB kR (AA (AE (vI (AQ c)) rfl (AA (CT .i64 (AQ c) (0:Int) rfl rfl (AG (AC (AJ ((AQ c) != (0:Int)) rfl rfl (fun d2=>?_) (fun d2=>?_)))))))))))))
 ·have p4:AQ c≠(0:Int):=by simpa using d2
  refine AF (AB kR (AA (BW (vs:=[vI 0,vI 0,vI 0,nS,nS]) U28_ rfl BR rfl a6 rfl (AA (AE (vI (AQ c)) rfl (CB (BF (vs:=[vI 0,vI 0,vI 0,nS,nS]) (.agg #[vI 0,vI 0,vI 0,nS,nS]) rfl rfl rfl BR (fun u hu=>by simp only [List.mem_cons,List.not_mem_nil,or_false] at hu;rcases hu with rfl|rfl|rfl|rfl|rfl <;> rfl) (by repeat (constructor)) a6 oT e3 fun r3 j5 r4 r5 h2=>(AA (AD (nS) rfl (AA (AD (vI (AQ c)) rfl (AG (AC (AM (AK (AS rfl (IU rfl (EZ (vs:=[vI 0,vI 0,vI 0,nS,nS]) rfl U28_ rfl BR rfl h2 rfl) (ES rfl rfl) (ES rfl rfl)) (?_)))))))))))))))))
  have j6:((AV c l others t coins).1)=(⟨(0:Int),(0:Int),(0:Int),[],[]⟩:Circle):=by exact congrArg (fun p=>p.1) (show AV c l others t coins=_ from SY aS)
  have j7:((AV c l others t coins).2.1)=([]):=by exact congrArg (fun p=>p.2.1) (show AV c l others t coins=_ from SY aS)
  have j8:((AV c l others t coins).2.2)=(AQ c):=by exact congrArg (fun p=>p.2.2) (show AV c l others t coins=_ from SY aS)
  exact ⟨_,rfl,j5.keep,by rw [j6,j7,j8];exact ⟨[vI 0,vI 0,vI 0,nS,nS], .slice none 0 0,rfl,Enc.out (B:=(a5 :: [])) ⟨.slice none 0 0, .slice none 0 0,rfl,(BB.nil _ _ _),(BB.nil _ _ _)⟩,BB.nil _ _ _⟩⟩
 have h3:AQ c=(0:Int):=by simpa using d2
 have hok:AQ c=0:=h3
 have hepb:=circ_ep hok
 refine AO (AC (AF (AF (AB kR (AA (DF U28_ rfl BR rfl a7 fun f1 h4=>(AA (AE (l_v) rfl (AA (AZ (vs:=[vA f1.toArray,l_v]) UP (UZ (O:=(a5 :: [])++O) f1 c l_v l j2 h4 b5 e3.lt) rfl e3 fun r6 j9 e4 c3 k0 k1=>(?_)))))))))))
 obtain rfl:=k1
 have b5:=b5.mv c3
 have a2:=a2.mv c3
 have a0:=a0.mv c3
 have a7:=a7.mv c3
 have a6:=a6.keep k0 (by simp)
 refine AA (AD (vI (CM c l)) rfl (AG (AC (AF (AB kR (AA (AE (vI (CM c l)) rfl (AA (CT .i64 (CM c l) (0:Int) rfl rfl (AG (AC (AJ ((CM c l) != (0:Int)) rfl rfl (fun d3=>?_) (fun d3=>?_)))))))))))))
 ·have p5:CM c l≠(0:Int):=by simpa using d3
  refine AF (AB kR (AA (BW (vs:=[vI 0,vI 0,vI 0,nS,nS]) U28_ rfl BR rfl a6 rfl (AA (AE (vI (CM c l)) rfl (CB (BF (vs:=[vI 0,vI 0,vI 0,nS,nS]) (.agg #[vI 0,vI 0,vI 0,nS,nS]) rfl rfl rfl BR (fun u hu=>by simp only [List.mem_cons,List.not_mem_nil,or_false] at hu;rcases hu with rfl|rfl|rfl|rfl|rfl <;> rfl) (by repeat (constructor)) a6 oT e4 fun r7 k2 r8 r9 h5=>(AA (AD (nS) rfl (AA (AD (vI (CM c l)) rfl (AG (AC (AM (AK (AS rfl (IU rfl (EZ (vs:=[vI 0,vI 0,vI 0,nS,nS]) rfl U28_ rfl BR rfl h5 rfl) (ES rfl rfl) (ES rfl rfl)) (?_)))))))))))))))))
  have k3:((AV c l others t coins).1)=(⟨(0:Int),(0:Int),(0:Int),[],[]⟩:Circle):=by exact congrArg (fun p=>p.1) (show AV c l others t coins=_ from ST aS aS)
  have k4:((AV c l others t coins).2.1)=([]):=by exact congrArg (fun p=>p.2.1) (show AV c l others t coins=_ from ST aS aS)
  have k5:((AV c l others t coins).2.2)=(CM c l):=by exact congrArg (fun p=>p.2.2) (show AV c l others t coins=_ from ST aS aS)
  exact ⟨_,rfl,k2.keep,by rw [k3,k4,k5];exact ⟨[vI 0,vI 0,vI 0,nS,nS], .slice none 0 0,rfl,Enc.out (B:=(a5 :: [])) ⟨.slice none 0 0, .slice none 0 0,rfl,(BB.nil _ _ _),(BB.nil _ _ _)⟩,BB.nil _ _ _⟩⟩
 have p6:CM c l=(0:Int):=by simpa using d3
 refine AO (AC (AF (AB kR (AA (AE (l_v) rfl (AA (AZ (vs:=[l_v]) enter_30 (c_join (O:=(a5 :: [])++O) l_v l j9 b5 e4.lt) rfl e4 fun s1 s2 f7 e5 k6 k7=>(?_))))))))
 obtain ⟨b3,rfl,a3⟩:=k7
 have:=a3.len_le
 have a2:=a2.mv e5
 have a0:=a0.mv e5
 have a7:=a7.mv e5
 have a6:=a6.keep k6 (by simp)
 refine AA (AE (vT #[b3,vI ((DD l).2)]) rfl (AA (AN (b3) rfl rfl (AA (AN (vI ((DD l).2)) rfl rfl (AA (AD (b3) rfl (AA (AD (vI ((DD l).2)) rfl (AG (AC (AF (AF (AB kR (AA (AE (vI ((DD l).2)) rfl (AA (CT .i64 ((DD l).2) (0:Int) rfl rfl (AG (AC (AJ (((DD l).2) != (0:Int)) rfl rfl (fun d4=>?_) (fun d4=>?_))))))))))))))))))))))
 ·have p7:(DD l).2≠(0:Int):=by simpa using d4
  refine AF (AB kR (AA (BW (vs:=[vI 0,vI 0,vI 0,nS,nS]) U28_ rfl BR rfl a6 rfl (AA (AE (vI ((DD l).2)) rfl (CB (BF (vs:=[vI 0,vI 0,vI 0,nS,nS]) (.agg #[vI 0,vI 0,vI 0,nS,nS]) rfl rfl rfl BR (fun u hu=>by simp only [List.mem_cons,List.not_mem_nil,or_false] at hu;rcases hu with rfl|rfl|rfl|rfl|rfl <;> rfl) (by repeat (constructor)) a6 oT f7 fun s3 k8 s4 s5 h6=>(AA (AD (nS) rfl (AA (AD (vI ((DD l).2)) rfl (AG (AC (AM (AK (AS rfl (IU rfl (EZ (vs:=[vI 0,vI 0,vI 0,nS,nS]) rfl U28_ rfl BR rfl h6 rfl) (ES rfl rfl) (ES rfl rfl)) (?_)))))))))))))))))
  have k9:((AV c l others t coins).1)=(⟨(0:Int),(0:Int),(0:Int),[],[]⟩:Circle):=by exact congrArg (fun p=>p.1) (show AV c l others t coins=_ from SM aS aS aS)
  have l0:((AV c l others t coins).2.1)=([]):=by exact congrArg (fun p=>p.2.1) (show AV c l others t coins=_ from SM aS aS aS)
  have l1:((AV c l others t coins).2.2)=((DD l).2):=by exact congrArg (fun p=>p.2.2) (show AV c l others t coins=_ from SM aS aS aS)
  exact ⟨_,rfl,k8.keep,by rw [k9,l0,l1];exact ⟨[vI 0,vI 0,vI 0,nS,nS], .slice none 0 0,rfl,Enc.out (B:=(a5 :: [])) ⟨.slice none 0 0, .slice none 0 0,rfl,(BB.nil _ _ _),(BB.nil _ _ _)⟩,BB.nil _ _ _⟩⟩
 have p8:(DD l).2=(0:Int):=by simpa using d4
 refine AO (AC (AF (AB kR (AA (DF U28_ rfl BR rfl a7 fun p9 h7=>(?_))))))
 obtain ⟨f8,a4,rfl,f2,a1⟩:=h7
 have:=f2.len_le
 have:=a1.len_le
 refine CB (BF (vs:=[vI c.epoch,vI c.threshold,vI c.wait,f8,a4]) (.agg #[vI c.epoch,vI c.threshold,vI c.wait,f8,a4]) rfl rfl rfl BR (fun u hu=>by simp only [List.mem_cons,List.not_mem_nil,or_false] at hu;rcases hu with rfl|rfl|rfl|rfl|rfl <;> first|rfl|exact f2.oneCell|exact a1.oneCell) (by repeat (constructor)) a6 oT f7 fun s6 l2 c4 s7 f3=>(?_))
 have a2:=a2.mv c4
 have a0:=a0.mv c4
 have a3:=a3.mv c4
 have a1:=a1.mv c4
 refine AG (AC (AF (AB kR (AA (AU 0 MR rfl (AA (AW U3_ rfl (vI c.epoch) rfl f3 rfl (AA (DC .i64 c.epoch (1:Int) (c.epoch+(1:Int)) rfl rfl (FQ oM oM) (AA (AU 0 MR rfl (CB (CI (vI (c.epoch+(1:Int))) rfl rfl rfl OV (by repeat (constructor)) f3 oT l2 fun l3 f9 c5 s8 b0=>(?_))))))))))))))
 have a2:=a2.mv c5
 have a0:=a0.mv c5
 have a3:=a3.mv c5
 have a1:=a1.mv c5
 refine AG (AC (AF (AB kR (AA (AE (others_v) rfl (AA (LB [others_v] _ VI rfl (CG 8 Try.func32 rfl rfl oT (fun s9=>AF (AB kR (AA (AD (nS) rfl (AG (AC (AF (AF (AB kR (AA (AE (others_v) rfl (AA (KF U22_ rfl rfl a2 fun d5 g7=>(AG (AC (AJ (d5) rfl rfl (fun d6=>?_) (fun d6=>?_)))))))))))))))))) (fun _ _ h=>h))))))))
 ·have q0:d5=true:=by simpa using d6
  refine AF (AB kR (AA (AD (nS) rfl (AG (AC (AM (AK (AS rfl (CN rfl rfl rfl) (?_)))))))))
  have g8:others=[]:=g7 aS
  have a8:BB Enc.int l3 ((a5 :: [])++O) (.slice none 0 0) (others):=by rw [g8];exact BB.nil _ _ _
  refine Exists.intro _ (And.intro rfl (AA (AE (vI t) rfl (AA (AU 3 PK rfl (CB (CI (.slice none 0 0) rfl rfl a8.oneCell s_22 (by repeat (constructor)) b0 oT f9 fun t0 l4 c6 t2 h8=>(?_))))))))
  have a0:=a0.mv c6
  have a3:=a3.mv c6
  have a1:=a1.mv c6
  have a8:=a8.mv c6
  refine AA (AU 1 OQ rfl (CB (CI (vI t) rfl rfl rfl OV (by repeat (constructor)) h8 oT l4 fun l5 g0 c7 t3 b6=>(?_))))
  have a0:=a0.mv c7
  have a3:=a3.mv c7
  have a1:=a1.mv c7
  have a8:=a8.mv c7
  refine AG (AC (AF (AB kR (AA (BW (vs:=[vI (c.epoch+(1:Int)),vI t,vI c.wait, .slice none 0 0,a4]) U28_ rfl BR rfl b6 rfl (AA (AE (b3) rfl (AA (AE (coins_v) rfl (AA (AZ (vs:=[vA #[vI (c.epoch+(1:Int)),vI t,vI c.wait, .slice none 0 0,a4],b3,coins_v]) RF (c_deal (O:=(a5 :: [])++O) [vI (c.epoch+(1:Int)),vI t,vI c.wait, .slice none 0 0,a4] (⟨c.epoch+(1:Int),t,c.wait,others,c.recs⟩:Circle) b3 ((DD l).1) coins_v coins l5 ⟨_,_,rfl,a8,a1⟩ a3 a0 g0.lt) rfl g0 fun t4 t5 g1 g2 l6 l7=>(?_))))))))))))
  obtain ⟨b7,rfl,b9⟩:=l7
  have:=b9.len_le
  have a1:=a1.mv g2
  have a8:=a8.mv g2
  have b6:=b6.keep l6 (by simp)
  refine AA (AE (vT #[b7,vI ((DN (⟨c.epoch+(1:Int),t,c.wait,others,c.recs⟩:Circle) ((DD l).1) coins).2)]) rfl (AA (AN (b7) rfl rfl (AA (AN (vI ((DN (⟨c.epoch+(1:Int),t,c.wait,others,c.recs⟩:Circle) ((DD l).1) coins).2)) rfl rfl (AA (AD (b7) rfl (AA (AD (vI ((DN (⟨c.epoch+(1:Int),t,c.wait,others,c.recs⟩:Circle) ((DD l).1) coins).2)) rfl (AG (AC (AF (AF (AB kR (AA (AE (vI ((DN (⟨c.epoch+(1:Int),t,c.wait,others,c.recs⟩:Circle) ((DD l).1) coins).2)) rfl (AA (CT .i64 ((DN (⟨c.epoch+(1:Int),t,c.wait,others,c.recs⟩:Circle) ((DD l).1) coins).2) (0:Int) rfl rfl (AG (AC (AJ (((DN (⟨c.epoch+(1:Int),t,c.wait,others,c.recs⟩:Circle) ((DD l).1) coins).2) != (0:Int)) rfl rfl (fun d7=>?_) (fun d7=>?_))))))))))))))))))))))
  ·have q1:(DN (⟨c.epoch+(1:Int),t,c.wait,others,c.recs⟩:Circle) ((DD l).1) coins).2≠(0:Int):=by simpa using d7
   refine AF (AB kR (AA (EN (l:=[]) TM NN rfl [] [vI 0,vI 0,vI 0,nS,nS] rfl rfl (AA (AE (vI ((DN (⟨c.epoch+(1:Int),t,c.wait,others,c.recs⟩:Circle) ((DD l).1) coins).2)) rfl (CB (BF (vs:=[vI 0,vI 0,vI 0,nS,nS]) (.agg #[vI 0,vI 0,vI 0,nS,nS]) rfl rfl rfl BR (fun u hu=>by simp only [List.mem_cons,List.not_mem_nil,or_false] at hu;rcases hu with rfl|rfl|rfl|rfl|rfl <;> rfl) (by repeat (constructor)) b6 oT g1 fun t6 l8 t7 t8 h9=>(AA (AD (nS) rfl (AA (AD (vI ((DN (⟨c.epoch+(1:Int),t,c.wait,others,c.recs⟩:Circle) ((DD l).1) coins).2)) rfl (AG (AC (AM (AK (AS rfl (IU rfl (EZ (vs:=[vI 0,vI 0,vI 0,nS,nS]) rfl U28_ rfl BR rfl h9 rfl) (ES rfl rfl) (ES rfl rfl)) (?_)))))))))))))))))
   have l9:((AV c l others t coins).1)=(⟨(0:Int),(0:Int),(0:Int),[],[]⟩:Circle):=by exact congrArg (fun p=>p.1) (show AV c l others t coins=_ from LI aS aS aS aS)
   have m0:((AV c l others t coins).2.1)=([]):=by exact congrArg (fun p=>p.2.1) (show AV c l others t coins=_ from LI aS aS aS aS)
   have m1:((AV c l others t coins).2.2)=((DN (⟨c.epoch+(1:Int),t,c.wait,others,c.recs⟩:Circle) ((DD l).1) coins).2):=by exact congrArg (fun p=>p.2.2) (show AV c l others t coins=_ from LI aS aS aS aS)
   exact ⟨_,rfl,l8.keep,by rw [l9,m0,m1];exact ⟨[vI 0,vI 0,vI 0,nS,nS], .slice none 0 0,rfl,Enc.out (B:=(a5 :: [])) ⟨.slice none 0 0, .slice none 0 0,rfl,(BB.nil _ _ _),(BB.nil _ _ _)⟩,BB.nil _ _ _⟩⟩
  have q2:(DN (⟨c.epoch+(1:Int),t,c.wait,others,c.recs⟩:Circle) ((DD l).1) coins).2=(0:Int):=by simpa using d7
  refine AO (AC (AF (AB kR (AA (BW (vs:=[vI (c.epoch+(1:Int)),vI t,vI c.wait, .slice none 0 0,a4]) U28_ rfl BR rfl b6 rfl (AA (AE (b7) rfl (CB (BF (vs:=[vI (c.epoch+(1:Int)),vI t,vI c.wait, .slice none 0 0,a4]) (.agg #[vI (c.epoch+(1:Int)),vI t,vI c.wait, .slice none 0 0,a4]) rfl rfl rfl BR (fun u hu=>by simp only [List.mem_cons,List.not_mem_nil,or_false] at hu;rcases hu with rfl|rfl|rfl|rfl|rfl <;> first|rfl|exact a1.oneCell) (by repeat (constructor)) b6 oT g1 fun t9 m2 e6 u0 i0=>(?_))))))))))
  have b9:=b9.mv e6
  have a1:=a1.mv e6
  have a8:=a8.mv e6
  refine AA (AD (b7) rfl (AA (AD (vI 0) rfl (AG (AC (AM (AS rfl (IU rfl (EZ (vs:=[vI (c.epoch+(1:Int)),vI t,vI c.wait, .slice none 0 0,a4]) rfl U28_ rfl BR rfl i0 rfl) (ES rfl rfl) (ES rfl rfl)) (?_))))))))
  have m3:((AV c l others t coins).1)=(⟨c.epoch+(1:Int),t,c.wait,others,c.recs⟩:Circle):=by exact congrArg (fun p=>p.1) (show AV c l others t coins=_ from LN aS aS aS aS)
  have m4:((AV c l others t coins).2.1)=((DN (⟨c.epoch+(1:Int),t,c.wait,others,c.recs⟩:Circle) ((DD l).1) coins).1):=by exact congrArg (fun p=>p.2.1) (show AV c l others t coins=_ from LN aS aS aS aS)
  have m5:((AV c l others t coins).2.2)=(0:Int):=by exact congrArg (fun p=>p.2.2) (show AV c l others t coins=_ from LN aS aS aS aS)
  exact ⟨_,rfl,m2.keep,by rw [m3,m4,m5];exact ⟨[vI (c.epoch+(1:Int)),vI t,vI c.wait, .slice none 0 0,a4],b7,rfl,Enc.out (B:=(a5 :: [])) ⟨_,_,rfl,a8,a1⟩,b9.out⟩⟩
 have q3:d5=false:=by simpa using d6
 refine AO (AC (AF (AB kR (AA (HT (E:=Enc.int) (xs:=[]) U22_ OV z_3 (by decide) [] [] [] rfl rfl rfl (Parts.nil _ _ _) oT f9 fun g3 m6 u1 m7 d8 m9 c8 n2 i1=>(?_))))))
 have f4:∀ b,g3.ownBlock=some b→b≠a5:=fun b hb=>by have:=b0.lt;rw [d8] at hb;cases hb;omega
 have i2:∀ b,g3.ownBlock=some b→b∈(m6 :: (a5 :: [])):=fun b hb=>by rw [d8] at hb;cases hb;simp
 clear m7 d8
 have a2:=a2.mv c8
 have a0:=a0.mv c8
 have a3:=a3.mv c8
 have a1:=a1.mv c8
 have b0:=b0.keep n2 (by simp)
 refine AA (AE (others_v) rfl (AA (CY (E:=Enc.int) (l:=[]) (m:=others) U22_ i_3 rfl (by decide) rfl rfl i1 a2 (fun _ hb=>.inl hb) i2 (by simp;omega) (by simp [maxLen];omega) m9 fun a9 u2 n3 q4 i3 g9 n4 e7 n5 b4=>(?_))))
 rw [List.nil_append] at b4
 have d9:∀ b,a9.ownBlock=some b→b≠a5:=fun b hb=>by rcases i3 with e1|e1 <;> rw [e1] at hb <;> first|(cases hb;have:=b0.lt;omega)|(exact f4 b hb)
 have f5:a5∈n3:=g9 a5 (by repeat (constructor))
 have a0:=a0.mv e7
 have a3:=a3.mv e7
 have a1:=a1.mv e7
 have b0:=b0.keep n5 (by simp only [Option.mem_toList];exact fun e=>absurd rfl (f4 _ e))
 refine AA (AD (a9) rfl (AG (AC (AM (AS rfl (CN rfl rfl rfl) (Exists.intro _ (And.intro rfl (AA (AE (vI t) rfl (AA (AU 3 PK rfl (CB (CI (a9) rfl rfl b4.oneCell s_22 (by repeat (assumption)) b0 oT n4 fun u3 n6 c9 n7 i4=>(?_))))))))))))))
 have a0:=a0.mv c9
 have a3:=a3.mv c9
 have a1:=a1.mv c9
 have b4:=b4.mv c9 n7 (fun b hb=>BC (d9 b hb))
 refine AA (AU 1 OQ rfl (CB (CI (vI t) rfl rfl rfl OV (by repeat (assumption)) i4 oT n6 fun n9 o0 d0 o1 b1=>(?_))))
 have a0:=a0.mv d0
 have a3:=a3.mv d0
 have a1:=a1.mv d0
 have b4:=b4.mv d0 o1 (fun b hb=>BC (d9 b hb))
 refine AG (AC (AF (AB kR (AA (BW (vs:=[vI (c.epoch+(1:Int)),vI t,vI c.wait,a9,a4]) U28_ rfl BR rfl b1 rfl (AA (AE (b3) rfl (AA (AE (coins_v) rfl (?_))))))))))
 obtain ⟨d1,g4,e8,b2,i5⟩:=b4.publish o0
 have f5:a5∈d1:=i5 a5 (by repeat (assumption)) (fun e=>absurd rfl (d9 _ e))
 have p3:=b2.len_le
 have a0:=a0.mv e8
 have a3:=a3.mv e8
 have a1:=a1.mv e8
 have b1:=b1.keep (Keep.refl [] _) (by simp)
 refine AA (AZ (vs:=[vA #[vI (c.epoch+(1:Int)),vI t,vI c.wait,a9,a4],b3,coins_v]) RF (c_deal (O:=d1++O) [vI (c.epoch+(1:Int)),vI t,vI c.wait,a9,a4] (⟨c.epoch+(1:Int),t,c.wait,others,c.recs⟩:Circle) b3 ((DD l).1) coins_v coins n9 ⟨_,_,rfl,b2,a1⟩ a3 a0 g4.lt) rfl g4 fun u4 u5 g5 g6 o2 o3=>(?_))
 obtain ⟨b8,rfl,c0⟩:=o3
 have:=c0.len_le
 have a1:=a1.mv g6
 have b2:=b2.mv g6
 have b1:=b1.keep o2 (by simp)
 refine AA (AE (vT #[b8,vI ((DN (⟨c.epoch+(1:Int),t,c.wait,others,c.recs⟩:Circle) ((DD l).1) coins).2)]) rfl (AA (AN (b8) rfl rfl (AA (AN (vI ((DN (⟨c.epoch+(1:Int),t,c.wait,others,c.recs⟩:Circle) ((DD l).1) coins).2)) rfl rfl (AA (AD (b8) rfl (AA (AD (vI ((DN (⟨c.epoch+(1:Int),t,c.wait,others,c.recs⟩:Circle) ((DD l).1) coins).2)) rfl (AG (AC (AF (AF (AB kR (AA (AE (vI ((DN (⟨c.epoch+(1:Int),t,c.wait,others,c.recs⟩:Circle) ((DD l).1) coins).2)) rfl (AA (CT .i64 ((DN (⟨c.epoch+(1:Int),t,c.wait,others,c.recs⟩:Circle) ((DD l).1) coins).2) (0:Int) rfl rfl (AG (AC (AJ (((DN (⟨c.epoch+(1:Int),t,c.wait,others,c.recs⟩:Circle) ((DD l).1) coins).2) != (0:Int)) rfl rfl (fun e0=>?_) (fun e0=>?_))))))))))))))))))))))
 ·have q5:(DN (⟨c.epoch+(1:Int),t,c.wait,others,c.recs⟩:Circle) ((DD l).1) coins).2≠(0:Int):=by simpa using e0
  refine AF (AB kR (AA (EN (l:=[]) TM NN rfl [] [vI 0,vI 0,vI 0,nS,nS] rfl rfl (AA (AE (vI ((DN (⟨c.epoch+(1:Int),t,c.wait,others,c.recs⟩:Circle) ((DD l).1) coins).2)) rfl (CB (BF (vs:=[vI 0,vI 0,vI 0,nS,nS]) (.agg #[vI 0,vI 0,vI 0,nS,nS]) rfl rfl rfl BR (fun u hu=>by simp only [List.mem_cons,List.not_mem_nil,or_false] at hu;rcases hu with rfl|rfl|rfl|rfl|rfl <;> rfl) (by repeat (assumption)) b1 oT g5 fun u6 o4 u7 u9 i6=>(AA (AD (nS) rfl (AA (AD (vI ((DN (⟨c.epoch+(1:Int),t,c.wait,others,c.recs⟩:Circle) ((DD l).1) coins).2)) rfl (AG (AC (AM (AK (AS rfl (IU rfl (EZ (vs:=[vI 0,vI 0,vI 0,nS,nS]) rfl U28_ rfl BR rfl i6 rfl) (ES rfl rfl) (ES rfl rfl)) (?_)))))))))))))))))
  have o5:((AV c l others t coins).1)=(⟨(0:Int),(0:Int),(0:Int),[],[]⟩:Circle):=by exact congrArg (fun p=>p.1) (show AV c l others t coins=_ from LI aS aS aS aS)
  have o6:((AV c l others t coins).2.1)=([]):=by exact congrArg (fun p=>p.2.1) (show AV c l others t coins=_ from LI aS aS aS aS)
  have o7:((AV c l others t coins).2.2)=((DN (⟨c.epoch+(1:Int),t,c.wait,others,c.recs⟩:Circle) ((DD l).1) coins).2):=by exact congrArg (fun p=>p.2.2) (show AV c l others t coins=_ from LI aS aS aS aS)
  exact ⟨_,rfl,o4.keep,by rw [o5,o6,o7];exact ⟨[vI 0,vI 0,vI 0,nS,nS], .slice none 0 0,rfl,Enc.out (B:=d1) ⟨.slice none 0 0, .slice none 0 0,rfl,(BB.nil _ _ _),(BB.nil _ _ _)⟩,BB.nil _ _ _⟩⟩
 have q6:(DN (⟨c.epoch+(1:Int),t,c.wait,others,c.recs⟩:Circle) ((DD l).1) coins).2=(0:Int):=by simpa using e0
 refine AO (AC (AF (AB kR (AA (BW (vs:=[vI (c.epoch+(1:Int)),vI t,vI c.wait,a9,a4]) U28_ rfl BR rfl b1 rfl (AA (AE (b8) rfl (CB (BF (vs:=[vI (c.epoch+(1:Int)),vI t,vI c.wait,a9,a4]) (.agg #[vI (c.epoch+(1:Int)),vI t,vI c.wait,a9,a4]) rfl rfl rfl BR (fun u hu=>by simp only [List.mem_cons,List.not_mem_nil,or_false] at hu;rcases hu with rfl|rfl|rfl|rfl|rfl <;> first|rfl|exact b2.oneCell|exact a1.oneCell) (by repeat (assumption)) b1 oT g5 fun v0 o8 e9 v1 i7=>(?_))))))))))
 have c0:=c0.mv e9
 have a1:=a1.mv e9
 have b2:=b2.mv e9
 refine AA (AD (b8) rfl (AA (AD (vI 0) rfl (AG (AC (AM (AS rfl (IU rfl (EZ (vs:=[vI (c.epoch+(1:Int)),vI t,vI c.wait,a9,a4]) rfl U28_ rfl BR rfl i7 rfl) (ES rfl rfl) (ES rfl rfl)) (?_))))))))
 have o9:((AV c l others t coins).1)=(⟨c.epoch+(1:Int),t,c.wait,others,c.recs⟩:Circle):=by exact congrArg (fun p=>p.1) (show AV c l others t coins=_ from LN aS aS aS aS)
 have p0:((AV c l others t coins).2.1)=((DN (⟨c.epoch+(1:Int),t,c.wait,others,c.recs⟩:Circle) ((DD l).1) coins).1):=by exact congrArg (fun p=>p.2.1) (show AV c l others t coins=_ from LN aS aS aS aS)
 have p1:((AV c l others t coins).2.2)=(0:Int):=by exact congrArg (fun p=>p.2.2) (show AV c l others t coins=_ from LN aS aS aS aS)
 exact ⟨_,rfl,o8.keep,by rw [o9,p0,p1];exact ⟨[vI (c.epoch+(1:Int)),vI t,vI c.wait,a9,a4],b8,rfl,Enc.out (B:=d1) ⟨_,_,rfl,b2,a1⟩,c0.out⟩⟩
open Go.Fw
section
variable {c:Circle} {no:Int}
end
open Go.Fw
theorem sel255:∀ n,n≤8→SP 255 n=List.range n:=by
  intro n h
  have:∀ n:Fin 9,SP 255 n.1=List.range n.1:=by decide +kernel
  exact this ⟨n,by omega⟩
theorem range_getS (l:List Share):((List.range l.length).map fun p=>l[p]!)=l:=by
  apply ext_getS (by simp)
  intro i hi
  rw [II _ _ _ (by simpa using hi)]
theorem some255 {l:List Share} (h:l.length≤8):IQ l 255 l.length=l:=by
  unfold IQ;rw [sel255 _ h];exact range_getS l
theorem Spl.len8 {secret:List UInt8} {ep t m:Int} {l:List Share} (h:Spl secret ep t m l):l.length≤8:=by
  have:=h.len;have:=h.num.m8;omega
theorem Spl.pos {secret:List UInt8} {ep t m:Int} {l:List Share} (h:Spl secret ep t m l):0<l.length:=by
  have:=h.len;have:=h.num.t1;have:=h.num.tm;omega
theorem Spl.all {secret:List UInt8} {ep t m:Int} {l:List Share} (h:Spl secret ep t m l):DD l=(secret,0):=by
  have:=h.join 255 (by rw [some255 h.len8,h.len];exact h.num.tm)
  rwa [some255 h.len8] at this
section
variable {c:Circle} {l:List Share} {secret coins:List UInt8} {others:List Int} {t no:Int}
end
open Go.Fw
end Go.Proofs.Ytjgfokolnkhafaa
namespace Go.Proofs.Ytjgfokolnkhafaa
open Go.Fw
theorem idxS_full {T:List Share} {m:Int} (hT:Full m T) {i:Nat} (hi:i<T.length):FV T (fun o=>o.index == (i:Int)+1)=(i:Int):=by
  unfold FV
  rcases TG (fun k=>T[k]!.index == (i:Int)+1) (T.length - 0) 0 with ⟨h1,h2⟩|⟨k,h1,h2,h3,h4,_⟩
  · have:=h2 i (by omega) (by omega)
    rw [hT.2 i hi] at this;simp at this
  · rw [h4]
    rw [hT.2 k (by omega)] at h3
    simp only [beq_iff_eq] at h3
    omega
section
variable {s other:List UInt8} {ep ep' t m:Int} {y T:List Share}
end
open Go.Fw
theorem Good.count {l:List Share} (h:Good l):∀ k:Nat,k<l.length→(k:Int)+1≤l[k]!.index
  | 0,hk=>by have:=h.ix 0 hk;omega
  | k+1,hk=>by have:=h.count k (by omega);have:=h.inc k hk;omega
theorem Good.len8 {l:List Share} (h:Good l):l.length≤8:=by
  have h1:=h.pos
  have h2:=h.count (l.length - 1) (by omega)
  have h3:=h.ix (l.length - 1) (by omega)
  have:=h.m8
  omega
theorem RC {l:List Share} {secret:List UInt8} (h:(BE l secret).2=0):Vd l∧(l.length:Int)<l[0]!.threshold∧(secret.length:Int)=(l[0]!.data.length:Int)∧((BE l secret).1.length:Int)=(secret.length:Int)*(l[0]!.threshold - 1):=by
  have hc:BO l=0:=by
    by_cases c:BO l=0
    · exact c
    · rw [RG c rfl] at h;exact h
  have hv:=(FS l).1 hc
  have h2:(l.length:Int)<l[0]!.threshold:=by
    by_cases c:(l.length:Int)<l[0]!.threshold
    · exact c
    · rw [MU hc (by omega) rfl] at h;cases h
  have h3:(secret.length:Int)=(l[0]!.data.length:Int):=by
    by_cases c:(secret.length:Int)=(l[0]!.data.length:Int)
    · exact c
    · rw [SE hc h2 c rfl] at h;cases h
  refine ⟨hv,h2,h3,?_⟩
  rw [TP hc h2 h3 rfl]
  have:=hv.t1;have:=hv.tm;have:=hv.m8
  show ((ON l secret (l[0]!.threshold.toNat - 1 - l.length) secret.length).length:Int)=_
  rw [TY hv.toGood (by omega),show l.length+(l[0]!.threshold.toNat - 1 - l.length)=l[0]!.threshold.toNat - 1 by omega]
  rw [Int.natCast_mul];congr 1;omega
theorem MK {l:List Share} {secret:List UInt8} (h:(BE l secret).2=0):(BE l secret).1.length≤1000∧secret.length≤64:=by
  have h1:=RC h
  have h2:=h1.2.2.2
  have h3:=h1.2.2.1
  have:=h1.1.d64;have:=h1.1.t1;have:=h1.1.tm;have:=h1.1.m8
  have hs:secret.length≤64:=by omega
  refine ⟨?_,hs⟩
  have h4:(secret.length:Int)*(l[0]!.threshold - 1)≤64*7:=Int.mul_le_mul (by omega) (by omega) (by omega) (by omega)
  omega
theorem XN {a:List Share} {secret:List UInt8} (h:(BE a secret).2=0):(BY secret a[0]!.epoch a[0]!.threshold a[0]!.many (BE a secret).1).2=0:=by
  obtain ⟨hv,_,h3,h4⟩:=RC h
  have:=hv.t1;have:=hv.tm;have:=hv.m8;have:=hv.d64;have:=hv.ep0;have:=hv.ep1
  rw [VJ]
  exact (NS _ _ _ _ _).2 ⟨by omega,by omega,by omega,by omega,by omega,by omega,h4⟩
theorem mix_spl {a:List Share} {secret:List UInt8} (h:(BE a secret).2=0):Spl secret a[0]!.epoch a[0]!.threshold a[0]!.many (CQ a secret):=spl_split (XN h)
theorem NQ (f g:Share):JY f g=false↔f.threshold=g.threshold∧f.many=g.many∧f.data.length=g.data.length∧g.epoch=f.epoch+1:=by
  unfold JY;simp only [dbs];omega
theorem EK {f g:Share} (h:f.threshold≠g.threshold∨f.many≠g.many∨(f.data.length:Int)≠(g.data.length:Int)∨g.epoch≠f.epoch+1):JY f g=true:=by
  rw [← Bool.not_eq_false];intro e
  have:=(NQ f g).1 e
  omega
def NK (x y:List UInt8) (k:Nat):List UInt8:=XI x.length fun i=>if i<k then x[i]! ^^^ y[i]! else x[i]!
theorem xorP_zero (x y:List UInt8):NK x y 0=x:=by
  unfold NK
  refine SG (by rw [LG]) fun i=>?_
  rw [OC]
  by_cases c:i<x.length
  · rw [if_pos c,if_neg (by omega)]
  · rw [if_neg c,EH (by omega)]
theorem HO (x y:List UInt8) (k:Nat):(NK x y k).length=x.length:=LG _ _
theorem xorP_at {x y:List UInt8} {k:Nat} (h:k<x.length):(NK x y k)[k]! = x[k]!:=by unfold NK;rw [OC,if_pos h,if_neg (by omega)]
theorem xorP_set {x y:List UInt8} {k:Nat} (h:k<x.length):(NK x y k).set k ((NK x y k)[k]! ^^^ y[k]!)=NK x y (k+1):=by
  refine SG (by rw [List.length_set,HO,HO]) fun i=>?_
  rw [xorP_at h]
  by_cases e:i=k
  · subst e
    rw [getElem!_pos _ i (by rw [List.length_set,HO];exact h),List.getElem_set_self]
    unfold NK;rw [OC,if_pos h,if_pos (by omega)]
  · by_cases c:i<x.length
    · rw [getElem!_pos _ i (by rw [List.length_set,HO];exact c),List.getElem_set_ne (by omega),← getElem!_pos _ i (by rw [HO];exact c)]
      unfold NK;rw [OC,OC,if_pos c,if_pos c]
      by_cases d:i<k
      · rw [if_pos d,if_pos (by omega)]
      · rw [if_neg d,if_neg (by omega)]
    · rw [EH (by rw [List.length_set,HO];omega),EH (by rw [HO];omega)]
theorem xorP_all (x y:List UInt8):NK x y x.length=xorM x y:=by
  unfold NK xorM
  refine SG (by rw [LG,LG]) fun i=>?_
  rw [OC,OC]
  by_cases c:i<x.length
  · rw [if_pos c,if_pos c,if_pos c]
  · rw [if_neg c,if_neg c]
structure Mx (a b:List Share) (secret:List UInt8):Prop where
  va:Vd a
  vb:Vd b
  th:a[0]!.threshold=b[0]!.threshold
  ma:a[0]!.many=b[0]!.many
  da:a[0]!.data.length=b[0]!.data.length
  ep:b[0]!.epoch=a[0]!.epoch+1
  len:secret.length=a[0]!.data.length
  sp:Spl secret a[0]!.epoch a[0]!.threshold a[0]!.many (CQ a secret)
theorem mx_of {a b:List Share} {secret:List UInt8} (hb:BO b=0) (h:(BE a secret).2=0) (hm:JY a[0]! b[0]! = false):Mx a b secret:=
  have h1:=RC h
  have h2:=(NQ _ _).1 hm
  ⟨h1.1,(FS b).1 hb,h2.1,h2.2.1,h2.2.2.1,h2.2.2.2,by omega,mix_spl h⟩
section
variable {a b:List Share} {secret:List UInt8} (h:Mx a b secret) {k:Nat} (hk:k<b.length)
include h hk
theorem Mx.idx:FV (CQ a secret) (fun o=>o.index == b[k]!.index)=b[k]!.index - 1∧0≤b[k]!.index - 1∧b[k]!.index - 1<((CQ a secret).length:Int):=by
  have h1:=h.vb.ix k hk
  have h2:=h.sp.full.1
  have h3:=h.ma
  have hj:(b[k]!.index - 1).toNat<(CQ a secret).length:=by rw [h2];omega
  have:=idxS_full h.sp.full hj
  rw [show (((b[k]!.index - 1).toNat:Nat):Int)+1=b[k]!.index by omega] at this
  rw [this];omega
theorem Mx.at:atS (CQ a secret) b[k]!.index=(CQ a secret)[(b[k]!.index - 1).toNat]!:=by unfold atS;rw [(h.idx hk).1]
theorem Mx.dl:(atS (CQ a secret) b[k]!.index).data.length=secret.length:=by
  have h1:=h.idx hk
  rw [h.at hk];exact h.sp.da (by omega)
theorem Mx.idx':0≤FV (CQ a secret) (fun o=>o.index == b[k]!.index)∧FV (CQ a secret) (fun o=>o.index == b[k]!.index)<((CQ a secret).length:Int):=by
  have h1:=h.idx hk
  exact ⟨by rw [h1.1];exact h1.2.1,by rw [h1.1];exact h1.2.2⟩
theorem Mx.dl':((CQ a secret)[(FV (CQ a secret) (fun o=>o.index == b[k]!.index)).toNat]!).data.length=secret.length:=h.dl hk
theorem Mx.bl:b[k]!.data.length=secret.length:=by rw [h.vb.da k hk,← h.da,h.len]
end
theorem mixD_succ {b s:List Share} {k:Nat} (hk:k<b.length):FX b s (k+1)=FX b s k++[mixS s b[k]!]:=by
  unfold FX;rw [List.take_add_one,List.map_append,List.getElem?_eq_getElem hk,getElem!_pos b k hk];rfl
theorem mixD_len (b s:List Share) (k:Nat):(FX b s k).length≤k:=by unfold FX;rw [List.length_map,List.length_take];omega
section
variable {a b:List Share} {secret:List UInt8}
theorem mixed_1 (h:BO a≠0):BU a b secret=([],BO a):=if_pos (by simpa using h)
theorem mixed_2 (h:BO a=0) (h2:BO b≠0):BU a b secret=([],BO b):=by unfold BU;rw [if_neg (by simpa using h),if_pos (by simpa using h2)]
theorem MM (h:BO a=0) (h2:BO b=0) (h3:JY a[0]! b[0]! = true):BU a b secret=([],460):=by unfold BU;rw [if_neg (by simpa using h),if_neg (by simpa using h2),if_pos h3]
section
variable (h:BO a=0) (h2:BO b=0) (h3:JY a[0]! b[0]! = false)
include h h2 h3
theorem mixed_4 (h4:(BE a secret).2≠0):BU a b secret=([],(BE a secret).2):=by unfold BU;rw [if_neg (by simpa using h),if_neg (by simpa using h2),if_neg (by rw [h3];simp),if_pos (by simpa using h4)]
theorem mixed_5 (h4:(BE a secret).2=0) (h5:(mixQ a b secret).2≠0):BU a b secret=([],(mixQ a b secret).2):=by unfold BU;rw [if_neg (by simpa using h),if_neg (by simpa using h2),if_neg (by rw [h3];simp),if_neg (by simpa using h4),if_pos (by simpa using h5)]
theorem mixed_6 (h4:(BE a secret).2=0) (h5:(mixQ a b secret).2=0):BU a b secret=((BE a secret).1++(mixQ a b secret).1,0):=by unfold BU;rw [if_neg (by simpa using h),if_neg (by simpa using h2),if_neg (by rw [h3];simp),if_neg (by simpa using h4),if_neg (by simpa using h5)]
end
end
def DV (l:List Share) (i:Int):Share:=EX (fun k=>if l[k]!.index == i then some l[k]! else none) ⟨0,0,0,0,[]⟩ 0 (l.length - 0)
theorem scan_idx {l:List Share} (p:Nat→Bool) (d:Share):∀ (m i:Nat),(∃ k,i≤k∧k<i+m∧p k=true)→EX (fun k=>if p k then some l[k]! else none) d i m=l[(EX (fun k=>if p k then some (k:Int) else none) (-1) i m).toNat]!
  | 0,i,⟨k,h1,h2,_⟩=>by omega
  | m+1,i,⟨k,h1,h2,h3⟩=>by
    cases hp:p i with
    | true=>simp [EX,hp]
    | false=>
      have ih:=scan_idx (l:=l) p d m (i+1) ⟨k,by rcases Nat.lt_or_ge i k with h|h;exact h;exact absurd (show k=i by omega) (fun e=>by rw [e,hp] at h3;cases h3),by omega,h3⟩
      have e:∀ {β:Type} (f:Nat→Option β) (d:β),f i=none→EX f d i (m+1)=EX f d (i+1) m:=fun f d hf=>by simp only [EX,hf]
      rw [e _ _ (by rw [hp];rfl),e _ _ (by rw [hp];rfl)]
      exact ih
theorem refAt_eq {l:List Share} {i:Int} (h:∃ k,k<l.length∧l[k]!.index=i):DV l i=atS l i:=by
  obtain ⟨k,h1,h2⟩:=h
  exact scan_idx (fun k=>l[k]!.index == i) _ _ 0 ⟨k,by omega,by omega,by rw [h2];simp⟩
def IN (s:List Share) (x:Share) (n:Nat):List UInt8:=XI n fun k=>x.data[k]! ^^^ (DV s x.index).data[k]!
theorem refMixN_succ (s:List Share) (x:Share) (n:Nat):IN s x (n+1)=IN s x n++[x.data[n]! ^^^ (DV s x.index).data[n]!]:=tab_succ _ _
theorem TV (s:List Share) (x:Share) (n:Nat):(IN s x n).length=n:=LG _ _
def refMixS (s:List Share) (n:Nat) (x:Share):Share:=⟨x.epoch,x.index,x.threshold,x.many,IN s x n⟩
def DU (b s:List Share) (n k:Nat):List Share:=(b.take k).map (refMixS s n)
theorem refMixD_succ {b s:List Share} {n k:Nat} (hk:k<b.length):DU b s n (k+1)=DU b s n k++[refMixS s n b[k]!]:=by
  unfold DU;rw [List.take_add_one,List.map_append,List.getElem?_eq_getElem hk,getElem!_pos b k hk];rfl
theorem TT (b s:List Share) (n k:Nat):(DU b s n k).length≤k:=by unfold DU;rw [List.length_map,List.length_take];omega
abbrev refMixP (a:List Share) (secret:List UInt8):List Share:=(AY secret a[0]!.epoch a[0]!.threshold a[0]!.many (AI a secret).1).1
abbrev LH (a b:List Share) (secret:List UInt8):List UInt8 × Int:=AI (DU b (refMixP a secret) secret.length b.length) (List.replicate secret.length 0)
def BN (a b:List Share) (secret:List UInt8):List UInt8 × Int:=
  if BP a != 0 then ([],BP a) else if BP b != 0 then ([],BP b) else if JY a[0]! b[0]! then ([],460)
  else if (AI a secret).2 != 0 then ([],(AI a secret).2)
  else if (LH a b secret).2 != 0 then ([],(LH a b secret).2) else ((AI a secret).1++(LH a b secret).1,0)
theorem UY (a:List Share) (secret:List UInt8):refMixP a secret=CQ a secret:=by unfold refMixP CQ;rw [IV,refSplit_eq]
theorem Mx.refS {a b:List Share} {secret:List UInt8} (h:Mx a b secret) {k:Nat} (hk:k<b.length):DV (CQ a secret) b[k]!.index=atS (CQ a secret) b[k]!.index:=by
  have h1:=h.idx hk
  refine refAt_eq ⟨(b[k]!.index - 1).toNat,by omega,?_⟩
  rw [h.sp.full.2 _ (by omega)];omega
theorem Mx.refD {a b:List Share} {secret:List UInt8} (h:Mx a b secret):DU b (CQ a secret) secret.length b.length=FX b (CQ a secret) b.length:=by
  unfold DU FX
  rw [List.take_length]
  refine List.map_congr_left fun x hx=>?_
  obtain ⟨k,hk,rfl⟩:=List.getElem_of_mem hx
  rw [← getElem!_pos b k hk]
  unfold refMixS IN mixS xorM
  rw [h.refS hk,h.bl hk]
theorem TR (a b:List Share) (secret:List UInt8):BN a b secret=BU a b secret:=by
  unfold BN BU
  rw [IJ,IJ,IV]
  by_cases c1:(BO a != 0)=true
  · rw [if_pos c1,if_pos c1]
  rw [if_neg c1,if_neg c1]
  by_cases c2:(BO b != 0)=true
  · rw [if_pos c2,if_pos c2]
  rw [if_neg c2,if_neg c2]
  by_cases c3:JY a[0]! b[0]! = true
  · rw [if_pos c3,if_pos c3]
  rw [if_neg c3,if_neg c3]
  by_cases c4:((BE a secret).2 != 0)=true
  · rw [if_pos c4,if_pos c4]
  rw [if_neg c4,if_neg c4]
  have hx:=mx_of (a:=a) (b:=b) (secret:=secret) (by simpa using c2) (by simpa using c4) (by rw [← Bool.not_eq_true];exact c3)
  rw [show LH a b secret=mixQ a b secret by unfold LH mixQ;rw [UY,hx.refD,IV]]
section
variable {a b:List Share} {secret:List UInt8}
theorem UR (h:BP a≠0):BN a b secret=([],BP a):=if_pos (by simpa using h)
theorem VM (h:BP a=0) (h2:BP b≠0):BN a b secret=([],BP b):=by unfold BN;rw [if_neg (by simpa using h),if_pos (by simpa using h2)]
theorem ID (h:BP a=0) (h2:BP b=0) (h3:JY a[0]! b[0]! = true):BN a b secret=([],460):=by unfold BN;rw [if_neg (by simpa using h),if_neg (by simpa using h2),if_pos h3]
section
variable (h:BP a=0) (h2:BP b=0) (h3:JY a[0]! b[0]! = false)
include h h2 h3
theorem WD (h4:(AI a secret).2≠0):BN a b secret=([],(AI a secret).2):=by unfold BN;rw [if_neg (by simpa using h),if_neg (by simpa using h2),if_neg (by rw [h3];simp),if_pos (by simpa using h4)]
theorem VH (h4:(AI a secret).2=0) (h5:(LH a b secret).2≠0):BN a b secret=([],(LH a b secret).2):=by unfold BN;rw [if_neg (by simpa using h),if_neg (by simpa using h2),if_neg (by rw [h3];simp),if_neg (by simpa using h4),if_pos (by simpa using h5)]
theorem VG (h4:(AI a secret).2=0) (h5:(LH a b secret).2=0):BN a b secret=((AI a secret).1++(LH a b secret).1,0):=by unfold BN;rw [if_neg (by simpa using h),if_neg (by simpa using h2),if_neg (by rw [h3];simp),if_neg (by simpa using h4),if_neg (by simpa using h5)]
end
end
theorem refMx_of {a b:List Share} {secret:List UInt8} (hb:BP b=0) (h:(AI a secret).2=0) (hm:JY a[0]! b[0]! = false):Mx a b secret:=by
  rw [IJ] at hb;rw [IV] at h;exact mx_of hb h hm
theorem Mx.refdl {a b:List Share} {secret:List UInt8} (h:Mx a b secret) {k:Nat} (hk:k<b.length):(DV (AY secret a[0]!.epoch a[0]!.threshold a[0]!.many (AI a secret).1).1 b[k]!.index).data.length=secret.length:=by
  rw [show (AY secret a[0]!.epoch a[0]!.threshold a[0]!.many (AI a secret).1).1=CQ a secret from UY a secret,h.refS hk];exact h.dl hk
theorem FE {l:List Share} {secret:List UInt8} (h:(AI l secret).2=0):(AI l secret).1.length≤1000∧secret.length≤64:=by
  rw [IV] at *;exact MK h
end Go.Proofs.Ytjgfokolnkhafaa
namespace Go.Fw
open Go.RowKit
theorem ED.base {α:Type} {E:Enc α} {e n m:Nat} {O:List Nat} {w:World} {v:Value} {l:List α} (h:ED E e n O w v l) (hm:m≤n):ED E e m O w v l:=by
  obtain ⟨css,h1,h2,h3⟩:=h
  refine ⟨css,h1,⟨h2.1,?_⟩,h3⟩
  rcases h2.2 with h|⟨g,cap,cur,e1,hg,r⟩
  · exact .inl h
  · exact .inr ⟨g,cap,cur,e1,Nat.le_trans hm hg,r⟩
theorem ED.u8O {e n:Nat} {O O':List Nat} {w:World} {v:Value} {l:List UInt8} (h:ED Enc.u8 e n O w v l):ED Enc.u8 e n O' w v l:=by
  obtain ⟨css,h1,h2,h3⟩:=h
  exact ⟨css,h1,h2,fun i cs x a b=>h3 i cs x a b⟩
theorem own_take {α:Type} {E:Enc α} {w0 w1 w:World} {O0 B:List Nat} {e:Nat} {v:Value} {l:List α} (s:St w0 O0 w1 B) (k:Keep [] w1 w) (hn:∀ b,v.ownBlock=some b→w1.heap.size≤b) (h:ED E e w1.heap.size (v.ownBlock.toList++(B++O0)) w v l) :
    ∃ B',(∀ b,v.ownBlock=some b→b∈B')∧(∀ b∈B,b∈B')∧St w0 O0 w B'∧Mv B w1 B' w∧ED E e w0.heap.size (B'++O0) w v l:=by
  refine ⟨v.ownBlock.toList++B,fun b hb=>List.mem_append_left _ (by simp [hb]),fun b hb=>List.mem_append_right _ hb,⟨(s.call k).keep,fun b hb=>?_,s.old⟩,⟨k.nil,fun b hb=>?_⟩,by rw [List.append_assoc];exact h.base s.keep.size⟩
  · rcases List.mem_append.1 hb with hb|hb
    · have h1:=h.lt b (by simpa using hb)
      exact ⟨Nat.le_trans s.keep.size h1.1,h1.2⟩
    · exact (s.call k).new b hb
  · rcases List.mem_append.1 hb with hb|hb
    · exact .inr (hn b (by simpa using hb))
    · exact .inl hb
theorem own_lent {w0 w1 w:World} {O0 B O':List Nat} {e:Nat} {v:Value} {l:List UInt8} (s:St w0 O0 w1 B) (hn:∀ b,v.ownBlock=some b→w1.heap.size≤b) (h:ED Enc.u8 e w1.heap.size O' w v l) :
    ED Enc.u8 e w0.heap.size (B++O0) w v l∧∀ b,v.ownBlock=some b→b∉B++O0:=
  ⟨(h.base s.keep.size).u8O,fun b hb hm=>by have:=hn b hb;have:=s.lt b hm;omega⟩
theorem own_back {w0 w:World} {O0 B:List Nat} {e:Nat} {v:Value} {l:List UInt8} (s:St w0 O0 w B) (h:ED Enc.u8 e w0.heap.size (B++O0) w v l) :
    ∃ B',(∀ b,v.ownBlock=some b→b∈B')∧(∀ b∈B,b∈B')∧St w0 O0 w B'∧ED Enc.u8 e w0.heap.size (B'++O0) w v l:=by
  refine ⟨v.ownBlock.toList++B,fun b hb=>List.mem_append_left _ (by simp [hb]),fun b hb=>List.mem_append_right _ hb,⟨s.keep,fun b hb=>?_,s.old⟩,h.u8O⟩
  rcases List.mem_append.1 hb with hb|hb
  · exact h.lt b (by simpa using hb)
  · exact s.new b hb
theorem flat_ones (m:List UInt8):(m.map fun y=>[vB y]).flatten=m.map vB:=by
  induction m with
  | nil=>rfl
  | cons a r ih=>simp [ih]
theorem BB.n8 {w:World} {O:List Nat} {A:Addr} {c:Nat} {m:List UInt8} (h:BB Enc.u8 w O (.slice (some A) m.length c) m):RdN Enc.u8 w O w (.slice (some A) m.length c) m:=by
  obtain ⟨A',c',h1,h2,h3,h4⟩:=h
  cases h1
  refine ⟨A,c,rfl,h2,h3,m.map fun y=>[vB y],by simp,fun j cs y hj hy=>?_,fun j q hq=>?_⟩
  · rw [List.getElem?_map,hy] at hj;cases hj;rfl
  · rw [flat_ones,List.getElem?_map] at hq
    cases hy:m[j]? with
    | none=>rw [hy] at hq;cases hq
    | some y=>
      rw [hy] at hq;cases hq
      obtain ⟨ad,cs,e1,hc,hr⟩:=h4 j y hy
      cases e1
      have hr:cs=[vB y]:=hr
      subst hr
      have:=hc.2.2 0 (vB y) rfl
      rw [add_add] at this
      rw [show j=j*Enc.u8.size+0 from by show j=j*1+0;omega]
      exact this
section
variable {P:Program} {ty:TypeId} {F:Fr} {w w0:World} {O0 B:List Nat} {K:Value→World→Prop} {Z:List PanicEntry→World→Prop} {x y:Operand}
theorem o_append8 {t e:Nat} {z:Value} {bytes:Nat} {v u:Value} {l m:List UInt8} {O':List Nat} (ht:P.underlying t=some (.slice e)) (hi:(P.info? e).map (fun i=>(i.zero,i.size,i.bytes))=some (some z,Enc.u8.size,bytes)) (hzs:z.cells.size=Enc.u8.size) (hpos:0<Enc.u8.size)
    (hx:CU F x=v) (hy:CU F y=u) (ho:ED Enc.u8 e w0.heap.size (B++O0) w v l) (hu:BB Enc.u8 w O' u m) (hv:∀ b,v.ownBlock=some b→b∈B) (hlen:(l.length+m.length)*bytes≤140737488355328) (hlm:l.length+m.length≤maxLen) (s:St w0 O0 w B)
    (h:∀ v' w' B',(∀ b,v'.ownBlock=some b→b∈B')→(v'.ownBlock=v.ownBlock∨v'.ownBlock=some w.heap.size)→(∀ b∈B,b∈B')→St w0 O0 w' B'→Mv B w B' w'→Keep v.ownBlock.toList w w'→ED Enc.u8 e w0.heap.size (B'++O0) w' v' (l++m)→K v' w') :
    DY P (.call { callee:=.builtin .append,args:=#[x,y],argTypes:=#[t,t] }) ty F w K Z:=by
  have hu0:=hu
  obtain ⟨A,c,e1,h2,h3,h4⟩:=hu
  cases A with
  | none=>
    have hm:m=[]:=by
      cases m with
      | nil=>rfl
      | cons a r=>obtain ⟨ad,_,e2,_⟩:=h4 0 a rfl;cases e2
    subst hm
    exact CY (O':=B++O0) ht hi hzs hpos hx hy ho ⟨none,c,e1,h2,h3,fun i y hi=>by simp at hi⟩ (fun b hb=>.inl hb) hv hlen hlm s h
  | some A=>
    subst e1
    exact o_appendN (uw:=w) (O':=O') ht hi hzs hpos hx hy ho hu0.n8 (fun cs y h=>h) hv hlen hlm s h
end
open Go.RowKit
section
variable {P:Program} {n:Nat} {Q:Exit→Fr→World→Prop} {ro:Option Nat}
theorem wpOpIn_F {ops:List Oper} {i:Nat} {o:Oper} {F1:Fr} {w1:World} {K:Fr→World→Prop} {K':Act→World→Prop} (hok:ops.all (PI n ops)=true) (ho:ops[i]? = some o) (hK:∀ F w,K F w→K' (mk n F) w)
    (h1:Region.wanted o (DS ops F1)=true→DY P o.op o.type F1 w1 (fun v w2=>K (HU F1 o.dst v) w2) (fun c w2=>Q (.panic c) F1 w2)∨(true=true∧RoundW P o.op o.type F1 w1 (fun v w2=>K (HU F1 o.dst v) w2) (fun c w2=>Q (.panic c) F1 w2))) (h2:Region.wanted o (DS ops F1)=false→K (HU F1 o.dst undef) w1) :
    wpOpIn (fen ro) 0 P ops.toArray (KS n Q) i K' (mk n F1) w1:=by
  have hoo:PI n ops o=true:=List.all_eq_true.1 hok o (List.mem_of_getElem? ho)
  unfold wpOpIn
  simp only [List.getElem?_toArray,ho]
  rw [SS hoo]
  split
  · rename_i hw
    refine ⟨fun _ _=>trivial,?_⟩
    rw [Oper.semAt_eq _ _ _ (XY hoo),TC o hoo,SX]
    rcases h1 hw with h|⟨_,h⟩
    · exact RH (fun v w' hk=>by rw [LD _ _ _ _ (KM hoo)];exact hK _ _ hk) (fun c w' hz=>⟨F1,rfl,hz⟩) h
    · exact RM (fun v w' hk=>by rw [LD _ _ _ _ (KM hoo)];exact hK _ _ hk) (fun c w' hz=>⟨F1,rfl,hz⟩) h
  · rename_i hw
    rw [LD _ _ _ _ (KM hoo)]
    exact ⟨fun _ _=>trivial,hK _ _ (h2 (by simpa using hw))⟩
theorem tail_runY {ops:List Oper} {m:Nat} (hd:DOk ops m) (hok:ops.all (PI n ops)=true):∀ (fuel k:Nat) (listed:Array Bool) (F1:Fr) (w1:World),listed.size=ops.length→m≤k→ops.length≤k+fuel→k≤ops.length→(∀ j,j<ops.length→(listed[j]? = some true↔j<k))→
    WL true P ops Q (ops.drop k) F1 w1→wpAnyIn (fen ro) 0 P .any ops.toArray (KS n Q) fuel listed (mk n F1) w1:=by
  have fin:∀ (k:Nat) (listed:Array Bool) (F1:Fr) (w1:World),listed.size=ops.length→k≤ops.length→(∀ j,j<ops.length→(listed[j]? = some true↔j<k))→WL true P ops Q (ops.drop k) F1 w1→Region.ready .any ops.toArray listed=[]→KS n Q .normal (mk n F1) w1:=by
    intro k listed F1 w1 hsz hkn hl h hr
    by_cases hkl:k<ops.length
    · have:=RT hd hsz hkl (fun e=>by have:=(hl k hkl).1 e;omega) (fun j hj=>(hl j (by omega)).2 hj)
      rw [hr] at this;cases this
    · rw [List.drop_eq_nil_of_le (by omega)] at h
      exact ⟨F1,rfl,h⟩
  intro fuel
  induction fuel with
  | zero=>
    intro k listed F1 w1 hsz hmk hfu hkn hl h
    have hr:Region.ready .any ops.toArray listed=[]:=by
      unfold Region.ready
      rw [List.filter_eq_nil_iff]
      intro j hj
      have hjl:j<ops.length:=by simpa using hj
      have h1:=(hl j hjl).2 (by omega)
      have:j<listed.size:=by omega
      rw [Array.getElem?_eq_getElem this] at h1
      simp only [Option.some.injEq] at h1
      simp [this,h1]
    exact ⟨hr,fin k listed F1 w1 hsz hkn hl h hr⟩
  | succ fuel ih=>
    intro k listed F1 w1 hsz hmk hfu hkn hl h
    refine ⟨fin k listed F1 w1 hsz hkn hl h,fun i hi=>?_⟩
    obtain ⟨hnl,hil⟩:=KG hi hsz
    have hki:k≤i:=by
      rcases Nat.lt_or_ge i k with h1|h1
      · have:=(hl i hil).2 h1;rw [hnl] at this;cases this
      · exact h1
    have hdown:∀ i,listed[i]? = some true→∀ j∈KD ops i,listed[j]? = some true:=by
      intro i hi j hj
      have h1:i<ops.length:=by have:=(Array.getElem?_eq_some_iff.1 hi).1;omega
      have h2:=(hl i h1).1 hi
      have h3:=hd.back i h1 j hj
      exact (hl j (by omega)).2 (by omega)
    have hik:i=k:=by
      rcases Nat.eq_or_lt_of_le hki with e|hlt
      · exact e.symm
      · have h1:=NP hd hsz hdown hi (by omega) k hlt
        have:=(hl k (by omega)).1 h1;omega
    subst hik
    have ho:ops[i]? = some ops[i]:=List.getElem?_eq_getElem hil
    rw [List.drop_eq_getElem_cons hil] at h
    have hl':∀ j,j<ops.length→((listed.setIfInBounds i true)[j]? = some true↔j<i+1):=by
      intro j hj
      rw [Array.getElem?_setIfInBounds]
      by_cases hji:i=j
      · subst hji;simp;omega
      · rw [if_neg hji,hl j hj];omega
    refine wpOpIn_F (K:=fun F w=>WL true P ops Q (ops.drop (i+1)) F w) hok ho (fun F w hK=>ih (i+1) _ F w (by simpa using hsz) (by omega) (by omega) (by omega) hl' hK) (fun hw=>?_) (fun hw=>?_)
    · unfold WL at h;rw [if_pos hw] at h;exact h
    · unfold WL at h;rw [if_neg (by rw [hw];simp)] at h;exact h
theorem draw_runY {ops:List Oper} {m:Nat} {Ts:List Pr} {F:Fr} {w:World} (hd:DOk ops m) (hok:ops.all (PI n ops)=true) (hst:∀ i v w w',OP Ts i v w→Keep [] w w'→OP Ts i v w') (hm:m≤ops.length) (hlen:Ts.length=m)
    (hs:OH P ops m Ts F w 0 (ops.take m) Ts)
    (fin:∀ F1 w1,Keep [] w w1→(∀ i o d,i<m→ops[i]? = some o→o.dst=some d→OP Ts i (F1 d) w1)→(∀ t,(∀ j o,j<m→ops[j]? = some o→o.dst≠some t)→F1 t=F t)→WL true P ops Q (ops.drop m) F1 w1) :
    ∀ (fuel:Nat) (listed:Array Bool) (F1:Fr) (w1:World),listed.size=ops.length→OL ops listed≤fuel→(∀ j,m≤j→listed[j]?≠some true)→DInv ops m Ts F w listed F1 w1→wpAnyIn (fen ro) 0 P .any ops.toArray (KS n Q) fuel listed (mk n F1) w1:=by
  intro fuel
  -- all of the first m are listed: on to the tail
  have toTail:∀ (fuel:Nat) (listed:Array Bool) (F1:Fr) (w1:World),listed.size=ops.length→OL ops listed≤fuel→(∀ j,m≤j→listed[j]?≠some true)→DInv ops m Ts F w listed F1 w1→(∀ j,j<m→listed[j]? = some true)→wpAnyIn (fen ro) 0 P .any ops.toArray (KS n Q) fuel listed (mk n F1) w1:=by
    intro fuel listed F1 w1 hsz hfu hno hi hall
    have hfl:ops.length≤m+fuel:=by
      have:ops.length - m≤OL ops listed:=by
        unfold OL
        have e:List.range ops.length=List.range m++(List.range (ops.length - m)).map (m + ·):=by
          rw [← List.range_add];congr 1;omega
        rw [e,List.countP_append]
        have:((List.range (ops.length - m)).map (m + ·)).countP (fun j=>listed[j]? != some true)=ops.length - m:=by
          rw [List.countP_eq_length.2]
          · simp
          · intro j hj
            obtain ⟨q,_,rfl⟩:=List.mem_map.1 hj
            have:=hno (m+q) (by omega)
            simpa using this
        omega
      omega
    refine tail_runY hd hok fuel m listed F1 w1 hsz (Nat.le_refl _) hfl hm (fun j hj=>⟨fun h=>?_,fun h=>hall j h⟩) (fin F1 w1 hi.keep (fun i o d him ho hdst=>hi.fact i o d him (hall i him) ho hdst) (fun t ht=>hi.free t (fun j o hj ho=>?_)))
    · rcases Nat.lt_or_ge j m with h1|h1
      · exact h1
      · exact absurd h (hno j h1)
    · rcases Nat.lt_or_ge j m with h1|h1
      · exact ht j o h1 ho
      · exact absurd hj (hno j h1)
  induction fuel with
  | zero=>
    intro listed F1 w1 hsz hfu hno hi
    refine toTail 0 listed F1 w1 hsz hfu hno hi (fun j hj=>?_)
    have h0:OL ops listed=0:=by omega
    unfold OL at h0
    have:=List.countP_eq_zero.1 h0 j (by simp;omega)
    simpa using this
  | succ fuel ih=>
    intro listed F1 w1 hsz hfu hno hi
    by_cases hall:∀ j,j<m→listed[j]? = some true
    · exact toTail (fuel+1) listed F1 w1 hsz hfu hno hi hall
    · have hex:∃ j,j<m∧listed[j]?≠some true:=by
        refine Classical.byContradiction fun hc=>hall fun j hj=>Classical.byContradiction fun hn=>hc ⟨j,hj,hn⟩
      -- the first that is not listed is ready
      have hmin:∀ q j,q=j→j<m→listed[j]?≠some true→∃ k,k<m∧listed[k]?≠some true∧∀ i,i<k→listed[i]? = some true:=by
        intro q
        induction q using Nat.strongRecOn with
        | _ q ihq=>
          intro j hqj hj hn
          by_cases hb:∀ i,i<j→listed[i]? = some true
          · exact ⟨j,hj,hn,hb⟩
          · have:∃ i,i<j∧listed[i]?≠some true:=Classical.byContradiction fun hc=>hb fun i hi=>Classical.byContradiction fun hn=>hc ⟨i,hi,hn⟩
            obtain ⟨i,hij,hni⟩:=this
            exact ihq i (by omega) i rfl (by omega) hni
      obtain ⟨j0,hj0,hn0⟩:=hex
      obtain ⟨k,hkm,hkn,hkb⟩:=hmin j0 j0 rfl hj0 hn0
      refine ⟨fun h0=>?_,fun i hir=>?_⟩
      · have:=RT hd hsz (by omega) hkn hkb
        rw [h0] at this;cases this
      · obtain ⟨hnl,hil⟩:=KG hir hsz
        have him:i<m:=by
          rcases Nat.lt_or_ge i m with h1|h1
          · exact h1
          · exact absurd (NP hd hsz hi.down hir h1 k (by omega)) hkn
        have ho:ops[i]? = some ops[i]:=List.getElem?_eq_getElem hil
        have haft:=HR ho hir hsz (fun j hj=>Nat.lt_trans (hd.back i hil j hj) hil)
        have hT:Ts[i]? = some Ts[i]:=List.getElem?_eq_getElem (by omega)
        have hsp:=hs.at_ (ops.take m) Ts 0 i ops[i] Ts[i] (by rw [List.getElem?_take,if_pos him];exact ho) hT
        rw [Nat.zero_add] at hsp
        have hTi:OP Ts i=Ts[i]:=by unfold OP;rw [hT];rfl
        have hsp':=hsp F1 w1 hi.keep (fun t ht=>hi.free t (fun j oj hj hoj=>by
          intro e
          unfold OT at ht
          have h1:=List.all_eq_true.1 ht j (by simp;exact (List.getElem?_eq_some_iff.1 hoj).1)
          rw [hoj] at h1
          simp only [e,Bool.or_eq_true,List.contains_iff_mem] at h1
          rcases h1 with h1|h1
          · simp at h1
          · have:=hi.down j hj i h1
            rw [hnl] at this;cases this)) (fun j d hdep=>by
          unfold WS at hdep
          simp only [Bool.and_eq_true] at hdep
          obtain ⟨⟨h1,h2⟩,h3⟩:=hdep
          have hjl:=haft j (by simpa using h2)
          cases hoj:ops[j]? with
          | none=>rw [hoj] at h1;cases h1
          | some oj=>
            rw [hoj] at h1
            simp only [Option.bind_some] at h1
            cases hd':oj.dst with
            | none=>rw [hd'] at h1;cases h1
            | some e=>
              rw [hd'] at h1
              have:=Nat.eq_of_beq_eq_true h1
              subst this
              exact hi.fact j oj e (blt h3) hjl hoj hd')
        have hdist:∀ (j:Nat) (oj:Oper),j<m→j≠i→ops[j]? = some oj→oj.dst≠none→oj.dst≠ops[i].dst:=fun j oj hj hji hoj hne=>hd.dist j i oj ops[i] hj him hji hoj ho hne
        have hno':∀ j,m≤j→(listed.setIfInBounds i true)[j]?≠some true:=fun j hj=>by
          rw [Array.getElem?_setIfInBounds,if_neg (by omega)];exact hno j hj
        refine wpOpIn_F (K:=fun F2 w2=>DInv ops m Ts F w (listed.setIfInBounds i true) F2 w2) hok ho (fun F2 w2 hK=>ih _ F2 w2 (by simpa using hsz) (by have:=HZ hil hsz hnl;omega) hno' hK) (fun hw=>.inl ?_) (fun hw=>?_)
        · have h1:=hsp'.1 hw
          unfold DY at h1 ⊢
          generalize (execOp (CU F1) ⟨none,ops[i].op,ops[i].type,"",#[],none⟩).run P w1=r at h1 ⊢
          have use:∀ v w2,Keep [] w1 w2∧Ts[i] v w2→DInv ops m Ts F w (listed.setIfInBounds i true) (HU F1 ops[i].dst v) w2:=fun v w2 ⟨hk,hv⟩=>hi.step hst hsz hil ho haft hdist hk (fun _ _ _=>by rw [hTi];exact hv)
          cases r with
          | ok x w'=>
            cases x <;> simp only [HB] at h1 ⊢ <;> try exact h1.elim
            case value v=>exact use _ _ h1
            case skip=>exact use _ _ h1
            case enter f args=>
              exact Calls.mono h1 fun e w'' he=>by
                cases e with
                | returned v=>exact use _ _ he
                | panicked c=>exact he.elim
                | outgrown=>exact he.elim
          | halt x w'=>cases x <;> simp only [HB] at h1 ⊢ <;> exact h1.elim
        · have h1:=hsp'.2 hw
          exact hi.step hst hsz hil ho haft hdist (Keep.refl _ _) (fun _ _ _=>by rw [hTi];exact h1)
theorem cw_drawY0 {id:Nat} {ops:List Oper} {F:Fr} {w:World} (m:Nat) (Ts:List Pr) (hm:P.follows .mixedOrders=true) (hok:ops.all (PI n ops)=true) (hd:TI ops m=true) (hlen:(Nat.beq Ts.length m && Nat.ble m ops.length)=true) (hst:∀ T∈Ts,∀ v w w',T v w→Keep [] w w'→T v w')
    (hs:OH P ops m Ts F w.drew 0 (ops.take m) Ts)
    (fin:∀ F1 w1,Keep [] w w1→(∀ i d,depAt' ops i d=true→i<m→OP Ts i (F1 d) w1)→(∀ t,OG ops m t=true→F1 t=F t)→WL true P ops Q (ops.drop m) F1 w1):CW P (ro:=ro) n (.region id ops.toArray true) Q F w:=by
  simp only [Bool.and_eq_true] at hlen
  have hle:m≤ops.length:=Nat.le_of_ble_eq_true hlen.2
  have hdr:({ w with drawn:=w.drawn+1 }:World)=w.drew:=rfl
  refine wpIn_region_any hm ?_
  rw [hdr,List.size_toArray]
  refine draw_runY (DOk.of hd) hok (fun i v w w' h hk=>?_) hle (Nat.eq_of_beq_eq_true hlen.1) hs (fun F1 w1 hk h1 h2=>fin F1 w1 ((Keep.drew [] w).trans hk) (fun i d hdp him=>?_) (fun t ht=>h2 t (fun j o hj ho e=>?_))) ops.length _ F w.drew (by simp) ?_ (fun j _=>?_) ⟨Keep.refl _ _,fun i hi=>?_,fun i o d _ hi=>?_,fun _ _=>rfl⟩
  · unfold OP at h ⊢
    cases hT:Ts[i]? with
    | none=>rw [hT] at h;exact trivial
    | some T=>rw [hT] at h;exact hst T (List.mem_of_getElem? hT) v w w' h hk
  · unfold depAt' at hdp
    cases ho:ops[i]? with
    | none=>rw [ho] at hdp;cases hdp
    | some o=>
      rw [ho] at hdp
      simp only [Option.bind_some] at hdp
      cases hd':o.dst with
      | none=>rw [hd'] at hdp;cases hdp
      | some e=>
        rw [hd'] at hdp
        have:=Nat.eq_of_beq_eq_true hdp
        subst this
        exact h1 i o e him ho hd'
  · unfold OG at ht
    have h3:=List.all_eq_true.1 ht o (List.mem_of_getElem? (by rw [List.getElem?_take,if_pos hj];exact ho))
    rw [e] at h3;simp at h3
  · unfold OL;exact Nat.le_trans (List.countP_le_length) (by simp)
  all_goals simp_all [Array.getElem?_replicate]
theorem cw_drawY {id:Nat} {ops:List Oper} {F:Fr} {w:World} (m:Nat) (pre tl:List Oper) (Ts:List Pr) (hm:P.follows .mixedOrders=true) (hok:ops.all (PI n ops)=true) (hd:TI ops m=true) (hlen:(Nat.beq Ts.length m && Nat.ble m ops.length)=true) (hpre:ops.take m=pre) (htl:ops.drop m=tl) (hst:Stab Ts)
    (hs:OH P ops m Ts F w.drew 0 pre Ts)
    (fin:∀ F1 w1,Keep [] w w1→(∀ i d,depAt' ops i d=true→i<m→OP Ts i (F1 d) w1)→(∀ t,OG ops m t=true→F1 t=F t)→WL true P ops Q tl F1 w1):CW P (ro:=ro) n (.region id ops.toArray true) Q F w:=by
  subst hpre;subst htl
  exact cw_drawY0 m Ts hm hok hd hlen hst.of hs fin
end
section
variable {P:Program} {ty:TypeId} {F:Fr} {w:World} {K:Value→World→Prop} {Z:List PanicEntry→World→Prop} {x y:Operand}
end
end Go.Fw
namespace Go.Proofs.Ytjgfokolnkhafaa
open Go.Fw Go.RowKit
set_option maxHeartbeats 4000000 in
set_option maxRecDepth 100000 in
theorem c_cloneB {O:List Nat} (l_v:Value) (l:List UInt8) (w:World) (a0:BB Enc.u8 w O l_v l) (hpre0:l.length≤1000000) (hO:∀ b∈O,b<w.heap.size):CE Try.prog 98 [l_v] w (fun v w'=>∃ (x0:Value),v=x0∧(∀ b,x0.ownBlock=some b→w.heap.size≤b)∧ED Enc.u8 5 w.heap.size (x0.ownBlock.toList++(O)) w' x0 (l)):= by
 have c2:=a0.len_le
 have a0:BB Enc.u8 w ([]++O) l_v l:=a0
 have s0:St w O w []:=St.start hO
 refine BI 8 Try.func98 rfl rfl oT (fun F0=>AF (AB kR (AA (AD (nS) rfl (AG (AC (AF (AF (AB kR (AA (AE (l_v) rfl (AA (KF U23_ rfl rfl a0 fun a1 a9=>(AG (AC (AJ (a1) rfl rfl (fun a2=>?_) (fun a2=>?_)))))))))))))))))
 ·have b8:a1=true:=by simpa using a2
  refine AF (AB kR (AA (AD (nS) rfl (AG (AC (AM (AK (AS rfl (CN rfl rfl rfl) (?_)))))))))
  have a3:l=[]:=a9 aS
  have b9:BB Enc.u8 w ([]++O) (.slice none 0 0) (l):=by rw [a3];exact BB.nil _ _ _
  exact ⟨_,rfl,s0.keep,⟨.slice none 0 0,rfl,(fun b hb=>by simp [Value.ownBlock] at hb),(by rw [a3];exact ED.nil _ _ _ _ _)⟩⟩
 have c0:a1=false:=by simpa using a2
 refine AO (AC (AF (AB kR (AA (HT (E:=Enc.u8) (xs:=[]) U23_ GK VF (by decide) [] [] [] rfl rfl rfl (Parts.nil _ _ _) oT s0 fun b2 b3 c3 b4 a4 b5 b6 c4 b0=>(?_))))))
 have b1:∀ b,b2.ownBlock=some b→b∈(b3 :: []):=fun b hb=>by rw [a4] at hb;cases hb;simp
 clear b4 a4
 have a0:=a0.mv b6
 refine AA (AE (l_v) rfl (AA (CY (E:=Enc.u8) (l:=[]) (m:=l) U23_ RI rfl (by decide) rfl rfl b0 a0 (fun _ hb=>.inl hb) b1 (by simp;omega) (by simp [maxLen];omega) b5 fun a7 c5 c6 a5 c1 b7 a8 c7 c8 a6=>(?_))))
 rw [List.nil_append] at a6
 refine AA (AD (a7) rfl (AG (AC (AM (AS rfl (CN rfl rfl rfl) (?_))))))
 exact ⟨_,rfl,a8.keep,⟨a7,rfl,(fun b hb=>(a8.new b (a5 b hb)).1),(a6.sub (fun x hx=>.inl ((List.mem_append.1 hx).elim (fun h=>List.mem_append_left _ (a5 x (by simpa using h))) (fun h=>List.mem_append_right _ h))))⟩⟩
set_option maxHeartbeats 4000000 in
set_option maxRecDepth 100000 in
theorem c_xor {O:List Nat} (x_v:Value) (x:List UInt8) (y_v:Value) (y:List UInt8) (w:World) (a7:BB Enc.u8 w O x_v x) (a1:BB Enc.u8 w O y_v y) (hpre0:x.length≤1000000) (hpre1:x.length≤y.length) (hO:∀ b∈O,b<w.heap.size):CE Try.prog 54 [x_v,y_v] w (fun v w'=>∃ (x0:Value),v=x0∧BB Enc.u8 w' (O) x0 (xorM x y)):= by
 have d0:=a7.len_le
 have a7:BB Enc.u8 w ([]++O) x_v x:=a7
 have d1:=a1.len_le
 have a1:BB Enc.u8 w ([]++O) y_v y:=a1
 have s0:St w O w []:=St.start hO
 refine BI 26 Try.func54 rfl rfl oT (fun F0=>AF (AB kR (AA (AD (nS) rfl (AG (AC (AF (AB kR (AA (AE (x_v) rfl (AA (AZ (vs:=[x_v]) enter_98 (c_cloneB (O:=[]++O) x_v x w a7 oM s0.lt) rfl s0 fun a4 d2 d3 d4 b7 b8=>(?_)))))))))))))
 obtain ⟨_,rfl,b0,a2⟩:=b8
 obtain ⟨b9,b1,c6,c0,c1,a2⟩:=own_take s0 b7 b0 a2
 have a1:=a1.mv c1
 refine AA (AD (a4) rfl (AG (AC (AF (AF (AB kR (AA (AE (a4) rfl (AA (SO U23_ rfl a2 (AA (AE (vI 0) rfl (AG (AC (BA (CX (fun mI FI wI=>∃ (k:Nat) (a0:Value) (B:List Nat),k≤x.length∧mI=x.length - k∧(∃ F1,FI=FR F1 [(1,y_v),(5,a0),(10,vI (x.length:Int)),(11,vI ((k:Nat):Int)),(26,undef)])∧St w O wI B∧ED Enc.u8 5 w.heap.size (B++O) wI a0 (NK x y k)∧(∀ b,a0.ownBlock=some b→b∈B)∧BB Enc.u8 wI (B++O) (y_v) (y)) (x.length - (0)) ?_ ?_))))))))))))))))
 ·exact ⟨(0),a4,b9,oM,rfl,⟨_,AP _ ⟨rfl,rfl,rfl,(by rfl),rfl,trivial⟩⟩,c0,(by rw [show NK x y (0)=x from xorP_zero _ _];exact a2),b1,a1⟩
 intro e0 F c7 hI
 clear a1
 obtain ⟨k,a0,b2,hr0_0,e1,⟨e2,rfl⟩,b3,ho0_5,a8,a1⟩:=hI
 refine AF (AB kR (AA (DO .i64 ((k:Nat):Int) (x.length:Int) rfl rfl (AG (AC (AF (AJ (decide (((k:Nat):Int)<(x.length:Int))) rfl rfl (fun a3=>?_) (fun a3=>?_))))))))
 ·have c8:((k:Nat):Int)<(x.length:Int):=by simpa using a3
  refine AO (AC (AF (BA (AF (AB kR (AA (AE (vI ((k:Nat):Int)) rfl (AA (AD (vI ((k:Nat):Int)) rfl (AG (AC (FJ 10 _ _ kR kR kR kR kR rfl rfl fun c2 a5=>?_))))))))))))
  have c3:=b3.call a5
  have a9:Mv b2 c7 b2 c2:=Mv.of_keep a5
  have a1:=a1.mv a9
  have ho0_5:=ho0_5.mv a9 a5 (by simp)
  refine BM (AE (a0) rfl (BM (AE (vI ((k:Nat):Int)) rfl (BM (EF U23_ GK .i64 ((k:Nat):Int) k rfl rfl rfl ho0_5 (by have:=HO x y k;omega) fun d5 b4=>(BM (JW U5_ rfl rfl ho0_5 b4 (by have:=HO x y k;omega) (BM (AE (y_v) rfl (BM (AE (vI ((k:Nat):Int)) rfl (BM (CP U23_ GK .i64 ((k:Nat):Int) k rfl rfl rfl a1 (by have:=HO x y k;omega) fun d6 b5=>(BM (EM U5_ rfl rfl b5 (BM (JT ((NK x y k)[k]!) (y[k]!) rfl rfl (BM (EF U23_ GK .i64 ((k:Nat):Int) k rfl rfl rfl ho0_5 (by have:=HO x y k;omega) fun d7 a6=>(EQ (CB (IS (((NK x y k)[k]!) ^^^ (y[k]!)) GK rfl rfl rfl ho0_5 a6 (a8 _ a6) (by have:=HO x y k;omega) rfl c3 fun d8 c4 c5 d9 b6=>(?_)))))))))))))))))))))))
  have a1:=a1.mv c5
  refine AG (BZ (AC (AB kR (AA (DC .i64 ((k:Nat):Int) (1:Int) (((k+1:Nat):Int)) rfl rfl (FQ oM oM) (AA (AE (vI ((k+1:Nat):Int)) rfl (AG (AC (?_))))))))))
  exact ⟨_,oM,(k+1),a0,b2,oM,rfl,⟨_,AP _ ⟨rfl,rfl,rfl,(by rfl),rfl,trivial⟩⟩,c4,(by rw [show NK x y (k+1)=(NK x y k).set k (((NK x y k)[k]!) ^^^ (y[k]!)) from (xorP_set oM).symm];exact b6),a8,a1⟩
 have c9:(x.length:Int)≤((k:Nat):Int):=by simpa using a3
 obtain rfl:k=x.length:=by omega
 refine CV (BL (BL (CL (AC (AF (AB kR (AA (AE (a0) rfl (AA (AD (a0) rfl (AG (AC (AM (AS rfl (CN rfl rfl rfl) (?_)))))))))))))))
 have e:(xorM x y)=(NK x y x.length):=by exact (xorP_all _ _).symm
 exact ⟨_,rfl,b3.keep,by rw [e];exact ⟨a0,rfl,ho0_5.pub b3⟩⟩
set_option maxHeartbeats 4000000 in
set_option maxRecDepth 100000 in
theorem c_pairs11 {O:List Nat} (x_cs:List Value) (x:Share) (s_a:Addr) (s:Share) (w:World) (a1:Enc.share.rd w O x_cs x) (a0:PT Enc.share w O (.pointer (some s_a)) s) (hO:∀ b∈O,b<w.heap.size):CE Try.prog 97 [.agg x_cs.toArray, .pointer (some s_a)] w (fun v _=>v = .bool (x.index == s.index)):= by
 have a1:Enc.share.rd w ([]++O) x_cs x:=a1
 have a0:PT Enc.share w ([]++O) (.pointer (some s_a)) s:=a0
 have s0:St w O w []:=St.start hO
 refine BI 9 Try.func97 rfl rfl oT (fun F0=>AF (AB kR (AA (ER (E:=Enc.share) (vA x_cs.toArray) (x_cs) x rfl rfl a1 s0 fun a7 a8 a5 a6 a9 a2=>(?_)))))
 have a0:=a0.mv a6
 refine AA (AD (vO false) rfl (AG (AC (AF (AB kR (AA (BH 1 KJ (x.index) rfl a2 (fun _ _ _ h=>IL h) fun b0 a3=>(AA (CC U3_ rfl rfl a3 (AA (BH 1 KJ (s.index) rfl a0 (fun _ _ _ h=>IL h) fun b1 a4=>(AA (CC U3_ rfl rfl a4 (AA (GO .i64 x.index s.index rfl rfl (AA (AD (vO (x.index == s.index)) rfl (AG (AC (AM (AS rfl (CN rfl rfl rfl) (?_))))))))))))))))))))))
 exact ⟨_,rfl,a5.keep,rfl⟩
set_option maxHeartbeats 4000000 in
set_option maxRecDepth 100000 in
theorem c_pairs {O:List Nat} (l_v:Value) (l:List Share) (others_v:Value) (others:List Share) (w:World) (a2:BB Enc.share w O l_v l) (a0:BB Enc.share w O others_v others) (hO:∀ b∈O,b<w.heap.size):CE Try.prog 53 [l_v,others_v] w (fun v w'=>∃ (a0_0:Addr) (a0_1:Addr),v = .func (.func 95) #[] #[.pointer (some a0_0), .pointer (some a0_1)]∧PT (Enc.slice Enc.share) w' (O) (.pointer (some a0_0)) (l)∧PT (Enc.slice Enc.share) w' (O) (.pointer (some a0_1)) (others)):= by
 have b1:=a2.len_le
 have a2:BB Enc.share w ([]++O) l_v l:=a2
 have a6:=a0.len_le
 have a0:BB Enc.share w ([]++O) others_v others:=a0
 have s0:St w O w []:=St.start hO
 refine BI 6 Try.func53 rfl rfl oT (fun F0=>AF (AB kR (AA (ER (E:=(Enc.slice Enc.share)) (l_v) ([l_v]) l rfl (GC a2.oneCell) ⟨_,rfl,a2⟩ s0 fun a3 b2 a7 a8 b3 a1=>(?_)))))
 have a0:=a0.mv a8
 refine AA (ER (E:=(Enc.slice Enc.share)) (others_v) ([others_v]) others rfl (GC a0.oneCell) ⟨_,rfl,a0⟩ a7 fun a4 b4 a9 b0 b5 a5=>(?_))
 have a1:=a1.mv b0
 refine AA (AD (Value.nilFunc) rfl (AG (AC (AF (AB kR (AA (DP (first:=[]) (captured:=[.tmp 2, .tmp 3]) [] [vP (some a3),vP (some a4)] rfl rfl (AA (AD (vN (.func 95) #[] #[vP (some a3),vP (some a4)]) rfl (AG (AC (AM (AS rfl (CN rfl rfl rfl) (?_))))))))))))))
 exact ⟨_,rfl,a9.keep,⟨_,_,rfl,(a1.sub (fun b hb=>.inl (List.mem_append_right _ hb))),(a5.sub (fun b hb=>.inl (List.mem_append_right _ hb)))⟩⟩
end Go.Proofs.Ytjgfokolnkhafaa
