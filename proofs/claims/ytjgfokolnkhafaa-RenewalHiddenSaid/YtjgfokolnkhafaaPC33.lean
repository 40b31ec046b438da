/- What the laws of this part rest on: lemmas, and the walks of the functions. No conditions. -/
import Derived.WalkKit
import Derived.WalkSpells
import Derived.WalkLawsBesides
import Derived.RangeFuncLeaves
import Derived.Maps.AppendAt
import Derived.Deep.AppendLies
import Derived.Deep.Slices
import Derived.OpenShut
import Derived.ProofKit
import Derived.Below
import Derived.ChangeSame
import Derived.Carry
import Derived.RangeFuncRecord
import Derived.Laws.Tables
import Derived.Recover
import Derived.DefersIn
import Derived.Lib.AppendZerosOnto
import Derived.Lib.Overlaps
import Derived.Laws.CopyRow
import Derived.Laws.StructEq
import Derived.ChangeKeysEq
import Derived.OrdersIn
import Derived.Test.YtjgfokolnkhafaaRows
import Derived.Test.YtjgfokolnkhafaaPC32
set_option linter.unusedSimpArgs false
set_option linter.unusedVariables false
namespace Go.Proofs.Ytjgfokolnkhafaa
open Go.Fw Go.RowKit
set_option maxHeartbeats 4000000 in
set_option maxRecDepth 100000 in
theorem VC {O:List Nat} (a:UInt8) (b:UInt8) (w:World) (hO:∀ b∈O,b<w.heap.size):CD Try.prog 93 [vB a,vB b] w (fun v _=>v=vB (BV a b)):= by
 have s0:St w O w []:=St.start hO
 refine BK 46 Try.func93 rfl rfl oT (fun F0=>AI (AC kR (AA (AF (vB (0:UInt8)) rfl (AH (AD (AI (AC kR (AA (CU [vB (0:UInt8),vB (0:UInt8),vB (0:UInt8),vB (0:UInt8),vB (0:UInt8),vB (0:UInt8),vB (0:UInt8),vB (0:UInt8)] z_134 rfl s0 fun a5 b4 b5 b6 d5 d6 a6=>(?_)))))))))))
 clear b5
 have a6:HC b4 a5 134 ((List.replicate 8 (0:UInt8)).map vB):=a6
 refine AH (AD (AI (AC kR (AA (AG (vB a) rfl (AA (NT U134_ IR .i64 (0:Int) 0 rfl rfl rfl oM (BX (CJ (vB a) rfl rfl rfl IR (by repeat (constructor)) a6 (by rw [List.length_map,show (List.replicate 8 (0:UInt8)).length=8 from by simp [GJ]];omega) b6 fun d7 b7 c7 c8 a7=>(?_))))))))))
 rw [arr_set] at a7
 refine AH (AD (AI (AI (AC kR (AA (AF (vI 1) rfl (AH (AD (BO (DJ (fun mI FI wI=>∃ (k:Nat) (B:List Nat),0<k∧k≤8∧mI=8 - k∧(∃ F1,FI=GO F1 [(1,vB b),(4,vB (0:UInt8)),(5,vP (some ⟨a5,0,none⟩)),(6,vI ((k:Nat):Int)),(46,undef)])∧St w O wI B∧HC wI a5 134 ((DT a k).map vB)∧a5∈B) (8 - (1)) ?_ ?_))))))))))
 ·exact ⟨(1),(a5 :: []),oM,oM,rfl,⟨_,BB _ ⟨rfl,rfl,rfl,(by rfl),rfl,trivial⟩⟩,b7,(by rw [show DT a (1)=(List.replicate 8 (0:UInt8)).set 0 a from by rfl];exact a7),(by (repeat (exact List.mem_cons_self)))⟩
 intro d8 F b8 hI
 obtain ⟨k,b0,hr0_0,hr0_1,d9,⟨e0,rfl⟩,b1,hbx_0_b91,b3⟩:=hI
 refine AI (AI (AC kR (AA (AG (vI ((k:Nat):Int)) rfl (AA (DY .i64 ((k:Nat):Int) (8:Int) rfl rfl (AH (AD (AN (decide (((k:Nat):Int)<(8:Int))) rfl rfl (fun a1=>?_) (fun a1=>?_))))))))))
 ·have b9:((k:Nat):Int)<(8:Int):=by simpa using a1
  refine AW (AD (AI (BO (AI (AC kR (AA (AG (vI ((k:Nat):Int)) rfl (AA (JM .i64 ((k:Nat):Int) (1:Int) (((k - 1:Nat):Int)) rfl rfl (GR oM oM) (AA (NT U134_ IR .i64 ((k - 1:Nat):Int) (k - 1) rfl rfl rfl oM (AA (BH U5_ rfl (vB (DT a k)[k - 1]!) rfl hbx_0_b91 (arr_get (by rw [show (DT a k).length=8 from by simp [GJ]];omega)) (AA (AF (vB ((DT a k)[k - 1]!)) rfl (AH (AD (AI (AC kR (AA (AG (vI ((k:Nat):Int)) rfl (AA (AG (vB ((DT a k)[k - 1]!)) rfl (AA (o_shl8 .u64 ((DT a k)[k - 1]!) 1 oM rfl rfl (AA (NT U134_ IR .i64 ((k:Nat):Int) k rfl rfl rfl oM (BX (CJ (vB (((DT a k)[k - 1]!) <<< UInt8.ofNat 1)) rfl rfl rfl IR (by repeat (assumption)) hbx_0_b91 (by rw [List.length_map,show (DT a k).length=8 from by simp [GJ]];omega) b1 fun c9 a9 d0 d1 a0=>(?_))))))))))))))))))))))))))))))
  rw [arr_set] at a0
  refine AH (AD (AI (AC kR (AA (AG (vB ((DT a k)[k - 1]!)) rfl (AA (JK .u8 (((DT a k)[k - 1]!).toNat:Int) ((128:UInt8).toNat:Int) rfl rfl (AH (AD (AN (decide (((128:UInt8).toNat:Int)≤(((DT a k)[k - 1]!).toNat:Int))) rfl rfl (fun a2=>?_) (fun a2=>?_)))))))))))
  ·have c0:((128:UInt8).toNat:Int)≤(((DT a k)[k - 1]!).toNat:Int):=by simpa using a2
   refine AC kR (AA (AG (vI ((k:Nat):Int)) rfl (AA (NT U134_ IR .i64 ((k:Nat):Int) k rfl rfl rfl oM (AA (BH U5_ rfl (vB ((DT a k).set k (((DT a k)[k - 1]!) <<< UInt8.ofNat 1))[k]!) rfl a0 (arr_get (by rw [show ((DT a k).set k (((DT a k)[k - 1]!) <<< UInt8.ofNat 1)).length=8 from by simp [GJ]];omega)) (AA (OA (((DT a k).set k (((DT a k)[k - 1]!) <<< UInt8.ofNat 1))[k]!) (27:UInt8) rfl rfl (AA (NT U134_ IR .i64 ((k:Nat):Int) k rfl rfl rfl oM (BX (CJ (vB ((((DT a k).set k (((DT a k)[k - 1]!) <<< UInt8.ofNat 1))[k]!) ^^^ (27:UInt8))) rfl rfl rfl IR (by repeat (assumption)) a0 (by rw [List.length_map,show ((DT a k).set k (((DT a k)[k - 1]!) <<< UInt8.ofNat 1)).length=8 from by simp [GJ]];omega) a9 fun d2 b2 d3 d4 a8=>(?_)))))))))))))
   rw [arr_set] at a8
   refine AH (CI (AD (AC kR (AA (AG (vI ((k:Nat):Int)) rfl (AA (DE .i64 ((k:Nat):Int) (1:Int) (((k+1:Nat):Int)) rfl rfl (GR oM oM) (AA (AF (vI ((k+1:Nat):Int)) rfl (AH (AD (?_))))))))))))
   exact ⟨_,oM,(k+1),b0,oM,oM,rfl,⟨_,BB _ ⟨rfl,rfl,rfl,(by rfl),rfl,trivial⟩⟩,b2,(by rw [show DT a (k+1)=((DT a k).set k (((DT a k)[k - 1]!) <<< UInt8.ofNat 1)).set k ((((DT a k).set k (((DT a k)[k - 1]!) <<< UInt8.ofNat 1))[k]!) ^^^ (27:UInt8)) from by symm;exact xrow_hi a k oM oM aS];exact a8),aS⟩
  have c1:(((DT a k)[k - 1]!).toNat:Int)<((128:UInt8).toNat:Int):=by simpa using a2
  refine AW (CI (AD (AC kR (AA (AG (vI ((k:Nat):Int)) rfl (AA (DE .i64 ((k:Nat):Int) (1:Int) (((k+1:Nat):Int)) rfl rfl (GR oM oM) (AA (AF (vI ((k+1:Nat):Int)) rfl (AH (AD (?_))))))))))))
  exact ⟨_,oM,(k+1),b0,oM,oM,rfl,⟨_,BB _ ⟨rfl,rfl,rfl,(by rfl),rfl,trivial⟩⟩,a9,(by rw [show DT a (k+1)=(DT a k).set k (((DT a k)[k - 1]!) <<< UInt8.ofNat 1) from by symm;exact xrow_lo a k oM oM aS];exact a0),aS⟩
 have c2:(8:Int)≤((k:Nat):Int):=by simpa using a1
 obtain rfl:k=8:=by omega
 refine DI (CF (CF (CY (AD (AI (AI (AC kR (AA (BP (vs:=(DT a 8).map vB) U134_ rfl (by rw [List.length_map,show (DT a 8).length=8 from by simp [GJ]];exact s_134) rfl hbx_0_b91 (by rw [List.drop_zero,List.take_length]) (AA (AG (vI 0) rfl (AH (AD (BO (DJ (fun mI FI wI=>∃ (i:Nat),i≤8∧mI=8 - i∧(∃ F1,FI=GO F1 [(1,vB b),(4,vB (gm a b i)),(31,vA ((DT a 8).map vB).toArray),(32,vI ((i:Nat):Int)),(46,undef)])∧b8=wI) (8 - (0)) ?_ ?_)))))))))))))))
 ·exact ⟨(0),oM,rfl,⟨_,BB _ ⟨rfl,(congrArg vB (by rfl)),rfl,(by rfl),rfl,trivial⟩⟩,rfl⟩
 rintro e1 F e2 ⟨i,hr1_0,e3,⟨e4,rfl⟩,rfl⟩
 refine AI (AC kR (AA (DY .i64 ((i:Nat):Int) (8:Int) rfl rfl (AH (AD (AI (AN (decide (((i:Nat):Int)<(8:Int))) rfl rfl (fun a3=>?_) (fun a3=>?_))))))))
 ·have c3:((i:Nat):Int)<(8:Int):=by simpa using a3
  refine AW (AD (AI (BO (AI (AC kR (AA (AG (vI ((i:Nat):Int)) rfl (AA (o_indexV (cs:=(DT a 8).map vB) U134_ IR U5_ rfl .i64 ((i:Nat):Int) i (vB (DT a 8)[i]!) rfl rfl rfl oM (arr_at (by rw [show (DT a 8).length=8 from by simp [GJ]];omega)) (AA (AF (vI ((i:Nat):Int)) rfl (AA (AF (vB ((DT a 8)[i]!)) rfl (AH (AD (AI (AC kR (AA (AG (vB b) rfl (AA (AG (vI ((i:Nat):Int)) rfl (AA (o_shr8 .i64 b i oM rfl rfl (AA (o_and8 (b >>> UInt8.ofNat i) (1:UInt8) rfl rfl (AA (o_eql8 ((b >>> UInt8.ofNat i) &&& (1:UInt8)) (1:UInt8) rfl rfl (AH (AD (AN (((b >>> UInt8.ofNat i) &&& (1:UInt8)) == (1:UInt8)) rfl rfl (fun a4=>?_) (fun a4=>?_)))))))))))))))))))))))))))))))
  ·have c4:(b >>> UInt8.ofNat i) &&& (1:UInt8)=(1:UInt8):=by simpa using a4
   refine AC kR (AA (AG (vB (gm a b i)) rfl (AA (AG (vB ((DT a 8)[i]!)) rfl (AA (OA (gm a b i) ((DT a 8)[i]!) rfl rfl (AA (AF (vB ((gm a b i) ^^^ ((DT a 8)[i]!))) rfl (AH (CI (AD (AC kR (AA (DE .i64 ((i:Nat):Int) (1:Int) (((i+1:Nat):Int)) rfl rfl (GR oM oM) (AA (AG (vI ((i+1:Nat):Int)) rfl (AH (AD (?_)))))))))))))))))))
   exact ⟨_,oM,(i+1),oM,rfl,⟨_,BB _ ⟨rfl,(congrArg vB (by (rw [xrow_at a 8 i oM oM];exact (gm_yes a b i aS).symm))),rfl,(by rfl),rfl,trivial⟩⟩,rfl⟩
  have c5:(b >>> UInt8.ofNat i) &&& (1:UInt8)≠(1:UInt8):=by simpa using a4
  refine AW (CI (AD (AC kR (AA (DE .i64 ((i:Nat):Int) (1:Int) (((i+1:Nat):Int)) rfl rfl (GR oM oM) (AA (AG (vI ((i+1:Nat):Int)) rfl (AH (AD (?_))))))))))
  exact ⟨_,oM,(i+1),oM,rfl,⟨_,BB _ ⟨rfl,(congrArg vB (by exact (gm_no a b i aS).symm)),rfl,(by rfl),rfl,trivial⟩⟩,rfl⟩
 have c6:(8:Int)≤((i:Nat):Int):=by simpa using a3
 obtain rfl:i=8:=by omega
 refine DI (CF (CF (CY (AD (AI (AC kR (AA (AG (vB (gm a b 8)) rfl (AA (AF (vB (gm a b 8)) rfl (AH (AD (AQ (AX rfl (CK rfl rfl rfl) (?_)))))))))))))))
 have e:(BV a b)=(gm a b 8):=rfl
 exact ⟨_,rfl,b1.keep,by rw [e];exact rfl⟩
open Go.Fw Go.RowKit
set_option maxHeartbeats 4000000 in
set_option maxRecDepth 100000 in
theorem c_eval {O:List Nat} (l_v:Value) (l:List UInt8) (x:UInt8) (w:World) (a0:AZ Enc.u8 w O l_v l) (hO:∀ b∈O,b<w.heap.size):CD Try.prog 51 [l_v,vB x] w (fun v _=>v=vB (EB l x)):= by
 have c2:=a0.len_le
 have a0:AZ Enc.u8 w ([]++O) l_v l:=a0
 have s0:St w O w []:=St.start hO
 refine BK 22 Try.func51 rfl rfl oT (fun F0=>AI (AC kR (AA (AF (vB (0:UInt8)) rfl (AH (AD (AI (AI (AC kR (AA (AG (l_v) rfl (AA (CB U23_ rfl a0 (AA (JM .i64 (l.length:Int) (1:Int) ((l.length:Int) - (1:Int)) rfl rfl (GR oM oM) (AA (AF (vI ((l.length:Int) - (1:Int))) rfl (AH (AD (BO (DJ (fun mI FI wI=>∃ (k:Nat) (B:List Nat),k≤l.length∧mI=k∧(∃ F1,FI=GO F1 [(0,l_v),(1,vB x),(4,vB (EB (l.drop k) x)),(5,vI ((k:Int) - 1)),(22,undef)])∧St w O wI B∧AZ Enc.u8 wI (B++O) (l_v) (l)) ((l.length)) ?_ ?_)))))))))))))))))))))
 ·exact ⟨(l.length),[],oM,rfl,⟨_,BB _ ⟨rfl,rfl,(congrArg vB (by rw [List.drop_length];rfl)),(by rfl),rfl,trivial⟩⟩,s0,a0⟩
 intro c9 F a5 hI
 clear a0
 obtain ⟨k,a2,hr0_0,d0,⟨d1,rfl⟩,a7,a0⟩:=hI
 refine AI (AI (AC kR (AA (AG (vI ((k:Int) - 1)) rfl (AA (JK .i64 ((k:Int) - 1) (0:Int) rfl rfl (AH (AD (AN (decide ((0:Int)≤(k:Int) - 1)) rfl rfl (fun a3=>?_) (fun a3=>?_))))))))))
 ·have c3:(0:Int)≤(k:Int) - 1:=by simpa using a3
  obtain ⟨q,rfl⟩:∃ q,k=q+1:=⟨k - 1,by omega⟩
  rw [show ((q+1:Nat):Int) - 1=((q:Nat):Int) from by omega]
  refine AW (AD (AI (BO (cw_draw' 7 _ _ [DB (vB (EB (l.drop (q+1)) x)),DB (vB x),DB (vB (BV (EB (l.drop (q+1)) x) x)),fun (vT:Value) (wT:World)=>AZ Enc.u8 wT (a2++O) vT (l),DB (vI ((q:Nat):Int)),fun (vT:Value) (wT:World)=>∃ aT,vT = .pointer (some aT)∧PT Enc.u8 wT (a2++O) (.pointer (some aT)) (l[q]!),DB (vB (l[q]!))] kR kR kR kR rfl rfl ⟨kI,kI,kI,fun _ _ _ h k=>h.mv (Mv.of_keep k),kI,fun _ _ _ ⟨a,e,h⟩ k=>⟨a,e,h.mv (Mv.of_keep k)⟩,kI,trivial⟩ ⟨?_,?_,?_,?_,?_,?_,?_,trivial⟩ ?_))))
  ·intro F1 w1 k1 hf hd
   obtain ⟨F2,rfl⟩:=AM (F:=F1) [(4,vB (EB (l.drop (q+1)) x))] ⟨hf 4 kR,trivial⟩
   exact AK rfl ((AG (vB (EB (l.drop (q+1)) x)) rfl (⟨(Keep.refl _ _),rfl⟩)))
  ·intro F1 w1 k1 hf hd
   obtain ⟨F2,rfl⟩:=AM (F:=F1) [(1,vB x)] ⟨hf 1 kR,trivial⟩
   exact AK rfl ((AG (vB x) rfl (⟨(Keep.refl _ _),rfl⟩)))
  ·intro F1 w1 k1 hf hd
   have k0:=(Keep.drew [] a5).trans k1
   have s1:=a7.call k0
   obtain ⟨F2,rfl⟩:=AM (F:=F1) [(13,vB (EB (l.drop (q+1)) x)),(14,vB x)] ⟨hd 0 13 kR,hd 1 14 kR,trivial⟩
   refine AK rfl ((BD (vs:=[vB (EB (l.drop (q+1)) x),vB x]) MA (VC (O:=a2++O) (EB (l.drop (q+1)) x) x w1 s1.lt) rfl s1 fun c5 c6 c7 c8 b1 b2=>(?_)))
   obtain rfl:=b2
   exact ⟨b1,rfl⟩
  ·intro F1 w1 k1 hf hd
   have k0:=(Keep.drew [] a5).trans k1
   have m1:Mv a2 a5 a2 w1:=Mv.of_keep k0
   have a0:=a0.mv m1
   obtain ⟨F2,rfl⟩:=AM (F:=F1) [(0,l_v)] ⟨hf 0 kR,trivial⟩
   exact AK rfl ((AG (l_v) rfl (⟨(Keep.refl _ _),a0⟩)))
  ·intro F1 w1 k1 hf hd
   obtain ⟨F2,rfl⟩:=AM (F:=F1) [(5,vI ((q:Nat):Int))] ⟨hf 5 kR,trivial⟩
   exact AK rfl ((AG (vI ((q:Nat):Int)) rfl (⟨(Keep.refl _ _),rfl⟩)))
  ·intro F1 w1 k1 hf hd
   obtain ⟨b3,b4,a6⟩:∃ v,F1 16=v∧AZ Enc.u8 w1 (a2++O) v (l):=⟨_,rfl,hd 3 16 kR⟩
   have:=a6.len_le
   obtain ⟨F2,rfl⟩:=AM (F:=F1) [(16,b3),(17,vI ((q:Nat):Int))] ⟨b4,hd 4 17 kR,trivial⟩
   exact AK rfl ((DF U23_ IR .i64 ((q:Nat):Int) q rfl rfl rfl a6 oM fun b5 a9=>(⟨(Keep.refl _ _),⟨b5,rfl,a9⟩⟩)))
  ·intro F1 w1 k1 hf hd
   obtain ⟨b6,b7,b0⟩:∃ aX_,F1 18 = .pointer (some aX_)∧PT Enc.u8 w1 (a2++O) (.pointer (some aX_)) (l[q]!):=hd 5 18 kR
   obtain ⟨F2,rfl⟩:=AM (F:=F1) [(18,vP (some b6))] ⟨b7,trivial⟩
   exact AK rfl ((HM U5_ rfl rfl b0 (⟨(Keep.refl _ _),rfl⟩)))
  intro b8 b9 a8 a4 a1
  have c0:=a7.call a8
  have c1:Mv a2 a5 a2 b9:=Mv.of_keep a8
  have a0:=a0.mv c1
  obtain ⟨F2,rfl⟩:=AM (F:=b8) [(0,l_v),(1,vB x),(4,vB (EB (l.drop (q+1)) x)),(5,vI ((q:Nat):Int)),(22,undef),(15,vB (BV (EB (l.drop (q+1)) x) x)),(19,vB (l[q]!))] ⟨a1 0 kR,a1 1 kR,a1 4 kR,a1 5 kR,a1 22 kR,a4 2 15 kR (by decide),a4 6 19 kR (by decide),trivial⟩
  clear a4 a1
  refine AA (OA (BV (EB (l.drop (q+1)) x) x) (l[q]!) rfl rfl (AA (AF (vB ((BV (EB (l.drop (q+1)) x) x) ^^^ (l[q]!))) rfl (AH (CI (AD (AC kR (AA (AG (vI ((q:Nat):Int)) rfl (AA (JM .i64 ((q:Nat):Int) (1:Int) (((q:Nat):Int) - (1:Int)) rfl rfl (GR oM oM) (AA (AF (vI (((q:Nat):Int) - (1:Int))) rfl (AH (AD (?_))))))))))))))))
  exact ⟨_,oM,(q),a2,oM,rfl,⟨_,BB _ ⟨rfl,rfl,(congrArg vB (by rw [pev_drop (l:=l) (k:=q) oM])),(by rfl),rfl,trivial⟩⟩,c0,a0⟩
 have c4:(k:Int) - 1<(0:Int):=by (have e:=a3;simp at e;omega)
 obtain rfl:k=0:=by omega
 refine DI (CF (CF (CY (AD (AI (AC kR (AA (AG (vB (EB (l.drop 0) x)) rfl (AA (AF (vB (EB (l.drop 0) x)) rfl (AH (AD (AQ (AX rfl (CK rfl rfl rfl) (?_)))))))))))))))
 have e:(EB l x)=(EB (l.drop 0) x):=rfl
 exact ⟨_,rfl,a7.keep,by rw [e];exact rfl⟩
set_option maxHeartbeats 4000000 in
set_option maxRecDepth 100000 in
theorem c_powers {O:List Nat} (a:UInt8) (w:World) (hO:∀ b∈O,b<w.heap.size):CD Try.prog 108 [vB a] w (fun v w'=>∃ (a0_0:Addr),v = .func (.func 117) #[] #[.pointer (some a0_0)]∧PT Enc.u8 w' (O) (.pointer (some a0_0)) (a)):= by
 have s0:St w O w []:=St.start hO
 refine BK 4 Try.func108 rfl rfl oT (fun F0=>AI (AC kR (AA (DK (E:=Enc.u8) (vB a) ([vB a]) a rfl rfl rfl s0 fun a0 a3 a2 a4 a5 a1=>(AA (AF (Value.nilFunc) rfl (AH (AD (AI (AC kR (AA (CZ (first:=[]) (captured:=[.tmp 1]) [] [vP (some a0)] rfl rfl (AA (AF (vN (.func 117) #[] #[vP (some a0)]) rfl (AH (AD (AQ (AX rfl (CK rfl rfl rfl) (?_)))))))))))))))))))
 exact ⟨_,rfl,a2.keep,⟨_,rfl,(a1.sub (fun b hb=>.inl (List.mem_append_right _ hb)))⟩⟩
set_option maxHeartbeats 4000000 in
set_option maxRecDepth 100000 in
theorem it_powers (w:World) (L:List Nat) (a_a:Addr) (a:UInt8) (a0:PT Enc.u8 w L (.pointer (some a_a)) a) (hL:∀ b∈L,b<w.heap.size) (l:Nat) (N:Nat) (I:Nat→World→Prop) (J:World→Prop) (hI:∀ i w',I i w'→Keep L w w') (hst:∀ i w1 w2,I i w1→Keep [] w1 w2→I i w2) (hN:∀ i w',I i w'→i≤N) (hNb:N<4611686018427387904) (hR:∀ i w',I i w'→LJ Try.prog l [vI ((i:Nat):Int),vB (JQ a i)] w' (fun v w2=>(v = .bool true∧I (i+1) w2)∨(v = .bool false∧J w2))) (h0:I 0 w):Calls Try.prog 117 ([]++[vN (.yield l) #[] #[]]++[vP (some a_a)]).toArray w (fun e w'=>(∃ v,e = .returned v)∧(J w'∨∃ i,False∧I i w')):= by
 have a0:PT Enc.u8 w (L++[]) (.pointer (some a_a)) a:=by rw [List.append_nil];exact a0
 refine CE 14 Try.func117 rfl rfl oT (fun F0=>?_)
 have hk_w:=hI _ _ h0
 have a1:PT Enc.u8 w ([]++L) (.pointer (some a_a)) a:=by have h:=a0.mv (Mv.same hk_w);rw [List.append_nil] at h;exact h
 have a5:St w L w []:=St.start (fun b hb=>Nat.lt_of_lt_of_le (hL b hb) hk_w.size)
 refine AI (AC kR (AA (AF (vB (1:UInt8)) rfl (AH (AD (AI (AC kR (AA (AF (vI 0) rfl (AH (AD (BO (DJ (fun mI FI wI=>∃ k:Nat,mI=N+1 - k∧(∃ F1,FI=GO F1 [(0,vN (.yield l) #[] #[]),(1,vP (some a_a)),(3,vB (JQ a k)),(4,vI ((k:Nat):Int)),(14,undef)])∧I (k) wI) (N+1 - (0)) ?_ ?_)))))))))))))
 ·exact ⟨(0),rfl,⟨_,BB _ ⟨rfl,rfl,(congrArg vB (by rfl)),(by rfl),rfl,trivial⟩⟩,h0⟩
 rintro ml F wl ⟨k,rfl,⟨Fl,rfl⟩,hIl⟩
 have hk_wl:=hI _ _ hIl
 have a1:PT Enc.u8 wl ([]++L) (.pointer (some a_a)) a:=by have h:=a0.mv (Mv.same hk_wl);rw [List.append_nil] at h;exact h
 have a6:St wl L wl []:=St.start (fun b hb=>Nat.lt_of_lt_of_le (hL b hb) hk_wl.size)
 have hkN:=hN _ _ hIl
 refine AI (AI (AC kR (AA (AG (vN (.yield l) #[] #[]) rfl (AA (AG (vI ((k:Nat):Int)) rfl (AA (AG (vB (JQ a k)) rfl (wl_y l [vI ((k:Nat):Int),vB (JQ a k)] rfl rfl ?_)))))))))
 refine LJ.mono (hR k _ hIl) (fun v w2 h=>?_)
 obtain ⟨rfl,hI2⟩|⟨rfl,hJ⟩:=h
 ·have hk_w2:=hI _ _ hI2
  have a1:PT Enc.u8 w2 ([]++L) (.pointer (some a_a)) a:=by have h:=a0.mv (Mv.same hk_w2);rw [List.append_nil] at h;exact h
  have a2:St w2 L w2 []:=St.start (fun b hb=>Nat.lt_of_lt_of_le (hL b hb) hk_w2.size)
  refine AH (AD (AN true rfl rfl (fun _=>AW (AD (AI (BO (AC kR (AA (AG (vB (JQ a k)) rfl (AA (HM U5_ rfl rfl a1 (AA (BD (vs:=[vB (JQ a k),vB a]) MA (VC (O:=[]++L) (JQ a k) a w2 a2.lt) rfl a2 fun a7 a8 a9 b0 a3 a4=>(?_)))))))))))) (fun h=>by cases h)))
  obtain rfl:=a4
  have hI2:=hst _ _ _ hI2 a3
  refine AA (AF (vB (BV (JQ a k) a)) rfl (AH (CI (AD (AC kR (AA (AG (vI ((k:Nat):Int)) rfl (AA (DE .i64 ((k:Nat):Int) (1:Int) (((k+1:Nat):Int)) rfl rfl (GR oM oM) (AA (AF (vI ((k+1:Nat):Int)) rfl (AH (AD (?_))))))))))))))
  exact ⟨_,oM,(k+1),rfl,⟨_,BB _ ⟨rfl,rfl,(congrArg vB (by rfl)),(by rfl),rfl,trivial⟩⟩,hI2⟩
 refine AH (AD (AN false rfl rfl (fun h=>by cases h) (fun _=>DI (CF (CF (CY (FQ rfl (IT rfl) (?_))))))))
 exact ⟨⟨_,rfl⟩, .inl hJ⟩
set_option maxHeartbeats 4000000 in
set_option maxRecDepth 100000 in
theorem c_inverse {O:List Nat} (a:UInt8) (w:World) (hO:∀ b∈O,b<w.heap.size):CD Try.prog 94 [vB a] w (fun v _=>v=vB (GC a)):= by
 have s0:St w O w []:=St.start hO
 refine TZ 12 Try.func94 rfl rfl oT (fun F0=>AI (AC kR (AA (CU [vB (0:UInt8)] z_5 rfl s0 fun a5 d6 d7 c2 f4 f5 a8=>(?_)))))
 clear d7
 refine AH (AD (AI (AI (AC kR (AA (AG (vB a) rfl (AA (BD (vs:=[vB a]) enter_108 (c_powers (O:=(a5 :: [])++O) a d6 c2.lt) rfl c2 fun f6 d8 d9 f7 e0 e1=>(?_)))))))))
 obtain ⟨b3,rfl,a2⟩:=e1
 have a8:=a8.keep e0 (by simp)
 refine AH (AD (BO (cw_range (fs:=[]) (lb:=[vP (some b3)]) rfl rfl enter_117 rfl (fun l_0 D_0 b1 R_0 _ hR_0 c1 d2 b9 a3 a4=>?_))))
 have a6:FM a5 D_0∧FM a5 l_0:=by show a5≠D_0∧a5≠l_0;have:=a8.lt;omega
 have c3:=d9.adopt2 b9 c1 oM a3.lt a4.lt
 have e2:Mv (a5 :: []) d8 (l_0 :: D_0 :: (a5 :: [])) b1:=Mv.adopt2 b9 c1 oM
 have a2:=a2.mv e2
 have a8:=a8.keep b9 (by simp)
 have hDl_0:FM D_0 l_0:=by show D_0≠l_0;omega
 clear d2
 have a0:Mv (l_0 :: D_0 :: (a5 :: [])) b1 (l_0 :: D_0 :: (a5 :: [])) b1:=Mv.refl _ _
 have hL_0:=c3.lt
 refine Calls.mono (it_powers b1 ((l_0 :: D_0 :: (a5 :: []))++O) b3 a a2 hL_0 l_0 (254) (fun (i:Nat) wI=>∃ (B:List Nat),i≤254∧St w O wI B∧PT Enc.u8 wI (B++O) (.pointer (some b3)) (a)∧Ob wI D_0 (.deferred (some []))∧Ob wI l_0 (R_0 .ready none)∧a5∈B∧D_0∈B∧l_0∈B∧Mv (l_0 :: D_0 :: (a5 :: [])) b1 B wI∧HC wI a5 5 [vB (0:UInt8)]) (fun wI=>(∃ (i:Nat) (B:List Nat),St w O wI B∧PT Enc.u8 wI (B++O) (.pointer (some b3)) (a)∧Ob wI D_0 (.deferred (some []))∧Ob wI l_0 (R_0 .done (some (.ret)))∧a5∈B∧D_0∈B∧l_0∈B∧Mv (l_0 :: D_0 :: (a5 :: [])) b1 B wI∧HC wI a5 5 [vB (GC a)])) ?_ ?_ ?_ oM ?_ ?_) (fun e w2 hJ=>⟨hJ.1,?_⟩)
 ·intro i w' hI
  clear a2 a3 a4 a0
  obtain ⟨Bl,hq0_0,sl,a2,a3,a4,a7,a9,b0,a0,a1⟩:=hI
  exact Keep.mono a0.keep (fun b hb=>.inl (List.mem_append_left _ hb))
 ·intro i wa wb hI kk
  clear a2 a3 a4 a0
  obtain ⟨Bl,hq0_0,sl,a2,a3,a4,a7,a9,b0,a0,a1⟩:=hI
  have f1:=sl.call kk
  have d5:Mv Bl wa Bl wb:=Mv.of_keep kk
  have a2:=a2.mv d5
  have a1:=a1.keep kk (by simp)
  have a3:=a3.keep kk (by simp)
  have a4:=a4.keep kk (by simp)
  have a0:=a0.trans d5
  exact ⟨Bl,hq0_0,f1,a2,a3,a4,(by repeat (assumption)),(by repeat (assumption)),(by repeat (assumption)),a0,a1⟩
 ·intro i w' hI
  clear a2 a3 a4 a0
  obtain ⟨Bl,hq0_0,sl,a2,a3,a4,a7,a9,b0,a0,a1⟩:=hI
  omega
 ·intro i wr hI
  clear a2 a3 a4 a0
  obtain ⟨Bl,hq0_0,sl,a2,a3,a4,a7,a9,b0,a0,a1⟩:=hI
  refine UV hR_0 a4 rfl (by decide) (AI (AC kR (AA (AF (vI ((i:Nat):Int)) rfl (AH (AD (AC kR (AA (AF (vB (JQ a i)) rfl (AH (AD (⟨a4,fun c4 b4 b2=>?_⟩))))))))))))
  have c5:=sl.keepB b4 (by repeat (assumption))
  have c6:Mv Bl wr Bl c4:=Mv.keepB b4 (by repeat (assumption))
  have a2:=a2.mv c6
  have a1:=a1.keep b4 (BF a6.2)
  have a3:=a3.keep b4 (BF hDl_0)
  have a0:=a0.trans c6
  refine BO (AI (AC kR (AA (AG (vI ((i:Nat):Int)) rfl (AA (EV .i64 ((i:Nat):Int) (254:Int) rfl rfl (AH (AD (AN (((i:Nat):Int) == (254:Int)) rfl rfl (fun b5=>?_) (fun b5=>?_))))))))))
  ·have f2:((i:Nat):Int)=(254:Int):=by simpa using b5
   refine AI (AC kR (AA (AG (vB (JQ a i)) rfl (BX (CJ (vB (JQ a i)) rfl rfl rfl IR (by repeat (assumption)) a1 oT c5 fun e3 e4 c7 c8 b6=>(?_))))))
   have a2:=a2.mv c7
   have a3:=a3.keep c8 (BF (Ne.symm a6.1))
   have b2:=b2.keep c8 (BF (Ne.symm a6.2))
   have a0:=a0.trans c7
   refine AH (AD (AQ (BY (round_r b2 (fun e5 b7 d3=>?_)))))
   have e6:=e4.keepB b7 (by repeat (assumption))
   have c9:Mv Bl e3 Bl e5:=Mv.keepB b7 (by repeat (assumption))
   have a2:=a2.mv c9
   have b6:=b6.keep b7 (BF a6.2)
   have a3:=a3.keep b7 (BF hDl_0)
   have a0:=a0.trans c9
   have a4:=d3
   refine .inr ⟨rfl,?_⟩
   exact ⟨i,Bl,e6,a2,a3,a4,(by repeat (assumption)),(by repeat (assumption)),(by repeat (assumption)),a0,(by rw [show ([vB (GC a)]:List Value)=[vB (JQ a i)] from by rw [ginv_at a i oM]];exact b6)⟩
  have f3:((i:Nat):Int)≠(254:Int):=by simpa using b5
  refine AW (CI (round_n b2 (fun e7 b8 d4=>?_)))
  have e8:=c5.keepB b8 (by repeat (assumption))
  have d0:Mv Bl c4 Bl e7:=Mv.keepB b8 (by repeat (assumption))
  have a2:=a2.mv d0
  have a1:=a1.keep b8 (BF a6.2)
  have a3:=a3.keep b8 (BF hDl_0)
  have a0:=a0.trans d0
  have a4:=d4
  refine .inl ⟨rfl,?_⟩
  exact ⟨Bl,oM,e8,a2,a3,a4,(by repeat (assumption)),(by repeat (assumption)),(by repeat (assumption)),a0,a1⟩
 ·exact ⟨(l_0 :: D_0 :: (a5 :: [])),oM,c3,a2,a3,a4,(by repeat (constructor)),(by repeat (constructor)),(by repeat (constructor)),a0,a8⟩
 obtain ⟨_,hJ⟩:=hJ
 clear a2 a3 a4 a0
 rcases hJ with (hJ)|⟨i,hi,hJ⟩
 ·obtain ⟨i,Bl,sl,a2,a3,a4,a7,a9,b0,a0,a1⟩:=hJ
  refine ⟨.done,(some (.ret)),by simp,a4,fun f8 c0=>?_⟩
  have e9:=sl.keepB c0 (by repeat (assumption))
  have a1:=a1.keep c0 (BF a6.2)
  have a3:=a3.keep c0 (BF hDl_0)
  refine AQ (BY (AR (endM_rm rfl a3 (fun f9 d1=>?_))))
  have f0:=e9.keepB d1 (by repeat (assumption))
  have a1:=a1.keep d1 (BF a6.1)
  refine ⟨_,resc rfl rfl U5_ rfl rfl a1 rfl,?_⟩
  exact ⟨_,rfl,f0.keep,rfl⟩
 exact hi.elim
open Go.Fw Go.RowKit
set_option maxHeartbeats 4000000 in
set_option maxRecDepth 100000 in
theorem c_wrong {O:List Nat} (xs_v:Value) (xs:List UInt8) (ys_v:Value) (ys:List UInt8) (w:World) (a0:AZ Enc.u8 w O xs_v xs) (a2:AZ Enc.u8 w O ys_v ys) (hO:∀ b∈O,b<w.heap.size):CD Try.prog 91 [xs_v,ys_v] w (fun v _=>v = .bool (FP xs ys)):= by
 have c9:=a0.len_le
 have a0:AZ Enc.u8 w ([]++O) xs_v xs:=a0
 have d0:=a2.len_le
 have a2:AZ Enc.u8 w ([]++O) ys_v ys:=a2
 have s0:St w O w []:=St.start hO
 refine BK 26 Try.func91 rfl rfl oT (fun F0=>AI (AC kR (AA (AF (vO false) rfl (AH (AD (AI (AC kR (AA (VX s0 fun a4 d8 b8 b9 b0 d9 a5=>(?_)))))))))))
 clear b8
 have a0:=a0.mv b0
 have a2:=a2.mv b0
 refine AA (CU [.map none] z_132 rfl b9 fun a3 e0 c0 c1 b1 c2 b5=>(?_))
 have a9:FM a4 a3:=by show a4≠a3;have:=a5.lt;omega
 clear c0
 have a0:=a0.mv b1
 have a2:=a2.mv b1
 have a5:=a5.keep c2 (by simp)
 refine BX (CJ (Value.map (some a4)) rfl rfl rfl s_132 (by repeat (constructor)) b5 oT c1 fun e1 b2 b3 c3 a1=>(?_))
 have a0:=a0.mv b3
 have a2:=a2.mv b3
 have a5:=a5.keep c3 (BF a9)
 refine AH (AD (AI (AC kR (AA (CZ (first:=[]) (captured:=[.tmp 5]) [] [vP (some ⟨a3,0,none⟩)] rfl rfl (AA (AF (vN (.func 107) #[] #[vP (some ⟨a3,0,none⟩)]) rfl (AH (AD (AI (AI (AC kR (AA (AG (xs_v) rfl (AA (CB U23_ rfl a0 (AA (AG (ys_v) rfl (AA (CB U23_ rfl a2 (AA (CS .i64 (xs.length:Int) (ys.length:Int) rfl rfl (AH (AD (AN ((xs.length:Int) != (ys.length:Int)) rfl rfl (fun a6=>?_) (fun a6=>?_))))))))))))))))))))))))))
 ·have d2:(xs.length:Int)≠(ys.length:Int):=by simpa using a6
  refine AI (AC kR (AA (AF (vO true) rfl (AH (AD (AQ (AR (AX rfl (CK rfl rfl rfl) (?_)))))))))
  have e:(FP xs ys)=true:=by simp [FP, *]
  exact ⟨_,rfl,b2.keep,(by exact congrArg vO e.symm)⟩
 have d3:(xs.length:Int)=(ys.length:Int):=by simpa using a6
 refine AW (AD (AI (AI (AC kR (AA (AG (xs_v) rfl (AA (CB U23_ rfl a0 (AA (AG (vI 0) rfl (AH (AD (BO (DJ (fun mI FI wI=>∃ (k:Nat) (B:List Nat),k≤xs.length∧twice xs xs.length=FH (fun k=>if (xs.take k).contains xs[k]! then some true else none) false k (xs.length - k)∧mI=xs.length - k∧(∃ F1,FI=GO F1 [(6,vN (.func 107) #[] #[vP (some ⟨a3,0,none⟩)]),(16,xs_v),(17,vI (xs.length:Int)),(18,vI ((k:Nat):Int)),(26,undef)])∧St w O wI B∧AZ Enc.u8 wI (B++O) (xs_v) (xs)∧UQ wI a4 (xs.take k)∧a4∈B∧HC wI a3 132 [Value.map (some a4)]∧a3∈B) (xs.length - (0)) ?_ ?_))))))))))))))
 ·exact ⟨(0),(a3 :: (a4 :: [])),oM,rfl,rfl,⟨_,BB _ ⟨rfl,rfl,rfl,(by rfl),rfl,trivial⟩⟩,b2,a0,(by rw [show xs.take (0)=[] from rfl];exact a5),(by (repeat (first|exact List.mem_cons_self|apply List.mem_cons_of_mem))),a1,(by (repeat (exact List.mem_cons_self)))⟩
 intro e5 F e6 hI
 clear a0 a1
 obtain ⟨k,d1,hr0_0,hr0_1,e7,⟨e8,rfl⟩,b4,a0,hbx_0_b417,c4,a1,c5⟩:=hI
 refine AI (AC kR (AA (DY .i64 ((k:Nat):Int) (xs.length:Int) rfl rfl (AH (AD (AI (AN (decide (((k:Nat):Int)<(xs.length:Int))) rfl rfl (fun a7=>?_) (fun a7=>?_))))))))
 ·have d4:((k:Nat):Int)<(xs.length:Int):=by simpa using a7
  refine AW (AD (AI (BO (AI (AC kR (AA (DF U23_ IR .i64 ((k:Nat):Int) k rfl rfl rfl a0 oM fun e2 b6=>(AA (HM U5_ rfl rfl b6 (AA (AF (vB (xs[k]!)) rfl (AH (AD (AI (AC kR (AA (AG (vN (.func 107) #[] #[vP (some ⟨a3,0,none⟩)]) rfl (AA (AG (vB (xs[k]!)) rfl (AA (o_callv [] [vP (some ⟨a3,0,none⟩)] [vB (xs[k]!)] _ enter_107 rfl rfl (CE 9 Try.func107 rfl rfl oT (fun e3=>AI (AC kR (AA (AF (vO false) rfl (AH (AD (AI (AI (AC kR (AA (BH U132_ rfl (Value.map (some a4)) rfl a1 rfl (AA (AG (vB (xs[k]!)) rfl (AA (o_lookupB U132_ U5_ z_4 rfl rfl hbx_0_b417 (AH (AD (AN ((xs.take k).contains (xs[k]!)) rfl rfl (fun a8=>?_) (fun a8=>?_)))))))))))))))))))) (fun _ _ h=>h))))))))))))))))))))))
  ·have d5:((xs.take k).contains (xs[k]!))=true:=by simpa using a8
   refine AI (AC kR (AA (AF (vO true) rfl (AH (AD (AQ (AR (AX rfl (CK rfl rfl rfl) (Exists.intro _ (And.intro rfl (AH (AD (AN true rfl rfl (fun _=>AI (AC kR (AA (AF (vO true) rfl (AH (AD (AQ (BY (AR (AR (BY (AR (AX rfl (CK rfl rfl rfl) (?_)))))))))))))) (fun h=>by cases h))))))))))))))
   have e:(FP xs ys)=true:=by simp only [FP];rw [if_neg (by simpa using by assumption),hr0_1];exact DN oM (by simp_all)
   exact ⟨_,rfl,b4.keep,(by exact congrArg vO e.symm)⟩
  have d6:((xs.take k).contains (xs[k]!))=false:=by simpa using a8
  refine AW (AD (AI (AC kR (AA (BH U132_ rfl (Value.map (some a4)) rfl a1 rfl (AA (AG (vB (xs[k]!)) rfl (BX (o_updateB U132_ U5_ rfl rfl rfl aS hbx_0_b417 (by repeat (assumption)) b4 fun e4 c6 c7 c8 b7=>(?_))))))))))
  have a0:=a0.mv c7
  have a1:=a1.keep c8 (BF (Ne.symm a9))
  refine AH (AD (AI (AC kR (AA (AF (vO false) rfl (AH (AD (AQ (AX rfl (CK rfl rfl rfl) (Exists.intro _ (And.intro rfl (AH (AD (AN false rfl rfl (fun h=>by cases h) (fun _=>AW (CI (AD (AC kR (AA (DE .i64 ((k:Nat):Int) (1:Int) (((k+1:Nat):Int)) rfl rfl (GR oM oM) (AA (AG (vI ((k+1:Nat):Int)) rfl (AH (AD (?_)))))))))))))))))))))))))
  exact ⟨_,oM,(k+1),d1,oM,(hr0_1.trans (GL oM (by simp_all))),rfl,⟨_,BB _ ⟨rfl,rfl,rfl,(by rfl),rfl,trivial⟩⟩,c6,a0,(by rw [show xs.take (k+1)=(xs.take k)++[xs[k]!] from take_snoc oM];exact b7),aS,a1,aS⟩
 have d7:(xs.length:Int)≤((k:Nat):Int):=by simpa using a7
 refine DI (CF (CF (CY (AD (AI (AC kR (AA (AF (vO false) rfl (AH (AD (AQ (AX rfl (CK rfl rfl rfl) (?_)))))))))))))
 have e:(FP xs ys)=false:=by simp only [FP];rw [if_neg (by simpa using by assumption),hr0_1];exact HJ oM
 exact ⟨_,rfl,b4.keep,(by exact congrArg vO e.symm)⟩
set_option maxHeartbeats 4000000 in
set_option maxRecDepth 100000 in
theorem c_zeros {O:List Nat} (xs_v:Value) (xs:List UInt8) (w:World) (a0:AZ Enc.u8 w O xs_v xs) (hpre0:xs.length<1000000) (hO:∀ b∈O,b<w.heap.size):CD Try.prog 92 [xs_v] w (fun v w'=>∃ (x0:Value),v=x0∧AZ Enc.u8 w' (O) x0 (BE xs)):= by
 have g3:=a0.len_le
 have a0:AZ Enc.u8 w ([]++O) xs_v xs:=a0
 have s0:St w O w []:=St.start hO
 refine BK 53 Try.func92 rfl rfl oT (fun F0=>AI (AC kR (AA (AF (nS) rfl (AH (AD (AI (AC kR (AA (AG (xs_v) rfl (AA (CB U23_ rfl a0 (AA (DE .i64 (xs.length:Int) (1:Int) (((xs.length+1:Nat):Int)) rfl rfl (GR oM oM) (AA (TQ (E:=Enc.u8) U23_ i_5 [vB (0:UInt8)] rfl rfl (by decide) (0:UInt8) (fun _ _=>rfl) .i64 .i64 (1:Int) ((xs.length+1:Nat):Int) 1 (xs.length+1) rfl rfl rfl rfl oM oM (by simp only [maxLen];omega) s0 fun a9 c3 h3 e0 b5 e1 e2 h4 b6=>(?_)))))))))))))))))
 have b7:∀ b,a9.ownBlock=some b→b∈(c3 :: []):=fun b hb=>by rw [b5] at hb;cases hb;simp
 clear e0 b5
 have a0:=a0.mv e2
 refine AA (AF (a9) rfl (AH (AD (AI (AC kR (AA (AG (a9) rfl (AA (EP U23_ IR .i64 (0:Int) 0 rfl rfl rfl b6 (by (simp only [List.length_set,List.length_append,List.length_cons,List.length_nil,List.length_replicate,FZ,EW];omega)) fun h5 b8=>(BX (KQ (1:UInt8) IR rfl rfl rfl b6 b8 (b7 _ b8) (by (simp only [List.length_set,List.length_append,List.length_cons,List.length_nil,List.length_replicate,FZ,EW];omega)) rfl e1 fun h6 e3 e4 h7 d0=>(?_))))))))))))
 have a0:=a0.mv e4
 refine AH (AD (AI (AI (AC kR (AA (AG (xs_v) rfl (AA (CB U23_ rfl a0 (AA (AG (vI 0) rfl (AH (AD (BO (DJ (fun mI FI wI=>∃ (i:Nat) (a3:Value) (B:List Nat),i≤xs.length∧mI=xs.length - i∧(∃ F1,FI=GO F1 [(3,a3),(13,xs_v),(14,vI (xs.length:Int)),(15,vI ((i:Nat):Int)),(53,undef)])∧St w O wI B∧EG Enc.u8 5 w.heap.size (B++O) wI a3 (HB xs i)∧(∀ b,a3.ownBlock=some b→b∈B)∧AZ Enc.u8 wI (B++O) (xs_v) (xs)) (xs.length - (0)) ?_ ?_))))))))))))))
 ·exact ⟨(0),a9,(c3 :: []),oM,rfl,⟨_,BB _ ⟨rfl,rfl,rfl,(by rfl),rfl,trivial⟩⟩,e3,(by rw [show HB xs (0)=(List.replicate 1 (0:UInt8)).set 0 (1:UInt8) from rfl];exact d0),b7,a0⟩
 intro j3 F j4 hI
 clear a0
 obtain ⟨i,a3,j5,hr0_0,j6,⟨j7,rfl⟩,c4,ho0_3,d1,a0⟩:=hI
 refine AI (AC kR (AA (DY .i64 ((i:Nat):Int) (xs.length:Int) rfl rfl (AH (AD (AI (AN (decide (((i:Nat):Int)<(xs.length:Int))) rfl rfl (fun b0=>?_) (fun b0=>?_))))))))
 ·have g6:((i:Nat):Int)<(xs.length:Int):=by simpa using b0
  refine AW (AD (AI (BO (AI (AC kR (AA (DF U23_ IR .i64 ((i:Nat):Int) i rfl rfl rfl a0 oM fun h8 d2=>(AA (HM U5_ rfl rfl d2 (AA (AF (vB (xs[i]!)) rfl (AH (AD (AI (AC kR (AA (AG (a3) rfl (AA (JI (E:=Enc.u8) (xs:=[.const (vB (0:UInt8))]) U23_ IR z_5 (by decide) [vB (0:UInt8)] [[vB (0:UInt8)]] [(0:UInt8)] rfl rfl rfl (Parts.cons rfl rfl (Parts.nil _ _ _)) oT c4 fun h9 i0 e5 c5 e6 b9=>(?_))))))))))))))))))))
  have ho0_3:=ho0_3.mv c5 e6 (by simp)
  have a0:=a0.mv c5
  have:=b9.len_le
  refine AA (DG (E:=Enc.u8) (l:=HB xs i) (m:=[(0:UInt8)]) U23_ i_5 rfl (by decide) rfl rfl ho0_3 b9 (fun _ hb=>.inl hb) d1 (by simp [EW];omega) (by simp [EW,maxLen];omega) e5 fun b3 i1 e7 d3 g7 g4 e8 e9 i2 c0=>(?_))
  have a0:=a0.mv e9
  refine AA (AF (b3) rfl (AH (AD (AI (AC kR (AA (AG (b3) rfl (AA (SU U23_ rfl c0 (AA (JM .i64 (((HB xs i)++([(0:UInt8)])).length:Int) (1:Int) (((i+1:Nat):Int)) rfl rfl (GR oM (by simp [EW])) (AA (AF (vI ((i+1:Nat):Int)) rfl (AH (AD (BO (?_)))))))))))))))))
  have hzl:(HB xs i++[0]).length=i+2:=by simp [EW]
  refine DJ (fun mI FI wI=>∃ (k:Nat) (a1:Value) (B:List Nat),k≤i+2∧mI=k∧(∃ F1,FI=GO F1 [(3,a1),(5,vB (xs[i]!)),(6,vI ((k:Int) - 1)),(13,xs_v),(14,vI (xs.length:Int)),(15,vI ((i:Nat):Int)),(53,undef)])∧St w O wI B∧EG Enc.u8 5 w.heap.size (B++O) wI a1 (IY (HB xs i++[0]) xs[i]! (i+2 - k))∧(∀ b,a1.ownBlock=some b→b∈B)∧AZ Enc.u8 wI (B++O) (xs_v) (xs)) ((i+2)) ?_ ?_
  ·exact ⟨(i+2),b3,e7,oM,rfl,⟨_,BB _ ⟨rfl,rfl,(by exact congrArg (Value.int _) oM),rfl,rfl,rfl,rfl,trivial⟩⟩,e8,(by rw [show IY (HB xs i++[0]) xs[i]! (i+2 - (i+2))=(HB xs i)++([(0:UInt8)]) from by rw [Nat.sub_self];rfl];exact c0),d3,a0⟩
  intro j8 F g5 hI
  clear a0
  obtain ⟨k,a1,a4,hr1_0,j9,⟨k2,rfl⟩,c6,ho1_3,a7,a0⟩:=hI
  refine AI (AI (AC kR (AA (AG (vI ((k:Int) - 1)) rfl (AA (JK .i64 ((k:Int) - 1) (0:Int) rfl rfl (AH (AD (AN (decide ((0:Int)≤(k:Int) - 1)) rfl rfl (fun b1=>?_) (fun b1=>?_))))))))))
  ·have g8:(0:Int)≤(k:Int) - 1:=by simpa using b1
   obtain ⟨q,rfl⟩:∃ q,k=q+1:=⟨k - 1,by omega⟩
   rw [show ((q+1:Nat):Int) - 1=((q:Nat):Int) from by omega]
   refine AW (AD (AI (BO (AI (AC kR (AA (AG (a1) rfl (AA (AG (vI ((q:Nat):Int)) rfl (AA (AG (a1) rfl (AA (AG (vI ((q:Nat):Int)) rfl (AA (EP U23_ IR .i64 ((q:Nat):Int) q rfl rfl rfl ho1_3 (by (simp only [List.length_set,List.length_append,List.length_cons,List.length_nil,List.length_replicate,FZ,EW];omega)) fun i3 d4=>(AA (MI U5_ rfl rfl ho1_3 d4 (by (simp only [List.length_set,List.length_append,List.length_cons,List.length_nil,List.length_replicate,FZ,EW];omega)) (AA (AG (vB (xs[i]!)) rfl (AA (BD (vs:=[vB ((IY (HB xs i++[0]) xs[i]! (i+2 - (q+1)))[q]!),vB (xs[i]!)]) MA (VC (O:=a4++O) ((IY (HB xs i++[0]) xs[i]! (i+2 - (q+1)))[q]!) (xs[i]!) g5 c6.lt) rfl c6 fun i4 i5 f0 c7 f1 f2=>(?_))))))))))))))))))))))
   obtain rfl:=f2
   have ho1_3:=ho1_3.mv c7 f1 (by simp)
   have a0:=a0.mv c7
   refine AA (EP U23_ IR .i64 ((q:Nat):Int) q rfl rfl rfl ho1_3 (by (simp only [List.length_set,List.length_append,List.length_cons,List.length_nil,List.length_replicate,FZ,EW];omega)) fun i6 c1=>(BX (KQ (BV ((IY (HB xs i++[0]) xs[i]! (i+2 - (q+1)))[q]!) (xs[i]!)) IR rfl rfl rfl ho1_3 c1 (a7 _ c1) (by (simp only [List.length_set,List.length_append,List.length_cons,List.length_nil,List.length_replicate,FZ,EW];omega)) rfl f0 fun a6 c8 f3 i7 a2=>(?_))))
   have a0:=a0.mv f3
   refine AH (AD (AI (AC kR (AA (AG (vI ((q:Nat):Int)) rfl (AA (HI .i64 ((q:Nat):Int) (0:Int) rfl rfl (AH (AD (AN (decide ((0:Int)<((q:Nat):Int))) rfl rfl (fun b2=>?_) (fun b2=>?_)))))))))))
   ·have g9:(0:Int)<((q:Nat):Int):=by simpa using b2
    refine cw_draw' 9 _ _ [DB a1,DB (vI ((q:Nat):Int)),fun (vT:Value) (wT:World)=>∃ bT,vT = .pointer (some ⟨bT,q*1,none⟩)∧a1.ownBlock=some bT,DB (vB (((IY (HB xs i++[0]) xs[i]! (i+2 - (q+1))).set q (BV ((IY (HB xs i++[0]) xs[i]! (i+2 - (q+1)))[q]!) (xs[i]!)))[q]!)),DB a1,DB (vI ((q:Nat):Int)),DB (vI ((q - 1:Nat):Int)),fun (vT:Value) (wT:World)=>∃ bT,vT = .pointer (some ⟨bT,(q - 1)*1,none⟩)∧a1.ownBlock=some bT,DB (vB (((IY (HB xs i++[0]) xs[i]! (i+2 - (q+1))).set q (BV ((IY (HB xs i++[0]) xs[i]! (i+2 - (q+1)))[q]!) (xs[i]!)))[q - 1]!))] kR kR kR kR rfl rfl ⟨kI,kI,fun _ _ _ h _=>h,kI,kI,kI,kI,fun _ _ _ h _=>h,kI,trivial⟩ ⟨?_,?_,?_,?_,?_,?_,?_,?_,?_,trivial⟩ ?_
    ·intro F1 w1 k1 hf hd
     obtain ⟨F2,rfl⟩:=AM (F:=F1) [(3,a1)] ⟨hf 3 kR,trivial⟩
     exact AK rfl ((AG (a1) rfl (⟨(Keep.refl _ _),rfl⟩)))
    ·intro F1 w1 k1 hf hd
     obtain ⟨F2,rfl⟩:=AM (F:=F1) [(6,vI ((q:Nat):Int))] ⟨hf 6 kR,trivial⟩
     exact AK rfl ((AG (vI ((q:Nat):Int)) rfl (⟨(Keep.refl _ _),rfl⟩)))
    ·intro F1 w1 k1 hf hd
     have k0:=(Keep.drew [] a6).trans k1
     have m1:Mv a4 a6 a4 w1:=Mv.of_keep k0
     have a2:=a2.mv m1 k0 (by simp)
     obtain ⟨F2,rfl⟩:=AM (F:=F1) [(40,a1),(41,vI ((q:Nat):Int))] ⟨hd 0 40 kR,hd 1 41 kR,trivial⟩
     exact AK rfl ((EP U23_ IR .i64 ((q:Nat):Int) q rfl rfl rfl a2 (by (simp only [List.length_set,List.length_append,List.length_cons,List.length_nil,List.length_replicate,FZ,EW];omega)) fun i8 d5=>(⟨(Keep.refl _ _),⟨_,rfl,d5⟩⟩)))
    ·intro F1 w1 k1 hf hd
     have k0:=(Keep.drew [] a6).trans k1
     have m1:Mv a4 a6 a4 w1:=Mv.of_keep k0
     have a2:=a2.mv m1 k0 (by simp)
     obtain ⟨f4,f5,d6⟩:∃ b,F1 42 = .pointer (some ⟨b,q*1,none⟩)∧a1.ownBlock=some b:=hd 2 42 kR
     obtain ⟨F2,rfl⟩:=AM (F:=F1) [(42,vP (some ⟨f4,q*1,none⟩))] ⟨f5,trivial⟩
     exact AK rfl ((MI U5_ rfl rfl a2 d6 (by (simp only [List.length_set,List.length_append,List.length_cons,List.length_nil,List.length_replicate,FZ,EW];omega)) (⟨(Keep.refl _ _),rfl⟩)))
    ·intro F1 w1 k1 hf hd
     obtain ⟨F2,rfl⟩:=AM (F:=F1) [(3,a1)] ⟨hf 3 kR,trivial⟩
     exact AK rfl ((AG (a1) rfl (⟨(Keep.refl _ _),rfl⟩)))
    ·intro F1 w1 k1 hf hd
     obtain ⟨F2,rfl⟩:=AM (F:=F1) [(6,vI ((q:Nat):Int))] ⟨hf 6 kR,trivial⟩
     exact AK rfl ((AG (vI ((q:Nat):Int)) rfl (⟨(Keep.refl _ _),rfl⟩)))
    ·intro F1 w1 k1 hf hd
     obtain ⟨F2,rfl⟩:=AM (F:=F1) [(45,vI ((q:Nat):Int))] ⟨hd 5 45 kR,trivial⟩
     exact AK rfl ((JM .i64 ((q:Nat):Int) (1:Int) (((q - 1:Nat):Int)) rfl rfl (GR oM oM) (⟨(Keep.refl _ _),rfl⟩)))
    ·intro F1 w1 k1 hf hd
     have k0:=(Keep.drew [] a6).trans k1
     have m1:Mv a4 a6 a4 w1:=Mv.of_keep k0
     have a2:=a2.mv m1 k0 (by simp)
     obtain ⟨F2,rfl⟩:=AM (F:=F1) [(44,a1),(46,vI ((q - 1:Nat):Int))] ⟨hd 4 44 kR,hd 6 46 kR,trivial⟩
     exact AK rfl ((EP U23_ IR .i64 ((q - 1:Nat):Int) (q - 1) rfl rfl rfl a2 (by (simp only [List.length_set,List.length_append,List.length_cons,List.length_nil,List.length_replicate,FZ,EW];omega)) fun i9 d7=>(⟨(Keep.refl _ _),⟨_,rfl,d7⟩⟩)))
    ·intro F1 w1 k1 hf hd
     have k0:=(Keep.drew [] a6).trans k1
     have m1:Mv a4 a6 a4 w1:=Mv.of_keep k0
     have a2:=a2.mv m1 k0 (by simp)
     obtain ⟨f6,f7,d8⟩:∃ b,F1 47 = .pointer (some ⟨b,(q - 1)*1,none⟩)∧a1.ownBlock=some b:=hd 7 47 kR
     obtain ⟨F2,rfl⟩:=AM (F:=F1) [(47,vP (some ⟨f6,(q - 1)*1,none⟩))] ⟨f7,trivial⟩
     exact AK rfl ((MI U5_ rfl rfl a2 d8 (by (simp only [List.length_set,List.length_append,List.length_cons,List.length_nil,List.length_replicate,FZ,EW];omega)) (⟨(Keep.refl _ _),rfl⟩)))
    intro f8 f9 b4 a8 a5
    have g0:=c8.call b4
    have c9:Mv a4 a6 a4 f9:=Mv.of_keep b4
    have a2:=a2.mv c9 b4 (by simp)
    have a0:=a0.mv c9
    obtain ⟨F2,rfl⟩:=AM (F:=f8) [(3,a1),(5,vB (xs[i]!)),(6,vI ((q:Nat):Int)),(13,xs_v),(14,vI (xs.length:Int)),(15,vI ((i:Nat):Int)),(53,undef),(40,a1),(41,vI ((q:Nat):Int)),(43,vB (((IY (HB xs i++[0]) xs[i]! (i+2 - (q+1))).set q (BV ((IY (HB xs i++[0]) xs[i]! (i+2 - (q+1)))[q]!) (xs[i]!)))[q]!)),(48,vB (((IY (HB xs i++[0]) xs[i]! (i+2 - (q+1))).set q (BV ((IY (HB xs i++[0]) xs[i]! (i+2 - (q+1)))[q]!) (xs[i]!)))[q - 1]!))] ⟨a5 3 kR,a5 5 kR,a5 6 kR,a5 13 kR,a5 14 kR,a5 15 kR,a5 53 kR,a8 0 40 kR (by decide),a8 1 41 kR (by decide),a8 3 43 kR (by decide),a8 8 48 kR (by decide),trivial⟩
    clear a8 a5
    refine AA (OA (((IY (HB xs i++[0]) xs[i]! (i+2 - (q+1))).set q (BV ((IY (HB xs i++[0]) xs[i]! (i+2 - (q+1)))[q]!) (xs[i]!)))[q]!) (((IY (HB xs i++[0]) xs[i]! (i+2 - (q+1))).set q (BV ((IY (HB xs i++[0]) xs[i]! (i+2 - (q+1)))[q]!) (xs[i]!)))[q - 1]!) rfl rfl (AA (EP U23_ IR .i64 ((q:Nat):Int) q rfl rfl rfl a2 (by (simp only [List.length_set,List.length_append,List.length_cons,List.length_nil,List.length_replicate,FZ,EW];omega)) fun j0 c2=>(BX (KQ ((((IY (HB xs i++[0]) xs[i]! (i+2 - (q+1))).set q (BV ((IY (HB xs i++[0]) xs[i]! (i+2 - (q+1)))[q]!) (xs[i]!)))[q]!) ^^^ (((IY (HB xs i++[0]) xs[i]! (i+2 - (q+1))).set q (BV ((IY (HB xs i++[0]) xs[i]! (i+2 - (q+1)))[q]!) (xs[i]!)))[q - 1]!)) IR rfl rfl rfl a2 c2 (a7 _ c2) (by (simp only [List.length_set,List.length_append,List.length_cons,List.length_nil,List.length_replicate,FZ,EW];omega)) rfl g0 fun j1 g1 g2 j2 d9=>(?_))))))
    have a0:=a0.mv g2
    refine AH (CI (AD (AC kR (AA (AG (vI ((q:Nat):Int)) rfl (AA (JM .i64 ((q:Nat):Int) (1:Int) (((q:Nat):Int) - (1:Int)) rfl rfl (GR oM oM) (AA (AF (vI (((q:Nat):Int) - (1:Int))) rfl (AH (AD (?_))))))))))))
    exact ⟨_,oM,(q),a1,a4,oM,rfl,⟨_,BB _ ⟨rfl,rfl,(by rfl),rfl,rfl,rfl,rfl,trivial⟩⟩,g1,(by rw [show IY (HB xs i++[0]) xs[i]! (i+2 - (q))=((IY (HB xs i++[0]) xs[i]! (i+2 - (q+1))).set q (BV ((IY (HB xs i++[0]) xs[i]! (i+2 - (q+1)))[q]!) (xs[i]!))).set q ((((IY (HB xs i++[0]) xs[i]! (i+2 - (q+1))).set q (BV ((IY (HB xs i++[0]) xs[i]! (i+2 - (q+1)))[q]!) (xs[i]!)))[q]!) ^^^ (((IY (HB xs i++[0]) xs[i]! (i+2 - (q+1))).set q (BV ((IY (HB xs i++[0]) xs[i]! (i+2 - (q+1)))[q]!) (xs[i]!)))[q - 1]!)) from by exact zrS_pos hzl.symm oM aS];exact d9),a7,a0⟩
   have h0:((q:Nat):Int)≤(0:Int):=by simpa using b2
   refine AW (CI (AD (AC kR (AA (AG (vI ((q:Nat):Int)) rfl (AA (JM .i64 ((q:Nat):Int) (1:Int) (((q:Nat):Int) - (1:Int)) rfl rfl (GR oM oM) (AA (AF (vI (((q:Nat):Int) - (1:Int))) rfl (AH (AD (?_))))))))))))
   exact ⟨_,oM,(q),a1,a4,oM,rfl,⟨_,BB _ ⟨rfl,rfl,(by rfl),rfl,rfl,rfl,rfl,trivial⟩⟩,c8,(by rw [show IY (HB xs i++[0]) xs[i]! (i+2 - (q))=(IY (HB xs i++[0]) xs[i]! (i+2 - (q+1))).set q (BV ((IY (HB xs i++[0]) xs[i]! (i+2 - (q+1)))[q]!) (xs[i]!)) from by exact zrS_zero hzl.symm oM aS];exact a2),a7,a0⟩
  have h1:(k:Int) - 1<(0:Int):=by (have e:=b1;simp at e;omega)
  obtain rfl:k=0:=by omega
  refine DI (CF (CF (CY (CI (AD (AC kR (AA (DE .i64 ((i:Nat):Int) (1:Int) (((i+1:Nat):Int)) rfl rfl (GR oM oM) (AA (AG (vI ((i+1:Nat):Int)) rfl (AH (AD (?_)))))))))))))
  exact ⟨_,oM,(i+1),a1,a4,oM,rfl,⟨_,BB _ ⟨rfl,rfl,rfl,(by rfl),rfl,trivial⟩⟩,c6,(by rw [show HB xs (i+1)=IY (HB xs i++[0]) xs[i]! (i+2 - 0) from by rw [Nat.sub_zero,HB,hzl]];exact ho1_3),a7,a0⟩
 have h2:(xs.length:Int)≤((i:Nat):Int):=by simpa using b0
 obtain rfl:i=xs.length:=by omega
 refine DI (CF (CF (CY (AD (AI (AC kR (AA (AG (a3) rfl (AA (AF (a3) rfl (AH (AD (AQ (AX rfl (CK rfl rfl rfl) (?_)))))))))))))))
 have e:(BE xs)=(HB xs xs.length):=rfl
 exact ⟨_,rfl,c4.keep,by rw [e];exact ⟨a3,rfl,ho0_3.pub c4⟩⟩
open Go.Fw Go.RowKit
set_option maxHeartbeats 4000000 in
set_option maxRecDepth 100000 in
theorem c_coeff {O:List Nat} (xs_v:Value) (xs:List UInt8) (ys_v:Value) (ys:List UInt8) (w:World) (a1:AZ Enc.u8 w O xs_v xs) (a2:AZ Enc.u8 w O ys_v ys) (hpre0:xs.length<1000000) (hO:∀ b∈O,b<w.heap.size):CD Try.prog 43 [xs_v,ys_v] w (fun v w'=>∃ (x0:Value),v = .tuple #[x0,vI ((EA xs ys).2)]∧AZ Enc.u8 w' (O) x0 ((EA xs ys).1)):= by
 have l8:=a1.len_le
 have a1:AZ Enc.u8 w ([]++O) xs_v xs:=a1
 have l9:=a2.len_le
 have a2:AZ Enc.u8 w ([]++O) ys_v ys:=a2
 have s0:St w O w []:=St.start hO
 have hzl:=FE xs
 refine BK 81 Try.func43 rfl rfl oT (fun F0=>AI (AC kR (AA (AF (.slice none 0 0) rfl (AA (AF (vI 0) rfl (AH (AD (AI (AI (AC kR (AA (AG (xs_v) rfl (AA (AG (ys_v) rfl (AA (BD (vs:=[xs_v,ys_v]) enter_91 (c_wrong (O:=[]++O) xs_v xs ys_v ys w a1 a2 s0.lt) rfl s0 fun n3 h2 e5 f1 n4 h3=>(?_))))))))))))))))))
 obtain rfl:=h3
 have a1:=a1.mv f1
 have a2:=a2.mv f1
 refine AH (AD (AN (FP xs ys) rfl rfl (fun b9=>?_) (fun b9=>?_)))
 ·have m2:(FP xs ys)=true:=by simpa using b9
  refine AI (AC kR (AA (AF (.slice none 0 0) rfl (AA (AF (vI 1) rfl (AH (AD (AQ (AR (AX rfl (FG rfl rfl rfl rfl) (?_)))))))))))
  have e:(EA xs ys)=([],(1:Int)):=by simp [EA, *]
  exact ⟨_,rfl,e5.keep,by rw [e];exact ⟨.slice none 0 0,rfl,AZ.nil _ _ _⟩⟩
 have m3:(FP xs ys)=false:=by simpa using b9
 have hxy:=wrongM_len (by simpa using b9)
 refine AW (AD (AI (AC kR (AA (AG (xs_v) rfl (AA (CB U23_ rfl a1 (AA (AF (vI (xs.length:Int)) rfl (AH (AD (AI (AC kR (AA (AG (xs_v) rfl (AA (BD (vs:=[xs_v]) enter_92 (c_zeros (O:=[]++O) xs_v xs h2 a1 oM e5.lt) rfl e5 fun b0 n5 h4 f2 n6 h5=>(?_))))))))))))))))))
 obtain ⟨_,rfl,a0⟩:=h5
 have:=a0.len_le
 have a1:=a1.mv f2
 have a2:=a2.mv f2
 refine AA (AF (b0) rfl (AH (AD (AI (AC kR (AA (AG (vI (xs.length:Int)) rfl (AA (TQ (E:=Enc.u8) U23_ i_5 [vB (0:UInt8)] rfl rfl (by decide) (0:UInt8) (fun _ _=>rfl) .i64 .i64 (xs.length:Int) (xs.length:Int) xs.length xs.length rfl rfl rfl rfl oM oM (by simp only [maxLen];omega) h4 fun b8 c6 n7 h6 e8 h7 e6 n9 c0=>(?_))))))))))
 have c7:∀ b,b8.ownBlock=some b→b∈(c6 :: []):=fun b hb=>by rw [e8] at hb;cases hb;simp
 clear h6 e8
 have a1:=a1.mv e6
 have a2:=a2.mv e6
 have a0:=a0.mv e6
 refine AA (AF (b8) rfl (AH (AD (AI (AC kR (AA (AG (vI (xs.length:Int)) rfl (AA (TQ (E:=Enc.u8) U23_ i_5 [vB (0:UInt8)] rfl rfl (by decide) (0:UInt8) (fun _ _=>rfl) .i64 .i64 (xs.length:Int) (xs.length:Int) xs.length xs.length rfl rfl rfl rfl oM oM (by simp only [maxLen];omega) h7 fun c1 e7 o0 h8 c8 h9 c9 i0 f8=>(?_))))))))))
 have d0:∀ b,b8.ownBlock=some b→c1.ownBlock≠some b:=fun b hb=>by have:=(c0.lt b hb).2;rw [c8];intro e;cases e;omega
 have ne574':∀ b,c1.ownBlock=some b→b8.ownBlock≠some b:=fun b hb e=>d0 b e hb
 have f9:∀ b,c1.ownBlock=some b→b∈(e7 :: (c6 :: [])):=fun b hb=>by rw [c8] at hb;cases hb;simp
 clear h8 c8
 have c7:∀ b,b8.ownBlock=some b→b∈(e7 :: (c6 :: [])):=fun b hb=>List.mem_cons_of_mem _ (c7 b hb)
 have a1:=a1.mv c9
 have a2:=a2.mv c9
 have c0:=c0.mv c9 i0 (by simp)
 have a0:=a0.mv c9
 refine AA (AF (c1) rfl (AH (AD (AI (AI (AC kR (AA (AG (xs_v) rfl (AA (CB U23_ rfl a1 (AA (AG (vI 0) rfl (AH (AD (BO (DJ (fun mI FI wI=>∃ (i:Nat) (a4:Value) (b2:Value) (B:List Nat),i≤xs.length∧mI=xs.length - i∧(∃ F1,FI=GO F1 [(1,ys_v),(4,a4),(6,vI (xs.length:Int)),(7,b0),(8,b2),(26,xs_v),(27,vI (xs.length:Int)),(28,vI ((i:Nat):Int)),(81,undef)])∧St w O wI B∧EG Enc.u8 5 w.heap.size (B++O) wI a4 (PA (BE xs) xs ys xs.length i)∧(∀ b,a4.ownBlock=some b→b∈B)∧EG Enc.u8 5 w.heap.size (B++O) wI b2 (GK (BE xs) xs xs.length i)∧(∀ b,b2.ownBlock=some b→b∈B)∧AZ Enc.u8 wI (B++O) (ys_v) (ys)∧AZ Enc.u8 wI (B++O) (b0) (BE xs)∧AZ Enc.u8 wI (B++O) (xs_v) (xs)∧(∀ b,a4.ownBlock=some b→b2.ownBlock≠some b)∧(∀ b,b2.ownBlock=some b→a4.ownBlock≠some b)) (xs.length - (0)) ?_ ?_))))))))))))))))
 ·exact ⟨(0),b8,c1,(e7 :: (c6 :: [])),oM,rfl,⟨_,BB _ ⟨rfl,rfl,rfl,rfl,rfl,rfl,rfl,(by rfl),rfl,trivial⟩⟩,h9,(by rw [show PA (BE xs) xs ys xs.length (0)=List.replicate xs.length (0:UInt8) from rfl];exact c0),c7,(by rw [show GK (BE xs) xs xs.length (0)=List.replicate xs.length (0:UInt8) from rfl];exact f8),f9,a2,a0,a1,d0,(fun b hb e=>d0 b e hb)⟩
 intro q6 F q7 hI
 clear a2 a0 a1
 obtain ⟨i,a4,b2,m0,hr0_0,q8,⟨q9,rfl⟩,f3,ho0_4,b6,ho0_8,g0,a2,a0,a1,nn0_4_8,nn0_8_4⟩:=hI
 refine AI (AC kR (AA (DY .i64 ((i:Nat):Int) (xs.length:Int) rfl rfl (AH (AD (AI (AN (decide (((i:Nat):Int)<(xs.length:Int))) rfl rfl (fun d1=>?_) (fun d1=>?_))))))))
 ·have m4:((i:Nat):Int)<(xs.length:Int):=by simpa using d1
  refine AW (AD (AI (BO (AI (AC kR (AA (AG (vI ((i:Nat):Int)) rfl (AA (DF U23_ IR .i64 ((i:Nat):Int) i rfl rfl rfl a1 oM fun o1 g1=>(AA (HM U5_ rfl rfl g1 (AA (AF (vI ((i:Nat):Int)) rfl (AA (AF (vB (xs[i]!)) rfl (AH (AD (AI (AC kR (AA (AF (vB (0:UInt8)) rfl (AH (AD (AI (AI (AC kR (AA (AG (vI (xs.length:Int)) rfl (AA (JM .i64 (xs.length:Int) (1:Int) ((xs.length:Int) - (1:Int)) rfl rfl (GR oM oM) (AA (AF (vI ((xs.length:Int) - (1:Int))) rfl (AH (AD (BO (DJ (fun mI FI wI=>∃ (k:Nat) (a3:Value) (B:List Nat),k≤xs.length∧mI=k∧(∃ F1,FI=GO F1 [(1,ys_v),(4,a4),(6,vI (xs.length:Int)),(7,b0),(8,a3),(9,vI ((i:Nat):Int)),(10,vB (xs[i]!)),(11,vB (SJ (BE xs) xs[i]! xs.length (xs.length - k))),(12,vI ((k:Int) - 1)),(26,xs_v),(27,vI (xs.length:Int)),(28,vI ((i:Nat):Int)),(81,undef)])∧St w O wI B∧EG Enc.u8 5 w.heap.size (B++O) wI a3 (HH (GK (BE xs) xs xs.length i) (BE xs) xs[i]! xs.length (xs.length - k))∧(∀ b,a3.ownBlock=some b→b∈B)∧AZ Enc.u8 wI (B++O) (ys_v) (ys)∧EG Enc.u8 5 w.heap.size (B++O) wI a4 (PA (BE xs) xs ys xs.length i)∧(∀ b,a4.ownBlock=some b→b∈B)∧AZ Enc.u8 wI (B++O) (b0) (BE xs)∧AZ Enc.u8 wI (B++O) (xs_v) (xs)∧(∀ b,a3.ownBlock=some b→a4.ownBlock≠some b)∧(∀ b,a4.ownBlock=some b→a3.ownBlock≠some b)) ((xs.length)) ?_ ?_))))))))))))))))))))))))))))))))))))
  ·exact ⟨(xs.length),b2,m0,oM,rfl,⟨_,BB _ ⟨rfl,rfl,rfl,rfl,rfl,rfl,rfl,(congrArg vB (by rw [Nat.sub_self];rfl)),(by rfl),rfl,rfl,rfl,rfl,trivial⟩⟩,f3,(by rw [show HH (GK (BE xs) xs xs.length i) (BE xs) xs[i]! xs.length (xs.length - (xs.length))=GK (BE xs) xs xs.length i from by rw [Nat.sub_self];rfl];exact ho0_8),g0,a2,ho0_4,b6,a0,a1,nn0_8_4,nn0_4_8⟩
  intro r0 F b4 hI
  clear a2 ho0_4 b6 a0 a1
  obtain ⟨k,a3,a7,hr1_0,r4,⟨r5,rfl⟩,e4,ho1_8,b3,a2,ho0_4,b6,a0,a1,no1_8_vo0_4,np1_8_vo0_4⟩:=hI
  refine AI (AI (AC kR (AA (AG (vI ((k:Int) - 1)) rfl (AA (JK .i64 ((k:Int) - 1) (0:Int) rfl rfl (AH (AD (AN (decide ((0:Int)≤(k:Int) - 1)) rfl rfl (fun d2=>?_) (fun d2=>?_))))))))))
  ·have m5:(0:Int)≤(k:Int) - 1:=by simpa using d2
   obtain ⟨q,rfl⟩:∃ q,k=q+1:=⟨k - 1,by omega⟩
   rw [show ((q+1:Nat):Int) - 1=((q:Nat):Int) from by omega]
   refine AW (AD (AI (BO (AI (cw_draw' 8 _ _ [fun (vT:Value) (wT:World)=>AZ Enc.u8 wT (a7++O) vT (BE xs),DB (vI ((q:Nat):Int)),DB (vI ((q+1:Nat):Int)),fun (vT:Value) (wT:World)=>∃ aT,vT = .pointer (some aT)∧PT Enc.u8 wT (a7++O) (.pointer (some aT)) ((BE xs)[q+1]!),DB (vB ((BE xs)[q+1]!)),DB (vB (SJ (BE xs) xs[i]! xs.length (xs.length - (q+1)))),DB (vB (xs[i]!)),DB (vB (BV (SJ (BE xs) xs[i]! xs.length (xs.length - (q+1))) (xs[i]!)))] kR kR kR kR rfl rfl ⟨fun _ _ _ h k=>h.mv (Mv.of_keep k),kI,kI,fun _ _ _ ⟨a,e,h⟩ k=>⟨a,e,h.mv (Mv.of_keep k)⟩,kI,kI,kI,kI,trivial⟩ ⟨?_,?_,?_,?_,?_,?_,?_,?_,trivial⟩ ?_)))))
   ·intro F1 w1 k1 hf hd
    have k0:=(Keep.drew [] b4).trans k1
    have m1:Mv a7 b4 a7 w1:=Mv.of_keep k0
    have a0:=a0.mv m1
    obtain ⟨F2,rfl⟩:=AM (F:=F1) [(7,b0)] ⟨hf 7 kR,trivial⟩
    exact AK rfl ((AG (b0) rfl (⟨(Keep.refl _ _),a0⟩)))
   ·intro F1 w1 k1 hf hd
    obtain ⟨F2,rfl⟩:=AM (F:=F1) [(12,vI ((q:Nat):Int))] ⟨hf 12 kR,trivial⟩
    exact AK rfl ((AG (vI ((q:Nat):Int)) rfl (⟨(Keep.refl _ _),rfl⟩)))
   ·intro F1 w1 k1 hf hd
    obtain ⟨F2,rfl⟩:=AM (F:=F1) [(40,vI ((q:Nat):Int))] ⟨hd 1 40 kR,trivial⟩
    exact AK rfl ((DE .i64 ((q:Nat):Int) (1:Int) (((q+1:Nat):Int)) rfl rfl (GR oM oM) (⟨(Keep.refl _ _),rfl⟩)))
   ·intro F1 w1 k1 hf hd
    obtain ⟨i1,i2,e9⟩:∃ v,F1 39=v∧AZ Enc.u8 w1 (a7++O) v (BE xs):=⟨_,rfl,hd 0 39 kR⟩
    have:=e9.len_le
    obtain ⟨F2,rfl⟩:=AM (F:=F1) [(39,i1),(41,vI ((q+1:Nat):Int))] ⟨i2,hd 2 41 kR,trivial⟩
    exact AK rfl ((DF U23_ IR .i64 ((q+1:Nat):Int) (q+1) rfl rfl rfl e9 (by rw [FE];omega) fun i3 g2=>(⟨(Keep.refl _ _),⟨i3,rfl,g2⟩⟩)))
   ·intro F1 w1 k1 hf hd
    obtain ⟨i4,i5,g3⟩:∃ aX_,F1 42 = .pointer (some aX_)∧PT Enc.u8 w1 (a7++O) (.pointer (some aX_)) ((BE xs)[q+1]!):=hd 3 42 kR
    obtain ⟨F2,rfl⟩:=AM (F:=F1) [(42,vP (some i4))] ⟨i5,trivial⟩
    exact AK rfl ((HM U5_ rfl rfl g3 (⟨(Keep.refl _ _),rfl⟩)))
   ·intro F1 w1 k1 hf hd
    obtain ⟨F2,rfl⟩:=AM (F:=F1) [(11,vB (SJ (BE xs) xs[i]! xs.length (xs.length - (q+1))))] ⟨hf 11 kR,trivial⟩
    exact AK rfl ((AG (vB (SJ (BE xs) xs[i]! xs.length (xs.length - (q+1)))) rfl (⟨(Keep.refl _ _),rfl⟩)))
   ·intro F1 w1 k1 hf hd
    obtain ⟨F2,rfl⟩:=AM (F:=F1) [(10,vB (xs[i]!))] ⟨hf 10 kR,trivial⟩
    exact AK rfl ((AG (vB (xs[i]!)) rfl (⟨(Keep.refl _ _),rfl⟩)))
   ·intro F1 w1 k1 hf hd
    have k0:=(Keep.drew [] b4).trans k1
    have s1:=e4.call k0
    obtain ⟨F2,rfl⟩:=AM (F:=F1) [(44,vB (SJ (BE xs) xs[i]! xs.length (xs.length - (q+1)))),(45,vB (xs[i]!))] ⟨hd 5 44 kR,hd 6 45 kR,trivial⟩
    refine AK rfl ((BD (vs:=[vB (SJ (BE xs) xs[i]! xs.length (xs.length - (q+1))),vB (xs[i]!)]) MA (VC (O:=a7++O) (SJ (BE xs) xs[i]! xs.length (xs.length - (q+1))) (xs[i]!) w1 s1.lt) rfl s1 fun o2 o3 o4 o5 i6 i7=>(?_)))
    obtain rfl:=i7
    exact ⟨i6,rfl⟩
   intro i8 i9 d3 d4 a6
   have j0:=e4.call d3
   have c2:Mv a7 b4 a7 i9:=Mv.of_keep d3
   have a2:=a2.mv c2
   have ho0_4:=ho0_4.mv c2 d3 (by simp)
   have a0:=a0.mv c2
   have ho1_8:=ho1_8.mv c2 d3 (by simp)
   have a1:=a1.mv c2
   obtain ⟨F2,rfl⟩:=AM (F:=i8) [(1,ys_v),(4,a4),(6,vI (xs.length:Int)),(7,b0),(8,a3),(9,vI ((i:Nat):Int)),(10,vB (xs[i]!)),(11,vB (SJ (BE xs) xs[i]! xs.length (xs.length - (q+1)))),(12,vI ((q:Nat):Int)),(26,xs_v),(27,vI (xs.length:Int)),(28,vI ((i:Nat):Int)),(81,undef),(43,vB ((BE xs)[q+1]!)),(46,vB (BV (SJ (BE xs) xs[i]! xs.length (xs.length - (q+1))) (xs[i]!)))] ⟨a6 1 kR,a6 4 kR,a6 6 kR,a6 7 kR,a6 8 kR,a6 9 kR,a6 10 kR,a6 11 kR,a6 12 kR,a6 26 kR,a6 27 kR,a6 28 kR,a6 81 kR,d4 4 43 kR (by decide),d4 7 46 kR (by decide),trivial⟩
   clear d4 a6
   refine AA (OA ((BE xs)[q+1]!) (BV (SJ (BE xs) xs[i]! xs.length (xs.length - (q+1))) (xs[i]!)) rfl rfl (AA (AF (vB (((BE xs)[q+1]!) ^^^ (BV (SJ (BE xs) xs[i]! xs.length (xs.length - (q+1))) (xs[i]!)))) rfl (AH (AD (AC kR (AA (AG (a3) rfl (AA (AG (vI ((q:Nat):Int)) rfl (AA (AG (vB (((BE xs)[q+1]!) ^^^ (BV (SJ (BE xs) xs[i]! xs.length (xs.length - (q+1))) (xs[i]!)))) rfl (AA (EP U23_ IR .i64 ((q:Nat):Int) q rfl rfl rfl ho1_8 (by (simp only [List.length_set,List.length_append,List.length_cons,List.length_nil,List.length_replicate,HQ,HG,ID,IJ,FE];omega)) fun o6 d5=>(BX (KQ (((BE xs)[q+1]!) ^^^ (BV (SJ (BE xs) xs[i]! xs.length (xs.length - (q+1))) (xs[i]!))) IR rfl rfl rfl ho1_8 d5 (b3 _ d5) (by (simp only [List.length_set,List.length_append,List.length_cons,List.length_nil,List.length_replicate,HQ,HG,ID,IJ,FE];omega)) rfl j0 fun o7 j1 d6 j2 g4=>(?_)))))))))))))))))
   have a2:=a2.mv d6
   have ho0_4:=ho0_4.mv d6 j2 (fun b hb=>by simp only [List.mem_singleton];rintro rfl;exact absurd d5 (np1_8_vo0_4 _ hb))
   have a0:=a0.mv d6
   have a1:=a1.mv d6
   refine AH (CI (AD (AC kR (AA (AG (vI ((q:Nat):Int)) rfl (AA (JM .i64 ((q:Nat):Int) (1:Int) (((q:Nat):Int) - (1:Int)) rfl rfl (GR oM oM) (AA (AF (vI (((q:Nat):Int) - (1:Int))) rfl (AH (AD (?_))))))))))))
   exact ⟨_,oM,(q),a3,a7,oM,rfl,⟨_,BB _ ⟨rfl,rfl,rfl,rfl,rfl,rfl,rfl,(congrArg vB (by exact (sdC_step oM).symm)),(by rfl),rfl,rfl,rfl,rfl,trivial⟩⟩,j1,(by rw [show HH (GK (BE xs) xs xs.length i) (BE xs) xs[i]! xs.length (xs.length - (q))=(HH (GK (BE xs) xs xs.length i) (BE xs) xs[i]! xs.length (xs.length - (q+1))).set q (((BE xs)[q+1]!) ^^^ (BV (SJ (BE xs) xs[i]! xs.length (xs.length - (q+1))) (xs[i]!))) from sdQ_step oM];exact g4),b3,a2,ho0_4,b6,a0,a1,no1_8_vo0_4,np1_8_vo0_4⟩
  have m6:(k:Int) - 1<(0:Int):=by (have e:=d2;simp at e;omega)
  obtain rfl:k=0:=by omega
  refine DI (CF (CF (CY (AD (AI (cw_draw' 8 _ _ [fun (vT:Value) (wT:World)=>AZ Enc.u8 wT (a7++O) vT (ys),DB (vI ((i:Nat):Int)),fun (vT:Value) (wT:World)=>∃ aT,vT = .pointer (some aT)∧PT Enc.u8 wT (a7++O) (.pointer (some aT)) (ys[i]!),DB (vB (ys[i]!)),DB a3,DB (vB (xs[i]!)),DB (vB (EB (HH (GK (BE xs) xs xs.length i) (BE xs) xs[i]! xs.length (xs.length - 0)) (xs[i]!))),DB (vB (GC (EB (HH (GK (BE xs) xs xs.length i) (BE xs) xs[i]! xs.length (xs.length - 0)) (xs[i]!))))] kR kR kR kR rfl rfl ⟨fun _ _ _ h k=>h.mv (Mv.of_keep k),kI,fun _ _ _ ⟨a,e,h⟩ k=>⟨a,e,h.mv (Mv.of_keep k)⟩,kI,kI,kI,kI,kI,trivial⟩ ⟨?_,?_,?_,?_,?_,?_,?_,?_,trivial⟩ ?_))))))
  ·intro F1 w1 k1 hf hd
   have k0:=(Keep.drew [] b4).trans k1
   have m1:Mv a7 b4 a7 w1:=Mv.of_keep k0
   have a2:=a2.mv m1
   obtain ⟨F2,rfl⟩:=AM (F:=F1) [(1,ys_v)] ⟨hf 1 kR,trivial⟩
   exact AK rfl ((AG (ys_v) rfl (⟨(Keep.refl _ _),a2⟩)))
  ·intro F1 w1 k1 hf hd
   obtain ⟨F2,rfl⟩:=AM (F:=F1) [(9,vI ((i:Nat):Int))] ⟨hf 9 kR,trivial⟩
   exact AK rfl ((AG (vI ((i:Nat):Int)) rfl (⟨(Keep.refl _ _),rfl⟩)))
  ·intro F1 w1 k1 hf hd
   obtain ⟨j3,j4,f0⟩:∃ v,F1 52=v∧AZ Enc.u8 w1 (a7++O) v (ys):=⟨_,rfl,hd 0 52 kR⟩
   have:=f0.len_le
   obtain ⟨F2,rfl⟩:=AM (F:=F1) [(52,j3),(53,vI ((i:Nat):Int))] ⟨j4,hd 1 53 kR,trivial⟩
   exact AK rfl ((DF U23_ IR .i64 ((i:Nat):Int) i rfl rfl rfl f0 oM fun j5 g5=>(⟨(Keep.refl _ _),⟨j5,rfl,g5⟩⟩)))
  ·intro F1 w1 k1 hf hd
   obtain ⟨j6,j7,g6⟩:∃ aX_,F1 54 = .pointer (some aX_)∧PT Enc.u8 w1 (a7++O) (.pointer (some aX_)) (ys[i]!):=hd 2 54 kR
   obtain ⟨F2,rfl⟩:=AM (F:=F1) [(54,vP (some j6))] ⟨j7,trivial⟩
   exact AK rfl ((HM U5_ rfl rfl g6 (⟨(Keep.refl _ _),rfl⟩)))
  ·intro F1 w1 k1 hf hd
   obtain ⟨F2,rfl⟩:=AM (F:=F1) [(8,a3)] ⟨hf 8 kR,trivial⟩
   exact AK rfl ((AG (a3) rfl (⟨(Keep.refl _ _),rfl⟩)))
  ·intro F1 w1 k1 hf hd
   obtain ⟨F2,rfl⟩:=AM (F:=F1) [(10,vB (xs[i]!))] ⟨hf 10 kR,trivial⟩
   exact AK rfl ((AG (vB (xs[i]!)) rfl (⟨(Keep.refl _ _),rfl⟩)))
  ·intro F1 w1 k1 hf hd
   have k0:=(Keep.drew [] b4).trans k1
   have s1:=e4.call k0
   have m1:Mv a7 b4 a7 w1:=Mv.of_keep k0
   have ho1_8:=ho1_8.mv m1 k0 (by simp)
   obtain ⟨F2,rfl⟩:=AM (F:=F1) [(56,a3),(57,vB (xs[i]!))] ⟨hd 4 56 kR,hd 5 57 kR,trivial⟩
   refine AK rfl ((BD (vs:=[a3,vB (xs[i]!)]) UG (c_eval (O:=[]) a3 (HH (GK (BE xs) xs xs.length i) (BE xs) xs[i]! xs.length (xs.length - 0)) (xs[i]!) w1 ho1_8.rd0 RA) rfl s1 fun o8 o9 p0 p1 j8 j9=>(?_)))
   obtain rfl:=j9
   exact ⟨j8,rfl⟩
  ·intro F1 w1 k1 hf hd
   have k0:=(Keep.drew [] b4).trans k1
   have s1:=e4.call k0
   obtain ⟨F2,rfl⟩:=AM (F:=F1) [(58,vB (EB (HH (GK (BE xs) xs xs.length i) (BE xs) xs[i]! xs.length (xs.length - 0)) (xs[i]!)))] ⟨hd 6 58 kR,trivial⟩
   refine AK rfl ((BD (vs:=[vB (EB (HH (GK (BE xs) xs xs.length i) (BE xs) xs[i]! xs.length (xs.length - 0)) (xs[i]!))]) enter_94 (c_inverse (O:=a7++O) (EB (HH (GK (BE xs) xs xs.length i) (BE xs) xs[i]! xs.length (xs.length - 0)) (xs[i]!)) w1 s1.lt) rfl s1 fun p2 p3 p4 p5 k2 k3=>(?_)))
   obtain rfl:=k3
   exact ⟨k2,rfl⟩
  intro k4 f4 d7 d8 a9
  have f5:=e4.call d7
  have c3:Mv a7 b4 a7 f4:=Mv.of_keep d7
  have a2:=a2.mv c3
  have ho0_4:=ho0_4.mv c3 d7 (by simp)
  have a0:=a0.mv c3
  have ho1_8:=ho1_8.mv c3 d7 (by simp)
  have a1:=a1.mv c3
  obtain ⟨F2,rfl⟩:=AM (F:=k4) [(1,ys_v),(4,a4),(6,vI (xs.length:Int)),(7,b0),(8,a3),(26,xs_v),(27,vI (xs.length:Int)),(28,vI ((i:Nat):Int)),(81,undef),(55,vB (ys[i]!)),(59,vB (GC (EB (HH (GK (BE xs) xs xs.length i) (BE xs) xs[i]! xs.length (xs.length - 0)) (xs[i]!))))] ⟨a9 1 kR,a9 4 kR,a9 6 kR,a9 7 kR,a9 8 kR,a9 26 kR,a9 27 kR,a9 28 kR,a9 81 kR,d8 3 55 kR (by decide),d8 7 59 kR (by decide),trivial⟩
  clear d8 a9
  refine AA (BD (vs:=[vB (ys[i]!),vB (GC (EB (HH (GK (BE xs) xs xs.length i) (BE xs) xs[i]! xs.length (xs.length - 0)) (xs[i]!)))]) MA (VC (O:=a7++O) (ys[i]!) (GC (EB (HH (GK (BE xs) xs xs.length i) (BE xs) xs[i]! xs.length (xs.length - 0)) (xs[i]!))) f4 f5.lt) rfl f5 fun p6 p7 k5 c4 f6 k6=>(?_))
  obtain rfl:=k6
  have a2:=a2.mv c4
  have ho0_4:=ho0_4.mv c4 f6 (by simp)
  have a0:=a0.mv c4
  have ho1_8:=ho1_8.mv c4 f6 (by simp)
  have a1:=a1.mv c4
  refine AA (AF (vB (BV (ys[i]!) (GC (EB (HH (GK (BE xs) xs xs.length i) (BE xs) xs[i]! xs.length (xs.length - 0)) (xs[i]!))))) rfl (AH (AD (AI (AC kR (AA (AG (a4) rfl (AA (SU U23_ rfl ho0_4 (AA (AG (vI 0) rfl (AH (AD (BO (?_)))))))))))))))
  have hcl:=HQ (BE xs) xs ys xs.length i
  refine DJ (fun mI FI wI=>∃ (j:Nat) (a5:Value) (B:List Nat),j≤xs.length∧mI=xs.length - j∧(∃ F1,FI=GO F1 [(1,ys_v),(4,a5),(6,vI (xs.length:Int)),(7,b0),(8,a3),(13,vB (BV (ys[i]!) (GC (EB (HH (GK (BE xs) xs xs.length i) (BE xs) xs[i]! xs.length (xs.length - 0)) (xs[i]!))))),(26,xs_v),(27,vI (xs.length:Int)),(28,vI ((i:Nat):Int)),(62,vI ((PA (BE xs) xs ys xs.length i).length:Int)),(63,vI ((j:Nat):Int)),(81,undef)])∧St w O wI B∧EG Enc.u8 5 w.heap.size (B++O) wI a5 (adF (PA (BE xs) xs ys xs.length i) (HH (GK (BE xs) xs xs.length i) (BE xs) xs[i]! xs.length (xs.length - 0)) (BV ys[i]! (GC (EB (HH (GK (BE xs) xs xs.length i) (BE xs) xs[i]! xs.length (xs.length - 0)) xs[i]!))) j)∧(∀ b,a5.ownBlock=some b→b∈B)∧AZ Enc.u8 wI (B++O) (ys_v) (ys)∧AZ Enc.u8 wI (B++O) (b0) (BE xs)∧EG Enc.u8 5 w.heap.size (B++O) wI a3 (HH (GK (BE xs) xs xs.length i) (BE xs) xs[i]! xs.length (xs.length - 0))∧(∀ b,a3.ownBlock=some b→b∈B)∧AZ Enc.u8 wI (B++O) (xs_v) (xs)∧(∀ b,a5.ownBlock=some b→a3.ownBlock≠some b)∧(∀ b,a3.ownBlock=some b→a5.ownBlock≠some b)) (xs.length - (0)) ?_ ?_
  ·exact ⟨(0),a4,a7,oM,rfl,⟨_,BB _ ⟨rfl,rfl,rfl,rfl,rfl,rfl,rfl,rfl,rfl,rfl,(by rfl),rfl,trivial⟩⟩,k5,(by rw [show adF (PA (BE xs) xs ys xs.length i) (HH (GK (BE xs) xs xs.length i) (BE xs) xs[i]! xs.length (xs.length - 0)) (BV ys[i]! (GC (EB (HH (GK (BE xs) xs xs.length i) (BE xs) xs[i]! xs.length (xs.length - 0)) xs[i]!))) (0)=PA (BE xs) xs ys xs.length i from rfl];exact ho0_4),b6,a2,a0,ho1_8,b3,a1,np1_8_vo0_4,no1_8_vo0_4⟩
  intro r6 F b5 hI
  clear a2 a0 ho1_8 b3 a1
  obtain ⟨j,a5,b1,hr2_0,r7,⟨r8,rfl⟩,f7,ho2_4,d9,a2,a0,ho1_8,b3,a1,no2_4_vo1_8,np2_4_vo1_8⟩:=hI
  refine AI (AC kR (AA (DY .i64 ((j:Nat):Int) ((PA (BE xs) xs ys xs.length i).length:Int) rfl rfl (AH (AD (AI (AN (decide (((j:Nat):Int)<((PA (BE xs) xs ys xs.length i).length:Int))) rfl rfl (fun e0=>?_) (fun e0=>?_))))))))
  ·have m7:((j:Nat):Int)<((PA (BE xs) xs ys xs.length i).length:Int):=by simpa using e0
   refine AW (AD (AI (BO (AI (AC kR (AA (AG (vI ((j:Nat):Int)) rfl (AA (AF (vI ((j:Nat):Int)) rfl (AH (AD (cw_draw' 10 _ _ [DB a5,DB (vI ((j:Nat):Int)),fun (vT:Value) (wT:World)=>∃ bT,vT = .pointer (some ⟨bT,j*1,none⟩)∧a5.ownBlock=some bT,DB (vB ((adF (PA (BE xs) xs ys xs.length i) (HH (GK (BE xs) xs xs.length i) (BE xs) xs[i]! xs.length (xs.length - 0)) (BV ys[i]! (GC (EB (HH (GK (BE xs) xs xs.length i) (BE xs) xs[i]! xs.length (xs.length - 0)) xs[i]!))) j)[j]!)),DB a3,DB (vI ((j:Nat):Int)),fun (vT:Value) (wT:World)=>∃ bT,vT = .pointer (some ⟨bT,j*1,none⟩)∧a3.ownBlock=some bT,DB (vB ((HH (GK (BE xs) xs xs.length i) (BE xs) xs[i]! xs.length (xs.length - 0))[j]!)),DB (vB (BV (ys[i]!) (GC (EB (HH (GK (BE xs) xs xs.length i) (BE xs) xs[i]! xs.length (xs.length - 0)) (xs[i]!))))),DB (vB (BV ((HH (GK (BE xs) xs xs.length i) (BE xs) xs[i]! xs.length (xs.length - 0))[j]!) (BV (ys[i]!) (GC (EB (HH (GK (BE xs) xs xs.length i) (BE xs) xs[i]! xs.length (xs.length - 0)) (xs[i]!))))))] kR kR kR kR rfl rfl ⟨kI,kI,fun _ _ _ h _=>h,kI,kI,kI,fun _ _ _ h _=>h,kI,kI,kI,trivial⟩ ⟨?_,?_,?_,?_,?_,?_,?_,?_,?_,?_,trivial⟩ ?_))))))))))))
   ·intro F1 w1 k1 hf hd
    obtain ⟨F2,rfl⟩:=AM (F:=F1) [(4,a5)] ⟨hf 4 kR,trivial⟩
    exact AK rfl ((AG (a5) rfl (⟨(Keep.refl _ _),rfl⟩)))
   ·intro F1 w1 k1 hf hd
    obtain ⟨F2,rfl⟩:=AM (F:=F1) [(14,vI ((j:Nat):Int))] ⟨hf 14 kR,trivial⟩
    exact AK rfl ((AG (vI ((j:Nat):Int)) rfl (⟨(Keep.refl _ _),rfl⟩)))
   ·intro F1 w1 k1 hf hd
    have k0:=(Keep.drew [] b5).trans k1
    have m1:Mv b1 b5 b1 w1:=Mv.of_keep k0
    have ho2_4:=ho2_4.mv m1 k0 (by simp)
    obtain ⟨F2,rfl⟩:=AM (F:=F1) [(66,a5),(67,vI ((j:Nat):Int))] ⟨hd 0 66 kR,hd 1 67 kR,trivial⟩
    exact AK rfl ((EP U23_ IR .i64 ((j:Nat):Int) j rfl rfl rfl ho2_4 (by (simp only [List.length_set,List.length_append,List.length_cons,List.length_nil,List.length_replicate,HQ,HG,ID,IJ,FE];omega)) fun p8 g7=>(⟨(Keep.refl _ _),⟨_,rfl,g7⟩⟩)))
   ·intro F1 w1 k1 hf hd
    have k0:=(Keep.drew [] b5).trans k1
    have m1:Mv b1 b5 b1 w1:=Mv.of_keep k0
    have ho2_4:=ho2_4.mv m1 k0 (by simp)
    obtain ⟨k7,k8,g8⟩:∃ b,F1 68 = .pointer (some ⟨b,j*1,none⟩)∧a5.ownBlock=some b:=hd 2 68 kR
    obtain ⟨F2,rfl⟩:=AM (F:=F1) [(68,vP (some ⟨k7,j*1,none⟩))] ⟨k8,trivial⟩
    exact AK rfl ((MI U5_ rfl rfl ho2_4 g8 (by (simp only [List.length_set,List.length_append,List.length_cons,List.length_nil,List.length_replicate,HQ,HG,ID,IJ,FE];omega)) (⟨(Keep.refl _ _),rfl⟩)))
   ·intro F1 w1 k1 hf hd
    obtain ⟨F2,rfl⟩:=AM (F:=F1) [(8,a3)] ⟨hf 8 kR,trivial⟩
    exact AK rfl ((AG (a3) rfl (⟨(Keep.refl _ _),rfl⟩)))
   ·intro F1 w1 k1 hf hd
    obtain ⟨F2,rfl⟩:=AM (F:=F1) [(14,vI ((j:Nat):Int))] ⟨hf 14 kR,trivial⟩
    exact AK rfl ((AG (vI ((j:Nat):Int)) rfl (⟨(Keep.refl _ _),rfl⟩)))
   ·intro F1 w1 k1 hf hd
    have k0:=(Keep.drew [] b5).trans k1
    have m1:Mv b1 b5 b1 w1:=Mv.of_keep k0
    have ho1_8:=ho1_8.mv m1 k0 (by simp)
    obtain ⟨F2,rfl⟩:=AM (F:=F1) [(70,a3),(71,vI ((j:Nat):Int))] ⟨hd 4 70 kR,hd 5 71 kR,trivial⟩
    exact AK rfl ((EP U23_ IR .i64 ((j:Nat):Int) j rfl rfl rfl ho1_8 (by (simp only [List.length_set,List.length_append,List.length_cons,List.length_nil,List.length_replicate,HQ,HG,ID,IJ,FE];omega)) fun p9 g9=>(⟨(Keep.refl _ _),⟨_,rfl,g9⟩⟩)))
   ·intro F1 w1 k1 hf hd
    have k0:=(Keep.drew [] b5).trans k1
    have m1:Mv b1 b5 b1 w1:=Mv.of_keep k0
    have ho1_8:=ho1_8.mv m1 k0 (by simp)
    obtain ⟨k9,l0,h0⟩:∃ b,F1 72 = .pointer (some ⟨b,j*1,none⟩)∧a3.ownBlock=some b:=hd 6 72 kR
    obtain ⟨F2,rfl⟩:=AM (F:=F1) [(72,vP (some ⟨k9,j*1,none⟩))] ⟨l0,trivial⟩
    exact AK rfl ((MI U5_ rfl rfl ho1_8 h0 (by (simp only [List.length_set,List.length_append,List.length_cons,List.length_nil,List.length_replicate,HQ,HG,ID,IJ,FE];omega)) (⟨(Keep.refl _ _),rfl⟩)))
   ·intro F1 w1 k1 hf hd
    obtain ⟨F2,rfl⟩:=AM (F:=F1) [(13,vB (BV (ys[i]!) (GC (EB (HH (GK (BE xs) xs xs.length i) (BE xs) xs[i]! xs.length (xs.length - 0)) (xs[i]!)))))] ⟨hf 13 kR,trivial⟩
    exact AK rfl ((AG (vB (BV (ys[i]!) (GC (EB (HH (GK (BE xs) xs xs.length i) (BE xs) xs[i]! xs.length (xs.length - 0)) (xs[i]!))))) rfl (⟨(Keep.refl _ _),rfl⟩)))
   ·intro F1 w1 k1 hf hd
    have k0:=(Keep.drew [] b5).trans k1
    have s1:=f7.call k0
    obtain ⟨F2,rfl⟩:=AM (F:=F1) [(73,vB ((HH (GK (BE xs) xs xs.length i) (BE xs) xs[i]! xs.length (xs.length - 0))[j]!)),(74,vB (BV (ys[i]!) (GC (EB (HH (GK (BE xs) xs xs.length i) (BE xs) xs[i]! xs.length (xs.length - 0)) (xs[i]!)))))] ⟨hd 7 73 kR,hd 8 74 kR,trivial⟩
    refine AK rfl ((BD (vs:=[vB ((HH (GK (BE xs) xs xs.length i) (BE xs) xs[i]! xs.length (xs.length - 0))[j]!),vB (BV (ys[i]!) (GC (EB (HH (GK (BE xs) xs xs.length i) (BE xs) xs[i]! xs.length (xs.length - 0)) (xs[i]!))))]) MA (VC (O:=b1++O) ((HH (GK (BE xs) xs xs.length i) (BE xs) xs[i]! xs.length (xs.length - 0))[j]!) (BV (ys[i]!) (GC (EB (HH (GK (BE xs) xs xs.length i) (BE xs) xs[i]! xs.length (xs.length - 0)) (xs[i]!)))) w1 s1.lt) rfl s1 fun q0 q1 q2 q3 l1 l2=>(?_)))
    obtain rfl:=l2
    exact ⟨l1,rfl⟩
   intro l3 l4 e1 b7 a8
   have l5:=f7.call e1
   have c5:Mv b1 b5 b1 l4:=Mv.of_keep e1
   have a2:=a2.mv c5
   have ho2_4:=ho2_4.mv c5 e1 (by simp)
   have a0:=a0.mv c5
   have ho1_8:=ho1_8.mv c5 e1 (by simp)
   have a1:=a1.mv c5
   obtain ⟨F2,rfl⟩:=AM (F:=l3) [(1,ys_v),(4,a5),(6,vI (xs.length:Int)),(7,b0),(8,a3),(13,vB (BV (ys[i]!) (GC (EB (HH (GK (BE xs) xs xs.length i) (BE xs) xs[i]! xs.length (xs.length - 0)) (xs[i]!))))),(26,xs_v),(27,vI (xs.length:Int)),(28,vI ((i:Nat):Int)),(62,vI ((PA (BE xs) xs ys xs.length i).length:Int)),(63,vI ((j:Nat):Int)),(81,undef),(66,a5),(67,vI ((j:Nat):Int)),(69,vB ((adF (PA (BE xs) xs ys xs.length i) (HH (GK (BE xs) xs xs.length i) (BE xs) xs[i]! xs.length (xs.length - 0)) (BV ys[i]! (GC (EB (HH (GK (BE xs) xs xs.length i) (BE xs) xs[i]! xs.length (xs.length - 0)) xs[i]!))) j)[j]!)),(75,vB (BV ((HH (GK (BE xs) xs xs.length i) (BE xs) xs[i]! xs.length (xs.length - 0))[j]!) (BV (ys[i]!) (GC (EB (HH (GK (BE xs) xs xs.length i) (BE xs) xs[i]! xs.length (xs.length - 0)) (xs[i]!))))))] ⟨a8 1 kR,a8 4 kR,a8 6 kR,a8 7 kR,a8 8 kR,a8 13 kR,a8 26 kR,a8 27 kR,a8 28 kR,a8 62 kR,a8 63 kR,a8 81 kR,b7 0 66 kR (by decide),b7 1 67 kR (by decide),b7 3 69 kR (by decide),b7 9 75 kR (by decide),trivial⟩
   clear b7 a8
   refine AA (OA ((adF (PA (BE xs) xs ys xs.length i) (HH (GK (BE xs) xs xs.length i) (BE xs) xs[i]! xs.length (xs.length - 0)) (BV ys[i]! (GC (EB (HH (GK (BE xs) xs xs.length i) (BE xs) xs[i]! xs.length (xs.length - 0)) xs[i]!))) j)[j]!) (BV ((HH (GK (BE xs) xs xs.length i) (BE xs) xs[i]! xs.length (xs.length - 0))[j]!) (BV (ys[i]!) (GC (EB (HH (GK (BE xs) xs xs.length i) (BE xs) xs[i]! xs.length (xs.length - 0)) (xs[i]!))))) rfl rfl (AA (EP U23_ IR .i64 ((j:Nat):Int) j rfl rfl rfl ho2_4 (by (simp only [List.length_set,List.length_append,List.length_cons,List.length_nil,List.length_replicate,HQ,HG,ID,IJ,FE];omega)) fun q4 e2=>(BX (KQ (((adF (PA (BE xs) xs ys xs.length i) (HH (GK (BE xs) xs xs.length i) (BE xs) xs[i]! xs.length (xs.length - 0)) (BV ys[i]! (GC (EB (HH (GK (BE xs) xs xs.length i) (BE xs) xs[i]! xs.length (xs.length - 0)) xs[i]!))) j)[j]!) ^^^ (BV ((HH (GK (BE xs) xs xs.length i) (BE xs) xs[i]! xs.length (xs.length - 0))[j]!) (BV (ys[i]!) (GC (EB (HH (GK (BE xs) xs xs.length i) (BE xs) xs[i]! xs.length (xs.length - 0)) (xs[i]!)))))) IR rfl rfl rfl ho2_4 e2 (d9 _ e2) (by (simp only [List.length_set,List.length_append,List.length_cons,List.length_nil,List.length_replicate,HQ,HG,ID,IJ,FE];omega)) rfl l5 fun q5 l6 e3 l7 h1=>(?_))))))
   have a2:=a2.mv e3
   have a0:=a0.mv e3
   have ho1_8:=ho1_8.mv e3 l7 (fun b hb=>by simp only [List.mem_singleton];rintro rfl;exact absurd e2 (np2_4_vo1_8 _ hb))
   have a1:=a1.mv e3
   refine AH (CI (AD (AC kR (AA (DE .i64 ((j:Nat):Int) (1:Int) (((j+1:Nat):Int)) rfl rfl (GR oM oM) (AA (AG (vI ((j+1:Nat):Int)) rfl (AH (AD (?_))))))))))
   exact ⟨_,oM,(j+1),a5,b1,oM,rfl,⟨_,BB _ ⟨rfl,rfl,rfl,rfl,rfl,rfl,rfl,rfl,rfl,rfl,(by rfl),rfl,trivial⟩⟩,l6,(by rw [show adF (PA (BE xs) xs ys xs.length i) (HH (GK (BE xs) xs xs.length i) (BE xs) xs[i]! xs.length (xs.length - 0)) (BV ys[i]! (GC (EB (HH (GK (BE xs) xs xs.length i) (BE xs) xs[i]! xs.length (xs.length - 0)) xs[i]!))) (j+1)=(adF (PA (BE xs) xs ys xs.length i) (HH (GK (BE xs) xs xs.length i) (BE xs) xs[i]! xs.length (xs.length - 0)) (BV ys[i]! (GC (EB (HH (GK (BE xs) xs xs.length i) (BE xs) xs[i]! xs.length (xs.length - 0)) xs[i]!))) j).set j (((adF (PA (BE xs) xs ys xs.length i) (HH (GK (BE xs) xs xs.length i) (BE xs) xs[i]! xs.length (xs.length - 0)) (BV ys[i]! (GC (EB (HH (GK (BE xs) xs xs.length i) (BE xs) xs[i]! xs.length (xs.length - 0)) xs[i]!))) j)[j]!) ^^^ (BV ((HH (GK (BE xs) xs xs.length i) (BE xs) xs[i]! xs.length (xs.length - 0))[j]!) (BV (ys[i]!) (GC (EB (HH (GK (BE xs) xs xs.length i) (BE xs) xs[i]! xs.length (xs.length - 0)) (xs[i]!)))))) from rfl];exact h1),d9,a2,a0,ho1_8,b3,a1,no2_4_vo1_8,np2_4_vo1_8⟩
  have m9:((PA (BE xs) xs ys xs.length i).length:Int)≤((j:Nat):Int):=by simpa using e0
  obtain rfl:j=xs.length:=by omega
  refine DI (CF (CF (CY (CI (AD (AC kR (AA (DE .i64 ((i:Nat):Int) (1:Int) (((i+1:Nat):Int)) rfl rfl (GR oM oM) (AA (AG (vI ((i+1:Nat):Int)) rfl (AH (AD (?_)))))))))))))
  exact ⟨_,oM,(i+1),a5,a3,b1,oM,rfl,⟨_,BB _ ⟨rfl,rfl,rfl,rfl,rfl,rfl,rfl,(by rfl),rfl,trivial⟩⟩,f7,(by rw [show PA (BE xs) xs ys xs.length (i+1)=adF (PA (BE xs) xs ys xs.length i) (HH (GK (BE xs) xs xs.length i) (BE xs) xs[i]! xs.length (xs.length - 0)) (BV ys[i]! (GC (EB (HH (GK (BE xs) xs xs.length i) (BE xs) xs[i]! xs.length (xs.length - 0)) xs[i]!))) xs.length from by rw [Nat.sub_zero];simp only [PA,GK]];exact ho2_4),d9,(by rw [show GK (BE xs) xs xs.length (i+1)=HH (GK (BE xs) xs xs.length i) (BE xs) xs[i]! xs.length (xs.length - 0) from by rw [GK,Nat.sub_zero]];exact ho1_8),b3,a2,a0,a1,no2_4_vo1_8,np2_4_vo1_8⟩
 have n2:(xs.length:Int)≤((i:Nat):Int):=by simpa using d1
 obtain rfl:i=xs.length:=by omega
 refine DI (CF (CF (CY (AD (AI (AC kR (AA (AG (a4) rfl (AA (AF (a4) rfl (AA (AF (vI 0) rfl (AH (AD (AQ (AX rfl (FG rfl rfl rfl rfl) (?_)))))))))))))))))
 have e:(EA xs ys)=(PA (BE xs) xs ys xs.length xs.length,(0:Int)):=by simp [EA, *]
 exact ⟨_,rfl,f3.keep,by rw [e];exact ⟨a4,rfl,ho0_4.pub f3⟩⟩
set_option maxHeartbeats 4000000 in
set_option maxRecDepth 100000 in
theorem c_through {O:List Nat} (xs_v:Value) (xs:List UInt8) (ys_v:Value) (ys:List UInt8) (at_:UInt8) (w:World) (a1:AZ Enc.u8 w O xs_v xs) (a2:AZ Enc.u8 w O ys_v ys) (hpre0:xs.length<1000000) (hO:∀ b∈O,b<w.heap.size):CD Try.prog 63 [xs_v,ys_v,vB at_] w (fun v _=>v = .tuple #[vB ((CX xs ys at_).1),vI ((CX xs ys at_).2)]):= by
 have b0:=a1.len_le
 have a1:AZ Enc.u8 w ([]++O) xs_v xs:=a1
 have b1:=a2.len_le
 have a2:AZ Enc.u8 w ([]++O) ys_v ys:=a2
 have s0:St w O w []:=St.start hO
 refine BK 21 Try.func63 rfl rfl oT (fun F0=>AI (AC kR (AA (AF (vB (0:UInt8)) rfl (AA (AF (vI 0) rfl (AH (AD (AI (AC kR (AA (AG (xs_v) rfl (AA (AG (ys_v) rfl (AA (BD (vs:=[xs_v,ys_v]) enter_43 (c_coeff (O:=[]++O) xs_v xs ys_v ys w a1 a2 oM s0.lt) rfl s0 fun b4 a6 a4 b5 b6 a7=>(?_)))))))))))))))))
 obtain ⟨a0,rfl,a5⟩:=a7
 have:=a5.len_le
 refine AA (AG (vT #[a0,vI ((EA xs ys).2)]) rfl (AA (AP (a0) rfl rfl (AA (AP (vI ((EA xs ys).2)) rfl rfl (AA (AF (a0) rfl (AA (AF (vI ((EA xs ys).2)) rfl (AH (AD (AI (AI (AC kR (AA (AG (vI ((EA xs ys).2)) rfl (AA (CS .i64 ((EA xs ys).2) (0:Int) rfl rfl (AH (AD (AN (((EA xs ys).2) != (0:Int)) rfl rfl (fun a3=>?_) (fun a3=>?_))))))))))))))))))))))
 ·have b2:(EA xs ys).2≠(0:Int):=by simpa using a3
  refine AI (AC kR (AA (AG (vI ((EA xs ys).2)) rfl (AA (AF (vB (0:UInt8)) rfl (AA (AF (vI ((EA xs ys).2)) rfl (AH (AD (AQ (AR (AX rfl (FG rfl rfl rfl rfl) (?_)))))))))))))
  have e:(CX xs ys at_)=((0:UInt8),(EA xs ys).2):=by simp [CX, *]
  exact ⟨_,rfl,a4.keep,by rw [e];exact rfl⟩
 have b3:(EA xs ys).2=(0:Int):=by simpa using a3
 refine AW (AD (AI (AC kR (AA (AG (a0) rfl (AA (AG (vB at_) rfl (AA (BD (vs:=[a0,vB at_]) UG (c_eval (O:=[]++O) a0 ((EA xs ys).1) at_ a6 a5 a4.lt) rfl a4 fun b7 b8 a8 b9 c0 a9=>(?_))))))))))
 obtain rfl:=a9
 refine AA (AF (vB (EB ((EA xs ys).1) at_)) rfl (AA (AF (vI 0) rfl (AH (AD (AQ (AX rfl (FG rfl rfl rfl rfl) (?_))))))))
 have e:(CX xs ys at_)=(EB ((EA xs ys).1) at_,(0:Int)):=by simp [CX, *]
 exact ⟨_,rfl,a8.keep,by rw [e];exact rfl⟩
open Go.Fw
theorem all8 (p:UInt8→Bool) (h:(List.range 256).all (fun n=>p (UInt8.ofNat n))=true) (x:UInt8):p x=true:=by
  have:=List.all_eq_true.1 h x.toNat (List.mem_range.2 x.toNat_lt)
  rwa [UInt8.ofNat_toNat] at this
def VK (f:UInt8→UInt8):Prop:=∀ x y,f (x ^^^ y)=f x ^^^ f y
theorem xor_zero (a:UInt8):a ^^^ 0=a:=UInt8.xor_zero
theorem zero_xor (a:UInt8):0 ^^^ a=a:=UInt8.zero_xor
theorem xor_self (a:UInt8):a ^^^ a=0:=UInt8.xor_self
theorem xor_c (a b:UInt8):a ^^^ b=b ^^^ a:=UInt8.xor_comm a b
theorem RS (a b c:UInt8):a ^^^ b ^^^ c=a ^^^ (b ^^^ c):=UInt8.xor_assoc a b c
theorem xor_lc (a b c:UInt8):a ^^^ (b ^^^ c)=b ^^^ (a ^^^ c):=by rw [← RS,xor_c a b,RS]
theorem xor_cancel (a b:UInt8):a ^^^ (a ^^^ b)=b:=by rw [← RS,xor_self,zero_xor]
theorem LO {a b:UInt8}:a ^^^ b=0↔a=b:=⟨fun h=>by have:=congrArg (a ^^^ ·) h;simp only [xor_cancel,xor_zero] at this;exact this.symm,fun h=>by rw [h,xor_self]⟩
theorem xor4 (a b c d:UInt8):(a ^^^ b) ^^^ (c ^^^ d)=(a ^^^ c) ^^^ (b ^^^ d):=by rw [RS,RS,xor_lc b c d]
theorem VK.zero {f:UInt8→UInt8} (h:VK f):f 0=0:=by
  have h1:=h 0 0
  rw [xor_self] at h1
  rw [h1,xor_self]
theorem VK.comp {f g:UInt8→UInt8} (hf:VK f) (hg:VK g):VK (fun x=>f (g x)):=fun x y=>by show f (g (x ^^^ y))=_;rw [hg x y,hf]
theorem VK.id:VK fun x=>x:=fun _ _=>rfl
theorem bits_of (x:UInt8):x=(x &&& 1) ^^^ ((x &&& 2) ^^^ ((x &&& 4) ^^^ ((x &&& 8) ^^^ ((x &&& 16) ^^^ ((x &&& 32) ^^^ ((x &&& 64) ^^^ (x &&& 128))))))):=
  of_decide_eq_true (all8 (fun x=>decide (x=(x &&& 1) ^^^ ((x &&& 2) ^^^ ((x &&& 4) ^^^ ((x &&& 8) ^^^ ((x &&& 16) ^^^ ((x &&& 32) ^^^ ((x &&& 64) ^^^ (x &&& 128))))))))) (by decide +kernel) x)
theorem bit_or (x:UInt8):(x &&& 1=0∨x &&& 1=1)∧(x &&& 2=0∨x &&& 2=2)∧(x &&& 4=0∨x &&& 4=4)∧(x &&& 8=0∨x &&& 8=8)∧(x &&& 16=0∨x &&& 16=16)∧(x &&& 32=0∨x &&& 32=32)∧(x &&& 64=0∨x &&& 64=64)∧(x &&& 128=0∨x &&& 128=128):=
  of_decide_eq_true (all8 (fun x=>decide ((x &&& 1=0∨x &&& 1=1)∧(x &&& 2=0∨x &&& 2=2)∧(x &&& 4=0∨x &&& 4=4)∧(x &&& 8=0∨x &&& 8=8)∧(x &&& 16=0∨x &&& 16=16)∧(x &&& 32=0∨x &&& 32=32)∧(x &&& 64=0∨x &&& 64=64)∧(x &&& 128=0∨x &&& 128=128))) (by decide +kernel) x)
theorem lin_ext {f g:UInt8→UInt8} (hf:VK f) (hg:VK g) (h1:f 1=g 1) (h2:f 2=g 2) (h4:f 4=g 4) (h8:f 8=g 8) (h16:f 16=g 16) (h32:f 32=g 32) (h64:f 64=g 64) (h128:f 128=g 128) (x:UInt8):f x=g x:=by
  have z:=hf.zero;have z':=hg.zero
  have key:∀ (y b:UInt8),(y=0∨y=b)→f b=g b→f y=g y:=fun y b h e=>by
    rcases h with h|h
    · rw [h,z,z']
    · rw [h,e]
  obtain ⟨a1,a2,a3,a4,a5,a6,a7,a8⟩:=bit_or x
  rw [bits_of x,hf,hf,hf,hf,hf,hf,hf,hg,hg,hg,hg,hg,hg,hg,key _ _ a1 h1,key _ _ a2 h2,key _ _ a3 h4,key _ _ a4 h8,key _ _ a5 h16,key _ _ a6 h32,key _ _ a7 h64,key _ _ a8 h128]
theorem and1_xor (x y:UInt8):(x ^^^ y) &&& 1=(x &&& 1) ^^^ (y &&& 1):=by
  apply UInt8.toBitVec_inj.1
  simp only [UInt8.toBitVec_and,UInt8.toBitVec_xor]
  apply BitVec.eq_of_getElem_eq
  intro i hi
  simp only [BitVec.getElem_and,BitVec.getElem_xor]
  cases (x.toBitVec[i]) <;> cases (y.toBitVec[i]) <;> simp
theorem bit_xor (x y:UInt8) (i:UInt8):(x ^^^ y) >>> i &&& 1=(x >>> i &&& 1) ^^^ (y >>> i &&& 1):=by
  rw [UInt8.shiftRight_xor,and1_xor]
theorem bit01 (x i:UInt8):x >>> i &&& 1=0∨x >>> i &&& 1=1:=(bit_or (x >>> i)).1
def OV (c v:UInt8):UInt8:=if c=1 then v else 0
theorem UU {c d:UInt8} (v:UInt8) (hc:c=0∨c=1) (hd:d=0∨d=1):OV (c ^^^ d) v=OV c v ^^^ OV d v:=by
  rcases hc with rfl|rfl <;> rcases hd with rfl|rfl <;> simp [OV]
theorem pick8_lin (c:UInt8):VK (OV c):=fun x y=>by unfold OV;split <;> simp
theorem OM (a b:UInt8) (i:Nat):gm a b (i+1)=gm a b i ^^^ OV (b >>> UInt8.ofNat i &&& 1) (xtn a i):=by
  unfold OV
  by_cases h:b >>> UInt8.ofNat i &&& 1=1
  · rw [if_pos h,gm_yes a b i h]
  · rw [if_neg h,gm_no a b i h,xor_zero]
theorem gm_lin (a:UInt8):∀ i,VK fun b=>gm a b i
  | 0=>fun _ _=>by simp [gm]
  | i+1=>fun x y=>by
    show gm a (x ^^^ y) (i+1)=gm a x (i+1) ^^^ gm a y (i+1)
    rw [OM,OM,OM,bit_xor,UU _ (bit01 _ _) (bit01 _ _),show gm a (x ^^^ y) i=_ from gm_lin a i x y,xor4]
theorem JL (a:UInt8):VK (BV a):=gm_lin a 8
theorem xt_eq (a:UInt8):xt a=a <<< 1 ^^^ OV (a >>> 7 &&& 1) 27:=
  of_decide_eq_true (all8 (fun a=>decide (xt a=a <<< 1 ^^^ OV (a >>> 7 &&& 1) 27)) (by decide +kernel) a)
theorem xt_lin:VK xt:=fun x y=>by
  rw [xt_eq,xt_eq,xt_eq,bit_xor,UU _ (bit01 _ _) (bit01 _ _),UInt8.shiftLeft_xor,xor4]
theorem xtn_lin:∀ i,VK fun a=>xtn a i
  | 0=>VK.id
  | i+1=>xt_lin.comp (xtn_lin i)
theorem gm_lin2 (b:UInt8):∀ i,VK fun a=>gm a b i
  | 0=>fun _ _=>by simp [gm]
  | i+1=>fun x y=>by
    show gm (x ^^^ y) b (i+1)=gm x b (i+1) ^^^ gm y b (i+1)
    rw [OM,OM,OM,show xtn (x ^^^ y) i=_ from xtn_lin i x y,pick8_lin,show gm (x ^^^ y) b i=_ from gm_lin2 b i x y,xor4]
theorem HZ (b:UInt8):VK fun a=>BV a b:=gm_lin2 b 8
theorem KD (a b:UInt8):BV a b=BV b a:=by
  have key:∀ c:UInt8,(BV c 1=BV 1 c∧BV c 2=BV 2 c∧BV c 4=BV 4 c∧BV c 8=BV 8 c∧BV c 16=BV 16 c∧BV c 32=BV 32 c∧BV c 64=BV 64 c∧BV c 128=BV 128 c):=fun c=>
    of_decide_eq_true (all8 (fun c=>decide (BV c 1=BV 1 c∧BV c 2=BV 2 c∧BV c 4=BV 4 c∧BV c 8=BV 8 c∧BV c 16=BV 16 c∧BV c 32=BV 32 c∧BV c 64=BV 64 c∧BV c 128=BV 128 c)) (by decide +kernel) c)
  obtain ⟨h1,h2,h3,h4,h5,h6,h7,h8⟩:=key a
  exact lin_ext (JL a) (HZ a) h1 h2 h3 h4 h5 h6 h7 h8 b
theorem UJ (a:UInt8):BV a 1=a:=of_decide_eq_true (all8 (fun a=>decide (BV a 1=a)) (by decide +kernel) a)
theorem one_gmul (a:UInt8):BV 1 a=a:=by rw [KD,UJ]
theorem IZ (a:UInt8):BV a 0=0:=(JL a).zero
theorem EU (a:UInt8):BV 0 a=0:=(HZ a).zero
theorem gmul_add (a b c:UInt8):BV a (b ^^^ c)=BV a b ^^^ BV a c:=JL a b c
theorem QN (a b c:UInt8):BV (a ^^^ b) c=BV a c ^^^ BV b c:=HZ c a b
def pw2:List UInt8:=[1,2,4,8,16,32,64,128]
theorem lin_ext' {f g:UInt8→UInt8} (hf:VK f) (hg:VK g) (h:∀ b∈pw2,f b=g b) (x:UInt8):f x=g x:=
  lin_ext hf hg (h _ (by simp [pw2])) (h _ (by simp [pw2])) (h _ (by simp [pw2])) (h _ (by simp [pw2])) (h _ (by simp [pw2])) (h _ (by simp [pw2])) (h _ (by simp [pw2])) (h _ (by simp [pw2])) x
theorem assoc_basis:∀ a∈pw2,∀ b∈pw2,∀ c∈pw2,BV (BV a b) c=BV a (BV b c):=by decide +kernel
theorem HS (a b c:UInt8):BV (BV a b) c=BV a (BV b c):=by
  refine lin_ext' (f:=fun a=>BV (BV a b) c) (g:=fun a=>BV a (BV b c)) ((HZ c).comp (HZ b)) (HZ _) (fun a ha=>?_) a
  refine lin_ext' (f:=fun b=>BV (BV a b) c) (g:=fun b=>BV a (BV b c)) ((HZ c).comp (JL a)) ((JL a).comp (HZ c)) (fun b hb=>?_) b
  exact lin_ext' (f:=fun c=>BV (BV a b) c) (g:=fun c=>BV a (BV b c)) (JL _) ((JL a).comp (JL b)) (fun c hc=>assoc_basis a ha b hb c hc) c
theorem QG (a:UInt8) (m:Nat):∀ n,JQ a (m+n)=BV (JQ a m) (JQ a n)
  | 0=>by simp [JQ,UJ]
  | n+1=>by rw [← Nat.add_assoc];simp only [JQ];rw [QG a m n,HS]
theorem gpow_one (a:UInt8):JQ a 1=a:=by simp [JQ,one_gmul]
def fast (a:UInt8):UInt8:=
  let a2:=BV a a;let a4:=BV a2 a2;let a8:=BV a4 a4;let a16:=BV a8 a8;let a32:=BV a16 a16;let a64:=BV a32 a32;let a128:=BV a64 a64
  BV a128 (BV a64 (BV a32 (BV a16 (BV a8 (BV a4 a2)))))
theorem ginv_fast (a:UInt8):GC a=fast a:=by
  have h2:BV a a=JQ a 2:=by rw [show (2:Nat)=1+1 from rfl,QG,gpow_one]
  have dbl:∀ n,BV (JQ a n) (JQ a n)=JQ a (n+n):=fun n=>(QG a n n).symm
  unfold fast GC
  simp only [h2,dbl,← QG]
theorem VO {a:UInt8} (h:a≠0):BV a (GC a)=1:=by
  have:=all8 (fun a=>decide (a=0∨BV a (fast a)=1)) (by decide +kernel) a
  rw [ginv_fast];exact (of_decide_eq_true this).resolve_left h
theorem MW {a b:UInt8}:BV a b=0↔a=0∨b=0:=by
  constructor
  · intro h
    by_cases ha:a=0
    · exact .inl ha
    · right
      have:=congrArg (BV (GC a)) h
      rwa [IZ,← HS,KD (GC a),VO ha,one_gmul] at this
  · rintro (rfl|rfl)
    · exact EU _
    · exact IZ _
theorem u8of_nat (n:Nat):GN (n:Int)=UInt8.ofNat n:=by
  unfold GN
  rw [show ((n:Int) % 256).toNat=n % 256 by omega]
  exact UInt8.toNat_inj.1 (by simp)
open Go.Fw
theorem gmul_lc (a b c:UInt8):BV a (BV b c)=BV b (BV a c):=by rw [← HS,KD a b,HS]
theorem QF (x:UInt8):EB [] x=0:=rfl
theorem FU (c:UInt8) (l:List UInt8) (x:UInt8):EB (c :: l) x=BV (EB l x) x ^^^ c:=rfl
theorem QR (i:Nat):([]:List UInt8)[i]! = 0:=rfl
theorem GI (c:UInt8) (l:List UInt8) (i:Nat):(c :: l)[i+1]! = l[i]!:=by simp
theorem DH {l:List UInt8} {i:Nat} (h:l.length≤i):l[i]! = 0:=by
  rw [getElem!_def,List.getElem?_eq_none h];rfl
theorem KS:∀ (l:List UInt8),(∀ i:Nat,l[i]! = 0)→∀ x,EB l x=0
  | [],_,_=>rfl
  | c :: l,h,x=>by
    have h0:c=0:=h 0
    rw [FU,KS l (fun i=>by have:=h (i+1);rwa [GI] at this) x,EU,h0];rfl
theorem KI:∀ (l m:List UInt8),(∀ i:Nat,l[i]! = m[i]!)→∀ x,EB l x=EB m x
  | [],m,h,x=>by rw [KS m (fun i=>by rw [← h i];rfl) x];rfl
  | c :: l,[],h,x=>by rw [KS (c :: l) (fun i=>by rw [h i];rfl) x];rfl
  | c :: l,d :: m,h,x=>by
    have h0:c=d:=h 0
    rw [FU,FU,KI l m (fun i=>by have:=h (i+1);rwa [GI,GI] at this) x,h0]
theorem PU:∀ (l m r:List UInt8),(∀ i:Nat,r[i]! = l[i]! ^^^ m[i]!)→∀ x,EB r x=EB l x ^^^ EB m x
  | l,m,[],h,x=>by
    have h1:∀ i:Nat,l[i]! = m[i]!:=fun i=>LO.1 ((h i).symm.trans (QR i))
    rw [KI l m h1 x,xor_self];rfl
  | [],m,r,h,x=>by rw [KI r m (fun i=>by rw [h i,QR,zero_xor]) x,QF,zero_xor]
  | l,[],r,h,x=>by rw [KI r l (fun i=>by rw [h i,QR,xor_zero]) x,QF,xor_zero]
  | a :: l,b :: m,c :: r,h,x=>by
    have h0:c=a ^^^ b:=h 0
    rw [FU,FU,FU,PU l m r (fun i=>by have:=h (i+1);rwa [GI,GI,GI] at this) x,QN,h0,xor4]
theorem pev_mul (k:UInt8):∀ (l r:List UInt8),(∀ i:Nat,r[i]! = BV l[i]! k)→∀ x,EB r x=BV (EB l x) k
  | l,[],h,x=>by
    by_cases hk:k=0
    · rw [hk,IZ];rfl
    · rw [KS l (fun i=>by
        have:=(h i).symm.trans (QR i)
        exact (MW.1 this).resolve_right hk) x,EU];rfl
  | [],r,h,x=>by rw [KS r (fun i=>by rw [h i,QR,EU]) x,QF,EU]
  | a :: l,c :: r,h,x=>by
    have h0:c=BV a k:=h 0
    rw [FU,FU,pev_mul k l r (fun i=>by have:=h (i+1);rwa [GI,GI] at this) x,QN,h0,HS,KD k x,← HS]
def sd (r:UInt8):List UInt8→List UInt8
  | []=>[]
  | _ :: l=>EB l r :: sd r l
theorem QX (r:UInt8):∀ (l:List UInt8) (i:Nat),(sd r l)[i]! = EB (l.drop (i+1)) r
  | [],i=>by rw [List.drop_nil];rfl
  | c :: l,0=>rfl
  | c :: l,i+1=>by rw [sd,GI,QX r l i];rfl
theorem TD (r x:UInt8):∀ (l:List UInt8),EB l x=BV (x ^^^ r) (EB (sd r l) x) ^^^ EB l r
  | []=>by simp [sd,EB,IZ]
  | c :: l=>by
    have ih:=TD r x l
    have e:BV (EB l x) x=BV (x ^^^ r) (EB (sd r (c :: l)) x) ^^^ BV (EB l r) r:=by
      rw [ih]
      show _=BV (x ^^^ r) (BV (EB (sd r l) x) x ^^^ EB l r) ^^^ BV (EB l r) r
      rw [QN,gmul_add (x ^^^ r),HS,RS,QN x r (EB l r),RS,KD r (EB l r),xor_self,xor_zero,KD x (EB l r)]
    rw [FU,FU,e,RS]
theorem get_drop (l:List UInt8) (i j:Nat):(l.drop i)[j]! = l[i+j]!:=by
  rw [getElem!_def,getElem!_def,List.getElem?_drop]
theorem UC (l:List UInt8) (r:UInt8) (i:Nat):EB (l.drop i) r=BV (EB (l.drop (i+1)) r) r ^^^ l[i]!:=by
  by_cases h:i<l.length
  · exact pev_drop h
  · rw [List.drop_eq_nil_of_le (by omega),List.drop_eq_nil_of_le (by omega),DH (by omega),QF,EU];rfl
theorem PQ:∀ (xs:List UInt8),xs.Nodup→∀ (l:List UInt8),(∀ i:Nat,xs.length≤i→l[i]! = 0)→(∀ x∈xs,EB l x=0)→∀ i:Nat,l[i]! = 0
  | [],_,l,h,_=>fun i=>h i (Nat.zero_le _)
  | r :: xs,hn,l,h,hx=>by
    obtain ⟨hr,hn'⟩:=List.nodup_cons.1 hn
    have hpr:EB l r=0:=hx r (by simp)
    have hq:∀ i:Nat,(sd r l)[i]! = 0:=PQ xs hn' (sd r l) (fun i hi=>by
        rw [QX]
        exact KS _ (fun j=>by rw [get_drop];exact h _ (by simp;omega)) r) (fun x hxs=>by
        have h1:=TD r x l
        rw [hx x (by simp [hxs]),hpr,xor_zero] at h1
        rcases MW.1 h1.symm with h2|h2
        · exact absurd (LO.1 h2) (fun e=>hr (e ▸ hxs))
        · exact h2)
    intro i
    have hi:EB (l.drop i) r=0:=by
      cases i with
      | zero=>exact hpr
      | succ i=>rw [← QX];exact hq i
    have h2:=UC l r i
    rw [hi,← QX,hq i,EU,zero_xor] at h2
    exact h2.symm
theorem UO {xs:List UInt8} (hn:xs.Nodup) {l m:List UInt8} (hl:∀ i:Nat,xs.length≤i→l[i]! = 0) (hm:∀ i:Nat,xs.length≤i→m[i]! = 0) (h:∀ x∈xs,EB l x=EB m x):∀ i:Nat,l[i]! = m[i]!:=by
  intro i
  have hd:∃ d:List UInt8,∀ i:Nat,d[i]! = l[i]! ^^^ m[i]!:=by
    refine ⟨(List.range (max l.length m.length)).map fun i=>l[i]! ^^^ m[i]!,fun i=>?_⟩
    by_cases hi:i<max l.length m.length
    · rw [getElem!_pos _ i (by simpa using hi)];simp
    · rw [DH (by simpa using hi),DH (l:=l) (by omega),DH (l:=m) (by omega)];rfl
  obtain ⟨d,hd⟩:=hd
  have:=PQ xs hn d (fun i hi=>by rw [hd,hl i hi,hm i hi];rfl) (fun x hx=>by rw [PU l m d hd,h x hx,xor_self]) i
  rw [hd] at this
  exact LO.1 this
theorem OH {l m:List UInt8} (hlen:l.length=m.length) (h:∀ i:Nat,l[i]! = m[i]!):l=m:=by
  apply List.ext_getElem hlen
  intro i h1 h2
  have:=h i
  rwa [getElem!_pos l i h1,getElem!_pos m i h2] at this
open Go.Fw
theorem JZ (l:List UInt8) (i:Nat) (v:UInt8) (j:Nat):(l.set i v)[j]! = if i=j∧i<l.length then v else l[j]!:=by
  rw [getElem!_def,List.getElem?_set,getElem!_def]
  by_cases h:i=j
  · subst h
    by_cases h2:i<l.length
    · simp [h2]
    · rw [if_pos rfl,if_neg h2,if_neg (fun h=>h2 h.2),List.getElem?_eq_none (by omega)]
  · rw [if_neg h,if_neg (fun h'=>h h'.1)]
theorem PH (l m:List UInt8) (i:Nat):(l++m)[i]! = if i<l.length then l[i]! else m[i - l.length]!:=by
  by_cases h:i<l.length
  · rw [if_pos h,getElem!_def,getElem!_def,List.getElem?_append_left h]
  · rw [if_neg h,getElem!_def,getElem!_def,List.getElem?_append_right (by omega)]
theorem OX (n i:Nat):(List.replicate n (0:UInt8))[i]! = 0:=by
  by_cases h:i<n
  · rw [getElem!_pos _ i (by simpa using h)];simp
  · exact DH (by simpa using h)
theorem KB (l:List UInt8) (k:UInt8) (i:Nat):(l.map (BV · k))[i]! = BV l[i]! k:=by
  by_cases h:i<l.length
  · rw [getElem!_pos _ i (by simpa using h),getElem!_pos _ i h];simp
  · rw [DH (by simpa using h),DH (by omega),EU]
theorem QD {l:List UInt8} {k:Nat} (x:UInt8):(l.take k).contains x=true↔∃ i,i<k∧i<l.length∧l[i]! = x:=by
  rw [List.contains_iff_mem,List.mem_iff_getElem?]
  constructor
  · rintro ⟨i,h⟩
    rw [List.getElem?_take] at h
    split at h
    · rename_i hk
      obtain ⟨h1,h2⟩:=List.getElem?_eq_some_iff.1 h
      exact ⟨i,hk,h1,by rw [getElem!_pos l i h1,h2]⟩
    · cases h
  · rintro ⟨i,hk,hl,h⟩
    exact ⟨i,by rw [List.getElem?_take,if_pos hk,List.getElem?_eq_getElem hl,← h,getElem!_pos l i hl]⟩
theorem LX {l:List UInt8}:l.Nodup↔∀ i j,i<j→j<l.length→l[i]!≠l[j]!:=by
  rw [List.nodup_iff_pairwise_ne,List.pairwise_iff_getElem]
  constructor
  · intro h i j hij hj
    rw [getElem!_pos l i (by omega),getElem!_pos l j hj];exact h i j (by omega) hj hij
  · intro h i j hi hj hij
    have:=h i j hij hj
    rwa [getElem!_pos l i hi,getElem!_pos l j hj] at this
theorem scan_false {f:Nat→Option Bool} (m i:Nat) (hf:∀ k,f k=none∨f k=some true):FH f false i m=false↔∀ k,i≤k→k<i+m→f k=none:=by
  induction m generalizing i with
  | zero=>exact ⟨fun _ k h1 h2=>by omega,fun _=>rfl⟩
  | succ m ih=>
    unfold FH
    rcases hf i with h|h
    · rw [h];simp only
      rw [ih (i+1)]
      constructor
      · intro h1 k hk hk2
        rcases Nat.lt_or_eq_of_le hk with h3|h3
        · exact h1 k (by omega) (by omega)
        · exact h3 ▸ h
      · intro h1 k hk hk2;exact h1 k (by omega) (by omega)
    · rw [h];simp only
      constructor
      · intro e;cases e
      · intro h1;rw [h1 i (Nat.le_refl _) (by omega)] at h;cases h
theorem scan_true {f:Nat→Option Bool} (m i:Nat) (hf:∀ k,f k=none∨f k=some false):FH f true i m=true↔∀ k,i≤k→k<i+m→f k=none:=by
  induction m generalizing i with
  | zero=>exact ⟨fun _ k h1 h2=>by omega,fun _=>rfl⟩
  | succ m ih=>
    unfold FH
    rcases hf i with h|h
    · rw [h];simp only
      rw [ih (i+1)]
      constructor
      · intro h1 k hk hk2
        rcases Nat.lt_or_eq_of_le hk with h3|h3
        · exact h1 k (by omega) (by omega)
        · exact h3 ▸ h
      · intro h1 k hk hk2;exact h1 k (by omega) (by omega)
    · rw [h];simp only
      constructor
      · intro e;cases e
      · intro h1;rw [h1 i (Nat.le_refl _) (by omega)] at h;cases h
theorem RO (xs ys:List UInt8):FP xs ys=false↔xs.length=ys.length∧xs.Nodup:=by
  unfold FP twice
  by_cases e:xs.length=ys.length
  · rw [if_neg (by simp;omega)]
    rw [scan_false _ _ (fun k=>by split <;> simp),LX]
    constructor
    · intro h
      refine ⟨e,fun i j hij hj hx=>?_⟩
      have:=h j (Nat.zero_le _) (by omega)
      rw [if_pos ((QD _).2 ⟨i,hij,by omega,hx⟩)] at this;cases this
    · rintro ⟨_,h⟩ k _ hk
      rw [if_neg]
      intro hc
      obtain ⟨i,hi,hl,hx⟩:=(QD _).1 hc
      exact h i k hi (by omega) hx
  · rw [if_pos (by simp;omega)];simp [e]
structure Thr (xs ys l:List UInt8):Prop where
  len:l.length=xs.length
  at_:∀ i,i<xs.length→EB l xs[i]! = ys[i]!
theorem Thr.unique {xs ys l m:List UInt8} (hn:xs.Nodup) (h:Thr xs ys l) (hm:∀ i:Nat,xs.length≤i→m[i]! = 0) (hv:∀ i,i<xs.length→EB m xs[i]! = ys[i]!):∀ i:Nat,l[i]! = m[i]!:=
  UO hn (fun i hi=>DH (by rw [h.len];exact hi)) hm (fun x hx=>by
    obtain ⟨i,hi,rfl⟩:=List.getElem_of_mem hx
    have h1:=h.at_ i hi
    have h2:=hv i hi
    rw [getElem!_pos xs i hi] at h1 h2
    rw [h1,h2])
theorem zrS_get (p:List UInt8) (x:UInt8):∀ j,j≤p.length→∀ i:Nat,(IY p x j)[i]! = if p.length - j≤i∧i<p.length then BV p[i]! x ^^^ (if 0<i then p[i - 1]! else 0) else p[i]!
  | 0,_,i=>by rw [IY,if_neg (by omega)]
  | j+1,h,i=>by
    have ih:=zrS_get p x j (by omega)
    have hl:=FZ p x j
    unfold IY
    simp only
    by_cases h1:p.length - 1 - j=i
    · subst h1
      by_cases h0:0<p.length - 1 - j
      · rw [if_pos h0]
        rw [JZ,List.length_set,hl,if_pos ⟨rfl,by omega⟩,JZ,hl,if_pos ⟨rfl,by omega⟩,JZ,if_neg (by omega),ih,ih,if_neg (by omega),if_neg (by omega),if_pos ⟨by omega,by omega⟩,if_pos h0]
      · rw [if_neg h0]
        rw [JZ,hl,if_pos ⟨rfl,by omega⟩,ih,if_neg (by omega),if_pos ⟨by omega,by omega⟩,if_neg h0,xor_zero]
    · have e:∀ v u:UInt8,(if 0<p.length - 1 - j then ((IY p x j).set (p.length - 1 - j) v).set (p.length - 1 - j) u else (IY p x j).set (p.length - 1 - j) v)[i]! = (IY p x j)[i]!:=fun v u=>by
        split
        · rw [JZ,if_neg (by omega),JZ,if_neg (by omega)]
        · rw [JZ,if_neg (by omega)]
      rw [e,ih]
      by_cases h2:p.length - j≤i∧i<p.length
      · rw [if_pos h2,if_pos (show p.length - (j+1)≤i∧i<p.length by omega)]
      · rw [if_neg h2,if_neg (by omega)]
theorem zrO_get (xs:List UInt8) (k i:Nat):(HB xs (k+1))[i]! = BV (HB xs k)[i]! xs[k]! ^^^ (if 0<i then (HB xs k)[i - 1]! else 0):=by
  have hl:=EW xs k
  have e:∀ i:Nat,(HB xs k++[0])[i]! = (HB xs k)[i]!:=fun i=>by
    rw [PH]
    by_cases h:i<(HB xs k).length
    · rw [if_pos h]
    · rw [if_neg h,DH (l:=HB xs k) (by omega)]
      by_cases h2:i=(HB xs k).length
      · subst h2;rw [Nat.sub_self];rfl
      · exact DH (by simp;omega)
  rw [HB,zrS_get _ _ _ (Nat.le_refl _) i,e,e]
  by_cases h:i<(HB xs k++[0]).length
  · rw [if_pos ⟨by omega,h⟩]
  · rw [if_neg (by omega)]
    simp only [List.length_append,List.length_singleton] at h
    rw [DH (l:=HB xs k) (by omega),EU]
    split
    · rw [DH (l:=HB xs k) (by omega)];rfl
    · rfl
theorem zrO_pev (xs:List UInt8) (k:Nat) (x:UInt8):EB (HB xs (k+1)) x=BV (EB (HB xs k) x) (x ^^^ xs[k]!):=by
  have h1:EB ((HB xs k).map (BV · xs[k]!)) x=BV (EB (HB xs k) x) xs[k]!:=pev_mul _ _ _ (fun i=>KB _ _ i) x
  have h2:EB (0 :: HB xs k) x=BV (EB (HB xs k) x) x:=by rw [FU,xor_zero]
  rw [PU ((HB xs k).map (BV · xs[k]!)) (0 :: HB xs k) (HB xs (k+1)) (fun i=>by
    rw [zrO_get,KB]
    congr 1
    cases i with
    | zero=>rfl
    | succ i=>rw [GI,if_pos (by omega)];rfl) x,h1,h2,← gmul_add,xor_c]
theorem zrO_lead (xs:List UInt8):∀ k,(HB xs k)[k]! = 1
  | 0=>rfl
  | k+1=>by
    rw [zrO_get,DH (l:=HB xs k) (by rw [EW];omega),EU,zero_xor,if_pos (by omega)]
    exact zrO_lead xs k
theorem TK {xs:List UInt8} {j:Nat}:∀ k,j<k→EB (HB xs k) xs[j]! = 0
  | 0,h=>by omega
  | k+1,h=>by
    rw [zrO_pev]
    by_cases hj:j=k
    · subst hj;rw [xor_self,IZ]
    · rw [TK k (by omega),EU]
theorem sdC_eq {p:List UInt8} {x:UInt8} {n:Nat} (hp:p.length=n+1):∀ j,j≤n→SJ p x n j=EB (p.drop (n+1 - j)) x
  | 0,_=>by rw [Nat.sub_zero,← hp,List.drop_length];rfl
  | j+1,h=>by
    unfold SJ
    rw [sdC_eq hp j (by omega),UC p x (n+1 - (j+1)),show n+1 - (j+1)+1=n+1 - j by omega,xor_c,show n - 1 - j+1=n+1 - (j+1) by omega]
theorem sdQ_get {q0 p:List UInt8} {x:UInt8} {n:Nat} (hq:q0.length=n):∀ j,j≤n→∀ i:Nat,(HH q0 p x n j)[i]! = if n - j≤i∧i<n then SJ p x n (n - i) else q0[i]!
  | 0,_,i=>by rw [HH,if_neg (by omega)]
  | j+1,h,i=>by
    unfold HH
    rw [JZ,ID,sdQ_get hq j (by omega)]
    by_cases h1:n - 1 - j=i
    · rw [if_pos ⟨h1,by omega⟩,if_pos (by omega)];congr 1;omega
    · rw [if_neg (by omega)]
      by_cases h2:n - j≤i∧i<n
      · rw [if_pos h2,if_pos (by omega)]
      · rw [if_neg h2,if_neg (by omega)]
theorem sdQ_eq {q0 p:List UInt8} {x:UInt8} {n:Nat} (hq:q0.length=n) (hp:p.length=n+1):∀ i:Nat,(HH q0 p x n n)[i]! = (sd x p)[i]!:=by
  intro i
  rw [sdQ_get hq n (Nat.le_refl _),QX]
  by_cases h:i<n
  · rw [if_pos (by omega),sdC_eq hp _ (by omega),show n+1 - (n - i)=i+1 by omega]
  · rw [if_neg (by omega),DH (by omega),List.drop_eq_nil_of_le (by omega)];rfl
theorem adF_get (l q:List UInt8) (f:UInt8):∀ k,k≤l.length→∀ i:Nat,(adF l q f k)[i]! = l[i]! ^^^ (if i<k then BV q[i]! f else 0)
  | 0,_,i=>by simp [adF]
  | k+1,h,i=>by
    have ih:=adF_get l q f k (by omega)
    simp only [adF,JZ,IJ,ih]
    by_cases h1:k=i
    · subst h1;rw [if_pos (by simp;omega),if_neg (by omega),if_pos (by omega),xor_zero]
    · rw [if_neg (by omega)]
      congr 1
      by_cases h3:i<k
      · rw [if_pos h3,if_pos (by omega)]
      · rw [if_neg h3,if_neg (by omega)]
theorem pev_adF {l q:List UInt8} {f:UInt8} {n:Nat} (hl:l.length=n) (hq:q.length=n) (x:UInt8):EB (adF l q f n) x=EB l x ^^^ BV (EB q x) f:=by
  rw [PU l (q.map (BV · f)) _ (fun i=>by
    rw [adF_get l q f _ (by omega) i,KB]
    by_cases h3:i<n
    · rw [if_pos h3]
    · rw [if_neg h3,DH (l:=q) (by omega),EU]) x,pev_mul f q _ (fun i=>KB q f i) x]
theorem coQ_pev {xs:List UInt8} {i:Nat} (hi:i<xs.length) (x:UInt8):EB (GK (BE xs) xs xs.length (i+1)) x=EB (sd xs[i]! (BE xs)) x:=
  KI _ _ (fun j=>by rw [GK];exact sdQ_eq (HG _ _ _ _) (FE xs) j) x
theorem VV {xs:List UInt8} (hn:xs.Nodup) {i j:Nat} (hi:i<xs.length) (hj:j<xs.length) (hij:j≠i):EB (GK (BE xs) xs xs.length (i+1)) xs[j]! = 0:=by
  rw [coQ_pev hi]
  have h1:=TD xs[i]! xs[j]! (BE xs)
  rw [show EB (BE xs) xs[j]! = 0 from TK _ hj,show EB (BE xs) xs[i]! = 0 from TK _ hi,xor_zero] at h1
  rcases MW.1 h1.symm with h2|h2
  · rw [LO] at h2
    rcases Nat.lt_or_gt_of_ne hij with h3|h3
    · exact absurd h2 (LX.1 hn j i h3 hi)
    · exact absurd h2.symm (LX.1 hn i j h3 hj)
  · exact h2
theorem coQ_self {xs:List UInt8} (hn:xs.Nodup) {i:Nat} (hi:i<xs.length):EB (GK (BE xs) xs xs.length (i+1)) xs[i]!≠0:=by
  intro e
  have hz:=PQ xs hn (GK (BE xs) xs xs.length (i+1)) (fun j hj=>DH (by rw [HG];exact hj)) (fun x hx=>by
    obtain ⟨j,hj,rfl⟩:=List.getElem_of_mem hx
    by_cases hji:j=i
    · subst hji;rw [getElem!_pos xs j hj] at e;exact e
    · have:=VV hn hi hj hji
      rwa [getElem!_pos xs j hj] at this) (xs.length - 1)
  rw [GK,sdQ_eq (HG _ _ _ _) (FE xs),QX,show xs.length - 1+1=xs.length by omega,UC,List.drop_eq_nil_of_le (by rw [FE];omega),QF,EU,zero_xor] at hz
  rw [BE,zrO_lead] at hz
  exact absurd hz (by decide)
theorem coL_at {xs ys:List UInt8} (hn:xs.Nodup) {j:Nat} (hj:j<xs.length):∀ i,i≤xs.length→EB (PA (BE xs) xs ys xs.length i) xs[j]! = if j<i then ys[j]! else 0
  | 0,_=>by simp only [PA];rw [KS _ (OX _)];rfl
  | i+1,h=>by
    unfold PA
    rw [pev_adF (HQ _ _ _ _ _) (HG _ _ _ _),coL_at hn hj i (by omega)]
    by_cases hji:j=i
    · subst hji
      rw [if_neg (by omega),if_pos (by omega),zero_xor,gmul_lc,VO (coQ_self hn hj),UJ]
    · rw [VV hn (by omega) hj hji,EU,xor_zero]
      by_cases h1:j<i
      · rw [if_pos h1,if_pos (by omega)]
      · rw [if_neg h1,if_neg (by omega)]
theorem co_thr {xs ys:List UInt8} (hn:xs.Nodup):Thr xs ys (PA (BE xs) xs ys xs.length xs.length):=
  ⟨HQ _ _ _ _ _,fun i hi=>by rw [coL_at hn hi _ (Nat.le_refl _),if_pos hi]⟩
theorem MF {xs ys:List UInt8} (h:FP xs ys=false):(EA xs ys).2=0∧Thr xs ys (EA xs ys).1∧xs.length=ys.length∧xs.Nodup:=by
  have h':=(RO xs ys).1 h
  unfold EA;rw [h]
  exact ⟨rfl,co_thr h'.2,h'⟩
theorem coeff_bad {xs ys:List UInt8} (h:FP xs ys=true):EA xs ys=([],1):=by unfold EA;rw [h];rfl
theorem through_ok {xs ys:List UInt8} (at_:UInt8) (h:FP xs ys=false):CX xs ys at_=(EB (EA xs ys).1 at_,0):=by
  unfold CX;rw [(MF h).1];rfl
open Go.Fw
def tab (n:Nat) (f:Nat→UInt8):List UInt8:=(List.range n).map f
theorem HN (n:Nat) (f:Nat→UInt8):(tab n f).length=n:=by simp [tab]
theorem IC (n:Nat) (f:Nat→UInt8) (i:Nat):(tab n f)[i]! = if i<n then f i else 0:=by
  by_cases h:i<n
  · rw [if_pos h,getElem!_pos _ i (by rw [HN];exact h)];simp [tab]
  · rw [if_neg h,DH (by rw [HN];omega)]
open Go.Fw
theorem TO {β:Type} {f:Nat→Option β} {d r:β} (hf:∀ k,f k=none∨f k=some r):∀ (m i:Nat),(FH f d i m=d∧∀ k,i≤k→k<i+m→f k=none)∨(FH f d i m=r∧∃ k,i≤k∧k<i+m∧f k=some r)
  | 0,i=>.inl ⟨rfl,fun k h1 h2=>by omega⟩
  | m+1,i=>by
    unfold FH
    rcases hf i with h|h
    · rw [h]
      rcases TO (d:=d) hf m (i+1) with ⟨h1,h2⟩|⟨h1,k,h2,h3,h4⟩
      · refine .inl ⟨h1,fun k hk hk2=>?_⟩
        rcases Nat.lt_or_eq_of_le hk with h3|h3
        · exact h2 k (by omega) (by omega)
        · exact h3 ▸ h
      · exact .inr ⟨h1,k,by omega,by omega,h4⟩
    · rw [h];exact .inr ⟨rfl,i,Nat.le_refl _,by omega,h⟩
theorem mulb {a b:Int} (ha:0≤a) (ha':a≤1000000) (hb:0≤b) (hb':b≤1000000):-9223372036854775808≤a*b∧a*b≤9223372036854775807:=by
  have h1:a*b≤1000000*1000000:=Int.mul_le_mul ha' hb' hb (by omega)
  have h2:=Int.mul_nonneg ha hb
  omega
theorem mulbN {a b:Nat} (ha:a≤1000000) (hb:b≤1000000):-9223372036854775808≤((a*b:Nat):Int)∧((a*b:Nat):Int)≤9223372036854775807:=by
  have h1:a*b≤1000000*1000000:=Nat.mul_le_mul ha hb
  omega
def RG (f:Share):Bool:=((decide (f.threshold<1) || decide (f.many<f.threshold)) || decide (8<f.many)) || decide (64<(f.data.length:Int))
def NJ (f s:Share):Bool:=(s.threshold != f.threshold || s.many != f.many) || ((s.data.length:Int) != (f.data.length:Int))
def IK (l:List Share) (k:Nat):Int:=if k=0 then 0 else l[k - 1]!.index
def alIdx (f s:Share) (last:Int):Bool:=decide (s.index≤last) || decide (f.many<s.index)
def EL (l:List Share):Bool:=if (l.length:Int) == 0 then false else if RG l[0]! then false else
  FH (fun k=>if NJ l[0]! l[k]! then some false else if alIdx l[0]! l[k]! (IK l k) then some false else none) true 0 (l.length - 0)
def alRef (l:List Share) (k:Nat):Bool:=((((NJ l[0]! l[k]!) || decide (l[k]!.index<1)) || decide (l[0]!.many<l[k]!.index)) || (decide (0<(k:Int)) && decide (l[k]!.index≤l[k - 1]!.index)))
def refAlikeM (l:List Share):Bool:=if (l.length:Int) == 0 then false else if RG l[0]! then false else FH (fun k=>if alRef l k then some false else none) true 0 (l.length - 0)
def ep1 (l:List Share) (k:Nat):Bool:=(l[k]!.epoch != l[0]!.epoch || decide (l[k]!.epoch<0)) || decide (1048576<l[k]!.epoch)
def BN (l:List Share):Int:=if !EL l then 80 else FH (fun k=>if ep1 l k then some 81 else none) 0 0 (l.length - 0)
def VT (l:List Share):Int:=if !refAlikeM l then 80 else FH (fun k=>if ep1 l k then some 81 else none) 0 0 (l.length - 0)
theorem US:(∀ a b:Bool,((a || b)=true)=(a=true∨b=true))∧(∀ a b:Bool,((a && b)=true)=(a=true∧b=true))∧(∀ b:Bool,(¬ b=true)=(b=false))
    ∧(∀ a b:Bool,((a || b)=false)=(a=false∧b=false))∧(∀ a b:Bool,((a && b)=false)=(a=false∨b=false))
    ∧(∀ (α:Type) [BEq α] [LawfulBEq α] (a b:α),((a != b)=true)=(a≠b))∧(∀ (α:Type) [BEq α] [LawfulBEq α] (a b:α),((a == b)=true)=(a=b))
    ∧(∀ (α:Type) [BEq α] [LawfulBEq α] (a b:α),((a != b)=false)=(a=b))∧(∀ (α:Type) [BEq α] [LawfulBEq α] (a b:α),((a == b)=false)=(a≠b))
    ∧(∀ (p:Prop) [Decidable p],(decide p=true)=p)∧(∀ (p:Prop) [Decidable p],(decide p=false) = ¬ p)
    ∧(∀ (α:Type) (a b:α),(a≠b) = ¬ a=b)∧(∀ b:Bool,((!b)=true)=(b=false))∧(∀ b:Bool,((!b)=false)=(b=true))∧((!true)=false)∧((!false)=true)
    ∧((false=true)=False)∧((¬ True)=False)∧((¬ False)=True)
    ∧(∀ f:Share,RG f=(((decide (f.threshold<1) || decide (f.many<f.threshold)) || decide (8<f.many)) || decide (64<(f.data.length:Int))))
    ∧(∀ f s:Share,NJ f s=((s.threshold != f.threshold || s.many != f.many) || ((s.data.length:Int) != (f.data.length:Int))))
    ∧(∀ (f s:Share) (last:Int),alIdx f s last=(decide (s.index≤last) || decide (f.many<s.index)))
    ∧(∀ (l:List Share) (k:Nat),alRef l k=((((NJ l[0]! l[k]!) || decide (l[k]!.index<1)) || decide (l[0]!.many<l[k]!.index)) || (decide (0<(k:Int)) && decide (l[k]!.index≤l[k - 1]!.index))))
    ∧(∀ (l:List Share) (k:Nat),ep1 l k=((l[k]!.epoch != l[0]!.epoch || decide (l[k]!.epoch<0)) || decide (1048576<l[k]!.epoch))):=
  ⟨dbs.1,dbs.2.1,dbs.2.2.1,dbs.2.2.2.1,dbs.2.2.2.2.1,dbs.2.2.2.2.2.1,dbs.2.2.2.2.2.2.1,dbs.2.2.2.2.2.2.2.1,dbs.2.2.2.2.2.2.2.2.1,dbs.2.2.2.2.2.2.2.2.2.1,dbs.2.2.2.2.2.2.2.2.2.2.1,dbs.2.2.2.2.2.2.2.2.2.2.2.1,dbs.2.2.2.2.2.2.2.2.2.2.2.2.1,dbs.2.2.2.2.2.2.2.2.2.2.2.2.2.1,dbs.2.2.2.2.2.2.2.2.2.2.2.2.2.2.1,dbs.2.2.2.2.2.2.2.2.2.2.2.2.2.2.2.1,dbs.2.2.2.2.2.2.2.2.2.2.2.2.2.2.2.2.1,dbs.2.2.2.2.2.2.2.2.2.2.2.2.2.2.2.2.2.1,dbs.2.2.2.2.2.2.2.2.2.2.2.2.2.2.2.2.2.2,fun _=>rfl,fun _ _=>rfl,fun _ _ _=>rfl,fun _ _=>rfl,fun _ _=>rfl⟩
structure Good (l:List Share):Prop where
  pos:0<l.length
  t1:1≤l[0]!.threshold
  tm:l[0]!.threshold≤l[0]!.many
  m8:l[0]!.many≤8
  d64:l[0]!.data.length≤64
  th:∀ k,k<l.length→l[k]!.threshold=l[0]!.threshold
  ma:∀ k,k<l.length→l[k]!.many=l[0]!.many
  da:∀ k,k<l.length→l[k]!.data.length=l[0]!.data.length
  ix:∀ k,k<l.length→1≤l[k]!.index∧l[k]!.index≤l[0]!.many
  inc:∀ k,k+1<l.length→l[k]!.index<l[k+1]!.index
theorem Good.mono {l:List Share} (h:Good l):∀ (j i:Nat),i<j→j<l.length→l[i]!.index<l[j]!.index
  | 0,i,hi,_=>by omega
  | j+1,i,hi,hj=>by
    have:=h.inc j hj
    by_cases hij:i=j
    · subst hij;exact this
    · have:=h.mono j i (by omega) (by omega);omega
theorem TI (f:Share):RG f=false↔1≤f.threshold∧f.threshold≤f.many∧f.many≤8∧f.data.length≤64:=by
  unfold RG;simp only [Bool.or_eq_false_iff,decide_eq_false_iff_not];omega
theorem MS (f s:Share):NJ f s=false↔s.threshold=f.threshold∧s.many=f.many∧s.data.length=f.data.length:=by
  unfold NJ;simp only [Bool.or_eq_false_iff,bne_eq_false_iff_eq];omega
theorem UW (l:List Share):EL l=true↔Good l:=by
  unfold EL
  by_cases h0:l.length=0
  · rw [if_pos (by simp;exact List.eq_nil_of_length_eq_zero h0)]
    exact ⟨fun h=>(by cases h),fun h=>by have:=h.pos;omega⟩
  rw [if_neg (by simp;intro h;subst h;simp at h0)]
  cases h1:RG l[0]! with
  | true=>
    simp only [if_true]
    refine ⟨fun h=>by simp at h,fun h=>?_⟩
    have:=(TI l[0]!).2 ⟨h.t1,h.tm,h.m8,h.d64⟩
    rw [this] at h1;cases h1
  | false=>
    simp only [Bool.false_eq_true,if_false]
    obtain ⟨a1,a2,a3,a4⟩:=(TI _).1 h1
    rw [scan_true _ _ (fun k=>by split;simp;split <;> simp)]
    constructor
    · intro h
      have key:∀ k,k<l.length→(NJ l[0]! l[k]! = false)∧(IK l k<l[k]!.index∧l[k]!.index≤l[0]!.many):=fun k hk=>by
        have:=h k (Nat.zero_le _) (by omega)
        split at this
        · cases this
        · rename_i hd
          split at this
          · cases this
          · rename_i hi
            refine ⟨by simpa using hd,?_⟩
            unfold alIdx at hi;simp only [Bool.or_eq_true,decide_eq_true_eq,not_or] at hi;omega
      have hix:∀ k,k<l.length→1≤l[k]!.index:=fun k=>by
        induction k with
        | zero=>intro hk;have:=(key 0 hk).2.1;unfold IK at this;rw [if_pos rfl] at this;omega
        | succ k ih=>intro hk;have:=(key _ hk).2.1;have h2:=ih (by omega);unfold IK at this;rw [if_neg (by omega)] at this;simp only [Nat.add_sub_cancel] at this;omega
      exact ⟨by omega,a1,a2,a3,a4,fun k hk=>((MS _ _).1 (key k hk).1).1,fun k hk=>((MS _ _).1 (key k hk).1).2.1,fun k hk=>((MS _ _).1 (key k hk).1).2.2,fun k hk=>⟨hix k hk,(key k hk).2.2⟩,fun k hk=>by
        have:=(key _ hk).2.1;unfold IK at this;rw [if_neg (by omega)] at this;simpa using this⟩
    · intro h k _ hk
      rw [if_neg,if_neg]
      · unfold alIdx;simp only [Bool.or_eq_true,decide_eq_true_eq,not_or]
        have h1:=h.ix k (by omega)
        unfold IK
        cases k with
        | zero=>simp only [if_true];omega
        | succ k=>rw [if_neg (by omega)];have:=h.inc k (by omega);simp only [Nat.add_sub_cancel];omega
      · have:=(MS l[0]! l[k]!).2 ⟨h.th k (by omega),h.ma k (by omega),h.da k (by omega)⟩
        rw [this];simp
structure Vd (l:List Share):Prop extends Good l where
  ep:∀ k,k<l.length→l[k]!.epoch=l[0]!.epoch
  ep0:0≤l[0]!.epoch
  ep1:l[0]!.epoch≤1048576
theorem SK (l:List Share) (k:Nat):ep1 l k=false↔l[k]!.epoch=l[0]!.epoch∧0≤l[k]!.epoch∧l[k]!.epoch≤1048576:=by
  unfold ep1;simp only [Bool.or_eq_false_iff,bne_eq_false_iff_eq,decide_eq_false_iff_not];omega
theorem EI (l:List Share):BN l=0↔Vd l:=by
  unfold BN
  cases ha:EL l with
  | false=>
    simp only [Bool.not_false,if_true]
    exact ⟨fun h=>by omega,fun h=>by rw [(UW l).2 h.toGood] at ha;cases ha⟩
  | true=>
    have hg:=(UW l).1 ha
    simp only [Bool.not_true,Bool.false_eq_true,if_false]
    rcases TO (f:=fun k=>if ep1 l k then some (81:Int) else none) (d:=(0:Int)) (r:=81) (fun k=>by split <;> simp) (l.length - 0) 0 with ⟨h1,h2⟩|⟨h1,k,h2,h3,h4⟩
    · rw [h1]
      have key:∀ k,k<l.length→ep1 l k=false:=fun k hk=>by
        have:=h2 k (Nat.zero_le _) (by omega)
        split at this
        · cases this
        · rename_i h;simpa using h
      refine ⟨fun _=>⟨hg,fun k hk=>((SK l k).1 (key k hk)).1,((SK l 0).1 (key 0 hg.pos)).2.1,((SK l 0).1 (key 0 hg.pos)).2.2⟩,fun _=>rfl⟩
    · rw [h1]
      refine ⟨fun h=>by omega,fun h=>?_⟩
      have:=(SK l k).2 ⟨h.ep k (by omega),by rw [h.ep k (by omega)];exact h.ep0,by rw [h.ep k (by omega)];exact h.ep1⟩
      simp only [this] at h4;cases h4
def DA (a b:Share):Bool:=(((a.epoch == b.epoch && a.index == b.index) && a.threshold == b.threshold) && a.many == b.many) && a.data == b.data
theorem UT (a b:Share):DA a b=true↔a=b:=by
  unfold DA;simp only [Bool.and_eq_true,beq_iff_eq]
  constructor
  · rintro ⟨⟨⟨⟨h1,h2⟩,h3⟩,h4⟩,h5⟩;exact Share.ext h1 h2 h3 h4 h5
  · rintro rfl;simp
theorem ext_getS {α:Type} [Inhabited α] {l m:List α} (hlen:l.length=m.length) (h:∀ i:Nat,i<l.length→l[i]! = m[i]!):l=m:=by
  apply List.ext_getElem hlen
  intro i h1 h2
  have:=h i h1
  rwa [getElem!_pos l i h1,getElem!_pos m i h2] at this
def PO (l:List Share):Bool:=FH (fun k=>if 70<(l[k]!.data.length:Int) then some false else none) (decide ((l.length:Int)≤10)) 0 (l.length - 0)
open Go.Fw Go.RowKit
set_option maxHeartbeats 4000000 in
set_option maxRecDepth 100000 in
theorem c_alike {O:List Nat} (l_v:Value) (l:List Share) (w:World) (a2:AZ Enc.share w O l_v l) (hO:∀ b∈O,b<w.heap.size):CD Try.prog 88 [l_v] w (fun v _=>v = .bool (EL l)):= by
 have e6:=a2.len_le
 have a2:AZ Enc.share w ([]++O) l_v l:=a2
 have s0:St w O w []:=St.start hO
 refine BK 75 Try.func88 rfl rfl oT (fun F0=>AI (AC kR (AA (AF (vO false) rfl (AH (AD (AI (AI (AC kR (AA (AG (l_v) rfl (AA (CB U32_ rfl a2 (AA (EV .i64 (l.length:Int) (0:Int) rfl rfl (AH (AD (AN ((l.length:Int) == (0:Int)) rfl rfl (fun a9=>?_) (fun a9=>?_)))))))))))))))))))
 ·have e7:(l.length:Int)=(0:Int):=by simpa using a9
  refine AI (AC kR (AA (AF (vO false) rfl (AH (AD (AQ (AR (AX rfl (CK rfl rfl rfl) (?_)))))))))
  have e:(EL l)=false:=by (unfold EL;((repeat ((refine (if_pos ?_).trans ?_;omega)));rfl))
  exact ⟨_,rfl,s0.keep,(by exact congrArg vO e.symm)⟩
 have e8:(l.length:Int)≠(0:Int):=by simpa using a9
 refine AW (AD (AI (AC kR (AA (AG (l_v) rfl (AA (DF U32_ DC .i64 (0:Int) 0 rfl rfl rfl a2 oM fun g9 c8=>(AA (CP U70_ rfl DC rfl c8 fun c9 b0=>(AA (CU [vI 0,vI 0,vI 0,vI 0,nS] MO rfl s0 fun a4 d7 d8 d9 c6 h0 d0=>(?_))))))))))))
 clear d8
 have a2:=a2.mv c6
 have b0:Enc.share.rd d7 ((a4 :: [])++O) c9 (l[0]!):=Enc.mv Enc.share (x:=l[0]!) b0 c6
 obtain ⟨a6,rfl,a1⟩:=b0
 have:=a1.len_le
 refine BX (BG (vs:=[vI ((l[0]!).epoch),vI ((l[0]!).index),vI ((l[0]!).threshold),vI ((l[0]!).many),a6]) (.agg #[vI ((l[0]!).epoch),vI ((l[0]!).index),vI ((l[0]!).threshold),vI ((l[0]!).many),a6]) rfl rfl rfl DC (fun u hu=>by simp only [List.mem_cons,List.not_mem_nil,or_false] at hu;rcases hu with rfl|rfl|rfl|rfl|rfl <;> first|rfl|exact a1.oneCell) (by repeat (constructor)) d0 oT d9 fun h1 a8 c7 h2 a0=>(?_))
 have a2:=a2.mv c7
 have a1:=a1.mv c7
 refine AA (AF (vI 0) rfl (AH (AD (AI (AI (AC kR (AA (BC 2 JC rfl (AA (BH U3_ rfl (vI ((l[0]!).threshold)) rfl a0 rfl (AA (DY .i64 ((l[0]!).threshold) (1:Int) rfl rfl (AA (AG (vO (decide ((l[0]!).threshold<(1:Int)))) rfl (?_)))))))))))))))
 cases c0:(decide ((l[0]!).threshold<(1:Int)))
 ·have e9:(1:Int)≤(l[0]!).threshold:=by simpa using c0
  refine AY rfl (BC 2 JC rfl (AY rfl (BH U3_ rfl (vI ((l[0]!).threshold)) rfl a0 rfl (AY rfl (BC 3 JE rfl (AY rfl (BH U3_ rfl (vI ((l[0]!).many)) rfl a0 rfl (AY rfl (HI .i64 ((l[0]!).threshold) ((l[0]!).many) rfl rfl (AA (BR (vO (decide ((l[0]!).many<(l[0]!).threshold))) rfl rfl (AA (AG (vO (decide ((l[0]!).many<(l[0]!).threshold))) rfl (?_))))))))))))))
  cases c1:(decide ((l[0]!).many<(l[0]!).threshold))
  ·have f0:(l[0]!).threshold≤(l[0]!).many:=by simpa using c1
   refine AY rfl (BC 3 JE rfl (AY rfl (BH U3_ rfl (vI ((l[0]!).many)) rfl a0 rfl (AY rfl (HI .i64 ((l[0]!).many) (8:Int) rfl rfl (AA (BR (vO (decide ((8:Int)<(l[0]!).many))) rfl rfl (AA (AG (vO (decide ((8:Int)<(l[0]!).many))) rfl (?_))))))))))
   cases c2:(decide ((8:Int)<(l[0]!).many))
   ·have f1:(l[0]!).many≤(8:Int):=by simpa using c2
    refine AY rfl (BC 4 FV rfl (AY rfl (BH U23_ rfl (a6) rfl a0 rfl (AY rfl (CB U23_ rfl a1 (AY rfl (HI .i64 (((l[0]!).data).length:Int) (64:Int) rfl rfl (AA (BR (vO (decide ((64:Int)<(((l[0]!).data).length:Int)))) rfl rfl (AH (AD (AN (decide ((64:Int)<(((l[0]!).data).length:Int))) rfl rfl (fun b1=>?_) (fun b1=>?_)))))))))))))
    ·have f2:(64:Int)<(((l[0]!).data).length:Int):=by simpa using b1
     refine AI (AC kR (AA (AF (vO false) rfl (AH (AD (AQ (AR (AX rfl (CK rfl rfl rfl) (?_)))))))))
     have e:(EL l)=false:=by (unfold EL;((repeat (first|(refine (if_pos ?_).trans ?_;solve|(simp only [US];omega))|(refine (if_neg ?_).trans ?_;solve|(simp only [US];omega))));rfl))
     exact ⟨_,rfl,a8.keep,(by exact congrArg vO e.symm)⟩
    have f3:(((l[0]!).data).length:Int)≤(64:Int):=by simpa using b1
    refine AW (AD (AI (AI (AC kR (AA (AG (l_v) rfl (AA (CB U32_ rfl a2 (AA (AG (vI 0) rfl (AH (AD (BO (DJ (fun mI FI wI=>∃ (k:Nat) (B:List Nat),k≤l.length∧EL l=FH (fun k=>if NJ l[0]! l[k]! then some false else if alIdx l[0]! l[k]! (IK l k) then some false else none) true k (l.length - k)∧mI=l.length - k∧(∃ F1,FI=GO F1 [(3,vP (some ⟨a4,0,none⟩)),(4,vI (IK l k)),(34,l_v),(35,vI (l.length:Int)),(36,vI ((k:Nat):Int)),(75,undef)])∧St w O wI B∧AZ Enc.share wI (B++O) (l_v) (l)∧AZ Enc.u8 wI (B++O) (a6) ((l[0]!).data)∧HC wI a4 70 [vI ((l[0]!).epoch),vI ((l[0]!).index),vI ((l[0]!).threshold),vI ((l[0]!).many),a6]∧a4∈B) (l.length - (0)) ?_ ?_))))))))))))))
    ·exact ⟨(0),(a4 :: []),oM,(by unfold EL;((repeat ((refine (if_neg ?_).trans ?_;solve|(simp only [US];omega))));rfl)),rfl,⟨_,BB _ ⟨rfl,(by rfl),rfl,rfl,(by rfl),rfl,trivial⟩⟩,a8,a2,a1,a0,(by (repeat (exact List.mem_cons_self)))⟩
    intro h5 F h6 hI
    clear a2 a1 a0
    obtain ⟨k,d5,hr0_0,hr0_1,h7,⟨h8,rfl⟩,d6,a2,a1,a0,e0⟩:=hI
    refine AI (AC kR (AA (DY .i64 ((k:Nat):Int) (l.length:Int) rfl rfl (AH (AD (AI (AN (decide (((k:Nat):Int)<(l.length:Int))) rfl rfl (fun b2=>?_) (fun b2=>?_))))))))
    ·have f4:((k:Nat):Int)<(l.length:Int):=by simpa using b2
     refine AW (AD (AI (BO (AI (AC kR (AA (DF U32_ DC .i64 ((k:Nat):Int) k rfl rfl rfl a2 oM fun h3 d1=>(AA (CP U70_ rfl DC rfl d1 fun d2 b3=>(AA (CU [vI 0,vI 0,vI 0,vI 0,nS] MO rfl d6 fun b4 e1 e2 e3 b7 e4 d3=>(?_))))))))))))
     have d4:FM a4 b4:=by show a4≠b4;have:=a0.lt;omega
     clear e2
     have a2:=a2.mv b7
     have b3:Enc.share.rd e1 ((b4 :: d5)++O) d2 (l[k]!):=Enc.mv Enc.share (x:=l[k]!) b3 b7
     have a1:=a1.mv b7
     have a0:=a0.keep e4 (by simp)
     obtain ⟨b8,rfl,a5⟩:=b3
     have:=a5.len_le
     refine BX (BG (vs:=[vI ((l[k]!).epoch),vI ((l[k]!).index),vI ((l[k]!).threshold),vI ((l[k]!).many),b8]) (.agg #[vI ((l[k]!).epoch),vI ((l[k]!).index),vI ((l[k]!).threshold),vI ((l[k]!).many),b8]) rfl rfl rfl DC (fun u hu=>by simp only [List.mem_cons,List.not_mem_nil,or_false] at hu;rcases hu with rfl|rfl|rfl|rfl|rfl <;> first|rfl|exact a5.oneCell) (by repeat (constructor)) d3 oT e3 fun h4 a7 b9 e5 a3=>(?_))
     have a2:=a2.mv b9
     have a5:=a5.mv b9
     have a1:=a1.mv b9
     have a0:=a0.keep e5 (BF d4)
     refine AH (AD (AI (AI (AC kR (AA (BC 2 JC rfl (AA (BH U3_ rfl (vI ((l[k]!).threshold)) rfl a3 rfl (AA (BC 2 JC rfl (AA (BH U3_ rfl (vI ((l[0]!).threshold)) rfl a0 rfl (AA (CS .i64 ((l[k]!).threshold) ((l[0]!).threshold) rfl rfl (AA (AG (vO (((l[k]!).threshold) != ((l[0]!).threshold))) rfl (?_)))))))))))))))))
     cases c3:(((l[k]!).threshold) != ((l[0]!).threshold))
     ·have f5:(l[k]!).threshold=(l[0]!).threshold:=by simpa using c3
      refine AY rfl (BC 3 JE rfl (AY rfl (BH U3_ rfl (vI ((l[k]!).many)) rfl a3 rfl (AY rfl (BC 3 JE rfl (AY rfl (BH U3_ rfl (vI ((l[0]!).many)) rfl a0 rfl (AY rfl (CS .i64 ((l[k]!).many) ((l[0]!).many) rfl rfl (AA (BR (vO (((l[k]!).many) != ((l[0]!).many))) rfl rfl (AA (AG (vO (((l[k]!).many) != ((l[0]!).many))) rfl (?_))))))))))))))
      cases c4:(((l[k]!).many) != ((l[0]!).many))
      ·have f6:(l[k]!).many=(l[0]!).many:=by simpa using c4
       refine AY rfl (BC 4 FV rfl (AY rfl (BH U23_ rfl (b8) rfl a3 rfl (AY rfl (CB U23_ rfl a5 (AY rfl (BC 4 FV rfl (AY rfl (BH U23_ rfl (a6) rfl a0 rfl (AY rfl (CB U23_ rfl a1 (AY rfl (CS .i64 (((l[k]!).data).length:Int) (((l[0]!).data).length:Int) rfl rfl (AA (BR (vO ((((l[k]!).data).length:Int) != (((l[0]!).data).length:Int))) rfl rfl (AH (AD (AN ((((l[k]!).data).length:Int) != (((l[0]!).data).length:Int)) rfl rfl (fun b5=>?_) (fun b5=>?_)))))))))))))))))))
       ·have f7:(((l[k]!).data).length:Int)≠(((l[0]!).data).length:Int):=by simpa using b5
        refine AI (AC kR (AA (AF (vO false) rfl (AH (AD (AQ (AR (BY (AR (AR (BY (AR (AX rfl (CK rfl rfl rfl) (?_))))))))))))))
        have e:(EL l)=false:=by (rw [hr0_1];exact DN oM (by ((repeat ((refine (if_pos ?_).trans ?_;solve|(simp only [US];omega))));rfl)))
        exact ⟨_,rfl,a7.keep,(by exact congrArg vO e.symm)⟩
       have f8:(((l[k]!).data).length:Int)=(((l[0]!).data).length:Int):=by simpa using b5
       refine AW (AD (AI (AI (AC kR (AA (BC 1 OB rfl (AA (BH U3_ rfl (vI ((l[k]!).index)) rfl a3 rfl (AA (AG (vI (IK l k)) rfl (AA (o_leq .i64 ((l[k]!).index) (IK l k) rfl rfl (AA (AG (vO (decide ((l[k]!).index≤IK l k))) rfl (?_)))))))))))))))
       cases c5:(decide ((l[k]!).index≤IK l k))
       ·have f9:IK l k<(l[k]!).index:=by simpa using c5
        refine AY rfl (BC 1 OB rfl (AY rfl (BH U3_ rfl (vI ((l[k]!).index)) rfl a3 rfl (AY rfl (BC 3 JE rfl (AY rfl (BH U3_ rfl (vI ((l[0]!).many)) rfl a0 rfl (AY rfl (HI .i64 ((l[k]!).index) ((l[0]!).many) rfl rfl (AA (BR (vO (decide ((l[0]!).many<(l[k]!).index))) rfl rfl (AH (AD (AN (decide ((l[0]!).many<(l[k]!).index)) rfl rfl (fun b6=>?_) (fun b6=>?_)))))))))))))))
        ·have g0:(l[0]!).many<(l[k]!).index:=by simpa using b6
         refine AI (AC kR (AA (AF (vO false) rfl (AH (AD (AQ (AR (BY (AR (AR (BY (AR (AX rfl (CK rfl rfl rfl) (?_))))))))))))))
         have e:(EL l)=false:=by (rw [hr0_1];exact DN oM (by ((repeat (first|(refine (if_pos ?_).trans ?_;solve|(simp only [US];omega))|(refine (if_neg ?_).trans ?_;solve|(simp only [US];omega))));rfl)))
         exact ⟨_,rfl,a7.keep,(by exact congrArg vO e.symm)⟩
        have g1:(l[k]!).index≤(l[0]!).many:=by simpa using b6
        refine AW (AD (AC kR (AA (BC 1 OB rfl (AA (BH U3_ rfl (vI ((l[k]!).index)) rfl a3 rfl (AA (AF (vI ((l[k]!).index)) rfl (AH (CI (AD (AC kR (AA (DE .i64 ((k:Nat):Int) (1:Int) (((k+1:Nat):Int)) rfl rfl (GR oM oM) (AA (AG (vI ((k+1:Nat):Int)) rfl (AH (AD (?_)))))))))))))))))))
        exact ⟨_,oM,(k+1),(b4 :: d5),oM,(hr0_1.trans (GL oM (by ((repeat ((refine (if_neg ?_).trans ?_;solve|(simp only [US];omega))));rfl)))),rfl,⟨_,BB _ ⟨rfl,(by rfl),rfl,rfl,(by rfl),rfl,trivial⟩⟩,a7,a2,a1,a0,(by (repeat (first|assumption|apply List.mem_cons_of_mem)))⟩
       have g2:(l[k]!).index≤IK l k:=by simpa using c5
       refine AO rfl (AO rfl (AO rfl (AO rfl (AO rfl (AA (BA (vO true) rfl rfl (AH (AD (AN true rfl rfl (fun _=>AI (AC kR (AA (AF (vO false) rfl (AH (AD (AQ (AR (BY (AR (AR (BY (AR (AX rfl (CK rfl rfl rfl) (?_))))))))))))))) (fun h=>by cases h))))))))))
       have e:(EL l)=false:=by (rw [hr0_1];exact DN oM (by ((repeat (first|(refine (if_pos ?_).trans ?_;solve|(simp only [US];omega))|(refine (if_neg ?_).trans ?_;solve|(simp only [US];omega))));rfl)))
       exact ⟨_,rfl,a7.keep,(by exact congrArg vO e.symm)⟩
      have g3:(l[k]!).many≠(l[0]!).many:=by simpa using c4
      refine AO rfl (AO rfl (AO rfl (AO rfl (AO rfl (AO rfl (AO rfl (AA (BA (vO true) rfl rfl (AH (AD (AN true rfl rfl (fun _=>AI (AC kR (AA (AF (vO false) rfl (AH (AD (AQ (AR (BY (AR (AR (BY (AR (AX rfl (CK rfl rfl rfl) (?_))))))))))))))) (fun h=>by cases h))))))))))))
      have e:(EL l)=false:=by (rw [hr0_1];exact DN oM (by ((repeat ((refine (if_pos ?_).trans ?_;solve|(simp only [US];omega))));rfl)))
      exact ⟨_,rfl,a7.keep,(by exact congrArg vO e.symm)⟩
     have g4:(l[k]!).threshold≠(l[0]!).threshold:=by simpa using c3
     refine AO rfl (AO rfl (AO rfl (AO rfl (AO rfl (AA (BA (vO true) rfl rfl (AA (AG (vO true) rfl (AO rfl (AO rfl (AO rfl (AO rfl (AO rfl (AO rfl (AO rfl (AA (BA (vO true) rfl rfl (AH (AD (AN true rfl rfl (fun _=>AI (AC kR (AA (AF (vO false) rfl (AH (AD (AQ (AR (BY (AR (AR (BY (AR (AX rfl (CK rfl rfl rfl) (?_))))))))))))))) (fun h=>by cases h)))))))))))))))))))))
     have e:(EL l)=false:=by (rw [hr0_1];exact DN oM (by ((repeat ((refine (if_pos ?_).trans ?_;solve|(simp only [US];omega))));rfl)))
     exact ⟨_,rfl,a7.keep,(by exact congrArg vO e.symm)⟩
    have g5:(l.length:Int)≤((k:Nat):Int):=by simpa using b2
    refine DI (CF (CF (CY (AD (AI (AC kR (AA (AF (vO true) rfl (AH (AD (AQ (AX rfl (CK rfl rfl rfl) (?_)))))))))))))
    have e:(EL l)=true:=by (rw [hr0_1];exact HJ oM)
    exact ⟨_,rfl,d6.keep,(by exact congrArg vO e.symm)⟩
   have g6:(8:Int)<(l[0]!).many:=by simpa using c2
   refine AO rfl (AO rfl (AO rfl (AO rfl (AA (BA (vO true) rfl rfl (AH (AD (AN true rfl rfl (fun _=>AI (AC kR (AA (AF (vO false) rfl (AH (AD (AQ (AR (AX rfl (CK rfl rfl rfl) (?_)))))))))) (fun h=>by cases h)))))))))
   have e:(EL l)=false:=by (unfold EL;((repeat (first|(refine (if_pos ?_).trans ?_;solve|(simp only [US];omega))|(refine (if_neg ?_).trans ?_;solve|(simp only [US];omega))));rfl))
   exact ⟨_,rfl,a8.keep,(by exact congrArg vO e.symm)⟩
  have g7:(l[0]!).many<(l[0]!).threshold:=by simpa using c1
  refine AO rfl (AO rfl (AO rfl (AA (BA (vO true) rfl rfl (AA (AG (vO true) rfl (AO rfl (AO rfl (AO rfl (AO rfl (AA (BA (vO true) rfl rfl (AH (AD (AN true rfl rfl (fun _=>AI (AC kR (AA (AF (vO false) rfl (AH (AD (AQ (AR (AX rfl (CK rfl rfl rfl) (?_)))))))))) (fun h=>by cases h))))))))))))))))
  have e:(EL l)=false:=by (unfold EL;((repeat (first|(refine (if_pos ?_).trans ?_;solve|(simp only [US];omega))|(refine (if_neg ?_).trans ?_;solve|(simp only [US];omega))));rfl))
  exact ⟨_,rfl,a8.keep,(by exact congrArg vO e.symm)⟩
 have g8:(l[0]!).threshold<(1:Int):=by simpa using c0
 refine AO rfl (AO rfl (AO rfl (AO rfl (AO rfl (AA (BA (vO true) rfl rfl (AA (AG (vO true) rfl (AO rfl (AO rfl (AO rfl (AA (BA (vO true) rfl rfl (AA (AG (vO true) rfl (AO rfl (AO rfl (AO rfl (AO rfl (AA (BA (vO true) rfl rfl (AH (AD (AN true rfl rfl (fun _=>AI (AC kR (AA (AF (vO false) rfl (AH (AD (AQ (AR (AX rfl (CK rfl rfl rfl) (?_)))))))))) (fun h=>by cases h)))))))))))))))))))))))))
 have e:(EL l)=false:=by (unfold EL;((repeat (first|(refine (if_pos ?_).trans ?_;solve|(simp only [US];omega))|(refine (if_neg ?_).trans ?_;solve|(simp only [US];omega))));rfl))
 exact ⟨_,rfl,a8.keep,(by exact congrArg vO e.symm)⟩
set_option maxHeartbeats 4000000 in
set_option maxRecDepth 100000 in
theorem ML {O:List Nat} (l_v:Value) (l:List Share) (w:World) (a1:AZ Enc.share w O l_v l) (hO:∀ b∈O,b<w.heap.size):CD Try.prog 40 [l_v] w (fun v _=>v=vI (BN l)):= by
 have e6:=a1.len_le
 have a1:AZ Enc.share w ([]++O) l_v l:=a1
 have s0:St w O w []:=St.start hO
 refine BK 32 Try.func40 rfl rfl oT (fun F0=>AI (AC kR (AA (AF (vI 0) rfl (AH (AD (AI (AI (AC kR (AA (AG (l_v) rfl (AA (BD (vs:=[l_v]) enter_88 (c_alike (O:=[]++O) l_v l w a1 s0.lt) rfl s0 fun f7 f8 b7 c8 f9 c9=>(?_))))))))))))))
 obtain rfl:=c9
 have a1:=a1.mv c8
 refine AA (GZ (EL l) rfl (AH (AD (AN (!(EL l)) rfl rfl (fun a5=>?_) (fun a5=>?_)))))
 ·have e7:(EL l)=false:=by simpa using a5
  refine AI (AC kR (AA (AF (vI 80) rfl (AH (AD (AQ (AR (AX rfl (CK rfl rfl rfl) (?_)))))))))
  have e:(BN l)=(80:Int):=by (unfold BN;((repeat ((refine (if_pos ?_).trans ?_;omega)));rfl))
  exact ⟨_,rfl,b7.keep,by rw [e];exact rfl⟩
 have e8:(EL l)=true:=by simpa using a5
 refine AW (AD (AI (AI (AC kR (AA (AG (l_v) rfl (AA (CB U32_ rfl a1 (AA (AG (vI 0) rfl (AH (AD (BO (DJ (fun mI FI wI=>∃ (k:Nat) (B:List Nat),k≤l.length∧BN l=FH (fun k=>if ep1 l k then some 81 else none) 0 k (l.length - k)∧mI=l.length - k∧(∃ F1,FI=GO F1 [(0,l_v),(8,l_v),(9,vI (l.length:Int)),(10,vI ((k:Nat):Int)),(32,undef)])∧St w O wI B∧AZ Enc.share wI (B++O) (l_v) (l)) (l.length - (0)) ?_ ?_))))))))))))))
 ·exact ⟨(0),[],oM,(by unfold BN;((repeat ((refine (if_neg ?_).trans ?_;solve|(simp only [*,dbs];done))));rfl)),rfl,⟨_,BB _ ⟨rfl,rfl,rfl,(by rfl),rfl,trivial⟩⟩,b7,a1⟩
 intro g3 F g4 hI
 clear a1
 obtain ⟨k,a4,hr0_0,hr0_1,g5,⟨g6,rfl⟩,c7,a1⟩:=hI
 refine AI (AC kR (AA (DY .i64 ((k:Nat):Int) (l.length:Int) rfl rfl (AH (AD (AI (AN (decide (((k:Nat):Int)<(l.length:Int))) rfl rfl (fun a6=>?_) (fun a6=>?_))))))))
 ·have e9:((k:Nat):Int)<(l.length:Int):=by simpa using a6
  refine AW (AD (AI (BO (AI (AC kR (AA (DF U32_ DC .i64 ((k:Nat):Int) k rfl rfl rfl a1 oM fun g0 c0=>(AA (CP U70_ rfl DC rfl c0 fun c1 a7=>(AA (CU [vI 0,vI 0,vI 0,vI 0,nS] MO rfl c7 fun a0 d0 d1 d2 b8 g1 c2=>(?_))))))))))))
  clear d1
  have a1:=a1.mv b8
  have a7:Enc.share.rd d0 ((a0 :: a4)++O) c1 (l[k]!):=Enc.mv Enc.share (x:=l[k]!) a7 b8
  obtain ⟨b9,rfl,b3⟩:=a7
  have:=b3.len_le
  refine BX (BG (vs:=[vI ((l[k]!).epoch),vI ((l[k]!).index),vI ((l[k]!).threshold),vI ((l[k]!).many),b9]) (.agg #[vI ((l[k]!).epoch),vI ((l[k]!).index),vI ((l[k]!).threshold),vI ((l[k]!).many),b9]) rfl rfl rfl DC (fun u hu=>by simp only [List.mem_cons,List.not_mem_nil,or_false] at hu;rcases hu with rfl|rfl|rfl|rfl|rfl <;> first|rfl|exact b3.oneCell) (by repeat (constructor)) c2 oT d2 fun a8 d3 d4 g2 a2=>(?_))
  have a1:=a1.mv d4
  refine AH (AD (AI (cw_draw' 6 _ _ [DB (vP (some ⟨a0,0,none⟩)),DB (vI ((l[k]!).epoch)),fun (vT:Value) (wT:World)=>AZ Enc.share wT ((a0 :: a4)++O) vT (l),fun (vT:Value) (wT:World)=>∃ aT,vT = .pointer (some aT)∧PT Enc.share wT ((a0 :: a4)++O) (.pointer (some aT)) (l[0]!),fun (vT:Value) (wT:World)=>∃ aT,vT = .pointer (some aT)∧PT Enc.int wT ((a0 :: a4)++O) (.pointer (some aT)) ((l[0]!).epoch),DB (vI ((l[0]!).epoch))] kR kR kR kR rfl rfl ⟨kI,kI,fun _ _ _ h k=>h.mv (Mv.of_keep k),fun _ _ _ ⟨a,e,h⟩ k=>⟨a,e,h.mv (Mv.of_keep k)⟩,fun _ _ _ ⟨a,e,h⟩ k=>⟨a,e,h.mv (Mv.of_keep k)⟩,kI,trivial⟩ ⟨?_,?_,?_,?_,?_,?_,trivial⟩ ?_)))
  ·intro F1 w1 k1 hf hd
   obtain ⟨F2,rfl⟩:=AM (F:=F1) [(4,vP (some ⟨a0,0,none⟩))] ⟨hf 4 kR,trivial⟩
   exact AK rfl ((BC 0 HW rfl (⟨(Keep.refl _ _),rfl⟩)))
  ·intro F1 w1 k1 hf hd
   have k0:=(Keep.drew [] a8).trans k1
   have a2:=a2.keep k0 (by simp)
   obtain ⟨F2,rfl⟩:=AM (F:=F1) [(14,vP (some ⟨a0,0,none⟩))] ⟨hd 0 14 kR,trivial⟩
   exact AK rfl ((BH U3_ rfl (vI ((l[k]!).epoch)) rfl a2 rfl (⟨(Keep.refl _ _),rfl⟩)))
  ·intro F1 w1 k1 hf hd
   have k0:=(Keep.drew [] a8).trans k1
   have m1:Mv (a0 :: a4) a8 (a0 :: a4) w1:=Mv.of_keep k0
   have a1:=a1.mv m1
   obtain ⟨F2,rfl⟩:=AM (F:=F1) [(0,l_v)] ⟨hf 0 kR,trivial⟩
   exact AK rfl ((AG (l_v) rfl (⟨(Keep.refl _ _),a1⟩)))
  ·intro F1 w1 k1 hf hd
   obtain ⟨d5,d6,b4⟩:∃ v,F1 16=v∧AZ Enc.share w1 ((a0 :: a4)++O) v (l):=⟨_,rfl,hd 2 16 kR⟩
   have:=b4.len_le
   obtain ⟨F2,rfl⟩:=AM (F:=F1) [(16,d5)] ⟨d6,trivial⟩
   exact AK rfl ((DF U32_ DC .i64 (0:Int) 0 rfl rfl rfl b4 oM fun d7 c3=>(⟨(Keep.refl _ _),⟨d7,rfl,c3⟩⟩)))
  ·intro F1 w1 k1 hf hd
   obtain ⟨d8,d9,c4⟩:∃ aX_,F1 17 = .pointer (some aX_)∧PT Enc.share w1 ((a0 :: a4)++O) (.pointer (some aX_)) (l[0]!):=hd 3 17 kR
   obtain ⟨F2,rfl⟩:=AM (F:=F1) [(17,vP (some d8))] ⟨d9,trivial⟩
   exact AK rfl ((BI 0 HW ((l[0]!).epoch) rfl c4 (fun _ _ _ h=>IF h) fun e0 c5=>(⟨(Keep.refl _ _),⟨e0,rfl,c5⟩⟩)))
  ·intro F1 w1 k1 hf hd
   obtain ⟨e1,e2,c6⟩:∃ aX_,F1 18 = .pointer (some aX_)∧PT Enc.int w1 ((a0 :: a4)++O) (.pointer (some aX_)) ((l[0]!).epoch):=hd 4 18 kR
   obtain ⟨F2,rfl⟩:=AM (F:=F1) [(18,vP (some e1))] ⟨e2,trivial⟩
   exact AK rfl ((CA U3_ rfl rfl c6 (⟨(Keep.refl _ _),rfl⟩)))
  intro e3 e4 b2 a9 a3
  have b0:=d3.call b2
  have e5:Mv (a0 :: a4) a8 (a0 :: a4) e4:=Mv.of_keep b2
  have a1:=a1.mv e5
  have a2:=a2.keep b2 (by simp)
  obtain ⟨F2,rfl⟩:=AM (F:=e3) [(0,l_v),(4,vP (some ⟨a0,0,none⟩)),(8,l_v),(9,vI (l.length:Int)),(10,vI ((k:Nat):Int)),(32,undef),(15,vI ((l[k]!).epoch)),(19,vI ((l[0]!).epoch))] ⟨a3 0 kR,a3 4 kR,a3 8 kR,a3 9 kR,a3 10 kR,a3 32 kR,a9 1 15 kR (by decide),a9 5 19 kR (by decide),trivial⟩
  clear a9 a3
  refine AA (CS .i64 ((l[k]!).epoch) ((l[0]!).epoch) rfl rfl (AA (AG (vO (((l[k]!).epoch) != ((l[0]!).epoch))) rfl (?_))))
  cases b5:(((l[k]!).epoch) != ((l[0]!).epoch))
  ·have f0:(l[k]!).epoch=(l[0]!).epoch:=by simpa using b5
   refine AY rfl (BC 0 HW rfl (AY rfl (BH U3_ rfl (vI ((l[k]!).epoch)) rfl a2 rfl (AY rfl (DY .i64 ((l[k]!).epoch) (0:Int) rfl rfl (AA (BR (vO (decide ((l[k]!).epoch<(0:Int)))) rfl rfl (AA (AG (vO (decide ((l[k]!).epoch<(0:Int)))) rfl (?_))))))))))
   cases b6:(decide ((l[k]!).epoch<(0:Int)))
   ·have f1:(0:Int)≤(l[k]!).epoch:=by simpa using b6
    refine AY rfl (BC 0 HW rfl (AY rfl (BH U3_ rfl (vI ((l[k]!).epoch)) rfl a2 rfl (AY rfl (HI .i64 ((l[k]!).epoch) (1048576:Int) rfl rfl (AA (BR (vO (decide ((1048576:Int)<(l[k]!).epoch))) rfl rfl (AH (AD (AN (decide ((1048576:Int)<(l[k]!).epoch)) rfl rfl (fun b1=>?_) (fun b1=>?_)))))))))))
    ·have f2:(1048576:Int)<(l[k]!).epoch:=by simpa using b1
     refine AI (AC kR (AA (AF (vI 81) rfl (AH (AD (AQ (BY (AR (AR (BY (AR (AX rfl (CK rfl rfl rfl) (?_)))))))))))))
     have e:(BN l)=(81:Int):=by (rw [hr0_1];exact DN oM (by ((repeat ((refine (if_pos ?_).trans ?_;solve|(simp only [US];omega))));rfl)))
     exact ⟨_,rfl,b0.keep,by rw [e];exact rfl⟩
    have f3:(l[k]!).epoch≤(1048576:Int):=by simpa using b1
    refine AW (CI (AD (AC kR (AA (DE .i64 ((k:Nat):Int) (1:Int) (((k+1:Nat):Int)) rfl rfl (GR oM oM) (AA (AG (vI ((k+1:Nat):Int)) rfl (AH (AD (?_))))))))))
    exact ⟨_,oM,(k+1),(a0 :: a4),oM,(hr0_1.trans (GL oM (by ((repeat ((refine (if_neg ?_).trans ?_;solve|(simp only [US];omega))));rfl)))),rfl,⟨_,BB _ ⟨rfl,rfl,rfl,(by rfl),rfl,trivial⟩⟩,b0,a1⟩
   have f4:(l[k]!).epoch<(0:Int):=by simpa using b6
   refine AO rfl (AO rfl (AO rfl (AA (BA (vO true) rfl rfl (AH (AD (AN true rfl rfl (fun _=>AI (AC kR (AA (AF (vI 81) rfl (AH (AD (AQ (BY (AR (AR (BY (AR (AX rfl (CK rfl rfl rfl) (?_)))))))))))))) (fun h=>by cases h))))))))
   have e:(BN l)=(81:Int):=by (rw [hr0_1];exact DN oM (by ((repeat ((refine (if_pos ?_).trans ?_;solve|(simp only [US];omega))));rfl)))
   exact ⟨_,rfl,b0.keep,by rw [e];exact rfl⟩
  have f5:(l[k]!).epoch≠(l[0]!).epoch:=by simpa using b5
  refine AO rfl (AO rfl (AO rfl (AA (BA (vO true) rfl rfl (AA (AG (vO true) rfl (AO rfl (AO rfl (AO rfl (AA (BA (vO true) rfl rfl (AH (AD (AN true rfl rfl (fun _=>AI (AC kR (AA (AF (vI 81) rfl (AH (AD (AQ (BY (AR (AR (BY (AR (AX rfl (CK rfl rfl rfl) (?_)))))))))))))) (fun h=>by cases h)))))))))))))))
  have e:(BN l)=(81:Int):=by (rw [hr0_1];exact DN oM (by ((repeat ((refine (if_pos ?_).trans ?_;solve|(simp only [US];omega))));rfl)))
  exact ⟨_,rfl,b0.keep,by rw [e];exact rfl⟩
 have f6:(l.length:Int)≤((k:Nat):Int):=by simpa using a6
 refine DI (CF (CF (CY (AD (AI (AC kR (AA (AF (vI 0) rfl (AH (AD (AQ (AX rfl (CK rfl rfl rfl) (?_)))))))))))))
 have e:(BN l)=(0:Int):=by (rw [hr0_1];exact HJ oM)
 exact ⟨_,rfl,c7.keep,by rw [e];exact rfl⟩
set_option maxHeartbeats 4000000 in
set_option maxRecDepth 100000 in
theorem c_sameShare {O:List Nat} (sa_cs:List Value) (sa:Share) (sb_cs:List Value) (sb:Share) (w:World) (a4:Enc.share.rd w O sa_cs sa) (a2:Enc.share.rd w O sb_cs sb) (hO:∀ b∈O,b<w.heap.size):CD Try.prog 52 [.agg sa_cs.toArray, .agg sb_cs.toArray] w (fun v _=>v = .bool (DA sa sb)):= by
 have a4:Enc.share.rd w ([]++O) sa_cs sa:=a4
 have a2:Enc.share.rd w ([]++O) sb_cs sb:=a2
 have s0:St w O w []:=St.start hO
 refine BK 40 Try.func52 rfl rfl oT (fun F0=>AI (AC kR (AA (DK (E:=Enc.share) (vA sa_cs.toArray) (sa_cs) sa rfl rfl a4 s0 fun d3 c1 c2 c3 d4 a0=>(?_)))))
 have a2:Enc.share.rd c1 ([]++O) sb_cs (sb):=Enc.mv Enc.share (x:=sb) a2 c3
 refine AA (DK (E:=Enc.share) (vA sb_cs.toArray) (sb_cs) sb rfl rfl a2 c2 fun d5 d6 a3 c4 d7 a1=>(?_))
 have a0:=a0.mv c4
 refine AA (AF (vO false) rfl (AH (AD (AI (AC kR (AA (BI 0 HW (sa.epoch) rfl a0 (fun _ _ _ h=>IF h) fun d8 b1=>(AA (CA U3_ rfl rfl b1 (AA (BI 0 HW (sb.epoch) rfl a1 (fun _ _ _ h=>IF h) fun d9 b2=>(AA (CA U3_ rfl rfl b2 (AA (EV .i64 sa.epoch sb.epoch rfl rfl (AA (AG (vO (sa.epoch == sb.epoch)) rfl (?_))))))))))))))))))
 cases a5:(sa.epoch == sb.epoch)
 ·have c5:sa.epoch≠sb.epoch:=by simpa using a5
  refine AO rfl (AO rfl (AO rfl (AO rfl (AO rfl (AA (BR (vO false) rfl rfl (AA (AG (vO false) rfl (AO rfl (AO rfl (AO rfl (AO rfl (AO rfl (AA (BR (vO false) rfl rfl (AA (AG (vO false) rfl (AO rfl (AO rfl (AO rfl (AO rfl (AO rfl (AA (BR (vO false) rfl rfl (AA (AG (vO false) rfl (AO rfl (AO rfl (AO rfl (AO rfl (AO rfl (AO rfl (AO rfl (AA (BR (vO false) rfl rfl (AA (AF (vO false) rfl (AH (AD (AQ (AX rfl (CK rfl rfl rfl) (?_))))))))))))))))))))))))))))))))))))))))))
  have e:(DA sa sb)=false:=by simp [DA, *]
  exact ⟨_,rfl,a3.keep,(by exact congrArg vO e.symm)⟩
 have c6:sa.epoch=sb.epoch:=by simpa using a5
 refine AY rfl (BI 1 OB (sa.index) rfl a0 (fun _ _ _ h=>IO h) fun e0 b3=>(AY rfl (CA U3_ rfl rfl b3 (AY rfl (BI 1 OB (sb.index) rfl a1 (fun _ _ _ h=>IO h) fun e1 b4=>(AY rfl (CA U3_ rfl rfl b4 (AY rfl (EV .i64 sa.index sb.index rfl rfl (AA (BA (vO (sa.index == sb.index)) rfl rfl (AA (AG (vO (sa.index == sb.index)) rfl (?_))))))))))))))
 cases a6:(sa.index == sb.index)
 ·have c7:sa.index≠sb.index:=by simpa using a6
  refine AO rfl (AO rfl (AO rfl (AO rfl (AO rfl (AA (BR (vO false) rfl rfl (AA (AG (vO false) rfl (AO rfl (AO rfl (AO rfl (AO rfl (AO rfl (AA (BR (vO false) rfl rfl (AA (AG (vO false) rfl (AO rfl (AO rfl (AO rfl (AO rfl (AO rfl (AO rfl (AO rfl (AA (BR (vO false) rfl rfl (AA (AF (vO false) rfl (AH (AD (AQ (AX rfl (CK rfl rfl rfl) (?_)))))))))))))))))))))))))))))))))
  have e:(DA sa sb)=false:=by simp [DA, *]
  exact ⟨_,rfl,a3.keep,(by exact congrArg vO e.symm)⟩
 have c8:sa.index=sb.index:=by simpa using a6
 refine AY rfl (BI 2 JC (sa.threshold) rfl a0 (fun _ _ _ h=>IM h) fun e2 b5=>(AY rfl (CA U3_ rfl rfl b5 (AY rfl (BI 2 JC (sb.threshold) rfl a1 (fun _ _ _ h=>IM h) fun e3 b6=>(AY rfl (CA U3_ rfl rfl b6 (AY rfl (EV .i64 sa.threshold sb.threshold rfl rfl (AA (BA (vO (sa.threshold == sb.threshold)) rfl rfl (AA (AG (vO (sa.threshold == sb.threshold)) rfl (?_))))))))))))))
 cases a7:(sa.threshold == sb.threshold)
 ·have c9:sa.threshold≠sb.threshold:=by simpa using a7
  refine AO rfl (AO rfl (AO rfl (AO rfl (AO rfl (AA (BR (vO false) rfl rfl (AA (AG (vO false) rfl (AO rfl (AO rfl (AO rfl (AO rfl (AO rfl (AO rfl (AO rfl (AA (BR (vO false) rfl rfl (AA (AF (vO false) rfl (AH (AD (AQ (AX rfl (CK rfl rfl rfl) (?_))))))))))))))))))))))))
  have e:(DA sa sb)=false:=by simp [DA, *]
  exact ⟨_,rfl,a3.keep,(by exact congrArg vO e.symm)⟩
 have d0:sa.threshold=sb.threshold:=by simpa using a7
 refine AY rfl (BI 3 JE (sa.many) rfl a0 (fun _ _ _ h=>MY h) fun e4 b7=>(AY rfl (CA U3_ rfl rfl b7 (AY rfl (BI 3 JE (sb.many) rfl a1 (fun _ _ _ h=>MY h) fun e5 b8=>(AY rfl (CA U3_ rfl rfl b8 (AY rfl (EV .i64 sa.many sb.many rfl rfl (AA (BA (vO (sa.many == sb.many)) rfl rfl (AA (AG (vO (sa.many == sb.many)) rfl (?_))))))))))))))
 cases a8:(sa.many == sb.many)
 ·have d1:sa.many≠sb.many:=by simpa using a8
  refine AO rfl (AO rfl (AO rfl (AO rfl (AO rfl (AO rfl (AO rfl (AA (BR (vO false) rfl rfl (AA (AF (vO false) rfl (AH (AD (AQ (AX rfl (CK rfl rfl rfl) (?_)))))))))))))))
  have e:(DA sa sb)=false:=by simp [DA, *]
  exact ⟨_,rfl,a3.keep,(by exact congrArg vO e.symm)⟩
 have d2:sa.many=sb.many:=by simpa using a8
 refine AY rfl (BI 4 FV (sa.data) rfl a0 (fun _ _ _ h=>EO h) fun e6 b9=>(AY rfl (BW U23_ rfl rfl b9 fun e7 a9=>(?_))))
 have:=a9.len_le
 refine AY rfl (SG U23_ U5_ U9_ rfl a9 (AY rfl (BI 4 FV (sb.data) rfl a1 (fun _ _ _ h=>EO h) fun e8 c0=>(AY rfl (BW U23_ rfl rfl c0 fun e9 b0=>(?_))))))
 have:=b0.len_le
 refine AY rfl (SG U23_ U5_ U9_ rfl b0 (AY rfl (o_eqlS sa.data sb.data rfl rfl (AA (BA (vO (sa.data == sb.data)) rfl rfl (AA (AF (vO (sa.data == sb.data)) rfl (AH (AD (AQ (AX rfl (CK rfl rfl rfl) (?_))))))))))))
 have e:(DA sa sb)=(sa.data == sb.data):=by simp [DA, *]
 exact ⟨_,rfl,a3.keep,(by exact congrArg vO e.symm)⟩
open Go.Fw
def LP (secret coins:List UInt8) (threshold:Int) (i:Nat):List UInt8:=secret[i]! :: ((coins.take ((i+1)*(threshold - 1).toNat)).drop (i*(threshold - 1).toNat))
theorem polyB {i n m:Nat} {t:Int} (hi:i<n) (ht:1≤t) (h:(m:Int)=(n:Int)*(t - 1)):(i+1)*(t - 1).toNat≤m:=by
  obtain ⟨T,rfl⟩:∃ T:Nat,t=(T:Int)+1:=⟨(t - 1).toNat,by omega⟩
  have e:((T:Int)+1 - 1)=(T:Int):=by omega
  rw [e] at h ⊢
  have h2:m=n*T:=by exact_mod_cast h
  rw [h2]
  exact Nat.mul_le_mul_right _ hi
theorem polyL {n m:Nat} {t:Int} (hn:n≤1000) (ht:1≤t) (ht8:t≤8) (h:(m:Int)=(n:Int)*(t - 1)):m≤7000:=by
  obtain ⟨T,rfl⟩:∃ T:Nat,t=(T:Int)+1:=⟨(t - 1).toNat,by omega⟩
  have e:((T:Int)+1 - 1)=(T:Int):=by omega
  rw [e] at h
  have h2:m=n*T:=by exact_mod_cast h
  rw [h2]
  calc n*T≤1000*7:=Nat.mul_le_mul hn (by omega)
    _=7000:=rfl
def polysM (secret coins:List UInt8) (threshold:Int):List (List UInt8):=(List.range secret.length).map fun i=>LP secret coins threshold i
def EM (secret:List UInt8) (polys:List (List UInt8)) (epoch threshold many:Int) (k:Nat):Share:=⟨epoch,(k:Int)+1,threshold,many,(List.range secret.length).map fun i=>EB polys[i]! (GN ((k:Int)+1))⟩
def FW (secret:List UInt8) (epoch threshold many:Int) (coins:List UInt8):List Share:=(List.range many.toNat).map fun k=>EM secret (polysM secret coins threshold) epoch threshold many k
def DQ (secret:List UInt8) (epoch threshold many:Int) (coins:List UInt8):Int:=
  if 64<(secret.length:Int) then 1 else if (threshold<1∨many<threshold)∨8<many then 80 else if epoch<0∨1048576<epoch then 81 else if (coins.length:Int)≠(secret.length:Int)*(threshold - 1) then 1 else 0
def BL (secret:List UInt8) (epoch threshold many:Int) (coins:List UInt8):List Share × Int:=
  if DQ secret epoch threshold many coins=0 then (FW secret epoch threshold many coins,0) else ([],DQ secret epoch threshold many coins)
theorem splitM_ok {secret:List UInt8} {epoch threshold many:Int} {coins:List UInt8} {x:List Share} (h:DQ secret epoch threshold many coins=0) (hx:FW secret epoch threshold many coins=x):BL secret epoch threshold many coins=(x,0):=by
  unfold BL;rw [if_pos h,hx]
theorem GV {secret:List UInt8} {epoch threshold many:Int} {coins:List UInt8} {e:Int} (h:DQ secret epoch threshold many coins=e) (he:e≠0):BL secret epoch threshold many coins=([],e):=by
  unfold BL;rw [if_neg (by rw [h];exact he),h]
theorem EY {α:Type} [Inhabited α] (n:Nat) (f:Nat→α) (i:Nat) (h:i<n):((List.range n).map f)[i]! = f i:=by
  rw [getElem!_pos _ i (by simpa using h)];simp
theorem VI {secret coins:List UInt8} {threshold:Int} {i:Nat} (h:i<secret.length):(polysM secret coins threshold)[i]! = LP secret coins threshold i:=EY _ _ _ h
theorem FL (secret:List UInt8) (epoch threshold many:Int) (coins:List UInt8):DQ secret epoch threshold many coins=0↔secret.length≤64∧1≤threshold∧threshold≤many∧many≤8∧0≤epoch∧epoch≤1048576∧(coins.length:Int)=(secret.length:Int)*(threshold - 1):=by
  unfold DQ
  by_cases h1:64<(secret.length:Int)
  · rw [if_pos h1];omega
  rw [if_neg h1]
  by_cases h2:(threshold<1∨many<threshold)∨8<many
  · rw [if_pos h2];omega
  rw [if_neg h2]
  by_cases h3:epoch<0∨1048576<epoch
  · rw [if_pos h3];omega
  rw [if_neg h3]
  by_cases h4:(coins.length:Int)≠(secret.length:Int)*(threshold - 1)
  · rw [if_pos h4];exact ⟨fun h=>(by omega),fun h=>absurd h.2.2.2.2.2.2 h4⟩
  · rw [if_neg h4];exact ⟨fun _=>⟨by omega,by omega,by omega,by omega,by omega,by omega,Classical.not_not.1 h4⟩,fun _=>rfl⟩
def NE (l:List Share):List UInt8:=(List.range l.length).map fun i=>GN l[i]!.index
def ET (l:List Share) (p:Nat):List UInt8:=(List.range l.length).map fun i=>l[i]!.data[p]!
theorem IP (l:List Share):(NE l).length=l.length:=by simp [NE]
theorem NW (l:List Share) (p:Nat):(ET l p).length=l.length:=by simp [ET]
def joinL (l:List Share):List UInt8:=(List.range l[0]!.data.length).map fun p=>(CX (NE l) (ET l p) 0).1
def CR (l:List Share):List UInt8 × Int:=if BN l≠0 then ([],BN l) else if (l.length:Int)<l[0]!.threshold then ([],80) else (joinL (l.take l[0]!.threshold.toNat),0)
theorem joinM_ok {l:List Share} {x:List UInt8} (h:BN l=0) (h2:l[0]!.threshold≤(l.length:Int)) (hx:joinL (l.take l[0]!.threshold.toNat)=x):CR l=(x,0):=by
  unfold CR;rw [if_neg (by omega),if_neg (by omega),hx]
theorem joinM_bad {l:List Share} {e:Int} (h:BN l≠0) (he:BN l=e):CR l=([],e):=by
  unfold CR;rw [if_pos h,he]
theorem VJ {l:List Share} {e:Int} (h:BN l=0) (h2:(l.length:Int)<l[0]!.threshold) (he:(80:Int)=e):CR l=([],e):=by
  unfold CR;rw [if_neg (by omega),if_pos (by omega),he]
theorem take0 {α:Type} [Inhabited α] {l:List α} {n:Nat} (h:0<n):(l.take n)[0]! = l[0]!:=by
  rw [getElem!_def,List.getElem?_take,if_pos h,getElem!_def]
theorem takeS {α:Type} [Inhabited α] {l:List α} {n i:Nat} (h:i<n):(l.take n)[i]! = l[i]!:=by
  rw [getElem!_def,List.getElem?_take,if_pos h,getElem!_def]
def HV (l:List Share) (m:Nat):List UInt8:=0 :: NE l++(List.range m).map (fun i:Nat=>GN (9+(i:Int)))
theorem IH (l:List Share) (m:Nat):(HV l m).length=1+l.length+m:=by simp [HV,IP];omega
def LB (l:List Share) (b:UInt8) (p m:Nat):List UInt8:=b :: ET l p++List.replicate m 0
theorem expY_len (l:List Share) (b:UInt8) (p m:Nat):(LB l b p m).length=1+l.length+m:=by simp [LB,NW];omega
def JN (l:List Share) (secret:List UInt8) (m:Nat):Nat→List UInt8
  | 0=>[]
  | p+1=>JN l secret m p++(EA (HV l m) (LB l secret[p]! p m)).1.drop 1
def AV (l:List Share) (secret:List UInt8):List UInt8 × Int:=
  if BN l≠0 then ([],BN l) else if l[0]!.threshold≤(l.length:Int) then ([],80) else if (secret.length:Int)≠(l[0]!.data.length:Int) then ([],1) else (JN l secret (l[0]!.threshold.toNat - 1 - l.length) secret.length,0)
open Go.Fw Go.RowKit
set_option maxHeartbeats 4000000 in
set_option maxRecDepth 100000 in
theorem c_polynomial {O:List Nat} (secret_v:Value) (secret:List UInt8) (coins_v:Value) (coins:List UInt8) (threshold:Int) (i:Nat) (w:World) (a1:AZ Enc.u8 w O secret_v secret) (a2:AZ Enc.u8 w O coins_v coins) (hpre0:1≤threshold) (hpre1:threshold≤8) (hpre2:i<secret.length) (hpre3:secret.length≤64) (hpre4:(coins.length:Int)=(secret.length:Int)*(threshold - 1)) (hO:∀ b∈O,b<w.heap.size):CD Try.prog 46 [secret_v,coins_v,vI threshold,vI (i:Int)] w (fun v w'=>∃ (x0:Value),v=x0∧AZ Enc.u8 w' (O) x0 (LP secret coins threshold i)):= by
 have d0:=a1.len_le
 have a1:AZ Enc.u8 w ([]++O) secret_v secret:=a1
 have f0:=a2.len_le
 have a2:AZ Enc.u8 w ([]++O) coins_v coins:=a2
 have s0:St w O w []:=St.start hO
 have hpb:=polyB hpre2 hpre0 hpre4
 have hpl:=polyL oM hpre0 hpre1 hpre4
 refine BK 31 Try.func46 rfl rfl oT (fun F0=>AI (AC kR (AA (AF (nS) rfl (AH (AD (AI (AC kR (AA (AG (vI (i:Int)) rfl (AA (AG (vI threshold) rfl (AA (JM .i64 threshold (1:Int) ((((threshold - 1).toNat:Nat):Int)) rfl rfl (GR oM oM) (AA (o_mul .i64 (i:Int) (((threshold - 1).toNat:Nat):Int) (((i*(threshold - 1).toNat:Nat):Int)) rfl rfl (GR (mulbN oM oM) (by simp)) (AA (AG (vI (i:Int)) rfl (AA (DE .i64 (i:Int) (1:Int) (((i+1:Nat):Int)) rfl rfl (GR oM oM) (AA (AG (vI threshold) rfl (AA (JM .i64 threshold (1:Int) ((((threshold - 1).toNat:Nat):Int)) rfl rfl (GR oM oM) (AA (o_mul .i64 ((i+1:Nat):Int) (((threshold - 1).toNat:Nat):Int) ((((i+1)*(threshold - 1).toNat:Nat):Int)) rfl rfl (GR (mulbN oM oM) (by simp)) (AA (AF (vI ((i*(threshold - 1).toNat:Nat):Int)) rfl (AA (AF (vI (((i+1)*(threshold - 1).toNat:Nat):Int)) rfl (AH (AD (AI (cw_draw' 10 _ _ [fun (vT:Value) (_:World)=>AZ Enc.u8 w ([]++O) vT (secret),DB (vI (i:Int)),fun (vT:Value) (_:World)=>∃ aT,vT = .pointer (some aT)∧PT Enc.u8 w ([]++O) (.pointer (some aT)) (secret[i]!),DB (vB (secret[i]!)),fun (vT:Value) (wT:World)=>∃ bT:Nat,vT.ownBlock=some bT∧w.heap.size≤bT∧bT<wT.heap.size∧EG Enc.u8 5 w.heap.size ((bT :: ([]))++O) wT vT ([secret[i]!]),fun (vT:Value) (_:World)=>AZ Enc.u8 w ([]++O) vT (coins),DB (vI ((i*(threshold - 1).toNat:Nat):Int)),DB (vI (((i+1)*(threshold - 1).toNat:Nat):Int)),DB (vI (((i+1)*(threshold - 1).toNat:Nat):Int)),fun (vT:Value) (_:World)=>AZ Enc.u8 w ([]++O) vT (((coins.take ((i+1)*(threshold - 1).toNat)).drop (i*(threshold - 1).toNat)))] kR kR kR kR rfl rfl ⟨fun _ _ _ h _=>h,kI,fun _ _ _ h _=>h,kI,fun _ _ _ ⟨b,e,h1,h2,h⟩ k=>⟨b,e,h1,Nat.lt_of_lt_of_le h2 k.size,h.mv (Mv.of_keep k) k (by simp)⟩,fun _ _ _ h _=>h,kI,kI,kI,fun _ _ _ h _=>h,trivial⟩ ⟨?_,?_,?_,?_,?_,?_,?_,?_,?_,?_,trivial⟩ ?_))))))))))))))))))))))))))))))))))
 ·intro F1 w1 k1 hf hd
  obtain ⟨F2,rfl⟩:=AM (F:=F1) [(0,secret_v)] ⟨hf 0 kR,trivial⟩
  exact AK rfl ((AG (secret_v) rfl (⟨(Keep.refl _ _),a1⟩)))
 ·intro F1 w1 k1 hf hd
  obtain ⟨F2,rfl⟩:=AM (F:=F1) [(3,vI (i:Int))] ⟨hf 3 kR,trivial⟩
  exact AK rfl ((AG (vI (i:Int)) rfl (⟨(Keep.refl _ _),rfl⟩)))
 ·intro F1 w1 k1 hf hd
  obtain ⟨d1,d2,a6⟩:∃ v,F1 20=v∧AZ Enc.u8 w ([]++O) v (secret):=⟨_,rfl,hd 0 20 kR⟩
  have:=a6.len_le
  obtain ⟨F2,rfl⟩:=AM (F:=F1) [(20,d1),(21,vI (i:Int))] ⟨d2,hd 1 21 kR,trivial⟩
  exact AK rfl ((o_idxU U23_ IR .i64 (i:Int) i rfl rfl rfl a6 oM fun d3 b8=>(⟨(Keep.refl _ _),⟨d3,rfl,b8⟩⟩)))
 ·intro F1 w1 k1 hf hd
  have k0:=(Keep.drew [] w).trans k1
  obtain ⟨d4,d5,b9⟩:∃ aX_,F1 22 = .pointer (some aX_)∧PT Enc.u8 w ([]++O) (.pointer (some aX_)) (secret[i]!):=hd 2 22 kR
  obtain ⟨F2,rfl⟩:=AM (F:=F1) [(22,vP (some d4))] ⟨d5,trivial⟩
  exact AK rfl ((o_loadBU U5_ rfl rfl b9 k0 (⟨(Keep.refl _ _),rfl⟩)))
 ·intro F1 w1 k1 hf hd
  have k0:=(Keep.drew [] w).trans k1
  have s1:=s0.call k0
  obtain ⟨F2,rfl⟩:=AM (F:=F1) [(23,vB (secret[i]!))] ⟨hd 3 23 kR,trivial⟩
  refine AK rfl ((II (E:=Enc.u8) (xs:=[.tmp 23]) U23_ IR z_5 (by decide) [vB (secret[i]!)] [[vB (secret[i]!)]] [secret[i]!] rfl rfl rfl (Parts.cons rfl rfl (Parts.nil _ _ _)) oT s1 fun f5 b1 f6 f7 a7 f8 f9 d6 a8=>(?_)))
  have c0:w.heap.size≤b1:=by have:=k0.size;omega
  have c1:=(a8.lt b1 a7).2
  exact ⟨d6,⟨_,a7,c0,c1,a8⟩⟩
 ·intro F1 w1 k1 hf hd
  obtain ⟨F2,rfl⟩:=AM (F:=F1) [(1,coins_v)] ⟨hf 1 kR,trivial⟩
  exact AK rfl ((AG (coins_v) rfl (⟨(Keep.refl _ _),a2⟩)))
 ·intro F1 w1 k1 hf hd
  obtain ⟨F2,rfl⟩:=AM (F:=F1) [(9,vI ((i*(threshold - 1).toNat:Nat):Int))] ⟨hf 9 kR,trivial⟩
  exact AK rfl ((AG (vI ((i*(threshold - 1).toNat:Nat):Int)) rfl (⟨(Keep.refl _ _),rfl⟩)))
 ·intro F1 w1 k1 hf hd
  obtain ⟨F2,rfl⟩:=AM (F:=F1) [(10,vI (((i+1)*(threshold - 1).toNat:Nat):Int))] ⟨hf 10 kR,trivial⟩
  exact AK rfl ((AG (vI (((i+1)*(threshold - 1).toNat:Nat):Int)) rfl (⟨(Keep.refl _ _),rfl⟩)))
 ·intro F1 w1 k1 hf hd
  obtain ⟨F2,rfl⟩:=AM (F:=F1) [(10,vI (((i+1)*(threshold - 1).toNat:Nat):Int))] ⟨hf 10 kR,trivial⟩
  exact AK rfl ((AG (vI (((i+1)*(threshold - 1).toNat:Nat):Int)) rfl (⟨(Keep.refl _ _),rfl⟩)))
 ·intro F1 w1 k1 hf hd
  obtain ⟨d7,d8,a9⟩:∃ v,F1 25=v∧AZ Enc.u8 w ([]++O) v (coins):=⟨_,rfl,hd 5 25 kR⟩
  have:=a9.len_le
  obtain ⟨F2,rfl⟩:=AM (F:=F1) [(25,d7),(26,vI ((i*(threshold - 1).toNat:Nat):Int)),(27,vI (((i+1)*(threshold - 1).toNat:Nat):Int)),(28,vI (((i+1)*(threshold - 1).toNat:Nat):Int))] ⟨d8,hd 6 26 kR,hd 7 27 kR,hd 8 28 kR,trivial⟩
  refine AK rfl ((o_slice3RU U23_ IR (i*(threshold - 1).toNat) ((i+1)*(threshold - 1).toNat) ((i+1)*(threshold - 1).toNat) rfl (.inr ⟨.tmp 26, .i64,((i*(threshold - 1).toNat:Nat):Int),rfl,rfl,oM⟩) .i64 .i64 (((i+1)*(threshold - 1).toNat:Nat):Int) (((i+1)*(threshold - 1).toNat:Nat):Int) rfl oM rfl oM (Nat.mul_le_mul_right _ oM) (Nat.le_refl _) hpb a9 fun g0 c2=>(?_)))
  exact ⟨(Keep.refl _ _),c2⟩
 intro a3 b2 b3 a0 a5
 obtain ⟨d9,e0,c3⟩:∃ v,a3 20=v∧AZ Enc.u8 w ([]++O) v (secret):=⟨_,rfl,a0 0 20 kR (by decide)⟩
 have:=c3.len_le
 obtain ⟨e1,e2,f2⟩:∃ aX_,a3 22 = .pointer (some aX_)∧PT Enc.u8 w ([]++O) (.pointer (some aX_)) (secret[i]!):=a0 2 22 kR (by decide)
 obtain ⟨e3,e4,c4⟩:∃ v,a3 25=v∧AZ Enc.u8 w ([]++O) v (coins):=⟨_,rfl,a0 5 25 kR (by decide)⟩
 have:=c4.len_le
 obtain ⟨e5,e6,a4⟩:∃ v,a3 29=v∧AZ Enc.u8 w ([]++O) v (((coins.take ((i+1)*(threshold - 1).toNat)).drop (i*(threshold - 1).toNat))):=⟨_,rfl,a0 9 29 kR (by decide)⟩
 have:=a4.len_le
 obtain ⟨b4,e7,b5,c5,b0,c6,c7⟩:∃ v,a3 24=v∧(fun (vT:Value) (wT:World)=>∃ bT:Nat,vT.ownBlock=some bT∧w.heap.size≤bT∧bT<wT.heap.size∧EG Enc.u8 5 w.heap.size ((bT :: ([]))++O) wT vT ([secret[i]!])) v b2:=⟨_,rfl,a0 4 24 kR (by decide)⟩
 have c8:∀ b,b4.ownBlock=some b→b∈(b5 :: []):=fun b hb=>by rw [c5] at hb;cases hb;simp
 have e8:=(s0.call b3).adopt (Nat.le_trans s0.keep.size b0) c6
 have e9:Mv ([]) w (b5 :: []) b2:=Mv.adopt b3 b0
 have a4:=a4.mv e9
 obtain ⟨F2,rfl⟩:=AM (F:=a3) [(8,nS),(31,undef),(20,d9),(22,vP (some e1)),(24,b4),(25,e3),(29,e5)] ⟨a5 8 kR,a5 31 kR,e0,e2,e7,e4,e6,trivial⟩
 clear a0 a5
 refine AA (DG (E:=Enc.u8) (l:=[secret[i]!]) (m:=((coins.take ((i+1)*(threshold - 1).toNat)).drop (i*(threshold - 1).toNat))) U23_ i_5 rfl (by decide) rfl rfl c7 a4 (fun _ hb=>.inl hb) c8 (by simp only [List.length_cons,List.length_nil,List.length_drop,List.length_take];omega) (by simp only [List.length_cons,List.length_nil,List.length_drop,List.length_take,maxLen];omega) e8 fun b6 g1 g2 f3 f4 f1 b7 g3 g4 c9=>(AA (AF (b6) rfl (AH (AD (AQ (AX rfl (CK rfl rfl rfl) (?_))))))))
 have e:(LP secret coins threshold i)=(([secret[i]!])++((coins.take ((i+1)*(threshold - 1).toNat)).drop (i*(threshold - 1).toNat))):=rfl
 exact ⟨_,rfl,b7.keep,by rw [e];exact ⟨b6,rfl,c9.pub b7⟩⟩
set_option maxHeartbeats 4000000 in
set_option maxRecDepth 100000 in
theorem c_split1 {O:List Nat} (i:Nat) (secret_a:Addr) (secret:(List UInt8)) (coins_a:Addr) (coins:(List UInt8)) (threshold_a:Addr) (threshold:Int) (w:World) (a1:PT (Enc.slice Enc.u8) w O (.pointer (some secret_a)) secret) (a2:PT (Enc.slice Enc.u8) w O (.pointer (some coins_a)) coins) (a0:PT Enc.int w O (.pointer (some threshold_a)) threshold) (hpre0:1≤threshold) (hpre1:threshold≤8) (hpre2:i<secret.length) (hpre3:secret.length≤64) (hpre4:(coins.length:Int)=(secret.length:Int)*(threshold - 1)) (hO:∀ b∈O,b<w.heap.size):CD Try.prog 45 [vI (i:Int), .pointer (some secret_a), .pointer (some coins_a), .pointer (some threshold_a)] w (fun v w'=>∃ (x0:Value),v=x0∧AZ Enc.u8 w' (O) x0 (LP secret coins threshold i)):= by
 have a1:PT (Enc.slice Enc.u8) w ([]++O) (.pointer (some secret_a)) secret:=a1
 have a2:PT (Enc.slice Enc.u8) w ([]++O) (.pointer (some coins_a)) coins:=a2
 have a0:PT Enc.int w ([]++O) (.pointer (some threshold_a)) threshold:=a0
 have s0:St w O w []:=St.start hO
 refine BK 11 Try.func45 rfl rfl oT (fun F0=>AI (AC kR (AA (AF (nS) rfl (AH (AD (AI (AC kR (AA (BW U23_ rfl rfl a1 fun a6 a3=>(?_)))))))))))
 have:=a3.len_le
 refine AA (BW U23_ rfl rfl a2 fun a7 a4=>(?_))
 have:=a4.len_le
 refine AA (CA U3_ rfl rfl a0 (AA (AG (vI (i:Int)) rfl (AA (BD (vs:=[a6,a7,vI threshold,vI (i:Int)]) enter_46 (c_polynomial (O:=[]++O) a6 secret a7 coins threshold i w a3 a4 oM oM oM oM oM s0.lt) rfl s0 fun a8 b1 a9 b2 b3 b0=>(?_))))))
 obtain ⟨_,rfl,a5⟩:=b0
 have:=a5.len_le
 refine AA (AF (a8) rfl (AH (AD (AQ (AX rfl (CK rfl rfl rfl) (?_))))))
 exact ⟨_,rfl,a9.keep,⟨a8,rfl,a5.out⟩⟩
set_option maxHeartbeats 4000000 in
set_option maxRecDepth 100000 in
theorem c_collectL {O:List Nat} (n:Int) (f_v:Nat) (f_caps:List Value) (f:Nat→(List UInt8)) (w:World) (a9:∀ (vs_:Array Value) (w:World),(callFunc f_v vs_).run Try.prog w = .ok (.enter f_v vs_) w) (c1:∀ (w':World) (O':List Nat),Keep [] w w'→(∀ b∈O',b∈O∨w.heap.size≤b)→(∀ b∈O',b<w'.heap.size)→∀ (i:Nat),(i:Int)<n→CD Try.prog f_v ([vI (i:Int)]++f_caps) w' (fun v w2=>∃ (x0:Value),v=x0∧AZ Enc.u8 w2 (O') x0 (f i))) (hpre0:n≤1000000) (hO:∀ b∈O,b<w.heap.size):CD Try.prog 44 [vI n, .func (.func f_v) #[] f_caps.toArray] w (fun v w'=>∃ (x0:Value),v=x0∧AZ (Enc.slice Enc.u8) w' (O) x0 ((List.range (n).toNat).map f)):= by
 have s0:St w O w []:=St.start hO
 refine BK 18 Try.func44 rfl rfl oT (fun F0=>AI (AC kR (AA (AF (.slice none 0 0) rfl (AH (AD (AI (AI (AC kR (AA (AG (vI n) rfl (AA (AG (vI 0) rfl (AH (AD (BO (DJ (fun mI FI wI=>∃ (k:Nat) (a0:Value) (B:List Nat),k≤n.toNat∧mI=n.toNat - k∧(∃ F1,FI=GO F1 [(1,vN (.func f_v) #[] f_caps.toArray),(4,a0),(6,vI n),(7,vI ((k:Nat):Int)),(18,undef)])∧St w O wI B∧EG (Enc.slice Enc.u8) 23 w.heap.size (B++O) wI a0 (((List.range k).map f))∧(∀ b,a0.ownBlock=some b→b∈B)) (n.toNat - (0)) ?_ ?_)))))))))))))))))
 ·exact ⟨(0),(.slice none 0 0),[],oM,rfl,⟨_,BB _ ⟨rfl,rfl,rfl,(by rfl),rfl,trivial⟩⟩,s0,(by rw [show ((List.range (0)).map f)=[] from rfl];exact (EG.nil (Enc.slice Enc.u8) 23 _ _ _)),(by intro b hb;simp [Value.ownBlock] at hb)⟩
 intro d3 F c2 hI
 obtain ⟨k,a0,c3,hr0_0,d4,⟨d5,rfl⟩,a3,ho0_4,b0⟩:=hI
 refine AI (AC kR (AA (DY .i64 ((k:Nat):Int) n rfl rfl (AH (AD (AI (AN (decide (((k:Nat):Int)<n)) rfl rfl (fun a1=>?_) (fun a1=>?_))))))))
 ·have c4:((k:Nat):Int)<n:=by simpa using a1
  refine AW (AD (AI (BO (AI (AC kR (AA (AG (vI ((k:Nat):Int)) rfl (AA (AF (vI ((k:Nat):Int)) rfl (AH (AD (AC kR (AA (AG (a0) rfl (AA (AG (vN (.func f_v) #[] f_caps.toArray) rfl (AA (AG (vI ((k:Nat):Int)) rfl (AA (QB [] f_caps [vI ((k:Nat):Int)] a9 rfl (c1 c2 (c3++O) a3.keep (fun b hb=>(List.mem_append.1 hb).elim (fun h=>.inr (a3.new b h).1) .inl) a3.lt k  oM) rfl rfl a3 fun a5 c7 b1 b2 b3 b4=>(?_)))))))))))))))))))))
  obtain ⟨_,rfl,a2⟩:=b4
  have:=a2.len_le
  have ho0_4:=ho0_4.mv b2 b3 (by simp)
  refine AA (JI (E:=(Enc.slice Enc.u8)) (xs:=[.tmp 13]) U83_ s_23 z_23 (by decide) [a5] [[a5]] [f k] rfl rfl rfl (Parts.cons (FD a2.oneCell) ⟨_,rfl,a2⟩ (Parts.nil _ _ _)) oT b1 fun c8 c9 b5 b6 b7 a4=>(?_))
  have ho0_4:=ho0_4.mv b6 b7 (by simp)
  have:=a4.len_le
  refine AA (DG (E:=(Enc.slice Enc.u8)) (l:=((List.range k).map f)) (m:=[f k]) U83_ i_23 rfl (by decide) rfl rfl ho0_4 a4 (fun _ hb=>.inl hb) b0 (by simp;omega) (by simp [maxLen];omega) b5 fun a6 d0 b8 a7 c5 c0 b9 d1 d2 a8=>(AA (AF (a6) rfl (AH (CI (AD (AC kR (AA (DE .i64 ((k:Nat):Int) (1:Int) (((k+1:Nat):Int)) rfl rfl (GR oM oM) (AA (AG (vI ((k+1:Nat):Int)) rfl (AH (AD (?_))))))))))))))
  exact ⟨_,oM,(k+1),a6,b8,oM,rfl,⟨_,BB _ ⟨rfl,rfl,rfl,(by rfl),rfl,trivial⟩⟩,b9,(by rw [show ((List.range (k+1)).map f)=((List.range k).map f)++([f k]) from by simp [List.range_succ]];exact a8),a7⟩
 have c6:n≤((k:Nat):Int):=by simpa using a1
 obtain rfl:k=n.toNat:=by omega
 refine DI (CF (CF (CY (AD (AI (AC kR (AA (AG (a0) rfl (AA (AF (a0) rfl (AH (AD (AQ (AX rfl (CK rfl rfl rfl) (?_)))))))))))))))
 have e:((List.range (n).toNat).map f)=((List.range n.toNat).map f):=rfl
 exact ⟨_,rfl,a3.keep,by rw [e];exact ⟨a0,rfl,ho0_4.pub a3⟩⟩
set_option maxHeartbeats 4000000 in
set_option maxRecDepth 100000 in
theorem PG {O:List Nat} (n:Int) (f_v:Nat) (f_caps:List Value) (f:Nat→Share) (w:World) (a9:∀ (vs_:Array Value) (w:World),(callFunc f_v vs_).run Try.prog w = .ok (.enter f_v vs_) w) (c1:∀ (w':World) (O':List Nat),Keep [] w w'→(∀ b∈O',b∈O∨w.heap.size≤b)→(∀ b∈O',b<w'.heap.size)→∀ (i:Nat),(i:Int)<n→CD Try.prog f_v ([vI (i:Int)]++f_caps) w' (fun v w2=>∃ (x0:List Value),v = .agg x0.toArray∧Enc.share.rd w2 (O') x0 (f i))) (hpre0:n≤1000000) (hO:∀ b∈O,b<w.heap.size):CD Try.prog 47 [vI n, .func (.func f_v) #[] f_caps.toArray] w (fun v w'=>∃ (x0:Value),v=x0∧AZ Enc.share w' (O) x0 ((List.range (n).toNat).map f)):= by
 have s0:St w O w []:=St.start hO
 refine BK 18 Try.func47 rfl rfl oT (fun F0=>AI (AC kR (AA (AF (.slice none 0 0) rfl (AH (AD (AI (AI (AC kR (AA (AG (vI n) rfl (AA (AG (vI 0) rfl (AH (AD (BO (DJ (fun mI FI wI=>∃ (k:Nat) (a0:Value) (B:List Nat),k≤n.toNat∧mI=n.toNat - k∧(∃ F1,FI=GO F1 [(1,vN (.func f_v) #[] f_caps.toArray),(4,a0),(6,vI n),(7,vI ((k:Nat):Int)),(18,undef)])∧St w O wI B∧EG Enc.share 70 w.heap.size (B++O) wI a0 (((List.range k).map f))∧(∀ b,a0.ownBlock=some b→b∈B)) (n.toNat - (0)) ?_ ?_)))))))))))))))))
 ·exact ⟨(0),(.slice none 0 0),[],oM,rfl,⟨_,BB _ ⟨rfl,rfl,rfl,(by rfl),rfl,trivial⟩⟩,s0,(by rw [show ((List.range (0)).map f)=[] from rfl];exact (EG.nil Enc.share 70 _ _ _)),(by intro b hb;simp [Value.ownBlock] at hb)⟩
 intro d4 F c2 hI
 obtain ⟨k,a0,c3,hr0_0,d5,⟨d6,rfl⟩,a2,ho0_4,b0⟩:=hI
 refine AI (AC kR (AA (DY .i64 ((k:Nat):Int) n rfl rfl (AH (AD (AI (AN (decide (((k:Nat):Int)<n)) rfl rfl (fun a1=>?_) (fun a1=>?_))))))))
 ·have c4:((k:Nat):Int)<n:=by simpa using a1
  refine AW (AD (AI (BO (AI (AC kR (AA (AG (vI ((k:Nat):Int)) rfl (AA (AF (vI ((k:Nat):Int)) rfl (AH (AD (AC kR (AA (AG (a0) rfl (AA (AG (vN (.func f_v) #[] f_caps.toArray) rfl (AA (AG (vI ((k:Nat):Int)) rfl (AA (QB [] f_caps [vI ((k:Nat):Int)] a9 rfl (c1 c2 (c3++O) a2.keep (fun b hb=>(List.mem_append.1 hb).elim (fun h=>.inr (a2.new b h).1) .inl) a2.lt k  oM) rfl rfl a2 fun c7 c8 b1 b2 b3 b4=>(?_)))))))))))))))))))))
  obtain ⟨a3,rfl,a6⟩:=b4
  have ho0_4:=ho0_4.mv b2 b3 (by simp)
  refine AA (JI (E:=Enc.share) (xs:=[.tmp 13]) U32_ DC MO (by decide) [vA a3.toArray] [a3] [f k] rfl rfl rfl (Parts.cons rfl a6 (Parts.nil _ _ _)) oT b1 fun c9 d0 b5 b6 b7 a4=>(?_))
  have ho0_4:=ho0_4.mv b6 b7 (by simp)
  have:=a4.len_le
  refine AA (DG (E:=Enc.share) (l:=((List.range k).map f)) (m:=[f k]) U32_ i_70 rfl (by decide) rfl rfl ho0_4 a4 (fun _ hb=>.inl hb) b0 (by simp;omega) (by simp [maxLen];omega) b5 fun a5 d1 b8 a7 c5 c0 b9 d2 d3 a8=>(AA (AF (a5) rfl (AH (CI (AD (AC kR (AA (DE .i64 ((k:Nat):Int) (1:Int) (((k+1:Nat):Int)) rfl rfl (GR oM oM) (AA (AG (vI ((k+1:Nat):Int)) rfl (AH (AD (?_))))))))))))))
  exact ⟨_,oM,(k+1),a5,b8,oM,rfl,⟨_,BB _ ⟨rfl,rfl,rfl,(by rfl),rfl,trivial⟩⟩,b9,(by rw [show ((List.range (k+1)).map f)=((List.range k).map f)++([f k]) from by simp [List.range_succ]];exact a8),a7⟩
 have c6:n≤((k:Nat):Int):=by simpa using a1
 obtain rfl:k=n.toNat:=by omega
 refine DI (CF (CF (CY (AD (AI (AC kR (AA (AG (a0) rfl (AA (AF (a0) rfl (AH (AD (AQ (AX rfl (CK rfl rfl rfl) (?_)))))))))))))))
 have e:((List.range (n).toNat).map f)=((List.range n.toNat).map f):=rfl
 exact ⟨_,rfl,a2.keep,by rw [e];exact ⟨a0,rfl,ho0_4.pub a2⟩⟩
set_option maxHeartbeats 4000000 in
set_option maxRecDepth 100000 in
theorem KO {O:List Nat} (n:Int) (f_v:Nat) (f_caps:List Value) (f:Nat→UInt8) (w:World) (a7:∀ (vs_:Array Value) (w:World),(callFunc f_v vs_).run Try.prog w = .ok (.enter f_v vs_) w) (b9:∀ (w':World) (O':List Nat),Keep [] w w'→(∀ b∈O',b∈O∨w.heap.size≤b)→(∀ b∈O',b<w'.heap.size)→∀ (i:Nat),(i:Int)<n→CD Try.prog f_v ([vI (i:Int)]++f_caps) w' (fun v w2=>v=vB (f i))) (hpre0:n≤1000000) (hO:∀ b∈O,b<w.heap.size):CD Try.prog 49 [vI n, .func (.func f_v) #[] f_caps.toArray] w (fun v w'=>∃ (x0:Value),v=x0∧AZ Enc.u8 w' (O) x0 ((List.range (n).toNat).map f)):= by
 have s0:St w O w []:=St.start hO
 refine BK 18 Try.func49 rfl rfl oT (fun F0=>AI (AC kR (AA (AF (.slice none 0 0) rfl (AH (AD (AI (AI (AC kR (AA (AG (vI n) rfl (AA (AG (vI 0) rfl (AH (AD (BO (DJ (fun mI FI wI=>∃ (k:Nat) (a0:Value) (B:List Nat),k≤n.toNat∧mI=n.toNat - k∧(∃ F1,FI=GO F1 [(1,vN (.func f_v) #[] f_caps.toArray),(4,a0),(6,vI n),(7,vI ((k:Nat):Int)),(18,undef)])∧St w O wI B∧EG Enc.u8 5 w.heap.size (B++O) wI a0 (((List.range k).map f))∧(∀ b,a0.ownBlock=some b→b∈B)) (n.toNat - (0)) ?_ ?_)))))))))))))))))
 ·exact ⟨(0),(.slice none 0 0),[],oM,rfl,⟨_,BB _ ⟨rfl,rfl,rfl,(by rfl),rfl,trivial⟩⟩,s0,(by rw [show ((List.range (0)).map f)=[] from rfl];exact (EG.nil Enc.u8 5 _ _ _)),(by intro b hb;simp [Value.ownBlock] at hb)⟩
 intro d2 F c0 hI
 obtain ⟨k,a0,c1,hr0_0,d3,⟨d4,rfl⟩,a2,ho0_4,a8⟩:=hI
 refine AI (AC kR (AA (DY .i64 ((k:Nat):Int) n rfl rfl (AH (AD (AI (AN (decide (((k:Nat):Int)<n)) rfl rfl (fun a1=>?_) (fun a1=>?_))))))))
 ·have c2:((k:Nat):Int)<n:=by simpa using a1
  refine AW (AD (AI (BO (AI (AC kR (AA (AG (vI ((k:Nat):Int)) rfl (AA (AF (vI ((k:Nat):Int)) rfl (AH (AD (AC kR (AA (AG (a0) rfl (AA (AG (vN (.func f_v) #[] f_caps.toArray) rfl (AA (AG (vI ((k:Nat):Int)) rfl (AA (QB [] f_caps [vI ((k:Nat):Int)] a7 rfl (b9 c0 (c1++O) a2.keep (fun b hb=>(List.mem_append.1 hb).elim (fun h=>.inr (a2.new b h).1) .inl) a2.lt k  oM) rfl rfl a2 fun c5 c6 a9 b0 b1 b2=>(?_)))))))))))))))))))))
  obtain rfl:=b2
  have ho0_4:=ho0_4.mv b0 b1 (by simp)
  refine AA (JI (E:=Enc.u8) (xs:=[.tmp 13]) U23_ IR z_5 (by decide) [vB (f k)] [[vB (f k)]] [f k] rfl rfl rfl (Parts.cons rfl rfl (Parts.nil _ _ _)) oT a9 fun c7 c8 b3 b4 b5 a3=>(?_))
  have ho0_4:=ho0_4.mv b4 b5 (by simp)
  have:=a3.len_le
  refine AA (DG (E:=Enc.u8) (l:=((List.range k).map f)) (m:=[f k]) U23_ i_5 rfl (by decide) rfl rfl ho0_4 a3 (fun _ hb=>.inl hb) a8 (by simp;omega) (by simp [maxLen];omega) b3 fun a4 c9 b6 a5 c3 b8 b7 d0 d1 a6=>(AA (AF (a4) rfl (AH (CI (AD (AC kR (AA (DE .i64 ((k:Nat):Int) (1:Int) (((k+1:Nat):Int)) rfl rfl (GR oM oM) (AA (AG (vI ((k+1:Nat):Int)) rfl (AH (AD (?_))))))))))))))
  exact ⟨_,oM,(k+1),a4,b6,oM,rfl,⟨_,BB _ ⟨rfl,rfl,rfl,(by rfl),rfl,trivial⟩⟩,b7,(by rw [show ((List.range (k+1)).map f)=((List.range k).map f)++([f k]) from by simp [List.range_succ]];exact a6),a5⟩
 have c4:n≤((k:Nat):Int):=by simpa using a1
 obtain rfl:k=n.toNat:=by omega
 refine DI (CF (CF (CY (AD (AI (AC kR (AA (AG (a0) rfl (AA (AF (a0) rfl (AH (AD (AQ (AX rfl (CK rfl rfl rfl) (?_)))))))))))))))
 have e:((List.range (n).toNat).map f)=((List.range n.toNat).map f):=rfl
 exact ⟨_,rfl,a2.keep,by rw [e];exact ⟨a0,rfl,ho0_4.pub a2⟩⟩
set_option maxHeartbeats 4000000 in
set_option maxRecDepth 100000 in
theorem c_split21 {O:List Nat} (i:Nat) (polys_a:Addr) (polys:(List (List UInt8))) (k_a:Addr) (k:Int) (w:World) (a0:PT (Enc.slice (Enc.slice Enc.u8)) w O (.pointer (some polys_a)) polys) (a4:PT Enc.int w O (.pointer (some k_a)) k) (hpre0:i<polys.length) (hpre1:0≤k) (hpre2:k<1000) (hO:∀ b∈O,b<w.heap.size):CD Try.prog 50 [vI (i:Int), .pointer (some polys_a), .pointer (some k_a)] w (fun v _=>v=vB (EB polys[i]! (GN (k+1)))):= by
 have a0:PT (Enc.slice (Enc.slice Enc.u8)) w ([]++O) (.pointer (some polys_a)) polys:=a0
 have a4:PT Enc.int w ([]++O) (.pointer (some k_a)) k:=a4
 have s0:St w O w []:=St.start hO
 refine BK 13 Try.func50 rfl rfl oT (fun F0=>AI (AC kR (AA (AF (vB (0:UInt8)) rfl (AH (AD (AI (cw_draw' 7 _ _ [fun (vT:Value) (wT:World)=>AZ (Enc.slice Enc.u8) wT ([]++O) vT (polys),DB (vI (i:Int)),fun (vT:Value) (wT:World)=>∃ aT,vT = .pointer (some aT)∧PT (Enc.slice Enc.u8) wT ([]++O) (.pointer (some aT)) (polys[i]!),fun (vT:Value) (wT:World)=>AZ Enc.u8 wT ([]++O) vT (polys[i]!),DB (vI k),DB (vI (k+(1:Int))),DB (vB (GN (k+(1:Int))))] kR kR kR kR rfl rfl ⟨fun _ _ _ h k=>h.mv (Mv.of_keep k),kI,fun _ _ _ ⟨a,e,h⟩ k=>⟨a,e,h.mv (Mv.of_keep k)⟩,fun _ _ _ h k=>h.mv (Mv.of_keep k),kI,kI,kI,trivial⟩ ⟨?_,?_,?_,?_,?_,?_,?_,trivial⟩ ?_))))))))
 ·intro F1 w1 k1 hf hd
  have k0:=(Keep.drew [] w).trans k1
  have m1:Mv ([]) w ([]) w1:=Mv.of_keep k0
  have a0:=a0.mv m1
  obtain ⟨F2,rfl⟩:=AM (F:=F1) [(1,vP (some polys_a))] ⟨hf 1 kR,trivial⟩
  refine AK rfl ((BW U83_ rfl rfl a0 fun c3 a5=>(?_)))
  have:=a5.len_le
  exact ⟨(Keep.refl _ _),a5⟩
 ·intro F1 w1 k1 hf hd
  obtain ⟨F2,rfl⟩:=AM (F:=F1) [(0,vI (i:Int))] ⟨hf 0 kR,trivial⟩
  exact AK rfl ((AG (vI (i:Int)) rfl (⟨(Keep.refl _ _),rfl⟩)))
 ·intro F1 w1 k1 hf hd
  obtain ⟨b4,b5,a6⟩:∃ v,F1 5=v∧AZ (Enc.slice Enc.u8) w1 ([]++O) v (polys):=⟨_,rfl,hd 0 5 kR⟩
  have:=a6.len_le
  obtain ⟨F2,rfl⟩:=AM (F:=F1) [(5,b4),(6,vI (i:Int))] ⟨b5,hd 1 6 kR,trivial⟩
  exact AK rfl ((DF U83_ s_23 .i64 (i:Int) i rfl rfl rfl a6 oM fun b6 b2=>(⟨(Keep.refl _ _),⟨b6,rfl,b2⟩⟩)))
 ·intro F1 w1 k1 hf hd
  obtain ⟨b7,b8,b3⟩:∃ aX_,F1 7 = .pointer (some aX_)∧PT (Enc.slice Enc.u8) w1 ([]++O) (.pointer (some aX_)) (polys[i]!):=hd 2 7 kR
  obtain ⟨F2,rfl⟩:=AM (F:=F1) [(7,vP (some b7))] ⟨b8,trivial⟩
  refine AK rfl ((BW U23_ rfl rfl b3 fun c4 a7=>(?_)))
  have:=a7.len_le
  exact ⟨(Keep.refl _ _),a7⟩
 ·intro F1 w1 k1 hf hd
  have k0:=(Keep.drew [] w).trans k1
  have m1:Mv ([]) w ([]) w1:=Mv.of_keep k0
  have a4:=a4.mv m1
  obtain ⟨F2,rfl⟩:=AM (F:=F1) [(2,vP (some k_a))] ⟨hf 2 kR,trivial⟩
  exact AK rfl ((CA U3_ rfl rfl a4 (⟨(Keep.refl _ _),rfl⟩)))
 ·intro F1 w1 k1 hf hd
  obtain ⟨F2,rfl⟩:=AM (F:=F1) [(9,vI k)] ⟨hd 4 9 kR,trivial⟩
  exact AK rfl ((DE .i64 k (1:Int) (k+(1:Int)) rfl rfl (GR oM oM) (⟨(Keep.refl _ _),rfl⟩)))
 ·intro F1 w1 k1 hf hd
  obtain ⟨F2,rfl⟩:=AM (F:=F1) [(10,vI (k+(1:Int)))] ⟨hd 5 10 kR,trivial⟩
  exact AK rfl ((o_u8of .i64 U3_ U5_ (k+(1:Int)) rfl (⟨(Keep.refl _ _),rfl⟩)))
 intro a9 b0 b9 a1 a2
 have b1:=s0.call b9
 obtain ⟨a3,c0,a8⟩:∃ v,a9 8=v∧AZ Enc.u8 b0 ([]++O) v (polys[i]!):=⟨_,rfl,a1 3 8 kR (by decide)⟩
 have:=a8.len_le
 obtain ⟨F2,rfl⟩:=AM (F:=a9) [(4,vB (0:UInt8)),(13,undef),(8,a3),(11,vB (GN (k+(1:Int))))] ⟨a2 4 kR,a2 13 kR,c0,a1 6 11 kR (by decide),trivial⟩
 clear a1 a2
 refine AA (BD (vs:=[a3,vB (GN (k+(1:Int)))]) UG (c_eval (O:=[]++O) a3 (polys[i]!) (GN (k+(1:Int))) b0 a8 b1.lt) rfl b1 fun c5 c6 c1 c7 c8 c2=>(?_))
 obtain rfl:=c2
 refine AA (AF (vB (EB (polys[i]!) (GN (k+(1:Int))))) rfl (AH (AD (AQ (AX rfl (CK rfl rfl rfl) (?_))))))
 have e:(EB polys[i]! (GN (k+1)))=(EB (polys[i]!) (GN (k+(1:Int)))):=rfl
 exact ⟨_,rfl,c1.keep,by rw [e];exact rfl⟩
set_option maxHeartbeats 4000000 in
set_option maxRecDepth 100000 in
theorem c_split2 {O:List Nat} (k:Nat) (secret_a:Addr) (secret:(List UInt8)) (polys_a:Addr) (polys:(List (List UInt8))) (epoch_a:Addr) (epoch:Int) (threshold_a:Addr) (threshold:Int) (many_a:Addr) (many:Int) (w:World) (a2:PT (Enc.slice Enc.u8) w O (.pointer (some secret_a)) secret) (a4:PT (Enc.slice (Enc.slice Enc.u8)) w O (.pointer (some polys_a)) polys) (a1:PT Enc.int w O (.pointer (some epoch_a)) epoch) (a0:PT Enc.int w O (.pointer (some threshold_a)) threshold) (a3:PT Enc.int w O (.pointer (some many_a)) many) (hpre0:polys.length=secret.length) (hpre1:(k:Int)<many) (hpre2:many≤8) (hpre3:secret.length≤64) (hO:∀ b∈O,b<w.heap.size):CD Try.prog 48 [vI (k:Int), .pointer (some secret_a), .pointer (some polys_a), .pointer (some epoch_a), .pointer (some threshold_a), .pointer (some many_a)] w (fun v w'=>∃ (x0:List Value),v = .agg x0.toArray∧Enc.share.rd w' (O) x0 (EM secret polys epoch threshold many k)):= by
 have a2:PT (Enc.slice Enc.u8) w ([]++O) (.pointer (some secret_a)) secret:=a2
 have a4:PT (Enc.slice (Enc.slice Enc.u8)) w ([]++O) (.pointer (some polys_a)) polys:=a4
 have a1:PT Enc.int w ([]++O) (.pointer (some epoch_a)) epoch:=a1
 have a0:PT Enc.int w ([]++O) (.pointer (some threshold_a)) threshold:=a0
 have a3:PT Enc.int w ([]++O) (.pointer (some many_a)) many:=a3
 have s0:St w O w []:=St.start hO
 refine BK 20 Try.func48 rfl rfl oT (fun F0=>AI (AC kR (AA (DK (E:=Enc.int) (vI (k:Int)) ([vI (k:Int)]) (k:Int) rfl rfl rfl s0 fun b0 c5 b7 a9 c6 a6=>(?_)))))
 have a2:=a2.mv a9
 have a4:=a4.mv a9
 have a1:=a1.mv a9
 have a0:=a0.mv a9
 have a3:=a3.mv a9
 refine AA (CU [vI 0,vI 0,vI 0,vI 0,nS] MO rfl b7 fun b4 b8 b9 b5 a8 c7 b2=>(?_))
 clear b9
 have a2:=a2.mv a8
 have a4:=a4.mv a8
 have a1:=a1.mv a8
 have a0:=a0.mv a8
 have a3:=a3.mv a8
 have a6:=a6.mv a8
 refine AH (AD (AI (AC kR (AA (BW U23_ rfl rfl a2 fun c8 b3=>(?_))))))
 have:=b3.len_le
 refine AA (CB U23_ rfl b3 (AA (CZ (first:=[]) (captured:=[.tmp 2, .tmp 6]) [] [vP (some polys_a),vP (some b0)] rfl rfl (AA (BD (vs:=[vI (secret.length:Int),vN (.func 50) #[] #[vP (some polys_a),vP (some b0)]]) NO (KO (O:=(b4 :: [])++O) (secret.length:Int) 50 [vP (some polys_a),vP (some b0)] (fun i_=>EB polys[i_]! (GN ((k:Int)+1))) b8 enter_50 (fun w'_ O'_ kk_ hs_ hl_ i_  hc_=>c_split21 (O:=O'_) i_ polys_a polys b0 (k:Int) w'_ (a4.on hs_ kk_) (a6.on hs_ kk_) oM oM oM hl_) oM b5.lt) rfl b5 fun a5 c9 c0 b1 c1 c2=>(?_))))))
 obtain ⟨_,rfl,a7⟩:=c2
 have:=a7.len_le
 have a1:=a1.mv b1
 have a0:=a0.mv b1
 have a3:=a3.mv b1
 have a6:=a6.mv b1
 have b2:=b2.keep c1 (by simp)
 refine AA (AF (a5) rfl (AH (AD (AI (AC kR (AA (CA U3_ rfl rfl a1 (AA (CA U3_ rfl rfl a6 (AA (DE .i64 (k:Int) (1:Int) ((k:Int)+(1:Int)) rfl rfl (GR oM oM) (AA (CA U3_ rfl rfl a0 (AA (CA U3_ rfl rfl a3 (AA (AG (a5) rfl (AA (EC (l:=[(0, .tmp 13),(1, .tmp 15),(2, .tmp 16),(3, .tmp 17),(4, .tmp 18)]) pl_70 MO rfl [(0,vI epoch,[vI epoch]),(1,vI ((k:Int)+(1:Int)),[vI ((k:Int)+(1:Int))]),(2,vI threshold,[vI threshold]),(3,vI many,[vI many]),(4,a5,[a5])] [vI epoch,vI ((k:Int)+(1:Int)),vI threshold,vI many,a5] rfl ⟨_,rfl,rfl,oT,⟨_,rfl,rfl,oT,⟨_,rfl,rfl,oT,⟨_,rfl,rfl,oT,⟨_,rfl,(FD a7.oneCell),oT,rfl⟩⟩⟩⟩⟩ (BX (BG (vs:=[vI epoch,vI ((k:Int)+(1:Int)),vI threshold,vI many,a5]) (.agg #[vI epoch,vI ((k:Int)+(1:Int)),vI threshold,vI many,a5]) rfl rfl rfl DC (fun u hu=>by simp only [List.mem_cons,List.not_mem_nil,or_false] at hu;rcases hu with rfl|rfl|rfl|rfl|rfl <;> first|rfl|exact a7.oneCell) (by repeat (constructor)) b2 oT c0 fun d0 c3 c4 d1 b6=>(?_))))))))))))))))))))))
 have a7:=a7.mv c4
 refine AH (AD (AQ (AX rfl (rescA (vs:=[vI epoch,vI ((k:Int)+(1:Int)),vI threshold,vI many,a5]) rfl rfl U70_ rfl DC rfl b6 rfl) (?_))))
 have e:(EM secret polys epoch threshold many k)=(⟨epoch,(k:Int)+(1:Int),threshold,many,(List.range ((secret.length:Int)).toNat).map (fun i_=>EB polys[i_]! (GN ((k:Int)+1)))⟩:Share):=rfl
 exact ⟨_,rfl,c3.keep,by rw [e];exact ⟨[vI epoch,vI ((k:Int)+(1:Int)),vI threshold,vI many,a5],rfl,Enc.out (B:=(b4 :: [])) ⟨_,rfl,a7⟩⟩⟩
set_option maxHeartbeats 4000000 in
set_option maxRecDepth 100000 in
theorem c_split {O:List Nat} (secret_v:Value) (secret:List UInt8) (epoch:Int) (threshold:Int) (many:Int) (coins_v:Value) (coins:List UInt8) (w:World) (a6:AZ Enc.u8 w O secret_v secret) (a3:AZ Enc.u8 w O coins_v coins) (hO:∀ b∈O,b<w.heap.size):CD Try.prog 16 [secret_v,vI epoch,vI threshold,vI many,coins_v] w (fun v w'=>∃ (x0:Value),v = .tuple #[x0,vI ((BL secret epoch threshold many coins).2)]∧AZ Enc.share w' (O) x0 ((BL secret epoch threshold many coins).1)):= by
 have e0:=a6.len_le
 have a6:AZ Enc.u8 w ([]++O) secret_v secret:=a6
 have f7:=a3.len_le
 have a3:AZ Enc.u8 w ([]++O) coins_v coins:=a3
 have s0:St w O w []:=St.start hO
 refine BK 53 Try.func16 rfl rfl oT (fun F0=>AI (AC kR (AA (DK (E:=(Enc.slice Enc.u8)) (secret_v) ([secret_v]) secret rfl (FD a6.oneCell) ⟨_,rfl,a6⟩ s0 fun a8 h3 e1 e2 h4 a0=>(?_)))))
 have a3:=a3.mv e2
 refine AA (DK (E:=Enc.int) (vI epoch) ([vI epoch]) epoch rfl rfl rfl e1 fun b2 h5 e3 d5 h6 a1=>(?_))
 have a3:=a3.mv d5
 have a0:=a0.mv d5
 refine AA (DK (E:=Enc.int) (vI threshold) ([vI threshold]) threshold rfl rfl rfl e3 fun a9 h7 e4 c5 h8 a2=>(?_))
 have a3:=a3.mv c5
 have a0:=a0.mv c5
 have a1:=a1.mv c5
 refine AA (DK (E:=Enc.int) (vI many) ([vI many]) many rfl rfl rfl e4 fun b3 h9 e5 b4 i0 a4=>(?_))
 have a3:=a3.mv b4
 have a0:=a0.mv b4
 have a1:=a1.mv b4
 have a2:=a2.mv b4
 refine AA (DK (E:=(Enc.slice Enc.u8)) (coins_v) ([coins_v]) coins rfl (FD a3.oneCell) ⟨_,rfl,a3⟩ e5 fun b5 e6 a5 b6 i1 c6=>(?_))
 have a0:=a0.mv b6
 have a1:=a1.mv b6
 have a2:=a2.mv b6
 have a4:=a4.mv b6
 refine AA (AF (nS) rfl (AA (AF (vI 0) rfl (AH (AD (AI (BO (AI (AC kR (AA (BW U23_ rfl rfl a0 fun i2 c7=>(?_))))))))))))
 have:=c7.len_le
 refine AA (CB U23_ rfl c7 (AA (HI .i64 (secret.length:Int) (64:Int) rfl rfl (AA (AF (vO (decide ((64:Int)<(secret.length:Int)))) rfl (AH (AD (AN (decide ((64:Int)<(secret.length:Int))) rfl rfl (fun c1=>?_) (fun c1=>?_)))))))))
 ·have f8:(64:Int)<(secret.length:Int):=by simpa using c1
  refine AI (AC kR (AA (AF (nS) rfl (AA (AF (vI 1) rfl (AH (AD (AQ (BY (AR (AX rfl (FG rfl rfl rfl rfl) (?_))))))))))))
  have e:(BL secret epoch threshold many coins)=([],(1:Int)):=by exact GV (by unfold DQ;((repeat ((refine (if_pos ?_).trans ?_;omega)));rfl)) (by decide)
  exact ⟨_,rfl,a5.keep,by rw [e];exact ⟨.slice none 0 0,rfl,AZ.nil _ _ _⟩⟩
 have f9:(secret.length:Int)≤(64:Int):=by simpa using c1
 refine AI (AC kR (AA (CA U3_ rfl rfl a2 (AA (DY .i64 threshold (1:Int) rfl rfl (AA (AG (vO (decide (threshold<(1:Int)))) rfl (?_))))))))
 cases c8:(decide (threshold<(1:Int)))
 ·have g0:(1:Int)≤threshold:=by simpa using c8
  refine AY rfl (CA U3_ rfl rfl a2 (AY rfl (CA U3_ rfl rfl a4 (AY rfl (HI .i64 threshold many rfl rfl (AA (BR (vO (decide (many<threshold))) rfl rfl (AA (AG (vO (decide (many<threshold))) rfl (?_))))))))))
  cases c9:(decide (many<threshold))
  ·have g1:threshold≤many:=by simpa using c9
   refine AY rfl (CA U3_ rfl rfl a4 (AY rfl (HI .i64 many (8:Int) rfl rfl (AA (BR (vO (decide ((8:Int)<many))) rfl rfl (AA (AF (vO (decide ((8:Int)<many))) rfl (AH (AD (AN (decide ((8:Int)<many)) rfl rfl (fun c2=>?_) (fun c2=>?_)))))))))))
   ·have g2:(8:Int)<many:=by simpa using c2
    refine AI (AC kR (AA (AF (nS) rfl (AA (AF (vI 80) rfl (AH (AD (AQ (BY (AR (AX rfl (FG rfl rfl rfl rfl) (?_))))))))))))
    have e:(BL secret epoch threshold many coins)=([],(80:Int)):=by exact GV (by unfold DQ;((repeat (first|(refine (if_pos ?_).trans ?_;omega)|(refine (if_neg ?_).trans ?_;omega)));rfl)) (by decide)
    exact ⟨_,rfl,a5.keep,by rw [e];exact ⟨.slice none 0 0,rfl,AZ.nil _ _ _⟩⟩
   have g3:many≤(8:Int):=by simpa using c2
   refine AI (AC kR (AA (CA U3_ rfl rfl a1 (AA (DY .i64 epoch (0:Int) rfl rfl (AA (AG (vO (decide (epoch<(0:Int)))) rfl (?_))))))))
   cases d0:(decide (epoch<(0:Int)))
   ·have g4:(0:Int)≤epoch:=by simpa using d0
    refine AY rfl (CA U3_ rfl rfl a1 (AY rfl (HI .i64 epoch (1048576:Int) rfl rfl (AA (BR (vO (decide ((1048576:Int)<epoch))) rfl rfl (AA (AF (vO (decide ((1048576:Int)<epoch))) rfl (AH (AD (AN (decide ((1048576:Int)<epoch)) rfl rfl (fun c3=>?_) (fun c3=>?_)))))))))))
    ·have g5:(1048576:Int)<epoch:=by simpa using c3
     refine AI (AC kR (AA (AF (nS) rfl (AA (AF (vI 81) rfl (AH (AD (AQ (BY (AR (AX rfl (FG rfl rfl rfl rfl) (?_))))))))))))
     have e:(BL secret epoch threshold many coins)=([],(81:Int)):=by exact GV (by unfold DQ;((repeat (first|(refine (if_pos ?_).trans ?_;omega)|(refine (if_neg ?_).trans ?_;omega)));rfl)) (by decide)
     exact ⟨_,rfl,a5.keep,by rw [e];exact ⟨.slice none 0 0,rfl,AZ.nil _ _ _⟩⟩
    have g6:epoch≤(1048576:Int):=by simpa using c3
    refine AI (AC kR (AA (BW U23_ rfl rfl c6 fun i3 d1=>(?_))))
    have:=d1.len_le
    refine AA (CB U23_ rfl d1 (AA (BW U23_ rfl rfl a0 fun i4 d2=>(?_))))
    have:=d2.len_le
    refine AA (CB U23_ rfl d2 (AA (CA U3_ rfl rfl a2 (AA (JM .i64 threshold (1:Int) (threshold - (1:Int)) rfl rfl (GR oM oM) (AA (o_mul .i64 (secret.length:Int) (threshold - (1:Int)) ((secret.length:Int)*(threshold - (1:Int))) rfl rfl (GR (mulb oM oM oM oM) rfl) (AA (CS .i64 (coins.length:Int) ((secret.length:Int)*(threshold - (1:Int))) rfl rfl (AA (AF (vO ((coins.length:Int) != ((secret.length:Int)*(threshold - (1:Int))))) rfl (AH (AD (AN ((coins.length:Int) != ((secret.length:Int)*(threshold - (1:Int)))) rfl rfl (fun c4=>?_) (fun c4=>?_)))))))))))))))
    ·have g7:(coins.length:Int)≠(secret.length:Int)*(threshold - (1:Int)):=by simpa using c4
     refine AI (AC kR (AA (AF (nS) rfl (AA (AF (vI 1) rfl (AH (AD (AQ (BY (AR (AX rfl (FG rfl rfl rfl rfl) (?_))))))))))))
     have e:(BL secret epoch threshold many coins)=([],(1:Int)):=by exact GV (by unfold DQ;((repeat (first|(refine (if_pos ?_).trans ?_;omega)|(refine (if_neg ?_).trans ?_;omega)));rfl)) (by decide)
     exact ⟨_,rfl,a5.keep,by rw [e];exact ⟨.slice none 0 0,rfl,AZ.nil _ _ _⟩⟩
    have g8:(coins.length:Int)=(secret.length:Int)*(threshold - (1:Int)):=by simpa using c4
    refine AW (CI (AD (AI (AC kR (AA (BW U23_ rfl rfl a0 fun i5 d3=>(?_)))))))
    have:=d3.len_le
    refine AA (CB U23_ rfl d3 (AA (CZ (first:=[]) (captured:=[.tmp 5, .tmp 9, .tmp 7]) [] [vP (some a8),vP (some b5),vP (some a9)] rfl rfl (AA (BD (vs:=[vI (secret.length:Int),vN (.func 45) #[] #[vP (some a8),vP (some b5),vP (some a9)]]) enter_44 (c_collectL (O:=[]++O) (secret.length:Int) 45 [vP (some a8),vP (some b5),vP (some a9)] (fun i_=>LP secret coins threshold i_) e6 enter_45 (fun w'_ O'_ kk_ hs_ hl_ i_  hc_=>c_split1 (O:=O'_) i_ a8 secret b5 coins a9 threshold w'_ (a0.on hs_ kk_) (c6.on hs_ kk_) (a2.on hs_ kk_) oM oM oM oM oM hl_) oM a5.lt) rfl a5 fun e7 i6 e8 b7 i7 e9=>(?_))))))
    obtain ⟨_,rfl,a7⟩:=e9
    have:=a7.len_le
    have a0:=a0.mv b7
    have a1:=a1.mv b7
    have a2:=a2.mv b7
    have a4:=a4.mv b7
    refine AA (CU [nS] z_83 rfl e8 fun b8 i8 f0 f1 b0 i9 d7=>(?_))
    clear f0
    have a0:=a0.mv b0
    have a1:=a1.mv b0
    have a2:=a2.mv b0
    have a4:=a4.mv b0
    have a7:=a7.mv b0
    refine BX (CJ (e7) rfl rfl a7.oneCell s_83 (by repeat (constructor)) d7 oT f1 fun f2 f3 b1 j0 d8=>(?_))
    have a0:=a0.mv b1
    have a1:=a1.mv b1
    have a2:=a2.mv b1
    have a4:=a4.mv b1
    have a7:=a7.mv b1
    refine AH (AD (AI (AC kR (AA (CA U3_ rfl rfl a4 (?_))))))
    obtain ⟨f4,d6,b9,d9,g9⟩:=d8.publish (E:=(Enc.slice (Enc.slice Enc.u8))) (u:=(List.range ((secret.length:Int)).toNat).map (fun i_=>LP secret coins threshold i_)) ⟨_,rfl,a7⟩ f3 (by repeat (constructor))
    have a0:=a0.mv b9
    have a1:=a1.mv b9
    have a2:=a2.mv b9
    have a4:=a4.mv b9
    refine AA (CZ (first:=[]) (captured:=[.tmp 5, .tmp 12, .tmp 6, .tmp 7, .tmp 8]) [] [vP (some a8),vP (some ⟨b8,0,none⟩),vP (some b2),vP (some a9),vP (some b3)] rfl rfl (AA (BD (vs:=[vI many,vN (.func 48) #[] #[vP (some a8),vP (some ⟨b8,0,none⟩),vP (some b2),vP (some a9),vP (some b3)]]) SW (PG (O:=f4++O) many 48 [vP (some a8),vP (some ⟨b8,0,none⟩),vP (some b2),vP (some a9),vP (some b3)] (fun i_=>EM secret ((List.range ((secret.length:Int)).toNat).map (fun i_=>LP secret coins threshold i_)) epoch threshold many i_) f2 enter_48 (fun w'_ O'_ kk_ hs_ hl_ i_  hc_=>c_split2 (O:=O'_) i_ a8 secret (⟨b8,0,none⟩) ((List.range ((secret.length:Int)).toNat).map (fun i_=>LP secret coins threshold i_)) b2 epoch a9 threshold b3 many w'_ (a0.on hs_ kk_) (d9.on hs_ kk_) (a1.on hs_ kk_) (a2.on hs_ kk_) (a4.on hs_ kk_) (by simp) oM oM oM hl_) oM d6.lt) rfl d6 fun c0 j1 f5 j2 j3 f6=>(?_))))
    obtain ⟨_,rfl,d4⟩:=f6
    have:=d4.len_le
    refine AA (AF (c0) rfl (AH (AD (AI (AC kR (AA (AG (c0) rfl (AA (AF (c0) rfl (AA (AF (vI 0) rfl (AH (AD (AQ (AX rfl (FG rfl rfl rfl rfl) (?_))))))))))))))))
    have e:(BL secret epoch threshold many coins)=((List.range (many).toNat).map (fun i_=>EM secret ((List.range ((secret.length:Int)).toNat).map (fun i_=>LP secret coins threshold i_)) epoch threshold many i_),(0:Int)):=by exact splitM_ok (by unfold DQ;((repeat ((refine (if_neg ?_).trans ?_;omega)));rfl)) rfl
    exact ⟨_,rfl,f5.keep,by rw [e];exact ⟨c0,rfl,d4.out⟩⟩
   have h0:epoch<(0:Int):=by simpa using d0
   refine AO rfl (AO rfl (AA (BA (vO true) rfl rfl (AA (AF (vO true) rfl (AH (AD (AN true rfl rfl (fun _=>AI (AC kR (AA (AF (nS) rfl (AA (AF (vI 81) rfl (AH (AD (AQ (BY (AR (AX rfl (FG rfl rfl rfl rfl) (?_))))))))))))) (fun h=>by cases h)))))))))
   have e:(BL secret epoch threshold many coins)=([],(81:Int)):=by exact GV (by unfold DQ;((repeat (first|(refine (if_pos ?_).trans ?_;omega)|(refine (if_neg ?_).trans ?_;omega)));rfl)) (by decide)
   exact ⟨_,rfl,a5.keep,by rw [e];exact ⟨.slice none 0 0,rfl,AZ.nil _ _ _⟩⟩
  have h1:many<threshold:=by simpa using c9
  refine AO rfl (AO rfl (AA (BA (vO true) rfl rfl (AA (AF (vO true) rfl (AH (AD (AN true rfl rfl (fun _=>AI (AC kR (AA (AF (nS) rfl (AA (AF (vI 80) rfl (AH (AD (AQ (BY (AR (AX rfl (FG rfl rfl rfl rfl) (?_))))))))))))) (fun h=>by cases h)))))))))
  have e:(BL secret epoch threshold many coins)=([],(80:Int)):=by exact GV (by unfold DQ;((repeat (first|(refine (if_pos ?_).trans ?_;omega)|(refine (if_neg ?_).trans ?_;omega)));rfl)) (by decide)
  exact ⟨_,rfl,a5.keep,by rw [e];exact ⟨.slice none 0 0,rfl,AZ.nil _ _ _⟩⟩
 have h2:threshold<(1:Int):=by simpa using c8
 refine AO rfl (AO rfl (AO rfl (AA (BA (vO true) rfl rfl (AA (AG (vO true) rfl (AO rfl (AO rfl (AA (BA (vO true) rfl rfl (AA (AF (vO true) rfl (AH (AD (AN true rfl rfl (fun _=>AI (AC kR (AA (AF (nS) rfl (AA (AF (vI 80) rfl (AH (AD (AQ (BY (AR (AX rfl (FG rfl rfl rfl rfl) (?_))))))))))))) (fun h=>by cases h))))))))))))))))
 have e:(BL secret epoch threshold many coins)=([],(80:Int)):=by exact GV (by unfold DQ;((repeat (first|(refine (if_pos ?_).trans ?_;omega)|(refine (if_neg ?_).trans ?_;omega)));rfl)) (by decide)
 exact ⟨_,rfl,a5.keep,by rw [e];exact ⟨.slice none 0 0,rfl,AZ.nil _ _ _⟩⟩
open Go.Fw Go.RowKit
set_option maxHeartbeats 4000000 in
set_option maxRecDepth 100000 in
theorem c_indices1 {O:List Nat} (i:Nat) (l_a:Addr) (l:(List Share)) (w:World) (a1:PT (Enc.slice Enc.share) w O (.pointer (some l_a)) l) (hpre0:i<l.length) (hO:∀ b∈O,b<w.heap.size):CD Try.prog 89 [vI (i:Int), .pointer (some l_a)] w (fun v _=>v=vB (GN l[i]!.index)):= by
 have a1:PT (Enc.slice Enc.share) w ([]++O) (.pointer (some l_a)) l:=a1
 have s0:St w O w []:=St.start hO
 refine BK 10 Try.func89 rfl rfl oT (fun F0=>AI (AC kR (AA (AF (vB (0:UInt8)) rfl (AH (AD (AI (AC kR (AA (BW U32_ rfl rfl a1 fun a4 a0=>(?_)))))))))))
 have:=a0.len_le
 refine AA (AG (vI (i:Int)) rfl (AA (DF U32_ DC .i64 (i:Int) i rfl rfl rfl a0 oM fun a5 a2=>(AA (BI 1 OB ((l[i]!).index) rfl a2 (fun _ _ _ h=>IO h) fun a6 a3=>(AA (CA U3_ rfl rfl a3 (AA (o_u8of .i64 U3_ U5_ ((l[i]!).index) rfl (AA (AF (vB (GN ((l[i]!).index))) rfl (AH (AD (AQ (AX rfl (CK rfl rfl rfl) (?_))))))))))))))))
 have e:(GN l[i]!.index)=(GN ((l[i]!).index)):=rfl
 exact ⟨_,rfl,s0.keep,by rw [e];exact rfl⟩
set_option maxHeartbeats 4000000 in
set_option maxRecDepth 100000 in
theorem VQ {O:List Nat} (l_v:Value) (l:List Share) (w:World) (a1:AZ Enc.share w O l_v l) (hpre0:l.length≤1000000) (hO:∀ b∈O,b<w.heap.size):CD Try.prog 41 [l_v] w (fun v w'=>∃ (x0:Value),v=x0∧AZ Enc.u8 w' (O) x0 (NE l)):= by
 have b0:=a1.len_le
 have a1:AZ Enc.share w ([]++O) l_v l:=a1
 have s0:St w O w []:=St.start hO
 refine BK 7 Try.func41 rfl rfl oT (fun F0=>AI (AC kR (AA (DK (E:=(Enc.slice Enc.share)) (l_v) ([l_v]) l rfl (FD a1.oneCell) ⟨_,rfl,a1⟩ s0 fun a0 a7 a5 b1 b2 a2=>(AA (AF (nS) rfl (AH (AD (AI (AC kR (AA (BW U32_ rfl rfl a2 fun b3 a3=>(?_)))))))))))))
 have:=a3.len_le
 refine AA (CB U32_ rfl a3 (AA (CZ (first:=[]) (captured:=[.tmp 1]) [] [vP (some a0)] rfl rfl (AA (BD (vs:=[vI (l.length:Int),vN (.func 89) #[] #[vP (some a0)]]) NO (KO (O:=[]++O) (l.length:Int) 89 [vP (some a0)] (fun i_=>GN l[i_]!.index) a7 enter_89 (fun w'_ O'_ kk_ hs_ hl_ i_  hc_=>c_indices1 (O:=O'_) i_ a0 l w'_ (a2.on hs_ kk_) oM hl_) oM a5.lt) rfl a5 fun a6 b4 a8 b5 b6 a9=>(?_))))))
 obtain ⟨_,rfl,a4⟩:=a9
 have:=a4.len_le
 refine AA (AF (a6) rfl (AH (AD (AQ (AX rfl (CK rfl rfl rfl) (?_))))))
 have e:(NE l)=((List.range ((l.length:Int)).toNat).map (fun i_=>GN l[i_]!.index)):=rfl
 exact ⟨_,rfl,a8.keep,by rw [e];exact ⟨a6,rfl,a4.out⟩⟩
set_option maxHeartbeats 4000000 in
set_option maxRecDepth 100000 in
theorem c_column1 {O:List Nat} (i:Nat) (l_a:Addr) (l:(List Share)) (place_a:Addr) (place:Int) (w:World) (a3:PT (Enc.slice Enc.share) w O (.pointer (some l_a)) l) (a0:PT Enc.int w O (.pointer (some place_a)) place) (hpre0:i<l.length) (hpre1:0≤place) (hpre2:(place).toNat<l[i]!.data.length) (hO:∀ b∈O,b<w.heap.size):CD Try.prog 90 [vI (i:Int), .pointer (some l_a), .pointer (some place_a)] w (fun v _=>v=vB (l[i]!.data[(place).toNat]!)):= by
 have a3:PT (Enc.slice Enc.share) w ([]++O) (.pointer (some l_a)) l:=a3
 have a0:PT Enc.int w ([]++O) (.pointer (some place_a)) place:=a0
 have s0:St w O w []:=St.start hO
 refine BK 13 Try.func90 rfl rfl oT (fun F0=>AI (AC kR (AA (AF (vB (0:UInt8)) rfl (AH (AD (AI (cw_draw' 6 _ _ [fun (vT:Value) (wT:World)=>AZ Enc.share wT ([]++O) vT (l),DB (vI (i:Int)),fun (vT:Value) (wT:World)=>∃ aT,vT = .pointer (some aT)∧PT Enc.share wT ([]++O) (.pointer (some aT)) (l[i]!),fun (vT:Value) (wT:World)=>∃ aT,vT = .pointer (some aT)∧PT (Enc.slice Enc.u8) wT ([]++O) (.pointer (some aT)) ((l[i]!).data),fun (vT:Value) (wT:World)=>AZ Enc.u8 wT ([]++O) vT ((l[i]!).data),DB (vI place)] kR kR kR kR rfl rfl ⟨fun _ _ _ h k=>h.mv (Mv.of_keep k),kI,fun _ _ _ ⟨a,e,h⟩ k=>⟨a,e,h.mv (Mv.of_keep k)⟩,fun _ _ _ ⟨a,e,h⟩ k=>⟨a,e,h.mv (Mv.of_keep k)⟩,fun _ _ _ h k=>h.mv (Mv.of_keep k),kI,trivial⟩ ⟨?_,?_,?_,?_,?_,?_,trivial⟩ ?_))))))))
 ·intro F1 w1 k1 hf hd
  have k0:=(Keep.drew [] w).trans k1
  have m1:Mv ([]) w ([]) w1:=Mv.of_keep k0
  have a3:=a3.mv m1
  obtain ⟨F2,rfl⟩:=AM (F:=F1) [(1,vP (some l_a))] ⟨hf 1 kR,trivial⟩
  refine AK rfl ((BW U32_ rfl rfl a3 fun c7 a4=>(?_)))
  have:=a4.len_le
  exact ⟨(Keep.refl _ _),a4⟩
 ·intro F1 w1 k1 hf hd
  obtain ⟨F2,rfl⟩:=AM (F:=F1) [(0,vI (i:Int))] ⟨hf 0 kR,trivial⟩
  exact AK rfl ((AG (vI (i:Int)) rfl (⟨(Keep.refl _ _),rfl⟩)))
 ·intro F1 w1 k1 hf hd
  obtain ⟨b4,b5,a5⟩:∃ v,F1 5=v∧AZ Enc.share w1 ([]++O) v (l):=⟨_,rfl,hd 0 5 kR⟩
  have:=a5.len_le
  obtain ⟨F2,rfl⟩:=AM (F:=F1) [(5,b4),(6,vI (i:Int))] ⟨b5,hd 1 6 kR,trivial⟩
  exact AK rfl ((DF U32_ DC .i64 (i:Int) i rfl rfl rfl a5 oM fun b6 a9=>(⟨(Keep.refl _ _),⟨b6,rfl,a9⟩⟩)))
 ·intro F1 w1 k1 hf hd
  obtain ⟨b7,b8,b0⟩:∃ aX_,F1 7 = .pointer (some aX_)∧PT Enc.share w1 ([]++O) (.pointer (some aX_)) (l[i]!):=hd 2 7 kR
  obtain ⟨F2,rfl⟩:=AM (F:=F1) [(7,vP (some b7))] ⟨b8,trivial⟩
  exact AK rfl ((BI 4 FV ((l[i]!).data) rfl b0 (fun _ _ _ h=>EO h) fun b9 b1=>(⟨(Keep.refl _ _),⟨b9,rfl,b1⟩⟩)))
 ·intro F1 w1 k1 hf hd
  obtain ⟨c0,c1,b2⟩:∃ aX_,F1 8 = .pointer (some aX_)∧PT (Enc.slice Enc.u8) w1 ([]++O) (.pointer (some aX_)) ((l[i]!).data):=hd 3 8 kR
  obtain ⟨F2,rfl⟩:=AM (F:=F1) [(8,vP (some c0))] ⟨c1,trivial⟩
  refine AK rfl ((BW U23_ rfl rfl b2 fun c8 a6=>(?_)))
  have:=a6.len_le
  exact ⟨(Keep.refl _ _),a6⟩
 ·intro F1 w1 k1 hf hd
  have k0:=(Keep.drew [] w).trans k1
  have m1:Mv ([]) w ([]) w1:=Mv.of_keep k0
  have a0:=a0.mv m1
  obtain ⟨F2,rfl⟩:=AM (F:=F1) [(2,vP (some place_a))] ⟨hf 2 kR,trivial⟩
  exact AK rfl ((CA U3_ rfl rfl a0 (⟨(Keep.refl _ _),rfl⟩)))
 intro a8 c2 c3 a1 a2
 have c4:=s0.call c3
 obtain ⟨c5,c6,a7⟩:∃ v,a8 9=v∧AZ Enc.u8 c2 ([]++O) v ((l[i]!).data):=⟨_,rfl,a1 4 9 kR (by decide)⟩
 have:=a7.len_le
 obtain ⟨F2,rfl⟩:=AM (F:=a8) [(4,vB (0:UInt8)),(13,undef),(9,c5),(10,vI place)] ⟨a2 4 kR,a2 13 kR,c6,a1 5 10 kR (by decide),trivial⟩
 clear a1 a2
 refine AA (DF U23_ IR .i64 place place.toNat rfl rfl oM a7 oM fun c9 b3=>(AA (HM U5_ rfl rfl b3 (AA (AF (vB (((l[i]!).data)[place.toNat]!)) rfl (AH (AD (AQ (AX rfl (CK rfl rfl rfl) (?_))))))))))
 have e:(l[i]!.data[(place).toNat]!)=(((l[i]!).data)[place.toNat]!):=rfl
 exact ⟨_,rfl,c4.keep,by rw [e];exact rfl⟩
set_option maxHeartbeats 4000000 in
set_option maxRecDepth 100000 in
theorem c_column {O:List Nat} (l_v:Value) (l:List Share) (place:Nat) (w:World) (a3:AZ Enc.share w O l_v l) (hpre0:l.length≤1000000) (hpre1:∀ k,k<l.length→place<l[k]!.data.length) (hO:∀ b∈O,b<w.heap.size):CD Try.prog 42 [l_v,vI (place:Int)] w (fun v w'=>∃ (x0:Value),v=x0∧AZ Enc.u8 w' (O) x0 (ET l place)):= by
 have b4:=a3.len_le
 have a3:AZ Enc.share w ([]++O) l_v l:=a3
 have s0:St w O w []:=St.start hO
 refine BK 9 Try.func42 rfl rfl oT (fun F0=>AI (AC kR (AA (DK (E:=(Enc.slice Enc.share)) (l_v) ([l_v]) l rfl (FD a3.oneCell) ⟨_,rfl,a3⟩ s0 fun a1 b5 a9 b6 b7 a0=>(AA (DK (E:=Enc.int) (vI (place:Int)) ([vI (place:Int)]) (place:Int) rfl rfl rfl a9 fun a2 b0 a6 b1 b8 a8=>(?_)))))))
 have a0:=a0.mv b1
 refine AA (AF (nS) rfl (AH (AD (AI (AC kR (AA (BW U32_ rfl rfl a0 fun b9 a4=>(?_))))))))
 have:=a4.len_le
 refine AA (CB U32_ rfl a4 (AA (CZ (first:=[]) (captured:=[.tmp 2, .tmp 3]) [] [vP (some a1),vP (some a2)] rfl rfl (AA (BD (vs:=[vI (l.length:Int),vN (.func 90) #[] #[vP (some a1),vP (some a2)]]) NO (KO (O:=[]++O) (l.length:Int) 90 [vP (some a1),vP (some a2)] (fun i_=>l[i_]!.data[((place:Int)).toNat]!) b0 enter_90 (fun w'_ O'_ kk_ hs_ hl_ i_  hc_=>c_column1 (O:=O'_) i_ a1 l a2 (place:Int) w'_ (a0.on hs_ kk_) (a8.on hs_ kk_) oM oM (hpre1 i_ oM) hl_) oM a6.lt) rfl a6 fun a7 c0 b2 c1 c2 b3=>(?_))))))
 obtain ⟨_,rfl,a5⟩:=b3
 have:=a5.len_le
 refine AA (AF (a7) rfl (AH (AD (AQ (AX rfl (CK rfl rfl rfl) (?_))))))
 have e:(ET l place)=((List.range ((l.length:Int)).toNat).map (fun i_=>l[i_]!.data[((place:Int)).toNat]!)):=rfl
 exact ⟨_,rfl,b2.keep,by rw [e];exact ⟨a7,rfl,a5.out⟩⟩
set_option maxHeartbeats 4000000 in
set_option maxRecDepth 100000 in
theorem c_join1 {O:List Nat} (p:Nat) (xs_a:Addr) (xs:(List UInt8)) (l_a:Addr) (l:(List Share)) (w:World) (a0:PT (Enc.slice Enc.u8) w O (.pointer (some xs_a)) xs) (a5:PT (Enc.slice Enc.share) w O (.pointer (some l_a)) l) (hpre0:l.length≤1000) (hpre1:xs.length<1000) (hpre2:∀ k,k<l.length→p<l[k]!.data.length) (hO:∀ b∈O,b<w.heap.size):CD Try.prog 62 [vI (p:Int), .pointer (some xs_a), .pointer (some l_a)] w (fun v _=>v=vB ((CX xs (ET l p) 0).1)):= by
 have a0:PT (Enc.slice Enc.u8) w ([]++O) (.pointer (some xs_a)) xs:=a0
 have a5:PT (Enc.slice Enc.share) w ([]++O) (.pointer (some l_a)) l:=a5
 have s0:St w O w []:=St.start hO
 refine BK 16 Try.func62 rfl rfl oT (fun F0=>AI (AC kR (AA (AF (vB (0:UInt8)) rfl (AH (AD (AI (cw_draw' 9 _ _ [fun (vT:Value) (wT:World)=>AZ Enc.u8 wT ([]++O) vT (xs),fun (vT:Value) (wT:World)=>AZ Enc.share wT ([]++O) vT (l),DB (vI (p:Int)),fun (vT:Value) (wT:World)=>AZ Enc.u8 wT ([]++O) vT (ET l p),DB (vT #[vB ((CX xs (ET l p) (0:UInt8)).1),vI ((CX xs (ET l p) (0:UInt8)).2)]),DB (vT #[vB ((CX xs (ET l p) (0:UInt8)).1),vI ((CX xs (ET l p) (0:UInt8)).2)]),DB (vB ((CX xs (ET l p) (0:UInt8)).1)),DB (vI ((CX xs (ET l p) (0:UInt8)).2)),DB (vB ((CX xs (ET l p) (0:UInt8)).1))] kR kR kR kR rfl rfl ⟨fun _ _ _ h k=>h.mv (Mv.of_keep k),fun _ _ _ h k=>h.mv (Mv.of_keep k),kI,fun _ _ _ h k=>h.mv (Mv.of_keep k),kI,kI,kI,kI,kI,trivial⟩ ⟨?_,?_,?_,?_,?_,?_,?_,?_,?_,trivial⟩ ?_))))))))
 ·intro F1 w1 k1 hf hd
  have k0:=(Keep.drew [] w).trans k1
  have m1:Mv ([]) w ([]) w1:=Mv.of_keep k0
  have a0:=a0.mv m1
  obtain ⟨F2,rfl⟩:=AM (F:=F1) [(1,vP (some xs_a))] ⟨hf 1 kR,trivial⟩
  refine AK rfl ((BW U23_ rfl rfl a0 fun c3 a6=>(?_)))
  have:=a6.len_le
  exact ⟨(Keep.refl _ _),a6⟩
 ·intro F1 w1 k1 hf hd
  have k0:=(Keep.drew [] w).trans k1
  have m1:Mv ([]) w ([]) w1:=Mv.of_keep k0
  have a5:=a5.mv m1
  obtain ⟨F2,rfl⟩:=AM (F:=F1) [(2,vP (some l_a))] ⟨hf 2 kR,trivial⟩
  refine AK rfl ((BW U32_ rfl rfl a5 fun c4 a7=>(?_)))
  have:=a7.len_le
  exact ⟨(Keep.refl _ _),a7⟩
 ·intro F1 w1 k1 hf hd
  obtain ⟨F2,rfl⟩:=AM (F:=F1) [(0,vI (p:Int))] ⟨hf 0 kR,trivial⟩
  exact AK rfl ((AG (vI (p:Int)) rfl (⟨(Keep.refl _ _),rfl⟩)))
 ·intro F1 w1 k1 hf hd
  have k0:=(Keep.drew [] w).trans k1
  have s1:=s0.call k0
  obtain ⟨a2,b3,a8⟩:∃ v,F1 9=v∧AZ Enc.share w1 ([]++O) v (l):=⟨_,rfl,hd 1 9 kR⟩
  have:=a8.len_le
  obtain ⟨F2,rfl⟩:=AM (F:=F1) [(9,a2),(10,vI (p:Int))] ⟨b3,hd 2 10 kR,trivial⟩
  refine AK rfl ((BD (vs:=[a2,vI (p:Int)]) enter_42 (c_column (O:=[]++O) a2 l p w1 a8 oM hpre2 s1.lt) rfl s1 fun c5 c6 c7 c8 b4 b5=>(?_)))
  obtain ⟨_,rfl,a9⟩:=b5
  have:=a9.len_le
  exact ⟨b4,a9⟩
 ·intro F1 w1 k1 hf hd
  have k0:=(Keep.drew [] w).trans k1
  have s1:=s0.call k0
  obtain ⟨a3,b6,b0⟩:∃ v,F1 8=v∧AZ Enc.u8 w1 ([]++O) v (xs):=⟨_,rfl,hd 0 8 kR⟩
  have:=b0.len_le
  obtain ⟨a4,b7,b1⟩:∃ v,F1 11=v∧AZ Enc.u8 w1 ([]++O) v (ET l p):=⟨_,rfl,hd 3 11 kR⟩
  have:=b1.len_le
  obtain ⟨F2,rfl⟩:=AM (F:=F1) [(8,a3),(11,a4)] ⟨b6,b7,trivial⟩
  refine AK rfl ((BD (vs:=[a3,a4,vB (0:UInt8)]) enter_63 (c_through (O:=[]++O) a3 xs a4 (ET l p) (0:UInt8) w1 b0 b1 oM s1.lt) rfl s1 fun c9 d0 d1 d2 b8 b9=>(?_)))
  obtain rfl:=b9
  exact ⟨b8,rfl⟩
 ·intro F1 w1 k1 hf hd
  obtain ⟨F2,rfl⟩:=AM (F:=F1) [(12,vT #[vB ((CX xs (ET l p) (0:UInt8)).1),vI ((CX xs (ET l p) (0:UInt8)).2)])] ⟨hd 4 12 kR,trivial⟩
  exact AK rfl ((AG (vT #[vB ((CX xs (ET l p) (0:UInt8)).1),vI ((CX xs (ET l p) (0:UInt8)).2)]) rfl (⟨(Keep.refl _ _),rfl⟩)))
 ·intro F1 w1 k1 hf hd
  obtain ⟨F2,rfl⟩:=AM (F:=F1) [(7,vT #[vB ((CX xs (ET l p) (0:UInt8)).1),vI ((CX xs (ET l p) (0:UInt8)).2)])] ⟨hd 5 7 kR,trivial⟩
  exact AK rfl ((AP (vB ((CX xs (ET l p) (0:UInt8)).1)) rfl rfl (⟨(Keep.refl _ _),rfl⟩)))
 ·intro F1 w1 k1 hf hd
  obtain ⟨F2,rfl⟩:=AM (F:=F1) [(7,vT #[vB ((CX xs (ET l p) (0:UInt8)).1),vI ((CX xs (ET l p) (0:UInt8)).2)])] ⟨hd 5 7 kR,trivial⟩
  exact AK rfl ((AP (vI ((CX xs (ET l p) (0:UInt8)).2)) rfl rfl (⟨(Keep.refl _ _),rfl⟩)))
 ·intro F1 w1 k1 hf hd
  obtain ⟨F2,rfl⟩:=AM (F:=F1) [(13,vB ((CX xs (ET l p) (0:UInt8)).1))] ⟨hd 6 13 kR,trivial⟩
  exact AK rfl ((AF (vB ((CX xs (ET l p) (0:UInt8)).1)) rfl (⟨(Keep.refl _ _),rfl⟩)))
 intro c0 d3 c1 a1 b2
 have c2:=s0.call c1
 obtain ⟨F2,rfl⟩:=AM (F:=c0) [(16,undef),(5,vB ((CX xs (ET l p) (0:UInt8)).1)),(14,vI ((CX xs (ET l p) (0:UInt8)).2))] ⟨b2 16 kR,a1 8 5 kR (by decide),a1 7 14 kR (by decide),trivial⟩
 clear a1 b2
 refine AA (AF (vI ((CX xs (ET l p) (0:UInt8)).2)) rfl (AH (AD (AI (AC kR (AA (AG (vB ((CX xs (ET l p) (0:UInt8)).1)) rfl (AA (AF (vB ((CX xs (ET l p) (0:UInt8)).1)) rfl (AH (AD (AQ (AX rfl (CK rfl rfl rfl) (?_))))))))))))))
 have e:((CX xs (ET l p) 0).1)=((CX xs (ET l p) (0:UInt8)).1):=rfl
 exact ⟨_,rfl,c2.keep,by rw [e];exact rfl⟩
set_option maxHeartbeats 4000000 in
set_option maxRecDepth 100000 in
theorem c_join {O:List Nat} (l_v:Value) (l:List Share) (w:World) (a5:AZ Enc.share w O l_v l) (hO:∀ b∈O,b<w.heap.size):CD Try.prog 30 [l_v] w (fun v w'=>∃ (x0:Value),v = .tuple #[x0,vI ((CR l).2)]∧AZ Enc.u8 w' (O) x0 ((CR l).1)):= by
 have g1:=a5.len_le
 have a5:AZ Enc.share w ([]++O) l_v l:=a5
 have s0:St w O w []:=St.start hO
 refine BK 34 Try.func30 rfl rfl oT (fun F0=>AI (AC kR (AA (o_box (l_v) [l_v] rfl (FD a5.oneCell) s0 fun a2 d0 d1 b6 d2 g2 a3=>(?_)))))
 clear d1
 have a5:=a5.mv d2
 refine AA (AF (nS) rfl (AA (AF (vI 0) rfl (AH (AD (AI (AI (AC kR (AA (BH U32_ rfl (l_v) rfl a3 rfl (AA (BD (vs:=[l_v]) MG (ML (O:=(a2 :: [])++O) l_v l d0 a5 b6.lt) rfl b6 fun g3 g4 b2 d3 d4 d5=>(?_)))))))))))))
 obtain rfl:=d5
 have a5:=a5.mv d3
 have a3:=a3.keep d4 (by simp)
 refine AA (AF (vI (BN l)) rfl (AH (AD (AI (AC kR (AA (AG (vI (BN l)) rfl (AA (CS .i64 (BN l) (0:Int) rfl rfl (AH (AD (AN ((BN l) != (0:Int)) rfl rfl (fun a9=>?_) (fun a9=>?_)))))))))))))
 ·have f7:BN l≠(0:Int):=by simpa using a9
  refine AI (AC kR (AA (AG (vI (BN l)) rfl (AA (AF (nS) rfl (AA (AF (vI (BN l)) rfl (AH (AD (AQ (AR (AX rfl (FG rfl rfl rfl rfl) (?_)))))))))))))
  have e:(CR l)=([],BN l):=by exact joinM_bad oM rfl
  exact ⟨_,rfl,b2.keep,by rw [e];exact ⟨.slice none 0 0,rfl,AZ.nil _ _ _⟩⟩
 have c1:BN l=(0:Int):=by simpa using a9
 have hv:=(EI l).1 c1
 have hpos:=hv.pos
 have ht1:=hv.t1
 have htm:=hv.tm
 have h7:=hv.m8
 have h6:=hv.d64
 refine AW (AD (AI (AC kR (AA (BH U32_ rfl (l_v) rfl a3 rfl (AA (DF U32_ DC .i64 (0:Int) 0 rfl rfl rfl a5 oM fun g5 c2=>(AA (BI 2 JC ((l[0]!).threshold) rfl c2 (fun _ _ _ h=>IM h) fun g6 c3=>(AA (CA U3_ rfl rfl c3 (AA (AF (vI ((l[0]!).threshold)) rfl (AH (AD (AI (AI (AC kR (AA (BH U32_ rfl (l_v) rfl a3 rfl (AA (CB U32_ rfl a5 (AA (AG (vI ((l[0]!).threshold)) rfl (AA (DY .i64 (l.length:Int) ((l[0]!).threshold) rfl rfl (AH (AD (AN (decide ((l.length:Int)<(l[0]!).threshold)) rfl rfl (fun b0=>?_) (fun b0=>?_))))))))))))))))))))))))))))))
 ·have f8:(l.length:Int)<(l[0]!).threshold:=by simpa using b0
  refine AI (AC kR (AA (AF (nS) rfl (AA (AF (vI 80) rfl (AH (AD (AQ (AR (AX rfl (FG rfl rfl rfl rfl) (?_)))))))))))
  have e:(CR l)=([],(80:Int)):=by exact VJ oM oM rfl
  exact ⟨_,rfl,b2.keep,by rw [e];exact ⟨.slice none 0 0,rfl,AZ.nil _ _ _⟩⟩
 have f9:(l[0]!).threshold≤(l.length:Int):=by simpa using b0
 have htk:(l.take (l[0]!.threshold).toNat).length=l[0]!.threshold.toNat:=by rw [List.length_take];omega
 refine AW (AD (AI (AC kR (AA (BH U32_ rfl (l_v) rfl a3 rfl (AA (AG (vI ((l[0]!).threshold)) rfl (AA (AG (vI ((l[0]!).threshold)) rfl (AA (o_slice3R U32_ DC 0 (((l[0]!).threshold).toNat) (((l[0]!).threshold).toNat) rfl (.inl ⟨rfl,rfl⟩) .i64 .i64 ((l[0]!).threshold) ((l[0]!).threshold) rfl oM rfl oM oM oM oM a5 fun a7 a0=>(?_))))))))))))
 rw [List.drop_zero] at a0
 refine BX (CJ (a7) rfl rfl a0.oneCell s_32 (by repeat (constructor)) a3 oT b2 fun d6 b7 d7 g7 a1=>(?_))
 have a0:=a0.mv d7
 refine AH (AD (AI (AC kR (AA (BH U32_ rfl (a7) rfl a1 rfl (AA (BD (vs:=[a7]) enter_41 (VQ (O:=(a2 :: [])++O) a7 (l.take (((l[0]!).threshold).toNat)) d6 a0 oM b7.lt) rfl b7 fun d8 g8 d9 e0 e1 e2=>(?_))))))))
 obtain ⟨_,rfl,a4⟩:=e2
 have:=a4.len_le
 have a0:=a0.mv e0
 have a1:=a1.keep e1 (by simp)
 refine AA (CU [nS] z_23 rfl d9 fun a6 g9 e3 e4 b8 e5 c4=>(?_))
 have b3:FM a2 a6:=by show a2≠a6;have:=a1.lt;omega
 clear e3
 have a0:=a0.mv b8
 have a4:=a4.mv b8
 have a1:=a1.keep e5 (by simp)
 refine BX (CJ (d8) rfl rfl a4.oneCell s_23 (by repeat (constructor)) c4 oT e4 fun e6 e7 b9 e8 c5=>(?_))
 have a0:=a0.mv b9
 have a4:=a4.mv b9
 have a1:=a1.keep e8 (BF b3)
 refine AH (AD (AI (AC kR (AA (BH U32_ rfl (a7) rfl a1 rfl (AA (DF U32_ DC .i64 (0:Int) 0 rfl rfl rfl a0 oM fun h0 c6=>(AA (BI 4 FV (((l.take (((l[0]!).threshold).toNat))[0]!).data) rfl c6 (fun _ _ _ h=>EO h) fun h1 c7=>(AA (BW U23_ rfl rfl c7 fun h2 b4=>(?_))))))))))))
 have:=b4.len_le
 refine AA (CB U23_ rfl b4 (?_))
 obtain ⟨e9,f0,f1,b1,c8⟩:=c5.publish (E:=(Enc.slice Enc.u8)) (u:=NE (l.take (((l[0]!).threshold).toNat))) ⟨_,rfl,a4⟩ e7 (by repeat (constructor))
 have f6:a2∈e9:=c8 a2 (by repeat (constructor)) b3
 have a0:=a0.mv f1
 have a1:=a1.keep (Keep.refl [] _) (by simp)
 obtain ⟨f2,c0,f3,c9,g0⟩:=a1.publish (E:=(Enc.slice Enc.share)) (u:=(l.take (((l[0]!).threshold).toNat))) ⟨_,rfl,a0⟩ f0 (by repeat (assumption))
 have b1:=b1.mv f3
 refine AA (CZ (first:=[]) (captured:=[.tmp 6, .tmp 1]) [] [vP (some ⟨a6,0,none⟩),vP (some ⟨a2,0,none⟩)] rfl rfl (AA (BD (vs:=[vI ((((l.take (((l[0]!).threshold).toNat))[0]!).data).length:Int),vN (.func 62) #[] #[vP (some ⟨a6,0,none⟩),vP (some ⟨a2,0,none⟩)]]) NO (KO (O:=f2++O) ((((l.take (((l[0]!).threshold).toNat))[0]!).data).length:Int) 62 [vP (some ⟨a6,0,none⟩),vP (some ⟨a2,0,none⟩)] (fun i_=>(CX (NE (l.take (((l[0]!).threshold).toNat))) (ET (l.take (((l[0]!).threshold).toNat)) i_) 0).1) e6 enter_62 (fun w'_ O'_ kk_ hs_ hl_ i_  hc_=>c_join1 (O:=O'_) i_ (⟨a6,0,none⟩) (NE (l.take (((l[0]!).threshold).toNat))) (⟨a2,0,none⟩) (l.take (((l[0]!).threshold).toNat)) w'_ (b1.on hs_ kk_) (c9.on hs_ kk_) oM (by rw [IP];omega) (fun k hk=>by rw [takeS oM,hv.da k oM];rw [take0 oM] at hc_;omega) hl_) (by rw [take0 oM];omega) c0.lt) rfl c0 fun a8 h3 f4 h4 h5 f5=>(?_))))
 obtain ⟨_,rfl,b5⟩:=f5
 have:=b5.len_le
 refine AA (AF (a8) rfl (AH (AD (AI (AC kR (AA (AG (a8) rfl (AA (AF (a8) rfl (AA (AF (vI 0) rfl (AH (AD (AQ (AX rfl (FG rfl rfl rfl rfl) (?_))))))))))))))))
 have e:(CR l)=((List.range (((((l.take (((l[0]!).threshold).toNat))[0]!).data).length:Int)).toNat).map (fun i_=>(CX (NE (l.take (((l[0]!).threshold).toNat))) (ET (l.take (((l[0]!).threshold).toNat)) i_) 0).1),(0:Int)):=by exact joinM_ok oM oM rfl
 exact ⟨_,rfl,f4.keep,by rw [e];exact ⟨a8,rfl,b5.out⟩⟩
open Go.Fw
section
open Go.RowKit
end
theorem expX_zero (l:List Share):HV l 0=[(0:UInt8)]++NE l:=by simp [HV]
theorem expX_succ (l:List Share) (m:Nat):HV l (m+1)=HV l m++[GN (9+(m:Int))]:=by simp [HV,List.range_succ]
theorem expY_eq {l:List Share} {b:UInt8} {p T:Nat} (h:l.length<T) :
    ((List.replicate T (0:UInt8)).set 0 b).take 1++(ET l p).take (((List.replicate T (0:UInt8)).set 0 b).length - 1)++((List.replicate T (0:UInt8)).set 0 b).drop (1+(ET l p).length)=LB l b p (T - 1 - l.length):=by
  obtain ⟨S,rfl⟩:∃ S,T=S+1:=⟨T - 1,by omega⟩
  rw [List.replicate_succ,List.set_cons_zero]
  have h1:(ET l p).take S=ET l p:=List.take_of_length_le (by rw [NW];omega)
  simp only [List.take_succ_cons,List.take_zero,List.length_cons,List.length_replicate,Nat.add_sub_cancel,h1,NW]
  rw [show 1+l.length=l.length+1 by omega,List.drop_succ_cons,List.drop_replicate]
  unfold LB
  rfl
theorem coeff_len_le (xs ys:List UInt8):(EA xs ys).1.length≤xs.length:=by
  cases h:FP xs ys with
  | true=>rw [coeff_bad h];simp
  | false=>rw [(MF h).2.1.len];exact Nat.le_refl _
theorem expL_len {l:List Share} {secret:List UInt8} {m:Nat} (h:1+l.length+m≤8):∀ p,(JN l secret m p).length≤8*p
  | 0=>by simp [JN]
  | p+1=>by
    unfold JN
    have h1:=expL_len (secret:=secret) h p
    have h2:=coeff_len_le (HV l m) (LB l secret[p]! p m)
    rw [IH] at h2
    simp only [List.length_append,List.length_drop];omega
theorem u8of_nat' (n:Nat) (h:n<256):(GN (n:Int)).toNat=n:=by
  rw [u8of_nat,UInt8.toNat_ofNat'];omega
theorem u8of_inj {a b:Int} (ha:0≤a) (ha':a<256) (hb:0≤b) (hb':b<256) (h:GN a=GN b):a=b:=by
  obtain ⟨x,rfl⟩:∃ x:Nat,a=(x:Int):=⟨a.toNat,by omega⟩
  obtain ⟨y,rfl⟩:∃ y:Nat,b=(y:Int):=⟨b.toNat,by omega⟩
  have:=congrArg UInt8.toNat h
  rw [u8of_nat' x (by omega),u8of_nat' y (by omega)] at this
  omega
def expI (l:List Share) (i:Nat):Int:=if i=0 then 0 else if i≤l.length then l[i - 1]!.index else 9+((i - 1 - l.length:Nat):Int)
theorem TM {l:List Share} {m i:Nat} (h:i<1+l.length+m):(HV l m)[i]! = GN (expI l i):=by
  unfold HV expI
  cases i with
  | zero=>rw [if_pos rfl];rfl
  | succ i=>
    rw [if_neg (by omega),List.cons_append,GI,PH,IP]
    by_cases h1:i<l.length
    · rw [if_pos h1,if_pos (by omega)];unfold NE;rw [EY _ _ _ h1,Nat.add_sub_cancel]
    · rw [if_neg h1,if_neg (by omega),EY _ _ _ (by omega)]
      congr 2
theorem expI_mono {l:List Share} (hg:Good l):∀ (j i:Nat),i<j→expI l i<expI l j:=by
  intro j i hij
  unfold expI
  have hm:=hg.m8
  by_cases hj:j≤l.length
  · rw [if_neg (c:=j=0) (by omega),if_pos hj]
    have h1:=hg.ix (j - 1) (by omega)
    by_cases hi:i=0
    · rw [if_pos hi];omega
    · rw [if_neg hi,if_pos (by omega)];exact hg.mono (j - 1) (i - 1) (by omega) (by omega)
  · rw [if_neg (c:=j=0) (by omega),if_neg hj]
    by_cases hi:i=0
    · rw [if_pos hi];omega
    · rw [if_neg hi]
      by_cases hi2:i≤l.length
      · rw [if_pos hi2];have:=hg.ix (i - 1) (by omega);omega
      · rw [if_neg hi2];omega
theorem TX {l:List Share} (hg:Good l) (i:Nat) (h:i≤100):0≤expI l i∧expI l i<256:=by
  unfold expI
  have hm:=hg.m8
  split
  · omega
  · split
    · have:=hg.ix (i - 1) (by omega);omega
    · omega
theorem expX_nodup {l:List Share} (hg:Good l) {m:Nat} (h:1+l.length+m≤100):(HV l m).Nodup:=by
  rw [LX]
  intro i j hij hj he
  rw [IH] at hj
  rw [TM (by omega),TM hj] at he
  have h1:=TX hg i (by omega)
  have h2:=TX hg j (by omega)
  have:=u8of_inj h1.1 h1.2 h2.1 h2.2 he
  have:=expI_mono hg j i hij
  omega
theorem RQ {l:List Share} (hg:Good l) {m:Nat} (h:1+l.length+m≤100) (b:UInt8) (p:Nat):FP (HV l m) (LB l b p m)=false:=
  (RO _ _).2 ⟨by rw [IH,expY_len],expX_nodup hg h⟩
theorem exp_len {l:List Share} (hg:Good l) {m:Nat} (h:1+l.length+m≤100) (b:UInt8) (p:Nat):(EA (HV l m) (LB l b p m)).1.length=1+l.length+m:=by
  rw [(MF (RQ hg h b p)).2.1.len,IH]
theorem PY {l:List Share} {secret:List UInt8} {e:Int} (h:BN l≠0) (he:BN l=e):AV l secret=([],e):=by
  unfold AV;rw [if_pos h,he]
theorem LU {l:List Share} {secret:List UInt8} {e:Int} (h:BN l=0) (h2:l[0]!.threshold≤(l.length:Int)) (he:(80:Int)=e):AV l secret=([],e):=by
  unfold AV;rw [if_neg (by omega),if_pos h2,he]
theorem PV {l:List Share} {secret:List UInt8} {e:Int} (h:BN l=0) (h2:(l.length:Int)<l[0]!.threshold) (h3:(secret.length:Int)≠(l[0]!.data.length:Int)) (he:(1:Int)=e):AV l secret=([],e):=by
  unfold AV;rw [if_neg (by omega),if_neg (by omega),if_pos h3,he]
theorem OC {l:List Share} {secret:List UInt8} {x:List UInt8} (h:BN l=0) (h2:(l.length:Int)<l[0]!.threshold) (h3:(secret.length:Int)=(l[0]!.data.length:Int)) (hx:JN l secret (l[0]!.threshold.toNat - 1 - l.length) secret.length=x):AV l secret=(x,0):=by
  unfold AV;rw [if_neg (by omega),if_neg (by omega),if_neg (by omega),hx]
theorem expY_get {l:List Share} {b:UInt8} {p m i:Nat}:(LB l b p m)[i]! = if i=0 then b else if i≤l.length then (ET l p)[i - 1]! else 0:=by
  unfold LB
  cases i with
  | zero=>rfl
  | succ i=>
    rw [if_neg (by omega),List.cons_append,GI,PH,NW]
    by_cases h1:i<l.length
    · rw [if_pos h1,if_pos (by omega),Nat.add_sub_cancel]
    · rw [if_neg h1,if_neg (by omega),OX]
def NQ (l zero:List Share) (n i:Nat):List UInt8:=(List.range n).map fun k=>l[i]!.data[k]! ^^^ zero[i]!.data[k]!
def FJ (l:List Share) (f:Share) (zero:List Share) (i:Nat):Share:=⟨l[i]!.epoch+1,l[i]!.index,l[i]!.threshold,l[i]!.many,NQ l zero f.data.length i⟩
def GU (f:Share) (coins:List UInt8):List Share × Int:=BL (List.replicate f.data.length 0) f.epoch f.threshold f.many coins
def DZ (l:List Share) (coins:List UInt8):Int:=if BN l≠0 then BN l else if (l.length:Int)≠l[0]!.many then 80 else if l[0]!.epoch=1048576 then 81 else (GU l[0]! coins).2
def GF (l:List Share) (coins:List UInt8):List Share:=(List.range l.length).map fun i=>FJ l l[0]! (GU l[0]! coins).1 i
def CG (l:List Share) (coins:List UInt8):List Share × Int:=if DZ l coins=0 then (GF l coins,0) else ([],DZ l coins)
theorem RT {l:List Share} {coins:List UInt8} {x:List Share} (h:DZ l coins=0) (hx:GF l coins=x):CG l coins=(x,0):=by
  unfold CG;rw [if_pos h,hx]
theorem IB {l:List Share} {coins:List UInt8} {e:Int} (h:DZ l coins=e) (he:e≠0):CG l coins=([],e):=by
  unfold CG;rw [if_neg (by rw [h];exact he),h]
theorem FF (secret:List UInt8) (epoch threshold many:Int) (coins:List UInt8):(BL secret epoch threshold many coins).2=DQ secret epoch threshold many coins:=by
  unfold BL;split
  · rename_i h;rw [h]
  · rfl
theorem JA (secret:List UInt8) (epoch threshold many:Int) (coins:List UInt8):(FW secret epoch threshold many coins).length=many.toNat:=by simp [FW]
theorem JB {secret:List UInt8} {epoch threshold many:Int} {coins:List UInt8} {k:Nat} (h:k<many.toNat):(FW secret epoch threshold many coins)[k]! = EM secret (polysM secret coins threshold) epoch threshold many k:=EY _ _ _ h
theorem IG (secret:List UInt8) (polys:List (List UInt8)) (epoch threshold many:Int) (k:Nat):(EM secret polys epoch threshold many k).data.length=secret.length:=by simp [EM]
theorem GE {secret:List UInt8} {epoch threshold many:Int} {coins:List UInt8} (h:(BL secret epoch threshold many coins).2=0):DQ secret epoch threshold many coins=0∧(BL secret epoch threshold many coins).1=FW secret epoch threshold many coins:=by
  rw [FF] at h
  exact ⟨h,by unfold BL;rw [if_pos h]⟩
theorem VR {f:Share} {coins:List UInt8} (h:(GU f coins).2=0):(GU f coins).1.length=f.many.toNat:=by
  unfold GU at *;rw [(GE h).2,JA]
theorem SV {f:Share} {coins:List UInt8} (h:(GU f coins).2=0) {k:Nat} (hk:k<f.many.toNat):(GU f coins).1[k]!.data.length=f.data.length:=by
  unfold GU at *;rw [(GE h).2,JB hk,IG,List.length_replicate]
open Go.Fw Go.RowKit
set_option maxHeartbeats 4000000 in
set_option maxRecDepth 100000 in
theorem VU {O:List Nat} (l_v:Value) (l:List Share) (secret_v:Value) (secret:List UInt8) (w:World) (a1:AZ Enc.share w O l_v l) (a0:AZ Enc.u8 w O secret_v secret) (hO:∀ b∈O,b<w.heap.size):CD Try.prog 15 [l_v,secret_v] w (fun v w'=>∃ (x0:Value),v = .tuple #[x0,vI ((AV l secret).2)]∧(∀ b,x0.ownBlock=some b→w.heap.size≤b)∧EG Enc.u8 5 w.heap.size (x0.ownBlock.toList++(O)) w' x0 ((AV l secret).1)):= by
 have o3:=a1.len_le
 have a1:AZ Enc.share w ([]++O) l_v l:=a1
 have i0:=a0.len_le
 have a0:AZ Enc.u8 w ([]++O) secret_v secret:=a0
 have s0:St w O w []:=St.start hO
 refine BK 86 Try.func15 rfl rfl oT (fun F0=>AI (AC kR (AA (AF (.slice none 0 0) rfl (AA (AF (vI 0) rfl (AH (AD (AI (AI (AC kR (AA (AG (l_v) rfl (AA (BD (vs:=[l_v]) MG (ML (O:=[]++O) l_v l w a1 s0.lt) rfl s0 fun o4 o5 b4 e9 o6 i1=>(?_))))))))))))))))
 obtain rfl:=i1
 have a1:=a1.mv e9
 have a0:=a0.mv e9
 refine AA (AF (vI (BN l)) rfl (AH (AD (AI (AC kR (AA (AG (vI (BN l)) rfl (AA (CS .i64 (BN l) (0:Int) rfl rfl (AH (AD (AN ((BN l) != (0:Int)) rfl rfl (fun c2=>?_) (fun c2=>?_)))))))))))))
 ·have m6:BN l≠(0:Int):=by simpa using c2
  refine AI (AC kR (AA (AG (vI (BN l)) rfl (AA (AF (.slice none 0 0) rfl (AA (AF (vI (BN l)) rfl (AH (AD (AQ (AR (AX rfl (FG rfl rfl rfl rfl) (?_)))))))))))))
  have e:(AV l secret)=([],BN l):=by exact PY oM rfl
  exact ⟨_,rfl,b4.keep,by rw [e];exact ⟨.slice none 0 0,rfl,(fun b hb=>by simp [Value.ownBlock] at hb),EG.nil _ _ _ _ _⟩⟩
 have g3:BN l=(0:Int):=by simpa using c2
 have hv:=(EI l).1 g3
 have hpos:=hv.pos
 have ht1:=hv.t1
 have htm:=hv.tm
 have r9:=hv.m8
 have r8:=hv.d64
 refine AW (AD (AI (AC kR (AA (AG (l_v) rfl (AA (DF U32_ DC .i64 (0:Int) 0 rfl rfl rfl a1 oM fun o7 g4=>(AA (BI 2 JC ((l[0]!).threshold) rfl g4 (fun _ _ _ h=>IM h) fun o8 g5=>(AA (CA U3_ rfl rfl g5 (AA (AG (l_v) rfl (AA (CB U32_ rfl a1 (AA (AF (vI ((l[0]!).threshold)) rfl (AA (AF (vI (l.length:Int)) rfl (AH (AD (AI (AI (AC kR (AA (AG (vI (l.length:Int)) rfl (AA (AG (vI ((l[0]!).threshold)) rfl (AA (JK .i64 (l.length:Int) ((l[0]!).threshold) rfl rfl (AH (AD (AN (decide ((l[0]!).threshold≤(l.length:Int))) rfl rfl (fun c3=>?_) (fun c3=>?_))))))))))))))))))))))))))))))))))
 ·have m7:(l[0]!).threshold≤(l.length:Int):=by simpa using c3
  refine AI (AC kR (AA (AF (.slice none 0 0) rfl (AA (AF (vI 80) rfl (AH (AD (AQ (AR (AX rfl (FG rfl rfl rfl rfl) (?_)))))))))))
  have e:(AV l secret)=([],(80:Int)):=by exact LU oM oM rfl
  exact ⟨_,rfl,b4.keep,by rw [e];exact ⟨.slice none 0 0,rfl,(fun b hb=>by simp [Value.ownBlock] at hb),EG.nil _ _ _ _ _⟩⟩
 have m9:(l.length:Int)<(l[0]!).threshold:=by simpa using c3
 refine AW (AD (AI (AI (AC kR (AA (AG (secret_v) rfl (AA (CB U23_ rfl a0 (AA (AG (l_v) rfl (AA (DF U32_ DC .i64 (0:Int) 0 rfl rfl rfl a1 oM fun o9 g6=>(AA (BI 4 FV ((l[0]!).data) rfl g6 (fun _ _ _ h=>EO h) fun p0 g7=>(AA (BW U23_ rfl rfl g7 fun p1 d6=>(?_)))))))))))))))))
 have:=d6.len_le
 refine AA (CB U23_ rfl d6 (AA (CS .i64 (secret.length:Int) (((l[0]!).data).length:Int) rfl rfl (AH (AD (AN ((secret.length:Int) != (((l[0]!).data).length:Int)) rfl rfl (fun c4=>?_) (fun c4=>?_)))))))
 ·have n2:(secret.length:Int)≠(((l[0]!).data).length:Int):=by simpa using c4
  refine AI (AC kR (AA (AF (.slice none 0 0) rfl (AA (AF (vI 1) rfl (AH (AD (AQ (AR (AX rfl (FG rfl rfl rfl rfl) (?_)))))))))))
  have e:(AV l secret)=([],(1:Int)):=by exact PV oM oM oM rfl
  exact ⟨_,rfl,b4.keep,by rw [e];exact ⟨.slice none 0 0,rfl,(fun b hb=>by simp [Value.ownBlock] at hb),EG.nil _ _ _ _ _⟩⟩
 have n3:(secret.length:Int)=(((l[0]!).data).length:Int):=by simpa using c4
 refine AW (AD (AI (AC kR (AA (II (E:=Enc.u8) (xs:=[.const (vB (0:UInt8))]) U23_ IR z_5 (by decide) [vB (0:UInt8)] [[vB (0:UInt8)]] [(0:UInt8)] rfl rfl rfl (Parts.cons rfl rfl (Parts.nil _ _ _)) oT b4 fun i2 f0 i3 i4 d7 f1 f2 p2 c5=>(?_))))))
 have g8:∀ b,i2.ownBlock=some b→b∈(f0 :: []):=fun b hb=>by rw [d7] at hb;cases hb;simp
 clear i4 d7
 have a1:=a1.mv f2
 have a0:=a0.mv f2
 refine AA (AG (l_v) rfl (AA (BD (vs:=[l_v]) enter_41 (VQ (O:=(f0 :: [])++O) l_v l i3 a1 oM f1.lt) rfl f1 fun p3 p4 i5 d1 i6 i7=>(?_))))
 obtain ⟨_,rfl,d8⟩:=i7
 have:=d8.len_le
 have a1:=a1.mv d1
 have a0:=a0.mv d1
 have c5:=c5.mv d1 i6 (by simp)
 refine AA (DG (E:=Enc.u8) (l:=[(0:UInt8)]) (m:=NE l) U23_ i_5 rfl (by decide) rfl rfl c5 d8 (fun _ hb=>.inl hb) g8 (by rw [IP];simp;omega) (by rw [IP];simp [maxLen];omega) i5 fun f3 p5 i8 g9 n4 m0 i9 f4 p6 h0=>(?_))
 have a1:=a1.mv f4
 have a0:=a0.mv f4
 refine AA (AF (f3) rfl (AH (AD (AI (AI (AC kR (AA (AG (vI ((l[0]!).threshold)) rfl (AA (JM .i64 ((l[0]!).threshold) (1:Int) (((l[0]!.threshold.toNat - 1:Nat):Int)) rfl rfl (GR oM oM) (AA (AG (vI (l.length:Int)) rfl (AA (JM .i64 ((l[0]!.threshold.toNat - 1:Nat):Int) (l.length:Int) ((((l[0]!.threshold.toNat - 1 - l.length):Nat):Int)) rfl rfl (GR oM oM) (AA (AG (vI 0) rfl (AH (AD (BO (DJ (fun mI FI wI=>∃ (q:Nat) (a7:Value) (B:List Nat),q≤(l[0]!.threshold.toNat - 1 - l.length)∧mI=(l[0]!.threshold.toNat - 1 - l.length) - q∧(∃ F1,FI=GO F1 [(0,l_v),(1,secret_v),(4,nS),(7,vI ((l[0]!).threshold)),(9,a7),(45,vI (((l[0]!.threshold.toNat - 1 - l.length):Nat):Int)),(46,vI ((q:Nat):Int)),(86,undef)])∧St w O wI B∧EG Enc.u8 5 w.heap.size (B++O) wI a7 ((HV l q))∧(∀ b,a7.ownBlock=some b→b∈B)∧AZ Enc.share wI (B++O) (l_v) (l)∧AZ Enc.u8 wI (B++O) (secret_v) (secret)) ((l[0]!.threshold.toNat - 1 - l.length) - (0)) ?_ ?_))))))))))))))))))))
 ·exact ⟨(0),f3,i8,oM,rfl,⟨_,BB _ ⟨rfl,rfl,rfl,rfl,rfl,rfl,(by rfl),rfl,trivial⟩⟩,i9,(by rw [show (HV l (0))=([(0:UInt8)])++(NE l) from expX_zero l];exact h0),g9,a1,a0⟩
 intro s2 F s3 hI
 clear a1 a0
 obtain ⟨q,a7,s4,hr0_0,s5,⟨s6,rfl⟩,l9,ho0_9,j0,a1,a0⟩:=hI
 refine AI (AC kR (AA (DY .i64 ((q:Nat):Int) (((l[0]!.threshold.toNat - 1 - l.length):Nat):Int) rfl rfl (AH (AD (AI (AN (decide (((q:Nat):Int)<(((l[0]!.threshold.toNat - 1 - l.length):Nat):Int))) rfl rfl (fun c6=>?_) (fun c6=>?_))))))))
 ·have n5:((q:Nat):Int)<(((l[0]!.threshold.toNat - 1 - l.length):Nat):Int):=by simpa using c6
  refine AW (AD (AI (BO (AI (AC kR (AA (AG (vI ((q:Nat):Int)) rfl (AA (AF (vI ((q:Nat):Int)) rfl (AH (AD (AC kR (AA (AG (a7) rfl (AA (AG (vI ((q:Nat):Int)) rfl (AA (DE .i64 (9:Int) ((q:Nat):Int) ((9:Int)+((q:Nat):Int)) rfl rfl (GR oM oM) (AA (o_u8of .i64 U3_ U5_ ((9:Int)+((q:Nat):Int)) rfl (AA (JI (E:=Enc.u8) (xs:=[.tmp 52]) U23_ IR z_5 (by decide) [vB (GN ((9:Int)+((q:Nat):Int)))] [[vB (GN ((9:Int)+((q:Nat):Int)))]] [GN ((9:Int)+((q:Nat):Int))] rfl rfl rfl (Parts.cons rfl rfl (Parts.nil _ _ _)) oT l9 fun p7 p8 j1 d2 j2 d9=>(?_)))))))))))))))))))))))
  have a1:=a1.mv d2
  have a0:=a0.mv d2
  have ho0_9:=ho0_9.mv d2 j2 (by simp)
  have:=d9.len_le
  refine AA (DG (E:=Enc.u8) (l:=(HV l q)) (m:=[GN ((9:Int)+((q:Nat):Int))]) U23_ i_5 rfl (by decide) rfl rfl ho0_9 d9 (fun _ hb=>.inl hb) j0 (by rw [IH];simp;omega) (by rw [IH];simp [maxLen];omega) j1 fun f5 p9 j3 h1 n6 m2 j4 f6 q0 h2=>(?_))
  have a1:=a1.mv f6
  have a0:=a0.mv f6
  refine AA (AF (f5) rfl (AH (CI (AD (AC kR (AA (DE .i64 ((q:Nat):Int) (1:Int) (((q+1:Nat):Int)) rfl rfl (GR oM oM) (AA (AG (vI ((q+1:Nat):Int)) rfl (AH (AD (?_))))))))))))
  exact ⟨_,oM,(q+1),f5,j3,oM,rfl,⟨_,BB _ ⟨rfl,rfl,rfl,rfl,rfl,rfl,(by rfl),rfl,trivial⟩⟩,j4,(by rw [show (HV l (q+1))=(HV l q)++([GN ((9:Int)+((q:Nat):Int))]) from expX_succ _ _];exact h2),h1,a1,a0⟩
 have n7:(((l[0]!.threshold.toNat - 1 - l.length):Nat):Int)≤((q:Nat):Int):=by simpa using c6
 obtain rfl:q=(l[0]!.threshold.toNat - 1 - l.length):=by omega
 refine DI (CF (CF (CY (AD (AI (AI (AC kR (AA (AG (secret_v) rfl (AA (CB U23_ rfl a0 (AA (AG (vI 0) rfl (AH (AD (BO (?_)))))))))))))))))
 obtain ⟨j5,j6,f7,a2,n9⟩:=ho0_9.publish l9
 have m3:=a2.len_le
 have a1:=a1.mv f7
 have a0:=a0.mv f7
 refine DJ (fun mI FI wI=>∃ (k:Nat) (a4:Value) (B:List Nat),k≤secret.length∧mI=secret.length - k∧(∃ F1,FI=GO F1 [(0,l_v),(4,a4),(7,vI ((l[0]!).threshold)),(9,a7),(56,secret_v),(57,vI (secret.length:Int)),(58,vI ((k:Nat):Int)),(86,undef)])∧St w O wI B∧EG Enc.u8 5 w.heap.size (B++O) wI a4 ((JN l secret (l[0]!.threshold.toNat - 1 - l.length) k))∧(∀ b,a4.ownBlock=some b→b∈B)∧AZ Enc.share wI (B++O) (l_v) (l)∧AZ Enc.u8 wI (B++O) (a7) ((HV l (l[0]!.threshold.toNat - 1 - l.length)))∧AZ Enc.u8 wI (B++O) (secret_v) (secret)) (secret.length - (0)) ?_ ?_
 ·exact ⟨(0),(.slice none 0 0),j5,oM,rfl,⟨_,BB _ ⟨rfl,rfl,rfl,rfl,rfl,rfl,(by rfl),rfl,trivial⟩⟩,j6,(by rw [show (JN l secret (l[0]!.threshold.toNat - 1 - l.length) (0))=[] from rfl];exact (EG.nil Enc.u8 5 _ _ _)),(by intro b hb;simp [Value.ownBlock] at hb),a1,a2,a0⟩
 intro s7 F s8 hI
 clear a1 a2 a0
 obtain ⟨k,a4,a8,hr1_0,s9,⟨t0,rfl⟩,h3,ho1_4,b0,a1,a2,a0⟩:=hI
 have hco:=fun b=>exp_len hv.toGood (m:=(l[0]!.threshold.toNat - 1 - l.length)) oM b k
 have hel:=expL_len (l:=l) (secret:=secret) (m:=(l[0]!.threshold.toNat - 1 - l.length)) oM k
 refine AI (AC kR (AA (DY .i64 ((k:Nat):Int) (secret.length:Int) rfl rfl (AH (AD (AI (AN (decide (((k:Nat):Int)<(secret.length:Int))) rfl rfl (fun c7=>?_) (fun c7=>?_))))))))
 ·have o0:((k:Nat):Int)<(secret.length:Int):=by simpa using c7
  refine AW (AD (AI (BO (AI (AC kR (AA (AG (vI ((k:Nat):Int)) rfl (AA (DF U23_ IR .i64 ((k:Nat):Int) k rfl rfl rfl a0 oM fun q1 h4=>(AA (HM U5_ rfl rfl h4 (AA (AF (vI ((k:Nat):Int)) rfl (AA (AF (vB (secret[k]!)) rfl (AH (AD (AI (AC kR (AA (AG (vI ((l[0]!).threshold)) rfl (AA (TQ (E:=Enc.u8) U23_ i_5 [vB (0:UInt8)] rfl rfl (by decide) (0:UInt8) (fun _ _=>rfl) .i64 .i64 ((l[0]!).threshold) ((l[0]!).threshold) (((l[0]!).threshold).toNat) (((l[0]!).threshold).toNat) rfl rfl oM oM oM oM (by simp only [maxLen];omega) h3 fun a3 a5 q2 j7 c8 j8 b5 j9 e0=>(?_))))))))))))))))))))))))
  have b2:∀ b,a4.ownBlock=some b→a3.ownBlock≠some b:=fun b hb=>by have:=(ho1_4.lt b hb).2;rw [c8];intro e;cases e;omega
  have ne2027':∀ b,a3.ownBlock=some b→a4.ownBlock≠some b:=fun b hb e=>b2 b e hb
  have e1:∀ b,a3.ownBlock=some b→b∈(a5 :: a8):=fun b hb=>by rw [c8] at hb;cases hb;simp
  clear j7 c8
  have b0:∀ b,a4.ownBlock=some b→b∈(a5 :: a8):=fun b hb=>List.mem_cons_of_mem _ (b0 b hb)
  have a1:=a1.mv b5
  have ho1_4:=ho1_4.mv b5 j9 (by simp)
  have a2:=a2.mv b5
  have a0:=a0.mv b5
  refine AA (AF (a3) rfl (AH (AD (AI (AC kR (AA (AG (a3) rfl (AA (AG (vB (secret[k]!)) rfl (AA (EP U23_ IR .i64 (0:Int) 0 rfl rfl rfl e0 (by (simp only [List.length_set,List.length_append,List.length_cons,List.length_nil,List.length_replicate];omega)) fun q3 c9=>(BX (KQ (secret[k]!) IR rfl rfl rfl e0 c9 (e1 _ c9) (by (simp only [List.length_set,List.length_append,List.length_cons,List.length_nil,List.length_replicate];omega)) rfl j8 fun b1 f8 b6 k2 a9=>(?_))))))))))))))
  have a1:=a1.mv b6
  have ho1_4:=ho1_4.mv b6 k2 (fun b hb=>by simp only [List.mem_singleton];rintro rfl;exact absurd c9 (b2 _ hb))
  have a2:=a2.mv b6
  have a0:=a0.mv b6
  refine AH (AD (AI (cw_draw' 5 _ _ [DB a3,fun (vT:Value) (_:World)=>SubOf a3 1 1 vT,fun (vT:Value) (wT:World)=>AZ Enc.share wT ((a5 :: a8)++O) vT (l),DB (vI ((k:Nat):Int)),fun (vT:Value) (wT:World)=>AZ Enc.u8 wT ((a5 :: a8)++O) vT (ET l k)] kR kR kR kR rfl rfl ⟨kI,fun _ _ _ h _=>h,fun _ _ _ h k=>h.mv (Mv.of_keep k),kI,fun _ _ _ h k=>h.mv (Mv.of_keep k),trivial⟩ ⟨?_,?_,?_,?_,?_,trivial⟩ ?_)))
  ·intro F1 w1 k1 hf hd
   obtain ⟨F2,rfl⟩:=AM (F:=F1) [(13,a3)] ⟨hf 13 kR,trivial⟩
   exact AK rfl ((AG (a3) rfl (⟨(Keep.refl _ _),rfl⟩)))
  ·intro F1 w1 k1 hf hd
   have k0:=(Keep.drew [] b1).trans k1
   have m1:Mv (a5 :: a8) b1 (a5 :: a8) w1:=Mv.of_keep k0
   have a9:=a9.mv m1 k0 (by simp)
   obtain ⟨F2,rfl⟩:=AM (F:=F1) [(68,a3)] ⟨hd 0 68 kR,trivial⟩
   exact AK rfl ((SR U23_ IR 1 .i64 (1:Int) rfl rfl rfl (by rw [List.length_set,List.length_replicate];omega) a9 fun q4 h5=>(⟨(Keep.refl _ _),h5⟩)))
  ·intro F1 w1 k1 hf hd
   have k0:=(Keep.drew [] b1).trans k1
   have m1:Mv (a5 :: a8) b1 (a5 :: a8) w1:=Mv.of_keep k0
   have a1:=a1.mv m1
   obtain ⟨F2,rfl⟩:=AM (F:=F1) [(0,l_v)] ⟨hf 0 kR,trivial⟩
   exact AK rfl ((AG (l_v) rfl (⟨(Keep.refl _ _),a1⟩)))
  ·intro F1 w1 k1 hf hd
   obtain ⟨F2,rfl⟩:=AM (F:=F1) [(11,vI ((k:Nat):Int))] ⟨hf 11 kR,trivial⟩
   exact AK rfl ((AG (vI ((k:Nat):Int)) rfl (⟨(Keep.refl _ _),rfl⟩)))
  ·intro F1 w1 k1 hf hd
   have k0:=(Keep.drew [] b1).trans k1
   have s1:=f8.call k0
   obtain ⟨d3,k3,e2⟩:∃ v,F1 70=v∧AZ Enc.share w1 ((a5 :: a8)++O) v (l):=⟨_,rfl,hd 2 70 kR⟩
   have:=e2.len_le
   obtain ⟨F2,rfl⟩:=AM (F:=F1) [(70,d3),(71,vI ((k:Nat):Int))] ⟨k3,hd 3 71 kR,trivial⟩
   refine AK rfl ((BD (vs:=[d3,vI ((k:Nat):Int)]) enter_42 (c_column (O:=(a5 :: a8)++O) d3 l k w1 e2 oM (fun j hj=>by rw [hv.da j hj];omega) s1.lt) rfl s1 fun q5 q6 q7 q8 k4 k5=>(?_)))
   obtain ⟨_,rfl,e3⟩:=k5
   have:=e3.len_le
   exact ⟨k4,e3⟩
  intro d4 f9 b7 d0 a6
  have k6:=f8.call b7
  have b3:Mv (a5 :: a8) b1 (a5 :: a8) f9:=Mv.of_keep b7
  have a1:=a1.mv b3
  have ho1_4:=ho1_4.mv b3 b7 (by simp)
  have a2:=a2.mv b3
  have a9:=a9.mv b3 b7 (by simp)
  have a0:=a0.mv b3
  obtain ⟨k7,k8,h6⟩:∃ v,d4 69=v∧SubOf a3 1 1 v:=⟨_,rfl,d0 1 69 kR (by decide)⟩
  obtain ⟨k9,l0,e4⟩:∃ v,d4 72=v∧AZ Enc.u8 f9 ((a5 :: a8)++O) v (ET l k):=⟨_,rfl,d0 4 72 kR (by decide)⟩
  have:=e4.len_le
  obtain ⟨F2,rfl⟩:=AM (F:=d4) [(0,l_v),(4,a4),(7,vI ((l[0]!).threshold)),(9,a7),(13,a3),(56,secret_v),(57,vI (secret.length:Int)),(58,vI ((k:Nat):Int)),(86,undef),(69,k7),(72,k9)] ⟨a6 0 kR,a6 4 kR,a6 7 kR,a6 9 kR,a6 13 kR,a6 56 kR,a6 57 kR,a6 58 kR,a6 86 kR,k8,l0,trivial⟩
  clear d0 a6
  refine AA (o_copyO (l:=((List.replicate (((l[0]!).threshold).toNat) (0:UInt8)).set 0 (secret[k]!))) (m:=(ET l k)) U23_ IR rfl rfl h6 a9 e1 e4 (by rw [List.length_set,List.length_replicate];omega) k6 fun q9 l1 l2 b8 l3 e5=>(?_))
  rw [show ((List.replicate (((l[0]!).threshold).toNat) (0:UInt8)).set 0 (secret[k]!)).take 1++(ET l k).take (((List.replicate (((l[0]!).threshold).toNat) (0:UInt8)).set 0 (secret[k]!)).length - 1)++((List.replicate (((l[0]!).threshold).toNat) (0:UInt8)).set 0 (secret[k]!)).drop (1+(ET l k).length)=LB l secret[k]! k (l[0]!.threshold.toNat - 1 - l.length) from expY_eq oM] at e5
  have a1:=a1.mv b8
  have ho1_4:=ho1_4.mv b8 l3 (fun b hb=>by simp only [Option.mem_toList];exact b2 b hb)
  have a2:=a2.mv b8
  have a0:=a0.mv b8
  refine AH (AD (AI (AC kR (AA (AG (a7) rfl (AA (AG (a3) rfl (?_))))))))
  obtain ⟨g0,g1,b9,e6,h7⟩:=e5.publish l2
  have b0:∀ b,a4.ownBlock=some b→b∈g0:=fun b hb=>h7 b (b0 b hb) (b2 b hb)
  have m4:=e6.len_le
  have a1:=a1.mv b9
  have ho1_4:=ho1_4.mv b9 (Keep.refl [] _) (by simp)
  have a2:=a2.mv b9
  have a0:=a0.mv b9
  refine AA (BD (vs:=[a7,a3]) enter_43 (c_coeff (O:=g0++O) a7 (HV l (l[0]!.threshold.toNat - 1 - l.length)) a3 (LB l secret[k]! k (l[0]!.threshold.toNat - 1 - l.length)) l1 a2 e6 (by rw [IH];omega) g1.lt) rfl g1 fun r0 r4 l4 c0 l5 l6=>(?_))
  obtain ⟨c1,rfl,e7⟩:=l6
  have:=e7.len_le
  have a1:=a1.mv c0
  have ho1_4:=ho1_4.mv c0 l5 (by simp)
  have a2:=a2.mv c0
  have a0:=a0.mv c0
  refine AA (AG (vT #[c1,vI ((EA (HV l (l[0]!.threshold.toNat - 1 - l.length)) (LB l secret[k]! k (l[0]!.threshold.toNat - 1 - l.length))).2)]) rfl (AA (AP (c1) rfl rfl (AA (AP (vI ((EA (HV l (l[0]!.threshold.toNat - 1 - l.length)) (LB l secret[k]! k (l[0]!.threshold.toNat - 1 - l.length))).2)) rfl rfl (AA (AF (c1) rfl (AA (AF (vI ((EA (HV l (l[0]!.threshold.toNat - 1 - l.length)) (LB l secret[k]! k (l[0]!.threshold.toNat - 1 - l.length))).2)) rfl (AH (AD (AC kR (AA (AG (a4) rfl (AA (AG (c1) rfl (AA (MK U23_ IR 1 (((EA (HV l (l[0]!.threshold.toNat - 1 - l.length)) (LB l secret[k]! k (l[0]!.threshold.toNat - 1 - l.length))).1).length) rfl (.inr ⟨.const (vI 1), .i64,(1:Int),rfl,rfl,rfl⟩) (.inl ⟨rfl,rfl⟩) (by rw [hco];omega) (Nat.le_refl _) e7 fun r5 e8=>(?_)))))))))))))))))))
  rw [List.take_length] at e8
  refine AA (DG (E:=Enc.u8) (l:=(JN l secret (l[0]!.threshold.toNat - 1 - l.length) k)) (m:=(((EA (HV l (l[0]!.threshold.toNat - 1 - l.length)) (LB l secret[k]! k (l[0]!.threshold.toNat - 1 - l.length))).1).drop 1)) U23_ i_5 rfl (by decide) rfl rfl ho1_4 e8 (fun _ hb=>.inl hb) b0 (by rw [List.length_drop,hco];omega) (by rw [List.length_drop,hco];simp only [maxLen];omega) l4 fun g2 r6 l7 h8 o1 m5 l8 d5 r7 h9=>(?_))
  have a1:=a1.mv d5
  have a2:=a2.mv d5
  have a0:=a0.mv d5
  refine AA (AF (g2) rfl (AH (CI (AD (AC kR (AA (DE .i64 ((k:Nat):Int) (1:Int) (((k+1:Nat):Int)) rfl rfl (GR oM oM) (AA (AG (vI ((k+1:Nat):Int)) rfl (AH (AD (?_))))))))))))
  exact ⟨_,oM,(k+1),g2,l7,oM,rfl,⟨_,BB _ ⟨rfl,rfl,rfl,rfl,rfl,rfl,(by rfl),rfl,trivial⟩⟩,l8,(by rw [show (JN l secret (l[0]!.threshold.toNat - 1 - l.length) (k+1))=(JN l secret (l[0]!.threshold.toNat - 1 - l.length) k)++(((EA (HV l (l[0]!.threshold.toNat - 1 - l.length)) (LB l secret[k]! k (l[0]!.threshold.toNat - 1 - l.length))).1).drop 1) from rfl];exact h9),h8,a1,a2,a0⟩
 have o2:(secret.length:Int)≤((k:Nat):Int):=by simpa using c7
 obtain rfl:k=secret.length:=by omega
 refine DI (CF (CF (CY (AD (AI (AC kR (AA (AG (a4) rfl (AA (AF (a4) rfl (AA (AF (vI 0) rfl (AH (AD (AQ (AX rfl (FG rfl rfl rfl rfl) (?_)))))))))))))))))
 have e:(AV l secret)=((JN l secret (l[0]!.threshold.toNat - 1 - l.length) secret.length),(0:Int)):=by exact OC oM oM oM rfl
 exact ⟨_,rfl,h3.keep,by rw [e];exact ⟨a4,rfl,(fun b hb=>(h3.new b (b0 b hb)).1),(ho1_4.sub (fun x hx=>.inl ((List.mem_append.1 hx).elim (fun h=>List.mem_append_left _ (b0 x (by simpa using h))) (fun h=>List.mem_append_right _ h))))⟩⟩
end Go.Proofs.Ytjgfokolnkhafaa
