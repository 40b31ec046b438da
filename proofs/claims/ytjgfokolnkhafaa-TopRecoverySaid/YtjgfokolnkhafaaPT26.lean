/- What the laws of this part rest on: lemmas, and the walks of the functions. No conditions. -/
import Derived.WalkKit
import Derived.WalkSpells
import Derived.WalkLawsBesides
import Derived.RangeFuncLeaves
import Derived.Maps.AppendAt
import Derived.Deep.AppendLies
import Derived.Deep.Slices
import Derived.OpenShut
import Derived.ProofKit
import Derived.Below
import Derived.ChangeSame
import Derived.Carry
import Derived.RangeFuncRecord
import Derived.Laws.Tables
import Derived.Recover
import Derived.DefersIn
import Derived.Lib.AppendZerosOnto
import Derived.Lib.Overlaps
import Derived.Laws.CopyRow
import Derived.Laws.StructEq
import Derived.ChangeKeysEq
import Derived.OrdersIn
import Derived.Test.YtjgfokolnkhafaaRows
import Derived.Test.YtjgfokolnkhafaaPT25
set_option linter.unusedSimpArgs false
set_option linter.unusedVariables false
namespace Go.Proofs.Ytjgfokolnkhafaa
open Go.Fw Go.RowKit
structure MovS (w0:World) (O B:List Nat) (w:World) (b:Nat) (gv rv lv ov:Value) (L:List Value) (pv av vv dv:Value) (s:MovR):Prop where
  box:FT w b 39 [vI s.c.epoch,vI s.c.threshold,vI s.c.wait,gv,rv,lv,ov,vO s.renewed,pv,av,vv,dv]
  inb:b∈B
  g:BL Enc.int w (B++O) gv s.c.guardians
  r:BL Enc.recovery w (B++O) rv s.c.recs
  l:BL Enc.share w (B++O) lv s.l
  o:BL Enc.share w (B++O) ov s.old
  p:DX Enc.val 75 w0.heap.size (B++O) w pv L
  pB:∀ b,pv.ownBlock=some b→b∈B
  a:DX Enc.int 3 w0.heap.size (B++O) w av s.asked
  aB:∀ b,av.ownBlock=some b→b∈B
  v:DX Enc.bool 4 w0.heap.size (B++O) w vv s.vetoed
  vB:∀ b,vv.ownBlock=some b→b∈B
  d:DX Enc.bool 4 w0.heap.size (B++O) w dv s.done
  dB:∀ b,dv.ownBlock=some b→b∈B
  ne:∀ b,vv.ownBlock=some b→dv.ownBlock≠some b
  T:Mk B w L s.appr
structure FrM (w:World) (Bm B':List Nat) (w':World):Prop where
  F:FrT [3,4,28,39,75] w w'
  ms:Mv Bm w B' w'
  sb:∀ x∈Bm,x∈B'
section
variable {w0 w w1 w2:World} {O Bm B B1 B2 X:List Nat} {b bm t:Nat} {cs L:List Value} {gv rv lv ov pv av vv dv:Value} {s:MovR}
theorem FrM.st (h:FrM w Bm B1 w1) (m:Mv B1 w1 B2 w2) (hF:FrT [3,4,28,39,75] w w2) (hs:∀ x∈B1,x∈B2):FrM w Bm B2 w2:=⟨hF,h.ms.trans m,fun x hx=>hs x (h.sb x hx)⟩
theorem FrM.s0 (h:FrM w Bm B1 w1) (m:Mv B1 w1 B2 w2) (k:Keep [] w1 w2) (hs:∀ x∈B1,x∈B2):FrM w Bm B2 w2:=h.st m (h.F.step0 k) hs
theorem FrM.sB (h:FrM w Bm B1 w1) (m:Mv B1 w1 B2 w2) (k:Keep [b] w1 w2) (hb:FT w1 b t cs) (ht:t∈[3,4,28,39,75]) (hs:∀ x∈B1,x∈B2):FrM w Bm B2 w2:=h.st m (h.F.stepB k hb ht) hs
theorem FrM.sO {β:Type} {E':Enc β} {O':List Nat} {v:Value} {l:List β} {n':Nat} (h:FrM w Bm B1 w1) (m:Mv B1 w1 B2 w2) (k:Keep X w1 w2) (ho:DX E' t n' O' w1 v l) (hv:∀ b∈X,v.ownBlock=some b) (ht:t∈[3,4,28,39,75]) (hs:∀ x∈B1,x∈B2):FrM w Bm B2 w2:=h.st m (h.F.stepO k ho hv ht) hs
theorem FrM.sM {T:List (Int→Bool)} {i:Nat} (h:FrM w Bm B1 w1) (m:Mv B1 w1 B2 w2) (k:Keep (mblk L[i]!).toList w1 w2) (hT:Mk B w1 L T) (hi:i<T.length) (hs:∀ x∈B1,x∈B2):FrM w Bm B2 w2:=h.st m (h.F.stepM k hT hi) hs
theorem MovS.sX (h:MovS w0 O B w bm gv rv lv ov L pv av vv dv s) (m:Mv B w B2 w2) (k:Keep X w w2) (hb:bm∉X) (hp:∀ b,pv.ownBlock=some b→b∉X) (ha:∀ b,av.ownBlock=some b→b∉X) (hv:∀ b,vv.ownBlock=some b→b∉X) (hd:∀ b,dv.ownBlock=some b→b∉X) (hm:∀ i r,i<s.appr.length→L[i]! = .map (some r)→r∉X) (hs:∀ x∈B,x∈B2):MovS w0 O B2 w2 bm gv rv lv ov L pv av vv dv s:=
  ⟨h.box.keep k hb,hs _ h.inb,h.g.mv m,h.r.mv m,h.l.mv m,h.o.mv m,h.p.mv m k hp,fun b e=>hs b (h.pB b e),h.a.mv m k ha,fun b e=>hs b (h.aB b e),h.v.mv m k hv,fun b e=>hs b (h.vB b e),h.d.mv m k hd,fun b e=>hs b (h.dB b e),h.ne,h.T.mvX m k hm hs⟩
theorem MovS.s0 (h:MovS w0 O B w bm gv rv lv ov L pv av vv dv s) (m:Mv B w B2 w2) (k:Keep [] w w2) (hs:∀ x∈B,x∈B2):MovS w0 O B2 w2 bm gv rv lv ov L pv av vv dv s:=
  h.sX m k (by simp) (fun _ _=>by simp) (fun _ _=>by simp) (fun _ _=>by simp) (fun _ _=>by simp) (fun _ _ _ _=>by simp) hs
theorem MovS.sB (h:MovS w0 O B w bm gv rv lv ov L pv av vv dv s) (m:Mv B w B2 w2) (k:Keep [b] w w2) (hb:FT w b t cs) (ht:t∉[3,4,39,75]) (hs:∀ x∈B,x∈B2):MovS w0 O B2 w2 bm gv rv lv ov L pv av vv dv s:=
  h.sX m k (AS (h.box.neT hb (fun e=>ht (by rw [← e];decide)))) (fun b1 e1=>AS (h.p.neB hb (fun e=>ht (by rw [← e];decide)) b1 e1)) (fun b1 e1=>AS (h.a.neB hb (fun e=>ht (by rw [← e];decide)) b1 e1))
    (fun b1 e1=>AS (h.v.neB hb (fun e=>ht (by rw [← e];decide)) b1 e1)) (fun b1 e1=>AS (h.d.neB hb (fun e=>ht (by rw [← e];decide)) b1 e1)) (fun i r hi e1 hx=>by
      have:=h.T.neB hi hb
      rw [e1] at this
      exact this (by
                     have:r=b:=by simpa using hx
                     subst this;simp [mblk])) hs
end
set_option maxHeartbeats 40000000 in
set_option maxRecDepth 100000 in
theorem c_do {O Bm:List Nat} {w0 w:World} (bm:Nat) (gv rv lv ov:Value) (L:List Value) (pv av vv dv:Value) (s:MovR) (x_cs:List Value) (x:MoveT) (s0:St w0 O w Bm) (hM:MovS w0 O Bm w bm gv rv lv ov L pv av vv dv s) (eY:Enc.movt.rd w (Bm++O) x_cs x) (hG:GuardI s.c s.asked s.appr s.vetoed s.done) (hgl:x.guardians.length≤1000000):Calls Try.prog 12 [vP (some ⟨bm,0,none⟩),vA x_cs.toArray].toArray w (fun e w'=>e = .returned (.bool true)∧∃ (B':List Nat) (gv' rv' lv' ov':Value) (L':List Value) (pv' av' vv' dv':Value),St w0 O w' B'∧Mv Bm w B' w'∧(∀ x∈Bm,x∈B')∧FrT [3,4,28,39,75] w w'∧MovS w0 O B' w' bm gv' rv' lv' ov' L' pv' av' vv' dv' (NG s x)):= by
 have hR:FrM w Bm Bm w:=⟨FrT.refl,Mv.refl _ _,fun _ h=>h⟩
 obtain ⟨hlm1,hlm2,hlm3,hlm4⟩:=ZV hG
 refine BW 381 Try.func12 rfl rfl oT (fun F0=>AF (AB kR (?_)))
 obtain ⟨d3,e7,rfl,a2,a6⟩:=eY
 have:=a2.len_le
 have:=a6.len_le
 refine AA (RL (vA #[vB x.kind,vI x.no,vI x.guardian,vI x.day,d3,e7,vI x.threshold]) [vB x.kind,vI x.no,vI x.guardian,vI x.day,d3,e7,vI x.threshold] rfl rfl s0 fun a1 x3 cc s3 G0 W3 a0=>(?_))
 have u3:EY bm a1:=by show bm≠a1;have:=(hM.box).lt;omega
 clear cc
 have a2:=a2.mv G0
 have a6:=a6.mv G0
 have hM:=hM.s0 G0 W3 (fun _ h=>List.mem_cons_of_mem _ h)
 have hR:=hR.s0 G0 W3 (fun _ h=>List.mem_cons_of_mem _ h)
 refine AA (AE (vO false) rfl (AG (AC (AF (AF (AB kR (AA (AH 0 f_41_0 rfl (AA (AK U5_ rfl (vB x.kind) rfl a0 rfl (AG (AC (BQ (AF (AB kR (AA (PN x.kind (0:UInt8) rfl rfl (AA (AE (vO (x.kind == (0:UInt8))) rfl (AG (AC (AJ (x.kind == (0:UInt8)) rfl rfl (fun K3=>?_) (fun K3=>?_)))))))))))))))))))))))
 ·have eZ:x.kind=(0:UInt8):=by simpa using K3
  refine OH (fun FI wI=>∃ (b8:Nat) (g5:Value) (g6:Value) (B:List Nat),FrM w Bm B wI∧True∧(∃ F1,FI=GN F1 [(0,vP (some ⟨bm,0,none⟩)),(3,vP (some ⟨a1,0,none⟩)),(5,vP (some ⟨b8,0,none⟩)),(6,vI ((CQ s.c x.day).2.1)),(7,vI ((CQ s.c x.day).2.2)),(381,undef)])∧St w0 O wI B∧BL Enc.u8 wI (B++O) (d3) (x.coins)∧BL Enc.int wI (B++O) (e7) (x.guardians)∧FT wI a1 41 [vB x.kind,vI x.no,vI x.guardian,vI x.day,d3,e7,vI x.threshold]∧a1∈B∧MovS w0 O B wI bm gv rv lv ov L pv av vv dv s∧FT wI b8 28 [vI ((CQ s.c x.day).1.epoch),vI ((CQ s.c x.day).1.threshold),vI ((CQ s.c x.day).1.wait),g5,g6]∧BL Enc.int wI (B++O) g5 ((CQ s.c x.day).1.guardians)∧BL Enc.recovery wI (B++O) g6 ((CQ s.c x.day).1.recs)∧b8∈B∧EY a1 b8∧EY bm b8) ?_ ?_
  ·refine FM [] [6,11] [[(0,1),(1,4),(2,4),(3,4),(4,4),(5,4),(6,2),(7,1),(8,4),(9,4),(10,4),(11,2),(12,0),(13,1),(14,1)],[(0,1),(1,4),(2,4),(3,4),(4,4),(5,4),(11,2),(6,2),(7,1),(8,4),(9,4),(10,4),(12,0),(13,1),(14,1)]] (by intro c F d v w hd;(try simp only [GI,FG]);exact GJ c F d v w hd) kR kR kR fun W4 z6=>?_
   have O2:=s3.call z6
   have G1:Mv (a1 :: Bm) x3 (a1 :: Bm) W4:=Mv.of_keep z6
   have a2:=a2.mv G1
   have a6:=a6.mv G1
   have a0:=a0.keep z6 (by simp)
   have hM:=hM.s0 G1 z6 (fun _ h=>h)
   have hR:=hR.s0 G1 z6 (fun _ h=>h)
   refine ⟨?_,?_,trivial⟩
   ·refine BS (AD (vP (some ⟨bm,0,none⟩)) rfl (EP (CA rfl (fun w4_ k4_=>AR ⟨bm,0,none⟩ rfl (⟨rfl,rfl⟩)) (CA rfl (fun w4_ k4_=>AH 0 ED rfl (⟨rfl,rfl⟩)) (CA rfl (fun w4_ k4_=>BI (vs:=[vI s.c.epoch,vI s.c.threshold,vI s.c.wait,gv,rv]) U28_ rfl BJ rfl ((hM.box).keep k4_ (by simp)) rfl (⟨rfl,rfl⟩)) (CA rfl (fun w4_ k4_=>AH 3 QE rfl (⟨rfl,rfl⟩)) (CA rfl (fun w4_ k4_=>AK U3_ rfl (vI x.day) rfl (a0.keep k4_ (by simp)) rfl (⟨rfl,rfl⟩)) (FA (BF (vs:=[vA #[vI s.c.epoch,vI s.c.threshold,vI s.c.wait,gv,rv],vI x.day]) enter_34 (c_ask (O:=(a1 :: Bm)++O) [vI s.c.epoch,vI s.c.threshold,vI s.c.wait,gv,rv] s.c x.day W4 ⟨_,_,rfl,(hM.g),(hM.r)⟩ O2.lt) rfl O2 fun hw hy cd G2 G3 ce=>(?_))))))))))
    obtain ⟨K4,rfl,K5⟩:=ce
    have a2:=a2.mv G2
    have a6:=a6.mv G2
    have a0:=a0.keep G3 (by simp)
    have hM:=hM.s0 G2 G3 (fun _ h=>h)
    have hR:=hR.s0 G2 G3 (fun _ h=>h)
    refine ⟨G3,?_⟩
    refine BS (AD (vT #[vA K4.toArray,vI ((CQ s.c x.day).2.1),vI ((CQ s.c x.day).2.2)]) rfl (EP (CA rfl (fun w4_ k4_=>AL (vA K4.toArray) rfl rfl (⟨rfl,rfl⟩)) (CA rfl (fun w4_ k4_=>AL (vI ((CQ s.c x.day).2.1)) rfl rfl (⟨rfl,rfl⟩)) (CA rfl (fun w4_ k4_=>AL (vI ((CQ s.c x.day).2.2)) rfl rfl (⟨rfl,rfl⟩)) (FA (CR [vI 0,vI 0,vI 0,nS,nS] IO rfl cd fun s4 cf cg ch z7 G4 aa=>(?_))))))))
    have ab:EY bm s4:=by show bm≠s4;have:=(hM.box).lt;omega
    have Q2:EY a1 s4:=by show a1≠s4;have:=a0.lt;omega
    clear cg
    have a2:=a2.mv z7
    have a6:=a6.mv z7
    have K5:Enc.circle.rd cf ((s4 :: (a1 :: Bm))++O) K4 ((CQ s.c x.day).1):=Enc.mv Enc.circle (x:=(CQ s.c x.day).1) K5 z7
    have a0:=a0.keep G4 (by simp)
    have hM:=hM.s0 z7 G4 (fun _ h=>List.mem_cons_of_mem _ h)
    have hR:=hR.s0 z7 G4 (fun _ h=>List.mem_cons_of_mem _ h)
    refine ⟨G4,?_⟩
    obtain ⟨z8,z9,rfl,u4,u5⟩:=K5
    have:=u4.len_le
    have:=u5.len_le
    refine JM (BE (vs:=[vI (((CQ s.c x.day).1).epoch),vI (((CQ s.c x.day).1).threshold),vI (((CQ s.c x.day).1).wait),z8,z9]) (.agg #[vI (((CQ s.c x.day).1).epoch),vI (((CQ s.c x.day).1).threshold),vI (((CQ s.c x.day).1).wait),z8,z9]) rfl rfl rfl BJ (fun u hu=>by simp only [List.mem_cons,List.not_mem_nil,or_false] at hu;rcases hu with rfl|rfl|rfl|rfl|rfl <;> first|rfl|exact u4.oneCell|exact u5.oneCell) (by repeat (constructor)) aa oT ch fun hz ci x4 O3 ac=>(?_))
    have a2:=a2.mv x4
    have a6:=a6.mv x4
    have u4:=u4.mv x4
    have u5:=u5.mv x4
    have a0:=a0.keep O3 (AS Q2)
    have hM:=hM.sB x4 O3 aS (by decide) (fun _ h=>h)
    have hR:=hR.sB x4 O3 aS (by decide) (fun _ h=>h)
    refine BS (AE (vI ((CQ s.c x.day).2.1)) rfl (EP (BS (AE (vI ((CQ s.c x.day).2.2)) rfl (EP (FH (AC (?_))))))))
    exact ⟨s4,z8,z9,(s4 :: (a1 :: Bm)),hR,trivial,⟨_,BD _ ⟨rfl,rfl,rfl,rfl,rfl,rfl,trivial⟩⟩,ci,a2,a6,a0,(by (repeat (first|exact List.mem_cons_self|apply List.mem_cons_of_mem))),hM,(by rw [show ([vI ((CQ s.c x.day).1.epoch),vI ((CQ s.c x.day).1.threshold),vI ((CQ s.c x.day).1.wait),z8,z9]:List Value)=[vI (((CQ s.c x.day).1).epoch),vI (((CQ s.c x.day).1).threshold),vI (((CQ s.c x.day).1).wait),z8,z9] from by rfl];exact ac),(by rw [show (CQ s.c x.day).1.guardians=((CQ s.c x.day).1).guardians from by rfl];exact u4),(by rw [show (CQ s.c x.day).1.recs=((CQ s.c x.day).1).recs from by rfl];exact u5),(by repeat (constructor)),Q2,ab⟩
   refine BS (AD (vP (some ⟨bm,0,none⟩)) rfl (EP (CA rfl (fun w4_ k4_=>AR ⟨bm,0,none⟩ rfl (⟨rfl,rfl⟩)) (CA rfl (fun w4_ k4_=>AH 0 ED rfl (⟨rfl,rfl⟩)) (CA rfl (fun w4_ k4_=>BI (vs:=[vI s.c.epoch,vI s.c.threshold,vI s.c.wait,gv,rv]) U28_ rfl BJ rfl ((hM.box).keep k4_ (by simp)) rfl (⟨rfl,rfl⟩)) (CA rfl (fun w4_ k4_=>AH 3 QE rfl (⟨rfl,rfl⟩)) (CA rfl (fun w4_ k4_=>AK U3_ rfl (vI x.day) rfl (a0.keep k4_ (by simp)) rfl (⟨rfl,rfl⟩)) (FA (CR [vI 0,vI 0,vI 0,nS,nS] IO rfl O2 fun s5 cj cm W5 G5 G6 K6=>(?_))))))))))
   have ad:EY bm s5:=by show bm≠s5;have:=(hM.box).lt;omega
   have Q3:EY a1 s5:=by show a1≠s5;have:=a0.lt;omega
   clear cm
   have a2:=a2.mv G5
   have a6:=a6.mv G5
   have a0:=a0.keep G6 (by simp)
   have hM:=hM.s0 G5 G6 (fun _ h=>List.mem_cons_of_mem _ h)
   have hR:=hR.s0 G5 G6 (fun _ h=>List.mem_cons_of_mem _ h)
   refine ⟨G6,?_⟩
   refine FA (BF (vs:=[vA #[vI s.c.epoch,vI s.c.threshold,vI s.c.wait,gv,rv],vI x.day]) enter_34 (c_ask (O:=(s5 :: (a1 :: Bm))++O) [vI s.c.epoch,vI s.c.threshold,vI s.c.wait,gv,rv] s.c x.day cj ⟨_,_,rfl,(hM.g),(hM.r)⟩ W5.lt) rfl W5 fun hA hB cn G7 A0 co=>(?_))
   obtain ⟨Q4,rfl,ae⟩:=co
   have a2:=a2.mv G7
   have a6:=a6.mv G7
   have a0:=a0.keep A0 (by simp)
   have K6:=K6.keep A0 (by simp)
   have hM:=hM.s0 G7 A0 (fun _ h=>h)
   have hR:=hR.s0 G7 A0 (fun _ h=>h)
   refine ⟨A0,?_⟩
   refine BS (AD (vT #[vA Q4.toArray,vI ((CQ s.c x.day).2.1),vI ((CQ s.c x.day).2.2)]) rfl (EP (CA rfl (fun w4_ k4_=>AL (vA Q4.toArray) rfl rfl (⟨rfl,rfl⟩)) (CA rfl (fun w4_ k4_=>AL (vI ((CQ s.c x.day).2.1)) rfl rfl (⟨rfl,rfl⟩)) (CA rfl (fun w4_ k4_=>AL (vI ((CQ s.c x.day).2.2)) rfl rfl (⟨rfl,rfl⟩)) (?_))))))
   obtain ⟨A1,A2,rfl,u6,u7⟩:=ae
   have:=u6.len_le
   have:=u7.len_le
   refine JM (BE (vs:=[vI (((CQ s.c x.day).1).epoch),vI (((CQ s.c x.day).1).threshold),vI (((CQ s.c x.day).1).wait),A1,A2]) (.agg #[vI (((CQ s.c x.day).1).epoch),vI (((CQ s.c x.day).1).threshold),vI (((CQ s.c x.day).1).wait),A1,A2]) rfl rfl rfl BJ (fun u hu=>by simp only [List.mem_cons,List.not_mem_nil,or_false] at hu;rcases hu with rfl|rfl|rfl|rfl|rfl <;> first|rfl|exact u6.oneCell|exact u7.oneCell) (by repeat (constructor)) K6 oT cn fun hC cp x5 O4 af=>(?_))
   have a2:=a2.mv x5
   have a6:=a6.mv x5
   have u6:=u6.mv x5
   have u7:=u7.mv x5
   have a0:=a0.keep O4 (AS Q3)
   have hM:=hM.sB x5 O4 aS (by decide) (fun _ h=>h)
   have hR:=hR.sB x5 O4 aS (by decide) (fun _ h=>h)
   refine BS (AE (vI ((CQ s.c x.day).2.1)) rfl (EP (BS (AE (vI ((CQ s.c x.day).2.2)) rfl (EP (FH (AC (?_))))))))
   exact ⟨s5,A1,A2,(s5 :: (a1 :: Bm)),hR,trivial,⟨_,BD _ ⟨rfl,rfl,rfl,rfl,rfl,rfl,trivial⟩⟩,cp,a2,a6,a0,(by (repeat (first|exact List.mem_cons_self|apply List.mem_cons_of_mem))),hM,(by rw [show ([vI ((CQ s.c x.day).1.epoch),vI ((CQ s.c x.day).1.threshold),vI ((CQ s.c x.day).1.wait),A1,A2]:List Value)=[vI (((CQ s.c x.day).1).epoch),vI (((CQ s.c x.day).1).threshold),vI (((CQ s.c x.day).1).wait),A1,A2] from by rfl];exact af),(by rw [show (CQ s.c x.day).1.guardians=((CQ s.c x.day).1).guardians from by rfl];exact u6),(by rw [show (CQ s.c x.day).1.recs=((CQ s.c x.day).1).recs from by rfl];exact u7),(by repeat (constructor)),Q3,ad⟩
  intro F cq hI
  clear a2 a6 a0 hM
  obtain ⟨b8,g5,g6,s6,Z1,hD,⟨hE,rfl⟩,W6,a2,a6,a0,g0,hM,a4,a8,a9,k0,W7,u9⟩:=hI
  have:=a8.len_le
  have:=a9.len_le
  have hR:=Z1
  refine AF (AB kR (AA (AD (vI ((CQ s.c x.day).2.2)) rfl (AA (EZ .i64 ((CQ s.c x.day).2.2) (0:Int) rfl rfl (AG (AC (AJ (((CQ s.c x.day).2.2) == (0:Int)) rfl rfl (fun K7=>?_) (fun K7=>?_)))))))))
  ·have ag:(CQ s.c x.day).2.2=(0:Int):=by simpa using K7
   have hga:=ZD hG ag
   refine AF (AF (?_))
   obtain ⟨hbx,h3,e0,f9,b0,b2,a7,d8,b1,f7,a5,d4,a3,d1,hne_vd,hT0⟩:=hM
   have Q5:∀ b,pv.ownBlock=some b→b≠a1:=a7.neB a0 (by decide)
   have A3:∀ b,pv.ownBlock=some b→b≠bm:=a7.neB hbx (by decide)
   have Q6:∀ b,pv.ownBlock=some b→b≠b8:=a7.neB a4 (by decide)
   have Q7:∀ b,pv.ownBlock=some b→vv.ownBlock≠some b:=a7.neT a5 (by decide)
   have Q8:∀ b,av.ownBlock=some b→b≠a1:=b1.neB a0 (by decide)
   have Q9:∀ b,av.ownBlock=some b→b≠bm:=b1.neB hbx (by decide)
   have R0:∀ b,av.ownBlock=some b→b≠b8:=b1.neB a4 (by decide)
   have R1:∀ b,av.ownBlock=some b→pv.ownBlock≠some b:=b1.neT a7 (by decide)
   have R2:∀ b,av.ownBlock=some b→vv.ownBlock≠some b:=b1.neT a5 (by decide)
   have R3:∀ b,av.ownBlock=some b→dv.ownBlock≠some b:=b1.neT a3 (by decide)
   have R4:∀ b,vv.ownBlock=some b→b≠a1:=a5.neB a0 (by decide)
   have A4:∀ b,vv.ownBlock=some b→b≠bm:=a5.neB hbx (by decide)
   have R5:∀ b,vv.ownBlock=some b→b≠b8:=a5.neB a4 (by decide)
   have ah:∀ b,dv.ownBlock=some b→b≠a1:=a3.neB a0 (by decide)
   have A5:∀ b,dv.ownBlock=some b→b≠bm:=a3.neB hbx (by decide)
   have ai:∀ b,dv.ownBlock=some b→b≠b8:=a3.neB a4 (by decide)
   have R6:∀ b,dv.ownBlock=some b→pv.ownBlock≠some b:=a3.neT a7 (by decide)
   have hT:=hT0
   have:=e0.len_le
   have:=f9.len_le
   have:=b0.len_le
   have:=b2.len_le
   refine AB kR (AA (AD (vI ((CQ s.c x.day).2.1)) rfl (AA (AD (vP (some ⟨bm,0,none⟩)) rfl (AA (AR ⟨bm,0,none⟩ rfl (AA (AH 9 OD rfl (AA (AK U22_ rfl (av) rfl hbx rfl (AA (NJ U22_ rfl b1 (AA (DQ .i64 ((CQ s.c x.day).2.1) (s.asked.length:Int) rfl rfl (AG (AC (?_)))))))))))))))))
   have aj:(((CQ s.c x.day).2.1) != (s.asked.length:Int))=false:=(by rw [hga.1];exact bne_self_eq_false _)
   rw [aj]
   refine AJ false rfl rfl (fun h=>by cases h) (fun _=>AT (AC (AF (SM (av.ownBlock.toList) [(0,0),(1,0),(2,4),(3,0),(4,4),(5,4),(6,4),(7,4),(8,4),(9,6),(10,6),(11,4),(12,4),(13,0),(14,4),(15,4),(16,0)] (by intro c F d v w hd;simp only [GI,FG];exact GJ c F d v w hd) kR kR kR fun A6 i6=>⟨[(0,0,GH),(1,0,GH),(2,4,GH),(3,0,GH),(4,4,GH),(5,4,GH),(6,4,GH),(7,4,GH),(8,4,GH),(9,6,GH),(10,6,GH),(11,4,GH),(12,4,GH),(13,0,GH),(14,4,GH),(15,4,GH),(16,0,GH)],rfl,⟨CC,CC,CC,CC,CC,CC,CC,CC,CC,CC,CC,CC,CC,CC,CC,CC,CC,trivial⟩,?_⟩))))
   have cr:=W6.call i6
   have k5:Mv s6 cq s6 A6:=Mv.of_keep i6
   have b1:=b1.mv k5 i6 (by simp)
   have a0:=a0.keep i6 (by simp)
   have b0:=b0.mv k5
   have b2:=b2.mv k5
   have a7:=a7.mv k5 i6 (by simp)
   have a5:=a5.mv k5 i6 (by simp)
   have a3:=a3.mv k5 i6 (by simp)
   have hbx:=hbx.keep i6 (by simp)
   have a8:=a8.mv k5
   have a9:=a9.mv k5
   have a4:=a4.keep i6 (by simp)
   have hT:=by exact hT.mv0 k5 i6 (fun x hx=>by exact hx)
   have hR:=hR.s0 k5 i6 (fun _ h=>h)
   have fa:∀ b∈(av.ownBlock.toList),b<A6.heap.size:=b1.ltL
   have R7:Keep (av.ownBlock.toList) A6 A6:=Keep.refl _ _
   refine IX (AD (vP (some ⟨bm,0,none⟩)) rfl (IX (AD (vP (some ⟨bm,0,none⟩)) rfl (EG rfl (fun w4_ k4_=>BI (vs:=[vI ((CQ s.c x.day).1.epoch),vI ((CQ s.c x.day).1.threshold),vI ((CQ s.c x.day).1.wait),g5,g6]) U28_ rfl BJ rfl (a4.keep k4_ (b1.ninL a4 (by decide))) rfl (⟨rfl,rfl⟩)) (IX (AD (vP (some ⟨bm,0,none⟩)) rfl (EG rfl (fun w4_ k4_=>AR ⟨bm,0,none⟩ rfl (⟨rfl,rfl⟩)) (EG rfl (fun w4_ k4_=>AH 9 OD rfl (⟨rfl,rfl⟩)) (EG rfl (fun w4_ k4_=>AK U22_ rfl (av) rfl (hbx.keep k4_ (b1.ninL hbx (by decide))) rfl (⟨rfl,rfl⟩)) (EG rfl (fun w4_ k4_=>AH 3 QE rfl (⟨rfl,rfl⟩)) (EG rfl (fun w4_ k4_=>AK U3_ rfl (vI x.day) rfl (a0.keep k4_ (b1.ninL a0 (by decide))) rfl (⟨rfl,rfl⟩)) (XM R7 (fun cs h5=>?_)))))))))))))
   have ct:=cr.call h5
   have k6:Mv s6 A6 s6 cs:=Mv.of_keep h5
   have b1:=b1.mv k6 h5 (by simp)
   have a8:=a8.mv k6
   have a9:=a9.mv k6
   have a0:=a0.keep h5 (by simp)
   have b0:=b0.mv k6
   have b2:=b2.mv k6
   have a7:=a7.mv k6 h5 (by simp)
   have a5:=a5.mv k6 h5 (by simp)
   have a3:=a3.mv k6 h5 (by simp)
   have hbx:=hbx.keep h5 (by simp)
   have a4:=a4.keep h5 (by simp)
   have hT:=by exact hT.mv0 k6 h5 (fun x hx=>by exact hx)
   have hR:=hR.s0 k6 h5 (fun _ h=>h)
   refine (KH (E:=Enc.int) (xs:=[.tmp 55]) U22_ OB z_3 (by decide) [vI x.day] [[vI x.day]] [x.day] rfl rfl rfl (Parts.cons rfl rfl (Parts.nil _ _ _)) oT ct fun hF cu cv k7 i7 A7=>(?_))
   have b1:=b1.mv k7 i7 (by simp)
   have a8:=a8.mv k7
   have a9:=a9.mv k7
   have a0:=a0.keep i7 (by simp)
   have b0:=b0.mv k7
   have b2:=b2.mv k7
   have a7:=a7.mv k7 i7 (by simp)
   have a5:=a5.mv k7 i7 (by simp)
   have a3:=a3.mv k7 i7 (by simp)
   have hbx:=hbx.keep i7 (by simp)
   have a4:=a4.keep i7 (by simp)
   have hT:=by exact hT.mv0 k7 i7 (fun x hx=>by exact hx)
   have hR:=hR.s0 k7 i7 (fun _ h=>h)
   have:=A7.len_le
   refine ⟨i7.nil,?_⟩
   have R8:=(R7.trans h5.nil).trans i7.nil
   refine XM R8 (fun cw h6=>?_)
   have cx:=cv.call h6
   have i8:Mv s6 cu s6 cw:=Mv.of_keep h6
   have b1:=b1.mv i8 h6 (by simp)
   have a8:=a8.mv i8
   have a9:=a9.mv i8
   have A7:=A7.mv i8
   have a0:=a0.keep h6 (by simp)
   have b0:=b0.mv i8
   have b2:=b2.mv i8
   have a7:=a7.mv i8 h6 (by simp)
   have a5:=a5.mv i8 h6 (by simp)
   have a3:=a3.mv i8 h6 (by simp)
   have hbx:=hbx.keep h6 (by simp)
   have a4:=a4.keep h6 (by simp)
   have hT:=by exact hT.mv0 i8 h6 (fun x hx=>by exact hx)
   have hR:=hR.s0 i8 h6 (fun _ h=>h)
   refine (DI (E:=Enc.int) (l:=s.asked) (m:=[x.day]) U22_ i_3 rfl (by decide) rfl rfl b1 A7 (fun _ hb=>.inl hb) f7 (by have:=hT.len;simp only [List.length_singleton];omega) (by have:=hT.len;simp only [maxLen,List.length_singleton];omega) cx fun f8 hH d9 i9 r4 i1 cy p6 k8 b4=>(?_))
   have R9:∀ b,pv.ownBlock=some b→f8.ownBlock≠some b:=fun b hb e=>by rcases r4 with e1|e1 <;> rw [e1] at e <;> first|(cases e;have:=(a7.lt _ hb).2;omega)|(exact absurd e ((fun b hb e=>R1 b e hb) b hb))
   have S0:∀ b,vv.ownBlock=some b→f8.ownBlock≠some b:=fun b hb e=>by rcases r4 with e1|e1 <;> rw [e1] at e <;> first|(cases e;have:=(a5.lt _ hb).2;omega)|(exact absurd e ((fun b hb e=>R2 b e hb) b hb))
   have S1:∀ b,dv.ownBlock=some b→f8.ownBlock≠some b:=fun b hb e=>by rcases r4 with e1|e1 <;> rw [e1] at e <;> first|(cases e;have:=(a3.lt _ hb).2;omega)|(exact absurd e ((fun b hb e=>R3 b e hb) b hb))
   have fb:∀ b,f8.ownBlock=some b→b≠a1:=fun b hb=>by rcases r4 with e1|e1 <;> rw [e1] at hb <;> first|(cases hb;have:=a0.lt;omega)|(exact Q8 b hb)
   have v0:∀ b,f8.ownBlock=some b→b≠bm:=fun b hb=>by rcases r4 with e1|e1 <;> rw [e1] at hb <;> first|(cases hb;have:=hbx.lt;omega)|(exact Q9 b hb)
   have fc:∀ b,f8.ownBlock=some b→b≠b8:=fun b hb=>by rcases r4 with e1|e1 <;> rw [e1] at hb <;> first|(cases hb;have:=a4.lt;omega)|(exact R0 b hb)
   have d8:∀ b,pv.ownBlock=some b→b∈d9:=fun b hb=>i1 b (d8 b hb)
   have d4:∀ b,vv.ownBlock=some b→b∈d9:=fun b hb=>i1 b (d4 b hb)
   have d1:∀ b,dv.ownBlock=some b→b∈d9:=fun b hb=>i1 b (d1 b hb)
   have g0:a1∈d9:=i1 a1 (by repeat (assumption))
   have h3:bm∈d9:=i1 bm (by repeat (assumption))
   have k0:b8∈d9:=i1 b8 (by repeat (assumption))
   have a8:=a8.mv p6
   have a9:=a9.mv p6
   have a0:=a0.keep k8 (by simp only [Option.mem_toList];exact fun e=>absurd rfl (Q8 _ e))
   have b0:=b0.mv p6
   have b2:=b2.mv p6
   have a7:=a7.mv p6 k8 (fun b hb=>by simp only [Option.mem_toList];exact (fun b hb e=>R1 b e hb) b hb)
   have a5:=a5.mv p6 k8 (fun b hb=>by simp only [Option.mem_toList];exact (fun b hb e=>R2 b e hb) b hb)
   have a3:=a3.mv p6 k8 (fun b hb=>by simp only [Option.mem_toList];exact (fun b hb e=>R3 b e hb) b hb)
   have hbx:=hbx.keep k8 (by simp only [Option.mem_toList];exact fun e=>absurd rfl (Q9 _ e))
   have a4:=a4.keep k8 (by simp only [Option.mem_toList];exact fun e=>absurd rfl (R0 _ e))
   have hT:=hT.mvO p6 k8 b1 (fun b hb=>Option.mem_toList.1 hb) (by decide) i1
   have hR:=hR.sO p6 k8 b1 (fun b hb=>Option.mem_toList.1 hb) (by decide) i1
   refine ⟨(k8.mono fun _ h_=>.inl (h_)),?_⟩
   have fd:=(R8.trans h6.nil).trans (k8.mono fun _ h_=>.inl (h_))
   refine EG rfl (fun w4_ k4_=>AR ⟨bm,0,none⟩ rfl (⟨rfl,rfl⟩)) (EG rfl (fun w4_ k4_=>AH 0 ED rfl (⟨rfl,rfl⟩)) (NY (BE (vs:=[vI ((CQ s.c x.day).1.epoch),vI ((CQ s.c x.day).1.threshold),vI ((CQ s.c x.day).1.wait),g5,g6]) (.agg #[vI ((CQ s.c x.day).1.epoch),vI ((CQ s.c x.day).1.threshold),vI ((CQ s.c x.day).1.wait),g5,g6]) rfl rfl rfl BJ (fun u hu=>by simp only [List.mem_cons,List.not_mem_nil,or_false] at hu;rcases hu with rfl|rfl|rfl|rfl|rfl <;> first|rfl|exact a8.oneCell|exact a9.oneCell) (by repeat (assumption)) hbx oT cy fun hJ cz k9 q7 ak=>(?_))))
   have a8:=a8.mv k9
   have a9:=a9.mv k9
   have b4:=b4.mv k9 q7 (fun b hb=>AS (v0 b hb))
   have a0:=a0.keep q7 (AS (Ne.symm u3))
   have b0:=b0.mv k9
   have b2:=b2.mv k9
   have a7:=a7.mv k9 q7 (fun b hb=>AS (A3 b hb))
   have a5:=a5.mv k9 q7 (fun b hb=>AS (A4 b hb))
   have a3:=a3.mv k9 q7 (fun b hb=>AS (A5 b hb))
   have a4:=a4.keep q7 (AS (Ne.symm u9))
   have hT:=by exact hT.mvB k9 q7 aS (by decide) (fun x hx=>by exact hx)
   have hR:=hR.sB k9 q7 aS (by decide) (fun _ h=>h)
   refine EG rfl (fun w4_ k4_=>AR ⟨bm,0,none⟩ rfl (⟨rfl,rfl⟩)) (EG rfl (fun w4_ k4_=>AH 9 OD rfl (⟨rfl,rfl⟩)) (NY (BY (f8) rfl rfl b4.oneCell s_22 (by repeat (assumption)) ak oT cz fun cA cB l0 q8 b3=>(?_))))
   have a8:=a8.mv l0
   have a9:=a9.mv l0
   have b4:=b4.mv l0 q8 (fun b hb=>AS (v0 b hb))
   have a0:=a0.keep q8 (AS (Ne.symm u3))
   have b0:=b0.mv l0
   have b2:=b2.mv l0
   have a7:=a7.mv l0 q8 (fun b hb=>AS (A3 b hb))
   have a5:=a5.mv l0 q8 (fun b hb=>AS (A4 b hb))
   have a3:=a3.mv l0 q8 (fun b hb=>AS (A5 b hb))
   have a4:=a4.keep q8 (AS (Ne.symm u9))
   have hT:=by exact hT.mvB l0 q8 aS (by decide) (fun x hx=>by exact hx)
   have hR:=hR.sB l0 q8 aS (by decide) (fun _ h=>h)
   refine wz_nil (AC (SM (pv.ownBlock.toList++vv.ownBlock.toList++dv.ownBlock.toList) [(0,0),(1,0),(2,0),(3,0),(4,4),(5,4),(6,4),(10,0),(11,4),(12,4),(13,4),(16,0),(17,4),(18,4),(19,4),(7,6),(8,6),(9,6),(14,5),(15,6),(20,5),(21,6),(22,4),(23,4),(24,0),(25,4),(26,4),(27,0),(28,4),(29,4),(30,0)] (by intro c F d v w hd;simp only [GI,FG];exact GJ c F d v w hd) kR kR kR fun s7 j0=>⟨[(0,0,GH),(1,0,GH),(2,0,GH),(3,0,GH),(4,4,GH),(5,4,GH),(6,4,GH),(10,0,GH),(11,4,GH),(12,4,GH),(13,4,GH),(16,0,GH),(17,4,GH),(18,4,GH),(19,4,GH),(7,6,GH),(8,6,GH),(9,6,GH),(14,5,LitX Enc.bool s7 (d9++O) (pv.ownBlock.toList++vv.ownBlock.toList++dv.ownBlock.toList) [false]),(15,6,GH),(20,5,LitX Enc.bool s7 (d9++O) (pv.ownBlock.toList++vv.ownBlock.toList++dv.ownBlock.toList) [false]),(21,6,GH),(22,4,GH),(23,4,GH),(24,0,GH),(25,4,GH),(26,4,GH),(27,0,GH),(28,4,GH),(29,4,GH),(30,0,GH)],rfl,⟨CC,CC,CC,CC,CC,CC,CC,CC,CC,CC,CC,CC,CC,CC,CC,CC,CC,CC,LitX.st,CC,LitX.st,CC,CC,CC,CC,CC,CC,CC,CC,CC,CC,trivial⟩,?_⟩))
   have cC:=cB.call j0
   have l1:Mv d9 cA d9 s7:=Mv.of_keep j0
   have a8:=a8.mv l1
   have a9:=a9.mv l1
   have b4:=b4.mv l1 j0 (by simp)
   have a0:=a0.keep j0 (by simp)
   have b0:=b0.mv l1
   have b2:=b2.mv l1
   have a7:=a7.mv l1 j0 (by simp)
   have a5:=a5.mv l1 j0 (by simp)
   have a3:=a3.mv l1 j0 (by simp)
   have b3:=b3.keep j0 (by simp)
   have a4:=a4.keep j0 (by simp)
   have hT:=by exact hT.mv0 l1 j0 (fun x hx=>by exact hx)
   have hR:=hR.s0 l1 j0 (fun _ h=>h)
   have S2:∀ b∈(pv.ownBlock.toList++vv.ownBlock.toList++dv.ownBlock.toList),b<s7.heap.size:=(lt_app (lt_app a7.ltL a5.ltL) a3.ltL)
   have S3:Keep (pv.ownBlock.toList++vv.ownBlock.toList++dv.ownBlock.toList) s7 s7:=Keep.refl _ _
   refine IX (AD (vP (some ⟨bm,0,none⟩)) rfl (IX (AD (vP (some ⟨bm,0,none⟩)) rfl (IX (AD (vP (some ⟨bm,0,none⟩)) rfl (IX (AD (vP (some ⟨bm,0,none⟩)) rfl (EG rfl (fun w4_ k4_=>AR ⟨bm,0,none⟩ rfl (⟨rfl,rfl⟩)) (EG rfl (fun w4_ k4_=>AH 8 f_39_4 rfl (⟨rfl,rfl⟩)) (EG rfl (fun w4_ k4_=>AK U36_ rfl (pv) rfl (b3.keep k4_ (QX (QX (a7.ninL b3 (by decide)) (a5.ninL b3 (by decide))) (a3.ninL b3 (by decide)))) rfl (⟨rfl,rfl⟩)) (IX (AD (vP (some ⟨bm,0,none⟩)) rfl (EG rfl (fun w4_ k4_=>AR ⟨bm,0,none⟩ rfl (⟨rfl,rfl⟩)) (EG rfl (fun w4_ k4_=>AH 10 f_39_6 rfl (⟨rfl,rfl⟩)) (EG rfl (fun w4_ k4_=>AK U37_ rfl (vv) rfl (b3.keep k4_ (QX (QX (a7.ninL b3 (by decide)) (a5.ninL b3 (by decide))) (a3.ninL b3 (by decide)))) rfl (⟨rfl,rfl⟩)) (IX (AD (vP (some ⟨bm,0,none⟩)) rfl (EG rfl (fun w4_ k4_=>AR ⟨bm,0,none⟩ rfl (⟨rfl,rfl⟩)) (EG rfl (fun w4_ k4_=>AH 11 NL rfl (⟨rfl,rfl⟩)) (EG rfl (fun w4_ k4_=>AK U37_ rfl (dv) rfl (b3.keep k4_ (QX (QX (a7.ninL b3 (by decide)) (a5.ninL b3 (by decide))) (a3.ninL b3 (by decide)))) rfl (⟨rfl,rfl⟩)) (XM S3 (fun cD h7=>?_))))))))))))))))))))))
   have cE:=cC.call h7
   have l2:Mv d9 s7 d9 cD:=Mv.of_keep h7
   have a8:=a8.mv l2
   have a9:=a9.mv l2
   have b4:=b4.mv l2 h7 (by simp)
   have a7:=a7.mv l2 h7 (by simp)
   have a5:=a5.mv l2 h7 (by simp)
   have a3:=a3.mv l2 h7 (by simp)
   have a0:=a0.keep h7 (by simp)
   have b0:=b0.mv l2
   have b2:=b2.mv l2
   have b3:=b3.keep h7 (by simp)
   have a4:=a4.keep h7 (by simp)
   have hT:=by exact hT.mv0 l2 h7 (fun x hx=>by exact hx)
   have hR:=hR.s0 l2 h7 (fun _ h=>h)
   refine (o_makeMapV vI vO cE fun c7 cF cG cH l3 j1 h4=>(?_))
   have S4:=hT.old (r:=c7) oM
   have fe:EY a1 c7:=by show a1≠c7;have:=a0.lt;omega
   have ff:EY bm c7:=by show bm≠c7;have:=b3.lt;omega
   have fg:EY b8 c7:=by show b8≠c7;have:=a4.lt;omega
   have fh:∀ b,f8.ownBlock=some b→b≠c7:=fun b hb=>by have:=(b4.lt b hb).2;omega
   have S5:∀ b,pv.ownBlock=some b→b≠c7:=fun b hb=>by have:=(a7.lt b hb).2;omega
   have fi:∀ b,vv.ownBlock=some b→b≠c7:=fun b hb=>by have:=(a5.lt b hb).2;omega
   have fj:∀ b,dv.ownBlock=some b→b≠c7:=fun b hb=>by have:=(a3.lt b hb).2;omega
   have i9:∀ b,f8.ownBlock=some b→b∈(c7 :: d9):=fun b hb=>List.mem_cons_of_mem _ (i9 b hb)
   have d8:∀ b,pv.ownBlock=some b→b∈(c7 :: d9):=fun b hb=>List.mem_cons_of_mem _ (d8 b hb)
   have d4:∀ b,vv.ownBlock=some b→b∈(c7 :: d9):=fun b hb=>List.mem_cons_of_mem _ (d4 b hb)
   have d1:∀ b,dv.ownBlock=some b→b∈(c7 :: d9):=fun b hb=>List.mem_cons_of_mem _ (d1 b hb)
   clear cG
   have a8:=a8.mv l3
   have a9:=a9.mv l3
   have b4:=b4.mv l3 j1 (by simp)
   have a7:=a7.mv l3 j1 (by simp)
   have a5:=a5.mv l3 j1 (by simp)
   have a3:=a3.mv l3 j1 (by simp)
   have a0:=a0.keep j1 (by simp)
   have b0:=b0.mv l3
   have b2:=b2.mv l3
   have b3:=b3.keep j1 (by simp)
   have a4:=a4.keep j1 (by simp)
   have hT:=by exact hT.mv0 l3 j1 (fun x hx=>by exact List.mem_cons_of_mem _ hx)
   have hR:=hR.s0 l3 j1 (fun _ h=>List.mem_cons_of_mem _ h)
   refine ⟨j1.nil,?_⟩
   have S6:=(S3.trans h7.nil).trans j1.nil
   refine XM S6 (fun cI g7=>?_)
   have cJ:=cH.call g7
   have l4:Mv (c7 :: d9) cF (c7 :: d9) cI:=Mv.of_keep g7
   have a8:=a8.mv l4
   have a9:=a9.mv l4
   have b4:=b4.mv l4 g7 (by simp)
   have a7:=a7.mv l4 g7 (by simp)
   have a5:=a5.mv l4 g7 (by simp)
   have a3:=a3.mv l4 g7 (by simp)
   have a0:=a0.keep g7 (by simp)
   have b0:=b0.mv l4
   have b2:=b2.mv l4
   have b3:=b3.keep g7 (by simp)
   have a4:=a4.keep g7 (by simp)
   have h4:=h4.keep g7 (by simp)
   have hT:=by exact hT.mv0 l4 g7 (fun x hx=>by exact hx)
   have hR:=hR.s0 l4 g7 (fun _ h=>h)
   refine (KH (E:=Enc.val) (xs:=[.tmp 69]) U36_ s_75 z_75 (by decide) [Value.map (some c7)] [[Value.map (some c7)]] [(.map (some c7):Value)] rfl rfl rfl (Parts.cons rfl ⟨rfl,rfl⟩ (Parts.nil _ _ _)) oT cJ fun hK cK cL l5 h8 A8=>(?_))
   have a8:=a8.mv l5
   have a9:=a9.mv l5
   have b4:=b4.mv l5 h8 (by simp)
   have a7:=a7.mv l5 h8 (by simp)
   have a5:=a5.mv l5 h8 (by simp)
   have a3:=a3.mv l5 h8 (by simp)
   have a0:=a0.keep h8 (by simp)
   have b0:=b0.mv l5
   have b2:=b2.mv l5
   have b3:=b3.keep h8 (by simp)
   have a4:=a4.keep h8 (by simp)
   have h4:=h4.keep h8 (by simp)
   have hT:=by exact hT.mv0 l5 h8 (fun x hx=>by exact hx)
   have hR:=hR.s0 l5 h8 (fun _ h=>h)
   have:=A8.len_le
   refine ⟨h8.nil,?_⟩
   have S7:=(S6.trans g7.nil).trans h8.nil
   refine XM S7 (fun cM g8=>?_)
   have cN:=cL.call g8
   have j2:Mv (c7 :: d9) cK (c7 :: d9) cM:=Mv.of_keep g8
   have a8:=a8.mv j2
   have a9:=a9.mv j2
   have b4:=b4.mv j2 g8 (by simp)
   have a7:=a7.mv j2 g8 (by simp)
   have A8:=A8.mv j2
   have a5:=a5.mv j2 g8 (by simp)
   have a3:=a3.mv j2 g8 (by simp)
   have a0:=a0.keep g8 (by simp)
   have b0:=b0.mv j2
   have b2:=b2.mv j2
   have b3:=b3.keep g8 (by simp)
   have a4:=a4.keep g8 (by simp)
   have h4:=h4.keep g8 (by simp)
   have hT:=by exact hT.mv0 j2 g8 (fun x hx=>by exact hx)
   have hR:=hR.s0 j2 g8 (fun _ h=>h)
   refine (DI (E:=Enc.val) (l:=L) (m:=[(.map (some c7):Value)]) U36_ i_75 rfl (by decide) rfl rfl a7 A8 (fun _ hb=>.inl hb) d8 (by have:=hT.len;simp only [List.length_singleton];omega) (by have:=hT.len;simp only [maxLen,List.length_singleton];omega) cN fun g9 cO j3 v1 q4 h0 cP p7 j4 d0=>(?_))
   have fk:∀ b,f8.ownBlock=some b→g9.ownBlock≠some b:=fun b hb e=>by rcases q4 with e1|e1 <;> rw [e1] at e <;> first|(cases e;have:=(b4.lt _ hb).2;omega)|(exact absurd e ((fun b hb e=>R9 b e hb) b hb))
   have S8:∀ b,vv.ownBlock=some b→g9.ownBlock≠some b:=fun b hb e=>by rcases q4 with e1|e1 <;> rw [e1] at e <;> first|(cases e;have:=(a5.lt _ hb).2;omega)|(exact absurd e ((fun b hb e=>Q7 b e hb) b hb))
   have S9:∀ b,dv.ownBlock=some b→g9.ownBlock≠some b:=fun b hb e=>by rcases q4 with e1|e1 <;> rw [e1] at e <;> first|(cases e;have:=(a3.lt _ hb).2;omega)|(exact absurd e (R6 b hb))
   have fl:∀ b,g9.ownBlock=some b→b≠a1:=fun b hb=>by rcases q4 with e1|e1 <;> rw [e1] at hb <;> first|(cases hb;have:=a0.lt;omega)|(exact Q5 b hb)
   have K8:∀ b,g9.ownBlock=some b→b≠bm:=fun b hb=>by rcases q4 with e1|e1 <;> rw [e1] at hb <;> first|(cases hb;have:=b3.lt;omega)|(exact A3 b hb)
   have fm:∀ b,g9.ownBlock=some b→b≠b8:=fun b hb=>by rcases q4 with e1|e1 <;> rw [e1] at hb <;> first|(cases hb;have:=a4.lt;omega)|(exact Q6 b hb)
   have fn:∀ b,g9.ownBlock=some b→b≠c7:=fun b hb=>by rcases q4 with e1|e1 <;> rw [e1] at hb <;> first|(cases hb;have:=h4.lt;omega)|(exact S5 b hb)
   have i9:∀ b,f8.ownBlock=some b→b∈j3:=fun b hb=>h0 b (i9 b hb)
   have d4:∀ b,vv.ownBlock=some b→b∈j3:=fun b hb=>h0 b (d4 b hb)
   have d1:∀ b,dv.ownBlock=some b→b∈j3:=fun b hb=>h0 b (d1 b hb)
   have g0:a1∈j3:=h0 a1 rC
   have h3:bm∈j3:=h0 bm rC
   have k0:b8∈j3:=h0 b8 rC
   have T0:c7∈j3:=h0 c7 (by repeat (constructor))
   have a8:=a8.mv p7
   have a9:=a9.mv p7
   have b4:=b4.mv p7 j4 (fun b hb=>by simp only [Option.mem_toList];exact (fun b hb e=>R9 b e hb) b hb)
   have a5:=a5.mv p7 j4 (fun b hb=>by simp only [Option.mem_toList];exact (fun b hb e=>Q7 b e hb) b hb)
   have a3:=a3.mv p7 j4 (fun b hb=>by simp only [Option.mem_toList];exact R6 b hb)
   have a0:=a0.keep j4 (by simp only [Option.mem_toList];exact fun e=>absurd rfl (Q5 _ e))
   have b0:=b0.mv p7
   have b2:=b2.mv p7
   have b3:=b3.keep j4 (by simp only [Option.mem_toList];exact fun e=>absurd rfl (A3 _ e))
   have a4:=a4.keep j4 (by simp only [Option.mem_toList];exact fun e=>absurd rfl (Q6 _ e))
   have h4:=h4.keep j4 (by simp only [Option.mem_toList];exact fun e=>absurd rfl (S5 _ e))
   have hT:=hT.mvO p7 j4 a7 (fun b hb=>Option.mem_toList.1 hb) (by decide) h0
   have hR:=hR.sO p7 j4 a7 (fun b hb=>Option.mem_toList.1 hb) (by decide) h0
   have hT:=hT.push h4 T0 S4
   refine ⟨(j4.mono fun _ h_=>.inl (List.mem_append_left _ (List.mem_append_left _ (h_)))),?_⟩
   have T1:=(S7.trans g8.nil).trans (j4.mono fun _ h_=>.inl (List.mem_append_left _ (List.mem_append_left _ (h_))))
   refine wz_s5 T1 (fun w5_ k5_=>o_litX (E:=Enc.bool) (xs:=[.const (vO false)]) S2 k5_ U37_ s_4 z_4 (by decide) [vO false] [[vO false]] [false] rfl rfl rfl (Parts.cons rfl rfl (Parts.nil _ _ _)) oT (fun v_ w_ k_ h_=>⟨k_,h_⟩)) (fun hL W8 h9 cQ=>?_)
   have cR:=cP.call h9
   have l6:Mv j3 cO j3 W8:=Mv.of_keep h9
   have a8:=a8.mv l6
   have a9:=a9.mv l6
   have b4:=b4.mv l6 h9 (by simp)
   have d0:=d0.mv l6 h9 (by simp)
   have a5:=a5.mv l6 h9 (by simp)
   have a3:=a3.mv l6 h9 (by simp)
   have a0:=a0.keep h9 (by simp)
   have b0:=b0.mv l6
   have b2:=b2.mv l6
   have b3:=b3.keep h9 (by simp)
   have a4:=a4.keep h9 (by simp)
   have hT:=by exact hT.mv0 l6 h9 (fun x hx=>by exact hx)
   have hR:=hR.s0 l6 h9 (fun _ h=>h)
   have K9:=cQ.1
   have T2:=T1.trans h9.nil
   refine XM T2 (fun cS h1=>?_)
   have cT:=cR.call h1
   have l7:Mv j3 W8 j3 cS:=Mv.of_keep h1
   have a8:=a8.mv l7
   have a9:=a9.mv l7
   have b4:=b4.mv l7 h1 (by simp)
   have d0:=d0.mv l7 h1 (by simp)
   have a5:=a5.mv l7 h1 (by simp)
   have a3:=a3.mv l7 h1 (by simp)
   have a0:=a0.keep h1 (by simp)
   have b0:=b0.mv l7
   have b2:=b2.mv l7
   have b3:=b3.keep h1 (by simp)
   have a4:=a4.keep h1 (by simp)
   have hT:=by exact hT.mv0 l7 h1 (fun x hx=>by exact hx)
   have hR:=hR.s0 l7 h1 (fun _ h=>h)
   have K9:=K9.keep h1
   refine (UI (E:=Enc.bool) (l:=s.vetoed) (m:=[false]) U37_ i_4 rfl (by decide) rfl rfl a5 K9 (fun _ _ h=>h) d4 (by have:=hT.len;simp only [List.length_singleton];omega) (by have:=hT.len;simp only [maxLen,List.length_singleton];omega) cT fun l8 cU l9 L0 r5 i2 cV p8 m0 e6=>(?_))
   have fo:∀ b,f8.ownBlock=some b→l8.ownBlock≠some b:=fun b hb e=>by rcases r5 with e1|e1 <;> rw [e1] at e <;> first|(cases e;have:=(b4.lt _ hb).2;omega)|(exact absurd e ((fun b hb e=>S0 b e hb) b hb))
   have fp:∀ b,g9.ownBlock=some b→l8.ownBlock≠some b:=fun b hb e=>by rcases r5 with e1|e1 <;> rw [e1] at e <;> first|(cases e;have:=(d0.lt _ hb).2;omega)|(exact absurd e ((fun b hb e=>S8 b e hb) b hb))
   have T3:∀ b,dv.ownBlock=some b→l8.ownBlock≠some b:=fun b hb e=>by rcases r5 with e1|e1 <;> rw [e1] at e <;> first|(cases e;have:=(a3.lt _ hb).2;omega)|(exact absurd e ((fun b hb e=>hne_vd b e hb) b hb))
   have fq:∀ b,l8.ownBlock=some b→b≠a1:=fun b hb=>by rcases r5 with e1|e1 <;> rw [e1] at hb <;> first|(cases hb;have:=a0.lt;omega)|(exact R4 b hb)
   have L1:∀ b,l8.ownBlock=some b→b≠bm:=fun b hb=>by rcases r5 with e1|e1 <;> rw [e1] at hb <;> first|(cases hb;have:=b3.lt;omega)|(exact A4 b hb)
   have fr:∀ b,l8.ownBlock=some b→b≠b8:=fun b hb=>by rcases r5 with e1|e1 <;> rw [e1] at hb <;> first|(cases hb;have:=a4.lt;omega)|(exact R5 b hb)
   have i9:∀ b,f8.ownBlock=some b→b∈l9:=fun b hb=>i2 b (i9 b hb)
   have v1:∀ b,g9.ownBlock=some b→b∈l9:=fun b hb=>i2 b (v1 b hb)
   have d1:∀ b,dv.ownBlock=some b→b∈l9:=fun b hb=>i2 b (d1 b hb)
   have g0:a1∈l9:=i2 a1 (by repeat (assumption))
   have h3:bm∈l9:=i2 bm (by repeat (assumption))
   have k0:b8∈l9:=i2 b8 (by repeat (assumption))
   have a8:=a8.mv p8
   have a9:=a9.mv p8
   have b4:=b4.mv p8 m0 (fun b hb=>by simp only [Option.mem_toList];exact (fun b hb e=>S0 b e hb) b hb)
   have d0:=d0.mv p8 m0 (fun b hb=>by simp only [Option.mem_toList];exact (fun b hb e=>S8 b e hb) b hb)
   have a3:=a3.mv p8 m0 (fun b hb=>by simp only [Option.mem_toList];exact (fun b hb e=>hne_vd b e hb) b hb)
   have a0:=a0.keep m0 (by simp only [Option.mem_toList];exact fun e=>absurd rfl (R4 _ e))
   have b0:=b0.mv p8
   have b2:=b2.mv p8
   have b3:=b3.keep m0 (by simp only [Option.mem_toList];exact fun e=>absurd rfl (A4 _ e))
   have a4:=a4.keep m0 (by simp only [Option.mem_toList];exact fun e=>absurd rfl (R5 _ e))
   have hT:=hT.mvO p8 m0 a5 (fun b hb=>Option.mem_toList.1 hb) (by decide) i2
   have hR:=hR.sO p8 m0 a5 (fun b hb=>Option.mem_toList.1 hb) (by decide) i2
   refine ⟨(m0.mono fun _ h_=>.inl (List.mem_append_left _ (List.mem_append_right _ h_))),?_⟩
   have T4:=(T2.trans h1.nil).trans (m0.mono fun _ h_=>.inl (List.mem_append_left _ (List.mem_append_right _ h_)))
   refine wz_s5 T4 (fun w5_ k5_=>o_litX (E:=Enc.bool) (xs:=[.const (vO false)]) S2 k5_ U37_ s_4 z_4 (by decide) [vO false] [[vO false]] [false] rfl rfl rfl (Parts.cons rfl rfl (Parts.nil _ _ _)) oT (fun v_ w_ k_ h_=>⟨k_,h_⟩)) (fun hN W9 i0 cW=>?_)
   have cX:=cV.call i0
   have m1:Mv l9 cU l9 W9:=Mv.of_keep i0
   have a8:=a8.mv m1
   have a9:=a9.mv m1
   have b4:=b4.mv m1 i0 (by simp)
   have d0:=d0.mv m1 i0 (by simp)
   have e6:=e6.mv m1 i0 (by simp)
   have a3:=a3.mv m1 i0 (by simp)
   have a0:=a0.keep i0 (by simp)
   have b0:=b0.mv m1
   have b2:=b2.mv m1
   have b3:=b3.keep i0 (by simp)
   have a4:=a4.keep i0 (by simp)
   have hT:=by exact hT.mv0 m1 i0 (fun x hx=>by exact hx)
   have hR:=hR.s0 m1 i0 (fun _ h=>h)
   have L2:=cW.1
   have T5:=T4.trans i0.nil
   refine XM T5 (fun cY h2=>?_)
   have cZ:=cX.call h2
   have m2:Mv l9 W9 l9 cY:=Mv.of_keep h2
   have a8:=a8.mv m2
   have a9:=a9.mv m2
   have b4:=b4.mv m2 h2 (by simp)
   have d0:=d0.mv m2 h2 (by simp)
   have e6:=e6.mv m2 h2 (by simp)
   have a3:=a3.mv m2 h2 (by simp)
   have a0:=a0.keep h2 (by simp)
   have b0:=b0.mv m2
   have b2:=b2.mv m2
   have b3:=b3.keep h2 (by simp)
   have a4:=a4.keep h2 (by simp)
   have hT:=by exact hT.mv0 m2 h2 (fun x hx=>by exact hx)
   have hR:=hR.s0 m2 h2 (fun _ h=>h)
   have L2:=L2.keep h2
   refine (UI (E:=Enc.bool) (l:=s.done) (m:=[false]) U37_ i_4 rfl (by decide) rfl rfl a3 L2 (fun _ _ h=>h) d1 (by have:=hT.len;simp only [List.length_singleton];omega) (by have:=hT.len;simp only [maxLen,List.length_singleton];omega) cZ fun q9 hO s8 al r6 i3 db p9 r0 p3=>(?_))
   have fs:∀ b,f8.ownBlock=some b→q9.ownBlock≠some b:=fun b hb e=>by rcases r6 with e1|e1 <;> rw [e1] at e <;> first|(cases e;have:=(b4.lt _ hb).2;omega)|(exact absurd e ((fun b hb e=>S1 b e hb) b hb))
   have ft:∀ b,g9.ownBlock=some b→q9.ownBlock≠some b:=fun b hb e=>by rcases r6 with e1|e1 <;> rw [e1] at e <;> first|(cases e;have:=(d0.lt _ hb).2;omega)|(exact absurd e ((fun b hb e=>S9 b e hb) b hb))
   have am:∀ b,l8.ownBlock=some b→q9.ownBlock≠some b:=fun b hb e=>by rcases r6 with e1|e1 <;> rw [e1] at e <;> first|(cases e;have:=(e6.lt _ hb).2;omega)|(exact absurd e ((fun b hb e=>T3 b e hb) b hb))
   have fu:∀ b,q9.ownBlock=some b→b≠a1:=fun b hb=>by rcases r6 with e1|e1 <;> rw [e1] at hb <;> first|(cases hb;have:=a0.lt;omega)|(exact ah b hb)
   have L3:∀ b,q9.ownBlock=some b→b≠bm:=fun b hb=>by rcases r6 with e1|e1 <;> rw [e1] at hb <;> first|(cases hb;have:=b3.lt;omega)|(exact A5 b hb)
   have fv:∀ b,q9.ownBlock=some b→b≠b8:=fun b hb=>by rcases r6 with e1|e1 <;> rw [e1] at hb <;> first|(cases hb;have:=a4.lt;omega)|(exact ai b hb)
   have i9:∀ b,f8.ownBlock=some b→b∈s8:=fun b hb=>i3 b (i9 b hb)
   have v1:∀ b,g9.ownBlock=some b→b∈s8:=fun b hb=>i3 b (v1 b hb)
   have L0:∀ b,l8.ownBlock=some b→b∈s8:=fun b hb=>i3 b (L0 b hb)
   have g0:a1∈s8:=i3 a1 (by repeat (assumption))
   have h3:bm∈s8:=i3 bm (by repeat (assumption))
   have k0:b8∈s8:=i3 b8 (by repeat (assumption))
   have a8:=a8.mv p9
   have a9:=a9.mv p9
   have b4:=b4.mv p9 r0 (fun b hb=>by simp only [Option.mem_toList];exact (fun b hb e=>S1 b e hb) b hb)
   have d0:=d0.mv p9 r0 (fun b hb=>by simp only [Option.mem_toList];exact (fun b hb e=>S9 b e hb) b hb)
   have e6:=e6.mv p9 r0 (fun b hb=>by simp only [Option.mem_toList];exact (fun b hb e=>T3 b e hb) b hb)
   have b0:=b0.mv p9
   have b2:=b2.mv p9
   have b3:=b3.keep r0 (by simp only [Option.mem_toList];exact fun e=>absurd rfl (A5 _ e))
   have hT:=hT.mvO p9 r0 a3 (fun b hb=>Option.mem_toList.1 hb) (by decide) i3
   have hR:=hR.sO p9 r0 a3 (fun b hb=>Option.mem_toList.1 hb) (by decide) i3
   refine ⟨(r0.mono fun _ h_=>.inl (List.mem_append_right _ h_)),?_⟩
   have fw:=(T5.trans h2.nil).trans (r0.mono fun _ h_=>.inl (List.mem_append_right _ h_))
   refine EG rfl (fun w4_ k4_=>AR ⟨bm,0,none⟩ rfl (⟨rfl,rfl⟩)) (EG rfl (fun w4_ k4_=>AH 8 f_39_4 rfl (⟨rfl,rfl⟩)) (NY (BY (g9) rfl rfl d0.oneCell s_36 (by repeat (assumption)) b3 oT db fun hP dc m3 x6 an=>(?_))))
   have a8:=a8.mv m3
   have a9:=a9.mv m3
   have b4:=b4.mv m3 x6 (fun b hb=>AS (v0 b hb))
   have d0:=d0.mv m3 x6 (fun b hb=>AS (K8 b hb))
   have e6:=e6.mv m3 x6 (fun b hb=>AS (L1 b hb))
   have p3:=p3.mv m3 x6 (fun b hb=>AS (L3 b hb))
   have b0:=b0.mv m3
   have b2:=b2.mv m3
   have hT:=by exact hT.mvB m3 x6 aS (by decide) (fun x hx=>by exact hx)
   have hR:=hR.sB m3 x6 aS (by decide) (fun _ h=>h)
   refine EG rfl (fun w4_ k4_=>AR ⟨bm,0,none⟩ rfl (⟨rfl,rfl⟩)) (EG rfl (fun w4_ k4_=>AH 10 f_39_6 rfl (⟨rfl,rfl⟩)) (NY (BY (l8) rfl rfl e6.oneCell s_37 (by repeat (assumption)) an oT dc fun hQ dd m4 x7 ao=>(?_))))
   have a8:=a8.mv m4
   have a9:=a9.mv m4
   have b4:=b4.mv m4 x7 (fun b hb=>AS (v0 b hb))
   have d0:=d0.mv m4 x7 (fun b hb=>AS (K8 b hb))
   have e6:=e6.mv m4 x7 (fun b hb=>AS (L1 b hb))
   have p3:=p3.mv m4 x7 (fun b hb=>AS (L3 b hb))
   have b0:=b0.mv m4
   have b2:=b2.mv m4
   have hT:=by exact hT.mvB m4 x7 aS (by decide) (fun x hx=>by exact hx)
   have hR:=hR.sB m4 x7 aS (by decide) (fun _ h=>h)
   refine EG rfl (fun w4_ k4_=>AR ⟨bm,0,none⟩ rfl (⟨rfl,rfl⟩)) (EG rfl (fun w4_ k4_=>AH 11 NL rfl (⟨rfl,rfl⟩)) (NY (BY (q9) rfl rfl p3.oneCell s_37 (by repeat (assumption)) ao oT dd fun hS de m5 x8 ap=>(?_))))
   have a8:=a8.mv m5
   have a9:=a9.mv m5
   have b4:=b4.mv m5 x8 (fun b hb=>AS (v0 b hb))
   have d0:=d0.mv m5 x8 (fun b hb=>AS (K8 b hb))
   have e6:=e6.mv m5 x8 (fun b hb=>AS (L1 b hb))
   have p3:=p3.mv m5 x8 (fun b hb=>AS (L3 b hb))
   have b0:=b0.mv m5
   have b2:=b2.mv m5
   have hT:=by exact hT.mvB m5 x8 aS (by decide) (fun x hx=>by exact hx)
   have hR:=hR.sB m5 x8 aS (by decide) (fun _ h=>h)
   refine wz_nil (CB (AC (AF (AB kR (AA (AE (vO true) rfl (AG (AC (AM (AZ rfl (CN rfl rfl rfl) (?_)))))))))))
   have hdo:NG s x=(⟨(CQ s.c x.day).1,s.l,s.old,s.renewed,s.asked++([x.day]),s.appr++[fun _=>false],s.vetoed++([false]),s.done++([false])⟩:MovR):=by exact do_0y aS aS
   exact ⟨rfl,s8,g5,g6,lv,ov,L++([(.map (some c7):Value)]),g9,f8,l8,q9,de,hR.ms,hR.sb,hR.F,by rw [hdo];exact ⟨ap,(by repeat (assumption)),a8,a9,b0,b2,d0,v1,b4,i9,e6,L0,p3,al,am,hT⟩⟩
  have fx:(CQ s.c x.day).2.2≠(0:Int):=by simpa using K7
  refine AT (CB (AC (AF (AB kR (AA (AE (vO true) rfl (AG (AC (AM (AZ rfl (CN rfl rfl rfl) (?_)))))))))))
  have hdo:NG s x=s:=by exact do_0n aS aS
  exact ⟨rfl,s6,gv,rv,lv,ov,L,pv,av,vv,dv,W6,hR.ms,hR.sb,hR.F,by rw [hdo];exact hM⟩
 have fy:x.kind≠(0:UInt8):=by simpa using K3
 refine AF (AB kR (AA (PN x.kind (1:UInt8) rfl rfl (AA (AE (vO (x.kind == (1:UInt8))) rfl (AG (AC (AJ (x.kind == (1:UInt8)) rfl rfl (fun L4=>?_) (fun L4=>?_)))))))))
 ·have fz:x.kind=(1:UInt8):=by simpa using L4
  refine OH (fun FI wI=>∃ (f0:Nat) (g1:Value) (g2:Value) (B:List Nat),FrM w Bm B wI∧True∧(∃ F1,FI=GN F1 [(0,vP (some ⟨bm,0,none⟩)),(3,vP (some ⟨a1,0,none⟩)),(8,vP (some ⟨f0,0,none⟩)),(9,vI ((AW s.c x.no (AV s.c x.guardian)).2)),(381,undef)])∧St w0 O wI B∧BL Enc.u8 wI (B++O) (d3) (x.coins)∧BL Enc.int wI (B++O) (e7) (x.guardians)∧FT wI a1 41 [vB x.kind,vI x.no,vI x.guardian,vI x.day,d3,e7,vI x.threshold]∧a1∈B∧MovS w0 O B wI bm gv rv lv ov L pv av vv dv s∧FT wI f0 28 [vI ((AW s.c x.no (AV s.c x.guardian)).1.epoch),vI ((AW s.c x.no (AV s.c x.guardian)).1.threshold),vI ((AW s.c x.no (AV s.c x.guardian)).1.wait),g1,g2]∧BL Enc.int wI (B++O) g1 ((AW s.c x.no (AV s.c x.guardian)).1.guardians)∧BL Enc.recovery wI (B++O) g2 ((AW s.c x.no (AV s.c x.guardian)).1.recs)∧f0∈B∧EY a1 f0∧EY bm f0) ?_ ?_
  ·refine FM [] [8,12] [[(0,1),(1,4),(2,4),(3,4),(4,4),(5,4),(6,4),(7,4),(8,2),(9,1),(10,4),(11,4),(12,2),(13,0),(14,1)],[(0,1),(1,4),(2,4),(3,4),(4,4),(5,4),(6,4),(7,4),(12,2),(8,2),(9,1),(10,4),(11,4),(13,0),(14,1)]] (by intro c F d v w hd;(try simp only [GI,FG]);exact GJ c F d v w hd) kR kR kR fun X0 A9=>?_
   have O5:=s3.call A9
   have G8:Mv (a1 :: Bm) x3 (a1 :: Bm) X0:=Mv.of_keep A9
   have a2:=a2.mv G8
   have a6:=a6.mv G8
   have a0:=a0.keep A9 (by simp)
   have hM:=hM.s0 G8 A9 (fun _ h=>h)
   have hR:=hR.s0 G8 A9 (fun _ h=>h)
   refine ⟨?_,?_,trivial⟩
   ·refine BS (AD (vP (some ⟨bm,0,none⟩)) rfl (EP (CA rfl (fun w4_ k4_=>AR ⟨bm,0,none⟩ rfl (⟨rfl,rfl⟩)) (CA rfl (fun w4_ k4_=>AH 0 ED rfl (⟨rfl,rfl⟩)) (CA rfl (fun w4_ k4_=>BI (vs:=[vI s.c.epoch,vI s.c.threshold,vI s.c.wait,gv,rv]) U28_ rfl BJ rfl ((hM.box).keep k4_ (by simp)) rfl (⟨rfl,rfl⟩)) (CA rfl (fun w4_ k4_=>AH 1 GU rfl (⟨rfl,rfl⟩)) (CA rfl (fun w4_ k4_=>AK U3_ rfl (vI x.no) rfl (a0.keep k4_ (by simp)) rfl (⟨rfl,rfl⟩)) (CA rfl (fun w4_ k4_=>AH 2 f_41_2 rfl (⟨rfl,rfl⟩)) (CA rfl (fun w4_ k4_=>AK U3_ rfl (vI x.guardian) rfl (a0.keep k4_ (by simp)) rfl (⟨rfl,rfl⟩)) (FA (BF (vs:=[vA #[vI s.c.epoch,vI s.c.threshold,vI s.c.wait,gv,rv],vI x.no,vI x.guardian]) enter_35 (ZQ (O:=(a1 :: Bm)++O) [vI s.c.epoch,vI s.c.threshold,vI s.c.wait,gv,rv] s.c x.no x.guardian X0 ⟨_,_,rfl,(hM.g),(hM.r)⟩ O5.lt) rfl O5 fun hU hV df G9 H0 dg=>(?_))))))))))))
    obtain ⟨L5,rfl,L6⟩:=dg
    have a2:=a2.mv G9
    have a6:=a6.mv G9
    have a0:=a0.keep H0 (by simp)
    have hM:=hM.s0 G9 H0 (fun _ h=>h)
    have hR:=hR.s0 G9 H0 (fun _ h=>h)
    refine ⟨H0,?_⟩
    refine BS (AD (vT #[vA L5.toArray,vI ((AW s.c x.no (AV s.c x.guardian)).2)]) rfl (EP (CA rfl (fun w4_ k4_=>AL (vA L5.toArray) rfl rfl (⟨rfl,rfl⟩)) (CA rfl (fun w4_ k4_=>AL (vI ((AW s.c x.no (AV s.c x.guardian)).2)) rfl rfl (⟨rfl,rfl⟩)) (FA (CR [vI 0,vI 0,vI 0,nS,nS] IO rfl df fun s9 dh di dj B0 H1 aq=>(?_)))))))
    have ar:EY bm s9:=by show bm≠s9;have:=(hM.box).lt;omega
    have T6:EY a1 s9:=by show a1≠s9;have:=a0.lt;omega
    clear di
    have a2:=a2.mv B0
    have a6:=a6.mv B0
    have L6:Enc.circle.rd dh ((s9 :: (a1 :: Bm))++O) L5 ((AW s.c x.no (AV s.c x.guardian)).1):=Enc.mv Enc.circle (x:=(AW s.c x.no (AV s.c x.guardian)).1) L6 B0
    have a0:=a0.keep H1 (by simp)
    have hM:=hM.s0 B0 H1 (fun _ h=>List.mem_cons_of_mem _ h)
    have hR:=hR.s0 B0 H1 (fun _ h=>List.mem_cons_of_mem _ h)
    refine ⟨H1,?_⟩
    obtain ⟨B1,B2,rfl,v2,v3⟩:=L6
    have:=v2.len_le
    have:=v3.len_le
    refine JM (BE (vs:=[vI (((AW s.c x.no (AV s.c x.guardian)).1).epoch),vI (((AW s.c x.no (AV s.c x.guardian)).1).threshold),vI (((AW s.c x.no (AV s.c x.guardian)).1).wait),B1,B2]) (.agg #[vI (((AW s.c x.no (AV s.c x.guardian)).1).epoch),vI (((AW s.c x.no (AV s.c x.guardian)).1).threshold),vI (((AW s.c x.no (AV s.c x.guardian)).1).wait),B1,B2]) rfl rfl rfl BJ (fun u hu=>by simp only [List.mem_cons,List.not_mem_nil,or_false] at hu;rcases hu with rfl|rfl|rfl|rfl|rfl <;> first|rfl|exact v2.oneCell|exact v3.oneCell) (by repeat (constructor)) aq oT dj fun hW dk x9 O6 au=>(?_))
    have a2:=a2.mv x9
    have a6:=a6.mv x9
    have v2:=v2.mv x9
    have v3:=v3.mv x9
    have a0:=a0.keep O6 (AS T6)
    have hM:=hM.sB x9 O6 aS (by decide) (fun _ h=>h)
    have hR:=hR.sB x9 O6 aS (by decide) (fun _ h=>h)
    refine BS (AE (vI ((AW s.c x.no (AV s.c x.guardian)).2)) rfl (EP (FH (AC (?_)))))
    exact ⟨s9,B1,B2,(s9 :: (a1 :: Bm)),hR,trivial,⟨_,BD _ ⟨rfl,rfl,rfl,rfl,rfl,trivial⟩⟩,dk,a2,a6,a0,(by (repeat (first|exact List.mem_cons_self|apply List.mem_cons_of_mem))),hM,(by rw [show ([vI ((AW s.c x.no (AV s.c x.guardian)).1.epoch),vI ((AW s.c x.no (AV s.c x.guardian)).1.threshold),vI ((AW s.c x.no (AV s.c x.guardian)).1.wait),B1,B2]:List Value)=[vI (((AW s.c x.no (AV s.c x.guardian)).1).epoch),vI (((AW s.c x.no (AV s.c x.guardian)).1).threshold),vI (((AW s.c x.no (AV s.c x.guardian)).1).wait),B1,B2] from by rfl];exact au),(by rw [show (AW s.c x.no (AV s.c x.guardian)).1.guardians=((AW s.c x.no (AV s.c x.guardian)).1).guardians from by rfl];exact v2),(by rw [show (AW s.c x.no (AV s.c x.guardian)).1.recs=((AW s.c x.no (AV s.c x.guardian)).1).recs from by rfl];exact v3),(by repeat (constructor)),T6,ar⟩
   refine BS (AD (vP (some ⟨bm,0,none⟩)) rfl (EP (CA rfl (fun w4_ k4_=>AR ⟨bm,0,none⟩ rfl (⟨rfl,rfl⟩)) (CA rfl (fun w4_ k4_=>AH 0 ED rfl (⟨rfl,rfl⟩)) (CA rfl (fun w4_ k4_=>BI (vs:=[vI s.c.epoch,vI s.c.threshold,vI s.c.wait,gv,rv]) U28_ rfl BJ rfl ((hM.box).keep k4_ (by simp)) rfl (⟨rfl,rfl⟩)) (CA rfl (fun w4_ k4_=>AH 1 GU rfl (⟨rfl,rfl⟩)) (CA rfl (fun w4_ k4_=>AK U3_ rfl (vI x.no) rfl (a0.keep k4_ (by simp)) rfl (⟨rfl,rfl⟩)) (CA rfl (fun w4_ k4_=>AH 2 f_41_2 rfl (⟨rfl,rfl⟩)) (CA rfl (fun w4_ k4_=>AK U3_ rfl (vI x.guardian) rfl (a0.keep k4_ (by simp)) rfl (⟨rfl,rfl⟩)) (FA (CR [vI 0,vI 0,vI 0,nS,nS] IO rfl O5 fun t0 dm dp X1 H2 H3 L7=>(?_))))))))))))
   have aw:EY bm t0:=by show bm≠t0;have:=(hM.box).lt;omega
   have T7:EY a1 t0:=by show a1≠t0;have:=a0.lt;omega
   clear dp
   have a2:=a2.mv H2
   have a6:=a6.mv H2
   have a0:=a0.keep H3 (by simp)
   have hM:=hM.s0 H2 H3 (fun _ h=>List.mem_cons_of_mem _ h)
   have hR:=hR.s0 H2 H3 (fun _ h=>List.mem_cons_of_mem _ h)
   refine ⟨H3,?_⟩
   refine FA (BF (vs:=[vA #[vI s.c.epoch,vI s.c.threshold,vI s.c.wait,gv,rv],vI x.no,vI x.guardian]) enter_35 (ZQ (O:=(t0 :: (a1 :: Bm))++O) [vI s.c.epoch,vI s.c.threshold,vI s.c.wait,gv,rv] s.c x.no x.guardian dm ⟨_,_,rfl,(hM.g),(hM.r)⟩ X1.lt) rfl X1 fun hX hY dq H4 B3 dr=>(?_))
   obtain ⟨T8,rfl,ax⟩:=dr
   have a2:=a2.mv H4
   have a6:=a6.mv H4
   have a0:=a0.keep B3 (by simp)
   have L7:=L7.keep B3 (by simp)
   have hM:=hM.s0 H4 B3 (fun _ h=>h)
   have hR:=hR.s0 H4 B3 (fun _ h=>h)
   refine ⟨B3,?_⟩
   refine BS (AD (vT #[vA T8.toArray,vI ((AW s.c x.no (AV s.c x.guardian)).2)]) rfl (EP (CA rfl (fun w4_ k4_=>AL (vA T8.toArray) rfl rfl (⟨rfl,rfl⟩)) (CA rfl (fun w4_ k4_=>AL (vI ((AW s.c x.no (AV s.c x.guardian)).2)) rfl rfl (⟨rfl,rfl⟩)) (?_)))))
   obtain ⟨B4,B5,rfl,v4,v5⟩:=ax
   have:=v4.len_le
   have:=v5.len_le
   refine JM (BE (vs:=[vI (((AW s.c x.no (AV s.c x.guardian)).1).epoch),vI (((AW s.c x.no (AV s.c x.guardian)).1).threshold),vI (((AW s.c x.no (AV s.c x.guardian)).1).wait),B4,B5]) (.agg #[vI (((AW s.c x.no (AV s.c x.guardian)).1).epoch),vI (((AW s.c x.no (AV s.c x.guardian)).1).threshold),vI (((AW s.c x.no (AV s.c x.guardian)).1).wait),B4,B5]) rfl rfl rfl BJ (fun u hu=>by simp only [List.mem_cons,List.not_mem_nil,or_false] at hu;rcases hu with rfl|rfl|rfl|rfl|rfl <;> first|rfl|exact v4.oneCell|exact v5.oneCell) (by repeat (constructor)) L7 oT dq fun hZ ds y0 O7 ay=>(?_))
   have a2:=a2.mv y0
   have a6:=a6.mv y0
   have v4:=v4.mv y0
   have v5:=v5.mv y0
   have a0:=a0.keep O7 (AS T7)
   have hM:=hM.sB y0 O7 aS (by decide) (fun _ h=>h)
   have hR:=hR.sB y0 O7 aS (by decide) (fun _ h=>h)
   refine BS (AE (vI ((AW s.c x.no (AV s.c x.guardian)).2)) rfl (EP (FH (AC (?_)))))
   exact ⟨t0,B4,B5,(t0 :: (a1 :: Bm)),hR,trivial,⟨_,BD _ ⟨rfl,rfl,rfl,rfl,rfl,trivial⟩⟩,ds,a2,a6,a0,(by (repeat (first|exact List.mem_cons_self|apply List.mem_cons_of_mem))),hM,(by rw [show ([vI ((AW s.c x.no (AV s.c x.guardian)).1.epoch),vI ((AW s.c x.no (AV s.c x.guardian)).1.threshold),vI ((AW s.c x.no (AV s.c x.guardian)).1.wait),B4,B5]:List Value)=[vI (((AW s.c x.no (AV s.c x.guardian)).1).epoch),vI (((AW s.c x.no (AV s.c x.guardian)).1).threshold),vI (((AW s.c x.no (AV s.c x.guardian)).1).wait),B4,B5] from by rfl];exact ay),(by rw [show (AW s.c x.no (AV s.c x.guardian)).1.guardians=((AW s.c x.no (AV s.c x.guardian)).1).guardians from by rfl];exact v4),(by rw [show (AW s.c x.no (AV s.c x.guardian)).1.recs=((AW s.c x.no (AV s.c x.guardian)).1).recs from by rfl];exact v5),(by repeat (constructor)),T7,aw⟩
  intro F az hI
  clear a2 a6 a0 hM
  obtain ⟨f0,g1,g2,q5,V7,fA,⟨fB,rfl⟩,T9,a2,a6,a0,g0,hM,d5,c3,c4,aA,V8,Z6⟩:=hI
  have:=c3.len_le
  have:=c4.len_le
  have hR:=V7
  refine AF (AB kR (AA (AD (vI ((AW s.c x.no (AV s.c x.guardian)).2)) rfl (AA (EZ .i64 ((AW s.c x.no (AV s.c x.guardian)).2) (0:Int) rfl rfl (AG (AC (AJ (((AW s.c x.no (AV s.c x.guardian)).2) == (0:Int)) rfl rfl (fun L8=>?_) (fun L8=>?_)))))))))
  ·have U0:(AW s.c x.no (AV s.c x.guardian)).2=(0:Int):=by simpa using L8
   have hga:=RF hG U0
   have hgi:=approve_in U0
   have hb0:=hga.1
   have hb1:=hga.2.1
   refine AF (AF (?_))
   obtain ⟨hbx,h3,e0,f9,b0,b2,a7,d8,b1,f7,a5,d4,a3,d1,hne_vd,hT0⟩:=hM
   have fC:∀ b,pv.ownBlock=some b→b≠a1:=a7.neB a0 (by decide)
   have aC:∀ b,pv.ownBlock=some b→b≠bm:=a7.neB hbx (by decide)
   have fD:∀ b,pv.ownBlock=some b→b≠f0:=a7.neB d5 (by decide)
   have fE:∀ b,pv.ownBlock=some b→vv.ownBlock≠some b:=a7.neT a5 (by decide)
   have fF:∀ b,av.ownBlock=some b→b≠a1:=b1.neB a0 (by decide)
   have aD:∀ b,av.ownBlock=some b→b≠bm:=b1.neB hbx (by decide)
   have fG:∀ b,av.ownBlock=some b→b≠f0:=b1.neB d5 (by decide)
   have fH:∀ b,av.ownBlock=some b→pv.ownBlock≠some b:=b1.neT a7 (by decide)
   have fI:∀ b,av.ownBlock=some b→vv.ownBlock≠some b:=b1.neT a5 (by decide)
   have fJ:∀ b,av.ownBlock=some b→dv.ownBlock≠some b:=b1.neT a3 (by decide)
   have fK:∀ b,vv.ownBlock=some b→b≠a1:=a5.neB a0 (by decide)
   have aE:∀ b,vv.ownBlock=some b→b≠bm:=a5.neB hbx (by decide)
   have fL:∀ b,vv.ownBlock=some b→b≠f0:=a5.neB d5 (by decide)
   have fM:∀ b,dv.ownBlock=some b→b≠a1:=a3.neB a0 (by decide)
   have aF:∀ b,dv.ownBlock=some b→b≠bm:=a3.neB hbx (by decide)
   have fN:∀ b,dv.ownBlock=some b→b≠f0:=a3.neB d5 (by decide)
   have fO:∀ b,dv.ownBlock=some b→pv.ownBlock≠some b:=a3.neT a7 (by decide)
   have hT:=hT0
   have:=e0.len_le
   have:=f9.len_le
   have:=b0.len_le
   have:=b2.len_le
   refine DP 21 _ _ kR kR kR kR kR rfl rfl fun X2 j5=>?_
   have X3:=T9.call j5
   have j6:Mv q5 az q5 X2:=Mv.of_keep j5
   have a0:=a0.keep j5 (by simp)
   have e0:=e0.mv j6
   have b0:=b0.mv j6
   have b2:=b2.mv j6
   have a7:=a7.mv j6 j5 (by simp)
   have b1:=b1.mv j6 j5 (by simp)
   have a5:=a5.mv j6 j5 (by simp)
   have a3:=a3.mv j6 j5 (by simp)
   have hbx:=hbx.keep j5 (by simp)
   have c3:=c3.mv j6
   have c4:=c4.mv j6
   have d5:=d5.keep j5 (by simp)
   have hT:=by exact hT.mv0 j6 j5 (fun x hx=>by exact hx)
   have hR:=hR.s0 j6 j5 (fun _ h=>h)
   refine BG (AH 1 GU rfl (BG (AK U3_ rfl (vI x.no) rfl a0 rfl (BG (EB .i64 x.no (0:Int) rfl rfl (BG (AD (vO (decide (x.no<(0:Int)))) rfl (?_))))))))
   have aG:(decide (x.no<(0:Int)))=false:=(decide_eq_false oM)
   rw [aG]
   refine DS rfl (AH 1 GU rfl (DS rfl (AK U3_ rfl (vI x.no) rfl a0 rfl (DS rfl (AD (vP (some ⟨bm,0,none⟩)) rfl (DS rfl (AR ⟨bm,0,none⟩ rfl (DS rfl (AH 9 OD rfl (DS rfl (AK U22_ rfl (av) rfl hbx rfl (DS rfl (NJ U22_ rfl b1 (DS rfl (ID .i64 x.no (s.asked.length:Int) rfl rfl (BG (BK (vO (decide ((s.asked.length:Int)≤x.no))) rfl rfl (BG (AD (vO (decide ((s.asked.length:Int)≤x.no))) rfl (?_))))))))))))))))))))
   have aH:(decide ((s.asked.length:Int)≤x.no))=false:=(decide_eq_false oM)
   rw [aH]
   refine DS rfl (AD (vP (some ⟨bm,0,none⟩)) rfl (DS rfl (AR ⟨bm,0,none⟩ rfl (DS rfl (AH 0 ED rfl (DS rfl (AH 3 LK rfl (DS rfl (AK U22_ rfl (gv) rfl hbx rfl (DS rfl (AH 2 f_41_2 rfl (DS rfl (AK U3_ rfl (vI x.guardian) rfl a0 rfl (EQ (AY rfl (BF (vs:=[gv,vI x.guardian]) enter_36 (c_has (O:=q5++O) gv s.c.guardians x.guardian X2 e0 X3.lt) rfl X3 fun ia ib dt m6 q0 du=>(?_)))))))))))))))))
   obtain rfl:=du
   have b1:=b1.mv m6 q0 (by simp)
   have a0:=a0.keep q0 (by simp)
   have b0:=b0.mv m6
   have b2:=b2.mv m6
   have a7:=a7.mv m6 q0 (by simp)
   have a5:=a5.mv m6 q0 (by simp)
   have a3:=a3.mv m6 q0 (by simp)
   have hbx:=hbx.keep q0 (by simp)
   have c3:=c3.mv m6
   have c4:=c4.mv m6
   have d5:=d5.keep q0 (by simp)
   have hT:=by exact hT.mv0 m6 q0 (fun x hx=>by exact hx)
   have hR:=hR.s0 m6 q0 (fun _ h=>h)
   refine AY rfl (FF (s.c.guardians.contains x.guardian) rfl (AA (BK (vO (!(s.c.guardians.contains x.guardian))) rfl rfl (AG (AC (?_))))))
   have aI:(!(s.c.guardians.contains x.guardian))=false:=(by rw [show (s.c.guardians.contains x.guardian)=true from hgi];rfl)
   rw [aI]
   refine AJ false rfl rfl (fun h=>by cases h) (fun _=>AT (AC (AF (AB kR (AA (AD (vP (some ⟨bm,0,none⟩)) rfl (AA (BI (vs:=[vI ((AW s.c x.no (AV s.c x.guardian)).1.epoch),vI ((AW s.c x.no (AV s.c x.guardian)).1.threshold),vI ((AW s.c x.no (AV s.c x.guardian)).1.wait),g1,g2]) U28_ rfl BJ rfl d5 rfl (AA (AR ⟨bm,0,none⟩ rfl (AA (AH 0 ED rfl (BZ (BE (vs:=[vI ((AW s.c x.no (AV s.c x.guardian)).1.epoch),vI ((AW s.c x.no (AV s.c x.guardian)).1.threshold),vI ((AW s.c x.no (AV s.c x.guardian)).1.wait),g1,g2]) (.agg #[vI ((AW s.c x.no (AV s.c x.guardian)).1.epoch),vI ((AW s.c x.no (AV s.c x.guardian)).1.threshold),vI ((AW s.c x.no (AV s.c x.guardian)).1.wait),g1,g2]) rfl rfl rfl BJ (fun u hu=>by simp only [List.mem_cons,List.not_mem_nil,or_false] at hu;rcases hu with rfl|rfl|rfl|rfl|rfl <;> first|rfl|exact c3.oneCell|exact c4.oneCell) (by repeat (assumption)) hbx oT dt fun dw dx m7 t2 q6=>(?_)))))))))))))))
   have b1:=b1.mv m7 t2 (fun b hb=>AS (aD b hb))
   have c3:=c3.mv m7
   have c4:=c4.mv m7
   have a0:=a0.keep t2 (AS (Ne.symm u3))
   have b0:=b0.mv m7
   have b2:=b2.mv m7
   have a7:=a7.mv m7 t2 (fun b hb=>AS (aC b hb))
   have a5:=a5.mv m7 t2 (fun b hb=>AS (aE b hb))
   have a3:=a3.mv m7 t2 (fun b hb=>AS (aF b hb))
   have hT:=by exact hT.mvB m7 t2 aS (by decide) (fun x hx=>by exact hx)
   have hR:=hR.sB m7 t2 aS (by decide) (fun _ h=>h)
   refine AG (AC (DP 10 _ _ kR kR kR kR kR rfl rfl fun dy m9=>?_))
   have dz:=dx.call m9
   have n2:Mv q5 dw q5 dy:=Mv.of_keep m9
   have b1:=b1.mv n2 m9 (by simp)
   have c3:=c3.mv n2
   have c4:=c4.mv n2
   have a0:=a0.keep m9 (by simp)
   have b0:=b0.mv n2
   have b2:=b2.mv n2
   have a7:=a7.mv n2 m9 (by simp)
   have a5:=a5.mv n2 m9 (by simp)
   have a3:=a3.mv n2 m9 (by simp)
   have q6:=q6.keep m9 (by simp)
   have hT:=by exact hT.mv0 n2 m9 (fun x hx=>by exact hx)
   have hR:=hR.s0 n2 m9 (fun _ h=>h)
   refine BG (AD (vP (some ⟨bm,0,none⟩)) rfl (BG (AR ⟨bm,0,none⟩ rfl (BG (AH 8 f_39_4 rfl (BG (AK U36_ rfl (pv) rfl q6 rfl (BG (AH 1 GU rfl (BG (AK U3_ rfl (vI x.no) rfl a0 rfl (BG (DO U36_ s_75 .i64 x.no x.no.toNat rfl rfl oM a7.rd0 (by have:=hT.len;omega) fun ic aJ=>(BG (o_loadV U75_ rfl rfl aJ (BG (AH 2 f_41_2 rfl (BG (AK U3_ rfl (vI x.guardian) rfl a0 rfl (EQ (BZ (o_updT (i:=x.no.toNat) (k:=x.guardian) U75_ U3_ rfl rfl rfl hT oM dz fun ie dA q1 y1 aK=>(?_)))))))))))))))))))))))
   have b1:=b1.mv q1 y1 (fun b hb=>hT.neO (i:=x.no.toNat) oM b1 b hb)
   have c3:=c3.mv q1
   have c4:=c4.mv q1
   have a7:=a7.mv q1 y1 (fun b hb=>hT.neO (i:=x.no.toNat) oM a7 b hb)
   have b0:=b0.mv q1
   have b2:=b2.mv q1
   have a5:=a5.mv q1 y1 (fun b hb=>hT.neO (i:=x.no.toNat) oM a5 b hb)
   have a3:=a3.mv q1 y1 (fun b hb=>hT.neO (i:=x.no.toNat) oM a3 b hb)
   have q6:=q6.keep y1 (hT.neB (i:=x.no.toNat) oM q6)
   have hR:=hR.sM (i:=x.no.toNat) q1 y1 hT oM (fun _ h=>h)
   have hT:=aK
   refine AG (CB (AC (AF (AB kR (AA (AE (vO true) rfl (AG (AC (AM (AZ rfl (CN rfl rfl rfl) (?_)))))))))))
   have hdo:NG s x=(⟨(AW s.c x.no (AV s.c x.guardian)).1,s.l,s.old,s.renewed,s.asked,s.appr.set x.no.toNat (upP s.appr[x.no.toNat]! x.guardian),s.vetoed,s.done⟩:MovR):=by exact do_1y aS aS
   exact ⟨rfl,q5,g1,g2,lv,ov,L,pv,av,vv,dv,dA,hR.ms,hR.sb,hR.F,by rw [hdo];exact ⟨q6,(by repeat (assumption)),c3,c4,b0,b2,a7,d8,b1,f7,a5,d4,a3,d1,hne_vd,hT⟩⟩
  have fP:(AW s.c x.no (AV s.c x.guardian)).2≠(0:Int):=by simpa using L8
  refine AT (CB (AC (AF (AB kR (AA (AE (vO true) rfl (AG (AC (AM (AZ rfl (CN rfl rfl rfl) (?_)))))))))))
  have hdo:NG s x=s:=by exact do_1n aS aS
  exact ⟨rfl,q5,gv,rv,lv,ov,L,pv,av,vv,dv,T9,hR.ms,hR.sb,hR.F,by rw [hdo];exact hM⟩
 have fQ:x.kind≠(1:UInt8):=by simpa using L4
 refine AF (AB kR (AA (PN x.kind (2:UInt8) rfl rfl (AA (AE (vO (x.kind == (2:UInt8))) rfl (AG (AC (AJ (x.kind == (2:UInt8)) rfl rfl (fun L9=>?_) (fun L9=>?_)))))))))
 ·have fR:x.kind=(2:UInt8):=by simpa using L9
  refine OH (fun FI wI=>∃ (e5:Nat) (f1:Value) (f2:Value) (B:List Nat),FrM w Bm B wI∧True∧(∃ F1,FI=GN F1 [(0,vP (some ⟨bm,0,none⟩)),(3,vP (some ⟨a1,0,none⟩)),(10,vP (some ⟨e5,0,none⟩)),(11,vI ((AW s.c x.no (CF x.day)).2)),(381,undef)])∧St w0 O wI B∧BL Enc.u8 wI (B++O) (d3) (x.coins)∧BL Enc.int wI (B++O) (e7) (x.guardians)∧FT wI a1 41 [vB x.kind,vI x.no,vI x.guardian,vI x.day,d3,e7,vI x.threshold]∧a1∈B∧MovS w0 O B wI bm gv rv lv ov L pv av vv dv s∧FT wI e5 28 [vI ((AW s.c x.no (CF x.day)).1.epoch),vI ((AW s.c x.no (CF x.day)).1.threshold),vI ((AW s.c x.no (CF x.day)).1.wait),f1,f2]∧BL Enc.int wI (B++O) f1 ((AW s.c x.no (CF x.day)).1.guardians)∧BL Enc.recovery wI (B++O) f2 ((AW s.c x.no (CF x.day)).1.recs)∧e5∈B∧EY a1 e5∧EY bm e5) ?_ ?_
  ·refine FM [] [8,12] [[(0,1),(1,4),(2,4),(3,4),(4,4),(5,4),(6,4),(7,4),(8,2),(9,1),(10,4),(11,4),(12,2),(13,0),(14,1)],[(0,1),(1,4),(2,4),(3,4),(4,4),(5,4),(6,4),(7,4),(12,2),(8,2),(9,1),(10,4),(11,4),(13,0),(14,1)]] (by intro c F d v w hd;(try simp only [GI,FG]);exact GJ c F d v w hd) kR kR kR fun X4 B6=>?_
   have O8:=s3.call B6
   have H5:Mv (a1 :: Bm) x3 (a1 :: Bm) X4:=Mv.of_keep B6
   have a2:=a2.mv H5
   have a6:=a6.mv H5
   have a0:=a0.keep B6 (by simp)
   have hM:=hM.s0 H5 B6 (fun _ h=>h)
   have hR:=hR.s0 H5 B6 (fun _ h=>h)
   refine ⟨?_,?_,trivial⟩
   ·refine BS (AD (vP (some ⟨bm,0,none⟩)) rfl (EP (CA rfl (fun w4_ k4_=>AR ⟨bm,0,none⟩ rfl (⟨rfl,rfl⟩)) (CA rfl (fun w4_ k4_=>AH 0 ED rfl (⟨rfl,rfl⟩)) (CA rfl (fun w4_ k4_=>BI (vs:=[vI s.c.epoch,vI s.c.threshold,vI s.c.wait,gv,rv]) U28_ rfl BJ rfl ((hM.box).keep k4_ (by simp)) rfl (⟨rfl,rfl⟩)) (CA rfl (fun w4_ k4_=>AH 1 GU rfl (⟨rfl,rfl⟩)) (CA rfl (fun w4_ k4_=>AK U3_ rfl (vI x.no) rfl (a0.keep k4_ (by simp)) rfl (⟨rfl,rfl⟩)) (CA rfl (fun w4_ k4_=>AH 3 QE rfl (⟨rfl,rfl⟩)) (CA rfl (fun w4_ k4_=>AK U3_ rfl (vI x.day) rfl (a0.keep k4_ (by simp)) rfl (⟨rfl,rfl⟩)) (FA (BF (vs:=[vA #[vI s.c.epoch,vI s.c.threshold,vI s.c.wait,gv,rv],vI x.no,vI x.day]) enter_37 (c_veto (O:=(a1 :: Bm)++O) [vI s.c.epoch,vI s.c.threshold,vI s.c.wait,gv,rv] s.c x.no x.day X4 ⟨_,_,rfl,(hM.g),(hM.r)⟩ O8.lt) rfl O8 fun ig ih dC H6 H7 dD=>(?_))))))))))))
    obtain ⟨M0,rfl,M1⟩:=dD
    have a2:=a2.mv H6
    have a6:=a6.mv H6
    have a0:=a0.keep H7 (by simp)
    have hM:=hM.s0 H6 H7 (fun _ h=>h)
    have hR:=hR.s0 H6 H7 (fun _ h=>h)
    refine ⟨H7,?_⟩
    refine BS (AD (vT #[vA M0.toArray,vI ((AW s.c x.no (CF x.day)).2)]) rfl (EP (CA rfl (fun w4_ k4_=>AL (vA M0.toArray) rfl rfl (⟨rfl,rfl⟩)) (CA rfl (fun w4_ k4_=>AL (vI ((AW s.c x.no (CF x.day)).2)) rfl rfl (⟨rfl,rfl⟩)) (FA (CR [vI 0,vI 0,vI 0,nS,nS] IO rfl dC fun t3 dE dF dG B7 H8 aL=>(?_)))))))
    have aM:EY bm t3:=by show bm≠t3;have:=(hM.box).lt;omega
    have U1:EY a1 t3:=by show a1≠t3;have:=a0.lt;omega
    clear dF
    have a2:=a2.mv B7
    have a6:=a6.mv B7
    have M1:Enc.circle.rd dE ((t3 :: (a1 :: Bm))++O) M0 ((AW s.c x.no (CF x.day)).1):=Enc.mv Enc.circle (x:=(AW s.c x.no (CF x.day)).1) M1 B7
    have a0:=a0.keep H8 (by simp)
    have hM:=hM.s0 B7 H8 (fun _ h=>List.mem_cons_of_mem _ h)
    have hR:=hR.s0 B7 H8 (fun _ h=>List.mem_cons_of_mem _ h)
    refine ⟨H8,?_⟩
    obtain ⟨B8,B9,rfl,v6,v7⟩:=M1
    have:=v6.len_le
    have:=v7.len_le
    refine JM (BE (vs:=[vI (((AW s.c x.no (CF x.day)).1).epoch),vI (((AW s.c x.no (CF x.day)).1).threshold),vI (((AW s.c x.no (CF x.day)).1).wait),B8,B9]) (.agg #[vI (((AW s.c x.no (CF x.day)).1).epoch),vI (((AW s.c x.no (CF x.day)).1).threshold),vI (((AW s.c x.no (CF x.day)).1).wait),B8,B9]) rfl rfl rfl BJ (fun u hu=>by simp only [List.mem_cons,List.not_mem_nil,or_false] at hu;rcases hu with rfl|rfl|rfl|rfl|rfl <;> first|rfl|exact v6.oneCell|exact v7.oneCell) (by repeat (constructor)) aL oT dG fun ii dH y2 O9 aN=>(?_))
    have a2:=a2.mv y2
    have a6:=a6.mv y2
    have v6:=v6.mv y2
    have v7:=v7.mv y2
    have a0:=a0.keep O9 (AS U1)
    have hM:=hM.sB y2 O9 aS (by decide) (fun _ h=>h)
    have hR:=hR.sB y2 O9 aS (by decide) (fun _ h=>h)
    refine BS (AE (vI ((AW s.c x.no (CF x.day)).2)) rfl (EP (FH (AC (?_)))))
    exact ⟨t3,B8,B9,(t3 :: (a1 :: Bm)),hR,trivial,⟨_,BD _ ⟨rfl,rfl,rfl,rfl,rfl,trivial⟩⟩,dH,a2,a6,a0,(by (repeat (first|exact List.mem_cons_self|apply List.mem_cons_of_mem))),hM,(by rw [show ([vI ((AW s.c x.no (CF x.day)).1.epoch),vI ((AW s.c x.no (CF x.day)).1.threshold),vI ((AW s.c x.no (CF x.day)).1.wait),B8,B9]:List Value)=[vI (((AW s.c x.no (CF x.day)).1).epoch),vI (((AW s.c x.no (CF x.day)).1).threshold),vI (((AW s.c x.no (CF x.day)).1).wait),B8,B9] from by rfl];exact aN),(by rw [show (AW s.c x.no (CF x.day)).1.guardians=((AW s.c x.no (CF x.day)).1).guardians from by rfl];exact v6),(by rw [show (AW s.c x.no (CF x.day)).1.recs=((AW s.c x.no (CF x.day)).1).recs from by rfl];exact v7),(by repeat (constructor)),U1,aM⟩
   refine BS (AD (vP (some ⟨bm,0,none⟩)) rfl (EP (CA rfl (fun w4_ k4_=>AR ⟨bm,0,none⟩ rfl (⟨rfl,rfl⟩)) (CA rfl (fun w4_ k4_=>AH 0 ED rfl (⟨rfl,rfl⟩)) (CA rfl (fun w4_ k4_=>BI (vs:=[vI s.c.epoch,vI s.c.threshold,vI s.c.wait,gv,rv]) U28_ rfl BJ rfl ((hM.box).keep k4_ (by simp)) rfl (⟨rfl,rfl⟩)) (CA rfl (fun w4_ k4_=>AH 1 GU rfl (⟨rfl,rfl⟩)) (CA rfl (fun w4_ k4_=>AK U3_ rfl (vI x.no) rfl (a0.keep k4_ (by simp)) rfl (⟨rfl,rfl⟩)) (CA rfl (fun w4_ k4_=>AH 3 QE rfl (⟨rfl,rfl⟩)) (CA rfl (fun w4_ k4_=>AK U3_ rfl (vI x.day) rfl (a0.keep k4_ (by simp)) rfl (⟨rfl,rfl⟩)) (FA (CR [vI 0,vI 0,vI 0,nS,nS] IO rfl O8 fun t4 dI dJ X5 H9 I0 M2=>(?_))))))))))))
   have aO:EY bm t4:=by show bm≠t4;have:=(hM.box).lt;omega
   have U2:EY a1 t4:=by show a1≠t4;have:=a0.lt;omega
   clear dJ
   have a2:=a2.mv H9
   have a6:=a6.mv H9
   have a0:=a0.keep I0 (by simp)
   have hM:=hM.s0 H9 I0 (fun _ h=>List.mem_cons_of_mem _ h)
   have hR:=hR.s0 H9 I0 (fun _ h=>List.mem_cons_of_mem _ h)
   refine ⟨I0,?_⟩
   refine FA (BF (vs:=[vA #[vI s.c.epoch,vI s.c.threshold,vI s.c.wait,gv,rv],vI x.no,vI x.day]) enter_37 (c_veto (O:=(t4 :: (a1 :: Bm))++O) [vI s.c.epoch,vI s.c.threshold,vI s.c.wait,gv,rv] s.c x.no x.day dI ⟨_,_,rfl,(hM.g),(hM.r)⟩ X5.lt) rfl X5 fun ij il dK I1 C0 dL=>(?_))
   obtain ⟨U3,rfl,aP⟩:=dL
   have a2:=a2.mv I1
   have a6:=a6.mv I1
   have a0:=a0.keep C0 (by simp)
   have M2:=M2.keep C0 (by simp)
   have hM:=hM.s0 I1 C0 (fun _ h=>h)
   have hR:=hR.s0 I1 C0 (fun _ h=>h)
   refine ⟨C0,?_⟩
   refine BS (AD (vT #[vA U3.toArray,vI ((AW s.c x.no (CF x.day)).2)]) rfl (EP (CA rfl (fun w4_ k4_=>AL (vA U3.toArray) rfl rfl (⟨rfl,rfl⟩)) (CA rfl (fun w4_ k4_=>AL (vI ((AW s.c x.no (CF x.day)).2)) rfl rfl (⟨rfl,rfl⟩)) (?_)))))
   obtain ⟨C1,C2,rfl,v8,v9⟩:=aP
   have:=v8.len_le
   have:=v9.len_le
   refine JM (BE (vs:=[vI (((AW s.c x.no (CF x.day)).1).epoch),vI (((AW s.c x.no (CF x.day)).1).threshold),vI (((AW s.c x.no (CF x.day)).1).wait),C1,C2]) (.agg #[vI (((AW s.c x.no (CF x.day)).1).epoch),vI (((AW s.c x.no (CF x.day)).1).threshold),vI (((AW s.c x.no (CF x.day)).1).wait),C1,C2]) rfl rfl rfl BJ (fun u hu=>by simp only [List.mem_cons,List.not_mem_nil,or_false] at hu;rcases hu with rfl|rfl|rfl|rfl|rfl <;> first|rfl|exact v8.oneCell|exact v9.oneCell) (by repeat (constructor)) M2 oT dK fun im dM y3 P0 aQ=>(?_))
   have a2:=a2.mv y3
   have a6:=a6.mv y3
   have v8:=v8.mv y3
   have v9:=v9.mv y3
   have a0:=a0.keep P0 (AS U2)
   have hM:=hM.sB y3 P0 aS (by decide) (fun _ h=>h)
   have hR:=hR.sB y3 P0 aS (by decide) (fun _ h=>h)
   refine BS (AE (vI ((AW s.c x.no (CF x.day)).2)) rfl (EP (FH (AC (?_)))))
   exact ⟨t4,C1,C2,(t4 :: (a1 :: Bm)),hR,trivial,⟨_,BD _ ⟨rfl,rfl,rfl,rfl,rfl,trivial⟩⟩,dM,a2,a6,a0,(by (repeat (first|exact List.mem_cons_self|apply List.mem_cons_of_mem))),hM,(by rw [show ([vI ((AW s.c x.no (CF x.day)).1.epoch),vI ((AW s.c x.no (CF x.day)).1.threshold),vI ((AW s.c x.no (CF x.day)).1.wait),C1,C2]:List Value)=[vI (((AW s.c x.no (CF x.day)).1).epoch),vI (((AW s.c x.no (CF x.day)).1).threshold),vI (((AW s.c x.no (CF x.day)).1).wait),C1,C2] from by rfl];exact aQ),(by rw [show (AW s.c x.no (CF x.day)).1.guardians=((AW s.c x.no (CF x.day)).1).guardians from by rfl];exact v8),(by rw [show (AW s.c x.no (CF x.day)).1.recs=((AW s.c x.no (CF x.day)).1).recs from by rfl];exact v9),(by repeat (constructor)),U2,aO⟩
  intro F aR hI
  clear a2 a6 a0 hM
  obtain ⟨e5,f1,f2,r7,V9,fS,⟨fT,rfl⟩,U4,a2,a6,a0,g0,hM,e2,c5,c6,Z7,V5,Z2⟩:=hI
  have:=c5.len_le
  have:=c6.len_le
  have hR:=V9
  refine AF (AB kR (AA (AD (vI ((AW s.c x.no (CF x.day)).2)) rfl (AA (EZ .i64 ((AW s.c x.no (CF x.day)).2) (0:Int) rfl rfl (AG (AC (AJ (((AW s.c x.no (CF x.day)).2) == (0:Int)) rfl rfl (fun M3=>?_) (fun M3=>?_)))))))))
  ·have aT:(AW s.c x.no (CF x.day)).2=(0:Int):=by simpa using M3
   have hga:=WG hG aT
   have hb0:=hga.1
   have hb1:=hga.2.1
   refine AF (AF (?_))
   obtain ⟨hbx,h3,e0,f9,b0,b2,a7,d8,b1,f7,a5,d4,a3,d1,hne_vd,hT0⟩:=hM
   have fU:∀ b,pv.ownBlock=some b→b≠a1:=a7.neB a0 (by decide)
   have aU:∀ b,pv.ownBlock=some b→b≠bm:=a7.neB hbx (by decide)
   have fV:∀ b,pv.ownBlock=some b→b≠e5:=a7.neB e2 (by decide)
   have aV:∀ b,pv.ownBlock=some b→vv.ownBlock≠some b:=a7.neT a5 (by decide)
   have fW:∀ b,av.ownBlock=some b→b≠a1:=b1.neB a0 (by decide)
   have aW:∀ b,av.ownBlock=some b→b≠bm:=b1.neB hbx (by decide)
   have fX:∀ b,av.ownBlock=some b→b≠e5:=b1.neB e2 (by decide)
   have fY:∀ b,av.ownBlock=some b→pv.ownBlock≠some b:=b1.neT a7 (by decide)
   have aX:∀ b,av.ownBlock=some b→vv.ownBlock≠some b:=b1.neT a5 (by decide)
   have fZ:∀ b,av.ownBlock=some b→dv.ownBlock≠some b:=b1.neT a3 (by decide)
   have ga:∀ b,vv.ownBlock=some b→b≠a1:=a5.neB a0 (by decide)
   have U5:∀ b,vv.ownBlock=some b→b≠bm:=a5.neB hbx (by decide)
   have gb:∀ b,vv.ownBlock=some b→b≠e5:=a5.neB e2 (by decide)
   have gc:∀ b,dv.ownBlock=some b→b≠a1:=a3.neB a0 (by decide)
   have aY:∀ b,dv.ownBlock=some b→b≠bm:=a3.neB hbx (by decide)
   have gd:∀ b,dv.ownBlock=some b→b≠e5:=a3.neB e2 (by decide)
   have ge:∀ b,dv.ownBlock=some b→pv.ownBlock≠some b:=a3.neT a7 (by decide)
   have hT:=hT0
   have:=e0.len_le
   have:=f9.len_le
   have:=b0.len_le
   have:=b2.len_le
   refine DP 23 _ _ kR kR kR kR kR rfl rfl fun dN j7=>?_
   have dO:=U4.call j7
   have n3:Mv r7 aR r7 dN:=Mv.of_keep j7
   have a0:=a0.keep j7 (by simp)
   have b0:=b0.mv n3
   have b2:=b2.mv n3
   have a7:=a7.mv n3 j7 (by simp)
   have b1:=b1.mv n3 j7 (by simp)
   have a5:=a5.mv n3 j7 (by simp)
   have a3:=a3.mv n3 j7 (by simp)
   have hbx:=hbx.keep j7 (by simp)
   have c5:=c5.mv n3
   have c6:=c6.mv n3
   have e2:=e2.keep j7 (by simp)
   have hT:=by exact hT.mv0 n3 j7 (fun x hx=>by exact hx)
   have hR:=hR.s0 n3 j7 (fun _ h=>h)
   refine BG (AH 1 GU rfl (BG (AK U3_ rfl (vI x.no) rfl a0 rfl (BG (EB .i64 x.no (0:Int) rfl rfl (BG (AD (vO (decide (x.no<(0:Int)))) rfl (?_))))))))
   have aZ:(decide (x.no<(0:Int)))=false:=(decide_eq_false oM)
   rw [aZ]
   refine DS rfl (AH 1 GU rfl (DS rfl (AK U3_ rfl (vI x.no) rfl a0 rfl (DS rfl (AD (vP (some ⟨bm,0,none⟩)) rfl (DS rfl (AR ⟨bm,0,none⟩ rfl (DS rfl (AH 9 OD rfl (DS rfl (AK U22_ rfl (av) rfl hbx rfl (DS rfl (NJ U22_ rfl b1 (DS rfl (ID .i64 x.no (s.asked.length:Int) rfl rfl (BG (BK (vO (decide ((s.asked.length:Int)≤x.no))) rfl rfl (BG (AD (vO (decide ((s.asked.length:Int)≤x.no))) rfl (?_))))))))))))))))))))
   have ba:(decide ((s.asked.length:Int)≤x.no))=false:=(decide_eq_false oM)
   rw [ba]
   refine DS rfl (AD (vP (some ⟨bm,0,none⟩)) rfl (DS rfl (AR ⟨bm,0,none⟩ rfl (DS rfl (AH 11 NL rfl (DS rfl (AK U37_ rfl (dv) rfl hbx rfl (DS rfl (AH 1 GU rfl (DS rfl (AK U3_ rfl (vI x.no) rfl a0 rfl (DS rfl (DO U37_ s_4 .i64 x.no x.no.toNat rfl rfl oM a3.rd0 (by have:=hT.len;omega) fun io bb=>(DS rfl (OP U4_ rfl rfl bb (BG (BK (vO (s.done[x.no.toNat]!)) rfl rfl (EQ (AG (AC (?_)))))))))))))))))))))
   have bc:(s.done[x.no.toNat]!)=false:=(by exact hga.2.2.1)
   rw [bc]
   refine AJ false rfl rfl (fun h=>by cases h) (fun _=>AT (AC (AF (AB kR (AA (AD (vP (some ⟨bm,0,none⟩)) rfl (AA (BI (vs:=[vI ((AW s.c x.no (CF x.day)).1.epoch),vI ((AW s.c x.no (CF x.day)).1.threshold),vI ((AW s.c x.no (CF x.day)).1.wait),f1,f2]) U28_ rfl BJ rfl e2 rfl (AA (AR ⟨bm,0,none⟩ rfl (AA (AH 0 ED rfl (BZ (BE (vs:=[vI ((AW s.c x.no (CF x.day)).1.epoch),vI ((AW s.c x.no (CF x.day)).1.threshold),vI ((AW s.c x.no (CF x.day)).1.wait),f1,f2]) (.agg #[vI ((AW s.c x.no (CF x.day)).1.epoch),vI ((AW s.c x.no (CF x.day)).1.threshold),vI ((AW s.c x.no (CF x.day)).1.wait),f1,f2]) rfl rfl rfl BJ (fun u hu=>by simp only [List.mem_cons,List.not_mem_nil,or_false] at hu;rcases hu with rfl|rfl|rfl|rfl|rfl <;> first|rfl|exact c5.oneCell|exact c6.oneCell) (by repeat (assumption)) hbx oT dO fun dP dQ n4 t5 r8=>(?_)))))))))))))))
   have b1:=b1.mv n4 t5 (fun b hb=>AS (aW b hb))
   have a3:=a3.mv n4 t5 (fun b hb=>AS (aY b hb))
   have c5:=c5.mv n4
   have c6:=c6.mv n4
   have a0:=a0.keep t5 (AS (Ne.symm u3))
   have b0:=b0.mv n4
   have b2:=b2.mv n4
   have a7:=a7.mv n4 t5 (fun b hb=>AS (aU b hb))
   have a5:=a5.mv n4 t5 (fun b hb=>AS (U5 b hb))
   have hT:=by exact hT.mvB n4 t5 aS (by decide) (fun x hx=>by exact hx)
   have hR:=hR.sB n4 t5 aS (by decide) (fun _ h=>h)
   refine AG (AC (DP 7 _ _ kR kR kR kR kR rfl rfl fun dR n5=>?_))
   have dS:=dQ.call n5
   have n6:Mv r7 dP r7 dR:=Mv.of_keep n5
   have b1:=b1.mv n6 n5 (by simp)
   have a3:=a3.mv n6 n5 (by simp)
   have c5:=c5.mv n6
   have c6:=c6.mv n6
   have a0:=a0.keep n5 (by simp)
   have b0:=b0.mv n6
   have b2:=b2.mv n6
   have a7:=a7.mv n6 n5 (by simp)
   have a5:=a5.mv n6 n5 (by simp)
   have r8:=r8.keep n5 (by simp)
   have hT:=by exact hT.mv0 n6 n5 (fun x hx=>by exact hx)
   have hR:=hR.s0 n6 n5 (fun _ h=>h)
   refine BG (AD (vP (some ⟨bm,0,none⟩)) rfl (BG (AR ⟨bm,0,none⟩ rfl (BG (AH 10 f_39_6 rfl (BG (AK U37_ rfl (vv) rfl r8 rfl (BG (AH 1 GU rfl (BG (AK U3_ rfl (vI x.no) rfl a0 rfl (BG (EW U37_ s_4 .i64 x.no x.no.toNat rfl rfl oM a5 (by have:=hT.len;omega) fun ip p4=>(EQ (BZ (JZ true s_4 rfl rfl rfl a5 p4 (d4 _ p4) (by have:=hT.len;omega) rfl dS fun iq dT q2 y4 bd=>(?_)))))))))))))))))
   have b1:=b1.mv q2 y4 (fun b hb=>by simp only [List.mem_singleton];rintro rfl;exact absurd p4 (aX _ hb))
   have a3:=a3.mv q2 y4 (fun b hb=>by simp only [List.mem_singleton];rintro rfl;exact absurd p4 ((fun b hb e=>hne_vd b e hb) _ hb))
   have c5:=c5.mv q2
   have c6:=c6.mv q2
   have b0:=b0.mv q2
   have b2:=b2.mv q2
   have a7:=a7.mv q2 y4 (fun b hb=>by simp only [List.mem_singleton];rintro rfl;exact absurd p4 (aV _ hb))
   have r8:=r8.keep y4 (by simp only [List.mem_singleton];exact fun e=>absurd e.symm (U5 _ p4))
   have hT:=hT.mvO q2 y4 a5 (fun b hq=>by have hq:=List.mem_singleton.1 hq;subst hq;exact p4) (by decide) (fun x hx=>by exact hx)
   have hR:=hR.sO q2 y4 a5 (fun b hq=>by have hq:=List.mem_singleton.1 hq;subst hq;exact p4) (by decide) (fun _ h=>h)
   refine AG (CB (AC (AF (AB kR (AA (AE (vO true) rfl (AG (AC (AM (AZ rfl (CN rfl rfl rfl) (?_)))))))))))
   have hdo:NG s x=(⟨(AW s.c x.no (CF x.day)).1,s.l,s.old,s.renewed,s.asked,s.appr,s.vetoed.set x.no.toNat true,s.done⟩:MovR):=by exact do_2y aS aS
   exact ⟨rfl,r7,f1,f2,lv,ov,L,pv,av,vv,dv,dT,hR.ms,hR.sb,hR.F,by rw [hdo];exact ⟨r8,(by repeat (assumption)),c5,c6,b0,b2,a7,d8,b1,f7,bd,d4,a3,d1,hne_vd,hT⟩⟩
  have gf:(AW s.c x.no (CF x.day)).2≠(0:Int):=by simpa using M3
  refine AT (CB (AC (AF (AB kR (AA (AE (vO true) rfl (AG (AC (AM (AZ rfl (CN rfl rfl rfl) (?_)))))))))))
  have hdo:NG s x=s:=by exact do_2n aS aS
  exact ⟨rfl,r7,gv,rv,lv,ov,L,pv,av,vv,dv,U4,hR.ms,hR.sb,hR.F,by rw [hdo];exact hM⟩
 have gg:x.kind≠(2:UInt8):=by simpa using L9
 refine AF (AB kR (AA (PN x.kind (3:UInt8) rfl rfl (AA (AE (vO (x.kind == (3:UInt8))) rfl (AG (AC (AJ (x.kind == (3:UInt8)) rfl rfl (fun M4=>?_) (fun M4=>?_)))))))))
 ·have gh:x.kind=(3:UInt8):=by simpa using M4
  refine OH (fun FI wI=>∃ (d2:Nat) (d6:Value) (d7:Value) (B:List Nat),FrM w Bm B wI∧True∧(∃ F1,FI=GN F1 [(0,vP (some ⟨bm,0,none⟩)),(3,vP (some ⟨a1,0,none⟩)),(12,vP (some ⟨d2,0,none⟩)),(13,vI ((AW s.c x.no (BC s.c x.day)).2)),(381,undef)])∧St w0 O wI B∧BL Enc.u8 wI (B++O) (d3) (x.coins)∧BL Enc.int wI (B++O) (e7) (x.guardians)∧FT wI a1 41 [vB x.kind,vI x.no,vI x.guardian,vI x.day,d3,e7,vI x.threshold]∧a1∈B∧MovS w0 O B wI bm gv rv lv ov L pv av vv dv s∧FT wI d2 28 [vI ((AW s.c x.no (BC s.c x.day)).1.epoch),vI ((AW s.c x.no (BC s.c x.day)).1.threshold),vI ((AW s.c x.no (BC s.c x.day)).1.wait),d6,d7]∧BL Enc.int wI (B++O) d6 ((AW s.c x.no (BC s.c x.day)).1.guardians)∧BL Enc.recovery wI (B++O) d7 ((AW s.c x.no (BC s.c x.day)).1.recs)∧d2∈B∧EY a1 d2∧EY bm d2) ?_ ?_
  ·refine FM [] [8,12] [[(0,1),(1,4),(2,4),(3,4),(4,4),(5,4),(6,4),(7,4),(8,2),(9,1),(10,4),(11,4),(12,2),(13,0),(14,1)],[(0,1),(1,4),(2,4),(3,4),(4,4),(5,4),(6,4),(7,4),(12,2),(8,2),(9,1),(10,4),(11,4),(13,0),(14,1)]] (by intro c F d v w hd;(try simp only [GI,FG]);exact GJ c F d v w hd) kR kR kR fun X6 C3=>?_
   have P1:=s3.call C3
   have I2:Mv (a1 :: Bm) x3 (a1 :: Bm) X6:=Mv.of_keep C3
   have a2:=a2.mv I2
   have a6:=a6.mv I2
   have a0:=a0.keep C3 (by simp)
   have hM:=hM.s0 I2 C3 (fun _ h=>h)
   have hR:=hR.s0 I2 C3 (fun _ h=>h)
   refine ⟨?_,?_,trivial⟩
   ·refine BS (AD (vP (some ⟨bm,0,none⟩)) rfl (EP (CA rfl (fun w4_ k4_=>AR ⟨bm,0,none⟩ rfl (⟨rfl,rfl⟩)) (CA rfl (fun w4_ k4_=>AH 0 ED rfl (⟨rfl,rfl⟩)) (CA rfl (fun w4_ k4_=>BI (vs:=[vI s.c.epoch,vI s.c.threshold,vI s.c.wait,gv,rv]) U28_ rfl BJ rfl ((hM.box).keep k4_ (by simp)) rfl (⟨rfl,rfl⟩)) (CA rfl (fun w4_ k4_=>AH 1 GU rfl (⟨rfl,rfl⟩)) (CA rfl (fun w4_ k4_=>AK U3_ rfl (vI x.no) rfl (a0.keep k4_ (by simp)) rfl (⟨rfl,rfl⟩)) (CA rfl (fun w4_ k4_=>AH 3 QE rfl (⟨rfl,rfl⟩)) (CA rfl (fun w4_ k4_=>AK U3_ rfl (vI x.day) rfl (a0.keep k4_ (by simp)) rfl (⟨rfl,rfl⟩)) (FA (BF (vs:=[vA #[vI s.c.epoch,vI s.c.threshold,vI s.c.wait,gv,rv],vI x.no,vI x.day]) enter_38 (c_finish (O:=(a1 :: Bm)++O) [vI s.c.epoch,vI s.c.threshold,vI s.c.wait,gv,rv] s.c x.no x.day X6 ⟨_,_,rfl,(hM.g),(hM.r)⟩ P1.lt) rfl P1 fun ir it dU I3 I4 dV=>(?_))))))))))))
    obtain ⟨M5,rfl,M6⟩:=dV
    have a2:=a2.mv I3
    have a6:=a6.mv I3
    have a0:=a0.keep I4 (by simp)
    have hM:=hM.s0 I3 I4 (fun _ h=>h)
    have hR:=hR.s0 I3 I4 (fun _ h=>h)
    refine ⟨I4,?_⟩
    refine BS (AD (vT #[vA M5.toArray,vI ((AW s.c x.no (BC s.c x.day)).2)]) rfl (EP (CA rfl (fun w4_ k4_=>AL (vA M5.toArray) rfl rfl (⟨rfl,rfl⟩)) (CA rfl (fun w4_ k4_=>AL (vI ((AW s.c x.no (BC s.c x.day)).2)) rfl rfl (⟨rfl,rfl⟩)) (FA (CR [vI 0,vI 0,vI 0,nS,nS] IO rfl dU fun t6 dW dX dY C4 I5 be=>(?_)))))))
    have bf:EY bm t6:=by show bm≠t6;have:=(hM.box).lt;omega
    have U6:EY a1 t6:=by show a1≠t6;have:=a0.lt;omega
    clear dX
    have a2:=a2.mv C4
    have a6:=a6.mv C4
    have M6:Enc.circle.rd dW ((t6 :: (a1 :: Bm))++O) M5 ((AW s.c x.no (BC s.c x.day)).1):=Enc.mv Enc.circle (x:=(AW s.c x.no (BC s.c x.day)).1) M6 C4
    have a0:=a0.keep I5 (by simp)
    have hM:=hM.s0 C4 I5 (fun _ h=>List.mem_cons_of_mem _ h)
    have hR:=hR.s0 C4 I5 (fun _ h=>List.mem_cons_of_mem _ h)
    refine ⟨I5,?_⟩
    obtain ⟨C5,C6,rfl,w1,w2⟩:=M6
    have:=w1.len_le
    have:=w2.len_le
    refine JM (BE (vs:=[vI (((AW s.c x.no (BC s.c x.day)).1).epoch),vI (((AW s.c x.no (BC s.c x.day)).1).threshold),vI (((AW s.c x.no (BC s.c x.day)).1).wait),C5,C6]) (.agg #[vI (((AW s.c x.no (BC s.c x.day)).1).epoch),vI (((AW s.c x.no (BC s.c x.day)).1).threshold),vI (((AW s.c x.no (BC s.c x.day)).1).wait),C5,C6]) rfl rfl rfl BJ (fun u hu=>by simp only [List.mem_cons,List.not_mem_nil,or_false] at hu;rcases hu with rfl|rfl|rfl|rfl|rfl <;> first|rfl|exact w1.oneCell|exact w2.oneCell) (by repeat (constructor)) be oT dY fun iu dZ y5 P2 bg=>(?_))
    have a2:=a2.mv y5
    have a6:=a6.mv y5
    have w1:=w1.mv y5
    have w2:=w2.mv y5
    have a0:=a0.keep P2 (AS U6)
    have hM:=hM.sB y5 P2 aS (by decide) (fun _ h=>h)
    have hR:=hR.sB y5 P2 aS (by decide) (fun _ h=>h)
    refine BS (AE (vI ((AW s.c x.no (BC s.c x.day)).2)) rfl (EP (FH (AC (?_)))))
    exact ⟨t6,C5,C6,(t6 :: (a1 :: Bm)),hR,trivial,⟨_,BD _ ⟨rfl,rfl,rfl,rfl,rfl,trivial⟩⟩,dZ,a2,a6,a0,(by (repeat (first|exact List.mem_cons_self|apply List.mem_cons_of_mem))),hM,(by rw [show ([vI ((AW s.c x.no (BC s.c x.day)).1.epoch),vI ((AW s.c x.no (BC s.c x.day)).1.threshold),vI ((AW s.c x.no (BC s.c x.day)).1.wait),C5,C6]:List Value)=[vI (((AW s.c x.no (BC s.c x.day)).1).epoch),vI (((AW s.c x.no (BC s.c x.day)).1).threshold),vI (((AW s.c x.no (BC s.c x.day)).1).wait),C5,C6] from by rfl];exact bg),(by rw [show (AW s.c x.no (BC s.c x.day)).1.guardians=((AW s.c x.no (BC s.c x.day)).1).guardians from by rfl];exact w1),(by rw [show (AW s.c x.no (BC s.c x.day)).1.recs=((AW s.c x.no (BC s.c x.day)).1).recs from by rfl];exact w2),(by repeat (constructor)),U6,bf⟩
   refine BS (AD (vP (some ⟨bm,0,none⟩)) rfl (EP (CA rfl (fun w4_ k4_=>AR ⟨bm,0,none⟩ rfl (⟨rfl,rfl⟩)) (CA rfl (fun w4_ k4_=>AH 0 ED rfl (⟨rfl,rfl⟩)) (CA rfl (fun w4_ k4_=>BI (vs:=[vI s.c.epoch,vI s.c.threshold,vI s.c.wait,gv,rv]) U28_ rfl BJ rfl ((hM.box).keep k4_ (by simp)) rfl (⟨rfl,rfl⟩)) (CA rfl (fun w4_ k4_=>AH 1 GU rfl (⟨rfl,rfl⟩)) (CA rfl (fun w4_ k4_=>AK U3_ rfl (vI x.no) rfl (a0.keep k4_ (by simp)) rfl (⟨rfl,rfl⟩)) (CA rfl (fun w4_ k4_=>AH 3 QE rfl (⟨rfl,rfl⟩)) (CA rfl (fun w4_ k4_=>AK U3_ rfl (vI x.day) rfl (a0.keep k4_ (by simp)) rfl (⟨rfl,rfl⟩)) (FA (CR [vI 0,vI 0,vI 0,nS,nS] IO rfl P1 fun t7 ea eb X7 I6 I7 M7=>(?_))))))))))))
   have bh:EY bm t7:=by show bm≠t7;have:=(hM.box).lt;omega
   have U7:EY a1 t7:=by show a1≠t7;have:=a0.lt;omega
   clear eb
   have a2:=a2.mv I6
   have a6:=a6.mv I6
   have a0:=a0.keep I7 (by simp)
   have hM:=hM.s0 I6 I7 (fun _ h=>List.mem_cons_of_mem _ h)
   have hR:=hR.s0 I6 I7 (fun _ h=>List.mem_cons_of_mem _ h)
   refine ⟨I7,?_⟩
   refine FA (BF (vs:=[vA #[vI s.c.epoch,vI s.c.threshold,vI s.c.wait,gv,rv],vI x.no,vI x.day]) enter_38 (c_finish (O:=(t7 :: (a1 :: Bm))++O) [vI s.c.epoch,vI s.c.threshold,vI s.c.wait,gv,rv] s.c x.no x.day ea ⟨_,_,rfl,(hM.g),(hM.r)⟩ X7.lt) rfl X7 fun iv iw ec I8 C7 ed=>(?_))
   obtain ⟨U8,rfl,bi⟩:=ed
   have a2:=a2.mv I8
   have a6:=a6.mv I8
   have a0:=a0.keep C7 (by simp)
   have M7:=M7.keep C7 (by simp)
   have hM:=hM.s0 I8 C7 (fun _ h=>h)
   have hR:=hR.s0 I8 C7 (fun _ h=>h)
   refine ⟨C7,?_⟩
   refine BS (AD (vT #[vA U8.toArray,vI ((AW s.c x.no (BC s.c x.day)).2)]) rfl (EP (CA rfl (fun w4_ k4_=>AL (vA U8.toArray) rfl rfl (⟨rfl,rfl⟩)) (CA rfl (fun w4_ k4_=>AL (vI ((AW s.c x.no (BC s.c x.day)).2)) rfl rfl (⟨rfl,rfl⟩)) (?_)))))
   obtain ⟨C8,C9,rfl,w3,w4⟩:=bi
   have:=w3.len_le
   have:=w4.len_le
   refine JM (BE (vs:=[vI (((AW s.c x.no (BC s.c x.day)).1).epoch),vI (((AW s.c x.no (BC s.c x.day)).1).threshold),vI (((AW s.c x.no (BC s.c x.day)).1).wait),C8,C9]) (.agg #[vI (((AW s.c x.no (BC s.c x.day)).1).epoch),vI (((AW s.c x.no (BC s.c x.day)).1).threshold),vI (((AW s.c x.no (BC s.c x.day)).1).wait),C8,C9]) rfl rfl rfl BJ (fun u hu=>by simp only [List.mem_cons,List.not_mem_nil,or_false] at hu;rcases hu with rfl|rfl|rfl|rfl|rfl <;> first|rfl|exact w3.oneCell|exact w4.oneCell) (by repeat (constructor)) M7 oT ec fun iy ee y6 P3 bj=>(?_))
   have a2:=a2.mv y6
   have a6:=a6.mv y6
   have w3:=w3.mv y6
   have w4:=w4.mv y6
   have a0:=a0.keep P3 (AS U7)
   have hM:=hM.sB y6 P3 aS (by decide) (fun _ h=>h)
   have hR:=hR.sB y6 P3 aS (by decide) (fun _ h=>h)
   refine BS (AE (vI ((AW s.c x.no (BC s.c x.day)).2)) rfl (EP (FH (AC (?_)))))
   exact ⟨t7,C8,C9,(t7 :: (a1 :: Bm)),hR,trivial,⟨_,BD _ ⟨rfl,rfl,rfl,rfl,rfl,trivial⟩⟩,ee,a2,a6,a0,(by (repeat (first|exact List.mem_cons_self|apply List.mem_cons_of_mem))),hM,(by rw [show ([vI ((AW s.c x.no (BC s.c x.day)).1.epoch),vI ((AW s.c x.no (BC s.c x.day)).1.threshold),vI ((AW s.c x.no (BC s.c x.day)).1.wait),C8,C9]:List Value)=[vI (((AW s.c x.no (BC s.c x.day)).1).epoch),vI (((AW s.c x.no (BC s.c x.day)).1).threshold),vI (((AW s.c x.no (BC s.c x.day)).1).wait),C8,C9] from by rfl];exact bj),(by rw [show (AW s.c x.no (BC s.c x.day)).1.guardians=((AW s.c x.no (BC s.c x.day)).1).guardians from by rfl];exact w3),(by rw [show (AW s.c x.no (BC s.c x.day)).1.recs=((AW s.c x.no (BC s.c x.day)).1).recs from by rfl];exact w4),(by repeat (constructor)),U7,bh⟩
  intro F bk hI
  clear a2 a6 a0 hM
  obtain ⟨d2,d6,d7,D0,W0,gi,⟨gj,rfl⟩,U9,a2,a6,a0,g0,hM,b7,b5,b6,F9,V6,Z3⟩:=hI
  have:=b5.len_le
  have:=b6.len_le
  have hR:=W0
  refine AF (AB kR (AA (AD (vI ((AW s.c x.no (BC s.c x.day)).2)) rfl (AA (EZ .i64 ((AW s.c x.no (BC s.c x.day)).2) (0:Int) rfl rfl (AG (AC (AJ (((AW s.c x.no (BC s.c x.day)).2) == (0:Int)) rfl rfl (fun M8=>?_) (fun M8=>?_)))))))))
  ·have bn:(AW s.c x.no (BC s.c x.day)).2=(0:Int):=by simpa using M8
   have hga:=TJ hG bn
   have hb0:=hga.1
   have hb1:=hga.2.1
   have hab:=RY hG.ok (no:=x.no) hb0 (by have:=hG.la;omega)
   have haq:=(hG.rel x.no.toNat (by have:=hG.la;omega)).asked
   refine AF (AF (?_))
   obtain ⟨hbx,h3,e0,f9,b0,b2,a7,d8,b1,f7,a5,d4,a3,d1,hne_vd,hT0⟩:=hM
   have gk:∀ b,pv.ownBlock=some b→b≠a1:=a7.neB a0 (by decide)
   have bo:∀ b,pv.ownBlock=some b→b≠bm:=a7.neB hbx (by decide)
   have gl:∀ b,pv.ownBlock=some b→b≠d2:=a7.neB b7 (by decide)
   have gn:∀ b,pv.ownBlock=some b→vv.ownBlock≠some b:=a7.neT a5 (by decide)
   have go:∀ b,av.ownBlock=some b→b≠a1:=b1.neB a0 (by decide)
   have bp:∀ b,av.ownBlock=some b→b≠bm:=b1.neB hbx (by decide)
   have gp:∀ b,av.ownBlock=some b→b≠d2:=b1.neB b7 (by decide)
   have gq:∀ b,av.ownBlock=some b→pv.ownBlock≠some b:=b1.neT a7 (by decide)
   have gr:∀ b,av.ownBlock=some b→vv.ownBlock≠some b:=b1.neT a5 (by decide)
   have bq:∀ b,av.ownBlock=some b→dv.ownBlock≠some b:=b1.neT a3 (by decide)
   have gs:∀ b,vv.ownBlock=some b→b≠a1:=a5.neB a0 (by decide)
   have br:∀ b,vv.ownBlock=some b→b≠bm:=a5.neB hbx (by decide)
   have gt:∀ b,vv.ownBlock=some b→b≠d2:=a5.neB b7 (by decide)
   have gw:∀ b,dv.ownBlock=some b→b≠a1:=a3.neB a0 (by decide)
   have V0:∀ b,dv.ownBlock=some b→b≠bm:=a3.neB hbx (by decide)
   have gx:∀ b,dv.ownBlock=some b→b≠d2:=a3.neB b7 (by decide)
   have bs:∀ b,dv.ownBlock=some b→pv.ownBlock≠some b:=a3.neT a7 (by decide)
   have hT:=hT0
   have:=e0.len_le
   have:=f9.len_le
   have:=b0.len_le
   have:=b2.len_le
   refine DP 52 _ _ kR kR kR kR kR rfl rfl fun ef j8=>?_
   have eg:=U9.call j8
   have g3:Mv D0 bk D0 ef:=Mv.of_keep j8
   have a2:=a2.mv g3
   have a6:=a6.mv g3
   have a0:=a0.keep j8 (by simp)
   have e0:=e0.mv g3
   have f9:=f9.mv g3
   have b0:=b0.mv g3
   have b2:=b2.mv g3
   have a7:=a7.mv g3 j8 (by simp)
   have b1:=b1.mv g3 j8 (by simp)
   have a5:=a5.mv g3 j8 (by simp)
   have a3:=a3.mv g3 j8 (by simp)
   have hbx:=hbx.keep j8 (by simp)
   have b5:=b5.mv g3
   have b6:=b6.mv g3
   have b7:=b7.keep j8 (by simp)
   have hT:=by exact hT.mv0 g3 j8 (fun x hx=>by exact hx)
   have hR:=hR.s0 g3 j8 (fun _ h=>h)
   refine BG (AH 1 GU rfl (BG (AK U3_ rfl (vI x.no) rfl a0 rfl (BG (EB .i64 x.no (0:Int) rfl rfl (BG (AD (vO (decide (x.no<(0:Int)))) rfl (?_))))))))
   have bt:(decide (x.no<(0:Int)))=false:=(decide_eq_false oM)
   rw [bt]
   refine DS rfl (AH 1 GU rfl (DS rfl (AK U3_ rfl (vI x.no) rfl a0 rfl (DS rfl (AD (vP (some ⟨bm,0,none⟩)) rfl (DS rfl (AR ⟨bm,0,none⟩ rfl (DS rfl (AH 9 OD rfl (DS rfl (AK U22_ rfl (av) rfl hbx rfl (DS rfl (NJ U22_ rfl b1 (DS rfl (ID .i64 x.no (s.asked.length:Int) rfl rfl (BG (BK (vO (decide ((s.asked.length:Int)≤x.no))) rfl rfl (BG (AD (vO (decide ((s.asked.length:Int)≤x.no))) rfl (?_))))))))))))))))))))
   have bu:(decide ((s.asked.length:Int)≤x.no))=false:=(decide_eq_false oM)
   rw [bu]
   refine DS rfl (AD (vP (some ⟨bm,0,none⟩)) rfl (DS rfl (AR ⟨bm,0,none⟩ rfl (DS rfl (AH 10 f_39_6 rfl (DS rfl (AK U37_ rfl (vv) rfl hbx rfl (DS rfl (AH 1 GU rfl (DS rfl (AK U3_ rfl (vI x.no) rfl a0 rfl (DS rfl (DO U37_ s_4 .i64 x.no x.no.toNat rfl rfl oM a5.rd0 (by have:=hT.len;omega) fun iz bv=>(DS rfl (OP U4_ rfl rfl bv (BG (BK (vO (s.vetoed[x.no.toNat]!)) rfl rfl (BG (AD (vO (s.vetoed[x.no.toNat]!)) rfl (?_))))))))))))))))))))
   have bw:(s.vetoed[x.no.toNat]!)=false:=hga.2.2.1
   rw [bw]
   refine DS rfl (AD (vP (some ⟨bm,0,none⟩)) rfl (DS rfl (AR ⟨bm,0,none⟩ rfl (DS rfl (AH 11 NL rfl (DS rfl (AK U37_ rfl (dv) rfl hbx rfl (DS rfl (AH 1 GU rfl (DS rfl (AK U3_ rfl (vI x.no) rfl a0 rfl (DS rfl (DO U37_ s_4 .i64 x.no x.no.toNat rfl rfl oM a3.rd0 (by have:=hT.len;omega) fun iA bx=>(DS rfl (OP U4_ rfl rfl bx (BG (BK (vO (s.done[x.no.toNat]!)) rfl rfl (BG (AD (vO (s.done[x.no.toNat]!)) rfl (?_))))))))))))))))))))
   have bz:(s.done[x.no.toNat]!)=false:=(by exact hga.2.2.2.1)
   rw [bz]
   refine DS rfl (AH 3 QE rfl (DS rfl (AK U3_ rfl (vI x.day) rfl a0 rfl (DS rfl (AD (vP (some ⟨bm,0,none⟩)) rfl (DS rfl (AR ⟨bm,0,none⟩ rfl (DS rfl (AH 9 OD rfl (DS rfl (AK U22_ rfl (av) rfl hbx rfl (DS rfl (AH 1 GU rfl (DS rfl (AK U3_ rfl (vI x.no) rfl a0 rfl (DS rfl (DO U22_ OB .i64 x.no x.no.toNat rfl rfl oM b1.rd0 (by have:=hT.len;omega) fun iB bA=>(DS rfl (CG U3_ rfl rfl bA (DS rfl (AD (vP (some ⟨bm,0,none⟩)) rfl (DS rfl (AR ⟨bm,0,none⟩ rfl (DS rfl (AH 0 ED rfl (DS rfl (AH 2 f_28_2 rfl (DS rfl (AK U3_ rfl (vI s.c.wait) rfl hbx rfl (DS rfl (DR .i64 (s.asked[x.no.toNat]!) s.c.wait (s.asked[x.no.toNat]! + s.c.wait) rfl rfl (GZ oM rfl) (DS rfl (EB .i64 x.day (s.asked[x.no.toNat]! + s.c.wait) rfl rfl (BG (BK (vO (decide (x.day<s.asked[x.no.toNat]! + s.c.wait))) rfl rfl (EQ (AG (AC (?_)))))))))))))))))))))))))))))))))))))))
   have bB:(decide (x.day<s.asked[x.no.toNat]! + s.c.wait))=false:=(decide_eq_false (by have:=hga.2.2.2.2.1;omega))
   rw [bB]
   refine AJ false rfl rfl (fun h=>by cases h) (fun _=>AT (AC (AF (AB kR (AA (AE (vI 0) rfl (AG (AC (AF (AF (AB kR (AA (AD (vP (some ⟨bm,0,none⟩)) rfl (AA (AR ⟨bm,0,none⟩ rfl (AA (AH 0 ED rfl (AA (AH 3 LK rfl (AA (AK U22_ rfl (gv) rfl hbx rfl (AA (CK U22_ rfl e0 (AA (AD (vI 0) rfl (AG (AC (BQ (DU (fun mI FI wI=>∃ (k:Nat) (B:List Nat),k≤s.c.guardians.length∧Mk B wI L s.appr∧FrM w Bm B wI∧mI=s.c.guardians.length - k∧(∃ F1,FI=GN F1 [(0,vP (some ⟨bm,0,none⟩)),(3,vP (some ⟨a1,0,none⟩)),(12,vP (some ⟨d2,0,none⟩)),(14,vI ((RB s.c.guardians s.appr[x.no.toNat]! k:Nat):Int)),(266,gv),(267,vI (s.c.guardians.length:Int)),(268,vI ((k:Nat):Int)),(381,undef)])∧St w0 O wI B∧BL Enc.int wI (B++O) (gv) (s.c.guardians)∧BL Enc.u8 wI (B++O) (d3) (x.coins)∧BL Enc.int wI (B++O) (e7) (x.guardians)∧FT wI a1 41 [vB x.kind,vI x.no,vI x.guardian,vI x.day,d3,e7,vI x.threshold]∧a1∈B∧BL Enc.recovery wI (B++O) (rv) (s.c.recs)∧BL Enc.share wI (B++O) (lv) (s.l)∧BL Enc.share wI (B++O) (ov) (s.old)∧DX Enc.val 75 w0.heap.size (B++O) wI pv (L)∧(∀ b,pv.ownBlock=some b→b∈B)∧DX Enc.int 3 w0.heap.size (B++O) wI av (s.asked)∧(∀ b,av.ownBlock=some b→b∈B)∧DX Enc.bool 4 w0.heap.size (B++O) wI vv (s.vetoed)∧(∀ b,vv.ownBlock=some b→b∈B)∧DX Enc.bool 4 w0.heap.size (B++O) wI dv (s.done)∧(∀ b,dv.ownBlock=some b→b∈B)∧FT wI bm 39 [vI s.c.epoch,vI s.c.threshold,vI s.c.wait,gv,rv,lv,ov,vO s.renewed,pv,av,vv,dv]∧bm∈B∧BL Enc.int wI (B++O) (d6) ((AW s.c x.no (BC s.c x.day)).1.guardians)∧BL Enc.recovery wI (B++O) (d7) ((AW s.c x.no (BC s.c x.day)).1.recs)∧FT wI d2 28 [vI ((AW s.c x.no (BC s.c x.day)).1.epoch),vI ((AW s.c x.no (BC s.c x.day)).1.threshold),vI ((AW s.c x.no (BC s.c x.day)).1.wait),d6,d7]∧d2∈B) (s.c.guardians.length - (0)) ?_ ?_)))))))))))))))))))))))))))))
   ·exact ⟨(0),D0,oM,hT,hR,rfl,⟨_,BD _ ⟨rfl,rfl,rfl,(by rfl),rfl,rfl,(by rfl),rfl,trivial⟩⟩,eg,e0,a2,a6,a0,aS,f9,b0,b2,a7,d8,b1,f7,a5,d4,a3,d1,hbx,aS,b5,b6,b7,aS⟩
   intro ja F gy hI
   clear e0 a2 a6 a0 f9 b0 b2 a7 d8 b1 f7 a5 d4 a3 d1 hbx b5 b6 b7
   obtain ⟨k,M9,hr0_0,hr0_1,hr0_2,jb,⟨jc,rfl⟩,eX,e0,a2,a6,a0,g0,f9,b0,b2,a7,d8,b1,f7,a5,d4,a3,d1,hbx,h3,b5,b6,b7,F9⟩:=hI
   have hT:=hr0_1
   have hR:=hr0_2
   have hcl:=cntP_le s.c.guardians s.appr[x.no.toNat]! k
   refine AF (AB kR (AA (EB .i64 ((k:Nat):Int) (s.c.guardians.length:Int) rfl rfl (AG (AC (AF (AJ (decide (((k:Nat):Int)<(s.c.guardians.length:Int))) rfl rfl (fun N0=>?_) (fun N0=>?_))))))))
   ·have gz:((k:Nat):Int)<(s.c.guardians.length:Int):=by simpa using N0
    refine AT (AC (AF (BQ (AF (AB kR (AA (DO U22_ OB .i64 ((k:Nat):Int) k rfl rfl rfl e0 (by have:=hT.len;omega) fun iC bC=>(AA (CG U3_ rfl rfl bC (AA (AE (vI (s.c.guardians[k]!)) rfl (AG (AC (AF (DP 9 _ _ kR kR kR kR kR rfl rfl fun eh j9=>?_)))))))))))))))
    have X8:=eX.call j9
    have g4:Mv M9 gy M9 eh:=Mv.of_keep j9
    have e0:=e0.mv g4
    have a2:=a2.mv g4
    have a6:=a6.mv g4
    have a0:=a0.keep j9 (by simp)
    have f9:=f9.mv g4
    have b0:=b0.mv g4
    have b2:=b2.mv g4
    have a7:=a7.mv g4 j9 (by simp)
    have b1:=b1.mv g4 j9 (by simp)
    have a5:=a5.mv g4 j9 (by simp)
    have a3:=a3.mv g4 j9 (by simp)
    have hbx:=hbx.keep j9 (by simp)
    have b5:=b5.mv g4
    have b6:=b6.mv g4
    have b7:=b7.keep j9 (by simp)
    have hT:=by exact hT.mv0 g4 j9 (fun x hx=>by exact hx)
    have hR:=hR.s0 g4 j9 (fun _ h=>h)
    refine BG (AD (vP (some ⟨bm,0,none⟩)) rfl (BG (AR ⟨bm,0,none⟩ rfl (BG (AH 8 f_39_4 rfl (BG (AK U36_ rfl (pv) rfl hbx rfl (BG (AH 1 GU rfl (BG (AK U3_ rfl (vI x.no) rfl a0 rfl (BG (DO U36_ s_75 .i64 x.no x.no.toNat rfl rfl oM a7.rd0 (by have:=hT.len;omega) fun iD bD=>(BG (o_loadV U75_ rfl rfl bD (BG (AD (vI (s.c.guardians[k]!)) rfl (EQ (AA (o_lookT (i:=x.no.toNat) (k:=(s.c.guardians[k]!)) U75_ U3_ z_4 rfl rfl hT oM (AG (AC (AJ ((s.appr[x.no.toNat]! (s.c.guardians[k]!))) rfl rfl (fun N1=>?_) (fun N1=>?_))))))))))))))))))))))))
    ·have gA:(s.appr[x.no.toNat]! (s.c.guardians[k]!))=true:=by simpa using N1
     refine AB kR (AA (AD (vI ((RB s.c.guardians s.appr[x.no.toNat]! k:Nat):Int)) rfl (AA (DR .i64 ((RB s.c.guardians s.appr[x.no.toNat]! k:Nat):Int) (1:Int) (((RB s.c.guardians s.appr[x.no.toNat]! k+1:Nat):Int)) rfl rfl (GZ oM oM) (AA (AE (vI ((RB s.c.guardians s.appr[x.no.toNat]! k+1:Nat):Int)) rfl (AG (CB (AC (AB kR (AA (DR .i64 ((k:Nat):Int) (1:Int) (((k+1:Nat):Int)) rfl rfl (GZ oM oM) (AA (AD (vI ((k+1:Nat):Int)) rfl (AG (AC (?_)))))))))))))))))
     exact ⟨_,oM,(k+1),M9,oM,hT,hR,rfl,⟨_,BD _ ⟨rfl,rfl,rfl,(by exact congrArg (Value.int _) (by ((rw [AAg oM,if_pos aS];done)))),rfl,rfl,(by rfl),rfl,trivial⟩⟩,X8,e0,a2,a6,a0,aS,f9,b0,b2,a7,d8,b1,f7,a5,d4,a3,d1,hbx,aS,b5,b6,b7,aS⟩
    have gB:(s.appr[x.no.toNat]! (s.c.guardians[k]!))=false:=by simpa using N1
    refine AT (CB (AC (AB kR (AA (DR .i64 ((k:Nat):Int) (1:Int) (((k+1:Nat):Int)) rfl rfl (GZ oM oM) (AA (AD (vI ((k+1:Nat):Int)) rfl (AG (AC (?_))))))))))
    exact ⟨_,oM,(k+1),M9,oM,hT,hR,rfl,⟨_,BD _ ⟨rfl,rfl,rfl,(by exact congrArg (Value.int _) (by ((rw [AAg oM,if_neg (by rw [Bool.not_eq_true];assumption)];rfl)))),rfl,rfl,(by rfl),rfl,trivial⟩⟩,X8,e0,a2,a6,a0,aS,f9,b0,b2,a7,d8,b1,f7,a5,d4,a3,d1,hbx,aS,b5,b6,b7,aS⟩
   have gC:(s.c.guardians.length:Int)≤((k:Nat):Int):=by simpa using N0
   obtain rfl:k=s.c.guardians.length:=by omega
   refine DW (CL (CL (DK (AC (AF (AF (AB kR (AA (AD (vI ((RB s.c.guardians s.appr[x.no.toNat]! s.c.guardians.length:Nat):Int)) rfl (AA (AD (vP (some ⟨bm,0,none⟩)) rfl (AA (AR ⟨bm,0,none⟩ rfl (AA (AH 0 ED rfl (AA (AH 1 KK rfl (AA (AK U3_ rfl (vI s.c.threshold) rfl hbx rfl (AA (EB .i64 ((RB s.c.guardians s.appr[x.no.toNat]! s.c.guardians.length:Nat):Int) s.c.threshold rfl rfl (AG (AC (?_))))))))))))))))))))))))
   have bE:(decide (((RB s.c.guardians s.appr[x.no.toNat]! s.c.guardians.length:Nat):Int)<s.c.threshold))=false:=(decide_eq_false (by have:=hga.2.2.2.2.2.1;omega))
   rw [bE]
   refine AJ false rfl rfl (fun h=>by cases h) (fun _=>AT (AC (AF (AB kR (AA (AD (vP (some ⟨bm,0,none⟩)) rfl (AA (BI (vs:=[vI ((AW s.c x.no (BC s.c x.day)).1.epoch),vI ((AW s.c x.no (BC s.c x.day)).1.threshold),vI ((AW s.c x.no (BC s.c x.day)).1.wait),d6,d7]) U28_ rfl BJ rfl b7 rfl (AA (AR ⟨bm,0,none⟩ rfl (AA (AH 0 ED rfl (BZ (BE (vs:=[vI ((AW s.c x.no (BC s.c x.day)).1.epoch),vI ((AW s.c x.no (BC s.c x.day)).1.threshold),vI ((AW s.c x.no (BC s.c x.day)).1.wait),d6,d7]) (.agg #[vI ((AW s.c x.no (BC s.c x.day)).1.epoch),vI ((AW s.c x.no (BC s.c x.day)).1.threshold),vI ((AW s.c x.no (BC s.c x.day)).1.wait),d6,d7]) rfl rfl rfl BJ (fun u hu=>by simp only [List.mem_cons,List.not_mem_nil,or_false] at hu;rcases hu with rfl|rfl|rfl|rfl|rfl <;> first|rfl|exact b5.oneCell|exact b6.oneCell) (by repeat (assumption)) hbx oT eX fun ei ej n7 t8 r9=>(?_)))))))))))))))
   have b5:=b5.mv n7
   have b6:=b6.mv n7
   have a0:=a0.keep t8 (AS (Ne.symm u3))
   have b0:=b0.mv n7
   have b2:=b2.mv n7
   have a7:=a7.mv n7 t8 (fun b hb=>AS (bo b hb))
   have b1:=b1.mv n7 t8 (fun b hb=>AS (bp b hb))
   have a5:=a5.mv n7 t8 (fun b hb=>AS (br b hb))
   have a3:=a3.mv n7 t8 (fun b hb=>AS (V0 b hb))
   have hT:=by exact hT.mvB n7 t8 aS (by decide) (fun x hx=>by exact hx)
   have hR:=hR.sB n7 t8 aS (by decide) (fun _ h=>h)
   refine AG (AC (DP 7 _ _ kR kR kR kR kR rfl rfl fun ek n9=>?_))
   have el:=ej.call n9
   have o0:Mv M9 ei M9 ek:=Mv.of_keep n9
   have b5:=b5.mv o0
   have b6:=b6.mv o0
   have a0:=a0.keep n9 (by simp)
   have b0:=b0.mv o0
   have b2:=b2.mv o0
   have a7:=a7.mv o0 n9 (by simp)
   have b1:=b1.mv o0 n9 (by simp)
   have a5:=a5.mv o0 n9 (by simp)
   have a3:=a3.mv o0 n9 (by simp)
   have r9:=r9.keep n9 (by simp)
   have hT:=by exact hT.mv0 o0 n9 (fun x hx=>by exact hx)
   have hR:=hR.s0 o0 n9 (fun _ h=>h)
   refine BG (AD (vP (some ⟨bm,0,none⟩)) rfl (BG (AR ⟨bm,0,none⟩ rfl (BG (AH 11 NL rfl (BG (AK U37_ rfl (dv) rfl r9 rfl (BG (AH 1 GU rfl (BG (AK U3_ rfl (vI x.no) rfl a0 rfl (BG (EW U37_ s_4 .i64 x.no x.no.toNat rfl rfl oM a3 (by have:=hT.len;omega) fun iE p5=>(EQ (BZ (JZ true s_4 rfl rfl rfl a3 p5 (d1 _ p5) (by have:=hT.len;omega) rfl el fun iF em q3 y7 bF=>(?_)))))))))))))))))
   have b5:=b5.mv q3
   have b6:=b6.mv q3
   have b0:=b0.mv q3
   have b2:=b2.mv q3
   have a7:=a7.mv q3 y7 (fun b hb=>by simp only [List.mem_singleton];rintro rfl;exact absurd p5 ((fun b hb e=>bs b e hb) _ hb))
   have b1:=b1.mv q3 y7 (fun b hb=>by simp only [List.mem_singleton];rintro rfl;exact absurd p5 (bq _ hb))
   have a5:=a5.mv q3 y7 (fun b hb=>by simp only [List.mem_singleton];rintro rfl;exact absurd p5 (hne_vd _ hb))
   have r9:=r9.keep y7 (by simp only [List.mem_singleton];exact fun e=>absurd e.symm (V0 _ p5))
   have hT:=hT.mvO q3 y7 a3 (fun b hq=>by have hq:=List.mem_singleton.1 hq;subst hq;exact p5) (by decide) (fun x hx=>by exact hx)
   have hR:=hR.sO q3 y7 a3 (fun b hq=>by have hq:=List.mem_singleton.1 hq;subst hq;exact p5) (by decide) (fun _ h=>h)
   refine AG (CB (AC (AF (AB kR (AA (AE (vO true) rfl (AG (AC (AM (AZ rfl (CN rfl rfl rfl) (?_)))))))))))
   have hdo:NG s x=(⟨(AW s.c x.no (BC s.c x.day)).1,s.l,s.old,s.renewed,s.asked,s.appr,s.vetoed,s.done.set x.no.toNat true⟩:MovR):=by exact do_3y aS aS
   exact ⟨rfl,M9,d6,d7,lv,ov,L,pv,av,vv,dv,em,hR.ms,hR.sb,hR.F,by rw [hdo];exact ⟨r9,(by repeat (assumption)),b5,b6,b0,b2,a7,d8,b1,f7,a5,d4,bF,d1,hne_vd,hT⟩⟩
  have gD:(AW s.c x.no (BC s.c x.day)).2≠(0:Int):=by simpa using M8
  refine AT (CB (AC (AF (AB kR (AA (AE (vO true) rfl (AG (AC (AM (AZ rfl (CN rfl rfl rfl) (?_)))))))))))
  have hdo:NG s x=s:=by exact do_3n aS aS
  exact ⟨rfl,D0,gv,rv,lv,ov,L,pv,av,vv,dv,U9,hR.ms,hR.sb,hR.F,by rw [hdo];exact hM⟩
 have gE:x.kind≠(3:UInt8):=by simpa using M4
 refine AF (AB kR (AA (PN x.kind (4:UInt8) rfl rfl (AA (AE (vO (x.kind == (4:UInt8))) rfl (AG (AC (AJ (x.kind == (4:UInt8)) rfl rfl (fun N2=>?_) (fun N2=>?_)))))))))
 ·have gF:x.kind=(4:UInt8):=by simpa using N2
  refine OH (fun FI wI=>∃ (e8:Nat) (f3:Value) (f4:Value) (i4:Value) (B:List Nat),FrM w Bm B wI∧True∧(∃ F1,FI=GN F1 [(0,vP (some ⟨bm,0,none⟩)),(17,vP (some ⟨e8,0,none⟩)),(18,i4),(19,vI ((BM s.c s.l x.coins).2.2)),(381,undef)])∧St w0 O wI B∧BL Enc.share wI (B++O) i4 ((BM s.c s.l x.coins).2.1)∧MovS w0 O B wI bm gv rv lv ov L pv av vv dv s∧FT wI e8 28 [vI ((BM s.c s.l x.coins).1.epoch),vI ((BM s.c s.l x.coins).1.threshold),vI ((BM s.c s.l x.coins).1.wait),f3,f4]∧BL Enc.int wI (B++O) f3 ((BM s.c s.l x.coins).1.guardians)∧BL Enc.recovery wI (B++O) f4 ((BM s.c s.l x.coins).1.recs)∧e8∈B∧EY bm e8) ?_ ?_
  ·refine FM [] [10,15] [[(0,1),(1,4),(2,4),(3,4),(4,1),(5,4),(6,4),(7,4),(8,4),(9,4),(10,2),(11,1),(12,4),(13,4),(14,4),(15,2),(16,0),(17,1),(18,1)],[(0,1),(1,4),(2,4),(3,4),(4,1),(5,4),(6,4),(7,4),(8,4),(9,4),(15,2),(10,2),(11,1),(12,4),(13,4),(14,4),(16,0),(17,1),(18,1)]] (by intro c F d v w hd;(try simp only [GI,FG]);exact GJ c F d v w hd) kR kR kR fun X9 D1=>?_
   have P4:=s3.call D1
   have P5:Mv (a1 :: Bm) x3 (a1 :: Bm) X9:=Mv.of_keep D1
   have a2:=a2.mv P5
   have a0:=a0.keep D1 (by simp)
   have hM:=hM.s0 P5 D1 (fun _ h=>h)
   have hR:=hR.s0 P5 D1 (fun _ h=>h)
   refine ⟨?_,?_,trivial⟩
   ·refine BS (AD (vP (some ⟨bm,0,none⟩)) rfl (EP (CA rfl (fun w4_ k4_=>AR ⟨bm,0,none⟩ rfl (⟨rfl,rfl⟩)) (CA rfl (fun w4_ k4_=>AH 0 ED rfl (⟨rfl,rfl⟩)) (CA rfl (fun w4_ k4_=>BI (vs:=[vI s.c.epoch,vI s.c.threshold,vI s.c.wait,gv,rv]) U28_ rfl BJ rfl ((hM.box).keep k4_ (by simp)) rfl (⟨rfl,rfl⟩)) (BS (AD (vP (some ⟨bm,0,none⟩)) rfl (EP (CA rfl (fun w4_ k4_=>AR ⟨bm,0,none⟩ rfl (⟨rfl,rfl⟩)) (CA rfl (fun w4_ k4_=>AH 5 ML rfl (⟨rfl,rfl⟩)) (CA rfl (fun w4_ k4_=>AK U32_ rfl (lv) rfl ((hM.box).keep k4_ (by simp)) rfl (⟨rfl,rfl⟩)) (CA rfl (fun w4_ k4_=>AH 4 WH rfl (⟨rfl,rfl⟩)) (CA rfl (fun w4_ k4_=>AK U23_ rfl (d3) rfl (a0.keep k4_ (by simp)) rfl (⟨rfl,rfl⟩)) (FA (BF (vs:=[vA #[vI s.c.epoch,vI s.c.threshold,vI s.c.wait,gv,rv],lv,d3]) enter_24 (c_renew (O:=(a1 :: Bm)++O) [vI s.c.epoch,vI s.c.threshold,vI s.c.wait,gv,rv] s.c lv s.l d3 x.coins X9 ⟨_,_,rfl,(hM.g),(hM.r)⟩ (hM.l) a2 P4.lt) rfl P4 fun iG iH en Y0 I9 eo=>(?_))))))))))))))))
    obtain ⟨N3,J0,rfl,N4,s1⟩:=eo
    have:=s1.len_le
    have a0:=a0.keep I9 (by simp)
    have hM:=hM.s0 Y0 I9 (fun _ h=>h)
    have hR:=hR.s0 Y0 I9 (fun _ h=>h)
    refine ⟨I9,?_⟩
    refine BS (AD (vT #[vA N3.toArray,J0,vI ((BM s.c s.l x.coins).2.2)]) rfl (EP (CA rfl (fun w4_ k4_=>AL (vA N3.toArray) rfl rfl (⟨rfl,rfl⟩)) (CA rfl (fun w4_ k4_=>AL (J0) rfl rfl (⟨rfl,rfl⟩)) (CA rfl (fun w4_ k4_=>AL (vI ((BM s.c s.l x.coins).2.2)) rfl rfl (⟨rfl,rfl⟩)) (FA (CR [vI 0,vI 0,vI 0,nS,nS] IO rfl en fun t9 es et eu J1 P6 bG=>(?_))))))))
    have bH:EY bm t9:=by show bm≠t9;have:=(hM.box).lt;omega
    have gG:EY a1 t9:=by show a1≠t9;have:=a0.lt;omega
    clear et
    have N4:Enc.circle.rd es ((t9 :: (a1 :: Bm))++O) N3 ((BM s.c s.l x.coins).1):=Enc.mv Enc.circle (x:=(BM s.c s.l x.coins).1) N4 J1
    have s1:=s1.mv J1
    have hM:=hM.s0 J1 P6 (fun _ h=>List.mem_cons_of_mem _ h)
    have hR:=hR.s0 J1 P6 (fun _ h=>List.mem_cons_of_mem _ h)
    refine ⟨P6,?_⟩
    obtain ⟨D2,D3,rfl,w5,w6⟩:=N4
    have:=w5.len_le
    have:=w6.len_le
    refine JM (BE (vs:=[vI (((BM s.c s.l x.coins).1).epoch),vI (((BM s.c s.l x.coins).1).threshold),vI (((BM s.c s.l x.coins).1).wait),D2,D3]) (.agg #[vI (((BM s.c s.l x.coins).1).epoch),vI (((BM s.c s.l x.coins).1).threshold),vI (((BM s.c s.l x.coins).1).wait),D2,D3]) rfl rfl rfl BJ (fun u hu=>by simp only [List.mem_cons,List.not_mem_nil,or_false] at hu;rcases hu with rfl|rfl|rfl|rfl|rfl <;> first|rfl|exact w5.oneCell|exact w6.oneCell) (by repeat (constructor)) bG oT eu fun iI ev D4 Y1 bI=>(?_))
    have s1:=s1.mv D4
    have w5:=w5.mv D4
    have w6:=w6.mv D4
    have hM:=hM.sB D4 Y1 aS (by decide) (fun _ h=>h)
    have hR:=hR.sB D4 Y1 aS (by decide) (fun _ h=>h)
    refine BS (AE (J0) rfl (EP (BS (AE (vI ((BM s.c s.l x.coins).2.2)) rfl (EP (FH (AC (?_))))))))
    exact ⟨t9,D2,D3,J0,(t9 :: (a1 :: Bm)),hR,trivial,⟨_,BD _ ⟨rfl,rfl,rfl,rfl,rfl,trivial⟩⟩,ev,s1,hM,(by rw [show ([vI ((BM s.c s.l x.coins).1.epoch),vI ((BM s.c s.l x.coins).1.threshold),vI ((BM s.c s.l x.coins).1.wait),D2,D3]:List Value)=[vI (((BM s.c s.l x.coins).1).epoch),vI (((BM s.c s.l x.coins).1).threshold),vI (((BM s.c s.l x.coins).1).wait),D2,D3] from by rfl];exact bI),(by rw [show (BM s.c s.l x.coins).1.guardians=((BM s.c s.l x.coins).1).guardians from by rfl];exact w5),(by rw [show (BM s.c s.l x.coins).1.recs=((BM s.c s.l x.coins).1).recs from by rfl];exact w6),(by repeat (constructor)),bH⟩
   refine BS (AD (vP (some ⟨bm,0,none⟩)) rfl (EP (CA rfl (fun w4_ k4_=>AR ⟨bm,0,none⟩ rfl (⟨rfl,rfl⟩)) (CA rfl (fun w4_ k4_=>AH 0 ED rfl (⟨rfl,rfl⟩)) (CA rfl (fun w4_ k4_=>BI (vs:=[vI s.c.epoch,vI s.c.threshold,vI s.c.wait,gv,rv]) U28_ rfl BJ rfl ((hM.box).keep k4_ (by simp)) rfl (⟨rfl,rfl⟩)) (BS (AD (vP (some ⟨bm,0,none⟩)) rfl (EP (CA rfl (fun w4_ k4_=>AR ⟨bm,0,none⟩ rfl (⟨rfl,rfl⟩)) (CA rfl (fun w4_ k4_=>AH 5 ML rfl (⟨rfl,rfl⟩)) (CA rfl (fun w4_ k4_=>AK U32_ rfl (lv) rfl ((hM.box).keep k4_ (by simp)) rfl (⟨rfl,rfl⟩)) (CA rfl (fun w4_ k4_=>AH 4 WH rfl (⟨rfl,rfl⟩)) (CA rfl (fun w4_ k4_=>AK U23_ rfl (d3) rfl (a0.keep k4_ (by simp)) rfl (⟨rfl,rfl⟩)) (FA (CR [vI 0,vI 0,vI 0,nS,nS] IO rfl P4 fun u0 ew ey Y2 P7 P8 N5=>(?_))))))))))))))))
   have bJ:EY bm u0:=by show bm≠u0;have:=(hM.box).lt;omega
   have gH:EY a1 u0:=by show a1≠u0;have:=a0.lt;omega
   clear ey
   have a2:=a2.mv P7
   have hM:=hM.s0 P7 P8 (fun _ h=>List.mem_cons_of_mem _ h)
   have hR:=hR.s0 P7 P8 (fun _ h=>List.mem_cons_of_mem _ h)
   refine ⟨P8,?_⟩
   refine FA (BF (vs:=[vA #[vI s.c.epoch,vI s.c.threshold,vI s.c.wait,gv,rv],lv,d3]) enter_24 (c_renew (O:=(u0 :: (a1 :: Bm))++O) [vI s.c.epoch,vI s.c.threshold,vI s.c.wait,gv,rv] s.c lv s.l d3 x.coins ew ⟨_,_,rfl,(hM.g),(hM.r)⟩ (hM.l) a2 Y2.lt) rfl Y2 fun iJ iK ez Y3 J2 eA=>(?_))
   obtain ⟨V1,J3,rfl,bK,D5⟩:=eA
   have:=D5.len_le
   have N5:=N5.keep J2 (by simp)
   have hM:=hM.s0 Y3 J2 (fun _ h=>h)
   have hR:=hR.s0 Y3 J2 (fun _ h=>h)
   refine ⟨J2,?_⟩
   refine BS (AD (vT #[vA V1.toArray,J3,vI ((BM s.c s.l x.coins).2.2)]) rfl (EP (CA rfl (fun w4_ k4_=>AL (vA V1.toArray) rfl rfl (⟨rfl,rfl⟩)) (CA rfl (fun w4_ k4_=>AL (J3) rfl rfl (⟨rfl,rfl⟩)) (CA rfl (fun w4_ k4_=>AL (vI ((BM s.c s.l x.coins).2.2)) rfl rfl (⟨rfl,rfl⟩)) (?_))))))
   obtain ⟨D6,D7,rfl,w7,w8⟩:=bK
   have:=w7.len_le
   have:=w8.len_le
   refine JM (BE (vs:=[vI (((BM s.c s.l x.coins).1).epoch),vI (((BM s.c s.l x.coins).1).threshold),vI (((BM s.c s.l x.coins).1).wait),D6,D7]) (.agg #[vI (((BM s.c s.l x.coins).1).epoch),vI (((BM s.c s.l x.coins).1).threshold),vI (((BM s.c s.l x.coins).1).wait),D6,D7]) rfl rfl rfl BJ (fun u hu=>by simp only [List.mem_cons,List.not_mem_nil,or_false] at hu;rcases hu with rfl|rfl|rfl|rfl|rfl <;> first|rfl|exact w7.oneCell|exact w8.oneCell) (by repeat (constructor)) N5 oT ez fun iL eB D8 Y4 bL=>(?_))
   have D5:=D5.mv D8
   have w7:=w7.mv D8
   have w8:=w8.mv D8
   have hM:=hM.sB D8 Y4 aS (by decide) (fun _ h=>h)
   have hR:=hR.sB D8 Y4 aS (by decide) (fun _ h=>h)
   refine BS (AE (J3) rfl (EP (BS (AE (vI ((BM s.c s.l x.coins).2.2)) rfl (EP (FH (AC (?_))))))))
   exact ⟨u0,D6,D7,J3,(u0 :: (a1 :: Bm)),hR,trivial,⟨_,BD _ ⟨rfl,rfl,rfl,rfl,rfl,trivial⟩⟩,eB,D5,hM,(by rw [show ([vI ((BM s.c s.l x.coins).1.epoch),vI ((BM s.c s.l x.coins).1.threshold),vI ((BM s.c s.l x.coins).1.wait),D6,D7]:List Value)=[vI (((BM s.c s.l x.coins).1).epoch),vI (((BM s.c s.l x.coins).1).threshold),vI (((BM s.c s.l x.coins).1).wait),D6,D7] from by rfl];exact bL),(by rw [show (BM s.c s.l x.coins).1.guardians=((BM s.c s.l x.coins).1).guardians from by rfl];exact w7),(by rw [show (BM s.c s.l x.coins).1.recs=((BM s.c s.l x.coins).1).recs from by rfl];exact w8),(by repeat (constructor)),bJ⟩
  intro F bM hI
  clear hM
  obtain ⟨e8,f3,f4,i4,D9,W1,gI,⟨gJ,rfl⟩,V2,c8,hM,e3,b9,c0,Z8,Z4⟩:=hI
  have:=c8.len_le
  have:=b9.len_le
  have:=c0.len_le
  have hR:=W1
  refine AF (AB kR (AA (AD (vI ((BM s.c s.l x.coins).2.2)) rfl (AA (EZ .i64 ((BM s.c s.l x.coins).2.2) (0:Int) rfl rfl (AG (AC (AJ (((BM s.c s.l x.coins).2.2) == (0:Int)) rfl rfl (fun N6=>?_) (fun N6=>?_)))))))))
  ·have gK:(BM s.c s.l x.coins).2.2=(0:Int):=by simpa using N6
   obtain ⟨hbx,h3,e0,f9,b0,b2,a7,d8,b1,f7,a5,d4,a3,d1,hne_vd,hT0⟩:=hM
   have E0:∀ b,pv.ownBlock=some b→b≠bm:=a7.neB hbx (by decide)
   have gL:∀ b,pv.ownBlock=some b→b≠e8:=a7.neB e3 (by decide)
   have gM:∀ b,pv.ownBlock=some b→vv.ownBlock≠some b:=a7.neT a5 (by decide)
   have E1:∀ b,av.ownBlock=some b→b≠bm:=b1.neB hbx (by decide)
   have gN:∀ b,av.ownBlock=some b→b≠e8:=b1.neB e3 (by decide)
   have gO:∀ b,av.ownBlock=some b→pv.ownBlock≠some b:=b1.neT a7 (by decide)
   have gP:∀ b,av.ownBlock=some b→vv.ownBlock≠some b:=b1.neT a5 (by decide)
   have gQ:∀ b,av.ownBlock=some b→dv.ownBlock≠some b:=b1.neT a3 (by decide)
   have E2:∀ b,vv.ownBlock=some b→b≠bm:=a5.neB hbx (by decide)
   have gR:∀ b,vv.ownBlock=some b→b≠e8:=a5.neB e3 (by decide)
   have E3:∀ b,dv.ownBlock=some b→b≠bm:=a3.neB hbx (by decide)
   have gS:∀ b,dv.ownBlock=some b→b≠e8:=a3.neB e3 (by decide)
   have gT:∀ b,dv.ownBlock=some b→pv.ownBlock≠some b:=a3.neT a7 (by decide)
   have hT:=hT0
   have:=e0.len_le
   have:=f9.len_le
   have:=b0.len_le
   have:=b2.len_le
   refine SM ([]:List Nat) [(0,0),(1,0),(2,0),(3,0),(4,4),(5,0),(6,4),(7,4),(8,4),(9,0),(10,4),(11,4),(12,0),(13,4),(14,4),(15,0),(16,4),(17,4),(18,0),(19,4),(20,4),(21,0)] (by intro c F d v w hd;simp only [GI,FG];exact GJ c F d v w hd) kR kR kR fun J4 o1=>⟨[(0,0,GH),(1,0,GH),(2,0,GH),(3,0,GH),(4,4,GH),(5,0,GH),(6,4,GH),(7,4,GH),(8,4,GH),(9,0,GH),(10,4,GH),(11,4,GH),(12,0,GH),(13,4,GH),(14,4,GH),(15,0,GH),(16,4,GH),(17,4,GH),(18,0,GH),(19,4,GH),(20,4,GH),(21,0,GH)],rfl,⟨CC,CC,CC,CC,CC,CC,CC,CC,CC,CC,CC,CC,CC,CC,CC,CC,CC,CC,CC,CC,CC,CC,trivial⟩,?_⟩
   have eC:=V2.call o1
   have o2:Mv D9 bM D9 J4:=Mv.of_keep o1
   have c8:=c8.mv o2
   have b0:=b0.mv o2
   have a7:=a7.mv o2 o1 (by simp)
   have b1:=b1.mv o2 o1 (by simp)
   have a5:=a5.mv o2 o1 (by simp)
   have a3:=a3.mv o2 o1 (by simp)
   have hbx:=hbx.keep o1 (by simp)
   have b9:=b9.mv o2
   have c0:=c0.mv o2
   have e3:=e3.keep o1 (by simp)
   have hT:=by exact hT.mv0 o2 o1 (fun x hx=>by exact hx)
   have hR:=hR.s0 o2 o1 (fun _ h=>h)
   have gU:∀ b∈([]:List Nat),b<J4.heap.size:=(fun _ h_=>by cases h_)
   have gV:Keep ([]:List Nat) J4 J4:=Keep.refl _ _
   refine IX (AD (vP (some ⟨bm,0,none⟩)) rfl (IX (AD (vP (some ⟨bm,0,none⟩)) rfl (IX (AD (vP (some ⟨bm,0,none⟩)) rfl (IX (AD (vP (some ⟨bm,0,none⟩)) rfl (EG rfl (fun w4_ k4_=>BI (vs:=[vI ((BM s.c s.l x.coins).1.epoch),vI ((BM s.c s.l x.coins).1.threshold),vI ((BM s.c s.l x.coins).1.wait),f3,f4]) U28_ rfl BJ rfl (e3.keep k4_ (fun h_=>by cases h_)) rfl (⟨rfl,rfl⟩)) (IX (AD (vP (some ⟨bm,0,none⟩)) rfl (EG rfl (fun w4_ k4_=>AR ⟨bm,0,none⟩ rfl (⟨rfl,rfl⟩)) (EG rfl (fun w4_ k4_=>AH 5 ML rfl (⟨rfl,rfl⟩)) (EG rfl (fun w4_ k4_=>AK U32_ rfl (lv) rfl (hbx.keep k4_ (fun h_=>by cases h_)) rfl (⟨rfl,rfl⟩)) (IX (AD (i4) rfl (EG rfl (fun w4_ k4_=>AR ⟨bm,0,none⟩ rfl (⟨rfl,rfl⟩)) (EG rfl (fun w4_ k4_=>AH 0 ED rfl (⟨rfl,rfl⟩)) (NY (BE (vs:=[vI ((BM s.c s.l x.coins).1.epoch),vI ((BM s.c s.l x.coins).1.threshold),vI ((BM s.c s.l x.coins).1.wait),f3,f4]) (.agg #[vI ((BM s.c s.l x.coins).1.epoch),vI ((BM s.c s.l x.coins).1.threshold),vI ((BM s.c s.l x.coins).1.wait),f3,f4]) rfl rfl rfl BJ (fun u hu=>by simp only [List.mem_cons,List.not_mem_nil,or_false] at hu;rcases hu with rfl|rfl|rfl|rfl|rfl <;> first|rfl|exact b9.oneCell|exact c0.oneCell) (by repeat (assumption)) hbx oT eC fun iM eD o3 y8 bN=>(?_))))))))))))))))))))
   have c8:=c8.mv o3
   have b9:=b9.mv o3
   have c0:=c0.mv o3
   have b0:=b0.mv o3
   have a7:=a7.mv o3 y8 (fun b hb=>AS (E0 b hb))
   have b1:=b1.mv o3 y8 (fun b hb=>AS (E1 b hb))
   have a5:=a5.mv o3 y8 (fun b hb=>AS (E2 b hb))
   have a3:=a3.mv o3 y8 (fun b hb=>AS (E3 b hb))
   have hT:=by exact hT.mvB o3 y8 aS (by decide) (fun x hx=>by exact hx)
   have hR:=hR.sB o3 y8 aS (by decide) (fun _ h=>h)
   refine EG rfl (fun w4_ k4_=>AR ⟨bm,0,none⟩ rfl (⟨rfl,rfl⟩)) (EG rfl (fun w4_ k4_=>AH 6 UA rfl (⟨rfl,rfl⟩)) (NY (BY (lv) rfl rfl b0.oneCell s_32 (by repeat (assumption)) bN oT eD fun iN eE o4 y9 bO=>(?_))))
   have c8:=c8.mv o4
   have b9:=b9.mv o4
   have c0:=c0.mv o4
   have b0:=b0.mv o4
   have a7:=a7.mv o4 y9 (fun b hb=>AS (E0 b hb))
   have b1:=b1.mv o4 y9 (fun b hb=>AS (E1 b hb))
   have a5:=a5.mv o4 y9 (fun b hb=>AS (E2 b hb))
   have a3:=a3.mv o4 y9 (fun b hb=>AS (E3 b hb))
   have hT:=by exact hT.mvB o4 y9 aS (by decide) (fun x hx=>by exact hx)
   have hR:=hR.sB o4 y9 aS (by decide) (fun _ h=>h)
   refine EG rfl (fun w4_ k4_=>AR ⟨bm,0,none⟩ rfl (⟨rfl,rfl⟩)) (EG rfl (fun w4_ k4_=>AH 5 ML rfl (⟨rfl,rfl⟩)) (NY (BY (i4) rfl rfl c8.oneCell s_32 (by repeat (assumption)) bO oT eE fun iO eF o5 z0 bP=>(?_))))
   have c8:=c8.mv o5
   have b9:=b9.mv o5
   have c0:=c0.mv o5
   have b0:=b0.mv o5
   have a7:=a7.mv o5 z0 (fun b hb=>AS (E0 b hb))
   have b1:=b1.mv o5 z0 (fun b hb=>AS (E1 b hb))
   have a5:=a5.mv o5 z0 (fun b hb=>AS (E2 b hb))
   have a3:=a3.mv o5 z0 (fun b hb=>AS (E3 b hb))
   have hT:=by exact hT.mvB o5 z0 aS (by decide) (fun x hx=>by exact hx)
   have hR:=hR.sB o5 z0 aS (by decide) (fun _ h=>h)
   refine EG rfl (fun w4_ k4_=>AR ⟨bm,0,none⟩ rfl (⟨rfl,rfl⟩)) (EG rfl (fun w4_ k4_=>AH 7 f_39_3 rfl (⟨rfl,rfl⟩)) (NY (BY (vO true) rfl rfl rfl s_4 (by repeat (assumption)) bP oT eF fun iP eG o6 z1 bQ=>(?_))))
   have c8:=c8.mv o6
   have b9:=b9.mv o6
   have c0:=c0.mv o6
   have b0:=b0.mv o6
   have a7:=a7.mv o6 z1 (fun b hb=>AS (E0 b hb))
   have b1:=b1.mv o6 z1 (fun b hb=>AS (E1 b hb))
   have a5:=a5.mv o6 z1 (fun b hb=>AS (E2 b hb))
   have a3:=a3.mv o6 z1 (fun b hb=>AS (E3 b hb))
   have hT:=by exact hT.mvB o6 z1 aS (by decide) (fun x hx=>by exact hx)
   have hR:=hR.sB o6 z1 aS (by decide) (fun _ h=>h)
   refine wz_nil (CB (AC (AF (AB kR (AA (AE (vO true) rfl (AG (AC (AM (AZ rfl (CN rfl rfl rfl) (?_)))))))))))
   have hdo:NG s x=(⟨(BM s.c s.l x.coins).1,(BM s.c s.l x.coins).2.1,s.l,true,s.asked,s.appr,s.vetoed,s.done⟩:MovR):=by exact do_4y aS aS
   exact ⟨rfl,D9,f3,f4,i4,lv,L,pv,av,vv,dv,eG,hR.ms,hR.sb,hR.F,by rw [hdo];exact ⟨bQ,(by repeat (assumption)),b9,c0,c8,b0,a7,d8,b1,f7,a5,d4,a3,d1,hne_vd,hT⟩⟩
  have gW:(BM s.c s.l x.coins).2.2≠(0:Int):=by simpa using N6
  refine AT (CB (AC (AF (AB kR (AA (AE (vO true) rfl (AG (AC (AM (AZ rfl (CN rfl rfl rfl) (?_)))))))))))
  have hdo:NG s x=s:=by exact do_4n aS aS
  exact ⟨rfl,D9,gv,rv,lv,ov,L,pv,av,vv,dv,V2,hR.ms,hR.sb,hR.F,by rw [hdo];exact hM⟩
 have gX:x.kind≠(4:UInt8):=by simpa using N2
 refine AF (AB kR (AA (PN x.kind (5:UInt8) rfl rfl (AA (AE (vO (x.kind == (5:UInt8))) rfl (AG (AC (AJ (x.kind == (5:UInt8)) rfl rfl (fun N7=>?_) (fun N7=>?_)))))))))
 ·have gY:x.kind=(5:UInt8):=by simpa using N7
  refine OH (fun FI wI=>∃ (e9:Nat) (f5:Value) (f6:Value) (i5:Value) (B:List Nat),FrM w Bm B wI∧True∧(∃ F1,FI=GN F1 [(0,vP (some ⟨bm,0,none⟩)),(20,vP (some ⟨e9,0,none⟩)),(21,i5),(22,vI ((AU s.c s.l x.guardians x.threshold x.coins).2.2)),(381,undef)])∧St w0 O wI B∧BL Enc.share wI (B++O) i5 ((AU s.c s.l x.guardians x.threshold x.coins).2.1)∧MovS w0 O B wI bm gv rv lv ov L pv av vv dv s∧FT wI e9 28 [vI ((AU s.c s.l x.guardians x.threshold x.coins).1.epoch),vI ((AU s.c s.l x.guardians x.threshold x.coins).1.threshold),vI ((AU s.c s.l x.guardians x.threshold x.coins).1.wait),f5,f6]∧BL Enc.int wI (B++O) f5 ((AU s.c s.l x.guardians x.threshold x.coins).1.guardians)∧BL Enc.recovery wI (B++O) f6 ((AU s.c s.l x.guardians x.threshold x.coins).1.recs)∧e9∈B∧EY bm e9) ?_ ?_
  ·refine FM [] [14,19] [[(0,1),(1,4),(2,4),(3,4),(4,1),(5,4),(6,4),(7,4),(8,4),(9,4),(10,4),(11,4),(12,4),(13,4),(14,2),(15,1),(16,4),(17,4),(18,4),(19,2),(20,0),(21,1),(22,1)],[(0,1),(1,4),(2,4),(3,4),(4,1),(5,4),(6,4),(7,4),(8,4),(9,4),(10,4),(11,4),(12,4),(13,4),(19,2),(14,2),(15,1),(16,4),(17,4),(18,4),(20,0),(21,1),(22,1)]] (by intro c F d v w hd;(try simp only [GI,FG]);exact GJ c F d v w hd) kR kR kR fun Y5 E4=>?_
   have P9:=s3.call E4
   have J5:Mv (a1 :: Bm) x3 (a1 :: Bm) Y5:=Mv.of_keep E4
   have a2:=a2.mv J5
   have a6:=a6.mv J5
   have a0:=a0.keep E4 (by simp)
   have hM:=hM.s0 J5 E4 (fun _ h=>h)
   have hR:=hR.s0 J5 E4 (fun _ h=>h)
   refine ⟨?_,?_,trivial⟩
   ·refine BS (AD (vP (some ⟨bm,0,none⟩)) rfl (EP (CA rfl (fun w4_ k4_=>AR ⟨bm,0,none⟩ rfl (⟨rfl,rfl⟩)) (CA rfl (fun w4_ k4_=>AH 0 ED rfl (⟨rfl,rfl⟩)) (CA rfl (fun w4_ k4_=>BI (vs:=[vI s.c.epoch,vI s.c.threshold,vI s.c.wait,gv,rv]) U28_ rfl BJ rfl ((hM.box).keep k4_ (by simp)) rfl (⟨rfl,rfl⟩)) (BS (AD (vP (some ⟨bm,0,none⟩)) rfl (EP (CA rfl (fun w4_ k4_=>AR ⟨bm,0,none⟩ rfl (⟨rfl,rfl⟩)) (CA rfl (fun w4_ k4_=>AH 5 ML rfl (⟨rfl,rfl⟩)) (CA rfl (fun w4_ k4_=>AK U32_ rfl (lv) rfl ((hM.box).keep k4_ (by simp)) rfl (⟨rfl,rfl⟩)) (CA rfl (fun w4_ k4_=>AH 5 f_41_5 rfl (⟨rfl,rfl⟩)) (CA rfl (fun w4_ k4_=>AK U22_ rfl (e7) rfl (a0.keep k4_ (by simp)) rfl (⟨rfl,rfl⟩)) (CA rfl (fun w4_ k4_=>AH 6 f_41_6 rfl (⟨rfl,rfl⟩)) (CA rfl (fun w4_ k4_=>AK U3_ rfl (vI x.threshold) rfl (a0.keep k4_ (by simp)) rfl (⟨rfl,rfl⟩)) (CA rfl (fun w4_ k4_=>AH 4 WH rfl (⟨rfl,rfl⟩)) (CA rfl (fun w4_ k4_=>AK U23_ rfl (d3) rfl (a0.keep k4_ (by simp)) rfl (⟨rfl,rfl⟩)) (FA (BF (vs:=[vA #[vI s.c.epoch,vI s.c.threshold,vI s.c.wait,gv,rv],lv,e7,vI x.threshold,d3]) enter_28 (ZM (O:=(a1 :: Bm)++O) [vI s.c.epoch,vI s.c.threshold,vI s.c.wait,gv,rv] s.c lv s.l e7 x.guardians x.threshold d3 x.coins Y5 ⟨_,_,rfl,(hM.g),(hM.r)⟩ (hM.l) a6 a2 oM P9.lt) rfl P9 fun iQ iR eH Y6 J6 eI=>(?_))))))))))))))))))))
    obtain ⟨N8,J7,rfl,N9,s2⟩:=eI
    have:=s2.len_le
    have a0:=a0.keep J6 (by simp)
    have hM:=hM.s0 Y6 J6 (fun _ h=>h)
    have hR:=hR.s0 Y6 J6 (fun _ h=>h)
    refine ⟨J6,?_⟩
    refine BS (AD (vT #[vA N8.toArray,J7,vI ((AU s.c s.l x.guardians x.threshold x.coins).2.2)]) rfl (EP (CA rfl (fun w4_ k4_=>AL (vA N8.toArray) rfl rfl (⟨rfl,rfl⟩)) (CA rfl (fun w4_ k4_=>AL (J7) rfl rfl (⟨rfl,rfl⟩)) (CA rfl (fun w4_ k4_=>AL (vI ((AU s.c s.l x.guardians x.threshold x.coins).2.2)) rfl rfl (⟨rfl,rfl⟩)) (FA (CR [vI 0,vI 0,vI 0,nS,nS] IO rfl eH fun u1 eJ eK eL J8 Q0 bR=>(?_))))))))
    have bS:EY bm u1:=by show bm≠u1;have:=(hM.box).lt;omega
    have gZ:EY a1 u1:=by show a1≠u1;have:=a0.lt;omega
    clear eK
    have N9:Enc.circle.rd eJ ((u1 :: (a1 :: Bm))++O) N8 ((AU s.c s.l x.guardians x.threshold x.coins).1):=Enc.mv Enc.circle (x:=(AU s.c s.l x.guardians x.threshold x.coins).1) N9 J8
    have s2:=s2.mv J8
    have hM:=hM.s0 J8 Q0 (fun _ h=>List.mem_cons_of_mem _ h)
    have hR:=hR.s0 J8 Q0 (fun _ h=>List.mem_cons_of_mem _ h)
    refine ⟨Q0,?_⟩
    obtain ⟨E5,E6,rfl,w9,x0⟩:=N9
    have:=w9.len_le
    have:=x0.len_le
    refine JM (BE (vs:=[vI (((AU s.c s.l x.guardians x.threshold x.coins).1).epoch),vI (((AU s.c s.l x.guardians x.threshold x.coins).1).threshold),vI (((AU s.c s.l x.guardians x.threshold x.coins).1).wait),E5,E6]) (.agg #[vI (((AU s.c s.l x.guardians x.threshold x.coins).1).epoch),vI (((AU s.c s.l x.guardians x.threshold x.coins).1).threshold),vI (((AU s.c s.l x.guardians x.threshold x.coins).1).wait),E5,E6]) rfl rfl rfl BJ (fun u hu=>by simp only [List.mem_cons,List.not_mem_nil,or_false] at hu;rcases hu with rfl|rfl|rfl|rfl|rfl <;> first|rfl|exact w9.oneCell|exact x0.oneCell) (by repeat (constructor)) bR oT eL fun iS eM E7 Y7 bT=>(?_))
    have s2:=s2.mv E7
    have w9:=w9.mv E7
    have x0:=x0.mv E7
    have hM:=hM.sB E7 Y7 aS (by decide) (fun _ h=>h)
    have hR:=hR.sB E7 Y7 aS (by decide) (fun _ h=>h)
    refine BS (AE (J7) rfl (EP (BS (AE (vI ((AU s.c s.l x.guardians x.threshold x.coins).2.2)) rfl (EP (FH (AC (?_))))))))
    exact ⟨u1,E5,E6,J7,(u1 :: (a1 :: Bm)),hR,trivial,⟨_,BD _ ⟨rfl,rfl,rfl,rfl,rfl,trivial⟩⟩,eM,s2,hM,(by rw [show ([vI ((AU s.c s.l x.guardians x.threshold x.coins).1.epoch),vI ((AU s.c s.l x.guardians x.threshold x.coins).1.threshold),vI ((AU s.c s.l x.guardians x.threshold x.coins).1.wait),E5,E6]:List Value)=[vI (((AU s.c s.l x.guardians x.threshold x.coins).1).epoch),vI (((AU s.c s.l x.guardians x.threshold x.coins).1).threshold),vI (((AU s.c s.l x.guardians x.threshold x.coins).1).wait),E5,E6] from by rfl];exact bT),(by rw [show (AU s.c s.l x.guardians x.threshold x.coins).1.guardians=((AU s.c s.l x.guardians x.threshold x.coins).1).guardians from by rfl];exact w9),(by rw [show (AU s.c s.l x.guardians x.threshold x.coins).1.recs=((AU s.c s.l x.guardians x.threshold x.coins).1).recs from by rfl];exact x0),(by repeat (constructor)),bS⟩
   refine BS (AD (vP (some ⟨bm,0,none⟩)) rfl (EP (CA rfl (fun w4_ k4_=>AR ⟨bm,0,none⟩ rfl (⟨rfl,rfl⟩)) (CA rfl (fun w4_ k4_=>AH 0 ED rfl (⟨rfl,rfl⟩)) (CA rfl (fun w4_ k4_=>BI (vs:=[vI s.c.epoch,vI s.c.threshold,vI s.c.wait,gv,rv]) U28_ rfl BJ rfl ((hM.box).keep k4_ (by simp)) rfl (⟨rfl,rfl⟩)) (BS (AD (vP (some ⟨bm,0,none⟩)) rfl (EP (CA rfl (fun w4_ k4_=>AR ⟨bm,0,none⟩ rfl (⟨rfl,rfl⟩)) (CA rfl (fun w4_ k4_=>AH 5 ML rfl (⟨rfl,rfl⟩)) (CA rfl (fun w4_ k4_=>AK U32_ rfl (lv) rfl ((hM.box).keep k4_ (by simp)) rfl (⟨rfl,rfl⟩)) (CA rfl (fun w4_ k4_=>AH 5 f_41_5 rfl (⟨rfl,rfl⟩)) (CA rfl (fun w4_ k4_=>AK U22_ rfl (e7) rfl (a0.keep k4_ (by simp)) rfl (⟨rfl,rfl⟩)) (CA rfl (fun w4_ k4_=>AH 6 f_41_6 rfl (⟨rfl,rfl⟩)) (CA rfl (fun w4_ k4_=>AK U3_ rfl (vI x.threshold) rfl (a0.keep k4_ (by simp)) rfl (⟨rfl,rfl⟩)) (CA rfl (fun w4_ k4_=>AH 4 WH rfl (⟨rfl,rfl⟩)) (CA rfl (fun w4_ k4_=>AK U23_ rfl (d3) rfl (a0.keep k4_ (by simp)) rfl (⟨rfl,rfl⟩)) (FA (CR [vI 0,vI 0,vI 0,nS,nS] IO rfl P9 fun u2 eN eO Y8 J9 Q1 O0=>(?_))))))))))))))))))))
   have bU:EY bm u2:=by show bm≠u2;have:=(hM.box).lt;omega
   have ha:EY a1 u2:=by show a1≠u2;have:=a0.lt;omega
   clear eO
   have a2:=a2.mv J9
   have a6:=a6.mv J9
   have hM:=hM.s0 J9 Q1 (fun _ h=>List.mem_cons_of_mem _ h)
   have hR:=hR.s0 J9 Q1 (fun _ h=>List.mem_cons_of_mem _ h)
   refine ⟨Q1,?_⟩
   refine FA (BF (vs:=[vA #[vI s.c.epoch,vI s.c.threshold,vI s.c.wait,gv,rv],lv,e7,vI x.threshold,d3]) enter_28 (ZM (O:=(u2 :: (a1 :: Bm))++O) [vI s.c.epoch,vI s.c.threshold,vI s.c.wait,gv,rv] s.c lv s.l e7 x.guardians x.threshold d3 x.coins eN ⟨_,_,rfl,(hM.g),(hM.r)⟩ (hM.l) a6 a2 oM Y8.lt) rfl Y8 fun iT iU eP Y9 K0 eQ=>(?_))
   obtain ⟨V3,K1,rfl,bV,E8⟩:=eQ
   have:=E8.len_le
   have O0:=O0.keep K0 (by simp)
   have hM:=hM.s0 Y9 K0 (fun _ h=>h)
   have hR:=hR.s0 Y9 K0 (fun _ h=>h)
   refine ⟨K0,?_⟩
   refine BS (AD (vT #[vA V3.toArray,K1,vI ((AU s.c s.l x.guardians x.threshold x.coins).2.2)]) rfl (EP (CA rfl (fun w4_ k4_=>AL (vA V3.toArray) rfl rfl (⟨rfl,rfl⟩)) (CA rfl (fun w4_ k4_=>AL (K1) rfl rfl (⟨rfl,rfl⟩)) (CA rfl (fun w4_ k4_=>AL (vI ((AU s.c s.l x.guardians x.threshold x.coins).2.2)) rfl rfl (⟨rfl,rfl⟩)) (?_))))))
   obtain ⟨E9,F2,rfl,x1,x2⟩:=bV
   have:=x1.len_le
   have:=x2.len_le
   refine JM (BE (vs:=[vI (((AU s.c s.l x.guardians x.threshold x.coins).1).epoch),vI (((AU s.c s.l x.guardians x.threshold x.coins).1).threshold),vI (((AU s.c s.l x.guardians x.threshold x.coins).1).wait),E9,F2]) (.agg #[vI (((AU s.c s.l x.guardians x.threshold x.coins).1).epoch),vI (((AU s.c s.l x.guardians x.threshold x.coins).1).threshold),vI (((AU s.c s.l x.guardians x.threshold x.coins).1).wait),E9,F2]) rfl rfl rfl BJ (fun u hu=>by simp only [List.mem_cons,List.not_mem_nil,or_false] at hu;rcases hu with rfl|rfl|rfl|rfl|rfl <;> first|rfl|exact x1.oneCell|exact x2.oneCell) (by repeat (constructor)) O0 oT eP fun iV eR F3 Z0 bW=>(?_))
   have E8:=E8.mv F3
   have x1:=x1.mv F3
   have x2:=x2.mv F3
   have hM:=hM.sB F3 Z0 aS (by decide) (fun _ h=>h)
   have hR:=hR.sB F3 Z0 aS (by decide) (fun _ h=>h)
   refine BS (AE (K1) rfl (EP (BS (AE (vI ((AU s.c s.l x.guardians x.threshold x.coins).2.2)) rfl (EP (FH (AC (?_))))))))
   exact ⟨u2,E9,F2,K1,(u2 :: (a1 :: Bm)),hR,trivial,⟨_,BD _ ⟨rfl,rfl,rfl,rfl,rfl,trivial⟩⟩,eR,E8,hM,(by rw [show ([vI ((AU s.c s.l x.guardians x.threshold x.coins).1.epoch),vI ((AU s.c s.l x.guardians x.threshold x.coins).1.threshold),vI ((AU s.c s.l x.guardians x.threshold x.coins).1.wait),E9,F2]:List Value)=[vI (((AU s.c s.l x.guardians x.threshold x.coins).1).epoch),vI (((AU s.c s.l x.guardians x.threshold x.coins).1).threshold),vI (((AU s.c s.l x.guardians x.threshold x.coins).1).wait),E9,F2] from by rfl];exact bW),(by rw [show (AU s.c s.l x.guardians x.threshold x.coins).1.guardians=((AU s.c s.l x.guardians x.threshold x.coins).1).guardians from by rfl];exact x1),(by rw [show (AU s.c s.l x.guardians x.threshold x.coins).1.recs=((AU s.c s.l x.guardians x.threshold x.coins).1).recs from by rfl];exact x2),(by repeat (constructor)),bU⟩
  intro F bX hI
  clear hM
  obtain ⟨e9,f5,f6,i5,F4,W2,hc,⟨he,rfl⟩,V4,c9,hM,e4,c1,c2,Z9,Z5⟩:=hI
  have:=c9.len_le
  have:=c1.len_le
  have:=c2.len_le
  have hR:=W2
  refine AF (AB kR (AA (AD (vI ((AU s.c s.l x.guardians x.threshold x.coins).2.2)) rfl (AA (EZ .i64 ((AU s.c s.l x.guardians x.threshold x.coins).2.2) (0:Int) rfl rfl (AG (AC (AJ (((AU s.c s.l x.guardians x.threshold x.coins).2.2) == (0:Int)) rfl rfl (fun O1=>?_) (fun O1=>?_)))))))))
  ·have hf:(AU s.c s.l x.guardians x.threshold x.coins).2.2=(0:Int):=by simpa using O1
   obtain ⟨hbx,h3,e0,f9,b0,b2,a7,d8,b1,f7,a5,d4,a3,d1,hne_vd,hT0⟩:=hM
   have F5:∀ b,pv.ownBlock=some b→b≠bm:=a7.neB hbx (by decide)
   have hg:∀ b,pv.ownBlock=some b→b≠e9:=a7.neB e4 (by decide)
   have hh:∀ b,pv.ownBlock=some b→vv.ownBlock≠some b:=a7.neT a5 (by decide)
   have F6:∀ b,av.ownBlock=some b→b≠bm:=b1.neB hbx (by decide)
   have hi:∀ b,av.ownBlock=some b→b≠e9:=b1.neB e4 (by decide)
   have hj:∀ b,av.ownBlock=some b→pv.ownBlock≠some b:=b1.neT a7 (by decide)
   have hk:∀ b,av.ownBlock=some b→vv.ownBlock≠some b:=b1.neT a5 (by decide)
   have hl:∀ b,av.ownBlock=some b→dv.ownBlock≠some b:=b1.neT a3 (by decide)
   have F7:∀ b,vv.ownBlock=some b→b≠bm:=a5.neB hbx (by decide)
   have hm:∀ b,vv.ownBlock=some b→b≠e9:=a5.neB e4 (by decide)
   have F8:∀ b,dv.ownBlock=some b→b≠bm:=a3.neB hbx (by decide)
   have hn:∀ b,dv.ownBlock=some b→b≠e9:=a3.neB e4 (by decide)
   have ho:∀ b,dv.ownBlock=some b→pv.ownBlock≠some b:=a3.neT a7 (by decide)
   have hT:=hT0
   have:=e0.len_le
   have:=f9.len_le
   have:=b0.len_le
   have:=b2.len_le
   refine SM ([]:List Nat) [(0,0),(1,0),(2,0),(3,0),(4,4),(5,0),(6,4),(7,4),(8,4),(9,0),(10,4),(11,4),(12,0),(13,4),(14,4),(15,0),(16,4),(17,4),(18,0),(19,4),(20,4),(21,0)] (by intro c F d v w hd;simp only [GI,FG];exact GJ c F d v w hd) kR kR kR fun K2 o7=>⟨[(0,0,GH),(1,0,GH),(2,0,GH),(3,0,GH),(4,4,GH),(5,0,GH),(6,4,GH),(7,4,GH),(8,4,GH),(9,0,GH),(10,4,GH),(11,4,GH),(12,0,GH),(13,4,GH),(14,4,GH),(15,0,GH),(16,4,GH),(17,4,GH),(18,0,GH),(19,4,GH),(20,4,GH),(21,0,GH)],rfl,⟨CC,CC,CC,CC,CC,CC,CC,CC,CC,CC,CC,CC,CC,CC,CC,CC,CC,CC,CC,CC,CC,CC,trivial⟩,?_⟩
   have eS:=V4.call o7
   have o8:Mv F4 bX F4 K2:=Mv.of_keep o7
   have c9:=c9.mv o8
   have b0:=b0.mv o8
   have a7:=a7.mv o8 o7 (by simp)
   have b1:=b1.mv o8 o7 (by simp)
   have a5:=a5.mv o8 o7 (by simp)
   have a3:=a3.mv o8 o7 (by simp)
   have hbx:=hbx.keep o7 (by simp)
   have c1:=c1.mv o8
   have c2:=c2.mv o8
   have e4:=e4.keep o7 (by simp)
   have hT:=by exact hT.mv0 o8 o7 (fun x hx=>by exact hx)
   have hR:=hR.s0 o8 o7 (fun _ h=>h)
   have hp:∀ b∈([]:List Nat),b<K2.heap.size:=(fun _ h_=>by cases h_)
   have hr:Keep ([]:List Nat) K2 K2:=Keep.refl _ _
   refine IX (AD (vP (some ⟨bm,0,none⟩)) rfl (IX (AD (vP (some ⟨bm,0,none⟩)) rfl (IX (AD (vP (some ⟨bm,0,none⟩)) rfl (IX (AD (vP (some ⟨bm,0,none⟩)) rfl (EG rfl (fun w4_ k4_=>BI (vs:=[vI ((AU s.c s.l x.guardians x.threshold x.coins).1.epoch),vI ((AU s.c s.l x.guardians x.threshold x.coins).1.threshold),vI ((AU s.c s.l x.guardians x.threshold x.coins).1.wait),f5,f6]) U28_ rfl BJ rfl (e4.keep k4_ (fun h_=>by cases h_)) rfl (⟨rfl,rfl⟩)) (IX (AD (vP (some ⟨bm,0,none⟩)) rfl (EG rfl (fun w4_ k4_=>AR ⟨bm,0,none⟩ rfl (⟨rfl,rfl⟩)) (EG rfl (fun w4_ k4_=>AH 5 ML rfl (⟨rfl,rfl⟩)) (EG rfl (fun w4_ k4_=>AK U32_ rfl (lv) rfl (hbx.keep k4_ (fun h_=>by cases h_)) rfl (⟨rfl,rfl⟩)) (IX (AD (i5) rfl (EG rfl (fun w4_ k4_=>AR ⟨bm,0,none⟩ rfl (⟨rfl,rfl⟩)) (EG rfl (fun w4_ k4_=>AH 0 ED rfl (⟨rfl,rfl⟩)) (NY (BE (vs:=[vI ((AU s.c s.l x.guardians x.threshold x.coins).1.epoch),vI ((AU s.c s.l x.guardians x.threshold x.coins).1.threshold),vI ((AU s.c s.l x.guardians x.threshold x.coins).1.wait),f5,f6]) (.agg #[vI ((AU s.c s.l x.guardians x.threshold x.coins).1.epoch),vI ((AU s.c s.l x.guardians x.threshold x.coins).1.threshold),vI ((AU s.c s.l x.guardians x.threshold x.coins).1.wait),f5,f6]) rfl rfl rfl BJ (fun u hu=>by simp only [List.mem_cons,List.not_mem_nil,or_false] at hu;rcases hu with rfl|rfl|rfl|rfl|rfl <;> first|rfl|exact c1.oneCell|exact c2.oneCell) (by repeat (assumption)) hbx oT eS fun iW eT o9 z2 bY=>(?_))))))))))))))))))))
   have c9:=c9.mv o9
   have c1:=c1.mv o9
   have c2:=c2.mv o9
   have b0:=b0.mv o9
   have a7:=a7.mv o9 z2 (fun b hb=>AS (F5 b hb))
   have b1:=b1.mv o9 z2 (fun b hb=>AS (F6 b hb))
   have a5:=a5.mv o9 z2 (fun b hb=>AS (F7 b hb))
   have a3:=a3.mv o9 z2 (fun b hb=>AS (F8 b hb))
   have hT:=by exact hT.mvB o9 z2 aS (by decide) (fun x hx=>by exact hx)
   have hR:=hR.sB o9 z2 aS (by decide) (fun _ h=>h)
   refine EG rfl (fun w4_ k4_=>AR ⟨bm,0,none⟩ rfl (⟨rfl,rfl⟩)) (EG rfl (fun w4_ k4_=>AH 6 UA rfl (⟨rfl,rfl⟩)) (NY (BY (lv) rfl rfl b0.oneCell s_32 (by repeat (assumption)) bY oT eT fun iX eU p0 z3 bZ=>(?_))))
   have c9:=c9.mv p0
   have c1:=c1.mv p0
   have c2:=c2.mv p0
   have b0:=b0.mv p0
   have a7:=a7.mv p0 z3 (fun b hb=>AS (F5 b hb))
   have b1:=b1.mv p0 z3 (fun b hb=>AS (F6 b hb))
   have a5:=a5.mv p0 z3 (fun b hb=>AS (F7 b hb))
   have a3:=a3.mv p0 z3 (fun b hb=>AS (F8 b hb))
   have hT:=by exact hT.mvB p0 z3 aS (by decide) (fun x hx=>by exact hx)
   have hR:=hR.sB p0 z3 aS (by decide) (fun _ h=>h)
   refine EG rfl (fun w4_ k4_=>AR ⟨bm,0,none⟩ rfl (⟨rfl,rfl⟩)) (EG rfl (fun w4_ k4_=>AH 5 ML rfl (⟨rfl,rfl⟩)) (NY (BY (i5) rfl rfl c9.oneCell s_32 (by repeat (assumption)) bZ oT eU fun iY eV p1 z4 ca=>(?_))))
   have c9:=c9.mv p1
   have c1:=c1.mv p1
   have c2:=c2.mv p1
   have b0:=b0.mv p1
   have a7:=a7.mv p1 z4 (fun b hb=>AS (F5 b hb))
   have b1:=b1.mv p1 z4 (fun b hb=>AS (F6 b hb))
   have a5:=a5.mv p1 z4 (fun b hb=>AS (F7 b hb))
   have a3:=a3.mv p1 z4 (fun b hb=>AS (F8 b hb))
   have hT:=by exact hT.mvB p1 z4 aS (by decide) (fun x hx=>by exact hx)
   have hR:=hR.sB p1 z4 aS (by decide) (fun _ h=>h)
   refine EG rfl (fun w4_ k4_=>AR ⟨bm,0,none⟩ rfl (⟨rfl,rfl⟩)) (EG rfl (fun w4_ k4_=>AH 7 f_39_3 rfl (⟨rfl,rfl⟩)) (NY (BY (vO false) rfl rfl rfl s_4 (by repeat (assumption)) ca oT eV fun iZ eW p2 z5 cb=>(?_))))
   have c9:=c9.mv p2
   have c1:=c1.mv p2
   have c2:=c2.mv p2
   have b0:=b0.mv p2
   have a7:=a7.mv p2 z5 (fun b hb=>AS (F5 b hb))
   have b1:=b1.mv p2 z5 (fun b hb=>AS (F6 b hb))
   have a5:=a5.mv p2 z5 (fun b hb=>AS (F7 b hb))
   have a3:=a3.mv p2 z5 (fun b hb=>AS (F8 b hb))
   have hT:=by exact hT.mvB p2 z5 aS (by decide) (fun x hx=>by exact hx)
   have hR:=hR.sB p2 z5 aS (by decide) (fun _ h=>h)
   refine wz_nil (CB (AC (AF (AB kR (AA (AE (vO true) rfl (AG (AC (AM (AZ rfl (CN rfl rfl rfl) (?_)))))))))))
   have hdo:NG s x=(⟨(AU s.c s.l x.guardians x.threshold x.coins).1,(AU s.c s.l x.guardians x.threshold x.coins).2.1,s.l,false,s.asked,s.appr,s.vetoed,s.done⟩:MovR):=by exact do_5y aS aS
   exact ⟨rfl,F4,f5,f6,i5,lv,L,pv,av,vv,dv,eW,hR.ms,hR.sb,hR.F,by rw [hdo];exact ⟨cb,(by repeat (assumption)),c1,c2,c9,b0,a7,d8,b1,f7,a5,d4,a3,d1,hne_vd,hT⟩⟩
  have ht:(AU s.c s.l x.guardians x.threshold x.coins).2.2≠(0:Int):=by simpa using O1
  refine AT (CB (AC (AF (AB kR (AA (AE (vO true) rfl (AG (AC (AM (AZ rfl (CN rfl rfl rfl) (?_)))))))))))
  have hdo:NG s x=s:=by exact do_5n aS aS
  exact ⟨rfl,F4,gv,rv,lv,ov,L,pv,av,vv,dv,V4,hR.ms,hR.sb,hR.F,by rw [hdo];exact hM⟩
 have hv:x.kind≠(5:UInt8):=by simpa using N7
 refine AT (CB (AC (AF (AB kR (AA (AE (vO true) rfl (AG (AC (AM (AZ rfl (CN rfl rfl rfl) (?_)))))))))))
 have hdo:NG s x=s:=by exact do_6 aS aS aS aS aS aS
 exact ⟨rfl,(a1 :: Bm),gv,rv,lv,ov,L,pv,av,vv,dv,s3,hR.ms,hR.sb,hR.F,by rw [hdo];exact hM⟩
open Go.Fw
def qC:Circle:=(DL [1,2] 2 3).1
def qL:List Share:=(CU qC [9] [7]).1
def mS:MovR:=⟨qC,qL,[],false,[],[],[],[]⟩
def FC:List MoveT:=[⟨0,0,0,5,[],[],0⟩,⟨1,0,2,0,[],[],0⟩,⟨3,0,0,9,[],[],0⟩,⟨1,0,1,0,[],[],0⟩,⟨3,0,0,7,[],[],0⟩,⟨3,0,0,8,[],[],0⟩,⟨4,0,0,0,[1],[],0⟩]
theorem RX:InvM [9] mS:=WE (c:=qC) (secret:=[9]) (coins:=[7]) (by decide +kernel) (List.eq_nil_of_length_eq_zero (by decide +kernel)) (by decide +kernel)
section
variable {s:MovR} {secret coins other:List UInt8} {list:List Int} {t w:Int} {a b:UInt8}
theorem inv_new (h:(DL list t w).2=0) (hd:(CU (DL list t w).1 secret coins).2=0):InvM secret ⟨(DL list t w).1,(CU (DL list t w).1 secret coins).1,[],false,[],[],[],[]⟩:=by
  have e:=new_ok h
  refine WE ?_ ?_ hd
  · rw [e.2];exact e.1
  · rw [e.2]
theorem can_y {no:Int} (h:InvM secret s) (e:((BX s.c no (AI s.l a s.l.length)).2 == 0)=true):(BX s.c no (AI s.l a s.l.length)).1=secret:=(SE h.h h.g no a).2.1 (eq_of_beq e)
theorem can_n {no:Int} (h:InvM secret s) (e:((BX s.c no (AI s.l a s.l.length)).2 == 0)=false):(BX s.c no (AI s.l a s.l.length)).1=[]:=(SE h.h h.g no a).2.2 (ne_of_beq_false e)
end
open Go.Fw Go.RowKit
set_option maxHeartbeats 4000000 in
set_option maxRecDepth 100000 in
theorem c_saneR {O:List Nat} (w:World) (hO:∀ b∈O,b<w.heap.size):CM Try.prog 9 [] w (fun v _=>v = .bool (true)):= by
 have s0:St w O w []:=St.start hO
 refine BP 167 Try.func9 rfl rfl oT (fun F0=>AF (AB kR (AA (AE (vO false) rfl (AG (AC (AF (AB kR (AA (KH (E:=Enc.int) (xs:=[.const (vI 1), .const (vI 2)]) U22_ OB z_3 (by decide) [vI 1,vI 2] [[vI 1],[vI 2]] [(1:Int),(2:Int)] rfl rfl rfl (Parts.cons rfl rfl (Parts.cons rfl rfl (Parts.nil _ _ _))) oT s0 fun t9 z4 u0 M4 M5 o7=>(?_)))))))))))
 have:=o7.len_le
 refine AA (BF (vs:=[t9,vI 2,vI 3]) enter_10 (c_new (O:=[]++O) t9 ([(1:Int),(2:Int)]) (2:Int) (3:Int) z4 o7 (by (simp;done)) u0.lt) rfl u0 fun M6 z5 z6 M7 M8 z7=>(?_))
 obtain ⟨j6,rfl,h4⟩:=z7
 have h4:Enc.circle.rd z5 ([]++O) j6 qC:=h4
 refine AA (AD (vT #[vA j6.toArray,vI ((DL ([(1:Int),(2:Int)]) (2:Int) (3:Int)).2)]) rfl (AA (AL (vA j6.toArray) rfl rfl (AA (AL (vI ((DL ([(1:Int),(2:Int)]) (2:Int) (3:Int)).2)) rfl rfl (AA (CR [vI 0,vI 0,vI 0,nS,nS] IO rfl z6 fun j7 z8 z9 A0 A1 M9 w4=>(?_))))))))
 clear z9
 have h4:Enc.circle.rd z8 ((j7 :: [])++O) j6 (qC):=Enc.mv Enc.circle (x:=qC) h4 A1
 obtain ⟨b2,b3,rfl,a2,a3⟩:=h4
 have:=a2.len_le
 have:=a3.len_le
 refine BZ (BE (vs:=[vI qC.epoch,vI qC.threshold,vI qC.wait,b2,b3]) (.agg #[vI qC.epoch,vI qC.threshold,vI qC.wait,b2,b3]) rfl rfl rfl BJ (fun u hu=>by simp only [List.mem_cons,List.not_mem_nil,or_false] at hu;rcases hu with rfl|rfl|rfl|rfl|rfl <;> first|rfl|exact a2.oneCell|exact a3.oneCell) (by repeat (constructor)) w4 oT A0 fun N0 A2 u1 N1 c1=>(?_))
 have a2:=a2.mv u1
 have a3:=a3.mv u1
 refine AA (AE (vI ((DL ([(1:Int),(2:Int)]) (2:Int) (3:Int)).2)) rfl (AG (AC (AF (AB kR (AA (BI (vs:=[vI qC.epoch,vI qC.threshold,vI qC.wait,b2,b3]) U28_ rfl BJ rfl c1 rfl (AA (KH (E:=Enc.u8) (xs:=[.const (vB (9:UInt8))]) U23_ JD z_5 (by decide) [vB (9:UInt8)] [[vB (9:UInt8)]] [(9:UInt8)] rfl rfl rfl (Parts.cons rfl rfl (Parts.nil _ _ _)) oT A2 fun u2 N2 A3 u3 A4 j8=>(?_))))))))))
 have a2:=a2.mv u3
 have a3:=a3.mv u3
 have c1:=c1.keep A4 (by simp)
 have:=j8.len_le
 refine AA (KH (E:=Enc.u8) (xs:=[.const (vB (7:UInt8))]) U23_ JD z_5 (by decide) [vB (7:UInt8)] [[vB (7:UInt8)]] [(7:UInt8)] rfl rfl rfl (Parts.cons rfl rfl (Parts.nil _ _ _)) oT A3 fun u4 A5 u5 o3 A6 o8=>(?_))
 have a2:=a2.mv o3
 have a3:=a3.mv o3
 have j8:=j8.mv o3
 have c1:=c1.keep A6 (by simp)
 have:=o8.len_le
 refine AA (BF (vs:=[vA #[vI qC.epoch,vI qC.threshold,vI qC.wait,b2,b3],u2,u4]) SF (c_deal (O:=(j7 :: [])++O) [vI qC.epoch,vI qC.threshold,vI qC.wait,b2,b3] qC u2 ([(9:UInt8)]) u4 ([(7:UInt8)]) A5 ⟨_,_,rfl,a2,a3⟩ j8 o8 u5.lt) rfl u5 fun N3 A7 A8 u6 A9 B0=>(?_))
 obtain ⟨c2,rfl,c9⟩:=B0
 have:=c9.len_le
 have c9:BL Enc.share A7 ((j7 :: [])++O) c2 qL:=c9
 have a2:=a2.mv u6
 have a3:=a3.mv u6
 have c1:=c1.keep A9 (by simp)
 refine AA (AD (vT #[c2,vI ((CU qC ([(9:UInt8)]) ([(7:UInt8)])).2)]) rfl (AA (AL (c2) rfl rfl (AA (AL (vI ((CU qC ([(9:UInt8)]) ([(7:UInt8)])).2)) rfl rfl (AA (AE (c2) rfl (AA (AE (vI ((CU qC ([(9:UInt8)]) ([(7:UInt8)])).2)) rfl (AG (AC (AF (AB kR (AA (BI (vs:=[vI qC.epoch,vI qC.threshold,vI qC.wait,b2,b3]) U28_ rfl BJ rfl c1 rfl (AA (AD (c2) rfl (AA (DN (l:=[(0, .tmp 24),(1, .tmp 25)]) pl_39 z_39 rfl [(0,vA #[vI qC.epoch,vI qC.threshold,vI qC.wait,b2,b3],[vI qC.epoch,vI qC.threshold,vI qC.wait,b2,b3]),(1,c2,[c2])] [vI qC.epoch,vI qC.threshold,vI qC.wait,b2,b3,c2,nS,vO false,nS,nS,nS,nS] rfl ⟨_,rfl,rfl,oT,⟨_,rfl,(FB c9.oneCell),oT,rfl⟩⟩ (AA (RL (vA #[vI qC.epoch,vI qC.threshold,vI qC.wait,b2,b3,c2,nS,vO false,nS,nS,nS,nS]) [vI qC.epoch,vI qC.threshold,vI qC.wait,b2,b3,c2,nS,vO false,nS,nS,nS,nS] rfl rfl A8 fun a0 N4 B1 B2 o4 N5 w5=>(?_))))))))))))))))))))))
 have F2:EY j7 a0:=by show j7≠a0;have:=c1.lt;omega
 clear B1
 have c9:=c9.mv o4
 have a2:=a2.mv o4
 have a3:=a3.mv o4
 refine AA (AE (vP (some ⟨a0,0,none⟩)) rfl (AG (AC (AF (AF (AB kR (AA (AD (vI ((DL ([(1:Int),(2:Int)]) (2:Int) (3:Int)).2)) rfl (AA (DQ .i64 ((DL ([(1:Int),(2:Int)]) (2:Int) (3:Int)).2) (0:Int) rfl rfl (AA (AD (vO (((DL ([(1:Int),(2:Int)]) (2:Int) (3:Int)).2) != (0:Int))) rfl (?_)))))))))))))
 have w6:(((DL ([(1:Int),(2:Int)]) (2:Int) (3:Int)).2) != (0:Int))=false:=(by decide +kernel)
 rw [w6]
 refine AY rfl (AD (vI ((CU qC ([(9:UInt8)]) ([(7:UInt8)])).2)) rfl (AY rfl (DQ .i64 ((CU qC ([(9:UInt8)]) ([(7:UInt8)])).2) (0:Int) rfl rfl (AA (BK (vO (((CU qC ([(9:UInt8)]) ([(7:UInt8)])).2) != (0:Int))) rfl rfl (AA (AD (vO (((CU qC ([(9:UInt8)]) ([(7:UInt8)])).2) != (0:Int))) rfl (?_))))))))
 have w7:(((CU qC ([(9:UInt8)]) ([(7:UInt8)])).2) != (0:Int))=false:=(by decide +kernel)
 rw [w7]
 refine AY rfl (AD (vP (some ⟨a0,0,none⟩)) rfl (AY rfl (DN (l:=[(0, .const (vB (0:UInt8))),(3, .const (vI 5))]) XN z_41 rfl [(0,vB (0:UInt8),[vB (0:UInt8)]),(3,vI 5,[vI 5])] [vB (0:UInt8),vI 0,vI 0,vI 5,nS,nS,vI 0] rfl ⟨_,rfl,rfl,oT,⟨_,rfl,rfl,oT,rfl⟩⟩ (AY rfl (ES [vP (some ⟨a0,0,none⟩),vA #[vB (0:UInt8),vI 0,vI 0,vI 5,nS,nS,vI 0]] LJ rfl (Calls.mono (c_do a0 b2 b3 c2 (.slice none 0 0) ([]) (.slice none 0 0) (.slice none 0 0) (.slice none 0 0) (.slice none 0 0) (⟨qC,qL,[],false,[],[],[],[]⟩:MovR) [vB (0:UInt8),vI 0,vI 0,vI 5,nS,nS,vI 0] (⟨(0:UInt8),(0:Int),(0:Int),(5:Int),[],[],(0:Int)⟩:MoveT) B2 (MovS.mk w5 (by repeat (constructor)) a2 a3 c9 (BL.nil _ _ _) (DX.nil _ _ _ _ _) (by intro b hb;simp [Value.ownBlock] at hb) (DX.nil _ _ _ _ _) (by intro b hb;simp [Value.ownBlock] at hb) (DX.nil _ _ _ _ _) (by intro b hb;simp [Value.ownBlock] at hb) (DX.nil _ _ _ _ _) (by intro b hb;simp [Value.ownBlock] at hb) (by intro b hb;simp [Value.ownBlock] at hb) Mk.nil) ⟨.slice none 0 0, .slice none 0 0,rfl,(BL.nil _ _ _),(BL.nil _ _ _)⟩ RX.g (by decide)) (fun e_ B3 hR_=>?_)))))))
 obtain ⟨rfl,B4,o9,p0,p1,p2,u7,e3,e4,h5,h6,B5,N6,E4,F3,l5⟩:=hR_
 refine CZ ?_
 have l5:MovS w O B4 B3 a0 o9 p0 p1 p2 u7 e3 e4 h5 h6 (CX mS FC 1):=l5
 obtain ⟨h7,c0,l6,l7,l8,l9,d0,p3,d1,p4,f9,p5,g0,p6,w8,w9⟩:=l5
 have F4:∀ b,e3.ownBlock=some b→b≠a0:=d0.neB h7 (by decide)
 have F5:∀ b,e3.ownBlock=some b→h5.ownBlock≠some b:=d0.neT f9 (by decide)
 have F6:∀ b,e4.ownBlock=some b→b≠a0:=d1.neB h7 (by decide)
 have F7:∀ b,e4.ownBlock=some b→e3.ownBlock≠some b:=d1.neT d0 (by decide)
 have F8:∀ b,e4.ownBlock=some b→h5.ownBlock≠some b:=d1.neT f9 (by decide)
 have F9:∀ b,e4.ownBlock=some b→h6.ownBlock≠some b:=d1.neT g0 (by decide)
 have G0:∀ b,h5.ownBlock=some b→b≠a0:=f9.neB h7 (by decide)
 have G1:∀ b,h6.ownBlock=some b→b≠a0:=g0.neB h7 (by decide)
 have G2:∀ b,h6.ownBlock=some b→e3.ownBlock≠some b:=g0.neT d0 (by decide)
 have hT:=w9
 have:=l6.len_le
 have:=l7.len_le
 have:=l8.len_le
 have:=l9.len_le
 refine AY rfl (FF true rfl (AA (BK (vO false) rfl rfl (AA (AD (vO false) rfl (AY rfl (AD (vP (some ⟨a0,0,none⟩)) rfl (AY rfl (DN (l:=[(0, .const (vB (1:UInt8))),(2, .const (vI 2))]) XN z_41 rfl [(0,vB (1:UInt8),[vB (1:UInt8)]),(2,vI 2,[vI 2])] [vB (1:UInt8),vI 0,vI 2,vI 0,nS,nS,vI 0] rfl ⟨_,rfl,rfl,oT,⟨_,rfl,rfl,oT,rfl⟩⟩ (AY rfl (ES [vP (some ⟨a0,0,none⟩),vA #[vB (1:UInt8),vI 0,vI 2,vI 0,nS,nS,vI 0]] LJ rfl (Calls.mono (c_do a0 o9 p0 p1 p2 u7 e3 e4 h5 h6 (CX mS FC 1) [vB (1:UInt8),vI 0,vI 2,vI 0,nS,nS,vI 0] (⟨(1:UInt8),(0:Int),(2:Int),(0:Int),[],[],(0:Int)⟩:MoveT) B5 (MovS.mk h7 (by repeat (assumption)) l6 l7 l8 l9 d0 p3 d1 p4 f9 p5 g0 p6 w8 hT) ⟨.slice none 0 0, .slice none 0 0,rfl,(BL.nil _ _ _),(BL.nil _ _ _)⟩ (OV RX 1).g (by decide)) (fun e_ B6 hR_=>?_)))))))))))))
 obtain ⟨rfl,B7,p7,p8,p9,q0,u9,e5,e6,h8,h9,B8,N7,E5,G3,m0⟩:=hR_
 refine CZ ?_
 have m0:MovS w O B7 B6 a0 p7 p8 p9 q0 u9 e5 e6 h8 h9 (CX mS FC 2):=m0
 obtain ⟨i0,c0,m1,m2,m3,m4,d2,q1,d3,q2,g1,q3,g2,q4,x0,x1⟩:=m0
 have G4:∀ b,e5.ownBlock=some b→b≠a0:=d2.neB i0 (by decide)
 have G5:∀ b,e5.ownBlock=some b→h8.ownBlock≠some b:=d2.neT g1 (by decide)
 have G6:∀ b,e6.ownBlock=some b→b≠a0:=d3.neB i0 (by decide)
 have G7:∀ b,e6.ownBlock=some b→e5.ownBlock≠some b:=d3.neT d2 (by decide)
 have G8:∀ b,e6.ownBlock=some b→h8.ownBlock≠some b:=d3.neT g1 (by decide)
 have G9:∀ b,e6.ownBlock=some b→h9.ownBlock≠some b:=d3.neT g2 (by decide)
 have H0:∀ b,h8.ownBlock=some b→b≠a0:=g1.neB i0 (by decide)
 have H1:∀ b,h9.ownBlock=some b→b≠a0:=g2.neB i0 (by decide)
 have H2:∀ b,h9.ownBlock=some b→e5.ownBlock≠some b:=g2.neT d2 (by decide)
 have hT:=x1
 have:=m1.len_le
 have:=m2.len_le
 have:=m3.len_le
 have:=m4.len_le
 refine AY rfl (FF true rfl (AA (BK (vO false) rfl rfl (AA (AD (vO false) rfl (AY rfl (AD (vP (some ⟨a0,0,none⟩)) rfl (AY rfl (DN (l:=[(0, .const (vB (3:UInt8))),(3, .const (vI 9))]) XN z_41 rfl [(0,vB (3:UInt8),[vB (3:UInt8)]),(3,vI 9,[vI 9])] [vB (3:UInt8),vI 0,vI 0,vI 9,nS,nS,vI 0] rfl ⟨_,rfl,rfl,oT,⟨_,rfl,rfl,oT,rfl⟩⟩ (AY rfl (ES [vP (some ⟨a0,0,none⟩),vA #[vB (3:UInt8),vI 0,vI 0,vI 9,nS,nS,vI 0]] LJ rfl (Calls.mono (c_do a0 p7 p8 p9 q0 u9 e5 e6 h8 h9 (CX mS FC 2) [vB (3:UInt8),vI 0,vI 0,vI 9,nS,nS,vI 0] (⟨(3:UInt8),(0:Int),(0:Int),(9:Int),[],[],(0:Int)⟩:MoveT) B8 (MovS.mk i0 (by repeat (assumption)) m1 m2 m3 m4 d2 q1 d3 q2 g1 q3 g2 q4 x0 hT) ⟨.slice none 0 0, .slice none 0 0,rfl,(BL.nil _ _ _),(BL.nil _ _ _)⟩ (OV RX 2).g (by decide)) (fun e_ v0 hR_=>?_)))))))))))))
 obtain ⟨rfl,l0,i1,i2,i3,q5,v1,e7,e8,i4,d4,B9,N8,E6,H3,m5⟩:=hR_
 refine CZ ?_
 have m5:MovS w O l0 v0 a0 i1 i2 i3 q5 v1 e7 e8 i4 d4 (CX mS FC 3):=m5
 obtain ⟨a5,c0,b4,b5,b6,c3,a6,q6,a7,q7,b0,q8,a4,q9,x2,x3⟩:=m5
 have H4:∀ b,e7.ownBlock=some b→b≠a0:=a6.neB a5 (by decide)
 have H5:∀ b,e7.ownBlock=some b→i4.ownBlock≠some b:=a6.neT b0 (by decide)
 have H6:∀ b,e8.ownBlock=some b→b≠a0:=a7.neB a5 (by decide)
 have H7:∀ b,e8.ownBlock=some b→e7.ownBlock≠some b:=a7.neT a6 (by decide)
 have H8:∀ b,e8.ownBlock=some b→i4.ownBlock≠some b:=a7.neT b0 (by decide)
 have H9:∀ b,e8.ownBlock=some b→d4.ownBlock≠some b:=a7.neT a4 (by decide)
 have I0:∀ b,i4.ownBlock=some b→b≠a0:=b0.neB a5 (by decide)
 have I1:∀ b,d4.ownBlock=some b→b≠a0:=a4.neB a5 (by decide)
 have I2:∀ b,d4.ownBlock=some b→e7.ownBlock≠some b:=a4.neT a6 (by decide)
 have hT:=x3
 have:=b4.len_le
 have:=b5.len_le
 have:=b6.len_le
 have:=c3.len_le
 refine AY rfl (FF true rfl (AA (BK (vO false) rfl rfl (AA (AD (vO false) rfl (AY rfl (AD (vP (some ⟨a0,0,none⟩)) rfl (AY rfl (AR ⟨a0,0,none⟩ rfl (AY rfl (AH 11 NL rfl (AY rfl (AK U37_ rfl (d4) rfl a5 rfl (AY rfl (NJ U37_ rfl a4 (AY rfl (DQ .i64 (((CX mS FC 3).done).length:Int) (1:Int) rfl rfl (AA (BK (vO ((((CX mS FC 3).done).length:Int) != (1:Int))) rfl rfl (AA (AD (vO ((((CX mS FC 3).done).length:Int) != (1:Int))) rfl (?_))))))))))))))))))))))
 have x4:((((CX mS FC 3).done).length:Int) != (1:Int))=false:=(by decide +kernel)
 rw [x4]
 refine AY rfl (AD (vP (some ⟨a0,0,none⟩)) rfl (AY rfl (AR ⟨a0,0,none⟩ rfl (AY rfl (AH 11 NL rfl (AY rfl (AK U37_ rfl (d4) rfl a5 rfl (AY rfl (DO U37_ s_4 .i64 (0:Int) 0 rfl rfl rfl a4.rd0 (by decide +kernel) fun N9 x5=>(AY rfl (OP U4_ rfl rfl x5 (AA (BK (vO (((CX mS FC 3).done)[0]!)) rfl rfl (AG (AC (?_))))))))))))))))
 have x6:(((CX mS FC 3).done)[0]!)=false:=(by decide +kernel)
 rw [x6]
 refine AJ false rfl rfl (fun h=>by cases h) (fun _=>AT (AC (AF (DP 8 _ _ kR kR kR kR kR rfl rfl fun v2 e2=>?_))))
 have v3:=B9.call e2
 have c6:Mv l0 v0 l0 v2:=Mv.of_keep e2
 have a4:=a4.mv c6 e2 (by simp)
 have b4:=b4.mv c6
 have b5:=b5.mv c6
 have b6:=b6.mv c6
 have c3:=c3.mv c6
 have a6:=a6.mv c6 e2 (by simp)
 have a7:=a7.mv c6 e2 (by simp)
 have b0:=b0.mv c6 e2 (by simp)
 have a5:=a5.keep e2 (by simp)
 have hT:=by exact hT.mv0 c6 e2 (fun x hx=>by exact hx)
 refine BG (AD (vP (some ⟨a0,0,none⟩)) rfl (BG (AR ⟨a0,0,none⟩ rfl (BG (AH 0 ED rfl (BG (BI (vs:=[vI ((CX mS FC 3).c.epoch),vI ((CX mS FC 3).c.threshold),vI ((CX mS FC 3).c.wait),i1,i2]) U28_ rfl BJ rfl a5 rfl (BG (AD (vP (some ⟨a0,0,none⟩)) rfl (BG (AR ⟨a0,0,none⟩ rfl (BG (AH 5 ML rfl (BG (AK U32_ rfl (i3) rfl a5 rfl (EQ (AA (BF (vs:=[vA #[vI ((CX mS FC 3).c.epoch),vI ((CX mS FC 3).c.threshold),vI ((CX mS FC 3).c.wait),i1,i2],vI 0,i3]) PV (WY (O:=l0++O) [vI ((CX mS FC 3).c.epoch),vI ((CX mS FC 3).c.threshold),vI ((CX mS FC 3).c.wait),i1,i2] ((CX mS FC 3).c) (0:Int) i3 ((CX mS FC 3).l) v2 ⟨_,_,rfl,b4,b5⟩ b6 v3.lt) rfl v3 fun O0 O1 C0 c7 j2 C1=>(?_)))))))))))))))))))
 obtain ⟨o5,rfl,x7⟩:=C1
 have:=x7.len_le
 have a4:=a4.mv c7 j2 (by simp)
 have b4:=b4.mv c7
 have b5:=b5.mv c7
 have b6:=b6.mv c7
 have c3:=c3.mv c7
 have a6:=a6.mv c7 j2 (by simp)
 have a7:=a7.mv c7 j2 (by simp)
 have b0:=b0.mv c7 j2 (by simp)
 have a5:=a5.keep j2 (by simp)
 have hT:=by exact hT.mv0 c7 j2 (fun x hx=>by exact hx)
 refine AA (AD (vT #[o5,vI ((BX ((CX mS FC 3).c) (0:Int) ((CX mS FC 3).l)).2)]) rfl (AA (AL (o5) rfl rfl (AA (AL (vI ((BX ((CX mS FC 3).c) (0:Int) ((CX mS FC 3).l)).2)) rfl rfl (AA (AE (o5) rfl (AA (AE (vI ((BX ((CX mS FC 3).c) (0:Int) ((CX mS FC 3).l)).2)) rfl (AG (AC (AF (AF (AB kR (AA (AD (vP (some ⟨a0,0,none⟩)) rfl (AA (DN (l:=[(0, .const (vB (1:UInt8))),(2, .const (vI 1))]) XN z_41 rfl [(0,vB (1:UInt8),[vB (1:UInt8)]),(2,vI 1,[vI 1])] [vB (1:UInt8),vI 0,vI 1,vI 0,nS,nS,vI 0] rfl ⟨_,rfl,rfl,oT,⟨_,rfl,rfl,oT,rfl⟩⟩ (AA (ES [vP (some ⟨a0,0,none⟩),vA #[vB (1:UInt8),vI 0,vI 1,vI 0,nS,nS,vI 0]] LJ rfl (Calls.mono (c_do a0 i1 i2 i3 q5 v1 e7 e8 i4 d4 (CX mS FC 3) [vB (1:UInt8),vI 0,vI 1,vI 0,nS,nS,vI 0] (⟨(1:UInt8),(0:Int),(1:Int),(0:Int),[],[],(0:Int)⟩:MoveT) C0 (MovS.mk a5 (by repeat (assumption)) b4 b5 b6 c3 a6 q6 a7 q7 b0 q8 a4 q9 x2 hT) ⟨.slice none 0 0, .slice none 0 0,rfl,(BL.nil _ _ _),(BL.nil _ _ _)⟩ (OV RX 3).g (by decide)) (fun e_ C2 hR_=>?_))))))))))))))))))))))
 obtain ⟨rfl,C3,r0,r4,r5,r6,v4,e9,f0,i5,i6,C4,O2,E7,I3,m6⟩:=hR_
 refine CZ ?_
 have m6:MovS w O C3 C2 a0 r0 r4 r5 r6 v4 e9 f0 i5 i6 (CX mS FC 4):=m6
 obtain ⟨i7,c0,m7,m9,n2,n3,d5,r7,d6,r8,g3,r9,g4,s1,x8,x9⟩:=m6
 have I4:∀ b,e9.ownBlock=some b→b≠a0:=d5.neB i7 (by decide)
 have I5:∀ b,e9.ownBlock=some b→i5.ownBlock≠some b:=d5.neT g3 (by decide)
 have I6:∀ b,f0.ownBlock=some b→b≠a0:=d6.neB i7 (by decide)
 have I7:∀ b,f0.ownBlock=some b→e9.ownBlock≠some b:=d6.neT d5 (by decide)
 have I8:∀ b,f0.ownBlock=some b→i5.ownBlock≠some b:=d6.neT g3 (by decide)
 have I9:∀ b,f0.ownBlock=some b→i6.ownBlock≠some b:=d6.neT g4 (by decide)
 have J0:∀ b,i5.ownBlock=some b→b≠a0:=g3.neB i7 (by decide)
 have J1:∀ b,i6.ownBlock=some b→b≠a0:=g4.neB i7 (by decide)
 have J2:∀ b,i6.ownBlock=some b→e9.ownBlock≠some b:=g4.neT d5 (by decide)
 have hT:=x9
 have:=m7.len_le
 have:=m9.len_le
 have:=n2.len_le
 have:=n3.len_le
 refine AA (FF true rfl (AA (AD (vO false) rfl (AY rfl (AD (vP (some ⟨a0,0,none⟩)) rfl (AY rfl (DN (l:=[(0, .const (vB (3:UInt8))),(3, .const (vI 7))]) XN z_41 rfl [(0,vB (3:UInt8),[vB (3:UInt8)]),(3,vI 7,[vI 7])] [vB (3:UInt8),vI 0,vI 0,vI 7,nS,nS,vI 0] rfl ⟨_,rfl,rfl,oT,⟨_,rfl,rfl,oT,rfl⟩⟩ (AY rfl (ES [vP (some ⟨a0,0,none⟩),vA #[vB (3:UInt8),vI 0,vI 0,vI 7,nS,nS,vI 0]] LJ rfl (Calls.mono (c_do a0 r0 r4 r5 r6 v4 e9 f0 i5 i6 (CX mS FC 4) [vB (3:UInt8),vI 0,vI 0,vI 7,nS,nS,vI 0] (⟨(3:UInt8),(0:Int),(0:Int),(7:Int),[],[],(0:Int)⟩:MoveT) C4 (MovS.mk i7 (by repeat (assumption)) m7 m9 n2 n3 d5 r7 d6 r8 g3 r9 g4 s1 x8 hT) ⟨.slice none 0 0, .slice none 0 0,rfl,(BL.nil _ _ _),(BL.nil _ _ _)⟩ (OV RX 4).g (by decide)) (fun e_ C5 hR_=>?_)))))))))))
 obtain ⟨rfl,C6,s2,s3,s4,s5,v5,f1,f2,i8,f3,C7,O3,E8,J3,n4⟩:=hR_
 refine CZ ?_
 have n4:MovS w O C6 C5 a0 s2 s3 s4 s5 v5 f1 f2 i8 f3 (CX mS FC 5):=n4
 obtain ⟨f4,c0,n5,n6,n7,n9,d7,s6,d8,s7,g5,s8,d9,s9,y0,y1⟩:=n4
 have J4:∀ b,f1.ownBlock=some b→b≠a0:=d7.neB f4 (by decide)
 have J5:∀ b,f1.ownBlock=some b→i8.ownBlock≠some b:=d7.neT g5 (by decide)
 have J6:∀ b,f2.ownBlock=some b→b≠a0:=d8.neB f4 (by decide)
 have J7:∀ b,f2.ownBlock=some b→f1.ownBlock≠some b:=d8.neT d7 (by decide)
 have J8:∀ b,f2.ownBlock=some b→i8.ownBlock≠some b:=d8.neT g5 (by decide)
 have J9:∀ b,f2.ownBlock=some b→f3.ownBlock≠some b:=d8.neT d9 (by decide)
 have K0:∀ b,i8.ownBlock=some b→b≠a0:=g5.neB f4 (by decide)
 have K1:∀ b,f3.ownBlock=some b→b≠a0:=d9.neB f4 (by decide)
 have K2:∀ b,f3.ownBlock=some b→f1.ownBlock≠some b:=d9.neT d7 (by decide)
 have hT:=y1
 have:=n5.len_le
 have:=n6.len_le
 have:=n7.len_le
 have:=n9.len_le
 refine AY rfl (FF true rfl (AA (BK (vO false) rfl rfl (AA (AD (vO false) rfl (AY rfl (AD (vP (some ⟨a0,0,none⟩)) rfl (AY rfl (AR ⟨a0,0,none⟩ rfl (AY rfl (AH 11 NL rfl (AY rfl (AK U37_ rfl (f3) rfl f4 rfl (AY rfl (DO U37_ s_4 .i64 (0:Int) 0 rfl rfl rfl d9.rd0 (by decide +kernel) fun O4 y2=>(AY rfl (OP U4_ rfl rfl y2 (AA (BK (vO (((CX mS FC 5).done)[0]!)) rfl rfl (AA (AD (vO (((CX mS FC 5).done)[0]!)) rfl (?_))))))))))))))))))))))
 have y3:(((CX mS FC 5).done)[0]!)=false:=(by decide +kernel)
 rw [y3]
 refine AY rfl (AD (vP (some ⟨a0,0,none⟩)) rfl (AY rfl (DN (l:=[(0, .const (vB (3:UInt8))),(3, .const (vI 8))]) XN z_41 rfl [(0,vB (3:UInt8),[vB (3:UInt8)]),(3,vI 8,[vI 8])] [vB (3:UInt8),vI 0,vI 0,vI 8,nS,nS,vI 0] rfl ⟨_,rfl,rfl,oT,⟨_,rfl,rfl,oT,rfl⟩⟩ (AY rfl (ES [vP (some ⟨a0,0,none⟩),vA #[vB (3:UInt8),vI 0,vI 0,vI 8,nS,nS,vI 0]] LJ rfl (Calls.mono (c_do a0 s2 s3 s4 s5 v5 f1 f2 i8 f3 (CX mS FC 5) [vB (3:UInt8),vI 0,vI 0,vI 8,nS,nS,vI 0] (⟨(3:UInt8),(0:Int),(0:Int),(8:Int),[],[],(0:Int)⟩:MoveT) C7 (MovS.mk f4 (by repeat (assumption)) n5 n6 n7 n9 d7 s6 d8 s7 g5 s8 d9 s9 y0 hT) ⟨.slice none 0 0, .slice none 0 0,rfl,(BL.nil _ _ _),(BL.nil _ _ _)⟩ (OV RX 5).g (by decide)) (fun e_ C8 hR_=>?_)))))))
 obtain ⟨rfl,C9,t0,t2,t3,t4,v6,f5,f6,i9,f7,D0,O5,E9,K3,o0⟩:=hR_
 refine CZ ?_
 have o0:MovS w O C9 C8 a0 t0 t2 t3 t4 v6 f5 f6 i9 f7 (CX mS FC 6):=o0
 obtain ⟨c5,c0,g6,g7,g8,g9,b7,t5,b8,t6,c4,t7,b9,t8,y4,y5⟩:=o0
 have K4:∀ b,f5.ownBlock=some b→b≠a0:=b7.neB c5 (by decide)
 have K5:∀ b,f5.ownBlock=some b→i9.ownBlock≠some b:=b7.neT c4 (by decide)
 have K6:∀ b,f6.ownBlock=some b→b≠a0:=b8.neB c5 (by decide)
 have K7:∀ b,f6.ownBlock=some b→f5.ownBlock≠some b:=b8.neT b7 (by decide)
 have K8:∀ b,f6.ownBlock=some b→i9.ownBlock≠some b:=b8.neT c4 (by decide)
 have K9:∀ b,f6.ownBlock=some b→f7.ownBlock≠some b:=b8.neT b9 (by decide)
 have L0:∀ b,i9.ownBlock=some b→b≠a0:=c4.neB c5 (by decide)
 have L1:∀ b,f7.ownBlock=some b→b≠a0:=b9.neB c5 (by decide)
 have L2:∀ b,f7.ownBlock=some b→f5.ownBlock≠some b:=b9.neT b7 (by decide)
 have hT:=y5
 have:=g6.len_le
 have:=g7.len_le
 have:=g8.len_le
 have:=g9.len_le
 refine AY rfl (FF true rfl (AA (BK (vO false) rfl rfl (AA (AD (vO false) rfl (AY rfl (AD (vP (some ⟨a0,0,none⟩)) rfl (AY rfl (AR ⟨a0,0,none⟩ rfl (AY rfl (AH 11 NL rfl (AY rfl (AK U37_ rfl (f7) rfl c5 rfl (AY rfl (DO U37_ s_4 .i64 (0:Int) 0 rfl rfl rfl b9.rd0 (by decide +kernel) fun O6 y6=>(AY rfl (OP U4_ rfl rfl y6 (AY rfl (FF (((CX mS FC 6).done)[0]!) rfl (AA (BK (vO (!(((CX mS FC 6).done)[0]!))) rfl rfl (AA (AD (vO (!(((CX mS FC 6).done)[0]!))) rfl (?_))))))))))))))))))))))))
 have y7:(!(((CX mS FC 6).done)[0]!))=false:=(by rw [show (((CX mS FC 6).done)[0]!)=true from (by decide +kernel)];rfl)
 rw [y7]
 refine AY rfl (AD (vP (some ⟨a0,0,none⟩)) rfl (AY rfl (KH (E:=Enc.u8) (xs:=[.const (vB (1:UInt8))]) U23_ JD z_5 (by decide) [vB (1:UInt8)] [[vB (1:UInt8)]] [(1:UInt8)] rfl rfl rfl (Parts.cons rfl rfl (Parts.nil _ _ _)) oT D0 fun j9 O7 D1 c8 j3 o1=>(?_))))
 have b9:=b9.mv c8 j3 (by simp)
 have g6:=g6.mv c8
 have g7:=g7.mv c8
 have g8:=g8.mv c8
 have g9:=g9.mv c8
 have b7:=b7.mv c8 j3 (by simp)
 have b8:=b8.mv c8 j3 (by simp)
 have c4:=c4.mv c8 j3 (by simp)
 have c5:=c5.keep j3 (by simp)
 have hT:=by exact hT.mv0 c8 j3 (fun x hx=>by exact hx)
 have:=o1.len_le
 refine AY rfl (DN (l:=[(0, .const (vB (4:UInt8))),(4, .tmp 115)]) XN z_41 rfl [(0,vB (4:UInt8),[vB (4:UInt8)]),(4,j9,[j9])] [vB (4:UInt8),vI 0,vI 0,vI 0,j9,nS,vI 0] rfl ⟨_,rfl,rfl,oT,⟨_,rfl,(FB o1.oneCell),oT,rfl⟩⟩ (AY rfl (ES [vP (some ⟨a0,0,none⟩),vA #[vB (4:UInt8),vI 0,vI 0,vI 0,j9,nS,vI 0]] LJ rfl (Calls.mono (c_do a0 t0 t2 t3 t4 v6 f5 f6 i9 f7 (CX mS FC 6) [vB (4:UInt8),vI 0,vI 0,vI 0,j9,nS,vI 0] (⟨(4:UInt8),(0:Int),(0:Int),(0:Int),[(1:UInt8)],[],(0:Int)⟩:MoveT) D1 (MovS.mk c5 (by repeat (assumption)) g6 g7 g8 g9 b7 t5 b8 t6 c4 t7 b9 t8 y4 hT) ⟨_, .slice none 0 0,rfl,o1,(BL.nil _ _ _)⟩ (OV RX 6).g (by decide)) (fun e_ v7 hR_=>?_)))))
 obtain ⟨rfl,h0,e0,e1,k0,k5,D2,j0,j1,k6,k7,D3,O8,F1,L3,o2⟩:=hR_
 refine CZ ?_
 have o2:MovS w O h0 v7 a0 e0 e1 k0 k5 D2 j0 j1 k6 k7 (CX mS FC 7):=o2
 obtain ⟨a1,c0,a8,a9,h1,b1,h2,E0,h3,E1,j4,E2,j5,E3,L4,y8⟩:=o2
 have L5:∀ b,j0.ownBlock=some b→b≠a0:=h2.neB a1 (by decide)
 have L6:∀ b,j0.ownBlock=some b→k6.ownBlock≠some b:=h2.neT j4 (by decide)
 have L7:∀ b,j1.ownBlock=some b→b≠a0:=h3.neB a1 (by decide)
 have L8:∀ b,j1.ownBlock=some b→j0.ownBlock≠some b:=h3.neT h2 (by decide)
 have L9:∀ b,j1.ownBlock=some b→k6.ownBlock≠some b:=h3.neT j4 (by decide)
 have M0:∀ b,j1.ownBlock=some b→k7.ownBlock≠some b:=h3.neT j5 (by decide)
 have M1:∀ b,k6.ownBlock=some b→b≠a0:=j4.neB a1 (by decide)
 have M2:∀ b,k7.ownBlock=some b→b≠a0:=j5.neB a1 (by decide)
 have M3:∀ b,k7.ownBlock=some b→j0.ownBlock≠some b:=j5.neT h2 (by decide)
 have hT:=y8
 have:=a8.len_le
 have:=a9.len_le
 have:=h1.len_le
 have:=b1.len_le
 refine AY rfl (FF true rfl (AA (BK (vO false) rfl rfl (AA (AD (vO false) rfl (AY rfl (AD (vP (some ⟨a0,0,none⟩)) rfl (AY rfl (AR ⟨a0,0,none⟩ rfl (AY rfl (AH 0 ED rfl (AY rfl (AH 0 MF rfl (AY rfl (AK U3_ rfl (vI ((CX mS FC 7).c.epoch)) rfl a1 rfl (AY rfl (DQ .i64 ((CX mS FC 7).c.epoch) (1:Int) rfl rfl (AA (BK (vO (((CX mS FC 7).c.epoch) != (1:Int))) rfl rfl (AG (AC (?_))))))))))))))))))))))
 have y9:(((CX mS FC 7).c.epoch) != (1:Int))=false:=(by decide +kernel)
 rw [y9]
 refine AJ false rfl rfl (fun h=>by cases h) (fun _=>AT (AC (AF (DP 8 _ _ kR kR kR kR kR rfl rfl fun v8 l1=>?_))))
 have v9:=D3.call l1
 have k8:Mv h0 v7 h0 v8:=Mv.of_keep l1
 have a8:=a8.mv k8
 have a9:=a9.mv k8
 have h1:=h1.mv k8
 have b1:=b1.mv k8
 have a1:=a1.keep l1 (by simp)
 have hT:=by exact hT.mv0 k8 l1 (fun x hx=>by exact hx)
 refine BG (AD (vP (some ⟨a0,0,none⟩)) rfl (BG (AR ⟨a0,0,none⟩ rfl (BG (AH 0 ED rfl (BG (BI (vs:=[vI ((CX mS FC 7).c.epoch),vI ((CX mS FC 7).c.threshold),vI ((CX mS FC 7).c.wait),e0,e1]) U28_ rfl BJ rfl a1 rfl (BG (AD (vP (some ⟨a0,0,none⟩)) rfl (BG (AR ⟨a0,0,none⟩ rfl (BG (AH 5 ML rfl (BG (AK U32_ rfl (k0) rfl a1 rfl (EQ (AA (BF (vs:=[vA #[vI ((CX mS FC 7).c.epoch),vI ((CX mS FC 7).c.threshold),vI ((CX mS FC 7).c.wait),e0,e1],vI 0,k0]) PV (WY (O:=h0++O) [vI ((CX mS FC 7).c.epoch),vI ((CX mS FC 7).c.threshold),vI ((CX mS FC 7).c.wait),e0,e1] ((CX mS FC 7).c) (0:Int) k0 ((CX mS FC 7).l) v8 ⟨_,_,rfl,a8,a9⟩ h1 v9.lt) rfl v9 fun O9 D4 D5 l2 w0 D6=>(?_)))))))))))))))))))
 obtain ⟨l3,rfl,f8⟩:=D6
 have:=f8.len_le
 have a8:=a8.mv l2
 have a9:=a9.mv l2
 have b1:=b1.mv l2
 have a1:=a1.keep w0 (by simp)
 have hT:=by exact hT.mv0 l2 w0 (fun x hx=>by exact hx)
 refine AA (AD (vT #[l3,vI ((BX ((CX mS FC 7).c) (0:Int) ((CX mS FC 7).l)).2)]) rfl (AA (AL (l3) rfl rfl (AA (AL (vI ((BX ((CX mS FC 7).c) (0:Int) ((CX mS FC 7).l)).2)) rfl rfl (AA (AE (l3) rfl (AA (AE (vI ((BX ((CX mS FC 7).c) (0:Int) ((CX mS FC 7).l)).2)) rfl (AG (AC (AF (DP 8 _ _ kR kR kR kR kR rfl rfl fun w1 l4=>?_)))))))))))))
 have w2:=D5.call l4
 have k9:Mv h0 D4 h0 w1:=Mv.of_keep l4
 have f8:=f8.mv k9
 have a8:=a8.mv k9
 have a9:=a9.mv k9
 have b1:=b1.mv k9
 have a1:=a1.keep l4 (by simp)
 have hT:=by exact hT.mv0 k9 l4 (fun x hx=>by exact hx)
 refine BG (AD (vP (some ⟨a0,0,none⟩)) rfl (BG (AR ⟨a0,0,none⟩ rfl (BG (AH 0 ED rfl (BG (BI (vs:=[vI ((CX mS FC 7).c.epoch),vI ((CX mS FC 7).c.threshold),vI ((CX mS FC 7).c.wait),e0,e1]) U28_ rfl BJ rfl a1 rfl (BG (AD (vP (some ⟨a0,0,none⟩)) rfl (BG (AR ⟨a0,0,none⟩ rfl (BG (AH 6 UA rfl (BG (AK U32_ rfl (k5) rfl a1 rfl (EQ (AA (BF (vs:=[vA #[vI ((CX mS FC 7).c.epoch),vI ((CX mS FC 7).c.threshold),vI ((CX mS FC 7).c.wait),e0,e1],vI 0,k5]) PV (WY (O:=h0++O) [vI ((CX mS FC 7).c.epoch),vI ((CX mS FC 7).c.threshold),vI ((CX mS FC 7).c.wait),e0,e1] ((CX mS FC 7).c) (0:Int) k5 ((CX mS FC 7).old) w1 ⟨_,_,rfl,a8,a9⟩ b1 w2.lt) rfl w2 fun P0 P1 D7 w3 D8 D9=>(?_)))))))))))))))))))
 obtain ⟨o6,rfl,z0⟩:=D9
 have:=z0.len_le
 have f8:=f8.mv w3
 have hT:=by exact hT.mv0 w3 D8 (fun x hx=>by exact hx)
 refine AA (AD (vT #[o6,vI ((BX ((CX mS FC 7).c) (0:Int) ((CX mS FC 7).old)).2)]) rfl (AA (AL (o6) rfl rfl (AA (AL (vI ((BX ((CX mS FC 7).c) (0:Int) ((CX mS FC 7).old)).2)) rfl rfl (AA (AE (o6) rfl (AA (AE (vI ((BX ((CX mS FC 7).c) (0:Int) ((CX mS FC 7).old)).2)) rfl (AG (AC (AF (AB kR (AA (AD (vI ((BX ((CX mS FC 3).c) (0:Int) ((CX mS FC 3).l)).2)) rfl (AA (EZ .i64 ((BX ((CX mS FC 3).c) (0:Int) ((CX mS FC 3).l)).2) (460:Int) rfl rfl (AA (AD (vO (((BX ((CX mS FC 3).c) (0:Int) ((CX mS FC 3).l)).2) == (460:Int))) rfl (?_))))))))))))))))))))
 have z1:(((BX ((CX mS FC 3).c) (0:Int) ((CX mS FC 3).l)).2) == (460:Int))=true:=(by decide +kernel)
 rw [z1]
 refine AY rfl (AD (vI ((BX ((CX mS FC 7).c) (0:Int) ((CX mS FC 7).l)).2)) rfl (AY rfl (EZ .i64 ((BX ((CX mS FC 7).c) (0:Int) ((CX mS FC 7).l)).2) (0:Int) rfl rfl (AA (BH (vO (((BX ((CX mS FC 7).c) (0:Int) ((CX mS FC 7).l)).2) == (0:Int))) rfl rfl (AA (AD (vO (((BX ((CX mS FC 7).c) (0:Int) ((CX mS FC 7).l)).2) == (0:Int))) rfl (?_))))))))
 have z2:(((BX ((CX mS FC 7).c) (0:Int) ((CX mS FC 7).l)).2) == (0:Int))=true:=(by decide +kernel)
 rw [z2]
 refine AY rfl (AD (l3) rfl (AY rfl (SV U23_ U5_ U9_ rfl f8 (AY rfl (o_eqlS ((BX ((CX mS FC 7).c) (0:Int) ((CX mS FC 7).l)).1) ([9]:List UInt8) rfl rfl (AA (BH (vO (((BX ((CX mS FC 7).c) (0:Int) ((CX mS FC 7).l)).1) == ([9]:List UInt8))) rfl rfl (AA (AD (vO (((BX ((CX mS FC 7).c) (0:Int) ((CX mS FC 7).l)).1) == ([9]:List UInt8))) rfl (?_))))))))))
 have z3:(((BX ((CX mS FC 7).c) (0:Int) ((CX mS FC 7).l)).1) == ([9]:List UInt8))=true:=(by decide +kernel)
 rw [z3]
 refine AY rfl (AD (vI ((BX ((CX mS FC 7).c) (0:Int) ((CX mS FC 7).old)).2)) rfl (AY rfl (EZ .i64 ((BX ((CX mS FC 7).c) (0:Int) ((CX mS FC 7).old)).2) (460:Int) rfl rfl (AA (BH (vO (((BX ((CX mS FC 7).c) (0:Int) ((CX mS FC 7).old)).2) == (460:Int))) rfl rfl (AA (AE (vO (((BX ((CX mS FC 7).c) (0:Int) ((CX mS FC 7).old)).2) == (460:Int))) rfl (AG (AC (AM (AZ rfl (CN rfl rfl rfl) (?_))))))))))))
 have e:true=(((BX ((CX mS FC 7).c) (0:Int) ((CX mS FC 7).old)).2) == (460:Int)):=by rfl
 exact ⟨_,rfl,D7.keep,(by exact congrArg vO e.symm)⟩
open Go.Fw Go.RowKit
set_option maxHeartbeats 4000000 in
set_option maxRecDepth 100000 in
theorem PK {O:List Nat} (l_v:Value) (l:List Share) (mask:UInt8) (w:World) (a1:BL Enc.share w O l_v l) (hO:∀ b∈O,b<w.heap.size):CM Try.prog 13 [l_v,vB mask] w (fun v w'=>∃ (x0:Value),v=x0∧BL Enc.share w' (O) x0 (AI l mask l.length)):= by
 have e6:=a1.len_le
 have a1:BL Enc.share w ([]++O) l_v l:=a1
 have s0:St w O w []:=St.start hO
 refine BP 29 Try.func13 rfl rfl oT (fun F0=>AF (AB kR (AA (AE (.slice none 0 0) rfl (AG (AC (AF (AF (AB kR (AA (AD (l_v) rfl (AA (CK U32_ rfl a1 (AA (AD (vI 0) rfl (AG (AC (BQ (DU (fun mI FI wI=>∃ (k:Nat) (a0:Value) (B:List Nat),k≤l.length∧mI=l.length - k∧(∃ F1,FI=GN F1 [(1,vB mask),(4,a0),(7,l_v),(8,vI (l.length:Int)),(9,vI ((k:Nat):Int)),(29,undef)])∧St w O wI B∧DX Enc.share 70 w.heap.size (B++O) wI a0 ((AI l mask k))∧(∀ b,a0.ownBlock=some b→b∈B)∧BL Enc.share wI (B++O) (l_v) (l)) (l.length - (0)) ?_ ?_)))))))))))))))))))
 ·exact ⟨(0),(.slice none 0 0),[],oM,rfl,⟨_,BD _ ⟨rfl,rfl,rfl,rfl,(by rfl),rfl,trivial⟩⟩,s0,(by rw [show (AI l mask (0))=[] from rfl];exact (DX.nil Enc.share 70 _ _ _)),(by intro b hb;simp [Value.ownBlock] at hb),a1⟩
 intro f3 F f4 hI
 clear a1
 obtain ⟨k,a0,b7,hr0_0,f5,⟨f6,rfl⟩,c2,ho0_4,a4,a1⟩:=hI
 refine AF (AB kR (AA (EB .i64 ((k:Nat):Int) (l.length:Int) rfl rfl (AG (AC (AF (AJ (decide (((k:Nat):Int)<(l.length:Int))) rfl rfl (fun a7=>?_) (fun a7=>?_))))))))
 ·have d8:((k:Nat):Int)<(l.length:Int):=by simpa using a7
  refine AT (AC (AF (BQ (AF (AB kR (AA (AD (vI ((k:Nat):Int)) rfl (AA (DO U32_ EN .i64 ((k:Nat):Int) k rfl rfl rfl a1 oM fun e7 c3=>(AA (CY U70_ rfl EN rfl c3 fun c4 a8=>(AA (CR [vI 0,vI 0,vI 0,vI 0,nS] PG rfl c2 fun a2 c9 d0 d1 b0 d2 c5=>(?_))))))))))))))
  have b4:∀ b,a0.ownBlock=some b→b≠a2:=fun b hb=>by have:=(ho0_4.lt b hb).2;omega
  have a4:∀ b,a0.ownBlock=some b→b∈(a2 :: b7):=fun b hb=>List.mem_cons_of_mem _ (a4 b hb)
  clear d0
  have ho0_4:=ho0_4.mv b0 d2 (by simp)
  have a1:=a1.mv b0
  have a8:Enc.share.rd c9 ((a2 :: b7)++O) c4 (l[k]!):=Enc.mv Enc.share (x:=l[k]!) a8 b0
  refine AA (AE (vI ((k:Nat):Int)) rfl (?_))
  obtain ⟨a5,rfl,a3⟩:=a8
  have:=a3.len_le
  refine BZ (BE (vs:=[vI ((l[k]!).epoch),vI ((l[k]!).index),vI ((l[k]!).threshold),vI ((l[k]!).many),a5]) (.agg #[vI ((l[k]!).epoch),vI ((l[k]!).index),vI ((l[k]!).threshold),vI ((l[k]!).many),a5]) rfl rfl rfl EN (fun u hu=>by simp only [List.mem_cons,List.not_mem_nil,or_false] at hu;rcases hu with rfl|rfl|rfl|rfl|rfl <;> first|rfl|exact a3.oneCell) (by repeat (constructor)) c5 oT d1 fun e8 b1 b2 d3 a6=>(?_))
  have ho0_4:=ho0_4.mv b2 d3 (fun b hb=>AS (b4 b hb))
  have a1:=a1.mv b2
  have a3:=a3.mv b2
  refine AG (AC (AF (AB kR (AA (AD (vI ((k:Nat):Int)) rfl (AA (EB .i64 ((k:Nat):Int) (8:Int) rfl rfl (AA (AD (vO (decide (((k:Nat):Int)<(8:Int)))) rfl (?_))))))))))
  cases b5:(decide (((k:Nat):Int)<(8:Int)))
  ·have d9:(8:Int)≤((k:Nat):Int):=by simpa using b5
   refine AN rfl (AN rfl (AN rfl (AN rfl (AN rfl (AA (BK (vO false) rfl rfl (AG (AC (AJ false rfl rfl (fun h=>by cases h) (fun _=>AT (CB (AC (AB kR (AA (DR .i64 ((k:Nat):Int) (1:Int) (((k+1:Nat):Int)) rfl rfl (GZ oM oM) (AA (AD (vI ((k+1:Nat):Int)) rfl (AG (AC (?_))))))))))))))))))))
   exact ⟨_,oM,(k+1),a0,(a2 :: b7),oM,rfl,⟨_,BD _ ⟨rfl,rfl,rfl,rfl,(by rfl),rfl,trivial⟩⟩,b1,(by rw [show (AI l mask (k+1))=(AI l mask k) from by exact RZ (fun hq=>absurd hq.1 oM)];exact ho0_4),a4,a1⟩
  have e0:((k:Nat):Int)<(8:Int):=by simpa using b5
  refine AY rfl (AD (vB mask) rfl (AY rfl (AD (vI ((k:Nat):Int)) rfl (AY rfl (o_shr8 .i64 mask k oM rfl rfl (AY rfl (o_and8 (mask >>> UInt8.ofNat k) (1:UInt8) rfl rfl (AY rfl (PN ((mask >>> UInt8.ofNat k) &&& (1:UInt8)) (1:UInt8) rfl rfl (AA (BH (vO (((mask >>> UInt8.ofNat k) &&& (1:UInt8)) == (1:UInt8))) rfl rfl (AG (AC (AJ (((mask >>> UInt8.ofNat k) &&& (1:UInt8)) == (1:UInt8)) rfl rfl (fun a9=>?_) (fun a9=>?_)))))))))))))))
  ·have e2:(mask >>> UInt8.ofNat k) &&& (1:UInt8)=(1:UInt8):=by simpa using a9
   refine AB kR (AA (AD (a0) rfl (AA (BI (vs:=[vI ((l[k]!).epoch),vI ((l[k]!).index),vI ((l[k]!).threshold),vI ((l[k]!).many),a5]) U70_ rfl EN rfl a6 rfl (AA (KH (E:=Enc.share) (xs:=[.tmp 24]) U32_ EN PG (by decide) [.agg #[vI ((l[k]!).epoch),vI ((l[k]!).index),vI ((l[k]!).threshold),vI ((l[k]!).many),a5]] [[vI ((l[k]!).epoch),vI ((l[k]!).index),vI ((l[k]!).threshold),vI ((l[k]!).many),a5]] [(l[k]!)] rfl rfl rfl (Parts.cons rfl ⟨_,rfl,a3⟩ (Parts.nil _ _ _)) oT b1 fun e9 f0 d4 b8 b9 b6=>(?_)))))))
   have ho0_4:=ho0_4.mv b8 b9 (by simp)
   have a1:=a1.mv b8
   have a6:=a6.keep b9 (by simp)
   have:=b6.len_le
   refine AA (DI (E:=Enc.share) (l:=(AI l mask k)) (m:=[(l[k]!)]) U32_ i_70 rfl (by decide) rfl rfl ho0_4 b6 (fun _ hb=>.inl hb) a4 (by have:=UO l mask k;simp;omega) (by have:=UO l mask k;simp [maxLen];omega) d4 fun b3 f1 c0 c6 c7 c1 d5 d6 f2 c8=>(?_))
   have e3:∀ b,b3.ownBlock=some b→b≠a2:=fun b hb=>by rcases c7 with e1|e1 <;> rw [e1] at hb <;> first|(cases hb;have:=a6.lt;omega)|(exact b4 b hb)
   have d7:a2∈c0:=c1 a2 (by repeat (constructor))
   have a1:=a1.mv d6
   refine AA (AE (b3) rfl (AG (CB (AC (AB kR (AA (DR .i64 ((k:Nat):Int) (1:Int) (((k+1:Nat):Int)) rfl rfl (GZ oM oM) (AA (AD (vI ((k+1:Nat):Int)) rfl (AG (AC (?_))))))))))))
   exact ⟨_,oM,(k+1),b3,c0,oM,rfl,⟨_,BD _ ⟨rfl,rfl,rfl,rfl,(by rfl),rfl,trivial⟩⟩,d5,(by rw [show (AI l mask (k+1))=(AI l mask k)++([(l[k]!)]) from by exact someM_hit oM aS];exact c8),c6,a1⟩
  have e4:(mask >>> UInt8.ofNat k) &&& (1:UInt8)≠(1:UInt8):=by simpa using a9
  refine AT (CB (AC (AB kR (AA (DR .i64 ((k:Nat):Int) (1:Int) (((k+1:Nat):Int)) rfl rfl (GZ oM oM) (AA (AD (vI ((k+1:Nat):Int)) rfl (AG (AC (?_))))))))))
  exact ⟨_,oM,(k+1),a0,(a2 :: b7),oM,rfl,⟨_,BD _ ⟨rfl,rfl,rfl,rfl,(by rfl),rfl,trivial⟩⟩,b1,(by rw [show (AI l mask (k+1))=(AI l mask k) from by exact RZ (fun hq=>absurd hq.2 aS)];exact ho0_4),a4,a1⟩
 have e5:(l.length:Int)≤((k:Nat):Int):=by simpa using a7
 obtain rfl:k=l.length:=by omega
 refine DW (CL (CL (DK (AC (AF (AB kR (AA (AD (a0) rfl (AA (AE (a0) rfl (AG (AC (AM (AZ rfl (CN rfl rfl rfl) (?_)))))))))))))))
 exact ⟨_,rfl,c2.keep,⟨a0,rfl,ho0_4.pub c2⟩⟩
end Go.Proofs.Ytjgfokolnkhafaa
namespace Go.Fw
open Go.RowKit
section
variable {P:Program} {n:Nat} {Q:Exit→Fr→World→Prop} {ro:Option Nat}
theorem wpOpIn_F {ops:List Oper} {i:Nat} {o:Oper} {F1:Fr} {w1:World} {K:Fr→World→Prop} {K':Act→World→Prop} (hok:ops.all (RC n ops)=true) (ho:ops[i]? = some o) (hK:∀ F w,K F w→K' (mk n F) w)
    (h1:Region.wanted o (CH ops F1)=true→DD P o.op o.type F1 w1 (fun v w2=>K (GY F1 o.dst v) w2) (fun c w2=>Q (.panic c) F1 w2)∨(true=true∧RoundW P o.op o.type F1 w1 (fun v w2=>K (GY F1 o.dst v) w2) (fun c w2=>Q (.panic c) F1 w2))) (h2:Region.wanted o (CH ops F1)=false→K (GY F1 o.dst undef) w1) :
    wpOpIn (fen ro) 0 P ops.toArray (KV n Q) i K' (mk n F1) w1:=by
  have hoo:RC n ops o=true:=List.all_eq_true.1 hok o (List.mem_of_getElem? ho)
  unfold wpOpIn
  simp only [List.getElem?_toArray,ho]
  rw [UM hoo]
  split
  · rename_i hw
    refine ⟨fun _ _=>trivial,?_⟩
    rw [Oper.semAt_eq _ _ _ (AAb hoo),TT o hoo,UK]
    rcases h1 hw with h|⟨_,h⟩
    · exact SG (fun v w' hk=>by rw [LP _ _ _ _ (IZ hoo)];exact hK _ _ hk) (fun c w' hz=>⟨F1,rfl,hz⟩) h
    · exact SQ (fun v w' hk=>by rw [LP _ _ _ _ (IZ hoo)];exact hK _ _ hk) (fun c w' hz=>⟨F1,rfl,hz⟩) h
  · rename_i hw
    rw [LP _ _ _ _ (IZ hoo)]
    exact ⟨fun _ _=>trivial,hK _ _ (h2 (by simpa using hw))⟩
theorem tail_runY {ops:List Oper} {m:Nat} (hd:DOk ops m) (hok:ops.all (RC n ops)=true):∀ (fuel k:Nat) (listed:Array Bool) (F1:Fr) (w1:World),listed.size=ops.length→m≤k→ops.length≤k+fuel→k≤ops.length→(∀ j,j<ops.length→(listed[j]? = some true↔j<k))→
    WL true P ops Q (ops.drop k) F1 w1→wpAnyIn (fen ro) 0 P .any ops.toArray (KV n Q) fuel listed (mk n F1) w1:=by
  have fin:∀ (k:Nat) (listed:Array Bool) (F1:Fr) (w1:World),listed.size=ops.length→k≤ops.length→(∀ j,j<ops.length→(listed[j]? = some true↔j<k))→WL true P ops Q (ops.drop k) F1 w1→Region.ready .any ops.toArray listed=[]→KV n Q .normal (mk n F1) w1:=by
    intro k listed F1 w1 hsz hkn hl h hr
    by_cases hkl:k<ops.length
    · have:=SX hd hsz hkl (fun e=>by have:=(hl k hkl).1 e;omega) (fun j hj=>(hl j (by omega)).2 hj)
      rw [hr] at this;cases this
    · rw [List.drop_eq_nil_of_le (by omega)] at h
      exact ⟨F1,rfl,h⟩
  intro fuel
  induction fuel with
  | zero=>
    intro k listed F1 w1 hsz hmk hfu hkn hl h
    have hr:Region.ready .any ops.toArray listed=[]:=by
      unfold Region.ready
      rw [List.filter_eq_nil_iff]
      intro j hj
      have hjl:j<ops.length:=by simpa using hj
      have h1:=(hl j hjl).2 (by omega)
      have:j<listed.size:=by omega
      rw [Array.getElem?_eq_getElem this] at h1
      simp only [Option.some.injEq] at h1
      simp [this,h1]
    exact ⟨hr,fin k listed F1 w1 hsz hkn hl h hr⟩
  | succ fuel ih=>
    intro k listed F1 w1 hsz hmk hfu hkn hl h
    refine ⟨fin k listed F1 w1 hsz hkn hl h,fun i hi=>?_⟩
    obtain ⟨hnl,hil⟩:=LQ hi hsz
    have hki:k≤i:=by
      rcases Nat.lt_or_ge i k with h1|h1
      · have:=(hl i hil).2 h1;rw [hnl] at this;cases this
      · exact h1
    have hdown:∀ i,listed[i]? = some true→∀ j∈JC ops i,listed[j]? = some true:=by
      intro i hi j hj
      have h1:i<ops.length:=by have:=(Array.getElem?_eq_some_iff.1 hi).1;omega
      have h2:=(hl i h1).1 hi
      have h3:=hd.back i h1 j hj
      exact (hl j (by omega)).2 (by omega)
    have hik:i=k:=by
      rcases Nat.eq_or_lt_of_le hki with e|hlt
      · exact e.symm
      · have h1:=OK hd hsz hdown hi (by omega) k hlt
        have:=(hl k (by omega)).1 h1;omega
    subst hik
    have ho:ops[i]? = some ops[i]:=List.getElem?_eq_getElem hil
    rw [List.drop_eq_getElem_cons hil] at h
    have hl':∀ j,j<ops.length→((listed.setIfInBounds i true)[j]? = some true↔j<i+1):=by
      intro j hj
      rw [Array.getElem?_setIfInBounds]
      by_cases hji:i=j
      · subst hji;simp;omega
      · rw [if_neg hji,hl j hj];omega
    refine wpOpIn_F (K:=fun F w=>WL true P ops Q (ops.drop (i+1)) F w) hok ho (fun F w hK=>ih (i+1) _ F w (by simpa using hsz) (by omega) (by omega) (by omega) hl' hK) (fun hw=>?_) (fun hw=>?_)
    · unfold WL at h;rw [if_pos hw] at h;exact h
    · unfold WL at h;rw [if_neg (by rw [hw];simp)] at h;exact h
theorem draw_runY {ops:List Oper} {m:Nat} {Ts:List Pr} {F:Fr} {w:World} (hd:DOk ops m) (hok:ops.all (RC n ops)=true) (hst:∀ i v w w',TU Ts i v w→Keep [] w w'→TU Ts i v w') (hm:m≤ops.length) (hlen:Ts.length=m)
    (hs:RH P ops m Ts F w 0 (ops.take m) Ts)
    (fin:∀ F1 w1,Keep [] w w1→(∀ i o d,i<m→ops[i]? = some o→o.dst=some d→TU Ts i (F1 d) w1)→(∀ t,(∀ j o,j<m→ops[j]? = some o→o.dst≠some t)→F1 t=F t)→WL true P ops Q (ops.drop m) F1 w1) :
    ∀ (fuel:Nat) (listed:Array Bool) (F1:Fr) (w1:World),listed.size=ops.length→PD ops listed≤fuel→(∀ j,m≤j→listed[j]?≠some true)→DInv ops m Ts F w listed F1 w1→wpAnyIn (fen ro) 0 P .any ops.toArray (KV n Q) fuel listed (mk n F1) w1:=by
  intro fuel
  -- all of the first m are listed: on to the tail
  have toTail:∀ (fuel:Nat) (listed:Array Bool) (F1:Fr) (w1:World),listed.size=ops.length→PD ops listed≤fuel→(∀ j,m≤j→listed[j]?≠some true)→DInv ops m Ts F w listed F1 w1→(∀ j,j<m→listed[j]? = some true)→wpAnyIn (fen ro) 0 P .any ops.toArray (KV n Q) fuel listed (mk n F1) w1:=by
    intro fuel listed F1 w1 hsz hfu hno hi hall
    have hfl:ops.length≤m+fuel:=by
      have:ops.length - m≤PD ops listed:=by
        unfold PD
        have e:List.range ops.length=List.range m++(List.range (ops.length - m)).map (m + ·):=by
          rw [← List.range_add];congr 1;omega
        rw [e,List.countP_append]
        have:((List.range (ops.length - m)).map (m + ·)).countP (fun j=>listed[j]? != some true)=ops.length - m:=by
          rw [List.countP_eq_length.2]
          · simp
          · intro j hj
            obtain ⟨q,_,rfl⟩:=List.mem_map.1 hj
            have:=hno (m+q) (by omega)
            simpa using this
        omega
      omega
    refine tail_runY hd hok fuel m listed F1 w1 hsz (Nat.le_refl _) hfl hm (fun j hj=>⟨fun h=>?_,fun h=>hall j h⟩) (fin F1 w1 hi.keep (fun i o d him ho hdst=>hi.fact i o d him (hall i him) ho hdst) (fun t ht=>hi.free t (fun j o hj ho=>?_)))
    · rcases Nat.lt_or_ge j m with h1|h1
      · exact h1
      · exact absurd h (hno j h1)
    · rcases Nat.lt_or_ge j m with h1|h1
      · exact ht j o h1 ho
      · exact absurd hj (hno j h1)
  induction fuel with
  | zero=>
    intro listed F1 w1 hsz hfu hno hi
    refine toTail 0 listed F1 w1 hsz hfu hno hi (fun j hj=>?_)
    have h0:PD ops listed=0:=by omega
    unfold PD at h0
    have:=List.countP_eq_zero.1 h0 j (by simp;omega)
    simpa using this
  | succ fuel ih=>
    intro listed F1 w1 hsz hfu hno hi
    by_cases hall:∀ j,j<m→listed[j]? = some true
    · exact toTail (fuel+1) listed F1 w1 hsz hfu hno hi hall
    · have hex:∃ j,j<m∧listed[j]?≠some true:=by
        refine Classical.byContradiction fun hc=>hall fun j hj=>Classical.byContradiction fun hn=>hc ⟨j,hj,hn⟩
      -- the first that is not listed is ready
      have hmin:∀ q j,q=j→j<m→listed[j]?≠some true→∃ k,k<m∧listed[k]?≠some true∧∀ i,i<k→listed[i]? = some true:=by
        intro q
        induction q using Nat.strongRecOn with
        | _ q ihq=>
          intro j hqj hj hn
          by_cases hb:∀ i,i<j→listed[i]? = some true
          · exact ⟨j,hj,hn,hb⟩
          · have:∃ i,i<j∧listed[i]?≠some true:=Classical.byContradiction fun hc=>hb fun i hi=>Classical.byContradiction fun hn=>hc ⟨i,hi,hn⟩
            obtain ⟨i,hij,hni⟩:=this
            exact ihq i (by omega) i rfl (by omega) hni
      obtain ⟨j0,hj0,hn0⟩:=hex
      obtain ⟨k,hkm,hkn,hkb⟩:=hmin j0 j0 rfl hj0 hn0
      refine ⟨fun h0=>?_,fun i hir=>?_⟩
      · have:=SX hd hsz (by omega) hkn hkb
        rw [h0] at this;cases this
      · obtain ⟨hnl,hil⟩:=LQ hir hsz
        have him:i<m:=by
          rcases Nat.lt_or_ge i m with h1|h1
          · exact h1
          · exact absurd (OK hd hsz hi.down hir h1 k (by omega)) hkn
        have ho:ops[i]? = some ops[i]:=List.getElem?_eq_getElem hil
        have haft:=IM ho hir hsz (fun j hj=>Nat.lt_trans (hd.back i hil j hj) hil)
        have hT:Ts[i]? = some Ts[i]:=List.getElem?_eq_getElem (by omega)
        have hsp:=hs.at_ (ops.take m) Ts 0 i ops[i] Ts[i] (by rw [List.getElem?_take,if_pos him];exact ho) hT
        rw [Nat.zero_add] at hsp
        have hTi:TU Ts i=Ts[i]:=by unfold TU;rw [hT];rfl
        have hsp':=hsp F1 w1 hi.keep (fun t ht=>hi.free t (fun j oj hj hoj=>by
          intro e
          unfold RW at ht
          have h1:=List.all_eq_true.1 ht j (by simp;exact (List.getElem?_eq_some_iff.1 hoj).1)
          rw [hoj] at h1
          simp only [e,Bool.or_eq_true,List.contains_iff_mem] at h1
          rcases h1 with h1|h1
          · simp at h1
          · have:=hi.down j hj i h1
            rw [hnl] at this;cases this)) (fun j d hdep=>by
          unfold ZJ at hdep
          simp only [Bool.and_eq_true] at hdep
          obtain ⟨⟨h1,h2⟩,h3⟩:=hdep
          have hjl:=haft j (by simpa using h2)
          cases hoj:ops[j]? with
          | none=>rw [hoj] at h1;cases h1
          | some oj=>
            rw [hoj] at h1
            simp only [Option.bind_some] at h1
            cases hd':oj.dst with
            | none=>rw [hd'] at h1;cases h1
            | some e=>
              rw [hd'] at h1
              have:=Nat.eq_of_beq_eq_true h1
              subst this
              exact hi.fact j oj e (blt h3) hjl hoj hd')
        have hdist:∀ (j:Nat) (oj:Oper),j<m→j≠i→ops[j]? = some oj→oj.dst≠none→oj.dst≠ops[i].dst:=fun j oj hj hji hoj hne=>hd.dist j i oj ops[i] hj him hji hoj ho hne
        have hno':∀ j,m≤j→(listed.setIfInBounds i true)[j]?≠some true:=fun j hj=>by
          rw [Array.getElem?_setIfInBounds,if_neg (by omega)];exact hno j hj
        refine wpOpIn_F (K:=fun F2 w2=>DInv ops m Ts F w (listed.setIfInBounds i true) F2 w2) hok ho (fun F2 w2 hK=>ih _ F2 w2 (by simpa using hsz) (by have:=KY hil hsz hnl;omega) hno' hK) (fun hw=>.inl ?_) (fun hw=>?_)
        · have h1:=hsp'.1 hw
          unfold DD at h1 ⊢
          generalize (execOp (CP F1) ⟨none,ops[i].op,ops[i].type,"",#[],none⟩).run P w1=r at h1 ⊢
          have use:∀ v w2,Keep [] w1 w2∧Ts[i] v w2→DInv ops m Ts F w (listed.setIfInBounds i true) (GY F1 ops[i].dst v) w2:=fun v w2 ⟨hk,hv⟩=>hi.step hst hsz hil ho haft hdist hk (fun _ _ _=>by rw [hTi];exact hv)
          cases r with
          | ok x w'=>
            cases x <;> simp only [HA] at h1 ⊢ <;> try exact h1.elim
            case value v=>exact use _ _ h1
            case skip=>exact use _ _ h1
            case enter f args=>
              exact Calls.mono h1 fun e w'' he=>by
                cases e with
                | returned v=>exact use _ _ he
                | panicked c=>exact he.elim
                | outgrown=>exact he.elim
          | halt x w'=>cases x <;> simp only [HA] at h1 ⊢ <;> exact h1.elim
        · have h1:=hsp'.2 hw
          exact hi.step hst hsz hil ho haft hdist (Keep.refl _ _) (fun _ _ _=>by rw [hTi];exact h1)
theorem cw_drawY0 {id:Nat} {ops:List Oper} {F:Fr} {w:World} (m:Nat) (Ts:List Pr) (hm:P.follows .mixedOrders=true) (hok:ops.all (RC n ops)=true) (hd:TP ops m=true) (hlen:(Nat.beq Ts.length m && Nat.ble m ops.length)=true) (hst:∀ T∈Ts,∀ v w w',T v w→Keep [] w w'→T v w')
    (hs:RH P ops m Ts F w.drew 0 (ops.take m) Ts)
    (fin:∀ F1 w1,Keep [] w w1→(∀ i d,depAt' ops i d=true→i<m→TU Ts i (F1 d) w1)→(∀ t,UX ops m t=true→F1 t=F t)→WL true P ops Q (ops.drop m) F1 w1):CW P (ro:=ro) n (.region id ops.toArray true) Q F w:=by
  simp only [Bool.and_eq_true] at hlen
  have hle:m≤ops.length:=Nat.le_of_ble_eq_true hlen.2
  have hdr:({ w with drawn:=w.drawn+1 }:World)=w.drew:=rfl
  refine wpIn_region_any hm ?_
  rw [hdr,List.size_toArray]
  refine draw_runY (DOk.of hd) hok (fun i v w w' h hk=>?_) hle (Nat.eq_of_beq_eq_true hlen.1) hs (fun F1 w1 hk h1 h2=>fin F1 w1 ((Keep.drew [] w).trans hk) (fun i d hdp him=>?_) (fun t ht=>h2 t (fun j o hj ho e=>?_))) ops.length _ F w.drew (by simp) ?_ (fun j _=>?_) ⟨Keep.refl _ _,fun i hi=>?_,fun i o d _ hi=>?_,fun _ _=>rfl⟩
  · unfold TU at h ⊢
    cases hT:Ts[i]? with
    | none=>rw [hT] at h;exact trivial
    | some T=>rw [hT] at h;exact hst T (List.mem_of_getElem? hT) v w w' h hk
  · unfold depAt' at hdp
    cases ho:ops[i]? with
    | none=>rw [ho] at hdp;cases hdp
    | some o=>
      rw [ho] at hdp
      simp only [Option.bind_some] at hdp
      cases hd':o.dst with
      | none=>rw [hd'] at hdp;cases hdp
      | some e=>
        rw [hd'] at hdp
        have:=Nat.eq_of_beq_eq_true hdp
        subst this
        exact h1 i o e him ho hd'
  · unfold UX at ht
    have h3:=List.all_eq_true.1 ht o (List.mem_of_getElem? (by rw [List.getElem?_take,if_pos hj];exact ho))
    rw [e] at h3;simp at h3
  · unfold PD;exact Nat.le_trans (List.countP_le_length) (by simp)
  all_goals simp_all [Array.getElem?_replicate]
theorem cw_drawY {id:Nat} {ops:List Oper} {F:Fr} {w:World} (m:Nat) (pre tl:List Oper) (Ts:List Pr) (hm:P.follows .mixedOrders=true) (hok:ops.all (RC n ops)=true) (hd:TP ops m=true) (hlen:(Nat.beq Ts.length m && Nat.ble m ops.length)=true) (hpre:ops.take m=pre) (htl:ops.drop m=tl) (hst:Stab Ts)
    (hs:RH P ops m Ts F w.drew 0 pre Ts)
    (fin:∀ F1 w1,Keep [] w w1→(∀ i d,depAt' ops i d=true→i<m→TU Ts i (F1 d) w1)→(∀ t,UX ops m t=true→F1 t=F t)→WL true P ops Q tl F1 w1):CW P (ro:=ro) n (.region id ops.toArray true) Q F w:=by
  subst hpre;subst htl
  exact cw_drawY0 m Ts hm hok hd hlen hst.of hs fin
end
section
variable {P:Program} {ty:TypeId} {F:Fr} {w:World} {K:Value→World→Prop} {Z:List PanicEntry→World→Prop} {x y:Operand}
end
end Go.Fw
namespace Go.Proofs.Ytjgfokolnkhafaa
open Go.Fw Go.RowKit
set_option maxHeartbeats 4000000 in
set_option maxRecDepth 100000 in
theorem c_cloneB {O:List Nat} (l_v:Value) (l:List UInt8) (w:World) (a0:BL Enc.u8 w O l_v l) (hpre0:l.length≤1000000) (hO:∀ b∈O,b<w.heap.size):CM Try.prog 98 [l_v] w (fun v w'=>∃ (x0:Value),v=x0∧(∀ b,x0.ownBlock=some b→w.heap.size≤b)∧DX Enc.u8 5 w.heap.size (x0.ownBlock.toList++(O)) w' x0 (l)):= by
 have c2:=a0.len_le
 have a0:BL Enc.u8 w ([]++O) l_v l:=a0
 have s0:St w O w []:=St.start hO
 refine BP 8 Try.func98 rfl rfl oT (fun F0=>AF (AB kR (AA (AE (nS) rfl (AG (AC (AF (AF (AB kR (AA (AD (l_v) rfl (AA (KU U23_ rfl rfl a0 fun a1 a9=>(AG (AC (AJ (a1) rfl rfl (fun a2=>?_) (fun a2=>?_)))))))))))))))))
 ·have b8:a1=true:=by simpa using a2
  refine AF (AB kR (AA (AE (nS) rfl (AG (AC (AM (AP (AZ rfl (CN rfl rfl rfl) (?_)))))))))
  have a3:l=[]:=a9 aS
  have b9:BL Enc.u8 w ([]++O) (.slice none 0 0) (l):=by rw [a3];exact BL.nil _ _ _
  exact ⟨_,rfl,s0.keep,⟨.slice none 0 0,rfl,(fun b hb=>by simp [Value.ownBlock] at hb),(by rw [a3];exact DX.nil _ _ _ _ _)⟩⟩
 have c0:a1=false:=by simpa using a2
 refine AT (AC (AF (AB kR (AA (IA (E:=Enc.u8) (xs:=[]) U23_ JD z_5 (by decide) [] [] [] rfl rfl rfl (Parts.nil _ _ _) oT s0 fun b2 b3 c3 b4 a4 b5 b6 c4 b0=>(?_))))))
 have b1:∀ b,b2.ownBlock=some b→b∈(b3 :: []):=fun b hb=>by rw [a4] at hb;cases hb;simp
 clear b4 a4
 have a0:=a0.mv b6
 refine AA (AD (l_v) rfl (AA (DI (E:=Enc.u8) (l:=[]) (m:=l) U23_ i_5 rfl (by decide) rfl rfl b0 a0 (fun _ hb=>.inl hb) b1 (by simp;omega) (by simp [maxLen];omega) b5 fun a7 c5 c6 a5 c1 b7 a8 c7 c8 a6=>(?_))))
 rw [List.nil_append] at a6
 refine AA (AE (a7) rfl (AG (AC (AM (AZ rfl (CN rfl rfl rfl) (?_))))))
 exact ⟨_,rfl,a8.keep,⟨a7,rfl,(fun b hb=>(a8.new b (a5 b hb)).1),(a6.sub (fun x hx=>.inl ((List.mem_append.1 hx).elim (fun h=>List.mem_append_left _ (a5 x (by simpa using h))) (fun h=>List.mem_append_right _ h))))⟩⟩
set_option maxHeartbeats 4000000 in
set_option maxRecDepth 100000 in
theorem c_xor {O:List Nat} (x_v:Value) (x:List UInt8) (y_v:Value) (y:List UInt8) (w:World) (a7:BL Enc.u8 w O x_v x) (a1:BL Enc.u8 w O y_v y) (hpre0:x.length≤1000000) (hpre1:x.length≤y.length) (hO:∀ b∈O,b<w.heap.size):CM Try.prog 54 [x_v,y_v] w (fun v w'=>∃ (x0:Value),v=x0∧BL Enc.u8 w' (O) x0 (xorM x y)):= by
 have d0:=a7.len_le
 have a7:BL Enc.u8 w ([]++O) x_v x:=a7
 have d1:=a1.len_le
 have a1:BL Enc.u8 w ([]++O) y_v y:=a1
 have s0:St w O w []:=St.start hO
 refine BP 26 Try.func54 rfl rfl oT (fun F0=>AF (AB kR (AA (AE (nS) rfl (AG (AC (AF (AB kR (AA (AD (x_v) rfl (AA (BF (vs:=[x_v]) enter_98 (c_cloneB (O:=[]++O) x_v x w a7 oM s0.lt) rfl s0 fun a4 d2 d3 d4 b7 b8=>(?_)))))))))))))
 obtain ⟨_,rfl,b0,a2⟩:=b8
 obtain ⟨b9,b1,c6,c0,c1,a2⟩:=own_take s0 b7 b0 a2
 have a1:=a1.mv c1
 refine AA (AE (a4) rfl (AG (AC (AF (AF (AB kR (AA (AD (a4) rfl (AA (NJ U23_ rfl a2 (AA (AD (vI 0) rfl (AG (AC (BQ (DU (fun mI FI wI=>∃ (k:Nat) (a0:Value) (B:List Nat),k≤x.length∧mI=x.length - k∧(∃ F1,FI=GN F1 [(1,y_v),(5,a0),(10,vI (x.length:Int)),(11,vI ((k:Nat):Int)),(26,undef)])∧St w O wI B∧DX Enc.u8 5 w.heap.size (B++O) wI a0 (NN x y k)∧(∀ b,a0.ownBlock=some b→b∈B)∧BL Enc.u8 wI (B++O) (y_v) (y)) (x.length - (0)) ?_ ?_))))))))))))))))
 ·exact ⟨(0),a4,b9,oM,rfl,⟨_,BD _ ⟨rfl,rfl,rfl,(by rfl),rfl,trivial⟩⟩,c0,(by rw [show NN x y (0)=x from xorP_zero _ _];exact a2),b1,a1⟩
 intro e0 F c7 hI
 clear a1
 obtain ⟨k,a0,b2,hr0_0,e1,⟨e2,rfl⟩,b3,ho0_5,a8,a1⟩:=hI
 refine AF (AB kR (AA (EB .i64 ((k:Nat):Int) (x.length:Int) rfl rfl (AG (AC (AF (AJ (decide (((k:Nat):Int)<(x.length:Int))) rfl rfl (fun a3=>?_) (fun a3=>?_))))))))
 ·have c8:((k:Nat):Int)<(x.length:Int):=by simpa using a3
  refine AT (AC (AF (BQ (AF (AB kR (AA (AD (vI ((k:Nat):Int)) rfl (AA (AE (vI ((k:Nat):Int)) rfl (AG (AC (DP 10 _ _ kR kR kR kR kR rfl rfl fun c2 a5=>?_))))))))))))
  have c3:=b3.call a5
  have a9:Mv b2 c7 b2 c2:=Mv.of_keep a5
  have a1:=a1.mv a9
  have ho0_5:=ho0_5.mv a9 a5 (by simp)
  refine BG (AD (a0) rfl (BG (AD (vI ((k:Nat):Int)) rfl (BG (EW U23_ JD .i64 ((k:Nat):Int) k rfl rfl rfl ho0_5 (by have:=HO x y k;omega) fun d5 b4=>(BG (NX U5_ rfl rfl ho0_5 b4 (by have:=HO x y k;omega) (BG (AD (y_v) rfl (BG (AD (vI ((k:Nat):Int)) rfl (BG (DO U23_ JD .i64 ((k:Nat):Int) k rfl rfl rfl a1 (by have:=HO x y k;omega) fun d6 b5=>(BG (HW U5_ rfl rfl b5 (BG (PR ((NN x y k)[k]!) (y[k]!) rfl rfl (BG (EW U23_ JD .i64 ((k:Nat):Int) k rfl rfl rfl ho0_5 (by have:=HO x y k;omega) fun d7 a6=>(EQ (BZ (JZ (((NN x y k)[k]!) ^^^ (y[k]!)) JD rfl rfl rfl ho0_5 a6 (a8 _ a6) (by have:=HO x y k;omega) rfl c3 fun d8 c4 c5 d9 b6=>(?_)))))))))))))))))))))))
  have a1:=a1.mv c5
  refine AG (CB (AC (AB kR (AA (DR .i64 ((k:Nat):Int) (1:Int) (((k+1:Nat):Int)) rfl rfl (GZ oM oM) (AA (AD (vI ((k+1:Nat):Int)) rfl (AG (AC (?_))))))))))
  exact ⟨_,oM,(k+1),a0,b2,oM,rfl,⟨_,BD _ ⟨rfl,rfl,rfl,(by rfl),rfl,trivial⟩⟩,c4,(by rw [show NN x y (k+1)=(NN x y k).set k (((NN x y k)[k]!) ^^^ (y[k]!)) from (xorP_set oM).symm];exact b6),a8,a1⟩
 have c9:(x.length:Int)≤((k:Nat):Int):=by simpa using a3
 obtain rfl:k=x.length:=by omega
 refine DW (CL (CL (DK (AC (AF (AB kR (AA (AD (a0) rfl (AA (AE (a0) rfl (AG (AC (AM (AZ rfl (CN rfl rfl rfl) (?_)))))))))))))))
 have e:(xorM x y)=(NN x y x.length):=by exact (xorP_all _ _).symm
 exact ⟨_,rfl,b3.keep,by rw [e];exact ⟨a0,rfl,ho0_5.pub b3⟩⟩
set_option maxHeartbeats 4000000 in
set_option maxRecDepth 100000 in
theorem c_pairs11 {O:List Nat} (x_cs:List Value) (x:Share) (s_a:Addr) (s:Share) (w:World) (a1:Enc.share.rd w O x_cs x) (a0:PT Enc.share w O (.pointer (some s_a)) s) (hO:∀ b∈O,b<w.heap.size):CM Try.prog 97 [.agg x_cs.toArray, .pointer (some s_a)] w (fun v _=>v = .bool (x.index == s.index)):= by
 have a1:Enc.share.rd w ([]++O) x_cs x:=a1
 have a0:PT Enc.share w ([]++O) (.pointer (some s_a)) s:=a0
 have s0:St w O w []:=St.start hO
 refine BP 9 Try.func97 rfl rfl oT (fun F0=>AF (AB kR (AA (EC (E:=Enc.share) (vA x_cs.toArray) (x_cs) x rfl rfl a1 s0 fun a7 a8 a5 a6 a9 a2=>(?_)))))
 have a0:=a0.mv a6
 refine AA (AE (vO false) rfl (AG (AC (AF (AB kR (AA (BO 1 QF (x.index) rfl a2 (fun _ _ _ h=>KE h) fun b0 a3=>(AA (CG U3_ rfl rfl a3 (AA (BO 1 QF (s.index) rfl a0 (fun _ _ _ h=>KE h) fun b1 a4=>(AA (CG U3_ rfl rfl a4 (AA (EZ .i64 x.index s.index rfl rfl (AA (AE (vO (x.index == s.index)) rfl (AG (AC (AM (AZ rfl (CN rfl rfl rfl) (?_))))))))))))))))))))))
 exact ⟨_,rfl,a5.keep,rfl⟩
set_option maxHeartbeats 4000000 in
set_option maxRecDepth 100000 in
theorem c_pairs {O:List Nat} (l_v:Value) (l:List Share) (others_v:Value) (others:List Share) (w:World) (a2:BL Enc.share w O l_v l) (a0:BL Enc.share w O others_v others) (hO:∀ b∈O,b<w.heap.size):CM Try.prog 53 [l_v,others_v] w (fun v w'=>∃ (a0_0:Addr) (a0_1:Addr),v = .func (.func 95) #[] #[.pointer (some a0_0), .pointer (some a0_1)]∧PT (Enc.slice Enc.share) w' (O) (.pointer (some a0_0)) (l)∧PT (Enc.slice Enc.share) w' (O) (.pointer (some a0_1)) (others)):= by
 have b1:=a2.len_le
 have a2:BL Enc.share w ([]++O) l_v l:=a2
 have a6:=a0.len_le
 have a0:BL Enc.share w ([]++O) others_v others:=a0
 have s0:St w O w []:=St.start hO
 refine BP 6 Try.func53 rfl rfl oT (fun F0=>AF (AB kR (AA (EC (E:=(Enc.slice Enc.share)) (l_v) ([l_v]) l rfl (FB a2.oneCell) ⟨_,rfl,a2⟩ s0 fun a3 b2 a7 a8 b3 a1=>(?_)))))
 have a0:=a0.mv a8
 refine AA (EC (E:=(Enc.slice Enc.share)) (others_v) ([others_v]) others rfl (FB a0.oneCell) ⟨_,rfl,a0⟩ a7 fun a4 b4 a9 b0 b5 a5=>(?_))
 have a1:=a1.mv b0
 refine AA (AE (Value.nilFunc) rfl (AG (AC (AF (AB kR (AA (DF (first:=[]) (captured:=[.tmp 2, .tmp 3]) [] [vP (some a3),vP (some a4)] rfl rfl (AA (AE (vN (.func 95) #[] #[vP (some a3),vP (some a4)]) rfl (AG (AC (AM (AZ rfl (CN rfl rfl rfl) (?_))))))))))))))
 exact ⟨_,rfl,a9.keep,⟨_,_,rfl,(a1.sub (fun b hb=>.inl (List.mem_append_right _ hb))),(a5.sub (fun b hb=>.inl (List.mem_append_right _ hb)))⟩⟩
end Go.Proofs.Ytjgfokolnkhafaa
