/- What the laws of this part rest on: lemmas, and the walks of the functions. No conditions. -/
import Derived.WalkKit
import Derived.WalkSpells
import Derived.WalkLawsBesides
import Derived.RangeFuncLeaves
import Derived.Maps.AppendAt
import Derived.Deep.AppendLies
import Derived.Deep.Slices
import Derived.OpenShut
import Derived.ProofKit
import Derived.Below
import Derived.ChangeSame
import Derived.Carry
import Derived.RangeFuncRecord
import Derived.Laws.Tables
import Derived.Recover
import Derived.DefersIn
import Derived.Lib.AppendZerosOnto
import Derived.Lib.Overlaps
import Derived.Laws.CopyRow
import Derived.Laws.StructEq
import Derived.ChangeKeysEq
import Derived.OrdersIn
import Derived.Test.YtjpniibleelgiaaRows
import Derived.Test.YtjpniibleelgiaaPT14
set_option linter.unusedSimpArgs false
set_option linter.unusedVariables false
namespace Go.Proofs.Ytjpniibleelgiaa
open Go.Fw Go.RowKit
set_option maxHeartbeats 40000000 in
set_option maxRecDepth 100000 in
theorem c_saneT {O:List Nat} (w:World) (hO:∀ b∈O,b<w.heap.size):CF Try.prog 19 [] w (fun v _=>v = .bool (true)):= by
 have s0:St w O w []:=St.start hO
 have hdl9:AA.length=9:=rfl
 refine BS 68 Try.func19 rfl rfl oT (fun F0=>AG (AD kR (AC (AH (vO false) rfl (AE (AB (AG (AD kR (AC (CV (l:=[]) pl_31 HO rfl [] [vI 0,vI 0,nS,vO false] rfl rfl (AC (CV (l:=[(0, .const (vI 1))]) pl_31 HO rfl [(0,vI 1,[vI 1])] [vI 1,vI 0,nS,vO false] rfl ⟨_,rfl,rfl,oT,rfl⟩ (AC (PO (E:=Enc.device) (xs:=[.tmp 4, .tmp 5]) U24_ BG HO (by decide) [.agg #[vI 0,vI 0,nS,vO false], .agg #[vI 1,vI 0,nS,vO false]] [[vI 0,vI 0,nS,vO false],[vI 1,vI 0,nS,vO false]] [(⟨(0:Int),(0:Int),[],false⟩:Device),(⟨(1:Int),(0:Int),[],false⟩:Device)] rfl rfl rfl (Parts.cons rfl ⟨.slice none 0 0,rfl,(CI.nil _ _ _)⟩ (Parts.cons rfl ⟨.slice none 0 0,rfl,(CI.nil _ _ _)⟩ (Parts.nil _ _ _))) oT s0 fun k9 C3 jf eR U1 eS jg jh g3=>(?_)))))))))))))))
 have D8:∀ b,k9.ownBlock=some b→b∈(C3 :: []):=fun b hb=>by rw [U1] at hb;cases hb;simp
 clear eR U1
 refine AC (o_make (E:=Enc.val) U25_ i_58 [nS] rfl rfl (by decide) (.slice none 0 0) (fun _ _=>⟨rfl,rfl⟩) .i64 .i64 (2:Int) (2:Int) 2 2 rfl rfl rfl rfl oM oM (by simp only [maxLen];omega) eS fun n6 F2 ji eT M9 eU eV eW j1=>(?_))
 have N0:∀ b,k9.ownBlock=some b→n6.ownBlock≠some b:=fun b hb=>by have:=(g3.lt b hb).2;rw [M9];intro e;cases e;omega
 have ne8832':∀ b,n6.ownBlock=some b→k9.ownBlock≠some b:=fun b hb e=>N0 b e hb
 have N1:∀ b,n6.ownBlock=some b→b∈(F2 :: (C3 :: [])):=fun b hb=>by rw [M9] at hb;cases hb;simp
 clear eT M9
 have D8:∀ b,k9.ownBlock=some b→b∈(F2 :: (C3 :: [])):=fun b hb=>List.mem_cons_of_mem _ (D8 b hb)
 have g3:=g3.mv eV eW (by simp)
 refine AC (CV (l:=[(0, .tmp 6),(1, .tmp 7)]) pl_29 z_29 rfl [(0,k9,[k9]),(1,n6,[n6])] [k9,n6,nS,nS] rfl ⟨_,rfl,(HG g3.oneCell),oT,⟨_,rfl,(HG j1.oneCell),oT,rfl⟩⟩ (AC (CC [nS,nS,nS,nS] z_29 rfl eU fun c7 jj eX eY aB aC bq=>(?_))))
 have U2:∀ b,k9.ownBlock=some b→b≠c7:=fun b hb=>by have:=(g3.lt b hb).2;omega
 have U3:∀ b,n6.ownBlock=some b→b≠c7:=fun b hb=>by have:=(j1.lt b hb).2;omega
 have D8:∀ b,k9.ownBlock=some b→b∈(c7 :: (F2 :: (C3 :: []))):=fun b hb=>List.mem_cons_of_mem _ (D8 b hb)
 have N1:∀ b,n6.ownBlock=some b→b∈(c7 :: (F2 :: (C3 :: []))):=fun b hb=>List.mem_cons_of_mem _ (N1 b hb)
 clear eX
 have g3:=g3.mv aB aC (by simp)
 have j1:=j1.mv aB aC (by simp)
 refine BK (AU (vs:=[k9,n6,nS,nS]) (.agg #[k9,n6,nS,nS]) rfl rfl rfl CL (fun u hu=>by simp only [List.mem_cons,List.not_mem_nil,or_false] at hu;rcases hu with rfl|rfl|rfl|rfl <;> first|rfl|exact g3.oneCell|exact j1.oneCell) (by repeat (constructor)) bq oT eY fun jk eZ aD aE N2=>(?_))
 have g3:=g3.mv aD aE (fun b hb=>AJ (U2 b hb))
 have j1:=j1.mv aD aE (fun b hb=>AJ (U3 b hb))
 refine AE (AB (AG (AG (AD kR (AC (CV (l:=[(0, .const (vB (3:UInt8)))]) MQ OR rfl [(0,vB (3:UInt8),[vB (3:UInt8)])] [vB (3:UInt8),vB (0:UInt8),vB (0:UInt8),vB (0:UInt8),vB (0:UInt8),vB (0:UInt8)] rfl ⟨_,rfl,rfl,oT,rfl⟩ (AC (CV (l:=[(0, .const (vB (1:UInt8))),(2, .const (vB (1:UInt8))),(3, .const (vB (2:UInt8))),(4, .const (vB (2:UInt8)))]) MQ OR rfl [(0,vB (1:UInt8),[vB (1:UInt8)]),(2,vB (1:UInt8),[vB (1:UInt8)]),(3,vB (2:UInt8),[vB (2:UInt8)]),(4,vB (2:UInt8),[vB (2:UInt8)])] [vB (1:UInt8),vB (0:UInt8),vB (1:UInt8),vB (2:UInt8),vB (2:UInt8),vB (0:UInt8)] rfl ⟨_,rfl,rfl,oT,⟨_,rfl,rfl,oT,⟨_,rfl,rfl,oT,⟨_,rfl,rfl,oT,rfl⟩⟩⟩⟩ (AC (CV (l:=[(0, .const (vB (0:UInt8))),(3, .const (vB (2:UInt8))),(4, .const (vB (2:UInt8)))]) MQ OR rfl [(0,vB (0:UInt8),[vB (0:UInt8)]),(3,vB (2:UInt8),[vB (2:UInt8)]),(4,vB (2:UInt8),[vB (2:UInt8)])] [vB (0:UInt8),vB (0:UInt8),vB (0:UInt8),vB (2:UInt8),vB (2:UInt8),vB (0:UInt8)] rfl ⟨_,rfl,rfl,oT,⟨_,rfl,rfl,oT,⟨_,rfl,rfl,oT,rfl⟩⟩⟩ (AC (CV (l:=[(0, .const (vB (0:UInt8))),(1, .const (vB (1:UInt8))),(3, .const (vB (2:UInt8))),(4, .const (vB (2:UInt8)))]) MQ OR rfl [(0,vB (0:UInt8),[vB (0:UInt8)]),(1,vB (1:UInt8),[vB (1:UInt8)]),(3,vB (2:UInt8),[vB (2:UInt8)]),(4,vB (2:UInt8),[vB (2:UInt8)])] [vB (0:UInt8),vB (1:UInt8),vB (0:UInt8),vB (2:UInt8),vB (2:UInt8),vB (0:UInt8)] rfl ⟨_,rfl,rfl,oT,⟨_,rfl,rfl,oT,⟨_,rfl,rfl,oT,⟨_,rfl,rfl,oT,rfl⟩⟩⟩⟩ (AC (CV (l:=[(0, .const (vB (2:UInt8))),(1, .const (vB (1:UInt8)))]) MQ OR rfl [(0,vB (2:UInt8),[vB (2:UInt8)]),(1,vB (1:UInt8),[vB (1:UInt8)])] [vB (2:UInt8),vB (1:UInt8),vB (0:UInt8),vB (0:UInt8),vB (0:UInt8),vB (0:UInt8)] rfl ⟨_,rfl,rfl,oT,⟨_,rfl,rfl,oT,rfl⟩⟩ (AC (CV (l:=[(0, .const (vB (0:UInt8))),(1, .const (vB (1:UInt8))),(3, .const (vB (2:UInt8))),(4, .const (vB (2:UInt8)))]) MQ OR rfl [(0,vB (0:UInt8),[vB (0:UInt8)]),(1,vB (1:UInt8),[vB (1:UInt8)]),(3,vB (2:UInt8),[vB (2:UInt8)]),(4,vB (2:UInt8),[vB (2:UInt8)])] [vB (0:UInt8),vB (1:UInt8),vB (0:UInt8),vB (2:UInt8),vB (2:UInt8),vB (0:UInt8)] rfl ⟨_,rfl,rfl,oT,⟨_,rfl,rfl,oT,⟨_,rfl,rfl,oT,⟨_,rfl,rfl,oT,rfl⟩⟩⟩⟩ (AC (CV (l:=[(0, .const (vB (4:UInt8)))]) MQ OR rfl [(0,vB (4:UInt8),[vB (4:UInt8)])] [vB (4:UInt8),vB (0:UInt8),vB (0:UInt8),vB (0:UInt8),vB (0:UInt8),vB (0:UInt8)] rfl ⟨_,rfl,rfl,oT,rfl⟩ (AC (CV (l:=[(0, .const (vB (0:UInt8))),(3, .const (vB (2:UInt8))),(4, .const (vB (2:UInt8)))]) MQ OR rfl [(0,vB (0:UInt8),[vB (0:UInt8)]),(3,vB (2:UInt8),[vB (2:UInt8)]),(4,vB (2:UInt8),[vB (2:UInt8)])] [vB (0:UInt8),vB (0:UInt8),vB (0:UInt8),vB (2:UInt8),vB (2:UInt8),vB (0:UInt8)] rfl ⟨_,rfl,rfl,oT,⟨_,rfl,rfl,oT,⟨_,rfl,rfl,oT,rfl⟩⟩⟩ (AC (CV (l:=[(0, .const (vB (5:UInt8)))]) MQ OR rfl [(0,vB (5:UInt8),[vB (5:UInt8)])] [vB (5:UInt8),vB (0:UInt8),vB (0:UInt8),vB (0:UInt8),vB (0:UInt8),vB (0:UInt8)] rfl ⟨_,rfl,rfl,oT,rfl⟩ (AC (EY (E:=Enc.doing) (xs:=[.tmp 9, .tmp 10, .tmp 11, .tmp 12, .tmp 13, .tmp 14, .tmp 15, .tmp 16, .tmp 17]) U22_ s_37 OR (by decide) [.agg #[vB (3:UInt8),vB (0:UInt8),vB (0:UInt8),vB (0:UInt8),vB (0:UInt8),vB (0:UInt8)], .agg #[vB (1:UInt8),vB (0:UInt8),vB (1:UInt8),vB (2:UInt8),vB (2:UInt8),vB (0:UInt8)], .agg #[vB (0:UInt8),vB (0:UInt8),vB (0:UInt8),vB (2:UInt8),vB (2:UInt8),vB (0:UInt8)], .agg #[vB (0:UInt8),vB (1:UInt8),vB (0:UInt8),vB (2:UInt8),vB (2:UInt8),vB (0:UInt8)], .agg #[vB (2:UInt8),vB (1:UInt8),vB (0:UInt8),vB (0:UInt8),vB (0:UInt8),vB (0:UInt8)], .agg #[vB (0:UInt8),vB (1:UInt8),vB (0:UInt8),vB (2:UInt8),vB (2:UInt8),vB (0:UInt8)], .agg #[vB (4:UInt8),vB (0:UInt8),vB (0:UInt8),vB (0:UInt8),vB (0:UInt8),vB (0:UInt8)], .agg #[vB (0:UInt8),vB (0:UInt8),vB (0:UInt8),vB (2:UInt8),vB (2:UInt8),vB (0:UInt8)], .agg #[vB (5:UInt8),vB (0:UInt8),vB (0:UInt8),vB (0:UInt8),vB (0:UInt8),vB (0:UInt8)]] [[vB (3:UInt8),vB (0:UInt8),vB (0:UInt8),vB (0:UInt8),vB (0:UInt8),vB (0:UInt8)],[vB (1:UInt8),vB (0:UInt8),vB (1:UInt8),vB (2:UInt8),vB (2:UInt8),vB (0:UInt8)],[vB (0:UInt8),vB (0:UInt8),vB (0:UInt8),vB (2:UInt8),vB (2:UInt8),vB (0:UInt8)],[vB (0:UInt8),vB (1:UInt8),vB (0:UInt8),vB (2:UInt8),vB (2:UInt8),vB (0:UInt8)],[vB (2:UInt8),vB (1:UInt8),vB (0:UInt8),vB (0:UInt8),vB (0:UInt8),vB (0:UInt8)],[vB (0:UInt8),vB (1:UInt8),vB (0:UInt8),vB (2:UInt8),vB (2:UInt8),vB (0:UInt8)],[vB (4:UInt8),vB (0:UInt8),vB (0:UInt8),vB (0:UInt8),vB (0:UInt8),vB (0:UInt8)],[vB (0:UInt8),vB (0:UInt8),vB (0:UInt8),vB (2:UInt8),vB (2:UInt8),vB (0:UInt8)],[vB (5:UInt8),vB (0:UInt8),vB (0:UInt8),vB (0:UInt8),vB (0:UInt8),vB (0:UInt8)]] [(⟨(3:UInt8),(0:UInt8),(0:UInt8),(0:UInt8),(0:UInt8),(0:UInt8)⟩:Doing),(⟨(1:UInt8),(0:UInt8),(1:UInt8),(2:UInt8),(2:UInt8),(0:UInt8)⟩:Doing),(⟨(0:UInt8),(0:UInt8),(0:UInt8),(2:UInt8),(2:UInt8),(0:UInt8)⟩:Doing),(⟨(0:UInt8),(1:UInt8),(0:UInt8),(2:UInt8),(2:UInt8),(0:UInt8)⟩:Doing),(⟨(2:UInt8),(1:UInt8),(0:UInt8),(0:UInt8),(0:UInt8),(0:UInt8)⟩:Doing),(⟨(0:UInt8),(1:UInt8),(0:UInt8),(2:UInt8),(2:UInt8),(0:UInt8)⟩:Doing),(⟨(4:UInt8),(0:UInt8),(0:UInt8),(0:UInt8),(0:UInt8),(0:UInt8)⟩:Doing),(⟨(0:UInt8),(0:UInt8),(0:UInt8),(2:UInt8),(2:UInt8),(0:UInt8)⟩:Doing),(⟨(5:UInt8),(0:UInt8),(0:UInt8),(0:UInt8),(0:UInt8),(0:UInt8)⟩:Doing)] rfl rfl rfl (Parts.cons rfl rfl (Parts.cons rfl rfl (Parts.cons rfl rfl (Parts.cons rfl rfl (Parts.cons rfl rfl (Parts.cons rfl rfl (Parts.cons rfl rfl (Parts.cons rfl rfl (Parts.cons rfl rfl (Parts.nil _ _ _)))))))))) oT eZ fun M4 fa fb aF T3 a4=>(?_)))))))))))))))))))))))))
 have g3:=g3.mv aF T3 (by simp)
 have j1:=j1.mv aF T3 (by simp)
 have N2:=N2.keep T3 (by simp)
 have a4:CI Enc.doing fa ((c7 :: (F2 :: (C3 :: [])))++O) M4 AA:=a4
 have:=a4.len_le
 refine AC (DS U22_ rfl a4 (AC (AF (vI 0) rfl (AE (AB (BN (ED (fun mI FI wI=>∃ (k:Nat) (s:HouseR) (L:List Value) (b2:Value) (a1:Value) (a3:Value) (a2:Value) (B:List Nat),k≤9∧s=runT (IR 2) AA k∧Bk (Enc.slice Enc.devop) 26 w.heap.size O B wI L s.b∧mI=9 - k∧(∃ F1,FI=GM F1 [(1,vP (some ⟨c7,0,none⟩)),(18,M4),(19,vI (AA.length:Int)),(20,vI ((k:Nat):Int)),(68,undef)])∧St w O wI B∧DM Enc.device 31 w.heap.size (B++O) wI b2 (s.d)∧(∀ b,b2.ownBlock=some b→b∈B)∧DM Enc.val 58 w.heap.size (B++O) wI a1 (L)∧(∀ b,a1.ownBlock=some b→b∈B)∧DM Enc.devop 40 w.heap.size (B++O) wI a3 (s.done)∧(∀ b,a3.ownBlock=some b→b∈B)∧DM Enc.int 3 w.heap.size (B++O) wI a2 (s.shown)∧(∀ b,a2.ownBlock=some b→b∈B)∧CI Enc.doing wI (B++O) (M4) (AA)∧EN wI c7 29 [b2,a1,a3,a2]∧c7∈B∧(∀ b,b2.ownBlock=some b→b≠c7)∧(∀ b,a1.ownBlock=some b→b≠c7)∧(∀ b,a3.ownBlock=some b→b≠c7)∧(∀ b,a2.ownBlock=some b→b≠c7)∧(∀ b,b2.ownBlock=some b→a1.ownBlock≠some b)∧(∀ b,b2.ownBlock=some b→a3.ownBlock≠some b)∧(∀ b,b2.ownBlock=some b→a2.ownBlock≠some b)∧(∀ b,a1.ownBlock=some b→b2.ownBlock≠some b)∧(∀ b,a1.ownBlock=some b→a3.ownBlock≠some b)∧(∀ b,a1.ownBlock=some b→a2.ownBlock≠some b)∧(∀ b,a3.ownBlock=some b→b2.ownBlock≠some b)∧(∀ b,a3.ownBlock=some b→a1.ownBlock≠some b)∧(∀ b,a3.ownBlock=some b→a2.ownBlock≠some b)∧(∀ b,a2.ownBlock=some b→b2.ownBlock≠some b)∧(∀ b,a2.ownBlock=some b→a1.ownBlock≠some b)∧(∀ b,a2.ownBlock=some b→a3.ownBlock≠some b)) (9 - (0)) ?_ ?_)))))))
 ·exact ⟨(0),(IR 2),((List.replicate 2 (.slice none 0 0):List Value)),k9,n6,(.slice none 0 0),(.slice none 0 0),(c7 :: (F2 :: (C3 :: []))),oM,rfl,(Bk.reps 2),rfl,⟨_,AL _ ⟨rfl,rfl,rfl,(by rfl),rfl,trivial⟩⟩,fb,g3,D8,j1,N1,(DM.nil Enc.devop 40 _ _ _),(by intro b hb;simp [Value.ownBlock] at hb),(DM.nil Enc.int 3 _ _ _),(by intro b hb;simp [Value.ownBlock] at hb),a4,N2,(by (repeat (exact List.mem_cons_self))),U2,U3,(fun b hb=>by (simp [Value.ownBlock] at hb;done)),(fun b hb=>by (simp [Value.ownBlock] at hb;done)),N0,(fun b hb=>by (simp [Value.ownBlock];done)),(fun b hb=>by (simp [Value.ownBlock];done)),(fun b hb e=>N0 b e hb),(fun b hb=>by (simp [Value.ownBlock];done)),(fun b hb=>by (simp [Value.ownBlock];done)),(fun b hb=>by (simp [Value.ownBlock] at hb;done)),(fun b hb=>by (simp [Value.ownBlock] at hb;done)),(fun b hb=>by (simp [Value.ownBlock] at hb;done)),(fun b hb=>by (simp [Value.ownBlock] at hb;done)),(fun b hb=>by (simp [Value.ownBlock] at hb;done)),(fun b hb=>by (simp [Value.ownBlock] at hb;done))⟩
 intro mu F mw hI
 clear a4
 obtain ⟨k,s,L,b2,a1,a3,a2,m9,hr0_0,hr0_1,hr0_2,mx,⟨my,rfl⟩,hm,ho0_b8834_0,b7,ho0_b8834_1,b1,ho0_b8834_2,b4,ho0_b8834_3,b3,a4,a0,g2,nb0_b8834_0_b8834,nb0_b8834_1_b8834,nb0_b8834_2_b8834,nb0_b8834_3_b8834,nn0_b8834_0_b8834_1,nn0_b8834_0_b8834_2,nn0_b8834_0_b8834_3,nn0_b8834_1_b8834_0,nn0_b8834_1_b8834_2,nn0_b8834_1_b8834_3,nn0_b8834_2_b8834_0,nn0_b8834_2_b8834_1,nn0_b8834_2_b8834_3,nn0_b8834_3_b8834_0,nn0_b8834_3_b8834_1,nn0_b8834_3_b8834_2⟩:=hI
 have hT:=hr0_2
 have hI:InvT 2 k s:=by rw [hr0_1];exact runT_inv (OV oM oM) _ _
 have hLT:=hT.len
 have hld:=hI.ld
 have hlb:=hI.lb
 have hn2:=hI.n2
 have hn4:=hI.n4
 have hi1:AA[k]!.device.toNat % s.d.length<s.d.length:=Nat.mod_lt _ oM
 have hi2:AA[k]!.device.toNat % s.d.length<s.b.length:=by omega
 have hk1:AA[k]!.other.toNat % s.d.length<s.d.length:=Nat.mod_lt _ oM
 have hc0:0≤s.d[AA[k]!.device.toNat % s.d.length]!.counter∧s.d[AA[k]!.device.toNat % s.d.length]!.counter≤65536:=hI.c0 _ (hI.i_lt AA[k]!)
 have hol:s.d[AA[k]!.device.toNat % s.d.length]!.ops.length≤256:=(hI.ops _ (hI.i_lt AA[k]!)).2
 have hbl:s.b[AA[k]!.device.toNat % s.d.length]!.length≤k:=hI.bl _ (hI.i_lt AA[k]!)
 have hdl:=hI.dl
 have hsl:=sh_len hI
 have hcc:(AA[k]!.copy % 4).toNat<4:=mod6 AA[k]!
 refine AG (AD kR (AC (DR .i64 ((k:Nat):Int) (AA.length:Int) rfl rfl (AE (AB (AG (AK (decide (((k:Nat):Int)<(AA.length:Int))) rfl rfl (fun N3=>?_) (fun N3=>?_))))))))
 ·have hv:((k:Nat):Int)<(AA.length:Int):=by simpa using N3
  refine AT (AB (AG (BN (AG (AD kR (AC (BZ U22_ s_37 .i64 ((k:Nat):Int) k rfl rfl rfl a4 oM fun fc a8=>(AC (BT U37_ rfl s_37 rfl a8 fun br N4=>(AC (CC [vB (0:UInt8),vB (0:UInt8),vB (0:UInt8),vB (0:UInt8),vB (0:UInt8),vB (0:UInt8)] OR rfl hm fun b8 fd fe ff y0 F3 bs=>(?_))))))))))))
  have bt:DB c7 b8:=by show c7≠b8;have:=a0.lt;omega
  have bu:∀ b,b2.ownBlock=some b→b≠b8:=fun b hb=>by have:=(ho0_b8834_0.lt b hb).2;omega
  have f8:∀ b,a1.ownBlock=some b→b≠b8:=fun b hb=>by have:=(ho0_b8834_1.lt b hb).2;omega
  have f0:∀ b,a3.ownBlock=some b→b≠b8:=fun b hb=>by have:=(ho0_b8834_2.lt b hb).2;omega
  have f2:∀ b,a2.ownBlock=some b→b≠b8:=fun b hb=>by have:=(ho0_b8834_3.lt b hb).2;omega
  have b7:∀ b,b2.ownBlock=some b→b∈(b8 :: m9):=fun b hb=>List.mem_cons_of_mem _ (b7 b hb)
  have b1:∀ b,a1.ownBlock=some b→b∈(b8 :: m9):=fun b hb=>List.mem_cons_of_mem _ (b1 b hb)
  have b4:∀ b,a3.ownBlock=some b→b∈(b8 :: m9):=fun b hb=>List.mem_cons_of_mem _ (b4 b hb)
  have b3:∀ b,a2.ownBlock=some b→b∈(b8 :: m9):=fun b hb=>List.mem_cons_of_mem _ (b3 b hb)
  clear fe
  have a4:=a4.mv y0
  have a8:=a8.mv y0
  have N4:Enc.doing.rd fd ((b8 :: m9)++O) br (AA[k]!):=Enc.mv Enc.doing (x:=AA[k]!) N4 y0
  have ho0_b8834_0:=ho0_b8834_0.mv y0 F3 (by simp)
  have ho0_b8834_1:=ho0_b8834_1.mv y0 F3 (by simp)
  have ho0_b8834_2:=ho0_b8834_2.mv y0 F3 (by simp)
  have ho0_b8834_3:=ho0_b8834_3.mv y0 F3 (by simp)
  have a0:=a0.keep F3 (by simp)
  have hT:=by exact hT.mv0 y0 F3 (fun x hx=>by exact List.mem_cons_of_mem _ hx)
  obtain rfl:=N4
  refine BK (AU (vs:=[vB ((AA[k]!).kind),vB ((AA[k]!).device),vB ((AA[k]!).other),vB ((AA[k]!).copy),vB ((AA[k]!).crash),vB ((AA[k]!).at_)]) (.agg #[vB ((AA[k]!).kind),vB ((AA[k]!).device),vB ((AA[k]!).other),vB ((AA[k]!).copy),vB ((AA[k]!).crash),vB ((AA[k]!).at_)]) rfl rfl rfl s_37 (fun u hu=>by simp only [List.mem_cons,List.not_mem_nil,or_false] at hu;rcases hu with rfl|rfl|rfl|rfl|rfl|rfl <;> rfl) (by repeat (constructor)) bs oT ff fun jl fg C4 F4 a7=>(?_))
  have a4:=a4.mv C4
  have a8:=a8.mv C4
  have ho0_b8834_0:=ho0_b8834_0.mv C4 F4 (fun b hb=>AJ (bu b hb))
  have ho0_b8834_1:=ho0_b8834_1.mv C4 F4 (fun b hb=>AJ (f8 b hb))
  have ho0_b8834_2:=ho0_b8834_2.mv C4 F4 (fun b hb=>AJ (f0 b hb))
  have ho0_b8834_3:=ho0_b8834_3.mv C4 F4 (fun b hb=>AJ (f2 b hb))
  have a0:=a0.keep F4 (AJ bt)
  have hT:=by exact hT.mvB C4 F4 aS (by decide) (fun x hx=>by exact hx)
  refine AE (AB (AD kR (AC (AQ (vs:=[b2,a1,a3,a2]) U29_ rfl CL rfl a0 rfl (AC (AQ (vs:=[vB ((AA[k]!).kind),vB ((AA[k]!).device),vB ((AA[k]!).other),vB ((AA[k]!).copy),vB ((AA[k]!).crash),vB ((AA[k]!).at_)]) U37_ rfl s_37 rfl a7 rfl (AC (LO [vA #[b2,a1,a3,a2],vA #[vB ((AA[k]!).kind),vB ((AA[k]!).device),vB ((AA[k]!).other),vB ((AA[k]!).copy),vB ((AA[k]!).crash),vB ((AA[k]!).at_)]] _ enter_21 rfl (EJ 240 Try.func21 rfl rfl oT (fun jm=>AG (AD kR (AC (o_box (vA #[b2,a1,a3,a2]) [b2,a1,a3,a2] rfl rfl fg fun c5 jn fh fi C5 C6 f9=>(?_)))))) (fun _ _ h=>h)))))))))
  have w0:DB c7 c5:=by show c7≠c5;have:=a0.lt;omega
  have w1:DB b8 c5:=by show b8≠c5;have:=a7.lt;omega
  have N5:∀ b,b2.ownBlock=some b→b≠c5:=fun b hb=>by have:=(ho0_b8834_0.lt b hb).2;omega
  have e4:∀ b,a1.ownBlock=some b→b≠c5:=fun b hb=>by have:=(ho0_b8834_1.lt b hb).2;omega
  have f1:∀ b,a3.ownBlock=some b→b≠c5:=fun b hb=>by have:=(ho0_b8834_2.lt b hb).2;omega
  have e7:∀ b,a2.ownBlock=some b→b≠c5:=fun b hb=>by have:=(ho0_b8834_3.lt b hb).2;omega
  have b7:∀ b,b2.ownBlock=some b→b∈(c5 :: (b8 :: m9)):=fun b hb=>List.mem_cons_of_mem _ (b7 b hb)
  have b1:∀ b,a1.ownBlock=some b→b∈(c5 :: (b8 :: m9)):=fun b hb=>List.mem_cons_of_mem _ (b1 b hb)
  have b4:∀ b,a3.ownBlock=some b→b∈(c5 :: (b8 :: m9)):=fun b hb=>List.mem_cons_of_mem _ (b4 b hb)
  have b3:∀ b,a2.ownBlock=some b→b∈(c5 :: (b8 :: m9)):=fun b hb=>List.mem_cons_of_mem _ (b3 b hb)
  clear fh
  have ho0_b8834_0:=ho0_b8834_0.mv C5 C6 (by simp)
  have ho0_b8834_1:=ho0_b8834_1.mv C5 C6 (by simp)
  have ho0_b8834_2:=ho0_b8834_2.mv C5 C6 (by simp)
  have ho0_b8834_3:=ho0_b8834_3.mv C5 C6 (by simp)
  have a4:=a4.mv C5
  have a8:=a8.mv C5
  have a0:=a0.keep C6 (by simp)
  have a7:=a7.keep C6 (by simp)
  have hT:=by exact hT.mv0 C5 C6 (fun x hx=>by exact List.mem_cons_of_mem _ hx)
  refine AC (DG (E:=Enc.doing) (vA #[vB ((AA[k]!).kind),vB ((AA[k]!).device),vB ((AA[k]!).other),vB ((AA[k]!).copy),vB ((AA[k]!).crash),vB ((AA[k]!).at_)]) ([vB ((AA[k]!).kind),vB ((AA[k]!).device),vB ((AA[k]!).other),vB ((AA[k]!).copy),vB ((AA[k]!).crash),vB ((AA[k]!).at_)]) (AA[k]!) rfl rfl rfl fi fun jo jp fj C7 y1 b5=>(?_))
  have a4:=a4.mv C7
  have a8:=a8.mv C7
  have a0:=a0.keep y1 (by simp)
  have a7:=a7.keep y1 (by simp)
  have ho0_b8834_0:=ho0_b8834_0.mv C7 y1 (by simp)
  have ho0_b8834_1:=ho0_b8834_1.mv C7 y1 (by simp)
  have ho0_b8834_2:=ho0_b8834_2.mv C7 y1 (by simp)
  have ho0_b8834_3:=ho0_b8834_3.mv C7 y1 (by simp)
  have f9:=f9.keep y1 (by simp)
  have hT:=by exact hT.mv0 C7 y1 (fun x hx=>by exact hx)
  refine AC (CC [nS,nS,nS,nS] z_29 rfl fj fun c6 fk fl fm y2 y3 a6=>(?_))
  have i2:DB c7 c6:=by show c7≠c6;have:=a0.lt;omega
  have hw:DB b8 c6:=by show b8≠c6;have:=a7.lt;omega
  have w2:DB c5 c6:=by show c5≠c6;have:=f9.lt;omega
  have hy:∀ b,b2.ownBlock=some b→b≠c6:=fun b hb=>by have:=(ho0_b8834_0.lt b hb).2;omega
  have e2:∀ b,a1.ownBlock=some b→b≠c6:=fun b hb=>by have:=(ho0_b8834_1.lt b hb).2;omega
  have d9:∀ b,a3.ownBlock=some b→b≠c6:=fun b hb=>by have:=(ho0_b8834_2.lt b hb).2;omega
  have e0:∀ b,a2.ownBlock=some b→b≠c6:=fun b hb=>by have:=(ho0_b8834_3.lt b hb).2;omega
  have b7:∀ b,b2.ownBlock=some b→b∈(c6 :: (c5 :: (b8 :: m9))):=fun b hb=>List.mem_cons_of_mem _ (b7 b hb)
  have b1:∀ b,a1.ownBlock=some b→b∈(c6 :: (c5 :: (b8 :: m9))):=fun b hb=>List.mem_cons_of_mem _ (b1 b hb)
  have b4:∀ b,a3.ownBlock=some b→b∈(c6 :: (c5 :: (b8 :: m9))):=fun b hb=>List.mem_cons_of_mem _ (b4 b hb)
  have b3:∀ b,a2.ownBlock=some b→b∈(c6 :: (c5 :: (b8 :: m9))):=fun b hb=>List.mem_cons_of_mem _ (b3 b hb)
  clear fl
  have b5:=b5.mv y2
  have a4:=a4.mv y2
  have a8:=a8.mv y2
  have a0:=a0.keep y3 (by simp)
  have a7:=a7.keep y3 (by simp)
  have ho0_b8834_0:=ho0_b8834_0.mv y2 y3 (by simp)
  have ho0_b8834_1:=ho0_b8834_1.mv y2 y3 (by simp)
  have ho0_b8834_2:=ho0_b8834_2.mv y2 y3 (by simp)
  have ho0_b8834_3:=ho0_b8834_3.mv y2 y3 (by simp)
  have f9:=f9.keep y3 (by simp)
  have hT:=by exact hT.mv0 y2 y3 (fun x hx=>by exact List.mem_cons_of_mem _ hx)
  refine AE (AB (AG (AD kR (AC (AM 0 GC rfl (AC (AR U24_ rfl (b2) rfl f9 rfl (AC (JG U24_ rfl ho0_b8834_0 (AC (AH (vI (s.d.length:Int)) rfl (AE (AB (AG (FV 17 _ _ kR kR kR kR kR rfl rfl fun fn n7=>?_)))))))))))))))
  have fo:=fm.call n7
  have y4:Mv (c6 :: (c5 :: (b8 :: m9))) fk (c6 :: (c5 :: (b8 :: m9))) fn:=Mv.of_keep n7
  have b5:=b5.mv y4
  have ho0_b8834_0:=ho0_b8834_0.mv y4 n7 (by simp)
  have a4:=a4.mv y4
  have a8:=a8.mv y4
  have a0:=a0.keep n7 (by simp)
  have a7:=a7.keep n7 (by simp)
  have ho0_b8834_1:=ho0_b8834_1.mv y4 n7 (by simp)
  have ho0_b8834_2:=ho0_b8834_2.mv y4 n7 (by simp)
  have ho0_b8834_3:=ho0_b8834_3.mv y4 n7 (by simp)
  have f9:=f9.keep n7 (by simp)
  have a6:=a6.keep n7 (by simp)
  have hT:=by exact hT.mv0 y4 n7 (fun x hx=>by exact hx)
  refine CA (AP 1 f_37_1 ((AA[k]!).device) rfl b5 (fun _ _ _ h=>MC h) fun jq bv=>(CA (CU U5_ rfl rfl bv (CA (FF .u8 .i64 U5_ U3_ (((AA[k]!).device).toNat:Int) (((AA[k]!).device).toNat:Int) rfl (by have:=((AA[k]!).device).toNat_lt;exact EP oM rfl) (CA (AF (vI (s.d.length:Int)) rfl (CA (MZ (((AA[k]!).device).toNat) s.d.length oM rfl rfl (CA (AP 2 f_37_2 ((AA[k]!).other) rfl b5 (fun _ _ _ h=>MB h) fun jr bw=>(CA (CU U5_ rfl rfl bw (CA (FF .u8 .i64 U5_ U3_ (((AA[k]!).other).toNat:Int) (((AA[k]!).other).toNat:Int) rfl (by have:=((AA[k]!).other).toNat_lt;exact EP oM rfl) (CA (AF (vI (s.d.length:Int)) rfl (CA (MZ (((AA[k]!).other).toNat) s.d.length oM rfl rfl (CA (AP 3 f_37_3 ((AA[k]!).copy) rfl b5 (fun _ _ _ h=>MH h) fun js bx=>(CA (CU U5_ rfl rfl bx (CA (DY ((AA[k]!).copy) (4:UInt8) (by decide) rfl rfl (CA (FF .u8 .i64 U5_ U3_ ((((AA[k]!).copy) % 4).toNat:Int) ((((AA[k]!).copy) % 4).toNat:Int) rfl (by have:=(((AA[k]!).copy) % 4).toNat_lt;exact EP oM rfl) (CA (AH (vI (((((AA[k]!).device).toNat) % s.d.length:Nat):Int)) rfl (CA (AH (vI (((((AA[k]!).other).toNat) % s.d.length:Nat):Int)) rfl (CA (AH (vI ((((AA[k]!).copy) % 4).toNat:Int)) rfl (HN (AE (AB (AG (AD kR (AC (PO (E:=Enc.device) (xs:=[]) U24_ BG HO (by decide) [] [] [] rfl rfl rfl (Parts.nil _ _ _) oT fo fun i5 J7 jt fp j2 fq y5 t4 U4=>(?_)))))))))))))))))))))))))))))))))))))))))
  have U5:∀ b,i5.ownBlock=some b→b≠c7:=fun b hb=>by have:=a0.lt;rw [j2] at hb;cases hb;omega
  have U6:∀ b,i5.ownBlock=some b→b≠b8:=fun b hb=>by have:=a7.lt;rw [j2] at hb;cases hb;omega
  have U7:∀ b,i5.ownBlock=some b→b≠c5:=fun b hb=>by have:=f9.lt;rw [j2] at hb;cases hb;omega
  have U8:∀ b,i5.ownBlock=some b→b≠c6:=fun b hb=>by have:=a6.lt;rw [j2] at hb;cases hb;omega
  have N6:∀ b,b2.ownBlock=some b→i5.ownBlock≠some b:=fun b hb=>by have:=(ho0_b8834_0.lt b hb).2;rw [j2];intro e;cases e;omega
  have ne8934':∀ b,i5.ownBlock=some b→b2.ownBlock≠some b:=fun b hb e=>N6 b e hb
  have N7:∀ b,a1.ownBlock=some b→i5.ownBlock≠some b:=fun b hb=>by have:=(ho0_b8834_1.lt b hb).2;rw [j2];intro e;cases e;omega
  have ne8935':∀ b,i5.ownBlock=some b→a1.ownBlock≠some b:=fun b hb e=>N7 b e hb
  have N8:∀ b,a3.ownBlock=some b→i5.ownBlock≠some b:=fun b hb=>by have:=(ho0_b8834_2.lt b hb).2;rw [j2];intro e;cases e;omega
  have ne8936':∀ b,i5.ownBlock=some b→a3.ownBlock≠some b:=fun b hb e=>N8 b e hb
  have N9:∀ b,a2.ownBlock=some b→i5.ownBlock≠some b:=fun b hb=>by have:=(ho0_b8834_3.lt b hb).2;rw [j2];intro e;cases e;omega
  have ne8937':∀ b,i5.ownBlock=some b→a2.ownBlock≠some b:=fun b hb e=>N9 b e hb
  have bz:∀ b,i5.ownBlock=some b→b∈(J7 :: (c6 :: (c5 :: (b8 :: m9)))):=fun b hb=>by rw [j2] at hb;cases hb;simp
  clear fp j2
  have b7:∀ b,b2.ownBlock=some b→b∈(J7 :: (c6 :: (c5 :: (b8 :: m9)))):=fun b hb=>List.mem_cons_of_mem _ (b7 b hb)
  have b1:∀ b,a1.ownBlock=some b→b∈(J7 :: (c6 :: (c5 :: (b8 :: m9)))):=fun b hb=>List.mem_cons_of_mem _ (b1 b hb)
  have b4:∀ b,a3.ownBlock=some b→b∈(J7 :: (c6 :: (c5 :: (b8 :: m9)))):=fun b hb=>List.mem_cons_of_mem _ (b4 b hb)
  have b3:∀ b,a2.ownBlock=some b→b∈(J7 :: (c6 :: (c5 :: (b8 :: m9)))):=fun b hb=>List.mem_cons_of_mem _ (b3 b hb)
  have b5:=b5.mv y5
  have ho0_b8834_0:=ho0_b8834_0.mv y5 t4 (by simp)
  have a4:=a4.mv y5
  have a8:=a8.mv y5
  have a0:=a0.keep t4 (by simp)
  have a7:=a7.keep t4 (by simp)
  have ho0_b8834_1:=ho0_b8834_1.mv y5 t4 (by simp)
  have ho0_b8834_2:=ho0_b8834_2.mv y5 t4 (by simp)
  have ho0_b8834_3:=ho0_b8834_3.mv y5 t4 (by simp)
  have f9:=f9.keep t4 (by simp)
  have a6:=a6.keep t4 (by simp)
  have hT:=by exact hT.mv0 y5 t4 (fun x hx=>by exact List.mem_cons_of_mem _ hx)
  refine AC (AM 0 GC rfl (AC (AR U24_ rfl (b2) rfl f9 rfl (AC (LD (E:=Enc.device) (l:=[]) (m:=s.d) U24_ i_31 rfl (by decide) rfl rfl U4 ho0_b8834_0  bz (by simp;omega) (by simp [maxLen];omega) fq fun b0 ju b6 b9 t3 i6 fr y6 t5 a5=>(?_))))))
  rw [List.nil_append] at a5
  have J8:∀ b,b2.ownBlock=some b→b0.ownBlock≠some b:=fun b hb e=>by rcases t3 with e1|e1 <;> rw [e1] at e <;> first|(cases e;have:=(ho0_b8834_0.lt _ hb).2;omega)|(exact absurd e (N6 b hb))
  have c2:∀ b,a1.ownBlock=some b→b0.ownBlock≠some b:=fun b hb e=>by rcases t3 with e1|e1 <;> rw [e1] at e <;> first|(cases e;have:=(ho0_b8834_1.lt _ hb).2;omega)|(exact absurd e (N7 b hb))
  have c3:∀ b,a3.ownBlock=some b→b0.ownBlock≠some b:=fun b hb e=>by rcases t3 with e1|e1 <;> rw [e1] at e <;> first|(cases e;have:=(ho0_b8834_2.lt _ hb).2;omega)|(exact absurd e (N8 b hb))
  have c4:∀ b,a2.ownBlock=some b→b0.ownBlock≠some b:=fun b hb e=>by rcases t3 with e1|e1 <;> rw [e1] at e <;> first|(cases e;have:=(ho0_b8834_3.lt _ hb).2;omega)|(exact absurd e (N9 b hb))
  have d4:∀ b,b0.ownBlock=some b→b≠c7:=fun b hb=>by rcases t3 with e1|e1 <;> rw [e1] at hb <;> first|(cases hb;have:=a0.lt;omega)|(exact U5 b hb)
  have e5:∀ b,b0.ownBlock=some b→b≠b8:=fun b hb=>by rcases t3 with e1|e1 <;> rw [e1] at hb <;> first|(cases hb;have:=a7.lt;omega)|(exact U6 b hb)
  have d8:∀ b,b0.ownBlock=some b→b≠c5:=fun b hb=>by rcases t3 with e1|e1 <;> rw [e1] at hb <;> first|(cases hb;have:=f9.lt;omega)|(exact U7 b hb)
  have d7:∀ b,b0.ownBlock=some b→b≠c6:=fun b hb=>by rcases t3 with e1|e1 <;> rw [e1] at hb <;> first|(cases hb;have:=a6.lt;omega)|(exact U8 b hb)
  have b7:∀ b,b2.ownBlock=some b→b∈b6:=fun b hb=>i6 b (b7 b hb)
  have b1:∀ b,a1.ownBlock=some b→b∈b6:=fun b hb=>i6 b (b1 b hb)
  have b4:∀ b,a3.ownBlock=some b→b∈b6:=fun b hb=>i6 b (b4 b hb)
  have b3:∀ b,a2.ownBlock=some b→b∈b6:=fun b hb=>i6 b (b3 b hb)
  have g2:c7∈b6:=i6 c7 rC
  have h6:b8∈b6:=i6 b8 (by repeat (constructor))
  have h7:c5∈b6:=i6 c5 (by repeat (constructor))
  have h8:c6∈b6:=i6 c6 (by repeat (constructor))
  have b5:=b5.mv y6
  have ho0_b8834_0:=ho0_b8834_0.mv y6 t5 (fun b hb=>by simp only [Option.mem_toList];exact N6 b hb)
  have a4:=a4.mv y6
  have a8:=a8.mv y6
  have a0:=a0.keep t5 (by simp only [Option.mem_toList];exact fun e=>absurd rfl (U5 _ e))
  have a7:=a7.keep t5 (by simp only [Option.mem_toList];exact fun e=>absurd rfl (U6 _ e))
  have ho0_b8834_1:=ho0_b8834_1.mv y6 t5 (fun b hb=>by simp only [Option.mem_toList];exact N7 b hb)
  have ho0_b8834_2:=ho0_b8834_2.mv y6 t5 (fun b hb=>by simp only [Option.mem_toList];exact N8 b hb)
  have ho0_b8834_3:=ho0_b8834_3.mv y6 t5 (fun b hb=>by simp only [Option.mem_toList];exact N9 b hb)
  have f9:=f9.keep t5 (by simp only [Option.mem_toList];exact fun e=>absurd rfl (U7 _ e))
  have a6:=a6.keep t5 (by simp only [Option.mem_toList];exact fun e=>absurd rfl (U8 _ e))
  have hT:=hT.mvO y6 t5 U4 (fun b hb=>Option.mem_toList.1 hb) (by decide) i6
  refine AC (AH (b0) rfl (AE (AB (AG (AD kR (AC (AF (b0) rfl (AC (AM 0 GC rfl (BK (BP (b0) rfl rfl a5.oneCell s_24 (by repeat (assumption)) f9 oT fr fun y7 q4 t6 t7 a9=>(?_))))))))))))
  have b5:=b5.mv t6
  have a5:=a5.mv t6 t7 (fun b hb=>AJ (d8 b hb))
  have ho0_b8834_0:=ho0_b8834_0.mv t6 t7 (fun b hb=>AJ (N5 b hb))
  have a4:=a4.mv t6
  have a8:=a8.mv t6
  have a0:=a0.keep t7 (AJ w0)
  have a7:=a7.keep t7 (AJ w1)
  have ho0_b8834_1:=ho0_b8834_1.mv t6 t7 (fun b hb=>AJ (e4 b hb))
  have ho0_b8834_2:=ho0_b8834_2.mv t6 t7 (fun b hb=>AJ (f1 b hb))
  have ho0_b8834_3:=ho0_b8834_3.mv t6 t7 (fun b hb=>AJ (e7 b hb))
  have a6:=a6.keep t7 (AJ (Ne.symm w2))
  have hT:=by exact hT.mvB t6 t7 aS (by decide) (fun x hx=>by exact hx)
  refine AE (AB (JW (fun FI wI=>∃ (s2:HouseR) (L2:List Value) (c8:Value) (c9:Value) (d0:Value) (d1:Value) (B:List Nat),s2=DF s AA[k]!∧Bk (Enc.slice Enc.devop) 26 w.heap.size O B wI L2 s2.b∧True∧(∃ F1,FI=GM F1 [(2,vP (some ⟨c5,0,none⟩)),(4,vP (some ⟨c6,0,none⟩)),(240,undef)])∧St w O wI B∧DM Enc.device 31 w.heap.size (B++O) wI c8 (s2.d)∧(∀ b,c8.ownBlock=some b→b∈B)∧DM Enc.val 58 w.heap.size (B++O) wI c9 (L2)∧(∀ b,c9.ownBlock=some b→b∈B)∧DM Enc.devop 40 w.heap.size (B++O) wI d0 (s2.done)∧(∀ b,d0.ownBlock=some b→b∈B)∧DM Enc.int 3 w.heap.size (B++O) wI d1 (s2.shown)∧(∀ b,d1.ownBlock=some b→b∈B)∧CI Enc.doing wI (B++O) (M4) (AA)∧PT Enc.doing wI (B++O) (.pointer (some fc)) (AA[k]!)∧EN wI c7 29 [b2,a1,a3,a2]∧c7∈B∧EN wI b8 37 [vB ((AA[k]!).kind),vB ((AA[k]!).device),vB ((AA[k]!).other),vB ((AA[k]!).copy),vB ((AA[k]!).crash),vB ((AA[k]!).at_)]∧b8∈B∧EN wI c5 29 [c8,c9,d0,d1]∧c5∈B∧EN wI c6 29 [nS,nS,nS,nS]∧c6∈B∧(∀ b,c8.ownBlock=some b→b≠c7)∧(∀ b,c8.ownBlock=some b→b≠b8)∧(∀ b,c8.ownBlock=some b→b≠c5)∧(∀ b,c8.ownBlock=some b→b≠c6)∧(∀ b,c9.ownBlock=some b→b≠c7)∧(∀ b,c9.ownBlock=some b→b≠b8)∧(∀ b,c9.ownBlock=some b→b≠c5)∧(∀ b,c9.ownBlock=some b→b≠c6)∧(∀ b,d0.ownBlock=some b→b≠c7)∧(∀ b,d0.ownBlock=some b→b≠b8)∧(∀ b,d0.ownBlock=some b→b≠c5)∧(∀ b,d0.ownBlock=some b→b≠c6)∧(∀ b,d1.ownBlock=some b→b≠c7)∧(∀ b,d1.ownBlock=some b→b≠b8)∧(∀ b,d1.ownBlock=some b→b≠c5)∧(∀ b,d1.ownBlock=some b→b≠c6)∧(∀ b,c8.ownBlock=some b→c9.ownBlock≠some b)∧(∀ b,c8.ownBlock=some b→d0.ownBlock≠some b)∧(∀ b,c8.ownBlock=some b→d1.ownBlock≠some b)∧(∀ b,c9.ownBlock=some b→c8.ownBlock≠some b)∧(∀ b,c9.ownBlock=some b→d0.ownBlock≠some b)∧(∀ b,c9.ownBlock=some b→d1.ownBlock≠some b)∧(∀ b,d0.ownBlock=some b→c8.ownBlock≠some b)∧(∀ b,d0.ownBlock=some b→c9.ownBlock≠some b)∧(∀ b,d0.ownBlock=some b→d1.ownBlock≠some b)∧(∀ b,d1.ownBlock=some b→c8.ownBlock≠some b)∧(∀ b,d1.ownBlock=some b→c9.ownBlock≠some b)∧(∀ b,d1.ownBlock=some b→d0.ownBlock≠some b)) ?_ ?_))
  ·refine AG (AD kR (AC (AP 0 MV ((AA[k]!).kind) rfl b5 (fun _ _ _ h=>FZ h) fun jv bA=>(AC (CU U5_ rfl rfl bA (AC (DY ((AA[k]!).kind) (6:UInt8) (by decide) rfl rfl (AE (AB (BN (AG (AG (AD kR (AC (EG (((AA[k]!).kind) % 6) (0:UInt8) rfl rfl (AC (AH (vO ((((AA[k]!).kind) % 6) == (0:UInt8))) rfl (AE (AB (AK ((((AA[k]!).kind) % 6) == (0:UInt8)) rfl rfl (fun D9=>?_) (fun D9=>?_)))))))))))))))))))))
   ·have hz:((AA[k]!).kind) % 6=(0:UInt8):=by simpa using D9
    refine AT (AB (?_))
    have bB:((((AA[k]!).kind) % 6) == (0:UInt8))=true:=(by simpa using D9)
    rw [bB]
    refine AK true rfl rfl (fun _=>AG (AD kR (AC (AF (b0) rfl (AC (AF (vI (((((AA[k]!).device).toNat) % s.d.length:Nat):Int)) rfl (AC (BZ U24_ BG .i64 (((((AA[k]!).device).toNat) % s.d.length:Nat):Int) ((((AA[k]!).device).toNat) % s.d.length) rfl rfl rfl a5.rdB oM fun jw bC=>(AC (AP (E':=(Enc.both (Enc.slice Enc.devop) y7 (b6++O))) 2 EQ ((s.d[(((AA[k]!).device).toNat) % s.d.length]!).ops) rfl bC (fun _ _ _ h=>⟨BL h.1,BL h.2⟩) fun jx bD=>(AC (ER U26_ rfl rfl bD fun aG U9=>(?_))))))))))))) (fun h=>by cases h)
    have:=U9.len_le
    refine AC (BI (vs:=[aG,vI 4,vI 0]) IU (KQ (O:=b6++O) aG ((s.d[(((AA[k]!).device).toNat) % s.d.length]!).ops) (4:Int) (0:Int) y7 U9 q4.lt) rfl q4 fun jy aH aI t8 q5 fs=>(?_))
    obtain ⟨J9,rfl,w3⟩:=fs
    have:=w3.len_le
    have b5:=b5.mv t8
    have a5:=a5.mv t8 q5 (by simp)
    have ho0_b8834_0:=ho0_b8834_0.mv t8 q5 (by simp)
    have a4:=a4.mv t8
    have a8:=a8.mv t8
    have a0:=a0.keep q5 (by simp)
    have a7:=a7.keep q5 (by simp)
    have ho0_b8834_1:=ho0_b8834_1.mv t8 q5 (by simp)
    have ho0_b8834_2:=ho0_b8834_2.mv t8 q5 (by simp)
    have ho0_b8834_3:=ho0_b8834_3.mv t8 q5 (by simp)
    have a9:=a9.keep q5 (by simp)
    have a6:=a6.keep q5 (by simp)
    have hT:=by exact hT.mv0 t8 q5 (fun x hx=>by exact hx)
    refine AC (AF (vT #[J9,vI ((AI ((s.d[(((AA[k]!).device).toNat) % s.d.length]!).ops) (4:Int) (0:Int)).2)]) rfl (AC (BD (J9) rfl rfl (AC (BD (vI ((AI ((s.d[(((AA[k]!).device).toNat) % s.d.length]!).ops) (4:Int) (0:Int)).2)) rfl rfl (AC (AH (J9) rfl (AC (AH (vI ((AI ((s.d[(((AA[k]!).device).toNat) % s.d.length]!).ops) (4:Int) (0:Int)).2)) rfl (AE (AB (AG (AD kR (AC (AF (b0) rfl (AC (AF (vI (((((AA[k]!).device).toNat) % s.d.length:Nat):Int)) rfl (AC (BZ U24_ BG .i64 (((((AA[k]!).device).toNat) % s.d.length:Nat):Int) ((((AA[k]!).device).toNat) % s.d.length) rfl rfl rfl a5.rdB oM fun jz bE=>(AC (AP (E':=(Enc.both (Enc.slice Enc.devop) aH (b6++O))) 2 EQ ((s.d[(((AA[k]!).device).toNat) % s.d.length]!).ops) rfl bE (fun _ _ _ h=>⟨BL h.1,BL h.2⟩) fun jA bF=>(AC (ER U26_ rfl rfl bF fun aJ V0=>(?_))))))))))))))))))))))))
    have:=V0.len_le
    refine AC (AF (vI (((((AA[k]!).device).toNat) % s.d.length:Nat):Int)) rfl (AC (AF (vI ((((AA[k]!).copy) % 4).toNat:Int)) rfl (AC (BI (vs:=[aJ,vI 4,vI 0,vI (((((AA[k]!).device).toNat) % s.d.length:Nat):Int),vI ((((AA[k]!).copy) % 4).toNat:Int)]) LS (c_may (O:=b6++O) aJ ((s.d[(((AA[k]!).device).toNat) % s.d.length]!).ops) (4:Int) (0:Int) (((((AA[k]!).device).toNat) % s.d.length:Nat):Int) ((((AA[k]!).copy) % 4).toNat:Int) aH V0 aI.lt) rfl aI fun jB ft M5 q6 q7 fu=>(?_))))))
    obtain rfl:=fu
    have b5:=b5.mv q6
    have a5:=a5.mv q6 q7 (by simp)
    have w3:=w3.mv q6
    have ho0_b8834_0:=ho0_b8834_0.mv q6 q7 (by simp)
    have a4:=a4.mv q6
    have a8:=a8.mv q6
    have a0:=a0.keep q7 (by simp)
    have a7:=a7.keep q7 (by simp)
    have ho0_b8834_1:=ho0_b8834_1.mv q6 q7 (by simp)
    have ho0_b8834_2:=ho0_b8834_2.mv q6 q7 (by simp)
    have ho0_b8834_3:=ho0_b8834_3.mv q6 q7 (by simp)
    have a9:=a9.keep q7 (by simp)
    have a6:=a6.keep q7 (by simp)
    have hT:=by exact hT.mv0 q6 q7 (fun x hx=>by exact hx)
    refine AC (AF (vT #[vO ((BY ((s.d[(((AA[k]!).device).toNat) % s.d.length]!).ops) (4:Int) (0:Int) (((((AA[k]!).device).toNat) % s.d.length:Nat):Int) ((((AA[k]!).copy) % 4).toNat:Int)).1),vI ((BY ((s.d[(((AA[k]!).device).toNat) % s.d.length]!).ops) (4:Int) (0:Int) (((((AA[k]!).device).toNat) % s.d.length:Nat):Int) ((((AA[k]!).copy) % 4).toNat:Int)).2)]) rfl (AC (BD (vO ((BY ((s.d[(((AA[k]!).device).toNat) % s.d.length]!).ops) (4:Int) (0:Int) (((((AA[k]!).device).toNat) % s.d.length:Nat):Int) ((((AA[k]!).copy) % 4).toNat:Int)).1)) rfl rfl (AC (BD (vI ((BY ((s.d[(((AA[k]!).device).toNat) % s.d.length]!).ops) (4:Int) (0:Int) (((((AA[k]!).device).toNat) % s.d.length:Nat):Int) ((((AA[k]!).copy) % 4).toNat:Int)).2)) rfl rfl (AC (AH (vO ((BY ((s.d[(((AA[k]!).device).toNat) % s.d.length]!).ops) (4:Int) (0:Int) (((((AA[k]!).device).toNat) % s.d.length:Nat):Int) ((((AA[k]!).copy) % 4).toNat:Int)).1)) rfl (AC (AH (vI ((BY ((s.d[(((AA[k]!).device).toNat) % s.d.length]!).ops) (4:Int) (0:Int) (((((AA[k]!).device).toNat) % s.d.length:Nat):Int) ((((AA[k]!).copy) % 4).toNat:Int)).2)) rfl (AE (AB (AG (AG (AD kR (AC (AF (vI ((AI ((s.d[(((AA[k]!).device).toNat) % s.d.length]!).ops) (4:Int) (0:Int)).2)) rfl (AC (DX .i64 ((AI ((s.d[(((AA[k]!).device).toNat) % s.d.length]!).ops) (4:Int) (0:Int)).2) (0:Int) rfl rfl (AC (AF (vO (((AI ((s.d[(((AA[k]!).device).toNat) % s.d.length]!).ops) (4:Int) (0:Int)).2) != (0:Int))) rfl (?_)))))))))))))))))))))
    cases V1:(((AI ((s.d[(((AA[k]!).device).toNat) % s.d.length]!).ops) (4:Int) (0:Int)).2) != (0:Int))
    ·have hA:(AI ((s.d[(((AA[k]!).device).toNat) % s.d.length]!).ops) (4:Int) (0:Int)).2=(0:Int):=by simpa using V1
     refine BH rfl (AF (vI ((BY ((s.d[(((AA[k]!).device).toNat) % s.d.length]!).ops) (4:Int) (0:Int) (((((AA[k]!).device).toNat) % s.d.length:Nat):Int) ((((AA[k]!).copy) % 4).toNat:Int)).2)) rfl (BH rfl (DX .i64 ((BY ((s.d[(((AA[k]!).device).toNat) % s.d.length]!).ops) (4:Int) (0:Int) (((((AA[k]!).device).toNat) % s.d.length:Nat):Int) ((((AA[k]!).copy) % 4).toNat:Int)).2) (0:Int) rfl rfl (AC (BM (vO (((BY ((s.d[(((AA[k]!).device).toNat) % s.d.length]!).ops) (4:Int) (0:Int) (((((AA[k]!).device).toNat) % s.d.length:Nat):Int) ((((AA[k]!).copy) % 4).toNat:Int)).2) != (0:Int))) rfl rfl (AC (AF (vO (((BY ((s.d[(((AA[k]!).device).toNat) % s.d.length]!).ops) (4:Int) (0:Int) (((((AA[k]!).device).toNat) % s.d.length:Nat):Int) ((((AA[k]!).copy) % 4).toNat:Int)).2) != (0:Int))) rfl (?_))))))))
     cases V2:(((BY ((s.d[(((AA[k]!).device).toNat) % s.d.length]!).ops) (4:Int) (0:Int) (((((AA[k]!).device).toNat) % s.d.length:Nat):Int) ((((AA[k]!).copy) % 4).toNat:Int)).2) != (0:Int))
     ·have hB:(BY ((s.d[(((AA[k]!).device).toNat) % s.d.length]!).ops) (4:Int) (0:Int) (((((AA[k]!).device).toNat) % s.d.length:Nat):Int) ((((AA[k]!).copy) % 4).toNat:Int)).2=(0:Int):=by simpa using V2
      refine BH rfl (AF (vO ((BY ((s.d[(((AA[k]!).device).toNat) % s.d.length]!).ops) (4:Int) (0:Int) (((((AA[k]!).device).toNat) % s.d.length:Nat):Int) ((((AA[k]!).copy) % 4).toNat:Int)).1)) rfl (BH rfl (EI ((BY ((s.d[(((AA[k]!).device).toNat) % s.d.length]!).ops) (4:Int) (0:Int) (((((AA[k]!).device).toNat) % s.d.length:Nat):Int) ((((AA[k]!).copy) % 4).toNat:Int)).1) rfl (AC (BM (vO (!((BY ((s.d[(((AA[k]!).device).toNat) % s.d.length]!).ops) (4:Int) (0:Int) (((((AA[k]!).device).toNat) % s.d.length:Nat):Int) ((((AA[k]!).copy) % 4).toNat:Int)).1))) rfl rfl (AC (AF (vO (!((BY ((s.d[(((AA[k]!).device).toNat) % s.d.length]!).ops) (4:Int) (0:Int) (((((AA[k]!).device).toNat) % s.d.length:Nat):Int) ((((AA[k]!).copy) % 4).toNat:Int)).1))) rfl (?_))))))))
      cases V3:(!((BY ((s.d[(((AA[k]!).device).toNat) % s.d.length]!).ops) (4:Int) (0:Int) (((((AA[k]!).device).toNat) % s.d.length:Nat):Int) ((((AA[k]!).copy) % 4).toNat:Int)).1))
      ·have hC:((BY ((s.d[(((AA[k]!).device).toNat) % s.d.length]!).ops) (4:Int) (0:Int) (((((AA[k]!).device).toNat) % s.d.length:Nat):Int) ((((AA[k]!).copy) % 4).toNat:Int)).1)=true:=by simpa using V3
       refine BH rfl (AF (J9) rfl (BH rfl (DS U43_ rfl w3 (BH rfl (DX .i64 (((AI ((s.d[(((AA[k]!).device).toNat) % s.d.length]!).ops) (4:Int) (0:Int)).1).length:Int) (4:Int) rfl rfl (AC (BM (vO ((((AI ((s.d[(((AA[k]!).device).toNat) % s.d.length]!).ops) (4:Int) (0:Int)).1).length:Int) != (4:Int))) rfl rfl (AE (AB (?_))))))))))
       have bG:((((AI ((s.d[(((AA[k]!).device).toNat) % s.d.length]!).ops) (4:Int) (0:Int)).1).length:Int) != (4:Int))=false:=(by rw [FB aS];rfl)
       rw [bG]
       refine AK false rfl rfl (fun h=>by cases h) (fun _=>AT (AB (AG (ET [] [] [[(0,1),(1,1),(2,1),(3,1),(4,1),(5,1),(6,4),(7,1),(8,1),(9,1),(10,1),(11,1),(12,1),(13,4),(14,1),(15,2),(16,0)]] (by intro c F d v w hd;simp only [FQ,EZ];exact GW c F d v w hd) kR kR kR fun fv l0=>?_))))
       have fw:=M5.call l0
       have q8:Mv b6 ft b6 fv:=Mv.of_keep l0
       have b5:=b5.mv q8
       have a5:=a5.mv q8 l0 (by simp)
       have w3:=w3.mv q8
       have ho0_b8834_0:=ho0_b8834_0.mv q8 l0 (by simp)
       have a4:=a4.mv q8
       have a8:=a8.mv q8
       have a0:=a0.keep l0 (by simp)
       have a7:=a7.keep l0 (by simp)
       have ho0_b8834_1:=ho0_b8834_1.mv q8 l0 (by simp)
       have ho0_b8834_2:=ho0_b8834_2.mv q8 l0 (by simp)
       have ho0_b8834_3:=ho0_b8834_3.mv q8 l0 (by simp)
       have a9:=a9.keep l0 (by simp)
       have a6:=a6.keep l0 (by simp)
       have hT:=by exact hT.mv0 q8 l0 (fun x hx=>by exact hx)
       refine ⟨?_,trivial⟩
       refine AO (AF (vI (((((AA[k]!).device).toNat) % s.d.length:Nat):Int)) rfl (CD (AO (AF (b0) rfl (CD (AO (AF (vI (((((AA[k]!).device).toNat) % s.d.length:Nat):Int)) rfl (CD (AO (BZ U24_ BG .i64 (((((AA[k]!).device).toNat) % s.d.length:Nat):Int) ((((AA[k]!).device).toNat) % s.d.length) rfl rfl rfl a5.rdB oM fun jC bH=>(CD (AO (AP (E':=Enc.int) 1 IG ((s.d[(((AA[k]!).device).toNat) % s.d.length]!).counter) rfl bH (fun _ _ _ h=>DQ h.1) fun jD bI=>(CD (AO (BJ U3_ rfl rfl bI (CD (DA rfl (fun w4_ k4_=>CE .i64 ((s.d[(((AA[k]!).device).toNat) % s.d.length]!).counter) (1:Int) (s.d[AA[k]!.device.toNat % s.d.length]!.counter+1) rfl rfl (EP oM rfl) (⟨rfl,rfl⟩)) (AO (AF (vI ((((AA[k]!).copy) % 4).toNat:Int)) rfl (CD (AO (AF (J9) rfl (CD (AO (AF (vI ((((AA[k]!).copy) % 4).toNat:Int)) rfl (CD (AO (BZ U43_ LI .i64 ((((AA[k]!).copy) % 4).toNat:Int) ((((AA[k]!).copy) % 4).toNat) rfl rfl oM w3 (by rw [FB aS];show (AA[k]!.copy % 4).toNat<4;omega) fun jE bJ=>(CD (AO (AP 2 MX ((((AI ((s.d[(((AA[k]!).device).toNat) % s.d.length]!).ops) (4:Int) (0:Int)).1)[(((AA[k]!).copy) % 4).toNat]!).token) rfl bJ (fun _ _ _ h=>GN h) fun jF bK=>(CD (AO (BJ U3_ rfl rfl bK (CD (DA rfl (fun w4_ k4_=>CE .i64 ((((AI ((s.d[(((AA[k]!).device).toNat) % s.d.length]!).ops) (4:Int) (0:Int)).1)[(((AA[k]!).copy) % 4).toNat]!).token) (1:Int) ((AI s.d[AA[k]!.device.toNat % s.d.length]!.ops 4 0).1[(AA[k]!.copy % 4).toNat]!.token+1) rfl rfl (EP (by have:=nx_tok (l:=s.d[AA[k]!.device.toNat % s.d.length]!.ops) (copies:=4) (first:=0) (k:=(AA[k]!.copy % 4).toNat) aS (by show (AA[k]!.copy % 4).toNat<4;omega);omega) rfl) (⟨rfl,rfl⟩)) (AO (CV (l:=[(0, .tmp 87),(1, .tmp 93),(2, .const (vI 2)),(3, .tmp 94),(5, .tmp 100)]) pl_40 HC rfl [(0,vI (((((AA[k]!).device).toNat) % s.d.length:Nat):Int),[vI (((((AA[k]!).device).toNat) % s.d.length:Nat):Int)]),(1,vI (s.d[AA[k]!.device.toNat % s.d.length]!.counter+1),[vI (s.d[AA[k]!.device.toNat % s.d.length]!.counter+1)]),(2,vI 2,[vI 2]),(3,vI ((((AA[k]!).copy) % 4).toNat:Int),[vI ((((AA[k]!).copy) % 4).toNat:Int)]),(5,vI ((AI s.d[AA[k]!.device.toNat % s.d.length]!.ops 4 0).1[(AA[k]!.copy % 4).toNat]!.token+1),[vI ((AI s.d[AA[k]!.device.toNat % s.d.length]!.ops 4 0).1[(AA[k]!.copy % 4).toNat]!.token+1)])] [vI (((((AA[k]!).device).toNat) % s.d.length:Nat):Int),vI (s.d[AA[k]!.device.toNat % s.d.length]!.counter+1),vI 2,vI ((((AA[k]!).copy) % 4).toNat:Int),vI 0,vI ((AI s.d[AA[k]!.device.toNat % s.d.length]!.ops 4 0).1[(AA[k]!.copy % 4).toNat]!.token+1)] rfl ⟨_,rfl,rfl,oT,⟨_,rfl,rfl,oT,⟨_,rfl,rfl,oT,⟨_,rfl,rfl,oT,⟨_,rfl,rfl,oT,rfl⟩⟩⟩⟩⟩ (CD (DU (CC [vI 0,vI 0,vI 0,vI 0,vI 0,vI 0] HC rfl fw fun d3 jG fx fy t9 n9 bL=>(?_)))))))))))))))))))))))))))))))))))))))))))
       have bM:DB c7 d3:=by show c7≠d3;have:=a0.lt;omega
       have bN:DB b8 d3:=by show b8≠d3;have:=a7.lt;omega
       have O0:DB c5 d3:=by show c5≠d3;have:=a9.lt;omega
       have bO:DB c6 d3:=by show c6≠d3;have:=a6.lt;omega
       have O1:∀ b,b0.ownBlock=some b→b≠d3:=fun b hb=>by have:=(a5.lt b hb).2;omega
       have bP:∀ b,b2.ownBlock=some b→b≠d3:=fun b hb=>by have:=(ho0_b8834_0.lt b hb).2;omega
       have bQ:∀ b,a1.ownBlock=some b→b≠d3:=fun b hb=>by have:=(ho0_b8834_1.lt b hb).2;omega
       have E0:∀ b,a3.ownBlock=some b→b≠d3:=fun b hb=>by have:=(ho0_b8834_2.lt b hb).2;omega
       have O2:∀ b,a2.ownBlock=some b→b≠d3:=fun b hb=>by have:=(ho0_b8834_3.lt b hb).2;omega
       have b9:∀ b,b0.ownBlock=some b→b∈(d3 :: b6):=fun b hb=>List.mem_cons_of_mem _ (b9 b hb)
       have b7:∀ b,b2.ownBlock=some b→b∈(d3 :: b6):=fun b hb=>List.mem_cons_of_mem _ (b7 b hb)
       have b1:∀ b,a1.ownBlock=some b→b∈(d3 :: b6):=fun b hb=>List.mem_cons_of_mem _ (b1 b hb)
       have b4:∀ b,a3.ownBlock=some b→b∈(d3 :: b6):=fun b hb=>List.mem_cons_of_mem _ (b4 b hb)
       have b3:∀ b,a2.ownBlock=some b→b∈(d3 :: b6):=fun b hb=>List.mem_cons_of_mem _ (b3 b hb)
       clear fx
       have b5:=b5.mv t9
       have a5:=a5.mv t9 n9 (by simp)
       have ho0_b8834_0:=ho0_b8834_0.mv t9 n9 (by simp)
       have a4:=a4.mv t9
       have a8:=a8.mv t9
       have a0:=a0.keep n9 (by simp)
       have a7:=a7.keep n9 (by simp)
       have ho0_b8834_1:=ho0_b8834_1.mv t9 n9 (by simp)
       have ho0_b8834_2:=ho0_b8834_2.mv t9 n9 (by simp)
       have ho0_b8834_3:=ho0_b8834_3.mv t9 n9 (by simp)
       have a9:=a9.keep n9 (by simp)
       have a6:=a6.keep n9 (by simp)
       have hT:=by exact hT.mv0 t9 n9 (fun x hx=>by exact List.mem_cons_of_mem _ hx)
       refine ⟨n9,?_⟩
       refine FO (AU (vs:=[vI (((((AA[k]!).device).toNat) % s.d.length:Nat):Int),vI (s.d[AA[k]!.device.toNat % s.d.length]!.counter+1),vI 2,vI ((((AA[k]!).copy) % 4).toNat:Int),vI 0,vI ((AI s.d[AA[k]!.device.toNat % s.d.length]!.ops 4 0).1[(AA[k]!.copy % 4).toNat]!.token+1)]) (.agg #[vI (((((AA[k]!).device).toNat) % s.d.length:Nat):Int),vI (s.d[AA[k]!.device.toNat % s.d.length]!.counter+1),vI 2,vI ((((AA[k]!).copy) % 4).toNat:Int),vI 0,vI ((AI s.d[AA[k]!.device.toNat % s.d.length]!.ops 4 0).1[(AA[k]!.copy % 4).toNat]!.token+1)]) rfl rfl rfl BX (fun u hu=>by simp only [List.mem_cons,List.not_mem_nil,or_false] at hu;rcases hu with rfl|rfl|rfl|rfl|rfl|rfl <;> rfl) (by repeat (constructor)) bL oT fy fun fz fA u0 q9 d2=>(?_))
       have b5:=b5.mv u0
       have a5:=a5.mv u0 q9 (fun b hb=>AJ (O1 b hb))
       have ho0_b8834_0:=ho0_b8834_0.mv u0 q9 (fun b hb=>AJ (bP b hb))
       have a4:=a4.mv u0
       have a8:=a8.mv u0
       have a0:=a0.keep q9 (AJ bM)
       have a7:=a7.keep q9 (AJ bN)
       have ho0_b8834_1:=ho0_b8834_1.mv u0 q9 (fun b hb=>AJ (bQ b hb))
       have ho0_b8834_2:=ho0_b8834_2.mv u0 q9 (fun b hb=>AJ (E0 b hb))
       have ho0_b8834_3:=ho0_b8834_3.mv u0 q9 (fun b hb=>AJ (O2 b hb))
       have a9:=a9.keep q9 (AJ O0)
       have a6:=a6.keep q9 (AJ bO)
       have hT:=by exact hT.mvB u0 q9 aS (by decide) (fun x hx=>by exact hx)
       refine EW (AB (AG (AG (AD kR (AC (AP 0 MV ((AA[k]!).kind) rfl b5 (fun _ _ _ h=>FZ h) fun jH bR=>(AC (CU U5_ rfl rfl bR (AC (DY ((AA[k]!).kind) (6:UInt8) (by decide) rfl rfl (AC (EG (((AA[k]!).kind) % 6) (1:UInt8) rfl rfl (AE (AB (?_)))))))))))))))
       have bS:((((AA[k]!).kind) % 6) == (1:UInt8))=false:=(by rw [show AA[k]!.kind % 6=0 from by simpa using (by simpa using D9)];rfl)
       rw [bS]
       refine AK false rfl rfl (fun h=>by cases h) (fun _=>AT (AB (AG (ET [] [9,13] [[(0,1),(1,1),(2,1),(3,1),(4,1),(5,1),(6,1),(7,4),(8,4),(9,2),(10,1),(11,1),(12,1),(13,2),(14,0),(15,1)],[(0,1),(1,1),(2,1),(3,1),(4,1),(5,1),(6,1),(7,4),(8,4),(13,2),(9,2),(10,1),(11,1),(12,1),(14,0),(15,1)]] (by intro c F d v w hd;simp only [FQ,EZ];exact GW c F d v w hd) kR kR kR fun aK i7=>?_))))
       have T4:=fA.call i7
       have u1:Mv (d3 :: b6) fz (d3 :: b6) aK:=Mv.of_keep i7
       have b5:=b5.mv u1
       have a5:=a5.mv u1 i7 (by simp)
       have ho0_b8834_0:=ho0_b8834_0.mv u1 i7 (by simp)
       have a4:=a4.mv u1
       have a8:=a8.mv u1
       have a0:=a0.keep i7 (by simp)
       have a7:=a7.keep i7 (by simp)
       have ho0_b8834_1:=ho0_b8834_1.mv u1 i7 (by simp)
       have ho0_b8834_2:=ho0_b8834_2.mv u1 i7 (by simp)
       have ho0_b8834_3:=ho0_b8834_3.mv u1 i7 (by simp)
       have a9:=a9.keep i7 (by simp)
       have a6:=a6.keep i7 (by simp)
       have d2:=d2.keep i7 (by simp)
       have hT:=by exact hT.mv0 u1 i7 (fun x hx=>by exact hx)
       refine ⟨?_,?_,trivial⟩
       ·refine AO (AF (b0) rfl (CD (AO (AF (vI (((((AA[k]!).device).toNat) % s.d.length:Nat):Int)) rfl (CD (AO (BZ U24_ BG .i64 (((((AA[k]!).device).toNat) % s.d.length:Nat):Int) ((((AA[k]!).device).toNat) % s.d.length) rfl rfl rfl a5.rdB oM fun jI bT=>(CD (AO (BT U31_ rfl BG rfl bT fun V4 O3=>(?_)))))))))))
        have O3:=O3.2
        refine CD (AO (AQ (vs:=[vI (((((AA[k]!).device).toNat) % s.d.length:Nat):Int),vI (s.d[AA[k]!.device.toNat % s.d.length]!.counter+1),vI 2,vI ((((AA[k]!).copy) % 4).toNat:Int),vI 0,vI ((AI s.d[AA[k]!.device.toNat % s.d.length]!.ops 4 0).1[(AA[k]!.copy % 4).toNat]!.token+1)]) U40_ rfl BX rfl d2 rfl (CD (AO (AP 4 GE ((AA[k]!).crash) rfl b5 (fun _ _ _ h=>CM h) fun jJ bU=>(CD (AO (CU U5_ rfl rfl bU (CD (DA rfl (fun w4_ k4_=>DY ((AA[k]!).crash) (3:UInt8) (by decide) rfl rfl (⟨rfl,rfl⟩)) (DA rfl (fun w4_ k4_=>FF .u8 .i64 U5_ U3_ ((((AA[k]!).crash) % 3).toNat:Int) ((((AA[k]!).crash) % 3).toNat:Int) rfl (by have:=(((AA[k]!).crash) % 3).toNat_lt;exact EP oM rfl) (⟨rfl,rfl⟩)) (DU (BI (vs:=[vA V4.toArray,vA #[vI (((((AA[k]!).device).toNat) % s.d.length:Nat):Int),vI (s.d[AA[k]!.device.toNat % s.d.length]!.counter+1),vI 2,vI ((((AA[k]!).copy) % 4).toNat:Int),vI 0,vI ((AI s.d[AA[k]!.device.toNat % s.d.length]!.ops 4 0).1[(AA[k]!.copy % 4).toNat]!.token+1)],vI ((((AA[k]!).crash) % 3).toNat:Int)]) HK (NP (O:=(d3 :: b6)++O) V4 (s.d[(((AA[k]!).device).toNat) % s.d.length]!) [vI (((((AA[k]!).device).toNat) % s.d.length:Nat):Int),vI (s.d[AA[k]!.device.toNat % s.d.length]!.counter+1),vI 2,vI ((((AA[k]!).copy) % 4).toNat:Int),vI 0,vI ((AI s.d[AA[k]!.device.toNat % s.d.length]!.ops 4 0).1[(AA[k]!.copy % 4).toNat]!.token+1)] (⟨(((((AA[k]!).device).toNat) % s.d.length:Nat):Int),s.d[AA[k]!.device.toNat % s.d.length]!.counter+1,(2:Int),((((AA[k]!).copy) % 4).toNat:Int),(0:Int),(AI s.d[AA[k]!.device.toNat % s.d.length]!.ops 4 0).1[(AA[k]!.copy % 4).toNat]!.token+1⟩:DeviceOp) ((((AA[k]!).crash) % 3).toNat:Int) aK O3 rfl T4.lt) rfl T4 fun jK jL fB u2 l1 fC=>(?_))))))))))))))
        obtain ⟨O4,rfl,O5⟩:=fC
        have b5:=b5.mv u2
        have a5:=a5.mv u2 l1 (by simp)
        have ho0_b8834_0:=ho0_b8834_0.mv u2 l1 (by simp)
        have a4:=a4.mv u2
        have a8:=a8.mv u2
        have a0:=a0.keep l1 (by simp)
        have a7:=a7.keep l1 (by simp)
        have ho0_b8834_1:=ho0_b8834_1.mv u2 l1 (by simp)
        have ho0_b8834_2:=ho0_b8834_2.mv u2 l1 (by simp)
        have ho0_b8834_3:=ho0_b8834_3.mv u2 l1 (by simp)
        have a9:=a9.keep l1 (by simp)
        have a6:=a6.keep l1 (by simp)
        have d2:=d2.keep l1 (by simp)
        have hT:=by exact hT.mv0 u2 l1 (fun x hx=>by exact hx)
        refine ⟨l1,?_⟩
        refine AO (AF (vT #[vA O4.toArray,vI ((AV (s.d[(((AA[k]!).device).toNat) % s.d.length]!) (⟨(((((AA[k]!).device).toNat) % s.d.length:Nat):Int),s.d[AA[k]!.device.toNat % s.d.length]!.counter+1,(2:Int),((((AA[k]!).copy) % 4).toNat:Int),(0:Int),(AI s.d[AA[k]!.device.toNat % s.d.length]!.ops 4 0).1[(AA[k]!.copy % 4).toNat]!.token+1⟩:DeviceOp) ((((AA[k]!).crash) % 3).toNat:Int)).2)]) rfl (CD (AO (BD (vA O4.toArray) rfl rfl (CD (AO (BD (vI ((AV (s.d[(((AA[k]!).device).toNat) % s.d.length]!) (⟨(((((AA[k]!).device).toNat) % s.d.length:Nat):Int),s.d[AA[k]!.device.toNat % s.d.length]!.counter+1,(2:Int),((((AA[k]!).copy) % 4).toNat:Int),(0:Int),(AI s.d[AA[k]!.device.toNat % s.d.length]!.ops 4 0).1[(AA[k]!.copy % 4).toNat]!.token+1⟩:DeviceOp) ((((AA[k]!).crash) % 3).toNat:Int)).2)) rfl rfl (CD (DU (CC [vI 0,vI 0,nS,vO false] HO rfl fB fun e6 fD fE fF r0 l2 bV=>(?_)))))))))))
        have bW:DB c7 e6:=by show c7≠e6;have:=a0.lt;omega
        have bX:DB b8 e6:=by show b8≠e6;have:=a7.lt;omega
        have V5:DB c5 e6:=by show c5≠e6;have:=a9.lt;omega
        have bY:DB c6 e6:=by show c6≠e6;have:=a6.lt;omega
        have bZ:DB d3 e6:=by show d3≠e6;have:=d2.lt;omega
        have V6:∀ b,b0.ownBlock=some b→b≠e6:=fun b hb=>by have:=(a5.lt b hb).2;omega
        have ca:∀ b,b2.ownBlock=some b→b≠e6:=fun b hb=>by have:=(ho0_b8834_0.lt b hb).2;omega
        have cb:∀ b,a1.ownBlock=some b→b≠e6:=fun b hb=>by have:=(ho0_b8834_1.lt b hb).2;omega
        have O6:∀ b,a3.ownBlock=some b→b≠e6:=fun b hb=>by have:=(ho0_b8834_2.lt b hb).2;omega
        have V7:∀ b,a2.ownBlock=some b→b≠e6:=fun b hb=>by have:=(ho0_b8834_3.lt b hb).2;omega
        have b9:∀ b,b0.ownBlock=some b→b∈(e6 :: (d3 :: b6)):=fun b hb=>List.mem_cons_of_mem _ (b9 b hb)
        have b7:∀ b,b2.ownBlock=some b→b∈(e6 :: (d3 :: b6)):=fun b hb=>List.mem_cons_of_mem _ (b7 b hb)
        have b1:∀ b,a1.ownBlock=some b→b∈(e6 :: (d3 :: b6)):=fun b hb=>List.mem_cons_of_mem _ (b1 b hb)
        have b4:∀ b,a3.ownBlock=some b→b∈(e6 :: (d3 :: b6)):=fun b hb=>List.mem_cons_of_mem _ (b4 b hb)
        have b3:∀ b,a2.ownBlock=some b→b∈(e6 :: (d3 :: b6)):=fun b hb=>List.mem_cons_of_mem _ (b3 b hb)
        clear fE
        have b5:=b5.mv r0
        have a5:=a5.mv r0 l2 (by simp)
        have ho0_b8834_0:=ho0_b8834_0.mv r0 l2 (by simp)
        have O5:Enc.device.rd fD ((e6 :: (d3 :: b6))++O) O4 ((AV (s.d[(((AA[k]!).device).toNat) % s.d.length]!) (⟨(((((AA[k]!).device).toNat) % s.d.length:Nat):Int),s.d[AA[k]!.device.toNat % s.d.length]!.counter+1,(2:Int),((((AA[k]!).copy) % 4).toNat:Int),(0:Int),(AI s.d[AA[k]!.device.toNat % s.d.length]!.ops 4 0).1[(AA[k]!.copy % 4).toNat]!.token+1⟩:DeviceOp) ((((AA[k]!).crash) % 3).toNat:Int)).1):=Enc.mv Enc.device (x:=(AV (s.d[(((AA[k]!).device).toNat) % s.d.length]!) (⟨(((((AA[k]!).device).toNat) % s.d.length:Nat):Int),s.d[AA[k]!.device.toNat % s.d.length]!.counter+1,(2:Int),((((AA[k]!).copy) % 4).toNat:Int),(0:Int),(AI s.d[AA[k]!.device.toNat % s.d.length]!.ops 4 0).1[(AA[k]!.copy % 4).toNat]!.token+1⟩:DeviceOp) ((((AA[k]!).crash) % 3).toNat:Int)).1) O5 r0
        have a4:=a4.mv r0
        have a8:=a8.mv r0
        have a0:=a0.keep l2 (by simp)
        have a7:=a7.keep l2 (by simp)
        have ho0_b8834_1:=ho0_b8834_1.mv r0 l2 (by simp)
        have ho0_b8834_2:=ho0_b8834_2.mv r0 l2 (by simp)
        have ho0_b8834_3:=ho0_b8834_3.mv r0 l2 (by simp)
        have a9:=a9.keep l2 (by simp)
        have a6:=a6.keep l2 (by simp)
        have d2:=d2.keep l2 (by simp)
        have hT:=by exact hT.mv0 r0 l2 (fun x hx=>by exact List.mem_cons_of_mem _ hx)
        refine ⟨l2,?_⟩
        obtain ⟨T5,rfl,E1⟩:=O5
        have:=E1.len_le
        refine FO (AU (vs:=[vI (((AV (s.d[(((AA[k]!).device).toNat) % s.d.length]!) (⟨(((((AA[k]!).device).toNat) % s.d.length:Nat):Int),s.d[AA[k]!.device.toNat % s.d.length]!.counter+1,(2:Int),((((AA[k]!).copy) % 4).toNat:Int),(0:Int),(AI s.d[AA[k]!.device.toNat % s.d.length]!.ops 4 0).1[(AA[k]!.copy % 4).toNat]!.token+1⟩:DeviceOp) ((((AA[k]!).crash) % 3).toNat:Int)).1).id),vI (((AV (s.d[(((AA[k]!).device).toNat) % s.d.length]!) (⟨(((((AA[k]!).device).toNat) % s.d.length:Nat):Int),s.d[AA[k]!.device.toNat % s.d.length]!.counter+1,(2:Int),((((AA[k]!).copy) % 4).toNat:Int),(0:Int),(AI s.d[AA[k]!.device.toNat % s.d.length]!.ops 4 0).1[(AA[k]!.copy % 4).toNat]!.token+1⟩:DeviceOp) ((((AA[k]!).crash) % 3).toNat:Int)).1).counter),T5,vO (((AV (s.d[(((AA[k]!).device).toNat) % s.d.length]!) (⟨(((((AA[k]!).device).toNat) % s.d.length:Nat):Int),s.d[AA[k]!.device.toNat % s.d.length]!.counter+1,(2:Int),((((AA[k]!).copy) % 4).toNat:Int),(0:Int),(AI s.d[AA[k]!.device.toNat % s.d.length]!.ops 4 0).1[(AA[k]!.copy % 4).toNat]!.token+1⟩:DeviceOp) ((((AA[k]!).crash) % 3).toNat:Int)).1).halted)]) (.agg #[vI (((AV (s.d[(((AA[k]!).device).toNat) % s.d.length]!) (⟨(((((AA[k]!).device).toNat) % s.d.length:Nat):Int),s.d[AA[k]!.device.toNat % s.d.length]!.counter+1,(2:Int),((((AA[k]!).copy) % 4).toNat:Int),(0:Int),(AI s.d[AA[k]!.device.toNat % s.d.length]!.ops 4 0).1[(AA[k]!.copy % 4).toNat]!.token+1⟩:DeviceOp) ((((AA[k]!).crash) % 3).toNat:Int)).1).id),vI (((AV (s.d[(((AA[k]!).device).toNat) % s.d.length]!) (⟨(((((AA[k]!).device).toNat) % s.d.length:Nat):Int),s.d[AA[k]!.device.toNat % s.d.length]!.counter+1,(2:Int),((((AA[k]!).copy) % 4).toNat:Int),(0:Int),(AI s.d[AA[k]!.device.toNat % s.d.length]!.ops 4 0).1[(AA[k]!.copy % 4).toNat]!.token+1⟩:DeviceOp) ((((AA[k]!).crash) % 3).toNat:Int)).1).counter),T5,vO (((AV (s.d[(((AA[k]!).device).toNat) % s.d.length]!) (⟨(((((AA[k]!).device).toNat) % s.d.length:Nat):Int),s.d[AA[k]!.device.toNat % s.d.length]!.counter+1,(2:Int),((((AA[k]!).copy) % 4).toNat:Int),(0:Int),(AI s.d[AA[k]!.device.toNat % s.d.length]!.ops 4 0).1[(AA[k]!.copy % 4).toNat]!.token+1⟩:DeviceOp) ((((AA[k]!).crash) % 3).toNat:Int)).1).halted)]) rfl rfl rfl BG (fun u hu=>by simp only [List.mem_cons,List.not_mem_nil,or_false] at hu;rcases hu with rfl|rfl|rfl|rfl <;> first|rfl|exact E1.oneCell) (by repeat (constructor)) bV oT fF fun jM aL r1 o0 g4=>(?_))
        have b5:=b5.mv r1
        have a5:=a5.mv r1 o0 (fun b hb=>AJ (V6 b hb))
        have ho0_b8834_0:=ho0_b8834_0.mv r1 o0 (fun b hb=>AJ (ca b hb))
        have E1:=E1.mv r1
        have a4:=a4.mv r1
        have a8:=a8.mv r1
        have a0:=a0.keep o0 (AJ bW)
        have a7:=a7.keep o0 (AJ bX)
        have ho0_b8834_1:=ho0_b8834_1.mv r1 o0 (fun b hb=>AJ (cb b hb))
        have ho0_b8834_2:=ho0_b8834_2.mv r1 o0 (fun b hb=>AJ (O6 b hb))
        have ho0_b8834_3:=ho0_b8834_3.mv r1 o0 (fun b hb=>AJ (V7 b hb))
        have a9:=a9.keep o0 (AJ V5)
        have a6:=a6.keep o0 (AJ bY)
        have d2:=d2.keep o0 (AJ bZ)
        have hT:=by exact hT.mvB r1 o0 aS (by decide) (fun x hx=>by exact hx)
        refine AO (AH (vI ((AV (s.d[(((AA[k]!).device).toNat) % s.d.length]!) (⟨(((((AA[k]!).device).toNat) % s.d.length:Nat):Int),s.d[AA[k]!.device.toNat % s.d.length]!.counter+1,(2:Int),((((AA[k]!).copy) % 4).toNat:Int),(0:Int),(AI s.d[AA[k]!.device.toNat % s.d.length]!.ops 4 0).1[(AA[k]!.copy % 4).toNat]!.token+1⟩:DeviceOp) ((((AA[k]!).crash) % 3).toNat:Int)).2)) rfl (CD (EW (AB (AG (AG (AD kR (AC (AF (vI ((AV (s.d[(((AA[k]!).device).toNat) % s.d.length]!) (⟨(((((AA[k]!).device).toNat) % s.d.length:Nat):Int),s.d[AA[k]!.device.toNat % s.d.length]!.counter+1,(2:Int),((((AA[k]!).copy) % 4).toNat:Int),(0:Int),(AI s.d[AA[k]!.device.toNat % s.d.length]!.ops 4 0).1[(AA[k]!.copy % 4).toNat]!.token+1⟩:DeviceOp) ((((AA[k]!).crash) % 3).toNat:Int)).2)) rfl (AC (DX .i64 ((AV (s.d[(((AA[k]!).device).toNat) % s.d.length]!) (⟨(((((AA[k]!).device).toNat) % s.d.length:Nat):Int),s.d[AA[k]!.device.toNat % s.d.length]!.counter+1,(2:Int),((((AA[k]!).copy) % 4).toNat:Int),(0:Int),(AI s.d[AA[k]!.device.toNat % s.d.length]!.ops 4 0).1[(AA[k]!.copy % 4).toNat]!.token+1⟩:DeviceOp) ((((AA[k]!).crash) % 3).toNat:Int)).2) (0:Int) rfl rfl (AE (AB (AK (((AV (s.d[(((AA[k]!).device).toNat) % s.d.length]!) (⟨(((((AA[k]!).device).toNat) % s.d.length:Nat):Int),s.d[AA[k]!.device.toNat % s.d.length]!.counter+1,(2:Int),((((AA[k]!).copy) % 4).toNat:Int),(0:Int),(AI s.d[AA[k]!.device.toNat % s.d.length]!.ops 4 0).1[(AA[k]!.copy % 4).toNat]!.token+1⟩:DeviceOp) ((((AA[k]!).crash) % 3).toNat:Int)).2) != (0:Int)) rfl rfl (fun O7=>?_) (fun O7=>?_)))))))))))))))
        ·have hD:(AV (s.d[(((AA[k]!).device).toNat) % s.d.length]!) (⟨(((((AA[k]!).device).toNat) % s.d.length:Nat):Int),s.d[AA[k]!.device.toNat % s.d.length]!.counter+1,(2:Int),((((AA[k]!).copy) % 4).toNat:Int),(0:Int),(AI s.d[AA[k]!.device.toNat % s.d.length]!.ops 4 0).1[(AA[k]!.copy % 4).toNat]!.token+1⟩:DeviceOp) ((((AA[k]!).crash) % 3).toNat:Int)).2≠(0:Int):=by simpa using O7
         refine AG (AD kR (AC (AQ (vs:=[b0,a1,a3,a2]) U29_ rfl CL rfl a9 rfl (BK (AU (vs:=[b0,a1,a3,a2]) (.agg #[b0,a1,a3,a2]) rfl rfl rfl CL (fun u hu=>by simp only [List.mem_cons,List.not_mem_nil,or_false] at hu;rcases hu with rfl|rfl|rfl|rfl <;> first|exact a5.oneCell|exact ho0_b8834_1.oneCell|exact ho0_b8834_2.oneCell|exact ho0_b8834_3.oneCell) rC a6 oT aL fun jN fG F5 F6 cc=>(?_))))))
         have a5:=a5.mv F5 F6 (fun b hb=>AJ (d7 b hb))
         have ho0_b8834_1:=ho0_b8834_1.mv F5 F6 (fun b hb=>AJ (e2 b hb))
         have ho0_b8834_2:=ho0_b8834_2.mv F5 F6 (fun b hb=>AJ (d9 b hb))
         have ho0_b8834_3:=ho0_b8834_3.mv F5 F6 (fun b hb=>AJ (e0 b hb))
         have a4:=a4.mv F5
         have a0:=a0.keep F6 (AJ i2)
         have hT:=by exact hT.mvB F5 F6 aS (by decide) (fun x hx=>by exact hx)
         refine AE (AB (AS (AN (BC (AN (AZ rfl (FN (vs:=[b0,a1,a3,a2]) rfl rfl U29_ rfl CL rfl cc rfl) (Exists.intro _ (And.intro rfl (BK (AU (vs:=[b0,a1,a3,a2]) (.agg #[b0,a1,a3,a2]) rfl rfl rfl CL (fun u hu=>by simp only [List.mem_cons,List.not_mem_nil,or_false] at hu;rcases hu with rfl|rfl|rfl|rfl <;> first|exact a5.oneCell|exact ho0_b8834_1.oneCell|exact ho0_b8834_2.oneCell|exact ho0_b8834_3.oneCell) rC a0 oT fG fun jO fH F7 K0 cd=>(?_)))))))))))
         have a4:=a4.mv F7
         have a5:=a5.mv F7 K0 (fun b hb=>AJ (d4 b hb))
         have ho0_b8834_1:=ho0_b8834_1.mv F7 K0 (fun b hb=>AJ (nb0_b8834_1_b8834 b hb))
         have ho0_b8834_2:=ho0_b8834_2.mv F7 K0 (fun b hb=>AJ (nb0_b8834_2_b8834 b hb))
         have ho0_b8834_3:=ho0_b8834_3.mv F7 K0 (fun b hb=>AJ (nb0_b8834_3_b8834 b hb))
         have hT:=by exact hT.mvB F7 K0 aS (by decide) (fun x hx=>by exact hx)
         refine AE (AW (AB (AD kR (AC (CE .i64 ((k:Nat):Int) (1:Int) (((k+1:Nat):Int)) rfl rfl (EP oM oM) (AC (AF (vI ((k+1:Nat):Int)) rfl (AE (AB (?_))))))))))
         exact ⟨_,oM,(k+1),(s),(L),b0,a1,a3,a2,(e6 :: (d3 :: b6)),oM,(by rw [FD,← hr0_1];(symm;exact (by (rw [lv_bad (.inl aS) (by rw [GZ aS];assumption)];done)))),hT,rfl,⟨_,AL _ ⟨rfl,rfl,rfl,(by rfl),rfl,trivial⟩⟩,fH,a5,b9,ho0_b8834_1,b1,ho0_b8834_2,b4,ho0_b8834_3,b3,a4,cd,(by (repeat (first|assumption|apply List.mem_cons_of_mem))),d4,nb0_b8834_1_b8834,nb0_b8834_2_b8834,nb0_b8834_3_b8834,(fun b hb e=>c2 b e hb),(fun b hb e=>c3 b e hb),(fun b hb e=>c4 b e hb),c2,nn0_b8834_1_b8834_2,nn0_b8834_1_b8834_3,c3,nn0_b8834_2_b8834_1,nn0_b8834_2_b8834_3,c4,nn0_b8834_3_b8834_1,nn0_b8834_3_b8834_2⟩
        have hE:(AV (s.d[(((AA[k]!).device).toNat) % s.d.length]!) (⟨(((((AA[k]!).device).toNat) % s.d.length:Nat):Int),s.d[AA[k]!.device.toNat % s.d.length]!.counter+1,(2:Int),((((AA[k]!).copy) % 4).toNat:Int),(0:Int),(AI s.d[AA[k]!.device.toNat % s.d.length]!.ops 4 0).1[(AA[k]!.copy % 4).toNat]!.token+1⟩:DeviceOp) ((((AA[k]!).crash) % 3).toNat:Int)).2=(0:Int):=by simpa using O7
        refine AT (AB (AG (AD kR (AC (AF (b0) rfl (AC (AF (vI (((((AA[k]!).device).toNat) % s.d.length:Nat):Int)) rfl (AC (AQ (vs:=[vI (((AV (s.d[(((AA[k]!).device).toNat) % s.d.length]!) (⟨(((((AA[k]!).device).toNat) % s.d.length:Nat):Int),s.d[AA[k]!.device.toNat % s.d.length]!.counter+1,(2:Int),((((AA[k]!).copy) % 4).toNat:Int),(0:Int),(AI s.d[AA[k]!.device.toNat % s.d.length]!.ops 4 0).1[(AA[k]!.copy % 4).toNat]!.token+1⟩:DeviceOp) ((((AA[k]!).crash) % 3).toNat:Int)).1).id),vI (((AV (s.d[(((AA[k]!).device).toNat) % s.d.length]!) (⟨(((((AA[k]!).device).toNat) % s.d.length:Nat):Int),s.d[AA[k]!.device.toNat % s.d.length]!.counter+1,(2:Int),((((AA[k]!).copy) % 4).toNat:Int),(0:Int),(AI s.d[AA[k]!.device.toNat % s.d.length]!.ops 4 0).1[(AA[k]!.copy % 4).toNat]!.token+1⟩:DeviceOp) ((((AA[k]!).crash) % 3).toNat:Int)).1).counter),T5,vO (((AV (s.d[(((AA[k]!).device).toNat) % s.d.length]!) (⟨(((((AA[k]!).device).toNat) % s.d.length:Nat):Int),s.d[AA[k]!.device.toNat % s.d.length]!.counter+1,(2:Int),((((AA[k]!).copy) % 4).toNat:Int),(0:Int),(AI s.d[AA[k]!.device.toNat % s.d.length]!.ops 4 0).1[(AA[k]!.copy % 4).toNat]!.token+1⟩:DeviceOp) ((((AA[k]!).crash) % 3).toNat:Int)).1).halted)]) U31_ rfl BG rfl g4 rfl (AC (DO U24_ BG .i64 (((((AA[k]!).device).toNat) % s.d.length:Nat):Int) ((((AA[k]!).device).toNat) % s.d.length) rfl rfl rfl a5 oM fun jP g5=>(BK (DW ((AV (s.d[(((AA[k]!).device).toNat) % s.d.length]!) (⟨(((((AA[k]!).device).toNat) % s.d.length:Nat):Int),s.d[AA[k]!.device.toNat % s.d.length]!.counter+1,(2:Int),((((AA[k]!).copy) % 4).toNat:Int),(0:Int),(AI s.d[AA[k]!.device.toNat % s.d.length]!.ops 4 0).1[(AA[k]!.copy % 4).toNat]!.token+1⟩:DeviceOp) ((((AA[k]!).crash) % 3).toNat:Int)).1) (by decide) BG rfl rfl a5 g5 (b9 _ g5) oM ⟨_,rfl,E1⟩ aL fun jQ aM y8 o1 g0=>(?_))))))))))))))
        have b5:=b5.mv y8
        have ho0_b8834_0:=ho0_b8834_0.mv y8 o1 (fun b hb=>by simp only [List.mem_singleton];rintro rfl;exact absurd g5 (J8 _ hb))
        have a4:=a4.mv y8
        have a8:=a8.mv y8
        have a0:=a0.keep o1 (by simp only [List.mem_singleton];exact fun e=>absurd e.symm (d4 _ g5))
        have a7:=a7.keep o1 (by simp only [List.mem_singleton];exact fun e=>absurd e.symm (e5 _ g5))
        have ho0_b8834_1:=ho0_b8834_1.mv y8 o1 (fun b hb=>by simp only [List.mem_singleton];rintro rfl;exact absurd g5 (c2 _ hb))
        have ho0_b8834_2:=ho0_b8834_2.mv y8 o1 (fun b hb=>by simp only [List.mem_singleton];rintro rfl;exact absurd g5 (c3 _ hb))
        have ho0_b8834_3:=ho0_b8834_3.mv y8 o1 (fun b hb=>by simp only [List.mem_singleton];rintro rfl;exact absurd g5 (c4 _ hb))
        have a9:=a9.keep o1 (by simp only [List.mem_singleton];exact fun e=>absurd e.symm (d8 _ g5))
        have a6:=a6.keep o1 (by simp only [List.mem_singleton];exact fun e=>absurd e.symm (d7 _ g5))
        have d2:=d2.keep o1 (by simp only [List.mem_singleton];exact fun e=>absurd e.symm (O1 _ g5))
        have g4:=g4.keep o1 (by simp only [List.mem_singleton];exact fun e=>absurd e.symm (V6 _ g5))
        have hT:=hT.mvO y8 o1 a5 (fun b hq=>by have hq:=List.mem_singleton.1 hq;subst hq;exact g5) (by decide) (fun x hx=>by exact hx)
        refine AE (AB (AG (AD kR (AC (AP 4 GE ((AA[k]!).crash) rfl b5 (fun _ _ _ h=>CM h) fun jR ce=>(AC (CU U5_ rfl rfl ce (AC (DY ((AA[k]!).crash) (3:UInt8) (by decide) rfl rfl (AC (EG (((AA[k]!).crash) % 3) (2:UInt8) rfl rfl (AE (AB (AK ((((AA[k]!).crash) % 3) == (2:UInt8)) rfl rfl (fun O8=>?_) (fun O8=>?_)))))))))))))))
        ·have hF:((AA[k]!).crash) % 3=(2:UInt8):=by simpa using O8
         refine AG (AD kR (AC (AM 2 EE rfl (AC (AR U26_ rfl (a3) rfl a9 rfl (AC (AQ (vs:=[vI (((((AA[k]!).device).toNat) % s.d.length:Nat):Int),vI (s.d[AA[k]!.device.toNat % s.d.length]!.counter+1),vI 2,vI ((((AA[k]!).copy) % 4).toNat:Int),vI 0,vI ((AI s.d[AA[k]!.device.toNat % s.d.length]!.ops 4 0).1[(AA[k]!.copy % 4).toNat]!.token+1)]) U40_ rfl BX rfl d2 rfl (AC (EY (E:=Enc.devop) (xs:=[.tmp 135]) U26_ BX HC (by decide) [.agg #[vI (((((AA[k]!).device).toNat) % s.d.length:Nat):Int),vI (s.d[AA[k]!.device.toNat % s.d.length]!.counter+1),vI 2,vI ((((AA[k]!).copy) % 4).toNat:Int),vI 0,vI ((AI s.d[AA[k]!.device.toNat % s.d.length]!.ops 4 0).1[(AA[k]!.copy % 4).toNat]!.token+1)]] [[vI (((((AA[k]!).device).toNat) % s.d.length:Nat):Int),vI (s.d[AA[k]!.device.toNat % s.d.length]!.counter+1),vI 2,vI ((((AA[k]!).copy) % 4).toNat:Int),vI 0,vI ((AI s.d[AA[k]!.device.toNat % s.d.length]!.ops 4 0).1[(AA[k]!.copy % 4).toNat]!.token+1)]] [(⟨(((((AA[k]!).device).toNat) % s.d.length:Nat):Int),s.d[AA[k]!.device.toNat % s.d.length]!.counter+1,(2:Int),((((AA[k]!).copy) % 4).toNat:Int),(0:Int),(AI s.d[AA[k]!.device.toNat % s.d.length]!.ops 4 0).1[(AA[k]!.copy % 4).toNat]!.token+1⟩:DeviceOp)] rfl rfl rfl (Parts.cons rfl rfl (Parts.nil _ _ _)) oT aM fun jS jT fI y9 l3 V8=>(?_))))))))))
         have g0:=g0.mv y9 l3 (by simp)
         have ho0_b8834_0:=ho0_b8834_0.mv y9 l3 (by simp)
         have ho0_b8834_2:=ho0_b8834_2.mv y9 l3 (by simp)
         have a4:=a4.mv y9
         have a8:=a8.mv y9
         have a0:=a0.keep l3 (by simp)
         have a7:=a7.keep l3 (by simp)
         have ho0_b8834_1:=ho0_b8834_1.mv y9 l3 (by simp)
         have ho0_b8834_3:=ho0_b8834_3.mv y9 l3 (by simp)
         have a9:=a9.keep l3 (by simp)
         have a6:=a6.keep l3 (by simp)
         have d2:=d2.keep l3 (by simp)
         have g4:=g4.keep l3 (by simp)
         have hT:=by exact hT.mv0 y9 l3 (fun x hx=>by exact hx)
         have:=V8.len_le
         refine AC (CT (E:=Enc.devop) (l:=s.done) (m:=[(⟨(((((AA[k]!).device).toNat) % s.d.length:Nat):Int),s.d[AA[k]!.device.toNat % s.d.length]!.counter+1,(2:Int),((((AA[k]!).copy) % 4).toNat:Int),(0:Int),(AI s.d[AA[k]!.device.toNat % s.d.length]!.ops 4 0).1[(AA[k]!.copy % 4).toNat]!.token+1⟩:DeviceOp)]) U26_ OB rfl (by decide) rfl rfl ho0_b8834_2 V8 (fun _ hb=>.inl hb) b4 (by simp;omega) (by simp [maxLen];omega) fI fun i0 jU r2 O9 j3 g6 fJ C8 o2 i3=>(?_))
         have V9:∀ b,b0.ownBlock=some b→i0.ownBlock≠some b:=fun b hb e=>by rcases j3 with e1|e1 <;> rw [e1] at e <;> first|(cases e;have:=(g0.lt _ hb).2;omega)|(exact absurd e ((fun b hb e=>c3 b e hb) b hb))
         have hG:∀ b,b2.ownBlock=some b→i0.ownBlock≠some b:=fun b hb e=>by rcases j3 with e1|e1 <;> rw [e1] at e <;> first|(cases e;have:=(ho0_b8834_0.lt _ hb).2;omega)|(exact absurd e (nn0_b8834_0_b8834_2 b hb))
         have W0:∀ b,a1.ownBlock=some b→i0.ownBlock≠some b:=fun b hb e=>by rcases j3 with e1|e1 <;> rw [e1] at e <;> first|(cases e;have:=(ho0_b8834_1.lt _ hb).2;omega)|(exact absurd e (nn0_b8834_1_b8834_2 b hb))
         have W1:∀ b,a2.ownBlock=some b→i0.ownBlock≠some b:=fun b hb e=>by rcases j3 with e1|e1 <;> rw [e1] at e <;> first|(cases e;have:=(ho0_b8834_3.lt _ hb).2;omega)|(exact absurd e (nn0_b8834_3_b8834_2 b hb))
         have cf:∀ b,i0.ownBlock=some b→b≠c7:=fun b hb=>by rcases j3 with e1|e1 <;> rw [e1] at hb <;> first|(cases hb;have:=a0.lt;omega)|(exact nb0_b8834_2_b8834 b hb)
         have cg:∀ b,i0.ownBlock=some b→b≠b8:=fun b hb=>by rcases j3 with e1|e1 <;> rw [e1] at hb <;> first|(cases hb;have:=a7.lt;omega)|(exact f0 b hb)
         have P0:∀ b,i0.ownBlock=some b→b≠c5:=fun b hb=>by rcases j3 with e1|e1 <;> rw [e1] at hb <;> first|(cases hb;have:=a9.lt;omega)|(exact f1 b hb)
         have ch:∀ b,i0.ownBlock=some b→b≠c6:=fun b hb=>by rcases j3 with e1|e1 <;> rw [e1] at hb <;> first|(cases hb;have:=a6.lt;omega)|(exact d9 b hb)
         have hH:∀ b,i0.ownBlock=some b→b≠d3:=fun b hb=>by rcases j3 with e1|e1 <;> rw [e1] at hb <;> first|(cases hb;have:=d2.lt;omega)|(exact E0 b hb)
         have hJ:∀ b,i0.ownBlock=some b→b≠e6:=fun b hb=>by rcases j3 with e1|e1 <;> rw [e1] at hb <;> first|(cases hb;have:=g4.lt;omega)|(exact O6 b hb)
         have b9:∀ b,b0.ownBlock=some b→b∈r2:=fun b hb=>g6 b (b9 b hb)
         have b7:∀ b,b2.ownBlock=some b→b∈r2:=fun b hb=>g6 b (b7 b hb)
         have b1:∀ b,a1.ownBlock=some b→b∈r2:=fun b hb=>g6 b (b1 b hb)
         have b3:∀ b,a2.ownBlock=some b→b∈r2:=fun b hb=>g6 b (b3 b hb)
         have g2:c7∈r2:=g6 c7 rC
         have h6:b8∈r2:=g6 b8 rC
         have h7:c5∈r2:=g6 c5 rC
         have h8:c6∈r2:=g6 c6 rC
         have E2:d3∈r2:=g6 d3 (by repeat (constructor))
         have W2:e6∈r2:=g6 e6 (by repeat (constructor))
         have g0:=g0.mv C8 o2 (fun b hb=>by simp only [Option.mem_toList];exact (fun b hb e=>c3 b e hb) b hb)
         have ho0_b8834_0:=ho0_b8834_0.mv C8 o2 (fun b hb=>by simp only [Option.mem_toList];exact nn0_b8834_0_b8834_2 b hb)
         have a4:=a4.mv C8
         have a8:=a8.mv C8
         have a0:=a0.keep o2 (by simp only [Option.mem_toList];exact fun e=>absurd rfl (nb0_b8834_2_b8834 _ e))
         have a7:=a7.keep o2 (by simp only [Option.mem_toList];exact fun e=>absurd rfl (f0 _ e))
         have ho0_b8834_1:=ho0_b8834_1.mv C8 o2 (fun b hb=>by simp only [Option.mem_toList];exact nn0_b8834_1_b8834_2 b hb)
         have ho0_b8834_3:=ho0_b8834_3.mv C8 o2 (fun b hb=>by simp only [Option.mem_toList];exact nn0_b8834_3_b8834_2 b hb)
         have a9:=a9.keep o2 (by simp only [Option.mem_toList];exact fun e=>absurd rfl (f1 _ e))
         have a6:=a6.keep o2 (by simp only [Option.mem_toList];exact fun e=>absurd rfl (d9 _ e))
         have d2:=d2.keep o2 (by simp only [Option.mem_toList];exact fun e=>absurd rfl (E0 _ e))
         have g4:=g4.keep o2 (by simp only [Option.mem_toList];exact fun e=>absurd rfl (O6 _ e))
         have hT:=hT.mvO C8 o2 ho0_b8834_2 (fun b hb=>Option.mem_toList.1 hb) (by decide) g6
         refine AC (AM 2 EE rfl (BK (BP (i0) rfl rfl i3.oneCell HR (by repeat (assumption)) a9 oT fJ fun jV fK z0 o3 w4=>(?_))))
         have g0:=g0.mv z0 o3 (fun b hb=>AJ (d8 b hb))
         have ho0_b8834_0:=ho0_b8834_0.mv z0 o3 (fun b hb=>AJ (N5 b hb))
         have i3:=i3.mv z0 o3 (fun b hb=>AJ (P0 b hb))
         have a4:=a4.mv z0
         have a8:=a8.mv z0
         have a0:=a0.keep o3 (AJ w0)
         have a7:=a7.keep o3 (AJ w1)
         have ho0_b8834_1:=ho0_b8834_1.mv z0 o3 (fun b hb=>AJ (e4 b hb))
         have ho0_b8834_3:=ho0_b8834_3.mv z0 o3 (fun b hb=>AJ (e7 b hb))
         have a6:=a6.keep o3 (AJ (Ne.symm w2))
         have d2:=d2.keep o3 (AJ (Ne.symm O0))
         have g4:=g4.keep o3 (AJ (Ne.symm V5))
         have hT:=by exact hT.mvB z0 o3 aS (by decide) (fun x hx=>by exact hx)
         refine AE (AB (AG (AD kR (AC (AM 2 GB rfl (AC (AR U3_ rfl (vI 2) rfl d2 rfl (AC (DC .i64 (2:Int) (2:Int) rfl rfl (AE (AB (AK true rfl rfl (fun _=>AD kR (AC (AM 3 GO rfl (AC (AR U27_ rfl (a2) rfl w4 rfl (AC (AF (vI ((((AA[k]!).copy) % 4).toNat:Int)) rfl (AC (EY (E:=Enc.int) (xs:=[.tmp 144]) U27_ s_3 z_3 (by decide) [vI ((((AA[k]!).copy) % 4).toNat:Int)] [[vI ((((AA[k]!).copy) % 4).toNat:Int)]] [((((AA[k]!).copy) % 4).toNat:Int)] rfl rfl rfl (Parts.cons rfl rfl (Parts.nil _ _ _)) oT fK fun jW jX fL z1 l4 W3=>(?_)))))))))) (fun h=>by cases h)))))))))))))
         have g0:=g0.mv z1 l4 (by simp)
         have ho0_b8834_0:=ho0_b8834_0.mv z1 l4 (by simp)
         have i3:=i3.mv z1 l4 (by simp)
         have ho0_b8834_3:=ho0_b8834_3.mv z1 l4 (by simp)
         have a4:=a4.mv z1
         have a8:=a8.mv z1
         have a0:=a0.keep l4 (by simp)
         have a7:=a7.keep l4 (by simp)
         have ho0_b8834_1:=ho0_b8834_1.mv z1 l4 (by simp)
         have w4:=w4.keep l4 (by simp)
         have a6:=a6.keep l4 (by simp)
         have d2:=d2.keep l4 (by simp)
         have g4:=g4.keep l4 (by simp)
         have hT:=by exact hT.mv0 z1 l4 (fun x hx=>by exact hx)
         have:=W3.len_le
         refine AC (CT (E:=Enc.int) (l:=s.shown) (m:=[((((AA[k]!).copy) % 4).toNat:Int)]) U27_ i_3 rfl (by decide) rfl rfl ho0_b8834_3 W3 (fun _ hb=>.inl hb) b3 (by simp;omega) (by simp [maxLen];omega) fL fun l5 jY o4 ci j4 g7 fM F8 z2 K1=>(?_))
         have W4:∀ b,b0.ownBlock=some b→l5.ownBlock≠some b:=fun b hb e=>by rcases j4 with e1|e1 <;> rw [e1] at e <;> first|(cases e;have:=(g0.lt _ hb).2;omega)|(exact absurd e ((fun b hb e=>c4 b e hb) b hb))
         have hK:∀ b,b2.ownBlock=some b→l5.ownBlock≠some b:=fun b hb e=>by rcases j4 with e1|e1 <;> rw [e1] at e <;> first|(cases e;have:=(ho0_b8834_0.lt _ hb).2;omega)|(exact absurd e (nn0_b8834_0_b8834_3 b hb))
         have W5:∀ b,i0.ownBlock=some b→l5.ownBlock≠some b:=fun b hb e=>by rcases j4 with e1|e1 <;> rw [e1] at e <;> first|(cases e;have:=(i3.lt _ hb).2;omega)|(exact absurd e ((fun b hb e=>W1 b e hb) b hb))
         have W6:∀ b,a1.ownBlock=some b→l5.ownBlock≠some b:=fun b hb e=>by rcases j4 with e1|e1 <;> rw [e1] at e <;> first|(cases e;have:=(ho0_b8834_1.lt _ hb).2;omega)|(exact absurd e (nn0_b8834_1_b8834_3 b hb))
         have cj:∀ b,l5.ownBlock=some b→b≠c7:=fun b hb=>by rcases j4 with e1|e1 <;> rw [e1] at hb <;> first|(cases hb;have:=a0.lt;omega)|(exact nb0_b8834_3_b8834 b hb)
         have ck:∀ b,l5.ownBlock=some b→b≠b8:=fun b hb=>by rcases j4 with e1|e1 <;> rw [e1] at hb <;> first|(cases hb;have:=a7.lt;omega)|(exact f2 b hb)
         have W7:∀ b,l5.ownBlock=some b→b≠c5:=fun b hb=>by rcases j4 with e1|e1 <;> rw [e1] at hb <;> first|(cases hb;have:=w4.lt;omega)|(exact e7 b hb)
         have cm:∀ b,l5.ownBlock=some b→b≠c6:=fun b hb=>by rcases j4 with e1|e1 <;> rw [e1] at hb <;> first|(cases hb;have:=a6.lt;omega)|(exact e0 b hb)
         have hL:∀ b,l5.ownBlock=some b→b≠d3:=fun b hb=>by rcases j4 with e1|e1 <;> rw [e1] at hb <;> first|(cases hb;have:=d2.lt;omega)|(exact O2 b hb)
         have hM:∀ b,l5.ownBlock=some b→b≠e6:=fun b hb=>by rcases j4 with e1|e1 <;> rw [e1] at hb <;> first|(cases hb;have:=g4.lt;omega)|(exact V7 b hb)
         have b9:∀ b,b0.ownBlock=some b→b∈o4:=fun b hb=>g7 b (b9 b hb)
         have b7:∀ b,b2.ownBlock=some b→b∈o4:=fun b hb=>g7 b (b7 b hb)
         have O9:∀ b,i0.ownBlock=some b→b∈o4:=fun b hb=>g7 b (O9 b hb)
         have b1:∀ b,a1.ownBlock=some b→b∈o4:=fun b hb=>g7 b (b1 b hb)
         have g2:c7∈o4:=g7 c7 (by repeat (assumption))
         have h6:b8∈o4:=g7 b8 (by repeat (assumption))
         have h7:c5∈o4:=g7 c5 (by repeat (assumption))
         have h8:c6∈o4:=g7 c6 (by repeat (assumption))
         have E2:d3∈o4:=g7 d3 (by repeat (assumption))
         have W2:e6∈o4:=g7 e6 (by repeat (assumption))
         have g0:=g0.mv F8 z2 (fun b hb=>by simp only [Option.mem_toList];exact (fun b hb e=>c4 b e hb) b hb)
         have i3:=i3.mv F8 z2 (fun b hb=>by simp only [Option.mem_toList];exact (fun b hb e=>W1 b e hb) b hb)
         have a4:=a4.mv F8
         have a8:=a8.mv F8
         have a0:=a0.keep z2 (by simp only [Option.mem_toList];exact fun e=>absurd rfl (nb0_b8834_3_b8834 _ e))
         have a7:=a7.keep z2 (by simp only [Option.mem_toList];exact fun e=>absurd rfl (f2 _ e))
         have ho0_b8834_1:=ho0_b8834_1.mv F8 z2 (fun b hb=>by simp only [Option.mem_toList];exact nn0_b8834_1_b8834_3 b hb)
         have w4:=w4.keep z2 (by simp only [Option.mem_toList];exact fun e=>absurd rfl (e7 _ e))
         have a6:=a6.keep z2 (by simp only [Option.mem_toList];exact fun e=>absurd rfl (e0 _ e))
         have hT:=hT.mvO F8 z2 ho0_b8834_3 (fun b hb=>Option.mem_toList.1 hb) (by decide) g7
         refine AC (AM 3 GO rfl (BK (BP (l5) rfl rfl K1.oneCell s_27 (by repeat (assumption)) w4 oT fM fun jZ fN C9 z3 cn=>(?_))))
         have g0:=g0.mv C9 z3 (fun b hb=>AJ (d8 b hb))
         have i3:=i3.mv C9 z3 (fun b hb=>AJ (P0 b hb))
         have K1:=K1.mv C9 z3 (fun b hb=>AJ (W7 b hb))
         have a4:=a4.mv C9
         have a8:=a8.mv C9
         have a0:=a0.keep z3 (AJ w0)
         have a7:=a7.keep z3 (AJ w1)
         have ho0_b8834_1:=ho0_b8834_1.mv C9 z3 (fun b hb=>AJ (e4 b hb))
         have a6:=a6.keep z3 (AJ (Ne.symm w2))
         have hT:=by exact hT.mvB C9 z3 aS (by decide) (fun x hx=>by exact hx)
         refine AE (AW (AB (?_)))
         exact ⟨((⟨s.d.set ((((AA[k]!).device).toNat) % s.d.length) ((AV (s.d[(((AA[k]!).device).toNat) % s.d.length]!) (⟨(((((AA[k]!).device).toNat) % s.d.length:Nat):Int),s.d[AA[k]!.device.toNat % s.d.length]!.counter+1,(2:Int),((((AA[k]!).copy) % 4).toNat:Int),(0:Int),(AI s.d[AA[k]!.device.toNat % s.d.length]!.ops 4 0).1[(AA[k]!.copy % 4).toNat]!.token+1⟩:DeviceOp) ((((AA[k]!).crash) % 3).toNat:Int)).1),s.b,s.done++([(⟨(((((AA[k]!).device).toNat) % s.d.length:Nat):Int),s.d[AA[k]!.device.toNat % s.d.length]!.counter+1,(2:Int),((((AA[k]!).copy) % 4).toNat:Int),(0:Int),(AI s.d[AA[k]!.device.toNat % s.d.length]!.ops 4 0).1[(AA[k]!.copy % 4).toNat]!.token+1⟩:DeviceOp)]),s.shown++([((((AA[k]!).copy) % 4).toNat:Int)])⟩:HouseR)),(L),b0,a1,i0,l5,o4,(by (rw [lv_a2s aS (HP aS aS aS) (by rw [GZ aS];assumption) aS];(rw [GZ aS];rfl))),hT,trivial,⟨_,AL _ ⟨rfl,rfl,rfl,trivial⟩⟩,fN,g0,b9,ho0_b8834_1,b1,i3,O9,K1,ci,a4,a8,a0,aS,a7,aS,cn,aS,a6,aS,d4,e5,d8,d7,nb0_b8834_1_b8834,f8,e4,e2,cf,cg,P0,ch,cj,ck,W7,cm,(fun b hb e=>c2 b e hb),V9,W4,c2,W0,W6,(fun b hb e=>V9 b e hb),(fun b hb e=>W0 b e hb),W5,(fun b hb e=>W4 b e hb),(fun b hb e=>W6 b e hb),(fun b hb e=>W5 b e hb)⟩
        have hN:((AA[k]!).crash) % 3≠(2:UInt8):=by simpa using O8
        refine AT (AW (AB (?_)))
        exact ⟨((⟨s.d.set ((((AA[k]!).device).toNat) % s.d.length) ((AV (s.d[(((AA[k]!).device).toNat) % s.d.length]!) (⟨(((((AA[k]!).device).toNat) % s.d.length:Nat):Int),s.d[AA[k]!.device.toNat % s.d.length]!.counter+1,(2:Int),((((AA[k]!).copy) % 4).toNat:Int),(0:Int),(AI s.d[AA[k]!.device.toNat % s.d.length]!.ops 4 0).1[(AA[k]!.copy % 4).toNat]!.token+1⟩:DeviceOp) ((((AA[k]!).crash) % 3).toNat:Int)).1),s.b,s.done,s.shown⟩:HouseR)),(L),b0,a1,a3,a2,(e6 :: (d3 :: b6)),(by (rw [NQ (.inl aS) (HP aS aS aS) (by rw [GZ aS];assumption) aS];(rw [GZ aS];rfl))),hT,trivial,⟨_,AL _ ⟨rfl,rfl,rfl,trivial⟩⟩,aM,g0,b9,ho0_b8834_1,b1,ho0_b8834_2,b4,ho0_b8834_3,b3,a4,a8,a0,(by (repeat (first|assumption|apply List.mem_cons_of_mem))),a7,(by (repeat (first|assumption|apply List.mem_cons_of_mem))),a9,(by (repeat (first|assumption|apply List.mem_cons_of_mem))),a6,(by (repeat (first|assumption|apply List.mem_cons_of_mem))),d4,e5,d8,d7,nb0_b8834_1_b8834,f8,e4,e2,nb0_b8834_2_b8834,f0,f1,d9,nb0_b8834_3_b8834,f2,e7,e0,(fun b hb e=>c2 b e hb),(fun b hb e=>c3 b e hb),(fun b hb e=>c4 b e hb),c2,nn0_b8834_1_b8834_2,nn0_b8834_1_b8834_3,c3,nn0_b8834_2_b8834_1,nn0_b8834_2_b8834_3,c4,nn0_b8834_3_b8834_1,nn0_b8834_3_b8834_2⟩
       refine AO (AF (b0) rfl (CD (AO (AF (vI (((((AA[k]!).device).toNat) % s.d.length:Nat):Int)) rfl (CD (AO (BZ U24_ BG .i64 (((((AA[k]!).device).toNat) % s.d.length:Nat):Int) ((((AA[k]!).device).toNat) % s.d.length) rfl rfl rfl a5.rdB oM fun ka co=>(CD (AO (BT U31_ rfl BG rfl co fun P1 E3=>(?_)))))))))))
       have E3:=E3.2
       refine CD (AO (AQ (vs:=[vI (((((AA[k]!).device).toNat) % s.d.length:Nat):Int),vI (s.d[AA[k]!.device.toNat % s.d.length]!.counter+1),vI 2,vI ((((AA[k]!).copy) % 4).toNat:Int),vI 0,vI ((AI s.d[AA[k]!.device.toNat % s.d.length]!.ops 4 0).1[(AA[k]!.copy % 4).toNat]!.token+1)]) U40_ rfl BX rfl d2 rfl (CD (AO (AP 4 GE ((AA[k]!).crash) rfl b5 (fun _ _ _ h=>CM h) fun kb cp=>(CD (AO (CU U5_ rfl rfl cp (CD (DA rfl (fun w4_ k4_=>DY ((AA[k]!).crash) (3:UInt8) (by decide) rfl rfl (⟨rfl,rfl⟩)) (DA rfl (fun w4_ k4_=>FF .u8 .i64 U5_ U3_ ((((AA[k]!).crash) % 3).toNat:Int) ((((AA[k]!).crash) % 3).toNat:Int) rfl (by have:=(((AA[k]!).crash) % 3).toNat_lt;exact EP oM rfl) (⟨rfl,rfl⟩)) (DU (CC [vI 0,vI 0,nS,vO false] HO rfl T4 fun e3 aN fO aO r3 l6 P2=>(?_))))))))))))))
       have cq:DB c7 e3:=by show c7≠e3;have:=a0.lt;omega
       have cr:DB b8 e3:=by show b8≠e3;have:=a7.lt;omega
       have W8:DB c5 e3:=by show c5≠e3;have:=a9.lt;omega
       have ct:DB c6 e3:=by show c6≠e3;have:=a6.lt;omega
       have cu:DB d3 e3:=by show d3≠e3;have:=d2.lt;omega
       have W9:∀ b,b0.ownBlock=some b→b≠e3:=fun b hb=>by have:=(a5.lt b hb).2;omega
       have cv:∀ b,b2.ownBlock=some b→b≠e3:=fun b hb=>by have:=(ho0_b8834_0.lt b hb).2;omega
       have cw:∀ b,a1.ownBlock=some b→b≠e3:=fun b hb=>by have:=(ho0_b8834_1.lt b hb).2;omega
       have P3:∀ b,a3.ownBlock=some b→b≠e3:=fun b hb=>by have:=(ho0_b8834_2.lt b hb).2;omega
       have X0:∀ b,a2.ownBlock=some b→b≠e3:=fun b hb=>by have:=(ho0_b8834_3.lt b hb).2;omega
       have b9:∀ b,b0.ownBlock=some b→b∈(e3 :: (d3 :: b6)):=fun b hb=>List.mem_cons_of_mem _ (b9 b hb)
       have b7:∀ b,b2.ownBlock=some b→b∈(e3 :: (d3 :: b6)):=fun b hb=>List.mem_cons_of_mem _ (b7 b hb)
       have b1:∀ b,a1.ownBlock=some b→b∈(e3 :: (d3 :: b6)):=fun b hb=>List.mem_cons_of_mem _ (b1 b hb)
       have b4:∀ b,a3.ownBlock=some b→b∈(e3 :: (d3 :: b6)):=fun b hb=>List.mem_cons_of_mem _ (b4 b hb)
       have b3:∀ b,a2.ownBlock=some b→b∈(e3 :: (d3 :: b6)):=fun b hb=>List.mem_cons_of_mem _ (b3 b hb)
       clear fO
       have b5:=b5.mv r3
       have a5:=a5.mv r3 l6 (by simp)
       have ho0_b8834_0:=ho0_b8834_0.mv r3 l6 (by simp)
       have E3:Enc.device.rd aN ((e3 :: (d3 :: b6))++O) P1 (s.d[(((AA[k]!).device).toNat) % s.d.length]!):=Enc.mv Enc.device (x:=s.d[(((AA[k]!).device).toNat) % s.d.length]!) E3 r3
       have a4:=a4.mv r3
       have a8:=a8.mv r3
       have a0:=a0.keep l6 (by simp)
       have a7:=a7.keep l6 (by simp)
       have ho0_b8834_1:=ho0_b8834_1.mv r3 l6 (by simp)
       have ho0_b8834_2:=ho0_b8834_2.mv r3 l6 (by simp)
       have ho0_b8834_3:=ho0_b8834_3.mv r3 l6 (by simp)
       have a9:=a9.keep l6 (by simp)
       have a6:=a6.keep l6 (by simp)
       have d2:=d2.keep l6 (by simp)
       have hT:=by exact hT.mv0 r3 l6 (fun x hx=>by exact List.mem_cons_of_mem _ hx)
       refine ⟨l6,?_⟩
       refine DU (BI (vs:=[vA P1.toArray,vA #[vI (((((AA[k]!).device).toNat) % s.d.length:Nat):Int),vI (s.d[AA[k]!.device.toNat % s.d.length]!.counter+1),vI 2,vI ((((AA[k]!).copy) % 4).toNat:Int),vI 0,vI ((AI s.d[AA[k]!.device.toNat % s.d.length]!.ops 4 0).1[(AA[k]!.copy % 4).toNat]!.token+1)],vI ((((AA[k]!).crash) % 3).toNat:Int)]) HK (NP (O:=(e3 :: (d3 :: b6))++O) P1 (s.d[(((AA[k]!).device).toNat) % s.d.length]!) [vI (((((AA[k]!).device).toNat) % s.d.length:Nat):Int),vI (s.d[AA[k]!.device.toNat % s.d.length]!.counter+1),vI 2,vI ((((AA[k]!).copy) % 4).toNat:Int),vI 0,vI ((AI s.d[AA[k]!.device.toNat % s.d.length]!.ops 4 0).1[(AA[k]!.copy % 4).toNat]!.token+1)] (⟨(((((AA[k]!).device).toNat) % s.d.length:Nat):Int),s.d[AA[k]!.device.toNat % s.d.length]!.counter+1,(2:Int),((((AA[k]!).copy) % 4).toNat:Int),(0:Int),(AI s.d[AA[k]!.device.toNat % s.d.length]!.ops 4 0).1[(AA[k]!.copy % 4).toNat]!.token+1⟩:DeviceOp) ((((AA[k]!).crash) % 3).toNat:Int) aN E3 rfl aO.lt) rfl aO fun kc kd fP u3 i8 fQ=>(?_))
       obtain ⟨X1,rfl,cx⟩:=fQ
       have b5:=b5.mv u3
       have a5:=a5.mv u3 i8 (by simp)
       have ho0_b8834_0:=ho0_b8834_0.mv u3 i8 (by simp)
       have a4:=a4.mv u3
       have a8:=a8.mv u3
       have a0:=a0.keep i8 (by simp)
       have a7:=a7.keep i8 (by simp)
       have ho0_b8834_1:=ho0_b8834_1.mv u3 i8 (by simp)
       have ho0_b8834_2:=ho0_b8834_2.mv u3 i8 (by simp)
       have ho0_b8834_3:=ho0_b8834_3.mv u3 i8 (by simp)
       have a9:=a9.keep i8 (by simp)
       have a6:=a6.keep i8 (by simp)
       have d2:=d2.keep i8 (by simp)
       have P2:=P2.keep i8 (by simp)
       have hT:=by exact hT.mv0 u3 i8 (fun x hx=>by exact hx)
       refine ⟨i8,?_⟩
       refine AO (AF (vT #[vA X1.toArray,vI ((AV (s.d[(((AA[k]!).device).toNat) % s.d.length]!) (⟨(((((AA[k]!).device).toNat) % s.d.length:Nat):Int),s.d[AA[k]!.device.toNat % s.d.length]!.counter+1,(2:Int),((((AA[k]!).copy) % 4).toNat:Int),(0:Int),(AI s.d[AA[k]!.device.toNat % s.d.length]!.ops 4 0).1[(AA[k]!.copy % 4).toNat]!.token+1⟩:DeviceOp) ((((AA[k]!).crash) % 3).toNat:Int)).2)]) rfl (CD (AO (BD (vA X1.toArray) rfl rfl (CD (AO (BD (vI ((AV (s.d[(((AA[k]!).device).toNat) % s.d.length]!) (⟨(((((AA[k]!).device).toNat) % s.d.length:Nat):Int),s.d[AA[k]!.device.toNat % s.d.length]!.counter+1,(2:Int),((((AA[k]!).copy) % 4).toNat:Int),(0:Int),(AI s.d[AA[k]!.device.toNat % s.d.length]!.ops 4 0).1[(AA[k]!.copy % 4).toNat]!.token+1⟩:DeviceOp) ((((AA[k]!).crash) % 3).toNat:Int)).2)) rfl rfl (CD (?_)))))))))
       obtain ⟨T6,rfl,E4⟩:=cx
       have:=E4.len_le
       refine FO (AU (vs:=[vI (((AV (s.d[(((AA[k]!).device).toNat) % s.d.length]!) (⟨(((((AA[k]!).device).toNat) % s.d.length:Nat):Int),s.d[AA[k]!.device.toNat % s.d.length]!.counter+1,(2:Int),((((AA[k]!).copy) % 4).toNat:Int),(0:Int),(AI s.d[AA[k]!.device.toNat % s.d.length]!.ops 4 0).1[(AA[k]!.copy % 4).toNat]!.token+1⟩:DeviceOp) ((((AA[k]!).crash) % 3).toNat:Int)).1).id),vI (((AV (s.d[(((AA[k]!).device).toNat) % s.d.length]!) (⟨(((((AA[k]!).device).toNat) % s.d.length:Nat):Int),s.d[AA[k]!.device.toNat % s.d.length]!.counter+1,(2:Int),((((AA[k]!).copy) % 4).toNat:Int),(0:Int),(AI s.d[AA[k]!.device.toNat % s.d.length]!.ops 4 0).1[(AA[k]!.copy % 4).toNat]!.token+1⟩:DeviceOp) ((((AA[k]!).crash) % 3).toNat:Int)).1).counter),T6,vO (((AV (s.d[(((AA[k]!).device).toNat) % s.d.length]!) (⟨(((((AA[k]!).device).toNat) % s.d.length:Nat):Int),s.d[AA[k]!.device.toNat % s.d.length]!.counter+1,(2:Int),((((AA[k]!).copy) % 4).toNat:Int),(0:Int),(AI s.d[AA[k]!.device.toNat % s.d.length]!.ops 4 0).1[(AA[k]!.copy % 4).toNat]!.token+1⟩:DeviceOp) ((((AA[k]!).crash) % 3).toNat:Int)).1).halted)]) (.agg #[vI (((AV (s.d[(((AA[k]!).device).toNat) % s.d.length]!) (⟨(((((AA[k]!).device).toNat) % s.d.length:Nat):Int),s.d[AA[k]!.device.toNat % s.d.length]!.counter+1,(2:Int),((((AA[k]!).copy) % 4).toNat:Int),(0:Int),(AI s.d[AA[k]!.device.toNat % s.d.length]!.ops 4 0).1[(AA[k]!.copy % 4).toNat]!.token+1⟩:DeviceOp) ((((AA[k]!).crash) % 3).toNat:Int)).1).id),vI (((AV (s.d[(((AA[k]!).device).toNat) % s.d.length]!) (⟨(((((AA[k]!).device).toNat) % s.d.length:Nat):Int),s.d[AA[k]!.device.toNat % s.d.length]!.counter+1,(2:Int),((((AA[k]!).copy) % 4).toNat:Int),(0:Int),(AI s.d[AA[k]!.device.toNat % s.d.length]!.ops 4 0).1[(AA[k]!.copy % 4).toNat]!.token+1⟩:DeviceOp) ((((AA[k]!).crash) % 3).toNat:Int)).1).counter),T6,vO (((AV (s.d[(((AA[k]!).device).toNat) % s.d.length]!) (⟨(((((AA[k]!).device).toNat) % s.d.length:Nat):Int),s.d[AA[k]!.device.toNat % s.d.length]!.counter+1,(2:Int),((((AA[k]!).copy) % 4).toNat:Int),(0:Int),(AI s.d[AA[k]!.device.toNat % s.d.length]!.ops 4 0).1[(AA[k]!.copy % 4).toNat]!.token+1⟩:DeviceOp) ((((AA[k]!).crash) % 3).toNat:Int)).1).halted)]) rfl rfl rfl BG (fun u hu=>by simp only [List.mem_cons,List.not_mem_nil,or_false] at hu;rcases hu with rfl|rfl|rfl|rfl <;> first|rfl|exact E4.oneCell) (by repeat (constructor)) P2 oT fP fun ke aP r4 o5 g8=>(?_))
       have b5:=b5.mv r4
       have a5:=a5.mv r4 o5 (fun b hb=>AJ (W9 b hb))
       have ho0_b8834_0:=ho0_b8834_0.mv r4 o5 (fun b hb=>AJ (cv b hb))
       have E4:=E4.mv r4
       have a4:=a4.mv r4
       have a8:=a8.mv r4
       have a0:=a0.keep o5 (AJ cq)
       have a7:=a7.keep o5 (AJ cr)
       have ho0_b8834_1:=ho0_b8834_1.mv r4 o5 (fun b hb=>AJ (cw b hb))
       have ho0_b8834_2:=ho0_b8834_2.mv r4 o5 (fun b hb=>AJ (P3 b hb))
       have ho0_b8834_3:=ho0_b8834_3.mv r4 o5 (fun b hb=>AJ (X0 b hb))
       have a9:=a9.keep o5 (AJ W8)
       have a6:=a6.keep o5 (AJ ct)
       have d2:=d2.keep o5 (AJ cu)
       have hT:=by exact hT.mvB r4 o5 aS (by decide) (fun x hx=>by exact hx)
       refine AO (AH (vI ((AV (s.d[(((AA[k]!).device).toNat) % s.d.length]!) (⟨(((((AA[k]!).device).toNat) % s.d.length:Nat):Int),s.d[AA[k]!.device.toNat % s.d.length]!.counter+1,(2:Int),((((AA[k]!).copy) % 4).toNat:Int),(0:Int),(AI s.d[AA[k]!.device.toNat % s.d.length]!.ops 4 0).1[(AA[k]!.copy % 4).toNat]!.token+1⟩:DeviceOp) ((((AA[k]!).crash) % 3).toNat:Int)).2)) rfl (CD (EW (AB (AG (AG (AD kR (AC (AF (vI ((AV (s.d[(((AA[k]!).device).toNat) % s.d.length]!) (⟨(((((AA[k]!).device).toNat) % s.d.length:Nat):Int),s.d[AA[k]!.device.toNat % s.d.length]!.counter+1,(2:Int),((((AA[k]!).copy) % 4).toNat:Int),(0:Int),(AI s.d[AA[k]!.device.toNat % s.d.length]!.ops 4 0).1[(AA[k]!.copy % 4).toNat]!.token+1⟩:DeviceOp) ((((AA[k]!).crash) % 3).toNat:Int)).2)) rfl (AC (DX .i64 ((AV (s.d[(((AA[k]!).device).toNat) % s.d.length]!) (⟨(((((AA[k]!).device).toNat) % s.d.length:Nat):Int),s.d[AA[k]!.device.toNat % s.d.length]!.counter+1,(2:Int),((((AA[k]!).copy) % 4).toNat:Int),(0:Int),(AI s.d[AA[k]!.device.toNat % s.d.length]!.ops 4 0).1[(AA[k]!.copy % 4).toNat]!.token+1⟩:DeviceOp) ((((AA[k]!).crash) % 3).toNat:Int)).2) (0:Int) rfl rfl (AE (AB (AK (((AV (s.d[(((AA[k]!).device).toNat) % s.d.length]!) (⟨(((((AA[k]!).device).toNat) % s.d.length:Nat):Int),s.d[AA[k]!.device.toNat % s.d.length]!.counter+1,(2:Int),((((AA[k]!).copy) % 4).toNat:Int),(0:Int),(AI s.d[AA[k]!.device.toNat % s.d.length]!.ops 4 0).1[(AA[k]!.copy % 4).toNat]!.token+1⟩:DeviceOp) ((((AA[k]!).crash) % 3).toNat:Int)).2) != (0:Int)) rfl rfl (fun P4=>?_) (fun P4=>?_)))))))))))))))
       ·have hP:(AV (s.d[(((AA[k]!).device).toNat) % s.d.length]!) (⟨(((((AA[k]!).device).toNat) % s.d.length:Nat):Int),s.d[AA[k]!.device.toNat % s.d.length]!.counter+1,(2:Int),((((AA[k]!).copy) % 4).toNat:Int),(0:Int),(AI s.d[AA[k]!.device.toNat % s.d.length]!.ops 4 0).1[(AA[k]!.copy % 4).toNat]!.token+1⟩:DeviceOp) ((((AA[k]!).crash) % 3).toNat:Int)).2≠(0:Int):=by simpa using P4
        refine AG (AD kR (AC (AQ (vs:=[b0,a1,a3,a2]) U29_ rfl CL rfl a9 rfl (BK (AU (vs:=[b0,a1,a3,a2]) (.agg #[b0,a1,a3,a2]) rfl rfl rfl CL (fun u hu=>by simp only [List.mem_cons,List.not_mem_nil,or_false] at hu;rcases hu with rfl|rfl|rfl|rfl <;> first|exact a5.oneCell|exact ho0_b8834_1.oneCell|exact ho0_b8834_2.oneCell|exact ho0_b8834_3.oneCell) rC a6 oT aP fun kg fR F9 G0 cy=>(?_))))))
        have a5:=a5.mv F9 G0 (fun b hb=>AJ (d7 b hb))
        have ho0_b8834_1:=ho0_b8834_1.mv F9 G0 (fun b hb=>AJ (e2 b hb))
        have ho0_b8834_2:=ho0_b8834_2.mv F9 G0 (fun b hb=>AJ (d9 b hb))
        have ho0_b8834_3:=ho0_b8834_3.mv F9 G0 (fun b hb=>AJ (e0 b hb))
        have a4:=a4.mv F9
        have a0:=a0.keep G0 (AJ i2)
        have hT:=by exact hT.mvB F9 G0 aS (by decide) (fun x hx=>by exact hx)
        refine AE (AB (AS (AN (BC (AN (AZ rfl (FN (vs:=[b0,a1,a3,a2]) rfl rfl U29_ rfl CL rfl cy rfl) (Exists.intro _ (And.intro rfl (BK (AU (vs:=[b0,a1,a3,a2]) (.agg #[b0,a1,a3,a2]) rfl rfl rfl CL (fun u hu=>by simp only [List.mem_cons,List.not_mem_nil,or_false] at hu;rcases hu with rfl|rfl|rfl|rfl <;> first|exact a5.oneCell|exact ho0_b8834_1.oneCell|exact ho0_b8834_2.oneCell|exact ho0_b8834_3.oneCell) rC a0 oT fR fun kh fS G1 K2 cz=>(?_)))))))))))
        have a4:=a4.mv G1
        have a5:=a5.mv G1 K2 (fun b hb=>AJ (d4 b hb))
        have ho0_b8834_1:=ho0_b8834_1.mv G1 K2 (fun b hb=>AJ (nb0_b8834_1_b8834 b hb))
        have ho0_b8834_2:=ho0_b8834_2.mv G1 K2 (fun b hb=>AJ (nb0_b8834_2_b8834 b hb))
        have ho0_b8834_3:=ho0_b8834_3.mv G1 K2 (fun b hb=>AJ (nb0_b8834_3_b8834 b hb))
        have hT:=by exact hT.mvB G1 K2 aS (by decide) (fun x hx=>by exact hx)
        refine AE (AW (AB (AD kR (AC (CE .i64 ((k:Nat):Int) (1:Int) (((k+1:Nat):Int)) rfl rfl (EP oM oM) (AC (AF (vI ((k+1:Nat):Int)) rfl (AE (AB (?_))))))))))
        exact ⟨_,oM,(k+1),(s),(L),b0,a1,a3,a2,(e3 :: (d3 :: b6)),oM,(by rw [FD,← hr0_1];(symm;exact (by (rw [lv_bad (.inl aS) (by rw [GZ aS];assumption)];done)))),hT,rfl,⟨_,AL _ ⟨rfl,rfl,rfl,(by rfl),rfl,trivial⟩⟩,fS,a5,b9,ho0_b8834_1,b1,ho0_b8834_2,b4,ho0_b8834_3,b3,a4,cz,(by (repeat (first|assumption|apply List.mem_cons_of_mem))),d4,nb0_b8834_1_b8834,nb0_b8834_2_b8834,nb0_b8834_3_b8834,(fun b hb e=>c2 b e hb),(fun b hb e=>c3 b e hb),(fun b hb e=>c4 b e hb),c2,nn0_b8834_1_b8834_2,nn0_b8834_1_b8834_3,c3,nn0_b8834_2_b8834_1,nn0_b8834_2_b8834_3,c4,nn0_b8834_3_b8834_1,nn0_b8834_3_b8834_2⟩
       have hQ:(AV (s.d[(((AA[k]!).device).toNat) % s.d.length]!) (⟨(((((AA[k]!).device).toNat) % s.d.length:Nat):Int),s.d[AA[k]!.device.toNat % s.d.length]!.counter+1,(2:Int),((((AA[k]!).copy) % 4).toNat:Int),(0:Int),(AI s.d[AA[k]!.device.toNat % s.d.length]!.ops 4 0).1[(AA[k]!.copy % 4).toNat]!.token+1⟩:DeviceOp) ((((AA[k]!).crash) % 3).toNat:Int)).2=(0:Int):=by simpa using P4
       refine AT (AB (AG (AD kR (AC (AF (b0) rfl (AC (AF (vI (((((AA[k]!).device).toNat) % s.d.length:Nat):Int)) rfl (AC (AQ (vs:=[vI (((AV (s.d[(((AA[k]!).device).toNat) % s.d.length]!) (⟨(((((AA[k]!).device).toNat) % s.d.length:Nat):Int),s.d[AA[k]!.device.toNat % s.d.length]!.counter+1,(2:Int),((((AA[k]!).copy) % 4).toNat:Int),(0:Int),(AI s.d[AA[k]!.device.toNat % s.d.length]!.ops 4 0).1[(AA[k]!.copy % 4).toNat]!.token+1⟩:DeviceOp) ((((AA[k]!).crash) % 3).toNat:Int)).1).id),vI (((AV (s.d[(((AA[k]!).device).toNat) % s.d.length]!) (⟨(((((AA[k]!).device).toNat) % s.d.length:Nat):Int),s.d[AA[k]!.device.toNat % s.d.length]!.counter+1,(2:Int),((((AA[k]!).copy) % 4).toNat:Int),(0:Int),(AI s.d[AA[k]!.device.toNat % s.d.length]!.ops 4 0).1[(AA[k]!.copy % 4).toNat]!.token+1⟩:DeviceOp) ((((AA[k]!).crash) % 3).toNat:Int)).1).counter),T6,vO (((AV (s.d[(((AA[k]!).device).toNat) % s.d.length]!) (⟨(((((AA[k]!).device).toNat) % s.d.length:Nat):Int),s.d[AA[k]!.device.toNat % s.d.length]!.counter+1,(2:Int),((((AA[k]!).copy) % 4).toNat:Int),(0:Int),(AI s.d[AA[k]!.device.toNat % s.d.length]!.ops 4 0).1[(AA[k]!.copy % 4).toNat]!.token+1⟩:DeviceOp) ((((AA[k]!).crash) % 3).toNat:Int)).1).halted)]) U31_ rfl BG rfl g8 rfl (AC (DO U24_ BG .i64 (((((AA[k]!).device).toNat) % s.d.length:Nat):Int) ((((AA[k]!).device).toNat) % s.d.length) rfl rfl rfl a5 oM fun ki g9=>(BK (DW ((AV (s.d[(((AA[k]!).device).toNat) % s.d.length]!) (⟨(((((AA[k]!).device).toNat) % s.d.length:Nat):Int),s.d[AA[k]!.device.toNat % s.d.length]!.counter+1,(2:Int),((((AA[k]!).copy) % 4).toNat:Int),(0:Int),(AI s.d[AA[k]!.device.toNat % s.d.length]!.ops 4 0).1[(AA[k]!.copy % 4).toNat]!.token+1⟩:DeviceOp) ((((AA[k]!).crash) % 3).toNat:Int)).1) (by decide) BG rfl rfl a5 g9 (b9 _ g9) oM ⟨_,rfl,E4⟩ aP fun kj aQ z4 o6 g1=>(?_))))))))))))))
       have b5:=b5.mv z4
       have ho0_b8834_0:=ho0_b8834_0.mv z4 o6 (fun b hb=>by simp only [List.mem_singleton];rintro rfl;exact absurd g9 (J8 _ hb))
       have a4:=a4.mv z4
       have a8:=a8.mv z4
       have a0:=a0.keep o6 (by simp only [List.mem_singleton];exact fun e=>absurd e.symm (d4 _ g9))
       have a7:=a7.keep o6 (by simp only [List.mem_singleton];exact fun e=>absurd e.symm (e5 _ g9))
       have ho0_b8834_1:=ho0_b8834_1.mv z4 o6 (fun b hb=>by simp only [List.mem_singleton];rintro rfl;exact absurd g9 (c2 _ hb))
       have ho0_b8834_2:=ho0_b8834_2.mv z4 o6 (fun b hb=>by simp only [List.mem_singleton];rintro rfl;exact absurd g9 (c3 _ hb))
       have ho0_b8834_3:=ho0_b8834_3.mv z4 o6 (fun b hb=>by simp only [List.mem_singleton];rintro rfl;exact absurd g9 (c4 _ hb))
       have a9:=a9.keep o6 (by simp only [List.mem_singleton];exact fun e=>absurd e.symm (d8 _ g9))
       have a6:=a6.keep o6 (by simp only [List.mem_singleton];exact fun e=>absurd e.symm (d7 _ g9))
       have d2:=d2.keep o6 (by simp only [List.mem_singleton];exact fun e=>absurd e.symm (O1 _ g9))
       have g8:=g8.keep o6 (by simp only [List.mem_singleton];exact fun e=>absurd e.symm (W9 _ g9))
       have hT:=hT.mvO z4 o6 a5 (fun b hq=>by have hq:=List.mem_singleton.1 hq;subst hq;exact g9) (by decide) (fun x hx=>by exact hx)
       refine AE (AB (AG (AD kR (AC (AP 4 GE ((AA[k]!).crash) rfl b5 (fun _ _ _ h=>CM h) fun kk cA=>(AC (CU U5_ rfl rfl cA (AC (DY ((AA[k]!).crash) (3:UInt8) (by decide) rfl rfl (AC (EG (((AA[k]!).crash) % 3) (2:UInt8) rfl rfl (AE (AB (AK ((((AA[k]!).crash) % 3) == (2:UInt8)) rfl rfl (fun P5=>?_) (fun P5=>?_)))))))))))))))
       ·have hR:((AA[k]!).crash) % 3=(2:UInt8):=by simpa using P5
        refine AG (AD kR (AC (AM 2 EE rfl (AC (AR U26_ rfl (a3) rfl a9 rfl (AC (AQ (vs:=[vI (((((AA[k]!).device).toNat) % s.d.length:Nat):Int),vI (s.d[AA[k]!.device.toNat % s.d.length]!.counter+1),vI 2,vI ((((AA[k]!).copy) % 4).toNat:Int),vI 0,vI ((AI s.d[AA[k]!.device.toNat % s.d.length]!.ops 4 0).1[(AA[k]!.copy % 4).toNat]!.token+1)]) U40_ rfl BX rfl d2 rfl (AC (EY (E:=Enc.devop) (xs:=[.tmp 135]) U26_ BX HC (by decide) [.agg #[vI (((((AA[k]!).device).toNat) % s.d.length:Nat):Int),vI (s.d[AA[k]!.device.toNat % s.d.length]!.counter+1),vI 2,vI ((((AA[k]!).copy) % 4).toNat:Int),vI 0,vI ((AI s.d[AA[k]!.device.toNat % s.d.length]!.ops 4 0).1[(AA[k]!.copy % 4).toNat]!.token+1)]] [[vI (((((AA[k]!).device).toNat) % s.d.length:Nat):Int),vI (s.d[AA[k]!.device.toNat % s.d.length]!.counter+1),vI 2,vI ((((AA[k]!).copy) % 4).toNat:Int),vI 0,vI ((AI s.d[AA[k]!.device.toNat % s.d.length]!.ops 4 0).1[(AA[k]!.copy % 4).toNat]!.token+1)]] [(⟨(((((AA[k]!).device).toNat) % s.d.length:Nat):Int),s.d[AA[k]!.device.toNat % s.d.length]!.counter+1,(2:Int),((((AA[k]!).copy) % 4).toNat:Int),(0:Int),(AI s.d[AA[k]!.device.toNat % s.d.length]!.ops 4 0).1[(AA[k]!.copy % 4).toNat]!.token+1⟩:DeviceOp)] rfl rfl rfl (Parts.cons rfl rfl (Parts.nil _ _ _)) oT aQ fun kl km fT z5 l7 X2=>(?_))))))))))
        have g1:=g1.mv z5 l7 (by simp)
        have ho0_b8834_0:=ho0_b8834_0.mv z5 l7 (by simp)
        have ho0_b8834_2:=ho0_b8834_2.mv z5 l7 (by simp)
        have a4:=a4.mv z5
        have a8:=a8.mv z5
        have a0:=a0.keep l7 (by simp)
        have a7:=a7.keep l7 (by simp)
        have ho0_b8834_1:=ho0_b8834_1.mv z5 l7 (by simp)
        have ho0_b8834_3:=ho0_b8834_3.mv z5 l7 (by simp)
        have a9:=a9.keep l7 (by simp)
        have a6:=a6.keep l7 (by simp)
        have d2:=d2.keep l7 (by simp)
        have g8:=g8.keep l7 (by simp)
        have hT:=by exact hT.mv0 z5 l7 (fun x hx=>by exact hx)
        have:=X2.len_le
        refine AC (CT (E:=Enc.devop) (l:=s.done) (m:=[(⟨(((((AA[k]!).device).toNat) % s.d.length:Nat):Int),s.d[AA[k]!.device.toNat % s.d.length]!.counter+1,(2:Int),((((AA[k]!).copy) % 4).toNat:Int),(0:Int),(AI s.d[AA[k]!.device.toNat % s.d.length]!.ops 4 0).1[(AA[k]!.copy % 4).toNat]!.token+1⟩:DeviceOp)]) U26_ OB rfl (by decide) rfl rfl ho0_b8834_2 X2 (fun _ hb=>.inl hb) b4 (by simp;omega) (by simp [maxLen];omega) fT fun i1 kn r5 P6 j5 h0 fU D0 o7 i4=>(?_))
        have X3:∀ b,b0.ownBlock=some b→i1.ownBlock≠some b:=fun b hb e=>by rcases j5 with e1|e1 <;> rw [e1] at e <;> first|(cases e;have:=(g1.lt _ hb).2;omega)|(exact absurd e ((fun b hb e=>c3 b e hb) b hb))
        have hS:∀ b,b2.ownBlock=some b→i1.ownBlock≠some b:=fun b hb e=>by rcases j5 with e1|e1 <;> rw [e1] at e <;> first|(cases e;have:=(ho0_b8834_0.lt _ hb).2;omega)|(exact absurd e (nn0_b8834_0_b8834_2 b hb))
        have X4:∀ b,a1.ownBlock=some b→i1.ownBlock≠some b:=fun b hb e=>by rcases j5 with e1|e1 <;> rw [e1] at e <;> first|(cases e;have:=(ho0_b8834_1.lt _ hb).2;omega)|(exact absurd e (nn0_b8834_1_b8834_2 b hb))
        have X5:∀ b,a2.ownBlock=some b→i1.ownBlock≠some b:=fun b hb e=>by rcases j5 with e1|e1 <;> rw [e1] at e <;> first|(cases e;have:=(ho0_b8834_3.lt _ hb).2;omega)|(exact absurd e (nn0_b8834_3_b8834_2 b hb))
        have cB:∀ b,i1.ownBlock=some b→b≠c7:=fun b hb=>by rcases j5 with e1|e1 <;> rw [e1] at hb <;> first|(cases hb;have:=a0.lt;omega)|(exact nb0_b8834_2_b8834 b hb)
        have cC:∀ b,i1.ownBlock=some b→b≠b8:=fun b hb=>by rcases j5 with e1|e1 <;> rw [e1] at hb <;> first|(cases hb;have:=a7.lt;omega)|(exact f0 b hb)
        have P7:∀ b,i1.ownBlock=some b→b≠c5:=fun b hb=>by rcases j5 with e1|e1 <;> rw [e1] at hb <;> first|(cases hb;have:=a9.lt;omega)|(exact f1 b hb)
        have cD:∀ b,i1.ownBlock=some b→b≠c6:=fun b hb=>by rcases j5 with e1|e1 <;> rw [e1] at hb <;> first|(cases hb;have:=a6.lt;omega)|(exact d9 b hb)
        have hU:∀ b,i1.ownBlock=some b→b≠d3:=fun b hb=>by rcases j5 with e1|e1 <;> rw [e1] at hb <;> first|(cases hb;have:=d2.lt;omega)|(exact E0 b hb)
        have hV:∀ b,i1.ownBlock=some b→b≠e3:=fun b hb=>by rcases j5 with e1|e1 <;> rw [e1] at hb <;> first|(cases hb;have:=g8.lt;omega)|(exact P3 b hb)
        have b9:∀ b,b0.ownBlock=some b→b∈r5:=fun b hb=>h0 b (b9 b hb)
        have b7:∀ b,b2.ownBlock=some b→b∈r5:=fun b hb=>h0 b (b7 b hb)
        have b1:∀ b,a1.ownBlock=some b→b∈r5:=fun b hb=>h0 b (b1 b hb)
        have b3:∀ b,a2.ownBlock=some b→b∈r5:=fun b hb=>h0 b (b3 b hb)
        have g2:c7∈r5:=h0 c7 rC
        have h6:b8∈r5:=h0 b8 rC
        have h7:c5∈r5:=h0 c5 rC
        have h8:c6∈r5:=h0 c6 rC
        have E2:d3∈r5:=h0 d3 (by repeat (constructor))
        have X6:e3∈r5:=h0 e3 (by repeat (constructor))
        have g1:=g1.mv D0 o7 (fun b hb=>by simp only [Option.mem_toList];exact (fun b hb e=>c3 b e hb) b hb)
        have ho0_b8834_0:=ho0_b8834_0.mv D0 o7 (fun b hb=>by simp only [Option.mem_toList];exact nn0_b8834_0_b8834_2 b hb)
        have a4:=a4.mv D0
        have a8:=a8.mv D0
        have a0:=a0.keep o7 (by simp only [Option.mem_toList];exact fun e=>absurd rfl (nb0_b8834_2_b8834 _ e))
        have a7:=a7.keep o7 (by simp only [Option.mem_toList];exact fun e=>absurd rfl (f0 _ e))
        have ho0_b8834_1:=ho0_b8834_1.mv D0 o7 (fun b hb=>by simp only [Option.mem_toList];exact nn0_b8834_1_b8834_2 b hb)
        have ho0_b8834_3:=ho0_b8834_3.mv D0 o7 (fun b hb=>by simp only [Option.mem_toList];exact nn0_b8834_3_b8834_2 b hb)
        have a9:=a9.keep o7 (by simp only [Option.mem_toList];exact fun e=>absurd rfl (f1 _ e))
        have a6:=a6.keep o7 (by simp only [Option.mem_toList];exact fun e=>absurd rfl (d9 _ e))
        have d2:=d2.keep o7 (by simp only [Option.mem_toList];exact fun e=>absurd rfl (E0 _ e))
        have g8:=g8.keep o7 (by simp only [Option.mem_toList];exact fun e=>absurd rfl (P3 _ e))
        have hT:=hT.mvO D0 o7 ho0_b8834_2 (fun b hb=>Option.mem_toList.1 hb) (by decide) h0
        refine AC (AM 2 EE rfl (BK (BP (i1) rfl rfl i4.oneCell HR (by repeat (assumption)) a9 oT fU fun ko fV z6 o8 w5=>(?_))))
        have g1:=g1.mv z6 o8 (fun b hb=>AJ (d8 b hb))
        have ho0_b8834_0:=ho0_b8834_0.mv z6 o8 (fun b hb=>AJ (N5 b hb))
        have i4:=i4.mv z6 o8 (fun b hb=>AJ (P7 b hb))
        have a4:=a4.mv z6
        have a8:=a8.mv z6
        have a0:=a0.keep o8 (AJ w0)
        have a7:=a7.keep o8 (AJ w1)
        have ho0_b8834_1:=ho0_b8834_1.mv z6 o8 (fun b hb=>AJ (e4 b hb))
        have ho0_b8834_3:=ho0_b8834_3.mv z6 o8 (fun b hb=>AJ (e7 b hb))
        have a6:=a6.keep o8 (AJ (Ne.symm w2))
        have d2:=d2.keep o8 (AJ (Ne.symm O0))
        have g8:=g8.keep o8 (AJ (Ne.symm W8))
        have hT:=by exact hT.mvB z6 o8 aS (by decide) (fun x hx=>by exact hx)
        refine AE (AB (AG (AD kR (AC (AM 2 GB rfl (AC (AR U3_ rfl (vI 2) rfl d2 rfl (AC (DC .i64 (2:Int) (2:Int) rfl rfl (AE (AB (AK true rfl rfl (fun _=>AD kR (AC (AM 3 GO rfl (AC (AR U27_ rfl (a2) rfl w5 rfl (AC (AF (vI ((((AA[k]!).copy) % 4).toNat:Int)) rfl (AC (EY (E:=Enc.int) (xs:=[.tmp 144]) U27_ s_3 z_3 (by decide) [vI ((((AA[k]!).copy) % 4).toNat:Int)] [[vI ((((AA[k]!).copy) % 4).toNat:Int)]] [((((AA[k]!).copy) % 4).toNat:Int)] rfl rfl rfl (Parts.cons rfl rfl (Parts.nil _ _ _)) oT fV fun kp kq fW z7 l8 X7=>(?_)))))))))) (fun h=>by cases h)))))))))))))
        have g1:=g1.mv z7 l8 (by simp)
        have ho0_b8834_0:=ho0_b8834_0.mv z7 l8 (by simp)
        have i4:=i4.mv z7 l8 (by simp)
        have ho0_b8834_3:=ho0_b8834_3.mv z7 l8 (by simp)
        have a4:=a4.mv z7
        have a8:=a8.mv z7
        have a0:=a0.keep l8 (by simp)
        have a7:=a7.keep l8 (by simp)
        have ho0_b8834_1:=ho0_b8834_1.mv z7 l8 (by simp)
        have w5:=w5.keep l8 (by simp)
        have a6:=a6.keep l8 (by simp)
        have d2:=d2.keep l8 (by simp)
        have g8:=g8.keep l8 (by simp)
        have hT:=by exact hT.mv0 z7 l8 (fun x hx=>by exact hx)
        have:=X7.len_le
        refine AC (CT (E:=Enc.int) (l:=s.shown) (m:=[((((AA[k]!).copy) % 4).toNat:Int)]) U27_ i_3 rfl (by decide) rfl rfl ho0_b8834_3 X7 (fun _ hb=>.inl hb) b3 (by simp;omega) (by simp [maxLen];omega) fW fun l9 kr o9 cE j6 h1 fX G2 z8 K3=>(?_))
        have X8:∀ b,b0.ownBlock=some b→l9.ownBlock≠some b:=fun b hb e=>by rcases j6 with e1|e1 <;> rw [e1] at e <;> first|(cases e;have:=(g1.lt _ hb).2;omega)|(exact absurd e ((fun b hb e=>c4 b e hb) b hb))
        have hW:∀ b,b2.ownBlock=some b→l9.ownBlock≠some b:=fun b hb e=>by rcases j6 with e1|e1 <;> rw [e1] at e <;> first|(cases e;have:=(ho0_b8834_0.lt _ hb).2;omega)|(exact absurd e (nn0_b8834_0_b8834_3 b hb))
        have X9:∀ b,i1.ownBlock=some b→l9.ownBlock≠some b:=fun b hb e=>by rcases j6 with e1|e1 <;> rw [e1] at e <;> first|(cases e;have:=(i4.lt _ hb).2;omega)|(exact absurd e ((fun b hb e=>X5 b e hb) b hb))
        have Y0:∀ b,a1.ownBlock=some b→l9.ownBlock≠some b:=fun b hb e=>by rcases j6 with e1|e1 <;> rw [e1] at e <;> first|(cases e;have:=(ho0_b8834_1.lt _ hb).2;omega)|(exact absurd e (nn0_b8834_1_b8834_3 b hb))
        have cF:∀ b,l9.ownBlock=some b→b≠c7:=fun b hb=>by rcases j6 with e1|e1 <;> rw [e1] at hb <;> first|(cases hb;have:=a0.lt;omega)|(exact nb0_b8834_3_b8834 b hb)
        have cG:∀ b,l9.ownBlock=some b→b≠b8:=fun b hb=>by rcases j6 with e1|e1 <;> rw [e1] at hb <;> first|(cases hb;have:=a7.lt;omega)|(exact f2 b hb)
        have Y1:∀ b,l9.ownBlock=some b→b≠c5:=fun b hb=>by rcases j6 with e1|e1 <;> rw [e1] at hb <;> first|(cases hb;have:=w5.lt;omega)|(exact e7 b hb)
        have cH:∀ b,l9.ownBlock=some b→b≠c6:=fun b hb=>by rcases j6 with e1|e1 <;> rw [e1] at hb <;> first|(cases hb;have:=a6.lt;omega)|(exact e0 b hb)
        have hX:∀ b,l9.ownBlock=some b→b≠d3:=fun b hb=>by rcases j6 with e1|e1 <;> rw [e1] at hb <;> first|(cases hb;have:=d2.lt;omega)|(exact O2 b hb)
        have hY:∀ b,l9.ownBlock=some b→b≠e3:=fun b hb=>by rcases j6 with e1|e1 <;> rw [e1] at hb <;> first|(cases hb;have:=g8.lt;omega)|(exact X0 b hb)
        have b9:∀ b,b0.ownBlock=some b→b∈o9:=fun b hb=>h1 b (b9 b hb)
        have b7:∀ b,b2.ownBlock=some b→b∈o9:=fun b hb=>h1 b (b7 b hb)
        have P6:∀ b,i1.ownBlock=some b→b∈o9:=fun b hb=>h1 b (P6 b hb)
        have b1:∀ b,a1.ownBlock=some b→b∈o9:=fun b hb=>h1 b (b1 b hb)
        have g2:c7∈o9:=h1 c7 (by repeat (assumption))
        have h6:b8∈o9:=h1 b8 (by repeat (assumption))
        have h7:c5∈o9:=h1 c5 (by repeat (assumption))
        have h8:c6∈o9:=h1 c6 (by repeat (assumption))
        have E2:d3∈o9:=h1 d3 (by repeat (assumption))
        have X6:e3∈o9:=h1 e3 (by repeat (assumption))
        have g1:=g1.mv G2 z8 (fun b hb=>by simp only [Option.mem_toList];exact (fun b hb e=>c4 b e hb) b hb)
        have i4:=i4.mv G2 z8 (fun b hb=>by simp only [Option.mem_toList];exact (fun b hb e=>X5 b e hb) b hb)
        have a4:=a4.mv G2
        have a8:=a8.mv G2
        have a0:=a0.keep z8 (by simp only [Option.mem_toList];exact fun e=>absurd rfl (nb0_b8834_3_b8834 _ e))
        have a7:=a7.keep z8 (by simp only [Option.mem_toList];exact fun e=>absurd rfl (f2 _ e))
        have ho0_b8834_1:=ho0_b8834_1.mv G2 z8 (fun b hb=>by simp only [Option.mem_toList];exact nn0_b8834_1_b8834_3 b hb)
        have w5:=w5.keep z8 (by simp only [Option.mem_toList];exact fun e=>absurd rfl (e7 _ e))
        have a6:=a6.keep z8 (by simp only [Option.mem_toList];exact fun e=>absurd rfl (e0 _ e))
        have hT:=hT.mvO G2 z8 ho0_b8834_3 (fun b hb=>Option.mem_toList.1 hb) (by decide) h1
        refine AC (AM 3 GO rfl (BK (BP (l9) rfl rfl K3.oneCell s_27 (by repeat (assumption)) w5 oT fX fun ks fY D1 z9 cI=>(?_))))
        have g1:=g1.mv D1 z9 (fun b hb=>AJ (d8 b hb))
        have i4:=i4.mv D1 z9 (fun b hb=>AJ (P7 b hb))
        have K3:=K3.mv D1 z9 (fun b hb=>AJ (Y1 b hb))
        have a4:=a4.mv D1
        have a8:=a8.mv D1
        have a0:=a0.keep z9 (AJ w0)
        have a7:=a7.keep z9 (AJ w1)
        have ho0_b8834_1:=ho0_b8834_1.mv D1 z9 (fun b hb=>AJ (e4 b hb))
        have a6:=a6.keep z9 (AJ (Ne.symm w2))
        have hT:=by exact hT.mvB D1 z9 aS (by decide) (fun x hx=>by exact hx)
        refine AE (AW (AB (?_)))
        exact ⟨((⟨s.d.set ((((AA[k]!).device).toNat) % s.d.length) ((AV (s.d[(((AA[k]!).device).toNat) % s.d.length]!) (⟨(((((AA[k]!).device).toNat) % s.d.length:Nat):Int),s.d[AA[k]!.device.toNat % s.d.length]!.counter+1,(2:Int),((((AA[k]!).copy) % 4).toNat:Int),(0:Int),(AI s.d[AA[k]!.device.toNat % s.d.length]!.ops 4 0).1[(AA[k]!.copy % 4).toNat]!.token+1⟩:DeviceOp) ((((AA[k]!).crash) % 3).toNat:Int)).1),s.b,s.done++([(⟨(((((AA[k]!).device).toNat) % s.d.length:Nat):Int),s.d[AA[k]!.device.toNat % s.d.length]!.counter+1,(2:Int),((((AA[k]!).copy) % 4).toNat:Int),(0:Int),(AI s.d[AA[k]!.device.toNat % s.d.length]!.ops 4 0).1[(AA[k]!.copy % 4).toNat]!.token+1⟩:DeviceOp)]),s.shown++([((((AA[k]!).copy) % 4).toNat:Int)])⟩:HouseR)),(L),b0,a1,i1,l9,o9,(by (rw [lv_a2s aS (HP aS aS aS) (by rw [GZ aS];assumption) aS];(rw [GZ aS];rfl))),hT,trivial,⟨_,AL _ ⟨rfl,rfl,rfl,trivial⟩⟩,fY,g1,b9,ho0_b8834_1,b1,i4,P6,K3,cE,a4,a8,a0,aS,a7,aS,cI,aS,a6,aS,d4,e5,d8,d7,nb0_b8834_1_b8834,f8,e4,e2,cB,cC,P7,cD,cF,cG,Y1,cH,(fun b hb e=>c2 b e hb),X3,X8,c2,X4,Y0,(fun b hb e=>X3 b e hb),(fun b hb e=>X4 b e hb),X9,(fun b hb e=>X8 b e hb),(fun b hb e=>Y0 b e hb),(fun b hb e=>X9 b e hb)⟩
       have hZ:((AA[k]!).crash) % 3≠(2:UInt8):=by simpa using P5
       refine AT (AW (AB (?_)))
       exact ⟨((⟨s.d.set ((((AA[k]!).device).toNat) % s.d.length) ((AV (s.d[(((AA[k]!).device).toNat) % s.d.length]!) (⟨(((((AA[k]!).device).toNat) % s.d.length:Nat):Int),s.d[AA[k]!.device.toNat % s.d.length]!.counter+1,(2:Int),((((AA[k]!).copy) % 4).toNat:Int),(0:Int),(AI s.d[AA[k]!.device.toNat % s.d.length]!.ops 4 0).1[(AA[k]!.copy % 4).toNat]!.token+1⟩:DeviceOp) ((((AA[k]!).crash) % 3).toNat:Int)).1),s.b,s.done,s.shown⟩:HouseR)),(L),b0,a1,a3,a2,(e3 :: (d3 :: b6)),(by (rw [NQ (.inl aS) (HP aS aS aS) (by rw [GZ aS];assumption) aS];(rw [GZ aS];rfl))),hT,trivial,⟨_,AL _ ⟨rfl,rfl,rfl,trivial⟩⟩,aQ,g1,b9,ho0_b8834_1,b1,ho0_b8834_2,b4,ho0_b8834_3,b3,a4,a8,a0,(by (repeat (first|assumption|apply List.mem_cons_of_mem))),a7,(by (repeat (first|assumption|apply List.mem_cons_of_mem))),a9,(by (repeat (first|assumption|apply List.mem_cons_of_mem))),a6,(by (repeat (first|assumption|apply List.mem_cons_of_mem))),d4,e5,d8,d7,nb0_b8834_1_b8834,f8,e4,e2,nb0_b8834_2_b8834,f0,f1,d9,nb0_b8834_3_b8834,f2,e7,e0,(fun b hb e=>c2 b e hb),(fun b hb e=>c3 b e hb),(fun b hb e=>c4 b e hb),c2,nn0_b8834_1_b8834_2,nn0_b8834_1_b8834_3,c3,nn0_b8834_2_b8834_1,nn0_b8834_2_b8834_3,c4,nn0_b8834_3_b8834_1,nn0_b8834_3_b8834_2⟩
      have ia:((BY ((s.d[(((AA[k]!).device).toNat) % s.d.length]!).ops) (4:Int) (0:Int) (((((AA[k]!).device).toNat) % s.d.length:Nat):Int) ((((AA[k]!).copy) % 4).toNat:Int)).1)=false:=by simpa using V3
      refine AX rfl (AX rfl (AX rfl (AC (BA (vO true) rfl rfl (AE (AB (AK true rfl rfl (fun _=>AG (AD kR (AC (AQ (vs:=[b0,a1,a3,a2]) U29_ rfl CL rfl a9 rfl (BK (AU (vs:=[b0,a1,a3,a2]) (.agg #[b0,a1,a3,a2]) rfl rfl rfl CL (fun u hu=>by simp only [List.mem_cons,List.not_mem_nil,or_false] at hu;rcases hu with rfl|rfl|rfl|rfl <;> first|exact a5.oneCell|exact ho0_b8834_1.oneCell|exact ho0_b8834_2.oneCell|exact ho0_b8834_3.oneCell) (by repeat (assumption)) a6 oT M5 fun kt fZ G3 G4 cJ=>(?_))))))) (fun h=>by cases h))))))))
      have a5:=a5.mv G3 G4 (fun b hb=>AJ (d7 b hb))
      have ho0_b8834_1:=ho0_b8834_1.mv G3 G4 (fun b hb=>AJ (e2 b hb))
      have ho0_b8834_2:=ho0_b8834_2.mv G3 G4 (fun b hb=>AJ (d9 b hb))
      have ho0_b8834_3:=ho0_b8834_3.mv G3 G4 (fun b hb=>AJ (e0 b hb))
      have a4:=a4.mv G3
      have a0:=a0.keep G4 (AJ i2)
      have hT:=by exact hT.mvB G3 G4 aS (by decide) (fun x hx=>by exact hx)
      refine AE (AB (AS (AN (BC (AN (AZ rfl (FN (vs:=[b0,a1,a3,a2]) rfl rfl U29_ rfl CL rfl cJ rfl) (Exists.intro _ (And.intro rfl (BK (AU (vs:=[b0,a1,a3,a2]) (.agg #[b0,a1,a3,a2]) rfl rfl rfl CL (fun u hu=>by simp only [List.mem_cons,List.not_mem_nil,or_false] at hu;rcases hu with rfl|rfl|rfl|rfl <;> first|exact a5.oneCell|exact ho0_b8834_1.oneCell|exact ho0_b8834_2.oneCell|exact ho0_b8834_3.oneCell) (by repeat (assumption)) a0 oT fZ fun ku ga G5 K4 cK=>(?_)))))))))))
      have a4:=a4.mv G5
      have a5:=a5.mv G5 K4 (fun b hb=>AJ (d4 b hb))
      have ho0_b8834_1:=ho0_b8834_1.mv G5 K4 (fun b hb=>AJ (nb0_b8834_1_b8834 b hb))
      have ho0_b8834_2:=ho0_b8834_2.mv G5 K4 (fun b hb=>AJ (nb0_b8834_2_b8834 b hb))
      have ho0_b8834_3:=ho0_b8834_3.mv G5 K4 (fun b hb=>AJ (nb0_b8834_3_b8834 b hb))
      have hT:=by exact hT.mvB G5 K4 aS (by decide) (fun x hx=>by exact hx)
      refine AE (AW (AB (AD kR (AC (CE .i64 ((k:Nat):Int) (1:Int) (((k+1:Nat):Int)) rfl rfl (EP oM oM) (AC (AF (vI ((k+1:Nat):Int)) rfl (AE (AB (?_))))))))))
      exact ⟨_,oM,(k+1),(s),(L),b0,a1,a3,a2,b6,oM,(by rw [FD,← hr0_1];(symm;exact (by (rw [NA (.inl aS) (may_n3 aS)];done)))),hT,rfl,⟨_,AL _ ⟨rfl,rfl,rfl,(by rfl),rfl,trivial⟩⟩,ga,a5,b9,ho0_b8834_1,b1,ho0_b8834_2,b4,ho0_b8834_3,b3,a4,cK,aS,d4,nb0_b8834_1_b8834,nb0_b8834_2_b8834,nb0_b8834_3_b8834,(fun b hb e=>c2 b e hb),(fun b hb e=>c3 b e hb),(fun b hb e=>c4 b e hb),c2,nn0_b8834_1_b8834_2,nn0_b8834_1_b8834_3,c3,nn0_b8834_2_b8834_1,nn0_b8834_2_b8834_3,c4,nn0_b8834_3_b8834_1,nn0_b8834_3_b8834_2⟩
     have ib:(BY ((s.d[(((AA[k]!).device).toNat) % s.d.length]!).ops) (4:Int) (0:Int) (((((AA[k]!).device).toNat) % s.d.length:Nat):Int) ((((AA[k]!).copy) % 4).toNat:Int)).2≠(0:Int):=by simpa using V2
     refine AX rfl (AX rfl (AC (BA (vO true) rfl rfl (AC (AF (vO true) rfl (AX rfl (AX rfl (AX rfl (AC (BA (vO true) rfl rfl (AE (AB (AK true rfl rfl (fun _=>AG (AD kR (AC (AQ (vs:=[b0,a1,a3,a2]) U29_ rfl CL rfl a9 rfl (BK (AU (vs:=[b0,a1,a3,a2]) (.agg #[b0,a1,a3,a2]) rfl rfl rfl CL (fun u hu=>by simp only [List.mem_cons,List.not_mem_nil,or_false] at hu;rcases hu with rfl|rfl|rfl|rfl <;> first|exact a5.oneCell|exact ho0_b8834_1.oneCell|exact ho0_b8834_2.oneCell|exact ho0_b8834_3.oneCell) (by repeat (assumption)) a6 oT M5 fun kv gb G6 G7 cL=>(?_))))))) (fun h=>by cases h))))))))))))))
     have a5:=a5.mv G6 G7 (fun b hb=>AJ (d7 b hb))
     have ho0_b8834_1:=ho0_b8834_1.mv G6 G7 (fun b hb=>AJ (e2 b hb))
     have ho0_b8834_2:=ho0_b8834_2.mv G6 G7 (fun b hb=>AJ (d9 b hb))
     have ho0_b8834_3:=ho0_b8834_3.mv G6 G7 (fun b hb=>AJ (e0 b hb))
     have a4:=a4.mv G6
     have a0:=a0.keep G7 (AJ i2)
     have hT:=by exact hT.mvB G6 G7 aS (by decide) (fun x hx=>by exact hx)
     refine AE (AB (AS (AN (BC (AN (AZ rfl (FN (vs:=[b0,a1,a3,a2]) rfl rfl U29_ rfl CL rfl cL rfl) (Exists.intro _ (And.intro rfl (BK (AU (vs:=[b0,a1,a3,a2]) (.agg #[b0,a1,a3,a2]) rfl rfl rfl CL (fun u hu=>by simp only [List.mem_cons,List.not_mem_nil,or_false] at hu;rcases hu with rfl|rfl|rfl|rfl <;> first|exact a5.oneCell|exact ho0_b8834_1.oneCell|exact ho0_b8834_2.oneCell|exact ho0_b8834_3.oneCell) (by repeat (assumption)) a0 oT gb fun kw gc G8 K5 cM=>(?_)))))))))))
     have a4:=a4.mv G8
     have a5:=a5.mv G8 K5 (fun b hb=>AJ (d4 b hb))
     have ho0_b8834_1:=ho0_b8834_1.mv G8 K5 (fun b hb=>AJ (nb0_b8834_1_b8834 b hb))
     have ho0_b8834_2:=ho0_b8834_2.mv G8 K5 (fun b hb=>AJ (nb0_b8834_2_b8834 b hb))
     have ho0_b8834_3:=ho0_b8834_3.mv G8 K5 (fun b hb=>AJ (nb0_b8834_3_b8834 b hb))
     have hT:=by exact hT.mvB G8 K5 aS (by decide) (fun x hx=>by exact hx)
     refine AE (AW (AB (AD kR (AC (CE .i64 ((k:Nat):Int) (1:Int) (((k+1:Nat):Int)) rfl rfl (EP oM oM) (AC (AF (vI ((k+1:Nat):Int)) rfl (AE (AB (?_))))))))))
     exact ⟨_,oM,(k+1),(s),(L),b0,a1,a3,a2,b6,oM,(by rw [FD,← hr0_1];(symm;exact (by (rw [NA (.inl aS) (may_n2 aS)];done)))),hT,rfl,⟨_,AL _ ⟨rfl,rfl,rfl,(by rfl),rfl,trivial⟩⟩,gc,a5,b9,ho0_b8834_1,b1,ho0_b8834_2,b4,ho0_b8834_3,b3,a4,cM,aS,d4,nb0_b8834_1_b8834,nb0_b8834_2_b8834,nb0_b8834_3_b8834,(fun b hb e=>c2 b e hb),(fun b hb e=>c3 b e hb),(fun b hb e=>c4 b e hb),c2,nn0_b8834_1_b8834_2,nn0_b8834_1_b8834_3,c3,nn0_b8834_2_b8834_1,nn0_b8834_2_b8834_3,c4,nn0_b8834_3_b8834_1,nn0_b8834_3_b8834_2⟩
    have ic:(AI ((s.d[(((AA[k]!).device).toNat) % s.d.length]!).ops) (4:Int) (0:Int)).2≠(0:Int):=by simpa using V1
    refine AX rfl (AX rfl (AC (BA (vO true) rfl rfl (AC (AF (vO true) rfl (AX rfl (AX rfl (AC (BA (vO true) rfl rfl (AC (AF (vO true) rfl (AX rfl (AX rfl (AX rfl (AC (BA (vO true) rfl rfl (AE (AB (AK true rfl rfl (fun _=>AG (AD kR (AC (AQ (vs:=[b0,a1,a3,a2]) U29_ rfl CL rfl a9 rfl (BK (AU (vs:=[b0,a1,a3,a2]) (.agg #[b0,a1,a3,a2]) rfl rfl rfl CL (fun u hu=>by simp only [List.mem_cons,List.not_mem_nil,or_false] at hu;rcases hu with rfl|rfl|rfl|rfl <;> first|exact a5.oneCell|exact ho0_b8834_1.oneCell|exact ho0_b8834_2.oneCell|exact ho0_b8834_3.oneCell) (by repeat (assumption)) a6 oT M5 fun kx gd G9 H0 cN=>(?_))))))) (fun h=>by cases h))))))))))))))))))))
    have a5:=a5.mv G9 H0 (fun b hb=>AJ (d7 b hb))
    have ho0_b8834_1:=ho0_b8834_1.mv G9 H0 (fun b hb=>AJ (e2 b hb))
    have ho0_b8834_2:=ho0_b8834_2.mv G9 H0 (fun b hb=>AJ (d9 b hb))
    have ho0_b8834_3:=ho0_b8834_3.mv G9 H0 (fun b hb=>AJ (e0 b hb))
    have a4:=a4.mv G9
    have a0:=a0.keep H0 (AJ i2)
    have hT:=by exact hT.mvB G9 H0 aS (by decide) (fun x hx=>by exact hx)
    refine AE (AB (AS (AN (BC (AN (AZ rfl (FN (vs:=[b0,a1,a3,a2]) rfl rfl U29_ rfl CL rfl cN rfl) (Exists.intro _ (And.intro rfl (BK (AU (vs:=[b0,a1,a3,a2]) (.agg #[b0,a1,a3,a2]) rfl rfl rfl CL (fun u hu=>by simp only [List.mem_cons,List.not_mem_nil,or_false] at hu;rcases hu with rfl|rfl|rfl|rfl <;> first|exact a5.oneCell|exact ho0_b8834_1.oneCell|exact ho0_b8834_2.oneCell|exact ho0_b8834_3.oneCell) (by repeat (assumption)) a0 oT gd fun ky ge H1 K6 cO=>(?_)))))))))))
    have a4:=a4.mv H1
    have a5:=a5.mv H1 K6 (fun b hb=>AJ (d4 b hb))
    have ho0_b8834_1:=ho0_b8834_1.mv H1 K6 (fun b hb=>AJ (nb0_b8834_1_b8834 b hb))
    have ho0_b8834_2:=ho0_b8834_2.mv H1 K6 (fun b hb=>AJ (nb0_b8834_2_b8834 b hb))
    have ho0_b8834_3:=ho0_b8834_3.mv H1 K6 (fun b hb=>AJ (nb0_b8834_3_b8834 b hb))
    have hT:=by exact hT.mvB H1 K6 aS (by decide) (fun x hx=>by exact hx)
    refine AE (AW (AB (AD kR (AC (CE .i64 ((k:Nat):Int) (1:Int) (((k+1:Nat):Int)) rfl rfl (EP oM oM) (AC (AF (vI ((k+1:Nat):Int)) rfl (AE (AB (?_))))))))))
    exact ⟨_,oM,(k+1),(s),(L),b0,a1,a3,a2,b6,oM,(by rw [FD,← hr0_1];(symm;exact (by (rw [NA (.inl aS) (may_n1 aS)];done)))),hT,rfl,⟨_,AL _ ⟨rfl,rfl,rfl,(by rfl),rfl,trivial⟩⟩,ge,a5,b9,ho0_b8834_1,b1,ho0_b8834_2,b4,ho0_b8834_3,b3,a4,cO,aS,d4,nb0_b8834_1_b8834,nb0_b8834_2_b8834,nb0_b8834_3_b8834,(fun b hb e=>c2 b e hb),(fun b hb e=>c3 b e hb),(fun b hb e=>c4 b e hb),c2,nn0_b8834_1_b8834_2,nn0_b8834_1_b8834_3,c3,nn0_b8834_2_b8834_1,nn0_b8834_2_b8834_3,c4,nn0_b8834_3_b8834_1,nn0_b8834_3_b8834_2⟩
   have ie:((AA[k]!).kind) % 6≠(0:UInt8):=by simpa using D9
   refine AD kR (AC (EG (((AA[k]!).kind) % 6) (1:UInt8) rfl rfl (AC (AH (vO ((((AA[k]!).kind) % 6) == (1:UInt8))) rfl (AE (AB (AK ((((AA[k]!).kind) % 6) == (1:UInt8)) rfl rfl (fun K7=>?_) (fun K7=>?_))))))))
   ·have ig:((AA[k]!).kind) % 6=(1:UInt8):=by simpa using K7
    refine AG (AD kR (AC (AF (b0) rfl (AC (AF (vI (((((AA[k]!).device).toNat) % s.d.length:Nat):Int)) rfl (AC (BZ U24_ BG .i64 (((((AA[k]!).device).toNat) % s.d.length:Nat):Int) ((((AA[k]!).device).toNat) % s.d.length) rfl rfl rfl a5.rdB oM fun kz cP=>(AC (AP (E':=(Enc.both (Enc.slice Enc.devop) y7 (b6++O))) 2 EQ ((s.d[(((AA[k]!).device).toNat) % s.d.length]!).ops) rfl cP (fun _ _ _ h=>⟨BL h.1,BL h.2⟩) fun kA cQ=>(AC (ER U26_ rfl rfl cQ fun aR Y2=>(?_))))))))))))
    have:=Y2.len_le
    refine AC (BI (vs:=[aR,vI 4,vI 0]) IU (KQ (O:=b6++O) aR ((s.d[(((AA[k]!).device).toNat) % s.d.length]!).ops) (4:Int) (0:Int) y7 Y2 q4.lt) rfl q4 fun kB aT aU u4 r6 gf=>(?_))
    obtain ⟨K8,rfl,w6⟩:=gf
    have:=w6.len_le
    have b5:=b5.mv u4
    have a5:=a5.mv u4 r6 (by simp)
    have ho0_b8834_0:=ho0_b8834_0.mv u4 r6 (by simp)
    have a4:=a4.mv u4
    have a8:=a8.mv u4
    have a0:=a0.keep r6 (by simp)
    have a7:=a7.keep r6 (by simp)
    have ho0_b8834_1:=ho0_b8834_1.mv u4 r6 (by simp)
    have ho0_b8834_2:=ho0_b8834_2.mv u4 r6 (by simp)
    have ho0_b8834_3:=ho0_b8834_3.mv u4 r6 (by simp)
    have a9:=a9.keep r6 (by simp)
    have a6:=a6.keep r6 (by simp)
    have hT:=by exact hT.mv0 u4 r6 (fun x hx=>by exact hx)
    refine AC (AF (vT #[K8,vI ((AI ((s.d[(((AA[k]!).device).toNat) % s.d.length]!).ops) (4:Int) (0:Int)).2)]) rfl (AC (BD (K8) rfl rfl (AC (BD (vI ((AI ((s.d[(((AA[k]!).device).toNat) % s.d.length]!).ops) (4:Int) (0:Int)).2)) rfl rfl (AC (AH (K8) rfl (AC (AH (vI ((AI ((s.d[(((AA[k]!).device).toNat) % s.d.length]!).ops) (4:Int) (0:Int)).2)) rfl (AE (AB (AG (AD kR (AC (AF (b0) rfl (AC (AF (vI (((((AA[k]!).device).toNat) % s.d.length:Nat):Int)) rfl (AC (BZ U24_ BG .i64 (((((AA[k]!).device).toNat) % s.d.length:Nat):Int) ((((AA[k]!).device).toNat) % s.d.length) rfl rfl rfl a5.rdB oM fun kC cR=>(AC (AP (E':=(Enc.both (Enc.slice Enc.devop) aT (b6++O))) 2 EQ ((s.d[(((AA[k]!).device).toNat) % s.d.length]!).ops) rfl cR (fun _ _ _ h=>⟨BL h.1,BL h.2⟩) fun kD cS=>(AC (ER U26_ rfl rfl cS fun aV Y3=>(?_))))))))))))))))))))))))
    have:=Y3.len_le
    refine AC (AF (vI (((((AA[k]!).device).toNat) % s.d.length:Nat):Int)) rfl (AC (AF (vI ((((AA[k]!).copy) % 4).toNat:Int)) rfl (AC (BI (vs:=[aV,vI 4,vI 0,vI (((((AA[k]!).device).toNat) % s.d.length:Nat):Int),vI ((((AA[k]!).copy) % 4).toNat:Int)]) LS (c_may (O:=b6++O) aV ((s.d[(((AA[k]!).device).toNat) % s.d.length]!).ops) (4:Int) (0:Int) (((((AA[k]!).device).toNat) % s.d.length:Nat):Int) ((((AA[k]!).copy) % 4).toNat:Int) aT Y3 aU.lt) rfl aU fun kE gg M6 r7 r8 gh=>(?_))))))
    obtain rfl:=gh
    have b5:=b5.mv r7
    have a5:=a5.mv r7 r8 (by simp)
    have w6:=w6.mv r7
    have ho0_b8834_0:=ho0_b8834_0.mv r7 r8 (by simp)
    have a4:=a4.mv r7
    have a8:=a8.mv r7
    have a0:=a0.keep r8 (by simp)
    have a7:=a7.keep r8 (by simp)
    have ho0_b8834_1:=ho0_b8834_1.mv r7 r8 (by simp)
    have ho0_b8834_2:=ho0_b8834_2.mv r7 r8 (by simp)
    have ho0_b8834_3:=ho0_b8834_3.mv r7 r8 (by simp)
    have a9:=a9.keep r8 (by simp)
    have a6:=a6.keep r8 (by simp)
    have hT:=by exact hT.mv0 r7 r8 (fun x hx=>by exact hx)
    refine AC (AF (vT #[vO ((BY ((s.d[(((AA[k]!).device).toNat) % s.d.length]!).ops) (4:Int) (0:Int) (((((AA[k]!).device).toNat) % s.d.length:Nat):Int) ((((AA[k]!).copy) % 4).toNat:Int)).1),vI ((BY ((s.d[(((AA[k]!).device).toNat) % s.d.length]!).ops) (4:Int) (0:Int) (((((AA[k]!).device).toNat) % s.d.length:Nat):Int) ((((AA[k]!).copy) % 4).toNat:Int)).2)]) rfl (AC (BD (vO ((BY ((s.d[(((AA[k]!).device).toNat) % s.d.length]!).ops) (4:Int) (0:Int) (((((AA[k]!).device).toNat) % s.d.length:Nat):Int) ((((AA[k]!).copy) % 4).toNat:Int)).1)) rfl rfl (AC (BD (vI ((BY ((s.d[(((AA[k]!).device).toNat) % s.d.length]!).ops) (4:Int) (0:Int) (((((AA[k]!).device).toNat) % s.d.length:Nat):Int) ((((AA[k]!).copy) % 4).toNat:Int)).2)) rfl rfl (AC (AH (vO ((BY ((s.d[(((AA[k]!).device).toNat) % s.d.length]!).ops) (4:Int) (0:Int) (((((AA[k]!).device).toNat) % s.d.length:Nat):Int) ((((AA[k]!).copy) % 4).toNat:Int)).1)) rfl (AC (AH (vI ((BY ((s.d[(((AA[k]!).device).toNat) % s.d.length]!).ops) (4:Int) (0:Int) (((((AA[k]!).device).toNat) % s.d.length:Nat):Int) ((((AA[k]!).copy) % 4).toNat:Int)).2)) rfl (AE (AB (AG (AG (AD kR (AC (AF (vI ((AI ((s.d[(((AA[k]!).device).toNat) % s.d.length]!).ops) (4:Int) (0:Int)).2)) rfl (AC (DX .i64 ((AI ((s.d[(((AA[k]!).device).toNat) % s.d.length]!).ops) (4:Int) (0:Int)).2) (0:Int) rfl rfl (AC (AF (vO (((AI ((s.d[(((AA[k]!).device).toNat) % s.d.length]!).ops) (4:Int) (0:Int)).2) != (0:Int))) rfl (?_)))))))))))))))))))))
    cases Y4:(((AI ((s.d[(((AA[k]!).device).toNat) % s.d.length]!).ops) (4:Int) (0:Int)).2) != (0:Int))
    ·have ih:(AI ((s.d[(((AA[k]!).device).toNat) % s.d.length]!).ops) (4:Int) (0:Int)).2=(0:Int):=by simpa using Y4
     refine BH rfl (AF (vI ((BY ((s.d[(((AA[k]!).device).toNat) % s.d.length]!).ops) (4:Int) (0:Int) (((((AA[k]!).device).toNat) % s.d.length:Nat):Int) ((((AA[k]!).copy) % 4).toNat:Int)).2)) rfl (BH rfl (DX .i64 ((BY ((s.d[(((AA[k]!).device).toNat) % s.d.length]!).ops) (4:Int) (0:Int) (((((AA[k]!).device).toNat) % s.d.length:Nat):Int) ((((AA[k]!).copy) % 4).toNat:Int)).2) (0:Int) rfl rfl (AC (BM (vO (((BY ((s.d[(((AA[k]!).device).toNat) % s.d.length]!).ops) (4:Int) (0:Int) (((((AA[k]!).device).toNat) % s.d.length:Nat):Int) ((((AA[k]!).copy) % 4).toNat:Int)).2) != (0:Int))) rfl rfl (AC (AF (vO (((BY ((s.d[(((AA[k]!).device).toNat) % s.d.length]!).ops) (4:Int) (0:Int) (((((AA[k]!).device).toNat) % s.d.length:Nat):Int) ((((AA[k]!).copy) % 4).toNat:Int)).2) != (0:Int))) rfl (?_))))))))
     cases Y5:(((BY ((s.d[(((AA[k]!).device).toNat) % s.d.length]!).ops) (4:Int) (0:Int) (((((AA[k]!).device).toNat) % s.d.length:Nat):Int) ((((AA[k]!).copy) % 4).toNat:Int)).2) != (0:Int))
     ·have ii:(BY ((s.d[(((AA[k]!).device).toNat) % s.d.length]!).ops) (4:Int) (0:Int) (((((AA[k]!).device).toNat) % s.d.length:Nat):Int) ((((AA[k]!).copy) % 4).toNat:Int)).2=(0:Int):=by simpa using Y5
      refine BH rfl (AF (vO ((BY ((s.d[(((AA[k]!).device).toNat) % s.d.length]!).ops) (4:Int) (0:Int) (((((AA[k]!).device).toNat) % s.d.length:Nat):Int) ((((AA[k]!).copy) % 4).toNat:Int)).1)) rfl (BH rfl (EI ((BY ((s.d[(((AA[k]!).device).toNat) % s.d.length]!).ops) (4:Int) (0:Int) (((((AA[k]!).device).toNat) % s.d.length:Nat):Int) ((((AA[k]!).copy) % 4).toNat:Int)).1) rfl (AC (BM (vO (!((BY ((s.d[(((AA[k]!).device).toNat) % s.d.length]!).ops) (4:Int) (0:Int) (((((AA[k]!).device).toNat) % s.d.length:Nat):Int) ((((AA[k]!).copy) % 4).toNat:Int)).1))) rfl rfl (AC (AF (vO (!((BY ((s.d[(((AA[k]!).device).toNat) % s.d.length]!).ops) (4:Int) (0:Int) (((((AA[k]!).device).toNat) % s.d.length:Nat):Int) ((((AA[k]!).copy) % 4).toNat:Int)).1))) rfl (?_))))))))
      cases Y6:(!((BY ((s.d[(((AA[k]!).device).toNat) % s.d.length]!).ops) (4:Int) (0:Int) (((((AA[k]!).device).toNat) % s.d.length:Nat):Int) ((((AA[k]!).copy) % 4).toNat:Int)).1))
      ·have ij:((BY ((s.d[(((AA[k]!).device).toNat) % s.d.length]!).ops) (4:Int) (0:Int) (((((AA[k]!).device).toNat) % s.d.length:Nat):Int) ((((AA[k]!).copy) % 4).toNat:Int)).1)=true:=by simpa using Y6
       refine BH rfl (AF (K8) rfl (BH rfl (DS U43_ rfl w6 (BH rfl (DX .i64 (((AI ((s.d[(((AA[k]!).device).toNat) % s.d.length]!).ops) (4:Int) (0:Int)).1).length:Int) (4:Int) rfl rfl (AC (BM (vO ((((AI ((s.d[(((AA[k]!).device).toNat) % s.d.length]!).ops) (4:Int) (0:Int)).1).length:Int) != (4:Int))) rfl rfl (AE (AB (?_))))))))))
       have cU:((((AI ((s.d[(((AA[k]!).device).toNat) % s.d.length]!).ops) (4:Int) (0:Int)).1).length:Int) != (4:Int))=false:=(by rw [FB aS];rfl)
       rw [cU]
       refine AK false rfl rfl (fun h=>by cases h) (fun _=>AT (AB (AG (ET [] [] [[(0,1),(1,1),(2,1),(3,1),(4,1),(5,1),(6,4),(7,1),(8,1),(9,1),(10,1),(11,1),(12,1),(13,4),(14,1),(15,2),(16,0)]] (by intro c F d v w hd;simp only [FQ,EZ];exact GW c F d v w hd) kR kR kR fun gi m0=>?_))))
       have gj:=M6.call m0
       have r9:Mv b6 gg b6 gi:=Mv.of_keep m0
       have b5:=b5.mv r9
       have a5:=a5.mv r9 m0 (by simp)
       have w6:=w6.mv r9
       have ho0_b8834_0:=ho0_b8834_0.mv r9 m0 (by simp)
       have a4:=a4.mv r9
       have a8:=a8.mv r9
       have a0:=a0.keep m0 (by simp)
       have a7:=a7.keep m0 (by simp)
       have ho0_b8834_1:=ho0_b8834_1.mv r9 m0 (by simp)
       have ho0_b8834_2:=ho0_b8834_2.mv r9 m0 (by simp)
       have ho0_b8834_3:=ho0_b8834_3.mv r9 m0 (by simp)
       have a9:=a9.keep m0 (by simp)
       have a6:=a6.keep m0 (by simp)
       have hT:=by exact hT.mv0 r9 m0 (fun x hx=>by exact hx)
       refine ⟨?_,trivial⟩
       refine AO (AF (vI (((((AA[k]!).device).toNat) % s.d.length:Nat):Int)) rfl (CD (AO (AF (b0) rfl (CD (AO (AF (vI (((((AA[k]!).device).toNat) % s.d.length:Nat):Int)) rfl (CD (AO (BZ U24_ BG .i64 (((((AA[k]!).device).toNat) % s.d.length:Nat):Int) ((((AA[k]!).device).toNat) % s.d.length) rfl rfl rfl a5.rdB oM fun kF cV=>(CD (AO (AP (E':=Enc.int) 1 IG ((s.d[(((AA[k]!).device).toNat) % s.d.length]!).counter) rfl cV (fun _ _ _ h=>DQ h.1) fun kG cW=>(CD (AO (BJ U3_ rfl rfl cW (CD (DA rfl (fun w4_ k4_=>CE .i64 ((s.d[(((AA[k]!).device).toNat) % s.d.length]!).counter) (1:Int) (s.d[AA[k]!.device.toNat % s.d.length]!.counter+1) rfl rfl (EP oM rfl) (⟨rfl,rfl⟩)) (AO (AF (vI ((((AA[k]!).copy) % 4).toNat:Int)) rfl (CD (AO (AF (K8) rfl (CD (AO (AF (vI ((((AA[k]!).copy) % 4).toNat:Int)) rfl (CD (AO (BZ U43_ LI .i64 ((((AA[k]!).copy) % 4).toNat:Int) ((((AA[k]!).copy) % 4).toNat) rfl rfl oM w6 (by rw [FB aS];show (AA[k]!.copy % 4).toNat<4;omega) fun kH cX=>(CD (AO (AP 2 MX ((((AI ((s.d[(((AA[k]!).device).toNat) % s.d.length]!).ops) (4:Int) (0:Int)).1)[(((AA[k]!).copy) % 4).toNat]!).token) rfl cX (fun _ _ _ h=>GN h) fun kJ cY=>(CD (AO (BJ U3_ rfl rfl cY (CD (DA rfl (fun w4_ k4_=>CE .i64 ((((AI ((s.d[(((AA[k]!).device).toNat) % s.d.length]!).ops) (4:Int) (0:Int)).1)[(((AA[k]!).copy) % 4).toNat]!).token) (1:Int) ((AI s.d[AA[k]!.device.toNat % s.d.length]!.ops 4 0).1[(AA[k]!.copy % 4).toNat]!.token+1) rfl rfl (EP (by have:=nx_tok (l:=s.d[AA[k]!.device.toNat % s.d.length]!.ops) (copies:=4) (first:=0) (k:=(AA[k]!.copy % 4).toNat) aS (by show (AA[k]!.copy % 4).toNat<4;omega);omega) rfl) (⟨rfl,rfl⟩)) (AO (CV (l:=[(0, .tmp 87),(1, .tmp 93),(2, .const (vI 2)),(3, .tmp 94),(5, .tmp 100)]) pl_40 HC rfl [(0,vI (((((AA[k]!).device).toNat) % s.d.length:Nat):Int),[vI (((((AA[k]!).device).toNat) % s.d.length:Nat):Int)]),(1,vI (s.d[AA[k]!.device.toNat % s.d.length]!.counter+1),[vI (s.d[AA[k]!.device.toNat % s.d.length]!.counter+1)]),(2,vI 2,[vI 2]),(3,vI ((((AA[k]!).copy) % 4).toNat:Int),[vI ((((AA[k]!).copy) % 4).toNat:Int)]),(5,vI ((AI s.d[AA[k]!.device.toNat % s.d.length]!.ops 4 0).1[(AA[k]!.copy % 4).toNat]!.token+1),[vI ((AI s.d[AA[k]!.device.toNat % s.d.length]!.ops 4 0).1[(AA[k]!.copy % 4).toNat]!.token+1)])] [vI (((((AA[k]!).device).toNat) % s.d.length:Nat):Int),vI (s.d[AA[k]!.device.toNat % s.d.length]!.counter+1),vI 2,vI ((((AA[k]!).copy) % 4).toNat:Int),vI 0,vI ((AI s.d[AA[k]!.device.toNat % s.d.length]!.ops 4 0).1[(AA[k]!.copy % 4).toNat]!.token+1)] rfl ⟨_,rfl,rfl,oT,⟨_,rfl,rfl,oT,⟨_,rfl,rfl,oT,⟨_,rfl,rfl,oT,⟨_,rfl,rfl,oT,rfl⟩⟩⟩⟩⟩ (CD (DU (CC [vI 0,vI 0,vI 0,vI 0,vI 0,vI 0] HC rfl gj fun d6 kK gk gl u5 p0 cZ=>(?_)))))))))))))))))))))))))))))))))))))))))))
       have P8:DB c7 d6:=by show c7≠d6;have:=a0.lt;omega
       have P9:DB b8 d6:=by show b8≠d6;have:=a7.lt;omega
       have E5:DB c5 d6:=by show c5≠d6;have:=a9.lt;omega
       have Q0:DB c6 d6:=by show c6≠d6;have:=a6.lt;omega
       have E6:∀ b,b0.ownBlock=some b→b≠d6:=fun b hb=>by have:=(a5.lt b hb).2;omega
       have Q1:∀ b,b2.ownBlock=some b→b≠d6:=fun b hb=>by have:=(ho0_b8834_0.lt b hb).2;omega
       have Q2:∀ b,a1.ownBlock=some b→b≠d6:=fun b hb=>by have:=(ho0_b8834_1.lt b hb).2;omega
       have w7:∀ b,a3.ownBlock=some b→b≠d6:=fun b hb=>by have:=(ho0_b8834_2.lt b hb).2;omega
       have Q3:∀ b,a2.ownBlock=some b→b≠d6:=fun b hb=>by have:=(ho0_b8834_3.lt b hb).2;omega
       have b9:∀ b,b0.ownBlock=some b→b∈(d6 :: b6):=fun b hb=>List.mem_cons_of_mem _ (b9 b hb)
       have b7:∀ b,b2.ownBlock=some b→b∈(d6 :: b6):=fun b hb=>List.mem_cons_of_mem _ (b7 b hb)
       have b1:∀ b,a1.ownBlock=some b→b∈(d6 :: b6):=fun b hb=>List.mem_cons_of_mem _ (b1 b hb)
       have b4:∀ b,a3.ownBlock=some b→b∈(d6 :: b6):=fun b hb=>List.mem_cons_of_mem _ (b4 b hb)
       have b3:∀ b,a2.ownBlock=some b→b∈(d6 :: b6):=fun b hb=>List.mem_cons_of_mem _ (b3 b hb)
       clear gk
       have b5:=b5.mv u5
       have a5:=a5.mv u5 p0 (by simp)
       have ho0_b8834_0:=ho0_b8834_0.mv u5 p0 (by simp)
       have a4:=a4.mv u5
       have a8:=a8.mv u5
       have a0:=a0.keep p0 (by simp)
       have a7:=a7.keep p0 (by simp)
       have ho0_b8834_1:=ho0_b8834_1.mv u5 p0 (by simp)
       have ho0_b8834_2:=ho0_b8834_2.mv u5 p0 (by simp)
       have ho0_b8834_3:=ho0_b8834_3.mv u5 p0 (by simp)
       have a9:=a9.keep p0 (by simp)
       have a6:=a6.keep p0 (by simp)
       have hT:=by exact hT.mv0 u5 p0 (fun x hx=>by exact List.mem_cons_of_mem _ hx)
       refine ⟨p0,?_⟩
       refine FO (AU (vs:=[vI (((((AA[k]!).device).toNat) % s.d.length:Nat):Int),vI (s.d[AA[k]!.device.toNat % s.d.length]!.counter+1),vI 2,vI ((((AA[k]!).copy) % 4).toNat:Int),vI 0,vI ((AI s.d[AA[k]!.device.toNat % s.d.length]!.ops 4 0).1[(AA[k]!.copy % 4).toNat]!.token+1)]) (.agg #[vI (((((AA[k]!).device).toNat) % s.d.length:Nat):Int),vI (s.d[AA[k]!.device.toNat % s.d.length]!.counter+1),vI 2,vI ((((AA[k]!).copy) % 4).toNat:Int),vI 0,vI ((AI s.d[AA[k]!.device.toNat % s.d.length]!.ops 4 0).1[(AA[k]!.copy % 4).toNat]!.token+1)]) rfl rfl rfl BX (fun u hu=>by simp only [List.mem_cons,List.not_mem_nil,or_false] at hu;rcases hu with rfl|rfl|rfl|rfl|rfl|rfl <;> rfl) (by repeat (constructor)) cZ oT gl fun kL gn u6 s1 da=>(?_))
       have b5:=b5.mv u6
       have a5:=a5.mv u6 s1 (fun b hb=>AJ (E6 b hb))
       have ho0_b8834_0:=ho0_b8834_0.mv u6 s1 (fun b hb=>AJ (Q1 b hb))
       have a4:=a4.mv u6
       have a8:=a8.mv u6
       have a0:=a0.keep s1 (AJ P8)
       have a7:=a7.keep s1 (AJ P9)
       have ho0_b8834_1:=ho0_b8834_1.mv u6 s1 (fun b hb=>AJ (Q2 b hb))
       have ho0_b8834_2:=ho0_b8834_2.mv u6 s1 (fun b hb=>AJ (w7 b hb))
       have ho0_b8834_3:=ho0_b8834_3.mv u6 s1 (fun b hb=>AJ (Q3 b hb))
       have a9:=a9.keep s1 (AJ E5)
       have a6:=a6.keep s1 (AJ Q0)
       have hT:=by exact hT.mvB u6 s1 aS (by decide) (fun x hx=>by exact hx)
       refine EW (AB (AG (AG (AD kR (AC (AP 0 MV ((AA[k]!).kind) rfl b5 (fun _ _ _ h=>FZ h) fun kM db=>(AC (CU U5_ rfl rfl db (AC (DY ((AA[k]!).kind) (6:UInt8) (by decide) rfl rfl (AC (EG (((AA[k]!).kind) % 6) (1:UInt8) rfl rfl (AE (AB (?_)))))))))))))))
       have dc:((((AA[k]!).kind) % 6) == (1:UInt8))=true:=(by simpa using K7)
       rw [dc]
       refine AK true rfl rfl (fun _=>AD kR (AC (AF (vI (((((AA[k]!).other).toNat) % s.d.length:Nat):Int)) rfl (AC (AM 2 GB rfl (BK (BP (vI 1) rfl rfl rfl s_3 (by repeat (constructor)) da oT gn fun kN go u7 s3 dd=>(?_)))))))) (fun h=>by cases h)
       have b5:=b5.mv u7
       have a5:=a5.mv u7 s3 (fun b hb=>AJ (E6 b hb))
       have ho0_b8834_0:=ho0_b8834_0.mv u7 s3 (fun b hb=>AJ (Q1 b hb))
       have a4:=a4.mv u7
       have a8:=a8.mv u7
       have a0:=a0.keep s3 (AJ P8)
       have a7:=a7.keep s3 (AJ P9)
       have ho0_b8834_1:=ho0_b8834_1.mv u7 s3 (fun b hb=>AJ (Q2 b hb))
       have ho0_b8834_2:=ho0_b8834_2.mv u7 s3 (fun b hb=>AJ (w7 b hb))
       have ho0_b8834_3:=ho0_b8834_3.mv u7 s3 (fun b hb=>AJ (Q3 b hb))
       have a9:=a9.keep s3 (AJ E5)
       have a6:=a6.keep s3 (AJ Q0)
       have hT:=by exact hT.mvB u7 s3 aS (by decide) (fun x hx=>by exact hx)
       refine AC (AM 4 LN rfl (BK (BP (vI (((((AA[k]!).other).toNat) % s.d.length:Nat):Int)) rfl rfl rfl s_3 (by repeat (constructor)) dd oT go fun gp gq u9 s4 d5=>(?_))))
       have b5:=b5.mv u9
       have a5:=a5.mv u9 s4 (fun b hb=>AJ (E6 b hb))
       have ho0_b8834_0:=ho0_b8834_0.mv u9 s4 (fun b hb=>AJ (Q1 b hb))
       have a4:=a4.mv u9
       have a8:=a8.mv u9
       have a0:=a0.keep s4 (AJ P8)
       have a7:=a7.keep s4 (AJ P9)
       have ho0_b8834_1:=ho0_b8834_1.mv u9 s4 (fun b hb=>AJ (Q2 b hb))
       have ho0_b8834_2:=ho0_b8834_2.mv u9 s4 (fun b hb=>AJ (w7 b hb))
       have ho0_b8834_3:=ho0_b8834_3.mv u9 s4 (fun b hb=>AJ (Q3 b hb))
       have a9:=a9.keep s4 (AJ E5)
       have a6:=a6.keep s4 (AJ Q0)
       have hT:=by exact hT.mvB u9 s4 aS (by decide) (fun x hx=>by exact hx)
       refine AE (AB (AG (ET [] [9,13] [[(0,1),(1,1),(2,1),(3,1),(4,1),(5,1),(6,1),(7,4),(8,4),(9,2),(10,1),(11,1),(12,1),(13,2),(14,0),(15,1)],[(0,1),(1,1),(2,1),(3,1),(4,1),(5,1),(6,1),(7,4),(8,4),(13,2),(9,2),(10,1),(11,1),(12,1),(14,0),(15,1)]] (by intro c F d v w hd;simp only [FQ,EZ];exact GW c F d v w hd) kR kR kR fun aW i9=>?_)))
       have T7:=gq.call i9
       have v0:Mv (d6 :: b6) gp (d6 :: b6) aW:=Mv.of_keep i9
       have b5:=b5.mv v0
       have a5:=a5.mv v0 i9 (by simp)
       have ho0_b8834_0:=ho0_b8834_0.mv v0 i9 (by simp)
       have a4:=a4.mv v0
       have a8:=a8.mv v0
       have a0:=a0.keep i9 (by simp)
       have a7:=a7.keep i9 (by simp)
       have ho0_b8834_1:=ho0_b8834_1.mv v0 i9 (by simp)
       have ho0_b8834_2:=ho0_b8834_2.mv v0 i9 (by simp)
       have ho0_b8834_3:=ho0_b8834_3.mv v0 i9 (by simp)
       have a9:=a9.keep i9 (by simp)
       have a6:=a6.keep i9 (by simp)
       have d5:=d5.keep i9 (by simp)
       have hT:=by exact hT.mv0 v0 i9 (fun x hx=>by exact hx)
       refine ⟨?_,?_,trivial⟩
       ·refine AO (AF (b0) rfl (CD (AO (AF (vI (((((AA[k]!).device).toNat) % s.d.length:Nat):Int)) rfl (CD (AO (BZ U24_ BG .i64 (((((AA[k]!).device).toNat) % s.d.length:Nat):Int) ((((AA[k]!).device).toNat) % s.d.length) rfl rfl rfl a5.rdB oM fun kO de=>(CD (AO (BT U31_ rfl BG rfl de fun Y7 Q4=>(?_)))))))))))
        have Q4:=Q4.2
        refine CD (AO (AQ (vs:=[vI (((((AA[k]!).device).toNat) % s.d.length:Nat):Int),vI (s.d[AA[k]!.device.toNat % s.d.length]!.counter+1),vI 1,vI ((((AA[k]!).copy) % 4).toNat:Int),vI (((((AA[k]!).other).toNat) % s.d.length:Nat):Int),vI ((AI s.d[AA[k]!.device.toNat % s.d.length]!.ops 4 0).1[(AA[k]!.copy % 4).toNat]!.token+1)]) U40_ rfl BX rfl d5 rfl (CD (AO (AP 4 GE ((AA[k]!).crash) rfl b5 (fun _ _ _ h=>CM h) fun kP df=>(CD (AO (CU U5_ rfl rfl df (CD (DA rfl (fun w4_ k4_=>DY ((AA[k]!).crash) (3:UInt8) (by decide) rfl rfl (⟨rfl,rfl⟩)) (DA rfl (fun w4_ k4_=>FF .u8 .i64 U5_ U3_ ((((AA[k]!).crash) % 3).toNat:Int) ((((AA[k]!).crash) % 3).toNat:Int) rfl (by have:=(((AA[k]!).crash) % 3).toNat_lt;exact EP oM rfl) (⟨rfl,rfl⟩)) (DU (BI (vs:=[vA Y7.toArray,vA #[vI (((((AA[k]!).device).toNat) % s.d.length:Nat):Int),vI (s.d[AA[k]!.device.toNat % s.d.length]!.counter+1),vI 1,vI ((((AA[k]!).copy) % 4).toNat:Int),vI (((((AA[k]!).other).toNat) % s.d.length:Nat):Int),vI ((AI s.d[AA[k]!.device.toNat % s.d.length]!.ops 4 0).1[(AA[k]!.copy % 4).toNat]!.token+1)],vI ((((AA[k]!).crash) % 3).toNat:Int)]) HK (NP (O:=(d6 :: b6)++O) Y7 (s.d[(((AA[k]!).device).toNat) % s.d.length]!) [vI (((((AA[k]!).device).toNat) % s.d.length:Nat):Int),vI (s.d[AA[k]!.device.toNat % s.d.length]!.counter+1),vI 1,vI ((((AA[k]!).copy) % 4).toNat:Int),vI (((((AA[k]!).other).toNat) % s.d.length:Nat):Int),vI ((AI s.d[AA[k]!.device.toNat % s.d.length]!.ops 4 0).1[(AA[k]!.copy % 4).toNat]!.token+1)] (⟨(((((AA[k]!).device).toNat) % s.d.length:Nat):Int),s.d[AA[k]!.device.toNat % s.d.length]!.counter+1,(1:Int),((((AA[k]!).copy) % 4).toNat:Int),(((((AA[k]!).other).toNat) % s.d.length:Nat):Int),(AI s.d[AA[k]!.device.toNat % s.d.length]!.ops 4 0).1[(AA[k]!.copy % 4).toNat]!.token+1⟩:DeviceOp) ((((AA[k]!).crash) % 3).toNat:Int) aW Q4 rfl T7.lt) rfl T7 fun kQ kS gr v1 m1 gs=>(?_))))))))))))))
        obtain ⟨Q5,rfl,Q6⟩:=gs
        have b5:=b5.mv v1
        have a5:=a5.mv v1 m1 (by simp)
        have ho0_b8834_0:=ho0_b8834_0.mv v1 m1 (by simp)
        have a4:=a4.mv v1
        have a8:=a8.mv v1
        have a0:=a0.keep m1 (by simp)
        have a7:=a7.keep m1 (by simp)
        have ho0_b8834_1:=ho0_b8834_1.mv v1 m1 (by simp)
        have ho0_b8834_2:=ho0_b8834_2.mv v1 m1 (by simp)
        have ho0_b8834_3:=ho0_b8834_3.mv v1 m1 (by simp)
        have a9:=a9.keep m1 (by simp)
        have a6:=a6.keep m1 (by simp)
        have d5:=d5.keep m1 (by simp)
        have hT:=by exact hT.mv0 v1 m1 (fun x hx=>by exact hx)
        refine ⟨m1,?_⟩
        refine AO (AF (vT #[vA Q5.toArray,vI ((AV (s.d[(((AA[k]!).device).toNat) % s.d.length]!) (⟨(((((AA[k]!).device).toNat) % s.d.length:Nat):Int),s.d[AA[k]!.device.toNat % s.d.length]!.counter+1,(1:Int),((((AA[k]!).copy) % 4).toNat:Int),(((((AA[k]!).other).toNat) % s.d.length:Nat):Int),(AI s.d[AA[k]!.device.toNat % s.d.length]!.ops 4 0).1[(AA[k]!.copy % 4).toNat]!.token+1⟩:DeviceOp) ((((AA[k]!).crash) % 3).toNat:Int)).2)]) rfl (CD (AO (BD (vA Q5.toArray) rfl rfl (CD (AO (BD (vI ((AV (s.d[(((AA[k]!).device).toNat) % s.d.length]!) (⟨(((((AA[k]!).device).toNat) % s.d.length:Nat):Int),s.d[AA[k]!.device.toNat % s.d.length]!.counter+1,(1:Int),((((AA[k]!).copy) % 4).toNat:Int),(((((AA[k]!).other).toNat) % s.d.length:Nat):Int),(AI s.d[AA[k]!.device.toNat % s.d.length]!.ops 4 0).1[(AA[k]!.copy % 4).toNat]!.token+1⟩:DeviceOp) ((((AA[k]!).crash) % 3).toNat:Int)).2)) rfl rfl (CD (DU (CC [vI 0,vI 0,nS,vO false] HO rfl gr fun e9 gt gu gv s5 m2 dg=>(?_)))))))))))
        have dh:DB c7 e9:=by show c7≠e9;have:=a0.lt;omega
        have di:DB b8 e9:=by show b8≠e9;have:=a7.lt;omega
        have dj:DB c5 e9:=by show c5≠e9;have:=a9.lt;omega
        have dk:DB c6 e9:=by show c6≠e9;have:=a6.lt;omega
        have dm:DB d6 e9:=by show d6≠e9;have:=d5.lt;omega
        have Y8:∀ b,b0.ownBlock=some b→b≠e9:=fun b hb=>by have:=(a5.lt b hb).2;omega
        have dn:∀ b,b2.ownBlock=some b→b≠e9:=fun b hb=>by have:=(ho0_b8834_0.lt b hb).2;omega
        have dp:∀ b,a1.ownBlock=some b→b≠e9:=fun b hb=>by have:=(ho0_b8834_1.lt b hb).2;omega
        have Y9:∀ b,a3.ownBlock=some b→b≠e9:=fun b hb=>by have:=(ho0_b8834_2.lt b hb).2;omega
        have dq:∀ b,a2.ownBlock=some b→b≠e9:=fun b hb=>by have:=(ho0_b8834_3.lt b hb).2;omega
        have b9:∀ b,b0.ownBlock=some b→b∈(e9 :: (d6 :: b6)):=fun b hb=>List.mem_cons_of_mem _ (b9 b hb)
        have b7:∀ b,b2.ownBlock=some b→b∈(e9 :: (d6 :: b6)):=fun b hb=>List.mem_cons_of_mem _ (b7 b hb)
        have b1:∀ b,a1.ownBlock=some b→b∈(e9 :: (d6 :: b6)):=fun b hb=>List.mem_cons_of_mem _ (b1 b hb)
        have b4:∀ b,a3.ownBlock=some b→b∈(e9 :: (d6 :: b6)):=fun b hb=>List.mem_cons_of_mem _ (b4 b hb)
        have b3:∀ b,a2.ownBlock=some b→b∈(e9 :: (d6 :: b6)):=fun b hb=>List.mem_cons_of_mem _ (b3 b hb)
        clear gu
        have b5:=b5.mv s5
        have a5:=a5.mv s5 m2 (by simp)
        have ho0_b8834_0:=ho0_b8834_0.mv s5 m2 (by simp)
        have Q6:Enc.device.rd gt ((e9 :: (d6 :: b6))++O) Q5 ((AV (s.d[(((AA[k]!).device).toNat) % s.d.length]!) (⟨(((((AA[k]!).device).toNat) % s.d.length:Nat):Int),s.d[AA[k]!.device.toNat % s.d.length]!.counter+1,(1:Int),((((AA[k]!).copy) % 4).toNat:Int),(((((AA[k]!).other).toNat) % s.d.length:Nat):Int),(AI s.d[AA[k]!.device.toNat % s.d.length]!.ops 4 0).1[(AA[k]!.copy % 4).toNat]!.token+1⟩:DeviceOp) ((((AA[k]!).crash) % 3).toNat:Int)).1):=Enc.mv Enc.device (x:=(AV (s.d[(((AA[k]!).device).toNat) % s.d.length]!) (⟨(((((AA[k]!).device).toNat) % s.d.length:Nat):Int),s.d[AA[k]!.device.toNat % s.d.length]!.counter+1,(1:Int),((((AA[k]!).copy) % 4).toNat:Int),(((((AA[k]!).other).toNat) % s.d.length:Nat):Int),(AI s.d[AA[k]!.device.toNat % s.d.length]!.ops 4 0).1[(AA[k]!.copy % 4).toNat]!.token+1⟩:DeviceOp) ((((AA[k]!).crash) % 3).toNat:Int)).1) Q6 s5
        have a4:=a4.mv s5
        have a8:=a8.mv s5
        have a0:=a0.keep m2 (by simp)
        have a7:=a7.keep m2 (by simp)
        have ho0_b8834_1:=ho0_b8834_1.mv s5 m2 (by simp)
        have ho0_b8834_2:=ho0_b8834_2.mv s5 m2 (by simp)
        have ho0_b8834_3:=ho0_b8834_3.mv s5 m2 (by simp)
        have a9:=a9.keep m2 (by simp)
        have a6:=a6.keep m2 (by simp)
        have d5:=d5.keep m2 (by simp)
        have hT:=by exact hT.mv0 s5 m2 (fun x hx=>by exact List.mem_cons_of_mem _ hx)
        refine ⟨m2,?_⟩
        obtain ⟨T8,rfl,E7⟩:=Q6
        have:=E7.len_le
        refine FO (AU (vs:=[vI (((AV (s.d[(((AA[k]!).device).toNat) % s.d.length]!) (⟨(((((AA[k]!).device).toNat) % s.d.length:Nat):Int),s.d[AA[k]!.device.toNat % s.d.length]!.counter+1,(1:Int),((((AA[k]!).copy) % 4).toNat:Int),(((((AA[k]!).other).toNat) % s.d.length:Nat):Int),(AI s.d[AA[k]!.device.toNat % s.d.length]!.ops 4 0).1[(AA[k]!.copy % 4).toNat]!.token+1⟩:DeviceOp) ((((AA[k]!).crash) % 3).toNat:Int)).1).id),vI (((AV (s.d[(((AA[k]!).device).toNat) % s.d.length]!) (⟨(((((AA[k]!).device).toNat) % s.d.length:Nat):Int),s.d[AA[k]!.device.toNat % s.d.length]!.counter+1,(1:Int),((((AA[k]!).copy) % 4).toNat:Int),(((((AA[k]!).other).toNat) % s.d.length:Nat):Int),(AI s.d[AA[k]!.device.toNat % s.d.length]!.ops 4 0).1[(AA[k]!.copy % 4).toNat]!.token+1⟩:DeviceOp) ((((AA[k]!).crash) % 3).toNat:Int)).1).counter),T8,vO (((AV (s.d[(((AA[k]!).device).toNat) % s.d.length]!) (⟨(((((AA[k]!).device).toNat) % s.d.length:Nat):Int),s.d[AA[k]!.device.toNat % s.d.length]!.counter+1,(1:Int),((((AA[k]!).copy) % 4).toNat:Int),(((((AA[k]!).other).toNat) % s.d.length:Nat):Int),(AI s.d[AA[k]!.device.toNat % s.d.length]!.ops 4 0).1[(AA[k]!.copy % 4).toNat]!.token+1⟩:DeviceOp) ((((AA[k]!).crash) % 3).toNat:Int)).1).halted)]) (.agg #[vI (((AV (s.d[(((AA[k]!).device).toNat) % s.d.length]!) (⟨(((((AA[k]!).device).toNat) % s.d.length:Nat):Int),s.d[AA[k]!.device.toNat % s.d.length]!.counter+1,(1:Int),((((AA[k]!).copy) % 4).toNat:Int),(((((AA[k]!).other).toNat) % s.d.length:Nat):Int),(AI s.d[AA[k]!.device.toNat % s.d.length]!.ops 4 0).1[(AA[k]!.copy % 4).toNat]!.token+1⟩:DeviceOp) ((((AA[k]!).crash) % 3).toNat:Int)).1).id),vI (((AV (s.d[(((AA[k]!).device).toNat) % s.d.length]!) (⟨(((((AA[k]!).device).toNat) % s.d.length:Nat):Int),s.d[AA[k]!.device.toNat % s.d.length]!.counter+1,(1:Int),((((AA[k]!).copy) % 4).toNat:Int),(((((AA[k]!).other).toNat) % s.d.length:Nat):Int),(AI s.d[AA[k]!.device.toNat % s.d.length]!.ops 4 0).1[(AA[k]!.copy % 4).toNat]!.token+1⟩:DeviceOp) ((((AA[k]!).crash) % 3).toNat:Int)).1).counter),T8,vO (((AV (s.d[(((AA[k]!).device).toNat) % s.d.length]!) (⟨(((((AA[k]!).device).toNat) % s.d.length:Nat):Int),s.d[AA[k]!.device.toNat % s.d.length]!.counter+1,(1:Int),((((AA[k]!).copy) % 4).toNat:Int),(((((AA[k]!).other).toNat) % s.d.length:Nat):Int),(AI s.d[AA[k]!.device.toNat % s.d.length]!.ops 4 0).1[(AA[k]!.copy % 4).toNat]!.token+1⟩:DeviceOp) ((((AA[k]!).crash) % 3).toNat:Int)).1).halted)]) rfl rfl rfl BG (fun u hu=>by simp only [List.mem_cons,List.not_mem_nil,or_false] at hu;rcases hu with rfl|rfl|rfl|rfl <;> first|rfl|exact E7.oneCell) (by repeat (constructor)) dg oT gv fun kU aX s6 p1 B6=>(?_))
        have b5:=b5.mv s6
        have a5:=a5.mv s6 p1 (fun b hb=>AJ (Y8 b hb))
        have ho0_b8834_0:=ho0_b8834_0.mv s6 p1 (fun b hb=>AJ (dn b hb))
        have E7:=E7.mv s6
        have a4:=a4.mv s6
        have a8:=a8.mv s6
        have a0:=a0.keep p1 (AJ dh)
        have a7:=a7.keep p1 (AJ di)
        have ho0_b8834_1:=ho0_b8834_1.mv s6 p1 (fun b hb=>AJ (dp b hb))
        have ho0_b8834_2:=ho0_b8834_2.mv s6 p1 (fun b hb=>AJ (Y9 b hb))
        have ho0_b8834_3:=ho0_b8834_3.mv s6 p1 (fun b hb=>AJ (dq b hb))
        have a9:=a9.keep p1 (AJ dj)
        have a6:=a6.keep p1 (AJ dk)
        have d5:=d5.keep p1 (AJ dm)
        have hT:=by exact hT.mvB s6 p1 aS (by decide) (fun x hx=>by exact hx)
        refine AO (AH (vI ((AV (s.d[(((AA[k]!).device).toNat) % s.d.length]!) (⟨(((((AA[k]!).device).toNat) % s.d.length:Nat):Int),s.d[AA[k]!.device.toNat % s.d.length]!.counter+1,(1:Int),((((AA[k]!).copy) % 4).toNat:Int),(((((AA[k]!).other).toNat) % s.d.length:Nat):Int),(AI s.d[AA[k]!.device.toNat % s.d.length]!.ops 4 0).1[(AA[k]!.copy % 4).toNat]!.token+1⟩:DeviceOp) ((((AA[k]!).crash) % 3).toNat:Int)).2)) rfl (CD (EW (AB (AG (AG (AD kR (AC (AF (vI ((AV (s.d[(((AA[k]!).device).toNat) % s.d.length]!) (⟨(((((AA[k]!).device).toNat) % s.d.length:Nat):Int),s.d[AA[k]!.device.toNat % s.d.length]!.counter+1,(1:Int),((((AA[k]!).copy) % 4).toNat:Int),(((((AA[k]!).other).toNat) % s.d.length:Nat):Int),(AI s.d[AA[k]!.device.toNat % s.d.length]!.ops 4 0).1[(AA[k]!.copy % 4).toNat]!.token+1⟩:DeviceOp) ((((AA[k]!).crash) % 3).toNat:Int)).2)) rfl (AC (DX .i64 ((AV (s.d[(((AA[k]!).device).toNat) % s.d.length]!) (⟨(((((AA[k]!).device).toNat) % s.d.length:Nat):Int),s.d[AA[k]!.device.toNat % s.d.length]!.counter+1,(1:Int),((((AA[k]!).copy) % 4).toNat:Int),(((((AA[k]!).other).toNat) % s.d.length:Nat):Int),(AI s.d[AA[k]!.device.toNat % s.d.length]!.ops 4 0).1[(AA[k]!.copy % 4).toNat]!.token+1⟩:DeviceOp) ((((AA[k]!).crash) % 3).toNat:Int)).2) (0:Int) rfl rfl (AE (AB (AK (((AV (s.d[(((AA[k]!).device).toNat) % s.d.length]!) (⟨(((((AA[k]!).device).toNat) % s.d.length:Nat):Int),s.d[AA[k]!.device.toNat % s.d.length]!.counter+1,(1:Int),((((AA[k]!).copy) % 4).toNat:Int),(((((AA[k]!).other).toNat) % s.d.length:Nat):Int),(AI s.d[AA[k]!.device.toNat % s.d.length]!.ops 4 0).1[(AA[k]!.copy % 4).toNat]!.token+1⟩:DeviceOp) ((((AA[k]!).crash) % 3).toNat:Int)).2) != (0:Int)) rfl rfl (fun Q7=>?_) (fun Q7=>?_)))))))))))))))
        ·have ik:(AV (s.d[(((AA[k]!).device).toNat) % s.d.length]!) (⟨(((((AA[k]!).device).toNat) % s.d.length:Nat):Int),s.d[AA[k]!.device.toNat % s.d.length]!.counter+1,(1:Int),((((AA[k]!).copy) % 4).toNat:Int),(((((AA[k]!).other).toNat) % s.d.length:Nat):Int),(AI s.d[AA[k]!.device.toNat % s.d.length]!.ops 4 0).1[(AA[k]!.copy % 4).toNat]!.token+1⟩:DeviceOp) ((((AA[k]!).crash) % 3).toNat:Int)).2≠(0:Int):=by simpa using Q7
         refine AG (AD kR (AC (AQ (vs:=[b0,a1,a3,a2]) U29_ rfl CL rfl a9 rfl (BK (AU (vs:=[b0,a1,a3,a2]) (.agg #[b0,a1,a3,a2]) rfl rfl rfl CL (fun u hu=>by simp only [List.mem_cons,List.not_mem_nil,or_false] at hu;rcases hu with rfl|rfl|rfl|rfl <;> first|exact a5.oneCell|exact ho0_b8834_1.oneCell|exact ho0_b8834_2.oneCell|exact ho0_b8834_3.oneCell) rC a6 oT aX fun kV gw H2 H3 dr=>(?_))))))
         have a5:=a5.mv H2 H3 (fun b hb=>AJ (d7 b hb))
         have ho0_b8834_1:=ho0_b8834_1.mv H2 H3 (fun b hb=>AJ (e2 b hb))
         have ho0_b8834_2:=ho0_b8834_2.mv H2 H3 (fun b hb=>AJ (d9 b hb))
         have ho0_b8834_3:=ho0_b8834_3.mv H2 H3 (fun b hb=>AJ (e0 b hb))
         have a4:=a4.mv H2
         have a0:=a0.keep H3 (AJ i2)
         have hT:=by exact hT.mvB H2 H3 aS (by decide) (fun x hx=>by exact hx)
         refine AE (AB (AS (AN (BC (AN (AZ rfl (FN (vs:=[b0,a1,a3,a2]) rfl rfl U29_ rfl CL rfl dr rfl) (Exists.intro _ (And.intro rfl (BK (AU (vs:=[b0,a1,a3,a2]) (.agg #[b0,a1,a3,a2]) rfl rfl rfl CL (fun u hu=>by simp only [List.mem_cons,List.not_mem_nil,or_false] at hu;rcases hu with rfl|rfl|rfl|rfl <;> first|exact a5.oneCell|exact ho0_b8834_1.oneCell|exact ho0_b8834_2.oneCell|exact ho0_b8834_3.oneCell) rC a0 oT gw fun kW gx H4 K9 ds=>(?_)))))))))))
         have a4:=a4.mv H4
         have a5:=a5.mv H4 K9 (fun b hb=>AJ (d4 b hb))
         have ho0_b8834_1:=ho0_b8834_1.mv H4 K9 (fun b hb=>AJ (nb0_b8834_1_b8834 b hb))
         have ho0_b8834_2:=ho0_b8834_2.mv H4 K9 (fun b hb=>AJ (nb0_b8834_2_b8834 b hb))
         have ho0_b8834_3:=ho0_b8834_3.mv H4 K9 (fun b hb=>AJ (nb0_b8834_3_b8834 b hb))
         have hT:=by exact hT.mvB H4 K9 aS (by decide) (fun x hx=>by exact hx)
         refine AE (AW (AB (AD kR (AC (CE .i64 ((k:Nat):Int) (1:Int) (((k+1:Nat):Int)) rfl rfl (EP oM oM) (AC (AF (vI ((k+1:Nat):Int)) rfl (AE (AB (?_))))))))))
         exact ⟨_,oM,(k+1),(s),(L),b0,a1,a3,a2,(e9 :: (d6 :: b6)),oM,(by rw [FD,← hr0_1];(symm;exact (by (rw [lv_bad (.inr aS) (by rw [HA aS];assumption)];done)))),hT,rfl,⟨_,AL _ ⟨rfl,rfl,rfl,(by rfl),rfl,trivial⟩⟩,gx,a5,b9,ho0_b8834_1,b1,ho0_b8834_2,b4,ho0_b8834_3,b3,a4,ds,(by (repeat (first|assumption|apply List.mem_cons_of_mem))),d4,nb0_b8834_1_b8834,nb0_b8834_2_b8834,nb0_b8834_3_b8834,(fun b hb e=>c2 b e hb),(fun b hb e=>c3 b e hb),(fun b hb e=>c4 b e hb),c2,nn0_b8834_1_b8834_2,nn0_b8834_1_b8834_3,c3,nn0_b8834_2_b8834_1,nn0_b8834_2_b8834_3,c4,nn0_b8834_3_b8834_1,nn0_b8834_3_b8834_2⟩
        have il:(AV (s.d[(((AA[k]!).device).toNat) % s.d.length]!) (⟨(((((AA[k]!).device).toNat) % s.d.length:Nat):Int),s.d[AA[k]!.device.toNat % s.d.length]!.counter+1,(1:Int),((((AA[k]!).copy) % 4).toNat:Int),(((((AA[k]!).other).toNat) % s.d.length:Nat):Int),(AI s.d[AA[k]!.device.toNat % s.d.length]!.ops 4 0).1[(AA[k]!.copy % 4).toNat]!.token+1⟩:DeviceOp) ((((AA[k]!).crash) % 3).toNat:Int)).2=(0:Int):=by simpa using Q7
        refine AT (AB (AG (AD kR (AC (AF (b0) rfl (AC (AF (vI (((((AA[k]!).device).toNat) % s.d.length:Nat):Int)) rfl (AC (AQ (vs:=[vI (((AV (s.d[(((AA[k]!).device).toNat) % s.d.length]!) (⟨(((((AA[k]!).device).toNat) % s.d.length:Nat):Int),s.d[AA[k]!.device.toNat % s.d.length]!.counter+1,(1:Int),((((AA[k]!).copy) % 4).toNat:Int),(((((AA[k]!).other).toNat) % s.d.length:Nat):Int),(AI s.d[AA[k]!.device.toNat % s.d.length]!.ops 4 0).1[(AA[k]!.copy % 4).toNat]!.token+1⟩:DeviceOp) ((((AA[k]!).crash) % 3).toNat:Int)).1).id),vI (((AV (s.d[(((AA[k]!).device).toNat) % s.d.length]!) (⟨(((((AA[k]!).device).toNat) % s.d.length:Nat):Int),s.d[AA[k]!.device.toNat % s.d.length]!.counter+1,(1:Int),((((AA[k]!).copy) % 4).toNat:Int),(((((AA[k]!).other).toNat) % s.d.length:Nat):Int),(AI s.d[AA[k]!.device.toNat % s.d.length]!.ops 4 0).1[(AA[k]!.copy % 4).toNat]!.token+1⟩:DeviceOp) ((((AA[k]!).crash) % 3).toNat:Int)).1).counter),T8,vO (((AV (s.d[(((AA[k]!).device).toNat) % s.d.length]!) (⟨(((((AA[k]!).device).toNat) % s.d.length:Nat):Int),s.d[AA[k]!.device.toNat % s.d.length]!.counter+1,(1:Int),((((AA[k]!).copy) % 4).toNat:Int),(((((AA[k]!).other).toNat) % s.d.length:Nat):Int),(AI s.d[AA[k]!.device.toNat % s.d.length]!.ops 4 0).1[(AA[k]!.copy % 4).toNat]!.token+1⟩:DeviceOp) ((((AA[k]!).crash) % 3).toNat:Int)).1).halted)]) U31_ rfl BG rfl B6 rfl (AC (DO U24_ BG .i64 (((((AA[k]!).device).toNat) % s.d.length:Nat):Int) ((((AA[k]!).device).toNat) % s.d.length) rfl rfl rfl a5 oM fun kX h2=>(BK (DW ((AV (s.d[(((AA[k]!).device).toNat) % s.d.length]!) (⟨(((((AA[k]!).device).toNat) % s.d.length:Nat):Int),s.d[AA[k]!.device.toNat % s.d.length]!.counter+1,(1:Int),((((AA[k]!).copy) % 4).toNat:Int),(((((AA[k]!).other).toNat) % s.d.length:Nat):Int),(AI s.d[AA[k]!.device.toNat % s.d.length]!.ops 4 0).1[(AA[k]!.copy % 4).toNat]!.token+1⟩:DeviceOp) ((((AA[k]!).crash) % 3).toNat:Int)).1) (by decide) BG rfl rfl a5 h2 (b9 _ h2) oM ⟨_,rfl,E7⟩ aX fun kY aY A0 p2 p3=>(?_))))))))))))))
        have b5:=b5.mv A0
        have ho0_b8834_0:=ho0_b8834_0.mv A0 p2 (fun b hb=>by simp only [List.mem_singleton];rintro rfl;exact absurd h2 (J8 _ hb))
        have a4:=a4.mv A0
        have a8:=a8.mv A0
        have a0:=a0.keep p2 (by simp only [List.mem_singleton];exact fun e=>absurd e.symm (d4 _ h2))
        have a7:=a7.keep p2 (by simp only [List.mem_singleton];exact fun e=>absurd e.symm (e5 _ h2))
        have ho0_b8834_1:=ho0_b8834_1.mv A0 p2 (fun b hb=>by simp only [List.mem_singleton];rintro rfl;exact absurd h2 (c2 _ hb))
        have ho0_b8834_2:=ho0_b8834_2.mv A0 p2 (fun b hb=>by simp only [List.mem_singleton];rintro rfl;exact absurd h2 (c3 _ hb))
        have ho0_b8834_3:=ho0_b8834_3.mv A0 p2 (fun b hb=>by simp only [List.mem_singleton];rintro rfl;exact absurd h2 (c4 _ hb))
        have a9:=a9.keep p2 (by simp only [List.mem_singleton];exact fun e=>absurd e.symm (d8 _ h2))
        have a6:=a6.keep p2 (by simp only [List.mem_singleton];exact fun e=>absurd e.symm (d7 _ h2))
        have d5:=d5.keep p2 (by simp only [List.mem_singleton];exact fun e=>absurd e.symm (E6 _ h2))
        have B6:=B6.keep p2 (by simp only [List.mem_singleton];exact fun e=>absurd e.symm (Y8 _ h2))
        have hT:=hT.mvO A0 p2 a5 (fun b hq=>by have hq:=List.mem_singleton.1 hq;subst hq;exact h2) (by decide) (fun x hx=>by exact hx)
        refine AE (AB (AG (AD kR (AC (AP 4 GE ((AA[k]!).crash) rfl b5 (fun _ _ _ h=>CM h) fun kZ dt=>(AC (CU U5_ rfl rfl dt (AC (DY ((AA[k]!).crash) (3:UInt8) (by decide) rfl rfl (AC (EG (((AA[k]!).crash) % 3) (2:UInt8) rfl rfl (AE (AB (AK ((((AA[k]!).crash) % 3) == (2:UInt8)) rfl rfl (fun Q8=>?_) (fun Q8=>?_)))))))))))))))
        ·have im:((AA[k]!).crash) % 3=(2:UInt8):=by simpa using Q8
         refine AG (AD kR (AC (AM 2 EE rfl (AC (AR U26_ rfl (a3) rfl a9 rfl (AC (AQ (vs:=[vI (((((AA[k]!).device).toNat) % s.d.length:Nat):Int),vI (s.d[AA[k]!.device.toNat % s.d.length]!.counter+1),vI 1,vI ((((AA[k]!).copy) % 4).toNat:Int),vI (((((AA[k]!).other).toNat) % s.d.length:Nat):Int),vI ((AI s.d[AA[k]!.device.toNat % s.d.length]!.ops 4 0).1[(AA[k]!.copy % 4).toNat]!.token+1)]) U40_ rfl BX rfl d5 rfl (AC (EY (E:=Enc.devop) (xs:=[.tmp 135]) U26_ BX HC (by decide) [.agg #[vI (((((AA[k]!).device).toNat) % s.d.length:Nat):Int),vI (s.d[AA[k]!.device.toNat % s.d.length]!.counter+1),vI 1,vI ((((AA[k]!).copy) % 4).toNat:Int),vI (((((AA[k]!).other).toNat) % s.d.length:Nat):Int),vI ((AI s.d[AA[k]!.device.toNat % s.d.length]!.ops 4 0).1[(AA[k]!.copy % 4).toNat]!.token+1)]] [[vI (((((AA[k]!).device).toNat) % s.d.length:Nat):Int),vI (s.d[AA[k]!.device.toNat % s.d.length]!.counter+1),vI 1,vI ((((AA[k]!).copy) % 4).toNat:Int),vI (((((AA[k]!).other).toNat) % s.d.length:Nat):Int),vI ((AI s.d[AA[k]!.device.toNat % s.d.length]!.ops 4 0).1[(AA[k]!.copy % 4).toNat]!.token+1)]] [(⟨(((((AA[k]!).device).toNat) % s.d.length:Nat):Int),s.d[AA[k]!.device.toNat % s.d.length]!.counter+1,(1:Int),((((AA[k]!).copy) % 4).toNat:Int),(((((AA[k]!).other).toNat) % s.d.length:Nat):Int),(AI s.d[AA[k]!.device.toNat % s.d.length]!.ops 4 0).1[(AA[k]!.copy % 4).toNat]!.token+1⟩:DeviceOp)] rfl rfl rfl (Parts.cons rfl rfl (Parts.nil _ _ _)) oT aY fun la le gy A1 m3 Z0=>(?_))))))))))
         have p3:=p3.mv A1 m3 (by simp)
         have ho0_b8834_0:=ho0_b8834_0.mv A1 m3 (by simp)
         have ho0_b8834_2:=ho0_b8834_2.mv A1 m3 (by simp)
         have a4:=a4.mv A1
         have a8:=a8.mv A1
         have a0:=a0.keep m3 (by simp)
         have a7:=a7.keep m3 (by simp)
         have ho0_b8834_1:=ho0_b8834_1.mv A1 m3 (by simp)
         have ho0_b8834_3:=ho0_b8834_3.mv A1 m3 (by simp)
         have a9:=a9.keep m3 (by simp)
         have a6:=a6.keep m3 (by simp)
         have d5:=d5.keep m3 (by simp)
         have B6:=B6.keep m3 (by simp)
         have hT:=by exact hT.mv0 A1 m3 (fun x hx=>by exact hx)
         have:=Z0.len_le
         refine AC (CT (E:=Enc.devop) (l:=s.done) (m:=[(⟨(((((AA[k]!).device).toNat) % s.d.length:Nat):Int),s.d[AA[k]!.device.toNat % s.d.length]!.counter+1,(1:Int),((((AA[k]!).copy) % 4).toNat:Int),(((((AA[k]!).other).toNat) % s.d.length:Nat):Int),(AI s.d[AA[k]!.device.toNat % s.d.length]!.ops 4 0).1[(AA[k]!.copy % 4).toNat]!.token+1⟩:DeviceOp)]) U26_ OB rfl (by decide) rfl rfl ho0_b8834_2 Z0 (fun _ hb=>.inl hb) b4 (by simp;omega) (by simp [maxLen];omega) gy fun m4 lf p4 du j7 h3 gz H5 v2 L0=>(?_))
         have Z1:∀ b,b0.ownBlock=some b→m4.ownBlock≠some b:=fun b hb e=>by rcases j7 with e1|e1 <;> rw [e1] at e <;> first|(cases e;have:=(p3.lt _ hb).2;omega)|(exact absurd e ((fun b hb e=>c3 b e hb) b hb))
         have io:∀ b,b2.ownBlock=some b→m4.ownBlock≠some b:=fun b hb e=>by rcases j7 with e1|e1 <;> rw [e1] at e <;> first|(cases e;have:=(ho0_b8834_0.lt _ hb).2;omega)|(exact absurd e (nn0_b8834_0_b8834_2 b hb))
         have Z2:∀ b,a1.ownBlock=some b→m4.ownBlock≠some b:=fun b hb e=>by rcases j7 with e1|e1 <;> rw [e1] at e <;> first|(cases e;have:=(ho0_b8834_1.lt _ hb).2;omega)|(exact absurd e (nn0_b8834_1_b8834_2 b hb))
         have Z3:∀ b,a2.ownBlock=some b→m4.ownBlock≠some b:=fun b hb e=>by rcases j7 with e1|e1 <;> rw [e1] at e <;> first|(cases e;have:=(ho0_b8834_3.lt _ hb).2;omega)|(exact absurd e (nn0_b8834_3_b8834_2 b hb))
         have dv:∀ b,m4.ownBlock=some b→b≠c7:=fun b hb=>by rcases j7 with e1|e1 <;> rw [e1] at hb <;> first|(cases hb;have:=a0.lt;omega)|(exact nb0_b8834_2_b8834 b hb)
         have dw:∀ b,m4.ownBlock=some b→b≠b8:=fun b hb=>by rcases j7 with e1|e1 <;> rw [e1] at hb <;> first|(cases hb;have:=a7.lt;omega)|(exact f0 b hb)
         have Z4:∀ b,m4.ownBlock=some b→b≠c5:=fun b hb=>by rcases j7 with e1|e1 <;> rw [e1] at hb <;> first|(cases hb;have:=a9.lt;omega)|(exact f1 b hb)
         have dx:∀ b,m4.ownBlock=some b→b≠c6:=fun b hb=>by rcases j7 with e1|e1 <;> rw [e1] at hb <;> first|(cases hb;have:=a6.lt;omega)|(exact d9 b hb)
         have ip:∀ b,m4.ownBlock=some b→b≠d6:=fun b hb=>by rcases j7 with e1|e1 <;> rw [e1] at hb <;> first|(cases hb;have:=d5.lt;omega)|(exact w7 b hb)
         have iq:∀ b,m4.ownBlock=some b→b≠e9:=fun b hb=>by rcases j7 with e1|e1 <;> rw [e1] at hb <;> first|(cases hb;have:=B6.lt;omega)|(exact Y9 b hb)
         have b9:∀ b,b0.ownBlock=some b→b∈p4:=fun b hb=>h3 b (b9 b hb)
         have b7:∀ b,b2.ownBlock=some b→b∈p4:=fun b hb=>h3 b (b7 b hb)
         have b1:∀ b,a1.ownBlock=some b→b∈p4:=fun b hb=>h3 b (b1 b hb)
         have b3:∀ b,a2.ownBlock=some b→b∈p4:=fun b hb=>h3 b (b3 b hb)
         have g2:c7∈p4:=h3 c7 rC
         have h6:b8∈p4:=h3 b8 rC
         have h7:c5∈p4:=h3 c5 rC
         have h8:c6∈p4:=h3 c6 rC
         have Z5:d6∈p4:=h3 d6 (by repeat (constructor))
         have hn:e9∈p4:=h3 e9 (by repeat (constructor))
         have p3:=p3.mv H5 v2 (fun b hb=>by simp only [Option.mem_toList];exact (fun b hb e=>c3 b e hb) b hb)
         have a4:=a4.mv H5
         have a8:=a8.mv H5
         have a0:=a0.keep v2 (by simp only [Option.mem_toList];exact fun e=>absurd rfl (nb0_b8834_2_b8834 _ e))
         have a7:=a7.keep v2 (by simp only [Option.mem_toList];exact fun e=>absurd rfl (f0 _ e))
         have ho0_b8834_1:=ho0_b8834_1.mv H5 v2 (fun b hb=>by simp only [Option.mem_toList];exact nn0_b8834_1_b8834_2 b hb)
         have ho0_b8834_3:=ho0_b8834_3.mv H5 v2 (fun b hb=>by simp only [Option.mem_toList];exact nn0_b8834_3_b8834_2 b hb)
         have a9:=a9.keep v2 (by simp only [Option.mem_toList];exact fun e=>absurd rfl (f1 _ e))
         have a6:=a6.keep v2 (by simp only [Option.mem_toList];exact fun e=>absurd rfl (d9 _ e))
         have d5:=d5.keep v2 (by simp only [Option.mem_toList];exact fun e=>absurd rfl (w7 _ e))
         have hT:=hT.mvO H5 v2 ho0_b8834_2 (fun b hb=>Option.mem_toList.1 hb) (by decide) h3
         refine AC (AM 2 EE rfl (BK (BP (m4) rfl rfl L0.oneCell HR (by repeat (assumption)) a9 oT gz fun lg gA D2 v3 dy=>(?_))))
         have p3:=p3.mv D2 v3 (fun b hb=>AJ (d8 b hb))
         have L0:=L0.mv D2 v3 (fun b hb=>AJ (Z4 b hb))
         have a4:=a4.mv D2
         have a8:=a8.mv D2
         have a0:=a0.keep v3 (AJ w0)
         have a7:=a7.keep v3 (AJ w1)
         have ho0_b8834_1:=ho0_b8834_1.mv D2 v3 (fun b hb=>AJ (e4 b hb))
         have ho0_b8834_3:=ho0_b8834_3.mv D2 v3 (fun b hb=>AJ (e7 b hb))
         have a6:=a6.keep v3 (AJ (Ne.symm w2))
         have d5:=d5.keep v3 (AJ (Ne.symm E5))
         have hT:=by exact hT.mvB D2 v3 aS (by decide) (fun x hx=>by exact hx)
         refine AE (AB (AG (AD kR (AC (AM 2 GB rfl (AC (AR U3_ rfl (vI 1) rfl d5 rfl (AC (DC .i64 (1:Int) (2:Int) rfl rfl (AE (AB (AK false rfl rfl (fun h=>by cases h) (fun _=>AT (AW (AB (?_))))))))))))))))
         exact ⟨((⟨s.d.set ((((AA[k]!).device).toNat) % s.d.length) ((AV (s.d[(((AA[k]!).device).toNat) % s.d.length]!) (⟨(((((AA[k]!).device).toNat) % s.d.length:Nat):Int),s.d[AA[k]!.device.toNat % s.d.length]!.counter+1,(1:Int),((((AA[k]!).copy) % 4).toNat:Int),(((((AA[k]!).other).toNat) % s.d.length:Nat):Int),(AI s.d[AA[k]!.device.toNat % s.d.length]!.ops 4 0).1[(AA[k]!.copy % 4).toNat]!.token+1⟩:DeviceOp) ((((AA[k]!).crash) % 3).toNat:Int)).1),s.b,s.done++([(⟨(((((AA[k]!).device).toNat) % s.d.length:Nat):Int),s.d[AA[k]!.device.toNat % s.d.length]!.counter+1,(1:Int),((((AA[k]!).copy) % 4).toNat:Int),(((((AA[k]!).other).toNat) % s.d.length:Nat):Int),(AI s.d[AA[k]!.device.toNat % s.d.length]!.ops 4 0).1[(AA[k]!.copy % 4).toNat]!.token+1⟩:DeviceOp)]),s.shown⟩:HouseR)),(L),b0,a1,m4,a2,p4,(by (rw [lv_a2g aS (HP aS aS aS) (by rw [HA aS];assumption) aS];(rw [HA aS];rfl))),hT,trivial,⟨_,AL _ ⟨rfl,rfl,rfl,trivial⟩⟩,gA,p3,b9,ho0_b8834_1,b1,L0,du,ho0_b8834_3,b3,a4,a8,a0,aS,a7,aS,dy,aS,a6,aS,d4,e5,d8,d7,nb0_b8834_1_b8834,f8,e4,e2,dv,dw,Z4,dx,nb0_b8834_3_b8834,f2,e7,e0,(fun b hb e=>c2 b e hb),Z1,(fun b hb e=>c4 b e hb),c2,Z2,nn0_b8834_1_b8834_3,(fun b hb e=>Z1 b e hb),(fun b hb e=>Z2 b e hb),(fun b hb e=>Z3 b e hb),c4,nn0_b8834_3_b8834_1,Z3⟩
        have ir:((AA[k]!).crash) % 3≠(2:UInt8):=by simpa using Q8
        refine AT (AW (AB (?_)))
        exact ⟨((⟨s.d.set ((((AA[k]!).device).toNat) % s.d.length) ((AV (s.d[(((AA[k]!).device).toNat) % s.d.length]!) (⟨(((((AA[k]!).device).toNat) % s.d.length:Nat):Int),s.d[AA[k]!.device.toNat % s.d.length]!.counter+1,(1:Int),((((AA[k]!).copy) % 4).toNat:Int),(((((AA[k]!).other).toNat) % s.d.length:Nat):Int),(AI s.d[AA[k]!.device.toNat % s.d.length]!.ops 4 0).1[(AA[k]!.copy % 4).toNat]!.token+1⟩:DeviceOp) ((((AA[k]!).crash) % 3).toNat:Int)).1),s.b,s.done,s.shown⟩:HouseR)),(L),b0,a1,a3,a2,(e9 :: (d6 :: b6)),(by (rw [NQ (.inr aS) (HP aS aS aS) (by rw [HA aS];assumption) aS];(rw [HA aS];rfl))),hT,trivial,⟨_,AL _ ⟨rfl,rfl,rfl,trivial⟩⟩,aY,p3,b9,ho0_b8834_1,b1,ho0_b8834_2,b4,ho0_b8834_3,b3,a4,a8,a0,(by (repeat (first|assumption|apply List.mem_cons_of_mem))),a7,(by (repeat (first|assumption|apply List.mem_cons_of_mem))),a9,(by (repeat (first|assumption|apply List.mem_cons_of_mem))),a6,(by (repeat (first|assumption|apply List.mem_cons_of_mem))),d4,e5,d8,d7,nb0_b8834_1_b8834,f8,e4,e2,nb0_b8834_2_b8834,f0,f1,d9,nb0_b8834_3_b8834,f2,e7,e0,(fun b hb e=>c2 b e hb),(fun b hb e=>c3 b e hb),(fun b hb e=>c4 b e hb),c2,nn0_b8834_1_b8834_2,nn0_b8834_1_b8834_3,c3,nn0_b8834_2_b8834_1,nn0_b8834_2_b8834_3,c4,nn0_b8834_3_b8834_1,nn0_b8834_3_b8834_2⟩
       refine AO (AF (b0) rfl (CD (AO (AF (vI (((((AA[k]!).device).toNat) % s.d.length:Nat):Int)) rfl (CD (AO (BZ U24_ BG .i64 (((((AA[k]!).device).toNat) % s.d.length:Nat):Int) ((((AA[k]!).device).toNat) % s.d.length) rfl rfl rfl a5.rdB oM fun lh dz=>(CD (AO (BT U31_ rfl BG rfl dz fun Q9 E8=>(?_)))))))))))
       have E8:=E8.2
       refine CD (AO (AQ (vs:=[vI (((((AA[k]!).device).toNat) % s.d.length:Nat):Int),vI (s.d[AA[k]!.device.toNat % s.d.length]!.counter+1),vI 1,vI ((((AA[k]!).copy) % 4).toNat:Int),vI (((((AA[k]!).other).toNat) % s.d.length:Nat):Int),vI ((AI s.d[AA[k]!.device.toNat % s.d.length]!.ops 4 0).1[(AA[k]!.copy % 4).toNat]!.token+1)]) U40_ rfl BX rfl d5 rfl (CD (AO (AP 4 GE ((AA[k]!).crash) rfl b5 (fun _ _ _ h=>CM h) fun li dA=>(CD (AO (CU U5_ rfl rfl dA (CD (DA rfl (fun w4_ k4_=>DY ((AA[k]!).crash) (3:UInt8) (by decide) rfl rfl (⟨rfl,rfl⟩)) (DA rfl (fun w4_ k4_=>FF .u8 .i64 U5_ U3_ ((((AA[k]!).crash) % 3).toNat:Int) ((((AA[k]!).crash) % 3).toNat:Int) rfl (by have:=(((AA[k]!).crash) % 3).toNat_lt;exact EP oM rfl) (⟨rfl,rfl⟩)) (DU (CC [vI 0,vI 0,nS,vO false] HO rfl T7 fun e8 aZ gB ba s7 m5 R0=>(?_))))))))))))))
       have dB:DB c7 e8:=by show c7≠e8;have:=a0.lt;omega
       have dC:DB b8 e8:=by show b8≠e8;have:=a7.lt;omega
       have dD:DB c5 e8:=by show c5≠e8;have:=a9.lt;omega
       have dE:DB c6 e8:=by show c6≠e8;have:=a6.lt;omega
       have dF:DB d6 e8:=by show d6≠e8;have:=d5.lt;omega
       have Z6:∀ b,b0.ownBlock=some b→b≠e8:=fun b hb=>by have:=(a5.lt b hb).2;omega
       have dG:∀ b,b2.ownBlock=some b→b≠e8:=fun b hb=>by have:=(ho0_b8834_0.lt b hb).2;omega
       have dH:∀ b,a1.ownBlock=some b→b≠e8:=fun b hb=>by have:=(ho0_b8834_1.lt b hb).2;omega
       have Z7:∀ b,a3.ownBlock=some b→b≠e8:=fun b hb=>by have:=(ho0_b8834_2.lt b hb).2;omega
       have dI:∀ b,a2.ownBlock=some b→b≠e8:=fun b hb=>by have:=(ho0_b8834_3.lt b hb).2;omega
       have b9:∀ b,b0.ownBlock=some b→b∈(e8 :: (d6 :: b6)):=fun b hb=>List.mem_cons_of_mem _ (b9 b hb)
       have b7:∀ b,b2.ownBlock=some b→b∈(e8 :: (d6 :: b6)):=fun b hb=>List.mem_cons_of_mem _ (b7 b hb)
       have b1:∀ b,a1.ownBlock=some b→b∈(e8 :: (d6 :: b6)):=fun b hb=>List.mem_cons_of_mem _ (b1 b hb)
       have b4:∀ b,a3.ownBlock=some b→b∈(e8 :: (d6 :: b6)):=fun b hb=>List.mem_cons_of_mem _ (b4 b hb)
       have b3:∀ b,a2.ownBlock=some b→b∈(e8 :: (d6 :: b6)):=fun b hb=>List.mem_cons_of_mem _ (b3 b hb)
       clear gB
       have b5:=b5.mv s7
       have a5:=a5.mv s7 m5 (by simp)
       have ho0_b8834_0:=ho0_b8834_0.mv s7 m5 (by simp)
       have E8:Enc.device.rd aZ ((e8 :: (d6 :: b6))++O) Q9 (s.d[(((AA[k]!).device).toNat) % s.d.length]!):=Enc.mv Enc.device (x:=s.d[(((AA[k]!).device).toNat) % s.d.length]!) E8 s7
       have a4:=a4.mv s7
       have a8:=a8.mv s7
       have a0:=a0.keep m5 (by simp)
       have a7:=a7.keep m5 (by simp)
       have ho0_b8834_1:=ho0_b8834_1.mv s7 m5 (by simp)
       have ho0_b8834_2:=ho0_b8834_2.mv s7 m5 (by simp)
       have ho0_b8834_3:=ho0_b8834_3.mv s7 m5 (by simp)
       have a9:=a9.keep m5 (by simp)
       have a6:=a6.keep m5 (by simp)
       have d5:=d5.keep m5 (by simp)
       have hT:=by exact hT.mv0 s7 m5 (fun x hx=>by exact List.mem_cons_of_mem _ hx)
       refine ⟨m5,?_⟩
       refine DU (BI (vs:=[vA Q9.toArray,vA #[vI (((((AA[k]!).device).toNat) % s.d.length:Nat):Int),vI (s.d[AA[k]!.device.toNat % s.d.length]!.counter+1),vI 1,vI ((((AA[k]!).copy) % 4).toNat:Int),vI (((((AA[k]!).other).toNat) % s.d.length:Nat):Int),vI ((AI s.d[AA[k]!.device.toNat % s.d.length]!.ops 4 0).1[(AA[k]!.copy % 4).toNat]!.token+1)],vI ((((AA[k]!).crash) % 3).toNat:Int)]) HK (NP (O:=(e8 :: (d6 :: b6))++O) Q9 (s.d[(((AA[k]!).device).toNat) % s.d.length]!) [vI (((((AA[k]!).device).toNat) % s.d.length:Nat):Int),vI (s.d[AA[k]!.device.toNat % s.d.length]!.counter+1),vI 1,vI ((((AA[k]!).copy) % 4).toNat:Int),vI (((((AA[k]!).other).toNat) % s.d.length:Nat):Int),vI ((AI s.d[AA[k]!.device.toNat % s.d.length]!.ops 4 0).1[(AA[k]!.copy % 4).toNat]!.token+1)] (⟨(((((AA[k]!).device).toNat) % s.d.length:Nat):Int),s.d[AA[k]!.device.toNat % s.d.length]!.counter+1,(1:Int),((((AA[k]!).copy) % 4).toNat:Int),(((((AA[k]!).other).toNat) % s.d.length:Nat):Int),(AI s.d[AA[k]!.device.toNat % s.d.length]!.ops 4 0).1[(AA[k]!.copy % 4).toNat]!.token+1⟩:DeviceOp) ((((AA[k]!).crash) % 3).toNat:Int) aZ E8 rfl ba.lt) rfl ba fun lj lk gC v4 j0 gD=>(?_))
       obtain ⟨Z8,rfl,dJ⟩:=gD
       have b5:=b5.mv v4
       have a5:=a5.mv v4 j0 (by simp)
       have ho0_b8834_0:=ho0_b8834_0.mv v4 j0 (by simp)
       have a4:=a4.mv v4
       have a8:=a8.mv v4
       have a0:=a0.keep j0 (by simp)
       have a7:=a7.keep j0 (by simp)
       have ho0_b8834_1:=ho0_b8834_1.mv v4 j0 (by simp)
       have ho0_b8834_2:=ho0_b8834_2.mv v4 j0 (by simp)
       have ho0_b8834_3:=ho0_b8834_3.mv v4 j0 (by simp)
       have a9:=a9.keep j0 (by simp)
       have a6:=a6.keep j0 (by simp)
       have d5:=d5.keep j0 (by simp)
       have R0:=R0.keep j0 (by simp)
       have hT:=by exact hT.mv0 v4 j0 (fun x hx=>by exact hx)
       refine ⟨j0,?_⟩
       refine AO (AF (vT #[vA Z8.toArray,vI ((AV (s.d[(((AA[k]!).device).toNat) % s.d.length]!) (⟨(((((AA[k]!).device).toNat) % s.d.length:Nat):Int),s.d[AA[k]!.device.toNat % s.d.length]!.counter+1,(1:Int),((((AA[k]!).copy) % 4).toNat:Int),(((((AA[k]!).other).toNat) % s.d.length:Nat):Int),(AI s.d[AA[k]!.device.toNat % s.d.length]!.ops 4 0).1[(AA[k]!.copy % 4).toNat]!.token+1⟩:DeviceOp) ((((AA[k]!).crash) % 3).toNat:Int)).2)]) rfl (CD (AO (BD (vA Z8.toArray) rfl rfl (CD (AO (BD (vI ((AV (s.d[(((AA[k]!).device).toNat) % s.d.length]!) (⟨(((((AA[k]!).device).toNat) % s.d.length:Nat):Int),s.d[AA[k]!.device.toNat % s.d.length]!.counter+1,(1:Int),((((AA[k]!).copy) % 4).toNat:Int),(((((AA[k]!).other).toNat) % s.d.length:Nat):Int),(AI s.d[AA[k]!.device.toNat % s.d.length]!.ops 4 0).1[(AA[k]!.copy % 4).toNat]!.token+1⟩:DeviceOp) ((((AA[k]!).crash) % 3).toNat:Int)).2)) rfl rfl (CD (?_)))))))))
       obtain ⟨T9,rfl,E9⟩:=dJ
       have:=E9.len_le
       refine FO (AU (vs:=[vI (((AV (s.d[(((AA[k]!).device).toNat) % s.d.length]!) (⟨(((((AA[k]!).device).toNat) % s.d.length:Nat):Int),s.d[AA[k]!.device.toNat % s.d.length]!.counter+1,(1:Int),((((AA[k]!).copy) % 4).toNat:Int),(((((AA[k]!).other).toNat) % s.d.length:Nat):Int),(AI s.d[AA[k]!.device.toNat % s.d.length]!.ops 4 0).1[(AA[k]!.copy % 4).toNat]!.token+1⟩:DeviceOp) ((((AA[k]!).crash) % 3).toNat:Int)).1).id),vI (((AV (s.d[(((AA[k]!).device).toNat) % s.d.length]!) (⟨(((((AA[k]!).device).toNat) % s.d.length:Nat):Int),s.d[AA[k]!.device.toNat % s.d.length]!.counter+1,(1:Int),((((AA[k]!).copy) % 4).toNat:Int),(((((AA[k]!).other).toNat) % s.d.length:Nat):Int),(AI s.d[AA[k]!.device.toNat % s.d.length]!.ops 4 0).1[(AA[k]!.copy % 4).toNat]!.token+1⟩:DeviceOp) ((((AA[k]!).crash) % 3).toNat:Int)).1).counter),T9,vO (((AV (s.d[(((AA[k]!).device).toNat) % s.d.length]!) (⟨(((((AA[k]!).device).toNat) % s.d.length:Nat):Int),s.d[AA[k]!.device.toNat % s.d.length]!.counter+1,(1:Int),((((AA[k]!).copy) % 4).toNat:Int),(((((AA[k]!).other).toNat) % s.d.length:Nat):Int),(AI s.d[AA[k]!.device.toNat % s.d.length]!.ops 4 0).1[(AA[k]!.copy % 4).toNat]!.token+1⟩:DeviceOp) ((((AA[k]!).crash) % 3).toNat:Int)).1).halted)]) (.agg #[vI (((AV (s.d[(((AA[k]!).device).toNat) % s.d.length]!) (⟨(((((AA[k]!).device).toNat) % s.d.length:Nat):Int),s.d[AA[k]!.device.toNat % s.d.length]!.counter+1,(1:Int),((((AA[k]!).copy) % 4).toNat:Int),(((((AA[k]!).other).toNat) % s.d.length:Nat):Int),(AI s.d[AA[k]!.device.toNat % s.d.length]!.ops 4 0).1[(AA[k]!.copy % 4).toNat]!.token+1⟩:DeviceOp) ((((AA[k]!).crash) % 3).toNat:Int)).1).id),vI (((AV (s.d[(((AA[k]!).device).toNat) % s.d.length]!) (⟨(((((AA[k]!).device).toNat) % s.d.length:Nat):Int),s.d[AA[k]!.device.toNat % s.d.length]!.counter+1,(1:Int),((((AA[k]!).copy) % 4).toNat:Int),(((((AA[k]!).other).toNat) % s.d.length:Nat):Int),(AI s.d[AA[k]!.device.toNat % s.d.length]!.ops 4 0).1[(AA[k]!.copy % 4).toNat]!.token+1⟩:DeviceOp) ((((AA[k]!).crash) % 3).toNat:Int)).1).counter),T9,vO (((AV (s.d[(((AA[k]!).device).toNat) % s.d.length]!) (⟨(((((AA[k]!).device).toNat) % s.d.length:Nat):Int),s.d[AA[k]!.device.toNat % s.d.length]!.counter+1,(1:Int),((((AA[k]!).copy) % 4).toNat:Int),(((((AA[k]!).other).toNat) % s.d.length:Nat):Int),(AI s.d[AA[k]!.device.toNat % s.d.length]!.ops 4 0).1[(AA[k]!.copy % 4).toNat]!.token+1⟩:DeviceOp) ((((AA[k]!).crash) % 3).toNat:Int)).1).halted)]) rfl rfl rfl BG (fun u hu=>by simp only [List.mem_cons,List.not_mem_nil,or_false] at hu;rcases hu with rfl|rfl|rfl|rfl <;> first|rfl|exact E9.oneCell) (by repeat (constructor)) R0 oT gC fun ll bb s8 p5 B7=>(?_))
       have b5:=b5.mv s8
       have a5:=a5.mv s8 p5 (fun b hb=>AJ (Z6 b hb))
       have ho0_b8834_0:=ho0_b8834_0.mv s8 p5 (fun b hb=>AJ (dG b hb))
       have E9:=E9.mv s8
       have a4:=a4.mv s8
       have a8:=a8.mv s8
       have a0:=a0.keep p5 (AJ dB)
       have a7:=a7.keep p5 (AJ dC)
       have ho0_b8834_1:=ho0_b8834_1.mv s8 p5 (fun b hb=>AJ (dH b hb))
       have ho0_b8834_2:=ho0_b8834_2.mv s8 p5 (fun b hb=>AJ (Z7 b hb))
       have ho0_b8834_3:=ho0_b8834_3.mv s8 p5 (fun b hb=>AJ (dI b hb))
       have a9:=a9.keep p5 (AJ dD)
       have a6:=a6.keep p5 (AJ dE)
       have d5:=d5.keep p5 (AJ dF)
       have hT:=by exact hT.mvB s8 p5 aS (by decide) (fun x hx=>by exact hx)
       refine AO (AH (vI ((AV (s.d[(((AA[k]!).device).toNat) % s.d.length]!) (⟨(((((AA[k]!).device).toNat) % s.d.length:Nat):Int),s.d[AA[k]!.device.toNat % s.d.length]!.counter+1,(1:Int),((((AA[k]!).copy) % 4).toNat:Int),(((((AA[k]!).other).toNat) % s.d.length:Nat):Int),(AI s.d[AA[k]!.device.toNat % s.d.length]!.ops 4 0).1[(AA[k]!.copy % 4).toNat]!.token+1⟩:DeviceOp) ((((AA[k]!).crash) % 3).toNat:Int)).2)) rfl (CD (EW (AB (AG (AG (AD kR (AC (AF (vI ((AV (s.d[(((AA[k]!).device).toNat) % s.d.length]!) (⟨(((((AA[k]!).device).toNat) % s.d.length:Nat):Int),s.d[AA[k]!.device.toNat % s.d.length]!.counter+1,(1:Int),((((AA[k]!).copy) % 4).toNat:Int),(((((AA[k]!).other).toNat) % s.d.length:Nat):Int),(AI s.d[AA[k]!.device.toNat % s.d.length]!.ops 4 0).1[(AA[k]!.copy % 4).toNat]!.token+1⟩:DeviceOp) ((((AA[k]!).crash) % 3).toNat:Int)).2)) rfl (AC (DX .i64 ((AV (s.d[(((AA[k]!).device).toNat) % s.d.length]!) (⟨(((((AA[k]!).device).toNat) % s.d.length:Nat):Int),s.d[AA[k]!.device.toNat % s.d.length]!.counter+1,(1:Int),((((AA[k]!).copy) % 4).toNat:Int),(((((AA[k]!).other).toNat) % s.d.length:Nat):Int),(AI s.d[AA[k]!.device.toNat % s.d.length]!.ops 4 0).1[(AA[k]!.copy % 4).toNat]!.token+1⟩:DeviceOp) ((((AA[k]!).crash) % 3).toNat:Int)).2) (0:Int) rfl rfl (AE (AB (AK (((AV (s.d[(((AA[k]!).device).toNat) % s.d.length]!) (⟨(((((AA[k]!).device).toNat) % s.d.length:Nat):Int),s.d[AA[k]!.device.toNat % s.d.length]!.counter+1,(1:Int),((((AA[k]!).copy) % 4).toNat:Int),(((((AA[k]!).other).toNat) % s.d.length:Nat):Int),(AI s.d[AA[k]!.device.toNat % s.d.length]!.ops 4 0).1[(AA[k]!.copy % 4).toNat]!.token+1⟩:DeviceOp) ((((AA[k]!).crash) % 3).toNat:Int)).2) != (0:Int)) rfl rfl (fun R1=>?_) (fun R1=>?_)))))))))))))))
       ·have it:(AV (s.d[(((AA[k]!).device).toNat) % s.d.length]!) (⟨(((((AA[k]!).device).toNat) % s.d.length:Nat):Int),s.d[AA[k]!.device.toNat % s.d.length]!.counter+1,(1:Int),((((AA[k]!).copy) % 4).toNat:Int),(((((AA[k]!).other).toNat) % s.d.length:Nat):Int),(AI s.d[AA[k]!.device.toNat % s.d.length]!.ops 4 0).1[(AA[k]!.copy % 4).toNat]!.token+1⟩:DeviceOp) ((((AA[k]!).crash) % 3).toNat:Int)).2≠(0:Int):=by simpa using R1
        refine AG (AD kR (AC (AQ (vs:=[b0,a1,a3,a2]) U29_ rfl CL rfl a9 rfl (BK (AU (vs:=[b0,a1,a3,a2]) (.agg #[b0,a1,a3,a2]) rfl rfl rfl CL (fun u hu=>by simp only [List.mem_cons,List.not_mem_nil,or_false] at hu;rcases hu with rfl|rfl|rfl|rfl <;> first|exact a5.oneCell|exact ho0_b8834_1.oneCell|exact ho0_b8834_2.oneCell|exact ho0_b8834_3.oneCell) rC a6 oT bb fun lm gE H6 H7 dK=>(?_))))))
        have a5:=a5.mv H6 H7 (fun b hb=>AJ (d7 b hb))
        have ho0_b8834_1:=ho0_b8834_1.mv H6 H7 (fun b hb=>AJ (e2 b hb))
        have ho0_b8834_2:=ho0_b8834_2.mv H6 H7 (fun b hb=>AJ (d9 b hb))
        have ho0_b8834_3:=ho0_b8834_3.mv H6 H7 (fun b hb=>AJ (e0 b hb))
        have a4:=a4.mv H6
        have a0:=a0.keep H7 (AJ i2)
        have hT:=by exact hT.mvB H6 H7 aS (by decide) (fun x hx=>by exact hx)
        refine AE (AB (AS (AN (BC (AN (AZ rfl (FN (vs:=[b0,a1,a3,a2]) rfl rfl U29_ rfl CL rfl dK rfl) (Exists.intro _ (And.intro rfl (BK (AU (vs:=[b0,a1,a3,a2]) (.agg #[b0,a1,a3,a2]) rfl rfl rfl CL (fun u hu=>by simp only [List.mem_cons,List.not_mem_nil,or_false] at hu;rcases hu with rfl|rfl|rfl|rfl <;> first|exact a5.oneCell|exact ho0_b8834_1.oneCell|exact ho0_b8834_2.oneCell|exact ho0_b8834_3.oneCell) rC a0 oT gE fun ln gF H8 L1 dL=>(?_)))))))))))
        have a4:=a4.mv H8
        have a5:=a5.mv H8 L1 (fun b hb=>AJ (d4 b hb))
        have ho0_b8834_1:=ho0_b8834_1.mv H8 L1 (fun b hb=>AJ (nb0_b8834_1_b8834 b hb))
        have ho0_b8834_2:=ho0_b8834_2.mv H8 L1 (fun b hb=>AJ (nb0_b8834_2_b8834 b hb))
        have ho0_b8834_3:=ho0_b8834_3.mv H8 L1 (fun b hb=>AJ (nb0_b8834_3_b8834 b hb))
        have hT:=by exact hT.mvB H8 L1 aS (by decide) (fun x hx=>by exact hx)
        refine AE (AW (AB (AD kR (AC (CE .i64 ((k:Nat):Int) (1:Int) (((k+1:Nat):Int)) rfl rfl (EP oM oM) (AC (AF (vI ((k+1:Nat):Int)) rfl (AE (AB (?_))))))))))
        exact ⟨_,oM,(k+1),(s),(L),b0,a1,a3,a2,(e8 :: (d6 :: b6)),oM,(by rw [FD,← hr0_1];(symm;exact (by (rw [lv_bad (.inr aS) (by rw [HA aS];assumption)];done)))),hT,rfl,⟨_,AL _ ⟨rfl,rfl,rfl,(by rfl),rfl,trivial⟩⟩,gF,a5,b9,ho0_b8834_1,b1,ho0_b8834_2,b4,ho0_b8834_3,b3,a4,dL,(by (repeat (first|assumption|apply List.mem_cons_of_mem))),d4,nb0_b8834_1_b8834,nb0_b8834_2_b8834,nb0_b8834_3_b8834,(fun b hb e=>c2 b e hb),(fun b hb e=>c3 b e hb),(fun b hb e=>c4 b e hb),c2,nn0_b8834_1_b8834_2,nn0_b8834_1_b8834_3,c3,nn0_b8834_2_b8834_1,nn0_b8834_2_b8834_3,c4,nn0_b8834_3_b8834_1,nn0_b8834_3_b8834_2⟩
       have iu:(AV (s.d[(((AA[k]!).device).toNat) % s.d.length]!) (⟨(((((AA[k]!).device).toNat) % s.d.length:Nat):Int),s.d[AA[k]!.device.toNat % s.d.length]!.counter+1,(1:Int),((((AA[k]!).copy) % 4).toNat:Int),(((((AA[k]!).other).toNat) % s.d.length:Nat):Int),(AI s.d[AA[k]!.device.toNat % s.d.length]!.ops 4 0).1[(AA[k]!.copy % 4).toNat]!.token+1⟩:DeviceOp) ((((AA[k]!).crash) % 3).toNat:Int)).2=(0:Int):=by simpa using R1
       refine AT (AB (AG (AD kR (AC (AF (b0) rfl (AC (AF (vI (((((AA[k]!).device).toNat) % s.d.length:Nat):Int)) rfl (AC (AQ (vs:=[vI (((AV (s.d[(((AA[k]!).device).toNat) % s.d.length]!) (⟨(((((AA[k]!).device).toNat) % s.d.length:Nat):Int),s.d[AA[k]!.device.toNat % s.d.length]!.counter+1,(1:Int),((((AA[k]!).copy) % 4).toNat:Int),(((((AA[k]!).other).toNat) % s.d.length:Nat):Int),(AI s.d[AA[k]!.device.toNat % s.d.length]!.ops 4 0).1[(AA[k]!.copy % 4).toNat]!.token+1⟩:DeviceOp) ((((AA[k]!).crash) % 3).toNat:Int)).1).id),vI (((AV (s.d[(((AA[k]!).device).toNat) % s.d.length]!) (⟨(((((AA[k]!).device).toNat) % s.d.length:Nat):Int),s.d[AA[k]!.device.toNat % s.d.length]!.counter+1,(1:Int),((((AA[k]!).copy) % 4).toNat:Int),(((((AA[k]!).other).toNat) % s.d.length:Nat):Int),(AI s.d[AA[k]!.device.toNat % s.d.length]!.ops 4 0).1[(AA[k]!.copy % 4).toNat]!.token+1⟩:DeviceOp) ((((AA[k]!).crash) % 3).toNat:Int)).1).counter),T9,vO (((AV (s.d[(((AA[k]!).device).toNat) % s.d.length]!) (⟨(((((AA[k]!).device).toNat) % s.d.length:Nat):Int),s.d[AA[k]!.device.toNat % s.d.length]!.counter+1,(1:Int),((((AA[k]!).copy) % 4).toNat:Int),(((((AA[k]!).other).toNat) % s.d.length:Nat):Int),(AI s.d[AA[k]!.device.toNat % s.d.length]!.ops 4 0).1[(AA[k]!.copy % 4).toNat]!.token+1⟩:DeviceOp) ((((AA[k]!).crash) % 3).toNat:Int)).1).halted)]) U31_ rfl BG rfl B7 rfl (AC (DO U24_ BG .i64 (((((AA[k]!).device).toNat) % s.d.length:Nat):Int) ((((AA[k]!).device).toNat) % s.d.length) rfl rfl rfl a5 oM fun lo h4=>(BK (DW ((AV (s.d[(((AA[k]!).device).toNat) % s.d.length]!) (⟨(((((AA[k]!).device).toNat) % s.d.length:Nat):Int),s.d[AA[k]!.device.toNat % s.d.length]!.counter+1,(1:Int),((((AA[k]!).copy) % 4).toNat:Int),(((((AA[k]!).other).toNat) % s.d.length:Nat):Int),(AI s.d[AA[k]!.device.toNat % s.d.length]!.ops 4 0).1[(AA[k]!.copy % 4).toNat]!.token+1⟩:DeviceOp) ((((AA[k]!).crash) % 3).toNat:Int)).1) (by decide) BG rfl rfl a5 h4 (b9 _ h4) oM ⟨_,rfl,E9⟩ bb fun lp bc A2 p6 p7=>(?_))))))))))))))
       have b5:=b5.mv A2
       have ho0_b8834_0:=ho0_b8834_0.mv A2 p6 (fun b hb=>by simp only [List.mem_singleton];rintro rfl;exact absurd h4 (J8 _ hb))
       have a4:=a4.mv A2
       have a8:=a8.mv A2
       have a0:=a0.keep p6 (by simp only [List.mem_singleton];exact fun e=>absurd e.symm (d4 _ h4))
       have a7:=a7.keep p6 (by simp only [List.mem_singleton];exact fun e=>absurd e.symm (e5 _ h4))
       have ho0_b8834_1:=ho0_b8834_1.mv A2 p6 (fun b hb=>by simp only [List.mem_singleton];rintro rfl;exact absurd h4 (c2 _ hb))
       have ho0_b8834_2:=ho0_b8834_2.mv A2 p6 (fun b hb=>by simp only [List.mem_singleton];rintro rfl;exact absurd h4 (c3 _ hb))
       have ho0_b8834_3:=ho0_b8834_3.mv A2 p6 (fun b hb=>by simp only [List.mem_singleton];rintro rfl;exact absurd h4 (c4 _ hb))
       have a9:=a9.keep p6 (by simp only [List.mem_singleton];exact fun e=>absurd e.symm (d8 _ h4))
       have a6:=a6.keep p6 (by simp only [List.mem_singleton];exact fun e=>absurd e.symm (d7 _ h4))
       have d5:=d5.keep p6 (by simp only [List.mem_singleton];exact fun e=>absurd e.symm (E6 _ h4))
       have B7:=B7.keep p6 (by simp only [List.mem_singleton];exact fun e=>absurd e.symm (Z6 _ h4))
       have hT:=hT.mvO A2 p6 a5 (fun b hq=>by have hq:=List.mem_singleton.1 hq;subst hq;exact h4) (by decide) (fun x hx=>by exact hx)
       refine AE (AB (AG (AD kR (AC (AP 4 GE ((AA[k]!).crash) rfl b5 (fun _ _ _ h=>CM h) fun lq dM=>(AC (CU U5_ rfl rfl dM (AC (DY ((AA[k]!).crash) (3:UInt8) (by decide) rfl rfl (AC (EG (((AA[k]!).crash) % 3) (2:UInt8) rfl rfl (AE (AB (AK ((((AA[k]!).crash) % 3) == (2:UInt8)) rfl rfl (fun R2=>?_) (fun R2=>?_)))))))))))))))
       ·have iv:((AA[k]!).crash) % 3=(2:UInt8):=by simpa using R2
        refine AG (AD kR (AC (AM 2 EE rfl (AC (AR U26_ rfl (a3) rfl a9 rfl (AC (AQ (vs:=[vI (((((AA[k]!).device).toNat) % s.d.length:Nat):Int),vI (s.d[AA[k]!.device.toNat % s.d.length]!.counter+1),vI 1,vI ((((AA[k]!).copy) % 4).toNat:Int),vI (((((AA[k]!).other).toNat) % s.d.length:Nat):Int),vI ((AI s.d[AA[k]!.device.toNat % s.d.length]!.ops 4 0).1[(AA[k]!.copy % 4).toNat]!.token+1)]) U40_ rfl BX rfl d5 rfl (AC (EY (E:=Enc.devop) (xs:=[.tmp 135]) U26_ BX HC (by decide) [.agg #[vI (((((AA[k]!).device).toNat) % s.d.length:Nat):Int),vI (s.d[AA[k]!.device.toNat % s.d.length]!.counter+1),vI 1,vI ((((AA[k]!).copy) % 4).toNat:Int),vI (((((AA[k]!).other).toNat) % s.d.length:Nat):Int),vI ((AI s.d[AA[k]!.device.toNat % s.d.length]!.ops 4 0).1[(AA[k]!.copy % 4).toNat]!.token+1)]] [[vI (((((AA[k]!).device).toNat) % s.d.length:Nat):Int),vI (s.d[AA[k]!.device.toNat % s.d.length]!.counter+1),vI 1,vI ((((AA[k]!).copy) % 4).toNat:Int),vI (((((AA[k]!).other).toNat) % s.d.length:Nat):Int),vI ((AI s.d[AA[k]!.device.toNat % s.d.length]!.ops 4 0).1[(AA[k]!.copy % 4).toNat]!.token+1)]] [(⟨(((((AA[k]!).device).toNat) % s.d.length:Nat):Int),s.d[AA[k]!.device.toNat % s.d.length]!.counter+1,(1:Int),((((AA[k]!).copy) % 4).toNat:Int),(((((AA[k]!).other).toNat) % s.d.length:Nat):Int),(AI s.d[AA[k]!.device.toNat % s.d.length]!.ops 4 0).1[(AA[k]!.copy % 4).toNat]!.token+1⟩:DeviceOp)] rfl rfl rfl (Parts.cons rfl rfl (Parts.nil _ _ _)) oT bc fun lr ls gG A3 m6 Z9=>(?_))))))))))
        have p7:=p7.mv A3 m6 (by simp)
        have ho0_b8834_0:=ho0_b8834_0.mv A3 m6 (by simp)
        have ho0_b8834_2:=ho0_b8834_2.mv A3 m6 (by simp)
        have a4:=a4.mv A3
        have a8:=a8.mv A3
        have a0:=a0.keep m6 (by simp)
        have a7:=a7.keep m6 (by simp)
        have ho0_b8834_1:=ho0_b8834_1.mv A3 m6 (by simp)
        have ho0_b8834_3:=ho0_b8834_3.mv A3 m6 (by simp)
        have a9:=a9.keep m6 (by simp)
        have a6:=a6.keep m6 (by simp)
        have d5:=d5.keep m6 (by simp)
        have B7:=B7.keep m6 (by simp)
        have hT:=by exact hT.mv0 A3 m6 (fun x hx=>by exact hx)
        have:=Z9.len_le
        refine AC (CT (E:=Enc.devop) (l:=s.done) (m:=[(⟨(((((AA[k]!).device).toNat) % s.d.length:Nat):Int),s.d[AA[k]!.device.toNat % s.d.length]!.counter+1,(1:Int),((((AA[k]!).copy) % 4).toNat:Int),(((((AA[k]!).other).toNat) % s.d.length:Nat):Int),(AI s.d[AA[k]!.device.toNat % s.d.length]!.ops 4 0).1[(AA[k]!.copy % 4).toNat]!.token+1⟩:DeviceOp)]) U26_ OB rfl (by decide) rfl rfl ho0_b8834_2 Z9 (fun _ hb=>.inl hb) b4 (by simp;omega) (by simp [maxLen];omega) gG fun m7 lu p8 dN j8 h5 gH H9 v5 L3=>(?_))
        have aa:∀ b,b0.ownBlock=some b→m7.ownBlock≠some b:=fun b hb e=>by rcases j8 with e1|e1 <;> rw [e1] at e <;> first|(cases e;have:=(p7.lt _ hb).2;omega)|(exact absurd e ((fun b hb e=>c3 b e hb) b hb))
        have iw:∀ b,b2.ownBlock=some b→m7.ownBlock≠some b:=fun b hb e=>by rcases j8 with e1|e1 <;> rw [e1] at e <;> first|(cases e;have:=(ho0_b8834_0.lt _ hb).2;omega)|(exact absurd e (nn0_b8834_0_b8834_2 b hb))
        have ab:∀ b,a1.ownBlock=some b→m7.ownBlock≠some b:=fun b hb e=>by rcases j8 with e1|e1 <;> rw [e1] at e <;> first|(cases e;have:=(ho0_b8834_1.lt _ hb).2;omega)|(exact absurd e (nn0_b8834_1_b8834_2 b hb))
        have ac:∀ b,a2.ownBlock=some b→m7.ownBlock≠some b:=fun b hb e=>by rcases j8 with e1|e1 <;> rw [e1] at e <;> first|(cases e;have:=(ho0_b8834_3.lt _ hb).2;omega)|(exact absurd e (nn0_b8834_3_b8834_2 b hb))
        have dO:∀ b,m7.ownBlock=some b→b≠c7:=fun b hb=>by rcases j8 with e1|e1 <;> rw [e1] at hb <;> first|(cases hb;have:=a0.lt;omega)|(exact nb0_b8834_2_b8834 b hb)
        have dP:∀ b,m7.ownBlock=some b→b≠b8:=fun b hb=>by rcases j8 with e1|e1 <;> rw [e1] at hb <;> first|(cases hb;have:=a7.lt;omega)|(exact f0 b hb)
        have ad:∀ b,m7.ownBlock=some b→b≠c5:=fun b hb=>by rcases j8 with e1|e1 <;> rw [e1] at hb <;> first|(cases hb;have:=a9.lt;omega)|(exact f1 b hb)
        have dQ:∀ b,m7.ownBlock=some b→b≠c6:=fun b hb=>by rcases j8 with e1|e1 <;> rw [e1] at hb <;> first|(cases hb;have:=a6.lt;omega)|(exact d9 b hb)
        have ix:∀ b,m7.ownBlock=some b→b≠d6:=fun b hb=>by rcases j8 with e1|e1 <;> rw [e1] at hb <;> first|(cases hb;have:=d5.lt;omega)|(exact w7 b hb)
        have iy:∀ b,m7.ownBlock=some b→b≠e8:=fun b hb=>by rcases j8 with e1|e1 <;> rw [e1] at hb <;> first|(cases hb;have:=B7.lt;omega)|(exact Z7 b hb)
        have b9:∀ b,b0.ownBlock=some b→b∈p8:=fun b hb=>h5 b (b9 b hb)
        have b7:∀ b,b2.ownBlock=some b→b∈p8:=fun b hb=>h5 b (b7 b hb)
        have b1:∀ b,a1.ownBlock=some b→b∈p8:=fun b hb=>h5 b (b1 b hb)
        have b3:∀ b,a2.ownBlock=some b→b∈p8:=fun b hb=>h5 b (b3 b hb)
        have g2:c7∈p8:=h5 c7 rC
        have h6:b8∈p8:=h5 b8 rC
        have h7:c5∈p8:=h5 c5 rC
        have h8:c6∈p8:=h5 c6 rC
        have Z5:d6∈p8:=h5 d6 (by repeat (constructor))
        have ho:e8∈p8:=h5 e8 (by repeat (constructor))
        have p7:=p7.mv H9 v5 (fun b hb=>by simp only [Option.mem_toList];exact (fun b hb e=>c3 b e hb) b hb)
        have a4:=a4.mv H9
        have a8:=a8.mv H9
        have a0:=a0.keep v5 (by simp only [Option.mem_toList];exact fun e=>absurd rfl (nb0_b8834_2_b8834 _ e))
        have a7:=a7.keep v5 (by simp only [Option.mem_toList];exact fun e=>absurd rfl (f0 _ e))
        have ho0_b8834_1:=ho0_b8834_1.mv H9 v5 (fun b hb=>by simp only [Option.mem_toList];exact nn0_b8834_1_b8834_2 b hb)
        have ho0_b8834_3:=ho0_b8834_3.mv H9 v5 (fun b hb=>by simp only [Option.mem_toList];exact nn0_b8834_3_b8834_2 b hb)
        have a9:=a9.keep v5 (by simp only [Option.mem_toList];exact fun e=>absurd rfl (f1 _ e))
        have a6:=a6.keep v5 (by simp only [Option.mem_toList];exact fun e=>absurd rfl (d9 _ e))
        have d5:=d5.keep v5 (by simp only [Option.mem_toList];exact fun e=>absurd rfl (w7 _ e))
        have hT:=hT.mvO H9 v5 ho0_b8834_2 (fun b hb=>Option.mem_toList.1 hb) (by decide) h5
        refine AC (AM 2 EE rfl (BK (BP (m7) rfl rfl L3.oneCell HR (by repeat (assumption)) a9 oT gH fun lw gI D3 v6 dR=>(?_))))
        have p7:=p7.mv D3 v6 (fun b hb=>AJ (d8 b hb))
        have L3:=L3.mv D3 v6 (fun b hb=>AJ (ad b hb))
        have a4:=a4.mv D3
        have a8:=a8.mv D3
        have a0:=a0.keep v6 (AJ w0)
        have a7:=a7.keep v6 (AJ w1)
        have ho0_b8834_1:=ho0_b8834_1.mv D3 v6 (fun b hb=>AJ (e4 b hb))
        have ho0_b8834_3:=ho0_b8834_3.mv D3 v6 (fun b hb=>AJ (e7 b hb))
        have a6:=a6.keep v6 (AJ (Ne.symm w2))
        have d5:=d5.keep v6 (AJ (Ne.symm E5))
        have hT:=by exact hT.mvB D3 v6 aS (by decide) (fun x hx=>by exact hx)
        refine AE (AB (AG (AD kR (AC (AM 2 GB rfl (AC (AR U3_ rfl (vI 1) rfl d5 rfl (AC (DC .i64 (1:Int) (2:Int) rfl rfl (AE (AB (AK false rfl rfl (fun h=>by cases h) (fun _=>AT (AW (AB (?_))))))))))))))))
        exact ⟨((⟨s.d.set ((((AA[k]!).device).toNat) % s.d.length) ((AV (s.d[(((AA[k]!).device).toNat) % s.d.length]!) (⟨(((((AA[k]!).device).toNat) % s.d.length:Nat):Int),s.d[AA[k]!.device.toNat % s.d.length]!.counter+1,(1:Int),((((AA[k]!).copy) % 4).toNat:Int),(((((AA[k]!).other).toNat) % s.d.length:Nat):Int),(AI s.d[AA[k]!.device.toNat % s.d.length]!.ops 4 0).1[(AA[k]!.copy % 4).toNat]!.token+1⟩:DeviceOp) ((((AA[k]!).crash) % 3).toNat:Int)).1),s.b,s.done++([(⟨(((((AA[k]!).device).toNat) % s.d.length:Nat):Int),s.d[AA[k]!.device.toNat % s.d.length]!.counter+1,(1:Int),((((AA[k]!).copy) % 4).toNat:Int),(((((AA[k]!).other).toNat) % s.d.length:Nat):Int),(AI s.d[AA[k]!.device.toNat % s.d.length]!.ops 4 0).1[(AA[k]!.copy % 4).toNat]!.token+1⟩:DeviceOp)]),s.shown⟩:HouseR)),(L),b0,a1,m7,a2,p8,(by (rw [lv_a2g aS (HP aS aS aS) (by rw [HA aS];assumption) aS];(rw [HA aS];rfl))),hT,trivial,⟨_,AL _ ⟨rfl,rfl,rfl,trivial⟩⟩,gI,p7,b9,ho0_b8834_1,b1,L3,dN,ho0_b8834_3,b3,a4,a8,a0,aS,a7,aS,dR,aS,a6,aS,d4,e5,d8,d7,nb0_b8834_1_b8834,f8,e4,e2,dO,dP,ad,dQ,nb0_b8834_3_b8834,f2,e7,e0,(fun b hb e=>c2 b e hb),aa,(fun b hb e=>c4 b e hb),c2,ab,nn0_b8834_1_b8834_3,(fun b hb e=>aa b e hb),(fun b hb e=>ab b e hb),(fun b hb e=>ac b e hb),c4,nn0_b8834_3_b8834_1,ac⟩
       have iz:((AA[k]!).crash) % 3≠(2:UInt8):=by simpa using R2
       refine AT (AW (AB (?_)))
       exact ⟨((⟨s.d.set ((((AA[k]!).device).toNat) % s.d.length) ((AV (s.d[(((AA[k]!).device).toNat) % s.d.length]!) (⟨(((((AA[k]!).device).toNat) % s.d.length:Nat):Int),s.d[AA[k]!.device.toNat % s.d.length]!.counter+1,(1:Int),((((AA[k]!).copy) % 4).toNat:Int),(((((AA[k]!).other).toNat) % s.d.length:Nat):Int),(AI s.d[AA[k]!.device.toNat % s.d.length]!.ops 4 0).1[(AA[k]!.copy % 4).toNat]!.token+1⟩:DeviceOp) ((((AA[k]!).crash) % 3).toNat:Int)).1),s.b,s.done,s.shown⟩:HouseR)),(L),b0,a1,a3,a2,(e8 :: (d6 :: b6)),(by (rw [NQ (.inr aS) (HP aS aS aS) (by rw [HA aS];assumption) aS];(rw [HA aS];rfl))),hT,trivial,⟨_,AL _ ⟨rfl,rfl,rfl,trivial⟩⟩,bc,p7,b9,ho0_b8834_1,b1,ho0_b8834_2,b4,ho0_b8834_3,b3,a4,a8,a0,(by (repeat (first|assumption|apply List.mem_cons_of_mem))),a7,(by (repeat (first|assumption|apply List.mem_cons_of_mem))),a9,(by (repeat (first|assumption|apply List.mem_cons_of_mem))),a6,(by (repeat (first|assumption|apply List.mem_cons_of_mem))),d4,e5,d8,d7,nb0_b8834_1_b8834,f8,e4,e2,nb0_b8834_2_b8834,f0,f1,d9,nb0_b8834_3_b8834,f2,e7,e0,(fun b hb e=>c2 b e hb),(fun b hb e=>c3 b e hb),(fun b hb e=>c4 b e hb),c2,nn0_b8834_1_b8834_2,nn0_b8834_1_b8834_3,c3,nn0_b8834_2_b8834_1,nn0_b8834_2_b8834_3,c4,nn0_b8834_3_b8834_1,nn0_b8834_3_b8834_2⟩
      have iA:((BY ((s.d[(((AA[k]!).device).toNat) % s.d.length]!).ops) (4:Int) (0:Int) (((((AA[k]!).device).toNat) % s.d.length:Nat):Int) ((((AA[k]!).copy) % 4).toNat:Int)).1)=false:=by simpa using Y6
      refine AX rfl (AX rfl (AX rfl (AC (BA (vO true) rfl rfl (AE (AB (AK true rfl rfl (fun _=>AG (AD kR (AC (AQ (vs:=[b0,a1,a3,a2]) U29_ rfl CL rfl a9 rfl (BK (AU (vs:=[b0,a1,a3,a2]) (.agg #[b0,a1,a3,a2]) rfl rfl rfl CL (fun u hu=>by simp only [List.mem_cons,List.not_mem_nil,or_false] at hu;rcases hu with rfl|rfl|rfl|rfl <;> first|exact a5.oneCell|exact ho0_b8834_1.oneCell|exact ho0_b8834_2.oneCell|exact ho0_b8834_3.oneCell) (by repeat (assumption)) a6 oT M6 fun lx gJ I0 I1 dS=>(?_))))))) (fun h=>by cases h))))))))
      have a5:=a5.mv I0 I1 (fun b hb=>AJ (d7 b hb))
      have ho0_b8834_1:=ho0_b8834_1.mv I0 I1 (fun b hb=>AJ (e2 b hb))
      have ho0_b8834_2:=ho0_b8834_2.mv I0 I1 (fun b hb=>AJ (d9 b hb))
      have ho0_b8834_3:=ho0_b8834_3.mv I0 I1 (fun b hb=>AJ (e0 b hb))
      have a4:=a4.mv I0
      have a0:=a0.keep I1 (AJ i2)
      have hT:=by exact hT.mvB I0 I1 aS (by decide) (fun x hx=>by exact hx)
      refine AE (AB (AS (AN (BC (AN (AZ rfl (FN (vs:=[b0,a1,a3,a2]) rfl rfl U29_ rfl CL rfl dS rfl) (Exists.intro _ (And.intro rfl (BK (AU (vs:=[b0,a1,a3,a2]) (.agg #[b0,a1,a3,a2]) rfl rfl rfl CL (fun u hu=>by simp only [List.mem_cons,List.not_mem_nil,or_false] at hu;rcases hu with rfl|rfl|rfl|rfl <;> first|exact a5.oneCell|exact ho0_b8834_1.oneCell|exact ho0_b8834_2.oneCell|exact ho0_b8834_3.oneCell) (by repeat (assumption)) a0 oT gJ fun ly gK I2 L4 dT=>(?_)))))))))))
      have a4:=a4.mv I2
      have a5:=a5.mv I2 L4 (fun b hb=>AJ (d4 b hb))
      have ho0_b8834_1:=ho0_b8834_1.mv I2 L4 (fun b hb=>AJ (nb0_b8834_1_b8834 b hb))
      have ho0_b8834_2:=ho0_b8834_2.mv I2 L4 (fun b hb=>AJ (nb0_b8834_2_b8834 b hb))
      have ho0_b8834_3:=ho0_b8834_3.mv I2 L4 (fun b hb=>AJ (nb0_b8834_3_b8834 b hb))
      have hT:=by exact hT.mvB I2 L4 aS (by decide) (fun x hx=>by exact hx)
      refine AE (AW (AB (AD kR (AC (CE .i64 ((k:Nat):Int) (1:Int) (((k+1:Nat):Int)) rfl rfl (EP oM oM) (AC (AF (vI ((k+1:Nat):Int)) rfl (AE (AB (?_))))))))))
      exact ⟨_,oM,(k+1),(s),(L),b0,a1,a3,a2,b6,oM,(by rw [FD,← hr0_1];(symm;exact (by (rw [NA (.inr aS) (may_n3 aS)];done)))),hT,rfl,⟨_,AL _ ⟨rfl,rfl,rfl,(by rfl),rfl,trivial⟩⟩,gK,a5,b9,ho0_b8834_1,b1,ho0_b8834_2,b4,ho0_b8834_3,b3,a4,dT,aS,d4,nb0_b8834_1_b8834,nb0_b8834_2_b8834,nb0_b8834_3_b8834,(fun b hb e=>c2 b e hb),(fun b hb e=>c3 b e hb),(fun b hb e=>c4 b e hb),c2,nn0_b8834_1_b8834_2,nn0_b8834_1_b8834_3,c3,nn0_b8834_2_b8834_1,nn0_b8834_2_b8834_3,c4,nn0_b8834_3_b8834_1,nn0_b8834_3_b8834_2⟩
     have iB:(BY ((s.d[(((AA[k]!).device).toNat) % s.d.length]!).ops) (4:Int) (0:Int) (((((AA[k]!).device).toNat) % s.d.length:Nat):Int) ((((AA[k]!).copy) % 4).toNat:Int)).2≠(0:Int):=by simpa using Y5
     refine AX rfl (AX rfl (AC (BA (vO true) rfl rfl (AC (AF (vO true) rfl (AX rfl (AX rfl (AX rfl (AC (BA (vO true) rfl rfl (AE (AB (AK true rfl rfl (fun _=>AG (AD kR (AC (AQ (vs:=[b0,a1,a3,a2]) U29_ rfl CL rfl a9 rfl (BK (AU (vs:=[b0,a1,a3,a2]) (.agg #[b0,a1,a3,a2]) rfl rfl rfl CL (fun u hu=>by simp only [List.mem_cons,List.not_mem_nil,or_false] at hu;rcases hu with rfl|rfl|rfl|rfl <;> first|exact a5.oneCell|exact ho0_b8834_1.oneCell|exact ho0_b8834_2.oneCell|exact ho0_b8834_3.oneCell) (by repeat (assumption)) a6 oT M6 fun lz gL I3 I4 dU=>(?_))))))) (fun h=>by cases h))))))))))))))
     have a5:=a5.mv I3 I4 (fun b hb=>AJ (d7 b hb))
     have ho0_b8834_1:=ho0_b8834_1.mv I3 I4 (fun b hb=>AJ (e2 b hb))
     have ho0_b8834_2:=ho0_b8834_2.mv I3 I4 (fun b hb=>AJ (d9 b hb))
     have ho0_b8834_3:=ho0_b8834_3.mv I3 I4 (fun b hb=>AJ (e0 b hb))
     have a4:=a4.mv I3
     have a0:=a0.keep I4 (AJ i2)
     have hT:=by exact hT.mvB I3 I4 aS (by decide) (fun x hx=>by exact hx)
     refine AE (AB (AS (AN (BC (AN (AZ rfl (FN (vs:=[b0,a1,a3,a2]) rfl rfl U29_ rfl CL rfl dU rfl) (Exists.intro _ (And.intro rfl (BK (AU (vs:=[b0,a1,a3,a2]) (.agg #[b0,a1,a3,a2]) rfl rfl rfl CL (fun u hu=>by simp only [List.mem_cons,List.not_mem_nil,or_false] at hu;rcases hu with rfl|rfl|rfl|rfl <;> first|exact a5.oneCell|exact ho0_b8834_1.oneCell|exact ho0_b8834_2.oneCell|exact ho0_b8834_3.oneCell) (by repeat (assumption)) a0 oT gL fun lA gM I5 L5 dV=>(?_)))))))))))
     have a4:=a4.mv I5
     have a5:=a5.mv I5 L5 (fun b hb=>AJ (d4 b hb))
     have ho0_b8834_1:=ho0_b8834_1.mv I5 L5 (fun b hb=>AJ (nb0_b8834_1_b8834 b hb))
     have ho0_b8834_2:=ho0_b8834_2.mv I5 L5 (fun b hb=>AJ (nb0_b8834_2_b8834 b hb))
     have ho0_b8834_3:=ho0_b8834_3.mv I5 L5 (fun b hb=>AJ (nb0_b8834_3_b8834 b hb))
     have hT:=by exact hT.mvB I5 L5 aS (by decide) (fun x hx=>by exact hx)
     refine AE (AW (AB (AD kR (AC (CE .i64 ((k:Nat):Int) (1:Int) (((k+1:Nat):Int)) rfl rfl (EP oM oM) (AC (AF (vI ((k+1:Nat):Int)) rfl (AE (AB (?_))))))))))
     exact ⟨_,oM,(k+1),(s),(L),b0,a1,a3,a2,b6,oM,(by rw [FD,← hr0_1];(symm;exact (by (rw [NA (.inr aS) (may_n2 aS)];done)))),hT,rfl,⟨_,AL _ ⟨rfl,rfl,rfl,(by rfl),rfl,trivial⟩⟩,gM,a5,b9,ho0_b8834_1,b1,ho0_b8834_2,b4,ho0_b8834_3,b3,a4,dV,aS,d4,nb0_b8834_1_b8834,nb0_b8834_2_b8834,nb0_b8834_3_b8834,(fun b hb e=>c2 b e hb),(fun b hb e=>c3 b e hb),(fun b hb e=>c4 b e hb),c2,nn0_b8834_1_b8834_2,nn0_b8834_1_b8834_3,c3,nn0_b8834_2_b8834_1,nn0_b8834_2_b8834_3,c4,nn0_b8834_3_b8834_1,nn0_b8834_3_b8834_2⟩
    have iC:(AI ((s.d[(((AA[k]!).device).toNat) % s.d.length]!).ops) (4:Int) (0:Int)).2≠(0:Int):=by simpa using Y4
    refine AX rfl (AX rfl (AC (BA (vO true) rfl rfl (AC (AF (vO true) rfl (AX rfl (AX rfl (AC (BA (vO true) rfl rfl (AC (AF (vO true) rfl (AX rfl (AX rfl (AX rfl (AC (BA (vO true) rfl rfl (AE (AB (AK true rfl rfl (fun _=>AG (AD kR (AC (AQ (vs:=[b0,a1,a3,a2]) U29_ rfl CL rfl a9 rfl (BK (AU (vs:=[b0,a1,a3,a2]) (.agg #[b0,a1,a3,a2]) rfl rfl rfl CL (fun u hu=>by simp only [List.mem_cons,List.not_mem_nil,or_false] at hu;rcases hu with rfl|rfl|rfl|rfl <;> first|exact a5.oneCell|exact ho0_b8834_1.oneCell|exact ho0_b8834_2.oneCell|exact ho0_b8834_3.oneCell) (by repeat (assumption)) a6 oT M6 fun lB gN I6 I7 dW=>(?_))))))) (fun h=>by cases h))))))))))))))))))))
    have a5:=a5.mv I6 I7 (fun b hb=>AJ (d7 b hb))
    have ho0_b8834_1:=ho0_b8834_1.mv I6 I7 (fun b hb=>AJ (e2 b hb))
    have ho0_b8834_2:=ho0_b8834_2.mv I6 I7 (fun b hb=>AJ (d9 b hb))
    have ho0_b8834_3:=ho0_b8834_3.mv I6 I7 (fun b hb=>AJ (e0 b hb))
    have a4:=a4.mv I6
    have a0:=a0.keep I7 (AJ i2)
    have hT:=by exact hT.mvB I6 I7 aS (by decide) (fun x hx=>by exact hx)
    refine AE (AB (AS (AN (BC (AN (AZ rfl (FN (vs:=[b0,a1,a3,a2]) rfl rfl U29_ rfl CL rfl dW rfl) (Exists.intro _ (And.intro rfl (BK (AU (vs:=[b0,a1,a3,a2]) (.agg #[b0,a1,a3,a2]) rfl rfl rfl CL (fun u hu=>by simp only [List.mem_cons,List.not_mem_nil,or_false] at hu;rcases hu with rfl|rfl|rfl|rfl <;> first|exact a5.oneCell|exact ho0_b8834_1.oneCell|exact ho0_b8834_2.oneCell|exact ho0_b8834_3.oneCell) (by repeat (assumption)) a0 oT gN fun lC gO I8 L6 dX=>(?_)))))))))))
    have a4:=a4.mv I8
    have a5:=a5.mv I8 L6 (fun b hb=>AJ (d4 b hb))
    have ho0_b8834_1:=ho0_b8834_1.mv I8 L6 (fun b hb=>AJ (nb0_b8834_1_b8834 b hb))
    have ho0_b8834_2:=ho0_b8834_2.mv I8 L6 (fun b hb=>AJ (nb0_b8834_2_b8834 b hb))
    have ho0_b8834_3:=ho0_b8834_3.mv I8 L6 (fun b hb=>AJ (nb0_b8834_3_b8834 b hb))
    have hT:=by exact hT.mvB I8 L6 aS (by decide) (fun x hx=>by exact hx)
    refine AE (AW (AB (AD kR (AC (CE .i64 ((k:Nat):Int) (1:Int) (((k+1:Nat):Int)) rfl rfl (EP oM oM) (AC (AF (vI ((k+1:Nat):Int)) rfl (AE (AB (?_))))))))))
    exact ⟨_,oM,(k+1),(s),(L),b0,a1,a3,a2,b6,oM,(by rw [FD,← hr0_1];(symm;exact (by (rw [NA (.inr aS) (may_n1 aS)];done)))),hT,rfl,⟨_,AL _ ⟨rfl,rfl,rfl,(by rfl),rfl,trivial⟩⟩,gO,a5,b9,ho0_b8834_1,b1,ho0_b8834_2,b4,ho0_b8834_3,b3,a4,dX,aS,d4,nb0_b8834_1_b8834,nb0_b8834_2_b8834,nb0_b8834_3_b8834,(fun b hb e=>c2 b e hb),(fun b hb e=>c3 b e hb),(fun b hb e=>c4 b e hb),c2,nn0_b8834_1_b8834_2,nn0_b8834_1_b8834_3,c3,nn0_b8834_2_b8834_1,nn0_b8834_2_b8834_3,c4,nn0_b8834_3_b8834_1,nn0_b8834_3_b8834_2⟩
   have iD:((AA[k]!).kind) % 6≠(1:UInt8):=by simpa using K7
   refine AG (AD kR (AC (EG (((AA[k]!).kind) % 6) (2:UInt8) rfl rfl (AC (AH (vO ((((AA[k]!).kind) % 6) == (2:UInt8))) rfl (AE (AB (AK ((((AA[k]!).kind) % 6) == (2:UInt8)) rfl rfl (fun R3=>?_) (fun R3=>?_)))))))))
   ·have iE:((AA[k]!).kind) % 6=(2:UInt8):=by simpa using R3
    refine AG (FV 10 _ _ kR kR kR kR kR rfl rfl fun M7 p9=>?_)
    have bd:=q4.call p9
    have D4:Mv b6 y7 b6 M7:=Mv.of_keep p9
    have a5:=a5.mv D4 p9 (by simp)
    have a4:=a4.mv D4
    have a8:=a8.mv D4
    have a0:=a0.keep p9 (by simp)
    have a7:=a7.keep p9 (by simp)
    have ho0_b8834_1:=ho0_b8834_1.mv D4 p9 (by simp)
    have ho0_b8834_2:=ho0_b8834_2.mv D4 p9 (by simp)
    have ho0_b8834_3:=ho0_b8834_3.mv D4 p9 (by simp)
    have a9:=a9.keep p9 (by simp)
    have a6:=a6.keep p9 (by simp)
    have hT:=by exact hT.mv0 D4 p9 (fun x hx=>by exact hx)
    refine CA (AF (b0) rfl (CA (AF (vI (((((AA[k]!).device).toNat) % s.d.length:Nat):Int)) rfl (CA (BZ U24_ BG .i64 (((((AA[k]!).device).toNat) % s.d.length:Nat):Int) ((((AA[k]!).device).toNat) % s.d.length) rfl rfl rfl a5.rdB oM fun lD dY=>(CA (AP (E':=(Enc.both (Enc.slice Enc.devop) M7 (b6++O))) 2 EQ ((s.d[(((AA[k]!).device).toNat) % s.d.length]!).ops) rfl dY (fun _ _ _ h=>⟨BL h.1,BL h.2⟩) fun lE dZ=>(CA (ER U26_ rfl rfl dZ fun be ae=>(?_))))))))))
    have:=ae.len_le
    refine CA (AF (b0) rfl (CA (AF (vI (((((AA[k]!).other).toNat) % s.d.length:Nat):Int)) rfl (CA (BZ U24_ BG .i64 (((((AA[k]!).other).toNat) % s.d.length:Nat):Int) ((((AA[k]!).other).toNat) % s.d.length) rfl rfl rfl a5.rdB oM fun lF ea=>(CA (AP (E':=(Enc.both (Enc.slice Enc.devop) M7 (b6++O))) 2 EQ ((s.d[(((AA[k]!).other).toNat) % s.d.length]!).ops) rfl ea (fun _ _ _ h=>⟨BL h.1,BL h.2⟩) fun lG eb=>(CA (ER U26_ rfl rfl eb fun bf af=>(?_))))))))))
    have:=af.len_le
    refine HN (AC (BI (vs:=[be,bf]) enter_31 (c_merge (O:=b6++O) be ((s.d[(((AA[k]!).device).toNat) % s.d.length]!).ops) bf ((s.d[(((AA[k]!).other).toNat) % s.d.length]!).ops) M7 ae af bd.lt) rfl bd fun lH lI bg D5 v7 gP=>(?_)))
    obtain ⟨L7,rfl,ag⟩:=gP
    have:=ag.len_le
    have a5:=a5.mv D5 v7 (by simp)
    have a4:=a4.mv D5
    have a8:=a8.mv D5
    have a0:=a0.keep v7 (by simp)
    have a7:=a7.keep v7 (by simp)
    have ho0_b8834_1:=ho0_b8834_1.mv D5 v7 (by simp)
    have ho0_b8834_2:=ho0_b8834_2.mv D5 v7 (by simp)
    have ho0_b8834_3:=ho0_b8834_3.mv D5 v7 (by simp)
    have a9:=a9.keep v7 (by simp)
    have a6:=a6.keep v7 (by simp)
    have hT:=by exact hT.mv0 D5 v7 (fun x hx=>by exact hx)
    refine AC (AF (vT #[L7,vI ((BW ((s.d[(((AA[k]!).device).toNat) % s.d.length]!).ops) ((s.d[(((AA[k]!).other).toNat) % s.d.length]!).ops)).2)]) rfl (AC (BD (L7) rfl rfl (AC (BD (vI ((BW ((s.d[(((AA[k]!).device).toNat) % s.d.length]!).ops) ((s.d[(((AA[k]!).other).toNat) % s.d.length]!).ops)).2)) rfl rfl (AC (AH (L7) rfl (AC (AH (vI ((BW ((s.d[(((AA[k]!).device).toNat) % s.d.length]!).ops) ((s.d[(((AA[k]!).other).toNat) % s.d.length]!).ops)).2)) rfl (AE (AB (AG (AD kR (AC (AF (vI ((BW ((s.d[(((AA[k]!).device).toNat) % s.d.length]!).ops) ((s.d[(((AA[k]!).other).toNat) % s.d.length]!).ops)).2)) rfl (AC (DC .i64 ((BW ((s.d[(((AA[k]!).device).toNat) % s.d.length]!).ops) ((s.d[(((AA[k]!).other).toNat) % s.d.length]!).ops)).2) (0:Int) rfl rfl (AE (AB (AK (((BW ((s.d[(((AA[k]!).device).toNat) % s.d.length]!).ops) ((s.d[(((AA[k]!).other).toNat) % s.d.length]!).ops)).2) == (0:Int)) rfl rfl (fun R4=>?_) (fun R4=>?_)))))))))))))))))))))
    ·have iF:(BW ((s.d[(((AA[k]!).device).toNat) % s.d.length]!).ops) ((s.d[(((AA[k]!).other).toNat) % s.d.length]!).ops)).2=(0:Int):=by simpa using R4
     refine AD kR (AC (AF (b0) rfl (AC (AF (vI (((((AA[k]!).device).toNat) % s.d.length:Nat):Int)) rfl (AC (AF (L7) rfl (AC (DO U24_ BG .i64 (((((AA[k]!).device).toNat) % s.d.length:Nat):Int) ((((AA[k]!).device).toNat) % s.d.length) rfl rfl rfl a5 oM fun lJ j9=>(AC (AM 2 EQ rfl (BK (KL (off:=2) (⟨s.d[(((AA[k]!).device).toNat) % s.d.length]!.id,s.d[(((AA[k]!).device).toNat) % s.d.length]!.counter,(BW ((s.d[(((AA[k]!).device).toNat) % s.d.length]!).ops) ((s.d[(((AA[k]!).other).toNat) % s.d.length]!).ops)).1,s.d[(((AA[k]!).device).toNat) % s.d.length]!.halted⟩:Device) HR rfl rfl a5 j9 (b9 _ j9) oM (by decide) (fun cs hc=>by obtain ⟨d2_,rfl,r2_⟩:=hc;exact ⟨L7,rfl,ag⟩) bg fun lK gQ I9 A4 ec=>(?_)))))))))))))
     have a4:=a4.mv I9
     have a8:=a8.mv I9
     have a0:=a0.keep A4 (by simp only [List.mem_singleton];exact fun e=>absurd e.symm (d4 _ j9))
     have a7:=a7.keep A4 (by simp only [List.mem_singleton];exact fun e=>absurd e.symm (e5 _ j9))
     have ho0_b8834_1:=ho0_b8834_1.mv I9 A4 (fun b hb=>by simp only [List.mem_singleton];rintro rfl;exact absurd j9 (c2 _ hb))
     have ho0_b8834_2:=ho0_b8834_2.mv I9 A4 (fun b hb=>by simp only [List.mem_singleton];rintro rfl;exact absurd j9 (c3 _ hb))
     have ho0_b8834_3:=ho0_b8834_3.mv I9 A4 (fun b hb=>by simp only [List.mem_singleton];rintro rfl;exact absurd j9 (c4 _ hb))
     have a9:=a9.keep A4 (by simp only [List.mem_singleton];exact fun e=>absurd e.symm (d8 _ j9))
     have a6:=a6.keep A4 (by simp only [List.mem_singleton];exact fun e=>absurd e.symm (d7 _ j9))
     have hT:=hT.mvO I9 A4 a5 (fun b hq=>by have hq:=List.mem_singleton.1 hq;subst hq;exact j9) (by decide) (fun x hx=>by exact hx)
     refine AE (AW (AB (?_)))
     exact ⟨((⟨s.d.set ((((AA[k]!).device).toNat) % s.d.length) (⟨s.d[(((AA[k]!).device).toNat) % s.d.length]!.id,s.d[(((AA[k]!).device).toNat) % s.d.length]!.counter,(BW ((s.d[(((AA[k]!).device).toNat) % s.d.length]!).ops) ((s.d[(((AA[k]!).other).toNat) % s.d.length]!).ops)).1,s.d[(((AA[k]!).device).toNat) % s.d.length]!.halted⟩:Device),s.b,s.done,s.shown⟩:HouseR)),(L),b0,a1,a3,a2,b6,(by (rw [lv_2y aS aS];rfl)),hT,trivial,⟨_,AL _ ⟨rfl,rfl,rfl,trivial⟩⟩,gQ,ec,b9,ho0_b8834_1,b1,ho0_b8834_2,b4,ho0_b8834_3,b3,a4,a8,a0,aS,a7,aS,a9,aS,a6,aS,d4,e5,d8,d7,nb0_b8834_1_b8834,f8,e4,e2,nb0_b8834_2_b8834,f0,f1,d9,nb0_b8834_3_b8834,f2,e7,e0,(fun b hb e=>c2 b e hb),(fun b hb e=>c3 b e hb),(fun b hb e=>c4 b e hb),c2,nn0_b8834_1_b8834_2,nn0_b8834_1_b8834_3,c3,nn0_b8834_2_b8834_1,nn0_b8834_2_b8834_3,c4,nn0_b8834_3_b8834_1,nn0_b8834_3_b8834_2⟩
    have iG:(BW ((s.d[(((AA[k]!).device).toNat) % s.d.length]!).ops) ((s.d[(((AA[k]!).other).toNat) % s.d.length]!).ops)).2≠(0:Int):=by simpa using R4
    refine AT (AW (AB (?_)))
    exact ⟨(s),(L),b0,a1,a3,a2,b6,(by (rw [lv_2n aS aS];done)),hT,trivial,⟨_,AL _ ⟨rfl,rfl,rfl,trivial⟩⟩,bg,a5,b9,ho0_b8834_1,b1,ho0_b8834_2,b4,ho0_b8834_3,b3,a4,a8,a0,aS,a7,aS,a9,aS,a6,aS,d4,e5,d8,d7,nb0_b8834_1_b8834,f8,e4,e2,nb0_b8834_2_b8834,f0,f1,d9,nb0_b8834_3_b8834,f2,e7,e0,(fun b hb e=>c2 b e hb),(fun b hb e=>c3 b e hb),(fun b hb e=>c4 b e hb),c2,nn0_b8834_1_b8834_2,nn0_b8834_1_b8834_3,c3,nn0_b8834_2_b8834_1,nn0_b8834_2_b8834_3,c4,nn0_b8834_3_b8834_1,nn0_b8834_3_b8834_2⟩
   have iH:((AA[k]!).kind) % 6≠(2:UInt8):=by simpa using R3
   refine AG (AD kR (AC (EG (((AA[k]!).kind) % 6) (3:UInt8) rfl rfl (AC (AH (vO ((((AA[k]!).kind) % 6) == (3:UInt8))) rfl (AE (AB (AK ((((AA[k]!).kind) % 6) == (3:UInt8)) rfl rfl (fun R5=>?_) (fun R5=>?_)))))))))
   ·have iI:((AA[k]!).kind) % 6=(3:UInt8):=by simpa using R5
    refine ET L[AA[k]!.device.toNat % s.d.length]!.ownBlock.toList [] [[(0,4),(1,4),(2,1),(3,1),(4,1),(5,1),(6,1),(7,1),(8,1),(9,1),(10,1),(11,1),(12,2),(13,2),(14,3),(15,1),(16,0)]] (by intro c F d v w hd;simp only [FQ,EZ];exact GW c F d v w hd) kR kR kR fun bh m8=>?_
    have bi:=q4.call m8
    have A5:Mv b6 y7 b6 bh:=Mv.of_keep m8
    have a5:=a5.mv A5 m8 (by simp)
    have ho0_b8834_0:=ho0_b8834_0.mv A5 m8 (by simp)
    have a4:=a4.mv A5
    have a8:=a8.mv A5
    have a0:=a0.keep m8 (by simp)
    have a7:=a7.keep m8 (by simp)
    have ho0_b8834_1:=ho0_b8834_1.mv A5 m8 (by simp)
    have ho0_b8834_2:=ho0_b8834_2.mv A5 m8 (by simp)
    have ho0_b8834_3:=ho0_b8834_3.mv A5 m8 (by simp)
    have a9:=a9.keep m8 (by simp)
    have a6:=a6.keep m8 (by simp)
    have hT:=by exact hT.mv0 A5 m8 (fun x hx=>by exact hx)
    refine ⟨?_,trivial⟩
    refine DA rfl (fun w4_ k4_=>AM 1 GA rfl (⟨rfl,rfl⟩)) (DA rfl (fun w4_ k4_=>AR U25_ rfl (a1) rfl (a9.keep k4_ (hT.neB (i:=AA[k]!.device.toNat % s.d.length) oM a9 (by decide))) rfl (⟨rfl,rfl⟩)) (AO (AF (vI (((((AA[k]!).device).toNat) % s.d.length:Nat):Int)) rfl (CD (AO (AM 1 GA rfl (CD (AO (AR U25_ rfl (a1) rfl a9 rfl (CD (AO (AF (vI (((((AA[k]!).device).toNat) % s.d.length:Nat):Int)) rfl (CD (AO (BZ U25_ LR .i64 (((((AA[k]!).device).toNat) % s.d.length:Nat):Int) ((((AA[k]!).device).toNat) % s.d.length) rfl rfl rfl ho0_b8834_1.rd0 oM fun lL ed=>(CD (AO (KM U58_ rfl rfl ed (CD (AO (AF (b0) rfl (CD (AO (AF (vI (((((AA[k]!).device).toNat) % s.d.length:Nat):Int)) rfl (CD (AO (BZ U24_ BG .i64 (((((AA[k]!).device).toNat) % s.d.length:Nat):Int) ((((AA[k]!).device).toNat) % s.d.length) rfl rfl rfl a5.rdB oM fun lM ee=>(CD (AO (BT U31_ rfl BG rfl ee fun ah R6=>(?_)))))))))))))))))))))))))))))))
    have R6:=R6.2
    refine CD (DU (BI (vs:=[vA ah.toArray]) enter_46 (c_backup (O:=b6++O) ah (s.d[(((AA[k]!).device).toNat) % s.d.length]!) bh R6 oM bi.lt) rfl bi fun bj lN gR A6 q0 gS=>(?_)))
    obtain ⟨_,rfl,R7⟩:=gS
    have:=R7.len_le
    have a5:=a5.mv A6 q0 (by simp)
    have ho0_b8834_0:=ho0_b8834_0.mv A6 q0 (by simp)
    have ho0_b8834_1:=ho0_b8834_1.mv A6 q0 (by simp)
    have a4:=a4.mv A6
    have a8:=a8.mv A6
    have a0:=a0.keep q0 (by simp)
    have a7:=a7.keep q0 (by simp)
    have ho0_b8834_2:=ho0_b8834_2.mv A6 q0 (by simp)
    have ho0_b8834_3:=ho0_b8834_3.mv A6 q0 (by simp)
    have a9:=a9.keep q0 (by simp)
    have a6:=a6.keep q0 (by simp)
    have hT:=by exact hT.mv0 A6 q0 (fun x hx=>by exact hx)
    refine ⟨q0,?_⟩
    refine DU (EY (E:=(Enc.slice Enc.devop)) (xs:=[.tmp 185]) U58_ HR z_26 (by decide) [bj] [[bj]] [(s.d[(((AA[k]!).device).toNat) % s.d.length]!).ops] rfl rfl rfl (Parts.cons (HG R7.oneCell) ⟨_,rfl,R7⟩ (Parts.nil _ _ _)) oT gR fun lO lP gT A7 q1 ai=>(?_))
    have a5:=a5.mv A7 q1 (by simp)
    have ho0_b8834_0:=ho0_b8834_0.mv A7 q1 (by simp)
    have ho0_b8834_1:=ho0_b8834_1.mv A7 q1 (by simp)
    have a4:=a4.mv A7
    have a8:=a8.mv A7
    have a0:=a0.keep q1 (by simp)
    have a7:=a7.keep q1 (by simp)
    have ho0_b8834_2:=ho0_b8834_2.mv A7 q1 (by simp)
    have ho0_b8834_3:=ho0_b8834_3.mv A7 q1 (by simp)
    have a9:=a9.keep q1 (by simp)
    have a6:=a6.keep q1 (by simp)
    have hT:=by exact hT.mv0 A7 q1 (fun x hx=>by exact hx)
    have:=ai.len_le
    refine ⟨q1,?_⟩
    have aj:∀ b,b0.ownBlock=some b→(L[(((AA[k]!).device).toNat) % s.d.length]!).ownBlock≠some b:=fun b hb he=>hT.neO (i:=(((AA[k]!).device).toNat) % s.d.length) oM a5 (by decide) b hb (by rw [he];simp)
    have ef:∀ b,b2.ownBlock=some b→(L[(((AA[k]!).device).toNat) % s.d.length]!).ownBlock≠some b:=fun b hb he=>hT.neO (i:=(((AA[k]!).device).toNat) % s.d.length) oM ho0_b8834_0 (by decide) b hb (by rw [he];simp)
    have ak:∀ b,a1.ownBlock=some b→(L[(((AA[k]!).device).toNat) % s.d.length]!).ownBlock≠some b:=fun b hb he=>hT.neO (i:=(((AA[k]!).device).toNat) % s.d.length) oM ho0_b8834_1 (by decide) b hb (by rw [he];simp)
    have al:∀ b,a3.ownBlock=some b→(L[(((AA[k]!).device).toNat) % s.d.length]!).ownBlock≠some b:=fun b hb he=>hT.neO (i:=(((AA[k]!).device).toNat) % s.d.length) oM ho0_b8834_2 (by decide) b hb (by rw [he];simp)
    have am:∀ b,a2.ownBlock=some b→(L[(((AA[k]!).device).toNat) % s.d.length]!).ownBlock≠some b:=fun b hb he=>hT.neO (i:=(((AA[k]!).device).toNat) % s.d.length) oM ho0_b8834_3 (by decide) b hb (by rw [he];simp)
    have an:∀ b,(L[(((AA[k]!).device).toNat) % s.d.length]!).ownBlock=some b→b≠c7:=fun b hb e=>hT.neB (i:=(((AA[k]!).device).toNat) % s.d.length) oM a0 (by decide) (by rw [hb,e];simp)
    have ao:∀ b,(L[(((AA[k]!).device).toNat) % s.d.length]!).ownBlock=some b→b≠b8:=fun b hb e=>hT.neB (i:=(((AA[k]!).device).toNat) % s.d.length) oM a7 (by decide) (by rw [hb,e];simp)
    have ap:∀ b,(L[(((AA[k]!).device).toNat) % s.d.length]!).ownBlock=some b→b≠c5:=fun b hb e=>hT.neB (i:=(((AA[k]!).device).toNat) % s.d.length) oM a9 (by decide) (by rw [hb,e];simp)
    have aq:∀ b,(L[(((AA[k]!).device).toNat) % s.d.length]!).ownBlock=some b→b≠c6:=fun b hb e=>hT.neB (i:=(((AA[k]!).device).toNat) % s.d.length) oM a6 (by decide) (by rw [hb,e];simp)
    refine KX (CT (E:=(Enc.slice Enc.devop)) (l:=s.b[(((AA[k]!).device).toNat) % s.d.length]!) (m:=[(s.d[(((AA[k]!).device).toNat) % s.d.length]!).ops]) U58_ i_26 rfl (by decide) rfl rfl (hT.own (i:=(((AA[k]!).device).toNat) % s.d.length) oM) ai (fun _ hb=>.inl hb) (hT.blk (i:=(((AA[k]!).device).toNat) % s.d.length) oM) (by simp only [List.length_singleton];omega) (by simp only [maxLen,List.length_singleton];omega) gT fun q2 lQ s9 eg k0 h9 gU D6 t0 ar=>(?_))
    have iJ:∀ b,b0.ownBlock=some b→q2.ownBlock≠some b:=fun b hb e=>by rcases k0 with e1|e1 <;> rw [e1] at e <;> first|(cases e;have:=(a5.lt _ hb).2;omega)|(exact absurd e (aj b hb))
    have iK:∀ b,b2.ownBlock=some b→q2.ownBlock≠some b:=fun b hb e=>by rcases k0 with e1|e1 <;> rw [e1] at e <;> first|(cases e;have:=(ho0_b8834_0.lt _ hb).2;omega)|(exact absurd e (ef b hb))
    have iL:∀ b,a1.ownBlock=some b→q2.ownBlock≠some b:=fun b hb e=>by rcases k0 with e1|e1 <;> rw [e1] at e <;> first|(cases e;have:=(ho0_b8834_1.lt _ hb).2;omega)|(exact absurd e (ak b hb))
    have iM:∀ b,a3.ownBlock=some b→q2.ownBlock≠some b:=fun b hb e=>by rcases k0 with e1|e1 <;> rw [e1] at e <;> first|(cases e;have:=(ho0_b8834_2.lt _ hb).2;omega)|(exact absurd e (al b hb))
    have iN:∀ b,a2.ownBlock=some b→q2.ownBlock≠some b:=fun b hb e=>by rcases k0 with e1|e1 <;> rw [e1] at e <;> first|(cases e;have:=(ho0_b8834_3.lt _ hb).2;omega)|(exact absurd e (am b hb))
    have iO:∀ b,q2.ownBlock=some b→b≠c7:=fun b hb=>by rcases k0 with e1|e1 <;> rw [e1] at hb <;> first|(cases hb;have:=a0.lt;omega)|(exact an b hb)
    have iP:∀ b,q2.ownBlock=some b→b≠b8:=fun b hb=>by rcases k0 with e1|e1 <;> rw [e1] at hb <;> first|(cases hb;have:=a7.lt;omega)|(exact ao b hb)
    have iQ:∀ b,q2.ownBlock=some b→b≠c5:=fun b hb=>by rcases k0 with e1|e1 <;> rw [e1] at hb <;> first|(cases hb;have:=a9.lt;omega)|(exact ap b hb)
    have iR:∀ b,q2.ownBlock=some b→b≠c6:=fun b hb=>by rcases k0 with e1|e1 <;> rw [e1] at hb <;> first|(cases hb;have:=a6.lt;omega)|(exact aq b hb)
    have b9:∀ b,b0.ownBlock=some b→b∈s9:=fun b hb=>h9 b (b9 b hb)
    have b7:∀ b,b2.ownBlock=some b→b∈s9:=fun b hb=>h9 b (b7 b hb)
    have b1:∀ b,a1.ownBlock=some b→b∈s9:=fun b hb=>h9 b (b1 b hb)
    have b4:∀ b,a3.ownBlock=some b→b∈s9:=fun b hb=>h9 b (b4 b hb)
    have b3:∀ b,a2.ownBlock=some b→b∈s9:=fun b hb=>h9 b (b3 b hb)
    have g2:c7∈s9:=h9 c7 (by repeat (assumption))
    have h6:b8∈s9:=h9 b8 (by repeat (assumption))
    have h7:c5∈s9:=h9 c5 (by repeat (assumption))
    have h8:c6∈s9:=h9 c6 (by repeat (assumption))
    have a5:=a5.mv D6 t0 (fun b hb=>by simp only [Option.mem_toList];exact aj b hb)
    have ho0_b8834_1:=ho0_b8834_1.mv D6 t0 (fun b hb=>by simp only [Option.mem_toList];exact ak b hb)
    have a4:=a4.mv D6
    have a8:=a8.mv D6
    have a0:=a0.keep t0 (by simp only [Option.mem_toList];exact fun e=>absurd rfl (an _ e))
    have a7:=a7.keep t0 (by simp only [Option.mem_toList];exact fun e=>absurd rfl (ao _ e))
    have ho0_b8834_2:=ho0_b8834_2.mv D6 t0 (fun b hb=>by simp only [Option.mem_toList];exact al b hb)
    have ho0_b8834_3:=ho0_b8834_3.mv D6 t0 (fun b hb=>by simp only [Option.mem_toList];exact am b hb)
    have a9:=a9.keep t0 (by simp only [Option.mem_toList];exact fun e=>absurd rfl (ap _ e))
    have a6:=a6.keep t0 (by simp only [Option.mem_toList];exact fun e=>absurd rfl (aq _ e))
    have hT:=hT.app (i:=(((AA[k]!).device).toNat) % s.d.length) oM D6 t0 k0 ar h9 eg
    refine ⟨t0,?_⟩
    refine AO (DO U25_ LR .i64 (((((AA[k]!).device).toNat) % s.d.length:Nat):Int) ((((AA[k]!).device).toNat) % s.d.length) rfl rfl rfl ho0_b8834_1 oM fun lR k5=>(CD (FO (KL (off:=0) q2 LR rfl rfl ho0_b8834_1 k5 (b1 _ k5) oM (by decide) (fun cs hc=>by obtain ⟨rfl,h1_⟩:=hc;exact ⟨rfl,ar.oneCell⟩) gU fun lS gV J0 A8 eh=>(?_)))))
    have a5:=a5.mv J0 A8 (fun b hb=>by simp only [List.mem_singleton];rintro rfl;exact absurd k5 ((fun b hb e=>c2 b e hb) _ hb))
    have a4:=a4.mv J0
    have a8:=a8.mv J0
    have a0:=a0.keep A8 (by simp only [List.mem_singleton];exact fun e=>absurd e.symm (nb0_b8834_1_b8834 _ k5))
    have a7:=a7.keep A8 (by simp only [List.mem_singleton];exact fun e=>absurd e.symm (f8 _ k5))
    have ho0_b8834_2:=ho0_b8834_2.mv J0 A8 (fun b hb=>by simp only [List.mem_singleton];rintro rfl;exact absurd k5 (nn0_b8834_2_b8834_1 _ hb))
    have ho0_b8834_3:=ho0_b8834_3.mv J0 A8 (fun b hb=>by simp only [List.mem_singleton];rintro rfl;exact absurd k5 (nn0_b8834_3_b8834_1 _ hb))
    have a9:=a9.keep A8 (by simp only [List.mem_singleton];exact fun e=>absurd e.symm (e4 _ k5))
    have a6:=a6.keep A8 (by simp only [List.mem_singleton];exact fun e=>absurd e.symm (e2 _ k5))
    have hT:=hT.mvO J0 A8 ho0_b8834_1 (fun b hq=>by have hq:=List.mem_singleton.1 hq;subst hq;exact k5) (by decide) (fun x hx=>by exact hx)
    refine EW (AW (AB (?_)))
    exact ⟨((⟨s.d,s.b.set ((((AA[k]!).device).toNat) % s.d.length) ((s.b[(((AA[k]!).device).toNat) % s.d.length]!)++([(s.d[(((AA[k]!).device).toNat) % s.d.length]!).ops])),s.done,s.shown⟩:HouseR)),(L.set ((((AA[k]!).device).toNat) % s.d.length) q2),b0,a1,a3,a2,s9,(by (rw [lv_3 aS];done)),hT,trivial,⟨_,AL _ ⟨rfl,rfl,rfl,trivial⟩⟩,gV,a5,b9,eh,b1,ho0_b8834_2,b4,ho0_b8834_3,b3,a4,a8,a0,aS,a7,aS,a9,aS,a6,aS,d4,e5,d8,d7,nb0_b8834_1_b8834,f8,e4,e2,nb0_b8834_2_b8834,f0,f1,d9,nb0_b8834_3_b8834,f2,e7,e0,(fun b hb e=>c2 b e hb),(fun b hb e=>c3 b e hb),(fun b hb e=>c4 b e hb),c2,nn0_b8834_1_b8834_2,nn0_b8834_1_b8834_3,c3,nn0_b8834_2_b8834_1,nn0_b8834_2_b8834_3,c4,nn0_b8834_3_b8834_1,nn0_b8834_3_b8834_2⟩
   have iS:((AA[k]!).kind) % 6≠(3:UInt8):=by simpa using R5
   refine AG (AD kR (AC (EG (((AA[k]!).kind) % 6) (4:UInt8) rfl rfl (AC (AH (vO ((((AA[k]!).kind) % 6) == (4:UInt8))) rfl (AE (AB (AK ((((AA[k]!).kind) % 6) == (4:UInt8)) rfl rfl (fun R8=>?_) (fun R8=>?_)))))))))
   ·have iU:((AA[k]!).kind) % 6=(4:UInt8):=by simpa using R8
    refine AG (AD kR (AC (AM 1 GA rfl (AC (AR U25_ rfl (a1) rfl a9 rfl (AC (AF (vI (((((AA[k]!).device).toNat) % s.d.length:Nat):Int)) rfl (AC (BZ U25_ LR .i64 (((((AA[k]!).device).toNat) % s.d.length:Nat):Int) ((((AA[k]!).device).toNat) % s.d.length) rfl rfl rfl ho0_b8834_1.rd0 oM fun lT ei=>(AC (KM U58_ rfl rfl ei (AC (JG U58_ rfl (hT.own (i:=(((AA[k]!).device).toNat) % s.d.length) oM) (AC (AH (vI (s.b[(((AA[k]!).device).toNat) % s.d.length]!.length:Int)) rfl (AE (AB (AG (AD kR (AC (AF (vI (s.b[(((AA[k]!).device).toNat) % s.d.length]!.length:Int)) rfl (AC (IF .i64 (s.b[(((AA[k]!).device).toNat) % s.d.length]!.length:Int) (0:Int) rfl rfl (AE (AB (AK (decide ((0:Int)<(s.b[(((AA[k]!).device).toNat) % s.d.length]!.length:Int))) rfl rfl (fun R9=>?_) (fun R9=>?_)))))))))))))))))))))))))))
    ·have iV:(0:Int)<(s.b[(((AA[k]!).device).toNat) % s.d.length]!.length:Int):=by simpa using R9
     refine ET [] [] [[(0,1),(1,1),(2,1),(3,1),(4,1),(5,1),(6,1),(7,1),(8,1),(9,1),(10,1),(11,1),(12,1),(13,4),(14,1),(15,4),(16,1),(17,1),(18,2),(19,1),(20,0)]] (by intro c F d v w hd;simp only [FQ,EZ];exact GW c F d v w hd) kR kR kR fun bk q3=>?_
     have bm:=q4.call q3
     have A9:Mv b6 y7 b6 bk:=Mv.of_keep q3
     have b5:=b5.mv A9
     have a5:=a5.mv A9 q3 (by simp)
     have ho0_b8834_1:=ho0_b8834_1.mv A9 q3 (by simp)
     have a4:=a4.mv A9
     have a8:=a8.mv A9
     have a0:=a0.keep q3 (by simp)
     have a7:=a7.keep q3 (by simp)
     have ho0_b8834_2:=ho0_b8834_2.mv A9 q3 (by simp)
     have ho0_b8834_3:=ho0_b8834_3.mv A9 q3 (by simp)
     have a9:=a9.keep q3 (by simp)
     have a6:=a6.keep q3 (by simp)
     have hT:=by exact hT.mv0 A9 q3 (fun x hx=>by exact hx)
     refine ⟨?_,trivial⟩
     refine AO (AF (b0) rfl (CD (AO (AF (vI (((((AA[k]!).device).toNat) % s.d.length:Nat):Int)) rfl (CD (AO (AF (b0) rfl (CD (AO (AF (vI (((((AA[k]!).device).toNat) % s.d.length:Nat):Int)) rfl (CD (AO (BZ U24_ BG .i64 (((((AA[k]!).device).toNat) % s.d.length:Nat):Int) ((((AA[k]!).device).toNat) % s.d.length) rfl rfl rfl a5.rdB oM fun lU ej=>(CD (AO (BT U31_ rfl BG rfl ej fun au S0=>(?_)))))))))))))))))
     have S0:=S0.2
     refine CD (AO (AM 1 GA rfl (CD (AO (AR U25_ rfl (a1) rfl a9 rfl (CD (AO (AF (vI (((((AA[k]!).device).toNat) % s.d.length:Nat):Int)) rfl (CD (AO (BZ U25_ LR .i64 (((((AA[k]!).device).toNat) % s.d.length:Nat):Int) ((((AA[k]!).device).toNat) % s.d.length) rfl rfl rfl ho0_b8834_1.rd0 oM fun lV ek=>(CD (AO (KM U58_ rfl rfl ek (CD (AO (AP 5 f_37_5 ((AA[k]!).at_) rfl b5 (fun _ _ _ h=>MO h) fun lW el=>(CD (AO (CU U5_ rfl rfl el (CD (DA rfl (fun w4_ k4_=>FF .u8 .i64 U5_ U3_ (((AA[k]!).at_).toNat:Int) (((AA[k]!).at_).toNat:Int) rfl (by have:=((AA[k]!).at_).toNat_lt;exact EP oM rfl) (⟨rfl,rfl⟩)) (AO (AF (vI (s.b[(((AA[k]!).device).toNat) % s.d.length]!.length:Int)) rfl (CD (DA rfl (fun w4_ k4_=>MZ (((AA[k]!).at_).toNat) (s.b[(((AA[k]!).device).toNat) % s.d.length]!.length) oM rfl rfl (⟨rfl,rfl⟩)) (AO (BZ U58_ HR .i64 (((((AA[k]!).at_).toNat) % (s.b[(((AA[k]!).device).toNat) % s.d.length]!.length):Nat):Int) ((((AA[k]!).at_).toNat) % (s.b[(((AA[k]!).device).toNat) % s.d.length]!.length)) rfl rfl rfl (hT.own (i:=(((AA[k]!).device).toNat) % s.d.length) oM).rdB (Nat.mod_lt _ oM) fun lX em=>(CD (AO (ER U26_ rfl rfl em fun bn av=>(?_))))))))))))))))))))))))))))))))
     have:=av.len_le
     refine CD (DU (BI (vs:=[vA au.toArray,bn]) enter_47 (QY (O:=b6++O) au (s.d[(((AA[k]!).device).toNat) % s.d.length]!) bn ((s.b[(((AA[k]!).device).toNat) % s.d.length]!)[(((AA[k]!).at_).toNat) % (s.b[(((AA[k]!).device).toNat) % s.d.length]!.length)]!) bk S0 av (by have h_:s.b[AA[k]!.device.toNat % s.d.length]![AA[k]!.at_.toNat % s.b[AA[k]!.device.toNat % s.d.length]!.length]!.length≤256:=bk_len hI (hI.i_lt AA[k]!) (Nat.mod_lt AA[k]!.at_.toNat (show 0<s.b[AA[k]!.device.toNat % s.d.length]!.length by omega));omega) bm.lt) rfl bm fun lY lZ gW D7 t1 gX=>(?_)))
     obtain ⟨iW,rfl,en⟩:=gX
     have a5:=a5.mv D7 t1 (by simp)
     have ho0_b8834_1:=ho0_b8834_1.mv D7 t1 (by simp)
     have a4:=a4.mv D7
     have a8:=a8.mv D7
     have a0:=a0.keep t1 (by simp)
     have a7:=a7.keep t1 (by simp)
     have ho0_b8834_2:=ho0_b8834_2.mv D7 t1 (by simp)
     have ho0_b8834_3:=ho0_b8834_3.mv D7 t1 (by simp)
     have a9:=a9.keep t1 (by simp)
     have a6:=a6.keep t1 (by simp)
     have hT:=by exact hT.mv0 D7 t1 (fun x hx=>by exact hx)
     refine ⟨t1,?_⟩
     refine AO (DO U24_ BG .i64 (((((AA[k]!).device).toNat) % s.d.length:Nat):Int) ((((AA[k]!).device).toNat) % s.d.length) rfl rfl rfl a5 oM fun ma k6=>(CD (FO (DW (GH (s.d[(((AA[k]!).device).toNat) % s.d.length]!) ((s.b[(((AA[k]!).device).toNat) % s.d.length]!)[(((AA[k]!).at_).toNat) % (s.b[(((AA[k]!).device).toNat) % s.d.length]!.length)]!)) (by decide) BG rfl rfl a5 k6 (b9 _ k6) oM en gW fun mb gY J1 B0 eo=>(?_)))))
     have ho0_b8834_1:=ho0_b8834_1.mv J1 B0 (fun b hb=>by simp only [List.mem_singleton];rintro rfl;exact absurd k6 (c2 _ hb))
     have a4:=a4.mv J1
     have a8:=a8.mv J1
     have a0:=a0.keep B0 (by simp only [List.mem_singleton];exact fun e=>absurd e.symm (d4 _ k6))
     have a7:=a7.keep B0 (by simp only [List.mem_singleton];exact fun e=>absurd e.symm (e5 _ k6))
     have ho0_b8834_2:=ho0_b8834_2.mv J1 B0 (fun b hb=>by simp only [List.mem_singleton];rintro rfl;exact absurd k6 (c3 _ hb))
     have ho0_b8834_3:=ho0_b8834_3.mv J1 B0 (fun b hb=>by simp only [List.mem_singleton];rintro rfl;exact absurd k6 (c4 _ hb))
     have a9:=a9.keep B0 (by simp only [List.mem_singleton];exact fun e=>absurd e.symm (d8 _ k6))
     have a6:=a6.keep B0 (by simp only [List.mem_singleton];exact fun e=>absurd e.symm (d7 _ k6))
     have hT:=hT.mvO J1 B0 a5 (fun b hq=>by have hq:=List.mem_singleton.1 hq;subst hq;exact k6) (by decide) (fun x hx=>by exact hx)
     refine EW (AW (AB (?_)))
     exact ⟨((⟨s.d.set ((((AA[k]!).device).toNat) % s.d.length) (GH (s.d[(((AA[k]!).device).toNat) % s.d.length]!) ((s.b[(((AA[k]!).device).toNat) % s.d.length]!)[(((AA[k]!).at_).toNat) % (s.b[(((AA[k]!).device).toNat) % s.d.length]!.length)]!)),s.b,s.done,s.shown⟩:HouseR)),(L),b0,a1,a3,a2,b6,(by (rw [lv_4y aS aS];done)),hT,trivial,⟨_,AL _ ⟨rfl,rfl,rfl,trivial⟩⟩,gY,eo,b9,ho0_b8834_1,b1,ho0_b8834_2,b4,ho0_b8834_3,b3,a4,a8,a0,aS,a7,aS,a9,aS,a6,aS,d4,e5,d8,d7,nb0_b8834_1_b8834,f8,e4,e2,nb0_b8834_2_b8834,f0,f1,d9,nb0_b8834_3_b8834,f2,e7,e0,(fun b hb e=>c2 b e hb),(fun b hb e=>c3 b e hb),(fun b hb e=>c4 b e hb),c2,nn0_b8834_1_b8834_2,nn0_b8834_1_b8834_3,c3,nn0_b8834_2_b8834_1,nn0_b8834_2_b8834_3,c4,nn0_b8834_3_b8834_1,nn0_b8834_3_b8834_2⟩
    have iX:(s.b[(((AA[k]!).device).toNat) % s.d.length]!.length:Int)≤(0:Int):=by simpa using R9
    refine AT (AW (AB (?_)))
    exact ⟨(s),(L),b0,a1,a3,a2,b6,(by (rw [lv_4n aS aS];done)),hT,trivial,⟨_,AL _ ⟨rfl,rfl,rfl,trivial⟩⟩,q4,a5,b9,ho0_b8834_1,b1,ho0_b8834_2,b4,ho0_b8834_3,b3,a4,a8,a0,aS,a7,aS,a9,aS,a6,aS,d4,e5,d8,d7,nb0_b8834_1_b8834,f8,e4,e2,nb0_b8834_2_b8834,f0,f1,d9,nb0_b8834_3_b8834,f2,e7,e0,(fun b hb e=>c2 b e hb),(fun b hb e=>c3 b e hb),(fun b hb e=>c4 b e hb),c2,nn0_b8834_1_b8834_2,nn0_b8834_1_b8834_3,c3,nn0_b8834_2_b8834_1,nn0_b8834_2_b8834_3,c4,nn0_b8834_3_b8834_1,nn0_b8834_3_b8834_2⟩
   have iY:((AA[k]!).kind) % 6≠(4:UInt8):=by simpa using R8
   refine AG (AD kR (AC (EG (((AA[k]!).kind) % 6) (5:UInt8) rfl rfl (AC (AH (vO ((((AA[k]!).kind) % 6) == (5:UInt8))) rfl (AE (AB (?_))))))))
   have ep:((((AA[k]!).kind) % 6) == (5:UInt8))=true:=(beq_iff_eq.2 (KD aS aS aS aS aS))
   rw [ep]
   refine AK true rfl rfl (fun _=>AG (AD kR (AC (AF (b0) rfl (AC (AF (vI (((((AA[k]!).device).toNat) % s.d.length:Nat):Int)) rfl (AC (BZ U24_ BG .i64 (((((AA[k]!).device).toNat) % s.d.length:Nat):Int) ((((AA[k]!).device).toNat) % s.d.length) rfl rfl rfl a5.rdB oM fun mc eq=>(AC (BT U31_ rfl BG rfl eq fun aw S1=>(?_))))))))))) (fun h=>by cases h)
   have S1:=S1.2
   refine AC (BI (vs:=[vA aw.toArray]) enter_44 (c_start (O:=b6++O) aw (s.d[(((AA[k]!).device).toNat) % s.d.length]!) y7 S1 q4.lt) rfl q4 fun md me gZ B1 t2 ha=>(?_))
   obtain ⟨S2,rfl,S3⟩:=ha
   have a5:=a5.mv B1 t2 (by simp)
   have ho0_b8834_0:=ho0_b8834_0.mv B1 t2 (by simp)
   have a4:=a4.mv B1
   have a8:=a8.mv B1
   have a0:=a0.keep t2 (by simp)
   have a7:=a7.keep t2 (by simp)
   have ho0_b8834_1:=ho0_b8834_1.mv B1 t2 (by simp)
   have ho0_b8834_2:=ho0_b8834_2.mv B1 t2 (by simp)
   have ho0_b8834_3:=ho0_b8834_3.mv B1 t2 (by simp)
   have a9:=a9.keep t2 (by simp)
   have a6:=a6.keep t2 (by simp)
   have hT:=by exact hT.mv0 B1 t2 (fun x hx=>by exact hx)
   refine AC (AF (vT #[vA S2.toArray,vI ((BE (s.d[(((AA[k]!).device).toNat) % s.d.length]!)).2)]) rfl (AC (BD (vA S2.toArray) rfl rfl (AC (BD (vI ((BE (s.d[(((AA[k]!).device).toNat) % s.d.length]!)).2)) rfl rfl (AC (CC [vI 0,vI 0,nS,vO false] HO rfl gZ fun f7 hf hg hh B2 v8 es=>(?_))))))))
   have et:DB c7 f7:=by show c7≠f7;have:=a0.lt;omega
   have eu:DB b8 f7:=by show b8≠f7;have:=a7.lt;omega
   have ev:DB c5 f7:=by show c5≠f7;have:=a9.lt;omega
   have ew:DB c6 f7:=by show c6≠f7;have:=a6.lt;omega
   have ex:∀ b,b0.ownBlock=some b→b≠f7:=fun b hb=>by have:=(a5.lt b hb).2;omega
   have iZ:∀ b,b2.ownBlock=some b→b≠f7:=fun b hb=>by have:=(ho0_b8834_0.lt b hb).2;omega
   have ey:∀ b,a1.ownBlock=some b→b≠f7:=fun b hb=>by have:=(ho0_b8834_1.lt b hb).2;omega
   have ez:∀ b,a3.ownBlock=some b→b≠f7:=fun b hb=>by have:=(ho0_b8834_2.lt b hb).2;omega
   have eA:∀ b,a2.ownBlock=some b→b≠f7:=fun b hb=>by have:=(ho0_b8834_3.lt b hb).2;omega
   have b9:∀ b,b0.ownBlock=some b→b∈(f7 :: b6):=fun b hb=>List.mem_cons_of_mem _ (b9 b hb)
   have b7:∀ b,b2.ownBlock=some b→b∈(f7 :: b6):=fun b hb=>List.mem_cons_of_mem _ (b7 b hb)
   have b1:∀ b,a1.ownBlock=some b→b∈(f7 :: b6):=fun b hb=>List.mem_cons_of_mem _ (b1 b hb)
   have b4:∀ b,a3.ownBlock=some b→b∈(f7 :: b6):=fun b hb=>List.mem_cons_of_mem _ (b4 b hb)
   have b3:∀ b,a2.ownBlock=some b→b∈(f7 :: b6):=fun b hb=>List.mem_cons_of_mem _ (b3 b hb)
   clear hg
   have a5:=a5.mv B2 v8 (by simp)
   have S3:Enc.device.rd hf ((f7 :: b6)++O) S2 ((BE (s.d[(((AA[k]!).device).toNat) % s.d.length]!)).1):=Enc.mv Enc.device (x:=(BE (s.d[(((AA[k]!).device).toNat) % s.d.length]!)).1) S3 B2
   have a4:=a4.mv B2
   have a8:=a8.mv B2
   have a0:=a0.keep v8 (by simp)
   have a7:=a7.keep v8 (by simp)
   have ho0_b8834_1:=ho0_b8834_1.mv B2 v8 (by simp)
   have ho0_b8834_2:=ho0_b8834_2.mv B2 v8 (by simp)
   have ho0_b8834_3:=ho0_b8834_3.mv B2 v8 (by simp)
   have a9:=a9.keep v8 (by simp)
   have a6:=a6.keep v8 (by simp)
   have hT:=by exact hT.mv0 B2 v8 (fun x hx=>by exact List.mem_cons_of_mem _ hx)
   obtain ⟨M8,rfl,B8⟩:=S3
   have:=B8.len_le
   refine BK (AU (vs:=[vI (((BE (s.d[(((AA[k]!).device).toNat) % s.d.length]!)).1).id),vI (((BE (s.d[(((AA[k]!).device).toNat) % s.d.length]!)).1).counter),M8,vO (((BE (s.d[(((AA[k]!).device).toNat) % s.d.length]!)).1).halted)]) (.agg #[vI (((BE (s.d[(((AA[k]!).device).toNat) % s.d.length]!)).1).id),vI (((BE (s.d[(((AA[k]!).device).toNat) % s.d.length]!)).1).counter),M8,vO (((BE (s.d[(((AA[k]!).device).toNat) % s.d.length]!)).1).halted)]) rfl rfl rfl BG (fun u hu=>by simp only [List.mem_cons,List.not_mem_nil,or_false] at hu;rcases hu with rfl|rfl|rfl|rfl <;> first|rfl|exact B8.oneCell) (by repeat (constructor)) es oT hh fun mf U0 B3 v9 ax=>(?_))
   have a5:=a5.mv B3 v9 (fun b hb=>AJ (ex b hb))
   have B8:=B8.mv B3
   have a4:=a4.mv B3
   have a8:=a8.mv B3
   have a0:=a0.keep v9 (AJ et)
   have a7:=a7.keep v9 (AJ eu)
   have ho0_b8834_1:=ho0_b8834_1.mv B3 v9 (fun b hb=>AJ (ey b hb))
   have ho0_b8834_2:=ho0_b8834_2.mv B3 v9 (fun b hb=>AJ (ez b hb))
   have ho0_b8834_3:=ho0_b8834_3.mv B3 v9 (fun b hb=>AJ (eA b hb))
   have a9:=a9.keep v9 (AJ ev)
   have a6:=a6.keep v9 (AJ ew)
   have hT:=by exact hT.mvB B3 v9 aS (by decide) (fun x hx=>by exact hx)
   refine AC (AH (vI ((BE (s.d[(((AA[k]!).device).toNat) % s.d.length]!)).2)) rfl (AE (AB (AG (AD kR (AC (AF (vI ((BE (s.d[(((AA[k]!).device).toNat) % s.d.length]!)).2)) rfl (AC (DC .i64 ((BE (s.d[(((AA[k]!).device).toNat) % s.d.length]!)).2) (0:Int) rfl rfl (AC (AF (vO (((BE (s.d[(((AA[k]!).device).toNat) % s.d.length]!)).2) == (0:Int))) rfl (?_))))))))))))
   cases ay:(((BE (s.d[(((AA[k]!).device).toNat) % s.d.length]!)).2) == (0:Int))
   ·have ja:(BE (s.d[(((AA[k]!).device).toNat) % s.d.length]!)).2≠(0:Int):=by simpa using ay
    refine BH rfl (AF (vI ((BE (s.d[(((AA[k]!).device).toNat) % s.d.length]!)).2)) rfl (BH rfl (DC .i64 ((BE (s.d[(((AA[k]!).device).toNat) % s.d.length]!)).2) (430:Int) rfl rfl (AC (BM (vO (((BE (s.d[(((AA[k]!).device).toNat) % s.d.length]!)).2) == (430:Int))) rfl rfl (AE (AB (AK (((BE (s.d[(((AA[k]!).device).toNat) % s.d.length]!)).2) == (430:Int)) rfl rfl (fun S4=>?_) (fun S4=>?_)))))))))
    ·have jb:(BE (s.d[(((AA[k]!).device).toNat) % s.d.length]!)).2=(430:Int):=by simpa using S4
     refine AD kR (AC (AF (b0) rfl (AC (AF (vI (((((AA[k]!).device).toNat) % s.d.length:Nat):Int)) rfl (AC (AQ (vs:=[vI (((BE (s.d[(((AA[k]!).device).toNat) % s.d.length]!)).1).id),vI (((BE (s.d[(((AA[k]!).device).toNat) % s.d.length]!)).1).counter),M8,vO (((BE (s.d[(((AA[k]!).device).toNat) % s.d.length]!)).1).halted)]) U31_ rfl BG rfl ax rfl (AC (DO U24_ BG .i64 (((((AA[k]!).device).toNat) % s.d.length:Nat):Int) ((((AA[k]!).device).toNat) % s.d.length) rfl rfl rfl a5 oM fun mg k7=>(BK (DW ((BE (s.d[(((AA[k]!).device).toNat) % s.d.length]!)).1) (by decide) BG rfl rfl a5 k7 (b9 _ k7) oM ⟨_,rfl,B8⟩ U0 fun mh hi J2 B4 eB=>(?_)))))))))))
     have a4:=a4.mv J2
     have a8:=a8.mv J2
     have a0:=a0.keep B4 (by simp only [List.mem_singleton];exact fun e=>absurd e.symm (d4 _ k7))
     have a7:=a7.keep B4 (by simp only [List.mem_singleton];exact fun e=>absurd e.symm (e5 _ k7))
     have ho0_b8834_1:=ho0_b8834_1.mv J2 B4 (fun b hb=>by simp only [List.mem_singleton];rintro rfl;exact absurd k7 (c2 _ hb))
     have ho0_b8834_2:=ho0_b8834_2.mv J2 B4 (fun b hb=>by simp only [List.mem_singleton];rintro rfl;exact absurd k7 (c3 _ hb))
     have ho0_b8834_3:=ho0_b8834_3.mv J2 B4 (fun b hb=>by simp only [List.mem_singleton];rintro rfl;exact absurd k7 (c4 _ hb))
     have a9:=a9.keep B4 (by simp only [List.mem_singleton];exact fun e=>absurd e.symm (d8 _ k7))
     have a6:=a6.keep B4 (by simp only [List.mem_singleton];exact fun e=>absurd e.symm (d7 _ k7))
     have hT:=hT.mvO J2 B4 a5 (fun b hq=>by have hq:=List.mem_singleton.1 hq;subst hq;exact k7) (by decide) (fun x hx=>by exact hx)
     refine AE (AW (AB (?_)))
     exact ⟨((⟨s.d.set ((((AA[k]!).device).toNat) % s.d.length) ((BE (s.d[(((AA[k]!).device).toNat) % s.d.length]!)).1),s.b,s.done,s.shown⟩:HouseR)),(L),b0,a1,a3,a2,(f7 :: b6),(by (rw [lv_5b (KD aS aS aS aS aS) aS];done)),hT,trivial,⟨_,AL _ ⟨rfl,rfl,rfl,trivial⟩⟩,hi,eB,b9,ho0_b8834_1,b1,ho0_b8834_2,b4,ho0_b8834_3,b3,a4,a8,a0,(by (repeat (first|assumption|apply List.mem_cons_of_mem))),a7,(by (repeat (first|assumption|apply List.mem_cons_of_mem))),a9,(by (repeat (first|assumption|apply List.mem_cons_of_mem))),a6,(by (repeat (first|assumption|apply List.mem_cons_of_mem))),d4,e5,d8,d7,nb0_b8834_1_b8834,f8,e4,e2,nb0_b8834_2_b8834,f0,f1,d9,nb0_b8834_3_b8834,f2,e7,e0,(fun b hb e=>c2 b e hb),(fun b hb e=>c3 b e hb),(fun b hb e=>c4 b e hb),c2,nn0_b8834_1_b8834_2,nn0_b8834_1_b8834_3,c3,nn0_b8834_2_b8834_1,nn0_b8834_2_b8834_3,c4,nn0_b8834_3_b8834_1,nn0_b8834_3_b8834_2⟩
    have jc:(BE (s.d[(((AA[k]!).device).toNat) % s.d.length]!)).2≠(430:Int):=by simpa using S4
    refine AT (AW (AB (?_)))
    exact ⟨(s),(L),b0,a1,a3,a2,(f7 :: b6),(by (rw [lv_5n (KD aS aS aS aS aS) aS aS];done)),hT,trivial,⟨_,AL _ ⟨rfl,rfl,rfl,trivial⟩⟩,U0,a5,b9,ho0_b8834_1,b1,ho0_b8834_2,b4,ho0_b8834_3,b3,a4,a8,a0,(by (repeat (first|assumption|apply List.mem_cons_of_mem))),a7,(by (repeat (first|assumption|apply List.mem_cons_of_mem))),a9,(by (repeat (first|assumption|apply List.mem_cons_of_mem))),a6,(by (repeat (first|assumption|apply List.mem_cons_of_mem))),d4,e5,d8,d7,nb0_b8834_1_b8834,f8,e4,e2,nb0_b8834_2_b8834,f0,f1,d9,nb0_b8834_3_b8834,f2,e7,e0,(fun b hb e=>c2 b e hb),(fun b hb e=>c3 b e hb),(fun b hb e=>c4 b e hb),c2,nn0_b8834_1_b8834_2,nn0_b8834_1_b8834_3,c3,nn0_b8834_2_b8834_1,nn0_b8834_2_b8834_3,c4,nn0_b8834_3_b8834_1,nn0_b8834_3_b8834_2⟩
   have jd:(BE (s.d[(((AA[k]!).device).toNat) % s.d.length]!)).2=(0:Int):=by simpa using ay
   refine AX rfl (AX rfl (AC (BA (vO true) rfl rfl (AE (AB (AK true rfl rfl (fun _=>AD kR (AC (AF (b0) rfl (AC (AF (vI (((((AA[k]!).device).toNat) % s.d.length:Nat):Int)) rfl (AC (AQ (vs:=[vI (((BE (s.d[(((AA[k]!).device).toNat) % s.d.length]!)).1).id),vI (((BE (s.d[(((AA[k]!).device).toNat) % s.d.length]!)).1).counter),M8,vO (((BE (s.d[(((AA[k]!).device).toNat) % s.d.length]!)).1).halted)]) U31_ rfl BG rfl ax rfl (AC (DO U24_ BG .i64 (((((AA[k]!).device).toNat) % s.d.length:Nat):Int) ((((AA[k]!).device).toNat) % s.d.length) rfl rfl rfl a5 oM fun mi k8=>(BK (DW ((BE (s.d[(((AA[k]!).device).toNat) % s.d.length]!)).1) (by decide) BG rfl rfl a5 k8 (b9 _ k8) oM ⟨_,rfl,B8⟩ U0 fun mj hj J3 B5 eC=>(?_)))))))))))) (fun h=>by cases h)))))))
   have a4:=a4.mv J3
   have a8:=a8.mv J3
   have a0:=a0.keep B5 (by simp only [List.mem_singleton];exact fun e=>absurd e.symm (d4 _ k8))
   have a7:=a7.keep B5 (by simp only [List.mem_singleton];exact fun e=>absurd e.symm (e5 _ k8))
   have ho0_b8834_1:=ho0_b8834_1.mv J3 B5 (fun b hb=>by simp only [List.mem_singleton];rintro rfl;exact absurd k8 (c2 _ hb))
   have ho0_b8834_2:=ho0_b8834_2.mv J3 B5 (fun b hb=>by simp only [List.mem_singleton];rintro rfl;exact absurd k8 (c3 _ hb))
   have ho0_b8834_3:=ho0_b8834_3.mv J3 B5 (fun b hb=>by simp only [List.mem_singleton];rintro rfl;exact absurd k8 (c4 _ hb))
   have a9:=a9.keep B5 (by simp only [List.mem_singleton];exact fun e=>absurd e.symm (d8 _ k8))
   have a6:=a6.keep B5 (by simp only [List.mem_singleton];exact fun e=>absurd e.symm (d7 _ k8))
   have hT:=hT.mvO J3 B5 a5 (fun b hq=>by have hq:=List.mem_singleton.1 hq;subst hq;exact k8) (by decide) (fun x hx=>by exact hx)
   refine AE (AW (AB (?_)))
   exact ⟨((⟨s.d.set ((((AA[k]!).device).toNat) % s.d.length) ((BE (s.d[(((AA[k]!).device).toNat) % s.d.length]!)).1),s.b,s.done,s.shown⟩:HouseR)),(L),b0,a1,a3,a2,(f7 :: b6),(by (rw [lv_5a (KD aS aS aS aS aS) aS];done)),hT,trivial,⟨_,AL _ ⟨rfl,rfl,rfl,trivial⟩⟩,hj,eC,b9,ho0_b8834_1,b1,ho0_b8834_2,b4,ho0_b8834_3,b3,a4,a8,a0,(by (repeat (first|assumption|apply List.mem_cons_of_mem))),a7,(by (repeat (first|assumption|apply List.mem_cons_of_mem))),a9,(by (repeat (first|assumption|apply List.mem_cons_of_mem))),a6,(by (repeat (first|assumption|apply List.mem_cons_of_mem))),d4,e5,d8,d7,nb0_b8834_1_b8834,f8,e4,e2,nb0_b8834_2_b8834,f0,f1,d9,nb0_b8834_3_b8834,f2,e7,e0,(fun b hb e=>c2 b e hb),(fun b hb e=>c3 b e hb),(fun b hb e=>c4 b e hb),c2,nn0_b8834_1_b8834_2,nn0_b8834_1_b8834_3,c3,nn0_b8834_2_b8834_1,nn0_b8834_2_b8834_3,c4,nn0_b8834_3_b8834_1,nn0_b8834_3_b8834_2⟩
  intro F hp hI
  clear a4 a8 a0 a7 a6
  obtain ⟨s2,L2,c8,c9,d0,d1,bo,az,aA,hr,⟨ht,rfl⟩,bp,f3,L8,f4,L9,f5,M0,f6,M1,a4,a8,a0,g2,a7,h6,M2,h7,a6,h8,n0,S5,S6,B9,n1,S7,S8,C0,n3,S9,T0,C1,n5,T1,T2,C2,w8,w9,x0,x1,x2,x3,x4,x5,x6,x7,x8,x9⟩:=hI
  have hT:=aA
  refine AG (AD kR (AC (AQ (vs:=[c8,c9,d0,d1]) U29_ rfl CL rfl M2 rfl (BK (AU (vs:=[c8,c9,d0,d1]) (.agg #[c8,c9,d0,d1]) rfl rfl rfl CL (fun u hu=>by simp only [List.mem_cons,List.not_mem_nil,or_false] at hu;rcases hu with rfl|rfl|rfl|rfl <;> first|exact f3.oneCell|exact f4.oneCell|exact f5.oneCell|exact f6.oneCell) (by repeat (assumption)) a6 oT bp fun ml hk J4 J5 eD=>(?_))))))
  have f3:=f3.mv J4 J5 (fun b hb=>AJ (B9 b hb))
  have f4:=f4.mv J4 J5 (fun b hb=>AJ (C0 b hb))
  have f5:=f5.mv J4 J5 (fun b hb=>AJ (C1 b hb))
  have f6:=f6.mv J4 J5 (fun b hb=>AJ (C2 b hb))
  have a4:=a4.mv J4
  have a0:=a0.keep J5 (AJ i2)
  have hT:=by exact hT.mvB J4 J5 aS (by decide) (fun x hx=>by exact hx)
  refine AE (AB (AS (AZ rfl (FN (vs:=[c8,c9,d0,d1]) rfl rfl U29_ rfl CL rfl eD rfl) (Exists.intro _ (And.intro rfl (BK (AU (vs:=[c8,c9,d0,d1]) (.agg #[c8,c9,d0,d1]) rfl rfl rfl CL (fun u hu=>by simp only [List.mem_cons,List.not_mem_nil,or_false] at hu;rcases hu with rfl|rfl|rfl|rfl <;> first|exact f3.oneCell|exact f4.oneCell|exact f5.oneCell|exact f6.oneCell) (by repeat (assumption)) a0 oT hk fun mm hl J6 M3 eE=>(?_))))))))
  have a4:=a4.mv J6
  have f3:=f3.mv J6 M3 (fun b hb=>AJ (n0 b hb))
  have f4:=f4.mv J6 M3 (fun b hb=>AJ (n1 b hb))
  have f5:=f5.mv J6 M3 (fun b hb=>AJ (n3 b hb))
  have f6:=f6.mv J6 M3 (fun b hb=>AJ (n5 b hb))
  have hT:=by exact hT.mvB J6 M3 aS (by decide) (fun x hx=>by exact hx)
  refine AE (AW (AB (AD kR (AC (CE .i64 ((k:Nat):Int) (1:Int) (((k+1:Nat):Int)) rfl rfl (EP oM oM) (AC (AF (vI ((k+1:Nat):Int)) rfl (AE (AB (?_))))))))))
  exact ⟨_,oM,(k+1),(s2),(L2),c8,c9,d0,d1,bo,oM,(by rw [FD,← hr0_1];exact az),hT,rfl,⟨_,AL _ ⟨rfl,rfl,rfl,(by rfl),rfl,trivial⟩⟩,hl,f3,L8,f4,L9,f5,M0,f6,M1,a4,eE,aS,n0,n1,n3,n5,w8,w9,x0,x1,x2,x3,x4,x5,x6,x7,x8,x9⟩
 have je:(AA.length:Int)≤((k:Nat):Int):=by simpa using N3
 obtain rfl:k=9:=by omega
 refine EF (CG (CG (DJ (AB (AG (AD kR (AC (AM 2 EE rfl (AC (AR U26_ rfl (a3) rfl a0 rfl (AC (JG U26_ rfl ho0_b8834_2 (AC (DC .i64 (s.done.length:Int) (2:Int) rfl rfl (AC (AF (vO ((s.done.length:Int) == (2:Int))) rfl (?_)))))))))))))))))
 have eF:((s.done.length:Int) == (2:Int))=true:=(by rw [hr0_1];decide +kernel)
 rw [eF]
 refine BH rfl (AM 3 GO rfl (BH rfl (AR U27_ rfl (a2) rfl a0 rfl (BH rfl (JG U27_ rfl ho0_b8834_3 (BH rfl (DC .i64 (s.shown.length:Int) (1:Int) rfl rfl (AC (BA (vO ((s.shown.length:Int) == (1:Int))) rfl rfl (AC (AF (vO ((s.shown.length:Int) == (1:Int))) rfl (?_))))))))))))
 have eG:((s.shown.length:Int) == (1:Int))=true:=(by rw [hr0_1];decide +kernel)
 rw [eG]
 refine BH rfl (AM 3 GO rfl (BH rfl (AR U27_ rfl (a2) rfl a0 rfl (BH rfl (BZ U27_ s_3 .i64 (0:Int) 0 rfl rfl rfl ho0_b8834_3.rd0 (by rw [hr0_1];decide +kernel) fun mn eH=>(BH rfl (BJ U3_ rfl rfl eH (BH rfl (DC .i64 (s.shown[0]!) (2:Int) rfl rfl (AC (BA (vO ((s.shown[0]!) == (2:Int))) rfl rfl (AC (AF (vO ((s.shown[0]!) == (2:Int))) rfl (?_))))))))))))))
 have eI:((s.shown[0]!) == (2:Int))=true:=(by rw [hr0_1];decide +kernel)
 rw [eI]
 refine BH rfl (AM 2 EE rfl (BH rfl (AR U26_ rfl (a3) rfl a0 rfl (BH rfl (BZ U26_ BX .i64 (1:Int) 1 rfl rfl rfl ho0_b8834_2.rd0 (by rw [hr0_1];decide +kernel) fun mo eJ=>(BH rfl (AP 0 LM ((s.done[1]!).device) rfl eJ (fun _ _ _ h=>FY h) fun mp eK=>(BH rfl (BJ U3_ rfl rfl eK (BH rfl (DC .i64 ((s.done[1]!).device) (1:Int) rfl rfl (AC (BA (vO (((s.done[1]!).device) == (1:Int))) rfl rfl (AC (AF (vO (((s.done[1]!).device) == (1:Int))) rfl (?_))))))))))))))))
 have eL:(((s.done[1]!).device) == (1:Int))=true:=(by rw [hr0_1];decide +kernel)
 rw [eL]
 refine BH rfl (AM 0 GC rfl (BH rfl (AR U24_ rfl (b2) rfl a0 rfl (BH rfl (BZ U24_ BG .i64 (0:Int) 0 rfl rfl rfl ho0_b8834_0.rdB (by rw [hr0_1];decide +kernel) fun mq eM=>(BH rfl (AP (E':=Enc.bool) 3 NI ((s.d[0]!).halted) rfl eM (fun _ _ _ h=>IQ h.1) fun mr eN=>(BH rfl (LV U4_ rfl rfl eN (AC (BA (vO ((s.d[0]!).halted)) rfl rfl (AC (AF (vO ((s.d[0]!).halted)) rfl (?_))))))))))))))
 have eO:((s.d[0]!).halted)=true:=(by rw [hr0_1];decide +kernel)
 rw [eO]
 refine BH rfl (AM 0 GC rfl (BH rfl (AR U24_ rfl (b2) rfl a0 rfl (BH rfl (BZ U24_ BG .i64 (1:Int) 1 rfl rfl rfl ho0_b8834_0.rdB (by rw [hr0_1];decide +kernel) fun ms eP=>(BH rfl (AP (E':=Enc.bool) 3 NI ((s.d[1]!).halted) rfl eP (fun _ _ _ h=>IQ h.1) fun mt eQ=>(BH rfl (LV U4_ rfl rfl eQ (BH rfl (EI ((s.d[1]!).halted) rfl (AC (BA (vO (!((s.d[1]!).halted))) rfl rfl (AC (AH (vO (!((s.d[1]!).halted))) rfl (AE (AB (AS (AZ rfl (CX rfl rfl rfl) (?_))))))))))))))))))))
 have e:true=(!((s.d[1]!).halted)):=by (rw [hr0_1];decide +kernel)
 exact ⟨_,rfl,hm.keep,(by exact congrArg vO e.symm)⟩
end Go.Proofs.Ytjpniibleelgiaa
