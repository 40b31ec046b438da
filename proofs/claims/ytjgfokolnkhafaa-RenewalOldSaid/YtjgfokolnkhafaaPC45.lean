/- What the laws of this part rest on: lemmas, and the walks of the functions. No conditions. -/
import Derived.WalkKit
import Derived.WalkSpells
import Derived.WalkLawsBesides
import Derived.RangeFuncLeaves
import Derived.Maps.AppendAt
import Derived.Deep.AppendLies
import Derived.Deep.Slices
import Derived.OpenShut
import Derived.ProofKit
import Derived.Below
import Derived.ChangeSame
import Derived.Carry
import Derived.RangeFuncRecord
import Derived.Laws.Tables
import Derived.Recover
import Derived.DefersIn
import Derived.Lib.AppendZerosOnto
import Derived.Lib.Overlaps
import Derived.Laws.CopyRow
import Derived.Laws.StructEq
import Derived.ChangeKeysEq
import Derived.OrdersIn
import Derived.Test.YtjgfokolnkhafaaRows
import Derived.Test.YtjgfokolnkhafaaPC44
set_option linter.unusedSimpArgs false
set_option linter.unusedVariables false
namespace Go.Proofs.Ytjgfokolnkhafaa
open Go.Fw Go.RowKit
set_option maxHeartbeats 4000000 in
set_option maxRecDepth 100000 in
theorem c_mixed {O:List Nat} (la_v:Value) (la:List Share) (lb_v:Value) (lb:List Share) (secret_v:Value) (secret:List UInt8) (w:World) (h_la:BG Enc.share w O la_v la) (h_lb:BG Enc.share w O lb_v lb) (h_secret:BG Enc.u8 w O secret_v secret) (hO:∀ b∈O,b<w.heap.size):CF Try.prog 18 [la_v,lb_v,secret_v] w (fun v w'=>∃ (x0:Value),v = .tuple #[x0,vI ((CA la lb secret).2)]∧BG Enc.u8 w' (O) x0 ((CA la lb secret).1)):= by
 have lim_la:=h_la.len_le
 have h_la:BG Enc.share w ([]++O) la_v la:=h_la
 have lim_lb:=h_lb.len_le
 have h_lb:BG Enc.share w ([]++O) lb_v lb:=h_lb
 have lim_secret:=h_secret.len_le
 have h_secret:BG Enc.u8 w ([]++O) secret_v secret:=h_secret
 have s0:St w O w []:=St.start hO
 refine UN 116 Try.func18 rfl rfl oT (fun F0=>?_)
 refine AG (?_)
 refine AB kR (AA (AD (nS) rfl (AA (AD (vI 0) rfl (AF (AC (?_)))))))
 refine AG (?_)
 refine AG (?_)
 refine AB kR (AA (AE (la_v) rfl (AA (BB (vs:=[la_v]) LT (LW (O:=[]++O) la_v la w h_la s0.lt) rfl s0 fun v5750 w5751 s5752 m5753 k5754 r5755=>(?_)))))
 obtain rfl:=r5755
 have h_la:=h_la.mv m5753
 have h_lb:=h_lb.mv m5753
 have h_secret:=h_secret.mv m5753
 refine AA (AD (vI (BP la)) rfl (AF (AC (?_))))
 refine AG (?_)
 refine AB kR (AA (AE (vI (BP la)) rfl (AA (CV .i64 (BP la) (0:Int) rfl rfl (AF (AC (?_)))))))
 refine AO ((BP la) != (0:Int)) rfl rfl (fun hc5756=>?_) (fun hc5756=>?_)
 ·have hp5757:BP la≠(0:Int):=by simpa using hc5756
  refine AG (?_)
  refine AB kR (AA (AE (vI (BP la)) rfl (AA (AD (nS) rfl (AA (AD (vI (BP la)) rfl (AF (AC (?_)))))))))
  refine AP (AR (OV rfl (FF rfl rfl rfl rfl) (?_)))
  have e5758:((CA la lb secret).1)=([]):=by exact congrArg (fun p=>p.1) (show CA la lb secret=_ from mixed_1 aS)
  have e5759:((CA la lb secret).2)=(BP la):=by exact congrArg (fun p=>p.2) (show CA la lb secret=_ from mixed_1 aS)
  exact ⟨_,rfl,s5752.keep,by rw [e5758,e5759];exact ⟨.slice none 0 0,rfl,BG.nil _ _ _⟩⟩
 ·have hp5760:BP la=(0:Int):=by simpa using hc5756
  have hca:BP la=0:=hp5760
  have hva:=(EN la).1 hca
  have hpa:=hva.pos
  have hepa:=hva.ep1
  have hepa0:=hva.ep0
  refine AU (AC (?_))
  refine AG (?_)
  refine AG (?_)
  refine AB kR (AA (AE (lb_v) rfl (AA (BB (vs:=[lb_v]) LT (LW (O:=[]++O) lb_v lb w5751 h_lb s5752.lt) rfl s5752 fun v5761 w5762 s5763 m5764 k5765 r5766=>(?_)))))
  obtain rfl:=r5766
  have h_la:=h_la.mv m5764
  have h_lb:=h_lb.mv m5764
  have h_secret:=h_secret.mv m5764
  refine AA (AD (vI (BP lb)) rfl (AF (AC (?_))))
  refine AG (?_)
  refine AB kR (AA (AE (vI (BP lb)) rfl (AA (CV .i64 (BP lb) (0:Int) rfl rfl (AF (AC (?_)))))))
  refine AO ((BP lb) != (0:Int)) rfl rfl (fun hc5767=>?_) (fun hc5767=>?_)
  ·have hp5768:BP lb≠(0:Int):=by simpa using hc5767
   refine AG (?_)
   refine AB kR (AA (AE (vI (BP lb)) rfl (AA (AD (nS) rfl (AA (AD (vI (BP lb)) rfl (AF (AC (?_)))))))))
   refine AP (AR (OV rfl (FF rfl rfl rfl rfl) (?_)))
   have e5769:((CA la lb secret).1)=([]):=by exact congrArg (fun p=>p.1) (show CA la lb secret=_ from mixed_2 aS aS)
   have e5770:((CA la lb secret).2)=(BP lb):=by exact congrArg (fun p=>p.2) (show CA la lb secret=_ from mixed_2 aS aS)
   exact ⟨_,rfl,s5763.keep,by rw [e5769,e5770];exact ⟨.slice none 0 0,rfl,BG.nil _ _ _⟩⟩
  ·have hp5771:BP lb=(0:Int):=by simpa using hc5767
   have hcb:BP lb=0:=hp5771
   have hvb:=(EN lb).1 hcb
   have hpb:=hvb.pos
   refine AU (AC (?_))
   refine UO (fun FI wI=>∃ (bnc34_10:Nat) (bnc34_11:Nat) (vnc34_10_4:Value) (vnc34_11_4:Value) (B:List Nat),True∧(∃ F1,FI=FT F1 [(0,la_v),(1,lb_v),(2,secret_v),(10,vP (some ⟨bnc34_10,0,none⟩)),(11,vP (some ⟨bnc34_11,0,none⟩)),(116,undef)])∧St w O wI B∧BG Enc.share wI (B++O) (la_v) (la)∧BG Enc.share wI (B++O) (lb_v) (lb)∧BG Enc.u8 wI (B++O) (secret_v) (secret)∧GQ wI bnc34_10 70 [vI (la[0]!.epoch),vI (la[0]!.index),vI (la[0]!.threshold),vI (la[0]!.many),vnc34_10_4]∧BG Enc.u8 wI (B++O) vnc34_10_4 (la[0]!.data)∧bnc34_10∈B∧GQ wI bnc34_11 70 [vI (lb[0]!.epoch),vI (lb[0]!.index),vI (lb[0]!.threshold),vI (lb[0]!.many),vnc34_11_4]∧BG Enc.u8 wI (B++O) vnc34_11_4 (lb[0]!.data)∧bnc34_11∈B∧FH bnc34_10 bnc34_11) ?_ ?_
   ·refine WA 8 [3,4,5] _ _ _ [fun _=>fun (vT:Value) (_:World)=>BG Enc.share w5762 ([]++O) vT (la),fun _=>fun (vT:Value) (_:World)=>∃ aT,vT = .pointer (some aT)∧PT Enc.share w5762 ([]++O) (.pointer (some aT)) (la[0]!),fun _=>fun (vT:Value) (_:World)=>∃ csT:List Value,vT = .agg csT.toArray∧Enc.share.rd w5762 ([]++O) csT (la[0]!),fun _=>fun (vT:Value) (_:World)=>BG Enc.share w5762 ([]++O) vT (lb),fun _=>fun (vT:Value) (_:World)=>∃ aT,vT = .pointer (some aT)∧PT Enc.share w5762 ([]++O) (.pointer (some aT)) (lb[0]!),fun _=>fun (vT:Value) (_:World)=>∃ csT:List Value,vT = .agg csT.toArray∧Enc.share.rd w5762 ([]++O) csT (lb[0]!),SD w5762 70 [vI 0,vI 0,vI 0,vI 0,nS],SD w5762 70 [vI 0,vI 0,vI 0,vI 0,nS]] [⟨0,[],[],[],false,[]⟩,⟨0,[],[],[],false,[0]⟩,⟨0,[],[],[],false,[1]⟩,⟨0,[],[],[],false,[]⟩,⟨0,[],[],[],false,[3]⟩,⟨0,[],[],[],false,[4]⟩,⟨1,[],[],[],false,[]⟩,⟨2,[],[],[],false,[]⟩] ([]) kR kR kR kR kR (by decide) rfl rfl rfl ⟨fun _ _ _ _ _ h=>h,fun _ _ _ _ _ h=>h,fun _ _ _ _ _ h=>h,fun _ _ _ _ _ h=>h,fun _ _ _ _ _ h=>h,fun _ _ _ _ _ h=>h,SD.st,SD.st,trivial⟩ ⟨?_,?_,?_,?_,?_,?_,?_,?_,trivial⟩ ?_ ?_
    ·intro F1 w1 B1_ Bs_ k1 hs_ hl_ hr_ hsep_ hf hd
     obtain ⟨F2,rfl⟩:=AL (F:=F1) [(0,la_v)] ⟨hf 0 kR,trivial⟩
     exact AH rfl ((AE (la_v) rfl (⟨[],(Keep.refl _ _),OB,h_la⟩)))
    ·intro F1 w1 B1_ Bs_ k1 hs_ hl_ hr_ hsep_ hf hd
     obtain ⟨v5772,e5774,hl5773⟩:∃ v,F1 28=v∧BG Enc.share w5762 ([]++O) v (la):=⟨_,rfl,hd 0 28 kR kR⟩
     have:=hl5773.len_le
     obtain ⟨F2,rfl⟩:=AL (F:=F1) [(28,v5772)] ⟨e5774,trivial⟩
     exact AH rfl ((o_idxU U32_ DM .i64 (0:Int) 0 rfl rfl rfl hl5773 oM fun a5775 hp5776=>(⟨[],(Keep.refl _ _),OB,⟨a5775,rfl,hp5776⟩⟩)))
    ·intro F1 w1 B1_ Bs_ k1 hs_ hl_ hr_ hsep_ hf hd
     have k0:=(Keep.drew [] w5762).trans k1
     obtain ⟨a5777,e5779,hp5778⟩:∃ aX_,F1 29 = .pointer (some aX_)∧PT Enc.share w5762 ([]++O) (.pointer (some aX_)) (la[0]!):=hd 1 29 kR kR
     obtain ⟨F2,rfl⟩:=AL (F:=F1) [(29,vP (some a5777))] ⟨e5779,trivial⟩
     exact AH rfl ((o_loadSU U70_ rfl DM rfl hp5778 k0 fun cs5780 hs5781=>(⟨[],(Keep.refl _ _),OB,⟨cs5780,rfl,hs5781⟩⟩)))
    ·intro F1 w1 B1_ Bs_ k1 hs_ hl_ hr_ hsep_ hf hd
     obtain ⟨F2,rfl⟩:=AL (F:=F1) [(1,lb_v)] ⟨hf 1 kR,trivial⟩
     exact AH rfl ((AE (lb_v) rfl (⟨[],(Keep.refl _ _),OB,h_lb⟩)))
    ·intro F1 w1 B1_ Bs_ k1 hs_ hl_ hr_ hsep_ hf hd
     obtain ⟨v5782,e5784,hl5783⟩:∃ v,F1 31=v∧BG Enc.share w5762 ([]++O) v (lb):=⟨_,rfl,hd 3 31 kR kR⟩
     have:=hl5783.len_le
     obtain ⟨F2,rfl⟩:=AL (F:=F1) [(31,v5782)] ⟨e5784,trivial⟩
     exact AH rfl ((o_idxU U32_ DM .i64 (0:Int) 0 rfl rfl rfl hl5783 oM fun a5785 hp5786=>(⟨[],(Keep.refl _ _),OB,⟨a5785,rfl,hp5786⟩⟩)))
    ·intro F1 w1 B1_ Bs_ k1 hs_ hl_ hr_ hsep_ hf hd
     have k0:=(Keep.drew [] w5762).trans k1
     obtain ⟨a5787,e5789,hp5788⟩:∃ aX_,F1 32 = .pointer (some aX_)∧PT Enc.share w5762 ([]++O) (.pointer (some aX_)) (lb[0]!):=hd 4 32 kR kR
     obtain ⟨F2,rfl⟩:=AL (F:=F1) [(32,vP (some a5787))] ⟨e5789,trivial⟩
     exact AH rfl ((o_loadSU U70_ rfl DM rfl hp5788 k0 fun cs5790 hs5791=>(⟨[],(Keep.refl _ _),OB,⟨cs5790,rfl,hs5791⟩⟩)))
    ·intro F1 w1 B1_ Bs_ k1 hs_ hl_ hr_ hsep_ hf hd
     have k0:=(Keep.drew [] w5762).trans k1
     have s1:=s5763.adoptL k0 hl_
     obtain ⟨F2,rfl⟩:=AL (F:=F1) [] trivial
     refine AH rfl ((CX [vI 0,vI 0,vI 0,vI 0,nS] MT rfl s1 fun b5792 w5793 e5798 s5794 m5795 k5796 bx5797=>(?_)))
     have lo5799:w5762.heap.size≤b5792:=by have:=k0.size;omega
     exact ⟨[],k5796,OB,⟨_,rfl,lo5799,(by intro h;have:=lt_of s1 _ h;omega),bx5797⟩⟩
    ·intro F1 w1 B1_ Bs_ k1 hs_ hl_ hr_ hsep_ hf hd
     have k0:=(Keep.drew [] w5762).trans k1
     have s1:=s5763.adoptL k0 hl_
     obtain ⟨F2,rfl⟩:=AL (F:=F1) [] trivial
     refine AH rfl ((CX [vI 0,vI 0,vI 0,vI 0,nS] MT rfl s1 fun b5800 w5801 e5806 s5802 m5803 k5804 bx5805=>(?_)))
     have lo5807:w5762.heap.size≤b5800:=by have:=k0.size;omega
     exact ⟨[],k5804,OB,⟨_,rfl,lo5807,(by intro h;have:=lt_of s1 _ h;omega),bx5805⟩⟩
    ·intro F5809 w5810 Bs5815 k5808 hB5816 hl5817 sep5818 hT5811 hF5812
     obtain ⟨b5819,e5823,lo5820,hn5821,bx5824⟩:(SD w5762 70 [vI 0,vI 0,vI 0,vI 0,nS]) (Bs5815 1) (F5809 10) w5810:=hT5811 6 10 kR (by decide) kR kR
     have hi5822:=bx5824.lt
     obtain ⟨b5825,e5829,lo5826,hn5827,bx5830⟩:(SD w5762 70 [vI 0,vI 0,vI 0,vI 0,nS]) (Bs5815 2) (F5809 11) w5810:=hT5811 7 11 kR (by decide) kR kR
     have hi5828:=bx5830.lt
     have hl5831:∀ x∈([]:List Nat),x∈([]:List Nat)∨(w5762.heap.size≤x∧x<w5810.heap.size):=fun x hx=>.inl hx
     have hsu5832:∀ x∈([]:List Nat),x∈([]:List Nat):=fun x hx=>hx
     have hq5833:∀ x∈([]:List Nat),x∈Bs5815 1:=fun x hx=>hB5816 1 x hx
     have hq5834:∀ x∈([]:List Nat),x∈Bs5815 2:=fun x hx=>hB5816 2 x hx
     have hl5835:∀ x∈(b5819 :: ([]:List Nat)),x∈([]:List Nat)∨(w5762.heap.size≤x∧x<w5810.heap.size):=fun x hx=>by rcases List.mem_cons.1 hx with rfl|hx;exact .inr ⟨lo5820,hi5822⟩;exact hl5831 x hx
     have hsu5836:∀ x∈([]:List Nat),x∈(b5819 :: ([]:List Nat)):=fun x hx=>List.mem_cons_of_mem _ (hsu5832 x hx)
     have hl5837:∀ x∈(b5825 :: (b5819 :: ([]:List Nat))),x∈([]:List Nat)∨(w5762.heap.size≤x∧x<w5810.heap.size):=fun x hx=>by rcases List.mem_cons.1 hx with rfl|hx;exact .inr ⟨lo5826,hi5828⟩;exact hl5835 x hx
     have hsu5838:∀ x∈([]:List Nat),x∈(b5825 :: (b5819 :: ([]:List Nat))):=fun x hx=>List.mem_cons_of_mem _ (hsu5836 x hx)
     have s5813:=s5763.adoptL k5808 hl5837
     have m5814:Mv ([]) w5762 (b5825 :: (b5819 :: ([]:List Nat))) w5810:=Mv.adoptL k5808 hl5837
     have ne5839:FH b5819 b5825:=fun e=>hn5827 (e ▸ sep5818 1 2 b5819 (by decide) lo5820 hi5822 hn5821)
     obtain ⟨cs5840,e5842,hs5841⟩:∃ cs:List Value,F5809 30 = .agg cs.toArray∧Enc.share.rd w5762 ([]++O) cs (la[0]!):=hT5811 2 30 kR (by decide) kR kR
     obtain ⟨cs5843,e5845,hs5844⟩:∃ cs:List Value,F5809 33 = .agg cs.toArray∧Enc.share.rd w5762 ([]++O) cs (lb[0]!):=hT5811 5 33 kR (by decide) kR kR
     have h_la:=h_la.mv m5814
     have h_lb:=h_lb.mv m5814
     have h_secret:=h_secret.mv m5814
     have hs5841:Enc.share.rd w5810 ((b5825 :: (b5819 :: ([]:List Nat)))++O) cs5840 (la[0]!):=Enc.mv Enc.share (x:=la[0]!) hs5841 m5814
     have hs5844:Enc.share.rd w5810 ((b5825 :: (b5819 :: ([]:List Nat)))++O) cs5843 (lb[0]!):=Enc.mv Enc.share (x:=lb[0]!) hs5844 m5814
     obtain ⟨F2,rfl⟩:=AL (F:=F5809) [(0,la_v),(1,lb_v),(2,secret_v),(116,undef),(10,vP (some ⟨b5819,0,none⟩)),(11,vP (some ⟨b5825,0,none⟩)),(30,vA cs5840.toArray),(33,vA cs5843.toArray)] ⟨hF5812 0 kR,hF5812 1 kR,hF5812 2 kR,hF5812 116 kR,e5823,e5829,e5842,e5845,trivial⟩
     clear hT5811 hF5812 hB5816 hl5817 sep5818
     obtain ⟨d5851,rfl,hd5852⟩:=hs5841
     have:=hd5852.len_le
     refine BY (BC (vs:=[vI ((la[0]!).epoch),vI ((la[0]!).index),vI ((la[0]!).threshold),vI ((la[0]!).many),d5851]) (.agg #[vI ((la[0]!).epoch),vI ((la[0]!).index),vI ((la[0]!).threshold),vI ((la[0]!).many),d5851]) rfl rfl rfl DM (fun u hu=>by simp only [List.mem_cons,List.not_mem_nil,or_false] at hu;rcases hu with rfl|rfl|rfl|rfl|rfl <;> first|rfl|exact hd5852.oneCell) (by repeat (constructor)) bx5824 oT s5813 fun w5846 s5847 m5848 k5849 bx5850=>(?_))
     have h_la:=h_la.mv m5848
     have h_lb:=h_lb.mv m5848
     have h_secret:=h_secret.mv m5848
     have hd5852:=hd5852.mv m5848
     have hs5844:Enc.share.rd w5846 ((b5825 :: (b5819 :: ([]:List Nat)))++O) cs5843 (lb[0]!):=Enc.mv Enc.share (x:=lb[0]!) hs5844 m5848
     have bx5830:=bx5830.keep k5849 (BH (Ne.symm ne5839))
     obtain ⟨d5858,rfl,hd5859⟩:=hs5844
     have:=hd5859.len_le
     refine BY (BC (vs:=[vI ((lb[0]!).epoch),vI ((lb[0]!).index),vI ((lb[0]!).threshold),vI ((lb[0]!).many),d5858]) (.agg #[vI ((lb[0]!).epoch),vI ((lb[0]!).index),vI ((lb[0]!).threshold),vI ((lb[0]!).many),d5858]) rfl rfl rfl DM (fun u hu=>by simp only [List.mem_cons,List.not_mem_nil,or_false] at hu;rcases hu with rfl|rfl|rfl|rfl|rfl <;> first|rfl|exact hd5859.oneCell) (by repeat (constructor)) bx5830 oT s5847 fun w5853 s5854 m5855 k5856 bx5857=>(?_))
     have h_la:=h_la.mv m5855
     have h_lb:=h_lb.mv m5855
     have h_secret:=h_secret.mv m5855
     have hd5852:=hd5852.mv m5855
     have hd5859:=hd5859.mv m5855
     have bx5850:=bx5850.keep k5856 (BH ne5839)
     refine AF (AC (?_))
     exact ⟨b5819,b5825,d5851,d5858,(b5825 :: (b5819 :: ([]:List Nat))),trivial,⟨_,AX _ ⟨rfl,rfl,rfl,rfl,rfl,rfl,trivial⟩⟩,s5854,h_la,h_lb,h_secret,(by rw [show ([vI (la[0]!.epoch),vI (la[0]!.index),vI (la[0]!.threshold),vI (la[0]!.many),d5851]:List Value)=[vI ((la[0]!).epoch),vI ((la[0]!).index),vI ((la[0]!).threshold),vI ((la[0]!).many),d5851] from by rfl];exact bx5850),(by rw [show la[0]!.data=(la[0]!).data from by rfl];exact hd5852),(by repeat (constructor)),(by rw [show ([vI (lb[0]!.epoch),vI (lb[0]!.index),vI (lb[0]!.threshold),vI (lb[0]!.many),d5858]:List Value)=[vI ((lb[0]!).epoch),vI ((lb[0]!).index),vI ((lb[0]!).threshold),vI ((lb[0]!).many),d5858] from by rfl];exact bx5857),(by rw [show lb[0]!.data=(lb[0]!).data from by rfl];exact hd5859),(by repeat (constructor)),ne5839⟩
    ·intro cx_ hcx_
     match cx_,hcx_ with
     | 0,_=>
      intro F5861 w5862 Bs5867 k5860 hB5868 hl5869 sep5870 hT5863 hF5864
      obtain ⟨b5871,e5875,lo5872,hn5873,bx5876⟩:(SD w5762 70 [vI 0,vI 0,vI 0,vI 0,nS]) (Bs5867 1) (F5861 10) w5862:=hT5863 6 10 kR (by decide) kR kR
      have hi5874:=bx5876.lt
      obtain ⟨b5877,e5881,lo5878,hn5879,bx5882⟩:(SD w5762 70 [vI 0,vI 0,vI 0,vI 0,nS]) (Bs5867 2) (F5861 11) w5862:=hT5863 7 11 kR (by decide) kR kR
      have hi5880:=bx5882.lt
      have hl5883:∀ x∈([]:List Nat),x∈([]:List Nat)∨(w5762.heap.size≤x∧x<w5862.heap.size):=fun x hx=>.inl hx
      have hsu5884:∀ x∈([]:List Nat),x∈([]:List Nat):=fun x hx=>hx
      have hq5885:∀ x∈([]:List Nat),x∈Bs5867 1:=fun x hx=>hB5868 1 x hx
      have hq5886:∀ x∈([]:List Nat),x∈Bs5867 2:=fun x hx=>hB5868 2 x hx
      have hl5887:∀ x∈(b5871 :: ([]:List Nat)),x∈([]:List Nat)∨(w5762.heap.size≤x∧x<w5862.heap.size):=fun x hx=>by rcases List.mem_cons.1 hx with rfl|hx;exact .inr ⟨lo5872,hi5874⟩;exact hl5883 x hx
      have hsu5888:∀ x∈([]:List Nat),x∈(b5871 :: ([]:List Nat)):=fun x hx=>List.mem_cons_of_mem _ (hsu5884 x hx)
      have hl5889:∀ x∈(b5877 :: (b5871 :: ([]:List Nat))),x∈([]:List Nat)∨(w5762.heap.size≤x∧x<w5862.heap.size):=fun x hx=>by rcases List.mem_cons.1 hx with rfl|hx;exact .inr ⟨lo5878,hi5880⟩;exact hl5887 x hx
      have hsu5890:∀ x∈([]:List Nat),x∈(b5877 :: (b5871 :: ([]:List Nat))):=fun x hx=>List.mem_cons_of_mem _ (hsu5888 x hx)
      have s5865:=s5763.adoptL k5860 hl5889
      have m5866:Mv ([]) w5762 (b5877 :: (b5871 :: ([]:List Nat))) w5862:=Mv.adoptL k5860 hl5889
      have ne5891:FH b5871 b5877:=fun e=>hn5879 (e ▸ sep5870 1 2 b5871 (by decide) lo5872 hi5874 hn5873)
      obtain ⟨cs5892,e5894,hs5893⟩:∃ cs:List Value,F5861 30 = .agg cs.toArray∧Enc.share.rd w5762 ([]++O) cs (la[0]!):=hT5863 2 30 kR (by decide) kR kR
      have h_la:=h_la.mv m5866
      have h_lb:=h_lb.mv m5866
      have h_secret:=h_secret.mv m5866
      have hs5893:Enc.share.rd w5862 ((b5877 :: (b5871 :: ([]:List Nat)))++O) cs5892 (la[0]!):=Enc.mv Enc.share (x:=la[0]!) hs5893 m5866
      obtain ⟨F2,rfl⟩:=AL (F:=F5861) [(0,la_v),(1,lb_v),(2,secret_v),(116,undef),(10,vP (some ⟨b5871,0,none⟩)),(11,vP (some ⟨b5877,0,none⟩)),(30,vA cs5892.toArray)] ⟨hF5864 0 kR,hF5864 1 kR,hF5864 2 kR,hF5864 116 kR,e5875,e5881,e5894,trivial⟩
      clear hT5863 hF5864 hB5868 hl5869 sep5870
      obtain ⟨d5900,rfl,hd5901⟩:=hs5893
      have:=hd5901.len_le
      refine BY (BC (vs:=[vI ((la[0]!).epoch),vI ((la[0]!).index),vI ((la[0]!).threshold),vI ((la[0]!).many),d5900]) (.agg #[vI ((la[0]!).epoch),vI ((la[0]!).index),vI ((la[0]!).threshold),vI ((la[0]!).many),d5900]) rfl rfl rfl DM (fun u hu=>by simp only [List.mem_cons,List.not_mem_nil,or_false] at hu;rcases hu with rfl|rfl|rfl|rfl|rfl <;> first|rfl|exact hd5901.oneCell) (by repeat (constructor)) bx5876 oT s5865 fun w5895 s5896 m5897 k5898 bx5899=>(?_))
      have h_la:=h_la.mv m5897
      have h_lb:=h_lb.mv m5897
      have h_secret:=h_secret.mv m5897
      have hd5901:=hd5901.mv m5897
      have bx5882:=bx5882.keep k5898 (BH (Ne.symm ne5891))
      refine AA (AE (lb_v) rfl (AA (DI U32_ DM .i64 (0:Int) 0 rfl rfl rfl h_lb oM fun a5902 hp5903=>(AA (CR U70_ rfl DM rfl hp5903 fun cs5904 hs5905=>(?_))))))
      obtain ⟨d5911,rfl,hd5912⟩:=hs5905
      have:=hd5912.len_le
      refine BY (BC (vs:=[vI ((lb[0]!).epoch),vI ((lb[0]!).index),vI ((lb[0]!).threshold),vI ((lb[0]!).many),d5911]) (.agg #[vI ((lb[0]!).epoch),vI ((lb[0]!).index),vI ((lb[0]!).threshold),vI ((lb[0]!).many),d5911]) rfl rfl rfl DM (fun u hu=>by simp only [List.mem_cons,List.not_mem_nil,or_false] at hu;rcases hu with rfl|rfl|rfl|rfl|rfl <;> first|rfl|exact hd5912.oneCell) (by repeat (constructor)) bx5882 oT s5896 fun w5906 s5907 m5908 k5909 bx5910=>(?_))
      have h_la:=h_la.mv m5908
      have h_lb:=h_lb.mv m5908
      have h_secret:=h_secret.mv m5908
      have hd5901:=hd5901.mv m5908
      have hd5912:=hd5912.mv m5908
      have bx5899:=bx5899.keep k5909 (BH ne5891)
      refine AF (AC (?_))
      exact ⟨b5871,b5877,d5900,d5911,(b5877 :: (b5871 :: ([]:List Nat))),trivial,⟨_,AX _ ⟨rfl,rfl,rfl,rfl,rfl,rfl,trivial⟩⟩,s5907,h_la,h_lb,h_secret,(by rw [show ([vI (la[0]!.epoch),vI (la[0]!.index),vI (la[0]!.threshold),vI (la[0]!.many),d5900]:List Value)=[vI ((la[0]!).epoch),vI ((la[0]!).index),vI ((la[0]!).threshold),vI ((la[0]!).many),d5900] from by rfl];exact bx5899),(by rw [show la[0]!.data=(la[0]!).data from by rfl];exact hd5901),(by repeat (constructor)),(by rw [show ([vI (lb[0]!.epoch),vI (lb[0]!.index),vI (lb[0]!.threshold),vI (lb[0]!.many),d5911]:List Value)=[vI ((lb[0]!).epoch),vI ((lb[0]!).index),vI ((lb[0]!).threshold),vI ((lb[0]!).many),d5911] from by rfl];exact bx5910),(by rw [show lb[0]!.data=(lb[0]!).data from by rfl];exact hd5912),(by repeat (constructor)),ne5891⟩
     | 1,_=>
      intro F5914 w5915 Bs5920 k5913 hB5921 hl5922 sep5923 hT5916 hF5917
      obtain ⟨b5924,e5928,lo5925,hn5926,bx5929⟩:(SD w5762 70 [vI 0,vI 0,vI 0,vI 0,nS]) (Bs5920 1) (F5914 10) w5915:=hT5916 6 10 kR (by decide) kR kR
      have hi5927:=bx5929.lt
      obtain ⟨b5930,e5934,lo5931,hn5932,bx5935⟩:(SD w5762 70 [vI 0,vI 0,vI 0,vI 0,nS]) (Bs5920 2) (F5914 11) w5915:=hT5916 7 11 kR (by decide) kR kR
      have hi5933:=bx5935.lt
      have hl5936:∀ x∈([]:List Nat),x∈([]:List Nat)∨(w5762.heap.size≤x∧x<w5915.heap.size):=fun x hx=>.inl hx
      have hsu5937:∀ x∈([]:List Nat),x∈([]:List Nat):=fun x hx=>hx
      have hq5938:∀ x∈([]:List Nat),x∈Bs5920 1:=fun x hx=>hB5921 1 x hx
      have hq5939:∀ x∈([]:List Nat),x∈Bs5920 2:=fun x hx=>hB5921 2 x hx
      have hl5940:∀ x∈(b5924 :: ([]:List Nat)),x∈([]:List Nat)∨(w5762.heap.size≤x∧x<w5915.heap.size):=fun x hx=>by rcases List.mem_cons.1 hx with rfl|hx;exact .inr ⟨lo5925,hi5927⟩;exact hl5936 x hx
      have hsu5941:∀ x∈([]:List Nat),x∈(b5924 :: ([]:List Nat)):=fun x hx=>List.mem_cons_of_mem _ (hsu5937 x hx)
      have hl5942:∀ x∈(b5930 :: (b5924 :: ([]:List Nat))),x∈([]:List Nat)∨(w5762.heap.size≤x∧x<w5915.heap.size):=fun x hx=>by rcases List.mem_cons.1 hx with rfl|hx;exact .inr ⟨lo5931,hi5933⟩;exact hl5940 x hx
      have hsu5943:∀ x∈([]:List Nat),x∈(b5930 :: (b5924 :: ([]:List Nat))):=fun x hx=>List.mem_cons_of_mem _ (hsu5941 x hx)
      have s5918:=s5763.adoptL k5913 hl5942
      have m5919:Mv ([]) w5762 (b5930 :: (b5924 :: ([]:List Nat))) w5915:=Mv.adoptL k5913 hl5942
      have ne5944:FH b5924 b5930:=fun e=>hn5932 (e ▸ sep5923 1 2 b5924 (by decide) lo5925 hi5927 hn5926)
      obtain ⟨cs5945,e5947,hs5946⟩:∃ cs:List Value,F5914 30 = .agg cs.toArray∧Enc.share.rd w5762 ([]++O) cs (la[0]!):=hT5916 2 30 kR (by decide) kR kR
      obtain ⟨v5948,e5950,hl5949⟩:∃ v,F5914 31=v∧BG Enc.share w5762 ([]++O) v (lb):=⟨_,rfl,hT5916 3 31 kR (by decide) kR kR⟩
      have:=hl5949.len_le
      have h_la:=h_la.mv m5919
      have h_lb:=h_lb.mv m5919
      have h_secret:=h_secret.mv m5919
      have hs5946:Enc.share.rd w5915 ((b5930 :: (b5924 :: ([]:List Nat)))++O) cs5945 (la[0]!):=Enc.mv Enc.share (x:=la[0]!) hs5946 m5919
      have hl5949:=hl5949.mv m5919
      obtain ⟨F2,rfl⟩:=AL (F:=F5914) [(0,la_v),(1,lb_v),(2,secret_v),(116,undef),(10,vP (some ⟨b5924,0,none⟩)),(11,vP (some ⟨b5930,0,none⟩)),(30,vA cs5945.toArray),(31,v5948)] ⟨hF5917 0 kR,hF5917 1 kR,hF5917 2 kR,hF5917 116 kR,e5928,e5934,e5947,e5950,trivial⟩
      clear hT5916 hF5917 hB5921 hl5922 sep5923
      obtain ⟨d5956,rfl,hd5957⟩:=hs5946
      have:=hd5957.len_le
      refine BY (BC (vs:=[vI ((la[0]!).epoch),vI ((la[0]!).index),vI ((la[0]!).threshold),vI ((la[0]!).many),d5956]) (.agg #[vI ((la[0]!).epoch),vI ((la[0]!).index),vI ((la[0]!).threshold),vI ((la[0]!).many),d5956]) rfl rfl rfl DM (fun u hu=>by simp only [List.mem_cons,List.not_mem_nil,or_false] at hu;rcases hu with rfl|rfl|rfl|rfl|rfl <;> first|rfl|exact hd5957.oneCell) (by repeat (constructor)) bx5929 oT s5918 fun w5951 s5952 m5953 k5954 bx5955=>(?_))
      have h_la:=h_la.mv m5953
      have h_lb:=h_lb.mv m5953
      have h_secret:=h_secret.mv m5953
      have hd5957:=hd5957.mv m5953
      have hl5949:=hl5949.mv m5953
      have bx5935:=bx5935.keep k5954 (BH (Ne.symm ne5944))
      refine AA (DI U32_ DM .i64 (0:Int) 0 rfl rfl rfl hl5949 oM fun a5958 hp5959=>(AA (CR U70_ rfl DM rfl hp5959 fun cs5960 hs5961=>(?_))))
      obtain ⟨d5967,rfl,hd5968⟩:=hs5961
      have:=hd5968.len_le
      refine BY (BC (vs:=[vI ((lb[0]!).epoch),vI ((lb[0]!).index),vI ((lb[0]!).threshold),vI ((lb[0]!).many),d5967]) (.agg #[vI ((lb[0]!).epoch),vI ((lb[0]!).index),vI ((lb[0]!).threshold),vI ((lb[0]!).many),d5967]) rfl rfl rfl DM (fun u hu=>by simp only [List.mem_cons,List.not_mem_nil,or_false] at hu;rcases hu with rfl|rfl|rfl|rfl|rfl <;> first|rfl|exact hd5968.oneCell) (by repeat (constructor)) bx5935 oT s5952 fun w5962 s5963 m5964 k5965 bx5966=>(?_))
      have h_la:=h_la.mv m5964
      have h_lb:=h_lb.mv m5964
      have h_secret:=h_secret.mv m5964
      have hd5957:=hd5957.mv m5964
      have hd5968:=hd5968.mv m5964
      have bx5955:=bx5955.keep k5965 (BH ne5944)
      refine AF (AC (?_))
      exact ⟨b5924,b5930,d5956,d5967,(b5930 :: (b5924 :: ([]:List Nat))),trivial,⟨_,AX _ ⟨rfl,rfl,rfl,rfl,rfl,rfl,trivial⟩⟩,s5963,h_la,h_lb,h_secret,(by rw [show ([vI (la[0]!.epoch),vI (la[0]!.index),vI (la[0]!.threshold),vI (la[0]!.many),d5956]:List Value)=[vI ((la[0]!).epoch),vI ((la[0]!).index),vI ((la[0]!).threshold),vI ((la[0]!).many),d5956] from by rfl];exact bx5955),(by rw [show la[0]!.data=(la[0]!).data from by rfl];exact hd5957),(by repeat (constructor)),(by rw [show ([vI (lb[0]!.epoch),vI (lb[0]!.index),vI (lb[0]!.threshold),vI (lb[0]!.many),d5967]:List Value)=[vI ((lb[0]!).epoch),vI ((lb[0]!).index),vI ((lb[0]!).threshold),vI ((lb[0]!).many),d5967] from by rfl];exact bx5966),(by rw [show lb[0]!.data=(lb[0]!).data from by rfl];exact hd5968),(by repeat (constructor)),ne5944⟩
     | 2,_=>
      intro F5970 w5971 Bs5976 k5969 hB5977 hl5978 sep5979 hT5972 hF5973
      obtain ⟨b5980,e5984,lo5981,hn5982,bx5985⟩:(SD w5762 70 [vI 0,vI 0,vI 0,vI 0,nS]) (Bs5976 1) (F5970 10) w5971:=hT5972 6 10 kR (by decide) kR kR
      have hi5983:=bx5985.lt
      obtain ⟨b5986,e5990,lo5987,hn5988,bx5991⟩:(SD w5762 70 [vI 0,vI 0,vI 0,vI 0,nS]) (Bs5976 2) (F5970 11) w5971:=hT5972 7 11 kR (by decide) kR kR
      have hi5989:=bx5991.lt
      have hl5992:∀ x∈([]:List Nat),x∈([]:List Nat)∨(w5762.heap.size≤x∧x<w5971.heap.size):=fun x hx=>.inl hx
      have hsu5993:∀ x∈([]:List Nat),x∈([]:List Nat):=fun x hx=>hx
      have hq5994:∀ x∈([]:List Nat),x∈Bs5976 1:=fun x hx=>hB5977 1 x hx
      have hq5995:∀ x∈([]:List Nat),x∈Bs5976 2:=fun x hx=>hB5977 2 x hx
      have hl5996:∀ x∈(b5980 :: ([]:List Nat)),x∈([]:List Nat)∨(w5762.heap.size≤x∧x<w5971.heap.size):=fun x hx=>by rcases List.mem_cons.1 hx with rfl|hx;exact .inr ⟨lo5981,hi5983⟩;exact hl5992 x hx
      have hsu5997:∀ x∈([]:List Nat),x∈(b5980 :: ([]:List Nat)):=fun x hx=>List.mem_cons_of_mem _ (hsu5993 x hx)
      have hl5998:∀ x∈(b5986 :: (b5980 :: ([]:List Nat))),x∈([]:List Nat)∨(w5762.heap.size≤x∧x<w5971.heap.size):=fun x hx=>by rcases List.mem_cons.1 hx with rfl|hx;exact .inr ⟨lo5987,hi5989⟩;exact hl5996 x hx
      have hsu5999:∀ x∈([]:List Nat),x∈(b5986 :: (b5980 :: ([]:List Nat))):=fun x hx=>List.mem_cons_of_mem _ (hsu5997 x hx)
      have s5974:=s5763.adoptL k5969 hl5998
      have m5975:Mv ([]) w5762 (b5986 :: (b5980 :: ([]:List Nat))) w5971:=Mv.adoptL k5969 hl5998
      have ne6000:FH b5980 b5986:=fun e=>hn5988 (e ▸ sep5979 1 2 b5980 (by decide) lo5981 hi5983 hn5982)
      obtain ⟨cs6001,e6003,hs6002⟩:∃ cs:List Value,F5970 30 = .agg cs.toArray∧Enc.share.rd w5762 ([]++O) cs (la[0]!):=hT5972 2 30 kR (by decide) kR kR
      obtain ⟨a6004,e6006,hp6005⟩:∃ aX_,F5970 32 = .pointer (some aX_)∧PT Enc.share w5762 ([]++O) (.pointer (some aX_)) (lb[0]!):=hT5972 4 32 kR (by decide) kR kR
      have h_la:=h_la.mv m5975
      have h_lb:=h_lb.mv m5975
      have h_secret:=h_secret.mv m5975
      have hs6002:Enc.share.rd w5971 ((b5986 :: (b5980 :: ([]:List Nat)))++O) cs6001 (la[0]!):=Enc.mv Enc.share (x:=la[0]!) hs6002 m5975
      have hp6005:=hp6005.mv m5975
      obtain ⟨F2,rfl⟩:=AL (F:=F5970) [(0,la_v),(1,lb_v),(2,secret_v),(116,undef),(10,vP (some ⟨b5980,0,none⟩)),(11,vP (some ⟨b5986,0,none⟩)),(30,vA cs6001.toArray),(32,vP (some a6004))] ⟨hF5973 0 kR,hF5973 1 kR,hF5973 2 kR,hF5973 116 kR,e5984,e5990,e6003,e6006,trivial⟩
      clear hT5972 hF5973 hB5977 hl5978 sep5979
      obtain ⟨d6012,rfl,hd6013⟩:=hs6002
      have:=hd6013.len_le
      refine BY (BC (vs:=[vI ((la[0]!).epoch),vI ((la[0]!).index),vI ((la[0]!).threshold),vI ((la[0]!).many),d6012]) (.agg #[vI ((la[0]!).epoch),vI ((la[0]!).index),vI ((la[0]!).threshold),vI ((la[0]!).many),d6012]) rfl rfl rfl DM (fun u hu=>by simp only [List.mem_cons,List.not_mem_nil,or_false] at hu;rcases hu with rfl|rfl|rfl|rfl|rfl <;> first|rfl|exact hd6013.oneCell) (by repeat (constructor)) bx5985 oT s5974 fun w6007 s6008 m6009 k6010 bx6011=>(?_))
      have h_la:=h_la.mv m6009
      have h_lb:=h_lb.mv m6009
      have h_secret:=h_secret.mv m6009
      have hd6013:=hd6013.mv m6009
      have hp6005:=hp6005.mv m6009
      have bx5991:=bx5991.keep k6010 (BH (Ne.symm ne6000))
      refine AA (CR U70_ rfl DM rfl hp6005 fun cs6014 hs6015=>(?_))
      obtain ⟨d6021,rfl,hd6022⟩:=hs6015
      have:=hd6022.len_le
      refine BY (BC (vs:=[vI ((lb[0]!).epoch),vI ((lb[0]!).index),vI ((lb[0]!).threshold),vI ((lb[0]!).many),d6021]) (.agg #[vI ((lb[0]!).epoch),vI ((lb[0]!).index),vI ((lb[0]!).threshold),vI ((lb[0]!).many),d6021]) rfl rfl rfl DM (fun u hu=>by simp only [List.mem_cons,List.not_mem_nil,or_false] at hu;rcases hu with rfl|rfl|rfl|rfl|rfl <;> first|rfl|exact hd6022.oneCell) (by repeat (constructor)) bx5991 oT s6008 fun w6016 s6017 m6018 k6019 bx6020=>(?_))
      have h_la:=h_la.mv m6018
      have h_lb:=h_lb.mv m6018
      have h_secret:=h_secret.mv m6018
      have hd6013:=hd6013.mv m6018
      have hd6022:=hd6022.mv m6018
      have bx6011:=bx6011.keep k6019 (BH ne6000)
      refine AF (AC (?_))
      exact ⟨b5980,b5986,d6012,d6021,(b5986 :: (b5980 :: ([]:List Nat))),trivial,⟨_,AX _ ⟨rfl,rfl,rfl,rfl,rfl,rfl,trivial⟩⟩,s6017,h_la,h_lb,h_secret,(by rw [show ([vI (la[0]!.epoch),vI (la[0]!.index),vI (la[0]!.threshold),vI (la[0]!.many),d6012]:List Value)=[vI ((la[0]!).epoch),vI ((la[0]!).index),vI ((la[0]!).threshold),vI ((la[0]!).many),d6012] from by rfl];exact bx6011),(by rw [show la[0]!.data=(la[0]!).data from by rfl];exact hd6013),(by repeat (constructor)),(by rw [show ([vI (lb[0]!.epoch),vI (lb[0]!.index),vI (lb[0]!.threshold),vI (lb[0]!.many),d6021]:List Value)=[vI ((lb[0]!).epoch),vI ((lb[0]!).index),vI ((lb[0]!).threshold),vI ((lb[0]!).many),d6021] from by rfl];exact bx6020),(by rw [show lb[0]!.data=(lb[0]!).data from by rfl];exact hd6022),(by repeat (constructor)),ne6000⟩
   ·intro F wlc34 hI
    clear h_la h_lb h_secret
    obtain ⟨bnc34_10,bnc34_11,vnc34_10_4,vnc34_11_4,Blc34,hmc34,⟨Flc34,rfl⟩,slc34,h_la,h_lb,h_secret,hbn_bnc34_10,hvnc34_10_4,hin_bnc34_10,hbn_bnc34_11,hvnc34_11_4,hin_bnc34_11,nebnc34_11_bnc34_10⟩:=hI
    have:=hvnc34_10_4.len_le
    have:=hvnc34_11_4.len_le
    refine AG (?_)
    refine AG (?_)
    refine AB kR (AA (BD 2 KL rfl (AA (BI U3_ rfl (vI (la[0]!.threshold)) rfl hbn_bnc34_10 rfl (AA (BD 2 KL rfl (AA (BI U3_ rfl (vI (lb[0]!.threshold)) rfl hbn_bnc34_11 rfl (AA (CV .i64 (la[0]!.threshold) (lb[0]!.threshold) rfl rfl (AA (AE (vO ((la[0]!.threshold) != (lb[0]!.threshold))) rfl (?_)))))))))))))
    cases hb6023:((la[0]!.threshold) != (lb[0]!.threshold))
    ·have hp6024:la[0]!.threshold=lb[0]!.threshold:=by simpa using hb6023
     refine BE rfl (BD 3 KK rfl (BE rfl (BI U3_ rfl (vI (la[0]!.many)) rfl hbn_bnc34_10 rfl (BE rfl (BD 3 KK rfl (BE rfl (BI U3_ rfl (vI (lb[0]!.many)) rfl hbn_bnc34_11 rfl (BE rfl (CV .i64 (la[0]!.many) (lb[0]!.many) rfl rfl (AA (BX (vO ((la[0]!.many) != (lb[0]!.many))) rfl rfl (AA (AE (vO ((la[0]!.many) != (lb[0]!.many))) rfl (?_))))))))))))))
     cases hb6025:((la[0]!.many) != (lb[0]!.many))
     ·have hp6026:la[0]!.many=lb[0]!.many:=by simpa using hb6025
      refine BE rfl (BD 4 GM rfl (BE rfl (BI U23_ rfl (vnc34_10_4) rfl hbn_bnc34_10 rfl (BE rfl (CG U23_ rfl hvnc34_10_4 (BE rfl (BD 4 GM rfl (BE rfl (BI U23_ rfl (vnc34_11_4) rfl hbn_bnc34_11 rfl (BE rfl (CG U23_ rfl hvnc34_11_4 (BE rfl (CV .i64 ((la[0]!.data).length:Int) ((lb[0]!.data).length:Int) rfl rfl (AA (BX (vO (((la[0]!.data).length:Int) != ((lb[0]!.data).length:Int))) rfl rfl (AA (AE (vO (((la[0]!.data).length:Int) != ((lb[0]!.data).length:Int))) rfl (?_))))))))))))))))))
      cases hb6027:(((la[0]!.data).length:Int) != ((lb[0]!.data).length:Int))
      ·have hp6028:((la[0]!.data).length:Int)=((lb[0]!.data).length:Int):=by simpa using hb6027
       refine BE rfl (BD 0 IP rfl (BE rfl (BI U3_ rfl (vI (lb[0]!.epoch)) rfl hbn_bnc34_11 rfl (BE rfl (BD 0 IP rfl (BE rfl (BI U3_ rfl (vI (la[0]!.epoch)) rfl hbn_bnc34_10 rfl (BE rfl (DC .i64 (la[0]!.epoch) (1:Int) ((la[0]!.epoch)+(1:Int)) rfl rfl (FO oM oM) (BE rfl (CV .i64 (lb[0]!.epoch) ((la[0]!.epoch)+(1:Int)) rfl rfl (AA (BX (vO ((lb[0]!.epoch) != ((la[0]!.epoch)+(1:Int)))) rfl rfl (AF (AC (?_))))))))))))))))
       refine AO ((lb[0]!.epoch) != ((la[0]!.epoch)+(1:Int))) rfl rfl (fun hc6029=>?_) (fun hc6029=>?_)
       ·have hp6030:lb[0]!.epoch≠(la[0]!.epoch)+(1:Int):=by simpa using hc6029
        refine AG (?_)
        refine AB kR (AA (AD (nS) rfl (AA (AD (vI 460) rfl (AF (AC (?_)))))))
        refine AP (AR (OV rfl (FF rfl rfl rfl rfl) (?_)))
        have e6031:((CA la lb secret).1)=([]):=by exact congrArg (fun p=>p.1) (show CA la lb secret=_ from LE aS aS (GT oM))
        have e6032:((CA la lb secret).2)=(460:Int):=by exact congrArg (fun p=>p.2) (show CA la lb secret=_ from LE aS aS (GT oM))
        exact ⟨_,rfl,slc34.keep,by rw [e6031,e6032];exact ⟨.slice none 0 0,rfl,BG.nil _ _ _⟩⟩
       ·have hp6033:lb[0]!.epoch=(la[0]!.epoch)+(1:Int):=by simpa using hc6029
        have hmb:MA la[0]! lb[0]! = false:=(OW _ _).2 oM
        refine AU (AC (?_))
        refine AG (?_)
        refine AB kR (AA (AE (la_v) rfl (AA (AE (secret_v) rfl (AA (BB (vs:=[la_v,secret_v]) enter_15 (VO (O:=Blc34++O) la_v la secret_v secret wlc34 h_la h_secret slc34.lt) rfl slc34 fun v6034 w6035 s6036 m6037 k6038 r6039=>(?_)))))))
        obtain ⟨x6040,rfl,hv6042,ho6041⟩:=r6039
        obtain ⟨ho6041,hn6043⟩:=own_lent slc34 hv6042 ho6041
        have ne6044:∀ b,x6040.ownBlock=some b→b≠bnc34_10:=fun b hb=>by have:=hbn_bnc34_10.lt;have:=hv6042 b hb;omega
        have ne6045:∀ b,x6040.ownBlock=some b→b≠bnc34_11:=fun b hb=>by have:=hbn_bnc34_11.lt;have:=hv6042 b hb;omega
        have h_la:=h_la.mv m6037
        have h_lb:=h_lb.mv m6037
        have h_secret:=h_secret.mv m6037
        have hvnc34_10_4:=hvnc34_10_4.mv m6037
        have hvnc34_11_4:=hvnc34_11_4.mv m6037
        have hbn_bnc34_10:=hbn_bnc34_10.keep k6038 (by simp)
        have hbn_bnc34_11:=hbn_bnc34_11.keep k6038 (by simp)
        refine AA (AE (vT #[x6040,vI ((BJ la secret).2)]) rfl (AA (AN (x6040) rfl rfl (AA (AN (vI ((BJ la secret).2)) rfl rfl (AA (AD (x6040) rfl (AA (AD (vI ((BJ la secret).2)) rfl (AF (AC (?_))))))))))))
        refine AG (?_)
        refine AG (?_)
        refine AB kR (AA (AE (vI ((BJ la secret).2)) rfl (AA (CV .i64 ((BJ la secret).2) (0:Int) rfl rfl (AF (AC (?_)))))))
        refine AO (((BJ la secret).2) != (0:Int)) rfl rfl (fun hc6046=>?_) (fun hc6046=>?_)
        ·have hp6047:(BJ la secret).2≠(0:Int):=by simpa using hc6046
         refine AG (?_)
         refine AB kR (AA (AE (vI ((BJ la secret).2)) rfl (AA (AD (nS) rfl (AA (AD (vI ((BJ la secret).2)) rfl (AF (AC (?_)))))))))
         refine AP (AR (OV rfl (FF rfl rfl rfl rfl) (?_)))
         have e6048:((CA la lb secret).1)=([]):=by exact congrArg (fun p=>p.1) (show CA la lb secret=_ from mixed_4 hca hcb hmb aS)
         have e6049:((CA la lb secret).2)=((BJ la secret).2):=by exact congrArg (fun p=>p.2) (show CA la lb secret=_ from mixed_4 hca hcb hmb aS)
         exact ⟨_,rfl,s6036.keep,by rw [e6048,e6049];exact ⟨.slice none 0 0,rfl,BG.nil _ _ _⟩⟩
        ·have hp6050:(BJ la secret).2=(0:Int):=by simpa using hc6046
         have hex:(BJ la secret).2=0:=hp6050
         have hmx:=mx_of hcb hex hmb
         have hlb8:=hvb.len8
         have hfe:=MZ hex
         refine AU (AC (?_))
         refine AG (?_)
         refine AB kR (AA (AE (secret_v) rfl (AA (BD 0 IP rfl (AA (BI U3_ rfl (vI (la[0]!.epoch)) rfl hbn_bnc34_10 rfl (AA (BD 2 KL rfl (AA (BI U3_ rfl (vI (la[0]!.threshold)) rfl hbn_bnc34_10 rfl (AA (BD 3 KK rfl (AA (BI U3_ rfl (vI (la[0]!.many)) rfl hbn_bnc34_10 rfl (AA (AE (x6040) rfl (AA (BB (vs:=[secret_v,vI (la[0]!.epoch),vI (la[0]!.threshold),vI (la[0]!.many),x6040]) TY (c_split (O:=Blc34++O) secret_v secret (la[0]!.epoch) (la[0]!.threshold) (la[0]!.many) x6040 ((BJ la secret).1) w6035 h_secret (ho6041.rd (fun x hx=>.inl hx) hn6043) s6036.lt) rfl s6036 fun v6051 w6052 s6053 m6054 k6055 r6056=>(?_)))))))))))))))))))
         obtain ⟨x6057,rfl,hl6058⟩:=r6056
         have:=hl6058.len_le
         have hl6058:BG Enc.share w6052 (Blc34++O) x6057 (CQ la secret):=hl6058
         have h_la:=h_la.mv m6054
         have h_lb:=h_lb.mv m6054
         have h_secret:=h_secret.mv m6054
         have ho6041:=ho6041.mv m6054 k6055 (by simp)
         have hvnc34_10_4:=hvnc34_10_4.mv m6054
         have hvnc34_11_4:=hvnc34_11_4.mv m6054
         have hbn_bnc34_10:=hbn_bnc34_10.keep k6055 (by simp)
         have hbn_bnc34_11:=hbn_bnc34_11.keep k6055 (by simp)
         refine AA (AE (vT #[x6057,vI ((BV secret (la[0]!.epoch) (la[0]!.threshold) (la[0]!.many) ((BJ la secret).1)).2)]) rfl (AA (AN (x6057) rfl rfl (AA (AN (vI ((BV secret (la[0]!.epoch) (la[0]!.threshold) (la[0]!.many) ((BJ la secret).1)).2)) rfl rfl (AA (AD (x6057) rfl (AA (AD (vI ((BV secret (la[0]!.epoch) (la[0]!.threshold) (la[0]!.many) ((BJ la secret).1)).2)) rfl (AF (AC (?_))))))))))))
         refine AG (?_)
         refine AG (?_)
         refine AB kR (AA (AE (vI ((BV secret (la[0]!.epoch) (la[0]!.threshold) (la[0]!.many) ((BJ la secret).1)).2)) rfl (AA (CV .i64 ((BV secret (la[0]!.epoch) (la[0]!.threshold) (la[0]!.many) ((BJ la secret).1)).2) (0:Int) rfl rfl (AF (AC (?_)))))))
         have hb6059:(((BV secret (la[0]!.epoch) (la[0]!.threshold) (la[0]!.many) ((BJ la secret).1)).2) != (0:Int))=false:=(by rw [VE hex];rfl)
         rw [hb6059]
         refine AO false rfl rfl (fun h=>by cases h) (fun _=>?_)
         refine AU (AC (?_))
         refine AG (?_)
         refine AB kR (AA (CX [nS] z_32 rfl s6053 fun b6060 w6061 e6066 s6062 m6063 k6064 bx6065=>(?_)))
         have ne6067:FH bnc34_10 b6060:=by show bnc34_10≠b6060;have:=hbn_bnc34_10.lt;omega
         have ne6068:FH bnc34_11 b6060:=by show bnc34_11≠b6060;have:=hbn_bnc34_11.lt;omega
         have ne6069:∀ b,x6040.ownBlock=some b→b≠b6060:=fun b hb=>by have:=(ho6041.lt b hb).2;omega
         clear e6066
         have h_la:=h_la.mv m6063
         have h_lb:=h_lb.mv m6063
         have h_secret:=h_secret.mv m6063
         have ho6041:=ho6041.mv m6063 k6064 (by simp)
         have hl6058:=hl6058.mv m6063
         have hvnc34_10_4:=hvnc34_10_4.mv m6063
         have hvnc34_11_4:=hvnc34_11_4.mv m6063
         have hbn_bnc34_10:=hbn_bnc34_10.keep k6064 (by simp)
         have hbn_bnc34_11:=hbn_bnc34_11.keep k6064 (by simp)
         refine AF (AC (?_))
         refine AG (?_)
         refine AG (?_)
         refine AB kR (AA (AE (lb_v) rfl (AA (AE (x6057) rfl (AA (BB (vs:=[lb_v,x6057]) enter_53 (c_pairs (O:=(b6060 :: Blc34)++O) lb_v lb x6057 (CQ la secret) w6061 h_lb hl6058 s6062.lt) rfl s6062 fun v6070 w6071 s6072 m6073 k6074 r6075=>(?_)))))))
         obtain ⟨a6076,a6078,rfl,hp6077,hp6079⟩:=r6075
         have h_la:=h_la.mv m6073
         have h_lb:=h_lb.mv m6073
         have h_secret:=h_secret.mv m6073
         have ho6041:=ho6041.mv m6073 k6074 (by simp)
         have hl6058:=hl6058.mv m6073
         have hvnc34_10_4:=hvnc34_10_4.mv m6073
         have hvnc34_11_4:=hvnc34_11_4.mv m6073
         have hbn_bnc34_10:=hbn_bnc34_10.keep k6074 (by simp)
         have hbn_bnc34_11:=hbn_bnc34_11.keep k6074 (by simp)
         have bx6065:=bx6065.keep k6074 (by simp)
         refine AF (AC (?_))
         refine BR (?_)
         refine cw_range (fs:=[]) (lb:=[vP (some a6076),vP (some a6078)]) rfl rfl enter_95 rfl (fun l_r6080 D_r6080 w6081 R_r6080 _ hR_r6080 hD6083 hl6084 k6082 oD_r6080 oL_r6080=>?_)
         have ne6087:FH bnc34_10 D_r6080∧FH bnc34_10 l_r6080:=by show bnc34_10≠D_r6080∧bnc34_10≠l_r6080;have:=hbn_bnc34_10.lt;omega
         have ne6088:FH bnc34_11 D_r6080∧FH bnc34_11 l_r6080:=by show bnc34_11≠D_r6080∧bnc34_11≠l_r6080;have:=hbn_bnc34_11.lt;omega
         have ne6089:FH b6060 D_r6080∧FH b6060 l_r6080:=by show b6060≠D_r6080∧b6060≠l_r6080;have:=bx6065.lt;omega
         have ne6090:∀ b,x6040.ownBlock=some b→b≠D_r6080∧b≠l_r6080:=fun b hb=>by have:=(ho6041.lt b hb).2;omega
         have s6085:=s6072.adopt2 k6082 hD6083 oM oD_r6080.lt oL_r6080.lt
         have m6086:Mv (b6060 :: Blc34) w6071 (l_r6080 :: D_r6080 :: (b6060 :: Blc34)) w6081:=Mv.adopt2 k6082 hD6083 oM
         have h_la:=h_la.mv m6086
         have h_lb:=h_lb.mv m6086
         have h_secret:=h_secret.mv m6086
         have ho6041:=ho6041.mv m6086 k6082 (by simp)
         have hl6058:=hl6058.mv m6086
         have hvnc34_10_4:=hvnc34_10_4.mv m6086
         have hvnc34_11_4:=hvnc34_11_4.mv m6086
         have hp6077:=hp6077.mv m6086
         have hp6079:=hp6079.mv m6086
         have hbn_bnc34_10:=hbn_bnc34_10.keep k6082 (by simp)
         have hbn_bnc34_11:=hbn_bnc34_11.keep k6082 (by simp)
         have bx6065:=bx6065.keep k6082 (by simp)
         have ne6091:FH D_r6080 l_r6080:=by show D_r6080≠l_r6080;omega
         clear hl6084
         refine CH 29 Try.func95 rfl rfl oT (fun F6092=>?_)
         refine AG (?_)
         refine AB kR (AA (BW U32_ rfl rfl hp6077 fun v6093 hl6094=>(?_)))
         have:=hl6094.len_le
         refine AA (CG U32_ rfl hl6094 (AA (AE (vI 0) rfl (AF (AC (?_))))))
         refine BR (?_)
         refine DH (fun mI FI wI=>∃ (k:Nat) (vopr0_b6060_0:Value) (B:List Nat),k≤lb.length∧mI=lb.length - k∧(∃ F1,FI=FT F1 [(0,vN (.yield l_r6080) #[] #[]),(2,vP (some a6078)),(7,v6093),(8,vI (lb.length:Int)),(9,vI ((k:Nat):Int)),(29,undef)])∧St w O wI B∧EJ Enc.share 70 w.heap.size (B++O) wI vopr0_b6060_0 (FC lb (CQ la secret) k)∧(∀ b,vopr0_b6060_0.ownBlock=some b→b∈B)∧PT (Enc.slice Enc.share) wI (B++O) (.pointer (some a6078)) ((CQ la secret))∧BG Enc.share wI (B++O) (v6093) (lb)∧BG Enc.share wI (B++O) (la_v) (la)∧BG Enc.share wI (B++O) (lb_v) (lb)∧BG Enc.u8 wI (B++O) (secret_v) (secret)∧EJ Enc.u8 5 w.heap.size (B++O) wI x6040 ((BJ la secret).1)∧BG Enc.share wI (B++O) (x6057) ((CQ la secret))∧BG Enc.u8 wI (B++O) (vnc34_10_4) (la[0]!.data)∧BG Enc.u8 wI (B++O) (vnc34_11_4) (lb[0]!.data)∧PT (Enc.slice Enc.share) wI (B++O) (.pointer (some a6076)) (lb)∧Ob wI D_r6080 (.deferred (some []))∧D_r6080∈B∧GQ wI b6060 32 [vopr0_b6060_0]∧b6060∈B∧GQ wI bnc34_10 70 [vI (la[0]!.epoch),vI (la[0]!.index),vI (la[0]!.threshold),vI (la[0]!.many),vnc34_10_4]∧bnc34_10∈B∧GQ wI bnc34_11 70 [vI (lb[0]!.epoch),vI (lb[0]!.index),vI (lb[0]!.threshold),vI (lb[0]!.many),vnc34_11_4]∧bnc34_11∈B∧Ob wI l_r6080 (R_r6080 .ready none)∧l_r6080∈B∧(∀ b,vopr0_b6060_0.ownBlock=some b→b≠D_r6080)∧(∀ b,vopr0_b6060_0.ownBlock=some b→b≠b6060)∧(∀ b,vopr0_b6060_0.ownBlock=some b→b≠bnc34_10)∧(∀ b,vopr0_b6060_0.ownBlock=some b→b≠bnc34_11)∧(∀ b,vopr0_b6060_0.ownBlock=some b→b≠l_r6080)∧(∀ b,vopr0_b6060_0.ownBlock=some b→x6040.ownBlock≠some b)∧(∀ b,x6040.ownBlock=some b→vopr0_b6060_0.ownBlock≠some b)) (lb.length - (0)) ?_ ?_
         ·exact ⟨(0),(.slice none 0 0),(l_r6080 :: D_r6080 :: (b6060 :: Blc34)),oM,rfl,⟨_,AX _ ⟨rfl,rfl,rfl,rfl,(by rfl),rfl,trivial⟩⟩,s6085,(by rw [show FC lb (CQ la secret) (0)=[] from rfl];exact (EJ.nil Enc.share 70 _ _ _)),(by intro b hb;simp [Value.ownBlock] at hb),hp6079,hl6094,h_la,h_lb,h_secret,ho6041,hl6058,hvnc34_10_4,hvnc34_11_4,hp6077,oD_r6080,(by (repeat (first|exact List.mem_cons_self|apply List.mem_cons_of_mem))),bx6065,(by (repeat (first|exact List.mem_cons_self|apply List.mem_cons_of_mem))),hbn_bnc34_10,(by (repeat (first|assumption|apply List.mem_cons_of_mem))),hbn_bnc34_11,(by (repeat (first|assumption|apply List.mem_cons_of_mem))),oL_r6080,(by (repeat (exact List.mem_cons_self))),(fun b hb=>by (simp [Value.ownBlock] at hb;done)),(fun b hb=>by (simp [Value.ownBlock] at hb;done)),(fun b hb=>by (simp [Value.ownBlock] at hb;done)),(fun b hb=>by (simp [Value.ownBlock] at hb;done)),(fun b hb=>by (simp [Value.ownBlock] at hb;done)),(fun b hb=>by (simp [Value.ownBlock] at hb;done)),(fun b hb=>by (simp [Value.ownBlock];done))⟩
         ·intro mlpr0 F wlpr0 hI
          clear hp6079 hl6094 h_la h_lb h_secret ho6041 hl6058 hvnc34_10_4 hvnc34_11_4 hp6077 oD_r6080 hbn_bnc34_10 hbn_bnc34_11 oL_r6080
          obtain ⟨k,vopr0_b6060_0,Blpr0,hrpr0_0,hmpr0,⟨Flpr0,rfl⟩,slpr0,hopr0_b6060_0,hBpr0_b6060_0,hp6079,hl6094,h_la,h_lb,h_secret,ho6041,hl6058,hvnc34_10_4,hvnc34_11_4,hp6077,oD_r6080,hin_D_r6080,hbs_pr0_b6060,hin_b6060,hbn_bnc34_10,hin_bnc34_10,hbn_bnc34_11,hin_bnc34_11,oL_r6080,hin_l_r6080,nbpr0_b6060_0_D_r6080,nbpr0_b6060_0_b6060,nbpr0_b6060_0_bnc34_10,nbpr0_b6060_0_bnc34_11,nbpr0_b6060_0_l_r6080,nopr0_b6060_0_x6040,nppr0_b6060_0_x6040⟩:=hI
          refine AG (?_)
          refine AB kR (AA (DW .i64 ((k:Nat):Int) (lb.length:Int) rfl rfl (AF (AC (?_)))))
          refine AG (?_)
          refine AO (decide (((k:Nat):Int)<(lb.length:Int))) rfl rfl (fun hc6095=>?_) (fun hc6095=>?_)
          ·have hp6096:((k:Nat):Int)<(lb.length:Int):=by simpa using hc6095
           have hxi:=hmx.idx' (k:=k) oM
           refine AU (AC (?_))
           refine AG (?_)
           refine BR (?_)
           refine AG (?_)
           refine AB kR (AA (DI U32_ DM .i64 ((k:Nat):Int) k rfl rfl rfl hl6094 (by have:=hmx.idx' (k:=k) oM;omega) fun a6097 hp6098=>(AA (CR U70_ rfl DM rfl hp6098 fun cs6099 hs6100=>(AA (CX [vI 0,vI 0,vI 0,vI 0,nS] MT rfl slpr0 fun b6101 w6102 e6107 s6103 m6104 k6105 bx6106=>(?_)))))))
           have ne6108:FH D_r6080 b6101:=by show D_r6080≠b6101;have:=oD_r6080.lt;omega
           have ne6109:FH b6060 b6101:=by show b6060≠b6101;have:=hbs_pr0_b6060.lt;omega
           have ne6110:FH bnc34_10 b6101:=by show bnc34_10≠b6101;have:=hbn_bnc34_10.lt;omega
           have ne6111:FH bnc34_11 b6101:=by show bnc34_11≠b6101;have:=hbn_bnc34_11.lt;omega
           have ne6112:FH l_r6080 b6101:=by show l_r6080≠b6101;have:=oL_r6080.lt;omega
           have ne6113:∀ b,x6040.ownBlock=some b→b≠b6101:=fun b hb=>by have:=(ho6041.lt b hb).2;omega
           have ne6114:∀ b,vopr0_b6060_0.ownBlock=some b→b≠b6101:=fun b hb=>by have:=(hopr0_b6060_0.lt b hb).2;omega
           have hBpr0_b6060_0:∀ b,vopr0_b6060_0.ownBlock=some b→b∈(b6101 :: Blpr0):=fun b hb=>List.mem_cons_of_mem _ (hBpr0_b6060_0 b hb)
           clear e6107
           have hp6079:=hp6079.mv m6104
           have hl6094:=hl6094.mv m6104
           have hs6100:Enc.share.rd w6102 ((b6101 :: Blpr0)++O) cs6099 (lb[k]!):=Enc.mv Enc.share (x:=lb[k]!) hs6100 m6104
           have h_la:=h_la.mv m6104
           have h_lb:=h_lb.mv m6104
           have h_secret:=h_secret.mv m6104
           have ho6041:=ho6041.mv m6104 k6105 (by simp)
           have hl6058:=hl6058.mv m6104
           have hvnc34_10_4:=hvnc34_10_4.mv m6104
           have hvnc34_11_4:=hvnc34_11_4.mv m6104
           have hp6077:=hp6077.mv m6104
           have oD_r6080:=oD_r6080.keep k6105 (by simp)
           have hopr0_b6060_0:=hopr0_b6060_0.mv m6104 k6105 (by simp)
           have hbs_pr0_b6060:=hbs_pr0_b6060.keep k6105 (by simp)
           have hbn_bnc34_10:=hbn_bnc34_10.keep k6105 (by simp)
           have hbn_bnc34_11:=hbn_bnc34_11.keep k6105 (by simp)
           have oL_r6080:=oL_r6080.keep k6105 (by simp)
           obtain ⟨d6120,rfl,hd6121⟩:=hs6100
           have:=hd6121.len_le
           refine BY (BC (vs:=[vI ((lb[k]!).epoch),vI ((lb[k]!).index),vI ((lb[k]!).threshold),vI ((lb[k]!).many),d6120]) (.agg #[vI ((lb[k]!).epoch),vI ((lb[k]!).index),vI ((lb[k]!).threshold),vI ((lb[k]!).many),d6120]) rfl rfl rfl DM (fun u hu=>by simp only [List.mem_cons,List.not_mem_nil,or_false] at hu;rcases hu with rfl|rfl|rfl|rfl|rfl <;> first|rfl|exact hd6121.oneCell) (by repeat (constructor)) bx6106 oT s6103 fun w6115 s6116 m6117 k6118 bx6119=>(?_))
           have hp6079:=hp6079.mv m6117
           have hl6094:=hl6094.mv m6117
           have hd6121:=hd6121.mv m6117
           have h_la:=h_la.mv m6117
           have h_lb:=h_lb.mv m6117
           have h_secret:=h_secret.mv m6117
           have ho6041:=ho6041.mv m6117 k6118 (fun b hb=>BH (ne6113 b hb))
           have hl6058:=hl6058.mv m6117
           have hvnc34_10_4:=hvnc34_10_4.mv m6117
           have hvnc34_11_4:=hvnc34_11_4.mv m6117
           have hp6077:=hp6077.mv m6117
           have oD_r6080:=oD_r6080.keep k6118 (BH ne6108)
           have hopr0_b6060_0:=hopr0_b6060_0.mv m6117 k6118 (fun b hb=>BH (ne6114 b hb))
           have hbs_pr0_b6060:=hbs_pr0_b6060.keep k6118 (BH ne6109)
           have hbn_bnc34_10:=hbn_bnc34_10.keep k6118 (BH ne6110)
           have hbn_bnc34_11:=hbn_bnc34_11.keep k6118 (BH ne6111)
           have oL_r6080:=oL_r6080.keep k6118 (BH ne6112)
           refine AF (AC (?_))
           refine AG (?_)
           refine AB kR (AA (BW U32_ rfl rfl hp6079 fun v6122 hl6123=>(?_)))
           have:=hl6123.len_le
           obtain ⟨B6124,s6125,m6126,hp6127,hk6128⟩:=bx6119.publish (E:=Enc.share) (u:=(lb[k]!)) ⟨_,rfl,hd6121⟩ s6116 (by repeat (constructor))
           have hBpr0_b6060_0:∀ b,vopr0_b6060_0.ownBlock=some b→b∈B6124:=fun b hb=>hk6128 b (hBpr0_b6060_0 b hb) (ne6114 b hb)
           have hin_D_r6080:D_r6080∈B6124:=hk6128 D_r6080 rC ne6108
           have hin_b6060:b6060∈B6124:=hk6128 b6060 rC ne6109
           have hin_bnc34_10:bnc34_10∈B6124:=hk6128 bnc34_10 rC ne6110
           have hin_bnc34_11:bnc34_11∈B6124:=hk6128 bnc34_11 rC ne6111
           have hin_l_r6080:l_r6080∈B6124:=hk6128 l_r6080 rC ne6112
           have hp6079:=hp6079.mv m6126
           have hl6094:=hl6094.mv m6126
           have hl6123:=hl6123.mv m6126
           have h_la:=h_la.mv m6126
           have h_lb:=h_lb.mv m6126
           have h_secret:=h_secret.mv m6126
           have ho6041:=ho6041.mv m6126 (Keep.refl [] _) (by simp)
           have hl6058:=hl6058.mv m6126
           have hvnc34_10_4:=hvnc34_10_4.mv m6126
           have hvnc34_11_4:=hvnc34_11_4.mv m6126
           have hp6077:=hp6077.mv m6126
           have oD_r6080:=oD_r6080.keep (Keep.refl [] _) (by simp)
           have hopr0_b6060_0:=hopr0_b6060_0.mv m6126 (Keep.refl [] _) (by simp)
           have hbs_pr0_b6060:=hbs_pr0_b6060.keep (Keep.refl [] _) (by simp)
           have hbn_bnc34_10:=hbn_bnc34_10.keep (Keep.refl [] _) (by simp)
           have hbn_bnc34_11:=hbn_bnc34_11.keep (Keep.refl [] _) (by simp)
           have oL_r6080:=oL_r6080.keep (Keep.refl [] _) (by simp)
           refine AA (DD (first:=[]) (captured:=[.tmp 5]) [] [vP (some ⟨b6101,0,none⟩)] rfl rfl (AA (BB (vs:=[v6122,vN (.func 97) #[] #[vP (some ⟨b6101,0,none⟩)]]) enter_96 (c_idxS (O:=B6124++O) v6122 (CQ la secret) 97 [vP (some ⟨b6101,0,none⟩)] (fun x_=>x_.index == (lb[k]!).index) w6115 hl6123 enter_97 (fun w'_ O'_ kk_ hs_ hl_ x__cs x_ hr_x_ =>c_pairs11 (O:=O'_) x__cs x_ (⟨b6101,0,none⟩) (lb[k]!) w'_ hr_x_ (hp6127.on hs_ kk_) hl_) s6125.lt) rfl s6125 fun v6129 w6130 s6131 m6132 k6133 r6134=>(?_))))
           obtain rfl:=r6134
           have hp6079:=hp6079.mv m6132
           have hp6127:=hp6127.mv m6132
           have hl6094:=hl6094.mv m6132
           have h_la:=h_la.mv m6132
           have h_lb:=h_lb.mv m6132
           have h_secret:=h_secret.mv m6132
           have ho6041:=ho6041.mv m6132 k6133 (by simp)
           have hl6058:=hl6058.mv m6132
           have hvnc34_10_4:=hvnc34_10_4.mv m6132
           have hvnc34_11_4:=hvnc34_11_4.mv m6132
           have hp6077:=hp6077.mv m6132
           have oD_r6080:=oD_r6080.keep k6133 (by simp)
           have hopr0_b6060_0:=hopr0_b6060_0.mv m6132 k6133 (by simp)
           have hbs_pr0_b6060:=hbs_pr0_b6060.keep k6133 (by simp)
           have hbn_bnc34_10:=hbn_bnc34_10.keep k6133 (by simp)
           have hbn_bnc34_11:=hbn_bnc34_11.keep k6133 (by simp)
           have oL_r6080:=oL_r6080.keep k6133 (by simp)
           refine AA (AD (vI (EW (CQ la secret) (fun x_=>x_.index == (lb[k]!).index))) rfl (AF (AC (?_))))
           refine AG (?_)
           have hb6135:(decide ((0:Int)≤EW (CQ la secret) (fun x_=>x_.index == (lb[k]!).index)))=true:=(decide_eq_true (hmx.idx' (k:=k) oM).1)
           try rw [hb6135]
           refine cw_drawY 9 _ _ [DF (vI (EW (CQ la secret) (fun x_=>x_.index == (lb[k]!).index))),DF (vO true),DF (vO true),DF (vN (.yield l_r6080) #[] #[]),fun (vT:Value) (wT:World)=>∃ csT:List Value,vT = .agg csT.toArray∧Enc.share.rd wT (B6124++O) csT ((lb[k]!)),fun (vT:Value) (wT:World)=>BG Enc.share wT (B6124++O) vT ((CQ la secret)),DF (vI (EW (CQ la secret) (fun x_=>x_.index == (lb[k]!).index))),fun (vT:Value) (wT:World)=>∃ aT,vT = .pointer (some aT)∧PT Enc.share wT (B6124++O) (.pointer (some aT)) ((CQ la secret)[(EW (CQ la secret) (fun x_=>x_.index == (lb[k]!).index)).toNat]!),fun (vT:Value) (wT:World)=>∃ csT:List Value,vT = .agg csT.toArray∧Enc.share.rd wT (B6124++O) csT ((CQ la secret)[(EW (CQ la secret) (fun x_=>x_.index == (lb[k]!).index)).toNat]!)] kR kR kR kR rfl rfl ⟨kI,kI,kI,kI,fun _ _ _ ⟨a,e,h⟩ k=>⟨a,e,Enc.mv _ h (Mv.of_keep k)⟩,fun _ _ _ h k=>h.mv (Mv.of_keep k),kI,fun _ _ _ ⟨a,e,h⟩ k=>⟨a,e,h.mv (Mv.of_keep k)⟩,fun _ _ _ ⟨a,e,h⟩ k=>⟨a,e,Enc.mv _ h (Mv.of_keep k)⟩,trivial⟩ ⟨?_,?_,?_,?_,?_,?_,?_,?_,?_,trivial⟩ ?_
           ·intro F1 w1 k1 hf hd
            obtain ⟨F2,rfl⟩:=AL (F:=F1) [(6,vI (EW (CQ la secret) (fun x_=>x_.index == (lb[k]!).index)))] ⟨hf 6 kR,trivial⟩
            exact AH rfl ((AE (vI (EW (CQ la secret) (fun x_=>x_.index == (lb[k]!).index))) rfl (⟨(Keep.refl _ _),rfl⟩)))
           ·intro F1 w1 k1 hf hd
            obtain ⟨F2,rfl⟩:=AL (F:=F1) [(16,vI (EW (CQ la secret) (fun x_=>x_.index == (lb[k]!).index)))] ⟨hd 0 16 kR,trivial⟩
            refine AH rfl ((KI .i64 (EW (CQ la secret) (fun x_=>x_.index == (lb[k]!).index)) (0:Int) rfl rfl (?_)))
            exact ⟨(Keep.refl _ _),congrArg vO (hb6135)⟩
           ·intro F1 w1 k1 hf hd
            obtain ⟨F2,rfl⟩:=AL (F:=F1) [(17,vO true)] ⟨hd 1 17 kR,trivial⟩
            exact AH rfl ((AE (vO true) rfl (⟨(Keep.refl _ _),rfl⟩)))
           ·intro F1 w1 k1 hf hd
            obtain ⟨F2,rfl⟩:=AL (F:=F1) [(0,vN (.yield l_r6080) #[] #[]),(18,vO true)] ⟨hf 0 kR,hd 2 18 kR,trivial⟩
            exact HL rfl rfl ((AE (vN (.yield l_r6080) #[] #[]) rfl (⟨(Keep.refl _ _),rfl⟩)))
           ·intro F1 w1 k1 hf hd
            have k0:=(Keep.drew [] w6130).trans k1
            have m1:Mv B6124 w6130 B6124 w1:=Mv.of_keep k0
            have hp6127:=hp6127.mv m1
            obtain ⟨F2,rfl⟩:=AL (F:=F1) [(5,vP (some ⟨b6101,0,none⟩)),(18,vO true)] ⟨hf 5 kR,hd 2 18 kR,trivial⟩
            exact HL rfl rfl ((CR U70_ rfl DM rfl hp6127 fun cs6136 hs6137=>(⟨(Keep.refl _ _),⟨cs6136,rfl,hs6137⟩⟩)))
           ·intro F1 w1 k1 hf hd
            have k0:=(Keep.drew [] w6130).trans k1
            have m1:Mv B6124 w6130 B6124 w1:=Mv.of_keep k0
            have hp6079:=hp6079.mv m1
            obtain ⟨F2,rfl⟩:=AL (F:=F1) [(2,vP (some a6078)),(18,vO true)] ⟨hf 2 kR,hd 2 18 kR,trivial⟩
            refine HL rfl rfl ((BW U32_ rfl rfl hp6079 fun v6138 hl6139=>(?_)))
            have:=hl6139.len_le
            exact ⟨(Keep.refl _ _),hl6139⟩
           ·intro F1 w1 k1 hf hd
            obtain ⟨F2,rfl⟩:=AL (F:=F1) [(6,vI (EW (CQ la secret) (fun x_=>x_.index == (lb[k]!).index))),(18,vO true)] ⟨hf 6 kR,hd 2 18 kR,trivial⟩
            exact HL rfl rfl ((AE (vI (EW (CQ la secret) (fun x_=>x_.index == (lb[k]!).index))) rfl (⟨(Keep.refl _ _),rfl⟩)))
           ·intro F1 w1 k1 hf hd
            obtain ⟨v6140,e6142,hl6141⟩:∃ v,F1 21=v∧BG Enc.share w1 (B6124++O) v ((CQ la secret)):=⟨_,rfl,hd 5 21 kR⟩
            have:=hl6141.len_le
            obtain ⟨F2,rfl⟩:=AL (F:=F1) [(18,vO true),(21,v6140),(22,vI (EW (CQ la secret) (fun x_=>x_.index == (lb[k]!).index)))] ⟨hd 2 18 kR,e6142,hd 6 22 kR,trivial⟩
            exact HL rfl rfl ((DI U32_ DM .i64 (EW (CQ la secret) (fun x_=>x_.index == (lb[k]!).index)) ((EW (CQ la secret) (fun x_=>x_.index == (lb[k]!).index)).toNat) rfl rfl oM hl6141 (by have:=hmx.idx' (k:=k) oM;omega) fun a6143 hp6144=>(⟨(Keep.refl _ _),⟨a6143,rfl,hp6144⟩⟩)))
           ·intro F1 w1 k1 hf hd
            obtain ⟨a6145,e6147,hp6146⟩:∃ aX_,F1 23 = .pointer (some aX_)∧PT Enc.share w1 (B6124++O) (.pointer (some aX_)) ((CQ la secret)[(EW (CQ la secret) (fun x_=>x_.index == (lb[k]!).index)).toNat]!):=hd 7 23 kR
            obtain ⟨F2,rfl⟩:=AL (F:=F1) [(18,vO true),(23,vP (some a6145))] ⟨hd 2 18 kR,e6147,trivial⟩
            exact HL rfl rfl ((CR U70_ rfl DM rfl hp6146 fun cs6148 hs6149=>(⟨(Keep.refl _ _),⟨cs6148,rfl,hs6149⟩⟩)))
           intro F6151 w6152 k6150 hT6153 hF6154
           have s6155:=s6131.call k6150
           have m6156:Mv B6124 w6130 B6124 w6152:=Mv.of_keep k6150
           have hp6079:=hp6079.mv m6156
           have hl6094:=hl6094.mv m6156
           have h_la:=h_la.mv m6156
           have h_lb:=h_lb.mv m6156
           have h_secret:=h_secret.mv m6156
           have ho6041:=ho6041.mv m6156 k6150 (by simp)
           have hl6058:=hl6058.mv m6156
           have hvnc34_10_4:=hvnc34_10_4.mv m6156
           have hvnc34_11_4:=hvnc34_11_4.mv m6156
           have hp6077:=hp6077.mv m6156
           have oD_r6080:=oD_r6080.keep k6150 (by simp)
           have hopr0_b6060_0:=hopr0_b6060_0.mv m6156 k6150 (by simp)
           have hbs_pr0_b6060:=hbs_pr0_b6060.keep k6150 (by simp)
           have hbn_bnc34_10:=hbn_bnc34_10.keep k6150 (by simp)
           have hbn_bnc34_11:=hbn_bnc34_11.keep k6150 (by simp)
           have oL_r6080:=oL_r6080.keep k6150 (by simp)
           obtain ⟨cs6159,e6161,hs6160⟩:∃ cs:List Value,F6151 20 = .agg cs.toArray∧Enc.share.rd w6152 (B6124++O) cs ((lb[k]!)):=hT6153 4 20 kR (by decide)
           obtain ⟨cs6162,e6164,hs6163⟩:∃ cs:List Value,F6151 24 = .agg cs.toArray∧Enc.share.rd w6152 (B6124++O) cs ((CQ la secret)[(EW (CQ la secret) (fun x_=>x_.index == (lb[k]!).index)).toNat]!):=hT6153 8 24 kR (by decide)
           obtain ⟨F2,rfl⟩:=AL (F:=F6151) [(0,vN (.yield l_r6080) #[] #[]),(2,vP (some a6078)),(7,v6093),(8,vI (lb.length:Int)),(9,vI ((k:Nat):Int)),(29,undef),(18,vO true),(19,vN (.yield l_r6080) #[] #[]),(20,vA cs6159.toArray),(24,vA cs6162.toArray)] ⟨hF6154 0 kR,hF6154 2 kR,hF6154 7 kR,hF6154 8 kR,hF6154 9 kR,hF6154 29 kR,hT6153 2 18 kR (by decide),hT6153 3 19 kR (by decide),e6161,e6164,trivial⟩
           clear hT6153 hF6154
           refine wl_yT rfl l_r6080 [vA cs6159.toArray,vA cs6162.toArray] rfl rfl ?_
           refine VM hR_r6080 oL_r6080 rfl (by decide) ?_
           refine AG (?_)
           refine AB kR (AA (CX [vI 0,vI 0,vI 0,vI 0,nS] MT rfl s6155 fun b6165 w6166 e6171 s6167 m6168 k6169 bx6170=>(?_)))
           have ne6172:FH D_r6080 b6165:=by show D_r6080≠b6165;have:=oD_r6080.lt;omega
           have ne6173:FH b6060 b6165:=by show b6060≠b6165;have:=hbs_pr0_b6060.lt;omega
           have ne6174:FH bnc34_10 b6165:=by show bnc34_10≠b6165;have:=hbn_bnc34_10.lt;omega
           have ne6175:FH bnc34_11 b6165:=by show bnc34_11≠b6165;have:=hbn_bnc34_11.lt;omega
           have ne6176:FH l_r6080 b6165:=by show l_r6080≠b6165;have:=oL_r6080.lt;omega
           have ne6177:∀ b,x6040.ownBlock=some b→b≠b6165:=fun b hb=>by have:=(ho6041.lt b hb).2;omega
           have ne6178:∀ b,vopr0_b6060_0.ownBlock=some b→b≠b6165:=fun b hb=>by have:=(hopr0_b6060_0.lt b hb).2;omega
           have hBpr0_b6060_0:∀ b,vopr0_b6060_0.ownBlock=some b→b∈(b6165 :: B6124):=fun b hb=>List.mem_cons_of_mem _ (hBpr0_b6060_0 b hb)
           clear e6171
           have h_la:=h_la.mv m6168
           have h_lb:=h_lb.mv m6168
           have h_secret:=h_secret.mv m6168
           have ho6041:=ho6041.mv m6168 k6169 (by simp)
           have hl6058:=hl6058.mv m6168
           have hvnc34_10_4:=hvnc34_10_4.mv m6168
           have hvnc34_11_4:=hvnc34_11_4.mv m6168
           have hp6077:=hp6077.mv m6168
           have hp6079:=hp6079.mv m6168
           have hs6160:Enc.share.rd w6166 ((b6165 :: B6124)++O) cs6159 ((lb[k]!)):=Enc.mv Enc.share (x:=(lb[k]!)) hs6160 m6168
           have hs6163:Enc.share.rd w6166 ((b6165 :: B6124)++O) cs6162 ((CQ la secret)[(EW (CQ la secret) (fun x_=>x_.index == (lb[k]!).index)).toNat]!):=Enc.mv Enc.share (x:=(CQ la secret)[(EW (CQ la secret) (fun x_=>x_.index == (lb[k]!).index)).toNat]!) hs6163 m6168
           have hl6094:=hl6094.mv m6168
           have oD_r6080:=oD_r6080.keep k6169 (by simp)
           have hopr0_b6060_0:=hopr0_b6060_0.mv m6168 k6169 (by simp)
           have hbs_pr0_b6060:=hbs_pr0_b6060.keep k6169 (by simp)
           have hbn_bnc34_10:=hbn_bnc34_10.keep k6169 (by simp)
           have hbn_bnc34_11:=hbn_bnc34_11.keep k6169 (by simp)
           have oL_r6080:=oL_r6080.keep k6169 (by simp)
           obtain ⟨d6184,rfl,hd6185⟩:=hs6160
           have:=hd6185.len_le
           refine BY (BC (vs:=[vI (((lb[k]!)).epoch),vI (((lb[k]!)).index),vI (((lb[k]!)).threshold),vI (((lb[k]!)).many),d6184]) (.agg #[vI (((lb[k]!)).epoch),vI (((lb[k]!)).index),vI (((lb[k]!)).threshold),vI (((lb[k]!)).many),d6184]) rfl rfl rfl DM (fun u hu=>by simp only [List.mem_cons,List.not_mem_nil,or_false] at hu;rcases hu with rfl|rfl|rfl|rfl|rfl <;> first|rfl|exact hd6185.oneCell) (by repeat (constructor)) bx6170 oT s6167 fun w6179 s6180 m6181 k6182 bx6183=>(?_))
           have h_la:=h_la.mv m6181
           have h_lb:=h_lb.mv m6181
           have h_secret:=h_secret.mv m6181
           have ho6041:=ho6041.mv m6181 k6182 (fun b hb=>BH (ne6177 b hb))
           have hl6058:=hl6058.mv m6181
           have hvnc34_10_4:=hvnc34_10_4.mv m6181
           have hvnc34_11_4:=hvnc34_11_4.mv m6181
           have hp6077:=hp6077.mv m6181
           have hp6079:=hp6079.mv m6181
           have hd6185:=hd6185.mv m6181
           have hs6163:Enc.share.rd w6179 ((b6165 :: B6124)++O) cs6162 ((CQ la secret)[(EW (CQ la secret) (fun x_=>x_.index == (lb[k]!).index)).toNat]!):=Enc.mv Enc.share (x:=(CQ la secret)[(EW (CQ la secret) (fun x_=>x_.index == (lb[k]!).index)).toNat]!) hs6163 m6181
           have hl6094:=hl6094.mv m6181
           have oD_r6080:=oD_r6080.keep k6182 (BH ne6172)
           have hopr0_b6060_0:=hopr0_b6060_0.mv m6181 k6182 (fun b hb=>BH (ne6178 b hb))
           have hbs_pr0_b6060:=hbs_pr0_b6060.keep k6182 (BH ne6173)
           have hbn_bnc34_10:=hbn_bnc34_10.keep k6182 (BH ne6174)
           have hbn_bnc34_11:=hbn_bnc34_11.keep k6182 (BH ne6175)
           have oL_r6080:=oL_r6080.keep k6182 (BH ne6176)
           refine AF (AC (?_))
           refine AB kR (AA (CX [vI 0,vI 0,vI 0,vI 0,nS] MT rfl s6180 fun b6186 w6187 e6192 s6188 m6189 k6190 bx6191=>(?_)))
           have ne6193:FH D_r6080 b6186:=by show D_r6080≠b6186;have:=oD_r6080.lt;omega
           have ne6194:FH b6060 b6186:=by show b6060≠b6186;have:=hbs_pr0_b6060.lt;omega
           have ne6195:FH bnc34_10 b6186:=by show bnc34_10≠b6186;have:=hbn_bnc34_10.lt;omega
           have ne6196:FH bnc34_11 b6186:=by show bnc34_11≠b6186;have:=hbn_bnc34_11.lt;omega
           have ne6197:FH l_r6080 b6186:=by show l_r6080≠b6186;have:=oL_r6080.lt;omega
           have ne6198:FH b6165 b6186:=by show b6165≠b6186;have:=bx6183.lt;omega
           have ne6199:∀ b,x6040.ownBlock=some b→b≠b6186:=fun b hb=>by have:=(ho6041.lt b hb).2;omega
           have ne6200:∀ b,vopr0_b6060_0.ownBlock=some b→b≠b6186:=fun b hb=>by have:=(hopr0_b6060_0.lt b hb).2;omega
           have hBpr0_b6060_0:∀ b,vopr0_b6060_0.ownBlock=some b→b∈(b6186 :: (b6165 :: B6124)):=fun b hb=>List.mem_cons_of_mem _ (hBpr0_b6060_0 b hb)
           clear e6192
           have h_la:=h_la.mv m6189
           have h_lb:=h_lb.mv m6189
           have h_secret:=h_secret.mv m6189
           have ho6041:=ho6041.mv m6189 k6190 (by simp)
           have hl6058:=hl6058.mv m6189
           have hvnc34_10_4:=hvnc34_10_4.mv m6189
           have hvnc34_11_4:=hvnc34_11_4.mv m6189
           have hp6077:=hp6077.mv m6189
           have hp6079:=hp6079.mv m6189
           have hd6185:=hd6185.mv m6189
           have hs6163:Enc.share.rd w6187 ((b6186 :: (b6165 :: B6124))++O) cs6162 ((CQ la secret)[(EW (CQ la secret) (fun x_=>x_.index == (lb[k]!).index)).toNat]!):=Enc.mv Enc.share (x:=(CQ la secret)[(EW (CQ la secret) (fun x_=>x_.index == (lb[k]!).index)).toNat]!) hs6163 m6189
           have hl6094:=hl6094.mv m6189
           have oD_r6080:=oD_r6080.keep k6190 (by simp)
           have hopr0_b6060_0:=hopr0_b6060_0.mv m6189 k6190 (by simp)
           have hbs_pr0_b6060:=hbs_pr0_b6060.keep k6190 (by simp)
           have hbn_bnc34_10:=hbn_bnc34_10.keep k6190 (by simp)
           have hbn_bnc34_11:=hbn_bnc34_11.keep k6190 (by simp)
           have oL_r6080:=oL_r6080.keep k6190 (by simp)
           have bx6183:=bx6183.keep k6190 (by simp)
           obtain ⟨d6206,rfl,hd6207⟩:=hs6163
           have:=hd6207.len_le
           refine BY (BC (vs:=[vI (((CQ la secret)[(EW (CQ la secret) (fun x_=>x_.index == (lb[k]!).index)).toNat]!).epoch),vI (((CQ la secret)[(EW (CQ la secret) (fun x_=>x_.index == (lb[k]!).index)).toNat]!).index),vI (((CQ la secret)[(EW (CQ la secret) (fun x_=>x_.index == (lb[k]!).index)).toNat]!).threshold),vI (((CQ la secret)[(EW (CQ la secret) (fun x_=>x_.index == (lb[k]!).index)).toNat]!).many),d6206]) (.agg #[vI (((CQ la secret)[(EW (CQ la secret) (fun x_=>x_.index == (lb[k]!).index)).toNat]!).epoch),vI (((CQ la secret)[(EW (CQ la secret) (fun x_=>x_.index == (lb[k]!).index)).toNat]!).index),vI (((CQ la secret)[(EW (CQ la secret) (fun x_=>x_.index == (lb[k]!).index)).toNat]!).threshold),vI (((CQ la secret)[(EW (CQ la secret) (fun x_=>x_.index == (lb[k]!).index)).toNat]!).many),d6206]) rfl rfl rfl DM (fun u hu=>by simp only [List.mem_cons,List.not_mem_nil,or_false] at hu;rcases hu with rfl|rfl|rfl|rfl|rfl <;> first|rfl|exact hd6207.oneCell) (by repeat (constructor)) bx6191 oT s6188 fun w6201 s6202 m6203 k6204 bx6205=>(?_))
           have h_la:=h_la.mv m6203
           have h_lb:=h_lb.mv m6203
           have h_secret:=h_secret.mv m6203
           have ho6041:=ho6041.mv m6203 k6204 (fun b hb=>BH (ne6199 b hb))
           have hl6058:=hl6058.mv m6203
           have hvnc34_10_4:=hvnc34_10_4.mv m6203
           have hvnc34_11_4:=hvnc34_11_4.mv m6203
           have hp6077:=hp6077.mv m6203
           have hp6079:=hp6079.mv m6203
           have hd6185:=hd6185.mv m6203
           have hd6207:=hd6207.mv m6203
           have hl6094:=hl6094.mv m6203
           have oD_r6080:=oD_r6080.keep k6204 (BH ne6193)
           have hopr0_b6060_0:=hopr0_b6060_0.mv m6203 k6204 (fun b hb=>BH (ne6200 b hb))
           have hbs_pr0_b6060:=hbs_pr0_b6060.keep k6204 (BH ne6194)
           have hbn_bnc34_10:=hbn_bnc34_10.keep k6204 (BH ne6195)
           have hbn_bnc34_11:=hbn_bnc34_11.keep k6204 (BH ne6196)
           have oL_r6080:=oL_r6080.keep k6204 (BH ne6197)
           have bx6183:=bx6183.keep k6204 (BH ne6198)
           refine AF (AC (?_))
           refine ⟨oL_r6080,fun w6208 k6209 ox6212=>?_⟩
           have s6210:=s6202.keepB k6209 rC
           have m6211:Mv (b6186 :: (b6165 :: B6124)) w6201 (b6186 :: (b6165 :: B6124)) w6208:=Mv.keepB k6209 rC
           have h_la:=h_la.mv m6211
           have h_lb:=h_lb.mv m6211
           have h_secret:=h_secret.mv m6211
           have ho6041:=ho6041.mv m6211 k6209 (fun b hb=>BH ((fun b hb=>(ne6090 b hb).2) b hb))
           have hl6058:=hl6058.mv m6211
           have hvnc34_10_4:=hvnc34_10_4.mv m6211
           have hvnc34_11_4:=hvnc34_11_4.mv m6211
           have hp6077:=hp6077.mv m6211
           have hp6079:=hp6079.mv m6211
           have hd6185:=hd6185.mv m6211
           have hd6207:=hd6207.mv m6211
           have hl6094:=hl6094.mv m6211
           have oD_r6080:=oD_r6080.keep k6209 (BH ne6091)
           have hopr0_b6060_0:=hopr0_b6060_0.mv m6211 k6209 (fun b hb=>BH (nbpr0_b6060_0_l_r6080 b hb))
           have hbs_pr0_b6060:=hbs_pr0_b6060.keep k6209 (BH ne6089.2)
           have hbn_bnc34_10:=hbn_bnc34_10.keep k6209 (BH ne6087.2)
           have hbn_bnc34_11:=hbn_bnc34_11.keep k6209 (BH ne6088.2)
           have bx6183:=bx6183.keep k6209 (BH (Ne.symm ne6176))
           have bx6205:=bx6205.keep k6209 (BH (Ne.symm ne6197))
           refine BR (?_)
           refine AG (?_)
           refine AB kR (AA (BD 4 GM rfl (AA (BI U23_ rfl (d6184) rfl bx6183 rfl (AA (BD 4 GM rfl (AA (BI U23_ rfl (d6206) rfl bx6205 rfl (AA (BB (vs:=[d6184,d6206]) enter_54 (c_xor (O:=(b6186 :: (b6165 :: B6124))++O) d6184 (((lb[k]!)).data) d6206 (((CQ la secret)[(EW (CQ la secret) (fun x_=>x_.index == (lb[k]!).index)).toNat]!).data) w6208 hd6185 hd6207 (by have:=hmx.bl (k:=k) oM;omega) (by have h1:=hmx.bl (k:=k) oM;have h2:=hmx.dl' (k:=k) oM;omega) s6210.lt) rfl s6210 fun v6213 w6214 s6215 m6216 k6217 r6218=>(?_)))))))))))
           obtain ⟨_,rfl,hl6219⟩:=r6218
           have:=hl6219.len_le
           have h_la:=h_la.mv m6216
           have h_lb:=h_lb.mv m6216
           have h_secret:=h_secret.mv m6216
           have ho6041:=ho6041.mv m6216 k6217 (by simp)
           have hl6058:=hl6058.mv m6216
           have hvnc34_10_4:=hvnc34_10_4.mv m6216
           have hvnc34_11_4:=hvnc34_11_4.mv m6216
           have hp6077:=hp6077.mv m6216
           have hp6079:=hp6079.mv m6216
           have hl6094:=hl6094.mv m6216
           have oD_r6080:=oD_r6080.keep k6217 (by simp)
           have hopr0_b6060_0:=hopr0_b6060_0.mv m6216 k6217 (by simp)
           have hbs_pr0_b6060:=hbs_pr0_b6060.keep k6217 (by simp)
           have hbn_bnc34_10:=hbn_bnc34_10.keep k6217 (by simp)
           have hbn_bnc34_11:=hbn_bnc34_11.keep k6217 (by simp)
           have ox6212:=ox6212.keep k6217 (by simp)
           have bx6183:=bx6183.keep k6217 (by simp)
           have bx6205:=bx6205.keep k6217 (by simp)
           refine AA (BD 4 GM rfl (BY (CK (v6213) rfl rfl hl6219.oneCell s_23 (by repeat (constructor)) bx6183 oT s6215 fun w6220 s6221 m6222 k6223 bx6224=>(?_))))
           have h_la:=h_la.mv m6222
           have h_lb:=h_lb.mv m6222
           have h_secret:=h_secret.mv m6222
           have ho6041:=ho6041.mv m6222 k6223 (fun b hb=>BH (ne6177 b hb))
           have hl6058:=hl6058.mv m6222
           have hvnc34_10_4:=hvnc34_10_4.mv m6222
           have hvnc34_11_4:=hvnc34_11_4.mv m6222
           have hp6077:=hp6077.mv m6222
           have hp6079:=hp6079.mv m6222
           have hl6219:=hl6219.mv m6222
           have hl6094:=hl6094.mv m6222
           have oD_r6080:=oD_r6080.keep k6223 (BH ne6172)
           have hopr0_b6060_0:=hopr0_b6060_0.mv m6222 k6223 (fun b hb=>BH (ne6178 b hb))
           have hbs_pr0_b6060:=hbs_pr0_b6060.keep k6223 (BH ne6173)
           have hbn_bnc34_10:=hbn_bnc34_10.keep k6223 (BH ne6174)
           have hbn_bnc34_11:=hbn_bnc34_11.keep k6223 (BH ne6175)
           have ox6212:=ox6212.keep k6223 (BH ne6176)
           have bx6205:=bx6205.keep k6223 (BH (Ne.symm ne6198))
           refine AF (AC (?_))
           refine AB kR (AA (BI U32_ rfl (vopr0_b6060_0) rfl hbs_pr0_b6060 rfl (AA (BN (vs:=[vI (((lb[k]!)).epoch),vI (((lb[k]!)).index),vI (((lb[k]!)).threshold),vI (((lb[k]!)).many),v6213]) U70_ rfl DM rfl bx6224 rfl (AA (IK (E:=Enc.share) (xs:=[.tmp 99]) U32_ DM MT (by decide) [.agg #[vI (((lb[k]!)).epoch),vI (((lb[k]!)).index),vI (((lb[k]!)).threshold),vI (((lb[k]!)).many),v6213]] [[vI (((lb[k]!)).epoch),vI (((lb[k]!)).index),vI (((lb[k]!)).threshold),vI (((lb[k]!)).many),v6213]] [(⟨((lb[k]!)).epoch,((lb[k]!)).index,((lb[k]!)).threshold,((lb[k]!)).many,xorM (((lb[k]!)).data) (((CQ la secret)[(EW (CQ la secret) (fun x_=>x_.index == (lb[k]!).index)).toNat]!).data)⟩:Share)] rfl rfl rfl (Parts.cons rfl ⟨_,rfl,hl6219⟩ (Parts.nil _ _ _)) oT s6221 fun v6229 w6225 s6226 m6227 k6228 hl6230=>(?_)))))))
           have h_la:=h_la.mv m6227
           have h_lb:=h_lb.mv m6227
           have h_secret:=h_secret.mv m6227
           have ho6041:=ho6041.mv m6227 k6228 (by simp)
           have hl6058:=hl6058.mv m6227
           have hvnc34_10_4:=hvnc34_10_4.mv m6227
           have hvnc34_11_4:=hvnc34_11_4.mv m6227
           have hp6077:=hp6077.mv m6227
           have hp6079:=hp6079.mv m6227
           have hopr0_b6060_0:=hopr0_b6060_0.mv m6227 k6228 (by simp)
           have hl6094:=hl6094.mv m6227
           have oD_r6080:=oD_r6080.keep k6228 (by simp)
           have hbs_pr0_b6060:=hbs_pr0_b6060.keep k6228 (by simp)
           have hbn_bnc34_10:=hbn_bnc34_10.keep k6228 (by simp)
           have hbn_bnc34_11:=hbn_bnc34_11.keep k6228 (by simp)
           have ox6212:=ox6212.keep k6228 (by simp)
           have bx6224:=bx6224.keep k6228 (by simp)
           have bx6205:=bx6205.keep k6228 (by simp)
           have:=hl6230.len_le
           refine AA (DG (E:=Enc.share) (l:=FC lb (CQ la secret) k) (m:=[(⟨((lb[k]!)).epoch,((lb[k]!)).index,((lb[k]!)).threshold,((lb[k]!)).many,xorM (((lb[k]!)).data) (((CQ la secret)[(EW (CQ la secret) (fun x_=>x_.index == (lb[k]!).index)).toNat]!).data)⟩:Share)]) U32_ i_70 rfl (by decide) rfl rfl hopr0_b6060_0 hl6230 (fun _ hb=>.inl hb) hBpr0_b6060_0 (by have:=mixD_len lb (CQ la secret) k;simp only [List.length_cons,List.length_nil];omega) (by have:=mixD_len lb (CQ la secret) k;simp only [List.length_cons,List.length_nil,maxLen];omega) s6226 fun v6235 w6231 B6237 hB6238 at6239 sub6240 s6232 m6233 k6234 ho6236=>(?_))
           have ne6241:∀ b,x6040.ownBlock=some b→v6235.ownBlock≠some b:=fun b hb e=>by rcases at6239 with e1|e1 <;> rw [e1] at e <;> first|(cases e;have:=(ho6041.lt _ hb).2;omega)|(exact absurd e (nppr0_b6060_0_x6040 b hb))
           have ne6242:∀ b,v6235.ownBlock=some b→b≠D_r6080:=fun b hb=>by rcases at6239 with e1|e1 <;> rw [e1] at hb <;> first|(cases hb;have:=oD_r6080.lt;omega)|(exact nbpr0_b6060_0_D_r6080 b hb)
           have ne6243:∀ b,v6235.ownBlock=some b→b≠b6060:=fun b hb=>by rcases at6239 with e1|e1 <;> rw [e1] at hb <;> first|(cases hb;have:=hbs_pr0_b6060.lt;omega)|(exact nbpr0_b6060_0_b6060 b hb)
           have ne6244:∀ b,v6235.ownBlock=some b→b≠bnc34_10:=fun b hb=>by rcases at6239 with e1|e1 <;> rw [e1] at hb <;> first|(cases hb;have:=hbn_bnc34_10.lt;omega)|(exact nbpr0_b6060_0_bnc34_10 b hb)
           have ne6245:∀ b,v6235.ownBlock=some b→b≠bnc34_11:=fun b hb=>by rcases at6239 with e1|e1 <;> rw [e1] at hb <;> first|(cases hb;have:=hbn_bnc34_11.lt;omega)|(exact nbpr0_b6060_0_bnc34_11 b hb)
           have ne6246:∀ b,v6235.ownBlock=some b→b≠l_r6080:=fun b hb=>by rcases at6239 with e1|e1 <;> rw [e1] at hb <;> first|(cases hb;have:=ox6212.lt;omega)|(exact nbpr0_b6060_0_l_r6080 b hb)
           have ne6247:∀ b,v6235.ownBlock=some b→b≠b6165:=fun b hb=>by rcases at6239 with e1|e1 <;> rw [e1] at hb <;> first|(cases hb;have:=bx6224.lt;omega)|(exact ne6178 b hb)
           have ne6248:∀ b,v6235.ownBlock=some b→b≠b6186:=fun b hb=>by rcases at6239 with e1|e1 <;> rw [e1] at hb <;> first|(cases hb;have:=bx6205.lt;omega)|(exact ne6200 b hb)
           have hin_D_r6080:D_r6080∈B6237:=sub6240 D_r6080 rC
           have hin_b6060:b6060∈B6237:=sub6240 b6060 rC
           have hin_bnc34_10:bnc34_10∈B6237:=sub6240 bnc34_10 rC
           have hin_bnc34_11:bnc34_11∈B6237:=sub6240 bnc34_11 rC
           have hin_l_r6080:l_r6080∈B6237:=sub6240 l_r6080 rC
           have hin_b6165:b6165∈B6237:=sub6240 b6165 (by repeat (constructor))
           have hin_b6186:b6186∈B6237:=sub6240 b6186 (by repeat (constructor))
           have h_la:=h_la.mv m6233
           have h_lb:=h_lb.mv m6233
           have h_secret:=h_secret.mv m6233
           have ho6041:=ho6041.mv m6233 k6234 (fun b hb=>by simp only [Option.mem_toList];exact nppr0_b6060_0_x6040 b hb)
           have hl6058:=hl6058.mv m6233
           have hvnc34_10_4:=hvnc34_10_4.mv m6233
           have hvnc34_11_4:=hvnc34_11_4.mv m6233
           have hp6077:=hp6077.mv m6233
           have hp6079:=hp6079.mv m6233
           have hl6094:=hl6094.mv m6233
           have oD_r6080:=oD_r6080.keep k6234 (by simp only [Option.mem_toList];exact fun e=>absurd rfl (nbpr0_b6060_0_D_r6080 _ e))
           have hbs_pr0_b6060:=hbs_pr0_b6060.keep k6234 (by simp only [Option.mem_toList];exact fun e=>absurd rfl (nbpr0_b6060_0_b6060 _ e))
           have hbn_bnc34_10:=hbn_bnc34_10.keep k6234 (by simp only [Option.mem_toList];exact fun e=>absurd rfl (nbpr0_b6060_0_bnc34_10 _ e))
           have hbn_bnc34_11:=hbn_bnc34_11.keep k6234 (by simp only [Option.mem_toList];exact fun e=>absurd rfl (nbpr0_b6060_0_bnc34_11 _ e))
           have ox6212:=ox6212.keep k6234 (by simp only [Option.mem_toList];exact fun e=>absurd rfl (nbpr0_b6060_0_l_r6080 _ e))
           refine BY (CK (v6235) rfl rfl ho6236.oneCell s_32 (by repeat (assumption)) hbs_pr0_b6060 oT s6232 fun w6249 s6250 m6251 k6252 bx6253=>(?_))
           have h_la:=h_la.mv m6251
           have h_lb:=h_lb.mv m6251
           have h_secret:=h_secret.mv m6251
           have ho6041:=ho6041.mv m6251 k6252 (fun b hb=>BH (ne6069 b hb))
           have hl6058:=hl6058.mv m6251
           have hvnc34_10_4:=hvnc34_10_4.mv m6251
           have hvnc34_11_4:=hvnc34_11_4.mv m6251
           have hp6077:=hp6077.mv m6251
           have hp6079:=hp6079.mv m6251
           have ho6236:=ho6236.mv m6251 k6252 (fun b hb=>BH (ne6243 b hb))
           have hl6094:=hl6094.mv m6251
           have oD_r6080:=oD_r6080.keep k6252 (BH (Ne.symm ne6089.1))
           have hbn_bnc34_10:=hbn_bnc34_10.keep k6252 (BH ne6067)
           have hbn_bnc34_11:=hbn_bnc34_11.keep k6252 (BH ne6068)
           have ox6212:=ox6212.keep k6252 (BH (Ne.symm ne6089.2))
           refine AF (CI (round_n ox6212 (fun w6254 k6255 ox6258=>?_)))
           have s6256:=s6250.keepB k6255 (by repeat (assumption))
           have m6257:Mv B6237 w6249 B6237 w6254:=Mv.keepB k6255 (by repeat (assumption))
           have h_la:=h_la.mv m6257
           have h_lb:=h_lb.mv m6257
           have h_secret:=h_secret.mv m6257
           have ho6041:=ho6041.mv m6257 k6255 (fun b hb=>BH ((fun b hb=>(ne6090 b hb).2) b hb))
           have hl6058:=hl6058.mv m6257
           have hvnc34_10_4:=hvnc34_10_4.mv m6257
           have hvnc34_11_4:=hvnc34_11_4.mv m6257
           have hp6077:=hp6077.mv m6257
           have hp6079:=hp6079.mv m6257
           have ho6236:=ho6236.mv m6257 k6255 (fun b hb=>BH (ne6246 b hb))
           have hl6094:=hl6094.mv m6257
           have oD_r6080:=oD_r6080.keep k6255 (BH ne6091)
           have bx6253:=bx6253.keep k6255 (BH ne6089.2)
           have hbn_bnc34_10:=hbn_bnc34_10.keep k6255 (BH ne6087.2)
           have hbn_bnc34_11:=hbn_bnc34_11.keep k6255 (BH ne6088.2)
           have oL_r6080:=ox6258
           refine BE rfl (HC true rfl (AA (BK (vO false) rfl rfl (AF (AC (?_))))))
           refine AO false rfl rfl (fun h=>by cases h) (fun _=>?_)
           refine AU (CI (AC (?_)))
           refine AB kR (AA (DC .i64 ((k:Nat):Int) (1:Int) (((k+1:Nat):Int)) rfl rfl (FO oM oM) (AA (AE (vI ((k+1:Nat):Int)) rfl (AF (AC (?_)))))))
           exact ⟨_,oM,(k+1),v6235,B6237,oM,rfl,⟨_,AX _ ⟨rfl,rfl,rfl,rfl,(by rfl),rfl,trivial⟩⟩,s6256,(by rw [show FC lb (CQ la secret) (k+1)=(FC lb (CQ la secret) k)++([(⟨((lb[k]!)).epoch,((lb[k]!)).index,((lb[k]!)).threshold,((lb[k]!)).many,xorM (((lb[k]!)).data) (((CQ la secret)[(EW (CQ la secret) (fun x_=>x_.index == (lb[k]!).index)).toNat]!).data)⟩:Share)]) from mixD_succ oM];exact ho6236),hB6238,hp6079,hl6094,h_la,h_lb,h_secret,ho6041,hl6058,hvnc34_10_4,hvnc34_11_4,hp6077,oD_r6080,aS,bx6253,aS,hbn_bnc34_10,aS,hbn_bnc34_11,aS,oL_r6080,aS,ne6242,ne6243,ne6244,ne6245,ne6246,(fun b hb e=>ne6241 b e hb),ne6241⟩
          ·have hp6259:(lb.length:Int)≤((k:Nat):Int):=by simpa using hc6095
           obtain rfl:k=lb.length:=by omega
           refine DE (CC (CC (CY (FP rfl (IH rfl) (?_)))))
           refine ⟨⟨_,rfl⟩,?_⟩
           refine ⟨.ready,none,by simp,oL_r6080,fun w6260 k6261=>?_⟩
           have s6262:=slpr0.keepB k6261 (by repeat (assumption))
           have m6263:Mv Blpr0 wlpr0 Blpr0 w6260:=Mv.keepB k6261 (by repeat (assumption))
           have h_secret:=h_secret.mv m6263
           have ho6041:=ho6041.mv m6263 k6261 (fun b hb=>BH ((fun b hb=>(ne6090 b hb).2) b hb))
           have oD_r6080:=oD_r6080.keep k6261 (BH ne6091)
           have hopr0_b6060_0:=hopr0_b6060_0.mv m6263 k6261 (fun b hb=>BH (nbpr0_b6060_0_l_r6080 b hb))
           have hbs_pr0_b6060:=hbs_pr0_b6060.keep k6261 (BH ne6089.2)
           have hbn_bnc34_10:=hbn_bnc34_10.keep k6261 (BH ne6087.2)
           have hbn_bnc34_11:=hbn_bnc34_11.keep k6261 (BH ne6088.2)
           refine CI (AC (?_))
           refine AG (?_)
           obtain ⟨B6264,s6265,m6266,hl6267,hk6268⟩:=hopr0_b6060_0.publish s6262
           have hin_D_r6080:D_r6080∈B6264:=hk6268 D_r6080 (by repeat (assumption)) (fun e=>absurd rfl (nbpr0_b6060_0_D_r6080 _ e))
           have hin_b6060:b6060∈B6264:=hk6268 b6060 (by repeat (assumption)) (fun e=>absurd rfl (nbpr0_b6060_0_b6060 _ e))
           have hin_bnc34_10:bnc34_10∈B6264:=hk6268 bnc34_10 (by repeat (assumption)) (fun e=>absurd rfl (nbpr0_b6060_0_bnc34_10 _ e))
           have hin_bnc34_11:bnc34_11∈B6264:=hk6268 bnc34_11 (by repeat (assumption)) (fun e=>absurd rfl (nbpr0_b6060_0_bnc34_11 _ e))
           have lim6269:=hl6267.len_le
           have h_secret:=h_secret.mv m6266
           have ho6041:=ho6041.mv m6266 (Keep.refl [] _) (by simp)
           have oD_r6080:=oD_r6080.keep (Keep.refl [] _) (by simp)
           have hbs_pr0_b6060:=hbs_pr0_b6060.keep (Keep.refl [] _) (by simp)
           have hbn_bnc34_10:=hbn_bnc34_10.keep (Keep.refl [] _) (by simp)
           have hbn_bnc34_11:=hbn_bnc34_11.keep (Keep.refl [] _) (by simp)
           refine cw_draw' 9 _ _ [fun (vT:Value) (wT:World)=>BG Enc.share wT (B6264++O) vT (FC lb (CQ la secret) lb.length),fun (vT:Value) (wT:World)=>BG Enc.u8 wT (B6264++O) vT (secret),DF (vI (secret.length:Int)),fun (vT:Value) (wT:World)=>BG Enc.u8 wT (B6264++O) vT (List.replicate secret.length (0:UInt8)),fun (vT:Value) (wT:World)=>∃ (xT0:Value),vT = .tuple #[xT0,vI ((BJ (FC lb (CQ la secret) lb.length) (List.replicate secret.length (0:UInt8))).2)]∧BG Enc.u8 wT (B6264++O) xT0 ((BJ (FC lb (CQ la secret) lb.length) (List.replicate secret.length (0:UInt8))).1),fun (vT:Value) (wT:World)=>∃ (xT0:Value),vT = .tuple #[xT0,vI ((BJ (FC lb (CQ la secret) lb.length) (List.replicate secret.length (0:UInt8))).2)]∧BG Enc.u8 wT (B6264++O) xT0 ((BJ (FC lb (CQ la secret) lb.length) (List.replicate secret.length (0:UInt8))).1),fun (vT:Value) (wT:World)=>BG Enc.u8 wT (B6264++O) vT ((BJ (FC lb (CQ la secret) lb.length) (List.replicate secret.length (0:UInt8))).1),DF (vI ((BJ (FC lb (CQ la secret) lb.length) (List.replicate secret.length (0:UInt8))).2)),fun (vT:Value) (wT:World)=>BG Enc.u8 wT (B6264++O) vT ((BJ (FC lb (CQ la secret) lb.length) (List.replicate secret.length (0:UInt8))).1)] kR kR kR kR rfl rfl ⟨fun _ _ _ h k=>h.mv (Mv.of_keep k),fun _ _ _ h k=>h.mv (Mv.of_keep k),kI,fun _ _ _ h k=>h.mv (Mv.of_keep k),fun _ _ _ ⟨y0,e,h0⟩ k=>⟨y0,e,h0.mv (Mv.of_keep k)⟩,fun _ _ _ ⟨y0,e,h0⟩ k=>⟨y0,e,h0.mv (Mv.of_keep k)⟩,fun _ _ _ h k=>h.mv (Mv.of_keep k),kI,fun _ _ _ h k=>h.mv (Mv.of_keep k),trivial⟩ ⟨?_,?_,?_,?_,?_,?_,?_,?_,?_,trivial⟩ ?_
           ·intro F1 w1 k1 hf hd
            have k0:=(Keep.drew [] w6260).trans k1
            have m1:Mv B6264 w6260 B6264 w1:=Mv.of_keep k0
            have hbs_pr0_b6060:=hbs_pr0_b6060.keep k0 (by simp)
            have hl6267:=hl6267.mv m1
            obtain ⟨F2,rfl⟩:=AL (F:=F1) [(14,vP (some ⟨b6060,0,none⟩))] ⟨hf 14 kR,trivial⟩
            exact AH rfl ((BI U32_ rfl (vopr0_b6060_0) rfl hbs_pr0_b6060 rfl (⟨(Keep.refl _ _),hl6267⟩)))
           ·intro F1 w1 k1 hf hd
            have k0:=(Keep.drew [] w6260).trans k1
            have m1:Mv B6264 w6260 B6264 w1:=Mv.of_keep k0
            have h_secret:=h_secret.mv m1
            obtain ⟨F2,rfl⟩:=AL (F:=F1) [(2,secret_v)] ⟨hf 2 kR,trivial⟩
            exact AH rfl ((AE (secret_v) rfl (⟨(Keep.refl _ _),h_secret⟩)))
           ·intro F1 w1 k1 hf hd
            obtain ⟨v6270,e6272,hl6271⟩:∃ v,F1 104=v∧BG Enc.u8 w1 (B6264++O) v (secret):=⟨_,rfl,hd 1 104 kR⟩
            have:=hl6271.len_le
            obtain ⟨F2,rfl⟩:=AL (F:=F1) [(104,v6270)] ⟨e6272,trivial⟩
            exact AH rfl ((CG U23_ rfl hl6271 (⟨(Keep.refl _ _),rfl⟩)))
           ·intro F1 w1 k1 hf hd
            have k0:=(Keep.drew [] w6260).trans k1
            have s1:=s6265.call k0
            obtain ⟨F2,rfl⟩:=AL (F:=F1) [(105,vI (secret.length:Int))] ⟨hd 2 105 kR,trivial⟩
            refine AH rfl ((o_makeR (E:=Enc.u8) U23_ i_5 [vB (0:UInt8)] rfl rfl (by decide) (0:UInt8) (fun _ _=>rfl) .i64 .i64 (secret.length:Int) (secret.length:Int) secret.length secret.length rfl rfl rfl rfl oM oM (by simp only [maxLen];omega) s1 fun v6277 w6273 s6274 m6275 k6276 hl6278=>(?_)))
            exact ⟨k6276,hl6278⟩
           ·intro F1 w1 k1 hf hd
            have k0:=(Keep.drew [] w6260).trans k1
            have s1:=s6265.call k0
            obtain ⟨v6279,e6281,hl6280⟩:∃ v,F1 103=v∧BG Enc.share w1 (B6264++O) v (FC lb (CQ la secret) lb.length):=⟨_,rfl,hd 0 103 kR⟩
            have:=hl6280.len_le
            obtain ⟨v6282,e6284,hl6283⟩:∃ v,F1 106=v∧BG Enc.u8 w1 (B6264++O) v (List.replicate secret.length (0:UInt8)):=⟨_,rfl,hd 3 106 kR⟩
            have:=hl6283.len_le
            obtain ⟨F2,rfl⟩:=AL (F:=F1) [(103,v6279),(106,v6282)] ⟨e6281,e6284,trivial⟩
            refine AH rfl ((BB (vs:=[v6279,v6282]) enter_15 (VO (O:=B6264++O) v6279 (FC lb (CQ la secret) lb.length) v6282 (List.replicate secret.length (0:UInt8)) w1 hl6280 hl6283 s1.lt) rfl s1 fun v6285 w6286 s6287 m6288 k6289 r6290=>(?_)))
            obtain ⟨x6291,rfl,hv6293,ho6292⟩:=r6290
            have ho6292:=ho6292.rd (O':=B6264++O) (fun x hx=>.inl (List.mem_append_right _ hx)) (fun c hc hx=>by have:=hv6293 c hc;have:=s1.lt c hx;omega)
            have:=ho6292.len_le
            exact ⟨k6289,⟨x6291,rfl,ho6292⟩⟩
           ·intro F1 w1 k1 hf hd
            obtain ⟨x6294,e6296,hl6295⟩:(fun (vT:Value) (wT:World)=>∃ (xT0:Value),vT = .tuple #[xT0,vI ((BJ (FC lb (CQ la secret) lb.length) (List.replicate secret.length (0:UInt8))).2)]∧BG Enc.u8 wT (B6264++O) xT0 ((BJ (FC lb (CQ la secret) lb.length) (List.replicate secret.length (0:UInt8))).1)) (F1 107) w1:=hd 4 107 kR
            have:=hl6295.len_le
            obtain ⟨F2,rfl⟩:=AL (F:=F1) [(107,vT #[x6294,vI ((BJ (FC lb (CQ la secret) lb.length) (List.replicate secret.length (0:UInt8))).2)])] ⟨e6296,trivial⟩
            exact AH rfl ((AE (vT #[x6294,vI ((BJ (FC lb (CQ la secret) lb.length) (List.replicate secret.length (0:UInt8))).2)]) rfl (⟨(Keep.refl _ _),⟨x6294,rfl,hl6295⟩⟩)))
           ·intro F1 w1 k1 hf hd
            obtain ⟨x6297,e6299,hl6298⟩:(fun (vT:Value) (wT:World)=>∃ (xT0:Value),vT = .tuple #[xT0,vI ((BJ (FC lb (CQ la secret) lb.length) (List.replicate secret.length (0:UInt8))).2)]∧BG Enc.u8 wT (B6264++O) xT0 ((BJ (FC lb (CQ la secret) lb.length) (List.replicate secret.length (0:UInt8))).1)) (F1 102) w1:=hd 5 102 kR
            have:=hl6298.len_le
            obtain ⟨F2,rfl⟩:=AL (F:=F1) [(102,vT #[x6297,vI ((BJ (FC lb (CQ la secret) lb.length) (List.replicate secret.length (0:UInt8))).2)])] ⟨e6299,trivial⟩
            exact AH rfl ((AN (x6297) rfl rfl (⟨(Keep.refl _ _),hl6298⟩)))
           ·intro F1 w1 k1 hf hd
            obtain ⟨x6300,e6302,hl6301⟩:(fun (vT:Value) (wT:World)=>∃ (xT0:Value),vT = .tuple #[xT0,vI ((BJ (FC lb (CQ la secret) lb.length) (List.replicate secret.length (0:UInt8))).2)]∧BG Enc.u8 wT (B6264++O) xT0 ((BJ (FC lb (CQ la secret) lb.length) (List.replicate secret.length (0:UInt8))).1)) (F1 102) w1:=hd 5 102 kR
            have:=hl6301.len_le
            obtain ⟨F2,rfl⟩:=AL (F:=F1) [(102,vT #[x6300,vI ((BJ (FC lb (CQ la secret) lb.length) (List.replicate secret.length (0:UInt8))).2)])] ⟨e6302,trivial⟩
            exact AH rfl ((AN (vI ((BJ (FC lb (CQ la secret) lb.length) (List.replicate secret.length (0:UInt8))).2)) rfl rfl (⟨(Keep.refl _ _),rfl⟩)))
           ·intro F1 w1 k1 hf hd
            obtain ⟨v6303,e6305,hl6304⟩:∃ v,F1 108=v∧BG Enc.u8 w1 (B6264++O) v ((BJ (FC lb (CQ la secret) lb.length) (List.replicate secret.length (0:UInt8))).1):=⟨_,rfl,hd 6 108 kR⟩
            have:=hl6304.len_le
            obtain ⟨F2,rfl⟩:=AL (F:=F1) [(108,v6303)] ⟨e6305,trivial⟩
            exact AH rfl ((AD (v6303) rfl (⟨(Keep.refl _ _),hl6304⟩)))
           intro F6307 w6308 k6306 hT6309 hF6310
           have s6311:=s6265.call k6306
           have m6312:Mv B6264 w6260 B6264 w6308:=Mv.of_keep k6306
           have ho6041:=ho6041.mv m6312 k6306 (by simp)
           have oD_r6080:=oD_r6080.keep k6306 (by simp)
           have hbs_pr0_b6060:=hbs_pr0_b6060.keep k6306 (by simp)
           have hbn_bnc34_10:=hbn_bnc34_10.keep k6306 (by simp)
           have hbn_bnc34_11:=hbn_bnc34_11.keep k6306 (by simp)
           obtain ⟨v6315,e6317,hl6316⟩:∃ v,F6307 17=v∧BG Enc.u8 w6308 (B6264++O) v ((BJ (FC lb (CQ la secret) lb.length) (List.replicate secret.length (0:UInt8))).1):=⟨_,rfl,hT6309 8 17 kR (by decide)⟩
           have:=hl6316.len_le
           obtain ⟨F2,rfl⟩:=AL (F:=F6307) [(7,vI ((BV secret (la[0]!.epoch) (la[0]!.threshold) (la[0]!.many) ((BJ la secret).1)).2)),(12,x6040),(116,MO D_r6080),(17,v6315),(109,vI ((BJ (FC lb (CQ la secret) lb.length) (List.replicate secret.length (0:UInt8))).2))] ⟨hF6310 7 kR,hF6310 12 kR,hF6310 116 kR,e6317,hT6309 7 109 kR (by decide),trivial⟩
           clear hT6309 hF6310
           refine AA (AD (vI ((BJ (FC lb (CQ la secret) lb.length) (List.replicate secret.length (0:UInt8))).2)) rfl (AF (AC (?_))))
           refine AG (?_)
           refine AG (?_)
           refine AB kR (AA (AE (vI ((BJ (FC lb (CQ la secret) lb.length) (List.replicate secret.length (0:UInt8))).2)) rfl (AA (CV .i64 ((BJ (FC lb (CQ la secret) lb.length) (List.replicate secret.length (0:UInt8))).2) (0:Int) rfl rfl (AF (AC (?_)))))))
           refine AO (((BJ (FC lb (CQ la secret) lb.length) (List.replicate secret.length (0:UInt8))).2) != (0:Int)) rfl rfl (fun hc6318=>?_) (fun hc6318=>?_)
           ·have hp6319:(BJ (FC lb (CQ la secret) lb.length) (List.replicate secret.length (0:UInt8))).2≠(0:Int):=by simpa using hc6318
            refine AG (?_)
            refine AB kR (AA (AE (vI ((BJ (FC lb (CQ la secret) lb.length) (List.replicate secret.length (0:UInt8))).2)) rfl (AA (AD (nS) rfl (AA (AD (vI ((BJ (FC lb (CQ la secret) lb.length) (List.replicate secret.length (0:UInt8))).2)) rfl (AF (AC (?_)))))))))
            refine AP (AR (?_))
            refine endM_rm rfl oD_r6080 (fun w6320 k6321=>?_)
            have s6322:=s6311.keepB k6321 (by repeat (assumption))
            refine ⟨_,FF rfl rfl rfl rfl,?_⟩
            have e6324:((CA la lb secret).1)=([]):=by exact congrArg (fun p=>p.1) (show CA la lb secret=_ from mixed_5 hca hcb hmb hex aS)
            have e6325:((CA la lb secret).2)=((BJ (FC lb (CQ la secret) lb.length) (List.replicate secret.length (0:UInt8))).2):=by exact congrArg (fun p=>p.2) (show CA la lb secret=_ from mixed_5 hca hcb hmb hex aS)
            exact ⟨_,rfl,s6322.keep,by rw [e6324,e6325];exact ⟨.slice none 0 0,rfl,BG.nil _ _ _⟩⟩
           ·have hp6326:(BJ (FC lb (CQ la secret) lb.length) (List.replicate secret.length (0:UInt8))).2=(0:Int):=by simpa using hc6318
            refine AU (AC (?_))
            refine AG (?_)
            refine AB kR (AA (AE (x6040) rfl (AA (AE (v6315) rfl (?_)))))
            obtain ⟨B6327,hB6328,sub6331,s6329,ho6330⟩:=own_back s6311 ho6041
            refine AA (o_append8 (l:=(BJ la secret).1) (m:=(BJ (FC lb (CQ la secret) lb.length) (List.replicate secret.length (0:UInt8))).1) U23_ i_5 rfl (by decide) rfl rfl ho6330 hl6316 hB6328 (by have:=MZ (l:=FC lb (CQ la secret) lb.length) aS;omega) (by have:=MZ (l:=FC lb (CQ la secret) lb.length) aS;simp only [maxLen];omega) s6329 fun v6336 w6332 B6338 hB6339 at6340 sub6341 s6333 m6334 k6335 ho6337=>(?_))
            have ne6342:∀ b,v6336.ownBlock=some b→b≠D_r6080:=fun b hb=>by have:=oD_r6080.lt;rcases at6340 with e1|e1 <;> rw [e1] at hb <;> first|exact (fun b hb=>(ne6090 b hb).1) b hb|(cases hb;omega)
            have oD_r6080:=oD_r6080.keep k6335 (by simp only [Option.mem_toList];exact fun e=>absurd rfl ((fun b hb=>(ne6090 b hb).1) _ e))
            have hin_D_r6080:D_r6080∈B6338:=sub6341 D_r6080 (sub6331 D_r6080 (by repeat (assumption)))
            have ne6343:∀ b,v6336.ownBlock=some b→b≠b6060:=fun b hb=>by have:=hbs_pr0_b6060.lt;rcases at6340 with e1|e1 <;> rw [e1] at hb <;> first|exact ne6069 b hb|(cases hb;omega)
            have hin_b6060:b6060∈B6338:=sub6341 b6060 (sub6331 b6060 (by repeat (assumption)))
            have ne6344:∀ b,v6336.ownBlock=some b→b≠bnc34_10:=fun b hb=>by have:=hbn_bnc34_10.lt;rcases at6340 with e1|e1 <;> rw [e1] at hb <;> first|exact ne6044 b hb|(cases hb;omega)
            have hin_bnc34_10:bnc34_10∈B6338:=sub6341 bnc34_10 (sub6331 bnc34_10 (by repeat (assumption)))
            have ne6345:∀ b,v6336.ownBlock=some b→b≠bnc34_11:=fun b hb=>by have:=hbn_bnc34_11.lt;rcases at6340 with e1|e1 <;> rw [e1] at hb <;> first|exact ne6045 b hb|(cases hb;omega)
            have hin_bnc34_11:bnc34_11∈B6338:=sub6341 bnc34_11 (sub6331 bnc34_11 (by repeat (assumption)))
            refine AA (AD (v6336) rfl (AA (AD (vI 0) rfl (AF (AC (?_))))))
            refine AP (?_)
            refine endM_rm rfl oD_r6080 (fun w6346 k6347=>?_)
            have s6348:=s6333.keepB k6347 (by repeat (assumption))
            have m6349:Mv B6338 w6332 B6338 w6346:=Mv.keepB k6347 (by repeat (assumption))
            have ho6337:=ho6337.mv m6349 k6347 (fun b hb=>BH (ne6342 b hb))
            refine ⟨_,FF rfl rfl rfl rfl,?_⟩
            have e6350:((CA la lb secret).1)=(((BJ la secret).1)++((BJ (FC lb (CQ la secret) lb.length) (List.replicate secret.length (0:UInt8))).1)):=by exact congrArg (fun p=>p.1) (show CA la lb secret=_ from mixed_6 hca hcb hmb hex aS)
            have e6351:((CA la lb secret).2)=(0:Int):=by exact congrArg (fun p=>p.2) (show CA la lb secret=_ from mixed_6 hca hcb hmb hex aS)
            exact ⟨_,rfl,s6348.keep,by rw [e6350,e6351];exact ⟨v6336,rfl,ho6337.pub s6348⟩⟩
      ·have hp6352:((la[0]!.data).length:Int)≠((lb[0]!.data).length:Int):=by simpa using hb6027
       refine AT rfl (AT rfl (AT rfl (AT rfl (AT rfl (AT rfl (AA (BK (vO true) rfl rfl (AF (AC (?_))))))))))
       refine AO true rfl rfl (fun _=>?_) (fun h=>by cases h)
       refine AG (?_)
       refine AB kR (AA (AD (nS) rfl (AA (AD (vI 460) rfl (AF (AC (?_)))))))
       refine AP (AR (OV rfl (FF rfl rfl rfl rfl) (?_)))
       have e6353:((CA la lb secret).1)=([]):=by exact congrArg (fun p=>p.1) (show CA la lb secret=_ from LE aS aS (GT oM))
       have e6354:((CA la lb secret).2)=(460:Int):=by exact congrArg (fun p=>p.2) (show CA la lb secret=_ from LE aS aS (GT oM))
       exact ⟨_,rfl,slc34.keep,by rw [e6353,e6354];exact ⟨.slice none 0 0,rfl,BG.nil _ _ _⟩⟩
     ·have hp6355:la[0]!.many≠lb[0]!.many:=by simpa using hb6025
      refine AT rfl (AT rfl (AT rfl (AT rfl (AT rfl (AT rfl (AT rfl (AA (BK (vO true) rfl rfl (AA (AE (vO true) rfl (AT rfl (AT rfl (AT rfl (AT rfl (AT rfl (AT rfl (AA (BK (vO true) rfl rfl (AF (AC (?_)))))))))))))))))))))
      refine AO true rfl rfl (fun _=>?_) (fun h=>by cases h)
      refine AG (?_)
      refine AB kR (AA (AD (nS) rfl (AA (AD (vI 460) rfl (AF (AC (?_)))))))
      refine AP (AR (OV rfl (FF rfl rfl rfl rfl) (?_)))
      have e6356:((CA la lb secret).1)=([]):=by exact congrArg (fun p=>p.1) (show CA la lb secret=_ from LE aS aS (GT oM))
      have e6357:((CA la lb secret).2)=(460:Int):=by exact congrArg (fun p=>p.2) (show CA la lb secret=_ from LE aS aS (GT oM))
      exact ⟨_,rfl,slc34.keep,by rw [e6356,e6357];exact ⟨.slice none 0 0,rfl,BG.nil _ _ _⟩⟩
    ·have hp6358:la[0]!.threshold≠lb[0]!.threshold:=by simpa using hb6023
     refine AT rfl (AT rfl (AT rfl (AT rfl (AT rfl (AA (BK (vO true) rfl rfl (AA (AE (vO true) rfl (AT rfl (AT rfl (AT rfl (AT rfl (AT rfl (AT rfl (AT rfl (AA (BK (vO true) rfl rfl (AA (AE (vO true) rfl (AT rfl (AT rfl (AT rfl (AT rfl (AT rfl (AT rfl (AA (BK (vO true) rfl rfl (AF (AC (?_))))))))))))))))))))))))))))))
     refine AO true rfl rfl (fun _=>?_) (fun h=>by cases h)
     refine AG (?_)
     refine AB kR (AA (AD (nS) rfl (AA (AD (vI 460) rfl (AF (AC (?_)))))))
     refine AP (AR (OV rfl (FF rfl rfl rfl rfl) (?_)))
     have e6359:((CA la lb secret).1)=([]):=by exact congrArg (fun p=>p.1) (show CA la lb secret=_ from LE aS aS (GT oM))
     have e6360:((CA la lb secret).2)=(460:Int):=by exact congrArg (fun p=>p.2) (show CA la lb secret=_ from LE aS aS (GT oM))
     exact ⟨_,rfl,slc34.keep,by rw [e6359,e6360];exact ⟨.slice none 0 0,rfl,BG.nil _ _ _⟩⟩
open Go.Fw Go.RowKit
set_option maxHeartbeats 4000000 in
set_option maxRecDepth 100000 in
theorem NN {O B:List Nat} {w0 w:World} (e:Int) (x0 x1:Nat) (s0:St w0 O w B) (h0:GQ w x0 28 [vI 0,vI 0,vI 0,nS,nS]) (h1:GQ w x1 29 [vI 0]) (hin_x0:x0∈B) (hin_x1:x1∈B) (hne:x0≠x1):CallsD Try.prog 103 [vP (some ⟨x0,0,none⟩),vP (some ⟨x1,0,none⟩)].toArray (.panicking [{ v:=.iface 125 (.agg #[vI e]),recovered:=false }]) w (fun e_ u_ w_=>u_=UY (.panicking [{ v:=.iface 125 (.agg #[vI e]),recovered:=false }])∧∃ v,e_ = .returned v∧St w0 O w_ B∧Mv B w B w_∧Keep [x0,x1] w w_∧GQ w_ x0 28 [vI 0,vI 0,vI 0,nS,nS]∧GQ w_ x1 29 [vI e]):= by
  have ms:Mv B w B w:=Mv.refl _ _
  have ks:Keep [x0,x1] w w:=Keep.refl _ _
  refine UG 19 (.panicking [{ v:=.iface 125 (.agg #[vI e]),recovered:=false }]) Try.func103 rfl rfl oT rfl rfl (fun F0=>?_)
  refine AG (?_)
  refine AB kR (AA (AE (Value.iface 125 (vA #[vI e])) rfl (AA (o_neqNil U20_ rfl (AF (AC (?_)))))))
  refine AO true rfl rfl (fun _=>?_) (fun h=>by cases h)
  refine AG (?_)
  refine AB kR (AA (AE (Value.iface 125 (vA #[vI e])) rfl (AA (o_assertOk U125_ rfl rfl (AA (AE (vT #[vA #[vI e],vO true]) rfl (AA (AN (vA #[vI e]) rfl rfl (AA (AN (vO true) rfl rfl (AA (CX [vI 0] PV rfl s0 fun b3463 w3464 e3469 s3465 m3466 k3467 bx3468=>(?_)))))))))))))
  have hnew_b3463:w.heap.size≤b3463:=by have:=ks.size;omega
  have ne3470:x0≠b3463:=by have:=h0.lt;omega
  have ne3471:x1≠b3463:=by have:=h1.lt;omega
  clear e3469
  have h0:=h0.keep k3467 (by simp)
  have h1:=h1.keep k3467 (by simp)
  have ms:=ms.trans m3466
  have ks:=ks.step0 k3467 (fun b hb=>by (simp at hb;done))
  refine BY (BC (vs:=[vI e]) (.agg #[vI e]) rfl rfl rfl s_125 (fun u hu=>by simp only [List.mem_cons,List.not_mem_nil,or_false] at hu;rcases hu with rfl <;> rfl) (by repeat (constructor)) bx3468 oT s3465 fun w3472 s3473 m3474 k3475 bx3476=>(?_))
  have h0:=h0.keep k3475 (BH ne3470)
  have h1:=h1.keep k3475 (BH ne3471)
  have ms:=ms.trans m3474
  have ks:=ks.step0 k3475 (fun b hb=>by (simp only [List.mem_singleton] at hb;subst hb;(right;omega)))
  refine AA (AD (vO true) rfl (AF (AC (?_))))
  refine AG (?_)
  refine AG (?_)
  refine AB kR (AA (AE (vO true) rfl (AA (HC true rfl (AF (AC (?_)))))))
  refine AO false rfl rfl (fun h=>by cases h) (fun _=>?_)
  refine AU (AC (?_))
  refine cw_drawL 3 [1,2] _ _ _ [DF (vA #[vI 0,vI 0,vI 0,nS,nS]),DF (vP (some ⟨b3463,0,none⟩)),DF (vI e)] kR kR kR kR (by decide) rfl rfl rfl ⟨kI,kI,kI,trivial⟩ ⟨?_,?_,?_,trivial⟩ ?_ ?_
  · intro F1 w1 k1 hf hd
    have k0:=(Keep.drew [] w3472).trans k1
    have s1:=s3473.call k0
    have m1:Mv (b3463 :: B) w3472 (b3463 :: B) w1:=Mv.of_keep k0
    obtain ⟨F2,rfl⟩:=AL (F:=F1) [] trivial
    exact AH rfl ((EE (l:=[]) RS II rfl [] [vI 0,vI 0,vI 0,nS,nS] rfl rfl (⟨(Keep.refl _ _),rfl⟩)))
  · intro F1 w1 k1 hf hd
    have k0:=(Keep.drew [] w3472).trans k1
    have s1:=s3473.call k0
    have m1:Mv (b3463 :: B) w3472 (b3463 :: B) w1:=Mv.of_keep k0
    have bx3476:=bx3476.keep k0 (by simp)
    obtain ⟨F2,rfl⟩:=AL (F:=F1) [(3,vP (some ⟨b3463,0,none⟩))] ⟨hf 3 kR,trivial⟩
    exact AH rfl ((BD 0 f_125_0 rfl (⟨(Keep.refl _ _),rfl⟩)))
  · intro F1 w1 k1 hf hd
    have k0:=(Keep.drew [] w3472).trans k1
    have s1:=s3473.call k0
    have m1:Mv (b3463 :: B) w3472 (b3463 :: B) w1:=Mv.of_keep k0
    have bx3476:=bx3476.keep k0 (by simp)
    obtain ⟨F2,rfl⟩:=AL (F:=F1) [(17,vP (some ⟨b3463,0,none⟩))] ⟨hd 1 17 kR,trivial⟩
    exact AH rfl ((BI U29_ rfl (vI e) rfl bx3476 rfl (⟨(Keep.refl _ _),rfl⟩)))
  · intro F3478 w3479 k3477 hT3480 hF3481
    have s3482:=s3473.call k3477
    have m3483:Mv (b3463 :: B) w3472 (b3463 :: B) w3479:=Mv.of_keep k3477
    have h0:=h0.keep k3477 (by simp)
    have h1:=h1.keep k3477 (by simp)
    have bx3476:=bx3476.keep k3477 (by simp)
    have ms:=ms.trans m3483
    have ks:=ks.step0 k3477 (fun b hb=>by (simp at hb;done))
    obtain ⟨F2,rfl⟩:=AL (F:=F3478) [(0,vP (some ⟨x0,0,none⟩)),(1,vP (some ⟨x1,0,none⟩)),(19,undef),(16,vA #[vI 0,vI 0,vI 0,nS,nS]),(18,vI e)] ⟨hF3481 0 kR,hF3481 1 kR,hF3481 19 kR,hT3480 0 16 kR (by decide),hT3480 2 18 kR (by decide),trivial⟩
    clear hT3480 hF3481
    refine BY (BC (vs:=[vI 0,vI 0,vI 0,nS,nS]) (.agg #[vI 0,vI 0,vI 0,nS,nS]) rfl rfl rfl BL (fun u hu=>by simp only [List.mem_cons,List.not_mem_nil,or_false] at hu;rcases hu with rfl|rfl|rfl|rfl|rfl <;> rfl) rC h0 oT s3482 fun w3486 s3487 m3488 k3489 bx3490=>(?_))
    have h1:=h1.keep k3489 (BH (Ne.symm hne))
    have bx3476:=bx3476.keep k3489 (BH (Ne.symm ne3470))
    have ms:=ms.trans m3488
    have ks:=ks.step0 k3489 (fun b hb=>by (simp only [List.mem_singleton] at hb;subst hb;(left;simp [Value.ownBlock];done)))
    refine BY (CK (vI e) rfl rfl rfl QX rC h1 oT s3487 fun w3491 s3492 m3493 k3494 bx3495=>(?_))
    have bx3490:=bx3490.keep k3494 (BH hne)
    have bx3476:=bx3476.keep k3494 (BH (Ne.symm ne3471))
    have ms:=ms.trans m3493
    have ks:=ks.step0 k3494 (fun b hb=>by (simp only [List.mem_singleton] at hb;subst hb;(left;simp [Value.ownBlock];done)))
    refine AF (FP rfl (IH rfl) (?_))
    exact ⟨_,rfl,s3492.drop (fun b hb=>rC),ms.trans (Mv.drop (fun b hb=>rC)),ks,bx3490,bx3495⟩
  · intro cx_ hcx_
    match cx_,hcx_ with
    | 0,_=>
      intro F3497 w3498 k3496 hT3499 hF3500
      have s3501:=s3473.call k3496
      have m3502:Mv (b3463 :: B) w3472 (b3463 :: B) w3498:=Mv.of_keep k3496
      have h0:=h0.keep k3496 (by simp)
      have h1:=h1.keep k3496 (by simp)
      have bx3476:=bx3476.keep k3496 (by simp)
      have ms:=ms.trans m3502
      have ks:=ks.step0 k3496 (fun b hb=>by (simp at hb;done))
      obtain ⟨F2,rfl⟩:=AL (F:=F3497) [(0,vP (some ⟨x0,0,none⟩)),(1,vP (some ⟨x1,0,none⟩)),(3,vP (some ⟨b3463,0,none⟩)),(19,undef),(16,vA #[vI 0,vI 0,vI 0,nS,nS])] ⟨hF3500 0 kR,hF3500 1 kR,hF3500 3 kR,hF3500 19 kR,hT3499 0 16 kR (by decide) (by decide),trivial⟩
      clear hT3499 hF3500
      refine BY (BC (vs:=[vI 0,vI 0,vI 0,nS,nS]) (.agg #[vI 0,vI 0,vI 0,nS,nS]) rfl rfl rfl BL (fun u hu=>by simp only [List.mem_cons,List.not_mem_nil,or_false] at hu;rcases hu with rfl|rfl|rfl|rfl|rfl <;> rfl) rC h0 oT s3501 fun w3505 s3506 m3507 k3508 bx3509=>(?_))
      have h1:=h1.keep k3508 (BH (Ne.symm hne))
      have bx3476:=bx3476.keep k3508 (BH (Ne.symm ne3470))
      have ms:=ms.trans m3507
      have ks:=ks.step0 k3508 (fun b hb=>by (simp only [List.mem_singleton] at hb;subst hb;(left;simp [Value.ownBlock];done)))
      refine AA (BD 0 f_125_0 rfl (AA (BI U29_ rfl (vI e) rfl bx3476 rfl (BY (CK (vI e) rfl rfl rfl QX rC h1 oT s3506 fun w3510 s3511 m3512 k3513 bx3514=>(?_))))))
      have bx3509:=bx3509.keep k3513 (BH hne)
      have bx3476:=bx3476.keep k3513 (BH (Ne.symm ne3471))
      have ms:=ms.trans m3512
      have ks:=ks.step0 k3513 (fun b hb=>by (simp only [List.mem_singleton] at hb;subst hb;(left;simp [Value.ownBlock];done)))
      refine AF (FP rfl (IH rfl) (?_))
      exact ⟨_,rfl,s3511.drop (fun b hb=>rC),ms.trans (Mv.drop (fun b hb=>rC)),ks,bx3509,bx3514⟩
    | 1,_=>
      intro F3516 w3517 k3515 hT3518 hF3519
      have s3520:=s3473.call k3515
      have m3521:Mv (b3463 :: B) w3472 (b3463 :: B) w3517:=Mv.of_keep k3515
      have h0:=h0.keep k3515 (by simp)
      have h1:=h1.keep k3515 (by simp)
      have bx3476:=bx3476.keep k3515 (by simp)
      have ms:=ms.trans m3521
      have ks:=ks.step0 k3515 (fun b hb=>by (simp at hb;done))
      obtain ⟨F2,rfl⟩:=AL (F:=F3516) [(0,vP (some ⟨x0,0,none⟩)),(1,vP (some ⟨x1,0,none⟩)),(19,undef),(16,vA #[vI 0,vI 0,vI 0,nS,nS]),(17,vP (some ⟨b3463,0,none⟩))] ⟨hF3519 0 kR,hF3519 1 kR,hF3519 19 kR,hT3518 0 16 kR (by decide) (by decide),hT3518 1 17 kR (by decide) (by decide),trivial⟩
      clear hT3518 hF3519
      refine BY (BC (vs:=[vI 0,vI 0,vI 0,nS,nS]) (.agg #[vI 0,vI 0,vI 0,nS,nS]) rfl rfl rfl BL (fun u hu=>by simp only [List.mem_cons,List.not_mem_nil,or_false] at hu;rcases hu with rfl|rfl|rfl|rfl|rfl <;> rfl) rC h0 oT s3520 fun w3524 s3525 m3526 k3527 bx3528=>(?_))
      have h1:=h1.keep k3527 (BH (Ne.symm hne))
      have bx3476:=bx3476.keep k3527 (BH (Ne.symm ne3470))
      have ms:=ms.trans m3526
      have ks:=ks.step0 k3527 (fun b hb=>by (simp only [List.mem_singleton] at hb;subst hb;(left;simp [Value.ownBlock];done)))
      refine AA (BI U29_ rfl (vI e) rfl bx3476 rfl (BY (CK (vI e) rfl rfl rfl QX rC h1 oT s3525 fun w3529 s3530 m3531 k3532 bx3533=>(?_))))
      have bx3528:=bx3528.keep k3532 (BH hne)
      have bx3476:=bx3476.keep k3532 (BH (Ne.symm ne3471))
      have ms:=ms.trans m3531
      have ks:=ks.step0 k3532 (fun b hb=>by (simp only [List.mem_singleton] at hb;subst hb;(left;simp [Value.ownBlock];done)))
      refine AF (FP rfl (IH rfl) (?_))
      exact ⟨_,rfl,s3530.drop (fun b hb=>rC),ms.trans (Mv.drop (fun b hb=>rC)),ks,bx3528,bx3533⟩
open Go.Fw Go.RowKit
end Go.Proofs.Ytjgfokolnkhafaa
namespace Go.Proofs.Ytjgfokolnkhafaa
open Go.Fw Go.RowKit
set_option maxHeartbeats 4000000 in
set_option maxRecDepth 100000 in
theorem OK {O:List Nat} (c_cs:List Value) (c:Circle) (no:Int) (guardian:Int) (w:World) (h_c:Enc.circle.rd w O c_cs c) (hO:∀ b∈O,b<w.heap.size):CF Try.prog 35 [.agg c_cs.toArray,vI no,vI guardian] w (fun v w'=>∃ (x0:List Value),v = .tuple #[.agg x0.toArray,vI ((BO c no (BA c guardian)).2)]∧Enc.circle.rd w' (O) x0 ((BO c no (BA c guardian)).1)):= by
 have h_c:Enc.circle.rd w ([]++O) c_cs c:=h_c
 have s0:St w O w []:=St.start hO
 refine BQ 14 Try.func35 rfl rfl oT (fun F0=>?_)
 refine AG (?_)
 refine AB kR (AA (DO (E:=Enc.circle) (vA c_cs.toArray) (c_cs) c rfl rfl h_c s0 fun a3948 w3949 s3950 m3951 k3952 hp3953=>(?_)))
 refine AA (DO (E:=Enc.int) (vI guardian) ([vI guardian]) guardian rfl rfl rfl s3950 fun a3954 w3955 s3956 m3957 k3958 hp3959=>(?_))
 have hp3953:=hp3953.mv m3957
 refine AA (CX [vI 0,vI 0,vI 0,nS,nS] II rfl s3956 fun b3960 w3961 e3966 s3962 m3963 k3964 bx3965=>(?_))
 clear e3966
 have hp3953:=hp3953.mv m3963
 have hp3959:=hp3959.mv m3963
 refine AA (AD (vI 0) rfl (AF (AC (?_))))
 refine AG (?_)
 refine AB kR (AA (CR U28_ rfl BL rfl hp3953 fun cs3967 hs3968=>(AA (AE (vI no) rfl (AA (DD (first:=[]) (captured:=[.tmp 3, .tmp 5]) [] [vP (some a3948),vP (some a3954)] rfl rfl (AA (GN [vA cs3967.toArray,vI no,vN (.func 69) #[] #[vP (some a3948),vP (some a3954)]] enter_68 rfl (PO 51 Try.func68 rfl rfl oT (fun F3969=>?_))))))))))
 refine AG (?_)
 refine AB kR (AA (DO (E:=Enc.circle) (vA cs3967.toArray) (cs3967) c rfl rfl hs3968 s3962 fun a3970 w3971 s3972 m3973 k3974 hp3975=>(?_)))
 have hp3953:=hp3953.mv m3973
 have hp3959:=hp3959.mv m3973
 have bx3965:=bx3965.keep k3974 (by simp)
 refine AA (CX [vI 0,vI 0,vI 0,nS,nS] II rfl s3972 fun b3976 w3977 e3982 s3978 m3979 k3980 bx3981=>(?_))
 have ne3983:FH b3960 b3976:=by show b3960≠b3976;have:=bx3965.lt;omega
 clear e3982
 have hp3953:=hp3953.mv m3979
 have hp3959:=hp3959.mv m3979
 have hp3975:=hp3975.mv m3979
 have bx3965:=bx3965.keep k3980 (by simp)
 refine AA (CX [vI 0] z_29 rfl s3978 fun b3984 w3985 e3990 s3986 m3987 k3988 bx3989=>(?_))
 have ne3991:FH b3960 b3984:=by show b3960≠b3984;have:=bx3965.lt;omega
 have ne3992:FH b3976 b3984:=by show b3976≠b3984;have:=bx3981.lt;omega
 clear e3990
 have hp3953:=hp3953.mv m3987
 have hp3959:=hp3959.mv m3987
 have hp3975:=hp3975.mv m3987
 have bx3965:=bx3965.keep k3988 (by simp)
 have bx3981:=bx3981.keep k3988 (by simp)
 refine AF (AC (?_))
 refine AG (?_)
 refine AG (?_)
 refine AB kR (AA (CR U28_ rfl BL rfl hp3975 fun cs3993 hs3994=>(AA (BB (vs:=[vA cs3993.toArray]) LU (OC (O:=(b3984 :: (b3976 :: (b3960 :: [])))++O) cs3993 c w3985 hs3994 s3986.lt) rfl s3986 fun v3995 w3996 s3997 m3998 k3999 r4000=>(?_)))))
 obtain rfl:=r4000
 have hp3953:=hp3953.mv m3998
 have hp3959:=hp3959.mv m3998
 have hp3975:=hp3975.mv m3998
 have bx3965:=bx3965.keep k3999 (by simp)
 have bx3981:=bx3981.keep k3999 (by simp)
 have bx3989:=bx3989.keep k3999 (by simp)
 refine AA (AD (vI (AS c)) rfl (AF (AC (?_))))
 refine AG (?_)
 refine AB kR (AA (AE (vI (AS c)) rfl (AA (CV .i64 (AS c) (0:Int) rfl rfl (AF (AC (?_)))))))
 refine AO ((AS c) != (0:Int)) rfl rfl (fun hc4001=>?_) (fun hc4001=>?_)
 ·have hp4002:AS c≠(0:Int):=by simpa using hc4001
  refine AG (?_)
  refine AB kR (AA (BN (vs:=[vI 0,vI 0,vI 0,nS,nS]) U28_ rfl BL rfl bx3981 rfl (AA (AE (vI (AS c)) rfl (BY (BC (vs:=[vI 0,vI 0,vI 0,nS,nS]) (.agg #[vI 0,vI 0,vI 0,nS,nS]) rfl rfl rfl BL (fun u hu=>by simp only [List.mem_cons,List.not_mem_nil,or_false] at hu;rcases hu with rfl|rfl|rfl|rfl|rfl <;> rfl) (by repeat (constructor)) bx3981 oT s3997 fun w4003 s4004 m4005 k4006 bx4007=>(?_)))))))
  have bx3965:=bx3965.keep k4006 (BH ne3983)
  have bx3989:=bx3989.keep k4006 (BH (Ne.symm ne3992))
  refine BY (CK (vI (AS c)) rfl rfl rfl QX (by repeat (constructor)) bx3989 oT s4004 fun w4008 s4009 m4010 k4011 bx4012=>(?_))
  have bx3965:=bx3965.keep k4011 (BH ne3991)
  have bx4007:=bx4007.keep k4011 (BH ne3992)
  refine AF (AC (?_))
  refine AP (AR (QT rfl (EH rfl (DY (vs:=[vI 0,vI 0,vI 0,nS,nS]) rfl U28_ rfl BL rfl bx4007 rfl) (MV rfl U29_ rfl rfl bx4012 rfl)) (DP (?_))))
  refine AA (AN (vA #[vI 0,vI 0,vI 0,nS,nS]) rfl rfl (AA (AN (vI (AS c)) rfl rfl (BY (BC (vs:=[vI 0,vI 0,vI 0,nS,nS]) (.agg #[vI 0,vI 0,vI 0,nS,nS]) rfl rfl rfl BL (fun u hu=>by simp only [List.mem_cons,List.not_mem_nil,or_false] at hu;rcases hu with rfl|rfl|rfl|rfl|rfl <;> rfl) (by repeat (constructor)) bx3965 oT s4009 fun w4013 s4014 m4015 k4016 bx4017=>(?_))))))
  refine AA (AD (vI (AS c)) rfl (AF (AC (?_))))
  refine AP (AZ rfl (EH rfl (DY (vs:=[vI 0,vI 0,vI 0,nS,nS]) rfl U28_ rfl BL rfl bx4017 rfl) (DN rfl rfl)) (?_))
  have e4018:((BO c no (BA c guardian)).1)=(⟨(0:Int),(0:Int),(0:Int),[],[]⟩:Circle):=by exact congrArg (fun p=>p.1) (show BO c no (BA c guardian)=_ from app_bad aS)
  have e4019:((BO c no (BA c guardian)).2)=(AS c):=by exact congrArg (fun p=>p.2) (show BO c no (BA c guardian)=_ from app_bad aS)
  exact ⟨_,rfl,s4014.keep,by rw [e4018,e4019];exact ⟨[vI 0,vI 0,vI 0,nS,nS],rfl,Enc.out (B:=(b3984 :: (b3976 :: (b3960 :: [])))) ⟨.slice none 0 0, .slice none 0 0,rfl,(BG.nil _ _ _),(BG.nil _ _ _)⟩⟩⟩
 ·have hp4020:AS c=(0:Int):=by simpa using hc4001
  have hok:AS c=0:=hp4020
  have hrl:=SH hok
  refine AU (AC (?_))
  refine AG (?_)
  refine AG (?_)
  refine AB kR (AA (AE (vI no) rfl (AA (DW .i64 no (0:Int) rfl rfl (AA (AE (vO (decide (no<(0:Int)))) rfl (?_)))))))
  cases hb4021:(decide (no<(0:Int)))
  ·have hp4022:(0:Int)≤no:=by simpa using hb4021
   refine BE rfl (AE (vI no) rfl (BE rfl (BM 4 DK (c.recs) rfl hp3975 (fun _ _ _ h=>CJ h) fun a4023 hp4024=>(BE rfl (BW U26_ rfl rfl hp4024 fun v4025 hl4026=>(?_))))))
   have:=hl4026.len_le
   refine BE rfl (CG U26_ rfl hl4026 (BE rfl (KI .i64 no (c.recs.length:Int) rfl rfl (AA (BX (vO (decide ((c.recs.length:Int)≤no))) rfl rfl (AF (AC (?_))))))))
   refine AO (decide ((c.recs.length:Int)≤no)) rfl rfl (fun hc4027=>?_) (fun hc4027=>?_)
   ·have hp4028:(c.recs.length:Int)≤no:=by simpa using hc4027
    refine AG (?_)
    refine AB kR (AA (BN (vs:=[vI 0,vI 0,vI 0,nS,nS]) U28_ rfl BL rfl bx3981 rfl (BY (BC (vs:=[vI 0,vI 0,vI 0,nS,nS]) (.agg #[vI 0,vI 0,vI 0,nS,nS]) rfl rfl rfl BL (fun u hu=>by simp only [List.mem_cons,List.not_mem_nil,or_false] at hu;rcases hu with rfl|rfl|rfl|rfl|rfl <;> rfl) (by repeat (constructor)) bx3981 oT s3997 fun w4029 s4030 m4031 k4032 bx4033=>(?_)))))
    have bx3965:=bx3965.keep k4032 (BH ne3983)
    have bx3989:=bx3989.keep k4032 (BH (Ne.symm ne3992))
    refine BY (CK (vI 1) rfl rfl rfl QX (by repeat (constructor)) bx3989 oT s4030 fun w4034 s4035 m4036 k4037 bx4038=>(?_))
    have bx3965:=bx3965.keep k4037 (BH ne3991)
    have bx4033:=bx4033.keep k4037 (BH ne3992)
    refine AF (AC (?_))
    refine AP (AR (QT rfl (EH rfl (DY (vs:=[vI 0,vI 0,vI 0,nS,nS]) rfl U28_ rfl BL rfl bx4033 rfl) (MV rfl U29_ rfl rfl bx4038 rfl)) (DP (?_))))
    refine AA (AN (vA #[vI 0,vI 0,vI 0,nS,nS]) rfl rfl (AA (AN (vI 1) rfl rfl (BY (BC (vs:=[vI 0,vI 0,vI 0,nS,nS]) (.agg #[vI 0,vI 0,vI 0,nS,nS]) rfl rfl rfl BL (fun u hu=>by simp only [List.mem_cons,List.not_mem_nil,or_false] at hu;rcases hu with rfl|rfl|rfl|rfl|rfl <;> rfl) (by repeat (constructor)) bx3965 oT s4035 fun w4039 s4040 m4041 k4042 bx4043=>(?_))))))
    refine AA (AD (vI 1) rfl (AF (AC (?_))))
    refine AP (AZ rfl (EH rfl (DY (vs:=[vI 0,vI 0,vI 0,nS,nS]) rfl U28_ rfl BL rfl bx4043 rfl) (DN rfl rfl)) (?_))
    have e4044:((BO c no (BA c guardian)).1)=(⟨(0:Int),(0:Int),(0:Int),[],[]⟩:Circle):=by exact congrArg (fun p=>p.1) (show BO c no (BA c guardian)=_ from app_no hok oM)
    have e4045:((BO c no (BA c guardian)).2)=(1:Int):=by exact congrArg (fun p=>p.2) (show BO c no (BA c guardian)=_ from app_no hok oM)
    exact ⟨_,rfl,s4040.keep,by rw [e4044,e4045];exact ⟨[vI 0,vI 0,vI 0,nS,nS],rfl,Enc.out (B:=(b3984 :: (b3976 :: (b3960 :: [])))) ⟨.slice none 0 0, .slice none 0 0,rfl,(BG.nil _ _ _),(BG.nil _ _ _)⟩⟩⟩
   ·have hp4046:no<(c.recs.length:Int):=by simpa using hc4027
    refine AU (AC (?_))
    refine AG (?_)
    refine cw_defer [vP (some ⟨b3976,0,none⟩),vP (some ⟨b3984,0,none⟩)] rfl rfl rfl rfl (AC (?_))
    refine AG (?_)
    refine AB kR (AA (BM 4 DK (c.recs) rfl hp3975 (fun _ _ _ h=>CJ h) fun a4047 hp4048=>(AA (BW U26_ rfl rfl hp4048 fun v4049 hl4050=>(?_)))))
    have:=hl4050.len_le
    refine AA (AE (vI no) rfl (AA (DI U26_ GA .i64 no no.toNat rfl rfl oM hl4050 oM fun a4051 hp4052=>(AA (CR U68_ rfl GA rfl hp4052 fun cs4053 hs4054=>(?_))))))
    obtain ⟨d4055,d4057,rfl,hd4056,hd4058⟩:=hs4054
    have:=hd4056.len_le
    have:=hd4058.len_le
    refine AA (EE (l:=[(0, .tmp 31)]) pl_113 z_113 rfl [(0,vA #[vI ((c.recs[no.toNat]!).no),vI ((c.recs[no.toNat]!).asked),vI ((c.recs[no.toNat]!).state),d4055,d4057],[vI ((c.recs[no.toNat]!).no),vI ((c.recs[no.toNat]!).asked),vI ((c.recs[no.toNat]!).state),d4055,d4057])] [vI ((c.recs[no.toNat]!).no),vI ((c.recs[no.toNat]!).asked),vI ((c.recs[no.toNat]!).state),d4055,d4057] rfl ⟨_,rfl,rfl,oT,rfl⟩ (AA (o_box (vA #[vI ((c.recs[no.toNat]!).no),vI ((c.recs[no.toNat]!).asked),vI ((c.recs[no.toNat]!).state),d4055,d4057]) [vI ((c.recs[no.toNat]!).no),vI ((c.recs[no.toNat]!).asked),vI ((c.recs[no.toNat]!).state),d4055,d4057] rfl rfl s3997 fun b4059 w4060 e4065 s4061 m4062 k4063 bx4064=>(?_))))
    have ne4066:FH b3960 b4059:=by show b3960≠b4059;have:=bx3965.lt;omega
    have ne4067:FH b3976 b4059:=by show b3976≠b4059;have:=bx3981.lt;omega
    have ne4068:FH b3984 b4059:=by show b3984≠b4059;have:=bx3989.lt;omega
    clear e4065
    have hp3953:=hp3953.mv m4062
    have hp3959:=hp3959.mv m4062
    have hp3975:=hp3975.mv m4062
    have hd4056:=hd4056.mv m4062
    have hd4058:=hd4058.mv m4062
    have bx3965:=bx3965.keep k4063 (by simp)
    have bx3981:=bx3981.keep k4063 (by simp)
    have bx3989:=bx3989.keep k4063 (by simp)
    refine AA (AD (vP (some ⟨b4059,0,none⟩)) rfl (AF (AC (?_))))
    refine AG (?_)
    refine AB kR (AA (AE (vN (.func 69) #[] #[vP (some a3948),vP (some a3954)]) rfl (AA (AE (vP (some ⟨b4059,0,none⟩)) rfl (AA (JC [] [vP (some a3948),vP (some a3954)] [vP (some ⟨b4059,0,none⟩)] enter_69 rfl rfl (CH 11 Try.func69 rfl rfl oT (fun F4069=>?_))))))))
    refine AG (?_)
    refine AB kR (AA (o_box (vP (some ⟨b4059,0,none⟩)) [vP (some ⟨b4059,0,none⟩)] rfl rfl s4061 fun b4070 w4071 e4076 s4072 m4073 k4074 bx4075=>(?_)))
    have ne4077:FH b3960 b4070:=by show b3960≠b4070;have:=bx3965.lt;omega
    have ne4078:FH b3976 b4070:=by show b3976≠b4070;have:=bx3981.lt;omega
    have ne4079:FH b3984 b4070:=by show b3984≠b4070;have:=bx3989.lt;omega
    have ne4080:FH b4059 b4070:=by show b4059≠b4070;have:=bx4064.lt;omega
    clear e4076
    have hp3953:=hp3953.mv m4073
    have hp3959:=hp3959.mv m4073
    have hp3975:=hp3975.mv m4073
    have hd4056:=hd4056.mv m4073
    have hd4058:=hd4058.mv m4073
    have bx3965:=bx3965.keep k4074 (by simp)
    have bx3981:=bx3981.keep k4074 (by simp)
    have bx3989:=bx3989.keep k4074 (by simp)
    have bx4064:=bx4064.keep k4074 (by simp)
    refine AF (AC (?_))
    refine AB kR (AA (BI U106_ rfl (vP (some ⟨b4059,0,none⟩)) rfl bx4075 rfl (AA (TU s4072 fun b4081 w4082 e4087 s4083 m4084 k4085 bx4086=>(?_)))))
    have ne4088:FH b3960 b4081:=by show b3960≠b4081;have:=bx3965.lt;omega
    have ne4089:FH b3976 b4081:=by show b3976≠b4081;have:=bx3981.lt;omega
    have ne4090:FH b3984 b4081:=by show b3984≠b4081;have:=bx3989.lt;omega
    have ne4091:FH b4059 b4081:=by show b4059≠b4081;have:=bx4064.lt;omega
    have ne4092:FH b4070 b4081:=by show b4070≠b4081;have:=bx4075.lt;omega
    clear e4087
    have hp3953:=hp3953.mv m4084
    have hp3959:=hp3959.mv m4084
    have hp3975:=hp3975.mv m4084
    have hd4056:=hd4056.mv m4084
    have hd4058:=hd4058.mv m4084
    have bx3965:=bx3965.keep k4085 (by simp)
    have bx3981:=bx3981.keep k4085 (by simp)
    have bx3989:=bx3989.keep k4085 (by simp)
    have bx4064:=bx4064.keep k4085 (by simp)
    have bx4075:=bx4075.keep k4085 (by simp)
    refine AA (DD (first:=[]) (captured:=[.tmp 3]) [] [vP (some ⟨b4070,0,none⟩)] rfl rfl (BY (JQ U110_ U3_ rfl rfl rfl bx4086 (by repeat (constructor)) s4083 rfl fun w4093 s4094 m4095 k4096 bx4097=>(?_))))
    have hp3953:=hp3953.mv m4095
    have hp3959:=hp3959.mv m4095
    have hp3975:=hp3975.mv m4095
    have hd4056:=hd4056.mv m4095
    have hd4058:=hd4058.mv m4095
    have bx3965:=bx3965.keep k4096 (BH ne4088)
    have bx3981:=bx3981.keep k4096 (BH ne4089)
    have bx3989:=bx3989.keep k4096 (BH ne4090)
    have bx4064:=bx4064.keep k4096 (BH ne4091)
    have bx4075:=bx4075.keep k4096 (BH ne4092)
    refine AA (DD (first:=[]) (captured:=[.tmp 3]) [] [vP (some ⟨b4070,0,none⟩)] rfl rfl (BY (JQ U110_ U3_ rfl rfl rfl bx4097 (by repeat (constructor)) s4094 rfl fun w4098 s4099 m4100 k4101 bx4102=>(?_))))
    have hp3953:=hp3953.mv m4100
    have hp3959:=hp3959.mv m4100
    have hp3975:=hp3975.mv m4100
    have hd4056:=hd4056.mv m4100
    have hd4058:=hd4058.mv m4100
    have bx3965:=bx3965.keep k4101 (BH ne4088)
    have bx3981:=bx3981.keep k4101 (BH ne4089)
    have bx3989:=bx3989.keep k4101 (BH ne4090)
    have bx4064:=bx4064.keep k4101 (BH ne4091)
    have bx4075:=bx4075.keep k4101 (BH ne4092)
    refine AA (DD (first:=[]) (captured:=[.tmp 3, .tmp 1, .tmp 2]) [] [vP (some ⟨b4070,0,none⟩),vP (some a3948),vP (some a3954)] rfl rfl (BY (JQ U110_ U3_ rfl rfl rfl bx4102 (by repeat (constructor)) s4099 rfl fun w4103 s4104 m4105 k4106 bx4107=>(?_))))
    have hp3953:=hp3953.mv m4105
    have hp3959:=hp3959.mv m4105
    have hp3975:=hp3975.mv m4105
    have hd4056:=hd4056.mv m4105
    have hd4058:=hd4058.mv m4105
    have bx3965:=bx3965.keep k4106 (BH ne4088)
    have bx3981:=bx3981.keep k4106 (BH ne4089)
    have bx3989:=bx3989.keep k4106 (BH ne4090)
    have bx4064:=bx4064.keep k4106 (BH ne4091)
    have bx4075:=bx4075.keep k4106 (BH ne4092)
    refine AA (AE (Value.map (some b4081)) rfl (AA (GN [vP (some ⟨b4059,0,none⟩),Value.map (some b4081)] enter_70 rfl (CH 19 Try.func70 rfl rfl oT (fun F4108=>?_)))))
    refine AG (?_)
    refine AB kR (AA (AE (Value.map (some b4081)) rfl (AA (AE (vP (some ⟨b4059,0,none⟩)) rfl (AA (EO ⟨b4059,0,none⟩ rfl (AA (BD 0 GX rfl (AA (BD 2 KD rfl (AA (BI U3_ rfl (vI ((c.recs[no.toNat]!).state)) rfl bx4064 rfl (?_)))))))))))))
    rcases (LC hok oM oM:(c.recs[no.toNat]!).state=0∨(c.recs[no.toNat]!).state=1∨(c.recs[no.toNat]!).state=2) with hs4109|hs4109|hs4109
    ·refine AA (JS (k:=0) (vN (.func 74) #[] #[vP (some ⟨b4070,0,none⟩),vP (some a3948),vP (some a3954)]) U110_ U3_ rfl (congrArg vI hs4109) bx4107 rfl (AA (AE (vT #[vN (.func 74) #[] #[vP (some ⟨b4070,0,none⟩),vP (some a3948),vP (some a3954)],vO true]) rfl (AA (AN (vN (.func 74) #[] #[vP (some ⟨b4070,0,none⟩),vP (some a3948),vP (some a3954)]) rfl rfl (AA (AN (vO true) rfl rfl (AA (AD (vN (.func 74) #[] #[vP (some ⟨b4070,0,none⟩),vP (some a3948),vP (some a3954)]) rfl (AA (AD (vO true) rfl (AF (AC (?_))))))))))))))
     refine AG (?_)
     refine AB kR (AA (AE (vO true) rfl (AF (AC (?_)))))
     refine AO true rfl rfl (fun _=>?_) (fun h=>by cases h)
     refine AB kR (AA (AE (vN (.func 74) #[] #[vP (some ⟨b4070,0,none⟩),vP (some a3948),vP (some a3954)]) rfl (AA (JC [] [vP (some ⟨b4070,0,none⟩),vP (some a3948),vP (some a3954)] [] enter_74 rfl rfl (CH 12 Try.func74 rfl rfl oT (fun F4110=>?_))))))
     refine AG (?_)
     refine cw_draw' 5 _ _ [DF (vP (some ⟨b4059,0,none⟩)),fun (vT:Value) (wT:World)=>∃ aT,vT = .pointer (some aT)∧PT (Enc.slice Enc.int) wT ((b4081 :: (b4070 :: (b4059 :: (b3984 :: (b3976 :: (b3960 :: []))))))++O) (.pointer (some aT)) (c.guardians),fun (vT:Value) (wT:World)=>BG Enc.int wT ((b4081 :: (b4070 :: (b4059 :: (b3984 :: (b3976 :: (b3960 :: []))))))++O) vT (c.guardians),DF (vI guardian),DF (vO (c.guardians.contains guardian))] kR kR kR kR rfl rfl ⟨kI,fun _ _ _ ⟨a,e,h⟩ k=>⟨a,e,h.mv (Mv.of_keep k)⟩,fun _ _ _ h k=>h.mv (Mv.of_keep k),kI,kI,trivial⟩ ⟨?_,?_,?_,?_,?_,trivial⟩ ?_
     ·intro F1 w1 k1 hf hd
      have k0:=(Keep.drew [] w4103).trans k1
      have bx4075:=bx4075.keep k0 (by simp)
      obtain ⟨F2,rfl⟩:=AL (F:=F1) [(0,vP (some ⟨b4070,0,none⟩))] ⟨hf 0 kR,trivial⟩
      exact AH rfl ((BI U106_ rfl (vP (some ⟨b4059,0,none⟩)) rfl bx4075 rfl (⟨(Keep.refl _ _),rfl⟩)))
     ·intro F1 w1 k1 hf hd
      have k0:=(Keep.drew [] w4103).trans k1
      have m1:Mv (b4081 :: (b4070 :: (b4059 :: (b3984 :: (b3976 :: (b3960 :: [])))))) w4103 (b4081 :: (b4070 :: (b4059 :: (b3984 :: (b3976 :: (b3960 :: [])))))) w1:=Mv.of_keep k0
      have hp3953:=hp3953.mv m1
      obtain ⟨F2,rfl⟩:=AL (F:=F1) [(1,vP (some a3948))] ⟨hf 1 kR,trivial⟩
      exact AH rfl ((BM 3 JW (c.guardians) rfl hp3953 (fun _ _ _ h=>EQ h) fun a4111 hp4112=>(⟨(Keep.refl _ _),⟨a4111,rfl,hp4112⟩⟩)))
     ·intro F1 w1 k1 hf hd
      obtain ⟨a4113,e4115,hp4114⟩:∃ aX_,F1 4 = .pointer (some aX_)∧PT (Enc.slice Enc.int) w1 ((b4081 :: (b4070 :: (b4059 :: (b3984 :: (b3976 :: (b3960 :: []))))))++O) (.pointer (some aX_)) (c.guardians):=hd 1 4 kR
      obtain ⟨F2,rfl⟩:=AL (F:=F1) [(4,vP (some a4113))] ⟨e4115,trivial⟩
      refine AH rfl ((BW U22_ rfl rfl hp4114 fun v4116 hl4117=>(?_)))
      have:=hl4117.len_le
      exact ⟨(Keep.refl _ _),hl4117⟩
     ·intro F1 w1 k1 hf hd
      have k0:=(Keep.drew [] w4103).trans k1
      have m1:Mv (b4081 :: (b4070 :: (b4059 :: (b3984 :: (b3976 :: (b3960 :: [])))))) w4103 (b4081 :: (b4070 :: (b4059 :: (b3984 :: (b3976 :: (b3960 :: [])))))) w1:=Mv.of_keep k0
      have hp3959:=hp3959.mv m1
      obtain ⟨F2,rfl⟩:=AL (F:=F1) [(2,vP (some a3954))] ⟨hf 2 kR,trivial⟩
      exact AH rfl ((CE U3_ rfl rfl hp3959 (⟨(Keep.refl _ _),rfl⟩)))
     ·intro F1 w1 k1 hf hd
      have k0:=(Keep.drew [] w4103).trans k1
      have s1:=s4104.call k0
      obtain ⟨v4118,e4120,hl4119⟩:∃ v,F1 5=v∧BG Enc.int w1 ((b4081 :: (b4070 :: (b4059 :: (b3984 :: (b3976 :: (b3960 :: []))))))++O) v (c.guardians):=⟨_,rfl,hd 2 5 kR⟩
      have:=hl4119.len_le
      obtain ⟨F2,rfl⟩:=AL (F:=F1) [(5,v4118),(6,vI guardian)] ⟨e4120,hd 3 6 kR,trivial⟩
      refine AH rfl ((BB (vs:=[v4118,vI guardian]) enter_75 (UA (O:=(b4081 :: (b4070 :: (b4059 :: (b3984 :: (b3976 :: (b3960 :: []))))))++O) v4118 c.guardians guardian w1 hl4119 s1.lt) rfl s1 fun v4121 w4122 s4123 m4124 k4125 r4126=>(?_)))
      obtain rfl:=r4126
      exact ⟨k4125,rfl⟩
     intro F4128 w4129 k4127 hT4130 hF4131
     have s4132:=s4104.call k4127
     have m4133:Mv (b4081 :: (b4070 :: (b4059 :: (b3984 :: (b3976 :: (b3960 :: [])))))) w4103 (b4081 :: (b4070 :: (b4059 :: (b3984 :: (b3976 :: (b3960 :: [])))))) w4129:=Mv.of_keep k4127
     have hp3959:=hp3959.mv m4133
     have hp3975:=hp3975.mv m4133
     have hd4056:=hd4056.mv m4133
     have hd4058:=hd4058.mv m4133
     have bx3965:=bx3965.keep k4127 (by simp)
     have bx3981:=bx3981.keep k4127 (by simp)
     have bx3989:=bx3989.keep k4127 (by simp)
     have bx4064:=bx4064.keep k4127 (by simp)
     have bx4075:=bx4075.keep k4127 (by simp)
     have bx4107:=bx4107.keep k4127 (by simp)
     obtain ⟨F2,rfl⟩:=AL (F:=F4128) [(0,vP (some ⟨b4070,0,none⟩)),(2,vP (some a3954)),(12,undef),(3,vP (some ⟨b4059,0,none⟩)),(7,vO (c.guardians.contains guardian))] ⟨hF4131 0 kR,hF4131 2 kR,hF4131 12 kR,hT4130 0 3 kR (by decide),hT4130 4 7 kR (by decide),trivial⟩
     clear hT4130 hF4131
     refine AA (GN [vP (some ⟨b4059,0,none⟩),vO (c.guardians.contains guardian),vI 450] JB rfl (CH 11 Try.func72 rfl rfl oT (fun F4136=>?_)))
     refine AG (?_)
     refine AB kR (AA (AE (vO (c.guardians.contains guardian)) rfl (AA (HC (c.guardians.contains guardian) rfl (AF (AC (?_)))))))
     refine AO (!(c.guardians.contains guardian)) rfl rfl (fun hc4137=>?_) (fun hc4137=>?_)
     ·have hp4138:(c.guardians.contains guardian)=false:=by simpa using hc4137
      refine AB kR (AA (AE (vI 450) rfl (AA (EE (l:=[(0, .tmp 8)]) NK PV rfl [(0,vI 450,[vI 450])] [vI 450] rfl ⟨_,rfl,rfl,oT,rfl⟩ (AA (KW (vA #[vI 450]) U125_ rfl rfl (BY (LA rfl (FB rfl (EA (?_)))))))))))
      refine HI (FB rfl (EA (?_)))
      refine FB rfl (EA (?_))
      refine FB rfl (EA (?_))
      refine HI (LB (HV [vP (some ⟨b3976,0,none⟩),vP (some ⟨b3984,0,none⟩)] (.panicking [{ v:=Value.iface 125 (vA #[vI 450]),recovered:=false }]) rfl (fun h=>by cases h) rfl FK (NN (450:Int) b3976 b3984 s4132 bx3981 bx3989 (by repeat (constructor)) (by repeat (constructor)) ne3992) (fun e_ w4139 hR_=>?_)))
      obtain ⟨v_,rfl,s4140,m4141,k4142,bx4143,bx4144⟩:=hR_
      have bx3965:=bx3965.keep k4142 (nin2 ne3983 ne3991)
      refine Exists.intro _ (And.intro (EH rfl (DY (vs:=[vI 0,vI 0,vI 0,nS,nS]) rfl U28_ rfl BL rfl bx4143 rfl) (MV rfl U29_ rfl rfl bx4144 rfl)) (DP (?_)))
      refine AA (AN (vA #[vI 0,vI 0,vI 0,nS,nS]) rfl rfl (AA (AN (vI 450) rfl rfl (BY (BC (vs:=[vI 0,vI 0,vI 0,nS,nS]) (.agg #[vI 0,vI 0,vI 0,nS,nS]) rfl rfl rfl BL (fun u hu=>by simp only [List.mem_cons,List.not_mem_nil,or_false] at hu;rcases hu with rfl|rfl|rfl|rfl|rfl <;> rfl) (by repeat (constructor)) bx3965 oT s4140 fun w4145 s4146 m4147 k4148 bx4149=>(?_))))))
      refine AA (AD (vI 450) rfl (AF (AC (?_))))
      refine AP (AZ rfl (EH rfl (DY (vs:=[vI 0,vI 0,vI 0,nS,nS]) rfl U28_ rfl BL rfl bx4149 rfl) (DN rfl rfl)) (?_))
      have e4150:((BO c no (BA c guardian)).1)=(⟨(0:Int),(0:Int),(0:Int),[],[]⟩:Circle):=by exact congrArg (fun p=>p.1) (show BO c no (BA c guardian)=_ from app_not hok oM oM aS aS)
      have e4151:((BO c no (BA c guardian)).2)=(450:Int):=by exact congrArg (fun p=>p.2) (show BO c no (BA c guardian)=_ from app_not hok oM oM aS aS)
      exact ⟨_,rfl,s4146.keep,by rw [e4150,e4151];exact ⟨[vI 0,vI 0,vI 0,nS,nS],rfl,Enc.out (B:=(b4081 :: (b4070 :: (b4059 :: (b3984 :: (b3976 :: (b3960 :: []))))))) ⟨.slice none 0 0, .slice none 0 0,rfl,(BG.nil _ _ _),(BG.nil _ _ _)⟩⟩⟩
     ·have hp4152:(c.guardians.contains guardian)=true:=by simpa using hc4137
      refine AU (FP rfl (IH rfl) (DP (?_)))
      refine AF (AC (?_))
      refine AB kR (AA (BI U106_ rfl (vP (some ⟨b4059,0,none⟩)) rfl bx4075 rfl (AA (CE U3_ rfl rfl hp3959 (AA (KB [vP (some ⟨b4059,0,none⟩),vI guardian] _ enter_76 rfl (CH 32 Try.func76 rfl rfl oT (fun F4153=>?_)) (fun _ _ h=>h)))))))
      refine AG (?_)
      refine AB kR (AA (AE (vP (some ⟨b4059,0,none⟩)) rfl (AA (EO ⟨b4059,0,none⟩ rfl (AA (BD 0 GX rfl (AA (BD 3 PB rfl (AA (BI U22_ rfl (d4055) rfl bx4064 rfl (AA (AE (vI guardian) rfl (AA (BB (vs:=[d4055,vI guardian]) enter_105 (c_bs (O:=(b4081 :: (b4070 :: (b4059 :: (b3984 :: (b3976 :: (b3960 :: []))))))++O) d4055 ((c.recs[no.toNat]!).approved) guardian w4129 hd4056 (SC hok oM oM) (by have:=MC (ET (KE hok (k:=no.toNat) oM)).2.2;omega) s4132.lt) rfl s4132 fun v4154 w4155 s4156 m4157 k4158 r4159=>(?_)))))))))))))))
      obtain rfl:=r4159
      have hd4056:=hd4056.mv m4157
      have hp3975:=hp3975.mv m4157
      have hd4058:=hd4058.mv m4157
      have bx3965:=bx3965.keep k4158 (by simp)
      have bx3981:=bx3981.keep k4158 (by simp)
      have bx3989:=bx3989.keep k4158 (by simp)
      have bx4064:=bx4064.keep k4158 (by simp)
      have bx4075:=bx4075.keep k4158 (by simp)
      have bx4107:=bx4107.keep k4158 (by simp)
      refine AA (AE (vT #[vI ((tw ((c.recs[no.toNat]!).approved) guardian:Nat):Int),vO (RY ((c.recs[no.toNat]!).approved) guardian)]) rfl (AA (AN (vI ((tw ((c.recs[no.toNat]!).approved) guardian:Nat):Int)) rfl rfl (AA (AN (vO (RY ((c.recs[no.toNat]!).approved) guardian)) rfl rfl (AA (AD (vI ((tw ((c.recs[no.toNat]!).approved) guardian:Nat):Int)) rfl (AA (AD (vO (RY ((c.recs[no.toNat]!).approved) guardian)) rfl (AF (AC (?_))))))))))))
      refine AG (?_)
      refine AB kR (AA (AE (vO (RY ((c.recs[no.toNat]!).approved) guardian)) rfl (AA (HC (RY ((c.recs[no.toNat]!).approved) guardian) rfl (AF (AC (?_)))))))
      refine AO (!(RY ((c.recs[no.toNat]!).approved) guardian)) rfl rfl (fun hc4160=>?_) (fun hc4160=>?_)
      ·have hp4161:(RY ((c.recs[no.toNat]!).approved) guardian)=false:=by simpa using hc4160
       refine AB kR (AA (AE (vP (some ⟨b4059,0,none⟩)) rfl (AA (AE (vP (some ⟨b4059,0,none⟩)) rfl (AA (EO ⟨b4059,0,none⟩ rfl (AA (BD 0 GX rfl (AA (BD 3 PB rfl (AA (BI U22_ rfl (d4055) rfl bx4064 rfl (AA (KB [d4055] _ SS rfl (CH 8 Try.func32 rfl rfl oT (fun F4162=>?_)) (fun _ _ h=>h)))))))))))))))
       refine AG (?_)
       refine AB kR (AA (AD (nS) rfl (AF (AC (?_)))))
       refine AG (?_)
       refine AG (?_)
       refine AB kR (AA (AE (d4055) rfl (AA (IO U22_ rfl rfl hd4056 fun bn4163 hbn4164=>(?_)))))
       refine AF (AC (?_))
       refine AO (bn4163) rfl rfl (fun hc4165=>?_) (fun hc4165=>?_)
       ·have hp4166:bn4163=true:=by simpa using hc4165
        refine AG (?_)
        refine AB kR (AA (AD (nS) rfl (AF (AC (?_)))))
        refine AP (AR (AZ rfl (CS rfl rfl rfl) (?_)))
        have hnl4168:(c.recs[no.toNat]!).approved=[]:=hbn4164 aS
        have hl4167:BG Enc.int w4155 ((b4081 :: (b4070 :: (b4059 :: (b3984 :: (b3976 :: (b3960 :: []))))))++O) (.slice none 0 0) ((c.recs[no.toNat]!).approved):=by rw [hnl4168];exact BG.nil _ _ _
        refine Exists.intro _ (And.intro rfl (?_))
        refine AA (AE (vI ((tw ((c.recs[no.toNat]!).approved) guardian:Nat):Int)) rfl (AA (AE (vI guardian) rfl (AA (HP (E:=Enc.int) (xs:=[.tmp 26]) U22_ MW z_3 (by decide) [vI guardian] [[vI guardian]] [guardian] rfl rfl rfl (Parts.cons rfl rfl (Parts.nil _ _ _)) oT s4156 fun v4173 b4175 w4169 e4176 hb4177 s4170 m4171 k4172 hl4174=>(?_))))))
        have ne4178:∀ b,v4173.ownBlock=some b→b≠b3960:=fun b hb=>by have:=bx3965.lt;rw [hb4177] at hb;cases hb;omega
        have ne4179:∀ b,v4173.ownBlock=some b→b≠b3976:=fun b hb=>by have:=bx3981.lt;rw [hb4177] at hb;cases hb;omega
        have ne4180:∀ b,v4173.ownBlock=some b→b≠b3984:=fun b hb=>by have:=bx3989.lt;rw [hb4177] at hb;cases hb;omega
        have ne4181:∀ b,v4173.ownBlock=some b→b≠b4059:=fun b hb=>by have:=bx4064.lt;rw [hb4177] at hb;cases hb;omega
        have ne4182:∀ b,v4173.ownBlock=some b→b≠b4070:=fun b hb=>by have:=bx4075.lt;rw [hb4177] at hb;cases hb;omega
        have ne4183:∀ b,v4173.ownBlock=some b→b≠b4081:=fun b hb=>by have:=bx4107.lt;rw [hb4177] at hb;cases hb;omega
        have hB4184:∀ b,v4173.ownBlock=some b→b∈(b4175 :: (b4081 :: (b4070 :: (b4059 :: (b3984 :: (b3976 :: (b3960 :: []))))))):=fun b hb=>by rw [hb4177] at hb;cases hb;simp
        clear e4176 hb4177
        have hp3975:=hp3975.mv m4171
        have hd4058:=hd4058.mv m4171
        have bx3965:=bx3965.keep k4172 (by simp)
        have bx3981:=bx3981.keep k4172 (by simp)
        have bx3989:=bx3989.keep k4172 (by simp)
        have bx4064:=bx4064.keep k4172 (by simp)
        have bx4075:=bx4075.keep k4172 (by simp)
        have bx4107:=bx4107.keep k4172 (by simp)
        refine AA (GN [nS,vI ((tw ((c.recs[no.toNat]!).approved) guardian:Nat):Int),v4173] VY rfl (Calls.mono (VB (.slice none 0 0) v4173 ((c.recs[no.toNat]!).approved) ([guardian]) (tw ((c.recs[no.toNat]!).approved) guardian) s4170 (by rw [hnl4168];exact EJ.nil Enc.int 3 _ _ _) hl4174 (by intro b hb;simp [Value.ownBlock] at hb) hB4184 (fun b hb=>by simp [Value.ownBlock] at hb) (by simp) (tw_le _ _) (by have:=MC (ET (KE hok (k:=no.toNat) oM)).2.2;simp only [List.length_cons,List.length_nil];omega) (by have:=MC (ET (KE hok (k:=no.toNat) oM)).2.2;simp only [List.length_cons,List.length_nil,maxLen];omega)) (fun e_ w4194 hR_=>?_)))
        obtain ⟨v4185,B4186,rfl,hB4187,at4188,sub4189,s4190,m4191,k4192,ho4193⟩:=hR_
        refine DP ?_
        have ne4195:∀ b,v4173.ownBlock=some b→v4185.ownBlock≠some b:=fun b hb e=>(at4188 b e).elim (fun e1=>(by simp [Value.ownBlock] at e1)) (fun e1=>by have:=(hl4174.lt b hb).2;omega)
        have ne4196:∀ b,v4185.ownBlock=some b→b≠b3960:=fun b hb=>(at4188 b hb).elim (fun e1=>(by simp [Value.ownBlock] at e1)) (fun e1=>by have:=bx3965.lt;omega)
        have ne4197:∀ b,v4185.ownBlock=some b→b≠b3976:=fun b hb=>(at4188 b hb).elim (fun e1=>(by simp [Value.ownBlock] at e1)) (fun e1=>by have:=bx3981.lt;omega)
        have ne4198:∀ b,v4185.ownBlock=some b→b≠b3984:=fun b hb=>(at4188 b hb).elim (fun e1=>(by simp [Value.ownBlock] at e1)) (fun e1=>by have:=bx3989.lt;omega)
        have ne4199:∀ b,v4185.ownBlock=some b→b≠b4059:=fun b hb=>(at4188 b hb).elim (fun e1=>(by simp [Value.ownBlock] at e1)) (fun e1=>by have:=bx4064.lt;omega)
        have ne4200:∀ b,v4185.ownBlock=some b→b≠b4070:=fun b hb=>(at4188 b hb).elim (fun e1=>(by simp [Value.ownBlock] at e1)) (fun e1=>by have:=bx4075.lt;omega)
        have ne4201:∀ b,v4185.ownBlock=some b→b≠b4081:=fun b hb=>(at4188 b hb).elim (fun e1=>(by simp [Value.ownBlock] at e1)) (fun e1=>by have:=bx4107.lt;omega)
        have hB4184:∀ b,v4173.ownBlock=some b→b∈B4186:=fun b hb=>sub4189 b (hB4184 b hb)
        have hin_b3960:b3960∈B4186:=sub4189 b3960 (by repeat (constructor))
        have hin_b3976:b3976∈B4186:=sub4189 b3976 (by repeat (constructor))
        have hin_b3984:b3984∈B4186:=sub4189 b3984 (by repeat (constructor))
        have hin_b4059:b4059∈B4186:=sub4189 b4059 (by repeat (constructor))
        have hin_b4070:b4070∈B4186:=sub4189 b4070 (by repeat (constructor))
        have hin_b4081:b4081∈B4186:=sub4189 b4081 (by repeat (constructor))
        have hp3975:=hp3975.mv m4191
        have hd4058:=hd4058.mv m4191
        have bx3965:=bx3965.keep k4192 (by simp [Value.ownBlock])
        have bx3981:=bx3981.keep k4192 (by simp [Value.ownBlock])
        have bx3989:=bx3989.keep k4192 (by simp [Value.ownBlock])
        have bx4064:=bx4064.keep k4192 (by simp [Value.ownBlock])
        have bx4075:=bx4075.keep k4192 (by simp [Value.ownBlock])
        have bx4107:=bx4107.keep k4192 (by simp [Value.ownBlock])
        refine AA (EO ⟨b4059,0,none⟩ rfl (AA (BD 0 GX rfl (AA (BD 3 PB rfl (BY (CK (v4185) rfl rfl ho4193.oneCell s_22 (by repeat (assumption)) bx4064 oT s4190 fun w4202 s4203 m4204 k4205 bx4206=>(?_))))))))
        have ho4193:=ho4193.mv m4204 k4205 (fun b hb=>BH (ne4199 b hb))
        have hp3975:=hp3975.mv m4204
        have hd4058:=hd4058.mv m4204
        have bx3965:=bx3965.keep k4205 (BH ne4066)
        have bx3981:=bx3981.keep k4205 (BH ne4067)
        have bx3989:=bx3989.keep k4205 (BH ne4068)
        have bx4075:=bx4075.keep k4205 (BH (Ne.symm ne4080))
        have bx4107:=bx4107.keep k4205 (BH (Ne.symm ne4091))
        refine AF (FP rfl (IH rfl) (Exists.intro _ (And.intro rfl (?_))))
        refine AF (FP rfl (IH rfl) (DP (?_)))
        refine AF (FP rfl (IH rfl) (DP (?_)))
        refine AF (FP rfl (IH rfl) (DP (?_)))
        refine AF (AC (?_))
        refine AG (?_)
        refine AB kR (AA (CR U28_ rfl BL rfl hp3975 fun cs4207 hs4208=>(?_)))
        obtain ⟨d4214,d4216,rfl,hd4215,hd4217⟩:=hs4208
        have:=hd4215.len_le
        have:=hd4217.len_le
        refine BY (BC (vs:=[vI c.epoch,vI c.threshold,vI c.wait,d4214,d4216]) (.agg #[vI c.epoch,vI c.threshold,vI c.wait,d4214,d4216]) rfl rfl rfl BL (fun u hu=>by simp only [List.mem_cons,List.not_mem_nil,or_false] at hu;rcases hu with rfl|rfl|rfl|rfl|rfl <;> first|rfl|exact hd4215.oneCell|exact hd4217.oneCell) (by repeat (assumption)) bx3981 oT s4203 fun w4209 s4210 m4211 k4212 bx4213=>(?_))
        have hp3975:=hp3975.mv m4211
        have hd4058:=hd4058.mv m4211
        have hd4215:=hd4215.mv m4211
        have bx3965:=bx3965.keep k4212 (BH ne3983)
        have bx3989:=bx3989.keep k4212 (BH (Ne.symm ne3992))
        have ho4193:=ho4193.mv m4211 k4212 (fun b hb=>BH (ne4197 b hb))
        have bx4206:=bx4206.keep k4212 (BH (Ne.symm ne4067))
        have bx4075:=bx4075.keep k4212 (BH (Ne.symm ne4078))
        have bx4107:=bx4107.keep k4212 (BH (Ne.symm ne4089))
        refine AF (AC (?_))
        refine AG (?_)
        refine AB kR (AA (BM 4 DK (c.recs) rfl hp3975 (fun _ _ _ h=>CJ h) fun a4218 hp4219=>(AA (BW U26_ rfl rfl hp4219 fun v4220 hl4221=>(?_)))))
        have:=hl4221.len_le
        refine AA (KB [v4220] _ LX rfl (CH 8 Try.func67 rfl rfl oT (fun F4222=>?_)) (fun _ _ h=>h))
        refine AG (?_)
        refine AB kR (AA (AD (nS) rfl (AF (AC (?_)))))
        refine AG (?_)
        refine AG (?_)
        refine AB kR (AA (AE (v4220) rfl (AA (NY U26_ rfl rfl hl4221 oM (AF (AC (?_)))))))
        refine AO false rfl rfl (fun h=>by cases h) (fun _=>?_)
        refine AU (AC (?_))
        refine AG (?_)
        refine AB kR (AA (HP (E:=Enc.recovery) (xs:=[]) U26_ GA NS (by decide) [] [] [] rfl rfl rfl (Parts.nil _ _ _) oT s4210 fun v4227 b4229 w4223 e4230 hb4231 s4224 m4225 k4226 hl4228=>(?_)))
        have ne4232:∀ b,v4227.ownBlock=some b→b≠b3960:=fun b hb=>by have:=bx3965.lt;rw [hb4231] at hb;cases hb;omega
        have ne4233:∀ b,v4227.ownBlock=some b→b≠b3976:=fun b hb=>by have:=bx4213.lt;rw [hb4231] at hb;cases hb;omega
        have ne4234:∀ b,v4227.ownBlock=some b→b≠b3984:=fun b hb=>by have:=bx3989.lt;rw [hb4231] at hb;cases hb;omega
        have ne4235:∀ b,v4227.ownBlock=some b→b≠b4059:=fun b hb=>by have:=bx4206.lt;rw [hb4231] at hb;cases hb;omega
        have ne4236:∀ b,v4227.ownBlock=some b→b≠b4070:=fun b hb=>by have:=bx4075.lt;rw [hb4231] at hb;cases hb;omega
        have ne4237:∀ b,v4227.ownBlock=some b→b≠b4081:=fun b hb=>by have:=bx4107.lt;rw [hb4231] at hb;cases hb;omega
        have ne4238:∀ b,v4185.ownBlock=some b→v4227.ownBlock≠some b:=fun b hb=>by have:=(ho4193.lt b hb).2;rw [hb4231];intro e;cases e;omega
        have ne4238':∀ b,v4227.ownBlock=some b→v4185.ownBlock≠some b:=fun b hb e=>ne4238 b e hb
        have hB4239:∀ b,v4227.ownBlock=some b→b∈(b4229 :: B4186):=fun b hb=>by rw [hb4231] at hb;cases hb;simp
        clear e4230 hb4231
        have hB4187:∀ b,v4185.ownBlock=some b→b∈(b4229 :: B4186):=fun b hb=>List.mem_cons_of_mem _ (hB4187 b hb)
        have hl4221:=hl4221.mv m4225
        have hd4058:=hd4058.mv m4225
        have hd4215:=hd4215.mv m4225
        have bx3965:=bx3965.keep k4226 (by simp)
        have bx4213:=bx4213.keep k4226 (by simp)
        have bx3989:=bx3989.keep k4226 (by simp)
        have ho4193:=ho4193.mv m4225 k4226 (by simp)
        have bx4206:=bx4206.keep k4226 (by simp)
        have bx4075:=bx4075.keep k4226 (by simp)
        have bx4107:=bx4107.keep k4226 (by simp)
        refine AA (AE (v4220) rfl (AA (DG (E:=Enc.recovery) (l:=[]) (m:=c.recs) U26_ UX rfl (by decide) rfl rfl hl4228 hl4221 (fun _ hb=>.inl hb) hB4239 (by simp;omega) (by simp [maxLen];omega) s4224 fun v4244 w4240 B4246 hB4247 at4248 sub4249 s4241 m4242 k4243 ho4245=>(?_))))
        rw [List.nil_append] at ho4245
        have ne4250:∀ b,v4185.ownBlock=some b→v4244.ownBlock≠some b:=fun b hb e=>by rcases at4248 with e1|e1 <;> rw [e1] at e <;> first|(cases e;have:=(ho4193.lt _ hb).2;omega)|(exact absurd e (ne4238 b hb))
        have ne4251:∀ b,v4244.ownBlock=some b→b≠b3960:=fun b hb=>by rcases at4248 with e1|e1 <;> rw [e1] at hb <;> first|(cases hb;have:=bx3965.lt;omega)|(exact ne4232 b hb)
        have ne4252:∀ b,v4244.ownBlock=some b→b≠b3976:=fun b hb=>by rcases at4248 with e1|e1 <;> rw [e1] at hb <;> first|(cases hb;have:=bx4213.lt;omega)|(exact ne4233 b hb)
        have ne4253:∀ b,v4244.ownBlock=some b→b≠b3984:=fun b hb=>by rcases at4248 with e1|e1 <;> rw [e1] at hb <;> first|(cases hb;have:=bx3989.lt;omega)|(exact ne4234 b hb)
        have ne4254:∀ b,v4244.ownBlock=some b→b≠b4059:=fun b hb=>by rcases at4248 with e1|e1 <;> rw [e1] at hb <;> first|(cases hb;have:=bx4206.lt;omega)|(exact ne4235 b hb)
        have ne4255:∀ b,v4244.ownBlock=some b→b≠b4070:=fun b hb=>by rcases at4248 with e1|e1 <;> rw [e1] at hb <;> first|(cases hb;have:=bx4075.lt;omega)|(exact ne4236 b hb)
        have ne4256:∀ b,v4244.ownBlock=some b→b≠b4081:=fun b hb=>by rcases at4248 with e1|e1 <;> rw [e1] at hb <;> first|(cases hb;have:=bx4107.lt;omega)|(exact ne4237 b hb)
        have hB4187:∀ b,v4185.ownBlock=some b→b∈B4246:=fun b hb=>sub4249 b (hB4187 b hb)
        have hin_b3960:b3960∈B4246:=sub4249 b3960 rC
        have hin_b3976:b3976∈B4246:=sub4249 b3976 rC
        have hin_b3984:b3984∈B4246:=sub4249 b3984 rC
        have hin_b4059:b4059∈B4246:=sub4249 b4059 rC
        have hin_b4070:b4070∈B4246:=sub4249 b4070 rC
        have hin_b4081:b4081∈B4246:=sub4249 b4081 rC
        have hd4058:=hd4058.mv m4242
        have hd4215:=hd4215.mv m4242
        have bx3965:=bx3965.keep k4243 (by simp only [Option.mem_toList];exact fun e=>absurd rfl (ne4232 _ e))
        have bx4213:=bx4213.keep k4243 (by simp only [Option.mem_toList];exact fun e=>absurd rfl (ne4233 _ e))
        have bx3989:=bx3989.keep k4243 (by simp only [Option.mem_toList];exact fun e=>absurd rfl (ne4234 _ e))
        have ho4193:=ho4193.mv m4242 k4243 (fun b hb=>by simp only [Option.mem_toList];exact ne4238 b hb)
        have bx4206:=bx4206.keep k4243 (by simp only [Option.mem_toList];exact fun e=>absurd rfl (ne4235 _ e))
        refine AA (AD (v4244) rfl (AF (AC (?_))))
        refine AP (AZ rfl (CS rfl rfl rfl) (Exists.intro _ (And.intro rfl (?_))))
        refine AA (BD 4 DK rfl (BY (CK (v4244) rfl rfl ho4245.oneCell s_26 (by repeat (assumption)) bx4213 oT s4241 fun w4257 s4258 m4259 k4260 bx4261=>(?_))))
        have hd4058:=hd4058.mv m4259
        have hd4215:=hd4215.mv m4259
        have ho4245:=ho4245.mv m4259 k4260 (fun b hb=>BH (ne4252 b hb))
        have bx3965:=bx3965.keep k4260 (BH ne3983)
        have bx3989:=bx3989.keep k4260 (BH (Ne.symm ne3992))
        have ho4193:=ho4193.mv m4259 k4260 (fun b hb=>BH (ne4197 b hb))
        have bx4206:=bx4206.keep k4260 (BH (Ne.symm ne4067))
        refine AF (AC (?_))
        refine AG (?_)
        refine cw_draw' 7 _ _ [DF (vP (some ⟨b3976,4,none⟩)),DF v4244,DF (vI no),DF (vP (some ⟨b4059,0,none⟩)),DF (vP (some ⟨b4059,0,none⟩)),DF (vP (some ⟨b4059,0,none⟩)),DF (vA #[vI ((c.recs[no.toNat]!).no),vI ((c.recs[no.toNat]!).asked),vI ((c.recs[no.toNat]!).state),v4185,d4057])] kR kR kR kR rfl rfl ⟨kI,kI,kI,kI,kI,kI,kI,trivial⟩ ⟨?_,?_,?_,?_,?_,?_,?_,trivial⟩ ?_
        ·intro F1 w1 k1 hf hd
         obtain ⟨F2,rfl⟩:=AL (F:=F1) [(6,vP (some ⟨b3976,0,none⟩))] ⟨hf 6 kR,trivial⟩
         exact AH rfl ((BD 4 DK rfl (⟨(Keep.refl _ _),rfl⟩)))
        ·intro F1 w1 k1 hf hd
         have k0:=(Keep.drew [] w4257).trans k1
         have bx4261:=bx4261.keep k0 (by simp)
         obtain ⟨F2,rfl⟩:=AL (F:=F1) [(42,vP (some ⟨b3976,4,none⟩))] ⟨hd 0 42 kR,trivial⟩
         exact AH rfl ((BI U26_ rfl (v4244) rfl bx4261 rfl (⟨(Keep.refl _ _),rfl⟩)))
        ·intro F1 w1 k1 hf hd
         obtain ⟨F2,rfl⟩:=AL (F:=F1) [(1,vI no)] ⟨hf 1 kR,trivial⟩
         exact AH rfl ((AE (vI no) rfl (⟨(Keep.refl _ _),rfl⟩)))
        ·intro F1 w1 k1 hf hd
         obtain ⟨F2,rfl⟩:=AL (F:=F1) [(9,vP (some ⟨b4059,0,none⟩))] ⟨hf 9 kR,trivial⟩
         exact AH rfl ((AE (vP (some ⟨b4059,0,none⟩)) rfl (⟨(Keep.refl _ _),rfl⟩)))
        ·intro F1 w1 k1 hf hd
         obtain ⟨F2,rfl⟩:=AL (F:=F1) [(45,vP (some ⟨b4059,0,none⟩))] ⟨hd 3 45 kR,trivial⟩
         exact AH rfl ((EO ⟨b4059,0,none⟩ rfl (⟨(Keep.refl _ _),rfl⟩)))
        ·intro F1 w1 k1 hf hd
         obtain ⟨F2,rfl⟩:=AL (F:=F1) [(46,vP (some ⟨b4059,0,none⟩))] ⟨hd 4 46 kR,trivial⟩
         exact AH rfl ((BD 0 GX rfl (⟨(Keep.refl _ _),rfl⟩)))
        ·intro F1 w1 k1 hf hd
         have k0:=(Keep.drew [] w4257).trans k1
         have bx4206:=bx4206.keep k0 (by simp)
         obtain ⟨F2,rfl⟩:=AL (F:=F1) [(47,vP (some ⟨b4059,0,none⟩))] ⟨hd 5 47 kR,trivial⟩
         exact AH rfl ((BN (vs:=[vI ((c.recs[no.toNat]!).no),vI ((c.recs[no.toNat]!).asked),vI ((c.recs[no.toNat]!).state),v4185,d4057]) U68_ rfl GA rfl bx4206 rfl (⟨(Keep.refl _ _),rfl⟩)))
        intro F4263 w4264 k4262 hT4265 hF4266
        have s4267:=s4258.call k4262
        have m4268:Mv B4246 w4257 B4246 w4264:=Mv.of_keep k4262
        have hd4058:=hd4058.mv m4268
        have hd4215:=hd4215.mv m4268
        have ho4245:=ho4245.mv m4268 k4262 (by simp)
        have bx3965:=bx3965.keep k4262 (by simp)
        have bx4261:=bx4261.keep k4262 (by simp)
        have bx3989:=bx3989.keep k4262 (by simp)
        have ho4193:=ho4193.mv m4268 k4262 (by simp)
        obtain ⟨F2,rfl⟩:=AL (F:=F4263) [(6,vP (some ⟨b3976,0,none⟩)),(7,vP (some ⟨b3984,0,none⟩)),(51, .tuple #[vN (.func 103) #[] #[vP (some ⟨b3976,0,none⟩),vP (some ⟨b3984,0,none⟩)]]),(43,v4244),(44,vI no),(48,vA #[vI ((c.recs[no.toNat]!).no),vI ((c.recs[no.toNat]!).asked),vI ((c.recs[no.toNat]!).state),v4185,d4057])] ⟨hF4266 6 kR,hF4266 7 kR,hF4266 51 kR,hT4265 1 43 kR (by decide),hT4265 2 44 kR (by decide),hT4265 6 48 kR (by decide),trivial⟩
        clear hT4265 hF4266
        refine AA (ER U26_ GA .i64 no no.toNat rfl rfl oM ho4245 oM fun b4271 hb4272=>(?_))
        obtain ⟨B4278,s4279,m4280,hl4281,hk4282⟩:=ho4193.publish s4267
        have hB4247:∀ b,v4244.ownBlock=some b→b∈B4278:=fun b hb=>hk4282 b (hB4247 b hb) ((fun b hb e=>ne4250 b e hb) b hb)
        have hin_b3960:b3960∈B4278:=hk4282 b3960 (by repeat (assumption)) (fun e=>absurd rfl (ne4196 _ e))
        have hin_b3976:b3976∈B4278:=hk4282 b3976 (by repeat (assumption)) (fun e=>absurd rfl (ne4197 _ e))
        have hin_b3984:b3984∈B4278:=hk4282 b3984 (by repeat (assumption)) (fun e=>absurd rfl (ne4198 _ e))
        have hin_b4059:b4059∈B4278:=hk4282 b4059 (by repeat (assumption)) (fun e=>absurd rfl (ne4199 _ e))
        have hin_b4070:b4070∈B4278:=hk4282 b4070 (by repeat (assumption)) (fun e=>absurd rfl (ne4200 _ e))
        have hin_b4081:b4081∈B4278:=hk4282 b4081 (by repeat (assumption)) (fun e=>absurd rfl (ne4201 _ e))
        have lim4283:=hl4281.len_le
        have ho4245:=ho4245.mv m4280 (Keep.refl [] _) (by simp)
        have hd4058:=hd4058.mv m4280
        have bx3965:=bx3965.keep (Keep.refl [] _) (by simp)
        have hd4215:=hd4215.mv m4280
        have bx4261:=bx4261.keep (Keep.refl [] _) (by simp)
        have bx3989:=bx3989.keep (Keep.refl [] _) (by simp)
        refine BY (NX (⟨(c.recs[no.toNat]!).no,(c.recs[no.toNat]!).asked,(c.recs[no.toNat]!).state,((c.recs[no.toNat]!).approved).take (tw ((c.recs[no.toNat]!).approved) guardian)++([guardian])++((c.recs[no.toNat]!).approved).drop (tw ((c.recs[no.toNat]!).approved) guardian),(c.recs[no.toNat]!).vetoed⟩:Recovery) (by decide) GA rfl rfl ho4245 hb4272 (hB4247 _ hb4272) oM ⟨_,_,rfl,hl4281,hd4058⟩ s4279 fun w4273 s4274 m4275 k4276 bx4277=>(?_))
        have bx3965:=bx3965.keep k4276 (by simp only [List.mem_singleton];exact fun e=>absurd e.symm (ne4251 _ hb4272))
        have hd4215:=hd4215.mv m4275
        have bx4261:=bx4261.keep k4276 (by simp only [List.mem_singleton];exact fun e=>absurd e.symm (ne4252 _ hb4272))
        have bx3989:=bx3989.keep k4276 (by simp only [List.mem_singleton];exact fun e=>absurd e.symm (ne4253 _ hb4272))
        refine AF (AC (?_))
        refine AG (?_)
        refine AB kR (AA (BN (vs:=[vI c.epoch,vI c.threshold,vI c.wait,d4214,v4244]) U28_ rfl BL rfl bx4261 rfl (BY (BC (vs:=[vI c.epoch,vI c.threshold,vI c.wait,d4214,v4244]) (.agg #[vI c.epoch,vI c.threshold,vI c.wait,d4214,v4244]) rfl rfl rfl BL (fun u hu=>by simp only [List.mem_cons,List.not_mem_nil,or_false] at hu;rcases hu with rfl|rfl|rfl|rfl|rfl <;> first|rfl|exact hd4215.oneCell|exact bx4277.oneCell) (by repeat (assumption)) bx4261 oT s4274 fun w4284 s4285 m4286 k4287 bx4288=>(?_)))))
        have bx4277:=bx4277.mv m4286 k4287 (fun b hb=>BH (ne4252 b hb))
        have hd4215:=hd4215.mv m4286
        have bx3965:=bx3965.keep k4287 (BH ne3983)
        have bx3989:=bx3989.keep k4287 (BH (Ne.symm ne3992))
        refine BY (CK (vI 0) rfl rfl rfl QX (by repeat (assumption)) bx3989 oT s4285 fun w4289 s4290 m4291 k4292 bx4293=>(?_))
        have bx4277:=bx4277.mv m4291 k4292 (fun b hb=>BH (ne4253 b hb))
        have hd4215:=hd4215.mv m4291
        have bx3965:=bx3965.keep k4292 (BH ne3991)
        have bx4288:=bx4288.keep k4292 (BH ne3992)
        refine AF (AC (?_))
        refine AP (SM (OD [vP (some ⟨b3976,0,none⟩),vP (some ⟨b3984,0,none⟩)] 19 .returning rfl (fun h=>by cases h) rfl FK Try.func103 rfl rfl oT rfl rfl (fun F4294=>?_)))
        refine AG (?_)
        refine AB kR (AA (AE (Value.nilIface) rfl (AA (o_neqNil' U20_ rfl (AF (AC (?_)))))))
        refine AO false rfl rfl (fun h=>by cases h) (fun _=>?_)
        refine AU (FP rfl (IH rfl) (Exists.intro _ (And.intro (EH rfl (DY (vs:=[vI c.epoch,vI c.threshold,vI c.wait,d4214,v4244]) rfl U28_ rfl BL rfl bx4288 rfl) (MV rfl U29_ rfl rfl bx4293 rfl)) (DP (?_)))))
        refine AA (AN (vA #[vI c.epoch,vI c.threshold,vI c.wait,d4214,v4244]) rfl rfl (AA (AN (vI 0) rfl rfl (BY (BC (vs:=[vI c.epoch,vI c.threshold,vI c.wait,d4214,v4244]) (.agg #[vI c.epoch,vI c.threshold,vI c.wait,d4214,v4244]) rfl rfl rfl BL (fun u hu=>by simp only [List.mem_cons,List.not_mem_nil,or_false] at hu;rcases hu with rfl|rfl|rfl|rfl|rfl <;> first|rfl|exact hd4215.oneCell|exact bx4277.oneCell) (by repeat (assumption)) bx3965 oT s4290 fun w4295 s4296 m4297 k4298 bx4299=>(?_))))))
        have hd4215:=hd4215.mv m4297
        have bx4277:=bx4277.mv m4297 k4298 (fun b hb=>BH (ne4251 b hb))
        refine AA (AD (vI 0) rfl (AF (AC (?_))))
        refine AP (AZ rfl (EH rfl (DY (vs:=[vI c.epoch,vI c.threshold,vI c.wait,d4214,v4244]) rfl U28_ rfl BL rfl bx4299 rfl) (DN rfl rfl)) (?_))
        have e4300:((BO c no (BA c guardian)).1)=(⟨c.epoch,c.threshold,c.wait,c.guardians,c.recs.set no.toNat (⟨(c.recs[no.toNat]!).no,(c.recs[no.toNat]!).asked,(c.recs[no.toNat]!).state,((c.recs[no.toNat]!).approved).take (tw ((c.recs[no.toNat]!).approved) guardian)++([guardian])++((c.recs[no.toNat]!).approved).drop (tw ((c.recs[no.toNat]!).approved) guardian),(c.recs[no.toNat]!).vetoed⟩:Recovery)⟩:Circle):=by exact congrArg (fun p=>p.1) (show BO c no (BA c guardian)=_ from SJ hok oM oM aS aS aS)
        have e4301:((BO c no (BA c guardian)).2)=(0:Int):=by exact congrArg (fun p=>p.2) (show BO c no (BA c guardian)=_ from SJ hok oM oM aS aS aS)
        exact ⟨_,rfl,s4296.keep,by rw [e4300,e4301];exact ⟨[vI c.epoch,vI c.threshold,vI c.wait,d4214,v4244],rfl,⟨_,_,rfl,hd4215.out,(bx4277.pub s4296)⟩⟩⟩
       ·have hp4302:bn4163=false:=by simpa using hc4165
        refine AU (AC (?_))
        refine AG (?_)
        refine AB kR (AA (HP (E:=Enc.int) (xs:=[]) U22_ MW z_3 (by decide) [] [] [] rfl rfl rfl (Parts.nil _ _ _) oT s4156 fun v4307 b4309 w4303 e4310 hb4311 s4304 m4305 k4306 hl4308=>(?_)))
        have ne4312:∀ b,v4307.ownBlock=some b→b≠b3960:=fun b hb=>by have:=bx3965.lt;rw [hb4311] at hb;cases hb;omega
        have ne4313:∀ b,v4307.ownBlock=some b→b≠b3976:=fun b hb=>by have:=bx3981.lt;rw [hb4311] at hb;cases hb;omega
        have ne4314:∀ b,v4307.ownBlock=some b→b≠b3984:=fun b hb=>by have:=bx3989.lt;rw [hb4311] at hb;cases hb;omega
        have ne4315:∀ b,v4307.ownBlock=some b→b≠b4059:=fun b hb=>by have:=bx4064.lt;rw [hb4311] at hb;cases hb;omega
        have ne4316:∀ b,v4307.ownBlock=some b→b≠b4070:=fun b hb=>by have:=bx4075.lt;rw [hb4311] at hb;cases hb;omega
        have ne4317:∀ b,v4307.ownBlock=some b→b≠b4081:=fun b hb=>by have:=bx4107.lt;rw [hb4311] at hb;cases hb;omega
        have hB4318:∀ b,v4307.ownBlock=some b→b∈(b4309 :: (b4081 :: (b4070 :: (b4059 :: (b3984 :: (b3976 :: (b3960 :: []))))))):=fun b hb=>by rw [hb4311] at hb;cases hb;simp
        clear e4310 hb4311
        have hd4056:=hd4056.mv m4305
        have hp3975:=hp3975.mv m4305
        have hd4058:=hd4058.mv m4305
        have bx3965:=bx3965.keep k4306 (by simp)
        have bx3981:=bx3981.keep k4306 (by simp)
        have bx3989:=bx3989.keep k4306 (by simp)
        have bx4064:=bx4064.keep k4306 (by simp)
        have bx4075:=bx4075.keep k4306 (by simp)
        have bx4107:=bx4107.keep k4306 (by simp)
        refine AA (AE (d4055) rfl (AA (DG (E:=Enc.int) (l:=[]) (m:=(c.recs[no.toNat]!).approved) U22_ i_3 rfl (by decide) rfl rfl hl4308 hd4056 (fun _ hb=>.inl hb) hB4318 (by have:=MC (ET (KE hok (k:=no.toNat) oM)).2.2;simp only [List.length_nil];omega) (by have:=MC (ET (KE hok (k:=no.toNat) oM)).2.2;simp only [List.length_nil,maxLen];omega) s4304 fun v4323 w4319 B4325 hB4326 at4327 sub4328 s4320 m4321 k4322 ho4324=>(?_))))
        rw [List.nil_append] at ho4324
        have ne4329:∀ b,v4323.ownBlock=some b→b≠b3960:=fun b hb=>by rcases at4327 with e1|e1 <;> rw [e1] at hb <;> first|(cases hb;have:=bx3965.lt;omega)|(exact ne4312 b hb)
        have ne4330:∀ b,v4323.ownBlock=some b→b≠b3976:=fun b hb=>by rcases at4327 with e1|e1 <;> rw [e1] at hb <;> first|(cases hb;have:=bx3981.lt;omega)|(exact ne4313 b hb)
        have ne4331:∀ b,v4323.ownBlock=some b→b≠b3984:=fun b hb=>by rcases at4327 with e1|e1 <;> rw [e1] at hb <;> first|(cases hb;have:=bx3989.lt;omega)|(exact ne4314 b hb)
        have ne4332:∀ b,v4323.ownBlock=some b→b≠b4059:=fun b hb=>by rcases at4327 with e1|e1 <;> rw [e1] at hb <;> first|(cases hb;have:=bx4064.lt;omega)|(exact ne4315 b hb)
        have ne4333:∀ b,v4323.ownBlock=some b→b≠b4070:=fun b hb=>by rcases at4327 with e1|e1 <;> rw [e1] at hb <;> first|(cases hb;have:=bx4075.lt;omega)|(exact ne4316 b hb)
        have ne4334:∀ b,v4323.ownBlock=some b→b≠b4081:=fun b hb=>by rcases at4327 with e1|e1 <;> rw [e1] at hb <;> first|(cases hb;have:=bx4107.lt;omega)|(exact ne4317 b hb)
        have hin_b3960:b3960∈B4325:=sub4328 b3960 (by repeat (constructor))
        have hin_b3976:b3976∈B4325:=sub4328 b3976 (by repeat (constructor))
        have hin_b3984:b3984∈B4325:=sub4328 b3984 (by repeat (constructor))
        have hin_b4059:b4059∈B4325:=sub4328 b4059 (by repeat (constructor))
        have hin_b4070:b4070∈B4325:=sub4328 b4070 (by repeat (constructor))
        have hin_b4081:b4081∈B4325:=sub4328 b4081 (by repeat (constructor))
        have hp3975:=hp3975.mv m4321
        have hd4058:=hd4058.mv m4321
        have bx3965:=bx3965.keep k4322 (by simp only [Option.mem_toList];exact fun e=>absurd rfl (ne4312 _ e))
        have bx3981:=bx3981.keep k4322 (by simp only [Option.mem_toList];exact fun e=>absurd rfl (ne4313 _ e))
        have bx3989:=bx3989.keep k4322 (by simp only [Option.mem_toList];exact fun e=>absurd rfl (ne4314 _ e))
        have bx4064:=bx4064.keep k4322 (by simp only [Option.mem_toList];exact fun e=>absurd rfl (ne4315 _ e))
        have bx4075:=bx4075.keep k4322 (by simp only [Option.mem_toList];exact fun e=>absurd rfl (ne4316 _ e))
        have bx4107:=bx4107.keep k4322 (by simp only [Option.mem_toList];exact fun e=>absurd rfl (ne4317 _ e))
        refine AA (AD (v4323) rfl (AF (AC (?_))))
        refine AP (AZ rfl (CS rfl rfl rfl) (Exists.intro _ (And.intro rfl (?_))))
        refine AA (AE (vI ((tw ((c.recs[no.toNat]!).approved) guardian:Nat):Int)) rfl (AA (AE (vI guardian) rfl (AA (HP (E:=Enc.int) (xs:=[.tmp 26]) U22_ MW z_3 (by decide) [vI guardian] [[vI guardian]] [guardian] rfl rfl rfl (Parts.cons rfl rfl (Parts.nil _ _ _)) oT s4320 fun v4339 b4341 w4335 e4342 hb4343 s4336 m4337 k4338 hl4340=>(?_))))))
        have ne4344:∀ b,v4339.ownBlock=some b→b≠b3960:=fun b hb=>by have:=bx3965.lt;rw [hb4343] at hb;cases hb;omega
        have ne4345:∀ b,v4339.ownBlock=some b→b≠b3976:=fun b hb=>by have:=bx3981.lt;rw [hb4343] at hb;cases hb;omega
        have ne4346:∀ b,v4339.ownBlock=some b→b≠b3984:=fun b hb=>by have:=bx3989.lt;rw [hb4343] at hb;cases hb;omega
        have ne4347:∀ b,v4339.ownBlock=some b→b≠b4059:=fun b hb=>by have:=bx4064.lt;rw [hb4343] at hb;cases hb;omega
        have ne4348:∀ b,v4339.ownBlock=some b→b≠b4070:=fun b hb=>by have:=bx4075.lt;rw [hb4343] at hb;cases hb;omega
        have ne4349:∀ b,v4339.ownBlock=some b→b≠b4081:=fun b hb=>by have:=bx4107.lt;rw [hb4343] at hb;cases hb;omega
        have ne4350:∀ b,v4323.ownBlock=some b→v4339.ownBlock≠some b:=fun b hb=>by have:=(ho4324.lt b hb).2;rw [hb4343];intro e;cases e;omega
        have ne4350':∀ b,v4339.ownBlock=some b→v4323.ownBlock≠some b:=fun b hb e=>ne4350 b e hb
        have hB4351:∀ b,v4339.ownBlock=some b→b∈(b4341 :: B4325):=fun b hb=>by rw [hb4343] at hb;cases hb;simp
        clear e4342 hb4343
        have hB4326:∀ b,v4323.ownBlock=some b→b∈(b4341 :: B4325):=fun b hb=>List.mem_cons_of_mem _ (hB4326 b hb)
        have ho4324:=ho4324.mv m4337 k4338 (by simp)
        have hp3975:=hp3975.mv m4337
        have hd4058:=hd4058.mv m4337
        have bx3965:=bx3965.keep k4338 (by simp)
        have bx3981:=bx3981.keep k4338 (by simp)
        have bx3989:=bx3989.keep k4338 (by simp)
        have bx4064:=bx4064.keep k4338 (by simp)
        have bx4075:=bx4075.keep k4338 (by simp)
        have bx4107:=bx4107.keep k4338 (by simp)
        refine AA (GN [v4323,vI ((tw ((c.recs[no.toNat]!).approved) guardian:Nat):Int),v4339] VY rfl (Calls.mono (VB v4323 v4339 ((c.recs[no.toNat]!).approved) ([guardian]) (tw ((c.recs[no.toNat]!).approved) guardian) s4336 ho4324 hl4340 hB4326 hB4351 ne4350 (by simp) (tw_le _ _) (by have:=MC (ET (KE hok (k:=no.toNat) oM)).2.2;simp only [List.length_cons,List.length_nil];omega) (by have:=MC (ET (KE hok (k:=no.toNat) oM)).2.2;simp only [List.length_cons,List.length_nil,maxLen];omega)) (fun e_ w4361 hR_=>?_)))
        obtain ⟨v4352,B4353,rfl,hB4354,at4355,sub4356,s4357,m4358,k4359,ho4360⟩:=hR_
        refine DP ?_
        have ne4362:∀ b,v4339.ownBlock=some b→v4352.ownBlock≠some b:=fun b hb e=>(at4355 b e).elim (fun e1=>((fun b hb e=>ne4350 b e hb) b hb e1)) (fun e1=>by have:=(hl4340.lt b hb).2;omega)
        have ne4363:∀ b,v4352.ownBlock=some b→b≠b3960:=fun b hb=>(at4355 b hb).elim (fun e1=>(ne4329 b e1)) (fun e1=>by have:=bx3965.lt;omega)
        have ne4364:∀ b,v4352.ownBlock=some b→b≠b3976:=fun b hb=>(at4355 b hb).elim (fun e1=>(ne4330 b e1)) (fun e1=>by have:=bx3981.lt;omega)
        have ne4365:∀ b,v4352.ownBlock=some b→b≠b3984:=fun b hb=>(at4355 b hb).elim (fun e1=>(ne4331 b e1)) (fun e1=>by have:=bx3989.lt;omega)
        have ne4366:∀ b,v4352.ownBlock=some b→b≠b4059:=fun b hb=>(at4355 b hb).elim (fun e1=>(ne4332 b e1)) (fun e1=>by have:=bx4064.lt;omega)
        have ne4367:∀ b,v4352.ownBlock=some b→b≠b4070:=fun b hb=>(at4355 b hb).elim (fun e1=>(ne4333 b e1)) (fun e1=>by have:=bx4075.lt;omega)
        have ne4368:∀ b,v4352.ownBlock=some b→b≠b4081:=fun b hb=>(at4355 b hb).elim (fun e1=>(ne4334 b e1)) (fun e1=>by have:=bx4107.lt;omega)
        have hB4351:∀ b,v4339.ownBlock=some b→b∈B4353:=fun b hb=>sub4356 b (hB4351 b hb)
        have hin_b3960:b3960∈B4353:=sub4356 b3960 rC
        have hin_b3976:b3976∈B4353:=sub4356 b3976 rC
        have hin_b3984:b3984∈B4353:=sub4356 b3984 rC
        have hin_b4059:b4059∈B4353:=sub4356 b4059 rC
        have hin_b4070:b4070∈B4353:=sub4356 b4070 rC
        have hin_b4081:b4081∈B4353:=sub4356 b4081 rC
        have hp3975:=hp3975.mv m4358
        have hd4058:=hd4058.mv m4358
        have bx3965:=bx3965.keep k4359 (by simp only [Option.mem_toList];exact fun e=>absurd rfl (ne4329 _ e))
        have bx3981:=bx3981.keep k4359 (by simp only [Option.mem_toList];exact fun e=>absurd rfl (ne4330 _ e))
        have bx3989:=bx3989.keep k4359 (by simp only [Option.mem_toList];exact fun e=>absurd rfl (ne4331 _ e))
        have bx4064:=bx4064.keep k4359 (by simp only [Option.mem_toList];exact fun e=>absurd rfl (ne4332 _ e))
        have bx4075:=bx4075.keep k4359 (by simp only [Option.mem_toList];exact fun e=>absurd rfl (ne4333 _ e))
        have bx4107:=bx4107.keep k4359 (by simp only [Option.mem_toList];exact fun e=>absurd rfl (ne4334 _ e))
        refine AA (EO ⟨b4059,0,none⟩ rfl (AA (BD 0 GX rfl (AA (BD 3 PB rfl (BY (CK (v4352) rfl rfl ho4360.oneCell s_22 (by repeat (assumption)) bx4064 oT s4357 fun w4369 s4370 m4371 k4372 bx4373=>(?_))))))))
        have ho4360:=ho4360.mv m4371 k4372 (fun b hb=>BH (ne4366 b hb))
        have hp3975:=hp3975.mv m4371
        have hd4058:=hd4058.mv m4371
        have bx3965:=bx3965.keep k4372 (BH ne4066)
        have bx3981:=bx3981.keep k4372 (BH ne4067)
        have bx3989:=bx3989.keep k4372 (BH ne4068)
        have bx4075:=bx4075.keep k4372 (BH (Ne.symm ne4080))
        have bx4107:=bx4107.keep k4372 (BH (Ne.symm ne4091))
        refine AF (FP rfl (IH rfl) (Exists.intro _ (And.intro rfl (?_))))
        refine AF (FP rfl (IH rfl) (DP (?_)))
        refine AF (FP rfl (IH rfl) (DP (?_)))
        refine AF (FP rfl (IH rfl) (DP (?_)))
        refine AF (AC (?_))
        refine AG (?_)
        refine AB kR (AA (CR U28_ rfl BL rfl hp3975 fun cs4374 hs4375=>(?_)))
        obtain ⟨d4381,d4383,rfl,hd4382,hd4384⟩:=hs4375
        have:=hd4382.len_le
        have:=hd4384.len_le
        refine BY (BC (vs:=[vI c.epoch,vI c.threshold,vI c.wait,d4381,d4383]) (.agg #[vI c.epoch,vI c.threshold,vI c.wait,d4381,d4383]) rfl rfl rfl BL (fun u hu=>by simp only [List.mem_cons,List.not_mem_nil,or_false] at hu;rcases hu with rfl|rfl|rfl|rfl|rfl <;> first|rfl|exact hd4382.oneCell|exact hd4384.oneCell) (by repeat (assumption)) bx3981 oT s4370 fun w4376 s4377 m4378 k4379 bx4380=>(?_))
        have hp3975:=hp3975.mv m4378
        have hd4058:=hd4058.mv m4378
        have hd4382:=hd4382.mv m4378
        have bx3965:=bx3965.keep k4379 (BH ne3983)
        have bx3989:=bx3989.keep k4379 (BH (Ne.symm ne3992))
        have ho4360:=ho4360.mv m4378 k4379 (fun b hb=>BH (ne4364 b hb))
        have bx4373:=bx4373.keep k4379 (BH (Ne.symm ne4067))
        have bx4075:=bx4075.keep k4379 (BH (Ne.symm ne4078))
        have bx4107:=bx4107.keep k4379 (BH (Ne.symm ne4089))
        refine AF (AC (?_))
        refine AG (?_)
        refine AB kR (AA (BM 4 DK (c.recs) rfl hp3975 (fun _ _ _ h=>CJ h) fun a4385 hp4386=>(AA (BW U26_ rfl rfl hp4386 fun v4387 hl4388=>(?_)))))
        have:=hl4388.len_le
        refine AA (KB [v4387] _ LX rfl (CH 8 Try.func67 rfl rfl oT (fun F4389=>?_)) (fun _ _ h=>h))
        refine AG (?_)
        refine AB kR (AA (AD (nS) rfl (AF (AC (?_)))))
        refine AG (?_)
        refine AG (?_)
        refine AB kR (AA (AE (v4387) rfl (AA (NY U26_ rfl rfl hl4388 oM (AF (AC (?_)))))))
        refine AO false rfl rfl (fun h=>by cases h) (fun _=>?_)
        refine AU (AC (?_))
        refine AG (?_)
        refine AB kR (AA (HP (E:=Enc.recovery) (xs:=[]) U26_ GA NS (by decide) [] [] [] rfl rfl rfl (Parts.nil _ _ _) oT s4377 fun v4394 b4396 w4390 e4397 hb4398 s4391 m4392 k4393 hl4395=>(?_)))
        have ne4399:∀ b,v4394.ownBlock=some b→b≠b3960:=fun b hb=>by have:=bx3965.lt;rw [hb4398] at hb;cases hb;omega
        have ne4400:∀ b,v4394.ownBlock=some b→b≠b3976:=fun b hb=>by have:=bx4380.lt;rw [hb4398] at hb;cases hb;omega
        have ne4401:∀ b,v4394.ownBlock=some b→b≠b3984:=fun b hb=>by have:=bx3989.lt;rw [hb4398] at hb;cases hb;omega
        have ne4402:∀ b,v4394.ownBlock=some b→b≠b4059:=fun b hb=>by have:=bx4373.lt;rw [hb4398] at hb;cases hb;omega
        have ne4403:∀ b,v4394.ownBlock=some b→b≠b4070:=fun b hb=>by have:=bx4075.lt;rw [hb4398] at hb;cases hb;omega
        have ne4404:∀ b,v4394.ownBlock=some b→b≠b4081:=fun b hb=>by have:=bx4107.lt;rw [hb4398] at hb;cases hb;omega
        have ne4405:∀ b,v4352.ownBlock=some b→v4394.ownBlock≠some b:=fun b hb=>by have:=(ho4360.lt b hb).2;rw [hb4398];intro e;cases e;omega
        have ne4405':∀ b,v4394.ownBlock=some b→v4352.ownBlock≠some b:=fun b hb e=>ne4405 b e hb
        have hB4406:∀ b,v4394.ownBlock=some b→b∈(b4396 :: B4353):=fun b hb=>by rw [hb4398] at hb;cases hb;simp
        clear e4397 hb4398
        have hB4354:∀ b,v4352.ownBlock=some b→b∈(b4396 :: B4353):=fun b hb=>List.mem_cons_of_mem _ (hB4354 b hb)
        have hl4388:=hl4388.mv m4392
        have hd4058:=hd4058.mv m4392
        have hd4382:=hd4382.mv m4392
        have bx3965:=bx3965.keep k4393 (by simp)
        have bx4380:=bx4380.keep k4393 (by simp)
        have bx3989:=bx3989.keep k4393 (by simp)
        have ho4360:=ho4360.mv m4392 k4393 (by simp)
        have bx4373:=bx4373.keep k4393 (by simp)
        have bx4075:=bx4075.keep k4393 (by simp)
        have bx4107:=bx4107.keep k4393 (by simp)
        refine AA (AE (v4387) rfl (AA (DG (E:=Enc.recovery) (l:=[]) (m:=c.recs) U26_ UX rfl (by decide) rfl rfl hl4395 hl4388 (fun _ hb=>.inl hb) hB4406 (by simp;omega) (by simp [maxLen];omega) s4391 fun v4411 w4407 B4413 hB4414 at4415 sub4416 s4408 m4409 k4410 ho4412=>(?_))))
        rw [List.nil_append] at ho4412
        have ne4417:∀ b,v4352.ownBlock=some b→v4411.ownBlock≠some b:=fun b hb e=>by rcases at4415 with e1|e1 <;> rw [e1] at e <;> first|(cases e;have:=(ho4360.lt _ hb).2;omega)|(exact absurd e (ne4405 b hb))
        have ne4418:∀ b,v4411.ownBlock=some b→b≠b3960:=fun b hb=>by rcases at4415 with e1|e1 <;> rw [e1] at hb <;> first|(cases hb;have:=bx3965.lt;omega)|(exact ne4399 b hb)
        have ne4419:∀ b,v4411.ownBlock=some b→b≠b3976:=fun b hb=>by rcases at4415 with e1|e1 <;> rw [e1] at hb <;> first|(cases hb;have:=bx4380.lt;omega)|(exact ne4400 b hb)
        have ne4420:∀ b,v4411.ownBlock=some b→b≠b3984:=fun b hb=>by rcases at4415 with e1|e1 <;> rw [e1] at hb <;> first|(cases hb;have:=bx3989.lt;omega)|(exact ne4401 b hb)
        have ne4421:∀ b,v4411.ownBlock=some b→b≠b4059:=fun b hb=>by rcases at4415 with e1|e1 <;> rw [e1] at hb <;> first|(cases hb;have:=bx4373.lt;omega)|(exact ne4402 b hb)
        have ne4422:∀ b,v4411.ownBlock=some b→b≠b4070:=fun b hb=>by rcases at4415 with e1|e1 <;> rw [e1] at hb <;> first|(cases hb;have:=bx4075.lt;omega)|(exact ne4403 b hb)
        have ne4423:∀ b,v4411.ownBlock=some b→b≠b4081:=fun b hb=>by rcases at4415 with e1|e1 <;> rw [e1] at hb <;> first|(cases hb;have:=bx4107.lt;omega)|(exact ne4404 b hb)
        have hB4354:∀ b,v4352.ownBlock=some b→b∈B4413:=fun b hb=>sub4416 b (hB4354 b hb)
        have hin_b3960:b3960∈B4413:=sub4416 b3960 rC
        have hin_b3976:b3976∈B4413:=sub4416 b3976 rC
        have hin_b3984:b3984∈B4413:=sub4416 b3984 rC
        have hin_b4059:b4059∈B4413:=sub4416 b4059 rC
        have hin_b4070:b4070∈B4413:=sub4416 b4070 rC
        have hin_b4081:b4081∈B4413:=sub4416 b4081 rC
        have hd4058:=hd4058.mv m4409
        have hd4382:=hd4382.mv m4409
        have bx3965:=bx3965.keep k4410 (by simp only [Option.mem_toList];exact fun e=>absurd rfl (ne4399 _ e))
        have bx4380:=bx4380.keep k4410 (by simp only [Option.mem_toList];exact fun e=>absurd rfl (ne4400 _ e))
        have bx3989:=bx3989.keep k4410 (by simp only [Option.mem_toList];exact fun e=>absurd rfl (ne4401 _ e))
        have ho4360:=ho4360.mv m4409 k4410 (fun b hb=>by simp only [Option.mem_toList];exact ne4405 b hb)
        have bx4373:=bx4373.keep k4410 (by simp only [Option.mem_toList];exact fun e=>absurd rfl (ne4402 _ e))
        refine AA (AD (v4411) rfl (AF (AC (?_))))
        refine AP (AZ rfl (CS rfl rfl rfl) (Exists.intro _ (And.intro rfl (?_))))
        refine AA (BD 4 DK rfl (BY (CK (v4411) rfl rfl ho4412.oneCell s_26 (by repeat (assumption)) bx4380 oT s4408 fun w4424 s4425 m4426 k4427 bx4428=>(?_))))
        have hd4058:=hd4058.mv m4426
        have hd4382:=hd4382.mv m4426
        have ho4412:=ho4412.mv m4426 k4427 (fun b hb=>BH (ne4419 b hb))
        have bx3965:=bx3965.keep k4427 (BH ne3983)
        have bx3989:=bx3989.keep k4427 (BH (Ne.symm ne3992))
        have ho4360:=ho4360.mv m4426 k4427 (fun b hb=>BH (ne4364 b hb))
        have bx4373:=bx4373.keep k4427 (BH (Ne.symm ne4067))
        refine AF (AC (?_))
        refine AG (?_)
        refine cw_draw' 7 _ _ [DF (vP (some ⟨b3976,4,none⟩)),DF v4411,DF (vI no),DF (vP (some ⟨b4059,0,none⟩)),DF (vP (some ⟨b4059,0,none⟩)),DF (vP (some ⟨b4059,0,none⟩)),DF (vA #[vI ((c.recs[no.toNat]!).no),vI ((c.recs[no.toNat]!).asked),vI ((c.recs[no.toNat]!).state),v4352,d4057])] kR kR kR kR rfl rfl ⟨kI,kI,kI,kI,kI,kI,kI,trivial⟩ ⟨?_,?_,?_,?_,?_,?_,?_,trivial⟩ ?_
        ·intro F1 w1 k1 hf hd
         obtain ⟨F2,rfl⟩:=AL (F:=F1) [(6,vP (some ⟨b3976,0,none⟩))] ⟨hf 6 kR,trivial⟩
         exact AH rfl ((BD 4 DK rfl (⟨(Keep.refl _ _),rfl⟩)))
        ·intro F1 w1 k1 hf hd
         have k0:=(Keep.drew [] w4424).trans k1
         have bx4428:=bx4428.keep k0 (by simp)
         obtain ⟨F2,rfl⟩:=AL (F:=F1) [(42,vP (some ⟨b3976,4,none⟩))] ⟨hd 0 42 kR,trivial⟩
         exact AH rfl ((BI U26_ rfl (v4411) rfl bx4428 rfl (⟨(Keep.refl _ _),rfl⟩)))
        ·intro F1 w1 k1 hf hd
         obtain ⟨F2,rfl⟩:=AL (F:=F1) [(1,vI no)] ⟨hf 1 kR,trivial⟩
         exact AH rfl ((AE (vI no) rfl (⟨(Keep.refl _ _),rfl⟩)))
        ·intro F1 w1 k1 hf hd
         obtain ⟨F2,rfl⟩:=AL (F:=F1) [(9,vP (some ⟨b4059,0,none⟩))] ⟨hf 9 kR,trivial⟩
         exact AH rfl ((AE (vP (some ⟨b4059,0,none⟩)) rfl (⟨(Keep.refl _ _),rfl⟩)))
        ·intro F1 w1 k1 hf hd
         obtain ⟨F2,rfl⟩:=AL (F:=F1) [(45,vP (some ⟨b4059,0,none⟩))] ⟨hd 3 45 kR,trivial⟩
         exact AH rfl ((EO ⟨b4059,0,none⟩ rfl (⟨(Keep.refl _ _),rfl⟩)))
        ·intro F1 w1 k1 hf hd
         obtain ⟨F2,rfl⟩:=AL (F:=F1) [(46,vP (some ⟨b4059,0,none⟩))] ⟨hd 4 46 kR,trivial⟩
         exact AH rfl ((BD 0 GX rfl (⟨(Keep.refl _ _),rfl⟩)))
        ·intro F1 w1 k1 hf hd
         have k0:=(Keep.drew [] w4424).trans k1
         have bx4373:=bx4373.keep k0 (by simp)
         obtain ⟨F2,rfl⟩:=AL (F:=F1) [(47,vP (some ⟨b4059,0,none⟩))] ⟨hd 5 47 kR,trivial⟩
         exact AH rfl ((BN (vs:=[vI ((c.recs[no.toNat]!).no),vI ((c.recs[no.toNat]!).asked),vI ((c.recs[no.toNat]!).state),v4352,d4057]) U68_ rfl GA rfl bx4373 rfl (⟨(Keep.refl _ _),rfl⟩)))
        intro F4430 w4431 k4429 hT4432 hF4433
        have s4434:=s4425.call k4429
        have m4435:Mv B4413 w4424 B4413 w4431:=Mv.of_keep k4429
        have hd4058:=hd4058.mv m4435
        have hd4382:=hd4382.mv m4435
        have ho4412:=ho4412.mv m4435 k4429 (by simp)
        have bx3965:=bx3965.keep k4429 (by simp)
        have bx4428:=bx4428.keep k4429 (by simp)
        have bx3989:=bx3989.keep k4429 (by simp)
        have ho4360:=ho4360.mv m4435 k4429 (by simp)
        obtain ⟨F2,rfl⟩:=AL (F:=F4430) [(6,vP (some ⟨b3976,0,none⟩)),(7,vP (some ⟨b3984,0,none⟩)),(51, .tuple #[vN (.func 103) #[] #[vP (some ⟨b3976,0,none⟩),vP (some ⟨b3984,0,none⟩)]]),(43,v4411),(44,vI no),(48,vA #[vI ((c.recs[no.toNat]!).no),vI ((c.recs[no.toNat]!).asked),vI ((c.recs[no.toNat]!).state),v4352,d4057])] ⟨hF4433 6 kR,hF4433 7 kR,hF4433 51 kR,hT4432 1 43 kR (by decide),hT4432 2 44 kR (by decide),hT4432 6 48 kR (by decide),trivial⟩
        clear hT4432 hF4433
        refine AA (ER U26_ GA .i64 no no.toNat rfl rfl oM ho4412 oM fun b4438 hb4439=>(?_))
        obtain ⟨B4445,s4446,m4447,hl4448,hk4449⟩:=ho4360.publish s4434
        have hB4414:∀ b,v4411.ownBlock=some b→b∈B4445:=fun b hb=>hk4449 b (hB4414 b hb) ((fun b hb e=>ne4417 b e hb) b hb)
        have hin_b3960:b3960∈B4445:=hk4449 b3960 (by repeat (assumption)) (fun e=>absurd rfl (ne4363 _ e))
        have hin_b3976:b3976∈B4445:=hk4449 b3976 (by repeat (assumption)) (fun e=>absurd rfl (ne4364 _ e))
        have hin_b3984:b3984∈B4445:=hk4449 b3984 (by repeat (assumption)) (fun e=>absurd rfl (ne4365 _ e))
        have hin_b4059:b4059∈B4445:=hk4449 b4059 (by repeat (assumption)) (fun e=>absurd rfl (ne4366 _ e))
        have hin_b4070:b4070∈B4445:=hk4449 b4070 (by repeat (assumption)) (fun e=>absurd rfl (ne4367 _ e))
        have hin_b4081:b4081∈B4445:=hk4449 b4081 (by repeat (assumption)) (fun e=>absurd rfl (ne4368 _ e))
        have lim4450:=hl4448.len_le
        have ho4412:=ho4412.mv m4447 (Keep.refl [] _) (by simp)
        have hd4058:=hd4058.mv m4447
        have bx3965:=bx3965.keep (Keep.refl [] _) (by simp)
        have hd4382:=hd4382.mv m4447
        have bx4428:=bx4428.keep (Keep.refl [] _) (by simp)
        have bx3989:=bx3989.keep (Keep.refl [] _) (by simp)
        refine BY (NX (⟨(c.recs[no.toNat]!).no,(c.recs[no.toNat]!).asked,(c.recs[no.toNat]!).state,((c.recs[no.toNat]!).approved).take (tw ((c.recs[no.toNat]!).approved) guardian)++([guardian])++((c.recs[no.toNat]!).approved).drop (tw ((c.recs[no.toNat]!).approved) guardian),(c.recs[no.toNat]!).vetoed⟩:Recovery) (by decide) GA rfl rfl ho4412 hb4439 (hB4414 _ hb4439) oM ⟨_,_,rfl,hl4448,hd4058⟩ s4446 fun w4440 s4441 m4442 k4443 bx4444=>(?_))
        have bx3965:=bx3965.keep k4443 (by simp only [List.mem_singleton];exact fun e=>absurd e.symm (ne4418 _ hb4439))
        have hd4382:=hd4382.mv m4442
        have bx4428:=bx4428.keep k4443 (by simp only [List.mem_singleton];exact fun e=>absurd e.symm (ne4419 _ hb4439))
        have bx3989:=bx3989.keep k4443 (by simp only [List.mem_singleton];exact fun e=>absurd e.symm (ne4420 _ hb4439))
        refine AF (AC (?_))
        refine AG (?_)
        refine AB kR (AA (BN (vs:=[vI c.epoch,vI c.threshold,vI c.wait,d4381,v4411]) U28_ rfl BL rfl bx4428 rfl (BY (BC (vs:=[vI c.epoch,vI c.threshold,vI c.wait,d4381,v4411]) (.agg #[vI c.epoch,vI c.threshold,vI c.wait,d4381,v4411]) rfl rfl rfl BL (fun u hu=>by simp only [List.mem_cons,List.not_mem_nil,or_false] at hu;rcases hu with rfl|rfl|rfl|rfl|rfl <;> first|rfl|exact hd4382.oneCell|exact bx4444.oneCell) (by repeat (assumption)) bx4428 oT s4441 fun w4451 s4452 m4453 k4454 bx4455=>(?_)))))
        have bx4444:=bx4444.mv m4453 k4454 (fun b hb=>BH (ne4419 b hb))
        have hd4382:=hd4382.mv m4453
        have bx3965:=bx3965.keep k4454 (BH ne3983)
        have bx3989:=bx3989.keep k4454 (BH (Ne.symm ne3992))
        refine BY (CK (vI 0) rfl rfl rfl QX (by repeat (assumption)) bx3989 oT s4452 fun w4456 s4457 m4458 k4459 bx4460=>(?_))
        have bx4444:=bx4444.mv m4458 k4459 (fun b hb=>BH (ne4420 b hb))
        have hd4382:=hd4382.mv m4458
        have bx3965:=bx3965.keep k4459 (BH ne3991)
        have bx4455:=bx4455.keep k4459 (BH ne3992)
        refine AF (AC (?_))
        refine AP (SM (OD [vP (some ⟨b3976,0,none⟩),vP (some ⟨b3984,0,none⟩)] 19 .returning rfl (fun h=>by cases h) rfl FK Try.func103 rfl rfl oT rfl rfl (fun F4461=>?_)))
        refine AG (?_)
        refine AB kR (AA (AE (Value.nilIface) rfl (AA (o_neqNil' U20_ rfl (AF (AC (?_)))))))
        refine AO false rfl rfl (fun h=>by cases h) (fun _=>?_)
        refine AU (FP rfl (IH rfl) (Exists.intro _ (And.intro (EH rfl (DY (vs:=[vI c.epoch,vI c.threshold,vI c.wait,d4381,v4411]) rfl U28_ rfl BL rfl bx4455 rfl) (MV rfl U29_ rfl rfl bx4460 rfl)) (DP (?_)))))
        refine AA (AN (vA #[vI c.epoch,vI c.threshold,vI c.wait,d4381,v4411]) rfl rfl (AA (AN (vI 0) rfl rfl (BY (BC (vs:=[vI c.epoch,vI c.threshold,vI c.wait,d4381,v4411]) (.agg #[vI c.epoch,vI c.threshold,vI c.wait,d4381,v4411]) rfl rfl rfl BL (fun u hu=>by simp only [List.mem_cons,List.not_mem_nil,or_false] at hu;rcases hu with rfl|rfl|rfl|rfl|rfl <;> first|rfl|exact hd4382.oneCell|exact bx4444.oneCell) (by repeat (assumption)) bx3965 oT s4457 fun w4462 s4463 m4464 k4465 bx4466=>(?_))))))
        have hd4382:=hd4382.mv m4464
        have bx4444:=bx4444.mv m4464 k4465 (fun b hb=>BH (ne4418 b hb))
        refine AA (AD (vI 0) rfl (AF (AC (?_))))
        refine AP (AZ rfl (EH rfl (DY (vs:=[vI c.epoch,vI c.threshold,vI c.wait,d4381,v4411]) rfl U28_ rfl BL rfl bx4466 rfl) (DN rfl rfl)) (?_))
        have e4467:((BO c no (BA c guardian)).1)=(⟨c.epoch,c.threshold,c.wait,c.guardians,c.recs.set no.toNat (⟨(c.recs[no.toNat]!).no,(c.recs[no.toNat]!).asked,(c.recs[no.toNat]!).state,((c.recs[no.toNat]!).approved).take (tw ((c.recs[no.toNat]!).approved) guardian)++([guardian])++((c.recs[no.toNat]!).approved).drop (tw ((c.recs[no.toNat]!).approved) guardian),(c.recs[no.toNat]!).vetoed⟩:Recovery)⟩:Circle):=by exact congrArg (fun p=>p.1) (show BO c no (BA c guardian)=_ from SJ hok oM oM aS aS aS)
        have e4468:((BO c no (BA c guardian)).2)=(0:Int):=by exact congrArg (fun p=>p.2) (show BO c no (BA c guardian)=_ from SJ hok oM oM aS aS aS)
        exact ⟨_,rfl,s4463.keep,by rw [e4467,e4468];exact ⟨[vI c.epoch,vI c.threshold,vI c.wait,d4381,v4411],rfl,⟨_,_,rfl,hd4382.out,(bx4444.pub s4463)⟩⟩⟩
      ·have hp4469:(RY ((c.recs[no.toNat]!).approved) guardian)=true:=by simpa using hc4160
       refine AU (FP rfl (IH rfl) (Exists.intro _ (And.intro rfl (?_))))
       refine AF (FP rfl (IH rfl) (DP (?_)))
       refine AF (FP rfl (IH rfl) (DP (?_)))
       refine AF (FP rfl (IH rfl) (DP (?_)))
       refine AF (AC (?_))
       refine AG (?_)
       refine AB kR (AA (CR U28_ rfl BL rfl hp3975 fun cs4470 hs4471=>(?_)))
       obtain ⟨d4477,d4479,rfl,hd4478,hd4480⟩:=hs4471
       have:=hd4478.len_le
       have:=hd4480.len_le
       refine BY (BC (vs:=[vI c.epoch,vI c.threshold,vI c.wait,d4477,d4479]) (.agg #[vI c.epoch,vI c.threshold,vI c.wait,d4477,d4479]) rfl rfl rfl BL (fun u hu=>by simp only [List.mem_cons,List.not_mem_nil,or_false] at hu;rcases hu with rfl|rfl|rfl|rfl|rfl <;> first|rfl|exact hd4478.oneCell|exact hd4480.oneCell) (by repeat (constructor)) bx3981 oT s4156 fun w4472 s4473 m4474 k4475 bx4476=>(?_))
       have hp3975:=hp3975.mv m4474
       have hd4056:=hd4056.mv m4474
       have hd4058:=hd4058.mv m4474
       have hd4478:=hd4478.mv m4474
       have bx3965:=bx3965.keep k4475 (BH ne3983)
       have bx3989:=bx3989.keep k4475 (BH (Ne.symm ne3992))
       have bx4064:=bx4064.keep k4475 (BH (Ne.symm ne4067))
       have bx4075:=bx4075.keep k4475 (BH (Ne.symm ne4078))
       have bx4107:=bx4107.keep k4475 (BH (Ne.symm ne4089))
       refine AF (AC (?_))
       refine AG (?_)
       refine AB kR (AA (BM 4 DK (c.recs) rfl hp3975 (fun _ _ _ h=>CJ h) fun a4481 hp4482=>(AA (BW U26_ rfl rfl hp4482 fun v4483 hl4484=>(?_)))))
       have:=hl4484.len_le
       refine AA (KB [v4483] _ LX rfl (CH 8 Try.func67 rfl rfl oT (fun F4485=>?_)) (fun _ _ h=>h))
       refine AG (?_)
       refine AB kR (AA (AD (nS) rfl (AF (AC (?_)))))
       refine AG (?_)
       refine AG (?_)
       refine AB kR (AA (AE (v4483) rfl (AA (NY U26_ rfl rfl hl4484 oM (AF (AC (?_)))))))
       refine AO false rfl rfl (fun h=>by cases h) (fun _=>?_)
       refine AU (AC (?_))
       refine AG (?_)
       refine AB kR (AA (HP (E:=Enc.recovery) (xs:=[]) U26_ GA NS (by decide) [] [] [] rfl rfl rfl (Parts.nil _ _ _) oT s4473 fun v4490 b4492 w4486 e4493 hb4494 s4487 m4488 k4489 hl4491=>(?_)))
       have ne4495:∀ b,v4490.ownBlock=some b→b≠b3960:=fun b hb=>by have:=bx3965.lt;rw [hb4494] at hb;cases hb;omega
       have ne4496:∀ b,v4490.ownBlock=some b→b≠b3976:=fun b hb=>by have:=bx4476.lt;rw [hb4494] at hb;cases hb;omega
       have ne4497:∀ b,v4490.ownBlock=some b→b≠b3984:=fun b hb=>by have:=bx3989.lt;rw [hb4494] at hb;cases hb;omega
       have ne4498:∀ b,v4490.ownBlock=some b→b≠b4059:=fun b hb=>by have:=bx4064.lt;rw [hb4494] at hb;cases hb;omega
       have ne4499:∀ b,v4490.ownBlock=some b→b≠b4070:=fun b hb=>by have:=bx4075.lt;rw [hb4494] at hb;cases hb;omega
       have ne4500:∀ b,v4490.ownBlock=some b→b≠b4081:=fun b hb=>by have:=bx4107.lt;rw [hb4494] at hb;cases hb;omega
       have hB4501:∀ b,v4490.ownBlock=some b→b∈(b4492 :: (b4081 :: (b4070 :: (b4059 :: (b3984 :: (b3976 :: (b3960 :: []))))))):=fun b hb=>by rw [hb4494] at hb;cases hb;simp
       clear e4493 hb4494
       have hl4484:=hl4484.mv m4488
       have hd4056:=hd4056.mv m4488
       have hd4058:=hd4058.mv m4488
       have hd4478:=hd4478.mv m4488
       have bx3965:=bx3965.keep k4489 (by simp)
       have bx4476:=bx4476.keep k4489 (by simp)
       have bx3989:=bx3989.keep k4489 (by simp)
       have bx4064:=bx4064.keep k4489 (by simp)
       have bx4075:=bx4075.keep k4489 (by simp)
       have bx4107:=bx4107.keep k4489 (by simp)
       refine AA (AE (v4483) rfl (AA (DG (E:=Enc.recovery) (l:=[]) (m:=c.recs) U26_ UX rfl (by decide) rfl rfl hl4491 hl4484 (fun _ hb=>.inl hb) hB4501 (by simp;omega) (by simp [maxLen];omega) s4487 fun v4506 w4502 B4508 hB4509 at4510 sub4511 s4503 m4504 k4505 ho4507=>(?_))))
       rw [List.nil_append] at ho4507
       have ne4512:∀ b,v4506.ownBlock=some b→b≠b3960:=fun b hb=>by rcases at4510 with e1|e1 <;> rw [e1] at hb <;> first|(cases hb;have:=bx3965.lt;omega)|(exact ne4495 b hb)
       have ne4513:∀ b,v4506.ownBlock=some b→b≠b3976:=fun b hb=>by rcases at4510 with e1|e1 <;> rw [e1] at hb <;> first|(cases hb;have:=bx4476.lt;omega)|(exact ne4496 b hb)
       have ne4514:∀ b,v4506.ownBlock=some b→b≠b3984:=fun b hb=>by rcases at4510 with e1|e1 <;> rw [e1] at hb <;> first|(cases hb;have:=bx3989.lt;omega)|(exact ne4497 b hb)
       have ne4515:∀ b,v4506.ownBlock=some b→b≠b4059:=fun b hb=>by rcases at4510 with e1|e1 <;> rw [e1] at hb <;> first|(cases hb;have:=bx4064.lt;omega)|(exact ne4498 b hb)
       have ne4516:∀ b,v4506.ownBlock=some b→b≠b4070:=fun b hb=>by rcases at4510 with e1|e1 <;> rw [e1] at hb <;> first|(cases hb;have:=bx4075.lt;omega)|(exact ne4499 b hb)
       have ne4517:∀ b,v4506.ownBlock=some b→b≠b4081:=fun b hb=>by rcases at4510 with e1|e1 <;> rw [e1] at hb <;> first|(cases hb;have:=bx4107.lt;omega)|(exact ne4500 b hb)
       have hin_b3960:b3960∈B4508:=sub4511 b3960 (by repeat (constructor))
       have hin_b3976:b3976∈B4508:=sub4511 b3976 (by repeat (constructor))
       have hin_b3984:b3984∈B4508:=sub4511 b3984 (by repeat (constructor))
       have hin_b4059:b4059∈B4508:=sub4511 b4059 (by repeat (constructor))
       have hin_b4070:b4070∈B4508:=sub4511 b4070 (by repeat (constructor))
       have hin_b4081:b4081∈B4508:=sub4511 b4081 (by repeat (constructor))
       have hd4056:=hd4056.mv m4504
       have hd4058:=hd4058.mv m4504
       have hd4478:=hd4478.mv m4504
       have bx3965:=bx3965.keep k4505 (by simp only [Option.mem_toList];exact fun e=>absurd rfl (ne4495 _ e))
       have bx4476:=bx4476.keep k4505 (by simp only [Option.mem_toList];exact fun e=>absurd rfl (ne4496 _ e))
       have bx3989:=bx3989.keep k4505 (by simp only [Option.mem_toList];exact fun e=>absurd rfl (ne4497 _ e))
       have bx4064:=bx4064.keep k4505 (by simp only [Option.mem_toList];exact fun e=>absurd rfl (ne4498 _ e))
       refine AA (AD (v4506) rfl (AF (AC (?_))))
       refine AP (AZ rfl (CS rfl rfl rfl) (Exists.intro _ (And.intro rfl (?_))))
       refine AA (BD 4 DK rfl (BY (CK (v4506) rfl rfl ho4507.oneCell s_26 (by repeat (assumption)) bx4476 oT s4503 fun w4518 s4519 m4520 k4521 bx4522=>(?_))))
       have hd4056:=hd4056.mv m4520
       have hd4058:=hd4058.mv m4520
       have hd4478:=hd4478.mv m4520
       have ho4507:=ho4507.mv m4520 k4521 (fun b hb=>BH (ne4513 b hb))
       have bx3965:=bx3965.keep k4521 (BH ne3983)
       have bx3989:=bx3989.keep k4521 (BH (Ne.symm ne3992))
       have bx4064:=bx4064.keep k4521 (BH (Ne.symm ne4067))
       refine AF (AC (?_))
       refine AG (?_)
       refine cw_draw' 7 _ _ [DF (vP (some ⟨b3976,4,none⟩)),DF v4506,DF (vI no),DF (vP (some ⟨b4059,0,none⟩)),DF (vP (some ⟨b4059,0,none⟩)),DF (vP (some ⟨b4059,0,none⟩)),DF (vA #[vI ((c.recs[no.toNat]!).no),vI ((c.recs[no.toNat]!).asked),vI ((c.recs[no.toNat]!).state),d4055,d4057])] kR kR kR kR rfl rfl ⟨kI,kI,kI,kI,kI,kI,kI,trivial⟩ ⟨?_,?_,?_,?_,?_,?_,?_,trivial⟩ ?_
       ·intro F1 w1 k1 hf hd
        obtain ⟨F2,rfl⟩:=AL (F:=F1) [(6,vP (some ⟨b3976,0,none⟩))] ⟨hf 6 kR,trivial⟩
        exact AH rfl ((BD 4 DK rfl (⟨(Keep.refl _ _),rfl⟩)))
       ·intro F1 w1 k1 hf hd
        have k0:=(Keep.drew [] w4518).trans k1
        have bx4522:=bx4522.keep k0 (by simp)
        obtain ⟨F2,rfl⟩:=AL (F:=F1) [(42,vP (some ⟨b3976,4,none⟩))] ⟨hd 0 42 kR,trivial⟩
        exact AH rfl ((BI U26_ rfl (v4506) rfl bx4522 rfl (⟨(Keep.refl _ _),rfl⟩)))
       ·intro F1 w1 k1 hf hd
        obtain ⟨F2,rfl⟩:=AL (F:=F1) [(1,vI no)] ⟨hf 1 kR,trivial⟩
        exact AH rfl ((AE (vI no) rfl (⟨(Keep.refl _ _),rfl⟩)))
       ·intro F1 w1 k1 hf hd
        obtain ⟨F2,rfl⟩:=AL (F:=F1) [(9,vP (some ⟨b4059,0,none⟩))] ⟨hf 9 kR,trivial⟩
        exact AH rfl ((AE (vP (some ⟨b4059,0,none⟩)) rfl (⟨(Keep.refl _ _),rfl⟩)))
       ·intro F1 w1 k1 hf hd
        obtain ⟨F2,rfl⟩:=AL (F:=F1) [(45,vP (some ⟨b4059,0,none⟩))] ⟨hd 3 45 kR,trivial⟩
        exact AH rfl ((EO ⟨b4059,0,none⟩ rfl (⟨(Keep.refl _ _),rfl⟩)))
       ·intro F1 w1 k1 hf hd
        obtain ⟨F2,rfl⟩:=AL (F:=F1) [(46,vP (some ⟨b4059,0,none⟩))] ⟨hd 4 46 kR,trivial⟩
        exact AH rfl ((BD 0 GX rfl (⟨(Keep.refl _ _),rfl⟩)))
       ·intro F1 w1 k1 hf hd
        have k0:=(Keep.drew [] w4518).trans k1
        have bx4064:=bx4064.keep k0 (by simp)
        obtain ⟨F2,rfl⟩:=AL (F:=F1) [(47,vP (some ⟨b4059,0,none⟩))] ⟨hd 5 47 kR,trivial⟩
        exact AH rfl ((BN (vs:=[vI ((c.recs[no.toNat]!).no),vI ((c.recs[no.toNat]!).asked),vI ((c.recs[no.toNat]!).state),d4055,d4057]) U68_ rfl GA rfl bx4064 rfl (⟨(Keep.refl _ _),rfl⟩)))
       intro F4524 w4525 k4523 hT4526 hF4527
       have s4528:=s4519.call k4523
       have m4529:Mv B4508 w4518 B4508 w4525:=Mv.of_keep k4523
       have hd4056:=hd4056.mv m4529
       have hd4058:=hd4058.mv m4529
       have hd4478:=hd4478.mv m4529
       have ho4507:=ho4507.mv m4529 k4523 (by simp)
       have bx3965:=bx3965.keep k4523 (by simp)
       have bx4522:=bx4522.keep k4523 (by simp)
       have bx3989:=bx3989.keep k4523 (by simp)
       obtain ⟨F2,rfl⟩:=AL (F:=F4524) [(6,vP (some ⟨b3976,0,none⟩)),(7,vP (some ⟨b3984,0,none⟩)),(51, .tuple #[vN (.func 103) #[] #[vP (some ⟨b3976,0,none⟩),vP (some ⟨b3984,0,none⟩)]]),(43,v4506),(44,vI no),(48,vA #[vI ((c.recs[no.toNat]!).no),vI ((c.recs[no.toNat]!).asked),vI ((c.recs[no.toNat]!).state),d4055,d4057])] ⟨hF4527 6 kR,hF4527 7 kR,hF4527 51 kR,hT4526 1 43 kR (by decide),hT4526 2 44 kR (by decide),hT4526 6 48 kR (by decide),trivial⟩
       clear hT4526 hF4527
       refine AA (ER U26_ GA .i64 no no.toNat rfl rfl oM ho4507 oM fun b4532 hb4533=>(BY (NX (c.recs[no.toNat]!) (by decide) GA rfl rfl ho4507 hb4533 (hB4509 _ hb4533) oM ⟨_,_,rfl,hd4056,hd4058⟩ s4528 fun w4534 s4535 m4536 k4537 bx4538=>(?_))))
       have bx3965:=bx3965.keep k4537 (by simp only [List.mem_singleton];exact fun e=>absurd e.symm (ne4512 _ hb4533))
       have hd4478:=hd4478.mv m4536
       have bx4522:=bx4522.keep k4537 (by simp only [List.mem_singleton];exact fun e=>absurd e.symm (ne4513 _ hb4533))
       have bx3989:=bx3989.keep k4537 (by simp only [List.mem_singleton];exact fun e=>absurd e.symm (ne4514 _ hb4533))
       refine AF (AC (?_))
       refine AG (?_)
       refine AB kR (AA (BN (vs:=[vI c.epoch,vI c.threshold,vI c.wait,d4477,v4506]) U28_ rfl BL rfl bx4522 rfl (BY (BC (vs:=[vI c.epoch,vI c.threshold,vI c.wait,d4477,v4506]) (.agg #[vI c.epoch,vI c.threshold,vI c.wait,d4477,v4506]) rfl rfl rfl BL (fun u hu=>by simp only [List.mem_cons,List.not_mem_nil,or_false] at hu;rcases hu with rfl|rfl|rfl|rfl|rfl <;> first|rfl|exact hd4478.oneCell|exact bx4538.oneCell) (by repeat (assumption)) bx4522 oT s4535 fun w4539 s4540 m4541 k4542 bx4543=>(?_)))))
       have bx4538:=bx4538.mv m4541 k4542 (fun b hb=>BH (ne4513 b hb))
       have hd4478:=hd4478.mv m4541
       have bx3965:=bx3965.keep k4542 (BH ne3983)
       have bx3989:=bx3989.keep k4542 (BH (Ne.symm ne3992))
       refine BY (CK (vI 0) rfl rfl rfl QX (by repeat (assumption)) bx3989 oT s4540 fun w4544 s4545 m4546 k4547 bx4548=>(?_))
       have bx4538:=bx4538.mv m4546 k4547 (fun b hb=>BH (ne4514 b hb))
       have hd4478:=hd4478.mv m4546
       have bx3965:=bx3965.keep k4547 (BH ne3991)
       have bx4543:=bx4543.keep k4547 (BH ne3992)
       refine AF (AC (?_))
       refine AP (SM (OD [vP (some ⟨b3976,0,none⟩),vP (some ⟨b3984,0,none⟩)] 19 .returning rfl (fun h=>by cases h) rfl FK Try.func103 rfl rfl oT rfl rfl (fun F4549=>?_)))
       refine AG (?_)
       refine AB kR (AA (AE (Value.nilIface) rfl (AA (o_neqNil' U20_ rfl (AF (AC (?_)))))))
       refine AO false rfl rfl (fun h=>by cases h) (fun _=>?_)
       refine AU (FP rfl (IH rfl) (Exists.intro _ (And.intro (EH rfl (DY (vs:=[vI c.epoch,vI c.threshold,vI c.wait,d4477,v4506]) rfl U28_ rfl BL rfl bx4543 rfl) (MV rfl U29_ rfl rfl bx4548 rfl)) (DP (?_)))))
       refine AA (AN (vA #[vI c.epoch,vI c.threshold,vI c.wait,d4477,v4506]) rfl rfl (AA (AN (vI 0) rfl rfl (BY (BC (vs:=[vI c.epoch,vI c.threshold,vI c.wait,d4477,v4506]) (.agg #[vI c.epoch,vI c.threshold,vI c.wait,d4477,v4506]) rfl rfl rfl BL (fun u hu=>by simp only [List.mem_cons,List.not_mem_nil,or_false] at hu;rcases hu with rfl|rfl|rfl|rfl|rfl <;> first|rfl|exact hd4478.oneCell|exact bx4538.oneCell) (by repeat (assumption)) bx3965 oT s4545 fun w4550 s4551 m4552 k4553 bx4554=>(?_))))))
       have hd4478:=hd4478.mv m4552
       have bx4538:=bx4538.mv m4552 k4553 (fun b hb=>BH (ne4512 b hb))
       refine AA (AD (vI 0) rfl (AF (AC (?_))))
       refine AP (AZ rfl (EH rfl (DY (vs:=[vI c.epoch,vI c.threshold,vI c.wait,d4477,v4506]) rfl U28_ rfl BL rfl bx4554 rfl) (DN rfl rfl)) (?_))
       have e4555:((BO c no (BA c guardian)).1)=(⟨c.epoch,c.threshold,c.wait,c.guardians,c.recs.set no.toNat (c.recs[no.toNat]!)⟩:Circle):=by exact congrArg (fun p=>p.1) (show BO c no (BA c guardian)=_ from app_had hok oM oM aS aS aS)
       have e4556:((BO c no (BA c guardian)).2)=(0:Int):=by exact congrArg (fun p=>p.2) (show BO c no (BA c guardian)=_ from app_had hok oM oM aS aS aS)
       exact ⟨_,rfl,s4551.keep,by rw [e4555,e4556];exact ⟨[vI c.epoch,vI c.threshold,vI c.wait,d4477,v4506],rfl,⟨_,_,rfl,hd4478.out,(bx4538.pub s4551)⟩⟩⟩
    ·refine AA (JS (k:=1) (vN (.func 73) #[] #[vP (some ⟨b4070,0,none⟩)]) U110_ U3_ rfl (congrArg vI hs4109) bx4107 rfl (AA (AE (vT #[vN (.func 73) #[] #[vP (some ⟨b4070,0,none⟩)],vO true]) rfl (AA (AN (vN (.func 73) #[] #[vP (some ⟨b4070,0,none⟩)]) rfl rfl (AA (AN (vO true) rfl rfl (AA (AD (vN (.func 73) #[] #[vP (some ⟨b4070,0,none⟩)]) rfl (AA (AD (vO true) rfl (AF (AC (?_))))))))))))))
     refine AG (?_)
     refine AB kR (AA (AE (vO true) rfl (AF (AC (?_)))))
     refine AO true rfl rfl (fun _=>?_) (fun h=>by cases h)
     refine AB kR (AA (AE (vN (.func 73) #[] #[vP (some ⟨b4070,0,none⟩)]) rfl (AA (JC [] [vP (some ⟨b4070,0,none⟩)] [] enter_73 rfl rfl (CH 3 Try.func73 rfl rfl oT (fun F4557=>?_))))))
     refine AB kR (AA (BI U106_ rfl (vP (some ⟨b4059,0,none⟩)) rfl bx4075 rfl (AA (GN [vP (some ⟨b4059,0,none⟩),vO false,vI 1] JB rfl (CH 11 Try.func72 rfl rfl oT (fun F4558=>?_))))))
     refine AG (?_)
     refine AB kR (AA (AE (vO false) rfl (AA (HC false rfl (AF (AC (?_)))))))
     refine AO true rfl rfl (fun _=>?_) (fun h=>by cases h)
     refine AB kR (AA (AE (vI 1) rfl (AA (EE (l:=[(0, .tmp 8)]) NK PV rfl [(0,vI 1,[vI 1])] [vI 1] rfl ⟨_,rfl,rfl,oT,rfl⟩ (AA (KW (vA #[vI 1]) U125_ rfl rfl (BY (LA rfl (FB rfl (EA (?_)))))))))))
     refine FB rfl (EA (?_))
     refine FB rfl (EA (?_))
     refine FB rfl (EA (?_))
     refine HI (LB (HV [vP (some ⟨b3976,0,none⟩),vP (some ⟨b3984,0,none⟩)] (.panicking [{ v:=Value.iface 125 (vA #[vI 1]),recovered:=false }]) rfl (fun h=>by cases h) rfl FK (NN (1:Int) b3976 b3984 s4104 bx3981 bx3989 (by repeat (constructor)) (by repeat (constructor)) ne3992) (fun e_ w4559 hR_=>?_)))
     obtain ⟨v_,rfl,s4560,m4561,k4562,bx4563,bx4564⟩:=hR_
     have bx3965:=bx3965.keep k4562 (nin2 ne3983 ne3991)
     refine Exists.intro _ (And.intro (EH rfl (DY (vs:=[vI 0,vI 0,vI 0,nS,nS]) rfl U28_ rfl BL rfl bx4563 rfl) (MV rfl U29_ rfl rfl bx4564 rfl)) (DP (?_)))
     refine AA (AN (vA #[vI 0,vI 0,vI 0,nS,nS]) rfl rfl (AA (AN (vI 1) rfl rfl (BY (BC (vs:=[vI 0,vI 0,vI 0,nS,nS]) (.agg #[vI 0,vI 0,vI 0,nS,nS]) rfl rfl rfl BL (fun u hu=>by simp only [List.mem_cons,List.not_mem_nil,or_false] at hu;rcases hu with rfl|rfl|rfl|rfl|rfl <;> rfl) (by repeat (constructor)) bx3965 oT s4560 fun w4565 s4566 m4567 k4568 bx4569=>(?_))))))
     refine AA (AD (vI 1) rfl (AF (AC (?_))))
     refine AP (AZ rfl (EH rfl (DY (vs:=[vI 0,vI 0,vI 0,nS,nS]) rfl U28_ rfl BL rfl bx4569 rfl) (DN rfl rfl)) (?_))
     have e4570:((BO c no (BA c guardian)).1)=(⟨(0:Int),(0:Int),(0:Int),[],[]⟩:Circle):=by exact congrArg (fun p=>p.1) (show BO c no (BA c guardian)=_ from app_done hok oM oM aS)
     have e4571:((BO c no (BA c guardian)).2)=(1:Int):=by exact congrArg (fun p=>p.2) (show BO c no (BA c guardian)=_ from app_done hok oM oM aS)
     exact ⟨_,rfl,s4566.keep,by rw [e4570,e4571];exact ⟨[vI 0,vI 0,vI 0,nS,nS],rfl,Enc.out (B:=(b4081 :: (b4070 :: (b4059 :: (b3984 :: (b3976 :: (b3960 :: []))))))) ⟨.slice none 0 0, .slice none 0 0,rfl,(BG.nil _ _ _),(BG.nil _ _ _)⟩⟩⟩
    ·refine AA (JS (k:=2) (vN (.func 71) #[] #[vP (some ⟨b4070,0,none⟩)]) U110_ U3_ rfl (congrArg vI hs4109) bx4107 rfl (AA (AE (vT #[vN (.func 71) #[] #[vP (some ⟨b4070,0,none⟩)],vO true]) rfl (AA (AN (vN (.func 71) #[] #[vP (some ⟨b4070,0,none⟩)]) rfl rfl (AA (AN (vO true) rfl rfl (AA (AD (vN (.func 71) #[] #[vP (some ⟨b4070,0,none⟩)]) rfl (AA (AD (vO true) rfl (AF (AC (?_))))))))))))))
     refine AG (?_)
     refine AB kR (AA (AE (vO true) rfl (AF (AC (?_)))))
     refine AO true rfl rfl (fun _=>?_) (fun h=>by cases h)
     refine AB kR (AA (AE (vN (.func 71) #[] #[vP (some ⟨b4070,0,none⟩)]) rfl (AA (JC [] [vP (some ⟨b4070,0,none⟩)] [] enter_71 rfl rfl (CH 3 Try.func71 rfl rfl oT (fun F4572=>?_))))))
     refine AB kR (AA (BI U106_ rfl (vP (some ⟨b4059,0,none⟩)) rfl bx4075 rfl (AA (GN [vP (some ⟨b4059,0,none⟩),vO false,vI 452] JB rfl (CH 11 Try.func72 rfl rfl oT (fun F4573=>?_))))))
     refine AG (?_)
     refine AB kR (AA (AE (vO false) rfl (AA (HC false rfl (AF (AC (?_)))))))
     refine AO true rfl rfl (fun _=>?_) (fun h=>by cases h)
     refine AB kR (AA (AE (vI 452) rfl (AA (EE (l:=[(0, .tmp 8)]) NK PV rfl [(0,vI 452,[vI 452])] [vI 452] rfl ⟨_,rfl,rfl,oT,rfl⟩ (AA (KW (vA #[vI 452]) U125_ rfl rfl (BY (LA rfl (FB rfl (EA (?_)))))))))))
     refine FB rfl (EA (?_))
     refine FB rfl (EA (?_))
     refine FB rfl (EA (?_))
     refine HI (LB (HV [vP (some ⟨b3976,0,none⟩),vP (some ⟨b3984,0,none⟩)] (.panicking [{ v:=Value.iface 125 (vA #[vI 452]),recovered:=false }]) rfl (fun h=>by cases h) rfl FK (NN (452:Int) b3976 b3984 s4104 bx3981 bx3989 (by repeat (constructor)) (by repeat (constructor)) ne3992) (fun e_ w4574 hR_=>?_)))
     obtain ⟨v_,rfl,s4575,m4576,k4577,bx4578,bx4579⟩:=hR_
     have bx3965:=bx3965.keep k4577 (nin2 ne3983 ne3991)
     refine Exists.intro _ (And.intro (EH rfl (DY (vs:=[vI 0,vI 0,vI 0,nS,nS]) rfl U28_ rfl BL rfl bx4578 rfl) (MV rfl U29_ rfl rfl bx4579 rfl)) (DP (?_)))
     refine AA (AN (vA #[vI 0,vI 0,vI 0,nS,nS]) rfl rfl (AA (AN (vI 452) rfl rfl (BY (BC (vs:=[vI 0,vI 0,vI 0,nS,nS]) (.agg #[vI 0,vI 0,vI 0,nS,nS]) rfl rfl rfl BL (fun u hu=>by simp only [List.mem_cons,List.not_mem_nil,or_false] at hu;rcases hu with rfl|rfl|rfl|rfl|rfl <;> rfl) (by repeat (constructor)) bx3965 oT s4575 fun w4580 s4581 m4582 k4583 bx4584=>(?_))))))
     refine AA (AD (vI 452) rfl (AF (AC (?_))))
     refine AP (AZ rfl (EH rfl (DY (vs:=[vI 0,vI 0,vI 0,nS,nS]) rfl U28_ rfl BL rfl bx4584 rfl) (DN rfl rfl)) (?_))
     have e4585:((BO c no (BA c guardian)).1)=(⟨(0:Int),(0:Int),(0:Int),[],[]⟩:Circle):=by exact congrArg (fun p=>p.1) (show BO c no (BA c guardian)=_ from app_dead hok oM oM aS)
     have e4586:((BO c no (BA c guardian)).2)=(452:Int):=by exact congrArg (fun p=>p.2) (show BO c no (BA c guardian)=_ from app_dead hok oM oM aS)
     exact ⟨_,rfl,s4581.keep,by rw [e4585,e4586];exact ⟨[vI 0,vI 0,vI 0,nS,nS],rfl,Enc.out (B:=(b4081 :: (b4070 :: (b4059 :: (b3984 :: (b3976 :: (b3960 :: []))))))) ⟨.slice none 0 0, .slice none 0 0,rfl,(BG.nil _ _ _),(BG.nil _ _ _)⟩⟩⟩
  ·have hp4587:no<(0:Int):=by simpa using hb4021
   refine AT rfl (AT rfl (AT rfl (AT rfl (AT rfl (AA (BK (vO true) rfl rfl (AF (AC (?_)))))))))
   refine AO true rfl rfl (fun _=>?_) (fun h=>by cases h)
   refine AG (?_)
   refine AB kR (AA (BN (vs:=[vI 0,vI 0,vI 0,nS,nS]) U28_ rfl BL rfl bx3981 rfl (BY (BC (vs:=[vI 0,vI 0,vI 0,nS,nS]) (.agg #[vI 0,vI 0,vI 0,nS,nS]) rfl rfl rfl BL (fun u hu=>by simp only [List.mem_cons,List.not_mem_nil,or_false] at hu;rcases hu with rfl|rfl|rfl|rfl|rfl <;> rfl) (by repeat (constructor)) bx3981 oT s3997 fun w4588 s4589 m4590 k4591 bx4592=>(?_)))))
   have bx3965:=bx3965.keep k4591 (BH ne3983)
   have bx3989:=bx3989.keep k4591 (BH (Ne.symm ne3992))
   refine BY (CK (vI 1) rfl rfl rfl QX (by repeat (constructor)) bx3989 oT s4589 fun w4593 s4594 m4595 k4596 bx4597=>(?_))
   have bx3965:=bx3965.keep k4596 (BH ne3991)
   have bx4592:=bx4592.keep k4596 (BH ne3992)
   refine AF (AC (?_))
   refine AP (AR (QT rfl (EH rfl (DY (vs:=[vI 0,vI 0,vI 0,nS,nS]) rfl U28_ rfl BL rfl bx4592 rfl) (MV rfl U29_ rfl rfl bx4597 rfl)) (DP (?_))))
   refine AA (AN (vA #[vI 0,vI 0,vI 0,nS,nS]) rfl rfl (AA (AN (vI 1) rfl rfl (BY (BC (vs:=[vI 0,vI 0,vI 0,nS,nS]) (.agg #[vI 0,vI 0,vI 0,nS,nS]) rfl rfl rfl BL (fun u hu=>by simp only [List.mem_cons,List.not_mem_nil,or_false] at hu;rcases hu with rfl|rfl|rfl|rfl|rfl <;> rfl) (by repeat (constructor)) bx3965 oT s4594 fun w4598 s4599 m4600 k4601 bx4602=>(?_))))))
   refine AA (AD (vI 1) rfl (AF (AC (?_))))
   refine AP (AZ rfl (EH rfl (DY (vs:=[vI 0,vI 0,vI 0,nS,nS]) rfl U28_ rfl BL rfl bx4602 rfl) (DN rfl rfl)) (?_))
   have e4603:((BO c no (BA c guardian)).1)=(⟨(0:Int),(0:Int),(0:Int),[],[]⟩:Circle):=by exact congrArg (fun p=>p.1) (show BO c no (BA c guardian)=_ from app_no hok oM)
   have e4604:((BO c no (BA c guardian)).2)=(1:Int):=by exact congrArg (fun p=>p.2) (show BO c no (BA c guardian)=_ from app_no hok oM)
   exact ⟨_,rfl,s4599.keep,by rw [e4603,e4604];exact ⟨[vI 0,vI 0,vI 0,nS,nS],rfl,Enc.out (B:=(b3984 :: (b3976 :: (b3960 :: [])))) ⟨.slice none 0 0, .slice none 0 0,rfl,(BG.nil _ _ _),(BG.nil _ _ _)⟩⟩⟩
open Go.Fw Go.RowKit
set_option maxHeartbeats 4000000 in
set_option maxRecDepth 100000 in
theorem SQ {O:List Nat} (c_cs:List Value) (c:Circle) (no:Int) (day:Int) (w:World) (h_c:Enc.circle.rd w O c_cs c) (hO:∀ b∈O,b<w.heap.size):CF Try.prog 38 [.agg c_cs.toArray,vI no,vI day] w (fun v w'=>∃ (x0:List Value),v = .tuple #[.agg x0.toArray,vI ((BO c no (AY c day)).2)]∧Enc.circle.rd w' (O) x0 ((BO c no (AY c day)).1)):= by
 have h_c:Enc.circle.rd w ([]++O) c_cs c:=h_c
 have s0:St w O w []:=St.start hO
 refine BQ 14 Try.func38 rfl rfl oT (fun F0=>?_)
 refine AG (?_)
 refine AB kR (AA (DO (E:=Enc.circle) (vA c_cs.toArray) (c_cs) c rfl rfl h_c s0 fun a4605 w4606 s4607 m4608 k4609 hp4610=>(?_)))
 refine AA (DO (E:=Enc.int) (vI day) ([vI day]) day rfl rfl rfl s4607 fun a4611 w4612 s4613 m4614 k4615 hp4616=>(?_))
 have hp4610:=hp4610.mv m4614
 refine AA (CX [vI 0,vI 0,vI 0,nS,nS] II rfl s4613 fun b4617 w4618 e4623 s4619 m4620 k4621 bx4622=>(?_))
 clear e4623
 have hp4610:=hp4610.mv m4620
 have hp4616:=hp4616.mv m4620
 refine AA (AD (vI 0) rfl (AF (AC (?_))))
 refine AG (?_)
 refine AB kR (AA (CR U28_ rfl BL rfl hp4610 fun cs4624 hs4625=>(AA (AE (vI no) rfl (AA (DD (first:=[]) (captured:=[.tmp 5, .tmp 3]) [] [vP (some a4611),vP (some a4605)] rfl rfl (AA (GN [vA cs4624.toArray,vI no,vN (.func 81) #[] #[vP (some a4611),vP (some a4605)]] enter_68 rfl (PO 51 Try.func68 rfl rfl oT (fun F4626=>?_))))))))))
 refine AG (?_)
 refine AB kR (AA (DO (E:=Enc.circle) (vA cs4624.toArray) (cs4624) c rfl rfl hs4625 s4619 fun a4627 w4628 s4629 m4630 k4631 hp4632=>(?_)))
 have hp4616:=hp4616.mv m4630
 have hp4610:=hp4610.mv m4630
 have bx4622:=bx4622.keep k4631 (by simp)
 refine AA (CX [vI 0,vI 0,vI 0,nS,nS] II rfl s4629 fun b4633 w4634 e4639 s4635 m4636 k4637 bx4638=>(?_))
 have ne4640:FH b4617 b4633:=by show b4617≠b4633;have:=bx4622.lt;omega
 clear e4639
 have hp4616:=hp4616.mv m4636
 have hp4610:=hp4610.mv m4636
 have hp4632:=hp4632.mv m4636
 have bx4622:=bx4622.keep k4637 (by simp)
 refine AA (CX [vI 0] z_29 rfl s4635 fun b4641 w4642 e4647 s4643 m4644 k4645 bx4646=>(?_))
 have ne4648:FH b4617 b4641:=by show b4617≠b4641;have:=bx4622.lt;omega
 have ne4649:FH b4633 b4641:=by show b4633≠b4641;have:=bx4638.lt;omega
 clear e4647
 have hp4616:=hp4616.mv m4644
 have hp4610:=hp4610.mv m4644
 have hp4632:=hp4632.mv m4644
 have bx4622:=bx4622.keep k4645 (by simp)
 have bx4638:=bx4638.keep k4645 (by simp)
 refine AF (AC (?_))
 refine AG (?_)
 refine AG (?_)
 refine AB kR (AA (CR U28_ rfl BL rfl hp4632 fun cs4650 hs4651=>(AA (BB (vs:=[vA cs4650.toArray]) LU (OC (O:=(b4641 :: (b4633 :: (b4617 :: [])))++O) cs4650 c w4642 hs4651 s4643.lt) rfl s4643 fun v4652 w4653 s4654 m4655 k4656 r4657=>(?_)))))
 obtain rfl:=r4657
 have hp4616:=hp4616.mv m4655
 have hp4610:=hp4610.mv m4655
 have hp4632:=hp4632.mv m4655
 have bx4622:=bx4622.keep k4656 (by simp)
 have bx4638:=bx4638.keep k4656 (by simp)
 have bx4646:=bx4646.keep k4656 (by simp)
 refine AA (AD (vI (AS c)) rfl (AF (AC (?_))))
 refine AG (?_)
 refine AB kR (AA (AE (vI (AS c)) rfl (AA (CV .i64 (AS c) (0:Int) rfl rfl (AF (AC (?_)))))))
 refine AO ((AS c) != (0:Int)) rfl rfl (fun hc4658=>?_) (fun hc4658=>?_)
 ·have hp4659:AS c≠(0:Int):=by simpa using hc4658
  refine AG (?_)
  refine AB kR (AA (BN (vs:=[vI 0,vI 0,vI 0,nS,nS]) U28_ rfl BL rfl bx4638 rfl (AA (AE (vI (AS c)) rfl (BY (BC (vs:=[vI 0,vI 0,vI 0,nS,nS]) (.agg #[vI 0,vI 0,vI 0,nS,nS]) rfl rfl rfl BL (fun u hu=>by simp only [List.mem_cons,List.not_mem_nil,or_false] at hu;rcases hu with rfl|rfl|rfl|rfl|rfl <;> rfl) (by repeat (constructor)) bx4638 oT s4654 fun w4660 s4661 m4662 k4663 bx4664=>(?_)))))))
  have bx4622:=bx4622.keep k4663 (BH ne4640)
  have bx4646:=bx4646.keep k4663 (BH (Ne.symm ne4649))
  refine BY (CK (vI (AS c)) rfl rfl rfl QX (by repeat (constructor)) bx4646 oT s4661 fun w4665 s4666 m4667 k4668 bx4669=>(?_))
  have bx4622:=bx4622.keep k4668 (BH ne4648)
  have bx4664:=bx4664.keep k4668 (BH ne4649)
  refine AF (AC (?_))
  refine AP (AR (QT rfl (EH rfl (DY (vs:=[vI 0,vI 0,vI 0,nS,nS]) rfl U28_ rfl BL rfl bx4664 rfl) (MV rfl U29_ rfl rfl bx4669 rfl)) (DP (?_))))
  refine AA (AN (vA #[vI 0,vI 0,vI 0,nS,nS]) rfl rfl (AA (AN (vI (AS c)) rfl rfl (BY (BC (vs:=[vI 0,vI 0,vI 0,nS,nS]) (.agg #[vI 0,vI 0,vI 0,nS,nS]) rfl rfl rfl BL (fun u hu=>by simp only [List.mem_cons,List.not_mem_nil,or_false] at hu;rcases hu with rfl|rfl|rfl|rfl|rfl <;> rfl) (by repeat (constructor)) bx4622 oT s4666 fun w4670 s4671 m4672 k4673 bx4674=>(?_))))))
  refine AA (AD (vI (AS c)) rfl (AF (AC (?_))))
  refine AP (AZ rfl (EH rfl (DY (vs:=[vI 0,vI 0,vI 0,nS,nS]) rfl U28_ rfl BL rfl bx4674 rfl) (DN rfl rfl)) (?_))
  have e4675:((BO c no (AY c day)).1)=(⟨(0:Int),(0:Int),(0:Int),[],[]⟩:Circle):=by exact congrArg (fun p=>p.1) (show BO c no (AY c day)=_ from fin_bad aS)
  have e4676:((BO c no (AY c day)).2)=(AS c):=by exact congrArg (fun p=>p.2) (show BO c no (AY c day)=_ from fin_bad aS)
  exact ⟨_,rfl,s4671.keep,by rw [e4675,e4676];exact ⟨[vI 0,vI 0,vI 0,nS,nS],rfl,Enc.out (B:=(b4641 :: (b4633 :: (b4617 :: [])))) ⟨.slice none 0 0, .slice none 0 0,rfl,(BG.nil _ _ _),(BG.nil _ _ _)⟩⟩⟩
 ·have hp4677:AS c=(0:Int):=by simpa using hc4658
  have hok:AS c=0:=hp4677
  have hrl:=SH hok
  refine AU (AC (?_))
  refine AG (?_)
  refine AG (?_)
  refine AB kR (AA (AE (vI no) rfl (AA (DW .i64 no (0:Int) rfl rfl (AA (AE (vO (decide (no<(0:Int)))) rfl (?_)))))))
  cases hb4678:(decide (no<(0:Int)))
  ·have hp4679:(0:Int)≤no:=by simpa using hb4678
   refine BE rfl (AE (vI no) rfl (BE rfl (BM 4 DK (c.recs) rfl hp4632 (fun _ _ _ h=>CJ h) fun a4680 hp4681=>(BE rfl (BW U26_ rfl rfl hp4681 fun v4682 hl4683=>(?_))))))
   have:=hl4683.len_le
   refine BE rfl (CG U26_ rfl hl4683 (BE rfl (KI .i64 no (c.recs.length:Int) rfl rfl (AA (BX (vO (decide ((c.recs.length:Int)≤no))) rfl rfl (AF (AC (?_))))))))
   refine AO (decide ((c.recs.length:Int)≤no)) rfl rfl (fun hc4684=>?_) (fun hc4684=>?_)
   ·have hp4685:(c.recs.length:Int)≤no:=by simpa using hc4684
    refine AG (?_)
    refine AB kR (AA (BN (vs:=[vI 0,vI 0,vI 0,nS,nS]) U28_ rfl BL rfl bx4638 rfl (BY (BC (vs:=[vI 0,vI 0,vI 0,nS,nS]) (.agg #[vI 0,vI 0,vI 0,nS,nS]) rfl rfl rfl BL (fun u hu=>by simp only [List.mem_cons,List.not_mem_nil,or_false] at hu;rcases hu with rfl|rfl|rfl|rfl|rfl <;> rfl) (by repeat (constructor)) bx4638 oT s4654 fun w4686 s4687 m4688 k4689 bx4690=>(?_)))))
    have bx4622:=bx4622.keep k4689 (BH ne4640)
    have bx4646:=bx4646.keep k4689 (BH (Ne.symm ne4649))
    refine BY (CK (vI 1) rfl rfl rfl QX (by repeat (constructor)) bx4646 oT s4687 fun w4691 s4692 m4693 k4694 bx4695=>(?_))
    have bx4622:=bx4622.keep k4694 (BH ne4648)
    have bx4690:=bx4690.keep k4694 (BH ne4649)
    refine AF (AC (?_))
    refine AP (AR (QT rfl (EH rfl (DY (vs:=[vI 0,vI 0,vI 0,nS,nS]) rfl U28_ rfl BL rfl bx4690 rfl) (MV rfl U29_ rfl rfl bx4695 rfl)) (DP (?_))))
    refine AA (AN (vA #[vI 0,vI 0,vI 0,nS,nS]) rfl rfl (AA (AN (vI 1) rfl rfl (BY (BC (vs:=[vI 0,vI 0,vI 0,nS,nS]) (.agg #[vI 0,vI 0,vI 0,nS,nS]) rfl rfl rfl BL (fun u hu=>by simp only [List.mem_cons,List.not_mem_nil,or_false] at hu;rcases hu with rfl|rfl|rfl|rfl|rfl <;> rfl) (by repeat (constructor)) bx4622 oT s4692 fun w4696 s4697 m4698 k4699 bx4700=>(?_))))))
    refine AA (AD (vI 1) rfl (AF (AC (?_))))
    refine AP (AZ rfl (EH rfl (DY (vs:=[vI 0,vI 0,vI 0,nS,nS]) rfl U28_ rfl BL rfl bx4700 rfl) (DN rfl rfl)) (?_))
    have e4701:((BO c no (AY c day)).1)=(⟨(0:Int),(0:Int),(0:Int),[],[]⟩:Circle):=by exact congrArg (fun p=>p.1) (show BO c no (AY c day)=_ from fin_no hok oM)
    have e4702:((BO c no (AY c day)).2)=(1:Int):=by exact congrArg (fun p=>p.2) (show BO c no (AY c day)=_ from fin_no hok oM)
    exact ⟨_,rfl,s4697.keep,by rw [e4701,e4702];exact ⟨[vI 0,vI 0,vI 0,nS,nS],rfl,Enc.out (B:=(b4641 :: (b4633 :: (b4617 :: [])))) ⟨.slice none 0 0, .slice none 0 0,rfl,(BG.nil _ _ _),(BG.nil _ _ _)⟩⟩⟩
   ·have hp4703:no<(c.recs.length:Int):=by simpa using hc4684
    refine AU (AC (?_))
    refine AG (?_)
    refine cw_defer [vP (some ⟨b4633,0,none⟩),vP (some ⟨b4641,0,none⟩)] rfl rfl rfl rfl (AC (?_))
    refine AG (?_)
    refine AB kR (AA (BM 4 DK (c.recs) rfl hp4632 (fun _ _ _ h=>CJ h) fun a4704 hp4705=>(AA (BW U26_ rfl rfl hp4705 fun v4706 hl4707=>(?_)))))
    have:=hl4707.len_le
    refine AA (AE (vI no) rfl (AA (DI U26_ GA .i64 no no.toNat rfl rfl oM hl4707 oM fun a4708 hp4709=>(AA (CR U68_ rfl GA rfl hp4709 fun cs4710 hs4711=>(?_))))))
    obtain ⟨d4712,d4714,rfl,hd4713,hd4715⟩:=hs4711
    have:=hd4713.len_le
    have:=hd4715.len_le
    refine AA (EE (l:=[(0, .tmp 31)]) pl_113 z_113 rfl [(0,vA #[vI ((c.recs[no.toNat]!).no),vI ((c.recs[no.toNat]!).asked),vI ((c.recs[no.toNat]!).state),d4712,d4714],[vI ((c.recs[no.toNat]!).no),vI ((c.recs[no.toNat]!).asked),vI ((c.recs[no.toNat]!).state),d4712,d4714])] [vI ((c.recs[no.toNat]!).no),vI ((c.recs[no.toNat]!).asked),vI ((c.recs[no.toNat]!).state),d4712,d4714] rfl ⟨_,rfl,rfl,oT,rfl⟩ (AA (o_box (vA #[vI ((c.recs[no.toNat]!).no),vI ((c.recs[no.toNat]!).asked),vI ((c.recs[no.toNat]!).state),d4712,d4714]) [vI ((c.recs[no.toNat]!).no),vI ((c.recs[no.toNat]!).asked),vI ((c.recs[no.toNat]!).state),d4712,d4714] rfl rfl s4654 fun b4716 w4717 e4722 s4718 m4719 k4720 bx4721=>(?_))))
    have ne4723:FH b4617 b4716:=by show b4617≠b4716;have:=bx4622.lt;omega
    have ne4724:FH b4633 b4716:=by show b4633≠b4716;have:=bx4638.lt;omega
    have ne4725:FH b4641 b4716:=by show b4641≠b4716;have:=bx4646.lt;omega
    clear e4722
    have hp4616:=hp4616.mv m4719
    have hp4610:=hp4610.mv m4719
    have hp4632:=hp4632.mv m4719
    have hd4713:=hd4713.mv m4719
    have hd4715:=hd4715.mv m4719
    have bx4622:=bx4622.keep k4720 (by simp)
    have bx4638:=bx4638.keep k4720 (by simp)
    have bx4646:=bx4646.keep k4720 (by simp)
    refine AA (AD (vP (some ⟨b4716,0,none⟩)) rfl (AF (AC (?_))))
    refine AG (?_)
    refine AB kR (AA (AE (vN (.func 81) #[] #[vP (some a4611),vP (some a4605)]) rfl (AA (AE (vP (some ⟨b4716,0,none⟩)) rfl (AA (JC [] [vP (some a4611),vP (some a4605)] [vP (some ⟨b4716,0,none⟩)] enter_81 rfl rfl (CH 11 Try.func81 rfl rfl oT (fun F4726=>?_))))))))
    refine AG (?_)
    refine AB kR (AA (o_box (vP (some ⟨b4716,0,none⟩)) [vP (some ⟨b4716,0,none⟩)] rfl rfl s4718 fun b4727 w4728 e4733 s4729 m4730 k4731 bx4732=>(?_)))
    have ne4734:FH b4617 b4727:=by show b4617≠b4727;have:=bx4622.lt;omega
    have ne4735:FH b4633 b4727:=by show b4633≠b4727;have:=bx4638.lt;omega
    have ne4736:FH b4641 b4727:=by show b4641≠b4727;have:=bx4646.lt;omega
    have ne4737:FH b4716 b4727:=by show b4716≠b4727;have:=bx4721.lt;omega
    clear e4733
    have hp4616:=hp4616.mv m4730
    have hp4610:=hp4610.mv m4730
    have hp4632:=hp4632.mv m4730
    have hd4713:=hd4713.mv m4730
    have hd4715:=hd4715.mv m4730
    have bx4622:=bx4622.keep k4731 (by simp)
    have bx4638:=bx4638.keep k4731 (by simp)
    have bx4646:=bx4646.keep k4731 (by simp)
    have bx4721:=bx4721.keep k4731 (by simp)
    refine AF (AC (?_))
    refine AB kR (AA (BI U106_ rfl (vP (some ⟨b4716,0,none⟩)) rfl bx4732 rfl (AA (TU s4729 fun b4738 w4739 e4744 s4740 m4741 k4742 bx4743=>(?_)))))
    have ne4745:FH b4617 b4738:=by show b4617≠b4738;have:=bx4622.lt;omega
    have ne4746:FH b4633 b4738:=by show b4633≠b4738;have:=bx4638.lt;omega
    have ne4747:FH b4641 b4738:=by show b4641≠b4738;have:=bx4646.lt;omega
    have ne4748:FH b4716 b4738:=by show b4716≠b4738;have:=bx4721.lt;omega
    have ne4749:FH b4727 b4738:=by show b4727≠b4738;have:=bx4732.lt;omega
    clear e4744
    have hp4616:=hp4616.mv m4741
    have hp4610:=hp4610.mv m4741
    have hp4632:=hp4632.mv m4741
    have hd4713:=hd4713.mv m4741
    have hd4715:=hd4715.mv m4741
    have bx4622:=bx4622.keep k4742 (by simp)
    have bx4638:=bx4638.keep k4742 (by simp)
    have bx4646:=bx4646.keep k4742 (by simp)
    have bx4721:=bx4721.keep k4742 (by simp)
    have bx4732:=bx4732.keep k4742 (by simp)
    refine AA (DD (first:=[]) (captured:=[.tmp 3]) [] [vP (some ⟨b4727,0,none⟩)] rfl rfl (BY (JQ U110_ U3_ rfl rfl rfl bx4743 (by repeat (constructor)) s4740 rfl fun w4750 s4751 m4752 k4753 bx4754=>(?_))))
    have hp4616:=hp4616.mv m4752
    have hp4610:=hp4610.mv m4752
    have hp4632:=hp4632.mv m4752
    have hd4713:=hd4713.mv m4752
    have hd4715:=hd4715.mv m4752
    have bx4622:=bx4622.keep k4753 (BH ne4745)
    have bx4638:=bx4638.keep k4753 (BH ne4746)
    have bx4646:=bx4646.keep k4753 (BH ne4747)
    have bx4721:=bx4721.keep k4753 (BH ne4748)
    have bx4732:=bx4732.keep k4753 (BH ne4749)
    refine AA (DD (first:=[]) (captured:=[.tmp 3]) [] [vP (some ⟨b4727,0,none⟩)] rfl rfl (BY (JQ U110_ U3_ rfl rfl rfl bx4754 (by repeat (constructor)) s4751 rfl fun w4755 s4756 m4757 k4758 bx4759=>(?_))))
    have hp4616:=hp4616.mv m4757
    have hp4610:=hp4610.mv m4757
    have hp4632:=hp4632.mv m4757
    have hd4713:=hd4713.mv m4757
    have hd4715:=hd4715.mv m4757
    have bx4622:=bx4622.keep k4758 (BH ne4745)
    have bx4638:=bx4638.keep k4758 (BH ne4746)
    have bx4646:=bx4646.keep k4758 (BH ne4747)
    have bx4721:=bx4721.keep k4758 (BH ne4748)
    have bx4732:=bx4732.keep k4758 (BH ne4749)
    refine AA (DD (first:=[]) (captured:=[.tmp 3, .tmp 1, .tmp 2]) [] [vP (some ⟨b4727,0,none⟩),vP (some a4611),vP (some a4605)] rfl rfl (BY (JQ U110_ U3_ rfl rfl rfl bx4759 (by repeat (constructor)) s4756 rfl fun w4760 s4761 m4762 k4763 bx4764=>(?_))))
    have hp4616:=hp4616.mv m4762
    have hp4610:=hp4610.mv m4762
    have hp4632:=hp4632.mv m4762
    have hd4713:=hd4713.mv m4762
    have hd4715:=hd4715.mv m4762
    have bx4622:=bx4622.keep k4763 (BH ne4745)
    have bx4638:=bx4638.keep k4763 (BH ne4746)
    have bx4646:=bx4646.keep k4763 (BH ne4747)
    have bx4721:=bx4721.keep k4763 (BH ne4748)
    have bx4732:=bx4732.keep k4763 (BH ne4749)
    refine AA (AE (Value.map (some b4738)) rfl (AA (GN [vP (some ⟨b4716,0,none⟩),Value.map (some b4738)] enter_70 rfl (CH 19 Try.func70 rfl rfl oT (fun F4765=>?_)))))
    refine AG (?_)
    refine AB kR (AA (AE (Value.map (some b4738)) rfl (AA (AE (vP (some ⟨b4716,0,none⟩)) rfl (AA (EO ⟨b4716,0,none⟩ rfl (AA (BD 0 GX rfl (AA (BD 2 KD rfl (AA (BI U3_ rfl (vI ((c.recs[no.toNat]!).state)) rfl bx4721 rfl (?_)))))))))))))
    rcases (LC hok oM oM:(c.recs[no.toNat]!).state=0∨(c.recs[no.toNat]!).state=1∨(c.recs[no.toNat]!).state=2) with hs4766|hs4766|hs4766
    ·refine AA (JS (k:=0) (vN (.func 84) #[] #[vP (some ⟨b4727,0,none⟩),vP (some a4611),vP (some a4605)]) U110_ U3_ rfl (congrArg vI hs4766) bx4764 rfl (AA (AE (vT #[vN (.func 84) #[] #[vP (some ⟨b4727,0,none⟩),vP (some a4611),vP (some a4605)],vO true]) rfl (AA (AN (vN (.func 84) #[] #[vP (some ⟨b4727,0,none⟩),vP (some a4611),vP (some a4605)]) rfl rfl (AA (AN (vO true) rfl rfl (AA (AD (vN (.func 84) #[] #[vP (some ⟨b4727,0,none⟩),vP (some a4611),vP (some a4605)]) rfl (AA (AD (vO true) rfl (AF (AC (?_))))))))))))))
     refine AG (?_)
     refine AB kR (AA (AE (vO true) rfl (AF (AC (?_)))))
     refine AO true rfl rfl (fun _=>?_) (fun h=>by cases h)
     refine AB kR (AA (AE (vN (.func 84) #[] #[vP (some ⟨b4727,0,none⟩),vP (some a4611),vP (some a4605)]) rfl (AA (JC [] [vP (some ⟨b4727,0,none⟩),vP (some a4611),vP (some a4605)] [] enter_84 rfl rfl (CH 28 Try.func84 rfl rfl oT (fun F4767=>?_))))))
     refine AG (?_)
     refine cw_draw' 3 _ _ [DF (vP (some ⟨b4716,0,none⟩)),DF (vI day),DF (vO (CT day (0:Int)))] kR kR kR kR rfl rfl ⟨kI,kI,kI,trivial⟩ ⟨?_,?_,?_,trivial⟩ ?_
     ·intro F1 w1 k1 hf hd
      have k0:=(Keep.drew [] w4760).trans k1
      have bx4732:=bx4732.keep k0 (by simp)
      obtain ⟨F2,rfl⟩:=AL (F:=F1) [(0,vP (some ⟨b4727,0,none⟩))] ⟨hf 0 kR,trivial⟩
      exact AH rfl ((BI U106_ rfl (vP (some ⟨b4716,0,none⟩)) rfl bx4732 rfl (⟨(Keep.refl _ _),rfl⟩)))
     ·intro F1 w1 k1 hf hd
      have k0:=(Keep.drew [] w4760).trans k1
      have m1:Mv (b4738 :: (b4727 :: (b4716 :: (b4641 :: (b4633 :: (b4617 :: [])))))) w4760 (b4738 :: (b4727 :: (b4716 :: (b4641 :: (b4633 :: (b4617 :: [])))))) w1:=Mv.of_keep k0
      have hp4616:=hp4616.mv m1
      obtain ⟨F2,rfl⟩:=AL (F:=F1) [(1,vP (some a4611))] ⟨hf 1 kR,trivial⟩
      exact AH rfl ((CE U3_ rfl rfl hp4616 (⟨(Keep.refl _ _),rfl⟩)))
     ·intro F1 w1 k1 hf hd
      have k0:=(Keep.drew [] w4760).trans k1
      have s1:=s4761.call k0
      obtain ⟨F2,rfl⟩:=AL (F:=F1) [(4,vI day)] ⟨hd 1 4 kR,trivial⟩
      refine AH rfl ((BB (vs:=[vI day,vI 0]) LS (OL (O:=(b4738 :: (b4727 :: (b4716 :: (b4641 :: (b4633 :: (b4617 :: []))))))++O) day (0:Int) w1 s1.lt) rfl s1 fun v4768 w4769 s4770 m4771 k4772 r4773=>(?_)))
      obtain rfl:=r4773
      exact ⟨k4772,rfl⟩
     intro F4775 w4776 k4774 hT4777 hF4778
     have s4779:=s4761.call k4774
     have m4780:Mv (b4738 :: (b4727 :: (b4716 :: (b4641 :: (b4633 :: (b4617 :: [])))))) w4760 (b4738 :: (b4727 :: (b4716 :: (b4641 :: (b4633 :: (b4617 :: [])))))) w4776:=Mv.of_keep k4774
     have hp4616:=hp4616.mv m4780
     have hp4610:=hp4610.mv m4780
     have hp4632:=hp4632.mv m4780
     have hd4713:=hd4713.mv m4780
     have hd4715:=hd4715.mv m4780
     have bx4622:=bx4622.keep k4774 (by simp)
     have bx4638:=bx4638.keep k4774 (by simp)
     have bx4646:=bx4646.keep k4774 (by simp)
     have bx4721:=bx4721.keep k4774 (by simp)
     have bx4732:=bx4732.keep k4774 (by simp)
     have bx4764:=bx4764.keep k4774 (by simp)
     obtain ⟨F2,rfl⟩:=AL (F:=F4775) [(0,vP (some ⟨b4727,0,none⟩)),(1,vP (some a4611)),(2,vP (some a4605)),(28,undef),(3,vP (some ⟨b4716,0,none⟩)),(5,vO (CT day (0:Int)))] ⟨hF4778 0 kR,hF4778 1 kR,hF4778 2 kR,hF4778 28 kR,hT4777 0 3 kR (by decide),hT4777 2 5 kR (by decide),trivial⟩
     clear hT4777 hF4778
     refine AA (GN [vP (some ⟨b4716,0,none⟩),vO (CT day (0:Int)),vI 1] JB rfl (CH 11 Try.func72 rfl rfl oT (fun F4783=>?_)))
     refine AG (?_)
     refine AB kR (AA (AE (vO (CT day (0:Int))) rfl (AA (HC (CT day (0:Int)) rfl (AF (AC (?_)))))))
     refine AO (!(CT day (0:Int))) rfl rfl (fun hc4784=>?_) (fun hc4784=>?_)
     ·have hp4785:(CT day (0:Int))=false:=by simpa using hc4784
      refine AB kR (AA (AE (vI 1) rfl (AA (EE (l:=[(0, .tmp 8)]) NK PV rfl [(0,vI 1,[vI 1])] [vI 1] rfl ⟨_,rfl,rfl,oT,rfl⟩ (AA (KW (vA #[vI 1]) U125_ rfl rfl (BY (LA rfl (FB rfl (EA (?_)))))))))))
      refine HI (FB rfl (EA (?_)))
      refine FB rfl (EA (?_))
      refine FB rfl (EA (?_))
      refine HI (LB (HV [vP (some ⟨b4633,0,none⟩),vP (some ⟨b4641,0,none⟩)] (.panicking [{ v:=Value.iface 125 (vA #[vI 1]),recovered:=false }]) rfl (fun h=>by cases h) rfl FK (NN (1:Int) b4633 b4641 s4779 bx4638 bx4646 (by repeat (constructor)) (by repeat (constructor)) ne4649) (fun e_ w4786 hR_=>?_)))
      obtain ⟨v_,rfl,s4787,m4788,k4789,bx4790,bx4791⟩:=hR_
      have bx4622:=bx4622.keep k4789 (nin2 ne4640 ne4648)
      refine Exists.intro _ (And.intro (EH rfl (DY (vs:=[vI 0,vI 0,vI 0,nS,nS]) rfl U28_ rfl BL rfl bx4790 rfl) (MV rfl U29_ rfl rfl bx4791 rfl)) (DP (?_)))
      refine AA (AN (vA #[vI 0,vI 0,vI 0,nS,nS]) rfl rfl (AA (AN (vI 1) rfl rfl (BY (BC (vs:=[vI 0,vI 0,vI 0,nS,nS]) (.agg #[vI 0,vI 0,vI 0,nS,nS]) rfl rfl rfl BL (fun u hu=>by simp only [List.mem_cons,List.not_mem_nil,or_false] at hu;rcases hu with rfl|rfl|rfl|rfl|rfl <;> rfl) (by repeat (constructor)) bx4622 oT s4787 fun w4792 s4793 m4794 k4795 bx4796=>(?_))))))
      refine AA (AD (vI 1) rfl (AF (AC (?_))))
      refine AP (AZ rfl (EH rfl (DY (vs:=[vI 0,vI 0,vI 0,nS,nS]) rfl U28_ rfl BL rfl bx4796 rfl) (DN rfl rfl)) (?_))
      have e4797:((BO c no (AY c day)).1)=(⟨(0:Int),(0:Int),(0:Int),[],[]⟩:Circle):=by exact congrArg (fun p=>p.1) (show BO c no (AY c day)=_ from fin_day hok oM oM aS aS)
      have e4798:((BO c no (AY c day)).2)=(1:Int):=by exact congrArg (fun p=>p.2) (show BO c no (AY c day)=_ from fin_day hok oM oM aS aS)
      exact ⟨_,rfl,s4793.keep,by rw [e4797,e4798];exact ⟨[vI 0,vI 0,vI 0,nS,nS],rfl,Enc.out (B:=(b4738 :: (b4727 :: (b4716 :: (b4641 :: (b4633 :: (b4617 :: []))))))) ⟨.slice none 0 0, .slice none 0 0,rfl,(BG.nil _ _ _),(BG.nil _ _ _)⟩⟩⟩
     ·have hp4799:(CT day (0:Int))=true:=by simpa using hc4784
      refine AU (FP rfl (IH rfl) (DP (?_)))
      refine AF (AC (?_))
      refine AG (?_)
      refine cw_draw' 4 _ _ [DF (vP (some ⟨b4716,0,none⟩)),fun (vT:Value) (wT:World)=>∃ csT:List Value,vT = .agg csT.toArray∧Enc.circle.rd wT ((b4738 :: (b4727 :: (b4716 :: (b4641 :: (b4633 :: (b4617 :: []))))))++O) csT (c),DF (vP (some ⟨b4716,0,none⟩)),DF (vO (LD c (c.recs[no.toNat]!)))] kR kR kR kR rfl rfl ⟨kI,fun _ _ _ ⟨a,e,h⟩ k=>⟨a,e,Enc.mv _ h (Mv.of_keep k)⟩,kI,kI,trivial⟩ ⟨?_,?_,?_,?_,trivial⟩ ?_
      ·intro F1 w1 k1 hf hd
       have k0:=(Keep.drew [] w4776).trans k1
       have bx4732:=bx4732.keep k0 (by simp)
       obtain ⟨F2,rfl⟩:=AL (F:=F1) [(0,vP (some ⟨b4727,0,none⟩))] ⟨hf 0 kR,trivial⟩
       exact AH rfl ((BI U106_ rfl (vP (some ⟨b4716,0,none⟩)) rfl bx4732 rfl (⟨(Keep.refl _ _),rfl⟩)))
      ·intro F1 w1 k1 hf hd
       have k0:=(Keep.drew [] w4776).trans k1
       have m1:Mv (b4738 :: (b4727 :: (b4716 :: (b4641 :: (b4633 :: (b4617 :: [])))))) w4776 (b4738 :: (b4727 :: (b4716 :: (b4641 :: (b4633 :: (b4617 :: [])))))) w1:=Mv.of_keep k0
       have hp4610:=hp4610.mv m1
       obtain ⟨F2,rfl⟩:=AL (F:=F1) [(2,vP (some a4605))] ⟨hf 2 kR,trivial⟩
       exact AH rfl ((CR U28_ rfl BL rfl hp4610 fun cs4800 hs4801=>(⟨(Keep.refl _ _),⟨cs4800,rfl,hs4801⟩⟩)))
      ·intro F1 w1 k1 hf hd
       have k0:=(Keep.drew [] w4776).trans k1
       have bx4732:=bx4732.keep k0 (by simp)
       obtain ⟨F2,rfl⟩:=AL (F:=F1) [(0,vP (some ⟨b4727,0,none⟩))] ⟨hf 0 kR,trivial⟩
       exact AH rfl ((BI U106_ rfl (vP (some ⟨b4716,0,none⟩)) rfl bx4732 rfl (⟨(Keep.refl _ _),rfl⟩)))
      ·intro F1 w1 k1 hf hd
       have k0:=(Keep.drew [] w4776).trans k1
       have s1:=s4779.call k0
       have m1:Mv (b4738 :: (b4727 :: (b4716 :: (b4641 :: (b4633 :: (b4617 :: [])))))) w4776 (b4738 :: (b4727 :: (b4716 :: (b4641 :: (b4633 :: (b4617 :: [])))))) w1:=Mv.of_keep k0
       obtain ⟨cs4802,e4804,hs4803⟩:∃ cs:List Value,F1 8 = .agg cs.toArray∧Enc.circle.rd w1 ((b4738 :: (b4727 :: (b4716 :: (b4641 :: (b4633 :: (b4617 :: []))))))++O) cs (c):=hd 1 8 kR
       have bx4721:=bx4721.keep k0 (by simp)
       have hd4713:=hd4713.mv m1
       have hd4715:=hd4715.mv m1
       obtain ⟨F2,rfl⟩:=AL (F:=F1) [(8,vA cs4802.toArray),(9,vP (some ⟨b4716,0,none⟩))] ⟨e4804,hd 2 9 kR,trivial⟩
       refine AH rfl ((BB (vs:=[vA cs4802.toArray,vP (some ⟨b4716,0,none⟩)]) enter_85 (c_approved (O:=[]) cs4802 c ⟨b4716,0,none⟩ (c.recs[no.toNat]!) w1 (Enc.circle.sub hs4803 (fun _ h=>by cases h)) (PT.of_box bx4721 ⟨_,_,rfl,hd4713.rd0,hd4715.rd0⟩ (fun h=>by cases h)) RF) rfl s1 fun v4805 w4806 s4807 m4808 k4809 r4810=>(?_)))
       obtain rfl:=r4810
       exact ⟨k4809,rfl⟩
      intro F4812 w4813 k4811 hT4814 hF4815
      have s4816:=s4779.call k4811
      have m4817:Mv (b4738 :: (b4727 :: (b4716 :: (b4641 :: (b4633 :: (b4617 :: [])))))) w4776 (b4738 :: (b4727 :: (b4716 :: (b4641 :: (b4633 :: (b4617 :: [])))))) w4813:=Mv.of_keep k4811
      have hp4616:=hp4616.mv m4817
      have hp4610:=hp4610.mv m4817
      have hp4632:=hp4632.mv m4817
      have hd4713:=hd4713.mv m4817
      have hd4715:=hd4715.mv m4817
      have bx4622:=bx4622.keep k4811 (by simp)
      have bx4638:=bx4638.keep k4811 (by simp)
      have bx4646:=bx4646.keep k4811 (by simp)
      have bx4721:=bx4721.keep k4811 (by simp)
      have bx4732:=bx4732.keep k4811 (by simp)
      have bx4764:=bx4764.keep k4811 (by simp)
      obtain ⟨F2,rfl⟩:=AL (F:=F4812) [(0,vP (some ⟨b4727,0,none⟩)),(1,vP (some a4611)),(2,vP (some a4605)),(28,undef),(7,vP (some ⟨b4716,0,none⟩)),(10,vO (LD c (c.recs[no.toNat]!)))] ⟨hF4815 0 kR,hF4815 1 kR,hF4815 2 kR,hF4815 28 kR,hT4814 0 7 kR (by decide),hT4814 3 10 kR (by decide),trivial⟩
      clear hT4814 hF4815
      refine AA (GN [vP (some ⟨b4716,0,none⟩),vO (LD c (c.recs[no.toNat]!)),vI 450] JB rfl (CH 11 Try.func72 rfl rfl oT (fun F4820=>?_)))
      refine AG (?_)
      refine AB kR (AA (AE (vO (LD c (c.recs[no.toNat]!))) rfl (AA (HC (LD c (c.recs[no.toNat]!)) rfl (AF (AC (?_)))))))
      refine AO (!(LD c (c.recs[no.toNat]!))) rfl rfl (fun hc4821=>?_) (fun hc4821=>?_)
      ·have hp4822:(LD c (c.recs[no.toNat]!))=false:=by simpa using hc4821
       refine AB kR (AA (AE (vI 450) rfl (AA (EE (l:=[(0, .tmp 8)]) NK PV rfl [(0,vI 450,[vI 450])] [vI 450] rfl ⟨_,rfl,rfl,oT,rfl⟩ (AA (KW (vA #[vI 450]) U125_ rfl rfl (BY (LA rfl (FB rfl (EA (?_)))))))))))
       refine HI (FB rfl (EA (?_)))
       refine FB rfl (EA (?_))
       refine FB rfl (EA (?_))
       refine HI (LB (HV [vP (some ⟨b4633,0,none⟩),vP (some ⟨b4641,0,none⟩)] (.panicking [{ v:=Value.iface 125 (vA #[vI 450]),recovered:=false }]) rfl (fun h=>by cases h) rfl FK (NN (450:Int) b4633 b4641 s4816 bx4638 bx4646 (by repeat (constructor)) (by repeat (constructor)) ne4649) (fun e_ w4823 hR_=>?_)))
       obtain ⟨v_,rfl,s4824,m4825,k4826,bx4827,bx4828⟩:=hR_
       have bx4622:=bx4622.keep k4826 (nin2 ne4640 ne4648)
       refine Exists.intro _ (And.intro (EH rfl (DY (vs:=[vI 0,vI 0,vI 0,nS,nS]) rfl U28_ rfl BL rfl bx4827 rfl) (MV rfl U29_ rfl rfl bx4828 rfl)) (DP (?_)))
       refine AA (AN (vA #[vI 0,vI 0,vI 0,nS,nS]) rfl rfl (AA (AN (vI 450) rfl rfl (BY (BC (vs:=[vI 0,vI 0,vI 0,nS,nS]) (.agg #[vI 0,vI 0,vI 0,nS,nS]) rfl rfl rfl BL (fun u hu=>by simp only [List.mem_cons,List.not_mem_nil,or_false] at hu;rcases hu with rfl|rfl|rfl|rfl|rfl <;> rfl) (by repeat (constructor)) bx4622 oT s4824 fun w4829 s4830 m4831 k4832 bx4833=>(?_))))))
       refine AA (AD (vI 450) rfl (AF (AC (?_))))
       refine AP (AZ rfl (EH rfl (DY (vs:=[vI 0,vI 0,vI 0,nS,nS]) rfl U28_ rfl BL rfl bx4833 rfl) (DN rfl rfl)) (?_))
       have e4834:((BO c no (AY c day)).1)=(⟨(0:Int),(0:Int),(0:Int),[],[]⟩:Circle):=by exact congrArg (fun p=>p.1) (show BO c no (AY c day)=_ from fin_few hok oM oM aS aS aS)
       have e4835:((BO c no (AY c day)).2)=(450:Int):=by exact congrArg (fun p=>p.2) (show BO c no (AY c day)=_ from fin_few hok oM oM aS aS aS)
       exact ⟨_,rfl,s4830.keep,by rw [e4834,e4835];exact ⟨[vI 0,vI 0,vI 0,nS,nS],rfl,Enc.out (B:=(b4738 :: (b4727 :: (b4716 :: (b4641 :: (b4633 :: (b4617 :: []))))))) ⟨.slice none 0 0, .slice none 0 0,rfl,(BG.nil _ _ _),(BG.nil _ _ _)⟩⟩⟩
      ·have hp4836:(LD c (c.recs[no.toNat]!))=true:=by simpa using hc4821
       refine AU (FP rfl (IH rfl) (DP (?_)))
       refine AF (AC (?_))
       refine AG (?_)
       refine cw_draw' 11 _ _ [DF (vP (some ⟨b4716,0,none⟩)),DF (vI day),DF (vP (some ⟨b4716,0,none⟩)),DF (vP (some ⟨b4716,0,none⟩)),DF (vP (some ⟨b4716,0,none⟩)),DF (vP (some ⟨b4716,1,none⟩)),DF (vI ((c.recs[no.toNat]!).asked)),fun (vT:Value) (wT:World)=>∃ aT,vT = .pointer (some aT)∧PT Enc.int wT ((b4738 :: (b4727 :: (b4716 :: (b4641 :: (b4633 :: (b4617 :: []))))))++O) (.pointer (some aT)) (c.wait),DF (vI c.wait),DF (vI ((c.recs[no.toNat]!).asked+c.wait)),DF (vO (decide ((c.recs[no.toNat]!).asked+c.wait≤day)))] kR kR kR kR rfl rfl ⟨kI,kI,kI,kI,kI,kI,kI,fun _ _ _ ⟨a,e,h⟩ k=>⟨a,e,h.mv (Mv.of_keep k)⟩,kI,kI,kI,trivial⟩ ⟨?_,?_,?_,?_,?_,?_,?_,?_,?_,?_,?_,trivial⟩ ?_
       ·intro F1 w1 k1 hf hd
        have k0:=(Keep.drew [] w4813).trans k1
        have bx4732:=bx4732.keep k0 (by simp)
        obtain ⟨F2,rfl⟩:=AL (F:=F1) [(0,vP (some ⟨b4727,0,none⟩))] ⟨hf 0 kR,trivial⟩
        exact AH rfl ((BI U106_ rfl (vP (some ⟨b4716,0,none⟩)) rfl bx4732 rfl (⟨(Keep.refl _ _),rfl⟩)))
       ·intro F1 w1 k1 hf hd
        have k0:=(Keep.drew [] w4813).trans k1
        have m1:Mv (b4738 :: (b4727 :: (b4716 :: (b4641 :: (b4633 :: (b4617 :: [])))))) w4813 (b4738 :: (b4727 :: (b4716 :: (b4641 :: (b4633 :: (b4617 :: [])))))) w1:=Mv.of_keep k0
        have hp4616:=hp4616.mv m1
        obtain ⟨F2,rfl⟩:=AL (F:=F1) [(1,vP (some a4611))] ⟨hf 1 kR,trivial⟩
        exact AH rfl ((CE U3_ rfl rfl hp4616 (⟨(Keep.refl _ _),rfl⟩)))
       ·intro F1 w1 k1 hf hd
        have k0:=(Keep.drew [] w4813).trans k1
        have bx4732:=bx4732.keep k0 (by simp)
        obtain ⟨F2,rfl⟩:=AL (F:=F1) [(0,vP (some ⟨b4727,0,none⟩))] ⟨hf 0 kR,trivial⟩
        exact AH rfl ((BI U106_ rfl (vP (some ⟨b4716,0,none⟩)) rfl bx4732 rfl (⟨(Keep.refl _ _),rfl⟩)))
       ·intro F1 w1 k1 hf hd
        obtain ⟨F2,rfl⟩:=AL (F:=F1) [(14,vP (some ⟨b4716,0,none⟩))] ⟨hd 2 14 kR,trivial⟩
        exact AH rfl ((EO ⟨b4716,0,none⟩ rfl (⟨(Keep.refl _ _),rfl⟩)))
       ·intro F1 w1 k1 hf hd
        obtain ⟨F2,rfl⟩:=AL (F:=F1) [(15,vP (some ⟨b4716,0,none⟩))] ⟨hd 3 15 kR,trivial⟩
        exact AH rfl ((BD 0 GX rfl (⟨(Keep.refl _ _),rfl⟩)))
       ·intro F1 w1 k1 hf hd
        obtain ⟨F2,rfl⟩:=AL (F:=F1) [(16,vP (some ⟨b4716,0,none⟩))] ⟨hd 4 16 kR,trivial⟩
        exact AH rfl ((BD 1 NC rfl (⟨(Keep.refl _ _),rfl⟩)))
       ·intro F1 w1 k1 hf hd
        have k0:=(Keep.drew [] w4813).trans k1
        have bx4721:=bx4721.keep k0 (by simp)
        obtain ⟨F2,rfl⟩:=AL (F:=F1) [(17,vP (some ⟨b4716,1,none⟩))] ⟨hd 5 17 kR,trivial⟩
        exact AH rfl ((BI U3_ rfl (vI ((c.recs[no.toNat]!).asked)) rfl bx4721 rfl (⟨(Keep.refl _ _),rfl⟩)))
       ·intro F1 w1 k1 hf hd
        have k0:=(Keep.drew [] w4813).trans k1
        have m1:Mv (b4738 :: (b4727 :: (b4716 :: (b4641 :: (b4633 :: (b4617 :: [])))))) w4813 (b4738 :: (b4727 :: (b4716 :: (b4641 :: (b4633 :: (b4617 :: [])))))) w1:=Mv.of_keep k0
        have hp4610:=hp4610.mv m1
        obtain ⟨F2,rfl⟩:=AL (F:=F1) [(2,vP (some a4605))] ⟨hf 2 kR,trivial⟩
        exact AH rfl ((BM 2 f_28_2 (c.wait) rfl hp4610 (fun _ _ _ h=>IW h) fun a4837 hp4838=>(⟨(Keep.refl _ _),⟨a4837,rfl,hp4838⟩⟩)))
       ·intro F1 w1 k1 hf hd
        obtain ⟨a4839,e4841,hp4840⟩:∃ aX_,F1 19 = .pointer (some aX_)∧PT Enc.int w1 ((b4738 :: (b4727 :: (b4716 :: (b4641 :: (b4633 :: (b4617 :: []))))))++O) (.pointer (some aX_)) (c.wait):=hd 7 19 kR
        obtain ⟨F2,rfl⟩:=AL (F:=F1) [(19,vP (some a4839))] ⟨e4841,trivial⟩
        exact AH rfl ((CE U3_ rfl rfl hp4840 (⟨(Keep.refl _ _),rfl⟩)))
       ·intro F1 w1 k1 hf hd
        obtain ⟨F2,rfl⟩:=AL (F:=F1) [(18,vI ((c.recs[no.toNat]!).asked)),(20,vI c.wait)] ⟨hd 6 18 kR,hd 8 20 kR,trivial⟩
        exact AH rfl ((DC .i64 ((c.recs[no.toNat]!).asked) c.wait ((c.recs[no.toNat]!).asked+c.wait) rfl rfl (FO (by have:=TN hok (no:=no) oM oM;omega) rfl) (⟨(Keep.refl _ _),rfl⟩)))
       ·intro F1 w1 k1 hf hd
        obtain ⟨F2,rfl⟩:=AL (F:=F1) [(13,vI day),(21,vI ((c.recs[no.toNat]!).asked+c.wait))] ⟨hd 1 13 kR,hd 9 21 kR,trivial⟩
        exact AH rfl ((KI .i64 day ((c.recs[no.toNat]!).asked+c.wait) rfl rfl (⟨(Keep.refl _ _),rfl⟩)))
       intro F4843 w4844 k4842 hT4845 hF4846
       have s4847:=s4816.call k4842
       have m4848:Mv (b4738 :: (b4727 :: (b4716 :: (b4641 :: (b4633 :: (b4617 :: [])))))) w4813 (b4738 :: (b4727 :: (b4716 :: (b4641 :: (b4633 :: (b4617 :: [])))))) w4844:=Mv.of_keep k4842
       have hp4632:=hp4632.mv m4848
       have hd4713:=hd4713.mv m4848
       have hd4715:=hd4715.mv m4848
       have bx4622:=bx4622.keep k4842 (by simp)
       have bx4638:=bx4638.keep k4842 (by simp)
       have bx4646:=bx4646.keep k4842 (by simp)
       have bx4721:=bx4721.keep k4842 (by simp)
       have bx4732:=bx4732.keep k4842 (by simp)
       have bx4764:=bx4764.keep k4842 (by simp)
       obtain ⟨F2,rfl⟩:=AL (F:=F4843) [(0,vP (some ⟨b4727,0,none⟩)),(28,undef),(12,vP (some ⟨b4716,0,none⟩)),(22,vO (decide ((c.recs[no.toNat]!).asked+c.wait≤day)))] ⟨hF4846 0 kR,hF4846 28 kR,hT4845 0 12 kR (by decide),hT4845 10 22 kR (by decide),trivial⟩
       clear hT4845 hF4846
       refine AA (GN [vP (some ⟨b4716,0,none⟩),vO (decide ((c.recs[no.toNat]!).asked+c.wait≤day)),vI 451] JB rfl (CH 11 Try.func72 rfl rfl oT (fun F4851=>?_)))
       refine AG (?_)
       refine AB kR (AA (AE (vO (decide ((c.recs[no.toNat]!).asked+c.wait≤day))) rfl (AA (HC (decide ((c.recs[no.toNat]!).asked+c.wait≤day)) rfl (AF (AC (?_)))))))
       refine AO (!(decide ((c.recs[no.toNat]!).asked+c.wait≤day))) rfl rfl (fun hc4852=>?_) (fun hc4852=>?_)
       ·have hp4853:day<(c.recs[no.toNat]!).asked+c.wait:=by simpa using hc4852
        refine AB kR (AA (AE (vI 451) rfl (AA (EE (l:=[(0, .tmp 8)]) NK PV rfl [(0,vI 451,[vI 451])] [vI 451] rfl ⟨_,rfl,rfl,oT,rfl⟩ (AA (KW (vA #[vI 451]) U125_ rfl rfl (BY (LA rfl (FB rfl (EA (?_)))))))))))
        refine HI (FB rfl (EA (?_)))
        refine FB rfl (EA (?_))
        refine FB rfl (EA (?_))
        refine HI (LB (HV [vP (some ⟨b4633,0,none⟩),vP (some ⟨b4641,0,none⟩)] (.panicking [{ v:=Value.iface 125 (vA #[vI 451]),recovered:=false }]) rfl (fun h=>by cases h) rfl FK (NN (451:Int) b4633 b4641 s4847 bx4638 bx4646 (by repeat (constructor)) (by repeat (constructor)) ne4649) (fun e_ w4854 hR_=>?_)))
        obtain ⟨v_,rfl,s4855,m4856,k4857,bx4858,bx4859⟩:=hR_
        have bx4622:=bx4622.keep k4857 (nin2 ne4640 ne4648)
        refine Exists.intro _ (And.intro (EH rfl (DY (vs:=[vI 0,vI 0,vI 0,nS,nS]) rfl U28_ rfl BL rfl bx4858 rfl) (MV rfl U29_ rfl rfl bx4859 rfl)) (DP (?_)))
        refine AA (AN (vA #[vI 0,vI 0,vI 0,nS,nS]) rfl rfl (AA (AN (vI 451) rfl rfl (BY (BC (vs:=[vI 0,vI 0,vI 0,nS,nS]) (.agg #[vI 0,vI 0,vI 0,nS,nS]) rfl rfl rfl BL (fun u hu=>by simp only [List.mem_cons,List.not_mem_nil,or_false] at hu;rcases hu with rfl|rfl|rfl|rfl|rfl <;> rfl) (by repeat (constructor)) bx4622 oT s4855 fun w4860 s4861 m4862 k4863 bx4864=>(?_))))))
        refine AA (AD (vI 451) rfl (AF (AC (?_))))
        refine AP (AZ rfl (EH rfl (DY (vs:=[vI 0,vI 0,vI 0,nS,nS]) rfl U28_ rfl BL rfl bx4864 rfl) (DN rfl rfl)) (?_))
        have e4865:((BO c no (AY c day)).1)=(⟨(0:Int),(0:Int),(0:Int),[],[]⟩:Circle):=by exact congrArg (fun p=>p.1) (show BO c no (AY c day)=_ from fin_wait hok oM oM aS aS aS oM)
        have e4866:((BO c no (AY c day)).2)=(451:Int):=by exact congrArg (fun p=>p.2) (show BO c no (AY c day)=_ from fin_wait hok oM oM aS aS aS oM)
        exact ⟨_,rfl,s4861.keep,by rw [e4865,e4866];exact ⟨[vI 0,vI 0,vI 0,nS,nS],rfl,Enc.out (B:=(b4738 :: (b4727 :: (b4716 :: (b4641 :: (b4633 :: (b4617 :: []))))))) ⟨.slice none 0 0, .slice none 0 0,rfl,(BG.nil _ _ _),(BG.nil _ _ _)⟩⟩⟩
       ·have hp4867:(c.recs[no.toNat]!).asked+c.wait≤day:=by simpa using hc4852
        refine AU (FP rfl (IH rfl) (DP (?_)))
        refine AF (AC (?_))
        refine AB kR (AA (BI U106_ rfl (vP (some ⟨b4716,0,none⟩)) rfl bx4732 rfl (AA (EO ⟨b4716,0,none⟩ rfl (AA (BD 0 GX rfl (AA (BD 2 KD rfl (BY (CK (vI 1) rfl rfl rfl MW (by repeat (constructor)) bx4721 oT s4847 fun w4868 s4869 m4870 k4871 bx4872=>(?_)))))))))))
        have hp4632:=hp4632.mv m4870
        have hd4713:=hd4713.mv m4870
        have hd4715:=hd4715.mv m4870
        have bx4622:=bx4622.keep k4871 (BH ne4723)
        have bx4638:=bx4638.keep k4871 (BH ne4724)
        have bx4646:=bx4646.keep k4871 (BH ne4725)
        have bx4732:=bx4732.keep k4871 (BH (Ne.symm ne4737))
        have bx4764:=bx4764.keep k4871 (BH (Ne.symm ne4748))
        refine AF (FP rfl (IH rfl) (DP (?_)))
        refine AF (FP rfl (IH rfl) (DP (?_)))
        refine AF (FP rfl (IH rfl) (DP (?_)))
        refine AF (AC (?_))
        refine AG (?_)
        refine AB kR (AA (CR U28_ rfl BL rfl hp4632 fun cs4873 hs4874=>(?_)))
        obtain ⟨d4880,d4882,rfl,hd4881,hd4883⟩:=hs4874
        have:=hd4881.len_le
        have:=hd4883.len_le
        refine BY (BC (vs:=[vI c.epoch,vI c.threshold,vI c.wait,d4880,d4882]) (.agg #[vI c.epoch,vI c.threshold,vI c.wait,d4880,d4882]) rfl rfl rfl BL (fun u hu=>by simp only [List.mem_cons,List.not_mem_nil,or_false] at hu;rcases hu with rfl|rfl|rfl|rfl|rfl <;> first|rfl|exact hd4881.oneCell|exact hd4883.oneCell) (by repeat (constructor)) bx4638 oT s4869 fun w4875 s4876 m4877 k4878 bx4879=>(?_))
        have hp4632:=hp4632.mv m4877
        have hd4713:=hd4713.mv m4877
        have hd4715:=hd4715.mv m4877
        have hd4881:=hd4881.mv m4877
        have bx4622:=bx4622.keep k4878 (BH ne4640)
        have bx4646:=bx4646.keep k4878 (BH (Ne.symm ne4649))
        have bx4872:=bx4872.keep k4878 (BH (Ne.symm ne4724))
        have bx4732:=bx4732.keep k4878 (BH (Ne.symm ne4735))
        have bx4764:=bx4764.keep k4878 (BH (Ne.symm ne4746))
        refine AF (AC (?_))
        refine AG (?_)
        refine AB kR (AA (BM 4 DK (c.recs) rfl hp4632 (fun _ _ _ h=>CJ h) fun a4884 hp4885=>(AA (BW U26_ rfl rfl hp4885 fun v4886 hl4887=>(?_)))))
        have:=hl4887.len_le
        refine AA (KB [v4886] _ LX rfl (CH 8 Try.func67 rfl rfl oT (fun F4888=>?_)) (fun _ _ h=>h))
        refine AG (?_)
        refine AB kR (AA (AD (nS) rfl (AF (AC (?_)))))
        refine AG (?_)
        refine AG (?_)
        refine AB kR (AA (AE (v4886) rfl (AA (NY U26_ rfl rfl hl4887 oM (AF (AC (?_)))))))
        refine AO false rfl rfl (fun h=>by cases h) (fun _=>?_)
        refine AU (AC (?_))
        refine AG (?_)
        refine AB kR (AA (HP (E:=Enc.recovery) (xs:=[]) U26_ GA NS (by decide) [] [] [] rfl rfl rfl (Parts.nil _ _ _) oT s4876 fun v4893 b4895 w4889 e4896 hb4897 s4890 m4891 k4892 hl4894=>(?_)))
        have ne4898:∀ b,v4893.ownBlock=some b→b≠b4617:=fun b hb=>by have:=bx4622.lt;rw [hb4897] at hb;cases hb;omega
        have ne4899:∀ b,v4893.ownBlock=some b→b≠b4633:=fun b hb=>by have:=bx4879.lt;rw [hb4897] at hb;cases hb;omega
        have ne4900:∀ b,v4893.ownBlock=some b→b≠b4641:=fun b hb=>by have:=bx4646.lt;rw [hb4897] at hb;cases hb;omega
        have ne4901:∀ b,v4893.ownBlock=some b→b≠b4716:=fun b hb=>by have:=bx4872.lt;rw [hb4897] at hb;cases hb;omega
        have ne4902:∀ b,v4893.ownBlock=some b→b≠b4727:=fun b hb=>by have:=bx4732.lt;rw [hb4897] at hb;cases hb;omega
        have ne4903:∀ b,v4893.ownBlock=some b→b≠b4738:=fun b hb=>by have:=bx4764.lt;rw [hb4897] at hb;cases hb;omega
        have hB4904:∀ b,v4893.ownBlock=some b→b∈(b4895 :: (b4738 :: (b4727 :: (b4716 :: (b4641 :: (b4633 :: (b4617 :: []))))))):=fun b hb=>by rw [hb4897] at hb;cases hb;simp
        clear e4896 hb4897
        have hl4887:=hl4887.mv m4891
        have hd4713:=hd4713.mv m4891
        have hd4715:=hd4715.mv m4891
        have hd4881:=hd4881.mv m4891
        have bx4622:=bx4622.keep k4892 (by simp)
        have bx4879:=bx4879.keep k4892 (by simp)
        have bx4646:=bx4646.keep k4892 (by simp)
        have bx4872:=bx4872.keep k4892 (by simp)
        have bx4732:=bx4732.keep k4892 (by simp)
        have bx4764:=bx4764.keep k4892 (by simp)
        refine AA (AE (v4886) rfl (AA (DG (E:=Enc.recovery) (l:=[]) (m:=c.recs) U26_ UX rfl (by decide) rfl rfl hl4894 hl4887 (fun _ hb=>.inl hb) hB4904 (by simp;omega) (by simp [maxLen];omega) s4890 fun v4909 w4905 B4911 hB4912 at4913 sub4914 s4906 m4907 k4908 ho4910=>(?_))))
        rw [List.nil_append] at ho4910
        have ne4915:∀ b,v4909.ownBlock=some b→b≠b4617:=fun b hb=>by rcases at4913 with e1|e1 <;> rw [e1] at hb <;> first|(cases hb;have:=bx4622.lt;omega)|(exact ne4898 b hb)
        have ne4916:∀ b,v4909.ownBlock=some b→b≠b4633:=fun b hb=>by rcases at4913 with e1|e1 <;> rw [e1] at hb <;> first|(cases hb;have:=bx4879.lt;omega)|(exact ne4899 b hb)
        have ne4917:∀ b,v4909.ownBlock=some b→b≠b4641:=fun b hb=>by rcases at4913 with e1|e1 <;> rw [e1] at hb <;> first|(cases hb;have:=bx4646.lt;omega)|(exact ne4900 b hb)
        have ne4918:∀ b,v4909.ownBlock=some b→b≠b4716:=fun b hb=>by rcases at4913 with e1|e1 <;> rw [e1] at hb <;> first|(cases hb;have:=bx4872.lt;omega)|(exact ne4901 b hb)
        have ne4919:∀ b,v4909.ownBlock=some b→b≠b4727:=fun b hb=>by rcases at4913 with e1|e1 <;> rw [e1] at hb <;> first|(cases hb;have:=bx4732.lt;omega)|(exact ne4902 b hb)
        have ne4920:∀ b,v4909.ownBlock=some b→b≠b4738:=fun b hb=>by rcases at4913 with e1|e1 <;> rw [e1] at hb <;> first|(cases hb;have:=bx4764.lt;omega)|(exact ne4903 b hb)
        have hin_b4617:b4617∈B4911:=sub4914 b4617 (by repeat (constructor))
        have hin_b4633:b4633∈B4911:=sub4914 b4633 (by repeat (constructor))
        have hin_b4641:b4641∈B4911:=sub4914 b4641 (by repeat (constructor))
        have hin_b4716:b4716∈B4911:=sub4914 b4716 (by repeat (constructor))
        have hin_b4727:b4727∈B4911:=sub4914 b4727 (by repeat (constructor))
        have hin_b4738:b4738∈B4911:=sub4914 b4738 (by repeat (constructor))
        have hd4713:=hd4713.mv m4907
        have hd4715:=hd4715.mv m4907
        have hd4881:=hd4881.mv m4907
        have bx4622:=bx4622.keep k4908 (by simp only [Option.mem_toList];exact fun e=>absurd rfl (ne4898 _ e))
        have bx4879:=bx4879.keep k4908 (by simp only [Option.mem_toList];exact fun e=>absurd rfl (ne4899 _ e))
        have bx4646:=bx4646.keep k4908 (by simp only [Option.mem_toList];exact fun e=>absurd rfl (ne4900 _ e))
        have bx4872:=bx4872.keep k4908 (by simp only [Option.mem_toList];exact fun e=>absurd rfl (ne4901 _ e))
        refine AA (AD (v4909) rfl (AF (AC (?_))))
        refine AP (AZ rfl (CS rfl rfl rfl) (Exists.intro _ (And.intro rfl (?_))))
        refine AA (BD 4 DK rfl (BY (CK (v4909) rfl rfl ho4910.oneCell s_26 (by repeat (assumption)) bx4879 oT s4906 fun w4921 s4922 m4923 k4924 bx4925=>(?_))))
        have hd4713:=hd4713.mv m4923
        have hd4715:=hd4715.mv m4923
        have hd4881:=hd4881.mv m4923
        have ho4910:=ho4910.mv m4923 k4924 (fun b hb=>BH (ne4916 b hb))
        have bx4622:=bx4622.keep k4924 (BH ne4640)
        have bx4646:=bx4646.keep k4924 (BH (Ne.symm ne4649))
        have bx4872:=bx4872.keep k4924 (BH (Ne.symm ne4724))
        refine AF (AC (?_))
        refine AG (?_)
        refine cw_draw' 7 _ _ [DF (vP (some ⟨b4633,4,none⟩)),DF v4909,DF (vI no),DF (vP (some ⟨b4716,0,none⟩)),DF (vP (some ⟨b4716,0,none⟩)),DF (vP (some ⟨b4716,0,none⟩)),DF (vA #[vI ((c.recs[no.toNat]!).no),vI ((c.recs[no.toNat]!).asked),vI 1,d4712,d4714])] kR kR kR kR rfl rfl ⟨kI,kI,kI,kI,kI,kI,kI,trivial⟩ ⟨?_,?_,?_,?_,?_,?_,?_,trivial⟩ ?_
        ·intro F1 w1 k1 hf hd
         obtain ⟨F2,rfl⟩:=AL (F:=F1) [(6,vP (some ⟨b4633,0,none⟩))] ⟨hf 6 kR,trivial⟩
         exact AH rfl ((BD 4 DK rfl (⟨(Keep.refl _ _),rfl⟩)))
        ·intro F1 w1 k1 hf hd
         have k0:=(Keep.drew [] w4921).trans k1
         have bx4925:=bx4925.keep k0 (by simp)
         obtain ⟨F2,rfl⟩:=AL (F:=F1) [(42,vP (some ⟨b4633,4,none⟩))] ⟨hd 0 42 kR,trivial⟩
         exact AH rfl ((BI U26_ rfl (v4909) rfl bx4925 rfl (⟨(Keep.refl _ _),rfl⟩)))
        ·intro F1 w1 k1 hf hd
         obtain ⟨F2,rfl⟩:=AL (F:=F1) [(1,vI no)] ⟨hf 1 kR,trivial⟩
         exact AH rfl ((AE (vI no) rfl (⟨(Keep.refl _ _),rfl⟩)))
        ·intro F1 w1 k1 hf hd
         obtain ⟨F2,rfl⟩:=AL (F:=F1) [(9,vP (some ⟨b4716,0,none⟩))] ⟨hf 9 kR,trivial⟩
         exact AH rfl ((AE (vP (some ⟨b4716,0,none⟩)) rfl (⟨(Keep.refl _ _),rfl⟩)))
        ·intro F1 w1 k1 hf hd
         obtain ⟨F2,rfl⟩:=AL (F:=F1) [(45,vP (some ⟨b4716,0,none⟩))] ⟨hd 3 45 kR,trivial⟩
         exact AH rfl ((EO ⟨b4716,0,none⟩ rfl (⟨(Keep.refl _ _),rfl⟩)))
        ·intro F1 w1 k1 hf hd
         obtain ⟨F2,rfl⟩:=AL (F:=F1) [(46,vP (some ⟨b4716,0,none⟩))] ⟨hd 4 46 kR,trivial⟩
         exact AH rfl ((BD 0 GX rfl (⟨(Keep.refl _ _),rfl⟩)))
        ·intro F1 w1 k1 hf hd
         have k0:=(Keep.drew [] w4921).trans k1
         have bx4872:=bx4872.keep k0 (by simp)
         obtain ⟨F2,rfl⟩:=AL (F:=F1) [(47,vP (some ⟨b4716,0,none⟩))] ⟨hd 5 47 kR,trivial⟩
         exact AH rfl ((BN (vs:=[vI ((c.recs[no.toNat]!).no),vI ((c.recs[no.toNat]!).asked),vI 1,d4712,d4714]) U68_ rfl GA rfl bx4872 rfl (⟨(Keep.refl _ _),rfl⟩)))
        intro F4927 w4928 k4926 hT4929 hF4930
        have s4931:=s4922.call k4926
        have m4932:Mv B4911 w4921 B4911 w4928:=Mv.of_keep k4926
        have hd4713:=hd4713.mv m4932
        have hd4715:=hd4715.mv m4932
        have hd4881:=hd4881.mv m4932
        have ho4910:=ho4910.mv m4932 k4926 (by simp)
        have bx4622:=bx4622.keep k4926 (by simp)
        have bx4925:=bx4925.keep k4926 (by simp)
        have bx4646:=bx4646.keep k4926 (by simp)
        obtain ⟨F2,rfl⟩:=AL (F:=F4927) [(6,vP (some ⟨b4633,0,none⟩)),(7,vP (some ⟨b4641,0,none⟩)),(51, .tuple #[vN (.func 103) #[] #[vP (some ⟨b4633,0,none⟩),vP (some ⟨b4641,0,none⟩)]]),(43,v4909),(44,vI no),(48,vA #[vI ((c.recs[no.toNat]!).no),vI ((c.recs[no.toNat]!).asked),vI 1,d4712,d4714])] ⟨hF4930 6 kR,hF4930 7 kR,hF4930 51 kR,hT4929 1 43 kR (by decide),hT4929 2 44 kR (by decide),hT4929 6 48 kR (by decide),trivial⟩
        clear hT4929 hF4930
        refine AA (ER U26_ GA .i64 no no.toNat rfl rfl oM ho4910 oM fun b4935 hb4936=>(BY (NX (⟨(c.recs[no.toNat]!).no,(c.recs[no.toNat]!).asked,(1:Int),(c.recs[no.toNat]!).approved,(c.recs[no.toNat]!).vetoed⟩:Recovery) (by decide) GA rfl rfl ho4910 hb4936 (hB4912 _ hb4936) oM ⟨_,_,rfl,hd4713,hd4715⟩ s4931 fun w4937 s4938 m4939 k4940 bx4941=>(?_))))
        have bx4622:=bx4622.keep k4940 (by simp only [List.mem_singleton];exact fun e=>absurd e.symm (ne4915 _ hb4936))
        have hd4881:=hd4881.mv m4939
        have bx4925:=bx4925.keep k4940 (by simp only [List.mem_singleton];exact fun e=>absurd e.symm (ne4916 _ hb4936))
        have bx4646:=bx4646.keep k4940 (by simp only [List.mem_singleton];exact fun e=>absurd e.symm (ne4917 _ hb4936))
        refine AF (AC (?_))
        refine AG (?_)
        refine AB kR (AA (BN (vs:=[vI c.epoch,vI c.threshold,vI c.wait,d4880,v4909]) U28_ rfl BL rfl bx4925 rfl (BY (BC (vs:=[vI c.epoch,vI c.threshold,vI c.wait,d4880,v4909]) (.agg #[vI c.epoch,vI c.threshold,vI c.wait,d4880,v4909]) rfl rfl rfl BL (fun u hu=>by simp only [List.mem_cons,List.not_mem_nil,or_false] at hu;rcases hu with rfl|rfl|rfl|rfl|rfl <;> first|rfl|exact hd4881.oneCell|exact bx4941.oneCell) (by repeat (assumption)) bx4925 oT s4938 fun w4942 s4943 m4944 k4945 bx4946=>(?_)))))
        have bx4941:=bx4941.mv m4944 k4945 (fun b hb=>BH (ne4916 b hb))
        have hd4881:=hd4881.mv m4944
        have bx4622:=bx4622.keep k4945 (BH ne4640)
        have bx4646:=bx4646.keep k4945 (BH (Ne.symm ne4649))
        refine BY (CK (vI 0) rfl rfl rfl QX (by repeat (assumption)) bx4646 oT s4943 fun w4947 s4948 m4949 k4950 bx4951=>(?_))
        have bx4941:=bx4941.mv m4949 k4950 (fun b hb=>BH (ne4917 b hb))
        have hd4881:=hd4881.mv m4949
        have bx4622:=bx4622.keep k4950 (BH ne4648)
        have bx4946:=bx4946.keep k4950 (BH ne4649)
        refine AF (AC (?_))
        refine AP (SM (OD [vP (some ⟨b4633,0,none⟩),vP (some ⟨b4641,0,none⟩)] 19 .returning rfl (fun h=>by cases h) rfl FK Try.func103 rfl rfl oT rfl rfl (fun F4952=>?_)))
        refine AG (?_)
        refine AB kR (AA (AE (Value.nilIface) rfl (AA (o_neqNil' U20_ rfl (AF (AC (?_)))))))
        refine AO false rfl rfl (fun h=>by cases h) (fun _=>?_)
        refine AU (FP rfl (IH rfl) (Exists.intro _ (And.intro (EH rfl (DY (vs:=[vI c.epoch,vI c.threshold,vI c.wait,d4880,v4909]) rfl U28_ rfl BL rfl bx4946 rfl) (MV rfl U29_ rfl rfl bx4951 rfl)) (DP (?_)))))
        refine AA (AN (vA #[vI c.epoch,vI c.threshold,vI c.wait,d4880,v4909]) rfl rfl (AA (AN (vI 0) rfl rfl (BY (BC (vs:=[vI c.epoch,vI c.threshold,vI c.wait,d4880,v4909]) (.agg #[vI c.epoch,vI c.threshold,vI c.wait,d4880,v4909]) rfl rfl rfl BL (fun u hu=>by simp only [List.mem_cons,List.not_mem_nil,or_false] at hu;rcases hu with rfl|rfl|rfl|rfl|rfl <;> first|rfl|exact hd4881.oneCell|exact bx4941.oneCell) (by repeat (assumption)) bx4622 oT s4948 fun w4953 s4954 m4955 k4956 bx4957=>(?_))))))
        have hd4881:=hd4881.mv m4955
        have bx4941:=bx4941.mv m4955 k4956 (fun b hb=>BH (ne4915 b hb))
        refine AA (AD (vI 0) rfl (AF (AC (?_))))
        refine AP (AZ rfl (EH rfl (DY (vs:=[vI c.epoch,vI c.threshold,vI c.wait,d4880,v4909]) rfl U28_ rfl BL rfl bx4957 rfl) (DN rfl rfl)) (?_))
        have e4958:((BO c no (AY c day)).1)=(⟨c.epoch,c.threshold,c.wait,c.guardians,c.recs.set no.toNat (⟨(c.recs[no.toNat]!).no,(c.recs[no.toNat]!).asked,(1:Int),(c.recs[no.toNat]!).approved,(c.recs[no.toNat]!).vetoed⟩:Recovery)⟩:Circle):=by exact congrArg (fun p=>p.1) (show BO c no (AY c day)=_ from fin_open hok oM oM aS aS aS oM)
        have e4959:((BO c no (AY c day)).2)=(0:Int):=by exact congrArg (fun p=>p.2) (show BO c no (AY c day)=_ from fin_open hok oM oM aS aS aS oM)
        exact ⟨_,rfl,s4954.keep,by rw [e4958,e4959];exact ⟨[vI c.epoch,vI c.threshold,vI c.wait,d4880,v4909],rfl,⟨_,_,rfl,hd4881.out,(bx4941.pub s4954)⟩⟩⟩
    ·refine AA (JS (k:=1) (vN (.func 83) #[] #[vP (some ⟨b4727,0,none⟩)]) U110_ U3_ rfl (congrArg vI hs4766) bx4764 rfl (AA (AE (vT #[vN (.func 83) #[] #[vP (some ⟨b4727,0,none⟩)],vO true]) rfl (AA (AN (vN (.func 83) #[] #[vP (some ⟨b4727,0,none⟩)]) rfl rfl (AA (AN (vO true) rfl rfl (AA (AD (vN (.func 83) #[] #[vP (some ⟨b4727,0,none⟩)]) rfl (AA (AD (vO true) rfl (AF (AC (?_))))))))))))))
     refine AG (?_)
     refine AB kR (AA (AE (vO true) rfl (AF (AC (?_)))))
     refine AO true rfl rfl (fun _=>?_) (fun h=>by cases h)
     refine AB kR (AA (AE (vN (.func 83) #[] #[vP (some ⟨b4727,0,none⟩)]) rfl (AA (JC [] [vP (some ⟨b4727,0,none⟩)] [] enter_83 rfl rfl (CH 3 Try.func83 rfl rfl oT (fun F4960=>?_))))))
     refine AB kR (AA (BI U106_ rfl (vP (some ⟨b4716,0,none⟩)) rfl bx4732 rfl (AA (GN [vP (some ⟨b4716,0,none⟩),vO false,vI 1] JB rfl (CH 11 Try.func72 rfl rfl oT (fun F4961=>?_))))))
     refine AG (?_)
     refine AB kR (AA (AE (vO false) rfl (AA (HC false rfl (AF (AC (?_)))))))
     refine AO true rfl rfl (fun _=>?_) (fun h=>by cases h)
     refine AB kR (AA (AE (vI 1) rfl (AA (EE (l:=[(0, .tmp 8)]) NK PV rfl [(0,vI 1,[vI 1])] [vI 1] rfl ⟨_,rfl,rfl,oT,rfl⟩ (AA (KW (vA #[vI 1]) U125_ rfl rfl (BY (LA rfl (FB rfl (EA (?_)))))))))))
     refine FB rfl (EA (?_))
     refine FB rfl (EA (?_))
     refine FB rfl (EA (?_))
     refine HI (LB (HV [vP (some ⟨b4633,0,none⟩),vP (some ⟨b4641,0,none⟩)] (.panicking [{ v:=Value.iface 125 (vA #[vI 1]),recovered:=false }]) rfl (fun h=>by cases h) rfl FK (NN (1:Int) b4633 b4641 s4761 bx4638 bx4646 (by repeat (constructor)) (by repeat (constructor)) ne4649) (fun e_ w4962 hR_=>?_)))
     obtain ⟨v_,rfl,s4963,m4964,k4965,bx4966,bx4967⟩:=hR_
     have bx4622:=bx4622.keep k4965 (nin2 ne4640 ne4648)
     refine Exists.intro _ (And.intro (EH rfl (DY (vs:=[vI 0,vI 0,vI 0,nS,nS]) rfl U28_ rfl BL rfl bx4966 rfl) (MV rfl U29_ rfl rfl bx4967 rfl)) (DP (?_)))
     refine AA (AN (vA #[vI 0,vI 0,vI 0,nS,nS]) rfl rfl (AA (AN (vI 1) rfl rfl (BY (BC (vs:=[vI 0,vI 0,vI 0,nS,nS]) (.agg #[vI 0,vI 0,vI 0,nS,nS]) rfl rfl rfl BL (fun u hu=>by simp only [List.mem_cons,List.not_mem_nil,or_false] at hu;rcases hu with rfl|rfl|rfl|rfl|rfl <;> rfl) (by repeat (constructor)) bx4622 oT s4963 fun w4968 s4969 m4970 k4971 bx4972=>(?_))))))
     refine AA (AD (vI 1) rfl (AF (AC (?_))))
     refine AP (AZ rfl (EH rfl (DY (vs:=[vI 0,vI 0,vI 0,nS,nS]) rfl U28_ rfl BL rfl bx4972 rfl) (DN rfl rfl)) (?_))
     have e4973:((BO c no (AY c day)).1)=(⟨(0:Int),(0:Int),(0:Int),[],[]⟩:Circle):=by exact congrArg (fun p=>p.1) (show BO c no (AY c day)=_ from fin_done hok oM oM aS)
     have e4974:((BO c no (AY c day)).2)=(1:Int):=by exact congrArg (fun p=>p.2) (show BO c no (AY c day)=_ from fin_done hok oM oM aS)
     exact ⟨_,rfl,s4969.keep,by rw [e4973,e4974];exact ⟨[vI 0,vI 0,vI 0,nS,nS],rfl,Enc.out (B:=(b4738 :: (b4727 :: (b4716 :: (b4641 :: (b4633 :: (b4617 :: []))))))) ⟨.slice none 0 0, .slice none 0 0,rfl,(BG.nil _ _ _),(BG.nil _ _ _)⟩⟩⟩
    ·refine AA (JS (k:=2) (vN (.func 82) #[] #[vP (some ⟨b4727,0,none⟩)]) U110_ U3_ rfl (congrArg vI hs4766) bx4764 rfl (AA (AE (vT #[vN (.func 82) #[] #[vP (some ⟨b4727,0,none⟩)],vO true]) rfl (AA (AN (vN (.func 82) #[] #[vP (some ⟨b4727,0,none⟩)]) rfl rfl (AA (AN (vO true) rfl rfl (AA (AD (vN (.func 82) #[] #[vP (some ⟨b4727,0,none⟩)]) rfl (AA (AD (vO true) rfl (AF (AC (?_))))))))))))))
     refine AG (?_)
     refine AB kR (AA (AE (vO true) rfl (AF (AC (?_)))))
     refine AO true rfl rfl (fun _=>?_) (fun h=>by cases h)
     refine AB kR (AA (AE (vN (.func 82) #[] #[vP (some ⟨b4727,0,none⟩)]) rfl (AA (JC [] [vP (some ⟨b4727,0,none⟩)] [] enter_82 rfl rfl (CH 3 Try.func82 rfl rfl oT (fun F4975=>?_))))))
     refine AB kR (AA (BI U106_ rfl (vP (some ⟨b4716,0,none⟩)) rfl bx4732 rfl (AA (GN [vP (some ⟨b4716,0,none⟩),vO false,vI 452] JB rfl (CH 11 Try.func72 rfl rfl oT (fun F4976=>?_))))))
     refine AG (?_)
     refine AB kR (AA (AE (vO false) rfl (AA (HC false rfl (AF (AC (?_)))))))
     refine AO true rfl rfl (fun _=>?_) (fun h=>by cases h)
     refine AB kR (AA (AE (vI 452) rfl (AA (EE (l:=[(0, .tmp 8)]) NK PV rfl [(0,vI 452,[vI 452])] [vI 452] rfl ⟨_,rfl,rfl,oT,rfl⟩ (AA (KW (vA #[vI 452]) U125_ rfl rfl (BY (LA rfl (FB rfl (EA (?_)))))))))))
     refine FB rfl (EA (?_))
     refine FB rfl (EA (?_))
     refine FB rfl (EA (?_))
     refine HI (LB (HV [vP (some ⟨b4633,0,none⟩),vP (some ⟨b4641,0,none⟩)] (.panicking [{ v:=Value.iface 125 (vA #[vI 452]),recovered:=false }]) rfl (fun h=>by cases h) rfl FK (NN (452:Int) b4633 b4641 s4761 bx4638 bx4646 (by repeat (constructor)) (by repeat (constructor)) ne4649) (fun e_ w4977 hR_=>?_)))
     obtain ⟨v_,rfl,s4978,m4979,k4980,bx4981,bx4982⟩:=hR_
     have bx4622:=bx4622.keep k4980 (nin2 ne4640 ne4648)
     refine Exists.intro _ (And.intro (EH rfl (DY (vs:=[vI 0,vI 0,vI 0,nS,nS]) rfl U28_ rfl BL rfl bx4981 rfl) (MV rfl U29_ rfl rfl bx4982 rfl)) (DP (?_)))
     refine AA (AN (vA #[vI 0,vI 0,vI 0,nS,nS]) rfl rfl (AA (AN (vI 452) rfl rfl (BY (BC (vs:=[vI 0,vI 0,vI 0,nS,nS]) (.agg #[vI 0,vI 0,vI 0,nS,nS]) rfl rfl rfl BL (fun u hu=>by simp only [List.mem_cons,List.not_mem_nil,or_false] at hu;rcases hu with rfl|rfl|rfl|rfl|rfl <;> rfl) (by repeat (constructor)) bx4622 oT s4978 fun w4983 s4984 m4985 k4986 bx4987=>(?_))))))
     refine AA (AD (vI 452) rfl (AF (AC (?_))))
     refine AP (AZ rfl (EH rfl (DY (vs:=[vI 0,vI 0,vI 0,nS,nS]) rfl U28_ rfl BL rfl bx4987 rfl) (DN rfl rfl)) (?_))
     have e4988:((BO c no (AY c day)).1)=(⟨(0:Int),(0:Int),(0:Int),[],[]⟩:Circle):=by exact congrArg (fun p=>p.1) (show BO c no (AY c day)=_ from fin_dead hok oM oM aS)
     have e4989:((BO c no (AY c day)).2)=(452:Int):=by exact congrArg (fun p=>p.2) (show BO c no (AY c day)=_ from fin_dead hok oM oM aS)
     exact ⟨_,rfl,s4984.keep,by rw [e4988,e4989];exact ⟨[vI 0,vI 0,vI 0,nS,nS],rfl,Enc.out (B:=(b4738 :: (b4727 :: (b4716 :: (b4641 :: (b4633 :: (b4617 :: []))))))) ⟨.slice none 0 0, .slice none 0 0,rfl,(BG.nil _ _ _),(BG.nil _ _ _)⟩⟩⟩
  ·have hp4990:no<(0:Int):=by simpa using hb4678
   refine AT rfl (AT rfl (AT rfl (AT rfl (AT rfl (AA (BK (vO true) rfl rfl (AF (AC (?_)))))))))
   refine AO true rfl rfl (fun _=>?_) (fun h=>by cases h)
   refine AG (?_)
   refine AB kR (AA (BN (vs:=[vI 0,vI 0,vI 0,nS,nS]) U28_ rfl BL rfl bx4638 rfl (BY (BC (vs:=[vI 0,vI 0,vI 0,nS,nS]) (.agg #[vI 0,vI 0,vI 0,nS,nS]) rfl rfl rfl BL (fun u hu=>by simp only [List.mem_cons,List.not_mem_nil,or_false] at hu;rcases hu with rfl|rfl|rfl|rfl|rfl <;> rfl) (by repeat (constructor)) bx4638 oT s4654 fun w4991 s4992 m4993 k4994 bx4995=>(?_)))))
   have bx4622:=bx4622.keep k4994 (BH ne4640)
   have bx4646:=bx4646.keep k4994 (BH (Ne.symm ne4649))
   refine BY (CK (vI 1) rfl rfl rfl QX (by repeat (constructor)) bx4646 oT s4992 fun w4996 s4997 m4998 k4999 bx5000=>(?_))
   have bx4622:=bx4622.keep k4999 (BH ne4648)
   have bx4995:=bx4995.keep k4999 (BH ne4649)
   refine AF (AC (?_))
   refine AP (AR (QT rfl (EH rfl (DY (vs:=[vI 0,vI 0,vI 0,nS,nS]) rfl U28_ rfl BL rfl bx4995 rfl) (MV rfl U29_ rfl rfl bx5000 rfl)) (DP (?_))))
   refine AA (AN (vA #[vI 0,vI 0,vI 0,nS,nS]) rfl rfl (AA (AN (vI 1) rfl rfl (BY (BC (vs:=[vI 0,vI 0,vI 0,nS,nS]) (.agg #[vI 0,vI 0,vI 0,nS,nS]) rfl rfl rfl BL (fun u hu=>by simp only [List.mem_cons,List.not_mem_nil,or_false] at hu;rcases hu with rfl|rfl|rfl|rfl|rfl <;> rfl) (by repeat (constructor)) bx4622 oT s4997 fun w5001 s5002 m5003 k5004 bx5005=>(?_))))))
   refine AA (AD (vI 1) rfl (AF (AC (?_))))
   refine AP (AZ rfl (EH rfl (DY (vs:=[vI 0,vI 0,vI 0,nS,nS]) rfl U28_ rfl BL rfl bx5005 rfl) (DN rfl rfl)) (?_))
   have e5006:((BO c no (AY c day)).1)=(⟨(0:Int),(0:Int),(0:Int),[],[]⟩:Circle):=by exact congrArg (fun p=>p.1) (show BO c no (AY c day)=_ from fin_no hok oM)
   have e5007:((BO c no (AY c day)).2)=(1:Int):=by exact congrArg (fun p=>p.2) (show BO c no (AY c day)=_ from fin_no hok oM)
   exact ⟨_,rfl,s5002.keep,by rw [e5006,e5007];exact ⟨[vI 0,vI 0,vI 0,nS,nS],rfl,Enc.out (B:=(b4641 :: (b4633 :: (b4617 :: [])))) ⟨.slice none 0 0, .slice none 0 0,rfl,(BG.nil _ _ _),(BG.nil _ _ _)⟩⟩⟩
end Go.Proofs.Ytjgfokolnkhafaa
