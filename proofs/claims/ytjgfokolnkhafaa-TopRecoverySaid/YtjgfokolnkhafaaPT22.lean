/- What the laws of this part rest on: lemmas, and the walks of the functions. No conditions. -/
import Derived.WalkKit
import Derived.WalkSpells
import Derived.WalkLawsBesides
import Derived.RangeFuncLeaves
import Derived.Maps.AppendAt
import Derived.Deep.AppendLies
import Derived.Deep.Slices
import Derived.OpenShut
import Derived.ProofKit
import Derived.Below
import Derived.ChangeSame
import Derived.Carry
import Derived.RangeFuncRecord
import Derived.Laws.Tables
import Derived.Recover
import Derived.DefersIn
import Derived.Lib.AppendZerosOnto
import Derived.Lib.Overlaps
import Derived.Laws.CopyRow
import Derived.Laws.StructEq
import Derived.ChangeKeysEq
import Derived.OrdersIn
import Derived.Test.YtjgfokolnkhafaaRows
import Derived.Test.YtjgfokolnkhafaaPT21
set_option linter.unusedSimpArgs false
set_option linter.unusedVariables false
namespace Go.Fw
section
variable {P:Program} {w:World} {F:Fr} {K:Value→World→Prop} {Z:List PanicEntry→World→Prop} {ty:TypeId}
end
open Go.RowKit
section
variable {P:Program} {ty:TypeId} {F:Fr} {w w0:World} {O0 B:List Nat} {K:Value→World→Prop} {Z:List PanicEntry→World→Prop} {x y:Operand}
def RdN {α:Type} (E:Enc α) (u:World) (O:List Nat) (w:World) (v:Value) (l:List α):Prop:=
  ∃ (A:Addr) (c:Nat),v = .slice (some A) l.length c∧l.length≤c∧c≤maxLen∧∃ css:List (List Value),css.length=l.length∧(∀ (j:Nat) (cs:List Value) (y:α),css[j]? = some cs→l[j]? = some y→E.rd u O cs y)∧∀ (j:Nat) (q:Value),css.flatten[j]? = some q→w.cell? (A.add j)=some q
theorem RdN.keep {α:Type} {E:Enc α} {u:World} {O:List Nat} {w w':World} {v:Value} {l:List α} (h:RdN E u O w v l) (k:Keep [] w w'):RdN E u O w' v l:=by
  obtain ⟨A,c,h1,h2,h3,css,h4,h5,h6⟩:=h
  exact ⟨A,c,h1,h2,h3,css,h4,h5,fun j q hq=>cell_old k (h6 j q hq)⟩
theorem UI {α:Type} {E:Enc α} {t e:Nat} {z:Value} {bytes:Nat} {v u:Value} {l m:List α} {O':List Nat} {uw:World} (ht:P.underlying t=some (.slice e)) (hi:(P.info? e).map (fun i=>(i.zero,i.size,i.bytes))=some (some z,E.size,bytes)) (hzs:z.cells.size=E.size) (hpos:0<E.size)
    (hx:CP F x=v) (hy:CP F y=u) (ho:DX E e w0.heap.size (B++O0) w v l) (hu:RdN E uw O' w u m) (hav:∀ cs y,E.rd uw O' cs y→E.rd w (B++O0) cs y) (hv:∀ b,v.ownBlock=some b→b∈B) (hlen:(l.length+m.length)*bytes≤140737488355328) (hlm:l.length+m.length≤maxLen) (s:St w0 O0 w B)
    (h:∀ v' w' B',(∀ b,v'.ownBlock=some b→b∈B')→(v'.ownBlock=v.ownBlock∨v'.ownBlock=some w.heap.size)→(∀ b∈B,b∈B')→St w0 O0 w' B'→Mv B w B' w'→Keep v.ownBlock.toList w w'→DX E e w0.heap.size (B'++O0) w' v' (l++m)→K v' w') :
    DD P (.call { callee:=.builtin .append,args:=#[x,y],argTypes:=#[t,t] }) ty F w K Z:=by
  obtain ⟨i,hi1,hi2,hi3,hi4⟩:=info_parts hi
  obtain ⟨css,h1,h2,h3⟩:=ho
  obtain ⟨ad,c,rfl,h4,h5,css',k1,k2,k3⟩:=hu
  have hlens':∀ cs∈css',cs.length=E.size:=DX.lens k1 k2
  have hones:∀ u∈css'.flatten,u.oneCell'=true:=by
    intro u hu
    obtain ⟨cs,hcs,hucs⟩:=List.mem_flatten.1 hu
    obtain ⟨j,hj,rfl⟩:=List.getElem_of_mem hcs
    exact E.one (k2 j _ m[j] (List.getElem?_eq_getElem hj) (List.getElem?_eq_getElem (by omega))) u hucs
  have hlen':css'.flatten.length=m.length*E.size:=by rw [GA css' hlens',k1]
  have fin:∀ v' w' B',w'.ownsRow w0.heap.size e E.size v' (l.length+m.length) (css.flatten++css'.flatten)→Mv B w B' w'→DX E e w0.heap.size (B'++O0) w' v' (l++m):=by
    intro v' w' B' hr hmv
    refine ⟨css++css',by simp [h1,k1],by simpa using hr,fun j cs y hj hy=>?_⟩
    by_cases hjl:j<l.length
    · rw [List.getElem?_append_left (by omega)] at hj hy
      exact E.mv (h3 j cs y hj hy) hmv
    · rw [List.getElem?_append_right (by omega)] at hj hy
      rw [h1] at hj
      exact E.mv (hav _ _ (k2 _ cs y hj hy)) hmv
  have step:∀ v' w',(Builtin.append_ #[t,t] ty #[v, .slice (some ad) m.length c]).run P w = .ok v' w'→w'.ownsRow w0.heap.size e E.size v' (l.length+m.length) (css.flatten++css'.flatten)→w.grownBy w' v.ownBlock→(v'.ownBlock=v.ownBlock∨v'.ownBlock=some w.heap.size)→
      DD P (.call { callee:=.builtin .append,args:=#[x,y],argTypes:=#[t,t] }) ty F w K Z:=by
    intro v' w' hr hown hg hat
    have hk:Keep v.ownBlock.toList w w':=Keep.of_grown hg
    have hB:Keep B w w':=hk.mono (fun b hb=>.inl (hv b (by simpa using hb)))
    have hown':=hown.lt
    rcases hat with hat|hat
    · have mv:Mv B w B w':=⟨hB,fun b hb=>.inl hb⟩
      exact BV (v:=v') (w':=w') (by simp [execOp,resolve,invoke,builtin,hx,hy,hr]) (h v' w' B (fun b hb=>hv b (by rw [← hat];exact hb)) (.inl hat) (fun b hb=>hb) (s.step mv (fun b hb=>Nat.lt_of_lt_of_le (s.new b hb).2 hk.size)) mv hk (fin v' w' B hown mv))
    · have mv:Mv B w (w.heap.size :: B) w':=⟨hB,fun b hb=>by rcases List.mem_cons.1 hb with h|h;exact .inr (by omega);exact .inl h⟩
      exact BV (v:=v') (w':=w') (by simp [execOp,resolve,invoke,builtin,hx,hy,hr]) (h v' w' (w.heap.size :: B) (fun b hb=>by rw [hat] at hb;cases hb;simp) (.inr hat) (fun b hb=>by simp [hb])
        (s.step mv (fun b hb=>by
          rcases List.mem_cons.1 hb with h|h
          · subst h;exact (hown' _ hat).2
          · exact Nat.lt_of_lt_of_le (s.new b h).2 hk.size)) mv hk (fin v' w' _ hown mv))
  obtain ⟨v',w',hr,g1,g2,_,g4⟩:=run_append_own_at (P:=P) w w0.heap.size t ty e i z E.size bytes ht hi1 hi2 hi3 hi4 hzs hpos v l.length css.flatten h2 ad m.length c css'.flatten hlen' k3 hones hlm hlen s.keep.size
  exact step v' w' hr g1 g2 g4
end
open Go.RowKit
abbrev PrU:=List Nat→Value→World→Prop
def prU (Ts:List PrU) (i:Nat):PrU:=(Ts[i]?).getD (fun _ _ _=>True)
structure Gr where
  g:Nat
  rs:List Nat
  hs:List Nat
  kills:List Nat
  wr:Bool
  uses:List Nat
def TN (G:List Gr) (i:Nat):Gr:=(G[i]?).getD ⟨0,[],[],[],false,[]⟩
def aliveB (G:List Gr) (m i:Nat):Bool:=(List.range m).all fun q=>!(TN G q).kills.contains i
theorem nbf {a b:Nat}:Nat.beq a b=false↔a≠b:=by
  constructor
  · intro h e;subst e;rw [Nat.beq_refl] at h;cases h
  · intro h
    cases hb:Nat.beq a b with
    | false=>rfl
    | true=>exact absurd (Nat.eq_of_beq_eq_true hb) h
def avo (lab:Nat→Nat) (base size g:Nat):List Nat:=(List.range size).filter fun b=>Nat.ble base b && !Nat.beq (lab b) g
theorem KA {lab:Nat→Nat} {base size g b:Nat}:b∈avo lab base size g↔b<size∧base≤b∧lab b≠g:=by
  unfold avo;simp [List.mem_filter,nbf]
def groupsOk (ops:List Oper) (m:Nat) (G:List Gr):Bool:=
  (List.range m).all fun i=>let r:=TN G i
    (Nat.beq r.g 0 || r.rs.all (fun x=>Nat.beq x r.g || r.hs.contains x)) && (!r.wr || !Nat.beq r.g 0) && (!Nat.beq r.g 0 || r.hs.isEmpty) && !r.hs.contains r.g && !r.hs.contains 0 &&
    (List.range m).all (fun q=>Nat.beq q i || Nat.beq (TN G q).g 0 || r.kills.contains q || EU ops q i || (!r.hs.contains (TN G q).g && (!r.wr || !Nat.beq (TN G q).g r.g))) &&
    r.uses.all (fun j=>Nat.blt j m && (JC ops i).contains j && (Nat.beq (TN G j).g 0 || r.rs.contains (TN G j).g) && (List.range m).all (fun q=>Nat.beq q i || !(TN G q).kills.contains j || EU ops q i))
def ZK:List PrU→List Gr→Prop
  | T :: Ts,r :: G=>(bif Nat.beq r.g 0 then (∀ B B' v w w',T B v w→T B' v w') else (∀ B B' v w w',T B v w→Mv B w B' w'→T B' v w'))∧ZK Ts G
  | _,_=>True
theorem ZK.at_:∀ {Ts:List PrU} {G:List Gr},ZK Ts G→G.length=Ts.length→∀ i,(bif Nat.beq (TN G i).g 0 then (∀ B B' v w w',prU Ts i B v w→prU Ts i B' v w') else (∀ B B' v w w',prU Ts i B v w→Mv B w B' w'→prU Ts i B' v w'))
  | [],[],_,_,i=>by simp only [TN,prU,List.getElem?_nil,Option.getD_none];exact fun _ _ _ _ _ _=>trivial
  | T :: Ts,r :: G,h,hl,0=>h.1
  | T :: Ts,r :: G,h,hl,i+1=>ZK.at_ h.2 (by simpa using hl) i
  | [],_ :: _,_,h,_=>by simp at h
  | _ :: _,[],_,h,_=>by simp at h
section
variable {P:Program} {n:Nat} {Q:Exit→Fr→World→Prop}
def OpSpecU (P:Program) (ops:List Oper) (m:Nat) (Ts:List PrU) (G:List Gr) (F:Fr) (w:World) (B:List Nat) (i:Nat) (o:Oper) (T:PrU):Prop:=
  ∀ F1 w1 (B1:List Nat) (Bs:Nat→List Nat),Keep [] w w1→(∀ b∈B,b∈B1)→(∀ b∈B1,b∈B∨(w.heap.size≤b∧b<w1.heap.size))→(∀ g,(TN G i).rs.contains g=true→∀ b∈B1,b∈Bs g)→(∀ g h b,Nat.beq g h=false→w.heap.size≤b→b<w1.heap.size→b∉Bs g→b∈Bs h)→(∀ t,RW ops i t=true→F1 t=F t)→
    (∀ j d,(TN G i).uses.contains j=true→depAt' ops j d=true→prU Ts j (Bs (TN G j).g) (F1 d) w1)→
    (Region.wanted o (CH ops F1)=true→DD P o.op o.type F1 w1 (fun v w2=>∃ C,Keep C w1 w2∧(∀ b∈C,(TN G i).wr=true∧w.heap.size≤b∧b<w1.heap.size∧b∉B1)∧T B1 v w2) (fun _ _=>False))∧
    (Region.wanted o (CH ops F1)=false→T B1 undef w1)
def UG (P:Program) (ops:List Oper) (m:Nat) (Ts:List PrU) (G:List Gr) (F:Fr) (w:World) (B:List Nat):Nat→List Oper→List PrU→Prop
  | i,o :: r,T :: R=>OpSpecU P ops m Ts G F w B i o T∧UG P ops m Ts G F w B (i+1) r R
  | _,_,_=>True
theorem UG.at_ {ops:List Oper} {m:Nat} {Ts:List PrU} {G:List Gr} {F:Fr} {w:World} {B:List Nat}:∀ (l:List Oper) (R:List PrU) (k i:Nat) (o:Oper) (T:PrU),UG P ops m Ts G F w B k l R→l[i]? = some o→R[i]? = some T→OpSpecU P ops m Ts G F w B (k+i) o T
  | [],_,_,_,_,_,_,h,_=>by simp at h
  | _ :: _,[],_,_,_,_,_,_,h=>by simp at h
  | o' :: l,T' :: R,k,0,o,T,h,h1,h2=>by
    simp at h1 h2;subst h1;subst h2;exact h.1
  | o' :: l,T' :: R,k,i+1,o,T,h,h1,h2=>by
    have:=UG.at_ l R (k+1) i o T h.2 (by simpa using h1) (by simpa using h2)
    rwa [show k+1+i=k+(i+1) by omega] at this
structure UInv (ops:List Oper) (m:Nat) (Ts:List PrU) (G:List Gr) (F:Fr) (w:World) (B:List Nat) (listed:Array Bool) (F1:Fr) (w1:World):Prop where
  keep:Keep [] w w1
  down:∀ i,listed[i]? = some true→∀ j∈JC ops i,listed[j]? = some true
  free:∀ (t:Tmp),(∀ (j:Nat) (o:Oper),listed[j]? = some true→ops[j]? = some o→o.dst≠some t)→F1 t=F t
  fact:∃ lab:Nat→Nat,∀ (i:Nat) (o:Oper) (d:Tmp),i<m→listed[i]? = some true→(∀ q,q<m→listed[q]? = some true→i∉(TN G q).kills)→ops[i]? = some o→o.dst=some d→prU Ts i (avo lab w.heap.size w1.heap.size (TN G i).g++B) (F1 d) w1
theorem Keep.behind {a b c:World} {C:List Nat} (h:Keep [] a b) (k:Keep C b c) (hC:∀ x∈C,a.heap.size≤x):Keep [] a c:=
  ⟨k.os.trans h.os,k.tape.trans h.tape,k.output.trans h.output,Nat.le_trans h.size k.size,fun i hi ho=>(k.block i (Nat.lt_of_lt_of_le hi h.size) (fun hc=>by have:=hC i hc;omega)).trans (h.block i hi ho)⟩
theorem stepU {ops:List Oper} {F:Fr} {w:World} {m:Nat} {Ts:List PrU} {G:List Gr} {B:List Nat} (hdo:∀ (i j:Nat) (oi oj:Oper),i<m→j<m→i≠j→ops[i]? = some oi→ops[j]? = some oj→oi.dst≠none→oi.dst≠oj.dst)
    (hTl:Ts.length=m) (hGl:G.length=Ts.length) (hle:m≤ops.length) (hgr:groupsOk ops m G=true) (hst:ZK Ts G)
    (hs:UG P ops m Ts G F w B 0 (ops.take m) Ts) {listed:Array Bool} {F1:Fr} {w1:World} {i:Nat} {o:Oper} (hsz:listed.size=ops.length) (hi:UInv ops m Ts G F w B listed F1 w1) (him:i<m) (ho:ops[i]? = some o) (hnl:listed[i]? = some false) (haft:∀ j∈JC ops i,listed[j]? = some true) :
    (Region.wanted o (CH ops F1)=true→DD P o.op o.type F1 w1 (fun v w2=>UInv ops m Ts G F w B (listed.setIfInBounds i true) (GY F1 o.dst v) w2) (fun _ _=>False))∧
    (Region.wanted o (CH ops F1)=false→UInv ops m Ts G F w B (listed.setIfInBounds i true) (GY F1 o.dst undef) w1):=by
  have hil:i<ops.length:=by omega
  have hg:=List.all_eq_true.1 hgr i (by simpa using him)
  simp only [Bool.and_eq_true] at hg
  obtain ⟨⟨⟨⟨⟨⟨g1,g2⟩,g3⟩,g4⟩,g5⟩,g6⟩,g7⟩:=hg
  generalize hr:TN G i=r at *
  have c1:r.g≠0→∀ x∈r.rs,x=r.g∨x∈r.hs:=fun h0 x hx=>by
    rcases (Bool.or_eq_true _ _).mp g1 with h|h
    · exact absurd (Nat.eq_of_beq_eq_true h) h0
    · have:=List.all_eq_true.1 h x hx
      rcases (Bool.or_eq_true _ _).mp this with h|h
      · exact .inl (Nat.eq_of_beq_eq_true h)
      · exact .inr (by simpa using h)
  have c2:r.wr=true→r.g≠0:=fun h h0=>by rw [h,h0] at g2;simp at g2
  have c3:r.g=0→r.hs=[]:=fun h0=>by rw [h0] at g3;simpa using g3
  have c4:r.g∉r.hs:=by simpa using g4
  have c6:∀ q,q<m→q≠i→(TN G q).g≠0→q∉r.kills→EU ops q i=false→(TN G q).g∉r.hs∧(r.wr=true→(TN G q).g≠r.g):=fun q hq hqi h0 hk hwt=>by
    have:=List.all_eq_true.1 g6 q (by simpa using hq)
    simp only [Bool.or_eq_true,Bool.and_eq_true] at this
    rcases this with (((h|h)|h)|h)|h
    · exact absurd (Nat.eq_of_beq_eq_true h) hqi
    · exact absurd (Nat.eq_of_beq_eq_true h) h0
    · exact absurd (by simpa using h) hk
    · rw [hwt] at h;cases h
    · exact ⟨by simpa using h.1,fun hw e=>by rw [hw,e] at h;simp at h⟩
  have c7:∀ j∈r.uses,j<m∧j∈JC ops i∧((TN G j).g≠0→(TN G j).g∈r.rs)∧∀ q,q<m→q≠i→j∈(TN G q).kills→EU ops q i=true:=fun j hj=>by
    have:=List.all_eq_true.1 g7 j hj
    simp only [Bool.and_eq_true] at this
    obtain ⟨⟨⟨h1,h2⟩,h3⟩,h4⟩:=this
    refine ⟨blt h1,by simpa using h2,fun h0=>?_,fun q hq hqi hk=>?_⟩
    · rcases (Bool.or_eq_true _ _).mp h3 with h|h
      · exact absurd (Nat.eq_of_beq_eq_true h) h0
      · simpa using h
    · have:=List.all_eq_true.1 h4 q (by simpa using hq)
      simp only [Bool.or_eq_true] at this
      rcases this with (h|h)|h
      · exact absurd (Nat.eq_of_beq_eq_true h) hqi
      · exact absurd hk (by simpa using h)
      · exact h
  obtain ⟨lab,hfact⟩:=hi.fact
  -- what the operation does not read
  have hL:∃ L:List Nat,∀ b,b∈L↔(b<w1.heap.size∧w.heap.size≤b∧lab b≠r.g∧lab b∉r.hs∧lab b∉r.rs):=
    ⟨(List.range w1.heap.size).filter fun b=>Nat.ble w.heap.size b && !Nat.beq (lab b) r.g && !r.hs.contains (lab b) && !r.rs.contains (lab b),fun b=>by simp [List.mem_filter,and_assoc,nbf]⟩
  obtain ⟨L,hL⟩:=hL
  have hstab:∀ j,(TN G j).g≠0→∀ B B' v w w',prU Ts j B v w→Mv B w B' w'→prU Ts j B' v w':=fun j h0=>by
    have:=hst.at_ hGl j
    cases hb:Nat.beq (TN G j).g 0 with
    | true=>exact absurd (Nat.eq_of_beq_eq_true hb) h0
    | false=>rw [hb] at this;exact this
  have hstat:∀ j,(TN G j).g=0→∀ B B' v w w',prU Ts j B v w→prU Ts j B' v w':=fun j h0=>by
    have:=hst.at_ hGl j
    rw [h0] at this;exact this
  have dep:∀ (j d:Nat),depAt' ops j d=true→∃ oj,ops[j]? = some oj∧oj.dst=some d:=fun j d h=>by
    unfold depAt' at h
    cases ho:ops[j]? with
    | none=>rw [ho] at h;cases h
    | some o=>
      rw [ho] at h
      simp only [Option.bind_some] at h
      cases hd':o.dst with
      | none=>rw [hd'] at h;cases h
      | some e=>
        rw [hd'] at h
        have:=Nat.eq_of_beq_eq_true h
        subst this
        exact ⟨o,rfl,hd'⟩
  have hT:Ts[i]? = some Ts[i]:=List.getElem?_eq_getElem (by omega)
  have hTi:prU Ts i=Ts[i]:=by unfold prU;rw [hT];rfl
  have hcl:∀ q j,listed[q]? = some true→EU ops q j=true→listed[j]? = some true:=fun q j hq hj=>by
    unfold EU at hj
    exact IW (D:=fun j=>listed[j]? = some true) hi.down _ _ (hi.down q hq) j (by simpa using hj)
  have hsp:=hs.at_ (ops.take m) Ts 0 i o Ts[i] (by rw [List.getElem?_take,if_pos him];exact ho) hT
  rw [Nat.zero_add] at hsp
  have hsep:∀ g h b,Nat.beq g h=false→w.heap.size≤b→b<w1.heap.size→b∉avo lab w.heap.size w1.heap.size g++B→b∈avo lab w.heap.size w1.heap.size h++B:=fun g h b hgh h1 h2 hb=>by
    refine List.mem_append_left _ (KA.2 ⟨h2,h1,fun e=>?_⟩)
    refine hb (List.mem_append_left _ (KA.2 ⟨h2,h1,fun e'=>?_⟩))
    rw [← e',e,Nat.beq_refl] at hgh;cases hgh
  have hsp:=hsp F1 w1 (L++B) (fun g=>avo lab w.heap.size w1.heap.size g++B) hi.keep (fun b hb=>List.mem_append_right _ hb) (fun b hb=>by
      rcases List.mem_append.1 hb with h|h
      · exact .inr ⟨((hL b).1 h).2.1,((hL b).1 h).1⟩
      · exact .inl h) (fun g hg b hb=>by
      rw [hr] at hg
      have hg:g∈r.rs:=by simpa using hg
      rcases List.mem_append.1 hb with h|h
      · obtain ⟨a1,a2,a3,a4,a5⟩:=(hL b).1 h
        exact List.mem_append_left _ (KA.2 ⟨a1,a2,fun e=>a5 (by rw [e];exact hg)⟩)
      · exact List.mem_append_right _ h) hsep (fun t ht=>hi.free t (fun j oj hj hoj=>by
        intro e
        unfold RW at ht
        have h1:=List.all_eq_true.1 ht j (by simp;exact (List.getElem?_eq_some_iff.1 hoj).1)
        rw [hoj] at h1
        simp only [e,Bool.or_eq_true,List.contains_iff_mem] at h1
        rcases h1 with h1|h1
        · simp at h1
        · have:=hi.down j hj i h1
          rw [hnl] at this;cases this)) (fun j d hj hdep=>by
        rw [hr] at hj
        have hj:j∈r.uses:=by simpa using hj
        obtain ⟨hjm,hja,hjr,hjk⟩:=c7 j hj
        obtain ⟨oj,hoj,hdj⟩:=dep j d hdep
        have hf:=hfact j oj d hjm (haft j hja) (fun q hq hql hk=>by
          by_cases hqi:q=i
          · subst hqi;rw [hnl] at hql;cases hql
          · have:=hcl q i hql (hjk q hq hqi hk)
            rw [hnl] at this;cases this) hoj hdj
        exact hf)
  have hdist:∀ (j:Nat) (oj:Oper),j<m→j≠i→ops[j]? = some oj→oj.dst≠none→oj.dst≠o.dst:=fun j oj hj hji hoj hne=>hdo j i oj o hj him hji hoj ho hne
  have hset:∀ (j:Nat),(listed.setIfInBounds i true)[j]? = some true→j=i∨listed[j]? = some true:=by
    intro j hj
    by_cases hji:j=i
    · exact .inl hji
    · rw [Array.getElem?_setIfInBounds,if_neg (fun e=>hji e.symm)] at hj;exact .inr hj
  have hmono:∀ (j:Nat),listed[j]? = some true→(listed.setIfInBounds i true)[j]? = some true:=by
    intro j hj
    rw [Array.getElem?_setIfInBounds]
    split
    · rename_i e;subst e
      have:i<listed.size:=by omega
      simp [this]
    · exact hj
  have hself:(listed.setIfInBounds i true)[i]? = some true:=by
    rw [Array.getElem?_setIfInBounds,if_pos rfl,if_pos (by omega)]
  have use:∀ v w2,(∃ C,Keep C w1 w2∧(∀ b∈C,r.wr=true∧w.heap.size≤b∧b<w1.heap.size∧b∉L++B)∧Ts[i] (L++B) v w2)→UInv ops m Ts G F w B (listed.setIfInBounds i true) (GY F1 o.dst v) w2:=by
    rintro v w2 ⟨C,hk,hC,hv⟩
    rw [← hTi] at hv
    refine ⟨hi.keep.behind hk (fun x hx=>(hC x hx).2.1),fun j hj q hq=>?_,fun t ht=>?_,fun b=>if b<w1.heap.size then (if lab b∈r.hs then r.g else lab b) else r.g,fun q oq d hqm hql hqk hoq hd=>?_⟩
    · rcases hset j hj with rfl|hj
      · exact hmono q (haft q hq)
      · exact hmono q (hi.down j hj q hq)
    · have h1:o.dst≠some t:=ht i o hself ho
      have h2:F1 t=F t:=hi.free t (fun j oj hj hoj=>ht j oj (hmono j hj) hoj)
      cases hod:o.dst with
      | none=>exact h2
      | some d'=>
        show DE F1 d' v t=F t
        rw [HG _ _ _ (fun e=>h1 (by rw [hod,e]))];exact h2
    · by_cases hqi:q=i
      · subst hqi
        rw [ho] at hoq;cases hoq
        have e:GY F1 o.dst v d=v:=by rw [hd];exact GS _ _ _
        rw [e,hr]
        by_cases h0:r.g=0
        · exact hstat q (by rw [hr];exact h0) _ _ _ _ _ hv
        · refine hstab q (by rw [hr];exact h0) _ _ _ _ _ hv ⟨Keep.refl _ _,fun b hb=>.inl ?_⟩
          rcases List.mem_append.1 hb with h|h
          · obtain ⟨a1,a2,a3⟩:=KA.1 h
            by_cases hb1:b<w1.heap.size
            · rw [if_pos hb1] at a3
              by_cases hbh:lab b∈r.hs
              · rw [if_pos hbh] at a3;exact absurd rfl a3
              · rw [if_neg hbh] at a3
                refine List.mem_append_left _ ((hL b).2 ⟨hb1,a2,a3,hbh,fun hrs=>?_⟩)
                rcases c1 h0 _ hrs with h|h
                · exact a3 h
                · exact hbh h
            · rw [if_neg hb1] at a3;exact absurd rfl a3
          · exact List.mem_append_right _ h
      · have hql':listed[q]? = some true:=by rcases hset q hql with h|h;exact absurd h hqi;exact h
        have hf:=hfact q oq d hqm hql' (fun x hx hxl=>hqk x hx (hmono x hxl)) hoq hd
        have e:GY F1 o.dst v d=F1 d:=by
          cases hod:o.dst with
          | none=>rfl
          | some d'=>
            have hn:d≠d':=fun e=>hdist q oq hqm hqi hoq (by rw [hd];simp) (by rw [hd,hod,e])
            show DE F1 d' v d=F1 d
            rw [HG _ _ _ hn]
        rw [e]
        by_cases h0:(TN G q).g=0
        · exact hstat q h0 _ _ _ _ _ hf
        · obtain ⟨b1,b2⟩:=c6 q hqm hqi h0 (by have:=hqk i him hself;rwa [hr] at this) (by
            cases hwt:EU ops q i with
            | false=>rfl
            | true=>have:=hcl q i hql' hwt;rw [hnl] at this;cases this)
          refine hstab q h0 _ _ _ _ _ hf ⟨hk.mono (fun b hb=>.inl ?_),fun b hb=>?_⟩
          · obtain ⟨x1,x2,x3,x4⟩:=hC b hb
            refine List.mem_append_left _ (KA.2 ⟨x3,x2,fun e=>x4 (List.mem_append_left _ ((hL b).2 ⟨x3,x2,?_,?_,?_⟩))⟩)
            · rw [e];exact b2 x1
            · rw [e];exact b1
            · rw [e];intro hrs
              rcases c1 (c2 x1) _ hrs with h|h
              · exact b2 x1 h
              · exact b1 h
          · rcases List.mem_append.1 hb with h|h
            · obtain ⟨a1,a2,a3⟩:=KA.1 h
              by_cases hb1:b<w1.heap.size
              · rw [if_pos hb1] at a3
                refine .inl (List.mem_append_left _ (KA.2 ⟨hb1,a2,fun e=>a3 ?_⟩))
                rw [if_neg (by rw [e];exact b1)];exact e
              · exact .inr (by omega)
            · exact .inl (List.mem_append_right _ h)
  refine ⟨fun hw=>?_,fun hw=>use undef w1 ⟨[],Keep.refl _ _,(fun _ h=>by cases h),hsp.2 hw⟩⟩
  have h2:=hsp.1 hw
  rw [hr] at h2
  unfold DD at h2 ⊢
  generalize (execOp (CP F1) ⟨none,o.op,o.type,"",#[],none⟩).run P w1=rr at h2 ⊢
  cases rr with
  | ok x w'=>
    cases x <;> simp only [HA] at h2 ⊢ <;> try exact h2.elim
    case value v=>exact use _ _ h2
    case skip=>exact use _ _ h2
    case enter f args=>
      exact Calls.mono h2 fun e w'' he=>by
        cases e with
        | returned v=>exact use _ _ he
        | panicked c=>exact he.elim
        | outgrown=>exact he.elim
  | halt x w'=>cases x <;> simp only [HA] at h2 ⊢ <;> exact h2.elim
def FinU (ops:List Oper) (m:Nat) (Ts:List PrU) (G:List Gr) (F:Fr) (w:World) (B:List Nat) (ex:List Nat) (K:Fr→World→Prop):Prop:=
  ∀ F1 w1 (Bs:Nat→List Nat),Keep [] w w1→(∀ g,∀ b∈B,b∈Bs g)→(∀ g,∀ b∈Bs g,b∈B∨(w.heap.size≤b∧b<w1.heap.size))→(∀ g h b,Nat.beq g h=false→w.heap.size≤b→b<w1.heap.size→b∉Bs g→b∈Bs h)→
    (∀ i d,depAt' ops i d=true→i<m→ex.contains i=false→aliveB G m i=true→prU Ts i (Bs (TN G i).g) (F1 d) w1)→(∀ t,UX ops m t=true→F1 t=F t)→K F1 w1
theorem UInv.fin {ops:List Oper} {m:Nat} {Ts:List PrU} {G:List Gr} {F:Fr} {w:World} {B ex:List Nat} {K:Fr→World→Prop} {listed:Array Bool} {F1:Fr} {w1:World} (hi:UInv ops m Ts G F w.drew B listed F1 w1) (hall:∀ i,i<m→ex.contains i=false→listed[i]? = some true) (hno:∀ j,m≤j→listed[j]?≠some true) (fin:FinU ops m Ts G F w B ex K):K F1 w1:=by
  obtain ⟨lab,hf⟩:=hi.fact
  refine fin F1 w1 (fun g=>avo lab w.heap.size w1.heap.size g++B) ((Keep.drew [] w).trans hi.keep) (fun g b hb=>List.mem_append_right _ hb) (fun g b hb=>?_) (fun g h b hgh h1 h2 hb=>?_) (fun i d hdp him hex hal=>?_) (fun t ht=>hi.free t (fun j o hj ho e=>?_))
  · rcases List.mem_append.1 hb with h|h
    · exact .inr ⟨(KA.1 h).2.1,(KA.1 h).1⟩
    · exact .inl h
  · refine List.mem_append_left _ (KA.2 ⟨h2,h1,fun e=>?_⟩)
    exact hb (List.mem_append_left _ (KA.2 ⟨h2,h1,fun e'=>by rw [← e',e,Nat.beq_refl] at hgh;cases hgh⟩))
  · unfold depAt' at hdp
    cases ho:ops[i]? with
    | none=>rw [ho] at hdp;cases hdp
    | some o=>
      rw [ho] at hdp
      simp only [Option.bind_some] at hdp
      cases hd':o.dst with
      | none=>rw [hd'] at hdp;cases hdp
      | some e=>
        rw [hd'] at hdp
        have:=Nat.eq_of_beq_eq_true hdp
        subst this
        refine hf i o e him (hall i him hex) (fun q hq _=>?_) ho hd'
        have:=List.all_eq_true.1 hal q (by simpa using hq)
        simpa using this
  · rcases Nat.lt_or_ge j m with h1|h1
    · unfold UX at ht
      have h3:=List.all_eq_true.1 ht o (List.mem_of_getElem? (by rw [List.getElem?_take,if_pos h1];exact ho))
      rw [e] at h3;simp at h3
    · exact absurd hj (hno j h1)
theorem UInv.start {ops:List Oper} {m:Nat} {Ts:List PrU} {G:List Gr} {F:Fr} {w:World} {B:List Nat}:UInv ops m Ts G F w B (Array.replicate ops.length false) F w:=by
  refine ⟨Keep.refl _ _,fun i hi=>?_,fun _ _=>rfl,fun _=>0,fun i o d _ hi=>?_⟩ <;> simp_all [Array.getElem?_replicate]
theorem ZA {id:Nat} {ops:List Oper} {F:Fr} {w:World} (m:Nat) (late:List Nat) (pre:List Oper) (om:Oper) (tl:List Oper) (Ts:List PrU) (G:List Gr) (B:List Nat) (hm:P.follows .mixedOrders=true) (hok:ops.all (RC n ops)=true) (hd:lateOk ops m late=true) (hlen:(Nat.beq Ts.length m && Nat.beq G.length m && Nat.ble m ops.length)=true) (hgr:groupsOk ops m G=true) (hnd:late.Nodup)
    (hpre:ops.take m=pre) (hom:ops[m]? = some om) (htl:FY ops (GG ops m)=tl) (hst:ZK Ts G) (hs:UG P ops m Ts G F w.drew B 0 pre Ts)
    (fin:FinU ops m Ts G F w B [] (WL false P ops Q (om :: tl))) (finL:∀ c,c<late.length→FinU ops m Ts G F w B (late.drop c) (WL false P ops Q (om :: (FY ops (late.drop c)++tl)))):CW P (ro:=none) n (.region id ops.toArray true) Q F w:=by
  subst hpre;subst htl
  simp only [Bool.and_eq_true] at hlen
  have hTl:Ts.length=m:=Nat.eq_of_beq_eq_true hlen.1.1
  have hGl:G.length=Ts.length:=by rw [hTl];exact Nat.eq_of_beq_eq_true hlen.1.2
  have hle:m≤ops.length:=Nat.le_of_ble_eq_true hlen.2
  have hdr:({ w with drawn:=w.drawn+1 }:World)=w.drew:=rfl
  have hd':=hd
  unfold lateOk at hd'
  simp only [Bool.and_eq_true] at hd'
  obtain ⟨⟨⟨⟨⟨⟨⟨⟨⟨d1,d2⟩,d3⟩,d4⟩,d5⟩,d6⟩,d7⟩,d8⟩,d9⟩,d10⟩:=hd'
  have hdist:∀ (i j:Nat) (oi oj:Oper),i<m→j<m→i≠j→ops[i]? = some oi→ops[j]? = some oj→oi.dst≠none→oi.dst≠oj.dst:=by
    intro i j oi oj hi hj hij hoi hoj hne
    have:=List.all_eq_true.1 (List.all_eq_true.1 d1 i (by simpa using hi)) j (by simpa using hj)
    simp only [Bool.or_eq_true] at this
    rcases this with h5|h5
    · exact absurd (Nat.eq_of_beq_eq_true h5) hij
    · rw [hoi,hoj] at h5
      intro e
      cases hd:oi.dst with
      | none=>exact hne hd
      | some d=>
        rw [hd] at e
        simp only [Option.bind_some,hd,← e] at h5
        simp at h5
  refine wpIn_wide.2 (wp_region_any hm ?_)
  rw [hdr,List.size_toArray]
  refine draw_runM (UInv ops m Ts G F w.drew B) hd hnd hok hom (fun listed F1 w1 h=>h.down) (fun listed F1 w1 i o hsz h him ho hnl haft=>stepU hdist hTl hGl hle hgr hst hs hsz h him ho hnl haft)
    (fun listed F1 w1 hi hall hno=>hi.fin (fun i him _=>hall i him) hno fin) (fun c hc listed F1 w1 hi hall hno=>hi.fin (fun i him hex=>(hall i him).2 (by simpa using hex)) hno (finL c hc)) ops.length _ F w.drew (by simp) ?_ (fun j _=>?_) UInv.start
  · unfold PD;exact Nat.le_trans (List.countP_le_length) (by simp)
  · simp [Array.getElem?_replicate]
theorem VT {w w1:World} {B1:List Nat} {wr:Bool}:∀ b∈([]:List Nat),wr=true∧w.heap.size≤b∧b<w1.heap.size∧b∉B1:=fun _ h=>by cases h
theorem St.adoptL {w0 w w':World} {O0 B B1:List Nat} (s:St w0 O0 w B) (k:Keep [] w w') (hl:∀ b∈B1,b∈B∨(w.heap.size≤b∧b<w'.heap.size)):St w0 O0 w' B1:=
  ⟨(s.call k).keep,fun b hb=>by
    rcases hl b hb with h|h
    · exact ⟨(s.new b h).1,Nat.lt_of_lt_of_le (s.new b h).2 k.size⟩
    · exact ⟨Nat.le_trans s.keep.size h.1,h.2⟩,s.old⟩
theorem Mv.adoptL {w w':World} {B B1:List Nat} (k:Keep [] w w') (hl:∀ b∈B1,b∈B∨(w.heap.size≤b∧b<w'.heap.size)):Mv B w B1 w':=
  ⟨k.nil,fun b hb=>(hl b hb).imp id (·.1)⟩
theorem Mv.at_ {w:World} {B B1:List Nat} (h:∀ b∈B1,b∈B):Mv B w B1 w:=⟨Keep.refl _ _,fun b hb=>.inl (h b hb)⟩
def TBx (u:World) (t:TypeId) (cs:List Value):PrU:=fun B v w=>∃ b,v = .pointer (some ⟨b,0,none⟩)∧u.heap.size≤b∧b∉B∧FT w b t cs
theorem TBx.st {u:World} {t:TypeId} {cs:List Value}:∀ B B' v w w',TBx u t cs B v w→Mv B w B' w'→TBx u t cs B' v w':=fun B B' v w w' ⟨b,e,lo,hn,hb⟩ m=>
  ⟨b,e,lo,fun h=>by rcases m.new b h with h1|h1;exact hn h1;have:=hb.lt;omega,hb.keep m.keep hn⟩
def TOw {α:Type} (u:World) (base:Nat) (O:List Nat) (E:Enc α) (e:TypeId) (l:List α):PrU:=fun B v w=>(∀ b,v.ownBlock=some b→u.heap.size≤b∧b∉B)∧DX E e base ((v.ownBlock.toList++B)++O) w v l
theorem Mv.app {w w':World} {B B':List Nat} (m:Mv B w B' w') (L:List Nat):Mv (L++B) w (L++B') w':=
  ⟨m.keep.mono (fun x hx=>.inl (List.mem_append_right _ hx)),fun x hx=>by
    rcases List.mem_append.1 hx with h|h
    · exact .inl (List.mem_append_left _ h)
    · exact (m.new x h).imp (List.mem_append_right _) id⟩
theorem TOw.st {α:Type} {u:World} {base:Nat} {O:List Nat} {E:Enc α} {e:TypeId} {l:List α}:∀ B B' v w w',TOw u base O E e l B v w→Mv B w B' w'→TOw u base O E e l B' v w':=fun B B' v w w' ⟨hb,ho⟩ m=>
  ⟨fun b h=>⟨(hb b h).1,fun h2=>by
    rcases m.new b h2 with h1|h1
    · exact (hb b h).2 h1
    · have:=(ho.lt b h).2;omega⟩,ho.mv (m.app _) m.keep (fun c hc=>(hb c hc).2)⟩
theorem TOw.rd {α:Type} {u:World} {base:Nat} {O:List Nat} {E:Enc α} {e:TypeId} {l:List α} {B:List Nat} {v:Value} {w:World} (h:TOw u base O E e l B v w) (hO:∀ x∈O,x<u.heap.size):BL E w (B++O) v l:=by
  refine h.2.rd (fun x hx=>.inl ?_) (fun c hc hx=>?_)
  · rcases List.mem_append.1 hx with h1|h1
    · exact List.mem_append_left _ (List.mem_append_right _ h1)
    · exact List.mem_append_right _ h1
  · rcases List.mem_append.1 hx with h1|h1
    · exact (h.1 c hc).2 h1
    · have:=hO _ h1;have:=(h.1 c hc).1;omega
theorem TOw.one {α:Type} {u:World} {base b:Nat} {O B:List Nat} {E:Enc α} {e:TypeId} {l:List α} {v:Value} {w:World} (hb:v.ownBlock=some b) (lo:u.heap.size≤b) (hn:b∉B) (h:DX E e base ((b :: B)++O) w v l):TOw u base O E e l B v w:=
  ⟨fun c hc=>by rw [hb] at hc;cases hc;exact ⟨lo,hn⟩,by rw [hb];exact h⟩
theorem lt_of {w1:World} {B1:List Nat} {w0:World} {O0:List Nat} (s:St w0 O0 w1 B1):∀ x∈B1,x<w1.heap.size:=fun x hx=>(s.new x hx).2
theorem TOw.call {α:Type} {u w1 w2:World} {base:Nat} {O B1:List Nat} {E:Enc α} {e:TypeId} {l:List α} {v:Value} (hu:u.heap.size≤w1.heap.size) (hbase:base≤w1.heap.size) (hlt:∀ x∈B1,x<w1.heap.size) (hv:∀ b,v.ownBlock=some b→w1.heap.size≤b) (h:DX E e w1.heap.size (v.ownBlock.toList++(B1++O)) w2 v l):TOw u base O E e l B1 v w2:=
  ⟨fun b hb=>⟨Nat.le_trans hu (hv b hb),fun hx=>by have:=hlt _ hx;have:=hv b hb;omega⟩,by
    obtain ⟨css,h1,h2,h3⟩:=h
    refine ⟨css,h1,⟨h2.1,?_⟩,fun i cs x hi hx=>by rw [List.append_assoc];exact h3 i cs x hi hx⟩
    rcases h2.2 with h|⟨g,cap,cur,rfl,hbg,r⟩
    · exact .inl h
    · exact .inr ⟨g,cap,cur,rfl,Nat.le_trans hbase hbg,r⟩⟩
section
variable {ty:TypeId} {F:Fr} {w:World} {K:Value→World→Prop} {Z:List PanicEntry→World→Prop} {x y:Operand}
end
end
open Go.RowKit
section
variable {P:Program} {w:World}
variable {ty yt:TypeId} {F:Fr} {K:Value→World→Prop} {Z:List PanicEntry→World→Prop} {x y:Operand}
structure KeyT (P:Program) (kt:TypeId) {κ:Type} [BEq κ] (enc:κ→Value):Prop where
  same:∀ k:κ,Instr.sameBits 10000 (enc k) (enc k)=true
  check:∀ (k:κ) (b:Bool) (w:World),(Instr.checkKey b 10000 kt (enc k)).run P w = .ok () w
  find:∀ (k:κ) (l:List (κ × Value)) (es:List MapEntry) (w:World),es.map (fun e=>(e.key,e.val))=l.map (fun x=>(enc x.1,x.2))→(Instr.findKey kt (enc k) es).run P w = .ok ((l.findIdx? (fun x=>k == x.1)).bind fun j=>(l[j]?).map fun x=>(j,x.2)) w
theorem key_int {kt:TypeId} (hk:P.underlying kt=some (.int .i64)):KeyT P kt (κ:=Int) vI:=
  ⟨fun k=>by simp [Instr.sameBits,vI],fun k b w=>OG hk b,fun k l es w he=>by
    have:=QT (P:=P) (w:=w) (kt:=kt) (k:=k) (l:=l) (es:=es.toArray) hk (r:=0) (by simpa using he)
    simpa using this⟩
def VC {κ:Type} [BEq κ] (l:List (κ × Value)) (k:κ):Option Value:=(l.findIdx? (fun x=>k == x.1)).bind fun j=>(l[j]?).map (·.2)
def TO {κ α:Type} [BEq κ] (enc:κ→Value) (venc:α→Value) (w:World) (r:Nat) (M:κ→Option α):Prop:=
  ∃ es c,∃ l:List (κ × Value),Ob w r (.map es c)∧es.toList.map (fun e=>(e.key,e.val))=l.map (fun x=>(enc x.1,x.2))∧∀ k,VC l k=(M k).map venc
section
variable {κ α:Type} [BEq κ] {enc:κ→Value} {venc:α→Value} {r:Nat} {M:κ→Option α}
theorem TO.lt (h:TO enc venc w r M):r<w.heap.size:=let ⟨_,_,_,h,_⟩:=h;h.lt
theorem TO.keep {w':World} {O:List Nat} (h:TO enc venc w r M) (k:Keep O w w') (hb:r∉O):TO enc venc w' r M:=let ⟨es,c,l,h1,h2⟩:=h;⟨es,c,l,h1.keep k hb,h2⟩
variable {w0:World} {O0 B:List Nat} {z:Operand}
def noM {κ α:Type}:κ→Option α:=fun _=>none
def upM {κ α:Type} [BEq κ] (M:κ→Option α) (k:κ) (a:α):κ→Option α:=fun k'=>if k' == k then some a else M k'
theorem o_makeMapV (enc:κ→Value) (venc:α→Value) {t:TypeId} (s:St w0 O0 w B) (h:∀ r w',r=w.heap.size→St w0 O0 w' (r :: B)→Mv B w (r :: B) w'→Keep [] w w'→TO enc venc w' r noM→K (.map (some r)) w'):DD P (.makeMap t none) ty F w K Z:=by
  refine OR s fun r w' e s' m k hm=>h r w' e s' m k ?_
  obtain ⟨es,c,ho,he⟩:=hm
  exact ⟨es,c,[],ho,by simpa using he,fun k=>rfl⟩
theorem o_lookV1 {t kt et:TypeId} {k:κ} {z0:α} (ht:P.underlying t=some (.map kt et)) (hk:KeyT P kt enc) (hz:GF P et=some (venc z0)) (hx:CP F x = .map (some r)) (hy:CP F y=enc k) (hm:TO enc venc w r M) (h:K (venc ((M k).getD z0)) w):DD P (.lookup t x y false) ty F w K Z:=by
  obtain ⟨es,c,l,ho,he,hM⟩:=hm
  have h1:=hk.find k l es.toList w he
  have hMk:=hM k
  unfold VC at hMk
  refine BV ?_ h
  cases hj:l.findIdx? (fun x=>k == x.1) with
  | none=>
    rw [hj] at h1 hMk
    have:M k=none:=by cases hh:M k with|none=>rfl|some a=>rw [hh] at hMk;simp at hMk
    simp [execOp,Instr.lookup,run_underlying ht,hx,hy,GP ho,hk.check,h1,PX hz,this]
  | some j=>
    rw [hj] at h1 hMk
    obtain ⟨hjl,_⟩:=List.findIdx?_eq_some_iff_getElem.1 hj
    have hl:l[j]? = some l[j]:=List.getElem?_eq_getElem hjl
    rw [Option.bind_some,hl,Option.map_some] at h1 hMk
    cases hh:M k with
    | none=>rw [hh] at hMk;simp at hMk
    | some a=>
      rw [hh] at hMk
      simp only [Option.map_some,Option.some.injEq] at hMk
      simp [execOp,Instr.lookup,run_underlying ht,hx,hy,GP ho,hk.check,h1,hMk]
theorem findIdx_set {l:List (κ × Value)} {j:Nat} {q:κ × Value} (hj:j<l.length) (hq:q.1=l[j].1) (k':κ):(l.set j q).findIdx? (fun x=>k' == x.1)=l.findIdx? (fun x=>k' == x.1):=by
  induction l generalizing j with
  | nil=>simp at hj
  | cons a l ih=>
    cases j with
    | zero=>
      simp only [List.getElem_cons_zero] at hq
      rw [List.set_cons_zero,List.findIdx?_cons,List.findIdx?_cons,hq]
    | succ j=>
      simp only [List.length_cons,Nat.add_lt_add_iff_right] at hj
      simp only [List.getElem_cons_succ] at hq
      rw [List.set_cons_succ,List.findIdx?_cons,List.findIdx?_cons,ih hj hq]
variable [LawfulBEq κ]
theorem mfind_push {l:List (κ × Value)} {k:κ} {v:Value} (hn:l.findIdx? (fun x=>k == x.1)=none) (k':κ):VC (l++[(k,v)]) k'=if k' == k then some v else VC l k':=by
  unfold VC
  rw [List.findIdx?_append]
  by_cases e:k' == k
  · have e':k'=k:=by simpa using e
    subst e'
    rw [hn];simp
  · rw [if_neg e]
    cases hf:l.findIdx? (fun x=>k' == x.1) with
    | none=>simp [e]
    | some j=>
      obtain ⟨hjl,_⟩:=List.findIdx?_eq_some_iff_getElem.1 hf
      simp [List.getElem?_append_left hjl]
theorem mfind_set {l:List (κ × Value)} {k:κ} {v:Value} {j:Nat} (hf:l.findIdx? (fun x=>k == x.1)=some j) {q:κ} (hq:∀ h:j<l.length,q=l[j].1) (k':κ):VC (l.set j (q,v)) k'=if k' == k then some v else VC l k':=by
  obtain ⟨hjl,h1,h2⟩:=List.findIdx?_eq_some_iff_getElem.1 hf
  have hk:k=l[j].1:=by simpa using h1
  unfold VC
  rw [findIdx_set hjl (hq hjl)]
  by_cases e:k' == k
  · have e':k'=k:=by simpa using e
    subst e'
    rw [hf,if_pos e];simp [hjl]
  · rw [if_neg e]
    cases hg:l.findIdx? (fun x=>k' == x.1) with
    | none=>rfl
    | some i=>
      have hij:i≠j:=fun hij=>by
        subst hij
        obtain ⟨_,h3,_⟩:=List.findIdx?_eq_some_iff_getElem.1 hg
        have:k'=l[i].1:=by simpa using h3
        exact e (by rw [this,← hk];simp)
      simp [List.getElem?_set,Ne.symm hij]
theorem o_updV {t kt et:TypeId} {k:κ} {a:α} (ht:P.underlying t=some (.map kt et)) (hk:KeyT P kt enc) (hx:CP F x = .map (some r)) (hy:CP F y=enc k) (hv:CP F z=venc a) (hm:TO enc venc w r M) (hr:r∈B) (s:St w0 O0 w B)
    (h:∀ w',St w0 O0 w' B→Mv B w B w'→Keep [r] w w'→TO enc venc w' r (upM M k a)→K undef w'):DD P (.mapUpdate t x y z) ty F w K Z:=by
  obtain ⟨es,c,l,ho,he,hM⟩:=hm
  have h1:=hk.find k l es.toList w he
  cases hj:l.findIdx? (fun x=>k == x.1) with
  | none=>
    rw [hj] at h1
    have h2:Keep [r] w (w.putObj r (.map (es.push { key:=enc k,val:=venc a,born:=c }) (c+1))):=Keep.putObj _ _ _
    refine QI (w':=w.putObj r (.map (es.push { key:=enc k,val:=venc a,born:=c }) (c+1))) ?_ (h _ (s.keepB h2 (by simpa using hr)) (Mv.keepB h2 (by simpa using hr)) h2 ⟨_,_,l++[(k,venc a)],ho.putObj _,by simp [he],fun k'=>?_⟩)
    · simp [execOp,Instr.mapUpdate,run_underlying ht,hx,hy,hv,GP ho,hk.check,h1,OL _ ho]
    · rw [mfind_push hj];unfold upM;split
      · rfl
      · exact hM k'
  | some j=>
    rw [hj] at h1
    obtain ⟨hjl,hj1,_⟩:=List.findIdx?_eq_some_iff_getElem.1 hj
    have hkj:k=l[j].1:=by simpa using hj1
    have hel:es.toList.length=l.length:=by have:=congrArg List.length he;simpa using this
    have hje:j<es.size:=by simpa using (by omega:j<es.toList.length)
    have hkey:es[j].key=enc k∧es[j].val=l[j].2:=by
      have:=congrArg (·[j]?) he
      simp only [List.getElem?_map] at this
      rw [List.getElem?_eq_getElem hjl,List.getElem?_eq_getElem (by omega:j<es.toList.length)] at this
      simp only [Option.map_some,Option.some.injEq,Prod.mk.injEq] at this
      rw [hkj]
      exact ⟨by simpa using this.1,by simpa using this.2⟩
    have hst:(Instr.keyThatStays (enc k) (enc k)).run P w = .ok (enc k) w:=by unfold Instr.keyThatStays;rw [if_pos (hk.same k)];rfl
    rw [Option.bind_some,List.getElem?_eq_getElem hjl,Option.map_some] at h1
    have h2:Keep [r] w (w.putObj r (.map (es.modify j fun e=>{ e with key:=enc k,val:=venc a }) c)):=Keep.putObj _ _ _
    refine QI (w':=w.putObj r (.map (es.modify j fun e=>{ e with key:=enc k,val:=venc a }) c)) ?_ (h _ (s.keepB h2 (by simpa using hr)) (Mv.keepB h2 (by simpa using hr)) h2 ⟨_,_,l.set j (k,venc a),ho.putObj _,?_,fun k'=>?_⟩)
    · simp [execOp,Instr.mapUpdate,run_underlying ht,hx,hy,hv,GP ho,hk.check,h1,OL _ ho,hje,hkey.1,hst]
    · apply List.ext_getElem?
      intro i
      have hi:=congrArg (·[i]?) he
      simp only [List.getElem?_map,Array.getElem?_toList] at hi
      simp only [List.getElem?_map,Array.getElem?_toList,Array.getElem?_modify,List.getElem?_set]
      by_cases hij:j=i
      · subst hij
        simp [hje,hjl]
      · rw [if_neg hij,if_neg hij];exact hi
    · rw [mfind_set hj (q:=k) (fun _=>hkj)];unfold upM;split
      · rfl
      · exact hM k'
end
section
variable {κ:Type} [BEq κ] [LawfulBEq κ]
end
end
open Go.RowKit
section
variable {P:Program} {n:Nat} {Q:Exit→Fr→World→Prop}
def MX (op:Op) (F:Fr):Option Value:=
  match op with
  | .extract x i=>(match CP F x with | .tuple vs=>vs[i]? | _=>none)
  | .move x=>some (CP F x)
  | .assign x=>some (CP F x)
  | _=>none
def UJ (op:Op) (d:Tmp):Bool:=
  match op with
  | .extract (.tmp s) _=>!Nat.beq s d
  | .move (.tmp s)=>!Nat.beq s d
  | .assign (.tmp s)=>!Nat.beq s d
  | .assign (.const _)=>true
  | _=>false
theorem opw_pure {op:Op} {d:Tmp} {ty:TypeId} {F:Fr} {w:World} {K:Value→World→Prop} {Z:List PanicEntry→World→Prop} (hp:UJ op d=true) (h:DD P op ty F w K Z):∃ v,MX op F=some v∧K v w:=by
  unfold UJ at hp
  split at hp
  · rename_i s i
    unfold DD at h
    have e:CP F (.tmp s)=F s:=rfl
    simp only [execOp,e] at h
    unfold MX
    simp only [e]
    cases hF:F s with
    | tuple vs=>
      rw [hF] at h
      cases hv:vs[i]? with
      | some v=>refine ⟨v,hv,?_⟩;simpa [Instr.extract,hv,HA] using h
      | none=>exfalso;simp [Instr.extract,hv,HA] at h
    | _=>exfalso;rw [hF] at h;simp [Instr.extract,HA] at h
  · unfold DD at h;simp only [execOp] at h;exact ⟨_,rfl,by simpa [HA] using h⟩
  · unfold DD at h;simp only [execOp] at h;exact ⟨_,rfl,by simpa [HA] using h⟩
  · unfold DD at h;simp only [execOp] at h;exact ⟨_,rfl,by simpa [HA] using h⟩
  · cases hp
theorem VI {op:Op} {v:Value} {ty:TypeId} {F:Fr} {w:World} {K:Value→World→Prop} {Z:List PanicEntry→World→Prop} (hv:MX op F=some v) (h:K v w):DD P op ty F w K Z:=by
  unfold MX at hv
  split at hv
  · split at hv
    · rename_i vs e;exact AL (vs:=vs) v e hv h
    · cases hv
  · exact AD v (Option.some.inj hv) h
  · exact AE v (Option.some.inj hv) h
  · cases hv
def exOk (ops:List Oper) (a b:Nat):Bool:=
  match ops[a]?,ops[b]? with
  | some oa,some ob=>oa.guard.isNone && ob.guard.isNone && (match oa.dst,ob.dst with
    | some da,some db=>!Nat.beq da db && UJ oa.op db && UJ ob.op da
    | _,_=>false)
  | _,_=>false
theorem MU {a b:Nat} (h:(!Nat.beq a b)=true):a≠b:=fun e=>by subst e;simp at h
theorem beq_ne {a b:Nat} (h:a≠b):Nat.beq a b=false:=by
  cases e:Nat.beq a b with
  | false=>rfl
  | true=>exact absurd (Nat.eq_of_beq_eq_true e) h
theorem upd_other {F:Fr} {d t:Nat} {v:Value} (h:t≠d):DE F d v t=F t:=by
  unfold DE;rw [beq_ne h];rfl
theorem PU {F:Fr} {a b:Nat} {v u:Value} (h:a≠b):DE (DE F a v) b u=DE (DE F b u) a v:=by
  funext t
  unfold DE
  cases e1:Nat.beq t a with
  | false=>cases e2:Nat.beq t b <;> rfl
  | true=>
    have h1:=Nat.eq_of_beq_eq_true e1
    subst h1
    rw [beq_ne h];rfl
theorem UY {op:Op} {d:Tmp} {F:Fr} {u:Value} (hp:UJ op d=true):MX op (DE F d u)=MX op F:=by
  unfold UJ at hp
  unfold MX
  have e:∀ s:Tmp,(!Nat.beq s d)=true→CP (DE F d u) (.tmp s)=CP F (.tmp s):=fun s hs=>upd_other (MU hs)
  split at hp
  · simp only [e _ hp]
  · simp only [e _ hp]
  · simp only [e _ hp]
  · rfl
  · cases hp
theorem wl_swap {ops:List Oper} {a b:Nat} {oa ob:Oper} {rest:List Oper} {F:Fr} {w:World} (hx:exOk ops a b=true) (ha:ops[a]? = some oa) (hb:ops[b]? = some ob) (h:WL false P ops Q (oa :: ob :: rest) F w):WL false P ops Q (ob :: oa :: rest) F w:=by
  unfold exOk at hx
  rw [ha,hb] at hx
  obtain ⟨d1,p1,t1,q1,f1,g1⟩:=oa
  obtain ⟨d2,p2,t2,q2,f2,g2⟩:=ob
  simp only [Bool.and_eq_true] at hx
  obtain ⟨⟨h1,h2⟩,h3⟩:=hx
  cases g1 with
  | some _=>simp at h1
  | none=>
  cases g2 with
  | some _=>simp at h2
  | none=>
  cases d1 with
  | none=>simp at h3
  | some da=>
  cases d2 with
  | none=>simp at h3
  | some db=>
    simp only [Bool.and_eq_true] at h3
    obtain ⟨⟨h3,h4⟩,h5⟩:=h3
    have n1:=MU h3
    unfold WL at h
    rw [if_pos (by rfl)] at h
    obtain ⟨v,hv,h⟩:=opw_pure h4 (h.resolve_right (fun e=>by cases e.1))
    unfold WL at h
    rw [if_pos (by rfl)] at h
    obtain ⟨x,hxv,h⟩:=opw_pure h5 (h.resolve_right (fun e=>by cases e.1))
    have hxv':MX p2 F=some x:=(UY (F:=F) (u:=v) h5).symm.trans hxv
    unfold WL
    rw [if_pos (by rfl)]
    refine .inl (VI hxv' ?_)
    unfold WL
    rw [if_pos (by rfl)]
    refine .inl (VI (v:=v) ((UY (F:=F) (u:=x) h4).trans hv) ?_)
    have e:GY (GY F (some db) x) (some da) v=GY (GY F (some da) v) (some db) x:=(PU (F:=F) (v:=v) (u:=x) n1).symm
    rw [e];exact h
def ON (ops:List Oper):Nat→List Nat→Bool
  | _,[]=>true
  | 0,_=>false
  | _+1,[a]=>(JC ops a).all fun j=>!Nat.beq j a
  | f+1,a :: b :: t=>(JC ops a).all (fun j=>!(a :: b :: t).contains j) && t.all (fun x=>EU ops x a) && ON ops f (b :: t) &&
      (EU ops b a || (exOk ops a b && (JC ops b).all (fun j=>!(a :: b :: t).contains j) && ON ops f (a :: t)))
theorem run_step {ops:List Oper} (hok:ops.all (RC n ops)=true) {i fuel:Nat} {listed:Array Bool} {F1:Fr} {w1:World} {rest:List Oper} (hil:i<ops.length) (h:WL false P ops Q (ops[i] :: rest) F1 w1)
    (ih:∀ F w,WL false P ops Q rest F w→wpAny P .any ops.toArray (KV n Q) fuel (listed.setIfInBounds i true) (mk n F) w):wpOp P ops.toArray (KV n Q) i (wpAny P .any ops.toArray (KV n Q) fuel (listed.setIfInBounds i true)) (mk n F1) w1:=by
  have ho:ops[i]? = some ops[i]:=List.getElem?_eq_getElem hil
  refine OQ (K:=fun F w=>WL false P ops Q rest F w) hok ho ih (fun hw=>?_) (fun hw=>?_)
  · unfold WL at h;rw [if_pos hw] at h;exact h.resolve_right (fun e=>by cases e.1)
  · unfold WL at h;rw [if_neg (by rw [hw];simp)] at h;exact h
theorem MZ {ops:List Oper} {i:Nat} {t:List Nat} (hil:i<ops.length):FY ops (i :: t)=ops[i] :: FY ops t:=by
  unfold FY;rw [List.filterMap_cons,List.getElem?_eq_getElem hil]
theorem forced_runC {ops:List Oper} (hok:ops.all (RC n ops)=true) (hin:∀ k,k<ops.length→∀ j∈JC ops k,j<ops.length):∀ (g:Nat) (seq:List Nat) (fuel:Nat) (listed:Array Bool) (F1:Fr) (w1:World),listed.size=ops.length→PD ops listed≤fuel→
    (∀ j,j<ops.length→(listed[j]? = some true↔j∉seq))→(∀ j∈seq,j<ops.length)→seq.Nodup→ON ops g seq=true→(∀ i,listed[i]? = some true→∀ j∈JC ops i,listed[j]? = some true)→
    WL false P ops Q (FY ops seq) F1 w1→wpAny P .any ops.toArray (KV n Q) fuel listed (mk n F1) w1:=by
  intro g
  induction g with
  | zero=>
    intro seq fuel listed F1 w1 hsz hfu hl hlt hnd hf hdown h
    cases seq with
    | nil=>exact IH hok hin [] fuel listed F1 w1 hsz hfu hl hlt hnd rfl hdown h
    | cons a t=>cases t <;> simp [ON] at hf
  | succ g ihg=>
    intro seq fuel listed F1 w1 hsz hfu hl hlt hnd hf hdown h
    match seq,hl,hlt,hnd,hf,h with
    | [],hl,hlt,hnd,hf,h=>exact IH hok hin [] fuel listed F1 w1 hsz hfu hl hlt hnd rfl hdown h
    | [a],hl,hlt,hnd,hf,h=>
      refine IH hok hin [a] fuel listed F1 w1 hsz hfu hl hlt hnd ?_ hdown h
      unfold ON at hf
      unfold OS OS
      simp only [List.all_nil,Bool.true_and,Bool.and_true]
      refine List.all_eq_true.2 fun j hj=>?_
      have:=MU (List.all_eq_true.1 hf j hj)
      simpa using this
    | a :: b :: t,hl,hlt,hnd,hf,h=>
      unfold ON at hf
      simp only [Bool.and_eq_true] at hf
      obtain ⟨⟨⟨f1,f2⟩,f3⟩,f4⟩:=hf
      have ha:a<ops.length:=hlt a (by simp)
      have hb:b<ops.length:=hlt b (by simp)
      obtain ⟨hat,hnd'⟩:=List.nodup_cons.1 hnd
      obtain ⟨hbt,hnd''⟩:=List.nodup_cons.1 hnd'
      have hunl:∀ q,q<ops.length→q∈a :: b :: t→listed[q]? = some false:=fun q hq hm=>by
        have h1:¬ listed[q]? = some true:=fun e=>((hl q hq).1 e) hm
        have:q<listed.size:=by omega
        rw [Array.getElem?_eq_getElem this] at h1 ⊢
        simpa using h1
      have han:=hunl a ha (by simp)
      have hbn:=hunl b hb (by simp)
      have hula:=KY ha hsz han
      have hulb:=KY hb hsz hbn
      obtain ⟨fuel,rfl⟩:∃ f,fuel=f+1:=⟨fuel - 1,by omega⟩
      have haq:∀ j∈JC ops a,listed[j]? = some true:=fun j hj=>by
        have h1:=List.all_eq_true.1 f1 j hj
        exact (hl j (hin a ha j hj)).2 (by simpa using h1)
      have hset:∀ i,i<ops.length→∀ j,(listed.setIfInBounds i true)[j]? = some true↔j=i∨listed[j]? = some true:=fun i hi j=>by
        rw [Array.getElem?_setIfInBounds]
        by_cases hji:i=j
        · subst hji;simp;omega
        · rw [if_neg hji];exact ⟨fun h=>.inr h,fun h=>h.resolve_left (fun e=>hji e.symm)⟩
      refine ⟨fun h0=>?_,fun i hi=>?_⟩
      · have:=ready_of' hsz ha han haq
        rw [h0] at this;cases this
      · obtain ⟨hnl,hil⟩:=LQ hi hsz
        have hmem:i∈a :: b :: t:=Classical.byContradiction fun hc=>by have:=(hl i hil).2 hc;rw [hnl] at this;cases this
        have hready:=IM (List.getElem?_eq_getElem hil) hi hsz (hin i hil)
        have hwait:∀ q,EU ops i q=true→listed[q]? = some true:=fun q hq=>by
          unfold EU at hq
          exact IW (D:=fun j=>listed[j]? = some true) hdown _ _ hready q (by simpa using hq)
        rcases List.mem_cons.1 hmem with rfl|hmem
        · rw [MZ ha] at h
          refine run_step hok ha h fun F w hK=>ihg (b :: t) fuel _ F w (by simpa using hsz) (by omega) (fun j hj=>?_) (fun j hj=>hlt j (List.mem_cons_of_mem _ hj)) hnd' f3 (fun j hj x hx=>?_) hK
          · rw [hset i ha j,hl j hj]
            constructor
            · rintro (rfl|h1)
              · exact hat
              · exact fun h2=>h1 (List.mem_cons_of_mem _ h2)
            · intro h1
              by_cases hji:j=i
              · exact .inl hji
              · exact .inr fun h2=>by rcases List.mem_cons.1 h2 with h3|h3;exact hji h3;exact h1 h3
          · rw [hset i ha x]
            rcases (hset i ha j).1 hj with h1|h1
            · subst h1;exact .inr (haq x hx)
            · exact .inr (hdown j h1 x hx)
        · rcases List.mem_cons.1 hmem with rfl|hmem
          · -- the second comes first
            simp only [Bool.or_eq_true,Bool.and_eq_true] at f4
            rcases f4 with f4|⟨⟨f4,f5⟩,f6⟩
            · have:=hwait a f4;rw [han] at this;cases this
            · rw [MZ ha,MZ hb] at h
              have h':=wl_swap f4 (List.getElem?_eq_getElem ha) (List.getElem?_eq_getElem hb) h
              rw [← MZ (t:=t) ha] at h'
              refine run_step hok hb h' fun F w hK=>ihg (a :: t) fuel _ F w (by simpa using hsz) (by omega) (fun j hj=>?_) (fun j hj=>hlt j (by rcases List.mem_cons.1 hj with h1|h1;exact h1 ▸ List.mem_cons_self;exact List.mem_cons_of_mem _ (List.mem_cons_of_mem _ h1))) (List.nodup_cons.2 ⟨fun h2=>hat (List.mem_cons_of_mem _ h2),hnd''⟩) f6 (fun j hj x hx=>?_) hK
              · rw [hset i hb j,hl j hj]
                constructor
                · rintro (rfl|h1)
                  · intro h2
                    rcases List.mem_cons.1 h2 with h3|h3
                    · exact hat (h3 ▸ List.mem_cons_self)
                    · exact hbt h3
                  · intro h2
                    apply h1
                    rcases List.mem_cons.1 h2 with h3|h3
                    · rw [h3];exact List.mem_cons_self
                    · exact List.mem_cons_of_mem _ (List.mem_cons_of_mem _ h3)
                · intro h1
                  by_cases hji:j=i
                  · exact .inl hji
                  · refine .inr fun h2=>?_
                    rcases List.mem_cons.1 h2 with h3|h3
                    · exact h1 (h3 ▸ List.mem_cons_self)
                    · rcases List.mem_cons.1 h3 with h4|h4
                      · exact hji h4
                      · exact h1 (List.mem_cons_of_mem _ h4)
              · rw [hset i hb x]
                rcases (hset i hb j).1 hj with h1|h1
                · subst h1
                  have h5:=List.all_eq_true.1 f5 x hx
                  exact .inr ((hl x (hin j hb x hx)).2 (by simpa using h5))
                · exact .inr (hdown j h1 x hx)
          · have:=hwait a (List.all_eq_true.1 f2 i hmem)
            rw [han] at this;cases this
def drawOkC (ops:List Oper) (m:Nat):Bool:=
  (List.range m).all (fun i=>(List.range m).all fun j=>Nat.beq i j || (match (ops[i]?).bind (·.dst),(ops[j]?).bind (·.dst) with|some a,some b=>!Nat.beq a b | _,_=>true)) &&
  ((List.range ops.length).drop m).all (fun k=>(List.range m).all fun j=>EU ops k j) &&
  (List.range ops.length).all (fun k=>(JC ops k).all fun j=>Nat.blt j k) && Nat.ble m ops.length && ON ops ops.length ((List.range ops.length).drop m)
end
open Go.RowKit
section
variable {P:Program} {n:Nat} {Q:Exit→Fr→World→Prop}
theorem SH {ρ σ:Operand→Value} (o:Oper) (h2:(match o.op with | .select ..=>false | _=>true)=true) (key:∀ x∈o.op.operands.toList,ρ x=σ x):execOp ρ o=execOp σ o:=by
  have keyA:∀ (xs:Array Operand),(∀ x∈xs.toList,x∈o.op.operands.toList)→xs.map ρ=xs.map σ:=fun xs hx=>
    Array.map_congr_left fun x hm=>key x (hx x (by simpa using hm))
  have keyO:∀ (x:Option Operand),(∀ y,x=some y→y∈o.op.operands.toList)→x.map ρ=x.map σ:=fun x hx=>by
    cases x with
    | none=>rfl
    | some y=>simp [key y (hx y rfl)]
  obtain ⟨d,op,ty,pos,after,g⟩:=o
  simp only at key keyA keyO
  have call:∀ (c:Call),c.operands=op.operands→(∀ t,resolve ρ c t=resolve σ c t):=fun c hc t=>by
    obtain ⟨callee,args,ats⟩:=c
    have ha:args.map ρ=args.map σ:=keyA args (fun x hx=>by rw [← hc];simp [Call.operands];exact .inr (by simpa using hx))
    unfold resolve
    simp only [ha]
    cases callee with
    | value f=>simp only [key f (by rw [← hc];simp [Call.operands])]
    | invoke r m=>simp only [key r (by rw [← hc];simp [Call.operands])]
    | builtin b=>rfl
  cases op with
  | select cs b=>simp at h2
  | build t ps=>
    simp only [execOp]
    have:ps.map (fun p=>(p.1,ρ p.2))=ps.map (fun p=>(p.1,σ p.2)):=Array.map_congr_left fun p hp=>by rw [key p.2 (by have hp:p∈ps.toList:=(by simpa using hp);simp only [Op.operands,List.mem_map];exact ⟨p,hp,rfl⟩)]
    rw [this]
  | buildSlice t len ps=>
    simp only [execOp]
    have:ps.map (fun p=>(p.1,ρ p.2))=ps.map (fun p=>(p.1,σ p.2)):=Array.map_congr_left fun p hp=>by rw [key p.2 (by have hp:p∈ps.toList:=(by simpa using hp);simp only [Op.operands,List.mem_map];exact ⟨p,hp,rfl⟩)]
    rw [this]
  | call c=>simp only [execOp,call c rfl]
  | go c=>simp only [execOp,call c rfl]
  | defer c=>simp only [execOp,call c rfl]
  | makeFunc fn first captured=>
    simp only [execOp]
    rw [keyA first (fun x hx=>by simp [Op.operands];exact .inl (by simpa using hx)),keyA captured (fun x hx=>by simp [Op.operands];exact .inr (by simpa using hx))]
  | makeMap t r=>
    simp only [execOp]
    rw [keyO r (fun y hy=>by subst hy;simp [Op.operands])]
  | slice t x lo hi mx=>
    simp only [execOp]
    rw [key x (by simp [Op.operands]),keyO lo (fun y hy=>by subst hy;simp [Op.operands]),keyO hi (fun y hy=>by subst hy;simp [Op.operands]),keyO mx (fun y hy=>by subst hy;simp [Op.operands])]
  | alloc t=>rfl
  | ready g=>rfl
  | waits g=>rfl
  | move x|assign x|box _ x|load _ x|nilCheck x|unOp _ _ x|convert _ _ x|sliceToArrayPointer _ x|makeInterface _ x|makeChan _ x|fieldAddr _ x _|field _ x _|range _ x|next x _|entry x|typeAssert x _ _ _|extract x _|panic x|recv _ x _=>
    simp only [execOp,key x (by simp [Op.operands])]
  | pick c a b=>simp only [execOp,key c (by simp [Op.operands]),key a (by simp [Op.operands]),key b (by simp [Op.operands])]
  | store _ a v|binOp _ _ a v _|makeSlice _ a v|indexAddr _ a v|index _ a v|lookup _ a v _|mapEntry _ a v|send a v=>
    simp only [execOp,key a (by simp [Op.operands]),key v (by simp [Op.operands])]
  | mapUpdate _ m k v|entryStore _ m k v|insert _ m k v=>
    simp only [execOp,key m (by simp [Op.operands]),key k (by simp [Op.operands]),key v (by simp [Op.operands])]
theorem DJ {op:Op} {ty:TypeId} {F:Fr} {w:World} {K K':Value→World→Prop} {Z Z':List PanicEntry→World→Prop} (h:DD P op ty F w K Z) (hk:∀ v w',K v w'→K' v w') (hz:∀ c w',Z c w'→Z' c w'):DD P op ty F w K' Z':=by
  unfold DD at h ⊢
  generalize (execOp (CP F) ⟨none,op,ty,"",#[],none⟩).run P w=r at h ⊢
  cases r with
  | ok x w'=>
    cases x <;> simp only [HA] at h ⊢ <;> try exact h.elim
    case value v=>exact hk _ _ h
    case skip=>exact hk _ _ h
    case enter f args=>
      exact Calls.mono h fun e w'' he=>by
        cases e with
        | returned v=>exact hk _ _ he
        | panicked c=>exact hz _ _ he
        | outgrown=>exact he.elim
  | halt x w'=>
    cases x <;> simp only [HA] at h ⊢ <;> try exact h.elim
    case panic v=>exact hz _ _ h
theorem GJ {fn:Func} {R:Ending→World→Prop}:∀ (c:List PanicEntry) (F:Fr) (d:Tmp) (v:Value) (w:World),d<n→(WV P fn n R (.panic c) (DE F d v) w↔WV P fn n R (.panic c) F w):=fun c F d v w hd=>by
  show (VQ (DE F d v n)=[]∧_)↔(VQ (F n)=[]∧_);rw [HG F d v (Nat.ne_of_gt hd)]
end
variable {P:Program} {ro:Option Nat} {n:Nat} {Q:Exit→Fr→World→Prop} {F:Fr} {w:World}
theorem OH {x y:Code} (I:Fr→World→Prop) (h1:CW P (ro:=ro) n x (GI I Q) F w) (h2:∀ F w,I F w→CW P (ro:=ro) n y Q F w):CW P (ro:=ro) n (.seq x y) Q F w:=
  AF (wpIn_mono h1 fun e _ _ ⟨F,ha,hQ⟩=>⟨F,ha,by cases e <;> first|exact h2 _ _ hQ|exact hQ⟩)
open Go.RowKit
section
variable {P:Program} {ro:Option Nat} {n:Nat} {Q:Exit→Fr→World→Prop} {F:Fr} {w:World}
end
section
variable {P:Program}
theorem wl_yT {ops rest:List Oper} {Q:Exit→Fr→World→Prop} {F:Fr} {w:World} {d:Tmp} {ty:TypeId} {pos:String} {af:Array Edge} {xf:Operand} {xs:List Operand} {ats:Array TypeId} {j:Nat} {b:Bool} (hg:CH ops F j=some b) (l:Nat) (vs:List Value)
    (hf:CP F xf = .func (.yield l) #[] #[]) (hv:xs.map (CP F)=vs) (hy:MV P l vs w (fun v w'=>WL true P ops Q rest (DE F d v) w')) :
    WL true P ops Q (⟨some d, .call { callee:=.value xf,args:=xs.toArray,argTypes:=ats },ty,pos,af,some (j,b)⟩ :: rest) F w:=by
  unfold WL
  rw [if_pos (by simp [Region.wanted,hg])]
  refine .inr ⟨rfl,?_⟩
  unfold RoundW
  obtain ⟨fn,tmps,assign,body,h1,h2⟩:=hy
  have:(execOp (CP F) ⟨none, .call { callee:=.value xf,args:=xs.toArray,argTypes:=ats },ty,"",#[],none⟩).run P w = .ok (.round l fn tmps assign body) w:=by
    simp [execOp,resolve,Deferred.ofValue,invoke,hf,hv,h1]
  rw [this]
  exact h2.mono fun e w' ⟨v,he,hk⟩=>by subst he;exact hk
end
section
variable {P:Program} {t yt ty:TypeId} {x y:Operand} {F:Fr} {w:World} {K:Value→World→Prop} {Z:List PanicEntry→World→Prop}
end
def Enc.cells (n:Nat):Enc (List Value) where
  size:=n
  rd:=fun _ _ cs x=>cs=x∧x.length=n∧∀ u∈x,u.oneCell'=true
  len:=fun h=>h.1 ▸ h.2.1
  one:=fun h u hu=>h.2.2 u (h.1 ▸ hu)
  mv:=fun h _=>h
  sub:=fun h _=>h
open Go.RowKit
def vOp (op:Op):Bool:=
  match op with
  | .move _ | .assign _ | .pick .. | .nilCheck _ | .load .. | .binOp .. | .unOp .. | .convert .. | .slice .. | .fieldAddr .. | .field .. | .indexAddr .. | .index .. | .extract ..=>true
  | .call c=>(match c.callee with | .builtin .len=>true | _=>false)
  | _=>false
theorem VX {P:Program} {o:Oper} (h:vOp o.op=true) {ρ:Operand→Value} {w w':World} {r:Next} (e:(execOp ρ o).run P w = .ok r w'):∃ v,r = .value v:=by
  have key:∀ (s:Sem Value),(do pure (Next.value (← s)):Sem Next).run P w = .ok r w'→∃ v,r = .value v:=fun s e=>by
    simp only [Sem.run_bind] at e
    cases hs:s.run P w with
    | ok x w2=>rw [hs] at e;simp only [Result.andThen_ok,Sem.run_pure] at e;cases e;exact ⟨_,rfl⟩
    | halt x w2=>rw [hs] at e;cases e
  obtain ⟨d,op,ty,pos,af,g⟩:=o
  have h:vOp op=true:=h
  cases op with
  | move x=>simp only [execOp,Sem.run_pure] at e;cases e;exact ⟨_,rfl⟩
  | assign x=>simp only [execOp,Sem.run_pure] at e;cases e;exact ⟨_,rfl⟩
  | pick c a b=>
    refine key (do pure (if ← asBool (ρ c) then ρ a else ρ b)) ?_
    rw [← e]
    simp only [execOp,Sem.run_bind]
    cases (asBool (ρ c)).run P w <;> rfl
  | call c=>
    unfold vOp at h
    simp only at h
    split at h
    · rename_i hc
      simp only [execOp,resolve,invoke,hc,Sem.run_bind,Sem.run_pure,Result.andThen_ok,builtin] at e
      exact key (Builtin.len_ c.argTypes ty (Array.map ρ c.args)) (by simp only [Sem.run_bind,Sem.run_pure];exact e)
    · cases h
  | nilCheck x=>
    revert e
    show (execOp ρ ⟨d, .nilCheck x,ty,pos,af,g⟩).run P w = .ok r w'→_
    have hb:∀ {α:Type} (s:Sem α) (f:α→Sem Next),(∀ a w r w',(f a).run P w = .ok r w'→∃ v,r = .value v)→∀ w r w',(s >>= f).run P w = .ok r w'→∃ v,r = .value v:=fun s f hf w r w' e=>by
      simp only [Sem.run_bind] at e
      cases hs:s.run P w with
      | ok x w2=>rw [hs] at e;simp only [Result.andThen_ok] at e;exact hf x _ _ _ e
      | halt x w2=>rw [hs] at e;cases e
    have hp:∀ (v:Value) w r w',(pure (Next.value v):Sem Next).run P w = .ok r w'→∃ v,r = .value v:=fun v w r w' e=>by
      simp only [Sem.run_pure] at e;cases e;exact ⟨_,rfl⟩
    have hh:∀ (c:Halt) w r w',(Sem.halt c:Sem Next).run P w = .ok r w'→∃ v,r = .value v:=fun c w r w' e=>by cases e
    have hr:∀ w r w',(runtimePanic .nilDeref:Sem Next).run P w = .ok r w'→∃ v,r = .value v:=by
      unfold runtimePanic
      exact hb _ _ fun p w r w' e=>by cases e
    simp only [execOp]
    split
    all_goals first
      | exact hr _ _ _
      | exact hp _ _ _ _
      | (split <;> first
          | exact hr _ _ _
          | exact hp _ _ _ _
          | (refine hb _ _ (fun q=>hb _ _ (fun q2=>?_)) _ _ _;first|exact hp _|(split <;> first|exact hp _|(refine hb _ _ (fun q3=>?_);exact hp _)))
          )
  | _=>first|exact key _ e|(exfalso;simp [vOp] at h)
def WP (P:Program) (ops:List Oper) (w0:World) (R:Fr→Prop):List Oper→Fr→World→Prop
  | [],F,w=>w=w0∧R F
  | o :: rest,F,w=>w=w0∧if Region.wanted o (CH ops F)=true then DD P o.op o.type F w (fun v w'=>WP P ops w0 R rest (GY F o.dst v) w') (fun _ _=>False) else WP P ops w0 R rest (GY F o.dst undef) w
section
variable {P:Program} {ops rest:List Oper} {w0:World} {R:Fr→Prop} {F:Fr} {d:Tmp} {op:Op} {ty:TypeId} {pos:String} {af:Array Edge} {j:Nat} {b:Bool}
theorem EQ (h:R F):WP P ops w0 R [] F w0:=⟨rfl,h⟩
theorem BG (h:DD P op ty F w0 (fun v w'=>WP P ops w0 R rest (DE F d v) w') (fun _ _=>False)):WP P ops w0 R (⟨some d,op,ty,pos,af,none⟩ :: rest) F w0:=by
  unfold WP;refine ⟨rfl,?_⟩;rw [if_pos (show Region.wanted _ _=true from rfl)];exact h
theorem DS (hy:CH ops F j=some b) (h:DD P op ty F w0 (fun v w'=>WP P ops w0 R rest (DE F d v) w') (fun _ _=>False)):WP P ops w0 R (⟨some d,op,ty,pos,af,some (j,b)⟩ :: rest) F w0:=by
  unfold WP;refine ⟨rfl,?_⟩;rw [if_pos (by simp [Region.wanted,hy])];exact h
theorem RU (hy:CH ops F j=some (!b)) (h:WP P ops w0 R rest (DE F d undef) w0):WP P ops w0 R (⟨some d,op,ty,pos,af,some (j,b)⟩ :: rest) F w0:=by
  unfold WP;refine ⟨rfl,?_⟩;rw [if_neg (by cases b <;> simp [Region.wanted,hy])];exact h
end
def outP (P:Program) (ops:List Oper) (w0:World) (o:Oper) (F:Fr) (v:Value):Prop:=
  (Region.wanted o (CH ops F)=true∧(execOp (CP F) ⟨none,o.op,o.type,"",#[],none⟩).run P w0 = .ok (.value v) w0)∨(Region.wanted o (CH ops F)=false∧v=undef)
def RunP (P:Program) (ops:List Oper) (w0:World):List Oper→Fr→Fr→Prop
  | [],F,Fe=>Fe=F
  | o :: rest,F,Fe=>∃ v,outP P ops w0 o F v∧RunP P ops w0 rest (GY F o.dst v) Fe
theorem WP.world {P:Program} {ops l:List Oper} {w0 w:World} {R:Fr→Prop} {F:Fr} (h:WP P ops w0 R l F w):w=w0:=by
  cases l with
  | nil=>exact h.1
  | cons=>exact h.1
theorem WP.run {P:Program} {ops:List Oper} {w0:World} {R:Fr→Prop}:∀ (l:List Oper) (F:Fr),l.all (fun o=>vOp o.op)=true→WP P ops w0 R l F w0→∃ Fe,RunP P ops w0 l F Fe∧R Fe
  | [],F,_,h=>⟨F,rfl,h.2⟩
  | o :: rest,F,hv,h=>by
    simp only [List.all_cons,Bool.and_eq_true] at hv
    have h:=h.2
    by_cases hw:Region.wanted o (CH ops F)=true
    · rw [if_pos hw] at h
      unfold DD at h
      cases hr:(execOp (CP F) ⟨none,o.op,o.type,"",#[],none⟩).run P w0 with
      | ok r w'=>
        obtain ⟨v,rfl⟩:=VX (o:=⟨none,o.op,o.type,"",#[],none⟩) hv.1 hr
        rw [hr] at h
        have h:WP P ops w0 R rest (GY F o.dst v) w':=h
        have e:=h.world
        subst e
        obtain ⟨Fe,h1,h2⟩:=WP.run rest _ hv.2 h
        exact ⟨Fe,⟨v, .inl ⟨hw,hr⟩,h1⟩,h2⟩
      | halt x w'=>
        rw [hr] at h
        cases x <;> exact h.elim
    · rw [if_neg hw] at h
      obtain ⟨Fe,h1,h2⟩:=WP.run rest _ hv.2 h
      exact ⟨Fe,⟨undef, .inr ⟨by simpa using hw,rfl⟩,h1⟩,h2⟩
theorem run_at {P:Program} {ops:List Oper} {w0:World}:∀ (l:List Oper) (F Fe:Fr),RunP P ops w0 l F Fe→l.Pairwise (fun a b=>a.dst≠b.dst)→(∀ o∈l,o.dst≠none)→
    (∀ t,(∀ o∈l,o.dst≠some t)→Fe t=F t)∧∀ i (hi:i<l.length),∃ Fi,(∀ t,(∀ j (hj:j<l.length),j<i→l[j].dst≠some t)→Fi t=F t)∧(∀ t j (hj:j<l.length),j<i→l[j].dst=some t→Fi t=Fe t)∧∃ v,outP P ops w0 l[i] Fi v∧∀ d,l[i].dst=some d→Fe d=v
  | [],F,Fe,h,_,_=>⟨fun t _=>by rw [show Fe=F from h],fun i hi=>absurd hi (by simp)⟩
  | o :: rest,F,Fe,⟨v,hv,h⟩,hp,hn=>by
    obtain ⟨hp1,hp2⟩:=List.pairwise_cons.1 hp
    obtain ⟨a1,a2⟩:=run_at rest _ Fe h hp2 (fun x hx=>hn x (List.mem_cons_of_mem _ hx))
    cases hd:o.dst with
    | none=>exact absurd hd (hn o List.mem_cons_self)
    | some d=>
      rw [hd] at h a1 a2
      have hFd:Fe d=v:=by
        rw [a1 d (fun x hx e=>hp1 x hx (by rw [hd,e]))]
        show DE F d v d=v
        exact GS _ _ _
      refine ⟨fun t ht=>?_,fun i hi=>?_⟩
      · have hne:t≠d:=fun e=>ht o List.mem_cons_self (by rw [hd,e])
        rw [a1 t (fun x hx=>ht x (List.mem_cons_of_mem _ hx))]
        show DE F d v t=F t
        exact HG _ _ _ hne
      · cases i with
        | zero=>exact ⟨F,fun t _=>rfl,fun t j _ hj=>absurd hj (by omega),v,hv,fun d' hd'=>by rw [show o.dst=some d' from hd'] at hd;cases hd;exact hFd⟩
        | succ i=>
          obtain ⟨Fi,b1,b2,b3⟩:=a2 i (by simpa using hi)
          refine ⟨Fi,fun t ht=>?_,fun t j hj hji hjt=>?_,b3⟩
          · have hne:t≠d:=fun e=>ht 0 (by simp) (by omega) (by rw [e];exact hd)
            rw [b1 t (fun j hj hji=>ht (j+1) (by simp;omega) (by omega))]
            show DE F d v t=F t
            exact HG _ _ _ hne
          · cases j with
            | zero=>
              have hdt:some d=some t:=by rw [← hd];exact hjt
              cases hdt
              rw [b1 d (fun j hj hji e=>hp1 _ (List.getElem_mem hj) (by rw [hd,e])),hFd]
              show DE F d v d=v
              exact GS _ _ _
            | succ j=>exact b2 t j (by simpa using hj) (by omega) hjt
def MS (ops:List Oper) (o:Oper):List Nat:=
  o.op.operands.toList.filterMap (fun x=>match x with | .tmp t=>some t | _=>none)++(match o.guard with|some (g,_)=>((ops[g]?).bind (·.dst)).toList|none=>[])
def UE (ops:List Oper) (m:Nat):Bool:=
  (ops.take m).all (fun o=>vOp o.op && o.dst.isSome) &&
  (List.range m).all fun i=>match ops[i]? with
    | some o=>(MS ops o).all fun t=>(List.range m).all fun j=>match (ops[j]?).bind (·.dst) with
      | some d=>!Nat.beq d t || ((JC ops i).contains j && Nat.blt j i)
      | none=>true
    | none=>true
section
variable {P:Program} {n:Nat} {Q:Exit→Fr→World→Prop}
theorem pure_dep {ops:List Oper} {m:Nat} (h:UE ops m=true) {i:Nat} (hi:i<m) {o:Oper} (ho:ops[i]? = some o) {t:Nat} (ht:t∈MS ops o) {j:Nat} (hj:j<m) {oj:Oper} (hoj:ops[j]? = some oj) (hd:oj.dst=some t):j∈JC ops i∧j<i:=by
  unfold UE at h
  simp only [Bool.and_eq_true] at h
  have h1:=List.all_eq_true.1 h.2 i (by simpa using hi)
  rw [ho] at h1
  have h2:=List.all_eq_true.1 (List.all_eq_true.1 h1 t ht) j (by simpa using hj)
  rw [hoj] at h2
  simp only [Option.bind_some,hd,Bool.or_eq_true,Bool.and_eq_true] at h2
  rcases h2 with h2|⟨h2,h3⟩
  · exact absurd rfl (MU h2)
  · exact ⟨by simpa using h2,blt h3⟩
theorem out_agree {ops:List Oper} {w0:World} {o:Oper} {F F':Fr} {v:Value} (hv:vOp o.op=true) (h:outP P ops w0 o F v) (hl:∀ t∈MS ops o,F' t=F t):outP P ops w0 o F' v:=by
  have hw:Region.wanted o (CH ops F')=Region.wanted o (CH ops F):=by
    unfold Region.wanted
    cases hg:o.guard with
    | none=>rfl
    | some p=>
      obtain ⟨g,b⟩:=p
      simp only
      have:CH ops F' g=CH ops F g:=by
        unfold CH
        cases hd:(ops[g]?).bind (·.dst) with
        | none=>rfl
        | some d=>simp only;rw [hl d (by unfold MS;rw [hg];simp only [hd];simp)]
      rw [this]
  have he:execOp (CP F') ⟨none,o.op,o.type,"",#[],none⟩ = execOp (CP F) ⟨none,o.op,o.type,"",#[],none⟩:=by
    refine SH _ (by revert hv;unfold vOp;cases o.op <;> intro hv <;> first|rfl|cases hv) fun x hx=>?_
    cases x with
    | tmp t=>exact hl t (by unfold MS;exact List.mem_append_left _ (List.mem_filterMap.2 ⟨.tmp t,hx,rfl⟩))
    | _=>rfl
  unfold outP at h ⊢
  rw [hw,he];exact h
structure PuInv (ops:List Oper) (m:Nat) (F Fe:Fr) (w0:World) (listed:Array Bool) (F1:Fr) (w1:World):Prop where
  world:w1=w0
  down:∀ i,listed[i]? = some true→∀ j∈JC ops i,listed[j]? = some true
  fact:∀ (j:Nat) (oj:Oper) (d:Tmp),j<m→listed[j]? = some true→ops[j]? = some oj→oj.dst=some d→F1 d=Fe d
  free:∀ t,(∀ (j:Nat) (oj:Oper),j<m→listed[j]? = some true→ops[j]? = some oj→oj.dst≠some t)→F1 t=F t
theorem draw_runP {ops:List Oper} {m:Nat} {F Fe:Fr} {w0:World} (hd:drawOkC ops m=true) (hok:ops.all (RC n ops)=true) (hp:UE ops m=true) (hr:RunP P ops w0 (ops.take m) F Fe)
    (fin:WL false P ops Q (FY ops ((List.range ops.length).drop m)) Fe w0) :
    ∀ (fuel:Nat) (listed:Array Bool) (F1:Fr) (w1:World),listed.size=ops.length→PD ops listed≤fuel→(∀ j,m≤j→listed[j]?≠some true)→PuInv ops m F Fe w0 listed F1 w1→wpAny P .any ops.toArray (KV n Q) fuel listed (mk n F1) w1:=by
  unfold drawOkC at hd
  simp only [Bool.and_eq_true] at hd
  obtain ⟨⟨⟨⟨d1,d3⟩,d4⟩,d5⟩,d8⟩:=hd
  have hml:m≤ops.length:=Nat.le_of_ble_eq_true d5
  have hback:∀ k,k<ops.length→∀ j∈JC ops k,j<k:=fun k hk j hj=>blt (List.all_eq_true.1 (List.all_eq_true.1 d4 k (by simpa using hk)) j hj)
  have hin:∀ k,k<ops.length→∀ j∈JC ops k,j<ops.length:=fun k hk j hj=>Nat.lt_trans (hback k hk j hj) hk
  have htl:∀ j,j∈(List.range ops.length).drop m↔m≤j∧j<ops.length:=fun j=>by
    rw [List.mem_iff_getElem?]
    simp only [List.getElem?_drop]
    constructor
    · rintro ⟨i,hi⟩
      have:=(List.getElem?_eq_some_iff.1 hi)
      obtain ⟨h1,h2⟩:=this
      simp at h1 h2;omega
    · rintro ⟨h1,h2⟩
      exact ⟨j - m,by rw [List.getElem?_eq_getElem (by simp;omega)];simp;omega⟩
  have hdist:∀ i j oi oj,i<m→j<m→i≠j→ops[i]? = some oi→ops[j]? = some oj→oi.dst≠none→oi.dst≠oj.dst:=by
    intro i j oi oj hi hj hij hoi hoj hne
    have:=List.all_eq_true.1 (List.all_eq_true.1 d1 i (by simpa using hi)) j (by simpa using hj)
    simp only [Bool.or_eq_true] at this
    rcases this with h5|h5
    · exact absurd (Nat.eq_of_beq_eq_true h5) hij
    · rw [hoi,hoj] at h5
      intro e
      cases hd:oi.dst with
      | none=>exact hne hd
      | some d=>
        rw [hd] at e
        simp only [Option.bind_some,hd,← e] at h5
        simp at h5
  have hndt:((List.range ops.length).drop m).Nodup:=List.Nodup.sublist (List.drop_sublist _ _) List.nodup_range
  have hm:=hml
  have hall0:∀ o∈ops.take m,vOp o.op=true∧o.dst≠none:=fun o ho=>by
    unfold UE at hp
    simp only [Bool.and_eq_true] at hp
    have:=List.all_eq_true.1 hp.1 o ho
    simp only [Bool.and_eq_true] at this
    exact ⟨this.1,fun e=>by rw [e] at this;simp at this⟩
  have hlen:(ops.take m).length=m:=by rw [List.length_take];omega
  have hget:∀ j (hj:j<m),(ops.take m)[j]'(by omega)=ops[j]'(by omega):=fun j hj=>List.getElem_take
  have hpw:(ops.take m).Pairwise (fun a b=>a.dst≠b.dst):=by
    rw [List.pairwise_iff_getElem]
    intro i j hi hj hij
    rw [hlen] at hi hj
    rw [hget i hi,hget j hj]
    exact hdist i j _ _ hi hj (by omega) (List.getElem?_eq_getElem (by omega)) (List.getElem?_eq_getElem (by omega)) (by have:=(hall0 _ (List.getElem_mem (l:=ops.take m) (n:=i) (by omega))).2;rw [hget i hi] at this;exact this)
  obtain ⟨r1,r2⟩:=run_at (ops.take m) F Fe hr hpw (fun o ho=>(hall0 o ho).2)
  have hend:∀ (listed:Array Bool) (F1:Fr) (w1:World),PuInv ops m F Fe w0 listed F1 w1→(∀ j,j<m→listed[j]? = some true)→F1=Fe:=fun listed F1 w1 hi hall=>by
    funext t
    by_cases c:∃ (j:Nat) (hj:j<m),(ops[j]'(by omega)).dst=some t
    · obtain ⟨j,hj,he⟩:=c
      exact hi.fact j _ t hj (hall j hj) (List.getElem?_eq_getElem (by omega)) he
    · rw [hi.free t (fun j oj hj _ hoj e=>c ⟨j,hj,by rw [List.getElem?_eq_getElem (by omega)] at hoj;cases hoj;exact e⟩)]
      refine (r1 t fun o ho e=>?_).symm
      obtain ⟨j,hj,rfl⟩:=List.getElem_of_mem ho
      rw [hlen] at hj
      exact c ⟨j,hj,by rw [← hget j hj];exact e⟩
  intro fuel
  have toTail:∀ (fuel:Nat) (listed:Array Bool) (F1:Fr) (w1:World),listed.size=ops.length→PD ops listed≤fuel→(∀ j,m≤j→listed[j]?≠some true)→PuInv ops m F Fe w0 listed F1 w1→(∀ j,j<m→listed[j]? = some true)→wpAny P .any ops.toArray (KV n Q) fuel listed (mk n F1) w1:=by
    intro fuel listed F1 w1 hsz hfu hno hi hall
    have e1:=hend listed F1 w1 hi hall
    have e2:=hi.world
    have hdn:=hi.down
    clear hi
    subst e1;subst e2
    refine forced_runC hok hin ops.length _ fuel listed F1 w1 hsz hfu (fun j hj=>⟨fun h hm'=>hno j ((htl j).1 hm').1 h,fun h=>hall j ?_⟩) (fun j hj=>((htl j).1 hj).2) hndt d8 hdn fin
    rcases Nat.lt_or_ge j m with h1|h1
    · exact h1
    · exact absurd ((htl j).2 ⟨h1,hj⟩) h
  induction fuel with
  | zero=>
    intro listed F1 w1 hsz hfu hno hi
    refine toTail 0 listed F1 w1 hsz hfu hno hi (fun j hj=>?_)
    have h0:PD ops listed=0:=by omega
    unfold PD at h0
    have:=List.countP_eq_zero.1 h0 j (by simp;omega)
    simpa using this
  | succ fuel ih=>
    intro listed F1 w1 hsz hfu hno hi
    by_cases hall:∀ j,j<m→listed[j]? = some true
    · exact toTail (fuel+1) listed F1 w1 hsz hfu hno hi hall
    · have hex:∃ j,j<m∧listed[j]?≠some true:=by
        refine Classical.byContradiction fun hc=>hall fun j hj=>Classical.byContradiction fun hn=>hc ⟨j,hj,hn⟩
      have hmin:∀ q j,q=j→j<m→listed[j]?≠some true→∃ k,k<m∧listed[k]?≠some true∧∀ i,i<k→listed[i]? = some true:=by
        intro q
        induction q using Nat.strongRecOn with
        | _ q ihq=>
          intro j hqj hj hn
          by_cases hb:∀ i,i<j→listed[i]? = some true
          · exact ⟨j,hj,hn,hb⟩
          · have:∃ i,i<j∧listed[i]?≠some true:=Classical.byContradiction fun hc=>hb fun i hi=>Classical.byContradiction fun hn=>hc ⟨i,hi,hn⟩
            obtain ⟨i,hij,hni⟩:=this
            exact ihq i (by omega) i rfl (by omega) hni
      obtain ⟨j0,hj0,hn0⟩:=hex
      obtain ⟨k,hkm,hkn,hkb⟩:=hmin j0 j0 rfl hj0 hn0
      have hkf:listed[k]? = some false:=by
        have:k<listed.size:=by omega
        rw [Array.getElem?_eq_getElem this] at hkn ⊢
        simpa using hkn
      refine ⟨fun h0=>?_,fun i hir=>?_⟩
      · have:=ready_of' hsz (by omega) hkf (fun j hj=>hkb j (hback k (by omega) j hj))
        rw [h0] at this;cases this
      · obtain ⟨hnl,hil⟩:=LQ hir hsz
        have ho:ops[i]? = some ops[i]:=List.getElem?_eq_getElem hil
        have haft:=IM ho hir hsz (hin i hil)
        have hclose:∀ j,EU ops i j=true→listed[j]? = some true:=fun j hj=>by
          unfold EU at hj
          exact IW (D:=fun j=>listed[j]? = some true) hi.down _ _ haft j (by simpa using hj)
        have him:i<m:=by
          rcases Nat.lt_or_ge i m with h1|hge
          · exact h1
          · have h1:=hclose k (List.all_eq_true.1 (List.all_eq_true.1 d3 i ((htl i).2 ⟨hge,hil⟩)) k (by simpa using hkm))
            rw [hkf] at h1;cases h1
        have hno':∀ j,m≤j→(listed.setIfInBounds i true)[j]?≠some true:=fun j hj=>by
          rw [Array.getElem?_setIfInBounds,if_neg (by omega)];exact hno j hj
        have hset:∀ (j:Nat),(listed.setIfInBounds i true)[j]? = some true→j=i∨listed[j]? = some true:=by
          intro j hj
          by_cases hji:j=i
          · exact .inl hji
          · rw [Array.getElem?_setIfInBounds,if_neg (fun e=>hji e.symm)] at hj;exact .inr hj
        have hmono:∀ (j:Nat),listed[j]? = some true→(listed.setIfInBounds i true)[j]? = some true:=by
          intro j hj
          rw [Array.getElem?_setIfInBounds]
          split
          · rename_i e;subst e
            have:i<listed.size:=by omega
            simp [this]
          · exact hj
        obtain ⟨Fi,b1,b2,v,hv,hve⟩:=r2 i (by omega)
        rw [hget i him] at hv hve
        have hvo:=(hall0 (ops[i]) (by rw [← hget i him];exact List.getElem_mem _)).1
        have hlk:∀ t∈MS ops ops[i],F1 t=Fi t:=fun t ht=>by
          by_cases c:∃ (j:Nat) (hj:j<m),(ops[j]'(by omega)).dst=some t
          · obtain ⟨j,hj,he⟩:=c
            have hdp:=pure_dep hp him ho ht hj (List.getElem?_eq_getElem (by omega)) he
            rw [hi.fact j _ t hj (haft j hdp.1) (List.getElem?_eq_getElem (by omega)) he]
            exact (b2 t j (by omega) hdp.2 (by rw [hget j hj];exact he)).symm
          · rw [hi.free t (fun j oj hj _ hoj e=>c ⟨j,hj,by rw [List.getElem?_eq_getElem (by omega)] at hoj;cases hoj;exact e⟩)]
            refine (b1 t fun j hj hji e=>?_).symm
            rw [hlen] at hj
            exact c ⟨j,hj,by rw [← hget j hj];exact e⟩
        have hout:=out_agree hvo hv hlk
        have next:PuInv ops m F Fe w0 (listed.setIfInBounds i true) (GY F1 ops[i].dst v) w1:=by
          cases hdi:ops[i].dst with
          | none=>exact absurd hdi (hall0 (ops[i]) (by rw [← hget i him];exact List.getElem_mem _)).2
          | some d=>
            refine ⟨hi.world,fun j hj q hq=>?_,fun j oj d' hjm hj hoj hd'=>?_,fun t ht=>?_⟩
            · rcases hset j hj with rfl|hj
              · exact hmono q (haft q hq)
              · exact hmono q (hi.down j hj q hq)
            · show DE F1 d v d'=Fe d'
              by_cases hji:j=i
              · subst hji
                rw [ho] at hoj;cases hoj
                rw [hdi] at hd';cases hd'
                rw [GS];exact (hve d hdi).symm
              · have hjl:listed[j]? = some true:=(hset j hj).resolve_left hji
                have hne:d'≠d:=fun e=>by
                  subst e
                  exact hdist j i oj ops[i] hjm him hji hoj ho (by rw [hd'];simp) (by rw [hd',hdi])
                rw [HG _ _ _ hne]
                exact hi.fact j oj d' hjm hjl hoj hd'
            · have hne:t≠d:=fun e=>by
                subst e
                refine ht i ops[i] him ?_ ho hdi
                have:i<listed.size:=by omega
                simp [this]
              show DE F1 d v t=F t
              rw [HG _ _ _ hne]
              exact hi.free t (fun j oj hj hl hoj=>ht j oj hj (hmono j hl) hoj)
        refine OQ (K:=fun F2 w2=>PuInv ops m F Fe w0 (listed.setIfInBounds i true) F2 w2) hok ho (fun F2 w2 hK=>ih _ F2 w2 (by simpa using hsz) (by have:=KY hil hsz hnl;omega) hno' hK) (fun hw=>?_) (fun hw=>?_)
        · rcases hout with ⟨_,h1⟩|⟨h1,_⟩
          · unfold DD
            have ew:=hi.world
            subst ew
            rw [h1]
            exact next
          · rw [hw] at h1;cases h1
        · rcases hout with ⟨h1,_⟩|⟨_,h1⟩
          · rw [hw] at h1;cases h1
          · rw [← h1];exact next
theorem DP {id:Nat} {ops:List Oper} {F:Fr} {w:World} (m:Nat) (pre tl:List Oper) (hm:P.follows .mixedOrders=true) (hok:ops.all (RC n ops)=true) (hd:drawOkC ops m=true) (hp:UE ops m=true) (hlen:Nat.ble m ops.length=true) (hpre:ops.take m=pre) (htl:ops.drop m=tl)
    (h:∀ w1,Keep [] w w1→WP P ops w1 (fun F1=>WL false P ops Q tl F1 w1) pre F w1):CW P (ro:=none) n (.region id ops.toArray true) Q F w:=by
  have hseq:FY ops ((List.range ops.length).drop m)=ops.drop m:=by
    unfold FY
    have:∀ (l:List Oper) (k:Nat),k≤l.length→((List.range l.length).drop k).filterMap (l[·]?)=l.drop k:=by
      intro l k hk
      induction hq:l.length - k generalizing k with
      | zero=>rw [List.drop_of_length_le (by simp;omega),List.drop_of_length_le (by omega)];rfl
      | succ q ih=>
        have hlt:k<l.length:=by omega
        rw [List.drop_eq_getElem_cons (by simpa using hlt),List.filterMap_cons]
        simp only [List.getElem_range,List.getElem?_eq_getElem hlt]
        rw [ih (k+1) (by omega) (by omega),← List.drop_eq_getElem_cons hlt]
    exact this ops m (Nat.le_of_ble_eq_true hlen)
  subst hpre;subst htl
  have hv:(ops.take m).all (fun o=>vOp o.op)=true:=by
    unfold UE at hp
    simp only [Bool.and_eq_true] at hp
    exact List.all_eq_true.2 fun o ho=>by have:=List.all_eq_true.1 hp.1 o ho;simp only [Bool.and_eq_true] at this;exact this.1
  obtain ⟨Fe,h1,h2⟩:=(h w.drew (Keep.drew [] w)).run _ _ hv
  refine wpIn_wide.2 (wp_region_any hm ?_)
  rw [show ({ w with drawn:=w.drawn+1 }:World)=w.drew from rfl,List.size_toArray]
  refine draw_runP hd hok hp h1 (by rw [hseq];exact h2) ops.length _ F w.drew (by simp) ?_ (fun j _=>?_) ⟨rfl,fun i hi=>?_,fun i o d _ hi=>?_,fun _ _=>rfl⟩
  · unfold PD;exact Nat.le_trans (List.countP_le_length) (by simp)
  all_goals simp_all [Array.getElem?_replicate]
end
open Go.RowKit
def DM {α:Type} (P:Program) (s:Sem α):Prop:=∀ w v w',s.run P w = .ok v w'→w'=w∧∀ w2,Keep [] w w2→s.run P w2 = .ok v w2
section
variable {P:Program} {α β:Type}
theorem DM.pure (a:α):DM P (Pure.pure a:Sem α):=fun w v w' h=>by
  simp only [Sem.run_pure] at h ⊢;cases h;exact ⟨rfl,fun _ _=>rfl⟩
theorem DM.halt (h:Halt):DM P (Sem.halt h:Sem α):=fun w v w' e=>by cases e
theorem DM.bind {s:Sem α} {f:α→Sem β} (hs:DM P s) (hf:∀ a,DM P (f a)):DM P (s >>= f):=fun w v w' h=>by
  simp only [Sem.run_bind] at h ⊢
  cases hr:s.run P w with
  | halt x w2=>rw [hr] at h;cases h
  | ok x w1=>
    rw [hr] at h;simp only [Result.andThen_ok] at h
    obtain ⟨rfl,k⟩:=hs w x w1 hr
    obtain ⟨rfl,k2⟩:=hf x _ v w' h
    exact ⟨rfl,fun w2 hk=>by rw [k w2 hk];simp only [Result.andThen_ok];exact k2 w2 hk⟩
def Nv {α:Type} (P:Program) (s:Sem α):Prop:=∀ w v w',s.run P w≠.ok v w'
theorem Nv.sta {s:Sem α} (h:Nv P s):DM P s:=fun w v w' e=>absurd e (h w v w')
theorem Nv.bind {s:Sem α} {f:α→Sem β} (hf:∀ a,Nv P (f a)):Nv P (s >>= f):=fun w v w' h=>by
  simp only [Sem.run_bind] at h
  cases hr:s.run P w with
  | halt x w2=>rw [hr] at h;cases h
  | ok x w1=>rw [hr] at h;simp only [Result.andThen_ok] at h;exact hf x _ _ _ h
theorem nv_rt {x y:Int} {s:Bool} {c:BoundsCode}:Nv P (runtimePanic (.bounds x y s c):Sem α):=by
  unfold runtimePanic
  exact Nv.bind fun p w v w' h=>by cases h
theorem nv_bounds {k:IntKind} {x y:Int} {c:BoundsCode}:Nv P (boundsPanic k x y c:Sem α):=by
  unfold boundsPanic
  split
  · exact Nv.bind fun b=>nv_rt
  · exact Nv.bind fun b=>nv_rt
theorem DM.program:DM P program:=fun w v w' h=>by
  change Result.ok P w=Result.ok v w' at h;cases h;exact ⟨rfl,fun _ _=>rfl⟩
theorem DM.underlying (t:TypeId):DM P (underlying t):=by
  unfold Go.underlying
  refine DM.program.bind fun p=>?_
  split
  · exact DM.pure _
  · exact DM.halt _
theorem DM.typeInfo (t:TypeId):DM P (typeInfo t):=by
  unfold Go.typeInfo
  refine DM.program.bind fun p=>?_
  split
  · exact DM.pure _
  · exact DM.halt _
theorem DM.sizeOf (t:TypeId):DM P (sizeOf t):=(DM.typeInfo t).bind fun _=>DM.pure _
theorem DM.isAgg (t:TypeId):DM P (isAgg t):=by
  unfold Go.isAgg
  refine (DM.underlying t).bind fun d=>?_
  split <;> exact DM.pure _
theorem JI {w w2:World} (k:Keep [] w w2) {r:Nat} {o:Obj} (h:w.heap[r]? = some o):w2.heap[r]? = some o:=by
  rw [k.block r (Array.getElem?_eq_some_iff.1 h).1 (by simp)];exact h
theorem cell_keep {w w2:World} (k:Keep [] w w2) {a:Addr} {v:Value} (h:w.cell? a=some v):w2.cell? a=some v:=by
  unfold World.cell? at h ⊢
  cases hb:w.heap[a.block]? with
  | none=>rw [hb] at h;cases h
  | some o=>rw [JI k hb];rw [hb] at h;exact h
theorem DM.load (a:Addr) (m:Mode):DM P (load a m):=fun w v w' h=>by
  unfold Go.load at h ⊢
  simp only [Sem.run] at h ⊢
  cases hc:w.cell? a with
  | some x=>
    rw [hc] at h;simp only at h
    change Result.ok x w=Result.ok v w' at h
    cases h
    exact ⟨rfl,fun w2 k=>by simp only [cell_keep k hc];first|done|rfl⟩
  | none=>
    rw [hc] at h;simp only at h
    unfold World.farLoad at h
    cases hb:w.heap[a.block]? with
    | none=>rw [hb] at h;simp only at h;cases h
    | some o=>
      rw [hb] at h
      cases o with
      | view at_ u=>
        simp only at h
        cases hv:w.viewLoad P at_ u a (m == .atomic) with
        | error e=>rw [hv] at h;cases h
        | ok r=>
          rw [hv] at h
          obtain ⟨x,es⟩:=r
          change Result.ok x w=Result.ok v w' at h
          cases h
          refine ⟨rfl,fun w2 k=>?_⟩
          have hc2:w2.cell? a=none:=by unfold World.cell?;rw [JI k hb]
          have hv2:w2.viewLoad P at_ u a (m == .atomic) = .ok (v,es):=by
            cases hb2:w.heap[at_.block]? with
            | some o2=>
              rw [← hv]
              unfold World.viewLoad World.seen
              rw [JI k hb2,hb2]
            | none=>
              exfalso
              unfold World.viewLoad World.seen at hv
              rw [hb2] at hv
              simp only [bind,Except.bind,throw,throwThe,MonadExceptOf.throw] at hv
              repeat' split at hv
              all_goals first|cases hv|skip
              all_goals (rename_i h9;repeat' split at h9)
              all_goals first|cases h9|skip
          rw [hc2];simp only
          unfold World.farLoad
          simp only [JI k hb,hv2]
          first|done|rfl
      | _=>simp only at h;cases h
theorem DM.loadCellsFrom (a:Addr):∀ (n i:Nat) (acc:Array Value),DM P (loadCellsFrom a i n acc)
  | 0,i,acc=>DM.pure _
  | n+1,i,acc=>(DM.load _ _).bind fun v=>DM.loadCellsFrom a n (i+1) _
theorem DM.loadVar (t:TypeId) (a:Addr):DM P (loadVar t a):=by
  unfold Go.loadVar
  refine (DM.isAgg t).bind fun b=>?_
  split
  · exact (DM.sizeOf t).bind fun n=>(DM.loadCellsFrom _ _ _ _).bind fun _=>DM.pure _
  · exact DM.load _ _
theorem DM.sureAddr (x:Value):DM P (Instr.sureAddr x):=by
  unfold Instr.sureAddr;split
  · exact DM.pure _
  · exact DM.halt _
theorem DM.asIntOf (x:Value):DM P (asIntOf x):=by
  unfold Go.asIntOf;split
  · exact DM.pure _
  · exact DM.halt _
  · exact DM.halt _
theorem DM.asBool (x:Value):DM P (asBool x):=by
  unfold Go.asBool;split
  · exact DM.pure _
  · exact DM.halt _
theorem DM.asAgg (x:Value):DM P (asAgg x):=by
  unfold Go.asAgg;split
  · exact DM.pure _
  · exact DM.halt _
theorem DM.indexAt (t:TypeId) (x i:Value):DM P (Instr.indexAt t x i):=by
  unfold Instr.indexAt
  refine (DM.asIntOf i).bind fun ki=>(DM.underlying t).bind fun d=>?_
  simp only
  repeat' first
    | exact DM.pure _
    | exact DM.halt _
    | exact nv_bounds.sta
    | exact DM.underlying _
    | exact DM.sizeOf _
    | exact DM.sureAddr _
    | refine DM.bind ?_ fun _=>?_
    | split
theorem DM.part (t:TypeId) (cs:Array Value) (off:Nat):DM P (part t cs off):=by
  unfold Go.part
  refine (DM.isAgg t).bind fun b=>?_
  split
  · exact (DM.sizeOf t).bind fun _=>DM.pure _
  · split
    · exact DM.pure _
    · exact DM.halt _
theorem DM.field (t:TypeId) (x:Value) (k:Nat):DM P (Instr.field t x k):=by
  unfold Instr.field
  refine (DM.underlying t).bind fun d=>?_
  split
  · split
    · exact (DM.asAgg _).bind fun _=>DM.part _ _ _
    · exact DM.halt _
  · exact DM.halt _
theorem DM.extract (x:Value) (k:Nat):DM P (Instr.extract x k):=by
  unfold Instr.extract
  split
  · split
    · exact DM.pure _
    · exact DM.halt _
  · exact DM.halt _
theorem DM.getObj (r:Nat):DM P (getObj r):=fun w v w' h=>by
  unfold Go.getObj at h ⊢
  simp only [Sem.run] at h ⊢
  cases hb:w.heap[r]? with
  | none=>rw [hb] at h;cases h
  | some o=>
    rw [hb] at h
    cases o <;> first
      | (simp only at h;cases h;done)
      | (change Result.ok _ w=Result.ok v w' at h;cases h;exact ⟨rfl,fun w2 k=>by simp only [JI k hb];first|done|rfl⟩)
theorem st_len (ats:Array TypeId) (t:TypeId) (args:Array Value):DM P (Builtin.len_ ats t args):=by
  unfold Builtin.len_
  split
  · refine (DM.underlying _).bind fun d=>?_
    split
    · exact DM.pure _
    · exact DM.pure _
    · refine (DM.underlying _).bind fun d=>?_
      split
      · exact DM.pure _
      · exact DM.halt _
    · exact DM.pure _
    · exact DM.pure _
    · exact DM.pure _
    · refine (DM.getObj _).bind fun o=>?_
      split
      · exact DM.pure _
      · exact DM.halt _
    · refine (DM.getObj _).bind fun o=>?_
      split
      · exact DM.pure _
      · exact DM.halt _
    · exact DM.halt _
  · exact DM.halt _
theorem DM.viewAt (r:Nat):DM P (Go.viewAt r):=fun w v w' h=>by
  have key:∀ (x:World),(Go.viewAt r).run P x=(if (x.shape? r).isSome then Result.ok none x else ((Go.getObj r >>= fun o=>match o with | .view a t=>Pure.pure (some (a,t)) | _=>Pure.pure none:Sem (Option (Addr × TypeId))).run P x)):=fun x=>by
    unfold Go.viewAt
    simp only [Sem.run_bind,run_shape,Result.andThen_ok]
    split
    · simp only [Sem.run_pure]
    · simp only [Sem.run_bind]
      first|done|congr 1
  rw [key] at h
  by_cases c:(w.shape? r).isSome=true
  · rw [if_pos c] at h
    cases h
    refine ⟨rfl,fun w2 k=>?_⟩
    rw [key,if_pos ?_]
    unfold World.shape? at c ⊢
    cases hb:w.heap[r]? with
    | none=>rw [hb] at c;cases c
    | some o=>rw [JI k hb];rw [hb] at c;exact c
  · rw [if_neg c] at h
    have hs:DM P (Go.getObj r >>= fun o=>match o with | .view a t=>Pure.pure (some (a,t)) | _=>Pure.pure none:Sem (Option (Addr × TypeId))):=(DM.getObj r).bind fun o=>by
      split
      · exact DM.pure _
      · exact DM.pure _
    obtain ⟨e,k⟩:=hs w v w' h
    refine ⟨e,fun w2 hk=>?_⟩
    rw [key,if_neg ?_]
    · exact k w2 hk
    · intro c2
      apply c
      cases hb:w.heap[r]? with
      | some o=>unfold World.shape? at c2 ⊢;rw [JI hk hb] at c2;rw [hb];exact c2
      | none=>
        exfalso
        simp only [Sem.run_bind] at h
        unfold Go.getObj at h
        simp only [Sem.run,hb] at h
        cases h
theorem DM.noView (a:Addr):DM P (noView a):=by
  unfold Go.noView
  refine (DM.viewAt _).bind fun o=>?_
  split
  · exact DM.halt _
  · exact DM.pure _
theorem DM.shapeOr {β:Type} (r:Nat) (f:Option (TypeId × Nat)→Sem β) (hn:Nv P (f none)) (hf:∀ x,DM P (f (some x))):DM P (shape r >>= f):=fun w v w' e=>by
  simp only [Sem.run_bind,run_shape,Result.andThen_ok] at e ⊢
  cases hs:w.shape? r with
  | none=>rw [hs] at e;exact absurd e (hn _ _ _)
  | some x=>
    rw [hs] at e
    obtain ⟨e1,k⟩:=hf x w v w' e
    refine ⟨e1,fun w2 hk=>?_⟩
    have:w2.shape? r=some x:=by
      unfold World.shape? at hs ⊢
      cases hb:w.heap[r]? with
      | none=>rw [hb] at hs;cases hs
      | some o=>rw [JI hk hb];rw [hb] at hs;exact hs
    rw [this];exact k w2 hk
theorem DM.byteOf (a:Addr):DM P (byteOf a):=by
  unfold Go.byteOf
  split
  · exact DM.pure _
  · refine DM.program.bind fun p=>(DM.noView a).bind fun _=>DM.shapeOr _ _ (fun w v w' h=>by cases h) fun x=>?_
    simp only
    split
    · exact DM.pure _
    · split
      · exact DM.pure _
      · exact DM.halt _
theorem DM.fieldAt (t:TypeId) (x:Value) (k:Nat):DM P (Instr.fieldAt t x k):=by
  unfold Instr.fieldAt
  refine (DM.underlying t).bind fun d=>?_
  split
  · split
    · refine (DM.sureAddr x).bind fun a=>DM.bind ?_ fun _=>DM.pure _
      unfold Go.fieldPlace
      refine (DM.sizeOf _).bind fun n=>?_
      split
      · unfold Go.partAt
        exact (DM.byteOf _).bind fun _=>(DM.byteOf _).bind fun _=>DM.pure _
      · exact DM.pure _
    · exact DM.halt _
  · exact DM.halt _
theorem DM.mapL {f:α→Sem β} (hf:∀ a,DM P (f a)):∀ l:List α,DM P (l.mapM f)
  | []=>by rw [List.mapM_nil];exact DM.pure _
  | a :: l=>by
    rw [List.mapM_cons]
    exact (hf a).bind fun b=>(DM.mapL hf l).bind fun bs=>DM.pure _
theorem DM.mapA {f:α→Sem β} (hf:∀ a,DM P (f a)) (l:Array α):DM P (l.mapM f):=by
  rw [Array.mapM_eq_mapM_toList,map_eq_pure_bind]
  exact (DM.mapL hf l.toList).bind fun _=>DM.pure _
theorem DM.zeroValue (t:TypeId):DM P (zeroValue t):=by
  unfold Go.zeroValue
  refine (DM.typeInfo t).bind fun i=>?_
  split
  · exact DM.pure _
  · exact DM.halt _
theorem DM.build (t:TypeId) (ps:Array (Nat × Value)):DM P (Instr.build t ps):=by
  unfold Instr.build
  refine (DM.zeroValue t).bind fun z=>?_
  simp only
  refine (DM.underlying t).bind fun d=>?_
  split
  · refine (DM.mapA (fun f=>(DM.sizeOf _).bind fun _=>DM.pure _) _).bind fun places=>?_
    split
    · exact DM.pure _
    · exact DM.halt _
  · refine (DM.sizeOf _).bind fun size=>?_
    split
    · exact DM.pure _
    · exact DM.halt _
  · exact DM.halt _
def rdOp (op:Op):Bool:=
  match op with
  | .build .. | .move _ | .assign _ | .pick .. | .load .. | .field .. | .fieldAddr .. | .indexAddr .. | .extract ..=>true
  | .call c=>(match c.callee with | .builtin .len=>true | _=>false)
  | _=>false
theorem rdOp_sta {op:Op} {ty:TypeId} {ρ:Operand→Value} (h:rdOp op=true):DM P (execOp ρ ⟨none,op,ty,"",#[],none⟩):=by
  have key:∀ (s:Sem Value),DM P s→DM P (do Pure.pure (Next.value (← s)):Sem Next):=fun s hs=>hs.bind fun _=>DM.pure _
  cases op with
  | move x=>exact DM.pure _
  | assign x=>exact DM.pure _
  | pick c a b=>
    refine (DM.asBool _).bind fun x=>?_
    exact DM.pure _
  | load t a=>exact key _ ((DM.sureAddr _).bind fun a=>DM.loadVar _ _)
  | field t x k=>exact key _ (DM.field _ _ _)
  | fieldAddr t x k=>exact key _ (DM.fieldAt _ _ _)
  | indexAddr t x i=>exact key _ (DM.indexAt _ _ _)
  | extract t k=>exact key _ (DM.extract _ _)
  | build t ps=>exact key _ (DM.build _ _)
  | call c=>
    unfold rdOp at h
    simp only at h
    split at h
    · rename_i hc
      have:execOp ρ ⟨none, .call c,ty,"",#[],none⟩ = (do Pure.pure (Next.value (← Builtin.len_ c.argTypes ty (c.args.map ρ))):Sem Next):=by
        simp only [execOp,resolve,hc,pure_bind,invoke,builtin]
      rw [this]
      exact key _ (st_len _ _ _)
    · cases h
  | _=>simp [rdOp] at h
def vOpB (op:Op):Bool:=vOp op || (match op with | .build ..=>true | _=>false)
theorem XF {o:Oper} (h:vOpB o.op=true) {ρ:Operand→Value} {w w':World} {r:Next} (e:(execOp ρ o).run P w = .ok r w'):∃ v,r = .value v:=by
  unfold vOpB at h
  rw [Bool.or_eq_true] at h
  rcases h with h|h
  · exact VX h e
  · obtain ⟨d,op,ty,pos,af,g⟩:=o
    cases op with
    | build t ps=>
      simp only [execOp,Sem.run_bind] at e
      cases hs:(Instr.build t (ps.map fun (i,x)=>(i,ρ x))).run P w with
      | ok x w2=>rw [hs] at e;simp only [Result.andThen_ok,Sem.run_pure] at e;cases e;exact ⟨_,rfl⟩
      | halt x w2=>rw [hs] at e;cases e
    | _=>simp at h
def mkV (op:Op):Bool:=vOpB op || (match op with | .alloc _ | .buildSlice ..=>true | _=>false)
theorem mkV_val {o:Oper} (h:mkV o.op=true) {ρ:Operand→Value} {w w':World} {r:Next} (e:(execOp ρ o).run P w = .ok r w'):∃ v,r = .value v:=by
  unfold mkV at h
  rw [Bool.or_eq_true] at h
  rcases h with h|h
  · exact XF h e
  · have key:∀ (s:Sem Value),(do Pure.pure (Next.value (← s)):Sem Next).run P w = .ok r w'→∃ v,r = .value v:=fun s e=>by
      simp only [Sem.run_bind] at e
      cases hs:s.run P w with
      | ok x w2=>rw [hs] at e;simp only [Result.andThen_ok,Sem.run_pure] at e;cases e;exact ⟨_,rfl⟩
      | halt x w2=>rw [hs] at e;cases e
    obtain ⟨d,op,ty,pos,af,g⟩:=o
    cases op with
    | alloc t=>exact key _ e
    | buildSlice t l ps=>exact key _ e
    | _=>simp at h
end
open Go.RowKit
structure KdOk (P:Program) (X:List Nat) (k:Nat) (o:Oper) (F:Fr) (w:World) (v:Value) (w':World):Prop where
  k1:k=1→w'=w
  k2:k=2→Keep [] w w'
  k3:k=3→Keep X w w'
  k4:k=4→w'=w∧∀ w2,Keep X w w2→(execOp (CP F) ⟨none,o.op,o.type,"",#[],none⟩).run P w2 = .ok (.value v) w2
def WX (P:Program) (ops:List Oper) (Q:Exit→Fr→World→Prop) (X:List Nat):List (Nat × Oper)→Fr→World→Prop
  | [],F,w=>Q .normal F w
  | (k,o) :: rest,F,w=>
    if Region.wanted o (CH ops F)=true then
      DD P o.op o.type F w (fun v w'=>KdOk P X k o F w v w'∧WX P ops Q X rest (GY F o.dst v) w') (fun c w'=>k=0∧Q (.panic c) F w')
    else WX P ops Q X rest (GY F o.dst undef) w
section
variable {P:Program} {n:Nat} {Q:Exit→Fr→World→Prop} {ops:List Oper} {X:List Nat}
theorem wx_cong {a b:List (Nat × Oper)} (h:∀ F w,WX P ops Q X a F w→WX P ops Q X b F w) {j:Nat × Oper} {F:Fr} {w:World} (hj:WX P ops Q X (j :: a) F w):WX P ops Q X (j :: b) F w:=by
  obtain ⟨k,o⟩:=j
  unfold WX at hj ⊢
  by_cases c:Region.wanted o (CH ops F)=true
  · rw [if_pos c] at hj ⊢
    exact DJ hj (fun v w' hk=>⟨hk.1,h _ _ hk.2⟩) (fun c w' hz=>hz)
  · rw [if_neg c] at hj ⊢
    exact h _ _ hj
def IP (op:Op):Bool:=match op with | .select ..=>false | _=>true
theorem HJ {o:Oper} {F F':Fr} (hl:∀ t∈MS ops o,F' t=F t):Region.wanted o (CH ops F')=Region.wanted o (CH ops F):=by
  unfold Region.wanted
  cases hg:o.guard with
  | none=>rfl
  | some p=>
    obtain ⟨g,b⟩:=p
    simp only
    have:CH ops F' g=CH ops F g:=by
      unfold CH
      cases hd:(ops[g]?).bind (·.dst) with
      | none=>rfl
      | some d=>simp only;rw [hl d (by unfold MS;rw [hg];simp only [hd];simp)]
    rw [this]
theorem XK {o:Oper} {F F':Fr} (hs:IP o.op=true) (hl:∀ t∈MS ops o,F' t=F t):execOp (CP F') ⟨none,o.op,o.type,"",#[],none⟩ = execOp (CP F) ⟨none,o.op,o.type,"",#[],none⟩:=by
  refine SH _ (by revert hs;unfold IP;cases o.op <;> intro hs <;> first|rfl|cases hs) fun x hx=>?_
  cases x with
  | tmp t=>exact hl t (by unfold MS;exact List.mem_append_left _ (List.mem_filterMap.2 ⟨.tmp t,hx,rfl⟩))
  | _=>rfl
theorem DA {o:Oper} {F F':Fr} {w:World} {K:Value→World→Prop} {Z:List PanicEntry→World→Prop} (hs:IP o.op=true) (hl:∀ t∈MS ops o,F' t=F t) (h:DD P o.op o.type F w K Z):DD P o.op o.type F' w K Z:=by
  unfold DD at h ⊢
  rw [XK hs hl];exact h
def mvO (o:Oper):Bool:=o.guard.isNone && (match o.op with | .move _ | .assign _=>true | _=>false)
def frO (o:Oper):Bool:=match o.op with | .extract ..=>true | _=>false
theorem VZ {o:Oper} (h:frO o=true) {F:Fr} {w:World} {K:Value→World→Prop} {Z:List PanicEntry→World→Prop} (ho:DD P o.op o.type F w K Z):∃ v,∀ w',(execOp (CP F) ⟨none,o.op,o.type,"",#[],none⟩).run P w' = .ok (.value v) w':=by
  obtain ⟨d,op,ty,pos,af,g⟩:=o
  unfold frO at h
  cases op with
  | extract x i=>
    unfold DD at ho
    simp only [execOp,Sem.run_bind] at ho ⊢
    unfold Instr.extract at ho ⊢
    cases hx:CP F x with
    | tuple vs=>
      rw [hx] at ho
      simp only at ho ⊢
      cases hv:vs[i]? with
      | some v=>exact ⟨v,fun w'=>by simp only [Sem.run_pure,Result.andThen_ok]⟩
      | none=>rw [hv] at ho;exact ho.elim
    | _=>rw [hx] at ho;exact ho.elim
  | _=>simp at h
def TH (ops:List Oper) (o:Oper) (d:Tmp):Bool:=(MS ops o).all fun t=>!Nat.beq t d
def cmB2 (ops:List Oper) (a b:Nat × Oper):Bool:=
  (match a.2.dst,b.2.dst with|some da,some db=>!Nat.beq da db && TH ops b.2 da && TH ops a.2 db | _,_=>false) && IP a.2.op && IP b.2.op &&
  ((Nat.beq a.1 1 && vOpB a.2.op && (Nat.beq b.1 1 || Nat.beq b.1 4 || (Nat.beq b.1 2 && rdOp a.2.op))) || (Nat.beq a.1 4 && vOpB a.2.op && (Nat.beq b.1 1 || Nat.beq b.1 2 || Nat.beq b.1 3 || Nat.beq b.1 4)) || mvO a.2 || frO a.2 || (frO b.2 && !Nat.beq a.1 0 && mkV a.2.op) || mvO b.2)
theorem DH {o:Oper} {d:Tmp} {F:Fr} {v:Value} (h:TH ops o d=true):∀ t∈MS ops o,DE F d v t=F t:=fun t ht=>HG _ _ _ (MU (List.all_eq_true.1 h t ht))
theorem offL_upd' {o:Oper} {d:Tmp} {F:Fr} {v:Value} (h:TH ops o d=true):∀ t∈MS ops o,F t=DE F d v t:=fun t ht=>(DH h t ht).symm
theorem QS {o:Oper} (h:mvO o=true) (F:Fr):∃ v,∀ w,(execOp (CP F) ⟨none,o.op,o.type,"",#[],none⟩).run P w = .ok (.value v) w:=by
  obtain ⟨d,op,ty,pos,af,g⟩:=o
  unfold mvO at h
  simp only [Bool.and_eq_true] at h
  cases op with
  | move x=>exact ⟨CP F x,fun w=>by simp only [execOp,Sem.run_pure]⟩
  | assign x=>exact ⟨CP F x,fun w=>by simp only [execOp,Sem.run_pure]⟩
  | _=>simp at h
theorem SK {o:Oper} (h:mvO o=true) (y:Nat→Option Bool):Region.wanted o y=true:=by
  unfold mvO at h
  simp only [Bool.and_eq_true] at h
  unfold Region.wanted
  cases hg:o.guard with
  | none=>rfl
  | some p=>rw [hg] at h;simp at h
theorem KdOk.agree {k:Nat} {o:Oper} {F F':Fr} {w w':World} {v:Value} (hs:IP o.op=true) (hl:∀ t∈MS ops o,F' t=F t) (h:KdOk P X k o F w v w'):KdOk P X k o F' w v w':=
  ⟨h.k1,h.k2,h.k3,fun e=>⟨(h.k4 e).1,fun w2 k=>by rw [XK hs hl];exact (h.k4 e).2 w2 k⟩⟩
theorem KdOk.move {k:Nat} {o:Oper} {F:Fr} {w:World} {v:Value} (h:∀ w,(execOp (CP F) ⟨none,o.op,o.type,"",#[],none⟩).run P w = .ok (.value v) w):KdOk P X k o F w v w:=
  ⟨fun _=>rfl,fun _=>Keep.refl _ _,fun _=>Keep.refl _ _,fun _=>⟨rfl,fun w2 _=>h w2⟩⟩
theorem wx_swap2' {a b:Nat × Oper} {rest:List (Nat × Oper)} {F:Fr} {w:World} (hc:cmB2 ops a b=true) (hda:okD n a.2.dst=true) (hdb:okD n b.2.dst=true) (hq:∀ c F d v w,d<n→(Q (.panic c) (DE F d v) w↔Q (.panic c) F w)) (h:WX P ops Q X (a :: b :: rest) F w):WX P ops Q X (b :: a :: rest) F w:=by
  obtain ⟨k1,o1⟩:=a
  obtain ⟨k2,o2⟩:=b
  unfold cmB2 at hc
  simp only [Bool.and_eq_true,Bool.or_eq_true] at hc hda hdb
  obtain ⟨⟨⟨hc1,s1⟩,s2⟩,hc2⟩:=hc
  cases hd1:o1.dst with
  | none=>rw [hd1] at hc1;simp at hc1
  | some d1=>
  cases hd2:o2.dst with
  | none=>rw [hd1,hd2] at hc1;simp at hc1
  | some d2=>
  rw [hd1,hd2] at hc1
  simp only [Bool.and_eq_true] at hc1
  obtain ⟨⟨hne,hb⟩,ha⟩:=hc1
  have n1:=MU hne
  rw [hd1] at hda;rw [hd2] at hdb
  have e:∀ (F:Fr) (v x:Value),DE (DE F d2 x) d1 v=DE (DE F d1 v) d2 x:=fun F v x=>(PU (F:=F) (v:=v) (u:=x) n1).symm
  have w1e:∀ v,Region.wanted o1 (CH ops (DE F d2 v))=Region.wanted o1 (CH ops F):=fun v=>HJ (DH ha)
  have w2e:∀ v,Region.wanted o2 (CH ops (DE F d1 v))=Region.wanted o2 (CH ops F):=fun v=>HJ (DH hb)
  unfold WX at h
  rw [hd1] at h
  unfold WX
  rw [hd2]
  by_cases c1:Region.wanted o1 (CH ops F)=true
  · rw [if_pos c1] at h
    by_cases c2:Region.wanted o2 (CH ops F)=true
    · rw [if_pos c2]
      have reads:vOpB o1.op=true→k1≠0→(∀ v1 w1,(execOp (CP F) ⟨none,o1.op,o1.type,"",#[],none⟩).run P w = .ok (.value v1) w1→KdOk P X k1 o1 F w v1 w1→w1=w∧∀ v2 w2,KdOk P X k2 o2 F w v2 w2→(execOp (CP F) ⟨none,o1.op,o1.type,"",#[],none⟩).run P w2 = .ok (.value v1) w2∧KdOk P X k1 o1 F w2 v1 w2)→
          DD P o2.op o2.type F w (fun v w'=>KdOk P X k2 o2 F w v w'∧WX P ops Q X ((k1,o1) :: rest) (GY F (some d2) v) w') (fun c w'=>k2=0∧Q (.panic c) F w'):=fun hv hk0 hfix=>by
        unfold DD at h
        cases hr:(execOp (CP F) ⟨none,o1.op,o1.type,"",#[],none⟩).run P w with
        | halt x w'=>rw [hr] at h;cases x <;> simp only [HA] at h <;> first|exact h.elim|exact absurd h.1 hk0
        | ok r w'=>
          obtain ⟨v1,rfl⟩  :=XF (o:=⟨none,o1.op,o1.type,"",#[],none⟩) hv hr
          rw [hr] at h
          have h':KdOk P X k1 o1 F w v1 w'∧WX P ops Q X ((k2,o2) :: rest) (DE F d1 v1) w':=h
          clear h
          obtain ⟨hkd,h⟩:=h'
          obtain ⟨rfl,hfix⟩:=hfix v1 w' hr hkd
          unfold WX at h
          rw [w2e,if_pos c2,hd2] at h
          have h:=DA (F':=F) s2 (offL_upd' hb) h
          refine DJ h (fun v2 w2 hk2=>?_) (fun c w' hz=>⟨hz.1,(hq _ _ _ _ _ (blt hda)).1 hz.2⟩)
          have hkd2:=KdOk.agree (F':=F) s2 (offL_upd' hb) hk2.1
          obtain ⟨hrun,hkd1⟩:=hfix v2 w2 hkd2
          refine ⟨hkd2,?_⟩
          show WX P ops Q X ((k1,o1) :: rest) (DE F d2 v2) w2
          unfold WX
          rw [w1e,if_pos c1,hd1]
          refine DA s1 (DH ha) ?_
          unfold DD
          rw [hrun]
          refine ⟨KdOk.agree s1 (DH ha) hkd1,?_⟩
          show WX P ops Q X rest (DE (DE F d2 v2) d1 v1) w2
          rw [e];exact hk2.2
      rcases hc2 with ((((hc2|hc2)|hc2)|hc2)|hc2)|hc2
      · -- the first reads
        obtain ⟨⟨hk,hv⟩,hc2⟩:=hc2
        have hk1:=Nat.eq_of_beq_eq_true hk
        subst hk1
        refine reads hv (by decide) fun v1 w1 hr hkd=>⟨hkd.k1 rfl,fun v2 w2 hk2=>?_⟩
        have e1:=hkd.k1 rfl
        subst e1
        have hrun:(execOp (CP F) ⟨none,o1.op,o1.type,"",#[],none⟩).run P w2 = .ok (.value v1) w2:=by
          rcases hc2 with (hc2|hc2)|hc2
          · rw [hk2.k1 (Nat.eq_of_beq_eq_true hc2)];exact hr
          · rw [(hk2.k4 (Nat.eq_of_beq_eq_true hc2)).1];exact hr
          · exact (rdOp_sta hc2.2 _ _ _ hr).2 _ (hk2.k2 (Nat.eq_of_beq_eq_true hc2.1))
        exact ⟨hrun,⟨fun _=>rfl,fun e=>(by cases e),fun e=>(by cases e),fun e=>(by cases e)⟩⟩
      · -- the first reads what is not of X
        obtain ⟨⟨hk,hv⟩,hc2⟩:=hc2
        have hk1:=Nat.eq_of_beq_eq_true hk
        subst hk1
        refine reads hv (by decide) fun v1 w1 hr hkd=>⟨(hkd.k4 rfl).1,fun v2 w2 hk2=>?_⟩
        have hkeep:Keep X w w2:=by
          rcases hc2 with ((hc2|hc2)|hc2)|hc2
          · rw [hk2.k1 (Nat.eq_of_beq_eq_true hc2)];exact Keep.refl _ _
          · exact (hk2.k2 (Nat.eq_of_beq_eq_true hc2)).nil
          · exact hk2.k3 (Nat.eq_of_beq_eq_true hc2)
          · rw [(hk2.k4 (Nat.eq_of_beq_eq_true hc2)).1];exact Keep.refl _ _
        exact ⟨(hkd.k4 rfl).2 w2 hkeep,⟨fun e=>(by cases e),fun e=>(by cases e),fun e=>(by cases e),fun _=>⟨rfl,fun w3 k3=>(hkd.k4 rfl).2 w3 (hkeep.trans k3)⟩⟩⟩
      · -- the first moves
        obtain ⟨v1,hr⟩:=QS (P:=P) hc2 F
        unfold DD at h
        rw [hr] at h
        have h:KdOk P X k1 o1 F w v1 w∧WX P ops Q X ((k2,o2) :: rest) (DE F d1 v1) w:=h
        have h:=h.2
        unfold WX at h
        rw [w2e,if_pos c2,hd2] at h
        have h:=DA (F':=F) s2 (offL_upd' hb) h
        refine DJ h (fun v2 w2 hk2=>⟨KdOk.agree (F':=F) s2 (offL_upd' hb) hk2.1,?_⟩) (fun c w' hz=>⟨hz.1,(hq _ _ _ _ _ (blt hda)).1 hz.2⟩)
        show WX P ops Q X ((k1,o1) :: rest) (DE F d2 v2) w2
        unfold WX
        rw [w1e,if_pos c1,hd1]
        refine DA s1 (DH ha) ?_
        unfold DD
        rw [hr]
        refine ⟨KdOk.agree s1 (DH ha) (KdOk.move hr),?_⟩
        show WX P ops Q X rest (DE (DE F d2 v2) d1 v1) w2
        rw [e];exact hk2.2
      · -- the first takes a tuple apart
        obtain ⟨v1,hr⟩:=VZ (P:=P) hc2 h
        unfold DD at h
        rw [hr] at h
        have h:KdOk P X k1 o1 F w v1 w∧WX P ops Q X ((k2,o2) :: rest) (DE F d1 v1) w:=h
        have h:=h.2
        unfold WX at h
        rw [w2e,if_pos c2,hd2] at h
        have h:=DA (F':=F) s2 (offL_upd' hb) h
        refine DJ h (fun v2 w2 hk2=>⟨KdOk.agree (F':=F) s2 (offL_upd' hb) hk2.1,?_⟩) (fun c w' hz=>⟨hz.1,(hq _ _ _ _ _ (blt hda)).1 hz.2⟩)
        show WX P ops Q X ((k1,o1) :: rest) (DE F d2 v2) w2
        unfold WX
        rw [w1e,if_pos c1,hd1]
        refine DA s1 (DH ha) ?_
        unfold DD
        rw [hr]
        refine ⟨KdOk.agree s1 (DH ha) (KdOk.move hr),?_⟩
        show WX P ops Q X rest (DE (DE F d2 v2) d1 v1) w2
        rw [e];exact hk2.2
      · -- the second takes a tuple apart
        obtain ⟨⟨hf,hk0⟩,hmk⟩:=hc2
        obtain ⟨v2,hr⟩:∃ v2,∀ w,(execOp (CP F) ⟨none,o2.op,o2.type,"",#[],none⟩).run P w = .ok (.value v2) w:=by
          have hk0:k1≠0:=MU (by simpa using hk0)
          have h:=h
          unfold DD at h
          cases hr:(execOp (CP F) ⟨none,o1.op,o1.type,"",#[],none⟩).run P w with
          | halt x w'=>rw [hr] at h;cases x <;> simp only [HA] at h <;> first|exact h.elim|exact absurd h.1 hk0
          | ok r w'=>
            obtain ⟨v1,rfl⟩:=mkV_val (o:=⟨none,o1.op,o1.type,"",#[],none⟩) hmk hr
            rw [hr] at h
            have h':KdOk P X k1 o1 F w v1 w'∧WX P ops Q X ((k2,o2) :: rest) (DE F d1 v1) w':=h
            have h':=h'.2
            unfold WX at h'
            rw [w2e,if_pos c2,hd2] at h'
            exact VZ hf (DA (F':=F) s2 (offL_upd' hb) h')
        unfold DD
        rw [hr]
        refine ⟨KdOk.move hr,?_⟩
        show WX P ops Q X ((k1,o1) :: rest) (DE F d2 v2) w
        unfold WX
        rw [w1e,if_pos c1,hd1]
        refine DA s1 (DH ha) (DJ h (fun v1 w1 hk1=>⟨KdOk.agree s1 (DH ha) hk1.1,?_⟩) (fun c w' hz=>⟨hz.1,(hq _ _ _ _ _ (blt hdb)).2 hz.2⟩))
        have h:=hk1.2
        have h:WX P ops Q X ((k2,o2) :: rest) (DE F d1 v1) w1:=h
        unfold WX at h
        rw [w2e,if_pos c2,hd2] at h
        have h:=DA (F':=F) s2 (offL_upd' hb) h
        unfold DD at h
        rw [hr] at h
        show WX P ops Q X rest (DE (DE F d2 v2) d1 v1) w1
        rw [e];exact h.2
      · -- the second moves
        obtain ⟨v2,hr⟩:=QS (P:=P) hc2 F
        unfold DD
        rw [hr]
        refine ⟨KdOk.move hr,?_⟩
        show WX P ops Q X ((k1,o1) :: rest) (DE F d2 v2) w
        unfold WX
        rw [w1e,if_pos c1,hd1]
        refine DA s1 (DH ha) (DJ h (fun v1 w1 hk1=>⟨KdOk.agree s1 (DH ha) hk1.1,?_⟩) (fun c w' hz=>⟨hz.1,(hq _ _ _ _ _ (blt hdb)).2 hz.2⟩))
        have h:=hk1.2
        have h:WX P ops Q X ((k2,o2) :: rest) (DE F d1 v1) w1:=h
        unfold WX at h
        rw [w2e,if_pos c2,hd2] at h
        have h:=DA (F':=F) s2 (offL_upd' hb) h
        unfold DD at h
        rw [hr] at h
        show WX P ops Q X rest (DE (DE F d2 v2) d1 v1) w1
        rw [e];exact h.2
    · rw [if_neg c2]
      show WX P ops Q X ((k1,o1) :: rest) (DE F d2 undef) w
      unfold WX
      rw [w1e,if_pos c1,hd1]
      refine DA s1 (DH ha) (DJ h (fun v1 w1 hk1=>⟨KdOk.agree s1 (DH ha) hk1.1,?_⟩) (fun c w' hz=>⟨hz.1,(hq _ _ _ _ _ (blt hdb)).2 hz.2⟩))
      have h:WX P ops Q X ((k2,o2) :: rest) (DE F d1 v1) w1:=hk1.2
      unfold WX at h
      rw [w2e,if_neg c2,hd2] at h
      show WX P ops Q X rest (DE (DE F d2 undef) d1 v1) w1
      rw [e];exact h
  · rw [if_neg c1] at h
    have h:WX P ops Q X ((k2,o2) :: rest) (DE F d1 undef) w:=h
    unfold WX at h
    rw [w2e,hd2] at h
    by_cases c2:Region.wanted o2 (CH ops F)=true
    · rw [if_pos c2] at h ⊢
      have h:=DA (F':=F) s2 (offL_upd' hb) h
      refine DJ h (fun v2 w2 hk2=>⟨KdOk.agree (F':=F) s2 (offL_upd' hb) hk2.1,?_⟩) (fun c w' hz=>⟨hz.1,(hq _ _ _ _ _ (blt hda)).1 hz.2⟩)
      show WX P ops Q X ((k1,o1) :: rest) (DE F d2 v2) w2
      unfold WX
      rw [w1e,if_neg c1,hd1]
      show WX P ops Q X rest (DE (DE F d2 v2) d1 undef) w2
      rw [e];exact hk2.2
    · rw [if_neg c2] at h ⊢
      show WX P ops Q X ((k1,o1) :: rest) (DE F d2 undef) w
      unfold WX
      rw [w1e,if_neg c1,hd1]
      show WX P ops Q X rest (DE (DE F d2 undef) d1 undef) w
      rw [e];exact h
def cmN (ops:List Oper) (a b:Nat × Oper):Bool:=(match a.2.dst,b.2.dst with|some da,none=>TH ops b.2 da | _,_=>false) && IP a.2.op && IP b.2.op && (mvO a.2 || frO a.2)
def cmB (ops:List Oper) (a b:Nat × Oper):Bool:=cmB2 ops a b || cmN ops a b
theorem wx_swapN {a b:Nat × Oper} {rest:List (Nat × Oper)} {F:Fr} {w:World} (hc:cmN ops a b=true) (hda:okD n a.2.dst=true) (hq:∀ c F d v w,d<n→(Q (.panic c) (DE F d v) w↔Q (.panic c) F w)) (h:WX P ops Q X (a :: b :: rest) F w):WX P ops Q X (b :: a :: rest) F w:=by
  obtain ⟨k1,o1⟩:=a
  obtain ⟨k2,o2⟩:=b
  unfold cmN at hc
  simp only [Bool.and_eq_true,Bool.or_eq_true] at hc hda
  obtain ⟨⟨⟨hc1,s1⟩,s2⟩,hc2⟩:=hc
  cases hd1:o1.dst with
  | none=>rw [hd1] at hc1;simp at hc1
  | some d1=>
  cases hd2:o2.dst with
  | some d2=>rw [hd1,hd2] at hc1;simp at hc1
  | none=>
  rw [hd1,hd2] at hc1
  have hb:TH ops o2 d1=true:=hc1
  rw [hd1] at hda
  have w2e:∀ v,Region.wanted o2 (CH ops (DE F d1 v))=Region.wanted o2 (CH ops F):=fun v=>HJ (DH hb)
  unfold WX at h
  rw [hd1] at h
  unfold WX
  rw [hd2]
  by_cases c1:Region.wanted o1 (CH ops F)=true
  · rw [if_pos c1] at h
    obtain ⟨v1,hr⟩:∃ v1,∀ w,(execOp (CP F) ⟨none,o1.op,o1.type,"",#[],none⟩).run P w = .ok (.value v1) w:=hc2.elim (fun hc2=>QS hc2 F) (fun hc2=>VZ hc2 h)
    unfold DD at h
    rw [hr] at h
    have h:KdOk P X k1 o1 F w v1 w∧WX P ops Q X ((k2,o2) :: rest) (DE F d1 v1) w:=h
    have h:=h.2
    unfold WX at h
    rw [w2e,hd2] at h
    by_cases c2:Region.wanted o2 (CH ops F)=true
    · rw [if_pos c2] at h ⊢
      have h:=DA (F':=F) s2 (offL_upd' hb) h
      refine DJ h (fun v2 w2 hk2=>⟨KdOk.agree (F':=F) s2 (offL_upd' hb) hk2.1,?_⟩) (fun c w' hz=>⟨hz.1,(hq _ _ _ _ _ (blt hda)).1 hz.2⟩)
      show WX P ops Q X ((k1,o1) :: rest) F w2
      unfold WX
      rw [if_pos c1,hd1]
      unfold DD
      rw [hr]
      exact ⟨KdOk.move hr,hk2.2⟩
    · rw [if_neg c2] at h ⊢
      show WX P ops Q X ((k1,o1) :: rest) F w
      unfold WX
      rw [if_pos c1,hd1]
      unfold DD
      rw [hr]
      exact ⟨KdOk.move hr,h⟩
  · rw [if_neg c1] at h
    have h:WX P ops Q X ((k2,o2) :: rest) (DE F d1 undef) w:=h
    unfold WX at h
    rw [w2e,hd2] at h
    by_cases c2:Region.wanted o2 (CH ops F)=true
    · rw [if_pos c2] at h ⊢
      have h:=DA (F':=F) s2 (offL_upd' hb) h
      refine DJ h (fun v2 w2 hk2=>⟨KdOk.agree (F':=F) s2 (offL_upd' hb) hk2.1,?_⟩) (fun c w' hz=>⟨hz.1,(hq _ _ _ _ _ (blt hda)).1 hz.2⟩)
      show WX P ops Q X ((k1,o1) :: rest) F w2
      unfold WX
      rw [if_neg c1,hd1]
      exact hk2.2
    · rw [if_neg c2] at h ⊢
      show WX P ops Q X ((k1,o1) :: rest) F w
      unfold WX
      rw [if_neg c1,hd1]
      exact h
theorem wx_swap {a b:Nat × Oper} {rest:List (Nat × Oper)} {F:Fr} {w:World} (hc:cmB ops a b=true) (hda:okD n a.2.dst=true) (hdb:okD n b.2.dst=true) (hq:∀ c F d v w,d<n→(Q (.panic c) (DE F d v) w↔Q (.panic c) F w)) (h:WX P ops Q X (a :: b :: rest) F w):WX P ops Q X (b :: a :: rest) F w:=by
  unfold cmB at hc
  rw [Bool.or_eq_true] at hc
  rcases hc with hc|hc
  · exact wx_swap2' hc hda hdb hq h
  · exact wx_swapN hc hda hq h
theorem wx_front {i:Nat × Oper} {r:List (Nat × Oper)} (hi:okD n i.2.dst=true) (hq:∀ c F d v w,d<n→(Q (.panic c) (DE F d v) w↔Q (.panic c) F w)):∀ (l:List (Nat × Oper)),(∀ j∈l,cmB ops j i=true∧okD n j.2.dst=true)→∀ F w,WX P ops Q X (l++i :: r) F w→WX P ops Q X (i :: (l++r)) F w
  | [],_,F,w,h=>h
  | j :: l,hl,F,w,h=>wx_swap (hl j List.mem_cons_self).1 (hl j List.mem_cons_self).2 hi hq (wx_cong (fun F w h=>wx_front hi hq l (fun x hx=>hl x (List.mem_cons_of_mem _ hx)) F w h) h)
end
open Go.RowKit
section
variable {P:Program} {n:Nat} {Q:Exit→Fr→World→Prop} {ops:List Oper} {X:List Nat} {rest:List (Nat × Oper)} {F:Fr} {w w':World} {d:Tmp} {op:Op} {ty:TypeId} {pos:String} {af:Array Edge} {j k:Nat} {b:Bool} {g:Option (Nat × Bool)}
def WR (P:Program) (ops:List Oper) (Q:Exit→Fr→World→Prop) (X:List Nat) (w0:World) (l:List (Nat × Oper)) (F:Fr) (w:World):Prop:=w=w0∧WX P ops Q X l F w
theorem EP (h:WX P ops Q X rest F w):WR P ops Q X w rest F w:=⟨rfl,h⟩
theorem FH (h:Q .normal F w):WX P ops Q X [] F w:=h
theorem wx_0 {o:Oper} (hw:Region.wanted o (CH ops F)=true) (h:DD P o.op o.type F w (fun v w'=>WX P ops Q X rest (GY F o.dst v) w') (fun c w'=>Q (.panic c) F w')):WX P ops Q X ((0,o) :: rest) F w:=by
  unfold WX
  rw [if_pos hw]
  exact DJ h (fun v w' hk=>⟨⟨fun e=>(by cases e),fun e=>(by cases e),fun e=>(by cases e),fun e=>(by cases e)⟩,hk⟩) (fun c w' hz=>⟨rfl,hz⟩)
theorem wx_1 {o:Oper} (hw:Region.wanted o (CH ops F)=true) (h:DD P o.op o.type F w (fun v w'=>WR P ops Q X w rest (GY F o.dst v) w') (fun _ _=>False)):WX P ops Q X ((1,o) :: rest) F w:=by
  unfold WX
  rw [if_pos hw]
  exact DJ h (fun v w' hk=>⟨⟨fun _=>hk.1,fun e=>(by cases e),fun e=>(by cases e),fun e=>(by cases e)⟩,hk.2⟩) (fun c w' hz=>hz.elim)
theorem wx_2 {o:Oper} (hw:Region.wanted o (CH ops F)=true) (h:DD P o.op o.type F w (fun v w'=>Keep [] w w'∧WX P ops Q X rest (GY F o.dst v) w') (fun _ _=>False)):WX P ops Q X ((2,o) :: rest) F w:=by
  unfold WX
  rw [if_pos hw]
  exact DJ h (fun v w' hk=>⟨⟨fun e=>(by cases e),fun _=>hk.1,fun e=>(by cases e),fun e=>(by cases e)⟩,hk.2⟩) (fun c w' hz=>hz.elim)
theorem VY {v:Value} (hv:vOp op=true) (h:DD P op ty F w (fun v' w'=>v'=v∧w'=w) (fun _ _=>False)):(execOp (CP F) ⟨none,op,ty,"",#[],none⟩).run P w = .ok (.value v) w:=by
  unfold DD at h
  cases hr:(execOp (CP F) ⟨none,op,ty,"",#[],none⟩).run P w with
  | halt x w'=>rw [hr] at h;cases x <;> exact h.elim
  | ok r w'=>
    obtain ⟨v1,rfl⟩:=VX (o:=⟨none,op,ty,"",#[],none⟩) hv hr
    rw [hr] at h
    have h:v1=v∧w'=w:=h
    rw [h.1,h.2]
theorem wx_4 {o:Oper} {v:Value} (hw:Region.wanted o (CH ops F)=true) (hv:vOp o.op=true) (hs:∀ w2,Keep X w w2→DD P o.op o.type F w2 (fun v' w'=>v'=v∧w'=w2) (fun _ _=>False)) (h:WX P ops Q X rest (GY F o.dst v) w):WX P ops Q X ((4,o) :: rest) F w:=by
  unfold WX
  rw [if_pos hw]
  unfold DD
  rw [VY hv (hs w (Keep.refl _ _))]
  exact ⟨⟨fun e=>(by cases e),fun e=>(by cases e),fun e=>(by cases e),fun _=>⟨rfl,fun w2 k2=>VY hv (hs w2 k2)⟩⟩,h⟩
theorem NH {d:Option Tmp} {y:Nat→Option Bool}:Region.wanted ⟨d,op,ty,pos,af,none⟩ y=true:=rfl
theorem UZ (h:DD P op ty F w (fun v w'=>WX P ops Q X rest (DE F d v) w') (fun c w'=>Q (.panic c) F w')):WX P ops Q X ((0,⟨some d,op,ty,pos,af,none⟩) :: rest) F w:=wx_0 NH h
theorem BS (h:DD P op ty F w (fun v w'=>WR P ops Q X w rest (DE F d v) w') (fun _ _=>False)):WX P ops Q X ((1,⟨some d,op,ty,pos,af,none⟩) :: rest) F w:=wx_1 NH h
theorem FA (h:DD P op ty F w (fun v w'=>Keep [] w w'∧WX P ops Q X rest (DE F d v) w') (fun _ _=>False)):WX P ops Q X ((2,⟨some d,op,ty,pos,af,none⟩) :: rest) F w:=wx_2 NH h
theorem CA {v:Value} (hv:vOp op=true) (hs:∀ w2,Keep X w w2→DD P op ty F w2 (fun v' w'=>v'=v∧w'=w2) (fun _ _=>False)) (h:WX P ops Q X rest (DE F d v) w):WX P ops Q X ((4,⟨some d,op,ty,pos,af,none⟩) :: rest) F w:=wx_4 NH hv hs h
theorem JM (h:DD P op ty F w (fun v w'=>WX P ops Q X rest F w') (fun c w'=>Q (.panic c) F w')):WX P ops Q X ((0,⟨none,op,ty,pos,af,none⟩) :: rest) F w:=wx_0 NH h
def VM (ops:List Oper) (seq:List (Nat × Nat)):List (Nat × Oper):=seq.filterMap fun p=>(ops[p.1]?).map fun o=>(p.2,o)
theorem UW {a b:List (Nat × Nat)}:VM ops (a++b)=VM ops a++VM ops b:=List.filterMap_append
theorem seqK_cons {i:Nat × Nat} {t:List (Nat × Nat)} (hil:i.1<ops.length):VM ops (i :: t)=(i.2,ops[i.1]) :: VM ops t:=by
  unfold VM;rw [List.filterMap_cons,List.getElem?_eq_getElem hil];rfl
def plR (op:Op):Bool:=
  vOp op || (match op with
  | .alloc _ | .buildSlice .. | .build .. | .store .. | .makeMap ..=>true
  | .call c=>(match c.callee with | .builtin .append=>true | _=>false)
  | _=>false)
theorem plR_val {o:Oper} (h:plR o.op=true) {ρ:Operand→Value} {w w':World} {r:Next} (e:(execOp ρ o).run P w = .ok r w'):(∃ v,r = .value v)∨r = .skip:=by
  unfold plR at h
  rw [Bool.or_eq_true] at h
  rcases h with h|h
  · exact .inl (VX h e)
  · have key:∀ (s:Sem Value),(do pure (Next.value (← s)):Sem Next).run P w = .ok r w'→∃ v,r = .value v:=fun s e=>by
      simp only [Sem.run_bind] at e
      cases hs:s.run P w with
      | ok x w2=>rw [hs] at e;simp only [Result.andThen_ok,Sem.run_pure] at e;cases e;exact ⟨_,rfl⟩
      | halt x w2=>rw [hs] at e;cases e
    have keyU:∀ (s:Sem Unit),(do s;pure Next.skip:Sem Next).run P w = .ok r w'→r = .skip:=fun s e=>by
      simp only [Sem.run_bind] at e
      cases hs:s.run P w with
      | ok x w2=>rw [hs] at e;simp only [Result.andThen_ok,Sem.run_pure] at e;cases e;rfl
      | halt x w2=>rw [hs] at e;cases e
    obtain ⟨d,op,ty,pos,af,g⟩:=o
    cases op with
    | store t a x=>exact .inr (keyU _ e)
    | alloc t=>exact .inl (key _ e)
    | makeMap t r=>exact .inl (key _ e)
    | buildSlice t l ps=>exact .inl (key _ e)
    | build t ps=>exact .inl (key _ e)
    | call c=>
      simp only at h
      split at h
      · rename_i hc
        simp only [execOp,resolve,invoke,hc,Sem.run_bind,Sem.run_pure,Result.andThen_ok,builtin] at e
        exact .inl (key (Builtin.append_ c.argTypes ty (Array.map ρ c.args)) (by simp only [Sem.run_bind,Sem.run_pure];exact e))
      · cases h
    | _=>simp at h
theorem opw_all {ι:Type} {A:List ι} (hne:A≠[]) {K:ι→Value→World→Prop} {Z:List PanicEntry→World→Prop} (hpl:A.length≤1∨plR op=true) (h:∀ a∈A,DD P op ty F w (K a) Z):DD P op ty F w (fun v w'=>∀ a∈A,K a v w') Z:=by
  match A,hne with
  | [a],_=>exact DJ (h a (by simp)) (fun v w' hk x hx=>by rw [List.mem_singleton.1 hx];exact hk) (fun c w' hz=>hz)
  | a :: b :: t,_=>
    have hp:plR op=true:=hpl.resolve_left (by simp)
    unfold DD at h ⊢
    cases hr:(execOp (CP F) ⟨none,op,ty,"",#[],none⟩).run P w with
    | halt x w'=>
      have:=h a (by simp)
      rw [hr] at this
      cases x <;> exact this
    | ok r w'=>
      rcases plR_val (o:=⟨none,op,ty,"",#[],none⟩) hp hr with ⟨v,rfl⟩|rfl
      · exact fun x hx=>by have:=h x hx;rw [hr] at this;exact this
      · exact fun x hx=>by have:=h x hx;rw [hr] at this;exact this
def pairK (ops:List Oper) (K:List Nat) (a b:Nat × Nat):Bool:=(JC ops b.1).contains a.1 || (match ops[a.1]?,ops[b.1]? with|some oa,some ob=>cmB ops (a.2,oa) (b.2,ob) | _,_=>false) || (K.contains a.1 && K.contains b.1) || EU ops b.1 a.1
def XD (ops:List Oper) (K:List Nat):List (Nat × Nat)→Bool
  | []=>true
  | a :: t=>(JC ops a.1).all (fun j=>!Nat.beq j a.1 && t.all (fun b=>!Nat.beq b.1 j)) && t.all (fun b=>!Nat.beq a.1 b.1 && pairK ops K a b) && XD ops K t
structure OrdK (ops:List Oper) (K:List Nat) (a b:Nat × Nat):Prop where
  ne:a.1≠b.1
  pair:pairK ops K a b=true
  top:b.1∉JC ops a.1
theorem TX {K:List Nat}:∀ {seq:List (Nat × Nat)},XD ops K seq=true→seq.Pairwise (OrdK ops K)∧∀ a∈seq,a.1∉JC ops a.1
  | [],_=>⟨List.Pairwise.nil,by simp⟩
  | a :: t,h=>by
    unfold XD at h
    simp only [Bool.and_eq_true] at h
    obtain ⟨⟨h1,h2⟩,h3⟩:=h
    obtain ⟨i1,i2⟩:=TX h3
    refine ⟨List.pairwise_cons.2 ⟨fun b hb=>?_,i1⟩,fun x hx=>?_⟩
    · have h4:=List.all_eq_true.1 h2 b hb
      simp only [Bool.and_eq_true] at h4
      refine ⟨MU h4.1,h4.2,fun hm=>?_⟩
      have h5:=List.all_eq_true.1 h1 _ hm
      simp only [Bool.and_eq_true] at h5
      exact MU (List.all_eq_true.1 h5.2 b hb) rfl
    · rcases List.mem_cons.1 hx with rfl|hx
      · intro hm
        have h5:=List.all_eq_true.1 h1 _ hm
        simp only [Bool.and_eq_true] at h5
        exact MU h5.1 rfl
      · exact i2 x hx
def plAt (ops:List Oper) (i:Nat):Bool:=match ops[i]? with|some o=>plR o.op|none=>false
def kf (K:List Nat) (seq:List (Nat × Nat)):List Nat:=(seq.map (·.1)).filter K.contains
theorem RR {K:List Nat} {a b:List (Nat × Nat)}:kf K (a++b)=kf K a++kf K b:=by unfold kf;rw [List.map_append,List.filter_append]
theorem kf_in {K:List Nat} {a:Nat × Nat} {b:List (Nat × Nat)} (h:K.contains a.1=true):kf K (a :: b)=a.1 :: kf K b:=by unfold kf;rw [List.map_cons,List.filter_cons,if_pos h]
theorem kf_out {K:List Nat} {a:Nat × Nat} {b:List (Nat × Nat)} (h:K.contains a.1=false):kf K (a :: b)=kf K b:=by unfold kf;rw [List.map_cons,List.filter_cons,if_neg (by rw [h];simp)]
def tchk (ops:List Oper):Nat→List (List Nat)→Bool
  | 0,ks=>ks.all (·.isEmpty)
  | f+1,ks=>match ks with
    | []=>true
    | k0 :: _=>k0.all fun i=>(k0.any fun j=>EU ops i j) || (!(ks.filter fun l=>l.head? == some i).isEmpty && (Nat.ble (ks.filter fun l=>l.head? == some i).length 1 || plAt ops i) && tchk ops f ((ks.filter fun l=>l.head? == some i).map List.tail))
def er (i:Nat) (seq:List (Nat × Nat)):List (Nat × Nat):=seq.filter fun p=>!Nat.beq p.1 i
theorem er_split {K:List Nat} {i ki:Nat} {seq:List (Nat × Nat)} (hp:seq.Pairwise (OrdK ops K)) (hm:(i,ki)∈seq):∃ l r,seq=l++(i,ki) :: r∧er i seq=l++r:=by
  obtain ⟨l,r,rfl⟩:=List.append_of_mem hm
  refine ⟨l,r,rfl,?_⟩
  obtain ⟨_,h2,h3⟩:=List.pairwise_append.1 hp
  have h4:=List.pairwise_cons.1 h2
  unfold er
  have nb:∀ a b:Nat,a≠b→(!Nat.beq a b)=true:=fun a b h=>by
    cases hb:Nat.beq a b with
    | false=>rfl
    | true=>exact absurd (Nat.eq_of_beq_eq_true hb) h
  rw [List.filter_append,List.filter_cons,if_neg (by simp),List.filter_eq_self.2 fun x hx=>nb _ _ (h3 x hx _ List.mem_cons_self).ne,List.filter_eq_self.2 fun x hx=>nb _ _ (h4.1 x hx).ne.symm]
structure Alive (P:Program) (ops:List Oper) (Q:Exit→Fr→World→Prop) (X:List Nat) (K:List Nat) (A:List (List (Nat × Nat))) (listed:Array Bool) (F:Fr) (w:World):Prop where
  ne:A≠[]
  mem:∀ seq∈A,∀ j,j<ops.length→(listed[j]? = some true↔∀ k,(j,k)∉seq)
  lt:∀ seq∈A,∀ p∈seq,p.1<ops.length
  ord:∀ seq∈A,seq.Pairwise (OrdK ops K)
  self:∀ seq∈A,∀ a∈seq,a.1∉JC ops a.1
  down:∀ i,listed[i]? = some true→∀ j∈JC ops i,listed[j]? = some true
  tree:∃ f,tchk ops f (A.map (kf K))=true
  one:A.length≤1∨∀ i,i<ops.length→K.contains i=true∨plAt ops i=true
  wx:∀ seq∈A,WX P ops Q X (VM ops seq) F w
theorem comm_runM {K:List Nat} (hok:ops.all (RC n ops)=true) (hq:∀ c F d v w,d<n→(Q (.panic c) (DE F d v) w↔Q (.panic c) F w)) (hin:∀ k,k<ops.length→∀ j∈JC ops k,j<ops.length) :
    ∀ (fuel:Nat) (A:List (List (Nat × Nat))) (listed:Array Bool) (F1:Fr) (w1:World),listed.size=ops.length→PD ops listed≤fuel→Alive P ops Q X K A listed F1 w1→wpAny P .any ops.toArray (KV n Q) fuel listed (mk n F1) w1:=by
  intro fuel
  have fin:∀ (fuel:Nat) (listed:Array Bool) (F1:Fr) (w1:World),listed.size=ops.length→PD ops listed≤fuel→(∀ j,j<ops.length→(listed[j]? = some true↔∀ k,(j,k)∉([]:List (Nat × Nat))))→(∀ i,listed[i]? = some true→∀ j∈JC ops i,listed[j]? = some true)→WX P ops Q X (VM ops []) F1 w1→wpAny P .any ops.toArray (KV n Q) fuel listed (mk n F1) w1:=fun fuel listed F1 w1 hsz hfu hl hdown h=>
    IH hok hin [] fuel listed F1 w1 hsz hfu (fun j hj=>⟨fun _=>by simp,fun _=>(hl j hj).2 (by simp)⟩) (by simp) (by simp) rfl hdown h
  have first:∀ (A:List (List (Nat × Nat))),A≠[]→∃ seq,seq∈A:=fun A h=>by
    cases A with
    | nil=>exact absurd rfl h
    | cons a t=>exact ⟨a,by simp⟩
  induction fuel with
  | zero=>
    intro A listed F1 w1 hsz hfu hA
    obtain ⟨seq,hs⟩:=first A hA.ne
    cases seq with
    | nil=>exact fin 0 listed F1 w1 hsz hfu (hA.mem _ hs) hA.down (hA.wx _ hs)
    | cons a t=>
      exfalso
      have h0:PD ops listed=0:=by omega
      unfold PD at h0
      have ha:=hA.lt _ hs a (by simp)
      have:=List.countP_eq_zero.1 h0 a.1 (by simp;omega)
      exact (hA.mem _ hs a.1 ha).1 (by simpa using this) a.2 (by simp)
  | succ fuel ih=>
    intro A listed F1 w1 hsz hfu hA
    obtain ⟨seq0,hs0⟩:=first A hA.ne
    cases hseq0:seq0 with
    | nil=>subst hseq0;exact fin (fuel+1) listed F1 w1 hsz hfu (hA.mem _ hs0) hA.down (hA.wx _ hs0)
    | cons a t=>
      have hset:∀ i,i<ops.length→∀ j,(listed.setIfInBounds i true)[j]? = some true↔j=i∨listed[j]? = some true:=fun i hi j=>by
        rw [Array.getElem?_setIfInBounds]
        by_cases hji:i=j
        · subst hji;simp;omega
        · rw [if_neg hji];exact ⟨fun h=>.inr h,fun h=>h.resolve_left (fun e=>hji e.symm)⟩
      refine ⟨fun h0=>?_,fun i hi=>?_⟩
      · have hs0':=hs0
        rw [hseq0] at hs0'
        have ha:=hA.lt _ hs0' a (by simp)
        have hnl:listed[a.1]? = some false:=by
          have h1:¬ listed[a.1]? = some true:=fun e=>((hA.mem _ hs0' a.1 ha).1 e) a.2 (by simp)
          have:a.1<listed.size:=by omega
          rw [Array.getElem?_eq_getElem this] at h1 ⊢
          simpa using h1
        have:=ready_of' hsz ha hnl (fun j hj=>by
          refine (hA.mem _ hs0' j (hin a.1 ha j hj)).2 fun k hm=>?_
          rcases List.mem_cons.1 hm with e|hm
          · exact hA.self _ hs0' a (by simp) (by rw [← e];exact (by rw [← e] at hj;exact hj))
          · exact (List.rel_of_pairwise_cons (hA.ord _ hs0') hm).top hj)
        rw [h0] at this;cases this
      · obtain ⟨hnl,hil⟩:=LQ hi hsz
        have hmem:∀ seq∈A,∃ k,(i,k)∈seq:=fun seq hs=>Classical.byContradiction fun hc=>by have:=(hA.mem seq hs i hil).2 (fun k hk=>hc ⟨k,hk⟩);rw [hnl] at this;cases this
        have hready:=IM (List.getElem?_eq_getElem hil) hi hsz (hin i hil)
        have hwait:∀ q,EU ops i q=true→listed[q]? = some true:=fun q hq=>by
          unfold EU at hq
          exact IW (D:=fun j=>listed[j]? = some true) hA.down _ _ hready q (by simpa using hq)
        -- the orders in which it can come next
        have key:∃ B:List (List (Nat × Nat)),(B.length≤1∨plAt ops i=true)∧B≠[]∧(∀ seq∈B,seq∈A∧(K.contains i=true→(kf K seq).head? = some i))∧(B.length≤A.length)∧∃ f,tchk ops f (B.map fun seq=>kf K (er i seq))=true:=by
          have hkf:∀ seq∈A,(K.contains i=false→kf K (er i seq)=kf K seq)∧(K.contains i=true→i∈kf K seq∧((kf K seq).head? = some i→kf K (er i seq)=(kf K seq).tail)):=fun seq hs=>by
            obtain ⟨k,hk⟩:=hmem seq hs
            obtain ⟨l,r,e1,e2⟩:=er_split (hA.ord seq hs) hk
            refine ⟨fun hc=>?_,fun hc=>⟨?_,fun hh=>?_⟩⟩
            · rw [e2,e1,RR,RR,kf_out hc]
            · rw [e1,RR,kf_in hc];simp
            · rw [e2,e1,RR,RR,kf_in hc]
              rw [e1,RR,kf_in hc] at hh
              cases hl:kf K l with
              | nil=>rfl
              | cons x y=>
                exfalso
                rw [hl] at hh
                have hx:x=i:=by simpa using hh
                subst hx
                have:x∈kf K l:=by rw [hl];simp
                unfold kf at this
                obtain ⟨p,hp,hpx⟩:=List.mem_map.1 (List.mem_filter.1 this).1
                have ho:=hA.ord seq hs
                rw [e1] at ho
                exact ((List.pairwise_append.1 ho).2.2 p hp (x,k) List.mem_cons_self).ne hpx
          cases hKi:K.contains i with
          | false=>
            refine ⟨A,hA.one.imp (fun h=>h) (fun h=>(h i hil).resolve_left (by rw [hKi];simp)),hA.ne,fun seq hs=>⟨hs,fun e=>by cases e⟩,Nat.le_refl _,?_⟩
            obtain ⟨f,hf⟩:=hA.tree
            refine ⟨f,?_⟩
            rw [List.map_congr_left fun seq hs=>(hkf seq hs).1 hKi];exact hf
          | true=>
            obtain ⟨f,hf⟩:=hA.tree
            cases f with
            | zero=>
              exfalso
              unfold tchk at hf
              have:=List.all_eq_true.1 hf (kf K seq0) (List.mem_map.2 ⟨seq0,hs0,rfl⟩)
              have h2:=((hkf seq0 hs0).2 hKi).1
              rw [List.isEmpty_iff.1 this] at h2;cases h2
            | succ f=>
              cases hA2:A with
              | nil=>exact absurd hA2 hA.ne
              | cons q A2=>
                unfold tchk at hf
                rw [hA2,List.map_cons] at hf
                simp only at hf
                have hqA:q∈A:=by rw [hA2];simp
                have h1:=List.all_eq_true.1 hf i ((hkf q hqA).2 hKi).1
                rw [Bool.or_eq_true,List.any_eq_true] at h1
                rcases h1 with ⟨j,hj,hw⟩|h1
                · exfalso
                  unfold kf at hj
                  obtain ⟨p,hp,hpj⟩:=List.mem_map.1 (List.mem_filter.1 hj).1
                  subst hpj
                  exact (hA.mem q hqA p.1 (hA.lt q hqA p hp)).1 (hwait _ hw) p.2 hp
                · simp only [Bool.and_eq_true] at h1
                  obtain ⟨⟨h2,h2b⟩,h3⟩:=h1
                  rw [← List.map_cons,← hA2] at h2 h2b h3
                  refine ⟨A.filter fun seq=>(kf K seq).head? == some i,?_,fun e=>?_,fun seq hs=>?_,by rw [← hA2];exact List.length_filter_le _ _,f,?_⟩
                  · rw [List.filter_map,List.length_map,Bool.or_eq_true] at h2b
                    exact h2b.imp (fun h=>Nat.le_of_ble_eq_true h) (fun h=>h)
                  · rw [List.filter_map] at h2
                    have:A.filter ((fun l:List Nat=>l.head? == some i) ∘ kf K)=[]:=e
                    rw [this] at h2;simp at h2
                  · obtain ⟨a1,a2⟩:=List.mem_filter.1 hs
                    exact ⟨by rw [← hA2];exact a1,fun _=>by simpa using a2⟩
                  · rw [List.filter_map,List.map_map] at h3
                    rw [List.map_congr_left (g:=List.tail ∘ kf K) fun seq hs=>?_]
                    · exact h3
                    · obtain ⟨a1,a2⟩:=List.mem_filter.1 hs
                      exact ((hkf seq a1).2 hKi).2 (by simpa using a2)
        obtain ⟨B,hB1,hBne,hB,hBl,f,hf⟩:=key
        -- in each of them it comes to the front
        have front:∀ seq∈B,∃ k l r,seq=l++(i,k) :: r∧er i seq=l++r∧WX P ops Q X ((k,ops[i]) :: VM ops (l++r)) F1 w1:=fun seq hs=>by
          obtain ⟨hsA,hhead⟩:=hB seq hs
          obtain ⟨k,hk⟩:=hmem seq hsA
          obtain ⟨l,r,e1,e2⟩:=er_split (hA.ord seq hsA) hk
          refine ⟨k,l,r,e1,e2,?_⟩
          have h:=hA.wx seq hsA
          have hp:=hA.ord seq hsA
          rw [e1] at h hp hhead
          obtain ⟨hpl,hpir,hplr⟩:=List.pairwise_append.1 hp
          rw [UW,seqK_cons (i:=(i,k)) hil] at h
          have h:=wx_front (n:=n) (IZ (List.all_eq_true.1 hok _ (List.getElem_mem hil))) hq _ (fun j hj=>by
            unfold VM at hj
            obtain ⟨x,hx,hxj⟩:=List.mem_filterMap.1 hj
            have hxs:x∈seq:=by rw [e1];exact List.mem_append_left _ hx
            have hxl:=hA.lt seq hsA x hxs
            rw [List.getElem?_eq_getElem hxl] at hxj
            simp only [Option.map_some,Option.some.injEq] at hxj
            subst hxj
            refine ⟨?_,IZ (List.all_eq_true.1 hok _ (List.getElem_mem hxl))⟩
            have h2:=(hplr x hx (i,k) List.mem_cons_self).pair
            have hxn:¬ listed[x.1]? = some true:=fun e=>(hA.mem seq hsA x.1 hxl).1 e x.2 hxs
            unfold pairK at h2
            simp only [List.getElem?_eq_getElem hxl,List.getElem?_eq_getElem hil,Bool.or_eq_true] at h2
            rcases h2 with ((h2|h2)|h2)|h2
            · exact absurd (hready x.1 (by simpa using h2)) hxn
            · exact h2
            · exfalso
              rw [Bool.and_eq_true] at h2
              have hh:=hhead h2.2
              rw [RR] at hh
              have hxk:x.1∈kf K l:=by unfold kf;exact List.mem_filter.2 ⟨List.mem_map.2 ⟨x,hx,rfl⟩,h2.1⟩
              cases hl:kf K l with
              | nil=>rw [hl] at hxk;cases hxk
              | cons y z=>
                rw [hl] at hh
                have hy:y=i:=by simpa using hh
                have:y∈kf K l:=by rw [hl];simp
                unfold kf at this
                obtain ⟨p,hp,hpx⟩:=List.mem_map.1 (List.mem_filter.1 this).1
                exact (hplr p hp (i,k) List.mem_cons_self).ne (hpx.trans hy)
            · exact absurd (hwait x.1 h2) hxn) _ _ h
          rw [← UW] at h
          exact h
        refine OQ (K:=fun F w=>∀ seq∈B,WX P ops Q X (VM ops (er i seq)) F w) hok (List.getElem?_eq_getElem hil) (fun F w hK=>ih (B.map (er i)) _ F w (by simpa using hsz) (by have:=KY hil hsz hnl;omega) ?_) (fun hw=>?_) (fun hw=>?_)
        · refine ⟨by simpa using hBne,fun s hs j hj=>?_,fun s hs p hp=>?_,fun s hs=>?_,fun s hs p hp=>?_,fun j hj x hx=>?_,⟨f,by rw [List.map_map];exact hf⟩,?_,fun s hs=>?_⟩
          · obtain ⟨seq,hsB,rfl⟩:=List.mem_map.1 hs
            obtain ⟨hsA,_⟩:=hB seq hsB
            obtain ⟨k,l,r,e1,e2,_⟩:=front seq hsB
            have hp:=hA.ord seq hsA
            rw [hset i hil j,hA.mem seq hsA j hj,e2]
            rw [e1] at hp ⊢
            obtain ⟨hpl,hpir,hplr⟩:=List.pairwise_append.1 hp
            have hir:=List.pairwise_cons.1 hpir
            constructor
            · rintro (rfl|h1)
              · exact fun q hc=>(List.mem_append.1 hc).elim (fun h=>(hplr _ h (j,k) List.mem_cons_self).ne rfl) (fun h=>(hir.1 _ h).ne rfl)
              · exact fun q hc=>h1 q ((List.mem_append.1 hc).elim (fun h=>List.mem_append_left _ h) fun h=>List.mem_append_right _ (List.mem_cons_of_mem _ h))
            · intro h1
              by_cases hji:j=i
              · exact .inl hji
              · exact .inr fun q hc=>h1 q ((List.mem_append.1 hc).elim (fun h=>List.mem_append_left _ h) fun h=>(List.mem_cons.1 h).elim (fun e=>absurd (congrArg Prod.fst e) hji) (fun h=>List.mem_append_right _ h))
          · obtain ⟨seq,hsB,rfl⟩:=List.mem_map.1 hs
            exact hA.lt seq (hB seq hsB).1 p (List.mem_filter.1 hp).1
          · obtain ⟨seq,hsB,rfl⟩:=List.mem_map.1 hs
            exact List.Pairwise.sublist List.filter_sublist (hA.ord seq (hB seq hsB).1)
          · obtain ⟨seq,hsB,rfl⟩:=List.mem_map.1 hs
            exact hA.self seq (hB seq hsB).1 p (List.mem_filter.1 hp).1
          · rw [hset i hil x]
            rcases (hset i hil j).1 hj with h1|h1
            · subst h1;exact .inr (hready x hx)
            · exact .inr (hA.down j h1 x hx)
          · rw [List.length_map]
            exact hA.one.imp (fun h=>Nat.le_trans hBl h) (fun h=>h)
          · obtain ⟨seq,hsB,rfl⟩:=List.mem_map.1 hs
            exact hK seq hsB
        · have hone:B.length≤1∨plR ops[i].op=true:=hB1.imp (fun h=>h) (fun h=>by unfold plAt at h;rw [List.getElem?_eq_getElem hil] at h;exact h)
          refine opw_all hBne hone fun seq hs=>?_
          obtain ⟨k,l,r,e1,e2,h⟩:=front seq hs
          rw [e2]
          unfold WX at h
          rw [if_pos hw] at h
          exact DJ h (fun v w' hk=>hk.2) (fun c w' hz=>hz.2)
        · intro seq hs
          obtain ⟨k,l,r,e1,e2,h⟩:=front seq hs
          rw [e2]
          unfold WX at h
          rw [if_neg (by rw [hw];simp)] at h
          exact h
def AllC (p:List (Nat × Nat)→Prop):List (List (Nat × Nat))→Prop
  | []=>True
  | a :: t=>p a∧AllC p t
theorem AllC.all {p:List (Nat × Nat)→Prop}:∀ {l:List (List (Nat × Nat))},AllC p l→∀ a∈l,p a
  | x :: t,h,a,ha=>by
    rcases List.mem_cons.1 ha with rfl|ha
    · exact h.1
    · exact AllC.all h.2 a ha
def commM (ops:List Oper) (K:List Nat) (cls:List (List (Nat × Nat))):Bool:=
  !cls.isEmpty && (Nat.ble cls.length 1 || (List.range ops.length).all (fun i=>K.contains i || plAt ops i)) && (List.range ops.length).all (fun i=>(JC ops i).all (fun j=>Nat.blt j ops.length)) &&
  cls.all (fun seq=>(List.range ops.length).all (fun i=>seq.any (fun p=>Nat.beq p.1 i)) && seq.all (fun p=>Nat.blt p.1 ops.length) && XD ops K seq) && tchk ops ops.length (cls.map (kf K))
theorem FM {id:Nat} (X:List Nat) (K:List Nat) (cls:List (List (Nat × Nat))) (hqp:∀ c F d v w,d<n→(Q (.panic c) (DE F d v) w↔Q (.panic c) F w)) (hm:P.follows .mixedOrders=true) (hok:ops.all (RC n ops)=true) (hc:commM ops K cls=true)
    (h:∀ w1,Keep [] w w1→AllC (fun seq=>WX P ops Q X (VM ops seq) F w1) cls):CW P (ro:=none) n (.region id ops.toArray true) Q F w:=by
  unfold commM at hc
  simp only [Bool.and_eq_true] at hc
  obtain ⟨⟨⟨⟨h1,h2⟩,h3⟩,h4⟩,h5⟩:=hc
  have g4:∀ seq∈cls,(∀ i,i<ops.length→∃ p∈seq,p.1=i)∧(∀ p∈seq,p.1<ops.length)∧XD ops K seq=true:=fun seq hs=>by
    have:=List.all_eq_true.1 h4 seq hs
    simp only [Bool.and_eq_true] at this
    obtain ⟨⟨a1,a2⟩,a3⟩:=this
    refine ⟨fun i hi=>?_,fun p hp=>blt (List.all_eq_true.1 a2 p hp),a3⟩
    obtain ⟨p,hp,e⟩:=List.any_eq_true.1 (List.all_eq_true.1 a1 i (by simpa using hi))
    exact ⟨p,hp,Nat.eq_of_beq_eq_true e⟩
  refine wpIn_wide.2 (wp_region_any hm ?_)
  rw [show ({ w with drawn:=w.drawn+1 }:World)=w.drew from rfl,List.size_toArray]
  refine comm_runM (K:=K) (X:=X) hok hqp (fun k hk j hj=>blt (List.all_eq_true.1 (List.all_eq_true.1 h3 k (by simpa using hk)) j hj)) ops.length cls _ F w.drew (by simp) ?_ ⟨?_,fun seq hs j hj=>?_,fun seq hs=>(g4 seq hs).2.1,fun seq hs=>(TX (g4 seq hs).2.2).1,fun seq hs=>(TX (g4 seq hs).2.2).2,fun i hi=>?_,⟨_,h5⟩,?_,(h w.drew (Keep.drew [] w)).all⟩
  · unfold PD;exact Nat.le_trans (List.countP_le_length) (by simp)
  · intro e;rw [e] at h1;simp at h1
  · simp only [Array.getElem?_replicate,hj,if_true]
    constructor
    · intro e;cases e
    · intro e
      obtain ⟨p,hp,rfl⟩:=(g4 seq hs).1 j hj
      exact absurd hp (e p.2)
  · exfalso
    rw [Array.getElem?_replicate] at hi
    split at hi <;> simp at hi
  · rw [Bool.or_eq_true] at h2
    refine h2.imp (fun h=>Nat.le_of_ble_eq_true h) (fun h i hi=>?_)
    have:=List.all_eq_true.1 h i (by simpa using hi)
    rwa [Bool.or_eq_true] at this
end
end Go.Fw
namespace Go.Proofs.Ytjgfokolnkhafaa
open Go.Fw Go.RowKit
theorem OB:DZ Try.prog 3=some 1:=by kernel_rfl
theorem z_3:GF Try.prog 3=some (.int .i64 0):=by kernel_rfl
theorem i_3:(Try.prog.info? 3).map (fun i=>(i.zero,i.size,i.bytes))=some (some (.int .i64 0),1,8):=by kernel_rfl
theorem s_4:DZ Try.prog 4=some 1:=by kernel_rfl
theorem z_4:GF Try.prog 4=some (.bool false):=by kernel_rfl
theorem i_4:(Try.prog.info? 4).map (fun i=>(i.zero,i.size,i.bytes))=some (some (.bool false),1,1):=by kernel_rfl
theorem JD:DZ Try.prog 5=some 1:=by kernel_rfl
theorem z_5:GF Try.prog 5=some (.int .u8 0):=by kernel_rfl
theorem i_5:(Try.prog.info? 5).map (fun i=>(i.zero,i.size,i.bytes))=some (some (.int .u8 0),1,1):=by kernel_rfl
theorem s_22:DZ Try.prog 22=some 1:=by kernel_rfl
theorem s_23:DZ Try.prog 23=some 1:=by kernel_rfl
theorem z_23:GF Try.prog 23=some (.slice none 0 0):=by kernel_rfl
theorem i_23:(Try.prog.info? 23).map (fun i=>(i.zero,i.size,i.bytes))=some (some (.slice none 0 0),1,24):=by kernel_rfl
theorem YV:DZ Try.prog 26=some 1:=by kernel_rfl
theorem BJ:DZ Try.prog 28=some 5:=by kernel_rfl
theorem IO:GF Try.prog 28=some (.agg #[.int .i64 0, .int .i64 0, .int .i64 0, .slice none 0 0, .slice none 0 0]):=by kernel_rfl
theorem TA:LU Try.prog 28=some [(0,1),(1,1),(2,1),(3,1),(4,1)]:=by kernel_rfl
theorem MF:DB Try.prog 28 0=some 0:=by kernel_rfl
theorem KK:DB Try.prog 28 1=some 1:=by kernel_rfl
theorem f_28_2:DB Try.prog 28 2=some 2:=by kernel_rfl
theorem LK:DB Try.prog 28 3=some 3:=by kernel_rfl
theorem EF:DB Try.prog 28 4=some 4:=by kernel_rfl
theorem PF:DZ Try.prog 29=some 1:=by kernel_rfl
theorem z_29:GF Try.prog 29=some (.int .i64 0):=by kernel_rfl
theorem s_32:DZ Try.prog 32=some 1:=by kernel_rfl
theorem z_32:GF Try.prog 32=some (.slice none 0 0):=by kernel_rfl
theorem s_36:DZ Try.prog 36=some 1:=by kernel_rfl
theorem s_37:DZ Try.prog 37=some 1:=by kernel_rfl
theorem z_39:GF Try.prog 39=some (.agg #[.int .i64 0, .int .i64 0, .int .i64 0, .slice none 0 0, .slice none 0 0, .slice none 0 0, .slice none 0 0, .bool false, .slice none 0 0, .slice none 0 0, .slice none 0 0, .slice none 0 0]):=by kernel_rfl
theorem pl_39:LU Try.prog 39=some [(0,5),(5,1),(6,1),(7,1),(8,1),(9,1),(10,1),(11,1)]:=by kernel_rfl
theorem ED:DB Try.prog 39 0=some 0:=by kernel_rfl
theorem ML:DB Try.prog 39 1=some 5:=by kernel_rfl
theorem UA:DB Try.prog 39 2=some 6:=by kernel_rfl
theorem f_39_3:DB Try.prog 39 3=some 7:=by kernel_rfl
theorem f_39_4:DB Try.prog 39 4=some 8:=by kernel_rfl
theorem OD:DB Try.prog 39 5=some 9:=by kernel_rfl
theorem f_39_6:DB Try.prog 39 6=some 10:=by kernel_rfl
theorem NL:DB Try.prog 39 7=some 11:=by kernel_rfl
theorem s_41:DZ Try.prog 41=some 7:=by kernel_rfl
theorem z_41:GF Try.prog 41=some (.agg #[.int .u8 0, .int .i64 0, .int .i64 0, .int .i64 0, .slice none 0 0, .slice none 0 0, .int .i64 0]):=by kernel_rfl
theorem XN:LU Try.prog 41=some [(0,1),(1,1),(2,1),(3,1),(4,1),(5,1),(6,1)]:=by kernel_rfl
theorem f_41_0:DB Try.prog 41 0=some 0:=by kernel_rfl
theorem GU:DB Try.prog 41 1=some 1:=by kernel_rfl
theorem f_41_2:DB Try.prog 41 2=some 2:=by kernel_rfl
theorem QE:DB Try.prog 41 3=some 3:=by kernel_rfl
theorem WH:DB Try.prog 41 4=some 4:=by kernel_rfl
theorem f_41_5:DB Try.prog 41 5=some 5:=by kernel_rfl
theorem f_41_6:DB Try.prog 41 6=some 6:=by kernel_rfl
theorem GK:DZ Try.prog 68=some 5:=by kernel_rfl
theorem OZ:GF Try.prog 68=some (.agg #[.int .i64 0, .int .i64 0, .int .i64 0, .slice none 0 0, .slice none 0 0]):=by kernel_rfl
theorem VN:(Try.prog.info? 68).map (fun i=>(i.zero,i.size,i.bytes))=some (some (.agg #[.int .i64 0, .int .i64 0, .int .i64 0, .slice none 0 0, .slice none 0 0]),5,72):=by kernel_rfl
theorem pl_68:LU Try.prog 68=some [(0,1),(1,1),(2,1),(3,1),(4,1)]:=by kernel_rfl
theorem f_68_0:DB Try.prog 68 0=some 0:=by kernel_rfl
theorem QB:DB Try.prog 68 1=some 1:=by kernel_rfl
theorem LO:DB Try.prog 68 2=some 2:=by kernel_rfl
theorem UV:DB Try.prog 68 3=some 3:=by kernel_rfl
theorem f_68_4:DB Try.prog 68 4=some 4:=by kernel_rfl
theorem EN:DZ Try.prog 70=some 5:=by kernel_rfl
theorem PG:GF Try.prog 70=some (.agg #[.int .i64 0, .int .i64 0, .int .i64 0, .int .i64 0, .slice none 0 0]):=by kernel_rfl
theorem i_70:(Try.prog.info? 70).map (fun i=>(i.zero,i.size,i.bytes))=some (some (.agg #[.int .i64 0, .int .i64 0, .int .i64 0, .int .i64 0, .slice none 0 0]),5,56):=by kernel_rfl
theorem pl_70:LU Try.prog 70=some [(0,1),(1,1),(2,1),(3,1),(4,1)]:=by kernel_rfl
theorem KC:DB Try.prog 70 0=some 0:=by kernel_rfl
theorem QF:DB Try.prog 70 1=some 1:=by kernel_rfl
theorem KW:DB Try.prog 70 2=some 2:=by kernel_rfl
theorem KT:DB Try.prog 70 3=some 3:=by kernel_rfl
theorem HT:DB Try.prog 70 4=some 4:=by kernel_rfl
theorem s_75:DZ Try.prog 75=some 1:=by kernel_rfl
theorem z_75:GF Try.prog 75=some (.map none):=by kernel_rfl
theorem i_75:(Try.prog.info? 75).map (fun i=>(i.zero,i.size,i.bytes))=some (some (.map none),1,8):=by kernel_rfl
theorem s_83:DZ Try.prog 83=some 1:=by kernel_rfl
theorem z_83:GF Try.prog 83=some (.slice none 0 0):=by kernel_rfl
theorem z_113:GF Try.prog 113=some (.agg #[.int .i64 0, .int .i64 0, .int .i64 0, .slice none 0 0, .slice none 0 0]):=by kernel_rfl
theorem pl_113:LU Try.prog 113=some [(0,5)]:=by kernel_rfl
theorem GC:DB Try.prog 113 0=some 0:=by kernel_rfl
theorem s_125:DZ Try.prog 125=some 1:=by kernel_rfl
theorem QA:GF Try.prog 125=some (.agg #[.int .i64 0]):=by kernel_rfl
theorem ND:LU Try.prog 125=some [(0,1)]:=by kernel_rfl
theorem f_125_0:DB Try.prog 125 0=some 0:=by kernel_rfl
theorem s_132:DZ Try.prog 132=some 1:=by kernel_rfl
theorem z_132:GF Try.prog 132=some (.map none):=by kernel_rfl
theorem s_134:DZ Try.prog 134=some 8:=by kernel_rfl
theorem z_134:GF Try.prog 134=some (.agg #[.int .u8 0, .int .u8 0, .int .u8 0, .int .u8 0, .int .u8 0, .int .u8 0, .int .u8 0, .int .u8 0]):=by kernel_rfl
theorem enter_9 (xs:Array Value) (w:World):(callFunc 9 xs).run Try.prog w = .ok (.enter 9 xs) w:=BA Try.func9 (by kernel_rfl) rfl xs w
theorem enter_10 (xs:Array Value) (w:World):(callFunc 10 xs).run Try.prog w = .ok (.enter 10 xs) w:=BA Try.func10 (by kernel_rfl) rfl xs w
theorem SF (xs:Array Value) (w:World):(callFunc 11 xs).run Try.prog w = .ok (.enter 11 xs) w:=BA Try.func11 (by kernel_rfl) rfl xs w
theorem LJ (xs:Array Value) (w:World):(callFunc 12 xs).run Try.prog w = .ok (.enter 12 xs) w:=BA Try.func12 (by kernel_rfl) rfl xs w
theorem PM (xs:Array Value) (w:World):(callFunc 13 xs).run Try.prog w = .ok (.enter 13 xs) w:=BA Try.func13 (by kernel_rfl) rfl xs w
theorem PV (xs:Array Value) (w:World):(callFunc 14 xs).run Try.prog w = .ok (.enter 14 xs) w:=BA Try.func14 (by kernel_rfl) rfl xs w
theorem XT (xs:Array Value) (w:World):(callFunc 15 xs).run Try.prog w = .ok (.enter 15 xs) w:=BA Try.func15 (by kernel_rfl) rfl xs w
theorem QC (xs:Array Value) (w:World):(callFunc 16 xs).run Try.prog w = .ok (.enter 16 xs) w:=BA Try.func16 (by kernel_rfl) rfl xs w
theorem XH (xs:Array Value) (w:World):(callFunc 17 xs).run Try.prog w = .ok (.enter 17 xs) w:=BA Try.func17 (by kernel_rfl) rfl xs w
theorem enter_18 (xs:Array Value) (w:World):(callFunc 18 xs).run Try.prog w = .ok (.enter 18 xs) w:=BA Try.func18 (by kernel_rfl) rfl xs w
theorem enter_19 (xs:Array Value) (w:World):(callFunc 19 xs).run Try.prog w = .ok (.enter 19 xs) w:=BA Try.func19 (by kernel_rfl) rfl xs w
theorem enter_24 (xs:Array Value) (w:World):(callFunc 24 xs).run Try.prog w = .ok (.enter 24 xs) w:=BA Try.func24 (by kernel_rfl) rfl xs w
theorem enter_28 (xs:Array Value) (w:World):(callFunc 28 xs).run Try.prog w = .ok (.enter 28 xs) w:=BA Try.func28 (by kernel_rfl) rfl xs w
theorem enter_30 (xs:Array Value) (w:World):(callFunc 30 xs).run Try.prog w = .ok (.enter 30 xs) w:=BA Try.func30 (by kernel_rfl) rfl xs w
theorem MP (xs:Array Value) (w:World):(callFunc 31 xs).run Try.prog w = .ok (.enter 31 xs) w:=BA Try.func31 (by kernel_rfl) rfl xs w
theorem WD (xs:Array Value) (w:World):(callFunc 32 xs).run Try.prog w = .ok (.enter 32 xs) w:=BA Try.func32 (by kernel_rfl) rfl xs w
theorem SZ (xs:Array Value) (w:World):(callFunc 33 xs).run Try.prog w = .ok (.enter 33 xs) w:=BA Try.func33 (by kernel_rfl) rfl xs w
theorem enter_34 (xs:Array Value) (w:World):(callFunc 34 xs).run Try.prog w = .ok (.enter 34 xs) w:=BA Try.func34 (by kernel_rfl) rfl xs w
theorem enter_35 (xs:Array Value) (w:World):(callFunc 35 xs).run Try.prog w = .ok (.enter 35 xs) w:=BA Try.func35 (by kernel_rfl) rfl xs w
theorem enter_36 (xs:Array Value) (w:World):(callFunc 36 xs).run Try.prog w = .ok (.enter 36 xs) w:=BA Try.func36 (by kernel_rfl) rfl xs w
theorem enter_37 (xs:Array Value) (w:World):(callFunc 37 xs).run Try.prog w = .ok (.enter 37 xs) w:=BA Try.func37 (by kernel_rfl) rfl xs w
theorem enter_38 (xs:Array Value) (w:World):(callFunc 38 xs).run Try.prog w = .ok (.enter 38 xs) w:=BA Try.func38 (by kernel_rfl) rfl xs w
theorem YB (xs:Array Value) (w:World):(callFunc 39 xs).run Try.prog w = .ok (.enter 39 xs) w:=BA Try.func39 (by kernel_rfl) rfl xs w
theorem NT (xs:Array Value) (w:World):(callFunc 40 xs).run Try.prog w = .ok (.enter 40 xs) w:=BA Try.func40 (by kernel_rfl) rfl xs w
theorem enter_41 (xs:Array Value) (w:World):(callFunc 41 xs).run Try.prog w = .ok (.enter 41 xs) w:=BA Try.func41 (by kernel_rfl) rfl xs w
theorem XL (xs:Array Value) (w:World):(callFunc 42 xs).run Try.prog w = .ok (.enter 42 xs) w:=BA Try.func42 (by kernel_rfl) rfl xs w
theorem WN (xs:Array Value) (w:World):(callFunc 43 xs).run Try.prog w = .ok (.enter 43 xs) w:=BA Try.func43 (by kernel_rfl) rfl xs w
theorem enter_44 (xs:Array Value) (w:World):(callFunc 44 xs).run Try.prog w = .ok (.enter 44 xs) w:=BA Try.func44 (by kernel_rfl) rfl xs w
theorem enter_45 (xs:Array Value) (w:World):(callFunc 45 xs).run Try.prog w = .ok (.enter 45 xs) w:=BA Try.func45 (by kernel_rfl) rfl xs w
theorem enter_46 (xs:Array Value) (w:World):(callFunc 46 xs).run Try.prog w = .ok (.enter 46 xs) w:=BA Try.func46 (by kernel_rfl) rfl xs w
theorem XW (xs:Array Value) (w:World):(callFunc 47 xs).run Try.prog w = .ok (.enter 47 xs) w:=BA Try.func47 (by kernel_rfl) rfl xs w
theorem enter_48 (xs:Array Value) (w:World):(callFunc 48 xs).run Try.prog w = .ok (.enter 48 xs) w:=BA Try.func48 (by kernel_rfl) rfl xs w
theorem PW (xs:Array Value) (w:World):(callFunc 49 xs).run Try.prog w = .ok (.enter 49 xs) w:=BA Try.func49 (by kernel_rfl) rfl xs w
theorem enter_50 (xs:Array Value) (w:World):(callFunc 50 xs).run Try.prog w = .ok (.enter 50 xs) w:=BA Try.func50 (by kernel_rfl) rfl xs w
theorem YM (xs:Array Value) (w:World):(callFunc 51 xs).run Try.prog w = .ok (.enter 51 xs) w:=BA Try.func51 (by kernel_rfl) rfl xs w
theorem enter_52 (xs:Array Value) (w:World):(callFunc 52 xs).run Try.prog w = .ok (.enter 52 xs) w:=BA Try.func52 (by kernel_rfl) rfl xs w
theorem enter_53 (xs:Array Value) (w:World):(callFunc 53 xs).run Try.prog w = .ok (.enter 53 xs) w:=BA Try.func53 (by kernel_rfl) rfl xs w
theorem enter_54 (xs:Array Value) (w:World):(callFunc 54 xs).run Try.prog w = .ok (.enter 54 xs) w:=BA Try.func54 (by kernel_rfl) rfl xs w
theorem enter_55 (xs:Array Value) (w:World):(callFunc 55 xs).run Try.prog w = .ok (.enter 55 xs) w:=BA Try.func55 (by kernel_rfl) rfl xs w
theorem enter_56 (xs:Array Value) (w:World):(callFunc 56 xs).run Try.prog w = .ok (.enter 56 xs) w:=BA Try.func56 (by kernel_rfl) rfl xs w
theorem enter_62 (xs:Array Value) (w:World):(callFunc 62 xs).run Try.prog w = .ok (.enter 62 xs) w:=BA Try.func62 (by kernel_rfl) rfl xs w
theorem enter_63 (xs:Array Value) (w:World):(callFunc 63 xs).run Try.prog w = .ok (.enter 63 xs) w:=BA Try.func63 (by kernel_rfl) rfl xs w
theorem enter_64 (xs:Array Value) (w:World):(callFunc 64 xs).run Try.prog w = .ok (.enter 64 xs) w:=BA Try.func64 (by kernel_rfl) rfl xs w
theorem MT (xs:Array Value) (w:World):(callFunc 65 xs).run Try.prog w = .ok (.enter 65 xs) w:=BA Try.func65 (by kernel_rfl) rfl xs w
theorem enter_66 (xs:Array Value) (w:World):(callFunc 66 xs).run Try.prog w = .ok (.enter 66 xs) w:=BA Try.func66 (by kernel_rfl) rfl xs w
theorem LG (xs:Array Value) (w:World):(callFunc 67 xs).run Try.prog w = .ok (.enter 67 xs) w:=BA Try.func67 (by kernel_rfl) rfl xs w
theorem WF (xs:Array Value) (w:World):(callFunc 68 xs).run Try.prog w = .ok (.enter 68 xs) w:=BA Try.func68 (by kernel_rfl) rfl xs w
theorem enter_69 (xs:Array Value) (w:World):(callFunc 69 xs).run Try.prog w = .ok (.enter 69 xs) w:=BA Try.func69 (by kernel_rfl) rfl xs w
theorem XE (xs:Array Value) (w:World):(callFunc 70 xs).run Try.prog w = .ok (.enter 70 xs) w:=BA Try.func70 (by kernel_rfl) rfl xs w
theorem enter_71 (xs:Array Value) (w:World):(callFunc 71 xs).run Try.prog w = .ok (.enter 71 xs) w:=BA Try.func71 (by kernel_rfl) rfl xs w
theorem IQ (xs:Array Value) (w:World):(callFunc 72 xs).run Try.prog w = .ok (.enter 72 xs) w:=BA Try.func72 (by kernel_rfl) rfl xs w
theorem enter_73 (xs:Array Value) (w:World):(callFunc 73 xs).run Try.prog w = .ok (.enter 73 xs) w:=BA Try.func73 (by kernel_rfl) rfl xs w
theorem enter_74 (xs:Array Value) (w:World):(callFunc 74 xs).run Try.prog w = .ok (.enter 74 xs) w:=BA Try.func74 (by kernel_rfl) rfl xs w
theorem enter_75 (xs:Array Value) (w:World):(callFunc 75 xs).run Try.prog w = .ok (.enter 75 xs) w:=BA Try.func75 (by kernel_rfl) rfl xs w
theorem enter_76 (xs:Array Value) (w:World):(callFunc 76 xs).run Try.prog w = .ok (.enter 76 xs) w:=BA Try.func76 (by kernel_rfl) rfl xs w
theorem enter_77 (xs:Array Value) (w:World):(callFunc 77 xs).run Try.prog w = .ok (.enter 77 xs) w:=BA Try.func77 (by kernel_rfl) rfl xs w
theorem enter_78 (xs:Array Value) (w:World):(callFunc 78 xs).run Try.prog w = .ok (.enter 78 xs) w:=BA Try.func78 (by kernel_rfl) rfl xs w
theorem enter_79 (xs:Array Value) (w:World):(callFunc 79 xs).run Try.prog w = .ok (.enter 79 xs) w:=BA Try.func79 (by kernel_rfl) rfl xs w
theorem enter_80 (xs:Array Value) (w:World):(callFunc 80 xs).run Try.prog w = .ok (.enter 80 xs) w:=BA Try.func80 (by kernel_rfl) rfl xs w
theorem enter_81 (xs:Array Value) (w:World):(callFunc 81 xs).run Try.prog w = .ok (.enter 81 xs) w:=BA Try.func81 (by kernel_rfl) rfl xs w
theorem enter_82 (xs:Array Value) (w:World):(callFunc 82 xs).run Try.prog w = .ok (.enter 82 xs) w:=BA Try.func82 (by kernel_rfl) rfl xs w
theorem enter_83 (xs:Array Value) (w:World):(callFunc 83 xs).run Try.prog w = .ok (.enter 83 xs) w:=BA Try.func83 (by kernel_rfl) rfl xs w
theorem enter_84 (xs:Array Value) (w:World):(callFunc 84 xs).run Try.prog w = .ok (.enter 84 xs) w:=BA Try.func84 (by kernel_rfl) rfl xs w
theorem enter_85 (xs:Array Value) (w:World):(callFunc 85 xs).run Try.prog w = .ok (.enter 85 xs) w:=BA Try.func85 (by kernel_rfl) rfl xs w
theorem enter_86 (xs:Array Value) (w:World):(callFunc 86 xs).run Try.prog w = .ok (.enter 86 xs) w:=BA Try.func86 (by kernel_rfl) rfl xs w
theorem enter_87 (xs:Array Value) (w:World):(callFunc 87 xs).run Try.prog w = .ok (.enter 87 xs) w:=BA Try.func87 (by kernel_rfl) rfl xs w
theorem enter_88 (xs:Array Value) (w:World):(callFunc 88 xs).run Try.prog w = .ok (.enter 88 xs) w:=BA Try.func88 (by kernel_rfl) rfl xs w
theorem enter_89 (xs:Array Value) (w:World):(callFunc 89 xs).run Try.prog w = .ok (.enter 89 xs) w:=BA Try.func89 (by kernel_rfl) rfl xs w
theorem enter_90 (xs:Array Value) (w:World):(callFunc 90 xs).run Try.prog w = .ok (.enter 90 xs) w:=BA Try.func90 (by kernel_rfl) rfl xs w
theorem enter_91 (xs:Array Value) (w:World):(callFunc 91 xs).run Try.prog w = .ok (.enter 91 xs) w:=BA Try.func91 (by kernel_rfl) rfl xs w
theorem enter_92 (xs:Array Value) (w:World):(callFunc 92 xs).run Try.prog w = .ok (.enter 92 xs) w:=BA Try.func92 (by kernel_rfl) rfl xs w
theorem NW (xs:Array Value) (w:World):(callFunc 93 xs).run Try.prog w = .ok (.enter 93 xs) w:=BA Try.func93 (by kernel_rfl) rfl xs w
theorem enter_94 (xs:Array Value) (w:World):(callFunc 94 xs).run Try.prog w = .ok (.enter 94 xs) w:=BA Try.func94 (by kernel_rfl) rfl xs w
theorem enter_95 (xs:Array Value) (w:World):(callFunc 95 xs).run Try.prog w = .ok (.enter 95 xs) w:=BA Try.func95 (by kernel_rfl) rfl xs w
theorem enter_96 (xs:Array Value) (w:World):(callFunc 96 xs).run Try.prog w = .ok (.enter 96 xs) w:=BA Try.func96 (by kernel_rfl) rfl xs w
theorem enter_97 (xs:Array Value) (w:World):(callFunc 97 xs).run Try.prog w = .ok (.enter 97 xs) w:=BA Try.func97 (by kernel_rfl) rfl xs w
theorem enter_98 (xs:Array Value) (w:World):(callFunc 98 xs).run Try.prog w = .ok (.enter 98 xs) w:=BA Try.func98 (by kernel_rfl) rfl xs w
theorem FD (xs:Array Value) (w:World):(callFunc 103 xs).run Try.prog w = .ok (.enter 103 xs) w:=BA Try.func103 (by kernel_rfl) rfl xs w
theorem enter_104 (xs:Array Value) (w:World):(callFunc 104 xs).run Try.prog w = .ok (.enter 104 xs) w:=BA Try.func104 (by kernel_rfl) rfl xs w
theorem enter_105 (xs:Array Value) (w:World):(callFunc 105 xs).run Try.prog w = .ok (.enter 105 xs) w:=BA Try.func105 (by kernel_rfl) rfl xs w
theorem ZS (xs:Array Value) (w:World):(callFunc 106 xs).run Try.prog w = .ok (.enter 106 xs) w:=BA Try.func106 (by kernel_rfl) rfl xs w
theorem enter_107 (xs:Array Value) (w:World):(callFunc 107 xs).run Try.prog w = .ok (.enter 107 xs) w:=BA Try.func107 (by kernel_rfl) rfl xs w
theorem enter_108 (xs:Array Value) (w:World):(callFunc 108 xs).run Try.prog w = .ok (.enter 108 xs) w:=BA Try.func108 (by kernel_rfl) rfl xs w
theorem enter_113 (xs:Array Value) (w:World):(callFunc 113 xs).run Try.prog w = .ok (.enter 113 xs) w:=BA Try.func113 (by kernel_rfl) rfl xs w
theorem enter_114 (xs:Array Value) (w:World):(callFunc 114 xs).run Try.prog w = .ok (.enter 114 xs) w:=BA Try.func114 (by kernel_rfl) rfl xs w
theorem ov_115 (x y:Value) (w:World) (h:(Extern.SlicesOverlaps.overlaps #[22,22] #[4] #[x,y]).run Try.prog w = .ok (.bool false) w):(callFunc 115 #[x,y]).run Try.prog w = .ok (.value (.bool false)) w:=by
  rw [run_callFunc_extern Try.func115 (by kernel_rfl) (by kernel_rfl) (by kernel_rfl) (e:=Extern.SlicesOverlaps.overlaps #[22,22] #[4]) (by kernel_rfl),h];rfl
theorem enter_117 (xs:Array Value) (w:World):(callFunc 117 xs).run Try.prog w = .ok (.enter 117 xs) w:=BA Try.func117 (by kernel_rfl) rfl xs w
theorem enter_119 (xs:Array Value) (w:World):(callFunc 119 xs).run Try.prog w = .ok (.enter 119 xs) w:=BA Try.func119 (by kernel_rfl) rfl xs w
open Go.Fw Go.RowKit
set_option maxHeartbeats 4000000 in
set_option maxRecDepth 100000 in
theorem ZZ {O B:List Nat} {w0 w:World} (v u:Value) (l m:List Int) (i:Nat) (s0:St w0 O w B) (ho:DX Enc.int 3 w0.heap.size (B++O) w v l) (hu:DX Enc.int 3 w0.heap.size (B++O) w u m) (hB:∀ b,v.ownBlock=some b→b∈B) (d1:∀ b,u.ownBlock=some b→b∈B) (hne:∀ b,v.ownBlock=some b→u.ownBlock≠some b) (hm:0<m.length) (hi:i≤l.length) (hlen:(l.length+m.length)*8≤140737488355328) (c2:l.length+m.length≤maxLen):Calls Try.prog 106 [v,vI (i:Int),u].toArray w (fun e w'=>∃ (v':Value) (B':List Nat),e = .returned v'∧(∀ b,v'.ownBlock=some b→b∈B')∧(∀ b,v'.ownBlock=some b→v.ownBlock=some b∨w.heap.size≤b)∧(∀ b∈B,b∈B')∧St w0 O w' B'∧Mv B w B' w'∧Keep v.ownBlock.toList w w'∧DX Enc.int 3 w0.heap.size (B'++O) w' v' (l.take i++m++l.drop i)):= by
  have ms:Mv B w B w:=Mv.refl _ _
  have ks:Keep v.ownBlock.toList w w:=Keep.refl _ _
  have g1:=c2
  simp only [maxLen] at g1
  refine BW 95 Try.func106 rfl rfl oT (fun F0=>AF (AB kR (AA (AE (nS) rfl (AG (AC (AF (AB kR (AA (AD (v) rfl (AA (AD (vI (i:Int)) rfl (AA (RV U22_ OB i .i64 (i:Int) rfl rfl rfl oM ho fun g9 g2=>(AG (AC (AF (AB kR (AA (AD (u) rfl (AA (NJ U22_ rfl hu (AA (AE (vI (m.length:Int)) rfl (AG (AC (AF (AF (AB kR (AA (AD (vI (m.length:Int)) rfl (AA (EZ .i64 (m.length:Int) (0:Int) rfl rfl (AG (AC (?_))))))))))))))))))))))))))))))))))))
  have d2:((m.length:Int) == (0:Int))=false:=(by rw [beq_eq_false_iff_ne];omega)
  rw [d2]
  refine AJ false rfl rfl (fun h=>by cases h) (fun _=>AT (AC (AF (AB kR (AA (AD (v) rfl (AA (NJ U22_ rfl ho (AA (AE (vI (l.length:Int)) rfl (AG (AC (AF (AF (AB kR (AA (AD (vI (i:Int)) rfl (AA (AD (vI (l.length:Int)) rfl (AA (EZ .i64 (i:Int) (l.length:Int) rfl rfl (AG (AC (AJ ((i:Int) == (l.length:Int)) rfl rfl (fun a7=>?_) (fun a7=>?_)))))))))))))))))))))))))
  · have g3:(i:Int)=(l.length:Int):=by simpa using a7
    refine AF (AB kR (AA (AD (v) rfl (AA (AD (u) rfl (AA (o_appendOO (E:=Enc.int) (l:=l) (m:=m) U22_ i_3 rfl (by decide) rfl rfl ho hu  hB hlen c2 s0 fun b2 h0 c3 d3 b8 b0 e2 c4 c5 b9=>(?_))))))))
    have g4:∀ b,u.ownBlock=some b→b2.ownBlock≠some b:=fun b hb e=>by rcases b8 with e1|e1 <;> rw [e1] at e <;> first|(cases e;have:=(hu.lt _ hb).2;omega)|(exact absurd e ((fun b hb e=>hne b e hb) b hb))
    have d1:∀ b,u.ownBlock=some b→b∈c3:=fun b hb=>b0 b (d1 b hb)
    have hu:=hu.mv c4 c5 (fun b hb=>by simp only [Option.mem_toList];exact (fun b hb e=>hne b e hb) b hb)
    have ms:=ms.trans c4
    have ks:=ks.step0 c5 (fun b hb=>by exact .inl hb)
    refine AA (AE (b2) rfl (AG (AC (AM (AP (AZ rfl (CN rfl rfl rfl) (?_)))))))
    rw [show l++m=l.take i++m++l.drop i from by rw [show i=l.length from by omega,List.take_length,List.drop_length,List.append_nil]] at b9
    exact ⟨b2,c3,rfl,d3,fun b hb=>by rcases b8 with e1|e1 <;> rw [e1] at hb;exact .inl hb;cases hb;exact .inr (Nat.le_refl _),b0,e2,ms,ks,b9⟩
  have g5:(i:Int)≠(l.length:Int):=by simpa using a7
  obtain ⟨g,c,cur,css,rfl,hgb,bg,hnc,hcm,hcl,hcss,hrd⟩:=own_open ho oM
  obtain ⟨gu,cu,curu,cssu,rfl,hgub,bgu,hncu,hcmu,hclu,hcssu,b3⟩:=own_open hu oM
  have hgB:g∈B:=hB g rfl
  have hguB:gu∈B:=d1 gu rfl
  have hgg:g≠gu:=fun e=>hne g rfl (by rw [e];rfl)
  have hns:l.length*Enc.int.size≤cur.length:=by rw [hcl];exact Nat.mul_le_mul_right _ hnc
  have c6:m.length*Enc.int.size≤curu.length:=by rw [hclu];exact Nat.mul_le_mul_right _ hncu
  have one1:=ones_drop hrd hcss hi hns
  have one2:=ones_all b3 hcssu
  have hfm:=b3.flen
  refine AT (AC (AF (AF (AB kR (AA (AD (vI (l.length:Int)) rfl (AA (AD (vI (m.length:Int)) rfl (AA (DR .i64 (l.length:Int) (m.length:Int) (((l.length+m.length:Nat):Int)) rfl rfl (GZ oM oM) (AA (AD (vS (some ⟨g,0,none⟩) l.length c) rfl (AA (o_cap _ _ c U22_ rfl (AA (HN .i64 ((l.length+m.length:Nat):Int) ((c:Nat):Int) rfl rfl (AG (AC (AJ (decide (((c:Nat):Int)<((l.length+m.length:Nat):Int))) rfl rfl (fun a8=>?_) (fun a8=>?_))))))))))))))))))))
  · have g6:((c:Nat):Int)<((l.length+m.length:Nat):Int):=by simpa using a8
    refine AF (AB kR (AA (AD (vS (some ⟨g,0,none⟩) l.length c) rfl (AA (AD (vI (i:Int)) rfl (AA (ZG (size:=Enc.int.size) U22_ OB g 0 l.length c i .i64 (i:Int) rfl rfl rfl oM (AA (AD (vI (l.length:Int)) rfl (AA (AD (vI (m.length:Int)) rfl (AA (DR .i64 (l.length:Int) (m.length:Int) (((l.length+m.length:Nat):Int)) rfl rfl (GZ oM oM) (AA (AD (vI (i:Int)) rfl (AA (KI .i64 ((l.length+m.length:Nat):Int) (i:Int) ((((l.length+m.length) - i:Nat):Int)) rfl rfl (GZ oM oM) (AA (o_appendZ (size:=Enc.int.size) (i:=i) ((l.length+m.length) - i) (l.length+m.length) (((l.length+m.length) - i:Nat):Int) oM U22_ U3_ i_3 rfl (by decide) rfl rfl rfl bg (by rw [hcl];exact Nat.mul_le_mul_right _ oM) oM oM hlen c2 s0 fun a0 a1 b1 h1 e3 d4 e4 e5 b4 d5 a2 g7 d6 d7=>(?_))))))))))))))))))))
    have c0:g≠a0:=by have:=bg.lt;omega
    have c1:gu≠a0:=by have:=bgu.lt;omega
    have b5:w.heap.size≤a0:=by have:=ks.size;omega
    clear e3
    have bg:=bg.keep b4 (by simp)
    have bgu:=bgu.keep b4 (by simp)
    have ms:=ms.trans e5
    have ks:=ks.step0 b4 (fun b hb=>by (simp at hb;done))
    refine AA (AE (vS (some ⟨a0,0,none⟩) (l.length+m.length) a1) rfl (AG (AC (AF (AB kR (AA (AD (vS (some ⟨a0,0,none⟩) (l.length+m.length) a1) rfl (AA (AD (vI (i:Int)) rfl (AA (KQ (size:=Enc.int.size) U22_ OB a0 (l.length+m.length) a1 i .i64 (i:Int) rfl rfl rfl oM oM oM (AA (AD (vS (some ⟨gu,0,none⟩) m.length cu) rfl (AA (RA (size:=Enc.int.size) m.length U22_ OB rfl rfl d5 bgu (by repeat (constructor)) (by simp only [Nat.min_def];split <;> omega) (by rw [a2,← Nat.add_mul];exact Nat.mul_le_mul_right _ oM) (by rw [Nat.zero_add];exact c6) one2 e4 fun e6 e7 e8 b6 a9=>(?_))))))))))))))))
    have a5:(HF b1 (i*Enc.int.size) ((curu.drop 0).take (m.length*Enc.int.size))).length=a1*Enc.int.size:=by rw [OO (by rw [List.length_take,List.length_drop,Nat.min_eq_left (by have h2:=((by rw [Nat.zero_add];exact c6):0+m.length*Enc.int.size≤curu.length);omega)];exact (by rw [a2,← Nat.add_mul];exact Nat.mul_le_mul_right _ oM))];exact a2
    have bg:=bg.keep b6 (AS c0)
    have bgu:=bgu.keep b6 (AS c1)
    have ms:=ms.trans e8
    have ks:=ks.step0 b6 (fun b hb=>by (simp only [List.mem_singleton] at hb;subst hb;(right;omega)))
    refine AG (AC (AF (DP 8 _ _ kR kR kR kR kR rfl rfl fun e9 a3=>?_)))
    have f0:=e7.call a3
    have f1:Mv (a0 :: B) e6 (a0 :: B) e9:=Mv.of_keep a3
    have bg:=bg.keep a3 (by simp)
    have bgu:=bgu.keep a3 (by simp)
    have a9:=a9.keep a3 (by simp)
    have ms:=ms.trans f1
    have ks:=ks.step0 a3 (fun b hb=>by (simp at hb;done))
    refine BG (AD (vS (some ⟨a0,0,none⟩) (l.length+m.length) a1) rfl (BG (AD (vI (i:Int)) rfl (BG (AD (vI (m.length:Int)) rfl (BG (DR .i64 (i:Int) (m.length:Int) (((i+m.length:Nat):Int)) rfl rfl (GZ oM oM) (BG (KQ (size:=Enc.int.size) U22_ OB a0 (l.length+m.length) a1 (i+m.length) .i64 ((i+m.length:Nat):Int) rfl rfl rfl oM oM oM (BG (AD (vS (some ⟨g,0,none⟩) l.length c) rfl (BG (AD (vI (i:Int)) rfl (BG (KQ (size:=Enc.int.size) U22_ OB g l.length c i .i64 (i:Int) rfl rfl rfl oM oM oM (EQ (AA (RA (size:=Enc.int.size) (l.length - i) U22_ OB rfl rfl a9 bg (by repeat (constructor)) (by simp only [Nat.min_def];split <;> omega) (by rw [a5,← Nat.add_mul];exact Nat.mul_le_mul_right _ oM) (by rw [← Nat.add_mul];exact Nat.le_trans (Nat.mul_le_mul_right _ oM) hns) one1 f0 fun h3 f2 f3 b7 d8=>(?_)))))))))))))))))))
    have c9:(HF (HF b1 (i*Enc.int.size) ((curu.drop 0).take (m.length*Enc.int.size))) ((i+m.length)*Enc.int.size) ((cur.drop (i*Enc.int.size)).take ((l.length - i)*Enc.int.size))).length=a1*Enc.int.size:=by rw [OO (by rw [List.length_take,List.length_drop,Nat.min_eq_left (by have h2:=((by rw [← Nat.add_mul];exact Nat.le_trans (Nat.mul_le_mul_right _ oM) hns):(i*Enc.int.size)+(l.length - i)*Enc.int.size≤cur.length);omega)];exact (by rw [a5,← Nat.add_mul];exact Nat.mul_le_mul_right _ oM))];exact a5
    have bg:=bg.keep b7 (AS c0)
    have bgu:=bgu.keep b7 (AS c1)
    have ms:=ms.trans f3
    have ks:=ks.step0 b7 (fun b hb=>by (simp only [List.mem_singleton] at hb;subst hb;(right;omega)))
    refine AG (AC (AF (AB kR (AA (AD (vS (some ⟨a0,0,none⟩) (l.length+m.length) a1) rfl (AA (AE (vS (some ⟨a0,0,none⟩) (l.length+m.length) a1) rfl (AG (AC (AM (AP (AZ rfl (CN rfl rfl rfl) (?_)))))))))))))
    exact ⟨_,(a0 :: B),rfl,fun b hb=>by cases hb;exact (by repeat (constructor)),fun b hb=>by cases hb;exact .inr b5,fun b hb=>List.mem_cons_of_mem _ hb,f2,ms,ks,DX.ins hrd b3 ms d8 d4 hi c9 oM d6 (tk_grow hcss hrd.lens hrd.1 hi hns hcssu hfm d7 (by rw [a2];exact Nat.mul_le_mul_right _ oM))⟩
  have g8:((l.length+m.length:Nat):Int)≤((c:Nat):Int):=by simpa using a8
  refine AT (AC (AF (AB kR (AA (AD (vS (some ⟨g,0,none⟩) l.length c) rfl (AA (AD (vI (l.length:Int)) rfl (AA (AD (vI (m.length:Int)) rfl (AA (DR .i64 (l.length:Int) (m.length:Int) (((l.length+m.length:Nat):Int)) rfl rfl (GZ oM oM) (AA (ZG (size:=Enc.int.size) U22_ OB g 0 l.length c (l.length+m.length) .i64 ((l.length+m.length:Nat):Int) rfl rfl rfl oM (AA (AE (vS (some ⟨g,0,none⟩) (l.length+m.length) c) rfl (AG (AC (AF (AF (AB kR (AA (AD (vS (some ⟨gu,0,none⟩) m.length cu) rfl (AA (AD (vS (some ⟨g,0,none⟩) (l.length+m.length) c) rfl (AA (AD (vI (i:Int)) rfl (AA (AD (vI (m.length:Int)) rfl (AA (DR .i64 (i:Int) (m.length:Int) (((i+m.length:Nat):Int)) rfl rfl (GZ oM oM) (AA (KQ (size:=Enc.int.size) U22_ OB g (l.length+m.length) c (i+m.length) .i64 ((i+m.length:Nat):Int) rfl rfl rfl oM oM oM (AA (o_overlaps (size:=Enc.int.size) ov_115 U22_ OB rfl bgu bg (Ne.symm hgg) (by rw [hcl];exact Nat.mul_pos oM (by decide)) (AA (FF false rfl (AG (AC (AJ true rfl rfl (fun _=>AF (DP 8 _ _ kR kR kR kR kR rfl rfl fun f4 a4=>?_)) (fun h=>by cases h))))))))))))))))))))))))))))))))))))))))
  have f5:=s0.call a4
  have f6:Mv B w B f4:=Mv.of_keep a4
  have bg:=bg.keep a4 (by simp)
  have bgu:=bgu.keep a4 (by simp)
  have ms:=ms.trans f6
  have ks:=ks.step0 a4 (fun b hb=>by (simp at hb;done))
  refine BG (AD (vS (some ⟨g,0,none⟩) (l.length+m.length) c) rfl (BG (AD (vI (i:Int)) rfl (BG (AD (vI (m.length:Int)) rfl (BG (DR .i64 (i:Int) (m.length:Int) (((i+m.length:Nat):Int)) rfl rfl (GZ oM oM) (BG (KQ (size:=Enc.int.size) U22_ OB g (l.length+m.length) c (i+m.length) .i64 ((i+m.length:Nat):Int) rfl rfl rfl oM oM oM (BG (AD (vS (some ⟨g,0,none⟩) (l.length+m.length) c) rfl (BG (AD (vI (i:Int)) rfl (BG (KQ (size:=Enc.int.size) U22_ OB g (l.length+m.length) c i .i64 (i:Int) rfl rfl rfl oM oM oM (EQ (AA (RA (size:=Enc.int.size) (l.length - i) U22_ OB rfl rfl bg bg (by repeat (assumption)) (by simp only [Nat.min_def];split <;> omega) (by rw [hcl,← Nat.add_mul];exact Nat.mul_le_mul_right _ oM) (by rw [← Nat.add_mul];exact Nat.le_trans (Nat.mul_le_mul_right _ oM) hns) one1 f5 fun h4 f7 f8 c7 d9=>(?_)))))))))))))))))))
  have a6:(HF cur ((i+m.length)*Enc.int.size) ((cur.drop (i*Enc.int.size)).take ((l.length - i)*Enc.int.size))).length=c*Enc.int.size:=by rw [OO (by rw [List.length_take,List.length_drop,Nat.min_eq_left (by have h2:=((by rw [← Nat.add_mul];exact Nat.le_trans (Nat.mul_le_mul_right _ oM) hns):(i*Enc.int.size)+(l.length - i)*Enc.int.size≤cur.length);omega)];exact (by rw [hcl,← Nat.add_mul];exact Nat.mul_le_mul_right _ oM))];exact hcl
  have bgu:=bgu.keep c7 (AS (Ne.symm hgg))
  have ms:=ms.trans f8
  have ks:=ks.step0 c7 (fun b hb=>by exact .inl hb)
  refine AG (AC (AF (AB kR (AA (AD (vS (some ⟨g,0,none⟩) (l.length+m.length) c) rfl (AA (AD (vI (i:Int)) rfl (AA (KQ (size:=Enc.int.size) U22_ OB g (l.length+m.length) c i .i64 (i:Int) rfl rfl rfl oM oM oM (AA (AD (vS (some ⟨gu,0,none⟩) m.length cu) rfl (AA (RA (size:=Enc.int.size) m.length U22_ OB rfl rfl d9 bgu (by repeat (assumption)) (by simp only [Nat.min_def];split <;> omega) (by rw [a6,← Nat.add_mul];exact Nat.mul_le_mul_right _ oM) (by rw [Nat.zero_add];exact c6) one2 f7 fun h5 f9 g0 c8 e0=>(?_))))))))))))))
  have d0:(HF (HF cur ((i+m.length)*Enc.int.size) ((cur.drop (i*Enc.int.size)).take ((l.length - i)*Enc.int.size))) (i*Enc.int.size) ((curu.drop 0).take (m.length*Enc.int.size))).length=c*Enc.int.size:=by rw [OO (by rw [List.length_take,List.length_drop,Nat.min_eq_left (by have h2:=((by rw [Nat.zero_add];exact c6):0+m.length*Enc.int.size≤curu.length);omega)];exact (by rw [a6,← Nat.add_mul];exact Nat.mul_le_mul_right _ oM))];exact a6
  have bgu:=bgu.keep c8 (AS (Ne.symm hgg))
  have ms:=ms.trans g0
  have ks:=ks.step0 c8 (fun b hb=>by exact .inl hb)
  refine AG (AC (AF (AB kR (AA (AD (vS (some ⟨g,0,none⟩) (l.length+m.length) c) rfl (AA (AE (vS (some ⟨g,0,none⟩) (l.length+m.length) c) rfl (AG (AC (AM (AP (AZ rfl (CN rfl rfl rfl) (?_)))))))))))))
  exact ⟨_,B,rfl,fun b hb=>by cases hb;exact (by repeat (assumption)),fun b hb=>by cases hb;exact .inl rfl,fun b hb=>hb,f9,ms,ks,DX.ins hrd b3 ms e0 hgb hi d0 oM hcm (tk_shift hcss hrd.lens hrd.1 hi (by rw [hcl];exact Nat.mul_le_mul_right _ oM) hcssu hfm)⟩
open Go.Fw
def LR (l:List Int) (k:Nat):Int:=if k=0 then -1 else l[k - 1]!
def LN (l:List Int) (k:Nat):Bool:=decide (l[k]!≤LR l k) || decide (4096≤l[k]!)
def IS (l:List Int):Bool:=GM (fun k=>if LN l k then some false else none) true 0 (l.length - 0)
def CO (d f:Int):Bool:=decide (f≤d) && decide (d<1024)
def EV (r:Recovery):Bool:=
  if (decide (r.state<0) || decide (2<r.state)) || !IS r.approved then false
  else if r.state == 2 then ((r.vetoed.length:Int) == 1) && CO r.vetoed[0]! r.asked else (r.vetoed.length:Int) == 0
def FK (l:List Recovery) (k:Nat):Int:=if k=0 then 0 else l[k - 1]!.asked
def FR (l:List Recovery) (k:Nat):Bool:=
  ((l[k]!.no != (k:Int) || !CO l[k]!.asked (FK l k)) || !EV l[k]!) || (l[k]!.state == 0 && decide ((k:Int)<(l.length:Int) - 1))
def DV (c:Circle):Bool:=
  (((((((decide (c.epoch<0) || decide (1048576<c.epoch)) || decide ((c.guardians.length:Int)<1)) || decide (8<(c.guardians.length:Int))) || !IS c.guardians) || decide (c.threshold<1)) || decide ((c.guardians.length:Int)<c.threshold)) || !CO c.wait 0) || decide (1024<(c.recs.length:Int))
def AO (c:Circle):Int:=if DV c then 450 else GM (fun k=>if FR c.recs k then some 450 else none) 0 0 (c.recs.length - 0)
def EI:Circle:=⟨0,0,0,[],[]⟩
def DL (l:List Int) (t w:Int):Circle × Int:=if AO ⟨0,t,w,l,[]⟩ != 0 then (EI,AO ⟨0,t,w,l,[]⟩) else (⟨0,t,w,l,[]⟩,0)
def KG (c:Circle):Recovery:=if 0<c.recs.length then c.recs[c.recs.length - 1]! else ⟨0,0,1,[],[]⟩
def CQ (c:Circle) (day:Int):Circle × Int × Int:=
  if AO c != 0 then (EI,0,AO c) else if !CO day (KG c).asked then (EI,0,1) else if (KG c).state == 0 then (EI,0,451) else if (c.recs.length:Int) == 1024 then (EI,0,2)
  else (⟨c.epoch,c.threshold,c.wait,c.guardians,c.recs++[⟨(c.recs.length:Int),day,0,[],[]⟩]⟩,(c.recs.length:Int),0)
def AW (c:Circle) (no:Int) (f:Recovery→Except Int Recovery):Circle × Int:=
  if AO c != 0 then (EI,AO c) else if no<0∨(c.recs.length:Int)≤no then (EI,1)
  else match f c.recs[no.toNat]! with | .error e=>(EI,e) | .ok r=>(⟨c.epoch,c.threshold,c.wait,c.guardians,c.recs.set no.toNat r⟩,0)
def idxI (l:List Int) (x:Int):Int:=GM (fun k=>if x == l[k]! then some (k:Int) else none) (-1) 0 (l.length - 0)
def tw (l:List Int) (x:Int):Nat:=(l.takeWhile (fun y=>decide (y<x))).length
def VE (l:List Int) (x:Int):Bool:=decide (tw l x<l.length) && (l[tw l x]! == x)
def RE (l:List Int) (x:Int):List Int:=l.take (tw l x)++[x]++l.drop (tw l x)
def HV (l g:List Int) (k:Nat):Nat:=((g.take k).filter (fun x=>l.contains x)).length
def MY (c:Circle) (r:Recovery):Bool:=decide (c.threshold≤(HV r.approved c.guardians c.guardians.length:Int))
def AV (c:Circle) (g:Int) (r:Recovery):Except Int Recovery:=
  if r.state == 2 then .error 452 else if r.state == 1 then .error 1 else if !(c.guardians.contains g) then .error 450 else if VE r.approved g then .ok r else .ok ⟨r.no,r.asked,r.state,RE r.approved g,r.vetoed⟩
def CF (day:Int) (r:Recovery):Except Int Recovery:=
  if !CO day r.asked then .error 1 else if r.state == 2 then .ok r else if r.state == 1 then .error 1 else .ok ⟨r.no,r.asked,2,r.approved,[day]⟩
def BC (c:Circle) (day:Int) (r:Recovery):Except Int Recovery:=
  if r.state == 2 then .error 452 else if r.state == 1 then .error 1 else if !CO day 0 then .error 1 else if !MY c r then .error 450 else if decide (day<r.asked+c.wait) then .error 451 else .ok ⟨r.no,r.asked,1,r.approved,r.vetoed⟩
theorem scan_if {β:Type} {p:Nat→Bool} {d r:β} (hne:r≠d):∀ {m i:Nat},GM (fun k=>if p k then some r else none) d i m=d↔∀ k,i≤k→k<i+m→p k=false
  | 0,i=>by simp [GM];intro k h1 h2;omega
  | m+1,i=>by
    unfold GM
    cases hp:p i with
    | true=>
      simp only [if_true]
      refine ⟨fun h=>absurd h hne,fun h=>?_⟩
      have:=h i (Nat.le_refl _) (by omega)
      rw [hp] at this;cases this
    | false=>
      simp only [Bool.false_eq_true,if_false]
      rw [scan_if hne]
      refine ⟨fun h k h1 h2=>?_,fun h k h1 h2=>h k (by omega) (by omega)⟩
      by_cases hk:k=i
      · subst hk;exact hp
      · exact h k (by omega) (by omega)
theorem VS (l:List Int):IS l=true↔∀ k,k<l.length→LN l k=false:=by
  unfold IS
  rw [scan_if (by simp)]
  exact ⟨fun h k hk=>h k (by omega) (by omega),fun h k _ hk=>h k (by omega)⟩
theorem SR {l:List Int} {k:Nat}:LN l k=false↔LR l k<l[k]!∧l[k]! < 4096:=by
  simp [LN]
theorem MQ {l:List Int} (h:IS l=true):∀ p q,p<q→q<l.length→l[p]! < l[q]!:=by
  intro p q hpq hq
  induction q with
  | zero=>omega
  | succ q ih=>
    have h1:=(SR.1 ((VS l).1 h (q+1) hq)).1
    simp only [LR,Nat.add_one_ne_zero,if_false,Nat.add_sub_cancel] at h1
    by_cases hp:p=q
    · subst hp;exact h1
    · have:=ih (by omega) (by omega);omega
theorem TR {l:List Int} (h:IS l=true):∀ q,q<l.length→0≤l[q]!∧l[q]! < 4096:=by
  intro q hq
  have h2:=(SR.1 ((VS l).1 h q hq))
  refine ⟨?_,h2.2⟩
  have h0:=(SR.1 ((VS l).1 h 0 (by omega))).1
  simp only [LR,if_true] at h0
  by_cases hq0:q=0
  · subst hq0;omega
  · have:=MQ h 0 q (by omega) hq;omega
theorem inc_ge {l:List Int} (h:IS l=true):∀ q,q<l.length→(q:Int)≤l[q]!:=by
  intro q hq
  induction q with
  | zero=>exact (TR h 0 hq).1
  | succ q ih=>have:=ih (by omega);have:=MQ h q (q+1) (by omega) hq;omega
theorem OF {l:List Int} (h:IS l=true):l.length≤4096:=by
  by_cases h0:l.length=0
  · omega
  · have h1:=inc_ge h (l.length - 1) (by omega)
    have h2:=(TR h (l.length - 1) (by omega)).2
    omega
theorem GX (c:Circle):AO c=0↔DV c=false∧∀ k,k<c.recs.length→FR c.recs k=false:=by
  unfold AO
  cases hh:DV c with
  | true=>simp
  | false=>
    simp only [Bool.false_eq_true,if_false,true_and]
    rw [scan_if (by decide)]
    exact ⟨fun h k hk=>h k (by omega) (by omega),fun h k _ hk=>h k (by omega)⟩
theorem EL {r:Recovery} (h:EV r=true):0≤r.state∧r.state≤2∧IS r.approved=true:=by
  unfold EV at h
  split at h
  · cases h
  · rename_i hh
    have hh':((decide (r.state<0) || decide (2<r.state)) || !IS r.approved)=false:=by simpa using hh
    simp only [dbs] at hh'
    exact ⟨by omega,by omega,by simpa using hh'.2⟩
theorem KB {c:Circle} (h:AO c=0) {k:Nat} (hk:k<c.recs.length):EV c.recs[k]! = true:=by
  have:=((GX c).1 h).2 k hk
  simp only [FR,dbs] at this
  exact this.1.2
theorem IF {c:Circle} (h:AO c=0) {no:Int} (h1:0≤no) (h2:no<c.recs.length):c.recs[no.toNat]!.state=0∨c.recs[no.toNat]!.state=1∨c.recs[no.toNat]!.state=2:=by
  have:=EL (KB h (k:=no.toNat) (by omega))
  omega
theorem VO {c:Circle} (h:AO c=0) {no:Int} (h1:0≤no) (h2:no<c.recs.length):∀ p q,p<q→q<c.recs[no.toNat]!.approved.length→c.recs[no.toNat]!.approved[p]! < c.recs[no.toNat]!.approved[q]!:=
  MQ (EL (KB h (k:=no.toNat) (by omega))).2.2
theorem tw_le (l:List Int) (x:Int):tw l x≤l.length:=by
  unfold tw
  exact (List.takeWhile_sublist _).length_le
theorem tw_eq {x:Int}:∀ {l:List Int} {k:Nat},k≤l.length→(∀ q,q<k→l[q]! < x)→(k<l.length→x≤l[k]!)→tw l x=k
  | [],k,hk,_,_=>by simp at hk;subst hk;rfl
  | a :: l,0,_,_,h2=>by
    have:=h2 (by simp)
    simp at this
    have hn:¬ (a<x):=by omega
    simp [tw,hn]
  | a :: l,k+1,hk,h1,h2=>by
    have h0:=h1 0 (by omega)
    simp at h0
    have ih:=tw_eq (x:=x) (l:=l) (k:=k) (by simpa using hk) (fun q hq=>by have:=h1 (q+1) (by omega);simpa using this) (fun hk2=>by have:=h2 (by simpa using hk2);simpa using this)
    unfold tw at ih ⊢
    simp [h0,ih]
theorem bsF_1 {l:List Int} {x:Int} {k:Nat} (ht:tw l x=k) (h:(l.length:Int)≤k):VE l x=false:=by
  have:¬ (k<l.length):=by omega
  simp [VE,ht,this]
theorem bsF_2 {l:List Int} {x:Int} {k:Nat} (ht:tw l x=k) (h:l[k]!≠x):VE l x=false:=by
  unfold VE;rw [ht]
  have:(l[k]! == x)=false:=by simpa using h
  rw [this,Bool.and_false]
theorem bsF_t {l:List Int} {x:Int} {k:Nat} (ht:tw l x=k) (h:(k:Int)<l.length) (he:l[k]! = x):VE l x=true:=by
  unfold VE;rw [ht]
  have:(l[k]! == x)=true:=by simpa using he
  rw [this,Bool.and_true];simpa using h
theorem bs_lo {l:List Int} {x:Int} {h:Nat} (hs:∀ p q,p<q→q<l.length→l[p]! < l[q]!) (h1:l[h]! < x) (hh:h<l.length):∀ q,q<h+1→l[q]! < x:=by
  intro q hq
  by_cases hqh:q=h
  · subst hqh;exact h1
  · have:=hs q h (by omega) hh;omega
theorem bs_hi {l:List Int} {x:Int} {h:Nat} (hs:∀ p q,p<q→q<l.length→l[p]! < l[q]!) (h1:x≤l[h]!):∀ q,h≤q→q<l.length→x≤l[q]!:=by
  intro q hq hql
  by_cases hqh:q=h
  · subst hqh;exact h1
  · have:=hs h q (by omega) hql;omega
theorem idxI_pos (l:List Int) (x:Int):decide ((0:Int)≤idxI l x)=l.contains x:=by
  have key:∀ (m i:Nat),m+i=l.length→decide ((0:Int)≤GM (fun k=>if x == l[k]! then some (k:Int) else none) (-1) i m)=(l.drop i).contains x:=by
    intro m
    induction m with
    | zero=>intro i hi;rw [List.drop_eq_nil_of_le (by omega)];rfl
    | succ m ih=>
      intro i hi
      unfold GM
      have hil:i<l.length:=by omega
      have hd:l.drop i=l[i]! :: l.drop (i+1):=by rw [getElem!_pos l i hil];exact List.drop_eq_getElem_cons hil
      rw [hd,List.contains_cons]
      cases hx:(x == l[i]!) with
      | true=>simp
      | false=>simp only [Bool.false_eq_true,if_false,Bool.false_or];exact ih (i+1) (by omega)
  have:=key l.length 0 (by omega)
  rw [List.drop_zero] at this
  exact this
theorem VG {l g:List Int} {k:Nat} (h:k<g.length):HV l g (k+1)=HV l g k+(if l.contains g[k]! then 1 else 0):=by
  unfold HV
  rw [List.take_add_one,List.getElem?_eq_getElem h,getElem!_pos g k h]
  simp only [Option.toList_some,List.filter_append,List.length_append]
  by_cases hc:g[k]∈l <;> simp [List.filter,hc]
theorem countM_le (l g:List Int) (k:Nat):HV l g k≤k:=by
  unfold HV
  exact Nat.le_trans (List.length_filter_le _ _) (List.length_take_le _ _)
theorem QU {c:Circle} (h:AO c=0):c.recs.length≤1024:=by
  have:=((GX c).1 h).1
  simp only [DV,dbs] at this
  omega
theorem PL {l:List Int} {t w:Int} (h:AO ⟨0,t,w,l,[]⟩≠0):DL l t w=(EI,AO ⟨0,t,w,l,[]⟩):=by
  unfold DL;rw [if_pos (by simpa using h)]
theorem SY {l:List Int} {t w:Int} (h:AO ⟨0,t,w,l,[]⟩ = 0):DL l t w=(⟨0,t,w,l,[]⟩,0):=by
  unfold DL;rw [if_neg (by simp [h])]
theorem SL {c:Circle} {day:Int} (h:AO c≠0):CQ c day=(EI,0,AO c):=by
  unfold CQ;rw [if_pos (by simpa using h)]
theorem MI {c:Circle} {day:Int} (h:AO c=0) (h1:CO day (KG c).asked=false):CQ c day=(EI,0,1):=by
  unfold CQ;rw [if_neg (by simp [h]),if_pos (by simp [h1])]
theorem QO {c:Circle} {day:Int} (h:AO c=0) (h1:CO day (KG c).asked=true) (h2:(KG c).state=0):CQ c day=(EI,0,451):=by
  unfold CQ;rw [if_neg (by simp [h]),if_neg (by simp [h1]),if_pos (by simp [h2])]
theorem KR {c:Circle} {day:Int} (h:AO c=0) (h1:CO day (KG c).asked=true) (h2:(KG c).state≠0) (h3:(c.recs.length:Int)=1024):CQ c day=(EI,0,2):=by
  unfold CQ;rw [if_neg (by simp [h]),if_neg (by simp [h1]),if_neg (by simpa using h2),if_pos (by simpa using h3)]
theorem IN {c:Circle} {day:Int} (h:AO c=0) (h1:CO day (KG c).asked=true) (h2:(KG c).state≠0) (h3:(c.recs.length:Int)≠1024) :
    CQ c day=(⟨c.epoch,c.threshold,c.wait,c.guardians,c.recs++[⟨(c.recs.length:Int),day,0,[],[]⟩]⟩,(c.recs.length:Int),0):=by
  unfold CQ;rw [if_neg (by simp [h]),if_neg (by simp [h1]),if_neg (by simpa using h2),if_neg (by simpa using h3)]
theorem YO {c:Circle} {no:Int} {f:Recovery→Except Int Recovery} (h:AO c≠0):AW c no f=(EI,AO c):=by
  unfold AW;rw [if_pos (by simpa using h)]
theorem gAct_no {c:Circle} {no:Int} {f:Recovery→Except Int Recovery} (h:AO c=0) (hn:no<0∨(c.recs.length:Int)≤no):AW c no f=(EI,1):=by
  unfold AW;rw [if_neg (by simp [h]),if_pos hn]
theorem IT {c:Circle} {no:Int} {f:Recovery→Except Int Recovery} {e:Int} (h:AO c=0) (h1:0≤no) (h2:no<c.recs.length) (hf:f c.recs[no.toNat]! = .error e):AW c no f=(EI,e):=by
  unfold AW;rw [if_neg (by simp [h]),if_neg (by omega),hf]
theorem TM {c:Circle} {no:Int} {f:Recovery→Except Int Recovery} {r:Recovery} (h:AO c=0) (h1:0≤no) (h2:no<c.recs.length) (hf:f c.recs[no.toNat]! = .ok r):AW c no f=(⟨c.epoch,c.threshold,c.wait,c.guardians,c.recs.set no.toNat r⟩,0):=by
  unfold AW;rw [if_neg (by simp [h]),if_neg (by omega),hf]
theorem veto_bad {c:Circle} {no:Int} {day:Int} (h:AO c≠0):AW c no (CF day)=(EI,AO c):=YO h
theorem VP {c:Circle} {no:Int} {day:Int} (h:AO c=0) (hn:no<0∨(c.recs.length:Int)≤no):AW c no (CF day)=(EI,1):=gAct_no h hn
theorem fin_bad {c:Circle} {no:Int} {day:Int} (h:AO c≠0):AW c no (BC c day)=(EI,AO c):=YO h
theorem fin_no {c:Circle} {no:Int} {day:Int} (h:AO c=0) (hn:no<0∨(c.recs.length:Int)≤no):AW c no (BC c day)=(EI,1):=gAct_no h hn
theorem app_bad {c:Circle} {no:Int} {g:Int} (h:AO c≠0):AW c no (AV c g)=(EI,AO c):=YO h
theorem app_no {c:Circle} {no:Int} {g:Int} (h:AO c=0) (hn:no<0∨(c.recs.length:Int)≤no):AW c no (AV c g)=(EI,1):=gAct_no h hn
theorem veto_day {c:Circle} {no day:Int} (hok:AO c=0) (h1:0≤no) (h2:no<c.recs.length) (hd:CO day c.recs[no.toNat]!.asked=false):AW c no (CF day)=(EI,1):=
  IT hok h1 h2 (by revert hd;generalize c.recs[no.toNat]! = r;intro hd;simp [CF,hd])
theorem ZR {c:Circle} {no day:Int} (hok:AO c=0) (h1:0≤no) (h2:no<c.recs.length) (hd:CO day c.recs[no.toNat]!.asked=true) (hs:c.recs[no.toNat]!.state=2):AW c no (CF day)=(⟨c.epoch,c.threshold,c.wait,c.guardians,c.recs.set no.toNat c.recs[no.toNat]!⟩,0):=
  TM hok h1 h2 (by revert hd hs;generalize c.recs[no.toNat]! = r;intro hd hs;simp [CF,hd,hs])
theorem ZU {c:Circle} {no day:Int} (hok:AO c=0) (h1:0≤no) (h2:no<c.recs.length) (hd:CO day c.recs[no.toNat]!.asked=true) (hs:c.recs[no.toNat]!.state=1):AW c no (CF day)=(EI,1):=
  IT hok h1 h2 (by revert hd hs;generalize c.recs[no.toNat]! = r;intro hd hs;simp [CF,hd,hs])
theorem AAn {c:Circle} {no day:Int} (hok:AO c=0) (h1:0≤no) (h2:no<c.recs.length) (hd:CO day c.recs[no.toNat]!.asked=true) (hs:c.recs[no.toNat]!.state=0):AW c no (CF day)=(⟨c.epoch,c.threshold,c.wait,c.guardians,c.recs.set no.toNat ⟨c.recs[no.toNat]!.no,c.recs[no.toNat]!.asked,2,c.recs[no.toNat]!.approved,[day]⟩⟩,0):=
  TM hok h1 h2 (by revert hd hs;generalize c.recs[no.toNat]! = r;intro hd hs;simp [CF,hd,hs])
theorem fin_dead {c:Circle} {no day:Int} (hok:AO c=0) (h1:0≤no) (h2:no<c.recs.length) (hs:c.recs[no.toNat]!.state=2):AW c no (BC c day)=(EI,452):=
  IT hok h1 h2 (by revert hs;generalize c.recs[no.toNat]! = r;intro hs;simp [BC,hs])
theorem fin_done {c:Circle} {no day:Int} (hok:AO c=0) (h1:0≤no) (h2:no<c.recs.length) (hs:c.recs[no.toNat]!.state=1):AW c no (BC c day)=(EI,1):=
  IT hok h1 h2 (by revert hs;generalize c.recs[no.toNat]! = r;intro hs;simp [BC,hs])
theorem fin_day {c:Circle} {no day:Int} (hok:AO c=0) (h1:0≤no) (h2:no<c.recs.length) (hs:c.recs[no.toNat]!.state=0) (hd:CO day 0=false):AW c no (BC c day)=(EI,1):=
  IT hok h1 h2 (by revert hs hd;generalize c.recs[no.toNat]! = r;intro hs hd;simp [BC,hs,hd])
theorem fin_few {c:Circle} {no day:Int} (hok:AO c=0) (h1:0≤no) (h2:no<c.recs.length) (hs:c.recs[no.toNat]!.state=0) (hd:CO day 0=true) (ha:MY c c.recs[no.toNat]! = false):AW c no (BC c day)=(EI,450):=
  IT hok h1 h2 (by revert hs hd ha;generalize c.recs[no.toNat]! = r;intro hs hd ha;simp [BC,hs,hd,ha])
theorem fin_wait {c:Circle} {no day:Int} (hok:AO c=0) (h1:0≤no) (h2:no<c.recs.length) (hs:c.recs[no.toNat]!.state=0) (hd:CO day 0=true) (ha:MY c c.recs[no.toNat]! = true) (hw:day<c.recs[no.toNat]!.asked+c.wait):AW c no (BC c day)=(EI,451):=
  IT hok h1 h2 (by revert hs hd ha hw;generalize c.recs[no.toNat]! = r;intro hs hd ha hw;simp [BC,hs,hd,ha];omega)
theorem fin_open {c:Circle} {no day:Int} (hok:AO c=0) (h1:0≤no) (h2:no<c.recs.length) (hs:c.recs[no.toNat]!.state=0) (hd:CO day 0=true) (ha:MY c c.recs[no.toNat]! = true) (hw:c.recs[no.toNat]!.asked+c.wait≤day):AW c no (BC c day)=(⟨c.epoch,c.threshold,c.wait,c.guardians,c.recs.set no.toNat ⟨c.recs[no.toNat]!.no,c.recs[no.toNat]!.asked,1,c.recs[no.toNat]!.approved,c.recs[no.toNat]!.vetoed⟩⟩,0):=
  TM hok h1 h2 (by revert hs hd ha hw;generalize c.recs[no.toNat]! = r;intro hs hd ha hw;simp [BC,hs,hd,ha];omega)
theorem app_dead {c:Circle} {no g:Int} (hok:AO c=0) (h1:0≤no) (h2:no<c.recs.length) (hs:c.recs[no.toNat]!.state=2):AW c no (AV c g)=(EI,452):=
  IT hok h1 h2 (by revert hs;generalize c.recs[no.toNat]! = r;intro hs;simp [AV,hs])
theorem app_done {c:Circle} {no g:Int} (hok:AO c=0) (h1:0≤no) (h2:no<c.recs.length) (hs:c.recs[no.toNat]!.state=1):AW c no (AV c g)=(EI,1):=
  IT hok h1 h2 (by revert hs;generalize c.recs[no.toNat]! = r;intro hs;simp [AV,hs])
theorem app_not {c:Circle} {no g:Int} (hok:AO c=0) (h1:0≤no) (h2:no<c.recs.length) (hs:c.recs[no.toNat]!.state=0) (hg:c.guardians.contains g=false):AW c no (AV c g)=(EI,450):=
  IT hok h1 h2 (by revert hs hg;generalize c.recs[no.toNat]! = r;intro hs hg;simp only [AV,hs,hg];simp [hs,hg])
theorem app_had {c:Circle} {no g:Int} (hok:AO c=0) (h1:0≤no) (h2:no<c.recs.length) (hs:c.recs[no.toNat]!.state=0) (hg:c.guardians.contains g=true) (hb:VE c.recs[no.toNat]!.approved g=true):AW c no (AV c g)=(⟨c.epoch,c.threshold,c.wait,c.guardians,c.recs.set no.toNat c.recs[no.toNat]!⟩,0):=
  TM hok h1 h2 (by revert hs hg hb;generalize c.recs[no.toNat]! = r;intro hs hg hb;simp only [AV,hs,hg,hb];simp [hs,hg,hb])
theorem VW {c:Circle} {no g:Int} (hok:AO c=0) (h1:0≤no) (h2:no<c.recs.length) (hs:c.recs[no.toNat]!.state=0) (hg:c.guardians.contains g=true) (hb:VE c.recs[no.toNat]!.approved g=false):AW c no (AV c g)=(⟨c.epoch,c.threshold,c.wait,c.guardians,c.recs.set no.toNat ⟨c.recs[no.toNat]!.no,c.recs[no.toNat]!.asked,c.recs[no.toNat]!.state,RE c.recs[no.toNat]!.approved g,c.recs[no.toNat]!.vetoed⟩⟩,0):=
  TM hok h1 h2 (by revert hs hg hb;generalize c.recs[no.toNat]! = r;intro hs hg hb;simp only [AV,hs,hg,hb];simp [hs,hg,hb])
theorem MH {l:List Recovery} {k:Nat}:FR l k=false↔l[k]!.no=(k:Int)∧CO l[k]!.asked (FK l k)=true∧EV l[k]! = true∧(l[k]!.state≠0∨(l.length:Int) - 1≤(k:Int)):=by
  simp only [FR,dbs]
  constructor
  · rintro ⟨⟨⟨h1,h2⟩,h3⟩,h4⟩;exact ⟨by omega,by simpa using h2,by simpa using h3,by omega⟩
  · rintro ⟨h1,h2,h3,h4⟩;exact ⟨⟨⟨by omega,by simpa using h2⟩,by simpa using h3⟩,by omega⟩
theorem KP {d f:Int}:CO d f=true↔f≤d∧d<1024:=by simp [CO]
theorem asked_ge {l:List Recovery} {n:Nat} (h:∀ k,k<n→FR l k=false):∀ k,k<n→0≤l[k]!.asked:=by
  intro k hk
  induction k with
  | zero=>
    have:=(KP.1 (MH.1 (h 0 hk)).2.1).1
    simpa [FK] using this
  | succ k ih=>
    have h1:=(KP.1 (MH.1 (h (k+1) hk)).2.1).1
    simp only [FK,Nat.add_one_ne_zero,if_false,Nat.add_sub_cancel] at h1
    have:=ih (by omega)
    omega
theorem RY {c:Circle} (h:AO c=0) {no:Int} (h1:0≤no) (h2:no<c.recs.length):0≤c.recs[no.toNat]!.asked∧c.recs[no.toNat]!.asked<1024∧0≤c.wait∧c.wait<1024:=by
  have hh:=(GX c).1 h
  have ha:=asked_ge hh.2 no.toNat (by omega)
  have hd:=(KP.1 (MH.1 (hh.2 no.toNat (by omega))).2.1).2
  have hw:=hh.1
  simp only [DV,dbs] at hw
  have:=KP.1 (show CO c.wait 0=true by simpa using hw.1.2)
  omega
theorem all_step {p:Nat→Prop} {k:Nat} (h:∀ q,q<k→p q) (hk:p k):∀ q,q<k+1→p q:=fun q hq=>by
  by_cases e:q=k
  · subst e;exact hk
  · exact h q (by omega)
section
variable {l:List Int} {k:Nat}
end
open Go.Fw Go.RowKit
set_option maxHeartbeats 4000000 in
set_option maxRecDepth 100000 in
theorem c_isNaN {O:List Nat} (x:Int) (w:World) (hO:∀ b∈O,b<w.heap.size):CM Try.prog 119 [vI x] w (fun v _=>v = .bool (false)):= by
 have s0:St w O w []:=St.start hO
 refine BP 6 Try.func119 rfl rfl oT (fun F0=>AF (AB kR (AA (AE (vO false) rfl (AG (AC (AF (AB kR (AA (AD (vI x) rfl (AA (AD (vI x) rfl (AA (DQ .i64 x x rfl rfl (AA (AE (vO (x != x)) rfl (AG (AC (AM (AZ rfl (CN rfl rfl rfl) (?_)))))))))))))))))))))
 have e:false=(x != x):=by simp
 exact ⟨_,rfl,s0.keep,(by exact congrArg vO e.symm)⟩
set_option maxHeartbeats 4000000 in
set_option maxRecDepth 100000 in
theorem c_isNaN2 {O:List Nat} (x:Int) (w:World) (hO:∀ b∈O,b<w.heap.size):CM Try.prog 114 [vI x] w (fun v _=>v = .bool (false)):= by
 have s0:St w O w []:=St.start hO
 refine BP 6 Try.func114 rfl rfl oT (fun F0=>AF (AB kR (AA (AE (vO false) rfl (AG (AC (AF (AB kR (AA (AD (vI x) rfl (AA (AD (vI x) rfl (AA (DQ .i64 x x rfl rfl (AA (AE (vO (x != x)) rfl (AG (AC (AM (AZ rfl (CN rfl rfl rfl) (?_)))))))))))))))))))))
 have e:false=(x != x):=by simp
 exact ⟨_,rfl,s0.keep,(by exact congrArg vO e.symm)⟩
set_option maxHeartbeats 4000000 in
set_option maxRecDepth 100000 in
theorem c_less {O:List Nat} (x:Int) (y:Int) (w:World) (hO:∀ b∈O,b<w.heap.size):CM Try.prog 113 [vI x,vI y] w (fun v _=>v = .bool (decide (x<y))):= by
 have s0:St w O w []:=St.start hO
 refine BP 17 Try.func113 rfl rfl oT (fun F0=>AF (AB kR (AA (AE (vO false) rfl (AG (AC (AF (AB kR (AA (AD (vI x) rfl (AA (BF (vs:=[vI x]) enter_119 (c_isNaN (O:=[]++O) x w s0.lt) rfl s0 fun a2 a3 a0 a4 a5 a1=>(?_)))))))))))))
 obtain rfl:=a1
 refine AA (AD (vO false) rfl (AN rfl (AN rfl (AN rfl (AA (BK (vO false) rfl rfl (AA (AD (vO false) rfl (AY rfl (AD (vI x) rfl (AY rfl (AD (vI y) rfl (AY rfl (EB .i64 x y rfl rfl (AA (BK (vO (decide (x<y))) rfl rfl (AA (AE (vO (decide (x<y))) rfl (AG (AC (AM (AZ rfl (CN rfl rfl rfl) (?_)))))))))))))))))))))))
 exact ⟨_,rfl,a0.keep,rfl⟩
set_option maxHeartbeats 4000000 in
set_option maxRecDepth 100000 in
theorem c_bs {O:List Nat} (l_v:Value) (l:List Int) (x:Int) (w:World) (a0:BL Enc.int w O l_v l) (hpre0:∀ p q,p<q→q<l.length→l[p]! < l[q]!) (hpre1:l.length≤4611686018427387903) (hO:∀ b∈O,b<w.heap.size):CM Try.prog 105 [l_v,vI x] w (fun v _=>v = .tuple #[vI ((tw l x:Nat):Int), .bool (VE l x)]):= by
 have d0:=a0.len_le
 have a0:BL Enc.int w ([]++O) l_v l:=a0
 have s0:St w O w []:=St.start hO
 refine BP 54 Try.func105 rfl rfl oT (fun F0=>AF (AB kR (AA (AE (vI 0) rfl (AA (AE (vO false) rfl (AG (AC (AF (AB kR (AA (AD (l_v) rfl (AA (CK U22_ rfl a0 (AA (AE (vI (l.length:Int)) rfl (AG (AC (AF (AB kR (AA (AD (vI (l.length:Int)) rfl (AA (AE (vI 0) rfl (AA (AE (vI (l.length:Int)) rfl (AG (AC (AF (BQ (DU (fun mI FI wI=>∃ (lo:Nat) (hi:Nat) (B:List Nat),lo≤hi∧hi≤l.length∧(∀ q,q<lo→l[q]! < x)∧(∀ q,hi≤q→q<l.length→x≤l[q]!)∧mI=hi - lo∧(∃ F1,FI=GN F1 [(0,l_v),(1,vI x),(6,vI (l.length:Int)),(7,vI ((lo:Nat):Int)),(8,vI ((hi:Nat):Int)),(54,undef)])∧St w O wI B∧BL Enc.int wI (B++O) (l_v) (l)) ((l.length) - (0)) ?_ ?_)))))))))))))))))))))))))))))))
 ·exact ⟨(0),(l.length),[],oM,oM,(fun q hq=>by omega),(fun q h1 h2=>by omega),rfl,⟨_,BD _ ⟨rfl,rfl,rfl,(by rfl),(by rfl),rfl,trivial⟩⟩,s0,a0⟩
 intro e1 F c1 hI
 clear a0
 obtain ⟨lo,hi,a6,hr0_0,hr0_1,hr0_2,hr0_3,e2,⟨e3,rfl⟩,a3,a0⟩:=hI
 refine AF (AF (AB kR (AA (AD (vI ((lo:Nat):Int)) rfl (AA (AD (vI ((hi:Nat):Int)) rfl (AA (EB .i64 ((lo:Nat):Int) ((hi:Nat):Int) rfl rfl (AG (AC (AJ (decide (((lo:Nat):Int)<((hi:Nat):Int))) rfl rfl (fun a1=>?_) (fun a1=>?_))))))))))))
 ·have c2:((lo:Nat):Int)<((hi:Nat):Int):=by simpa using a1
  refine AT (AC (BQ (AF (AB kR (AA (AD (vI ((lo:Nat):Int)) rfl (AA (AD (vI ((hi:Nat):Int)) rfl (AA (DR .i64 ((lo:Nat):Int) ((hi:Nat):Int) (((lo+hi:Nat):Int)) rfl rfl (GZ oM oM) (AA (o_conv .i64 .u64 U3_ U135_ ((lo+hi:Nat):Int) (((lo+hi):Nat):Int) rfl (wrap_u64 oM) (AA (o_shrU .u64 (lo+hi) 1 oM rfl rfl (AA (o_conv .u64 .i64 U135_ U3_ (((lo+hi) / 2 ^ 1:Nat):Int) ((((lo+hi) / 2 ^ 1):Nat):Int) rfl (GZ oM rfl) (AA (AE (vI (((lo+hi) / 2 ^ 1:Nat):Int)) rfl (AG (AC (AF (AB kR (AA (AD (l_v) rfl (AA (AD (vI (((lo+hi) / 2 ^ 1:Nat):Int)) rfl (AA (DO U22_ OB .i64 (((lo+hi) / 2 ^ 1:Nat):Int) ((lo+hi) / 2 ^ 1) rfl rfl rfl a0 oM fun d1 a8=>(AA (CG U3_ rfl rfl a8 (AA (AD (vI x) rfl (AA (BF (vs:=[vI (l[(lo+hi) / 2 ^ 1]!),vI x]) enter_113 (c_less (O:=a6++O) (l[(lo+hi) / 2 ^ 1]!) x c1 a3.lt) rfl a3 fun d2 d3 a7 b1 d4 b2=>(?_)))))))))))))))))))))))))))))))))))
  obtain rfl:=b2
  have a0:=a0.mv b1
  refine AG (AC (AJ (decide (l[(lo+hi) / 2 ^ 1]! < x)) rfl rfl (fun a2=>?_) (fun a2=>?_)))
  ·have c3:l[(lo+hi) / 2 ^ 1]! < x:=by simpa using a2
   refine AB kR (AA (AD (vI (((lo+hi) / 2 ^ 1:Nat):Int)) rfl (AA (DR .i64 (((lo+hi) / 2 ^ 1:Nat):Int) (1:Int) ((((lo+hi) / 2 ^ 1+1:Nat):Int)) rfl rfl (GZ oM oM) (AA (AE (vI (((lo+hi) / 2 ^ 1+1:Nat):Int)) rfl (AG (CB (AC (?_))))))))))
   exact ⟨_,oM,((lo+hi) / 2 ^ 1+1),(hi),a6,oM,oM,(by exact bs_lo hpre0 aS oM),(by exact hr0_3),rfl,⟨_,BD _ ⟨rfl,rfl,rfl,(by rfl),(by rfl),rfl,trivial⟩⟩,a7,a0⟩
  have c4:x≤l[(lo+hi) / 2 ^ 1]!:=by simpa using a2
  refine AB kR (AA (AD (vI (((lo+hi) / 2 ^ 1:Nat):Int)) rfl (AA (AE (vI (((lo+hi) / 2 ^ 1:Nat):Int)) rfl (AG (CB (AC (?_))))))))
  exact ⟨_,oM,(lo),((lo+hi) / 2 ^ 1),a6,oM,oM,(by exact hr0_2),(by exact bs_hi hpre0 aS),rfl,⟨_,BD _ ⟨rfl,rfl,rfl,(by rfl),(by rfl),rfl,trivial⟩⟩,a7,a0⟩
 have c5:((hi:Nat):Int)≤((lo:Nat):Int):=by simpa using a1
 obtain rfl:lo=hi:=by omega
 have htw:tw l x=lo:=tw_eq oM hr0_2 (fun h=>hr0_3 lo oM h)
 refine DW (CL (CL (DK (AC (AF (AB kR (AA (AD (vI ((lo:Nat):Int)) rfl (AA (AD (vI ((lo:Nat):Int)) rfl (AA (AD (vI (l.length:Int)) rfl (AA (EB .i64 ((lo:Nat):Int) (l.length:Int) rfl rfl (AA (AD (vO (decide (((lo:Nat):Int)<(l.length:Int)))) rfl (?_)))))))))))))))))
 cases a4:(decide (((lo:Nat):Int)<(l.length:Int)))
 ·have c6:(l.length:Int)≤((lo:Nat):Int):=by simpa using a4
  refine AN rfl (AN rfl (AN rfl (AN rfl (AN rfl (AN rfl (AN rfl (JQ rfl (JQ rfl (JQ rfl (JQ rfl (JQ rfl (JQ rfl (JQ rfl (JQ rfl (JQ rfl (AN rfl (AA (BK (vO false) rfl rfl (AA (AE (vI ((lo:Nat):Int)) rfl (AA (AE (vO false) rfl (AG (AC (AM (AZ rfl (GE rfl rfl rfl rfl) (?_)))))))))))))))))))))))))))
  have b3:(tw l x)=lo:=by exact htw
  have b4:(VE l x)=false:=by exact bsF_1 htw oM
  exact ⟨_,rfl,a3.keep,by rw [b3,b4];exact rfl⟩
 have c7:((lo:Nat):Int)<(l.length:Int):=by simpa using a4
 refine AY rfl (AD (l_v) rfl (AY rfl (AD (vI ((lo:Nat):Int)) rfl (AY rfl (DO U22_ OB .i64 ((lo:Nat):Int) lo rfl rfl rfl a0 oM fun d5 a9=>(AY rfl (CG U3_ rfl rfl a9 (AY rfl (AD (vI x) rfl (AY rfl (EZ .i64 (l[lo]!) x rfl rfl (AY rfl (AD (vO ((l[lo]!) == x)) rfl (?_))))))))))))))
 cases a5:((l[lo]!) == x)
 ·have c8:l[lo]!≠x:=by simpa using a5
  refine AY rfl (AD (l_v) rfl (AY rfl (AD (vI ((lo:Nat):Int)) rfl (AY rfl (DO U22_ OB .i64 ((lo:Nat):Int) lo rfl rfl rfl a0 oM fun d6 b0=>(AY rfl (CG U3_ rfl rfl b0 (AY rfl (BF (vs:=[vI (l[lo]!)]) enter_114 (c_isNaN2 (O:=a6++O) (l[lo]!) c1 a3.lt) rfl a3 fun d7 d8 b5 d9 e0 b6=>(?_))))))))))
  obtain rfl:=b6
  refine AY rfl (AD (vO false) rfl (AN rfl (AN rfl (AY rfl (BK (vO false) rfl rfl (AY rfl (BK (vO false) rfl rfl (AA (BH (vO false) rfl rfl (AA (AE (vI ((lo:Nat):Int)) rfl (AA (AE (vO false) rfl (AG (AC (AM (AZ rfl (GE rfl rfl rfl rfl) (?_))))))))))))))))))
  have b7:(tw l x)=lo:=by exact htw
  have b8:(VE l x)=false:=by exact bsF_2 htw aS
  exact ⟨_,rfl,b5.keep,by rw [b7,b8];exact rfl⟩
 have c9:l[lo]! = x:=by simpa using a5
 refine AN rfl (AN rfl (AN rfl (AN rfl (AN rfl (AN rfl (JQ rfl (JQ rfl (AN rfl (AY rfl (BH (vO true) rfl rfl (AA (BH (vO true) rfl rfl (AA (AE (vI ((lo:Nat):Int)) rfl (AA (AE (vO true) rfl (AG (AC (AM (AZ rfl (GE rfl rfl rfl rfl) (?_)))))))))))))))))))))
 have b9:(tw l x)=lo:=by exact htw
 have c0:(VE l x)=true:=by exact bsF_t htw oM aS
 exact ⟨_,rfl,a3.keep,by rw [b9,c0];exact rfl⟩
set_option maxHeartbeats 4000000 in
set_option maxRecDepth 100000 in
theorem c_idx {O:List Nat} (l_v:Value) (l:List Int) (x:Int) (w:World) (a2:BL Enc.int w O l_v l) (hO:∀ b∈O,b<w.heap.size):CM Try.prog 104 [l_v,vI x] w (fun v _=>v=vI (idxI l x)):= by
 have a8:=a2.len_le
 have a2:BL Enc.int w ([]++O) l_v l:=a2
 have s0:St w O w []:=St.start hO
 refine BP 19 Try.func104 rfl rfl oT (fun F0=>AF (AB kR (AA (AE (vI 0) rfl (AG (AC (AF (AF (AB kR (AA (AD (l_v) rfl (AA (CK U22_ rfl a2 (AA (AD (vI 0) rfl (AG (AC (BQ (DU (fun mI FI wI=>∃ (k:Nat),k≤l.length∧idxI l x=GM (fun k=>if x == l[k]! then some (k:Int) else none) (-1) k (l.length - k)∧mI=l.length - k∧(∃ F1,FI=GN F1 [(0,l_v),(1,vI x),(7,vI (l.length:Int)),(8,vI ((k:Nat):Int)),(19,undef)])∧w=wI) (l.length - (0)) ?_ ?_)))))))))))))))))))
 ·exact ⟨(0),oM,rfl,rfl,⟨_,BD _ ⟨rfl,rfl,rfl,(by rfl),rfl,trivial⟩⟩,rfl⟩
 rintro b0 F b1 ⟨k,hr0_0,hr0_1,b2,⟨b3,rfl⟩,rfl⟩
 refine AF (AB kR (AA (EB .i64 ((k:Nat):Int) (l.length:Int) rfl rfl (AG (AC (AF (AJ (decide (((k:Nat):Int)<(l.length:Int))) rfl rfl (fun a0=>?_) (fun a0=>?_))))))))
 ·have a4:((k:Nat):Int)<(l.length:Int):=by simpa using a0
  refine AT (AC (AF (BQ (AF (AB kR (AA (AD (vI ((k:Nat):Int)) rfl (AA (AE (vI ((k:Nat):Int)) rfl (AG (AC (AF (AB kR (AA (AD (vI x) rfl (AA (AD (l_v) rfl (AA (AD (vI ((k:Nat):Int)) rfl (AA (DO U22_ OB .i64 ((k:Nat):Int) k rfl rfl rfl a2 oM fun a9 a3=>(AA (CG U3_ rfl rfl a3 (AA (EZ .i64 x (l[k]!) rfl rfl (AG (AC (AJ (x == (l[k]!)) rfl rfl (fun a1=>?_) (fun a1=>?_)))))))))))))))))))))))))))))
  ·have a5:x=l[k]!:=by simpa using a1
   refine AF (AB kR (AA (AD (vI ((k:Nat):Int)) rfl (AA (AE (vI ((k:Nat):Int)) rfl (AG (AC (AM (CE (AP (AP (CE (AP (AZ rfl (CN rfl rfl rfl) (?_)))))))))))))))
   have e:(idxI l x)=((k:Nat):Int):=by (rw [hr0_1];exact ET oM (by ((repeat ((refine (if_pos ?_).trans ?_;omega)));rfl)))
   exact ⟨_,rfl,s0.keep,by rw [e];exact rfl⟩
  have a6:x≠l[k]!:=by simpa using a1
  refine AT (CB (AC (AB kR (AA (DR .i64 ((k:Nat):Int) (1:Int) (((k+1:Nat):Int)) rfl rfl (GZ oM oM) (AA (AD (vI ((k+1:Nat):Int)) rfl (AG (AC (?_))))))))))
  exact ⟨_,oM,(k+1),oM,(hr0_1.trans (IL oM (by ((repeat ((refine (if_neg ?_).trans ?_;solve|(simp only [dbs];(repeat (omega))))));rfl)))),rfl,⟨_,BD _ ⟨rfl,rfl,rfl,(by rfl),rfl,trivial⟩⟩,rfl⟩
 have a7:(l.length:Int)≤((k:Nat):Int):=by simpa using a0
 refine DW (CL (CL (DK (AC (AF (AB kR (AA (AE (vI (-1:Int)) rfl (AG (AC (AM (AZ rfl (CN rfl rfl rfl) (?_)))))))))))))
 have e:(idxI l x)=(-1:Int):=by (rw [hr0_1];exact LD oM)
 exact ⟨_,rfl,s0.keep,by rw [e];exact rfl⟩
set_option maxHeartbeats 4000000 in
set_option maxRecDepth 100000 in
theorem XQ {O:List Nat} (l_v:Value) (l:List Int) (x:Int) (w:World) (a0:BL Enc.int w O l_v l) (hO:∀ b∈O,b<w.heap.size):CM Try.prog 75 [l_v,vI x] w (fun v _=>v = .bool (l.contains x)):= by
 have a3:=a0.len_le
 have a0:BL Enc.int w ([]++O) l_v l:=a0
 have s0:St w O w []:=St.start hO
 refine BP 9 Try.func75 rfl rfl oT (fun F0=>AF (AB kR (AA (AE (vO false) rfl (AG (AC (AF (AB kR (AA (AD (l_v) rfl (AA (AD (vI x) rfl (AA (BF (vs:=[l_v,vI x]) enter_104 (c_idx (O:=[]++O) l_v l x w a0 s0.lt) rfl s0 fun a4 a5 a1 a6 a7 a2=>(?_)))))))))))))))
 obtain rfl:=a2
 refine AA (ID .i64 (idxI l x) (0:Int) rfl rfl (AA (AE (vO (decide ((0:Int)≤idxI l x))) rfl (AG (AC (AM (AZ rfl (CN rfl rfl rfl) (?_))))))))
 have e:(l.contains x)=(decide ((0:Int)≤idxI l x)):=by exact (idxI_pos _ _).symm
 exact ⟨_,rfl,a1.keep,(by exact congrArg vO e.symm)⟩
set_option maxHeartbeats 4000000 in
set_option maxRecDepth 100000 in
theorem OI {O:List Nat} (day:Int) (frm:Int) (w:World) (hO:∀ b∈O,b<w.heap.size):CM Try.prog 65 [vI day,vI frm] w (fun v _=>v = .bool (CO day frm)):= by
 have s0:St w O w []:=St.start hO
 refine BP 12 Try.func65 rfl rfl oT (fun F0=>AF (AB kR (AA (AE (vO false) rfl (AG (AC (AF (AB kR (AA (AD (vI day) rfl (AA (AD (vI frm) rfl (AA (ID .i64 day frm rfl rfl (AA (AD (vO (decide (frm≤day))) rfl (?_)))))))))))))))))
 cases a0:(decide (frm≤day))
 ·have a1:day<frm:=by simpa using a0
  refine AN rfl (AN rfl (AA (BK (vO false) rfl rfl (AA (AE (vO false) rfl (AG (AC (AM (AZ rfl (CN rfl rfl rfl) (?_))))))))))
  have e:(CO day frm)=false:=by simp [CO, *]
  exact ⟨_,rfl,s0.keep,(by exact congrArg vO e.symm)⟩
 have a2:frm≤day:=by simpa using a0
 refine AY rfl (AD (vI day) rfl (AY rfl (EB .i64 day (1024:Int) rfl rfl (AA (BH (vO (decide (day<(1024:Int)))) rfl rfl (AA (AE (vO (decide (day<(1024:Int)))) rfl (AG (AC (AM (AZ rfl (CN rfl rfl rfl) (?_))))))))))))
 have e:(CO day frm)=(decide (day<(1024:Int))):=by simp [CO, *]
 exact ⟨_,rfl,s0.keep,(by exact congrArg vO e.symm)⟩
set_option maxHeartbeats 4000000 in
set_option maxRecDepth 100000 in
theorem c_incr {O:List Nat} (l_v:Value) (l:List Int) (w:World) (a2:BL Enc.int w O l_v l) (hO:∀ b∈O,b<w.heap.size):CM Try.prog 64 [l_v] w (fun v _=>v = .bool (IS l)):= by
 have b1:=a2.len_le
 have a2:BL Enc.int w ([]++O) l_v l:=a2
 have s0:St w O w []:=St.start hO
 refine BP 21 Try.func64 rfl rfl oT (fun F0=>AF (AB kR (AA (AE (vO false) rfl (AG (AC (AF (AB kR (AA (AE (vI (-1:Int)) rfl (AG (AC (AF (AF (AB kR (AA (AD (l_v) rfl (AA (CK U22_ rfl a2 (AA (AD (vI 0) rfl (AG (AC (BQ (DU (fun mI FI wI=>∃ (k:Nat),k≤l.length∧IS l=GM (fun k=>if LN l k then some false else none) true k (l.length - k)∧mI=l.length - k∧(∃ F1,FI=GN F1 [(3,vI (LR l k)),(6,l_v),(7,vI (l.length:Int)),(8,vI ((k:Nat):Int)),(21,undef)])∧w=wI) (l.length - (0)) ?_ ?_)))))))))))))))))))))))))
 ·exact ⟨(0),oM,(by unfold IS;((repeat (first|(refine (if_pos ?_).trans ?_;solve|omega|assumption|(simp only [LN,dbs];first|done|(repeat (first|omega|assumption|(right;first|omega|assumption|(constructor <;> first|omega|assumption))|left)))|(rw [Bool.not_eq_true];simp only [LN,dbs];first|done|omega|assumption|((repeat' apply And.intro) <;> first|omega|assumption))|(simp only [*,dbs];done))|(refine (if_neg ?_).trans ?_;solve|omega|assumption|(simp only [LN,dbs];first|done|(repeat (first|omega|assumption|(right;first|omega|assumption|(constructor <;> first|omega|assumption))|left)))|(rw [Bool.not_eq_true];simp only [LN,dbs];first|done|omega|assumption|((repeat' apply And.intro) <;> first|omega|assumption))|(simp only [*,dbs];done))));rfl)),rfl,⟨_,BD _ ⟨(by rfl),rfl,rfl,(by rfl),rfl,trivial⟩⟩,rfl⟩
 rintro b3 F b4 ⟨k,hr0_0,hr0_1,b5,⟨b6,rfl⟩,rfl⟩
 refine AF (AB kR (AA (EB .i64 ((k:Nat):Int) (l.length:Int) rfl rfl (AG (AC (AF (AJ (decide (((k:Nat):Int)<(l.length:Int))) rfl rfl (fun a0=>?_) (fun a0=>?_))))))))
 ·have a5:((k:Nat):Int)<(l.length:Int):=by simpa using a0
  refine AT (AC (AF (BQ (AF (AB kR (AA (DO U22_ OB .i64 ((k:Nat):Int) k rfl rfl rfl a2 oM fun b2 a4=>(AA (CG U3_ rfl rfl a4 (AA (AE (vI (l[k]!)) rfl (AG (AC (AF (AF (AB kR (AA (AD (vI (l[k]!)) rfl (AA (AD (vI (LR l k)) rfl (AA (o_leq .i64 (l[k]!) (LR l k) rfl rfl (AA (AD (vO (decide (l[k]!≤LR l k))) rfl (?_)))))))))))))))))))))))))
  cases a3:(decide (l[k]!≤LR l k))
  ·have a6:LR l k<l[k]!:=by simpa using a3
   refine AY rfl (AD (vI (l[k]!)) rfl (AY rfl (ID .i64 (l[k]!) (4096:Int) rfl rfl (AA (BK (vO (decide ((4096:Int)≤l[k]!))) rfl rfl (AG (AC (AJ (decide ((4096:Int)≤l[k]!)) rfl rfl (fun a1=>?_) (fun a1=>?_)))))))))
   ·have a7:(4096:Int)≤l[k]!:=by simpa using a1
    refine AF (AB kR (AA (AE (vO false) rfl (AG (AC (AM (AP (CE (AP (AP (CE (AP (AZ rfl (CN rfl rfl rfl) (?_))))))))))))))
    have e:(IS l)=false:=by (rw [hr0_1];exact ET oM (by ((repeat ((refine (if_pos ?_).trans ?_;solve|(simp only [LN,dbs];(repeat (omega))))));rfl)))
    exact ⟨_,rfl,s0.keep,(by exact congrArg vO e.symm)⟩
   have a8:l[k]! < (4096:Int):=by simpa using a1
   refine AT (AC (AB kR (AA (AD (vI (l[k]!)) rfl (AA (AE (vI (l[k]!)) rfl (AG (CB (AC (AB kR (AA (DR .i64 ((k:Nat):Int) (1:Int) (((k+1:Nat):Int)) rfl rfl (GZ oM oM) (AA (AD (vI ((k+1:Nat):Int)) rfl (AG (AC (?_)))))))))))))))))
   exact ⟨_,oM,(k+1),oM,(hr0_1.trans (IL oM (by ((repeat ((refine (if_neg ?_).trans ?_;solve|(simp only [LN,dbs];(repeat (omega))))));rfl)))),rfl,⟨_,BD _ ⟨(by rfl),rfl,rfl,(by rfl),rfl,trivial⟩⟩,rfl⟩
  have a9:l[k]!≤LR l k:=by simpa using a3
  refine AN rfl (AN rfl (AA (BH (vO true) rfl rfl (AG (AC (AJ true rfl rfl (fun _=>AF (AB kR (AA (AE (vO false) rfl (AG (AC (AM (AP (CE (AP (AP (CE (AP (AZ rfl (CN rfl rfl rfl) (?_))))))))))))))) (fun h=>by cases h)))))))
  have e:(IS l)=false:=by (rw [hr0_1];exact ET oM (by ((repeat ((refine (if_pos ?_).trans ?_;solve|(simp only [LN,dbs];(repeat (omega))))));rfl)))
  exact ⟨_,rfl,s0.keep,(by exact congrArg vO e.symm)⟩
 have b0:(l.length:Int)≤((k:Nat):Int):=by simpa using a0
 refine DW (CL (CL (DK (AC (AF (AB kR (AA (AE (vO true) rfl (AG (AC (AM (AZ rfl (CN rfl rfl rfl) (?_)))))))))))))
 have e:(IS l)=true:=by (rw [hr0_1];exact LD oM)
 exact ⟨_,rfl,s0.keep,(by exact congrArg vO e.symm)⟩
set_option maxHeartbeats 4000000 in
set_option maxRecDepth 100000 in
theorem c_recOK {O:List Nat} (r_cs:List Value) (r:Recovery) (w:World) (b6:Enc.recovery.rd w O r_cs r) (hO:∀ b∈O,b<w.heap.size):CM Try.prog 66 [.agg r_cs.toArray] w (fun v _=>v = .bool (EV r)):= by
 have b6:Enc.recovery.rd w ([]++O) r_cs r:=b6
 have s0:St w O w []:=St.start hO
 refine BP 37 Try.func66 rfl rfl oT (fun F0=>AF (AB kR (AA (EC (E:=Enc.recovery) (vA r_cs.toArray) (r_cs) r rfl rfl b6 s0 fun e3 c6 a1 e4 e5 a0=>(AA (AE (vO false) rfl (AG (AC (AF (AF (AB kR (AA (BO 2 LO (r.state) rfl a0 (fun _ _ _ h=>JA h) fun e6 b7=>(AA (CG U3_ rfl rfl b7 (AA (EB .i64 r.state (0:Int) rfl rfl (AA (AD (vO (decide (r.state<(0:Int)))) rfl (?_))))))))))))))))))))
 cases a6:(decide (r.state<(0:Int)))
 ·have d3:(0:Int)≤r.state:=by simpa using a6
  refine AY rfl (BO 2 LO (r.state) rfl a0 (fun _ _ _ h=>JA h) fun e7 b8=>(AY rfl (CG U3_ rfl rfl b8 (AY rfl (HN .i64 r.state (2:Int) rfl rfl (AA (BK (vO (decide ((2:Int)<r.state))) rfl rfl (AA (AD (vO (decide ((2:Int)<r.state))) rfl (?_))))))))))
  cases a7:(decide ((2:Int)<r.state))
  ·have d4:r.state≤(2:Int):=by simpa using a7
   refine AY rfl (BO 3 UV (r.approved) rfl a0 (fun _ _ _ h=>PC h) fun e8 b9=>(AY rfl (CI U22_ rfl rfl b9 fun b3 a8=>(?_))))
   have:=a8.len_le
   refine AY rfl (BF (vs:=[b3]) enter_64 (c_incr (O:=[]++O) b3 r.approved c6 a8 a1.lt) rfl a1 fun e9 c7 a4 c8 f0 c9=>(?_))
   obtain rfl:=c9
   have a0:=a0.mv c8
   refine AY rfl (FF (IS r.approved) rfl (AA (BK (vO (!(IS r.approved))) rfl rfl (AG (AC (AJ (!(IS r.approved)) rfl rfl (fun a2=>?_) (fun a2=>?_)))))))
   ·have d5:(IS r.approved)=false:=by simpa using a2
    refine AF (AB kR (AA (AE (vO false) rfl (AG (AC (AM (AP (AZ rfl (CN rfl rfl rfl) (?_)))))))))
    have e:(EV r)=false:=by (unfold EV;((repeat ((refine (if_pos ?_).trans ?_;solve|(simp only [dbs];(repeat ((right;omega)))))));rfl))
    exact ⟨_,rfl,a4.keep,(by exact congrArg vO e.symm)⟩
   have d6:(IS r.approved)=true:=by simpa using a2
   refine AT (AC (AF (AF (AB kR (AA (BO 2 LO (r.state) rfl a0 (fun _ _ _ h=>JA h) fun f1 c0=>(AA (CG U3_ rfl rfl c0 (AA (EZ .i64 r.state (2:Int) rfl rfl (AG (AC (AJ (r.state == (2:Int)) rfl rfl (fun a3=>?_) (fun a3=>?_))))))))))))))
   ·have d7:r.state=(2:Int):=by simpa using a3
    refine AF (DP 11 _ _ kR kR kR kR kR rfl rfl fun b4 b5=>?_)
    have a5:=a4.call b5
    have d0:Mv ([]) c7 ([]) b4:=Mv.of_keep b5
    have a0:=a0.mv d0
    refine BG (BO 4 f_68_4 (r.vetoed) rfl a0 (fun _ _ _ h=>LM h) fun f2 c1=>(BG (CI U22_ rfl rfl c1 fun f3 a9=>(?_))))
    have:=a9.len_le
    refine BG (CK U22_ rfl a9 (BG (EZ .i64 (r.vetoed.length:Int) (1:Int) rfl rfl (BG (AD (vO ((r.vetoed.length:Int) == (1:Int))) rfl (?_))))))
    cases b0:((r.vetoed.length:Int) == (1:Int))
    ·have d8:(r.vetoed.length:Int)≠(1:Int):=by simpa using b0
     refine RU rfl (RU rfl (RU rfl (RU rfl (RU rfl (RU rfl (EQ (AN rfl (AA (BK (vO false) rfl rfl (AA (AE (vO false) rfl (AG (AC (AM (AP (AZ rfl (CN rfl rfl rfl) (?_)))))))))))))))))
     have e:(EV r)=false:=by (simp_all [EV];done)
     exact ⟨_,rfl,a5.keep,(by exact congrArg vO e.symm)⟩
    have d9:(r.vetoed.length:Int)=(1:Int):=by simpa using b0
    refine DS rfl (BO 4 f_68_4 (r.vetoed) rfl a0 (fun _ _ _ h=>LM h) fun f4 c2=>(DS rfl (CI U22_ rfl rfl c2 fun f5 b1=>(?_))))
    have:=b1.len_le
    refine DS rfl (DO U22_ OB .i64 (0:Int) 0 rfl rfl rfl b1 oM fun f6 c3=>(DS rfl (CG U3_ rfl rfl c3 (DS rfl (BO 1 QB (r.asked) rfl a0 (fun _ _ _ h=>VL h) fun f7 c4=>(DS rfl (CG U3_ rfl rfl c4 (EQ (AY rfl (BF (vs:=[vI (r.vetoed[0]!),vI r.asked]) MT (OI (O:=[]++O) (r.vetoed[0]!) r.asked b4 a5.lt) rfl a5 fun f8 f9 d1 g0 g1 d2=>(?_)))))))))))
    obtain rfl:=d2
    refine AA (BH (vO (CO (r.vetoed[0]!) r.asked)) rfl rfl (AA (AE (vO (CO (r.vetoed[0]!) r.asked)) rfl (AG (AC (AM (AP (AZ rfl (CN rfl rfl rfl) (?_)))))))))
    have e:(EV r)=(CO (r.vetoed[0]!) r.asked):=by (simp_all [EV];done)
    exact ⟨_,rfl,d1.keep,(by exact congrArg vO e.symm)⟩
   have e0:r.state≠(2:Int):=by simpa using a3
   refine AT (AC (AF (AB kR (AA (BO 4 f_68_4 (r.vetoed) rfl a0 (fun _ _ _ h=>LM h) fun g2 c5=>(AA (CI U22_ rfl rfl c5 fun g3 b2=>(?_))))))))
   have:=b2.len_le
   refine AA (CK U22_ rfl b2 (AA (EZ .i64 (r.vetoed.length:Int) (0:Int) rfl rfl (AA (AE (vO ((r.vetoed.length:Int) == (0:Int))) rfl (AG (AC (AM (AZ rfl (CN rfl rfl rfl) (?_))))))))))
   have e:(EV r)=((r.vetoed.length:Int) == (0:Int)):=by (unfold EV;((repeat ((refine (if_neg ?_).trans ?_;solve|(simp only [dbs];(repeat (omega)))|(rw [Bool.not_eq_true];simp only [dbs];((repeat' apply And.intro) <;> omega)))));rfl))
   exact ⟨_,rfl,a4.keep,(by exact congrArg vO e.symm)⟩
  have e1:(2:Int)<r.state:=by simpa using a7
  refine AN rfl (AN rfl (AN rfl (AN rfl (AA (BH (vO true) rfl rfl (AG (AC (AJ true rfl rfl (fun _=>AF (AB kR (AA (AE (vO false) rfl (AG (AC (AM (AP (AZ rfl (CN rfl rfl rfl) (?_)))))))))) (fun h=>by cases h)))))))))
  have e:(EV r)=false:=by (unfold EV;((repeat ((refine (if_pos ?_).trans ?_;solve|(simp only [dbs];(repeat (omega))))));rfl))
  exact ⟨_,rfl,a1.keep,(by exact congrArg vO e.symm)⟩
 have e2:r.state<(0:Int):=by simpa using a6
 refine AN rfl (AN rfl (AN rfl (AA (BH (vO true) rfl rfl (AA (AD (vO true) rfl (AN rfl (AN rfl (AN rfl (AN rfl (AA (BH (vO true) rfl rfl (AG (AC (AJ true rfl rfl (fun _=>AF (AB kR (AA (AE (vO false) rfl (AG (AC (AM (AP (AZ rfl (CN rfl rfl rfl) (?_)))))))))) (fun h=>by cases h))))))))))))))))
 have e:(EV r)=false:=by (unfold EV;((repeat ((refine (if_pos ?_).trans ?_;solve|(simp only [dbs];(repeat (omega))))));rfl))
 exact ⟨_,rfl,a1.keep,(by exact congrArg vO e.symm)⟩
open Go.Fw Go.RowKit
set_option maxHeartbeats 4000000 in
set_option maxRecDepth 100000 in
theorem OJ {O:List Nat} (c_cs:List Value) (c:Circle) (w:World) (e2:Enc.circle.rd w O c_cs c) (hO:∀ b∈O,b<w.heap.size):CM Try.prog 31 [.agg c_cs.toArray] w (fun v _=>v=vI (AO c)):= by
 have e2:Enc.circle.rd w ([]++O) c_cs c:=e2
 have s0:St w O w []:=St.start hO
 refine BP 95 Try.func31 rfl rfl oT (fun F0=>AF (AB kR (AA (EC (E:=Enc.circle) (vA c_cs.toArray) (c_cs) c rfl rfl e2 s0 fun d8 f6 a5 k6 k7 a0=>(AA (AE (vI 0) rfl (AG (AC (AF (AB kR (AA (BO 3 LK (c.guardians) rfl a0 (fun _ _ _ h=>HS h) fun k8 e3=>(AA (CI U22_ rfl rfl e3 fun k9 c1=>(?_)))))))))))))))
 have:=c1.len_le
 refine AA (CK U22_ rfl c1 (AA (AE (vI (c.guardians.length:Int)) rfl (AG (AC (AF (AF (AB kR (AA (BO 0 MF (c.epoch) rfl a0 (fun _ _ _ h=>LA h) fun l0 e4=>(AA (CG U3_ rfl rfl e4 (AA (EB .i64 c.epoch (0:Int) rfl rfl (AA (AD (vO (decide (c.epoch<(0:Int)))) rfl (?_)))))))))))))))))
 cases c2:(decide (c.epoch<(0:Int)))
 ·have h2:(0:Int)≤c.epoch:=by simpa using c2
  refine AY rfl (BO 0 MF (c.epoch) rfl a0 (fun _ _ _ h=>LA h) fun l1 e5=>(AY rfl (CG U3_ rfl rfl e5 (AY rfl (HN .i64 c.epoch (1048576:Int) rfl rfl (AA (BK (vO (decide ((1048576:Int)<c.epoch))) rfl rfl (AA (AD (vO (decide ((1048576:Int)<c.epoch))) rfl (?_))))))))))
  cases c3:(decide ((1048576:Int)<c.epoch))
  ·have h3:c.epoch≤(1048576:Int):=by simpa using c3
   refine AY rfl (AD (vI (c.guardians.length:Int)) rfl (AY rfl (EB .i64 (c.guardians.length:Int) (1:Int) rfl rfl (AA (BK (vO (decide ((c.guardians.length:Int)<(1:Int)))) rfl rfl (AA (AD (vO (decide ((c.guardians.length:Int)<(1:Int)))) rfl (?_))))))))
   cases c4:(decide ((c.guardians.length:Int)<(1:Int)))
   ·have h4:(1:Int)≤(c.guardians.length:Int):=by simpa using c4
    refine AY rfl (AD (vI (c.guardians.length:Int)) rfl (AY rfl (HN .i64 (c.guardians.length:Int) (8:Int) rfl rfl (AA (BK (vO (decide ((8:Int)<(c.guardians.length:Int)))) rfl rfl (AA (AD (vO (decide ((8:Int)<(c.guardians.length:Int)))) rfl (?_))))))))
    cases c5:(decide ((8:Int)<(c.guardians.length:Int)))
    ·have h5:(c.guardians.length:Int)≤(8:Int):=by simpa using c5
     refine AY rfl (BO 3 LK (c.guardians) rfl a0 (fun _ _ _ h=>HS h) fun l2 e6=>(AY rfl (CI U22_ rfl rfl e6 fun d9 c6=>(?_))))
     have:=c6.len_le
     refine AY rfl (BF (vs:=[d9]) enter_64 (c_incr (O:=[]++O) d9 c.guardians f6 c6 a5.lt) rfl a5 fun l3 f7 a6 f8 l4 f9=>(?_))
     obtain rfl:=f9
     have a0:=a0.mv f8
     refine AY rfl (FF (IS c.guardians) rfl (AA (BK (vO (!(IS c.guardians))) rfl rfl (AA (AD (vO (!(IS c.guardians))) rfl (?_))))))
     cases c7:(!(IS c.guardians))
     ·have h6:(IS c.guardians)=true:=by simpa using c7
      refine AY rfl (BO 1 KK (c.threshold) rfl a0 (fun _ _ _ h=>IV h) fun l5 e7=>(AY rfl (CG U3_ rfl rfl e7 (AY rfl (EB .i64 c.threshold (1:Int) rfl rfl (AA (BK (vO (decide (c.threshold<(1:Int)))) rfl rfl (AA (AD (vO (decide (c.threshold<(1:Int)))) rfl (?_))))))))))
      cases c8:(decide (c.threshold<(1:Int)))
      ·have h7:(1:Int)≤c.threshold:=by simpa using c8
       refine AY rfl (BO 1 KK (c.threshold) rfl a0 (fun _ _ _ h=>IV h) fun l6 e8=>(AY rfl (CG U3_ rfl rfl e8 (AY rfl (AD (vI (c.guardians.length:Int)) rfl (AY rfl (HN .i64 c.threshold (c.guardians.length:Int) rfl rfl (AA (BK (vO (decide ((c.guardians.length:Int)<c.threshold))) rfl rfl (AA (AD (vO (decide ((c.guardians.length:Int)<c.threshold))) rfl (?_))))))))))))
       cases c9:(decide ((c.guardians.length:Int)<c.threshold))
       ·have h8:c.threshold≤(c.guardians.length:Int):=by simpa using c9
        refine AY rfl (BO 2 f_28_2 (c.wait) rfl a0 (fun _ _ _ h=>RI h) fun l7 e9=>(AY rfl (CG U3_ rfl rfl e9 (AY rfl (BF (vs:=[vI c.wait,vI 0]) MT (OI (O:=[]++O) c.wait (0:Int) f7 a6.lt) rfl a6 fun l8 l9 b7 g0 m0 g1=>(?_))))))
        obtain rfl:=g1
        have a0:=a0.mv g0
        refine AY rfl (FF (CO c.wait (0:Int)) rfl (AA (BK (vO (!(CO c.wait (0:Int)))) rfl rfl (AA (AD (vO (!(CO c.wait (0:Int)))) rfl (?_))))))
        cases d0:(!(CO c.wait (0:Int)))
        ·have h9:(CO c.wait (0:Int))=true:=by simpa using d0
         refine AY rfl (BO 4 EF (c.recs) rfl a0 (fun _ _ _ h=>CV h) fun m1 f0=>(AY rfl (CI U26_ rfl rfl f0 fun m2 d1=>(?_))))
         have:=d1.len_le
         refine AY rfl (CK U26_ rfl d1 (AY rfl (HN .i64 (c.recs.length:Int) (1024:Int) rfl rfl (AA (BK (vO (decide ((1024:Int)<(c.recs.length:Int)))) rfl rfl (AG (AC (AJ (decide ((1024:Int)<(c.recs.length:Int))) rfl rfl (fun b3=>?_) (fun b3=>?_)))))))))
         ·have i0:(1024:Int)<(c.recs.length:Int):=by simpa using b3
          refine AF (AB kR (AA (AE (vI 450) rfl (AG (AC (AM (AP (AZ rfl (CN rfl rfl rfl) (?_)))))))))
          have e:(AO c)=(450:Int):=by (unfold AO;((repeat ((refine (if_pos ?_).trans ?_;solve|(simp only [DV,FR,dbs];(repeat (omega))))));rfl))
          exact ⟨_,rfl,b7.keep,by rw [e];exact rfl⟩
         have i1:(c.recs.length:Int)≤(1024:Int):=by simpa using b3
         refine AT (AC (AF (AB kR (AA (AE (vI 0) rfl (AG (AC (AF (AF (AB kR (AA (BO 4 EF (c.recs) rfl a0 (fun _ _ _ h=>CV h) fun m3 f1=>(AA (CI U26_ rfl rfl f1 fun e0 a1=>(?_)))))))))))))))
         have:=a1.len_le
         refine AA (CK U26_ rfl a1 (AA (AD (vI 0) rfl (AG (AC (BQ (DU (fun mI FI wI=>∃ (k:Nat) (B:List Nat),k≤c.recs.length∧AO c=GM (fun k=>if FR c.recs k then some 450 else none) 0 k (c.recs.length - k)∧mI=c.recs.length - k∧(∃ F1,FI=GN F1 [(1,vP (some d8)),(4,vI (FK c.recs k)),(56,e0),(57,vI (c.recs.length:Int)),(58,vI ((k:Nat):Int)),(95,undef)])∧St w O wI B∧PT Enc.circle wI (B++O) (.pointer (some d8)) (c)∧BL Enc.recovery wI (B++O) (e0) (c.recs)) (c.recs.length - (0)) ?_ ?_)))))))
         ·exact ⟨(0),[],oM,(by unfold AO;((repeat ((refine (if_neg ?_).trans ?_;solve|(simp only [DV,FR,dbs];(repeat (first|omega|assumption|(right;first|omega|assumption|(constructor <;> first|omega|assumption))|left)))|(rw [Bool.not_eq_true];simp only [DV,FR,dbs];((repeat' apply And.intro) <;> omega)))));rfl)),rfl,⟨_,BD _ ⟨rfl,(by rfl),rfl,rfl,(by rfl),rfl,trivial⟩⟩,b7,a0,a1⟩
         intro n5 F n6 hI
         clear a0 a1
         obtain ⟨k,d2,hr0_0,hr0_1,n7,⟨n9,rfl⟩,h1,a0,a1⟩:=hI
         refine AF (AB kR (AA (EB .i64 ((k:Nat):Int) (c.recs.length:Int) rfl rfl (AG (AC (AF (AJ (decide (((k:Nat):Int)<(c.recs.length:Int))) rfl rfl (fun b4=>?_) (fun b4=>?_))))))))
         ·have i2:((k:Nat):Int)<(c.recs.length:Int):=by simpa using b4
          refine AT (AC (AF (BQ (AF (AB kR (AA (AD (vI ((k:Nat):Int)) rfl (AA (DO U26_ GK .i64 ((k:Nat):Int) k rfl rfl rfl a1 oM fun m4 f2=>(AA (CY U68_ rfl GK rfl f2 fun f3 b5=>(AA (CR [vI 0,vI 0,vI 0,nS,nS] OZ rfl h1 fun a7 g2 g3 g4 b8 m5 f4=>(?_))))))))))))))
          clear g3
          have a0:=a0.mv b8
          have a1:=a1.mv b8
          have b5:Enc.recovery.rd g2 ((a7 :: d2)++O) f3 (c.recs[k]!):=Enc.mv Enc.recovery (x:=c.recs[k]!) b5 b8
          refine AA (AE (vI ((k:Nat):Int)) rfl (?_))
          obtain ⟨a8,a9,rfl,a3,a4⟩:=b5
          have:=a3.len_le
          have:=a4.len_le
          refine BZ (BE (vs:=[vI ((c.recs[k]!).no),vI ((c.recs[k]!).asked),vI ((c.recs[k]!).state),a8,a9]) (.agg #[vI ((c.recs[k]!).no),vI ((c.recs[k]!).asked),vI ((c.recs[k]!).state),a8,a9]) rfl rfl rfl GK (fun u hu=>by simp only [List.mem_cons,List.not_mem_nil,or_false] at hu;rcases hu with rfl|rfl|rfl|rfl|rfl <;> first|rfl|exact a3.oneCell|exact a4.oneCell) (by repeat (constructor)) f4 oT g4 fun g5 b9 b0 m6 a2=>(?_))
          have a0:=a0.mv b0
          have a1:=a1.mv b0
          have a3:=a3.mv b0
          have a4:=a4.mv b0
          refine AG (AC (AF (AF (AB kR (AA (AH 0 f_68_0 rfl (AA (AK U3_ rfl (vI ((c.recs[k]!).no)) rfl a2 rfl (AA (AD (vI ((k:Nat):Int)) rfl (AA (DQ .i64 ((c.recs[k]!).no) ((k:Nat):Int) rfl rfl (AA (AD (vO (((c.recs[k]!).no) != ((k:Nat):Int))) rfl (?_)))))))))))))))
          cases d3:(((c.recs[k]!).no) != ((k:Nat):Int))
          ·have i3:(c.recs[k]!).no=((k:Nat):Int):=by simpa using d3
           refine AY rfl (AH 1 QB rfl (AY rfl (AK U3_ rfl (vI ((c.recs[k]!).asked)) rfl a2 rfl (AY rfl (AD (vI (FK c.recs k)) rfl (AY rfl (BF (vs:=[vI ((c.recs[k]!).asked),vI (FK c.recs k)]) MT (OI (O:=(a7 :: d2)++O) ((c.recs[k]!).asked) (FK c.recs k) g5 b9.lt) rfl b9 fun m7 g6 c0 b1 g7 g8=>(?_))))))))
           obtain rfl:=g8
           have a0:=a0.mv b1
           have a1:=a1.mv b1
           have a3:=a3.mv b1
           have a4:=a4.mv b1
           have a2:=a2.keep g7 (by simp)
           refine AY rfl (FF (CO ((c.recs[k]!).asked) (FK c.recs k)) rfl (AA (BK (vO (!(CO ((c.recs[k]!).asked) (FK c.recs k)))) rfl rfl (AA (AD (vO (!(CO ((c.recs[k]!).asked) (FK c.recs k)))) rfl (?_))))))
           cases d4:(!(CO ((c.recs[k]!).asked) (FK c.recs k)))
           ·have i4:(CO ((c.recs[k]!).asked) (FK c.recs k))=true:=by simpa using d4
            refine AY rfl (BI (vs:=[vI ((c.recs[k]!).no),vI ((c.recs[k]!).asked),vI ((c.recs[k]!).state),a8,a9]) U68_ rfl GK rfl a2 rfl (AY rfl (BF (vs:=[vA #[vI ((c.recs[k]!).no),vI ((c.recs[k]!).asked),vI ((c.recs[k]!).state),a8,a9]]) enter_66 (c_recOK (O:=(a7 :: d2)++O) [vI ((c.recs[k]!).no),vI ((c.recs[k]!).asked),vI ((c.recs[k]!).state),a8,a9] (c.recs[k]!) g6 ⟨_,_,rfl,a3,a4⟩ c0.lt) rfl c0 fun m9 n2 b2 e1 g9 h0=>(?_))))
            obtain rfl:=h0
            have a0:=a0.mv e1
            have a1:=a1.mv e1
            have a2:=a2.keep g9 (by simp)
            refine AY rfl (FF (EV (c.recs[k]!)) rfl (AA (BK (vO (!(EV (c.recs[k]!)))) rfl rfl (AA (AD (vO (!(EV (c.recs[k]!)))) rfl (?_))))))
            cases d5:(!(EV (c.recs[k]!)))
            ·have i5:(EV (c.recs[k]!))=true:=by simpa using d5
             refine AY rfl (AH 2 LO rfl (AY rfl (AK U3_ rfl (vI ((c.recs[k]!).state)) rfl a2 rfl (AY rfl (EZ .i64 ((c.recs[k]!).state) (0:Int) rfl rfl (AY rfl (AD (vO (((c.recs[k]!).state) == (0:Int))) rfl (?_))))))))
             cases d6:(((c.recs[k]!).state) == (0:Int))
             ·have i6:(c.recs[k]!).state≠(0:Int):=by simpa using d6
              refine AN rfl (AN rfl (AN rfl (AN rfl (AN rfl (AN rfl (AY rfl (BK (vO false) rfl rfl (AA (BK (vO false) rfl rfl (AG (AC (AJ false rfl rfl (fun h=>by cases h) (fun _=>AT (AC (AB kR (AA (AH 1 QB rfl (AA (AK U3_ rfl (vI ((c.recs[k]!).asked)) rfl a2 rfl (AA (AE (vI ((c.recs[k]!).asked)) rfl (AG (CB (AC (AB kR (AA (DR .i64 ((k:Nat):Int) (1:Int) (((k+1:Nat):Int)) rfl rfl (GZ oM oM) (AA (AD (vI ((k+1:Nat):Int)) rfl (AG (AC (?_))))))))))))))))))))))))))))))))
              exact ⟨_,oM,(k+1),(a7 :: d2),oM,(hr0_1.trans (IL oM (by ((repeat ((refine (if_neg ?_).trans ?_;solve|(simp only [DV,FR,dbs];(repeat (first|omega|assumption|(right;first|omega|assumption|(constructor <;> first|omega|assumption))|left)))|(rw [Bool.not_eq_true];simp only [DV,FR,dbs];((repeat' apply And.intro) <;> omega)))));rfl)))),rfl,⟨_,BD _ ⟨rfl,(by rfl),rfl,rfl,(by rfl),rfl,trivial⟩⟩,b2,a0,a1⟩
             have i7:(c.recs[k]!).state=(0:Int):=by simpa using d6
             refine AY rfl (AD (vI ((k:Nat):Int)) rfl (AY rfl (BO 4 EF (c.recs) rfl a0 (fun _ _ _ h=>CV h) fun n3 f5=>(AY rfl (CI U26_ rfl rfl f5 fun n4 d7=>(?_))))))
             have:=d7.len_le
             refine AY rfl (CK U26_ rfl d7 (AY rfl (KI .i64 (c.recs.length:Int) (1:Int) ((c.recs.length:Int) - (1:Int)) rfl rfl (GZ oM oM) (AY rfl (EB .i64 ((k:Nat):Int) ((c.recs.length:Int) - (1:Int)) rfl rfl (AY rfl (BH (vO (decide (((k:Nat):Int)<(c.recs.length:Int) - (1:Int)))) rfl rfl (AA (BK (vO (decide (((k:Nat):Int)<(c.recs.length:Int) - (1:Int)))) rfl rfl (AG (AC (AJ (decide (((k:Nat):Int)<(c.recs.length:Int) - (1:Int))) rfl rfl (fun b6=>?_) (fun b6=>?_)))))))))))))
             ·have i8:((k:Nat):Int)<(c.recs.length:Int) - (1:Int):=by simpa using b6
              refine AF (AB kR (AA (AE (vI 450) rfl (AG (AC (AM (AP (CE (AP (AP (CE (AP (AZ rfl (CN rfl rfl rfl) (?_))))))))))))))
              have e:(AO c)=(450:Int):=by (rw [hr0_1];exact ET oM (by ((repeat ((refine (if_pos ?_).trans ?_;solve|(simp only [DV,FR,dbs];(repeat (omega))))));rfl)))
              exact ⟨_,rfl,b2.keep,by rw [e];exact rfl⟩
             have i9:(c.recs.length:Int) - (1:Int)≤((k:Nat):Int):=by simpa using b6
             refine AT (AC (AB kR (AA (AH 1 QB rfl (AA (AK U3_ rfl (vI ((c.recs[k]!).asked)) rfl a2 rfl (AA (AE (vI ((c.recs[k]!).asked)) rfl (AG (CB (AC (AB kR (AA (DR .i64 ((k:Nat):Int) (1:Int) (((k+1:Nat):Int)) rfl rfl (GZ oM oM) (AA (AD (vI ((k+1:Nat):Int)) rfl (AG (AC (?_)))))))))))))))))))
             exact ⟨_,oM,(k+1),(a7 :: d2),oM,(hr0_1.trans (IL oM (by ((repeat ((refine (if_neg ?_).trans ?_;solve|(simp only [DV,FR,dbs];(repeat (first|omega|assumption|(right;first|omega|assumption|(constructor <;> first|omega|assumption))|left)))|(rw [Bool.not_eq_true];simp only [DV,FR,dbs];((repeat' apply And.intro) <;> omega)))));rfl)))),rfl,⟨_,BD _ ⟨rfl,(by rfl),rfl,rfl,(by rfl),rfl,trivial⟩⟩,b2,a0,a1⟩
            have j0:(EV (c.recs[k]!))=false:=by simpa using d5
            refine AN rfl (AN rfl (AN rfl (AN rfl (JQ rfl (JQ rfl (JQ rfl (JQ rfl (JQ rfl (JQ rfl (AN rfl (AA (BH (vO true) rfl rfl (AG (AC (AJ true rfl rfl (fun _=>AF (AB kR (AA (AE (vI 450) rfl (AG (AC (AM (AP (CE (AP (AP (CE (AP (AZ rfl (CN rfl rfl rfl) (?_))))))))))))))) (fun h=>by cases h))))))))))))))))
            have e:(AO c)=(450:Int):=by (rw [hr0_1];exact ET oM (by ((repeat ((refine (if_pos ?_).trans ?_;solve|(simp only [DV,FR,dbs];(repeat (first|(right;omega)|left))))));rfl)))
            exact ⟨_,rfl,b2.keep,by rw [e];exact rfl⟩
           have j1:(CO ((c.recs[k]!).asked) (FK c.recs k))=false:=by simpa using d4
           refine AN rfl (AN rfl (AN rfl (AA (BH (vO true) rfl rfl (AA (AD (vO true) rfl (AN rfl (AN rfl (AN rfl (AN rfl (JQ rfl (JQ rfl (JQ rfl (JQ rfl (JQ rfl (JQ rfl (AN rfl (AA (BH (vO true) rfl rfl (AG (AC (AJ true rfl rfl (fun _=>AF (AB kR (AA (AE (vI 450) rfl (AG (AC (AM (AP (CE (AP (AP (CE (AP (AZ rfl (CN rfl rfl rfl) (?_))))))))))))))) (fun h=>by cases h)))))))))))))))))))))))
           have e:(AO c)=(450:Int):=by (rw [hr0_1];exact ET oM (by ((repeat ((refine (if_pos ?_).trans ?_;solve|(simp only [DV,FR,dbs];(repeat (first|(right;omega)|left))))));rfl)))
           exact ⟨_,rfl,c0.keep,by rw [e];exact rfl⟩
          have j2:(c.recs[k]!).no≠((k:Nat):Int):=by simpa using d3
          refine AN rfl (AN rfl (AN rfl (AN rfl (AN rfl (AA (BH (vO true) rfl rfl (AA (AD (vO true) rfl (AN rfl (AN rfl (AN rfl (AA (BH (vO true) rfl rfl (AA (AD (vO true) rfl (AN rfl (AN rfl (AN rfl (AN rfl (JQ rfl (JQ rfl (JQ rfl (JQ rfl (JQ rfl (JQ rfl (AN rfl (AA (BH (vO true) rfl rfl (AG (AC (AJ true rfl rfl (fun _=>AF (AB kR (AA (AE (vI 450) rfl (AG (AC (AM (AP (CE (AP (AP (CE (AP (AZ rfl (CN rfl rfl rfl) (?_))))))))))))))) (fun h=>by cases h))))))))))))))))))))))))))))))))
          have e:(AO c)=(450:Int):=by (rw [hr0_1];exact ET oM (by ((repeat ((refine (if_pos ?_).trans ?_;solve|(simp only [DV,FR,dbs];(repeat (omega))))));rfl)))
          exact ⟨_,rfl,b9.keep,by rw [e];exact rfl⟩
         have j3:(c.recs.length:Int)≤((k:Nat):Int):=by simpa using b4
         refine DW (CL (CL (DK (AC (AF (AB kR (AA (AE (vI 0) rfl (AG (AC (AM (AZ rfl (CN rfl rfl rfl) (?_)))))))))))))
         have e:(AO c)=(0:Int):=by (rw [hr0_1];exact LD oM)
         exact ⟨_,rfl,h1.keep,by rw [e];exact rfl⟩
        have j4:(CO c.wait (0:Int))=false:=by simpa using d0
        refine AN rfl (AN rfl (AN rfl (AN rfl (AA (BH (vO true) rfl rfl (AG (AC (AJ true rfl rfl (fun _=>AF (AB kR (AA (AE (vI 450) rfl (AG (AC (AM (AP (AZ rfl (CN rfl rfl rfl) (?_)))))))))) (fun h=>by cases h)))))))))
        have e:(AO c)=(450:Int):=by (unfold AO;((repeat ((refine (if_pos ?_).trans ?_;solve|(simp only [DV,FR,dbs];(repeat (first|(right;omega)|left))))));rfl))
        exact ⟨_,rfl,b7.keep,by rw [e];exact rfl⟩
       have j5:(c.guardians.length:Int)<c.threshold:=by simpa using c9
       refine AN rfl (AN rfl (AN rfl (AN rfl (AA (BH (vO true) rfl rfl (AA (AD (vO true) rfl (AN rfl (AN rfl (AN rfl (AN rfl (AA (BH (vO true) rfl rfl (AG (AC (AJ true rfl rfl (fun _=>AF (AB kR (AA (AE (vI 450) rfl (AG (AC (AM (AP (AZ rfl (CN rfl rfl rfl) (?_)))))))))) (fun h=>by cases h)))))))))))))))))
       have e:(AO c)=(450:Int):=by (unfold AO;((repeat ((refine (if_pos ?_).trans ?_;solve|(simp only [DV,FR,dbs];(repeat (omega))))));rfl))
       exact ⟨_,rfl,a6.keep,by rw [e];exact rfl⟩
      have j6:c.threshold<(1:Int):=by simpa using c8
      refine AN rfl (AN rfl (AN rfl (AN rfl (AA (BH (vO true) rfl rfl (AA (AD (vO true) rfl (AN rfl (AN rfl (AN rfl (AN rfl (AA (BH (vO true) rfl rfl (AA (AD (vO true) rfl (AN rfl (AN rfl (AN rfl (AN rfl (AA (BH (vO true) rfl rfl (AG (AC (AJ true rfl rfl (fun _=>AF (AB kR (AA (AE (vI 450) rfl (AG (AC (AM (AP (AZ rfl (CN rfl rfl rfl) (?_)))))))))) (fun h=>by cases h)))))))))))))))))))))))))
      have e:(AO c)=(450:Int):=by (unfold AO;((repeat ((refine (if_pos ?_).trans ?_;solve|(simp only [DV,FR,dbs];(repeat (omega))))));rfl))
      exact ⟨_,rfl,a6.keep,by rw [e];exact rfl⟩
     have j7:(IS c.guardians)=false:=by simpa using c7
     refine AN rfl (AN rfl (AN rfl (AA (BH (vO true) rfl rfl (AA (AD (vO true) rfl (AN rfl (AN rfl (AN rfl (AN rfl (AA (BH (vO true) rfl rfl (AA (AD (vO true) rfl (AN rfl (AN rfl (AN rfl (AN rfl (AA (BH (vO true) rfl rfl (AA (AD (vO true) rfl (AN rfl (AN rfl (AN rfl (AN rfl (AA (BH (vO true) rfl rfl (AG (AC (AJ true rfl rfl (fun _=>AF (AB kR (AA (AE (vI 450) rfl (AG (AC (AM (AP (AZ rfl (CN rfl rfl rfl) (?_)))))))))) (fun h=>by cases h))))))))))))))))))))))))))))))))
     have e:(AO c)=(450:Int):=by (unfold AO;((repeat ((refine (if_pos ?_).trans ?_;solve|(simp only [DV,FR,dbs];(repeat (first|(right;omega)|left))))));rfl))
     exact ⟨_,rfl,a6.keep,by rw [e];exact rfl⟩
    have j8:(8:Int)<(c.guardians.length:Int):=by simpa using c5
    refine AN rfl (AN rfl (AN rfl (AN rfl (AA (BH (vO true) rfl rfl (AA (AD (vO true) rfl (AN rfl (AN rfl (AN rfl (AA (BH (vO true) rfl rfl (AA (AD (vO true) rfl (AN rfl (AN rfl (AN rfl (AN rfl (AA (BH (vO true) rfl rfl (AA (AD (vO true) rfl (AN rfl (AN rfl (AN rfl (AN rfl (AA (BH (vO true) rfl rfl (AA (AD (vO true) rfl (AN rfl (AN rfl (AN rfl (AN rfl (AA (BH (vO true) rfl rfl (AG (AC (AJ true rfl rfl (fun _=>AF (AB kR (AA (AE (vI 450) rfl (AG (AC (AM (AP (AZ rfl (CN rfl rfl rfl) (?_)))))))))) (fun h=>by cases h))))))))))))))))))))))))))))))))))))))))
    have e:(AO c)=(450:Int):=by (unfold AO;((repeat ((refine (if_pos ?_).trans ?_;solve|(simp only [DV,FR,dbs];(repeat (omega))))));rfl))
    exact ⟨_,rfl,a5.keep,by rw [e];exact rfl⟩
   have j9:(c.guardians.length:Int)<(1:Int):=by simpa using c4
   refine AN rfl (AN rfl (AA (BH (vO true) rfl rfl (AA (AD (vO true) rfl (AN rfl (AN rfl (AN rfl (AN rfl (AA (BH (vO true) rfl rfl (AA (AD (vO true) rfl (AN rfl (AN rfl (AN rfl (AA (BH (vO true) rfl rfl (AA (AD (vO true) rfl (AN rfl (AN rfl (AN rfl (AN rfl (AA (BH (vO true) rfl rfl (AA (AD (vO true) rfl (AN rfl (AN rfl (AN rfl (AN rfl (AA (BH (vO true) rfl rfl (AA (AD (vO true) rfl (AN rfl (AN rfl (AN rfl (AN rfl (AA (BH (vO true) rfl rfl (AG (AC (AJ true rfl rfl (fun _=>AF (AB kR (AA (AE (vI 450) rfl (AG (AC (AM (AP (AZ rfl (CN rfl rfl rfl) (?_)))))))))) (fun h=>by cases h))))))))))))))))))))))))))))))))))))))))))))))
   have e:(AO c)=(450:Int):=by (unfold AO;((repeat ((refine (if_pos ?_).trans ?_;solve|(simp only [DV,FR,dbs];(repeat (omega))))));rfl))
   exact ⟨_,rfl,a5.keep,by rw [e];exact rfl⟩
  have k0:(1048576:Int)<c.epoch:=by simpa using c3
  refine AN rfl (AN rfl (AA (BH (vO true) rfl rfl (AA (AD (vO true) rfl (AN rfl (AN rfl (AA (BH (vO true) rfl rfl (AA (AD (vO true) rfl (AN rfl (AN rfl (AN rfl (AN rfl (AA (BH (vO true) rfl rfl (AA (AD (vO true) rfl (AN rfl (AN rfl (AN rfl (AA (BH (vO true) rfl rfl (AA (AD (vO true) rfl (AN rfl (AN rfl (AN rfl (AN rfl (AA (BH (vO true) rfl rfl (AA (AD (vO true) rfl (AN rfl (AN rfl (AN rfl (AN rfl (AA (BH (vO true) rfl rfl (AA (AD (vO true) rfl (AN rfl (AN rfl (AN rfl (AN rfl (AA (BH (vO true) rfl rfl (AG (AC (AJ true rfl rfl (fun _=>AF (AB kR (AA (AE (vI 450) rfl (AG (AC (AM (AP (AZ rfl (CN rfl rfl rfl) (?_)))))))))) (fun h=>by cases h))))))))))))))))))))))))))))))))))))))))))))))))))))
  have e:(AO c)=(450:Int):=by (unfold AO;((repeat ((refine (if_pos ?_).trans ?_;solve|(simp only [DV,FR,dbs];(repeat (omega))))));rfl))
  exact ⟨_,rfl,a5.keep,by rw [e];exact rfl⟩
 have k5:c.epoch<(0:Int):=by simpa using c2
 refine AN rfl (AN rfl (AN rfl (AA (BH (vO true) rfl rfl (AA (AD (vO true) rfl (AN rfl (AN rfl (AA (BH (vO true) rfl rfl (AA (AD (vO true) rfl (AN rfl (AN rfl (AA (BH (vO true) rfl rfl (AA (AD (vO true) rfl (AN rfl (AN rfl (AN rfl (AN rfl (AA (BH (vO true) rfl rfl (AA (AD (vO true) rfl (AN rfl (AN rfl (AN rfl (AA (BH (vO true) rfl rfl (AA (AD (vO true) rfl (AN rfl (AN rfl (AN rfl (AN rfl (AA (BH (vO true) rfl rfl (AA (AD (vO true) rfl (AN rfl (AN rfl (AN rfl (AN rfl (AA (BH (vO true) rfl rfl (AA (AD (vO true) rfl (AN rfl (AN rfl (AN rfl (AN rfl (AA (BH (vO true) rfl rfl (AG (AC (AJ true rfl rfl (fun _=>AF (AB kR (AA (AE (vI 450) rfl (AG (AC (AM (AP (AZ rfl (CN rfl rfl rfl) (?_)))))))))) (fun h=>by cases h)))))))))))))))))))))))))))))))))))))))))))))))))))))))))))
 have e:(AO c)=(450:Int):=by (unfold AO;((repeat ((refine (if_pos ?_).trans ?_;solve|(simp only [DV,FR,dbs];(repeat (omega))))));rfl))
 exact ⟨_,rfl,a5.keep,by rw [e];exact rfl⟩
end Go.Proofs.Ytjgfokolnkhafaa
