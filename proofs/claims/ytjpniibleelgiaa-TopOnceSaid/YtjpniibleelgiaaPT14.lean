/- What the laws of this part rest on: lemmas, and the walks of the functions. No conditions. -/
import Derived.WalkKit
import Derived.WalkSpells
import Derived.WalkLawsBesides
import Derived.RangeFuncLeaves
import Derived.Maps.AppendAt
import Derived.Deep.AppendLies
import Derived.Deep.Slices
import Derived.OpenShut
import Derived.ProofKit
import Derived.Below
import Derived.ChangeSame
import Derived.Carry
import Derived.RangeFuncRecord
import Derived.Laws.Tables
import Derived.Recover
import Derived.DefersIn
import Derived.Lib.AppendZerosOnto
import Derived.Lib.Overlaps
import Derived.Laws.CopyRow
import Derived.Laws.StructEq
import Derived.ChangeKeysEq
import Derived.OrdersIn
import Derived.Test.YtjpniibleelgiaaRows
import Derived.Test.YtjpniibleelgiaaPT13
set_option linter.unusedSimpArgs false
set_option linter.unusedVariables false
namespace Go.Fw
open Go.RowKit
structure KdOk (P:Program) (X:List Nat) (k:Nat) (o:Oper) (F:Fr) (w:World) (v:Value) (w':World):Prop where
  k1:k=1→w'=w
  k2:k=2→Keep [] w w'
  k3:k=3→Keep X w w'
  k4:k=4→w'=w∧∀ w2,Keep X w w2→(execOp (CK F) ⟨none,o.op,o.type,"",#[],none⟩).run P w2 = .ok (.value v) w2
def WX (P:Program) (ops:List Oper) (Q:Exit→Fr→World→Prop) (X:List Nat):List (Nat × Oper)→Fr→World→Prop
  | [],F,w=>Q .normal F w
  | (k,o) :: rest,F,w=>
    if Region.wanted o (BQ ops F)=true then
      CR P o.op o.type F w (fun v w'=>KdOk P X k o F w v w'∧WX P ops Q X rest (GD F o.dst v) w') (fun c w'=>k=0∧Q (.panic c) F w')
    else WX P ops Q X rest (GD F o.dst undef) w
section
variable {P:Program} {n:Nat} {Q:Exit→Fr→World→Prop} {ops:List Oper} {X:List Nat}
theorem wx_cong {a b:List (Nat × Oper)} (h:∀ F w,WX P ops Q X a F w→WX P ops Q X b F w) {j:Nat × Oper} {F:Fr} {w:World} (hj:WX P ops Q X (j :: a) F w):WX P ops Q X (j :: b) F w:=by
  obtain ⟨k,o⟩:=j
  unfold WX at hj ⊢
  by_cases c:Region.wanted o (BQ ops F)=true
  · rw [if_pos c] at hj ⊢
    exact EC hj (fun v w' hk=>⟨hk.1,h _ _ hk.2⟩) (fun c w' hz=>hz)
  · rw [if_neg c] at hj ⊢
    exact h _ _ hj
def KC (op:Op):Bool:=match op with | .select ..=>false | _=>true
theorem KZ {o:Oper} {F F':Fr} (hl:∀ t∈IJ ops o,F' t=F t):Region.wanted o (BQ ops F')=Region.wanted o (BQ ops F):=by
  unfold Region.wanted
  cases hg:o.guard with
  | none=>rfl
  | some p=>
    obtain ⟨g,b⟩:=p
    simp only
    have:BQ ops F' g=BQ ops F g:=by
      unfold BQ
      cases hd:(ops[g]?).bind (·.dst) with
      | none=>rfl
      | some d=>simp only;rw [hl d (by unfold IJ;rw [hg];simp only [hd];simp)]
    rw [this]
theorem PS {o:Oper} {F F':Fr} (hs:KC o.op=true) (hl:∀ t∈IJ ops o,F' t=F t):execOp (CK F') ⟨none,o.op,o.type,"",#[],none⟩ = execOp (CK F) ⟨none,o.op,o.type,"",#[],none⟩:=by
  refine LQ _ (by revert hs;unfold KC;cases o.op <;> intro hs <;> first|rfl|cases hs) fun x hx=>?_
  cases x with
  | tmp t=>exact hl t (by unfold IJ;exact List.mem_append_left _ (List.mem_filterMap.2 ⟨.tmp t,hx,rfl⟩))
  | _=>rfl
theorem DP {o:Oper} {F F':Fr} {w:World} {K:Value→World→Prop} {Z:List PanicEntry→World→Prop} (hs:KC o.op=true) (hl:∀ t∈IJ ops o,F' t=F t) (h:CR P o.op o.type F w K Z):CR P o.op o.type F' w K Z:=by
  unfold CR at h ⊢
  rw [PS hs hl];exact h
def mvO (o:Oper):Bool:=o.guard.isNone && (match o.op with | .move _ | .assign _=>true | _=>false)
def frO (o:Oper):Bool:=match o.op with | .extract ..=>true | _=>false
theorem frO_run {o:Oper} (h:frO o=true) {F:Fr} {w:World} {K:Value→World→Prop} {Z:List PanicEntry→World→Prop} (ho:CR P o.op o.type F w K Z):∃ v,∀ w',(execOp (CK F) ⟨none,o.op,o.type,"",#[],none⟩).run P w' = .ok (.value v) w':=by
  obtain ⟨d,op,ty,pos,af,g⟩:=o
  unfold frO at h
  cases op with
  | extract x i=>
    unfold CR at ho
    simp only [execOp,Sem.run_bind] at ho ⊢
    unfold Instr.extract at ho ⊢
    cases hx:CK F x with
    | tuple vs=>
      rw [hx] at ho
      simp only at ho ⊢
      cases hv:vs[i]? with
      | some v=>exact ⟨v,fun w'=>by simp only [Sem.run_pure,Result.andThen_ok]⟩
      | none=>rw [hv] at ho;exact ho.elim
    | _=>rw [hx] at ho;exact ho.elim
  | _=>simp at h
def offL (ops:List Oper) (o:Oper) (d:Tmp):Bool:=(IJ ops o).all fun t=>!Nat.beq t d
def cmB2 (ops:List Oper) (a b:Nat × Oper):Bool:=
  (match a.2.dst,b.2.dst with|some da,some db=>!Nat.beq da db && offL ops b.2 da && offL ops a.2 db | _,_=>false) && KC a.2.op && KC b.2.op &&
  ((Nat.beq a.1 1 && vOpB a.2.op && (Nat.beq b.1 1 || Nat.beq b.1 4 || (Nat.beq b.1 2 && rdOp a.2.op))) || (Nat.beq a.1 4 && vOpB a.2.op && (Nat.beq b.1 1 || Nat.beq b.1 2 || Nat.beq b.1 3 || Nat.beq b.1 4)) || mvO a.2 || frO a.2 || (frO b.2 && !Nat.beq a.1 0 && mkV a.2.op) || mvO b.2)
theorem EB {o:Oper} {d:Tmp} {F:Fr} {v:Value} (h:offL ops o d=true):∀ t∈IJ ops o,DN F d v t=F t:=fun t ht=>FU _ _ _ (QB (List.all_eq_true.1 h t ht))
theorem offL_upd' {o:Oper} {d:Tmp} {F:Fr} {v:Value} (h:offL ops o d=true):∀ t∈IJ ops o,F t=DN F d v t:=fun t ht=>(EB h t ht).symm
theorem mvO_run {o:Oper} (h:mvO o=true) (F:Fr):∃ v,∀ w,(execOp (CK F) ⟨none,o.op,o.type,"",#[],none⟩).run P w = .ok (.value v) w:=by
  obtain ⟨d,op,ty,pos,af,g⟩:=o
  unfold mvO at h
  simp only [Bool.and_eq_true] at h
  cases op with
  | move x=>exact ⟨CK F x,fun w=>by simp only [execOp,Sem.run_pure]⟩
  | assign x=>exact ⟨CK F x,fun w=>by simp only [execOp,Sem.run_pure]⟩
  | _=>simp at h
theorem KdOk.agree {k:Nat} {o:Oper} {F F':Fr} {w w':World} {v:Value} (hs:KC o.op=true) (hl:∀ t∈IJ ops o,F' t=F t) (h:KdOk P X k o F w v w'):KdOk P X k o F' w v w':=
  ⟨h.k1,h.k2,h.k3,fun e=>⟨(h.k4 e).1,fun w2 k=>by rw [PS hs hl];exact (h.k4 e).2 w2 k⟩⟩
theorem KdOk.move {k:Nat} {o:Oper} {F:Fr} {w:World} {v:Value} (h:∀ w,(execOp (CK F) ⟨none,o.op,o.type,"",#[],none⟩).run P w = .ok (.value v) w):KdOk P X k o F w v w:=
  ⟨fun _=>rfl,fun _=>Keep.refl _ _,fun _=>Keep.refl _ _,fun _=>⟨rfl,fun w2 _=>h w2⟩⟩
theorem wx_swap2' {a b:Nat × Oper} {rest:List (Nat × Oper)} {F:Fr} {w:World} (hc:cmB2 ops a b=true) (hda:okD n a.2.dst=true) (hdb:okD n b.2.dst=true) (hq:∀ c F d v w,d<n→(Q (.panic c) (DN F d v) w↔Q (.panic c) F w)) (h:WX P ops Q X (a :: b :: rest) F w):WX P ops Q X (b :: a :: rest) F w:=by
  obtain ⟨k1,o1⟩:=a
  obtain ⟨k2,o2⟩:=b
  unfold cmB2 at hc
  simp only [Bool.and_eq_true,Bool.or_eq_true] at hc hda hdb
  obtain ⟨⟨⟨hc1,s1⟩,s2⟩,hc2⟩:=hc
  cases hd1:o1.dst with
  | none=>rw [hd1] at hc1;simp at hc1
  | some d1=>
  cases hd2:o2.dst with
  | none=>rw [hd1,hd2] at hc1;simp at hc1
  | some d2=>
  rw [hd1,hd2] at hc1
  simp only [Bool.and_eq_true] at hc1
  obtain ⟨⟨hne,hb⟩,ha⟩:=hc1
  have n1:=QB hne
  rw [hd1] at hda;rw [hd2] at hdb
  have e:∀ (F:Fr) (v x:Value),DN (DN F d2 x) d1 v=DN (DN F d1 v) d2 x:=fun F v x=>(upd_swap (F:=F) (v:=v) (u:=x) n1).symm
  have w1e:∀ v,Region.wanted o1 (BQ ops (DN F d2 v))=Region.wanted o1 (BQ ops F):=fun v=>KZ (EB ha)
  have w2e:∀ v,Region.wanted o2 (BQ ops (DN F d1 v))=Region.wanted o2 (BQ ops F):=fun v=>KZ (EB hb)
  unfold WX at h
  rw [hd1] at h
  unfold WX
  rw [hd2]
  by_cases c1:Region.wanted o1 (BQ ops F)=true
  · rw [if_pos c1] at h
    by_cases c2:Region.wanted o2 (BQ ops F)=true
    · rw [if_pos c2]
      have reads:vOpB o1.op=true→k1≠0→(∀ v1 w1,(execOp (CK F) ⟨none,o1.op,o1.type,"",#[],none⟩).run P w = .ok (.value v1) w1→KdOk P X k1 o1 F w v1 w1→w1=w∧∀ v2 w2,KdOk P X k2 o2 F w v2 w2→(execOp (CK F) ⟨none,o1.op,o1.type,"",#[],none⟩).run P w2 = .ok (.value v1) w2∧KdOk P X k1 o1 F w2 v1 w2)→
          CR P o2.op o2.type F w (fun v w'=>KdOk P X k2 o2 F w v w'∧WX P ops Q X ((k1,o1) :: rest) (GD F (some d2) v) w') (fun c w'=>k2=0∧Q (.panic c) F w'):=fun hv hk0 hfix=>by
        unfold CR at h
        cases hr:(execOp (CK F) ⟨none,o1.op,o1.type,"",#[],none⟩).run P w with
        | halt x w'=>rw [hr] at h;cases x <;> simp only [FK] at h <;> first|exact h.elim|exact absurd h.1 hk0
        | ok r w'=>
          obtain ⟨v1,rfl⟩  :=vOpB_val (o:=⟨none,o1.op,o1.type,"",#[],none⟩) hv hr
          rw [hr] at h
          have h':KdOk P X k1 o1 F w v1 w'∧WX P ops Q X ((k2,o2) :: rest) (DN F d1 v1) w':=h
          clear h
          obtain ⟨hkd,h⟩:=h'
          obtain ⟨rfl,hfix⟩:=hfix v1 w' hr hkd
          unfold WX at h
          rw [w2e,if_pos c2,hd2] at h
          have h:=DP (F':=F) s2 (offL_upd' hb) h
          refine EC h (fun v2 w2 hk2=>?_) (fun c w' hz=>⟨hz.1,(hq _ _ _ _ _ (blt hda)).1 hz.2⟩)
          have hkd2:=KdOk.agree (F':=F) s2 (offL_upd' hb) hk2.1
          obtain ⟨hrun,hkd1⟩:=hfix v2 w2 hkd2
          refine ⟨hkd2,?_⟩
          show WX P ops Q X ((k1,o1) :: rest) (DN F d2 v2) w2
          unfold WX
          rw [w1e,if_pos c1,hd1]
          refine DP s1 (EB ha) ?_
          unfold CR
          rw [hrun]
          refine ⟨KdOk.agree s1 (EB ha) hkd1,?_⟩
          show WX P ops Q X rest (DN (DN F d2 v2) d1 v1) w2
          rw [e];exact hk2.2
      rcases hc2 with ((((hc2|hc2)|hc2)|hc2)|hc2)|hc2
      · -- the first reads
        obtain ⟨⟨hk,hv⟩,hc2⟩:=hc2
        have hk1:=Nat.eq_of_beq_eq_true hk
        subst hk1
        refine reads hv (by decide) fun v1 w1 hr hkd=>⟨hkd.k1 rfl,fun v2 w2 hk2=>?_⟩
        have e1:=hkd.k1 rfl
        subst e1
        have hrun:(execOp (CK F) ⟨none,o1.op,o1.type,"",#[],none⟩).run P w2 = .ok (.value v1) w2:=by
          rcases hc2 with (hc2|hc2)|hc2
          · rw [hk2.k1 (Nat.eq_of_beq_eq_true hc2)];exact hr
          · rw [(hk2.k4 (Nat.eq_of_beq_eq_true hc2)).1];exact hr
          · exact (rdOp_sta hc2.2 _ _ _ hr).2 _ (hk2.k2 (Nat.eq_of_beq_eq_true hc2.1))
        exact ⟨hrun,⟨fun _=>rfl,fun e=>(by cases e),fun e=>(by cases e),fun e=>(by cases e)⟩⟩
      · -- the first reads what is not of X
        obtain ⟨⟨hk,hv⟩,hc2⟩:=hc2
        have hk1:=Nat.eq_of_beq_eq_true hk
        subst hk1
        refine reads hv (by decide) fun v1 w1 hr hkd=>⟨(hkd.k4 rfl).1,fun v2 w2 hk2=>?_⟩
        have hkeep:Keep X w w2:=by
          rcases hc2 with ((hc2|hc2)|hc2)|hc2
          · rw [hk2.k1 (Nat.eq_of_beq_eq_true hc2)];exact Keep.refl _ _
          · exact (hk2.k2 (Nat.eq_of_beq_eq_true hc2)).nil
          · exact hk2.k3 (Nat.eq_of_beq_eq_true hc2)
          · rw [(hk2.k4 (Nat.eq_of_beq_eq_true hc2)).1];exact Keep.refl _ _
        exact ⟨(hkd.k4 rfl).2 w2 hkeep,⟨fun e=>(by cases e),fun e=>(by cases e),fun e=>(by cases e),fun _=>⟨rfl,fun w3 k3=>(hkd.k4 rfl).2 w3 (hkeep.trans k3)⟩⟩⟩
      · -- the first moves
        obtain ⟨v1,hr⟩:=mvO_run (P:=P) hc2 F
        unfold CR at h
        rw [hr] at h
        have h:KdOk P X k1 o1 F w v1 w∧WX P ops Q X ((k2,o2) :: rest) (DN F d1 v1) w:=h
        have h:=h.2
        unfold WX at h
        rw [w2e,if_pos c2,hd2] at h
        have h:=DP (F':=F) s2 (offL_upd' hb) h
        refine EC h (fun v2 w2 hk2=>⟨KdOk.agree (F':=F) s2 (offL_upd' hb) hk2.1,?_⟩) (fun c w' hz=>⟨hz.1,(hq _ _ _ _ _ (blt hda)).1 hz.2⟩)
        show WX P ops Q X ((k1,o1) :: rest) (DN F d2 v2) w2
        unfold WX
        rw [w1e,if_pos c1,hd1]
        refine DP s1 (EB ha) ?_
        unfold CR
        rw [hr]
        refine ⟨KdOk.agree s1 (EB ha) (KdOk.move hr),?_⟩
        show WX P ops Q X rest (DN (DN F d2 v2) d1 v1) w2
        rw [e];exact hk2.2
      · -- the first takes a tuple apart
        obtain ⟨v1,hr⟩:=frO_run (P:=P) hc2 h
        unfold CR at h
        rw [hr] at h
        have h:KdOk P X k1 o1 F w v1 w∧WX P ops Q X ((k2,o2) :: rest) (DN F d1 v1) w:=h
        have h:=h.2
        unfold WX at h
        rw [w2e,if_pos c2,hd2] at h
        have h:=DP (F':=F) s2 (offL_upd' hb) h
        refine EC h (fun v2 w2 hk2=>⟨KdOk.agree (F':=F) s2 (offL_upd' hb) hk2.1,?_⟩) (fun c w' hz=>⟨hz.1,(hq _ _ _ _ _ (blt hda)).1 hz.2⟩)
        show WX P ops Q X ((k1,o1) :: rest) (DN F d2 v2) w2
        unfold WX
        rw [w1e,if_pos c1,hd1]
        refine DP s1 (EB ha) ?_
        unfold CR
        rw [hr]
        refine ⟨KdOk.agree s1 (EB ha) (KdOk.move hr),?_⟩
        show WX P ops Q X rest (DN (DN F d2 v2) d1 v1) w2
        rw [e];exact hk2.2
      · -- the second takes a tuple apart
        obtain ⟨⟨hf,hk0⟩,hmk⟩:=hc2
        obtain ⟨v2,hr⟩:∃ v2,∀ w,(execOp (CK F) ⟨none,o2.op,o2.type,"",#[],none⟩).run P w = .ok (.value v2) w:=by
          have hk0:k1≠0:=QB (by simpa using hk0)
          have h:=h
          unfold CR at h
          cases hr:(execOp (CK F) ⟨none,o1.op,o1.type,"",#[],none⟩).run P w with
          | halt x w'=>rw [hr] at h;cases x <;> simp only [FK] at h <;> first|exact h.elim|exact absurd h.1 hk0
          | ok r w'=>
            obtain ⟨v1,rfl⟩:=mkV_val (o:=⟨none,o1.op,o1.type,"",#[],none⟩) hmk hr
            rw [hr] at h
            have h':KdOk P X k1 o1 F w v1 w'∧WX P ops Q X ((k2,o2) :: rest) (DN F d1 v1) w':=h
            have h':=h'.2
            unfold WX at h'
            rw [w2e,if_pos c2,hd2] at h'
            exact frO_run hf (DP (F':=F) s2 (offL_upd' hb) h')
        unfold CR
        rw [hr]
        refine ⟨KdOk.move hr,?_⟩
        show WX P ops Q X ((k1,o1) :: rest) (DN F d2 v2) w
        unfold WX
        rw [w1e,if_pos c1,hd1]
        refine DP s1 (EB ha) (EC h (fun v1 w1 hk1=>⟨KdOk.agree s1 (EB ha) hk1.1,?_⟩) (fun c w' hz=>⟨hz.1,(hq _ _ _ _ _ (blt hdb)).2 hz.2⟩))
        have h:=hk1.2
        have h:WX P ops Q X ((k2,o2) :: rest) (DN F d1 v1) w1:=h
        unfold WX at h
        rw [w2e,if_pos c2,hd2] at h
        have h:=DP (F':=F) s2 (offL_upd' hb) h
        unfold CR at h
        rw [hr] at h
        show WX P ops Q X rest (DN (DN F d2 v2) d1 v1) w1
        rw [e];exact h.2
      · -- the second moves
        obtain ⟨v2,hr⟩:=mvO_run (P:=P) hc2 F
        unfold CR
        rw [hr]
        refine ⟨KdOk.move hr,?_⟩
        show WX P ops Q X ((k1,o1) :: rest) (DN F d2 v2) w
        unfold WX
        rw [w1e,if_pos c1,hd1]
        refine DP s1 (EB ha) (EC h (fun v1 w1 hk1=>⟨KdOk.agree s1 (EB ha) hk1.1,?_⟩) (fun c w' hz=>⟨hz.1,(hq _ _ _ _ _ (blt hdb)).2 hz.2⟩))
        have h:=hk1.2
        have h:WX P ops Q X ((k2,o2) :: rest) (DN F d1 v1) w1:=h
        unfold WX at h
        rw [w2e,if_pos c2,hd2] at h
        have h:=DP (F':=F) s2 (offL_upd' hb) h
        unfold CR at h
        rw [hr] at h
        show WX P ops Q X rest (DN (DN F d2 v2) d1 v1) w1
        rw [e];exact h.2
    · rw [if_neg c2]
      show WX P ops Q X ((k1,o1) :: rest) (DN F d2 undef) w
      unfold WX
      rw [w1e,if_pos c1,hd1]
      refine DP s1 (EB ha) (EC h (fun v1 w1 hk1=>⟨KdOk.agree s1 (EB ha) hk1.1,?_⟩) (fun c w' hz=>⟨hz.1,(hq _ _ _ _ _ (blt hdb)).2 hz.2⟩))
      have h:WX P ops Q X ((k2,o2) :: rest) (DN F d1 v1) w1:=hk1.2
      unfold WX at h
      rw [w2e,if_neg c2,hd2] at h
      show WX P ops Q X rest (DN (DN F d2 undef) d1 v1) w1
      rw [e];exact h
  · rw [if_neg c1] at h
    have h:WX P ops Q X ((k2,o2) :: rest) (DN F d1 undef) w:=h
    unfold WX at h
    rw [w2e,hd2] at h
    by_cases c2:Region.wanted o2 (BQ ops F)=true
    · rw [if_pos c2] at h ⊢
      have h:=DP (F':=F) s2 (offL_upd' hb) h
      refine EC h (fun v2 w2 hk2=>⟨KdOk.agree (F':=F) s2 (offL_upd' hb) hk2.1,?_⟩) (fun c w' hz=>⟨hz.1,(hq _ _ _ _ _ (blt hda)).1 hz.2⟩)
      show WX P ops Q X ((k1,o1) :: rest) (DN F d2 v2) w2
      unfold WX
      rw [w1e,if_neg c1,hd1]
      show WX P ops Q X rest (DN (DN F d2 v2) d1 undef) w2
      rw [e];exact hk2.2
    · rw [if_neg c2] at h ⊢
      show WX P ops Q X ((k1,o1) :: rest) (DN F d2 undef) w
      unfold WX
      rw [w1e,if_neg c1,hd1]
      show WX P ops Q X rest (DN (DN F d2 undef) d1 undef) w
      rw [e];exact h
def cmN (ops:List Oper) (a b:Nat × Oper):Bool:=(match a.2.dst,b.2.dst with|some da,none=>offL ops b.2 da | _,_=>false) && KC a.2.op && KC b.2.op && (mvO a.2 || frO a.2)
def cmB (ops:List Oper) (a b:Nat × Oper):Bool:=cmB2 ops a b || cmN ops a b
theorem wx_swapN {a b:Nat × Oper} {rest:List (Nat × Oper)} {F:Fr} {w:World} (hc:cmN ops a b=true) (hda:okD n a.2.dst=true) (hq:∀ c F d v w,d<n→(Q (.panic c) (DN F d v) w↔Q (.panic c) F w)) (h:WX P ops Q X (a :: b :: rest) F w):WX P ops Q X (b :: a :: rest) F w:=by
  obtain ⟨k1,o1⟩:=a
  obtain ⟨k2,o2⟩:=b
  unfold cmN at hc
  simp only [Bool.and_eq_true,Bool.or_eq_true] at hc hda
  obtain ⟨⟨⟨hc1,s1⟩,s2⟩,hc2⟩:=hc
  cases hd1:o1.dst with
  | none=>rw [hd1] at hc1;simp at hc1
  | some d1=>
  cases hd2:o2.dst with
  | some d2=>rw [hd1,hd2] at hc1;simp at hc1
  | none=>
  rw [hd1,hd2] at hc1
  have hb:offL ops o2 d1=true:=hc1
  rw [hd1] at hda
  have w2e:∀ v,Region.wanted o2 (BQ ops (DN F d1 v))=Region.wanted o2 (BQ ops F):=fun v=>KZ (EB hb)
  unfold WX at h
  rw [hd1] at h
  unfold WX
  rw [hd2]
  by_cases c1:Region.wanted o1 (BQ ops F)=true
  · rw [if_pos c1] at h
    obtain ⟨v1,hr⟩:∃ v1,∀ w,(execOp (CK F) ⟨none,o1.op,o1.type,"",#[],none⟩).run P w = .ok (.value v1) w:=hc2.elim (fun hc2=>mvO_run hc2 F) (fun hc2=>frO_run hc2 h)
    unfold CR at h
    rw [hr] at h
    have h:KdOk P X k1 o1 F w v1 w∧WX P ops Q X ((k2,o2) :: rest) (DN F d1 v1) w:=h
    have h:=h.2
    unfold WX at h
    rw [w2e,hd2] at h
    by_cases c2:Region.wanted o2 (BQ ops F)=true
    · rw [if_pos c2] at h ⊢
      have h:=DP (F':=F) s2 (offL_upd' hb) h
      refine EC h (fun v2 w2 hk2=>⟨KdOk.agree (F':=F) s2 (offL_upd' hb) hk2.1,?_⟩) (fun c w' hz=>⟨hz.1,(hq _ _ _ _ _ (blt hda)).1 hz.2⟩)
      show WX P ops Q X ((k1,o1) :: rest) F w2
      unfold WX
      rw [if_pos c1,hd1]
      unfold CR
      rw [hr]
      exact ⟨KdOk.move hr,hk2.2⟩
    · rw [if_neg c2] at h ⊢
      show WX P ops Q X ((k1,o1) :: rest) F w
      unfold WX
      rw [if_pos c1,hd1]
      unfold CR
      rw [hr]
      exact ⟨KdOk.move hr,h⟩
  · rw [if_neg c1] at h
    have h:WX P ops Q X ((k2,o2) :: rest) (DN F d1 undef) w:=h
    unfold WX at h
    rw [w2e,hd2] at h
    by_cases c2:Region.wanted o2 (BQ ops F)=true
    · rw [if_pos c2] at h ⊢
      have h:=DP (F':=F) s2 (offL_upd' hb) h
      refine EC h (fun v2 w2 hk2=>⟨KdOk.agree (F':=F) s2 (offL_upd' hb) hk2.1,?_⟩) (fun c w' hz=>⟨hz.1,(hq _ _ _ _ _ (blt hda)).1 hz.2⟩)
      show WX P ops Q X ((k1,o1) :: rest) F w2
      unfold WX
      rw [if_neg c1,hd1]
      exact hk2.2
    · rw [if_neg c2] at h ⊢
      show WX P ops Q X ((k1,o1) :: rest) F w
      unfold WX
      rw [if_neg c1,hd1]
      exact h
theorem wx_swap {a b:Nat × Oper} {rest:List (Nat × Oper)} {F:Fr} {w:World} (hc:cmB ops a b=true) (hda:okD n a.2.dst=true) (hdb:okD n b.2.dst=true) (hq:∀ c F d v w,d<n→(Q (.panic c) (DN F d v) w↔Q (.panic c) F w)) (h:WX P ops Q X (a :: b :: rest) F w):WX P ops Q X (b :: a :: rest) F w:=by
  unfold cmB at hc
  rw [Bool.or_eq_true] at hc
  rcases hc with hc|hc
  · exact wx_swap2' hc hda hdb hq h
  · exact wx_swapN hc hda hq h
theorem wx_front {i:Nat × Oper} {r:List (Nat × Oper)} (hi:okD n i.2.dst=true) (hq:∀ c F d v w,d<n→(Q (.panic c) (DN F d v) w↔Q (.panic c) F w)):∀ (l:List (Nat × Oper)),(∀ j∈l,cmB ops j i=true∧okD n j.2.dst=true)→∀ F w,WX P ops Q X (l++i :: r) F w→WX P ops Q X (i :: (l++r)) F w
  | [],_,F,w,h=>h
  | j :: l,hl,F,w,h=>wx_swap (hl j List.mem_cons_self).1 (hl j List.mem_cons_self).2 hi hq (wx_cong (fun F w h=>wx_front hi hq l (fun x hx=>hl x (List.mem_cons_of_mem _ hx)) F w h) h)
end
open Go.RowKit
section
variable {P:Program} {n:Nat} {Q:Exit→Fr→World→Prop} {ops:List Oper} {X:List Nat} {rest:List (Nat × Oper)} {F:Fr} {w w':World} {d:Tmp} {op:Op} {ty:TypeId} {pos:String} {af:Array Edge} {j k:Nat} {b:Bool} {g:Option (Nat × Bool)}
def WR (P:Program) (ops:List Oper) (Q:Exit→Fr→World→Prop) (X:List Nat) (w0:World) (l:List (Nat × Oper)) (F:Fr) (w:World):Prop:=w=w0∧WX P ops Q X l F w
theorem CD (h:WX P ops Q X rest F w):WR P ops Q X w rest F w:=⟨rfl,h⟩
theorem EW (h:Q .normal F w):WX P ops Q X [] F w:=h
theorem wx_0 {o:Oper} (hw:Region.wanted o (BQ ops F)=true) (h:CR P o.op o.type F w (fun v w'=>WX P ops Q X rest (GD F o.dst v) w') (fun c w'=>Q (.panic c) F w')):WX P ops Q X ((0,o) :: rest) F w:=by
  unfold WX
  rw [if_pos hw]
  exact EC h (fun v w' hk=>⟨⟨fun e=>(by cases e),fun e=>(by cases e),fun e=>(by cases e),fun e=>(by cases e)⟩,hk⟩) (fun c w' hz=>⟨rfl,hz⟩)
theorem wx_1 {o:Oper} (hw:Region.wanted o (BQ ops F)=true) (h:CR P o.op o.type F w (fun v w'=>WR P ops Q X w rest (GD F o.dst v) w') (fun _ _=>False)):WX P ops Q X ((1,o) :: rest) F w:=by
  unfold WX
  rw [if_pos hw]
  exact EC h (fun v w' hk=>⟨⟨fun _=>hk.1,fun e=>(by cases e),fun e=>(by cases e),fun e=>(by cases e)⟩,hk.2⟩) (fun c w' hz=>hz.elim)
theorem wx_2 {o:Oper} (hw:Region.wanted o (BQ ops F)=true) (h:CR P o.op o.type F w (fun v w'=>Keep [] w w'∧WX P ops Q X rest (GD F o.dst v) w') (fun _ _=>False)):WX P ops Q X ((2,o) :: rest) F w:=by
  unfold WX
  rw [if_pos hw]
  exact EC h (fun v w' hk=>⟨⟨fun e=>(by cases e),fun _=>hk.1,fun e=>(by cases e),fun e=>(by cases e)⟩,hk.2⟩) (fun c w' hz=>hz.elim)
theorem wx_3 {o:Oper} (hw:Region.wanted o (BQ ops F)=true) (h:CR P o.op o.type F w (fun v w'=>Keep X w w'∧WX P ops Q X rest (GD F o.dst v) w') (fun _ _=>False)):WX P ops Q X ((3,o) :: rest) F w:=by
  unfold WX
  rw [if_pos hw]
  exact EC h (fun v w' hk=>⟨⟨fun e=>(by cases e),fun e=>(by cases e),fun _=>hk.1,fun e=>(by cases e)⟩,hk.2⟩) (fun c w' hz=>hz.elim)
theorem run_of4 {v:Value} (hv:vOp op=true) (h:CR P op ty F w (fun v' w'=>v'=v∧w'=w) (fun _ _=>False)):(execOp (CK F) ⟨none,op,ty,"",#[],none⟩).run P w = .ok (.value v) w:=by
  unfold CR at h
  cases hr:(execOp (CK F) ⟨none,op,ty,"",#[],none⟩).run P w with
  | halt x w'=>rw [hr] at h;cases x <;> exact h.elim
  | ok r w'=>
    obtain ⟨v1,rfl⟩:=OK (o:=⟨none,op,ty,"",#[],none⟩) hv hr
    rw [hr] at h
    have h:v1=v∧w'=w:=h
    rw [h.1,h.2]
theorem wx_4 {o:Oper} {v:Value} (hw:Region.wanted o (BQ ops F)=true) (hv:vOp o.op=true) (hs:∀ w2,Keep X w w2→CR P o.op o.type F w2 (fun v' w'=>v'=v∧w'=w2) (fun _ _=>False)) (h:WX P ops Q X rest (GD F o.dst v) w):WX P ops Q X ((4,o) :: rest) F w:=by
  unfold WX
  rw [if_pos hw]
  unfold CR
  rw [run_of4 hv (hs w (Keep.refl _ _))]
  exact ⟨⟨fun e=>(by cases e),fun e=>(by cases e),fun e=>(by cases e),fun _=>⟨rfl,fun w2 k2=>run_of4 hv (hs w2 k2)⟩⟩,h⟩
theorem OT {d:Option Tmp} {y:Nat→Option Bool}:Region.wanted ⟨d,op,ty,pos,af,none⟩ y=true:=rfl
theorem AO (h:CR P op ty F w (fun v w'=>WR P ops Q X w rest (DN F d v) w') (fun _ _=>False)):WX P ops Q X ((1,⟨some d,op,ty,pos,af,none⟩) :: rest) F w:=wx_1 OT h
theorem DU (h:CR P op ty F w (fun v w'=>Keep [] w w'∧WX P ops Q X rest (DN F d v) w') (fun _ _=>False)):WX P ops Q X ((2,⟨some d,op,ty,pos,af,none⟩) :: rest) F w:=wx_2 OT h
theorem KX (h:CR P op ty F w (fun v w'=>Keep X w w'∧WX P ops Q X rest (DN F d v) w') (fun _ _=>False)):WX P ops Q X ((3,⟨some d,op,ty,pos,af,none⟩) :: rest) F w:=wx_3 OT h
theorem DA {v:Value} (hv:vOp op=true) (hs:∀ w2,Keep X w w2→CR P op ty F w2 (fun v' w'=>v'=v∧w'=w2) (fun _ _=>False)) (h:WX P ops Q X rest (DN F d v) w):WX P ops Q X ((4,⟨some d,op,ty,pos,af,none⟩) :: rest) F w:=wx_4 OT hv hs h
theorem FO (h:CR P op ty F w (fun v w'=>WX P ops Q X rest F w') (fun c w'=>Q (.panic c) F w')):WX P ops Q X ((0,⟨none,op,ty,pos,af,none⟩) :: rest) F w:=wx_0 OT h
def OC (ops:List Oper) (seq:List (Nat × Nat)):List (Nat × Oper):=seq.filterMap fun p=>(ops[p.1]?).map fun o=>(p.2,o)
theorem NV {a b:List (Nat × Nat)}:OC ops (a++b)=OC ops a++OC ops b:=List.filterMap_append
theorem seqK_cons {i:Nat × Nat} {t:List (Nat × Nat)} (hil:i.1<ops.length):OC ops (i :: t)=(i.2,ops[i.1]) :: OC ops t:=by
  unfold OC;rw [List.filterMap_cons,List.getElem?_eq_getElem hil];rfl
def plR (op:Op):Bool:=
  vOp op || (match op with
  | .alloc _ | .buildSlice .. | .build .. | .store ..=>true
  | .call c=>(match c.callee with | .builtin .append=>true | _=>false)
  | _=>false)
theorem plR_val {o:Oper} (h:plR o.op=true) {ρ:Operand→Value} {w w':World} {r:Next} (e:(execOp ρ o).run P w = .ok r w'):(∃ v,r = .value v)∨r = .skip:=by
  unfold plR at h
  rw [Bool.or_eq_true] at h
  rcases h with h|h
  · exact .inl (OK h e)
  · have key:∀ (s:Sem Value),(do pure (Next.value (← s)):Sem Next).run P w = .ok r w'→∃ v,r = .value v:=fun s e=>by
      simp only [Sem.run_bind] at e
      cases hs:s.run P w with
      | ok x w2=>rw [hs] at e;simp only [Result.andThen_ok,Sem.run_pure] at e;cases e;exact ⟨_,rfl⟩
      | halt x w2=>rw [hs] at e;cases e
    have keyU:∀ (s:Sem Unit),(do s;pure Next.skip:Sem Next).run P w = .ok r w'→r = .skip:=fun s e=>by
      simp only [Sem.run_bind] at e
      cases hs:s.run P w with
      | ok x w2=>rw [hs] at e;simp only [Result.andThen_ok,Sem.run_pure] at e;cases e;rfl
      | halt x w2=>rw [hs] at e;cases e
    obtain ⟨d,op,ty,pos,af,g⟩:=o
    cases op with
    | store t a x=>exact .inr (keyU _ e)
    | alloc t=>exact .inl (key _ e)
    | buildSlice t l ps=>exact .inl (key _ e)
    | build t ps=>exact .inl (key _ e)
    | call c=>
      simp only at h
      split at h
      · rename_i hc
        simp only [execOp,resolve,invoke,hc,Sem.run_bind,Sem.run_pure,Result.andThen_ok,builtin] at e
        exact .inl (key (Builtin.append_ c.argTypes ty (Array.map ρ c.args)) (by simp only [Sem.run_bind,Sem.run_pure];exact e))
      · cases h
    | _=>simp at h
theorem opw_all {ι:Type} {A:List ι} (hne:A≠[]) {K:ι→Value→World→Prop} {Z:List PanicEntry→World→Prop} (hpl:A.length≤1∨plR op=true) (h:∀ a∈A,CR P op ty F w (K a) Z):CR P op ty F w (fun v w'=>∀ a∈A,K a v w') Z:=by
  match A,hne with
  | [a],_=>exact EC (h a (by simp)) (fun v w' hk x hx=>by rw [List.mem_singleton.1 hx];exact hk) (fun c w' hz=>hz)
  | a :: b :: t,_=>
    have hp:plR op=true:=hpl.resolve_left (by simp)
    unfold CR at h ⊢
    cases hr:(execOp (CK F) ⟨none,op,ty,"",#[],none⟩).run P w with
    | halt x w'=>
      have:=h a (by simp)
      rw [hr] at this
      cases x <;> exact this
    | ok r w'=>
      rcases plR_val (o:=⟨none,op,ty,"",#[],none⟩) hp hr with ⟨v,rfl⟩|rfl
      · exact fun x hx=>by have:=h x hx;rw [hr] at this;exact this
      · exact fun x hx=>by have:=h x hx;rw [hr] at this;exact this
def pairK (ops:List Oper) (K:List Nat) (a b:Nat × Nat):Bool:=(HM ops b.1).contains a.1 || (match ops[a.1]?,ops[b.1]? with|some oa,some ob=>cmB ops (a.2,oa) (b.2,ob) | _,_=>false) || (K.contains a.1 && K.contains b.1) || DL ops b.1 a.1
def PN (ops:List Oper) (K:List Nat):List (Nat × Nat)→Bool
  | []=>true
  | a :: t=>(HM ops a.1).all (fun j=>!Nat.beq j a.1 && t.all (fun b=>!Nat.beq b.1 j)) && t.all (fun b=>!Nat.beq a.1 b.1 && pairK ops K a b) && PN ops K t
structure OrdK (ops:List Oper) (K:List Nat) (a b:Nat × Nat):Prop where
  ne:a.1≠b.1
  pair:pairK ops K a b=true
  top:b.1∉HM ops a.1
theorem ND {K:List Nat}:∀ {seq:List (Nat × Nat)},PN ops K seq=true→seq.Pairwise (OrdK ops K)∧∀ a∈seq,a.1∉HM ops a.1
  | [],_=>⟨List.Pairwise.nil,by simp⟩
  | a :: t,h=>by
    unfold PN at h
    simp only [Bool.and_eq_true] at h
    obtain ⟨⟨h1,h2⟩,h3⟩:=h
    obtain ⟨i1,i2⟩:=ND h3
    refine ⟨List.pairwise_cons.2 ⟨fun b hb=>?_,i1⟩,fun x hx=>?_⟩
    · have h4:=List.all_eq_true.1 h2 b hb
      simp only [Bool.and_eq_true] at h4
      refine ⟨QB h4.1,h4.2,fun hm=>?_⟩
      have h5:=List.all_eq_true.1 h1 _ hm
      simp only [Bool.and_eq_true] at h5
      exact QB (List.all_eq_true.1 h5.2 b hb) rfl
    · rcases List.mem_cons.1 hx with rfl|hx
      · intro hm
        have h5:=List.all_eq_true.1 h1 _ hm
        simp only [Bool.and_eq_true] at h5
        exact QB h5.1 rfl
      · exact i2 x hx
def plAt (ops:List Oper) (i:Nat):Bool:=match ops[i]? with|some o=>plR o.op|none=>false
def kf (K:List Nat) (seq:List (Nat × Nat)):List Nat:=(seq.map (·.1)).filter K.contains
theorem LJ {K:List Nat} {a b:List (Nat × Nat)}:kf K (a++b)=kf K a++kf K b:=by unfold kf;rw [List.map_append,List.filter_append]
theorem kf_in {K:List Nat} {a:Nat × Nat} {b:List (Nat × Nat)} (h:K.contains a.1=true):kf K (a :: b)=a.1 :: kf K b:=by unfold kf;rw [List.map_cons,List.filter_cons,if_pos h]
theorem kf_out {K:List Nat} {a:Nat × Nat} {b:List (Nat × Nat)} (h:K.contains a.1=false):kf K (a :: b)=kf K b:=by unfold kf;rw [List.map_cons,List.filter_cons,if_neg (by rw [h];simp)]
def tchk (ops:List Oper):Nat→List (List Nat)→Bool
  | 0,ks=>ks.all (·.isEmpty)
  | f+1,ks=>match ks with
    | []=>true
    | k0 :: _=>k0.all fun i=>(k0.any fun j=>DL ops i j) || (!(ks.filter fun l=>l.head? == some i).isEmpty && (Nat.ble (ks.filter fun l=>l.head? == some i).length 1 || plAt ops i) && tchk ops f ((ks.filter fun l=>l.head? == some i).map List.tail))
def er (i:Nat) (seq:List (Nat × Nat)):List (Nat × Nat):=seq.filter fun p=>!Nat.beq p.1 i
theorem er_split {K:List Nat} {i ki:Nat} {seq:List (Nat × Nat)} (hp:seq.Pairwise (OrdK ops K)) (hm:(i,ki)∈seq):∃ l r,seq=l++(i,ki) :: r∧er i seq=l++r:=by
  obtain ⟨l,r,rfl⟩:=List.append_of_mem hm
  refine ⟨l,r,rfl,?_⟩
  obtain ⟨_,h2,h3⟩:=List.pairwise_append.1 hp
  have h4:=List.pairwise_cons.1 h2
  unfold er
  have nb:∀ a b:Nat,a≠b→(!Nat.beq a b)=true:=fun a b h=>by
    cases hb:Nat.beq a b with
    | false=>rfl
    | true=>exact absurd (Nat.eq_of_beq_eq_true hb) h
  rw [List.filter_append,List.filter_cons,if_neg (by simp),List.filter_eq_self.2 fun x hx=>nb _ _ (h3 x hx _ List.mem_cons_self).ne,List.filter_eq_self.2 fun x hx=>nb _ _ (h4.1 x hx).ne.symm]
structure Alive (P:Program) (ops:List Oper) (Q:Exit→Fr→World→Prop) (X:List Nat) (K:List Nat) (A:List (List (Nat × Nat))) (listed:Array Bool) (F:Fr) (w:World):Prop where
  ne:A≠[]
  mem:∀ seq∈A,∀ j,j<ops.length→(listed[j]? = some true↔∀ k,(j,k)∉seq)
  lt:∀ seq∈A,∀ p∈seq,p.1<ops.length
  ord:∀ seq∈A,seq.Pairwise (OrdK ops K)
  self:∀ seq∈A,∀ a∈seq,a.1∉HM ops a.1
  down:∀ i,listed[i]? = some true→∀ j∈HM ops i,listed[j]? = some true
  tree:∃ f,tchk ops f (A.map (kf K))=true
  one:A.length≤1∨∀ i,i<ops.length→K.contains i=true∨plAt ops i=true
  wx:∀ seq∈A,WX P ops Q X (OC ops seq) F w
theorem comm_runM {K:List Nat} (hok:ops.all (NJ n ops)=true) (hq:∀ c F d v w,d<n→(Q (.panic c) (DN F d v) w↔Q (.panic c) F w)) (hin:∀ k,k<ops.length→∀ j∈HM ops k,j<ops.length) :
    ∀ (fuel:Nat) (A:List (List (Nat × Nat))) (listed:Array Bool) (F1:Fr) (w1:World),listed.size=ops.length→KS ops listed≤fuel→Alive P ops Q X K A listed F1 w1→wpAny P .any ops.toArray (IS n Q) fuel listed (mk n F1) w1:=by
  intro fuel
  have fin:∀ (fuel:Nat) (listed:Array Bool) (F1:Fr) (w1:World),listed.size=ops.length→KS ops listed≤fuel→(∀ j,j<ops.length→(listed[j]? = some true↔∀ k,(j,k)∉([]:List (Nat × Nat))))→(∀ i,listed[i]? = some true→∀ j∈HM ops i,listed[j]? = some true)→WX P ops Q X (OC ops []) F1 w1→wpAny P .any ops.toArray (IS n Q) fuel listed (mk n F1) w1:=fun fuel listed F1 w1 hsz hfu hl hdown h=>
    GJ hok hin [] fuel listed F1 w1 hsz hfu (fun j hj=>⟨fun _=>by simp,fun _=>(hl j hj).2 (by simp)⟩) (by simp) (by simp) rfl hdown h
  have first:∀ (A:List (List (Nat × Nat))),A≠[]→∃ seq,seq∈A:=fun A h=>by
    cases A with
    | nil=>exact absurd rfl h
    | cons a t=>exact ⟨a,by simp⟩
  induction fuel with
  | zero=>
    intro A listed F1 w1 hsz hfu hA
    obtain ⟨seq,hs⟩:=first A hA.ne
    cases seq with
    | nil=>exact fin 0 listed F1 w1 hsz hfu (hA.mem _ hs) hA.down (hA.wx _ hs)
    | cons a t=>
      exfalso
      have h0:KS ops listed=0:=by omega
      unfold KS at h0
      have ha:=hA.lt _ hs a (by simp)
      have:=List.countP_eq_zero.1 h0 a.1 (by simp;omega)
      exact (hA.mem _ hs a.1 ha).1 (by simpa using this) a.2 (by simp)
  | succ fuel ih=>
    intro A listed F1 w1 hsz hfu hA
    obtain ⟨seq0,hs0⟩:=first A hA.ne
    cases hseq0:seq0 with
    | nil=>subst hseq0;exact fin (fuel+1) listed F1 w1 hsz hfu (hA.mem _ hs0) hA.down (hA.wx _ hs0)
    | cons a t=>
      have hset:∀ i,i<ops.length→∀ j,(listed.setIfInBounds i true)[j]? = some true↔j=i∨listed[j]? = some true:=fun i hi j=>by
        rw [Array.getElem?_setIfInBounds]
        by_cases hji:i=j
        · subst hji;simp;omega
        · rw [if_neg hji];exact ⟨fun h=>.inr h,fun h=>h.resolve_left (fun e=>hji e.symm)⟩
      refine ⟨fun h0=>?_,fun i hi=>?_⟩
      · have hs0':=hs0
        rw [hseq0] at hs0'
        have ha:=hA.lt _ hs0' a (by simp)
        have hnl:listed[a.1]? = some false:=by
          have h1:¬ listed[a.1]? = some true:=fun e=>((hA.mem _ hs0' a.1 ha).1 e) a.2 (by simp)
          have:a.1<listed.size:=by omega
          rw [Array.getElem?_eq_getElem this] at h1 ⊢
          simpa using h1
        have:=ready_of' hsz ha hnl (fun j hj=>by
          refine (hA.mem _ hs0' j (hin a.1 ha j hj)).2 fun k hm=>?_
          rcases List.mem_cons.1 hm with e|hm
          · exact hA.self _ hs0' a (by simp) (by rw [← e];exact (by rw [← e] at hj;exact hj))
          · exact (List.rel_of_pairwise_cons (hA.ord _ hs0') hm).top hj)
        rw [h0] at this;cases this
      · obtain ⟨hnl,hil⟩:=IP hi hsz
        have hmem:∀ seq∈A,∃ k,(i,k)∈seq:=fun seq hs=>Classical.byContradiction fun hc=>by have:=(hA.mem seq hs i hil).2 (fun k hk=>hc ⟨k,hk⟩);rw [hnl] at this;cases this
        have hready:=GL (List.getElem?_eq_getElem hil) hi hsz (hin i hil)
        have hwait:∀ q,DL ops i q=true→listed[q]? = some true:=fun q hq=>by
          unfold DL at hq
          exact GR (D:=fun j=>listed[j]? = some true) hA.down _ _ hready q (by simpa using hq)
        -- the orders in which it can come next
        have key:∃ B:List (List (Nat × Nat)),(B.length≤1∨plAt ops i=true)∧B≠[]∧(∀ seq∈B,seq∈A∧(K.contains i=true→(kf K seq).head? = some i))∧(B.length≤A.length)∧∃ f,tchk ops f (B.map fun seq=>kf K (er i seq))=true:=by
          have hkf:∀ seq∈A,(K.contains i=false→kf K (er i seq)=kf K seq)∧(K.contains i=true→i∈kf K seq∧((kf K seq).head? = some i→kf K (er i seq)=(kf K seq).tail)):=fun seq hs=>by
            obtain ⟨k,hk⟩:=hmem seq hs
            obtain ⟨l,r,e1,e2⟩:=er_split (hA.ord seq hs) hk
            refine ⟨fun hc=>?_,fun hc=>⟨?_,fun hh=>?_⟩⟩
            · rw [e2,e1,LJ,LJ,kf_out hc]
            · rw [e1,LJ,kf_in hc];simp
            · rw [e2,e1,LJ,LJ,kf_in hc]
              rw [e1,LJ,kf_in hc] at hh
              cases hl:kf K l with
              | nil=>rfl
              | cons x y=>
                exfalso
                rw [hl] at hh
                have hx:x=i:=by simpa using hh
                subst hx
                have:x∈kf K l:=by rw [hl];simp
                unfold kf at this
                obtain ⟨p,hp,hpx⟩:=List.mem_map.1 (List.mem_filter.1 this).1
                have ho:=hA.ord seq hs
                rw [e1] at ho
                exact ((List.pairwise_append.1 ho).2.2 p hp (x,k) List.mem_cons_self).ne hpx
          cases hKi:K.contains i with
          | false=>
            refine ⟨A,hA.one.imp (fun h=>h) (fun h=>(h i hil).resolve_left (by rw [hKi];simp)),hA.ne,fun seq hs=>⟨hs,fun e=>by cases e⟩,Nat.le_refl _,?_⟩
            obtain ⟨f,hf⟩:=hA.tree
            refine ⟨f,?_⟩
            rw [List.map_congr_left fun seq hs=>(hkf seq hs).1 hKi];exact hf
          | true=>
            obtain ⟨f,hf⟩:=hA.tree
            cases f with
            | zero=>
              exfalso
              unfold tchk at hf
              have:=List.all_eq_true.1 hf (kf K seq0) (List.mem_map.2 ⟨seq0,hs0,rfl⟩)
              have h2:=((hkf seq0 hs0).2 hKi).1
              rw [List.isEmpty_iff.1 this] at h2;cases h2
            | succ f=>
              cases hA2:A with
              | nil=>exact absurd hA2 hA.ne
              | cons q A2=>
                unfold tchk at hf
                rw [hA2,List.map_cons] at hf
                simp only at hf
                have hqA:q∈A:=by rw [hA2];simp
                have h1:=List.all_eq_true.1 hf i ((hkf q hqA).2 hKi).1
                rw [Bool.or_eq_true,List.any_eq_true] at h1
                rcases h1 with ⟨j,hj,hw⟩|h1
                · exfalso
                  unfold kf at hj
                  obtain ⟨p,hp,hpj⟩:=List.mem_map.1 (List.mem_filter.1 hj).1
                  subst hpj
                  exact (hA.mem q hqA p.1 (hA.lt q hqA p hp)).1 (hwait _ hw) p.2 hp
                · simp only [Bool.and_eq_true] at h1
                  obtain ⟨⟨h2,h2b⟩,h3⟩:=h1
                  rw [← List.map_cons,← hA2] at h2 h2b h3
                  refine ⟨A.filter fun seq=>(kf K seq).head? == some i,?_,fun e=>?_,fun seq hs=>?_,by rw [← hA2];exact List.length_filter_le _ _,f,?_⟩
                  · rw [List.filter_map,List.length_map,Bool.or_eq_true] at h2b
                    exact h2b.imp (fun h=>Nat.le_of_ble_eq_true h) (fun h=>h)
                  · rw [List.filter_map] at h2
                    have:A.filter ((fun l:List Nat=>l.head? == some i) ∘ kf K)=[]:=e
                    rw [this] at h2;simp at h2
                  · obtain ⟨a1,a2⟩:=List.mem_filter.1 hs
                    exact ⟨by rw [← hA2];exact a1,fun _=>by simpa using a2⟩
                  · rw [List.filter_map,List.map_map] at h3
                    rw [List.map_congr_left (g:=List.tail ∘ kf K) fun seq hs=>?_]
                    · exact h3
                    · obtain ⟨a1,a2⟩:=List.mem_filter.1 hs
                      exact ((hkf seq a1).2 hKi).2 (by simpa using a2)
        obtain ⟨B,hB1,hBne,hB,hBl,f,hf⟩:=key
        -- in each of them it comes to the front
        have front:∀ seq∈B,∃ k l r,seq=l++(i,k) :: r∧er i seq=l++r∧WX P ops Q X ((k,ops[i]) :: OC ops (l++r)) F1 w1:=fun seq hs=>by
          obtain ⟨hsA,hhead⟩:=hB seq hs
          obtain ⟨k,hk⟩:=hmem seq hsA
          obtain ⟨l,r,e1,e2⟩:=er_split (hA.ord seq hsA) hk
          refine ⟨k,l,r,e1,e2,?_⟩
          have h:=hA.wx seq hsA
          have hp:=hA.ord seq hsA
          rw [e1] at h hp hhead
          obtain ⟨hpl,hpir,hplr⟩:=List.pairwise_append.1 hp
          rw [NV,seqK_cons (i:=(i,k)) hil] at h
          have h:=wx_front (n:=n) (JJ (List.all_eq_true.1 hok _ (List.getElem_mem hil))) hq _ (fun j hj=>by
            unfold OC at hj
            obtain ⟨x,hx,hxj⟩:=List.mem_filterMap.1 hj
            have hxs:x∈seq:=by rw [e1];exact List.mem_append_left _ hx
            have hxl:=hA.lt seq hsA x hxs
            rw [List.getElem?_eq_getElem hxl] at hxj
            simp only [Option.map_some,Option.some.injEq] at hxj
            subst hxj
            refine ⟨?_,JJ (List.all_eq_true.1 hok _ (List.getElem_mem hxl))⟩
            have h2:=(hplr x hx (i,k) List.mem_cons_self).pair
            have hxn:¬ listed[x.1]? = some true:=fun e=>(hA.mem seq hsA x.1 hxl).1 e x.2 hxs
            unfold pairK at h2
            simp only [List.getElem?_eq_getElem hxl,List.getElem?_eq_getElem hil,Bool.or_eq_true] at h2
            rcases h2 with ((h2|h2)|h2)|h2
            · exact absurd (hready x.1 (by simpa using h2)) hxn
            · exact h2
            · exfalso
              rw [Bool.and_eq_true] at h2
              have hh:=hhead h2.2
              rw [LJ] at hh
              have hxk:x.1∈kf K l:=by unfold kf;exact List.mem_filter.2 ⟨List.mem_map.2 ⟨x,hx,rfl⟩,h2.1⟩
              cases hl:kf K l with
              | nil=>rw [hl] at hxk;cases hxk
              | cons y z=>
                rw [hl] at hh
                have hy:y=i:=by simpa using hh
                have:y∈kf K l:=by rw [hl];simp
                unfold kf at this
                obtain ⟨p,hp,hpx⟩:=List.mem_map.1 (List.mem_filter.1 this).1
                exact (hplr p hp (i,k) List.mem_cons_self).ne (hpx.trans hy)
            · exact absurd (hwait x.1 h2) hxn) _ _ h
          rw [← NV] at h
          exact h
        refine JN (K:=fun F w=>∀ seq∈B,WX P ops Q X (OC ops (er i seq)) F w) hok (List.getElem?_eq_getElem hil) (fun F w hK=>ih (B.map (er i)) _ F w (by simpa using hsz) (by have:=HV hil hsz hnl;omega) ?_) (fun hw=>?_) (fun hw=>?_)
        · refine ⟨by simpa using hBne,fun s hs j hj=>?_,fun s hs p hp=>?_,fun s hs=>?_,fun s hs p hp=>?_,fun j hj x hx=>?_,⟨f,by rw [List.map_map];exact hf⟩,?_,fun s hs=>?_⟩
          · obtain ⟨seq,hsB,rfl⟩:=List.mem_map.1 hs
            obtain ⟨hsA,_⟩:=hB seq hsB
            obtain ⟨k,l,r,e1,e2,_⟩:=front seq hsB
            have hp:=hA.ord seq hsA
            rw [hset i hil j,hA.mem seq hsA j hj,e2]
            rw [e1] at hp ⊢
            obtain ⟨hpl,hpir,hplr⟩:=List.pairwise_append.1 hp
            have hir:=List.pairwise_cons.1 hpir
            constructor
            · rintro (rfl|h1)
              · exact fun q hc=>(List.mem_append.1 hc).elim (fun h=>(hplr _ h (j,k) List.mem_cons_self).ne rfl) (fun h=>(hir.1 _ h).ne rfl)
              · exact fun q hc=>h1 q ((List.mem_append.1 hc).elim (fun h=>List.mem_append_left _ h) fun h=>List.mem_append_right _ (List.mem_cons_of_mem _ h))
            · intro h1
              by_cases hji:j=i
              · exact .inl hji
              · exact .inr fun q hc=>h1 q ((List.mem_append.1 hc).elim (fun h=>List.mem_append_left _ h) fun h=>(List.mem_cons.1 h).elim (fun e=>absurd (congrArg Prod.fst e) hji) (fun h=>List.mem_append_right _ h))
          · obtain ⟨seq,hsB,rfl⟩:=List.mem_map.1 hs
            exact hA.lt seq (hB seq hsB).1 p (List.mem_filter.1 hp).1
          · obtain ⟨seq,hsB,rfl⟩:=List.mem_map.1 hs
            exact List.Pairwise.sublist List.filter_sublist (hA.ord seq (hB seq hsB).1)
          · obtain ⟨seq,hsB,rfl⟩:=List.mem_map.1 hs
            exact hA.self seq (hB seq hsB).1 p (List.mem_filter.1 hp).1
          · rw [hset i hil x]
            rcases (hset i hil j).1 hj with h1|h1
            · subst h1;exact .inr (hready x hx)
            · exact .inr (hA.down j h1 x hx)
          · rw [List.length_map]
            exact hA.one.imp (fun h=>Nat.le_trans hBl h) (fun h=>h)
          · obtain ⟨seq,hsB,rfl⟩:=List.mem_map.1 hs
            exact hK seq hsB
        · have hone:B.length≤1∨plR ops[i].op=true:=hB1.imp (fun h=>h) (fun h=>by unfold plAt at h;rw [List.getElem?_eq_getElem hil] at h;exact h)
          refine opw_all hBne hone fun seq hs=>?_
          obtain ⟨k,l,r,e1,e2,h⟩:=front seq hs
          rw [e2]
          unfold WX at h
          rw [if_pos hw] at h
          exact EC h (fun v w' hk=>hk.2) (fun c w' hz=>hz.2)
        · intro seq hs
          obtain ⟨k,l,r,e1,e2,h⟩:=front seq hs
          rw [e2]
          unfold WX at h
          rw [if_neg (by rw [hw];simp)] at h
          exact h
def AllC (p:List (Nat × Nat)→Prop):List (List (Nat × Nat))→Prop
  | []=>True
  | a :: t=>p a∧AllC p t
theorem AllC.all {p:List (Nat × Nat)→Prop}:∀ {l:List (List (Nat × Nat))},AllC p l→∀ a∈l,p a
  | x :: t,h,a,ha=>by
    rcases List.mem_cons.1 ha with rfl|ha
    · exact h.1
    · exact AllC.all h.2 a ha
def commM (ops:List Oper) (K:List Nat) (cls:List (List (Nat × Nat))):Bool:=
  !cls.isEmpty && (Nat.ble cls.length 1 || (List.range ops.length).all (fun i=>K.contains i || plAt ops i)) && (List.range ops.length).all (fun i=>(HM ops i).all (fun j=>Nat.blt j ops.length)) &&
  cls.all (fun seq=>(List.range ops.length).all (fun i=>seq.any (fun p=>Nat.beq p.1 i)) && seq.all (fun p=>Nat.blt p.1 ops.length) && PN ops K seq) && tchk ops ops.length (cls.map (kf K))
theorem ET {id:Nat} (X:List Nat) (K:List Nat) (cls:List (List (Nat × Nat))) (hqp:∀ c F d v w,d<n→(Q (.panic c) (DN F d v) w↔Q (.panic c) F w)) (hm:P.follows .mixedOrders=true) (hok:ops.all (NJ n ops)=true) (hc:commM ops K cls=true)
    (h:∀ w1,Keep [] w w1→AllC (fun seq=>WX P ops Q X (OC ops seq) F w1) cls):CW P (ro:=none) n (.region id ops.toArray true) Q F w:=by
  unfold commM at hc
  simp only [Bool.and_eq_true] at hc
  obtain ⟨⟨⟨⟨h1,h2⟩,h3⟩,h4⟩,h5⟩:=hc
  have g4:∀ seq∈cls,(∀ i,i<ops.length→∃ p∈seq,p.1=i)∧(∀ p∈seq,p.1<ops.length)∧PN ops K seq=true:=fun seq hs=>by
    have:=List.all_eq_true.1 h4 seq hs
    simp only [Bool.and_eq_true] at this
    obtain ⟨⟨a1,a2⟩,a3⟩:=this
    refine ⟨fun i hi=>?_,fun p hp=>blt (List.all_eq_true.1 a2 p hp),a3⟩
    obtain ⟨p,hp,e⟩:=List.any_eq_true.1 (List.all_eq_true.1 a1 i (by simpa using hi))
    exact ⟨p,hp,Nat.eq_of_beq_eq_true e⟩
  refine wpIn_wide.2 (wp_region_any hm ?_)
  rw [show ({ w with drawn:=w.drawn+1 }:World)=w.drew from rfl,List.size_toArray]
  refine comm_runM (K:=K) (X:=X) hok hqp (fun k hk j hj=>blt (List.all_eq_true.1 (List.all_eq_true.1 h3 k (by simpa using hk)) j hj)) ops.length cls _ F w.drew (by simp) ?_ ⟨?_,fun seq hs j hj=>?_,fun seq hs=>(g4 seq hs).2.1,fun seq hs=>(ND (g4 seq hs).2.2).1,fun seq hs=>(ND (g4 seq hs).2.2).2,fun i hi=>?_,⟨_,h5⟩,?_,(h w.drew (Keep.drew [] w)).all⟩
  · unfold KS;exact Nat.le_trans (List.countP_le_length) (by simp)
  · intro e;rw [e] at h1;simp at h1
  · simp only [Array.getElem?_replicate,hj,if_true]
    constructor
    · intro e;cases e
    · intro e
      obtain ⟨p,hp,rfl⟩:=(g4 seq hs).1 j hj
      exact absurd hp (e p.2)
  · exfalso
    rw [Array.getElem?_replicate] at hi
    split at hi <;> simp at hi
  · rw [Bool.or_eq_true] at h2
    refine h2.imp (fun h=>Nat.le_of_ble_eq_true h) (fun h i hi=>?_)
    have:=List.all_eq_true.1 h i (by simpa using hi)
    rwa [Bool.or_eq_true] at this
end
open Go.RowKit
def Enc.both {α:Type} (E:Enc α) (w0:World) (O0:List Nat):Enc α where
  size:=E.size
  rd:=fun w O cs x=>E.rd w O cs x∧E.rd w0 O0 cs x
  len:=fun h=>E.len h.1
  one:=fun h u hu=>E.one h.1 u hu
  mv:=fun h m=>⟨E.mv h.1 m,h.2⟩
  sub:=fun h hs=>⟨E.sub h.1 hs,h.2⟩
section
variable {P:Program} {ty:TypeId} {F:Fr} {w w0:World} {K:Value→World→Prop} {Z:List PanicEntry→World→Prop} {x:Operand} {O O0:List Nat}
theorem DM.both {α:Type} {E:Enc α} {e base:Nat} {v:Value} {l:List α} (h:DM E e base O w v l):DM (Enc.both E w O) e base O w v l:=by
  obtain ⟨css,h1,h2,h3⟩:=h
  exact ⟨css,h1,h2,fun q cs y hq hy=>⟨h3 q cs y hq hy,h3 q cs y hq hy⟩⟩
theorem DM.rdB {α:Type} {E:Enc α} {e base:Nat} {v:Value} {l:List α} (h:DM E e base O w v l):CI (Enc.both E w O) w [] v l:=h.both.rd0
theorem ER {α:Type} {E:Enc α} {z:List α} {a:Addr} {t:TypeId} {D:TypeDesc} (ht:P.underlying t=some D) (hD:FR D=true) (hx:CK F x = .pointer (some a)) (hp:PT (Enc.both (Enc.slice E) w0 O0) w O (.pointer (some a)) z) (h:∀ v,CI E w0 O0 v z→K v w):CR P (.load t x) ty F w K Z:=
  JQ ht hD rfl hx hp fun v hv=>by obtain ⟨v',h1,h2⟩:=hv.2;cases h1;exact h v h2
end
end Go.Fw
namespace Go.Proofs.Ytjpniibleelgiaa
open Go.Fw
section
variable {d:Device} {o n:DeviceOp} {c id copies first:Int} {l:List DeviceOp} {a:Step}
theorem cnt_all (l:List DeviceOp) (id:Int):GS l id l.length=(l.filter (fun o=>o.device == id)).length:=by unfold GS;rw [List.take_length]
theorem act_ok (h:(AV d o c).2=0):0≤c∧c≤2∧CB d=true∧d.halted=false∧CS d=true∧o.device=d.id∧o.no=d.counter+1∧ES d.ops o=false∧(CQ d.ops o).2=0:=by
  unfold AV at h
  split at h
  · cases h
  · rename_i h1
    split at h
    · cases h
    · rename_i h2
      split at h
      · cases h
      · rename_i h3
        split at h
        · cases h
        · rename_i h4
          split at h
          · cases h
          · rename_i h5
            split at h
            · rename_i h6;simp at h6;exact absurd h h6
            · rename_i h6
              simp at h1 h2 h3 h4 h6
              exact ⟨h1.1,h1.2,h2,h3.1,h3.2,h4.1,h4.2,Bool.not_eq_true _ ▸ h5,h6⟩
theorem act_fst (h:(AV d o c).2=0):(AV d o c).1 = ⟨d.id,if 1≤c then d.counter+1 else d.counter,if c=2 then (CQ d.ops o).1 else d.ops,d.halted⟩:=by
  obtain ⟨h1,h2,h3,h4,h5,h6,h7,h8,h9⟩:=act_ok h
  rw [act_7 h1 h2 h3 h4 h5 h6 h7 h8 h9]
theorem whole_cnt (h:CS d=true):((GS d.ops d.id d.ops.length:Nat):Int)=d.counter:=by unfold CS at h;simp only [dbs] at h;exact h.2
theorem may_ok {device copy:Int} (h:(BY l copies first device copy).2=0):(AI l copies first).2=0∧CN device=true∧0≤copy∧copy<copies∧(BY l copies first device copy).1=(((AI l copies first).1[copy.toNat]!.device == device) && !(AI l copies first).1[copy.toNat]!.shown):=by
  by_cases h1:(AI l copies first).2=0
  · cases h2:CN device with
    | false=>rw [MM h1 (.inl h2)] at h;cases h
    | true=>
      by_cases h3:copy<0
      · rw [MM h1 (.inr (.inl h3))] at h;cases h
      · by_cases h4:copies≤copy
        · rw [MM h1 (.inr (.inr h4))] at h;cases h
        · refine ⟨h1,rfl,by omega,by omega,?_⟩
          by_cases h5:(AI l copies first).1[copy.toNat]!.device=device
          · rw [may_4 h1 h2 (by omega) (by omega) h5,h5];simp
          · rw [may_3 h1 h2 (by omega) (by omega) h5,beq_eq_false_iff_ne.2 h5];rfl
  · rw [may_1 h1] at h;exact absurd h h1
end
open Go.Fw
@[ext] structure StateR where
  d:Device
  backups:List (List DeviceOp)
  done:List DeviceOp
def ownM (d:Device) (a:Step):DeviceOp:=⟨d.id,d.counter+1,if a.show_ then 2 else 1,((a.copy % 4).toNat:Int),if a.show_ then 0 else ((a.to % 4).toNat:Int),1+((a.token % 4).toNat:Int)⟩
def KI (d:Device):Bool:=((BE d).2 == 0) || ((BE d).2 == 430)
theorem pigeon {α:Type} [DecidableEq α]:∀ (a b:List α),a.Nodup→(∀ x∈a,x∈b)→b.length≤a.length→∀ x∈b,x∈a
  | [],b,_,_,hl,x,hx=>by have:b=[]:=List.eq_nil_of_length_eq_zero (by simpa using hl);subst this;simp at hx
  | y :: a,b,hn,hs,hl,x,hx=>by
    obtain ⟨hy,hn⟩:=List.nodup_cons.1 hn
    have hyb:=hs y List.mem_cons_self
    by_cases e:x=y
    · subst e;exact List.mem_cons_self
    · have h1:∀ z∈a,z∈b.erase y:=fun z hz=>(List.mem_erase_of_ne (fun e=>by subst e;exact hy hz)).2 (hs z (List.mem_cons_of_mem _ hz))
      have h2:=List.length_erase_of_mem hyb
      exact List.mem_cons_of_mem _ (pigeon a (b.erase y) hn h1 (by simp only [List.length_cons] at hl;omega) x ((List.mem_erase_of_ne e).2 hx))
theorem QQ:∀ (l:List DeviceOp) (lo N:Int),l.Pairwise (fun a b=>a.no<b.no)→(∀ o∈l,lo<o.no∧o.no≤N)→lo≤N→(l.length:Int)≤N - lo
  | [],lo,N,_,_,h=>by simp;omega
  | x :: l,lo,N,hp,hb,h=>by
    obtain ⟨h1,h2⟩:=List.pairwise_cons.1 hp
    have hx:=hb x List.mem_cons_self
    have:=QQ l x.no N h2 (fun o ho=>⟨h1 o ho,(hb o (List.mem_cons_of_mem _ ho)).2⟩) (by omega)
    simp only [List.length_cons];omega
section
variable {id:Int} {s:StateR} {a:Step}
end
open Go.Fw
@[ext] structure HouseR where
  d:List Device
  b:List (List (List DeviceOp))
  done:List DeviceOp
  shown:List Int
instance:Inhabited HouseR:=⟨⟨[],[],[],[]⟩⟩
abbrev iT (n:Nat) (a:Doing):Nat:=a.device.toNat % n
abbrev kT (n:Nat) (a:Doing):Nat:=a.other.toNat % n
abbrev cT (a:Doing):Int:=((a.copy % 4).toNat:Int)
abbrev crT (a:Doing):Int:=((a.crash % 3).toNat:Int)
def tokT (d:Device) (a:Doing):Int:=(AI d.ops 4 0).1[(cT a).toNat]!.token+1
def LP (s:HouseR) (a:Doing):DeviceOp:=
  ⟨(iT s.d.length a:Int),s.d[iT s.d.length a]!.counter+1,if a.kind % 6=1 then 1 else 2,cT a,if a.kind % 6=1 then (kT s.d.length a:Int) else 0,tokT s.d[iT s.d.length a]! a⟩
def KT (s:HouseR) (a:Doing):Bool:=
  ((AI s.d[iT s.d.length a]!.ops 4 0).2 == 0 && (BY s.d[iT s.d.length a]!.ops 4 0 (iT s.d.length a:Int) (cT a)).2 == 0) && (BY s.d[iT s.d.length a]!.ops 4 0 (iT s.d.length a:Int) (cT a)).1
def DF (s:HouseR) (a:Doing):HouseR:=
  if a.kind % 6=2 then (if (BW s.d[iT s.d.length a]!.ops s.d[kT s.d.length a]!.ops).2=0 then ⟨s.d.set (iT s.d.length a) (GH s.d[iT s.d.length a]! (BW s.d[iT s.d.length a]!.ops s.d[kT s.d.length a]!.ops).1),s.b,s.done,s.shown⟩ else s)
  else if a.kind % 6=3 then ⟨s.d,s.b.set (iT s.d.length a) (s.b[iT s.d.length a]! ++ [s.d[iT s.d.length a]!.ops]),s.done,s.shown⟩
  else if a.kind % 6=4 then (if 0<s.b[iT s.d.length a]!.length then ⟨s.d.set (iT s.d.length a) (GH s.d[iT s.d.length a]! s.b[iT s.d.length a]![a.at_.toNat % s.b[iT s.d.length a]!.length]!),s.b,s.done,s.shown⟩ else s)
  else if a.kind % 6=5 then (if KI s.d[iT s.d.length a]! then ⟨s.d.set (iT s.d.length a) (BE s.d[iT s.d.length a]!).1,s.b,s.done,s.shown⟩ else s)
  else if KT s a=true∧(AV s.d[iT s.d.length a]! (LP s a) (crT a)).2=0 then
    ⟨s.d.set (iT s.d.length a) (AV s.d[iT s.d.length a]! (LP s a) (crT a)).1,s.b,if a.crash % 3=2 then s.done++[LP s a] else s.done,if a.crash % 3=2∧a.kind % 6≠1 then s.shown++[cT a] else s.shown⟩
  else s
def QC (h:Holding) (o:DeviceOp):Prop:=o.token=h.token+1∧o.device=h.device∧h.shown=false
def chT:Holding→List DeviceOp→Prop
  | _,[]=>True
  | h,o :: t=>QC h o∧chT (FP h o) t
theorem MG {h:Holding} {o:DeviceOp} (hf:QC h o):FP h o=if o.kind == 2 then ⟨h.copy,h.device,o.token,true⟩ else ⟨h.copy,o.to,o.token,false⟩:=by
  unfold FP
  obtain ⟨h1,h2,h3⟩:=hf
  rw [if_neg (by simp [h1,h2,h3])]
  split
  · rfl
  · rw [h3]
theorem HU {h:Holding} {o:DeviceOp} (hf:QC h o):(FP h o).token=o.token:=by
  rw [MG hf];split <;> rfl
theorem PC:∀ {C:List DeviceOp} {h:Holding} {o:DeviceOp},chT h C→QC (C.foldl FP h) o→chT h (C++[o])
  | [],h,o,_,hf=>⟨hf,trivial⟩
  | x :: C,h,o,hc,hf=>⟨hc.1,PC hc.2 hf⟩
theorem OO:∀ {C:List DeviceOp} {h:Holding},chT h C→∀ o∈C,h.token<o.token
  | x :: C,h,hc,o,ho=>by
    have h1:=hc.1.1
    rcases List.mem_cons.1 ho with rfl|ho
    · omega
    · have:=OO hc.2 o ho
      rw [HU hc.1] at this;omega
theorem chT_pw:∀ {C:List DeviceOp} {h:Holding},chT h C→C.Pairwise (fun a b=>a.token<b.token∧a.kind≠2)
  | [],h,_=>List.Pairwise.nil
  | x :: C,h,hc=>by
    refine List.pairwise_cons.2 ⟨fun o ho=>⟨?_,fun hk=>?_⟩,chT_pw hc.2⟩
    · have:=OO hc.2 o ho
      rw [HU hc.1] at this;exact this
    · cases C with
      | nil=>cases ho
      | cons y C=>
        have:=hc.2.1.2.2
        rw [MG hc.1,if_pos (by simpa using hk)] at this;cases this
theorem ch_skip:∀ {K:List DeviceOp} {h:Holding},(∀ o∈K,h.token+1<o.token)→K.foldl FP h=h
  | [],h,_=>rfl
  | o :: K,h,hk=>by
    have h0:=hk o List.mem_cons_self
    have:FP h o=h:=by
      unfold FP;rw [if_pos]
      simp only [dbs]
      exact .inl (.inl (by omega))
    rw [List.foldl_cons,this]
    exact ch_skip fun x hx=>hk x (List.mem_cons_of_mem _ hx)
theorem fold_sub:∀ {K C:List DeviceOp} (_:K.Sublist C) {h:Holding},chT h C→∃ t,t≤C.length∧K.foldl FP h=(C.take t).foldl FP h∧∀ o,C[t]? = some o→o∉K∧QC (K.foldl FP h) o:=by
  intro K C hs
  induction hs with
  | slnil=>intro h _;exact ⟨0,by simp,rfl,by simp⟩
  | @cons K C o hs ih=>
    intro h hc
    have htok:∀ x∈K,h.token+1<x.token:=fun x hx=>by
      have:=OO hc.2 x (hs.subset hx)
      rw [HU hc.1] at this
      have:=hc.1.1;omega
    refine ⟨0,by simp,by rw [ch_skip htok];rfl,fun x hx=>?_⟩
    have:o=x:=by simpa using hx
    subst this
    refine ⟨fun hm=>?_,by rw [ch_skip htok];exact hc.1⟩
    have:=htok o hm
    have:=hc.1.1;omega
  | @cons_cons K C o hs ih=>
    intro h hc
    obtain ⟨t,h1,h2,h3⟩:=ih hc.2
    refine ⟨t+1,by simp;omega,by rw [List.take_succ_cons,List.foldl_cons,List.foldl_cons,h2],fun x hx=>?_⟩
    have hx:C[t]? = some x:=by simpa using hx
    obtain ⟨h4,h5⟩:=h3 x hx
    refine ⟨fun hm=>?_,by rw [List.foldl_cons];exact h5⟩
    rcases List.mem_cons.1 hm with rfl|hm
    · have:=OO hc.2 x (List.mem_of_getElem? hx)
      rw [HU hc.1] at this;omega
    · exact h4 hm
theorem ch_shown:∀ {C:List DeviceOp} {h:Holding},chT h C→h.shown=false→(C.foldl FP h).shown=C.any (fun o=>o.kind == 2)
  | [],h,_,hs=>by simpa using hs
  | x :: C,h,hc,hs=>by
    rw [List.foldl_cons,List.any_cons]
    cases hk:(x.kind == 2) with
    | true=>
      have hk':x.kind=2:=by simpa using hk
      have hC:C=[]:=by
        cases C with
        | nil=>rfl
        | cons y C=>exact absurd hk' ((List.pairwise_cons.1 (chT_pw hc)).1 y List.mem_cons_self).2
      subst hC
      rw [List.foldl_nil,MG hc.1,if_pos hk];rfl
    | false=>
      rw [Bool.false_or]
      refine ch_shown hc.2 ?_
      rw [MG hc.1,if_neg (by rw [hk];simp)]
def OH (H:List DeviceOp) (c:Int):List DeviceOp:=H.filter (fun o=>o.copy == c)
theorem IM {H:List DeviceOp} {c:Int} {o:DeviceOp}:o∈OH H c↔o∈H∧o.copy=c:=by simp [OH,List.mem_filter]
theorem ofC_append {H:List DeviceOp} {c:Int} {o:DeviceOp}:OH (H++[o]) c=if o.copy=c then OH H c++[o] else OH H c:=by
  unfold OH
  rw [List.filter_append]
  by_cases h:o.copy=c
  · rw [if_pos h];simp [h]
  · rw [if_neg h];simp [h]
theorem PG {H:List DeviceOp} {c:Int} (hc:chT (EM c 0) (OH H c)):EV (OH H c):=by
  refine (chT_pw hc).imp_of_mem fun {a b} ha hb h=>cmp_tok ?_ h.1
  rw [(IM.1 ha).2,(IM.1 hb).2]
theorem ofC_sub {H K:List DeviceOp} {c:Int} (hc:chT (EM c 0) (OH H c)) (hK:EV K) (hs:∀ o∈K,o∈H):(OH K c).Sublist (OH H c):=by
  have:OH K c=(OH H c).filter (fun o=>K.contains o):=by
    refine LA (List.Pairwise.sublist List.filter_sublist hK) (List.Pairwise.sublist List.filter_sublist (PG hc)) fun o=>?_
    rw [IM,List.mem_filter,IM,List.contains_iff_mem]
    exact ⟨fun h=>⟨⟨hs o h.1,h.2⟩,h.1⟩,fun h=>⟨h.2,h.1.2⟩⟩
  rw [this];exact List.filter_sublist
structure InvT (n m:Nat) (s:HouseR):Prop where
  n2:2≤n
  n4:n≤4
  ld:s.d.length=n
  lb:s.b.length=n
  id_:∀ i,i<n→s.d[i]!.id=(i:Int)
  c0:∀ i,i<n→0≤s.d[i]!.counter∧s.d[i]!.counter≤65536
  ops:∀ i,i<n→(∀ o∈s.d[i]!.ops,o∈s.done)∧s.d[i]!.ops.length≤256
  bks:∀ i,i<n→∀ l∈s.b[i]!,(∀ o∈l,o∈s.done)∧l.length≤256
  bl:∀ i,i<n→s.b[i]!.length≤m
  val:∀ o∈s.done,BV o=true∧o.copy<4
  own:∀ o∈s.done,∃ i,i<n∧o.device=(i:Int)∧1≤o.no∧o.no≤s.d[i]!.counter
  inc:s.done.Pairwise (fun a b=>a.device=b.device→a.no<b.no)
  chain:∀ c,chT (EM c 0) (OH s.done c)
  sh:s.shown=(s.done.filter (fun o=>o.kind == 2)).map (·.copy)
  dl:s.done.length≤m
section
variable {n m:Nat} {s:HouseR} {a:Doing}
theorem OL {α:Type} [Inhabited α] {l:List α} {i j:Nat} {x:α} (hj:j<l.length):(l.set i x)[j]! = if i=j then x else l[j]!:=by
  rw [getElem!_pos (l.set i x) j (by rw [List.length_set];exact hj),List.getElem_set,← getElem!_pos l j hj]
theorem whole_all (h:InvT n m s) {i:Nat} (hi:i<n) (hw:CS s.d[i]! = true) (hf:CB s.d[i]! = true):∀ o∈s.done,o.device=(i:Int)→o∈s.d[i]!.ops:=by
  have hok:=(LC.1 hf).2
  have hc:=whole_cnt hw
  rw [cnt_all,h.id_ i hi] at hc
  have hn:(s.d[i]!.ops.filter (fun o=>o.device == (i:Int))).Nodup:=List.Nodup.sublist List.filter_sublist (JK hok.2.2.1)
  have hinc:(s.done.filter (fun o=>o.device == (i:Int))).Pairwise (fun a b=>a.no<b.no):=by
    rw [List.pairwise_filter]
    exact h.inc.imp fun hab ha hb=>hab (by rw [beq_iff_eq] at ha hb;rw [ha,hb])
  have hl:=QQ _ 0 s.d[i]!.counter hinc (fun o ho=>by
    obtain ⟨h1,h2⟩:=List.mem_filter.1 ho
    obtain ⟨j,hj,h3,h4,h5⟩:=h.own o h1
    have:j=i:=by rw [beq_iff_eq,h3] at h2;omega
    subst this;omega) (h.c0 i hi).1
  intro o ho hd
  exact (List.mem_filter.1 (pigeon _ (s.done.filter (fun o=>o.device == (i:Int))) hn (fun x hx=>by
    obtain ⟨h1,h2⟩:=List.mem_filter.1 hx
    exact List.mem_filter.2 ⟨(h.ops i hi).1 x h1,h2⟩) (by omega) o (List.mem_filter.2 ⟨ho,by simpa using hd⟩))).1
theorem holds_all (h:InvT n m s) {i:Nat} (hi:i<n) (hw:CS s.d[i]! = true) (hf:CB s.d[i]! = true) {c:Int} (hd:(DI s.d[i]!.ops 0 c).device=(i:Int)):DI s.d[i]!.ops 0 c=(OH s.done c).foldl FP (EM c 0):=by
  have hok:=(LC.1 hf).2
  rw [LK] at hd ⊢
  change ((OH s.d[i]!.ops c).foldl FP (EM c 0)).device=_ at hd
  show (OH s.d[i]!.ops c).foldl FP (EM c 0)=_
  obtain ⟨t,h1,h2,h3⟩:=fold_sub (ofC_sub (h.chain c) hok.2.2.1 (h.ops i hi).1) (h.chain c)
  cases ho:(OH s.done c)[t]? with
  | none=>
    have:(OH s.done c).take t=OH s.done c:=List.take_of_length_le (by simpa using ho)
    rw [h2,this]
  | some o=>
    exfalso
    obtain ⟨h4,h5⟩:=h3 o ho
    have hm:=IM.1 (List.mem_of_getElem? ho)
    exact h4 (IM.2 ⟨whole_all h hi hw hf o hm.1 (h5.2.1.trans hd),hm.2⟩)
theorem mod6 (a:Doing):(a.copy % 4).toNat<4:=by rw [UInt8.toNat_mod];exact Nat.mod_lt _ (by decide)
theorem InvT.i_lt (h:InvT n m s) (a:Doing):iT s.d.length a<n:=by rw [h.ld];exact Nat.mod_lt _ (by have:=h.n2;omega)
theorem InvT.k_lt (h:InvT n m s) (a:Doing):kT s.d.length a<n:=by rw [h.ld];exact Nat.mod_lt _ (by have:=h.n2;omega)
theorem OE (h:InvT n m s) {i:Nat} (hi:i<n) {x:Device} (h1:x.id=(i:Int)) (h2:s.d[i]!.counter≤x.counter) (h3:x.counter≤65536) (h4:(∀ o∈x.ops,o∈s.done)∧x.ops.length≤256):InvT n (m+1) ⟨s.d.set i x,s.b,s.done,s.shown⟩:=by
  have hld:=h.ld
  have g:∀ j,j<n→(s.d.set i x)[j]! = if i=j then x else s.d[j]!:=fun j hj=>OL (by omega)
  refine ⟨h.n2,h.n4,by simp [h.ld],h.lb,fun j hj=>?_,fun j hj=>?_,fun j hj=>?_,h.bks,fun j hj=>Nat.le_succ_of_le (h.bl j hj),h.val,fun o ho=>?_,h.inc,h.chain,h.sh,Nat.le_succ_of_le h.dl⟩
  · show (s.d.set i x)[j]!.id=_
    rw [g j hj];split
    · rename_i e;rw [← e];exact h1
    · exact h.id_ j hj
  · show 0≤(s.d.set i x)[j]!.counter∧_
    rw [g j hj];split
    · have:=h.c0 i hi;exact ⟨by omega,h3⟩
    · exact h.c0 j hj
  · show (∀ o∈(s.d.set i x)[j]!.ops,_)∧(s.d.set i x)[j]!.ops.length≤256
    rw [g j hj];split
    · exact h4
    · exact h.ops j hj
  · obtain ⟨j,hj,a1,a2,a3⟩:=h.own o ho
    refine ⟨j,hj,a1,a2,?_⟩
    show o.no≤(s.d.set i x)[j]!.counter
    rw [g j hj];split
    · rename_i e;subst e;omega
    · exact a3
theorem GP (h:InvT n m s):InvT n (m+1) s:=⟨h.n2,h.n4,h.ld,h.lb,h.id_,h.c0,h.ops,h.bks,fun i hi=>Nat.le_succ_of_le (h.bl i hi),h.val,h.own,h.inc,h.chain,h.sh,Nat.le_succ_of_le h.dl⟩
theorem start_eq {d:Device} (h:KI d=true):∃ b,(BE d).1 = ⟨d.id,d.counter,d.ops,b⟩:=by
  unfold KI at h
  cases hf:CB d with
  | false=>rw [start_1 hf] at h;exact absurd h (by decide)
  | true=>
    cases hh:d.halted with
    | true=>rw [KJ hf (.inl hh)];exact ⟨_,rfl⟩
    | false=>
      cases hw:CS d with
      | false=>rw [KJ hf (.inr hw)];exact ⟨_,rfl⟩
      | true=>rw [start_3 hf hh hw];exact ⟨d.halted,rfl⟩
theorem may_fit (h:InvT n m s) (hm:KT s a=true):(AI s.d[iT s.d.length a]!.ops 4 0).2=0∧(DI s.d[iT s.d.length a]!.ops 0 (cT a)).device=(iT s.d.length a:Int)∧(DI s.d[iT s.d.length a]!.ops 0 (cT a)).shown=false∧tokT s.d[iT s.d.length a]! a=(DI s.d[iT s.d.length a]!.ops 0 (cT a)).token+1:=by
  unfold KT at hm
  simp only [Bool.and_eq_true,beq_iff_eq] at hm
  obtain ⟨⟨h1,h2⟩,h3⟩:=hm
  obtain ⟨_,_,a1,a2,a3⟩:=may_ok h2
  have hc:=mod6 a
  have e:(AI s.d[iT s.d.length a]!.ops 4 0).1[(cT a).toNat]! = DI s.d[iT s.d.length a]!.ops 0 (cT a):=by
    rw [st_at h1 (by show (cT a).toNat<4;omega)]
    congr 1
  rw [a3,e] at h3
  simp only [Bool.and_eq_true,beq_iff_eq,Bool.not_eq_true'] at h3
  exact ⟨h1,h3.1,h3.2,by unfold tokT;rw [e]⟩
theorem RA (h:InvT n m s) (a:Doing):InvT n (m+1) (DF s a):=by
  have hi:=h.i_lt a
  have hk:=h.k_lt a
  have hld:=h.ld
  have hlb:=h.lb
  unfold DF
  split
  · split
    · rename_i hm
      obtain ⟨_,_,g2,g3⟩:=merge_ok hm
      exact OE h hi (h.id_ _ hi) (Int.le_refl _) (h.c0 _ hi).2 ⟨fun o ho=>by
        rcases (g3 o).1 ho with ho|ho
        · exact (h.ops _ hi).1 o ho
        · exact (h.ops _ hk).1 o ho,g2.1⟩
    · exact GP h
  · split
    · refine ⟨h.n2,h.n4,h.ld,by simp [h.lb],h.id_,h.c0,h.ops,fun j hj=>?_,fun j hj=>?_,h.val,h.own,h.inc,h.chain,h.sh,Nat.le_succ_of_le h.dl⟩
      · show ∀ l∈(s.b.set _ _)[j]!,_
        rw [OL (by omega)]
        split
        · rename_i e
          intro l hl
          rcases List.mem_append.1 hl with hl|hl
          · exact h.bks _ hi l hl
          · rw [List.mem_singleton.1 hl];exact h.ops _ hi
        · exact h.bks j hj
      · show (s.b.set _ _)[j]!.length≤m+1
        rw [OL (by omega)]
        split
        · have:=h.bl _ hi;simp only [List.length_append,List.length_singleton];omega
        · exact Nat.le_succ_of_le (h.bl j hj)
    · split
      · split
        · rename_i hb
          have hm:s.b[iT s.d.length a]![a.at_.toNat % s.b[iT s.d.length a]!.length]!∈s.b[iT s.d.length a]!:=by
            have:=Nat.mod_lt a.at_.toNat hb
            rw [getElem!_pos s.b[iT s.d.length a]! _ this];exact List.getElem_mem this
          exact OE h hi (h.id_ _ hi) (Int.le_refl _) (h.c0 _ hi).2 (h.bks _ hi _ hm)
        · exact GP h
      · split
        · split
          · rename_i hs
            obtain ⟨b,e⟩:=start_eq hs
            rw [e]
            exact OE h hi (h.id_ _ hi) (Int.le_refl _) (h.c0 _ hi).2 (h.ops _ hi)
          · exact GP h
        · split
          · rename_i hma
            obtain ⟨hm,ha⟩:=hma
            obtain ⟨a1,a2,a3,a4,a5,a6,a7,a8,a9⟩:=act_ok ha
            have hb:=(LC.1 a3).1
            have hc0:=h.c0 _ hi
            rw [act_fst ha]
            by_cases hcr:a.crash % 3=2
            · have hc:crT a=2:=by unfold crT;rw [hcr];rfl
              rw [hc,if_pos (by decide),if_pos rfl,if_pos hcr]
              obtain ⟨_,g1,g2,g3⟩:=add_ok a9
              obtain ⟨f1,f2,f3,f4⟩:=may_fit h hm
              have hh:=holds_all h hi a5 a3 f2
              have hfit:QC ((OH s.done (cT a)).foldl FP (EM (cT a) 0)) (LP s a):=by
                rw [← hh]
                exact ⟨f4,f2.symm,f3⟩
              have hmod:=mod6 a
              have g:∀ j x,j<n→(s.d.set (iT s.d.length a) x)[j]! = if iT s.d.length a=j then x else s.d[j]!:=fun j x hj=>OL (by omega)
              refine ⟨h.n2,h.n4,by simp [h.ld],h.lb,fun j hj=>?_,fun j hj=>?_,fun j hj=>?_,fun j hj l hl=>?_,fun j hj=>Nat.le_succ_of_le (h.bl j hj),fun o ho=>?_,fun o ho=>?_,?_,fun c=>?_,?_,?_⟩
              · show (s.d.set _ _)[j]!.id=_
                rw [g j _ hj];split
                · rename_i e;rw [← e];exact h.id_ _ hi
                · exact h.id_ j hj
              · show 0≤(s.d.set _ _)[j]!.counter∧(s.d.set _ _)[j]!.counter≤65536
                rw [g j _ hj];split
                · show 0≤s.d[iT s.d.length a]!.counter+1∧s.d[iT s.d.length a]!.counter+1≤65536
                  omega
                · exact h.c0 j hj
              · show (∀ o∈(s.d.set _ _)[j]!.ops,o∈s.done++[LP s a])∧(s.d.set _ _)[j]!.ops.length≤256
                rw [g j _ hj];split
                · refine ⟨fun o ho=>?_,g2.1⟩
                  rcases (g3 o).1 ho with e|ho
                  · rw [e];exact List.mem_append_right _ List.mem_cons_self
                  · exact List.mem_append_left _ ((h.ops _ hi).1 o ho)
                · exact ⟨fun o ho=>List.mem_append_left _ ((h.ops j hj).1 o ho),(h.ops j hj).2⟩
              · exact ⟨fun o ho=>List.mem_append_left _ ((h.bks j hj l hl).1 o ho),(h.bks j hj l hl).2⟩
              · rcases List.mem_append.1 ho with ho|ho
                · exact h.val o ho
                · rw [List.mem_singleton.1 ho];exact ⟨g1,by show cT a<4;unfold cT;omega⟩
              · rcases List.mem_append.1 ho with ho|ho
                · obtain ⟨j,hj,b1,b2,b3⟩:=h.own o ho
                  refine ⟨j,hj,b1,b2,?_⟩
                  show o.no≤(s.d.set _ _)[j]!.counter
                  rw [g j _ hj];split
                  · rename_i e;subst e
                    show o.no≤s.d[iT s.d.length a]!.counter+1;omega
                  · exact b3
                · rw [List.mem_singleton.1 ho]
                  refine ⟨_,hi,rfl,?_,?_⟩
                  · show 1≤s.d[iT s.d.length a]!.counter+1;omega
                  · show s.d[iT s.d.length a]!.counter+1≤(s.d.set _ _)[iT s.d.length a]!.counter
                    rw [g _ _ hi,if_pos rfl];exact Int.le_refl _
              · rw [List.pairwise_append]
                refine ⟨h.inc,List.pairwise_singleton _ _,fun x hx y hy=>?_⟩
                rw [List.mem_singleton.1 hy]
                intro e
                obtain ⟨j,hj,b1,b2,b3⟩:=h.own x hx
                have:j=iT s.d.length a:=by rw [b1] at e;have e:(j:Int)=(iT s.d.length a:Int):=e;omega
                subst this
                show x.no<s.d[iT s.d.length a]!.counter+1;omega
              · show chT (EM c 0) (OH (s.done++[LP s a]) c)
                rw [ofC_append]
                split
                · rename_i e
                  have e:cT a=c:=e
                  subst e
                  exact PC (h.chain _) hfit
                · exact h.chain c
              · show (if a.crash % 3=2∧a.kind % 6≠1 then s.shown++[cT a] else s.shown)=((s.done++[LP s a]).filter (fun o=>o.kind == 2)).map (·.copy)
                rw [List.filter_append,List.map_append,← h.sh]
                by_cases hk1:a.kind % 6=1
                · rw [if_neg (fun e=>e.2 hk1)]
                  have:(LP s a).kind=1:=by unfold LP;simp only;rw [if_pos hk1]
                  simp [this]
                · rw [if_pos ⟨hcr,hk1⟩]
                  have:(LP s a).kind=2:=by unfold LP;simp only;rw [if_neg hk1]
                  have e:[LP s a].filter (fun o=>o.kind == 2)=[LP s a]:=by simp [this]
                  rw [e];rfl
              · have:=h.dl
                show (s.done++[LP s a]).length≤m+1
                simp only [List.length_append,List.length_singleton];omega
            · have hc:crT a≠2:=fun e=>hcr (by
                unfold crT at e
                have:(a.crash % 3).toNat=2:=by omega
                exact UInt8.toNat_inj.1 this)
              rw [if_neg hc,if_neg hcr,if_neg (show ¬ (a.crash % 3=2∧a.kind % 6≠1) from fun e=>hcr e.1)]
              refine OE h hi (h.id_ _ hi) ?_ ?_ (h.ops _ hi)
              · show s.d[iT s.d.length a]!.counter≤if 1≤crT a then s.d[iT s.d.length a]!.counter+1 else s.d[iT s.d.length a]!.counter
                split <;> omega
              · show (if 1≤crT a then s.d[iT s.d.length a]!.counter+1 else s.d[iT s.d.length a]!.counter)≤65536
                split <;> omega
          · exact GP h
end
open Go.Fw
section
variable {s:HouseR} {a:Doing}
theorem lv_2y (h:a.kind % 6=2) (hm:(BW s.d[iT s.d.length a]!.ops s.d[kT s.d.length a]!.ops).2=0):DF s a = ⟨s.d.set (iT s.d.length a) (GH s.d[iT s.d.length a]! (BW s.d[iT s.d.length a]!.ops s.d[kT s.d.length a]!.ops).1),s.b,s.done,s.shown⟩:=by
  unfold DF;rw [if_pos h,if_pos hm]
theorem lv_2n (h:a.kind % 6=2) (hm:(BW s.d[iT s.d.length a]!.ops s.d[kT s.d.length a]!.ops).2≠0):DF s a=s:=by
  unfold DF;rw [if_pos h,if_neg hm]
theorem lv_3 (h:a.kind % 6=3):DF s a = ⟨s.d,s.b.set (iT s.d.length a) (s.b[iT s.d.length a]! ++ [s.d[iT s.d.length a]!.ops]),s.done,s.shown⟩:=by
  unfold DF;rw [if_neg (by rw [h];decide),if_pos h]
theorem lv_4y (h:a.kind % 6=4) (hb:0<(s.b[iT s.d.length a]!.length:Int)):DF s a = ⟨s.d.set (iT s.d.length a) (GH s.d[iT s.d.length a]! s.b[iT s.d.length a]![a.at_.toNat % s.b[iT s.d.length a]!.length]!),s.b,s.done,s.shown⟩:=by
  unfold DF;rw [if_neg (by rw [h];decide),if_neg (by rw [h];decide),if_pos h,if_pos (by omega)]
theorem lv_4n (h:a.kind % 6=4) (hb:(s.b[iT s.d.length a]!.length:Int)≤0):DF s a=s:=by
  unfold DF;rw [if_neg (by rw [h];decide),if_neg (by rw [h];decide),if_pos h,if_neg (by omega)]
theorem lv_5a (h:a.kind % 6=5) (hs:(BE s.d[iT s.d.length a]!).2=0):DF s a = ⟨s.d.set (iT s.d.length a) (BE s.d[iT s.d.length a]!).1,s.b,s.done,s.shown⟩:=by
  unfold DF;rw [if_neg (by rw [h];decide),if_neg (by rw [h];decide),if_neg (by rw [h];decide),if_pos h,if_pos (by unfold KI;rw [hs];rfl)]
theorem lv_5b (h:a.kind % 6=5) (hs:(BE s.d[iT s.d.length a]!).2=430):DF s a = ⟨s.d.set (iT s.d.length a) (BE s.d[iT s.d.length a]!).1,s.b,s.done,s.shown⟩:=by
  unfold DF;rw [if_neg (by rw [h];decide),if_neg (by rw [h];decide),if_neg (by rw [h];decide),if_pos h,if_pos (by unfold KI;rw [hs];rfl)]
theorem lv_5n (h:a.kind % 6=5) (hs:(BE s.d[iT s.d.length a]!).2≠0) (hs2:(BE s.d[iT s.d.length a]!).2≠430):DF s a=s:=by
  unfold DF;rw [if_neg (by rw [h];decide),if_neg (by rw [h];decide),if_neg (by rw [h];decide),if_pos h,if_neg (by unfold KI;rw [beq_false_of_ne hs,beq_false_of_ne hs2];simp)]
theorem mod6_lt (x:UInt8):(x % 6).toNat<6:=by rw [UInt8.toNat_mod];exact Nat.mod_lt _ (by decide)
theorem KD {x:UInt8} (h0:x % 6≠0) (h1:x % 6≠1) (h2:x % 6≠2) (h3:x % 6≠3) (h4:x % 6≠4):x % 6=5:=by
  have h:=mod6_lt x
  generalize x % 6=y at *
  have e:∀ n:UInt8,y≠n→y.toNat≠n.toNat:=fun n hn e=>hn (UInt8.toNat_inj.1 e)
  have a0:=e 0 h0
  have a1:=e 1 h1
  have a2:=e 2 h2
  have a3:=e 3 h3
  have a4:=e 4 h4
  apply UInt8.toNat_inj.1
  show y.toNat=5
  have e0:(0:UInt8).toNat=0:=rfl
  have e1:(1:UInt8).toNat=1:=rfl
  have e2:(2:UInt8).toNat=2:=rfl
  have e3:(3:UInt8).toNat=3:=rfl
  have e4:(4:UInt8).toNat=4:=rfl
  omega
theorem may_n1 (h:(AI s.d[iT s.d.length a]!.ops 4 0).2≠0):KT s a=false:=by unfold KT;rw [beq_false_of_ne h];simp
theorem may_n2 (h:(BY s.d[iT s.d.length a]!.ops 4 0 (iT s.d.length a:Int) (cT a)).2≠0):KT s a=false:=by unfold KT;rw [beq_false_of_ne h];simp
theorem may_n3 (h:(BY s.d[iT s.d.length a]!.ops 4 0 (iT s.d.length a:Int) (cT a)).1=false):KT s a=false:=by unfold KT;rw [h];simp
theorem HP (h1:(AI s.d[iT s.d.length a]!.ops 4 0).2=0) (h2:(BY s.d[iT s.d.length a]!.ops 4 0 (iT s.d.length a:Int) (cT a)).2=0) (h3:(BY s.d[iT s.d.length a]!.ops 4 0 (iT s.d.length a:Int) (cT a)).1=true):KT s a=true:=by unfold KT;rw [h1,h2,h3];rfl
theorem NA (h:a.kind % 6=0∨a.kind % 6=1) (hm:KT s a=false):DF s a=s:=by
  unfold DF
  rcases h with h|h
  · rw [if_neg (by rw [h];decide),if_neg (by rw [h];decide),if_neg (by rw [h];decide),if_neg (by rw [h];decide),if_neg (by rw [hm];simp)]
  · rw [if_neg (by rw [h];decide),if_neg (by rw [h];decide),if_neg (by rw [h];decide),if_neg (by rw [h];decide),if_neg (by rw [hm];simp)]
theorem lv_bad (h:a.kind % 6=0∨a.kind % 6=1) (ha:(AV s.d[iT s.d.length a]! (LP s a) (crT a)).2≠0):DF s a=s:=by
  unfold DF
  rcases h with h|h
  · rw [if_neg (by rw [h];decide),if_neg (by rw [h];decide),if_neg (by rw [h];decide),if_neg (by rw [h];decide),if_neg (fun e=>ha e.2)]
  · rw [if_neg (by rw [h];decide),if_neg (by rw [h];decide),if_neg (by rw [h];decide),if_neg (by rw [h];decide),if_neg (fun e=>ha e.2)]
theorem lv_act (h:a.kind % 6=0∨a.kind % 6=1) (hm:KT s a=true) (ha:(AV s.d[iT s.d.length a]! (LP s a) (crT a)).2=0):DF s a = ⟨s.d.set (iT s.d.length a) (AV s.d[iT s.d.length a]! (LP s a) (crT a)).1,s.b,if a.crash % 3=2 then s.done++[LP s a] else s.done,if a.crash % 3=2∧a.kind % 6≠1 then s.shown++[cT a] else s.shown⟩:=by
  unfold DF
  rcases h with h|h
  · rw [if_neg (by rw [h];decide),if_neg (by rw [h];decide),if_neg (by rw [h];decide),if_neg (by rw [h];decide),if_pos ⟨hm,ha⟩]
  · rw [if_neg (by rw [h];decide),if_neg (by rw [h];decide),if_neg (by rw [h];decide),if_neg (by rw [h];decide),if_pos ⟨hm,ha⟩]
theorem NQ (h:a.kind % 6=0∨a.kind % 6=1) (hm:KT s a=true) (ha:(AV s.d[iT s.d.length a]! (LP s a) (crT a)).2=0) (hc:a.crash % 3≠2):DF s a = ⟨s.d.set (iT s.d.length a) (AV s.d[iT s.d.length a]! (LP s a) (crT a)).1,s.b,s.done,s.shown⟩:=by
  rw [lv_act h hm ha,if_neg hc,if_neg (fun e=>hc e.1)]
theorem lv_a2s (h:a.kind % 6=0) (hm:KT s a=true) (ha:(AV s.d[iT s.d.length a]! (LP s a) (crT a)).2=0) (hc:a.crash % 3=2):DF s a = ⟨s.d.set (iT s.d.length a) (AV s.d[iT s.d.length a]! (LP s a) (crT a)).1,s.b,s.done++[LP s a],s.shown++[cT a]⟩:=by
  rw [lv_act (.inl h) hm ha,if_pos hc,if_pos ⟨hc,by rw [h];decide⟩]
theorem lv_a2g (h:a.kind % 6=1) (hm:KT s a=true) (ha:(AV s.d[iT s.d.length a]! (LP s a) (crT a)).2=0) (hc:a.crash % 3=2):DF s a = ⟨s.d.set (iT s.d.length a) (AV s.d[iT s.d.length a]! (LP s a) (crT a)).1,s.b,s.done++[LP s a],s.shown⟩:=by
  rw [lv_act (.inr h) hm ha,if_pos hc,if_neg (fun e=>e.2 h)]
theorem GZ (h:a.kind % 6=0):LP s a = ⟨(iT s.d.length a:Int),s.d[iT s.d.length a]!.counter+1,2,cT a,0,tokT s.d[iT s.d.length a]! a⟩:=by unfold LP;rw [h];rfl
theorem HA (h:a.kind % 6=1):LP s a = ⟨(iT s.d.length a:Int),s.d[iT s.d.length a]!.counter+1,1,cT a,(kT s.d.length a:Int),tokT s.d[iT s.d.length a]! a⟩:=by unfold LP;rw [h];rfl
end
def runT (s0:HouseR) (l:List Doing):Nat→HouseR
  | 0=>s0
  | k+1=>DF (runT s0 l k) l[k]!
theorem FD (s0:HouseR) (l:List Doing) (k:Nat):runT s0 l (k+1)=DF (runT s0 l k) l[k]!:=rfl
theorem runT_inv {n:Nat} {s0:HouseR} (h:InvT n 0 s0) (l:List Doing):∀ k,InvT n k (runT s0 l k)
  | 0=>h
  | k+1=>RA (runT_inv h l k) _
def IK (k:Nat):List Device:=(List.range k).map fun (i:Nat)=>⟨(i:Int),0,[],false⟩
theorem KO (k:Nat):IK (k+1)=IK k++[⟨(k:Int),0,[],false⟩]:=by simp [IK,List.range_succ]
theorem PB (k:Nat):(IK k).length=k:=by simp [IK]
def IR (n:Nat):HouseR:=⟨IK n,List.replicate n [],[],[]⟩
theorem OV {n:Nat} (h2:2≤n) (h4:n≤4):InvT n 0 (IR n):=by
  have g:∀ i,i<n→(IR n).d[i]! = ⟨(i:Int),0,[],false⟩:=fun i hi=>by
    show (IK n)[i]! = _
    rw [getElem!_pos _ i (by rw [PB];exact hi)];simp [IK]
  have gb:∀ i,i<n→(IR n).b[i]! = []:=fun i hi=>by
    show (List.replicate n ([]:List (List DeviceOp)))[i]! = _
    rw [getElem!_pos _ i (by simpa using hi)];simp
  refine ⟨h2,h4,PB n,by simp [IR],fun i hi=>by rw [g i hi],fun i hi=>by rw [g i hi];simp,fun i hi=>by rw [g i hi];simp,fun i hi=>by rw [gb i hi];simp,fun i hi=>by rw [gb i hi];simp,by simp [IR],by simp [IR],List.Pairwise.nil,fun c=>trivial,rfl,by simp [IR]⟩
section
variable {n m:Nat} {s:HouseR}
theorem InvT.pair (h:InvT n m s):s.done.Pairwise (fun a b=>a.copy=b.copy→a.token<b.token∧a.kind≠2):=by
  refine List.pairwise_iff_getElem.2 fun i j hi hj hij e=>?_
  have:=chT_pw (h.chain s.done[i].copy)
  unfold OH at this
  rw [List.pairwise_filter] at this
  exact List.pairwise_iff_getElem.1 this i j hi hj hij (by simp) (by simpa using e.symm)
theorem tok_ne (h:InvT n m s) {k i:Nat} (hk:k<i) (hi:i<s.done.length) (e:s.done[k]!.copy=s.done[i]!.copy):s.done[k]!.token≠s.done[i]!.token:=by
  rw [getElem!_pos s.done i hi,getElem!_pos s.done k (by omega)] at e ⊢
  have:=(List.pairwise_iff_getElem.1 h.pair k i (by omega) hi hk e).1
  omega
theorem sh_nodup (h:InvT n m s):s.shown.Nodup:=by
  rw [h.sh,List.Nodup,List.pairwise_map,List.pairwise_filter]
  exact h.pair.imp fun hab ha hb e=>(hab e).2 (by simpa using ha)
theorem sh_has (h:InvT n m s) {i:Nat} (hi:i<s.shown.length):(s.shown.take i).contains s.shown[i]! = false:=by
  rw [← Bool.not_eq_true,List.contains_iff_mem]
  intro hm
  obtain ⟨j,hj,e⟩:=List.getElem_of_mem hm
  rw [List.length_take] at hj
  rw [List.getElem_take,getElem!_pos s.shown i hi] at e
  have:=List.pairwise_iff_getElem.1 (sh_nodup h) j i (by omega) hi (by omega)
  exact this e
theorem nodup_le {α:Type} [DecidableEq α]:∀ {a b:List α},a.Nodup→(∀ x∈a,x∈b)→a.length≤b.length
  | [],b,_,_=>by simp
  | x :: r,b,hn,hs=>by
    obtain ⟨hx,hr⟩:=List.nodup_cons.1 hn
    have hb:=hs x List.mem_cons_self
    have:=nodup_le (b:=b.erase x) hr (fun y hy=>(List.mem_erase_of_ne (fun e=>by subst e;exact hx hy)).2 (hs y (List.mem_cons_of_mem _ hy)))
    rw [List.length_erase_of_mem hb] at this
    have:=List.length_pos_of_mem hb
    simp only [List.length_cons];omega
def EU (H:List DeviceOp):Nat→List DeviceOp
  | 0=>[]
  | k+1=>(CQ (EU H k) H[k]!).1
theorem all_add1 (h:InvT n m s) (hm:m≤40) {k:Nat} (hk:k<s.done.length) (h1:MA (EU s.done k)) (h2:∀ o,o∈EU s.done k↔o∈s.done.take k):(CQ (EU s.done k) s.done[k]!).2=0:=by
  have hd:=h.dl
  have hv:=(h.val s.done[k]! (by rw [getElem!_pos s.done k hk];exact List.getElem_mem hk)).1
  by_cases hin:s.done[k]!∈EU s.done k
  · rw [add_in h1 hv hin]
  · have hlen:(EU s.done k).length≤(s.done.take k).length:=nodup_le (JK h1.2.2.1) fun o ho=>(h2 o).1 ho
    rw [List.length_take] at hlen
    rw [add_new h1 hv hin (fun p hp e=>?_) (by omega)]
    obtain ⟨j,hj,rfl⟩:=List.getElem_of_mem ((h2 p).1 hp)
    rw [List.length_take] at hj
    rw [List.getElem_take,getElem!_pos s.done k hk] at e
    have:=List.pairwise_iff_getElem.1 h.inc j k (by omega) hk (by omega)
    unfold DH at e
    rw [DevNo.mk.injEq] at e
    have:=this e.1;omega
theorem OJ (h:InvT n m s) (hm:m≤40):∀ k,k≤s.done.length→MA (EU s.done k)∧∀ o,o∈EU s.done k↔o∈s.done.take k
  | 0,_=>⟨⟨by simp [EU],by simp [EU],List.Pairwise.nil,by simp [EU,LG]⟩,by simp [EU]⟩
  | k+1,hk=>by
    obtain ⟨h1,h2⟩:=OJ h hm k (by omega)
    have hd:=h.dl
    have hadd:=all_add1 h hm (k:=k) (by omega) h1 h2
    obtain ⟨_,_,g2,g3⟩:=add_ok hadd
    refine ⟨g2,fun o=>?_⟩
    show o∈(CQ (EU s.done k) s.done[k]!).1↔_
    rw [g3,h2,List.take_add_one,List.getElem?_eq_getElem (by omega:k<s.done.length),getElem!_pos s.done k (by omega),List.mem_append]
    simp only [Option.toList_some,List.mem_singleton]
    exact or_comm
theorem all_add (h:InvT n m s) (hm:m≤40) {k:Nat} (hk:k<s.done.length):(CQ (EU s.done k) s.done[k]!).2=0:=by
  obtain ⟨h1,h2⟩:=OJ h hm k (by omega)
  exact all_add1 h hm hk h1 h2
theorem KP (h:InvT n m s) (hm:m≤40):(AI (EU s.done s.done.length) 4 0).2=0:=st_of (OJ h hm _ (Nat.le_refl _)).1 (by decide) (by decide) (by decide)
theorem all_shown (h:InvT n m s) (hm:m≤40) {c:Nat} (hc:c<4):(AI (EU s.done s.done.length) 4 0).1[c]!.shown=s.shown.contains (c:Int):=by
  obtain ⟨h1,h2⟩:=OJ h hm _ (Nat.le_refl _)
  rw [List.take_length] at h2
  rw [st_at (KP h hm) (show c<(4:Int).toNat by simpa using hc),LK]
  have e:(EU s.done s.done.length).filter (fun o=>o.copy == (c:Int))=OH s.done (c:Int):=by
    refine LA (List.Pairwise.sublist List.filter_sublist h1.2.2.1) (PG (h.chain _)) fun o=>?_
    rw [List.mem_filter,IM,h2];simp
  unfold QI
  rw [e,ch_shown (h.chain _) rfl,h.sh,Bool.eq_iff_iff,List.any_eq_true,List.contains_iff_mem]
  simp only [List.mem_map,List.mem_filter,IM,beq_iff_eq]
  constructor
  · rintro ⟨o,⟨ho,hc⟩,hk⟩;exact ⟨o,⟨ho,hk⟩,hc⟩
  · rintro ⟨o,⟨ho,hk⟩,hc⟩;exact ⟨o,⟨ho,hc⟩,hk⟩
end
theorem bk_len {n m:Nat} {s:HouseR} (h:InvT n m s) {i j:Nat} (hi:i<n) (hj:j<s.b[i]!.length):s.b[i]![j]!.length≤256:=(h.bks i hi _ (by rw [getElem!_pos s.b[i]! j hj];exact List.getElem_mem hj)).2
theorem sh_len {n m:Nat} {s:HouseR} (h:InvT n m s):s.shown.length≤m:=by
  rw [h.sh,List.length_map]
  exact Nat.le_trans (List.length_filter_le _ _) h.dl
theorem stp_all {p:Nat→Prop} {k:Nat} (h:∀ q,q<k→p q) (hk:p k):∀ q,q<k+1→p q:=fun q hq=>by
  by_cases e:q=k
  · subst e;exact hk
  · exact h q (by omega)
theorem hs_yes {l:List Int} {n:Int} {k:Nat} (hk:k<l.length) (h:l[k]! = n):l.contains n=true:=by
  rw [List.contains_iff_mem,← h,getElem!_pos l k hk];exact List.getElem_mem hk
theorem hs_no {l:List Int} {n:Int} (h:∀ q,q<l.length→l[q]!≠n):l.contains n=false:=by
  rw [← Bool.not_eq_true,List.contains_iff_mem]
  intro hm
  obtain ⟨i,hi,e⟩:=List.getElem_of_mem hm
  exact h i hi (by rw [getElem!_pos l i hi,e])
def AA:List Doing:=[⟨3,0,0,0,0,0⟩,⟨1,0,1,2,2,0⟩,⟨0,0,0,2,2,0⟩,⟨0,1,0,2,2,0⟩,⟨2,1,0,0,0,0⟩,⟨0,1,0,2,2,0⟩,⟨4,0,0,0,0,0⟩,⟨0,0,0,2,2,0⟩,⟨5,0,0,0,0,0⟩]
open Go.Fw Go.RowKit
set_option maxHeartbeats 4000000 in
set_option maxRecDepth 100000 in
theorem c_hasT {O:List Nat} (l_v:Value) (l:List Int) (n:Int) (w:World) (a2:CI Enc.int w O l_v l) (hO:∀ b∈O,b<w.heap.size):CF Try.prog 22 [l_v,vI n] w (fun v _=>v = .bool (l.contains n)):= by
 have a8:=a2.len_le
 have a2:CI Enc.int w ([]++O) l_v l:=a2
 have s0:St w O w []:=St.start hO
 refine BS 18 Try.func22 rfl rfl oT (fun F0=>AG (AD kR (AC (AH (vO false) rfl (AE (AB (AG (AG (AD kR (AC (AH (vI 0) rfl (AE (AB (BN (ED (fun mI FI wI=>∃ (k:Nat),k≤l.length∧(∀ q,q<k→l[q]!≠n)∧mI=l.length - k∧(∃ F1,FI=GM F1 [(0,l_v),(1,vI n),(5,vI ((k:Nat):Int)),(18,undef)])∧w=wI) (l.length - (0)) ?_ ?_)))))))))))))))
 ·exact ⟨(0),oM,(fun q hq=>by omega),rfl,⟨_,AL _ ⟨rfl,rfl,(by rfl),rfl,trivial⟩⟩,rfl⟩
 rintro b0 F b1 ⟨k,hr0_0,hr0_1,b2,⟨b3,rfl⟩,rfl⟩
 refine AG (AG (AD kR (AC (AF (vI ((k:Nat):Int)) rfl (AC (AF (l_v) rfl (AC (DS U27_ rfl a2 (AC (DR .i64 ((k:Nat):Int) (l.length:Int) rfl rfl (AE (AB (AK (decide (((k:Nat):Int)<(l.length:Int))) rfl rfl (fun a0=>?_) (fun a0=>?_))))))))))))))
 ·have a4:((k:Nat):Int)<(l.length:Int):=by simpa using a0
  refine AT (AB (AG (BN (AG (AD kR (AC (AF (l_v) rfl (AC (AF (vI ((k:Nat):Int)) rfl (AC (BZ U27_ s_3 .i64 ((k:Nat):Int) k rfl rfl rfl a2 oM fun a9 a3=>(AC (BJ U3_ rfl rfl a3 (AC (AF (vI n) rfl (AC (DC .i64 (l[k]!) n rfl rfl (AE (AB (AK ((l[k]!) == n) rfl rfl (fun a1=>?_) (fun a1=>?_)))))))))))))))))))))
  ·have a5:l[k]! = n:=by simpa using a1
   refine AG (AD kR (AC (AH (vO true) rfl (AE (AB (AS (BC (AN (AN (BC (AN (AZ rfl (CX rfl rfl rfl) (?_)))))))))))))
   have e:(l.contains n)=true:=by exact hs_yes (k:=k) oM aS
   exact ⟨_,rfl,s0.keep,(by exact congrArg vO e.symm)⟩
  have a6:l[k]!≠n:=by simpa using a1
  refine AT (AW (AB (AD kR (AC (AF (vI ((k:Nat):Int)) rfl (AC (CE .i64 ((k:Nat):Int) (1:Int) (((k+1:Nat):Int)) rfl rfl (EP oM oM) (AC (AH (vI ((k+1:Nat):Int)) rfl (AE (AB (?_))))))))))))
  exact ⟨_,oM,(k+1),oM,(stp_all hr0_1 aS),rfl,⟨_,AL _ ⟨rfl,rfl,(by rfl),rfl,trivial⟩⟩,rfl⟩
 have a7:(l.length:Int)≤((k:Nat):Int):=by simpa using a0
 obtain rfl:k=l.length:=by omega
 have hno:=hs_no hr0_1
 refine EF (CG (CG (DJ (AB (AG (AD kR (AC (AH (vO false) rfl (AE (AB (AS (AZ rfl (CX rfl rfl rfl) (?_)))))))))))))
 have e:(l.contains n)=false:=by exact hno
 exact ⟨_,rfl,s0.keep,(by exact congrArg vO e.symm)⟩
end Go.Proofs.Ytjpniibleelgiaa
