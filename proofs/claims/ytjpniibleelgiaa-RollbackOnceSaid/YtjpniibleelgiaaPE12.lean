/- What the laws of this part rest on: lemmas, and the walks of the functions. No conditions. -/
import Derived.WalkKit
import Derived.WalkSpells
import Derived.WalkLawsBesides
import Derived.RangeFuncLeaves
import Derived.Maps.AppendAt
import Derived.Deep.AppendLies
import Derived.Deep.Slices
import Derived.OpenShut
import Derived.ProofKit
import Derived.Below
import Derived.ChangeSame
import Derived.Carry
import Derived.RangeFuncRecord
import Derived.Laws.Tables
import Derived.Recover
import Derived.DefersIn
import Derived.Lib.AppendZerosOnto
import Derived.Lib.Overlaps
import Derived.Laws.CopyRow
import Derived.Laws.StructEq
import Derived.ChangeKeysEq
import Derived.OrdersIn
import Derived.Test.YtjpniibleelgiaaRows
import Derived.Test.YtjpniibleelgiaaPE11
set_option linter.unusedSimpArgs false
set_option linter.unusedVariables false
namespace Go.Fw
open Go.RowKit
def EG:Int ⊕ Bool→Value
  | .inl a=>vI a
  | .inr b=>.bool b
def isL:Int ⊕ Bool→Bool
  | .inl _=>true
  | .inr _=>false
def HI (P:Program):Nat→List Field→List Bool→Bool
  | i,f :: fs,k :: ks=>f.name != "_" && Nat.beq f.offset i && P.plainKey f.type && (match P.underlying f.type,k with|some (.int _),true=>true|some .bool,false=>true | _,_=>false) && HI P (i+1) fs ks
  | _,[],[]=>true
  | _,_,_=>false
section
variable {P:Program} {w:World}
theorem LO {d:Nat} {xs ys:Array Value}:∀ (fs:List Field) (ks:List Bool) (as_ bs:List (Int ⊕ Bool)) (i:Nat),HI P i fs ks=true→as_.map isL=ks→bs.map isL=ks→
    (∀ j v,as_[j]? = some v→xs[i+j]? = some (EG v))→(∀ j v,bs[j]? = some v→ys[i+j]? = some (EG v))→(Op.eqFields (d+1) xs ys fs).run P w = .ok (decide (as_=bs)) w
  | [],ks,as_,bs,i,hf,ha,hb,_,_=>by
    cases ks with
    | cons _ _=>simp [HI] at hf
    | nil=>
      have:as_=[]:=by simpa using ha
      have:bs=[]:=by simpa using hb
      subst_vars;simp [Op.eqFields]
  | f :: fs,[],as_,bs,i,hf,_,_,_,_=>by simp [HI] at hf
  | f :: fs,k :: ks,[],_,_,_,ha,_,_,_=>by simp at ha
  | f :: fs,k :: ks,_ :: _,[],_,_,_,hb,_,_=>by simp at hb
  | f :: fs,k :: ks,a :: as_,b :: bs,i,hf,ha,hb,hx,hy=>by
    simp only [HI,Bool.and_eq_true] at hf
    obtain ⟨⟨⟨⟨h1,h2⟩,h3⟩,h4⟩,h5⟩:=hf
    have hn:f.name≠"_":=by simpa using h1
    have ho:=Nat.eq_of_beq_eq_true h2
    simp only [List.map_cons,List.cons.injEq] at ha hb
    have ih:=LO (d:=d) (xs:=xs) (ys:=ys) fs ks as_ bs (i+1) h5 ha.2 hb.2 (fun j v hj=>by have:=hx (j+1) v (by simpa using hj);rwa [show i+(j+1)=i+1+j by omega] at this) (fun j v hj=>by have:=hy (j+1) v (by simpa using hj);rwa [show i+(j+1)=i+1+j by omega] at this)
    have pa:=run_part_plain (w:=w) h3 (hx 0 a rfl)
    have pb:=run_part_plain (w:=w) h3 (hy 0 b rfl)
    rw [Nat.add_zero,← ho] at pa pb
    have e:(Op.equalIn (d+1) f.type (EG a) (EG b)).run P w = .ok (decide (a=b)) w:=by
      cases hu:P.underlying f.type with
      | none=>rw [hu] at h4;cases k <;> simp at h4
      | some D=>
        rw [hu] at h4
        cases k with
        | true=>
          cases D <;> simp at h4
          cases a with
          | inr _=>simp [isL] at ha
          | inl a=>
            cases b with
            | inr _=>simp [isL] at hb
            | inl b=>
              simp only [EG,vI]
              rw [run_equalIn_int w d f.type _ _ a b hu]
              congr 1;rw [Bool.eq_iff_iff];simp
        | false=>
          cases D <;> simp at h4
          cases a with
          | inl _=>simp [isL] at ha
          | inr a=>
            cases b with
            | inl _=>simp [isL] at hb
            | inr b=>
              simp only [EG]
              rw [run_equalIn_bool' w d f.type a b hu]
              congr 1;rw [Bool.eq_iff_iff];simp
    unfold Op.eqFields
    rw [if_pos hn]
    simp only [Sem.run_bind,pa,pb,e,Result.andThen_ok]
    by_cases hab:a=b
    · subst hab;simp [ih]
    · simp [hab]
def IA (P:Program) (t:TypeId) (ks:List Bool):Bool:=
  HI P 0 (P.fieldsOf t).toList ks && !P.stoodInHeld t && !P.eqGuardType P.depth t
theorem GW {d:Nat} {t:TypeId} {ks:List Bool} (as_ bs:List (Int ⊕ Bool)) (ht:P.underlying t=some (.struct (P.fieldsOf t))) (hf:IA P t ks=true) (ha:as_.map isL=ks) (hb:bs.map isL=ks) :
    (Op.equalIn (d+2) t (.agg (as_.map EG).toArray) (.agg (bs.map EG).toArray)).run P w = .ok (decide (as_=bs)) w:=by
  unfold IA at hf
  simp only [Bool.and_eq_true] at hf
  rw [run_equalIn_struct w (d+1) t _ _ ht (by simpa using hf.1.2)]
  exact LO _ ks as_ bs 0 hf.1.1 ha hb (fun j v hj=>by simp [hj]) (fun j v hj=>by simp [hj])
variable {ty yt:TypeId} {F:Fr} {K:Value→World→Prop} {Z:List PanicEntry→World→Prop} {x y:Operand}
theorem o_eqlF {t:TypeId} {ks:List Bool} {r:Bool} (as_ bs:List (Int ⊕ Bool)) (ht:P.underlying t=some (.struct (P.fieldsOf t))) (hf:IA P t ks=true) (ha:as_.map isL=ks) (hb:bs.map isL=ks) (hx:CP F x = .agg (as_.map EG).toArray) (hy:CP F y = .agg (bs.map EG).toArray) (hr:decide (as_=bs)=r) (h:K (.bool r) w):CX P (.binOp .eql t x y yt) ty F w K Z:=by
  have hg:P.eqGuardType P.depth t=false:=by unfold IA at hf;simp only [Bool.and_eq_true] at hf;simpa using hf.2
  subst hr
  refine BM ?_ h
  have e:=GW (P:=P) (w:=w) (d:=9998) as_ bs ht hf ha hb
  simp only [execOp,hx,hy,Sem.run_bind,run_eqGuard_agg w _ t x y _ _ hg,Result.andThen_ok,run_eql_struct,e]
  try rfl
theorem o_neqF {t:TypeId} {ks:List Bool} {r:Bool} (as_ bs:List (Int ⊕ Bool)) (ht:P.underlying t=some (.struct (P.fieldsOf t))) (hf:IA P t ks=true) (ha:as_.map isL=ks) (hb:bs.map isL=ks) (hx:CP F x = .agg (as_.map EG).toArray) (hy:CP F y = .agg (bs.map EG).toArray) (hr:(!decide (as_=bs))=r) (h:K (.bool r) w):CX P (.binOp .neq t x y yt) ty F w K Z:=by
  have hg:P.eqGuardType P.depth t=false:=by unfold IA at hf;simp only [Bool.and_eq_true] at hf;simpa using hf.2
  subst hr
  refine BM ?_ h
  have e:=GW (P:=P) (w:=w) (d:=9998) as_ bs ht hf ha hb
  simp only [execOp,hx,hy,Sem.run_bind,run_eqGuard_agg w _ t x y _ _ hg,Result.andThen_ok,run_neq_struct,e]
  try rfl
structure KeyT (P:Program) (kt:TypeId) {κ:Type} [BEq κ] (enc:κ→Value):Prop where
  same:∀ k:κ,Instr.sameBits 10000 (enc k) (enc k)=true
  check:∀ (k:κ) (b:Bool) (w:World),(Instr.checkKey b 10000 kt (enc k)).run P w = .ok () w
  find:∀ (k:κ) (l:List (κ × Value)) (es:List MapEntry) (w:World),es.map (fun e=>(e.key,e.val))=l.map (fun x=>(enc x.1,x.2))→(Instr.findKey kt (enc k) es).run P w = .ok ((l.findIdx? (fun x=>k == x.1)).bind fun j=>(l[j]?).map fun x=>(j,x.2)) w
theorem LH {kt:TypeId} (hk:P.underlying kt=some (.int .i64)):KeyT P kt (κ:=Int) vI:=
  ⟨fun k=>by simp [Instr.sameBits,vI],fun k b w=>run_checkF hk b,fun k l es w he=>by
    have:=run_findF (P:=P) (w:=w) (kt:=kt) (k:=k) (l:=l) (es:=es.toArray) hk (r:=0) (by simpa using he)
    simpa using this⟩
def JE {κ:Type} [BEq κ] (l:List (κ × Value)) (k:κ):Option Value:=(l.findIdx? (fun x=>k == x.1)).bind fun j=>(l[j]?).map (·.2)
def JC {κ α:Type} [BEq κ] (enc:κ→Value) (venc:α→Value) (w:World) (r:Nat) (M:κ→Option α):Prop:=
  ∃ es c,∃ l:List (κ × Value),Ob w r (.map es c)∧es.toList.map (fun e=>(e.key,e.val))=l.map (fun x=>(enc x.1,x.2))∧∀ k,JE l k=(M k).map venc
section
variable {κ α:Type} [BEq κ] {enc:κ→Value} {venc:α→Value} {r:Nat} {M:κ→Option α}
theorem JC.lt (h:JC enc venc w r M):r<w.heap.size:=let ⟨_,_,_,h,_⟩:=h;h.lt
theorem JC.keep {w':World} {O:List Nat} (h:JC enc venc w r M) (k:Keep O w w') (hb:r∉O):JC enc venc w' r M:=let ⟨es,c,l,h1,h2⟩:=h;⟨es,c,l,h1.keep k hb,h2⟩
variable {w0:World} {O0 B:List Nat} {z:Operand}
def noM {κ α:Type}:κ→Option α:=fun _=>none
def upM {κ α:Type} [BEq κ] (M:κ→Option α) (k:κ) (a:α):κ→Option α:=fun k'=>if k' == k then some a else M k'
theorem MB (enc:κ→Value) (venc:α→Value) {t:TypeId} (s:St w0 O0 w B) (h:∀ r w',r=w.heap.size→St w0 O0 w' (r :: B)→Mv B w (r :: B) w'→Keep [] w w'→JC enc venc w' r noM→K (.map (some r)) w'):CX P (.makeMap t none) ty F w K Z:=by
  refine o_makeMapF s fun r w' e s' m k hm=>h r w' e s' m k ?_
  obtain ⟨es,c,ho,he⟩:=hm
  exact ⟨es,c,[],ho,by simpa using he,fun k=>rfl⟩
theorem o_lookV1 {t kt et:TypeId} {k:κ} {z0:α} (ht:P.underlying t=some (.map kt et)) (hk:KeyT P kt enc) (hz:EN P et=some (venc z0)) (hx:CP F x = .map (some r)) (hy:CP F y=enc k) (hm:JC enc venc w r M) (h:K (venc ((M k).getD z0)) w):CX P (.lookup t x y false) ty F w K Z:=by
  obtain ⟨es,c,l,ho,he,hM⟩:=hm
  have h1:=hk.find k l es.toList w he
  have hMk:=hM k
  unfold JE at hMk
  refine BM ?_ h
  cases hj:l.findIdx? (fun x=>k == x.1) with
  | none=>
    rw [hj] at h1 hMk
    have:M k=none:=by cases hh:M k with|none=>rfl|some a=>rw [hh] at hMk;simp at hMk
    simp [execOp,Instr.lookup,run_underlying ht,hx,hy,FY ho,hk.check,h1,JS hz,this]
  | some j=>
    rw [hj] at h1 hMk
    obtain ⟨hjl,_⟩:=List.findIdx?_eq_some_iff_getElem.1 hj
    have hl:l[j]? = some l[j]:=List.getElem?_eq_getElem hjl
    rw [Option.bind_some,hl,Option.map_some] at h1 hMk
    cases hh:M k with
    | none=>rw [hh] at hMk;simp at hMk
    | some a=>
      rw [hh] at hMk
      simp only [Option.map_some,Option.some.injEq] at hMk
      simp [execOp,Instr.lookup,run_underlying ht,hx,hy,FY ho,hk.check,h1,hMk]
theorem o_lookV2 {t kt et:TypeId} {k:κ} {z0:α} (ht:P.underlying t=some (.map kt et)) (hk:KeyT P kt enc) (hz:EN P et=some (venc z0)) (hx:CP F x = .map (some r)) (hy:CP F y=enc k) (hm:JC enc venc w r M) (h:K (.tuple #[venc ((M k).getD z0), .bool (M k).isSome]) w):CX P (.lookup t x y true) ty F w K Z:=by
  obtain ⟨es,c,l,ho,he,hM⟩:=hm
  have h1:=hk.find k l es.toList w he
  have hMk:=hM k
  unfold JE at hMk
  refine BM ?_ h
  cases hj:l.findIdx? (fun x=>k == x.1) with
  | none=>
    rw [hj] at h1 hMk
    have:M k=none:=by cases hh:M k with|none=>rfl|some a=>rw [hh] at hMk;simp at hMk
    simp [execOp,Instr.lookup,run_underlying ht,hx,hy,FY ho,hk.check,h1,JS hz,this]
  | some j=>
    rw [hj] at h1 hMk
    obtain ⟨hjl,_⟩:=List.findIdx?_eq_some_iff_getElem.1 hj
    have hl:l[j]? = some l[j]:=List.getElem?_eq_getElem hjl
    rw [Option.bind_some,hl,Option.map_some] at h1 hMk
    cases hh:M k with
    | none=>rw [hh] at hMk;simp at hMk
    | some a=>
      rw [hh] at hMk
      simp only [Option.map_some,Option.some.injEq] at hMk
      simp [execOp,Instr.lookup,run_underlying ht,hx,hy,FY ho,hk.check,h1,hMk]
theorem findIdx_set {l:List (κ × Value)} {j:Nat} {q:κ × Value} (hj:j<l.length) (hq:q.1=l[j].1) (k':κ):(l.set j q).findIdx? (fun x=>k' == x.1)=l.findIdx? (fun x=>k' == x.1):=by
  induction l generalizing j with
  | nil=>simp at hj
  | cons a l ih=>
    cases j with
    | zero=>
      simp only [List.getElem_cons_zero] at hq
      rw [List.set_cons_zero,List.findIdx?_cons,List.findIdx?_cons,hq]
    | succ j=>
      simp only [List.length_cons,Nat.add_lt_add_iff_right] at hj
      simp only [List.getElem_cons_succ] at hq
      rw [List.set_cons_succ,List.findIdx?_cons,List.findIdx?_cons,ih hj hq]
variable [LawfulBEq κ]
theorem mfind_push {l:List (κ × Value)} {k:κ} {v:Value} (hn:l.findIdx? (fun x=>k == x.1)=none) (k':κ):JE (l++[(k,v)]) k'=if k' == k then some v else JE l k':=by
  unfold JE
  rw [List.findIdx?_append]
  by_cases e:k' == k
  · have e':k'=k:=by simpa using e
    subst e'
    rw [hn];simp
  · rw [if_neg e]
    cases hf:l.findIdx? (fun x=>k' == x.1) with
    | none=>simp [e]
    | some j=>
      obtain ⟨hjl,_⟩:=List.findIdx?_eq_some_iff_getElem.1 hf
      simp [List.getElem?_append_left hjl]
theorem mfind_set {l:List (κ × Value)} {k:κ} {v:Value} {j:Nat} (hf:l.findIdx? (fun x=>k == x.1)=some j) {q:κ} (hq:∀ h:j<l.length,q=l[j].1) (k':κ):JE (l.set j (q,v)) k'=if k' == k then some v else JE l k':=by
  obtain ⟨hjl,h1,h2⟩:=List.findIdx?_eq_some_iff_getElem.1 hf
  have hk:k=l[j].1:=by simpa using h1
  unfold JE
  rw [findIdx_set hjl (hq hjl)]
  by_cases e:k' == k
  · have e':k'=k:=by simpa using e
    subst e'
    rw [hf,if_pos e];simp [hjl]
  · rw [if_neg e]
    cases hg:l.findIdx? (fun x=>k' == x.1) with
    | none=>rfl
    | some i=>
      have hij:i≠j:=fun hij=>by
        subst hij
        obtain ⟨_,h3,_⟩:=List.findIdx?_eq_some_iff_getElem.1 hg
        have:k'=l[i].1:=by simpa using h3
        exact e (by rw [this,← hk];simp)
      simp [List.getElem?_set,Ne.symm hij]
theorem o_updV {t kt et:TypeId} {k:κ} {a:α} (ht:P.underlying t=some (.map kt et)) (hk:KeyT P kt enc) (hx:CP F x = .map (some r)) (hy:CP F y=enc k) (hv:CP F z=venc a) (hm:JC enc venc w r M) (hr:r∈B) (s:St w0 O0 w B)
    (h:∀ w',St w0 O0 w' B→Mv B w B w'→Keep [r] w w'→JC enc venc w' r (upM M k a)→K undef w'):CX P (.mapUpdate t x y z) ty F w K Z:=by
  obtain ⟨es,c,l,ho,he,hM⟩:=hm
  have h1:=hk.find k l es.toList w he
  cases hj:l.findIdx? (fun x=>k == x.1) with
  | none=>
    rw [hj] at h1
    have h2:Keep [r] w (w.putObj r (.map (es.push { key:=enc k,val:=venc a,born:=c }) (c+1))):=Keep.putObj _ _ _
    refine MF (w':=w.putObj r (.map (es.push { key:=enc k,val:=venc a,born:=c }) (c+1))) ?_ (h _ (s.keepB h2 (by simpa using hr)) (Mv.keepB h2 (by simpa using hr)) h2 ⟨_,_,l++[(k,venc a)],ho.putObj _,by simp [he],fun k'=>?_⟩)
    · simp [execOp,Instr.mapUpdate,run_underlying ht,hx,hy,hv,FY ho,hk.check,h1,MY _ ho]
    · rw [mfind_push hj];unfold upM;split
      · rfl
      · exact hM k'
  | some j=>
    rw [hj] at h1
    obtain ⟨hjl,hj1,_⟩:=List.findIdx?_eq_some_iff_getElem.1 hj
    have hkj:k=l[j].1:=by simpa using hj1
    have hel:es.toList.length=l.length:=by have:=congrArg List.length he;simpa using this
    have hje:j<es.size:=by simpa using (by omega:j<es.toList.length)
    have hkey:es[j].key=enc k∧es[j].val=l[j].2:=by
      have:=congrArg (·[j]?) he
      simp only [List.getElem?_map] at this
      rw [List.getElem?_eq_getElem hjl,List.getElem?_eq_getElem (by omega:j<es.toList.length)] at this
      simp only [Option.map_some,Option.some.injEq,Prod.mk.injEq] at this
      rw [hkj]
      exact ⟨by simpa using this.1,by simpa using this.2⟩
    have hst:(Instr.keyThatStays (enc k) (enc k)).run P w = .ok (enc k) w:=by unfold Instr.keyThatStays;rw [if_pos (hk.same k)];rfl
    rw [Option.bind_some,List.getElem?_eq_getElem hjl,Option.map_some] at h1
    have h2:Keep [r] w (w.putObj r (.map (es.modify j fun e=>{ e with key:=enc k,val:=venc a }) c)):=Keep.putObj _ _ _
    refine MF (w':=w.putObj r (.map (es.modify j fun e=>{ e with key:=enc k,val:=venc a }) c)) ?_ (h _ (s.keepB h2 (by simpa using hr)) (Mv.keepB h2 (by simpa using hr)) h2 ⟨_,_,l.set j (k,venc a),ho.putObj _,?_,fun k'=>?_⟩)
    · simp [execOp,Instr.mapUpdate,run_underlying ht,hx,hy,hv,FY ho,hk.check,h1,MY _ ho,hje,hkey.1,hst]
    · apply List.ext_getElem?
      intro i
      have hi:=congrArg (·[i]?) he
      simp only [List.getElem?_map,Array.getElem?_toList] at hi
      simp only [List.getElem?_map,Array.getElem?_toList,Array.getElem?_modify,List.getElem?_set]
      by_cases hij:j=i
      · subst hij
        simp [hje,hjl]
      · rw [if_neg hij,if_neg hij];exact hi
    · rw [mfind_set hj (q:=k) (fun _=>hkj)];unfold upM;split
      · rfl
      · exact hM k'
theorem IO {n:Nat} {b:Bool} {xs:Array Value}:∀ (fs:List Field) (ks:List Bool) (as_:List (Int ⊕ Bool)) (i:Nat) (w:World),HI P i fs ks=true→as_.map isL=ks→(∀ j v,as_[j]? = some v→xs[i+j]? = some (EG v))→
    (forIn fs PUnit.unit fun f _=>if f.name≠"_" then do { let x ← part f.type xs f.offset;Instr.checkKey b (n+1) f.type x;pure (ForInStep.yield PUnit.unit) } else pure (ForInStep.yield PUnit.unit):Sem PUnit).run P w = .ok PUnit.unit w
  | [],_,_,_,_,_,_,_=>by simp
  | f :: fs,[],_,_,_,hf,_,_=>by simp [HI] at hf
  | f :: fs,k :: ks,[],_,_,_,ha,_=>by simp at ha
  | f :: fs,k :: ks,a :: as_,i,w,hf,ha,hx=>by
    simp only [HI,Bool.and_eq_true] at hf
    obtain ⟨⟨⟨⟨h1,h2⟩,h3⟩,h4⟩,h5⟩:=hf
    have hn:f.name≠"_":=by simpa using h1
    have ho:=Nat.eq_of_beq_eq_true h2
    simp only [List.map_cons,List.cons.injEq] at ha
    have ih:=IO (n:=n) (b:=b) (xs:=xs) fs ks as_ (i+1) w h5 ha.2 (fun j v hj=>by have:=hx (j+1) v (by simpa using hj);rwa [show i+(j+1)=i+1+j by omega] at this)
    have pa:=run_part_plain (w:=w) h3 (hx 0 a rfl)
    rw [Nat.add_zero,← ho] at pa
    have e:(Instr.checkKey b (n+1) f.type (EG a)).run P w = .ok () w:=by
      cases hu:P.underlying f.type with
      | none=>rw [hu] at h4;cases k <;> simp at h4
      | some D=>
        rw [hu] at h4
        rw [Instr.checkKey]
        cases k <;> cases D <;> simp at h4 <;> cases a <;> simp [run_underlying hu,EG,vI]
    rw [List.forIn_cons]
    simp only [hn,ne_eq,not_false_eq_true,if_true,Sem.run_bind,pa,e,Result.andThen_ok,Sem.run_pure]
    exact ih
end
section
variable {κ:Type} [BEq κ] [LawfulBEq κ]
theorem JF {kt:TypeId} {ks:List Bool} (cs:κ→List (Int ⊕ Bool)) (ht:P.underlying kt=some (.struct (P.fieldsOf kt))) (hf:IA P kt ks=true) (hks:∀ k,(cs k).map isL=ks) (hinj:∀ a b,cs a=cs b→a=b) (k:κ):∀ (l:List (κ × Value)) (es:List MapEntry) (i:Nat) (w:World),es.map (fun e=>(e.key,e.val))=l.map (fun x=>(Value.agg ((cs x.1).map EG).toArray,x.2))→
    (Instr.findAsking kt (.agg ((cs k).map EG).toArray) es i).run P w = .ok ((l.findIdx? (fun x=>k == x.1)).bind fun j=>(l[j]?).map fun x=>(i+j,x.2)) w
  | [],[],i,w,_=>rfl
  | [],e :: es,i,w,h=>by simp at h
  | x :: l,[],i,w,h=>by simp at h
  | x :: l,e :: es,i,w,h=>by
    simp only [List.map_cons,List.cons.injEq,Prod.mk.injEq] at h
    obtain ⟨⟨h1,h2⟩,h3⟩:=h
    have he:=GW (P:=P) (w:=w) (d:=9998) (cs k) (cs x.1) ht hf (hks k) (hks x.1)
    unfold Instr.findAsking
    have he':(Op.equal kt (.agg ((cs k).map EG).toArray) e.key).run P w = .ok (decide (cs k=cs x.1)) w:=by rw [h1];exact he
    simp only [Sem.run_bind,he',Result.andThen_ok]
    rw [List.findIdx?_cons]
    by_cases hc:k=x.1
    · have:(k == x.1)=true:=by simp [hc]
      simp [hc,h2]
    · have hc':¬ cs k=cs x.1:=fun e=>hc (hinj _ _ e)
      have:(k == x.1)=false:=by simpa using hc
      rw [this]
      simp only [hc',decide_false,Bool.false_eq_true,if_false]
      rw [JF cs ht hf hks hinj k l es (i+1) w h3]
      cases hf2:l.findIdx? (fun x=>k == x.1) with
      | none=>simp
      | some j=>simp;congr 1;funext y;congr 1;omega
theorem key_flat {kt:TypeId} {ks:List Bool} (cs:κ→List (Int ⊕ Bool)) (ht:P.underlying kt=some (.struct (P.fieldsOf kt))) (hf:IA P kt ks=true) (hks:∀ k,(cs k).map isL=ks) (hinj:∀ a b,cs a=cs b→a=b):KeyT P kt (fun k=>Value.agg ((cs k).map EG).toArray):=by
  refine ⟨fun k=>?_,fun k b w=>?_,fun k l es w he=>?_⟩
  · have:∀ l:List (Int ⊕ Bool),(((l.map EG).toArray.toList.zip (l.map EG).toArray.toList).all fun p=>Instr.sameBits 9999 p.1 p.2)=true:=by
      intro l
      induction l with
      | nil=>rfl
      | cons a l ih=>
        cases a <;> simp [EG,vI,Instr.sameBits] at ih ⊢ <;> exact ih
    rw [show (10000:Nat)=9999+1 from rfl,Instr.sameBits]
    simpa using this (cs k)
  · unfold IA at hf
    simp only [Bool.and_eq_true] at hf
    rw [show (10000:Nat)=9998+1+1 from rfl,Instr.checkKey]
    simp only [Sem.run_bind,run_underlying ht,Result.andThen_ok]
    rw [← Array.forIn_toList]
    rw [IO (xs:=(List.map EG (cs k)).toArray) _ ks (cs k) 0 w hf.1.1 (hks k) (fun j v hj=>by simp [hj])]
    rfl
  · have h:=JF cs ht hf hks hinj k l es 0 w he
    simp only [Nat.zero_add] at h
    unfold Instr.findKey
    simp only [Sem.run_bind,run_underlying ht,Result.andThen_ok]
    cases es with
    | nil=>
      cases l with
      | nil=>simp [Instr.findNow]
      | cons _ _=>simp at he
    | cons e es=>
      cases l with
      | nil=>simp at he
      | cons x l=>
        simp only [List.map_cons,List.cons.injEq,Prod.mk.injEq] at he
        have:Instr.findNow (.struct (P.fieldsOf kt)) (Value.agg ((cs k).map EG).toArray) (e :: es) 0=none:=by
          unfold Instr.findNow
          rw [he.1.1];rfl
        rw [this]
        exact h
end
end
open Go.RowKit
section
variable {P:Program} {n:Nat} {Q:Exit→Fr→World→Prop}
def GU (op:Op) (F:Fr):Option Value:=
  match op with
  | .extract x i=>(match CP F x with | .tuple vs=>vs[i]? | _=>none)
  | .move x=>some (CP F x)
  | .assign x=>some (CP F x)
  | _=>none
def KO (op:Op) (d:Tmp):Bool:=
  match op with
  | .extract (.tmp s) _=>!Nat.beq s d
  | .move (.tmp s)=>!Nat.beq s d
  | .assign (.tmp s)=>!Nat.beq s d
  | .assign (.const _)=>true
  | _=>false
theorem opw_pure {op:Op} {d:Tmp} {ty:TypeId} {F:Fr} {w:World} {K:Value→World→Prop} {Z:List PanicEntry→World→Prop} (hp:KO op d=true) (h:CX P op ty F w K Z):∃ v,GU op F=some v∧K v w:=by
  unfold KO at hp
  split at hp
  · rename_i s i
    unfold CX at h
    have e:CP F (.tmp s)=F s:=rfl
    simp only [execOp,e] at h
    unfold GU
    simp only [e]
    cases hF:F s with
    | tuple vs=>
      rw [hF] at h
      cases hv:vs[i]? with
      | some v=>refine ⟨v,hv,?_⟩;simpa [Instr.extract,hv,EP] using h
      | none=>exfalso;simp [Instr.extract,hv,EP] at h
    | _=>exfalso;rw [hF] at h;simp [Instr.extract,EP] at h
  · unfold CX at h;simp only [execOp] at h;exact ⟨_,rfl,by simpa [EP] using h⟩
  · unfold CX at h;simp only [execOp] at h;exact ⟨_,rfl,by simpa [EP] using h⟩
  · unfold CX at h;simp only [execOp] at h;exact ⟨_,rfl,by simpa [EP] using h⟩
  · cases hp
theorem LB {op:Op} {v:Value} {ty:TypeId} {F:Fr} {w:World} {K:Value→World→Prop} {Z:List PanicEntry→World→Prop} (hv:GU op F=some v) (h:K v w):CX P op ty F w K Z:=by
  unfold GU at hv
  split at hv
  · split at hv
    · rename_i vs e;exact BJ (vs:=vs) v e hv h
    · cases hv
  · exact AH v (Option.some.inj hv) h
  · exact AG v (Option.some.inj hv) h
  · cases hv
def exOk (ops:List Oper) (a b:Nat):Bool:=
  match ops[a]?,ops[b]? with
  | some oa,some ob=>oa.guard.isNone && ob.guard.isNone && (match oa.dst,ob.dst with
    | some da,some db=>!Nat.beq da db && KO oa.op db && KO ob.op da
    | _,_=>false)
  | _,_=>false
theorem nbeq {a b:Nat} (h:(!Nat.beq a b)=true):a≠b:=fun e=>by subst e;simp at h
theorem beq_ne {a b:Nat} (h:a≠b):Nat.beq a b=false:=by
  cases e:Nat.beq a b with
  | false=>rfl
  | true=>exact absurd (Nat.eq_of_beq_eq_true e) h
theorem upd_other {F:Fr} {d t:Nat} {v:Value} (h:t≠d):FF F d v t=F t:=by
  unfold FF;rw [beq_ne h];rfl
theorem upd_swap {F:Fr} {a b:Nat} {v u:Value} (h:a≠b):FF (FF F a v) b u=FF (FF F b u) a v:=by
  funext t
  unfold FF
  cases e1:Nat.beq t a with
  | false=>cases e2:Nat.beq t b <;> rfl
  | true=>
    have h1:=Nat.eq_of_beq_eq_true e1
    subst h1
    rw [beq_ne h];rfl
theorem LE {op:Op} {d:Tmp} {F:Fr} {u:Value} (hp:KO op d=true):GU op (FF F d u)=GU op F:=by
  unfold KO at hp
  unfold GU
  have e:∀ s:Tmp,(!Nat.beq s d)=true→CP (FF F d u) (.tmp s)=CP F (.tmp s):=fun s hs=>upd_other (nbeq hs)
  split at hp
  · simp only [e _ hp]
  · simp only [e _ hp]
  · simp only [e _ hp]
  · rfl
  · cases hp
theorem wl_swap {ops:List Oper} {a b:Nat} {oa ob:Oper} {rest:List Oper} {F:Fr} {w:World} (hx:exOk ops a b=true) (ha:ops[a]? = some oa) (hb:ops[b]? = some ob) (h:WL false P ops Q (oa :: ob :: rest) F w):WL false P ops Q (ob :: oa :: rest) F w:=by
  unfold exOk at hx
  rw [ha,hb] at hx
  obtain ⟨d1,p1,t1,q1,f1,g1⟩:=oa
  obtain ⟨d2,p2,t2,q2,f2,g2⟩:=ob
  simp only [Bool.and_eq_true] at hx
  obtain ⟨⟨h1,h2⟩,h3⟩:=hx
  cases g1 with
  | some _=>simp at h1
  | none=>
  cases g2 with
  | some _=>simp at h2
  | none=>
  cases d1 with
  | none=>simp at h3
  | some da=>
  cases d2 with
  | none=>simp at h3
  | some db=>
    simp only [Bool.and_eq_true] at h3
    obtain ⟨⟨h3,h4⟩,h5⟩:=h3
    have n1:=nbeq h3
    unfold WL at h
    rw [if_pos (by rfl)] at h
    obtain ⟨v,hv,h⟩:=opw_pure h4 (h.resolve_right (fun e=>by cases e.1))
    unfold WL at h
    rw [if_pos (by rfl)] at h
    obtain ⟨x,hxv,h⟩:=opw_pure h5 (h.resolve_right (fun e=>by cases e.1))
    have hxv':GU p2 F=some x:=(LE (F:=F) (u:=v) h5).symm.trans hxv
    unfold WL
    rw [if_pos (by rfl)]
    refine .inl (LB hxv' ?_)
    unfold WL
    rw [if_pos (by rfl)]
    refine .inl (LB (v:=v) ((LE (F:=F) (u:=x) h4).trans hv) ?_)
    have e:FV (FV F (some db) x) (some da) v=FV (FV F (some da) v) (some db) x:=(upd_swap (F:=F) (v:=v) (u:=x) n1).symm
    rw [e];exact h
def HQ (ops:List Oper):Nat→List Nat→Bool
  | _,[]=>true
  | 0,_=>false
  | _+1,[a]=>(GM ops a).all fun j=>!Nat.beq j a
  | f+1,a :: b :: t=>(GM ops a).all (fun j=>!(a :: b :: t).contains j) && t.all (fun x=>CV ops x a) && HQ ops f (b :: t) &&
      (CV ops b a || (exOk ops a b && (GM ops b).all (fun j=>!(a :: b :: t).contains j) && HQ ops f (a :: t)))
theorem run_step {ops:List Oper} (hok:ops.all (KU n ops)=true) {i fuel:Nat} {listed:Array Bool} {F1:Fr} {w1:World} {rest:List Oper} (hil:i<ops.length) (h:WL false P ops Q (ops[i] :: rest) F1 w1)
    (ih:∀ F w,WL false P ops Q rest F w→wpAny P .any ops.toArray (HB n Q) fuel (listed.setIfInBounds i true) (mk n F) w):wpOp P ops.toArray (HB n Q) i (wpAny P .any ops.toArray (HB n Q) fuel (listed.setIfInBounds i true)) (mk n F1) w1:=by
  have ho:ops[i]? = some ops[i]:=List.getElem?_eq_getElem hil
  refine GX (K:=fun F w=>WL false P ops Q rest F w) hok ho ih (fun hw=>?_) (fun hw=>?_)
  · unfold WL at h;rw [if_pos hw] at h;exact h.resolve_right (fun e=>by cases e.1)
  · unfold WL at h;rw [if_neg (by rw [hw];simp)] at h;exact h
theorem GS {ops:List Oper} {i:Nat} {t:List Nat} (hil:i<ops.length):CN ops (i :: t)=ops[i] :: CN ops t:=by
  unfold CN;rw [List.filterMap_cons,List.getElem?_eq_getElem hil]
theorem forced_runC {ops:List Oper} (hok:ops.all (KU n ops)=true) (hin:∀ k,k<ops.length→∀ j∈GM ops k,j<ops.length):∀ (g:Nat) (seq:List Nat) (fuel:Nat) (listed:Array Bool) (F1:Fr) (w1:World),listed.size=ops.length→IP ops listed≤fuel→
    (∀ j,j<ops.length→(listed[j]? = some true↔j∉seq))→(∀ j∈seq,j<ops.length)→seq.Nodup→HQ ops g seq=true→(∀ i,listed[i]? = some true→∀ j∈GM ops i,listed[j]? = some true)→
    WL false P ops Q (CN ops seq) F1 w1→wpAny P .any ops.toArray (HB n Q) fuel listed (mk n F1) w1:=by
  intro g
  induction g with
  | zero=>
    intro seq fuel listed F1 w1 hsz hfu hl hlt hnd hf hdown h
    cases seq with
    | nil=>exact EL hok hin [] fuel listed F1 w1 hsz hfu hl hlt hnd rfl hdown h
    | cons a t=>cases t <;> simp [HQ] at hf
  | succ g ihg=>
    intro seq fuel listed F1 w1 hsz hfu hl hlt hnd hf hdown h
    match seq,hl,hlt,hnd,hf,h with
    | [],hl,hlt,hnd,hf,h=>exact EL hok hin [] fuel listed F1 w1 hsz hfu hl hlt hnd rfl hdown h
    | [a],hl,hlt,hnd,hf,h=>
      refine EL hok hin [a] fuel listed F1 w1 hsz hfu hl hlt hnd ?_ hdown h
      unfold HQ at hf
      unfold HO HO
      simp only [List.all_nil,Bool.true_and,Bool.and_true]
      refine List.all_eq_true.2 fun j hj=>?_
      have:=nbeq (List.all_eq_true.1 hf j hj)
      simpa using this
    | a :: b :: t,hl,hlt,hnd,hf,h=>
      unfold HQ at hf
      simp only [Bool.and_eq_true] at hf
      obtain ⟨⟨⟨f1,f2⟩,f3⟩,f4⟩:=hf
      have ha:a<ops.length:=hlt a (by simp)
      have hb:b<ops.length:=hlt b (by simp)
      obtain ⟨hat,hnd'⟩:=List.nodup_cons.1 hnd
      obtain ⟨hbt,hnd''⟩:=List.nodup_cons.1 hnd'
      have hunl:∀ q,q<ops.length→q∈a :: b :: t→listed[q]? = some false:=fun q hq hm=>by
        have h1:¬ listed[q]? = some true:=fun e=>((hl q hq).1 e) hm
        have:q<listed.size:=by omega
        rw [Array.getElem?_eq_getElem this] at h1 ⊢
        simpa using h1
      have han:=hunl a ha (by simp)
      have hbn:=hunl b hb (by simp)
      have hula:=GE ha hsz han
      have hulb:=GE hb hsz hbn
      obtain ⟨fuel,rfl⟩:∃ f,fuel=f+1:=⟨fuel - 1,by omega⟩
      have haq:∀ j∈GM ops a,listed[j]? = some true:=fun j hj=>by
        have h1:=List.all_eq_true.1 f1 j hj
        exact (hl j (hin a ha j hj)).2 (by simpa using h1)
      have hset:∀ i,i<ops.length→∀ j,(listed.setIfInBounds i true)[j]? = some true↔j=i∨listed[j]? = some true:=fun i hi j=>by
        rw [Array.getElem?_setIfInBounds]
        by_cases hji:i=j
        · subst hji;simp;omega
        · rw [if_neg hji];exact ⟨fun h=>.inr h,fun h=>h.resolve_left (fun e=>hji e.symm)⟩
      refine ⟨fun h0=>?_,fun i hi=>?_⟩
      · have:=ready_of' hsz ha han haq
        rw [h0] at this;cases this
      · obtain ⟨hnl,hil⟩:=GV hi hsz
        have hmem:i∈a :: b :: t:=Classical.byContradiction fun hc=>by have:=(hl i hil).2 hc;rw [hnl] at this;cases this
        have hready:=FE (List.getElem?_eq_getElem hil) hi hsz (hin i hil)
        have hwait:∀ q,CV ops i q=true→listed[q]? = some true:=fun q hq=>by
          unfold CV at hq
          exact EY (D:=fun j=>listed[j]? = some true) hdown _ _ hready q (by simpa using hq)
        rcases List.mem_cons.1 hmem with rfl|hmem
        · rw [GS ha] at h
          refine run_step hok ha h fun F w hK=>ihg (b :: t) fuel _ F w (by simpa using hsz) (by omega) (fun j hj=>?_) (fun j hj=>hlt j (List.mem_cons_of_mem _ hj)) hnd' f3 (fun j hj x hx=>?_) hK
          · rw [hset i ha j,hl j hj]
            constructor
            · rintro (rfl|h1)
              · exact hat
              · exact fun h2=>h1 (List.mem_cons_of_mem _ h2)
            · intro h1
              by_cases hji:j=i
              · exact .inl hji
              · exact .inr fun h2=>by rcases List.mem_cons.1 h2 with h3|h3;exact hji h3;exact h1 h3
          · rw [hset i ha x]
            rcases (hset i ha j).1 hj with h1|h1
            · subst h1;exact .inr (haq x hx)
            · exact .inr (hdown j h1 x hx)
        · rcases List.mem_cons.1 hmem with rfl|hmem
          · -- the second comes first
            simp only [Bool.or_eq_true,Bool.and_eq_true] at f4
            rcases f4 with f4|⟨⟨f4,f5⟩,f6⟩
            · have:=hwait a f4;rw [han] at this;cases this
            · rw [GS ha,GS hb] at h
              have h':=wl_swap f4 (List.getElem?_eq_getElem ha) (List.getElem?_eq_getElem hb) h
              rw [← GS (t:=t) ha] at h'
              refine run_step hok hb h' fun F w hK=>ihg (a :: t) fuel _ F w (by simpa using hsz) (by omega) (fun j hj=>?_) (fun j hj=>hlt j (by rcases List.mem_cons.1 hj with h1|h1;exact h1 ▸ List.mem_cons_self;exact List.mem_cons_of_mem _ (List.mem_cons_of_mem _ h1))) (List.nodup_cons.2 ⟨fun h2=>hat (List.mem_cons_of_mem _ h2),hnd''⟩) f6 (fun j hj x hx=>?_) hK
              · rw [hset i hb j,hl j hj]
                constructor
                · rintro (rfl|h1)
                  · intro h2
                    rcases List.mem_cons.1 h2 with h3|h3
                    · exact hat (h3 ▸ List.mem_cons_self)
                    · exact hbt h3
                  · intro h2
                    apply h1
                    rcases List.mem_cons.1 h2 with h3|h3
                    · rw [h3];exact List.mem_cons_self
                    · exact List.mem_cons_of_mem _ (List.mem_cons_of_mem _ h3)
                · intro h1
                  by_cases hji:j=i
                  · exact .inl hji
                  · refine .inr fun h2=>?_
                    rcases List.mem_cons.1 h2 with h3|h3
                    · exact h1 (h3 ▸ List.mem_cons_self)
                    · rcases List.mem_cons.1 h3 with h4|h4
                      · exact hji h4
                      · exact h1 (List.mem_cons_of_mem _ h4)
              · rw [hset i hb x]
                rcases (hset i hb j).1 hj with h1|h1
                · subst h1
                  have h5:=List.all_eq_true.1 f5 x hx
                  exact .inr ((hl x (hin j hb x hx)).2 (by simpa using h5))
                · exact .inr (hdown j h1 x hx)
          · have:=hwait a (List.all_eq_true.1 f2 i hmem)
            rw [han] at this;cases this
def drawOkC (ops:List Oper) (m:Nat):Bool:=
  (List.range m).all (fun i=>(List.range m).all fun j=>Nat.beq i j || (match (ops[i]?).bind (·.dst),(ops[j]?).bind (·.dst) with|some a,some b=>!Nat.beq a b | _,_=>true)) &&
  ((List.range ops.length).drop m).all (fun k=>(List.range m).all fun j=>CV ops k j) &&
  (List.range ops.length).all (fun k=>(GM ops k).all fun j=>Nat.blt j k) && Nat.ble m ops.length && HQ ops ops.length ((List.range ops.length).drop m)
end
open Go.RowKit
section
variable {P:Program} {n:Nat} {Q:Exit→Fr→World→Prop}
theorem execOp_agree {ρ σ:Operand→Value} (o:Oper) (h2:(match o.op with | .select ..=>false | _=>true)=true) (key:∀ x∈o.op.operands.toList,ρ x=σ x):execOp ρ o=execOp σ o:=by
  have keyA:∀ (xs:Array Operand),(∀ x∈xs.toList,x∈o.op.operands.toList)→xs.map ρ=xs.map σ:=fun xs hx=>
    Array.map_congr_left fun x hm=>key x (hx x (by simpa using hm))
  have keyO:∀ (x:Option Operand),(∀ y,x=some y→y∈o.op.operands.toList)→x.map ρ=x.map σ:=fun x hx=>by
    cases x with
    | none=>rfl
    | some y=>simp [key y (hx y rfl)]
  obtain ⟨d,op,ty,pos,after,g⟩:=o
  simp only at key keyA keyO
  have call:∀ (c:Call),c.operands=op.operands→(∀ t,resolve ρ c t=resolve σ c t):=fun c hc t=>by
    obtain ⟨callee,args,ats⟩:=c
    have ha:args.map ρ=args.map σ:=keyA args (fun x hx=>by rw [← hc];simp [Call.operands];exact .inr (by simpa using hx))
    unfold resolve
    simp only [ha]
    cases callee with
    | value f=>simp only [key f (by rw [← hc];simp [Call.operands])]
    | invoke r m=>simp only [key r (by rw [← hc];simp [Call.operands])]
    | builtin b=>rfl
  cases op with
  | select cs b=>simp at h2
  | build t ps=>
    simp only [execOp]
    have:ps.map (fun p=>(p.1,ρ p.2))=ps.map (fun p=>(p.1,σ p.2)):=Array.map_congr_left fun p hp=>by rw [key p.2 (by have hp:p∈ps.toList:=(by simpa using hp);simp only [Op.operands,List.mem_map];exact ⟨p,hp,rfl⟩)]
    rw [this]
  | buildSlice t len ps=>
    simp only [execOp]
    have:ps.map (fun p=>(p.1,ρ p.2))=ps.map (fun p=>(p.1,σ p.2)):=Array.map_congr_left fun p hp=>by rw [key p.2 (by have hp:p∈ps.toList:=(by simpa using hp);simp only [Op.operands,List.mem_map];exact ⟨p,hp,rfl⟩)]
    rw [this]
  | call c=>simp only [execOp,call c rfl]
  | go c=>simp only [execOp,call c rfl]
  | defer c=>simp only [execOp,call c rfl]
  | makeFunc fn first captured=>
    simp only [execOp]
    rw [keyA first (fun x hx=>by simp [Op.operands];exact .inl (by simpa using hx)),keyA captured (fun x hx=>by simp [Op.operands];exact .inr (by simpa using hx))]
  | makeMap t r=>
    simp only [execOp]
    rw [keyO r (fun y hy=>by subst hy;simp [Op.operands])]
  | slice t x lo hi mx=>
    simp only [execOp]
    rw [key x (by simp [Op.operands]),keyO lo (fun y hy=>by subst hy;simp [Op.operands]),keyO hi (fun y hy=>by subst hy;simp [Op.operands]),keyO mx (fun y hy=>by subst hy;simp [Op.operands])]
  | alloc t=>rfl
  | ready g=>rfl
  | waits g=>rfl
  | move x|assign x|box _ x|load _ x|nilCheck x|unOp _ _ x|convert _ _ x|sliceToArrayPointer _ x|makeInterface _ x|makeChan _ x|fieldAddr _ x _|field _ x _|range _ x|next x _|entry x|typeAssert x _ _ _|extract x _|panic x|recv _ x _=>
    simp only [execOp,key x (by simp [Op.operands])]
  | pick c a b=>simp only [execOp,key c (by simp [Op.operands]),key a (by simp [Op.operands]),key b (by simp [Op.operands])]
  | store _ a v|binOp _ _ a v _|makeSlice _ a v|indexAddr _ a v|index _ a v|lookup _ a v _|mapEntry _ a v|send a v=>
    simp only [execOp,key a (by simp [Op.operands]),key v (by simp [Op.operands])]
  | mapUpdate _ m k v|entryStore _ m k v|insert _ m k v=>
    simp only [execOp,key m (by simp [Op.operands]),key k (by simp [Op.operands]),key v (by simp [Op.operands])]
end
open Go.RowKit
def vOp (op:Op):Bool:=
  match op with
  | .move _ | .assign _ | .pick .. | .load .. | .binOp .. | .unOp .. | .convert .. | .slice .. | .fieldAddr .. | .field .. | .indexAddr .. | .index .. | .extract ..=>true
  | .call c=>(match c.callee with | .builtin .len=>true | _=>false)
  | _=>false
theorem vOp_val {P:Program} {o:Oper} (h:vOp o.op=true) {ρ:Operand→Value} {w w':World} {r:Next} (e:(execOp ρ o).run P w = .ok r w'):∃ v,r = .value v:=by
  have key:∀ (s:Sem Value),(do pure (Next.value (← s)):Sem Next).run P w = .ok r w'→∃ v,r = .value v:=fun s e=>by
    simp only [Sem.run_bind] at e
    cases hs:s.run P w with
    | ok x w2=>rw [hs] at e;simp only [Result.andThen_ok,Sem.run_pure] at e;cases e;exact ⟨_,rfl⟩
    | halt x w2=>rw [hs] at e;cases e
  obtain ⟨d,op,ty,pos,af,g⟩:=o
  have h:vOp op=true:=h
  cases op with
  | move x=>simp only [execOp,Sem.run_pure] at e;cases e;exact ⟨_,rfl⟩
  | assign x=>simp only [execOp,Sem.run_pure] at e;cases e;exact ⟨_,rfl⟩
  | pick c a b=>
    refine key (do pure (if ← asBool (ρ c) then ρ a else ρ b)) ?_
    rw [← e]
    simp only [execOp,Sem.run_bind]
    cases (asBool (ρ c)).run P w <;> rfl
  | call c=>
    unfold vOp at h
    simp only at h
    split at h
    · rename_i hc
      simp only [execOp,resolve,invoke,hc,Sem.run_bind,Sem.run_pure,Result.andThen_ok,builtin] at e
      exact key (Builtin.len_ c.argTypes ty (Array.map ρ c.args)) (by simp only [Sem.run_bind,Sem.run_pure];exact e)
    · cases h
  | _=>first|exact key _ e|(exfalso;simp [vOp] at h)
def WP (P:Program) (ops:List Oper) (w0:World) (R:Fr→Prop):List Oper→Fr→World→Prop
  | [],F,w=>w=w0∧R F
  | o :: rest,F,w=>w=w0∧if Region.wanted o (CC ops F)=true then CX P o.op o.type F w (fun v w'=>WP P ops w0 R rest (FV F o.dst v) w') (fun _ _=>False) else WP P ops w0 R rest (FV F o.dst undef) w
section
variable {P:Program} {ops rest:List Oper} {w0:World} {R:Fr→Prop} {F:Fr} {d:Tmp} {op:Op} {ty:TypeId} {pos:String} {af:Array Edge} {j:Nat} {b:Bool}
theorem GA (h:R F):WP P ops w0 R [] F w0:=⟨rfl,h⟩
theorem CI (h:CX P op ty F w0 (fun v w'=>WP P ops w0 R rest (FF F d v) w') (fun _ _=>False)):WP P ops w0 R (⟨some d,op,ty,pos,af,none⟩ :: rest) F w0:=by
  unfold WP;refine ⟨rfl,?_⟩;rw [if_pos (show Region.wanted _ _=true from rfl)];exact h
theorem DC (hy:CC ops F j=some b) (h:CX P op ty F w0 (fun v w'=>WP P ops w0 R rest (FF F d v) w') (fun _ _=>False)):WP P ops w0 R (⟨some d,op,ty,pos,af,some (j,b)⟩ :: rest) F w0:=by
  unfold WP;refine ⟨rfl,?_⟩;rw [if_pos (by simp [Region.wanted,hy])];exact h
theorem EC (hy:CC ops F j=some (!b)) (h:WP P ops w0 R rest (FF F d undef) w0):WP P ops w0 R (⟨some d,op,ty,pos,af,some (j,b)⟩ :: rest) F w0:=by
  unfold WP;refine ⟨rfl,?_⟩;rw [if_neg (by cases b <;> simp [Region.wanted,hy])];exact h
end
def outP (P:Program) (ops:List Oper) (w0:World) (o:Oper) (F:Fr) (v:Value):Prop:=
  (Region.wanted o (CC ops F)=true∧(execOp (CP F) ⟨none,o.op,o.type,"",#[],none⟩).run P w0 = .ok (.value v) w0)∨(Region.wanted o (CC ops F)=false∧v=undef)
def RunP (P:Program) (ops:List Oper) (w0:World):List Oper→Fr→Fr→Prop
  | [],F,Fe=>Fe=F
  | o :: rest,F,Fe=>∃ v,outP P ops w0 o F v∧RunP P ops w0 rest (FV F o.dst v) Fe
theorem WP.world {P:Program} {ops l:List Oper} {w0 w:World} {R:Fr→Prop} {F:Fr} (h:WP P ops w0 R l F w):w=w0:=by
  cases l with
  | nil=>exact h.1
  | cons=>exact h.1
theorem WP.run {P:Program} {ops:List Oper} {w0:World} {R:Fr→Prop}:∀ (l:List Oper) (F:Fr),l.all (fun o=>vOp o.op)=true→WP P ops w0 R l F w0→∃ Fe,RunP P ops w0 l F Fe∧R Fe
  | [],F,_,h=>⟨F,rfl,h.2⟩
  | o :: rest,F,hv,h=>by
    simp only [List.all_cons,Bool.and_eq_true] at hv
    have h:=h.2
    by_cases hw:Region.wanted o (CC ops F)=true
    · rw [if_pos hw] at h
      unfold CX at h
      cases hr:(execOp (CP F) ⟨none,o.op,o.type,"",#[],none⟩).run P w0 with
      | ok r w'=>
        obtain ⟨v,rfl⟩:=vOp_val (o:=⟨none,o.op,o.type,"",#[],none⟩) hv.1 hr
        rw [hr] at h
        have h:WP P ops w0 R rest (FV F o.dst v) w':=h
        have e:=h.world
        subst e
        obtain ⟨Fe,h1,h2⟩:=WP.run rest _ hv.2 h
        exact ⟨Fe,⟨v, .inl ⟨hw,hr⟩,h1⟩,h2⟩
      | halt x w'=>
        rw [hr] at h
        cases x <;> exact h.elim
    · rw [if_neg hw] at h
      obtain ⟨Fe,h1,h2⟩:=WP.run rest _ hv.2 h
      exact ⟨Fe,⟨undef, .inr ⟨by simpa using hw,rfl⟩,h1⟩,h2⟩
theorem run_at {P:Program} {ops:List Oper} {w0:World}:∀ (l:List Oper) (F Fe:Fr),RunP P ops w0 l F Fe→l.Pairwise (fun a b=>a.dst≠b.dst)→(∀ o∈l,o.dst≠none)→
    (∀ t,(∀ o∈l,o.dst≠some t)→Fe t=F t)∧∀ i (hi:i<l.length),∃ Fi,(∀ t,(∀ j (hj:j<l.length),j<i→l[j].dst≠some t)→Fi t=F t)∧(∀ t j (hj:j<l.length),j<i→l[j].dst=some t→Fi t=Fe t)∧∃ v,outP P ops w0 l[i] Fi v∧∀ d,l[i].dst=some d→Fe d=v
  | [],F,Fe,h,_,_=>⟨fun t _=>by rw [show Fe=F from h],fun i hi=>absurd hi (by simp)⟩
  | o :: rest,F,Fe,⟨v,hv,h⟩,hp,hn=>by
    obtain ⟨hp1,hp2⟩:=List.pairwise_cons.1 hp
    obtain ⟨a1,a2⟩:=run_at rest _ Fe h hp2 (fun x hx=>hn x (List.mem_cons_of_mem _ hx))
    cases hd:o.dst with
    | none=>exact absurd hd (hn o List.mem_cons_self)
    | some d=>
      rw [hd] at h a1 a2
      have hFd:Fe d=v:=by
        rw [a1 d (fun x hx e=>hp1 x hx (by rw [hd,e]))]
        show FF F d v d=v
        exact FA _ _ _
      refine ⟨fun t ht=>?_,fun i hi=>?_⟩
      · have hne:t≠d:=fun e=>ht o List.mem_cons_self (by rw [hd,e])
        rw [a1 t (fun x hx=>ht x (List.mem_cons_of_mem _ hx))]
        show FF F d v t=F t
        exact FB _ _ _ hne
      · cases i with
        | zero=>exact ⟨F,fun t _=>rfl,fun t j _ hj=>absurd hj (by omega),v,hv,fun d' hd'=>by rw [show o.dst=some d' from hd'] at hd;cases hd;exact hFd⟩
        | succ i=>
          obtain ⟨Fi,b1,b2,b3⟩:=a2 i (by simpa using hi)
          refine ⟨Fi,fun t ht=>?_,fun t j hj hji hjt=>?_,b3⟩
          · have hne:t≠d:=fun e=>ht 0 (by simp) (by omega) (by rw [e];exact hd)
            rw [b1 t (fun j hj hji=>ht (j+1) (by simp;omega) (by omega))]
            show FF F d v t=F t
            exact FB _ _ _ hne
          · cases j with
            | zero=>
              have hdt:some d=some t:=by rw [← hd];exact hjt
              cases hdt
              rw [b1 d (fun j hj hji e=>hp1 _ (List.getElem_mem hj) (by rw [hd,e])),hFd]
              show FF F d v d=v
              exact FA _ _ _
            | succ j=>exact b2 t j (by simpa using hj) (by omega) hjt
def NO (ops:List Oper) (o:Oper):List Nat:=
  o.op.operands.toList.filterMap (fun x=>match x with | .tmp t=>some t | _=>none)++(match o.guard with|some (g,_)=>((ops[g]?).bind (·.dst)).toList|none=>[])
def KQ (ops:List Oper) (m:Nat):Bool:=
  (ops.take m).all (fun o=>vOp o.op && o.dst.isSome) &&
  (List.range m).all fun i=>match ops[i]? with
    | some o=>(NO ops o).all fun t=>(List.range m).all fun j=>match (ops[j]?).bind (·.dst) with
      | some d=>!Nat.beq d t || ((GM ops i).contains j && Nat.blt j i)
      | none=>true
    | none=>true
section
variable {P:Program} {n:Nat} {Q:Exit→Fr→World→Prop}
theorem pure_dep {ops:List Oper} {m:Nat} (h:KQ ops m=true) {i:Nat} (hi:i<m) {o:Oper} (ho:ops[i]? = some o) {t:Nat} (ht:t∈NO ops o) {j:Nat} (hj:j<m) {oj:Oper} (hoj:ops[j]? = some oj) (hd:oj.dst=some t):j∈GM ops i∧j<i:=by
  unfold KQ at h
  simp only [Bool.and_eq_true] at h
  have h1:=List.all_eq_true.1 h.2 i (by simpa using hi)
  rw [ho] at h1
  have h2:=List.all_eq_true.1 (List.all_eq_true.1 h1 t ht) j (by simpa using hj)
  rw [hoj] at h2
  simp only [Option.bind_some,hd,Bool.or_eq_true,Bool.and_eq_true] at h2
  rcases h2 with h2|⟨h2,h3⟩
  · exact absurd rfl (nbeq h2)
  · exact ⟨by simpa using h2,blt h3⟩
theorem out_agree {ops:List Oper} {w0:World} {o:Oper} {F F':Fr} {v:Value} (hv:vOp o.op=true) (h:outP P ops w0 o F v) (hl:∀ t∈NO ops o,F' t=F t):outP P ops w0 o F' v:=by
  have hw:Region.wanted o (CC ops F')=Region.wanted o (CC ops F):=by
    unfold Region.wanted
    cases hg:o.guard with
    | none=>rfl
    | some p=>
      obtain ⟨g,b⟩:=p
      simp only
      have:CC ops F' g=CC ops F g:=by
        unfold CC
        cases hd:(ops[g]?).bind (·.dst) with
        | none=>rfl
        | some d=>simp only;rw [hl d (by unfold NO;rw [hg];simp only [hd];simp)]
      rw [this]
  have he:execOp (CP F') ⟨none,o.op,o.type,"",#[],none⟩ = execOp (CP F) ⟨none,o.op,o.type,"",#[],none⟩:=by
    refine execOp_agree _ (by revert hv;unfold vOp;cases o.op <;> intro hv <;> first|rfl|cases hv) fun x hx=>?_
    cases x with
    | tmp t=>exact hl t (by unfold NO;exact List.mem_append_left _ (List.mem_filterMap.2 ⟨.tmp t,hx,rfl⟩))
    | _=>rfl
  unfold outP at h ⊢
  rw [hw,he];exact h
structure PuInv (ops:List Oper) (m:Nat) (F Fe:Fr) (w0:World) (listed:Array Bool) (F1:Fr) (w1:World):Prop where
  world:w1=w0
  down:∀ i,listed[i]? = some true→∀ j∈GM ops i,listed[j]? = some true
  fact:∀ (j:Nat) (oj:Oper) (d:Tmp),j<m→listed[j]? = some true→ops[j]? = some oj→oj.dst=some d→F1 d=Fe d
  free:∀ t,(∀ (j:Nat) (oj:Oper),j<m→listed[j]? = some true→ops[j]? = some oj→oj.dst≠some t)→F1 t=F t
theorem draw_runP {ops:List Oper} {m:Nat} {F Fe:Fr} {w0:World} (hd:drawOkC ops m=true) (hok:ops.all (KU n ops)=true) (hp:KQ ops m=true) (hr:RunP P ops w0 (ops.take m) F Fe)
    (fin:WL false P ops Q (CN ops ((List.range ops.length).drop m)) Fe w0) :
    ∀ (fuel:Nat) (listed:Array Bool) (F1:Fr) (w1:World),listed.size=ops.length→IP ops listed≤fuel→(∀ j,m≤j→listed[j]?≠some true)→PuInv ops m F Fe w0 listed F1 w1→wpAny P .any ops.toArray (HB n Q) fuel listed (mk n F1) w1:=by
  unfold drawOkC at hd
  simp only [Bool.and_eq_true] at hd
  obtain ⟨⟨⟨⟨d1,d3⟩,d4⟩,d5⟩,d8⟩:=hd
  have hml:m≤ops.length:=Nat.le_of_ble_eq_true d5
  have hback:∀ k,k<ops.length→∀ j∈GM ops k,j<k:=fun k hk j hj=>blt (List.all_eq_true.1 (List.all_eq_true.1 d4 k (by simpa using hk)) j hj)
  have hin:∀ k,k<ops.length→∀ j∈GM ops k,j<ops.length:=fun k hk j hj=>Nat.lt_trans (hback k hk j hj) hk
  have htl:∀ j,j∈(List.range ops.length).drop m↔m≤j∧j<ops.length:=fun j=>by
    rw [List.mem_iff_getElem?]
    simp only [List.getElem?_drop]
    constructor
    · rintro ⟨i,hi⟩
      have:=(List.getElem?_eq_some_iff.1 hi)
      obtain ⟨h1,h2⟩:=this
      simp at h1 h2;omega
    · rintro ⟨h1,h2⟩
      exact ⟨j - m,by rw [List.getElem?_eq_getElem (by simp;omega)];simp;omega⟩
  have hdist:∀ i j oi oj,i<m→j<m→i≠j→ops[i]? = some oi→ops[j]? = some oj→oi.dst≠none→oi.dst≠oj.dst:=by
    intro i j oi oj hi hj hij hoi hoj hne
    have:=List.all_eq_true.1 (List.all_eq_true.1 d1 i (by simpa using hi)) j (by simpa using hj)
    simp only [Bool.or_eq_true] at this
    rcases this with h5|h5
    · exact absurd (Nat.eq_of_beq_eq_true h5) hij
    · rw [hoi,hoj] at h5
      intro e
      cases hd:oi.dst with
      | none=>exact hne hd
      | some d=>
        rw [hd] at e
        simp only [Option.bind_some,hd,← e] at h5
        simp at h5
  have hndt:((List.range ops.length).drop m).Nodup:=List.Nodup.sublist (List.drop_sublist _ _) List.nodup_range
  have hm:=hml
  have hall0:∀ o∈ops.take m,vOp o.op=true∧o.dst≠none:=fun o ho=>by
    unfold KQ at hp
    simp only [Bool.and_eq_true] at hp
    have:=List.all_eq_true.1 hp.1 o ho
    simp only [Bool.and_eq_true] at this
    exact ⟨this.1,fun e=>by rw [e] at this;simp at this⟩
  have hlen:(ops.take m).length=m:=by rw [List.length_take];omega
  have hget:∀ j (hj:j<m),(ops.take m)[j]'(by omega)=ops[j]'(by omega):=fun j hj=>List.getElem_take
  have hpw:(ops.take m).Pairwise (fun a b=>a.dst≠b.dst):=by
    rw [List.pairwise_iff_getElem]
    intro i j hi hj hij
    rw [hlen] at hi hj
    rw [hget i hi,hget j hj]
    exact hdist i j _ _ hi hj (by omega) (List.getElem?_eq_getElem (by omega)) (List.getElem?_eq_getElem (by omega)) (by have:=(hall0 _ (List.getElem_mem (l:=ops.take m) (n:=i) (by omega))).2;rw [hget i hi] at this;exact this)
  obtain ⟨r1,r2⟩:=run_at (ops.take m) F Fe hr hpw (fun o ho=>(hall0 o ho).2)
  have hend:∀ (listed:Array Bool) (F1:Fr) (w1:World),PuInv ops m F Fe w0 listed F1 w1→(∀ j,j<m→listed[j]? = some true)→F1=Fe:=fun listed F1 w1 hi hall=>by
    funext t
    by_cases c:∃ (j:Nat) (hj:j<m),(ops[j]'(by omega)).dst=some t
    · obtain ⟨j,hj,he⟩:=c
      exact hi.fact j _ t hj (hall j hj) (List.getElem?_eq_getElem (by omega)) he
    · rw [hi.free t (fun j oj hj _ hoj e=>c ⟨j,hj,by rw [List.getElem?_eq_getElem (by omega)] at hoj;cases hoj;exact e⟩)]
      refine (r1 t fun o ho e=>?_).symm
      obtain ⟨j,hj,rfl⟩:=List.getElem_of_mem ho
      rw [hlen] at hj
      exact c ⟨j,hj,by rw [← hget j hj];exact e⟩
  intro fuel
  have toTail:∀ (fuel:Nat) (listed:Array Bool) (F1:Fr) (w1:World),listed.size=ops.length→IP ops listed≤fuel→(∀ j,m≤j→listed[j]?≠some true)→PuInv ops m F Fe w0 listed F1 w1→(∀ j,j<m→listed[j]? = some true)→wpAny P .any ops.toArray (HB n Q) fuel listed (mk n F1) w1:=by
    intro fuel listed F1 w1 hsz hfu hno hi hall
    have e1:=hend listed F1 w1 hi hall
    have e2:=hi.world
    have hdn:=hi.down
    clear hi
    subst e1;subst e2
    refine forced_runC hok hin ops.length _ fuel listed F1 w1 hsz hfu (fun j hj=>⟨fun h hm'=>hno j ((htl j).1 hm').1 h,fun h=>hall j ?_⟩) (fun j hj=>((htl j).1 hj).2) hndt d8 hdn fin
    rcases Nat.lt_or_ge j m with h1|h1
    · exact h1
    · exact absurd ((htl j).2 ⟨h1,hj⟩) h
  induction fuel with
  | zero=>
    intro listed F1 w1 hsz hfu hno hi
    refine toTail 0 listed F1 w1 hsz hfu hno hi (fun j hj=>?_)
    have h0:IP ops listed=0:=by omega
    unfold IP at h0
    have:=List.countP_eq_zero.1 h0 j (by simp;omega)
    simpa using this
  | succ fuel ih=>
    intro listed F1 w1 hsz hfu hno hi
    by_cases hall:∀ j,j<m→listed[j]? = some true
    · exact toTail (fuel+1) listed F1 w1 hsz hfu hno hi hall
    · have hex:∃ j,j<m∧listed[j]?≠some true:=by
        refine Classical.byContradiction fun hc=>hall fun j hj=>Classical.byContradiction fun hn=>hc ⟨j,hj,hn⟩
      have hmin:∀ q j,q=j→j<m→listed[j]?≠some true→∃ k,k<m∧listed[k]?≠some true∧∀ i,i<k→listed[i]? = some true:=by
        intro q
        induction q using Nat.strongRecOn with
        | _ q ihq=>
          intro j hqj hj hn
          by_cases hb:∀ i,i<j→listed[i]? = some true
          · exact ⟨j,hj,hn,hb⟩
          · have:∃ i,i<j∧listed[i]?≠some true:=Classical.byContradiction fun hc=>hb fun i hi=>Classical.byContradiction fun hn=>hc ⟨i,hi,hn⟩
            obtain ⟨i,hij,hni⟩:=this
            exact ihq i (by omega) i rfl (by omega) hni
      obtain ⟨j0,hj0,hn0⟩:=hex
      obtain ⟨k,hkm,hkn,hkb⟩:=hmin j0 j0 rfl hj0 hn0
      have hkf:listed[k]? = some false:=by
        have:k<listed.size:=by omega
        rw [Array.getElem?_eq_getElem this] at hkn ⊢
        simpa using hkn
      refine ⟨fun h0=>?_,fun i hir=>?_⟩
      · have:=ready_of' hsz (by omega) hkf (fun j hj=>hkb j (hback k (by omega) j hj))
        rw [h0] at this;cases this
      · obtain ⟨hnl,hil⟩:=GV hir hsz
        have ho:ops[i]? = some ops[i]:=List.getElem?_eq_getElem hil
        have haft:=FE ho hir hsz (hin i hil)
        have hclose:∀ j,CV ops i j=true→listed[j]? = some true:=fun j hj=>by
          unfold CV at hj
          exact EY (D:=fun j=>listed[j]? = some true) hi.down _ _ haft j (by simpa using hj)
        have him:i<m:=by
          rcases Nat.lt_or_ge i m with h1|hge
          · exact h1
          · have h1:=hclose k (List.all_eq_true.1 (List.all_eq_true.1 d3 i ((htl i).2 ⟨hge,hil⟩)) k (by simpa using hkm))
            rw [hkf] at h1;cases h1
        have hno':∀ j,m≤j→(listed.setIfInBounds i true)[j]?≠some true:=fun j hj=>by
          rw [Array.getElem?_setIfInBounds,if_neg (by omega)];exact hno j hj
        have hset:∀ (j:Nat),(listed.setIfInBounds i true)[j]? = some true→j=i∨listed[j]? = some true:=by
          intro j hj
          by_cases hji:j=i
          · exact .inl hji
          · rw [Array.getElem?_setIfInBounds,if_neg (fun e=>hji e.symm)] at hj;exact .inr hj
        have hmono:∀ (j:Nat),listed[j]? = some true→(listed.setIfInBounds i true)[j]? = some true:=by
          intro j hj
          rw [Array.getElem?_setIfInBounds]
          split
          · rename_i e;subst e
            have:i<listed.size:=by omega
            simp [this]
          · exact hj
        obtain ⟨Fi,b1,b2,v,hv,hve⟩:=r2 i (by omega)
        rw [hget i him] at hv hve
        have hvo:=(hall0 (ops[i]) (by rw [← hget i him];exact List.getElem_mem _)).1
        have hlk:∀ t∈NO ops ops[i],F1 t=Fi t:=fun t ht=>by
          by_cases c:∃ (j:Nat) (hj:j<m),(ops[j]'(by omega)).dst=some t
          · obtain ⟨j,hj,he⟩:=c
            have hdp:=pure_dep hp him ho ht hj (List.getElem?_eq_getElem (by omega)) he
            rw [hi.fact j _ t hj (haft j hdp.1) (List.getElem?_eq_getElem (by omega)) he]
            exact (b2 t j (by omega) hdp.2 (by rw [hget j hj];exact he)).symm
          · rw [hi.free t (fun j oj hj _ hoj e=>c ⟨j,hj,by rw [List.getElem?_eq_getElem (by omega)] at hoj;cases hoj;exact e⟩)]
            refine (b1 t fun j hj hji e=>?_).symm
            rw [hlen] at hj
            exact c ⟨j,hj,by rw [← hget j hj];exact e⟩
        have hout:=out_agree hvo hv hlk
        have next:PuInv ops m F Fe w0 (listed.setIfInBounds i true) (FV F1 ops[i].dst v) w1:=by
          cases hdi:ops[i].dst with
          | none=>exact absurd hdi (hall0 (ops[i]) (by rw [← hget i him];exact List.getElem_mem _)).2
          | some d=>
            refine ⟨hi.world,fun j hj q hq=>?_,fun j oj d' hjm hj hoj hd'=>?_,fun t ht=>?_⟩
            · rcases hset j hj with rfl|hj
              · exact hmono q (haft q hq)
              · exact hmono q (hi.down j hj q hq)
            · show FF F1 d v d'=Fe d'
              by_cases hji:j=i
              · subst hji
                rw [ho] at hoj;cases hoj
                rw [hdi] at hd';cases hd'
                rw [FA];exact (hve d hdi).symm
              · have hjl:listed[j]? = some true:=(hset j hj).resolve_left hji
                have hne:d'≠d:=fun e=>by
                  subst e
                  exact hdist j i oj ops[i] hjm him hji hoj ho (by rw [hd'];simp) (by rw [hd',hdi])
                rw [FB _ _ _ hne]
                exact hi.fact j oj d' hjm hjl hoj hd'
            · have hne:t≠d:=fun e=>by
                subst e
                refine ht i ops[i] him ?_ ho hdi
                have:i<listed.size:=by omega
                simp [this]
              show FF F1 d v t=F t
              rw [FB _ _ _ hne]
              exact hi.free t (fun j oj hj hl hoj=>ht j oj hj (hmono j hl) hoj)
        refine GX (K:=fun F2 w2=>PuInv ops m F Fe w0 (listed.setIfInBounds i true) F2 w2) hok ho (fun F2 w2 hK=>ih _ F2 w2 (by simpa using hsz) (by have:=GE hil hsz hnl;omega) hno' hK) (fun hw=>?_) (fun hw=>?_)
        · rcases hout with ⟨_,h1⟩|⟨h1,_⟩
          · unfold CX
            have ew:=hi.world
            subst ew
            rw [h1]
            exact next
          · rw [hw] at h1;cases h1
        · rcases hout with ⟨h1,_⟩|⟨_,h1⟩
          · rw [hw] at h1;cases h1
          · rw [← h1];exact next
theorem EZ {id:Nat} {ops:List Oper} {F:Fr} {w:World} (m:Nat) (pre tl:List Oper) (hm:P.follows .mixedOrders=true) (hok:ops.all (KU n ops)=true) (hd:drawOkC ops m=true) (hp:KQ ops m=true) (hlen:Nat.ble m ops.length=true) (hpre:ops.take m=pre) (htl:ops.drop m=tl)
    (h:∀ w1,Keep [] w w1→WP P ops w1 (fun F1=>WL false P ops Q tl F1 w1) pre F w1):CW P (ro:=none) n (.region id ops.toArray true) Q F w:=by
  have hseq:CN ops ((List.range ops.length).drop m)=ops.drop m:=by
    unfold CN
    have:∀ (l:List Oper) (k:Nat),k≤l.length→((List.range l.length).drop k).filterMap (l[·]?)=l.drop k:=by
      intro l k hk
      induction hq:l.length - k generalizing k with
      | zero=>rw [List.drop_of_length_le (by simp;omega),List.drop_of_length_le (by omega)];rfl
      | succ q ih=>
        have hlt:k<l.length:=by omega
        rw [List.drop_eq_getElem_cons (by simpa using hlt),List.filterMap_cons]
        simp only [List.getElem_range,List.getElem?_eq_getElem hlt]
        rw [ih (k+1) (by omega) (by omega),← List.drop_eq_getElem_cons hlt]
    exact this ops m (Nat.le_of_ble_eq_true hlen)
  subst hpre;subst htl
  have hv:(ops.take m).all (fun o=>vOp o.op)=true:=by
    unfold KQ at hp
    simp only [Bool.and_eq_true] at hp
    exact List.all_eq_true.2 fun o ho=>by have:=List.all_eq_true.1 hp.1 o ho;simp only [Bool.and_eq_true] at this;exact this.1
  obtain ⟨Fe,h1,h2⟩:=(h w.drew (Keep.drew [] w)).run _ _ hv
  refine wpIn_wide.2 (wp_region_any hm ?_)
  rw [show ({ w with drawn:=w.drawn+1 }:World)=w.drew from rfl,List.size_toArray]
  refine draw_runP hd hok hp h1 (by rw [hseq];exact h2) ops.length _ F w.drew (by simp) ?_ (fun j _=>?_) ⟨rfl,fun i hi=>?_,fun i o d _ hi=>?_,fun _ _=>rfl⟩
  · unfold IP;exact Nat.le_trans (List.countP_le_length) (by simp)
  all_goals simp_all [Array.getElem?_replicate]
end
end Go.Fw
namespace Go.Proofs.Ytjpniibleelgiaa
open Go.Fw Go.RowKit
theorem s_3:DA Try.prog 3=some 1:=by kernel_rfl
theorem z_3:EN Try.prog 3=some (.int .i64 0):=by kernel_rfl
theorem i_3:(Try.prog.info? 3).map (fun i=>(i.zero,i.size,i.bytes))=some (some (.int .i64 0),1,8):=by kernel_rfl
theorem s_4:DA Try.prog 4=some 1:=by kernel_rfl
theorem z_4:EN Try.prog 4=some (.bool false):=by kernel_rfl
theorem s_26:DA Try.prog 26=some 1:=by kernel_rfl
theorem z_26:EN Try.prog 26=some (.slice none 0 0):=by kernel_rfl
theorem i_26:(Try.prog.info? 26).map (fun i=>(i.zero,i.size,i.bytes))=some (some (.slice none 0 0),1,24):=by kernel_rfl
theorem BS:DA Try.prog 31=some 4:=by kernel_rfl
theorem HJ:EN Try.prog 31=some (.agg #[.int .i64 0, .int .i64 0, .slice none 0 0, .bool false]):=by kernel_rfl
theorem pl_31:GJ Try.prog 31=some [(0,1),(1,1),(2,1),(3,1)]:=by kernel_rfl
theorem HN:CD Try.prog 31 0=some 0:=by kernel_rfl
theorem FT:CD Try.prog 31 1=some 1:=by kernel_rfl
theorem FC:CD Try.prog 31 2=some 2:=by kernel_rfl
theorem IG:CD Try.prog 31 3=some 3:=by kernel_rfl
theorem CH:DA Try.prog 40=some 6:=by kernel_rfl
theorem HV:EN Try.prog 40=some (.agg #[.int .i64 0, .int .i64 0, .int .i64 0, .int .i64 0, .int .i64 0, .int .i64 0]):=by kernel_rfl
theorem i_40:(Try.prog.info? 40).map (fun i=>(i.zero,i.size,i.bytes))=some (some (.agg #[.int .i64 0, .int .i64 0, .int .i64 0, .int .i64 0, .int .i64 0, .int .i64 0]),6,48):=by kernel_rfl
theorem pl_40:GJ Try.prog 40=some [(0,1),(1,1),(2,1),(3,1),(4,1),(5,1)]:=by kernel_rfl
theorem KI:CD Try.prog 40 0=some 0:=by kernel_rfl
theorem GZ:CD Try.prog 40 1=some 1:=by kernel_rfl
theorem HM:CD Try.prog 40 2=some 2:=by kernel_rfl
theorem FU:CD Try.prog 40 3=some 3:=by kernel_rfl
theorem KM:CD Try.prog 40 4=some 4:=by kernel_rfl
theorem MV:CD Try.prog 40 5=some 5:=by kernel_rfl
theorem MG:DA Try.prog 47=some 4:=by kernel_rfl
theorem z_47:EN Try.prog 47=some (.agg #[.int .i64 0, .int .i64 0, .int .i64 0, .bool false]):=by kernel_rfl
theorem i_47:(Try.prog.info? 47).map (fun i=>(i.zero,i.size,i.bytes))=some (some (.agg #[.int .i64 0, .int .i64 0, .int .i64 0, .bool false]),4,32):=by kernel_rfl
theorem pl_47:GJ Try.prog 47=some [(0,1),(1,1),(2,1),(3,1)]:=by kernel_rfl
theorem f_47_0:CD Try.prog 47 0=some 0:=by kernel_rfl
theorem f_47_1:CD Try.prog 47 1=some 1:=by kernel_rfl
theorem f_47_2:CD Try.prog 47 2=some 2:=by kernel_rfl
theorem f_47_3:CD Try.prog 47 3=some 3:=by kernel_rfl
theorem s_58:DA Try.prog 58=some 1:=by kernel_rfl
theorem DQ:DA Try.prog 76=some 6:=by kernel_rfl
theorem z_76:EN Try.prog 76=some (.agg #[.int .i64 0, .int .i64 0, .slice none 0 0, .bool false, .slice none 0 0, .slice none 0 0]):=by kernel_rfl
theorem pl_76:GJ Try.prog 76=some [(0,4),(4,1),(5,1)]:=by kernel_rfl
theorem FS:CD Try.prog 76 0=some 0:=by kernel_rfl
theorem LV:CD Try.prog 76 1=some 4:=by kernel_rfl
theorem FZ:CD Try.prog 76 2=some 5:=by kernel_rfl
theorem s_79:DA Try.prog 79=some 6:=by kernel_rfl
theorem f_79_0:CD Try.prog 79 0=some 0:=by kernel_rfl
theorem f_79_1:CD Try.prog 79 1=some 1:=by kernel_rfl
theorem f_79_2:CD Try.prog 79 2=some 2:=by kernel_rfl
theorem f_79_3:CD Try.prog 79 3=some 3:=by kernel_rfl
theorem f_79_4:CD Try.prog 79 4=some 4:=by kernel_rfl
theorem f_79_5:CD Try.prog 79 5=some 5:=by kernel_rfl
theorem s_90:DA Try.prog 90=some 2:=by kernel_rfl
theorem z_90:EN Try.prog 90=some (.agg #[.int .i64 0, .int .i64 0]):=by kernel_rfl
theorem pl_90:GJ Try.prog 90=some [(0,1),(1,1)]:=by kernel_rfl
theorem s_97:DA Try.prog 97=some 1:=by kernel_rfl
theorem z_97:EN Try.prog 97=some (.map none):=by kernel_rfl
theorem IS:DA Try.prog 112=some 4:=by kernel_rfl
theorem ND:EN Try.prog 112=some (.agg #[.int .i64 0, .int .i64 0, .slice none 0 0, .bool false]):=by kernel_rfl
theorem pl_112:GJ Try.prog 112=some [(0,4)]:=by kernel_rfl
theorem CO:CD Try.prog 112 0=some 0:=by kernel_rfl
theorem GI:DA Try.prog 113=some 2:=by kernel_rfl
theorem HX:EN Try.prog 113=some (.agg #[.nilFunc, .int .i64 0]):=by kernel_rfl
theorem ML:GJ Try.prog 113=some [(0,1),(1,1)]:=by kernel_rfl
theorem JV:CD Try.prog 113 0=some 0:=by kernel_rfl
theorem GC:CD Try.prog 113 1=some 1:=by kernel_rfl
theorem s_121:DA Try.prog 121=some 1:=by kernel_rfl
theorem z_121:EN Try.prog 121=some (.nilFunc):=by kernel_rfl
theorem MS:IA Try.prog 40 [true,true,true,true,true,true]=true:=by kernel_rfl
theorem NS:Try.prog.underlying 40=some (.struct (Try.prog.fieldsOf 40)):=by kernel_rfl
theorem cs_devop (x y:DeviceOp):decide (([.inl x.device, .inl x.no, .inl x.kind, .inl x.copy, .inl x.to, .inl x.token]:List (Int ⊕ Bool))=[.inl y.device, .inl y.no, .inl y.kind, .inl y.copy, .inl y.to, .inl y.token])=(x == y):=by
  rw [Bool.eq_iff_iff,decide_eq_true_eq,beq_iff_eq,DeviceOp.ext_iff]
  simp
abbrev DM (x:Holding):Value:=.agg #[vI x.copy,vI x.device,vI x.token, .bool x.shown]
theorem LR:IA Try.prog 90 [true,true]=true:=by kernel_rfl
theorem NL:Try.prog.underlying 90=some (.struct (Try.prog.fieldsOf 90)):=by kernel_rfl
def cl_devno (x:DevNo):List (Int ⊕ Bool):=[.inl x.device, .inl x.no]
theorem cs_devno (x y:DevNo):decide (([.inl x.device, .inl x.no]:List (Int ⊕ Bool))=[.inl y.device, .inl y.no])=(x == y):=by
  rw [Bool.eq_iff_iff,decide_eq_true_eq,beq_iff_eq,DevNo.ext_iff]
  simp
abbrev GR (x:DevNo):Value:=.agg #[vI x.device,vI x.no]
theorem NB:KeyT Try.prog 90 GR:=
  have h:KeyT Try.prog 90 (fun x:DevNo=>Value.agg ((cl_devno x).map EG).toArray):=key_flat (P:=Try.prog) (kt:=90) (κ:=DevNo) cl_devno NL LR (fun _=>rfl) (fun a b h=>beq_iff_eq.1 ((cs_devno a b).symm.trans (decide_eq_true h)))
  h
theorem MK (xs:Array Value) (w:World):(callFunc 20 xs).run Try.prog w = .ok (.enter 20 xs) w:=AZ Try.func20 (by kernel_rfl) rfl xs w
theorem enter_23 (xs:Array Value) (w:World):(callFunc 23 xs).run Try.prog w = .ok (.enter 23 xs) w:=AZ Try.func23 (by kernel_rfl) rfl xs w
theorem enter_24 (xs:Array Value) (w:World):(callFunc 24 xs).run Try.prog w = .ok (.enter 24 xs) w:=AZ Try.func24 (by kernel_rfl) rfl xs w
theorem enter_28 (xs:Array Value) (w:World):(callFunc 28 xs).run Try.prog w = .ok (.enter 28 xs) w:=AZ Try.func28 (by kernel_rfl) rfl xs w
theorem ME (xs:Array Value) (w:World):(callFunc 29 xs).run Try.prog w = .ok (.enter 29 xs) w:=AZ Try.func29 (by kernel_rfl) rfl xs w
theorem enter_39 (xs:Array Value) (w:World):(callFunc 39 xs).run Try.prog w = .ok (.enter 39 xs) w:=AZ Try.func39 (by kernel_rfl) rfl xs w
theorem HF (xs:Array Value) (w:World):(callFunc 40 xs).run Try.prog w = .ok (.enter 40 xs) w:=AZ Try.func40 (by kernel_rfl) rfl xs w
theorem enter_42 (xs:Array Value) (w:World):(callFunc 42 xs).run Try.prog w = .ok (.enter 42 xs) w:=AZ Try.func42 (by kernel_rfl) rfl xs w
theorem JQ (xs:Array Value) (w:World):(callFunc 44 xs).run Try.prog w = .ok (.enter 44 xs) w:=AZ Try.func44 (by kernel_rfl) rfl xs w
theorem enter_46 (xs:Array Value) (w:World):(callFunc 46 xs).run Try.prog w = .ok (.enter 46 xs) w:=AZ Try.func46 (by kernel_rfl) rfl xs w
theorem enter_47 (xs:Array Value) (w:World):(callFunc 47 xs).run Try.prog w = .ok (.enter 47 xs) w:=AZ Try.func47 (by kernel_rfl) rfl xs w
theorem enter_49 (xs:Array Value) (w:World):(callFunc 49 xs).run Try.prog w = .ok (.enter 49 xs) w:=AZ Try.func49 (by kernel_rfl) rfl xs w
theorem LT (xs:Array Value) (w:World):(callFunc 50 xs).run Try.prog w = .ok (.enter 50 xs) w:=AZ Try.func50 (by kernel_rfl) rfl xs w
theorem enter_52 (xs:Array Value) (w:World):(callFunc 52 xs).run Try.prog w = .ok (.enter 52 xs) w:=AZ Try.func52 (by kernel_rfl) rfl xs w
theorem enter_53 (xs:Array Value) (w:World):(callFunc 53 xs).run Try.prog w = .ok (.enter 53 xs) w:=AZ Try.func53 (by kernel_rfl) rfl xs w
theorem JK (xs:Array Value) (w:World):(callFunc 54 xs).run Try.prog w = .ok (.enter 54 xs) w:=AZ Try.func54 (by kernel_rfl) rfl xs w
theorem enter_55 (xs:Array Value) (w:World):(callFunc 55 xs).run Try.prog w = .ok (.enter 55 xs) w:=AZ Try.func55 (by kernel_rfl) rfl xs w
theorem JY (xs:Array Value) (w:World):(callFunc 56 xs).run Try.prog w = .ok (.enter 56 xs) w:=AZ Try.func56 (by kernel_rfl) rfl xs w
theorem enter_57 (xs:Array Value) (w:World):(callFunc 57 xs).run Try.prog w = .ok (.enter 57 xs) w:=AZ Try.func57 (by kernel_rfl) rfl xs w
theorem enter_58 (xs:Array Value) (w:World):(callFunc 58 xs).run Try.prog w = .ok (.enter 58 xs) w:=AZ Try.func58 (by kernel_rfl) rfl xs w
theorem JO (xs:Array Value) (w:World):(callFunc 59 xs).run Try.prog w = .ok (.enter 59 xs) w:=AZ Try.func59 (by kernel_rfl) rfl xs w
theorem enter_60 (xs:Array Value) (w:World):(callFunc 60 xs).run Try.prog w = .ok (.enter 60 xs) w:=AZ Try.func60 (by kernel_rfl) rfl xs w
theorem enter_61 (xs:Array Value) (w:World):(callFunc 61 xs).run Try.prog w = .ok (.enter 61 xs) w:=AZ Try.func61 (by kernel_rfl) rfl xs w
theorem enter_62 (xs:Array Value) (w:World):(callFunc 62 xs).run Try.prog w = .ok (.enter 62 xs) w:=AZ Try.func62 (by kernel_rfl) rfl xs w
theorem MZ (xs:Array Value) (w:World):(callFunc 63 xs).run Try.prog w = .ok (.enter 63 xs) w:=AZ Try.func63 (by kernel_rfl) rfl xs w
theorem enter_64 (xs:Array Value) (w:World):(callFunc 64 xs).run Try.prog w = .ok (.enter 64 xs) w:=AZ Try.func64 (by kernel_rfl) rfl xs w
theorem enter_70 (xs:Array Value) (w:World):(callFunc 70 xs).run Try.prog w = .ok (.enter 70 xs) w:=AZ Try.func70 (by kernel_rfl) rfl xs w
theorem JL (xs:Array Value) (w:World):(callFunc 77 xs).run Try.prog w = .ok (.enter 77 xs) w:=AZ Try.func77 (by kernel_rfl) rfl xs w
theorem enter_78 (xs:Array Value) (w:World):(callFunc 78 xs).run Try.prog w = .ok (.enter 78 xs) w:=AZ Try.func78 (by kernel_rfl) rfl xs w
theorem LQ (xs:Array Value) (w:World):(callFunc 79 xs).run Try.prog w = .ok (.enter 79 xs) w:=AZ Try.func79 (by kernel_rfl) rfl xs w
theorem enter_80 (xs:Array Value) (w:World):(callFunc 80 xs).run Try.prog w = .ok (.enter 80 xs) w:=AZ Try.func80 (by kernel_rfl) rfl xs w
theorem MQ (xs:Array Value) (w:World):(callFunc 81 xs).run Try.prog w = .ok (.enter 81 xs) w:=AZ Try.func81 (by kernel_rfl) rfl xs w
theorem enter_82 (xs:Array Value) (w:World):(callFunc 82 xs).run Try.prog w = .ok (.enter 82 xs) w:=AZ Try.func82 (by kernel_rfl) rfl xs w
theorem enter_83 (xs:Array Value) (w:World):(callFunc 83 xs).run Try.prog w = .ok (.enter 83 xs) w:=AZ Try.func83 (by kernel_rfl) rfl xs w
theorem enter_84 (xs:Array Value) (w:World):(callFunc 84 xs).run Try.prog w = .ok (.enter 84 xs) w:=AZ Try.func84 (by kernel_rfl) rfl xs w
theorem enter_87 (xs:Array Value) (w:World):(callFunc 87 xs).run Try.prog w = .ok (.enter 87 xs) w:=AZ Try.func87 (by kernel_rfl) rfl xs w
theorem enter_88 (xs:Array Value) (w:World):(callFunc 88 xs).run Try.prog w = .ok (.enter 88 xs) w:=AZ Try.func88 (by kernel_rfl) rfl xs w
theorem enter_89 (xs:Array Value) (w:World):(callFunc 89 xs).run Try.prog w = .ok (.enter 89 xs) w:=AZ Try.func89 (by kernel_rfl) rfl xs w
theorem enter_90 (xs:Array Value) (w:World):(callFunc 90 xs).run Try.prog w = .ok (.enter 90 xs) w:=AZ Try.func90 (by kernel_rfl) rfl xs w
theorem enter_91 (xs:Array Value) (w:World):(callFunc 91 xs).run Try.prog w = .ok (.enter 91 xs) w:=AZ Try.func91 (by kernel_rfl) rfl xs w
theorem enter_92 (xs:Array Value) (w:World):(callFunc 92 xs).run Try.prog w = .ok (.enter 92 xs) w:=AZ Try.func92 (by kernel_rfl) rfl xs w
theorem enter_93 (xs:Array Value) (w:World):(callFunc 93 xs).run Try.prog w = .ok (.enter 93 xs) w:=AZ Try.func93 (by kernel_rfl) rfl xs w
theorem enter_94 (xs:Array Value) (w:World):(callFunc 94 xs).run Try.prog w = .ok (.enter 94 xs) w:=AZ Try.func94 (by kernel_rfl) rfl xs w
theorem enter_95 (xs:Array Value) (w:World):(callFunc 95 xs).run Try.prog w = .ok (.enter 95 xs) w:=AZ Try.func95 (by kernel_rfl) rfl xs w
theorem enter_96 (xs:Array Value) (w:World):(callFunc 96 xs).run Try.prog w = .ok (.enter 96 xs) w:=AZ Try.func96 (by kernel_rfl) rfl xs w
theorem ov_97 (x y:Value) (w:World) (h:(Extern.SlicesOverlaps.overlaps #[26,26] #[4] #[x,y]).run Try.prog w = .ok (.bool false) w):(callFunc 97 #[x,y]).run Try.prog w = .ok (.value (.bool false)) w:=by
  rw [run_callFunc_extern Try.func97 (by kernel_rfl) (by kernel_rfl) (by kernel_rfl) (e:=Extern.SlicesOverlaps.overlaps #[26,26] #[4]) (by kernel_rfl),h];rfl
theorem enter_103 (xs:Array Value) (w:World):(callFunc 103 xs).run Try.prog w = .ok (.enter 103 xs) w:=AZ Try.func103 (by kernel_rfl) rfl xs w
theorem enter_104 (xs:Array Value) (w:World):(callFunc 104 xs).run Try.prog w = .ok (.enter 104 xs) w:=AZ Try.func104 (by kernel_rfl) rfl xs w
theorem enter_106 (xs:Array Value) (w:World):(callFunc 106 xs).run Try.prog w = .ok (.enter 106 xs) w:=AZ Try.func106 (by kernel_rfl) rfl xs w
theorem NF (xs:Array Value) (w:World):(callFunc 107 xs).run Try.prog w = .ok (.enter 107 xs) w:=AZ Try.func107 (by kernel_rfl) rfl xs w
open Go.Fw Go.RowKit
set_option maxHeartbeats 4000000 in
set_option maxRecDepth 100000 in
theorem c_insertD {O B:List Nat} {w0 w:World} (v u:Value) (l m:List DeviceOp) (i:Nat) (s0:St w0 O w B) (ho:EJ Enc.devop 40 w0.heap.size (B++O) w v l) (hu:EJ Enc.devop 40 w0.heap.size (B++O) w u m) (hB:∀ b,v.ownBlock=some b→b∈B) (c6:∀ b,u.ownBlock=some b→b∈B) (hne:∀ b,v.ownBlock=some b→u.ownBlock≠some b) (hm:0<m.length) (hi:i≤l.length) (hlen:(l.length+m.length)*48≤140737488355328) (b4:l.length+m.length≤maxLen):Calls Try.prog 62 [v,vI (i:Int),u].toArray w (fun e w'=>∃ (v':Value) (B':List Nat),e = .returned v'∧(∀ b,v'.ownBlock=some b→b∈B')∧(∀ b,v'.ownBlock=some b→v.ownBlock=some b∨w.heap.size≤b)∧(∀ b∈B,b∈B')∧St w0 O w' B'∧Mv B w B' w'∧Keep v.ownBlock.toList w w'∧EJ Enc.devop 40 w0.heap.size (B'++O) w' v' (l.take i++m++l.drop i)):= by
  have ms:Mv B w B w:=Mv.refl _ _
  have ks:Keep v.ownBlock.toList w w:=Keep.refl _ _
  have e4:=b4
  simp only [maxLen] at e4
  refine FD 95 Try.func62 rfl rfl oT (fun F0=>AF (AC kR (AB (AG (nS) rfl (AD (AA (AF (AC kR (AB (AH (v) rfl (AB (AH (vI (i:Int)) rfl (AB (o_sliceOwn U26_ CH i .i64 (i:Int) rfl rfl rfl oM ho fun h1 g4=>(AD (AA (AF (AC kR (AB (AH (u) rfl (AB (o_lenO U26_ rfl hu (AB (AG (vI (m.length:Int)) rfl (AD (AA (AF (AF (AC kR (AB (AH (vI (m.length:Int)) rfl (AB (DB .i64 (m.length:Int) (0:Int) rfl rfl (AD (AA (?_))))))))))))))))))))))))))))))))))))
  have d4:((m.length:Int) == (0:Int))=false:=(by rw [beq_eq_false_iff_ne];omega)
  rw [d4]
  refine AP false rfl rfl (fun h=>by cases h) (fun _=>AV (AA (AF (AC kR (AB (AH (v) rfl (AB (o_lenO U26_ rfl ho (AB (AG (vI (l.length:Int)) rfl (AD (AA (AF (AF (AC kR (AB (AH (vI (i:Int)) rfl (AB (AH (vI (l.length:Int)) rfl (AB (DB .i64 (i:Int) (l.length:Int) rfl rfl (AD (AA (AP ((i:Int) == (l.length:Int)) rfl rfl (fun a7=>?_) (fun a7=>?_)))))))))))))))))))))))))
  · have g5:(i:Int)=(l.length:Int):=by simpa using a7
    refine AF (AC kR (AB (AH (v) rfl (AB (AH (u) rfl (AB (o_appendOO (E:=Enc.devop) (l:=l) (m:=m) U26_ i_40 rfl (by decide) rfl rfl ho hu  hB hlen b4 s0 fun b5 h3 c7 d5 b9 b1 e5 c8 c9 c2=>(?_))))))))
    have g6:∀ b,u.ownBlock=some b→b5.ownBlock≠some b:=fun b hb e=>by rcases b9 with e1|e1 <;> rw [e1] at e <;> first|(cases e;have:=(hu.lt _ hb).2;omega)|(exact absurd e ((fun b hb e=>hne b e hb) b hb))
    have c6:∀ b,u.ownBlock=some b→b∈c7:=fun b hb=>b1 b (c6 b hb)
    have hu:=hu.mv c8 c9 (fun b hb=>by simp only [Option.mem_toList];exact (fun b hb e=>hne b e hb) b hb)
    have ms:=ms.trans c8
    have ks:=ks.step0 c9 (fun b hb=>by exact .inl hb)
    refine AB (AG (b5) rfl (AD (AA (AN (AO (AY rfl (CM rfl rfl rfl) (?_)))))))
    rw [show l++m=l.take i++m++l.drop i from by rw [show i=l.length from by omega,List.take_length,List.drop_length,List.append_nil]] at c2
    exact ⟨b5,c7,rfl,d5,fun b hb=>by rcases b9 with e1|e1 <;> rw [e1] at hb;exact .inl hb;cases hb;exact .inr (Nat.le_refl _),b1,e5,ms,ks,c2⟩
  have g7:(i:Int)≠(l.length:Int):=by simpa using a7
  obtain ⟨g,c,cur,css,rfl,hgb,bg,hnc,hcm,hcl,hcss,hrd⟩:=own_open ho oM
  obtain ⟨gu,cu,curu,cssu,rfl,hgub,bgu,hncu,hcmu,hclu,hcssu,a8⟩:=own_open hu oM
  have hgB:g∈B:=hB g rfl
  have hguB:gu∈B:=c6 gu rfl
  have hgg:g≠gu:=fun e=>hne g rfl (by rw [e];rfl)
  have hns:l.length*Enc.devop.size≤cur.length:=by rw [hcl];exact Nat.mul_le_mul_right _ hnc
  have c3:m.length*Enc.devop.size≤curu.length:=by rw [hclu];exact Nat.mul_le_mul_right _ hncu
  have one1:=ones_drop hrd hcss hi hns
  have one2:=ones_all a8 hcssu
  have hfm:=a8.flen
  refine AV (AA (AF (AF (AC kR (AB (AH (vI (l.length:Int)) rfl (AB (AH (vI (m.length:Int)) rfl (AB (CJ .i64 (l.length:Int) (m.length:Int) (((l.length+m.length:Nat):Int)) rfl rfl (EI oM oM) (AB (AH (vS (some ⟨g,0,none⟩) l.length c) rfl (AB (o_cap _ _ c U26_ rfl (AB (HC .i64 ((l.length+m.length:Nat):Int) ((c:Nat):Int) rfl rfl (AD (AA (AP (decide (((c:Nat):Int)<((l.length+m.length:Nat):Int))) rfl rfl (fun a9=>?_) (fun a9=>?_))))))))))))))))))))
  · have g8:((c:Nat):Int)<((l.length+m.length:Nat):Int):=by simpa using a9
    refine AF (AC kR (AB (AH (vS (some ⟨g,0,none⟩) l.length c) rfl (AB (AH (vI (i:Int)) rfl (AB (OB (size:=Enc.devop.size) U26_ CH g 0 l.length c i .i64 (i:Int) rfl rfl rfl oM (AB (AH (vI (l.length:Int)) rfl (AB (AH (vI (m.length:Int)) rfl (AB (CJ .i64 (l.length:Int) (m.length:Int) (((l.length+m.length:Nat):Int)) rfl rfl (EI oM oM) (AB (AH (vI (i:Int)) rfl (AB (o_sub .i64 ((l.length+m.length:Nat):Int) (i:Int) ((((l.length+m.length) - i:Nat):Int)) rfl rfl (EI oM oM) (AB (o_appendZ (size:=Enc.devop.size) (i:=i) ((l.length+m.length) - i) (l.length+m.length) (((l.length+m.length) - i:Nat):Int) oM U26_ U3_ i_40 rfl (by decide) rfl rfl rfl bg (by rw [hcl];exact Nat.mul_le_mul_right _ oM) oM oM hlen b4 s0 fun a0 a1 b2 h4 e6 d6 e7 e8 b6 d7 a2 g9 d8 d9=>(?_))))))))))))))))))))
    have c4:g≠a0:=by have:=bg.lt;omega
    have c5:gu≠a0:=by have:=bgu.lt;omega
    have b3:w.heap.size≤a0:=by have:=ks.size;omega
    clear e6
    have bg:=bg.keep b6 (by simp)
    have bgu:=bgu.keep b6 (by simp)
    have ms:=ms.trans e8
    have ks:=ks.step0 b6 (fun b hb=>by (simp at hb;done))
    refine AB (AG (vS (some ⟨a0,0,none⟩) (l.length+m.length) a1) rfl (AD (AA (AF (AC kR (AB (AH (vS (some ⟨a0,0,none⟩) (l.length+m.length) a1) rfl (AB (AH (vI (i:Int)) rfl (AB (GB (size:=Enc.devop.size) U26_ CH a0 (l.length+m.length) a1 i .i64 (i:Int) rfl rfl rfl oM oM oM (AB (AH (vS (some ⟨gu,0,none⟩) m.length cu) rfl (AB (IK (size:=Enc.devop.size) m.length U26_ CH rfl rfl d7 bgu (by repeat (constructor)) (by simp only [Nat.min_def];split <;> omega) (by rw [a2,← Nat.add_mul];exact Nat.mul_le_mul_right _ oM) (by rw [Nat.zero_add];exact c3) one2 e7 fun e9 f0 f1 b7 b0=>(?_))))))))))))))))
    have a4:(ED b2 (i*Enc.devop.size) ((curu.drop 0).take (m.length*Enc.devop.size))).length=a1*Enc.devop.size:=by rw [HL (by rw [List.length_take,List.length_drop,Nat.min_eq_left (by have h2:=((by rw [Nat.zero_add];exact c3):0+m.length*Enc.devop.size≤curu.length);omega)];exact (by rw [a2,← Nat.add_mul];exact Nat.mul_le_mul_right _ oM))];exact a2
    have bg:=bg.keep b7 (AT c4)
    have bgu:=bgu.keep b7 (AT c5)
    have ms:=ms.trans f1
    have ks:=ks.step0 b7 (fun b hb=>by (simp only [List.mem_singleton] at hb;subst hb;(right;omega)))
    refine AD (AA (AF (EZ 8 _ _ kR kR kR kR kR rfl rfl fun f2 a3=>?_)))
    have f3:=f0.call a3
    have f4:Mv (a0 :: B) e9 (a0 :: B) f2:=Mv.of_keep a3
    have bg:=bg.keep a3 (by simp)
    have bgu:=bgu.keep a3 (by simp)
    have b0:=b0.keep a3 (by simp)
    have ms:=ms.trans f4
    have ks:=ks.step0 a3 (fun b hb=>by (simp at hb;done))
    refine CI (AH (vS (some ⟨a0,0,none⟩) (l.length+m.length) a1) rfl (CI (AH (vI (i:Int)) rfl (CI (AH (vI (m.length:Int)) rfl (CI (CJ .i64 (i:Int) (m.length:Int) (((i+m.length:Nat):Int)) rfl rfl (EI oM oM) (CI (GB (size:=Enc.devop.size) U26_ CH a0 (l.length+m.length) a1 (i+m.length) .i64 ((i+m.length:Nat):Int) rfl rfl rfl oM oM oM (CI (AH (vS (some ⟨g,0,none⟩) l.length c) rfl (CI (AH (vI (i:Int)) rfl (CI (GB (size:=Enc.devop.size) U26_ CH g l.length c i .i64 (i:Int) rfl rfl rfl oM oM oM (GA (AB (IK (size:=Enc.devop.size) (l.length - i) U26_ CH rfl rfl b0 bg (by repeat (constructor)) (by simp only [Nat.min_def];split <;> omega) (by rw [a4,← Nat.add_mul];exact Nat.mul_le_mul_right _ oM) (by rw [← Nat.add_mul];exact Nat.le_trans (Nat.mul_le_mul_right _ oM) hns) one1 f3 fun h5 f5 f6 b8 e0=>(?_)))))))))))))))))))
    have d0:(ED (ED b2 (i*Enc.devop.size) ((curu.drop 0).take (m.length*Enc.devop.size))) ((i+m.length)*Enc.devop.size) ((cur.drop (i*Enc.devop.size)).take ((l.length - i)*Enc.devop.size))).length=a1*Enc.devop.size:=by rw [HL (by rw [List.length_take,List.length_drop,Nat.min_eq_left (by have h2:=((by rw [← Nat.add_mul];exact Nat.le_trans (Nat.mul_le_mul_right _ oM) hns):(i*Enc.devop.size)+(l.length - i)*Enc.devop.size≤cur.length);omega)];exact (by rw [a4,← Nat.add_mul];exact Nat.mul_le_mul_right _ oM))];exact a4
    have bg:=bg.keep b8 (AT c4)
    have bgu:=bgu.keep b8 (AT c5)
    have ms:=ms.trans f6
    have ks:=ks.step0 b8 (fun b hb=>by (simp only [List.mem_singleton] at hb;subst hb;(right;omega)))
    refine AD (AA (AF (AC kR (AB (AH (vS (some ⟨a0,0,none⟩) (l.length+m.length) a1) rfl (AB (AG (vS (some ⟨a0,0,none⟩) (l.length+m.length) a1) rfl (AD (AA (AN (AO (AY rfl (CM rfl rfl rfl) (?_)))))))))))))
    exact ⟨_,(a0 :: B),rfl,fun b hb=>by cases hb;exact (by repeat (constructor)),fun b hb=>by cases hb;exact .inr b3,fun b hb=>List.mem_cons_of_mem _ hb,f5,ms,ks,EJ.ins hrd a8 ms e0 d6 hi d0 oM d8 (tk_grow hcss hrd.lens hrd.1 hi hns hcssu hfm d9 (by rw [a2];exact Nat.mul_le_mul_right _ oM))⟩
  have h0:((l.length+m.length:Nat):Int)≤((c:Nat):Int):=by simpa using a9
  refine AV (AA (AF (AC kR (AB (AH (vS (some ⟨g,0,none⟩) l.length c) rfl (AB (AH (vI (l.length:Int)) rfl (AB (AH (vI (m.length:Int)) rfl (AB (CJ .i64 (l.length:Int) (m.length:Int) (((l.length+m.length:Nat):Int)) rfl rfl (EI oM oM) (AB (OB (size:=Enc.devop.size) U26_ CH g 0 l.length c (l.length+m.length) .i64 ((l.length+m.length:Nat):Int) rfl rfl rfl oM (AB (AG (vS (some ⟨g,0,none⟩) (l.length+m.length) c) rfl (AD (AA (AF (AF (AC kR (AB (AH (vS (some ⟨gu,0,none⟩) m.length cu) rfl (AB (AH (vS (some ⟨g,0,none⟩) (l.length+m.length) c) rfl (AB (AH (vI (i:Int)) rfl (AB (AH (vI (m.length:Int)) rfl (AB (CJ .i64 (i:Int) (m.length:Int) (((i+m.length:Nat):Int)) rfl rfl (EI oM oM) (AB (GB (size:=Enc.devop.size) U26_ CH g (l.length+m.length) c (i+m.length) .i64 ((i+m.length:Nat):Int) rfl rfl rfl oM oM oM (AB (o_overlaps (size:=Enc.devop.size) ov_97 U26_ CH rfl bgu bg (Ne.symm hgg) (by rw [hcl];exact Nat.mul_pos oM (by decide)) (AB (EF false rfl (AD (AA (AP true rfl rfl (fun _=>AF (EZ 8 _ _ kR kR kR kR kR rfl rfl fun f7 a5=>?_)) (fun h=>by cases h))))))))))))))))))))))))))))))))))))))))
  have f8:=s0.call a5
  have f9:Mv B w B f7:=Mv.of_keep a5
  have bg:=bg.keep a5 (by simp)
  have bgu:=bgu.keep a5 (by simp)
  have ms:=ms.trans f9
  have ks:=ks.step0 a5 (fun b hb=>by (simp at hb;done))
  refine CI (AH (vS (some ⟨g,0,none⟩) (l.length+m.length) c) rfl (CI (AH (vI (i:Int)) rfl (CI (AH (vI (m.length:Int)) rfl (CI (CJ .i64 (i:Int) (m.length:Int) (((i+m.length:Nat):Int)) rfl rfl (EI oM oM) (CI (GB (size:=Enc.devop.size) U26_ CH g (l.length+m.length) c (i+m.length) .i64 ((i+m.length:Nat):Int) rfl rfl rfl oM oM oM (CI (AH (vS (some ⟨g,0,none⟩) (l.length+m.length) c) rfl (CI (AH (vI (i:Int)) rfl (CI (GB (size:=Enc.devop.size) U26_ CH g (l.length+m.length) c i .i64 (i:Int) rfl rfl rfl oM oM oM (GA (AB (IK (size:=Enc.devop.size) (l.length - i) U26_ CH rfl rfl bg bg (by repeat (assumption)) (by simp only [Nat.min_def];split <;> omega) (by rw [hcl,← Nat.add_mul];exact Nat.mul_le_mul_right _ oM) (by rw [← Nat.add_mul];exact Nat.le_trans (Nat.mul_le_mul_right _ oM) hns) one1 f8 fun h6 g0 g1 d1 e2=>(?_)))))))))))))))))))
  have a6:(ED cur ((i+m.length)*Enc.devop.size) ((cur.drop (i*Enc.devop.size)).take ((l.length - i)*Enc.devop.size))).length=c*Enc.devop.size:=by rw [HL (by rw [List.length_take,List.length_drop,Nat.min_eq_left (by have h2:=((by rw [← Nat.add_mul];exact Nat.le_trans (Nat.mul_le_mul_right _ oM) hns):(i*Enc.devop.size)+(l.length - i)*Enc.devop.size≤cur.length);omega)];exact (by rw [hcl,← Nat.add_mul];exact Nat.mul_le_mul_right _ oM))];exact hcl
  have bgu:=bgu.keep d1 (AT (Ne.symm hgg))
  have ms:=ms.trans g1
  have ks:=ks.step0 d1 (fun b hb=>by exact .inl hb)
  refine AD (AA (AF (AC kR (AB (AH (vS (some ⟨g,0,none⟩) (l.length+m.length) c) rfl (AB (AH (vI (i:Int)) rfl (AB (GB (size:=Enc.devop.size) U26_ CH g (l.length+m.length) c i .i64 (i:Int) rfl rfl rfl oM oM oM (AB (AH (vS (some ⟨gu,0,none⟩) m.length cu) rfl (AB (IK (size:=Enc.devop.size) m.length U26_ CH rfl rfl e2 bgu (by repeat (assumption)) (by simp only [Nat.min_def];split <;> omega) (by rw [a6,← Nat.add_mul];exact Nat.mul_le_mul_right _ oM) (by rw [Nat.zero_add];exact c3) one2 g0 fun h7 g2 g3 d2 e3=>(?_))))))))))))))
  have d3:(ED (ED cur ((i+m.length)*Enc.devop.size) ((cur.drop (i*Enc.devop.size)).take ((l.length - i)*Enc.devop.size))) (i*Enc.devop.size) ((curu.drop 0).take (m.length*Enc.devop.size))).length=c*Enc.devop.size:=by rw [HL (by rw [List.length_take,List.length_drop,Nat.min_eq_left (by have h2:=((by rw [Nat.zero_add];exact c3):0+m.length*Enc.devop.size≤curu.length);omega)];exact (by rw [a6,← Nat.add_mul];exact Nat.mul_le_mul_right _ oM))];exact a6
  have bgu:=bgu.keep d2 (AT (Ne.symm hgg))
  have ms:=ms.trans g3
  have ks:=ks.step0 d2 (fun b hb=>by exact .inl hb)
  refine AD (AA (AF (AC kR (AB (AH (vS (some ⟨g,0,none⟩) (l.length+m.length) c) rfl (AB (AG (vS (some ⟨g,0,none⟩) (l.length+m.length) c) rfl (AD (AA (AN (AO (AY rfl (CM rfl rfl rfl) (?_)))))))))))))
  exact ⟨_,B,rfl,fun b hb=>by cases hb;exact (by repeat (assumption)),fun b hb=>by cases hb;exact .inl rfl,fun b hb=>hb,g2,ms,ks,EJ.ins hrd a8 ms e3 hgb hi d3 oM hcm (tk_shift hcss hrd.lens hrd.1 hi (by rw [hcl];exact Nat.mul_le_mul_right _ oM) hcssu hfm)⟩
open Go.Fw
def CY (n:Int):Bool:=decide (0≤n) && decide (n<4)
def BO (o:DeviceOp):Bool:=
  if (((((!CY o.device || decide (o.no<1)) || decide (65536<o.no)) || decide (o.copy<0)) || decide (1024≤o.copy)) || decide (o.token<1)) || decide (65536<o.token) then false
  else ((o.kind == 1) && CY o.to) || ((o.kind == 2) && (o.to == 0))
def GG (a b:Int):Int:=if a<b then -1 else if b<a then 1 else 0
def DJ:Nat→DeviceOp→Int
  | 0,o=>o.copy
  | 1,o=>o.token
  | 2,o=>o.device
  | 3,o=>o.no
  | 4,o=>o.kind
  | _,o=>o.to
def IV (a b:DeviceOp) (ns:List Nat):Int:=FR (fun k=>if GG (DJ ns[k]! a) (DJ ns[k]! b) != 0 then some (GG (DJ ns[k]! a) (DJ ns[k]! b)) else none) 0 0 (ns.length - 0)
def DK (a b:DeviceOp):Int:=IV a b [0,1,2,3,4,5]
def CZ (o:DeviceOp):DevNo:=⟨o.device,o.no⟩
def GQ (l:List DeviceOp):Nat→DevNo→Option Bool
  | 0=>noM
  | k+1=>upM (GQ l k) (CZ l[k]!) true
def DF (l:List DeviceOp):Bool:=FR (fun k=>if (GQ l k (CZ l[k]!)).getD false then some false else none) true 0 (l.length - 0)
def FO (l:List DeviceOp) (k:Nat):Bool:=!BO l[k]! || (decide (0<(k:Int)) && decide (0≤DK l[k - 1]! l[k]!))
def CE (l:List DeviceOp):Int:=if decide (256<(l.length:Int)) || !DF l then 420 else FR (fun k=>if FO l k then some 420 else none) 0 0 (l.length - 0)
def idxD (l:List DeviceOp) (o:DeviceOp):Int:=FR (fun k=>if o == l[k]! then some (k:Int) else none) (-1) 0 (l.length - 0)
def idxF (l:List DeviceOp) (f:DeviceOp→Bool):Int:=FR (fun k=>if f l[k]! then some (k:Int) else none) (-1) 0 (l.length - 0)
theorem MW {p:Nat→Bool}:∀ (m i:Nat),decide ((0:Int)≤FR (fun k=>if p k then some (k:Int) else none) (-1) i m)=true↔∃ k,i≤k∧k<i+m∧p k=true
  | 0,i=>by
    constructor
    · intro h;simp [FR] at h
    · rintro ⟨k,h1,h2,_⟩;omega
  | m+1,i=>by
    unfold FR
    cases hp:p i with
    | true=>
      simp only [if_true,decide_eq_true_eq]
      exact ⟨fun _=>⟨i,Nat.le_refl _,by omega,hp⟩,fun _=>by omega⟩
    | false=>
      simp only [Bool.false_eq_true,if_false]
      rw [MW m (i+1)]
      constructor
      · rintro ⟨k,h1,h2,h3⟩;exact ⟨k,by omega,by omega,h3⟩
      · rintro ⟨k,h1,h2,h3⟩
        refine ⟨k,?_,by omega,h3⟩
        by_cases e:k=i
        · subst e;rw [hp] at h3;cases h3
        · omega
theorem idxD_pos (l:List DeviceOp) (o:DeviceOp):decide ((0:Int)≤idxD l o)=l.contains o:=by
  rw [Bool.eq_iff_iff,idxD,MW (p:=fun k=>o == l[k]!)]
  simp only [List.contains_iff_mem,List.mem_iff_getElem,beq_iff_eq]
  constructor
  · rintro ⟨k,_,h2,h3⟩;exact ⟨k,by omega,by rw [h3,getElem!_pos l k (by omega)]⟩
  · rintro ⟨k,hk,h3⟩;exact ⟨k,by omega,by omega,by rw [getElem!_pos l k hk,h3]⟩
theorem idxF_pos (l:List DeviceOp) (f:DeviceOp→Bool):decide ((0:Int)≤idxF l f)=l.any f:=by
  rw [Bool.eq_iff_iff,idxF,MW (p:=fun k=>f l[k]!)]
  simp only [List.any_eq_true,List.mem_iff_getElem]
  constructor
  · rintro ⟨k,_,h2,h3⟩;exact ⟨l[k],⟨k,by omega,rfl⟩,by rw [← getElem!_pos l k (by omega)];exact h3⟩
  · rintro ⟨x,⟨k,hk,rfl⟩,h3⟩;exact ⟨k,by omega,by omega,by rw [getElem!_pos l k hk];exact h3⟩
def MR (l:List DeviceOp) (o:DeviceOp) (f:DeviceOp→DeviceOp→Int):Nat:=(l.takeWhile (fun y=>decide (f y o<0))).length
def bsG (l:List DeviceOp) (o:DeviceOp) (f:DeviceOp→DeviceOp→Int):Bool:=decide (((MR l o f:Nat):Int)<(l.length:Int)) && (f l[MR l o f]! o == 0)
theorem tw2_le (l:List DeviceOp) (o:DeviceOp) (f:DeviceOp→DeviceOp→Int):MR l o f≤l.length:=(List.takeWhile_sublist _).length_le
theorem tw2_eq {o:DeviceOp} {f:DeviceOp→DeviceOp→Int}:∀ {l:List DeviceOp} {k:Nat},k≤l.length→(∀ q,q<k→f l[q]! o<0)→(k<l.length→0≤f l[k]! o)→MR l o f=k
  | [],k,hk,_,_=>by simp at hk;subst hk;rfl
  | a :: l,0,_,_,h2=>by
    have:=h2 (by simp)
    simp at this
    have hn:¬ (f a o<0):=by omega
    simp [MR,hn]
  | a :: l,k+1,hk,h1,h2=>by
    have h0:=h1 0 (by omega)
    simp at h0
    have ih:=tw2_eq (o:=o) (f:=f) (l:=l) (k:=k) (by simpa using hk) (fun q hq=>by have:=h1 (q+1) (by omega);simpa using this) (fun hk2=>by have:=h2 (by simpa using hk2);simpa using this)
    unfold MR at ih ⊢
    simp [h0,ih]
theorem bs2_lo {l:List DeviceOp} {o:DeviceOp} {f:DeviceOp→DeviceOp→Int} {h:Nat} (hs:∀ p q,p<q→q<l.length→f l[q]! o<0→f l[p]! o<0) (h1:f l[h]! o<0) (hh:h<l.length):∀ q,q<h+1→f l[q]! o<0:=by
  intro q hq
  by_cases hqh:q=h
  · subst hqh;exact h1
  · exact hs q h (by omega) hh h1
theorem bs2_hi {l:List DeviceOp} {o:DeviceOp} {f:DeviceOp→DeviceOp→Int} {h:Nat} (hs:∀ p q,p<q→q<l.length→f l[q]! o<0→f l[p]! o<0) (h1:0≤f l[h]! o):∀ q,h≤q→q<l.length→0≤f l[q]! o:=by
  intro q hq hql
  by_cases hqh:q=h
  · subst hqh;exact h1
  · have:=hs h q (by omega) hql;omega
theorem cmpI_cases (a b:Int):(a<b∧GG a b = -1)∨(a=b∧GG a b=0)∨(b<a∧GG a b=1):=by
  unfold GG
  by_cases h1:a<b
  · exact .inl ⟨h1,if_pos h1⟩
  · by_cases h2:b<a
    · exact .inr (.inr ⟨h2,by rw [if_neg h1,if_pos h2]⟩)
    · exact .inr (.inl ⟨by omega,by rw [if_neg h1,if_neg h2]⟩)
def IQ (o:DeviceOp):List Int:=[o.copy,o.token,o.device,o.no,o.kind,o.to]
def IW:List Int→List Int→Int
  | a :: l,b :: m=>if a<b then -1 else if b<a then 1 else IW l m
  | _,_=>0
theorem KB (a b:DeviceOp):DK a b=IW (IQ a) (IQ b):=by
  have step:∀ (m i:Nat) (l r:List Int),l.length=m→r.length=m→(∀ k,k<m→l[k]! = DJ ([0,1,2,3,4,5]:List Nat)[i+k]! a)→(∀ k,k<m→r[k]! = DJ ([0,1,2,3,4,5]:List Nat)[i+k]! b)→
      FR (fun k=>if GG (DJ ([0,1,2,3,4,5]:List Nat)[k]! a) (DJ ([0,1,2,3,4,5]:List Nat)[k]! b) != 0 then some (GG (DJ ([0,1,2,3,4,5]:List Nat)[k]! a) (DJ ([0,1,2,3,4,5]:List Nat)[k]! b)) else none) 0 i m=IW l r:=by
    intro m
    induction m with
    | zero=>intro i l r hl hr _ _;cases l <;> cases r <;> simp_all [FR,IW]
    | succ m ih=>
      intro i l r hl hr h1 h2
      cases l with
      | nil=>simp at hl
      | cons x l=>
        cases r with
        | nil=>simp at hr
        | cons y r=>
          have e1:=h1 0 (by omega)
          have e2:=h2 0 (by omega)
          simp only [List.getElem!_cons_zero,Nat.add_zero] at e1 e2
          unfold FR IW
          rw [← e1,← e2]
          have ih':=ih (i+1) l r (by simpa using hl) (by simpa using hr) (fun k hk=>by have:=h1 (k+1) (by omega);rw [List.getElem!_cons_succ] at this;rw [this];congr 2;omega) (fun k hk=>by have:=h2 (k+1) (by omega);rw [List.getElem!_cons_succ] at this;rw [this];congr 2;omega)
          rcases cmpI_cases x y with ⟨h,e⟩|⟨h,e⟩|⟨h,e⟩
          · rw [e,if_pos h];rfl
          · subst h;rw [e,if_neg (show ¬ (x<x) by omega),if_neg (show ¬ (x<x) by omega)];exact ih'
          · rw [e,if_neg (show ¬ (x<y) by omega),if_pos h];rfl
  exact step 6 0 (IQ a) (IQ b) rfl rfl (by intro k hk;match k,hk with | 0,_=>rfl | 1,_=>rfl | 2,_=>rfl | 3,_=>rfl | 4,_=>rfl | 5,_=>rfl) (by intro k hk;match k,hk with | 0,_=>rfl | 1,_=>rfl | 2,_=>rfl | 3,_=>rfl | 4,_=>rfl | 5,_=>rfl)
theorem MC:∀ (a b c:List Int),a.length=b.length→b.length=c.length→IW a b<0→IW b c≤0→IW a c<0
  | [],[],[],_,_,h,_=>by simp [IW] at h
  | x :: a,y :: b,z :: c,h1,h2,h3,h4=>by
    unfold IW at h3 h4 ⊢
    have ih:=MC a b c (by simpa using h1) (by simpa using h2)
    by_cases xy:x<y
    · by_cases yz:z<y
      · rw [if_neg (by omega),if_pos yz] at h4;omega
      · rw [if_pos (by omega:x<z)];omega
    · rw [if_neg xy] at h3
      by_cases yx:y<x
      · rw [if_pos yx] at h3;omega
      · rw [if_neg yx] at h3
        have e:x=y:=by omega
        subst e
        by_cases yz:x<z
        · rw [if_pos yz];omega
        · rw [if_neg yz] at h4 ⊢
          by_cases zy:z<x
          · rw [if_pos zy] at h4;omega
          · rw [if_neg zy] at h4 ⊢;exact ih h3 h4
  | [],_ :: _,_,h,_,_,_=>by simp at h
  | _ :: _,[],_,h,_,_,_=>by simp at h
  | _,[],_ :: _,_,h,_,_=>by simp at h
  | _,_ :: _,[],_,h,_,_=>by simp at h
theorem NM:∀ (a b:List Int),IW a b = - IW b a
  | [],[]=>rfl
  | [],_ :: _=>rfl
  | _ :: _,[]=>rfl
  | x :: a,y :: b=>by
    unfold IW
    by_cases h1:x<y
    · rw [if_pos h1,if_neg (by omega),if_pos h1]
    · by_cases h2:y<x
      · rw [if_neg h1,if_pos h2,if_pos h2];rfl
      · rw [if_neg h1,if_neg h2,if_neg h2,if_neg h1];exact NM a b
theorem NG:∀ (a b:List Int),a.length=b.length→IW a b=0→a=b
  | [],[],_,_=>rfl
  | x :: a,y :: b,h,h0=>by
    unfold IW at h0
    by_cases h1:x<y
    · rw [if_pos h1] at h0;omega
    · by_cases h2:y<x
      · rw [if_neg h1,if_pos h2] at h0;omega
      · rw [if_neg h1,if_neg h2] at h0
        rw [NG a b (by simpa using h) h0,show x=y by omega]
  | [],_ :: _,h,_=>by simp at h
  | _ :: _,[],h,_=>by simp at h
theorem cmp_anti (a b:DeviceOp):DK a b = - DK b a:=by rw [KB,KB];exact NM _ _
theorem cmp_eq {a b:DeviceOp} (h:DK a b=0):a=b:=by
  rw [KB] at h
  have:=NG (IQ a) (IQ b) rfl h
  simp only [IQ,List.cons.injEq] at this
  ext <;> simp_all
theorem cmp_self (a:DeviceOp):DK a a=0:=by have:=cmp_anti a a;omega
theorem KT {a b c:DeviceOp} (h1:DK a b<0) (h2:DK b c≤0):DK a c<0:=by
  rw [KB] at h1 h2 ⊢;exact MC (IQ a) (IQ b) (IQ c) rfl rfl h1 h2
def GD (l:List DeviceOp):Prop:=l.Pairwise (fun a b=>DK a b<0)
theorem JH {l:List DeviceOp} (h:CE l=0):l.length≤256∧DF l=true∧∀ k,k<l.length→FO l k=false:=by
  unfold CE at h
  split at h
  · cases h
  · rename_i hh
    have hh:(decide (256<(l.length:Int)) || !DF l)=false:=by simpa using hh
    simp only [dbs] at hh
    have key:∀ (m i:Nat),FR (fun k=>if FO l k then some (420:Int) else none) 0 i m=0→∀ k,i≤k→k<i+m→FO l k=false:=by
      intro m
      induction m with
      | zero=>intro i _ k h1 h2;omega
      | succ m ih=>
        intro i hs k h1 h2
        unfold FR at hs
        cases hb:FO l i with
        | true=>rw [hb] at hs;simp at hs
        | false=>
          rw [hb] at hs
          by_cases e:k=i
          · subst e;exact hb
          · exact ih (i+1) (by simpa using hs) k (by omega) (by omega)
    exact ⟨by omega,by simpa using hh.2,fun k hk=>key _ 0 h k (by omega) (by omega)⟩
theorem opBad_f {l:List DeviceOp} {k:Nat}:FO l k=false↔BO l[k]! = true∧(0<k→DK l[k - 1]! l[k]! < 0):=by
  unfold FO
  constructor
  · intro h
    simp only [dbs] at h
    exact ⟨by simpa using h.1,fun h0=>by have:=h.2;omega⟩
  · rintro ⟨h1,h2⟩
    simp only [h1,Bool.not_true,Bool.false_or]
    by_cases h0:0<k
    · have h3:=h2 h0
      rw [show decide (0≤DK l[k - 1]! l[k]!)=false from decide_eq_false (by omega),Bool.and_false]
    · simp [h0]
theorem sorted_idx {l:List DeviceOp} (h:∀ k,k<l.length→FO l k=false):∀ p q,p<q→q<l.length→DK l[p]! l[q]! < 0:=by
  intro p q hpq hq
  induction q with
  | zero=>omega
  | succ q ih=>
    have h1:=(opBad_f.1 (h (q+1) hq)).2 (by omega)
    simp only [Nat.add_sub_cancel] at h1
    by_cases e:p=q
    · subst e;exact h1
    · have h2:=ih (by omega) (by omega)
      exact KT h2 (by omega)
theorem KA {l:List DeviceOp} (h:CE l=0):∀ p q,p<q→q<l.length→DK l[p]! l[q]! < 0:=sorted_idx (JH h).2.2
theorem check_mono {l:List DeviceOp} (h:CE l=0) (o:DeviceOp):∀ p q,p<q→q<l.length→DK l[q]! o<0→DK l[p]! o<0:=fun p q h1 h2 h3=>KT (KA h p q h1 h2) (by omega)
def twM (l:List DeviceOp) (o:DeviceOp):Nat:=MR l o (fun a b=>DK a b)
def LZ (l:List DeviceOp) (o:DeviceOp):List DeviceOp:=l.take (twM l o)++[o]++l.drop (twM l o)
def CB (l:List DeviceOp) (o:DeviceOp):List DeviceOp × Int:=
  if CE l != 0 || !BO o then ([],420) else if l.contains o then (l,0) else if l.any (fun p=>CZ p == CZ o) then ([],420) else if (l.length:Int) == 256 then ([],2) else (LZ l o,0)
theorem add_1 {l:List DeviceOp} {o:DeviceOp} (h:CE l≠0):CB l o=([],420):=by unfold CB;rw [if_pos (by simp [h])]
theorem add_2 {l:List DeviceOp} {o:DeviceOp} (h:BO o=false):CB l o=([],420):=by unfold CB;rw [if_pos (by simp [h])]
theorem add_3 {l:List DeviceOp} {o:DeviceOp} (h:CE l=0) (h1:BO o=true) (h2:l.contains o=true):CB l o=(l,0):=by unfold CB;rw [if_neg (by simp [h,h1]),if_pos h2]
theorem add_4 {l:List DeviceOp} {o:DeviceOp} (h:CE l=0) (h1:BO o=true) (h2:l.contains o=false) (h3:l.any (fun p=>CZ p == CZ o)=true):CB l o=([],420):=by unfold CB;rw [if_neg (by simp [h,h1]),if_neg (by rw [h2];simp),if_pos h3]
theorem add_5 {l:List DeviceOp} {o:DeviceOp} (h:CE l=0) (h1:BO o=true) (h2:l.contains o=false) (h3:l.any (fun p=>CZ p == CZ o)=false) (h4:(l.length:Int)=256):CB l o=([],2):=by unfold CB;rw [if_neg (by simp [h,h1]),if_neg (by rw [h2];simp),if_neg (by rw [h3];simp),if_pos (by simp [h4])]
theorem add_6 {l:List DeviceOp} {o:DeviceOp} (h:CE l=0) (h1:BO o=true) (h2:l.contains o=false) (h3:l.any (fun p=>CZ p == CZ o)=false) (h4:(l.length:Int)≠256):CB l o=(LZ l o,0):=by unfold CB;rw [if_neg (by simp [h,h1]),if_neg (by rw [h2];simp),if_neg (by rw [h3];simp),if_neg (by simpa using h4)]
section
variable {a b:List DeviceOp} {p q:Nat}
end
def EO (c first:Int):Holding:=⟨c,first,0,false⟩
def FM (first:Int) (M:Int→Option Holding) (o:DeviceOp):Int→Option Holding:=
  let at_:=(M o.copy).getD (EO o.copy first)
  if ((o.token != at_.token+1 || o.device != at_.device) || at_.shown) then M
  else upM M o.copy (if o.kind == 2 then ⟨at_.copy,at_.device,o.token,true⟩ else ⟨at_.copy,o.to,o.token,at_.shown⟩)
def mapM (l:List DeviceOp) (first:Int):Nat→Int→Option Holding
  | 0=>noM
  | k+1=>FM first (mapM l first k) l[k]!
def DR (l:List DeviceOp) (first:Int) (c:Int):Holding:=(mapM l first l.length c).getD (EO c first)
def ET (l:List DeviceOp) (first:Int) (n:Nat):List Holding:=(List.range n).map fun (c:Nat)=>DR l first (c:Int)
theorem holdsM_succ (l:List DeviceOp) (first:Int) (n:Nat):ET l first (n+1)=ET l first n++[DR l first (n:Int)]:=by simp [ET,List.range_succ]
def AX (l:List DeviceOp) (copies first:Int):List Holding × Int:=
  if CE l != 0 then ([],420) else if (decide (copies<0) || decide (1024<copies)) || !CY first then ([],1) else (ET l first copies.toNat,0)
open Go.Fw Go.RowKit
set_option maxHeartbeats 4000000 in
set_option maxRecDepth 100000 in
theorem IT {O:List Nat} (n:Int) (w:World) (hO:∀ b∈O,b<w.heap.size):BV Try.prog 63 [vI n] w (fun v _=>v = .bool (CY n)):= by
 have s0:St w O w []:=St.start hO
 refine BI 9 Try.func63 rfl rfl oT (fun F0=>AF (AC kR (AB (AG (vO false) rfl (AD (AA (AF (AC kR (AB (AH (vI n) rfl (AB (IB .i64 n (0:Int) rfl rfl (AB (AH (vO (decide ((0:Int)≤n))) rfl (?_)))))))))))))))
 cases hb1:(decide ((0:Int)≤n))
 ·have hp2:n<(0:Int):=by simpa using hb1
  refine AW rfl (AW rfl (AB (BG (vO false) rfl rfl (AB (AG (vO false) rfl (AD (AA (AN (AY rfl (CM rfl rfl rfl) (?_))))))))))
  have e:(CY n)=false:=by simp [CY, *]
  exact ⟨_,rfl,s0.keep,(by exact congrArg vO e.symm)⟩
 have hp3:(0:Int)≤n:=by simpa using hb1
 refine BC rfl (AH (vI n) rfl (BC rfl (DG .i64 n (4:Int) rfl rfl (AB (BF (vO (decide (n<(4:Int)))) rfl rfl (AB (AG (vO (decide (n<(4:Int)))) rfl (AD (AA (AN (AY rfl (CM rfl rfl rfl) (?_))))))))))))
 have e:(CY n)=(decide (n<(4:Int))):=by simp [CY, *]
 exact ⟨_,rfl,s0.keep,(by exact congrArg vO e.symm)⟩
set_option maxHeartbeats 4000000 in
set_option maxRecDepth 100000 in
theorem LL {O:List Nat} (o_cs:List Value) (o:DeviceOp) (w:World) (c9:Enc.devop.rd w O o_cs o) (hO:∀ b∈O,b<w.heap.size):BV Try.prog 54 [.agg o_cs.toArray] w (fun v _=>v = .bool (BO o)):= by
 obtain rfl:=c9
 have s0:St w O w []:=St.start hO
 refine BI 55 Try.func54 rfl rfl oT (fun F0=>AF (AC kR (AB (CQ (E:=Enc.devop) (vA #[vI o.device,vI o.no,vI o.kind,vI o.copy,vI o.to,vI o.token]) ([vI o.device,vI o.no,vI o.kind,vI o.copy,vI o.to,vI o.token]) o rfl rfl rfl s0 fun a4 w5 s6 m7 k8 hp9=>(AB (AG (vO false) rfl (AD (AA (AF (AF (AC kR (AB (AS 0 KI (o.device) rfl hp9 (fun _ _ _ h=>FN h) fun f7 b4=>(AB (BB U3_ rfl rfl b4 (AB (BD (vs:=[vI o.device]) MZ (IT (O:=[]++O) o.device w5 s6.lt) rfl s6 fun f8 d0 a0 d1 f9 d2=>(?_))))))))))))))))))
 obtain rfl:=d2
 have hp9:=hp9.mv d1
 refine AB (EF (CY o.device) rfl (AB (AH (vO (!(CY o.device))) rfl (?_))))
 cases a2:(!(CY o.device))
 ·have d5:(CY o.device)=true:=by simpa using a2
  refine BC rfl (AS 1 GZ (o.no) rfl hp9 (fun _ _ _ h=>DL h) fun g0 b5=>(BC rfl (BB U3_ rfl rfl b5 (BC rfl (DG .i64 o.no (1:Int) rfl rfl (AB (BG (vO (decide (o.no<(1:Int)))) rfl rfl (AB (AH (vO (decide (o.no<(1:Int)))) rfl (?_))))))))))
  cases a3:(decide (o.no<(1:Int)))
  ·have d6:(1:Int)≤o.no:=by simpa using a3
   refine BC rfl (AS 1 GZ (o.no) rfl hp9 (fun _ _ _ h=>DL h) fun g1 b6=>(BC rfl (BB U3_ rfl rfl b6 (BC rfl (HC .i64 o.no (65536:Int) rfl rfl (AB (BG (vO (decide ((65536:Int)<o.no))) rfl rfl (AB (AH (vO (decide ((65536:Int)<o.no))) rfl (?_))))))))))
   cases a5:(decide ((65536:Int)<o.no))
   ·have d7:o.no≤(65536:Int):=by simpa using a5
    refine BC rfl (AS 3 FU (o.copy) rfl hp9 (fun _ _ _ h=>CR h) fun g2 b7=>(BC rfl (BB U3_ rfl rfl b7 (BC rfl (DG .i64 o.copy (0:Int) rfl rfl (AB (BG (vO (decide (o.copy<(0:Int)))) rfl rfl (AB (AH (vO (decide (o.copy<(0:Int)))) rfl (?_))))))))))
    cases a6:(decide (o.copy<(0:Int)))
    ·have d8:(0:Int)≤o.copy:=by simpa using a6
     refine BC rfl (AS 3 FU (o.copy) rfl hp9 (fun _ _ _ h=>CR h) fun g3 b8=>(BC rfl (BB U3_ rfl rfl b8 (BC rfl (IB .i64 o.copy (1024:Int) rfl rfl (AB (BG (vO (decide ((1024:Int)≤o.copy))) rfl rfl (AB (AH (vO (decide ((1024:Int)≤o.copy))) rfl (?_))))))))))
     cases a7:(decide ((1024:Int)≤o.copy))
     ·have d9:o.copy<(1024:Int):=by simpa using a7
      refine BC rfl (AS 5 MV (o.token) rfl hp9 (fun _ _ _ h=>FP h) fun g4 b9=>(BC rfl (BB U3_ rfl rfl b9 (BC rfl (DG .i64 o.token (1:Int) rfl rfl (AB (BG (vO (decide (o.token<(1:Int)))) rfl rfl (AB (AH (vO (decide (o.token<(1:Int)))) rfl (?_))))))))))
      cases a8:(decide (o.token<(1:Int)))
      ·have e0:(1:Int)≤o.token:=by simpa using a8
       refine BC rfl (AS 5 MV (o.token) rfl hp9 (fun _ _ _ h=>FP h) fun g5 c2=>(BC rfl (BB U3_ rfl rfl c2 (BC rfl (HC .i64 o.token (65536:Int) rfl rfl (AB (BG (vO (decide ((65536:Int)<o.token))) rfl rfl (AD (AA (AP (decide ((65536:Int)<o.token)) rfl rfl (fun a1=>?_) (fun a1=>?_)))))))))))
       ·have e1:(65536:Int)<o.token:=by simpa using a1
        refine AF (AC kR (AB (AG (vO false) rfl (AD (AA (AN (AO (AY rfl (CM rfl rfl rfl) (?_)))))))))
        have e:(BO o)=false:=by (unfold BO;((repeat ((refine (if_pos ?_).trans ?_;solve|(simp only [dbs];(repeat (omega))))));rfl))
        exact ⟨_,rfl,a0.keep,(by exact congrArg vO e.symm)⟩
       have e2:o.token≤(65536:Int):=by simpa using a1
       refine AV (AA (AF (AC kR (AB (AS 2 HM (o.kind) rfl hp9 (fun _ _ _ h=>DU h) fun g6 c3=>(AB (BB U3_ rfl rfl c3 (AB (DB .i64 o.kind (1:Int) rfl rfl (AB (AH (vO (o.kind == (1:Int))) rfl (?_))))))))))))
       cases a9:(o.kind == (1:Int))
       ·have e3:o.kind≠(1:Int):=by simpa using a9
        refine AW rfl (AW rfl (AW rfl (AB (BG (vO false) rfl rfl (AB (AH (vO false) rfl (BC rfl (AS 2 HM (o.kind) rfl hp9 (fun _ _ _ h=>DU h) fun g7 c4=>(BC rfl (BB U3_ rfl rfl c4 (BC rfl (DB .i64 o.kind (2:Int) rfl rfl (BC rfl (AH (vO (o.kind == (2:Int))) rfl (?_)))))))))))))))
        cases b0:(o.kind == (2:Int))
        ·have e4:o.kind≠(2:Int):=by simpa using b0
         refine AW rfl (AW rfl (AW rfl (BC rfl (BG (vO false) rfl rfl (AB (BG (vO false) rfl rfl (AB (AG (vO false) rfl (AD (AA (AN (AY rfl (CM rfl rfl rfl) (?_)))))))))))))
         have e:(BO o)=false:=by (simp_all [BO];done)
         exact ⟨_,rfl,a0.keep,(by exact congrArg vO e.symm)⟩
        have e5:o.kind=(2:Int):=by simpa using b0
        refine BC rfl (AS 4 KM (o.to) rfl hp9 (fun _ _ _ h=>FK h) fun g8 c5=>(BC rfl (BB U3_ rfl rfl c5 (BC rfl (DB .i64 o.to (0:Int) rfl rfl (BC rfl (BF (vO (o.to == (0:Int))) rfl rfl (AB (BG (vO (o.to == (0:Int))) rfl rfl (AB (AG (vO (o.to == (0:Int))) rfl (AD (AA (AN (AY rfl (CM rfl rfl rfl) (?_))))))))))))))))
        have e:(BO o)=(o.to == (0:Int)):=by (simp_all [BO];done)
        exact ⟨_,rfl,a0.keep,(by exact congrArg vO e.symm)⟩
       have e6:o.kind=(1:Int):=by simpa using a9
       refine BC rfl (AS 4 KM (o.to) rfl hp9 (fun _ _ _ h=>FK h) fun g9 c6=>(BC rfl (BB U3_ rfl rfl c6 (BC rfl (BD (vs:=[vI o.to]) MZ (IT (O:=[]++O) o.to d0 a0.lt) rfl a0 fun h0 h1 b1 d3 h2 d4=>(?_))))))
       obtain rfl:=d4
       have hp9:=hp9.mv d3
       refine AB (BF (vO (CY o.to)) rfl rfl (AB (AH (vO (CY o.to)) rfl (?_))))
       cases b2:(CY o.to)
       ·have e7:(CY o.to)=false:=by simpa using b2
        refine BC rfl (AS 2 HM (o.kind) rfl hp9 (fun _ _ _ h=>DU h) fun h3 c7=>(BC rfl (BB U3_ rfl rfl c7 (BC rfl (DB .i64 o.kind (2:Int) rfl rfl (BC rfl (AH (vO (o.kind == (2:Int))) rfl (?_))))))))
        cases b3:(o.kind == (2:Int))
        ·have e8:o.kind≠(2:Int):=by simpa using b3
         refine AW rfl (AW rfl (AW rfl (BC rfl (BG (vO false) rfl rfl (AB (BG (vO false) rfl rfl (AB (AG (vO false) rfl (AD (AA (AN (AY rfl (CM rfl rfl rfl) (?_)))))))))))))
         have e:(BO o)=false:=by (simp_all [BO];done)
         exact ⟨_,rfl,b1.keep,(by exact congrArg vO e.symm)⟩
        have e9:o.kind=(2:Int):=by simpa using b3
        refine BC rfl (AS 4 KM (o.to) rfl hp9 (fun _ _ _ h=>FK h) fun h4 c8=>(BC rfl (BB U3_ rfl rfl c8 (BC rfl (DB .i64 o.to (0:Int) rfl rfl (BC rfl (BF (vO (o.to == (0:Int))) rfl rfl (AB (BG (vO (o.to == (0:Int))) rfl rfl (AB (AG (vO (o.to == (0:Int))) rfl (AD (AA (AN (AY rfl (CM rfl rfl rfl) (?_))))))))))))))))
        have e:(BO o)=(o.to == (0:Int)):=by (simp_all [BO];done)
        exact ⟨_,rfl,b1.keep,(by exact congrArg vO e.symm)⟩
       have f0:(CY o.to)=true:=by simpa using b2
       refine AW rfl (AW rfl (AW rfl (AW rfl (wl_u rfl (wl_u rfl (wl_u rfl (AW rfl (AB (BF (vO true) rfl rfl (AB (AG (vO true) rfl (AD (AA (AN (AY rfl (CM rfl rfl rfl) (?_))))))))))))))))
       have e:(BO o)=true:=by (simp_all [BO];done)
       exact ⟨_,rfl,b1.keep,(by exact congrArg vO e.symm)⟩
      have f1:o.token<(1:Int):=by simpa using a8
      refine AW rfl (AW rfl (AW rfl (AB (BF (vO true) rfl rfl (AD (AA (AP true rfl rfl (fun _=>AF (AC kR (AB (AG (vO false) rfl (AD (AA (AN (AO (AY rfl (CM rfl rfl rfl) (?_)))))))))) (fun h=>by cases h))))))))
      have e:(BO o)=false:=by (unfold BO;((repeat ((refine (if_pos ?_).trans ?_;solve|(simp only [dbs];(repeat (omega))))));rfl))
      exact ⟨_,rfl,a0.keep,(by exact congrArg vO e.symm)⟩
     have f2:(1024:Int)≤o.copy:=by simpa using a7
     refine AW rfl (AW rfl (AW rfl (AB (BF (vO true) rfl rfl (AB (AH (vO true) rfl (AW rfl (AW rfl (AW rfl (AB (BF (vO true) rfl rfl (AD (AA (AP true rfl rfl (fun _=>AF (AC kR (AB (AG (vO false) rfl (AD (AA (AN (AO (AY rfl (CM rfl rfl rfl) (?_)))))))))) (fun h=>by cases h)))))))))))))))
     have e:(BO o)=false:=by (unfold BO;((repeat ((refine (if_pos ?_).trans ?_;solve|(simp only [dbs];(repeat (omega))))));rfl))
     exact ⟨_,rfl,a0.keep,(by exact congrArg vO e.symm)⟩
    have f3:o.copy<(0:Int):=by simpa using a6
    refine AW rfl (AW rfl (AW rfl (AB (BF (vO true) rfl rfl (AB (AH (vO true) rfl (AW rfl (AW rfl (AW rfl (AB (BF (vO true) rfl rfl (AB (AH (vO true) rfl (AW rfl (AW rfl (AW rfl (AB (BF (vO true) rfl rfl (AD (AA (AP true rfl rfl (fun _=>AF (AC kR (AB (AG (vO false) rfl (AD (AA (AN (AO (AY rfl (CM rfl rfl rfl) (?_)))))))))) (fun h=>by cases h))))))))))))))))))))))
    have e:(BO o)=false:=by (unfold BO;((repeat ((refine (if_pos ?_).trans ?_;solve|(simp only [dbs];(repeat (omega))))));rfl))
    exact ⟨_,rfl,a0.keep,(by exact congrArg vO e.symm)⟩
   have f4:(65536:Int)<o.no:=by simpa using a5
   refine AW rfl (AW rfl (AW rfl (AB (BF (vO true) rfl rfl (AB (AH (vO true) rfl (AW rfl (AW rfl (AW rfl (AB (BF (vO true) rfl rfl (AB (AH (vO true) rfl (AW rfl (AW rfl (AW rfl (AB (BF (vO true) rfl rfl (AB (AH (vO true) rfl (AW rfl (AW rfl (AW rfl (AB (BF (vO true) rfl rfl (AD (AA (AP true rfl rfl (fun _=>AF (AC kR (AB (AG (vO false) rfl (AD (AA (AN (AO (AY rfl (CM rfl rfl rfl) (?_)))))))))) (fun h=>by cases h)))))))))))))))))))))))))))))
   have e:(BO o)=false:=by (unfold BO;((repeat ((refine (if_pos ?_).trans ?_;solve|(simp only [dbs];(repeat (omega))))));rfl))
   exact ⟨_,rfl,a0.keep,(by exact congrArg vO e.symm)⟩
  have f5:o.no<(1:Int):=by simpa using a3
  refine AW rfl (AW rfl (AW rfl (AB (BF (vO true) rfl rfl (AB (AH (vO true) rfl (AW rfl (AW rfl (AW rfl (AB (BF (vO true) rfl rfl (AB (AH (vO true) rfl (AW rfl (AW rfl (AW rfl (AB (BF (vO true) rfl rfl (AB (AH (vO true) rfl (AW rfl (AW rfl (AW rfl (AB (BF (vO true) rfl rfl (AB (AH (vO true) rfl (AW rfl (AW rfl (AW rfl (AB (BF (vO true) rfl rfl (AD (AA (AP true rfl rfl (fun _=>AF (AC kR (AB (AG (vO false) rfl (AD (AA (AN (AO (AY rfl (CM rfl rfl rfl) (?_)))))))))) (fun h=>by cases h))))))))))))))))))))))))))))))))))))
  have e:(BO o)=false:=by (unfold BO;((repeat ((refine (if_pos ?_).trans ?_;solve|(simp only [dbs];(repeat (omega))))));rfl))
  exact ⟨_,rfl,a0.keep,(by exact congrArg vO e.symm)⟩
 have f6:(CY o.device)=false:=by simpa using a2
 refine AW rfl (AW rfl (AW rfl (AB (BF (vO true) rfl rfl (AB (AH (vO true) rfl (AW rfl (AW rfl (AW rfl (AB (BF (vO true) rfl rfl (AB (AH (vO true) rfl (AW rfl (AW rfl (AW rfl (AB (BF (vO true) rfl rfl (AB (AH (vO true) rfl (AW rfl (AW rfl (AW rfl (AB (BF (vO true) rfl rfl (AB (AH (vO true) rfl (AW rfl (AW rfl (AW rfl (AB (BF (vO true) rfl rfl (AB (AH (vO true) rfl (AW rfl (AW rfl (AW rfl (AB (BF (vO true) rfl rfl (AD (AA (AP true rfl rfl (fun _=>AF (AC kR (AB (AG (vO false) rfl (AD (AA (AN (AO (AY rfl (CM rfl rfl rfl) (?_)))))))))) (fun h=>by cases h)))))))))))))))))))))))))))))))))))))))))))
 have e:(BO o)=false:=by (unfold BO;((repeat ((refine (if_pos ?_).trans ?_;solve|(simp only [dbs];(repeat (first|omega|left))))));rfl))
 exact ⟨_,rfl,a0.keep,(by exact congrArg vO e.symm)⟩
set_option maxHeartbeats 4000000 in
set_option maxRecDepth 100000 in
theorem c_isNaN {O:List Nat} (x:Int) (w:World) (hO:∀ b∈O,b<w.heap.size):BV Try.prog 107 [vI x] w (fun v _=>v = .bool (false)):= by
 have s0:St w O w []:=St.start hO
 refine BI 6 Try.func107 rfl rfl oT (fun F0=>AF (AC kR (AB (AG (vO false) rfl (AD (AA (AF (AC kR (AB (AH (vI x) rfl (AB (AH (vI x) rfl (AB (ER .i64 x x rfl rfl (AB (AG (vO (x != x)) rfl (AD (AA (AN (AY rfl (CM rfl rfl rfl) (?_)))))))))))))))))))))
 have e:false=(x != x):=by simp
 exact ⟨_,rfl,s0.keep,(by exact congrArg vO e.symm)⟩
set_option maxHeartbeats 4000000 in
set_option maxRecDepth 100000 in
theorem c_cmpI {O:List Nat} (a:Int) (b:Int) (w:World) (hO:∀ b∈O,b<w.heap.size):BV Try.prog 104 [vI a,vI b] w (fun v _=>v=vI (GG a b)):= by
 have s0:St w O w []:=St.start hO
 refine BI 20 Try.func104 rfl rfl oT (fun F0=>AF (AC kR (AB (AG (vI 0) rfl (AD (AA (AF (AC kR (AB (AH (vI a) rfl (AB (BD (vs:=[vI a]) NF (c_isNaN (O:=[]++O) a w s0.lt) rfl s0 fun b1 a4 a3 b2 b3 a5=>(?_)))))))))))))
 obtain rfl:=a5
 refine AB (AG (vO false) rfl (AD (AA (AF (AC kR (AB (AH (vI b) rfl (AB (BD (vs:=[vI b]) NF (c_isNaN (O:=[]++O) b a4 a3.lt) rfl a3 fun b4 b5 a2 b6 b7 a6=>(?_))))))))))
 obtain rfl:=a6
 refine AB (AG (vO false) rfl (AD (AA (AF (AF (AC kR (AB (AH (vO false) rfl (AD (AA (AP false rfl rfl (fun h=>by cases h) (fun _=>AV (AA (AF (AF (AC kR (AB (AH (vO false) rfl (AD (AA (AP false rfl rfl (fun h=>by cases h) (fun _=>AV (AA (AF (AF (AC kR (AB (AH (vI a) rfl (AB (AH (vI b) rfl (AB (DG .i64 a b rfl rfl (AD (AA (AP (decide (a<b)) rfl rfl (fun a0=>?_) (fun a0=>?_))))))))))))))))))))))))))))))))))))
 ·have a7:a<b:=by simpa using a0
  refine AF (AC kR (AB (AG (vI (-1:Int)) rfl (AD (AA (AN (AO (AY rfl (CM rfl rfl rfl) (?_)))))))))
  have e:(GG a b)=(-1:Int):=by (unfold GG;((repeat ((refine (if_pos ?_).trans ?_;omega)));rfl))
  exact ⟨_,rfl,a2.keep,by rw [e];exact rfl⟩
 have a8:b≤a:=by simpa using a0
 refine AV (AA (AF (AF (AC kR (AB (AH (vI a) rfl (AB (AH (vI b) rfl (AB (HC .i64 a b rfl rfl (AD (AA (AP (decide (b<a)) rfl rfl (fun a1=>?_) (fun a1=>?_))))))))))))))
 ·have a9:b<a:=by simpa using a1
  refine AF (AC kR (AB (AG (vI 1) rfl (AD (AA (AN (AO (AY rfl (CM rfl rfl rfl) (?_)))))))))
  have e:(GG a b)=(1:Int):=by (unfold GG;((repeat (first|(refine (if_pos ?_).trans ?_;omega)|(refine (if_neg ?_).trans ?_;omega)));rfl))
  exact ⟨_,rfl,a2.keep,by rw [e];exact rfl⟩
 have b0:a≤b:=by simpa using a1
 refine AV (AA (AF (AC kR (AB (AG (vI 0) rfl (AD (AA (AN (AY rfl (CM rfl rfl rfl) (?_))))))))))
 have e:(GG a b)=(0:Int):=by (unfold GG;((repeat ((refine (if_neg ?_).trans ?_;omega)));rfl))
 exact ⟨_,rfl,a2.keep,by rw [e];exact rfl⟩
set_option maxHeartbeats 4000000 in
set_option maxRecDepth 100000 in
theorem c_key0 {O:List Nat} (o_cs:List Value) (o:DeviceOp) (w:World) (a3:Enc.devop.rd w O o_cs o) (hO:∀ b∈O,b<w.heap.size):BV Try.prog 91 [.agg o_cs.toArray] w (fun v _=>v=vI (DJ 0 o)):= by
 obtain rfl:=a3
 have s0:St w O w []:=St.start hO
 refine BI 5 Try.func91 rfl rfl oT (fun F0=>AF (AC kR (AB (CQ (E:=Enc.devop) (vA #[vI o.device,vI o.no,vI o.kind,vI o.copy,vI o.to,vI o.token]) ([vI o.device,vI o.no,vI o.kind,vI o.copy,vI o.to,vI o.token]) o rfl rfl rfl s0 fun a8 a4 a2 a5 a6 a0=>(AB (AG (vI 0) rfl (AD (AA (AF (AC kR (AB (AS 3 FU (o.copy) rfl a0 (fun _ _ _ h=>CR h) fun a7 a1=>(AB (BB U3_ rfl rfl a1 (AB (AG (vI o.copy) rfl (AD (AA (AN (AY rfl (CM rfl rfl rfl) (?_)))))))))))))))))))))
 have e:(DJ 0 o)=o.copy:=rfl
 exact ⟨_,rfl,a2.keep,by rw [e];exact rfl⟩
set_option maxHeartbeats 4000000 in
set_option maxRecDepth 100000 in
theorem c_key1 {O:List Nat} (o_cs:List Value) (o:DeviceOp) (w:World) (a3:Enc.devop.rd w O o_cs o) (hO:∀ b∈O,b<w.heap.size):BV Try.prog 92 [.agg o_cs.toArray] w (fun v _=>v=vI (DJ 1 o)):= by
 obtain rfl:=a3
 have s0:St w O w []:=St.start hO
 refine BI 5 Try.func92 rfl rfl oT (fun F0=>AF (AC kR (AB (CQ (E:=Enc.devop) (vA #[vI o.device,vI o.no,vI o.kind,vI o.copy,vI o.to,vI o.token]) ([vI o.device,vI o.no,vI o.kind,vI o.copy,vI o.to,vI o.token]) o rfl rfl rfl s0 fun a4 a5 a2 a6 a7 a0=>(AB (AG (vI 0) rfl (AD (AA (AF (AC kR (AB (AS 5 MV (o.token) rfl a0 (fun _ _ _ h=>FP h) fun a8 a1=>(AB (BB U3_ rfl rfl a1 (AB (AG (vI o.token) rfl (AD (AA (AN (AY rfl (CM rfl rfl rfl) (?_)))))))))))))))))))))
 have e:(DJ 1 o)=o.token:=rfl
 exact ⟨_,rfl,a2.keep,by rw [e];exact rfl⟩
set_option maxHeartbeats 4000000 in
set_option maxRecDepth 100000 in
theorem c_key2 {O:List Nat} (o_cs:List Value) (o:DeviceOp) (w:World) (a3:Enc.devop.rd w O o_cs o) (hO:∀ b∈O,b<w.heap.size):BV Try.prog 93 [.agg o_cs.toArray] w (fun v _=>v=vI (DJ 2 o)):= by
 obtain rfl:=a3
 have s0:St w O w []:=St.start hO
 refine BI 5 Try.func93 rfl rfl oT (fun F0=>AF (AC kR (AB (CQ (E:=Enc.devop) (vA #[vI o.device,vI o.no,vI o.kind,vI o.copy,vI o.to,vI o.token]) ([vI o.device,vI o.no,vI o.kind,vI o.copy,vI o.to,vI o.token]) o rfl rfl rfl s0 fun a4 a5 a2 a6 a7 a0=>(AB (AG (vI 0) rfl (AD (AA (AF (AC kR (AB (AS 0 KI (o.device) rfl a0 (fun _ _ _ h=>FN h) fun a8 a1=>(AB (BB U3_ rfl rfl a1 (AB (AG (vI o.device) rfl (AD (AA (AN (AY rfl (CM rfl rfl rfl) (?_)))))))))))))))))))))
 have e:(DJ 2 o)=o.device:=rfl
 exact ⟨_,rfl,a2.keep,by rw [e];exact rfl⟩
set_option maxHeartbeats 4000000 in
set_option maxRecDepth 100000 in
theorem c_key3 {O:List Nat} (o_cs:List Value) (o:DeviceOp) (w:World) (a3:Enc.devop.rd w O o_cs o) (hO:∀ b∈O,b<w.heap.size):BV Try.prog 94 [.agg o_cs.toArray] w (fun v _=>v=vI (DJ 3 o)):= by
 obtain rfl:=a3
 have s0:St w O w []:=St.start hO
 refine BI 5 Try.func94 rfl rfl oT (fun F0=>AF (AC kR (AB (CQ (E:=Enc.devop) (vA #[vI o.device,vI o.no,vI o.kind,vI o.copy,vI o.to,vI o.token]) ([vI o.device,vI o.no,vI o.kind,vI o.copy,vI o.to,vI o.token]) o rfl rfl rfl s0 fun a4 a5 a2 a6 a7 a0=>(AB (AG (vI 0) rfl (AD (AA (AF (AC kR (AB (AS 1 GZ (o.no) rfl a0 (fun _ _ _ h=>DL h) fun a8 a1=>(AB (BB U3_ rfl rfl a1 (AB (AG (vI o.no) rfl (AD (AA (AN (AY rfl (CM rfl rfl rfl) (?_)))))))))))))))))))))
 have e:(DJ 3 o)=o.no:=rfl
 exact ⟨_,rfl,a2.keep,by rw [e];exact rfl⟩
set_option maxHeartbeats 4000000 in
set_option maxRecDepth 100000 in
theorem c_key4 {O:List Nat} (o_cs:List Value) (o:DeviceOp) (w:World) (a3:Enc.devop.rd w O o_cs o) (hO:∀ b∈O,b<w.heap.size):BV Try.prog 95 [.agg o_cs.toArray] w (fun v _=>v=vI (DJ 4 o)):= by
 obtain rfl:=a3
 have s0:St w O w []:=St.start hO
 refine BI 5 Try.func95 rfl rfl oT (fun F0=>AF (AC kR (AB (CQ (E:=Enc.devop) (vA #[vI o.device,vI o.no,vI o.kind,vI o.copy,vI o.to,vI o.token]) ([vI o.device,vI o.no,vI o.kind,vI o.copy,vI o.to,vI o.token]) o rfl rfl rfl s0 fun a4 a5 a2 a6 a7 a0=>(AB (AG (vI 0) rfl (AD (AA (AF (AC kR (AB (AS 2 HM (o.kind) rfl a0 (fun _ _ _ h=>DU h) fun a8 a1=>(AB (BB U3_ rfl rfl a1 (AB (AG (vI o.kind) rfl (AD (AA (AN (AY rfl (CM rfl rfl rfl) (?_)))))))))))))))))))))
 have e:(DJ 4 o)=o.kind:=rfl
 exact ⟨_,rfl,a2.keep,by rw [e];exact rfl⟩
set_option maxHeartbeats 4000000 in
set_option maxRecDepth 100000 in
theorem c_key5 {O:List Nat} (o_cs:List Value) (o:DeviceOp) (w:World) (a3:Enc.devop.rd w O o_cs o) (hO:∀ b∈O,b<w.heap.size):BV Try.prog 96 [.agg o_cs.toArray] w (fun v _=>v=vI (DJ 5 o)):= by
 obtain rfl:=a3
 have s0:St w O w []:=St.start hO
 refine BI 5 Try.func96 rfl rfl oT (fun F0=>AF (AC kR (AB (CQ (E:=Enc.devop) (vA #[vI o.device,vI o.no,vI o.kind,vI o.copy,vI o.to,vI o.token]) ([vI o.device,vI o.no,vI o.kind,vI o.copy,vI o.to,vI o.token]) o rfl rfl rfl s0 fun a4 a5 a2 a6 a7 a0=>(AB (AG (vI 0) rfl (AD (AA (AF (AC kR (AB (AS 4 KM (o.to) rfl a0 (fun _ _ _ h=>FK h) fun a8 a1=>(AB (BB U3_ rfl rfl a1 (AB (AG (vI o.to) rfl (AD (AA (AN (AY rfl (CM rfl rfl rfl) (?_)))))))))))))))))))))
 have e:(DJ 5 o)=o.to:=rfl
 exact ⟨_,rfl,a2.keep,by rw [e];exact rfl⟩
def Enc.key:Enc Nat where
  size:=1
  rd:=fun w O cs x=>cs=[.func (.func (91+x)) #[] #[]]
  len:=fun h=>by subst h;rfl
  one:=fun h u hu=>by subst h;simp at hu;subst hu;rfl
  mv:=fun h _=>h
  sub:=fun h _=>h
theorem NZ {x:Nat} (hx:x<6) (xs:Array Value) (w:World):(callFunc (91+x) xs).run Try.prog w = .ok (.enter (91+x) xs) w:=by
  match x,hx with
  | 0,_=>exact enter_91 xs w
  | 1,_=>exact enter_92 xs w
  | 2,_=>exact enter_93 xs w
  | 3,_=>exact enter_94 xs w
  | 4,_=>exact enter_95 xs w
  | 5,_=>exact enter_96 xs w
theorem c_key {O:List Nat} (x:Nat) (hx:x<6) (cs:List Value) (o:DeviceOp) (w:World) (h:Enc.devop.rd w O cs o) (hO:∀ b∈O,b<w.heap.size):BV Try.prog (91+x) [.agg cs.toArray] w (fun v _=>v=vI (DJ x o)):=by
  match x,hx with
  | 0,_=>exact c_key0 cs o w h hO
  | 1,_=>exact c_key1 cs o w h hO
  | 2,_=>exact c_key2 cs o w h hO
  | 3,_=>exact c_key3 cs o w h hO
  | 4,_=>exact c_key4 cs o w h hO
  | 5,_=>exact c_key5 cs o w h hO
set_option maxHeartbeats 4000000 in
set_option maxRecDepth 100000 in
theorem c_chain {O:List Nat} (a_cs:List Value) (a:DeviceOp) (b_cs:List Value) (b:DeviceOp) (ns_v:Value) (ns:List Nat) (w:World) (d5:Enc.devop.rd w O a_cs a) (d6:Enc.devop.rd w O b_cs b) (a0:CG Enc.key w O ns_v ns) (hpre0:∀ k,k<ns.length→ns[k]! < 6) (hO:∀ b∈O,b<w.heap.size):BV Try.prog 90 [.agg a_cs.toArray, .agg b_cs.toArray,ns_v] w (fun v _=>v=vI (IV a b ns)):= by
 obtain rfl:=d5
 obtain rfl:=d6
 have d7:=a0.len_le
 have a0:CG Enc.key w ([]++O) ns_v ns:=a0
 have s0:St w O w []:=St.start hO
 refine BI 27 Try.func90 rfl rfl oT (fun F0=>AF (AC kR (AB (CQ (E:=Enc.devop) (vA #[vI a.device,vI a.no,vI a.kind,vI a.copy,vI a.to,vI a.token]) ([vI a.device,vI a.no,vI a.kind,vI a.copy,vI a.to,vI a.token]) a rfl rfl rfl s0 fun a7 e4 c6 c7 e5 a1=>(?_)))))
 have a0:=a0.mv c7
 refine AB (CQ (E:=Enc.devop) (vA #[vI b.device,vI b.no,vI b.kind,vI b.copy,vI b.to,vI b.token]) ([vI b.device,vI b.no,vI b.kind,vI b.copy,vI b.to,vI b.token]) b rfl rfl rfl c6 fun a8 e6 c8 b4 e7 a2=>(?_))
 have a0:=a0.mv b4
 have a1:=a1.mv b4
 refine AB (AG (vI 0) rfl (AD (AA (AF (AF (AC kR (AB (AH (ns_v) rfl (AB (DI U128_ rfl a0 (AB (AH (vI 0) rfl (AD (AA (BP (DW (fun mI FI wI=>∃ (k:Nat) (B:List Nat),k≤ns.length∧IV a b ns=FR (fun k=>if GG (DJ ns[k]! a) (DJ ns[k]! b) != 0 then some (GG (DJ ns[k]! a) (DJ ns[k]! b)) else none) 0 k (ns.length - k)∧mI=ns.length - k∧(∃ F1,FI=FQ F1 [(3,vP (some a7)),(4,vP (some a8)),(10,ns_v),(11,vI (ns.length:Int)),(12,vI ((k:Nat):Int)),(27,undef)])∧St w O wI B∧PT Enc.devop wI (B++O) (.pointer (some a7)) (a)∧PT Enc.devop wI (B++O) (.pointer (some a8)) (b)∧CG Enc.key wI (B++O) (ns_v) (ns)) (ns.length - (0)) ?_ ?_))))))))))))))))
 ·exact ⟨(0),[],oM,rfl,rfl,⟨_,AQ _ ⟨rfl,rfl,rfl,rfl,(by rfl),rfl,trivial⟩⟩,c8,a1,a2,a0⟩
 intro f8 F a6 hI
 clear a1 a2 a0
 obtain ⟨k,a4,hr0_0,hr0_1,f9,⟨g0,rfl⟩,b5,a1,a2,a0⟩:=hI
 refine AF (AC kR (AB (DG .i64 ((k:Nat):Int) (ns.length:Int) rfl rfl (AD (AA (AF (AP (decide (((k:Nat):Int)<(ns.length:Int))) rfl rfl (fun a9=>?_) (fun a9=>?_))))))))
 ·have d8:((k:Nat):Int)<(ns.length:Int):=by simpa using a9
  refine AV (AA (AF (BP (AF (AC kR (AB (DO U128_ s_121 .i64 ((k:Nat):Int) k rfl rfl rfl a0 oM fun e8 c3=>(AB (JW U121_ rfl rfl rfl c3 fun v_ hv_=>(?_))))))))))
  have hv_:[v_]=[_]:=hv_
  cases hv_
  refine AB (AG (vN (.func (91+(ns[k]!))) #[] #[]) rfl (AD (AA (AF (cw_draw' 5 _ _ [CT (vN (.func (91+(ns[k]!))) #[] #[]),CT (vA #[vI a.device,vI a.no,vI a.kind,vI a.copy,vI a.to,vI a.token]),CT (vI (DJ (ns[k]!) a)),CT (vN (.func (91+(ns[k]!))) #[] #[]),CT (vA #[vI b.device,vI b.no,vI b.kind,vI b.copy,vI b.to,vI b.token])] kR kR kR kR rfl rfl ⟨kI,kI,kI,kI,kI,trivial⟩ ⟨?_,?_,?_,?_,?_,trivial⟩ ?_)))))
  ·intro F1 w1 k1 hf hd
   obtain ⟨F2,rfl⟩:=AL (F:=F1) [(8,vN (.func (91+(ns[k]!))) #[] #[])] ⟨hf 8 kR,trivial⟩
   exact AJ rfl ((AH (vN (.func (91+(ns[k]!))) #[] #[]) rfl (⟨(Keep.refl _ _),rfl⟩)))
  ·intro F1 w1 k1 hf hd
   have k0:=(Keep.drew [] a6).trans k1
   have m1:Mv a4 a6 a4 w1:=Mv.of_keep k0
   have a1:=a1.mv m1
   obtain ⟨F2,rfl⟩:=AL (F:=F1) [(3,vP (some a7))] ⟨hf 3 kR,trivial⟩
   refine AJ rfl ((BZ U40_ rfl CH rfl a1 fun d9 c4=>(?_)))
   obtain rfl:=c4
   exact ⟨(Keep.refl _ _),rfl⟩
  ·intro F1 w1 k1 hf hd
   have k0:=(Keep.drew [] a6).trans k1
   have s1:=b5.call k0
   obtain ⟨F2,rfl⟩:=AL (F:=F1) [(16,vN (.func (91+(ns[k]!))) #[] #[]),(17,vA #[vI a.device,vI a.no,vI a.kind,vI a.copy,vI a.to,vI a.token])] ⟨hd 0 16 kR,hd 1 17 kR,trivial⟩
   refine AJ rfl ((EW (vs:=[vA #[vI a.device,vI a.no,vI a.kind,vI a.copy,vI a.to,vI a.token]]) [] [] [vA #[vI a.device,vI a.no,vI a.kind,vI a.copy,vI a.to,vI a.token]] (NZ (hpre0 _ oM)) rfl (c_key (O:=a4++O) (ns[k]!) (hpre0 _ oM) [vI a.device,vI a.no,vI a.kind,vI a.copy,vI a.to,vI a.token] a w1 rfl s1.lt) rfl rfl s1 fun e9 f0 f1 f2 c9 d0=>(?_)))
   obtain rfl:=d0
   exact ⟨c9,rfl⟩
  ·intro F1 w1 k1 hf hd
   obtain ⟨F2,rfl⟩:=AL (F:=F1) [(8,vN (.func (91+(ns[k]!))) #[] #[])] ⟨hf 8 kR,trivial⟩
   exact AJ rfl ((AH (vN (.func (91+(ns[k]!))) #[] #[]) rfl (⟨(Keep.refl _ _),rfl⟩)))
  ·intro F1 w1 k1 hf hd
   have k0:=(Keep.drew [] a6).trans k1
   have m1:Mv a4 a6 a4 w1:=Mv.of_keep k0
   have a2:=a2.mv m1
   obtain ⟨F2,rfl⟩:=AL (F:=F1) [(4,vP (some a8))] ⟨hf 4 kR,trivial⟩
   refine AJ rfl ((BZ U40_ rfl CH rfl a2 fun e0 c5=>(?_)))
   obtain rfl:=c5
   exact ⟨(Keep.refl _ _),rfl⟩
  intro d1 b6 b7 a5 a3
  have b8:=b5.call b7
  have b1:Mv a4 a6 a4 b6:=Mv.of_keep b7
  have a1:=a1.mv b1
  have a2:=a2.mv b1
  have a0:=a0.mv b1
  obtain ⟨F2,rfl⟩:=AL (F:=d1) [(3,vP (some a7)),(4,vP (some a8)),(10,ns_v),(11,vI (ns.length:Int)),(12,vI ((k:Nat):Int)),(27,undef),(18,vI (DJ (ns[k]!) a)),(19,vN (.func (91+(ns[k]!))) #[] #[]),(20,vA #[vI b.device,vI b.no,vI b.kind,vI b.copy,vI b.to,vI b.token])] ⟨a3 3 kR,a3 4 kR,a3 10 kR,a3 11 kR,a3 12 kR,a3 27 kR,a5 2 18 kR (by decide),a5 3 19 kR (by decide),a5 4 20 kR (by decide),trivial⟩
  clear a5 a3
  refine AB (EW (vs:=[vA #[vI b.device,vI b.no,vI b.kind,vI b.copy,vI b.to,vI b.token]]) [] [] [vA #[vI b.device,vI b.no,vI b.kind,vI b.copy,vI b.to,vI b.token]] (NZ (hpre0 _ oM)) rfl (c_key (O:=a4++O) (ns[k]!) (hpre0 _ oM) [vI b.device,vI b.no,vI b.kind,vI b.copy,vI b.to,vI b.token] b b6 rfl b8.lt) rfl rfl b8 fun f3 d2 b9 b2 f4 d3=>(?_))
  obtain rfl:=d3
  have a1:=a1.mv b2
  have a2:=a2.mv b2
  have a0:=a0.mv b2
  refine AB (BD (vs:=[vI (DJ (ns[k]!) a),vI (DJ (ns[k]!) b)]) enter_104 (c_cmpI (O:=a4++O) (DJ (ns[k]!) a) (DJ (ns[k]!) b) d2 b9.lt) rfl b9 fun f5 f6 c2 b3 f7 d4=>(?_))
  obtain rfl:=d4
  have a1:=a1.mv b3
  have a2:=a2.mv b3
  have a0:=a0.mv b3
  refine AB (AG (vI (GG (DJ (ns[k]!) a) (DJ (ns[k]!) b))) rfl (AD (AA (AF (AC kR (AB (AH (vI (GG (DJ (ns[k]!) a) (DJ (ns[k]!) b))) rfl (AB (ER .i64 (GG (DJ (ns[k]!) a) (DJ (ns[k]!) b)) (0:Int) rfl rfl (AD (AA (AP ((GG (DJ (ns[k]!) a) (DJ (ns[k]!) b)) != (0:Int)) rfl rfl (fun b0=>?_) (fun b0=>?_)))))))))))))
  ·have e1:GG (DJ (ns[k]!) a) (DJ (ns[k]!) b)≠(0:Int):=by simpa using b0
   refine AF (AC kR (AB (AH (vI (GG (DJ (ns[k]!) a) (DJ (ns[k]!) b))) rfl (AB (AG (vI (GG (DJ (ns[k]!) a) (DJ (ns[k]!) b))) rfl (AD (AA (AN (BK (AO (AO (BK (AO (AY rfl (CM rfl rfl rfl) (?_)))))))))))))))
   have e:(IV a b ns)=(GG (DJ (ns[k]!) a) (DJ (ns[k]!) b)):=by (rw [hr0_1];exact GO oM (by ((repeat ((refine (if_pos ?_).trans ?_;omega)));rfl)))
   exact ⟨_,rfl,c2.keep,by rw [e];exact rfl⟩
  have e2:GG (DJ (ns[k]!) a) (DJ (ns[k]!) b)=(0:Int):=by simpa using b0
  refine AV (BE (AA (AC kR (AB (CJ .i64 ((k:Nat):Int) (1:Int) (((k+1:Nat):Int)) rfl rfl (EI oM oM) (AB (AH (vI ((k+1:Nat):Int)) rfl (AD (AA (?_))))))))))
  exact ⟨_,oM,(k+1),a4,oM,(hr0_1.trans (GK oM (by ((repeat ((refine (if_neg ?_).trans ?_;solve|(simp only [dbs];(repeat (omega))))));rfl)))),rfl,⟨_,AQ _ ⟨rfl,rfl,rfl,rfl,(by rfl),rfl,trivial⟩⟩,c2,a1,a2,a0⟩
 have e3:(ns.length:Int)≤((k:Nat):Int):=by simpa using a9
 refine DV (CK (CK (DD (AA (AF (AC kR (AB (AG (vI 0) rfl (AD (AA (AN (AY rfl (CM rfl rfl rfl) (?_)))))))))))))
 have e:(IV a b ns)=(0:Int):=by (rw [hr0_1];exact IE oM)
 exact ⟨_,rfl,b5.keep,by rw [e];exact rfl⟩
set_option maxHeartbeats 4000000 in
set_option maxRecDepth 100000 in
theorem NT {O:List Nat} (a_cs:List Value) (a:DeviceOp) (b_cs:List Value) (b:DeviceOp) (w:World) (b3:Enc.devop.rd w O a_cs a) (b4:Enc.devop.rd w O b_cs b) (hO:∀ b∈O,b<w.heap.size):BV Try.prog 61 [.agg a_cs.toArray, .agg b_cs.toArray] w (fun v _=>v=vI (DK a b)):= by
 obtain rfl:=b3
 obtain rfl:=b4
 have s0:St w O w []:=St.start hO
 refine BI 9 Try.func61 rfl rfl oT (fun F0=>AF (AC kR (AB (CQ (E:=Enc.devop) (vA #[vI a.device,vI a.no,vI a.kind,vI a.copy,vI a.to,vI a.token]) ([vI a.device,vI a.no,vI a.kind,vI a.copy,vI a.to,vI a.token]) a rfl rfl rfl s0 fun b7 b8 a7 b9 c2 a0=>(AB (CQ (E:=Enc.devop) (vA #[vI b.device,vI b.no,vI b.kind,vI b.copy,vI b.to,vI b.token]) ([vI b.device,vI b.no,vI b.kind,vI b.copy,vI b.to,vI b.token]) b rfl rfl rfl a7 fun c3 c4 a8 a9 c5 a4=>(?_)))))))
 have a0:=a0.mv a9
 refine AB (AG (vI 0) rfl (AD (AA (AF (AC kR (AB (BZ U40_ rfl CH rfl a0 fun b5 a5=>(?_))))))))
 obtain rfl:=a5
 refine AB (BZ U40_ rfl CH rfl a4 fun b6 a6=>(?_))
 obtain rfl:=a6
 refine AB (MH (E:=Enc.key) (xs:=[.func 91, .func 92, .func 93, .func 94, .func 95, .func 96]) U128_ s_121 z_121 (by decide) [vN (.func 91) #[] #[],vN (.func 92) #[] #[],vN (.func 93) #[] #[],vN (.func 94) #[] #[],vN (.func 95) #[] #[],vN (.func 96) #[] #[]] [[vN (.func 91) #[] #[]],[vN (.func 92) #[] #[]],[vN (.func 93) #[] #[]],[vN (.func 94) #[] #[]],[vN (.func 95) #[] #[]],[vN (.func 96) #[] #[]]] [0,1,2,3,4,5] rfl rfl rfl (Parts.cons rfl rfl (Parts.cons rfl rfl (Parts.cons rfl rfl (Parts.cons rfl rfl (Parts.cons rfl rfl (Parts.cons rfl rfl (Parts.nil _ _ _))))))) oT a8 fun a2 b0 a3 c6 c7 a1=>(?_))
 have:=a1.len_le
 refine AB (BD (vs:=[vA #[vI a.device,vI a.no,vI a.kind,vI a.copy,vI a.to,vI a.token],vA #[vI b.device,vI b.no,vI b.kind,vI b.copy,vI b.to,vI b.token],a2]) enter_90 (c_chain (O:=[]++O) [vI a.device,vI a.no,vI a.kind,vI a.copy,vI a.to,vI a.token] a [vI b.device,vI b.no,vI b.kind,vI b.copy,vI b.to,vI b.token] b a2 ([0,1,2,3,4,5]) b0 rfl rfl a1 (by decide) a3.lt) rfl a3 fun c8 c9 b1 d0 d1 b2=>(?_))
 obtain rfl:=b2
 refine AB (AG (vI (IV a b ([0,1,2,3,4,5]))) rfl (AD (AA (AN (AY rfl (CM rfl rfl rfl) (?_))))))
 have e:(DK a b)=(IV a b ([0,1,2,3,4,5])):=rfl
 exact ⟨_,rfl,b1.keep,by rw [e];exact rfl⟩
set_option maxHeartbeats 4000000 in
set_option maxRecDepth 100000 in
theorem HK {O:List Nat} (o_cs:List Value) (o:DeviceOp) (w:World) (b1:Enc.devop.rd w O o_cs o) (hO:∀ b∈O,b<w.heap.size):BV Try.prog 59 [.agg o_cs.toArray] w (fun v w'=>∃ (x0:List Value),v = .agg x0.toArray∧Enc.devno.rd w' (O) x0 (CZ o)):= by
 obtain rfl:=b1
 have s0:St w O w []:=St.start hO
 refine BI 8 Try.func59 rfl rfl oT (fun F0=>AF (AC kR (AB (CQ (E:=Enc.devop) (vA #[vI o.device,vI o.no,vI o.kind,vI o.copy,vI o.to,vI o.token]) ([vI o.device,vI o.no,vI o.kind,vI o.copy,vI o.to,vI o.token]) o rfl rfl rfl s0 fun b2 b3 a5 b4 b5 a0=>(AB (BW [vI 0,vI 0] z_90 rfl a5 fun a6 b6 a7 a8 a9 b7 a1=>(?_)))))))
 clear a7
 have a0:=a0.mv a9
 refine AD (AA (AF (AC kR (AB (AS 0 KI (o.device) rfl a0 (fun _ _ _ h=>FN h) fun b8 a2=>(AB (BB U3_ rfl rfl a2 (AB (AS 1 GZ (o.no) rfl a0 (fun _ _ _ h=>DL h) fun b9 a3=>(AB (BB U3_ rfl rfl a3 (AB (DP (l:=[(0, .tmp 4),(1, .tmp 6)]) pl_90 z_90 rfl [(0,vI o.device,[vI o.device]),(1,vI o.no,[vI o.no])] [vI o.device,vI o.no] rfl ⟨_,rfl,rfl,oT,⟨_,rfl,rfl,oT,rfl⟩⟩ (BU (AR (vs:=[vI o.device,vI o.no]) (.agg #[vI o.device,vI o.no]) rfl rfl rfl s_90 (fun u hu=>by simp only [List.mem_cons,List.not_mem_nil,or_false] at hu;rcases hu with rfl|rfl <;> rfl) (by repeat (constructor)) a1 oT a8 fun c2 b0 c3 c4 a4=>(AD (AA (AN (AY rfl (GF (vs:=[vI o.device,vI o.no]) rfl rfl U90_ rfl s_90 rfl a4 rfl) (?_))))))))))))))))))))
 have e:(CZ o)=(⟨o.device,o.no⟩:DevNo):=rfl
 exact ⟨_,rfl,b0.keep,by rw [e];exact ⟨[vI o.device,vI o.no],rfl,Enc.out (B:=(a6 :: [])) rfl⟩⟩
set_option maxHeartbeats 4000000 in
set_option maxRecDepth 100000 in
theorem c_numbered {O:List Nat} (l_v:Value) (l:List DeviceOp) (w:World) (a0:CG Enc.devop w O l_v l) (hO:∀ b∈O,b<w.heap.size):BV Try.prog 70 [l_v] w (fun v _=>v = .bool (DF l)):= by
 have e1:=a0.len_le
 have a0:CG Enc.devop w ([]++O) l_v l:=a0
 have s0:St w O w []:=St.start hO
 refine BI 21 Try.func70 rfl rfl oT (fun F0=>AF (AC kR (AB (AG (vO false) rfl (AD (AA (AF (AC kR (AB (MB GR vO s0 fun a1 e9 b9 c2 c3 f0 b0=>(?_)))))))))))
 clear b9
 have a0:=a0.mv c3
 refine AB (AG (Value.map (some a1)) rfl (AD (AA (AF (AF (AC kR (AB (AH (l_v) rfl (AB (DI U26_ rfl a0 (AB (AH (vI 0) rfl (AD (AA (BP (DW (fun mI FI wI=>∃ (k:Nat) (B:List Nat),k≤l.length∧DF l=FR (fun k=>if (GQ l k (CZ l[k]!)).getD false then some false else none) true k (l.length - k)∧mI=l.length - k∧(∃ F1,FI=FQ F1 [(3,Value.map (some a1)),(7,l_v),(8,vI (l.length:Int)),(9,vI ((k:Nat):Int)),(21,undef)])∧St w O wI B∧CG Enc.devop wI (B++O) (l_v) (l)∧JC GR vO wI a1 (GQ l k)∧a1∈B) (l.length - (0)) ?_ ?_))))))))))))))))
 ·exact ⟨(0),(a1 :: []),oM,rfl,rfl,⟨_,AQ _ ⟨rfl,rfl,rfl,(by rfl),rfl,trivial⟩⟩,c2,a0,(by rw [show GQ l (0)=noM from rfl];exact b0),(by (repeat (exact List.mem_cons_self)))⟩
 intro f8 F f9 hI
 clear a0
 obtain ⟨k,a7,hr0_0,hr0_1,g0,⟨g1,rfl⟩,b8,a0,hbx_0_b248,c4⟩:=hI
 refine AF (AC kR (AB (DG .i64 ((k:Nat):Int) (l.length:Int) rfl rfl (AD (AA (AF (AP (decide (((k:Nat):Int)<(l.length:Int))) rfl rfl (fun a4=>?_) (fun a4=>?_))))))))
 ·have e2:((k:Nat):Int)<(l.length:Int):=by simpa using a4
  refine AV (AA (AF (BP (AF (AC kR (AB (DO U26_ CH .i64 ((k:Nat):Int) k rfl rfl rfl a0 oM fun f1 b1=>(AB (BZ U40_ rfl CH rfl b1 fun e3 b2=>(?_))))))))))
  obtain rfl:=b2
  refine AB (BW [vI 0,vI 0,vI 0,vI 0,vI 0,vI 0] HV rfl b8 fun a3 f2 c5 c6 c7 c8 b3=>(?_))
  have b4:CU a1 a3:=by show a1≠a3;have:=hbx_0_b248.lt;omega
  clear c5
  have a0:=a0.mv c7
  have hbx_0_b248:=hbx_0_b248.keep c8 (by simp)
  refine BU (AR (vs:=[vI ((l[k]!).device),vI ((l[k]!).no),vI ((l[k]!).kind),vI ((l[k]!).copy),vI ((l[k]!).to),vI ((l[k]!).token)]) (.agg #[vI ((l[k]!).device),vI ((l[k]!).no),vI ((l[k]!).kind),vI ((l[k]!).copy),vI ((l[k]!).to),vI ((l[k]!).token)]) rfl rfl rfl CH (fun u hu=>by simp only [List.mem_cons,List.not_mem_nil,or_false] at hu;rcases hu with rfl|rfl|rfl|rfl|rfl|rfl <;> rfl) (by repeat (constructor)) b3 oT c6 fun c9 a8 d0 d1 a2=>(?_))
  have a0:=a0.mv d0
  have hbx_0_b248:=hbx_0_b248.keep d1 (AT b4)
  refine AD (AA (AF (AF (AC kR (AB (AH (Value.map (some a1)) rfl (AB (AU (vs:=[vI ((l[k]!).device),vI ((l[k]!).no),vI ((l[k]!).kind),vI ((l[k]!).copy),vI ((l[k]!).to),vI ((l[k]!).token)]) U40_ rfl CH rfl a2 rfl (AB (BD (vs:=[vA #[vI ((l[k]!).device),vI ((l[k]!).no),vI ((l[k]!).kind),vI ((l[k]!).copy),vI ((l[k]!).to),vI ((l[k]!).token)]]) JO (HK (O:=(a3 :: a7)++O) [vI ((l[k]!).device),vI ((l[k]!).no),vI ((l[k]!).kind),vI ((l[k]!).copy),vI ((l[k]!).to),vI ((l[k]!).token)] (l[k]!) c9 rfl a8.lt) rfl a8 fun f3 d2 a6 d3 a9 d4=>(?_)))))))))))
  obtain ⟨e4,rfl,b5⟩:=d4
  obtain rfl:=b5
  have a0:=a0.mv d3
  have hbx_0_b248:=hbx_0_b248.keep a9 (by simp)
  have a2:=a2.keep a9 (by simp)
  refine AB (o_lookV1 (enc:=GR) (venc:=vO) (k:=(CZ (l[k]!))) (z0:=false) U123_ NB kR rfl rfl hbx_0_b248 (AD (AA (AP (((GQ l k) (CZ (l[k]!))).getD false) rfl rfl (fun a5=>?_) (fun a5=>?_)))))
  ·have e5:(((GQ l k) (CZ (l[k]!))).getD false)=true:=by simpa using a5
   refine AF (AC kR (AB (AG (vO false) rfl (AD (AA (AN (AO (BK (AO (AO (BK (AO (AY rfl (CM rfl rfl rfl) (?_))))))))))))))
   have e:(DF l)=false:=by (rw [hr0_1];exact GO oM (by ((repeat ((refine (if_pos ?_).trans ?_;omega)));rfl)))
   exact ⟨_,rfl,a6.keep,(by exact congrArg vO e.symm)⟩
  have e6:(((GQ l k) (CZ (l[k]!))).getD false)=false:=by simpa using a5
  refine AV (AA (AC kR (AB (AH (Value.map (some a1)) rfl (AB (AU (vs:=[vI ((l[k]!).device),vI ((l[k]!).no),vI ((l[k]!).kind),vI ((l[k]!).copy),vI ((l[k]!).to),vI ((l[k]!).token)]) U40_ rfl CH rfl a2 rfl (AB (BD (vs:=[vA #[vI ((l[k]!).device),vI ((l[k]!).no),vI ((l[k]!).kind),vI ((l[k]!).copy),vI ((l[k]!).to),vI ((l[k]!).token)]]) JO (HK (O:=(a3 :: a7)++O) [vI ((l[k]!).device),vI ((l[k]!).no),vI ((l[k]!).kind),vI ((l[k]!).copy),vI ((l[k]!).to),vI ((l[k]!).token)] (l[k]!) d2 rfl a6.lt) rfl a6 fun f4 f5 d5 d6 d7 d8=>(?_)))))))))
  obtain ⟨e7,rfl,b6⟩:=d8
  obtain rfl:=b6
  have a0:=a0.mv d6
  have hbx_0_b248:=hbx_0_b248.keep d7 (by simp)
  refine BU (o_updV (enc:=GR) (venc:=vO) (k:=(CZ (l[k]!))) (a:=true) U123_ NB rfl rfl rfl hbx_0_b248 rC d5 fun f6 d9 e0 f7 b7=>(?_))
  have a0:=a0.mv e0
  refine AD (BE (AA (AC kR (AB (CJ .i64 ((k:Nat):Int) (1:Int) (((k+1:Nat):Int)) rfl rfl (EI oM oM) (AB (AH (vI ((k+1:Nat):Int)) rfl (AD (AA (?_))))))))))
  exact ⟨_,oM,(k+1),(a3 :: a7),oM,(hr0_1.trans (GK oM (by ((repeat ((refine (if_neg ?_).trans ?_;solve|(simp only [dbs];(repeat (omega))))));rfl)))),rfl,⟨_,AQ _ ⟨rfl,rfl,rfl,(by rfl),rfl,trivial⟩⟩,d9,a0,(by rw [show GQ l (k+1)=upM (GQ l k) (CZ (l[k]!)) true from rfl];exact b7),(by (repeat (first|assumption|apply List.mem_cons_of_mem)))⟩
 have e8:(l.length:Int)≤((k:Nat):Int):=by simpa using a4
 refine DV (CK (CK (DD (AA (AF (AC kR (AB (AG (vO true) rfl (AD (AA (AN (AY rfl (CM rfl rfl rfl) (?_)))))))))))))
 have e:(DF l)=true:=by (rw [hr0_1];exact IE oM)
 exact ⟨_,rfl,b8.keep,(by exact congrArg vO e.symm)⟩
open Go.Fw Go.RowKit
set_option maxHeartbeats 4000000 in
set_option maxRecDepth 100000 in
theorem KG {O:List Nat} (l_v:Value) (l:List DeviceOp) (w:World) (a0:CG Enc.devop w O l_v l) (hO:∀ b∈O,b<w.heap.size):BV Try.prog 29 [l_v] w (fun v _=>v=vI (CE l)):= by
 have g2:=a0.len_le
 have a0:CG Enc.devop w ([]++O) l_v l:=a0
 have s0:St w O w []:=St.start hO
 refine BI 38 Try.func29 rfl rfl oT (fun F0=>AF (AC kR (AB (AG (vI 0) rfl (AD (AA (AF (AF (AC kR (AB (AH (l_v) rfl (AB (DI U26_ rfl a0 (AB (HC .i64 (l.length:Int) (256:Int) rfl rfl (AB (AH (vO (decide ((256:Int)<(l.length:Int)))) rfl (?_))))))))))))))))))
 cases b7:(decide ((256:Int)<(l.length:Int)))
 ·have g3:(l.length:Int)≤(256:Int):=by simpa using b7
  refine BC rfl (AH (l_v) rfl (BC rfl (BD (vs:=[l_v]) enter_70 (c_numbered (O:=[]++O) l_v l w a0 s0.lt) rfl s0 fun h7 h8 b9 d4 h9 d5=>(?_))))
  obtain rfl:=d5
  have a0:=a0.mv d4
  refine BC rfl (EF (DF l) rfl (AB (BG (vO (!(DF l))) rfl rfl (AD (AA (AP (!(DF l)) rfl rfl (fun b2=>?_) (fun b2=>?_)))))))
  ·have g4:(DF l)=false:=by simpa using b2
   refine AF (AC kR (AB (AG (vI 420) rfl (AD (AA (AN (AO (AY rfl (CM rfl rfl rfl) (?_)))))))))
   have e:(CE l)=(420:Int):=by (unfold CE;((repeat ((refine (if_pos ?_).trans ?_;solve|(simp only [FO,dbs];(repeat ((right;omega)))))));rfl))
   exact ⟨_,rfl,b9.keep,by rw [e];exact rfl⟩
  have g5:(DF l)=true:=by simpa using b2
  refine AV (AA (AF (AF (AC kR (AB (AH (l_v) rfl (AB (DI U26_ rfl a0 (AB (AH (vI 0) rfl (AD (AA (BP (DW (fun mI FI wI=>∃ (k:Nat) (B:List Nat),k≤l.length∧CE l=FR (fun k=>if FO l k then some 420 else none) 0 k (l.length - k)∧mI=l.length - k∧(∃ F1,FI=FQ F1 [(0,l_v),(13,l_v),(14,vI (l.length:Int)),(15,vI ((k:Nat):Int)),(38,undef)])∧St w O wI B∧CG Enc.devop wI (B++O) (l_v) (l)) (l.length - (0)) ?_ ?_))))))))))))))
  ·exact ⟨(0),[],oM,(by unfold CE;((repeat ((refine (if_neg ?_).trans ?_;solve|(simp only [FO,dbs];(repeat (first|omega|assumption|(right;first|omega|assumption|(constructor <;> first|omega|assumption))|left)))|(rw [Bool.not_eq_true];simp only [FO,dbs];((repeat' apply And.intro) <;> omega)))));rfl)),rfl,⟨_,AQ _ ⟨rfl,rfl,rfl,(by rfl),rfl,trivial⟩⟩,b9,a0⟩
  intro k2 F k3 hI
  clear a0
  obtain ⟨k,a3,hr0_0,hr0_1,k4,⟨k5,rfl⟩,d3,a0⟩:=hI
  refine AF (AC kR (AB (DG .i64 ((k:Nat):Int) (l.length:Int) rfl rfl (AD (AA (AF (AP (decide (((k:Nat):Int)<(l.length:Int))) rfl rfl (fun b3=>?_) (fun b3=>?_))))))))
  ·have g6:((k:Nat):Int)<(l.length:Int):=by simpa using b3
   refine AV (AA (AF (BP (AF (AC kR (AB (AH (vI ((k:Nat):Int)) rfl (AB (DO U26_ CH .i64 ((k:Nat):Int) k rfl rfl rfl a0 oM fun i0 c7=>(AB (BZ U40_ rfl CH rfl c7 fun g7 c8=>(?_))))))))))))
   obtain rfl:=c8
   refine AB (BW [vI 0,vI 0,vI 0,vI 0,vI 0,vI 0] HV rfl d3 fun a1 i1 d6 d7 d8 i2 c9=>(?_))
   clear d6
   have a0:=a0.mv d8
   refine AB (AG (vI ((k:Nat):Int)) rfl (BU (AR (vs:=[vI ((l[k]!).device),vI ((l[k]!).no),vI ((l[k]!).kind),vI ((l[k]!).copy),vI ((l[k]!).to),vI ((l[k]!).token)]) (.agg #[vI ((l[k]!).device),vI ((l[k]!).no),vI ((l[k]!).kind),vI ((l[k]!).copy),vI ((l[k]!).to),vI ((l[k]!).token)]) rfl rfl rfl CH (fun u hu=>by simp only [List.mem_cons,List.not_mem_nil,or_false] at hu;rcases hu with rfl|rfl|rfl|rfl|rfl|rfl <;> rfl) (by repeat (constructor)) c9 oT d7 fun a4 b0 d9 i3 a2=>(?_))))
   have a0:=a0.mv d9
   refine AD (AA (AF (?_)))
   cases a8:(!(BO (l[k]!)))
   ·have g8:(BO (l[k]!))=true:=by simpa using a8
    cases b1:(decide ((0:Int)<((k:Nat):Int)))
    ·have g9:((k:Nat):Int)≤(0:Int):=by simpa using b1
     refine cw_draw' 13 _ _ [CT (vA #[vI ((l[k]!).device),vI ((l[k]!).no),vI ((l[k]!).kind),vI ((l[k]!).copy),vI ((l[k]!).to),vI ((l[k]!).token)]),CT (vO (BO (l[k]!))),CT (vO false),CT (vO false),CT (vI ((k:Nat):Int)),CT (vO false),CT (vO false),CT undef,CT undef,CT undef,CT undef,CT undef,CT undef] kR kR kR kR rfl rfl ⟨kI,kI,kI,kI,kI,kI,kI,kI,kI,kI,kI,kI,kI,trivial⟩ ⟨?_,?_,?_,?_,?_,?_,?_,?_,?_,?_,?_,?_,?_,trivial⟩ ?_
     ·intro F1 w1 k1 hf hd
      have k0:=(Keep.drew [] a4).trans k1
      have a2:=a2.keep k0 (by simp)
      obtain ⟨F2,rfl⟩:=AL (F:=F1) [(4,vP (some ⟨a1,0,none⟩))] ⟨hf 4 kR,trivial⟩
      exact AJ rfl ((AU (vs:=[vI ((l[k]!).device),vI ((l[k]!).no),vI ((l[k]!).kind),vI ((l[k]!).copy),vI ((l[k]!).to),vI ((l[k]!).token)]) U40_ rfl CH rfl a2 rfl (⟨(Keep.refl _ _),rfl⟩)))
     ·intro F1 w1 k1 hf hd
      have k0:=(Keep.drew [] a4).trans k1
      have s1:=b0.call k0
      obtain ⟨F2,rfl⟩:=AL (F:=F1) [(20,vA #[vI ((l[k]!).device),vI ((l[k]!).no),vI ((l[k]!).kind),vI ((l[k]!).copy),vI ((l[k]!).to),vI ((l[k]!).token)])] ⟨hd 0 20 kR,trivial⟩
      refine AJ rfl ((BD (vs:=[vA #[vI ((l[k]!).device),vI ((l[k]!).no),vI ((l[k]!).kind),vI ((l[k]!).copy),vI ((l[k]!).to),vI ((l[k]!).token)]]) JK (LL (O:=(a1 :: a3)++O) [vI ((l[k]!).device),vI ((l[k]!).no),vI ((l[k]!).kind),vI ((l[k]!).copy),vI ((l[k]!).to),vI ((l[k]!).token)] (l[k]!) w1 rfl s1.lt) rfl s1 fun i4 i5 i6 i7 e0 e1=>(?_)))
      obtain rfl:=e1
      exact ⟨e0,rfl⟩
     ·intro F1 w1 k1 hf hd
      obtain ⟨F2,rfl⟩:=AL (F:=F1) [(21,vO (BO (l[k]!)))] ⟨hd 1 21 kR,trivial⟩
      refine AJ rfl ((EF (BO (l[k]!)) rfl (?_)))
      exact ⟨(Keep.refl _ _),congrArg vO (a8)⟩
     ·intro F1 w1 k1 hf hd
      obtain ⟨F2,rfl⟩:=AL (F:=F1) [(22,vO false)] ⟨hd 2 22 kR,trivial⟩
      exact AJ rfl ((AH (vO false) rfl (⟨(Keep.refl _ _),rfl⟩)))
     ·intro F1 w1 k1 hf hd
      obtain ⟨F2,rfl⟩:=AL (F:=F1) [(3,vI ((k:Nat):Int)),(23,vO false)] ⟨hf 3 kR,hd 3 23 kR,trivial⟩
      exact DH rfl rfl ((AH (vI ((k:Nat):Int)) rfl (⟨(Keep.refl _ _),rfl⟩)))
     ·intro F1 w1 k1 hf hd
      obtain ⟨F2,rfl⟩:=AL (F:=F1) [(23,vO false),(24,vI ((k:Nat):Int))] ⟨hd 3 23 kR,hd 4 24 kR,trivial⟩
      refine DH rfl rfl ((HC .i64 ((k:Nat):Int) (0:Int) rfl rfl (?_)))
      exact ⟨(Keep.refl _ _),congrArg vO (b1)⟩
     ·intro F1 w1 k1 hf hd
      obtain ⟨F2,rfl⟩:=AL (F:=F1) [(23,vO false),(25,vO false)] ⟨hd 3 23 kR,hd 5 25 kR,trivial⟩
      exact DH rfl rfl ((AH (vO false) rfl (⟨(Keep.refl _ _),rfl⟩)))
     ·intro F1 w1 k1 hf hd
      exact DE rfl rfl (hd 6 26 kR) rfl rfl
     ·intro F1 w1 k1 hf hd
      exact DE rfl rfl (hd 6 26 kR) rfl rfl
     ·intro F1 w1 k1 hf hd
      exact DE rfl rfl (hd 6 26 kR) rfl rfl
     ·intro F1 w1 k1 hf hd
      exact DE rfl rfl (hd 6 26 kR) rfl rfl
     ·intro F1 w1 k1 hf hd
      exact DE rfl rfl (hd 6 26 kR) rfl rfl
     ·intro F1 w1 k1 hf hd
      exact DE rfl rfl (hd 6 26 kR) rfl rfl
     intro e2 e3 c2 b4 a5
     have e4:=b0.call c2
     have e5:Mv (a1 :: a3) a4 (a1 :: a3) e3:=Mv.of_keep c2
     have a0:=a0.mv e5
     obtain ⟨F2,rfl⟩:=AL (F:=e2) [(0,l_v),(13,l_v),(14,vI (l.length:Int)),(15,vI ((k:Nat):Int)),(38,undef),(23,vO false),(26,vO false)] ⟨a5 0 kR,a5 13 kR,a5 14 kR,a5 15 kR,a5 38 kR,b4 3 23 kR (by decide),b4 6 26 kR (by decide),trivial⟩
     clear b4 a5
     refine AW rfl (AW rfl (BC rfl (BG (vO false) rfl rfl (AB (BG (vO false) rfl rfl (AD (AA (AP false rfl rfl (fun h=>by cases h) (fun _=>AV (BE (AA (AC kR (AB (CJ .i64 ((k:Nat):Int) (1:Int) (((k+1:Nat):Int)) rfl rfl (EI oM oM) (AB (AH (vI ((k+1:Nat):Int)) rfl (AD (AA (?_)))))))))))))))))))
     exact ⟨_,oM,(k+1),(a1 :: a3),oM,(hr0_1.trans (GK oM (by ((repeat ((refine (if_neg ?_).trans ?_;solve|(simp only [FO,dbs];(repeat (first|omega|assumption|(right;first|omega|assumption|(constructor <;> first|omega|assumption))|left)))|(rw [Bool.not_eq_true];simp only [FO,dbs];((repeat' apply And.intro) <;> omega)))));rfl)))),rfl,⟨_,AQ _ ⟨rfl,rfl,rfl,(by rfl),rfl,trivial⟩⟩,e4,a0⟩
    have h0:(0:Int)<((k:Nat):Int):=by simpa using b1
    refine cw_draw' 13 _ _ [CT (vA #[vI ((l[k]!).device),vI ((l[k]!).no),vI ((l[k]!).kind),vI ((l[k]!).copy),vI ((l[k]!).to),vI ((l[k]!).token)]),CT (vO (BO (l[k]!))),CT (vO false),CT (vO false),CT (vI ((k:Nat):Int)),CT (vO true),CT (vO true),fun (vT:Value) (wT:World)=>CG Enc.devop wT ((a1 :: a3)++O) vT (l),CT (vI ((k:Nat):Int)),CT (vI ((k - 1:Nat):Int)),fun (vT:Value) (wT:World)=>∃ aT,vT = .pointer (some aT)∧PT Enc.devop wT ((a1 :: a3)++O) (.pointer (some aT)) (l[k - 1]!),CT (vA #[vI ((l[k - 1]!).device),vI ((l[k - 1]!).no),vI ((l[k - 1]!).kind),vI ((l[k - 1]!).copy),vI ((l[k - 1]!).to),vI ((l[k - 1]!).token)]),CT (vA #[vI ((l[k]!).device),vI ((l[k]!).no),vI ((l[k]!).kind),vI ((l[k]!).copy),vI ((l[k]!).to),vI ((l[k]!).token)])] kR kR kR kR rfl rfl ⟨kI,kI,kI,kI,kI,kI,kI,fun _ _ _ h k=>h.mv (Mv.of_keep k),kI,kI,fun _ _ _ ⟨a,e,h⟩ k=>⟨a,e,h.mv (Mv.of_keep k)⟩,kI,kI,trivial⟩ ⟨?_,?_,?_,?_,?_,?_,?_,?_,?_,?_,?_,?_,?_,trivial⟩ ?_
    ·intro F1 w1 k1 hf hd
     have k0:=(Keep.drew [] a4).trans k1
     have a2:=a2.keep k0 (by simp)
     obtain ⟨F2,rfl⟩:=AL (F:=F1) [(4,vP (some ⟨a1,0,none⟩))] ⟨hf 4 kR,trivial⟩
     exact AJ rfl ((AU (vs:=[vI ((l[k]!).device),vI ((l[k]!).no),vI ((l[k]!).kind),vI ((l[k]!).copy),vI ((l[k]!).to),vI ((l[k]!).token)]) U40_ rfl CH rfl a2 rfl (⟨(Keep.refl _ _),rfl⟩)))
    ·intro F1 w1 k1 hf hd
     have k0:=(Keep.drew [] a4).trans k1
     have s1:=b0.call k0
     obtain ⟨F2,rfl⟩:=AL (F:=F1) [(20,vA #[vI ((l[k]!).device),vI ((l[k]!).no),vI ((l[k]!).kind),vI ((l[k]!).copy),vI ((l[k]!).to),vI ((l[k]!).token)])] ⟨hd 0 20 kR,trivial⟩
     refine AJ rfl ((BD (vs:=[vA #[vI ((l[k]!).device),vI ((l[k]!).no),vI ((l[k]!).kind),vI ((l[k]!).copy),vI ((l[k]!).to),vI ((l[k]!).token)]]) JK (LL (O:=(a1 :: a3)++O) [vI ((l[k]!).device),vI ((l[k]!).no),vI ((l[k]!).kind),vI ((l[k]!).copy),vI ((l[k]!).to),vI ((l[k]!).token)] (l[k]!) w1 rfl s1.lt) rfl s1 fun i8 i9 j0 j1 e6 e7=>(?_)))
     obtain rfl:=e7
     exact ⟨e6,rfl⟩
    ·intro F1 w1 k1 hf hd
     obtain ⟨F2,rfl⟩:=AL (F:=F1) [(21,vO (BO (l[k]!)))] ⟨hd 1 21 kR,trivial⟩
     refine AJ rfl ((EF (BO (l[k]!)) rfl (?_)))
     exact ⟨(Keep.refl _ _),congrArg vO (a8)⟩
    ·intro F1 w1 k1 hf hd
     obtain ⟨F2,rfl⟩:=AL (F:=F1) [(22,vO false)] ⟨hd 2 22 kR,trivial⟩
     exact AJ rfl ((AH (vO false) rfl (⟨(Keep.refl _ _),rfl⟩)))
    ·intro F1 w1 k1 hf hd
     obtain ⟨F2,rfl⟩:=AL (F:=F1) [(3,vI ((k:Nat):Int)),(23,vO false)] ⟨hf 3 kR,hd 3 23 kR,trivial⟩
     exact DH rfl rfl ((AH (vI ((k:Nat):Int)) rfl (⟨(Keep.refl _ _),rfl⟩)))
    ·intro F1 w1 k1 hf hd
     obtain ⟨F2,rfl⟩:=AL (F:=F1) [(23,vO false),(24,vI ((k:Nat):Int))] ⟨hd 3 23 kR,hd 4 24 kR,trivial⟩
     refine DH rfl rfl ((HC .i64 ((k:Nat):Int) (0:Int) rfl rfl (?_)))
     exact ⟨(Keep.refl _ _),congrArg vO (b1)⟩
    ·intro F1 w1 k1 hf hd
     obtain ⟨F2,rfl⟩:=AL (F:=F1) [(23,vO false),(25,vO true)] ⟨hd 3 23 kR,hd 5 25 kR,trivial⟩
     exact DH rfl rfl ((AH (vO true) rfl (⟨(Keep.refl _ _),rfl⟩)))
    ·intro F1 w1 k1 hf hd
     have k0:=(Keep.drew [] a4).trans k1
     have m1:Mv (a1 :: a3) a4 (a1 :: a3) w1:=Mv.of_keep k0
     have a0:=a0.mv m1
     obtain ⟨F2,rfl⟩:=AL (F:=F1) [(0,l_v),(26,vO true)] ⟨hf 0 kR,hd 6 26 kR,trivial⟩
     exact DH rfl rfl ((AH (l_v) rfl (⟨(Keep.refl _ _),a0⟩)))
    ·intro F1 w1 k1 hf hd
     obtain ⟨F2,rfl⟩:=AL (F:=F1) [(3,vI ((k:Nat):Int)),(26,vO true)] ⟨hf 3 kR,hd 6 26 kR,trivial⟩
     exact DH rfl rfl ((AH (vI ((k:Nat):Int)) rfl (⟨(Keep.refl _ _),rfl⟩)))
    ·intro F1 w1 k1 hf hd
     obtain ⟨F2,rfl⟩:=AL (F:=F1) [(26,vO true),(28,vI ((k:Nat):Int))] ⟨hd 6 26 kR,hd 8 28 kR,trivial⟩
     exact DH rfl rfl ((o_sub .i64 ((k:Nat):Int) (1:Int) (((k - 1:Nat):Int)) rfl rfl (EI oM oM) (⟨(Keep.refl _ _),rfl⟩)))
    ·intro F1 w1 k1 hf hd
     obtain ⟨e8,e9,b8⟩:∃ v,F1 27=v∧CG Enc.devop w1 ((a1 :: a3)++O) v (l):=⟨_,rfl,hd 7 27 kR⟩
     have:=b8.len_le
     obtain ⟨F2,rfl⟩:=AL (F:=F1) [(26,vO true),(27,e8),(29,vI ((k - 1:Nat):Int))] ⟨hd 6 26 kR,e9,hd 9 29 kR,trivial⟩
     exact DH rfl rfl ((DO U26_ CH .i64 ((k - 1:Nat):Int) (k - 1) rfl rfl rfl b8 oM fun f0 d0=>(⟨(Keep.refl _ _),⟨f0,rfl,d0⟩⟩)))
    ·intro F1 w1 k1 hf hd
     obtain ⟨f1,f2,d1⟩:∃ aX_,F1 30 = .pointer (some aX_)∧PT Enc.devop w1 ((a1 :: a3)++O) (.pointer (some aX_)) (l[k - 1]!):=hd 10 30 kR
     obtain ⟨F2,rfl⟩:=AL (F:=F1) [(26,vO true),(30,vP (some f1))] ⟨hd 6 26 kR,f2,trivial⟩
     refine DH rfl rfl ((BZ U40_ rfl CH rfl d1 fun h1 d2=>(?_)))
     obtain rfl:=d2
     exact ⟨(Keep.refl _ _),rfl⟩
    ·intro F1 w1 k1 hf hd
     have k0:=(Keep.drew [] a4).trans k1
     have a2:=a2.keep k0 (by simp)
     obtain ⟨F2,rfl⟩:=AL (F:=F1) [(4,vP (some ⟨a1,0,none⟩)),(26,vO true)] ⟨hf 4 kR,hd 6 26 kR,trivial⟩
     exact DH rfl rfl ((AU (vs:=[vI ((l[k]!).device),vI ((l[k]!).no),vI ((l[k]!).kind),vI ((l[k]!).copy),vI ((l[k]!).to),vI ((l[k]!).token)]) U40_ rfl CH rfl a2 rfl (⟨(Keep.refl _ _),rfl⟩)))
    intro f3 c3 c4 a9 a6
    have c5:=b0.call c4
    have f4:Mv (a1 :: a3) a4 (a1 :: a3) c3:=Mv.of_keep c4
    have a0:=a0.mv f4
    obtain ⟨F2,rfl⟩:=AL (F:=f3) [(0,l_v),(13,l_v),(14,vI (l.length:Int)),(15,vI ((k:Nat):Int)),(38,undef),(23,vO false),(26,vO true),(31,vA #[vI ((l[k - 1]!).device),vI ((l[k - 1]!).no),vI ((l[k - 1]!).kind),vI ((l[k - 1]!).copy),vI ((l[k - 1]!).to),vI ((l[k - 1]!).token)]),(32,vA #[vI ((l[k]!).device),vI ((l[k]!).no),vI ((l[k]!).kind),vI ((l[k]!).copy),vI ((l[k]!).to),vI ((l[k]!).token)])] ⟨a6 0 kR,a6 13 kR,a6 14 kR,a6 15 kR,a6 38 kR,a9 3 23 kR (by decide),a9 6 26 kR (by decide),a9 11 31 kR (by decide),a9 12 32 kR (by decide),trivial⟩
    clear a9 a6
    refine BC rfl (BD (vs:=[vA #[vI ((l[k - 1]!).device),vI ((l[k - 1]!).no),vI ((l[k - 1]!).kind),vI ((l[k - 1]!).copy),vI ((l[k - 1]!).to),vI ((l[k - 1]!).token)],vA #[vI ((l[k]!).device),vI ((l[k]!).no),vI ((l[k]!).kind),vI ((l[k]!).copy),vI ((l[k]!).to),vI ((l[k]!).token)]]) enter_61 (NT (O:=(a1 :: a3)++O) [vI ((l[k - 1]!).device),vI ((l[k - 1]!).no),vI ((l[k - 1]!).kind),vI ((l[k - 1]!).copy),vI ((l[k - 1]!).to),vI ((l[k - 1]!).token)] (l[k - 1]!) [vI ((l[k]!).device),vI ((l[k]!).no),vI ((l[k]!).kind),vI ((l[k]!).copy),vI ((l[k]!).to),vI ((l[k]!).token)] (l[k]!) c3 rfl rfl c5.lt) rfl c5 fun j2 j3 c6 f5 j4 f6=>(?_))
    obtain rfl:=f6
    have a0:=a0.mv f5
    refine BC rfl (IB .i64 (DK (l[k - 1]!) (l[k]!)) (0:Int) rfl rfl (BC rfl (BF (vO (decide ((0:Int)≤DK (l[k - 1]!) (l[k]!)))) rfl rfl (AB (BG (vO (decide ((0:Int)≤DK (l[k - 1]!) (l[k]!)))) rfl rfl (AD (AA (AP (decide ((0:Int)≤DK (l[k - 1]!) (l[k]!))) rfl rfl (fun b5=>?_) (fun b5=>?_)))))))))
    ·have h2:(0:Int)≤DK (l[k - 1]!) (l[k]!):=by simpa using b5
     refine AF (AC kR (AB (AG (vI 420) rfl (AD (AA (AN (BK (AO (AO (BK (AO (AY rfl (CM rfl rfl rfl) (?_)))))))))))))
     have e:(CE l)=(420:Int):=by (rw [hr0_1];exact GO oM (by ((repeat ((refine (if_pos ?_).trans ?_;solve|(simp only [FO,dbs];(repeat (omega))))));rfl)))
     exact ⟨_,rfl,c6.keep,by rw [e];exact rfl⟩
    have h3:DK (l[k - 1]!) (l[k]!)<(0:Int):=by simpa using b5
    refine AV (BE (AA (AC kR (AB (CJ .i64 ((k:Nat):Int) (1:Int) (((k+1:Nat):Int)) rfl rfl (EI oM oM) (AB (AH (vI ((k+1:Nat):Int)) rfl (AD (AA (?_))))))))))
    exact ⟨_,oM,(k+1),(a1 :: a3),oM,(hr0_1.trans (GK oM (by ((repeat ((refine (if_neg ?_).trans ?_;solve|(simp only [FO,dbs];(repeat (first|omega|assumption|(right;first|omega|assumption|(constructor <;> first|omega|assumption))|left)))|(rw [Bool.not_eq_true];simp only [FO,dbs];((repeat' apply And.intro) <;> omega)))));rfl)))),rfl,⟨_,AQ _ ⟨rfl,rfl,rfl,(by rfl),rfl,trivial⟩⟩,c6,a0⟩
   have h4:(BO (l[k]!))=false:=by simpa using a8
   refine cw_draw' 13 _ _ [CT (vA #[vI ((l[k]!).device),vI ((l[k]!).no),vI ((l[k]!).kind),vI ((l[k]!).copy),vI ((l[k]!).to),vI ((l[k]!).token)]),CT (vO (BO (l[k]!))),CT (vO true),CT (vO true),CT undef,CT undef,CT undef,CT undef,CT undef,CT undef,CT undef,CT undef,CT undef] kR kR kR kR rfl rfl ⟨kI,kI,kI,kI,kI,kI,kI,kI,kI,kI,kI,kI,kI,trivial⟩ ⟨?_,?_,?_,?_,?_,?_,?_,?_,?_,?_,?_,?_,?_,trivial⟩ ?_
   ·intro F1 w1 k1 hf hd
    have k0:=(Keep.drew [] a4).trans k1
    have a2:=a2.keep k0 (by simp)
    obtain ⟨F2,rfl⟩:=AL (F:=F1) [(4,vP (some ⟨a1,0,none⟩))] ⟨hf 4 kR,trivial⟩
    exact AJ rfl ((AU (vs:=[vI ((l[k]!).device),vI ((l[k]!).no),vI ((l[k]!).kind),vI ((l[k]!).copy),vI ((l[k]!).to),vI ((l[k]!).token)]) U40_ rfl CH rfl a2 rfl (⟨(Keep.refl _ _),rfl⟩)))
   ·intro F1 w1 k1 hf hd
    have k0:=(Keep.drew [] a4).trans k1
    have s1:=b0.call k0
    obtain ⟨F2,rfl⟩:=AL (F:=F1) [(20,vA #[vI ((l[k]!).device),vI ((l[k]!).no),vI ((l[k]!).kind),vI ((l[k]!).copy),vI ((l[k]!).to),vI ((l[k]!).token)])] ⟨hd 0 20 kR,trivial⟩
    refine AJ rfl ((BD (vs:=[vA #[vI ((l[k]!).device),vI ((l[k]!).no),vI ((l[k]!).kind),vI ((l[k]!).copy),vI ((l[k]!).to),vI ((l[k]!).token)]]) JK (LL (O:=(a1 :: a3)++O) [vI ((l[k]!).device),vI ((l[k]!).no),vI ((l[k]!).kind),vI ((l[k]!).copy),vI ((l[k]!).to),vI ((l[k]!).token)] (l[k]!) w1 rfl s1.lt) rfl s1 fun j5 j6 j7 j8 f7 f8=>(?_)))
    obtain rfl:=f8
    exact ⟨f7,rfl⟩
   ·intro F1 w1 k1 hf hd
    obtain ⟨F2,rfl⟩:=AL (F:=F1) [(21,vO (BO (l[k]!)))] ⟨hd 1 21 kR,trivial⟩
    refine AJ rfl ((EF (BO (l[k]!)) rfl (?_)))
    exact ⟨(Keep.refl _ _),congrArg vO (a8)⟩
   ·intro F1 w1 k1 hf hd
    obtain ⟨F2,rfl⟩:=AL (F:=F1) [(22,vO true)] ⟨hd 2 22 kR,trivial⟩
    exact AJ rfl ((AH (vO true) rfl (⟨(Keep.refl _ _),rfl⟩)))
   ·intro F1 w1 k1 hf hd
    exact DE rfl rfl (hd 3 23 kR) rfl rfl
   ·intro F1 w1 k1 hf hd
    exact DE rfl rfl (hd 3 23 kR) rfl rfl
   ·intro F1 w1 k1 hf hd
    exact DE rfl rfl (hd 3 23 kR) rfl rfl
   ·intro F1 w1 k1 hf hd
    exact GL rfl rfl (hd 6 26 kR) rfl
   ·intro F1 w1 k1 hf hd
    exact GL rfl rfl (hd 6 26 kR) rfl
   ·intro F1 w1 k1 hf hd
    exact GL rfl rfl (hd 6 26 kR) rfl
   ·intro F1 w1 k1 hf hd
    exact GL rfl rfl (hd 6 26 kR) rfl
   ·intro F1 w1 k1 hf hd
    exact GL rfl rfl (hd 6 26 kR) rfl
   ·intro F1 w1 k1 hf hd
    exact GL rfl rfl (hd 6 26 kR) rfl
   intro f9 j9 g0 b6 a7
   have g1:=b0.call g0
   obtain ⟨F2,rfl⟩:=AL (F:=f9) [(0,l_v),(13,l_v),(14,vI (l.length:Int)),(15,vI ((k:Nat):Int)),(38,undef),(23,vO true),(26,undef)] ⟨a7 0 kR,a7 13 kR,a7 14 kR,a7 15 kR,a7 38 kR,b6 3 23 kR (by decide),b6 6 26 kR (by decide),trivial⟩
   clear b6 a7
   refine wl_u rfl (wl_u rfl (AW rfl (AB (BF (vO true) rfl rfl (AD (AA (AP true rfl rfl (fun _=>AF (AC kR (AB (AG (vI 420) rfl (AD (AA (AN (BK (AO (AO (BK (AO (AY rfl (CM rfl rfl rfl) (?_)))))))))))))) (fun h=>by cases h))))))))
   have e:(CE l)=(420:Int):=by (rw [hr0_1];exact GO oM (by ((repeat ((refine (if_pos ?_).trans ?_;solve|(simp only [FO,dbs];(repeat (first|omega|left))))));rfl)))
   exact ⟨_,rfl,g1.keep,by rw [e];exact rfl⟩
  have h5:(l.length:Int)≤((k:Nat):Int):=by simpa using b3
  refine DV (CK (CK (DD (AA (AF (AC kR (AB (AG (vI 0) rfl (AD (AA (AN (AY rfl (CM rfl rfl rfl) (?_)))))))))))))
  have e:(CE l)=(0:Int):=by (rw [hr0_1];exact IE oM)
  exact ⟨_,rfl,d3.keep,by rw [e];exact rfl⟩
 have h6:(256:Int)<(l.length:Int):=by simpa using b7
 refine AW rfl (AW rfl (AW rfl (AB (BF (vO true) rfl rfl (AD (AA (AP true rfl rfl (fun _=>AF (AC kR (AB (AG (vI 420) rfl (AD (AA (AN (AO (AY rfl (CM rfl rfl rfl) (?_)))))))))) (fun h=>by cases h))))))))
 have e:(CE l)=(420:Int):=by (unfold CE;((repeat ((refine (if_pos ?_).trans ?_;solve|(simp only [FO,dbs];(repeat (omega))))));rfl))
 exact ⟨_,rfl,s0.keep,by rw [e];exact rfl⟩
open Go.Fw Go.RowKit
set_option maxHeartbeats 4000000 in
set_option maxRecDepth 100000 in
theorem c_idxD {O:List Nat} (l_v:Value) (l:List DeviceOp) (o_cs:List Value) (o:DeviceOp) (w:World) (a0:CG Enc.devop w O l_v l) (b6:Enc.devop.rd w O o_cs o) (hO:∀ b∈O,b<w.heap.size):BV Try.prog 88 [l_v, .agg o_cs.toArray] w (fun v _=>v=vI (idxD l o)):= by
 have b8:=a0.len_le
 have a0:CG Enc.devop w ([]++O) l_v l:=a0
 obtain rfl:=b6
 have s0:St w O w []:=St.start hO
 refine BI 19 Try.func88 rfl rfl oT (fun F0=>AF (AC kR (AB (CQ (E:=Enc.devop) (vA #[vI o.device,vI o.no,vI o.kind,vI o.copy,vI o.to,vI o.token]) ([vI o.device,vI o.no,vI o.kind,vI o.copy,vI o.to,vI o.token]) o rfl rfl rfl s0 fun a4 c7 b3 b4 c8 a1=>(?_)))))
 have a0:=a0.mv b4
 refine AB (AG (vI 0) rfl (AD (AA (AF (AF (AC kR (AB (AH (l_v) rfl (AB (DI U26_ rfl a0 (AB (AH (vI 0) rfl (AD (AA (BP (DW (fun mI FI wI=>∃ (k:Nat) (B:List Nat),k≤l.length∧idxD l o=FR (fun k=>if o == l[k]! then some (k:Int) else none) (-1) k (l.length - k)∧mI=l.length - k∧(∃ F1,FI=FQ F1 [(0,l_v),(3,vP (some a4)),(7,vI (l.length:Int)),(8,vI ((k:Nat):Int)),(19,undef)])∧St w O wI B∧CG Enc.devop wI (B++O) (l_v) (l)∧PT Enc.devop wI (B++O) (.pointer (some a4)) (o)) (l.length - (0)) ?_ ?_))))))))))))))))
 ·exact ⟨(0),[],oM,rfl,rfl,⟨_,AQ _ ⟨rfl,rfl,rfl,(by rfl),rfl,trivial⟩⟩,b3,a0,a1⟩
 intro d0 F b7 hI
 clear a0 a1
 obtain ⟨k,a5,hr0_0,hr0_1,d1,⟨d2,rfl⟩,b2,a0,a1⟩:=hI
 refine AF (AC kR (AB (DG .i64 ((k:Nat):Int) (l.length:Int) rfl rfl (AD (AA (AF (AP (decide (((k:Nat):Int)<(l.length:Int))) rfl rfl (fun a2=>?_) (fun a2=>?_))))))))
 ·have b9:((k:Nat):Int)<(l.length:Int):=by simpa using a2
  refine AV (AA (AF (BP (AF (AC kR (AB (AH (vI ((k:Nat):Int)) rfl (AB (AG (vI ((k:Nat):Int)) rfl (AD (AA (AF (EZ 6 _ _ kR kR kR kR kR rfl rfl fun b5 a6=>?_)))))))))))))
  have a7:=b2.call a6
  have a8:Mv a5 b7 a5 b5:=Mv.of_keep a6
  have a0:=a0.mv a8
  have a1:=a1.mv a8
  refine CI (BZ U40_ rfl CH rfl a1 fun c2 a9=>(?_))
  obtain rfl:=a9
  refine CI (AH (l_v) rfl (CI (AH (vI ((k:Nat):Int)) rfl (CI (DO U26_ CH .i64 ((k:Nat):Int) k rfl rfl rfl a0 oM fun c9 b0=>(CI (BZ U40_ rfl CH rfl b0 fun c3 b1=>(?_))))))))
  obtain rfl:=b1
  refine CI (o_eqlF (ks:=[true,true,true,true,true,true]) [.inl o.device, .inl o.no, .inl o.kind, .inl o.copy, .inl o.to, .inl o.token] [.inl ((l[k]!).device), .inl ((l[k]!).no), .inl ((l[k]!).kind), .inl ((l[k]!).copy), .inl ((l[k]!).to), .inl ((l[k]!).token)] NS MS rfl rfl rfl rfl (cs_devop o (l[k]!)) (GA (AD (AA (AP (o == (l[k]!)) rfl rfl (fun a3=>?_) (fun a3=>?_))))))
  ·have c4:o=(l[k]!):=by simpa using a3
   refine AF (AC kR (AB (AH (vI ((k:Nat):Int)) rfl (AB (AG (vI ((k:Nat):Int)) rfl (AD (AA (AN (BK (AO (AO (BK (AO (AY rfl (CM rfl rfl rfl) (?_)))))))))))))))
   have e:(idxD l o)=((k:Nat):Int):=by (rw [hr0_1];exact GO oM (by ((repeat ((refine (if_pos ?_).trans ?_;omega)));rfl)))
   exact ⟨_,rfl,a7.keep,by rw [e];exact rfl⟩
  have c5:o≠(l[k]!):=by simpa using a3
  refine AV (BE (AA (AC kR (AB (CJ .i64 ((k:Nat):Int) (1:Int) (((k+1:Nat):Int)) rfl rfl (EI oM oM) (AB (AH (vI ((k+1:Nat):Int)) rfl (AD (AA (?_))))))))))
  exact ⟨_,oM,(k+1),a5,oM,(hr0_1.trans (GK oM (by ((repeat ((refine (if_neg ?_).trans ?_;solve|(simp only [dbs];(repeat (omega))))));rfl)))),rfl,⟨_,AQ _ ⟨rfl,rfl,rfl,(by rfl),rfl,trivial⟩⟩,a7,a0,a1⟩
 have c6:(l.length:Int)≤((k:Nat):Int):=by simpa using a2
 refine DV (CK (CK (DD (AA (AF (AC kR (AB (AG (vI (-1:Int)) rfl (AD (AA (AN (AY rfl (CM rfl rfl rfl) (?_)))))))))))))
 have e:(idxD l o)=(-1:Int):=by (rw [hr0_1];exact IE oM)
 exact ⟨_,rfl,b2.keep,by rw [e];exact rfl⟩
set_option maxHeartbeats 4000000 in
set_option maxRecDepth 100000 in
theorem c_containsD {O:List Nat} (l_v:Value) (l:List DeviceOp) (o_cs:List Value) (o:DeviceOp) (w:World) (a0:CG Enc.devop w O l_v l) (a8:Enc.devop.rd w O o_cs o) (hO:∀ b∈O,b<w.heap.size):BV Try.prog 55 [l_v, .agg o_cs.toArray] w (fun v _=>v = .bool (l.contains o)):= by
 have a9:=a0.len_le
 have a0:CG Enc.devop w ([]++O) l_v l:=a0
 obtain rfl:=a8
 have s0:St w O w []:=St.start hO
 refine BI 9 Try.func55 rfl rfl oT (fun F0=>AF (AC kR (AB (CQ (E:=Enc.devop) (vA #[vI o.device,vI o.no,vI o.kind,vI o.copy,vI o.to,vI o.token]) ([vI o.device,vI o.no,vI o.kind,vI o.copy,vI o.to,vI o.token]) o rfl rfl rfl s0 fun b1 a4 a1 a5 b2 a2=>(?_)))))
 have a0:=a0.mv a5
 refine AB (AG (vO false) rfl (AD (AA (AF (AC kR (AB (AH (l_v) rfl (AB (BZ U40_ rfl CH rfl a2 fun b0 a3=>(?_))))))))))
 obtain rfl:=a3
 refine AB (BD (vs:=[l_v,vA #[vI o.device,vI o.no,vI o.kind,vI o.copy,vI o.to,vI o.token]]) enter_88 (c_idxD (O:=[]++O) l_v l [vI o.device,vI o.no,vI o.kind,vI o.copy,vI o.to,vI o.token] o a4 a0 rfl a1.lt) rfl a1 fun b3 b4 a6 b5 b6 a7=>(?_))
 obtain rfl:=a7
 refine AB (IB .i64 (idxD l o) (0:Int) rfl rfl (AB (AG (vO (decide ((0:Int)≤idxD l o))) rfl (AD (AA (AN (AY rfl (CM rfl rfl rfl) (?_))))))))
 have e:(l.contains o)=(decide ((0:Int)≤idxD l o)):=by exact (idxD_pos _ _).symm
 exact ⟨_,rfl,a6.keep,(by exact congrArg vO e.symm)⟩
set_option maxHeartbeats 4000000 in
set_option maxRecDepth 100000 in
theorem c_add1 {O:List Nat} (p_cs:List Value) (p:DeviceOp) (o_a:Addr) (o:DeviceOp) (w:World) (c2:Enc.devop.rd w O p_cs p) (a0:PT Enc.devop w O (.pointer (some o_a)) o) (hO:∀ b∈O,b<w.heap.size):BV Try.prog 58 [.agg p_cs.toArray, .pointer (some o_a)] w (fun v _=>v = .bool (CZ p == CZ o)):= by
 obtain rfl:=c2
 have a0:PT Enc.devop w ([]++O) (.pointer (some o_a)) o:=a0
 have s0:St w O w []:=St.start hO
 refine BI 9 Try.func58 rfl rfl oT (fun F0=>AF (AC kR (AB (CQ (E:=Enc.devop) (vA #[vI p.device,vI p.no,vI p.kind,vI p.copy,vI p.to,vI p.token]) ([vI p.device,vI p.no,vI p.kind,vI p.copy,vI p.to,vI p.token]) p rfl rfl rfl s0 fun b1 a1 a5 b2 c7 a2=>(?_)))))
 have a0:=a0.mv b2
 refine AB (AG (vO false) rfl (AD (AA (AF (cw_draw' 3 _ _ [CT (vA #[vI p.device,vI p.no,vI p.kind,vI p.copy,vI p.to,vI p.token]),CT (vA #[vI ((CZ p).device),vI ((CZ p).no)]),CT (vA #[vI o.device,vI o.no,vI o.kind,vI o.copy,vI o.to,vI o.token])] kR kR kR kR rfl rfl ⟨kI,kI,kI,trivial⟩ ⟨?_,?_,?_,trivial⟩ ?_)))))
 ·intro F1 w1 k1 hf hd
  have k0:=(Keep.drew [] a1).trans k1
  have m1:Mv ([]) a1 ([]) w1:=Mv.of_keep k0
  have a2:=a2.mv m1
  obtain ⟨F2,rfl⟩:=AL (F:=F1) [(2,vP (some b1))] ⟨hf 2 kR,trivial⟩
  refine AJ rfl ((BZ U40_ rfl CH rfl a2 fun c3 a7=>(?_)))
  obtain rfl:=a7
  exact ⟨(Keep.refl _ _),rfl⟩
 ·intro F1 w1 k1 hf hd
  have k0:=(Keep.drew [] a1).trans k1
  have s1:=a5.call k0
  obtain ⟨F2,rfl⟩:=AL (F:=F1) [(4,vA #[vI p.device,vI p.no,vI p.kind,vI p.copy,vI p.to,vI p.token])] ⟨hd 0 4 kR,trivial⟩
  refine AJ rfl ((BD (vs:=[vA #[vI p.device,vI p.no,vI p.kind,vI p.copy,vI p.to,vI p.token]]) JO (HK (O:=[]++O) [vI p.device,vI p.no,vI p.kind,vI p.copy,vI p.to,vI p.token] p w1 rfl s1.lt) rfl s1 fun c8 c9 d0 d1 b3 b4=>(?_)))
  obtain ⟨c4,rfl,a8⟩:=b4
  obtain rfl:=a8
  exact ⟨b3,rfl⟩
 ·intro F1 w1 k1 hf hd
  have k0:=(Keep.drew [] a1).trans k1
  have m1:Mv ([]) a1 ([]) w1:=Mv.of_keep k0
  have a0:=a0.mv m1
  obtain ⟨F2,rfl⟩:=AL (F:=F1) [(1,vP (some o_a))] ⟨hf 1 kR,trivial⟩
  refine AJ rfl ((BZ U40_ rfl CH rfl a0 fun c5 a9=>(?_)))
  obtain rfl:=a9
  exact ⟨(Keep.refl _ _),rfl⟩
 intro b5 b6 b7 a3 a4
 have a6:=a5.call b7
 obtain ⟨F2,rfl⟩:=AL (F:=b5) [(3,vO false),(9,undef),(5,vA #[vI ((CZ p).device),vI ((CZ p).no)]),(6,vA #[vI o.device,vI o.no,vI o.kind,vI o.copy,vI o.to,vI o.token])] ⟨a4 3 kR,a4 9 kR,a3 1 5 kR (by decide),a3 2 6 kR (by decide),trivial⟩
 clear a3 a4
 refine AB (BD (vs:=[vA #[vI o.device,vI o.no,vI o.kind,vI o.copy,vI o.to,vI o.token]]) JO (HK (O:=[]++O) [vI o.device,vI o.no,vI o.kind,vI o.copy,vI o.to,vI o.token] o b6 rfl a6.lt) rfl a6 fun d2 d3 b8 d4 d5 b9=>(?_))
 obtain ⟨c6,rfl,b0⟩:=b9
 obtain rfl:=b0
 refine AB (o_eqlF (ks:=[true,true]) [.inl ((CZ p).device), .inl ((CZ p).no)] [.inl ((CZ o).device), .inl ((CZ o).no)] NL LR rfl rfl rfl rfl (cs_devno (CZ p) (CZ o)) (AB (AG (vO ((CZ p) == (CZ o))) rfl (AD (AA (AN (AY rfl (CM rfl rfl rfl) (?_))))))))
 have e:(CZ p == CZ o)=((CZ p) == (CZ o)):=rfl
 exact ⟨_,rfl,b8.keep,(by exact congrArg vO e.symm)⟩
set_option maxHeartbeats 4000000 in
set_option maxRecDepth 100000 in
theorem c_idxF {O:List Nat} (l_v:Value) (l:List DeviceOp) (f_v:Nat) (f_caps:List Value) (f:DeviceOp→Bool) (w:World) (a0:CG Enc.devop w O l_v l) (a5:∀ (vs_:Array Value) (w:World),(callFunc f_v vs_).run Try.prog w = .ok (.enter f_v vs_) w) (b1:∀ (w':World) (O':List Nat),Keep [] w w'→(∀ b∈O',b∈O∨w.heap.size≤b)→(∀ b∈O',b<w'.heap.size)→∀ (x_cs:List Value) (x:DeviceOp),Enc.devop.rd w' O' x_cs x→BV Try.prog f_v ([.agg x_cs.toArray]++f_caps) w' (fun v w2=>v = .bool (f x))) (hO:∀ b∈O,b<w.heap.size):BV Try.prog 89 [l_v, .func (.func f_v) #[] f_caps.toArray] w (fun v _=>v=vI (idxF l f)):= by
 have b3:=a0.len_le
 have a0:CG Enc.devop w ([]++O) l_v l:=a0
 have s0:St w O w []:=St.start hO
 refine BI 19 Try.func89 rfl rfl oT (fun F0=>AF (AC kR (AB (AG (vI 0) rfl (AD (AA (AF (AF (AC kR (AB (AH (l_v) rfl (AB (DI U26_ rfl a0 (AB (AH (vI 0) rfl (AD (AA (BP (DW (fun mI FI wI=>∃ (k:Nat) (B:List Nat),k≤l.length∧idxF l f=FR (fun k=>if f l[k]! then some (k:Int) else none) (-1) k (l.length - k)∧mI=l.length - k∧(∃ F1,FI=FQ F1 [(0,l_v),(1,vN (.func f_v) #[] f_caps.toArray),(7,vI (l.length:Int)),(8,vI ((k:Nat):Int)),(19,undef)])∧St w O wI B∧CG Enc.devop wI (B++O) (l_v) (l)) (l.length - (0)) ?_ ?_)))))))))))))))))))
 ·exact ⟨(0),[],oM,rfl,rfl,⟨_,AQ _ ⟨rfl,rfl,rfl,(by rfl),rfl,trivial⟩⟩,s0,a0⟩
 intro c5 F b2 hI
 clear a0
 obtain ⟨k,a8,hr0_0,hr0_1,c6,⟨c7,rfl⟩,a3,a0⟩:=hI
 refine AF (AC kR (AB (DG .i64 ((k:Nat):Int) (l.length:Int) rfl rfl (AD (AA (AF (AP (decide (((k:Nat):Int)<(l.length:Int))) rfl rfl (fun a1=>?_) (fun a1=>?_))))))))
 ·have b4:((k:Nat):Int)<(l.length:Int):=by simpa using a1
  refine AV (AA (AF (BP (AF (AC kR (AB (AH (vI ((k:Nat):Int)) rfl (AB (AG (vI ((k:Nat):Int)) rfl (AD (AA (AF (AC kR (AB (AH (vN (.func f_v) #[] f_caps.toArray) rfl (AB (AH (l_v) rfl (AB (AH (vI ((k:Nat):Int)) rfl (AB (DO U26_ CH .i64 ((k:Nat):Int) k rfl rfl rfl a0 oM fun b9 a6=>(AB (BZ U40_ rfl CH rfl a6 fun b5 a7=>(?_))))))))))))))))))))))))
  obtain rfl:=a7
  refine AB (EW [] f_caps [vA #[vI ((l[k]!).device),vI ((l[k]!).no),vI ((l[k]!).kind),vI ((l[k]!).copy),vI ((l[k]!).to),vI ((l[k]!).token)]] a5 rfl (b1 b2 (a8++O) a3.keep (fun b hb=>(List.mem_append.1 hb).elim (fun h=>.inr (a3.new b h).1) .inl) a3.lt [vI ((l[k]!).device),vI ((l[k]!).no),vI ((l[k]!).kind),vI ((l[k]!).copy),vI ((l[k]!).to),vI ((l[k]!).token)] (l[k]!) rfl) rfl rfl a3 fun c2 c3 a4 a9 c4 b0=>(?_))
  obtain rfl:=b0
  have a0:=a0.mv a9
  refine AD (AA (AP (f (l[k]!)) rfl rfl (fun a2=>?_) (fun a2=>?_)))
  ·have b6:(f (l[k]!))=true:=by simpa using a2
   refine AF (AC kR (AB (AH (vI ((k:Nat):Int)) rfl (AB (AG (vI ((k:Nat):Int)) rfl (AD (AA (AN (BK (AO (AO (BK (AO (AY rfl (CM rfl rfl rfl) (?_)))))))))))))))
   have e:(idxF l f)=((k:Nat):Int):=by (rw [hr0_1];exact GO oM (by ((repeat ((refine (if_pos ?_).trans ?_;omega)));rfl)))
   exact ⟨_,rfl,a4.keep,by rw [e];exact rfl⟩
  have b7:(f (l[k]!))=false:=by simpa using a2
  refine AV (BE (AA (AC kR (AB (CJ .i64 ((k:Nat):Int) (1:Int) (((k+1:Nat):Int)) rfl rfl (EI oM oM) (AB (AH (vI ((k+1:Nat):Int)) rfl (AD (AA (?_))))))))))
  exact ⟨_,oM,(k+1),a8,oM,(hr0_1.trans (GK oM (by ((repeat ((refine (if_neg ?_).trans ?_;solve|(simp only [dbs];(repeat (omega))))));rfl)))),rfl,⟨_,AQ _ ⟨rfl,rfl,rfl,(by rfl),rfl,trivial⟩⟩,a4,a0⟩
 have b8:(l.length:Int)≤((k:Nat):Int):=by simpa using a1
 refine DV (CK (CK (DD (AA (AF (AC kR (AB (AG (vI (-1:Int)) rfl (AD (AA (AN (AY rfl (CM rfl rfl rfl) (?_)))))))))))))
 have e:(idxF l f)=(-1:Int):=by (rw [hr0_1];exact IE oM)
 exact ⟨_,rfl,a3.keep,by rw [e];exact rfl⟩
set_option maxHeartbeats 4000000 in
set_option maxRecDepth 100000 in
theorem KZ {O:List Nat} (l_v:Value) (l:List DeviceOp) (f_v:Nat) (f_caps:List Value) (f:DeviceOp→Bool) (w:World) (a0:CG Enc.devop w O l_v l) (a1:∀ (vs_:Array Value) (w:World),(callFunc f_v vs_).run Try.prog w = .ok (.enter f_v vs_) w) (a4:∀ (w':World) (O':List Nat),Keep [] w w'→(∀ b∈O',b∈O∨w.heap.size≤b)→(∀ b∈O',b<w'.heap.size)→∀ (x_cs:List Value) (x:DeviceOp),Enc.devop.rd w' O' x_cs x→BV Try.prog f_v ([.agg x_cs.toArray]++f_caps) w' (fun v w2=>v = .bool (f x))) (hO:∀ b∈O,b<w.heap.size):BV Try.prog 57 [l_v, .func (.func f_v) #[] f_caps.toArray] w (fun v _=>v = .bool (l.any f)):= by
 have a5:=a0.len_le
 have a0:CG Enc.devop w ([]++O) l_v l:=a0
 have s0:St w O w []:=St.start hO
 refine BI 9 Try.func57 rfl rfl oT (fun F0=>AF (AC kR (AB (AG (vO false) rfl (AD (AA (AF (AC kR (AB (AH (l_v) rfl (AB (AH (vN (.func f_v) #[] f_caps.toArray) rfl (AB (BD (vs:=[l_v,vN (.func f_v) #[] f_caps.toArray]) enter_89 (c_idxF (O:=[]++O) l_v l f_v f_caps f w a0 a1 (fun w'_ O'_ kk_ hs_ hl_=>a4 w'_ O'_ (s0.keep.trans kk_) (fun b hb=>(hs_ b hb).elim (fun h=>(List.mem_append.1 h).elim (fun h=>.inr (s0.new b h).1) .inl) (fun h=>.inr (Nat.le_trans s0.keep.size h))) hl_) s0.lt) rfl s0 fun a6 a7 a2 a8 a9 a3=>(?_)))))))))))))))
 obtain rfl:=a3
 refine AB (IB .i64 (idxF l f) (0:Int) rfl rfl (AB (AG (vO (decide ((0:Int)≤idxF l f))) rfl (AD (AA (AN (AY rfl (CM rfl rfl rfl) (?_))))))))
 have e:(l.any f)=(decide ((0:Int)≤idxF l f)):=by exact (idxF_pos _ _).symm
 exact ⟨_,rfl,a2.keep,(by exact congrArg vO e.symm)⟩
set_option maxHeartbeats 4000000 in
set_option maxRecDepth 100000 in
theorem c_bsF {O:List Nat} (l_v:Value) (l:List DeviceOp) (o_cs:List Value) (o:DeviceOp) (f_v:Nat) (f_caps:List Value) (f:DeviceOp→DeviceOp→Int) (w:World) (a2:CG Enc.devop w O l_v l) (g1:Enc.devop.rd w O o_cs o) (b3:∀ (vs_:Array Value) (w:World),(callFunc f_v vs_).run Try.prog w = .ok (.enter f_v vs_) w) (d4:∀ (w':World) (O':List Nat),Keep [] w w'→(∀ b∈O',b∈O∨w.heap.size≤b)→(∀ b∈O',b<w'.heap.size)→∀ (x_cs:List Value) (x:DeviceOp) (y_cs:List Value) (y:DeviceOp),Enc.devop.rd w' O' x_cs x→Enc.devop.rd w' O' y_cs y→BV Try.prog f_v ([.agg x_cs.toArray, .agg y_cs.toArray]++f_caps) w' (fun v w2=>v=vI (f x y))) (hpre0:∀ p q,p<q→q<l.length→f l[q]! o<0→f l[p]! o<0) (hpre1:l.length≤4611686018427387903) (hO:∀ b∈O,b<w.heap.size):BV Try.prog 60 [l_v, .agg o_cs.toArray, .func (.func f_v) #[] f_caps.toArray] w (fun v _=>v = .tuple #[vI ((MR l o f:Nat):Int), .bool (bsG l o f)]):= by
 have g2:=a2.len_le
 have a2:CG Enc.devop w ([]++O) l_v l:=a2
 obtain rfl:=g1
 have s0:St w O w []:=St.start hO
 refine BI 49 Try.func60 rfl rfl oT (fun F0=>AF (AC kR (AB (CQ (E:=Enc.devop) (vA #[vI o.device,vI o.no,vI o.kind,vI o.copy,vI o.to,vI o.token]) ([vI o.device,vI o.no,vI o.kind,vI o.copy,vI o.to,vI o.token]) o rfl rfl rfl s0 fun a7 h5 d5 d6 h6 a0=>(?_)))))
 have a2:=a2.mv d6
 refine AB (AG (vI 0) rfl (AB (AG (vO false) rfl (AD (AA (AF (AC kR (AB (AH (l_v) rfl (AB (DI U26_ rfl a2 (AB (AG (vI (l.length:Int)) rfl (AD (AA (AF (AC kR (AB (AH (vI (l.length:Int)) rfl (AB (AG (vI 0) rfl (AB (AG (vI (l.length:Int)) rfl (AD (AA (AF (BP (DW (fun mI FI wI=>∃ (lo:Nat) (hi:Nat) (B:List Nat),lo≤hi∧hi≤l.length∧(∀ q,q<lo→f l[q]! o<0)∧(∀ q,hi≤q→q<l.length→0≤f l[q]! o)∧mI=hi - lo∧(∃ F1,FI=FQ F1 [(0,l_v),(2,vN (.func f_v) #[] f_caps.toArray),(4,vP (some a7)),(8,vI (l.length:Int)),(9,vI ((lo:Nat):Int)),(10,vI ((hi:Nat):Int)),(49,undef)])∧St w O wI B∧CG Enc.devop wI (B++O) (l_v) (l)∧PT Enc.devop wI (B++O) (.pointer (some a7)) (o)) ((l.length) - (0)) ?_ ?_))))))))))))))))))))))))))))
 ·exact ⟨(0),(l.length),[],oM,oM,(fun q hq=>by omega),(fun q h1 h2=>by omega),rfl,⟨_,AQ _ ⟨rfl,rfl,rfl,rfl,(by rfl),(by rfl),rfl,trivial⟩⟩,d5,a2,a0⟩
 intro i6 F a4 hI
 clear a2 a0
 obtain ⟨lo,hi,a1,hr0_0,hr0_1,hr0_2,hr0_3,i7,⟨i8,rfl⟩,b4,a2,a0⟩:=hI
 refine AF (AF (AC kR (AB (AH (vI ((lo:Nat):Int)) rfl (AB (AH (vI ((hi:Nat):Int)) rfl (AB (DG .i64 ((lo:Nat):Int) ((hi:Nat):Int) rfl rfl (AD (AA (AP (decide (((lo:Nat):Int)<((hi:Nat):Int))) rfl rfl (fun a8=>?_) (fun a8=>?_))))))))))))
 ·have g3:((lo:Nat):Int)<((hi:Nat):Int):=by simpa using a8
  refine AV (AA (BP (AF (AC kR (AB (AH (vI ((lo:Nat):Int)) rfl (AB (AH (vI ((hi:Nat):Int)) rfl (AB (CJ .i64 ((lo:Nat):Int) ((hi:Nat):Int) (((lo+hi:Nat):Int)) rfl rfl (EI oM oM) (AB (GH .i64 .u64 U3_ U119_ ((lo+hi:Nat):Int) (((lo+hi):Nat):Int) rfl (wrap_u64 oM) (AB (o_shrU .u64 (lo+hi) 1 oM rfl rfl (AB (GH .u64 .i64 U119_ U3_ (((lo+hi) / 2 ^ 1:Nat):Int) ((((lo+hi) / 2 ^ 1):Nat):Int) rfl (EI oM rfl) (AB (AG (vI (((lo+hi) / 2 ^ 1:Nat):Int)) rfl (AD (AA (AF (cw_draw' 6 _ _ [CT (vN (.func f_v) #[] f_caps.toArray),fun (vT:Value) (wT:World)=>CG Enc.devop wT (a1++O) vT (l),CT (vI (((lo+hi) / 2 ^ 1:Nat):Int)),fun (vT:Value) (wT:World)=>∃ aT,vT = .pointer (some aT)∧PT Enc.devop wT (a1++O) (.pointer (some aT)) (l[(lo+hi) / 2 ^ 1]!),CT (vA #[vI ((l[(lo+hi) / 2 ^ 1]!).device),vI ((l[(lo+hi) / 2 ^ 1]!).no),vI ((l[(lo+hi) / 2 ^ 1]!).kind),vI ((l[(lo+hi) / 2 ^ 1]!).copy),vI ((l[(lo+hi) / 2 ^ 1]!).to),vI ((l[(lo+hi) / 2 ^ 1]!).token)]),CT (vA #[vI o.device,vI o.no,vI o.kind,vI o.copy,vI o.to,vI o.token])] kR kR kR kR rfl rfl ⟨kI,fun _ _ _ h k=>h.mv (Mv.of_keep k),kI,fun _ _ _ ⟨a,e,h⟩ k=>⟨a,e,h.mv (Mv.of_keep k)⟩,kI,kI,trivial⟩ ⟨?_,?_,?_,?_,?_,?_,trivial⟩ ?_))))))))))))))))))))))
  ·intro F1 w1 k1 hf hd
   obtain ⟨F2,rfl⟩:=AL (F:=F1) [(2,vN (.func f_v) #[] f_caps.toArray)] ⟨hf 2 kR,trivial⟩
   exact AJ rfl ((AH (vN (.func f_v) #[] f_caps.toArray) rfl (⟨(Keep.refl _ _),rfl⟩)))
  ·intro F1 w1 k1 hf hd
   have k0:=(Keep.drew [] a4).trans k1
   have m1:Mv a1 a4 a1 w1:=Mv.of_keep k0
   have a2:=a2.mv m1
   obtain ⟨F2,rfl⟩:=AL (F:=F1) [(0,l_v)] ⟨hf 0 kR,trivial⟩
   exact AJ rfl ((AH (l_v) rfl (⟨(Keep.refl _ _),a2⟩)))
  ·intro F1 w1 k1 hf hd
   obtain ⟨F2,rfl⟩:=AL (F:=F1) [(11,vI (((lo+hi) / 2 ^ 1:Nat):Int))] ⟨hf 11 kR,trivial⟩
   exact AJ rfl ((AH (vI (((lo+hi) / 2 ^ 1:Nat):Int)) rfl (⟨(Keep.refl _ _),rfl⟩)))
  ·intro F1 w1 k1 hf hd
   obtain ⟨d7,d8,b5⟩:∃ v,F1 25=v∧CG Enc.devop w1 (a1++O) v (l):=⟨_,rfl,hd 1 25 kR⟩
   have:=b5.len_le
   obtain ⟨F2,rfl⟩:=AL (F:=F1) [(25,d7),(26,vI (((lo+hi) / 2 ^ 1:Nat):Int))] ⟨d8,hd 2 26 kR,trivial⟩
   exact AJ rfl ((DO U26_ CH .i64 (((lo+hi) / 2 ^ 1:Nat):Int) ((lo+hi) / 2 ^ 1) rfl rfl rfl b5 oM fun d9 c6=>(⟨(Keep.refl _ _),⟨d9,rfl,c6⟩⟩)))
  ·intro F1 w1 k1 hf hd
   obtain ⟨e0,e1,c7⟩:∃ aX_,F1 27 = .pointer (some aX_)∧PT Enc.devop w1 (a1++O) (.pointer (some aX_)) (l[(lo+hi) / 2 ^ 1]!):=hd 3 27 kR
   obtain ⟨F2,rfl⟩:=AL (F:=F1) [(27,vP (some e0))] ⟨e1,trivial⟩
   refine AJ rfl ((BZ U40_ rfl CH rfl c7 fun g4 c8=>(?_)))
   obtain rfl:=c8
   exact ⟨(Keep.refl _ _),rfl⟩
  ·intro F1 w1 k1 hf hd
   have k0:=(Keep.drew [] a4).trans k1
   have m1:Mv a1 a4 a1 w1:=Mv.of_keep k0
   have a0:=a0.mv m1
   obtain ⟨F2,rfl⟩:=AL (F:=F1) [(4,vP (some a7))] ⟨hf 4 kR,trivial⟩
   refine AJ rfl ((BZ U40_ rfl CH rfl a0 fun g5 c9=>(?_)))
   obtain rfl:=c9
   exact ⟨(Keep.refl _ _),rfl⟩
  intro e2 b9 c2 a5 a3
  have a9:=b4.call c2
  have c3:Mv a1 a4 a1 b9:=Mv.of_keep c2
  have a2:=a2.mv c3
  have a0:=a0.mv c3
  obtain ⟨F2,rfl⟩:=AL (F:=e2) [(0,l_v),(2,vN (.func f_v) #[] f_caps.toArray),(4,vP (some a7)),(8,vI (l.length:Int)),(9,vI ((lo:Nat):Int)),(10,vI ((hi:Nat):Int)),(11,vI (((lo+hi) / 2 ^ 1:Nat):Int)),(49,undef),(24,vN (.func f_v) #[] f_caps.toArray),(28,vA #[vI ((l[(lo+hi) / 2 ^ 1]!).device),vI ((l[(lo+hi) / 2 ^ 1]!).no),vI ((l[(lo+hi) / 2 ^ 1]!).kind),vI ((l[(lo+hi) / 2 ^ 1]!).copy),vI ((l[(lo+hi) / 2 ^ 1]!).to),vI ((l[(lo+hi) / 2 ^ 1]!).token)]),(29,vA #[vI o.device,vI o.no,vI o.kind,vI o.copy,vI o.to,vI o.token])] ⟨a3 0 kR,a3 2 kR,a3 4 kR,a3 8 kR,a3 9 kR,a3 10 kR,a3 11 kR,a3 49 kR,a5 0 24 kR (by decide),a5 4 28 kR (by decide),a5 5 29 kR (by decide),trivial⟩
  clear a5 a3
  refine AB (EW [] f_caps [vA #[vI ((l[(lo+hi) / 2 ^ 1]!).device),vI ((l[(lo+hi) / 2 ^ 1]!).no),vI ((l[(lo+hi) / 2 ^ 1]!).kind),vI ((l[(lo+hi) / 2 ^ 1]!).copy),vI ((l[(lo+hi) / 2 ^ 1]!).to),vI ((l[(lo+hi) / 2 ^ 1]!).token)],vA #[vI o.device,vI o.no,vI o.kind,vI o.copy,vI o.to,vI o.token]] b3 rfl (d4 b9 (a1++O) a9.keep (fun b hb=>(List.mem_append.1 hb).elim (fun h=>.inr (a9.new b h).1) .inl) a9.lt [vI ((l[(lo+hi) / 2 ^ 1]!).device),vI ((l[(lo+hi) / 2 ^ 1]!).no),vI ((l[(lo+hi) / 2 ^ 1]!).kind),vI ((l[(lo+hi) / 2 ^ 1]!).copy),vI ((l[(lo+hi) / 2 ^ 1]!).to),vI ((l[(lo+hi) / 2 ^ 1]!).token)] (l[(lo+hi) / 2 ^ 1]!) [vI o.device,vI o.no,vI o.kind,vI o.copy,vI o.to,vI o.token] o rfl rfl) rfl rfl a9 fun h7 h8 c4 c5 h9 e3=>(?_))
  obtain rfl:=e3
  have a2:=a2.mv c5
  have a0:=a0.mv c5
  refine AB (DG .i64 (f (l[(lo+hi) / 2 ^ 1]!) o) (0:Int) rfl rfl (AD (AA (AP (decide (f (l[(lo+hi) / 2 ^ 1]!) o<(0:Int))) rfl rfl (fun b0=>?_) (fun b0=>?_)))))
  ·have g6:f (l[(lo+hi) / 2 ^ 1]!) o<(0:Int):=by simpa using b0
   refine AC kR (AB (AH (vI (((lo+hi) / 2 ^ 1:Nat):Int)) rfl (AB (CJ .i64 (((lo+hi) / 2 ^ 1:Nat):Int) (1:Int) ((((lo+hi) / 2 ^ 1+1:Nat):Int)) rfl rfl (EI oM oM) (AB (AG (vI (((lo+hi) / 2 ^ 1+1:Nat):Int)) rfl (AD (BE (AA (?_))))))))))
   exact ⟨_,oM,((lo+hi) / 2 ^ 1+1),(hi),a1,oM,oM,(by exact bs2_lo hpre0 aS oM),(by exact hr0_3),rfl,⟨_,AQ _ ⟨rfl,rfl,rfl,rfl,(by rfl),(by rfl),rfl,trivial⟩⟩,c4,a2,a0⟩
  have g7:(0:Int)≤f (l[(lo+hi) / 2 ^ 1]!) o:=by simpa using b0
  refine AC kR (AB (AH (vI (((lo+hi) / 2 ^ 1:Nat):Int)) rfl (AB (AG (vI (((lo+hi) / 2 ^ 1:Nat):Int)) rfl (AD (BE (AA (?_))))))))
  exact ⟨_,oM,(lo),((lo+hi) / 2 ^ 1),a1,oM,oM,(by exact hr0_2),(by exact bs2_hi hpre0 aS),rfl,⟨_,AQ _ ⟨rfl,rfl,rfl,rfl,(by rfl),(by rfl),rfl,trivial⟩⟩,c4,a2,a0⟩
 have g8:((hi:Nat):Int)≤((lo:Nat):Int):=by simpa using a8
 obtain rfl:lo=hi:=by omega
 have htw:MR l o f=lo:=tw2_eq oM hr0_2 (fun h=>hr0_3 lo oM h)
 refine DV (CK (CK (DD (AA (AF (?_))))))
 cases a6:(decide (((lo:Nat):Int)<(l.length:Int)))
 ·have g9:(l.length:Int)≤((lo:Nat):Int):=by simpa using a6
  refine cw_draw' 15 _ _ [CT (vI ((lo:Nat):Int)),CT (vI ((lo:Nat):Int)),CT (vI (l.length:Int)),CT (vO false),CT (vO false),CT undef,CT undef,CT undef,CT undef,CT undef,CT undef,CT undef,CT undef,CT (vO false),CT (vI ((lo:Nat):Int))] kR kR kR kR rfl rfl ⟨kI,kI,kI,kI,kI,kI,kI,kI,kI,kI,kI,kI,kI,kI,kI,trivial⟩ ⟨?_,?_,?_,?_,?_,?_,?_,?_,?_,?_,?_,?_,?_,?_,?_,trivial⟩ ?_
  ·intro F1 w1 k1 hf hd
   obtain ⟨F2,rfl⟩:=AL (F:=F1) [(9,vI ((lo:Nat):Int))] ⟨hf 9 kR,trivial⟩
   exact AJ rfl ((AH (vI ((lo:Nat):Int)) rfl (⟨(Keep.refl _ _),rfl⟩)))
  ·intro F1 w1 k1 hf hd
   obtain ⟨F2,rfl⟩:=AL (F:=F1) [(9,vI ((lo:Nat):Int))] ⟨hf 9 kR,trivial⟩
   exact AJ rfl ((AH (vI ((lo:Nat):Int)) rfl (⟨(Keep.refl _ _),rfl⟩)))
  ·intro F1 w1 k1 hf hd
   obtain ⟨F2,rfl⟩:=AL (F:=F1) [(8,vI (l.length:Int))] ⟨hf 8 kR,trivial⟩
   exact AJ rfl ((AH (vI (l.length:Int)) rfl (⟨(Keep.refl _ _),rfl⟩)))
  ·intro F1 w1 k1 hf hd
   obtain ⟨F2,rfl⟩:=AL (F:=F1) [(36,vI ((lo:Nat):Int)),(37,vI (l.length:Int))] ⟨hd 1 36 kR,hd 2 37 kR,trivial⟩
   refine AJ rfl ((DG .i64 ((lo:Nat):Int) (l.length:Int) rfl rfl (?_)))
   exact ⟨(Keep.refl _ _),congrArg vO (a6)⟩
  ·intro F1 w1 k1 hf hd
   obtain ⟨F2,rfl⟩:=AL (F:=F1) [(38,vO false)] ⟨hd 3 38 kR,trivial⟩
   exact AJ rfl ((AH (vO false) rfl (⟨(Keep.refl _ _),rfl⟩)))
  ·intro F1 w1 k1 hf hd
   exact DE rfl rfl (hd 4 39 kR) rfl rfl
  ·intro F1 w1 k1 hf hd
   exact DE rfl rfl (hd 4 39 kR) rfl rfl
  ·intro F1 w1 k1 hf hd
   exact DE rfl rfl (hd 4 39 kR) rfl rfl
  ·intro F1 w1 k1 hf hd
   exact DE rfl rfl (hd 4 39 kR) rfl rfl
  ·intro F1 w1 k1 hf hd
   exact DE rfl rfl (hd 4 39 kR) rfl rfl
  ·intro F1 w1 k1 hf hd
   exact DE rfl rfl (hd 4 39 kR) rfl rfl
  ·intro F1 w1 k1 hf hd
   exact DE rfl rfl (hd 4 39 kR) rfl rfl
  ·intro F1 w1 k1 hf hd
   exact DE rfl rfl (hd 4 39 kR) rfl rfl
  ·intro F1 w1 k1 hf hd
   obtain ⟨F2,rfl⟩:=AL (F:=F1) [(39,vO false),(47,undef)] ⟨hd 4 39 kR,hd 12 47 kR,trivial⟩
   exact AJ rfl ((BG (vO false) rfl rfl (⟨(Keep.refl _ _),rfl⟩)))
  ·intro F1 w1 k1 hf hd
   obtain ⟨F2,rfl⟩:=AL (F:=F1) [(35,vI ((lo:Nat):Int))] ⟨hd 0 35 kR,trivial⟩
   exact AJ rfl ((AG (vI ((lo:Nat):Int)) rfl (⟨(Keep.refl _ _),rfl⟩)))
  intro e4 i0 e5 b1 b6
  have e6:=b4.call e5
  obtain ⟨F2,rfl⟩:=AL (F:=e4) [(49,undef),(6,vI ((lo:Nat):Int)),(48,vO false)] ⟨b6 49 kR,b1 14 6 kR (by decide),b1 13 48 kR (by decide),trivial⟩
  clear b1 b6
  refine AB (AG (vO false) rfl (AD (AA (AN (AY rfl (KL rfl rfl rfl rfl) (?_))))))
  have e7:(MR l o f)=lo:=by exact htw
  have e8:(bsG l o f)=false:=by (unfold bsG;rw [htw];simp only [dbs];omega)
  exact ⟨_,rfl,e6.keep,by rw [e7,e8];exact rfl⟩
 have h0:((lo:Nat):Int)<(l.length:Int):=by simpa using a6
 refine cw_draw' 15 _ _ [CT (vI ((lo:Nat):Int)),CT (vI ((lo:Nat):Int)),CT (vI (l.length:Int)),CT (vO true),CT (vO true),CT (vN (.func f_v) #[] f_caps.toArray),fun (vT:Value) (wT:World)=>CG Enc.devop wT (a1++O) vT (l),CT (vI ((lo:Nat):Int)),fun (vT:Value) (wT:World)=>∃ aT,vT = .pointer (some aT)∧PT Enc.devop wT (a1++O) (.pointer (some aT)) (l[lo]!),CT (vA #[vI ((l[lo]!).device),vI ((l[lo]!).no),vI ((l[lo]!).kind),vI ((l[lo]!).copy),vI ((l[lo]!).to),vI ((l[lo]!).token)]),CT (vA #[vI o.device,vI o.no,vI o.kind,vI o.copy,vI o.to,vI o.token]),CT (vI (f (l[lo]!) o)),CT (vO ((f (l[lo]!) o) == (0:Int))),CT (vO ((f (l[lo]!) o) == (0:Int))),CT (vI ((lo:Nat):Int))] kR kR kR kR rfl rfl ⟨kI,kI,kI,kI,kI,kI,fun _ _ _ h k=>h.mv (Mv.of_keep k),kI,fun _ _ _ ⟨a,e,h⟩ k=>⟨a,e,h.mv (Mv.of_keep k)⟩,kI,kI,kI,kI,kI,kI,trivial⟩ ⟨?_,?_,?_,?_,?_,?_,?_,?_,?_,?_,?_,?_,?_,?_,?_,trivial⟩ ?_
 ·intro F1 w1 k1 hf hd
  obtain ⟨F2,rfl⟩:=AL (F:=F1) [(9,vI ((lo:Nat):Int))] ⟨hf 9 kR,trivial⟩
  exact AJ rfl ((AH (vI ((lo:Nat):Int)) rfl (⟨(Keep.refl _ _),rfl⟩)))
 ·intro F1 w1 k1 hf hd
  obtain ⟨F2,rfl⟩:=AL (F:=F1) [(9,vI ((lo:Nat):Int))] ⟨hf 9 kR,trivial⟩
  exact AJ rfl ((AH (vI ((lo:Nat):Int)) rfl (⟨(Keep.refl _ _),rfl⟩)))
 ·intro F1 w1 k1 hf hd
  obtain ⟨F2,rfl⟩:=AL (F:=F1) [(8,vI (l.length:Int))] ⟨hf 8 kR,trivial⟩
  exact AJ rfl ((AH (vI (l.length:Int)) rfl (⟨(Keep.refl _ _),rfl⟩)))
 ·intro F1 w1 k1 hf hd
  obtain ⟨F2,rfl⟩:=AL (F:=F1) [(36,vI ((lo:Nat):Int)),(37,vI (l.length:Int))] ⟨hd 1 36 kR,hd 2 37 kR,trivial⟩
  refine AJ rfl ((DG .i64 ((lo:Nat):Int) (l.length:Int) rfl rfl (?_)))
  exact ⟨(Keep.refl _ _),congrArg vO (a6)⟩
 ·intro F1 w1 k1 hf hd
  obtain ⟨F2,rfl⟩:=AL (F:=F1) [(38,vO true)] ⟨hd 3 38 kR,trivial⟩
  exact AJ rfl ((AH (vO true) rfl (⟨(Keep.refl _ _),rfl⟩)))
 ·intro F1 w1 k1 hf hd
  obtain ⟨F2,rfl⟩:=AL (F:=F1) [(2,vN (.func f_v) #[] f_caps.toArray),(39,vO true)] ⟨hf 2 kR,hd 4 39 kR,trivial⟩
  exact DH rfl rfl ((AH (vN (.func f_v) #[] f_caps.toArray) rfl (⟨(Keep.refl _ _),rfl⟩)))
 ·intro F1 w1 k1 hf hd
  have k0:=(Keep.drew [] a4).trans k1
  have m1:Mv a1 a4 a1 w1:=Mv.of_keep k0
  have a2:=a2.mv m1
  obtain ⟨F2,rfl⟩:=AL (F:=F1) [(0,l_v),(39,vO true)] ⟨hf 0 kR,hd 4 39 kR,trivial⟩
  exact DH rfl rfl ((AH (l_v) rfl (⟨(Keep.refl _ _),a2⟩)))
 ·intro F1 w1 k1 hf hd
  obtain ⟨F2,rfl⟩:=AL (F:=F1) [(9,vI ((lo:Nat):Int)),(39,vO true)] ⟨hf 9 kR,hd 4 39 kR,trivial⟩
  exact DH rfl rfl ((AH (vI ((lo:Nat):Int)) rfl (⟨(Keep.refl _ _),rfl⟩)))
 ·intro F1 w1 k1 hf hd
  obtain ⟨e9,f0,b7⟩:∃ v,F1 41=v∧CG Enc.devop w1 (a1++O) v (l):=⟨_,rfl,hd 6 41 kR⟩
  have:=b7.len_le
  obtain ⟨F2,rfl⟩:=AL (F:=F1) [(39,vO true),(41,e9),(42,vI ((lo:Nat):Int))] ⟨hd 4 39 kR,f0,hd 7 42 kR,trivial⟩
  exact DH rfl rfl ((DO U26_ CH .i64 ((lo:Nat):Int) lo rfl rfl rfl b7 oM fun f1 d0=>(⟨(Keep.refl _ _),⟨f1,rfl,d0⟩⟩)))
 ·intro F1 w1 k1 hf hd
  obtain ⟨f2,f3,d1⟩:∃ aX_,F1 43 = .pointer (some aX_)∧PT Enc.devop w1 (a1++O) (.pointer (some aX_)) (l[lo]!):=hd 8 43 kR
  obtain ⟨F2,rfl⟩:=AL (F:=F1) [(39,vO true),(43,vP (some f2))] ⟨hd 4 39 kR,f3,trivial⟩
  refine DH rfl rfl ((BZ U40_ rfl CH rfl d1 fun h3 d2=>(?_)))
  obtain rfl:=d2
  exact ⟨(Keep.refl _ _),rfl⟩
 ·intro F1 w1 k1 hf hd
  have k0:=(Keep.drew [] a4).trans k1
  have m1:Mv a1 a4 a1 w1:=Mv.of_keep k0
  have a0:=a0.mv m1
  obtain ⟨F2,rfl⟩:=AL (F:=F1) [(4,vP (some a7)),(39,vO true)] ⟨hf 4 kR,hd 4 39 kR,trivial⟩
  refine DH rfl rfl ((BZ U40_ rfl CH rfl a0 fun h4 d3=>(?_)))
  obtain rfl:=d3
  exact ⟨(Keep.refl _ _),rfl⟩
 ·intro F1 w1 k1 hf hd
  have k0:=(Keep.drew [] a4).trans k1
  have s1:=b4.call k0
  obtain ⟨F2,rfl⟩:=AL (F:=F1) [(39,vO true),(40,vN (.func f_v) #[] f_caps.toArray),(44,vA #[vI ((l[lo]!).device),vI ((l[lo]!).no),vI ((l[lo]!).kind),vI ((l[lo]!).copy),vI ((l[lo]!).to),vI ((l[lo]!).token)]),(45,vA #[vI o.device,vI o.no,vI o.kind,vI o.copy,vI o.to,vI o.token])] ⟨hd 4 39 kR,hd 5 40 kR,hd 9 44 kR,hd 10 45 kR,trivial⟩
  refine DH rfl rfl ((EW [] f_caps [vA #[vI ((l[lo]!).device),vI ((l[lo]!).no),vI ((l[lo]!).kind),vI ((l[lo]!).copy),vI ((l[lo]!).to),vI ((l[lo]!).token)],vA #[vI o.device,vI o.no,vI o.kind,vI o.copy,vI o.to,vI o.token]] b3 rfl (d4 w1 (a1++O) s1.keep (fun b hb=>(List.mem_append.1 hb).elim (fun h=>.inr (s1.new b h).1) .inl) s1.lt [vI ((l[lo]!).device),vI ((l[lo]!).no),vI ((l[lo]!).kind),vI ((l[lo]!).copy),vI ((l[lo]!).to),vI ((l[lo]!).token)] (l[lo]!) [vI o.device,vI o.no,vI o.kind,vI o.copy,vI o.to,vI o.token] o rfl rfl) rfl rfl s1 fun i1 i2 i3 i4 f4 f5=>(?_)))
  obtain rfl:=f5
  exact ⟨f4,rfl⟩
 ·intro F1 w1 k1 hf hd
  obtain ⟨F2,rfl⟩:=AL (F:=F1) [(39,vO true),(46,vI (f (l[lo]!) o))] ⟨hd 4 39 kR,hd 11 46 kR,trivial⟩
  exact DH rfl rfl ((DB .i64 (f (l[lo]!) o) (0:Int) rfl rfl (⟨(Keep.refl _ _),rfl⟩)))
 ·intro F1 w1 k1 hf hd
  obtain ⟨F2,rfl⟩:=AL (F:=F1) [(39,vO true),(47,vO ((f (l[lo]!) o) == (0:Int)))] ⟨hd 4 39 kR,hd 12 47 kR,trivial⟩
  exact AJ rfl ((BF (vO ((f (l[lo]!) o) == (0:Int))) rfl rfl (⟨(Keep.refl _ _),rfl⟩)))
 ·intro F1 w1 k1 hf hd
  obtain ⟨F2,rfl⟩:=AL (F:=F1) [(35,vI ((lo:Nat):Int))] ⟨hd 0 35 kR,trivial⟩
  exact AJ rfl ((AG (vI ((lo:Nat):Int)) rfl (⟨(Keep.refl _ _),rfl⟩)))
 intro f6 i5 f7 b2 b8
 have f8:=b4.call f7
 obtain ⟨F2,rfl⟩:=AL (F:=f6) [(49,undef),(6,vI ((lo:Nat):Int)),(48,vO ((f (l[lo]!) o) == (0:Int)))] ⟨b8 49 kR,b2 14 6 kR (by decide),b2 13 48 kR (by decide),trivial⟩
 clear b2 b8
 refine AB (AG (vO ((f (l[lo]!) o) == (0:Int))) rfl (AD (AA (AN (AY rfl (KL rfl rfl rfl rfl) (?_))))))
 have f9:(MR l o f)=lo:=by exact htw
 have g0:(bsG l o f)=((f (l[lo]!) o) == (0:Int)):=by (unfold bsG;rw [htw];simp [*];done)
 exact ⟨_,rfl,f8.keep,by rw [f9,g0];exact rfl⟩
open Go.Fw Go.RowKit
set_option maxHeartbeats 4000000 in
set_option maxRecDepth 100000 in
theorem JR {O:List Nat} (l_v:Value) (l:List DeviceOp) (w:World) (a0:CG Enc.devop w O l_v l) (hpre0:l.length≤1000000) (hO:∀ b∈O,b<w.heap.size):BV Try.prog 56 [l_v] w (fun v w'=>∃ (x0:Value),v=x0∧(∀ b,x0.ownBlock=some b→w.heap.size≤b)∧EJ Enc.devop 40 w.heap.size (x0.ownBlock.toList++(O)) w' x0 (l)):= by
 have b8:=a0.len_le
 have a0:CG Enc.devop w ([]++O) l_v l:=a0
 have s0:St w O w []:=St.start hO
 refine BI 8 Try.func56 rfl rfl oT (fun F0=>AF (AC kR (AB (AG (nS) rfl (AD (AA (AF (AF (AC kR (AB (AH (l_v) rfl (AB (o_eqlNilR U26_ rfl rfl a0 fun a1 a7=>(AD (AA (AP (a1) rfl rfl (fun a2=>?_) (fun a2=>?_)))))))))))))))))
 ·have b9:a1=true:=by simpa using a2
  refine AF (AC kR (AB (AG (nS) rfl (AD (AA (AN (AO (AY rfl (CM rfl rfl rfl) (?_)))))))))
  have a3:l=[]:=a7 aS
  have c2:CG Enc.devop w ([]++O) (.slice none 0 0) (l):=by rw [a3];exact CG.nil _ _ _
  exact ⟨_,rfl,s0.keep,⟨.slice none 0 0,rfl,(fun b hb=>by simp [Value.ownBlock] at hb),(by rw [a3];exact EJ.nil _ _ _ _ _)⟩⟩
 have c3:a1=false:=by simpa using a2
 refine AV (AA (AF (AC kR (AB (o_litO (E:=Enc.devop) (xs:=[]) U26_ CH HV (by decide) [] [] [] rfl rfl rfl (Parts.nil _ _ _) oT s0 fun b2 b3 c5 b4 a4 b5 b6 c6 b0=>(?_))))))
 have b1:∀ b,b2.ownBlock=some b→b∈(b3 :: []):=fun b hb=>by rw [a4] at hb;cases hb;simp
 clear b4 a4
 have a0:=a0.mv b6
 refine AB (AH (l_v) rfl (AB (HZ (E:=Enc.devop) (l:=[]) (m:=l) U26_ i_40 rfl (by decide) rfl rfl b0 a0 (fun _ hb=>.inl hb) b1 (by simp;omega) (by simp [maxLen];omega) b5 fun a8 c7 c8 a5 c4 b7 a9 c9 d0 a6=>(?_))))
 rw [List.nil_append] at a6
 refine AB (AG (a8) rfl (AD (AA (AN (AY rfl (CM rfl rfl rfl) (?_))))))
 exact ⟨_,rfl,a9.keep,⟨a8,rfl,(fun b hb=>(a9.new b (a5 b hb)).1),(a6.sub (fun x hx=>.inl ((List.mem_append.1 hx).elim (fun h=>List.mem_append_left _ (a5 x (by simpa using h))) (fun h=>List.mem_append_right _ h))))⟩⟩
set_option maxHeartbeats 4000000 in
set_option maxRecDepth 100000 in
theorem c_add {O:List Nat} (l_v:Value) (l:List DeviceOp) (o_cs:List Value) (o:DeviceOp) (w:World) (a1:CG Enc.devop w O l_v l) (l8:Enc.devop.rd w O o_cs o) (hO:∀ b∈O,b<w.heap.size):BV Try.prog 23 [l_v, .agg o_cs.toArray] w (fun v w'=>∃ (x0:Value),v = .tuple #[x0,vI ((CB l o).2)]∧CG Enc.devop w' (O) x0 ((CB l o).1)):= by
 have m0:=a1.len_le
 have a1:CG Enc.devop w ([]++O) l_v l:=a1
 obtain rfl:=l8
 have s0:St w O w []:=St.start hO
 refine BI 39 Try.func23 rfl rfl oT (fun F0=>AF (AC kR (AB (CQ (E:=Enc.devop) (vA #[vI o.device,vI o.no,vI o.kind,vI o.copy,vI o.to,vI o.token]) ([vI o.device,vI o.no,vI o.kind,vI o.copy,vI o.to,vI o.token]) o rfl rfl rfl s0 fun b9 i3 e4 i4 n8 a0=>(?_)))))
 have a1:=a1.mv i4
 refine AB (AG (nS) rfl (AB (AG (vI 0) rfl (AD (AA (AF (AF (AC kR (AB (AH (l_v) rfl (AB (BD (vs:=[l_v]) ME (KG (O:=[]++O) l_v l i3 a1 e4.lt) rfl e4 fun n9 i5 d3 e5 o0 i6=>(?_)))))))))))))
 obtain rfl:=i6
 have a1:=a1.mv e5
 have a0:=a0.mv e5
 refine AB (ER .i64 (CE l) (0:Int) rfl rfl (AB (AH (vO ((CE l) != (0:Int))) rfl (?_))))
 cases d8:((CE l) != (0:Int))
 ·have f7:CE l=(0:Int):=by simpa using d8
  have hchk:CE l=0:=f7
  have hchk_1:=(JH hchk).1
  refine BC rfl (BZ U40_ rfl CH rfl a0 fun m2 f8=>(?_))
  obtain rfl:=f8
  refine BC rfl (BD (vs:=[vA #[vI o.device,vI o.no,vI o.kind,vI o.copy,vI o.to,vI o.token]]) JK (LL (O:=[]++O) [vI o.device,vI o.no,vI o.kind,vI o.copy,vI o.to,vI o.token] o i5 rfl d3.lt) rfl d3 fun o1 i7 d4 e6 o2 i8=>(?_))
  obtain rfl:=i8
  have a1:=a1.mv e6
  have a0:=a0.mv e6
  refine BC rfl (EF (BO o) rfl (AB (BG (vO (!(BO o))) rfl rfl (AD (AA (AP (!(BO o)) rfl rfl (fun c3=>?_) (fun c3=>?_)))))))
  ·have m3:(BO o)=false:=by simpa using c3
   refine AF (AC kR (AB (AG (nS) rfl (AB (AG (vI 420) rfl (AD (AA (AN (AO (AY rfl (KL rfl rfl rfl rfl) (?_)))))))))))
   have i9:((CB l o).1)=([]):=by exact congrArg (fun p=>p.1) (show CB l o=_ from add_2 aS)
   have j0:((CB l o).2)=(420:Int):=by exact congrArg (fun p=>p.2) (show CB l o=_ from add_2 aS)
   exact ⟨_,rfl,d4.keep,by rw [i9,j0];exact ⟨.slice none 0 0,rfl,CG.nil _ _ _⟩⟩
  have m4:(BO o)=true:=by simpa using c3
  refine AV (AA (AF (AF (AC kR (AB (AH (l_v) rfl (AB (BZ U40_ rfl CH rfl a0 fun m5 f9=>(?_)))))))))
  obtain rfl:=f9
  refine AB (BD (vs:=[l_v,vA #[vI o.device,vI o.no,vI o.kind,vI o.copy,vI o.to,vI o.token]]) enter_55 (c_containsD (O:=[]++O) l_v l [vI o.device,vI o.no,vI o.kind,vI o.copy,vI o.to,vI o.token] o i7 a1 rfl d4.lt) rfl d4 fun o3 e7 c2 e8 o4 j1=>(?_))
  obtain rfl:=j1
  have a1:=a1.mv e8
  have a0:=a0.mv e8
  refine AD (AA (AP (l.contains o) rfl rfl (fun c4=>?_) (fun c4=>?_)))
  ·have m6:(l.contains o)=true:=by simpa using c4
   refine AF (AC kR (AB (AH (l_v) rfl (AB (BD (vs:=[l_v]) JY (JR (O:=[]++O) l_v l e7 a1 oM c2.lt) rfl c2 fun e9 o5 j2 o6 o7 j3=>(?_))))))
   obtain ⟨_,rfl,g0,b3⟩:=j3
   have b3:=b3.rd (O':=[]++O) (fun x hx=>.inl (List.mem_append_right _ hx)) (fun c hc hx=>by have:=g0 c hc;have:=c2.lt c hx;omega)
   have:=b3.len_le
   refine AB (AG (e9) rfl (AB (AG (vI 0) rfl (AD (AA (AN (AO (AY rfl (KL rfl rfl rfl rfl) (?_)))))))))
   have j4:((CB l o).1)=l:=by exact congrArg (fun p=>p.1) (show CB l o=_ from add_3 aS aS aS)
   have j5:((CB l o).2)=(0:Int):=by exact congrArg (fun p=>p.2) (show CB l o=_ from add_3 aS aS aS)
   exact ⟨_,rfl,j2.keep,by rw [j4,j5];exact ⟨e9,rfl,b3.out⟩⟩
  have m7:(l.contains o)=false:=by simpa using c4
  refine AV (AA (AF (AF (AC kR (AB (AH (l_v) rfl (AB (EE (first:=[]) (captured:=[.tmp 3]) [] [vP (some b9)] rfl rfl (AB (BD (vs:=[l_v,vN (.func 58) #[] #[vP (some b9)]]) enter_57 (KZ (O:=[]++O) l_v l 58 [vP (some b9)] (fun x_=>CZ x_ == CZ o) e7 a1 enter_58 (fun w'_ O'_ kk_ hs_ hl_ x__cs x_ hr_x_ =>c_add1 (O:=O'_) x__cs x_ b9 o w'_ hr_x_ (a0.on hs_ kk_) hl_) c2.lt) rfl c2 fun o8 j6 c5 f0 o9 j7=>(?_)))))))))))
  obtain rfl:=j7
  have a1:=a1.mv f0
  have a0:=a0.mv f0
  refine AD (AA (AP (l.any (fun x_=>CZ x_ == CZ o)) rfl rfl (fun c6=>?_) (fun c6=>?_)))
  ·have m8:(l.any (fun x_=>CZ x_ == CZ o))=true:=by simpa using c6
   refine AF (AC kR (AB (AG (nS) rfl (AB (AG (vI 420) rfl (AD (AA (AN (AO (AY rfl (KL rfl rfl rfl rfl) (?_)))))))))))
   have j8:((CB l o).1)=([]):=by exact congrArg (fun p=>p.1) (show CB l o=_ from add_4 aS aS aS aS)
   have j9:((CB l o).2)=(420:Int):=by exact congrArg (fun p=>p.2) (show CB l o=_ from add_4 aS aS aS aS)
   exact ⟨_,rfl,c5.keep,by rw [j8,j9];exact ⟨.slice none 0 0,rfl,CG.nil _ _ _⟩⟩
  have m9:(l.any (fun x_=>CZ x_ == CZ o))=false:=by simpa using c6
  refine AV (AA (AF (AF (AC kR (AB (AH (l_v) rfl (AB (DI U26_ rfl a1 (AB (DB .i64 (l.length:Int) (256:Int) rfl rfl (AD (AA (AP ((l.length:Int) == (256:Int)) rfl rfl (fun c7=>?_) (fun c7=>?_))))))))))))))
  ·have n0:(l.length:Int)=(256:Int):=by simpa using c7
   refine AF (AC kR (AB (AG (nS) rfl (AB (AG (vI 2) rfl (AD (AA (AN (AO (AY rfl (KL rfl rfl rfl rfl) (?_)))))))))))
   have k2:((CB l o).1)=([]):=by exact congrArg (fun p=>p.1) (show CB l o=_ from add_5 aS aS aS aS aS)
   have k3:((CB l o).2)=(2:Int):=by exact congrArg (fun p=>p.2) (show CB l o=_ from add_5 aS aS aS aS aS)
   exact ⟨_,rfl,c5.keep,by rw [k2,k3];exact ⟨.slice none 0 0,rfl,CG.nil _ _ _⟩⟩
  have n1:(l.length:Int)≠(256:Int):=by simpa using c7
  refine AV (AA (AF (AC kR (AB (AH (l_v) rfl (AB (BZ U40_ rfl CH rfl a0 fun n2 g1=>(?_))))))))
  obtain rfl:=g1
  refine AB (BD (vs:=[l_v,vA #[vI o.device,vI o.no,vI o.kind,vI o.copy,vI o.to,vI o.token],vN (.func 61) #[] #[]]) enter_60 (c_bsF (O:=[]++O) l_v l [vI o.device,vI o.no,vI o.kind,vI o.copy,vI o.to,vI o.token] o 61 [] (fun x_ y_=>DK x_ y_) j6 a1 rfl enter_61 (fun w'_ O'_ kk_ hs_ hl_ x__cs x_ y__cs y_ hr_x_ hr_y_ =>NT (O:=O'_) x__cs x_ y__cs y_ w'_ hr_x_ hr_y_ hl_) (check_mono hchk o) oM c5.lt) rfl c5 fun p0 a2 c8 f1 p1 k4=>(?_))
  obtain rfl:=k4
  have a1:=a1.mv f1
  have a0:=a0.mv f1
  refine AB (AH (vT #[vI ((MR l o (fun x_ y_=>DK x_ y_):Nat):Int),vO (bsG l o (fun x_ y_=>DK x_ y_))]) rfl (AB (BJ (vI ((MR l o (fun x_ y_=>DK x_ y_):Nat):Int)) rfl rfl (AB (BJ (vO (bsG l o (fun x_ y_=>DK x_ y_))) rfl rfl (AB (AG (vI ((MR l o (fun x_ y_=>DK x_ y_):Nat):Int)) rfl (AB (AG (vO (bsG l o (fun x_ y_=>DK x_ y_))) rfl (AD (AA (AF (cw_drawU 5 _ _ [fun _=>fun (vT:Value) (_:World)=>CG Enc.devop a2 ([]++O) vT (l),TOw a2 w.heap.size O Enc.devop 40 (l),fun _=>CT (vI ((MR l o (fun x_ y_=>DK x_ y_):Nat):Int)),fun _=>CT (vA #[vI o.device,vI o.no,vI o.kind,vI o.copy,vI o.to,vI o.token]),TOw a2 w.heap.size O Enc.devop 40 ([o])] [⟨0,[],[],[],false,[]⟩,⟨1,[],[],[],false,[0]⟩,⟨0,[],[],[],false,[]⟩,⟨0,[],[],[],false,[]⟩,⟨2,[],[],[],false,[3]⟩] ([]) kR kR kR kR kR rfl rfl ⟨fun _ _ _ _ _ h=>h,TOw.st,fun _ _ _ _ _ h=>h,fun _ _ _ _ _ h=>h,TOw.st,trivial⟩ ⟨?_,?_,?_,?_,?_,trivial⟩ ?_)))))))))))))
  ·intro F1 w1 B1_ Bs_ k1 hs_ hl_ hr_ hsep_ hf hd
   obtain ⟨F2,rfl⟩:=AL (F:=F1) [(0,l_v)] ⟨hf 0 kR,trivial⟩
   exact AJ rfl ((AH (l_v) rfl (⟨[],(Keep.refl _ _),HA,a1⟩)))
  ·intro F1 w1 B1_ Bs_ k1 hs_ hl_ hr_ hsep_ hf hd
   have k0:=(Keep.drew [] a2).trans k1
   have s1:=c8.adoptL k0 hl_
   have m1:Mv ([]) a2 B1_ w1:=Mv.adoptL k0 hl_
   obtain ⟨d5,k5,b4⟩:∃ v,F1 33=v∧CG Enc.devop a2 ([]++O) v (l):=⟨_,rfl,hd 0 33 kR kR⟩
   have:=b4.len_le
   have b4:=b4.mv m1
   obtain ⟨F2,rfl⟩:=AL (F:=F1) [(33,d5)] ⟨k5,trivial⟩
   refine AJ rfl ((BD (vs:=[d5]) JY (JR (O:=B1_++O) d5 l w1 b4 oM s1.lt) rfl s1 fun p2 p3 p4 p5 k6 k7=>(?_)))
   obtain ⟨_,rfl,g2,g3⟩:=k7
   exact ⟨[],k6,HA,TOw.call k0.size (by have:=c8.keep.size;have:=k0.size;omega) (LS s1) g2 g3⟩
  ·intro F1 w1 B1_ Bs_ k1 hs_ hl_ hr_ hsep_ hf hd
   obtain ⟨F2,rfl⟩:=AL (F:=F1) [(6,vI ((MR l o (fun x_ y_=>DK x_ y_):Nat):Int))] ⟨hf 6 kR,trivial⟩
   exact AJ rfl ((AH (vI ((MR l o (fun x_ y_=>DK x_ y_):Nat):Int)) rfl (⟨[],(Keep.refl _ _),HA,rfl⟩)))
  ·intro F1 w1 B1_ Bs_ k1 hs_ hl_ hr_ hsep_ hf hd
   have k0:=(Keep.drew [] a2).trans k1
   obtain ⟨F2,rfl⟩:=AL (F:=F1) [(3,vP (some b9))] ⟨hf 3 kR,trivial⟩
   refine AJ rfl ((o_loadSU U40_ rfl CH rfl a0 k0 fun n3 g4=>(?_)))
   obtain rfl:=g4
   exact ⟨[],(Keep.refl _ _),HA,rfl⟩
  ·intro F1 w1 B1_ Bs_ k1 hs_ hl_ hr_ hsep_ hf hd
   have k0:=(Keep.drew [] a2).trans k1
   have s1:=c8.adoptL k0 hl_
   obtain ⟨F2,rfl⟩:=AL (F:=F1) [(36,vA #[vI o.device,vI o.no,vI o.kind,vI o.copy,vI o.to,vI o.token])] ⟨hd 3 36 kR kR,trivial⟩
   refine AJ rfl ((o_litO (E:=Enc.devop) (xs:=[.tmp 36]) U26_ CH HV (by decide) [.agg #[vI o.device,vI o.no,vI o.kind,vI o.copy,vI o.to,vI o.token]] [[vI o.device,vI o.no,vI o.kind,vI o.copy,vI o.to,vI o.token]] [o] rfl rfl rfl (Parts.cons rfl rfl (Parts.nil _ _ _)) oT s1 fun p6 f2 p7 p8 d9 p9 q0 k8 e0=>(?_)))
   have g5:a2.heap.size≤f2:=by have:=k0.size;omega
   have n4:=(e0.lt f2 d9).2
   exact ⟨[],k8,HA,TOw.one d9 g5 (by intro h;have:=LS s1 _ h;omega) e0⟩
  intro d6 a7 a5 k9 c9 g6 b0 b5 b6
  obtain ⟨a3,l0,b7,b8⟩:∃ v,d6 34=v∧(TOw a2 w.heap.size O Enc.devop 40 (l)) (a5 1) v a7:=⟨_,rfl,b5 1 34 kR (by decide) kR kR⟩
  have d0:∀ b,a3.ownBlock=some b→b<a7.heap.size:=fun b hb=>(b8.lt b hb).2
  obtain ⟨a4,l1,d1,b1⟩:∃ v,d6 37=v∧(TOw a2 w.heap.size O Enc.devop 40 ([o])) (a5 2) v a7:=⟨_,rfl,b5 4 37 kR (by decide) kR kR⟩
  have e2:∀ b,a4.ownBlock=some b→b<a7.heap.size:=fun b hb=>(b1.lt b hb).2
  have g7:∀ x∈([]:List Nat),x∈([]:List Nat)∨(a2.heap.size≤x∧x<a7.heap.size):=fun x hx=>.inl hx
  have f3:∀ x∈([]:List Nat),x∈([]:List Nat):=fun x hx=>hx
  have g8:∀ x∈([]:List Nat),x∈a5 1:=fun x hx=>c9 1 x hx
  have g9:∀ x∈([]:List Nat),x∈a5 2:=fun x hx=>c9 2 x hx
  obtain ⟨b2,a8⟩:∃ B_,B_=a3.ownBlock.toList++([]:List Nat):=⟨_,rfl⟩
  have h0:∀ x∈b2,x∈([]:List Nat)∨(a2.heap.size≤x∧x<a7.heap.size):=by rw [a8];exact own_l b7 d0 g7
  have f4:∀ x∈([]:List Nat),x∈b2:=fun x hx=>by rw [a8];exact List.mem_append_right _ (f3 x hx)
  have h4:∀ b,a3.ownBlock=some b→b∈b2:=fun b hb=>by rw [a8];exact List.mem_append_left _ (by simp [hb])
  have h5:∀ x∈b2,x∈a3.ownBlock.toList++a5 1:=by rw [a8];exact fun x hx=>(List.mem_append.1 hx).elim (List.mem_append_left _) (fun h=>List.mem_append_right _ (g8 x h))
  have h6:∀ x∈b2,x∈a5 2:=by rw [a8];exact own_q b7 d0 (fun b h1 h2 h3=>b0 1 2 b (by decide) h1 h2 h3) g9
  obtain ⟨a9,a6⟩:∃ B_,B_=a4.ownBlock.toList++b2:=⟨_,rfl⟩
  have h7:∀ x∈a9,x∈([]:List Nat)∨(a2.heap.size≤x∧x<a7.heap.size):=by rw [a6];exact own_l d1 e2 h0
  have l9:∀ x∈([]:List Nat),x∈a9:=fun x hx=>by rw [a6];exact List.mem_append_right _ (f4 x hx)
  have d2:∀ b,a4.ownBlock=some b→b∈a9:=fun b hb=>by rw [a6];exact List.mem_append_left _ (by simp [hb])
  have h8:∀ b,a3.ownBlock=some b→b∈a9:=fun b hb=>by rw [a6];exact List.mem_append_right _ (h4 b hb)
  have h9:∀ x∈a9,x∈a3.ownBlock.toList++a5 1:=by rw [a6];exact own_q d1 e2 (fun b h1 h2 h3=>List.mem_append_right _ (b0 2 1 b (by decide) h1 h2 h3)) h5
  have i0:∀ x∈a9,x∈a4.ownBlock.toList++a5 2:=by rw [a6];exact fun x hx=>(List.mem_append.1 hx).elim (List.mem_append_left _) (fun h=>List.mem_append_right _ (h6 x h))
  have l2:=c8.adoptL k9 h7
  have e3:∀ b,a3.ownBlock=some b→a4.ownBlock≠some b:=fun b hb e=>(d1 b e).2 (b0 1 2 b (by decide) (b7 b hb).1 (d0 b hb) (b7 b hb).2)
  have b8:EJ Enc.devop 40 w.heap.size (a9++O) a7 a3 (l):=b8.sub (fun x hx=>.inl ((List.mem_append.1 hx).elim (fun hx=>List.mem_append_left _ (h9 x hx)) (fun h=>List.mem_append_right _ h)))
  have b1:EJ Enc.devop 40 w.heap.size (a9++O) a7 a4 ([o]):=b1.sub (fun x hx=>.inl ((List.mem_append.1 hx).elim (fun hx=>List.mem_append_left _ (i0 x hx)) (fun h=>List.mem_append_right _ h)))
  obtain ⟨F2,rfl⟩:=AL (F:=d6) [(4,nS),(5,vI 0),(39,undef),(34,a3),(35,vI ((MR l o (fun x_ y_=>DK x_ y_):Nat):Int)),(37,a4)] ⟨b6 4 kR,b6 5 kR,b6 39 kR,l0,b5 2 35 kR (by decide) kR kR,l1,trivial⟩
  clear b5 b6 c9 g6 b0
  refine AB (o_callX [a3,vI ((MR l o (fun x_ y_=>DK x_ y_):Nat):Int),a4] enter_62 rfl (Calls.mono (c_insertD a3 a4 l ([o]) (MR l o (fun x_ y_=>DK x_ y_)) l2 b8 b1 h8 d2 e3 (by simp) (tw2_le _ _ _) (by simp only [List.length_cons,List.length_nil];omega) (by simp only [List.length_cons,List.length_nil,maxLen];omega)) (fun e_ q1 hR_=>?_)))
  obtain ⟨d7,l3,rfl,n5,i1,f5,f6,q2,q3,i2⟩:=hR_
  refine both_r ?_
  have n6:∀ b,a4.ownBlock=some b→d7.ownBlock≠some b:=fun b hb e=>(i1 b e).elim (fun e1=>((fun b hb e=>e3 b e hb) b hb e1)) (fun e1=>by have:=(b1.lt b hb).2;omega)
  have d2:∀ b,a4.ownBlock=some b→b∈l3:=fun b hb=>f5 b (d2 b hb)
  refine AB (AG (d7) rfl (AB (AG (vI 0) rfl (AD (AA (AN (AY rfl (KL rfl rfl rfl rfl) (?_))))))))
  have l4:((CB l o).1)=(l.take (MR l o (fun x_ y_=>DK x_ y_))++([o])++l.drop (MR l o (fun x_ y_=>DK x_ y_))):=by exact congrArg (fun p=>p.1) (show CB l o=_ from add_6 aS aS aS aS aS)
  have l5:((CB l o).2)=(0:Int):=by exact congrArg (fun p=>p.2) (show CB l o=_ from add_6 aS aS aS aS aS)
  exact ⟨_,rfl,f6.keep,by rw [l4,l5];exact ⟨d7,rfl,i2.pub f6⟩⟩
 have n7:CE l≠(0:Int):=by simpa using d8
 refine AW rfl (AW rfl (AW rfl (AB (BF (vO true) rfl rfl (AD (AA (AP true rfl rfl (fun _=>AF (AC kR (AB (AG (nS) rfl (AB (AG (vI 420) rfl (AD (AA (AN (AO (AY rfl (KL rfl rfl rfl rfl) (?_)))))))))))) (fun h=>by cases h))))))))
 have l6:((CB l o).1)=([]):=by exact congrArg (fun p=>p.1) (show CB l o=_ from add_1 aS)
 have l7:((CB l o).2)=(420:Int):=by exact congrArg (fun p=>p.2) (show CB l o=_ from add_1 aS)
 exact ⟨_,rfl,d3.keep,by rw [l6,l7];exact ⟨.slice none 0 0,rfl,CG.nil _ _ _⟩⟩
end Go.Proofs.Ytjpniibleelgiaa
namespace Go.Fw
variable {P:Program} {ro:Option Nat} {n:Nat} {Q:Exit→Fr→World→Prop} {F:Fr} {w:World}
theorem IH {x y:Code} (I:Fr→World→Prop) (h1:CW P (ro:=ro) n x (JX I Q) F w) (h2:∀ F w,I F w→CW P (ro:=ro) n y Q F w):CW P (ro:=ro) n (.seq x y) Q F w:=
  AF (wpIn_mono h1 fun e _ _ ⟨F,ha,hQ⟩=>⟨F,ha,by cases e <;> first|exact h2 _ _ hQ|exact hQ⟩)
open Go.RowKit
section
variable {P:Program} {ro:Option Nat} {n:Nat} {Q:Exit→Fr→World→Prop} {F:Fr} {w:World}
def CWr (P:Program) (ro:Option Nat) (n:Nat) (c:Code) (Q:Exit→Fr→World→Prop):Nat→Fr→World→Prop
  | 0,_,_=>False
  | m+1,F,w=>CW P (ro:=ro) n c (JX (CWr P ro n c Q m) Q) F w
theorem cw_unroll {c:Code} (m:Nat) (h:CWr P ro n c Q m F w):CW P (ro:=ro) n (.loop c) Q F w:=by
  refine DW (fun m F w=>CWr P ro n c Q m F w) m h fun m F w h=>?_
  cases m with
  | zero=>exact h.elim
  | succ m=>exact CW.mono h fun e F w hq=>by cases e <;> first|exact ⟨m,Nat.lt_succ_self m,hq⟩|exact hq
theorem HG {c:Code} {m:Nat} (h:CW P (ro:=ro) n c (JX (CWr P ro n c Q m) Q) F w):CWr P ro n c Q (m+1) F w:=h
end
section
variable {P:Program}
theorem wl_yT {ops rest:List Oper} {Q:Exit→Fr→World→Prop} {F:Fr} {w:World} {d:Tmp} {ty:TypeId} {pos:String} {af:Array Edge} {xf:Operand} {xs:List Operand} {ats:Array TypeId} {j:Nat} {b:Bool} (hg:CC ops F j=some b) (l:Nat) (vs:List Value)
    (hf:CP F xf = .func (.yield l) #[] #[]) (hv:xs.map (CP F)=vs) (hy:JT P l vs w (fun v w'=>WL true P ops Q rest (FF F d v) w')) :
    WL true P ops Q (⟨some d, .call { callee:=.value xf,args:=xs.toArray,argTypes:=ats },ty,pos,af,some (j,b)⟩ :: rest) F w:=by
  unfold WL
  rw [if_pos (by simp [Region.wanted,hg])]
  refine .inr ⟨rfl,?_⟩
  unfold RoundW
  obtain ⟨fn,tmps,assign,body,h1,h2⟩:=hy
  have:(execOp (CP F) ⟨none, .call { callee:=.value xf,args:=xs.toArray,argTypes:=ats },ty,"",#[],none⟩).run P w = .ok (.round l fn tmps assign body) w:=by
    simp [execOp,resolve,Deferred.ofValue,invoke,hf,hv,h1]
  rw [this]
  exact h2.mono fun e w' ⟨v,he,hk⟩=>by subst he;exact hk
end
section
variable {P:Program} {t yt ty:TypeId} {x y:Operand} {F:Fr} {w:World} {K:Value→World→Prop} {Z:List PanicEntry→World→Prop}
theorem GP (a b:UInt8) (hb:b.toNat≠0) (hx:CP F x=vB a) (hy:CP F y=vB b) (h:K (vB (a % b)) w):CX P (.binOp .rem t x y yt) ty F w K Z:=
  o_rem .u8 (a.toNat:Int) (b.toNat:Int) ((a % b).toNat:Int) hx hy (by omega) (by rw [UInt8.toNat_mod];exact (Int.ofNat_tmod _ _).symm) h
end
def Enc.cells (n:Nat):Enc (List Value) where
  size:=n
  rd:=fun _ _ cs x=>cs=x∧x.length=n∧∀ u∈x,u.oneCell'=true
  len:=fun h=>h.1 ▸ h.2.1
  one:=fun h u hu=>h.2.2 u (h.1 ▸ hu)
  mv:=fun h _=>h
  sub:=fun h _=>h
end Go.Fw
namespace Go.Proofs.Ytjpniibleelgiaa
open Go.Fw
theorem MA {β:Type} {p:Nat→Bool} {d r:β} (hne:r≠d):∀ {m i:Nat},FR (fun k=>if p k then some r else none) d i m=d↔∀ k,i≤k→k<i+m→p k=false
  | 0,i=>by simp [FR];intro k h1 h2;omega
  | m+1,i=>by
    unfold FR
    cases hp:p i with
    | true=>
      simp only [if_true]
      refine ⟨fun h=>absurd h hne,fun h=>?_⟩
      have:=h i (Nat.le_refl _) (by omega)
      rw [hp] at this;cases this
    | false=>
      simp only [Bool.false_eq_true,if_false]
      rw [MA hne]
      refine ⟨fun h k h1 h2=>?_,fun h k h1 h2=>h k (by omega) (by omega)⟩
      by_cases hk:k=i
      · subst hk;exact hp
      · exact h k (by omega) (by omega)
theorem HH {l:List DeviceOp} {k:Nat} (h:k<l.length):l.take (k+1)=l.take k++[l[k]!]:=by
  rw [List.take_succ_eq_append_getElem h,getElem!_pos l k h]
theorem LW (l:List DeviceOp) (n:DevNo):∀ k,k≤l.length→((GQ l k n).getD false=true↔n∈(l.take k).map CZ)
  | 0,_=>by simp [GQ,noM]
  | k+1,h=>by
    have ih:=LW l n k (by omega)
    rw [HH (by omega),List.map_append,List.mem_append,← ih,show GQ l (k+1)=upM (GQ l k) (CZ l[k]!) true from rfl]
    generalize l[k]! = x
    generalize GQ l k=M
    unfold upM
    by_cases e:n=CZ x
    · subst e;simp
    · simp [e]
theorem JG (l:List DeviceOp):DF l=true↔(l.map CZ).Nodup:=by
  unfold DF
  rw [MA (by simp),List.Nodup,List.pairwise_iff_getElem]
  constructor
  · intro h i j hi hj hij e
    have hj':j<l.length:=by simpa using hj
    have:=h j (Nat.zero_le _) (by omega)
    rw [← Bool.not_eq_true,LW l _ j (by omega)] at this
    apply this
    rw [List.getElem_map] at e
    rw [List.getElem_map] at e
    rw [getElem!_pos l j hj',← e]
    refine List.mem_map.2 ⟨l[i],?_,rfl⟩
    exact List.mem_take_iff_getElem.2 ⟨i,by omega,rfl⟩
  · intro h k _ hk
    rw [← Bool.not_eq_true,LW l _ k (by omega)]
    intro hm
    obtain ⟨x,hx,e⟩:=List.mem_map.1 hm
    obtain ⟨i,hi,rfl⟩:=List.mem_take_iff_getElem.1 hx
    have hk':k<l.length:=by omega
    refine h i k (by simp;omega) (by simpa using hk') (by omega) ?_
    rw [List.getElem_map,List.getElem_map,e,getElem!_pos l k hk']
theorem cmp_irr {a:DeviceOp}:¬ DK a a<0:=by rw [cmp_self];omega
theorem cmp_total (a b:DeviceOp):DK a b<0∨a=b∨DK b a<0:=by
  have:=cmp_anti a b
  by_cases h:DK a b=0
  · exact .inr (.inl (cmp_eq h))
  · omega
def numInj (l:List DeviceOp):Prop:=∀ x∈l,∀ y∈l,CZ x=CZ y→x=y
def okL (l:List DeviceOp):Prop:=l.length≤256∧(∀ o∈l,BO o=true)∧GD l∧numInj l
theorem MD (l:List DeviceOp):GD l↔∀ p q,p<q→q<l.length→DK l[p]! l[q]! < 0:=by
  unfold GD
  rw [List.pairwise_iff_getElem]
  constructor
  · intro h p q hpq hq;rw [getElem!_pos l p (by omega),getElem!_pos l q hq];exact h p q (by omega) hq hpq
  · intro h i j hi hj hij;have:=h i j hij hj;rwa [getElem!_pos l i hi,getElem!_pos l j hj] at this
theorem JI {l:List DeviceOp} (h:GD l):l.Nodup:=h.imp (fun hab e=>by subst e;exact cmp_irr hab)
theorem LU {l:List DeviceOp} (h:GD l):(l.map CZ).Nodup↔numInj l:=by
  have hn:=JI h
  rw [List.Nodup,List.pairwise_map]
  constructor
  · intro hp
    rw [List.pairwise_iff_getElem] at hp
    intro x hx y hy e
    obtain ⟨i,hi,rfl⟩:=List.getElem_of_mem hx
    obtain ⟨j,hj,rfl⟩:=List.getElem_of_mem hy
    rcases Nat.lt_trichotomy i j with h1|h1|h1
    · exact absurd e (hp i j hi hj h1)
    · subst h1;rfl
    · exact absurd e.symm (hp j i hj hi h1)
  · intro hi
    exact List.Pairwise.imp_of_mem (fun hx hy hne e=>hne (hi _ hx _ hy e)) hn
theorem DT (l:List DeviceOp):CE l=0↔okL l:=by
  constructor
  · intro h
    obtain ⟨h1,h2,h3⟩:=JH h
    have hs:=(MD l).2 (KA h)
    refine ⟨h1,fun o ho=>?_,hs,(LU hs).1 ((JG l).1 h2)⟩
    obtain ⟨i,hi,rfl⟩:=List.getElem_of_mem ho
    have:=(opBad_f.1 (h3 i hi)).1
    rwa [getElem!_pos l i hi] at this
  · rintro ⟨h1,h2,h3,h4⟩
    unfold CE
    rw [if_neg (by rw [(JG l).2 ((LU h3).2 h4)];simp;omega),MA (by decide)]
    intro k _ hk
    have hk':k<l.length:=by omega
    refine opBad_f.2 ⟨?_,fun h0=>(MD l).1 h3 (k - 1) k (by omega) hk'⟩
    rw [getElem!_pos l k hk'];exact h2 _ (List.getElem_mem hk')
theorem twM_split {l:List DeviceOp} (hs:GD l) (o:DeviceOp):(∀ x∈l.take (twM l o),DK x o<0)∧(∀ x∈l.drop (twM l o),¬ DK x o<0):=by
  unfold twM MR
  induction l with
  | nil=>simp
  | cons x l ih=>
    obtain ⟨h1,h2⟩:=List.pairwise_cons.1 hs
    by_cases h:DK x o<0
    · have:=ih h2
      rw [List.takeWhile_cons_of_pos (by simpa using h)]
      simp only [List.length_cons,List.take_succ_cons,List.drop_succ_cons,List.mem_cons]
      exact ⟨by rintro y (e|hy);subst e;exact h;exact this.1 y hy,this.2⟩
    · rw [List.takeWhile_cons_of_neg (by simpa using h)]
      simp only [List.length_nil,List.take_zero,List.drop_zero]
      refine ⟨fun y hy=>by simp at hy,fun y hy=>?_⟩
      rcases List.mem_cons.1 hy with e|hy
      · subst e;exact h
      · exact fun h3=>h (KT (h1 y hy) (by omega))
theorem KC (l:List DeviceOp) (o x:DeviceOp):x∈LZ l o↔x=o∨x∈l:=by
  unfold LZ
  simp only [List.mem_append,List.mem_singleton]
  conv=>rhs;rw [← List.take_append_drop (twM l o) l]
  rw [List.mem_append]
  constructor
  · rintro ((h|h)|h);exact .inr (.inl h);exact .inl h;exact .inr (.inr h)
  · rintro (h|h|h);exact .inl (.inr h);exact .inl (.inl h);exact .inr h
theorem len_insM (l:List DeviceOp) (o:DeviceOp):(LZ l o).length=l.length+1:=by
  unfold LZ
  have:twM l o≤l.length:=tw2_le _ _ _
  simp only [List.length_append,List.length_take,List.length_drop,List.length_cons,List.length_nil];omega
theorem sorted_insM {l:List DeviceOp} (hs:GD l) {o:DeviceOp} (ho:o∉l):GD (LZ l o):=by
  obtain ⟨h1,h2⟩:=twM_split hs o
  have hs':=hs
  unfold GD at hs'
  rw [← List.take_append_drop (twM l o) l,List.pairwise_append] at hs'
  obtain ⟨p1,p2,p3⟩:=hs'
  have h3:∀ x∈l.drop (twM l o),DK o x<0:=fun x hx=>by
    rcases cmp_total o x with h|h|h
    · exact h
    · subst h;exact absurd (List.mem_of_mem_drop hx) ho
    · exact absurd h (h2 x hx)
  unfold LZ GD
  rw [List.append_assoc,List.pairwise_append]
  refine ⟨p1,?_,?_⟩
  · rw [List.singleton_append]
    exact List.pairwise_cons.2 ⟨h3,p2⟩
  · intro a ha b hb
    rcases List.mem_append.1 hb with hb|hb
    · rw [List.mem_singleton.1 hb];exact h1 a ha
    · exact p3 a ha b hb
def IU (l:List DeviceOp) (o:DeviceOp):Bool:=l.any (fun p=>CZ p == CZ o)
theorem clash_iff (l:List DeviceOp) (o:DeviceOp):IU l o=true↔∃ p∈l,CZ p=CZ o:=by simp [IU,List.any_eq_true]
theorem numInj_ins {l:List DeviceOp} (h:numInj l) {o:DeviceOp} (hc:IU l o=false):numInj (LZ l o):=by
  have hc':∀ p∈l,CZ p≠CZ o:=fun p hp e=>by
    rw [← Bool.not_eq_true,clash_iff] at hc;exact hc ⟨p,hp,e⟩
  intro x hx y hy e
  rcases (KC _ _ _).1 hx with e1|h1 <;> rcases (KC _ _ _).1 hy with e2|h2
  · rw [e1,e2]
  · rw [e1] at e;exact absurd e.symm (hc' y h2)
  · rw [e2] at e;exact absurd e (hc' x h1)
  · exact h x h1 y h2 e
theorem add_cases (l:List DeviceOp) (o:DeviceOp):(CB l o=(l,0)∧okL l∧BO o=true∧o∈l)∨(CB l o=(LZ l o,0)∧okL l∧BO o=true∧o∉l∧IU l o=false∧l.length<256∧okL (LZ l o))∨(CB l o=([],420)∧(¬ okL l∨BO o=false∨(o∉l∧IU l o=true)))∨(CB l o=([],2)∧okL l∧BO o=true∧o∉l∧IU l o=false∧l.length=256):=by
  by_cases h:CE l=0
  · have hok:=(DT l).1 h
    cases hv:BO o with
    | false=>exact .inr (.inr (.inl ⟨add_2 hv, .inr (.inl rfl)⟩))
    | true=>
      cases hm:l.contains o with
      | true=>exact .inl ⟨add_3 h hv hm,hok,rfl,by simpa using hm⟩
      | false=>
        have hm':o∉l:=by simpa using hm
        cases hc:IU l o with
        | true=>exact .inr (.inr (.inl ⟨add_4 h hv hm hc, .inr (.inr ⟨hm',rfl⟩)⟩))
        | false=>
          by_cases hl:(l.length:Int)=256
          · exact .inr (.inr (.inr ⟨add_5 h hv hm hc hl,hok,rfl,hm',rfl,by omega⟩))
          · have hlt:l.length<256:=by have:=hok.1;omega
            refine .inr (.inl ⟨add_6 h hv hm hc hl,hok,rfl,hm',rfl,hlt,?_⟩)
            refine ⟨by rw [len_insM];omega,fun x hx=>?_,sorted_insM hok.2.2.1 hm',numInj_ins hok.2.2.2 hc⟩
            rcases (KC _ _ _).1 hx with rfl|hx
            · exact hv
            · exact hok.2.1 x hx
  · exact .inr (.inr (.inl ⟨add_1 h, .inl fun h2=>h ((DT l).2 h2)⟩))
theorem add_ok {l:List DeviceOp} {o:DeviceOp} (h:(CB l o).2=0):okL l∧BO o=true∧okL (CB l o).1∧∀ x,x∈(CB l o).1↔x=o∨x∈l:=by
  rcases add_cases l o with ⟨e,h1,h2,h3⟩|⟨e,h1,h2,h3,h4,h5,h6⟩|⟨e,_⟩|⟨e,_⟩
  · rw [e];exact ⟨h1,h2,h1,fun x=>⟨.inr,fun h=>h.elim (fun e=>e ▸ h3) id⟩⟩
  · rw [e];exact ⟨h1,h2,h6,fun x=>KC _ _ _⟩
  · rw [e] at h;cases h
  · rw [e] at h;cases h
section
variable {a b x:List DeviceOp} {p q p2:Nat} {n:Int} {o:DeviceOp}
end
def LA (h:Holding) (o:DeviceOp):Holding:=
  if ((o.token != h.token+1 || o.device != h.device) || h.shown) then h else if o.kind == 2 then ⟨h.copy,h.device,o.token,true⟩ else ⟨h.copy,o.to,o.token,h.shown⟩
def foldH (l:List DeviceOp) (c first:Int):Holding:=(l.filter (fun o=>o.copy == c)).foldl LA (EO c first)
theorem OA (l:List DeviceOp) (first c:Int):∀ k,k≤l.length→(mapM l first k c).getD (EO c first)=foldH (l.take k) c first
  | 0,_=>rfl
  | k+1,h=>by
    have ih:=OA l first c k (by omega)
    rw [HH (by omega),show mapM l first (k+1)=FM first (mapM l first k) l[k]! from rfl]
    unfold foldH at ih ⊢
    rw [List.filter_append,List.foldl_append,← ih]
    generalize l[k]! = x
    generalize mapM l first k=M
    unfold FM
    by_cases e:x.copy=c
    · have ef:List.filter (fun o=>o.copy == c) [x]=[x]:=by simp [e]
      rw [ef]
      simp only [List.foldl_cons,List.foldl_nil]
      rw [e]
      unfold LA
      split
      · rfl
      · unfold upM;simp
    · have ef:List.filter (fun o=>o.copy == c) [x]=[]:=by simp [e]
      rw [ef]
      simp only [List.foldl_nil]
      split
      · rfl
      · unfold upM
        have:(c == x.copy)=false:=by simpa using fun h=>e h.symm
        rw [this];rfl
section
variable {l:List DeviceOp} {first:Int} {k:Nat} {h:Holding}
theorem MX (hh:h=(mapM l first k l[k]!.copy).getD (EO l[k]!.copy first)) (hc:l[k]!.token≠h.token+1∨l[k]!.device≠h.device∨h.shown=true):mapM l first (k+1)=mapM l first k:=by
  show FM first (mapM l first k) l[k]! = _
  unfold FM
  rw [← hh,if_pos]
  simp only [dbs]
  rcases hc with hc|hc|hc
  · exact .inl (.inl hc)
  · exact .inl (.inr hc)
  · exact .inr hc
theorem map_show (hh:h=(mapM l first k l[k]!.copy).getD (EO l[k]!.copy first)) (h1:l[k]!.token=h.token+1) (h2:l[k]!.device=h.device) (h3:h.shown=false) (h4:l[k]!.kind=2):mapM l first (k+1)=upM (mapM l first k) l[k]!.copy ⟨h.copy,h.device,l[k]!.token,true⟩:=by
  show FM first (mapM l first k) l[k]! = _
  unfold FM
  rw [← hh,if_neg (by simp only [dbs];rw [h1,h2,h3];simp),if_pos (by simpa using h4)]
theorem map_give (hh:h=(mapM l first k l[k]!.copy).getD (EO l[k]!.copy first)) (h1:l[k]!.token=h.token+1) (h2:l[k]!.device=h.device) (h3:h.shown=false) (h4:l[k]!.kind≠2):mapM l first (k+1)=upM (mapM l first k) l[k]!.copy ⟨h.copy,l[k]!.to,l[k]!.token,h.shown⟩:=by
  show FM first (mapM l first k) l[k]! = _
  unfold FM
  rw [← hh,if_neg (by simp only [dbs];rw [h1,h2,h3];simp),if_neg (by simpa using h4)]
theorem NI {M:Option Holding} {z d:Holding} (h:M.isSome=true):M.getD z=M.getD d:=by cases M <;> simp_all
theorem NH {M:Option Holding} {d:Holding} (h:M.isSome=false):d=M.getD d:=by cases M <;> simp_all
theorem IX (l:List DeviceOp) (first:Int) (n:Nat):(ET l first n).length=n:=by simp [ET]
variable {copies device copy:Int}
theorem state_1 (h:CE l≠0):AX l copies first=([],420):=by unfold AX;rw [if_pos (by simpa using h)]
theorem state_2 (h:CE l=0) (h2:copies<0):AX l copies first=([],1):=by unfold AX;rw [if_neg (by simpa using h),if_pos (by simp only [dbs];exact .inl (.inl h2))]
theorem state_3 (h:CE l=0) (h2:1024<copies):AX l copies first=([],1):=by unfold AX;rw [if_neg (by simpa using h),if_pos (by simp only [dbs];exact .inl (.inr h2))]
theorem state_4 (h:CE l=0) (h2:CY first=false):AX l copies first=([],1):=by unfold AX;rw [if_neg (by simpa using h),if_pos (by simp only [dbs];exact .inr h2)]
theorem state_5 (h:CE l=0) (h1:0≤copies) (h2:copies≤1024) (h3:CY first=true):AX l copies first=(ET l first copies.toNat,0):=by
  unfold AX;rw [if_neg (by simpa using h),if_neg (by rw [Bool.not_eq_true];simp only [dbs];exact ⟨⟨by omega,by omega⟩,h3⟩)]
theorem state_cases (l:List DeviceOp) (copies first:Int):(AX l copies first=(ET l first copies.toNat,0)∧okL l∧0≤copies∧copies≤1024∧CY first=true)∨(AX l copies first=([],420)∧¬ okL l)∨(AX l copies first=([],1)∧okL l∧(copies<0∨1024<copies∨CY first=false)):=by
  by_cases h:CE l=0
  · by_cases h1:copies<0
    · exact .inr (.inr ⟨state_2 h h1,(DT l).1 h, .inl h1⟩)
    · by_cases h2:1024<copies
      · exact .inr (.inr ⟨state_3 h h2,(DT l).1 h, .inr (.inl h2)⟩)
      · cases h3:CY first with
        | false=>exact .inr (.inr ⟨state_4 h h3,(DT l).1 h, .inr (.inr rfl)⟩)
        | true=>exact .inl ⟨state_5 h (by omega) (by omega) h3,(DT l).1 h,by omega,by omega,rfl⟩
  · exact .inr (.inl ⟨state_1 h,fun h2=>h ((DT l).2 h2)⟩)
theorem state_ok (h:(AX l copies first).2=0):(AX l copies first).1=ET l first copies.toNat∧okL l∧0≤copies∧copies≤1024∧CY first=true:=by
  rcases state_cases l copies first with ⟨e,h1⟩|⟨e,_⟩|⟨e,_⟩
  · rw [e];exact ⟨rfl,h1⟩
  · rw [e] at h;cases h
  · rw [e] at h;cases h
theorem state_len (h:(AX l copies first).2=0):(AX l copies first).1.length=copies.toNat:=by rw [(state_ok h).1,IX]
end
theorem valid_tok {o:DeviceOp} (h:BO o=true):0≤o.token∧o.token≤65536:=by
  unfold BO at h
  split at h
  · cases h
  · rename_i hh
    rw [Bool.not_eq_true] at hh
    simp only [dbs] at hh
    omega
theorem step_tok {h:Holding} {o:DeviceOp} (hv:BO o=true) (hh:0≤h.token∧h.token≤65536):0≤(LA h o).token∧(LA h o).token≤65536:=by
  have:=valid_tok hv
  unfold LA
  split
  · exact hh
  · split <;> exact this
theorem NR:∀ (l:List DeviceOp) (h:Holding),(∀ o∈l,BO o=true)→0≤h.token∧h.token≤65536→0≤(l.foldl LA h).token∧(l.foldl LA h).token≤65536
  | [],h,_,hh=>hh
  | o :: l,h,hv,hh=>NR l (LA h o) (fun x hx=>hv x (List.mem_cons_of_mem _ hx)) (step_tok (hv o List.mem_cons_self) hh)
theorem foldH_tok {l:List DeviceOp} (hv:∀ o∈l,BO o=true) (c first:Int):0≤(foldH l c first).token∧(foldH l c first).token≤65536:=
  NR _ _ (fun o ho=>hv o (List.mem_filter.1 ho).1) ⟨by simp [EO],by simp [EO]⟩
theorem LK {l:List DeviceOp} (hl:okL l) {first c:Int} {k:Nat} (hk:k≤l.length) {h:Holding} (hh:h=(mapM l first k c).getD (EO c first)):0≤h.token∧h.token≤65536:=by
  rw [hh,OA l first c k hk];exact foldH_tok (fun o ho=>hl.2.1 o (List.mem_of_mem_take ho)) c first
open Go.Fw
theorem eq_step {α:Type} [Inhabited α] {l m:List α} {k:Nat} (h:∀ q,q<k→l[q]! = m[q]!) (hk:l[k]! = m[k]!):∀ q,q<k+1→l[q]! = m[q]!:=by
  intro q hq
  by_cases e:q=k
  · subst e;exact hk
  · exact h q (by omega)
section
variable {α:Type} [DecidableEq α] {l m:List α}
theorem same_len (h:(l.length:Int)≠m.length):(l == m)=false:=by
  rw [beq_eq_false_iff_ne];intro e;subst e;exact h rfl
variable [Inhabited α]
theorem same_at {k:Nat} (h:l[k]!≠m[k]!):(l == m)=false:=by
  rw [beq_eq_false_iff_ne];intro e;subst e;exact h rfl
theorem same_end (h:(l.length:Int)=m.length) (h2:∀ q,q<l.length→l[q]! = m[q]!):(l == m)=true:=by
  rw [beq_iff_eq]
  refine List.ext_getElem (by omega) fun i h1 h3=>?_
  have:=h2 i h1
  rwa [getElem!_pos l i h1,getElem!_pos m i h3] at this
end
open Go.Fw
theorem mem_idx {l:List DeviceOp} {k:Nat} (hk:k<l.length):l[k]!∈l:=by rw [getElem!_pos l k hk];exact List.getElem_mem hk
section
variable {a b c:List DeviceOp}
end
section
variable {l:List DeviceOp} {copies first:Int} {o:DeviceOp} {k:Nat}
section
variable (h:(AX l copies first).2=0) (ha:(CB l o).2=0) (hc:o.copy<copies) (ht:∀ q,q<l.length→¬ (l[q]!.copy=o.copy∧o.token≤l[q]!.token))
include h ha hc ht
end
end
section
variable {a b:List DeviceOp} {t:Nat}
end
open Go.Fw
def BX (d:Device):Bool:=(((decide (0≤d.id) && decide (d.id<4)) && decide (0≤d.counter)) && decide (d.counter≤65535)) && (CE d.ops == 0)
def FL (l:List DeviceOp) (id:Int) (k:Nat):Nat:=((l.take k).filter (fun o=>o.device == id)).length
def overD (d:Device):Bool:=d.ops.any (fun o=>(o.device == d.id) && decide (d.counter<o.no))
def CF (d:Device):Bool:=(BX d && !overD d) && (((FL d.ops d.id d.ops.length:Nat):Int) == d.counter)
def EK:Device:=⟨0,0,[],false⟩
def CA (id:Int):Device × Int:=if decide (id<0) || decide (4≤id) then (EK,1) else (⟨id,0,[],false⟩,0)
abbrev DX (l:List DeviceOp) (o:DeviceOp):Bool:=l.any (fun p=>(p.kind == 2) && (p.copy == o.copy))
def AK (d:Device) (o:DeviceOp) (crash:Int):Device × Int:=
  if !(decide (0≤crash) && decide (crash≤2)) then (EK,1) else if !BX d then (EK,420) else if d.halted || !CF d then (EK,430)
  else if !((o.device == d.id) && (o.no == d.counter+1)) then (EK,420) else if DX d.ops o then (EK,420)
  else if (CB d.ops o).2 != 0 then (EK,(CB d.ops o).2)
  else (⟨d.id,if 1≤crash then d.counter+1 else d.counter,if crash=2 then (CB d.ops o).1 else d.ops,d.halted⟩,0)
def AI (d:Device):Device × Int:=if !BX d then (EK,420) else if d.halted || !CF d then (⟨d.id,d.counter,d.ops,true⟩,430) else (d,0)
def BY (d:Device) (l:List DeviceOp):Device:=⟨d.id,d.counter,l,d.halted⟩
def ES (h:List Holding) (id:Int) (k:Nat):List Int:=((h.take k).filter (fun x=>(x.device == id) && !x.shown)).map (·.copy)
def DS (d:Device) (copies first:Int):List Int:=
  if !d.halted && CF d then [] else if (AX d.ops copies first).2 != 0 then [] else ES (AX d.ops copies first).1 d.id (AX d.ops copies first).1.length
section
variable {d:Device} {o:DeviceOp} {crash id copies first:Int}
theorem formed_b (h:BX d=true):0≤d.id∧d.id<4∧0≤d.counter∧d.counter≤65535:=by unfold BX at h;simp only [dbs] at h;omega
theorem formed_ok (h:BX d=true):CE d.ops=0:=by unfold BX at h;simp only [dbs] at h;exact h.2
theorem MJ:BX d=true↔(0≤d.id∧d.id<4∧0≤d.counter∧d.counter≤65535)∧okL d.ops:=by
  unfold BX
  rw [← DT]
  simp only [dbs]
  constructor
  · rintro ⟨⟨⟨⟨h1,h2⟩,h3⟩,h4⟩,h5⟩;exact ⟨⟨h1,h2,h3,h4⟩,h5⟩
  · rintro ⟨⟨h1,h2,h3,h4⟩,h5⟩;exact ⟨⟨⟨⟨h1,h2⟩,h3⟩,h4⟩,h5⟩
theorem cnt_zero (l:List DeviceOp) (id:Int):FL l id 0=0:=by simp [FL]
theorem cnt_lek (l:List DeviceOp) (id:Int) (k:Nat):FL l id k≤k:=by
  unfold FL
  exact Nat.le_trans (List.length_filter_le _ _) (by rw [List.length_take];omega)
theorem cnt_y {l:List DeviceOp} {k:Nat} (h:k<l.length) (e:l[k]!.device=id):FL l id (k+1)=FL l id k+1:=by
  unfold FL
  rw [HH h,List.filter_append,List.length_append]
  generalize l[k]! = x at e
  simp [e]
theorem cnt_n {l:List DeviceOp} {k:Nat} (h:k<l.length) (e:l[k]!.device≠id):FL l id (k+1)=FL l id k:=by
  unfold FL
  rw [HH h,List.filter_append,List.length_append]
  generalize l[k]! = x at e
  simp [e]
theorem whole_f (h:BX d=false):CF d=false:=by unfold CF;rw [h];rfl
theorem whole_over {k:Nat} (hk:k<d.ops.length) (e:d.ops[k]!.device=d.id) (h:d.counter<d.ops[k]!.no):CF d=false:=by
  have:overD d=true:=List.any_eq_true.2 ⟨_,mem_idx hk,by simp only [dbs];exact ⟨e,h⟩⟩
  unfold CF;rw [this];simp
theorem over_no (h:∀ q,q<d.ops.length→d.ops[q]!.device=d.id→d.ops[q]!.no≤d.counter):overD d=false:=by
  unfold overD
  rw [List.any_eq_false]
  intro x hx
  obtain ⟨i,hi,rfl⟩:=List.getElem_of_mem hx
  have:=h i hi
  rw [getElem!_pos d.ops i hi] at this
  simp only [dbs]
  rintro ⟨h1,h2⟩
  have:=this h1;omega
theorem whole_end (hf:BX d=true) (h:∀ q,q<d.ops.length→d.ops[q]!.device=d.id→d.ops[q]!.no≤d.counter):CF d=(((FL d.ops d.id d.ops.length:Nat):Int) == d.counter):=by
  unfold CF;rw [hf,over_no h];rfl
theorem own_step {l:List DeviceOp} {c:Int} {k:Nat} (h:∀ q,q<k→l[q]!.device=id→l[q]!.no≤c) (hk:l[k]!.device≠id∨l[k]!.no≤c):∀ q,q<k+1→l[q]!.device=id→l[q]!.no≤c:=by
  intro q hq e
  by_cases e2:q=k
  · subst e2;exact hk.elim (fun h=>absurd e h) (fun h=>h)
  · exact h q (by omega) e
theorem new_1 (h:id<0):CA id=(EK,1):=by unfold CA;rw [if_pos (by simp only [dbs];exact .inl h)]
theorem new_2 (h:4≤id):CA id=(EK,1):=by unfold CA;rw [if_pos (by simp only [dbs];exact .inr h)]
theorem new_3 (h:0≤id) (h2:id<4):CA id=(⟨id,0,[],false⟩,0):=by unfold CA;rw [if_neg (by simp only [dbs];omega)]
theorem act_1 (h:crash<0):AK d o crash=(EK,1):=by unfold AK;rw [if_pos (by simp;omega)]
theorem act_1' (h:2<crash):AK d o crash=(EK,1):=by unfold AK;rw [if_pos (by simp;omega)]
theorem KK (h:(decide (0≤crash) && decide (crash≤2))=false):AK d o crash=(EK,1):=by
  simp only [dbs] at h
  by_cases h0:0≤crash
  · exact act_1' (by omega)
  · exact act_1 (by omega)
section
variable (h1:0≤crash) (h2:crash≤2)
include h1 h2
theorem NJ (h:BX d=false):AK d o crash=(EK,420):=by unfold AK;rw [if_neg (by simp;omega),if_pos (by rw [h];rfl)]
variable (hf:BX d=true)
include hf
theorem act_3a (h:d.halted=true):AK d o crash=(EK,430):=by unfold AK;rw [if_neg (by simp;omega),if_neg (by rw [hf];simp),if_pos (by rw [h];rfl)]
theorem act_3b (h:CF d=false):AK d o crash=(EK,430):=by unfold AK;rw [if_neg (by simp;omega),if_neg (by rw [hf];simp),if_pos (by rw [h];simp)]
theorem KR (h:(!d.halted && CF d)=false):AK d o crash=(EK,430):=by
  cases hh:d.halted with
  | true=>exact act_3a h1 h2 hf hh
  | false=>exact act_3b h1 h2 hf (by rw [hh] at h;exact h)
variable (hh:d.halted=false) (hw:CF d=true)
include hh hw
theorem act_4a (h:o.device≠d.id):AK d o crash=(EK,420):=by unfold AK;rw [if_neg (by simp;omega),if_neg (by rw [hf];simp),if_neg (by rw [hh,hw];simp),if_pos (by simp [h])]
theorem act_4b (h:o.no≠d.counter+1):AK d o crash=(EK,420):=by unfold AK;rw [if_neg (by simp;omega),if_neg (by rw [hf];simp),if_neg (by rw [hh,hw];simp),if_pos (by simp [h])]
theorem KH (h:((o.device == d.id) && (o.no == d.counter+1))=false):AK d o crash=(EK,420):=by
  simp only [dbs] at h
  by_cases hd:o.device=d.id
  · exact act_4b h1 h2 hf hh hw (h.resolve_left (fun h=>h hd))
  · exact act_4a h1 h2 hf hh hw hd
variable (hd:o.device=d.id) (hn:o.no=d.counter+1)
include hd hn
theorem OC (h:DX d.ops o=true):AK d o crash=(EK,420):=by unfold AK;rw [if_neg (by simp;omega),if_neg (by rw [hf];simp),if_neg (by rw [hh,hw];simp),if_neg (by simp [hd,hn]),if_pos h]
variable (hs:DX d.ops o=false)
include hs
theorem act_6 (h:(CB d.ops o).2≠0):AK d o crash=(EK,(CB d.ops o).2):=by unfold AK;rw [if_neg (by simp;omega),if_neg (by rw [hf];simp),if_neg (by rw [hh,hw];simp),if_neg (by simp [hd,hn]),if_neg (by rw [hs];simp),if_pos (by simpa using h)]
variable (ha:(CB d.ops o).2=0)
include ha
theorem act_7:AK d o crash=(⟨d.id,if 1≤crash then d.counter+1 else d.counter,if crash=2 then (CB d.ops o).1 else d.ops,d.halted⟩,0):=by unfold AK;rw [if_neg (by simp;omega),if_neg (by rw [hf];simp),if_neg (by rw [hh,hw];simp),if_neg (by simp [hd,hn]),if_neg (by rw [hs];simp),if_neg (by simpa using ha)]
theorem act_70 (h:crash<1):AK d o crash=(d,0):=by rw [act_7 h1 h2 hf hh hw hd hn hs ha,if_neg (by omega),if_neg (by omega)]
theorem act_71 (h:1≤crash) (h3:crash≠2):AK d o crash=(⟨d.id,d.counter+1,d.ops,d.halted⟩,0):=by rw [act_7 h1 h2 hf hh hw hd hn hs ha,if_pos h,if_neg h3]
theorem act_72 (h:crash=2):AK d o crash=(⟨d.id,d.counter+1,(CB d.ops o).1,d.halted⟩,0):=by rw [act_7 h1 h2 hf hh hw hd hn hs ha,if_pos (by omega),if_pos h]
end
theorem start_1 (h:BX d=false):AI d=(EK,420):=by unfold AI;rw [if_pos (by rw [h];rfl)]
theorem IJ (hf:BX d=true) (h:d.halted=true∨CF d=false):AI d=(⟨d.id,d.counter,d.ops,true⟩,430):=by
  unfold AI;rw [if_neg (by rw [hf];simp),if_pos (by rcases h with h|h <;> rw [h] <;> simp)]
theorem start_3 (hf:BX d=true) (hh:d.halted=false) (hw:CF d=true):AI d=(d,0):=by
  unfold AI;rw [if_neg (by rw [hf];simp),if_neg (by rw [hh,hw];simp)]
theorem burn_zero (h:List Holding) (id:Int):ES h id 0=[]:=by simp [ES]
theorem burn_y {h:List Holding} {k:Nat} (hk:k<h.length) (h1:h[k]!.device=id) (h2:h[k]!.shown=false):ES h id (k+1)=ES h id k++[h[k]!.copy]:=by
  unfold ES
  rw [List.take_succ_eq_append_getElem hk,List.filter_append,List.map_append]
  rw [getElem!_pos h k hk] at h1 h2 ⊢
  simp [h1,h2]
theorem burn_n {h:List Holding} {k:Nat} (hk:k<h.length) (h1:h[k]!.device≠id∨h[k]!.shown=true):ES h id (k+1)=ES h id k:=by
  unfold ES
  rw [List.take_succ_eq_append_getElem hk,List.filter_append,List.map_append]
  rw [getElem!_pos h k hk] at h1
  rcases h1 with h1|h1 <;> simp [h1]
theorem burn_len (h:List Holding) (id:Int) (k:Nat):(ES h id k).length≤k:=by
  unfold ES
  rw [List.length_map]
  exact Nat.le_trans (List.length_filter_le _ _) (by rw [List.length_take];omega)
theorem burnt_1 (hh:d.halted=false) (hw:CF d=true):DS d copies first=[]:=by unfold DS;rw [if_pos (by rw [hh,hw];rfl)]
theorem burnt_2 (h:d.halted=true∨CF d=false) (he:(AX d.ops copies first).2≠0):DS d copies first=[]:=by
  unfold DS;rw [if_neg (by rcases h with h|h <;> rw [h] <;> simp),if_pos (by simpa using he)]
theorem burnt_3 (h:d.halted=true∨CF d=false) (he:(AX d.ops copies first).2=0):DS d copies first=ES (AX d.ops copies first).1 d.id (AX d.ops copies first).1.length:=by
  unfold DS;rw [if_neg (by rcases h with h|h <;> rw [h] <;> simp),if_neg (by simpa using he)]
theorem dev_ext {a b:Device} (h1:a.id=b.id) (h2:a.counter=b.counter) (h3:a.halted=b.halted) (h4:a.ops=b.ops):(a == b)=true:=by
  rw [beq_iff_eq];ext1 <;> assumption
theorem dev_ne1 {a b:Device} (h:a.id≠b.id):(a == b)=false:=beq_eq_false_iff_ne.2 fun e=>h (congrArg Device.id e)
theorem dev_ne2 {a b:Device} (h:a.counter≠b.counter):(a == b)=false:=beq_eq_false_iff_ne.2 fun e=>h (congrArg Device.counter e)
theorem dev_ne3 {a b:Device} (h:a.halted≠b.halted):(a == b)=false:=beq_eq_false_iff_ne.2 fun e=>h (congrArg Device.halted e)
theorem dev_eq {a b:Device} (h1:a.id=b.id) (h2:a.counter=b.counter) (h3:a.halted=b.halted):(a == b)=(a.ops == b.ops):=by
  cases h:(a.ops == b.ops) with
  | true=>exact dev_ext h1 h2 h3 (beq_iff_eq.1 h)
  | false=>exact beq_eq_false_iff_ne.2 fun e=>(beq_eq_false_iff_ne.1 h) (congrArg Device.ops e)
end
end Go.Proofs.Ytjpniibleelgiaa
