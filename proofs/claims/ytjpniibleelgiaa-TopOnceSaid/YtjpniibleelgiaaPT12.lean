/- What the laws of this part rest on: lemmas, and the walks of the functions. No conditions. -/
import Derived.WalkKit
import Derived.WalkSpells
import Derived.WalkLawsBesides
import Derived.RangeFuncLeaves
import Derived.Maps.AppendAt
import Derived.Deep.AppendLies
import Derived.Deep.Slices
import Derived.OpenShut
import Derived.ProofKit
import Derived.Below
import Derived.ChangeSame
import Derived.Carry
import Derived.RangeFuncRecord
import Derived.Laws.Tables
import Derived.Recover
import Derived.DefersIn
import Derived.Lib.AppendZerosOnto
import Derived.Lib.Overlaps
import Derived.Laws.CopyRow
import Derived.Laws.StructEq
import Derived.ChangeKeysEq
import Derived.OrdersIn
import Derived.Test.YtjpniibleelgiaaRows
import Derived.Test.YtjpniibleelgiaaPT11
set_option linter.unusedSimpArgs false
set_option linter.unusedVariables false
namespace Go.Fw
open Go.RowKit
def FS:Int ⊕ Bool→Value
  | .inl a=>vI a
  | .inr b=>.bool b
def isL:Int ⊕ Bool→Bool
  | .inl _=>true
  | .inr _=>false
def JP (P:Program):Nat→List Field→List Bool→Bool
  | i,f :: fs,k :: ks=>f.name != "_" && Nat.beq f.offset i && P.plainKey f.type && (match P.underlying f.type,k with|some (.int _),true=>true|some .bool,false=>true | _,_=>false) && JP P (i+1) fs ks
  | _,[],[]=>true
  | _,_,_=>false
section
variable {P:Program} {w:World}
theorem PY {d:Nat} {xs ys:Array Value}:∀ (fs:List Field) (ks:List Bool) (as_ bs:List (Int ⊕ Bool)) (i:Nat),JP P i fs ks=true→as_.map isL=ks→bs.map isL=ks→
    (∀ j v,as_[j]? = some v→xs[i+j]? = some (FS v))→(∀ j v,bs[j]? = some v→ys[i+j]? = some (FS v))→(Op.eqFields (d+1) xs ys fs).run P w = .ok (decide (as_=bs)) w
  | [],ks,as_,bs,i,hf,ha,hb,_,_=>by
    cases ks with
    | cons _ _=>simp [JP] at hf
    | nil=>
      have:as_=[]:=by simpa using ha
      have:bs=[]:=by simpa using hb
      subst_vars;simp [Op.eqFields]
  | f :: fs,[],as_,bs,i,hf,_,_,_,_=>by simp [JP] at hf
  | f :: fs,k :: ks,[],_,_,_,ha,_,_,_=>by simp at ha
  | f :: fs,k :: ks,_ :: _,[],_,_,_,hb,_,_=>by simp at hb
  | f :: fs,k :: ks,a :: as_,b :: bs,i,hf,ha,hb,hx,hy=>by
    simp only [JP,Bool.and_eq_true] at hf
    obtain ⟨⟨⟨⟨h1,h2⟩,h3⟩,h4⟩,h5⟩:=hf
    have hn:f.name≠"_":=by simpa using h1
    have ho:=Nat.eq_of_beq_eq_true h2
    simp only [List.map_cons,List.cons.injEq] at ha hb
    have ih:=PY (d:=d) (xs:=xs) (ys:=ys) fs ks as_ bs (i+1) h5 ha.2 hb.2 (fun j v hj=>by have:=hx (j+1) v (by simpa using hj);rwa [show i+(j+1)=i+1+j by omega] at this) (fun j v hj=>by have:=hy (j+1) v (by simpa using hj);rwa [show i+(j+1)=i+1+j by omega] at this)
    have pa:=run_part_plain (w:=w) h3 (hx 0 a rfl)
    have pb:=run_part_plain (w:=w) h3 (hy 0 b rfl)
    rw [Nat.add_zero,← ho] at pa pb
    have e:(Op.equalIn (d+1) f.type (FS a) (FS b)).run P w = .ok (decide (a=b)) w:=by
      cases hu:P.underlying f.type with
      | none=>rw [hu] at h4;cases k <;> simp at h4
      | some D=>
        rw [hu] at h4
        cases k with
        | true=>
          cases D <;> simp at h4
          cases a with
          | inr _=>simp [isL] at ha
          | inl a=>
            cases b with
            | inr _=>simp [isL] at hb
            | inl b=>
              simp only [FS,vI]
              rw [run_equalIn_int w d f.type _ _ a b hu]
              congr 1;rw [Bool.eq_iff_iff];simp
        | false=>
          cases D <;> simp at h4
          cases a with
          | inl _=>simp [isL] at ha
          | inr a=>
            cases b with
            | inl _=>simp [isL] at hb
            | inr b=>
              simp only [FS]
              rw [run_equalIn_bool' w d f.type a b hu]
              congr 1;rw [Bool.eq_iff_iff];simp
    unfold Op.eqFields
    rw [if_pos hn]
    simp only [Sem.run_bind,pa,pb,e,Result.andThen_ok]
    by_cases hab:a=b
    · subst hab;simp [ih]
    · simp [hab]
def MP (P:Program) (t:TypeId) (ks:List Bool):Bool:=
  JP P 0 (P.fieldsOf t).toList ks && !P.stoodInHeld t && !P.eqGuardType P.depth t
theorem KV {d:Nat} {t:TypeId} {ks:List Bool} (as_ bs:List (Int ⊕ Bool)) (ht:P.underlying t=some (.struct (P.fieldsOf t))) (hf:MP P t ks=true) (ha:as_.map isL=ks) (hb:bs.map isL=ks) :
    (Op.equalIn (d+2) t (.agg (as_.map FS).toArray) (.agg (bs.map FS).toArray)).run P w = .ok (decide (as_=bs)) w:=by
  unfold MP at hf
  simp only [Bool.and_eq_true] at hf
  rw [run_equalIn_struct w (d+1) t _ _ ht (by simpa using hf.1.2)]
  exact PY _ ks as_ bs 0 hf.1.1 ha hb (fun j v hj=>by simp [hj]) (fun j v hj=>by simp [hj])
variable {ty yt:TypeId} {F:Fr} {K:Value→World→Prop} {Z:List PanicEntry→World→Prop} {x y:Operand}
theorem o_eqlF {t:TypeId} {ks:List Bool} {r:Bool} (as_ bs:List (Int ⊕ Bool)) (ht:P.underlying t=some (.struct (P.fieldsOf t))) (hf:MP P t ks=true) (ha:as_.map isL=ks) (hb:bs.map isL=ks) (hx:CK F x = .agg (as_.map FS).toArray) (hy:CK F y = .agg (bs.map FS).toArray) (hr:decide (as_=bs)=r) (h:K (.bool r) w):CR P (.binOp .eql t x y yt) ty F w K Z:=by
  have hg:P.eqGuardType P.depth t=false:=by unfold MP at hf;simp only [Bool.and_eq_true] at hf;simpa using hf.2
  subst hr
  refine BU ?_ h
  have e:=KV (P:=P) (w:=w) (d:=9998) as_ bs ht hf ha hb
  simp only [execOp,hx,hy,Sem.run_bind,run_eqGuard_agg w _ t x y _ _ hg,Result.andThen_ok,run_eql_struct,e]
  try rfl
structure KeyT (P:Program) (kt:TypeId) {κ:Type} [BEq κ] (enc:κ→Value):Prop where
  same:∀ k:κ,Instr.sameBits 10000 (enc k) (enc k)=true
  check:∀ (k:κ) (b:Bool) (w:World),(Instr.checkKey b 10000 kt (enc k)).run P w = .ok () w
  find:∀ (k:κ) (l:List (κ × Value)) (es:List MapEntry) (w:World),es.map (fun e=>(e.key,e.val))=l.map (fun x=>(enc x.1,x.2))→(Instr.findKey kt (enc k) es).run P w = .ok ((l.findIdx? (fun x=>k == x.1)).bind fun j=>(l[j]?).map fun x=>(j,x.2)) w
theorem ON {kt:TypeId} (hk:P.underlying kt=some (.int .i64)):KeyT P kt (κ:=Int) vI:=
  ⟨fun k=>by simp [Instr.sameBits,vI],fun k b w=>run_checkF hk b,fun k l es w he=>by
    have:=run_findF (P:=P) (w:=w) (kt:=kt) (k:=k) (l:=l) (es:=es.toArray) hk (r:=0) (by simpa using he)
    simpa using this⟩
def MD {κ:Type} [BEq κ] (l:List (κ × Value)) (k:κ):Option Value:=(l.findIdx? (fun x=>k == x.1)).bind fun j=>(l[j]?).map (·.2)
def LB {κ α:Type} [BEq κ] (enc:κ→Value) (venc:α→Value) (w:World) (r:Nat) (M:κ→Option α):Prop:=
  ∃ es c,∃ l:List (κ × Value),Ob w r (.map es c)∧es.toList.map (fun e=>(e.key,e.val))=l.map (fun x=>(enc x.1,x.2))∧∀ k,MD l k=(M k).map venc
section
variable {κ α:Type} [BEq κ] {enc:κ→Value} {venc:α→Value} {r:Nat} {M:κ→Option α}
theorem LB.lt (h:LB enc venc w r M):r<w.heap.size:=let ⟨_,_,_,h,_⟩:=h;h.lt
theorem LB.keep {w':World} {O:List Nat} (h:LB enc venc w r M) (k:Keep O w w') (hb:r∉O):LB enc venc w' r M:=let ⟨es,c,l,h1,h2⟩:=h;⟨es,c,l,h1.keep k hb,h2⟩
variable {w0:World} {O0 B:List Nat} {z:Operand}
def noM {κ α:Type}:κ→Option α:=fun _=>none
def upM {κ α:Type} [BEq κ] (M:κ→Option α) (k:κ) (a:α):κ→Option α:=fun k'=>if k' == k then some a else M k'
theorem PP (enc:κ→Value) (venc:α→Value) {t:TypeId} (s:St w0 O0 w B) (h:∀ r w',r=w.heap.size→St w0 O0 w' (r :: B)→Mv B w (r :: B) w'→Keep [] w w'→LB enc venc w' r noM→K (.map (some r)) w'):CR P (.makeMap t none) ty F w K Z:=by
  refine o_makeMapF s fun r w' e s' m k hm=>h r w' e s' m k ?_
  obtain ⟨es,c,ho,he⟩:=hm
  exact ⟨es,c,[],ho,by simpa using he,fun k=>rfl⟩
theorem o_lookV1 {t kt et:TypeId} {k:κ} {z0:α} (ht:P.underlying t=some (.map kt et)) (hk:KeyT P kt enc) (hz:FJ P et=some (venc z0)) (hx:CK F x = .map (some r)) (hy:CK F y=enc k) (hm:LB enc venc w r M) (h:K (venc ((M k).getD z0)) w):CR P (.lookup t x y false) ty F w K Z:=by
  obtain ⟨es,c,l,ho,he,hM⟩:=hm
  have h1:=hk.find k l es.toList w he
  have hMk:=hM k
  unfold MD at hMk
  refine BU ?_ h
  cases hj:l.findIdx? (fun x=>k == x.1) with
  | none=>
    rw [hj] at h1 hMk
    have:M k=none:=by cases hh:M k with|none=>rfl|some a=>rw [hh] at hMk;simp at hMk
    simp [execOp,Instr.lookup,run_underlying ht,hx,hy,HB ho,hk.check,h1,LU hz,this]
  | some j=>
    rw [hj] at h1 hMk
    obtain ⟨hjl,_⟩:=List.findIdx?_eq_some_iff_getElem.1 hj
    have hl:l[j]? = some l[j]:=List.getElem?_eq_getElem hjl
    rw [Option.bind_some,hl,Option.map_some] at h1 hMk
    cases hh:M k with
    | none=>rw [hh] at hMk;simp at hMk
    | some a=>
      rw [hh] at hMk
      simp only [Option.map_some,Option.some.injEq] at hMk
      simp [execOp,Instr.lookup,run_underlying ht,hx,hy,HB ho,hk.check,h1,hMk]
theorem o_lookV2 {t kt et:TypeId} {k:κ} {z0:α} (ht:P.underlying t=some (.map kt et)) (hk:KeyT P kt enc) (hz:FJ P et=some (venc z0)) (hx:CK F x = .map (some r)) (hy:CK F y=enc k) (hm:LB enc venc w r M) (h:K (.tuple #[venc ((M k).getD z0), .bool (M k).isSome]) w):CR P (.lookup t x y true) ty F w K Z:=by
  obtain ⟨es,c,l,ho,he,hM⟩:=hm
  have h1:=hk.find k l es.toList w he
  have hMk:=hM k
  unfold MD at hMk
  refine BU ?_ h
  cases hj:l.findIdx? (fun x=>k == x.1) with
  | none=>
    rw [hj] at h1 hMk
    have:M k=none:=by cases hh:M k with|none=>rfl|some a=>rw [hh] at hMk;simp at hMk
    simp [execOp,Instr.lookup,run_underlying ht,hx,hy,HB ho,hk.check,h1,LU hz,this]
  | some j=>
    rw [hj] at h1 hMk
    obtain ⟨hjl,_⟩:=List.findIdx?_eq_some_iff_getElem.1 hj
    have hl:l[j]? = some l[j]:=List.getElem?_eq_getElem hjl
    rw [Option.bind_some,hl,Option.map_some] at h1 hMk
    cases hh:M k with
    | none=>rw [hh] at hMk;simp at hMk
    | some a=>
      rw [hh] at hMk
      simp only [Option.map_some,Option.some.injEq] at hMk
      simp [execOp,Instr.lookup,run_underlying ht,hx,hy,HB ho,hk.check,h1,hMk]
theorem findIdx_set {l:List (κ × Value)} {j:Nat} {q:κ × Value} (hj:j<l.length) (hq:q.1=l[j].1) (k':κ):(l.set j q).findIdx? (fun x=>k' == x.1)=l.findIdx? (fun x=>k' == x.1):=by
  induction l generalizing j with
  | nil=>simp at hj
  | cons a l ih=>
    cases j with
    | zero=>
      simp only [List.getElem_cons_zero] at hq
      rw [List.set_cons_zero,List.findIdx?_cons,List.findIdx?_cons,hq]
    | succ j=>
      simp only [List.length_cons,Nat.add_lt_add_iff_right] at hj
      simp only [List.getElem_cons_succ] at hq
      rw [List.set_cons_succ,List.findIdx?_cons,List.findIdx?_cons,ih hj hq]
variable [LawfulBEq κ]
theorem mfind_push {l:List (κ × Value)} {k:κ} {v:Value} (hn:l.findIdx? (fun x=>k == x.1)=none) (k':κ):MD (l++[(k,v)]) k'=if k' == k then some v else MD l k':=by
  unfold MD
  rw [List.findIdx?_append]
  by_cases e:k' == k
  · have e':k'=k:=by simpa using e
    subst e'
    rw [hn];simp
  · rw [if_neg e]
    cases hf:l.findIdx? (fun x=>k' == x.1) with
    | none=>simp [e]
    | some j=>
      obtain ⟨hjl,_⟩:=List.findIdx?_eq_some_iff_getElem.1 hf
      simp [List.getElem?_append_left hjl]
theorem mfind_set {l:List (κ × Value)} {k:κ} {v:Value} {j:Nat} (hf:l.findIdx? (fun x=>k == x.1)=some j) {q:κ} (hq:∀ h:j<l.length,q=l[j].1) (k':κ):MD (l.set j (q,v)) k'=if k' == k then some v else MD l k':=by
  obtain ⟨hjl,h1,h2⟩:=List.findIdx?_eq_some_iff_getElem.1 hf
  have hk:k=l[j].1:=by simpa using h1
  unfold MD
  rw [findIdx_set hjl (hq hjl)]
  by_cases e:k' == k
  · have e':k'=k:=by simpa using e
    subst e'
    rw [hf,if_pos e];simp [hjl]
  · rw [if_neg e]
    cases hg:l.findIdx? (fun x=>k' == x.1) with
    | none=>rfl
    | some i=>
      have hij:i≠j:=fun hij=>by
        subst hij
        obtain ⟨_,h3,_⟩:=List.findIdx?_eq_some_iff_getElem.1 hg
        have:k'=l[i].1:=by simpa using h3
        exact e (by rw [this,← hk];simp)
      simp [List.getElem?_set,Ne.symm hij]
theorem o_updV {t kt et:TypeId} {k:κ} {a:α} (ht:P.underlying t=some (.map kt et)) (hk:KeyT P kt enc) (hx:CK F x = .map (some r)) (hy:CK F y=enc k) (hv:CK F z=venc a) (hm:LB enc venc w r M) (hr:r∈B) (s:St w0 O0 w B)
    (h:∀ w',St w0 O0 w' B→Mv B w B w'→Keep [r] w w'→LB enc venc w' r (upM M k a)→K undef w'):CR P (.mapUpdate t x y z) ty F w K Z:=by
  obtain ⟨es,c,l,ho,he,hM⟩:=hm
  have h1:=hk.find k l es.toList w he
  cases hj:l.findIdx? (fun x=>k == x.1) with
  | none=>
    rw [hj] at h1
    have h2:Keep [r] w (w.putObj r (.map (es.push { key:=enc k,val:=venc a,born:=c }) (c+1))):=Keep.putObj _ _ _
    refine PZ (w':=w.putObj r (.map (es.push { key:=enc k,val:=venc a,born:=c }) (c+1))) ?_ (h _ (s.keepB h2 (by simpa using hr)) (Mv.keepB h2 (by simpa using hr)) h2 ⟨_,_,l++[(k,venc a)],ho.putObj _,by simp [he],fun k'=>?_⟩)
    · simp [execOp,Instr.mapUpdate,run_underlying ht,hx,hy,hv,HB ho,hk.check,h1,PL _ ho]
    · rw [mfind_push hj];unfold upM;split
      · rfl
      · exact hM k'
  | some j=>
    rw [hj] at h1
    obtain ⟨hjl,hj1,_⟩:=List.findIdx?_eq_some_iff_getElem.1 hj
    have hkj:k=l[j].1:=by simpa using hj1
    have hel:es.toList.length=l.length:=by have:=congrArg List.length he;simpa using this
    have hje:j<es.size:=by simpa using (by omega:j<es.toList.length)
    have hkey:es[j].key=enc k∧es[j].val=l[j].2:=by
      have:=congrArg (·[j]?) he
      simp only [List.getElem?_map] at this
      rw [List.getElem?_eq_getElem hjl,List.getElem?_eq_getElem (by omega:j<es.toList.length)] at this
      simp only [Option.map_some,Option.some.injEq,Prod.mk.injEq] at this
      rw [hkj]
      exact ⟨by simpa using this.1,by simpa using this.2⟩
    have hst:(Instr.keyThatStays (enc k) (enc k)).run P w = .ok (enc k) w:=by unfold Instr.keyThatStays;rw [if_pos (hk.same k)];rfl
    rw [Option.bind_some,List.getElem?_eq_getElem hjl,Option.map_some] at h1
    have h2:Keep [r] w (w.putObj r (.map (es.modify j fun e=>{ e with key:=enc k,val:=venc a }) c)):=Keep.putObj _ _ _
    refine PZ (w':=w.putObj r (.map (es.modify j fun e=>{ e with key:=enc k,val:=venc a }) c)) ?_ (h _ (s.keepB h2 (by simpa using hr)) (Mv.keepB h2 (by simpa using hr)) h2 ⟨_,_,l.set j (k,venc a),ho.putObj _,?_,fun k'=>?_⟩)
    · simp [execOp,Instr.mapUpdate,run_underlying ht,hx,hy,hv,HB ho,hk.check,h1,PL _ ho,hje,hkey.1,hst]
    · apply List.ext_getElem?
      intro i
      have hi:=congrArg (·[i]?) he
      simp only [List.getElem?_map,Array.getElem?_toList] at hi
      simp only [List.getElem?_map,Array.getElem?_toList,Array.getElem?_modify,List.getElem?_set]
      by_cases hij:j=i
      · subst hij
        simp [hje,hjl]
      · rw [if_neg hij,if_neg hij];exact hi
    · rw [mfind_set hj (q:=k) (fun _=>hkj)];unfold upM;split
      · rfl
      · exact hM k'
theorem KU {n:Nat} {b:Bool} {xs:Array Value}:∀ (fs:List Field) (ks:List Bool) (as_:List (Int ⊕ Bool)) (i:Nat) (w:World),JP P i fs ks=true→as_.map isL=ks→(∀ j v,as_[j]? = some v→xs[i+j]? = some (FS v))→
    (forIn fs PUnit.unit fun f _=>if f.name≠"_" then do { let x ← part f.type xs f.offset;Instr.checkKey b (n+1) f.type x;pure (ForInStep.yield PUnit.unit) } else pure (ForInStep.yield PUnit.unit):Sem PUnit).run P w = .ok PUnit.unit w
  | [],_,_,_,_,_,_,_=>by simp
  | f :: fs,[],_,_,_,hf,_,_=>by simp [JP] at hf
  | f :: fs,k :: ks,[],_,_,_,ha,_=>by simp at ha
  | f :: fs,k :: ks,a :: as_,i,w,hf,ha,hx=>by
    simp only [JP,Bool.and_eq_true] at hf
    obtain ⟨⟨⟨⟨h1,h2⟩,h3⟩,h4⟩,h5⟩:=hf
    have hn:f.name≠"_":=by simpa using h1
    have ho:=Nat.eq_of_beq_eq_true h2
    simp only [List.map_cons,List.cons.injEq] at ha
    have ih:=KU (n:=n) (b:=b) (xs:=xs) fs ks as_ (i+1) w h5 ha.2 (fun j v hj=>by have:=hx (j+1) v (by simpa using hj);rwa [show i+(j+1)=i+1+j by omega] at this)
    have pa:=run_part_plain (w:=w) h3 (hx 0 a rfl)
    rw [Nat.add_zero,← ho] at pa
    have e:(Instr.checkKey b (n+1) f.type (FS a)).run P w = .ok () w:=by
      cases hu:P.underlying f.type with
      | none=>rw [hu] at h4;cases k <;> simp at h4
      | some D=>
        rw [hu] at h4
        rw [Instr.checkKey]
        cases k <;> cases D <;> simp at h4 <;> cases a <;> simp [run_underlying hu,FS,vI]
    rw [List.forIn_cons]
    simp only [hn,ne_eq,not_false_eq_true,if_true,Sem.run_bind,pa,e,Result.andThen_ok,Sem.run_pure]
    exact ih
end
section
variable {κ:Type} [BEq κ] [LawfulBEq κ]
theorem LZ {kt:TypeId} {ks:List Bool} (cs:κ→List (Int ⊕ Bool)) (ht:P.underlying kt=some (.struct (P.fieldsOf kt))) (hf:MP P kt ks=true) (hks:∀ k,(cs k).map isL=ks) (hinj:∀ a b,cs a=cs b→a=b) (k:κ):∀ (l:List (κ × Value)) (es:List MapEntry) (i:Nat) (w:World),es.map (fun e=>(e.key,e.val))=l.map (fun x=>(Value.agg ((cs x.1).map FS).toArray,x.2))→
    (Instr.findAsking kt (.agg ((cs k).map FS).toArray) es i).run P w = .ok ((l.findIdx? (fun x=>k == x.1)).bind fun j=>(l[j]?).map fun x=>(i+j,x.2)) w
  | [],[],i,w,_=>rfl
  | [],e :: es,i,w,h=>by simp at h
  | x :: l,[],i,w,h=>by simp at h
  | x :: l,e :: es,i,w,h=>by
    simp only [List.map_cons,List.cons.injEq,Prod.mk.injEq] at h
    obtain ⟨⟨h1,h2⟩,h3⟩:=h
    have he:=KV (P:=P) (w:=w) (d:=9998) (cs k) (cs x.1) ht hf (hks k) (hks x.1)
    unfold Instr.findAsking
    have he':(Op.equal kt (.agg ((cs k).map FS).toArray) e.key).run P w = .ok (decide (cs k=cs x.1)) w:=by rw [h1];exact he
    simp only [Sem.run_bind,he',Result.andThen_ok]
    rw [List.findIdx?_cons]
    by_cases hc:k=x.1
    · have:(k == x.1)=true:=by simp [hc]
      simp [hc,h2]
    · have hc':¬ cs k=cs x.1:=fun e=>hc (hinj _ _ e)
      have:(k == x.1)=false:=by simpa using hc
      rw [this]
      simp only [hc',decide_false,Bool.false_eq_true,if_false]
      rw [LZ cs ht hf hks hinj k l es (i+1) w h3]
      cases hf2:l.findIdx? (fun x=>k == x.1) with
      | none=>simp
      | some j=>simp;congr 1;funext y;congr 1;omega
theorem key_flat {kt:TypeId} {ks:List Bool} (cs:κ→List (Int ⊕ Bool)) (ht:P.underlying kt=some (.struct (P.fieldsOf kt))) (hf:MP P kt ks=true) (hks:∀ k,(cs k).map isL=ks) (hinj:∀ a b,cs a=cs b→a=b):KeyT P kt (fun k=>Value.agg ((cs k).map FS).toArray):=by
  refine ⟨fun k=>?_,fun k b w=>?_,fun k l es w he=>?_⟩
  · have:∀ l:List (Int ⊕ Bool),(((l.map FS).toArray.toList.zip (l.map FS).toArray.toList).all fun p=>Instr.sameBits 9999 p.1 p.2)=true:=by
      intro l
      induction l with
      | nil=>rfl
      | cons a l ih=>
        cases a <;> simp [FS,vI,Instr.sameBits] at ih ⊢ <;> exact ih
    rw [show (10000:Nat)=9999+1 from rfl,Instr.sameBits]
    simpa using this (cs k)
  · unfold MP at hf
    simp only [Bool.and_eq_true] at hf
    rw [show (10000:Nat)=9998+1+1 from rfl,Instr.checkKey]
    simp only [Sem.run_bind,run_underlying ht,Result.andThen_ok]
    rw [← Array.forIn_toList]
    rw [KU (xs:=(List.map FS (cs k)).toArray) _ ks (cs k) 0 w hf.1.1 (hks k) (fun j v hj=>by simp [hj])]
    rfl
  · have h:=LZ cs ht hf hks hinj k l es 0 w he
    simp only [Nat.zero_add] at h
    unfold Instr.findKey
    simp only [Sem.run_bind,run_underlying ht,Result.andThen_ok]
    cases es with
    | nil=>
      cases l with
      | nil=>simp [Instr.findNow]
      | cons _ _=>simp at he
    | cons e es=>
      cases l with
      | nil=>simp at he
      | cons x l=>
        simp only [List.map_cons,List.cons.injEq,Prod.mk.injEq] at he
        have:Instr.findNow (.struct (P.fieldsOf kt)) (Value.agg ((cs k).map FS).toArray) (e :: es) 0=none:=by
          unfold Instr.findNow
          rw [he.1.1];rfl
        rw [this]
        exact h
end
end
open Go.RowKit
section
variable {P:Program} {n:Nat} {Q:Exit→Fr→World→Prop}
def IN (op:Op) (F:Fr):Option Value:=
  match op with
  | .extract x i=>(match CK F x with | .tuple vs=>vs[i]? | _=>none)
  | .move x=>some (CK F x)
  | .assign x=>some (CK F x)
  | _=>none
def NE (op:Op) (d:Tmp):Bool:=
  match op with
  | .extract (.tmp s) _=>!Nat.beq s d
  | .move (.tmp s)=>!Nat.beq s d
  | .assign (.tmp s)=>!Nat.beq s d
  | .assign (.const _)=>true
  | _=>false
theorem opw_pure {op:Op} {d:Tmp} {ty:TypeId} {F:Fr} {w:World} {K:Value→World→Prop} {Z:List PanicEntry→World→Prop} (hp:NE op d=true) (h:CR P op ty F w K Z):∃ v,IN op F=some v∧K v w:=by
  unfold NE at hp
  split at hp
  · rename_i s i
    unfold CR at h
    have e:CK F (.tmp s)=F s:=rfl
    simp only [execOp,e] at h
    unfold IN
    simp only [e]
    cases hF:F s with
    | tuple vs=>
      rw [hF] at h
      cases hv:vs[i]? with
      | some v=>refine ⟨v,hv,?_⟩;simpa [Instr.extract,hv,FK] using h
      | none=>exfalso;simp [Instr.extract,hv,FK] at h
    | _=>exfalso;rw [hF] at h;simp [Instr.extract,FK] at h
  · unfold CR at h;simp only [execOp] at h;exact ⟨_,rfl,by simpa [FK] using h⟩
  · unfold CR at h;simp only [execOp] at h;exact ⟨_,rfl,by simpa [FK] using h⟩
  · unfold CR at h;simp only [execOp] at h;exact ⟨_,rfl,by simpa [FK] using h⟩
  · cases hp
theorem NR {op:Op} {v:Value} {ty:TypeId} {F:Fr} {w:World} {K:Value→World→Prop} {Z:List PanicEntry→World→Prop} (hv:IN op F=some v) (h:K v w):CR P op ty F w K Z:=by
  unfold IN at hv
  split at hv
  · split at hv
    · rename_i vs e;exact BD (vs:=vs) v e hv h
    · cases hv
  · exact AF v (Option.some.inj hv) h
  · exact AH v (Option.some.inj hv) h
  · cases hv
def exOk (ops:List Oper) (a b:Nat):Bool:=
  match ops[a]?,ops[b]? with
  | some oa,some ob=>oa.guard.isNone && ob.guard.isNone && (match oa.dst,ob.dst with
    | some da,some db=>!Nat.beq da db && NE oa.op db && NE ob.op da
    | _,_=>false)
  | _,_=>false
theorem QB {a b:Nat} (h:(!Nat.beq a b)=true):a≠b:=fun e=>by subst e;simp at h
theorem beq_ne {a b:Nat} (h:a≠b):Nat.beq a b=false:=by
  cases e:Nat.beq a b with
  | false=>rfl
  | true=>exact absurd (Nat.eq_of_beq_eq_true e) h
theorem upd_other {F:Fr} {d t:Nat} {v:Value} (h:t≠d):DN F d v t=F t:=by
  unfold DN;rw [beq_ne h];rfl
theorem upd_swap {F:Fr} {a b:Nat} {v u:Value} (h:a≠b):DN (DN F a v) b u=DN (DN F b u) a v:=by
  funext t
  unfold DN
  cases e1:Nat.beq t a with
  | false=>cases e2:Nat.beq t b <;> rfl
  | true=>
    have h1:=Nat.eq_of_beq_eq_true e1
    subst h1
    rw [beq_ne h];rfl
theorem NT {op:Op} {d:Tmp} {F:Fr} {u:Value} (hp:NE op d=true):IN op (DN F d u)=IN op F:=by
  unfold NE at hp
  unfold IN
  have e:∀ s:Tmp,(!Nat.beq s d)=true→CK (DN F d u) (.tmp s)=CK F (.tmp s):=fun s hs=>upd_other (QB hs)
  split at hp
  · simp only [e _ hp]
  · simp only [e _ hp]
  · simp only [e _ hp]
  · rfl
  · cases hp
theorem wl_swap {ops:List Oper} {a b:Nat} {oa ob:Oper} {rest:List Oper} {F:Fr} {w:World} (hx:exOk ops a b=true) (ha:ops[a]? = some oa) (hb:ops[b]? = some ob) (h:WL false P ops Q (oa :: ob :: rest) F w):WL false P ops Q (ob :: oa :: rest) F w:=by
  unfold exOk at hx
  rw [ha,hb] at hx
  obtain ⟨d1,p1,t1,q1,f1,g1⟩:=oa
  obtain ⟨d2,p2,t2,q2,f2,g2⟩:=ob
  simp only [Bool.and_eq_true] at hx
  obtain ⟨⟨h1,h2⟩,h3⟩:=hx
  cases g1 with
  | some _=>simp at h1
  | none=>
  cases g2 with
  | some _=>simp at h2
  | none=>
  cases d1 with
  | none=>simp at h3
  | some da=>
  cases d2 with
  | none=>simp at h3
  | some db=>
    simp only [Bool.and_eq_true] at h3
    obtain ⟨⟨h3,h4⟩,h5⟩:=h3
    have n1:=QB h3
    unfold WL at h
    rw [if_pos (by rfl)] at h
    obtain ⟨v,hv,h⟩:=opw_pure h4 (h.resolve_right (fun e=>by cases e.1))
    unfold WL at h
    rw [if_pos (by rfl)] at h
    obtain ⟨x,hxv,h⟩:=opw_pure h5 (h.resolve_right (fun e=>by cases e.1))
    have hxv':IN p2 F=some x:=(NT (F:=F) (u:=v) h5).symm.trans hxv
    unfold WL
    rw [if_pos (by rfl)]
    refine .inl (NR hxv' ?_)
    unfold WL
    rw [if_pos (by rfl)]
    refine .inl (NR (v:=v) ((NT (F:=F) (u:=x) h4).trans hv) ?_)
    have e:GD (GD F (some db) x) (some da) v=GD (GD F (some da) v) (some db) x:=(upd_swap (F:=F) (v:=v) (u:=x) n1).symm
    rw [e];exact h
def JE (ops:List Oper):Nat→List Nat→Bool
  | _,[]=>true
  | 0,_=>false
  | _+1,[a]=>(HM ops a).all fun j=>!Nat.beq j a
  | f+1,a :: b :: t=>(HM ops a).all (fun j=>!(a :: b :: t).contains j) && t.all (fun x=>DL ops x a) && JE ops f (b :: t) &&
      (DL ops b a || (exOk ops a b && (HM ops b).all (fun j=>!(a :: b :: t).contains j) && JE ops f (a :: t)))
theorem run_step {ops:List Oper} (hok:ops.all (NJ n ops)=true) {i fuel:Nat} {listed:Array Bool} {F1:Fr} {w1:World} {rest:List Oper} (hil:i<ops.length) (h:WL false P ops Q (ops[i] :: rest) F1 w1)
    (ih:∀ F w,WL false P ops Q rest F w→wpAny P .any ops.toArray (IS n Q) fuel (listed.setIfInBounds i true) (mk n F) w):wpOp P ops.toArray (IS n Q) i (wpAny P .any ops.toArray (IS n Q) fuel (listed.setIfInBounds i true)) (mk n F1) w1:=by
  have ho:ops[i]? = some ops[i]:=List.getElem?_eq_getElem hil
  refine JN (K:=fun F w=>WL false P ops Q rest F w) hok ho ih (fun hw=>?_) (fun hw=>?_)
  · unfold WL at h;rw [if_pos hw] at h;exact h.resolve_right (fun e=>by cases e.1)
  · unfold WL at h;rw [if_neg (by rw [hw];simp)] at h;exact h
theorem IL {ops:List Oper} {i:Nat} {t:List Nat} (hil:i<ops.length):EA ops (i :: t)=ops[i] :: EA ops t:=by
  unfold EA;rw [List.filterMap_cons,List.getElem?_eq_getElem hil]
theorem forced_runC {ops:List Oper} (hok:ops.all (NJ n ops)=true) (hin:∀ k,k<ops.length→∀ j∈HM ops k,j<ops.length):∀ (g:Nat) (seq:List Nat) (fuel:Nat) (listed:Array Bool) (F1:Fr) (w1:World),listed.size=ops.length→KS ops listed≤fuel→
    (∀ j,j<ops.length→(listed[j]? = some true↔j∉seq))→(∀ j∈seq,j<ops.length)→seq.Nodup→JE ops g seq=true→(∀ i,listed[i]? = some true→∀ j∈HM ops i,listed[j]? = some true)→
    WL false P ops Q (EA ops seq) F1 w1→wpAny P .any ops.toArray (IS n Q) fuel listed (mk n F1) w1:=by
  intro g
  induction g with
  | zero=>
    intro seq fuel listed F1 w1 hsz hfu hl hlt hnd hf hdown h
    cases seq with
    | nil=>exact GJ hok hin [] fuel listed F1 w1 hsz hfu hl hlt hnd rfl hdown h
    | cons a t=>cases t <;> simp [JE] at hf
  | succ g ihg=>
    intro seq fuel listed F1 w1 hsz hfu hl hlt hnd hf hdown h
    match seq,hl,hlt,hnd,hf,h with
    | [],hl,hlt,hnd,hf,h=>exact GJ hok hin [] fuel listed F1 w1 hsz hfu hl hlt hnd rfl hdown h
    | [a],hl,hlt,hnd,hf,h=>
      refine GJ hok hin [a] fuel listed F1 w1 hsz hfu hl hlt hnd ?_ hdown h
      unfold JE at hf
      unfold JD JD
      simp only [List.all_nil,Bool.true_and,Bool.and_true]
      refine List.all_eq_true.2 fun j hj=>?_
      have:=QB (List.all_eq_true.1 hf j hj)
      simpa using this
    | a :: b :: t,hl,hlt,hnd,hf,h=>
      unfold JE at hf
      simp only [Bool.and_eq_true] at hf
      obtain ⟨⟨⟨f1,f2⟩,f3⟩,f4⟩:=hf
      have ha:a<ops.length:=hlt a (by simp)
      have hb:b<ops.length:=hlt b (by simp)
      obtain ⟨hat,hnd'⟩:=List.nodup_cons.1 hnd
      obtain ⟨hbt,hnd''⟩:=List.nodup_cons.1 hnd'
      have hunl:∀ q,q<ops.length→q∈a :: b :: t→listed[q]? = some false:=fun q hq hm=>by
        have h1:¬ listed[q]? = some true:=fun e=>((hl q hq).1 e) hm
        have:q<listed.size:=by omega
        rw [Array.getElem?_eq_getElem this] at h1 ⊢
        simpa using h1
      have han:=hunl a ha (by simp)
      have hbn:=hunl b hb (by simp)
      have hula:=HV ha hsz han
      have hulb:=HV hb hsz hbn
      obtain ⟨fuel,rfl⟩:∃ f,fuel=f+1:=⟨fuel - 1,by omega⟩
      have haq:∀ j∈HM ops a,listed[j]? = some true:=fun j hj=>by
        have h1:=List.all_eq_true.1 f1 j hj
        exact (hl j (hin a ha j hj)).2 (by simpa using h1)
      have hset:∀ i,i<ops.length→∀ j,(listed.setIfInBounds i true)[j]? = some true↔j=i∨listed[j]? = some true:=fun i hi j=>by
        rw [Array.getElem?_setIfInBounds]
        by_cases hji:i=j
        · subst hji;simp;omega
        · rw [if_neg hji];exact ⟨fun h=>.inr h,fun h=>h.resolve_left (fun e=>hji e.symm)⟩
      refine ⟨fun h0=>?_,fun i hi=>?_⟩
      · have:=ready_of' hsz ha han haq
        rw [h0] at this;cases this
      · obtain ⟨hnl,hil⟩:=IP hi hsz
        have hmem:i∈a :: b :: t:=Classical.byContradiction fun hc=>by have:=(hl i hil).2 hc;rw [hnl] at this;cases this
        have hready:=GL (List.getElem?_eq_getElem hil) hi hsz (hin i hil)
        have hwait:∀ q,DL ops i q=true→listed[q]? = some true:=fun q hq=>by
          unfold DL at hq
          exact GR (D:=fun j=>listed[j]? = some true) hdown _ _ hready q (by simpa using hq)
        rcases List.mem_cons.1 hmem with rfl|hmem
        · rw [IL ha] at h
          refine run_step hok ha h fun F w hK=>ihg (b :: t) fuel _ F w (by simpa using hsz) (by omega) (fun j hj=>?_) (fun j hj=>hlt j (List.mem_cons_of_mem _ hj)) hnd' f3 (fun j hj x hx=>?_) hK
          · rw [hset i ha j,hl j hj]
            constructor
            · rintro (rfl|h1)
              · exact hat
              · exact fun h2=>h1 (List.mem_cons_of_mem _ h2)
            · intro h1
              by_cases hji:j=i
              · exact .inl hji
              · exact .inr fun h2=>by rcases List.mem_cons.1 h2 with h3|h3;exact hji h3;exact h1 h3
          · rw [hset i ha x]
            rcases (hset i ha j).1 hj with h1|h1
            · subst h1;exact .inr (haq x hx)
            · exact .inr (hdown j h1 x hx)
        · rcases List.mem_cons.1 hmem with rfl|hmem
          · -- the second comes first
            simp only [Bool.or_eq_true,Bool.and_eq_true] at f4
            rcases f4 with f4|⟨⟨f4,f5⟩,f6⟩
            · have:=hwait a f4;rw [han] at this;cases this
            · rw [IL ha,IL hb] at h
              have h':=wl_swap f4 (List.getElem?_eq_getElem ha) (List.getElem?_eq_getElem hb) h
              rw [← IL (t:=t) ha] at h'
              refine run_step hok hb h' fun F w hK=>ihg (a :: t) fuel _ F w (by simpa using hsz) (by omega) (fun j hj=>?_) (fun j hj=>hlt j (by rcases List.mem_cons.1 hj with h1|h1;exact h1 ▸ List.mem_cons_self;exact List.mem_cons_of_mem _ (List.mem_cons_of_mem _ h1))) (List.nodup_cons.2 ⟨fun h2=>hat (List.mem_cons_of_mem _ h2),hnd''⟩) f6 (fun j hj x hx=>?_) hK
              · rw [hset i hb j,hl j hj]
                constructor
                · rintro (rfl|h1)
                  · intro h2
                    rcases List.mem_cons.1 h2 with h3|h3
                    · exact hat (h3 ▸ List.mem_cons_self)
                    · exact hbt h3
                  · intro h2
                    apply h1
                    rcases List.mem_cons.1 h2 with h3|h3
                    · rw [h3];exact List.mem_cons_self
                    · exact List.mem_cons_of_mem _ (List.mem_cons_of_mem _ h3)
                · intro h1
                  by_cases hji:j=i
                  · exact .inl hji
                  · refine .inr fun h2=>?_
                    rcases List.mem_cons.1 h2 with h3|h3
                    · exact h1 (h3 ▸ List.mem_cons_self)
                    · rcases List.mem_cons.1 h3 with h4|h4
                      · exact hji h4
                      · exact h1 (List.mem_cons_of_mem _ h4)
              · rw [hset i hb x]
                rcases (hset i hb j).1 hj with h1|h1
                · subst h1
                  have h5:=List.all_eq_true.1 f5 x hx
                  exact .inr ((hl x (hin j hb x hx)).2 (by simpa using h5))
                · exact .inr (hdown j h1 x hx)
          · have:=hwait a (List.all_eq_true.1 f2 i hmem)
            rw [han] at this;cases this
def drawOkC (ops:List Oper) (m:Nat):Bool:=
  (List.range m).all (fun i=>(List.range m).all fun j=>Nat.beq i j || (match (ops[i]?).bind (·.dst),(ops[j]?).bind (·.dst) with|some a,some b=>!Nat.beq a b | _,_=>true)) &&
  ((List.range ops.length).drop m).all (fun k=>(List.range m).all fun j=>DL ops k j) &&
  (List.range ops.length).all (fun k=>(HM ops k).all fun j=>Nat.blt j k) && Nat.ble m ops.length && JE ops ops.length ((List.range ops.length).drop m)
end
open Go.RowKit
section
variable {P:Program} {n:Nat} {Q:Exit→Fr→World→Prop}
theorem LQ {ρ σ:Operand→Value} (o:Oper) (h2:(match o.op with | .select ..=>false | _=>true)=true) (key:∀ x∈o.op.operands.toList,ρ x=σ x):execOp ρ o=execOp σ o:=by
  have keyA:∀ (xs:Array Operand),(∀ x∈xs.toList,x∈o.op.operands.toList)→xs.map ρ=xs.map σ:=fun xs hx=>
    Array.map_congr_left fun x hm=>key x (hx x (by simpa using hm))
  have keyO:∀ (x:Option Operand),(∀ y,x=some y→y∈o.op.operands.toList)→x.map ρ=x.map σ:=fun x hx=>by
    cases x with
    | none=>rfl
    | some y=>simp [key y (hx y rfl)]
  obtain ⟨d,op,ty,pos,after,g⟩:=o
  simp only at key keyA keyO
  have call:∀ (c:Call),c.operands=op.operands→(∀ t,resolve ρ c t=resolve σ c t):=fun c hc t=>by
    obtain ⟨callee,args,ats⟩:=c
    have ha:args.map ρ=args.map σ:=keyA args (fun x hx=>by rw [← hc];simp [Call.operands];exact .inr (by simpa using hx))
    unfold resolve
    simp only [ha]
    cases callee with
    | value f=>simp only [key f (by rw [← hc];simp [Call.operands])]
    | invoke r m=>simp only [key r (by rw [← hc];simp [Call.operands])]
    | builtin b=>rfl
  cases op with
  | select cs b=>simp at h2
  | build t ps=>
    simp only [execOp]
    have:ps.map (fun p=>(p.1,ρ p.2))=ps.map (fun p=>(p.1,σ p.2)):=Array.map_congr_left fun p hp=>by rw [key p.2 (by have hp:p∈ps.toList:=(by simpa using hp);simp only [Op.operands,List.mem_map];exact ⟨p,hp,rfl⟩)]
    rw [this]
  | buildSlice t len ps=>
    simp only [execOp]
    have:ps.map (fun p=>(p.1,ρ p.2))=ps.map (fun p=>(p.1,σ p.2)):=Array.map_congr_left fun p hp=>by rw [key p.2 (by have hp:p∈ps.toList:=(by simpa using hp);simp only [Op.operands,List.mem_map];exact ⟨p,hp,rfl⟩)]
    rw [this]
  | call c=>simp only [execOp,call c rfl]
  | go c=>simp only [execOp,call c rfl]
  | defer c=>simp only [execOp,call c rfl]
  | makeFunc fn first captured=>
    simp only [execOp]
    rw [keyA first (fun x hx=>by simp [Op.operands];exact .inl (by simpa using hx)),keyA captured (fun x hx=>by simp [Op.operands];exact .inr (by simpa using hx))]
  | makeMap t r=>
    simp only [execOp]
    rw [keyO r (fun y hy=>by subst hy;simp [Op.operands])]
  | slice t x lo hi mx=>
    simp only [execOp]
    rw [key x (by simp [Op.operands]),keyO lo (fun y hy=>by subst hy;simp [Op.operands]),keyO hi (fun y hy=>by subst hy;simp [Op.operands]),keyO mx (fun y hy=>by subst hy;simp [Op.operands])]
  | alloc t=>rfl
  | ready g=>rfl
  | waits g=>rfl
  | move x|assign x|box _ x|load _ x|nilCheck x|unOp _ _ x|convert _ _ x|sliceToArrayPointer _ x|makeInterface _ x|makeChan _ x|fieldAddr _ x _|field _ x _|range _ x|next x _|entry x|typeAssert x _ _ _|extract x _|panic x|recv _ x _=>
    simp only [execOp,key x (by simp [Op.operands])]
  | pick c a b=>simp only [execOp,key c (by simp [Op.operands]),key a (by simp [Op.operands]),key b (by simp [Op.operands])]
  | store _ a v|binOp _ _ a v _|makeSlice _ a v|indexAddr _ a v|index _ a v|lookup _ a v _|mapEntry _ a v|send a v=>
    simp only [execOp,key a (by simp [Op.operands]),key v (by simp [Op.operands])]
  | mapUpdate _ m k v|entryStore _ m k v|insert _ m k v=>
    simp only [execOp,key m (by simp [Op.operands]),key k (by simp [Op.operands]),key v (by simp [Op.operands])]
theorem EC {op:Op} {ty:TypeId} {F:Fr} {w:World} {K K':Value→World→Prop} {Z Z':List PanicEntry→World→Prop} (h:CR P op ty F w K Z) (hk:∀ v w',K v w'→K' v w') (hz:∀ c w',Z c w'→Z' c w'):CR P op ty F w K' Z':=by
  unfold CR at h ⊢
  generalize (execOp (CK F) ⟨none,op,ty,"",#[],none⟩).run P w=r at h ⊢
  cases r with
  | ok x w'=>
    cases x <;> simp only [FK] at h ⊢ <;> try exact h.elim
    case value v=>exact hk _ _ h
    case skip=>exact hk _ _ h
    case enter f args=>
      exact Calls.mono h fun e w'' he=>by
        cases e with
        | returned v=>exact hk _ _ he
        | panicked c=>exact hz _ _ he
        | outgrown=>exact he.elim
  | halt x w'=>
    cases x <;> simp only [FK] at h ⊢ <;> try exact h.elim
    case panic v=>exact hz _ _ h
theorem GW {fn:Func} {R:Ending→World→Prop}:∀ (c:List PanicEntry) (F:Fr) (d:Tmp) (v:Value) (w:World),d<n→(endQ P fn n R (.panic c) (DN F d v) w↔endQ P fn n R (.panic c) F w):=fun c F d v w hd=>by
  show (dec (DN F d v n)=[]∧_)↔(dec (F n)=[]∧_);rw [FU F d v (Nat.ne_of_gt hd)]
end
open Go.RowKit
def vOp (op:Op):Bool:=
  match op with
  | .move _ | .assign _ | .pick .. | .load .. | .binOp .. | .unOp .. | .convert .. | .slice .. | .fieldAddr .. | .field .. | .indexAddr .. | .index .. | .extract ..=>true
  | .call c=>(match c.callee with | .builtin .len=>true | _=>false)
  | _=>false
theorem OK {P:Program} {o:Oper} (h:vOp o.op=true) {ρ:Operand→Value} {w w':World} {r:Next} (e:(execOp ρ o).run P w = .ok r w'):∃ v,r = .value v:=by
  have key:∀ (s:Sem Value),(do pure (Next.value (← s)):Sem Next).run P w = .ok r w'→∃ v,r = .value v:=fun s e=>by
    simp only [Sem.run_bind] at e
    cases hs:s.run P w with
    | ok x w2=>rw [hs] at e;simp only [Result.andThen_ok,Sem.run_pure] at e;cases e;exact ⟨_,rfl⟩
    | halt x w2=>rw [hs] at e;cases e
  obtain ⟨d,op,ty,pos,af,g⟩:=o
  have h:vOp op=true:=h
  cases op with
  | move x=>simp only [execOp,Sem.run_pure] at e;cases e;exact ⟨_,rfl⟩
  | assign x=>simp only [execOp,Sem.run_pure] at e;cases e;exact ⟨_,rfl⟩
  | pick c a b=>
    refine key (do pure (if ← asBool (ρ c) then ρ a else ρ b)) ?_
    rw [← e]
    simp only [execOp,Sem.run_bind]
    cases (asBool (ρ c)).run P w <;> rfl
  | call c=>
    unfold vOp at h
    simp only at h
    split at h
    · rename_i hc
      simp only [execOp,resolve,invoke,hc,Sem.run_bind,Sem.run_pure,Result.andThen_ok,builtin] at e
      exact key (Builtin.len_ c.argTypes ty (Array.map ρ c.args)) (by simp only [Sem.run_bind,Sem.run_pure];exact e)
    · cases h
  | _=>first|exact key _ e|(exfalso;simp [vOp] at h)
def WP (P:Program) (ops:List Oper) (w0:World) (R:Fr→Prop):List Oper→Fr→World→Prop
  | [],F,w=>w=w0∧R F
  | o :: rest,F,w=>w=w0∧if Region.wanted o (BQ ops F)=true then CR P o.op o.type F w (fun v w'=>WP P ops w0 R rest (GD F o.dst v) w') (fun _ _=>False) else WP P ops w0 R rest (GD F o.dst undef) w
section
variable {P:Program} {ops rest:List Oper} {w0:World} {R:Fr→Prop} {F:Fr} {d:Tmp} {op:Op} {ty:TypeId} {pos:String} {af:Array Edge} {j:Nat} {b:Bool}
theorem HN (h:R F):WP P ops w0 R [] F w0:=⟨rfl,h⟩
theorem CA (h:CR P op ty F w0 (fun v w'=>WP P ops w0 R rest (DN F d v) w') (fun _ _=>False)):WP P ops w0 R (⟨some d,op,ty,pos,af,none⟩ :: rest) F w0:=by
  unfold WP;refine ⟨rfl,?_⟩;rw [if_pos (show Region.wanted _ _=true from rfl)];exact h
theorem MW (hy:BQ ops F j=some b) (h:CR P op ty F w0 (fun v w'=>WP P ops w0 R rest (DN F d v) w') (fun _ _=>False)):WP P ops w0 R (⟨some d,op,ty,pos,af,some (j,b)⟩ :: rest) F w0:=by
  unfold WP;refine ⟨rfl,?_⟩;rw [if_pos (by simp [Region.wanted,hy])];exact h
theorem NC (hy:BQ ops F j=some (!b)) (h:WP P ops w0 R rest (DN F d undef) w0):WP P ops w0 R (⟨some d,op,ty,pos,af,some (j,b)⟩ :: rest) F w0:=by
  unfold WP;refine ⟨rfl,?_⟩;rw [if_neg (by cases b <;> simp [Region.wanted,hy])];exact h
end
def outP (P:Program) (ops:List Oper) (w0:World) (o:Oper) (F:Fr) (v:Value):Prop:=
  (Region.wanted o (BQ ops F)=true∧(execOp (CK F) ⟨none,o.op,o.type,"",#[],none⟩).run P w0 = .ok (.value v) w0)∨(Region.wanted o (BQ ops F)=false∧v=undef)
def RunP (P:Program) (ops:List Oper) (w0:World):List Oper→Fr→Fr→Prop
  | [],F,Fe=>Fe=F
  | o :: rest,F,Fe=>∃ v,outP P ops w0 o F v∧RunP P ops w0 rest (GD F o.dst v) Fe
theorem WP.world {P:Program} {ops l:List Oper} {w0 w:World} {R:Fr→Prop} {F:Fr} (h:WP P ops w0 R l F w):w=w0:=by
  cases l with
  | nil=>exact h.1
  | cons=>exact h.1
theorem WP.run {P:Program} {ops:List Oper} {w0:World} {R:Fr→Prop}:∀ (l:List Oper) (F:Fr),l.all (fun o=>vOp o.op)=true→WP P ops w0 R l F w0→∃ Fe,RunP P ops w0 l F Fe∧R Fe
  | [],F,_,h=>⟨F,rfl,h.2⟩
  | o :: rest,F,hv,h=>by
    simp only [List.all_cons,Bool.and_eq_true] at hv
    have h:=h.2
    by_cases hw:Region.wanted o (BQ ops F)=true
    · rw [if_pos hw] at h
      unfold CR at h
      cases hr:(execOp (CK F) ⟨none,o.op,o.type,"",#[],none⟩).run P w0 with
      | ok r w'=>
        obtain ⟨v,rfl⟩:=OK (o:=⟨none,o.op,o.type,"",#[],none⟩) hv.1 hr
        rw [hr] at h
        have h:WP P ops w0 R rest (GD F o.dst v) w':=h
        have e:=h.world
        subst e
        obtain ⟨Fe,h1,h2⟩:=WP.run rest _ hv.2 h
        exact ⟨Fe,⟨v, .inl ⟨hw,hr⟩,h1⟩,h2⟩
      | halt x w'=>
        rw [hr] at h
        cases x <;> exact h.elim
    · rw [if_neg hw] at h
      obtain ⟨Fe,h1,h2⟩:=WP.run rest _ hv.2 h
      exact ⟨Fe,⟨undef, .inr ⟨by simpa using hw,rfl⟩,h1⟩,h2⟩
theorem run_at {P:Program} {ops:List Oper} {w0:World}:∀ (l:List Oper) (F Fe:Fr),RunP P ops w0 l F Fe→l.Pairwise (fun a b=>a.dst≠b.dst)→(∀ o∈l,o.dst≠none)→
    (∀ t,(∀ o∈l,o.dst≠some t)→Fe t=F t)∧∀ i (hi:i<l.length),∃ Fi,(∀ t,(∀ j (hj:j<l.length),j<i→l[j].dst≠some t)→Fi t=F t)∧(∀ t j (hj:j<l.length),j<i→l[j].dst=some t→Fi t=Fe t)∧∃ v,outP P ops w0 l[i] Fi v∧∀ d,l[i].dst=some d→Fe d=v
  | [],F,Fe,h,_,_=>⟨fun t _=>by rw [show Fe=F from h],fun i hi=>absurd hi (by simp)⟩
  | o :: rest,F,Fe,⟨v,hv,h⟩,hp,hn=>by
    obtain ⟨hp1,hp2⟩:=List.pairwise_cons.1 hp
    obtain ⟨a1,a2⟩:=run_at rest _ Fe h hp2 (fun x hx=>hn x (List.mem_cons_of_mem _ hx))
    cases hd:o.dst with
    | none=>exact absurd hd (hn o List.mem_cons_self)
    | some d=>
      rw [hd] at h a1 a2
      have hFd:Fe d=v:=by
        rw [a1 d (fun x hx e=>hp1 x hx (by rw [hd,e]))]
        show DN F d v d=v
        exact GG _ _ _
      refine ⟨fun t ht=>?_,fun i hi=>?_⟩
      · have hne:t≠d:=fun e=>ht o List.mem_cons_self (by rw [hd,e])
        rw [a1 t (fun x hx=>ht x (List.mem_cons_of_mem _ hx))]
        show DN F d v t=F t
        exact FU _ _ _ hne
      · cases i with
        | zero=>exact ⟨F,fun t _=>rfl,fun t j _ hj=>absurd hj (by omega),v,hv,fun d' hd'=>by rw [show o.dst=some d' from hd'] at hd;cases hd;exact hFd⟩
        | succ i=>
          obtain ⟨Fi,b1,b2,b3⟩:=a2 i (by simpa using hi)
          refine ⟨Fi,fun t ht=>?_,fun t j hj hji hjt=>?_,b3⟩
          · have hne:t≠d:=fun e=>ht 0 (by simp) (by omega) (by rw [e];exact hd)
            rw [b1 t (fun j hj hji=>ht (j+1) (by simp;omega) (by omega))]
            show DN F d v t=F t
            exact FU _ _ _ hne
          · cases j with
            | zero=>
              have hdt:some d=some t:=by rw [← hd];exact hjt
              cases hdt
              rw [b1 d (fun j hj hji e=>hp1 _ (List.getElem_mem hj) (by rw [hd,e])),hFd]
              show DN F d v d=v
              exact GG _ _ _
            | succ j=>exact b2 t j (by simpa using hj) (by omega) hjt
def IJ (ops:List Oper) (o:Oper):List Nat:=
  o.op.operands.toList.filterMap (fun x=>match x with | .tmp t=>some t | _=>none)++(match o.guard with|some (g,_)=>((ops[g]?).bind (·.dst)).toList|none=>[])
def NN (ops:List Oper) (m:Nat):Bool:=
  (ops.take m).all (fun o=>vOp o.op && o.dst.isSome) &&
  (List.range m).all fun i=>match ops[i]? with
    | some o=>(IJ ops o).all fun t=>(List.range m).all fun j=>match (ops[j]?).bind (·.dst) with
      | some d=>!Nat.beq d t || ((HM ops i).contains j && Nat.blt j i)
      | none=>true
    | none=>true
section
variable {P:Program} {n:Nat} {Q:Exit→Fr→World→Prop}
theorem pure_dep {ops:List Oper} {m:Nat} (h:NN ops m=true) {i:Nat} (hi:i<m) {o:Oper} (ho:ops[i]? = some o) {t:Nat} (ht:t∈IJ ops o) {j:Nat} (hj:j<m) {oj:Oper} (hoj:ops[j]? = some oj) (hd:oj.dst=some t):j∈HM ops i∧j<i:=by
  unfold NN at h
  simp only [Bool.and_eq_true] at h
  have h1:=List.all_eq_true.1 h.2 i (by simpa using hi)
  rw [ho] at h1
  have h2:=List.all_eq_true.1 (List.all_eq_true.1 h1 t ht) j (by simpa using hj)
  rw [hoj] at h2
  simp only [Option.bind_some,hd,Bool.or_eq_true,Bool.and_eq_true] at h2
  rcases h2 with h2|⟨h2,h3⟩
  · exact absurd rfl (QB h2)
  · exact ⟨by simpa using h2,blt h3⟩
theorem out_agree {ops:List Oper} {w0:World} {o:Oper} {F F':Fr} {v:Value} (hv:vOp o.op=true) (h:outP P ops w0 o F v) (hl:∀ t∈IJ ops o,F' t=F t):outP P ops w0 o F' v:=by
  have hw:Region.wanted o (BQ ops F')=Region.wanted o (BQ ops F):=by
    unfold Region.wanted
    cases hg:o.guard with
    | none=>rfl
    | some p=>
      obtain ⟨g,b⟩:=p
      simp only
      have:BQ ops F' g=BQ ops F g:=by
        unfold BQ
        cases hd:(ops[g]?).bind (·.dst) with
        | none=>rfl
        | some d=>simp only;rw [hl d (by unfold IJ;rw [hg];simp only [hd];simp)]
      rw [this]
  have he:execOp (CK F') ⟨none,o.op,o.type,"",#[],none⟩ = execOp (CK F) ⟨none,o.op,o.type,"",#[],none⟩:=by
    refine LQ _ (by revert hv;unfold vOp;cases o.op <;> intro hv <;> first|rfl|cases hv) fun x hx=>?_
    cases x with
    | tmp t=>exact hl t (by unfold IJ;exact List.mem_append_left _ (List.mem_filterMap.2 ⟨.tmp t,hx,rfl⟩))
    | _=>rfl
  unfold outP at h ⊢
  rw [hw,he];exact h
structure PuInv (ops:List Oper) (m:Nat) (F Fe:Fr) (w0:World) (listed:Array Bool) (F1:Fr) (w1:World):Prop where
  world:w1=w0
  down:∀ i,listed[i]? = some true→∀ j∈HM ops i,listed[j]? = some true
  fact:∀ (j:Nat) (oj:Oper) (d:Tmp),j<m→listed[j]? = some true→ops[j]? = some oj→oj.dst=some d→F1 d=Fe d
  free:∀ t,(∀ (j:Nat) (oj:Oper),j<m→listed[j]? = some true→ops[j]? = some oj→oj.dst≠some t)→F1 t=F t
theorem draw_runP {ops:List Oper} {m:Nat} {F Fe:Fr} {w0:World} (hd:drawOkC ops m=true) (hok:ops.all (NJ n ops)=true) (hp:NN ops m=true) (hr:RunP P ops w0 (ops.take m) F Fe)
    (fin:WL false P ops Q (EA ops ((List.range ops.length).drop m)) Fe w0) :
    ∀ (fuel:Nat) (listed:Array Bool) (F1:Fr) (w1:World),listed.size=ops.length→KS ops listed≤fuel→(∀ j,m≤j→listed[j]?≠some true)→PuInv ops m F Fe w0 listed F1 w1→wpAny P .any ops.toArray (IS n Q) fuel listed (mk n F1) w1:=by
  unfold drawOkC at hd
  simp only [Bool.and_eq_true] at hd
  obtain ⟨⟨⟨⟨d1,d3⟩,d4⟩,d5⟩,d8⟩:=hd
  have hml:m≤ops.length:=Nat.le_of_ble_eq_true d5
  have hback:∀ k,k<ops.length→∀ j∈HM ops k,j<k:=fun k hk j hj=>blt (List.all_eq_true.1 (List.all_eq_true.1 d4 k (by simpa using hk)) j hj)
  have hin:∀ k,k<ops.length→∀ j∈HM ops k,j<ops.length:=fun k hk j hj=>Nat.lt_trans (hback k hk j hj) hk
  have htl:∀ j,j∈(List.range ops.length).drop m↔m≤j∧j<ops.length:=fun j=>by
    rw [List.mem_iff_getElem?]
    simp only [List.getElem?_drop]
    constructor
    · rintro ⟨i,hi⟩
      have:=(List.getElem?_eq_some_iff.1 hi)
      obtain ⟨h1,h2⟩:=this
      simp at h1 h2;omega
    · rintro ⟨h1,h2⟩
      exact ⟨j - m,by rw [List.getElem?_eq_getElem (by simp;omega)];simp;omega⟩
  have hdist:∀ i j oi oj,i<m→j<m→i≠j→ops[i]? = some oi→ops[j]? = some oj→oi.dst≠none→oi.dst≠oj.dst:=by
    intro i j oi oj hi hj hij hoi hoj hne
    have:=List.all_eq_true.1 (List.all_eq_true.1 d1 i (by simpa using hi)) j (by simpa using hj)
    simp only [Bool.or_eq_true] at this
    rcases this with h5|h5
    · exact absurd (Nat.eq_of_beq_eq_true h5) hij
    · rw [hoi,hoj] at h5
      intro e
      cases hd:oi.dst with
      | none=>exact hne hd
      | some d=>
        rw [hd] at e
        simp only [Option.bind_some,hd,← e] at h5
        simp at h5
  have hndt:((List.range ops.length).drop m).Nodup:=List.Nodup.sublist (List.drop_sublist _ _) List.nodup_range
  have hm:=hml
  have hall0:∀ o∈ops.take m,vOp o.op=true∧o.dst≠none:=fun o ho=>by
    unfold NN at hp
    simp only [Bool.and_eq_true] at hp
    have:=List.all_eq_true.1 hp.1 o ho
    simp only [Bool.and_eq_true] at this
    exact ⟨this.1,fun e=>by rw [e] at this;simp at this⟩
  have hlen:(ops.take m).length=m:=by rw [List.length_take];omega
  have hget:∀ j (hj:j<m),(ops.take m)[j]'(by omega)=ops[j]'(by omega):=fun j hj=>List.getElem_take
  have hpw:(ops.take m).Pairwise (fun a b=>a.dst≠b.dst):=by
    rw [List.pairwise_iff_getElem]
    intro i j hi hj hij
    rw [hlen] at hi hj
    rw [hget i hi,hget j hj]
    exact hdist i j _ _ hi hj (by omega) (List.getElem?_eq_getElem (by omega)) (List.getElem?_eq_getElem (by omega)) (by have:=(hall0 _ (List.getElem_mem (l:=ops.take m) (n:=i) (by omega))).2;rw [hget i hi] at this;exact this)
  obtain ⟨r1,r2⟩:=run_at (ops.take m) F Fe hr hpw (fun o ho=>(hall0 o ho).2)
  have hend:∀ (listed:Array Bool) (F1:Fr) (w1:World),PuInv ops m F Fe w0 listed F1 w1→(∀ j,j<m→listed[j]? = some true)→F1=Fe:=fun listed F1 w1 hi hall=>by
    funext t
    by_cases c:∃ (j:Nat) (hj:j<m),(ops[j]'(by omega)).dst=some t
    · obtain ⟨j,hj,he⟩:=c
      exact hi.fact j _ t hj (hall j hj) (List.getElem?_eq_getElem (by omega)) he
    · rw [hi.free t (fun j oj hj _ hoj e=>c ⟨j,hj,by rw [List.getElem?_eq_getElem (by omega)] at hoj;cases hoj;exact e⟩)]
      refine (r1 t fun o ho e=>?_).symm
      obtain ⟨j,hj,rfl⟩:=List.getElem_of_mem ho
      rw [hlen] at hj
      exact c ⟨j,hj,by rw [← hget j hj];exact e⟩
  intro fuel
  have toTail:∀ (fuel:Nat) (listed:Array Bool) (F1:Fr) (w1:World),listed.size=ops.length→KS ops listed≤fuel→(∀ j,m≤j→listed[j]?≠some true)→PuInv ops m F Fe w0 listed F1 w1→(∀ j,j<m→listed[j]? = some true)→wpAny P .any ops.toArray (IS n Q) fuel listed (mk n F1) w1:=by
    intro fuel listed F1 w1 hsz hfu hno hi hall
    have e1:=hend listed F1 w1 hi hall
    have e2:=hi.world
    have hdn:=hi.down
    clear hi
    subst e1;subst e2
    refine forced_runC hok hin ops.length _ fuel listed F1 w1 hsz hfu (fun j hj=>⟨fun h hm'=>hno j ((htl j).1 hm').1 h,fun h=>hall j ?_⟩) (fun j hj=>((htl j).1 hj).2) hndt d8 hdn fin
    rcases Nat.lt_or_ge j m with h1|h1
    · exact h1
    · exact absurd ((htl j).2 ⟨h1,hj⟩) h
  induction fuel with
  | zero=>
    intro listed F1 w1 hsz hfu hno hi
    refine toTail 0 listed F1 w1 hsz hfu hno hi (fun j hj=>?_)
    have h0:KS ops listed=0:=by omega
    unfold KS at h0
    have:=List.countP_eq_zero.1 h0 j (by simp;omega)
    simpa using this
  | succ fuel ih=>
    intro listed F1 w1 hsz hfu hno hi
    by_cases hall:∀ j,j<m→listed[j]? = some true
    · exact toTail (fuel+1) listed F1 w1 hsz hfu hno hi hall
    · have hex:∃ j,j<m∧listed[j]?≠some true:=by
        refine Classical.byContradiction fun hc=>hall fun j hj=>Classical.byContradiction fun hn=>hc ⟨j,hj,hn⟩
      have hmin:∀ q j,q=j→j<m→listed[j]?≠some true→∃ k,k<m∧listed[k]?≠some true∧∀ i,i<k→listed[i]? = some true:=by
        intro q
        induction q using Nat.strongRecOn with
        | _ q ihq=>
          intro j hqj hj hn
          by_cases hb:∀ i,i<j→listed[i]? = some true
          · exact ⟨j,hj,hn,hb⟩
          · have:∃ i,i<j∧listed[i]?≠some true:=Classical.byContradiction fun hc=>hb fun i hi=>Classical.byContradiction fun hn=>hc ⟨i,hi,hn⟩
            obtain ⟨i,hij,hni⟩:=this
            exact ihq i (by omega) i rfl (by omega) hni
      obtain ⟨j0,hj0,hn0⟩:=hex
      obtain ⟨k,hkm,hkn,hkb⟩:=hmin j0 j0 rfl hj0 hn0
      have hkf:listed[k]? = some false:=by
        have:k<listed.size:=by omega
        rw [Array.getElem?_eq_getElem this] at hkn ⊢
        simpa using hkn
      refine ⟨fun h0=>?_,fun i hir=>?_⟩
      · have:=ready_of' hsz (by omega) hkf (fun j hj=>hkb j (hback k (by omega) j hj))
        rw [h0] at this;cases this
      · obtain ⟨hnl,hil⟩:=IP hir hsz
        have ho:ops[i]? = some ops[i]:=List.getElem?_eq_getElem hil
        have haft:=GL ho hir hsz (hin i hil)
        have hclose:∀ j,DL ops i j=true→listed[j]? = some true:=fun j hj=>by
          unfold DL at hj
          exact GR (D:=fun j=>listed[j]? = some true) hi.down _ _ haft j (by simpa using hj)
        have him:i<m:=by
          rcases Nat.lt_or_ge i m with h1|hge
          · exact h1
          · have h1:=hclose k (List.all_eq_true.1 (List.all_eq_true.1 d3 i ((htl i).2 ⟨hge,hil⟩)) k (by simpa using hkm))
            rw [hkf] at h1;cases h1
        have hno':∀ j,m≤j→(listed.setIfInBounds i true)[j]?≠some true:=fun j hj=>by
          rw [Array.getElem?_setIfInBounds,if_neg (by omega)];exact hno j hj
        have hset:∀ (j:Nat),(listed.setIfInBounds i true)[j]? = some true→j=i∨listed[j]? = some true:=by
          intro j hj
          by_cases hji:j=i
          · exact .inl hji
          · rw [Array.getElem?_setIfInBounds,if_neg (fun e=>hji e.symm)] at hj;exact .inr hj
        have hmono:∀ (j:Nat),listed[j]? = some true→(listed.setIfInBounds i true)[j]? = some true:=by
          intro j hj
          rw [Array.getElem?_setIfInBounds]
          split
          · rename_i e;subst e
            have:i<listed.size:=by omega
            simp [this]
          · exact hj
        obtain ⟨Fi,b1,b2,v,hv,hve⟩:=r2 i (by omega)
        rw [hget i him] at hv hve
        have hvo:=(hall0 (ops[i]) (by rw [← hget i him];exact List.getElem_mem _)).1
        have hlk:∀ t∈IJ ops ops[i],F1 t=Fi t:=fun t ht=>by
          by_cases c:∃ (j:Nat) (hj:j<m),(ops[j]'(by omega)).dst=some t
          · obtain ⟨j,hj,he⟩:=c
            have hdp:=pure_dep hp him ho ht hj (List.getElem?_eq_getElem (by omega)) he
            rw [hi.fact j _ t hj (haft j hdp.1) (List.getElem?_eq_getElem (by omega)) he]
            exact (b2 t j (by omega) hdp.2 (by rw [hget j hj];exact he)).symm
          · rw [hi.free t (fun j oj hj _ hoj e=>c ⟨j,hj,by rw [List.getElem?_eq_getElem (by omega)] at hoj;cases hoj;exact e⟩)]
            refine (b1 t fun j hj hji e=>?_).symm
            rw [hlen] at hj
            exact c ⟨j,hj,by rw [← hget j hj];exact e⟩
        have hout:=out_agree hvo hv hlk
        have next:PuInv ops m F Fe w0 (listed.setIfInBounds i true) (GD F1 ops[i].dst v) w1:=by
          cases hdi:ops[i].dst with
          | none=>exact absurd hdi (hall0 (ops[i]) (by rw [← hget i him];exact List.getElem_mem _)).2
          | some d=>
            refine ⟨hi.world,fun j hj q hq=>?_,fun j oj d' hjm hj hoj hd'=>?_,fun t ht=>?_⟩
            · rcases hset j hj with rfl|hj
              · exact hmono q (haft q hq)
              · exact hmono q (hi.down j hj q hq)
            · show DN F1 d v d'=Fe d'
              by_cases hji:j=i
              · subst hji
                rw [ho] at hoj;cases hoj
                rw [hdi] at hd';cases hd'
                rw [GG];exact (hve d hdi).symm
              · have hjl:listed[j]? = some true:=(hset j hj).resolve_left hji
                have hne:d'≠d:=fun e=>by
                  subst e
                  exact hdist j i oj ops[i] hjm him hji hoj ho (by rw [hd'];simp) (by rw [hd',hdi])
                rw [FU _ _ _ hne]
                exact hi.fact j oj d' hjm hjl hoj hd'
            · have hne:t≠d:=fun e=>by
                subst e
                refine ht i ops[i] him ?_ ho hdi
                have:i<listed.size:=by omega
                simp [this]
              show DN F1 d v t=F t
              rw [FU _ _ _ hne]
              exact hi.free t (fun j oj hj hl hoj=>ht j oj hj (hmono j hl) hoj)
        refine JN (K:=fun F2 w2=>PuInv ops m F Fe w0 (listed.setIfInBounds i true) F2 w2) hok ho (fun F2 w2 hK=>ih _ F2 w2 (by simpa using hsz) (by have:=HV hil hsz hnl;omega) hno' hK) (fun hw=>?_) (fun hw=>?_)
        · rcases hout with ⟨_,h1⟩|⟨h1,_⟩
          · unfold CR
            have ew:=hi.world
            subst ew
            rw [h1]
            exact next
          · rw [hw] at h1;cases h1
        · rcases hout with ⟨h1,_⟩|⟨_,h1⟩
          · rw [hw] at h1;cases h1
          · rw [← h1];exact next
theorem FV {id:Nat} {ops:List Oper} {F:Fr} {w:World} (m:Nat) (pre tl:List Oper) (hm:P.follows .mixedOrders=true) (hok:ops.all (NJ n ops)=true) (hd:drawOkC ops m=true) (hp:NN ops m=true) (hlen:Nat.ble m ops.length=true) (hpre:ops.take m=pre) (htl:ops.drop m=tl)
    (h:∀ w1,Keep [] w w1→WP P ops w1 (fun F1=>WL false P ops Q tl F1 w1) pre F w1):CW P (ro:=none) n (.region id ops.toArray true) Q F w:=by
  have hseq:EA ops ((List.range ops.length).drop m)=ops.drop m:=by
    unfold EA
    have:∀ (l:List Oper) (k:Nat),k≤l.length→((List.range l.length).drop k).filterMap (l[·]?)=l.drop k:=by
      intro l k hk
      induction hq:l.length - k generalizing k with
      | zero=>rw [List.drop_of_length_le (by simp;omega),List.drop_of_length_le (by omega)];rfl
      | succ q ih=>
        have hlt:k<l.length:=by omega
        rw [List.drop_eq_getElem_cons (by simpa using hlt),List.filterMap_cons]
        simp only [List.getElem_range,List.getElem?_eq_getElem hlt]
        rw [ih (k+1) (by omega) (by omega),← List.drop_eq_getElem_cons hlt]
    exact this ops m (Nat.le_of_ble_eq_true hlen)
  subst hpre;subst htl
  have hv:(ops.take m).all (fun o=>vOp o.op)=true:=by
    unfold NN at hp
    simp only [Bool.and_eq_true] at hp
    exact List.all_eq_true.2 fun o ho=>by have:=List.all_eq_true.1 hp.1 o ho;simp only [Bool.and_eq_true] at this;exact this.1
  obtain ⟨Fe,h1,h2⟩:=(h w.drew (Keep.drew [] w)).run _ _ hv
  refine wpIn_wide.2 (wp_region_any hm ?_)
  rw [show ({ w with drawn:=w.drawn+1 }:World)=w.drew from rfl,List.size_toArray]
  refine draw_runP hd hok hp h1 (by rw [hseq];exact h2) ops.length _ F w.drew (by simp) ?_ (fun j _=>?_) ⟨rfl,fun i hi=>?_,fun i o d _ hi=>?_,fun _ _=>rfl⟩
  · unfold KS;exact Nat.le_trans (List.countP_le_length) (by simp)
  all_goals simp_all [Array.getElem?_replicate]
end
end Go.Fw
namespace Go.Proofs.Ytjpniibleelgiaa
open Go.Fw Go.RowKit
theorem s_3:DD Try.prog 3=some 1:=by kernel_rfl
theorem z_3:FJ Try.prog 3=some (.int .i64 0):=by kernel_rfl
theorem i_3:(Try.prog.info? 3).map (fun i=>(i.zero,i.size,i.bytes))=some (some (.int .i64 0),1,8):=by kernel_rfl
theorem s_4:DD Try.prog 4=some 1:=by kernel_rfl
theorem z_4:FJ Try.prog 4=some (.bool false):=by kernel_rfl
theorem s_24:DD Try.prog 24=some 1:=by kernel_rfl
theorem s_25:DD Try.prog 25=some 1:=by kernel_rfl
theorem HR:DD Try.prog 26=some 1:=by kernel_rfl
theorem z_26:FJ Try.prog 26=some (.slice none 0 0):=by kernel_rfl
theorem i_26:(Try.prog.info? 26).map (fun i=>(i.zero,i.size,i.bytes))=some (some (.slice none 0 0),1,24):=by kernel_rfl
theorem s_27:DD Try.prog 27=some 1:=by kernel_rfl
theorem CL:DD Try.prog 29=some 4:=by kernel_rfl
theorem z_29:FJ Try.prog 29=some (.agg #[.slice none 0 0, .slice none 0 0, .slice none 0 0, .slice none 0 0]):=by kernel_rfl
theorem pl_29:HH Try.prog 29=some [(0,1),(1,1),(2,1),(3,1)]:=by kernel_rfl
theorem GC:CH Try.prog 29 0=some 0:=by kernel_rfl
theorem GA:CH Try.prog 29 1=some 1:=by kernel_rfl
theorem EE:CH Try.prog 29 2=some 2:=by kernel_rfl
theorem GO:CH Try.prog 29 3=some 3:=by kernel_rfl
theorem BG:DD Try.prog 31=some 4:=by kernel_rfl
theorem HO:FJ Try.prog 31=some (.agg #[.int .i64 0, .int .i64 0, .slice none 0 0, .bool false]):=by kernel_rfl
theorem i_31:(Try.prog.info? 31).map (fun i=>(i.zero,i.size,i.bytes))=some (some (.agg #[.int .i64 0, .int .i64 0, .slice none 0 0, .bool false]),4,48):=by kernel_rfl
theorem pl_31:HH Try.prog 31=some [(0,1),(1,1),(2,1),(3,1)]:=by kernel_rfl
theorem f_31_0:CH Try.prog 31 0=some 0:=by kernel_rfl
theorem IG:CH Try.prog 31 1=some 1:=by kernel_rfl
theorem EQ:CH Try.prog 31 2=some 2:=by kernel_rfl
theorem NI:CH Try.prog 31 3=some 3:=by kernel_rfl
theorem s_37:DD Try.prog 37=some 6:=by kernel_rfl
theorem OR:FJ Try.prog 37=some (.agg #[.int .u8 0, .int .u8 0, .int .u8 0, .int .u8 0, .int .u8 0, .int .u8 0]):=by kernel_rfl
theorem MQ:HH Try.prog 37=some [(0,1),(1,1),(2,1),(3,1),(4,1),(5,1)]:=by kernel_rfl
theorem MV:CH Try.prog 37 0=some 0:=by kernel_rfl
theorem f_37_1:CH Try.prog 37 1=some 1:=by kernel_rfl
theorem f_37_2:CH Try.prog 37 2=some 2:=by kernel_rfl
theorem f_37_3:CH Try.prog 37 3=some 3:=by kernel_rfl
theorem GE:CH Try.prog 37 4=some 4:=by kernel_rfl
theorem f_37_5:CH Try.prog 37 5=some 5:=by kernel_rfl
theorem BX:DD Try.prog 40=some 6:=by kernel_rfl
theorem HC:FJ Try.prog 40=some (.agg #[.int .i64 0, .int .i64 0, .int .i64 0, .int .i64 0, .int .i64 0, .int .i64 0]):=by kernel_rfl
theorem OB:(Try.prog.info? 40).map (fun i=>(i.zero,i.size,i.bytes))=some (some (.agg #[.int .i64 0, .int .i64 0, .int .i64 0, .int .i64 0, .int .i64 0, .int .i64 0]),6,48):=by kernel_rfl
theorem pl_40:HH Try.prog 40=some [(0,1),(1,1),(2,1),(3,1),(4,1),(5,1)]:=by kernel_rfl
theorem LM:CH Try.prog 40 0=some 0:=by kernel_rfl
theorem MY:CH Try.prog 40 1=some 1:=by kernel_rfl
theorem GB:CH Try.prog 40 2=some 2:=by kernel_rfl
theorem II:CH Try.prog 40 3=some 3:=by kernel_rfl
theorem LN:CH Try.prog 40 4=some 4:=by kernel_rfl
theorem LE:CH Try.prog 40 5=some 5:=by kernel_rfl
theorem LI:DD Try.prog 47=some 4:=by kernel_rfl
theorem z_47:FJ Try.prog 47=some (.agg #[.int .i64 0, .int .i64 0, .int .i64 0, .bool false]):=by kernel_rfl
theorem i_47:(Try.prog.info? 47).map (fun i=>(i.zero,i.size,i.bytes))=some (some (.agg #[.int .i64 0, .int .i64 0, .int .i64 0, .bool false]),4,32):=by kernel_rfl
theorem pl_47:HH Try.prog 47=some [(0,1),(1,1),(2,1),(3,1)]:=by kernel_rfl
theorem f_47_1:CH Try.prog 47 1=some 1:=by kernel_rfl
theorem MX:CH Try.prog 47 2=some 2:=by kernel_rfl
theorem f_47_3:CH Try.prog 47 3=some 3:=by kernel_rfl
theorem LR:DD Try.prog 58=some 1:=by kernel_rfl
theorem z_58:FJ Try.prog 58=some (.slice none 0 0):=by kernel_rfl
theorem i_58:(Try.prog.info? 58).map (fun i=>(i.zero,i.size,i.bytes))=some (some (.slice none 0 0),1,24):=by kernel_rfl
theorem s_90:DD Try.prog 90=some 2:=by kernel_rfl
theorem z_90:FJ Try.prog 90=some (.agg #[.int .i64 0, .int .i64 0]):=by kernel_rfl
theorem pl_90:HH Try.prog 90=some [(0,1),(1,1)]:=by kernel_rfl
theorem s_97:DD Try.prog 97=some 1:=by kernel_rfl
theorem z_97:FJ Try.prog 97=some (.map none):=by kernel_rfl
theorem NX:DD Try.prog 112=some 4:=by kernel_rfl
theorem z_112:FJ Try.prog 112=some (.agg #[.int .i64 0, .int .i64 0, .slice none 0 0, .bool false]):=by kernel_rfl
theorem pl_112:HH Try.prog 112=some [(0,4)]:=by kernel_rfl
theorem CY:CH Try.prog 112 0=some 0:=by kernel_rfl
theorem HQ:DD Try.prog 113=some 2:=by kernel_rfl
theorem KE:FJ Try.prog 113=some (.agg #[.nilFunc, .int .i64 0]):=by kernel_rfl
theorem PF:HH Try.prog 113=some [(0,1),(1,1)]:=by kernel_rfl
theorem LW:CH Try.prog 113 0=some 0:=by kernel_rfl
theorem HI:CH Try.prog 113 1=some 1:=by kernel_rfl
theorem s_121:DD Try.prog 121=some 1:=by kernel_rfl
theorem z_121:FJ Try.prog 121=some (.nilFunc):=by kernel_rfl
theorem flat_devop:MP Try.prog 40 [true,true,true,true,true,true]=true:=by kernel_rfl
theorem str_devop:Try.prog.underlying 40=some (.struct (Try.prog.fieldsOf 40)):=by kernel_rfl
theorem cs_devop (x y:DeviceOp):decide (([.inl x.device, .inl x.no, .inl x.kind, .inl x.copy, .inl x.to, .inl x.token]:List (Int ⊕ Bool))=[.inl y.device, .inl y.no, .inl y.kind, .inl y.copy, .inl y.to, .inl y.token])=(x == y):=by
  rw [Bool.eq_iff_iff,decide_eq_true_eq,beq_iff_eq,DeviceOp.ext_iff]
  simp
abbrev EH (x:Holding):Value:=.agg #[vI x.copy,vI x.device,vI x.token, .bool x.shown]
theorem OY:MP Try.prog 90 [true,true]=true:=by kernel_rfl
theorem QJ:Try.prog.underlying 90=some (.struct (Try.prog.fieldsOf 90)):=by kernel_rfl
def cl_devno (x:DevNo):List (Int ⊕ Bool):=[.inl x.device, .inl x.no]
theorem cs_devno (x y:DevNo):decide (([.inl x.device, .inl x.no]:List (Int ⊕ Bool))=[.inl y.device, .inl y.no])=(x == y):=by
  rw [Bool.eq_iff_iff,decide_eq_true_eq,beq_iff_eq,DevNo.ext_iff]
  simp
abbrev IB (x:DevNo):Value:=.agg #[vI x.device,vI x.no]
theorem QL:KeyT Try.prog 90 IB:=
  have h:KeyT Try.prog 90 (fun x:DevNo=>Value.agg ((cl_devno x).map FS).toArray):=key_flat (P:=Try.prog) (kt:=90) (κ:=DevNo) cl_devno QJ OY (fun _=>rfl) (fun a b h=>beq_iff_eq.1 ((cs_devno a b).symm.trans (decide_eq_true h)))
  h
theorem enter_19 (xs:Array Value) (w:World):(callFunc 19 xs).run Try.prog w = .ok (.enter 19 xs) w:=BF Try.func19 (by kernel_rfl) rfl xs w
theorem enter_20 (xs:Array Value) (w:World):(callFunc 20 xs).run Try.prog w = .ok (.enter 20 xs) w:=BF Try.func20 (by kernel_rfl) rfl xs w
theorem enter_21 (xs:Array Value) (w:World):(callFunc 21 xs).run Try.prog w = .ok (.enter 21 xs) w:=BF Try.func21 (by kernel_rfl) rfl xs w
theorem enter_22 (xs:Array Value) (w:World):(callFunc 22 xs).run Try.prog w = .ok (.enter 22 xs) w:=BF Try.func22 (by kernel_rfl) rfl xs w
theorem enter_23 (xs:Array Value) (w:World):(callFunc 23 xs).run Try.prog w = .ok (.enter 23 xs) w:=BF Try.func23 (by kernel_rfl) rfl xs w
theorem IU (xs:Array Value) (w:World):(callFunc 24 xs).run Try.prog w = .ok (.enter 24 xs) w:=BF Try.func24 (by kernel_rfl) rfl xs w
theorem KG (xs:Array Value) (w:World):(callFunc 29 xs).run Try.prog w = .ok (.enter 29 xs) w:=BF Try.func29 (by kernel_rfl) rfl xs w
theorem enter_31 (xs:Array Value) (w:World):(callFunc 31 xs).run Try.prog w = .ok (.enter 31 xs) w:=BF Try.func31 (by kernel_rfl) rfl xs w
theorem LS (xs:Array Value) (w:World):(callFunc 34 xs).run Try.prog w = .ok (.enter 34 xs) w:=BF Try.func34 (by kernel_rfl) rfl xs w
theorem HK (xs:Array Value) (w:World):(callFunc 40 xs).run Try.prog w = .ok (.enter 40 xs) w:=BF Try.func40 (by kernel_rfl) rfl xs w
theorem enter_44 (xs:Array Value) (w:World):(callFunc 44 xs).run Try.prog w = .ok (.enter 44 xs) w:=BF Try.func44 (by kernel_rfl) rfl xs w
theorem enter_46 (xs:Array Value) (w:World):(callFunc 46 xs).run Try.prog w = .ok (.enter 46 xs) w:=BF Try.func46 (by kernel_rfl) rfl xs w
theorem enter_47 (xs:Array Value) (w:World):(callFunc 47 xs).run Try.prog w = .ok (.enter 47 xs) w:=BF Try.func47 (by kernel_rfl) rfl xs w
theorem MK (xs:Array Value) (w:World):(callFunc 54 xs).run Try.prog w = .ok (.enter 54 xs) w:=BF Try.func54 (by kernel_rfl) rfl xs w
theorem enter_55 (xs:Array Value) (w:World):(callFunc 55 xs).run Try.prog w = .ok (.enter 55 xs) w:=BF Try.func55 (by kernel_rfl) rfl xs w
theorem LT (xs:Array Value) (w:World):(callFunc 56 xs).run Try.prog w = .ok (.enter 56 xs) w:=BF Try.func56 (by kernel_rfl) rfl xs w
theorem enter_57 (xs:Array Value) (w:World):(callFunc 57 xs).run Try.prog w = .ok (.enter 57 xs) w:=BF Try.func57 (by kernel_rfl) rfl xs w
theorem enter_58 (xs:Array Value) (w:World):(callFunc 58 xs).run Try.prog w = .ok (.enter 58 xs) w:=BF Try.func58 (by kernel_rfl) rfl xs w
theorem MN (xs:Array Value) (w:World):(callFunc 59 xs).run Try.prog w = .ok (.enter 59 xs) w:=BF Try.func59 (by kernel_rfl) rfl xs w
theorem enter_60 (xs:Array Value) (w:World):(callFunc 60 xs).run Try.prog w = .ok (.enter 60 xs) w:=BF Try.func60 (by kernel_rfl) rfl xs w
theorem OW (xs:Array Value) (w:World):(callFunc 61 xs).run Try.prog w = .ok (.enter 61 xs) w:=BF Try.func61 (by kernel_rfl) rfl xs w
theorem enter_62 (xs:Array Value) (w:World):(callFunc 62 xs).run Try.prog w = .ok (.enter 62 xs) w:=BF Try.func62 (by kernel_rfl) rfl xs w
theorem LX (xs:Array Value) (w:World):(callFunc 63 xs).run Try.prog w = .ok (.enter 63 xs) w:=BF Try.func63 (by kernel_rfl) rfl xs w
theorem enter_64 (xs:Array Value) (w:World):(callFunc 64 xs).run Try.prog w = .ok (.enter 64 xs) w:=BF Try.func64 (by kernel_rfl) rfl xs w
theorem enter_70 (xs:Array Value) (w:World):(callFunc 70 xs).run Try.prog w = .ok (.enter 70 xs) w:=BF Try.func70 (by kernel_rfl) rfl xs w
theorem enter_72 (xs:Array Value) (w:World):(callFunc 72 xs).run Try.prog w = .ok (.enter 72 xs) w:=BF Try.func72 (by kernel_rfl) rfl xs w
theorem enter_73 (xs:Array Value) (w:World):(callFunc 73 xs).run Try.prog w = .ok (.enter 73 xs) w:=BF Try.func73 (by kernel_rfl) rfl xs w
theorem enter_78 (xs:Array Value) (w:World):(callFunc 78 xs).run Try.prog w = .ok (.enter 78 xs) w:=BF Try.func78 (by kernel_rfl) rfl xs w
theorem OP (xs:Array Value) (w:World):(callFunc 79 xs).run Try.prog w = .ok (.enter 79 xs) w:=BF Try.func79 (by kernel_rfl) rfl xs w
theorem enter_80 (xs:Array Value) (w:World):(callFunc 80 xs).run Try.prog w = .ok (.enter 80 xs) w:=BF Try.func80 (by kernel_rfl) rfl xs w
theorem enter_81 (xs:Array Value) (w:World):(callFunc 81 xs).run Try.prog w = .ok (.enter 81 xs) w:=BF Try.func81 (by kernel_rfl) rfl xs w
theorem enter_82 (xs:Array Value) (w:World):(callFunc 82 xs).run Try.prog w = .ok (.enter 82 xs) w:=BF Try.func82 (by kernel_rfl) rfl xs w
theorem enter_83 (xs:Array Value) (w:World):(callFunc 83 xs).run Try.prog w = .ok (.enter 83 xs) w:=BF Try.func83 (by kernel_rfl) rfl xs w
theorem enter_84 (xs:Array Value) (w:World):(callFunc 84 xs).run Try.prog w = .ok (.enter 84 xs) w:=BF Try.func84 (by kernel_rfl) rfl xs w
theorem enter_88 (xs:Array Value) (w:World):(callFunc 88 xs).run Try.prog w = .ok (.enter 88 xs) w:=BF Try.func88 (by kernel_rfl) rfl xs w
theorem enter_89 (xs:Array Value) (w:World):(callFunc 89 xs).run Try.prog w = .ok (.enter 89 xs) w:=BF Try.func89 (by kernel_rfl) rfl xs w
theorem enter_90 (xs:Array Value) (w:World):(callFunc 90 xs).run Try.prog w = .ok (.enter 90 xs) w:=BF Try.func90 (by kernel_rfl) rfl xs w
theorem enter_91 (xs:Array Value) (w:World):(callFunc 91 xs).run Try.prog w = .ok (.enter 91 xs) w:=BF Try.func91 (by kernel_rfl) rfl xs w
theorem enter_92 (xs:Array Value) (w:World):(callFunc 92 xs).run Try.prog w = .ok (.enter 92 xs) w:=BF Try.func92 (by kernel_rfl) rfl xs w
theorem enter_93 (xs:Array Value) (w:World):(callFunc 93 xs).run Try.prog w = .ok (.enter 93 xs) w:=BF Try.func93 (by kernel_rfl) rfl xs w
theorem enter_94 (xs:Array Value) (w:World):(callFunc 94 xs).run Try.prog w = .ok (.enter 94 xs) w:=BF Try.func94 (by kernel_rfl) rfl xs w
theorem enter_95 (xs:Array Value) (w:World):(callFunc 95 xs).run Try.prog w = .ok (.enter 95 xs) w:=BF Try.func95 (by kernel_rfl) rfl xs w
theorem enter_96 (xs:Array Value) (w:World):(callFunc 96 xs).run Try.prog w = .ok (.enter 96 xs) w:=BF Try.func96 (by kernel_rfl) rfl xs w
theorem ov_97 (x y:Value) (w:World) (h:(Extern.SlicesOverlaps.overlaps #[26,26] #[4] #[x,y]).run Try.prog w = .ok (.bool false) w):(callFunc 97 #[x,y]).run Try.prog w = .ok (.value (.bool false)) w:=by
  rw [run_callFunc_extern Try.func97 (by kernel_rfl) (by kernel_rfl) (by kernel_rfl) (e:=Extern.SlicesOverlaps.overlaps #[26,26] #[4]) (by kernel_rfl),h];rfl
theorem enter_100 (xs:Array Value) (w:World):(callFunc 100 xs).run Try.prog w = .ok (.enter 100 xs) w:=BF Try.func100 (by kernel_rfl) rfl xs w
theorem enter_101 (xs:Array Value) (w:World):(callFunc 101 xs).run Try.prog w = .ok (.enter 101 xs) w:=BF Try.func101 (by kernel_rfl) rfl xs w
theorem enter_103 (xs:Array Value) (w:World):(callFunc 103 xs).run Try.prog w = .ok (.enter 103 xs) w:=BF Try.func103 (by kernel_rfl) rfl xs w
theorem enter_104 (xs:Array Value) (w:World):(callFunc 104 xs).run Try.prog w = .ok (.enter 104 xs) w:=BF Try.func104 (by kernel_rfl) rfl xs w
theorem enter_106 (xs:Array Value) (w:World):(callFunc 106 xs).run Try.prog w = .ok (.enter 106 xs) w:=BF Try.func106 (by kernel_rfl) rfl xs w
theorem QG (xs:Array Value) (w:World):(callFunc 107 xs).run Try.prog w = .ok (.enter 107 xs) w:=BF Try.func107 (by kernel_rfl) rfl xs w
open Go.Fw Go.RowKit
set_option maxHeartbeats 4000000 in
set_option maxRecDepth 100000 in
theorem c_insertD {O B:List Nat} {w0 w:World} (v u:Value) (l m:List DeviceOp) (i:Nat) (s0:St w0 O w B) (ho:DM Enc.devop 40 w0.heap.size (B++O) w v l) (hu:DM Enc.devop 40 w0.heap.size (B++O) w u m) (hB:∀ b,v.ownBlock=some b→b∈B) (c6:∀ b,u.ownBlock=some b→b∈B) (hne:∀ b,v.ownBlock=some b→u.ownBlock≠some b) (hm:0<m.length) (hi:i≤l.length) (hlen:(l.length+m.length)*48≤140737488355328) (b4:l.length+m.length≤maxLen):Calls Try.prog 62 [v,vI (i:Int),u].toArray w (fun e w'=>∃ (v':Value) (B':List Nat),e = .returned v'∧(∀ b,v'.ownBlock=some b→b∈B')∧(∀ b,v'.ownBlock=some b→v.ownBlock=some b∨w.heap.size≤b)∧(∀ b∈B,b∈B')∧St w0 O w' B'∧Mv B w B' w'∧Keep v.ownBlock.toList w w'∧DM Enc.devop 40 w0.heap.size (B'++O) w' v' (l.take i++m++l.drop i)):= by
  have ms:Mv B w B w:=Mv.refl _ _
  have ks:Keep v.ownBlock.toList w w:=Keep.refl _ _
  have e4:=b4
  simp only [maxLen] at e4
  refine EJ 95 Try.func62 rfl rfl oT (fun F0=>AG (AD kR (AC (AH (nS) rfl (AE (AB (AG (AD kR (AC (AF (v) rfl (AC (AF (vI (i:Int)) rfl (AC (o_sliceOwn U26_ BX i .i64 (i:Int) rfl rfl rfl oM ho fun h1 g4=>(AE (AB (AG (AD kR (AC (AF (u) rfl (AC (JG U26_ rfl hu (AC (AH (vI (m.length:Int)) rfl (AE (AB (AG (AG (AD kR (AC (AF (vI (m.length:Int)) rfl (AC (DC .i64 (m.length:Int) (0:Int) rfl rfl (AE (AB (?_))))))))))))))))))))))))))))))))))))
  have d4:((m.length:Int) == (0:Int))=false:=(by rw [beq_eq_false_iff_ne];omega)
  rw [d4]
  refine AK false rfl rfl (fun h=>by cases h) (fun _=>AT (AB (AG (AD kR (AC (AF (v) rfl (AC (JG U26_ rfl ho (AC (AH (vI (l.length:Int)) rfl (AE (AB (AG (AG (AD kR (AC (AF (vI (i:Int)) rfl (AC (AF (vI (l.length:Int)) rfl (AC (DC .i64 (i:Int) (l.length:Int) rfl rfl (AE (AB (AK ((i:Int) == (l.length:Int)) rfl rfl (fun a7=>?_) (fun a7=>?_)))))))))))))))))))))))))
  · have g5:(i:Int)=(l.length:Int):=by simpa using a7
    refine AG (AD kR (AC (AF (v) rfl (AC (AF (u) rfl (AC (LD (E:=Enc.devop) (l:=l) (m:=m) U26_ OB rfl (by decide) rfl rfl ho hu  hB hlen b4 s0 fun b5 h3 c7 d5 b9 b1 e5 c8 c9 c2=>(?_))))))))
    have g6:∀ b,u.ownBlock=some b→b5.ownBlock≠some b:=fun b hb e=>by rcases b9 with e1|e1 <;> rw [e1] at e <;> first|(cases e;have:=(hu.lt _ hb).2;omega)|(exact absurd e ((fun b hb e=>hne b e hb) b hb))
    have c6:∀ b,u.ownBlock=some b→b∈c7:=fun b hb=>b1 b (c6 b hb)
    have hu:=hu.mv c8 c9 (fun b hb=>by simp only [Option.mem_toList];exact (fun b hb e=>hne b e hb) b hb)
    have ms:=ms.trans c8
    have ks:=ks.step0 c9 (fun b hb=>by exact .inl hb)
    refine AC (AH (b5) rfl (AE (AB (AS (AN (AZ rfl (CX rfl rfl rfl) (?_)))))))
    rw [show l++m=l.take i++m++l.drop i from by rw [show i=l.length from by omega,List.take_length,List.drop_length,List.append_nil]] at c2
    exact ⟨b5,c7,rfl,d5,fun b hb=>by rcases b9 with e1|e1 <;> rw [e1] at hb;exact .inl hb;cases hb;exact .inr (Nat.le_refl _),b1,e5,ms,ks,c2⟩
  have g7:(i:Int)≠(l.length:Int):=by simpa using a7
  obtain ⟨g,c,cur,css,rfl,hgb,bg,hnc,hcm,hcl,hcss,hrd⟩:=own_open ho oM
  obtain ⟨gu,cu,curu,cssu,rfl,hgub,bgu,hncu,hcmu,hclu,hcssu,a8⟩:=own_open hu oM
  have hgB:g∈B:=hB g rfl
  have hguB:gu∈B:=c6 gu rfl
  have hgg:g≠gu:=fun e=>hne g rfl (by rw [e];rfl)
  have hns:l.length*Enc.devop.size≤cur.length:=by rw [hcl];exact Nat.mul_le_mul_right _ hnc
  have c3:m.length*Enc.devop.size≤curu.length:=by rw [hclu];exact Nat.mul_le_mul_right _ hncu
  have one1:=ones_drop hrd hcss hi hns
  have one2:=ones_all a8 hcssu
  have hfm:=a8.flen
  refine AT (AB (AG (AG (AD kR (AC (AF (vI (l.length:Int)) rfl (AC (AF (vI (m.length:Int)) rfl (AC (CE .i64 (l.length:Int) (m.length:Int) (((l.length+m.length:Nat):Int)) rfl rfl (EP oM oM) (AC (AF (vS (some ⟨g,0,none⟩) l.length c) rfl (AC (o_cap _ _ c U26_ rfl (AC (IF .i64 ((l.length+m.length:Nat):Int) ((c:Nat):Int) rfl rfl (AE (AB (AK (decide (((c:Nat):Int)<((l.length+m.length:Nat):Int))) rfl rfl (fun a9=>?_) (fun a9=>?_))))))))))))))))))))
  · have g8:((c:Nat):Int)<((l.length+m.length:Nat):Int):=by simpa using a9
    refine AG (AD kR (AC (AF (vS (some ⟨g,0,none⟩) l.length c) rfl (AC (AF (vI (i:Int)) rfl (AC (RB (size:=Enc.devop.size) U26_ BX g 0 l.length c i .i64 (i:Int) rfl rfl rfl oM (AC (AF (vI (l.length:Int)) rfl (AC (AF (vI (m.length:Int)) rfl (AC (CE .i64 (l.length:Int) (m.length:Int) (((l.length+m.length:Nat):Int)) rfl rfl (EP oM oM) (AC (AF (vI (i:Int)) rfl (AC (o_sub .i64 ((l.length+m.length:Nat):Int) (i:Int) ((((l.length+m.length) - i:Nat):Int)) rfl rfl (EP oM oM) (AC (o_appendZ (size:=Enc.devop.size) (i:=i) ((l.length+m.length) - i) (l.length+m.length) (((l.length+m.length) - i:Nat):Int) oM U26_ U3_ OB rfl (by decide) rfl rfl rfl bg (by rw [hcl];exact Nat.mul_le_mul_right _ oM) oM oM hlen b4 s0 fun a0 a1 b2 h4 e6 d6 e7 e8 b6 d7 a2 g9 d8 d9=>(?_))))))))))))))))))))
    have c4:g≠a0:=by have:=bg.lt;omega
    have c5:gu≠a0:=by have:=bgu.lt;omega
    have b3:w.heap.size≤a0:=by have:=ks.size;omega
    clear e6
    have bg:=bg.keep b6 (by simp)
    have bgu:=bgu.keep b6 (by simp)
    have ms:=ms.trans e8
    have ks:=ks.step0 b6 (fun b hb=>by (simp at hb;done))
    refine AC (AH (vS (some ⟨a0,0,none⟩) (l.length+m.length) a1) rfl (AE (AB (AG (AD kR (AC (AF (vS (some ⟨a0,0,none⟩) (l.length+m.length) a1) rfl (AC (AF (vI (i:Int)) rfl (AC (HF (size:=Enc.devop.size) U26_ BX a0 (l.length+m.length) a1 i .i64 (i:Int) rfl rfl rfl oM oM oM (AC (AF (vS (some ⟨gu,0,none⟩) m.length cu) rfl (AC (KK (size:=Enc.devop.size) m.length U26_ BX rfl rfl d7 bgu (by repeat (constructor)) (by simp only [Nat.min_def];split <;> omega) (by rw [a2,← Nat.add_mul];exact Nat.mul_le_mul_right _ oM) (by rw [Nat.zero_add];exact c3) one2 e7 fun e9 f0 f1 b7 b0=>(?_))))))))))))))))
    have a4:(FG b2 (i*Enc.devop.size) ((curu.drop 0).take (m.length*Enc.devop.size))).length=a1*Enc.devop.size:=by rw [JL (by rw [List.length_take,List.length_drop,Nat.min_eq_left (by have h2:=((by rw [Nat.zero_add];exact c3):0+m.length*Enc.devop.size≤curu.length);omega)];exact (by rw [a2,← Nat.add_mul];exact Nat.mul_le_mul_right _ oM))];exact a2
    have bg:=bg.keep b7 (AJ c4)
    have bgu:=bgu.keep b7 (AJ c5)
    have ms:=ms.trans f1
    have ks:=ks.step0 b7 (fun b hb=>by (simp only [List.mem_singleton] at hb;subst hb;(right;omega)))
    refine AE (AB (AG (FV 8 _ _ kR kR kR kR kR rfl rfl fun f2 a3=>?_)))
    have f3:=f0.call a3
    have f4:Mv (a0 :: B) e9 (a0 :: B) f2:=Mv.of_keep a3
    have bg:=bg.keep a3 (by simp)
    have bgu:=bgu.keep a3 (by simp)
    have b0:=b0.keep a3 (by simp)
    have ms:=ms.trans f4
    have ks:=ks.step0 a3 (fun b hb=>by (simp at hb;done))
    refine CA (AF (vS (some ⟨a0,0,none⟩) (l.length+m.length) a1) rfl (CA (AF (vI (i:Int)) rfl (CA (AF (vI (m.length:Int)) rfl (CA (CE .i64 (i:Int) (m.length:Int) (((i+m.length:Nat):Int)) rfl rfl (EP oM oM) (CA (HF (size:=Enc.devop.size) U26_ BX a0 (l.length+m.length) a1 (i+m.length) .i64 ((i+m.length:Nat):Int) rfl rfl rfl oM oM oM (CA (AF (vS (some ⟨g,0,none⟩) l.length c) rfl (CA (AF (vI (i:Int)) rfl (CA (HF (size:=Enc.devop.size) U26_ BX g l.length c i .i64 (i:Int) rfl rfl rfl oM oM oM (HN (AC (KK (size:=Enc.devop.size) (l.length - i) U26_ BX rfl rfl b0 bg (by repeat (constructor)) (by simp only [Nat.min_def];split <;> omega) (by rw [a4,← Nat.add_mul];exact Nat.mul_le_mul_right _ oM) (by rw [← Nat.add_mul];exact Nat.le_trans (Nat.mul_le_mul_right _ oM) hns) one1 f3 fun h5 f5 f6 b8 e0=>(?_)))))))))))))))))))
    have d0:(FG (FG b2 (i*Enc.devop.size) ((curu.drop 0).take (m.length*Enc.devop.size))) ((i+m.length)*Enc.devop.size) ((cur.drop (i*Enc.devop.size)).take ((l.length - i)*Enc.devop.size))).length=a1*Enc.devop.size:=by rw [JL (by rw [List.length_take,List.length_drop,Nat.min_eq_left (by have h2:=((by rw [← Nat.add_mul];exact Nat.le_trans (Nat.mul_le_mul_right _ oM) hns):(i*Enc.devop.size)+(l.length - i)*Enc.devop.size≤cur.length);omega)];exact (by rw [a4,← Nat.add_mul];exact Nat.mul_le_mul_right _ oM))];exact a4
    have bg:=bg.keep b8 (AJ c4)
    have bgu:=bgu.keep b8 (AJ c5)
    have ms:=ms.trans f6
    have ks:=ks.step0 b8 (fun b hb=>by (simp only [List.mem_singleton] at hb;subst hb;(right;omega)))
    refine AE (AB (AG (AD kR (AC (AF (vS (some ⟨a0,0,none⟩) (l.length+m.length) a1) rfl (AC (AH (vS (some ⟨a0,0,none⟩) (l.length+m.length) a1) rfl (AE (AB (AS (AN (AZ rfl (CX rfl rfl rfl) (?_)))))))))))))
    exact ⟨_,(a0 :: B),rfl,fun b hb=>by cases hb;exact (by repeat (constructor)),fun b hb=>by cases hb;exact .inr b3,fun b hb=>List.mem_cons_of_mem _ hb,f5,ms,ks,DM.ins hrd a8 ms e0 d6 hi d0 oM d8 (tk_grow hcss hrd.lens hrd.1 hi hns hcssu hfm d9 (by rw [a2];exact Nat.mul_le_mul_right _ oM))⟩
  have h0:((l.length+m.length:Nat):Int)≤((c:Nat):Int):=by simpa using a9
  refine AT (AB (AG (AD kR (AC (AF (vS (some ⟨g,0,none⟩) l.length c) rfl (AC (AF (vI (l.length:Int)) rfl (AC (AF (vI (m.length:Int)) rfl (AC (CE .i64 (l.length:Int) (m.length:Int) (((l.length+m.length:Nat):Int)) rfl rfl (EP oM oM) (AC (RB (size:=Enc.devop.size) U26_ BX g 0 l.length c (l.length+m.length) .i64 ((l.length+m.length:Nat):Int) rfl rfl rfl oM (AC (AH (vS (some ⟨g,0,none⟩) (l.length+m.length) c) rfl (AE (AB (AG (AG (AD kR (AC (AF (vS (some ⟨gu,0,none⟩) m.length cu) rfl (AC (AF (vS (some ⟨g,0,none⟩) (l.length+m.length) c) rfl (AC (AF (vI (i:Int)) rfl (AC (AF (vI (m.length:Int)) rfl (AC (CE .i64 (i:Int) (m.length:Int) (((i+m.length:Nat):Int)) rfl rfl (EP oM oM) (AC (HF (size:=Enc.devop.size) U26_ BX g (l.length+m.length) c (i+m.length) .i64 ((i+m.length:Nat):Int) rfl rfl rfl oM oM oM (AC (o_overlaps (size:=Enc.devop.size) ov_97 U26_ BX rfl bgu bg (Ne.symm hgg) (by rw [hcl];exact Nat.mul_pos oM (by decide)) (AC (EI false rfl (AE (AB (AK true rfl rfl (fun _=>AG (FV 8 _ _ kR kR kR kR kR rfl rfl fun f7 a5=>?_)) (fun h=>by cases h))))))))))))))))))))))))))))))))))))))))
  have f8:=s0.call a5
  have f9:Mv B w B f7:=Mv.of_keep a5
  have bg:=bg.keep a5 (by simp)
  have bgu:=bgu.keep a5 (by simp)
  have ms:=ms.trans f9
  have ks:=ks.step0 a5 (fun b hb=>by (simp at hb;done))
  refine CA (AF (vS (some ⟨g,0,none⟩) (l.length+m.length) c) rfl (CA (AF (vI (i:Int)) rfl (CA (AF (vI (m.length:Int)) rfl (CA (CE .i64 (i:Int) (m.length:Int) (((i+m.length:Nat):Int)) rfl rfl (EP oM oM) (CA (HF (size:=Enc.devop.size) U26_ BX g (l.length+m.length) c (i+m.length) .i64 ((i+m.length:Nat):Int) rfl rfl rfl oM oM oM (CA (AF (vS (some ⟨g,0,none⟩) (l.length+m.length) c) rfl (CA (AF (vI (i:Int)) rfl (CA (HF (size:=Enc.devop.size) U26_ BX g (l.length+m.length) c i .i64 (i:Int) rfl rfl rfl oM oM oM (HN (AC (KK (size:=Enc.devop.size) (l.length - i) U26_ BX rfl rfl bg bg (by repeat (assumption)) (by simp only [Nat.min_def];split <;> omega) (by rw [hcl,← Nat.add_mul];exact Nat.mul_le_mul_right _ oM) (by rw [← Nat.add_mul];exact Nat.le_trans (Nat.mul_le_mul_right _ oM) hns) one1 f8 fun h6 g0 g1 d1 e2=>(?_)))))))))))))))))))
  have a6:(FG cur ((i+m.length)*Enc.devop.size) ((cur.drop (i*Enc.devop.size)).take ((l.length - i)*Enc.devop.size))).length=c*Enc.devop.size:=by rw [JL (by rw [List.length_take,List.length_drop,Nat.min_eq_left (by have h2:=((by rw [← Nat.add_mul];exact Nat.le_trans (Nat.mul_le_mul_right _ oM) hns):(i*Enc.devop.size)+(l.length - i)*Enc.devop.size≤cur.length);omega)];exact (by rw [hcl,← Nat.add_mul];exact Nat.mul_le_mul_right _ oM))];exact hcl
  have bgu:=bgu.keep d1 (AJ (Ne.symm hgg))
  have ms:=ms.trans g1
  have ks:=ks.step0 d1 (fun b hb=>by exact .inl hb)
  refine AE (AB (AG (AD kR (AC (AF (vS (some ⟨g,0,none⟩) (l.length+m.length) c) rfl (AC (AF (vI (i:Int)) rfl (AC (HF (size:=Enc.devop.size) U26_ BX g (l.length+m.length) c i .i64 (i:Int) rfl rfl rfl oM oM oM (AC (AF (vS (some ⟨gu,0,none⟩) m.length cu) rfl (AC (KK (size:=Enc.devop.size) m.length U26_ BX rfl rfl e2 bgu (by repeat (assumption)) (by simp only [Nat.min_def];split <;> omega) (by rw [a6,← Nat.add_mul];exact Nat.mul_le_mul_right _ oM) (by rw [Nat.zero_add];exact c3) one2 g0 fun h7 g2 g3 d2 e3=>(?_))))))))))))))
  have d3:(FG (FG cur ((i+m.length)*Enc.devop.size) ((cur.drop (i*Enc.devop.size)).take ((l.length - i)*Enc.devop.size))) (i*Enc.devop.size) ((curu.drop 0).take (m.length*Enc.devop.size))).length=c*Enc.devop.size:=by rw [JL (by rw [List.length_take,List.length_drop,Nat.min_eq_left (by have h2:=((by rw [Nat.zero_add];exact c3):0+m.length*Enc.devop.size≤curu.length);omega)];exact (by rw [a6,← Nat.add_mul];exact Nat.mul_le_mul_right _ oM))];exact a6
  have bgu:=bgu.keep d2 (AJ (Ne.symm hgg))
  have ms:=ms.trans g3
  have ks:=ks.step0 d2 (fun b hb=>by exact .inl hb)
  refine AE (AB (AG (AD kR (AC (AF (vS (some ⟨g,0,none⟩) (l.length+m.length) c) rfl (AC (AH (vS (some ⟨g,0,none⟩) (l.length+m.length) c) rfl (AE (AB (AS (AN (AZ rfl (CX rfl rfl rfl) (?_)))))))))))))
  exact ⟨_,B,rfl,fun b hb=>by cases hb;exact (by repeat (assumption)),fun b hb=>by cases hb;exact .inl rfl,fun b hb=>hb,g2,ms,ks,DM.ins hrd a8 ms e3 hgb hi d3 oM hcm (tk_shift hcss hrd.lens hrd.1 hi (by rw [hcl];exact Nat.mul_le_mul_right _ oM) hcssu hfm)⟩
open Go.Fw
def CN (n:Int):Bool:=decide (0≤n) && decide (n<4)
def BV (o:DeviceOp):Bool:=
  if (((((!CN o.device || decide (o.no<1)) || decide (65536<o.no)) || decide (o.copy<0)) || decide (1024≤o.copy)) || decide (o.token<1)) || decide (65536<o.token) then false
  else ((o.kind == 1) && CN o.to) || ((o.kind == 2) && (o.to == 0))
def HL (a b:Int):Int:=if a<b then -1 else if b<a then 1 else 0
def DZ:Nat→DeviceOp→Int
  | 0,o=>o.copy
  | 1,o=>o.token
  | 2,o=>o.device
  | 3,o=>o.no
  | 4,o=>o.kind
  | _,o=>o.to
def LH (a b:DeviceOp) (ns:List Nat):Int:=GY (fun k=>if HL (DZ ns[k]! a) (DZ ns[k]! b) != 0 then some (HL (DZ ns[k]! a) (DZ ns[k]! b)) else none) 0 0 (ns.length - 0)
def DE (a b:DeviceOp):Int:=LH a b [0,1,2,3,4,5]
def DH (o:DeviceOp):DevNo:=⟨o.device,o.no⟩
def IE (l:List DeviceOp):Nat→DevNo→Option Bool
  | 0=>noM
  | k+1=>upM (IE l k) (DH l[k]!) true
def CO (l:List DeviceOp):Bool:=GY (fun k=>if (IE l k (DH l[k]!)).getD false then some false else none) true 0 (l.length - 0)
def GU (l:List DeviceOp) (k:Nat):Bool:=!BV l[k]! || (decide (0<(k:Int)) && decide (0≤DE l[k - 1]! l[k]!))
def BR (l:List DeviceOp):Int:=if decide (256<(l.length:Int)) || !CO l then 420 else GY (fun k=>if GU l k then some 420 else none) 0 0 (l.length - 0)
def idxD (l:List DeviceOp) (o:DeviceOp):Int:=GY (fun k=>if o == l[k]! then some (k:Int) else none) (-1) 0 (l.length - 0)
def idxF (l:List DeviceOp) (f:DeviceOp→Bool):Int:=GY (fun k=>if f l[k]! then some (k:Int) else none) (-1) 0 (l.length - 0)
theorem PH {p:Nat→Bool}:∀ (m i:Nat),decide ((0:Int)≤GY (fun k=>if p k then some (k:Int) else none) (-1) i m)=true↔∃ k,i≤k∧k<i+m∧p k=true
  | 0,i=>by
    constructor
    · intro h;simp [GY] at h
    · rintro ⟨k,h1,h2,_⟩;omega
  | m+1,i=>by
    unfold GY
    cases hp:p i with
    | true=>
      simp only [if_true,decide_eq_true_eq]
      exact ⟨fun _=>⟨i,Nat.le_refl _,by omega,hp⟩,fun _=>by omega⟩
    | false=>
      simp only [Bool.false_eq_true,if_false]
      rw [PH m (i+1)]
      constructor
      · rintro ⟨k,h1,h2,h3⟩;exact ⟨k,by omega,by omega,h3⟩
      · rintro ⟨k,h1,h2,h3⟩
        refine ⟨k,?_,by omega,h3⟩
        by_cases e:k=i
        · subst e;rw [hp] at h3;cases h3
        · omega
theorem idxD_pos (l:List DeviceOp) (o:DeviceOp):decide ((0:Int)≤idxD l o)=l.contains o:=by
  rw [Bool.eq_iff_iff,idxD,PH (p:=fun k=>o == l[k]!)]
  simp only [List.contains_iff_mem,List.mem_iff_getElem,beq_iff_eq]
  constructor
  · rintro ⟨k,_,h2,h3⟩;exact ⟨k,by omega,by rw [h3,getElem!_pos l k (by omega)]⟩
  · rintro ⟨k,hk,h3⟩;exact ⟨k,by omega,by omega,by rw [getElem!_pos l k hk,h3]⟩
theorem idxF_pos (l:List DeviceOp) (f:DeviceOp→Bool):decide ((0:Int)≤idxF l f)=l.any f:=by
  rw [Bool.eq_iff_iff,idxF,PH (p:=fun k=>f l[k]!)]
  simp only [List.any_eq_true,List.mem_iff_getElem]
  constructor
  · rintro ⟨k,_,h2,h3⟩;exact ⟨l[k],⟨k,by omega,rfl⟩,by rw [← getElem!_pos l k (by omega)];exact h3⟩
  · rintro ⟨x,⟨k,hk,rfl⟩,h3⟩;exact ⟨k,by omega,by omega,by rw [getElem!_pos l k hk];exact h3⟩
def PM (l:List DeviceOp) (o:DeviceOp) (f:DeviceOp→DeviceOp→Int):Nat:=(l.takeWhile (fun y=>decide (f y o<0))).length
def bsG (l:List DeviceOp) (o:DeviceOp) (f:DeviceOp→DeviceOp→Int):Bool:=decide (((PM l o f:Nat):Int)<(l.length:Int)) && (f l[PM l o f]! o == 0)
theorem tw2_le (l:List DeviceOp) (o:DeviceOp) (f:DeviceOp→DeviceOp→Int):PM l o f≤l.length:=(List.takeWhile_sublist _).length_le
theorem tw2_eq {o:DeviceOp} {f:DeviceOp→DeviceOp→Int}:∀ {l:List DeviceOp} {k:Nat},k≤l.length→(∀ q,q<k→f l[q]! o<0)→(k<l.length→0≤f l[k]! o)→PM l o f=k
  | [],k,hk,_,_=>by simp at hk;subst hk;rfl
  | a :: l,0,_,_,h2=>by
    have:=h2 (by simp)
    simp at this
    have hn:¬ (f a o<0):=by omega
    simp [PM,hn]
  | a :: l,k+1,hk,h1,h2=>by
    have h0:=h1 0 (by omega)
    simp at h0
    have ih:=tw2_eq (o:=o) (f:=f) (l:=l) (k:=k) (by simpa using hk) (fun q hq=>by have:=h1 (q+1) (by omega);simpa using this) (fun hk2=>by have:=h2 (by simpa using hk2);simpa using this)
    unfold PM at ih ⊢
    simp [h0,ih]
theorem bs2_lo {l:List DeviceOp} {o:DeviceOp} {f:DeviceOp→DeviceOp→Int} {h:Nat} (hs:∀ p q,p<q→q<l.length→f l[q]! o<0→f l[p]! o<0) (h1:f l[h]! o<0) (hh:h<l.length):∀ q,q<h+1→f l[q]! o<0:=by
  intro q hq
  by_cases hqh:q=h
  · subst hqh;exact h1
  · exact hs q h (by omega) hh h1
theorem bs2_hi {l:List DeviceOp} {o:DeviceOp} {f:DeviceOp→DeviceOp→Int} {h:Nat} (hs:∀ p q,p<q→q<l.length→f l[q]! o<0→f l[p]! o<0) (h1:0≤f l[h]! o):∀ q,h≤q→q<l.length→0≤f l[q]! o:=by
  intro q hq hql
  by_cases hqh:q=h
  · subst hqh;exact h1
  · have:=hs h q (by omega) hql;omega
theorem cmpI_cases (a b:Int):(a<b∧HL a b = -1)∨(a=b∧HL a b=0)∨(b<a∧HL a b=1):=by
  unfold HL
  by_cases h1:a<b
  · exact .inl ⟨h1,if_pos h1⟩
  · by_cases h2:b<a
    · exact .inr (.inr ⟨h2,by rw [if_neg h1,if_pos h2]⟩)
    · exact .inr (.inl ⟨by omega,by rw [if_neg h1,if_neg h2]⟩)
def KF (o:DeviceOp):List Int:=[o.copy,o.token,o.device,o.no,o.kind,o.to]
def JZ:List Int→List Int→Int
  | a :: l,b :: m=>if a<b then -1 else if b<a then 1 else JZ l m
  | _,_=>0
theorem JV (a b:DeviceOp):DE a b=JZ (KF a) (KF b):=by
  have step:∀ (m i:Nat) (l r:List Int),l.length=m→r.length=m→(∀ k,k<m→l[k]! = DZ ([0,1,2,3,4,5]:List Nat)[i+k]! a)→(∀ k,k<m→r[k]! = DZ ([0,1,2,3,4,5]:List Nat)[i+k]! b)→
      GY (fun k=>if HL (DZ ([0,1,2,3,4,5]:List Nat)[k]! a) (DZ ([0,1,2,3,4,5]:List Nat)[k]! b) != 0 then some (HL (DZ ([0,1,2,3,4,5]:List Nat)[k]! a) (DZ ([0,1,2,3,4,5]:List Nat)[k]! b)) else none) 0 i m=JZ l r:=by
    intro m
    induction m with
    | zero=>intro i l r hl hr _ _;cases l <;> cases r <;> simp_all [GY,JZ]
    | succ m ih=>
      intro i l r hl hr h1 h2
      cases l with
      | nil=>simp at hl
      | cons x l=>
        cases r with
        | nil=>simp at hr
        | cons y r=>
          have e1:=h1 0 (by omega)
          have e2:=h2 0 (by omega)
          simp only [List.getElem!_cons_zero,Nat.add_zero] at e1 e2
          unfold GY JZ
          rw [← e1,← e2]
          have ih':=ih (i+1) l r (by simpa using hl) (by simpa using hr) (fun k hk=>by have:=h1 (k+1) (by omega);rw [List.getElem!_cons_succ] at this;rw [this];congr 2;omega) (fun k hk=>by have:=h2 (k+1) (by omega);rw [List.getElem!_cons_succ] at this;rw [this];congr 2;omega)
          rcases cmpI_cases x y with ⟨h,e⟩|⟨h,e⟩|⟨h,e⟩
          · rw [e,if_pos h];rfl
          · subst h;rw [e,if_neg (show ¬ (x<x) by omega),if_neg (show ¬ (x<x) by omega)];exact ih'
          · rw [e,if_neg (show ¬ (x<y) by omega),if_pos h];rfl
  exact step 6 0 (KF a) (KF b) rfl rfl (by intro k hk;match k,hk with | 0,_=>rfl | 1,_=>rfl | 2,_=>rfl | 3,_=>rfl | 4,_=>rfl | 5,_=>rfl) (by intro k hk;match k,hk with | 0,_=>rfl | 1,_=>rfl | 2,_=>rfl | 3,_=>rfl | 4,_=>rfl | 5,_=>rfl)
theorem OZ:∀ (a b c:List Int),a.length=b.length→b.length=c.length→JZ a b<0→JZ b c≤0→JZ a c<0
  | [],[],[],_,_,h,_=>by simp [JZ] at h
  | x :: a,y :: b,z :: c,h1,h2,h3,h4=>by
    unfold JZ at h3 h4 ⊢
    have ih:=OZ a b c (by simpa using h1) (by simpa using h2)
    by_cases xy:x<y
    · by_cases yz:z<y
      · rw [if_neg (by omega),if_pos yz] at h4;omega
      · rw [if_pos (by omega:x<z)];omega
    · rw [if_neg xy] at h3
      by_cases yx:y<x
      · rw [if_pos yx] at h3;omega
      · rw [if_neg yx] at h3
        have e:x=y:=by omega
        subst e
        by_cases yz:x<z
        · rw [if_pos yz];omega
        · rw [if_neg yz] at h4 ⊢
          by_cases zy:z<x
          · rw [if_pos zy] at h4;omega
          · rw [if_neg zy] at h4 ⊢;exact ih h3 h4
  | [],_ :: _,_,h,_,_,_=>by simp at h
  | _ :: _,[],_,h,_,_,_=>by simp at h
  | _,[],_ :: _,_,h,_,_=>by simp at h
  | _,_ :: _,[],_,h,_,_=>by simp at h
theorem QM:∀ (a b:List Int),JZ a b = - JZ b a
  | [],[]=>rfl
  | [],_ :: _=>rfl
  | _ :: _,[]=>rfl
  | x :: a,y :: b=>by
    unfold JZ
    by_cases h1:x<y
    · rw [if_pos h1,if_neg (by omega),if_pos h1]
    · by_cases h2:y<x
      · rw [if_neg h1,if_pos h2,if_pos h2];rfl
      · rw [if_neg h1,if_neg h2,if_neg h2,if_neg h1];exact QM a b
theorem QF:∀ (a b:List Int),a.length=b.length→JZ a b=0→a=b
  | [],[],_,_=>rfl
  | x :: a,y :: b,h,h0=>by
    unfold JZ at h0
    by_cases h1:x<y
    · rw [if_pos h1] at h0;omega
    · by_cases h2:y<x
      · rw [if_neg h1,if_pos h2] at h0;omega
      · rw [if_neg h1,if_neg h2] at h0
        rw [QF a b (by simpa using h) h0,show x=y by omega]
  | [],_ :: _,h,_=>by simp at h
  | _ :: _,[],h,_=>by simp at h
theorem PA (a b:DeviceOp):DE a b = - DE b a:=by rw [JV,JV];exact QM _ _
theorem cmp_eq {a b:DeviceOp} (h:DE a b=0):a=b:=by
  rw [JV] at h
  have:=QF (KF a) (KF b) rfl h
  simp only [KF,List.cons.injEq] at this
  ext <;> simp_all
theorem cmp_self (a:DeviceOp):DE a a=0:=by have:=PA a a;omega
theorem HY {a b c:DeviceOp} (h1:DE a b<0) (h2:DE b c≤0):DE a c<0:=by
  rw [JV] at h1 h2 ⊢;exact OZ (KF a) (KF b) (KF c) rfl rfl h1 h2
def EV (l:List DeviceOp):Prop:=l.Pairwise (fun a b=>DE a b<0)
theorem IZ {l:List DeviceOp} (h:BR l=0):l.length≤256∧CO l=true∧∀ k,k<l.length→GU l k=false:=by
  unfold BR at h
  split at h
  · cases h
  · rename_i hh
    have hh:(decide (256<(l.length:Int)) || !CO l)=false:=by simpa using hh
    simp only [dbs] at hh
    have key:∀ (m i:Nat),GY (fun k=>if GU l k then some (420:Int) else none) 0 i m=0→∀ k,i≤k→k<i+m→GU l k=false:=by
      intro m
      induction m with
      | zero=>intro i _ k h1 h2;omega
      | succ m ih=>
        intro i hs k h1 h2
        unfold GY at hs
        cases hb:GU l i with
        | true=>rw [hb] at hs;simp at hs
        | false=>
          rw [hb] at hs
          by_cases e:k=i
          · subst e;exact hb
          · exact ih (i+1) (by simpa using hs) k (by omega) (by omega)
    exact ⟨by omega,by simpa using hh.2,fun k hk=>key _ 0 h k (by omega) (by omega)⟩
theorem opBad_f {l:List DeviceOp} {k:Nat}:GU l k=false↔BV l[k]! = true∧(0<k→DE l[k - 1]! l[k]! < 0):=by
  unfold GU
  constructor
  · intro h
    simp only [dbs] at h
    exact ⟨by simpa using h.1,fun h0=>by have:=h.2;omega⟩
  · rintro ⟨h1,h2⟩
    simp only [h1,Bool.not_true,Bool.false_or]
    by_cases h0:0<k
    · have h3:=h2 h0
      rw [show decide (0≤DE l[k - 1]! l[k]!)=false from decide_eq_false (by omega),Bool.and_false]
    · simp [h0]
theorem sorted_idx {l:List DeviceOp} (h:∀ k,k<l.length→GU l k=false):∀ p q,p<q→q<l.length→DE l[p]! l[q]! < 0:=by
  intro p q hpq hq
  induction q with
  | zero=>omega
  | succ q ih=>
    have h1:=(opBad_f.1 (h (q+1) hq)).2 (by omega)
    simp only [Nat.add_sub_cancel] at h1
    by_cases e:p=q
    · subst e;exact h1
    · have h2:=ih (by omega) (by omega)
      exact HY h2 (by omega)
theorem MI {l:List DeviceOp} (h:BR l=0):∀ p q,p<q→q<l.length→DE l[p]! l[q]! < 0:=sorted_idx (IZ h).2.2
theorem check_mono {l:List DeviceOp} (h:BR l=0) (o:DeviceOp):∀ p q,p<q→q<l.length→DE l[q]! o<0→DE l[p]! o<0:=fun p q h1 h2 h3=>HY (MI h p q h1 h2) (by omega)
def twM (l:List DeviceOp) (o:DeviceOp):Nat:=PM l o (fun a b=>DE a b)
def NZ (l:List DeviceOp) (o:DeviceOp):List DeviceOp:=l.take (twM l o)++[o]++l.drop (twM l o)
def CQ (l:List DeviceOp) (o:DeviceOp):List DeviceOp × Int:=
  if BR l != 0 || !BV o then ([],420) else if l.contains o then (l,0) else if l.any (fun p=>DH p == DH o) then ([],420) else if (l.length:Int) == 256 then ([],2) else (NZ l o,0)
theorem add_1 {l:List DeviceOp} {o:DeviceOp} (h:BR l≠0):CQ l o=([],420):=by unfold CQ;rw [if_pos (by simp [h])]
theorem add_2 {l:List DeviceOp} {o:DeviceOp} (h:BV o=false):CQ l o=([],420):=by unfold CQ;rw [if_pos (by simp [h])]
theorem add_3 {l:List DeviceOp} {o:DeviceOp} (h:BR l=0) (h1:BV o=true) (h2:l.contains o=true):CQ l o=(l,0):=by unfold CQ;rw [if_neg (by simp [h,h1]),if_pos h2]
theorem add_4 {l:List DeviceOp} {o:DeviceOp} (h:BR l=0) (h1:BV o=true) (h2:l.contains o=false) (h3:l.any (fun p=>DH p == DH o)=true):CQ l o=([],420):=by unfold CQ;rw [if_neg (by simp [h,h1]),if_neg (by rw [h2];simp),if_pos h3]
theorem add_5 {l:List DeviceOp} {o:DeviceOp} (h:BR l=0) (h1:BV o=true) (h2:l.contains o=false) (h3:l.any (fun p=>DH p == DH o)=false) (h4:(l.length:Int)=256):CQ l o=([],2):=by unfold CQ;rw [if_neg (by simp [h,h1]),if_neg (by rw [h2];simp),if_neg (by rw [h3];simp),if_pos (by simp [h4])]
theorem add_6 {l:List DeviceOp} {o:DeviceOp} (h:BR l=0) (h1:BV o=true) (h2:l.contains o=false) (h3:l.any (fun p=>DH p == DH o)=false) (h4:(l.length:Int)≠256):CQ l o=(NZ l o,0):=by unfold CQ;rw [if_neg (by simp [h,h1]),if_neg (by rw [h2];simp),if_neg (by rw [h3];simp),if_neg (by simpa using h4)]
def BO:List DeviceOp→List DeviceOp→List DeviceOp
  | [],b=>b
  | x :: a,[]=>x :: a
  | x :: a,y :: b=>if DE x y<0 then x :: BO a (y :: b) else if 0<DE x y then y :: BO (x :: a) b else y :: BO a b
termination_by a b=>a.length+b.length
theorem PJ (a:List DeviceOp):BO a []=a:=by cases a <;> simp [BO]
theorem FL {l:List DeviceOp} {p:Nat} (h:0<(l.drop p).length):l.drop p=(l.drop p)[0]! :: l.drop (p+1):=by
  rw [List.length_drop] at h
  rw [List.drop_eq_getElem_cons (by omega:p<l.length)];rfl
section
variable {a b:List DeviceOp} {p q:Nat}
theorem ms1 (h1:((a.drop p).length:Int)=0) (h2:0<(b.drop q).length):BO (a.drop p) (b.drop q)=(b.drop q)[0]! :: BO (a.drop p) (b.drop (q+1)):=by
  have e:a.drop p=[]:=List.eq_nil_of_length_eq_zero (by omega)
  rw [e,BO,BO];exact FL h2
theorem ms2 (h1:0<(a.drop p).length) (h2:((b.drop q).length:Int)=0):BO (a.drop p) (b.drop q)=(a.drop p)[0]! :: BO (a.drop (p+1)) (b.drop q):=by
  have e:b.drop q=[]:=List.eq_nil_of_length_eq_zero (by omega)
  rw [e,PJ,PJ];exact FL h1
theorem ms3 (h1:0<(a.drop p).length) (h2:0<(b.drop q).length) (h:DE (a.drop p)[0]! (b.drop q)[0]! < 0):BO (a.drop p) (b.drop q)=(a.drop p)[0]! :: BO (a.drop (p+1)) (b.drop q):=by
  conv=>lhs;rw [FL h1,FL h2,BO]
  rw [if_pos h,← FL h2]
theorem ms4 (h1:0<(a.drop p).length) (h2:0<(b.drop q).length) (h:(0:Int)<DE (a.drop p)[0]! (b.drop q)[0]!):BO (a.drop p) (b.drop q)=(b.drop q)[0]! :: BO (a.drop p) (b.drop (q+1)):=by
  conv=>lhs;rw [FL h1,FL h2,BO]
  rw [if_neg (by omega),if_pos h,← FL h1]
theorem ms5 (h1:0<(a.drop p).length) (h2:0<(b.drop q).length) (h:DE (a.drop p)[0]! (b.drop q)[0]! = 0):BO (a.drop p) (b.drop q)=(b.drop q)[0]! :: BO (a.drop (p+1)) (b.drop (q+1)):=by
  conv=>lhs;rw [FL h1,FL h2,BO]
  rw [if_neg (by omega),if_neg (by omega)]
end
def BW (a b:List DeviceOp):List DeviceOp × Int:=
  if BR a != 0 || BR b != 0 then ([],420) else if !CO (BO a b) then ([],420) else if decide (256<((BO a b).length:Int)) then ([],2) else (BO a b,0)
theorem merge_1 {a b:List DeviceOp} (h:BR a≠0):BW a b=([],420):=by unfold BW;rw [if_pos (by simp [h])]
theorem merge_2 {a b:List DeviceOp} (h:BR b≠0):BW a b=([],420):=by unfold BW;rw [if_pos (by simp [h])]
theorem merge_3 {a b:List DeviceOp} (h:BR a=0) (h1:BR b=0) (h2:CO (BO a b)=false):BW a b=([],420):=by unfold BW;rw [if_neg (by simp [h,h1]),if_pos (by simp [h2])]
theorem merge_4 {a b:List DeviceOp} (h:BR a=0) (h1:BR b=0) (h2:CO (BO a b)=true) (h3:256<((BO a b).length:Int)):BW a b=([],2):=by unfold BW;rw [if_neg (by simp [h,h1]),if_neg (by simp [h2]),if_pos (by simpa using h3)]
theorem merge_5 {a b:List DeviceOp} (h:BR a=0) (h1:BR b=0) (h2:CO (BO a b)=true) (h3:((BO a b).length:Int)≤256):BW a b=(BO a b,0):=by unfold BW;rw [if_neg (by simp [h,h1]),if_neg (by simp [h2]),if_neg (by simp;omega)]
def EM (c first:Int):Holding:=⟨c,first,0,false⟩
def GX (first:Int) (M:Int→Option Holding) (o:DeviceOp):Int→Option Holding:=
  let at_:=(M o.copy).getD (EM o.copy first)
  if ((o.token != at_.token+1 || o.device != at_.device) || at_.shown) then M
  else upM M o.copy (if o.kind == 2 then ⟨at_.copy,at_.device,o.token,true⟩ else ⟨at_.copy,o.to,o.token,at_.shown⟩)
def mapM (l:List DeviceOp) (first:Int):Nat→Int→Option Holding
  | 0=>noM
  | k+1=>GX first (mapM l first k) l[k]!
def DI (l:List DeviceOp) (first:Int) (c:Int):Holding:=(mapM l first l.length c).getD (EM c first)
def FM (l:List DeviceOp) (first:Int) (n:Nat):List Holding:=(List.range n).map fun (c:Nat)=>DI l first (c:Int)
theorem holdsM_succ (l:List DeviceOp) (first:Int) (n:Nat):FM l first (n+1)=FM l first n++[DI l first (n:Int)]:=by simp [FM,List.range_succ]
def AI (l:List DeviceOp) (copies first:Int):List Holding × Int:=
  if BR l != 0 then ([],420) else if (decide (copies<0) || decide (1024<copies)) || !CN first then ([],1) else (FM l first copies.toNat,0)
def BY (l:List DeviceOp) (copies first device copy:Int):Bool × Int:=
  if (AI l copies first).2 != 0 then (false,(AI l copies first).2) else if (!CN device || decide (copy<0)) || decide (copies≤copy) then (false,1)
  else ((AI l copies first).1[copy.toNat]!.device == device && !(AI l copies first).1[copy.toNat]!.shown,0)
open Go.Fw Go.RowKit
set_option maxHeartbeats 4000000 in
set_option maxRecDepth 100000 in
theorem JI {O:List Nat} (n:Int) (w:World) (hO:∀ b∈O,b<w.heap.size):CF Try.prog 63 [vI n] w (fun v _=>v = .bool (CN n)):= by
 have s0:St w O w []:=St.start hO
 refine BS 9 Try.func63 rfl rfl oT (fun F0=>AG (AD kR (AC (AH (vO false) rfl (AE (AB (AG (AD kR (AC (AF (vI n) rfl (AC (JS .i64 n (0:Int) rfl rfl (AC (AF (vO (decide ((0:Int)≤n))) rfl (?_)))))))))))))))
 cases hb1:(decide ((0:Int)≤n))
 ·have hp2:n<(0:Int):=by simpa using hb1
  refine AX rfl (AX rfl (AC (BM (vO false) rfl rfl (AC (AH (vO false) rfl (AE (AB (AS (AZ rfl (CX rfl rfl rfl) (?_))))))))))
  have e:(CN n)=false:=by simp [CN, *]
  exact ⟨_,rfl,s0.keep,(by exact congrArg vO e.symm)⟩
 have hp3:(0:Int)≤n:=by simpa using hb1
 refine BH rfl (AF (vI n) rfl (BH rfl (DR .i64 n (4:Int) rfl rfl (AC (BA (vO (decide (n<(4:Int)))) rfl rfl (AC (AH (vO (decide (n<(4:Int)))) rfl (AE (AB (AS (AZ rfl (CX rfl rfl rfl) (?_))))))))))))
 have e:(CN n)=(decide (n<(4:Int))):=by simp [CN, *]
 exact ⟨_,rfl,s0.keep,(by exact congrArg vO e.symm)⟩
set_option maxHeartbeats 4000000 in
set_option maxRecDepth 100000 in
theorem OI {O:List Nat} (o_cs:List Value) (o:DeviceOp) (w:World) (c9:Enc.devop.rd w O o_cs o) (hO:∀ b∈O,b<w.heap.size):CF Try.prog 54 [.agg o_cs.toArray] w (fun v _=>v = .bool (BV o)):= by
 obtain rfl:=c9
 have s0:St w O w []:=St.start hO
 refine BS 55 Try.func54 rfl rfl oT (fun F0=>AG (AD kR (AC (DG (E:=Enc.devop) (vA #[vI o.device,vI o.no,vI o.kind,vI o.copy,vI o.to,vI o.token]) ([vI o.device,vI o.no,vI o.kind,vI o.copy,vI o.to,vI o.token]) o rfl rfl rfl s0 fun a4 w5 s6 m7 k8 hp9=>(AC (AH (vO false) rfl (AE (AB (AG (AG (AD kR (AC (AP 0 LM (o.device) rfl hp9 (fun _ _ _ h=>FY h) fun f7 b4=>(AC (BJ U3_ rfl rfl b4 (AC (BI (vs:=[vI o.device]) LX (JI (O:=[]++O) o.device w5 s6.lt) rfl s6 fun f8 d0 a0 d1 f9 d2=>(?_))))))))))))))))))
 obtain rfl:=d2
 have hp9:=hp9.mv d1
 refine AC (EI (CN o.device) rfl (AC (AF (vO (!(CN o.device))) rfl (?_))))
 cases a2:(!(CN o.device))
 ·have d5:(CN o.device)=true:=by simpa using a2
  refine BH rfl (AP 1 MY (o.no) rfl hp9 (fun _ _ _ h=>GQ h) fun g0 b5=>(BH rfl (BJ U3_ rfl rfl b5 (BH rfl (DR .i64 o.no (1:Int) rfl rfl (AC (BM (vO (decide (o.no<(1:Int)))) rfl rfl (AC (AF (vO (decide (o.no<(1:Int)))) rfl (?_))))))))))
  cases a3:(decide (o.no<(1:Int)))
  ·have d6:(1:Int)≤o.no:=by simpa using a3
   refine BH rfl (AP 1 MY (o.no) rfl hp9 (fun _ _ _ h=>GQ h) fun g1 b6=>(BH rfl (BJ U3_ rfl rfl b6 (BH rfl (IF .i64 o.no (65536:Int) rfl rfl (AC (BM (vO (decide ((65536:Int)<o.no))) rfl rfl (AC (AF (vO (decide ((65536:Int)<o.no))) rfl (?_))))))))))
   cases a5:(decide ((65536:Int)<o.no))
   ·have d7:o.no≤(65536:Int):=by simpa using a5
    refine BH rfl (AP 3 II (o.copy) rfl hp9 (fun _ _ _ h=>DK h) fun g2 b7=>(BH rfl (BJ U3_ rfl rfl b7 (BH rfl (DR .i64 o.copy (0:Int) rfl rfl (AC (BM (vO (decide (o.copy<(0:Int)))) rfl rfl (AC (AF (vO (decide (o.copy<(0:Int)))) rfl (?_))))))))))
    cases a6:(decide (o.copy<(0:Int)))
    ·have d8:(0:Int)≤o.copy:=by simpa using a6
     refine BH rfl (AP 3 II (o.copy) rfl hp9 (fun _ _ _ h=>DK h) fun g3 b8=>(BH rfl (BJ U3_ rfl rfl b8 (BH rfl (JS .i64 o.copy (1024:Int) rfl rfl (AC (BM (vO (decide ((1024:Int)≤o.copy))) rfl rfl (AC (AF (vO (decide ((1024:Int)≤o.copy))) rfl (?_))))))))))
     cases a7:(decide ((1024:Int)≤o.copy))
     ·have d9:o.copy<(1024:Int):=by simpa using a7
      refine BH rfl (AP 5 LE (o.token) rfl hp9 (fun _ _ _ h=>FE h) fun g4 b9=>(BH rfl (BJ U3_ rfl rfl b9 (BH rfl (DR .i64 o.token (1:Int) rfl rfl (AC (BM (vO (decide (o.token<(1:Int)))) rfl rfl (AC (AF (vO (decide (o.token<(1:Int)))) rfl (?_))))))))))
      cases a8:(decide (o.token<(1:Int)))
      ·have e0:(1:Int)≤o.token:=by simpa using a8
       refine BH rfl (AP 5 LE (o.token) rfl hp9 (fun _ _ _ h=>FE h) fun g5 c2=>(BH rfl (BJ U3_ rfl rfl c2 (BH rfl (IF .i64 o.token (65536:Int) rfl rfl (AC (BM (vO (decide ((65536:Int)<o.token))) rfl rfl (AE (AB (AK (decide ((65536:Int)<o.token)) rfl rfl (fun a1=>?_) (fun a1=>?_)))))))))))
       ·have e1:(65536:Int)<o.token:=by simpa using a1
        refine AG (AD kR (AC (AH (vO false) rfl (AE (AB (AS (AN (AZ rfl (CX rfl rfl rfl) (?_)))))))))
        have e:(BV o)=false:=by (unfold BV;((repeat ((refine (if_pos ?_).trans ?_;solve|(simp only [dbs];(repeat (omega))))));rfl))
        exact ⟨_,rfl,a0.keep,(by exact congrArg vO e.symm)⟩
       have e2:o.token≤(65536:Int):=by simpa using a1
       refine AT (AB (AG (AD kR (AC (AP 2 GB (o.kind) rfl hp9 (fun _ _ _ h=>FX h) fun g6 c3=>(AC (BJ U3_ rfl rfl c3 (AC (DC .i64 o.kind (1:Int) rfl rfl (AC (AF (vO (o.kind == (1:Int))) rfl (?_))))))))))))
       cases a9:(o.kind == (1:Int))
       ·have e3:o.kind≠(1:Int):=by simpa using a9
        refine AX rfl (AX rfl (AX rfl (AC (BM (vO false) rfl rfl (AC (AF (vO false) rfl (BH rfl (AP 2 GB (o.kind) rfl hp9 (fun _ _ _ h=>FX h) fun g7 c4=>(BH rfl (BJ U3_ rfl rfl c4 (BH rfl (DC .i64 o.kind (2:Int) rfl rfl (BH rfl (AF (vO (o.kind == (2:Int))) rfl (?_)))))))))))))))
        cases b0:(o.kind == (2:Int))
        ·have e4:o.kind≠(2:Int):=by simpa using b0
         refine AX rfl (AX rfl (AX rfl (BH rfl (BM (vO false) rfl rfl (AC (BM (vO false) rfl rfl (AC (AH (vO false) rfl (AE (AB (AS (AZ rfl (CX rfl rfl rfl) (?_)))))))))))))
         have e:(BV o)=false:=by (simp_all [BV];done)
         exact ⟨_,rfl,a0.keep,(by exact congrArg vO e.symm)⟩
        have e5:o.kind=(2:Int):=by simpa using b0
        refine BH rfl (AP 4 LN (o.to) rfl hp9 (fun _ _ _ h=>GV h) fun g8 c5=>(BH rfl (BJ U3_ rfl rfl c5 (BH rfl (DC .i64 o.to (0:Int) rfl rfl (BH rfl (BA (vO (o.to == (0:Int))) rfl rfl (AC (BM (vO (o.to == (0:Int))) rfl rfl (AC (AH (vO (o.to == (0:Int))) rfl (AE (AB (AS (AZ rfl (CX rfl rfl rfl) (?_))))))))))))))))
        have e:(BV o)=(o.to == (0:Int)):=by (simp_all [BV];done)
        exact ⟨_,rfl,a0.keep,(by exact congrArg vO e.symm)⟩
       have e6:o.kind=(1:Int):=by simpa using a9
       refine BH rfl (AP 4 LN (o.to) rfl hp9 (fun _ _ _ h=>GV h) fun g9 c6=>(BH rfl (BJ U3_ rfl rfl c6 (BH rfl (BI (vs:=[vI o.to]) LX (JI (O:=[]++O) o.to d0 a0.lt) rfl a0 fun h0 h1 b1 d3 h2 d4=>(?_))))))
       obtain rfl:=d4
       have hp9:=hp9.mv d3
       refine AC (BA (vO (CN o.to)) rfl rfl (AC (AF (vO (CN o.to)) rfl (?_))))
       cases b2:(CN o.to)
       ·have e7:(CN o.to)=false:=by simpa using b2
        refine BH rfl (AP 2 GB (o.kind) rfl hp9 (fun _ _ _ h=>FX h) fun h3 c7=>(BH rfl (BJ U3_ rfl rfl c7 (BH rfl (DC .i64 o.kind (2:Int) rfl rfl (BH rfl (AF (vO (o.kind == (2:Int))) rfl (?_))))))))
        cases b3:(o.kind == (2:Int))
        ·have e8:o.kind≠(2:Int):=by simpa using b3
         refine AX rfl (AX rfl (AX rfl (BH rfl (BM (vO false) rfl rfl (AC (BM (vO false) rfl rfl (AC (AH (vO false) rfl (AE (AB (AS (AZ rfl (CX rfl rfl rfl) (?_)))))))))))))
         have e:(BV o)=false:=by (simp_all [BV];done)
         exact ⟨_,rfl,b1.keep,(by exact congrArg vO e.symm)⟩
        have e9:o.kind=(2:Int):=by simpa using b3
        refine BH rfl (AP 4 LN (o.to) rfl hp9 (fun _ _ _ h=>GV h) fun h4 c8=>(BH rfl (BJ U3_ rfl rfl c8 (BH rfl (DC .i64 o.to (0:Int) rfl rfl (BH rfl (BA (vO (o.to == (0:Int))) rfl rfl (AC (BM (vO (o.to == (0:Int))) rfl rfl (AC (AH (vO (o.to == (0:Int))) rfl (AE (AB (AS (AZ rfl (CX rfl rfl rfl) (?_))))))))))))))))
        have e:(BV o)=(o.to == (0:Int)):=by (simp_all [BV];done)
        exact ⟨_,rfl,b1.keep,(by exact congrArg vO e.symm)⟩
       have f0:(CN o.to)=true:=by simpa using b2
       refine AX rfl (AX rfl (AX rfl (AX rfl (wl_u rfl (wl_u rfl (wl_u rfl (AX rfl (AC (BA (vO true) rfl rfl (AC (AH (vO true) rfl (AE (AB (AS (AZ rfl (CX rfl rfl rfl) (?_))))))))))))))))
       have e:(BV o)=true:=by (simp_all [BV];done)
       exact ⟨_,rfl,b1.keep,(by exact congrArg vO e.symm)⟩
      have f1:o.token<(1:Int):=by simpa using a8
      refine AX rfl (AX rfl (AX rfl (AC (BA (vO true) rfl rfl (AE (AB (AK true rfl rfl (fun _=>AG (AD kR (AC (AH (vO false) rfl (AE (AB (AS (AN (AZ rfl (CX rfl rfl rfl) (?_)))))))))) (fun h=>by cases h))))))))
      have e:(BV o)=false:=by (unfold BV;((repeat ((refine (if_pos ?_).trans ?_;solve|(simp only [dbs];(repeat (omega))))));rfl))
      exact ⟨_,rfl,a0.keep,(by exact congrArg vO e.symm)⟩
     have f2:(1024:Int)≤o.copy:=by simpa using a7
     refine AX rfl (AX rfl (AX rfl (AC (BA (vO true) rfl rfl (AC (AF (vO true) rfl (AX rfl (AX rfl (AX rfl (AC (BA (vO true) rfl rfl (AE (AB (AK true rfl rfl (fun _=>AG (AD kR (AC (AH (vO false) rfl (AE (AB (AS (AN (AZ rfl (CX rfl rfl rfl) (?_)))))))))) (fun h=>by cases h)))))))))))))))
     have e:(BV o)=false:=by (unfold BV;((repeat ((refine (if_pos ?_).trans ?_;solve|(simp only [dbs];(repeat (omega))))));rfl))
     exact ⟨_,rfl,a0.keep,(by exact congrArg vO e.symm)⟩
    have f3:o.copy<(0:Int):=by simpa using a6
    refine AX rfl (AX rfl (AX rfl (AC (BA (vO true) rfl rfl (AC (AF (vO true) rfl (AX rfl (AX rfl (AX rfl (AC (BA (vO true) rfl rfl (AC (AF (vO true) rfl (AX rfl (AX rfl (AX rfl (AC (BA (vO true) rfl rfl (AE (AB (AK true rfl rfl (fun _=>AG (AD kR (AC (AH (vO false) rfl (AE (AB (AS (AN (AZ rfl (CX rfl rfl rfl) (?_)))))))))) (fun h=>by cases h))))))))))))))))))))))
    have e:(BV o)=false:=by (unfold BV;((repeat ((refine (if_pos ?_).trans ?_;solve|(simp only [dbs];(repeat (omega))))));rfl))
    exact ⟨_,rfl,a0.keep,(by exact congrArg vO e.symm)⟩
   have f4:(65536:Int)<o.no:=by simpa using a5
   refine AX rfl (AX rfl (AX rfl (AC (BA (vO true) rfl rfl (AC (AF (vO true) rfl (AX rfl (AX rfl (AX rfl (AC (BA (vO true) rfl rfl (AC (AF (vO true) rfl (AX rfl (AX rfl (AX rfl (AC (BA (vO true) rfl rfl (AC (AF (vO true) rfl (AX rfl (AX rfl (AX rfl (AC (BA (vO true) rfl rfl (AE (AB (AK true rfl rfl (fun _=>AG (AD kR (AC (AH (vO false) rfl (AE (AB (AS (AN (AZ rfl (CX rfl rfl rfl) (?_)))))))))) (fun h=>by cases h)))))))))))))))))))))))))))))
   have e:(BV o)=false:=by (unfold BV;((repeat ((refine (if_pos ?_).trans ?_;solve|(simp only [dbs];(repeat (omega))))));rfl))
   exact ⟨_,rfl,a0.keep,(by exact congrArg vO e.symm)⟩
  have f5:o.no<(1:Int):=by simpa using a3
  refine AX rfl (AX rfl (AX rfl (AC (BA (vO true) rfl rfl (AC (AF (vO true) rfl (AX rfl (AX rfl (AX rfl (AC (BA (vO true) rfl rfl (AC (AF (vO true) rfl (AX rfl (AX rfl (AX rfl (AC (BA (vO true) rfl rfl (AC (AF (vO true) rfl (AX rfl (AX rfl (AX rfl (AC (BA (vO true) rfl rfl (AC (AF (vO true) rfl (AX rfl (AX rfl (AX rfl (AC (BA (vO true) rfl rfl (AE (AB (AK true rfl rfl (fun _=>AG (AD kR (AC (AH (vO false) rfl (AE (AB (AS (AN (AZ rfl (CX rfl rfl rfl) (?_)))))))))) (fun h=>by cases h))))))))))))))))))))))))))))))))))))
  have e:(BV o)=false:=by (unfold BV;((repeat ((refine (if_pos ?_).trans ?_;solve|(simp only [dbs];(repeat (omega))))));rfl))
  exact ⟨_,rfl,a0.keep,(by exact congrArg vO e.symm)⟩
 have f6:(CN o.device)=false:=by simpa using a2
 refine AX rfl (AX rfl (AX rfl (AC (BA (vO true) rfl rfl (AC (AF (vO true) rfl (AX rfl (AX rfl (AX rfl (AC (BA (vO true) rfl rfl (AC (AF (vO true) rfl (AX rfl (AX rfl (AX rfl (AC (BA (vO true) rfl rfl (AC (AF (vO true) rfl (AX rfl (AX rfl (AX rfl (AC (BA (vO true) rfl rfl (AC (AF (vO true) rfl (AX rfl (AX rfl (AX rfl (AC (BA (vO true) rfl rfl (AC (AF (vO true) rfl (AX rfl (AX rfl (AX rfl (AC (BA (vO true) rfl rfl (AE (AB (AK true rfl rfl (fun _=>AG (AD kR (AC (AH (vO false) rfl (AE (AB (AS (AN (AZ rfl (CX rfl rfl rfl) (?_)))))))))) (fun h=>by cases h)))))))))))))))))))))))))))))))))))))))))))
 have e:(BV o)=false:=by (unfold BV;((repeat ((refine (if_pos ?_).trans ?_;solve|(simp only [dbs];(repeat (first|omega|left))))));rfl))
 exact ⟨_,rfl,a0.keep,(by exact congrArg vO e.symm)⟩
set_option maxHeartbeats 4000000 in
set_option maxRecDepth 100000 in
theorem c_isNaN {O:List Nat} (x:Int) (w:World) (hO:∀ b∈O,b<w.heap.size):CF Try.prog 107 [vI x] w (fun v _=>v = .bool (false)):= by
 have s0:St w O w []:=St.start hO
 refine BS 6 Try.func107 rfl rfl oT (fun F0=>AG (AD kR (AC (AH (vO false) rfl (AE (AB (AG (AD kR (AC (AF (vI x) rfl (AC (AF (vI x) rfl (AC (DX .i64 x x rfl rfl (AC (AH (vO (x != x)) rfl (AE (AB (AS (AZ rfl (CX rfl rfl rfl) (?_)))))))))))))))))))))
 have e:false=(x != x):=by simp
 exact ⟨_,rfl,s0.keep,(by exact congrArg vO e.symm)⟩
set_option maxHeartbeats 4000000 in
set_option maxRecDepth 100000 in
theorem c_cmpI {O:List Nat} (a:Int) (b:Int) (w:World) (hO:∀ b∈O,b<w.heap.size):CF Try.prog 104 [vI a,vI b] w (fun v _=>v=vI (HL a b)):= by
 have s0:St w O w []:=St.start hO
 refine BS 20 Try.func104 rfl rfl oT (fun F0=>AG (AD kR (AC (AH (vI 0) rfl (AE (AB (AG (AD kR (AC (AF (vI a) rfl (AC (BI (vs:=[vI a]) QG (c_isNaN (O:=[]++O) a w s0.lt) rfl s0 fun b1 a4 a3 b2 b3 a5=>(?_)))))))))))))
 obtain rfl:=a5
 refine AC (AH (vO false) rfl (AE (AB (AG (AD kR (AC (AF (vI b) rfl (AC (BI (vs:=[vI b]) QG (c_isNaN (O:=[]++O) b a4 a3.lt) rfl a3 fun b4 b5 a2 b6 b7 a6=>(?_))))))))))
 obtain rfl:=a6
 refine AC (AH (vO false) rfl (AE (AB (AG (AG (AD kR (AC (AF (vO false) rfl (AE (AB (AK false rfl rfl (fun h=>by cases h) (fun _=>AT (AB (AG (AG (AD kR (AC (AF (vO false) rfl (AE (AB (AK false rfl rfl (fun h=>by cases h) (fun _=>AT (AB (AG (AG (AD kR (AC (AF (vI a) rfl (AC (AF (vI b) rfl (AC (DR .i64 a b rfl rfl (AE (AB (AK (decide (a<b)) rfl rfl (fun a0=>?_) (fun a0=>?_))))))))))))))))))))))))))))))))))))
 ·have a7:a<b:=by simpa using a0
  refine AG (AD kR (AC (AH (vI (-1:Int)) rfl (AE (AB (AS (AN (AZ rfl (CX rfl rfl rfl) (?_)))))))))
  have e:(HL a b)=(-1:Int):=by (unfold HL;((repeat ((refine (if_pos ?_).trans ?_;omega)));rfl))
  exact ⟨_,rfl,a2.keep,by rw [e];exact rfl⟩
 have a8:b≤a:=by simpa using a0
 refine AT (AB (AG (AG (AD kR (AC (AF (vI a) rfl (AC (AF (vI b) rfl (AC (IF .i64 a b rfl rfl (AE (AB (AK (decide (b<a)) rfl rfl (fun a1=>?_) (fun a1=>?_))))))))))))))
 ·have a9:b<a:=by simpa using a1
  refine AG (AD kR (AC (AH (vI 1) rfl (AE (AB (AS (AN (AZ rfl (CX rfl rfl rfl) (?_)))))))))
  have e:(HL a b)=(1:Int):=by (unfold HL;((repeat (first|(refine (if_pos ?_).trans ?_;omega)|(refine (if_neg ?_).trans ?_;omega)));rfl))
  exact ⟨_,rfl,a2.keep,by rw [e];exact rfl⟩
 have b0:a≤b:=by simpa using a1
 refine AT (AB (AG (AD kR (AC (AH (vI 0) rfl (AE (AB (AS (AZ rfl (CX rfl rfl rfl) (?_))))))))))
 have e:(HL a b)=(0:Int):=by (unfold HL;((repeat ((refine (if_neg ?_).trans ?_;omega)));rfl))
 exact ⟨_,rfl,a2.keep,by rw [e];exact rfl⟩
set_option maxHeartbeats 4000000 in
set_option maxRecDepth 100000 in
theorem c_key0 {O:List Nat} (o_cs:List Value) (o:DeviceOp) (w:World) (a3:Enc.devop.rd w O o_cs o) (hO:∀ b∈O,b<w.heap.size):CF Try.prog 91 [.agg o_cs.toArray] w (fun v _=>v=vI (DZ 0 o)):= by
 obtain rfl:=a3
 have s0:St w O w []:=St.start hO
 refine BS 5 Try.func91 rfl rfl oT (fun F0=>AG (AD kR (AC (DG (E:=Enc.devop) (vA #[vI o.device,vI o.no,vI o.kind,vI o.copy,vI o.to,vI o.token]) ([vI o.device,vI o.no,vI o.kind,vI o.copy,vI o.to,vI o.token]) o rfl rfl rfl s0 fun a8 a4 a2 a5 a6 a0=>(AC (AH (vI 0) rfl (AE (AB (AG (AD kR (AC (AP 3 II (o.copy) rfl a0 (fun _ _ _ h=>DK h) fun a7 a1=>(AC (BJ U3_ rfl rfl a1 (AC (AH (vI o.copy) rfl (AE (AB (AS (AZ rfl (CX rfl rfl rfl) (?_)))))))))))))))))))))
 have e:(DZ 0 o)=o.copy:=rfl
 exact ⟨_,rfl,a2.keep,by rw [e];exact rfl⟩
set_option maxHeartbeats 4000000 in
set_option maxRecDepth 100000 in
theorem c_key1 {O:List Nat} (o_cs:List Value) (o:DeviceOp) (w:World) (a3:Enc.devop.rd w O o_cs o) (hO:∀ b∈O,b<w.heap.size):CF Try.prog 92 [.agg o_cs.toArray] w (fun v _=>v=vI (DZ 1 o)):= by
 obtain rfl:=a3
 have s0:St w O w []:=St.start hO
 refine BS 5 Try.func92 rfl rfl oT (fun F0=>AG (AD kR (AC (DG (E:=Enc.devop) (vA #[vI o.device,vI o.no,vI o.kind,vI o.copy,vI o.to,vI o.token]) ([vI o.device,vI o.no,vI o.kind,vI o.copy,vI o.to,vI o.token]) o rfl rfl rfl s0 fun a4 a5 a2 a6 a7 a0=>(AC (AH (vI 0) rfl (AE (AB (AG (AD kR (AC (AP 5 LE (o.token) rfl a0 (fun _ _ _ h=>FE h) fun a8 a1=>(AC (BJ U3_ rfl rfl a1 (AC (AH (vI o.token) rfl (AE (AB (AS (AZ rfl (CX rfl rfl rfl) (?_)))))))))))))))))))))
 have e:(DZ 1 o)=o.token:=rfl
 exact ⟨_,rfl,a2.keep,by rw [e];exact rfl⟩
set_option maxHeartbeats 4000000 in
set_option maxRecDepth 100000 in
theorem c_key2 {O:List Nat} (o_cs:List Value) (o:DeviceOp) (w:World) (a3:Enc.devop.rd w O o_cs o) (hO:∀ b∈O,b<w.heap.size):CF Try.prog 93 [.agg o_cs.toArray] w (fun v _=>v=vI (DZ 2 o)):= by
 obtain rfl:=a3
 have s0:St w O w []:=St.start hO
 refine BS 5 Try.func93 rfl rfl oT (fun F0=>AG (AD kR (AC (DG (E:=Enc.devop) (vA #[vI o.device,vI o.no,vI o.kind,vI o.copy,vI o.to,vI o.token]) ([vI o.device,vI o.no,vI o.kind,vI o.copy,vI o.to,vI o.token]) o rfl rfl rfl s0 fun a4 a5 a2 a6 a7 a0=>(AC (AH (vI 0) rfl (AE (AB (AG (AD kR (AC (AP 0 LM (o.device) rfl a0 (fun _ _ _ h=>FY h) fun a8 a1=>(AC (BJ U3_ rfl rfl a1 (AC (AH (vI o.device) rfl (AE (AB (AS (AZ rfl (CX rfl rfl rfl) (?_)))))))))))))))))))))
 have e:(DZ 2 o)=o.device:=rfl
 exact ⟨_,rfl,a2.keep,by rw [e];exact rfl⟩
set_option maxHeartbeats 4000000 in
set_option maxRecDepth 100000 in
theorem c_key3 {O:List Nat} (o_cs:List Value) (o:DeviceOp) (w:World) (a3:Enc.devop.rd w O o_cs o) (hO:∀ b∈O,b<w.heap.size):CF Try.prog 94 [.agg o_cs.toArray] w (fun v _=>v=vI (DZ 3 o)):= by
 obtain rfl:=a3
 have s0:St w O w []:=St.start hO
 refine BS 5 Try.func94 rfl rfl oT (fun F0=>AG (AD kR (AC (DG (E:=Enc.devop) (vA #[vI o.device,vI o.no,vI o.kind,vI o.copy,vI o.to,vI o.token]) ([vI o.device,vI o.no,vI o.kind,vI o.copy,vI o.to,vI o.token]) o rfl rfl rfl s0 fun a4 a5 a2 a6 a7 a0=>(AC (AH (vI 0) rfl (AE (AB (AG (AD kR (AC (AP 1 MY (o.no) rfl a0 (fun _ _ _ h=>GQ h) fun a8 a1=>(AC (BJ U3_ rfl rfl a1 (AC (AH (vI o.no) rfl (AE (AB (AS (AZ rfl (CX rfl rfl rfl) (?_)))))))))))))))))))))
 have e:(DZ 3 o)=o.no:=rfl
 exact ⟨_,rfl,a2.keep,by rw [e];exact rfl⟩
set_option maxHeartbeats 4000000 in
set_option maxRecDepth 100000 in
theorem c_key4 {O:List Nat} (o_cs:List Value) (o:DeviceOp) (w:World) (a3:Enc.devop.rd w O o_cs o) (hO:∀ b∈O,b<w.heap.size):CF Try.prog 95 [.agg o_cs.toArray] w (fun v _=>v=vI (DZ 4 o)):= by
 obtain rfl:=a3
 have s0:St w O w []:=St.start hO
 refine BS 5 Try.func95 rfl rfl oT (fun F0=>AG (AD kR (AC (DG (E:=Enc.devop) (vA #[vI o.device,vI o.no,vI o.kind,vI o.copy,vI o.to,vI o.token]) ([vI o.device,vI o.no,vI o.kind,vI o.copy,vI o.to,vI o.token]) o rfl rfl rfl s0 fun a4 a5 a2 a6 a7 a0=>(AC (AH (vI 0) rfl (AE (AB (AG (AD kR (AC (AP 2 GB (o.kind) rfl a0 (fun _ _ _ h=>FX h) fun a8 a1=>(AC (BJ U3_ rfl rfl a1 (AC (AH (vI o.kind) rfl (AE (AB (AS (AZ rfl (CX rfl rfl rfl) (?_)))))))))))))))))))))
 have e:(DZ 4 o)=o.kind:=rfl
 exact ⟨_,rfl,a2.keep,by rw [e];exact rfl⟩
set_option maxHeartbeats 4000000 in
set_option maxRecDepth 100000 in
theorem c_key5 {O:List Nat} (o_cs:List Value) (o:DeviceOp) (w:World) (a3:Enc.devop.rd w O o_cs o) (hO:∀ b∈O,b<w.heap.size):CF Try.prog 96 [.agg o_cs.toArray] w (fun v _=>v=vI (DZ 5 o)):= by
 obtain rfl:=a3
 have s0:St w O w []:=St.start hO
 refine BS 5 Try.func96 rfl rfl oT (fun F0=>AG (AD kR (AC (DG (E:=Enc.devop) (vA #[vI o.device,vI o.no,vI o.kind,vI o.copy,vI o.to,vI o.token]) ([vI o.device,vI o.no,vI o.kind,vI o.copy,vI o.to,vI o.token]) o rfl rfl rfl s0 fun a4 a5 a2 a6 a7 a0=>(AC (AH (vI 0) rfl (AE (AB (AG (AD kR (AC (AP 4 LN (o.to) rfl a0 (fun _ _ _ h=>GV h) fun a8 a1=>(AC (BJ U3_ rfl rfl a1 (AC (AH (vI o.to) rfl (AE (AB (AS (AZ rfl (CX rfl rfl rfl) (?_)))))))))))))))))))))
 have e:(DZ 5 o)=o.to:=rfl
 exact ⟨_,rfl,a2.keep,by rw [e];exact rfl⟩
def Enc.key:Enc Nat where
  size:=1
  rd:=fun w O cs x=>cs=[.func (.func (91+x)) #[] #[]]
  len:=fun h=>by subst h;rfl
  one:=fun h u hu=>by subst h;simp at hu;subst hu;rfl
  mv:=fun h _=>h
  sub:=fun h _=>h
theorem QN {x:Nat} (hx:x<6) (xs:Array Value) (w:World):(callFunc (91+x) xs).run Try.prog w = .ok (.enter (91+x) xs) w:=by
  match x,hx with
  | 0,_=>exact enter_91 xs w
  | 1,_=>exact enter_92 xs w
  | 2,_=>exact enter_93 xs w
  | 3,_=>exact enter_94 xs w
  | 4,_=>exact enter_95 xs w
  | 5,_=>exact enter_96 xs w
theorem c_key {O:List Nat} (x:Nat) (hx:x<6) (cs:List Value) (o:DeviceOp) (w:World) (h:Enc.devop.rd w O cs o) (hO:∀ b∈O,b<w.heap.size):CF Try.prog (91+x) [.agg cs.toArray] w (fun v _=>v=vI (DZ x o)):=by
  match x,hx with
  | 0,_=>exact c_key0 cs o w h hO
  | 1,_=>exact c_key1 cs o w h hO
  | 2,_=>exact c_key2 cs o w h hO
  | 3,_=>exact c_key3 cs o w h hO
  | 4,_=>exact c_key4 cs o w h hO
  | 5,_=>exact c_key5 cs o w h hO
set_option maxHeartbeats 4000000 in
set_option maxRecDepth 100000 in
theorem c_chain {O:List Nat} (a_cs:List Value) (a:DeviceOp) (b_cs:List Value) (b:DeviceOp) (ns_v:Value) (ns:List Nat) (w:World) (d5:Enc.devop.rd w O a_cs a) (d6:Enc.devop.rd w O b_cs b) (a0:CI Enc.key w O ns_v ns) (hpre0:∀ k,k<ns.length→ns[k]! < 6) (hO:∀ b∈O,b<w.heap.size):CF Try.prog 90 [.agg a_cs.toArray, .agg b_cs.toArray,ns_v] w (fun v _=>v=vI (LH a b ns)):= by
 obtain rfl:=d5
 obtain rfl:=d6
 have d7:=a0.len_le
 have a0:CI Enc.key w ([]++O) ns_v ns:=a0
 have s0:St w O w []:=St.start hO
 refine BS 27 Try.func90 rfl rfl oT (fun F0=>AG (AD kR (AC (DG (E:=Enc.devop) (vA #[vI a.device,vI a.no,vI a.kind,vI a.copy,vI a.to,vI a.token]) ([vI a.device,vI a.no,vI a.kind,vI a.copy,vI a.to,vI a.token]) a rfl rfl rfl s0 fun a7 e4 c6 c7 e5 a1=>(?_)))))
 have a0:=a0.mv c7
 refine AC (DG (E:=Enc.devop) (vA #[vI b.device,vI b.no,vI b.kind,vI b.copy,vI b.to,vI b.token]) ([vI b.device,vI b.no,vI b.kind,vI b.copy,vI b.to,vI b.token]) b rfl rfl rfl c6 fun a8 e6 c8 b4 e7 a2=>(?_))
 have a0:=a0.mv b4
 have a1:=a1.mv b4
 refine AC (AH (vI 0) rfl (AE (AB (AG (AG (AD kR (AC (AF (ns_v) rfl (AC (DS U128_ rfl a0 (AC (AF (vI 0) rfl (AE (AB (BN (ED (fun mI FI wI=>∃ (k:Nat) (B:List Nat),k≤ns.length∧LH a b ns=GY (fun k=>if HL (DZ ns[k]! a) (DZ ns[k]! b) != 0 then some (HL (DZ ns[k]! a) (DZ ns[k]! b)) else none) 0 k (ns.length - k)∧mI=ns.length - k∧(∃ F1,FI=GM F1 [(3,vP (some a7)),(4,vP (some a8)),(10,ns_v),(11,vI (ns.length:Int)),(12,vI ((k:Nat):Int)),(27,undef)])∧St w O wI B∧PT Enc.devop wI (B++O) (.pointer (some a7)) (a)∧PT Enc.devop wI (B++O) (.pointer (some a8)) (b)∧CI Enc.key wI (B++O) (ns_v) (ns)) (ns.length - (0)) ?_ ?_))))))))))))))))
 ·exact ⟨(0),[],oM,rfl,rfl,⟨_,AL _ ⟨rfl,rfl,rfl,rfl,(by rfl),rfl,trivial⟩⟩,c8,a1,a2,a0⟩
 intro f8 F a6 hI
 clear a1 a2 a0
 obtain ⟨k,a4,hr0_0,hr0_1,f9,⟨g0,rfl⟩,b5,a1,a2,a0⟩:=hI
 refine AG (AD kR (AC (DR .i64 ((k:Nat):Int) (ns.length:Int) rfl rfl (AE (AB (AG (AK (decide (((k:Nat):Int)<(ns.length:Int))) rfl rfl (fun a9=>?_) (fun a9=>?_))))))))
 ·have d8:((k:Nat):Int)<(ns.length:Int):=by simpa using a9
  refine AT (AB (AG (BN (AG (AD kR (AC (BZ U128_ s_121 .i64 ((k:Nat):Int) k rfl rfl rfl a0 oM fun e8 c3=>(AC (JQ U121_ rfl rfl rfl c3 fun v_ hv_=>(?_))))))))))
  have hv_:[v_]=[_]:=hv_
  cases hv_
  refine AC (AH (vN (.func (91+(ns[k]!))) #[] #[]) rfl (AE (AB (AG (cw_draw' 5 _ _ [EK (vN (.func (91+(ns[k]!))) #[] #[]),EK (vA #[vI a.device,vI a.no,vI a.kind,vI a.copy,vI a.to,vI a.token]),EK (vI (DZ (ns[k]!) a)),EK (vN (.func (91+(ns[k]!))) #[] #[]),EK (vA #[vI b.device,vI b.no,vI b.kind,vI b.copy,vI b.to,vI b.token])] kR kR kR kR rfl rfl ⟨kI,kI,kI,kI,kI,trivial⟩ ⟨?_,?_,?_,?_,?_,trivial⟩ ?_)))))
  ·intro F1 w1 k1 hf hd
   obtain ⟨F2,rfl⟩:=AY (F:=F1) [(8,vN (.func (91+(ns[k]!))) #[] #[])] ⟨hf 8 kR,trivial⟩
   exact BB rfl ((AF (vN (.func (91+(ns[k]!))) #[] #[]) rfl (⟨(Keep.refl _ _),rfl⟩)))
  ·intro F1 w1 k1 hf hd
   have k0:=(Keep.drew [] a6).trans k1
   have m1:Mv a4 a6 a4 w1:=Mv.of_keep k0
   have a1:=a1.mv m1
   obtain ⟨F2,rfl⟩:=AY (F:=F1) [(3,vP (some a7))] ⟨hf 3 kR,trivial⟩
   refine BB rfl ((BT U40_ rfl BX rfl a1 fun d9 c4=>(?_)))
   obtain rfl:=c4
   exact ⟨(Keep.refl _ _),rfl⟩
  ·intro F1 w1 k1 hf hd
   have k0:=(Keep.drew [] a6).trans k1
   have s1:=b5.call k0
   obtain ⟨F2,rfl⟩:=AY (F:=F1) [(16,vN (.func (91+(ns[k]!))) #[] #[]),(17,vA #[vI a.device,vI a.no,vI a.kind,vI a.copy,vI a.to,vI a.token])] ⟨hd 0 16 kR,hd 1 17 kR,trivial⟩
   refine BB rfl ((GI (vs:=[vA #[vI a.device,vI a.no,vI a.kind,vI a.copy,vI a.to,vI a.token]]) [] [] [vA #[vI a.device,vI a.no,vI a.kind,vI a.copy,vI a.to,vI a.token]] (QN (hpre0 _ oM)) rfl (c_key (O:=a4++O) (ns[k]!) (hpre0 _ oM) [vI a.device,vI a.no,vI a.kind,vI a.copy,vI a.to,vI a.token] a w1 rfl s1.lt) rfl rfl s1 fun e9 f0 f1 f2 c9 d0=>(?_)))
   obtain rfl:=d0
   exact ⟨c9,rfl⟩
  ·intro F1 w1 k1 hf hd
   obtain ⟨F2,rfl⟩:=AY (F:=F1) [(8,vN (.func (91+(ns[k]!))) #[] #[])] ⟨hf 8 kR,trivial⟩
   exact BB rfl ((AF (vN (.func (91+(ns[k]!))) #[] #[]) rfl (⟨(Keep.refl _ _),rfl⟩)))
  ·intro F1 w1 k1 hf hd
   have k0:=(Keep.drew [] a6).trans k1
   have m1:Mv a4 a6 a4 w1:=Mv.of_keep k0
   have a2:=a2.mv m1
   obtain ⟨F2,rfl⟩:=AY (F:=F1) [(4,vP (some a8))] ⟨hf 4 kR,trivial⟩
   refine BB rfl ((BT U40_ rfl BX rfl a2 fun e0 c5=>(?_)))
   obtain rfl:=c5
   exact ⟨(Keep.refl _ _),rfl⟩
  intro d1 b6 b7 a5 a3
  have b8:=b5.call b7
  have b1:Mv a4 a6 a4 b6:=Mv.of_keep b7
  have a1:=a1.mv b1
  have a2:=a2.mv b1
  have a0:=a0.mv b1
  obtain ⟨F2,rfl⟩:=AY (F:=d1) [(3,vP (some a7)),(4,vP (some a8)),(10,ns_v),(11,vI (ns.length:Int)),(12,vI ((k:Nat):Int)),(27,undef),(18,vI (DZ (ns[k]!) a)),(19,vN (.func (91+(ns[k]!))) #[] #[]),(20,vA #[vI b.device,vI b.no,vI b.kind,vI b.copy,vI b.to,vI b.token])] ⟨a3 3 kR,a3 4 kR,a3 10 kR,a3 11 kR,a3 12 kR,a3 27 kR,a5 2 18 kR (by decide),a5 3 19 kR (by decide),a5 4 20 kR (by decide),trivial⟩
  clear a5 a3
  refine AC (GI (vs:=[vA #[vI b.device,vI b.no,vI b.kind,vI b.copy,vI b.to,vI b.token]]) [] [] [vA #[vI b.device,vI b.no,vI b.kind,vI b.copy,vI b.to,vI b.token]] (QN (hpre0 _ oM)) rfl (c_key (O:=a4++O) (ns[k]!) (hpre0 _ oM) [vI b.device,vI b.no,vI b.kind,vI b.copy,vI b.to,vI b.token] b b6 rfl b8.lt) rfl rfl b8 fun f3 d2 b9 b2 f4 d3=>(?_))
  obtain rfl:=d3
  have a1:=a1.mv b2
  have a2:=a2.mv b2
  have a0:=a0.mv b2
  refine AC (BI (vs:=[vI (DZ (ns[k]!) a),vI (DZ (ns[k]!) b)]) enter_104 (c_cmpI (O:=a4++O) (DZ (ns[k]!) a) (DZ (ns[k]!) b) d2 b9.lt) rfl b9 fun f5 f6 c2 b3 f7 d4=>(?_))
  obtain rfl:=d4
  have a1:=a1.mv b3
  have a2:=a2.mv b3
  have a0:=a0.mv b3
  refine AC (AH (vI (HL (DZ (ns[k]!) a) (DZ (ns[k]!) b))) rfl (AE (AB (AG (AD kR (AC (AF (vI (HL (DZ (ns[k]!) a) (DZ (ns[k]!) b))) rfl (AC (DX .i64 (HL (DZ (ns[k]!) a) (DZ (ns[k]!) b)) (0:Int) rfl rfl (AE (AB (AK ((HL (DZ (ns[k]!) a) (DZ (ns[k]!) b)) != (0:Int)) rfl rfl (fun b0=>?_) (fun b0=>?_)))))))))))))
  ·have e1:HL (DZ (ns[k]!) a) (DZ (ns[k]!) b)≠(0:Int):=by simpa using b0
   refine AG (AD kR (AC (AF (vI (HL (DZ (ns[k]!) a) (DZ (ns[k]!) b))) rfl (AC (AH (vI (HL (DZ (ns[k]!) a) (DZ (ns[k]!) b))) rfl (AE (AB (AS (BC (AN (AN (BC (AN (AZ rfl (CX rfl rfl rfl) (?_)))))))))))))))
   have e:(LH a b ns)=(HL (DZ (ns[k]!) a) (DZ (ns[k]!) b)):=by (rw [hr0_1];exact HX oM (by ((repeat ((refine (if_pos ?_).trans ?_;omega)));rfl)))
   exact ⟨_,rfl,c2.keep,by rw [e];exact rfl⟩
  have e2:HL (DZ (ns[k]!) a) (DZ (ns[k]!) b)=(0:Int):=by simpa using b0
  refine AT (AW (AB (AD kR (AC (CE .i64 ((k:Nat):Int) (1:Int) (((k+1:Nat):Int)) rfl rfl (EP oM oM) (AC (AF (vI ((k+1:Nat):Int)) rfl (AE (AB (?_))))))))))
  exact ⟨_,oM,(k+1),a4,oM,(hr0_1.trans (HW oM (by ((repeat ((refine (if_neg ?_).trans ?_;solve|(simp only [dbs];(repeat (omega))))));rfl)))),rfl,⟨_,AL _ ⟨rfl,rfl,rfl,rfl,(by rfl),rfl,trivial⟩⟩,c2,a1,a2,a0⟩
 have e3:(ns.length:Int)≤((k:Nat):Int):=by simpa using a9
 refine EF (CG (CG (DJ (AB (AG (AD kR (AC (AH (vI 0) rfl (AE (AB (AS (AZ rfl (CX rfl rfl rfl) (?_)))))))))))))
 have e:(LH a b ns)=(0:Int):=by (rw [hr0_1];exact KA oM)
 exact ⟨_,rfl,b5.keep,by rw [e];exact rfl⟩
set_option maxHeartbeats 4000000 in
set_option maxRecDepth 100000 in
theorem NG {O:List Nat} (a_cs:List Value) (a:DeviceOp) (b_cs:List Value) (b:DeviceOp) (w:World) (b3:Enc.devop.rd w O a_cs a) (b4:Enc.devop.rd w O b_cs b) (hO:∀ b∈O,b<w.heap.size):CF Try.prog 61 [.agg a_cs.toArray, .agg b_cs.toArray] w (fun v _=>v=vI (DE a b)):= by
 obtain rfl:=b3
 obtain rfl:=b4
 have s0:St w O w []:=St.start hO
 refine BS 9 Try.func61 rfl rfl oT (fun F0=>AG (AD kR (AC (DG (E:=Enc.devop) (vA #[vI a.device,vI a.no,vI a.kind,vI a.copy,vI a.to,vI a.token]) ([vI a.device,vI a.no,vI a.kind,vI a.copy,vI a.to,vI a.token]) a rfl rfl rfl s0 fun b7 b8 a7 b9 c2 a0=>(AC (DG (E:=Enc.devop) (vA #[vI b.device,vI b.no,vI b.kind,vI b.copy,vI b.to,vI b.token]) ([vI b.device,vI b.no,vI b.kind,vI b.copy,vI b.to,vI b.token]) b rfl rfl rfl a7 fun c3 c4 a8 a9 c5 a4=>(?_)))))))
 have a0:=a0.mv a9
 refine AC (AH (vI 0) rfl (AE (AB (AG (AD kR (AC (BT U40_ rfl BX rfl a0 fun b5 a5=>(?_))))))))
 obtain rfl:=a5
 refine AC (BT U40_ rfl BX rfl a4 fun b6 a6=>(?_))
 obtain rfl:=a6
 refine AC (EY (E:=Enc.key) (xs:=[.func 91, .func 92, .func 93, .func 94, .func 95, .func 96]) U128_ s_121 z_121 (by decide) [vN (.func 91) #[] #[],vN (.func 92) #[] #[],vN (.func 93) #[] #[],vN (.func 94) #[] #[],vN (.func 95) #[] #[],vN (.func 96) #[] #[]] [[vN (.func 91) #[] #[]],[vN (.func 92) #[] #[]],[vN (.func 93) #[] #[]],[vN (.func 94) #[] #[]],[vN (.func 95) #[] #[]],[vN (.func 96) #[] #[]]] [0,1,2,3,4,5] rfl rfl rfl (Parts.cons rfl rfl (Parts.cons rfl rfl (Parts.cons rfl rfl (Parts.cons rfl rfl (Parts.cons rfl rfl (Parts.cons rfl rfl (Parts.nil _ _ _))))))) oT a8 fun a2 b0 a3 c6 c7 a1=>(?_))
 have:=a1.len_le
 refine AC (BI (vs:=[vA #[vI a.device,vI a.no,vI a.kind,vI a.copy,vI a.to,vI a.token],vA #[vI b.device,vI b.no,vI b.kind,vI b.copy,vI b.to,vI b.token],a2]) enter_90 (c_chain (O:=[]++O) [vI a.device,vI a.no,vI a.kind,vI a.copy,vI a.to,vI a.token] a [vI b.device,vI b.no,vI b.kind,vI b.copy,vI b.to,vI b.token] b a2 ([0,1,2,3,4,5]) b0 rfl rfl a1 (by decide) a3.lt) rfl a3 fun c8 c9 b1 d0 d1 b2=>(?_))
 obtain rfl:=b2
 refine AC (AH (vI (LH a b ([0,1,2,3,4,5]))) rfl (AE (AB (AS (AZ rfl (CX rfl rfl rfl) (?_))))))
 have e:(DE a b)=(LH a b ([0,1,2,3,4,5])):=rfl
 exact ⟨_,rfl,b1.keep,by rw [e];exact rfl⟩
set_option maxHeartbeats 4000000 in
set_option maxRecDepth 100000 in
theorem JH {O:List Nat} (o_cs:List Value) (o:DeviceOp) (w:World) (b1:Enc.devop.rd w O o_cs o) (hO:∀ b∈O,b<w.heap.size):CF Try.prog 59 [.agg o_cs.toArray] w (fun v w'=>∃ (x0:List Value),v = .agg x0.toArray∧Enc.devno.rd w' (O) x0 (DH o)):= by
 obtain rfl:=b1
 have s0:St w O w []:=St.start hO
 refine BS 8 Try.func59 rfl rfl oT (fun F0=>AG (AD kR (AC (DG (E:=Enc.devop) (vA #[vI o.device,vI o.no,vI o.kind,vI o.copy,vI o.to,vI o.token]) ([vI o.device,vI o.no,vI o.kind,vI o.copy,vI o.to,vI o.token]) o rfl rfl rfl s0 fun b2 b3 a5 b4 b5 a0=>(AC (CC [vI 0,vI 0] z_90 rfl a5 fun a6 b6 a7 a8 a9 b7 a1=>(?_)))))))
 clear a7
 have a0:=a0.mv a9
 refine AE (AB (AG (AD kR (AC (AP 0 LM (o.device) rfl a0 (fun _ _ _ h=>FY h) fun b8 a2=>(AC (BJ U3_ rfl rfl a2 (AC (AP 1 MY (o.no) rfl a0 (fun _ _ _ h=>GQ h) fun b9 a3=>(AC (BJ U3_ rfl rfl a3 (AC (CV (l:=[(0, .tmp 4),(1, .tmp 6)]) pl_90 z_90 rfl [(0,vI o.device,[vI o.device]),(1,vI o.no,[vI o.no])] [vI o.device,vI o.no] rfl ⟨_,rfl,rfl,oT,⟨_,rfl,rfl,oT,rfl⟩⟩ (BK (AU (vs:=[vI o.device,vI o.no]) (.agg #[vI o.device,vI o.no]) rfl rfl rfl s_90 (fun u hu=>by simp only [List.mem_cons,List.not_mem_nil,or_false] at hu;rcases hu with rfl|rfl <;> rfl) (by repeat (constructor)) a1 oT a8 fun c2 b0 c3 c4 a4=>(AE (AB (AS (AZ rfl (FN (vs:=[vI o.device,vI o.no]) rfl rfl U90_ rfl s_90 rfl a4 rfl) (?_))))))))))))))))))))
 have e:(DH o)=(⟨o.device,o.no⟩:DevNo):=rfl
 exact ⟨_,rfl,b0.keep,by rw [e];exact ⟨[vI o.device,vI o.no],rfl,Enc.out (B:=(a6 :: [])) rfl⟩⟩
set_option maxHeartbeats 4000000 in
set_option maxRecDepth 100000 in
theorem OX {O:List Nat} (l_v:Value) (l:List DeviceOp) (w:World) (a0:CI Enc.devop w O l_v l) (hO:∀ b∈O,b<w.heap.size):CF Try.prog 70 [l_v] w (fun v _=>v = .bool (CO l)):= by
 have e1:=a0.len_le
 have a0:CI Enc.devop w ([]++O) l_v l:=a0
 have s0:St w O w []:=St.start hO
 refine BS 21 Try.func70 rfl rfl oT (fun F0=>AG (AD kR (AC (AH (vO false) rfl (AE (AB (AG (AD kR (AC (PP IB vO s0 fun a1 e9 b9 c2 c3 f0 b0=>(?_)))))))))))
 clear b9
 have a0:=a0.mv c3
 refine AC (AH (Value.map (some a1)) rfl (AE (AB (AG (AG (AD kR (AC (AF (l_v) rfl (AC (DS U26_ rfl a0 (AC (AF (vI 0) rfl (AE (AB (BN (ED (fun mI FI wI=>∃ (k:Nat) (B:List Nat),k≤l.length∧CO l=GY (fun k=>if (IE l k (DH l[k]!)).getD false then some false else none) true k (l.length - k)∧mI=l.length - k∧(∃ F1,FI=GM F1 [(3,Value.map (some a1)),(7,l_v),(8,vI (l.length:Int)),(9,vI ((k:Nat):Int)),(21,undef)])∧St w O wI B∧CI Enc.devop wI (B++O) (l_v) (l)∧LB IB vO wI a1 (IE l k)∧a1∈B) (l.length - (0)) ?_ ?_))))))))))))))))
 ·exact ⟨(0),(a1 :: []),oM,rfl,rfl,⟨_,AL _ ⟨rfl,rfl,rfl,(by rfl),rfl,trivial⟩⟩,c2,a0,(by rw [show IE l (0)=noM from rfl];exact b0),(by (repeat (exact List.mem_cons_self)))⟩
 intro f8 F f9 hI
 clear a0
 obtain ⟨k,a7,hr0_0,hr0_1,g0,⟨g1,rfl⟩,b8,a0,hbx_0_b248,c4⟩:=hI
 refine AG (AD kR (AC (DR .i64 ((k:Nat):Int) (l.length:Int) rfl rfl (AE (AB (AG (AK (decide (((k:Nat):Int)<(l.length:Int))) rfl rfl (fun a4=>?_) (fun a4=>?_))))))))
 ·have e2:((k:Nat):Int)<(l.length:Int):=by simpa using a4
  refine AT (AB (AG (BN (AG (AD kR (AC (BZ U26_ BX .i64 ((k:Nat):Int) k rfl rfl rfl a0 oM fun f1 b1=>(AC (BT U40_ rfl BX rfl b1 fun e3 b2=>(?_))))))))))
  obtain rfl:=b2
  refine AC (CC [vI 0,vI 0,vI 0,vI 0,vI 0,vI 0] HC rfl b8 fun a3 f2 c5 c6 c7 c8 b3=>(?_))
  have b4:DB a1 a3:=by show a1≠a3;have:=hbx_0_b248.lt;omega
  clear c5
  have a0:=a0.mv c7
  have hbx_0_b248:=hbx_0_b248.keep c8 (by simp)
  refine BK (AU (vs:=[vI ((l[k]!).device),vI ((l[k]!).no),vI ((l[k]!).kind),vI ((l[k]!).copy),vI ((l[k]!).to),vI ((l[k]!).token)]) (.agg #[vI ((l[k]!).device),vI ((l[k]!).no),vI ((l[k]!).kind),vI ((l[k]!).copy),vI ((l[k]!).to),vI ((l[k]!).token)]) rfl rfl rfl BX (fun u hu=>by simp only [List.mem_cons,List.not_mem_nil,or_false] at hu;rcases hu with rfl|rfl|rfl|rfl|rfl|rfl <;> rfl) (by repeat (constructor)) b3 oT c6 fun c9 a8 d0 d1 a2=>(?_))
  have a0:=a0.mv d0
  have hbx_0_b248:=hbx_0_b248.keep d1 (AJ b4)
  refine AE (AB (AG (AG (AD kR (AC (AF (Value.map (some a1)) rfl (AC (AQ (vs:=[vI ((l[k]!).device),vI ((l[k]!).no),vI ((l[k]!).kind),vI ((l[k]!).copy),vI ((l[k]!).to),vI ((l[k]!).token)]) U40_ rfl BX rfl a2 rfl (AC (BI (vs:=[vA #[vI ((l[k]!).device),vI ((l[k]!).no),vI ((l[k]!).kind),vI ((l[k]!).copy),vI ((l[k]!).to),vI ((l[k]!).token)]]) MN (JH (O:=(a3 :: a7)++O) [vI ((l[k]!).device),vI ((l[k]!).no),vI ((l[k]!).kind),vI ((l[k]!).copy),vI ((l[k]!).to),vI ((l[k]!).token)] (l[k]!) c9 rfl a8.lt) rfl a8 fun f3 d2 a6 d3 a9 d4=>(?_)))))))))))
  obtain ⟨e4,rfl,b5⟩:=d4
  obtain rfl:=b5
  have a0:=a0.mv d3
  have hbx_0_b248:=hbx_0_b248.keep a9 (by simp)
  have a2:=a2.keep a9 (by simp)
  refine AC (o_lookV1 (enc:=IB) (venc:=vO) (k:=(DH (l[k]!))) (z0:=false) U123_ QL kR rfl rfl hbx_0_b248 (AE (AB (AK (((IE l k) (DH (l[k]!))).getD false) rfl rfl (fun a5=>?_) (fun a5=>?_)))))
  ·have e5:(((IE l k) (DH (l[k]!))).getD false)=true:=by simpa using a5
   refine AG (AD kR (AC (AH (vO false) rfl (AE (AB (AS (AN (BC (AN (AN (BC (AN (AZ rfl (CX rfl rfl rfl) (?_))))))))))))))
   have e:(CO l)=false:=by (rw [hr0_1];exact HX oM (by ((repeat ((refine (if_pos ?_).trans ?_;omega)));rfl)))
   exact ⟨_,rfl,a6.keep,(by exact congrArg vO e.symm)⟩
  have e6:(((IE l k) (DH (l[k]!))).getD false)=false:=by simpa using a5
  refine AT (AB (AD kR (AC (AF (Value.map (some a1)) rfl (AC (AQ (vs:=[vI ((l[k]!).device),vI ((l[k]!).no),vI ((l[k]!).kind),vI ((l[k]!).copy),vI ((l[k]!).to),vI ((l[k]!).token)]) U40_ rfl BX rfl a2 rfl (AC (BI (vs:=[vA #[vI ((l[k]!).device),vI ((l[k]!).no),vI ((l[k]!).kind),vI ((l[k]!).copy),vI ((l[k]!).to),vI ((l[k]!).token)]]) MN (JH (O:=(a3 :: a7)++O) [vI ((l[k]!).device),vI ((l[k]!).no),vI ((l[k]!).kind),vI ((l[k]!).copy),vI ((l[k]!).to),vI ((l[k]!).token)] (l[k]!) d2 rfl a6.lt) rfl a6 fun f4 f5 d5 d6 d7 d8=>(?_)))))))))
  obtain ⟨e7,rfl,b6⟩:=d8
  obtain rfl:=b6
  have a0:=a0.mv d6
  have hbx_0_b248:=hbx_0_b248.keep d7 (by simp)
  refine BK (o_updV (enc:=IB) (venc:=vO) (k:=(DH (l[k]!))) (a:=true) U123_ QL rfl rfl rfl hbx_0_b248 rC d5 fun f6 d9 e0 f7 b7=>(?_))
  have a0:=a0.mv e0
  refine AE (AW (AB (AD kR (AC (CE .i64 ((k:Nat):Int) (1:Int) (((k+1:Nat):Int)) rfl rfl (EP oM oM) (AC (AF (vI ((k+1:Nat):Int)) rfl (AE (AB (?_))))))))))
  exact ⟨_,oM,(k+1),(a3 :: a7),oM,(hr0_1.trans (HW oM (by ((repeat ((refine (if_neg ?_).trans ?_;solve|(simp only [dbs];(repeat (omega))))));rfl)))),rfl,⟨_,AL _ ⟨rfl,rfl,rfl,(by rfl),rfl,trivial⟩⟩,d9,a0,(by rw [show IE l (k+1)=upM (IE l k) (DH (l[k]!)) true from rfl];exact b7),(by (repeat (first|assumption|apply List.mem_cons_of_mem)))⟩
 have e8:(l.length:Int)≤((k:Nat):Int):=by simpa using a4
 refine EF (CG (CG (DJ (AB (AG (AD kR (AC (AH (vO true) rfl (AE (AB (AS (AZ rfl (CX rfl rfl rfl) (?_)))))))))))))
 have e:(CO l)=true:=by (rw [hr0_1];exact KA oM)
 exact ⟨_,rfl,b8.keep,(by exact congrArg vO e.symm)⟩
open Go.Fw Go.RowKit
set_option maxHeartbeats 4000000 in
set_option maxRecDepth 100000 in
theorem IV {O:List Nat} (l_v:Value) (l:List DeviceOp) (w:World) (a0:CI Enc.devop w O l_v l) (hO:∀ b∈O,b<w.heap.size):CF Try.prog 29 [l_v] w (fun v _=>v=vI (BR l)):= by
 have g2:=a0.len_le
 have a0:CI Enc.devop w ([]++O) l_v l:=a0
 have s0:St w O w []:=St.start hO
 refine BS 38 Try.func29 rfl rfl oT (fun F0=>AG (AD kR (AC (AH (vI 0) rfl (AE (AB (AG (AG (AD kR (AC (AF (l_v) rfl (AC (DS U26_ rfl a0 (AC (IF .i64 (l.length:Int) (256:Int) rfl rfl (AC (AF (vO (decide ((256:Int)<(l.length:Int)))) rfl (?_))))))))))))))))))
 cases b7:(decide ((256:Int)<(l.length:Int)))
 ·have g3:(l.length:Int)≤(256:Int):=by simpa using b7
  refine BH rfl (AF (l_v) rfl (BH rfl (BI (vs:=[l_v]) enter_70 (OX (O:=[]++O) l_v l w a0 s0.lt) rfl s0 fun h7 h8 b9 d4 h9 d5=>(?_))))
  obtain rfl:=d5
  have a0:=a0.mv d4
  refine BH rfl (EI (CO l) rfl (AC (BM (vO (!(CO l))) rfl rfl (AE (AB (AK (!(CO l)) rfl rfl (fun b2=>?_) (fun b2=>?_)))))))
  ·have g4:(CO l)=false:=by simpa using b2
   refine AG (AD kR (AC (AH (vI 420) rfl (AE (AB (AS (AN (AZ rfl (CX rfl rfl rfl) (?_)))))))))
   have e:(BR l)=(420:Int):=by (unfold BR;((repeat ((refine (if_pos ?_).trans ?_;solve|(simp only [GU,dbs];(repeat ((right;omega)))))));rfl))
   exact ⟨_,rfl,b9.keep,by rw [e];exact rfl⟩
  have g5:(CO l)=true:=by simpa using b2
  refine AT (AB (AG (AG (AD kR (AC (AF (l_v) rfl (AC (DS U26_ rfl a0 (AC (AF (vI 0) rfl (AE (AB (BN (ED (fun mI FI wI=>∃ (k:Nat) (B:List Nat),k≤l.length∧BR l=GY (fun k=>if GU l k then some 420 else none) 0 k (l.length - k)∧mI=l.length - k∧(∃ F1,FI=GM F1 [(0,l_v),(13,l_v),(14,vI (l.length:Int)),(15,vI ((k:Nat):Int)),(38,undef)])∧St w O wI B∧CI Enc.devop wI (B++O) (l_v) (l)) (l.length - (0)) ?_ ?_))))))))))))))
  ·exact ⟨(0),[],oM,(by unfold BR;((repeat ((refine (if_neg ?_).trans ?_;solve|(simp only [GU,dbs];(repeat (first|omega|assumption|(right;first|omega|assumption|(constructor <;> first|omega|assumption))|left)))|(rw [Bool.not_eq_true];simp only [GU,dbs];((repeat' apply And.intro) <;> omega)))));rfl)),rfl,⟨_,AL _ ⟨rfl,rfl,rfl,(by rfl),rfl,trivial⟩⟩,b9,a0⟩
  intro k5 F k6 hI
  clear a0
  obtain ⟨k,a3,hr0_0,hr0_1,k7,⟨k8,rfl⟩,d3,a0⟩:=hI
  refine AG (AD kR (AC (DR .i64 ((k:Nat):Int) (l.length:Int) rfl rfl (AE (AB (AG (AK (decide (((k:Nat):Int)<(l.length:Int))) rfl rfl (fun b3=>?_) (fun b3=>?_))))))))
  ·have g6:((k:Nat):Int)<(l.length:Int):=by simpa using b3
   refine AT (AB (AG (BN (AG (AD kR (AC (AF (vI ((k:Nat):Int)) rfl (AC (BZ U26_ BX .i64 ((k:Nat):Int) k rfl rfl rfl a0 oM fun i0 c7=>(AC (BT U40_ rfl BX rfl c7 fun g7 c8=>(?_))))))))))))
   obtain rfl:=c8
   refine AC (CC [vI 0,vI 0,vI 0,vI 0,vI 0,vI 0] HC rfl d3 fun a1 i1 d6 d7 d8 i2 c9=>(?_))
   clear d6
   have a0:=a0.mv d8
   refine AC (AH (vI ((k:Nat):Int)) rfl (BK (AU (vs:=[vI ((l[k]!).device),vI ((l[k]!).no),vI ((l[k]!).kind),vI ((l[k]!).copy),vI ((l[k]!).to),vI ((l[k]!).token)]) (.agg #[vI ((l[k]!).device),vI ((l[k]!).no),vI ((l[k]!).kind),vI ((l[k]!).copy),vI ((l[k]!).to),vI ((l[k]!).token)]) rfl rfl rfl BX (fun u hu=>by simp only [List.mem_cons,List.not_mem_nil,or_false] at hu;rcases hu with rfl|rfl|rfl|rfl|rfl|rfl <;> rfl) (by repeat (constructor)) c9 oT d7 fun a4 b0 d9 i3 a2=>(?_))))
   have a0:=a0.mv d9
   refine AE (AB (AG (?_)))
   cases a8:(!(BV (l[k]!)))
   ·have g8:(BV (l[k]!))=true:=by simpa using a8
    cases b1:(decide ((0:Int)<((k:Nat):Int)))
    ·have g9:((k:Nat):Int)≤(0:Int):=by simpa using b1
     refine cw_draw' 13 _ _ [EK (vA #[vI ((l[k]!).device),vI ((l[k]!).no),vI ((l[k]!).kind),vI ((l[k]!).copy),vI ((l[k]!).to),vI ((l[k]!).token)]),EK (vO (BV (l[k]!))),EK (vO false),EK (vO false),EK (vI ((k:Nat):Int)),EK (vO false),EK (vO false),EK undef,EK undef,EK undef,EK undef,EK undef,EK undef] kR kR kR kR rfl rfl ⟨kI,kI,kI,kI,kI,kI,kI,kI,kI,kI,kI,kI,kI,trivial⟩ ⟨?_,?_,?_,?_,?_,?_,?_,?_,?_,?_,?_,?_,?_,trivial⟩ ?_
     ·intro F1 w1 k1 hf hd
      have k0:=(Keep.drew [] a4).trans k1
      have a2:=a2.keep k0 (by simp)
      obtain ⟨F2,rfl⟩:=AY (F:=F1) [(4,vP (some ⟨a1,0,none⟩))] ⟨hf 4 kR,trivial⟩
      exact BB rfl ((AQ (vs:=[vI ((l[k]!).device),vI ((l[k]!).no),vI ((l[k]!).kind),vI ((l[k]!).copy),vI ((l[k]!).to),vI ((l[k]!).token)]) U40_ rfl BX rfl a2 rfl (⟨(Keep.refl _ _),rfl⟩)))
     ·intro F1 w1 k1 hf hd
      have k0:=(Keep.drew [] a4).trans k1
      have s1:=b0.call k0
      obtain ⟨F2,rfl⟩:=AY (F:=F1) [(20,vA #[vI ((l[k]!).device),vI ((l[k]!).no),vI ((l[k]!).kind),vI ((l[k]!).copy),vI ((l[k]!).to),vI ((l[k]!).token)])] ⟨hd 0 20 kR,trivial⟩
      refine BB rfl ((BI (vs:=[vA #[vI ((l[k]!).device),vI ((l[k]!).no),vI ((l[k]!).kind),vI ((l[k]!).copy),vI ((l[k]!).to),vI ((l[k]!).token)]]) MK (OI (O:=(a1 :: a3)++O) [vI ((l[k]!).device),vI ((l[k]!).no),vI ((l[k]!).kind),vI ((l[k]!).copy),vI ((l[k]!).to),vI ((l[k]!).token)] (l[k]!) w1 rfl s1.lt) rfl s1 fun i4 i5 i6 i7 e0 e1=>(?_)))
      obtain rfl:=e1
      exact ⟨e0,rfl⟩
     ·intro F1 w1 k1 hf hd
      obtain ⟨F2,rfl⟩:=AY (F:=F1) [(21,vO (BV (l[k]!)))] ⟨hd 1 21 kR,trivial⟩
      refine BB rfl ((EI (BV (l[k]!)) rfl (?_)))
      exact ⟨(Keep.refl _ _),congrArg vO (a8)⟩
     ·intro F1 w1 k1 hf hd
      obtain ⟨F2,rfl⟩:=AY (F:=F1) [(22,vO false)] ⟨hd 2 22 kR,trivial⟩
      exact BB rfl ((AF (vO false) rfl (⟨(Keep.refl _ _),rfl⟩)))
     ·intro F1 w1 k1 hf hd
      obtain ⟨F2,rfl⟩:=AY (F:=F1) [(3,vI ((k:Nat):Int)),(23,vO false)] ⟨hf 3 kR,hd 3 23 kR,trivial⟩
      exact DV rfl rfl ((AF (vI ((k:Nat):Int)) rfl (⟨(Keep.refl _ _),rfl⟩)))
     ·intro F1 w1 k1 hf hd
      obtain ⟨F2,rfl⟩:=AY (F:=F1) [(23,vO false),(24,vI ((k:Nat):Int))] ⟨hd 3 23 kR,hd 4 24 kR,trivial⟩
      refine DV rfl rfl ((IF .i64 ((k:Nat):Int) (0:Int) rfl rfl (?_)))
      exact ⟨(Keep.refl _ _),congrArg vO (b1)⟩
     ·intro F1 w1 k1 hf hd
      obtain ⟨F2,rfl⟩:=AY (F:=F1) [(23,vO false),(25,vO false)] ⟨hd 3 23 kR,hd 5 25 kR,trivial⟩
      exact DV rfl rfl ((AF (vO false) rfl (⟨(Keep.refl _ _),rfl⟩)))
     ·intro F1 w1 k1 hf hd
      exact DT rfl rfl (hd 6 26 kR) rfl rfl
     ·intro F1 w1 k1 hf hd
      exact DT rfl rfl (hd 6 26 kR) rfl rfl
     ·intro F1 w1 k1 hf hd
      exact DT rfl rfl (hd 6 26 kR) rfl rfl
     ·intro F1 w1 k1 hf hd
      exact DT rfl rfl (hd 6 26 kR) rfl rfl
     ·intro F1 w1 k1 hf hd
      exact DT rfl rfl (hd 6 26 kR) rfl rfl
     ·intro F1 w1 k1 hf hd
      exact DT rfl rfl (hd 6 26 kR) rfl rfl
     intro e2 e3 c2 b4 a5
     have e4:=b0.call c2
     have e5:Mv (a1 :: a3) a4 (a1 :: a3) e3:=Mv.of_keep c2
     have a0:=a0.mv e5
     obtain ⟨F2,rfl⟩:=AY (F:=e2) [(0,l_v),(13,l_v),(14,vI (l.length:Int)),(15,vI ((k:Nat):Int)),(38,undef),(23,vO false),(26,vO false)] ⟨a5 0 kR,a5 13 kR,a5 14 kR,a5 15 kR,a5 38 kR,b4 3 23 kR (by decide),b4 6 26 kR (by decide),trivial⟩
     clear b4 a5
     refine AX rfl (AX rfl (BH rfl (BM (vO false) rfl rfl (AC (BM (vO false) rfl rfl (AE (AB (AK false rfl rfl (fun h=>by cases h) (fun _=>AT (AW (AB (AD kR (AC (CE .i64 ((k:Nat):Int) (1:Int) (((k+1:Nat):Int)) rfl rfl (EP oM oM) (AC (AF (vI ((k+1:Nat):Int)) rfl (AE (AB (?_)))))))))))))))))))
     exact ⟨_,oM,(k+1),(a1 :: a3),oM,(hr0_1.trans (HW oM (by ((repeat ((refine (if_neg ?_).trans ?_;solve|(simp only [GU,dbs];(repeat (first|omega|assumption|(right;first|omega|assumption|(constructor <;> first|omega|assumption))|left)))|(rw [Bool.not_eq_true];simp only [GU,dbs];((repeat' apply And.intro) <;> omega)))));rfl)))),rfl,⟨_,AL _ ⟨rfl,rfl,rfl,(by rfl),rfl,trivial⟩⟩,e4,a0⟩
    have h0:(0:Int)<((k:Nat):Int):=by simpa using b1
    refine cw_draw' 13 _ _ [EK (vA #[vI ((l[k]!).device),vI ((l[k]!).no),vI ((l[k]!).kind),vI ((l[k]!).copy),vI ((l[k]!).to),vI ((l[k]!).token)]),EK (vO (BV (l[k]!))),EK (vO false),EK (vO false),EK (vI ((k:Nat):Int)),EK (vO true),EK (vO true),fun (vT:Value) (wT:World)=>CI Enc.devop wT ((a1 :: a3)++O) vT (l),EK (vI ((k:Nat):Int)),EK (vI ((k - 1:Nat):Int)),fun (vT:Value) (wT:World)=>∃ aT,vT = .pointer (some aT)∧PT Enc.devop wT ((a1 :: a3)++O) (.pointer (some aT)) (l[k - 1]!),EK (vA #[vI ((l[k - 1]!).device),vI ((l[k - 1]!).no),vI ((l[k - 1]!).kind),vI ((l[k - 1]!).copy),vI ((l[k - 1]!).to),vI ((l[k - 1]!).token)]),EK (vA #[vI ((l[k]!).device),vI ((l[k]!).no),vI ((l[k]!).kind),vI ((l[k]!).copy),vI ((l[k]!).to),vI ((l[k]!).token)])] kR kR kR kR rfl rfl ⟨kI,kI,kI,kI,kI,kI,kI,fun _ _ _ h k=>h.mv (Mv.of_keep k),kI,kI,fun _ _ _ ⟨a,e,h⟩ k=>⟨a,e,h.mv (Mv.of_keep k)⟩,kI,kI,trivial⟩ ⟨?_,?_,?_,?_,?_,?_,?_,?_,?_,?_,?_,?_,?_,trivial⟩ ?_
    ·intro F1 w1 k1 hf hd
     have k0:=(Keep.drew [] a4).trans k1
     have a2:=a2.keep k0 (by simp)
     obtain ⟨F2,rfl⟩:=AY (F:=F1) [(4,vP (some ⟨a1,0,none⟩))] ⟨hf 4 kR,trivial⟩
     exact BB rfl ((AQ (vs:=[vI ((l[k]!).device),vI ((l[k]!).no),vI ((l[k]!).kind),vI ((l[k]!).copy),vI ((l[k]!).to),vI ((l[k]!).token)]) U40_ rfl BX rfl a2 rfl (⟨(Keep.refl _ _),rfl⟩)))
    ·intro F1 w1 k1 hf hd
     have k0:=(Keep.drew [] a4).trans k1
     have s1:=b0.call k0
     obtain ⟨F2,rfl⟩:=AY (F:=F1) [(20,vA #[vI ((l[k]!).device),vI ((l[k]!).no),vI ((l[k]!).kind),vI ((l[k]!).copy),vI ((l[k]!).to),vI ((l[k]!).token)])] ⟨hd 0 20 kR,trivial⟩
     refine BB rfl ((BI (vs:=[vA #[vI ((l[k]!).device),vI ((l[k]!).no),vI ((l[k]!).kind),vI ((l[k]!).copy),vI ((l[k]!).to),vI ((l[k]!).token)]]) MK (OI (O:=(a1 :: a3)++O) [vI ((l[k]!).device),vI ((l[k]!).no),vI ((l[k]!).kind),vI ((l[k]!).copy),vI ((l[k]!).to),vI ((l[k]!).token)] (l[k]!) w1 rfl s1.lt) rfl s1 fun i8 i9 j0 j1 e6 e7=>(?_)))
     obtain rfl:=e7
     exact ⟨e6,rfl⟩
    ·intro F1 w1 k1 hf hd
     obtain ⟨F2,rfl⟩:=AY (F:=F1) [(21,vO (BV (l[k]!)))] ⟨hd 1 21 kR,trivial⟩
     refine BB rfl ((EI (BV (l[k]!)) rfl (?_)))
     exact ⟨(Keep.refl _ _),congrArg vO (a8)⟩
    ·intro F1 w1 k1 hf hd
     obtain ⟨F2,rfl⟩:=AY (F:=F1) [(22,vO false)] ⟨hd 2 22 kR,trivial⟩
     exact BB rfl ((AF (vO false) rfl (⟨(Keep.refl _ _),rfl⟩)))
    ·intro F1 w1 k1 hf hd
     obtain ⟨F2,rfl⟩:=AY (F:=F1) [(3,vI ((k:Nat):Int)),(23,vO false)] ⟨hf 3 kR,hd 3 23 kR,trivial⟩
     exact DV rfl rfl ((AF (vI ((k:Nat):Int)) rfl (⟨(Keep.refl _ _),rfl⟩)))
    ·intro F1 w1 k1 hf hd
     obtain ⟨F2,rfl⟩:=AY (F:=F1) [(23,vO false),(24,vI ((k:Nat):Int))] ⟨hd 3 23 kR,hd 4 24 kR,trivial⟩
     refine DV rfl rfl ((IF .i64 ((k:Nat):Int) (0:Int) rfl rfl (?_)))
     exact ⟨(Keep.refl _ _),congrArg vO (b1)⟩
    ·intro F1 w1 k1 hf hd
     obtain ⟨F2,rfl⟩:=AY (F:=F1) [(23,vO false),(25,vO true)] ⟨hd 3 23 kR,hd 5 25 kR,trivial⟩
     exact DV rfl rfl ((AF (vO true) rfl (⟨(Keep.refl _ _),rfl⟩)))
    ·intro F1 w1 k1 hf hd
     have k0:=(Keep.drew [] a4).trans k1
     have m1:Mv (a1 :: a3) a4 (a1 :: a3) w1:=Mv.of_keep k0
     have a0:=a0.mv m1
     obtain ⟨F2,rfl⟩:=AY (F:=F1) [(0,l_v),(26,vO true)] ⟨hf 0 kR,hd 6 26 kR,trivial⟩
     exact DV rfl rfl ((AF (l_v) rfl (⟨(Keep.refl _ _),a0⟩)))
    ·intro F1 w1 k1 hf hd
     obtain ⟨F2,rfl⟩:=AY (F:=F1) [(3,vI ((k:Nat):Int)),(26,vO true)] ⟨hf 3 kR,hd 6 26 kR,trivial⟩
     exact DV rfl rfl ((AF (vI ((k:Nat):Int)) rfl (⟨(Keep.refl _ _),rfl⟩)))
    ·intro F1 w1 k1 hf hd
     obtain ⟨F2,rfl⟩:=AY (F:=F1) [(26,vO true),(28,vI ((k:Nat):Int))] ⟨hd 6 26 kR,hd 8 28 kR,trivial⟩
     exact DV rfl rfl ((o_sub .i64 ((k:Nat):Int) (1:Int) (((k - 1:Nat):Int)) rfl rfl (EP oM oM) (⟨(Keep.refl _ _),rfl⟩)))
    ·intro F1 w1 k1 hf hd
     obtain ⟨e8,e9,b8⟩:∃ v,F1 27=v∧CI Enc.devop w1 ((a1 :: a3)++O) v (l):=⟨_,rfl,hd 7 27 kR⟩
     have:=b8.len_le
     obtain ⟨F2,rfl⟩:=AY (F:=F1) [(26,vO true),(27,e8),(29,vI ((k - 1:Nat):Int))] ⟨hd 6 26 kR,e9,hd 9 29 kR,trivial⟩
     exact DV rfl rfl ((BZ U26_ BX .i64 ((k - 1:Nat):Int) (k - 1) rfl rfl rfl b8 oM fun f0 d0=>(⟨(Keep.refl _ _),⟨f0,rfl,d0⟩⟩)))
    ·intro F1 w1 k1 hf hd
     obtain ⟨f1,f2,d1⟩:∃ aX_,F1 30 = .pointer (some aX_)∧PT Enc.devop w1 ((a1 :: a3)++O) (.pointer (some aX_)) (l[k - 1]!):=hd 10 30 kR
     obtain ⟨F2,rfl⟩:=AY (F:=F1) [(26,vO true),(30,vP (some f1))] ⟨hd 6 26 kR,f2,trivial⟩
     refine DV rfl rfl ((BT U40_ rfl BX rfl d1 fun h1 d2=>(?_)))
     obtain rfl:=d2
     exact ⟨(Keep.refl _ _),rfl⟩
    ·intro F1 w1 k1 hf hd
     have k0:=(Keep.drew [] a4).trans k1
     have a2:=a2.keep k0 (by simp)
     obtain ⟨F2,rfl⟩:=AY (F:=F1) [(4,vP (some ⟨a1,0,none⟩)),(26,vO true)] ⟨hf 4 kR,hd 6 26 kR,trivial⟩
     exact DV rfl rfl ((AQ (vs:=[vI ((l[k]!).device),vI ((l[k]!).no),vI ((l[k]!).kind),vI ((l[k]!).copy),vI ((l[k]!).to),vI ((l[k]!).token)]) U40_ rfl BX rfl a2 rfl (⟨(Keep.refl _ _),rfl⟩)))
    intro f3 c3 c4 a9 a6
    have c5:=b0.call c4
    have f4:Mv (a1 :: a3) a4 (a1 :: a3) c3:=Mv.of_keep c4
    have a0:=a0.mv f4
    obtain ⟨F2,rfl⟩:=AY (F:=f3) [(0,l_v),(13,l_v),(14,vI (l.length:Int)),(15,vI ((k:Nat):Int)),(38,undef),(23,vO false),(26,vO true),(31,vA #[vI ((l[k - 1]!).device),vI ((l[k - 1]!).no),vI ((l[k - 1]!).kind),vI ((l[k - 1]!).copy),vI ((l[k - 1]!).to),vI ((l[k - 1]!).token)]),(32,vA #[vI ((l[k]!).device),vI ((l[k]!).no),vI ((l[k]!).kind),vI ((l[k]!).copy),vI ((l[k]!).to),vI ((l[k]!).token)])] ⟨a6 0 kR,a6 13 kR,a6 14 kR,a6 15 kR,a6 38 kR,a9 3 23 kR (by decide),a9 6 26 kR (by decide),a9 11 31 kR (by decide),a9 12 32 kR (by decide),trivial⟩
    clear a9 a6
    refine BH rfl (BI (vs:=[vA #[vI ((l[k - 1]!).device),vI ((l[k - 1]!).no),vI ((l[k - 1]!).kind),vI ((l[k - 1]!).copy),vI ((l[k - 1]!).to),vI ((l[k - 1]!).token)],vA #[vI ((l[k]!).device),vI ((l[k]!).no),vI ((l[k]!).kind),vI ((l[k]!).copy),vI ((l[k]!).to),vI ((l[k]!).token)]]) OW (NG (O:=(a1 :: a3)++O) [vI ((l[k - 1]!).device),vI ((l[k - 1]!).no),vI ((l[k - 1]!).kind),vI ((l[k - 1]!).copy),vI ((l[k - 1]!).to),vI ((l[k - 1]!).token)] (l[k - 1]!) [vI ((l[k]!).device),vI ((l[k]!).no),vI ((l[k]!).kind),vI ((l[k]!).copy),vI ((l[k]!).to),vI ((l[k]!).token)] (l[k]!) c3 rfl rfl c5.lt) rfl c5 fun j2 j3 c6 f5 j4 f6=>(?_))
    obtain rfl:=f6
    have a0:=a0.mv f5
    refine BH rfl (JS .i64 (DE (l[k - 1]!) (l[k]!)) (0:Int) rfl rfl (BH rfl (BA (vO (decide ((0:Int)≤DE (l[k - 1]!) (l[k]!)))) rfl rfl (AC (BM (vO (decide ((0:Int)≤DE (l[k - 1]!) (l[k]!)))) rfl rfl (AE (AB (AK (decide ((0:Int)≤DE (l[k - 1]!) (l[k]!))) rfl rfl (fun b5=>?_) (fun b5=>?_)))))))))
    ·have h2:(0:Int)≤DE (l[k - 1]!) (l[k]!):=by simpa using b5
     refine AG (AD kR (AC (AH (vI 420) rfl (AE (AB (AS (BC (AN (AN (BC (AN (AZ rfl (CX rfl rfl rfl) (?_)))))))))))))
     have e:(BR l)=(420:Int):=by (rw [hr0_1];exact HX oM (by ((repeat ((refine (if_pos ?_).trans ?_;solve|(simp only [GU,dbs];(repeat (omega))))));rfl)))
     exact ⟨_,rfl,c6.keep,by rw [e];exact rfl⟩
    have h3:DE (l[k - 1]!) (l[k]!)<(0:Int):=by simpa using b5
    refine AT (AW (AB (AD kR (AC (CE .i64 ((k:Nat):Int) (1:Int) (((k+1:Nat):Int)) rfl rfl (EP oM oM) (AC (AF (vI ((k+1:Nat):Int)) rfl (AE (AB (?_))))))))))
    exact ⟨_,oM,(k+1),(a1 :: a3),oM,(hr0_1.trans (HW oM (by ((repeat ((refine (if_neg ?_).trans ?_;solve|(simp only [GU,dbs];(repeat (first|omega|assumption|(right;first|omega|assumption|(constructor <;> first|omega|assumption))|left)))|(rw [Bool.not_eq_true];simp only [GU,dbs];((repeat' apply And.intro) <;> omega)))));rfl)))),rfl,⟨_,AL _ ⟨rfl,rfl,rfl,(by rfl),rfl,trivial⟩⟩,c6,a0⟩
   have h4:(BV (l[k]!))=false:=by simpa using a8
   refine cw_draw' 13 _ _ [EK (vA #[vI ((l[k]!).device),vI ((l[k]!).no),vI ((l[k]!).kind),vI ((l[k]!).copy),vI ((l[k]!).to),vI ((l[k]!).token)]),EK (vO (BV (l[k]!))),EK (vO true),EK (vO true),EK undef,EK undef,EK undef,EK undef,EK undef,EK undef,EK undef,EK undef,EK undef] kR kR kR kR rfl rfl ⟨kI,kI,kI,kI,kI,kI,kI,kI,kI,kI,kI,kI,kI,trivial⟩ ⟨?_,?_,?_,?_,?_,?_,?_,?_,?_,?_,?_,?_,?_,trivial⟩ ?_
   ·intro F1 w1 k1 hf hd
    have k0:=(Keep.drew [] a4).trans k1
    have a2:=a2.keep k0 (by simp)
    obtain ⟨F2,rfl⟩:=AY (F:=F1) [(4,vP (some ⟨a1,0,none⟩))] ⟨hf 4 kR,trivial⟩
    exact BB rfl ((AQ (vs:=[vI ((l[k]!).device),vI ((l[k]!).no),vI ((l[k]!).kind),vI ((l[k]!).copy),vI ((l[k]!).to),vI ((l[k]!).token)]) U40_ rfl BX rfl a2 rfl (⟨(Keep.refl _ _),rfl⟩)))
   ·intro F1 w1 k1 hf hd
    have k0:=(Keep.drew [] a4).trans k1
    have s1:=b0.call k0
    obtain ⟨F2,rfl⟩:=AY (F:=F1) [(20,vA #[vI ((l[k]!).device),vI ((l[k]!).no),vI ((l[k]!).kind),vI ((l[k]!).copy),vI ((l[k]!).to),vI ((l[k]!).token)])] ⟨hd 0 20 kR,trivial⟩
    refine BB rfl ((BI (vs:=[vA #[vI ((l[k]!).device),vI ((l[k]!).no),vI ((l[k]!).kind),vI ((l[k]!).copy),vI ((l[k]!).to),vI ((l[k]!).token)]]) MK (OI (O:=(a1 :: a3)++O) [vI ((l[k]!).device),vI ((l[k]!).no),vI ((l[k]!).kind),vI ((l[k]!).copy),vI ((l[k]!).to),vI ((l[k]!).token)] (l[k]!) w1 rfl s1.lt) rfl s1 fun j5 j6 j7 j8 f7 f8=>(?_)))
    obtain rfl:=f8
    exact ⟨f7,rfl⟩
   ·intro F1 w1 k1 hf hd
    obtain ⟨F2,rfl⟩:=AY (F:=F1) [(21,vO (BV (l[k]!)))] ⟨hd 1 21 kR,trivial⟩
    refine BB rfl ((EI (BV (l[k]!)) rfl (?_)))
    exact ⟨(Keep.refl _ _),congrArg vO (a8)⟩
   ·intro F1 w1 k1 hf hd
    obtain ⟨F2,rfl⟩:=AY (F:=F1) [(22,vO true)] ⟨hd 2 22 kR,trivial⟩
    exact BB rfl ((AF (vO true) rfl (⟨(Keep.refl _ _),rfl⟩)))
   ·intro F1 w1 k1 hf hd
    exact DT rfl rfl (hd 3 23 kR) rfl rfl
   ·intro F1 w1 k1 hf hd
    exact DT rfl rfl (hd 3 23 kR) rfl rfl
   ·intro F1 w1 k1 hf hd
    exact DT rfl rfl (hd 3 23 kR) rfl rfl
   ·intro F1 w1 k1 hf hd
    exact IA rfl rfl (hd 6 26 kR) rfl
   ·intro F1 w1 k1 hf hd
    exact IA rfl rfl (hd 6 26 kR) rfl
   ·intro F1 w1 k1 hf hd
    exact IA rfl rfl (hd 6 26 kR) rfl
   ·intro F1 w1 k1 hf hd
    exact IA rfl rfl (hd 6 26 kR) rfl
   ·intro F1 w1 k1 hf hd
    exact IA rfl rfl (hd 6 26 kR) rfl
   ·intro F1 w1 k1 hf hd
    exact IA rfl rfl (hd 6 26 kR) rfl
   intro f9 j9 g0 b6 a7
   have g1:=b0.call g0
   obtain ⟨F2,rfl⟩:=AY (F:=f9) [(0,l_v),(13,l_v),(14,vI (l.length:Int)),(15,vI ((k:Nat):Int)),(38,undef),(23,vO true),(26,undef)] ⟨a7 0 kR,a7 13 kR,a7 14 kR,a7 15 kR,a7 38 kR,b6 3 23 kR (by decide),b6 6 26 kR (by decide),trivial⟩
   clear b6 a7
   refine wl_u rfl (wl_u rfl (AX rfl (AC (BA (vO true) rfl rfl (AE (AB (AK true rfl rfl (fun _=>AG (AD kR (AC (AH (vI 420) rfl (AE (AB (AS (BC (AN (AN (BC (AN (AZ rfl (CX rfl rfl rfl) (?_)))))))))))))) (fun h=>by cases h))))))))
   have e:(BR l)=(420:Int):=by (rw [hr0_1];exact HX oM (by ((repeat ((refine (if_pos ?_).trans ?_;solve|(simp only [GU,dbs];(repeat (first|omega|left))))));rfl)))
   exact ⟨_,rfl,g1.keep,by rw [e];exact rfl⟩
  have h5:(l.length:Int)≤((k:Nat):Int):=by simpa using b3
  refine EF (CG (CG (DJ (AB (AG (AD kR (AC (AH (vI 0) rfl (AE (AB (AS (AZ rfl (CX rfl rfl rfl) (?_)))))))))))))
  have e:(BR l)=(0:Int):=by (rw [hr0_1];exact KA oM)
  exact ⟨_,rfl,d3.keep,by rw [e];exact rfl⟩
 have h6:(256:Int)<(l.length:Int):=by simpa using b7
 refine AX rfl (AX rfl (AX rfl (AC (BA (vO true) rfl rfl (AE (AB (AK true rfl rfl (fun _=>AG (AD kR (AC (AH (vI 420) rfl (AE (AB (AS (AN (AZ rfl (CX rfl rfl rfl) (?_)))))))))) (fun h=>by cases h))))))))
 have e:(BR l)=(420:Int):=by (unfold BR;((repeat ((refine (if_pos ?_).trans ?_;solve|(simp only [GU,dbs];(repeat (omega))))));rfl))
 exact ⟨_,rfl,s0.keep,by rw [e];exact rfl⟩
open Go.Fw Go.RowKit
set_option maxHeartbeats 4000000 in
set_option maxRecDepth 100000 in
theorem c_idxD {O:List Nat} (l_v:Value) (l:List DeviceOp) (o_cs:List Value) (o:DeviceOp) (w:World) (a0:CI Enc.devop w O l_v l) (b6:Enc.devop.rd w O o_cs o) (hO:∀ b∈O,b<w.heap.size):CF Try.prog 88 [l_v, .agg o_cs.toArray] w (fun v _=>v=vI (idxD l o)):= by
 have b8:=a0.len_le
 have a0:CI Enc.devop w ([]++O) l_v l:=a0
 obtain rfl:=b6
 have s0:St w O w []:=St.start hO
 refine BS 19 Try.func88 rfl rfl oT (fun F0=>AG (AD kR (AC (DG (E:=Enc.devop) (vA #[vI o.device,vI o.no,vI o.kind,vI o.copy,vI o.to,vI o.token]) ([vI o.device,vI o.no,vI o.kind,vI o.copy,vI o.to,vI o.token]) o rfl rfl rfl s0 fun a4 c7 b3 b4 c8 a1=>(?_)))))
 have a0:=a0.mv b4
 refine AC (AH (vI 0) rfl (AE (AB (AG (AG (AD kR (AC (AF (l_v) rfl (AC (DS U26_ rfl a0 (AC (AF (vI 0) rfl (AE (AB (BN (ED (fun mI FI wI=>∃ (k:Nat) (B:List Nat),k≤l.length∧idxD l o=GY (fun k=>if o == l[k]! then some (k:Int) else none) (-1) k (l.length - k)∧mI=l.length - k∧(∃ F1,FI=GM F1 [(0,l_v),(3,vP (some a4)),(7,vI (l.length:Int)),(8,vI ((k:Nat):Int)),(19,undef)])∧St w O wI B∧CI Enc.devop wI (B++O) (l_v) (l)∧PT Enc.devop wI (B++O) (.pointer (some a4)) (o)) (l.length - (0)) ?_ ?_))))))))))))))))
 ·exact ⟨(0),[],oM,rfl,rfl,⟨_,AL _ ⟨rfl,rfl,rfl,(by rfl),rfl,trivial⟩⟩,b3,a0,a1⟩
 intro d0 F b7 hI
 clear a0 a1
 obtain ⟨k,a5,hr0_0,hr0_1,d1,⟨d2,rfl⟩,b2,a0,a1⟩:=hI
 refine AG (AD kR (AC (DR .i64 ((k:Nat):Int) (l.length:Int) rfl rfl (AE (AB (AG (AK (decide (((k:Nat):Int)<(l.length:Int))) rfl rfl (fun a2=>?_) (fun a2=>?_))))))))
 ·have b9:((k:Nat):Int)<(l.length:Int):=by simpa using a2
  refine AT (AB (AG (BN (AG (AD kR (AC (AF (vI ((k:Nat):Int)) rfl (AC (AH (vI ((k:Nat):Int)) rfl (AE (AB (AG (FV 6 _ _ kR kR kR kR kR rfl rfl fun b5 a6=>?_)))))))))))))
  have a7:=b2.call a6
  have a8:Mv a5 b7 a5 b5:=Mv.of_keep a6
  have a0:=a0.mv a8
  have a1:=a1.mv a8
  refine CA (BT U40_ rfl BX rfl a1 fun c2 a9=>(?_))
  obtain rfl:=a9
  refine CA (AF (l_v) rfl (CA (AF (vI ((k:Nat):Int)) rfl (CA (BZ U26_ BX .i64 ((k:Nat):Int) k rfl rfl rfl a0 oM fun c9 b0=>(CA (BT U40_ rfl BX rfl b0 fun c3 b1=>(?_))))))))
  obtain rfl:=b1
  refine CA (o_eqlF (ks:=[true,true,true,true,true,true]) [.inl o.device, .inl o.no, .inl o.kind, .inl o.copy, .inl o.to, .inl o.token] [.inl ((l[k]!).device), .inl ((l[k]!).no), .inl ((l[k]!).kind), .inl ((l[k]!).copy), .inl ((l[k]!).to), .inl ((l[k]!).token)] str_devop flat_devop rfl rfl rfl rfl (cs_devop o (l[k]!)) (HN (AE (AB (AK (o == (l[k]!)) rfl rfl (fun a3=>?_) (fun a3=>?_))))))
  ·have c4:o=(l[k]!):=by simpa using a3
   refine AG (AD kR (AC (AF (vI ((k:Nat):Int)) rfl (AC (AH (vI ((k:Nat):Int)) rfl (AE (AB (AS (BC (AN (AN (BC (AN (AZ rfl (CX rfl rfl rfl) (?_)))))))))))))))
   have e:(idxD l o)=((k:Nat):Int):=by (rw [hr0_1];exact HX oM (by ((repeat ((refine (if_pos ?_).trans ?_;omega)));rfl)))
   exact ⟨_,rfl,a7.keep,by rw [e];exact rfl⟩
  have c5:o≠(l[k]!):=by simpa using a3
  refine AT (AW (AB (AD kR (AC (CE .i64 ((k:Nat):Int) (1:Int) (((k+1:Nat):Int)) rfl rfl (EP oM oM) (AC (AF (vI ((k+1:Nat):Int)) rfl (AE (AB (?_))))))))))
  exact ⟨_,oM,(k+1),a5,oM,(hr0_1.trans (HW oM (by ((repeat ((refine (if_neg ?_).trans ?_;solve|(simp only [dbs];(repeat (omega))))));rfl)))),rfl,⟨_,AL _ ⟨rfl,rfl,rfl,(by rfl),rfl,trivial⟩⟩,a7,a0,a1⟩
 have c6:(l.length:Int)≤((k:Nat):Int):=by simpa using a2
 refine EF (CG (CG (DJ (AB (AG (AD kR (AC (AH (vI (-1:Int)) rfl (AE (AB (AS (AZ rfl (CX rfl rfl rfl) (?_)))))))))))))
 have e:(idxD l o)=(-1:Int):=by (rw [hr0_1];exact KA oM)
 exact ⟨_,rfl,b2.keep,by rw [e];exact rfl⟩
set_option maxHeartbeats 4000000 in
set_option maxRecDepth 100000 in
theorem c_containsD {O:List Nat} (l_v:Value) (l:List DeviceOp) (o_cs:List Value) (o:DeviceOp) (w:World) (a0:CI Enc.devop w O l_v l) (a8:Enc.devop.rd w O o_cs o) (hO:∀ b∈O,b<w.heap.size):CF Try.prog 55 [l_v, .agg o_cs.toArray] w (fun v _=>v = .bool (l.contains o)):= by
 have a9:=a0.len_le
 have a0:CI Enc.devop w ([]++O) l_v l:=a0
 obtain rfl:=a8
 have s0:St w O w []:=St.start hO
 refine BS 9 Try.func55 rfl rfl oT (fun F0=>AG (AD kR (AC (DG (E:=Enc.devop) (vA #[vI o.device,vI o.no,vI o.kind,vI o.copy,vI o.to,vI o.token]) ([vI o.device,vI o.no,vI o.kind,vI o.copy,vI o.to,vI o.token]) o rfl rfl rfl s0 fun b1 a4 a1 a5 b2 a2=>(?_)))))
 have a0:=a0.mv a5
 refine AC (AH (vO false) rfl (AE (AB (AG (AD kR (AC (AF (l_v) rfl (AC (BT U40_ rfl BX rfl a2 fun b0 a3=>(?_))))))))))
 obtain rfl:=a3
 refine AC (BI (vs:=[l_v,vA #[vI o.device,vI o.no,vI o.kind,vI o.copy,vI o.to,vI o.token]]) enter_88 (c_idxD (O:=[]++O) l_v l [vI o.device,vI o.no,vI o.kind,vI o.copy,vI o.to,vI o.token] o a4 a0 rfl a1.lt) rfl a1 fun b3 b4 a6 b5 b6 a7=>(?_))
 obtain rfl:=a7
 refine AC (JS .i64 (idxD l o) (0:Int) rfl rfl (AC (AH (vO (decide ((0:Int)≤idxD l o))) rfl (AE (AB (AS (AZ rfl (CX rfl rfl rfl) (?_))))))))
 have e:(l.contains o)=(decide ((0:Int)≤idxD l o)):=by exact (idxD_pos _ _).symm
 exact ⟨_,rfl,a6.keep,(by exact congrArg vO e.symm)⟩
set_option maxHeartbeats 4000000 in
set_option maxRecDepth 100000 in
theorem c_add1 {O:List Nat} (p_cs:List Value) (p:DeviceOp) (o_a:Addr) (o:DeviceOp) (w:World) (c2:Enc.devop.rd w O p_cs p) (a0:PT Enc.devop w O (.pointer (some o_a)) o) (hO:∀ b∈O,b<w.heap.size):CF Try.prog 58 [.agg p_cs.toArray, .pointer (some o_a)] w (fun v _=>v = .bool (DH p == DH o)):= by
 obtain rfl:=c2
 have a0:PT Enc.devop w ([]++O) (.pointer (some o_a)) o:=a0
 have s0:St w O w []:=St.start hO
 refine BS 9 Try.func58 rfl rfl oT (fun F0=>AG (AD kR (AC (DG (E:=Enc.devop) (vA #[vI p.device,vI p.no,vI p.kind,vI p.copy,vI p.to,vI p.token]) ([vI p.device,vI p.no,vI p.kind,vI p.copy,vI p.to,vI p.token]) p rfl rfl rfl s0 fun b1 a1 a5 b2 c7 a2=>(?_)))))
 have a0:=a0.mv b2
 refine AC (AH (vO false) rfl (AE (AB (AG (cw_draw' 3 _ _ [EK (vA #[vI p.device,vI p.no,vI p.kind,vI p.copy,vI p.to,vI p.token]),EK (vA #[vI ((DH p).device),vI ((DH p).no)]),EK (vA #[vI o.device,vI o.no,vI o.kind,vI o.copy,vI o.to,vI o.token])] kR kR kR kR rfl rfl ⟨kI,kI,kI,trivial⟩ ⟨?_,?_,?_,trivial⟩ ?_)))))
 ·intro F1 w1 k1 hf hd
  have k0:=(Keep.drew [] a1).trans k1
  have m1:Mv ([]) a1 ([]) w1:=Mv.of_keep k0
  have a2:=a2.mv m1
  obtain ⟨F2,rfl⟩:=AY (F:=F1) [(2,vP (some b1))] ⟨hf 2 kR,trivial⟩
  refine BB rfl ((BT U40_ rfl BX rfl a2 fun c3 a7=>(?_)))
  obtain rfl:=a7
  exact ⟨(Keep.refl _ _),rfl⟩
 ·intro F1 w1 k1 hf hd
  have k0:=(Keep.drew [] a1).trans k1
  have s1:=a5.call k0
  obtain ⟨F2,rfl⟩:=AY (F:=F1) [(4,vA #[vI p.device,vI p.no,vI p.kind,vI p.copy,vI p.to,vI p.token])] ⟨hd 0 4 kR,trivial⟩
  refine BB rfl ((BI (vs:=[vA #[vI p.device,vI p.no,vI p.kind,vI p.copy,vI p.to,vI p.token]]) MN (JH (O:=[]++O) [vI p.device,vI p.no,vI p.kind,vI p.copy,vI p.to,vI p.token] p w1 rfl s1.lt) rfl s1 fun c8 c9 d0 d1 b3 b4=>(?_)))
  obtain ⟨c4,rfl,a8⟩:=b4
  obtain rfl:=a8
  exact ⟨b3,rfl⟩
 ·intro F1 w1 k1 hf hd
  have k0:=(Keep.drew [] a1).trans k1
  have m1:Mv ([]) a1 ([]) w1:=Mv.of_keep k0
  have a0:=a0.mv m1
  obtain ⟨F2,rfl⟩:=AY (F:=F1) [(1,vP (some o_a))] ⟨hf 1 kR,trivial⟩
  refine BB rfl ((BT U40_ rfl BX rfl a0 fun c5 a9=>(?_)))
  obtain rfl:=a9
  exact ⟨(Keep.refl _ _),rfl⟩
 intro b5 b6 b7 a3 a4
 have a6:=a5.call b7
 obtain ⟨F2,rfl⟩:=AY (F:=b5) [(3,vO false),(9,undef),(5,vA #[vI ((DH p).device),vI ((DH p).no)]),(6,vA #[vI o.device,vI o.no,vI o.kind,vI o.copy,vI o.to,vI o.token])] ⟨a4 3 kR,a4 9 kR,a3 1 5 kR (by decide),a3 2 6 kR (by decide),trivial⟩
 clear a3 a4
 refine AC (BI (vs:=[vA #[vI o.device,vI o.no,vI o.kind,vI o.copy,vI o.to,vI o.token]]) MN (JH (O:=[]++O) [vI o.device,vI o.no,vI o.kind,vI o.copy,vI o.to,vI o.token] o b6 rfl a6.lt) rfl a6 fun d2 d3 b8 d4 d5 b9=>(?_))
 obtain ⟨c6,rfl,b0⟩:=b9
 obtain rfl:=b0
 refine AC (o_eqlF (ks:=[true,true]) [.inl ((DH p).device), .inl ((DH p).no)] [.inl ((DH o).device), .inl ((DH o).no)] QJ OY rfl rfl rfl rfl (cs_devno (DH p) (DH o)) (AC (AH (vO ((DH p) == (DH o))) rfl (AE (AB (AS (AZ rfl (CX rfl rfl rfl) (?_))))))))
 have e:(DH p == DH o)=((DH p) == (DH o)):=rfl
 exact ⟨_,rfl,b8.keep,(by exact congrArg vO e.symm)⟩
set_option maxHeartbeats 4000000 in
set_option maxRecDepth 100000 in
theorem c_idxF {O:List Nat} (l_v:Value) (l:List DeviceOp) (f_v:Nat) (f_caps:List Value) (f:DeviceOp→Bool) (w:World) (a0:CI Enc.devop w O l_v l) (a5:∀ (vs_:Array Value) (w:World),(callFunc f_v vs_).run Try.prog w = .ok (.enter f_v vs_) w) (b1:∀ (w':World) (O':List Nat),Keep [] w w'→(∀ b∈O',b∈O∨w.heap.size≤b)→(∀ b∈O',b<w'.heap.size)→∀ (x_cs:List Value) (x:DeviceOp),Enc.devop.rd w' O' x_cs x→CF Try.prog f_v ([.agg x_cs.toArray]++f_caps) w' (fun v w2=>v = .bool (f x))) (hO:∀ b∈O,b<w.heap.size):CF Try.prog 89 [l_v, .func (.func f_v) #[] f_caps.toArray] w (fun v _=>v=vI (idxF l f)):= by
 have b3:=a0.len_le
 have a0:CI Enc.devop w ([]++O) l_v l:=a0
 have s0:St w O w []:=St.start hO
 refine BS 19 Try.func89 rfl rfl oT (fun F0=>AG (AD kR (AC (AH (vI 0) rfl (AE (AB (AG (AG (AD kR (AC (AF (l_v) rfl (AC (DS U26_ rfl a0 (AC (AF (vI 0) rfl (AE (AB (BN (ED (fun mI FI wI=>∃ (k:Nat) (B:List Nat),k≤l.length∧idxF l f=GY (fun k=>if f l[k]! then some (k:Int) else none) (-1) k (l.length - k)∧mI=l.length - k∧(∃ F1,FI=GM F1 [(0,l_v),(1,vN (.func f_v) #[] f_caps.toArray),(7,vI (l.length:Int)),(8,vI ((k:Nat):Int)),(19,undef)])∧St w O wI B∧CI Enc.devop wI (B++O) (l_v) (l)) (l.length - (0)) ?_ ?_)))))))))))))))))))
 ·exact ⟨(0),[],oM,rfl,rfl,⟨_,AL _ ⟨rfl,rfl,rfl,(by rfl),rfl,trivial⟩⟩,s0,a0⟩
 intro c5 F b2 hI
 clear a0
 obtain ⟨k,a8,hr0_0,hr0_1,c6,⟨c7,rfl⟩,a3,a0⟩:=hI
 refine AG (AD kR (AC (DR .i64 ((k:Nat):Int) (l.length:Int) rfl rfl (AE (AB (AG (AK (decide (((k:Nat):Int)<(l.length:Int))) rfl rfl (fun a1=>?_) (fun a1=>?_))))))))
 ·have b4:((k:Nat):Int)<(l.length:Int):=by simpa using a1
  refine AT (AB (AG (BN (AG (AD kR (AC (AF (vI ((k:Nat):Int)) rfl (AC (AH (vI ((k:Nat):Int)) rfl (AE (AB (AG (AD kR (AC (AF (vN (.func f_v) #[] f_caps.toArray) rfl (AC (AF (l_v) rfl (AC (AF (vI ((k:Nat):Int)) rfl (AC (BZ U26_ BX .i64 ((k:Nat):Int) k rfl rfl rfl a0 oM fun b9 a6=>(AC (BT U40_ rfl BX rfl a6 fun b5 a7=>(?_))))))))))))))))))))))))
  obtain rfl:=a7
  refine AC (GI [] f_caps [vA #[vI ((l[k]!).device),vI ((l[k]!).no),vI ((l[k]!).kind),vI ((l[k]!).copy),vI ((l[k]!).to),vI ((l[k]!).token)]] a5 rfl (b1 b2 (a8++O) a3.keep (fun b hb=>(List.mem_append.1 hb).elim (fun h=>.inr (a3.new b h).1) .inl) a3.lt [vI ((l[k]!).device),vI ((l[k]!).no),vI ((l[k]!).kind),vI ((l[k]!).copy),vI ((l[k]!).to),vI ((l[k]!).token)] (l[k]!) rfl) rfl rfl a3 fun c2 c3 a4 a9 c4 b0=>(?_))
  obtain rfl:=b0
  have a0:=a0.mv a9
  refine AE (AB (AK (f (l[k]!)) rfl rfl (fun a2=>?_) (fun a2=>?_)))
  ·have b6:(f (l[k]!))=true:=by simpa using a2
   refine AG (AD kR (AC (AF (vI ((k:Nat):Int)) rfl (AC (AH (vI ((k:Nat):Int)) rfl (AE (AB (AS (BC (AN (AN (BC (AN (AZ rfl (CX rfl rfl rfl) (?_)))))))))))))))
   have e:(idxF l f)=((k:Nat):Int):=by (rw [hr0_1];exact HX oM (by ((repeat ((refine (if_pos ?_).trans ?_;omega)));rfl)))
   exact ⟨_,rfl,a4.keep,by rw [e];exact rfl⟩
  have b7:(f (l[k]!))=false:=by simpa using a2
  refine AT (AW (AB (AD kR (AC (CE .i64 ((k:Nat):Int) (1:Int) (((k+1:Nat):Int)) rfl rfl (EP oM oM) (AC (AF (vI ((k+1:Nat):Int)) rfl (AE (AB (?_))))))))))
  exact ⟨_,oM,(k+1),a8,oM,(hr0_1.trans (HW oM (by ((repeat ((refine (if_neg ?_).trans ?_;solve|(simp only [dbs];(repeat (omega))))));rfl)))),rfl,⟨_,AL _ ⟨rfl,rfl,rfl,(by rfl),rfl,trivial⟩⟩,a4,a0⟩
 have b8:(l.length:Int)≤((k:Nat):Int):=by simpa using a1
 refine EF (CG (CG (DJ (AB (AG (AD kR (AC (AH (vI (-1:Int)) rfl (AE (AB (AS (AZ rfl (CX rfl rfl rfl) (?_)))))))))))))
 have e:(idxF l f)=(-1:Int):=by (rw [hr0_1];exact KA oM)
 exact ⟨_,rfl,a3.keep,by rw [e];exact rfl⟩
set_option maxHeartbeats 4000000 in
set_option maxRecDepth 100000 in
theorem NW {O:List Nat} (l_v:Value) (l:List DeviceOp) (f_v:Nat) (f_caps:List Value) (f:DeviceOp→Bool) (w:World) (a0:CI Enc.devop w O l_v l) (a1:∀ (vs_:Array Value) (w:World),(callFunc f_v vs_).run Try.prog w = .ok (.enter f_v vs_) w) (a4:∀ (w':World) (O':List Nat),Keep [] w w'→(∀ b∈O',b∈O∨w.heap.size≤b)→(∀ b∈O',b<w'.heap.size)→∀ (x_cs:List Value) (x:DeviceOp),Enc.devop.rd w' O' x_cs x→CF Try.prog f_v ([.agg x_cs.toArray]++f_caps) w' (fun v w2=>v = .bool (f x))) (hO:∀ b∈O,b<w.heap.size):CF Try.prog 57 [l_v, .func (.func f_v) #[] f_caps.toArray] w (fun v _=>v = .bool (l.any f)):= by
 have a5:=a0.len_le
 have a0:CI Enc.devop w ([]++O) l_v l:=a0
 have s0:St w O w []:=St.start hO
 refine BS 9 Try.func57 rfl rfl oT (fun F0=>AG (AD kR (AC (AH (vO false) rfl (AE (AB (AG (AD kR (AC (AF (l_v) rfl (AC (AF (vN (.func f_v) #[] f_caps.toArray) rfl (AC (BI (vs:=[l_v,vN (.func f_v) #[] f_caps.toArray]) enter_89 (c_idxF (O:=[]++O) l_v l f_v f_caps f w a0 a1 (fun w'_ O'_ kk_ hs_ hl_=>a4 w'_ O'_ (s0.keep.trans kk_) (fun b hb=>(hs_ b hb).elim (fun h=>(List.mem_append.1 h).elim (fun h=>.inr (s0.new b h).1) .inl) (fun h=>.inr (Nat.le_trans s0.keep.size h))) hl_) s0.lt) rfl s0 fun a6 a7 a2 a8 a9 a3=>(?_)))))))))))))))
 obtain rfl:=a3
 refine AC (JS .i64 (idxF l f) (0:Int) rfl rfl (AC (AH (vO (decide ((0:Int)≤idxF l f))) rfl (AE (AB (AS (AZ rfl (CX rfl rfl rfl) (?_))))))))
 have e:(l.any f)=(decide ((0:Int)≤idxF l f)):=by exact (idxF_pos _ _).symm
 exact ⟨_,rfl,a2.keep,(by exact congrArg vO e.symm)⟩
set_option maxHeartbeats 4000000 in
set_option maxRecDepth 100000 in
theorem c_bsF {O:List Nat} (l_v:Value) (l:List DeviceOp) (o_cs:List Value) (o:DeviceOp) (f_v:Nat) (f_caps:List Value) (f:DeviceOp→DeviceOp→Int) (w:World) (a2:CI Enc.devop w O l_v l) (g1:Enc.devop.rd w O o_cs o) (b3:∀ (vs_:Array Value) (w:World),(callFunc f_v vs_).run Try.prog w = .ok (.enter f_v vs_) w) (d4:∀ (w':World) (O':List Nat),Keep [] w w'→(∀ b∈O',b∈O∨w.heap.size≤b)→(∀ b∈O',b<w'.heap.size)→∀ (x_cs:List Value) (x:DeviceOp) (y_cs:List Value) (y:DeviceOp),Enc.devop.rd w' O' x_cs x→Enc.devop.rd w' O' y_cs y→CF Try.prog f_v ([.agg x_cs.toArray, .agg y_cs.toArray]++f_caps) w' (fun v w2=>v=vI (f x y))) (hpre0:∀ p q,p<q→q<l.length→f l[q]! o<0→f l[p]! o<0) (hpre1:l.length≤4611686018427387903) (hO:∀ b∈O,b<w.heap.size):CF Try.prog 60 [l_v, .agg o_cs.toArray, .func (.func f_v) #[] f_caps.toArray] w (fun v _=>v = .tuple #[vI ((PM l o f:Nat):Int), .bool (bsG l o f)]):= by
 have g2:=a2.len_le
 have a2:CI Enc.devop w ([]++O) l_v l:=a2
 obtain rfl:=g1
 have s0:St w O w []:=St.start hO
 refine BS 49 Try.func60 rfl rfl oT (fun F0=>AG (AD kR (AC (DG (E:=Enc.devop) (vA #[vI o.device,vI o.no,vI o.kind,vI o.copy,vI o.to,vI o.token]) ([vI o.device,vI o.no,vI o.kind,vI o.copy,vI o.to,vI o.token]) o rfl rfl rfl s0 fun a7 h5 d5 d6 h6 a0=>(?_)))))
 have a2:=a2.mv d6
 refine AC (AH (vI 0) rfl (AC (AH (vO false) rfl (AE (AB (AG (AD kR (AC (AF (l_v) rfl (AC (DS U26_ rfl a2 (AC (AH (vI (l.length:Int)) rfl (AE (AB (AG (AD kR (AC (AF (vI (l.length:Int)) rfl (AC (AH (vI 0) rfl (AC (AH (vI (l.length:Int)) rfl (AE (AB (AG (BN (ED (fun mI FI wI=>∃ (lo:Nat) (hi:Nat) (B:List Nat),lo≤hi∧hi≤l.length∧(∀ q,q<lo→f l[q]! o<0)∧(∀ q,hi≤q→q<l.length→0≤f l[q]! o)∧mI=hi - lo∧(∃ F1,FI=GM F1 [(0,l_v),(2,vN (.func f_v) #[] f_caps.toArray),(4,vP (some a7)),(8,vI (l.length:Int)),(9,vI ((lo:Nat):Int)),(10,vI ((hi:Nat):Int)),(49,undef)])∧St w O wI B∧CI Enc.devop wI (B++O) (l_v) (l)∧PT Enc.devop wI (B++O) (.pointer (some a7)) (o)) ((l.length) - (0)) ?_ ?_))))))))))))))))))))))))))))
 ·exact ⟨(0),(l.length),[],oM,oM,(fun q hq=>by omega),(fun q h1 h2=>by omega),rfl,⟨_,AL _ ⟨rfl,rfl,rfl,rfl,(by rfl),(by rfl),rfl,trivial⟩⟩,d5,a2,a0⟩
 intro i6 F a4 hI
 clear a2 a0
 obtain ⟨lo,hi,a1,hr0_0,hr0_1,hr0_2,hr0_3,i7,⟨i8,rfl⟩,b4,a2,a0⟩:=hI
 refine AG (AG (AD kR (AC (AF (vI ((lo:Nat):Int)) rfl (AC (AF (vI ((hi:Nat):Int)) rfl (AC (DR .i64 ((lo:Nat):Int) ((hi:Nat):Int) rfl rfl (AE (AB (AK (decide (((lo:Nat):Int)<((hi:Nat):Int))) rfl rfl (fun a8=>?_) (fun a8=>?_))))))))))))
 ·have g3:((lo:Nat):Int)<((hi:Nat):Int):=by simpa using a8
  refine AT (AB (BN (AG (AD kR (AC (AF (vI ((lo:Nat):Int)) rfl (AC (AF (vI ((hi:Nat):Int)) rfl (AC (CE .i64 ((lo:Nat):Int) ((hi:Nat):Int) (((lo+hi:Nat):Int)) rfl rfl (EP oM oM) (AC (FF .i64 .u64 U3_ U119_ ((lo+hi:Nat):Int) (((lo+hi):Nat):Int) rfl (wrap_u64 oM) (AC (o_shrU .u64 (lo+hi) 1 oM rfl rfl (AC (FF .u64 .i64 U119_ U3_ (((lo+hi) / 2 ^ 1:Nat):Int) ((((lo+hi) / 2 ^ 1):Nat):Int) rfl (EP oM rfl) (AC (AH (vI (((lo+hi) / 2 ^ 1:Nat):Int)) rfl (AE (AB (AG (cw_draw' 6 _ _ [EK (vN (.func f_v) #[] f_caps.toArray),fun (vT:Value) (wT:World)=>CI Enc.devop wT (a1++O) vT (l),EK (vI (((lo+hi) / 2 ^ 1:Nat):Int)),fun (vT:Value) (wT:World)=>∃ aT,vT = .pointer (some aT)∧PT Enc.devop wT (a1++O) (.pointer (some aT)) (l[(lo+hi) / 2 ^ 1]!),EK (vA #[vI ((l[(lo+hi) / 2 ^ 1]!).device),vI ((l[(lo+hi) / 2 ^ 1]!).no),vI ((l[(lo+hi) / 2 ^ 1]!).kind),vI ((l[(lo+hi) / 2 ^ 1]!).copy),vI ((l[(lo+hi) / 2 ^ 1]!).to),vI ((l[(lo+hi) / 2 ^ 1]!).token)]),EK (vA #[vI o.device,vI o.no,vI o.kind,vI o.copy,vI o.to,vI o.token])] kR kR kR kR rfl rfl ⟨kI,fun _ _ _ h k=>h.mv (Mv.of_keep k),kI,fun _ _ _ ⟨a,e,h⟩ k=>⟨a,e,h.mv (Mv.of_keep k)⟩,kI,kI,trivial⟩ ⟨?_,?_,?_,?_,?_,?_,trivial⟩ ?_))))))))))))))))))))))
  ·intro F1 w1 k1 hf hd
   obtain ⟨F2,rfl⟩:=AY (F:=F1) [(2,vN (.func f_v) #[] f_caps.toArray)] ⟨hf 2 kR,trivial⟩
   exact BB rfl ((AF (vN (.func f_v) #[] f_caps.toArray) rfl (⟨(Keep.refl _ _),rfl⟩)))
  ·intro F1 w1 k1 hf hd
   have k0:=(Keep.drew [] a4).trans k1
   have m1:Mv a1 a4 a1 w1:=Mv.of_keep k0
   have a2:=a2.mv m1
   obtain ⟨F2,rfl⟩:=AY (F:=F1) [(0,l_v)] ⟨hf 0 kR,trivial⟩
   exact BB rfl ((AF (l_v) rfl (⟨(Keep.refl _ _),a2⟩)))
  ·intro F1 w1 k1 hf hd
   obtain ⟨F2,rfl⟩:=AY (F:=F1) [(11,vI (((lo+hi) / 2 ^ 1:Nat):Int))] ⟨hf 11 kR,trivial⟩
   exact BB rfl ((AF (vI (((lo+hi) / 2 ^ 1:Nat):Int)) rfl (⟨(Keep.refl _ _),rfl⟩)))
  ·intro F1 w1 k1 hf hd
   obtain ⟨d7,d8,b5⟩:∃ v,F1 25=v∧CI Enc.devop w1 (a1++O) v (l):=⟨_,rfl,hd 1 25 kR⟩
   have:=b5.len_le
   obtain ⟨F2,rfl⟩:=AY (F:=F1) [(25,d7),(26,vI (((lo+hi) / 2 ^ 1:Nat):Int))] ⟨d8,hd 2 26 kR,trivial⟩
   exact BB rfl ((BZ U26_ BX .i64 (((lo+hi) / 2 ^ 1:Nat):Int) ((lo+hi) / 2 ^ 1) rfl rfl rfl b5 oM fun d9 c6=>(⟨(Keep.refl _ _),⟨d9,rfl,c6⟩⟩)))
  ·intro F1 w1 k1 hf hd
   obtain ⟨e0,e1,c7⟩:∃ aX_,F1 27 = .pointer (some aX_)∧PT Enc.devop w1 (a1++O) (.pointer (some aX_)) (l[(lo+hi) / 2 ^ 1]!):=hd 3 27 kR
   obtain ⟨F2,rfl⟩:=AY (F:=F1) [(27,vP (some e0))] ⟨e1,trivial⟩
   refine BB rfl ((BT U40_ rfl BX rfl c7 fun g4 c8=>(?_)))
   obtain rfl:=c8
   exact ⟨(Keep.refl _ _),rfl⟩
  ·intro F1 w1 k1 hf hd
   have k0:=(Keep.drew [] a4).trans k1
   have m1:Mv a1 a4 a1 w1:=Mv.of_keep k0
   have a0:=a0.mv m1
   obtain ⟨F2,rfl⟩:=AY (F:=F1) [(4,vP (some a7))] ⟨hf 4 kR,trivial⟩
   refine BB rfl ((BT U40_ rfl BX rfl a0 fun g5 c9=>(?_)))
   obtain rfl:=c9
   exact ⟨(Keep.refl _ _),rfl⟩
  intro e2 b9 c2 a5 a3
  have a9:=b4.call c2
  have c3:Mv a1 a4 a1 b9:=Mv.of_keep c2
  have a2:=a2.mv c3
  have a0:=a0.mv c3
  obtain ⟨F2,rfl⟩:=AY (F:=e2) [(0,l_v),(2,vN (.func f_v) #[] f_caps.toArray),(4,vP (some a7)),(8,vI (l.length:Int)),(9,vI ((lo:Nat):Int)),(10,vI ((hi:Nat):Int)),(11,vI (((lo+hi) / 2 ^ 1:Nat):Int)),(49,undef),(24,vN (.func f_v) #[] f_caps.toArray),(28,vA #[vI ((l[(lo+hi) / 2 ^ 1]!).device),vI ((l[(lo+hi) / 2 ^ 1]!).no),vI ((l[(lo+hi) / 2 ^ 1]!).kind),vI ((l[(lo+hi) / 2 ^ 1]!).copy),vI ((l[(lo+hi) / 2 ^ 1]!).to),vI ((l[(lo+hi) / 2 ^ 1]!).token)]),(29,vA #[vI o.device,vI o.no,vI o.kind,vI o.copy,vI o.to,vI o.token])] ⟨a3 0 kR,a3 2 kR,a3 4 kR,a3 8 kR,a3 9 kR,a3 10 kR,a3 11 kR,a3 49 kR,a5 0 24 kR (by decide),a5 4 28 kR (by decide),a5 5 29 kR (by decide),trivial⟩
  clear a5 a3
  refine AC (GI [] f_caps [vA #[vI ((l[(lo+hi) / 2 ^ 1]!).device),vI ((l[(lo+hi) / 2 ^ 1]!).no),vI ((l[(lo+hi) / 2 ^ 1]!).kind),vI ((l[(lo+hi) / 2 ^ 1]!).copy),vI ((l[(lo+hi) / 2 ^ 1]!).to),vI ((l[(lo+hi) / 2 ^ 1]!).token)],vA #[vI o.device,vI o.no,vI o.kind,vI o.copy,vI o.to,vI o.token]] b3 rfl (d4 b9 (a1++O) a9.keep (fun b hb=>(List.mem_append.1 hb).elim (fun h=>.inr (a9.new b h).1) .inl) a9.lt [vI ((l[(lo+hi) / 2 ^ 1]!).device),vI ((l[(lo+hi) / 2 ^ 1]!).no),vI ((l[(lo+hi) / 2 ^ 1]!).kind),vI ((l[(lo+hi) / 2 ^ 1]!).copy),vI ((l[(lo+hi) / 2 ^ 1]!).to),vI ((l[(lo+hi) / 2 ^ 1]!).token)] (l[(lo+hi) / 2 ^ 1]!) [vI o.device,vI o.no,vI o.kind,vI o.copy,vI o.to,vI o.token] o rfl rfl) rfl rfl a9 fun h7 h8 c4 c5 h9 e3=>(?_))
  obtain rfl:=e3
  have a2:=a2.mv c5
  have a0:=a0.mv c5
  refine AC (DR .i64 (f (l[(lo+hi) / 2 ^ 1]!) o) (0:Int) rfl rfl (AE (AB (AK (decide (f (l[(lo+hi) / 2 ^ 1]!) o<(0:Int))) rfl rfl (fun b0=>?_) (fun b0=>?_)))))
  ·have g6:f (l[(lo+hi) / 2 ^ 1]!) o<(0:Int):=by simpa using b0
   refine AD kR (AC (AF (vI (((lo+hi) / 2 ^ 1:Nat):Int)) rfl (AC (CE .i64 (((lo+hi) / 2 ^ 1:Nat):Int) (1:Int) ((((lo+hi) / 2 ^ 1+1:Nat):Int)) rfl rfl (EP oM oM) (AC (AH (vI (((lo+hi) / 2 ^ 1+1:Nat):Int)) rfl (AE (AW (AB (?_))))))))))
   exact ⟨_,oM,((lo+hi) / 2 ^ 1+1),(hi),a1,oM,oM,(by exact bs2_lo hpre0 aS oM),(by exact hr0_3),rfl,⟨_,AL _ ⟨rfl,rfl,rfl,rfl,(by rfl),(by rfl),rfl,trivial⟩⟩,c4,a2,a0⟩
  have g7:(0:Int)≤f (l[(lo+hi) / 2 ^ 1]!) o:=by simpa using b0
  refine AD kR (AC (AF (vI (((lo+hi) / 2 ^ 1:Nat):Int)) rfl (AC (AH (vI (((lo+hi) / 2 ^ 1:Nat):Int)) rfl (AE (AW (AB (?_))))))))
  exact ⟨_,oM,(lo),((lo+hi) / 2 ^ 1),a1,oM,oM,(by exact hr0_2),(by exact bs2_hi hpre0 aS),rfl,⟨_,AL _ ⟨rfl,rfl,rfl,rfl,(by rfl),(by rfl),rfl,trivial⟩⟩,c4,a2,a0⟩
 have g8:((hi:Nat):Int)≤((lo:Nat):Int):=by simpa using a8
 obtain rfl:lo=hi:=by omega
 have htw:PM l o f=lo:=tw2_eq oM hr0_2 (fun h=>hr0_3 lo oM h)
 refine EF (CG (CG (DJ (AB (AG (?_))))))
 cases a6:(decide (((lo:Nat):Int)<(l.length:Int)))
 ·have g9:(l.length:Int)≤((lo:Nat):Int):=by simpa using a6
  refine cw_draw' 15 _ _ [EK (vI ((lo:Nat):Int)),EK (vI ((lo:Nat):Int)),EK (vI (l.length:Int)),EK (vO false),EK (vO false),EK undef,EK undef,EK undef,EK undef,EK undef,EK undef,EK undef,EK undef,EK (vO false),EK (vI ((lo:Nat):Int))] kR kR kR kR rfl rfl ⟨kI,kI,kI,kI,kI,kI,kI,kI,kI,kI,kI,kI,kI,kI,kI,trivial⟩ ⟨?_,?_,?_,?_,?_,?_,?_,?_,?_,?_,?_,?_,?_,?_,?_,trivial⟩ ?_
  ·intro F1 w1 k1 hf hd
   obtain ⟨F2,rfl⟩:=AY (F:=F1) [(9,vI ((lo:Nat):Int))] ⟨hf 9 kR,trivial⟩
   exact BB rfl ((AF (vI ((lo:Nat):Int)) rfl (⟨(Keep.refl _ _),rfl⟩)))
  ·intro F1 w1 k1 hf hd
   obtain ⟨F2,rfl⟩:=AY (F:=F1) [(9,vI ((lo:Nat):Int))] ⟨hf 9 kR,trivial⟩
   exact BB rfl ((AF (vI ((lo:Nat):Int)) rfl (⟨(Keep.refl _ _),rfl⟩)))
  ·intro F1 w1 k1 hf hd
   obtain ⟨F2,rfl⟩:=AY (F:=F1) [(8,vI (l.length:Int))] ⟨hf 8 kR,trivial⟩
   exact BB rfl ((AF (vI (l.length:Int)) rfl (⟨(Keep.refl _ _),rfl⟩)))
  ·intro F1 w1 k1 hf hd
   obtain ⟨F2,rfl⟩:=AY (F:=F1) [(36,vI ((lo:Nat):Int)),(37,vI (l.length:Int))] ⟨hd 1 36 kR,hd 2 37 kR,trivial⟩
   refine BB rfl ((DR .i64 ((lo:Nat):Int) (l.length:Int) rfl rfl (?_)))
   exact ⟨(Keep.refl _ _),congrArg vO (a6)⟩
  ·intro F1 w1 k1 hf hd
   obtain ⟨F2,rfl⟩:=AY (F:=F1) [(38,vO false)] ⟨hd 3 38 kR,trivial⟩
   exact BB rfl ((AF (vO false) rfl (⟨(Keep.refl _ _),rfl⟩)))
  ·intro F1 w1 k1 hf hd
   exact DT rfl rfl (hd 4 39 kR) rfl rfl
  ·intro F1 w1 k1 hf hd
   exact DT rfl rfl (hd 4 39 kR) rfl rfl
  ·intro F1 w1 k1 hf hd
   exact DT rfl rfl (hd 4 39 kR) rfl rfl
  ·intro F1 w1 k1 hf hd
   exact DT rfl rfl (hd 4 39 kR) rfl rfl
  ·intro F1 w1 k1 hf hd
   exact DT rfl rfl (hd 4 39 kR) rfl rfl
  ·intro F1 w1 k1 hf hd
   exact DT rfl rfl (hd 4 39 kR) rfl rfl
  ·intro F1 w1 k1 hf hd
   exact DT rfl rfl (hd 4 39 kR) rfl rfl
  ·intro F1 w1 k1 hf hd
   exact DT rfl rfl (hd 4 39 kR) rfl rfl
  ·intro F1 w1 k1 hf hd
   obtain ⟨F2,rfl⟩:=AY (F:=F1) [(39,vO false),(47,undef)] ⟨hd 4 39 kR,hd 12 47 kR,trivial⟩
   exact BB rfl ((BM (vO false) rfl rfl (⟨(Keep.refl _ _),rfl⟩)))
  ·intro F1 w1 k1 hf hd
   obtain ⟨F2,rfl⟩:=AY (F:=F1) [(35,vI ((lo:Nat):Int))] ⟨hd 0 35 kR,trivial⟩
   exact BB rfl ((AH (vI ((lo:Nat):Int)) rfl (⟨(Keep.refl _ _),rfl⟩)))
  intro e4 i0 e5 b1 b6
  have e6:=b4.call e5
  obtain ⟨F2,rfl⟩:=AY (F:=e4) [(49,undef),(6,vI ((lo:Nat):Int)),(48,vO false)] ⟨b6 49 kR,b1 14 6 kR (by decide),b1 13 48 kR (by decide),trivial⟩
  clear b1 b6
  refine AC (AH (vO false) rfl (AE (AB (AS (AZ rfl (HT rfl rfl rfl rfl) (?_))))))
  have e7:(PM l o f)=lo:=by exact htw
  have e8:(bsG l o f)=false:=by (unfold bsG;rw [htw];simp only [dbs];omega)
  exact ⟨_,rfl,e6.keep,by rw [e7,e8];exact rfl⟩
 have h0:((lo:Nat):Int)<(l.length:Int):=by simpa using a6
 refine cw_draw' 15 _ _ [EK (vI ((lo:Nat):Int)),EK (vI ((lo:Nat):Int)),EK (vI (l.length:Int)),EK (vO true),EK (vO true),EK (vN (.func f_v) #[] f_caps.toArray),fun (vT:Value) (wT:World)=>CI Enc.devop wT (a1++O) vT (l),EK (vI ((lo:Nat):Int)),fun (vT:Value) (wT:World)=>∃ aT,vT = .pointer (some aT)∧PT Enc.devop wT (a1++O) (.pointer (some aT)) (l[lo]!),EK (vA #[vI ((l[lo]!).device),vI ((l[lo]!).no),vI ((l[lo]!).kind),vI ((l[lo]!).copy),vI ((l[lo]!).to),vI ((l[lo]!).token)]),EK (vA #[vI o.device,vI o.no,vI o.kind,vI o.copy,vI o.to,vI o.token]),EK (vI (f (l[lo]!) o)),EK (vO ((f (l[lo]!) o) == (0:Int))),EK (vO ((f (l[lo]!) o) == (0:Int))),EK (vI ((lo:Nat):Int))] kR kR kR kR rfl rfl ⟨kI,kI,kI,kI,kI,kI,fun _ _ _ h k=>h.mv (Mv.of_keep k),kI,fun _ _ _ ⟨a,e,h⟩ k=>⟨a,e,h.mv (Mv.of_keep k)⟩,kI,kI,kI,kI,kI,kI,trivial⟩ ⟨?_,?_,?_,?_,?_,?_,?_,?_,?_,?_,?_,?_,?_,?_,?_,trivial⟩ ?_
 ·intro F1 w1 k1 hf hd
  obtain ⟨F2,rfl⟩:=AY (F:=F1) [(9,vI ((lo:Nat):Int))] ⟨hf 9 kR,trivial⟩
  exact BB rfl ((AF (vI ((lo:Nat):Int)) rfl (⟨(Keep.refl _ _),rfl⟩)))
 ·intro F1 w1 k1 hf hd
  obtain ⟨F2,rfl⟩:=AY (F:=F1) [(9,vI ((lo:Nat):Int))] ⟨hf 9 kR,trivial⟩
  exact BB rfl ((AF (vI ((lo:Nat):Int)) rfl (⟨(Keep.refl _ _),rfl⟩)))
 ·intro F1 w1 k1 hf hd
  obtain ⟨F2,rfl⟩:=AY (F:=F1) [(8,vI (l.length:Int))] ⟨hf 8 kR,trivial⟩
  exact BB rfl ((AF (vI (l.length:Int)) rfl (⟨(Keep.refl _ _),rfl⟩)))
 ·intro F1 w1 k1 hf hd
  obtain ⟨F2,rfl⟩:=AY (F:=F1) [(36,vI ((lo:Nat):Int)),(37,vI (l.length:Int))] ⟨hd 1 36 kR,hd 2 37 kR,trivial⟩
  refine BB rfl ((DR .i64 ((lo:Nat):Int) (l.length:Int) rfl rfl (?_)))
  exact ⟨(Keep.refl _ _),congrArg vO (a6)⟩
 ·intro F1 w1 k1 hf hd
  obtain ⟨F2,rfl⟩:=AY (F:=F1) [(38,vO true)] ⟨hd 3 38 kR,trivial⟩
  exact BB rfl ((AF (vO true) rfl (⟨(Keep.refl _ _),rfl⟩)))
 ·intro F1 w1 k1 hf hd
  obtain ⟨F2,rfl⟩:=AY (F:=F1) [(2,vN (.func f_v) #[] f_caps.toArray),(39,vO true)] ⟨hf 2 kR,hd 4 39 kR,trivial⟩
  exact DV rfl rfl ((AF (vN (.func f_v) #[] f_caps.toArray) rfl (⟨(Keep.refl _ _),rfl⟩)))
 ·intro F1 w1 k1 hf hd
  have k0:=(Keep.drew [] a4).trans k1
  have m1:Mv a1 a4 a1 w1:=Mv.of_keep k0
  have a2:=a2.mv m1
  obtain ⟨F2,rfl⟩:=AY (F:=F1) [(0,l_v),(39,vO true)] ⟨hf 0 kR,hd 4 39 kR,trivial⟩
  exact DV rfl rfl ((AF (l_v) rfl (⟨(Keep.refl _ _),a2⟩)))
 ·intro F1 w1 k1 hf hd
  obtain ⟨F2,rfl⟩:=AY (F:=F1) [(9,vI ((lo:Nat):Int)),(39,vO true)] ⟨hf 9 kR,hd 4 39 kR,trivial⟩
  exact DV rfl rfl ((AF (vI ((lo:Nat):Int)) rfl (⟨(Keep.refl _ _),rfl⟩)))
 ·intro F1 w1 k1 hf hd
  obtain ⟨e9,f0,b7⟩:∃ v,F1 41=v∧CI Enc.devop w1 (a1++O) v (l):=⟨_,rfl,hd 6 41 kR⟩
  have:=b7.len_le
  obtain ⟨F2,rfl⟩:=AY (F:=F1) [(39,vO true),(41,e9),(42,vI ((lo:Nat):Int))] ⟨hd 4 39 kR,f0,hd 7 42 kR,trivial⟩
  exact DV rfl rfl ((BZ U26_ BX .i64 ((lo:Nat):Int) lo rfl rfl rfl b7 oM fun f1 d0=>(⟨(Keep.refl _ _),⟨f1,rfl,d0⟩⟩)))
 ·intro F1 w1 k1 hf hd
  obtain ⟨f2,f3,d1⟩:∃ aX_,F1 43 = .pointer (some aX_)∧PT Enc.devop w1 (a1++O) (.pointer (some aX_)) (l[lo]!):=hd 8 43 kR
  obtain ⟨F2,rfl⟩:=AY (F:=F1) [(39,vO true),(43,vP (some f2))] ⟨hd 4 39 kR,f3,trivial⟩
  refine DV rfl rfl ((BT U40_ rfl BX rfl d1 fun h3 d2=>(?_)))
  obtain rfl:=d2
  exact ⟨(Keep.refl _ _),rfl⟩
 ·intro F1 w1 k1 hf hd
  have k0:=(Keep.drew [] a4).trans k1
  have m1:Mv a1 a4 a1 w1:=Mv.of_keep k0
  have a0:=a0.mv m1
  obtain ⟨F2,rfl⟩:=AY (F:=F1) [(4,vP (some a7)),(39,vO true)] ⟨hf 4 kR,hd 4 39 kR,trivial⟩
  refine DV rfl rfl ((BT U40_ rfl BX rfl a0 fun h4 d3=>(?_)))
  obtain rfl:=d3
  exact ⟨(Keep.refl _ _),rfl⟩
 ·intro F1 w1 k1 hf hd
  have k0:=(Keep.drew [] a4).trans k1
  have s1:=b4.call k0
  obtain ⟨F2,rfl⟩:=AY (F:=F1) [(39,vO true),(40,vN (.func f_v) #[] f_caps.toArray),(44,vA #[vI ((l[lo]!).device),vI ((l[lo]!).no),vI ((l[lo]!).kind),vI ((l[lo]!).copy),vI ((l[lo]!).to),vI ((l[lo]!).token)]),(45,vA #[vI o.device,vI o.no,vI o.kind,vI o.copy,vI o.to,vI o.token])] ⟨hd 4 39 kR,hd 5 40 kR,hd 9 44 kR,hd 10 45 kR,trivial⟩
  refine DV rfl rfl ((GI [] f_caps [vA #[vI ((l[lo]!).device),vI ((l[lo]!).no),vI ((l[lo]!).kind),vI ((l[lo]!).copy),vI ((l[lo]!).to),vI ((l[lo]!).token)],vA #[vI o.device,vI o.no,vI o.kind,vI o.copy,vI o.to,vI o.token]] b3 rfl (d4 w1 (a1++O) s1.keep (fun b hb=>(List.mem_append.1 hb).elim (fun h=>.inr (s1.new b h).1) .inl) s1.lt [vI ((l[lo]!).device),vI ((l[lo]!).no),vI ((l[lo]!).kind),vI ((l[lo]!).copy),vI ((l[lo]!).to),vI ((l[lo]!).token)] (l[lo]!) [vI o.device,vI o.no,vI o.kind,vI o.copy,vI o.to,vI o.token] o rfl rfl) rfl rfl s1 fun i1 i2 i3 i4 f4 f5=>(?_)))
  obtain rfl:=f5
  exact ⟨f4,rfl⟩
 ·intro F1 w1 k1 hf hd
  obtain ⟨F2,rfl⟩:=AY (F:=F1) [(39,vO true),(46,vI (f (l[lo]!) o))] ⟨hd 4 39 kR,hd 11 46 kR,trivial⟩
  exact DV rfl rfl ((DC .i64 (f (l[lo]!) o) (0:Int) rfl rfl (⟨(Keep.refl _ _),rfl⟩)))
 ·intro F1 w1 k1 hf hd
  obtain ⟨F2,rfl⟩:=AY (F:=F1) [(39,vO true),(47,vO ((f (l[lo]!) o) == (0:Int)))] ⟨hd 4 39 kR,hd 12 47 kR,trivial⟩
  exact BB rfl ((BA (vO ((f (l[lo]!) o) == (0:Int))) rfl rfl (⟨(Keep.refl _ _),rfl⟩)))
 ·intro F1 w1 k1 hf hd
  obtain ⟨F2,rfl⟩:=AY (F:=F1) [(35,vI ((lo:Nat):Int))] ⟨hd 0 35 kR,trivial⟩
  exact BB rfl ((AH (vI ((lo:Nat):Int)) rfl (⟨(Keep.refl _ _),rfl⟩)))
 intro f6 i5 f7 b2 b8
 have f8:=b4.call f7
 obtain ⟨F2,rfl⟩:=AY (F:=f6) [(49,undef),(6,vI ((lo:Nat):Int)),(48,vO ((f (l[lo]!) o) == (0:Int)))] ⟨b8 49 kR,b2 14 6 kR (by decide),b2 13 48 kR (by decide),trivial⟩
 clear b2 b8
 refine AC (AH (vO ((f (l[lo]!) o) == (0:Int))) rfl (AE (AB (AS (AZ rfl (HT rfl rfl rfl rfl) (?_))))))
 have f9:(PM l o f)=lo:=by exact htw
 have g0:(bsG l o f)=((f (l[lo]!) o) == (0:Int)):=by (unfold bsG;rw [htw];simp [*];done)
 exact ⟨_,rfl,f8.keep,by rw [f9,g0];exact rfl⟩
end Go.Proofs.Ytjpniibleelgiaa
namespace Go.Fw
variable {P:Program} {ro:Option Nat} {n:Nat} {Q:Exit→Fr→World→Prop} {F:Fr} {w:World}
theorem JW {x y:Code} (I:Fr→World→Prop) (h1:CW P (ro:=ro) n x (FQ I Q) F w) (h2:∀ F w,I F w→CW P (ro:=ro) n y Q F w):CW P (ro:=ro) n (.seq x y) Q F w:=
  AG (wpIn_mono h1 fun e _ _ ⟨F,ha,hQ⟩=>⟨F,ha,by cases e <;> first|exact h2 _ _ hQ|exact hQ⟩)
end Go.Fw
namespace Go.Proofs.Ytjpniibleelgiaa
open Go.Fw
theorem PX {β:Type} {p:Nat→Bool} {d r:β} (hne:r≠d):∀ {m i:Nat},GY (fun k=>if p k then some r else none) d i m=d↔∀ k,i≤k→k<i+m→p k=false
  | 0,i=>by simp [GY];intro k h1 h2;omega
  | m+1,i=>by
    unfold GY
    cases hp:p i with
    | true=>
      simp only [if_true]
      refine ⟨fun h=>absurd h hne,fun h=>?_⟩
      have:=h i (Nat.le_refl _) (by omega)
      rw [hp] at this;cases this
    | false=>
      simp only [Bool.false_eq_true,if_false]
      rw [PX hne]
      refine ⟨fun h k h1 h2=>?_,fun h k h1 h2=>h k (by omega) (by omega)⟩
      by_cases hk:k=i
      · subst hk;exact hp
      · exact h k (by omega) (by omega)
theorem JO {l:List DeviceOp} {k:Nat} (h:k<l.length):l.take (k+1)=l.take k++[l[k]!]:=by
  rw [List.take_succ_eq_append_getElem h,getElem!_pos l k h]
theorem OQ (l:List DeviceOp) (n:DevNo):∀ k,k≤l.length→((IE l k n).getD false=true↔n∈(l.take k).map DH)
  | 0,_=>by simp [IE,noM]
  | k+1,h=>by
    have ih:=OQ l n k (by omega)
    rw [JO (by omega),List.map_append,List.mem_append,← ih,show IE l (k+1)=upM (IE l k) (DH l[k]!) true from rfl]
    generalize l[k]! = x
    generalize IE l k=M
    unfold upM
    by_cases e:n=DH x
    · subst e;simp
    · simp [e]
theorem HS (l:List DeviceOp):CO l=true↔(l.map DH).Nodup:=by
  unfold CO
  rw [PX (by simp),List.Nodup,List.pairwise_iff_getElem]
  constructor
  · intro h i j hi hj hij e
    have hj':j<l.length:=by simpa using hj
    have:=h j (Nat.zero_le _) (by omega)
    rw [← Bool.not_eq_true,OQ l _ j (by omega)] at this
    apply this
    rw [List.getElem_map] at e
    rw [List.getElem_map] at e
    rw [getElem!_pos l j hj',← e]
    refine List.mem_map.2 ⟨l[i],?_,rfl⟩
    exact List.mem_take_iff_getElem.2 ⟨i,by omega,rfl⟩
  · intro h k _ hk
    rw [← Bool.not_eq_true,OQ l _ k (by omega)]
    intro hm
    obtain ⟨x,hx,e⟩:=List.mem_map.1 hm
    obtain ⟨i,hi,rfl⟩:=List.mem_take_iff_getElem.1 hx
    have hk':k<l.length:=by omega
    refine h i k (by simp;omega) (by simpa using hk') (by omega) ?_
    rw [List.getElem_map,List.getElem_map,e,getElem!_pos l k hk']
theorem OG {a:DeviceOp}:¬ DE a a<0:=by rw [cmp_self];omega
theorem cmp_asym {a b:DeviceOp} (h:DE a b<0):¬ DE b a<0:=fun h2=>OG (HY h (by omega:DE b a≤0))
theorem cmp_total (a b:DeviceOp):DE a b<0∨a=b∨DE b a<0:=by
  have:=PA a b
  by_cases h:DE a b=0
  · exact .inr (.inl (cmp_eq h))
  · omega
def LG (l:List DeviceOp):Prop:=∀ x∈l,∀ y∈l,DH x=DH y→x=y
def MA (l:List DeviceOp):Prop:=l.length≤256∧(∀ o∈l,BV o=true)∧EV l∧LG l
theorem OS (l:List DeviceOp):EV l↔∀ p q,p<q→q<l.length→DE l[p]! l[q]! < 0:=by
  unfold EV
  rw [List.pairwise_iff_getElem]
  constructor
  · intro h p q hpq hq;rw [getElem!_pos l p (by omega),getElem!_pos l q hq];exact h p q (by omega) hq hpq
  · intro h i j hi hj hij;have:=h i j hij hj;rwa [getElem!_pos l i hi,getElem!_pos l j hj] at this
theorem JK {l:List DeviceOp} (h:EV l):l.Nodup:=h.imp (fun hab e=>by subst e;exact OG hab)
theorem JM {l:List DeviceOp} (h:EV l):(l.map DH).Nodup↔LG l:=by
  have hn:=JK h
  rw [List.Nodup,List.pairwise_map]
  constructor
  · intro hp
    rw [List.pairwise_iff_getElem] at hp
    intro x hx y hy e
    obtain ⟨i,hi,rfl⟩:=List.getElem_of_mem hx
    obtain ⟨j,hj,rfl⟩:=List.getElem_of_mem hy
    rcases Nat.lt_trichotomy i j with h1|h1|h1
    · exact absurd e (hp i j hi hj h1)
    · subst h1;rfl
    · exact absurd e.symm (hp j i hj hi h1)
  · intro hi
    exact List.Pairwise.imp_of_mem (fun hx hy hne e=>hne (hi _ hx _ hy e)) hn
theorem CZ (l:List DeviceOp):BR l=0↔MA l:=by
  constructor
  · intro h
    obtain ⟨h1,h2,h3⟩:=IZ h
    have hs:=(OS l).2 (MI h)
    refine ⟨h1,fun o ho=>?_,hs,(JM hs).1 ((HS l).1 h2)⟩
    obtain ⟨i,hi,rfl⟩:=List.getElem_of_mem ho
    have:=(opBad_f.1 (h3 i hi)).1
    rwa [getElem!_pos l i hi] at this
  · rintro ⟨h1,h2,h3,h4⟩
    unfold BR
    rw [if_neg (by rw [(HS l).2 ((JM h3).2 h4)];simp;omega),PX (by decide)]
    intro k _ hk
    have hk':k<l.length:=by omega
    refine opBad_f.2 ⟨?_,fun h0=>(OS l).1 h3 (k - 1) k (by omega) hk'⟩
    rw [getElem!_pos l k hk'];exact h2 _ (List.getElem_mem hk')
theorem LA:∀ {a b:List DeviceOp},EV a→EV b→(∀ o,o∈a↔o∈b)→a=b
  | [],[],_,_,_=>rfl
  | [],y :: b,_,_,h=>by have:=(h y).2 (by simp);simp at this
  | x :: a,[],_,_,h=>by have:=(h x).1 (by simp);simp at this
  | x :: a,y :: b,ha,hb,h=>by
    obtain ⟨ha1,ha2⟩:=List.pairwise_cons.1 ha
    obtain ⟨hb1,hb2⟩:=List.pairwise_cons.1 hb
    have hxy:x=y:=by
      have h1:=(h x).1 (by simp)
      have h2:=(h y).2 (by simp)
      rcases List.mem_cons.1 h1 with e|h1
      · exact e
      · rcases List.mem_cons.1 h2 with e|h2
        · exact e.symm
        · exact absurd (hb1 x h1) (cmp_asym (ha1 y h2))
    subst hxy
    rw [LA ha2 hb2]
    intro o
    have:=h o
    simp only [List.mem_cons] at this
    constructor
    · intro ho
      rcases this.1 (.inr ho) with e|h2
      · subst e;exact absurd (ha1 o ho) OG
      · exact h2
    · intro ho
      rcases this.2 (.inr ho) with e|h2
      · subst e;exact absurd (hb1 o ho) OG
      · exact h2
theorem IC (a b:List DeviceOp) (o:DeviceOp):o∈BO a b↔o∈a∨o∈b:=by
  induction a,b using BO.induct with
  | case1 b=>simp [BO]
  | case2 x a=>simp [BO]
  | case3 x a y b h ih=>rw [BO,if_pos h,List.mem_cons,ih,List.mem_cons (l:=a)];exact or_assoc.symm
  | case4 x a y b h h2 ih=>
    rw [BO,if_neg h,if_pos h2,List.mem_cons,ih,List.mem_cons (l:=b)]
    constructor
    · rintro (h|h|h);exact .inr (.inl h);exact .inl h;exact .inr (.inr h)
    · rintro (h|h|h);exact .inr (.inl h);exact .inl h;exact .inr (.inr h)
  | case5 x a y b h h2 ih=>
    have e:x=y:=cmp_eq (by omega)
    subst e
    rw [BO,if_neg h,if_neg h2,List.mem_cons,ih,List.mem_cons,List.mem_cons]
    constructor
    · rintro (h|h|h);exact .inl (.inl h);exact .inl (.inr h);exact .inr (.inr h)
    · rintro ((h|h)|h|h);exact .inl h;exact .inr (.inl h);exact .inl h;exact .inr (.inr h)
theorem QA (a b:List DeviceOp) (ha:EV a) (hb:EV b):EV (BO a b):=by
  induction a,b using BO.induct with
  | case1 b=>rw [BO];exact hb
  | case2 x a=>rw [BO];exact ha
  | case3 x a y b h ih=>
    obtain ⟨ha1,ha2⟩:=List.pairwise_cons.1 ha
    obtain ⟨hb1,hb2⟩:=List.pairwise_cons.1 hb
    rw [BO,if_pos h]
    refine List.pairwise_cons.2 ⟨fun z hz=>?_,ih ha2 hb⟩
    rcases (IC _ _ _).1 hz with hz|hz
    · exact ha1 z hz
    · rcases List.mem_cons.1 hz with e|hz
      · subst e;exact h
      · exact HY h (by have:=hb1 z hz;omega)
  | case4 x a y b h h2 ih=>
    obtain ⟨ha1,ha2⟩:=List.pairwise_cons.1 ha
    obtain ⟨hb1,hb2⟩:=List.pairwise_cons.1 hb
    have h3:DE y x<0:=by have:=PA x y;omega
    rw [BO,if_neg h,if_pos h2]
    refine List.pairwise_cons.2 ⟨fun z hz=>?_,ih ha hb2⟩
    rcases (IC _ _ _).1 hz with hz|hz
    · rcases List.mem_cons.1 hz with e|hz
      · subst e;exact h3
      · exact HY h3 (by have:=ha1 z hz;omega)
    · exact hb1 z hz
  | case5 x a y b h h2 ih=>
    obtain ⟨ha1,ha2⟩:=List.pairwise_cons.1 ha
    obtain ⟨hb1,hb2⟩:=List.pairwise_cons.1 hb
    have e:x=y:=cmp_eq (by omega)
    subst e
    rw [BO,if_neg h,if_neg h2]
    refine List.pairwise_cons.2 ⟨fun z hz=>?_,ih ha2 hb2⟩
    rcases (IC _ _ _).1 hz with hz|hz
    · exact ha1 z hz
    · exact hb1 z hz
theorem twM_split {l:List DeviceOp} (hs:EV l) (o:DeviceOp):(∀ x∈l.take (twM l o),DE x o<0)∧(∀ x∈l.drop (twM l o),¬ DE x o<0):=by
  unfold twM PM
  induction l with
  | nil=>simp
  | cons x l ih=>
    obtain ⟨h1,h2⟩:=List.pairwise_cons.1 hs
    by_cases h:DE x o<0
    · have:=ih h2
      rw [List.takeWhile_cons_of_pos (by simpa using h)]
      simp only [List.length_cons,List.take_succ_cons,List.drop_succ_cons,List.mem_cons]
      exact ⟨by rintro y (e|hy);subst e;exact h;exact this.1 y hy,this.2⟩
    · rw [List.takeWhile_cons_of_neg (by simpa using h)]
      simp only [List.length_nil,List.take_zero,List.drop_zero]
      refine ⟨fun y hy=>by simp at hy,fun y hy=>?_⟩
      rcases List.mem_cons.1 hy with e|hy
      · subst e;exact h
      · exact fun h3=>h (HY (h1 y hy) (by omega))
theorem ML (l:List DeviceOp) (o x:DeviceOp):x∈NZ l o↔x=o∨x∈l:=by
  unfold NZ
  simp only [List.mem_append,List.mem_singleton]
  conv=>rhs;rw [← List.take_append_drop (twM l o) l]
  rw [List.mem_append]
  constructor
  · rintro ((h|h)|h);exact .inr (.inl h);exact .inl h;exact .inr (.inr h)
  · rintro (h|h|h);exact .inl (.inr h);exact .inl (.inl h);exact .inr h
theorem len_insM (l:List DeviceOp) (o:DeviceOp):(NZ l o).length=l.length+1:=by
  unfold NZ
  have:twM l o≤l.length:=tw2_le _ _ _
  simp only [List.length_append,List.length_take,List.length_drop,List.length_cons,List.length_nil];omega
theorem sorted_insM {l:List DeviceOp} (hs:EV l) {o:DeviceOp} (ho:o∉l):EV (NZ l o):=by
  obtain ⟨h1,h2⟩:=twM_split hs o
  have hs':=hs
  unfold EV at hs'
  rw [← List.take_append_drop (twM l o) l,List.pairwise_append] at hs'
  obtain ⟨p1,p2,p3⟩:=hs'
  have h3:∀ x∈l.drop (twM l o),DE o x<0:=fun x hx=>by
    rcases cmp_total o x with h|h|h
    · exact h
    · subst h;exact absurd (List.mem_of_mem_drop hx) ho
    · exact absurd h (h2 x hx)
  unfold NZ EV
  rw [List.append_assoc,List.pairwise_append]
  refine ⟨p1,?_,?_⟩
  · rw [List.singleton_append]
    exact List.pairwise_cons.2 ⟨h3,p2⟩
  · intro a ha b hb
    rcases List.mem_append.1 hb with hb|hb
    · rw [List.mem_singleton.1 hb];exact h1 a ha
    · exact p3 a ha b hb
def JU (l:List DeviceOp) (o:DeviceOp):Bool:=l.any (fun p=>DH p == DH o)
theorem QP (l:List DeviceOp) (o:DeviceOp):JU l o=true↔∃ p∈l,DH p=DH o:=by simp [JU,List.any_eq_true]
theorem numInj_ins {l:List DeviceOp} (h:LG l) {o:DeviceOp} (hc:JU l o=false):LG (NZ l o):=by
  have hc':∀ p∈l,DH p≠DH o:=fun p hp e=>by
    rw [← Bool.not_eq_true,QP] at hc;exact hc ⟨p,hp,e⟩
  intro x hx y hy e
  rcases (ML _ _ _).1 hx with e1|h1 <;> rcases (ML _ _ _).1 hy with e2|h2
  · rw [e1,e2]
  · rw [e1] at e;exact absurd e.symm (hc' y h2)
  · rw [e2] at e;exact absurd e (hc' x h1)
  · exact h x h1 y h2 e
theorem add_cases (l:List DeviceOp) (o:DeviceOp):(CQ l o=(l,0)∧MA l∧BV o=true∧o∈l)∨(CQ l o=(NZ l o,0)∧MA l∧BV o=true∧o∉l∧JU l o=false∧l.length<256∧MA (NZ l o))∨(CQ l o=([],420)∧(¬ MA l∨BV o=false∨(o∉l∧JU l o=true)))∨(CQ l o=([],2)∧MA l∧BV o=true∧o∉l∧JU l o=false∧l.length=256):=by
  by_cases h:BR l=0
  · have hok:=(CZ l).1 h
    cases hv:BV o with
    | false=>exact .inr (.inr (.inl ⟨add_2 hv, .inr (.inl rfl)⟩))
    | true=>
      cases hm:l.contains o with
      | true=>exact .inl ⟨add_3 h hv hm,hok,rfl,by simpa using hm⟩
      | false=>
        have hm':o∉l:=by simpa using hm
        cases hc:JU l o with
        | true=>exact .inr (.inr (.inl ⟨add_4 h hv hm hc, .inr (.inr ⟨hm',rfl⟩)⟩))
        | false=>
          by_cases hl:(l.length:Int)=256
          · exact .inr (.inr (.inr ⟨add_5 h hv hm hc hl,hok,rfl,hm',rfl,by omega⟩))
          · have hlt:l.length<256:=by have:=hok.1;omega
            refine .inr (.inl ⟨add_6 h hv hm hc hl,hok,rfl,hm',rfl,hlt,?_⟩)
            refine ⟨by rw [len_insM];omega,fun x hx=>?_,sorted_insM hok.2.2.1 hm',numInj_ins hok.2.2.2 hc⟩
            rcases (ML _ _ _).1 hx with rfl|hx
            · exact hv
            · exact hok.2.1 x hx
  · exact .inr (.inr (.inl ⟨add_1 h, .inl fun h2=>h ((CZ l).2 h2)⟩))
theorem add_ok {l:List DeviceOp} {o:DeviceOp} (h:(CQ l o).2=0):MA l∧BV o=true∧MA (CQ l o).1∧∀ x,x∈(CQ l o).1↔x=o∨x∈l:=by
  rcases add_cases l o with ⟨e,h1,h2,h3⟩|⟨e,h1,h2,h3,h4,h5,h6⟩|⟨e,_⟩|⟨e,_⟩
  · rw [e];exact ⟨h1,h2,h1,fun x=>⟨.inr,fun h=>h.elim (fun e=>e ▸ h3) id⟩⟩
  · rw [e];exact ⟨h1,h2,h6,fun x=>ML _ _ _⟩
  · rw [e] at h;cases h
  · rw [e] at h;cases h
theorem add_in {l:List DeviceOp} {o:DeviceOp} (hl:MA l) (hv:BV o=true) (hm:o∈l):CQ l o=(l,0):=add_3 ((CZ l).2 hl) hv (by simpa using hm)
theorem add_new {l:List DeviceOp} {o:DeviceOp} (hl:MA l) (hv:BV o=true) (hm:o∉l) (hc:∀ p∈l,DH p≠DH o) (hn:l.length<256):CQ l o=(NZ l o,0):=
  add_6 ((CZ l).2 hl) hv (by simpa using hm) (by
    have:JU l o=false:=by rw [← Bool.not_eq_true,QP];rintro ⟨p,hp,e⟩;exact hc p hp e
    exact this) (by omega)
theorem merge_cases (a b:List DeviceOp):(BW a b=(BO a b,0)∧MA a∧MA b∧MA (BO a b))∨(BW a b=([],420)∧(¬ MA a∨¬ MA b∨¬ LG (BO a b)))∨(BW a b=([],2)∧MA a∧MA b∧LG (BO a b)∧256<(BO a b).length):=by
  by_cases h1:BR a=0
  · by_cases h2:BR b=0
    · have o1:=(CZ a).1 h1
      have o2:=(CZ b).1 h2
      have hs:=QA a b o1.2.2.1 o2.2.2.1
      cases h3:CO (BO a b) with
      | false=>
        refine .inr (.inl ⟨merge_3 h1 h2 h3, .inr (.inr fun hi=>?_)⟩)
        rw [(HS _).2 ((JM hs).2 hi)] at h3;cases h3
      | true=>
        have hi:=(JM hs).1 ((HS _).1 h3)
        by_cases h4:256<((BO a b).length:Int)
        · exact .inr (.inr ⟨merge_4 h1 h2 h3 h4,o1,o2,hi,by omega⟩)
        · refine .inl ⟨merge_5 h1 h2 h3 (by omega),o1,o2,by omega,fun x hx=>?_,hs,hi⟩
          rcases (IC _ _ _).1 hx with hx|hx
          · exact o1.2.1 x hx
          · exact o2.2.1 x hx
    · exact .inr (.inl ⟨merge_2 h2, .inr (.inl fun h=>h2 ((CZ b).2 h))⟩)
  · exact .inr (.inl ⟨merge_1 h1, .inl fun h=>h1 ((CZ a).2 h)⟩)
theorem merge_ok {a b:List DeviceOp} (h:(BW a b).2=0):MA a∧MA b∧MA (BW a b).1∧∀ x,x∈(BW a b).1↔x∈a∨x∈b:=by
  rcases merge_cases a b with ⟨e,h1,h2,h3⟩|⟨e,_⟩|⟨e,_⟩
  · rw [e];exact ⟨h1,h2,h3,fun x=>IC _ _ _⟩
  · rw [e] at h;cases h
  · rw [e] at h;cases h
section
variable {a b x:List DeviceOp} {p q p2:Nat} {n:Int} {o:DeviceOp}
theorem cut_b (h5:(p=a.length∧q<b.length∧n=1)∨(p<a.length∧q=b.length∧n = -1)∨(p<a.length∧q<b.length∧n=DE (a.drop p)[0]! (b.drop q)[0]!)) (h36:(n≤0∧p<a.length∧p2=p+1∧o=(a.drop p)[0]!)∨(0<n∧q<b.length∧p2=p)) (hn:0≤n) (hx:x++BO (a.drop p) (b.drop q)=BO a b):x++[(b.drop q)[0]!]++BO (a.drop p2) (b.drop (q+1))=BO a b:=by
  have hp:=List.length_drop (i:=p) (l:=a)
  have hq:=List.length_drop (i:=q) (l:=b)
  rw [List.append_assoc,← hx]
  refine congrArg (x ++ ·) ?_
  rcases h36 with ⟨h1,h2,h3,h4⟩|⟨h1,h2,h3⟩ <;> rcases h5 with ⟨hc1,hc2,hc3⟩|⟨hc1,hc2,hc3⟩|⟨hc1,hc2,hc3⟩ <;> subst h3
  · omega
  · omega
  · exact (ms5 (by omega) (by omega) (by omega)).symm
  · exact (ms1 (by omega) (by omega)).symm
  · omega
  · exact (ms4 (by omega) (by omega) (by omega)).symm
theorem cut_a (h5:(p=a.length∧q<b.length∧n=1)∨(p<a.length∧q=b.length∧n = -1)∨(p<a.length∧q<b.length∧n=DE (a.drop p)[0]! (b.drop q)[0]!)) (h36:(n≤0∧p<a.length∧p2=p+1∧o=(a.drop p)[0]!)∨(0<n∧q<b.length∧p2=p)) (hn:n<0) (hx:x++BO (a.drop p) (b.drop q)=BO a b):x++[o]++BO (a.drop p2) (b.drop q)=BO a b:=by
  have hp:=List.length_drop (i:=p) (l:=a)
  have hq:=List.length_drop (i:=q) (l:=b)
  rw [List.append_assoc,← hx]
  refine congrArg (x ++ ·) ?_
  rcases h36 with ⟨h1,h2,h3,h4⟩|⟨h1,h2,h3⟩ <;> rcases h5 with ⟨hc1,hc2,hc3⟩|⟨hc1,hc2,hc3⟩|⟨hc1,hc2,hc3⟩ <;> subst h3 <;> try subst h4
  · omega
  · exact (ms2 (by omega) (by omega)).symm
  · exact (ms3 (by omega) (by omega) (by omega)).symm
  · omega
  · omega
  · omega
end
def FP (h:Holding) (o:DeviceOp):Holding:=
  if ((o.token != h.token+1 || o.device != h.device) || h.shown) then h else if o.kind == 2 then ⟨h.copy,h.device,o.token,true⟩ else ⟨h.copy,o.to,o.token,h.shown⟩
def QI (l:List DeviceOp) (c first:Int):Holding:=(l.filter (fun o=>o.copy == c)).foldl FP (EM c first)
theorem NH (l:List DeviceOp) (first c:Int):∀ k,k≤l.length→(mapM l first k c).getD (EM c first)=QI (l.take k) c first
  | 0,_=>rfl
  | k+1,h=>by
    have ih:=NH l first c k (by omega)
    rw [JO (by omega),show mapM l first (k+1)=GX first (mapM l first k) l[k]! from rfl]
    unfold QI at ih ⊢
    rw [List.filter_append,List.foldl_append,← ih]
    generalize l[k]! = x
    generalize mapM l first k=M
    unfold GX
    by_cases e:x.copy=c
    · have ef:List.filter (fun o=>o.copy == c) [x]=[x]:=by simp [e]
      rw [ef]
      simp only [List.foldl_cons,List.foldl_nil]
      rw [e]
      unfold FP
      split
      · rfl
      · unfold upM;simp
    · have ef:List.filter (fun o=>o.copy == c) [x]=[]:=by simp [e]
      rw [ef]
      simp only [List.foldl_nil]
      split
      · rfl
      · unfold upM
        have:(c == x.copy)=false:=by simpa using fun h=>e h.symm
        rw [this];rfl
section
variable {l:List DeviceOp} {first:Int} {k:Nat} {h:Holding}
theorem PD (hh:h=(mapM l first k l[k]!.copy).getD (EM l[k]!.copy first)) (hc:l[k]!.token≠h.token+1∨l[k]!.device≠h.device∨h.shown=true):mapM l first (k+1)=mapM l first k:=by
  show GX first (mapM l first k) l[k]! = _
  unfold GX
  rw [← hh,if_pos]
  simp only [dbs]
  rcases hc with hc|hc|hc
  · exact .inl (.inl hc)
  · exact .inl (.inr hc)
  · exact .inr hc
theorem map_show (hh:h=(mapM l first k l[k]!.copy).getD (EM l[k]!.copy first)) (h1:l[k]!.token=h.token+1) (h2:l[k]!.device=h.device) (h3:h.shown=false) (h4:l[k]!.kind=2):mapM l first (k+1)=upM (mapM l first k) l[k]!.copy ⟨h.copy,h.device,l[k]!.token,true⟩:=by
  show GX first (mapM l first k) l[k]! = _
  unfold GX
  rw [← hh,if_neg (by simp only [dbs];rw [h1,h2,h3];simp),if_pos (by simpa using h4)]
theorem map_give (hh:h=(mapM l first k l[k]!.copy).getD (EM l[k]!.copy first)) (h1:l[k]!.token=h.token+1) (h2:l[k]!.device=h.device) (h3:h.shown=false) (h4:l[k]!.kind≠2):mapM l first (k+1)=upM (mapM l first k) l[k]!.copy ⟨h.copy,l[k]!.to,l[k]!.token,h.shown⟩:=by
  show GX first (mapM l first k) l[k]! = _
  unfold GX
  rw [← hh,if_neg (by simp only [dbs];rw [h1,h2,h3];simp),if_neg (by simpa using h4)]
theorem QU {M:Option Holding} {z d:Holding} (h:M.isSome=true):M.getD z=M.getD d:=by cases M <;> simp_all
theorem RD {M:Option Holding} {d:Holding} (h:M.isSome=false):d=M.getD d:=by cases M <;> simp_all
theorem JF (l:List DeviceOp) (first:Int) (n:Nat):(FM l first n).length=n:=by simp [FM]
theorem holdsM_at {l:List DeviceOp} {first:Int} {n k:Nat} (h:k<n):(FM l first n)[k]! = DI l first (k:Int):=by
  rw [getElem!_pos _ k (by rw [JF];exact h)];simp [FM]
variable {copies device copy:Int}
theorem state_1 (h:BR l≠0):AI l copies first=([],420):=by unfold AI;rw [if_pos (by simpa using h)]
theorem state_2 (h:BR l=0) (h2:copies<0):AI l copies first=([],1):=by unfold AI;rw [if_neg (by simpa using h),if_pos (by simp only [dbs];exact .inl (.inl h2))]
theorem state_3 (h:BR l=0) (h2:1024<copies):AI l copies first=([],1):=by unfold AI;rw [if_neg (by simpa using h),if_pos (by simp only [dbs];exact .inl (.inr h2))]
theorem state_4 (h:BR l=0) (h2:CN first=false):AI l copies first=([],1):=by unfold AI;rw [if_neg (by simpa using h),if_pos (by simp only [dbs];exact .inr h2)]
theorem OM (h:BR l=0) (h1:0≤copies) (h2:copies≤1024) (h3:CN first=true):AI l copies first=(FM l first copies.toNat,0):=by
  unfold AI;rw [if_neg (by simpa using h),if_neg (by rw [Bool.not_eq_true];simp only [dbs];exact ⟨⟨by omega,by omega⟩,h3⟩)]
theorem state_cases (l:List DeviceOp) (copies first:Int):(AI l copies first=(FM l first copies.toNat,0)∧MA l∧0≤copies∧copies≤1024∧CN first=true)∨(AI l copies first=([],420)∧¬ MA l)∨(AI l copies first=([],1)∧MA l∧(copies<0∨1024<copies∨CN first=false)):=by
  by_cases h:BR l=0
  · by_cases h1:copies<0
    · exact .inr (.inr ⟨state_2 h h1,(CZ l).1 h, .inl h1⟩)
    · by_cases h2:1024<copies
      · exact .inr (.inr ⟨state_3 h h2,(CZ l).1 h, .inr (.inl h2)⟩)
      · cases h3:CN first with
        | false=>exact .inr (.inr ⟨state_4 h h3,(CZ l).1 h, .inr (.inr rfl)⟩)
        | true=>exact .inl ⟨OM h (by omega) (by omega) h3,(CZ l).1 h,by omega,by omega,rfl⟩
  · exact .inr (.inl ⟨state_1 h,fun h2=>h ((CZ l).2 h2)⟩)
theorem PW (h:(AI l copies first).2=0):(AI l copies first).1=FM l first copies.toNat∧MA l∧0≤copies∧copies≤1024∧CN first=true:=by
  rcases state_cases l copies first with ⟨e,h1⟩|⟨e,_⟩|⟨e,_⟩
  · rw [e];exact ⟨rfl,h1⟩
  · rw [e] at h;cases h
  · rw [e] at h;cases h
theorem FB (h:(AI l copies first).2=0):(AI l copies first).1.length=copies.toNat:=by rw [(PW h).1,JF]
theorem may_1 (h:(AI l copies first).2≠0):BY l copies first device copy=(false,(AI l copies first).2):=by unfold BY;rw [if_pos (by simpa using h)]
theorem MM (h:(AI l copies first).2=0) (h2:CN device=false∨copy<0∨copies≤copy):BY l copies first device copy=(false,1):=by
  unfold BY;rw [if_neg (by simpa using h),if_pos]
  simp only [dbs]
  rcases h2 with h2|h2|h2
  · exact .inl (.inl h2)
  · exact .inl (.inr h2)
  · exact .inr h2
theorem may_3 (h:(AI l copies first).2=0) (h1:CN device=true) (h2:0≤copy) (h3:copy<copies) (h4:(AI l copies first).1[copy.toNat]!.device≠device):BY l copies first device copy=(false,0):=by
  unfold BY;rw [if_neg (by simpa using h),if_neg (by rw [Bool.not_eq_true];simp only [dbs];exact ⟨⟨h1,by omega⟩,by omega⟩)]
  rw [show ((AI l copies first).1[copy.toNat]!.device == device)=false from beq_eq_false_iff_ne.2 h4];rfl
theorem may_4 (h:(AI l copies first).2=0) (h1:CN device=true) (h2:0≤copy) (h3:copy<copies) (h4:(AI l copies first).1[copy.toNat]!.device=device):BY l copies first device copy=(!(AI l copies first).1[copy.toNat]!.shown,0):=by
  unfold BY;rw [if_neg (by simpa using h),if_neg (by rw [Bool.not_eq_true];simp only [dbs];exact ⟨⟨h1,by omega⟩,by omega⟩)]
  rw [show ((AI l copies first).1[copy.toNat]!.device == device)=true from beq_iff_eq.2 h4];rfl
end
theorem LK (l:List DeviceOp) (first c:Int):DI l first c=QI l c first:=by
  unfold DI;rw [NH l first c _ (Nat.le_refl _),List.take_length]
theorem valid_tok {o:DeviceOp} (h:BV o=true):0≤o.token∧o.token≤65536:=by
  unfold BV at h
  split at h
  · cases h
  · rename_i hh
    rw [Bool.not_eq_true] at hh
    simp only [dbs] at hh
    omega
theorem step_tok {h:Holding} {o:DeviceOp} (hv:BV o=true) (hh:0≤h.token∧h.token≤65536):0≤(FP h o).token∧(FP h o).token≤65536:=by
  have:=valid_tok hv
  unfold FP
  split
  · exact hh
  · split <;> exact this
theorem QX:∀ (l:List DeviceOp) (h:Holding),(∀ o∈l,BV o=true)→0≤h.token∧h.token≤65536→0≤(l.foldl FP h).token∧(l.foldl FP h).token≤65536
  | [],h,_,hh=>hh
  | o :: l,h,hv,hh=>QX l (FP h o) (fun x hx=>hv x (List.mem_cons_of_mem _ hx)) (step_tok (hv o List.mem_cons_self) hh)
theorem QH {l:List DeviceOp} (hv:∀ o∈l,BV o=true) (c first:Int):0≤(QI l c first).token∧(QI l c first).token≤65536:=
  QX _ _ (fun o ho=>hv o (List.mem_filter.1 ho).1) ⟨by simp [EM],by simp [EM]⟩
theorem OF {l:List DeviceOp} (hl:MA l) {first c:Int} {k:Nat} (hk:k≤l.length) {h:Holding} (hh:h=(mapM l first k c).getD (EM c first)):0≤h.token∧h.token≤65536:=by
  rw [hh,NH l first c k hk];exact QH (fun o ho=>hl.2.1 o (List.mem_of_mem_take ho)) c first
end Go.Proofs.Ytjpniibleelgiaa
