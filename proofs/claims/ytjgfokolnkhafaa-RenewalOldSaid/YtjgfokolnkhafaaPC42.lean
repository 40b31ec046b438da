/- What the laws of this part rest on: lemmas, and the walks of the functions. No conditions. -/
import Derived.WalkKit
import Derived.WalkSpells
import Derived.WalkLawsBesides
import Derived.RangeFuncLeaves
import Derived.Maps.AppendAt
import Derived.Deep.AppendLies
import Derived.Deep.Slices
import Derived.OpenShut
import Derived.ProofKit
import Derived.Below
import Derived.ChangeSame
import Derived.Carry
import Derived.RangeFuncRecord
import Derived.Laws.Tables
import Derived.Recover
import Derived.DefersIn
import Derived.Lib.AppendZerosOnto
import Derived.Lib.Overlaps
import Derived.Laws.CopyRow
import Derived.Laws.StructEq
import Derived.ChangeKeysEq
import Derived.OrdersIn
import Derived.Test.YtjgfokolnkhafaaRows
import Derived.Test.YtjgfokolnkhafaaPC41
set_option linter.unusedSimpArgs false
set_option linter.unusedVariables false
namespace Go.Fw
open Go.RowKit
def FY (cur:List Value) (o:Nat) (ms:List Value):List Value:=cur.take o++ms++cur.drop (o+ms.length)
theorem MK {cur:List Value} {o:Nat} {ms:List Value} (h:o+ms.length≤cur.length):(FY cur o ms).length=cur.length:=by
  simp [FY];omega
theorem Keep.step0 {C O:List Nat} {w w1 w2:World} (h:Keep C w w1) (k:Keep O w1 w2) (hs:∀ b∈O,b∈C∨w.heap.size≤b):Keep C w w2:=
  ⟨k.os.trans h.os,k.tape.trans h.tape,k.output.trans h.output,Nat.le_trans h.size k.size,fun i hi ho=>(k.block i (Nat.lt_of_lt_of_le hi h.size) (fun hO=>by rcases hs i hO with h1|h1;exact ho h1;omega)).trans (h.block i hi ho)⟩
def Rds {α:Type} (E:Enc α) (w:World) (O:List Nat) (css:List (List Value)) (l:List α):Prop:=
  css.length=l.length∧∀ (i:Nat) (cs:List Value) (x:α),css[i]? = some cs→l[i]? = some x→E.rd w O cs x
theorem own_open {α:Type} {E:Enc α} {e base:Nat} {O:List Nat} {w:World} {v:Value} {l:List α} (h:EJ E e base O w v l) (h0:0<l.length) :
    ∃ g c cur css,v = .slice (some ⟨g,0,none⟩) l.length c∧base≤g∧GQ w g e cur∧l.length≤c∧c≤maxLen∧cur.length=c*E.size∧css.flatten=cur.take (l.length*E.size)∧Rds E w O css l:=by
  obtain ⟨css,h1,h2,h3⟩:=h
  rcases h2.2 with ⟨rfl,h4⟩|⟨g,cap,cur,rfl,hb,hg,hc,hm,hsz,htk⟩
  · omega
  · exact ⟨g,cap,cur.toList,css,rfl,hb,hg,hc,hm,by simpa using hsz,htk.symm,h1,h3⟩
theorem Rds.lens {α:Type} {E:Enc α} {w:World} {O:List Nat} {css:List (List Value)} {l:List α} (h:Rds E w O css l):∀ cs∈css,cs.length=E.size:=EJ.lens h.1 h.2
theorem Rds.ones {α:Type} {E:Enc α} {w:World} {O:List Nat} {css:List (List Value)} {l:List α} (h:Rds E w O css l):∀ u∈css.flatten,u.oneCell'=true:=by
  intro u hu
  obtain ⟨cs,hcs,hucs⟩:=List.mem_flatten.1 hu
  obtain ⟨j,hj,rfl⟩:=List.getElem_of_mem hcs
  have hjl:j<l.length:=by rw [← h.1];exact hj
  exact E.one (h.2 j _ l[j] (List.getElem?_eq_getElem hj) (List.getElem?_eq_getElem hjl)) u hucs
theorem Rds.flen {α:Type} {E:Enc α} {w:World} {O:List Nat} {css:List (List Value)} {l:List α} (h:Rds E w O css l):css.flatten.length=l.length*E.size:=by rw [EY css h.lens,h.1]
theorem EJ.ins {α:Type} {E:Enc α} {e base:Nat} {B B' O0:List Nat} {w1 w':World} {g c i:Nat} {cur:List Value} {css css':List (List Value)} {l m:List α} (hl:Rds E w1 (B++O0) css l) (hm:Rds E w1 (B++O0) css' m) (mv:Mv B w1 B' w')
    (hb:GQ w' g e cur) (hg:base≤g) (hi:i≤l.length) (hlen:cur.length=c*E.size) (hc:l.length+m.length≤c) (hmax:c≤maxLen) (htk:cur.take ((l.length+m.length)*E.size)=(css.take i).flatten++css'.flatten++(css.drop i).flatten) :
    EJ E e base (B'++O0) w' (.slice (some ⟨g,0,none⟩) (l.length+m.length) c) (l.take i++m++l.drop i):=by
  have hll:(l.take i++m++l.drop i).length=l.length+m.length:=by simp;omega
  refine ⟨css.take i++css'++css.drop i,?_,⟨?_, .inr ⟨g,c,cur.toArray,by rw [hll],hg,hb,by rw [hll];exact hc,hmax,by simpa using hlen,by rw [hll];simpa using htk⟩⟩,?_⟩
  · simp [hl.1,hm.1]
  · rw [hll]
    have e1:(css.take i++css'++css.drop i).flatten=(css.take i).flatten++css'.flatten++(css.drop i).flatten:=by simp
    rw [e1,← htk,List.length_take]
    exact Nat.min_eq_left (by rw [hlen];exact Nat.mul_le_mul_right _ hc)
  · intro j cs x hj hx
    have e1:(css.take i).length=i:=by rw [List.length_take,hl.1];omega
    have e2:(l.take i).length=i:=by rw [List.length_take];omega
    rw [List.append_assoc] at hj hx
    by_cases h1:j<i
    · rw [List.getElem?_append_left (by omega),List.getElem?_take,if_pos h1] at hj
      rw [List.getElem?_append_left (by omega),List.getElem?_take,if_pos h1] at hx
      exact E.mv (hl.2 j cs x hj hx) mv
    · rw [List.getElem?_append_right (by omega),e1] at hj
      rw [List.getElem?_append_right (by omega),e2] at hx
      by_cases h2:j - i<m.length
      · rw [List.getElem?_append_left (by rw [hm.1];exact h2)] at hj
        rw [List.getElem?_append_left h2] at hx
        exact E.mv (hm.2 _ cs x hj hx) mv
      · rw [List.getElem?_append_right (by rw [hm.1];omega),List.getElem?_drop,hm.1] at hj
        rw [List.getElem?_append_right (by omega),List.getElem?_drop] at hx
        exact E.mv (hl.2 _ cs x hj hx) mv
section
variable {cur cu cur1:List Value} {css css':List (List Value)} {n m i c G s:Nat}
theorem part_A (hcur:css.flatten=cur.take (n*s)) (hl:∀ cs∈css,cs.length=s) (hn:css.length=n) (hi:i≤n) (hc:n*s≤cur.length):(css.take i).flatten=cur.take (i*s):=by
  have h1:css.flatten=(css.take i).flatten++(css.drop i).flatten:=by rw [← List.flatten_append,List.take_append_drop]
  have h2:(css.take i).flatten.length=i*s:=by
    rw [EY _ (fun c hc=>hl c (List.mem_of_mem_take hc)),List.length_take,hn,Nat.min_eq_left hi]
  have h3:(css.flatten).take (i*s)=(css.take i).flatten:=by rw [h1,← h2,List.take_left]
  rw [← h3,hcur,List.take_take,Nat.min_eq_left (Nat.mul_le_mul_right _ hi)]
theorem part_B (hcur:css.flatten=cur.take (n*s)) (hl:∀ cs∈css,cs.length=s) (hn:css.length=n) (hi:i≤n) (hc:n*s≤cur.length):(css.drop i).flatten=(cur.drop (i*s)).take ((n - i)*s):=by
  have h1:css.flatten=(css.take i).flatten++(css.drop i).flatten:=by rw [← List.flatten_append,List.take_append_drop]
  have h2:(css.take i).flatten.length=i*s:=by
    rw [EY _ (fun c hc=>hl c (List.mem_of_mem_take hc)),List.length_take,hn,Nat.min_eq_left hi]
  have h3:(css.flatten).drop (i*s)=(css.drop i).flatten:=by rw [h1,← h2,List.drop_left]
  rw [← h3,hcur,List.drop_take,Nat.sub_mul]
theorem ones_drop {α:Type} {E:Enc α} {w:World} {O:List Nat} {l:List α} (h:Rds E w O css l) (hcur:css.flatten=cur.take (l.length*E.size)) (hi:i≤l.length) (hc:l.length*E.size≤cur.length):∀ u∈(cur.drop (i*E.size)).take ((l.length - i)*E.size),u.oneCell'=true:=by
  rw [← part_B hcur h.lens h.1 hi hc]
  intro u hu
  refine h.ones u ?_
  obtain ⟨x,hx,hux⟩:=List.mem_flatten.1 hu
  exact List.mem_flatten.2 ⟨x,List.mem_of_mem_drop hx,hux⟩
theorem ones_all {α:Type} {E:Enc α} {w:World} {O:List Nat} {l:List α} (h:Rds E w O css l) (hcur:css.flatten=cur.take (l.length*E.size)):∀ u∈(cur.drop 0).take (l.length*E.size),u.oneCell'=true:=by
  rw [List.drop_zero,← hcur];exact h.ones
theorem tk_grow (hcur:css.flatten=cur.take (n*s)) (hl:∀ cs∈css,cs.length=s) (hn:css.length=n) (hi:i≤n) (hc:n*s≤cur.length) (hcu:css'.flatten=cu.take (m*s)) (hm:css'.flatten.length=m*s)
    (h1:cur1.take (i*s)=cur.take (i*s)) (hG:(n+m)*s≤cur1.length) :
    (FY (FY cur1 (i*s) ((cu.drop 0).take (m*s))) ((i+m)*s) ((cur.drop (i*s)).take ((n - i)*s))).take ((n+m)*s)=(css.take i).flatten++css'.flatten++(css.drop i).flatten:=by
  have hA:=part_A hcur hl hn hi hc
  have hB:=part_B hcur hl hn hi hc
  have ha:(css.take i).flatten.length=i*s:=by rw [hA,List.length_take];exact Nat.min_eq_left (Nat.le_trans (Nat.mul_le_mul_right _ hi) hc)
  have hb:(css.drop i).flatten.length=(n - i)*s:=by
    rw [EY _ (fun c hc=>hl c (List.mem_of_mem_drop hc)),List.length_drop,hn]
  have e1:(n+m)*s=i*s+m*s+(n - i)*s:=by rw [← Nat.add_mul,← Nat.add_mul];congr 1;omega
  have e2:(i+m)*s=i*s+m*s:=Nat.add_mul _ _ _
  have hc1:cur1=(css.take i).flatten++cur1.drop (i*s):=by rw [hA,← h1,List.take_append_drop]
  rw [List.drop_zero,← hcu,← hB,e1,e2]
  clear hcu hcur hA hB
  generalize (css.take i).flatten=A at ha hc1 ⊢
  generalize css'.flatten=M at hm ⊢
  generalize (css.drop i).flatten=B at hb ⊢
  generalize cur1.drop (i*s)=T at hc1
  have hs1:FY cur1 (i*s) M=A++M++T.drop M.length:=by
    unfold FY
    rw [hc1,← ha,List.take_left,List.drop_length_add_append]
  rw [hs1]
  unfold FY
  rw [← ha,← hm,← List.length_append,List.take_left,← hb]
  rw [← @List.length_append _ (A++M) _,List.take_left]
theorem tk_shift (hcur:css.flatten=cur.take (n*s)) (hl:∀ cs∈css,cs.length=s) (hn:css.length=n) (hi:i≤n) (hc:(n+m)*s≤cur.length) (hcu:css'.flatten=cu.take (m*s)) (hm:css'.flatten.length=m*s) :
    (FY (FY cur ((i+m)*s) ((cur.drop (i*s)).take ((n - i)*s))) (i*s) ((cu.drop 0).take (m*s))).take ((n+m)*s)=(css.take i).flatten++css'.flatten++(css.drop i).flatten:=by
  have hns:n*s≤(n+m)*s:=Nat.mul_le_mul_right _ (by omega)
  have hA:=part_A hcur hl hn hi (by omega)
  have hB:=part_B hcur hl hn hi (by omega)
  have ha:(css.take i).flatten.length=i*s:=by rw [hA,List.length_take];exact Nat.min_eq_left (Nat.le_trans (Nat.mul_le_mul_right _ hi) (by omega))
  have hb:(css.drop i).flatten.length=(n - i)*s:=by
    rw [EY _ (fun c hc=>hl c (List.mem_of_mem_drop hc)),List.length_drop,hn]
  have e1:(n+m)*s=i*s+m*s+(n - i)*s:=by rw [← Nat.add_mul,← Nat.add_mul];congr 1;omega
  have e2:(i+m)*s=i*s+m*s:=Nat.add_mul _ _ _
  rw [List.drop_zero,← hcu,← hB,e1,e2]
  rw [e1] at hc
  have hc1:cur=(css.take i).flatten++cur.drop (i*s):=by rw [hA,List.take_append_drop]
  clear hcu hcur hA hB
  generalize (css.take i).flatten=A at ha hc1 ⊢
  generalize css'.flatten=M at hm ⊢
  generalize (css.drop i).flatten=B at hb ⊢
  generalize cur.drop (i*s)=T at hc1
  have hTl:m*s+(n - i)*s≤T.length:=by rw [hc1] at hc;simp [ha] at hc;omega
  have hs1:FY cur (i*s+m*s) B=A++(T.take (m*s)++B++T.drop (m*s+B.length)):=by
    unfold FY
    rw [hc1,← ha,List.take_length_add_append,Nat.add_assoc,List.drop_length_add_append]
    simp
  rw [hs1]
  unfold FY
  rw [← ha,List.take_left,List.drop_length_add_append,← hm]
  have e3:(T.take M.length).length=M.length:=by rw [List.length_take];omega
  have e4:(T.take M.length++B++T.drop (M.length+B.length)).drop M.length=B++T.drop (M.length+B.length):=by
    rw [List.append_assoc]
    conv=>lhs;rw [show M.length=(T.take M.length).length from e3.symm]
    simp only [e3]
    rw [List.drop_append_of_le_length (by omega),List.drop_of_length_le (by omega),List.nil_append]
  rw [e4,← hb,← List.append_assoc,← List.length_append,← List.length_append,List.take_left]
end
section
variable {P:Program} {ty:TypeId} {F:Fr} {w:World} {K:Value→World→Prop} {Z:List PanicEntry→World→Prop} {x y:Operand}
theorem IQ {t e size:Nat} {lo:Operand} (ht:P.underlying t=some (.slice e)) (hs:DS P e=some size) (b n c i:Nat) (kk:IntKind) (nn:Int)
    (hx:CU F x = .slice (some ⟨b,0,none⟩) n c) (hlo:CU F lo = .int kk nn) (hn:nn=(i:Int)) (hi:i≤n) (hc:i<c) (hnc:n≤c) (h:K (.slice (some ⟨b,i*size,none⟩) (n - i) (c - i)) w):DL P (.slice t x (some lo) none none) ty F w K Z:=by
  subst hn
  have hb:(Instr.sliceBounds true n c (some (.int kk (i:Int))) none none).run P w = .ok (i,n,c) w:=by
    have b2:∀ code,(Instr.sliceBound (.int kk (i:Int)) n code).run P w = .ok i w:=fun code=>by
      rw [run_sliceBound (P:=P) w kk (i:Int) n code (by omega) (by omega)];rfl
    simp [Instr.sliceBounds,b2]
  refine BU ?_ h
  have hne:¬ (c=i):=by omega
  have ha:(⟨b,0,none⟩:Addr).add (i*size) = ⟨b,i*size,none⟩:=by rw [TL,Nat.zero_add]
  simp [execOp,hx,hlo,Instr.sliceAt,run_underlying ht,Instr.slice,hb,EK hs,hne,ha]
theorem VL {t e size:Nat} {hi:Operand} (ht:P.underlying t=some (.slice e)) (hs:DS P e=some size) (b o n c k:Nat) (kk:IntKind) (nn:Int)
    (hx:CU F x = .slice (some ⟨b,o,none⟩) n c) (hhi:CU F hi = .int kk nn) (hn:nn=(k:Int)) (hk:k≤c) (h:K (.slice (some ⟨b,o,none⟩) k c) w):DL P (.slice t x none (some hi) none) ty F w K Z:=by
  subst hn
  have hb:(Instr.sliceBounds true n c none (some (.int kk (k:Int))) none).run P w = .ok (0,k,c) w:=by
    have b2:∀ code,(Instr.sliceBound (.int kk (k:Int)) c code).run P w = .ok k w:=fun code=>by
      rw [run_sliceBound (P:=P) w kk (k:Int) c code (by omega) (by omega)];rfl
    simp [Instr.sliceBounds,b2]
  refine BU ?_ h
  by_cases hc0:c=0
  · subst hc0;simp [execOp,hx,hhi,Instr.sliceAt,run_underlying ht,Instr.slice,hb,EK hs]
  · simp [execOp,hx,hhi,Instr.sliceAt,run_underlying ht,Instr.slice,hb,EK hs,hc0,Addr.add]
theorem o_cap {t e:TypeId} (A:Option Addr) (n c:Nat) (ht:P.underlying t=some (.slice e)) (hx:CU F x = .slice A n c) (h:K (vI c) w) :
    DL P (.call { callee:=.builtin .cap,args:=#[x],argTypes:=#[t] }) ty F w K Z:=
  BU (by simp [execOp,resolve,invoke,builtin,hx,Builtin.cap_,run_underlying ht,goInt]) h
variable {w0:World} {B O0:List Nat}
theorem OJ {t t2 e size b o n c b2 o2 n2 c2 T T2:Nat} {cur cur2:List Value} (k:Nat) (ht:P.underlying t=some (.slice e)) (hs:DS P e=some size) (hx:CU F x = .slice (some ⟨b,o,none⟩) n c) (hy:CU F y = .slice (some ⟨b2,o2,none⟩) n2 c2)
    (hb:GQ w b T cur) (hb2:GQ w b2 T2 cur2) (hB:b∈B) (hk:Nat.min n2 n=k) (h1:o+k*size≤cur.length) (h2:o2+k*size≤cur2.length) (hone:∀ u∈(cur2.drop o2).take (k*size),u.oneCell'=true) (s:St w0 O0 w B)
    (h:∀ w',St w0 O0 w' B→Mv B w B w'→Keep [b] w w'→GQ w' b T (FY cur o ((cur2.drop o2).take (k*size)))→K (vI k) w') :
    DL P (.call { callee:=.builtin .copy,args:=#[x,y],argTypes:=#[t,t2] }) ty F w K Z:=by
  obtain ⟨ms,hms⟩:∃ ms,ms=(cur2.drop o2).take (k*size):=⟨_,rfl⟩
  rw [← hms] at h hone
  have hml:ms.length=k*size:=by rw [hms];simp;omega
  have hsrc:(Builtin.firstCells size k (.slice (some ⟨b2,o2,none⟩) n2 c2)).run P w = .ok ms.toArray w:=
    run_firstCells_some w size k ⟨b2,o2,none⟩ n2 c2 ms hml (fun j v hj=>by
      rw [TL,hb2.cell,← hj,hms,List.getElem?_take]
      have:j<k*size:=by rw [← hml];exact (List.getElem?_eq_some_iff.1 hj).1
      rw [if_pos this,List.getElem?_drop])
  have hst:=run_storeCells_at P b o T ms 0 cur.toArray w hb (by simp;omega) hone
  simp only [Nat.add_zero] at hst
  have kp:Keep [b] w (w.setRow b (cur.toArray.toList.take o++ms++cur.toArray.toList.drop (o+ms.length)).toArray):=
    ⟨rfl,rfl,rfl,by simp,fun q _ hq=>setRow_other w b q _ (fun e=>hq (by simp [e]))⟩
  have mm:Mv B w B (w.setRow b (cur.toArray.toList.take o++ms++cur.toArray.toList.drop (o+ms.length)).toArray):=
    ⟨kp.mono (fun q hq=>by simp at hq;subst hq;exact .inl hB),fun q hq=>.inl hq⟩
  refine BU (v:=vI k) (w':=w.setRow b (cur.toArray.toList.take o++ms++cur.toArray.toList.drop (o+ms.length)).toArray) ?_ (h _ (s.step mm (fun q hq=>Nat.lt_of_lt_of_le (s.new q hq).2 kp.size)) mm kp (setRow_heap w b cur.toArray _ T (0,0) hb))
  simp [execOp,resolve,invoke,builtin,hx,hy,Builtin.copy_,run_underlying ht,EK hs,Builtin.lenOf,hk,hsrc,goInt] at hst ⊢
  rw [hst]
  rfl
theorem o_appendZ {t tn e size bytes b i c T:Nat} {z:Value} {cur:List Value} (k N:Nat) (nn:Int) (hN:i+k=N) (ht:P.underlying t=some (.slice e)) (htn:P.underlying tn=some (.int .i64)) (hi:(P.info? e).map (fun i=>(i.zero,i.size,i.bytes))=some (some z,size,bytes)) (hz:z.cells.size=size) (hpos:0<size)
    (hx:CU F x = .slice (some ⟨b,0,none⟩) i c) (hy:CU F y=vI nn) (hnn:nn=(k:Int)) (hb:GQ w b T cur) (hcur:i*size≤cur.length) (h0:0<k) (hg:c<N) (hlen:N*bytes≤140737488355328) (hmax:N≤maxLen) (s:St w0 O0 w B)
    (h:∀ g G cur1 w',g=w.heap.size→w0.heap.size≤g→St w0 O0 w' (g :: B)→Mv B w (g :: B) w'→Keep [] w w'→GQ w' g e cur1→cur1.length=G*size→N≤G→G≤maxLen→cur1.take (i*size)=cur.take (i*size)→K (.slice (some ⟨g,0,none⟩) N G) w') :
    DL P (.call { callee:=.builtin .append,args:=#[x,y],argTypes:=#[t,tn] }) ty F w K Z:=by
  subst hnn
  subst hN
  obtain ⟨inf,hi1,hi2,hi3,hi4⟩:=info_parts hi
  have hold:(Builtin.firstCells inf.size i (.slice (some ⟨b,0,none⟩) i c)).run P w.drew = .ok (cur.take (i*size)).toArray w.drew:=by
    rw [hi3]
    refine run_firstCells_some w.drew size i ⟨b,0,none⟩ i c (cur.take (i*size)) (by rw [List.length_take];omega) (fun j v hj=>?_)
    have hb':GQ w.drew b T cur:=hb
    rw [TL,hb'.cell,Nat.zero_add]
    rw [List.getElem?_take] at hj
    split at hj
    · exact hj
    · cases hj
  have hfit:Builtin.nextslicecap (i+k) c*inf.bytes≤281474976710656:=by rw [hi4];exact growslice_fits hg hlen
  have hkb:k*inf.bytes≤281474976710656:=by
    rw [hi4]
    have:k*bytes≤(i+k)*bytes:=Nat.mul_le_mul_right _ (by omega)
    omega
  have hrun:=Lib.run_append_grow_zeros (P:=P) w t tn ty e inf z .i64 .i64 ht htn hi1 hi2 (some ⟨b,0,none⟩) i c (cur.take (i*size)) hold k h0 (by rw [hi3];exact hpos) hg (by simp only [maxLen] at hmax;omega) hkb hfit
  obtain ⟨G,hG⟩:∃ G,G=grownCap w (i+k) c e:=⟨_,rfl⟩
  have hG1:i+k≤G:=by rw [hG];exact grownCap_ge _ _ _ _
  have hG2:G≤maxLen:=by rw [hG];exact grownCap_le_maxLen _ _ _ _ hmax
  rw [← hG] at hrun
  obtain ⟨row,hrow⟩:∃ row:Array Value,row=(cur.take (i*size)).toArray++Builtin.zeroCells z.cells k++Builtin.zeroCells z.cells (G - (i+k)):=⟨_,rfl⟩
  rw [← hrow] at hrun
  have hrl:row.size=G*size:=by
    rw [hrow]
    simp only [Array.size_append,List.size_toArray,List.length_take,Builtin.zeroCells,Array.size_map,Array.size_range,hz]
    rw [Nat.min_eq_left hcur,← Nat.add_mul,← Nat.add_mul]
    congr 1;omega
  have hk:Keep [] w (w.drew.alloc (.cells row e)):=(Keep.drew [] w).trans (Keep.alloc _ _ _)
  have hsz:w.drew.heap.size=w.heap.size:=rfl
  have mv:Mv B w (w.heap.size :: B) (w.drew.alloc (.cells row e)):=⟨hk.nil,fun q hq=>by rcases List.mem_cons.1 hq with h|h;exact .inr (by omega);exact .inl h⟩
  have hbx:GQ (w.drew.alloc (.cells row e)) w.heap.size e row.toList:=by
    have:=GQ.new w.drew e row.toList
    simpa [hsz] using this
  refine BU (v:=.slice (some ⟨w.heap.size,0,none⟩) (i+k) G) (w':=w.drew.alloc (.cells row e)) ?_ (h _ G row.toList _ rfl s.keep.size (s.step mv (fun q hq=>?_)) mv hk hbx (by simpa using hrl) hG1 hG2 ?_)
  · simp [execOp,resolve,invoke,builtin,hx,hy,hrun]
  · rcases List.mem_cons.1 hq with h|h
    · subst h;exact hbx.lt
    · exact Nat.lt_of_lt_of_le (s.new q h).2 hk.size
  · rw [hrow]
    simp only [Array.toList_append,List.append_assoc]
    rw [List.take_append_of_le_length (by simp;omega)]
    rw [List.take_of_length_le (by simp;omega)]
theorem o_appendOO {α:Type} {E:Enc α} {t e:Nat} {z:Value} {bytes:Nat} {v u:Value} {l m:List α} (ht:P.underlying t=some (.slice e)) (hi:(P.info? e).map (fun i=>(i.zero,i.size,i.bytes))=some (some z,E.size,bytes)) (hzs:z.cells.size=E.size) (hpos:0<E.size)
    (hx:CU F x=v) (hy:CU F y=u) (ho:EJ E e w0.heap.size (B++O0) w v l) (hu:EJ E e w0.heap.size (B++O0) w u m) (hv:∀ b,v.ownBlock=some b→b∈B) (hlen:(l.length+m.length)*bytes≤140737488355328) (hlm:l.length+m.length≤maxLen) (s:St w0 O0 w B)
    (h:∀ v' w' B',(∀ b,v'.ownBlock=some b→b∈B')→(v'.ownBlock=v.ownBlock∨v'.ownBlock=some w.heap.size)→(∀ b∈B,b∈B')→St w0 O0 w' B'→Mv B w B' w'→Keep v.ownBlock.toList w w'→EJ E e w0.heap.size (B'++O0) w' v' (l++m)→K v' w') :
    DL P (.call { callee:=.builtin .append,args:=#[x,y],argTypes:=#[t,t] }) ty F w K Z:=by
  obtain ⟨i,hi1,hi2,hi3,hi4⟩:=info_parts hi
  obtain ⟨css,h1,h2,h3⟩:=ho
  have hsrc:∃ (A:Option Addr) (c:Nat) (css':List (List Value)),u = .slice A m.length c∧m.length≤c∧c≤maxLen∧(A=none→m=[])∧css'.length=m.length∧(∀ (j:Nat) (cs:List Value) (y:α),css'[j]? = some cs→m[j]? = some y→E.rd w (B++O0) cs y)∧(∀ ad,A=some ad→∀ j u,css'.flatten[j]? = some u→w.cell? (ad.add j)=some u):=by
    obtain ⟨css',q1,q2,q3⟩:=hu
    rcases q2.2 with ⟨rfl,q4⟩|⟨g,cap,cur,rfl,hb,hg,hc,hm,hsz,htk⟩
    · exact ⟨none,0,css',by rw [q4],by omega,by simp [maxLen],fun _=>List.eq_nil_of_length_eq_zero q4,q1,q3,fun ad h=>by cases h⟩
    · refine ⟨some ⟨g,0,none⟩,cap,css',rfl,hc,hm,(fun h=>nomatch h),q1,q3,fun ad h j u hj=>?_⟩
      cases h;exact q2.cells (g:=g) rfl j u hj
  obtain ⟨A,c,css',rfl,h4,h5,h6,k1,k2,k3⟩:=hsrc
  have hlens':∀ cs∈css',cs.length=E.size:=EJ.lens k1 k2
  have hones:∀ u∈css'.flatten,u.oneCell'=true:=by
    intro u hu
    obtain ⟨cs,hcs,hucs⟩:=List.mem_flatten.1 hu
    obtain ⟨j,hj,rfl⟩:=List.getElem_of_mem hcs
    exact E.one (k2 j _ m[j] (List.getElem?_eq_getElem hj) (List.getElem?_eq_getElem (by omega))) u hucs
  have hlen':css'.flatten.length=m.length*E.size:=by rw [EY css' hlens',k1]
  have fin:∀ v' w' B',w'.ownsRow w0.heap.size e E.size v' (l.length+m.length) (css.flatten++css'.flatten)→Mv B w B' w'→EJ E e w0.heap.size (B'++O0) w' v' (l++m):=by
    intro v' w' B' hr hmv
    refine ⟨css++css',by simp [h1,k1],by simpa using hr,fun j cs y hj hy=>?_⟩
    by_cases hjl:j<l.length
    · rw [List.getElem?_append_left (by omega)] at hj hy
      exact E.mv (h3 j cs y hj hy) hmv
    · rw [List.getElem?_append_right (by omega)] at hj hy
      rw [h1] at hj
      exact E.mv (k2 _ cs y hj hy) hmv
  have step:∀ v' w',(Builtin.append_ #[t,t] ty #[v, .slice A m.length c]).run P w = .ok v' w'→w'.ownsRow w0.heap.size e E.size v' (l.length+m.length) (css.flatten++css'.flatten)→w.grownBy w' v.ownBlock→(v'.ownBlock=v.ownBlock∨v'.ownBlock=some w.heap.size)→
      DL P (.call { callee:=.builtin .append,args:=#[x,y],argTypes:=#[t,t] }) ty F w K Z:=by
    intro v' w' hr hown hg hat
    have hk:Keep v.ownBlock.toList w w':=Keep.of_grown hg
    have hB:Keep B w w':=hk.mono (fun b hb=>.inl (hv b (by simpa using hb)))
    have hown':=hown.lt
    rcases hat with hat|hat
    · have mv:Mv B w B w':=⟨hB,fun b hb=>.inl hb⟩
      exact BU (v:=v') (w':=w') (by simp [execOp,resolve,invoke,builtin,hx,hy,hr]) (h v' w' B (fun b hb=>hv b (by rw [← hat];exact hb)) (.inl hat) (fun b hb=>hb) (s.step mv (fun b hb=>Nat.lt_of_lt_of_le (s.new b hb).2 hk.size)) mv hk (fin v' w' B hown mv))
    · have mv:Mv B w (w.heap.size :: B) w':=⟨hB,fun b hb=>by rcases List.mem_cons.1 hb with h|h;exact .inr (by omega);exact .inl h⟩
      exact BU (v:=v') (w':=w') (by simp [execOp,resolve,invoke,builtin,hx,hy,hr]) (h v' w' (w.heap.size :: B) (fun b hb=>by rw [hat] at hb;cases hb;simp) (.inr hat) (fun b hb=>by simp [hb])
        (s.step mv (fun b hb=>by
          rcases List.mem_cons.1 hb with h|h
          · subst h;exact (hown' _ hat).2
          · exact Nat.lt_of_lt_of_le (s.new b h).2 hk.size)) mv hk (fin v' w' _ hown mv))
  rcases A with _|ad
  · have hm0:m=[]:=h6 rfl
    subst hm0
    have hc0:css'=[]:=List.eq_nil_of_length_eq_zero (by simpa using k1)
    subst hc0
    refine step v w ?_ (by simpa using h2) ⟨rfl,rfl,rfl,Nat.le_refl _,fun _ _ _=>rfl⟩ (.inl rfl)
    rcases h2.2 with ⟨rfl,h0⟩|⟨g,cap,cur,rfl,_,_,hnc,_⟩
    · simp [Builtin.append_,run_underlying ht,sizeOf,typeInfo,hi1,Builtin.lenOf,Builtin.firstCells]
    · simp [Builtin.append_,run_underlying ht,sizeOf,typeInfo,hi1,Builtin.lenOf,Builtin.firstCells,hnc,storeCells]
  · obtain ⟨v',w',hr,g1,g2,_,g4⟩:=run_append_own_at (P:=P) w w0.heap.size t ty e i z E.size bytes ht hi1 hi2 hi3 hi4 hzs hpos v l.length css.flatten h2 ad m.length c css'.flatten hlen' (k3 ad rfl) hones hlm hlen s.keep.size
    exact step v' w' hr g1 g2 g4
theorem NX {α:Type} {E:Enc α} {t e base b j:Nat} {v:Value} {l:List α} {cs:List Value} (a:α) (hpos:0<E.size) (hs:DS P t=some E.size) (hx:CU F x = .pointer (some ⟨b,j*E.size,none⟩)) (hy:CU F y = .agg cs.toArray) (ho:EJ E e base (B++O0) w v l) (hb:v.ownBlock=some b) (hB:b∈B) (hj:j<l.length) (hr:E.rd w (B++O0) cs a) (s:St w0 O0 w B)
    (h:∀ w',St w0 O0 w' B→Mv B w B w'→Keep [b] w w'→EJ E e base (B++O0) w' v (l.set j a)→K undef w'):DL P (.store t x y) ty F w K Z:=by
  obtain ⟨css,h1,h2,h3⟩:=ho
  have hlens:=EJ.lens h1 h3
  have hcl:cs.length=E.size:=E.len hr
  rcases h2.2 with ⟨rfl,h0⟩|⟨g,cap,cur,rfl,hbg,hg,hnc,hm,hsz,htk⟩
  · omega
  · have:g=b:=by simpa [Value.ownBlock] using hb
    subst this
    have hjn:j*E.size+E.size≤l.length*E.size:=by rw [← Nat.succ_mul];exact Nat.mul_le_mul_right _ hj
    have hnn:l.length*E.size≤cap*E.size:=Nat.mul_le_mul_right _ hnc
    have hcu:cur.toList.length=cap*E.size:=by simpa using hsz
    have hjc:j<css.length:=by omega
    have hcss:css=css.take j++css[j] :: css.drop (j+1):=by rw [← List.drop_eq_getElem_cons hjc,List.take_append_drop]
    obtain ⟨A,hA⟩:∃ A,A=(css.take j).flatten:=⟨_,rfl⟩
    obtain ⟨D,hD⟩:∃ D,D=(css.drop (j+1)).flatten:=⟨_,rfl⟩
    have hAl:A.length=j*E.size:=by rw [hA,EY _ (fun c hc=>hlens c (List.mem_of_mem_take hc)),List.length_take];congr 1;omega
    have hDl:D.length=(l.length - (j+1))*E.size:=by rw [hD,EY _ (fun c hc=>hlens c (List.mem_of_mem_drop hc)),List.length_drop,h1]
    have hXl:css[j].length=E.size:=hlens _ (List.getElem_mem hjc)
    have hfl:css.flatten=A++(css[j]++D):=by
      conv=>lhs;rw [hcss]
      rw [List.flatten_append,List.flatten_cons,← hA,← hD]
    have hcur:cur.toList=A++(css[j]++(D++cur.toList.drop (l.length*E.size))):=by
      rw [← List.append_assoc css[j],← List.append_assoc A,← hfl,← htk,List.take_append_drop]
    have hset:(css.set j cs).flatten=A++(cs++D):=by
      rw [List.set_eq_take_append_cons_drop,if_pos hjc,List.flatten_append,List.flatten_cons,← hA,← hD]
    have hnew:cur.toList.take (j*E.size)++cs++cur.toList.drop (j*E.size+cs.length)=A++(cs++(D++cur.toList.drop (l.length*E.size))):=by
      obtain ⟨R,hR⟩:∃ R,R=cur.toList.drop (l.length*E.size):=⟨_,rfl⟩
      rw [← hR] at hcur ⊢
      rw [hcur,← hAl,List.take_left,List.drop_length_add_append,hcl,← hXl,List.drop_left,List.append_assoc]
    refine BC (T:=e) (cs:=cur.toList) (vs:=cs) (.agg cs.toArray) hx hy rfl (by rw [hcl];exact hs) (E.one hr) hB (by simpa [GQ] using hg) (by rw [hcl,hcu];omega) s fun w' k1 k2 k3 k4=>h w' k1 k2 k3 ?_
    rw [hnew] at k4
    refine ⟨css.set j cs,by simp [h1],⟨?_, .inr ⟨g,cap,(A++(cs++(D++cur.toList.drop (l.length*E.size)))).toArray,by simp,hbg,k4,by simpa using hnc,hm,?_,?_⟩⟩,fun q cs' y hq hy=>?_⟩
    · rw [hset]
      have hh:=h2.1
      rw [hfl] at hh
      simp only [List.length_append,List.length_set] at hh ⊢
      omega
    · have hh:=congrArg List.length hcur
      rw [hcu] at hh
      simp only [List.size_toArray,List.length_append] at hh ⊢
      omega
    · rw [hset]
      simp only [List.length_set]
      have e1:A++(cs++(D++cur.toList.drop (l.length*E.size)))=(A++(cs++D))++cur.toList.drop (l.length*E.size):=by simp
      have hh:=h2.1
      rw [hfl] at hh
      have e2:(A++(cs++D)).length=l.length*E.size:=by
        simp only [List.length_append] at hh ⊢
        omega
      rw [e1,← e2,List.take_left]
    · by_cases hjq:j=q
      · subst hjq
        simp [hjc] at hq
        simp [hj] at hy
        subst hq;subst hy
        exact E.mv hr k2
      · rw [List.getElem?_set,if_neg hjq] at hq hy
        exact E.mv (h3 q cs' y hq hy) k2
theorem o_overlaps {f:FuncId} {xs:List Operand} {ats:Array TypeId} {tS tR e size b b2 o o2 n n2 c c2 T T2:Nat} {cur cur2:List Value} (hc:∀ (x y:Value) (w:World),(Extern.SlicesOverlaps.overlaps #[tS,tS] #[tR] #[x,y]).run P w = .ok (.bool false) w→(callFunc f #[x,y]).run P w = .ok (.value (.bool false)) w)
    (ht:P.underlying tS=some (.slice e)) (hs:DS P e=some size) (hv:xs.map (CU F)=[.slice (some ⟨b,o,none⟩) n c, .slice (some ⟨b2,o2,none⟩) n2 c2]) (hb:GQ w b T cur) (hb2:GQ w b2 T2 cur2) (hne:b≠b2) (h0:0<cur2.length) (h:K (.bool false) w) :
    DL P (.call { callee:=.value (.func f),args:=xs.toArray,argTypes:=ats }) ty F w K Z:=by
  refine BU (v:=.bool false) (w':=w) ?_ h
  have hr:=Lib.run_overlaps_apart (P:=P) w tS tR e ht size (fun w=>EK hs) ⟨b,o,none⟩ ⟨b2,o2,none⟩ n c n2 c2 hne T T2 cur.length cur2.length (by unfold GQ at hb;simp [World.shape?,hb]) (by unfold GQ at hb2;simp [World.shape?,hb2]) (by omega) (hb.frozen _) (hb.frozen _)
  have hr':=hc _ _ _ hr
  simp [execOp,resolve,Deferred.ofValue,CU,invoke,hv,hr']
end
open Go.RowKit
section
variable {P:Program} {n:Nat} {Q:Exit→Fr→World→Prop}
theorem draw_runM {ops:List Oper} {m:Nat} {late:List Nat} {om:Oper} (INV:Array Bool→Fr→World→Prop) (hd:OY ops m late=true) (hndl:late.Nodup) (hok:ops.all (OR n ops)=true) (hom:ops[m]? = some om)
    (hdown:∀ listed F1 w1,INV listed F1 w1→∀ i,listed[i]? = some true→∀ j∈KP ops i,listed[j]? = some true)
    (hstep:∀ (listed:Array Bool) (F1:Fr) (w1:World) (i:Nat) (o:Oper),listed.size=ops.length→INV listed F1 w1→i<m→ops[i]? = some o→listed[i]? = some false→(∀ j∈KP ops i,listed[j]? = some true)→
      (Region.wanted o (DR ops F1)=true→DL P o.op o.type F1 w1 (fun v w2=>INV (listed.setIfInBounds i true) (IG F1 o.dst v) w2) (fun _ _=>False))∧
      (Region.wanted o (DR ops F1)=false→INV (listed.setIfInBounds i true) (IG F1 o.dst undef) w1))
    (fin:∀ listed F1 w1,INV listed F1 w1→(∀ j,j<m→listed[j]? = some true)→(∀ j,m≤j→listed[j]?≠some true)→WL false P ops Q (om :: DA ops (CP ops m)) F1 w1)
    (finL:∀ c,c<late.length→∀ listed F1 w1,INV listed F1 w1→(∀ j,j<m→(listed[j]? = some true↔j∉late.drop c))→(∀ j,m≤j→listed[j]?≠some true)→WL false P ops Q (om :: (DA ops (late.drop c)++DA ops (CP ops m))) F1 w1) :
    ∀ (fuel:Nat) (listed:Array Bool) (F1:Fr) (w1:World),listed.size=ops.length→OX ops listed≤fuel→(∀ j,m≤j→listed[j]?≠some true)→INV listed F1 w1→wpAny P .any ops.toArray (KG n Q) fuel listed (mk n F1) w1:=by
  unfold OY at hd
  simp only [Bool.and_eq_true] at hd
  obtain ⟨⟨⟨⟨⟨⟨⟨⟨⟨d1,d2⟩,d3⟩,d4⟩,d5⟩,d6⟩,d7⟩,d8⟩,d9⟩,d10⟩:=hd
  have hml:m<ops.length:=blt d5
  have hback:∀ k,k<ops.length→∀ j∈KP ops k,j<k:=fun k hk j hj=>blt (List.all_eq_true.1 (List.all_eq_true.1 d4 k (by simpa using hk)) j hj)
  have hin:∀ k,k<ops.length→∀ j∈KP ops k,j<ops.length:=fun k hk j hj=>Nat.lt_trans (hback k hk j hj) hk
  have hlm:∀ j∈late,j<m:=fun j hj=>blt (List.all_eq_true.1 d6 j hj)
  have htl:∀ j,j∈CP ops m↔m<j∧j<ops.length:=fun j=>by
    unfold CP
    rw [List.mem_iff_getElem?]
    simp only [List.getElem?_drop]
    constructor
    · rintro ⟨i,hi⟩
      have:=(List.getElem?_eq_some_iff.1 hi)
      obtain ⟨h1,h2⟩:=this
      simp at h1 h2;omega
    · rintro ⟨h1,h2⟩
      exact ⟨j - (m+1),by rw [List.getElem?_eq_getElem (by simp;omega)];simp;omega⟩
  have hndt:(CP ops m).Nodup:=by unfold CP;exact List.Nodup.sublist (List.drop_sublist _ _) List.nodup_range
  intro fuel
  induction fuel with
  | zero=>
    intro listed F1 w1 hsz hfu hno hi
    exfalso
    have h0:OX ops listed=0:=by omega
    unfold OX at h0
    have:=List.countP_eq_zero.1 h0 m (by simpa using hml)
    exact hno m (Nat.le_refl _) (by simpa using this)
  | succ fuel ih=>
    intro listed F1 w1 hsz hfu hno hi
    have hmn:listed[m]? = some false:=by
      have h1:=hno m (Nat.le_refl _)
      have:m<listed.size:=by omega
      rw [Array.getElem?_eq_getElem this] at h1 ⊢
      simpa using h1
    by_cases hall:∀ j,j<m→listed[j]? = some true
    · -- all of the first part have been carried out
      have e:DA ops (m :: CP ops m)=om :: DA ops (CP ops m):=by unfold DA;rw [List.filterMap_cons,hom]
      refine GR hok hin (m :: CP ops m) (fuel+1) listed F1 w1 hsz hfu (fun j hj=>⟨fun h=>?_,fun h=>?_⟩) (fun j hj=>?_) (List.nodup_cons.2 ⟨fun h=>by have:=(htl m).1 h;omega,hndt⟩) d8 (hdown _ _ _ hi) (by
        rw [e]
        exact fin listed F1 w1 hi hall hno)
      · intro hm'
        have:m≤j:=by rcases List.mem_cons.1 hm' with h1|h1;omega;have:=(htl j).1 h1;omega
        exact hno j this h
      · exact hall j (by
          rcases Nat.lt_or_ge j m with h1|h1
          · exact h1
          · exfalso;apply h
            rcases Nat.eq_or_lt_of_le h1 with h2|h2
            · subst h2;simp
            · exact List.mem_cons_of_mem _ ((htl j).2 ⟨h2,hj⟩))
      · rcases List.mem_cons.1 hj with h1|h1
        · omega
        · exact ((htl j).1 h1).2
    · have hex:∃ j,j<m∧listed[j]?≠some true:=by
        refine Classical.byContradiction fun hc=>hall fun j hj=>Classical.byContradiction fun hn=>hc ⟨j,hj,hn⟩
      have hmin:∀ q j,q=j→j<m→listed[j]?≠some true→∃ k,k<m∧listed[k]?≠some true∧∀ i,i<k→listed[i]? = some true:=by
        intro q
        induction q using Nat.strongRecOn with
        | _ q ihq=>
          intro j hqj hj hn
          by_cases hb:∀ i,i<j→listed[i]? = some true
          · exact ⟨j,hj,hn,hb⟩
          · have:∃ i,i<j∧listed[i]?≠some true:=Classical.byContradiction fun hc=>hb fun i hi=>Classical.byContradiction fun hn=>hc ⟨i,hi,hn⟩
            obtain ⟨i,hij,hni⟩:=this
            exact ihq i (by omega) i rfl (by omega) hni
      obtain ⟨j0,hj0,hn0⟩:=hex
      obtain ⟨k,hkm,hkn,hkb⟩:=hmin j0 j0 rfl hj0 hn0
      have hkf:listed[k]? = some false:=by
        have:k<listed.size:=by omega
        rw [Array.getElem?_eq_getElem this] at hkn ⊢
        simpa using hkn
      refine ⟨fun h0=>?_,fun i hir=>?_⟩
      · have:=ready_of' hsz (by omega) hkf (fun j hj=>hkb j (hback k (by omega) j hj))
        rw [h0] at this;cases this
      · obtain ⟨hnl,hil⟩:=KH hir hsz
        have ho:ops[i]? = some ops[i]:=List.getElem?_eq_getElem hil
        have haft:=HX ho hir hsz (hin i hil)
        have hclose:∀ j,DT ops i j=true→listed[j]? = some true:=fun j hj=>by
          unfold DT at hj
          exact GV (D:=fun j=>listed[j]? = some true) (hdown _ _ _ hi) _ _ haft j (by simpa using hj)
        rcases Nat.lt_or_ge i m with him|hge
        · have hsp:=hstep listed F1 w1 i ops[i] hsz hi him ho hnl haft
          have hno':∀ j,m≤j→(listed.setIfInBounds i true)[j]?≠some true:=fun j hj=>by
            rw [Array.getElem?_setIfInBounds,if_neg (by omega)];exact hno j hj
          refine LJ (K:=fun F2 w2=>INV (listed.setIfInBounds i true) F2 w2) hok ho (fun F2 w2 hK=>ih _ F2 w2 (by simpa using hsz) (by have:=IA hil hsz hnl;omega) hno' hK) (fun hw=>?_) (fun hw=>hsp.2 hw)
          have h1:=hsp.1 hw
          unfold DL at h1 ⊢
          generalize (execOp (CU F1) ⟨none,ops[i].op,ops[i].type,"",#[],none⟩).run P w1=r at h1 ⊢
          cases r with
          | ok x w'=>
            cases x <;> simp only [FS] at h1 ⊢ <;> try exact h1.elim
            case value v=>exact h1
            case skip=>exact h1
            case enter f args=>
              exact Calls.mono h1 fun e w'' he=>by
                cases e with
                | returned v=>exact he
                | panicked c=>exact he.elim
                | outgrown=>exact he.elim
          | halt x w'=>cases x <;> simp only [FS] at h1 ⊢ <;> exact h1.elim
        · -- operation m comes ahead of some late ones
          have him:i=m:=by
            rcases Nat.eq_or_lt_of_le hge with h1|h1
            · exact h1.symm
            · have h2:=hclose m (List.all_eq_true.1 d3 i ((htl i).2 ⟨h1,hil⟩))
              rw [hmn] at h2;cases h2
          subst him
          have hnl':∀ j,j<i→j∉late→listed[j]? = some true:=fun j hj hjl=>by
            have h1:=List.all_eq_true.1 d2 j (by simpa using hj)
            simp only [Bool.or_eq_true,List.contains_iff_mem] at h1
            exact hclose j (h1.resolve_left hjl)
          have hex2:∃ (c:Nat) (j:Nat),late[c]? = some j∧listed[j]?≠some true:=by
            have h1:j0∈late:=Classical.byContradiction fun hc=>hn0 (hnl' j0 hj0 hc)
            obtain ⟨c,hc⟩:=List.mem_iff_getElem?.1 h1
            exact ⟨c,j0,hc,hn0⟩
          have hminc:∀ q c:Nat,q=c→(∃ j:Nat,late[c]? = some j∧listed[j]?≠some true)→∃ c':Nat,(∃ j:Nat,late[c']? = some j∧listed[j]?≠some true)∧∀ x j:Nat,x<c'→late[x]? = some j→listed[j]? = some true:=by
            intro q
            induction q using Nat.strongRecOn with
            | _ q ihq=>
              intro c hqc hc
              by_cases hb:∀ x j:Nat,x<c→late[x]? = some j→listed[j]? = some true
              · exact ⟨c,hc,hb⟩
              · have:∃ x j:Nat,x<c∧late[x]? = some j∧listed[j]?≠some true:=Classical.byContradiction fun hcn=>hb fun x j hx hj=>Classical.byContradiction fun hn=>hcn ⟨x,j,hx,hj,hn⟩
                obtain ⟨x,j,hx,hj,hn⟩:=this
                exact ihq x (by omega) x rfl ⟨j,hj,hn⟩
          obtain ⟨c0,hc0⟩:=hex2
          obtain ⟨c,⟨jc,hjc,hjn⟩,hcb⟩:=hminc c0 c0 rfl hc0
          have hcl:c<late.length:=(List.getElem?_eq_some_iff.1 hjc).1
          have hcw:∀ b a,listed[b]? = some true→DT ops b a=true→listed[a]? = some true:=fun b a hb hba=>by
            unfold DT at hba
            exact GV (D:=fun j=>listed[j]? = some true) (hdown _ _ _ hi) _ _ ((hdown _ _ _ hi) b hb) a (by simpa using hba)
          have hdropn:∀ j∈late.drop c,¬ listed[j]? = some true:=PR (D:=fun j=>listed[j]? = some true) hcw late d7 c ⟨jc,hjc,hjn⟩
          have hdropm:∀ j,j<i→(listed[j]? = some true↔j∉late.drop c):=fun j hj=>by
            constructor
            · intro h1 h2;exact hdropn j h2 h1
            · intro h1
              by_cases hjl:j∈late
              · obtain ⟨x,hx⟩:=List.mem_iff_getElem?.1 hjl
                by_cases hxc:x<c
                · exact hcb x j hxc hx
                · exfalso;apply h1
                  exact List.mem_iff_getElem?.2 ⟨x - c,by rw [List.getElem?_drop,show c+(x - c)=x by omega];exact hx⟩
              · exact hnl' j hj hjl
          have hK:=finL c hcl listed F1 w1 hi hdropm hno
          have hom':om=ops[i]:=by rw [ho] at hom;exact (Option.some.inj hom).symm
          have hso:DA ops (late.drop c)++DA ops (CP ops i)=DA ops (late.drop c++CP ops i):=by unfold DA;rw [List.filterMap_append]
          rw [hso,hom'] at hK
          have hset:∀ j,(listed.setIfInBounds i true)[j]? = some true↔j=i∨listed[j]? = some true:=fun j=>by
            rw [Array.getElem?_setIfInBounds]
            by_cases hji:i=j
            · subst hji;simp;omega
            · rw [if_neg hji];exact ⟨fun h=>.inr h,fun h=>h.resolve_left (fun e=>hji e.symm)⟩
          refine LJ (K:=fun F w=>WL false P ops Q (DA ops (late.drop c++CP ops i)) F w) hok ho (fun F2 w2 hK2=>GR hok hin (late.drop c++CP ops i) fuel _ F2 w2 (by simpa using hsz) (by have:=IA hil hsz hnl;omega) (fun j hj=>?_) (fun j hj=>?_) ?_ (List.all_eq_true.1 d9 c (by simpa using hcl)) (fun j hj q hq=>?_) hK2) (fun hw=>?_) (fun hw=>?_)
          · rw [hset j,List.mem_append,htl j]
            constructor
            · rintro (rfl|h1)
              · rintro (h2|h2)
                · have:=hlm j (List.mem_of_mem_drop h2);omega
                · omega
              · rintro (h2|h2)
                · exact hdropn j h2 h1
                · exact hno j (by omega) h1
            · intro h1
              rcases Nat.lt_trichotomy j i with h2|h2|h2
              · exact .inr ((hdropm j h2).2 (fun h3=>h1 (.inl h3)))
              · exact .inl h2
              · exact absurd (.inr ⟨h2,hj⟩) h1
          · rcases List.mem_append.1 hj with h1|h1
            · have:=hlm j (List.mem_of_mem_drop h1);omega
            · exact ((htl j).1 h1).2
          · refine List.nodup_append.2 ⟨List.Nodup.sublist (List.drop_sublist _ _) hndl,hndt,fun a ha b hb e=>?_⟩
            have h1:=hlm a (List.mem_of_mem_drop ha)
            have h2:=(htl b).1 hb
            omega
          · rw [hset q]
            rcases (hset j).1 hj with rfl|h1
            · exact .inr (haft q hq)
            · exact .inr ((hdown _ _ _ hi) j h1 q hq)
          · unfold WL at hK;rw [if_pos hw] at hK;exact hK.resolve_right (fun e=>by cases e.1)
          · unfold WL at hK;rw [if_neg (by rw [hw];simp)] at hK;exact hK
abbrev Pr2:=Value→Value→World→Prop
def prR (Rs:List Pr2) (i:Nat):Pr2:=(Rs[i]?).getD (fun _ _ _=>True)
def OpSpecR (P:Program) (ops:List Oper) (m:Nat) (Ts:List Pr) (Rs:List Pr2) (F:Fr) (w:World) (a i:Nat) (o:Oper) (T:Pr) (R:Pr2):Prop:=
  ∀ F1 w1,Keep [] w w1→(∀ t,NG ops i t=true→F1 t=F t)→(∀ j d,SP ops m i j d=true→MY Ts j (F1 d) w1)→
    ∀ vo:Option Value,(∀ u,vo=some u→MY Ts a u w1)→(∀ u,vo=some u→∀ j d,j≠a→SP ops m i j d=true→prR Rs j u (F1 d) w1)→
    (Region.wanted o (DR ops F1)=true→DL P o.op o.type F1 w1 (fun v w2=>Keep [] w1 w2∧T v w2∧∀ u,vo=some u→R u v w2) (fun _ _=>False))∧
    (Region.wanted o (DR ops F1)=false→T undef w1∧∀ u,vo=some u→R u undef w1)
def TT:List Pr→List Pr2→Value→World→World→Prop
  | T :: Ts,R :: Rs,v,w1,w2=>(∀ x,T x w1→R v x w2)∧TT Ts Rs v w1 w2
  | _,_,_,_,_=>True
theorem TT.at_:∀ {Ts:List Pr} {Rs:List Pr2} {v:Value} {w1 w2:World},Rs.length=Ts.length→TT Ts Rs v w1 w2→∀ i x,MY Ts i x w1→i<Ts.length→prR Rs i v x w2
  | [],_,_,_,_,_,_,i,x,_,hi=>by simp at hi
  | T :: Ts,[],_,_,_,h,_,_,_,_,_=>by simp at h
  | T :: Ts,R :: Rs,v,w1,w2,hl,h,0,x,hx,_=>h.1 x hx
  | T :: Ts,R :: Rs,v,w1,w2,hl,h,i+1,x,hx,hi=>TT.at_ (by simpa using hl) h.2 i x hx (by simpa using hi)
def OpSpecA (P:Program) (ops:List Oper) (m:Nat) (Ts:List Pr) (Rs:List Pr2) (F:Fr) (w:World) (i:Nat) (o:Oper) (T:Pr):Prop:=
  o.guard=none∧∀ F1 w1,Keep [] w w1→(∀ t,NG ops i t=true→F1 t=F t)→(∀ j d,SP ops m i j d=true→MY Ts j (F1 d) w1)→
    DL P o.op o.type F1 w1 (fun v w2=>Keep [] w1 w2∧T v w2∧TT Ts Rs v w1 w2) (fun _ _=>False)
def SpecsR (P:Program) (ops:List Oper) (m:Nat) (Ts:List Pr) (Rs:List Pr2) (F:Fr) (w:World) (a:Nat):Nat→List Oper→List Pr→List Pr2→Prop
  | i,o :: r,T :: R,Q :: S=>(bif Nat.beq i a then OpSpecA P ops m Ts Rs F w i o T else OpSpecR P ops m Ts Rs F w a i o T Q)∧SpecsR P ops m Ts Rs F w a (i+1) r R S
  | _,_,_,_=>True
theorem SpecsR.at_ {ops:List Oper} {m:Nat} {Ts:List Pr} {Rs:List Pr2} {F:Fr} {w:World} {a:Nat}:∀ (l:List Oper) (R:List Pr) (S:List Pr2) (k i:Nat) (o:Oper) (T:Pr) (Q:Pr2),SpecsR P ops m Ts Rs F w a k l R S→l[i]? = some o→R[i]? = some T→S[i]? = some Q→
    (bif Nat.beq (k+i) a then OpSpecA P ops m Ts Rs F w (k+i) o T else OpSpecR P ops m Ts Rs F w a (k+i) o T Q)
  | [],_,_,_,_,_,_,_,_,h,_,_=>by simp at h
  | _ :: _,[],_,_,_,_,_,_,_,_,h,_=>by simp at h
  | _ :: _,_ :: _,[],_,_,_,_,_,_,_,_,h=>by simp at h
  | o' :: l,T' :: R,Q' :: S,k,0,o,T,Q,h,h1,h2,h3=>by
    simp at h1 h2 h3;subst h1;subst h2;subst h3;exact h.1
  | o' :: l,T' :: R,Q' :: S,k,i+1,o,T,Q,h,h1,h2,h3=>by
    have:=SpecsR.at_ l R S (k+1) i o T Q h.2 (by simpa using h1) (by simpa using h2) (by simpa using h3)
    rwa [show k+1+i=k+(i+1) by omega] at this
def StabR:List Pr2→Prop
  | []=>True
  | T :: R=>(∀ u v w w',T u v w→Keep [] w w'→T u v w')∧StabR R
theorem StabR.of:∀ {Rs:List Pr2},StabR Rs→∀ T∈Rs,∀ u v w w',T u v w→Keep [] w w'→T u v w'
  | [],_,T,h=>by cases h
  | T' :: R,hs,T,h=>by
    rcases List.mem_cons.1 h with rfl|h
    · exact hs.1
    · exact StabR.of hs.2 T h
end
section
variable {P:Program} {w:World} {F:Fr} {K:Value→World→Prop} {Z:List PanicEntry→World→Prop} {ty:TypeId}
end
open Go.RowKit
section
variable {P:Program} {ty:TypeId} {F:Fr} {w w0:World} {O0 B:List Nat} {K:Value→World→Prop} {Z:List PanicEntry→World→Prop} {x y:Operand}
def RdN {α:Type} (E:Enc α) (u:World) (O:List Nat) (w:World) (v:Value) (l:List α):Prop:=
  ∃ (A:Addr) (c:Nat),v = .slice (some A) l.length c∧l.length≤c∧c≤maxLen∧∃ css:List (List Value),css.length=l.length∧(∀ (j:Nat) (cs:List Value) (y:α),css[j]? = some cs→l[j]? = some y→E.rd u O cs y)∧∀ (j:Nat) (q:Value),css.flatten[j]? = some q→w.cell? (A.add j)=some q
theorem RdN.keep {α:Type} {E:Enc α} {u:World} {O:List Nat} {w w':World} {v:Value} {l:List α} (h:RdN E u O w v l) (k:Keep [] w w'):RdN E u O w' v l:=by
  obtain ⟨A,c,h1,h2,h3,css,h4,h5,h6⟩:=h
  exact ⟨A,c,h1,h2,h3,css,h4,h5,fun j q hq=>UF k (h6 j q hq)⟩
theorem o_appendN {α:Type} {E:Enc α} {t e:Nat} {z:Value} {bytes:Nat} {v u:Value} {l m:List α} {O':List Nat} {uw:World} (ht:P.underlying t=some (.slice e)) (hi:(P.info? e).map (fun i=>(i.zero,i.size,i.bytes))=some (some z,E.size,bytes)) (hzs:z.cells.size=E.size) (hpos:0<E.size)
    (hx:CU F x=v) (hy:CU F y=u) (ho:EJ E e w0.heap.size (B++O0) w v l) (hu:RdN E uw O' w u m) (hav:∀ cs y,E.rd uw O' cs y→E.rd w (B++O0) cs y) (hv:∀ b,v.ownBlock=some b→b∈B) (hlen:(l.length+m.length)*bytes≤140737488355328) (hlm:l.length+m.length≤maxLen) (s:St w0 O0 w B)
    (h:∀ v' w' B',(∀ b,v'.ownBlock=some b→b∈B')→(v'.ownBlock=v.ownBlock∨v'.ownBlock=some w.heap.size)→(∀ b∈B,b∈B')→St w0 O0 w' B'→Mv B w B' w'→Keep v.ownBlock.toList w w'→EJ E e w0.heap.size (B'++O0) w' v' (l++m)→K v' w') :
    DL P (.call { callee:=.builtin .append,args:=#[x,y],argTypes:=#[t,t] }) ty F w K Z:=by
  obtain ⟨i,hi1,hi2,hi3,hi4⟩:=info_parts hi
  obtain ⟨css,h1,h2,h3⟩:=ho
  obtain ⟨ad,c,rfl,h4,h5,css',k1,k2,k3⟩:=hu
  have hlens':∀ cs∈css',cs.length=E.size:=EJ.lens k1 k2
  have hones:∀ u∈css'.flatten,u.oneCell'=true:=by
    intro u hu
    obtain ⟨cs,hcs,hucs⟩:=List.mem_flatten.1 hu
    obtain ⟨j,hj,rfl⟩:=List.getElem_of_mem hcs
    exact E.one (k2 j _ m[j] (List.getElem?_eq_getElem hj) (List.getElem?_eq_getElem (by omega))) u hucs
  have hlen':css'.flatten.length=m.length*E.size:=by rw [EY css' hlens',k1]
  have fin:∀ v' w' B',w'.ownsRow w0.heap.size e E.size v' (l.length+m.length) (css.flatten++css'.flatten)→Mv B w B' w'→EJ E e w0.heap.size (B'++O0) w' v' (l++m):=by
    intro v' w' B' hr hmv
    refine ⟨css++css',by simp [h1,k1],by simpa using hr,fun j cs y hj hy=>?_⟩
    by_cases hjl:j<l.length
    · rw [List.getElem?_append_left (by omega)] at hj hy
      exact E.mv (h3 j cs y hj hy) hmv
    · rw [List.getElem?_append_right (by omega)] at hj hy
      rw [h1] at hj
      exact E.mv (hav _ _ (k2 _ cs y hj hy)) hmv
  have step:∀ v' w',(Builtin.append_ #[t,t] ty #[v, .slice (some ad) m.length c]).run P w = .ok v' w'→w'.ownsRow w0.heap.size e E.size v' (l.length+m.length) (css.flatten++css'.flatten)→w.grownBy w' v.ownBlock→(v'.ownBlock=v.ownBlock∨v'.ownBlock=some w.heap.size)→
      DL P (.call { callee:=.builtin .append,args:=#[x,y],argTypes:=#[t,t] }) ty F w K Z:=by
    intro v' w' hr hown hg hat
    have hk:Keep v.ownBlock.toList w w':=Keep.of_grown hg
    have hB:Keep B w w':=hk.mono (fun b hb=>.inl (hv b (by simpa using hb)))
    have hown':=hown.lt
    rcases hat with hat|hat
    · have mv:Mv B w B w':=⟨hB,fun b hb=>.inl hb⟩
      exact BU (v:=v') (w':=w') (by simp [execOp,resolve,invoke,builtin,hx,hy,hr]) (h v' w' B (fun b hb=>hv b (by rw [← hat];exact hb)) (.inl hat) (fun b hb=>hb) (s.step mv (fun b hb=>Nat.lt_of_lt_of_le (s.new b hb).2 hk.size)) mv hk (fin v' w' B hown mv))
    · have mv:Mv B w (w.heap.size :: B) w':=⟨hB,fun b hb=>by rcases List.mem_cons.1 hb with h|h;exact .inr (by omega);exact .inl h⟩
      exact BU (v:=v') (w':=w') (by simp [execOp,resolve,invoke,builtin,hx,hy,hr]) (h v' w' (w.heap.size :: B) (fun b hb=>by rw [hat] at hb;cases hb;simp) (.inr hat) (fun b hb=>by simp [hb])
        (s.step mv (fun b hb=>by
          rcases List.mem_cons.1 hb with h|h
          · subst h;exact (hown' _ hat).2
          · exact Nat.lt_of_lt_of_le (s.new b h).2 hk.size)) mv hk (fin v' w' _ hown mv))
  obtain ⟨v',w',hr,g1,g2,_,g4⟩:=run_append_own_at (P:=P) w w0.heap.size t ty e i z E.size bytes ht hi1 hi2 hi3 hi4 hzs hpos v l.length css.flatten h2 ad m.length c css'.flatten hlen' k3 hones hlm hlen s.keep.size
  exact step v' w' hr g1 g2 g4
end
open Go.RowKit
abbrev VN:=List Nat→Value→World→Prop
def prU (Ts:List VN) (i:Nat):VN:=(Ts[i]?).getD (fun _ _ _=>True)
structure Gr where
  g:Nat
  rs:List Nat
  hs:List Nat
  kills:List Nat
  wr:Bool
  uses:List Nat
def QS (G:List Gr) (i:Nat):Gr:=(G[i]?).getD ⟨0,[],[],[],false,[]⟩
def aliveB (G:List Gr) (m i:Nat):Bool:=(List.range m).all fun q=>!(QS G q).kills.contains i
theorem nbf {a b:Nat}:Nat.beq a b=false↔a≠b:=by
  constructor
  · intro h e;subst e;rw [Nat.beq_refl] at h;cases h
  · intro h
    cases hb:Nat.beq a b with
    | false=>rfl
    | true=>exact absurd (Nat.eq_of_beq_eq_true hb) h
def avo (lab:Nat→Nat) (base size g:Nat):List Nat:=(List.range size).filter fun b=>Nat.ble base b && !Nat.beq (lab b) g
theorem IF {lab:Nat→Nat} {base size g b:Nat}:b∈avo lab base size g↔b<size∧base≤b∧lab b≠g:=by
  unfold avo;simp [List.mem_filter,nbf]
def UJ (ops:List Oper) (m:Nat) (G:List Gr):Bool:=
  (List.range m).all fun i=>let r:=QS G i
    (Nat.beq r.g 0 || r.rs.all (fun x=>Nat.beq x r.g || r.hs.contains x)) && (!r.wr || !Nat.beq r.g 0) && (!Nat.beq r.g 0 || r.hs.isEmpty) && !r.hs.contains r.g && !r.hs.contains 0 &&
    (List.range m).all (fun q=>Nat.beq q i || Nat.beq (QS G q).g 0 || r.kills.contains q || DT ops q i || (!r.hs.contains (QS G q).g && (!r.wr || !Nat.beq (QS G q).g r.g))) &&
    r.uses.all (fun j=>Nat.blt j m && (KP ops i).contains j && (Nat.beq (QS G j).g 0 || r.rs.contains (QS G j).g) && (List.range m).all (fun q=>Nat.beq q i || !(QS G q).kills.contains j || DT ops q i))
def UH:List VN→List Gr→Prop
  | T :: Ts,r :: G=>(bif Nat.beq r.g 0 then (∀ B B' v w w',T B v w→T B' v w') else (∀ B B' v w w',T B v w→Mv B w B' w'→T B' v w'))∧UH Ts G
  | _,_=>True
theorem UH.at_:∀ {Ts:List VN} {G:List Gr},UH Ts G→G.length=Ts.length→∀ i,(bif Nat.beq (QS G i).g 0 then (∀ B B' v w w',prU Ts i B v w→prU Ts i B' v w') else (∀ B B' v w w',prU Ts i B v w→Mv B w B' w'→prU Ts i B' v w'))
  | [],[],_,_,i=>by simp only [QS,prU,List.getElem?_nil,Option.getD_none];exact fun _ _ _ _ _ _=>trivial
  | T :: Ts,r :: G,h,hl,0=>h.1
  | T :: Ts,r :: G,h,hl,i+1=>UH.at_ h.2 (by simpa using hl) i
  | [],_ :: _,_,h,_=>by simp at h
  | _ :: _,[],_,h,_=>by simp at h
section
variable {P:Program} {n:Nat} {Q:Exit→Fr→World→Prop}
def OpSpecU (P:Program) (ops:List Oper) (m:Nat) (Ts:List VN) (G:List Gr) (F:Fr) (w:World) (B:List Nat) (i:Nat) (o:Oper) (T:VN):Prop:=
  ∀ F1 w1 (B1:List Nat) (Bs:Nat→List Nat),Keep [] w w1→(∀ b∈B,b∈B1)→(∀ b∈B1,b∈B∨(w.heap.size≤b∧b<w1.heap.size))→(∀ g,(QS G i).rs.contains g=true→∀ b∈B1,b∈Bs g)→(∀ g h b,Nat.beq g h=false→w.heap.size≤b→b<w1.heap.size→b∉Bs g→b∈Bs h)→(∀ t,NG ops i t=true→F1 t=F t)→
    (∀ j d,(QS G i).uses.contains j=true→depAt' ops j d=true→prU Ts j (Bs (QS G j).g) (F1 d) w1)→
    (Region.wanted o (DR ops F1)=true→DL P o.op o.type F1 w1 (fun v w2=>∃ C,Keep C w1 w2∧(∀ b∈C,(QS G i).wr=true∧w.heap.size≤b∧b<w1.heap.size∧b∉B1)∧T B1 v w2) (fun _ _=>False))∧
    (Region.wanted o (DR ops F1)=false→T B1 undef w1)
def PD (P:Program) (ops:List Oper) (m:Nat) (Ts:List VN) (G:List Gr) (F:Fr) (w:World) (B:List Nat):Nat→List Oper→List VN→Prop
  | i,o :: r,T :: R=>OpSpecU P ops m Ts G F w B i o T∧PD P ops m Ts G F w B (i+1) r R
  | _,_,_=>True
theorem PD.at_ {ops:List Oper} {m:Nat} {Ts:List VN} {G:List Gr} {F:Fr} {w:World} {B:List Nat}:∀ (l:List Oper) (R:List VN) (k i:Nat) (o:Oper) (T:VN),PD P ops m Ts G F w B k l R→l[i]? = some o→R[i]? = some T→OpSpecU P ops m Ts G F w B (k+i) o T
  | [],_,_,_,_,_,_,h,_=>by simp at h
  | _ :: _,[],_,_,_,_,_,_,h=>by simp at h
  | o' :: l,T' :: R,k,0,o,T,h,h1,h2=>by
    simp at h1 h2;subst h1;subst h2;exact h.1
  | o' :: l,T' :: R,k,i+1,o,T,h,h1,h2=>by
    have:=PD.at_ l R (k+1) i o T h.2 (by simpa using h1) (by simpa using h2)
    rwa [show k+1+i=k+(i+1) by omega] at this
structure UInv (ops:List Oper) (m:Nat) (Ts:List VN) (G:List Gr) (F:Fr) (w:World) (B:List Nat) (listed:Array Bool) (F1:Fr) (w1:World):Prop where
  keep:Keep [] w w1
  down:∀ i,listed[i]? = some true→∀ j∈KP ops i,listed[j]? = some true
  free:∀ (t:Tmp),(∀ (j:Nat) (o:Oper),listed[j]? = some true→ops[j]? = some o→o.dst≠some t)→F1 t=F t
  fact:∃ lab:Nat→Nat,∀ (i:Nat) (o:Oper) (d:Tmp),i<m→listed[i]? = some true→(∀ q,q<m→listed[q]? = some true→i∉(QS G q).kills)→ops[i]? = some o→o.dst=some d→prU Ts i (avo lab w.heap.size w1.heap.size (QS G i).g++B) (F1 d) w1
theorem Keep.behind {a b c:World} {C:List Nat} (h:Keep [] a b) (k:Keep C b c) (hC:∀ x∈C,a.heap.size≤x):Keep [] a c:=
  ⟨k.os.trans h.os,k.tape.trans h.tape,k.output.trans h.output,Nat.le_trans h.size k.size,fun i hi ho=>(k.block i (Nat.lt_of_lt_of_le hi h.size) (fun hc=>by have:=hC i hc;omega)).trans (h.block i hi ho)⟩
theorem stepU {ops:List Oper} {F:Fr} {w:World} {m:Nat} {Ts:List VN} {G:List Gr} {B:List Nat} (hdo:∀ (i j:Nat) (oi oj:Oper),i<m→j<m→i≠j→ops[i]? = some oi→ops[j]? = some oj→oi.dst≠none→oi.dst≠oj.dst)
    (hTl:Ts.length=m) (hGl:G.length=Ts.length) (hle:m≤ops.length) (hgr:UJ ops m G=true) (hst:UH Ts G)
    (hs:PD P ops m Ts G F w B 0 (ops.take m) Ts) {listed:Array Bool} {F1:Fr} {w1:World} {i:Nat} {o:Oper} (hsz:listed.size=ops.length) (hi:UInv ops m Ts G F w B listed F1 w1) (him:i<m) (ho:ops[i]? = some o) (hnl:listed[i]? = some false) (haft:∀ j∈KP ops i,listed[j]? = some true) :
    (Region.wanted o (DR ops F1)=true→DL P o.op o.type F1 w1 (fun v w2=>UInv ops m Ts G F w B (listed.setIfInBounds i true) (IG F1 o.dst v) w2) (fun _ _=>False))∧
    (Region.wanted o (DR ops F1)=false→UInv ops m Ts G F w B (listed.setIfInBounds i true) (IG F1 o.dst undef) w1):=by
  have hil:i<ops.length:=by omega
  have hg:=List.all_eq_true.1 hgr i (by simpa using him)
  simp only [Bool.and_eq_true] at hg
  obtain ⟨⟨⟨⟨⟨⟨g1,g2⟩,g3⟩,g4⟩,g5⟩,g6⟩,g7⟩:=hg
  generalize hr:QS G i=r at *
  have c1:r.g≠0→∀ x∈r.rs,x=r.g∨x∈r.hs:=fun h0 x hx=>by
    rcases (Bool.or_eq_true _ _).mp g1 with h|h
    · exact absurd (Nat.eq_of_beq_eq_true h) h0
    · have:=List.all_eq_true.1 h x hx
      rcases (Bool.or_eq_true _ _).mp this with h|h
      · exact .inl (Nat.eq_of_beq_eq_true h)
      · exact .inr (by simpa using h)
  have c2:r.wr=true→r.g≠0:=fun h h0=>by rw [h,h0] at g2;simp at g2
  have c3:r.g=0→r.hs=[]:=fun h0=>by rw [h0] at g3;simpa using g3
  have c4:r.g∉r.hs:=by simpa using g4
  have c6:∀ q,q<m→q≠i→(QS G q).g≠0→q∉r.kills→DT ops q i=false→(QS G q).g∉r.hs∧(r.wr=true→(QS G q).g≠r.g):=fun q hq hqi h0 hk hwt=>by
    have:=List.all_eq_true.1 g6 q (by simpa using hq)
    simp only [Bool.or_eq_true,Bool.and_eq_true] at this
    rcases this with (((h|h)|h)|h)|h
    · exact absurd (Nat.eq_of_beq_eq_true h) hqi
    · exact absurd (Nat.eq_of_beq_eq_true h) h0
    · exact absurd (by simpa using h) hk
    · rw [hwt] at h;cases h
    · exact ⟨by simpa using h.1,fun hw e=>by rw [hw,e] at h;simp at h⟩
  have c7:∀ j∈r.uses,j<m∧j∈KP ops i∧((QS G j).g≠0→(QS G j).g∈r.rs)∧∀ q,q<m→q≠i→j∈(QS G q).kills→DT ops q i=true:=fun j hj=>by
    have:=List.all_eq_true.1 g7 j hj
    simp only [Bool.and_eq_true] at this
    obtain ⟨⟨⟨h1,h2⟩,h3⟩,h4⟩:=this
    refine ⟨blt h1,by simpa using h2,fun h0=>?_,fun q hq hqi hk=>?_⟩
    · rcases (Bool.or_eq_true _ _).mp h3 with h|h
      · exact absurd (Nat.eq_of_beq_eq_true h) h0
      · simpa using h
    · have:=List.all_eq_true.1 h4 q (by simpa using hq)
      simp only [Bool.or_eq_true] at this
      rcases this with (h|h)|h
      · exact absurd (Nat.eq_of_beq_eq_true h) hqi
      · exact absurd hk (by simpa using h)
      · exact h
  obtain ⟨lab,hfact⟩:=hi.fact
  -- what the operation does not read
  have hL:∃ L:List Nat,∀ b,b∈L↔(b<w1.heap.size∧w.heap.size≤b∧lab b≠r.g∧lab b∉r.hs∧lab b∉r.rs):=
    ⟨(List.range w1.heap.size).filter fun b=>Nat.ble w.heap.size b && !Nat.beq (lab b) r.g && !r.hs.contains (lab b) && !r.rs.contains (lab b),fun b=>by simp [List.mem_filter,and_assoc,nbf]⟩
  obtain ⟨L,hL⟩:=hL
  have hstab:∀ j,(QS G j).g≠0→∀ B B' v w w',prU Ts j B v w→Mv B w B' w'→prU Ts j B' v w':=fun j h0=>by
    have:=hst.at_ hGl j
    cases hb:Nat.beq (QS G j).g 0 with
    | true=>exact absurd (Nat.eq_of_beq_eq_true hb) h0
    | false=>rw [hb] at this;exact this
  have hstat:∀ j,(QS G j).g=0→∀ B B' v w w',prU Ts j B v w→prU Ts j B' v w':=fun j h0=>by
    have:=hst.at_ hGl j
    rw [h0] at this;exact this
  have dep:∀ (j d:Nat),depAt' ops j d=true→∃ oj,ops[j]? = some oj∧oj.dst=some d:=fun j d h=>by
    unfold depAt' at h
    cases ho:ops[j]? with
    | none=>rw [ho] at h;cases h
    | some o=>
      rw [ho] at h
      simp only [Option.bind_some] at h
      cases hd':o.dst with
      | none=>rw [hd'] at h;cases h
      | some e=>
        rw [hd'] at h
        have:=Nat.eq_of_beq_eq_true h
        subst this
        exact ⟨o,rfl,hd'⟩
  have hT:Ts[i]? = some Ts[i]:=List.getElem?_eq_getElem (by omega)
  have hTi:prU Ts i=Ts[i]:=by unfold prU;rw [hT];rfl
  have hcl:∀ q j,listed[q]? = some true→DT ops q j=true→listed[j]? = some true:=fun q j hq hj=>by
    unfold DT at hj
    exact GV (D:=fun j=>listed[j]? = some true) hi.down _ _ (hi.down q hq) j (by simpa using hj)
  have hsp:=hs.at_ (ops.take m) Ts 0 i o Ts[i] (by rw [List.getElem?_take,if_pos him];exact ho) hT
  rw [Nat.zero_add] at hsp
  have hsep:∀ g h b,Nat.beq g h=false→w.heap.size≤b→b<w1.heap.size→b∉avo lab w.heap.size w1.heap.size g++B→b∈avo lab w.heap.size w1.heap.size h++B:=fun g h b hgh h1 h2 hb=>by
    refine List.mem_append_left _ (IF.2 ⟨h2,h1,fun e=>?_⟩)
    refine hb (List.mem_append_left _ (IF.2 ⟨h2,h1,fun e'=>?_⟩))
    rw [← e',e,Nat.beq_refl] at hgh;cases hgh
  have hsp:=hsp F1 w1 (L++B) (fun g=>avo lab w.heap.size w1.heap.size g++B) hi.keep (fun b hb=>List.mem_append_right _ hb) (fun b hb=>by
      rcases List.mem_append.1 hb with h|h
      · exact .inr ⟨((hL b).1 h).2.1,((hL b).1 h).1⟩
      · exact .inl h) (fun g hg b hb=>by
      rw [hr] at hg
      have hg:g∈r.rs:=by simpa using hg
      rcases List.mem_append.1 hb with h|h
      · obtain ⟨a1,a2,a3,a4,a5⟩:=(hL b).1 h
        exact List.mem_append_left _ (IF.2 ⟨a1,a2,fun e=>a5 (by rw [e];exact hg)⟩)
      · exact List.mem_append_right _ h) hsep (fun t ht=>hi.free t (fun j oj hj hoj=>by
        intro e
        unfold NG at ht
        have h1:=List.all_eq_true.1 ht j (by simp;exact (List.getElem?_eq_some_iff.1 hoj).1)
        rw [hoj] at h1
        simp only [e,Bool.or_eq_true,List.contains_iff_mem] at h1
        rcases h1 with h1|h1
        · simp at h1
        · have:=hi.down j hj i h1
          rw [hnl] at this;cases this)) (fun j d hj hdep=>by
        rw [hr] at hj
        have hj:j∈r.uses:=by simpa using hj
        obtain ⟨hjm,hja,hjr,hjk⟩:=c7 j hj
        obtain ⟨oj,hoj,hdj⟩:=dep j d hdep
        have hf:=hfact j oj d hjm (haft j hja) (fun q hq hql hk=>by
          by_cases hqi:q=i
          · subst hqi;rw [hnl] at hql;cases hql
          · have:=hcl q i hql (hjk q hq hqi hk)
            rw [hnl] at this;cases this) hoj hdj
        exact hf)
  have hdist:∀ (j:Nat) (oj:Oper),j<m→j≠i→ops[j]? = some oj→oj.dst≠none→oj.dst≠o.dst:=fun j oj hj hji hoj hne=>hdo j i oj o hj him hji hoj ho hne
  have hset:∀ (j:Nat),(listed.setIfInBounds i true)[j]? = some true→j=i∨listed[j]? = some true:=by
    intro j hj
    by_cases hji:j=i
    · exact .inl hji
    · rw [Array.getElem?_setIfInBounds,if_neg (fun e=>hji e.symm)] at hj;exact .inr hj
  have hmono:∀ (j:Nat),listed[j]? = some true→(listed.setIfInBounds i true)[j]? = some true:=by
    intro j hj
    rw [Array.getElem?_setIfInBounds]
    split
    · rename_i e;subst e
      have:i<listed.size:=by omega
      simp [this]
    · exact hj
  have hself:(listed.setIfInBounds i true)[i]? = some true:=by
    rw [Array.getElem?_setIfInBounds,if_pos rfl,if_pos (by omega)]
  have use:∀ v w2,(∃ C,Keep C w1 w2∧(∀ b∈C,r.wr=true∧w.heap.size≤b∧b<w1.heap.size∧b∉L++B)∧Ts[i] (L++B) v w2)→UInv ops m Ts G F w B (listed.setIfInBounds i true) (IG F1 o.dst v) w2:=by
    rintro v w2 ⟨C,hk,hC,hv⟩
    rw [← hTi] at hv
    refine ⟨hi.keep.behind hk (fun x hx=>(hC x hx).2.1),fun j hj q hq=>?_,fun t ht=>?_,fun b=>if b<w1.heap.size then (if lab b∈r.hs then r.g else lab b) else r.g,fun q oq d hqm hql hqk hoq hd=>?_⟩
    · rcases hset j hj with rfl|hj
      · exact hmono q (haft q hq)
      · exact hmono q (hi.down j hj q hq)
    · have h1:o.dst≠some t:=ht i o hself ho
      have h2:F1 t=F t:=hi.free t (fun j oj hj hoj=>ht j oj (hmono j hj) hoj)
      cases hod:o.dst with
      | none=>exact h2
      | some d'=>
        show FQ F1 d' v t=F t
        rw [IE _ _ _ (fun e=>h1 (by rw [hod,e]))];exact h2
    · by_cases hqi:q=i
      · subst hqi
        rw [ho] at hoq;cases hoq
        have e:IG F1 o.dst v d=v:=by rw [hd];exact HF _ _ _
        rw [e,hr]
        by_cases h0:r.g=0
        · exact hstat q (by rw [hr];exact h0) _ _ _ _ _ hv
        · refine hstab q (by rw [hr];exact h0) _ _ _ _ _ hv ⟨Keep.refl _ _,fun b hb=>.inl ?_⟩
          rcases List.mem_append.1 hb with h|h
          · obtain ⟨a1,a2,a3⟩:=IF.1 h
            by_cases hb1:b<w1.heap.size
            · rw [if_pos hb1] at a3
              by_cases hbh:lab b∈r.hs
              · rw [if_pos hbh] at a3;exact absurd rfl a3
              · rw [if_neg hbh] at a3
                refine List.mem_append_left _ ((hL b).2 ⟨hb1,a2,a3,hbh,fun hrs=>?_⟩)
                rcases c1 h0 _ hrs with h|h
                · exact a3 h
                · exact hbh h
            · rw [if_neg hb1] at a3;exact absurd rfl a3
          · exact List.mem_append_right _ h
      · have hql':listed[q]? = some true:=by rcases hset q hql with h|h;exact absurd h hqi;exact h
        have hf:=hfact q oq d hqm hql' (fun x hx hxl=>hqk x hx (hmono x hxl)) hoq hd
        have e:IG F1 o.dst v d=F1 d:=by
          cases hod:o.dst with
          | none=>rfl
          | some d'=>
            have hn:d≠d':=fun e=>hdist q oq hqm hqi hoq (by rw [hd];simp) (by rw [hd,hod,e])
            show FQ F1 d' v d=F1 d
            rw [IE _ _ _ hn]
        rw [e]
        by_cases h0:(QS G q).g=0
        · exact hstat q h0 _ _ _ _ _ hf
        · obtain ⟨b1,b2⟩:=c6 q hqm hqi h0 (by have:=hqk i him hself;rwa [hr] at this) (by
            cases hwt:DT ops q i with
            | false=>rfl
            | true=>have:=hcl q i hql' hwt;rw [hnl] at this;cases this)
          refine hstab q h0 _ _ _ _ _ hf ⟨hk.mono (fun b hb=>.inl ?_),fun b hb=>?_⟩
          · obtain ⟨x1,x2,x3,x4⟩:=hC b hb
            refine List.mem_append_left _ (IF.2 ⟨x3,x2,fun e=>x4 (List.mem_append_left _ ((hL b).2 ⟨x3,x2,?_,?_,?_⟩))⟩)
            · rw [e];exact b2 x1
            · rw [e];exact b1
            · rw [e];intro hrs
              rcases c1 (c2 x1) _ hrs with h|h
              · exact b2 x1 h
              · exact b1 h
          · rcases List.mem_append.1 hb with h|h
            · obtain ⟨a1,a2,a3⟩:=IF.1 h
              by_cases hb1:b<w1.heap.size
              · rw [if_pos hb1] at a3
                refine .inl (List.mem_append_left _ (IF.2 ⟨hb1,a2,fun e=>a3 ?_⟩))
                rw [if_neg (by rw [e];exact b1)];exact e
              · exact .inr (by omega)
            · exact .inl (List.mem_append_right _ h)
  refine ⟨fun hw=>?_,fun hw=>use undef w1 ⟨[],Keep.refl _ _,(fun _ h=>by cases h),hsp.2 hw⟩⟩
  have h2:=hsp.1 hw
  rw [hr] at h2
  unfold DL at h2 ⊢
  generalize (execOp (CU F1) ⟨none,o.op,o.type,"",#[],none⟩).run P w1=rr at h2 ⊢
  cases rr with
  | ok x w'=>
    cases x <;> simp only [FS] at h2 ⊢ <;> try exact h2.elim
    case value v=>exact use _ _ h2
    case skip=>exact use _ _ h2
    case enter f args=>
      exact Calls.mono h2 fun e w'' he=>by
        cases e with
        | returned v=>exact use _ _ he
        | panicked c=>exact he.elim
        | outgrown=>exact he.elim
  | halt x w'=>cases x <;> simp only [FS] at h2 ⊢ <;> exact h2.elim
def FinU (ops:List Oper) (m:Nat) (Ts:List VN) (G:List Gr) (F:Fr) (w:World) (B:List Nat) (ex:List Nat) (K:Fr→World→Prop):Prop:=
  ∀ F1 w1 (Bs:Nat→List Nat),Keep [] w w1→(∀ g,∀ b∈B,b∈Bs g)→(∀ g,∀ b∈Bs g,b∈B∨(w.heap.size≤b∧b<w1.heap.size))→(∀ g h b,Nat.beq g h=false→w.heap.size≤b→b<w1.heap.size→b∉Bs g→b∈Bs h)→
    (∀ i d,depAt' ops i d=true→i<m→ex.contains i=false→aliveB G m i=true→prU Ts i (Bs (QS G i).g) (F1 d) w1)→(∀ t,MQ ops m t=true→F1 t=F t)→K F1 w1
theorem UInv.fin {ops:List Oper} {m:Nat} {Ts:List VN} {G:List Gr} {F:Fr} {w:World} {B ex:List Nat} {K:Fr→World→Prop} {listed:Array Bool} {F1:Fr} {w1:World} (hi:UInv ops m Ts G F w.drew B listed F1 w1) (hall:∀ i,i<m→ex.contains i=false→listed[i]? = some true) (hno:∀ j,m≤j→listed[j]?≠some true) (fin:FinU ops m Ts G F w B ex K):K F1 w1:=by
  obtain ⟨lab,hf⟩:=hi.fact
  refine fin F1 w1 (fun g=>avo lab w.heap.size w1.heap.size g++B) ((Keep.drew [] w).trans hi.keep) (fun g b hb=>List.mem_append_right _ hb) (fun g b hb=>?_) (fun g h b hgh h1 h2 hb=>?_) (fun i d hdp him hex hal=>?_) (fun t ht=>hi.free t (fun j o hj ho e=>?_))
  · rcases List.mem_append.1 hb with h|h
    · exact .inr ⟨(IF.1 h).2.1,(IF.1 h).1⟩
    · exact .inl h
  · refine List.mem_append_left _ (IF.2 ⟨h2,h1,fun e=>?_⟩)
    exact hb (List.mem_append_left _ (IF.2 ⟨h2,h1,fun e'=>by rw [← e',e,Nat.beq_refl] at hgh;cases hgh⟩))
  · unfold depAt' at hdp
    cases ho:ops[i]? with
    | none=>rw [ho] at hdp;cases hdp
    | some o=>
      rw [ho] at hdp
      simp only [Option.bind_some] at hdp
      cases hd':o.dst with
      | none=>rw [hd'] at hdp;cases hdp
      | some e=>
        rw [hd'] at hdp
        have:=Nat.eq_of_beq_eq_true hdp
        subst this
        refine hf i o e him (hall i him hex) (fun q hq _=>?_) ho hd'
        have:=List.all_eq_true.1 hal q (by simpa using hq)
        simpa using this
  · rcases Nat.lt_or_ge j m with h1|h1
    · unfold MQ at ht
      have h3:=List.all_eq_true.1 ht o (List.mem_of_getElem? (by rw [List.getElem?_take,if_pos h1];exact ho))
      rw [e] at h3;simp at h3
    · exact absurd hj (hno j h1)
theorem UInv.start {ops:List Oper} {m:Nat} {Ts:List VN} {G:List Gr} {F:Fr} {w:World} {B:List Nat}:UInv ops m Ts G F w B (Array.replicate ops.length false) F w:=by
  refine ⟨Keep.refl _ _,fun i hi=>?_,fun _ _=>rfl,fun _=>0,fun i o d _ hi=>?_⟩ <;> simp_all [Array.getElem?_replicate]
theorem WA {id:Nat} {ops:List Oper} {F:Fr} {w:World} (m:Nat) (late:List Nat) (pre:List Oper) (om:Oper) (tl:List Oper) (Ts:List VN) (G:List Gr) (B:List Nat) (hm:P.follows .mixedOrders=true) (hok:ops.all (OR n ops)=true) (hd:OY ops m late=true) (hlen:(Nat.beq Ts.length m && Nat.beq G.length m && Nat.ble m ops.length)=true) (hgr:UJ ops m G=true) (hnd:late.Nodup)
    (hpre:ops.take m=pre) (hom:ops[m]? = some om) (htl:DA ops (CP ops m)=tl) (hst:UH Ts G) (hs:PD P ops m Ts G F w.drew B 0 pre Ts)
    (fin:FinU ops m Ts G F w B [] (WL false P ops Q (om :: tl))) (finL:∀ c,c<late.length→FinU ops m Ts G F w B (late.drop c) (WL false P ops Q (om :: (DA ops (late.drop c)++tl)))):CW P (ro:=none) n (.region id ops.toArray true) Q F w:=by
  subst hpre;subst htl
  simp only [Bool.and_eq_true] at hlen
  have hTl:Ts.length=m:=Nat.eq_of_beq_eq_true hlen.1.1
  have hGl:G.length=Ts.length:=by rw [hTl];exact Nat.eq_of_beq_eq_true hlen.1.2
  have hle:m≤ops.length:=Nat.le_of_ble_eq_true hlen.2
  have hdr:({ w with drawn:=w.drawn+1 }:World)=w.drew:=rfl
  have hd':=hd
  unfold OY at hd'
  simp only [Bool.and_eq_true] at hd'
  obtain ⟨⟨⟨⟨⟨⟨⟨⟨⟨d1,d2⟩,d3⟩,d4⟩,d5⟩,d6⟩,d7⟩,d8⟩,d9⟩,d10⟩:=hd'
  have hdist:∀ (i j:Nat) (oi oj:Oper),i<m→j<m→i≠j→ops[i]? = some oi→ops[j]? = some oj→oi.dst≠none→oi.dst≠oj.dst:=by
    intro i j oi oj hi hj hij hoi hoj hne
    have:=List.all_eq_true.1 (List.all_eq_true.1 d1 i (by simpa using hi)) j (by simpa using hj)
    simp only [Bool.or_eq_true] at this
    rcases this with h5|h5
    · exact absurd (Nat.eq_of_beq_eq_true h5) hij
    · rw [hoi,hoj] at h5
      intro e
      cases hd:oi.dst with
      | none=>exact hne hd
      | some d=>
        rw [hd] at e
        simp only [Option.bind_some,hd,← e] at h5
        simp at h5
  refine wpIn_wide.2 (wp_region_any hm ?_)
  rw [hdr,List.size_toArray]
  refine draw_runM (UInv ops m Ts G F w.drew B) hd hnd hok hom (fun listed F1 w1 h=>h.down) (fun listed F1 w1 i o hsz h him ho hnl haft=>stepU hdist hTl hGl hle hgr hst hs hsz h him ho hnl haft)
    (fun listed F1 w1 hi hall hno=>hi.fin (fun i him _=>hall i him) hno fin) (fun c hc listed F1 w1 hi hall hno=>hi.fin (fun i him hex=>(hall i him).2 (by simpa using hex)) hno (finL c hc)) ops.length _ F w.drew (by simp) ?_ (fun j _=>?_) UInv.start
  · unfold OX;exact Nat.le_trans (List.countP_le_length) (by simp)
  · simp [Array.getElem?_replicate]
theorem OB {w w1:World} {B1:List Nat} {wr:Bool}:∀ b∈([]:List Nat),wr=true∧w.heap.size≤b∧b<w1.heap.size∧b∉B1:=fun _ h=>by cases h
theorem St.adoptL {w0 w w':World} {O0 B B1:List Nat} (s:St w0 O0 w B) (k:Keep [] w w') (hl:∀ b∈B1,b∈B∨(w.heap.size≤b∧b<w'.heap.size)):St w0 O0 w' B1:=
  ⟨(s.call k).keep,fun b hb=>by
    rcases hl b hb with h|h
    · exact ⟨(s.new b h).1,Nat.lt_of_lt_of_le (s.new b h).2 k.size⟩
    · exact ⟨Nat.le_trans s.keep.size h.1,h.2⟩,s.old⟩
theorem Mv.adoptL {w w':World} {B B1:List Nat} (k:Keep [] w w') (hl:∀ b∈B1,b∈B∨(w.heap.size≤b∧b<w'.heap.size)):Mv B w B1 w':=
  ⟨k.nil,fun b hb=>(hl b hb).imp id (·.1)⟩
theorem Mv.at_ {w:World} {B B1:List Nat} (h:∀ b∈B1,b∈B):Mv B w B1 w:=⟨Keep.refl _ _,fun b hb=>.inl (h b hb)⟩
def SD (u:World) (t:TypeId) (cs:List Value):VN:=fun B v w=>∃ b,v = .pointer (some ⟨b,0,none⟩)∧u.heap.size≤b∧b∉B∧GQ w b t cs
theorem SD.st {u:World} {t:TypeId} {cs:List Value}:∀ B B' v w w',SD u t cs B v w→Mv B w B' w'→SD u t cs B' v w':=fun B B' v w w' ⟨b,e,lo,hn,hb⟩ m=>
  ⟨b,e,lo,fun h=>by rcases m.new b h with h1|h1;exact hn h1;have:=hb.lt;omega,hb.keep m.keep hn⟩
def TOw {α:Type} (u:World) (base:Nat) (O:List Nat) (E:Enc α) (e:TypeId) (l:List α):VN:=fun B v w=>(∀ b,v.ownBlock=some b→u.heap.size≤b∧b∉B)∧EJ E e base ((v.ownBlock.toList++B)++O) w v l
theorem Mv.app {w w':World} {B B':List Nat} (m:Mv B w B' w') (L:List Nat):Mv (L++B) w (L++B') w':=
  ⟨m.keep.mono (fun x hx=>.inl (List.mem_append_right _ hx)),fun x hx=>by
    rcases List.mem_append.1 hx with h|h
    · exact .inl (List.mem_append_left _ h)
    · exact (m.new x h).imp (List.mem_append_right _) id⟩
theorem TOw.st {α:Type} {u:World} {base:Nat} {O:List Nat} {E:Enc α} {e:TypeId} {l:List α}:∀ B B' v w w',TOw u base O E e l B v w→Mv B w B' w'→TOw u base O E e l B' v w':=fun B B' v w w' ⟨hb,ho⟩ m=>
  ⟨fun b h=>⟨(hb b h).1,fun h2=>by
    rcases m.new b h2 with h1|h1
    · exact (hb b h).2 h1
    · have:=(ho.lt b h).2;omega⟩,ho.mv (m.app _) m.keep (fun c hc=>(hb c hc).2)⟩
theorem TOw.rd {α:Type} {u:World} {base:Nat} {O:List Nat} {E:Enc α} {e:TypeId} {l:List α} {B:List Nat} {v:Value} {w:World} (h:TOw u base O E e l B v w) (hO:∀ x∈O,x<u.heap.size):BG E w (B++O) v l:=by
  refine h.2.rd (fun x hx=>.inl ?_) (fun c hc hx=>?_)
  · rcases List.mem_append.1 hx with h1|h1
    · exact List.mem_append_left _ (List.mem_append_right _ h1)
    · exact List.mem_append_right _ h1
  · rcases List.mem_append.1 hx with h1|h1
    · exact (h.1 c hc).2 h1
    · have:=hO _ h1;have:=(h.1 c hc).1;omega
theorem TOw.one {α:Type} {u:World} {base b:Nat} {O B:List Nat} {E:Enc α} {e:TypeId} {l:List α} {v:Value} {w:World} (hb:v.ownBlock=some b) (lo:u.heap.size≤b) (hn:b∉B) (h:EJ E e base ((b :: B)++O) w v l):TOw u base O E e l B v w:=
  ⟨fun c hc=>by rw [hb] at hc;cases hc;exact ⟨lo,hn⟩,by rw [hb];exact h⟩
theorem lt_of {w1:World} {B1:List Nat} {w0:World} {O0:List Nat} (s:St w0 O0 w1 B1):∀ x∈B1,x<w1.heap.size:=fun x hx=>(s.new x hx).2
theorem TOw.call {α:Type} {u w1 w2:World} {base:Nat} {O B1:List Nat} {E:Enc α} {e:TypeId} {l:List α} {v:Value} (hu:u.heap.size≤w1.heap.size) (hbase:base≤w1.heap.size) (hlt:∀ x∈B1,x<w1.heap.size) (hv:∀ b,v.ownBlock=some b→w1.heap.size≤b) (h:EJ E e w1.heap.size (v.ownBlock.toList++(B1++O)) w2 v l):TOw u base O E e l B1 v w2:=
  ⟨fun b hb=>⟨Nat.le_trans hu (hv b hb),fun hx=>by have:=hlt _ hx;have:=hv b hb;omega⟩,by
    obtain ⟨css,h1,h2,h3⟩:=h
    refine ⟨css,h1,⟨h2.1,?_⟩,fun i cs x hi hx=>by rw [List.append_assoc];exact h3 i cs x hi hx⟩
    rcases h2.2 with h|⟨g,cap,cur,rfl,hbg,r⟩
    · exact .inl h
    · exact .inr ⟨g,cap,cur,rfl,Nat.le_trans hbase hbg,r⟩⟩
section
variable {ty:TypeId} {F:Fr} {w:World} {K:Value→World→Prop} {Z:List PanicEntry→World→Prop} {x y:Operand}
end
end
open Go.RowKit
section
variable {P:Program} {w:World}
variable {ty yt:TypeId} {F:Fr} {K:Value→World→Prop} {Z:List PanicEntry→World→Prop} {x y:Operand}
def mfind {κ:Type} [BEq κ] (l:List (κ × Value)) (k:κ):Option Value:=(l.findIdx? (fun x=>k == x.1)).bind fun j=>(l[j]?).map (·.2)
def MapV {κ α:Type} [BEq κ] (enc:κ→Value) (venc:α→Value) (w:World) (r:Nat) (M:κ→Option α):Prop:=
  ∃ es c,∃ l:List (κ × Value),Ob w r (.map es c)∧es.toList.map (fun e=>(e.key,e.val))=l.map (fun x=>(enc x.1,x.2))∧∀ k,mfind l k=(M k).map venc
section
variable {κ α:Type} [BEq κ] {enc:κ→Value} {venc:α→Value} {r:Nat} {M:κ→Option α}
theorem MapV.lt (h:MapV enc venc w r M):r<w.heap.size:=let ⟨_,_,_,h,_⟩:=h;h.lt
theorem MapV.keep {w':World} {O:List Nat} (h:MapV enc venc w r M) (k:Keep O w w') (hb:r∉O):MapV enc venc w' r M:=let ⟨es,c,l,h1,h2⟩:=h;⟨es,c,l,h1.keep k hb,h2⟩
variable {w0:World} {O0 B:List Nat} {z:Operand}
variable [LawfulBEq κ]
end
section
variable {κ:Type} [BEq κ] [LawfulBEq κ]
end
end
open Go.RowKit
section
variable {P:Program} {n:Nat} {Q:Exit→Fr→World→Prop}
def JM (op:Op) (F:Fr):Option Value:=
  match op with
  | .extract x i=>(match CU F x with | .tuple vs=>vs[i]? | _=>none)
  | .move x=>some (CU F x)
  | .assign x=>some (CU F x)
  | _=>none
def NO (op:Op) (d:Tmp):Bool:=
  match op with
  | .extract (.tmp s) _=>!Nat.beq s d
  | .move (.tmp s)=>!Nat.beq s d
  | .assign (.tmp s)=>!Nat.beq s d
  | .assign (.const _)=>true
  | _=>false
theorem QF {op:Op} {d:Tmp} {ty:TypeId} {F:Fr} {w:World} {K:Value→World→Prop} {Z:List PanicEntry→World→Prop} (hp:NO op d=true) (h:DL P op ty F w K Z):∃ v,JM op F=some v∧K v w:=by
  unfold NO at hp
  split at hp
  · rename_i s i
    unfold DL at h
    have e:CU F (.tmp s)=F s:=rfl
    simp only [execOp,e] at h
    unfold JM
    simp only [e]
    cases hF:F s with
    | tuple vs=>
      rw [hF] at h
      cases hv:vs[i]? with
      | some v=>refine ⟨v,hv,?_⟩;simpa [Instr.extract,hv,FS] using h
      | none=>exfalso;simp [Instr.extract,hv,FS] at h
    | _=>exfalso;rw [hF] at h;simp [Instr.extract,FS] at h
  · unfold DL at h;simp only [execOp] at h;exact ⟨_,rfl,by simpa [FS] using h⟩
  · unfold DL at h;simp only [execOp] at h;exact ⟨_,rfl,by simpa [FS] using h⟩
  · unfold DL at h;simp only [execOp] at h;exact ⟨_,rfl,by simpa [FS] using h⟩
  · cases hp
theorem LF {op:Op} {v:Value} {ty:TypeId} {F:Fr} {w:World} {K:Value→World→Prop} {Z:List PanicEntry→World→Prop} (hv:JM op F=some v) (h:K v w):DL P op ty F w K Z:=by
  unfold JM at hv
  split at hv
  · split at hv
    · rename_i vs e;exact AN (vs:=vs) v e hv h
    · cases hv
  · exact AE v (Option.some.inj hv) h
  · exact AD v (Option.some.inj hv) h
  · cases hv
theorem nbeq {a b:Nat} (h:(!Nat.beq a b)=true):a≠b:=fun e=>by subst e;simp at h
theorem beq_ne {a b:Nat} (h:a≠b):Nat.beq a b=false:=by
  cases e:Nat.beq a b with
  | false=>rfl
  | true=>exact absurd (Nat.eq_of_beq_eq_true e) h
theorem VQ {F:Fr} {d t:Nat} {v:Value} (h:t≠d):FQ F d v t=F t:=by
  unfold FQ;rw [beq_ne h];rfl
theorem upd_swap {F:Fr} {a b:Nat} {v u:Value} (h:a≠b):FQ (FQ F a v) b u=FQ (FQ F b u) a v:=by
  funext t
  unfold FQ
  cases e1:Nat.beq t a with
  | false=>cases e2:Nat.beq t b <;> rfl
  | true=>
    have h1:=Nat.eq_of_beq_eq_true e1
    subst h1
    rw [beq_ne h];rfl
theorem KY {op:Op} {d:Tmp} {F:Fr} {u:Value} (hp:NO op d=true):JM op (FQ F d u)=JM op F:=by
  unfold NO at hp
  unfold JM
  have e:∀ s:Tmp,(!Nat.beq s d)=true→CU (FQ F d u) (.tmp s)=CU F (.tmp s):=fun s hs=>VQ (nbeq hs)
  split at hp
  · simp only [e _ hp]
  · simp only [e _ hp]
  · simp only [e _ hp]
  · rfl
  · cases hp
theorem run_step {ops:List Oper} (hok:ops.all (OR n ops)=true) {i fuel:Nat} {listed:Array Bool} {F1:Fr} {w1:World} {rest:List Oper} (hil:i<ops.length) (h:WL false P ops Q (ops[i] :: rest) F1 w1)
    (ih:∀ F w,WL false P ops Q rest F w→wpAny P .any ops.toArray (KG n Q) fuel (listed.setIfInBounds i true) (mk n F) w):wpOp P ops.toArray (KG n Q) i (wpAny P .any ops.toArray (KG n Q) fuel (listed.setIfInBounds i true)) (mk n F1) w1:=by
  have ho:ops[i]? = some ops[i]:=List.getElem?_eq_getElem hil
  refine LJ (K:=fun F w=>WL false P ops Q rest F w) hok ho ih (fun hw=>?_) (fun hw=>?_)
  · unfold WL at h;rw [if_pos hw] at h;exact h.resolve_right (fun e=>by cases e.1)
  · unfold WL at h;rw [if_neg (by rw [hw];simp)] at h;exact h
theorem KU {ops:List Oper} {i:Nat} {t:List Nat} (hil:i<ops.length):DA ops (i :: t)=ops[i] :: DA ops t:=by
  unfold DA;rw [List.filterMap_cons,List.getElem?_eq_getElem hil]
end
open Go.RowKit
section
variable {P:Program} {n:Nat} {Q:Exit→Fr→World→Prop}
theorem execOp_agree {ρ σ:Operand→Value} (o:Oper) (h2:(match o.op with | .select ..=>false | _=>true)=true) (key:∀ x∈o.op.operands.toList,ρ x=σ x):execOp ρ o=execOp σ o:=by
  have keyA:∀ (xs:Array Operand),(∀ x∈xs.toList,x∈o.op.operands.toList)→xs.map ρ=xs.map σ:=fun xs hx=>
    Array.map_congr_left fun x hm=>key x (hx x (by simpa using hm))
  have keyO:∀ (x:Option Operand),(∀ y,x=some y→y∈o.op.operands.toList)→x.map ρ=x.map σ:=fun x hx=>by
    cases x with
    | none=>rfl
    | some y=>simp [key y (hx y rfl)]
  obtain ⟨d,op,ty,pos,after,g⟩:=o
  simp only at key keyA keyO
  have call:∀ (c:Call),c.operands=op.operands→(∀ t,resolve ρ c t=resolve σ c t):=fun c hc t=>by
    obtain ⟨callee,args,ats⟩:=c
    have ha:args.map ρ=args.map σ:=keyA args (fun x hx=>by rw [← hc];simp [Call.operands];exact .inr (by simpa using hx))
    unfold resolve
    simp only [ha]
    cases callee with
    | value f=>simp only [key f (by rw [← hc];simp [Call.operands])]
    | invoke r m=>simp only [key r (by rw [← hc];simp [Call.operands])]
    | builtin b=>rfl
  cases op with
  | select cs b=>simp at h2
  | build t ps=>
    simp only [execOp]
    have:ps.map (fun p=>(p.1,ρ p.2))=ps.map (fun p=>(p.1,σ p.2)):=Array.map_congr_left fun p hp=>by rw [key p.2 (by have hp:p∈ps.toList:=(by simpa using hp);simp only [Op.operands,List.mem_map];exact ⟨p,hp,rfl⟩)]
    rw [this]
  | buildSlice t len ps=>
    simp only [execOp]
    have:ps.map (fun p=>(p.1,ρ p.2))=ps.map (fun p=>(p.1,σ p.2)):=Array.map_congr_left fun p hp=>by rw [key p.2 (by have hp:p∈ps.toList:=(by simpa using hp);simp only [Op.operands,List.mem_map];exact ⟨p,hp,rfl⟩)]
    rw [this]
  | call c=>simp only [execOp,call c rfl]
  | go c=>simp only [execOp,call c rfl]
  | defer c=>simp only [execOp,call c rfl]
  | makeFunc fn first captured=>
    simp only [execOp]
    rw [keyA first (fun x hx=>by simp [Op.operands];exact .inl (by simpa using hx)),keyA captured (fun x hx=>by simp [Op.operands];exact .inr (by simpa using hx))]
  | makeMap t r=>
    simp only [execOp]
    rw [keyO r (fun y hy=>by subst hy;simp [Op.operands])]
  | slice t x lo hi mx=>
    simp only [execOp]
    rw [key x (by simp [Op.operands]),keyO lo (fun y hy=>by subst hy;simp [Op.operands]),keyO hi (fun y hy=>by subst hy;simp [Op.operands]),keyO mx (fun y hy=>by subst hy;simp [Op.operands])]
  | alloc t=>rfl
  | ready g=>rfl
  | waits g=>rfl
  | move x|assign x|box _ x|load _ x|nilCheck x|unOp _ _ x|convert _ _ x|sliceToArrayPointer _ x|makeInterface _ x|makeChan _ x|fieldAddr _ x _|field _ x _|range _ x|next x _|entry x|typeAssert x _ _ _|extract x _|panic x|recv _ x _=>
    simp only [execOp,key x (by simp [Op.operands])]
  | pick c a b=>simp only [execOp,key c (by simp [Op.operands]),key a (by simp [Op.operands]),key b (by simp [Op.operands])]
  | store _ a v|binOp _ _ a v _|makeSlice _ a v|indexAddr _ a v|index _ a v|lookup _ a v _|mapEntry _ a v|send a v=>
    simp only [execOp,key a (by simp [Op.operands]),key v (by simp [Op.operands])]
  | mapUpdate _ m k v|entryStore _ m k v|insert _ m k v=>
    simp only [execOp,key m (by simp [Op.operands]),key k (by simp [Op.operands]),key v (by simp [Op.operands])]
def offB (op:Op) (d:Tmp):Bool:=op.operands.toList.all (fun x=>match x with | .tmp t=>!Nat.beq t d | _=>true) && (match op with | .select ..=>false | .defer ..=>false | _=>true)
theorem evF_off {F:Fr} {d:Tmp} {v:Value} {x:Operand} (h:(match x with | .tmp t=>!Nat.beq t d | _=>true)=true):CU (FQ F d v) x=CU F x:=by
  cases x with
  | tmp t=>exact VQ (nbeq h)
  | _=>rfl
theorem opw_off {op:Op} {d:Tmp} {v:Value} {ty:TypeId} {F:Fr} {w:World} {K:Value→World→Prop} {Z:List PanicEntry→World→Prop} (h:offB op d=true):DL P op ty (FQ F d v) w K Z↔DL P op ty F w K Z:=by
  unfold offB at h
  simp only [Bool.and_eq_true] at h
  unfold DL
  rw [execOp_agree (ρ:=CU (FQ F d v)) (σ:=CU F) ⟨none,op,ty,"",#[],none⟩ (by have:=h.2;cases op <;> first|rfl|(simp at this)) (fun x hx=>evF_off (List.all_eq_true.1 h.1 x hx))]
theorem opw_mono {op:Op} {ty:TypeId} {F:Fr} {w:World} {K K':Value→World→Prop} {Z Z':List PanicEntry→World→Prop} (h:DL P op ty F w K Z) (hk:∀ v w',K v w'→K' v w') (hz:∀ c w',Z c w'→Z' c w'):DL P op ty F w K' Z':=by
  unfold DL at h ⊢
  generalize (execOp (CU F) ⟨none,op,ty,"",#[],none⟩).run P w=r at h ⊢
  cases r with
  | ok x w'=>
    cases x <;> simp only [FS] at h ⊢ <;> try exact h.elim
    case value v=>exact hk _ _ h
    case skip=>exact hk _ _ h
    case enter f args=>
      exact Calls.mono h fun e w'' he=>by
        cases e with
        | returned v=>exact hk _ _ he
        | panicked c=>exact hz _ _ he
        | outgrown=>exact he.elim
  | halt x w'=>
    cases x <;> simp only [FS] at h ⊢ <;> try exact h.elim
    case panic v=>exact hz _ _ h
def RC (op:Op) (d:Tmp):Bool:=
  match op with
  | .move (.tmp s)=>!Nat.beq s d
  | .assign (.tmp s)=>!Nat.beq s d
  | _=>false
theorem KX {op:Op} {d:Tmp} (h:RC op d=true):NO op d=true:=by
  unfold RC at h;unfold NO
  split at h <;> first|exact h|cases h
theorem moveOp_val {op:Op} {d:Tmp} (h:RC op d=true) (F:Fr):∃ v,JM op F=some v:=by
  unfold RC at h;unfold JM
  split at h <;> first|exact ⟨_,rfl⟩|cases h
def exOk2 (ops:List Oper) (a b:Nat):Bool:=
  match ops[a]?,ops[b]? with
  | some oa,some ob=>oa.guard.isNone && ob.guard.isNone && (match oa.dst,ob.dst with
    | some da,some db=>!Nat.beq da db && ((RC oa.op db && offB ob.op da) || (RC ob.op da && offB oa.op db) || (NO oa.op db && NO ob.op da))
    | _,_=>false)
  | _,_=>false
theorem wl_swap2 {ops:List Oper} {a b:Nat} {oa ob:Oper} {rest:List Oper} {F:Fr} {w:World} (hx:exOk2 ops a b=true) (ha:ops[a]? = some oa) (hb:ops[b]? = some ob) (hok:ops.all (OR n ops)=true) (hq:∀ c F d v w,d<n→(Q (.panic c) (FQ F d v) w↔Q (.panic c) F w)) (h:WL false P ops Q (oa :: ob :: rest) F w):WL false P ops Q (ob :: oa :: rest) F w:=by
  have hda:=IY (List.all_eq_true.1 hok _ (List.mem_of_getElem? ha))
  have hdb:=IY (List.all_eq_true.1 hok _ (List.mem_of_getElem? hb))
  unfold exOk2 at hx
  rw [ha,hb] at hx
  obtain ⟨d1,p1,t1,q1,f1,g1⟩:=oa
  obtain ⟨d2,p2,t2,q2,f2,g2⟩:=ob
  simp only [Bool.and_eq_true] at hx
  obtain ⟨⟨h1,h2⟩,h3⟩:=hx
  cases g1 with
  | some _=>simp at h1
  | none=>
  cases g2 with
  | some _=>simp at h2
  | none=>
  cases d1 with
  | none=>simp at h3
  | some da=>
  cases d2 with
  | none=>simp at h3
  | some db=>
    simp only [Bool.and_eq_true,Bool.or_eq_true] at h3
    obtain ⟨h3,h4⟩:=h3
    have n1:=nbeq h3
    have e:∀ (F:Fr) (v x:Value),IG (IG F (some db) x) (some da) v=IG (IG F (some da) v) (some db) x:=fun F v x=>(upd_swap (F:=F) (v:=v) (u:=x) n1).symm
    rcases h4 with (⟨h4,h5⟩|⟨h4,h5⟩)|⟨h4,h5⟩
    · unfold WL at h
      rw [if_pos (by rfl)] at h
      obtain ⟨v,hv,h⟩:=QF (KX h4) (h.resolve_right (fun e=>by cases e.1))
      unfold WL at h
      rw [if_pos (by rfl)] at h
      have h:=(opw_off h5).1 (h.resolve_right (fun e=>by cases e.1))
      unfold WL
      rw [if_pos (by rfl)]
      refine .inl (opw_mono h (fun x w' hk=>?_) (fun c w' hz=>(hq _ _ _ _ _ (blt hda)).1 hz))
      unfold WL
      rw [if_pos (by rfl)]
      exact .inl (LF (v:=v) ((KY (F:=F) (u:=x) (KX h4)).trans hv) (by rw [e];exact hk))
    · unfold WL at h
      rw [if_pos (by rfl)] at h
      have h:=h.resolve_right (fun e=>by cases e.1)
      obtain ⟨x,hxv⟩:=moveOp_val h4 F
      unfold WL
      rw [if_pos (by rfl)]
      refine .inl (LF hxv ?_)
      unfold WL
      rw [if_pos (by rfl)]
      refine .inl ((opw_off h5).2 (opw_mono h (fun v w' hk=>?_) (fun c w' hz=>(hq _ _ _ _ _ (blt hdb)).2 hz)))
      unfold WL at hk
      rw [if_pos (by rfl)] at hk
      obtain ⟨x',hx',hk⟩:=QF (KX h4) (hk.resolve_right (fun e=>by cases e.1))
      have:x'=x:=by
        have:=(KY (F:=F) (u:=v) (KX h4)).symm.trans hx'
        rw [hxv] at this;exact (Option.some.inj this).symm
      subst this
      have:=e F v x'
      show WL false P ops Q rest (IG (IG F (some db) x') (some da) v) w'
      rw [this];exact hk
    · unfold WL at h
      rw [if_pos (by rfl)] at h
      obtain ⟨v,hv,h⟩:=QF h4 (h.resolve_right (fun e=>by cases e.1))
      unfold WL at h
      rw [if_pos (by rfl)] at h
      obtain ⟨x,hx2,h⟩:=QF h5 (h.resolve_right (fun e=>by cases e.1))
      unfold WL
      rw [if_pos (by rfl)]
      refine .inl (LF (v:=x) ((KY (F:=F) (u:=v) h5).symm.trans hx2) ?_)
      unfold WL
      rw [if_pos (by rfl)]
      exact .inl (LF (v:=v) ((KY (F:=F) (u:=x) h4).trans hv) (by rw [e];exact h))
def JE (ops:List Oper):Nat→List Nat→Bool
  | _,[]=>true
  | 0,_=>false
  | _+1,[a]=>(KP ops a).all fun j=>!Nat.beq j a
  | f+1,a :: b :: t=>(KP ops a).all (fun j=>!(a :: b :: t).contains j) && t.all (fun x=>DT ops x a) && JE ops f (b :: t) &&
      (DT ops b a || (exOk2 ops a b && (KP ops b).all (fun j=>!(a :: b :: t).contains j) && JE ops f (a :: t)))
theorem QB {ops:List Oper} (hok:ops.all (OR n ops)=true) (hqp:∀ c F d v w,d<n→(Q (.panic c) (FQ F d v) w↔Q (.panic c) F w)) (hin:∀ k,k<ops.length→∀ j∈KP ops k,j<ops.length):∀ (g:Nat) (seq:List Nat) (fuel:Nat) (listed:Array Bool) (F1:Fr) (w1:World),listed.size=ops.length→OX ops listed≤fuel→
    (∀ j,j<ops.length→(listed[j]? = some true↔j∉seq))→(∀ j∈seq,j<ops.length)→seq.Nodup→JE ops g seq=true→(∀ i,listed[i]? = some true→∀ j∈KP ops i,listed[j]? = some true)→
    WL false P ops Q (DA ops seq) F1 w1→wpAny P .any ops.toArray (KG n Q) fuel listed (mk n F1) w1:=by
  intro g
  induction g with
  | zero=>
    intro seq fuel listed F1 w1 hsz hfu hl hlt hnd hf hdown h
    cases seq with
    | nil=>exact GR hok hin [] fuel listed F1 w1 hsz hfu hl hlt hnd rfl hdown h
    | cons a t=>cases t <;> simp [JE] at hf
  | succ g ihg=>
    intro seq fuel listed F1 w1 hsz hfu hl hlt hnd hf hdown h
    match seq,hl,hlt,hnd,hf,h with
    | [],hl,hlt,hnd,hf,h=>exact GR hok hin [] fuel listed F1 w1 hsz hfu hl hlt hnd rfl hdown h
    | [a],hl,hlt,hnd,hf,h=>
      refine GR hok hin [a] fuel listed F1 w1 hsz hfu hl hlt hnd ?_ hdown h
      unfold JE at hf
      unfold MM MM
      simp only [List.all_nil,Bool.true_and,Bool.and_true]
      refine List.all_eq_true.2 fun j hj=>?_
      have:=nbeq (List.all_eq_true.1 hf j hj)
      simpa using this
    | a :: b :: t,hl,hlt,hnd,hf,h=>
      unfold JE at hf
      simp only [Bool.and_eq_true] at hf
      obtain ⟨⟨⟨f1,f2⟩,f3⟩,f4⟩:=hf
      have ha:a<ops.length:=hlt a (by simp)
      have hb:b<ops.length:=hlt b (by simp)
      obtain ⟨hat,hnd'⟩:=List.nodup_cons.1 hnd
      obtain ⟨hbt,hnd''⟩:=List.nodup_cons.1 hnd'
      have hunl:∀ q,q<ops.length→q∈a :: b :: t→listed[q]? = some false:=fun q hq hm=>by
        have h1:¬ listed[q]? = some true:=fun e=>((hl q hq).1 e) hm
        have:q<listed.size:=by omega
        rw [Array.getElem?_eq_getElem this] at h1 ⊢
        simpa using h1
      have han:=hunl a ha (by simp)
      have hbn:=hunl b hb (by simp)
      have hula:=IA ha hsz han
      have hulb:=IA hb hsz hbn
      obtain ⟨fuel,rfl⟩:∃ f,fuel=f+1:=⟨fuel - 1,by omega⟩
      have haq:∀ j∈KP ops a,listed[j]? = some true:=fun j hj=>by
        have h1:=List.all_eq_true.1 f1 j hj
        exact (hl j (hin a ha j hj)).2 (by simpa using h1)
      have hset:∀ i,i<ops.length→∀ j,(listed.setIfInBounds i true)[j]? = some true↔j=i∨listed[j]? = some true:=fun i hi j=>by
        rw [Array.getElem?_setIfInBounds]
        by_cases hji:i=j
        · subst hji;simp;omega
        · rw [if_neg hji];exact ⟨fun h=>.inr h,fun h=>h.resolve_left (fun e=>hji e.symm)⟩
      refine ⟨fun h0=>?_,fun i hi=>?_⟩
      · have:=ready_of' hsz ha han haq
        rw [h0] at this;cases this
      · obtain ⟨hnl,hil⟩:=KH hi hsz
        have hmem:i∈a :: b :: t:=Classical.byContradiction fun hc=>by have:=(hl i hil).2 hc;rw [hnl] at this;cases this
        have hready:=HX (List.getElem?_eq_getElem hil) hi hsz (hin i hil)
        have hwait:∀ q,DT ops i q=true→listed[q]? = some true:=fun q hq=>by
          unfold DT at hq
          exact GV (D:=fun j=>listed[j]? = some true) hdown _ _ hready q (by simpa using hq)
        rcases List.mem_cons.1 hmem with rfl|hmem
        · rw [KU ha] at h
          refine run_step hok ha h fun F w hK=>ihg (b :: t) fuel _ F w (by simpa using hsz) (by omega) (fun j hj=>?_) (fun j hj=>hlt j (List.mem_cons_of_mem _ hj)) hnd' f3 (fun j hj x hx=>?_) hK
          · rw [hset i ha j,hl j hj]
            constructor
            · rintro (rfl|h1)
              · exact hat
              · exact fun h2=>h1 (List.mem_cons_of_mem _ h2)
            · intro h1
              by_cases hji:j=i
              · exact .inl hji
              · exact .inr fun h2=>by rcases List.mem_cons.1 h2 with h3|h3;exact hji h3;exact h1 h3
          · rw [hset i ha x]
            rcases (hset i ha j).1 hj with h1|h1
            · subst h1;exact .inr (haq x hx)
            · exact .inr (hdown j h1 x hx)
        · rcases List.mem_cons.1 hmem with rfl|hmem
          · -- the second comes first
            simp only [Bool.or_eq_true,Bool.and_eq_true] at f4
            rcases f4 with f4|⟨⟨f4,f5⟩,f6⟩
            · have:=hwait a f4;rw [han] at this;cases this
            · rw [KU ha,KU hb] at h
              have h':=wl_swap2 f4 (List.getElem?_eq_getElem ha) (List.getElem?_eq_getElem hb) hok hqp h
              rw [← KU (t:=t) ha] at h'
              refine run_step hok hb h' fun F w hK=>ihg (a :: t) fuel _ F w (by simpa using hsz) (by omega) (fun j hj=>?_) (fun j hj=>hlt j (by rcases List.mem_cons.1 hj with h1|h1;exact h1 ▸ List.mem_cons_self;exact List.mem_cons_of_mem _ (List.mem_cons_of_mem _ h1))) (List.nodup_cons.2 ⟨fun h2=>hat (List.mem_cons_of_mem _ h2),hnd''⟩) f6 (fun j hj x hx=>?_) hK
              · rw [hset i hb j,hl j hj]
                constructor
                · rintro (rfl|h1)
                  · intro h2
                    rcases List.mem_cons.1 h2 with h3|h3
                    · exact hat (h3 ▸ List.mem_cons_self)
                    · exact hbt h3
                  · intro h2
                    apply h1
                    rcases List.mem_cons.1 h2 with h3|h3
                    · rw [h3];exact List.mem_cons_self
                    · exact List.mem_cons_of_mem _ (List.mem_cons_of_mem _ h3)
                · intro h1
                  by_cases hji:j=i
                  · exact .inl hji
                  · refine .inr fun h2=>?_
                    rcases List.mem_cons.1 h2 with h3|h3
                    · exact h1 (h3 ▸ List.mem_cons_self)
                    · rcases List.mem_cons.1 h3 with h4|h4
                      · exact hji h4
                      · exact h1 (List.mem_cons_of_mem _ h4)
              · rw [hset i hb x]
                rcases (hset i hb j).1 hj with h1|h1
                · subst h1
                  have h5:=List.all_eq_true.1 f5 x hx
                  exact .inr ((hl x (hin j hb x hx)).2 (by simpa using h5))
                · exact .inr (hdown j h1 x hx)
          · have:=hwait a (List.all_eq_true.1 f2 i hmem)
            rw [han] at this;cases this
theorem qp_end {fn:Func} {R:Ending→World→Prop}:∀ (c:List PanicEntry) (F:Fr) (d:Tmp) (v:Value) (w:World),d<n→(SR P fn n R (.panic c) (FQ F d v) w↔SR P fn n R (.panic c) F w):=fun c F d v w hd=>by
  show (SF (FQ F d v n)=[]∧_)↔(SF (F n)=[]∧_);rw [IE F d v (Nat.ne_of_gt hd)]
def subs:List Nat→List (List Nat)
  | []=>[[]]
  | a :: l=>(subs l).map (a :: ·)++subs l
theorem NT (p:Nat→Bool):∀ l:List Nat,l.filter p∈subs l
  | []=>by simp [subs]
  | a :: l=>by
    unfold subs
    rw [List.mem_append,List.filter_cons]
    split
    · exact .inl (List.mem_map.2 ⟨_,NT p l,rfl⟩)
    · exact .inr (NT p l)
def upB (ops:List Oper) (U S:List Nat):Bool:=S.all fun a=>U.all fun b=>!DT ops b a || S.contains b
def lat (lates:List (List Nat)) (c:Nat):List Nat:=(lates[c]?).getD []
def SE (ops:List Oper) (m:Nat) (late:List Nat) (lates:List (List Nat)):Bool:=
  (List.range m).all (fun i=>(List.range m).all fun j=>Nat.beq i j || (match (ops[i]?).bind (·.dst),(ops[j]?).bind (·.dst) with|some a,some b=>!Nat.beq a b | _,_=>true)) &&
  (List.range m).all (fun j=>late.contains j || DT ops m j) && (CP ops m).all (fun k=>DT ops k m) &&
  (List.range ops.length).all (fun k=>(KP ops k).all fun j=>Nat.blt j k) && Nat.blt m ops.length && lates.all (fun S=>S.all (Nat.blt · m)) &&
  (subs late).all (fun S=>S.isEmpty || !upB ops late S || lates.any (fun L=>L.all S.contains && S.all L.contains)) &&
  JE ops (ops.length+1) (m :: CP ops m) && lates.all (fun S=>JE ops (ops.length+1) (S++CP ops m))
theorem draw_runN {ops:List Oper} {m:Nat} {late:List Nat} {lates:List (List Nat)} {om:Oper} (INV:Array Bool→Fr→World→Prop) (hqp:∀ c F d v w,d<n→(Q (.panic c) (FQ F d v) w↔Q (.panic c) F w)) (hd:SE ops m late lates=true) (hndl:∀ S∈lates,S.Nodup) (hok:ops.all (OR n ops)=true) (hom:ops[m]? = some om)
    (hdown:∀ listed F1 w1,INV listed F1 w1→∀ i,listed[i]? = some true→∀ j∈KP ops i,listed[j]? = some true)
    (hstep:∀ (listed:Array Bool) (F1:Fr) (w1:World) (i:Nat) (o:Oper),listed.size=ops.length→INV listed F1 w1→i<m→ops[i]? = some o→listed[i]? = some false→(∀ j∈KP ops i,listed[j]? = some true)→
      (Region.wanted o (DR ops F1)=true→DL P o.op o.type F1 w1 (fun v w2=>INV (listed.setIfInBounds i true) (IG F1 o.dst v) w2) (fun _ _=>False))∧
      (Region.wanted o (DR ops F1)=false→INV (listed.setIfInBounds i true) (IG F1 o.dst undef) w1))
    (fin:∀ listed F1 w1,INV listed F1 w1→(∀ j,j<m→listed[j]? = some true)→(∀ j,m≤j→listed[j]?≠some true)→WL false P ops Q (om :: DA ops (CP ops m)) F1 w1)
    (finL:∀ c,c<lates.length→∀ listed F1 w1,INV listed F1 w1→(∀ j,j<m→(listed[j]? = some true↔j∉lat lates c))→(∀ j,m≤j→listed[j]?≠some true)→WL false P ops Q (om :: (DA ops (lat lates c)++DA ops (CP ops m))) F1 w1) :
    ∀ (fuel:Nat) (listed:Array Bool) (F1:Fr) (w1:World),listed.size=ops.length→OX ops listed≤fuel→(∀ j,m≤j→listed[j]?≠some true)→INV listed F1 w1→wpAny P .any ops.toArray (KG n Q) fuel listed (mk n F1) w1:=by
  unfold SE at hd
  simp only [Bool.and_eq_true] at hd
  obtain ⟨⟨⟨⟨⟨⟨⟨⟨d1,d2⟩,d3⟩,d4⟩,d5⟩,d6⟩,d7⟩,d8⟩,d9⟩:=hd
  have hml:m<ops.length:=blt d5
  have hback:∀ k,k<ops.length→∀ j∈KP ops k,j<k:=fun k hk j hj=>blt (List.all_eq_true.1 (List.all_eq_true.1 d4 k (by simpa using hk)) j hj)
  have hin:∀ k,k<ops.length→∀ j∈KP ops k,j<ops.length:=fun k hk j hj=>Nat.lt_trans (hback k hk j hj) hk
  have hlm:∀ S∈lates,∀ j∈S,j<m:=fun S hS j hj=>blt (List.all_eq_true.1 (List.all_eq_true.1 d6 S hS) j hj)
  have htl:∀ j,j∈CP ops m↔m<j∧j<ops.length:=fun j=>by
    unfold CP
    rw [List.mem_iff_getElem?]
    simp only [List.getElem?_drop]
    constructor
    · rintro ⟨i,hi⟩
      have:=(List.getElem?_eq_some_iff.1 hi)
      obtain ⟨h1,h2⟩:=this
      simp at h1 h2;omega
    · rintro ⟨h1,h2⟩
      exact ⟨j - (m+1),by rw [List.getElem?_eq_getElem (by simp;omega)];simp;omega⟩
  have hndt:(CP ops m).Nodup:=by unfold CP;exact List.Nodup.sublist (List.drop_sublist _ _) List.nodup_range
  intro fuel
  induction fuel with
  | zero=>
    intro listed F1 w1 hsz hfu hno hi
    exfalso
    have h0:OX ops listed=0:=by omega
    unfold OX at h0
    have:=List.countP_eq_zero.1 h0 m (by simpa using hml)
    exact hno m (Nat.le_refl _) (by simpa using this)
  | succ fuel ih=>
    intro listed F1 w1 hsz hfu hno hi
    have hmn:listed[m]? = some false:=by
      have h1:=hno m (Nat.le_refl _)
      have:m<listed.size:=by omega
      rw [Array.getElem?_eq_getElem this] at h1 ⊢
      simpa using h1
    by_cases hall:∀ j,j<m→listed[j]? = some true
    · -- all of the first part have been carried out
      have e:DA ops (m :: CP ops m)=om :: DA ops (CP ops m):=by unfold DA;rw [List.filterMap_cons,hom]
      refine QB hok hqp hin (ops.length+1) (m :: CP ops m) (fuel+1) listed F1 w1 hsz hfu (fun j hj=>⟨fun h=>?_,fun h=>?_⟩) (fun j hj=>?_) (List.nodup_cons.2 ⟨fun h=>by have:=(htl m).1 h;omega,hndt⟩) d8 (hdown _ _ _ hi) (by
        rw [e]
        exact fin listed F1 w1 hi hall hno)
      · intro hm'
        have:m≤j:=by rcases List.mem_cons.1 hm' with h1|h1;omega;have:=(htl j).1 h1;omega
        exact hno j this h
      · exact hall j (by
          rcases Nat.lt_or_ge j m with h1|h1
          · exact h1
          · exfalso;apply h
            rcases Nat.eq_or_lt_of_le h1 with h2|h2
            · subst h2;simp
            · exact List.mem_cons_of_mem _ ((htl j).2 ⟨h2,hj⟩))
      · rcases List.mem_cons.1 hj with h1|h1
        · omega
        · exact ((htl j).1 h1).2
    · have hex:∃ j,j<m∧listed[j]?≠some true:=by
        refine Classical.byContradiction fun hc=>hall fun j hj=>Classical.byContradiction fun hn=>hc ⟨j,hj,hn⟩
      have hmin:∀ q j,q=j→j<m→listed[j]?≠some true→∃ k,k<m∧listed[k]?≠some true∧∀ i,i<k→listed[i]? = some true:=by
        intro q
        induction q using Nat.strongRecOn with
        | _ q ihq=>
          intro j hqj hj hn
          by_cases hb:∀ i,i<j→listed[i]? = some true
          · exact ⟨j,hj,hn,hb⟩
          · have:∃ i,i<j∧listed[i]?≠some true:=Classical.byContradiction fun hc=>hb fun i hi=>Classical.byContradiction fun hn=>hc ⟨i,hi,hn⟩
            obtain ⟨i,hij,hni⟩:=this
            exact ihq i (by omega) i rfl (by omega) hni
      obtain ⟨j0,hj0,hn0⟩:=hex
      obtain ⟨k,hkm,hkn,hkb⟩:=hmin j0 j0 rfl hj0 hn0
      have hkf:listed[k]? = some false:=by
        have:k<listed.size:=by omega
        rw [Array.getElem?_eq_getElem this] at hkn ⊢
        simpa using hkn
      refine ⟨fun h0=>?_,fun i hir=>?_⟩
      · have:=ready_of' hsz (by omega) hkf (fun j hj=>hkb j (hback k (by omega) j hj))
        rw [h0] at this;cases this
      · obtain ⟨hnl,hil⟩:=KH hir hsz
        have ho:ops[i]? = some ops[i]:=List.getElem?_eq_getElem hil
        have haft:=HX ho hir hsz (hin i hil)
        have hclose:∀ j,DT ops i j=true→listed[j]? = some true:=fun j hj=>by
          unfold DT at hj
          exact GV (D:=fun j=>listed[j]? = some true) (hdown _ _ _ hi) _ _ haft j (by simpa using hj)
        rcases Nat.lt_or_ge i m with him|hge
        · have hsp:=hstep listed F1 w1 i ops[i] hsz hi him ho hnl haft
          have hno':∀ j,m≤j→(listed.setIfInBounds i true)[j]?≠some true:=fun j hj=>by
            rw [Array.getElem?_setIfInBounds,if_neg (by omega)];exact hno j hj
          refine LJ (K:=fun F2 w2=>INV (listed.setIfInBounds i true) F2 w2) hok ho (fun F2 w2 hK=>ih _ F2 w2 (by simpa using hsz) (by have:=IA hil hsz hnl;omega) hno' hK) (fun hw=>?_) (fun hw=>hsp.2 hw)
          have h1:=hsp.1 hw
          unfold DL at h1 ⊢
          generalize (execOp (CU F1) ⟨none,ops[i].op,ops[i].type,"",#[],none⟩).run P w1=r at h1 ⊢
          cases r with
          | ok x w'=>
            cases x <;> simp only [FS] at h1 ⊢ <;> try exact h1.elim
            case value v=>exact h1
            case skip=>exact h1
            case enter f args=>
              exact Calls.mono h1 fun e w'' he=>by
                cases e with
                | returned v=>exact he
                | panicked c=>exact he.elim
                | outgrown=>exact he.elim
          | halt x w'=>cases x <;> simp only [FS] at h1 ⊢ <;> exact h1.elim
        · -- operation m comes ahead of some late ones
          have him:i=m:=by
            rcases Nat.eq_or_lt_of_le hge with h1|h1
            · exact h1.symm
            · have h2:=hclose m (List.all_eq_true.1 d3 i ((htl i).2 ⟨h1,hil⟩))
              rw [hmn] at h2;cases h2
          subst him
          have hnl':∀ j,j<i→j∉late→listed[j]? = some true:=fun j hj hjl=>by
            have h1:=List.all_eq_true.1 d2 j (by simpa using hj)
            simp only [Bool.or_eq_true,List.contains_iff_mem] at h1
            exact hclose j (h1.resolve_left hjl)
          have hcw:∀ b a,listed[b]? = some true→DT ops b a=true→listed[a]? = some true:=fun b a hb hba=>by
            unfold DT at hba
            exact GV (D:=fun j=>listed[j]? = some true) (hdown _ _ _ hi) _ _ ((hdown _ _ _ hi) b hb) a (by simpa using hba)
          have hS:=List.all_eq_true.1 d7 _ (NT (fun j=>listed[j]? != some true) late)
          have hmS:∀ j,j∈late.filter (fun j=>listed[j]? != some true)↔j∈late∧listed[j]?≠some true:=fun j=>by simp [List.mem_filter]
          generalize late.filter (fun j=>listed[j]? != some true)=S at hS hmS
          simp only [Bool.or_eq_true] at hS
          have hne:¬ S.isEmpty=true:=fun h=>by
            have h1:j0∈late:=Classical.byContradiction fun hc=>hn0 (hnl' j0 hj0 hc)
            have:=(hmS j0).2 ⟨h1,hn0⟩
            rw [List.isEmpty_iff.1 h] at this;simp at this
          have hup:upB ops late S=true:=by
            unfold upB
            refine List.all_eq_true.2 fun a ha=>List.all_eq_true.2 fun b hb=>?_
            simp only [Bool.or_eq_true,List.contains_iff_mem]
            cases hw:DT ops b a with
            | false=>exact .inl rfl
            | true=>exact .inr ((hmS b).2 ⟨hb,fun h=>((hmS a).1 ha).2 (hcw b a h hw)⟩)
          rw [hup] at hS
          have hS:=(hS.resolve_left (fun h=>h.elim hne (fun h=>by cases h)))
          obtain ⟨L,hL,hLS⟩:=List.any_eq_true.1 hS
          simp only [Bool.and_eq_true] at hLS
          obtain ⟨c,hc⟩:=List.mem_iff_getElem?.1 hL
          have hcl:c<lates.length:=(List.getElem?_eq_some_iff.1 hc).1
          have hlat:lat lates c=L:=by unfold lat;rw [hc];rfl
          have hmL:∀ j,j∈L↔j∈late∧listed[j]?≠some true:=fun j=>by
            rw [← hmS j]
            exact ⟨fun h=>by simpa using List.all_eq_true.1 hLS.1 j h,fun h=>by simpa using List.all_eq_true.1 hLS.2 j h⟩
          have hdropn:∀ j∈lat lates c,¬ listed[j]? = some true:=fun j hj=>by rw [hlat] at hj;exact ((hmL j).1 hj).2
          have hdropm:∀ j,j<i→(listed[j]? = some true↔j∉lat lates c):=fun j hj=>by
            constructor
            · intro h1 h2;exact hdropn j h2 h1
            · intro h1
              by_cases hjl:j∈late
              · exact Classical.byContradiction fun h2=>h1 (by rw [hlat];exact (hmL j).2 ⟨hjl,h2⟩)
              · exact hnl' j hj hjl
          have hK:=finL c hcl listed F1 w1 hi hdropm hno
          have hom':om=ops[i]:=by rw [ho] at hom;exact (Option.some.inj hom).symm
          have hso:DA ops (lat lates c)++DA ops (CP ops i)=DA ops (lat lates c++CP ops i):=by unfold DA;rw [List.filterMap_append]
          rw [hso,hom'] at hK
          have hset:∀ j,(listed.setIfInBounds i true)[j]? = some true↔j=i∨listed[j]? = some true:=fun j=>by
            rw [Array.getElem?_setIfInBounds]
            by_cases hji:i=j
            · subst hji;simp;omega
            · rw [if_neg hji];exact ⟨fun h=>.inr h,fun h=>h.resolve_left (fun e=>hji e.symm)⟩
          refine LJ (K:=fun F w=>WL false P ops Q (DA ops (lat lates c++CP ops i)) F w) hok ho (fun F2 w2 hK2=>QB hok hqp hin (ops.length+1) (lat lates c++CP ops i) fuel _ F2 w2 (by simpa using hsz) (by have:=IA hil hsz hnl;omega) (fun j hj=>?_) (fun j hj=>?_) ?_ (by rw [hlat];exact List.all_eq_true.1 d9 L hL) (fun j hj q hq=>?_) hK2) (fun hw=>?_) (fun hw=>?_)
          · rw [hset j,List.mem_append,htl j]
            constructor
            · rintro (rfl|h1)
              · rintro (h2|h2)
                · have:=hlm L hL j (hlat ▸ h2);omega
                · omega
              · rintro (h2|h2)
                · exact hdropn j h2 h1
                · exact hno j (by omega) h1
            · intro h1
              rcases Nat.lt_trichotomy j i with h2|h2|h2
              · exact .inr ((hdropm j h2).2 (fun h3=>h1 (.inl h3)))
              · exact .inl h2
              · exact absurd (.inr ⟨h2,hj⟩) h1
          · rcases List.mem_append.1 hj with h1|h1
            · have:=hlm L hL j (hlat ▸ h1);omega
            · exact ((htl j).1 h1).2
          · refine List.nodup_append.2 ⟨hlat ▸ hndl L hL,hndt,fun a ha b hb e=>?_⟩
            have h1:=hlm L hL a (hlat ▸ ha)
            have h2:=(htl b).1 hb
            omega
          · rw [hset q]
            rcases (hset j).1 hj with rfl|h1
            · exact .inr (haft q hq)
            · exact .inr ((hdown _ _ _ hi) j h1 q hq)
          · unfold WL at hK;rw [if_pos hw] at hK;exact hK.resolve_right (fun e=>by cases e.1)
          · unfold WL at hK;rw [if_neg (by rw [hw];simp)] at hK;exact hK
theorem cw_drawUN {id:Nat} {ops:List Oper} {F:Fr} {w:World} (m:Nat) (late:List Nat) (lates:List (List Nat)) (hqp:∀ c F d v w,d<n→(Q (.panic c) (FQ F d v) w↔Q (.panic c) F w)) (pre:List Oper) (om:Oper) (tl:List Oper) (Ts:List VN) (G:List Gr) (B:List Nat) (hm:P.follows .mixedOrders=true) (hok:ops.all (OR n ops)=true) (hd:SE ops m late lates=true) (hlen:(Nat.beq Ts.length m && Nat.beq G.length m && Nat.ble m ops.length)=true) (hgr:UJ ops m G=true) (hnd:∀ S∈lates,S.Nodup)
    (hpre:ops.take m=pre) (hom:ops[m]? = some om) (htl:DA ops (CP ops m)=tl) (hst:UH Ts G) (hs:PD P ops m Ts G F w.drew B 0 pre Ts)
    (fin:FinU ops m Ts G F w B [] (WL false P ops Q (om :: tl))) (finL:∀ c,c<lates.length→FinU ops m Ts G F w B (lat lates c) (WL false P ops Q (om :: (DA ops (lat lates c)++tl)))):CW P (ro:=none) n (.region id ops.toArray true) Q F w:=by
  subst hpre;subst htl
  simp only [Bool.and_eq_true] at hlen
  have hTl:Ts.length=m:=Nat.eq_of_beq_eq_true hlen.1.1
  have hGl:G.length=Ts.length:=by rw [hTl];exact Nat.eq_of_beq_eq_true hlen.1.2
  have hle:m≤ops.length:=Nat.le_of_ble_eq_true hlen.2
  have hdr:({ w with drawn:=w.drawn+1 }:World)=w.drew:=rfl
  have hd':=hd
  unfold SE at hd'
  simp only [Bool.and_eq_true] at hd'
  obtain ⟨⟨⟨⟨⟨⟨⟨⟨d1,d2⟩,d3⟩,d4⟩,d5⟩,d6⟩,d7⟩,d8⟩,d9⟩:=hd'
  have hdist:∀ (i j:Nat) (oi oj:Oper),i<m→j<m→i≠j→ops[i]? = some oi→ops[j]? = some oj→oi.dst≠none→oi.dst≠oj.dst:=by
    intro i j oi oj hi hj hij hoi hoj hne
    have:=List.all_eq_true.1 (List.all_eq_true.1 d1 i (by simpa using hi)) j (by simpa using hj)
    simp only [Bool.or_eq_true] at this
    rcases this with h5|h5
    · exact absurd (Nat.eq_of_beq_eq_true h5) hij
    · rw [hoi,hoj] at h5
      intro e
      cases hd:oi.dst with
      | none=>exact hne hd
      | some d=>
        rw [hd] at e
        simp only [Option.bind_some,hd,← e] at h5
        simp at h5
  refine wpIn_wide.2 (wp_region_any hm ?_)
  rw [hdr,List.size_toArray]
  refine draw_runN (late:=late) (lates:=lates) (UInv ops m Ts G F w.drew B) hqp hd hnd hok hom (fun listed F1 w1 h=>h.down) (fun listed F1 w1 i o hsz h him ho hnl haft=>stepU hdist hTl hGl hle hgr hst hs hsz h him ho hnl haft)
    (fun listed F1 w1 hi hall hno=>hi.fin (fun i him _=>hall i him) hno fin) (fun c hc listed F1 w1 hi hall hno=>hi.fin (fun i him hex=>(hall i him).2 (by simpa using hex)) hno (finL c hc)) ops.length _ F w.drew (by simp) ?_ (fun j _=>?_) UInv.start
  · unfold OX;exact Nat.le_trans (List.countP_le_length) (by simp)
  · simp [Array.getElem?_replicate]
end
variable {P:Program} {ro:Option Nat} {n:Nat} {Q:Exit→Fr→World→Prop} {F:Fr} {w:World}
theorem UO {x y:Code} (I:Fr→World→Prop) (h1:CW P (ro:=ro) n x (QA I Q) F w) (h2:∀ F w,I F w→CW P (ro:=ro) n y Q F w):CW P (ro:=ro) n (.seq x y) Q F w:=
  AG (wpIn_mono h1 fun e _ _ ⟨F,ha,hQ⟩=>⟨F,ha,by cases e <;> first|exact h2 _ _ hQ|exact hQ⟩)
open Go.RowKit
section
variable {P:Program} {ro:Option Nat} {n:Nat} {Q:Exit→Fr→World→Prop} {F:Fr} {w:World}
end
section
variable {P:Program}
theorem wl_yT {ops rest:List Oper} {Q:Exit→Fr→World→Prop} {F:Fr} {w:World} {d:Tmp} {ty:TypeId} {pos:String} {af:Array Edge} {xf:Operand} {xs:List Operand} {ats:Array TypeId} {j:Nat} {b:Bool} (hg:DR ops F j=some b) (l:Nat) (vs:List Value)
    (hf:CU F xf = .func (.yield l) #[] #[]) (hv:xs.map (CU F)=vs) (hy:KT P l vs w (fun v w'=>WL true P ops Q rest (FQ F d v) w')) :
    WL true P ops Q (⟨some d, .call { callee:=.value xf,args:=xs.toArray,argTypes:=ats },ty,pos,af,some (j,b)⟩ :: rest) F w:=by
  unfold WL
  rw [if_pos (by simp [Region.wanted,hg])]
  refine .inr ⟨rfl,?_⟩
  unfold RoundW
  obtain ⟨fn,tmps,assign,body,h1,h2⟩:=hy
  have:(execOp (CU F) ⟨none, .call { callee:=.value xf,args:=xs.toArray,argTypes:=ats },ty,"",#[],none⟩).run P w = .ok (.round l fn tmps assign body) w:=by
    simp [execOp,resolve,Deferred.ofValue,invoke,hf,hv,h1]
  rw [this]
  exact h2.mono fun e w' ⟨v,he,hk⟩=>by subst he;exact hk
end
section
variable {P:Program} {t yt ty:TypeId} {x y:Operand} {F:Fr} {w:World} {K:Value→World→Prop} {Z:List PanicEntry→World→Prop}
end
def Enc.cells (n:Nat):Enc (List Value) where
  size:=n
  rd:=fun _ _ cs x=>cs=x∧x.length=n∧∀ u∈x,u.oneCell'=true
  len:=fun h=>h.1 ▸ h.2.1
  one:=fun h u hu=>h.2.2 u (h.1 ▸ hu)
  mv:=fun h _=>h
  sub:=fun h _=>h
end Go.Fw
namespace Go.Proofs.Ytjgfokolnkhafaa
open Go.Fw Go.RowKit
theorem MW:DS Try.prog 3=some 1:=by kernel_rfl
theorem z_3:GO Try.prog 3=some (.int .i64 0):=by kernel_rfl
theorem i_3:(Try.prog.info? 3).map (fun i=>(i.zero,i.size,i.bytes))=some (some (.int .i64 0),1,8):=by kernel_rfl
theorem z_4:GO Try.prog 4=some (.bool false):=by kernel_rfl
theorem IJ:DS Try.prog 5=some 1:=by kernel_rfl
theorem z_5:GO Try.prog 5=some (.int .u8 0):=by kernel_rfl
theorem i_5:(Try.prog.info? 5).map (fun i=>(i.zero,i.size,i.bytes))=some (some (.int .u8 0),1,1):=by kernel_rfl
theorem s_22:DS Try.prog 22=some 1:=by kernel_rfl
theorem s_23:DS Try.prog 23=some 1:=by kernel_rfl
theorem z_23:GO Try.prog 23=some (.slice none 0 0):=by kernel_rfl
theorem i_23:(Try.prog.info? 23).map (fun i=>(i.zero,i.size,i.bytes))=some (some (.slice none 0 0),1,24):=by kernel_rfl
theorem s_26:DS Try.prog 26=some 1:=by kernel_rfl
theorem BL:DS Try.prog 28=some 5:=by kernel_rfl
theorem II:GO Try.prog 28=some (.agg #[.int .i64 0, .int .i64 0, .int .i64 0, .slice none 0 0, .slice none 0 0]):=by kernel_rfl
theorem RS:ML Try.prog 28=some [(0,1),(1,1),(2,1),(3,1),(4,1)]:=by kernel_rfl
theorem JG:DU Try.prog 28 0=some 0:=by kernel_rfl
theorem NI:DU Try.prog 28 1=some 1:=by kernel_rfl
theorem f_28_2:DU Try.prog 28 2=some 2:=by kernel_rfl
theorem JW:DU Try.prog 28 3=some 3:=by kernel_rfl
theorem DK:DU Try.prog 28 4=some 4:=by kernel_rfl
theorem QX:DS Try.prog 29=some 1:=by kernel_rfl
theorem z_29:GO Try.prog 29=some (.int .i64 0):=by kernel_rfl
theorem s_32:DS Try.prog 32=some 1:=by kernel_rfl
theorem z_32:GO Try.prog 32=some (.slice none 0 0):=by kernel_rfl
theorem GA:DS Try.prog 68=some 5:=by kernel_rfl
theorem NS:GO Try.prog 68=some (.agg #[.int .i64 0, .int .i64 0, .int .i64 0, .slice none 0 0, .slice none 0 0]):=by kernel_rfl
theorem UX:(Try.prog.info? 68).map (fun i=>(i.zero,i.size,i.bytes))=some (some (.agg #[.int .i64 0, .int .i64 0, .int .i64 0, .slice none 0 0, .slice none 0 0]),5,72):=by kernel_rfl
theorem pl_68:ML Try.prog 68=some [(0,1),(1,1),(2,1),(3,1),(4,1)]:=by kernel_rfl
theorem f_68_0:DU Try.prog 68 0=some 0:=by kernel_rfl
theorem NC:DU Try.prog 68 1=some 1:=by kernel_rfl
theorem KD:DU Try.prog 68 2=some 2:=by kernel_rfl
theorem PB:DU Try.prog 68 3=some 3:=by kernel_rfl
theorem ST:DU Try.prog 68 4=some 4:=by kernel_rfl
theorem DM:DS Try.prog 70=some 5:=by kernel_rfl
theorem MT:GO Try.prog 70=some (.agg #[.int .i64 0, .int .i64 0, .int .i64 0, .int .i64 0, .slice none 0 0]):=by kernel_rfl
theorem i_70:(Try.prog.info? 70).map (fun i=>(i.zero,i.size,i.bytes))=some (some (.agg #[.int .i64 0, .int .i64 0, .int .i64 0, .int .i64 0, .slice none 0 0]),5,56):=by kernel_rfl
theorem pl_70:ML Try.prog 70=some [(0,1),(1,1),(2,1),(3,1),(4,1)]:=by kernel_rfl
theorem IP:DU Try.prog 70 0=some 0:=by kernel_rfl
theorem QW:DU Try.prog 70 1=some 1:=by kernel_rfl
theorem KL:DU Try.prog 70 2=some 2:=by kernel_rfl
theorem KK:DU Try.prog 70 3=some 3:=by kernel_rfl
theorem GM:DU Try.prog 70 4=some 4:=by kernel_rfl
theorem s_83:DS Try.prog 83=some 1:=by kernel_rfl
theorem z_83:GO Try.prog 83=some (.slice none 0 0):=by kernel_rfl
theorem z_113:GO Try.prog 113=some (.agg #[.int .i64 0, .int .i64 0, .int .i64 0, .slice none 0 0, .slice none 0 0]):=by kernel_rfl
theorem pl_113:ML Try.prog 113=some [(0,5)]:=by kernel_rfl
theorem GX:DU Try.prog 113 0=some 0:=by kernel_rfl
theorem s_125:DS Try.prog 125=some 1:=by kernel_rfl
theorem PV:GO Try.prog 125=some (.agg #[.int .i64 0]):=by kernel_rfl
theorem NK:ML Try.prog 125=some [(0,1)]:=by kernel_rfl
theorem f_125_0:DU Try.prog 125 0=some 0:=by kernel_rfl
theorem s_132:DS Try.prog 132=some 1:=by kernel_rfl
theorem z_132:GO Try.prog 132=some (.map none):=by kernel_rfl
theorem s_134:DS Try.prog 134=some 8:=by kernel_rfl
theorem z_134:GO Try.prog 134=some (.agg #[.int .u8 0, .int .u8 0, .int .u8 0, .int .u8 0, .int .u8 0, .int .u8 0, .int .u8 0, .int .u8 0]):=by kernel_rfl
theorem enter_10 (xs:Array Value) (w:World):(callFunc 10 xs).run Try.prog w = .ok (.enter 10 xs) w:=AW Try.func10 (by kernel_rfl) rfl xs w
theorem NA (xs:Array Value) (w:World):(callFunc 11 xs).run Try.prog w = .ok (.enter 11 xs) w:=AW Try.func11 (by kernel_rfl) rfl xs w
theorem NM (xs:Array Value) (w:World):(callFunc 14 xs).run Try.prog w = .ok (.enter 14 xs) w:=AW Try.func14 (by kernel_rfl) rfl xs w
theorem enter_15 (xs:Array Value) (w:World):(callFunc 15 xs).run Try.prog w = .ok (.enter 15 xs) w:=AW Try.func15 (by kernel_rfl) rfl xs w
theorem TY (xs:Array Value) (w:World):(callFunc 16 xs).run Try.prog w = .ok (.enter 16 xs) w:=AW Try.func16 (by kernel_rfl) rfl xs w
theorem enter_18 (xs:Array Value) (w:World):(callFunc 18 xs).run Try.prog w = .ok (.enter 18 xs) w:=AW Try.func18 (by kernel_rfl) rfl xs w
theorem enter_19 (xs:Array Value) (w:World):(callFunc 19 xs).run Try.prog w = .ok (.enter 19 xs) w:=AW Try.func19 (by kernel_rfl) rfl xs w
theorem enter_20 (xs:Array Value) (w:World):(callFunc 20 xs).run Try.prog w = .ok (.enter 20 xs) w:=AW Try.func20 (by kernel_rfl) rfl xs w
theorem enter_21 (xs:Array Value) (w:World):(callFunc 21 xs).run Try.prog w = .ok (.enter 21 xs) w:=AW Try.func21 (by kernel_rfl) rfl xs w
theorem enter_23 (xs:Array Value) (w:World):(callFunc 23 xs).run Try.prog w = .ok (.enter 23 xs) w:=AW Try.func23 (by kernel_rfl) rfl xs w
theorem PS (xs:Array Value) (w:World):(callFunc 24 xs).run Try.prog w = .ok (.enter 24 xs) w:=AW Try.func24 (by kernel_rfl) rfl xs w
theorem QR (xs:Array Value) (w:World):(callFunc 25 xs).run Try.prog w = .ok (.enter 25 xs) w:=AW Try.func25 (by kernel_rfl) rfl xs w
theorem enter_27 (xs:Array Value) (w:World):(callFunc 27 xs).run Try.prog w = .ok (.enter 27 xs) w:=AW Try.func27 (by kernel_rfl) rfl xs w
theorem UL (xs:Array Value) (w:World):(callFunc 28 xs).run Try.prog w = .ok (.enter 28 xs) w:=AW Try.func28 (by kernel_rfl) rfl xs w
theorem enter_29 (xs:Array Value) (w:World):(callFunc 29 xs).run Try.prog w = .ok (.enter 29 xs) w:=AW Try.func29 (by kernel_rfl) rfl xs w
theorem TH (xs:Array Value) (w:World):(callFunc 30 xs).run Try.prog w = .ok (.enter 30 xs) w:=AW Try.func30 (by kernel_rfl) rfl xs w
theorem LU (xs:Array Value) (w:World):(callFunc 31 xs).run Try.prog w = .ok (.enter 31 xs) w:=AW Try.func31 (by kernel_rfl) rfl xs w
theorem SS (xs:Array Value) (w:World):(callFunc 32 xs).run Try.prog w = .ok (.enter 32 xs) w:=AW Try.func32 (by kernel_rfl) rfl xs w
theorem PX (xs:Array Value) (w:World):(callFunc 33 xs).run Try.prog w = .ok (.enter 33 xs) w:=AW Try.func33 (by kernel_rfl) rfl xs w
theorem SU (xs:Array Value) (w:World):(callFunc 34 xs).run Try.prog w = .ok (.enter 34 xs) w:=AW Try.func34 (by kernel_rfl) rfl xs w
theorem PZ (xs:Array Value) (w:World):(callFunc 35 xs).run Try.prog w = .ok (.enter 35 xs) w:=AW Try.func35 (by kernel_rfl) rfl xs w
theorem TX (xs:Array Value) (w:World):(callFunc 38 xs).run Try.prog w = .ok (.enter 38 xs) w:=AW Try.func38 (by kernel_rfl) rfl xs w
theorem TO (xs:Array Value) (w:World):(callFunc 39 xs).run Try.prog w = .ok (.enter 39 xs) w:=AW Try.func39 (by kernel_rfl) rfl xs w
theorem LT (xs:Array Value) (w:World):(callFunc 40 xs).run Try.prog w = .ok (.enter 40 xs) w:=AW Try.func40 (by kernel_rfl) rfl xs w
theorem enter_41 (xs:Array Value) (w:World):(callFunc 41 xs).run Try.prog w = .ok (.enter 41 xs) w:=AW Try.func41 (by kernel_rfl) rfl xs w
theorem enter_42 (xs:Array Value) (w:World):(callFunc 42 xs).run Try.prog w = .ok (.enter 42 xs) w:=AW Try.func42 (by kernel_rfl) rfl xs w
theorem enter_43 (xs:Array Value) (w:World):(callFunc 43 xs).run Try.prog w = .ok (.enter 43 xs) w:=AW Try.func43 (by kernel_rfl) rfl xs w
theorem enter_44 (xs:Array Value) (w:World):(callFunc 44 xs).run Try.prog w = .ok (.enter 44 xs) w:=AW Try.func44 (by kernel_rfl) rfl xs w
theorem enter_45 (xs:Array Value) (w:World):(callFunc 45 xs).run Try.prog w = .ok (.enter 45 xs) w:=AW Try.func45 (by kernel_rfl) rfl xs w
theorem enter_46 (xs:Array Value) (w:World):(callFunc 46 xs).run Try.prog w = .ok (.enter 46 xs) w:=AW Try.func46 (by kernel_rfl) rfl xs w
theorem TP (xs:Array Value) (w:World):(callFunc 47 xs).run Try.prog w = .ok (.enter 47 xs) w:=AW Try.func47 (by kernel_rfl) rfl xs w
theorem enter_48 (xs:Array Value) (w:World):(callFunc 48 xs).run Try.prog w = .ok (.enter 48 xs) w:=AW Try.func48 (by kernel_rfl) rfl xs w
theorem NU (xs:Array Value) (w:World):(callFunc 49 xs).run Try.prog w = .ok (.enter 49 xs) w:=AW Try.func49 (by kernel_rfl) rfl xs w
theorem enter_50 (xs:Array Value) (w:World):(callFunc 50 xs).run Try.prog w = .ok (.enter 50 xs) w:=AW Try.func50 (by kernel_rfl) rfl xs w
theorem UC (xs:Array Value) (w:World):(callFunc 51 xs).run Try.prog w = .ok (.enter 51 xs) w:=AW Try.func51 (by kernel_rfl) rfl xs w
theorem enter_53 (xs:Array Value) (w:World):(callFunc 53 xs).run Try.prog w = .ok (.enter 53 xs) w:=AW Try.func53 (by kernel_rfl) rfl xs w
theorem enter_54 (xs:Array Value) (w:World):(callFunc 54 xs).run Try.prog w = .ok (.enter 54 xs) w:=AW Try.func54 (by kernel_rfl) rfl xs w
theorem enter_55 (xs:Array Value) (w:World):(callFunc 55 xs).run Try.prog w = .ok (.enter 55 xs) w:=AW Try.func55 (by kernel_rfl) rfl xs w
theorem enter_56 (xs:Array Value) (w:World):(callFunc 56 xs).run Try.prog w = .ok (.enter 56 xs) w:=AW Try.func56 (by kernel_rfl) rfl xs w
theorem enter_61 (xs:Array Value) (w:World):(callFunc 61 xs).run Try.prog w = .ok (.enter 61 xs) w:=AW Try.func61 (by kernel_rfl) rfl xs w
theorem enter_62 (xs:Array Value) (w:World):(callFunc 62 xs).run Try.prog w = .ok (.enter 62 xs) w:=AW Try.func62 (by kernel_rfl) rfl xs w
theorem enter_63 (xs:Array Value) (w:World):(callFunc 63 xs).run Try.prog w = .ok (.enter 63 xs) w:=AW Try.func63 (by kernel_rfl) rfl xs w
theorem enter_64 (xs:Array Value) (w:World):(callFunc 64 xs).run Try.prog w = .ok (.enter 64 xs) w:=AW Try.func64 (by kernel_rfl) rfl xs w
theorem LS (xs:Array Value) (w:World):(callFunc 65 xs).run Try.prog w = .ok (.enter 65 xs) w:=AW Try.func65 (by kernel_rfl) rfl xs w
theorem enter_66 (xs:Array Value) (w:World):(callFunc 66 xs).run Try.prog w = .ok (.enter 66 xs) w:=AW Try.func66 (by kernel_rfl) rfl xs w
theorem LX (xs:Array Value) (w:World):(callFunc 67 xs).run Try.prog w = .ok (.enter 67 xs) w:=AW Try.func67 (by kernel_rfl) rfl xs w
theorem enter_68 (xs:Array Value) (w:World):(callFunc 68 xs).run Try.prog w = .ok (.enter 68 xs) w:=AW Try.func68 (by kernel_rfl) rfl xs w
theorem enter_69 (xs:Array Value) (w:World):(callFunc 69 xs).run Try.prog w = .ok (.enter 69 xs) w:=AW Try.func69 (by kernel_rfl) rfl xs w
theorem enter_70 (xs:Array Value) (w:World):(callFunc 70 xs).run Try.prog w = .ok (.enter 70 xs) w:=AW Try.func70 (by kernel_rfl) rfl xs w
theorem enter_71 (xs:Array Value) (w:World):(callFunc 71 xs).run Try.prog w = .ok (.enter 71 xs) w:=AW Try.func71 (by kernel_rfl) rfl xs w
theorem JB (xs:Array Value) (w:World):(callFunc 72 xs).run Try.prog w = .ok (.enter 72 xs) w:=AW Try.func72 (by kernel_rfl) rfl xs w
theorem enter_73 (xs:Array Value) (w:World):(callFunc 73 xs).run Try.prog w = .ok (.enter 73 xs) w:=AW Try.func73 (by kernel_rfl) rfl xs w
theorem enter_74 (xs:Array Value) (w:World):(callFunc 74 xs).run Try.prog w = .ok (.enter 74 xs) w:=AW Try.func74 (by kernel_rfl) rfl xs w
theorem enter_75 (xs:Array Value) (w:World):(callFunc 75 xs).run Try.prog w = .ok (.enter 75 xs) w:=AW Try.func75 (by kernel_rfl) rfl xs w
theorem enter_76 (xs:Array Value) (w:World):(callFunc 76 xs).run Try.prog w = .ok (.enter 76 xs) w:=AW Try.func76 (by kernel_rfl) rfl xs w
theorem enter_81 (xs:Array Value) (w:World):(callFunc 81 xs).run Try.prog w = .ok (.enter 81 xs) w:=AW Try.func81 (by kernel_rfl) rfl xs w
theorem enter_82 (xs:Array Value) (w:World):(callFunc 82 xs).run Try.prog w = .ok (.enter 82 xs) w:=AW Try.func82 (by kernel_rfl) rfl xs w
theorem enter_83 (xs:Array Value) (w:World):(callFunc 83 xs).run Try.prog w = .ok (.enter 83 xs) w:=AW Try.func83 (by kernel_rfl) rfl xs w
theorem enter_84 (xs:Array Value) (w:World):(callFunc 84 xs).run Try.prog w = .ok (.enter 84 xs) w:=AW Try.func84 (by kernel_rfl) rfl xs w
theorem enter_85 (xs:Array Value) (w:World):(callFunc 85 xs).run Try.prog w = .ok (.enter 85 xs) w:=AW Try.func85 (by kernel_rfl) rfl xs w
theorem enter_86 (xs:Array Value) (w:World):(callFunc 86 xs).run Try.prog w = .ok (.enter 86 xs) w:=AW Try.func86 (by kernel_rfl) rfl xs w
theorem enter_87 (xs:Array Value) (w:World):(callFunc 87 xs).run Try.prog w = .ok (.enter 87 xs) w:=AW Try.func87 (by kernel_rfl) rfl xs w
theorem enter_88 (xs:Array Value) (w:World):(callFunc 88 xs).run Try.prog w = .ok (.enter 88 xs) w:=AW Try.func88 (by kernel_rfl) rfl xs w
theorem enter_89 (xs:Array Value) (w:World):(callFunc 89 xs).run Try.prog w = .ok (.enter 89 xs) w:=AW Try.func89 (by kernel_rfl) rfl xs w
theorem enter_90 (xs:Array Value) (w:World):(callFunc 90 xs).run Try.prog w = .ok (.enter 90 xs) w:=AW Try.func90 (by kernel_rfl) rfl xs w
theorem enter_91 (xs:Array Value) (w:World):(callFunc 91 xs).run Try.prog w = .ok (.enter 91 xs) w:=AW Try.func91 (by kernel_rfl) rfl xs w
theorem enter_92 (xs:Array Value) (w:World):(callFunc 92 xs).run Try.prog w = .ok (.enter 92 xs) w:=AW Try.func92 (by kernel_rfl) rfl xs w
theorem LR (xs:Array Value) (w:World):(callFunc 93 xs).run Try.prog w = .ok (.enter 93 xs) w:=AW Try.func93 (by kernel_rfl) rfl xs w
theorem enter_94 (xs:Array Value) (w:World):(callFunc 94 xs).run Try.prog w = .ok (.enter 94 xs) w:=AW Try.func94 (by kernel_rfl) rfl xs w
theorem enter_95 (xs:Array Value) (w:World):(callFunc 95 xs).run Try.prog w = .ok (.enter 95 xs) w:=AW Try.func95 (by kernel_rfl) rfl xs w
theorem enter_96 (xs:Array Value) (w:World):(callFunc 96 xs).run Try.prog w = .ok (.enter 96 xs) w:=AW Try.func96 (by kernel_rfl) rfl xs w
theorem enter_97 (xs:Array Value) (w:World):(callFunc 97 xs).run Try.prog w = .ok (.enter 97 xs) w:=AW Try.func97 (by kernel_rfl) rfl xs w
theorem enter_98 (xs:Array Value) (w:World):(callFunc 98 xs).run Try.prog w = .ok (.enter 98 xs) w:=AW Try.func98 (by kernel_rfl) rfl xs w
theorem FK (xs:Array Value) (w:World):(callFunc 103 xs).run Try.prog w = .ok (.enter 103 xs) w:=AW Try.func103 (by kernel_rfl) rfl xs w
theorem enter_104 (xs:Array Value) (w:World):(callFunc 104 xs).run Try.prog w = .ok (.enter 104 xs) w:=AW Try.func104 (by kernel_rfl) rfl xs w
theorem enter_105 (xs:Array Value) (w:World):(callFunc 105 xs).run Try.prog w = .ok (.enter 105 xs) w:=AW Try.func105 (by kernel_rfl) rfl xs w
theorem VY (xs:Array Value) (w:World):(callFunc 106 xs).run Try.prog w = .ok (.enter 106 xs) w:=AW Try.func106 (by kernel_rfl) rfl xs w
theorem enter_107 (xs:Array Value) (w:World):(callFunc 107 xs).run Try.prog w = .ok (.enter 107 xs) w:=AW Try.func107 (by kernel_rfl) rfl xs w
theorem enter_108 (xs:Array Value) (w:World):(callFunc 108 xs).run Try.prog w = .ok (.enter 108 xs) w:=AW Try.func108 (by kernel_rfl) rfl xs w
theorem enter_113 (xs:Array Value) (w:World):(callFunc 113 xs).run Try.prog w = .ok (.enter 113 xs) w:=AW Try.func113 (by kernel_rfl) rfl xs w
theorem enter_114 (xs:Array Value) (w:World):(callFunc 114 xs).run Try.prog w = .ok (.enter 114 xs) w:=AW Try.func114 (by kernel_rfl) rfl xs w
theorem ov_115 (x y:Value) (w:World) (h:(Extern.SlicesOverlaps.overlaps #[22,22] #[4] #[x,y]).run Try.prog w = .ok (.bool false) w):(callFunc 115 #[x,y]).run Try.prog w = .ok (.value (.bool false)) w:=by
  rw [run_callFunc_extern Try.func115 (by kernel_rfl) (by kernel_rfl) (by kernel_rfl) (e:=Extern.SlicesOverlaps.overlaps #[22,22] #[4]) (by kernel_rfl),h];rfl
theorem enter_117 (xs:Array Value) (w:World):(callFunc 117 xs).run Try.prog w = .ok (.enter 117 xs) w:=AW Try.func117 (by kernel_rfl) rfl xs w
theorem enter_119 (xs:Array Value) (w:World):(callFunc 119 xs).run Try.prog w = .ok (.enter 119 xs) w:=AW Try.func119 (by kernel_rfl) rfl xs w
open Go.Fw Go.RowKit
set_option maxHeartbeats 4000000 in
set_option maxRecDepth 100000 in
theorem VB {O B:List Nat} {w0 w:World} (v u:Value) (l m:List Int) (i:Nat) (s0:St w0 O w B) (ho:EJ Enc.int 3 w0.heap.size (B++O) w v l) (hu:EJ Enc.int 3 w0.heap.size (B++O) w u m) (hB:∀ b,v.ownBlock=some b→b∈B) (hBu:∀ b,u.ownBlock=some b→b∈B) (hne:∀ b,v.ownBlock=some b→u.ownBlock≠some b) (hm:0<m.length) (hi:i≤l.length) (hlen:(l.length+m.length)*8≤140737488355328) (hmax:l.length+m.length≤maxLen):Calls Try.prog 106 [v,vI (i:Int),u].toArray w (fun e w'=>∃ (v':Value) (B':List Nat),e = .returned v'∧(∀ b,v'.ownBlock=some b→b∈B')∧(∀ b,v'.ownBlock=some b→v.ownBlock=some b∨w.heap.size≤b)∧(∀ b∈B,b∈B')∧St w0 O w' B'∧Mv B w B' w'∧Keep v.ownBlock.toList w w'∧EJ Enc.int 3 w0.heap.size (B'++O) w' v' (l.take i++m++l.drop i)):= by
  have ms:Mv B w B w:=Mv.refl _ _
  have ks:Keep v.ownBlock.toList w w:=Keep.refl _ _
  have hl63:=hmax
  simp only [maxLen] at hl63
  refine CH 95 Try.func106 rfl rfl oT (fun F0=>?_)
  refine AG (?_)
  refine AB kR (AA (AD (nS) rfl (AF (AC (?_)))))
  refine AG (?_)
  refine AB kR (AA (AE (v) rfl (AA (AE (vI (i:Int)) rfl (AA (TD U22_ MW i .i64 (i:Int) rfl rfl rfl oM ho fun v2602 hs2603=>(AF (AC (?_)))))))))
  refine AG (?_)
  refine AB kR (AA (AE (u) rfl (AA (RN U22_ rfl hu (AA (AD (vI (m.length:Int)) rfl (AF (AC (?_)))))))))
  refine AG (?_)
  refine AG (?_)
  refine AB kR (AA (AE (vI (m.length:Int)) rfl (AA (EI .i64 (m.length:Int) (0:Int) rfl rfl (AF (AC (?_)))))))
  have hb2604:((m.length:Int) == (0:Int))=false:=(by rw [beq_eq_false_iff_ne];omega)
  rw [hb2604]
  refine AO false rfl rfl (fun h=>by cases h) (fun _=>?_)
  refine AU (AC (?_))
  refine AG (?_)
  refine AB kR (AA (AE (v) rfl (AA (RN U22_ rfl ho (AA (AD (vI (l.length:Int)) rfl (AF (AC (?_)))))))))
  refine AG (?_)
  refine AG (?_)
  refine AB kR (AA (AE (vI (i:Int)) rfl (AA (AE (vI (l.length:Int)) rfl (AA (EI .i64 (i:Int) (l.length:Int) rfl rfl (AF (AC (?_)))))))))
  refine AO ((i:Int) == (l.length:Int)) rfl rfl (fun hc2605=>?_) (fun hc2605=>?_)
  · have hp2606:(i:Int)=(l.length:Int):=by simpa using hc2605
    refine AG (?_)
    refine AB kR (AA (AE (v) rfl (AA (AE (u) rfl (AA (o_appendOO (E:=Enc.int) (l:=l) (m:=m) U22_ i_3 rfl (by decide) rfl rfl ho hu  hB hlen hmax s0 fun v2611 w2607 B2613 hB2614 at2615 sub2616 s2608 m2609 k2610 ho2612=>(?_)))))))
    have ne2617:∀ b,u.ownBlock=some b→v2611.ownBlock≠some b:=fun b hb e=>by rcases at2615 with e1|e1 <;> rw [e1] at e <;> first|(cases e;have:=(hu.lt _ hb).2;omega)|(exact absurd e ((fun b hb e=>hne b e hb) b hb))
    have hBu:∀ b,u.ownBlock=some b→b∈B2613:=fun b hb=>sub2616 b (hBu b hb)
    have hu:=hu.mv m2609 k2610 (fun b hb=>by simp only [Option.mem_toList];exact (fun b hb e=>hne b e hb) b hb)
    have ms:=ms.trans m2609
    have ks:=ks.step0 k2610 (fun b hb=>by exact .inl hb)
    refine AA (AD (v2611) rfl (AF (AC (?_))))
    refine AP (AR (AZ rfl (CS rfl rfl rfl) (?_)))
    rw [show l++m=l.take i++m++l.drop i from by rw [show i=l.length from by omega,List.take_length,List.drop_length,List.append_nil]] at ho2612
    exact ⟨v2611,B2613,rfl,hB2614,fun b hb=>by rcases at2615 with e1|e1 <;> rw [e1] at hb;exact .inl hb;cases hb;exact .inr (Nat.le_refl _),sub2616,s2608,ms,ks,ho2612⟩
  · have hp2618:(i:Int)≠(l.length:Int):=by simpa using hc2605
    obtain ⟨g,c,cur,css,rfl,hgb,bg,hnc,hcm,hcl,hcss,hrd⟩:=own_open ho oM
    obtain ⟨gu,cu,curu,cssu,rfl,hgub,bgu,hncu,hcmu,hclu,hcssu,hrdu⟩:=own_open hu oM
    have hgB:g∈B:=hB g rfl
    have hguB:gu∈B:=hBu gu rfl
    have hgg:g≠gu:=fun e=>hne g rfl (by rw [e];rfl)
    have hns:l.length*Enc.int.size≤cur.length:=by rw [hcl];exact Nat.mul_le_mul_right _ hnc
    have hmu:m.length*Enc.int.size≤curu.length:=by rw [hclu];exact Nat.mul_le_mul_right _ hncu
    have one1:=ones_drop hrd hcss hi hns
    have one2:=ones_all hrdu hcssu
    have hfm:=hrdu.flen
    refine AU (AC (?_))
    refine AG (?_)
    refine AG (?_)
    refine AB kR (AA (AE (vI (l.length:Int)) rfl (AA (AE (vI (m.length:Int)) rfl (AA (DC .i64 (l.length:Int) (m.length:Int) (((l.length+m.length:Nat):Int)) rfl rfl (FO oM oM) (AA (AE (vS (some ⟨g,0,none⟩) l.length c) rfl (AA (o_cap _ _ c U22_ rfl (AA (FW .i64 ((l.length+m.length:Nat):Int) ((c:Nat):Int) rfl rfl (AF (AC (?_)))))))))))))))
    refine AO (decide (((c:Nat):Int)<((l.length+m.length:Nat):Int))) rfl rfl (fun hc2619=>?_) (fun hc2619=>?_)
    · have hp2620:((c:Nat):Int)<((l.length+m.length:Nat):Int):=by simpa using hc2619
      refine AG (?_)
      refine AB kR (AA (AE (vS (some ⟨g,0,none⟩) l.length c) rfl (AA (AE (vI (i:Int)) rfl (AA (VL (size:=Enc.int.size) U22_ MW g 0 l.length c i .i64 (i:Int) rfl rfl rfl oM (AA (AE (vI (l.length:Int)) rfl (AA (AE (vI (m.length:Int)) rfl (AA (DC .i64 (l.length:Int) (m.length:Int) (((l.length+m.length:Nat):Int)) rfl rfl (FO oM oM) (AA (AE (vI (i:Int)) rfl (AA (HW .i64 ((l.length+m.length:Nat):Int) (i:Int) ((((l.length+m.length) - i:Nat):Int)) rfl rfl (FO oM oM) (AA (o_appendZ (size:=Enc.int.size) (i:=i) ((l.length+m.length) - i) (l.length+m.length) (((l.length+m.length) - i:Nat):Int) oM U22_ U3_ i_3 rfl (by decide) rfl rfl rfl bg (by rw [hcl];exact Nat.mul_le_mul_right _ oM) oM oM hlen hmax s0 fun b2621 G2622 cur2623 w2624 e2625 lo2626 s2627 m2628 k2629 bx2630 hcl2631 hG2632 hM2633 ht2634=>(?_)))))))))))))))))))
      have ne2635:g≠b2621:=by have:=bg.lt;omega
      have ne2636:gu≠b2621:=by have:=bgu.lt;omega
      have hnew_b2621:w.heap.size≤b2621:=by have:=ks.size;omega
      clear e2625
      have bg:=bg.keep k2629 (by simp)
      have bgu:=bgu.keep k2629 (by simp)
      have ms:=ms.trans m2628
      have ks:=ks.step0 k2629 (fun b hb=>by (simp at hb;done))
      refine AA (AD (vS (some ⟨b2621,0,none⟩) (l.length+m.length) G2622) rfl (AF (AC (?_))))
      refine AG (?_)
      refine AB kR (AA (AE (vS (some ⟨b2621,0,none⟩) (l.length+m.length) G2622) rfl (AA (AE (vI (i:Int)) rfl (AA (IQ (size:=Enc.int.size) U22_ MW b2621 (l.length+m.length) G2622 i .i64 (i:Int) rfl rfl rfl oM oM oM (AA (AE (vS (some ⟨gu,0,none⟩) m.length cu) rfl (AA (OJ (size:=Enc.int.size) m.length U22_ MW rfl rfl bx2630 bgu (by repeat (constructor)) (by simp only [Nat.min_def];split <;> omega) (by rw [hcl2631,← Nat.add_mul];exact Nat.mul_le_mul_right _ oM) (by rw [Nat.zero_add];exact hmu) one2 s2627 fun w2637 s2638 m2639 k2640 bx2641=>(?_)))))))))))
      have hcl2642:(FY cur2623 (i*Enc.int.size) ((curu.drop 0).take (m.length*Enc.int.size))).length=G2622*Enc.int.size:=by rw [MK (by rw [List.length_take,List.length_drop,Nat.min_eq_left (by have h2:=((by rw [Nat.zero_add];exact hmu):0+m.length*Enc.int.size≤curu.length);omega)];exact (by rw [hcl2631,← Nat.add_mul];exact Nat.mul_le_mul_right _ oM))];exact hcl2631
      have bg:=bg.keep k2640 (BH ne2635)
      have bgu:=bgu.keep k2640 (BH ne2636)
      have ms:=ms.trans m2639
      have ks:=ks.step0 k2640 (fun b hb=>by (simp only [List.mem_singleton] at hb;subst hb;(right;omega)))
      refine AF (AC (?_))
      refine AG (?_)
      refine cw_draw' 8 _ _ [DF (vS (some ⟨b2621,0,none⟩) (l.length+m.length) G2622),DF (vI (i:Int)),DF (vI (m.length:Int)),DF (vI ((i+m.length:Nat):Int)),DF (vS (some ⟨b2621,((i+m.length)*Enc.int.size),none⟩) ((l.length+m.length) - (i+m.length)) (G2622 - (i+m.length))),DF (vS (some ⟨g,0,none⟩) l.length c),DF (vI (i:Int)),DF (vS (some ⟨g,(i*Enc.int.size),none⟩) (l.length - i) (c - i))] kR kR kR kR rfl rfl ⟨kI,kI,kI,kI,kI,kI,kI,kI,trivial⟩ ⟨?_,?_,?_,?_,?_,?_,?_,?_,trivial⟩ ?_
      · intro F1 w1 k1 hf hd
        have k0:=(Keep.drew [] w2637).trans k1
        have s1:=s2638.call k0
        have m1:Mv (b2621 :: B) w2637 (b2621 :: B) w1:=Mv.of_keep k0
        obtain ⟨F2,rfl⟩:=AL (F:=F1) [(9,vS (some ⟨b2621,0,none⟩) (l.length+m.length) G2622)] ⟨hf 9 kR,trivial⟩
        exact AH rfl ((AE (vS (some ⟨b2621,0,none⟩) (l.length+m.length) G2622) rfl (⟨(Keep.refl _ _),rfl⟩)))
      · intro F1 w1 k1 hf hd
        have k0:=(Keep.drew [] w2637).trans k1
        have s1:=s2638.call k0
        have m1:Mv (b2621 :: B) w2637 (b2621 :: B) w1:=Mv.of_keep k0
        obtain ⟨F2,rfl⟩:=AL (F:=F1) [(1,vI (i:Int))] ⟨hf 1 kR,trivial⟩
        exact AH rfl ((AE (vI (i:Int)) rfl (⟨(Keep.refl _ _),rfl⟩)))
      · intro F1 w1 k1 hf hd
        have k0:=(Keep.drew [] w2637).trans k1
        have s1:=s2638.call k0
        have m1:Mv (b2621 :: B) w2637 (b2621 :: B) w1:=Mv.of_keep k0
        obtain ⟨F2,rfl⟩:=AL (F:=F1) [(7,vI (m.length:Int))] ⟨hf 7 kR,trivial⟩
        exact AH rfl ((AE (vI (m.length:Int)) rfl (⟨(Keep.refl _ _),rfl⟩)))
      · intro F1 w1 k1 hf hd
        have k0:=(Keep.drew [] w2637).trans k1
        have s1:=s2638.call k0
        have m1:Mv (b2621 :: B) w2637 (b2621 :: B) w1:=Mv.of_keep k0
        obtain ⟨F2,rfl⟩:=AL (F:=F1) [(47,vI (i:Int)),(48,vI (m.length:Int))] ⟨hd 1 47 kR,hd 2 48 kR,trivial⟩
        exact AH rfl ((DC .i64 (i:Int) (m.length:Int) (((i+m.length:Nat):Int)) rfl rfl (FO oM oM) (⟨(Keep.refl _ _),rfl⟩)))
      · intro F1 w1 k1 hf hd
        have k0:=(Keep.drew [] w2637).trans k1
        have s1:=s2638.call k0
        have m1:Mv (b2621 :: B) w2637 (b2621 :: B) w1:=Mv.of_keep k0
        obtain ⟨F2,rfl⟩:=AL (F:=F1) [(46,vS (some ⟨b2621,0,none⟩) (l.length+m.length) G2622),(49,vI ((i+m.length:Nat):Int))] ⟨hd 0 46 kR,hd 3 49 kR,trivial⟩
        exact AH rfl ((IQ (size:=Enc.int.size) U22_ MW b2621 (l.length+m.length) G2622 (i+m.length) .i64 ((i+m.length:Nat):Int) rfl rfl rfl oM oM oM (⟨(Keep.refl _ _),rfl⟩)))
      · intro F1 w1 k1 hf hd
        have k0:=(Keep.drew [] w2637).trans k1
        have s1:=s2638.call k0
        have m1:Mv (b2621 :: B) w2637 (b2621 :: B) w1:=Mv.of_keep k0
        obtain ⟨F2,rfl⟩:=AL (F:=F1) [(0,vS (some ⟨g,0,none⟩) l.length c)] ⟨hf 0 kR,trivial⟩
        exact AH rfl ((AE (vS (some ⟨g,0,none⟩) l.length c) rfl (⟨(Keep.refl _ _),rfl⟩)))
      · intro F1 w1 k1 hf hd
        have k0:=(Keep.drew [] w2637).trans k1
        have s1:=s2638.call k0
        have m1:Mv (b2621 :: B) w2637 (b2621 :: B) w1:=Mv.of_keep k0
        obtain ⟨F2,rfl⟩:=AL (F:=F1) [(1,vI (i:Int))] ⟨hf 1 kR,trivial⟩
        exact AH rfl ((AE (vI (i:Int)) rfl (⟨(Keep.refl _ _),rfl⟩)))
      · intro F1 w1 k1 hf hd
        have k0:=(Keep.drew [] w2637).trans k1
        have s1:=s2638.call k0
        have m1:Mv (b2621 :: B) w2637 (b2621 :: B) w1:=Mv.of_keep k0
        obtain ⟨F2,rfl⟩:=AL (F:=F1) [(51,vS (some ⟨g,0,none⟩) l.length c),(52,vI (i:Int))] ⟨hd 5 51 kR,hd 6 52 kR,trivial⟩
        exact AH rfl ((IQ (size:=Enc.int.size) U22_ MW g l.length c i .i64 (i:Int) rfl rfl rfl oM oM oM (⟨(Keep.refl _ _),rfl⟩)))
      intro F2644 w2645 k2643 hT2646 hF2647
      have s2648:=s2638.call k2643
      have m2649:Mv (b2621 :: B) w2637 (b2621 :: B) w2645:=Mv.of_keep k2643
      have bg:=bg.keep k2643 (by simp)
      have bgu:=bgu.keep k2643 (by simp)
      have bx2641:=bx2641.keep k2643 (by simp)
      have ms:=ms.trans m2649
      have ks:=ks.step0 k2643 (fun b hb=>by (simp at hb;done))
      obtain ⟨F2,rfl⟩:=AL (F:=F2644) [(9,vS (some ⟨b2621,0,none⟩) (l.length+m.length) G2622),(95,undef),(50,vS (some ⟨b2621,((i+m.length)*Enc.int.size),none⟩) ((l.length+m.length) - (i+m.length)) (G2622 - (i+m.length))),(53,vS (some ⟨g,(i*Enc.int.size),none⟩) (l.length - i) (c - i))] ⟨hF2647 9 kR,hF2647 95 kR,hT2646 4 50 kR (by decide),hT2646 7 53 kR (by decide),trivial⟩
      clear hT2646 hF2647
      refine AA (OJ (size:=Enc.int.size) (l.length - i) U22_ MW rfl rfl bx2641 bg (by repeat (constructor)) (by simp only [Nat.min_def];split <;> omega) (by rw [hcl2642,← Nat.add_mul];exact Nat.mul_le_mul_right _ oM) (by rw [← Nat.add_mul];exact Nat.le_trans (Nat.mul_le_mul_right _ oM) hns) one1 s2648 fun w2652 s2653 m2654 k2655 bx2656=>(?_))
      have hcl2657:(FY (FY cur2623 (i*Enc.int.size) ((curu.drop 0).take (m.length*Enc.int.size))) ((i+m.length)*Enc.int.size) ((cur.drop (i*Enc.int.size)).take ((l.length - i)*Enc.int.size))).length=G2622*Enc.int.size:=by rw [MK (by rw [List.length_take,List.length_drop,Nat.min_eq_left (by have h2:=((by rw [← Nat.add_mul];exact Nat.le_trans (Nat.mul_le_mul_right _ oM) hns):(i*Enc.int.size)+(l.length - i)*Enc.int.size≤cur.length);omega)];exact (by rw [hcl2642,← Nat.add_mul];exact Nat.mul_le_mul_right _ oM))];exact hcl2642
      have bg:=bg.keep k2655 (BH ne2635)
      have bgu:=bgu.keep k2655 (BH ne2636)
      have ms:=ms.trans m2654
      have ks:=ks.step0 k2655 (fun b hb=>by (simp only [List.mem_singleton] at hb;subst hb;(right;omega)))
      refine AF (AC (?_))
      refine AG (?_)
      refine AB kR (AA (AE (vS (some ⟨b2621,0,none⟩) (l.length+m.length) G2622) rfl (AA (AD (vS (some ⟨b2621,0,none⟩) (l.length+m.length) G2622) rfl (AF (AC (?_)))))))
      refine AP (AR (AZ rfl (CS rfl rfl rfl) (?_)))
      exact ⟨_,(b2621 :: B),rfl,fun b hb=>by cases hb;exact (by repeat (constructor)),fun b hb=>by cases hb;exact .inr hnew_b2621,fun b hb=>List.mem_cons_of_mem _ hb,s2653,ms,ks,EJ.ins hrd hrdu ms bx2656 lo2626 hi hcl2657 oM hM2633 (tk_grow hcss hrd.lens hrd.1 hi hns hcssu hfm ht2634 (by rw [hcl2631];exact Nat.mul_le_mul_right _ oM))⟩
    · have hp2658:((l.length+m.length:Nat):Int)≤((c:Nat):Int):=by simpa using hc2619
      refine AU (AC (?_))
      refine AG (?_)
      refine AB kR (AA (AE (vS (some ⟨g,0,none⟩) l.length c) rfl (AA (AE (vI (l.length:Int)) rfl (AA (AE (vI (m.length:Int)) rfl (AA (DC .i64 (l.length:Int) (m.length:Int) (((l.length+m.length:Nat):Int)) rfl rfl (FO oM oM) (AA (VL (size:=Enc.int.size) U22_ MW g 0 l.length c (l.length+m.length) .i64 ((l.length+m.length:Nat):Int) rfl rfl rfl oM (AA (AD (vS (some ⟨g,0,none⟩) (l.length+m.length) c) rfl (AF (AC (?_)))))))))))))))
      refine AG (?_)
      refine AG (?_)
      refine AB kR (AA (AE (vS (some ⟨gu,0,none⟩) m.length cu) rfl (AA (AE (vS (some ⟨g,0,none⟩) (l.length+m.length) c) rfl (AA (AE (vI (i:Int)) rfl (AA (AE (vI (m.length:Int)) rfl (AA (DC .i64 (i:Int) (m.length:Int) (((i+m.length:Nat):Int)) rfl rfl (FO oM oM) (AA (IQ (size:=Enc.int.size) U22_ MW g (l.length+m.length) c (i+m.length) .i64 ((i+m.length:Nat):Int) rfl rfl rfl oM oM oM (AA (o_overlaps (size:=Enc.int.size) ov_115 U22_ MW rfl bgu bg (Ne.symm hgg) (by rw [hcl];exact Nat.mul_pos oM (by decide)) (AA (HC false rfl (AF (AC (?_)))))))))))))))))))
      refine AO true rfl rfl (fun _=>?_) (fun h=>by cases h)
      refine AG (?_)
      refine cw_draw' 8 _ _ [DF (vS (some ⟨g,0,none⟩) (l.length+m.length) c),DF (vI (i:Int)),DF (vI (m.length:Int)),DF (vI ((i+m.length:Nat):Int)),DF (vS (some ⟨g,((i+m.length)*Enc.int.size),none⟩) ((l.length+m.length) - (i+m.length)) (c - (i+m.length))),DF (vS (some ⟨g,0,none⟩) (l.length+m.length) c),DF (vI (i:Int)),DF (vS (some ⟨g,(i*Enc.int.size),none⟩) ((l.length+m.length) - i) (c - i))] kR kR kR kR rfl rfl ⟨kI,kI,kI,kI,kI,kI,kI,kI,trivial⟩ ⟨?_,?_,?_,?_,?_,?_,?_,?_,trivial⟩ ?_
      · intro F1 w1 k1 hf hd
        have k0:=(Keep.drew [] w).trans k1
        have s1:=s0.call k0
        have m1:Mv B w B w1:=Mv.of_keep k0
        obtain ⟨F2,rfl⟩:=AL (F:=F1) [(0,vS (some ⟨g,0,none⟩) (l.length+m.length) c)] ⟨hf 0 kR,trivial⟩
        exact AH rfl ((AE (vS (some ⟨g,0,none⟩) (l.length+m.length) c) rfl (⟨(Keep.refl _ _),rfl⟩)))
      · intro F1 w1 k1 hf hd
        have k0:=(Keep.drew [] w).trans k1
        have s1:=s0.call k0
        have m1:Mv B w B w1:=Mv.of_keep k0
        obtain ⟨F2,rfl⟩:=AL (F:=F1) [(1,vI (i:Int))] ⟨hf 1 kR,trivial⟩
        exact AH rfl ((AE (vI (i:Int)) rfl (⟨(Keep.refl _ _),rfl⟩)))
      · intro F1 w1 k1 hf hd
        have k0:=(Keep.drew [] w).trans k1
        have s1:=s0.call k0
        have m1:Mv B w B w1:=Mv.of_keep k0
        obtain ⟨F2,rfl⟩:=AL (F:=F1) [(7,vI (m.length:Int))] ⟨hf 7 kR,trivial⟩
        exact AH rfl ((AE (vI (m.length:Int)) rfl (⟨(Keep.refl _ _),rfl⟩)))
      · intro F1 w1 k1 hf hd
        have k0:=(Keep.drew [] w).trans k1
        have s1:=s0.call k0
        have m1:Mv B w B w1:=Mv.of_keep k0
        obtain ⟨F2,rfl⟩:=AL (F:=F1) [(70,vI (i:Int)),(71,vI (m.length:Int))] ⟨hd 1 70 kR,hd 2 71 kR,trivial⟩
        exact AH rfl ((DC .i64 (i:Int) (m.length:Int) (((i+m.length:Nat):Int)) rfl rfl (FO oM oM) (⟨(Keep.refl _ _),rfl⟩)))
      · intro F1 w1 k1 hf hd
        have k0:=(Keep.drew [] w).trans k1
        have s1:=s0.call k0
        have m1:Mv B w B w1:=Mv.of_keep k0
        obtain ⟨F2,rfl⟩:=AL (F:=F1) [(69,vS (some ⟨g,0,none⟩) (l.length+m.length) c),(72,vI ((i+m.length:Nat):Int))] ⟨hd 0 69 kR,hd 3 72 kR,trivial⟩
        exact AH rfl ((IQ (size:=Enc.int.size) U22_ MW g (l.length+m.length) c (i+m.length) .i64 ((i+m.length:Nat):Int) rfl rfl rfl oM oM oM (⟨(Keep.refl _ _),rfl⟩)))
      · intro F1 w1 k1 hf hd
        have k0:=(Keep.drew [] w).trans k1
        have s1:=s0.call k0
        have m1:Mv B w B w1:=Mv.of_keep k0
        obtain ⟨F2,rfl⟩:=AL (F:=F1) [(0,vS (some ⟨g,0,none⟩) (l.length+m.length) c)] ⟨hf 0 kR,trivial⟩
        exact AH rfl ((AE (vS (some ⟨g,0,none⟩) (l.length+m.length) c) rfl (⟨(Keep.refl _ _),rfl⟩)))
      · intro F1 w1 k1 hf hd
        have k0:=(Keep.drew [] w).trans k1
        have s1:=s0.call k0
        have m1:Mv B w B w1:=Mv.of_keep k0
        obtain ⟨F2,rfl⟩:=AL (F:=F1) [(1,vI (i:Int))] ⟨hf 1 kR,trivial⟩
        exact AH rfl ((AE (vI (i:Int)) rfl (⟨(Keep.refl _ _),rfl⟩)))
      · intro F1 w1 k1 hf hd
        have k0:=(Keep.drew [] w).trans k1
        have s1:=s0.call k0
        have m1:Mv B w B w1:=Mv.of_keep k0
        obtain ⟨F2,rfl⟩:=AL (F:=F1) [(74,vS (some ⟨g,0,none⟩) (l.length+m.length) c),(75,vI (i:Int))] ⟨hd 5 74 kR,hd 6 75 kR,trivial⟩
        exact AH rfl ((IQ (size:=Enc.int.size) U22_ MW g (l.length+m.length) c i .i64 (i:Int) rfl rfl rfl oM oM oM (⟨(Keep.refl _ _),rfl⟩)))
      intro F2660 w2661 k2659 hT2662 hF2663
      have s2664:=s0.call k2659
      have m2665:Mv B w B w2661:=Mv.of_keep k2659
      have bg:=bg.keep k2659 (by simp)
      have bgu:=bgu.keep k2659 (by simp)
      have ms:=ms.trans m2665
      have ks:=ks.step0 k2659 (fun b hb=>by (simp at hb;done))
      obtain ⟨F2,rfl⟩:=AL (F:=F2660) [(0,vS (some ⟨g,0,none⟩) (l.length+m.length) c),(1,vI (i:Int)),(2,vS (some ⟨gu,0,none⟩) m.length cu),(95,undef),(73,vS (some ⟨g,((i+m.length)*Enc.int.size),none⟩) ((l.length+m.length) - (i+m.length)) (c - (i+m.length))),(76,vS (some ⟨g,(i*Enc.int.size),none⟩) ((l.length+m.length) - i) (c - i))] ⟨hF2663 0 kR,hF2663 1 kR,hF2663 2 kR,hF2663 95 kR,hT2662 4 73 kR (by decide),hT2662 7 76 kR (by decide),trivial⟩
      clear hT2662 hF2663
      refine AA (OJ (size:=Enc.int.size) (l.length - i) U22_ MW rfl rfl bg bg (by repeat (assumption)) (by simp only [Nat.min_def];split <;> omega) (by rw [hcl,← Nat.add_mul];exact Nat.mul_le_mul_right _ oM) (by rw [← Nat.add_mul];exact Nat.le_trans (Nat.mul_le_mul_right _ oM) hns) one1 s2664 fun w2668 s2669 m2670 k2671 bx2672=>(?_))
      have hcl2673:(FY cur ((i+m.length)*Enc.int.size) ((cur.drop (i*Enc.int.size)).take ((l.length - i)*Enc.int.size))).length=c*Enc.int.size:=by rw [MK (by rw [List.length_take,List.length_drop,Nat.min_eq_left (by have h2:=((by rw [← Nat.add_mul];exact Nat.le_trans (Nat.mul_le_mul_right _ oM) hns):(i*Enc.int.size)+(l.length - i)*Enc.int.size≤cur.length);omega)];exact (by rw [hcl,← Nat.add_mul];exact Nat.mul_le_mul_right _ oM))];exact hcl
      have bgu:=bgu.keep k2671 (BH (Ne.symm hgg))
      have ms:=ms.trans m2670
      have ks:=ks.step0 k2671 (fun b hb=>by exact .inl hb)
      refine AF (AC (?_))
      refine AG (?_)
      refine AB kR (AA (AE (vS (some ⟨g,0,none⟩) (l.length+m.length) c) rfl (AA (AE (vI (i:Int)) rfl (AA (IQ (size:=Enc.int.size) U22_ MW g (l.length+m.length) c i .i64 (i:Int) rfl rfl rfl oM oM oM (AA (AE (vS (some ⟨gu,0,none⟩) m.length cu) rfl (AA (OJ (size:=Enc.int.size) m.length U22_ MW rfl rfl bx2672 bgu (by repeat (assumption)) (by simp only [Nat.min_def];split <;> omega) (by rw [hcl2673,← Nat.add_mul];exact Nat.mul_le_mul_right _ oM) (by rw [Nat.zero_add];exact hmu) one2 s2669 fun w2674 s2675 m2676 k2677 bx2678=>(?_)))))))))))
      have hcl2679:(FY (FY cur ((i+m.length)*Enc.int.size) ((cur.drop (i*Enc.int.size)).take ((l.length - i)*Enc.int.size))) (i*Enc.int.size) ((curu.drop 0).take (m.length*Enc.int.size))).length=c*Enc.int.size:=by rw [MK (by rw [List.length_take,List.length_drop,Nat.min_eq_left (by have h2:=((by rw [Nat.zero_add];exact hmu):0+m.length*Enc.int.size≤curu.length);omega)];exact (by rw [hcl2673,← Nat.add_mul];exact Nat.mul_le_mul_right _ oM))];exact hcl2673
      have bgu:=bgu.keep k2677 (BH (Ne.symm hgg))
      have ms:=ms.trans m2676
      have ks:=ks.step0 k2677 (fun b hb=>by exact .inl hb)
      refine AF (AC (?_))
      refine AG (?_)
      refine AB kR (AA (AE (vS (some ⟨g,0,none⟩) (l.length+m.length) c) rfl (AA (AD (vS (some ⟨g,0,none⟩) (l.length+m.length) c) rfl (AF (AC (?_)))))))
      refine AP (AR (AZ rfl (CS rfl rfl rfl) (?_)))
      exact ⟨_,B,rfl,fun b hb=>by cases hb;exact (by repeat (assumption)),fun b hb=>by cases hb;exact .inl rfl,fun b hb=>hb,s2675,ms,ks,EJ.ins hrd hrdu ms bx2678 hgb hi hcl2679 oM hcm (tk_shift hcss hrd.lens hrd.1 hi (by rw [hcl];exact Nat.mul_le_mul_right _ oM) hcssu hfm)⟩
open Go.Fw
def JJ (l:List Int) (k:Nat):Int:=if k=0 then -1 else l[k - 1]!
def JH (l:List Int) (k:Nat):Bool:=decide (l[k]!≤JJ l k) || decide (4096≤l[k]!)
def HM (l:List Int):Bool:=FG (fun k=>if JH l k then some false else none) true 0 (l.length - 0)
def CT (d f:Int):Bool:=decide (f≤d) && decide (d<1024)
def EF (r:Recovery):Bool:=
  if (decide (r.state<0) || decide (2<r.state)) || !HM r.approved then false
  else if r.state == 2 then ((r.vetoed.length:Int) == 1) && CT r.vetoed[0]! r.asked else (r.vetoed.length:Int) == 0
def EM (l:List Recovery) (k:Nat):Int:=if k=0 then 0 else l[k - 1]!.asked
def ES (l:List Recovery) (k:Nat):Bool:=
  ((l[k]!.no != (k:Int) || !CT l[k]!.asked (EM l k)) || !EF l[k]!) || (l[k]!.state == 0 && decide ((k:Int)<(l.length:Int) - 1))
def DJ (c:Circle):Bool:=
  (((((((decide (c.epoch<0) || decide (1048576<c.epoch)) || decide ((c.guardians.length:Int)<1)) || decide (8<(c.guardians.length:Int))) || !HM c.guardians) || decide (c.threshold<1)) || decide ((c.guardians.length:Int)<c.threshold)) || !CT c.wait 0) || decide (1024<(c.recs.length:Int))
def AS (c:Circle):Int:=if DJ c then 450 else FG (fun k=>if ES c.recs k then some 450 else none) 0 0 (c.recs.length - 0)
def DZ:Circle:=⟨0,0,0,[],[]⟩
def KQ (l:List Int) (t w:Int):Circle × Int:=if AS ⟨0,t,w,l,[]⟩ != 0 then (DZ,AS ⟨0,t,w,l,[]⟩) else (⟨0,t,w,l,[]⟩,0)
def IL (c:Circle):Recovery:=if 0<c.recs.length then c.recs[c.recs.length - 1]! else ⟨0,0,1,[],[]⟩
def AV (c:Circle) (day:Int):Circle × Int × Int:=
  if AS c != 0 then (DZ,0,AS c) else if !CT day (IL c).asked then (DZ,0,1) else if (IL c).state == 0 then (DZ,0,451) else if (c.recs.length:Int) == 1024 then (DZ,0,2)
  else (⟨c.epoch,c.threshold,c.wait,c.guardians,c.recs++[⟨(c.recs.length:Int),day,0,[],[]⟩]⟩,(c.recs.length:Int),0)
def BO (c:Circle) (no:Int) (f:Recovery→Except Int Recovery):Circle × Int:=
  if AS c != 0 then (DZ,AS c) else if no<0∨(c.recs.length:Int)≤no then (DZ,1)
  else match f c.recs[no.toNat]! with | .error e=>(DZ,e) | .ok r=>(⟨c.epoch,c.threshold,c.wait,c.guardians,c.recs.set no.toNat r⟩,0)
def idxI (l:List Int) (x:Int):Int:=FG (fun k=>if x == l[k]! then some (k:Int) else none) (-1) 0 (l.length - 0)
def tw (l:List Int) (x:Int):Nat:=(l.takeWhile (fun y=>decide (y<x))).length
def RY (l:List Int) (x:Int):Bool:=decide (tw l x<l.length) && (l[tw l x]! == x)
def OT (l:List Int) (x:Int):List Int:=l.take (tw l x)++[x]++l.drop (tw l x)
def HR (l g:List Int) (k:Nat):Nat:=((g.take k).filter (fun x=>l.contains x)).length
def LD (c:Circle) (r:Recovery):Bool:=decide (c.threshold≤(HR r.approved c.guardians c.guardians.length:Int))
def BA (c:Circle) (g:Int) (r:Recovery):Except Int Recovery:=
  if r.state == 2 then .error 452 else if r.state == 1 then .error 1 else if !(c.guardians.contains g) then .error 450 else if RY r.approved g then .ok r else .ok ⟨r.no,r.asked,r.state,OT r.approved g,r.vetoed⟩
def AY (c:Circle) (day:Int) (r:Recovery):Except Int Recovery:=
  if r.state == 2 then .error 452 else if r.state == 1 then .error 1 else if !CT day 0 then .error 1 else if !LD c r then .error 450 else if decide (day<r.asked+c.wait) then .error 451 else .ok ⟨r.no,r.asked,1,r.approved,r.vetoed⟩
theorem scan_if {β:Type} {p:Nat→Bool} {d r:β} (hne:r≠d):∀ {m i:Nat},FG (fun k=>if p k then some r else none) d i m=d↔∀ k,i≤k→k<i+m→p k=false
  | 0,i=>by simp [FG];intro k h1 h2;omega
  | m+1,i=>by
    unfold FG
    cases hp:p i with
    | true=>
      simp only [if_true]
      refine ⟨fun h=>absurd h hne,fun h=>?_⟩
      have:=h i (Nat.le_refl _) (by omega)
      rw [hp] at this;cases this
    | false=>
      simp only [Bool.false_eq_true,if_false]
      rw [scan_if hne]
      refine ⟨fun h k h1 h2=>?_,fun h k h1 h2=>h k (by omega) (by omega)⟩
      by_cases hk:k=i
      · subst hk;exact hp
      · exact h k (by omega) (by omega)
theorem SI (l:List Int):HM l=true↔∀ k,k<l.length→JH l k=false:=by
  unfold HM
  rw [scan_if (by simp)]
  exact ⟨fun h k hk=>h k (by omega) (by omega),fun h k _ hk=>h k (by omega)⟩
theorem PW {l:List Int} {k:Nat}:JH l k=false↔JJ l k<l[k]!∧l[k]! < 4096:=by
  simp [JH]
theorem MJ {l:List Int} (h:HM l=true):∀ p q,p<q→q<l.length→l[p]! < l[q]!:=by
  intro p q hpq hq
  induction q with
  | zero=>omega
  | succ q ih=>
    have h1:=(PW.1 ((SI l).1 h (q+1) hq)).1
    simp only [JJ,Nat.add_one_ne_zero,if_false,Nat.add_sub_cancel] at h1
    by_cases hp:p=q
    · subst hp;exact h1
    · have:=ih (by omega) (by omega);omega
theorem QV {l:List Int} (h:HM l=true):∀ q,q<l.length→0≤l[q]!∧l[q]! < 4096:=by
  intro q hq
  have h2:=(PW.1 ((SI l).1 h q hq))
  refine ⟨?_,h2.2⟩
  have h0:=(PW.1 ((SI l).1 h 0 (by omega))).1
  simp only [JJ,if_true] at h0
  by_cases hq0:q=0
  · subst hq0;omega
  · have:=MJ h 0 q (by omega) hq;omega
theorem inc_ge {l:List Int} (h:HM l=true):∀ q,q<l.length→(q:Int)≤l[q]!:=by
  intro q hq
  induction q with
  | zero=>exact (QV h 0 hq).1
  | succ q ih=>have:=ih (by omega);have:=MJ h q (q+1) (by omega) hq;omega
theorem MC {l:List Int} (h:HM l=true):l.length≤4096:=by
  by_cases h0:l.length=0
  · omega
  · have h1:=inc_ge h (l.length - 1) (by omega)
    have h2:=(QV h (l.length - 1) (by omega)).2
    omega
theorem FJ (c:Circle):AS c=0↔DJ c=false∧∀ k,k<c.recs.length→ES c.recs k=false:=by
  unfold AS
  cases hh:DJ c with
  | true=>simp
  | false=>
    simp only [Bool.false_eq_true,if_false,true_and]
    rw [scan_if (by decide)]
    exact ⟨fun h k hk=>h k (by omega) (by omega),fun h k _ hk=>h k (by omega)⟩
theorem ET {r:Recovery} (h:EF r=true):0≤r.state∧r.state≤2∧HM r.approved=true:=by
  unfold EF at h
  split at h
  · cases h
  · rename_i hh
    have hh':((decide (r.state<0) || decide (2<r.state)) || !HM r.approved)=false:=by simpa using hh
    simp only [dbs] at hh'
    exact ⟨by omega,by omega,by simpa using hh'.2⟩
theorem KE {c:Circle} (h:AS c=0) {k:Nat} (hk:k<c.recs.length):EF c.recs[k]! = true:=by
  have:=((FJ c).1 h).2 k hk
  simp only [ES,dbs] at this
  exact this.1.2
theorem LC {c:Circle} (h:AS c=0) {no:Int} (h1:0≤no) (h2:no<c.recs.length):c.recs[no.toNat]!.state=0∨c.recs[no.toNat]!.state=1∨c.recs[no.toNat]!.state=2:=by
  have:=ET (KE h (k:=no.toNat) (by omega))
  omega
theorem SC {c:Circle} (h:AS c=0) {no:Int} (h1:0≤no) (h2:no<c.recs.length):∀ p q,p<q→q<c.recs[no.toNat]!.approved.length→c.recs[no.toNat]!.approved[p]! < c.recs[no.toNat]!.approved[q]!:=
  MJ (ET (KE h (k:=no.toNat) (by omega))).2.2
theorem tw_le (l:List Int) (x:Int):tw l x≤l.length:=by
  unfold tw
  exact (List.takeWhile_sublist _).length_le
theorem tw_eq {x:Int}:∀ {l:List Int} {k:Nat},k≤l.length→(∀ q,q<k→l[q]! < x)→(k<l.length→x≤l[k]!)→tw l x=k
  | [],k,hk,_,_=>by simp at hk;subst hk;rfl
  | a :: l,0,_,_,h2=>by
    have:=h2 (by simp)
    simp at this
    have hn:¬ (a<x):=by omega
    simp [tw,hn]
  | a :: l,k+1,hk,h1,h2=>by
    have h0:=h1 0 (by omega)
    simp at h0
    have ih:=tw_eq (x:=x) (l:=l) (k:=k) (by simpa using hk) (fun q hq=>by have:=h1 (q+1) (by omega);simpa using this) (fun hk2=>by have:=h2 (by simpa using hk2);simpa using this)
    unfold tw at ih ⊢
    simp [h0,ih]
theorem bsF_1 {l:List Int} {x:Int} {k:Nat} (ht:tw l x=k) (h:(l.length:Int)≤k):RY l x=false:=by
  have:¬ (k<l.length):=by omega
  simp [RY,ht,this]
theorem bsF_2 {l:List Int} {x:Int} {k:Nat} (ht:tw l x=k) (h:l[k]!≠x):RY l x=false:=by
  unfold RY;rw [ht]
  have:(l[k]! == x)=false:=by simpa using h
  rw [this,Bool.and_false]
theorem bsF_t {l:List Int} {x:Int} {k:Nat} (ht:tw l x=k) (h:(k:Int)<l.length) (he:l[k]! = x):RY l x=true:=by
  unfold RY;rw [ht]
  have:(l[k]! == x)=true:=by simpa using he
  rw [this,Bool.and_true];simpa using h
theorem bs_lo {l:List Int} {x:Int} {h:Nat} (hs:∀ p q,p<q→q<l.length→l[p]! < l[q]!) (h1:l[h]! < x) (hh:h<l.length):∀ q,q<h+1→l[q]! < x:=by
  intro q hq
  by_cases hqh:q=h
  · subst hqh;exact h1
  · have:=hs q h (by omega) hh;omega
theorem bs_hi {l:List Int} {x:Int} {h:Nat} (hs:∀ p q,p<q→q<l.length→l[p]! < l[q]!) (h1:x≤l[h]!):∀ q,h≤q→q<l.length→x≤l[q]!:=by
  intro q hq hql
  by_cases hqh:q=h
  · subst hqh;exact h1
  · have:=hs h q (by omega) hql;omega
theorem idxI_pos (l:List Int) (x:Int):decide ((0:Int)≤idxI l x)=l.contains x:=by
  have key:∀ (m i:Nat),m+i=l.length→decide ((0:Int)≤FG (fun k=>if x == l[k]! then some (k:Int) else none) (-1) i m)=(l.drop i).contains x:=by
    intro m
    induction m with
    | zero=>intro i hi;rw [List.drop_eq_nil_of_le (by omega)];rfl
    | succ m ih=>
      intro i hi
      unfold FG
      have hil:i<l.length:=by omega
      have hd:l.drop i=l[i]! :: l.drop (i+1):=by rw [getElem!_pos l i hil];exact List.drop_eq_getElem_cons hil
      rw [hd,List.contains_cons]
      cases hx:(x == l[i]!) with
      | true=>simp
      | false=>simp only [Bool.false_eq_true,if_false,Bool.false_or];exact ih (i+1) (by omega)
  have:=key l.length 0 (by omega)
  rw [List.drop_zero] at this
  exact this
theorem RV {l g:List Int} {k:Nat} (h:k<g.length):HR l g (k+1)=HR l g k+(if l.contains g[k]! then 1 else 0):=by
  unfold HR
  rw [List.take_add_one,List.getElem?_eq_getElem h,getElem!_pos g k h]
  simp only [Option.toList_some,List.filter_append,List.length_append]
  by_cases hc:g[k]∈l <;> simp [List.filter,hc]
theorem countM_le (l g:List Int) (k:Nat):HR l g k≤k:=by
  unfold HR
  exact Nat.le_trans (List.length_filter_le _ _) (List.length_take_le _ _)
theorem SH {c:Circle} (h:AS c=0):c.recs.length≤1024:=by
  have:=((FJ c).1 h).1
  simp only [DJ,dbs] at this
  omega
theorem QD {l:List Int} {t w:Int} (h:AS ⟨0,t,w,l,[]⟩≠0):KQ l t w=(DZ,AS ⟨0,t,w,l,[]⟩):=by
  unfold KQ;rw [if_pos (by simpa using h)]
theorem SL {l:List Int} {t w:Int} (h:AS ⟨0,t,w,l,[]⟩ = 0):KQ l t w=(⟨0,t,w,l,[]⟩,0):=by
  unfold KQ;rw [if_neg (by simp [h])]
theorem QK {c:Circle} {day:Int} (h:AS c≠0):AV c day=(DZ,0,AS c):=by
  unfold AV;rw [if_pos (by simpa using h)]
theorem JX {c:Circle} {day:Int} (h:AS c=0) (h1:CT day (IL c).asked=false):AV c day=(DZ,0,1):=by
  unfold AV;rw [if_neg (by simp [h]),if_pos (by simp [h1])]
theorem OG {c:Circle} {day:Int} (h:AS c=0) (h1:CT day (IL c).asked=true) (h2:(IL c).state=0):AV c day=(DZ,0,451):=by
  unfold AV;rw [if_neg (by simp [h]),if_neg (by simp [h1]),if_pos (by simp [h2])]
theorem IU {c:Circle} {day:Int} (h:AS c=0) (h1:CT day (IL c).asked=true) (h2:(IL c).state≠0) (h3:(c.recs.length:Int)=1024):AV c day=(DZ,0,2):=by
  unfold AV;rw [if_neg (by simp [h]),if_neg (by simp [h1]),if_neg (by simpa using h2),if_pos (by simpa using h3)]
theorem HB {c:Circle} {day:Int} (h:AS c=0) (h1:CT day (IL c).asked=true) (h2:(IL c).state≠0) (h3:(c.recs.length:Int)≠1024) :
    AV c day=(⟨c.epoch,c.threshold,c.wait,c.guardians,c.recs++[⟨(c.recs.length:Int),day,0,[],[]⟩]⟩,(c.recs.length:Int),0):=by
  unfold AV;rw [if_neg (by simp [h]),if_neg (by simp [h1]),if_neg (by simpa using h2),if_neg (by simpa using h3)]
theorem gAct_bad {c:Circle} {no:Int} {f:Recovery→Except Int Recovery} (h:AS c≠0):BO c no f=(DZ,AS c):=by
  unfold BO;rw [if_pos (by simpa using h)]
theorem gAct_no {c:Circle} {no:Int} {f:Recovery→Except Int Recovery} (h:AS c=0) (hn:no<0∨(c.recs.length:Int)≤no):BO c no f=(DZ,1):=by
  unfold BO;rw [if_neg (by simp [h]),if_pos hn]
theorem IZ {c:Circle} {no:Int} {f:Recovery→Except Int Recovery} {e:Int} (h:AS c=0) (h1:0≤no) (h2:no<c.recs.length) (hf:f c.recs[no.toNat]! = .error e):BO c no f=(DZ,e):=by
  unfold BO;rw [if_neg (by simp [h]),if_neg (by omega),hf]
theorem gAct_ok {c:Circle} {no:Int} {f:Recovery→Except Int Recovery} {r:Recovery} (h:AS c=0) (h1:0≤no) (h2:no<c.recs.length) (hf:f c.recs[no.toNat]! = .ok r):BO c no f=(⟨c.epoch,c.threshold,c.wait,c.guardians,c.recs.set no.toNat r⟩,0):=by
  unfold BO;rw [if_neg (by simp [h]),if_neg (by omega),hf]
theorem fin_bad {c:Circle} {no:Int} {day:Int} (h:AS c≠0):BO c no (AY c day)=(DZ,AS c):=gAct_bad h
theorem fin_no {c:Circle} {no:Int} {day:Int} (h:AS c=0) (hn:no<0∨(c.recs.length:Int)≤no):BO c no (AY c day)=(DZ,1):=gAct_no h hn
theorem app_bad {c:Circle} {no:Int} {g:Int} (h:AS c≠0):BO c no (BA c g)=(DZ,AS c):=gAct_bad h
theorem app_no {c:Circle} {no:Int} {g:Int} (h:AS c=0) (hn:no<0∨(c.recs.length:Int)≤no):BO c no (BA c g)=(DZ,1):=gAct_no h hn
theorem fin_dead {c:Circle} {no day:Int} (hok:AS c=0) (h1:0≤no) (h2:no<c.recs.length) (hs:c.recs[no.toNat]!.state=2):BO c no (AY c day)=(DZ,452):=
  IZ hok h1 h2 (by revert hs;generalize c.recs[no.toNat]! = r;intro hs;simp [AY,hs])
theorem fin_done {c:Circle} {no day:Int} (hok:AS c=0) (h1:0≤no) (h2:no<c.recs.length) (hs:c.recs[no.toNat]!.state=1):BO c no (AY c day)=(DZ,1):=
  IZ hok h1 h2 (by revert hs;generalize c.recs[no.toNat]! = r;intro hs;simp [AY,hs])
theorem fin_day {c:Circle} {no day:Int} (hok:AS c=0) (h1:0≤no) (h2:no<c.recs.length) (hs:c.recs[no.toNat]!.state=0) (hd:CT day 0=false):BO c no (AY c day)=(DZ,1):=
  IZ hok h1 h2 (by revert hs hd;generalize c.recs[no.toNat]! = r;intro hs hd;simp [AY,hs,hd])
theorem fin_few {c:Circle} {no day:Int} (hok:AS c=0) (h1:0≤no) (h2:no<c.recs.length) (hs:c.recs[no.toNat]!.state=0) (hd:CT day 0=true) (ha:LD c c.recs[no.toNat]! = false):BO c no (AY c day)=(DZ,450):=
  IZ hok h1 h2 (by revert hs hd ha;generalize c.recs[no.toNat]! = r;intro hs hd ha;simp [AY,hs,hd,ha])
theorem fin_wait {c:Circle} {no day:Int} (hok:AS c=0) (h1:0≤no) (h2:no<c.recs.length) (hs:c.recs[no.toNat]!.state=0) (hd:CT day 0=true) (ha:LD c c.recs[no.toNat]! = true) (hw:day<c.recs[no.toNat]!.asked+c.wait):BO c no (AY c day)=(DZ,451):=
  IZ hok h1 h2 (by revert hs hd ha hw;generalize c.recs[no.toNat]! = r;intro hs hd ha hw;simp [AY,hs,hd,ha];omega)
theorem fin_open {c:Circle} {no day:Int} (hok:AS c=0) (h1:0≤no) (h2:no<c.recs.length) (hs:c.recs[no.toNat]!.state=0) (hd:CT day 0=true) (ha:LD c c.recs[no.toNat]! = true) (hw:c.recs[no.toNat]!.asked+c.wait≤day):BO c no (AY c day)=(⟨c.epoch,c.threshold,c.wait,c.guardians,c.recs.set no.toNat ⟨c.recs[no.toNat]!.no,c.recs[no.toNat]!.asked,1,c.recs[no.toNat]!.approved,c.recs[no.toNat]!.vetoed⟩⟩,0):=
  gAct_ok hok h1 h2 (by revert hs hd ha hw;generalize c.recs[no.toNat]! = r;intro hs hd ha hw;simp [AY,hs,hd,ha];omega)
theorem app_dead {c:Circle} {no g:Int} (hok:AS c=0) (h1:0≤no) (h2:no<c.recs.length) (hs:c.recs[no.toNat]!.state=2):BO c no (BA c g)=(DZ,452):=
  IZ hok h1 h2 (by revert hs;generalize c.recs[no.toNat]! = r;intro hs;simp [BA,hs])
theorem app_done {c:Circle} {no g:Int} (hok:AS c=0) (h1:0≤no) (h2:no<c.recs.length) (hs:c.recs[no.toNat]!.state=1):BO c no (BA c g)=(DZ,1):=
  IZ hok h1 h2 (by revert hs;generalize c.recs[no.toNat]! = r;intro hs;simp [BA,hs])
theorem app_not {c:Circle} {no g:Int} (hok:AS c=0) (h1:0≤no) (h2:no<c.recs.length) (hs:c.recs[no.toNat]!.state=0) (hg:c.guardians.contains g=false):BO c no (BA c g)=(DZ,450):=
  IZ hok h1 h2 (by revert hs hg;generalize c.recs[no.toNat]! = r;intro hs hg;simp only [BA,hs,hg];simp [hs,hg])
theorem app_had {c:Circle} {no g:Int} (hok:AS c=0) (h1:0≤no) (h2:no<c.recs.length) (hs:c.recs[no.toNat]!.state=0) (hg:c.guardians.contains g=true) (hb:RY c.recs[no.toNat]!.approved g=true):BO c no (BA c g)=(⟨c.epoch,c.threshold,c.wait,c.guardians,c.recs.set no.toNat c.recs[no.toNat]!⟩,0):=
  gAct_ok hok h1 h2 (by revert hs hg hb;generalize c.recs[no.toNat]! = r;intro hs hg hb;simp only [BA,hs,hg,hb];simp [hs,hg,hb])
theorem SJ {c:Circle} {no g:Int} (hok:AS c=0) (h1:0≤no) (h2:no<c.recs.length) (hs:c.recs[no.toNat]!.state=0) (hg:c.guardians.contains g=true) (hb:RY c.recs[no.toNat]!.approved g=false):BO c no (BA c g)=(⟨c.epoch,c.threshold,c.wait,c.guardians,c.recs.set no.toNat ⟨c.recs[no.toNat]!.no,c.recs[no.toNat]!.asked,c.recs[no.toNat]!.state,OT c.recs[no.toNat]!.approved g,c.recs[no.toNat]!.vetoed⟩⟩,0):=
  gAct_ok hok h1 h2 (by revert hs hg hb;generalize c.recs[no.toNat]! = r;intro hs hg hb;simp only [BA,hs,hg,hb];simp [hs,hg,hb])
theorem JV {l:List Recovery} {k:Nat}:ES l k=false↔l[k]!.no=(k:Int)∧CT l[k]!.asked (EM l k)=true∧EF l[k]! = true∧(l[k]!.state≠0∨(l.length:Int) - 1≤(k:Int)):=by
  simp only [ES,dbs]
  constructor
  · rintro ⟨⟨⟨h1,h2⟩,h3⟩,h4⟩;exact ⟨by omega,by simpa using h2,by simpa using h3,by omega⟩
  · rintro ⟨h1,h2,h3,h4⟩;exact ⟨⟨⟨by omega,by simpa using h2⟩,by simpa using h3⟩,by omega⟩
theorem HU {d f:Int}:CT d f=true↔f≤d∧d<1024:=by simp [CT]
theorem asked_ge {l:List Recovery} {n:Nat} (h:∀ k,k<n→ES l k=false):∀ k,k<n→0≤l[k]!.asked:=by
  intro k hk
  induction k with
  | zero=>
    have:=(HU.1 (JV.1 (h 0 hk)).2.1).1
    simpa [EM] using this
  | succ k ih=>
    have h1:=(HU.1 (JV.1 (h (k+1) hk)).2.1).1
    simp only [EM,Nat.add_one_ne_zero,if_false,Nat.add_sub_cancel] at h1
    have:=ih (by omega)
    omega
theorem TN {c:Circle} (h:AS c=0) {no:Int} (h1:0≤no) (h2:no<c.recs.length):0≤c.recs[no.toNat]!.asked∧c.recs[no.toNat]!.asked<1024∧0≤c.wait∧c.wait<1024:=by
  have hh:=(FJ c).1 h
  have ha:=asked_ge hh.2 no.toNat (by omega)
  have hd:=(HU.1 (JV.1 (hh.2 no.toNat (by omega))).2.1).2
  have hw:=hh.1
  simp only [DJ,dbs] at hw
  have:=HU.1 (show CT c.wait 0=true by simpa using hw.1.2)
  omega
section
variable {l:List Int} {k:Nat}
end
open Go.Fw Go.RowKit
set_option maxHeartbeats 4000000 in
set_option maxRecDepth 100000 in
theorem c_isNaN {O:List Nat} (x:Int) (w:World) (hO:∀ b∈O,b<w.heap.size):CF Try.prog 119 [vI x] w (fun v _=>v = .bool (false)):= by
 have s0:St w O w []:=St.start hO
 refine BQ 6 Try.func119 rfl rfl oT (fun F0=>?_)
 refine AG (?_)
 refine AB kR (AA (AD (vO false) rfl (AF (AC (?_)))))
 refine AG (?_)
 refine AB kR (AA (AE (vI x) rfl (AA (AE (vI x) rfl (AA (CV .i64 x x rfl rfl (AA (AD (vO (x != x)) rfl (AF (AC (?_)))))))))))
 refine AP (AZ rfl (CS rfl rfl rfl) (?_))
 have e:false=(x != x):=by simp
 exact ⟨_,rfl,s0.keep,(by exact congrArg vO e.symm)⟩
set_option maxHeartbeats 4000000 in
set_option maxRecDepth 100000 in
theorem c_isNaN2 {O:List Nat} (x:Int) (w:World) (hO:∀ b∈O,b<w.heap.size):CF Try.prog 114 [vI x] w (fun v _=>v = .bool (false)):= by
 have s0:St w O w []:=St.start hO
 refine BQ 6 Try.func114 rfl rfl oT (fun F0=>?_)
 refine AG (?_)
 refine AB kR (AA (AD (vO false) rfl (AF (AC (?_)))))
 refine AG (?_)
 refine AB kR (AA (AE (vI x) rfl (AA (AE (vI x) rfl (AA (CV .i64 x x rfl rfl (AA (AD (vO (x != x)) rfl (AF (AC (?_)))))))))))
 refine AP (AZ rfl (CS rfl rfl rfl) (?_))
 have e:false=(x != x):=by simp
 exact ⟨_,rfl,s0.keep,(by exact congrArg vO e.symm)⟩
set_option maxHeartbeats 4000000 in
set_option maxRecDepth 100000 in
theorem c_less {O:List Nat} (x:Int) (y:Int) (w:World) (hO:∀ b∈O,b<w.heap.size):CF Try.prog 113 [vI x,vI y] w (fun v _=>v = .bool (decide (x<y))):= by
 have s0:St w O w []:=St.start hO
 refine BQ 17 Try.func113 rfl rfl oT (fun F0=>?_)
 refine AG (?_)
 refine AB kR (AA (AD (vO false) rfl (AF (AC (?_)))))
 refine AG (?_)
 refine AB kR (AA (AE (vI x) rfl (AA (BB (vs:=[vI x]) enter_119 (c_isNaN (O:=[]++O) x w s0.lt) rfl s0 fun v2680 w2681 s2682 m2683 k2684 r2685=>(?_)))))
 obtain rfl:=r2685
 refine AA (AE (vO false) rfl (AT rfl (AT rfl (AT rfl (AA (BX (vO false) rfl rfl (AA (AE (vO false) rfl (BE rfl (AE (vI x) rfl (BE rfl (AE (vI y) rfl (BE rfl (DW .i64 x y rfl rfl (AA (BX (vO (decide (x<y))) rfl rfl (AA (AD (vO (decide (x<y))) rfl (AF (AC (?_)))))))))))))))))))))
 refine AP (AZ rfl (CS rfl rfl rfl) (?_))
 exact ⟨_,rfl,s2682.keep,rfl⟩
set_option maxHeartbeats 4000000 in
set_option maxRecDepth 100000 in
theorem c_bs {O:List Nat} (l_v:Value) (l:List Int) (x:Int) (w:World) (h_l:BG Enc.int w O l_v l) (hpre0:∀ p q,p<q→q<l.length→l[p]! < l[q]!) (hpre1:l.length≤4611686018427387903) (hO:∀ b∈O,b<w.heap.size):CF Try.prog 105 [l_v,vI x] w (fun v _=>v = .tuple #[vI ((tw l x:Nat):Int), .bool (RY l x)]):= by
 have lim_l:=h_l.len_le
 have h_l:BG Enc.int w ([]++O) l_v l:=h_l
 have s0:St w O w []:=St.start hO
 refine BQ 54 Try.func105 rfl rfl oT (fun F0=>?_)
 refine AG (?_)
 refine AB kR (AA (AD (vI 0) rfl (AA (AD (vO false) rfl (AF (AC (?_)))))))
 refine AG (?_)
 refine AB kR (AA (AE (l_v) rfl (AA (CG U22_ rfl h_l (AA (AD (vI (l.length:Int)) rfl (AF (AC (?_)))))))))
 refine AG (?_)
 refine AB kR (AA (AE (vI (l.length:Int)) rfl (AA (AD (vI 0) rfl (AA (AD (vI (l.length:Int)) rfl (AF (AC (?_)))))))))
 refine AG (?_)
 refine BR (?_)
 refine DH (fun mI FI wI=>∃ (lo:Nat) (hi:Nat) (B:List Nat),lo≤hi∧hi≤l.length∧(∀ q,q<lo→l[q]! < x)∧(∀ q,hi≤q→q<l.length→x≤l[q]!)∧mI=hi - lo∧(∃ F1,FI=FT F1 [(0,l_v),(1,vI x),(6,vI (l.length:Int)),(7,vI ((lo:Nat):Int)),(8,vI ((hi:Nat):Int)),(54,undef)])∧St w O wI B∧BG Enc.int wI (B++O) (l_v) (l)) ((l.length) - (0)) ?_ ?_
 ·exact ⟨(0),(l.length),[],oM,oM,(fun q hq=>by omega),(fun q h1 h2=>by omega),rfl,⟨_,AX _ ⟨rfl,rfl,rfl,(by rfl),(by rfl),rfl,trivial⟩⟩,s0,h_l⟩
 ·intro ml0 F wl0 hI
  clear h_l
  obtain ⟨lo,hi,Bl0,hr0_0,hr0_1,hr0_2,hr0_3,hm0,⟨Fl0,rfl⟩,sl0,h_l⟩:=hI
  refine AG (?_)
  refine AG (?_)
  refine AB kR (AA (AE (vI ((lo:Nat):Int)) rfl (AA (AE (vI ((hi:Nat):Int)) rfl (AA (DW .i64 ((lo:Nat):Int) ((hi:Nat):Int) rfl rfl (AF (AC (?_)))))))))
  refine AO (decide (((lo:Nat):Int)<((hi:Nat):Int))) rfl rfl (fun hc2686=>?_) (fun hc2686=>?_)
  ·have hp2687:((lo:Nat):Int)<((hi:Nat):Int):=by simpa using hc2686
   refine AU (AC (?_))
   refine BR (?_)
   refine AG (?_)
   refine AB kR (AA (AE (vI ((lo:Nat):Int)) rfl (AA (AE (vI ((hi:Nat):Int)) rfl (AA (DC .i64 ((lo:Nat):Int) ((hi:Nat):Int) (((lo+hi:Nat):Int)) rfl rfl (FO oM oM) (AA (o_conv .i64 .u64 U3_ U135_ ((lo+hi:Nat):Int) (((lo+hi):Nat):Int) rfl (wrap_u64 oM) (AA (o_shrU .u64 (lo+hi) 1 oM rfl rfl (AA (o_conv .u64 .i64 U135_ U3_ (((lo+hi) / 2 ^ 1:Nat):Int) ((((lo+hi) / 2 ^ 1):Nat):Int) rfl (FO oM rfl) (AA (AD (vI (((lo+hi) / 2 ^ 1:Nat):Int)) rfl (AF (AC (?_)))))))))))))))))
   refine AG (?_)
   refine AB kR (AA (AE (l_v) rfl (AA (AE (vI (((lo+hi) / 2 ^ 1:Nat):Int)) rfl (AA (DI U22_ MW .i64 (((lo+hi) / 2 ^ 1:Nat):Int) ((lo+hi) / 2 ^ 1) rfl rfl rfl h_l oM fun a2688 hp2689=>(AA (CE U3_ rfl rfl hp2689 (AA (AE (vI x) rfl (AA (BB (vs:=[vI (l[(lo+hi) / 2 ^ 1]!),vI x]) enter_113 (c_less (O:=Bl0++O) (l[(lo+hi) / 2 ^ 1]!) x wl0 sl0.lt) rfl sl0 fun v2690 w2691 s2692 m2693 k2694 r2695=>(?_)))))))))))))
   obtain rfl:=r2695
   have h_l:=h_l.mv m2693
   refine AF (AC (?_))
   refine AO (decide (l[(lo+hi) / 2 ^ 1]! < x)) rfl rfl (fun hc2696=>?_) (fun hc2696=>?_)
   ·have hp2697:l[(lo+hi) / 2 ^ 1]! < x:=by simpa using hc2696
    refine AB kR (AA (AE (vI (((lo+hi) / 2 ^ 1:Nat):Int)) rfl (AA (DC .i64 (((lo+hi) / 2 ^ 1:Nat):Int) (1:Int) ((((lo+hi) / 2 ^ 1+1:Nat):Int)) rfl rfl (FO oM oM) (AA (AD (vI (((lo+hi) / 2 ^ 1+1:Nat):Int)) rfl (AF (CI (AC (?_))))))))))
    exact ⟨_,oM,((lo+hi) / 2 ^ 1+1),(hi),Bl0,oM,oM,(by exact bs_lo hpre0 aS oM),(by exact hr0_3),rfl,⟨_,AX _ ⟨rfl,rfl,rfl,(by rfl),(by rfl),rfl,trivial⟩⟩,s2692,h_l⟩
   ·have hp2698:x≤l[(lo+hi) / 2 ^ 1]!:=by simpa using hc2696
    refine AB kR (AA (AE (vI (((lo+hi) / 2 ^ 1:Nat):Int)) rfl (AA (AD (vI (((lo+hi) / 2 ^ 1:Nat):Int)) rfl (AF (CI (AC (?_))))))))
    exact ⟨_,oM,(lo),((lo+hi) / 2 ^ 1),Bl0,oM,oM,(by exact hr0_2),(by exact bs_hi hpre0 aS),rfl,⟨_,AX _ ⟨rfl,rfl,rfl,(by rfl),(by rfl),rfl,trivial⟩⟩,s2692,h_l⟩
  ·have hp2699:((hi:Nat):Int)≤((lo:Nat):Int):=by simpa using hc2686
   obtain rfl:lo=hi:=by omega
   have htw:tw l x=lo:=tw_eq oM hr0_2 (fun h=>hr0_3 lo oM h)
   refine DE (CC (CC (CY (AC (?_)))))
   refine AG (?_)
   refine AB kR (AA (AE (vI ((lo:Nat):Int)) rfl (AA (AE (vI ((lo:Nat):Int)) rfl (AA (AE (vI (l.length:Int)) rfl (AA (DW .i64 ((lo:Nat):Int) (l.length:Int) rfl rfl (AA (AE (vO (decide (((lo:Nat):Int)<(l.length:Int)))) rfl (?_)))))))))))
   cases hb2700:(decide (((lo:Nat):Int)<(l.length:Int)))
   ·have hp2701:(l.length:Int)≤((lo:Nat):Int):=by simpa using hb2700
    refine AT rfl (AT rfl (AT rfl (AT rfl (AT rfl (AT rfl (AT rfl (HO rfl (HO rfl (HO rfl (HO rfl (HO rfl (HO rfl (HO rfl (HO rfl (HO rfl (AT rfl (AA (BX (vO false) rfl rfl (AA (AD (vI ((lo:Nat):Int)) rfl (AA (AD (vO false) rfl (AF (AC (?_)))))))))))))))))))))))))
    refine AP (AZ rfl (FF rfl rfl rfl rfl) (?_))
    have e2702:(tw l x)=lo:=by exact htw
    have e2703:(RY l x)=false:=by exact bsF_1 htw oM
    exact ⟨_,rfl,sl0.keep,by rw [e2702,e2703];exact rfl⟩
   ·have hp2704:((lo:Nat):Int)<(l.length:Int):=by simpa using hb2700
    refine BE rfl (AE (l_v) rfl (BE rfl (AE (vI ((lo:Nat):Int)) rfl (BE rfl (DI U22_ MW .i64 ((lo:Nat):Int) lo rfl rfl rfl h_l oM fun a2705 hp2706=>(BE rfl (CE U3_ rfl rfl hp2706 (BE rfl (AE (vI x) rfl (BE rfl (EI .i64 (l[lo]!) x rfl rfl (BE rfl (AE (vO ((l[lo]!) == x)) rfl (?_))))))))))))))
    cases hb2707:((l[lo]!) == x)
    ·have hp2708:l[lo]!≠x:=by simpa using hb2707
     refine BE rfl (AE (l_v) rfl (BE rfl (AE (vI ((lo:Nat):Int)) rfl (BE rfl (DI U22_ MW .i64 ((lo:Nat):Int) lo rfl rfl rfl h_l oM fun a2709 hp2710=>(BE rfl (CE U3_ rfl rfl hp2710 (BE rfl (BB (vs:=[vI (l[lo]!)]) enter_114 (c_isNaN2 (O:=Bl0++O) (l[lo]!) wl0 sl0.lt) rfl sl0 fun v2711 w2712 s2713 m2714 k2715 r2716=>(?_))))))))))
     obtain rfl:=r2716
     refine BE rfl (AE (vO false) rfl (AT rfl (AT rfl (BE rfl (BX (vO false) rfl rfl (BE rfl (BX (vO false) rfl rfl (AA (BK (vO false) rfl rfl (AA (AD (vI ((lo:Nat):Int)) rfl (AA (AD (vO false) rfl (AF (AC (?_))))))))))))))))
     refine AP (AZ rfl (FF rfl rfl rfl rfl) (?_))
     have e2717:(tw l x)=lo:=by exact htw
     have e2718:(RY l x)=false:=by exact bsF_2 htw aS
     exact ⟨_,rfl,s2713.keep,by rw [e2717,e2718];exact rfl⟩
    ·have hp2719:l[lo]! = x:=by simpa using hb2707
     refine AT rfl (AT rfl (AT rfl (AT rfl (AT rfl (AT rfl (HO rfl (HO rfl (AT rfl (BE rfl (BK (vO true) rfl rfl (AA (BK (vO true) rfl rfl (AA (AD (vI ((lo:Nat):Int)) rfl (AA (AD (vO true) rfl (AF (AC (?_)))))))))))))))))))
     refine AP (AZ rfl (FF rfl rfl rfl rfl) (?_))
     have e2720:(tw l x)=lo:=by exact htw
     have e2721:(RY l x)=true:=by exact bsF_t htw oM aS
     exact ⟨_,rfl,sl0.keep,by rw [e2720,e2721];exact rfl⟩
set_option maxHeartbeats 4000000 in
set_option maxRecDepth 100000 in
theorem c_idx {O:List Nat} (l_v:Value) (l:List Int) (x:Int) (w:World) (h_l:BG Enc.int w O l_v l) (hO:∀ b∈O,b<w.heap.size):CF Try.prog 104 [l_v,vI x] w (fun v _=>v=vI (idxI l x)):= by
 have lim_l:=h_l.len_le
 have h_l:BG Enc.int w ([]++O) l_v l:=h_l
 have s0:St w O w []:=St.start hO
 refine BQ 19 Try.func104 rfl rfl oT (fun F0=>?_)
 refine AG (?_)
 refine AB kR (AA (AD (vI 0) rfl (AF (AC (?_)))))
 refine AG (?_)
 refine AG (?_)
 refine AB kR (AA (AE (l_v) rfl (AA (CG U22_ rfl h_l (AA (AE (vI 0) rfl (AF (AC (?_)))))))))
 refine BR (?_)
 refine DH (fun mI FI wI=>∃ (k:Nat),k≤l.length∧idxI l x=FG (fun k=>if x == l[k]! then some (k:Int) else none) (-1) k (l.length - k)∧mI=l.length - k∧(∃ F1,FI=FT F1 [(0,l_v),(1,vI x),(7,vI (l.length:Int)),(8,vI ((k:Nat):Int)),(19,undef)])∧w=wI) (l.length - (0)) ?_ ?_
 ·exact ⟨(0),oM,rfl,rfl,⟨_,AX _ ⟨rfl,rfl,rfl,(by rfl),rfl,trivial⟩⟩,rfl⟩
 ·rintro ml0 F wl0 ⟨k,hr0_0,hr0_1,hm0,⟨Fl0,rfl⟩,rfl⟩
  refine AG (?_)
  refine AB kR (AA (DW .i64 ((k:Nat):Int) (l.length:Int) rfl rfl (AF (AC (?_)))))
  refine AG (?_)
  refine AO (decide (((k:Nat):Int)<(l.length:Int))) rfl rfl (fun hc2722=>?_) (fun hc2722=>?_)
  ·have hp2723:((k:Nat):Int)<(l.length:Int):=by simpa using hc2722
   refine AU (AC (?_))
   refine AG (?_)
   refine BR (?_)
   refine AG (?_)
   refine AB kR (AA (AE (vI ((k:Nat):Int)) rfl (AA (AD (vI ((k:Nat):Int)) rfl (AF (AC (?_)))))))
   refine AG (?_)
   refine AB kR (AA (AE (vI x) rfl (AA (AE (l_v) rfl (AA (AE (vI ((k:Nat):Int)) rfl (AA (DI U22_ MW .i64 ((k:Nat):Int) k rfl rfl rfl h_l oM fun a2724 hp2725=>(AA (CE U3_ rfl rfl hp2725 (AA (EI .i64 x (l[k]!) rfl rfl (AF (AC (?_)))))))))))))))
   refine AO (x == (l[k]!)) rfl rfl (fun hc2726=>?_) (fun hc2726=>?_)
   ·have hp2727:x=l[k]!:=by simpa using hc2726
    refine AG (?_)
    refine AB kR (AA (AE (vI ((k:Nat):Int)) rfl (AA (AD (vI ((k:Nat):Int)) rfl (AF (AC (?_)))))))
    refine AP (CB (AR (AR (CB (AR (AZ rfl (CS rfl rfl rfl) (?_)))))))
    have e:(idxI l x)=((k:Nat):Int):=by (rw [hr0_1];exact DQ oM (by ((repeat ((refine (if_pos ?_).trans ?_;omega)));rfl)))
    exact ⟨_,rfl,s0.keep,by rw [e];exact rfl⟩
   ·have hp2728:x≠l[k]!:=by simpa using hc2726
    refine AU (CI (AC (?_)))
    refine AB kR (AA (DC .i64 ((k:Nat):Int) (1:Int) (((k+1:Nat):Int)) rfl rfl (FO oM oM) (AA (AE (vI ((k+1:Nat):Int)) rfl (AF (AC (?_)))))))
    exact ⟨_,oM,(k+1),oM,(hr0_1.trans (GJ oM (by ((repeat ((refine (if_neg ?_).trans ?_;solve|(simp only [dbs];(repeat (omega))))));rfl)))),rfl,⟨_,AX _ ⟨rfl,rfl,rfl,(by rfl),rfl,trivial⟩⟩,rfl⟩
  ·have hp2729:(l.length:Int)≤((k:Nat):Int):=by simpa using hc2722
   refine DE (CC (CC (CY (AC (?_)))))
   refine AG (?_)
   refine AB kR (AA (AD (vI (-1:Int)) rfl (AF (AC (?_)))))
   refine AP (AZ rfl (CS rfl rfl rfl) (?_))
   have e:(idxI l x)=(-1:Int):=by (rw [hr0_1];exact HD oM)
   exact ⟨_,rfl,s0.keep,by rw [e];exact rfl⟩
set_option maxHeartbeats 4000000 in
set_option maxRecDepth 100000 in
theorem UA {O:List Nat} (l_v:Value) (l:List Int) (x:Int) (w:World) (h_l:BG Enc.int w O l_v l) (hO:∀ b∈O,b<w.heap.size):CF Try.prog 75 [l_v,vI x] w (fun v _=>v = .bool (l.contains x)):= by
 have lim_l:=h_l.len_le
 have h_l:BG Enc.int w ([]++O) l_v l:=h_l
 have s0:St w O w []:=St.start hO
 refine BQ 9 Try.func75 rfl rfl oT (fun F0=>?_)
 refine AG (?_)
 refine AB kR (AA (AD (vO false) rfl (AF (AC (?_)))))
 refine AG (?_)
 refine AB kR (AA (AE (l_v) rfl (AA (AE (vI x) rfl (AA (BB (vs:=[l_v,vI x]) enter_104 (c_idx (O:=[]++O) l_v l x w h_l s0.lt) rfl s0 fun v2730 w2731 s2732 m2733 k2734 r2735=>(?_)))))))
 obtain rfl:=r2735
 refine AA (KI .i64 (idxI l x) (0:Int) rfl rfl (AA (AD (vO (decide ((0:Int)≤idxI l x))) rfl (AF (AC (?_))))))
 refine AP (AZ rfl (CS rfl rfl rfl) (?_))
 have e:(l.contains x)=(decide ((0:Int)≤idxI l x)):=by exact (idxI_pos _ _).symm
 exact ⟨_,rfl,s2732.keep,(by exact congrArg vO e.symm)⟩
set_option maxHeartbeats 4000000 in
set_option maxRecDepth 100000 in
theorem OL {O:List Nat} (day:Int) (frm:Int) (w:World) (hO:∀ b∈O,b<w.heap.size):CF Try.prog 65 [vI day,vI frm] w (fun v _=>v = .bool (CT day frm)):= by
 have s0:St w O w []:=St.start hO
 refine BQ 12 Try.func65 rfl rfl oT (fun F0=>?_)
 refine AG (?_)
 refine AB kR (AA (AD (vO false) rfl (AF (AC (?_)))))
 refine AG (?_)
 refine AB kR (AA (AE (vI day) rfl (AA (AE (vI frm) rfl (AA (KI .i64 day frm rfl rfl (AA (AE (vO (decide (frm≤day))) rfl (?_)))))))))
 cases hb2736:(decide (frm≤day))
 ·have hp2737:day<frm:=by simpa using hb2736
  refine AT rfl (AT rfl (AA (BX (vO false) rfl rfl (AA (AD (vO false) rfl (AF (AC (?_))))))))
  refine AP (AZ rfl (CS rfl rfl rfl) (?_))
  have e:(CT day frm)=false:=by simp [CT, *]
  exact ⟨_,rfl,s0.keep,(by exact congrArg vO e.symm)⟩
 ·have hp2738:frm≤day:=by simpa using hb2736
  refine BE rfl (AE (vI day) rfl (BE rfl (DW .i64 day (1024:Int) rfl rfl (AA (BK (vO (decide (day<(1024:Int)))) rfl rfl (AA (AD (vO (decide (day<(1024:Int)))) rfl (AF (AC (?_))))))))))
  refine AP (AZ rfl (CS rfl rfl rfl) (?_))
  have e:(CT day frm)=(decide (day<(1024:Int))):=by simp [CT, *]
  exact ⟨_,rfl,s0.keep,(by exact congrArg vO e.symm)⟩
set_option maxHeartbeats 4000000 in
set_option maxRecDepth 100000 in
theorem c_incr {O:List Nat} (l_v:Value) (l:List Int) (w:World) (h_l:BG Enc.int w O l_v l) (hO:∀ b∈O,b<w.heap.size):CF Try.prog 64 [l_v] w (fun v _=>v = .bool (HM l)):= by
 have lim_l:=h_l.len_le
 have h_l:BG Enc.int w ([]++O) l_v l:=h_l
 have s0:St w O w []:=St.start hO
 refine BQ 21 Try.func64 rfl rfl oT (fun F0=>?_)
 refine AG (?_)
 refine AB kR (AA (AD (vO false) rfl (AF (AC (?_)))))
 refine AG (?_)
 refine AB kR (AA (AD (vI (-1:Int)) rfl (AF (AC (?_)))))
 refine AG (?_)
 refine AG (?_)
 refine AB kR (AA (AE (l_v) rfl (AA (CG U22_ rfl h_l (AA (AE (vI 0) rfl (AF (AC (?_)))))))))
 refine BR (?_)
 refine DH (fun mI FI wI=>∃ (k:Nat),k≤l.length∧HM l=FG (fun k=>if JH l k then some false else none) true k (l.length - k)∧mI=l.length - k∧(∃ F1,FI=FT F1 [(3,vI (JJ l k)),(6,l_v),(7,vI (l.length:Int)),(8,vI ((k:Nat):Int)),(21,undef)])∧w=wI) (l.length - (0)) ?_ ?_
 ·exact ⟨(0),oM,(by unfold HM;((repeat (first|(refine (if_pos ?_).trans ?_;solve|omega|assumption|(simp only [JH,dbs];first|done|(repeat (first|omega|assumption|(right;first|omega|assumption|(constructor <;> first|omega|assumption))|left)))|(rw [Bool.not_eq_true];simp only [JH,dbs];first|done|omega|assumption|((repeat' apply And.intro) <;> first|omega|assumption))|(simp only [*,dbs];done))|(refine (if_neg ?_).trans ?_;solve|omega|assumption|(simp only [JH,dbs];first|done|(repeat (first|omega|assumption|(right;first|omega|assumption|(constructor <;> first|omega|assumption))|left)))|(rw [Bool.not_eq_true];simp only [JH,dbs];first|done|omega|assumption|((repeat' apply And.intro) <;> first|omega|assumption))|(simp only [*,dbs];done))));rfl)),rfl,⟨_,AX _ ⟨(by rfl),rfl,rfl,(by rfl),rfl,trivial⟩⟩,rfl⟩
 ·rintro ml0 F wl0 ⟨k,hr0_0,hr0_1,hm0,⟨Fl0,rfl⟩,rfl⟩
  refine AG (?_)
  refine AB kR (AA (DW .i64 ((k:Nat):Int) (l.length:Int) rfl rfl (AF (AC (?_)))))
  refine AG (?_)
  refine AO (decide (((k:Nat):Int)<(l.length:Int))) rfl rfl (fun hc2739=>?_) (fun hc2739=>?_)
  ·have hp2740:((k:Nat):Int)<(l.length:Int):=by simpa using hc2739
   refine AU (AC (?_))
   refine AG (?_)
   refine BR (?_)
   refine AG (?_)
   refine AB kR (AA (DI U22_ MW .i64 ((k:Nat):Int) k rfl rfl rfl h_l oM fun a2741 hp2742=>(AA (CE U3_ rfl rfl hp2742 (AA (AD (vI (l[k]!)) rfl (AF (AC (?_)))))))))
   refine AG (?_)
   refine AG (?_)
   refine AB kR (AA (AE (vI (l[k]!)) rfl (AA (AE (vI (JJ l k)) rfl (AA (o_leq .i64 (l[k]!) (JJ l k) rfl rfl (AA (AE (vO (decide (l[k]!≤JJ l k))) rfl (?_)))))))))
   cases hb2743:(decide (l[k]!≤JJ l k))
   ·have hp2744:JJ l k<l[k]!:=by simpa using hb2743
    refine BE rfl (AE (vI (l[k]!)) rfl (BE rfl (KI .i64 (l[k]!) (4096:Int) rfl rfl (AA (BX (vO (decide ((4096:Int)≤l[k]!))) rfl rfl (AF (AC (?_))))))))
    refine AO (decide ((4096:Int)≤l[k]!)) rfl rfl (fun hc2745=>?_) (fun hc2745=>?_)
    ·have hp2746:(4096:Int)≤l[k]!:=by simpa using hc2745
     refine AG (?_)
     refine AB kR (AA (AD (vO false) rfl (AF (AC (?_)))))
     refine AP (AR (CB (AR (AR (CB (AR (AZ rfl (CS rfl rfl rfl) (?_))))))))
     have e:(HM l)=false:=by (rw [hr0_1];exact DQ oM (by ((repeat ((refine (if_pos ?_).trans ?_;solve|(simp only [JH,dbs];(repeat (omega))))));rfl)))
     exact ⟨_,rfl,s0.keep,(by exact congrArg vO e.symm)⟩
    ·have hp2747:l[k]! < (4096:Int):=by simpa using hc2745
     refine AU (AC (?_))
     refine AB kR (AA (AE (vI (l[k]!)) rfl (AA (AD (vI (l[k]!)) rfl (AF (CI (AC (?_))))))))
     refine AB kR (AA (DC .i64 ((k:Nat):Int) (1:Int) (((k+1:Nat):Int)) rfl rfl (FO oM oM) (AA (AE (vI ((k+1:Nat):Int)) rfl (AF (AC (?_)))))))
     exact ⟨_,oM,(k+1),oM,(hr0_1.trans (GJ oM (by ((repeat ((refine (if_neg ?_).trans ?_;solve|(simp only [JH,dbs];(repeat (omega))))));rfl)))),rfl,⟨_,AX _ ⟨(by rfl),rfl,rfl,(by rfl),rfl,trivial⟩⟩,rfl⟩
   ·have hp2748:l[k]!≤JJ l k:=by simpa using hb2743
    refine AT rfl (AT rfl (AA (BK (vO true) rfl rfl (AF (AC (?_))))))
    refine AO true rfl rfl (fun _=>?_) (fun h=>by cases h)
    refine AG (?_)
    refine AB kR (AA (AD (vO false) rfl (AF (AC (?_)))))
    refine AP (AR (CB (AR (AR (CB (AR (AZ rfl (CS rfl rfl rfl) (?_))))))))
    have e:(HM l)=false:=by (rw [hr0_1];exact DQ oM (by ((repeat ((refine (if_pos ?_).trans ?_;solve|(simp only [JH,dbs];(repeat (omega))))));rfl)))
    exact ⟨_,rfl,s0.keep,(by exact congrArg vO e.symm)⟩
  ·have hp2749:(l.length:Int)≤((k:Nat):Int):=by simpa using hc2739
   refine DE (CC (CC (CY (AC (?_)))))
   refine AG (?_)
   refine AB kR (AA (AD (vO true) rfl (AF (AC (?_)))))
   refine AP (AZ rfl (CS rfl rfl rfl) (?_))
   have e:(HM l)=true:=by (rw [hr0_1];exact HD oM)
   exact ⟨_,rfl,s0.keep,(by exact congrArg vO e.symm)⟩
set_option maxHeartbeats 4000000 in
set_option maxRecDepth 100000 in
theorem c_recOK {O:List Nat} (r_cs:List Value) (r:Recovery) (w:World) (h_r:Enc.recovery.rd w O r_cs r) (hO:∀ b∈O,b<w.heap.size):CF Try.prog 66 [.agg r_cs.toArray] w (fun v _=>v = .bool (EF r)):= by
 have h_r:Enc.recovery.rd w ([]++O) r_cs r:=h_r
 have s0:St w O w []:=St.start hO
 refine BQ 37 Try.func66 rfl rfl oT (fun F0=>?_)
 refine AG (?_)
 refine AB kR (AA (DO (E:=Enc.recovery) (vA r_cs.toArray) (r_cs) r rfl rfl h_r s0 fun a2750 w2751 s2752 m2753 k2754 hp2755=>(?_)))
 refine AA (AD (vO false) rfl (AF (AC (?_))))
 refine AG (?_)
 refine AG (?_)
 refine AB kR (AA (BM 2 KD (r.state) rfl hp2755 (fun _ _ _ h=>GI h) fun a2756 hp2757=>(AA (CE U3_ rfl rfl hp2757 (AA (DW .i64 r.state (0:Int) rfl rfl (AA (AE (vO (decide (r.state<(0:Int)))) rfl (?_)))))))))
 cases hb2758:(decide (r.state<(0:Int)))
 ·have hp2759:(0:Int)≤r.state:=by simpa using hb2758
  refine BE rfl (BM 2 KD (r.state) rfl hp2755 (fun _ _ _ h=>GI h) fun a2760 hp2761=>(BE rfl (CE U3_ rfl rfl hp2761 (BE rfl (FW .i64 r.state (2:Int) rfl rfl (AA (BX (vO (decide ((2:Int)<r.state))) rfl rfl (AA (AE (vO (decide ((2:Int)<r.state))) rfl (?_))))))))))
  cases hb2762:(decide ((2:Int)<r.state))
  ·have hp2763:r.state≤(2:Int):=by simpa using hb2762
   refine BE rfl (BM 3 PB (r.approved) rfl hp2755 (fun _ _ _ h=>JK h) fun a2764 hp2765=>(BE rfl (BW U22_ rfl rfl hp2765 fun v2766 hl2767=>(?_))))
   have:=hl2767.len_le
   refine BE rfl (BB (vs:=[v2766]) enter_64 (c_incr (O:=[]++O) v2766 r.approved w2751 hl2767 s2752.lt) rfl s2752 fun v2768 w2769 s2770 m2771 k2772 r2773=>(?_))
   obtain rfl:=r2773
   have hp2755:=hp2755.mv m2771
   refine BE rfl (HC (HM r.approved) rfl (AA (BX (vO (!(HM r.approved))) rfl rfl (AF (AC (?_))))))
   refine AO (!(HM r.approved)) rfl rfl (fun hc2774=>?_) (fun hc2774=>?_)
   ·have hp2775:(HM r.approved)=false:=by simpa using hc2774
    refine AG (?_)
    refine AB kR (AA (AD (vO false) rfl (AF (AC (?_)))))
    refine AP (AR (AZ rfl (CS rfl rfl rfl) (?_)))
    have e:(EF r)=false:=by (unfold EF;((repeat ((refine (if_pos ?_).trans ?_;solve|(simp only [dbs];(repeat ((right;omega)))))));rfl))
    exact ⟨_,rfl,s2770.keep,(by exact congrArg vO e.symm)⟩
   ·have hp2776:(HM r.approved)=true:=by simpa using hc2774
    refine AU (AC (?_))
    refine AG (?_)
    refine AG (?_)
    refine AB kR (AA (BM 2 KD (r.state) rfl hp2755 (fun _ _ _ h=>GI h) fun a2777 hp2778=>(AA (CE U3_ rfl rfl hp2778 (AA (EI .i64 r.state (2:Int) rfl rfl (AF (AC (?_)))))))))
    refine AO (r.state == (2:Int)) rfl rfl (fun hc2779=>?_) (fun hc2779=>?_)
    ·have hp2780:r.state=(2:Int):=by simpa using hc2779
     refine AG (?_)
     cases hb2781:((r.vetoed.length:Int) == (1:Int))
     ·have hp2782:(r.vetoed.length:Int)≠(1:Int):=by simpa using hb2781
      refine cw_draw' 11 _ _ [fun (vT:Value) (wT:World)=>∃ aT,vT = .pointer (some aT)∧PT (Enc.slice Enc.int) wT ([]++O) (.pointer (some aT)) (r.vetoed),fun (vT:Value) (wT:World)=>BG Enc.int wT ([]++O) vT (r.vetoed),DF (vI (r.vetoed.length:Int)),DF (vO false),DF (vO false),DF undef,DF undef,DF undef,DF undef,DF undef,DF undef] kR kR kR kR rfl rfl ⟨fun _ _ _ ⟨a,e,h⟩ k=>⟨a,e,h.mv (Mv.of_keep k)⟩,fun _ _ _ h k=>h.mv (Mv.of_keep k),kI,kI,kI,kI,kI,kI,kI,kI,kI,trivial⟩ ⟨?_,?_,?_,?_,?_,?_,?_,?_,?_,?_,?_,trivial⟩ ?_
      ·intro F1 w1 k1 hf hd
       have k0:=(Keep.drew [] w2769).trans k1
       have m1:Mv ([]) w2769 ([]) w1:=Mv.of_keep k0
       have hp2755:=hp2755.mv m1
       obtain ⟨F2,rfl⟩:=AL (F:=F1) [(1,vP (some a2750))] ⟨hf 1 kR,trivial⟩
       exact AH rfl ((BM 4 ST (r.vetoed) rfl hp2755 (fun _ _ _ h=>GF h) fun a2783 hp2784=>(⟨(Keep.refl _ _),⟨a2783,rfl,hp2784⟩⟩)))
      ·intro F1 w1 k1 hf hd
       obtain ⟨a2785,e2787,hp2786⟩:∃ aX_,F1 20 = .pointer (some aX_)∧PT (Enc.slice Enc.int) w1 ([]++O) (.pointer (some aX_)) (r.vetoed):=hd 0 20 kR
       obtain ⟨F2,rfl⟩:=AL (F:=F1) [(20,vP (some a2785))] ⟨e2787,trivial⟩
       refine AH rfl ((BW U22_ rfl rfl hp2786 fun v2788 hl2789=>(?_)))
       have:=hl2789.len_le
       exact ⟨(Keep.refl _ _),hl2789⟩
      ·intro F1 w1 k1 hf hd
       obtain ⟨v2790,e2792,hl2791⟩:∃ v,F1 21=v∧BG Enc.int w1 ([]++O) v (r.vetoed):=⟨_,rfl,hd 1 21 kR⟩
       have:=hl2791.len_le
       obtain ⟨F2,rfl⟩:=AL (F:=F1) [(21,v2790)] ⟨e2792,trivial⟩
       exact AH rfl ((CG U22_ rfl hl2791 (⟨(Keep.refl _ _),rfl⟩)))
      ·intro F1 w1 k1 hf hd
       obtain ⟨F2,rfl⟩:=AL (F:=F1) [(22,vI (r.vetoed.length:Int))] ⟨hd 2 22 kR,trivial⟩
       refine AH rfl ((EI .i64 (r.vetoed.length:Int) (1:Int) rfl rfl (?_)))
       exact ⟨(Keep.refl _ _),congrArg vO (hb2781)⟩
      ·intro F1 w1 k1 hf hd
       obtain ⟨F2,rfl⟩:=AL (F:=F1) [(23,vO false)] ⟨hd 3 23 kR,trivial⟩
       exact AH rfl ((AE (vO false) rfl (⟨(Keep.refl _ _),rfl⟩)))
      ·intro F1 w1 k1 hf hd
       exact LN rfl rfl (hd 4 24 kR) rfl rfl
      ·intro F1 w1 k1 hf hd
       exact LN rfl rfl (hd 4 24 kR) rfl rfl
      ·intro F1 w1 k1 hf hd
       exact LN rfl rfl (hd 4 24 kR) rfl rfl
      ·intro F1 w1 k1 hf hd
       exact LN rfl rfl (hd 4 24 kR) rfl rfl
      ·intro F1 w1 k1 hf hd
       exact LN rfl rfl (hd 4 24 kR) rfl rfl
      ·intro F1 w1 k1 hf hd
       exact LN rfl rfl (hd 4 24 kR) rfl rfl
      intro F2794 w2795 k2793 hT2796 hF2797
      have s2798:=s2770.call k2793
      obtain ⟨F2,rfl⟩:=AL (F:=F2794) [(2,vO false),(37,undef),(24,vO false)] ⟨hF2797 2 kR,hF2797 37 kR,hT2796 4 24 kR (by decide),trivial⟩
      clear hT2796 hF2797
      refine AT rfl (AA (BX (vO false) rfl rfl (AA (AD (vO false) rfl (AF (AC (?_)))))))
      refine AP (AR (AZ rfl (CS rfl rfl rfl) (?_)))
      have e:(EF r)=false:=by (simp_all [EF];done)
      exact ⟨_,rfl,s2798.keep,(by exact congrArg vO e.symm)⟩
     ·have hp2802:(r.vetoed.length:Int)=(1:Int):=by simpa using hb2781
      refine cw_draw' 11 _ _ [fun (vT:Value) (wT:World)=>∃ aT,vT = .pointer (some aT)∧PT (Enc.slice Enc.int) wT ([]++O) (.pointer (some aT)) (r.vetoed),fun (vT:Value) (wT:World)=>BG Enc.int wT ([]++O) vT (r.vetoed),DF (vI (r.vetoed.length:Int)),DF (vO true),DF (vO true),fun (vT:Value) (wT:World)=>∃ aT,vT = .pointer (some aT)∧PT (Enc.slice Enc.int) wT ([]++O) (.pointer (some aT)) (r.vetoed),fun (vT:Value) (wT:World)=>BG Enc.int wT ([]++O) vT (r.vetoed),fun (vT:Value) (wT:World)=>∃ aT,vT = .pointer (some aT)∧PT Enc.int wT ([]++O) (.pointer (some aT)) (r.vetoed[0]!),DF (vI (r.vetoed[0]!)),fun (vT:Value) (wT:World)=>∃ aT,vT = .pointer (some aT)∧PT Enc.int wT ([]++O) (.pointer (some aT)) (r.asked),DF (vI r.asked)] kR kR kR kR rfl rfl ⟨fun _ _ _ ⟨a,e,h⟩ k=>⟨a,e,h.mv (Mv.of_keep k)⟩,fun _ _ _ h k=>h.mv (Mv.of_keep k),kI,kI,kI,fun _ _ _ ⟨a,e,h⟩ k=>⟨a,e,h.mv (Mv.of_keep k)⟩,fun _ _ _ h k=>h.mv (Mv.of_keep k),fun _ _ _ ⟨a,e,h⟩ k=>⟨a,e,h.mv (Mv.of_keep k)⟩,kI,fun _ _ _ ⟨a,e,h⟩ k=>⟨a,e,h.mv (Mv.of_keep k)⟩,kI,trivial⟩ ⟨?_,?_,?_,?_,?_,?_,?_,?_,?_,?_,?_,trivial⟩ ?_
      ·intro F1 w1 k1 hf hd
       have k0:=(Keep.drew [] w2769).trans k1
       have m1:Mv ([]) w2769 ([]) w1:=Mv.of_keep k0
       have hp2755:=hp2755.mv m1
       obtain ⟨F2,rfl⟩:=AL (F:=F1) [(1,vP (some a2750))] ⟨hf 1 kR,trivial⟩
       exact AH rfl ((BM 4 ST (r.vetoed) rfl hp2755 (fun _ _ _ h=>GF h) fun a2803 hp2804=>(⟨(Keep.refl _ _),⟨a2803,rfl,hp2804⟩⟩)))
      ·intro F1 w1 k1 hf hd
       obtain ⟨a2805,e2807,hp2806⟩:∃ aX_,F1 20 = .pointer (some aX_)∧PT (Enc.slice Enc.int) w1 ([]++O) (.pointer (some aX_)) (r.vetoed):=hd 0 20 kR
       obtain ⟨F2,rfl⟩:=AL (F:=F1) [(20,vP (some a2805))] ⟨e2807,trivial⟩
       refine AH rfl ((BW U22_ rfl rfl hp2806 fun v2808 hl2809=>(?_)))
       have:=hl2809.len_le
       exact ⟨(Keep.refl _ _),hl2809⟩
      ·intro F1 w1 k1 hf hd
       obtain ⟨v2810,e2812,hl2811⟩:∃ v,F1 21=v∧BG Enc.int w1 ([]++O) v (r.vetoed):=⟨_,rfl,hd 1 21 kR⟩
       have:=hl2811.len_le
       obtain ⟨F2,rfl⟩:=AL (F:=F1) [(21,v2810)] ⟨e2812,trivial⟩
       exact AH rfl ((CG U22_ rfl hl2811 (⟨(Keep.refl _ _),rfl⟩)))
      ·intro F1 w1 k1 hf hd
       obtain ⟨F2,rfl⟩:=AL (F:=F1) [(22,vI (r.vetoed.length:Int))] ⟨hd 2 22 kR,trivial⟩
       refine AH rfl ((EI .i64 (r.vetoed.length:Int) (1:Int) rfl rfl (?_)))
       exact ⟨(Keep.refl _ _),congrArg vO (hb2781)⟩
      ·intro F1 w1 k1 hf hd
       obtain ⟨F2,rfl⟩:=AL (F:=F1) [(23,vO true)] ⟨hd 3 23 kR,trivial⟩
       exact AH rfl ((AE (vO true) rfl (⟨(Keep.refl _ _),rfl⟩)))
      ·intro F1 w1 k1 hf hd
       have k0:=(Keep.drew [] w2769).trans k1
       have m1:Mv ([]) w2769 ([]) w1:=Mv.of_keep k0
       have hp2755:=hp2755.mv m1
       obtain ⟨F2,rfl⟩:=AL (F:=F1) [(1,vP (some a2750)),(24,vO true)] ⟨hf 1 kR,hd 4 24 kR,trivial⟩
       exact HL rfl rfl ((BM 4 ST (r.vetoed) rfl hp2755 (fun _ _ _ h=>GF h) fun a2813 hp2814=>(⟨(Keep.refl _ _),⟨a2813,rfl,hp2814⟩⟩)))
      ·intro F1 w1 k1 hf hd
       obtain ⟨a2815,e2817,hp2816⟩:∃ aX_,F1 25 = .pointer (some aX_)∧PT (Enc.slice Enc.int) w1 ([]++O) (.pointer (some aX_)) (r.vetoed):=hd 5 25 kR
       obtain ⟨F2,rfl⟩:=AL (F:=F1) [(24,vO true),(25,vP (some a2815))] ⟨hd 4 24 kR,e2817,trivial⟩
       refine HL rfl rfl ((BW U22_ rfl rfl hp2816 fun v2818 hl2819=>(?_)))
       have:=hl2819.len_le
       exact ⟨(Keep.refl _ _),hl2819⟩
      ·intro F1 w1 k1 hf hd
       obtain ⟨v2820,e2822,hl2821⟩:∃ v,F1 26=v∧BG Enc.int w1 ([]++O) v (r.vetoed):=⟨_,rfl,hd 6 26 kR⟩
       have:=hl2821.len_le
       obtain ⟨F2,rfl⟩:=AL (F:=F1) [(24,vO true),(26,v2820)] ⟨hd 4 24 kR,e2822,trivial⟩
       exact HL rfl rfl ((DI U22_ MW .i64 (0:Int) 0 rfl rfl rfl hl2821 oM fun a2823 hp2824=>(⟨(Keep.refl _ _),⟨a2823,rfl,hp2824⟩⟩)))
      ·intro F1 w1 k1 hf hd
       obtain ⟨a2825,e2827,hp2826⟩:∃ aX_,F1 27 = .pointer (some aX_)∧PT Enc.int w1 ([]++O) (.pointer (some aX_)) (r.vetoed[0]!):=hd 7 27 kR
       obtain ⟨F2,rfl⟩:=AL (F:=F1) [(24,vO true),(27,vP (some a2825))] ⟨hd 4 24 kR,e2827,trivial⟩
       exact HL rfl rfl ((CE U3_ rfl rfl hp2826 (⟨(Keep.refl _ _),rfl⟩)))
      ·intro F1 w1 k1 hf hd
       have k0:=(Keep.drew [] w2769).trans k1
       have m1:Mv ([]) w2769 ([]) w1:=Mv.of_keep k0
       have hp2755:=hp2755.mv m1
       obtain ⟨F2,rfl⟩:=AL (F:=F1) [(1,vP (some a2750)),(24,vO true)] ⟨hf 1 kR,hd 4 24 kR,trivial⟩
       exact HL rfl rfl ((BM 1 NC (r.asked) rfl hp2755 (fun _ _ _ h=>MR h) fun a2828 hp2829=>(⟨(Keep.refl _ _),⟨a2828,rfl,hp2829⟩⟩)))
      ·intro F1 w1 k1 hf hd
       obtain ⟨a2830,e2832,hp2831⟩:∃ aX_,F1 29 = .pointer (some aX_)∧PT Enc.int w1 ([]++O) (.pointer (some aX_)) (r.asked):=hd 9 29 kR
       obtain ⟨F2,rfl⟩:=AL (F:=F1) [(24,vO true),(29,vP (some a2830))] ⟨hd 4 24 kR,e2832,trivial⟩
       exact HL rfl rfl ((CE U3_ rfl rfl hp2831 (⟨(Keep.refl _ _),rfl⟩)))
      intro F2834 w2835 k2833 hT2836 hF2837
      have s2838:=s2770.call k2833
      obtain ⟨F2,rfl⟩:=AL (F:=F2834) [(2,vO false),(37,undef),(24,vO true),(28,vI (r.vetoed[0]!)),(30,vI r.asked)] ⟨hF2837 2 kR,hF2837 37 kR,hT2836 4 24 kR (by decide),hT2836 8 28 kR (by decide),hT2836 10 30 kR (by decide),trivial⟩
      clear hT2836 hF2837
      refine BE rfl (BB (vs:=[vI (r.vetoed[0]!),vI r.asked]) LS (OL (O:=[]++O) (r.vetoed[0]!) r.asked w2835 s2838.lt) rfl s2838 fun v2842 w2843 s2844 m2845 k2846 r2847=>(?_))
      obtain rfl:=r2847
      refine AA (BK (vO (CT (r.vetoed[0]!) r.asked)) rfl rfl (AA (AD (vO (CT (r.vetoed[0]!) r.asked)) rfl (AF (AC (?_))))))
      refine AP (AR (AZ rfl (CS rfl rfl rfl) (?_)))
      have e:(EF r)=(CT (r.vetoed[0]!) r.asked):=by (simp_all [EF];done)
      exact ⟨_,rfl,s2844.keep,(by exact congrArg vO e.symm)⟩
    ·have hp2848:r.state≠(2:Int):=by simpa using hc2779
     refine AU (AC (?_))
     refine AG (?_)
     refine AB kR (AA (BM 4 ST (r.vetoed) rfl hp2755 (fun _ _ _ h=>GF h) fun a2849 hp2850=>(AA (BW U22_ rfl rfl hp2850 fun v2851 hl2852=>(?_)))))
     have:=hl2852.len_le
     refine AA (CG U22_ rfl hl2852 (AA (EI .i64 (r.vetoed.length:Int) (0:Int) rfl rfl (AA (AD (vO ((r.vetoed.length:Int) == (0:Int))) rfl (AF (AC (?_))))))))
     refine AP (AZ rfl (CS rfl rfl rfl) (?_))
     have e:(EF r)=((r.vetoed.length:Int) == (0:Int)):=by (unfold EF;((repeat ((refine (if_neg ?_).trans ?_;solve|(simp only [dbs];(repeat (omega)))|(rw [Bool.not_eq_true];simp only [dbs];((repeat' apply And.intro) <;> omega)))));rfl))
     exact ⟨_,rfl,s2770.keep,(by exact congrArg vO e.symm)⟩
  ·have hp2853:(2:Int)<r.state:=by simpa using hb2762
   refine AT rfl (AT rfl (AT rfl (AT rfl (AA (BK (vO true) rfl rfl (AF (AC (?_))))))))
   refine AO true rfl rfl (fun _=>?_) (fun h=>by cases h)
   refine AG (?_)
   refine AB kR (AA (AD (vO false) rfl (AF (AC (?_)))))
   refine AP (AR (AZ rfl (CS rfl rfl rfl) (?_)))
   have e:(EF r)=false:=by (unfold EF;((repeat ((refine (if_pos ?_).trans ?_;solve|(simp only [dbs];(repeat (omega))))));rfl))
   exact ⟨_,rfl,s2752.keep,(by exact congrArg vO e.symm)⟩
 ·have hp2854:r.state<(0:Int):=by simpa using hb2758
  refine AT rfl (AT rfl (AT rfl (AA (BK (vO true) rfl rfl (AA (AE (vO true) rfl (AT rfl (AT rfl (AT rfl (AT rfl (AA (BK (vO true) rfl rfl (AF (AC (?_)))))))))))))))
  refine AO true rfl rfl (fun _=>?_) (fun h=>by cases h)
  refine AG (?_)
  refine AB kR (AA (AD (vO false) rfl (AF (AC (?_)))))
  refine AP (AR (AZ rfl (CS rfl rfl rfl) (?_)))
  have e:(EF r)=false:=by (unfold EF;((repeat ((refine (if_pos ?_).trans ?_;solve|(simp only [dbs];(repeat (omega))))));rfl))
  exact ⟨_,rfl,s2752.keep,(by exact congrArg vO e.symm)⟩
open Go.Fw Go.RowKit
set_option maxHeartbeats 4000000 in
set_option maxRecDepth 100000 in
theorem OC {O:List Nat} (c_cs:List Value) (c:Circle) (w:World) (h_c:Enc.circle.rd w O c_cs c) (hO:∀ b∈O,b<w.heap.size):CF Try.prog 31 [.agg c_cs.toArray] w (fun v _=>v=vI (AS c)):= by
 have h_c:Enc.circle.rd w ([]++O) c_cs c:=h_c
 have s0:St w O w []:=St.start hO
 refine BQ 95 Try.func31 rfl rfl oT (fun F0=>?_)
 refine AG (?_)
 refine AB kR (AA (DO (E:=Enc.circle) (vA c_cs.toArray) (c_cs) c rfl rfl h_c s0 fun a2855 w2856 s2857 m2858 k2859 hp2860=>(?_)))
 refine AA (AD (vI 0) rfl (AF (AC (?_))))
 refine AG (?_)
 refine AB kR (AA (BM 3 JW (c.guardians) rfl hp2860 (fun _ _ _ h=>EQ h) fun a2861 hp2862=>(AA (BW U22_ rfl rfl hp2862 fun v2863 hl2864=>(?_)))))
 have:=hl2864.len_le
 refine AA (CG U22_ rfl hl2864 (AA (AD (vI (c.guardians.length:Int)) rfl (AF (AC (?_))))))
 refine AG (?_)
 refine AG (?_)
 refine AB kR (AA (BM 0 JG (c.epoch) rfl hp2860 (fun _ _ _ h=>HE h) fun a2865 hp2866=>(AA (CE U3_ rfl rfl hp2866 (AA (DW .i64 c.epoch (0:Int) rfl rfl (AA (AE (vO (decide (c.epoch<(0:Int)))) rfl (?_)))))))))
 cases hb2867:(decide (c.epoch<(0:Int)))
 ·have hp2868:(0:Int)≤c.epoch:=by simpa using hb2867
  refine BE rfl (BM 0 JG (c.epoch) rfl hp2860 (fun _ _ _ h=>HE h) fun a2869 hp2870=>(BE rfl (CE U3_ rfl rfl hp2870 (BE rfl (FW .i64 c.epoch (1048576:Int) rfl rfl (AA (BX (vO (decide ((1048576:Int)<c.epoch))) rfl rfl (AA (AE (vO (decide ((1048576:Int)<c.epoch))) rfl (?_))))))))))
  cases hb2871:(decide ((1048576:Int)<c.epoch))
  ·have hp2872:c.epoch≤(1048576:Int):=by simpa using hb2871
   refine BE rfl (AE (vI (c.guardians.length:Int)) rfl (BE rfl (DW .i64 (c.guardians.length:Int) (1:Int) rfl rfl (AA (BX (vO (decide ((c.guardians.length:Int)<(1:Int)))) rfl rfl (AA (AE (vO (decide ((c.guardians.length:Int)<(1:Int)))) rfl (?_))))))))
   cases hb2873:(decide ((c.guardians.length:Int)<(1:Int)))
   ·have hp2874:(1:Int)≤(c.guardians.length:Int):=by simpa using hb2873
    refine BE rfl (AE (vI (c.guardians.length:Int)) rfl (BE rfl (FW .i64 (c.guardians.length:Int) (8:Int) rfl rfl (AA (BX (vO (decide ((8:Int)<(c.guardians.length:Int)))) rfl rfl (AA (AE (vO (decide ((8:Int)<(c.guardians.length:Int)))) rfl (?_))))))))
    cases hb2875:(decide ((8:Int)<(c.guardians.length:Int)))
    ·have hp2876:(c.guardians.length:Int)≤(8:Int):=by simpa using hb2875
     refine BE rfl (BM 3 JW (c.guardians) rfl hp2860 (fun _ _ _ h=>EQ h) fun a2877 hp2878=>(BE rfl (BW U22_ rfl rfl hp2878 fun v2879 hl2880=>(?_))))
     have:=hl2880.len_le
     refine BE rfl (BB (vs:=[v2879]) enter_64 (c_incr (O:=[]++O) v2879 c.guardians w2856 hl2880 s2857.lt) rfl s2857 fun v2881 w2882 s2883 m2884 k2885 r2886=>(?_))
     obtain rfl:=r2886
     have hp2860:=hp2860.mv m2884
     refine BE rfl (HC (HM c.guardians) rfl (AA (BX (vO (!(HM c.guardians))) rfl rfl (AA (AE (vO (!(HM c.guardians))) rfl (?_))))))
     cases hb2887:(!(HM c.guardians))
     ·have hp2888:(HM c.guardians)=true:=by simpa using hb2887
      refine BE rfl (BM 1 NI (c.threshold) rfl hp2860 (fun _ _ _ h=>HH h) fun a2889 hp2890=>(BE rfl (CE U3_ rfl rfl hp2890 (BE rfl (DW .i64 c.threshold (1:Int) rfl rfl (AA (BX (vO (decide (c.threshold<(1:Int)))) rfl rfl (AA (AE (vO (decide (c.threshold<(1:Int)))) rfl (?_))))))))))
      cases hb2891:(decide (c.threshold<(1:Int)))
      ·have hp2892:(1:Int)≤c.threshold:=by simpa using hb2891
       refine BE rfl (BM 1 NI (c.threshold) rfl hp2860 (fun _ _ _ h=>HH h) fun a2893 hp2894=>(BE rfl (CE U3_ rfl rfl hp2894 (BE rfl (AE (vI (c.guardians.length:Int)) rfl (BE rfl (FW .i64 c.threshold (c.guardians.length:Int) rfl rfl (AA (BX (vO (decide ((c.guardians.length:Int)<c.threshold))) rfl rfl (AA (AE (vO (decide ((c.guardians.length:Int)<c.threshold))) rfl (?_))))))))))))
       cases hb2895:(decide ((c.guardians.length:Int)<c.threshold))
       ·have hp2896:c.threshold≤(c.guardians.length:Int):=by simpa using hb2895
        refine BE rfl (BM 2 f_28_2 (c.wait) rfl hp2860 (fun _ _ _ h=>IW h) fun a2897 hp2898=>(BE rfl (CE U3_ rfl rfl hp2898 (BE rfl (BB (vs:=[vI c.wait,vI 0]) LS (OL (O:=[]++O) c.wait (0:Int) w2882 s2883.lt) rfl s2883 fun v2899 w2900 s2901 m2902 k2903 r2904=>(?_))))))
        obtain rfl:=r2904
        have hp2860:=hp2860.mv m2902
        refine BE rfl (HC (CT c.wait (0:Int)) rfl (AA (BX (vO (!(CT c.wait (0:Int)))) rfl rfl (AA (AE (vO (!(CT c.wait (0:Int)))) rfl (?_))))))
        cases hb2905:(!(CT c.wait (0:Int)))
        ·have hp2906:(CT c.wait (0:Int))=true:=by simpa using hb2905
         refine BE rfl (BM 4 DK (c.recs) rfl hp2860 (fun _ _ _ h=>CJ h) fun a2907 hp2908=>(BE rfl (BW U26_ rfl rfl hp2908 fun v2909 hl2910=>(?_))))
         have:=hl2910.len_le
         refine BE rfl (CG U26_ rfl hl2910 (BE rfl (FW .i64 (c.recs.length:Int) (1024:Int) rfl rfl (AA (BX (vO (decide ((1024:Int)<(c.recs.length:Int)))) rfl rfl (AF (AC (?_))))))))
         refine AO (decide ((1024:Int)<(c.recs.length:Int))) rfl rfl (fun hc2911=>?_) (fun hc2911=>?_)
         ·have hp2912:(1024:Int)<(c.recs.length:Int):=by simpa using hc2911
          refine AG (?_)
          refine AB kR (AA (AD (vI 450) rfl (AF (AC (?_)))))
          refine AP (AR (AZ rfl (CS rfl rfl rfl) (?_)))
          have e:(AS c)=(450:Int):=by (unfold AS;((repeat ((refine (if_pos ?_).trans ?_;solve|(simp only [DJ,ES,dbs];(repeat (omega))))));rfl))
          exact ⟨_,rfl,s2901.keep,by rw [e];exact rfl⟩
         ·have hp2913:(c.recs.length:Int)≤(1024:Int):=by simpa using hc2911
          refine AU (AC (?_))
          refine AG (?_)
          refine AB kR (AA (AD (vI 0) rfl (AF (AC (?_)))))
          refine AG (?_)
          refine AG (?_)
          refine AB kR (AA (BM 4 DK (c.recs) rfl hp2860 (fun _ _ _ h=>CJ h) fun a2914 hp2915=>(AA (BW U26_ rfl rfl hp2915 fun v2916 hl2917=>(?_)))))
          have:=hl2917.len_le
          refine AA (CG U26_ rfl hl2917 (AA (AE (vI 0) rfl (AF (AC (?_))))))
          refine BR (?_)
          refine DH (fun mI FI wI=>∃ (k:Nat) (B:List Nat),k≤c.recs.length∧AS c=FG (fun k=>if ES c.recs k then some 450 else none) 0 k (c.recs.length - k)∧mI=c.recs.length - k∧(∃ F1,FI=FT F1 [(1,vP (some a2855)),(4,vI (EM c.recs k)),(56,v2916),(57,vI (c.recs.length:Int)),(58,vI ((k:Nat):Int)),(95,undef)])∧St w O wI B∧PT Enc.circle wI (B++O) (.pointer (some a2855)) (c)∧BG Enc.recovery wI (B++O) (v2916) (c.recs)) (c.recs.length - (0)) ?_ ?_
          ·exact ⟨(0),[],oM,(by unfold AS;((repeat ((refine (if_neg ?_).trans ?_;solve|(simp only [DJ,ES,dbs];(repeat (first|omega|assumption|(right;first|omega|assumption|(constructor <;> first|omega|assumption))|left)))|(rw [Bool.not_eq_true];simp only [DJ,ES,dbs];((repeat' apply And.intro) <;> omega)))));rfl)),rfl,⟨_,AX _ ⟨rfl,(by rfl),rfl,rfl,(by rfl),rfl,trivial⟩⟩,s2901,hp2860,hl2917⟩
          ·intro ml0 F wl0 hI
           clear hp2860 hl2917
           obtain ⟨k,Bl0,hr0_0,hr0_1,hm0,⟨Fl0,rfl⟩,sl0,hp2860,hl2917⟩:=hI
           refine AG (?_)
           refine AB kR (AA (DW .i64 ((k:Nat):Int) (c.recs.length:Int) rfl rfl (AF (AC (?_)))))
           refine AG (?_)
           refine AO (decide (((k:Nat):Int)<(c.recs.length:Int))) rfl rfl (fun hc2918=>?_) (fun hc2918=>?_)
           ·have hp2919:((k:Nat):Int)<(c.recs.length:Int):=by simpa using hc2918
            refine AU (AC (?_))
            refine AG (?_)
            refine BR (?_)
            refine AG (?_)
            refine AB kR (AA (AE (vI ((k:Nat):Int)) rfl (AA (DI U26_ GA .i64 ((k:Nat):Int) k rfl rfl rfl hl2917 oM fun a2920 hp2921=>(AA (CR U68_ rfl GA rfl hp2921 fun cs2922 hs2923=>(AA (CX [vI 0,vI 0,vI 0,nS,nS] NS rfl sl0 fun b2924 w2925 e2930 s2926 m2927 k2928 bx2929=>(?_)))))))))
            clear e2930
            have hp2860:=hp2860.mv m2927
            have hl2917:=hl2917.mv m2927
            have hs2923:Enc.recovery.rd w2925 ((b2924 :: Bl0)++O) cs2922 (c.recs[k]!):=Enc.mv Enc.recovery (x:=c.recs[k]!) hs2923 m2927
            refine AA (AD (vI ((k:Nat):Int)) rfl (?_))
            obtain ⟨d2936,d2938,rfl,hd2937,hd2939⟩:=hs2923
            have:=hd2937.len_le
            have:=hd2939.len_le
            refine BY (BC (vs:=[vI ((c.recs[k]!).no),vI ((c.recs[k]!).asked),vI ((c.recs[k]!).state),d2936,d2938]) (.agg #[vI ((c.recs[k]!).no),vI ((c.recs[k]!).asked),vI ((c.recs[k]!).state),d2936,d2938]) rfl rfl rfl GA (fun u hu=>by simp only [List.mem_cons,List.not_mem_nil,or_false] at hu;rcases hu with rfl|rfl|rfl|rfl|rfl <;> first|rfl|exact hd2937.oneCell|exact hd2939.oneCell) (by repeat (constructor)) bx2929 oT s2926 fun w2931 s2932 m2933 k2934 bx2935=>(?_))
            have hp2860:=hp2860.mv m2933
            have hl2917:=hl2917.mv m2933
            have hd2937:=hd2937.mv m2933
            have hd2939:=hd2939.mv m2933
            refine AF (AC (?_))
            refine AG (?_)
            refine AG (?_)
            refine AB kR (AA (BD 0 f_68_0 rfl (AA (BI U3_ rfl (vI ((c.recs[k]!).no)) rfl bx2935 rfl (AA (AE (vI ((k:Nat):Int)) rfl (AA (CV .i64 ((c.recs[k]!).no) ((k:Nat):Int) rfl rfl (AA (AE (vO (((c.recs[k]!).no) != ((k:Nat):Int))) rfl (?_)))))))))))
            cases hb2940:(((c.recs[k]!).no) != ((k:Nat):Int))
            ·have hp2941:(c.recs[k]!).no=((k:Nat):Int):=by simpa using hb2940
             refine BE rfl (BD 1 NC rfl (BE rfl (BI U3_ rfl (vI ((c.recs[k]!).asked)) rfl bx2935 rfl (BE rfl (AE (vI (EM c.recs k)) rfl (BE rfl (BB (vs:=[vI ((c.recs[k]!).asked),vI (EM c.recs k)]) LS (OL (O:=(b2924 :: Bl0)++O) ((c.recs[k]!).asked) (EM c.recs k) w2931 s2932.lt) rfl s2932 fun v2942 w2943 s2944 m2945 k2946 r2947=>(?_))))))))
             obtain rfl:=r2947
             have hp2860:=hp2860.mv m2945
             have hl2917:=hl2917.mv m2945
             have hd2937:=hd2937.mv m2945
             have hd2939:=hd2939.mv m2945
             have bx2935:=bx2935.keep k2946 (by simp)
             refine BE rfl (HC (CT ((c.recs[k]!).asked) (EM c.recs k)) rfl (AA (BX (vO (!(CT ((c.recs[k]!).asked) (EM c.recs k)))) rfl rfl (AA (AE (vO (!(CT ((c.recs[k]!).asked) (EM c.recs k)))) rfl (?_))))))
             cases hb2948:(!(CT ((c.recs[k]!).asked) (EM c.recs k)))
             ·have hp2949:(CT ((c.recs[k]!).asked) (EM c.recs k))=true:=by simpa using hb2948
              refine BE rfl (BN (vs:=[vI ((c.recs[k]!).no),vI ((c.recs[k]!).asked),vI ((c.recs[k]!).state),d2936,d2938]) U68_ rfl GA rfl bx2935 rfl (BE rfl (BB (vs:=[vA #[vI ((c.recs[k]!).no),vI ((c.recs[k]!).asked),vI ((c.recs[k]!).state),d2936,d2938]]) enter_66 (c_recOK (O:=(b2924 :: Bl0)++O) [vI ((c.recs[k]!).no),vI ((c.recs[k]!).asked),vI ((c.recs[k]!).state),d2936,d2938] (c.recs[k]!) w2943 ⟨_,_,rfl,hd2937,hd2939⟩ s2944.lt) rfl s2944 fun v2950 w2951 s2952 m2953 k2954 r2955=>(?_))))
              obtain rfl:=r2955
              have hp2860:=hp2860.mv m2953
              have hl2917:=hl2917.mv m2953
              have bx2935:=bx2935.keep k2954 (by simp)
              refine BE rfl (HC (EF (c.recs[k]!)) rfl (AA (BX (vO (!(EF (c.recs[k]!)))) rfl rfl (AA (AE (vO (!(EF (c.recs[k]!)))) rfl (?_))))))
              cases hb2956:(!(EF (c.recs[k]!)))
              ·have hp2957:(EF (c.recs[k]!))=true:=by simpa using hb2956
               refine BE rfl (BD 2 KD rfl (BE rfl (BI U3_ rfl (vI ((c.recs[k]!).state)) rfl bx2935 rfl (BE rfl (EI .i64 ((c.recs[k]!).state) (0:Int) rfl rfl (BE rfl (AE (vO (((c.recs[k]!).state) == (0:Int))) rfl (?_))))))))
               cases hb2958:(((c.recs[k]!).state) == (0:Int))
               ·have hp2959:(c.recs[k]!).state≠(0:Int):=by simpa using hb2958
                refine AT rfl (AT rfl (AT rfl (AT rfl (AT rfl (AT rfl (BE rfl (BX (vO false) rfl rfl (AA (BX (vO false) rfl rfl (AF (AC (?_))))))))))))
                refine AO false rfl rfl (fun h=>by cases h) (fun _=>?_)
                refine AU (AC (?_))
                refine AB kR (AA (BD 1 NC rfl (AA (BI U3_ rfl (vI ((c.recs[k]!).asked)) rfl bx2935 rfl (AA (AD (vI ((c.recs[k]!).asked)) rfl (AF (CI (AC (?_))))))))))
                refine AB kR (AA (DC .i64 ((k:Nat):Int) (1:Int) (((k+1:Nat):Int)) rfl rfl (FO oM oM) (AA (AE (vI ((k+1:Nat):Int)) rfl (AF (AC (?_)))))))
                exact ⟨_,oM,(k+1),(b2924 :: Bl0),oM,(hr0_1.trans (GJ oM (by ((repeat ((refine (if_neg ?_).trans ?_;solve|(simp only [DJ,ES,dbs];(repeat (first|omega|assumption|(right;first|omega|assumption|(constructor <;> first|omega|assumption))|left)))|(rw [Bool.not_eq_true];simp only [DJ,ES,dbs];((repeat' apply And.intro) <;> omega)))));rfl)))),rfl,⟨_,AX _ ⟨rfl,(by rfl),rfl,rfl,(by rfl),rfl,trivial⟩⟩,s2952,hp2860,hl2917⟩
               ·have hp2960:(c.recs[k]!).state=(0:Int):=by simpa using hb2958
                refine BE rfl (AE (vI ((k:Nat):Int)) rfl (BE rfl (BM 4 DK (c.recs) rfl hp2860 (fun _ _ _ h=>CJ h) fun a2961 hp2962=>(BE rfl (BW U26_ rfl rfl hp2962 fun v2963 hl2964=>(?_))))))
                have:=hl2964.len_le
                refine BE rfl (CG U26_ rfl hl2964 (BE rfl (HW .i64 (c.recs.length:Int) (1:Int) ((c.recs.length:Int) - (1:Int)) rfl rfl (FO oM oM) (BE rfl (DW .i64 ((k:Nat):Int) ((c.recs.length:Int) - (1:Int)) rfl rfl (BE rfl (BK (vO (decide (((k:Nat):Int)<(c.recs.length:Int) - (1:Int)))) rfl rfl (AA (BX (vO (decide (((k:Nat):Int)<(c.recs.length:Int) - (1:Int)))) rfl rfl (AF (AC (?_))))))))))))
                refine AO (decide (((k:Nat):Int)<(c.recs.length:Int) - (1:Int))) rfl rfl (fun hc2965=>?_) (fun hc2965=>?_)
                ·have hp2966:((k:Nat):Int)<(c.recs.length:Int) - (1:Int):=by simpa using hc2965
                 refine AG (?_)
                 refine AB kR (AA (AD (vI 450) rfl (AF (AC (?_)))))
                 refine AP (AR (CB (AR (AR (CB (AR (AZ rfl (CS rfl rfl rfl) (?_))))))))
                 have e:(AS c)=(450:Int):=by (rw [hr0_1];exact DQ oM (by ((repeat ((refine (if_pos ?_).trans ?_;solve|(simp only [DJ,ES,dbs];(repeat (omega))))));rfl)))
                 exact ⟨_,rfl,s2952.keep,by rw [e];exact rfl⟩
                ·have hp2967:(c.recs.length:Int) - (1:Int)≤((k:Nat):Int):=by simpa using hc2965
                 refine AU (AC (?_))
                 refine AB kR (AA (BD 1 NC rfl (AA (BI U3_ rfl (vI ((c.recs[k]!).asked)) rfl bx2935 rfl (AA (AD (vI ((c.recs[k]!).asked)) rfl (AF (CI (AC (?_))))))))))
                 refine AB kR (AA (DC .i64 ((k:Nat):Int) (1:Int) (((k+1:Nat):Int)) rfl rfl (FO oM oM) (AA (AE (vI ((k+1:Nat):Int)) rfl (AF (AC (?_)))))))
                 exact ⟨_,oM,(k+1),(b2924 :: Bl0),oM,(hr0_1.trans (GJ oM (by ((repeat ((refine (if_neg ?_).trans ?_;solve|(simp only [DJ,ES,dbs];(repeat (first|omega|assumption|(right;first|omega|assumption|(constructor <;> first|omega|assumption))|left)))|(rw [Bool.not_eq_true];simp only [DJ,ES,dbs];((repeat' apply And.intro) <;> omega)))));rfl)))),rfl,⟨_,AX _ ⟨rfl,(by rfl),rfl,rfl,(by rfl),rfl,trivial⟩⟩,s2952,hp2860,hl2917⟩
              ·have hp2968:(EF (c.recs[k]!))=false:=by simpa using hb2956
               refine AT rfl (AT rfl (AT rfl (AT rfl (HO rfl (HO rfl (HO rfl (HO rfl (HO rfl (HO rfl (AT rfl (AA (BK (vO true) rfl rfl (AF (AC (?_)))))))))))))))
               refine AO true rfl rfl (fun _=>?_) (fun h=>by cases h)
               refine AG (?_)
               refine AB kR (AA (AD (vI 450) rfl (AF (AC (?_)))))
               refine AP (AR (CB (AR (AR (CB (AR (AZ rfl (CS rfl rfl rfl) (?_))))))))
               have e:(AS c)=(450:Int):=by (rw [hr0_1];exact DQ oM (by ((repeat ((refine (if_pos ?_).trans ?_;solve|(simp only [DJ,ES,dbs];(repeat (first|(right;omega)|left))))));rfl)))
               exact ⟨_,rfl,s2952.keep,by rw [e];exact rfl⟩
             ·have hp2969:(CT ((c.recs[k]!).asked) (EM c.recs k))=false:=by simpa using hb2948
              refine AT rfl (AT rfl (AT rfl (AA (BK (vO true) rfl rfl (AA (AE (vO true) rfl (AT rfl (AT rfl (AT rfl (AT rfl (HO rfl (HO rfl (HO rfl (HO rfl (HO rfl (HO rfl (AT rfl (AA (BK (vO true) rfl rfl (AF (AC (?_))))))))))))))))))))))
              refine AO true rfl rfl (fun _=>?_) (fun h=>by cases h)
              refine AG (?_)
              refine AB kR (AA (AD (vI 450) rfl (AF (AC (?_)))))
              refine AP (AR (CB (AR (AR (CB (AR (AZ rfl (CS rfl rfl rfl) (?_))))))))
              have e:(AS c)=(450:Int):=by (rw [hr0_1];exact DQ oM (by ((repeat ((refine (if_pos ?_).trans ?_;solve|(simp only [DJ,ES,dbs];(repeat (first|(right;omega)|left))))));rfl)))
              exact ⟨_,rfl,s2944.keep,by rw [e];exact rfl⟩
            ·have hp2970:(c.recs[k]!).no≠((k:Nat):Int):=by simpa using hb2940
             refine AT rfl (AT rfl (AT rfl (AT rfl (AT rfl (AA (BK (vO true) rfl rfl (AA (AE (vO true) rfl (AT rfl (AT rfl (AT rfl (AA (BK (vO true) rfl rfl (AA (AE (vO true) rfl (AT rfl (AT rfl (AT rfl (AT rfl (HO rfl (HO rfl (HO rfl (HO rfl (HO rfl (HO rfl (AT rfl (AA (BK (vO true) rfl rfl (AF (AC (?_)))))))))))))))))))))))))))))))
             refine AO true rfl rfl (fun _=>?_) (fun h=>by cases h)
             refine AG (?_)
             refine AB kR (AA (AD (vI 450) rfl (AF (AC (?_)))))
             refine AP (AR (CB (AR (AR (CB (AR (AZ rfl (CS rfl rfl rfl) (?_))))))))
             have e:(AS c)=(450:Int):=by (rw [hr0_1];exact DQ oM (by ((repeat ((refine (if_pos ?_).trans ?_;solve|(simp only [DJ,ES,dbs];(repeat (omega))))));rfl)))
             exact ⟨_,rfl,s2932.keep,by rw [e];exact rfl⟩
           ·have hp2971:(c.recs.length:Int)≤((k:Nat):Int):=by simpa using hc2918
            refine DE (CC (CC (CY (AC (?_)))))
            refine AG (?_)
            refine AB kR (AA (AD (vI 0) rfl (AF (AC (?_)))))
            refine AP (AZ rfl (CS rfl rfl rfl) (?_))
            have e:(AS c)=(0:Int):=by (rw [hr0_1];exact HD oM)
            exact ⟨_,rfl,sl0.keep,by rw [e];exact rfl⟩
        ·have hp2972:(CT c.wait (0:Int))=false:=by simpa using hb2905
         refine AT rfl (AT rfl (AT rfl (AT rfl (AA (BK (vO true) rfl rfl (AF (AC (?_))))))))
         refine AO true rfl rfl (fun _=>?_) (fun h=>by cases h)
         refine AG (?_)
         refine AB kR (AA (AD (vI 450) rfl (AF (AC (?_)))))
         refine AP (AR (AZ rfl (CS rfl rfl rfl) (?_)))
         have e:(AS c)=(450:Int):=by (unfold AS;((repeat ((refine (if_pos ?_).trans ?_;solve|(simp only [DJ,ES,dbs];(repeat (first|(right;omega)|left))))));rfl))
         exact ⟨_,rfl,s2901.keep,by rw [e];exact rfl⟩
       ·have hp2973:(c.guardians.length:Int)<c.threshold:=by simpa using hb2895
        refine AT rfl (AT rfl (AT rfl (AT rfl (AA (BK (vO true) rfl rfl (AA (AE (vO true) rfl (AT rfl (AT rfl (AT rfl (AT rfl (AA (BK (vO true) rfl rfl (AF (AC (?_))))))))))))))))
        refine AO true rfl rfl (fun _=>?_) (fun h=>by cases h)
        refine AG (?_)
        refine AB kR (AA (AD (vI 450) rfl (AF (AC (?_)))))
        refine AP (AR (AZ rfl (CS rfl rfl rfl) (?_)))
        have e:(AS c)=(450:Int):=by (unfold AS;((repeat ((refine (if_pos ?_).trans ?_;solve|(simp only [DJ,ES,dbs];(repeat (omega))))));rfl))
        exact ⟨_,rfl,s2883.keep,by rw [e];exact rfl⟩
      ·have hp2974:c.threshold<(1:Int):=by simpa using hb2891
       refine AT rfl (AT rfl (AT rfl (AT rfl (AA (BK (vO true) rfl rfl (AA (AE (vO true) rfl (AT rfl (AT rfl (AT rfl (AT rfl (AA (BK (vO true) rfl rfl (AA (AE (vO true) rfl (AT rfl (AT rfl (AT rfl (AT rfl (AA (BK (vO true) rfl rfl (AF (AC (?_))))))))))))))))))))))))
       refine AO true rfl rfl (fun _=>?_) (fun h=>by cases h)
       refine AG (?_)
       refine AB kR (AA (AD (vI 450) rfl (AF (AC (?_)))))
       refine AP (AR (AZ rfl (CS rfl rfl rfl) (?_)))
       have e:(AS c)=(450:Int):=by (unfold AS;((repeat ((refine (if_pos ?_).trans ?_;solve|(simp only [DJ,ES,dbs];(repeat (omega))))));rfl))
       exact ⟨_,rfl,s2883.keep,by rw [e];exact rfl⟩
     ·have hp2975:(HM c.guardians)=false:=by simpa using hb2887
      refine AT rfl (AT rfl (AT rfl (AA (BK (vO true) rfl rfl (AA (AE (vO true) rfl (AT rfl (AT rfl (AT rfl (AT rfl (AA (BK (vO true) rfl rfl (AA (AE (vO true) rfl (AT rfl (AT rfl (AT rfl (AT rfl (AA (BK (vO true) rfl rfl (AA (AE (vO true) rfl (AT rfl (AT rfl (AT rfl (AT rfl (AA (BK (vO true) rfl rfl (AF (AC (?_)))))))))))))))))))))))))))))))
      refine AO true rfl rfl (fun _=>?_) (fun h=>by cases h)
      refine AG (?_)
      refine AB kR (AA (AD (vI 450) rfl (AF (AC (?_)))))
      refine AP (AR (AZ rfl (CS rfl rfl rfl) (?_)))
      have e:(AS c)=(450:Int):=by (unfold AS;((repeat ((refine (if_pos ?_).trans ?_;solve|(simp only [DJ,ES,dbs];(repeat (first|(right;omega)|left))))));rfl))
      exact ⟨_,rfl,s2883.keep,by rw [e];exact rfl⟩
    ·have hp2976:(8:Int)<(c.guardians.length:Int):=by simpa using hb2875
     refine AT rfl (AT rfl (AT rfl (AT rfl (AA (BK (vO true) rfl rfl (AA (AE (vO true) rfl (AT rfl (AT rfl (AT rfl (AA (BK (vO true) rfl rfl (AA (AE (vO true) rfl (AT rfl (AT rfl (AT rfl (AT rfl (AA (BK (vO true) rfl rfl (AA (AE (vO true) rfl (AT rfl (AT rfl (AT rfl (AT rfl (AA (BK (vO true) rfl rfl (AA (AE (vO true) rfl (AT rfl (AT rfl (AT rfl (AT rfl (AA (BK (vO true) rfl rfl (AF (AC (?_)))))))))))))))))))))))))))))))))))))))
     refine AO true rfl rfl (fun _=>?_) (fun h=>by cases h)
     refine AG (?_)
     refine AB kR (AA (AD (vI 450) rfl (AF (AC (?_)))))
     refine AP (AR (AZ rfl (CS rfl rfl rfl) (?_)))
     have e:(AS c)=(450:Int):=by (unfold AS;((repeat ((refine (if_pos ?_).trans ?_;solve|(simp only [DJ,ES,dbs];(repeat (omega))))));rfl))
     exact ⟨_,rfl,s2857.keep,by rw [e];exact rfl⟩
   ·have hp2977:(c.guardians.length:Int)<(1:Int):=by simpa using hb2873
    refine AT rfl (AT rfl (AA (BK (vO true) rfl rfl (AA (AE (vO true) rfl (AT rfl (AT rfl (AT rfl (AT rfl (AA (BK (vO true) rfl rfl (AA (AE (vO true) rfl (AT rfl (AT rfl (AT rfl (AA (BK (vO true) rfl rfl (AA (AE (vO true) rfl (AT rfl (AT rfl (AT rfl (AT rfl (AA (BK (vO true) rfl rfl (AA (AE (vO true) rfl (AT rfl (AT rfl (AT rfl (AT rfl (AA (BK (vO true) rfl rfl (AA (AE (vO true) rfl (AT rfl (AT rfl (AT rfl (AT rfl (AA (BK (vO true) rfl rfl (AF (AC (?_)))))))))))))))))))))))))))))))))))))))))))))
    refine AO true rfl rfl (fun _=>?_) (fun h=>by cases h)
    refine AG (?_)
    refine AB kR (AA (AD (vI 450) rfl (AF (AC (?_)))))
    refine AP (AR (AZ rfl (CS rfl rfl rfl) (?_)))
    have e:(AS c)=(450:Int):=by (unfold AS;((repeat ((refine (if_pos ?_).trans ?_;solve|(simp only [DJ,ES,dbs];(repeat (omega))))));rfl))
    exact ⟨_,rfl,s2857.keep,by rw [e];exact rfl⟩
  ·have hp2978:(1048576:Int)<c.epoch:=by simpa using hb2871
   refine AT rfl (AT rfl (AA (BK (vO true) rfl rfl (AA (AE (vO true) rfl (AT rfl (AT rfl (AA (BK (vO true) rfl rfl (AA (AE (vO true) rfl (AT rfl (AT rfl (AT rfl (AT rfl (AA (BK (vO true) rfl rfl (AA (AE (vO true) rfl (AT rfl (AT rfl (AT rfl (AA (BK (vO true) rfl rfl (AA (AE (vO true) rfl (AT rfl (AT rfl (AT rfl (AT rfl (AA (BK (vO true) rfl rfl (AA (AE (vO true) rfl (AT rfl (AT rfl (AT rfl (AT rfl (AA (BK (vO true) rfl rfl (AA (AE (vO true) rfl (AT rfl (AT rfl (AT rfl (AT rfl (AA (BK (vO true) rfl rfl (AF (AC (?_)))))))))))))))))))))))))))))))))))))))))))))))))))
   refine AO true rfl rfl (fun _=>?_) (fun h=>by cases h)
   refine AG (?_)
   refine AB kR (AA (AD (vI 450) rfl (AF (AC (?_)))))
   refine AP (AR (AZ rfl (CS rfl rfl rfl) (?_)))
   have e:(AS c)=(450:Int):=by (unfold AS;((repeat ((refine (if_pos ?_).trans ?_;solve|(simp only [DJ,ES,dbs];(repeat (omega))))));rfl))
   exact ⟨_,rfl,s2857.keep,by rw [e];exact rfl⟩
 ·have hp2979:c.epoch<(0:Int):=by simpa using hb2867
  refine AT rfl (AT rfl (AT rfl (AA (BK (vO true) rfl rfl (AA (AE (vO true) rfl (AT rfl (AT rfl (AA (BK (vO true) rfl rfl (AA (AE (vO true) rfl (AT rfl (AT rfl (AA (BK (vO true) rfl rfl (AA (AE (vO true) rfl (AT rfl (AT rfl (AT rfl (AT rfl (AA (BK (vO true) rfl rfl (AA (AE (vO true) rfl (AT rfl (AT rfl (AT rfl (AA (BK (vO true) rfl rfl (AA (AE (vO true) rfl (AT rfl (AT rfl (AT rfl (AT rfl (AA (BK (vO true) rfl rfl (AA (AE (vO true) rfl (AT rfl (AT rfl (AT rfl (AT rfl (AA (BK (vO true) rfl rfl (AA (AE (vO true) rfl (AT rfl (AT rfl (AT rfl (AT rfl (AA (BK (vO true) rfl rfl (AF (AC (?_))))))))))))))))))))))))))))))))))))))))))))))))))))))))))
  refine AO true rfl rfl (fun _=>?_) (fun h=>by cases h)
  refine AG (?_)
  refine AB kR (AA (AD (vI 450) rfl (AF (AC (?_)))))
  refine AP (AR (AZ rfl (CS rfl rfl rfl) (?_)))
  have e:(AS c)=(450:Int):=by (unfold AS;((repeat ((refine (if_pos ?_).trans ?_;solve|(simp only [DJ,ES,dbs];(repeat (omega))))));rfl))
  exact ⟨_,rfl,s2857.keep,by rw [e];exact rfl⟩
end Go.Proofs.Ytjgfokolnkhafaa
